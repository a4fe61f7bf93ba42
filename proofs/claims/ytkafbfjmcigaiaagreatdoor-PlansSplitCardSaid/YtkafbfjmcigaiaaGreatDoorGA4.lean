/- Texts of the proof, joined. -/
import Derived.Test.YtkafbfjmcigaiaaGreatDoorRows
import Derived.Maps.RangeRun
import Derived.Test.YtkafbfjmcigaiaaGreatDoorGA3
set_option linter.unusedVariables false
set_option linter.unusedSimpArgs false
set_option maxHeartbeats 4000000
namespace Go.G08
open Go.Lw Go.G21
def btL (fr to:Int):Int:=if fr<to then fr else to
def btH (fr to:Int):Int:=if fr<to then to else fr
def btD (fr to:Int):Int:=if fr<to then 1 else 0
def btA (l:List Hd)(fr to:Int)(k:Nat):List Pa:=((l.take k).filter λh=>decide (btL fr to<h.s/\h.s<btH fr to)).map λh=>⟨h.id,decide (h.b=1),btD fr to⟩
theorem k6j {l:List Hd}{fr D:Int}{k:Nat}(I:k<l.length)(h:btL fr D<(l.getD k hd0).s/\(l.getD k hd0).s<btH fr D):btA l fr D (k+1)=btA l fr D k++[⟨(l.getD k hd0).id,decide ((l.getD k hd0).b=1),btD fr D⟩]:=by
 unfold btA;rw[z5f hd0 I,List.filter_append,l30,l59,if_pos (decide_eq_true h)];rfl
theorem k7s {l:List Hd}{fr D:Int}{k:Nat}(I:k<l.length)(h:¬(btL fr D<(l.getD k hd0).s/\(l.getD k hd0).s<btH fr D)):btA l fr D (k+1)=btA l fr D k:=by
 unfold btA;rw[z5f hd0 I,List.filter_append,l59,if_neg (by simpa using h)];simp
theorem x8q (l:List Hd)(fr D:Int)(k:Nat):(btA l fr D k).length<=l.length:=by
 unfold btA;rw[l15];refine l44 (List.length_filter_le _ _) ?_;rw[l27];omega
theorem k4k {l:List Hd}{fr D:Int}(h:¬btD fr D=0):btw l fr D=btA l fr D l.length:=by
 unfold btD at h;by_cases c:fr<D;unfold btw btA btL btH btD;rw[l38];simp only[if_pos c];rw[if_neg c]at h;exact absurd U h
theorem k3e {l:List Hd}{fr D:Int}(h:btD fr D=0):btw l fr D=(btA l fr D l.length).reverse:=by
 unfold btD at h;by_cases c:fr<D;rw[if_pos c]at h;exact absurd h dd;unfold btw btA btL btH btD;rw[l38];simp only[if_neg c]
theorem u0u (l:List Hd)(fr D:Int):(btw l fr D).length<=l.length:=by
 by_cases h:btD fr D=0;rw[k3e h,l122];exact x8q l fr D _;rw[k4k h];exact x8q l fr D _
end Go.G08
namespace Go.Proofs.YtkafbfjmcigaiaaGreatDoor
open Go.Lw Go.G21 Go.G08 _root_.Go.Proofs.Tryz
theorem k2q:BuildAt prog 172 [(0,2),(2,1),(3,1)] [(.int .u8 0),(.int .i64 0),(.bool false),(.int .u8 0)]:=BuildAt.struct underlying172 (λ_=>kr)<|λ_=>kr
theorem x6x:z1d prog 143 0 0:=λ_ _=>kr
theorem j6d:z1d prog 143 1 2:=λ_ _=>kr
theorem j1v (v:Value)(l:List Hd)(fr D:Int)(w0:World)(hs:Sl z4i w0 v l)(hl:l.length<=1000):Rets prog 145 #[v,.int .i64 fr,.int .i64 D] w0 λr w'=>(∃g,r=.slice (saa g) (btw l fr D).length (btw l fr D).length/\w0.heap.size<=g/\Lw.Own z2i 172 w0.heap.size w' r (btw l fr D))/\Fr [] w0 w':=by
 obtain⟨A,c,rfl,b6,hM,hA⟩:=id hs;clear hA;unfold maxLen at hM;refine we [(0,.slice A l.length c),(1,.int .i64 fr),(2,.int .i64 D)] func145 U ntmps145 U (.c3 U U U) ?_;have a7:=hs;refine sr<|asg U<|nn<|sr<|mv U U<|mv U U<|asg U<|asg U<|asg U<|nn<|jn (ι:=Unit) (ll1 0) (λ_j=>[(7,.int .i64<|btL fr D),(8,.int .i64<|btH fr D),(9,.int .u8<|btD fr D)]) (λ_j w'=>Fr [] w0 w') (csu U) ?_ ?_;refine sr<|mv U U<|mv U U<|gt' U<|nn<|cd U (λZ=>?_)<|λZ=>?_;exact rg<|mv U U<|mv U U<|asg U<|asg U<|asg U<|nl<|jE (()) (.c4 U (by first|(rw[show btL fr D=_ from if_pos Z];rfl)|(rw[show btL fr D=_ from if_neg Z];rfl)) (by first|(rw[show btH fr D=_ from if_pos Z];rfl)|(rw[show btH fr D=_ from if_neg Z];rfl)) (by first|(rw[show btD fr D=_ from if_pos Z];rfl)|(rw[show btD fr D=_ from if_neg Z];rfl)))<|l12 _ _;exact sk<|jE (()) (.c4 U (by first|(rw[show btL fr D=_ from if_pos Z];rfl)|(rw[show btL fr D=_ from if_neg Z];rfl)) (by first|(rw[show btH fr D=_ from if_pos Z];rfl)|(rw[show btH fr D=_ from if_neg Z];rfl)) (by first|(rw[show btD fr D=_ from if_pos Z];rfl)|(rw[show btD fr D=_ from if_neg Z];rfl)))<|l12 _ _;rintro _j w1 q1;have z1:=q1.size;refine kpC (ll4 0 7 8 9) (csu U)<|sr<|asg U<|nn<|sq<|sr<|mv U U<|lnS U underlying139<|mv U U<|nn<|bl<|lpK (ι:=Nat×Value) (ll5 7 8 9 20 21) (λp=>[(22,.int .i64 (p.1:Int)),(10,p.2)]) (λp w'=>Fr [] w0 w'/\p.1<=l.length/\Lw.Own z2i 172 w0.heap.size w' p.2 (btA l fr D p.1)) (λp=>l.length-p.1) (0,_) (csu U) ⟨q1,⟨l17 _,Own.nil _⟩⟩ ?_;rintro⟨k,vP⟩ w2 ⟨q2,⟨hk,O⟩⟩;simp only at hk O;have z2:=q2.size;refine kpC [(7,_),(8,_),(9,_),(20,_),(21,_),(22,.int .i64 (k:Int)),(10,vP)] (csu U) ?_;have b4:=x8q l fr D k;refine sr<|lt' U<|nn<|sq<|cd U (λc1=>?_)<|λc1=>?_;refine sk<|tn<|sq<|bl<|sr ?_;have hs:=a7.ext q2;refine z0z (hd0) U hs U z3t z1j<|λa8 a1=>?_;refine z1q U (a1 _ hs) z5t<|al u1e U<|λb2 w3 a9 I q3 z3=>?_;refine z0j (vs:=[_,_,_,_,_]) U I z8s (λw4 I q4 z4=>?_) (h1:=(by first|(simp[Value.oneCell',S];done)|exact z4i.one _));refine nn<|sq<|rbo (r:=35) (L':=ll8 7 8 9 10 12 20 21 22) ((((btL fr D)<(l.getD k hd0).s)/\((l.getD k hd0).s<(btH fr D)))) (csu U) ?_ ?_;refine fad U x2a<|z0i U I U na3<|mv U U<|gt' U<|mv U U<|gs 30 U (λg0=>?_)<|λg0=>?_;exact gY U<|fad U x2a<|gY U<|z0i U I U na3<|gY U<|mv U U<|gY U<|lt' U<|pkt U<|rbe U<|csu U;exact gN U<|gN U<|gN U<|gN U<|pkf U<|rbe U<|csu U;refine tn<|cd U (λc2=>?_)<|λc2=>?_;refine rg<|mv U U<|fad U x6x<|z1w (vs:=[_,_]) U I z3b U<|fad U j6d<|y7i U z6s U<|z0i U I U x7o<|eq' U<|mv U U<|z1t (cs:=[_,_,_,_]) (ev3 U) k2q (z0g U<|z0g U<|z0g U z0r) U ?_;refine z1i ([(⟨(l.getD k hd0).id,decide ((l.getD k hd0).b=1),btD fr D⟩:Pa)]) (ev1 U) U z4y<|λb3 w5 b0 a2 q5 z5=>?_;have O:=((O.ext q3).fr q4 (by first|exact z9m O oo|simp[z0v]<;>omega)).ext q5;have a0:=O;refine z2h U O a2.sl z4y<|λb7 w6 O q6 a6=>?_;have z6:=q6.size;exact asg U<|kpL (ll7 7 8 9 10 20 21 22) (csu U)<|nl<|bn'<|tn<|rg<|z0w U (wi6 oo)<|mv U U<|nl<|lpE ((k+1,_)) (csu U) ⟨((q2.z3 q3 q4 q5).step q6<|λk hk a4=>absurd (a0.blk k hk).1 oo),⟨sm,by rw[k6j oo c2];exact O⟩⟩ sm;refine sk<|bn'<|tn<|rg<|z0w U (wi6 oo)<|mv U U<|nl ?_;have O:=(O.ext q3).fr q4 (by first|exact z9m O oo|simp[z0v]<;>omega);exact lpE ((k+1,_)) (csu U) ⟨(q2.z2 q3 q4),⟨sm,by rw[k7s oo c2];exact O⟩⟩ sm;obtain rfl:k=l.length:=by omega
 have b5:=u0u l fr D;refine ex<|te<|te<|xh<|tn<|jn (ι:=Unit) (ll1 10) (λ_j=>[]) (λ_j w'=>Fr [] w0 w'/\Lw.Own z2i 172 w0.heap.size w' vP (btw l fr D)) (csu U) ?_ ?_;refine sr<|mv U U<|eq' U<|kpL (ll2 10 49) (csu U)<|nn<|cd U (λc3=>?_)<|λc3=>?_;refine rg<|mv U U ?_;have a5:=O;refine cl (ev1 U) (mkC func188) (x4k w0.heap.size _ _ _ O oo) U ?_;rintro _ w7 ⟨O,q7⟩;have z7:=q7.size;exact nl<|jE (()) (csu U) ⟨(q2.step q7<|λk hk a4=>absurd (a5.blk k hk).1 oo),(by rw[k3e c3];exact O)⟩;exact sk<|jE (()) (csu U) ⟨q2,(by rw[k4k c3];exact O)⟩;rintro _j w8 ⟨q8,O⟩;have z8:=q8.size;refine kpC (ll1 10) (csu U)<|sr<|mv U U<|cl (ev1 U) (mkC func189) (y6z _ (btw l fr D) _ O.sl oo) U ?_;rintro _ w9 ⟨a3,rfl,b1,hX,q9⟩;have z9:=q9.size;exact asg U<|nn<|rt<|r1 results145 U ⟨_,rfl,⟨a3,rfl,oo,hX.low oo⟩,(q8.n1 q9)⟩
end Go.Proofs.YtkafbfjmcigaiaaGreatDoor
namespace Go.G08
open Go.Lw Go.G21
theorem Own.neO {α β:Type}{E:Enc α}{O:Enc β}{T T' b b':Nat}{w:World}{v I:Value}{ys:List α}{zs:List β}(h:Lw.Own E T b w v ys)(Z:Lw.Own O T' b' w I zs)(hT:T≠T'):∀k∈z0v v,k∉z0v I:=by
 intro k D;rcases h with ⟨rfl,rfl⟩|⟨g,cap,cur,rfl,_,hg,_⟩
 cases D;obtain rfl:k=g:=by simpa[z0v] using D
 exact Z.neB hg<|l51 hT
theorem u2x (B:Bd)(r d:Int)(i:Nat):x6n B r d (i+1)=x6n B r d i++u3j B r d i:=by unfold x6n;rw[l70,l42];simp
theorem y8m (B:Bd)(r d p:Int)(i:Nat):y4r B r d p (i+1)=y4r B r d p i++x2i B r d p i:=by unfold y4r;rw[l70,l42];simp
theorem u2l {α β:Type}(f:α->List β){l:List α}{j:Nat}(d:α)(h:j<l.length):(l.take<|j+1).flatMap f=(l.take j).flatMap f++f (l.getD j d):=by
 rw[z5f d h,l42];simp
theorem v6q {B:Bd}(h:BdOk B)(k:Nat):(B.b.getD k []).length<=4:=by
 have:=y7a h 1<|(k:Int)+1;unfold Bd.at atB at this;rwa [if_neg dd,show ((k:Int)+1-1).toNat=k by omega]at this
theorem x8m {B:Bd}(h:BdOk B)(b n:Int):(B.atC b n).length<=4:=by
 unfold Bd.atC;split;exact y7a h b n;simp
theorem flat_len {α β:Type}(f:α->List β)(m:Nat)(hf:∀x,(f x).length<=m):∀l:List α,(l.flatMap f).length<=m*l.length
 | []=>by simp
 | x::l=>by have:=flat_len f m hf l;have:=hf x;rw[l36,l13,l33];rw[Nat.mul_succ];omega
theorem u6g {B:Bd}(h:BdOk B)(r d:Int)(k:Nat):(u3j B r d k).length<=16:=by
 unfold u3j;have D:=flat_len (λx=>(B.atC 0<|y1c r d k).reverse.map<|x7b d x) 4 (λx=>by rw[l15,l122];exact x8m h _ _)<|B.b.getD k [];have:=v6q h k;omega
theorem v1m {B:Bd}(h:BdOk B)(r d:Int)(i:Nat):(x6n B r d i).length<=16*i:=by
 have:=flat_len (u3j B r d) 16 (u6g h r d)<|List.range i;rw[l135]at this;exact this
theorem v7p {B:Bd}(h:BdOk B)(r d p:Int)(k:Nat):(x2i B r d p k).length<=4:=by
 unfold x2i;split;simp;rw[l15];exact v6q h k
theorem x5s {B:Bd}(h:BdOk B)(r d p:Int)(i:Nat):(y4r B r d p i).length<=4*i:=by
 have:=flat_len (x2i B r d p) 4 (v7p h r d p)<|List.range i;rw[l135]at this;exact this
theorem x4s {B:Bd}(h:BdOk B)(r d p:Int):(z7g B r d p).length<=4*B.b.length:=by
 have:=x5s h r d p B.b.length;unfold z7g;split;rw[l122];exact this;exact this
theorem y6v {B:Bd}(h:BdOk B)(r d:Int):(z2n B r d).length<=16*B.b.length:=by
 have:=v1m h r d B.b.length;unfold z2n;split;rw[l122];exact this;exact this
end Go.G08
namespace Go.Proofs.YtkafbfjmcigaiaaGreatDoor
open Go.Lw Go.G21 Go.G08 _root_.Go.Proofs.Tryz
theorem u5l (q:BdQ)(r d pl:Int)(w0:World)(Z:BdAt w0 q)(hv:BdOk q.p)(hT:StT w0)(hr:-4<=r/\r<=4)(hd:d=0\/d=1)(d7:-4<=r+stI d/\r+stI d<=4)(hp:¬Int.tmod pl 2=0)(d5:-9223372036854775808<=pl/\pl<=9223372036854775807):Rets prog 142 #[bvv q,.int .i64 r,.int .u8 d,.int .i64 pl] w0 λv w'=>(∃g,v=.tuple #[.slice (saa g) (z7g q.p r d pl).length (z7g q.p r d pl).length,.int .i64 0]/\w0.heap.size<=g/\Lw.Own z2i 172 w0.heap.size w' (.slice (saa g) (z7g q.p r d pl).length (z7g q.p r d pl).length) (z7g q.p r d pl))/\Fr [] w0 w':=by
 obtain⟨⟨hf,hb⟩,h4,b1⟩:=z3o hv;have b3:=x4s hv r d pl;rw[l15]at b3;refine we [(0,bvv q),(1,.int .i64 r),(2,.int .u8 d),(3,.int .i64 pl)] func142 U ntmps142 U (.c4 U U U U) ?_;have I:=Z;have a2:=hT;refine sr<|bx U<|λg4 w1 d4 a0 q1 z1=>(asg U<|asg U<|nn<|sq<|sr<|z0l U a0 z5e<|mv U U<|mv U U ?_);have Z:=I.ext q1;have hT:=a2.ext q1;refine cl (ev3 U) (mkC func173) (x4b q _ _ _ Z hv hT oo hd oo) U ?_;rintro _ w2 ⟨rfl,q2⟩;have z2:=q2.size;refine asg U<|nn<|sr<|mv U U<|ne' U<|nn<|cd U (λc0=>?_)<|λc0=>?_;exact absurd U c0;refine sk<|tn<|sq<|sr<|mv U U<|y8b U U t38<|eq' U<|nn<|cd U (λc1=>?_)<|λc1=>?_;exact absurd c1 hp;refine sk<|tn<|sr<|asg U<|nn<|jn (ι:=Unit) (ll4 1 2 3 4) (λ_j=>[(11,.int .u8<|1-d)]) (λ_j w'=>Fr [] w2 w') (csu U) ?_ ?_;refine sr<|mv U U<|eq' U<|nn<|cd U (λc2=>?_)<|λc2=>?_;refine rg<|asg U<|nl ?_;exact jE (()) (.c5 U U U U<|congrArg (λz=>some<|Value.int .u8 z) oo)<|l12 _ _;refine sk ?_;exact jE (()) (.c5 U U U U<|congrArg (λz=>some<|Value.int .u8 z) oo)<|l12 _ _;rintro _j w3 q3;have z3:=q3.size;refine kpC (ll5 1 2 3 4 11) (csu U)<|sr<|asg U<|nn<|sq<|sr<|fad U y4h ?_;have a0:=a0.ext<|q2.n1 q3;refine z0i U a0 U v1h<|lnS U underlying25<|mv U U<|nn<|bl<|lpK (ι:=Nat×Value) (ll6 1 2 3 11 31 32) (λp=>[(33,.int .i64 (p.1:Int)),(12,p.2)]) (λp w'=>Fr [] w0 w'/\p.1<=q.bs.length/\Lw.Own z2i 172 w0.heap.size w' p.2 (y4r q.p r d pl p.1)) (λp=>q.bs.length-p.1) (0,_) (csu U) ⟨(q1.n2 q2 q3),⟨l17 _,Own.nil _⟩⟩ ?_;rintro⟨i,uI⟩ w4 ⟨q4,⟨hi,D⟩⟩;simp only at hi D;have z4:=q4.size;refine kpC [(1,_),(2,_),(3,_),(11,_),(31,_),(32,_),(33,.int .i64 (i:Int)),(12,uI)] (csu U) ?_;have d6:=z2e I.b;have d3:=x5s hv r d pl i;have d9:=z3y b1 i;have e0:=z2e<|z2b I.bi i;have e1:-300<=z2c 1 ((i:Int)+1) r/\z2c 1 ((i:Int)+1) r<=300:=by
  unfold z2c;split;omega;split<;>omega
 have e2:stI d = -1\/stI d=1:=by unfold stI;split<;>simp
 refine sr<|lt' U<|nn<|sq<|cd U (λc3=>?_)<|λc3=>?_;refine sk<|tn<|sq<|bl<|sr<|mv U U ?_;have Z:=I.ext q4;refine z0z (iq0) U Z.b U y6c z1j<|λb6 a3=>?_;refine z1b U (a3 _ Z.b) z6q<|asg U<|asg U<|nn<|sr<|mv U U<|z0w U (wi6 oo)<|z1t (cs:=[_,_]) (ev2 U) y7r (z0g U<|z0g U z0r) U ?_;refine mv U U<|cl (ev2 U) v3o (y3q _ _ _ _ oo) U ?_;rintro _ w5 ⟨rfl,q5⟩;have z5:=q5.size;refine asg U<|kpL (ll10 1 2 3 11 12 14 15 31 32 33) (csu U)<|nn<|sq<|sq<|rbo (r:=59) (L':=ll9 1 2 3 11 12 14 31 32 33) (((pl≠((z2c 1 ((i:Int)+1) r)+(stI d)))/\(pl≠((z2c 1 ((i:Int)+1) r)+(3*(stI d)))))) (csu U) ?_ ?_;refine mv U U<|mv U U<|mv U U<|z9x U U underlying267 sz3 ?_;have hT:=a2.ext<|q4.n1 q5;refine y1m U hT.c (y5u hd) na3 U<|z0w U (wi6 oo)<|ne' U<|mv U U<|gs 50 U (λg0=>?_)<|λg0=>?_;exact gY U<|mv U U<|gY U<|mv U U<|gY U<|mv U U<|gY U<|z9x U U underlying267 sz3<|gY U<|y1m U hT.c (y5u hd) na3 U<|gY U<|x0b U U (wi6 oo)<|gY U<|z0w U (wi6 oo)<|gY U<|ne' U<|pkt U<|rbe U<|csu U;exact gN U<|gN U<|gN U<|gN U<|gN U<|gN U<|gN U<|gN U<|pkf U<|rbe U<|csu U;refine tn<|cd U (λc4=>?_)<|λc4=>?_;refine ex<|te<|xh<|tn<|rg<|z0w U (wi6 oo)<|mv U U<|nl ?_;have D:=D.ext q5;exact lpE ((i+1,_)) (csu U) ⟨(q4.n1 q5),⟨sm,by rw[y8m,show x2i q.p r d pl i=[] from if_pos c4,l26];exact D⟩⟩ sm;refine sk<|tn<|sr<|mv U U<|lnS U underlying32<|mv U U<|nn<|bl ?_;have D:=D.ext q5;refine lpK (ι:=Nat×Value) (ll9 1 2 3 11 31 32 33 60 61) (λp=>[(62,.int .i64 (p.1:Int)),(12,p.2)]) (λp w'=>Fr [] w0 w'/\p.1<=(q.bs.getD i iq0).2.length/\Lw.Own z2i 172 w0.heap.size w' p.2 ((y4r q.p r d pl i)++((q.bs.getD i iq0).2.take p.1).map (λx=>(⟨x,true,1-d⟩:Pa)))) (λp=>(q.bs.getD i iq0).2.length-p.1) (0,uI) (csu U) ⟨(q4.n1 q5),⟨l17 _,by simpa using D⟩⟩ ?_;rintro⟨j,uJ⟩ w6 ⟨q6,⟨hj,D⟩⟩;simp only at hj D;have z6:=q6.size;refine kpC [(1,_),(2,_),(3,_),(11,_),(31,_),(32,_),(33,_),(60,_),(61,_),(62,.int .i64 (j:Int)),(12,uJ)] (csu U)<|sr<|lt' U<|nn<|sq<|cd U (λc5=>?_)<|λc5=>?_;refine sk<|tn<|sq<|bl<|sr ?_;have Z:=I.ext q6;refine z0z (id0) U (z2b Z.bi i) U z4l z1j<|λb7 a4=>?_;refine z1q U (a4 _<|z2b Z.bi i) z3b<|al z8v U<|λd0 w7 b8 O q7 z7=>?_;refine z0j (vs:=[_,_]) U O y0i (λw8 O q8 z8=>?_) (h1:=t26);refine nn<|rg<|mv U U<|z0l U O z3b<|mv U U<|z1t (cs:=[_,_,_,_]) (ev3 U) k2q (z0g U<|z0g U<|z0g U z0r) U ?_;refine z1i ([(⟨((q.bs.getD i iq0).2.getD j id0),true,1-d⟩:Pa)]) (ev1 U) U z4y<|λd1 w9 b9 a5 q9 z9=>?_;have D:=((D.ext q7).fr q8 (by first|exact z9m D oo|simp[z0v]<;>omega)).ext q9;have a1:=D;refine z2h U D a5.sl z4y (λe3 e4 D a6 b5=>?_) (hM:=t60) (hb:=t61);have e8:=a6.size;exact asg U<|kpL (ll11 1 2 3 11 12 31 32 33 60 61 62) (csu U)<|nl<|bn'<|tn<|rg<|z0w U (wi6 oo)<|mv U U<|nl<|lpE ((j+1,_)) (csu U) ⟨((q6.z3 q7 q8 q9).step a6<|λk hk b2=>absurd (a1.blk k hk).1 oo),⟨sm,by rw[y5k (λx=>(⟨x,true,1-d⟩:Pa)) id0 oo,<-l14];exact D⟩⟩ sm;obtain rfl:j=(q.bs.getD i iq0).2.length:=by omega
 rw[l38]at D;exact ex<|te<|te<|xh<|bn'<|tn<|rg<|z0w U (wi6 oo)<|mv U U<|nl<|lpE ((i+1,_)) (csu U) ⟨q6,⟨sm,by rw[y8m,show x2i q.p r d pl i=_ from if_neg c4,z3w];exact D⟩⟩ sm;obtain rfl:i=q.bs.length:=by omega
 refine ex<|te<|te<|xh<|tn<|jn (ι:=Unit) (ll1 12) (λ_j=>[]) (λ_j w'=>Fr [] w0 w'/\Lw.Own z2i 172 w0.heap.size w' uI (z7g q.p r d pl)) (csu U) ?_ ?_;refine sr<|mv U U<|eq' U<|kpL (ll2 12 75) (csu U)<|nn<|cd U (λc6=>?_)<|λc6=>?_;refine rg<|mv U U ?_;have b4:=D;refine cl (ev1 U) (mkC func188) (x4k w0.heap.size _ _ _ D oo) U ?_;rintro _ e5 ⟨D,a7⟩;have e9:=a7.size;exact nl<|jE (()) (csu U) ⟨(q4.step a7<|λk hk b2=>absurd (b4.blk k hk).1 oo),(by rw[show z7g q.p r d pl=_ from if_pos oo,l15];exact D)⟩;exact sk<|jE (()) (csu U) ⟨q4,(by rw[show z7g q.p r d pl=_ from if_neg oo,l15];exact D)⟩;rintro _j e6 ⟨a8,D⟩;have f0:=a8.size;refine kpC (ll1 12) (csu U)<|sr<|mv U U<|cl (ev1 U) (mkC func189) (y6z _ (z7g q.p r d pl) _ D.sl oo) U ?_;rintro _ e7 ⟨b0,rfl,c9,hX,a9⟩;have f1:=a9.size;exact asg U<|asg U<|nn<|rt<|r2 results142 U U ⟨_,rfl,⟨b0,rfl,oo,hX.low oo⟩,(a8.n1 a9)⟩
theorem k1m:BuildAt prog 149 [(0,2),(2,2),(4,1)] [(.int .u8 0),(.int .i64 0),(.int .u8 0),(.int .i64 0),(.int .i64 0)]:=BuildAt.struct underlying149 (λ_=>kr)<|λ_=>kr
theorem u2o (q:BdQ)(r d:Int)(w0:World)(hB:BdAt w0 q)(hv:BdOk q.p)(hT:StT w0)(hr:-4<=r/\r<=4)(hd:d=0\/d=1)(g1:-4<=r+stI d/\r+stI d<=4):Rets prog 129 #[bvv q,.int .i64 r,.int .u8 d] w0 λv w'=>(∃g,v=.tuple #[.slice (saa g) (z2n q.p r d).length (z2n q.p r d).length,.int .i64 0]/\w0.heap.size<=g/\Lw.Own z5z 149 w0.heap.size w' (.slice (saa g) (z2n q.p r d).length (z2n q.p r d).length) (z2n q.p r d))/\Fr [] w0 w':=by
 obtain⟨⟨hf,hb⟩,h4,b5⟩:=z3o hv;have g0:=z2e hB.b;have e2:=y6v hv r d;rw[l15]at e2;refine we [(0,bvv q),(1,.int .i64 r),(2,.int .u8 d)] func129 U ntmps129 U (.c3 U U U) ?_;have a5:=hB;have d9:=hT;refine sr<|bx U<|λg3 w1 f9 a1 q1 z1=>(asg U<|asg U<|nn<|sq<|sr<|z0l U a1 z5e<|mv U U<|mv U U ?_);have hB:=a5.ext q1;have hT:=d9.ext q1;refine cl (ev3 U) (mkC func173) (x4b q _ _ _ hB hv hT oo hd oo) U ?_;rintro _ w2 ⟨rfl,q2⟩;have z2:=q2.size;have a1:=a1.ext q2;have b6:=a1;refine asg U<|nn<|sr<|mv U U<|ne' U<|nn<|cd U (λc0=>?_)<|λc0=>?_;exact absurd U c0;refine sk<|tn<|sr<|asg U<|nn<|sq<|sr<|fad U y4h<|z0i U a1 U v1h<|lnS U underlying25<|mv U U<|nn<|bl<|lpK (ι:=Nat×Value) (ll5 1 2 3 26 27) (λp=>[(28,.int .i64 (p.1:Int)),(9,p.2)]) (λp w'=>Fr [] w2 w'/\p.1<=q.bs.length/\Lw.Own z5z 149 w2.heap.size w' p.2 (x6n q.p r d p.1)) (λp=>q.bs.length-p.1) (0,_) (csu U) ⟨(l12 _ _),⟨l17 _,Own.nil _⟩⟩ ?_;rintro⟨i,uI⟩ w3 ⟨q3,⟨hi,I⟩⟩;simp only at hi I;have z3:=q3.size;refine kpC [(1,_),(2,_),(3,_),(26,_),(27,_),(28,.int .i64 (i:Int)),(9,uI)] (csu U) ?_;have f7:=v1m hv r d i;have g4:=z3y b5 i;have g5:=z2e<|z2b a5.bi i;have f8:-10<=y1c r d i/\y1c r d i<=50:=by unfold y1c;split<;>omega
 have e0:((q.p.atC 0<|y1c r d i).reverse).length<=4:=by rw[l122];exact x8m hv _ _
 refine sr<|lt' U<|nn<|sq<|cd U (λc1=>?_)<|λc1=>?_;refine sk<|tn<|sq<|bl<|sr<|mv U U ?_;have hB:=a5.ext<|q1.n2 q2 q3;refine z0z (iq0) U hB.b U y6c z1j<|λe5 b7=>?_;refine z1b U (b7 _ hB.b) z6q<|asg U<|asg U<|nn<|sr<|mv U U<|z0w U (wi6 oo)<|mv U U<|z0w U (wi6 oo)<|asg U<|nn<|jn (ι:=Unit) (ll8 1 2 3 9 11 26 27 28) (λ_j=>[(12,.int .i64<|y1c r d i)]) (λ_j w'=>Fr [] w2 w'/\Lw.Own z5z 149 w2.heap.size w' uI (x6n q.p r d i)) (csu U) ?_ ?_;refine sr<|mv U U<|eq' U<|nn<|cd U (λc2=>?_)<|λc2=>?_;exact rg<|mv U U<|z2f U (wi6 oo)<|asg U<|nl<|jE (()) (.d8 U U U U U U U U<|.cons (by first|(rw[show y1c r d i=_ from if_pos c2];rfl)|(rw[show y1c r d i=_ from if_neg c2];rfl)) .nil) ⟨q3,I⟩;exact sk<|jE (()) (.d8 U U U U U U U U<|.cons (by first|(rw[show y1c r d i=_ from if_pos c2];rfl)|(rw[show y1c r d i=_ from if_neg c2];rfl)) .nil) ⟨q3,I⟩;rintro _j w4 ⟨q4,I⟩;have z4:=q4.size;refine kpC (ll9 1 2 3 9 11 26 27 28 12) (csu U)<|sr ?_;have a1:=b6.ext q4;refine z0l U a1 z5e<|mv U U<|z1t (cs:=[_,_]) (ev2 U) y7r (z0g U<|z0g U z0r) U ?_;have hB:=a5.ext<|q1.n2 q2 q4;refine cl (ev2 U) u1w (y7f q 0 (y1c r d i) _ hB oo hf hb h4 b5) U ?_;rintro g6 w5 ⟨O,q5⟩;have O:=O.low (show w2.heap.size<=_ by omega);have z5:=q5.size;refine asg U<|nn<|sr<|mv U U ?_;have a6:=O;have I:=I.ext q5;refine cl (ev1 U) (mkC func174) (v5x w2.heap.size _ _ _ O (by have:=x8m hv 0<|y1c r d i;omega)) U ?_;rintro _ w6 ⟨O,q6⟩;have I:=I.fr q6<|Own.neO a6 I dd;have z6:=q6.size;obtain⟨b3,b4,rfl,e8⟩:=O.sl.form;refine nn<|sr<|mv U U<|lnS U underlying32<|mv U U<|nn<|bl<|lpK (ι:=Nat×Value) (ll9 1 2 3 13 26 27 28 47 48) (λp=>[(49,.int .i64 (p.1:Int)),(9,p.2)]) (λp w'=>Fr [] w2 w'/\p.1<=(q.bs.getD i iq0).2.length/\Lw.Own z5z 149 w2.heap.size w' p.2 ((x6n q.p r d i)++((q.bs.getD i iq0).2.take p.1).flatMap (λx=>((q.p.atC 0<|y1c r d i).reverse).map<|x7b d x))/\Lw.Own z1g 54 w2.heap.size w' (.slice b3 ((q.p.atC 0<|y1c r d i).reverse).length b4) ((q.p.atC 0<|y1c r d i).reverse)) (λp=>(q.bs.getD i iq0).2.length-p.1) (0,_) (csu U) ⟨((q4.n1 q5).step q6<|λk hk b2=>absurd (a6.blk k hk).1 oo),⟨l17 _,by simpa using I,O⟩⟩ ?_;rintro⟨j,uJ⟩ w7 ⟨q7,⟨hj,I,O⟩⟩;simp only at hj I;have z7:=q7.size;refine kpC [(1,_),(2,_),(3,_),(13,_),(26,_),(27,_),(28,_),(47,_),(48,_),(49,.int .i64 (j:Int)),(9,uJ)] (csu U) ?_;have e1:=flat_len (λx=>((q.p.atC 0<|y1c r d i).reverse).map<|x7b d x) 4 (λx=>by rw[l15];exact e0)<|(q.bs.getD i iq0).2.take j;rw[l27]at e1;refine sr<|lt' U<|nn<|sq<|cd U (λc3=>?_)<|λc3=>?_;refine sk<|tn<|sq<|bl<|sr ?_;have hB:=a5.ext<|q1.n2 q2 q7;refine z0z (id0) U (z2b hB.bi i) U z4l z1j<|λe6 b8=>?_;refine z1q U (b8 _<|z2b hB.bi i) z3b<|al z8v U<|λd6 w8 e9 D q8 z8=>?_;refine z0j (vs:=[_,_]) U D y0i (λw9 D q9 z9=>?_) (h1:=t26);refine nn<|sr<|mv U U<|lnS U underlying32<|mv U U<|nn<|bl ?_;have I:=(I.ext q8).fr q9 (by first|exact z9m I oo|simp[z0v]<;>omega);have O:=(O.ext q8).fr q9 (by first|exact z9m O oo|simp[z0v]<;>omega);refine lpK (ι:=Nat×Value) [(1,_),(2,_),(3,_),(13,_),(15,_),(26,_),(27,_),(28,_),(47,_),(48,_),(49,_),(53,_),(54,_)] (λp=>[(55,.int .i64 (p.1:Int)),(9,p.2)]) (λp w'=>Fr [] w2 w'/\p.1<=((q.p.atC 0<|y1c r d i).reverse).length/\Lw.Own z5z 149 w2.heap.size w' p.2 (((x6n q.p r d i)++((q.bs.getD i iq0).2.take j).flatMap (λx=>((q.p.atC 0<|y1c r d i).reverse).map<|x7b d x))++(((q.p.atC 0<|y1c r d i).reverse).take p.1).map (x7b d<|(q.bs.getD i iq0).2.getD j id0))/\Lw.Own z1g 54 w2.heap.size w' (.slice b3 ((q.p.atC 0<|y1c r d i).reverse).length b4) ((q.p.atC 0<|y1c r d i).reverse)/\Blk w' d6 54 (z1g.enc<|(q.bs.getD i iq0).2.getD j id0)) (λp=>((q.p.atC 0<|y1c r d i).reverse).length-p.1) (0,_) (csu U) ⟨(q7.z2 q8 q9),⟨l17 _,by simpa using I,O,D⟩⟩ ?_;rintro⟨k,uK⟩ g9 ⟨a7,⟨hk,I,O,D⟩⟩;simp only at hk I;have i1:=a7.size;have d1:=D.lt;refine kpC [(1,_),(2,_),(3,_),(13,_),(15,_),(26,_),(27,_),(28,_),(47,_),(48,_),(49,_),(53,_),(54,_),(55,.int .i64 (k:Int)),(9,uK)] (csu U)<|sr<|lt' U<|nn<|sq<|cd U (λc4=>?_)<|λc4=>?_;refine sk<|tn<|sq<|bl<|sr<|z0z (id0) U O.sl U z4l z1j<|λe7 b9=>?_;refine z1q U (b9 _ O.sl) z3b<|al z8v U<|λf4 h0 f0 a4 Z i2=>?_;refine z0j (vs:=[_,_]) U a4 y0i (λh2 a4 a0 i3=>?_) (h1:=t26);refine nn<|sr<|mv U U<|eq' U<|nn<|cd U (λc5=>?_)<|λc5=>?_;refine rg<|mv U U<|z0l U a4 z3b ?_;have D:=(D.ext Z).fr a0;refine z0l U D z3b<|z1t (cs:=[_,_,_,_,_]) (ev3 U) k1m (z0g U<|z0g U<|z0g U z0r) U ?_;refine z1i ([(⟨(((q.p.atC 0<|y1c r d i).reverse).getD k id0),((q.bs.getD i iq0).2.getD j id0),1⟩:Cx)]) (ev1 U) U y2b<|λf5 h3 f1 c9 a8 i4=>?_;have O:=((O.ext Z).fr a0 (by first|exact z9m O oo|simp[z0v]<;>omega)).ext a8;have D:=D.ext a8;have I:=((I.ext Z).fr a0 (by first|exact z9m I oo|simp[z0v]<;>omega)).ext a8;have a2:=I;refine z2h U I c9.sl y2b (λg7 h5 I a9 e3=>?_) (hM:=t60) (hb:=t61);have i5:=a9.size;have O:=O.fr a9 ((Own.neO a2 O dd));have D:=D.fr a9<|λhk=>a2.neB D dd hk;exact asg U<|kpL [(1,_),(2,_),(3,_),(9,_),(13,_),(15,_),(26,_),(27,_),(28,_),(47,_),(48,_),(49,_),(53,_),(54,_),(55,_)] (csu U)<|nl<|bn'<|tn<|rg<|z0w U (wi6 oo)<|mv U U<|nl<|lpE ((k+1,_)) (csu U) ⟨((a7.z3 Z a0 a8).step a9<|λk hk b2=>absurd (a2.blk k hk).1 oo),⟨sm,by rw[y5k (x7b d<|(q.bs.getD i iq0).2.getD j id0) id0 oo,<-l14,show x7b d ((q.bs.getD i iq0).2.getD j id0) (((q.p.atC 0<|y1c r d i).reverse).getD k id0)=_ from if_pos c5];exact I,O,D⟩⟩ sm;refine rg<|mv U U ?_;have D:=(D.ext Z).fr a0;refine z0l U D z3b<|z0l U a4 z3b<|z1t (cs:=[_,_,_,_,_]) (ev3 U) k1m (z0g U<|z0g U<|z0g U z0r) U ?_;refine z1i ([(⟨((q.bs.getD i iq0).2.getD j id0),(((q.p.atC 0<|y1c r d i).reverse).getD k id0),-1⟩:Cx)]) (ev1 U) U y2b<|λf6 h6 f2 d0 b0 i7=>?_;have O:=((O.ext Z).fr a0 (by first|exact z9m O oo|simp[z0v]<;>omega)).ext b0;have D:=D.ext b0;have I:=((I.ext Z).fr a0 (by first|exact z9m I oo|simp[z0v]<;>omega)).ext b0;have a3:=I;refine z2h U I d0.sl y2b (λg8 h7 I b1 e4=>?_) (hM:=t60) (hb:=t61);have i8:=b1.size;have O:=O.fr b1 ((Own.neO a3 O dd));have D:=D.fr b1<|λhk=>a3.neB D dd hk;exact asg U<|kpL [(1,_),(2,_),(3,_),(9,_),(13,_),(15,_),(26,_),(27,_),(28,_),(47,_),(48,_),(49,_),(53,_),(54,_),(55,_)] (csu U)<|nl<|bn'<|tn<|rg<|z0w U (wi6 oo)<|mv U U<|nl<|lpE ((k+1,_)) (csu U) ⟨((a7.z3 Z a0 b0).step b1<|λk hk b2=>absurd (a3.blk k hk).1 oo),⟨sm,by rw[y5k (x7b d<|(q.bs.getD i iq0).2.getD j id0) id0 oo,<-l14,show x7b d ((q.bs.getD i iq0).2.getD j id0) (((q.p.atC 0<|y1c r d i).reverse).getD k id0)=_ from if_neg c5];exact I,O,D⟩⟩ sm;obtain rfl:k=((q.p.atC 0<|y1c r d i).reverse).length:=by omega
 rw[l38]at I;exact ex<|te<|te<|xh<|bn'<|tn<|rg<|z0w U (wi6 oo)<|mv U U<|kpL (ll11 1 2 3 9 13 26 27 28 47 48 49) (csu U)<|nl<|lpE ((j+1,_)) (csu U) ⟨a7,⟨sm,by rw[u2l (λx=>((q.p.atC 0<|y1c r d i).reverse).map<|x7b d x) id0 oo,<-l14];exact I,O⟩⟩ sm;obtain rfl:j=(q.bs.getD i iq0).2.length:=by omega
 rw[l38]at I;exact ex<|te<|te<|xh<|bn'<|tn<|rg<|z0w U (wi6 oo)<|mv U U<|kpL (ll7 1 2 3 9 26 27 28) (csu U)<|nl<|lpE ((i+1,_)) (csu U) ⟨q7,⟨sm,by rw[u2x,show u3j q.p r d i=(q.bs.getD i iq0).2.flatMap (λx=>((q.p.atC 0<|y1c r d i).reverse).map<|x7b d x) from by unfold u3j;rw[z3w]];exact I⟩⟩ sm;obtain rfl:i=q.bs.length:=by omega
 refine ex<|te<|te<|xh<|tn<|jn (ι:=Unit) (ll1 9) (λ_j=>[]) (λ_j w'=>Fr [] w0 w'/\Lw.Own z5z 149 w0.heap.size w' uI (z2n q.p r d)) (csu U) ?_ ?_;refine sr<|mv U U<|eq' U<|kpL (ll2 9 77) (csu U)<|nn<|cd U (λc6=>?_)<|λc6=>?_;refine rg<|mv U U ?_;have a6:=I;refine cl (ev1 U) (mkC func175) (u1c w2.heap.size _ _ _ I oo) U ?_;rintro _ h8 ⟨I,d3⟩;have i9:=d3.size;exact nl<|jE (()) (csu U) ⟨((q1.n2 q2 q3).step d3<|λk hk b2=>absurd (a6.blk k hk).1 oo),(by rw[show z2n q.p r d=_ from if_pos oo,l15];exact I.low oo)⟩;exact sk<|jE (()) (csu U) ⟨(q1.n2 q2 q3),(by rw[show z2n q.p r d=_ from if_neg oo,l15];exact I.low oo)⟩;rintro _j h9 ⟨d4,I⟩;have j0:=d4.size;refine kpC (ll1 9) (csu U)<|sr<|mv U U<|cl (ev1 U) (mkC func176) (x9f _ (z2n q.p r d) _ I.sl oo) U ?_;rintro _ i0 ⟨d7,rfl,f3,hY,d5⟩;have j1:=d5.size;exact asg U<|asg U<|nn<|rt<|r2 results129 U U ⟨_,rfl,⟨d7,rfl,oo,hY.low oo⟩,(d4.n1 d5)⟩
end Go.Proofs.YtkafbfjmcigaiaaGreatDoor
namespace Go.G08
open Go.Lw Go.G21
def orZ:List Int->Int
  | []=>0
  | x::l=>if x≠0 then x else orZ l
theorem v9r:∀ {l:List Int} {i:Nat},i<l.length->(∀j,j<i->l.getD j 0=0)->l.getD i 0≠0->orZ l=l.getD i 0
 | x::l,0,_,_,h=>by simp only[l89]at h ⊢;exact if_pos h
 | x::l,i+1,hi,hj,h=>by
  have D:=hj 0 oo
  simp only[l89]at D
  rw[show orZ (x::l)=if x≠0 then x else orZ l from U,if_neg oo]
  simp only[l63]at h ⊢
  exact v9r (by simpa using hi) (λj hl=>by have:=hj (j+1) oo;simpa only[l63] using this) h
theorem y9t:∀ {l:List Int},(∀j,j<l.length->l.getD j 0=0)->orZ l=0
 | [],_=>rfl
 | x::l,hj=>by
  have D:=hj 0 sp0
  simp only[l89]at D
  rw[show orZ (x::l)=if x≠0 then x else orZ l from U,if_neg oo]
  exact y9t (λj hl=>by have:=hj (j+1) (by simpa using hl);simpa only[l63] using this)
theorem v0z (a b:LId):orZ [y0y a.y b.y,y0y a.n b.n]=z6h a b:=by
 unfold orZ orZ orZ y0y z6h
 repeat' split
 all_goals first|rfl|omega
end Go.G08
namespace Go.Lw
open Go.RowKit
def MapL {κ:Type}[DecidableEq κ](V:κ->Value)(w:World)(g:Nat)(m:List (κ×Value)):Prop:=
  ∃(es:Array MapEntry) (c:Nat),w.heap[g]?=some (.map es c)/\es.toList.map (λe=>(e.key,e.val))=m.map (λp=>(V p.1,p.2))/\(m.map (·.1)).Nodup/\(es.toList.map (·.born)).Nodup/\∀e∈es.toList,e.born<c
def z6d {κ:Type}[DecidableEq κ](m:List (κ×Value))(k:κ):List (κ×Value):=
  match (m.map (·.1)).findIdx? (λx=>decide (k=x)) with
  | some i=>m.eraseIdx i
  | none=>m
def MapIt {κ:Type}[DecidableEq κ](V:κ->Value)(w:World)(gi g:Nat)(m rem:List (κ×Value))(cur:Option (κ×Value)):Prop:=
  ∃(es:Array MapEntry) (c:Nat) (seen:Array Nat),w.heap[g]?=some (.map es c)/\es.toList.map (λe=>(e.key,e.val))=m.map (λp=>(V p.1,p.2))/\(es.toList.map (·.born)).Nodup/\(∀e∈es.toList,e.born<c)/\
    w.heap[gi]?=some (.mapIter (some g) c seen c)/\(leftOf es seen).toList.map (λe=>(e.key,e.val))=rem.map (λp=>(V p.1,p.2))/\∀p,cur=some p->∃e∈es.toList,∃s':Array Nat,seen=s'.push e.born/\e.key=V p.1/\e.val=p.2
theorem k2v {P:Program}{ops:Array Oper}{Q:Exit->Act->World->Prop}{o:Oper}{rest:List Oper}{a:Act}{n:Nat}{ds:List Nat}{L:List (Nat×Value)}{w w':World}{v:Value}(h:AgM ds a n L)(O:o.guard=none)(I:o.dst=none)(Z:(execOp a.eval o).run P w=.ok (.value v) w')
    (k:∀a,AgM ds a n L->wpList P ops Q rest a w'):wpList P ops Q (o::rest) a w:=
  wpList_plain O λK D=>by
    unfold Oper.wp
    rw[Z]
    show K (a.put o.dst v) w'
    rw[I]
    exact D _ _<|k _ h
theorem y7y {D:Type}(m:List (D×Value))(i:Nat)(v:Value):(m.modify i λp=>(p.1,v)).map (·.1)=m.map (·.1):=by
 apply l62;intro j;simp only[l24,l113];by_cases h:i=j;subst h;cases m[i]?<;>simp
 simp[h]
theorem y2h {α β:Type}(f:α->β)(i:Nat)(l:List α):(l.eraseIdx i).map f=(l.map f).eraseIdx i:=by
 apply l62;intro j;simp only[l24,List.getElem?_eraseIdx];split<;>rfl
section
variable {κ:Type} [DecidableEq κ] {V:κ->Value} {P:Program} {K:TypeId} {w w':World} {g:Nat} {m:List (κ×Value)} {S:List Nat}
theorem MapL.fr (h:MapL V w g m)(hf:Fr S w w')(hn:g∉S:=by simp[z0v]<;>omega):MapL V w' g m:=by
 obtain⟨I,c,D,O⟩:=h;exact⟨I,c,(hf.block g (l16.1 D).1 hn).trans D,O⟩
theorem MapL.f (h:MapL V w g m):MapF V w g (z2u m):=let ⟨es,c,h1,h2,_⟩:=h;⟨es,c,m,h1,h2,λ_=>rfl⟩
theorem MapL.lt (h:MapL V w g m):g<w.heap.size:=h.f.lt
theorem MapL.nodup (h:MapL V w g m):(m.map (·.1)).Nodup:=let ⟨_,_,_,_,h,_⟩:=h;h
theorem u0v {k:κ}(h:(m.map (·.1)).findIdx? (λx=>decide (k=x))=none):k∉m.map (·.1):=λD=>by
 rw[List.findIdx?_eq_none_iff]at h
 have:=h k D
 simp at this
theorem y7v {t E:TypeId}(h:MapL V w g m)(hk:KeyLaw P K V)(hu:P.underlying t=some (.map K E))(k:κ)(v:Value) :
    ∃w',(Instr.mapUpdate t (.map<|some g) (V k) v).run P w=.ok () w'/\MapL V w' g (z4n m k v)/\Fr [g] w w'/\w'.heap.size=w.heap.size:=by
  obtain⟨D,c,h1,h2,a9,a6,a3⟩:=h
  have b1:=(l16.1 h1).1
  have a0:D.toList.map (·.key)=(m.map (·.1)).map V:=by
    have:=congrArg (List.map Prod.fst) h2
    simpa[l81,l109] using this
  have O:=hk.find k D.toList (m.map (·.1)) w a0
  have a2:∀o,(setObj g o).run P w=.ok () { w with heap:=w.heap.setIfInBounds g o }:=by intro o;simp[setObj,Sem.run,h1]
  have a7:∀o,Fr [g] w { w with heap:=w.heap.setIfInBounds g o }:=λo=>⟨rfl,rfl,rfl,sp0,λi _ hn=>by
    simp only
    rw[l77 (by intro e;subst e;simp at hn)]⟩
  have Z:∀o,({ w with heap:=w.heap.setIfInBounds g o }:World).heap[g]?=some o:=by intro o;simp[b1]
  have b3:D.toList.length=m.length:=by have:=congrArg List.length h2;simpa using this
  cases hf:(m.map (·.1)).findIdx? (λx=>decide (k=x)) with
  | none=>
    have ea:z4n m k v=m++[(k,v)]:=by unfold z4n;rw[hf]
    rw[ea]
    refine⟨_,?_,⟨_,_,Z<|.map (D.push { key:=V k,val:=v,born:=c })<|c+1,?_,?_,?_,?_⟩,a7 _,sp0⟩
    · rw[hf]at O
      simp only[Instr.mapUpdate,Sem.run_bind,run_underlying hu,Result.andThen_ok,z2z h1,hk.check,O,Option.bind_none,a2]
    · simp[h2]
    · rw[l30]
      exact l58.2 ⟨a9,sp0,λx hx y hy=>by
        simp at hy;subst hy;intro e;subst e;exact u0v hf hx⟩
    · rw[Array.toList_push,l30]
      exact l58.2 ⟨a6,sp0,λx hx y hy=>by
        simp at hy;subst hy
        obtain⟨e,he,rfl⟩:=l55.1 hx
        have:=a3 e he;omega⟩
    · intro e he
      rw[Array.toList_push]at he
      rcases l22.1 he with h|h
      · have:=a3 e h;omega
      · simp at h;subst h;exact l116 _
  | some i=>
    have hi:i<m.length:=by
      have:=l79.1 hf
      simpa using this.1
    have a1:i<D.toList.length:=by omega
    have a8:V k=(D.toList[i]).key:=by
      have b0:=List.findIdx?_eq_some_iff_getElem.1 hf
      obtain⟨b4,hp,_⟩:=b0
      have b2:k=(m.map (·.1))[i]:=by simpa using hp
      have e1:(D.toList.map (·.key))[i]?=((m.map (·.1)).map V)[i]?:=by rw[a0]
      simp only[l24,l10 a1,l10 hi,l60,l69]at e1
      rw[e1,b2];simp
    have ea:z4n m k v=m.modify i λp=>(p.1,v):=by unfold z4n;rw[hf]
    rw[ea]
    have I:(D.modify i λe=>{ e with key:=V k,val:=v }).toList.map (·.born)=D.toList.map (·.born):=by
      apply l62
      intro j
      simp only[l24]
      rw[l43,Array.getElem?_modify,l43]
      by_cases hj:i=j
      · subst hj;simp only[if_true];cases D[i]?<;>rfl
      · simp only[hj,if_false]
    refine⟨_,?_,⟨_,_,Z<|.map (D.modify i λe=>{ e with key:=V k,val:=v }) c,?_,by rw[y7y m];exact a9,by rw[I];exact a6,?_⟩,a7 _,sp0⟩
    · rw[hf]at O
      have a4:D[i]?=some D.toList[i]:=by rw[<-l43,l10 a1]
      simp only[Option.bind_some,l10 a1,l60]at O
      have a5:(Instr.keyThatStays (((D[i]?).map (·.key)).getD<|V k)<|V k).run P w=.ok (V k) w:=by
        rw[a4]
        simp only[l60,l64,<-a8,Instr.keyThatStays,hk.bits,if_true,Sem.run_pure]
      simp only[Instr.mapUpdate,Sem.run_bind,run_underlying hu,Result.andThen_ok,z2z h1,hk.check,O,a5,a2]
    · apply l62
      intro j
      have e2:=congrArg (·[j]?) h2
      simp only[l24]at e2 ⊢
      rw[l43,Array.getElem?_modify,l113]
      rw[l43]at e2
      by_cases hj:i=j
      · subst hj
        have e3:=l10 hi
        have a4:D[i]?=some D.toList[i]:=by rw[<-l43,l10 a1]
        rw[a4,e3]at e2 ⊢
        simp only[l60,l69,l105]at e2
        simp only[if_true,l60]
        rw[a8,e2.1];rfl
      · simp only[hj,if_false]
        rw[e2];simp
    · intro e he
      have:e.born∈D.toList.map (·.born):=by rw[<-I];exact l88 he
      obtain⟨x,hx,hb⟩:=l55.1 this
      rw[<-hb];exact a3 x hx
theorem x7e {t E:TypeId}{ty:TypeId}(h:MapL V w g m)(hk:KeyLaw P K V)(hu:P.underlying t=some (.map K E))(k:κ) :
    ∃w',(Builtin.delete_ #[t,K] ty #[.map (some g),V k]).run P w=.ok (.tuple #[]) w'/\MapL V w' g (z6d m k)/\Fr [g] w w'/\w'.heap.size=w.heap.size:=by
  obtain⟨O,c,h1,h2,a5,a2,a1⟩:=h
  have a6:=(l16.1 h1).1
  have a0:O.toList.map (·.key)=(m.map (·.1)).map V:=by
    have:=congrArg (List.map Prod.fst) h2
    simpa[l81,l109] using this
  have D:=hk.find k O.toList (m.map (·.1)) w a0
  have Z:∀o,(setObj g o).run P w=.ok () { w with heap:=w.heap.setIfInBounds g o }:=by intro o;simp[setObj,Sem.run,h1]
  have a3:∀o,Fr [g] w { w with heap:=w.heap.setIfInBounds g o }:=λo=>⟨rfl,rfl,rfl,sp0,λi _ hn=>by
    simp only
    rw[l77 (by intro e;subst e;simp at hn)]⟩
  have I:∀o,({ w with heap:=w.heap.setIfInBounds g o }:World).heap[g]?=some o:=by intro o;simp[a6]
  have a7:O.toList.length=m.length:=by have:=congrArg List.length h2;simpa using this
  cases hf:(m.map (·.1)).findIdx? (λx=>decide (k=x)) with
  | none=>
    have ea:z6d m k=m:=by unfold z6d;rw[hf]
    rw[ea]
    refine⟨_,?_,⟨_,_,I<|.map O c,h2,a5,a2,a1⟩,a3 _,sp0⟩
    rw[hf]at D
    simp[Builtin.delete_,run_underlying hu,z2z h1,hk.check,D,Z]
  | some i=>
    have ea:z6d m k=m.eraseIdx i:=by unfold z6d;rw[hf]
    rw[ea]
    have hi:i<m.length:=by
      have:=l79.1 hf
      simpa using this.1
    have a4:i<O.toList.length:=by omega
    have el:(O.eraseIdxIfInBounds i).toList=O.toList.eraseIdx i:=by
      unfold Array.eraseIdxIfInBounds
      rw[dif_pos (by simpa using a4),Array.toList_eraseIdx]
    refine⟨_,?_,⟨_,_,I<|.map (O.eraseIdxIfInBounds i) c,?_,?_,?_,?_⟩,a3 _,sp0⟩
    · rw[hf]at D
      simp only[Option.bind_some,l10 a4,l60]at D
      simp[Builtin.delete_,run_underlying hu,z2z h1,hk.check,D,Z]
    · rw[el,y2h,y2h,h2]
    · rw[y2h];exact List.Nodup.sublist (List.eraseIdx_sublist _ _) a5
    · rw[el,y2h];exact List.Nodup.sublist (List.eraseIdx_sublist _ _) a2
    · intro e he
      rw[el]at he
      exact a1 e<|(List.eraseIdx_sublist _ _).mem he
variable {a:Act} {n:Nat} {L:List (Nat×Value)} {ds:List Nat} {Q:Exit->Act->World->Prop} {C:World->Prop} {Qa:Act->Prop} {ops:Array Oper} {rest:List Oper}
variable {d:Nat} {ty:TypeId} {pos:String} {after:Array Edge} {x y z:Operand} {t E:TypeId} {k:κ} {v zv:Value}
theorem y8n (h:AgM ds a n L)(hx:ev L x=some (.map<|some g))(hy:ev L y=some (V k))(hz:ev L z=some v)(hm:MapL V w g m)(Z:KeyLaw P K V)(hu:P.underlying t=some (.map K E))
    (q:∀w',MapL V w' g (z4n m k v)->Fr [g] w w'->w'.heap.size=w.heap.size->∀a,AgM ds a n L->wpList P ops Q rest a w'):wpList P ops Q (⟨none,.mapUpdate t x y z,ty,pos,after,none⟩::rest) a w:=by
  obtain⟨w',hr,D,I,O⟩:=y7v hm Z hu k v
  exact y0h h U U (w':=w') (by simp[execOp,h.eval hx,h.eval hy,h.eval hz,hr])<|q w' D I O
theorem j4c {O:TypeId}(h:AgM ds a n L)(hx:ev L x=some (.map<|some g))(hy:ev L y=some (V k))(hm:MapL V w g m)(hk:KeyLaw P K V)(hu:P.underlying t=some (.map K E))(he:O=K)
    (q:∀w',MapL V w' g (z6d m k)->Fr [g] w w'->w'.heap.size=w.heap.size->∀a,AgM ds a n L->wpList P ops Q rest a w'):wpList P ops Q (⟨none,.call ⟨.builtin .delete,#[x,y],#[t,O]⟩,ty,pos,after,none⟩::rest) a w:=by
  subst he
  obtain⟨w',hr,Z,h2,h3⟩:=x7e (ty:=ty) hm hk hu k
  refine k2v h U U (w':=w') (v:=.tuple #[]) ?_<|q w' Z h2 h3
  have D:=h.eval hx
  have I:=h.eval hy
  rw[z2q];unfold builtin
  simp[D,I,hr]
theorem MapIt.fr {gi:Nat}{rem:List (κ×Value)}{cur:Option (κ×Value)}(h:MapIt V w gi g m rem cur)(hf:Fr S w w')(h1:g∉S)(h2:gi∉S):MapIt V w' gi g m rem cur:=by
 obtain⟨Z,c,D,I,k2,k3,k4,O,k6⟩:=h;exact⟨Z,c,D,(hf.block g (l16.1 I).1 h1).trans I,k2,k3,k4,(hf.block gi (l16.1 O).1 h2).trans O,k6⟩
theorem MapIt.lt {gi:Nat}{rem:List (κ×Value)}{cur:Option (κ×Value)}(h:MapIt V w gi g m rem cur):gi<w.heap.size:=let ⟨_,_,_,_,_,_,_,k5,_⟩:=h;(l16.1 k5).1
theorem MapIt.ne {gi:Nat}{rem:List (κ×Value)}{cur:Option (κ×Value)}(h:MapIt V w gi g m rem cur):g≠gi:=λe=>by
 obtain⟨Z,c,I,O,_,_,_,D,_⟩:=h
 rw[<-e,O]at D;cases D
theorem v8v {I:Array MapEntry}{D:Array Nat}{e:MapEntry}{l1 l2:List MapEntry}(hn:(I.toList.map (·.born)).Nodup)(h:(leftOf I D).toList=l1++e::l2):(leftOf I<|D.push e.born).toList=l1++l2:=by
 have Z:(leftOf I<|D.push e.born).toList=(leftOf I D).toList.filter λx=>decide (x.born≠e.born):=by
  unfold leftOf;rw[Array.toList_filter,Array.toList_filter,List.filter_filter];congr 1;funext x;by_cases c1:x.born=e.born;simp[c1];by_cases c2:x.born∈D;simp[c1,c2];simp[c1,c2]
 have hs:((leftOf I D).toList.map (·.born)).Nodup:=by
  refine List.Nodup.sublist (List.Sublist.map _ ?_) hn;unfold leftOf;rw[Array.toList_filter];exact List.filter_sublist
 rw[h]at Z hs;rw[Z,List.filter_append,l59];rw[l30,l28]at hs;obtain⟨n1,n2,n3⟩:=l58.1 hs;have n4:=l112.1 n2;have f1:l1.filter (λx=>decide (x.born≠e.born))=l1:=List.filter_eq_self.2 λx O=>by
  simpa using n3 _ (l88 O) e.born (l39 ..)
 have f2:l2.filter (λx=>decide (x.born≠e.born))=l2:=List.filter_eq_self.2 λx O=>by
  have:x.born≠e.born:=λk=>n4.1 (by rw[<-k];exact l88 O);simpa using this
 rw[f1,f2];simp
theorem u6i (hx:ev L x=some (.map<|some g))(hm:MapL V w g m)(hu:P.underlying t=some (.map K E))(hn:lbt d n)
    (q:∀gi w',gi=w.heap.size->MapIt V w' gi g m m none->Fr [] w w'->w'.heap.size=gi+1->WL P ops Q rest n ds w' ((d,pta gi)::L)):WL P ops Q (⟨some d,.range t x,ty,pos,after,none⟩::rest) n ds w L:=λa h=>by
  obtain⟨I,c,O,h2,h3,h4,h5⟩:=hm
  have D:=(l16.1 O).1
  refine z1x h U hn (w':=w.alloc<|.mapIter (some g) c #[] c) (v:=(pta w.heap.size)) ?_<|q _ _ U ⟨I,c,#[],?_,h2,h4,h5,heap_alloc_new w _,?_,λp hp=>by cases hp⟩ (Fr.alloc [] w _) sp0 
  · have Z:=h.eval hx
    simp only[execOp,Z,Sem.run_bind,run_range_map w t K E g I c hu O,Result.andThen_ok,Sem.run_pure]
  · first|exact(heap_alloc_old w _ D).trans O|exact(heap_alloc_old w _ _ D).trans O
  · rw[<-h2]
    have:(leftOf I #[]).toList=I.toList:=by unfold leftOf;rw[Array.toList_filter];simp
    rw[this]
theorem j7y {gi:Nat}{rem:List (κ×Value)}{cur:Option (κ×Value)}(hx:ev L x=some (pta gi))(hi:MapIt V w gi g m rem cur)(hn:lbt d n)
    (qt:∀(r1:List (κ×Value)) (p:κ×Value) (r2:List (κ×Value)),rem=r1++p::r2->∀w',MapIt V w' gi g m (r1++r2) (some p)->Fr [gi] w w'->w'.heap.size=w.heap.size->WL P ops Q rest n ds w' ((d,.tuple #[.bool true,V p.1,p.2])::L))
    (qf:rem=[]->WL P ops Q rest n ds w ((d,.tuple #[.bool false])::L)):WL P ops Q (⟨some d,.next x false,ty,pos,after,none⟩::rest) n ds w L:=λa h=>by
  have a5:=hi.ne
  obtain⟨I,c,D,h1,h2,h3,h4,h5,h6,h7⟩:=hi
  have a4:=(l16.1 h5).1
  have a1:=h.eval hx
  rcases run_next_at (P:=P) w ty gi g c c D I c h5 h1 h4 (l20 _) with ⟨e0,hr⟩|⟨e,he,w1,hw,hr⟩
  · refine z1x h U hn (w':=w) (v:=.tuple #[.bool false]) (by simp only[execOp,a1,Sem.run_bind,hr,Result.andThen_ok,Sem.run_pure]) (qf ?_)
    have:(leftOf I D).toList=[]:=l111.1 (by rw[l121];exact e0)
    rw[this]at h6
    exact List.map_eq_nil_iff.1 h6.symm
  · obtain⟨l1,l2,hl⟩:=List.append_of_mem he
    rw[hl,l30,l28]at h6
    obtain⟨r1,r',a7,e1,e2⟩:=List.map_eq_append_iff.1 h6.symm
    obtain⟨p,r2,a8,e3,e4⟩:=List.map_eq_cons_iff.1 e2
    obtain⟨ek,O⟩:=Prod.mk.inj e3
    have a2:e∈I.toList:=by
      have:e∈(leftOf I D).toList:=he
      unfold leftOf at this;rw[Array.toList_filter]at this;exact(l103.1 this).1
    have a3:Fr [] w w1:=by rcases hw with rfl|rfl;exact l12 _ _;exact Fr.drew _ _
    have a0:w1.heap.size=w.heap.size:=by rcases hw with rfl|rfl<;>rfl
    have Z:Fr [gi] w (ChangeMaps.setBlock w1 gi<|.mapIter (some g) c (D.push e.born) c):=
      (a3.weak sp0).step (S':=[gi]) ⟨rfl,rfl,rfl,by simp[ChangeMaps.setBlock],λk _ hk=>by
        simp only[ChangeMaps.setBlock]
        rw[l77 (by intro e;subst e;simp at hk)]⟩ (by intro k hk _;exact hk)
    refine z1x h U hn (w':=ChangeMaps.setBlock w1 gi<|.mapIter (some g) c (D.push e.born) c) (v:=.tuple #[.bool true,e.key,e.val]) (by simp only[execOp,a1,Sem.run_bind,hr,Result.andThen_ok,Sem.run_pure]) ?_
    rw[<-ek,<-O]
    refine qt r1 p r2 (by rw[a7,a8]) _ ⟨I,c,D.push e.born,?_,h2,h3,h4,?_,?_,λp' a6=>?_⟩ Z (by simp[ChangeMaps.setBlock,a0])
    · exact(Z.block g (l16.1 h1).1 (by simpa using a5)).trans h1
    · simp[ChangeMaps.setBlock,a0,a4]
    · rw[v8v h3 hl,l30,l30,<-e1,<-e4]
    · cases a6
      exact⟨e,a2,D,rfl,ek.symm,O.symm⟩
theorem u3s {gi:Nat}{rem:List (κ×Value)}{p:κ×Value}(hx:ev L x=some (pta gi))(hi:MapIt V w gi g m rem (some p))(hn:lbt d n)
    (q:WL P ops Q rest n ds w ((d,.tuple #[V p.1,p.2])::L)):WL P ops Q (⟨some d,.entry x,ty,pos,after,none⟩::rest) n ds w L:=λa h=>by
  obtain⟨es,c,O,h1,h2,h3,h4,h5,h6,h7⟩:=hi
  obtain⟨e,he,s',rfl,Z,D⟩:=h7 p U
  have I:=h.eval hx
  refine z1x h U hn (w':=w) (v:=.tuple #[V p.1,p.2]) ?_ q
  rw[<-Z,<-D]
  simp only[execOp,I,Sem.run_bind,run_entry_at (P:=P) w gi g c s' es c e h5 h1 he h3,Result.andThen_ok,Sem.run_pure]
end
end Go.Lw
namespace Go.G08
open Go.Lw Go.G21
section
variable {κ:Type} [DecidableEq κ] {V:κ->Value} {w w':World} {g:Nat} {m:List (κ×Value)} {S:List Nat}
theorem _root_.Go.Lw.MapL.tf {T:Nat}(h:MapL V w g m)(hf:Fr S w w')(I:OffT w T S):MapL V w' g m:=h.fr hf λO=>by
 obtain⟨T',cs,D,_⟩:=I g O
 exact h.f.ne_blk D U
end
theorem BdO.tf {D I base:Nat}{w w':World}{q:BdQ}{S:List Nat}(h:BdO D I base w q)(hf:Fr S w w')(hS:OffT w D S)(Z:OffT w I S):BdO D I base w' q:=
 ⟨⟨z1y h.f.1 hf hS,λp O=>z1y (h.f.2 p O) hf Z⟩,⟨z1y h.b.1 hf hS,λp O=>z1y (h.b.2 p O) hf Z⟩⟩
structure KpM (Ts:List Nat) (g:Nat) (w w':World):Prop where
  size:w.heap.size<=w'.heap.size
  block:∀k,k<w.heap.size->k≠g->(∀(T:Nat) (cs:List Value),Blk w k T cs->T∉Ts)->w'.heap[k]?=w.heap[k]?
theorem KpM.refl (D:List Nat)(g:Nat)(w:World):KpM D g w w:=⟨l20 _,λ_ _ _ _=>rfl⟩
theorem KpM.trans {D:List Nat}{g:Nat}{a b c:World}(h:KpM D g a b)(I:KpM D g b c):KpM D g a c:=
 ⟨l44 h.size I.size,λk hk Z O=>by
  have e:=h.block k hk Z O
  rw[<-e]
  exact I.block k (l99 hk h.size) Z λT cs hb=>O T cs<|e.symm.trans hb⟩
theorem KpM.of {D:List Nat}{g:Nat}{w w':World}{S:List Nat}(hf:Fr S w w')(I:∀k∈S,k=g\/∃(T:Nat) (cs:List Value),Blk w k T cs/\T∈D):KpM D g w w':=
 ⟨hf.size,λk hk hg O=>hf.block k hk λhm=>by
  rcases I k hm with e|⟨T,cs,Z,hi⟩
  ·exact hg e
  exact O T cs Z hi⟩
theorem v8l {w:World}{k T T':Nat}{cs cs':List Value}(h:Blk w k T cs)(D:Blk w k T' cs'):T=T':=by
 have e:=(show w.heap[k]?=some (.cells cs.toArray T (0,0)) from h).symm.trans (show w.heap[k]?=some (.cells cs'.toArray T' (0,0)) from D);simp only[l69,Obj.cells.injEq]at e;exact e.2.1
theorem KpM.blk {D:List Nat}{g:Nat}{w w':World}(h:KpM D g w w'){k T:Nat}{cs:List Value}(hb:Blk w k T cs)(hg:k≠g)(Z:T∉D):Blk w' k T cs:=
 (h.block k hb.lt hg λT' I O=>by rw[<-v8l hb O];exact Z).trans hb
theorem KpM.mapF {κ:Type}[DecidableEq κ]{V:κ->Value}{f:κ->Option Value}{I:List Nat}{g k:Nat}{w w':World}(h:KpM I g w w')(hb:MapF V w k f)(hg:k≠g):MapF V w' k f:=by
 obtain⟨O,c,m,D,Z⟩:=hb;refine⟨O,c,m,(h.block k (l16.1 D).1 hg λT cs hb=>?_).trans D,Z⟩;have e:=(show w.heap[k]?=some (.cells cs.toArray T (0,0)) from hb).symm.trans D;cases e
theorem y8g {α:Type}{E:Enc α}{T base g:Nat}{w:World}{v:Value}{ys:List α}{D:List Nat}(h:Lw.Own E T base w v ys)(I:T∈D):∀k∈z0v v,k=g\/∃(T:Nat) (cs:List Value),Blk w k T cs/\T∈D:=λk Z=>by
 obtain⟨cs,O⟩:=y0d h k Z
 exact .inr ⟨T,cs,O,I⟩
theorem j0y {g k T:Nat}{w:World}{cs:List Value}{D:List Nat}(h:Blk w k T cs)(O:T∈D):∀k'∈[k],k'=g\/∃(T:Nat) (cs:List Value),Blk w k' T cs/\T∈D:=λk' I=>by
 rw[l11]at I;subst I
 exact .inr ⟨T,cs,h,O⟩
structure MA where
  gk:Nat
  gy:Nat
  cy:Nat
  gt:Nat
  ct:Nat
  gc:Nat
  wk:World
abbrev MA.YV (a:MA):Value:=.slice (some ⟨a.gy,0,none⟩) 6 a.cy
abbrev MA.TV (a:MA):Value:=.slice (some ⟨a.gt,0,none⟩) 6 a.ct
structure MQ where
  rk:Int
  q:BdQ
  ys:List YQ
  ts:List TQ
  cr:List Cx
  fa:SV
  fl:List LId
abbrev MQ.p (m:MQ):MSt:=⟨m.rk,m.q.p,m.ys.map YQ.p,z2o m.ts,m.cr,m.fl⟩
abbrev j0f (a:MA)(m:MQ):List Value:=[.int .i64 m.rk,.slice m.q.f.1 m.q.f.2.1 m.q.f.2.2,.slice m.q.b.1 m.q.b.2.1 m.q.b.2.2,a.YV,a.TV,.map (some a.gc),.slice m.fa.1 m.fa.2.1 m.fa.2.2]
def crK (p:LId×LId):Value:=.agg #[.int .u8 p.1.y,.int .i64 p.1.n,.int .u8 p.2.y,.int .i64 p.2.n]
def crM (l:List Cx):List ((LId×LId)×Value):=l.map λc=>((c.a,c.b),.int .i64 c.n)
structure MtOk (τ:TyK) (Mt:Nat):Prop where
  o:τ.Ok
  y:Mt≠τ.Y
  t:Mt≠τ.T
  l:Mt≠τ.L
  i:Mt≠τ.I
  p:Mt≠τ.P
  s:Mt≠τ.S
abbrev u3h (τ:TyK)(Mt:Nat):List Nat:=[Mt,τ.Y,τ.T,τ.L,τ.I]
structure FrM (τ:TyK) (Mt:Nat) (wS:World) (a:MA) (w:World):Prop where
  fr:Fr [] wS w
  kp:KpM (u3h τ Mt) a.gc a.wk w
theorem FrM.size {τ:TyK}{Mt:Nat}{wS w:World}{a:MA}(h:FrM τ Mt wS a w):wS.heap.size<=w.heap.size:=h.fr.size
theorem FrM.next {τ:TyK}{Mt:Nat}{wS w w':World}{a:MA}(h:FrM τ Mt wS a w)(hf:Fr [] w w'):FrM τ Mt wS a w':=⟨h.fr.next hf,h.kp.trans<|KpM.of hf sp0⟩
theorem FrM.step {τ:TyK}{Mt:Nat}{wS w w':World}{a:MA}{S:List Nat}(h:FrM τ Mt wS a w)(hf:Fr S w w')(I:∀k∈S,k=a.gc\/∃(T:Nat) (cs:List Value),Blk w k T cs/\T∈u3h τ Mt)(D:∀k∈S,k<wS.heap.size->k∈([]:List Nat)):FrM τ Mt wS a w':=⟨h.fr.step hf D,h.kp.trans<|KpM.of hf I⟩
structure MkM (τ:TyK) (Mt:Nat) (wS:World) (a:MA) (w:World) (m:MQ):Prop where
  k:Blk w a.gk Mt (j0f a m)
  b:BdO τ.S τ.I wS.heap.size w m.q
  y:YsO τ wS.heap.size w a.YV m.ys
  t:TbO τ wS.heap.size w a.TV m.ts
  c:MapL crK w a.gc (crM m.cr)
  f:Lw.Own z1g τ.I wS.heap.size w (slv m.fa) m.fl
  fb:∀s∈m.q.fs++m.q.bs,∀k∈z0v (slv s.1),k∉z0v (slv m.fa)
  ft:∀i,i<6->∀q∈(m.ts.getD i tq0).2,∀k∈z0v (slv q.th),k∉z0v (slv m.fa)
  ly:m.ys.length=6
  lt:m.ts.length=6
  gk:wS.heap.size<=a.gk
  gc:wS.heap.size<=a.gc
  fr:FrM τ Mt wS a w
def MRet (τ:TyK)(Mt:Nat)(wS:World)(a:MA)(x:MR)(r:Value)(w':World):Prop:=
  FrM τ Mt wS a w'/\match x with
    | .error e=>r=.int .i64 e/\e≠0
    | .ok p=>r=.int .i64 0/\∃m,MkM τ Mt wS a w' m/\m.p=p
section
variable {τ:TyK} {Mt:Nat} {wS w w':World} {a:MA} {m:MQ} {j:Nat} {y:YQ}
theorem MRet.err {x:MR}{e:Int}{w':World}(I:x=.error e)(D:e≠0)(hf:FrM τ Mt wS a w'):MRet τ Mt wS a x (.int .i64 e) w':=by subst I;exact⟨hf,rfl,D⟩
theorem MRet.ok {x:MR}{m:MQ}{w':World}(D:x=.ok m.p)(h:MkM τ Mt wS a w' m):MRet τ Mt wS a x (.int .i64 0) w':=by subst D;exact⟨h.fr,rfl,m,h,rfl⟩
theorem MkM.ext (h:MkM τ Mt wS a w m)(hf:Fr [] w w'):MkM τ Mt wS a w' m:=
 ⟨h.k.ext hf,h.b.ext hf,h.y.ext hf,h.t.ext hf,h.c.fr hf sp0,h.f.ext hf,h.fb,h.ft,h.ly,h.lt,h.gk,h.gc,h.fr.next hf⟩
theorem MkM.yarn (h:MkM τ Mt wS a w m)(D:MtOk τ Mt)(O:j<6)(ho:Lw.Own z3l τ.Y wS.heap.size w' a.YV (m.ys.set j y))(hf:Fr [a.gy] w w')(hp:Lw.Own z2i τ.P wS.heap.size w (slv y.pe) y.pes):MkM τ Mt wS a w' { m with ys:=m.ys.set j y }:=by
 have o:∀T,T≠τ.Y->OffT w T [a.gy]:=λT I=>z7h h.y.out<|l51 I;refine⟨y4i h.k hf<|o _ D.y,BdO.tf h.b hf (o _<|l51 D.o.ys)<|o _<|l51 D.o.yi,h.y.put (by rw[h.ly];exact O) D.o ho hf hp,h.t.tf hf (o _<|l51 D.o.yt) (o _<|l51 D.o.yl) (o _<|l51 D.o.yi)<|o _<|l51 D.o.yp,h.c.tf hf<|o _ D.y,z1y h.f hf<|o _<|l51 D.o.yi,h.fb,h.ft,by rw[l19];exact h.ly,h.lt,h.gk,h.gc,h.fr.step hf (y8g h.y.out t41) λk Z a0=>?_⟩;have:=(h.y.out.blk k Z).1;omega
theorem MkM.beds {q:BdQ}{r:Int}(h:MkM τ Mt wS a w m)(D:MtOk τ Mt)(hq:BdO τ.S τ.I wS.heap.size w q)(O:Blk w' a.gk Mt (j0f a { m with q:=q,rk:=r }))(hf:Fr [a.gk] w w')(I:∀s∈q.fs++q.bs,∀k∈z0v (slv s.1),k∉z0v (slv m.fa)):MkM τ Mt wS a w' { m with q:=q,rk:=r }:=by
 have o:∀T,T≠Mt->OffT w T [a.gk]:=λT Z=>OffT.one h.k<|l51 Z;refine⟨O,BdO.tf hq hf (o _<|l51 D.s)<|o _<|l51 D.i,h.y.tf hf (o _<|l51 D.y)<|o _<|l51 D.p,h.t.tf hf (o _<|l51 D.t) (o _<|l51 D.l) (o _<|l51 D.i)<|o _<|l51 D.p,h.c.tf hf<|o _<|l51 D.y,z1y h.f hf<|o _<|l51 D.i,I,h.ft,h.ly,h.lt,h.gk,h.gc,h.fr.step hf (j0y h.k t41) λk O a0=>?_⟩;rw[l11]at O;have:=h.gk;omega
theorem x5p {Z I:Nat}{q:BdQ}{v:Value}{ys:List LId}{T base b:Nat}(O:BdO Z I b w' q)(hv:Lw.Own z1g T base w v ys)(hb:w.heap.size<=b):∀s∈q.fs++q.bs,∀k∈z0v (slv s.1),k∉z0v v:=λs hs k D hb=>by
 have:=(hv.blk k hb).2
 rcases l22.1 hs with e|e
 ·have:=((O.f.2 s e).blk k D).1;omega
 have:=((O.b.2 s e).blk k D).1;omega
theorem MkM.fall {w2:World}{u:SV}{l:List LId}(h:MkM τ Mt wS a w m)(D:MtOk τ Mt)(a0:τ.I≠τ.P)(h1:Lw.Own z1g τ.I wS.heap.size w' (slv u) l)(I:Fr (z0v<|slv m.fa) w w')(hx:∀k∈z0v (slv u),k∈z0v (slv m.fa)\/w.heap.size<=k)
    (O:Blk w2 a.gk Mt (j0f a { m with fa:=u,fl:=l })) (f2:Fr [a.gk] w' w2):MkM τ Mt wS a w2 { m with fa:=u,fl:=l }:=by
  have o1:∀T,T≠τ.I->OffT w T (z0v<|slv m.fa):=λT hT=>z7h h.f<|l51 hT
  have k1:=y4i h.k I<|o1 _ D.i
  have Z:∀T,T≠Mt->OffT w' T [a.gk]:=λT hT=>OffT.one k1<|l51 hT
  have dx:∀ {v:Value} {xs:List LId},Lw.Own z1g τ.I wS.heap.size w v xs->(∀k∈z0v v,k∉z0v (slv m.fa))->∀k∈z0v v,k∉z0v (slv u):=λho hd k O hb=>by
    rcases hx k hb with e|e
    · exact hd k O e
    · have:=(ho.blk k O).2;omega
  have fi:∀ {v:Value} {xs:List LId},Lw.Own z1g τ.I wS.heap.size w v xs->(∀k∈z0v v,k∉z0v (slv m.fa))->Lw.Own z1g τ.I wS.heap.size w2 v xs:=λho hd=>z1y (ho.fr I λk O hb=>hd k hb O) f2<|Z _<|l51 D.i
  have a2:∀s∈m.q.fs,Lw.Own z1g τ.I wS.heap.size w2 (slv s.1) s.2:=λs hs=>fi (h.b.f.2 s hs)<|h.fb s<|l22.2<|.inl hs
  have a1:∀s∈m.q.bs,Lw.Own z1g τ.I wS.heap.size w2 (slv s.1) s.2:=λs hs=>fi (h.b.b.2 s hs)<|h.fb s<|l22.2<|.inr hs
  refine⟨O,⟨⟨z1y (z1y h.b.f.1 I<|o1 _ D.o.si) f2<|Z _<|l51 D.s,a2⟩,⟨z1y (z1y h.b.b.1 I<|o1 _ D.o.si) f2<|Z _<|l51 D.s,a1⟩⟩,
    (h.y.tf I (o1 _ D.o.yi)<|o1 _<|l51 a0).tf f2 (Z _<|l51 D.y)<|Z _<|l51 D.p,
    ⟨z1y (z1y h.t.out I<|o1 _ D.o.ti) f2<|Z _<|l51 D.t,λi hi=>z1y (z1y (h.t.ins i hi) I<|o1 _ D.o.li) f2<|Z _<|l51 D.l,h.t.off,λi hi q hq=>⟨fi (h.t.lps i hi q hq).1<|h.ft i (by rw[<-h.lt];exact hi) q hq,z1y (z1y (h.t.lps i hi q hq).2 I<|o1 _<|l51 a0) f2<|Z _<|l51 D.p⟩⟩,
    (h.c.tf I<|o1 _ D.i).tf f2<|Z _<|l51 D.y,z1y h1 f2<|Z _<|l51 D.i,λs hs=>?_,λi hi q hq=>dx (h.t.lps i (by rw[h.lt];exact hi) q hq).1<|h.ft i hi q hq,h.ly,h.lt,h.gk,h.gc,(h.fr.step I (y8g h.f t41) λk O a3=>?_).step f2 (j0y k1 t41) λk O a3=>?_⟩
  · rcases l22.1 hs with e|e
    · exact dx (h.b.f.2 s e)<|h.fb s hs
    · exact dx (h.b.b.2 s e)<|h.fb s hs
  · have:=(h.f.blk k O).1;omega
  · rw[l11]at O;have:=h.gk;omega
theorem MkM.mark (h:MkM τ Mt wS a w m):MkM τ Mt wS { a with wk:=w } w m:=⟨h.k,h.b,h.y,h.t,h.c,h.f,h.fb,h.ft,h.ly,h.lt,h.gk,h.gc,⟨h.fr.fr,KpM.refl _ _ _⟩⟩
theorem MkM.unmark (h:MkM τ Mt wS { a with wk:=w } w' m)(D:FrM τ Mt wS a w):MkM τ Mt wS a w' m:=⟨h.k,h.b,h.y,h.t,h.c,h.f,h.fb,h.ft,h.ly,h.lt,h.gk,h.gc,⟨h.fr.fr,D.kp.trans h.fr.kp⟩⟩
def u7d (x:MR):Int:=match x with
  | .error e=>e
  | .ok _=>0
theorem MRet.split {x:MR}{r:Value}(h:MRet τ Mt wS a x r w'):r=.int .i64 (u7d x)/\FrM τ Mt wS a w'/\∃O,u7d x=0->MkM τ Mt wS a w' O/\x=.ok O.p:=by
 obtain⟨I,D⟩:=h;cases x with
 | error e=>exact⟨D.1,I,⟨0,⟨sv0,sv0,[],[]⟩,[],[],[],sv0,[]⟩,λZ=>absurd Z D.2⟩
 | ok p=>exact⟨D.1,I,D.2.choose,λ_=>⟨D.2.choose_spec.1,congrArg Except.ok D.2.choose_spec.2.symm⟩⟩
theorem y0m {x:MR}(h:u7d x≠0):x=.error (u7d x):=by cases x with
 | error e=>rfl
 | ok p=>exact absurd U h
theorem y6e (b n r:Int):-400<=z2c b n r/\z2c b n r<=400:=by
 unfold z2c;split;omega;rename_i h;have D:z4a b n=0:=l18.1 λe=>h<|.inl e;have I:-4<=r/\r<=4:=l18.1 λe=>h<|.inr e;have:=z2w D;split<;>omega
def OwnIf {α:Type}(c:Prop)(E:Enc α)(T base:Nat)(w:World)(v:Value)(ys:List α):Prop:=c->Lw.Own E T base w v ys
theorem OwnIf.fr {α:Type}{c:Prop}{E:Enc α}{T base:Nat}{w w':World}{v:Value}{ys:List α}{S:List Nat}(h:OwnIf c E T base w v ys)(hf:Fr S w w')(hn:c->∀k∈S,k∉z0v v:=by simp[z0v]<;>omega):OwnIf c E T base w' v ys:=λD=>(h D).fr hf<|hn D
theorem OwnIf.ext {α:Type}{c:Prop}{E:Enc α}{T base:Nat}{w w':World}{v:Value}{ys:List α}(h:OwnIf c E T base w v ys)(hf:Fr [] w w'):OwnIf c E T base w' v ys:=λD=>(h D).ext hf
theorem k4m (m:MQ)(y:Int):m.p.y y=(m.ys.getD (y-1).toNat yq0).p:=by
 unfold MSt.y;rw[List.getD,List.getD,l24];cases m.ys[(y-1).toNat]?<;>rfl
theorem y1g {y:Int}(m:MQ)(q:YQ)(D:(y-1).toNat=j):{ m with ys:=m.ys.set j q }.p=m.p.setY y q.p:=by
 subst D;unfold MSt.setY MQ.p;simp only[l133]
end
end Go.G08
namespace Go.Proofs.YtkafbfjmcigaiaaGreatDoor
open Go.Lw Go.G21 Go.G08 _root_.Go.Proofs.Tryz
theorem x4z (q:YQ)(w0:World)(hp:Sl z2i w0 (slv q.pe) q.pes):Rets prog 107 #[yvv q] w0 λr w'=>∃q':YQ,r=.tuple #[yvv q',.int .i64 (lvE q.p)]/\(lvE q.p=0->q'=⟨false,0,q.ct,false,sv0,[]⟩)/\Fr [] w0 w':=by
 have a4:=z2e hp;have a1:=hp.len_le;unfold maxLen at a1;refine we [(0,yvv q)] func107 U ntmps107 U (.cons U .nil) ?_;have a0:=hp;refine sr<|bx U<|λg1 w1 a2 I q1 z1=>(al z6m U<|λg2 w2 a3 D q2 z2=>(asg U<|nn<|sq<|sr ?_));have I:=I.ext q2;refine z0l U I z3m ?_;have hp:=a0.ext<|q1.n1 q2;refine cl (ev1 U) k5l (y0a q _ hp) U ?_;rintro _ w3 ⟨rfl,Z⟩;refine asg U<|nn<|sr<|mv U U<|ne' U<|nn<|cd U (λc0=>?_)<|λc0=>?_;refine sr<|z1t (cs:=[_,_,_,_,_]) z0f z9p z0r U ?_;refine mv U U ?_;have D:=D.ext Z;refine z0j (vs:=[_,_,_,_,_]) U D z3n<|λw4 D q4 z4=>(asg U<|nn<|rt<|tr<|rCT results107 U D z3m U ?_);have O:lvE q.p=ynE q.p:=by unfold lvE;rw[if_pos c0]
 exact⟨_,rfl,yq0,by rw[O];rfl,(λh=>absurd h (by rw[O];exact c0)),(q1.z3 q2 Z q4)⟩;refine sk<|tn<|sq<|sr<|fad U z8p ?_;have I:=I.ext Z;refine z0i U I U na4<|nt' U<|nn<|cd U (λc1=>?_)<|λc1=>?_;refine sr<|z1t (cs:=[_,_,_,_,_]) z0f z9p z0r U ?_;have D:=D.ext Z;refine z0j (vs:=[_,_,_,_,_]) U D z3n<|λw5 D q5 z5=>(asg U<|nn<|rt<|tr<|rCT results107 U D z3m U ?_);have O:lvE q.p=12:=by unfold lvE;rw[if_neg c0,if_pos (by simpa using c1)]
 exact⟨_,rfl,yq0,by rw[O];rfl,(λh=>absurd h (by rw[O];decide)),(q1.z3 q2 Z q5)⟩;refine sk<|tn<|sr<|fad U z8t<|z0i U I U na3<|z1t (cs:=[_,_,_,_,_]) (ev1 U) z9p (z0g U z0r) U ?_;have D:=D.ext Z;refine z0j (vs:=[_,_,_,_,_]) U D z3n<|λw6 D q6 z6=>(asg U<|nn<|rt<|rCT results107 U D z3m U ?_);have O:lvE q.p=0:=by unfold lvE;rw[if_neg c0,if_neg (by simpa using c1)]
 exact⟨_,rfl,⟨false,0,q.ct,false,sv0,[]⟩,by rw[O];rfl,(λ_=>rfl),(q1.z3 q2 Z q6)⟩
theorem k2r (v:Value)(l:List Int)(w0:World)(hs:Sl Enc.i64 w0 v l)(hl:l.length<=1000):Rets prog 119 #[v] w0 λr w'=>r=.int .i64 (orZ l)/\Fr [] w0 w':=by
 obtain⟨A,c,rfl,a1,hM,hA⟩:=id hs;clear hA;unfold maxLen at hM;refine we [(0,.slice A l.length c)] func119 U ntmps119 U (.cons U .nil) ?_;have O:=hs;refine sr<|asg U<|nn<|sr<|asg U<|nn<|sq<|sr<|mv U U<|lnS U underlying58<|mv U U<|nn<|bl<|lpK (ι:=Nat) (ll3 3 6 7) (λi=>[(8,.int .i64 (i:Int))]) (λi w'=>Fr [] w0 w'/\i<=l.length/\∀j,j<i->l.getD j 0=0) (λi=>l.length-i) 0 (csu U) ⟨l12 _ _,⟨l17 _,λj h=>absurd h oo⟩⟩ ?_;rintro i w1 ⟨I,⟨hi,Z⟩⟩;refine kpC (ll4 3 6 7 8) (csu U)<|sr<|lt' U<|nn<|sq<|cd U (λc0=>?_)<|λc0=>?_;refine sk<|tn<|sq<|bl<|sr ?_;have hs:=O.ext I;refine z0z (0) U hs U y0l z1j<|λa0 D=>?_;refine z1b U (D _ hs) na3<|asg U<|nn<|sr<|mv U U<|mv U U<|ne' U<|nn<|cd U (λc1=>?_)<|λc1=>?_;refine sr<|mv U U<|asg U<|kpL (ll1 2) (csu U)<|nn<|rt<|rb<|tr<|tr<|rb<|tr<|r1 results119 U ?_;exact⟨_,rfl,congrArg (Value.int .i64) (v9r oo Z oo).symm,I⟩;refine sk<|bn'<|tn<|rg<|z0w U (wi6 oo)<|mv U U<|nl ?_;exact lpE (i+1) (csu U) ⟨I,⟨oo,λj h=>by
  by_cases e:j=i;subst e;omega;exact Z j oo⟩⟩ oo
 obtain rfl:i=l.length:=by omega
 refine ex<|te<|te<|xh<|tn<|sr<|mv U U<|asg U<|kpL (ll1 2) (csu U)<|nn<|rt<|r1 results119 U ?_;exact⟨_,rfl,congrArg (Value.int .i64) (y9t Z).symm,I⟩
theorem y2g (x1 x2:LId)(w0:World):Rets prog 66 #[ivv x1,ivv x2] w0 λr w'=>r=.int .i64 (z6h x1 x2)/\Fr [] w0 w':=by
 refine we [(0,ivv x1),(1,ivv x2)] func66 U ntmps66 U (.c2 U U)<|sr<|bx U<|λg2 w1 a3 O q1 z1=>(bx U<|λg3 w2 a4 Z q2 z2=>(asg U<|nn<|sq ?_));intro a h;refine z0h none (λwb w'=>Fr [] wb w') z2s ?_;intro w3 q3;have O:=O.ext<|q2.n1 q3;have Z:=Z.ext q3;have hC:Fr [] w3 w3:=l12 _ _;have D:=O;have I:=Z;refine z0c 0 h U z9j U λa h=>z0m 1 h U (λ_ hw=>D.ext hw) U na5 U λa h=>z0c 2 h U z9j U λa h=>z0m 3 h U (λ_ hw=>I.ext hw) U na5 U λa h=>z0c 5 h U y1e U λa h=>z0m 6 h U (λ_ hw=>D.ext hw) U na3 U λa h=>z0c 7 h U y1e U λa h=>z0m 8 h U (λ_ hw=>I.ext hw) U na3 U λa h=>z0d 4 U<|z0n h (z0a U<|z0a U z0f) (mkC func120) (k3q _ _ _) ?_;rintro _ w4 ⟨rfl,q4⟩ a h;have hC:=hC.next q4;refine z0b<|z0d 9 U<|z0n h (z0a U<|z0a U z0f) (mkC func121) (v8y _ _ _) ?_;rintro _ w5 ⟨rfl,q5⟩ a h;have O:=O.ext<|q4.n1 q5;have Z:=Z.ext<|q4.n1 q5;have hC:=hC.next q5;refine z0b<|z0d 10 U<|z2r ([y0y x1.y x2.y,y0y x1.n x2.n]) h (z0a U<|z0a U z0f) U y0l λa1 w6 hg a2 q6 hz a h=>?_;have a0:g2<a1:=by have:=O.lt;omega
 have a0:g3<a1:=by have:=Z.lt;omega
 have hC:=hC.next q6;refine z0b<|z0d 11 U<|z0n h (z0a U z0f) (mkC func119) (k2r _ [y0y x1.y x2.y,y0y x1.n x2.n] _ a2.sl sp0) ?_;rintro _ w7 ⟨rfl,q7⟩ a h;have hC:=hC.next q7;refine z0b<|z0d 12 U<|z0o h U λa h=>?_;refine z0b<|z0q ?_;clear hC D I;refine bk (h.sub (L':=ll1 4)<|csu U)<|tn<|rt<|r1 results66 U ?_;exact⟨_,rfl,congrArg (Value.int .i64)<|v0z x1 x2,(q1.n6 q2 q3 q4 q5 q6 q7)⟩
theorem y4x:ElemOf prog 28 110 z3l 56:=ElemOf.mk' (z:=(.agg #[.bool false,.int .i64 0,.int .i64 0,.bool false,.slice none 0 0])) underlying28 kr U
theorem z3s:z1d prog 120 2 3:=λ_ _=>kr
theorem y5e:z2a prog 28:=λ_=>kr
abbrev τd:TyK:=⟨110,114,131,54,172,32,34⟩
theorem τd_ok:τd.Ok:=by constructor<;>decide
theorem mtd:MtOk τd 120:=⟨τd_ok,dd,dd,dd,dd,dd,dd⟩
theorem k4a (wS:World)(ka:MA)(m:MQ)(o:MOp)(w0:World)(hM:MkM τd 120 wS ka w0 m)(hy:1<=o.y/\o.y<=6):Rets prog 55 #[pta ka.gk,opV o] w0 λr w'=>MRet τd 120 wS ka (inM m.p o) r w':=by
 have d3:=hM.fr.size;have hk:=hM.k;have c1:=hk.lt;have d0:=hM.ly;have c9:=hM.lt;have b8:=(hM.y.out.blk ka.gy t10).2;obtain⟨j,hj,d1⟩:∃j:Nat,j<6/\o.y=(j:Int)+1:=⟨(o.y-1).toNat,oo,oo⟩;have b1:(o.y-1).toNat=j:=by omega
 have a9:m.p.y o.y=(m.ys.getD j yq0).p:=by rw[k4m,b1]
 refine we [(0,pta ka.gk),(1,opV o)] func55 U ntmps55 U (.c2 U U) ?_;have a4:=hM;refine sr<|bx U<|λg3 w1 b9 D q1 z1=>(asg U<|nn<|sq ?_);have hM:=a4.ext q1;intro a h;refine z0h none (λwb w'=>Fr [] wb w') z2s ?_;intro w2 q2;have z2:=q2.size;have hM:=hM.ext q2;have hk:=hk.ext<|q1.n1 q2;have D:=D.ext q2;have hC:Fr [] w2 w2:=l12 _ _;have a0:=hM;have Z:=hk;have I:=D;refine z0e 0 h U λa h=>z0p 1 h U λa h=>z0c 2 h U z3s U λa h=>z0m 3 h U (λ_ hw=>Z.ext hw) U y5e U λa h=>z0c 4 h U z4h U λa h=>z0m 5 h U (λ_ hw=>I.ext hw) U na5 U λa h=>z3a 6 h U t23 U λa h=>z1e (p:=j) (yq0) 7 h U hM.y.out.sl U y4x U λb7 b3 a h=>z2d (cs:=z3l.enc<|m.ys.getD j yq0) 8 h wn U (λ_ hw=>b3 _ (a0.ext hw).y.out.sl) z3m U λa h=>z0c 9 h U z9k U λa h=>z0m 10 h U (λ_ hw=>I.ext hw) U x2r U λa h=>?_;refine z1u 11 15 kr U ?_ ?_;refine z0n h (z0a U<|z0a U z0f) (mkC func106) (x3f (m.ys.getD j yq0) o.d _ (hM.y.ins j oo).sl) ?_;rintro _ w3 ⟨qn,rfl,a7,q3⟩ a h;have z3:=q3.size;have hk:=hk.ext q3;have D:=D.ext q3;have hC:=hC.next q3;refine z0b<|z0e 12 h U λa h=>z0k 13 h U λa h=>z0k 14 h U λa h=>z0d 15 U<|z0u h z6m U λw4 O q4 hz a h=>?_;obtain⟨a3,hg⟩:∃g,g=w3.heap.size:=⟨_,rfl⟩;rw[<-hg]at O h hz;have b5.gk_5:ka.gk<a3:=by have:=hk.lt;omega
 have b2:g3<a3:=by have:=D.lt;omega
 have z4:=q4.size;have hM:=hM.ext<|q3.n1 q4;have hk:=hk.ext q4;have D:=D.ext q4;have hC:=hC.next q4;refine z0b<|z0d 16 U<|z0t h U O U z3n ?_ (h1:=(by first|(simp[Value.oneCell',S];done)|exact z3l.one<|m.ys.getD j yq0));intro w5 a6 q5 hz a h;have z5:=q5.size;have hk:=hk.fr q5;have D:=D.fr q5;have hC:=hC.sp q5;have O:Blk w5 a3 _ [_,_,_,_,_]:=a6;clear a6;refine z0b<|z0d 17 U<|z0o h U λa h=>?_;refine z0b<|z0q ?_;clear hC a0 Z I;refine bk (h.sub (L':=ll4 0 3 5 6)<|csu U)<|tn<|sq<|sr<|mv U U<|eq' U<|nn<|cd U (λc0=>?_)<|λc0=>?_;obtain rfl:=a7 c0;have hM:=a4.ext<|q1.z4 q2 q3 q4 q5;intro a h;refine z0h (some 9) (λwb w'=>Fr [] wb w') z2s ?_;intro w6 q6;have z6:=q6.size;have hM:=hM.ext q6;have hk:=hk.ext q6;have D:=D.ext q6;have O:=O.ext q6;have hC:Fr [] w6 w6:=l12 _ _;have a0:=hM;have Z:=hk;have I:=D;have a1:=O;refine z0e 0 h U λa h=>z0p 1 h U λa h=>z0c 2 h U z3s U λa h=>z0m 3 h U (λ_ hw=>Z.ext hw) U y5e U λa h=>z0c 4 h U z4h U λa h=>z0m 5 h U (λ_ hw=>I.ext hw) U na5 U λa h=>z3a 6 h U t23 U λa h=>z0x 7 h U (λ_ hw=>a1.ext hw) z3m U λa h=>z1m 8 kr hC (p:=j) h wn U y4x oo oo oo U U λa h=>z0d 9 U<|z1a (i:=j) (⟨true,if o.d=1 then 179 else -13,(m.ys.getD j yq0).ct,true,sv0,[]⟩:YQ) h U hM.y.out (by rw[hM.ly];exact hj) U z3n λw7 a2 q7 _hz a h=>?_;have hM:=hM.yarn mtd hj a2 q7<|Own.nil _;have a4:=hM;clear a2;have z7:=q7.size;have D:=D.fr q7;have O:=O.fr q7;have hk:=hM.k;clear _hz;refine z1l<|z0q ?_;clear hC a0 Z I a1;refine bk (h.sub (L':=ll1 6)<|csu U)<|tn<|sr<|mv U U<|asg U<|nn<|rt<|r1 results55 U ?_;exact⟨_,rfl,by rw[c0];exact MRet.ok (by unfold inM;rw[a9,if_neg (λe=>e c0)];exact congrArg Except.ok (y1g m (⟨true,if o.d=1 then 179 else -13,(m.ys.getD j yq0).ct,true,sv0,[]⟩:YQ) b1).symm) hM⟩;refine sk<|tn<|sr<|mv U U<|asg U<|kpL (ll1 4) (csu U)<|nn<|rt<|r1 results55 U ?_;have hM:=a4.ext<|q1.z4 q2 q3 q4 q5;exact⟨_,rfl,MRet.err (by unfold inM;rw[a9,if_pos c0]) c0 hM.fr⟩;refine z0u h z6m U λw8 O q8 hz a h=>?_;obtain⟨a3,hg⟩:∃g,g=w2.heap.size:=⟨_,rfl⟩;rw[<-hg]at O h hz;have b5.gk_5:ka.gk<a3:=by have:=hk.lt;omega
 have b2:g3<a3:=by have:=D.lt;omega
 have z8:=q8.size;have hM:=hM.ext q8;have hC:=hC.next q8;refine z0b<|z0d 11 U<|z0n h (z0a U<|z0a U z0f) (mkC func106) (x3f (m.ys.getD j yq0) o.d _ (hM.y.ins j oo).sl) ?_;rintro _ w9 ⟨qn,rfl,a7,q9⟩ a h;have z9:=q9.size;have hM:=hM.ext q9;have hk:=hk.ext<|q8.n1 q9;have D:=D.ext<|q8.n1 q9;have O:=O.ext q9;have hC:=hC.next q9;refine z0b<|z0e 12 h U λa h=>z0k 13 h U λa h=>z0k 14 h U λa h=>z0d 16 U<|z0t h U O U z3n ?_ (h1:=(by first|(simp[Value.oneCell',S];done)|exact z3l.one<|m.ys.getD j yq0));intro b6 a6 a5 hz a h;have d5:=a5.size;have hk:=hk.fr a5;have D:=D.fr a5;have hC:=hC.sp a5;have O:Blk b6 a3 _ [_,_,_,_,_]:=a6;clear a6;refine z0b<|z0d 17 U<|z0o h U λa h=>?_;refine z0b<|z0q ?_;clear hC a0 Z I;refine bk (h.sub (L':=ll4 0 3 5 6)<|csu U)<|tn<|sq<|sr<|mv U U<|eq' U<|nn<|cd U (λc0=>?_)<|λc0=>?_;obtain rfl:=a7 c0;have hM:=a4.ext<|q1.z4 q2 q8 q9 a5;intro a h;refine z0h (some 9) (λwb w'=>Fr [] wb w') z2s ?_;intro b4 a8;have d6:=a8.size;have hM:=hM.ext a8;have hk:=hk.ext a8;have D:=D.ext a8;have O:=O.ext a8;have hC:Fr [] b4 b4:=l12 _ _;have a0:=hM;have Z:=hk;have I:=D;have a1:=O;refine z0e 0 h U λa h=>z0p 1 h U λa h=>z0c 2 h U z3s U λa h=>z0m 3 h U (λ_ hw=>Z.ext hw) U y5e U λa h=>z0c 4 h U z4h U λa h=>z0m 5 h U (λ_ hw=>I.ext hw) U na5 U λa h=>z3a 6 h U t23 U λa h=>z0x 7 h U (λ_ hw=>a1.ext hw) z3m U λa h=>z1m 8 kr hC (p:=j) h wn U y4x oo oo oo U U λa h=>z0d 9 U<|z1a (i:=j) (⟨true,if o.d=1 then 179 else -13,(m.ys.getD j yq0).ct,true,sv0,[]⟩:YQ) h U hM.y.out (by rw[hM.ly];exact hj) U z3n λd4 a2 b0 _hz a h=>?_;have hM:=hM.yarn mtd hj a2 b0<|Own.nil _;have a4:=hM;clear a2;have d7:=b0.size;have D:=D.fr b0;have O:=O.fr b0;have hk:=hM.k;clear _hz;refine z1l<|z0q ?_;clear hC a0 Z I a1;refine bk (h.sub (L':=ll1 6)<|csu U)<|tn<|sr<|mv U U<|asg U<|nn<|rt<|r1 results55 U ?_;exact⟨_,rfl,by rw[c0];exact MRet.ok (by unfold inM;rw[a9,if_neg (λe=>e c0)];exact congrArg Except.ok (y1g m (⟨true,if o.d=1 then 179 else -13,(m.ys.getD j yq0).ct,true,sv0,[]⟩:YQ) b1).symm) hM⟩;refine sk<|tn<|sr<|mv U U<|asg U<|kpL (ll1 4) (csu U)<|nn<|rt<|r1 results55 U ?_;have hM:=a4.ext<|q1.z4 q2 q8 q9 a5;exact⟨_,rfl,MRet.err (by unfold inM;rw[a9,if_pos c0]) c0 hM.fr⟩
theorem j6w (wS:World)(ka:MA)(m:MQ)(o:MOp)(w0:World)(hM:MkM τd 120 wS ka w0 m)(hy:1<=o.y/\o.y<=6):Rets prog 56 #[pta ka.gk,opV o] w0 λr w'=>MRet τd 120 wS ka (x6z m.p o) r w':=by
 have d3:=hM.fr.size;have hk:=hM.k;have c1:=hk.lt;have d0:=hM.ly;have c9:=hM.lt;have b8:=(hM.y.out.blk ka.gy t10).2;obtain⟨j,hj,d1⟩:∃j:Nat,j<6/\o.y=(j:Int)+1:=⟨(o.y-1).toNat,oo,oo⟩;have b1:(o.y-1).toNat=j:=by omega
 have a9:m.p.y o.y=(m.ys.getD j yq0).p:=by rw[k4m,b1]
 refine we [(0,pta ka.gk),(1,opV o)] func56 U ntmps56 U (.c2 U U) ?_;have a4:=hM;refine sr<|bx U<|λg3 w1 b9 D q1 z1=>(asg U<|nn<|sq ?_);have hM:=a4.ext q1;intro a h;refine z0h none (λwb w'=>Fr [] wb w') z2s ?_;intro w2 q2;have z2:=q2.size;have hM:=hM.ext q2;have hk:=hk.ext<|q1.n1 q2;have D:=D.ext q2;have hC:Fr [] w2 w2:=l12 _ _;have a0:=hM;have Z:=hk;have O:=D;refine z0e 0 h U λa h=>z0p 1 h U λa h=>z0c 2 h U z3s U λa h=>z0m 3 h U (λ_ hw=>Z.ext hw) U y5e U λa h=>z0c 4 h U z4h U λa h=>z0m 5 h U (λ_ hw=>O.ext hw) U na5 U λa h=>z3a 6 h U t23 U λa h=>z1e (p:=j) (yq0) 7 h U hM.y.out.sl U y4x U λb7 b3 a h=>z2d (cs:=z3l.enc<|m.ys.getD j yq0) 8 h wn U (λ_ hw=>b3 _ (a0.ext hw).y.out.sl) z3m U λa h=>z1u 9 13 kr U ?_ ?_;refine z0n h (z0a U z0f) (mkC func107) (x4z (m.ys.getD j yq0) _ (hM.y.ins j oo).sl) ?_;rintro _ w3 ⟨qn,rfl,a7,q3⟩ a h;have z3:=q3.size;have hk:=hk.ext q3;have D:=D.ext q3;have hC:=hC.next q3;refine z0b<|z0e 10 h U λa h=>z0k 11 h U λa h=>z0k 12 h U λa h=>z0d 13 U<|z0u h z6m U λw4 I q4 hz a h=>?_;obtain⟨a3,hg⟩:∃g,g=w3.heap.size:=⟨_,rfl⟩;rw[<-hg]at I h hz;have b5.gk_5:ka.gk<a3:=by have:=hk.lt;omega
 have b2:g3<a3:=by have:=D.lt;omega
 have z4:=q4.size;have hM:=hM.ext<|q3.n1 q4;have hk:=hk.ext q4;have D:=D.ext q4;have hC:=hC.next q4;refine z0b<|z0d 14 U<|z0t h U I U z3n ?_ (h1:=(by first|(simp[Value.oneCell',S];done)|exact z3l.one<|m.ys.getD j yq0));intro w5 a6 q5 hz a h;have z5:=q5.size;have hk:=hk.fr q5;have D:=D.fr q5;have hC:=hC.sp q5;have I:Blk w5 a3 _ [_,_,_,_,_]:=a6;clear a6;refine z0b<|z0d 15 U<|z0o h U λa h=>?_;refine z0b<|z0q ?_;clear hC a0 Z O;refine bk (h.sub (L':=ll4 0 3 5 6)<|csu U)<|tn<|sq<|sr<|mv U U<|eq' U<|nn<|cd U (λc0=>?_)<|λc0=>?_;obtain rfl:=a7 c0;have hM:=a4.ext<|q1.z4 q2 q3 q4 q5;intro a h;refine z0h (some 9) (λwb w'=>Fr [] wb w') z2s ?_;intro w6 q6;have z6:=q6.size;have hM:=hM.ext q6;have hk:=hk.ext q6;have D:=D.ext q6;have I:=I.ext q6;have hC:Fr [] w6 w6:=l12 _ _;have a0:=hM;have Z:=hk;have O:=D;have a1:=I;refine z0e 0 h U λa h=>z0p 1 h U λa h=>z0c 2 h U z3s U λa h=>z0m 3 h U (λ_ hw=>Z.ext hw) U y5e U λa h=>z0c 4 h U z4h U λa h=>z0m 5 h U (λ_ hw=>O.ext hw) U na5 U λa h=>z3a 6 h U t23 U λa h=>z0x 7 h U (λ_ hw=>a1.ext hw) z3m U λa h=>z1m 8 kr hC (p:=j) h wn U y4x oo oo oo U U λa h=>z0d 9 U<|z1a (i:=j) (⟨false,0,(m.ys.getD j yq0).ct,false,sv0,[]⟩:YQ) h U hM.y.out (by rw[hM.ly];exact hj) U z3n λw7 a2 q7 _hz a h=>?_;have hM:=hM.yarn mtd hj a2 q7<|Own.nil _;have a4:=hM;clear a2;have z7:=q7.size;have D:=D.fr q7;have I:=I.fr q7;have hk:=hM.k;clear _hz;refine z1l<|z0q ?_;clear hC a0 Z O a1;refine bk (h.sub (L':=ll1 6)<|csu U)<|tn<|sr<|mv U U<|asg U<|nn<|rt<|r1 results56 U ?_;exact⟨_,rfl,by rw[c0];exact MRet.ok (by unfold x6z;rw[a9,if_neg (λe=>e c0)];exact congrArg Except.ok (y1g m (⟨false,0,(m.ys.getD j yq0).ct,false,sv0,[]⟩:YQ) b1).symm) hM⟩;refine sk<|tn<|sr<|mv U U<|asg U<|kpL (ll1 4) (csu U)<|nn<|rt<|r1 results56 U ?_;have hM:=a4.ext<|q1.z4 q2 q3 q4 q5;exact⟨_,rfl,MRet.err (by unfold x6z;rw[a9,if_pos c0]) c0 hM.fr⟩;refine z0u h z6m U λw8 I q8 hz a h=>?_;obtain⟨a3,hg⟩:∃g,g=w2.heap.size:=⟨_,rfl⟩;rw[<-hg]at I h hz;have b5.gk_5:ka.gk<a3:=by have:=hk.lt;omega
 have b2:g3<a3:=by have:=D.lt;omega
 have z8:=q8.size;have hM:=hM.ext q8;have hC:=hC.next q8;refine z0b<|z0d 9 U<|z0n h (z0a U z0f) (mkC func107) (x4z (m.ys.getD j yq0) _ (hM.y.ins j oo).sl) ?_;rintro _ w9 ⟨qn,rfl,a7,q9⟩ a h;have z9:=q9.size;have hM:=hM.ext q9;have hk:=hk.ext<|q8.n1 q9;have D:=D.ext<|q8.n1 q9;have I:=I.ext q9;have hC:=hC.next q9;refine z0b<|z0e 10 h U λa h=>z0k 11 h U λa h=>z0k 12 h U λa h=>z0d 14 U<|z0t h U I U z3n ?_ (h1:=(by first|(simp[Value.oneCell',S];done)|exact z3l.one<|m.ys.getD j yq0));intro b6 a6 a5 hz a h;have d5:=a5.size;have hk:=hk.fr a5;have D:=D.fr a5;have hC:=hC.sp a5;have I:Blk b6 a3 _ [_,_,_,_,_]:=a6;clear a6;refine z0b<|z0d 15 U<|z0o h U λa h=>?_;refine z0b<|z0q ?_;clear hC a0 Z O;refine bk (h.sub (L':=ll4 0 3 5 6)<|csu U)<|tn<|sq<|sr<|mv U U<|eq' U<|nn<|cd U (λc0=>?_)<|λc0=>?_;obtain rfl:=a7 c0;have hM:=a4.ext<|q1.z4 q2 q8 q9 a5;intro a h;refine z0h (some 9) (λwb w'=>Fr [] wb w') z2s ?_;intro b4 a8;have d6:=a8.size;have hM:=hM.ext a8;have hk:=hk.ext a8;have D:=D.ext a8;have I:=I.ext a8;have hC:Fr [] b4 b4:=l12 _ _;have a0:=hM;have Z:=hk;have O:=D;have a1:=I;refine z0e 0 h U λa h=>z0p 1 h U λa h=>z0c 2 h U z3s U λa h=>z0m 3 h U (λ_ hw=>Z.ext hw) U y5e U λa h=>z0c 4 h U z4h U λa h=>z0m 5 h U (λ_ hw=>O.ext hw) U na5 U λa h=>z3a 6 h U t23 U λa h=>z0x 7 h U (λ_ hw=>a1.ext hw) z3m U λa h=>z1m 8 kr hC (p:=j) h wn U y4x oo oo oo U U λa h=>z0d 9 U<|z1a (i:=j) (⟨false,0,(m.ys.getD j yq0).ct,false,sv0,[]⟩:YQ) h U hM.y.out (by rw[hM.ly];exact hj) U z3n λd4 a2 b0 _hz a h=>?_;have hM:=hM.yarn mtd hj a2 b0<|Own.nil _;have a4:=hM;clear a2;have d7:=b0.size;have D:=D.fr b0;have I:=I.fr b0;have hk:=hM.k;clear _hz;refine z1l<|z0q ?_;clear hC a0 Z O a1;refine bk (h.sub (L':=ll1 6)<|csu U)<|tn<|sr<|mv U U<|asg U<|nn<|rt<|r1 results56 U ?_;exact⟨_,rfl,by rw[c0];exact MRet.ok (by unfold x6z;rw[a9,if_neg (λe=>e c0)];exact congrArg Except.ok (y1g m (⟨false,0,(m.ys.getD j yq0).ct,false,sv0,[]⟩:YQ) b1).symm) hM⟩;refine sk<|tn<|sr<|mv U U<|asg U<|kpL (ll1 4) (csu U)<|nn<|rt<|r1 results56 U ?_;have hM:=a4.ext<|q1.z4 q2 q8 q9 a5;exact⟨_,rfl,MRet.err (by unfold x6z;rw[a9,if_pos c0]) c0 hM.fr⟩
theorem z4k:z1d prog 120 0 0:=λ_ _=>kr
theorem x8r (wS:World)(ka:MA)(m:MQ)(o:MOp)(w0:World)(hM:MkM τd 120 wS ka w0 m)(hi:MInv m.p)(hy:1<=o.y/\o.y<=6)(hn:z4a o.b o.p=0):Rets prog 109 #[pta ka.gk,opV o] w0 λr w'=>r=.tuple #[.int .i64 (if z5q m.p o=0 then z6p m.p o else 0),.int .i64 (if z5q m.p o=0 then (z2c o.b o.p m.rk) else 0),.int .i64 (z5q m.p o)]/\Fr [] w0 w':=by
 have b8:=hM.fr.size;have hk:=hM.k;have b2:=hk.lt;have b4:=hM.ly;have b3:=hM.lt;have b0:=(hM.y.out.blk ka.gy t10).2;obtain⟨j,hj,b6⟩:∃j:Nat,j<6/\o.y=(j:Int)+1:=⟨(o.y-1).toNat,oo,oo⟩;have a7:(o.y-1).toNat=j:=by omega
 have O:m.p.y o.y=(m.ys.getD j yq0).p:=by rw[k4m,a7]
 have b7:=y6e o.b o.p m.rk;have b5:=z2w hn;refine we [(0,pta ka.gk),(1,opV o)] func109 U ntmps109 U (.c2 U U) ?_;have a6:=hM;refine sr<|bx U<|λg3 w1 b1 D q1 z1=>(asg U<|asg U<|asg U<|nn<|sq ?_);have hM:=a6.ext q1;intro a h;refine z0h none (λwb w'=>Fr [] wb w') z2s ?_;intro w2 q2;have z2:=q2.size;have hM:=hM.ext q2;have hk:=hk.ext<|q1.n1 q2;have D:=D.ext q2;have hC:Fr [] w2 w2:=l12 _ _;have a2:=hM;have a1:=hk;have Z:=D;refine z0e 0 h U λa h=>z0p 1 h U λa h=>z0c 2 h U z3s U λa h=>z0m 3 h U (λ_ hw=>a1.ext hw) U y5e U λa h=>z0c 4 h U z4h U λa h=>z0m 5 h U (λ_ hw=>Z.ext hw) U na5 U λa h=>z3a 6 h U t23 U λa h=>z1e (p:=j) (yq0) 7 h U hM.y.out.sl U y4x U λa9 a5 a h=>z2d (cs:=z3l.enc<|m.ys.getD j yq0) 8 h wn U (λ_ hw=>a5 _ (a2.ext hw).y.out.sl) z3m U λa h=>z0c 9 h U z5n U λa h=>z1h (vs:=[_,_]) 10 h U (λ_ hw=>(Z.ext hw)) z5o U U λa h=>?_;refine z0e 11 h U λa h=>z0p 12 h U λa h=>z0c 13 h U z4k U λa h=>z0m 14 h U (λ_ hw=>a1.ext hw) U na3 U λa h=>z1u 15 16 kr U ?_ ?_;refine z0n h (z0a U<|z0a U z0f) v3o (y3q _ _ _ _ (by have:=hi.rk;omega)) ?_;rintro _ w3 ⟨rfl,q3⟩ a h;have z3:=q3.size;have hk:=hk.ext q3;have D:=D.ext q3;have hC:=hC.next q3;refine z0b<|z0d 16 U<|z0u h z6m U λw4 I q4 hz a h=>?_;obtain⟨a0,hg⟩:∃g,g=w3.heap.size:=⟨_,rfl⟩;rw[<-hg]at I h hz;have a8.gk_7:ka.gk<a0:=by have:=hk.lt;omega
 have a4:g3<a0:=by have:=D.lt;omega
 have z4:=q4.size;have hM:=hM.ext<|q3.n1 q4;have hk:=hk.ext q4;have D:=D.ext q4;have hC:=hC.next q4;refine z0b<|z0d 17 U<|z0t h U I U z3n ?_ (h1:=(by first|(simp[Value.oneCell',S];done)|exact z3l.one<|m.ys.getD j yq0));intro w5 a3 q5 hz a h;have z5:=q5.size;have hk:=hk.fr q5;have D:=D.fr q5;have hC:=hC.sp q5;have I:Blk w5 a0 _ [_,_,_,_,_]:=a3;clear a3;refine z0b<|z0d 18 U<|z0o h U λa h=>?_;refine z0b<|z0q ?_;clear hC a2 a1 Z;refine bk (h.sub (L':=ll3 3 5 7)<|csu U)<|tn<|sq<|sr<|fad U z8p<|z0i U I U na4<|nt' U<|nn<|cd U (λc0=>?_)<|λc0=>?_;refine sr<|asg U<|asg U<|asg U<|nn<|rt<|tr<|r3 results109 U U U ?_;have he:z5q m.p o=12:=by unfold z5q;rw[O,if_pos (by simpa using c0)]
 exact⟨_,rfl,by rw[he];rfl,(q1.z4 q2 q3 q4 q5)⟩;refine sk<|tn<|sq<|sr<|fad U z9k<|z0i U D U x2r<|eq' U<|nn<|cd U (λc1=>?_)<|λc1=>?_;refine sq<|sr<|fad U z5y<|z0i U I U na3<|mv U U<|gt' U<|nn<|cd U (λc2=>?_)<|λc2=>?_;refine sr<|asg U<|asg U<|asg U<|nn<|rt<|tr<|tr<|r3 results109 U U U ?_;have he:z5q m.p o=12:=by unfold z5q;rw[O,if_neg (by simpa using c0),if_pos c1,if_pos c2]
 exact⟨_,rfl,by rw[he];rfl,(q1.z4 q2 q3 q4 q5)⟩;refine sk<|tn<|sr<|mv U U<|z0w U (wi6 oo)<|mv U U<|asg U<|asg U<|asg U<|nn<|rt<|tr<|r3 results109 U U U ?_;have he:z5q m.p o=0:=by unfold z5q;rw[O,if_neg (by simpa using c0),if_pos c1,if_neg c2]
 exact⟨_,rfl,by rw[he];rw[if_pos U,if_pos U,z6p,if_pos c1],(q1.z4 q2 q3 q4 q5)⟩;refine sk<|tn<|sq<|sr<|fad U z5y<|z0i U I U na3<|mv U U<|lt' U<|nn<|cd U (λc3=>?_)<|λc3=>?_;refine sr<|asg U<|asg U<|asg U<|nn<|rt<|tr<|r3 results109 U U U ?_;have he:z5q m.p o=12:=by unfold z5q;rw[O,if_neg (by simpa using c0),if_neg c1,if_pos c3]
 exact⟨_,rfl,by rw[he];rfl,(q1.z4 q2 q3 q4 q5)⟩;refine sk<|tn<|sr<|mv U U<|z2f U (wi6 oo)<|mv U U<|asg U<|asg U<|asg U<|nn<|rt<|r3 results109 U U U ?_;have he:z5q m.p o=0:=by unfold z5q;rw[O,if_neg (by simpa using c0),if_neg c1,if_neg c3]
 exact⟨_,rfl,by rw[he];rw[if_pos U,if_pos U,z6p,if_neg c1],(q1.z4 q2 q3 q4 q5)⟩;refine z0u h z6m U λw6 I q6 hz a h=>?_;obtain⟨a0,hg⟩:∃g,g=w2.heap.size:=⟨_,rfl⟩;rw[<-hg]at I h hz;have a8.gk_7:ka.gk<a0:=by have:=hk.lt;omega
 have a4:g3<a0:=by have:=D.lt;omega
 have z6:=q6.size;have hC:=hC.next q6;refine z0b<|z0d 15 U<|z0n h (z0a U<|z0a U z0f) v3o (y3q _ _ _ _ (by have:=hi.rk;omega)) ?_;rintro _ w7 ⟨rfl,q7⟩ a h;have z7:=q7.size;have hM:=hM.ext<|q6.n1 q7;have hk:=hk.ext<|q6.n1 q7;have D:=D.ext<|q6.n1 q7;have I:=I.ext q7;have hC:=hC.next q7;refine z0b<|z0d 17 U<|z0t h U I U z3n ?_ (h1:=(by first|(simp[Value.oneCell',S];done)|exact z3l.one<|m.ys.getD j yq0));intro w8 a3 q8 hz a h;have z8:=q8.size;have hk:=hk.fr q8;have D:=D.fr q8;have hC:=hC.sp q8;have I:Blk w8 a0 _ [_,_,_,_,_]:=a3;clear a3;refine z0b<|z0d 18 U<|z0o h U λa h=>?_;refine z0b<|z0q ?_;clear hC a2 a1 Z;refine bk (h.sub (L':=ll3 3 5 7)<|csu U)<|tn<|sq<|sr<|fad U z8p<|z0i U I U na4<|nt' U<|nn<|cd U (λc0=>?_)<|λc0=>?_;refine sr<|asg U<|asg U<|asg U<|nn<|rt<|tr<|r3 results109 U U U ?_;have he:z5q m.p o=12:=by unfold z5q;rw[O,if_pos (by simpa using c0)]
 exact⟨_,rfl,by rw[he];rfl,(q1.z4 q2 q6 q7 q8)⟩;refine sk<|tn<|sq<|sr<|fad U z9k<|z0i U D U x2r<|eq' U<|nn<|cd U (λc1=>?_)<|λc1=>?_;refine sq<|sr<|fad U z5y<|z0i U I U na3<|mv U U<|gt' U<|nn<|cd U (λc2=>?_)<|λc2=>?_;refine sr<|asg U<|asg U<|asg U<|nn<|rt<|tr<|tr<|r3 results109 U U U ?_;have he:z5q m.p o=12:=by unfold z5q;rw[O,if_neg (by simpa using c0),if_pos c1,if_pos c2]
 exact⟨_,rfl,by rw[he];rfl,(q1.z4 q2 q6 q7 q8)⟩;refine sk<|tn<|sr<|mv U U<|z0w U (wi6 oo)<|mv U U<|asg U<|asg U<|asg U<|nn<|rt<|tr<|r3 results109 U U U ?_;have he:z5q m.p o=0:=by unfold z5q;rw[O,if_neg (by simpa using c0),if_pos c1,if_neg c2]
 exact⟨_,rfl,by rw[he];rw[if_pos U,if_pos U,z6p,if_pos c1],(q1.z4 q2 q6 q7 q8)⟩;refine sk<|tn<|sq<|sr<|fad U z5y<|z0i U I U na3<|mv U U<|lt' U<|nn<|cd U (λc3=>?_)<|λc3=>?_;refine sr<|asg U<|asg U<|asg U<|nn<|rt<|tr<|r3 results109 U U U ?_;have he:z5q m.p o=12:=by unfold z5q;rw[O,if_neg (by simpa using c0),if_neg c1,if_pos c3]
 exact⟨_,rfl,by rw[he];rfl,(q1.z4 q2 q6 q7 q8)⟩;refine sk<|tn<|sr<|mv U U<|z2f U (wi6 oo)<|mv U U<|asg U<|asg U<|asg U<|nn<|rt<|r3 results109 U U U ?_;have he:z5q m.p o=0:=by unfold z5q;rw[O,if_neg (by simpa using c0),if_neg c1,if_neg c3]
 exact⟨_,rfl,by rw[he];rw[if_pos U,if_pos U,z6p,if_neg c1],(q1.z4 q2 q6 q7 q8)⟩
theorem z3r:z1d prog 120 1 1:=λ_ _=>kr
theorem x7v (wS:World)(ka:MA)(m:MQ)(yy pl en:Int)(w0:World)(hM:MkM τd 120 wS ka w0 m)(hi:MInv m.p)(hy:1<=yy/\yy<=6):Rets prog 110 #[pta ka.gk,.int .u8 yy,.int .i64 pl,.int .i64 en] w0 λr w'=>MRet τd 120 wS ka (z9d m.p yy pl en) r w':=by
 have g5:=hM.fr.size;have O:=hM.k;have g0:=O.lt;have g3:=hM.ly;have g1:=hM.lt;have f5:=(hM.y.out.blk ka.gy t10).2;obtain⟨j,hj,g4⟩:∃j:Nat,j<6/\yy=(j:Int)+1:=⟨(yy-1).toNat,oo,oo⟩;have e1:(yy-1).toNat=j:=by omega
 have c9:m.p.y yy=(m.ys.getD j yq0).p:=by rw[k4m,e1]
 have f7:=u0u (z2k m.q.p m.rk) (m.ys.getD j yq0).pl en;have hN:=x0w hi.B;have f9:(z2k m.q.p m.rk).length<=320:=by unfold z2k;rw[z4w,z8q];exact hN
 refine we [(0,pta ka.gk),(1,.int .u8 yy),(2,.int .i64 pl),(3,.int .i64 en)] func110 U ntmps110 U (.c4 U U U U) ?_;have a9:=hM;refine sr<|asg U<|nn<|sq ?_;intro a h;refine z0h none (λwb w'=>Fr [] wb w') z2s ?_;intro w1 q1;have z1:=q1.size;have hM:=hM.ext q1;have O:=O.ext q1;have hC:Fr [] w1 w1:=l12 _ _;have a4:=hM;have a1:=O;refine z0e 0 h U λa h=>z0p 1 h U λa h=>z0c 2 h U z3r U λa h=>z1h (vs:=[_,_]) 3 h U (λ_ hw=>(a1.ext hw)) z5e U U λa h=>z0e 4 h U λa h=>z0p 5 h U λa h=>z0c 6 h U z4k U λa h=>z0m 7 h U (λ_ hw=>a1.ext hw) U na3 U λa h=>z0d 8 U<|z0n h (z0a U<|z0a U z0f) (mkC func73) (v8o m.q m.rk _ hM.b.at hi.B hi.rk) ?_;rintro _ w2 ⟨⟨g9,rfl,f8,hL⟩,hq⟩ a h;have z2:=hq.size;have hM:=hM.ext hq;have O:=O.ext hq;have hC:=hC.next hq;have q2:=hq;have f6:=(hL.blk g9 t10).2;refine z0b<|z0e 9 h U λa h=>z0k 10 h U λa h=>z0k 11 h U λa h=>z0d 12 U<|z0o h U λa h=>?_;refine z0b<|z0d 13 U<|z0o h U λa h=>?_;refine z0b<|z0q ?_;clear hC a4 a1;refine bk (h.sub (L':=ll6 0 1 2 3 9 10)<|csu U)<|tn<|sq<|sr<|mv U U<|ne' U<|nn<|cd U (λc0=>?_)<|λc0=>?_;exact absurd U c0;refine sk<|tn<|sr<|mv U U<|nlc U<|fad U z3s<|z0i U O U y5e<|mv U U<|z2f U (wi8 oo)<|z0z (p:=j) (yq0) U hM.y.out.sl U y4x oo<|λf3 e4=>(z1q U (e4 _ hM.y.out.sl) z3m<|al z6m U<|λe2 w3 f4 D q3 z3=>?_);refine z0j (vs:=[_,_,_,_,_]) U D z3n (λw4 D q4 z4=>?_) (h1:=(by first|(simp[Value.oneCell',S];done)|exact z3l.one<|m.ys.getD j yq0));refine kpL (ll6 0 1 2 3 9 11) (csu U)<|nn<|sq ?_;have hM:=a9.ext<|q1.z3 q2 q3 q4;have O:=(O.ext q3).fr q4;have hL:=(hL.ext q3).fr q4 (by first|exact z9m hL oo|simp[z0v]<;>omega);intro a h;refine z0h none (λwb w'=>Fr [] wb w') z2s ?_;intro w5 q5;have z5:=q5.size;have hM:=hM.ext q5;have O:=O.ext q5;have hL:=hL.ext q5;have D:=D.ext q5;have hC:Fr [] w5 w5:=l12 _ _;have a4:=hM;have a1:=O;have d6:=hL;have a0:=D;refine z0x 0 h U (λ_ hw=>a0.ext hw) z3m U λa h=>z0e 1 h U λa h=>z0e 2 h U λa h=>z0c 3 h U z5y U λa h=>z0m 4 h U (λ_ hw=>a0.ext hw) U na3 U λa h=>z0e 5 h U λa h=>z1u 6 11 kr U ?_ ?_;refine z0n h (z0a U<|z0a U<|z0a U z0f) (mkC func145) (j1v _ (z2k m.q.p m.rk) (m.ys.getD j yq0).pl en _ hL.sl oo) ?_;rintro _ w6 ⟨⟨e3,rfl,e5,hW⟩,q6⟩ a h;have z6:=q6.size;have hM:=hM.ext q6;have O:=O.ext q6;have hL:=hL.ext q6;have D:=D.ext q6;have hC:=hC.next q6;have f0:=(hW.blk e3 t10).2;refine z0b<|z1u 7 11 kr U ?_ ?_;refine z0n h (z0a U<|z0a U<|z0a U z0f) (mkC func143) (v2i (m.ys.getD j yq0) pl _ (btw (z2k m.q.p m.rk) (m.ys.getD j yq0).pl en) _ (hM.y.ins j oo).sl hW.sl (λk O=>(hW.blk k O).2) oo) ?_;rintro _ w7 ⟨qn,rfl,b7,q7⟩ a h;have z7:=q7.size;have O:=O.ext q7;have D:=D.ext q7;have hC:=hC.next q7;have Z:OwnIf ((goE (m.ys.getD j yq0).p pl<|btw (z2k m.q.p m.rk) (m.ys.getD j yq0).pl en)=0) z2i 172 _ _ (slv qn.pe) qn.pes:=λhc=>(b7 hc).2;have b5:=λhc k O=>((Z hc).blk k O).2;refine z0b<|z0e 8 h U λa h=>z0k 9 h U λa h=>z0k 10 h U λa h=>z0d 11 U<|z0u h z6m U λw8 I q8 hz a h=>?_;obtain⟨a3,hg⟩:∃g,g=w7.heap.size:=⟨_,rfl⟩;rw[<-hg]at I h hz;have e6.gk_12:ka.gk<a3:=by have:=O.lt;omega
 have b8:e2<a3:=by have:=D.lt;omega
 have z8:=q8.size;have hM:=hM.ext<|q7.n1 q8;have O:=O.ext q8;have hL:=hL.ext<|q7.n1 q8;have D:=D.ext q8;have hW:=hW.ext<|q7.n1 q8;have Z:=Z.ext q8;have hC:=hC.next q8;refine z0b<|z0d 12 U<|z0t h U I U z3n ?_ (h1:=(by first|(simp[Value.oneCell',S];done)|exact z3l.one<|m.ys.getD j yq0));intro w9 b6 q9 hz a h;have z9:=q9.size;have O:=O.fr q9;have hL:=hL.fr q9 t28;have D:=D.fr q9;have hW:=hW.fr q9 t28;have Z:=Z.fr q9 (by intro a6 k O a5;simp at O;subst O;have d4:=b5 a6 _ a5;have d5:=(Z a6).blk _ a5;omega);have hC:=hC.sp q9;have I:Blk w9 a3 _ [_,_,_,_,_]:=b6;clear b6;refine z0b<|z0d 13 U<|z0o h U λa h=>?_;refine z0b<|z0q ?_;clear hC a4 a1 d6 a0;refine bk (h.sub (L':=ll4 0 1 10 12)<|csu U)<|tn<|sq<|sr<|mv U U<|eq' U<|nn<|cd U (λc1=>?_)<|λc1=>?_;have hM:=a9.ext<|((q1.z6 q2 q3 q4 q5 q6 q7).n1 q8).z1 q9;intro a h;refine z0h (some 8) (λwb w'=>Fr [] wb w') z2s ?_;intro e7 d0;have h6:=d0.size;have hM:=hM.ext d0;have O:=O.ext d0;have D:=D.ext d0;have Z:=Z.ext d0;have I:=I.ext d0;have hC:Fr [] e7 e7:=l12 _ _;have a4:=hM;have a1:=O;have a0:=D;have a8:=Z;have a2:=I;refine z0e 0 h U λa h=>z0p 1 h U λa h=>z0c 2 h U z3s U λa h=>z0m 3 h U (λ_ hw=>a1.ext hw) U y5e U λa h=>z0e 4 h U λa h=>z3a 5 h U t23 U λa h=>z0x 6 h U (λ_ hw=>a2.ext hw) z3m U λa h=>z1m 7 kr hC (p:=j) h wn U y4x oo oo oo U U λa h=>z0d 8 U<|z1a (i:=j) (qn:YQ) h U hM.y.out (by rw[hM.ly];exact hj) U z3n λg6 a7 d7 _hz a h=>?_;have hM:=hM.yarn mtd hj a7 d7<|(Z c1).low oo;have a9:=hM;clear a7;have h7:=d7.size;have D:=D.fr d7;have Z:=Z.fr d7 (by intro a6 k O a5;simp at O;subst O;have d4:=b5 a6 _ a5;have d5:=(Z a6).blk _ a5;omega);have I:=I.fr d7;have O:=hM.k;clear _hz;refine z1l<|z0q ?_;clear hC a4 a1 a0 a8 a2;refine bk (h.sub (L':=ll1 10)<|csu U)<|tn<|sr<|mv U U<|asg U<|nn<|rt<|r1 results110 U ?_;exact⟨_,rfl,by rw[c1];exact MRet.ok (by unfold z9d y2f;rw[c9,if_neg (λe=>e c1)];exact congrArg Except.ok (by rw[y1g m qn e1,(b7 c1).1])) hM⟩;refine sk<|tn<|sr<|mv U U<|asg U<|kpL (ll1 8) (csu U)<|nn<|rt<|r1 results110 U ?_;have hM:=a9.ext<|((q1.z6 q2 q3 q4 q5 q6 q7).n1 q8).z1 q9;exact⟨_,rfl,MRet.err (by unfold z9d y2f;rw[c9,if_pos c1]) c1 hM.fr⟩;refine z0u h z6m U λg7 I b2 hz a h=>?_;obtain⟨a3,hg⟩:∃g,g=w6.heap.size:=⟨_,rfl⟩;rw[<-hg]at I h hz;have e6.gk_12:ka.gk<a3:=by have:=O.lt;omega
 have b8:e2<a3:=by have:=D.lt;omega
 have h8:=b2.size;have hM:=hM.ext b2;have O:=O.ext b2;have hW:=hW.ext b2;have hC:=hC.next b2;refine z0b<|z0d 7 U<|z0n h (z0a U<|z0a U<|z0a U z0f) (mkC func143) (v2i (m.ys.getD j yq0) pl _ (btw (z2k m.q.p m.rk) (m.ys.getD j yq0).pl en) _ (hM.y.ins j oo).sl hW.sl (λk O=>(hW.blk k O).2) oo) ?_;rintro _ g8 ⟨qn,rfl,b7,b0⟩ a h;have h9:=b0.size;have hM:=hM.ext b0;have O:=O.ext b0;have hL:=hL.ext<|b2.n1 b0;have D:=D.ext<|b2.n1 b0;have hW:=hW.ext b0;have I:=I.ext b0;have hC:=hC.next b0;have Z:OwnIf ((goE (m.ys.getD j yq0).p pl<|btw (z2k m.q.p m.rk) (m.ys.getD j yq0).pl en)=0) z2i 172 _ _ (slv qn.pe) qn.pes:=λhc=>(b7 hc).2;have b5:=λhc k O=>((Z hc).blk k O).2;refine z0b<|z0e 8 h U λa h=>z0k 9 h U λa h=>z0k 10 h U λa h=>z0d 12 U<|z0t h U I U z3n ?_ (h1:=(by first|(simp[Value.oneCell',S];done)|exact z3l.one<|m.ys.getD j yq0));intro f1 b6 b3 hz a h;have i0:=b3.size;have O:=O.fr b3;have hL:=hL.fr b3 t28;have D:=D.fr b3;have hW:=hW.fr b3 t28;have Z:=Z.fr b3 (by intro a6 k O a5;simp at O;subst O;have d4:=b5 a6 _ a5;have d5:=(Z a6).blk _ a5;omega);have hC:=hC.sp b3;have I:Blk f1 a3 _ [_,_,_,_,_]:=b6;clear b6;refine z0b<|z0d 13 U<|z0o h U λa h=>?_;refine z0b<|z0q ?_;clear hC a4 a1 d6 a0;refine bk (h.sub (L':=ll4 0 1 10 12)<|csu U)<|tn<|sq<|sr<|mv U U<|eq' U<|nn<|cd U (λc1=>?_)<|λc1=>?_;have hM:=a9.ext<|((q1.z6 q2 q3 q4 q5 q6 b2).n1 b0).z1 b3;intro a h;refine z0h (some 8) (λwb w'=>Fr [] wb w') z2s ?_;intro e8 d1;have i1:=d1.size;have hM:=hM.ext d1;have O:=O.ext d1;have D:=D.ext d1;have I:=I.ext d1;have Z:=Z.ext d1;have hC:Fr [] e8 e8:=l12 _ _;have a4:=hM;have a1:=O;have a0:=D;have a2:=I;have a8:=Z;refine z0e 0 h U λa h=>z0p 1 h U λa h=>z0c 2 h U z3s U λa h=>z0m 3 h U (λ_ hw=>a1.ext hw) U y5e U λa h=>z0e 4 h U λa h=>z3a 5 h U t23 U λa h=>z0x 6 h U (λ_ hw=>a2.ext hw) z3m U λa h=>z1m 7 kr hC (p:=j) h wn U y4x oo oo oo U U λa h=>z0d 8 U<|z1a (i:=j) (qn:YQ) h U hM.y.out (by rw[hM.ly];exact hj) U z3n λh0 a7 d9 _hz a h=>?_;have hM:=hM.yarn mtd hj a7 d9<|(Z c1).low oo;have a9:=hM;clear a7;have i2:=d9.size;have D:=D.fr d9;have I:=I.fr d9;have Z:=Z.fr d9 (by intro a6 k O a5;simp at O;subst O;have d4:=b5 a6 _ a5;have d5:=(Z a6).blk _ a5;omega);have O:=hM.k;clear _hz;refine z1l<|z0q ?_;clear hC a4 a1 a0 a2 a8;refine bk (h.sub (L':=ll1 10)<|csu U)<|tn<|sr<|mv U U<|asg U<|nn<|rt<|r1 results110 U ?_;exact⟨_,rfl,by rw[c1];exact MRet.ok (by unfold z9d y2f;rw[c9,if_neg (λe=>e c1)];exact congrArg Except.ok (by rw[y1g m qn e1,(b7 c1).1])) hM⟩;refine sk<|tn<|sr<|mv U U<|asg U<|kpL (ll1 8) (csu U)<|nn<|rt<|r1 results110 U ?_;have hM:=a9.ext<|((q1.z6 q2 q3 q4 q5 q6 b2).n1 b0).z1 b3;exact⟨_,rfl,MRet.err (by unfold z9d y2f;rw[c9,if_pos c1]) c1 hM.fr⟩;refine z0u h z6m U λh2 I b9 hz a h=>?_;obtain⟨a3,hg⟩:∃g,g=w5.heap.size:=⟨_,rfl⟩;rw[<-hg]at I h hz;have e6.gk_12:ka.gk<a3:=by have:=O.lt;omega
 have b8:e2<a3:=by have:=D.lt;omega
 have i3:=b9.size;have hL:=hL.ext b9;have hC:=hC.next b9;refine z0b<|z0d 6 U<|z0n h (z0a U<|z0a U<|z0a U z0f) (mkC func145) (j1v _ (z2k m.q.p m.rk) (m.ys.getD j yq0).pl en _ hL.sl oo) ?_;rintro _ h3 ⟨⟨e3,rfl,e5,hW⟩,q18⟩ a h;have i4:=q18.size;have hM:=hM.ext<|b9.n1 q18;have O:=O.ext<|b9.n1 q18;have hC:=hC.next q18;have f0:=(hW.blk e3 t10).2;refine z0b<|z0d 7 U<|z0n h (z0a U<|z0a U<|z0a U z0f) (mkC func143) (v2i (m.ys.getD j yq0) pl _ (btw (z2k m.q.p m.rk) (m.ys.getD j yq0).pl en) _ (hM.y.ins j oo).sl hW.sl (λk O=>(hW.blk k O).2) oo) ?_;rintro _ h4 ⟨qn,rfl,b7,b1⟩ a h;have i5:=b1.size;have hM:=hM.ext b1;have O:=O.ext b1;have hL:=hL.ext<|q18.n1 b1;have D:=D.ext<|b9.n2 q18 b1;have I:=I.ext<|q18.n1 b1;have hW:=hW.ext b1;have hC:=hC.next b1;have Z:OwnIf ((goE (m.ys.getD j yq0).p pl<|btw (z2k m.q.p m.rk) (m.ys.getD j yq0).pl en)=0) z2i 172 _ _ (slv qn.pe) qn.pes:=λhc=>(b7 hc).2;have b5:=λhc k O=>((Z hc).blk k O).2;refine z0b<|z0e 8 h U λa h=>z0k 9 h U λa h=>z0k 10 h U λa h=>z0d 12 U<|z0t h U I U z3n ?_ (h1:=(by first|(simp[Value.oneCell',S];done)|exact z3l.one<|m.ys.getD j yq0));intro f2 b6 b4 hz a h;have i7:=b4.size;have O:=O.fr b4;have hL:=hL.fr b4 t28;have D:=D.fr b4;have hW:=hW.fr b4 t28;have Z:=Z.fr b4 (by intro a6 k O a5;simp at O;subst O;have d4:=b5 a6 _ a5;have d5:=(Z a6).blk _ a5;omega);have hC:=hC.sp b4;have I:Blk f2 a3 _ [_,_,_,_,_]:=b6;clear b6;refine z0b<|z0d 13 U<|z0o h U λa h=>?_;refine z0b<|z0q ?_;clear hC a4 a1 d6 a0;refine bk (h.sub (L':=ll4 0 1 10 12)<|csu U)<|tn<|sq<|sr<|mv U U<|eq' U<|nn<|cd U (λc1=>?_)<|λc1=>?_;have hM:=a9.ext<|((q1.z6 q2 q3 q4 q5 b9 q18).n1 b1).z1 b4;intro a h;refine z0h (some 8) (λwb w'=>Fr [] wb w') z2s ?_;intro e9 d3;have i8:=d3.size;have hM:=hM.ext d3;have O:=O.ext d3;have D:=D.ext d3;have I:=I.ext d3;have Z:=Z.ext d3;have hC:Fr [] e9 e9:=l12 _ _;have a4:=hM;have a1:=O;have a0:=D;have a2:=I;have a8:=Z;refine z0e 0 h U λa h=>z0p 1 h U λa h=>z0c 2 h U z3s U λa h=>z0m 3 h U (λ_ hw=>a1.ext hw) U y5e U λa h=>z0e 4 h U λa h=>z3a 5 h U t23 U λa h=>z0x 6 h U (λ_ hw=>a2.ext hw) z3m U λa h=>z1m 7 kr hC (p:=j) h wn U y4x oo oo oo U U λa h=>z0d 8 U<|z1a (i:=j) (qn:YQ) h U hM.y.out (by rw[hM.ly];exact hj) U z3n λh5 a7 e0 _hz a h=>?_;have hM:=hM.yarn mtd hj a7 e0<|(Z c1).low oo;have a9:=hM;clear a7;have i9:=e0.size;have D:=D.fr e0;have I:=I.fr e0;have Z:=Z.fr e0 (by intro a6 k O a5;simp at O;subst O;have d4:=b5 a6 _ a5;have d5:=(Z a6).blk _ a5;omega);have O:=hM.k;clear _hz;refine z1l<|z0q ?_;clear hC a4 a1 a0 a2 a8;refine bk (h.sub (L':=ll1 10)<|csu U)<|tn<|sr<|mv U U<|asg U<|nn<|rt<|r1 results110 U ?_;exact⟨_,rfl,by rw[c1];exact MRet.ok (by unfold z9d y2f;rw[c9,if_neg (λe=>e c1)];exact congrArg Except.ok (by rw[y1g m qn e1,(b7 c1).1])) hM⟩;refine sk<|tn<|sr<|mv U U<|asg U<|kpL (ll1 8) (csu U)<|nn<|rt<|r1 results110 U ?_;have hM:=a9.ext<|((q1.z6 q2 q3 q4 q5 b9 q18).n1 b1).z1 b4;exact⟨_,rfl,MRet.err (by unfold z9d y2f;rw[c9,if_pos c1]) c1 hM.fr⟩
theorem j8q (wS:World)(O:MA)(m:MQ)(o:MOp)(w0:World)(hM:MkM τd 120 wS O w0 m)(hi:MInv m.p)(hy:1<=o.y/\o.y<=6)(hn:z4a o.b o.p=0):Rets prog 60 #[pta O.gk,opV o] w0 λr w'=>MRet τd 120 wS O (y3h m.p o) r w':=by
 refine we [(0,pta O.gk),(1,opV o)] func60 U ntmps60 U (.c2 U U) ?_;have I:=hM;refine sr<|bx U<|λg3 w1 a1 D q1 z1=>(asg U<|nn<|sr<|mv U U<|z0l U D y3b ?_);have hM:=I.ext q1;refine cl (ev2 U) (mkC func109) (x8r wS O m o _ hM hi hy hn) U ?_;rintro _ w2 ⟨rfl,q2⟩;refine mv U U<|xt U<|xt U<|xt U<|asg U<|asg U<|asg U<|kpL (ll4 0 3 5 7) (csu U)<|nn<|sq<|sr<|mv U U<|ne' U<|nn<|cd U (λZ=>?_)<|λZ=>?_;refine sr<|mv U U<|asg U<|kpL (ll1 4) (csu U)<|nn<|rt<|tr<|r1 results60 U ?_;have hM:=I.ext<|q1.n1 q2;exact⟨_,rfl,MRet.err (by unfold y3h;rw[if_pos Z]) Z hM.fr⟩;refine sk<|tn<|sr<|mv U U<|fad U z4h ?_;have D:=D.ext q2;refine z0i U D U na5<|mv U U<|mv U U ?_;have hM:=I.ext<|q1.n1 q2;refine cl (z0a U<|z0a U<|z0a U<|z0a U z0f) (mkC func110) (x7v wS O m o.y (if z5q m.p o=0 then z6p m.p o else 0) (if z5q m.p o=0 then z6p m.p o else 0) _ hM hi hy) U ?_;rintro a2 w3 hR;refine asg U<|kpL (ll1 4) (csu U)<|nn<|rt<|r1 results60 U ?_;have a0:z5q m.p o=0:=l18.1 Z;rw[if_pos a0]at hR;exact⟨_,rfl,by rw[show y3h m.p o=_ from if_neg Z];exact hR⟩
theorem v9i:CallOf prog 115:=mkC func115
theorem y3e:z1d prog 120 5 6:=λ_ _=>kr
theorem j6p (wS:World)(ka:MA)(m:MQ)(o:MOp)(w0:World)(hM:MkM τd 120 wS ka w0 m)(hi:MInv m.p)(hn:z4a o.b o.p=0):Rets prog 62 #[pta ka.gk,opV o] w0 λr w'=>MRet τd 120 wS ka (y3l m.p o) r w':=by
 have f7:=hM.fr.size;have D:=hM.k;have f3:=D.lt;have f5:=hM.ly;have f4:=hM.lt;have e7:=(hM.y.out.blk ka.gy t10).2;have f6:=z2w hn;obtain⟨n,b7⟩:∃n:Nat,o.p=(n:Int):=⟨o.p.toNat,oo⟩;obtain⟨⟨hf,hb⟩,h4,e0⟩:=z3o hi.B;have hfl:m.q.p.flat.length+m.fl.length<=z4r (z2o m.ts):=hi.cnt;have f1:z4r (z2o m.ts)<=2048:=hi.all;have hv:BdOk m.q.p:=hi.B;have f0:=y7a hv o.b o.p;refine we [(0,pta ka.gk),(1,opV o)] func62 U ntmps62 U (.c2 U U) ?_;have a6:=hM;refine sr<|bx U<|λg3 w1 f2 O q1 z1=>(asg U<|nn<|sq ?_);have hM:=a6.ext q1;intro a h;refine z0h none (λwb w'=>Fr [] wb w') z2s ?_;intro w2 q2;have z2:=q2.size;have hM:=hM.ext q2;have D:=D.ext<|q1.n1 q2;have O:=O.ext q2;have hC:Fr [] w2 w2:=l12 _ _;have b0:=hM;have a2:=D;have a0:=O;refine z0e 0 h U λa h=>z0p 1 h U λa h=>z0c 2 h U z3r U λa h=>z1h (vs:=[_,_]) 3 h U (λ_ hw=>(a2.ext hw)) z5e U U λa h=>z0c 4 h U z5n U λa h=>z1h (vs:=[_,_]) 5 h U (λ_ hw=>(a0.ext hw)) z5o U U λa h=>z0d 6 U<|z0n h (z0a U<|z0a U z0f) u1w (y7f m.q o.b o.p _ hM.b.at oo hf hb h4 e0) ?_;rintro f8 w3 ⟨I,hq⟩ a h;have z3:=hq.size;have hM:=hM.ext hq;have D:=D.ext hq;have O:=O.ext hq;have hC:=hC.next hq;have q3:=hq;rw[y1d hn]at I;obtain⟨e8,e9,rfl,e6⟩:=I.sl.form;have b6:=λk hb=>(I.blk k hb).2;refine z0b<|z0d 7 U<|z0o h U λa h=>?_;refine z0b<|z0q ?_;clear hC b0 a2 a0;refine bk (h.sub (L':=ll3 0 3 5)<|csu U)<|tn<|sq<|sr<|mv U U<|lnS U underlying32<|eq' U<|nn<|cd U (λc0=>?_)<|λc0=>?_;exact sr<|asg U<|nn<|rt<|tr<|r1 results62 U ⟨_,rfl,MRet.err (if_pos<|l111.1 (show (m.q.p.at o.b o.p).length=0 by omega)) dd hM.fr⟩;refine sk<|tn<|sq ?_;intro a h;refine z0h none (λwb w'=>Fr [] wb w') z2s ?_;intro w4 q4;have z4:=q4.size;have hM:=hM.ext q4;have D:=D.ext q4;have O:=O.ext q4;have I:=I.ext q4;have hC:Fr [] w4 w4:=l12 _ _;have b0:=hM;have a2:=D;have a0:=O;have b4:=I;refine z0e 0 h U λa h=>z0p 1 h U λa h=>z0c 2 h U z3r U λa h=>z1h (vs:=[_,_]) 3 h U (λ_ hw=>(a2.ext hw)) z5e U U λa h=>z0c 4 h U z5n U λa h=>z1h (vs:=[_,_]) 5 h U (λ_ hw=>(a0.ext hw)) z5o U U λa h=>z1u 6 10 kr U ?_ ?_;refine z0n h (z0a U<|z0a U<|z0a U z0f) v9i (by have x:=x4y m.q o.b n (.slice none 0 0) [] _ hM.b.at (Sl.nil _) hv (by rw[<-b7];exact hn) sp0 sp0 (λi=>by have:=l85.1 hv.nd i;simp only[l132];omega);rw[<-b7]at x;exact x) ?_;rintro _ w5 ⟨⟨q',rfl,hQ,d4⟩,q5⟩ a h;have z5:=q5.size;have D:=D.ext q5;have O:=O.ext q5;have hC:=hC.next q5;have d0:=x5p hQ a6.f oo;refine z0b<|z0e 7 h U λa h=>z0k 8 h U λa h=>z0k 9 h U λa h=>z0d 10 U<|z0u h x6y U λw6 Z q6 hz a h=>?_;obtain⟨a5,hg⟩:∃g,g=w5.heap.size:=⟨_,rfl⟩;rw[<-hg]at Z h hz;have e1.gk_6:ka.gk<a5:=by have:=D.lt;omega
 have d3:g3<a5:=by have:=O.lt;omega
 have z6:=q6.size;have hM:=hM.ext<|q5.n1 q6;have D:=D.ext q6;have O:=O.ext q6;have I:=I.ext<|q5.n1 q6;first|have hQ:=BdO.ext hQ q6|have hQ:=BdO.tf hQ q6 (OffT.one Z dd)<|OffT.one Z dd
 have hC:=hC.next q6;refine z0b<|z0d 11 U<|z0t h U Z U y9z λw7 b3 q7 hz a h=>?_;have z7:=q7.size;have D:=D.fr q7;have O:=O.fr q7;have I:=I.fr q7 (by intro k D a1;simp at D;subst D;have:=b6 _ a1;have b8:=(I.blk _ a1).1;omega);first|have hQ:=BdO.ext hQ q7|have hQ:=BdO.tf hQ q7 (OffT.one Z dd)<|OffT.one Z dd
 have hC:=hC.sp q7;have Z:Blk w7 a5 _ [_,_]:=b3;clear b3;refine z0b<|z0d 12 U<|z0o h U λa h=>?_;refine z0b<|z0q ?_;clear hC b0 a2 a0 b4;refine bk (h.sub (L':=ll4 0 5 6 7)<|csu U)<|tn<|sq<|sr<|mv U U<|ne' U<|nn<|cd U (λc1=>?_)<|λc1=>?_;exact absurd U c1;refine sk<|tn<|sr<|mv U U<|z0l U Z z5e<|nlc U<|fad U z3r ?_;have hM:=a6.ext<|q1.z6 q2 q3 q4 q5 q6 q7;refine z5g (cs':=j0f ka { m with q:=q' }) U U hM.k t42 y9z U<|λw8 a3 q8 z8=>?_;have hM:=hM.beds mtd (hQ.low oo) a3 q8 d0;have D:=hM.k;have a6:=hM;have c9:=hM;have hF:Lw.Own z1g 54 wS.heap.size _ (slv m.fa) m.fl:=hM.f;clear a3;refine kpL (ll2 0 5) (csu U)<|nn<|sr<|mv U U<|mv U U<|nlc U<|fad U y3e<|z0i U D U z6q<|mv U U ?_;have I:=I.fr q8 (by intro k D a1;simp at D;subst D;have:=b6 _ a1;have b8:=(I.blk _ a1).1;omega);have a7:=hF;refine z2h U hF I.sl z4l (λe4 w9 hF q9 a8=>?_) (hM:=t43) (hb:=oo);have d6:=q9;obtain⟨b1,b2,rfl,d7⟩:=hF.sl.form;have b5:∀k∈z0v (.slice b1 (m.fl++(m.q.p.at o.b o.p)).length b2),k∈z0v (slv m.fa)\/_<=k:=λk D=>by
  rcases a8 with e|e|e
  exact .inl (congrArg z0v e▸D);exact .inl (e▸D);rw[e,l11]at D;exact .inr<|Nat.le_of_eq D.symm
 have z9:=q9.size;have D:=D.fr q9<|λd1=>a7.neB D dd d1;refine nlc U<|fad U y3e<|z3k U D U j1b<|λf9 a3 e2 g7=>?_;have b9:=c9.fall mtd dd (u:=(b1,(m.fl++(m.q.p.at o.b o.p)).length,b2)) hF d6 b5 a3 e2;refine kpL [] .nil<|nn<|sr<|asg U<|nn<|rt<|r1 results62 U ?_;exact⟨_,rfl,MRet.ok (by rw[show y3l m.p o=_ from if_neg<|λe=>c0 (by rw[show (m.q.p.at o.b o.p)=[] from e];rfl)];exact congrArg Except.ok (by unfold MQ.p;simp only[d4])) b9⟩;refine z0u h x6y U λg0 Z a9 hz a h=>?_;obtain⟨a5,hg⟩:∃g,g=w4.heap.size:=⟨_,rfl⟩;rw[<-hg]at Z h hz;have e1.gk_6:ka.gk<a5:=by have:=D.lt;omega
 have d3:g3<a5:=by have:=O.lt;omega
 have g8:=a9.size;have hM:=hM.ext a9;have hC:=hC.next a9;refine z0b<|z0d 6 U<|z0n h (z0a U<|z0a U<|z0a U z0f) v9i (by have x:=x4y m.q o.b n (.slice none 0 0) [] _ hM.b.at (Sl.nil _) hv (by rw[<-b7];exact hn) sp0 sp0 (λi=>by have:=l85.1 hv.nd i;simp only[l132];omega);rw[<-b7]at x;exact x) ?_;rintro _ g1 ⟨⟨q',rfl,hQ,d4⟩,q12⟩ a h;have g9:=q12.size;have hM:=hM.ext q12;have D:=D.ext<|a9.n1 q12;have O:=O.ext<|a9.n1 q12;have I:=I.ext<|a9.n1 q12;have Z:=Z.ext q12;have hC:=hC.next q12;have d0:=x5p hQ a6.f oo;refine z0b<|z0e 7 h U λa h=>z0k 8 h U λa h=>z0k 9 h U λa h=>z0d 11 U<|z0t h U Z U y9z λe5 b3 a4 hz a h=>?_;have h0:=a4.size;have D:=D.fr a4;have O:=O.fr a4;have I:=I.fr a4 (by intro k D a1;simp at D;subst D;have:=b6 _ a1;have b8:=(I.blk _ a1).1;omega);first|have hQ:=BdO.ext hQ a4|have hQ:=BdO.tf hQ a4 (OffT.one Z dd)<|OffT.one Z dd
 have hC:=hC.sp a4;have Z:Blk e5 a5 _ [_,_]:=b3;clear b3;refine z0b<|z0d 12 U<|z0o h U λa h=>?_;refine z0b<|z0q ?_;clear hC b0 a2 a0 b4;refine bk (h.sub (L':=ll4 0 5 6 7)<|csu U)<|tn<|sq<|sr<|mv U U<|ne' U<|nn<|cd U (λc1=>?_)<|λc1=>?_;exact absurd U c1;refine sk<|tn<|sr<|mv U U<|z0l U Z z5e<|nlc U<|fad U z3r ?_;have hM:=a6.ext<|q1.z6 q2 q3 q4 a9 q12 a4;refine z5g (cs':=j0f ka { m with q:=q' }) U U hM.k t42 y9z U<|λg4 a3 d9 h1=>?_;have hM:=hM.beds mtd (hQ.low oo) a3 d9 d0;have D:=hM.k;have a6:=hM;have c9:=hM;have hF:Lw.Own z1g 54 wS.heap.size _ (slv m.fa) m.fl:=hM.f;clear a3;refine kpL (ll2 0 5) (csu U)<|nn<|sr<|mv U U<|mv U U<|nlc U<|fad U y3e<|z0i U D U z6q<|mv U U ?_;have I:=I.fr d9 (by intro k D a1;simp at D;subst D;have:=b6 _ a1;have b8:=(I.blk _ a1).1;omega);have a7:=hF;refine z2h U hF I.sl z4l (λe4 g5 hF d5 a8=>?_) (hM:=t43) (hb:=oo);have d6:=d5;obtain⟨b1,b2,rfl,d7⟩:=hF.sl.form;have b5:∀k∈z0v (.slice b1 (m.fl++(m.q.p.at o.b o.p)).length b2),k∈z0v (slv m.fa)\/_<=k:=λk D=>by
  rcases a8 with e|e|e
  exact .inl (congrArg z0v e▸D);exact .inl (e▸D);rw[e,l11]at D;exact .inr<|Nat.le_of_eq D.symm
 have h2:=d5.size;have D:=D.fr d5<|λd1=>a7.neB D dd d1;refine nlc U<|fad U y3e<|z3k U D U j1b<|λg6 a3 e3 h3=>?_;have b9:=c9.fall mtd dd (u:=(b1,(m.fl++(m.q.p.at o.b o.p)).length,b2)) hF d6 b5 a3 e3;refine kpL [] .nil<|nn<|sr<|asg U<|nn<|rt<|r1 results62 U ?_;exact⟨_,rfl,MRet.ok (by rw[show y3l m.p o=_ from if_neg<|λe=>c0 (by rw[show (m.q.p.at o.b o.p)=[] from e];rfl)];exact congrArg Except.ok (by unfold MQ.p;simp only[d4])) b9⟩
theorem u2w (b p r:Int)(w0:World)(hn:z4a b p=0)(hr:-4<=r/\r<=4):Rets prog 112 #[.agg #[.int .u8 b,.int .i64 p],.int .i64 r] w0 λv w'=>(∃b' p':Int,v=.tuple #[.agg #[.int .u8 b',.int .i64 p'],.int .i64 (if z4a (1-b) (z5s b p r)≠0 then 11 else 0)]/\(z4a (1-b) (z5s b p r)=0->b'=1-b/\p'=z5s b p r))/\Fr [] w0 w':=by
 have a4:=z2w hn;refine we [(0,.agg #[.int .u8 b,.int .i64 p]),(1,.int .i64 r)] func112 U ntmps112 U (.c2 U U)<|sr<|bx U<|λg2 w1 a5 O q1 z1=>(al v0f U<|λg4 w2 a6 D q2 z2=>(asg U<|nn<|sq<|sr ?_));have O:=O.ext q2;refine z0l U O z5o<|cl (ev1 U) u8y (z5m _ _ _) U ?_;rintro _ w3 ⟨rfl,q3⟩;have z3:=q3.size;refine ne' U<|nn<|cd U (λc0=>?_)<|λc0=>?_;refine sr<|z1t (cs:=[_,_]) z0f y7r z0r U ?_;have D:=D.ext q3;exact z0j (vs:=[_,_]) U D y3z<|λw4 D q4 z4=>(asg U<|nn<|rt<|tr<|rCT results112 U D z5o U<|absurd hn c0);refine sk<|tn<|sq<|sr<|mv U U<|cl (ev1 U) (mkC func148) (x6b _ _) U ?_;rintro _ w5 ⟨rfl,q5⟩;have z5:=q5.size;refine nt' U<|nn<|cd U (λc1=>?_)<|λc1=>?_;refine sr<|z1t (cs:=[_,_]) z0f y7r z0r U ?_;have D:=D.ext<|q3.n1 q5;exact z0j (vs:=[_,_]) U D y3z<|λw6 D q6 z6=>(asg U<|nn<|rt<|tr<|rCT results112 U D z5o U<|absurd hr c1);refine sk<|tn<|sr<|fad U z6u ?_;have O:=O.ext<|q3.n1 q5;refine z0i U O U na3<|mv U U<|z2f U (wi6 oo)<|z1t (cs:=[_,_]) (ev2 U) y7r (z0g U<|z0g U z0r) U ?_;refine al v0f U<|λg6 w7 a7 I q7 z7=>(z0j (vs:=[_,_]) U I y3z<|λw8 I q8 z8=>(kpL (ll4 1 2 4 6) (csu U)<|nn<|jn (ι:=Unit) (ll2 4 6) (λ_j=>[]) (λ_j w'=>Fr [g6] w8 w'/\Blk w' g6 48 [.int .u8 (1-b),.int .i64 (z5s b p r)]) (csu U) ?_ ?_));refine sr<|fad U z6s ?_;have O:=(O.ext q7).fr q8;refine z0i U O U x7o<|eq' U<|nn<|cd U (λc2=>?_)<|λc2=>?_;refine rg<|fad U z6u<|z0i U O U na3<|mv U U<|z0w U (wi6 oo)<|z1t (cs:=[_,_]) (ev2 U) y7r (z0g U<|z0g U z0r) U ?_;exact z0j (vs:=[_,_]) U I y3z<|λw9 I q9 z9=>(kpL (ll2 4 6) (csu U)<|nl<|jE (()) (csu U) ⟨((l12 [g6] _).z1 q9),(by rw[show z5s b p r=p+r from if_pos c2,show 1-b=0 by omega];exact I)⟩);exact sk<|jE (()) (csu U) ⟨(l12 _ _),(by rw[show z5s b p r=p-r from if_neg c2,show 1-b=1 by omega];exact I)⟩;rintro _j a8 ⟨a0,I⟩;have b2:=a0.size;have a1:=I.lt;refine kpC (ll2 4 6) (csu U)<|sq<|sr<|z0l U I z5o<|cl (ev1 U) u8y (z5m _ _ _) U ?_;rintro _ a9 ⟨rfl,Z⟩;have b3:=Z.size;refine ne' U<|nn<|cd U (λc3=>?_)<|λc3=>?_;refine sr<|z1t (cs:=[_,_]) z0f y7r z0r U ?_;have D:=(((D.ext<|q3.n2 q5 q7).fr q8).fr a0).ext Z;exact z0j (vs:=[_,_]) U D y3z<|λb0 D a2 b4=>(asg U<|nn<|rt<|tr<|rCT results112 U D z5o U ⟨_,rfl,⟨0,0,by rw[if_pos c3],λe=>absurd e c3⟩,(((q1.z6 q2 q3 q5 q7 q8 a0).n1 Z).z1 a2)⟩);refine sk<|tn<|sr ?_;have I:=I.ext Z;refine z0l U I z5o ?_;have D:=(((D.ext<|q3.n2 q5 q7).fr q8).fr a0).ext Z;exact z0j (vs:=[_,_]) U D y3z<|λb1 D a3 b5=>(asg U<|nn<|rt<|rCT results112 U D z5o U ⟨_,rfl,⟨_,_,by rw[if_neg c3],λ_=>⟨rfl,rfl⟩⟩,(((q1.z6 q2 q3 q5 q7 q8 a0).n1 Z).z1 a3)⟩)
def BdOIf (c:Prop)(Sτ I base:Nat)(w:World)(q:BdQ):Prop:=c->BdO Sτ I base w q
theorem BdOIf.ext {c:Prop}{D I base:Nat}{w w':World}{q:BdQ}(h:BdOIf c D I base w q)(hf:Fr [] w w'):BdOIf c D I base w' q:=λO=>(h O).ext hf
theorem BdOIf.tf {c:Prop}{D I base:Nat}{w w':World}{q:BdQ}{S:List Nat}(h:BdOIf c D I base w q)(hf:Fr S w w')(Z:OffT w D S)(O:OffT w I S):BdOIf c D I base w' q:=λhc=>BdO.tf (h hc) hf Z O
theorem x6k {p:MSt}{o:MOp}(h:o.b=0\/o.b=1):y1o p.B o.b o.p (z5s o.b o.p p.rk)=y0u p o:=by
 unfold y1o y0u;rcases h with e|e<;>rw[e]<;>rfl
theorem j3h (wS:World)(ka:MA)(m:MQ)(o:MOp)(w0:World)(hM:MkM τd 120 wS ka w0 m)(hi:MInv m.p)(hn:z4a o.b o.p=0):Rets prog 61 #[pta ka.gk,opV o] w0 λr w'=>MRet τd 120 wS ka (z8w m.p o) r w':=by
 have i7:=hM.fr.size;have hk:=hM.k;have i1:=hk.lt;have i3:=hM.ly;have i2:=hM.lt;have h3:=(hM.y.out.blk ka.gy t10).2;have e6:=z2w hn;obtain⟨n,d4⟩:∃n:Nat,o.p=(n:Int):=⟨o.p.toNat,oo⟩;obtain⟨⟨hf,hb⟩,h4,f2⟩:=z3o hi.B;have hv:BdOk m.q.p:=hi.B;have h8:=y7a hv o.b o.p;have e7:-4<=m.rk/\m.rk<=4:=hi.rk;have i4:=y6e o.b o.p m.rk;have i5:=y6e (1-o.b) (z5s o.b o.p m.rk) m.rk;refine we [(0,pta ka.gk),(1,opV o)] func61 U ntmps61 U (.c2 U U) ?_;have a3:=hM;refine sr<|bx U<|λg3 w1 h9 D q1 z1=>(asg U<|nn<|sq<|sq ?_);have hM:=a3.ext q1;intro a h;refine z0h none (λwb w'=>Fr [] wb w') z2s ?_;intro w2 q2;have z2:=q2.size;have hM:=hM.ext q2;have hk:=hk.ext<|q1.n1 q2;have D:=D.ext q2;have hC:Fr [] w2 w2:=l12 _ _;have a4:=hM;have a0:=hk;have Z:=D;refine z0e 0 h U λa h=>z0p 1 h U λa h=>z0c 2 h U z3r U λa h=>z1h (vs:=[_,_]) 3 h U (λ_ hw=>(a0.ext hw)) z5e U U λa h=>z0c 4 h U z5n U λa h=>z1h (vs:=[_,_]) 5 h U (λ_ hw=>(Z.ext hw)) z5o U U λa h=>z0d 6 U<|z0n h (z0a U<|z0a U z0f) u1w (y7f m.q o.b o.p _ hM.b.at oo hf hb h4 f2) ?_;rintro i8 w3 ⟨e0,hq⟩ a h;have z3:=hq.size;have hM:=hM.ext hq;have hk:=hk.ext hq;have D:=D.ext hq;have hC:=hC.next hq;have q3:=hq;rw[y1d hn]at e0;obtain⟨h6,h7,rfl,h0⟩:=e0.sl.form;refine z0b<|z7n 7 hC h wn U underlying32 U λa h=>x4i 8 hC h wn U λa h=>z0q ?_;clear hC a4 a0 Z;refine bk (h.sub (L':=ll3 0 3 19)<|csu U)<|tn<|cd U (λc0=>?_)<|λc0=>?_;exact sr<|asg U<|nn<|rt<|tr<|r1 results61 U ⟨_,rfl,MRet.err (if_pos<|l111.1 (show (m.q.p.at o.b o.p).length=0 by omega)) dd hM.fr⟩;have c9:(m.q.p.at o.b o.p)≠[]:=λe=>c0 (by rw[e];rfl);refine sk<|tn<|jn (ι:=Nat×Int×Int) (ll2 0 3) (λz_=>[(5,pta z_.1),(6,.int .i64 (if z4a (1-o.b) (z5s o.b o.p m.rk)≠0 then 11 else 0))]) (λz_ w'=>Fr [] w3 w'/\(w3.heap.size<=z_.1/\Blk w' z_.1 48 [.int .u8 z_.2.1,.int .i64 z_.2.2])/\(z4a (1-o.b) (z5s o.b o.p m.rk)=0->z_.2.1=1-o.b/\z_.2.2=z5s o.b o.p m.rk)) (csu U) ?_ ?_;intro a h;refine z0h none (λwb w'=>Fr [] wb w') z2s ?_;intro w4 q4;have z4:=q4.size;have hM:=hM.ext q4;have hk:=hk.ext q4;have D:=D.ext q4;have hC:Fr [] w4 w4:=l12 _ _;have a4:=hM;have a0:=hk;have Z:=D;refine z0c 0 h U z5n U λa h=>z1h (vs:=[_,_]) 1 h U (λ_ hw=>(Z.ext hw)) z5o U U λa h=>z0e 2 h U λa h=>z0p 3 h U λa h=>z0c 4 h U z4k U λa h=>z0m 5 h U (λ_ hw=>a0.ext hw) U na3 U λa h=>z1u 6 10 kr U ?_ ?_;refine z0n h (z0a U<|z0a U z0f) (mkC func112) (u2w o.b o.p m.rk _ hn e7) ?_;rintro _ w5 ⟨⟨bn,pn,rfl,a1⟩,q5⟩ a h;have z5:=q5.size;have hk:=hk.ext q5;have D:=D.ext q5;have hC:=hC.next q5;refine z0b<|z0e 7 h U λa h=>z0k 8 h U λa h=>z0k 9 h U λa h=>z0d 10 U<|z0u h v0f U λw6 I q6 hz a h=>?_;obtain⟨b3,hg⟩:∃g,g=w5.heap.size:=⟨_,rfl⟩;rw[<-hg]at I h hz;have e1.gk_5:ka.gk<b3:=by have:=hk.lt;omega
 have e2:g3<b3:=by have:=D.lt;omega
 have z6:=q6.size;have hk:=hk.ext q6;have D:=D.ext q6;have hC:=hC.next q6;refine z0b<|z0d 11 U<|z0t h U I U y3z ?_ (h1:=(by first|(simp[Value.oneCell',S];done)|exact z3l.one<|m.ys.getD i yq0));intro w7 a1 q7 hz a h;have z7:=q7.size;have hk:=hk.fr q7;have D:=D.fr q7;have hC:=hC.sp q7;have I:Blk w7 b3 _ [_,_]:=a1;clear a1;refine z0b<|z0d 12 U<|z0o h U λa h=>?_;refine z0b<|z0q ?_;clear hC a4 a0 Z;exact bk (h.sub (L':=ll4 0 3 5 6)<|csu U)<|jE ((b3,bn,pn)) (csu U) ⟨(q4.z3 q5 q6 q7),⟨⟨sm,I⟩,a1⟩⟩;refine z0u h v0f U λw8 I q8 hz a h=>?_;obtain⟨b3,hg⟩:∃g,g=w4.heap.size:=⟨_,rfl⟩;rw[<-hg]at I h hz;have e1.gk_5:ka.gk<b3:=by have:=hk.lt;omega
 have e2:g3<b3:=by have:=D.lt;omega
 have z8:=q8.size;have hC:=hC.next q8;refine z0b<|z0d 6 U<|z0n h (z0a U<|z0a U z0f) (mkC func112) (u2w o.b o.p m.rk _ hn e7) ?_;rintro _ w9 ⟨⟨bn,pn,rfl,a1⟩,q9⟩ a h;have z9:=q9.size;have hk:=hk.ext<|q8.n1 q9;have D:=D.ext<|q8.n1 q9;have I:=I.ext q9;have hC:=hC.next q9;refine z0b<|z0e 7 h U λa h=>z0k 8 h U λa h=>z0k 9 h U λa h=>z0d 11 U<|z0t h U I U y3z ?_ (h1:=(by first|(simp[Value.oneCell',S];done)|exact z3l.one<|m.ys.getD i yq0));intro f9 a1 d7 hz a h;have j9:=d7.size;have hk:=hk.fr d7;have D:=D.fr d7;have hC:=hC.sp d7;have I:Blk f9 b3 _ [_,_]:=a1;clear a1;refine z0b<|z0d 12 U<|z0o h U λa h=>?_;refine z0b<|z0q ?_;clear hC a4 a0 Z;exact bk (h.sub (L':=ll4 0 3 5 6)<|csu U)<|jE ((b3,bn,pn)) (csu U) ⟨(q4.z3 q8 q9 d7),⟨⟨sm,I⟩,a1⟩⟩;rintro⟨g5,bn,pn⟩ i9 ⟨a9,⟨⟨f6,I⟩,a1⟩⟩;have k0:=a9.size;have f1:=I.lt;simp only at f6 I a1;refine kpC [(0,_),(3,_),(5,pta g5),(6,_)] (csu U)<|sq<|sr<|mv U U<|ne' U<|nn<|cd U (λc1=>?_)<|λc1=>?_;refine sr<|mv U U<|asg U<|kpL (ll1 4) (csu U)<|nn<|rt<|tr<|r1 results61 U ?_;have hM:=a3.ext<|q1.n3 q2 q3 a9;have a8:z4a (1-o.b) (z5s o.b o.p m.rk)≠0:=λe=>c1 (by rw[if_neg (λh=>h e)]);exact⟨_,rfl,by rw[if_pos a8];exact MRet.err (by rw[z8w,if_neg c9,if_pos a8]) dd hM.fr⟩;have a8:z4a (1-o.b) (z5s o.b o.p m.rk)=0:=l18.1 λe=>c1 (by rw[if_pos e];decide);obtain⟨rfl,rfl⟩:=a1 a8;have h5:=z2w a8;obtain⟨n2,d3⟩:∃n2:Nat,z5s o.b o.p m.rk=(n2:Int):=⟨(z5s o.b o.p m.rk).toNat,oo⟩;refine sk<|tn<|sq ?_;have hM:=a3.ext<|q1.n3 q2 q3 a9;intro a h;refine z0h none (λwb w'=>Fr [] wb w') z2s ?_;intro f0 b0;have k1:=b0.size;have hM:=hM.ext b0;have hk:=hk.ext<|a9.n1 b0;have D:=D.ext<|a9.n1 b0;have I:=I.ext b0;have hC:Fr [] f0 f0:=l12 _ _;have a4:=hM;have a0:=hk;have Z:=D;have a5:=I;refine z0c 0 h U z5n U λa h=>z1h (vs:=[_,_]) 1 h U (λ_ hw=>(Z.ext hw)) z5o U U λa h=>z0e 2 h U λa h=>z0p 3 h U λa h=>z0c 4 h U z4k U λa h=>z0m 5 h U (λ_ hw=>a0.ext hw) U na3 U λa h=>z0x 7 h U (λ_ hw=>a5.ext hw) z5o U λa h=>z0e 8 h U λa h=>z0p 9 h U λa h=>z0c 10 h U z4k U λa h=>z0m 11 h U (λ_ hw=>a0.ext hw) U na3 U λa h=>z0d 6 U<|z0n h (z0a U<|z0a U z0f) v3o (y3q _ _ _ _ oo) ?_;rintro _ j0 ⟨rfl,a6⟩ a h;have k2:=a6.size;have hC:=hC.next a6;refine z0b<|z0d 12 U<|z0n h (z0a U<|z0a U z0f) v3o (y3q _ _ _ _ oo) ?_;rintro _ g1 ⟨rfl,a7⟩ a h;have k4:=a7.size;have hM:=hM.ext<|a6.n1 a7;have hk:=hk.ext<|a6.n1 a7;have D:=D.ext<|a6.n1 a7;have I:=I.ext<|a6.n1 a7;have hC:=hC.next a7;refine z0b<|k0g 13 kr hC h wn U U U U λa h=>z6j 14 h U t13 U λa h=>z0d 15 U<|z0o h U λa h=>?_;refine z0b<|z0q ?_;clear hC a4 a0 Z a5;refine bk (h.sub (L':=ll4 0 3 5 7)<|csu U)<|tn<|sq<|sr<|mv U U<|nlc U<|fad U z3s<|z0i U hk U y5e<|lnS U underlying28<|mv U U<|nn<|bl<|lpK (ι:=Nat) (ll6 0 3 5 7 51 52) (λi=>[(53,.int .i64 (i:Int))]) (λi w'=>Fr [] g1 w'/\i<=6/\∀k,k<i->¬((m.ys.getD k yq0).inn=true/\(m.ys.getD k yq0).pl=(x7c m.p o))) (λi=>6-i) 0 (csu U) ⟨l12 _ _,⟨l17 _,λj h=>absurd h oo⟩⟩ ?_;rintro i j1 ⟨b1,⟨hi,hz⟩⟩;have k5:=b1.size;refine kpC (ll7 0 3 5 7 51 52 53) (csu U)<|sr<|lt' U<|nn<|sq<|cd U (λc2=>?_)<|λc2=>?_;refine sk<|tn<|sq<|bl<|sr ?_;have hM:=a3.ext<|(q1.n6 q2 q3 a9 b0 a6 a7).n1 b1;refine z0z (yq0) U hM.y.out.sl U y4x z1j<|λg8 e5=>?_;refine z1q U (e5 _ hM.y.out.sl) z3m<|al z6m U<|λg9 j2 i0 d9 e8 k6=>?_;refine z0j (vs:=[_,_,_,_,_]) U d9 z3n (λj3 d9 e9 k7=>?_) (h1:=(by first|(simp[Value.oneCell',S];done)|exact z3l.one<|m.ys.getD i yq0));refine nn<|sq<|rbo (r:=64) (L':=ll7 0 3 5 7 51 52 53) (((m.ys.getD i yq0).inn=true/\((m.ys.getD i yq0).pl=((min (z2c o.b o.p m.rk)<|z2c (1-o.b) (z5s o.b o.p m.rk) m.rk)+1)))) (csu U) ?_ ?_;refine fad U z8p<|z0i U d9 U na4<|mv U U<|gs 59 U (λg0=>?_)<|λg0=>?_;exact gY U<|fad U z5y<|gY U<|z0i U d9 U na3<|gY U<|mv U U<|gY U<|eq' U<|pkt U<|rbe U<|csu U;exact gN U<|gN U<|gN U<|gN U<|pkf U<|rbe U<|csu U;refine tn<|cd U (λc3=>?_)<|λc3=>?_;refine sr<|asg U<|kpL (ll1 4) (csu U)<|nn<|rt<|rb<|tr<|tr<|rb<|tr<|r1 results61 U ?_;have hM:=a3.ext<|(((q1.n6 q2 q3 a9 b0 a6 a7).n1 b1).n1 e8).z1 e9;exact⟨_,rfl,MRet.err (by rw[z8w,if_neg c9,if_neg (λh=>h a8),if_pos (⟨_,l55.2 ⟨m.ys.getD i yq0,z1c oo,rfl⟩,c3⟩:∃y∈m.p.ys,y.inn=true/\y.pl=x7c m.p o)]) dd hM.fr⟩;refine sk<|bn'<|tn<|rg<|z0w U (wi6 oo)<|mv U U<|nl ?_;exact lpE (i+1) (csu U) ⟨(b1.z2 e8 e9),⟨oo,λk h=>by
  by_cases e:k=i;subst e;exact c3;exact hz k oo⟩⟩ oo
 have b6:¬ ∃y∈m.p.ys,y.inn=true/\y.pl=x7c m.p o:=by
  rintro⟨y,hy,h1,h2⟩;obtain⟨z,f5,rfl⟩:=l55.1 hy;obtain⟨k,f4,rfl⟩:=l31 f5;refine hz k oo ?_;rw[List.getD,l10 f4];exact⟨h1,h2⟩
 refine ex<|te<|te<|xh<|tn<|sq ?_;have hM:=a3.ext<|(q1.n6 q2 q3 a9 b0 a6 a7).n1 b1;intro a h;refine z0h none (λwb w'=>Fr [] wb w') z2s ?_;intro e4 b7;have k8:=b7.size;have hM:=hM.ext b7;have hk:=hk.ext<|b1.n1 b7;have D:=D.ext<|b1.n1 b7;have I:=I.ext<|b1.n1 b7;have hC:Fr [] e4 e4:=l12 _ _;have a4:=hM;have a0:=hk;have Z:=D;have a5:=I;refine z0e 0 h U λa h=>z0p 1 h U λa h=>z0c 2 h U z3r U λa h=>z1h (vs:=[_,_]) 3 h U (λ_ hw=>(a0.ext hw)) z5e U U λa h=>z0c 4 h U z5n U λa h=>z1h (vs:=[_,_]) 5 h U (λ_ hw=>(Z.ext hw)) z5o U U λa h=>z0x 6 h U (λ_ hw=>a5.ext hw) z5o U λa h=>z1u 7 11 kr U ?_ ?_;refine z0n h (z0a U<|z0a U<|z0a U z0f) (mkC func114) (by have x:=x2c m.q o.b n n2 _ hM.b.at hv (by rw[<-d4];exact hn) (by rw[<-d3];exact a8) (by rw[<-d4];exact c9);rw[<-d4,<-d3]at x;exact x) ?_;rintro _ g4 ⟨⟨q',rfl,d5⟩,q19⟩ a h;have k9:=q19.size;have hk:=hk.ext q19;have D:=D.ext q19;have I:=I.ext q19;have hC:=hC.next q19;have hQ:BdOIf (¬4<(m.q.p.at o.b o.p).length+(m.q.p.at (1-o.b)<|z5s o.b o.p m.rk).length) 32 54 _ _ q':=λhc=>(d5 hc).1;have e3:=λhc=>(d5 hc).2;have d1:=λhc=>x5p (hQ hc) a3.f oo;refine z0b<|z0e 8 h U λa h=>z0k 9 h U λa h=>z0k 10 h U λa h=>z0d 11 U<|z0u h x6y U λj4 O b2 hz a h=>?_;obtain⟨a2,hg⟩:∃g,g=g4.heap.size:=⟨_,rfl⟩;rw[<-hg]at O h hz;have e1.gk_10:ka.gk<a2:=by have:=hk.lt;omega
 have b4:g3<a2:=by have:=D.lt;omega
 have b4:g5<a2:=by have:=I.lt;omega
 have l0:=b2.size;have hM:=hM.ext<|q19.n1 b2;have hk:=hk.ext b2;have D:=D.ext b2;have I:=I.ext b2;first|have hQ:=BdOIf.ext hQ b2|have hQ:=BdOIf.tf hQ b2 (OffT.one O dd)<|OffT.one O dd
 have hC:=hC.next b2;refine z0b<|z0d 12 U<|z0t h U O U y9z ?_ (h1:=(by first|(simp[Value.oneCell',S];done)|exact z3l.one<|m.ys.getD i yq0));intro g6 a1 b8 hz a h;have l1:=b8.size;have hk:=hk.fr b8;have D:=D.fr b8;have I:=I.fr b8;first|have hQ:=BdOIf.ext hQ b8|have hQ:=BdOIf.tf hQ b8 (OffT.one O dd)<|OffT.one O dd
 have hC:=hC.sp b8;have O:Blk g6 a2 _ [_,_]:=a1;clear a1;refine z0b<|z0d 13 U<|z0o h U λa h=>?_;refine z0b<|z0q ?_;clear hC a4 a0 Z a5;refine bk (h.sub (L':=ll3 0 6 10)<|csu U)<|tn<|sq<|sr<|mv U U<|eq' U<|nn<|cd U (λc4=>?_)<|λc4=>?_;have b5:¬4<(m.q.p.at o.b o.p).length+(m.q.p.at (1-o.b)<|z5s o.b o.p m.rk).length:=λe=>by rw[if_pos e]at c4;exact absurd c4 dd
 have hQ:=hQ b5;have d1:=d1 b5;refine rg<|mv U U<|z0l U O z5e<|nlc U<|fad U z3r ?_;have hM:=a3.ext<|(((q1.n6 q2 q3 a9 b0 a6 a7).n1 b1).n1 b7).z3 q19 b2 b8;refine z5g (cs':=j0f ka { m with q:=q' }) U U hM.k t42 y9z U<|λj5 d6 f7 l2=>?_;have hM:=hM.beds mtd (hQ.low oo) d6 f7 d1;have hk:=hM.k;have a3:=hM;have f3:=hM;have hF:Lw.Own z1g 54 wS.heap.size _ (slv m.fa) m.fl:=hM.f;clear d6;refine kpL (ll1 6) (csu U)<|nl<|tn<|sr<|mv U U<|asg U<|nn<|rt<|r1 results61 U ?_;exact⟨_,rfl,by rw[c4];exact MRet.ok (by rw[z8w,if_neg c9,if_neg (λh=>h a8),if_neg b6,if_neg b5];exact congrArg Except.ok (by have hj:y1o m.q.p o.b o.p (z5s o.b o.p m.rk)=y0u m.p o:=x6k (p:=m.p) e6.1;unfold MQ.p;simp only[e3 b5];rw[hj])) hM⟩;refine sk<|tn<|sr<|mv U U<|asg U<|nn<|rt<|r1 results61 U ?_;have hM:=a3.ext<|(((q1.n6 q2 q3 a9 b0 a6 a7).n1 b1).n1 b7).z3 q19 b2 b8;exact⟨_,rfl,MRet.err (by rw[z8w,if_neg c9,if_neg (λh=>h a8),if_neg b6,if_pos (l18.1 λe=>c4<|if_neg e)];rw[if_pos (l18.1 λe=>c4<|if_neg e)]) c4 hM.fr⟩;refine z0u h x6y U λj6 O d0 hz a h=>?_;obtain⟨a2,hg⟩:∃g,g=e4.heap.size:=⟨_,rfl⟩;rw[<-hg]at O h hz;have e1.gk_10:ka.gk<a2:=by have:=hk.lt;omega
 have b4:g3<a2:=by have:=D.lt;omega
 have b4:g5<a2:=by have:=I.lt;omega
 have l3:=d0.size;have hM:=hM.ext d0;have hC:=hC.next d0;refine z0b<|z0d 7 U<|z0n h (z0a U<|z0a U<|z0a U z0f) (mkC func114) (by have x:=x2c m.q o.b n n2 _ hM.b.at hv (by rw[<-d4];exact hn) (by rw[<-d3];exact a8) (by rw[<-d4];exact c9);rw[<-d4,<-d3]at x;exact x) ?_;rintro _ j7 ⟨⟨q',rfl,d5⟩,q24⟩ a h;have l4:=q24.size;have hM:=hM.ext q24;have hk:=hk.ext<|d0.n1 q24;have D:=D.ext<|d0.n1 q24;have I:=I.ext<|d0.n1 q24;have O:=O.ext q24;have hC:=hC.next q24;have hQ:BdOIf (¬4<(m.q.p.at o.b o.p).length+(m.q.p.at (1-o.b)<|z5s o.b o.p m.rk).length) 32 54 _ _ q':=λhc=>(d5 hc).1;have e3:=λhc=>(d5 hc).2;have d1:=λhc=>x5p (hQ hc) a3.f oo;refine z0b<|z0e 8 h U λa h=>z0k 9 h U λa h=>z0k 10 h U λa h=>z0d 12 U<|z0t h U O U y9z ?_ (h1:=(by first|(simp[Value.oneCell',S];done)|exact z3l.one<|m.ys.getD i yq0));intro g7 a1 b9 hz a h;have l5:=b9.size;have hk:=hk.fr b9;have D:=D.fr b9;have I:=I.fr b9;first|have hQ:=BdOIf.ext hQ b9|have hQ:=BdOIf.tf hQ b9 (OffT.one O dd)<|OffT.one O dd
 have hC:=hC.sp b9;have O:Blk g7 a2 _ [_,_]:=a1;clear a1;refine z0b<|z0d 13 U<|z0o h U λa h=>?_;refine z0b<|z0q ?_;clear hC a4 a0 Z a5;refine bk (h.sub (L':=ll3 0 6 10)<|csu U)<|tn<|sq<|sr<|mv U U<|eq' U<|nn<|cd U (λc4=>?_)<|λc4=>?_;have b5:¬4<(m.q.p.at o.b o.p).length+(m.q.p.at (1-o.b)<|z5s o.b o.p m.rk).length:=λe=>by rw[if_pos e]at c4;exact absurd c4 dd
 have hQ:=hQ b5;have d1:=d1 b5;refine rg<|mv U U<|z0l U O z5e<|nlc U<|fad U z3r ?_;have hM:=a3.ext<|(((q1.n6 q2 q3 a9 b0 a6 a7).n1 b1).n1 b7).z3 d0 q24 b9;refine z5g (cs':=j0f ka { m with q:=q' }) U U hM.k t42 y9z U<|λj8 d6 f8 l6=>?_;have hM:=hM.beds mtd (hQ.low oo) d6 f8 d1;have hk:=hM.k;have a3:=hM;have f3:=hM;have hF:Lw.Own z1g 54 wS.heap.size _ (slv m.fa) m.fl:=hM.f;clear d6;refine kpL (ll1 6) (csu U)<|nl<|tn<|sr<|mv U U<|asg U<|nn<|rt<|r1 results61 U ?_;exact⟨_,rfl,by rw[c4];exact MRet.ok (by rw[z8w,if_neg c9,if_neg (λh=>h a8),if_neg b6,if_neg b5];exact congrArg Except.ok (by have hj:y1o m.q.p o.b o.p (z5s o.b o.p m.rk)=y0u m.p o:=x6k (p:=m.p) e6.1;unfold MQ.p;simp only[e3 b5];rw[hj])) hM⟩;refine sk<|tn<|sr<|mv U U<|asg U<|nn<|rt<|r1 results61 U ?_;have hM:=a3.ext<|(((q1.n6 q2 q3 a9 b0 a6 a7).n1 b1).n1 b7).z3 d0 q24 b9;exact⟨_,rfl,MRet.err (by rw[z8w,if_neg c9,if_neg (λh=>h a8),if_neg b6,if_pos (l18.1 λe=>c4<|if_neg e)];rw[if_pos (l18.1 λe=>c4<|if_neg e)]) c4 hM.fr⟩
end Go.Proofs.YtkafbfjmcigaiaaGreatDoor
namespace Go.G08
open Go.Lw Go.G21
theorem x2g {p:MSt}{y:Int}{q:Yn}(h:MInv p)(Z:1<=y/\y<=6)(O:y1v q)(I:q.ct=(p.y y).ct):MInv (p.setY y q):=by
 have hl:(y-1).toNat<p.ys.length:=by rw[h.ly];omega
 refine⟨h.rk,h.B,by show (p.ys.set _ q).length=6;rw[l19];exact h.ly,h.lt,λk D=>?_,h.has,h.cnt,h.all,h.cv⟩;show y1v ((p.ys.set (y-1).toNat q).getD k yn0)/\((p.ys.set (y-1).toNat q).getD k yn0).ct=z3h p.tb k;rw[z1k hl];split;rename_i e;refine⟨O,I.trans ?_⟩;have:=(h.yn k D).2;rw[<-e]at this ⊢;exact this;exact h.yn k D
theorem v9c {st:List Pa}{p:Pa}(h:y7w st)(hp:y2t p):y7w (y1f st p):=by
 unfold y1f;split;intro i hi;rw[l27]at hi;have e:∀k,k<st.length-1->(st.take<|st.length-1).getD k pa0=st.getD k pa0:=λk Z=>by
  rw[List.getD,l53,if_pos Z,List.getD]
 obtain⟨I,O⟩:=h i oo;refine⟨by rw[e i oo];exact I,λD=>?_⟩;rw[e i oo,e (i-1) oo];exact O D;rename_i hc;intro i hi;rw[l13,l46]at hi;have e:∀k,k<st.length->(st++[p]).getD k pa0=st.getD k pa0:=λk Z=>by
  rw[List.getD,l40 Z,List.getD]
 by_cases hl:i<st.length;obtain⟨I,O⟩:=h i hl;refine⟨by rw[e i hl];exact I,λD=>?_⟩;rw[e i hl,e (i-1) oo];exact O D;obtain rfl:i=st.length:=by omega
 have ep:(st++[p]).getD st.length pa0=p:=by simp[List.getD]
 refine⟨by rw[ep];exact hp,λD=>?_⟩;rw[ep,e (st.length-1) oo];exact λhh=>hc ⟨D,hh⟩
theorem x6a:∀ {l st:List Pa},y7w st->j0a l->y7w (z5d st l)
 | [],_,h,_=>h
 | p::l,st,h,hv=>x6a (l:=l) (v9c h<|hv p sp0)<|λq D=>hv q<|l41 _ D
theorem k0c {y:Yn}{pl:Int}{l:List Pa}(h:goE y pl l=0):y1v (goS y pl l):=by
 unfold goE at h;split at h;exact absurd h t12;rename_i D;have D:=v9h<|l18.1 D;split at h;omega;rename_i O;split at h;omega;rename_i Z;split at h;omega;rename_i hi;have hi:y.inn=true:=by simpa using hi
 split at h;omega;have I:=D.2;rw[if_pos hi]at I;refine⟨D.1,?_⟩;show if y.inn=true then _ else _
 rw[if_pos hi];exact⟨l18.1 O,by show (z5d y.pe l).length<=4096;omega,x6a I.2.2 (l18.1 Z)⟩
theorem y0j (B:Bd){b n:Int}(h:z4a b n=0)(s:List LId):(B.put b n s).flat.length+(B.at b n).length=B.flat.length+s.length:=by
 have:=(List.perm_iff_count.2 (λi=>by rw[l21,l21];exact z5b B h s i):((B.put b n s).flat++B.at b n).Perm (B.flat++s)).length_eq;simpa using this
theorem j0l {B:Bd}(h:BdOk B){b n:Int}(hn:z4a b n=0):BdOk (B.put b n []):=h.put hn sp0 sp0 λi=>by
 have:=l85.1 h.nd i
 simp only[l132];omega
theorem u7o {p q:MSt}{o:MOp}(h:MInv p)(hn:z4a o.b o.p=0)(e:y3l p o=.ok q):MInv q:=by
 unfold y3l at e;split at e;cases e;cases e;refine⟨h.rk,j0l h.B hn,h.ly,h.lt,h.yn,λi hi=>?_,?_,h.all,h.cv⟩;rcases y2z hn hi with k|k
 cases k;exact h.has i k;have D:=y0j p.B hn [];have I:=h.cnt;show (p.B.put o.b o.p []).flat.length+(p.fa++p.B.at o.b o.p).length<=z4r p.tb;rw[l13];simp only[l57]at D;omega
theorem y6g {p:MSt}{o:MOp}(h:o.b=0\/o.b=1)(i:LId):(y0u p o).count i=(p.B.at o.b o.p).count i+(p.B.at (1-o.b)<|z5s o.b o.p p.rk).count i:=by
 unfold y0u;rcases h with e|e
 rw[e,if_neg dd,l21,show (1:Int)-0=1 from U];omega;rw[e,if_pos U,l21,show (1:Int)-1=0 from U]
theorem u6p {p q:MSt}{o:MOp}(h:MInv p)(hn:z4a o.b o.p=0)(e:z8w p o=.ok q):MInv q:=by
 unfold z8w at e;split at e;cases e;split at e;cases e;rename_i D;have D:=l18.1 D;split at e;cases e;split at e;cases e;rename_i h4;cases e;have hb:=(z2w hn).1;have hc:=y6g (p:=p) (o:=o) hb;have a0:(y0u p o).length=(p.B.at o.b o.p).length+(p.B.at (1-o.b)<|z5s o.b o.p p.rk).length:=by
  have:=(List.perm_iff_count.2 (λi=>by rw[l21];exact hc i):(y0u p o).Perm (p.B.at o.b o.p++p.B.at (1-o.b) (z5s o.b o.p p.rk))).length_eq;simpa using this
 have I:∀i∈y0u p o,i∈p.B.flat:=λi hi=>by
  have O:=l125.2 hi;rw[hc i]at O;by_cases k:0<(p.B.at o.b o.p).count i;exact y1k<|l125.1 k;exact y1k<|l125.1 (show 0<(p.B.at (1-o.b)<|z5s o.b o.p p.rk).count i by omega)
 have Z:(p.B.put o.b o.p []).at (1-o.b) (z5s o.b o.p p.rk)=p.B.at (1-o.b) (z5s o.b o.p p.rk):=by
  rw[y6k p.B hn D,if_neg oo]
 have a1:=j0l h.B hn;refine⟨h.rk,a1.put D oo (λi hi=>h.B.nm i<|I i hi)<|λi=>?_,h.ly,h.lt,h.yn,λi hi=>?_,?_,h.all,h.cv⟩;have O:=z5b p.B hn [] i;have h2:=l85.1 h.B.nd i;rw[Z,hc i];simp only[l132]at O;omega;rcases y2z D hi with k|k
 exact h.has i<|I i k;rcases y2z hn k with k|k
 cases k;exact h.has i k;have O:=y0j p.B hn [];have h2:=y0j (p.B.put o.b o.p []) D<|y0u p o;have h3:=h.cnt;rw[Z,a0]at h2;simp only[l57]at O;show ((p.B.put o.b o.p []).put (1-o.b) (z5s o.b o.p p.rk)<|y0u p o).flat.length+p.fa.length<=z4r p.tb;omega
theorem v5g {p q:MSt}{o:MOp}{th st:List LId}(h:MInv p)(hy:1<=o.y/\o.y<=6)(hn:z4a o.b o.p=0)(hs:st=[]\/(st=p.B.at o.b o.p/\st.length<4))(e:y1y p o th st=.ok q):MInv q:=by
 unfold y1y at e;split at e;cases e;rename_i hm;split at e;cases e;rename_i hc;cases e;have hm:=l18.1 hm;obtain⟨j,hj,a6⟩:∃j:Nat,j<6/\o.y=(j:Int)+1:=⟨(o.y-1).toNat,oo,oo⟩;have O:(o.y-1).toNat=j:=by omega
 have I:=h.yn j hj;have a7:p.y o.y=p.ys.getD j yn0:=by unfold MSt.y;rw[O]
 rw[<-a7]at I;have a5:j<p.ys.length:=by rw[h.ly];exact hj
 have D:j<p.tb.length:=by rw[h.lt];exact hj
 have a0:(p.y o.y).inn=true/\(p.y o.y).ct≠2048:=by
  unfold mkE at hm;split at hm;exact absurd hm t12;split at hm;omega;rename_i hi;split at hm;omega;rename_i hk;exact⟨by simpa using hi,hk⟩
 have a8:=I.1.1;have Z:∀i∈p.B.flat,i≠⟨o.y,(p.y o.y).ct⟩:=λi hi e=>by
  have:=h.has i hi;rw[e]at this;obtain⟨_,_,_,h4⟩:=this;simp only at h4;rw[O,I.2]at h4;omega
 have a1:∀i∈st,i∈p.B.flat:=λi hi=>by
  rcases hs with e|⟨e,_⟩
  rw[e]at hi;cases hi;rw[e]at hi;exact y1k hi
 have a2:p.row o.y=p.tb.getD j []:=by unfold MSt.row;rw[O]
 simp only[O,a2];have a4:(st++[(⟨o.y,(p.y o.y).ct⟩:LId)]).length<=4:=by
  rw[l13,l46];rcases hs with e|⟨_,e⟩
  rw[e];simp;omega
 have a3:=y7e p.tb j (p.tb.getD j []++[(⟨o.b,(p.y o.y).nw,th,(p.y o.y).pe⟩:Lp)]) D;rw[l13,l46,show (p.tb.getD j []).length=z3h p.tb j from U]at a3;refine⟨h.rk,h.B.put hn a4 (λi hi=>?_)<|λi=>?_,by show (p.ys.set _ _).length=6;rw[l19];exact h.ly,by show (p.tb.set _ _).length=6;rw[l19];exact h.lt,λk hk=>?_,λi hi=>?_,?_,?_,h.cv⟩;rcases l22.1 hi with k|k
 exact h.B.nm i<|a1 i k;rw[l11.1 k];unfold y2n;simp only;omega;have hd:=l85.1 h.B.nd i;rw[l21,l98];by_cases e:(⟨o.y,(p.y o.y).ct⟩:LId)=i;have h0:p.B.flat.count i=0:=l75.2 λk=>Z i k e.symm;have h1:st.count i=0:=l75.2 λk=>Z i (a1 i k) e.symm;rw[h0,h1];split<;>omega
 rw[if_neg (by simpa using e)];rcases hs with e|⟨e,_⟩
 rw[e];simp only[l132];omega;rw[e];omega;show y1v ((p.ys.set j<|mkS<|p.y o.y).getD k yn0)/\((p.ys.set j<|mkS<|p.y o.y).getD k yn0).ct=z3h (p.tb.set j _) k;rw[z1k a5,y0o D];by_cases e:j=k;rw[if_pos e,if_pos e];refine⟨⟨⟨by show 0<=(p.y o.y).ct+1;omega,by show (p.y o.y).ct+1<=2048;omega⟩,?_⟩,?_⟩;have h2:=I.1.2;rw[if_pos a0.1]at h2;show if true=true then _ else _
 rw[if_pos U];exact⟨h2.1,by show ([]:List Pa).length<=4096;simp,λi hi=>by simp[mkS]at hi⟩;show (p.y o.y).ct+1=_;rw[I.2,l13,l46];rfl;rw[if_neg e,if_neg e];exact h.yn k hk;rcases y2z hn hi with k|k
 rcases l22.1 k with k|k
 exact x1d D<|h.has i<|a1 i k;rw[l11.1 k];have:=y0s (T:=p.tb.set j<|p.tb.getD j []++[(⟨o.b,(p.y o.y).nw,th,(p.y o.y).pe⟩:Lp)]) (y:=j) (n:=z3h p.tb j) (by rw[l19];exact D) (by rw[y0o D,if_pos U,l13,l46];exact l116 _);rwa [<-a6,<-I.2]at this;exact x1d D<|h.has i k;have h1:=y0j p.B hn<|st++[(⟨o.y,(p.y o.y).ct⟩:LId)];have h2:=h.cnt;have h3:st.length<=(p.B.at o.b o.p).length:=by
  rcases hs with e|⟨e,_⟩
  rw[e];simp;rw[e];exact l20 _
 rw[l13,l46]at h1;show (p.B.put o.b o.p _).flat.length+p.fa.length<=z4r (p.tb.set j _);omega;have:=h.all;show z4r (p.tb.set j _)<=2048;omega
theorem k4d {p q:MSt}{o:MOp}(h:MInv p)(Z:1<=o.y/\o.y<=6)(hd:z6k o.d)(e:inM p o=.ok q):MInv q:=by
 unfold inM at e;split at e;cases e;rename_i D;cases e;have D:=l18.1 D;refine x2g h Z ?_ U;have I:y1v (p.y o.y):=by
  unfold enE at D;split at D;exact absurd D t12;rename_i O;exact v9h<|l18.1 O
 refine⟨I.1,?_⟩;show if true=true then _ else _
 rw[if_pos U];refine⟨?_,by show ([]:List Pa).length<=4096;simp,λi hi=>by simp[enS]at hi⟩;show x3r (if o.d=1 then 179 else -13);split<;>decide
theorem j9h {p q:MSt}{o:MOp}(h:MInv p)(Z:1<=o.y/\o.y<=6)(e:x6z p o=.ok q):MInv q:=by
 unfold x6z at e;split at e;cases e;rename_i D;cases e;have D:=l18.1 D;refine x2g h Z ?_ U;have I:y1v (p.y o.y):=by
  unfold lvE at D;split at D;exact absurd D t12;rename_i O;exact v9h<|l18.1 O
 refine⟨I.1,?_⟩;show if false=true then _ else _
 rw[if_neg dd];exact⟨rfl,rfl,rfl⟩
theorem y1i {p q:MSt}{y pl en:Int}(h:MInv p)(I:1<=y/\y<=6)(e:z9d p y pl en=.ok q):MInv q/\q.B=p.B/\q.rk=p.rk:=by
 unfold z9d at e;split at e;cases e;rename_i D;cases e;exact⟨x2g h I (k0c<|l18.1 D) U,rfl,rfl⟩
theorem u8k {p q:MSt}{o:MOp}(h:MInv p)(D:1<=o.y/\o.y<=6)(e:y3h p o=.ok q):MInv q:=by
 unfold y3h at e;split at e;cases e;exact(y1i h D e).1
theorem u3q {p q:MSt}{o:MOp}(h:MInv p)(D:1<=o.y/\o.y<=6)(hn:z4a o.b o.p=0)(e:y1q p o=.ok q):MInv q:=by
 unfold y1q at e;split at e;cases e;split at e;cases e;rename_i r I;exact v5g (y1i h D I).1 D hn (.inl U) e
theorem u8f {p q:MSt}{o:MOp}(h:MInv p)(D:1<=o.y/\o.y<=6)(hn:z4a o.b o.p=0)(e:y0t p o=.ok q):MInv q:=by
 unfold y0t at e;split at e;cases e;split at e;cases e;rename_i r I;split at e;cases e;exact v5g (y1i h D I).1 D hn (.inr ⟨rfl,oo⟩) e
theorem v2n {p:MSt}{d:Int}{y D:Yn}(e:z7i p d y=.ok D):(y1v y->y1v D)/\D.ct=y.ct:=by
 unfold z7i at e;split at e;cases e;exact⟨id,rfl⟩;split at e;cases e;rename_i I;cases e;exact⟨λ_=>k0c<|l18.1 I,rfl⟩
theorem x5j {p:MSt}{d:Int}:∀ {l l':List Yn},z4e p d l=.ok l'->l'.length=l.length/\∀k,(y1v (l.getD k yn0)->y1v (l'.getD k yn0))/\(l'.getD k yn0).ct=(l.getD k yn0).ct
 | [],l',e=>by cases e;exact⟨rfl,λk=>⟨id,rfl⟩⟩
 | y::l,l',e=>by
  unfold z4e at e
  split at e
  ·cases e
  rename_i y' O
  split at e
  ·cases e
  rename_i Z hl
  cases e
  obtain⟨D,I⟩:=x5j hl
  refine⟨by simp[D],λk=>?_⟩
  cases k with
  | zero=>exact v2n O
  | succ k=>simpa only[l63] using I k
def k6a (l:List Cx):Prop:=∀c∈l,-1048576<=c.n/\c.n<=1048576
theorem j3u {l l':List Cx}{c:Cx}(h:k6a l)(e:y4p l c=.ok l'):k6a l':=by
 unfold y4p at e;dsimp only at e;generalize (if 0<z6h c.a c.b then (c.b,c.a) else (c.a,c.b))=kk at e;split at e;cases e;rename_i O;split at e;cases e;intro x D;exact h x (l103.1 D).1;cases e;intro x D;unfold y4s at D;split at D;obtain⟨z,I,rfl⟩:=l55.1 D;split;simp only;omega;exact h z I;rcases l22.1 D with k|k
 exact h x k;rw[l11.1 k];simp only;omega
theorem x0k:∀ {r l l':List Cx},k6a l->z4o l r=.ok l'->k6a l'
 | [],l,l',h,e=>by cases e;exact h
 | c::r,l,l',h,e=>by
  unfold z4o at e
  split at e
  ·cases e
  rename_i I D
  exact x0k (j3u h D) e
theorem z8x {p q:MSt}{d:Int}(h:MInv p)(hd:-4<=p.rk+stI d/\p.rk+stI d<=4)(e:z6l p d=.ok q):MInv q/\q.rk=p.rk+stI d:=by
 unfold z6l at e;split at e;cases e;rename_i ys I;split at e;cases e;rename_i cr D;cases e;obtain⟨h1,O⟩:=x5j I;exact⟨⟨hd,h.B,h1.trans h.ly,h.lt,λk Z=>⟨(O k).1 (h.yn k Z).1,(O k).2.trans (h.yn k Z).2⟩,h.has,h.cnt,h.all,x0k h.cv D⟩,rfl⟩
theorem v0m {r:Int}(O:-4<=r/\r<=4):∀ {n:Nat} {p q:MSt},MInv p->z4t n p r=.ok q->MInv q
 | 0,p,q,h,e=>by cases e;exact h
 | n+1,p,q,h,e=>by
  unfold z4t at e
  split at e
  ·cases e;exact h
  rename_i I
  split at e
  ·cases e
  rename_i p2 D
  have Z:=h.rk
  refine v0m O (z8x h ?_ D).1 e
  unfold stI
  split<;>split<;>omega
theorem z8h {p q:MSt}{o:MOp}(h:MInv p)(e:doM p o=.ok q):MInv q:=by
 unfold doM at e;split at e;cases e;rename_i hc;obtain⟨_,O,D,h3,I,Z⟩:=z4c<|l18.1 hc;unfold opM at e;split at e;exact k4d h (D oo) (O oo) e;split at e;exact j9h h (D oo) e;split at e;exact v0m (Z oo) h e;split at e;exact u3q h (D oo) (I oo) e;split at e;exact u8f h (D oo) (I oo) e;split at e;exact u8k h (D oo) e;split at e;exact u6p h (I oo) e;exact u7o h (I oo) e
end Go.G08
namespace Go.G08
open Go.Lw Go.G21
section
variable {τ:TyK} {Mt:Nat} {wS w w' w2:World} {a:MA} {m:MQ} {j:Nat} {u:SV} {q:LpQ}
theorem MkM.row (h:MkM τ Mt wS a w m)(D:MtOk τ Mt)(hj:j<6)(hq:LpO τ wS.heap.size w q)(a1:∀k∈z0v (slv q.th),k∉z0v (slv m.fa))
    (h1:Lw.Own z7k τ.L wS.heap.size w' (slv u) ((m.ts.getD j tq0).2++[q])) (f1:Fr (z0v<|slv (m.ts.getD j tq0).1) w w') (hx:slv u=slv (m.ts.getD j tq0).1\/z0v (slv u)=z0v (slv (m.ts.getD j tq0).1)\/z0v (slv u)=[w.heap.size])
    (h2:Lw.Own z4x τ.T wS.heap.size w2 a.TV (m.ts.set j (u,(m.ts.getD j tq0).2++[q]))) (f2:Fr [a.gt] w' w2):MkM τ Mt wS a w2 { m with ts:=m.ts.set j (u,(m.ts.getD j tq0).2++[q]) }:=by
  have hl:j<m.ts.length:=by rw[h.lt];exact hj
  have I:∀T,T≠τ.L->OffT w T (z0v<|slv (m.ts.getD j tq0).1):=λT hT=>z7h (h.t.ins j hl)<|l51 hT
  have O:=z1y h.t.out f1<|I _ D.o.tl
  have Z:∀T,T≠τ.T->OffT w' T [a.gt]:=λT hT=>z7h O<|l51 hT
  refine⟨y4i (y4i h.k f1<|I _ D.l) f2<|Z _ D.t,BdO.tf (BdO.tf h.b f1 (I _<|l51 D.o.ls)<|I _<|l51 D.o.li) f2 (Z _<|l51 D.o.ts)<|Z _<|l51 D.o.ti,
    (h.y.tf f1 (I _ D.o.yl)<|I _<|l51 D.o.lp).tf f2 (Z _ D.o.yt)<|Z _<|l51 D.o.tp,h.t.put D.o hl hq h1 f1 hx h2 f2,(h.c.tf f1<|I _ D.l).tf f2<|Z _ D.t,z1y (z1y h.f f1<|I _<|l51 D.o.li) f2<|Z _<|l51 D.o.ti,h.fb,λi hi p hp=>?_,h.ly,by rw[l19];exact h.lt,h.gk,h.gc,(h.fr.step f1 (y8g (h.t.ins j hl) t41) λk hk a0=>?_).step f2 (y8g O t41) λk hk a0=>?_⟩
  · simp only at hp
    rw[z1k hl]at hp
    split at hp
    · rcases l22.1 hp with k|k
      · exact h.ft j hj p k
      · rw[l11.1 k];exact a1
    · exact h.ft i hi p hp
  · have:=((h.t.ins j hl).blk k hk).1;omega
  · have:=(h.t.out.blk k hk).1;omega
theorem j8h {p:MSt}{o:MOp}{st:List LId}(h:MInv p)(hy:1<=o.y/\o.y<=6)(hs:st=[]\/(st=p.B.at o.b o.p/\st.length<4))(Z:mkE (p.y o.y)=0) :
    (st++[(⟨o.y,(p.y o.y).ct⟩:LId)]).length<=4/\(∀i∈st++[(⟨o.y,(p.y o.y).ct⟩:LId)],y2n i)/\∀i,p.B.flat.count i+(st++[(⟨o.y,(p.y o.y).ct⟩:LId)]).count i<=(p.B.at o.b o.p).count i+1:=by
  obtain⟨j,hj,a4⟩:∃j:Nat,j<6/\o.y=(j:Int)+1:=⟨(o.y-1).toNat,oo,oo⟩
  have O:(o.y-1).toNat=j:=by omega
  have I:=h.yn j hj
  have a2:p.y o.y=p.ys.getD j yn0:=by unfold MSt.y;rw[O]
  rw[<-a2]at I
  have a1:(p.y o.y).inn=true/\(p.y o.y).ct≠2048:=by
    unfold mkE at Z
    split at Z
    · exact absurd Z t12
    · split at Z
      · omega
      · rename_i hi
        split at Z
        · omega
        · rename_i hk;exact⟨by simpa using hi,hk⟩
  have a3:=I.1.1
  have D:∀i∈p.B.flat,i≠⟨o.y,(p.y o.y).ct⟩:=λi hi e=>by
    have:=h.has i hi
    rw[e]at this
    obtain⟨_,_,_,h4⟩:=this
    simp only at h4
    rw[O,I.2]at h4
    omega
  have a0:∀i∈st,i∈p.B.flat:=λi hi=>by
    rcases hs with e|⟨e,_⟩
    · rw[e]at hi;cases hi
    · rw[e]at hi;exact y1k hi
  refine⟨?_,λi hi=>?_,λi=>?_⟩
  · rw[l13,l46]
    rcases hs with e|⟨_,e⟩
    · rw[e];simp
    · omega
  · rcases l22.1 hi with k|k
    · exact h.B.nm i<|a0 i k
    · rw[l11.1 k];unfold y2n;simp only;omega
  · have hd:=l85.1 h.B.nd i
    rw[l21,l98]
    by_cases e:(⟨o.y,(p.y o.y).ct⟩:LId)=i
    · have h0:p.B.flat.count i=0:=l75.2 λk=>D i k e.symm
      have h1:st.count i=0:=l75.2 λk=>D i (a0 i k) e.symm
      rw[h0,h1];split<;>omega
    · rw[if_neg (by simpa using e)]
      rcases hs with e|⟨e,_⟩
      · rw[e];simp only[l132];omega
      · rw[e];omega
end
end Go.G08
namespace Go.Lw
theorem y2p {ι:Type}{pq:Option Nat}{P:Program}{ops:Array Oper}{K:Act->World->Prop}{C:World->Prop}{fu:Nat}{listed:Array Bool}{a:Act}{w:World}{ds:List Nat}{n:Nat}{L:List (Nat×Value)}(h:AgM ds a n L)(Z:List (Nat×Value))(_hs:Sub Z L)(D:Array Bool)(O:Nat)(M:ι->List (Nat×Value))(R:ι->World->Prop)
    (main:(∀(i:ι) l2 I w',l2=D->AgM ds I n (Z++M i)->R i w'->z0y pq P ops (z0s K) C O l2 I w')->z0y pq P ops (z0s K) C fu listed a w)
    (tail:∀i I w',R i w'->AgM ds I n (Z++M i)->z0y pq P ops (z0s K) C O D I w'):z0y pq P ops (z0s K) C fu listed a w:=
  main λi l2 I w' e ha hr=>by subst e;exact tail i I w' hr ha
end Go.Lw
namespace Go.Proofs.YtkafbfjmcigaiaaGreatDoor
open Go.Lw Go.G21 Go.G08 _root_.Go.Proofs.Tryz
theorem k6z:BuildAt prog 131 [(0,1),(1,1),(2,1),(3,1)] [(.int .u8 0),(.bool false),(.slice none 0 0),(.slice none 0 0)]:=BuildAt.struct underlying131 (λ_=>kr)<|λ_=>kr
theorem x4u:CallOf prog 54:=mkC func54
theorem u2u:CallOf prog 146:=mkC func146
theorem y3v:z1d prog 120 3 4:=λ_ _=>kr
theorem j3x:z1d prog 226 0 0:=λ_ _=>kr
theorem j2p:z1d prog 226 1 1:=λ_ _=>kr
theorem j6u:z1d prog 226 2 2:=λ_ _=>kr
theorem j6b:z1r prog 114 1:=λ_=>kr
theorem z4g (v:Value)(l:List LId)(w0:World)(hs:Sl z1g w0 v l)(hl:l.length<=100000):Rets prog 54 #[v] w0 λr w'=>∃g,r=.slice (saa g) l.length l.length/\w0.heap.size<=g/\Lw.Own z1g 54 w0.heap.size w' r l/\Fr [] w0 w':=by
 obtain⟨A,c,rfl,a0,hM,hA⟩:=id hs;clear hA;unfold maxLen at hM;refine we [(0,.slice A l.length c)] func54 U ntmps54 U (.cons U .nil) ?_;have I:=hs;refine sr<|asg U<|nn<|sr<|mv U U<|lnS U underlying32<|z1f (m:=l.length) (c:=l.length) (id0) U z4l z8v U<|λZ w1 a1 D O z1=>(asg U<|nn<|sr<|mv U U<|mv U U ?_);have hs:=I.ext O;refine z9g (zs:=List.replicate l.length id0) t34 U (by rw[l23];exact D) hs t35 z4l<|λw2 D q2 z2=>?_;rw[l23]at D;exact nn<|sr<|mv U U<|asg U<|nn<|rt<|r1 results54 U ⟨_,rfl,Z,rfl,oo,D.low oo,(O.z1 q2)⟩
theorem j0h (ts:List TQ)(j:Nat):(ts.getD j tq0).2.length<=z4r (z2o ts):=by
 by_cases h:j<ts.length;have k:=y7e (z2o ts) j [] (by rw[l15];exact h);have e:z3h (z2o ts) j=(ts.getD j tq0).2.length:=by
  unfold z3h;rw[List.getD,List.getD,l24,l10 h];exact l15 ..
 rw[l57,e]at k;omega;rw[List.getD,l34 oo];exact l17 _
theorem k3v {o:MOp}{ths st:List LId}{th sn u:SV}{q':BdQ}(m:MQ)(j:Nat)(D:(o.y-1).toNat=j)(I:q'.p=m.q.p.put o.b o.p (st++[(⟨o.y,(m.ys.getD j yq0).ct⟩:LId)])) :
    { m with q:=q',ys:=m.ys.set j ⟨true,(m.ys.getD j yq0).pl,(m.ys.getD j yq0).ct+1,false,sv0,[]⟩,ts:=m.ts.set j (u,(m.ts.getD j tq0).2++[(⟨o.b,(m.ys.getD j yq0).nw,th,sn,ths,(m.ys.getD j yq0).pes⟩:LpQ)]) }.p =
      { m.p with B:=m.p.B.put o.b o.p<|st++[(⟨o.y,(m.ys.getD j yq0).p.ct⟩:LId)],ys:=m.p.ys.set (o.y-1).toNat<|mkS (m.ys.getD j yq0).p,tb:=m.p.tb.set (o.y-1).toNat (m.p.row o.y++[(⟨o.b,(m.ys.getD j yq0).p.nw,ths,(m.ys.getD j yq0).p.pe⟩:Lp)]) }:=by
  unfold MSt.row
  rw[D]
  have O:(z2o m.ts).getD j []=(m.ts.getD j tq0).2.map LpQ.p:=by
    rw[List.getD,List.getD,l24]
    cases m.ts[j]?<;>rfl
  simp only[MQ.p,I,l133,O,l30,l28,l140,mkS]
theorem v5y (wS:World)(ka:MA)(m:MQ)(o:MOp)(th:SV)(j9:List LId)(s6:Value)(st:List LId)(w0:World)(hM:MkM τd 120 wS ka w0 m)(hi:MInv m.p)(hy:1<=o.y/\o.y<=6)(hn:z4a o.b o.p=0)(g4:Lw.Own z1g 54 wS.heap.size w0 (slv th) j9)(s2:∀k∈z0v (slv th),k∉z0v (slv m.fa))(b6:Sl z1g w0 s6 st)(hs:st=[]\/(st=m.q.p.at o.b o.p/\st.length<4)):Rets prog 111 #[pta ka.gk,opV o,.slice th.1 th.2.1 th.2.2,s6] w0 λr w'=>MRet τd 120 wS ka (y1y m.p o j9 st) r w':=by
 have A3:=hM.fr.size;have O:=hM.k;have y8:=O.lt;have y9:=hM.ly;have o7:=hM.lt;have y3:=(hM.y.out.blk ka.gy t10).2;obtain⟨j,hj,A0⟩:∃j:Nat,j<6/\o.y=(j:Int)+1:=⟨(o.y-1).toNat,oo,oo⟩;have r6:(o.y-1).toNat=j:=by omega
 have l4:m.p.y o.y=(m.ys.getD j yq0).p:=by rw[k4m,r6]
 obtain⟨AS,cS,rfl,y6⟩:=b6.form;have z0:=z2w hn;obtain⟨n,i0⟩:∃n:Nat,o.p=(n:Int):=⟨o.p.toNat,oo⟩;have hv:BdOk m.q.p:=hi.B;have A2:st.length<=3:=by rcases hs with e|⟨_,e⟩;rw[e];simp;omega
 have y0:z4r (z2o m.ts)<=2048:=hi.all;have y4:=hM.gk;have r9:∀k∈z0v (slv (m.ts.getD j tq0).1),k<w0.heap.size:=λk O=>((hM.t.ins j (by rw[o7];exact hj)).blk k O).2;have k2:ka.gk∉z0v (slv th):=λhb=>g4.neB hM.k dd hb;have k4:ka.gy∉z0v (slv th):=λhb=>Own.neO hM.y.out g4 dd ka.gy t10 hb;have k5:∀k∈z0v (slv th),k<w0.heap.size:=λk O=>(g4.blk k O).2;refine we [(0,pta ka.gk),(1,opV o),(2,.slice th.1 th.2.1 th.2.2),(3,.slice AS st.length cS)] func111 U ntmps111 U (.c4 U U U U) ?_;have h7:=hM;have s1:=b6;refine sr<|bx U<|λg5 w1 y7 I q1 z1=>(asg U<|nn<|jn (ι:=Nat×Nat) (ll4 0 2 3 5) (λp=>[(9,pta p.1),(10,pta p.2),(11,.int .i64<|mkE (m.ys.getD j yq0).p)]) (λp w'=>Fr [] w1 w'/\∃(qn:YQ) (e2:Int) (e3:Bool) (sn:SV) (d0:List Pa),(w1.heap.size<=p.1/\w1.heap.size<=p.2/\((mkE (m.ys.getD j yq0).p)=0->qn=(⟨true,(m.ys.getD j yq0).pl,(m.ys.getD j yq0).ct+1,false,sv0,[]⟩:YQ)/\e2=(m.ys.getD j yq0).ct/\e3=(m.ys.getD j yq0).nw/\d0=(m.ys.getD j yq0).pes))/\Blk w' p.1 110 (z3l.enc qn)/\Blk w' p.2 226 [.int .i64 e2,.bool e3,.slice sn.1 sn.2.1 sn.2.2]/\OwnIf ((mkE (m.ys.getD j yq0).p)=0) z2i 172 (max wS.heap.size w1.heap.size) w' (slv sn) d0) (csu U) ?_ ?_);have hM:=h7.ext q1;intro a h;refine z0h none (λwb w'=>Fr [] wb w') z2s ?_;intro w2 q2;have z2:=q2.size;have hM:=hM.ext q2;have O:=O.ext<|q1.n1 q2;have I:=I.ext q2;have hC:Fr [] w2 w2:=l12 _ _;have d1:=hM;have b9:=O;have b3:=I;refine y2p (ι:=(Nat×Nat)×YQ×(Int×Bool)×SV×List Pa) h (ll4 0 2 3 5) (csu U) #[true,true,true,true,true,true,true,true,true,true,true,true,true,true,true,true,false,false,false] 3 (λp=>[(9,pta p.1.1),(10,pta p.1.2),(26,yvv p.2.1),(27,.agg #[.int .i64 p.2.2.1.1,.bool p.2.2.1.2,.slice p.2.2.2.1.1 p.2.2.2.1.2.1 p.2.2.2.1.2.2]),(28,.int .i64<|mkE (m.ys.getD j yq0).p)]) (λp w'=>Fr [] w2 w'/\(w2.heap.size<=p.1.1/\w2.heap.size<=p.1.2/\p.1.1≠p.1.2)/\((mkE (m.ys.getD j yq0).p)=0->p.2.1=(⟨true,(m.ys.getD j yq0).pl,(m.ys.getD j yq0).ct+1,false,sv0,[]⟩:YQ)/\p.2.2.1.1=(m.ys.getD j yq0).ct/\p.2.2.1.2=(m.ys.getD j yq0).nw/\p.2.2.2.2=(m.ys.getD j yq0).pes/\p.1.1∉z0v (slv p.2.2.2.1)/\p.1.2∉z0v (slv p.2.2.2.1))/\Blk w' p.1.1 110 [.bool false,.int .i64 0,.int .i64 0,.bool false,.slice none 0 0]/\Blk w' p.1.2 226 [.int .i64 0,.bool false,.slice none 0 0]/\OwnIf ((mkE (m.ys.getD j yq0).p)=0) z2i 172 (max wS.heap.size w2.heap.size) w' (slv p.2.2.2.1) p.2.2.2.2) (λf1=>?_) ?_;refine z0e 0 h U λa h=>z0p 1 h U λa h=>z0c 2 h U z3s U λa h=>z0m 3 h U (λ_ hw=>b9.ext hw) U y5e U λa h=>z0c 4 h U z4h U λa h=>z0m 5 h U (λ_ hw=>b3.ext hw) U na5 U λa h=>z3a 6 h U t23 U λa h=>z1e (p:=j) (yq0) 7 h U hM.y.out.sl U y4x U λx8 q0 a h=>z2d (cs:=z3l.enc<|m.ys.getD j yq0) 8 h wn U (λ_ hw=>q0 _ (d1.ext hw).y.out.sl) z3m U λa h=>x0z 9 14 15 kr U U U ?_ ?_ ?_;refine z0n h (z0a U z0f) u2u (y2d (m.ys.getD j yq0) _ (hM.y.ins j oo).sl<|λk O=>((hM.y.ins j oo).blk k O).2) ?_;rintro _ w3 ⟨qn,e2,e3,sn,d0,rfl,a7,q3⟩ a h;have z3:=q3.size;have hM:=hM.ext q3;have O:=O.ext q3;have I:=I.ext q3;have hC:=hC.next q3;have Z:OwnIf ((mkE (m.ys.getD j yq0).p)=0) z2i 172 _ _ (slv sn) d0:=λhc=>(a7 hc).2.2.2.2;have e1:=λhc k O=>((Z hc).blk k O).2;refine z0b<|z0e 10 h U λa h=>z0k 11 h U λa h=>z0k 12 h U λa h=>z0k 13 h U λa h=>z1u 14 15 kr U ?_ ?_;refine z0u h z6m U λw4 a0 q4 hz a h=>?_;obtain⟨b2,hg⟩:∃g,g=w3.heap.size:=⟨_,rfl⟩;rw[<-hg]at a0 h hz;have c9.gk_9:ka.gk<b2:=by have:=O.lt;omega
 have h9:g5<b2:=by have:=I.lt;omega
 have z4:=q4.size;have O:=O.ext q4;have I:=I.ext q4;have hC:=hC.next q4;refine z0b<|z0d 15 U<|z0u h x3h U λw5 D q5 hz a h=>?_;obtain⟨a8,hg⟩:∃g,g=w4.heap.size:=⟨_,rfl⟩;rw[<-hg]at D h hz;have c9.gk_10:ka.gk<a8:=by have:=O.lt;omega
 have f8:g5<a8:=by have:=I.lt;omega
 have i9:b2<a8:=by have:=a0.lt;omega
 have z5:=q5.size;have Z:=Z.ext<|q4.n1 q5;have a0:=a0.ext q5;have hC:=hC.next q5;exact z0b<|f1 ((b2,a8),qn,(e2,e3),sn,d0) _ _ _ kr (h.sub<|csu U) ⟨hC,⟨sm,sm,sm⟩,(λe=>⟨(a7 e).1,(a7 e).2.1,(a7 e).2.2.1,(a7 e).2.2.2.1,(λa4=>by have b8:=e1 e _ a4;have b1:=(Z e).blk _ a4;simp only at b8 b1;omega),(λa4=>by have b8:=e1 e _ a4;have b1:=(Z e).blk _ a4;simp only at b8 b1;omega)⟩),a0,D,(λe=>(Z e).low oo)⟩;refine z0u h x3h U λw6 D q6 hz a h=>?_;obtain⟨a8,hg⟩:∃g,g=w3.heap.size:=⟨_,rfl⟩;rw[<-hg]at D h hz;have c9.gk_10:ka.gk<a8:=by have:=O.lt;omega
 have f8:g5<a8:=by have:=I.lt;omega
 have z6:=q6.size;have O:=O.ext q6;have I:=I.ext q6;have hC:=hC.next q6;refine z0b<|z0d 14 U<|z0u h z6m U λw7 a0 q7 hz a h=>?_;obtain⟨b2,hg⟩:∃g,g=w6.heap.size:=⟨_,rfl⟩;rw[<-hg]at a0 h hz;have c9.gk_9:ka.gk<b2:=by have:=O.lt;omega
 have h9:g5<b2:=by have:=I.lt;omega
 have i8:a8<b2:=by have:=D.lt;omega
 have z7:=q7.size;have Z:=Z.ext<|q6.n1 q7;have D:=D.ext q7;have hC:=hC.next q7;exact z0b<|f1 ((b2,a8),qn,(e2,e3),sn,d0) _ _ _ kr (h.sub<|csu U) ⟨hC,⟨sm,sm,sm⟩,(λe=>⟨(a7 e).1,(a7 e).2.1,(a7 e).2.2.1,(a7 e).2.2.2.1,(λa4=>by have b8:=e1 e _ a4;have b1:=(Z e).blk _ a4;simp only at b8 b1;omega),(λa4=>by have b8:=e1 e _ a4;have b1:=(Z e).blk _ a4;simp only at b8 b1;omega)⟩),a0,D,(λe=>(Z e).low oo)⟩;refine z0u h z6m U λw8 a0 q8 hz a h=>?_;obtain⟨b2,hg⟩:∃g,g=w2.heap.size:=⟨_,rfl⟩;rw[<-hg]at a0 h hz;have c9.gk_9:ka.gk<b2:=by have:=O.lt;omega
 have h9:g5<b2:=by have:=I.lt;omega
 have z8:=q8.size;have hM:=hM.ext q8;have O:=O.ext q8;have I:=I.ext q8;have hC:=hC.next q8;refine z0b<|z1u 9 15 kr U ?_ ?_;refine z0n h (z0a U z0f) u2u (y2d (m.ys.getD j yq0) _ (hM.y.ins j oo).sl<|λk O=>((hM.y.ins j oo).blk k O).2) ?_;rintro _ w9 ⟨qn,e2,e3,sn,d0,rfl,a7,q9⟩ a h;have z9:=q9.size;have O:=O.ext q9;have I:=I.ext q9;have a0:=a0.ext q9;have hC:=hC.next q9;have Z:OwnIf ((mkE (m.ys.getD j yq0).p)=0) z2i 172 _ _ (slv sn) d0:=λhc=>(a7 hc).2.2.2.2;have e1:=λhc k O=>((Z hc).blk k O).2;refine z0b<|z0e 10 h U λa h=>z0k 11 h U λa h=>z0k 12 h U λa h=>z0k 13 h U λa h=>z0d 15 U<|z0u h x3h U λA6 D n7 hz a h=>?_;obtain⟨a8,hg⟩:∃g,g=w9.heap.size:=⟨_,rfl⟩;rw[<-hg]at D h hz;have c9.gk_10:ka.gk<a8:=by have:=O.lt;omega
 have f8:g5<a8:=by have:=I.lt;omega
 have i9:b2<a8:=by have:=a0.lt;omega
 have E0:=n7.size;have a0:=a0.ext n7;have Z:=Z.ext n7;have hC:=hC.next n7;exact z0b<|f1 ((b2,a8),qn,(e2,e3),sn,d0) _ _ _ kr (h.sub<|csu U) ⟨hC,⟨sm,sm,sm⟩,(λe=>⟨(a7 e).1,(a7 e).2.1,(a7 e).2.2.1,(a7 e).2.2.2.1,(λa4=>by have b8:=e1 e _ a4;have b1:=(Z e).blk _ a4;simp only at b8 b1;omega),(λa4=>by have b8:=e1 e _ a4;have b1:=(Z e).blk _ a4;simp only at b8 b1;omega)⟩),a0,D,(λe=>(Z e).low oo)⟩;refine z0u h x3h U λA7 D l8 hz a h=>?_;obtain⟨a8,hg⟩:∃g,g=w8.heap.size:=⟨_,rfl⟩;rw[<-hg]at D h hz;have c9.gk_10:ka.gk<a8:=by have:=O.lt;omega
 have f8:g5<a8:=by have:=I.lt;omega
 have i9:b2<a8:=by have:=a0.lt;omega
 have E1:=l8.size;have hM:=hM.ext l8;have O:=O.ext l8;have hC:=hC.next l8;refine z0b<|z0d 9 U<|z0n h (z0a U z0f) u2u (y2d (m.ys.getD j yq0) _ (hM.y.ins j oo).sl<|λk O=>((hM.y.ins j oo).blk k O).2) ?_;rintro _ A8 ⟨qn,e2,e3,sn,d0,rfl,a7,l9⟩ a h;have E2:=l9.size;have O:=O.ext l9;have a0:=a0.ext<|l8.n1 l9;have D:=D.ext l9;have hC:=hC.next l9;have Z:OwnIf ((mkE (m.ys.getD j yq0).p)=0) z2i 172 _ _ (slv sn) d0:=λhc=>(a7 hc).2.2.2.2;have e1:=λhc k O=>((Z hc).blk k O).2;refine z0b<|z0e 10 h U λa h=>z0k 11 h U λa h=>z0k 12 h U λa h=>z0k 13 h U λa h=>?_;exact f1 ((b2,a8),qn,(e2,e3),sn,d0) _ _ _ kr (h.sub<|csu U) ⟨hC,⟨sm,sm,sm⟩,(λe=>⟨(a7 e).1,(a7 e).2.1,(a7 e).2.2.1,(a7 e).2.2.2.1,(λa4=>by have b8:=e1 e _ a4;have b1:=(Z e).blk _ a4;simp only at b8 b1;omega),(λa4=>by have b8:=e1 e _ a4;have b1:=(Z e).blk _ a4;simp only at b8 b1;omega)⟩),a0,D,(λe=>(Z e).low oo)⟩;refine z0u h x3h U λu9 D m0 hz a h=>?_;obtain⟨a8,hg⟩:∃g,g=w2.heap.size:=⟨_,rfl⟩;rw[<-hg]at D h hz;have c9.gk_10:ka.gk<a8:=by have:=O.lt;omega
 have f8:g5<a8:=by have:=I.lt;omega
 have E3:=m0.size;have hM:=hM.ext m0;have O:=O.ext m0;have I:=I.ext m0;have hC:=hC.next m0;refine z0b<|z1u 9 14 kr U ?_ ?_;refine z0n h (z0a U z0f) u2u (y2d (m.ys.getD j yq0) _ (hM.y.ins j oo).sl<|λk O=>((hM.y.ins j oo).blk k O).2) ?_;rintro _ v8 ⟨qn,e2,e3,sn,d0,rfl,a7,m1⟩ a h;have E4:=m1.size;have O:=O.ext m1;have I:=I.ext m1;have D:=D.ext m1;have hC:=hC.next m1;have Z:OwnIf ((mkE (m.ys.getD j yq0).p)=0) z2i 172 _ _ (slv sn) d0:=λhc=>(a7 hc).2.2.2.2;have e1:=λhc k O=>((Z hc).blk k O).2;refine z0b<|z0e 10 h U λa h=>z0k 11 h U λa h=>z0k 12 h U λa h=>z0k 13 h U λa h=>z0d 14 U<|z0u h z6m U λA9 a0 n8 hz a h=>?_;obtain⟨b2,hg⟩:∃g,g=v8.heap.size:=⟨_,rfl⟩;rw[<-hg]at a0 h hz;have c9.gk_9:ka.gk<b2:=by have:=O.lt;omega
 have h9:g5<b2:=by have:=I.lt;omega
 have i8:a8<b2:=by have:=D.lt;omega
 have E5:=n8.size;have D:=D.ext n8;have Z:=Z.ext n8;have hC:=hC.next n8;exact z0b<|f1 ((b2,a8),qn,(e2,e3),sn,d0) _ _ _ kr (h.sub<|csu U) ⟨hC,⟨sm,sm,sm⟩,(λe=>⟨(a7 e).1,(a7 e).2.1,(a7 e).2.2.1,(a7 e).2.2.2.1,(λa4=>by have b8:=e1 e _ a4;have b1:=(Z e).blk _ a4;simp only at b8 b1;omega),(λa4=>by have b8:=e1 e _ a4;have b1:=(Z e).blk _ a4;simp only at b8 b1;omega)⟩),a0,D,(λe=>(Z e).low oo)⟩;refine z0u h z6m U λB0 a0 k8 hz a h=>?_;obtain⟨b2,hg⟩:∃g,g=u9.heap.size:=⟨_,rfl⟩;rw[<-hg]at a0 h hz;have c9.gk_9:ka.gk<b2:=by have:=O.lt;omega
 have h9:g5<b2:=by have:=I.lt;omega
 have i8:a8<b2:=by have:=D.lt;omega
 have E6:=k8.size;have hM:=hM.ext k8;have O:=O.ext k8;have I:=I.ext k8;have D:=D.ext k8;have hC:=hC.next k8;refine z0b<|z0d 9 U<|z0n h (z0a U z0f) u2u (y2d (m.ys.getD j yq0) _ (hM.y.ins j oo).sl<|λk O=>((hM.y.ins j oo).blk k O).2) ?_;rintro _ B1 ⟨qn,e2,e3,sn,d0,rfl,a7,hq⟩ a h;have E7:=hq.size;have hM:=hM.ext hq;have O:=O.ext hq;have I:=I.ext hq;have D:=D.ext hq;have a0:=a0.ext hq;have hC:=hC.next hq;have A4:=hq;have Z:OwnIf ((mkE (m.ys.getD j yq0).p)=0) z2i 172 _ _ (slv sn) d0:=λhc=>(a7 hc).2.2.2.2;have e1:=λhc k O=>((Z hc).blk k O).2;refine z0b<|z0e 10 h U λa h=>z0k 11 h U λa h=>z0k 12 h U λa h=>z0k 13 h U λa h=>?_;exact f1 ((b2,a8),qn,(e2,e3),sn,d0) _ _ _ kr (h.sub<|csu U) ⟨hC,⟨sm,sm,sm⟩,(λe=>⟨(a7 e).1,(a7 e).2.1,(a7 e).2.2.1,(a7 e).2.2.2.1,(λa4=>by have b8:=e1 e _ a4;have b1:=(Z e).blk _ a4;simp only at b8 b1;omega),(λa4=>by have b8:=e1 e _ a4;have b1:=(Z e).blk _ a4;simp only at b8 b1;omega)⟩),a0,D,(λe=>(Z e).low oo)⟩;rintro⟨⟨b2,a8⟩,qn,⟨e2,e3⟩,sn,d0⟩ a w18 ⟨hC,⟨p3,l5,hz910⟩,a7,a0,D,Z⟩ h;simp only at p3 l5 hz910 a7 a0 D Z;have n9:=hC;have E8:=n9.size;have O:=O.ext n9;have I:=I.ext n9;refine z0d 16 U<|z0t h U a0 U z3n ?_ (h1:=(by first|(simp[Value.oneCell',S];done)|exact z3l.one<|m.ys.getD j yq0));intro v9 i7 j6 hz a h;have E9:=j6.size;have O:=O.fr j6;have I:=I.fr j6;have D:=D.fr j6;have Z:=Z.fr j6 (by intro l2 k O a4;simp at O;subst O;first|exact(a7 l2).2.2.2.2.1 a4|exact(a7 l2).2.2.2.2.2 a4);have hC:=hC.sp j6;have a0:Blk v9 b2 _ [_,_,_,_,_]:=i7;clear i7;refine z0b<|z0d 17 U<|z0t h U D U x4d ?_ (h1:=(by first|(simp[Value.oneCell',S];done)|exact z3l.one<|m.ys.getD j yq0));intro x0 i7 j7 hz a h;have F0:=j7.size;have O:=O.fr j7;have I:=I.fr j7;have a0:=a0.fr j7;have Z:=Z.fr j7 (by intro l2 k O a4;simp at O;subst O;first|exact(a7 l2).2.2.2.2.1 a4|exact(a7 l2).2.2.2.2.2 a4);have hC:=hC.sp j7;have D:Blk x0 a8 _ [_,_,_]:=i7;clear i7;refine z0b<|z0d 18 U<|z0o h U λa h=>?_;refine z0b<|z0q ?_;clear hC d1 b9 b3;exact bk (h.sub (L':=ll7 0 2 3 5 9 10 11)<|csu U)<|jE ((b2,a8)) (csu U) ⟨(q2.z3 n9 j6 j7),⟨qn,e2,e3,sn,d0,⟨sm,sm,λe=>⟨(a7 e).1,(a7 e).2.1,(a7 e).2.2.1,(a7 e).2.2.2.1⟩⟩,a0,D,λe=>(Z e).low oo⟩⟩;rintro⟨g9,f2⟩ B2 ⟨h3,⟨qn,e2,e3,sn,d0,⟨p3,l5,a7⟩,a0,D,Z⟩⟩;have F1:=h3.size;have s9:=a0.lt;have s4:=D.lt;simp only at p3 l5 a0 D;refine kpC [(0,_),(2,_),(3,_),(5,_),(9,pta g9),(10,pta f2),(11,.int .i64<|mkE (m.ys.getD j yq0).p)] (csu U)<|sq<|sr<|mv U U<|ne' U<|nn<|cd U (λc0=>?_)<|λc0=>?_;refine sr<|mv U U<|asg U<|kpL (ll1 8) (csu U)<|nn<|rt<|tr<|r1 results111 U ?_;have hM:=h7.ext<|q1.n1 h3;exact⟨_,rfl,MRet.err (by unfold y1y;rw[l4,if_pos c0]) c0 hM.fr⟩;have O:=O.ext<|q1.n1 h3;have l3:(mkE (m.ys.getD j yq0).p)=0:=l18.1 c0;obtain⟨rfl,rfl,rfl,rfl⟩:=a7 l3;have Z:=Z l3;have g0:=λk O=>(Z.blk k O).2;obtain⟨m5,m7,m6⟩:=j8h hi hy hs (by rw[l4];exact l3);rw[l4]at m5 m7 m6;refine sk<|tn<|sq<|sr<|mv U U<|nlc U<|fad U y3v<|z0i U O U v1r ?_;have hM:=h7.ext<|q1.n1 h3;refine cl (ev1 U) (mkC func147) (y4z _ m.ts _ hM.t.at.1 hM.t.at.2 oo) U ?_;rintro _ B3 ⟨rfl,e7⟩;have F2:=e7.size;refine ge' U<|kpL (ll7 0 2 3 5 9 10 37) (csu U)<|nn<|cd U (λc1=>?_)<|λc1=>?_;refine sr<|asg U<|kpL (ll1 8) (csu U)<|nn<|rt<|tr<|r1 results111 U ?_;have hM:=h7.ext<|q1.n2 h3 e7;exact⟨_,rfl,MRet.err (by unfold y1y;rw[l4,if_neg (λe=>e l3),if_pos (show 2048<=z4r m.p.tb by have:m.p.tb=z2o m.ts:=rfl;rw[this];omega)]) dd hM.fr⟩;refine sk<|tn<|sr<|fad U z4h ?_;have I:=I.ext<|h3.n1 e7;refine z0i U I U na5<|fad U j3x ?_;have D:=D.ext e7;refine z0i U D U na3<|z1t (cs:=[_,_]) (ev2 U) k7k (z0g U<|z0g U z0r) U ?_;refine al z8v U<|λf9 B4 y1 a6 f4 F3=>?_;refine z0j (vs:=[_,_]) U a6 y0i (λB5 a6 f5 F5=>?_) (h1:=(by first|(simp[Value.oneCell',S];done)|exact z3l.one<|m.ys.getD j yq0));refine kpL (ll7 0 2 3 5 9 10 12) (csu U)<|nn<|sr<|fad U z5n<|y7i U z6s U ?_;have I:=(I.ext f4).fr f5;refine z0i U I U x7o<|fad U j2p ?_;have D:=(D.ext f4).fr f5;refine z0i U D U na4<|mv U U<|fad U j6u<|z0i U D U y0x<|z1t (cs:=[_,_,_,_]) (ev4 U) k6z (z0g U<|z0g U<|z0g U<|z0g U z0r) U ?_;refine al x8o U<|λf3 B6 y2 a2 e8 F6=>?_;refine z0j (vs:=[_,_,_,_]) U a2 v4u (λp6 a2 e9 F7=>?_) (h1:=(by first|(simp[Value.oneCell',S];done)|exact z3l.one<|m.ys.getD j yq0));refine kpL (ll6 0 3 5 9 12 13) (csu U)<|nn<|jn (ι:=Nat) (ll4 0 5 9 13) (λg_=>[(14,pta g_),(11,.int .i64 0)]) (λg_ w'=>Fr [] p6 w'/\∃q':BdQ,(p6.heap.size<=g_/\q'.p=m.q.p.put o.b o.p (st++[(⟨o.y,(m.ys.getD j yq0).ct⟩:LId)]))/\Blk w' g_ 27 (bdL q')/\BdO 32 54 (max wS.heap.size p6.heap.size) w' q') (csu U) ?_ ?_;have hM:=h7.ext<|q1.z6 h3 e7 f4 f5 e8 e9;have O:=(((O.ext<|e7.n1 f4).fr f5).ext e8).fr e9;have b6:=s1.ext<|q1.z6 h3 e7 f4 f5 e8 e9;have I:=(I.ext e8).fr e9;have a0:=(((a0.ext<|e7.n1 f4).fr f5).ext e8).fr e9;have D:=(D.ext e8).fr e9;have Z:=(((Z.ext<|e7.n1 f4).fr f5 (by intro k O a4;simp at O;subst O;have b1:=Z.blk _ a4;have k7:=g0 _ a4;omega)).ext e8).fr e9 (by intro k O a4;simp at O;subst O;have b1:=Z.blk _ a4;have k7:=g0 _ a4;omega);have a6:=(a6.ext e8).fr e9;intro a h;refine z0h none (λwb w'=>Fr [] wb w') z2s ?_;intro d7 g6;have F8:=g6.size;have hM:=hM.ext g6;have O:=O.ext g6;have b6:=b6.ext g6;have I:=I.ext g6;have a0:=a0.ext g6;have D:=D.ext g6;have Z:=Z.ext g6;have a6:=a6.ext g6;have a2:=a2.ext g6;have hC:Fr [] d7 d7:=l12 _ _;have d1:=hM;have b9:=O;have p0:=b6;have b3:=I;have h8:=a0;have m4:=D;have g3:=Z;have k0:=a6;have d9:=a2;refine y2p (ι:=Nat×BdQ) h (ll6 0 3 5 9 12 13) (csu U) #[true,true,true,true,true,true,true,true,true,true,true,true,true,true,true,true,false,false] 2 (λp=>[(14,pta p.1),(65,bvv p.2),(66,.int .i64 0)]) (λp w'=>Fr [] d7 w'/\(d7.heap.size<=p.1/\p.2.p=m.q.p.put o.b o.p (st++[(⟨o.y,(m.ys.getD j yq0).ct⟩:LId)]))/\Blk w' p.1 27 [.slice none 0 0,.slice none 0 0]/\BdO 32 54 (max wS.heap.size d7.heap.size) w' p.2) (λj5=>?_) ?_;refine y2p (ι:=(Nat×Nat)×Nat) h (ll6 0 3 5 9 12 13) (csu U) #[true,true,true,true,true,true,true,true,true,true,false,false,false,false,false,true,false,false] 7 (λp=>[(56,bvv m.q),(58,.agg #[.int .u8 o.b,.int .i64 o.p]),(60,.slice (saa p.1.1) st.length st.length),(62,.slice (saa p.1.2) 1 1),(14,pta p.2)]) (λp w'=>Fr [] d7 w'/\(d7.heap.size<=p.1.1/\d7.heap.size<=p.1.2)/\Lw.Own z1g 54 d7.heap.size w' (.slice (saa p.1.1) st.length st.length) st/\Lw.Own z1g 54 d7.heap.size w' (.slice (saa p.1.2) 1 1) [(⟨o.y,(m.ys.getD j yq0).ct⟩:LId)]/\d7.heap.size<=p.2/\Blk w' p.2 27 [.slice none 0 0,.slice none 0 0]) (λg1=>?_) ?_;refine y2p (ι:=Nat×Nat) h (ll6 0 3 5 9 12 13) (csu U) #[true,true,true,true,true,true,true,true,true,true,false,false,false,false,false,false,false,false] 8 (λp=>[(56,bvv m.q),(58,.agg #[.int .u8 o.b,.int .i64 o.p]),(60,.slice (saa p.1) st.length st.length),(62,.slice (saa p.2) 1 1)]) (λp w'=>Fr [] d7 w'/\(d7.heap.size<=p.1/\d7.heap.size<=p.2)/\Lw.Own z1g 54 d7.heap.size w' (.slice (saa p.1) st.length st.length) st/\Lw.Own z1g 54 d7.heap.size w' (.slice (saa p.2) 1 1) [(⟨o.y,(m.ys.getD j yq0).ct⟩:LId)]) (λl1=>?_) ?_;refine z0e 0 h U λa h=>z0p 1 h U λa h=>z0c 2 h U z3r U λa h=>z1h (vs:=[_,_]) 3 h U (λ_ hw=>(b9.ext hw)) z5e U U λa h=>z0c 4 h U z5n U λa h=>z1h (vs:=[_,_]) 5 h U (λ_ hw=>(b3.ext hw)) z5o U U λa h=>z0e 6 h U λa h=>z0x 8 h U (λ_ hw=>k0.ext hw) z3b U λa h=>x0z 7 9 15 kr U U U ?_ ?_ ?_;refine z0n h (z0a U z0f) x4u (z4g _ st _ b6 oo) ?_;rintro _ x1 ⟨f0,rfl,k1,hX,g7⟩ a h;have F9:=g7.size;have hM:=hM.ext g7;have O:=O.ext g7;have b6:=b6.ext g7;have I:=I.ext g7;have a0:=a0.ext g7;have D:=D.ext g7;have Z:=Z.ext g7;have a6:=a6.ext g7;have a2:=a2.ext g7;have hC:=hC.next g7;have i5:=λk O=>(hX.blk k O).2;refine z0b<|z1u 9 15 kr U ?_ ?_;refine z2r ([(⟨o.y,(m.ys.getD j yq0).ct⟩:LId)]) h (z0a U z0f) U z4l λa5 B7 hg a9 p4 hz a h=>?_;have c9.gk_62:ka.gk<a5:=by have:=O.lt;omega
 have b7:g5<a5:=by have:=I.lt;omega
 have b7:g9<a5:=by have:=a0.lt;omega
 have e4:f2<a5:=by have:=D.lt;omega
 have e5:f9<a5:=by have:=a6.lt;omega
 have e6:f3<a5:=by have:=a2.lt;omega
 have G0:=p4.size;have hX:=hX.ext p4;have hC:=hC.next p4;exact z0b<|l1 (f0,a5) _ _ _ kr (h.sub<|csu U) ⟨hC,⟨sm,sm⟩,hX.low oo,a9.low oo⟩;refine z0u h x6y U λB8 a3 i1 hz a h=>?_;obtain⟨a1,hg⟩:∃g,g=x1.heap.size:=⟨_,rfl⟩;rw[<-hg]at a3 h hz;have c9.gk_14:ka.gk<a1:=by have:=O.lt;omega
 have b4:g5<a1:=by have:=I.lt;omega
 have b4:g9<a1:=by have:=a0.lt;omega
 have d4:f2<a1:=by have:=D.lt;omega
 have d5:f9<a1:=by have:=a6.lt;omega
 have d6:f3<a1:=by have:=a2.lt;omega
 have G1:=i1.size;have O:=O.ext i1;have I:=I.ext i1;have a0:=a0.ext i1;have D:=D.ext i1;have a6:=a6.ext i1;have a2:=a2.ext i1;have hC:=hC.next i1;refine z0b<|z0d 9 U<|z2r ([(⟨o.y,(m.ys.getD j yq0).ct⟩:LId)]) h (z0a U z0f) U z4l λa5 B9 hg a9 o0 hz a h=>?_;have c9.gk_62:ka.gk<a5:=by have:=O.lt;omega
 have b7:g5<a5:=by have:=I.lt;omega
 have b7:g9<a5:=by have:=a0.lt;omega
 have e4:f2<a5:=by have:=D.lt;omega
 have e5:f9<a5:=by have:=a6.lt;omega
 have e6:f3<a5:=by have:=a2.lt;omega
 have h6:a1<a5:=by have:=a3.lt;omega
 have G2:=o0.size;have hX:=hX.ext<|i1.n1 o0;have a3:=a3.ext o0;have hC:=hC.next o0;exact z0b<|g1 ((f0,a5),a1) _ _ _ kr (h.sub<|csu U) ⟨hC,⟨sm,sm⟩,hX.low oo,a9.low oo,sm,a3⟩;refine z2r ([(⟨o.y,(m.ys.getD j yq0).ct⟩:LId)]) h (z0a U z0f) U z4l λa5 x2 hg a9 g8 hz a h=>?_;have c9.gk_62:ka.gk<a5:=by have:=O.lt;omega
 have b7:g5<a5:=by have:=I.lt;omega
 have b7:g9<a5:=by have:=a0.lt;omega
 have e4:f2<a5:=by have:=D.lt;omega
 have e5:f9<a5:=by have:=a6.lt;omega
 have e6:f3<a5:=by have:=a2.lt;omega
 have G3:=g8.size;have hM:=hM.ext g8;have O:=O.ext g8;have b6:=b6.ext g8;have I:=I.ext g8;have a0:=a0.ext g8;have D:=D.ext g8;have Z:=Z.ext g8;have a6:=a6.ext g8;have a2:=a2.ext g8;have hC:=hC.next g8;refine z0b<|z1u 7 15 kr U ?_ ?_;refine z0n h (z0a U z0f) x4u (z4g _ st _ b6 oo) ?_;rintro _ C0 ⟨f0,rfl,k1,hX,o1⟩ a h;have G4:=o1.size;have O:=O.ext o1;have a9:=a9.ext o1;have hC:=hC.next o1;have i5:=λk O=>(hX.blk k O).2;exact z0b<|l1 (f0,a5) _ _ _ kr (h.sub<|csu U) ⟨hC,⟨sm,sm⟩,hX.low oo,a9.low oo⟩;refine z0u h x6y U λC1 a3 m2 hz a h=>?_;obtain⟨a1,hg⟩:∃g,g=x2.heap.size:=⟨_,rfl⟩;rw[<-hg]at a3 h hz;have c9.gk_14:ka.gk<a1:=by have:=O.lt;omega
 have b4:g5<a1:=by have:=I.lt;omega
 have b4:g9<a1:=by have:=a0.lt;omega
 have d4:f2<a1:=by have:=D.lt;omega
 have d5:f9<a1:=by have:=a6.lt;omega
 have d6:f3<a1:=by have:=a2.lt;omega
 have p8:a5<a1:=by have:=(a9.blk a5 t10).2;omega
 have G5:=m2.size;have b6:=b6.ext m2;have hC:=hC.next m2;refine z0b<|z0d 7 U<|z0n h (z0a U z0f) x4u (z4g _ st _ b6 oo) ?_;rintro _ C2 ⟨f0,rfl,k1,hX,m3⟩ a h;have G6:=m3.size;have O:=O.ext<|m2.n1 m3;have a9:=a9.ext<|m2.n1 m3;have a3:=a3.ext m3;have hC:=hC.next m3;have i5:=λk O=>(hX.blk k O).2;exact z0b<|g1 ((f0,a5),a1) _ _ _ kr (h.sub<|csu U) ⟨hC,⟨sm,sm⟩,hX.low oo,a9.low oo,sm,a3⟩;refine z0u h x6y U λC3 a3 h0 hz a h=>?_;obtain⟨a1,hg⟩:∃g,g=d7.heap.size:=⟨_,rfl⟩;rw[<-hg]at a3 h hz;have c9.gk_14:ka.gk<a1:=by have:=O.lt;omega
 have b4:g5<a1:=by have:=I.lt;omega
 have b4:g9<a1:=by have:=a0.lt;omega
 have d4:f2<a1:=by have:=D.lt;omega
 have d5:f9<a1:=by have:=a6.lt;omega
 have d6:f3<a1:=by have:=a2.lt;omega
 have G7:=h0.size;have hM:=hM.ext h0;have O:=O.ext h0;have b6:=b6.ext h0;have I:=I.ext h0;have a0:=a0.ext h0;have D:=D.ext h0;have Z:=Z.ext h0;have a6:=a6.ext h0;have a2:=a2.ext h0;have hC:=hC.next h0;refine z0b<|z1u 7 9 kr U ?_ ?_;refine z0n h (z0a U z0f) x4u (z4g _ st _ b6 oo) ?_;rintro _ C4 ⟨f0,rfl,k1,hX,i2⟩ a h;have G8:=i2.size;have O:=O.ext i2;have I:=I.ext i2;have a0:=a0.ext i2;have D:=D.ext i2;have a6:=a6.ext i2;have a2:=a2.ext i2;have a3:=a3.ext i2;have hC:=hC.next i2;have i5:=λk O=>(hX.blk k O).2;refine z0b<|z0d 9 U<|z2r ([(⟨o.y,(m.ys.getD j yq0).ct⟩:LId)]) h (z0a U z0f) U z4l λa5 C5 hg a9 o2 hz a h=>?_;have c9.gk_62:ka.gk<a5:=by have:=O.lt;omega
 have b7:g5<a5:=by have:=I.lt;omega
 have b7:g9<a5:=by have:=a0.lt;omega
 have e4:f2<a5:=by have:=D.lt;omega
 have e5:f9<a5:=by have:=a6.lt;omega
 have e6:f3<a5:=by have:=a2.lt;omega
 have h6:a1<a5:=by have:=a3.lt;omega
 have G9:=o2.size;have a3:=a3.ext o2;have hX:=hX.ext o2;have hC:=hC.next o2;exact z0b<|g1 ((f0,a5),a1) _ _ _ kr (h.sub<|csu U) ⟨hC,⟨sm,sm⟩,hX.low oo,a9.low oo,sm,a3⟩;refine z2r ([(⟨o.y,(m.ys.getD j yq0).ct⟩:LId)]) h (z0a U z0f) U z4l λa5 C6 hg a9 f6 hz a h=>?_;have c9.gk_62:ka.gk<a5:=by have:=O.lt;omega
 have b7:g5<a5:=by have:=I.lt;omega
 have b7:g9<a5:=by have:=a0.lt;omega
 have e4:f2<a5:=by have:=D.lt;omega
 have e5:f9<a5:=by have:=a6.lt;omega
 have e6:f3<a5:=by have:=a2.lt;omega
 have h6:a1<a5:=by have:=a3.lt;omega
 have H0:=f6.size;have hM:=hM.ext f6;have O:=O.ext f6;have b6:=b6.ext f6;have I:=I.ext f6;have a0:=a0.ext f6;have D:=D.ext f6;have Z:=Z.ext f6;have a6:=a6.ext f6;have a2:=a2.ext f6;have a3:=a3.ext f6;have hC:=hC.next f6;refine z0b<|z0d 7 U<|z0n h (z0a U z0f) x4u (z4g _ st _ b6 oo) ?_;rintro _ C7 ⟨f0,rfl,k1,hX,hq⟩ a h;have H1:=hq.size;have hM:=hM.ext hq;have O:=O.ext hq;have b6:=b6.ext hq;have I:=I.ext hq;have a0:=a0.ext hq;have D:=D.ext hq;have Z:=Z.ext hq;have a6:=a6.ext hq;have a2:=a2.ext hq;have a3:=a3.ext hq;have a9:=a9.ext hq;have hC:=hC.next hq;have A5:=hq;have i5:=λk O=>(hX.blk k O).2;exact z0b<|g1 ((f0,a5),a1) _ _ _ kr (h.sub<|csu U) ⟨hC,⟨sm,sm⟩,hX.low oo,a9.low oo,sm,a3⟩;rintro⟨f0,a5⟩ a x3 ⟨hC,⟨l6,l7⟩,hX,a9⟩ h;simp only at l6 l7 hX a9;have h4:=hC;have H2:=h4.size;have hM:=hM.ext h4;have O:=O.ext h4;have b6:=b6.ext h4;have I:=I.ext h4;have a0:=a0.ext h4;have D:=D.ext h4;have Z:=Z.ext h4;have a6:=a6.ext h4;have a2:=a2.ext h4;have i5:=λk h_=>(hX.blk k h_).2;refine z1u 10 15 kr U ?_ ?_;have b0:=hX;refine z7x h U U hX a9.sl z4l U λu7 x4 hX i3 o9 a h=>?_;obtain⟨t8,t9,rfl,r4⟩:=hX.sl.form;have i5:=λk O=>(hX.blk k O).2;have H3:=i3.size;have O:=O.fr i3<|λb5=>b0.neB O dd b5;have I:=I.fr i3<|λb5=>b0.neB I dd b5;have a0:=a0.fr i3<|λb5=>b0.neB a0 dd b5;have D:=D.fr i3<|λb5=>b0.neB D dd b5;have Z:=Z.fr i3<|Own.neO b0 Z dd;have a6:=a6.fr i3 (λb5=>by have:=(b0.blk _ b5).1;omega);have a2:=a2.fr i3<|λb5=>b0.neB a2 dd b5;have hC:=hC.step i3<|λk O o7=>absurd (b0.blk k O).1 oo;refine z0b<|z1u 11 15 kr U ?_ ?_;refine z0n h (z0a U<|z0a U<|z0a U z0f) v9i (by have x:=x4y m.q o.b n _ (st++[(⟨o.y,(m.ys.getD j yq0).ct⟩:LId)]) _ (d1.ext hC).b.at hX.sl hv (by rw[<-i0];exact hn) m5 m7 (by rw[<-i0];exact m6);rw[<-i0]at x;exact x) ?_;rintro _ x5 ⟨⟨q',rfl,hQ,h2⟩,q43⟩ a h;have H4:=q43.size;have O:=O.ext q43;have I:=I.ext q43;have a0:=a0.ext q43;have D:=D.ext q43;have a6:=a6.ext q43;have a2:=a2.ext q43;have hC:=hC.next q43;refine z0b<|z0e 12 h U λa h=>z0k 13 h U λa h=>z0k 14 h U λa h=>z0d 15 U<|z0u h x6y U λC8 a3 o3 hz a h=>?_;obtain⟨a1,hg⟩:∃g,g=x5.heap.size:=⟨_,rfl⟩;rw[<-hg]at a3 h hz;have c9.gk_14:ka.gk<a1:=by have:=O.lt;omega
 have b4:g5<a1:=by have:=I.lt;omega
 have b4:g9<a1:=by have:=a0.lt;omega
 have d4:f2<a1:=by have:=D.lt;omega
 have d5:f9<a1:=by have:=a6.lt;omega
 have d6:f3<a1:=by have:=a2.lt;omega
 have H5:=o3.size;first|have hQ:=BdO.ext hQ o3|have hQ:=BdO.tf hQ o3 (OffT.one a3 dd)<|OffT.one a3 dd
 have hC:=hC.next o3;exact z0b<|j5 (a1,q') _ _ _ kr (h.sub<|csu U) ⟨hC,⟨sm,h2⟩,a3,BdO.low hQ oo⟩;refine z0u h x6y U λC9 a3 p5 hz a h=>?_;obtain⟨a1,hg⟩:∃g,g=x4.heap.size:=⟨_,rfl⟩;rw[<-hg]at a3 h hz;have c9.gk_14:ka.gk<a1:=by have:=O.lt;omega
 have b4:g5<a1:=by have:=I.lt;omega
 have b4:g9<a1:=by have:=a0.lt;omega
 have d4:f2<a1:=by have:=D.lt;omega
 have d5:f9<a1:=by have:=a6.lt;omega
 have d6:f3<a1:=by have:=a2.lt;omega
 have H6:=p5.size;have hX:=hX.ext p5;have hC:=hC.next p5;refine z0b<|z0d 11 U<|z0n h (z0a U<|z0a U<|z0a U z0f) v9i (by have x:=x4y m.q o.b n _ (st++[(⟨o.y,(m.ys.getD j yq0).ct⟩:LId)]) _ (d1.ext hC).b.at hX.sl hv (by rw[<-i0];exact hn) m5 m7 (by rw[<-i0];exact m6);rw[<-i0]at x;exact x) ?_;rintro _ D0 ⟨⟨q',rfl,hQ,h2⟩,q46⟩ a h;have H7:=q46.size;have a3:=a3.ext q46;have hC:=hC.next q46;refine z0b<|z0e 12 h U λa h=>z0k 13 h U λa h=>z0k 14 h U λa h=>?_;exact j5 (a1,q') _ _ _ kr (h.sub<|csu U) ⟨hC,⟨sm,h2⟩,a3,BdO.low hQ oo⟩;refine z0u h x6y U λD1 a3 o4 hz a h=>?_;obtain⟨a1,hg⟩:∃g,g=x3.heap.size:=⟨_,rfl⟩;rw[<-hg]at a3 h hz;have c9.gk_14:ka.gk<a1:=by have:=O.lt;omega
 have b4:g5<a1:=by have:=I.lt;omega
 have b4:g9<a1:=by have:=a0.lt;omega
 have d4:f2<a1:=by have:=D.lt;omega
 have d5:f9<a1:=by have:=a6.lt;omega
 have d6:f3<a1:=by have:=a2.lt;omega
 have H8:=o4.size;have hX:=hX.ext o4;have a9:=a9.ext o4;have hC:=hC.next o4;exact z0b<|g1 ((f0,a5),a1) _ _ _ kr (h.sub<|csu U) ⟨hC,⟨sm,sm⟩,hX.low oo,a9.low oo,sm,a3⟩;rintro⟨⟨f0,a5⟩,a1⟩ a w48 ⟨hC,⟨l6,l7⟩,hX,a9,k6,a3⟩ h;simp only at l6 l7 hX a9 k6 a3;have j0:=hC;have H9:=j0.size;have O:=O.ext j0;have I:=I.ext j0;have a0:=a0.ext j0;have D:=D.ext j0;have Z:=Z.ext j0;have a6:=a6.ext j0;have a2:=a2.ext j0;have i5:=λk h_=>(hX.blk k h_).2;refine z0d 10 U ?_;have b0:=hX;refine z7x h U U hX a9.sl z4l U λu7 D2 hX h5 o9 a h=>?_;obtain⟨t8,t9,rfl,r4⟩:=hX.sl.form;have i5:=λk O=>(hX.blk k O).2;have I0:=h5.size;have O:=O.fr h5<|λb5=>b0.neB O dd b5;have I:=I.fr h5<|λb5=>b0.neB I dd b5;have a0:=a0.fr h5<|λb5=>b0.neB a0 dd b5;have D:=D.fr h5<|λb5=>b0.neB D dd b5;have Z:=Z.fr h5<|Own.neO b0 Z dd;have a6:=a6.fr h5 (λb5=>by have:=(b0.blk _ b5).1;omega);have a2:=a2.fr h5<|λb5=>b0.neB a2 dd b5;have a3:=a3.fr h5<|λb5=>b0.neB a3 dd b5;have hC:=hC.step h5<|λk O o7=>absurd (b0.blk k O).1 oo;refine z0b<|z0d 11 U<|z0n h (z0a U<|z0a U<|z0a U z0f) v9i (by have x:=x4y m.q o.b n _ (st++[(⟨o.y,(m.ys.getD j yq0).ct⟩:LId)]) _ (d1.ext hC).b.at hX.sl hv (by rw[<-i0];exact hn) m5 m7 (by rw[<-i0];exact m6);rw[<-i0]at x;exact x) ?_;rintro _ D3 ⟨⟨q',rfl,hQ,h2⟩,q50⟩ a h;have I1:=q50.size;have a3:=a3.ext q50;have hC:=hC.next q50;refine z0b<|z0e 12 h U λa h=>z0k 13 h U λa h=>z0k 14 h U λa h=>?_;exact j5 (a1,q') _ _ _ kr (h.sub<|csu U) ⟨hC,⟨sm,h2⟩,a3,BdO.low hQ oo⟩;rintro⟨a1,q'⟩ a D4 ⟨hC,⟨k6,h2⟩,a3,hQ⟩ h;simp only at k6 h2 a3 hQ;have i4:=hC;have I2:=i4.size;have O:=O.ext i4;have I:=I.ext i4;have a0:=a0.ext i4;have D:=D.ext i4;have Z:=Z.ext i4;have a6:=a6.ext i4;have a2:=a2.ext i4;refine z0d 16 U<|z0t h U a3 U y9z ?_ (h1:=(by first|(simp[Value.oneCell',S];done)|exact z3l.one<|m.ys.getD j yq0));intro x6 i7 f7 hz a h;have I3:=f7.size;have O:=O.fr f7;have I:=I.fr f7;have a0:=a0.fr f7;have D:=D.fr f7;have Z:=Z.fr f7 (by intro k O a4;simp at O;subst O;have b1:=Z.blk _ a4;have k7:=g0 _ a4;omega);have a6:=a6.fr f7;have a2:=a2.fr f7;first|have hQ:=BdO.ext hQ f7|have hQ:=BdO.tf hQ f7 (OffT.one a3 dd)<|OffT.one a3 dd
 have hC:=hC.sp f7;have a3:Blk x6 a1 _ [_,_]:=i7;clear i7;refine z0b<|z0d 17 U<|z0o h U λa h=>?_;refine z0b<|z0q ?_;clear hC d1 b9 p0 b3 h8 m4 g3 k0 d9;exact bk (h.sub (L':=ll6 0 5 9 11 13 14)<|csu U)<|jE (a1) (csu U) ⟨(g6.z2 i4 f7),⟨q',⟨oo,h2⟩,a3,BdO.low hQ oo⟩⟩;rintro u0 D5 ⟨j1,⟨q',⟨k6,h2⟩,a3,hQ⟩⟩;have I4:=j1.size;have s5:=a3.lt;refine kpC [(0,_),(5,_),(9,_),(13,_),(14,pta u0),(11,.int .i64 0)] (csu U) ?_;have u1:=x5p hQ h7.f oo;refine sq<|sr<|mv U U<|ne' U<|nn<|cd U (λc2=>?_)<|λc2=>?_;exact absurd U c2;refine sk<|tn<|sr<|mv U U<|z0l U a3 z5e<|nlc U<|fad U z3r ?_;have hM:=h7.ext<|(q1.z6 h3 e7 f4 f5 e8 e9).n1 j1;have O:=((((O.ext<|e7.n1 f4).fr f5).ext e8).fr e9).ext j1;refine z5g (cs':=j0f ka { m with q:=q' }) U U hM.k t42 y9z U<|λD6 r7 k9 I5=>?_;have hM:=hM.beds mtd (hQ.low oo) r7 k9 u1;have O:=hM.k;have h7:=hM;have p9:=hM;have hF:Lw.Own z1g 54 wS.heap.size _ (slv m.fa) m.fl:=hM.f;clear r7;refine kpL (ll4 0 5 9 13) (csu U)<|nn<|sq ?_;have I:=(((I.ext e8).fr e9).ext j1).fr k9;have a0:=(((((a0.ext<|e7.n1 f4).fr f5).ext e8).fr e9).ext j1).fr k9;have Z:=(((((Z.ext<|e7.n1 f4).fr f5 (by intro k O a4;simp at O;subst O;have b1:=Z.blk _ a4;have k7:=g0 _ a4;omega)).ext e8).fr e9 (by intro k O a4;simp at O;subst O;have b1:=Z.blk _ a4;have k7:=g0 _ a4;omega)).ext j1).fr k9 (by intro k O a4;simp at O;subst O;have b1:=Z.blk _ a4;have k7:=g0 _ a4;omega);have a2:=(a2.ext j1).fr k9;intro a h;refine z0h (some 9) (λwb w'=>Fr [] wb w') z2s ?_;intro s7 j2;have I6:=j2.size;have hM:=hM.ext j2;have O:=O.ext j2;have I:=I.ext j2;have a0:=a0.ext j2;have Z:=Z.ext j2;have a2:=a2.ext j2;have hC:Fr [] s7 s7:=l12 _ _;have d1:=hM;have b9:=O;have b3:=I;have h8:=a0;have g3:=Z;have d9:=a2;refine z0e 0 h U λa h=>z0p 1 h U λa h=>z0c 2 h U z3s U λa h=>z0m 3 h U (λ_ hw=>b9.ext hw) U y5e U λa h=>z0c 4 h U z4h U λa h=>z0m 5 h U (λ_ hw=>b3.ext hw) U na5 U λa h=>z3a 6 h U t23 U λa h=>z0x 7 h U (λ_ hw=>h8.ext hw) z3m U λa h=>z1m 8 kr hC (p:=j) h wn U y4x oo oo oo U U λa h=>z0d 9 U<|z1a (i:=j) ((⟨true,(m.ys.getD j yq0).pl,(m.ys.getD j yq0).ct+1,false,sv0,[]⟩:YQ):YQ) h U hM.y.out (by rw[hM.ly];exact hj) U z3n λx7 o6 j8 _hz a h=>?_;have hM:=hM.yarn mtd hj o6 j8<|Own.nil _;have h7:=hM;clear o6;have I7:=j8.size;have I:=I.fr j8;have a0:=a0.fr j8;have Z:=Z.fr j8 (by intro k O a4;simp at O;subst O;have b1:=Z.blk _ a4;have k7:=g0 _ a4;omega);have a2:=a2.fr j8;have O:=hM.k;clear _hz;refine z1l<|z0q ?_;clear hC d1 b9 b3 h8 g3 d9;have g4:=(((((((g4.ext<|q1.n3 h3 e7 f4).fr f5 (by intro k O a4;simp at O;subst O;first|exact k2 a4|exact k4 a4|(have:=k5 _ a4;omega))).ext e8).fr e9 (by intro k O a4;simp at O;subst O;first|exact k2 a4|exact k4 a4|(have:=k5 _ a4;omega))).ext j1).fr k9 (by intro k O a4;simp at O;subst O;first|exact k2 a4|exact k4 a4|(have:=k5 _ a4;omega))).ext j2).fr j8 (by intro k O a4;simp at O;subst O;first|exact k2 a4|exact k4 a4|(have:=k5 _ a4;omega));have d3:=hM.t.ins j (by rw[hM.lt];exact hj);have u3:=d3;have u4:∀k∈z0v (slv (m.ts.getD j tq0).1),k<x7.heap.size:=λk O=>(d3.blk k O).2;have A1:(m.ts.getD j tq0).2.length<=2048:=by have:=j0h m.ts j;omega
 refine bk (h.sub (L':=ll3 0 5 13)<|csu U)<|tn<|sq ?_;intro a h;refine z0h (some 20) (λwb w'=>Fr (z0v<|slv (m.ts.getD j tq0).1) wb w') z2s ?_;intro s8 j3;have I8:=j3.size;have hM:=hM.ext j3;have O:=O.ext j3;have g4:=g4.ext j3;have I:=I.ext j3;have Z:=Z.ext j3;have a2:=a2.ext j3;have d3:=d3.ext j3;have hC:Fr (z0v<|slv (m.ts.getD j tq0).1) s8 s8:=l12 _ _;have d1:=hM;have b9:=O;have p1:=g4;have b3:=I;have g3:=Z;have d9:=a2;have e0:=d3;refine z0e 0 h U λa h=>z0p 1 h U λa h=>z0c 2 h U y3v U λa h=>z0m 3 h U (λ_ hw=>b9.fr hw<|λk_=>Own.neB e0 b9 dd k_) U v1r U λa h=>z0c 4 h U z4h U λa h=>z0m 5 h U (λ_ hw=>b3.fr hw<|λk_=>Own.neB e0 b3 dd k_) U na5 U λa h=>z3a 6 h U t23 U λa h=>z0e 7 h U λa h=>z0p 8 h U λa h=>z0c 9 h U y3v U λa h=>z0m 10 h U (λ_ hw=>b9.fr hw<|λk_=>Own.neB e0 b9 dd k_) U v1r U λa h=>z0c 11 h U z4h U λa h=>z0m 12 h U (λ_ hw=>b3.fr hw<|λk_=>Own.neB e0 b3 dd k_) U na5 U λa h=>z3a 13 h U t23 U λa h=>z1e (p:=j) (tq0) 14 h U (show Sl z4x _ ka.TV m.ts from hM.t.out.sl) U x2h U λx9 r5 a h=>z1z 15 h U (λ_ hw=>r5 _ (z1y d1.t.out hw<|z7h e0 dd).sl) y2l U λa h=>z0x 16 h U (λ_ hw=>d9.fr hw (λk_=>by have:=r9 _ k_;omega)) x5c U λa h=>z0d 17 U<|z2r ([(⟨o.b,(m.ys.getD j yq0).nw,th,sn,j9,(m.ys.getD j yq0).pes⟩:LpQ)]) h (z0a U z0f) U y5n λj4 D7 hg o8 l0 hz a h=>?_;have c9.gk_100:ka.gk<j4:=by have:=O.lt;omega
 have r8:g5<j4:=by have:=I.lt;omega
 have p7:f3<j4:=by have:=a2.lt;omega
 have I9:=l0.size;have hM:=hM.ext l0;have g4:=g4.ext l0;have Z:=Z.ext l0;have d3:=d3.ext l0;have hC:=hC.next l0;refine z0b<|z0d 18 U ?_;have m8:=d3;refine z7x h U U d3 o8.sl y5n U λy5 D8 d3 o5 m9 a h=>?_;have p9:=hM;have u2:LpO τd wS.heap.size _ (⟨o.b,(m.ys.getD j yq0).nw,th,sn,j9,(m.ys.getD j yq0).pes⟩:LpQ):=⟨g4,Z.low oo⟩;have u5:=z1y hM.t.out o5<|z7h m8 dd;have u6:=o5;obtain⟨AR,cR,rfl,_⟩:=d3.sl.form;have j4l:=d3;have J0:=o5.size;have hC:=hC.step o5<|λk_ h_ _=>h_;refine z0b<|z0d 19 U<|x2e (p:=j) (E:=z4x) h U U x2h oo oo oo U λa h=>?_;refine z0b<|z0d 20 U<|z1a (i:=j) (((AR,((m.ts.getD j tq0).2++[(⟨o.b,(m.ys.getD j yq0).nw,th,sn,j9,(m.ys.getD j yq0).pes⟩:LpQ)]).length,cR),((m.ts.getD j tq0).2++[(⟨o.b,(m.ys.getD j yq0).nw,th,sn,j9,(m.ys.getD j yq0).pes⟩:LpQ)])):TQ) h U u5 (by rw[hM.lt];exact hj) U j6b λD9 s3 hq _hz a h=>?_;have hM:=p9.row mtd (u:=(AR,((m.ts.getD j tq0).2++[(⟨o.b,(m.ys.getD j yq0).nw,th,sn,j9,(m.ys.getD j yq0).pes⟩:LpQ)]).length,cR)) hj u2 s2 j4l u6 m9 s3 hq;clear hq _hz;refine z1l<|z0q ?_;clear hC d1 b9 p1 b3 g3 d9 e0;refine bk (h.sub (L':=[]) .nil)<|tn<|sr<|asg U<|nn<|rt<|r1 results111 U ?_;exact⟨_,rfl,MRet.ok (by unfold y1y;rw[l4,if_neg (λe=>e l3),if_neg (show ¬2048<=z4r m.p.tb by have:m.p.tb=z2o m.ts:=rfl;rw[this];omega)];exact congrArg Except.ok (k3v m j r6 h2).symm) hM⟩
end Go.Proofs.YtkafbfjmcigaiaaGreatDoor
namespace Go.G08
open Go.Lw Go.G21
theorem z6c (c:Cx)(l:List Cx):crM (c::l)=((c.a,c.b),.int .i64 c.n)::crM l:=rfl
theorem z8o {a b:LId}{c:Cx}:isC a b c=true↔c.a=a/\c.b=b:=by unfold isC;simp
theorem v7e (a b:LId):∀l:List Cx,(z2u (crM l) (a,b)).getD (.int .i64 0)=.int .i64 (z6x l a b)
 | []=>rfl
 | c::l=>by
  rw[z6c]
  unfold z2u z6x
  rw[List.find?_cons]
  by_cases h:c.a=a/\c.b=b
  ·rw[if_pos (by rw[<-h.1,<-h.2]),z8o.2 h];rfl
  have D:isC a b c=false:=by cases e:isC a b c;rfl;exact absurd (z8o.1 e) h
  rw[if_neg (λe=>h ⟨(Prod.mk.inj e).1.symm,(Prod.mk.inj e).2.symm⟩),D]
  exact v7e a b l
theorem u2m {a b:LId}{l:List Cx}(h:(a,b)∉(crM l).map (·.1)):∀c∈l,isC a b c=false:=λc O=>by
 cases e:isC a b c
 ·rfl
 obtain⟨D,I⟩:=z8o.1 e
 refine absurd ?_ h
 unfold crM
 rw[l81]
 exact l55.2 ⟨c,O,by simp[D,I]⟩
theorem u0k (a b:LId)(n:Int):∀l:List Cx,((crM l).map (·.1)).Nodup->crM (y4s l a b n)=z4n (crM l) (a,b) (.int .i64 n)
 | [],_=>rfl
 | c::l,hn=>by
  rw[z6c,l28]at hn
  obtain⟨n1,n2⟩:=l112.1 hn
  have ih:=u0k a b n l n2
  by_cases h:c.a=a/\c.b=b
  ·obtain⟨D,I⟩:=h
   subst D;subst I
   have hl:l.map (λx=>if isC c.a c.b x then (⟨c.a,c.b,n⟩:Cx) else x)=l:=by
    have:=u2m (l:=l) n1
    conv=>rhs;rw[<-List.map_id l]
    refine l107 λx hx=>?_
    rw[this x hx];rfl
   have hi:isC c.a c.b c=true:=z8o.2 ⟨rfl,rfl⟩
   have Z:y4s (c::l) c.a c.b n=⟨c.a,c.b,n⟩::l:=by
    unfold y4s
    rw[List.any_cons,hi,Bool.true_or,if_pos U,l28,hi,if_pos U,hl]
   have O:z4n (((c.a,c.b),Value.int .i64 c.n)::crM l) (c.a,c.b) (.int .i64 n)=((c.a,c.b),.int .i64 n)::crM l:=by
    unfold z4n;simp[l61]
   rw[Z,z6c,z6c,O]
  have D:isC a b c=false:=by cases e:isC a b c;rfl;exact absurd (z8o.1 e) h
  have I:¬((a,b):LId×LId)=(c.a,c.b):=λe=>h ⟨(Prod.mk.inj e).1.symm,(Prod.mk.inj e).2.symm⟩
  have es:y4s (c::l) a b n=c::y4s l a b n:=by
   unfold y4s
   rw[List.any_cons,D,Bool.false_or]
   split
   ·rw[l28,D];rfl
   rfl
  rw[es,z6c,ih]
  unfold z4n
  rw[z6c,l28,l61,if_neg (by simpa using I)]
  cases hf:((crM l).map (·.1)).findIdx? (λx=>decide ((a,b)=x)) with
  | none=>rfl
  | some i=>rfl
theorem u2n (a b:LId):∀l:List Cx,((crM l).map (·.1)).Nodup->crM (x6q l a b)=z6d (crM l) (a,b)
 | [],_=>rfl
 | c::l,hn=>by
  rw[z6c,l28]at hn
  obtain⟨n1,n2⟩:=l112.1 hn
  have ih:=u2n a b l n2
  by_cases h:c.a=a/\c.b=b
  ·obtain⟨D,I⟩:=h
   subst D;subst I
   have hl:l.filter (λx=>!isC c.a c.b x)=l:=List.filter_eq_self.2 λx hx=>by
    rw[u2m (l:=l) n1 x hx];rfl
   have hi:isC c.a c.b c=true:=z8o.2 ⟨rfl,rfl⟩
   have Z:x6q (c::l) c.a c.b=l:=by
    unfold x6q
    rw[l59,hi,hl];rfl
   have O:z6d (((c.a,c.b),Value.int .i64 c.n)::crM l) (c.a,c.b)=crM l:=by
    unfold z6d;simp[l61]
   rw[Z,z6c,O]
  have D:isC a b c=false:=by cases e:isC a b c;rfl;exact absurd (z8o.1 e) h
  have I:¬((a,b):LId×LId)=(c.a,c.b):=λe=>h ⟨(Prod.mk.inj e).1.symm,(Prod.mk.inj e).2.symm⟩
  have es:x6q (c::l) a b=c::x6q l a b:=by
   unfold x6q
   rw[l59,D];rfl
  rw[es,z6c,ih]
  unfold z6d
  rw[z6c,l28,l61,if_neg (by simpa using I)]
  cases hf:((crM l).map (·.1)).findIdx? (λx=>decide ((a,b)=x)) with
  | none=>rfl
  | some i=>rfl
section
variable {α κ:Type} [DecidableEq κ] {E:Enc α} {T base g:Nat} {w w':World} {v:Value} {ys:List α} {V:κ->Value} {em:List (κ×Value)}
theorem k4o (h:Lw.Own E T base w v ys)(Z:MapL V w g em)(hf:Fr [g] w w'):Lw.Own E T base w' v ys:=h.fr hf λk D O=>by
 rw[l11]at D;subst D
 obtain⟨cs,I⟩:=y0d h _ O
 exact Z.f.ne_blk I U
theorem k3t {k:Nat}{cs:List Value}(h:Blk w k T cs)(I:MapL V w g em)(hf:Fr [g] w w'):Blk w' k T cs:=h.fr hf λD=>by
 rw[l11]at D;subst D
 exact I.f.ne_blk h U
end
theorem FrM.un {τ:TyK}{Mt:Nat}{wS w w':World}{a:MA}(h:FrM τ Mt wS { a with wk:=w } w')(D:FrM τ Mt wS a w):FrM τ Mt wS a w':=⟨h.fr,D.kp.trans h.kp⟩
theorem MkM.gcne {τ:TyK}{Mt:Nat}{wS w:World}{a:MA}{m:MQ}(h:MkM τ Mt wS a w m){k T:Nat}{cs:List Value}(hb:Blk w k T cs):k≠a.gc:=λe=>by
 subst e;exact h.c.f.ne_blk hb U
theorem KpM.own {α:Type}{E:Enc α}{D:List Nat}{g T base:Nat}{w w':World}{v:Value}{ys:List α}(h:KpM D g w w')(ho:Lw.Own E T base w v ys)(hg:∀k∈z0v v,k≠g)(hT:T∉D):Lw.Own E T base w' v ys:=by
 rcases ho with ho|⟨k,cap,cur,rfl,I,O,Z⟩
 exact .inl ho;have hb:Blk w k T cur.toList:=O;exact .inr ⟨k,cap,cur,rfl,I,h.blk hb (hg k t10) hT,Z⟩
theorem MkM.gcneO {τ:TyK}{Mt:Nat}{wS w:World}{a:MA}{m:MQ}{α:Type}{E:Enc α}{T base:Nat}{v:Value}{ys:List α}(h:MkM τ Mt wS a w m)(ho:Lw.Own E T base w v ys):∀k∈z0v v,k≠a.gc:=λk I=>by
 obtain⟨cs,D⟩:=y0d ho k I
 exact h.gcne D
theorem y8s {p:MSt}{d:Int}:∀ {l l':List Yn},l'.length=l.length->(∀j,j<l.length->z7i p d (l.getD j yn0)=.ok (l'.getD j yn0))->z4e p d l=.ok l'
 | [],[],_,_=>rfl
 | [],_::_,h,_=>by simp at h
 | _::_,[],h,_=>by simp at h
 | y::l,y'::l',hl,h=>by
  have D:=h 0 sp0
  simp only[l89]at D
  have I:=y8s (p:=p) (d:=d) (l:=l) (l':=l') (by simpa using hl) λj O=>by
   have:=h (j+1) so
   simpa only[l63] using this
  unfold z4e
  rw[D,I]
theorem y0r {p:MSt}{d e:Int}:∀ {l:List Yn} {i:Nat},i<l.length->(∀j,j<i->∃I,z7i p d (l.getD j yn0)=.ok I)->z7i p d (l.getD i yn0)=.error e->z4e p d l=.error e
 | y::l,0,_,_,h=>by
  simp only[l89]at h
  unfold z4e;rw[h]
 | y::l,i+1,hi,hj,h=>by
  obtain⟨I,D⟩:=hj 0 oo
  simp only[l89]at D
  have O:=y0r (p:=p) (d:=d) (e:=e) (l:=l) (i:=i) (by simpa using hi) (λj hl=>by
   have:=hj (j+1) oo
   simpa only[l63] using this) (by simpa only[l63] using h)
  unfold z4e
  rw[D,O]
theorem y3g {c:Cx}:∀ {r l l':List Cx},z4o l r=.ok l'->z4o l (r++[c])=y4p l' c
 | [],l,l',h=>by
  cases h
  show z4o l [c]=y4p l c
  unfold z4o
  cases y4p l c<;>rfl
 | x::r,l,l',h=>by
  rw[l48]
  unfold z4o at h ⊢
  cases e:y4p l x with
  | error e'=>rw[e]at h;cases h
  | ok l1=>rw[e]at h;simp only at h ⊢;exact y3g h
theorem x5r {e:Int}:∀ {r l:List Cx} (s:List Cx),z4o l r=.error e->z4o l (r++s)=.error e
 | [],l,s,h=>by cases h
 | x::r,l,s,h=>by
  rw[l48]
  unfold z4o at h ⊢
  cases e1:y4p l x with
  | error e'=>rw[e1]at h;exact h
  | ok l1=>rw[e1]at h;simp only at h ⊢;exact x5r s h
theorem j9p {B:Bd}{r d:Int}:∀c∈z2n B r d,-1<=c.n/\c.n<=1:=by
 have I:∀i,∀c∈x6n B r d i,-1<=c.n/\c.n<=1:=λi c D=>by
  obtain⟨k,_,O⟩:=l74.1 D;obtain⟨x,_,Z⟩:=l74.1 O;obtain⟨o,_,rfl⟩:=l55.1 Z;unfold x7b;split<;>(simp only;omega)
 intro c D;unfold z2n at D;split at D;exact I _ c<|l126.1 D;exact I _ c D
theorem k4l {pl:Int}(h:x3r pl):¬Int.tmod pl 2=0/\-9223372036854775808<=pl/\pl<=9223372036854775807:=by
 unfold x3r at h;omega
def y4l (p:MSt)(d:Int):MR:=match z4e p d p.ys with
  | .error e=>.error e
  | .ok ys=>match z4o p.cr (z2n p.B p.rk d) with
    | .error e=>.error e
    | .ok cr=>.ok { p with ys:=ys,cr:=cr }
def j4h (p:MSt)(c:Cx):MR:=match y4p p.cr c with
  | .error e=>.error e
  | .ok l=>.ok { p with cr:=l }
abbrev z5c (c:Cx):LId×LId:=if 0<z6h c.a c.b then (c.b,c.a) else (c.a,c.b)
section
variable {τ:TyK} {Mt:Nat} {wS w w':World} {a:MA} {m:MQ} {l:List Cx}
theorem MkM.cross (h:MkM τ Mt wS a w m)(hc:MapL crK w' a.gc (crM l))(hf:Fr [a.gc] w w'):MkM τ Mt wS a w' { m with cr:=l }:=by
 have o:∀ {α:Type} {E:Enc α} {T b:Nat} {v:Value} {ys:List α},Lw.Own E T b w v ys->Lw.Own E T b w' v ys:=λZ=>k4o Z h.c hf;refine⟨k3t h.k h.c hf,⟨⟨o h.b.f.1,λp I=>o<|h.b.f.2 p I⟩,⟨o h.b.b.1,λp I=>o<|h.b.b.2 p I⟩⟩,⟨o h.y.out,λi hi=>o<|h.y.ins i hi⟩,⟨o h.t.out,λi hi=>o<|h.t.ins i hi,h.t.off,λi hi q O=>⟨o (h.t.lps i hi q O).1,o (h.t.lps i hi q O).2⟩⟩,hc,o h.f,h.fb,h.ft,h.ly,h.lt,h.gk,h.gc,h.fr.step hf (λk D=>.inl<|l11.1 D) λk D a0=>?_⟩;rw[l11]at D;have:=h.gc;omega
end
theorem u8n {a b:LId}{l:List Cx}(h:∀c∈l,-1048576<=c.n/\c.n<=1048576):-1048576<=z6x l a b/\z6x l a b<=1048576:=by
 unfold z6x;cases e:l.find? (isC a b) with
 | none=>simp
 | some c=>exact h c<|List.mem_of_find?_eq_some e
theorem y6l (l:List Cx)(c:Cx):y4p l c=if z6x l (z5c c).1 (z5c c).2+c.n < -1048576\/1048576<z6x l (z5c c).1 (z5c c).2+c.n then .error 3 else if z6x l (z5c c).1 (z5c c).2+c.n=0 then .ok (x6q l (z5c c).1 (z5c c).2) else .ok (y4s l (z5c c).1 (z5c c).2<|z6x l (z5c c).1 (z5c c).2+c.n):=rfl
theorem x6w (p:MSt)(c:Cx):j4h p c=if z6x p.cr (z5c c).1 (z5c c).2+c.n < -1048576\/1048576<z6x p.cr (z5c c).1 (z5c c).2+c.n then .error 3 else if z6x p.cr (z5c c).1 (z5c c).2+c.n=0 then .ok { p with cr:=x6q p.cr (z5c c).1 (z5c c).2 } else .ok { p with cr:=y4s p.cr (z5c c).1 (z5c c).2 (z6x p.cr (z5c c).1 (z5c c).2+c.n) }:=by
 unfold j4h;rw[y6l];generalize z6x p.cr (z5c c).1 (z5c c).2+c.n=n;by_cases h1:n < -1048576\/1048576<n;rw[if_pos h1,if_pos h1];rw[if_neg h1,if_neg h1];by_cases h2:n=0;rw[if_pos h2,if_pos h2];rw[if_neg h2,if_neg h2]
end Go.G08
namespace Go.Proofs.YtkafbfjmcigaiaaGreatDoor
open Go.Lw Go.G21 Go.G08 _root_.Go.Proofs.Tryz
theorem j5h (wS:World)(ka:MA)(m:MQ)(o:MOp)(w0:World)(hM:MkM τd 120 wS ka w0 m)(hi:MInv m.p)(hy:1<=o.y/\o.y<=6)(hn:z4a o.b o.p=0):Rets prog 58 #[pta ka.gk,opV o] w0 λr w'=>MRet τd 120 wS ka (y1q m.p o) r w':=by
 have d0:=hM.fr.size;have b3:=hM.gk;have b5:=hM.k.lt;refine we [(0,pta ka.gk),(1,opV o)] func58 U ntmps58 U (.c2 U U) ?_;have Z:=hM;refine sr<|bx U<|λg3 w1 b9 D q1 z1=>(asg U<|nn<|sr<|mv U U<|z0l U D y3b ?_);have hM:=Z.ext q1;refine cl (ev2 U) (mkC func109) (x8r wS ka m o _ hM hi hy hn) U ?_;rintro _ w2 ⟨rfl,q2⟩;have z2:=q2.size;refine mv U U<|xt U<|xt U<|xt U<|asg U<|asg U<|asg U<|kpL (ll5 0 3 5 6 7) (csu U)<|nn<|sq<|sr<|mv U U<|ne' U<|nn<|cd U (λc0=>?_)<|λc0=>?_;refine sr<|mv U U<|asg U<|kpL (ll1 4) (csu U)<|nn<|rt<|tr<|r1 results58 U ?_;have hM:=Z.ext<|q1.n1 q2;exact⟨_,rfl,MRet.err (by unfold y1q;rw[if_pos c0]) c0 hM.fr⟩;have O:z5q m.p o=0:=l18.1 c0;refine sk<|tn<|sq<|sr<|mv U U<|fad U z4h ?_;have D:=D.ext q2;refine z0i U D U na5<|mv U U<|mv U U ?_;have hM:=Z.ext<|q1.n1 q2;have a5:=hM.fr;refine cl (z0a U<|z0a U<|z0a U<|z0a U z0f) (mkC func110) (x7v wS { ka with wk:=w2 } m o.y (if z5q m.p o=0 then z6p m.p o else 0) (if z5q m.p o=0 then (z2c o.b o.p m.rk) else 0) _ hM.mark hi hy) U ?_;intro _ w3 hR;obtain⟨rfl,a3,m1,b1⟩:=hR.split;have z3:=a3.kp.size;simp only at z3;have D:=a3.kp.blk D (by have:=hM.gcne D;exact this) dd;refine asg U<|kpL (ll3 0 3 8) (csu U)<|nn<|sr<|mv U U<|ne' U<|nn<|cd U (λc1=>?_)<|λc1=>?_;exact sr<|mv U U<|asg U<|nn<|rt<|tr<|r1 results58 U ⟨_,rfl,MRet.err (by have hx:=y0m c1;unfold y1q;rw[if_neg c0];rw[if_pos O,if_pos O]at hx;rw[hx,if_pos O,if_pos O]) c1<|a3.un a5⟩;obtain⟨b0,a4⟩:=b1<|l18.1 c1;rw[if_pos O,if_pos O]at a4;obtain⟨a6,b8,c9⟩:=y1i hi hy a4;obtain⟨⟨hf,hb⟩,h4,a9⟩:=z3o a6.B;have hM:=b0.unmark a5;have Z:=hM;have hk:=hM.k;have b4:=hk.lt;refine sk<|tn<|sq ?_;intro a h;refine z0h (some 9) (λwb w'=>Fr [] wb w') z2s ?_;intro w4 q4;have z4:=q4.size;have D:=D.ext q4;have hM:=hM.ext q4;have hk:=hk.ext q4;have hC:Fr [] w4 w4:=l12 _ _;have I:=D;have a1:=hM;have a2:=hk;refine z0e 0 h U λa h=>z0x 1 h U (λ_ hw=>I.ext hw) y3b U λa h=>z0e 2 h U λa h=>z0p 3 h U λa h=>z0c 4 h U z3r U λa h=>z1h (vs:=[_,_]) 5 h U (λ_ hw=>(a2.ext hw)) z5e U U λa h=>z0c 6 h U z5n U λa h=>z1h (vs:=[_,_]) 7 h U (λ_ hw=>(I.ext hw)) z5o U U λa h=>z0d 8 U<|z0n h (z0a U<|z0a U z0f) u1w (y7f m1.q o.b o.p _ hM.b.at (by have:=z2w hn;omega) hf hb h4 a9) ?_;rintro d1 w5 ⟨a0,hq⟩ a h;have z5:=hq.size;have D:=D.ext hq;have hM:=hM.ext hq;have hk:=hk.ext hq;have hC:=hC.next hq;have q5:=hq;rw[y1d hn]at a0;obtain⟨a7,a8,rfl,b2⟩:=a0.sl.form;refine z0b<|z0d 9 U<|z0n h (z0a U<|z0a U<|z0a U<|z0a U z0f) (mkC func111) (v5y wS ka m1 o (a7,(m1.q.p.at o.b o.p).length,a8) (m1.q.p.at o.b o.p) (.slice none 0 0) [] _ hM a6 hy hn (a0.low oo) (λk hk hb=>by have b6:=(a0.blk k hk).1;have b7:=(a1.f.blk k hb).2;omega) (Sl.nil _)<|.inl U) ?_;rintro d3 w6 hR a h;refine z1l<|z0d 10 U<|z0o h U λa h=>?_;refine z1l<|z0q ?_;clear hC I a1 a2;exact bk (h.sub (L':=ll1 4)<|csu U)<|tn<|rt<|r1 results58 U ⟨_,rfl,by rw[show y1q m.p o=_ from by unfold y1q;rw[if_neg c0,a4]];exact hR⟩
theorem j3r (wS:World)(ka:MA)(m:MQ)(o:MOp)(w0:World)(hM:MkM τd 120 wS ka w0 m)(hi:MInv m.p)(hy:1<=o.y/\o.y<=6)(hn:z4a o.b o.p=0):Rets prog 59 #[pta ka.gk,opV o] w0 λr w'=>MRet τd 120 wS ka (y0t m.p o) r w':=by
 have b9:=hM.fr.size;have b1:=hM.gk;have b3:=hM.k.lt;refine we [(0,pta ka.gk),(1,opV o)] func59 U ntmps59 U (.c2 U U) ?_;have Z:=hM;refine sr<|bx U<|λg3 w1 b7 D q1 z1=>(asg U<|nn<|sr<|mv U U<|z0l U D y3b ?_);have hM:=Z.ext q1;refine cl (ev2 U) (mkC func109) (x8r wS ka m o _ hM hi hy hn) U ?_;rintro _ w2 ⟨rfl,q2⟩;refine mv U U<|xt U<|xt U<|xt U<|asg U<|asg U<|asg U<|kpL (ll5 0 3 5 6 7) (csu U)<|nn<|sq<|sr<|mv U U<|ne' U<|nn<|cd U (λc0=>?_)<|λc0=>?_;refine sr<|mv U U<|asg U<|kpL (ll1 4) (csu U)<|nn<|rt<|tr<|r1 results59 U ?_;have hM:=Z.ext<|q1.n1 q2;exact⟨_,rfl,MRet.err (by unfold y0t;rw[if_pos c0]) c0 hM.fr⟩;have I:z5q m.p o=0:=l18.1 c0;refine sk<|tn<|sq<|sr<|mv U U<|fad U z4h ?_;have D:=D.ext q2;refine z0i U D U na5<|mv U U<|mv U U ?_;have hM:=Z.ext<|q1.n1 q2;have a5:=hM.fr;refine cl (z0a U<|z0a U<|z0a U<|z0a U z0f) (mkC func110) (x7v wS { ka with wk:=w2 } m o.y (if z5q m.p o=0 then z6p m.p o else 0) (if z5q m.p o=0 then (z2c o.b o.p m.rk) else 0) _ hM.mark hi hy) U ?_;intro _ w3 hR;obtain⟨rfl,a2,m1,a9⟩:=hR.split;have z3:=a2.kp.size;simp only at z3;have D:=a2.kp.blk D (by have:=hM.gcne D;exact this) dd;refine asg U<|kpL (ll3 0 3 8) (csu U)<|nn<|sr<|mv U U<|ne' U<|nn<|cd U (λc1=>?_)<|λc1=>?_;exact sr<|mv U U<|asg U<|nn<|rt<|tr<|r1 results59 U ⟨_,rfl,MRet.err (by have hx:=y0m c1;unfold y0t;rw[if_neg c0];rw[if_pos I,if_pos I]at hx;rw[hx,if_pos I,if_pos I]) c1<|a2.un a5⟩;obtain⟨a8,a0⟩:=a9<|l18.1 c1;rw[if_pos I,if_pos I]at a0;obtain⟨a6,b6,b8⟩:=y1i hi hy a0;obtain⟨⟨hf,hb⟩,h4,a7⟩:=z3o a6.B;have hM:=a8.unmark a5;have Z:=hM;have hk:=hM.k;have b2:=hk.lt;refine sk<|tn<|sq ?_;intro a h;refine z0h none (λwb w'=>Fr [] wb w') z2s ?_;intro w4 q4;have D:=D.ext q4;have hM:=hM.ext q4;have hk:=hk.ext q4;have hC:Fr [] w4 w4:=l12 _ _;have O:=D;have a4:=hM;have a1:=hk;refine z0e 0 h U λa h=>z0p 1 h U λa h=>z0c 2 h U z3r U λa h=>z1h (vs:=[_,_]) 3 h U (λ_ hw=>(a1.ext hw)) z5e U U λa h=>z0c 4 h U z5n U λa h=>z1h (vs:=[_,_]) 5 h U (λ_ hw=>(O.ext hw)) z5o U U λa h=>z0d 6 U<|z0n h (z0a U<|z0a U z0f) u1w (y7f m1.q o.b o.p _ hM.b.at (by have:=z2w hn;omega) hf hb h4 a7) ?_;rintro c9 w5 ⟨a3,hq⟩ a h;have D:=D.ext hq;have hM:=hM.ext hq;have hk:=hk.ext hq;have hC:=hC.next hq;have q5:=hq;rw[y1d hn]at a3;obtain⟨b4,b5,rfl,b0⟩:=a3.sl.form;refine z0b<|z0d 7 U<|z0o h U λa h=>?_;refine z0b<|z0q ?_;clear hC O a4 a1;refine bk (h.sub (L':=ll3 0 3 9)<|csu U)<|tn<|sq<|sr<|mv U U<|lnS U underlying32<|ge' U<|nn<|cd U (λc2=>?_)<|λc2=>?_;exact sr<|asg U<|nn<|rt<|tr<|r1 results59 U ⟨_,rfl,MRet.err (by unfold y0t;rw[if_neg c0,a0];simp only;rw[if_pos (show 4<=(m1.q.p.at o.b o.p).length by omega)]) dd hM.fr⟩;refine sk<|tn<|sr<|mv U U<|z0l U D y3b<|mv U U<|cl (z0a U<|z0a U<|z0a U<|z0a U z0f) (mkC func111) (v5y wS ka m1 o sv0 [] _ (m1.q.p.at o.b o.p) _ hM a6 hy hn (Own.nil _) (λk hk=>by cases hk) a3.sl<|.inr ⟨rfl,oo⟩) U ?_;rintro d0 w6 hR;exact asg U<|kpL (ll1 4) (csu U)<|nn<|rt<|r1 results59 U ⟨_,rfl,by rw[show y0t m.p o=y1y m1.p o [] (m1.q.p.at o.b o.p) from by unfold y0t;rw[if_neg c0,a0];simp only;rw[if_neg (show ¬4<=(m1.q.p.at o.b o.p).length by omega)]];exact hR⟩
theorem j5j:z3z prog 123 4:=⟨λ_=>kr,λ_=>kr⟩
theorem j2q:BuildAt prog 123 [(0,2),(2,2)] [(.int .u8 0),(.int .i64 0),(.int .u8 0),(.int .i64 0)]:=BuildAt.array (sz:=2) underlying123 (λ_=>kr) (λ_=>kr) (λi q h=>by match i,h with|0,h=>simpa using h.symm|1,h=>simpa using h.symm|(k+2),h=>simp at h)
theorem k4g:CallOf prog 66:=mkC func66
theorem y3x:z1d prog 120 4 5:=λ_ _=>kr
theorem x2l:z1d prog 149 0 0:=λ_ _=>kr
theorem x6u:z1d prog 149 1 2:=λ_ _=>kr
theorem x7i:z1d prog 149 2 4:=λ_ _=>kr
theorem v3g:z2a prog 118:=λ_=>kr
theorem j5k:z1r prog 123 4:=λ_=>kr
theorem k2h (w:World):(zeroValue 123).run prog w=.ok (.agg #[(.int .u8 0),(.int .i64 0),(.int .u8 0),(.int .i64 0)]) w:=kr
theorem k6y (p q:LId×LId)(w:World):(Op.equal 123 (crK p)<|crK q).run prog w=.ok (decide (p=q)) w:=by
 obtain⟨⟨O,n1⟩,⟨Z,n2⟩⟩:=p;obtain⟨⟨y3,n3⟩,⟨y4,n4⟩⟩:=q;have D:prog.stoodInHeld 54=false:=by kernel_rfl
 have hs:(sizeOf 54).run prog w=.ok 2 w:=by kernel_rfl
 unfold crK Op.equal Op.maxDepth Op.equalIn;simp only[Sem.run_bind,run_underlying underlying123,Result.andThen_ok,hs];have I:∀a b c d:Value,(part 54 #[a,b,c,d] (0*2)).run prog w=.ok (.agg #[a,b]) w:=λa b c d=>by kernel_rfl
 have p2:∀a b c d:Value,(part 54 #[a,b,c,d] (1*2)).run prog w=.ok (.agg #[c,d]) w:=λa b c d=>by kernel_rfl
 rw[Std.Legacy.Range.forIn_eq_forIn_range'];simp[List.range',List.forIn_cons,I,p2,go_sem,D,underlying54];(repeat' split)<;>simp_all
theorem x9p:KeyLaw prog 123 crK:=KeyLaw.asking underlying123 (λ_ _=>rfl) (λ_ _ _=>kr) k6y (λ_=>by simp[crK,Instr.sameBits])
theorem zvI2 (w:World):(zeroValue 3).run prog w=.ok (.int .i64 0) w:=kr
theorem j8c (wS:World)(ka:MA)(m:MQ)(c:Cx)(w0:World)(hM:MkM τd 120 wS ka w0 m)(a7:∀x∈m.cr,-1048576<=x.n/\x.n<=1048576)(a8:-1<=c.n/\c.n<=1):Rets prog 144 #[pta ka.gk,cvv c] w0 λr w'=>MRet τd 120 wS ka (j4h m.p c) r w':=by
 have b3:=hM.fr.size;have hk:=hM.k;have b2:=hk.lt;have b1:=u8n (a:=(z5c c).1) (b:=(z5c c).2) a7;refine we [(0,pta ka.gk),(1,cvv c)] func144 U ntmps144 U (.c2 U U) ?_;have a6:=hM;refine sr<|bx U<|λg3 w1 a9 O q1 z1=>?_;refine asg U<|nn<|sr<|fad U x2l<|z1w (vs:=[_,_]) U O z3b U<|fad U x6u<|z1w (vs:=[_,_]) U O z3b U<|z1t (cs:=[_,_,_,_]) (ev2 U) j2q (z0g U<|z0g U z0r) U ?_;refine al k2h U<|λg5 w2 b0 D q2 z2=>(z0j (vs:=[_,_,_,_]) U D j5k<|λw3 D q3 z3=>(nn<|jn (ι:=Unit) (ll3 0 3 5) (λ_j=>[]) (λ_j w'=>Fr [g5] w3 w'/\Blk w' g5 123 [.int .u8 (z5c c).1.y,.int .i64 (z5c c).1.n,.int .u8 (z5c c).2.y,.int .i64 (z5c c).2.n]) (csu U) ?_ ?_));refine sr<|fad U x2l ?_;have O:=(O.ext q2).fr q3;refine z1w (vs:=[_,_]) U O z3b U<|fad U x6u<|z1w (vs:=[_,_]) U O z3b U<|cl (ev2 U) k4g (y2g ⟨_,_⟩ ⟨_,_⟩ _) U ?_;rintro _ w4 ⟨rfl,q4⟩;refine gt' U<|nn<|cd U (λc0=>?_)<|λc0=>?_;refine rg<|fad U x6u ?_;have O:=O.ext q4;refine z1w (vs:=[_,_]) U O z3b U<|fad U x2l<|z1w (vs:=[_,_]) U O z3b U<|z1t (cs:=[_,_,_,_]) (ev2 U) j2q (z0g U<|z0g U z0r) U ?_;have D:=D.ext q4;exact z0j (vs:=[_,_,_,_]) U D j5k<|λw5 D q5 z5=>(kpL (ll3 0 3 5) (csu U)<|nl<|jE (()) (csu U) ⟨((l12 [g5] _).z2 q4 q5),(by rw[show z5c c=(c.b,c.a) from if_pos c0];exact D)⟩);refine sk ?_;have D:=D.ext q4;exact jE (()) (csu U) ⟨((l12 [g5] _).n1 q4),(by rw[show z5c c=(c.a,c.b) from if_neg c0];exact D)⟩;rintro _j w6 ⟨q6,D⟩;have a5:=D.lt;refine kpC (ll3 0 3 5) (csu U)<|sq ?_;have hM:=a6.ext<|q1.z3 q2 q3 q6;have hk:=((hk.ext<|q1.n1 q2).fr q3).fr q6;have O:=((O.ext q2).fr q3).fr q6;intro a h;refine z0h none (λwb w'=>Fr [] wb w') z2s ?_;intro w7 q7;have hM:=hM.ext q7;have hk:=hk.ext q7;have O:=O.ext q7;have D:=D.ext q7;have hC:Fr [] w7 w7:=l12 _ _;have a0:=hM;have Z:=hk;have a1:=O;have I:=D;refine z0e 0 h U λa h=>z0p 1 h U λa h=>z0c 2 h U y3x U λa h=>z0m 3 h U (λ_ hw=>Z.ext hw) U v3g U λa h=>z0x 4 h U (λ_ hw=>I.ext hw) j5j U λa h=>z0c 6 h U x7i U λa h=>z0m 7 h U (λ_ hw=>a1.ext hw) U na3 U λa h=>z0d 5 U<|y2s (V:=crK) (k:=z5c c) (f:=z2u<|crM m.cr) h U U hM.c.f x9p underlying118 zvI2 (v7e (z5c c).1 (z5c c).2 m.cr) U λa h=>?_;refine z0b<|z6j 8 h U t13 U λa h=>z0d 9 U<|z0o h U λa h=>?_;refine z0b<|z0q ?_;clear hC a0 Z a1 I;refine bk (h.sub (L':=ll3 0 5 6)<|csu U)<|tn<|sq<|sq<|rbo (r:=37) (L':=ll3 0 5 6) (((((z6x m.cr (z5c c).1 (z5c c).2)+c.n) < -1048576)\/(1048576<((z6x m.cr (z5c c).1 (z5c c).2)+c.n)))) (csu U) ?_ ?_;refine mv U U<|lt' U<|mv U U<|gs 34 U (λg0=>?_)<|λg0=>?_;exact gN U<|gN U<|pkt U<|rbe U<|csu U;exact gY U<|mv U U<|gY U<|gt' U<|pkf U<|rbe U<|csu U;refine tn<|cd U (λc1=>?_)<|λc1=>?_;exact sr<|asg U<|nn<|rt<|tr<|r1 results144 U ⟨_,rfl,MRet.err (by rw[x6w,if_pos c1]) dd hM.fr⟩;refine sk<|tn<|sq<|sr<|mv U U<|eq' U<|nn<|cd U (λc2=>?_)<|λc2=>?_;intro a h;refine z0h (some 5) (λwb w'=>Fr [] wb w') z2s ?_;intro w8 q8;have hM:=hM.ext q8;have hk:=hk.ext q8;have D:=D.ext q8;have hC:Fr [] w8 w8:=l12 _ _;have a0:=hM;have Z:=hk;have I:=D;refine z0e 0 h U λa h=>z0p 1 h U λa h=>z0c 2 h U y3x U λa h=>z0m 3 h U (λ_ hw=>Z.ext hw) U v3g U λa h=>z0x 4 h U (λ_ hw=>I.ext hw) j5j U λa h=>z0d 5 U<|j4c (V:=crK) (k:=z5c c) h U U hM.c x9p underlying118 U λw9 a2 hq _hz a h=>?_;have hM:=hM.cross (l:=x6q m.cr (z5c c).1 (z5c c).2) (by rw[u2n _ _ _ hM.c.nodup];exact a2) hq;refine z1l<|z0q ?_;clear hC a0 Z I;exact bk (h.sub (L':=[]) .nil)<|tn<|sr<|asg U<|nn<|rt<|r1 results144 U ⟨_,rfl,MRet.ok (by rw[x6w,if_neg c1,if_pos c2]) hM⟩;intro a h;refine z0h (some 6) (λwb w'=>Fr [] wb w') z2s ?_;intro a4 a3;have hM:=hM.ext a3;have hk:=hk.ext a3;have D:=D.ext a3;have hC:Fr [] a4 a4:=l12 _ _;have a0:=hM;have Z:=hk;have I:=D;refine z0e 0 h U λa h=>z0p 1 h U λa h=>z0c 2 h U y3x U λa h=>z0m 3 h U (λ_ hw=>Z.ext hw) U v3g U λa h=>z0x 4 h U (λ_ hw=>I.ext hw) j5j U λa h=>z0e 5 h U λa h=>z0d 6 U<|y8n (V:=crK) (k:=z5c c) (v:=.int .i64<|(z6x m.cr (z5c c).1 (z5c c).2)+c.n) h U U U hM.c x9p underlying118 λb4 a2 hq _hz a h=>?_;have hM:=hM.cross (l:=y4s m.cr (z5c c).1 (z5c c).2<|z6x m.cr (z5c c).1 (z5c c).2+c.n) (by rw[u0k _ _ _ _ hM.c.nodup];exact a2) hq;refine z1l<|z0q ?_;clear hC a0 Z I;exact bk (h.sub (L':=[]) .nil)<|tn<|sr<|asg U<|nn<|rt<|r1 results144 U ⟨_,rfl,MRet.ok (by rw[x6w,if_neg c1,if_neg c2]) hM⟩
end Go.Proofs.YtkafbfjmcigaiaaGreatDoor
