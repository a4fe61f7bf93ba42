/- Texts of the proof, joined. -/
import Derived.Test.YtlfdhllfmoplgaaGreatDoorRows
import Derived.Maps.RangeRun
import Derived.Test.YtlfdhllfmoplgaaGreatDoorQE3
set_option linter.unusedVariables false
set_option linter.unusedSimpArgs false
set_option maxHeartbeats 4000000
namespace Go.G08
open Go.Lw Go.G21
def btL (fr to:Int):Int:=if fr<to then fr else to
def btH (fr to:Int):Int:=if fr<to then to else fr
def btD (fr to:Int):Int:=if fr<to then 1 else 0
def btA (l:List Hd)(fr to:Int)(k:Nat):List Pa:=((l.take k).filter λh=>decide (btL fr to<h.s/\h.s<btH fr to)).map λh=>⟨h.id,decide (h.b=1),btD fr to⟩
theorem j3m {l:List Hd}{fr D:Int}{k:Nat}(I:k<l.length)(h:btL fr D<(l.getD k hd0).s/\(l.getD k hd0).s<btH fr D):btA l fr D (k+1)=btA l fr D k++[⟨(l.getD k hd0).id,decide ((l.getD k hd0).b=1),btD fr D⟩]:=by
 unfold btA;rw[z4s hd0 I,List.filter_append,List.map_append,List.filter_cons,if_pos (decide_eq_true h)];rfl
theorem j4a {l:List Hd}{fr D:Int}{k:Nat}(I:k<l.length)(h:¬(btL fr D<(l.getD k hd0).s/\(l.getD k hd0).s<btH fr D)):btA l fr D (k+1)=btA l fr D k:=by
 unfold btA;rw[z4s hd0 I,List.filter_append,List.filter_cons,if_neg (by simpa using h)];simp
theorem x2l (l:List Hd)(fr D:Int)(k:Nat):(btA l fr D k).length<=l.length:=by
 unfold btA;rw[List.length_map];refine Nat.le_trans (List.length_filter_le _ _) ?_;rw[List.length_take];omega
theorem j0g {l:List Hd}{fr D:Int}(h:¬btD fr D=0):btw l fr D=btA l fr D l.length:=by
 unfold btD at h;by_cases c:fr<D;unfold btw btA btL btH btD;rw[List.take_length];simp only[if_pos c];rw[if_neg c]at h;exact absurd U h
theorem u8x {l:List Hd}{fr D:Int}(h:btD fr D=0):btw l fr D=(btA l fr D l.length).reverse:=by
 unfold btD at h;by_cases c:fr<D;rw[if_pos c]at h;exact absurd h dd;unfold btw btA btL btH btD;rw[List.take_length];simp only[if_neg c]
theorem x9w (l:List Hd)(fr D:Int):(btw l fr D).length<=l.length:=by
 by_cases h:btD fr D=0;rw[u8x h,List.length_reverse];exact x2l l fr D _;rw[j0g h];exact x2l l fr D _
end Go.G08
namespace Go.Proofs.YtlfdhllfmoplgaaGreatDoor
open Go.Lw Go.G21 Go.G08 _root_.Go.Proofs.Tryz
theorem u9b:BuildAt prog 107 [(0,2),(2,1),(3,1)] [(.int .u8 0),(.int .i64 0),(.bool false),(.int .u8 0)]:=BuildAt.struct underlying107 (λ_=>kr) (λ_=>kr)
theorem x2k:z1c prog 131 0 0:=λ_ _=>kr
theorem u4a:z1c prog 131 1 2:=λ_ _=>kr
theorem u1l (v:Value)(l:List Hd)(fr D:Int)(w0:World)(hs:Sl z3t w0 v l)(hl:l.length<=1000):Rets prog 166 #[v,.int .i64 fr,.int .i64 D] w0 λr w'=>(∃g,r=.slice (some ⟨g,0,none⟩) (btw l fr D).length (btw l fr D).length/\w0.heap.size<=g/\Lw.Own z2d 107 w0.heap.size w' r (btw l fr D))/\Fr [] w0 w':=by
 obtain⟨A,c,rfl,b5,hM,hA⟩:=id hs;clear hA;unfold maxLen at hM;refine we [(0,.slice A l.length c),(1,.int .i64 fr),(2,.int .i64 D)] func166 U ntmps166 U (.c3 U U U) ?_;have a6:=hs;refine sr (asg U (nn (sr (mv U (mv U (asg U (asg U (asg U (nn (jn (ι:=Unit) [(0,_)] (λ_j=>[(7,.int .i64 (btL fr D)),(8,.int .i64 (btH fr D)),(9,.int .u8 (btD fr D))]) (λ_j w'=>Fr [] w0 w') (.cons U .nil) ?_ ?_))))))))));refine sr (mv U (mv U (gt' U (nn (cd U (λO=>?_) (λO=>?_))))));exact rg (mv U (mv U (asg U (asg U (asg U (nl (jE (()) (.c4 U (by first|(rw[show btL fr D=_ from if_pos O];rfl)|(rw[show btL fr D=_ from if_neg O];rfl)) (by first|(rw[show btH fr D=_ from if_pos O];rfl)|(rw[show btH fr D=_ from if_neg O];rfl)) (by first|(rw[show btD fr D=_ from if_pos O];rfl)|(rw[show btD fr D=_ from if_neg O];rfl))) (Fr.refl _ _))))))));exact sk (jE (()) (.c4 U (by first|(rw[show btL fr D=_ from if_pos O];rfl)|(rw[show btL fr D=_ from if_neg O];rfl)) (by first|(rw[show btH fr D=_ from if_pos O];rfl)|(rw[show btH fr D=_ from if_neg O];rfl)) (by first|(rw[show btD fr D=_ from if_pos O];rfl)|(rw[show btD fr D=_ from if_neg O];rfl))) (Fr.refl _ _));rintro _j w1 q1;have z1:=q1.size;refine kpC [(0,_),(7,_),(8,_),(9,_)] (.c4 U U U U) (sr (asg U (nn (sq (sr (mv U (lnS U underlying127 (mv U (nn (bl (lpK (ι:=Nat×Value) [(7,_),(8,_),(9,_),(20,_),(21,_)] (λp=>[(22,.int .i64 (p.1:Int)),(10,p.2)]) (λp w'=>Fr [] w0 w'/\p.1<=l.length/\Lw.Own z2d 107 w0.heap.size w' p.2 (btA l fr D p.1)) (λp=>l.length-p.1) (0,_) (.c7 U U U U U U U) ⟨q1,⟨Nat.zero_le _,Own.nil _⟩⟩ ?_)))))))))));rintro⟨k,vP⟩ w2 ⟨q2,⟨hk,M⟩⟩;simp only at hk M;have z2:=q2.size;refine kpC [(7,_),(8,_),(9,_),(20,_),(21,_),(22,.int .i64 (k:Int)),(10,vP)] (.c7 U U U U U U U) ?_;have b3:=x2l l fr D k;refine sr (lt' U (nn (sq (cd U (λc1=>?_) (λc1=>?_)))));refine sk (tn (sq (bl (sr ?_))));replace hs:=a6.ext q2;refine z1d (hd0) U hs U z3i z1j (λa7 a0=>?_);refine z1q U (a0 _ hs) z5d (al x8p U (λb1 w3 a8 I q3 z3=>?_));refine z0j (vs:=[_,_,_,_,_]) U I z7x (λw4 I q4 z4=>?_) (h1:=(by first|(simp[Value.oneCell',S];done)|exact z3t.one _));refine nn (sq (rbo (r:=35) (L':=[(7,_),(8,_),(9,_),(10,_),(12,_),(20,_),(21,_),(22,_)]) ((((btL fr D)<(l.getD k hd0).s)/\((l.getD k hd0).s<(btH fr D)))) (.c8 U U U U U U U U) ?_ ?_));refine fad U y8u (z0i U I U na3 (mv U (gt' U (mv U (gs 30 U (λg0=>?_) (λg0=>?_))))));exact gY U (fad U y8u (gY U (z0i U I U na3 (gY U (mv U (gY U (lt' U (pkt U (rbe U (.c8 U U U U U U U U))))))))));exact gN U (gN U (gN U (gN U (pkf U (rbe U (.c8 U U U U U U U U))))));refine tn (cd U (λc2=>?_) (λc2=>?_));refine rg (mv U (fad U x2k (z1v (vs:=[_,_]) U I z2q U (fad U u4a (x1e U z5w U (z0i U I U x2g (eq' U (mv U (z1s (cs:=[_,_,_,_]) (ev3 U) u9b (z0f U (z0f U (z0f U z0q))) U ?_)))))))));refine z1g ([(⟨(l.getD k hd0).id,decide ((l.getD k hd0).b=1),btD fr D⟩:Pa)]) (ev1 U) U z4h (λb2 w5 a9 a1 q5 z5=>?_);replace M:=((M.ext q3).fr q4 (by first|exact z8h M oo|simp[z0v]<;>omega)).ext q5;have Z:=M;refine z1z U M a1.sl z4h (λb6 w6 M q6 a5=>?_);have z6:=q6.size;exact asg U (kpL [(7,_),(8,_),(9,_),(10,_),(20,_),(21,_),(22,_)] (.c7 U U U U U U U) (nl (bn' (tn (rg (z0x U (wi6 oo) (mv U (nl (lpE ((k+1,_)) (.c7 U U U U U U U) ⟨((q2.z3 q3 q4 q5).step q6 (λk hk a3=>absurd (Z.blk k hk).1 oo)),⟨sm,by rw[j3m oo c2];exact M⟩⟩ sm)))))))));refine sk (bn' (tn (rg (z0x U (wi6 oo) (mv U (nl ?_))))));replace M:=(M.ext q3).fr q4 (by first|exact z8h M oo|simp[z0v]<;>omega);exact lpE ((k+1,_)) (.c7 U U U U U U U) ⟨(q2.z2 q3 q4),⟨sm,by rw[j4a oo c2];exact M⟩⟩ sm;obtain rfl:k=l.length:=by omega
 have b4:=x9w l fr D;refine ex (te (te (xh (tn (jn (ι:=Unit) [(10,_)] (λ_j=>[]) (λ_j w'=>Fr [] w0 w'/\Lw.Own z2d 107 w0.heap.size w' vP (btw l fr D)) (.cons U .nil) ?_ ?_)))));refine sr (mv U (eq' U (kpL [(10,_),(49,_)] (.c2 U U) (nn (cd U (λc3=>?_) (λc3=>?_))))));refine rg (mv U ?_);have a4:=M;refine cl (ev1 U) (mkC func207) (y9p w0.heap.size _ _ _ M oo) U ?_;rintro _ w7 ⟨M,q7⟩;have z7:=q7.size;exact nl (jE (()) (.cons U .nil) ⟨(q2.step q7 (λk hk a3=>absurd (a4.blk k hk).1 oo)),(by rw[u8x c3];exact M)⟩);exact sk (jE (()) (.cons U .nil) ⟨q2,(by rw[j0g c3];exact M)⟩);rintro _j w8 ⟨q8,M⟩;have z8:=q8.size;refine kpC [(10,_)] (.cons U .nil) (sr (mv U (cl (ev1 U) (mkC func208) (y3z _ (btw l fr D) _ M.sl oo) U ?_)));rintro _ w9 ⟨a2,rfl,b0,hX,q9⟩;have z9:=q9.size;exact asg U (nn (rt (r1 results166 U ⟨_,rfl,⟨a2,rfl,oo,hX.low oo⟩,(q8.n1 q9)⟩)))
end Go.Proofs.YtlfdhllfmoplgaaGreatDoor
namespace Go.G08
open Go.Lw Go.G21
theorem Own.neO {α β:Type}{E:Enc α}{M:Enc β}{T T' b O:Nat}{w:World}{v I:Value}{ys:List α}{zs:List β}(h:Lw.Own E T b w v ys)(Z:Lw.Own M T' O w I zs)(hT:T≠T'):∀k∈z0v v,k∉z0v I:=by
 intro k D;rcases h with ⟨rfl,rfl⟩|⟨g,cap,cur,rfl,_,hg,_⟩
 cases D;obtain rfl:k=g:=by simpa[z0v] using D
 exact Z.neB hg (Ne.symm hT)
theorem v0f (B:Bd)(r d:Int)(i:Nat):x6y B r d (i+1)=x6y B r d i++u0j B r d i:=by unfold x6y;rw[List.range_succ,List.flatMap_append];simp
theorem y6v (B:Bd)(r d p:Int)(i:Nat):y5m B r d p (i+1)=y5m B r d p i++x0d B r d p i:=by unfold y5m;rw[List.range_succ,List.flatMap_append];simp
theorem v0p {α β:Type}(f:α->List β){l:List α}{j:Nat}(d:α)(h:j<l.length):(l.take (j+1)).flatMap f=(l.take j).flatMap f++f (l.getD j d):=by
 rw[z4s d h,List.flatMap_append];simp
theorem x8t {B:Bd}(h:BdOk B)(k:Nat):(B.b.getD k []).length<=4:=by
 have:=y3s h 1 ((k:Int)+1);unfold Bd.at atB at this;rwa [if_neg dd,show ((k:Int)+1-1).toNat=k by omega]at this
theorem x3y {B:Bd}(h:BdOk B)(b n:Int):(B.atC b n).length<=4:=by
 unfold Bd.atC;split;exact y3s h b n;simp
theorem flat_len {α β:Type}(f:α->List β)(m:Nat)(hf:∀x,(f x).length<=m):∀l:List α,(l.flatMap f).length<=m*l.length
 | []=>by simp
 | x::l=>by have:=flat_len f m hf l;have:=hf x;rw[List.flatMap_cons,List.length_append,List.length_cons];rw[Nat.mul_succ];omega
theorem v5x {B:Bd}(h:BdOk B)(r d:Int)(k:Nat):(u0j B r d k).length<=16:=by
 unfold u0j;have D:=flat_len (λx=>(B.atC 0 (y0i r d k)).reverse.map (x6l d x)) 4 (λx=>by rw[List.length_map,List.length_reverse];exact x3y h _ _) (B.b.getD k []);have:=x8t h k;omega
theorem x6e {B:Bd}(h:BdOk B)(r d:Int)(i:Nat):(x6y B r d i).length<=16*i:=by
 have:=flat_len (u0j B r d) 16 (v5x h r d) (List.range i);rw[List.length_range]at this;exact this
theorem v0q {B:Bd}(h:BdOk B)(r d p:Int)(k:Nat):(x0d B r d p k).length<=4:=by
 unfold x0d;split;simp;rw[List.length_map];exact x8t h k
theorem x1k {B:Bd}(h:BdOk B)(r d p:Int)(i:Nat):(y5m B r d p i).length<=4*i:=by
 have:=flat_len (x0d B r d p) 4 (v0q h r d p) (List.range i);rw[List.length_range]at this;exact this
theorem x0g {B:Bd}(h:BdOk B)(r d p:Int):(z6p B r d p).length<=4*B.b.length:=by
 have:=x1k h r d p B.b.length;unfold z6p;split;rw[List.length_reverse];exact this;exact this
theorem y3t {B:Bd}(h:BdOk B)(r d:Int):(z3d B r d).length<=16*B.b.length:=by
 have:=x6e h r d B.b.length;unfold z3d;split;rw[List.length_reverse];exact this;exact this
end Go.G08
namespace Go.Proofs.YtlfdhllfmoplgaaGreatDoor
open Go.Lw Go.G21 Go.G08 _root_.Go.Proofs.Tryz
theorem v7b (q:BdQ)(r d I:Int)(w0:World)(Z:BdAt w0 q)(hv:BdOk q.p)(hT:StT w0)(hr:-4<=r/\r<=4)(hd:d=0\/d=1)(d7:-4<=r+stI d/\r+stI d<=4)(hp:¬Int.tmod I 2=0)(d5:-9223372036854775808<=I/\I<=9223372036854775807):Rets prog 163 #[.agg #[.slice q.f.1 q.f.2.1 q.f.2.2,.slice q.b.1 q.b.2.1 q.b.2.2],.int .i64 r,.int .u8 d,.int .i64 I] w0 λv w'=>(∃g,v=.tuple #[.slice (some ⟨g,0,none⟩) (z6p q.p r d I).length (z6p q.p r d I).length,.int .i64 0]/\w0.heap.size<=g/\Lw.Own z2d 107 w0.heap.size w' (.slice (some ⟨g,0,none⟩) (z6p q.p r d I).length (z6p q.p r d I).length) (z6p q.p r d I))/\Fr [] w0 w':=by
 obtain⟨⟨hf,hb⟩,h4,b1⟩:=z3o hv;have b3:=x0g hv r d I;rw[List.length_map]at b3;refine we [(0,.agg #[.slice q.f.1 q.f.2.1 q.f.2.2,.slice q.b.1 q.b.2.1 q.b.2.2]),(1,.int .i64 r),(2,.int .u8 d),(3,.int .i64 I)] func163 U ntmps163 U (.c4 U U U U) ?_;have M:=Z;have a2:=hT;refine sr (bx U (λg4 w1 d4 a0 q1 z1=>(asg U (asg U (nn (sq (sr (z0m U a0 z4x (mv U (mv U ?_))))))))));replace Z:=M.ext q1;replace hT:=a2.ext q1;refine cl (ev3 U) (mkC func85) (x1v q _ _ _ Z hv hT oo hd oo) U ?_;rintro _ w2 ⟨rfl,q2⟩;have z2:=q2.size;refine asg U (nn (sr (mv U (ne' U (nn (cd U (λc0=>?_) (λc0=>?_)))))));exact absurd U c0;refine sk (tn (sq (sr (mv U (y3c U (by first|exact IntWalk.rem_in _ _ oo|rfl) (eq' U (nn (cd U (λc1=>?_) (λc1=>?_)))))))));exact absurd c1 hp;refine sk (tn (sr (asg U (nn (jn (ι:=Unit) [(1,_),(2,_),(3,_),(4,_)] (λ_j=>[(11,.int .u8 (1-d))]) (λ_j w'=>Fr [] w2 w') (.c4 U U U U) ?_ ?_)))));refine sr (mv U (eq' U (nn (cd U (λc2=>?_) (λc2=>?_)))));refine rg (asg U (nl ?_));exact jE (()) (.c5 U U U U (congrArg (λz=>some (Value.int .u8 z)) oo)) (Fr.refl _ _);refine sk ?_;exact jE (()) (.c5 U U U U (congrArg (λz=>some (Value.int .u8 z)) oo)) (Fr.refl _ _);rintro _j w3 q3;have z3:=q3.size;refine kpC [(1,_),(2,_),(3,_),(4,_),(11,_)] (.c5 U U U U U) (sr (asg U (nn (sq (sr (fad U y2q ?_))))));replace a0:=a0.ext (q2.n1 q3);refine z0i U a0 U x6v (lnS U underlying23 (mv U (nn (bl (lpK (ι:=Nat×Value) [(1,_),(2,_),(3,_),(11,_),(31,_),(32,_)] (λp=>[(33,.int .i64 (p.1:Int)),(12,p.2)]) (λp w'=>Fr [] w0 w'/\p.1<=q.bs.length/\Lw.Own z2d 107 w0.heap.size w' p.2 (y5m q.p r d I p.1)) (λp=>q.bs.length-p.1) (0,_) (.c8 U U U U U U U U) ⟨(q1.n2 q2 q3),⟨Nat.zero_le _,Own.nil _⟩⟩ ?_)))));rintro⟨i,uI⟩ w4 ⟨q4,⟨hi,D⟩⟩;simp only at hi D;have z4:=q4.size;refine kpC [(1,_),(2,_),(3,_),(11,_),(31,_),(32,_),(33,.int .i64 (i:Int)),(12,uI)] (.c8 U U U U U U U U) ?_;have d6:=z2e M.b;have d3:=x1k hv r d I i;have d9:=z3n b1 i;have e0:=z2e (z2b M.bi i);have e1:-300<=z4v 1 ((i:Int)+1) r/\z4v 1 ((i:Int)+1) r<=300:=by
  unfold z4v;split;omega;split<;>omega
 have e2:stI d = -1\/stI d=1:=by unfold stI;split<;>simp
 refine sr (lt' U (nn (sq (cd U (λc3=>?_) (λc3=>?_)))));refine sk (tn (sq (bl (sr (mv U ?_)))));replace Z:=M.ext q4;refine z1d (iq0) U Z.b U y4x z1j (λb6 a3=>?_);refine z1k U (a3 _ Z.b) z6h (asg U (asg U (nn (sr (mv U (z0x U (wi6 oo) (z1s (cs:=[_,_]) (ev2 U) y4d (z0f U (z0f U z0q)) U ?_)))))));refine mv U (cl (ev2 U) x7j (y2c _ _ _ _ oo) U ?_);rintro _ w5 ⟨rfl,q5⟩;have z5:=q5.size;refine asg U (kpL [(1,_),(2,_),(3,_),(11,_),(12,_),(14,_),(15,_),(31,_),(32,_),(33,_)] (.d8 U U U U U U U U (.c2 U U)) (nn (sq (sq (rbo (r:=59) (L':=[(1,_),(2,_),(3,_),(11,_),(12,_),(14,_),(31,_),(32,_),(33,_)]) (((I≠((z4v 1 ((i:Int)+1) r)+(stI d)))/\(I≠((z4v 1 ((i:Int)+1) r)+(3*(stI d)))))) (.d8 U U U U U U U U (.cons U .nil)) ?_ ?_)))));refine mv U (mv U (mv U (y2s U U underlying226 sz3 ?_)));replace hT:=a2.ext (q4.n1 q5);refine y0d U hT.c (y5i hd) na3 U (z0x U (wi6 oo) (ne' U (mv U (gs 50 U (λg0=>?_) (λg0=>?_)))));exact gY U (mv U (gY U (mv U (gY U (mv U (gY U (y2s U U underlying226 sz3 (gY U (y0d U hT.c (y5i hd) na3 U (gY U (y4k U U (wi6 oo) (gY U (z0x U (wi6 oo) (gY U (ne' U (pkt U (rbe U (.d8 U U U U U U U U (.cons U .nil)))))))))))))))))));exact gN U (gN U (gN U (gN U (gN U (gN U (gN U (gN U (pkf U (rbe U (.d8 U U U U U U U U (.cons U .nil)))))))))));refine tn (cd U (λc4=>?_) (λc4=>?_));refine ex (te (xh (tn (rg (z0x U (wi6 oo) (mv U (nl ?_)))))));replace D:=D.ext q5;exact lpE ((i+1,_)) (.c8 U U U U U U U U) ⟨(q4.n1 q5),⟨sm,by rw[y6v,show x0d q.p r d I i=[] from if_pos c4,List.append_nil];exact D⟩⟩ sm;refine sk (tn (sr (mv U (lnS U underlying30 (mv U (nn (bl ?_)))))));replace D:=D.ext q5;refine lpK (ι:=Nat×Value) [(1,_),(2,_),(3,_),(11,_),(31,_),(32,_),(33,_),(60,_),(61,_)] (λp=>[(62,.int .i64 (p.1:Int)),(12,p.2)]) (λp w'=>Fr [] w0 w'/\p.1<=(q.bs.getD i iq0).2.length/\Lw.Own z2d 107 w0.heap.size w' p.2 ((y5m q.p r d I i)++((q.bs.getD i iq0).2.take p.1).map (λx=>(⟨x,true,1-d⟩:Pa)))) (λp=>(q.bs.getD i iq0).2.length-p.1) (0,uI) (.d8 U U U U U U U U (.c3 U U U)) ⟨(q4.n1 q5),⟨Nat.zero_le _,by simpa using D⟩⟩ ?_;rintro⟨j,uJ⟩ w6 ⟨q6,⟨hj,D⟩⟩;simp only at hj D;have z6:=q6.size;refine kpC [(1,_),(2,_),(3,_),(11,_),(31,_),(32,_),(33,_),(60,_),(61,_),(62,.int .i64 (j:Int)),(12,uJ)] (.d8 U U U U U U U U (.c3 U U U)) (sr (lt' U (nn (sq (cd U (λc5=>?_) (λc5=>?_))))));refine sk (tn (sq (bl (sr ?_))));replace Z:=M.ext q6;refine z1d (id0) U (z2b Z.bi i) U z3x z1j (λb7 a4=>?_);refine z1q U (a4 _ (z2b Z.bi i)) z2q (al z7r U (λd0 w7 b8 O q7 z7=>?_));refine z0j (vs:=[_,_]) U O z5y (λw8 O q8 z8=>?_) (h1:=(by first|(simp[Value.oneCell',S];done)|exact z1b.one _));refine nn (rg (mv U (z0m U O z2q (mv U (z1s (cs:=[_,_,_,_]) (ev3 U) u9b (z0f U (z0f U (z0f U z0q))) U ?_)))));refine z1g ([(⟨((q.bs.getD i iq0).2.getD j id0),true,1-d⟩:Pa)]) (ev1 U) U z4h (λd1 w9 b9 a5 q9 z9=>?_);replace D:=((D.ext q7).fr q8 (by first|exact z8h D oo|simp[z0v]<;>omega)).ext q9;have a1:=D;refine z1z U D a5.sl z4h (λe3 e4 D a6 b5=>?_) (hM:=(by unfold maxLen;simp only[List.length_append,List.length_map,List.length_take,List.length_cons,List.length_nil];omega)) (hb:=(by simp only[List.length_append,List.length_map,List.length_take,List.length_cons,List.length_nil];omega));have e8:=a6.size;exact asg U (kpL [(1,_),(2,_),(3,_),(11,_),(12,_),(31,_),(32,_),(33,_),(60,_),(61,_),(62,_)] (.d8 U U U U U U U U (.c3 U U U)) (nl (bn' (tn (rg (z0x U (wi6 oo) (mv U (nl (lpE ((j+1,_)) (.d8 U U U U U U U U (.c3 U U U)) ⟨((q6.z3 q7 q8 q9).step a6 (λk hk b2=>absurd (a1.blk k hk).1 oo)),⟨sm,by rw[y3g (λx=>(⟨x,true,1-d⟩:Pa)) id0 oo,<-List.append_assoc];exact D⟩⟩ sm)))))))));obtain rfl:j=(q.bs.getD i iq0).2.length:=by omega
 rw[List.take_length]at D;exact ex (te (te (xh (bn' (tn (rg (z0x U (wi6 oo) (mv U (nl (lpE ((i+1,_)) (.c8 U U U U U U U U) ⟨q6,⟨sm,by rw[y6v,show x0d q.p r d I i=_ from if_neg c4,z4e];exact D⟩⟩ sm))))))))));obtain rfl:i=q.bs.length:=by omega
 refine ex (te (te (xh (tn (jn (ι:=Unit) [(12,_)] (λ_j=>[]) (λ_j w'=>Fr [] w0 w'/\Lw.Own z2d 107 w0.heap.size w' uI (z6p q.p r d I)) (.cons U .nil) ?_ ?_)))));refine sr (mv U (eq' U (kpL [(12,_),(75,_)] (.c2 U U) (nn (cd U (λc6=>?_) (λc6=>?_))))));refine rg (mv U ?_);have b4:=D;refine cl (ev1 U) (mkC func207) (y9p w0.heap.size _ _ _ D oo) U ?_;rintro _ e5 ⟨D,a7⟩;have e9:=a7.size;exact nl (jE (()) (.cons U .nil) ⟨(q4.step a7 (λk hk b2=>absurd (b4.blk k hk).1 oo)),(by rw[show z6p q.p r d I=_ from if_pos oo,List.length_map];exact D)⟩);exact sk (jE (()) (.cons U .nil) ⟨q4,(by rw[show z6p q.p r d I=_ from if_neg oo,List.length_map];exact D)⟩);rintro _j e6 ⟨a8,D⟩;have f0:=a8.size;refine kpC [(12,_)] (.cons U .nil) (sr (mv U (cl (ev1 U) (mkC func208) (y3z _ (z6p q.p r d I) _ D.sl oo) U ?_)));rintro _ e7 ⟨b0,rfl,c9,hX,a9⟩;have f1:=a9.size;exact asg U (asg U (nn (rt (r2 results163 U U ⟨_,rfl,⟨b0,rfl,oo,hX.low oo⟩,(a8.n1 a9)⟩))))
theorem u9q:BuildAt prog 101 [(0,2),(2,2),(4,1)] [(.int .u8 0),(.int .i64 0),(.int .u8 0),(.int .i64 0),(.int .i64 0)]:=BuildAt.struct underlying101 (λ_=>kr) (λ_=>kr)
theorem v0i (q:BdQ)(r d:Int)(w0:World)(hB:BdAt w0 q)(hv:BdOk q.p)(hT:StT w0)(hr:-4<=r/\r<=4)(hd:d=0\/d=1)(g0:-4<=r+stI d/\r+stI d<=4):Rets prog 36 #[.agg #[.slice q.f.1 q.f.2.1 q.f.2.2,.slice q.b.1 q.b.2.1 q.b.2.2],.int .i64 r,.int .u8 d] w0 λv w'=>(∃g,v=.tuple #[.slice (some ⟨g,0,none⟩) (z3d q.p r d).length (z3d q.p r d).length,.int .i64 0]/\w0.heap.size<=g/\Lw.Own z4z 101 w0.heap.size w' (.slice (some ⟨g,0,none⟩) (z3d q.p r d).length (z3d q.p r d).length) (z3d q.p r d))/\Fr [] w0 w':=by
 obtain⟨⟨hf,hb⟩,h4,b4⟩:=z3o hv;have f9:=z2e hB.b;have e1:=y3t hv r d;rw[List.length_map]at e1;refine we [(0,.agg #[.slice q.f.1 q.f.2.1 q.f.2.2,.slice q.b.1 q.b.2.1 q.b.2.2]),(1,.int .i64 r),(2,.int .u8 d)] func36 U ntmps36 U (.c3 U U U) ?_;have a4:=hB;have d7:=hT;refine sr (bx U (λg3 w1 f8 a0 q1 z1=>(asg U (asg U (nn (sq (sr (z0m U a0 z4x (mv U (mv U ?_))))))))));replace hB:=a4.ext q1;replace hT:=d7.ext q1;refine cl (ev3 U) (mkC func85) (x1v q _ _ _ hB hv hT oo hd oo) U ?_;rintro _ w2 ⟨rfl,q2⟩;have z2:=q2.size;replace a0:=a0.ext q2;have b5:=a0;refine asg U (nn (sr (mv U (ne' U (nn (cd U (λc0=>?_) (λc0=>?_)))))));exact absurd U c0;refine sk (tn (sr (asg U (nn (sq (sr (fad U y2q (z0i U a0 U x6v (lnS U underlying23 (mv U (nn (bl (lpK (ι:=Nat×Value) [(1,_),(2,_),(3,_),(26,_),(27,_)] (λp=>[(28,.int .i64 (p.1:Int)),(9,p.2)]) (λp w'=>Fr [] w2 w'/\p.1<=q.bs.length/\Lw.Own z4z 101 w2.heap.size w' p.2 (x6y q.p r d p.1)) (λp=>q.bs.length-p.1) (0,_) (.c7 U U U U U U U) ⟨(Fr.refl _ _),⟨Nat.zero_le _,Own.nil _⟩⟩ ?_)))))))))))));rintro⟨i,uI⟩ w3 ⟨q3,⟨hi,I⟩⟩;simp only at hi I;have z3:=q3.size;refine kpC [(1,_),(2,_),(3,_),(26,_),(27,_),(28,.int .i64 (i:Int)),(9,uI)] (.c7 U U U U U U U) ?_;have f6:=x6e hv r d i;have g1:=z3n b4 i;have g4:=z2e (z2b a4.bi i);have f7:-10<=y0i r d i/\y0i r d i<=50:=by unfold y0i;split<;>omega
 have d9:((q.p.atC 0 (y0i r d i)).reverse).length<=4:=by rw[List.length_reverse];exact x3y hv _ _
 refine sr (lt' U (nn (sq (cd U (λc1=>?_) (λc1=>?_)))));refine sk (tn (sq (bl (sr (mv U ?_)))));replace hB:=a4.ext (q1.n2 q2 q3);refine z1d (iq0) U hB.b U y4x z1j (λe4 b6=>?_);refine z1k U (b6 _ hB.b) z6h (asg U (asg U (nn (sr (mv U (z0x U (wi6 oo) (mv U (z0x U (wi6 oo) (asg U (nn (jn (ι:=Unit) [(1,_),(2,_),(3,_),(9,_),(11,_),(26,_),(27,_),(28,_)] (λ_j=>[(12,.int .i64 (y0i r d i))]) (λ_j w'=>Fr [] w2 w'/\Lw.Own z4z 101 w2.heap.size w' uI (x6y q.p r d i)) (.c8 U U U U U U U U) ?_ ?_)))))))))));refine sr (mv U (eq' U (nn (cd U (λc2=>?_) (λc2=>?_)))));exact rg (mv U (z2w U (wi6 oo) (asg U (nl (jE (()) (.d8 U U U U U U U U (.cons (by first|(rw[show y0i r d i=_ from if_pos c2];rfl)|(rw[show y0i r d i=_ from if_neg c2];rfl)) .nil)) ⟨q3,I⟩)))));exact sk (jE (()) (.d8 U U U U U U U U (.cons (by first|(rw[show y0i r d i=_ from if_pos c2];rfl)|(rw[show y0i r d i=_ from if_neg c2];rfl)) .nil)) ⟨q3,I⟩);rintro _j w4 ⟨q4,I⟩;have z4:=q4.size;refine kpC [(1,_),(2,_),(3,_),(9,_),(11,_),(26,_),(27,_),(28,_),(12,_)] (.d8 U U U U U U U U (.cons U .nil)) (sr ?_);replace a0:=b5.ext q4;refine z0m U a0 z4x (mv U (z1s (cs:=[_,_]) (ev2 U) y4d (z0f U (z0f U z0q)) U ?_));replace hB:=a4.ext (q1.n2 q2 q4);refine cl (ev2 U) x9f (y4w q 0 (y0i r d i) _ hB oo hf hb h4 b4) U ?_;rintro g5 w5 ⟨M,q5⟩;replace M:=M.low (show w2.heap.size<=_ by omega);have z5:=q5.size;refine asg U (nn (sr (mv U ?_)));have a5:=M;replace I:=I.ext q5;refine cl (ev1 U) (mkC func86) (v0d w2.heap.size _ _ _ M (by have:=x3y hv 0 (y0i r d i);omega)) U ?_;rintro _ w6 ⟨M,q6⟩;replace I:=I.fr q6 (Own.neO a5 I dd);have z6:=q6.size;obtain⟨b2,b3,rfl,e7⟩:=M.sl.form;refine nn (sr (mv U (lnS U underlying30 (mv U (nn (bl (lpK (ι:=Nat×Value) [(1,_),(2,_),(3,_),(13,_),(26,_),(27,_),(28,_),(47,_),(48,_)] (λp=>[(49,.int .i64 (p.1:Int)),(9,p.2)]) (λp w'=>Fr [] w2 w'/\p.1<=(q.bs.getD i iq0).2.length/\Lw.Own z4z 101 w2.heap.size w' p.2 ((x6y q.p r d i)++((q.bs.getD i iq0).2.take p.1).flatMap (λx=>((q.p.atC 0 (y0i r d i)).reverse).map (x6l d x)))/\Lw.Own z1b 64 w2.heap.size w' (.slice b2 ((q.p.atC 0 (y0i r d i)).reverse).length b3) ((q.p.atC 0 (y0i r d i)).reverse)) (λp=>(q.bs.getD i iq0).2.length-p.1) (0,_) (.d8 U U U U U U U U (.c3 U U U)) ⟨((q4.n1 q5).step q6 (λk hk b1=>absurd (a5.blk k hk).1 oo)),⟨Nat.zero_le _,by simpa using I,M⟩⟩ ?_)))))));rintro⟨j,uJ⟩ w7 ⟨q7,⟨hj,I,M⟩⟩;simp only at hj I;have z7:=q7.size;refine kpC [(1,_),(2,_),(3,_),(13,_),(26,_),(27,_),(28,_),(47,_),(48,_),(49,.int .i64 (j:Int)),(9,uJ)] (.d8 U U U U U U U U (.c3 U U U)) ?_;have e0:=flat_len (λx=>((q.p.atC 0 (y0i r d i)).reverse).map (x6l d x)) 4 (λx=>by rw[List.length_map];exact d9) ((q.bs.getD i iq0).2.take j);rw[List.length_take]at e0;refine sr (lt' U (nn (sq (cd U (λc3=>?_) (λc3=>?_)))));refine sk (tn (sq (bl (sr ?_))));replace hB:=a4.ext (q1.n2 q2 q7);refine z1d (id0) U (z2b hB.bi i) U z3x z1j (λe5 b7=>?_);refine z1q U (b7 _ (z2b hB.bi i)) z2q (al z7r U (λd5 w8 e8 D q8 z8=>?_));refine z0j (vs:=[_,_]) U D z5y (λw9 D q9 z9=>?_) (h1:=(by first|(simp[Value.oneCell',S];done)|exact z1b.one _));refine nn (sr (mv U (lnS U underlying30 (mv U (nn (bl ?_))))));replace I:=(I.ext q8).fr q9 (by first|exact z8h I oo|simp[z0v]<;>omega);replace M:=(M.ext q8).fr q9 (by first|exact z8h M oo|simp[z0v]<;>omega);refine lpK (ι:=Nat×Value) [(1,_),(2,_),(3,_),(13,_),(15,_),(26,_),(27,_),(28,_),(47,_),(48,_),(49,_),(53,_),(54,_)] (λp=>[(55,.int .i64 (p.1:Int)),(9,p.2)]) (λp w'=>Fr [] w2 w'/\p.1<=((q.p.atC 0 (y0i r d i)).reverse).length/\Lw.Own z4z 101 w2.heap.size w' p.2 (((x6y q.p r d i)++((q.bs.getD i iq0).2.take j).flatMap (λx=>((q.p.atC 0 (y0i r d i)).reverse).map (x6l d x)))++(((q.p.atC 0 (y0i r d i)).reverse).take p.1).map (x6l d ((q.bs.getD i iq0).2.getD j id0)))/\Lw.Own z1b 64 w2.heap.size w' (.slice b2 ((q.p.atC 0 (y0i r d i)).reverse).length b3) ((q.p.atC 0 (y0i r d i)).reverse)/\Blk w' d5 64 (z1b.enc ((q.bs.getD i iq0).2.getD j id0))) (λp=>((q.p.atC 0 (y0i r d i)).reverse).length-p.1) (0,_) (.d8 U U U U U U U U (.c7 U U U U U U U)) ⟨(q7.z2 q8 q9),⟨Nat.zero_le _,by simpa using I,M,D⟩⟩ ?_;rintro⟨k,uK⟩ g8 ⟨a6,⟨hk,I,M,D⟩⟩;simp only at hk I;have i0:=a6.size;have d0:=D.lt;refine kpC [(1,_),(2,_),(3,_),(13,_),(15,_),(26,_),(27,_),(28,_),(47,_),(48,_),(49,_),(53,_),(54,_),(55,.int .i64 (k:Int)),(9,uK)] (.d8 U U U U U U U U (.c7 U U U U U U U)) (sr (lt' U (nn (sq (cd U (λc4=>?_) (λc4=>?_))))));refine sk (tn (sq (bl (sr (z1d (id0) U M.sl U z3x z1j (λe6 b8=>?_))))));refine z1q U (b8 _ M.sl) z2q (al z7r U (λf3 g9 e9 a3 O i1=>?_));refine z0j (vs:=[_,_]) U a3 z5y (λh0 a3 Z i2=>?_) (h1:=(by first|(simp[Value.oneCell',S];done)|exact z1b.one _));refine nn (sr (mv U (eq' U (nn (cd U (λc5=>?_) (λc5=>?_))))));refine rg (mv U (z0m U a3 z2q ?_));replace D:=(D.ext O).fr Z;refine z0m U D z2q (z1s (cs:=[_,_,_,_,_]) (ev3 U) u9q (z0f U (z0f U (z0f U z0q))) U ?_);refine z1g ([(⟨(((q.p.atC 0 (y0i r d i)).reverse).getD k id0),((q.bs.getD i iq0).2.getD j id0),1⟩:Cx)]) (ev1 U) U x6n (λf4 h2 f0 b9 a7 i3=>?_);replace M:=((M.ext O).fr Z (by first|exact z8h M oo|simp[z0v]<;>omega)).ext a7;replace D:=D.ext a7;replace I:=((I.ext O).fr Z (by first|exact z8h I oo|simp[z0v]<;>omega)).ext a7;have a1:=I;refine z1z U I b9.sl x6n (λg6 h3 I a8 e2=>?_) (hM:=(by unfold maxLen;simp only[List.length_append,List.length_map,List.length_take,List.length_cons,List.length_nil];omega)) (hb:=(by simp only[List.length_append,List.length_map,List.length_take,List.length_cons,List.length_nil];omega));have i4:=a8.size;replace M:=M.fr a8 ((Own.neO a1 M dd));replace D:=D.fr a8 (λhk=>a1.neB D dd hk);exact asg U (kpL [(1,_),(2,_),(3,_),(9,_),(13,_),(15,_),(26,_),(27,_),(28,_),(47,_),(48,_),(49,_),(53,_),(54,_),(55,_)] (.d8 U U U U U U U U (.c7 U U U U U U U)) (nl (bn' (tn (rg (z0x U (wi6 oo) (mv U (nl (lpE ((k+1,_)) (.d8 U U U U U U U U (.c7 U U U U U U U)) ⟨((a6.z3 O Z a7).step a8 (λk hk b1=>absurd (a1.blk k hk).1 oo)),⟨sm,by rw[y3g (x6l d ((q.bs.getD i iq0).2.getD j id0)) id0 oo,<-List.append_assoc,show x6l d ((q.bs.getD i iq0).2.getD j id0) (((q.p.atC 0 (y0i r d i)).reverse).getD k id0)=_ from if_pos c5];exact I,M,D⟩⟩ sm)))))))));refine rg (mv U ?_);replace D:=(D.ext O).fr Z;refine z0m U D z2q (z0m U a3 z2q (z1s (cs:=[_,_,_,_,_]) (ev3 U) u9q (z0f U (z0f U (z0f U z0q))) U ?_));refine z1g ([(⟨((q.bs.getD i iq0).2.getD j id0),(((q.p.atC 0 (y0i r d i)).reverse).getD k id0),-1⟩:Cx)]) (ev1 U) U x6n (λf5 h5 f1 c9 a9 i5=>?_);replace M:=((M.ext O).fr Z (by first|exact z8h M oo|simp[z0v]<;>omega)).ext a9;replace D:=D.ext a9;replace I:=((I.ext O).fr Z (by first|exact z8h I oo|simp[z0v]<;>omega)).ext a9;have a2:=I;refine z1z U I c9.sl x6n (λg7 h6 I b0 e3=>?_) (hM:=(by unfold maxLen;simp only[List.length_append,List.length_map,List.length_take,List.length_cons,List.length_nil];omega)) (hb:=(by simp only[List.length_append,List.length_map,List.length_take,List.length_cons,List.length_nil];omega));have i7:=b0.size;replace M:=M.fr b0 ((Own.neO a2 M dd));replace D:=D.fr b0 (λhk=>a2.neB D dd hk);exact asg U (kpL [(1,_),(2,_),(3,_),(9,_),(13,_),(15,_),(26,_),(27,_),(28,_),(47,_),(48,_),(49,_),(53,_),(54,_),(55,_)] (.d8 U U U U U U U U (.c7 U U U U U U U)) (nl (bn' (tn (rg (z0x U (wi6 oo) (mv U (nl (lpE ((k+1,_)) (.d8 U U U U U U U U (.c7 U U U U U U U)) ⟨((a6.z3 O Z a9).step b0 (λk hk b1=>absurd (a2.blk k hk).1 oo)),⟨sm,by rw[y3g (x6l d ((q.bs.getD i iq0).2.getD j id0)) id0 oo,<-List.append_assoc,show x6l d ((q.bs.getD i iq0).2.getD j id0) (((q.p.atC 0 (y0i r d i)).reverse).getD k id0)=_ from if_neg c5];exact I,M,D⟩⟩ sm)))))))));obtain rfl:k=((q.p.atC 0 (y0i r d i)).reverse).length:=by omega
 rw[List.take_length]at I;exact ex (te (te (xh (bn' (tn (rg (z0x U (wi6 oo) (mv U (kpL [(1,_),(2,_),(3,_),(9,_),(13,_),(26,_),(27,_),(28,_),(47,_),(48,_),(49,_)] (.d8 U U U U U U U U (.c3 U U U)) (nl (lpE ((j+1,_)) (.d8 U U U U U U U U (.c3 U U U)) ⟨a6,⟨sm,by rw[v0p (λx=>((q.p.atC 0 (y0i r d i)).reverse).map (x6l d x)) id0 oo,<-List.append_assoc];exact I,M⟩⟩ sm)))))))))));obtain rfl:j=(q.bs.getD i iq0).2.length:=by omega
 rw[List.take_length]at I;exact ex (te (te (xh (bn' (tn (rg (z0x U (wi6 oo) (mv U (kpL [(1,_),(2,_),(3,_),(9,_),(26,_),(27,_),(28,_)] (.c7 U U U U U U U) (nl (lpE ((i+1,_)) (.c7 U U U U U U U) ⟨q7,⟨sm,by rw[v0f,show u0j q.p r d i=(q.bs.getD i iq0).2.flatMap (λx=>((q.p.atC 0 (y0i r d i)).reverse).map (x6l d x)) from by unfold u0j;rw[z4e]];exact I⟩⟩ sm)))))))))));obtain rfl:i=q.bs.length:=by omega
 refine ex (te (te (xh (tn (jn (ι:=Unit) [(9,_)] (λ_j=>[]) (λ_j w'=>Fr [] w0 w'/\Lw.Own z4z 101 w0.heap.size w' uI (z3d q.p r d)) (.cons U .nil) ?_ ?_)))));refine sr (mv U (eq' U (kpL [(9,_),(77,_)] (.c2 U U) (nn (cd U (λc6=>?_) (λc6=>?_))))));refine rg (mv U ?_);have a5:=I;refine cl (ev1 U) (mkC func87) (v0j w2.heap.size _ _ _ I oo) U ?_;rintro _ h7 ⟨I,d1⟩;have i8:=d1.size;exact nl (jE (()) (.cons U .nil) ⟨((q1.n2 q2 q3).step d1 (λk hk b1=>absurd (a5.blk k hk).1 oo)),(by rw[show z3d q.p r d=_ from if_pos oo,List.length_map];exact I.low oo)⟩);exact sk (jE (()) (.cons U .nil) ⟨(q1.n2 q2 q3),(by rw[show z3d q.p r d=_ from if_neg oo,List.length_map];exact I.low oo)⟩);rintro _j h8 ⟨d3,I⟩;have i9:=d3.size;refine kpC [(9,_)] (.cons U .nil) (sr (mv U (cl (ev1 U) (mkC func88) (x2s _ (z3d q.p r d) _ I.sl oo) U ?_)));rintro _ h9 ⟨d6,rfl,f2,hY,d4⟩;have j0:=d4.size;exact asg U (asg U (nn (rt (r2 results36 U U ⟨_,rfl,⟨d6,rfl,oo,hY.low oo⟩,(d3.n1 d4)⟩))))
end Go.Proofs.YtlfdhllfmoplgaaGreatDoor
namespace Go.G08
open Go.Lw Go.G21
def orZ:List Int->Int
  | []=>0
  | x::l=>if x≠0 then x else orZ l
theorem v0o:∀ {l:List Int} {i:Nat},i<l.length->(∀j,j<i->l.getD j 0=0)->l.getD i 0≠0->orZ l=l.getD i 0
 | x::l,0,_,_,h=>by simp only[List.getD_cons_zero]at h ⊢;exact if_pos h
 | x::l,i+1,hi,hj,h=>by
  have D:=hj 0 oo
  simp only[List.getD_cons_zero]at D
  rw[show orZ (x::l)=if x≠0 then x else orZ l from U,if_neg oo]
  simp only[List.getD_cons_succ]at h ⊢
  exact v0o (by simpa using hi) (λj hl=>by have:=hj (j+1) oo;simpa only[List.getD_cons_succ] using this) h
theorem y7r:∀ {l:List Int},(∀j,j<l.length->l.getD j 0=0)->orZ l=0
 | [],_=>rfl
 | x::l,hj=>by
  have D:=hj 0 sp0
  simp only[List.getD_cons_zero]at D
  rw[show orZ (x::l)=if x≠0 then x else orZ l from U,if_neg oo]
  exact y7r (λj hl=>by have:=hj (j+1) (by simpa using hl);simpa only[List.getD_cons_succ] using this)
theorem x5y (a b:LId):orZ [z9s a.y b.y,z9s a.n b.n]=z6k a b:=by
 unfold orZ orZ orZ z9s z6k
 repeat' split
 all_goals first|rfl|omega
end Go.G08
namespace Go.Lw
open Go.RowKit
def MapL {κ:Type}[DecidableEq κ](V:κ->Value)(w:World)(g:Nat)(m:List (κ×Value)):Prop:=
  ∃(es:Array MapEntry) (c:Nat),w.heap[g]?=some (.map es c)/\es.toList.map (λe=>(e.key,e.val))=m.map (λp=>(V p.1,p.2))/\(m.map (·.1)).Nodup/\(es.toList.map (·.born)).Nodup/\∀e∈es.toList,e.born<c
def z5g {κ:Type}[DecidableEq κ](m:List (κ×Value))(k:κ):List (κ×Value):=
  match (m.map (·.1)).findIdx? (λx=>decide (k=x)) with
  | some i=>m.eraseIdx i
  | none=>m
def MapIt {κ:Type}[DecidableEq κ](V:κ->Value)(w:World)(gi g:Nat)(m rem:List (κ×Value))(cur:Option (κ×Value)):Prop:=
  ∃(es:Array MapEntry) (c:Nat) (seen:Array Nat),w.heap[g]?=some (.map es c)/\es.toList.map (λe=>(e.key,e.val))=m.map (λp=>(V p.1,p.2))/\(es.toList.map (·.born)).Nodup/\(∀e∈es.toList,e.born<c)/\
    w.heap[gi]?=some (.mapIter (some g) c seen c)/\(leftOf es seen).toList.map (λe=>(e.key,e.val))=rem.map (λp=>(V p.1,p.2))/\∀p,cur=some p->∃e∈es.toList,∃s':Array Nat,seen=s'.push e.born/\e.key=V p.1/\e.val=p.2
theorem j0j {P:Program}{ops:Array Oper}{Q:Exit->Act->World->Prop}{o:Oper}{rest:List Oper}{a:Act}{n:Nat}{ds:List Nat}{L:List (Nat×Value)}{w w':World}{v:Value}(h:AgM ds a n L)(M:o.guard=none)(I:o.dst=none)(O:(execOp a.eval o).run P w=.ok (.value v) w')
    (k:∀a,AgM ds a n L->wpList P ops Q rest a w'):wpList P ops Q (o::rest) a w:=
  wpList_plain M λK D=>by
    unfold Oper.wp
    rw[O]
    show K (a.put o.dst v) w'
    rw[I]
    exact D _ _ (k _ h)
theorem y5n {D:Type}(m:List (D×Value))(i:Nat)(v:Value):(m.modify i λp=>(p.1,v)).map (·.1)=m.map (·.1):=by
 apply List.ext_getElem?;intro j;simp only[List.getElem?_map,List.getElem?_modify];by_cases h:i=j;subst h;cases m[i]?<;>simp
 simp[h]
theorem y1a {α β:Type}(f:α->β)(i:Nat)(l:List α):(l.eraseIdx i).map f=(l.map f).eraseIdx i:=by
 apply List.ext_getElem?;intro j;simp only[List.getElem?_map,List.getElem?_eraseIdx];split<;>rfl
section
variable {κ:Type} [DecidableEq κ] {V:κ->Value} {P:Program} {K:TypeId} {w w':World} {g:Nat} {m:List (κ×Value)} {S:List Nat}
theorem MapL.fr (h:MapL V w g m)(hf:Fr S w w')(hn:g∉S:=by simp[z0v]<;>omega):MapL V w' g m:=by
 obtain⟨I,c,D,M⟩:=h;exact⟨I,c,(hf.block g (Array.getElem?_eq_some_iff.1 D).1 hn).trans D,M⟩
theorem MapL.ext (h:MapL V w g m)(hf:Fr [] w w'):MapL V w' g m:=h.fr hf sp0
theorem MapL.f (h:MapL V w g m):MapF V w g (z2k m):=let ⟨es,c,h1,h2,_⟩:=h;⟨es,c,m,h1,h2,λ_=>rfl⟩
theorem MapL.lt (h:MapL V w g m):g<w.heap.size:=h.f.lt
theorem MapL.nodup (h:MapL V w g m):(m.map (·.1)).Nodup:=let ⟨_,_,_,_,h,_⟩:=h;h
theorem v0k {k:κ}(h:(m.map (·.1)).findIdx? (λx=>decide (k=x))=none):k∉m.map (·.1):=λD=>by
 rw[List.findIdx?_eq_none_iff]at h
 have:=h k D
 simp at this
theorem y5q {t E:TypeId}(h:MapL V w g m)(hk:KeyLaw P K V)(hu:P.underlying t=some (.map K E))(k:κ)(v:Value) :
    ∃w',(Instr.mapUpdate t (.map (some g)) (V k) v).run P w=.ok () w'/\MapL V w' g (z3w m k v)/\Fr [g] w w'/\w'.heap.size=w.heap.size:=by
  obtain⟨D,c,h1,h2,a8,a5,a2⟩:=h
  have b0:=(Array.getElem?_eq_some_iff.1 h1).1
  have Z:D.toList.map (·.key)=(m.map (·.1)).map V:=by
    have:=congrArg (List.map Prod.fst) h2
    simpa[List.map_map,Function.comp_def] using this
  have M:=hk.find k D.toList (m.map (·.1)) w Z
  have a1:∀o,(setObj g o).run P w=.ok () { w with heap:=w.heap.setIfInBounds g o }:=by intro o;simp[setObj,Sem.run,h1]
  have a6:∀o,Fr [g] w { w with heap:=w.heap.setIfInBounds g o }:=λo=>⟨rfl,rfl,rfl,sp0,λi _ hn=>by
    simp only
    rw[Array.getElem?_setIfInBounds_ne (by intro e;subst e;simp at hn)]⟩
  have O:∀o,({ w with heap:=w.heap.setIfInBounds g o }:World).heap[g]?=some o:=by intro o;simp[b0]
  have b2:D.toList.length=m.length:=by have:=congrArg List.length h2;simpa using this
  cases hf:(m.map (·.1)).findIdx? (λx=>decide (k=x)) with
  | none=>
    have ea:z3w m k v=m++[(k,v)]:=by unfold z3w;rw[hf]
    rw[ea]
    refine⟨_,?_,⟨_,_,O (.map (D.push { key:=V k,val:=v,born:=c }) (c+1)),?_,?_,?_,?_⟩,a6 _,sp0⟩
    · rw[hf]at M
      simp only[Instr.mapUpdate,Sem.run_bind,run_underlying hu,Result.andThen_ok,z2m h1,hk.check,M,Option.bind_none,a1]
    · simp[h2]
    · rw[List.map_append]
      exact List.nodup_append.2 ⟨a8,sp0,λx hx y hy=>by
        simp at hy;subst hy;intro e;subst e;exact v0k hf hx⟩
    · rw[Array.toList_push,List.map_append]
      exact List.nodup_append.2 ⟨a5,sp0,λx hx y hy=>by
        simp at hy;subst hy
        obtain⟨e,he,rfl⟩:=List.mem_map.1 hx
        have:=a2 e he;omega⟩
    · intro e he
      rw[Array.toList_push]at he
      rcases List.mem_append.1 he with h|h
      · have:=a2 e h;omega
      · simp at h;subst h;exact Nat.lt_succ_self _
  | some i=>
    have hi:i<m.length:=by
      have:=List.findIdx?_eq_some_iff_findIdx_eq.1 hf
      simpa using this.1
    have a0:i<D.toList.length:=by omega
    have a7:V k=(D.toList[i]).key:=by
      have a9:=List.findIdx?_eq_some_iff_getElem.1 hf
      obtain⟨b3,hp,_⟩:=a9
      have b1:k=(m.map (·.1))[i]:=by simpa using hp
      have e1:(D.toList.map (·.key))[i]?=((m.map (·.1)).map V)[i]?:=by rw[Z]
      simp only[List.getElem?_map,List.getElem?_eq_getElem a0,List.getElem?_eq_getElem hi,Option.map_some,Option.some.injEq]at e1
      rw[e1,b1];simp
    have ea:z3w m k v=m.modify i λp=>(p.1,v):=by unfold z3w;rw[hf]
    rw[ea]
    have I:(D.modify i λe=>{ e with key:=V k,val:=v }).toList.map (·.born)=D.toList.map (·.born):=by
      apply List.ext_getElem?
      intro j
      simp only[List.getElem?_map]
      rw[Array.getElem?_toList,Array.getElem?_modify,Array.getElem?_toList]
      by_cases hj:i=j
      · subst hj;simp only[if_true];cases D[i]?<;>rfl
      · simp only[hj,if_false]
    refine⟨_,?_,⟨_,_,O (.map (D.modify i λe=>{ e with key:=V k,val:=v }) c),?_,by rw[y5n m];exact a8,by rw[I];exact a5,?_⟩,a6 _,sp0⟩
    · rw[hf]at M
      have a3:D[i]?=some D.toList[i]:=by rw[<-Array.getElem?_toList,List.getElem?_eq_getElem a0]
      simp only[Option.bind_some,List.getElem?_eq_getElem a0,Option.map_some]at M
      have a4:(Instr.keyThatStays (((D[i]?).map (·.key)).getD (V k)) (V k)).run P w=.ok (V k) w:=by
        rw[a3]
        simp only[Option.map_some,Option.getD_some,<-a7,Instr.keyThatStays,hk.bits,if_true,Sem.run_pure]
      simp only[Instr.mapUpdate,Sem.run_bind,run_underlying hu,Result.andThen_ok,z2m h1,hk.check,M,a4,a1]
    · apply List.ext_getElem?
      intro j
      have e2:=congrArg (·[j]?) h2
      simp only[List.getElem?_map]at e2 ⊢
      rw[Array.getElem?_toList,Array.getElem?_modify,List.getElem?_modify]
      rw[Array.getElem?_toList]at e2
      by_cases hj:i=j
      · subst hj
        have e3:=List.getElem?_eq_getElem hi
        have a3:D[i]?=some D.toList[i]:=by rw[<-Array.getElem?_toList,List.getElem?_eq_getElem a0]
        rw[a3,e3]at e2 ⊢
        simp only[Option.map_some,Option.some.injEq,Prod.mk.injEq]at e2
        simp only[if_true,Option.map_some]
        rw[a7,e2.1];rfl
      · simp only[hj,if_false]
        rw[e2];simp
    · intro e he
      have:e.born∈D.toList.map (·.born):=by rw[<-I];exact List.mem_map_of_mem he
      obtain⟨x,hx,hb⟩:=List.mem_map.1 this
      rw[<-hb];exact a2 x hx
theorem x3h {t E:TypeId}{ty:TypeId}(h:MapL V w g m)(hk:KeyLaw P K V)(hu:P.underlying t=some (.map K E))(k:κ) :
    ∃w',(Builtin.delete_ #[t,K] ty #[.map (some g),V k]).run P w=.ok (.tuple #[]) w'/\MapL V w' g (z5g m k)/\Fr [g] w w'/\w'.heap.size=w.heap.size:=by
  obtain⟨M,c,h1,h2,a4,a1,a0⟩:=h
  have a5:=(Array.getElem?_eq_some_iff.1 h1).1
  have Z:M.toList.map (·.key)=(m.map (·.1)).map V:=by
    have:=congrArg (List.map Prod.fst) h2
    simpa[List.map_map,Function.comp_def] using this
  have D:=hk.find k M.toList (m.map (·.1)) w Z
  have O:∀o,(setObj g o).run P w=.ok () { w with heap:=w.heap.setIfInBounds g o }:=by intro o;simp[setObj,Sem.run,h1]
  have a2:∀o,Fr [g] w { w with heap:=w.heap.setIfInBounds g o }:=λo=>⟨rfl,rfl,rfl,sp0,λi _ hn=>by
    simp only
    rw[Array.getElem?_setIfInBounds_ne (by intro e;subst e;simp at hn)]⟩
  have I:∀o,({ w with heap:=w.heap.setIfInBounds g o }:World).heap[g]?=some o:=by intro o;simp[a5]
  have a6:M.toList.length=m.length:=by have:=congrArg List.length h2;simpa using this
  cases hf:(m.map (·.1)).findIdx? (λx=>decide (k=x)) with
  | none=>
    have ea:z5g m k=m:=by unfold z5g;rw[hf]
    rw[ea]
    refine⟨_,?_,⟨_,_,I (.map M c),h2,a4,a1,a0⟩,a2 _,sp0⟩
    rw[hf]at D
    simp[Builtin.delete_,run_underlying hu,z2m h1,hk.check,D,O]
  | some i=>
    have ea:z5g m k=m.eraseIdx i:=by unfold z5g;rw[hf]
    rw[ea]
    have hi:i<m.length:=by
      have:=List.findIdx?_eq_some_iff_findIdx_eq.1 hf
      simpa using this.1
    have a3:i<M.toList.length:=by omega
    have el:(M.eraseIdxIfInBounds i).toList=M.toList.eraseIdx i:=by
      unfold Array.eraseIdxIfInBounds
      rw[dif_pos (by simpa using a3),Array.toList_eraseIdx]
    refine⟨_,?_,⟨_,_,I (.map (M.eraseIdxIfInBounds i) c),?_,?_,?_,?_⟩,a2 _,sp0⟩
    · rw[hf]at D
      simp only[Option.bind_some,List.getElem?_eq_getElem a3,Option.map_some]at D
      simp[Builtin.delete_,run_underlying hu,z2m h1,hk.check,D,O]
    · rw[el,y1a,y1a,h2]
    · rw[y1a];exact List.Nodup.sublist (List.eraseIdx_sublist _ _) a4
    · rw[el,y1a];exact List.Nodup.sublist (List.eraseIdx_sublist _ _) a1
    · intro e he
      rw[el]at he
      exact a0 e ((List.eraseIdx_sublist _ _).mem he)
variable {a:Act} {n:Nat} {L:List (Nat×Value)} {ds:List Nat} {Q:Exit->Act->World->Prop} {C:World->Prop} {Qa:Act->Prop} {ops:Array Oper} {rest:List Oper}
variable {d:Nat} {ty:TypeId} {pos:String} {after:Array Edge} {x y z:Operand} {t E:TypeId} {k:κ} {v zv:Value}
theorem y6y (h:AgM ds a n L)(hx:ev L x=some (.map (some g)))(hy:ev L y=some (V k))(hz:ev L z=some v)(Z:MapL V w g m)(O:KeyLaw P K V)(hu:P.underlying t=some (.map K E))
    (q:∀w',MapL V w' g (z3w m k v)->Fr [g] w w'->w'.heap.size=w.heap.size->∀a,AgM ds a n L->wpList P ops Q rest a w'):wpList P ops Q (⟨none,.mapUpdate t x y z,ty,pos,after,none⟩::rest) a w:=by
  obtain⟨w',hr,D,I,M⟩:=y5q Z O hu k v
  exact z8o h U U (w':=w') (by simp[execOp,h.eval hx,h.eval hy,h.eval hz,hr]) (q w' D I M)
theorem u4g {M:TypeId}(h:AgM ds a n L)(hx:ev L x=some (.map (some g)))(hy:ev L y=some (V k))(hm:MapL V w g m)(hk:KeyLaw P K V)(hu:P.underlying t=some (.map K E))(he:M=K)
    (q:∀w',MapL V w' g (z5g m k)->Fr [g] w w'->w'.heap.size=w.heap.size->∀a,AgM ds a n L->wpList P ops Q rest a w'):wpList P ops Q (⟨none,.call ⟨.builtin .delete,#[x,y],#[t,M]⟩,ty,pos,after,none⟩::rest) a w:=by
  subst he
  obtain⟨w',hr,O,Z,h3⟩:=x3h (ty:=ty) hm hk hu k
  refine j0j h U U (w':=w') (v:=.tuple #[]) ?_ (q w' O Z h3)
  have D:=h.eval hx
  have I:=h.eval hy
  rw[z2h];unfold builtin
  simp[D,I,hr]
theorem MapIt.fr {gi:Nat}{rem:List (κ×Value)}{cur:Option (κ×Value)}(h:MapIt V w gi g m rem cur)(hf:Fr S w w')(h1:g∉S)(Z:gi∉S):MapIt V w' gi g m rem cur:=by
 obtain⟨O,c,D,I,k2,k3,k4,M,k6⟩:=h;exact⟨O,c,D,(hf.block g (Array.getElem?_eq_some_iff.1 I).1 h1).trans I,k2,k3,k4,(hf.block gi (Array.getElem?_eq_some_iff.1 M).1 Z).trans M,k6⟩
theorem MapIt.ext {gi:Nat}{rem:List (κ×Value)}{cur:Option (κ×Value)}(h:MapIt V w gi g m rem cur)(hf:Fr [] w w'):MapIt V w' gi g m rem cur:=h.fr hf sp0 sp0
theorem MapIt.lt {gi:Nat}{rem:List (κ×Value)}{cur:Option (κ×Value)}(h:MapIt V w gi g m rem cur):gi<w.heap.size:=let ⟨_,_,_,_,_,_,_,k5,_⟩:=h;(Array.getElem?_eq_some_iff.1 k5).1
theorem MapIt.ne {gi:Nat}{rem:List (κ×Value)}{cur:Option (κ×Value)}(h:MapIt V w gi g m rem cur):g≠gi:=λe=>by
 obtain⟨O,c,I,M,_,_,_,D,_⟩:=h
 rw[<-e,M]at D;cases D
theorem x9a {I:Array MapEntry}{D:Array Nat}{e:MapEntry}{M O:List MapEntry}(hn:(I.toList.map (·.born)).Nodup)(h:(leftOf I D).toList=M++e::O):(leftOf I (D.push e.born)).toList=M++O:=by
 have h2:(leftOf I (D.push e.born)).toList=(leftOf I D).toList.filter λx=>decide (x.born≠e.born):=by
  unfold leftOf;rw[Array.toList_filter,Array.toList_filter,List.filter_filter];congr 1;funext x;by_cases c1:x.born=e.born;simp[c1];by_cases c2:x.born∈D;simp[c1,c2];simp[c1,c2]
 have Z:((leftOf I D).toList.map (·.born)).Nodup:=by
  refine List.Nodup.sublist (List.Sublist.map _ ?_) hn;unfold leftOf;rw[Array.toList_filter];exact List.filter_sublist
 rw[h]at h2 Z;rw[h2,List.filter_append,List.filter_cons];rw[List.map_append,List.map_cons]at Z;obtain⟨n1,n2,n3⟩:=List.nodup_append.1 Z;have n4:=List.nodup_cons.1 n2;have f1:M.filter (λx=>decide (x.born≠e.born))=M:=List.filter_eq_self.2 λx hx=>by
  simpa using n3 _ (List.mem_map_of_mem hx) e.born (List.mem_cons_self ..)
 have f2:O.filter (λx=>decide (x.born≠e.born))=O:=List.filter_eq_self.2 λx hx=>by
  have:x.born≠e.born:=λk=>n4.1 (by rw[<-k];exact List.mem_map_of_mem hx);simpa using this
 rw[f1,f2];simp
theorem v4v (hx:ev L x=some (.map (some g)))(hm:MapL V w g m)(hu:P.underlying t=some (.map K E))(hn:Nat.blt d n=true)
    (q:∀gi w',gi=w.heap.size->MapIt V w' gi g m m none->Fr [] w w'->w'.heap.size=gi+1->WL P ops Q rest n ds w' ((d,.pointer (some ⟨gi,0,none⟩))::L)):WL P ops Q (⟨some d,.range t x,ty,pos,after,none⟩::rest) n ds w L:=λa h=>by
  obtain⟨I,c,M,Z,h3,h4,h5⟩:=hm
  have D:=(Array.getElem?_eq_some_iff.1 M).1
  refine z2c h U hn (w':=w.alloc (.mapIter (some g) c #[] c)) (v:=.pointer (some ⟨w.heap.size,0,none⟩)) ?_ (q _ _ U ⟨I,c,#[],?_,Z,h4,h5,heap_alloc_new w _,?_,λp hp=>by cases hp⟩ (Fr.alloc [] w _) sp0 )
  · have O:=h.eval hx
    simp only[execOp,O,Sem.run_bind,run_range_map w t K E g I c hu M,Result.andThen_ok,Sem.run_pure]
  · first|exact(heap_alloc_old w _ D).trans M|exact(heap_alloc_old w _ _ D).trans M
  · rw[<-Z]
    have:(leftOf I #[]).toList=I.toList:=by unfold leftOf;rw[Array.toList_filter];simp
    rw[this]
theorem u5a {gi:Nat}{rem:List (κ×Value)}{cur:Option (κ×Value)}(hx:ev L x=some (.pointer (some ⟨gi,0,none⟩)))(hi:MapIt V w gi g m rem cur)(hn:Nat.blt d n=true)
    (qt:∀(r1:List (κ×Value)) (p:κ×Value) (r2:List (κ×Value)),rem=r1++p::r2->∀w',MapIt V w' gi g m (r1++r2) (some p)->Fr [gi] w w'->w'.heap.size=w.heap.size->WL P ops Q rest n ds w' ((d,.tuple #[.bool true,V p.1,p.2])::L))
    (qf:rem=[]->WL P ops Q rest n ds w ((d,.tuple #[.bool false])::L)):WL P ops Q (⟨some d,.next x false,ty,pos,after,none⟩::rest) n ds w L:=λa h=>by
  have a4:=hi.ne
  obtain⟨I,c,D,h1,h2,h3,h4,h5,h6,h7⟩:=hi
  have a3:=(Array.getElem?_eq_some_iff.1 h5).1
  have a0:=h.eval hx
  rcases run_next_at (P:=P) w ty gi g c c D I c h5 h1 h4 (Nat.le_refl _) with ⟨e0,hr⟩|⟨e,he,w1,hw,hr⟩
  · refine z2c h U hn (w':=w) (v:=.tuple #[.bool false]) (by simp only[execOp,a0,Sem.run_bind,hr,Result.andThen_ok,Sem.run_pure]) (qf ?_)
    have:(leftOf I D).toList=[]:=List.length_eq_zero_iff.1 (by rw[Array.length_toList];exact e0)
    rw[this]at h6
    exact List.map_eq_nil_iff.1 h6.symm
  · obtain⟨l1,l2,hl⟩:=List.append_of_mem he
    rw[hl,List.map_append,List.map_cons]at h6
    obtain⟨r1,r',a6,e1,e2⟩:=List.map_eq_append_iff.1 h6.symm
    obtain⟨p,r2,a7,e3,e4⟩:=List.map_eq_cons_iff.1 e2
    obtain⟨ek,M⟩:=Prod.mk.inj e3
    have a1:e∈I.toList:=by
      have:e∈(leftOf I D).toList:=he
      unfold leftOf at this;rw[Array.toList_filter]at this;exact(List.mem_filter.1 this).1
    have a2:Fr [] w w1:=by rcases hw with rfl|rfl;exact Fr.refl _ _;exact Fr.drew _ _
    have Z:w1.heap.size=w.heap.size:=by rcases hw with rfl|rfl<;>rfl
    have O:Fr [gi] w (ChangeMaps.setBlock w1 gi (.mapIter (some g) c (D.push e.born) c)):=
      (a2.weak sp0).step (S':=[gi]) ⟨rfl,rfl,rfl,by simp[ChangeMaps.setBlock],λk _ hk=>by
        simp only[ChangeMaps.setBlock]
        rw[Array.getElem?_setIfInBounds_ne (by intro e;subst e;simp at hk)]⟩ (by intro k hk _;exact hk)
    refine z2c h U hn (w':=ChangeMaps.setBlock w1 gi (.mapIter (some g) c (D.push e.born) c)) (v:=.tuple #[.bool true,e.key,e.val]) (by simp only[execOp,a0,Sem.run_bind,hr,Result.andThen_ok,Sem.run_pure]) ?_
    rw[<-ek,<-M]
    refine qt r1 p r2 (by rw[a6,a7]) _ ⟨I,c,D.push e.born,?_,h2,h3,h4,?_,?_,λp' a5=>?_⟩ O (by simp[ChangeMaps.setBlock,Z])
    · exact(O.block g (Array.getElem?_eq_some_iff.1 h1).1 (by simpa using a4)).trans h1
    · simp[ChangeMaps.setBlock,Z,a3]
    · rw[x9a h3 hl,List.map_append,List.map_append,<-e1,<-e4]
    · cases a5
      exact⟨e,a1,D,rfl,ek.symm,M.symm⟩
theorem v8q {gi:Nat}{rem:List (κ×Value)}{p:κ×Value}(hx:ev L x=some (.pointer (some ⟨gi,0,none⟩)))(hi:MapIt V w gi g m rem (some p))(hn:Nat.blt d n=true)
    (q:WL P ops Q rest n ds w ((d,.tuple #[V p.1,p.2])::L)):WL P ops Q (⟨some d,.entry x,ty,pos,after,none⟩::rest) n ds w L:=λa h=>by
  obtain⟨Z,c,M,h1,h2,h3,h4,h5,h6,h7⟩:=hi
  obtain⟨e,he,s',rfl,O,D⟩:=h7 p U
  have I:=h.eval hx
  refine z2c h U hn (w':=w) (v:=.tuple #[V p.1,p.2]) ?_ q
  rw[<-O,<-D]
  simp only[execOp,I,Sem.run_bind,run_entry_at (P:=P) w gi g c s' Z c e h5 h1 he h3,Result.andThen_ok,Sem.run_pure]
end
end Go.Lw
namespace Go.G08
open Go.Lw Go.G21
section
variable {κ:Type} [DecidableEq κ] {V:κ->Value} {w w':World} {g:Nat} {m:List (κ×Value)} {S:List Nat}
theorem _root_.Go.Lw.MapL.tf {T:Nat}(h:MapL V w g m)(hf:Fr S w w')(I:OffT w T S):MapL V w' g m:=h.fr hf λM=>by
 obtain⟨T',cs,D,_⟩:=I g M
 exact h.f.ne_blk D U
end
theorem BdO.tf {D I base:Nat}{w w':World}{q:BdQ}{S:List Nat}(h:BdO D I base w q)(hf:Fr S w w')(Z:OffT w D S)(O:OffT w I S):BdO D I base w' q:=
 ⟨⟨z1w h.f.1 hf Z,λp M=>z1w (h.f.2 p M) hf O⟩,⟨z1w h.b.1 hf Z,λp M=>z1w (h.b.2 p M) hf O⟩⟩
structure KpM (Ts:List Nat) (g:Nat) (w w':World):Prop where
  size:w.heap.size<=w'.heap.size
  block:∀k,k<w.heap.size->k≠g->(∀(T:Nat) (cs:List Value),Blk w k T cs->T∉Ts)->w'.heap[k]?=w.heap[k]?
theorem KpM.refl (D:List Nat)(g:Nat)(w:World):KpM D g w w:=⟨Nat.le_refl _,λ_ _ _ _=>rfl⟩
theorem KpM.trans {D:List Nat}{g:Nat}{a b c:World}(h:KpM D g a b)(I:KpM D g b c):KpM D g a c:=
 ⟨Nat.le_trans h.size I.size,λk Z O M=>by
  have e:=h.block k Z O M
  rw[<-e]
  exact I.block k (Nat.lt_of_lt_of_le Z h.size) O λT cs hb=>M T cs (e.symm.trans hb)⟩
theorem KpM.of {D:List Nat}{g:Nat}{w w':World}{S:List Nat}(hf:Fr S w w')(I:∀k∈S,k=g\/∃(T:Nat) (cs:List Value),Blk w k T cs/\T∈D):KpM D g w w':=
 ⟨hf.size,λk hk Z M=>hf.block k hk λhm=>by
  rcases I k hm with e|⟨T,cs,O,hi⟩
  ·exact Z e
  exact M T cs O hi⟩
theorem v3p {w:World}{k T T':Nat}{cs cs':List Value}(h:Blk w k T cs)(D:Blk w k T' cs'):T=T':=by
 have e:=(show w.heap[k]?=some (.cells cs.toArray T (0,0)) from h).symm.trans (show w.heap[k]?=some (.cells cs'.toArray T' (0,0)) from D);simp only[Option.some.injEq,Obj.cells.injEq]at e;exact e.2.1
theorem KpM.blk {D:List Nat}{g:Nat}{w w':World}(h:KpM D g w w'){k T:Nat}{cs:List Value}(hb:Blk w k T cs)(Z:k≠g)(O:T∉D):Blk w' k T cs:=
 (h.block k hb.lt Z λT' I M=>by rw[<-v3p hb M];exact O).trans hb
theorem KpM.map {κ:Type}[DecidableEq κ]{V:κ->Value}{em:List (κ×Value)}{I:List Nat}{g k:Nat}{w w':World}(h:KpM I g w w')(hb:MapL V w k em)(Z:k≠g):MapL V w' k em:=by
 obtain⟨M,c,D,O⟩:=hb;refine⟨M,c,(h.block k (Array.getElem?_eq_some_iff.1 D).1 Z λT cs hb=>?_).trans D,O⟩;have e:=(show w.heap[k]?=some (.cells cs.toArray T (0,0)) from hb).symm.trans D;cases e
theorem KpM.mapF {κ:Type}[DecidableEq κ]{V:κ->Value}{f:κ->Option Value}{I:List Nat}{g k:Nat}{w w':World}(h:KpM I g w w')(hb:MapF V w k f)(Z:k≠g):MapF V w' k f:=by
 obtain⟨M,c,m,D,O⟩:=hb;refine⟨M,c,m,(h.block k (Array.getElem?_eq_some_iff.1 D).1 Z λT cs hb=>?_).trans D,O⟩;have e:=(show w.heap[k]?=some (.cells cs.toArray T (0,0)) from hb).symm.trans D;cases e
theorem y6n {α:Type}{E:Enc α}{T base g:Nat}{w:World}{v:Value}{ys:List α}{D:List Nat}(h:Lw.Own E T base w v ys)(I:T∈D):∀k∈z0v v,k=g\/∃(T:Nat) (cs:List Value),Blk w k T cs/\T∈D:=λk O=>by
 obtain⟨cs,M⟩:=z9b h k O
 exact .inr ⟨T,cs,M,I⟩
theorem u1j {g k T:Nat}{w:World}{cs:List Value}{D:List Nat}(h:Blk w k T cs)(M:T∈D):∀k'∈[k],k'=g\/∃(T:Nat) (cs:List Value),Blk w k' T cs/\T∈D:=λk' I=>by
 rw[List.mem_singleton]at I;subst I
 exact .inr ⟨T,cs,h,M⟩
structure MA where
  gk:Nat
  gy:Nat
  cy:Nat
  gt:Nat
  ct:Nat
  gc:Nat
  wk:World
abbrev MA.YV (a:MA):Value:=.slice (some ⟨a.gy,0,none⟩) 6 a.cy
abbrev MA.TV (a:MA):Value:=.slice (some ⟨a.gt,0,none⟩) 6 a.ct
structure MQ where
  rk:Int
  q:BdQ
  ys:List YQ
  ts:List TQ
  cr:List Cx
  fa:SV
  fl:List LId
abbrev MQ.p (m:MQ):MSt:=⟨m.rk,m.q.p,m.ys.map YQ.p,z2g m.ts,m.cr,m.fl⟩
abbrev u0e (a:MA)(m:MQ):List Value:=[.int .i64 m.rk,.slice m.q.f.1 m.q.f.2.1 m.q.f.2.2,.slice m.q.b.1 m.q.b.2.1 m.q.b.2.2,a.YV,a.TV,.map (some a.gc),.slice m.fa.1 m.fa.2.1 m.fa.2.2]
def crK (p:LId×LId):Value:=.agg #[.int .u8 p.1.y,.int .i64 p.1.n,.int .u8 p.2.y,.int .i64 p.2.n]
def crM (l:List Cx):List ((LId×LId)×Value):=l.map λc=>((c.a,c.b),.int .i64 c.n)
structure MtOk (τ:TyK) (Mt:Nat):Prop where
  o:τ.Ok
  y:Mt≠τ.Y
  t:Mt≠τ.T
  l:Mt≠τ.L
  i:Mt≠τ.I
  p:Mt≠τ.P
  s:Mt≠τ.S
abbrev v4m (τ:TyK)(Mt:Nat):List Nat:=[Mt,τ.Y,τ.T,τ.L,τ.I]
structure FrM (τ:TyK) (Mt:Nat) (wS:World) (a:MA) (w:World):Prop where
  fr:Fr [] wS w
  kp:KpM (v4m τ Mt) a.gc a.wk w
theorem FrM.size {τ:TyK}{Mt:Nat}{wS w:World}{a:MA}(h:FrM τ Mt wS a w):wS.heap.size<=w.heap.size:=h.fr.size
theorem FrM.next {τ:TyK}{Mt:Nat}{wS w w':World}{a:MA}(h:FrM τ Mt wS a w)(hf:Fr [] w w'):FrM τ Mt wS a w':=⟨h.fr.next hf,h.kp.trans (KpM.of hf sp0)⟩
theorem FrM.step {τ:TyK}{Mt:Nat}{wS w w':World}{a:MA}{S:List Nat}(h:FrM τ Mt wS a w)(hf:Fr S w w')(I:∀k∈S,k=a.gc\/∃(T:Nat) (cs:List Value),Blk w k T cs/\T∈v4m τ Mt)(D:∀k∈S,k<wS.heap.size->k∈([]:List Nat)):FrM τ Mt wS a w':=⟨h.fr.step hf D,h.kp.trans (KpM.of hf I)⟩
structure MkM (τ:TyK) (Mt:Nat) (wS:World) (a:MA) (w:World) (m:MQ):Prop where
  k:Blk w a.gk Mt (u0e a m)
  b:BdO τ.S τ.I wS.heap.size w m.q
  y:YsO τ wS.heap.size w a.YV m.ys
  t:TbO τ wS.heap.size w a.TV m.ts
  c:MapL crK w a.gc (crM m.cr)
  f:Lw.Own z1b τ.I wS.heap.size w (slv m.fa) m.fl
  fb:∀s∈m.q.fs++m.q.bs,∀k∈z0v (slv s.1),k∉z0v (slv m.fa)
  ft:∀i,i<6->∀q∈(m.ts.getD i tq0).2,∀k∈z0v (slv q.th),k∉z0v (slv m.fa)
  ly:m.ys.length=6
  lt:m.ts.length=6
  gk:wS.heap.size<=a.gk
  gc:wS.heap.size<=a.gc
  fr:FrM τ Mt wS a w
def MRet (τ:TyK)(Mt:Nat)(wS:World)(a:MA)(x:MR)(r:Value)(w':World):Prop:=
  FrM τ Mt wS a w'/\match x with
    | .error e=>r=.int .i64 e/\e≠0
    | .ok p=>r=.int .i64 0/\∃m,MkM τ Mt wS a w' m/\m.p=p
section
variable {τ:TyK} {Mt:Nat} {wS w w':World} {a:MA} {m:MQ} {j:Nat} {y:YQ}
theorem MRet.err {x:MR}{e:Int}{w':World}(I:x=.error e)(D:e≠0)(hf:FrM τ Mt wS a w'):MRet τ Mt wS a x (.int .i64 e) w':=by subst I;exact⟨hf,rfl,D⟩
theorem MRet.ok {x:MR}{m:MQ}{w':World}(D:x=.ok m.p)(h:MkM τ Mt wS a w' m):MRet τ Mt wS a x (.int .i64 0) w':=by subst D;exact⟨h.fr,rfl,m,h,rfl⟩
theorem MkM.ext (h:MkM τ Mt wS a w m)(hf:Fr [] w w'):MkM τ Mt wS a w' m:=
 ⟨h.k.ext hf,h.b.ext hf,h.y.ext hf,h.t.ext hf,h.c.fr hf sp0,h.f.ext hf,h.fb,h.ft,h.ly,h.lt,h.gk,h.gc,h.fr.next hf⟩
theorem MkM.yarn (h:MkM τ Mt wS a w m)(D:MtOk τ Mt)(M:j<6)(ho:Lw.Own z2x τ.Y wS.heap.size w' a.YV (m.ys.set j y))(hf:Fr [a.gy] w w')(hp:Lw.Own z2d τ.P wS.heap.size w (slv y.pe) y.pes):MkM τ Mt wS a w' { m with ys:=m.ys.set j y }:=by
 have o:∀T,T≠τ.Y->OffT w T [a.gy]:=λT I=>z6e h.y.out (Ne.symm I);refine⟨y2o h.k hf (o _ D.y),BdO.tf h.b hf (o _ (Ne.symm D.o.ys)) (o _ (Ne.symm D.o.yi)),h.y.put (by rw[h.ly];exact M) D.o ho hf hp,h.t.tf hf (o _ (Ne.symm D.o.yt)) (o _ (Ne.symm D.o.yl)) (o _ (Ne.symm D.o.yi)) (o _ (Ne.symm D.o.yp)),h.c.tf hf (o _ D.y),z1w h.f hf (o _ (Ne.symm D.o.yi)),h.fb,h.ft,by rw[List.length_set];exact h.ly,h.lt,h.gk,h.gc,h.fr.step hf (y6n h.y.out (by simp[v4m])) λk O Z=>?_⟩;have:=(h.y.out.blk k O).1;omega
theorem MkM.beds {q:BdQ}{r:Int}(h:MkM τ Mt wS a w m)(D:MtOk τ Mt)(hq:BdO τ.S τ.I wS.heap.size w q)(M:Blk w' a.gk Mt (u0e a { m with q:=q,rk:=r }))(hf:Fr [a.gk] w w')(I:∀s∈q.fs++q.bs,∀k∈z0v (slv s.1),k∉z0v (slv m.fa)):MkM τ Mt wS a w' { m with q:=q,rk:=r }:=by
 have o:∀T,T≠Mt->OffT w T [a.gk]:=λT O=>OffT.one h.k (Ne.symm O);refine⟨M,BdO.tf hq hf (o _ (Ne.symm D.s)) (o _ (Ne.symm D.i)),h.y.tf hf (o _ (Ne.symm D.y)) (o _ (Ne.symm D.p)),h.t.tf hf (o _ (Ne.symm D.t)) (o _ (Ne.symm D.l)) (o _ (Ne.symm D.i)) (o _ (Ne.symm D.p)),h.c.tf hf (o _ (Ne.symm D.y)),z1w h.f hf (o _ (Ne.symm D.i)),I,h.ft,h.ly,h.lt,h.gk,h.gc,h.fr.step hf (u1j h.k (by simp[v4m])) λk M Z=>?_⟩;rw[List.mem_singleton]at M;have:=h.gk;omega
theorem x1l {O I:Nat}{q:BdQ}{v:Value}{ys:List LId}{T base b:Nat}(M:BdO O I b w' q)(hv:Lw.Own z1b T base w v ys)(hb:w.heap.size<=b):∀s∈q.fs++q.bs,∀k∈z0v (slv s.1),k∉z0v v:=λs Z k D hb=>by
 have:=(hv.blk k hb).2
 rcases List.mem_append.1 Z with e|e
 ·have:=((M.f.2 s e).blk k D).1;omega
 have:=((M.b.2 s e).blk k D).1;omega
theorem MkM.fall {w2:World}{u:SV}{l:List LId}(h:MkM τ Mt wS a w m)(D:MtOk τ Mt)(a0:τ.I≠τ.P)(h1:Lw.Own z1b τ.I wS.heap.size w' (slv u) l)(I:Fr (z0v (slv m.fa)) w w')(hx:∀k∈z0v (slv u),k∈z0v (slv m.fa)\/w.heap.size<=k)
    (M:Blk w2 a.gk Mt (u0e a { m with fa:=u,fl:=l })) (f2:Fr [a.gk] w' w2):MkM τ Mt wS a w2 { m with fa:=u,fl:=l }:=by
  have o1:∀T,T≠τ.I->OffT w T (z0v (slv m.fa)):=λT hT=>z6e h.f (Ne.symm hT)
  have k1:=y2o h.k I (o1 _ D.i)
  have O:∀T,T≠Mt->OffT w' T [a.gk]:=λT hT=>OffT.one k1 (Ne.symm hT)
  have dx:∀ {v:Value} {xs:List LId},Lw.Own z1b τ.I wS.heap.size w v xs->(∀k∈z0v v,k∉z0v (slv m.fa))->∀k∈z0v v,k∉z0v (slv u):=λho hd k M hb=>by
    rcases hx k hb with e|e
    · exact hd k M e
    · have:=(ho.blk k M).2;omega
  have fi:∀ {v:Value} {xs:List LId},Lw.Own z1b τ.I wS.heap.size w v xs->(∀k∈z0v v,k∉z0v (slv m.fa))->Lw.Own z1b τ.I wS.heap.size w2 v xs:=λho hd=>z1w (ho.fr I λk M hb=>hd k hb M) f2 (O _ (Ne.symm D.i))
  have a2:∀s∈m.q.fs,Lw.Own z1b τ.I wS.heap.size w2 (slv s.1) s.2:=λs Z=>fi (h.b.f.2 s Z) (h.fb s (List.mem_append.2 (.inl Z)))
  have a1:∀s∈m.q.bs,Lw.Own z1b τ.I wS.heap.size w2 (slv s.1) s.2:=λs Z=>fi (h.b.b.2 s Z) (h.fb s (List.mem_append.2 (.inr Z)))
  refine⟨M,⟨⟨z1w (z1w h.b.f.1 I (o1 _ D.o.si)) f2 (O _ (Ne.symm D.s)),a2⟩,⟨z1w (z1w h.b.b.1 I (o1 _ D.o.si)) f2 (O _ (Ne.symm D.s)),a1⟩⟩,
    (h.y.tf I (o1 _ D.o.yi) (o1 _ (Ne.symm a0))).tf f2 (O _ (Ne.symm D.y)) (O _ (Ne.symm D.p)),
    ⟨z1w (z1w h.t.out I (o1 _ D.o.ti)) f2 (O _ (Ne.symm D.t)),λi hi=>z1w (z1w (h.t.ins i hi) I (o1 _ D.o.li)) f2 (O _ (Ne.symm D.l)),h.t.off,λi hi q hq=>⟨fi (h.t.lps i hi q hq).1 (h.ft i (by rw[<-h.lt];exact hi) q hq),z1w (z1w (h.t.lps i hi q hq).2 I (o1 _ (Ne.symm a0))) f2 (O _ (Ne.symm D.p))⟩⟩,
    (h.c.tf I (o1 _ D.i)).tf f2 (O _ (Ne.symm D.y)),z1w h1 f2 (O _ (Ne.symm D.i)),λs Z=>?_,λi hi q hq=>dx (h.t.lps i (by rw[h.lt];exact hi) q hq).1 (h.ft i hi q hq),h.ly,h.lt,h.gk,h.gc,(h.fr.step I (y6n h.f (by simp[v4m])) λk M a3=>?_).step f2 (u1j k1 (by simp[v4m])) λk M a3=>?_⟩
  · rcases List.mem_append.1 Z with e|e
    · exact dx (h.b.f.2 s e) (h.fb s Z)
    · exact dx (h.b.b.2 s e) (h.fb s Z)
  · have:=(h.f.blk k M).1;omega
  · rw[List.mem_singleton]at M;have:=h.gk;omega
theorem MkM.mark (h:MkM τ Mt wS a w m):MkM τ Mt wS { a with wk:=w } w m:=⟨h.k,h.b,h.y,h.t,h.c,h.f,h.fb,h.ft,h.ly,h.lt,h.gk,h.gc,⟨h.fr.fr,KpM.refl _ _ _⟩⟩
theorem MkM.unmark (h:MkM τ Mt wS { a with wk:=w } w' m)(D:FrM τ Mt wS a w):MkM τ Mt wS a w' m:=⟨h.k,h.b,h.y,h.t,h.c,h.f,h.fb,h.ft,h.ly,h.lt,h.gk,h.gc,⟨h.fr.fr,D.kp.trans h.fr.kp⟩⟩
def u8r (x:MR):Int:=match x with
  | .error e=>e
  | .ok _=>0
theorem MRet.split {x:MR}{r:Value}(h:MRet τ Mt wS a x r w'):r=.int .i64 (u8r x)/\FrM τ Mt wS a w'/\∃M,u8r x=0->MkM τ Mt wS a w' M/\x=.ok M.p:=by
 obtain⟨I,D⟩:=h;cases x with
 | error e=>exact⟨D.1,I,⟨0,⟨sv0,sv0,[],[]⟩,[],[],[],sv0,[]⟩,λO=>absurd O D.2⟩
 | ok p=>exact⟨D.1,I,D.2.choose,λ_=>⟨D.2.choose_spec.1,congrArg Except.ok D.2.choose_spec.2.symm⟩⟩
theorem y0k {x:MR}(h:u8r x≠0):x=.error (u8r x):=by cases x with
 | error e=>rfl
 | ok p=>exact absurd U h
theorem y5h (b n r:Int):-400<=z4v b n r/\z4v b n r<=400:=by
 unfold z4v;split;omega;rename_i h;have D:z4g b n=0:=Classical.not_not.1 λe=>h (.inl e);have I:-4<=r/\r<=4:=Classical.not_not.1 λe=>h (.inr e);have:=z3a D;split<;>omega
def OwnIf {α:Type}(c:Prop)(E:Enc α)(T base:Nat)(w:World)(v:Value)(ys:List α):Prop:=c->Lw.Own E T base w v ys
theorem OwnIf.fr {α:Type}{c:Prop}{E:Enc α}{T base:Nat}{w w':World}{v:Value}{ys:List α}{S:List Nat}(h:OwnIf c E T base w v ys)(hf:Fr S w w')(hn:c->∀k∈S,k∉z0v v:=by simp[z0v]<;>omega):OwnIf c E T base w' v ys:=λD=>(h D).fr hf (hn D)
theorem OwnIf.ext {α:Type}{c:Prop}{E:Enc α}{T base:Nat}{w w':World}{v:Value}{ys:List α}(h:OwnIf c E T base w v ys)(hf:Fr [] w w'):OwnIf c E T base w' v ys:=λD=>(h D).ext hf
theorem u8l (m:MQ)(y:Int):m.p.y y=(m.ys.getD (y-1).toNat yq0).p:=by
 unfold MSt.y;rw[List.getD,List.getD,List.getElem?_map];cases m.ys[(y-1).toNat]?<;>rfl
theorem y0g {y:Int}(m:MQ)(q:YQ)(D:(y-1).toNat=j):{ m with ys:=m.ys.set j q }.p=m.p.setY y q.p:=by
 subst D;unfold MSt.setY MQ.p;simp only[List.map_set]
end
end Go.G08
namespace Go.Proofs.YtlfdhllfmoplgaaGreatDoor
open Go.Lw Go.G21 Go.G08 _root_.Go.Proofs.Tryz
theorem x0v (q:YQ)(w0:World)(hp:Sl z2d w0 (slv q.pe) q.pes):Rets prog 128 #[.agg #[.bool q.inn,.int .i64 q.pl,.int .i64 q.ct,.bool q.nw,.slice q.pe.1 q.pe.2.1 q.pe.2.2]] w0 λr w'=>∃q':YQ,r=.tuple #[.agg #[.bool q'.inn,.int .i64 q'.pl,.int .i64 q'.ct,.bool q'.nw,.slice q'.pe.1 q'.pe.2.1 q'.pe.2.2],.int .i64 (lvE q.p)]/\(lvE q.p=0->q'=⟨false,0,q.ct,false,sv0,[]⟩)/\Fr [] w0 w':=by
 have a4:=z2e hp;have a1:=hp.len_le;unfold maxLen at a1;refine we [(0,.agg #[.bool q.inn,.int .i64 q.pl,.int .i64 q.ct,.bool q.nw,.slice q.pe.1 q.pe.2.1 q.pe.2.2])] func128 U ntmps128 U (.cons U .nil) ?_;have a0:=hp;refine sr (bx U (λg1 w1 a2 I q1 z1=>(al z5m U (λg2 w2 a3 D q2 z2=>(asg U (nn (sq (sr ?_))))))));replace I:=I.ext q2;refine z0m U I z2y ?_;replace hp:=a0.ext (q1.n1 q2);refine cl (ev1 U) j0s (z8s q _ hp) U ?_;rintro _ w3 ⟨rfl,O⟩;refine asg U (nn (sr (mv U (ne' U (nn (cd U (λZ=>?_) (λZ=>?_)))))));refine sr (z1s (cs:=[_,_,_,_,_]) z0g z8l z0q U ?_);refine mv U ?_;replace D:=D.ext O;refine z0j (vs:=[_,_,_,_,_]) U D z3b (λw4 D q4 z4=>(asg U (nn (rt (tr (rCT results128 U D z2y U ?_))))));have M:lvE q.p=ynE q.p:=by unfold lvE;rw[if_pos Z]
 exact⟨_,rfl,yq0,by rw[M];rfl,(λh=>absurd h (by rw[M];exact Z)),(q1.z3 q2 O q4)⟩;refine sk (tn (sq (sr (fad U z7p ?_))));replace I:=I.ext O;refine z0i U I U na4 (nt' U (nn (cd U (λc1=>?_) (λc1=>?_))));refine sr (z1s (cs:=[_,_,_,_,_]) z0g z8l z0q U ?_);replace D:=D.ext O;refine z0j (vs:=[_,_,_,_,_]) U D z3b (λw5 D q5 z5=>(asg U (nn (rt (tr (rCT results128 U D z2y U ?_))))));have M:lvE q.p=12:=by unfold lvE;rw[if_neg Z,if_pos (by simpa using c1)]
 exact⟨_,rfl,yq0,by rw[M];rfl,(λh=>absurd h (by rw[M];decide)),(q1.z3 q2 O q5)⟩;refine sk (tn (sr (fad U z7w (z0i U I U na3 (z1s (cs:=[_,_,_,_,_]) (ev1 U) z8l (z0f U z0q) U ?_)))));replace D:=D.ext O;refine z0j (vs:=[_,_,_,_,_]) U D z3b (λw6 D q6 z6=>(asg U (nn (rt (rCT results128 U D z2y U ?_)))));have M:lvE q.p=0:=by unfold lvE;rw[if_neg Z,if_neg (by simpa using c1)]
 exact⟨_,rfl,⟨false,0,q.ct,false,sv0,[]⟩,by rw[M];rfl,(λ_=>rfl),(q1.z3 q2 O q6)⟩
theorem u9v (v:Value)(l:List Int)(w0:World)(I:Sl Enc.i64 w0 v l)(hl:l.length<=1000):Rets prog 137 #[v] w0 λr w'=>r=.int .i64 (orZ l)/\Fr [] w0 w':=by
 obtain⟨A,c,rfl,a1,hM,hA⟩:=id I;clear hA;unfold maxLen at hM;refine we [(0,.slice A l.length c)] func137 U ntmps137 U (.cons U .nil) ?_;have O:=I;refine sr (asg U (nn (sr (asg U (nn (sq (sr (mv U (lnS U underlying22 (mv U (nn (bl (lpK (ι:=Nat) [(3,_),(6,_),(7,_)] (λi=>[(8,.int .i64 (i:Int))]) (λi w'=>Fr [] w0 w'/\i<=l.length/\∀j,j<i->l.getD j 0=0) (λi=>l.length-i) 0 (.c4 U U U U) ⟨Fr.refl _ _,⟨Nat.zero_le _,λj h=>absurd h oo⟩⟩ ?_)))))))))))));rintro i w1 ⟨M,⟨hi,Z⟩⟩;refine kpC [(3,_),(6,_),(7,_),(8,_)] (.c4 U U U U) (sr (lt' U (nn (sq (cd U (λc0=>?_) (λc0=>?_))))));refine sk (tn (sq (bl (sr ?_))));replace I:=O.ext M;refine z1d (0) U I U z9t z1j (λa0 D=>?_);refine z1k U (D _ I) na3 (asg U (nn (sr (mv U (mv U (ne' U (nn (cd U (λc1=>?_) (λc1=>?_)))))))));refine sr (mv U (asg U (kpL [(2,_)] (.cons U .nil) (nn (rt (rb (tr (tr (rb (tr (r1 results137 U ?_)))))))))));exact⟨_,rfl,congrArg (Value.int .i64) (v0o oo Z oo).symm,M⟩;refine sk (bn' (tn (rg (z0x U (wi6 oo) (mv U (nl ?_))))));exact lpE (i+1) (.c4 U U U U) ⟨M,⟨oo,λj h=>by
  by_cases e:j=i;subst e;omega;exact Z j oo⟩⟩ oo
 obtain rfl:i=l.length:=by omega
 refine ex (te (te (xh (tn (sr (mv U (asg U (kpL [(2,_)] (.cons U .nil) (nn (rt (r1 results137 U ?_)))))))))));exact⟨_,rfl,congrArg (Value.int .i64) (y7r Z).symm,M⟩
theorem y0o (Z x2:LId)(w0:World):Rets prog 76 #[.agg #[.int .u8 Z.y,.int .i64 Z.n],.agg #[.int .u8 x2.y,.int .i64 x2.n]] w0 λr w'=>r=.int .i64 (z6k Z x2)/\Fr [] w0 w':=by
 refine we [(0,.agg #[.int .u8 Z.y,.int .i64 Z.n]),(1,.agg #[.int .u8 x2.y,.int .i64 x2.n])] func76 U ntmps76 U (.c2 U U) (sr (bx U (λg2 w1 a3 M q1 z1=>(bx U (λg3 w2 a4 O q2 z2=>(asg U (nn (sq ?_))))))));intro a h;refine z0h none (λwb w'=>Fr [] wb w') z2o ?_;intro w3 q3;replace M:=M.ext (q2.n1 q3);replace O:=O.ext q3;have hC:Fr [] w3 w3:=Fr.refl _ _;have D:=M;have I:=O;refine z0c 0 h U z8a U λa h=>z0l 1 h U (λ_ hw=>D.ext hw) U na5 U λa h=>z0c 2 h U z8a U λa h=>z0l 3 h U (λ_ hw=>I.ext hw) U na5 U λa h=>z0c 5 h U z9q U λa h=>z0l 6 h U (λ_ hw=>D.ext hw) U na3 U λa h=>z0c 7 h U z9q U λa h=>z0l 8 h U (λ_ hw=>I.ext hw) U na3 U λa h=>z0d 4 U (z0n h (z0a U (z0a U z0g)) (mkC func138) (j0k _ _ _) ?_);rintro _ w4 ⟨rfl,q4⟩ a h;replace hC:=hC.next q4;refine z0b (z0d 9 U (z0n h (z0a U (z0a U z0g)) (mkC func122) (x9z _ _ _) ?_));rintro _ w5 ⟨rfl,q5⟩ a h;replace M:=M.ext (q4.n1 q5);replace O:=O.ext (q4.n1 q5);replace hC:=hC.next q5;refine z0b (z0d 10 U (z2j ([z9s Z.y x2.y,z9s Z.n x2.n]) h (z0a U (z0a U z0g)) U z9t λa1 w6 hg a2 q6 hz a h=>?_));have a0:g2<a1:=by have:=M.lt;omega
 have a0:g3<a1:=by have:=O.lt;omega
 replace hC:=hC.next q6;refine z0b (z0d 11 U (z0n h (z0a U z0g) (mkC func137) (u9v _ [z9s Z.y x2.y,z9s Z.n x2.n] _ a2.sl sp0) ?_));rintro _ w7 ⟨rfl,q7⟩ a h;replace hC:=hC.next q7;refine z0b (z0d 12 U (z0t h U λa h=>?_));refine z0b (z0r ?_);clear hC D I;refine bk (h.sub (L':=[(4,_)]) (.cons U .nil)) (tn (rt (r1 results76 U ?_)));exact⟨_,rfl,congrArg (Value.int .i64) (x5y Z x2),(q1.n6 q2 q3 q4 q5 q6 q7)⟩
theorem y3o:ElemOf prog 26 104 z2x 56:=ElemOf.mk' (z:=(.agg #[.bool false,.int .i64 0,.int .i64 0,.bool false,.slice none 0 0])) underlying26 kr U
theorem z3g:z1c prog 145 2 3:=λ_ _=>kr
theorem y3i:z1y prog 26:=λ_=>kr
abbrev τd:TyK:=⟨104,123,155,64,107,30,32⟩
theorem τd_ok:τd.Ok:=by constructor<;>decide
theorem mtd:MtOk τd 145:=⟨τd_ok,dd,dd,dd,dd,dd,dd⟩
theorem u7b (wS:World)(ka:MA)(m:MQ)(o:MOp)(w0:World)(hM:MkM τd 145 wS ka w0 m)(hy:1<=o.y/\o.y<=6):Rets prog 66 #[.pointer (some ⟨ka.gk,0,none⟩),opV o] w0 λr w'=>MRet τd 145 wS ka (inM m.p o) r w':=by
 have d3:=hM.fr.size;have Z:=hM.k;have c1:=Z.lt;have d0:=hM.ly;have c9:=hM.lt;have b8:=(hM.y.out.blk ka.gy (by simp[z0v])).2;obtain⟨j,hj,d1⟩:∃j:Nat,j<6/\o.y=(j:Int)+1:=⟨(o.y-1).toNat,oo,oo⟩;have b1:(o.y-1).toNat=j:=by omega
 have a9:m.p.y o.y=(m.ys.getD j yq0).p:=by rw[u8l,b1]
 refine we [(0,.pointer (some ⟨ka.gk,0,none⟩)),(1,opV o)] func66 U ntmps66 U (.c2 U U) ?_;have a4:=hM;refine sr (bx U (λg3 w1 b9 D q1 z1=>(asg U (nn (sq ?_)))));replace hM:=a4.ext q1;intro a h;refine z0h none (λwb w'=>Fr [] wb w') z2o ?_;intro w2 q2;have z2:=q2.size;replace hM:=hM.ext q2;replace Z:=Z.ext (q1.n1 q2);replace D:=D.ext q2;have hC:Fr [] w2 w2:=Fr.refl _ _;have a0:=hM;have O:=Z;have I:=D;refine z0e 0 h U λa h=>z0o 1 h U λa h=>z0c 2 h U z3g U λa h=>z0l 3 h U (λ_ hw=>O.ext hw) U y3i U λa h=>z0c 4 h U z3q U λa h=>z0l 5 h U (λ_ hw=>I.ext hw) U na5 U λa h=>z2v 6 h U (by first|exact IntWalk.u8_in _ oo|rfl) U λa h=>z1e (p:=j) (yq0) 7 h U hM.y.out.sl U y3o U λb7 b3 a h=>z1x (cs:=z2x.enc (m.ys.getD j yq0)) 8 h wn U (λ_ hw=>b3 _ (a0.ext hw).y.out.sl) z2y U λa h=>z0c 9 h U z7y U λa h=>z0l 10 h U (λ_ hw=>I.ext hw) U y9j U λa h=>?_;refine z1u 11 15 kr U ?_ ?_;refine z0n h (z0a U (z0a U z0g)) (mkC func127) (y9n (m.ys.getD j yq0) o.d _ (hM.y.ins j oo).sl) ?_;rintro _ w3 ⟨qn,rfl,a7,q3⟩ a h;have z3:=q3.size;replace Z:=Z.ext q3;replace D:=D.ext q3;replace hC:=hC.next q3;refine z0b (z0e 12 h U λa h=>z0k 13 h U λa h=>z0k 14 h U λa h=>z0d 15 U (z0u h z5m U λw4 M q4 hz a h=>?_));obtain⟨a3,hg⟩:∃g,g=w3.heap.size:=⟨_,rfl⟩;rw[<-hg]at M h hz;have b5.gk_5:ka.gk<a3:=by have:=Z.lt;omega
 have b2:g3<a3:=by have:=D.lt;omega
 have z4:=q4.size;replace hM:=hM.ext (q3.n1 q4);replace Z:=Z.ext q4;replace D:=D.ext q4;replace hC:=hC.next q4;refine z0b (z0d 16 U (z0p h U M U z3b ?_ (h1:=(by first|(simp[Value.oneCell',S];done)|exact z2x.one (m.ys.getD j yq0)))));clear h a;intro w5 a6 q5 hz a h;have z5:=q5.size;replace Z:=Z.fr q5;replace D:=D.fr q5;replace hC:=hC.sp q5;clear M hz;have M:Blk w5 a3 _ [_,_,_,_,_]:=a6;clear a6;refine z0b (z0d 17 U (z0t h U λa h=>?_));refine z0b (z0r ?_);clear hC a0 O I;refine bk (h.sub (L':=[(0,_),(3,_),(5,_),(6,_)]) (.c4 U U U U)) (tn (sq (sr (mv U (eq' U (nn (cd U (λc0=>?_) (λc0=>?_))))))));obtain rfl:=a7 c0;replace hM:=a4.ext (q1.z4 q2 q3 q4 q5);intro a h;refine z0h (some 9) (λwb w'=>Fr [] wb w') z2o ?_;intro w6 q6;have z6:=q6.size;replace hM:=hM.ext q6;replace Z:=Z.ext q6;replace D:=D.ext q6;replace M:=M.ext q6;have hC:Fr [] w6 w6:=Fr.refl _ _;have a0:=hM;have O:=Z;have I:=D;have a1:=M;refine z0e 0 h U λa h=>z0o 1 h U λa h=>z0c 2 h U z3g U λa h=>z0l 3 h U (λ_ hw=>O.ext hw) U y3i U λa h=>z0c 4 h U z3q U λa h=>z0l 5 h U (λ_ hw=>I.ext hw) U na5 U λa h=>z2v 6 h U (by first|exact IntWalk.u8_in _ oo|rfl) U λa h=>z0w 7 h U (λ_ hw=>a1.ext hw) z2y U λa h=>z1m 8 kr kr kr hC (p:=j) h wn U y3o oo oo oo U U λa h=>z0d 9 U (z0z (i:=j) (⟨true,if o.d=1 then 179 else -13,(m.ys.getD j yq0).ct,true,sv0,[]⟩:YQ) h U hM.y.out (by rw[hM.ly];exact hj) U z3b λw7 a2 q7 _hz a h=>?_);replace hM:=hM.yarn mtd hj a2 q7 (Own.nil _);have a4:=hM;clear a2;have z7:=q7.size;replace D:=D.fr q7;replace M:=M.fr q7;have Z:=hM.k;clear _hz;refine z1n (z0r ?_);clear hC a0 O I a1;refine bk (h.sub (L':=[(6,_)]) (.cons U .nil)) (tn (sr (mv U (asg U (nn (rt (r1 results66 U ?_)))))));exact⟨_,rfl,by rw[c0];exact MRet.ok (by unfold inM;rw[a9,if_neg (λe=>e c0)];exact congrArg Except.ok (y0g m (⟨true,if o.d=1 then 179 else -13,(m.ys.getD j yq0).ct,true,sv0,[]⟩:YQ) b1).symm) hM⟩;refine sk (tn (sr (mv U (asg U (kpL [(4,_)] (.cons U .nil) (nn (rt (r1 results66 U ?_))))))));replace hM:=a4.ext (q1.z4 q2 q3 q4 q5);exact⟨_,rfl,MRet.err (by unfold inM;rw[a9,if_pos c0]) c0 hM.fr⟩;refine z0u h z5m U λw8 M q8 hz a h=>?_;obtain⟨a3,hg⟩:∃g,g=w2.heap.size:=⟨_,rfl⟩;rw[<-hg]at M h hz;have b5.gk_5:ka.gk<a3:=by have:=Z.lt;omega
 have b2:g3<a3:=by have:=D.lt;omega
 have z8:=q8.size;replace hM:=hM.ext q8;replace hC:=hC.next q8;refine z0b (z0d 11 U (z0n h (z0a U (z0a U z0g)) (mkC func127) (y9n (m.ys.getD j yq0) o.d _ (hM.y.ins j oo).sl) ?_));rintro _ w9 ⟨qn,rfl,a7,q9⟩ a h;have z9:=q9.size;replace hM:=hM.ext q9;replace Z:=Z.ext (q8.n1 q9);replace D:=D.ext (q8.n1 q9);replace M:=M.ext q9;replace hC:=hC.next q9;refine z0b (z0e 12 h U λa h=>z0k 13 h U λa h=>z0k 14 h U λa h=>z0d 16 U (z0p h U M U z3b ?_ (h1:=(by first|(simp[Value.oneCell',S];done)|exact z2x.one (m.ys.getD j yq0)))));clear h a;intro b6 a6 a5 hz a h;have d5:=a5.size;replace Z:=Z.fr a5;replace D:=D.fr a5;replace hC:=hC.sp a5;clear M hz;have M:Blk b6 a3 _ [_,_,_,_,_]:=a6;clear a6;refine z0b (z0d 17 U (z0t h U λa h=>?_));refine z0b (z0r ?_);clear hC a0 O I;refine bk (h.sub (L':=[(0,_),(3,_),(5,_),(6,_)]) (.c4 U U U U)) (tn (sq (sr (mv U (eq' U (nn (cd U (λc0=>?_) (λc0=>?_))))))));obtain rfl:=a7 c0;replace hM:=a4.ext (q1.z4 q2 q8 q9 a5);intro a h;refine z0h (some 9) (λwb w'=>Fr [] wb w') z2o ?_;intro b4 a8;have d6:=a8.size;replace hM:=hM.ext a8;replace Z:=Z.ext a8;replace D:=D.ext a8;replace M:=M.ext a8;have hC:Fr [] b4 b4:=Fr.refl _ _;have a0:=hM;have O:=Z;have I:=D;have a1:=M;refine z0e 0 h U λa h=>z0o 1 h U λa h=>z0c 2 h U z3g U λa h=>z0l 3 h U (λ_ hw=>O.ext hw) U y3i U λa h=>z0c 4 h U z3q U λa h=>z0l 5 h U (λ_ hw=>I.ext hw) U na5 U λa h=>z2v 6 h U (by first|exact IntWalk.u8_in _ oo|rfl) U λa h=>z0w 7 h U (λ_ hw=>a1.ext hw) z2y U λa h=>z1m 8 kr kr kr hC (p:=j) h wn U y3o oo oo oo U U λa h=>z0d 9 U (z0z (i:=j) (⟨true,if o.d=1 then 179 else -13,(m.ys.getD j yq0).ct,true,sv0,[]⟩:YQ) h U hM.y.out (by rw[hM.ly];exact hj) U z3b λd4 a2 b0 _hz a h=>?_);replace hM:=hM.yarn mtd hj a2 b0 (Own.nil _);have a4:=hM;clear a2;have d7:=b0.size;replace D:=D.fr b0;replace M:=M.fr b0;have Z:=hM.k;clear _hz;refine z1n (z0r ?_);clear hC a0 O I a1;refine bk (h.sub (L':=[(6,_)]) (.cons U .nil)) (tn (sr (mv U (asg U (nn (rt (r1 results66 U ?_)))))));exact⟨_,rfl,by rw[c0];exact MRet.ok (by unfold inM;rw[a9,if_neg (λe=>e c0)];exact congrArg Except.ok (y0g m (⟨true,if o.d=1 then 179 else -13,(m.ys.getD j yq0).ct,true,sv0,[]⟩:YQ) b1).symm) hM⟩;refine sk (tn (sr (mv U (asg U (kpL [(4,_)] (.cons U .nil) (nn (rt (r1 results66 U ?_))))))));replace hM:=a4.ext (q1.z4 q2 q8 q9 a5);exact⟨_,rfl,MRet.err (by unfold inM;rw[a9,if_pos c0]) c0 hM.fr⟩
theorem u4x (wS:World)(ka:MA)(m:MQ)(o:MOp)(w0:World)(hM:MkM τd 145 wS ka w0 m)(hy:1<=o.y/\o.y<=6):Rets prog 67 #[.pointer (some ⟨ka.gk,0,none⟩),opV o] w0 λr w'=>MRet τd 145 wS ka (x8l m.p o) r w':=by
 have d3:=hM.fr.size;have Z:=hM.k;have c1:=Z.lt;have d0:=hM.ly;have c9:=hM.lt;have b8:=(hM.y.out.blk ka.gy (by simp[z0v])).2;obtain⟨j,hj,d1⟩:∃j:Nat,j<6/\o.y=(j:Int)+1:=⟨(o.y-1).toNat,oo,oo⟩;have b1:(o.y-1).toNat=j:=by omega
 have a9:m.p.y o.y=(m.ys.getD j yq0).p:=by rw[u8l,b1]
 refine we [(0,.pointer (some ⟨ka.gk,0,none⟩)),(1,opV o)] func67 U ntmps67 U (.c2 U U) ?_;have a4:=hM;refine sr (bx U (λg3 w1 b9 D q1 z1=>(asg U (nn (sq ?_)))));replace hM:=a4.ext q1;intro a h;refine z0h none (λwb w'=>Fr [] wb w') z2o ?_;intro w2 q2;have z2:=q2.size;replace hM:=hM.ext q2;replace Z:=Z.ext (q1.n1 q2);replace D:=D.ext q2;have hC:Fr [] w2 w2:=Fr.refl _ _;have a0:=hM;have O:=Z;have M:=D;refine z0e 0 h U λa h=>z0o 1 h U λa h=>z0c 2 h U z3g U λa h=>z0l 3 h U (λ_ hw=>O.ext hw) U y3i U λa h=>z0c 4 h U z3q U λa h=>z0l 5 h U (λ_ hw=>M.ext hw) U na5 U λa h=>z2v 6 h U (by first|exact IntWalk.u8_in _ oo|rfl) U λa h=>z1e (p:=j) (yq0) 7 h U hM.y.out.sl U y3o U λb7 b3 a h=>z1x (cs:=z2x.enc (m.ys.getD j yq0)) 8 h wn U (λ_ hw=>b3 _ (a0.ext hw).y.out.sl) z2y U λa h=>z1u 9 13 kr U ?_ ?_;refine z0n h (z0a U z0g) (mkC func128) (x0v (m.ys.getD j yq0) _ (hM.y.ins j oo).sl) ?_;rintro _ w3 ⟨qn,rfl,a7,q3⟩ a h;have z3:=q3.size;replace Z:=Z.ext q3;replace D:=D.ext q3;replace hC:=hC.next q3;refine z0b (z0e 10 h U λa h=>z0k 11 h U λa h=>z0k 12 h U λa h=>z0d 13 U (z0u h z5m U λw4 I q4 hz a h=>?_));obtain⟨a3,hg⟩:∃g,g=w3.heap.size:=⟨_,rfl⟩;rw[<-hg]at I h hz;have b5.gk_5:ka.gk<a3:=by have:=Z.lt;omega
 have b2:g3<a3:=by have:=D.lt;omega
 have z4:=q4.size;replace hM:=hM.ext (q3.n1 q4);replace Z:=Z.ext q4;replace D:=D.ext q4;replace hC:=hC.next q4;refine z0b (z0d 14 U (z0p h U I U z3b ?_ (h1:=(by first|(simp[Value.oneCell',S];done)|exact z2x.one (m.ys.getD j yq0)))));clear h a;intro w5 a6 q5 hz a h;have z5:=q5.size;replace Z:=Z.fr q5;replace D:=D.fr q5;replace hC:=hC.sp q5;clear I hz;have I:Blk w5 a3 _ [_,_,_,_,_]:=a6;clear a6;refine z0b (z0d 15 U (z0t h U λa h=>?_));refine z0b (z0r ?_);clear hC a0 O M;refine bk (h.sub (L':=[(0,_),(3,_),(5,_),(6,_)]) (.c4 U U U U)) (tn (sq (sr (mv U (eq' U (nn (cd U (λc0=>?_) (λc0=>?_))))))));obtain rfl:=a7 c0;replace hM:=a4.ext (q1.z4 q2 q3 q4 q5);intro a h;refine z0h (some 9) (λwb w'=>Fr [] wb w') z2o ?_;intro w6 q6;have z6:=q6.size;replace hM:=hM.ext q6;replace Z:=Z.ext q6;replace D:=D.ext q6;replace I:=I.ext q6;have hC:Fr [] w6 w6:=Fr.refl _ _;have a0:=hM;have O:=Z;have M:=D;have a1:=I;refine z0e 0 h U λa h=>z0o 1 h U λa h=>z0c 2 h U z3g U λa h=>z0l 3 h U (λ_ hw=>O.ext hw) U y3i U λa h=>z0c 4 h U z3q U λa h=>z0l 5 h U (λ_ hw=>M.ext hw) U na5 U λa h=>z2v 6 h U (by first|exact IntWalk.u8_in _ oo|rfl) U λa h=>z0w 7 h U (λ_ hw=>a1.ext hw) z2y U λa h=>z1m 8 kr kr kr hC (p:=j) h wn U y3o oo oo oo U U λa h=>z0d 9 U (z0z (i:=j) (⟨false,0,(m.ys.getD j yq0).ct,false,sv0,[]⟩:YQ) h U hM.y.out (by rw[hM.ly];exact hj) U z3b λw7 a2 q7 _hz a h=>?_);replace hM:=hM.yarn mtd hj a2 q7 (Own.nil _);have a4:=hM;clear a2;have z7:=q7.size;replace D:=D.fr q7;replace I:=I.fr q7;have Z:=hM.k;clear _hz;refine z1n (z0r ?_);clear hC a0 O M a1;refine bk (h.sub (L':=[(6,_)]) (.cons U .nil)) (tn (sr (mv U (asg U (nn (rt (r1 results67 U ?_)))))));exact⟨_,rfl,by rw[c0];exact MRet.ok (by unfold x8l;rw[a9,if_neg (λe=>e c0)];exact congrArg Except.ok (y0g m (⟨false,0,(m.ys.getD j yq0).ct,false,sv0,[]⟩:YQ) b1).symm) hM⟩;refine sk (tn (sr (mv U (asg U (kpL [(4,_)] (.cons U .nil) (nn (rt (r1 results67 U ?_))))))));replace hM:=a4.ext (q1.z4 q2 q3 q4 q5);exact⟨_,rfl,MRet.err (by unfold x8l;rw[a9,if_pos c0]) c0 hM.fr⟩;refine z0u h z5m U λw8 I q8 hz a h=>?_;obtain⟨a3,hg⟩:∃g,g=w2.heap.size:=⟨_,rfl⟩;rw[<-hg]at I h hz;have b5.gk_5:ka.gk<a3:=by have:=Z.lt;omega
 have b2:g3<a3:=by have:=D.lt;omega
 have z8:=q8.size;replace hM:=hM.ext q8;replace hC:=hC.next q8;refine z0b (z0d 9 U (z0n h (z0a U z0g) (mkC func128) (x0v (m.ys.getD j yq0) _ (hM.y.ins j oo).sl) ?_));rintro _ w9 ⟨qn,rfl,a7,q9⟩ a h;have z9:=q9.size;replace hM:=hM.ext q9;replace Z:=Z.ext (q8.n1 q9);replace D:=D.ext (q8.n1 q9);replace I:=I.ext q9;replace hC:=hC.next q9;refine z0b (z0e 10 h U λa h=>z0k 11 h U λa h=>z0k 12 h U λa h=>z0d 14 U (z0p h U I U z3b ?_ (h1:=(by first|(simp[Value.oneCell',S];done)|exact z2x.one (m.ys.getD j yq0)))));clear h a;intro b6 a6 a5 hz a h;have d5:=a5.size;replace Z:=Z.fr a5;replace D:=D.fr a5;replace hC:=hC.sp a5;clear I hz;have I:Blk b6 a3 _ [_,_,_,_,_]:=a6;clear a6;refine z0b (z0d 15 U (z0t h U λa h=>?_));refine z0b (z0r ?_);clear hC a0 O M;refine bk (h.sub (L':=[(0,_),(3,_),(5,_),(6,_)]) (.c4 U U U U)) (tn (sq (sr (mv U (eq' U (nn (cd U (λc0=>?_) (λc0=>?_))))))));obtain rfl:=a7 c0;replace hM:=a4.ext (q1.z4 q2 q8 q9 a5);intro a h;refine z0h (some 9) (λwb w'=>Fr [] wb w') z2o ?_;intro b4 a8;have d6:=a8.size;replace hM:=hM.ext a8;replace Z:=Z.ext a8;replace D:=D.ext a8;replace I:=I.ext a8;have hC:Fr [] b4 b4:=Fr.refl _ _;have a0:=hM;have O:=Z;have M:=D;have a1:=I;refine z0e 0 h U λa h=>z0o 1 h U λa h=>z0c 2 h U z3g U λa h=>z0l 3 h U (λ_ hw=>O.ext hw) U y3i U λa h=>z0c 4 h U z3q U λa h=>z0l 5 h U (λ_ hw=>M.ext hw) U na5 U λa h=>z2v 6 h U (by first|exact IntWalk.u8_in _ oo|rfl) U λa h=>z0w 7 h U (λ_ hw=>a1.ext hw) z2y U λa h=>z1m 8 kr kr kr hC (p:=j) h wn U y3o oo oo oo U U λa h=>z0d 9 U (z0z (i:=j) (⟨false,0,(m.ys.getD j yq0).ct,false,sv0,[]⟩:YQ) h U hM.y.out (by rw[hM.ly];exact hj) U z3b λd4 a2 b0 _hz a h=>?_);replace hM:=hM.yarn mtd hj a2 b0 (Own.nil _);have a4:=hM;clear a2;have d7:=b0.size;replace D:=D.fr b0;replace I:=I.fr b0;have Z:=hM.k;clear _hz;refine z1n (z0r ?_);clear hC a0 O M a1;refine bk (h.sub (L':=[(6,_)]) (.cons U .nil)) (tn (sr (mv U (asg U (nn (rt (r1 results67 U ?_)))))));exact⟨_,rfl,by rw[c0];exact MRet.ok (by unfold x8l;rw[a9,if_neg (λe=>e c0)];exact congrArg Except.ok (y0g m (⟨false,0,(m.ys.getD j yq0).ct,false,sv0,[]⟩:YQ) b1).symm) hM⟩;refine sk (tn (sr (mv U (asg U (kpL [(4,_)] (.cons U .nil) (nn (rt (r1 results67 U ?_))))))));replace hM:=a4.ext (q1.z4 q2 q8 q9 a5);exact⟨_,rfl,MRet.err (by unfold x8l;rw[a9,if_pos c0]) c0 hM.fr⟩
theorem z3r:z1c prog 145 0 0:=λ_ _=>kr
theorem x3z (wS:World)(ka:MA)(m:MQ)(o:MOp)(w0:World)(hM:MkM τd 145 wS ka w0 m)(hi:MInv m.p)(hy:1<=o.y/\o.y<=6)(hn:z4g o.b o.p=0):Rets prog 130 #[.pointer (some ⟨ka.gk,0,none⟩),opV o] w0 λr w'=>r=.tuple #[.int .i64 (if z7z m.p o=0 then x7b m.p o else 0),.int .i64 (if z7z m.p o=0 then (z4v o.b o.p m.rk) else 0),.int .i64 (z7z m.p o)]/\Fr [] w0 w':=by
 have b8:=hM.fr.size;have hk:=hM.k;have b2:=hk.lt;have b4:=hM.ly;have b3:=hM.lt;have b0:=(hM.y.out.blk ka.gy (by simp[z0v])).2;obtain⟨j,hj,b6⟩:∃j:Nat,j<6/\o.y=(j:Int)+1:=⟨(o.y-1).toNat,oo,oo⟩;have a7:(o.y-1).toNat=j:=by omega
 have M:m.p.y o.y=(m.ys.getD j yq0).p:=by rw[u8l,a7]
 have b7:=y5h o.b o.p m.rk;have b5:=z3a hn;refine we [(0,.pointer (some ⟨ka.gk,0,none⟩)),(1,opV o)] func130 U ntmps130 U (.c2 U U) ?_;have a6:=hM;refine sr (bx U (λg3 w1 b1 D q1 z1=>(asg U (asg U (asg U (nn (sq ?_)))))));replace hM:=a6.ext q1;intro a h;refine z0h none (λwb w'=>Fr [] wb w') z2o ?_;intro w2 q2;have z2:=q2.size;replace hM:=hM.ext q2;replace hk:=hk.ext (q1.n1 q2);replace D:=D.ext q2;have hC:Fr [] w2 w2:=Fr.refl _ _;have a2:=hM;have a1:=hk;have O:=D;refine z0e 0 h U λa h=>z0o 1 h U λa h=>z0c 2 h U z3g U λa h=>z0l 3 h U (λ_ hw=>a1.ext hw) U y3i U λa h=>z0c 4 h U z3q U λa h=>z0l 5 h U (λ_ hw=>O.ext hw) U na5 U λa h=>z2v 6 h U (by first|exact IntWalk.u8_in _ oo|rfl) U λa h=>z1e (p:=j) (yq0) 7 h U hM.y.out.sl U y3o U λa9 a5 a h=>z1x (cs:=z2x.enc (m.ys.getD j yq0)) 8 h wn U (λ_ hw=>a5 _ (a2.ext hw).y.out.sl) z2y U λa h=>z0c 9 h U z4r U λa h=>z1f (vs:=[_,_]) 10 h U (λ_ hw=>(O.ext hw)) z5r U U λa h=>?_;refine z0e 11 h U λa h=>z0o 12 h U λa h=>z0c 13 h U z3r U λa h=>z0l 14 h U (λ_ hw=>a1.ext hw) U na3 U λa h=>z1u 15 16 kr U ?_ ?_;refine z0n h (z0a U (z0a U z0g)) x7j (y2c _ _ _ _ (by have:=hi.rk;omega)) ?_;rintro _ w3 ⟨rfl,q3⟩ a h;have z3:=q3.size;replace hk:=hk.ext q3;replace D:=D.ext q3;replace hC:=hC.next q3;refine z0b (z0d 16 U (z0u h z5m U λw4 I q4 hz a h=>?_));obtain⟨a0,hg⟩:∃g,g=w3.heap.size:=⟨_,rfl⟩;rw[<-hg]at I h hz;have a8.gk_7:ka.gk<a0:=by have:=hk.lt;omega
 have a4:g3<a0:=by have:=D.lt;omega
 have z4:=q4.size;replace hM:=hM.ext (q3.n1 q4);replace hk:=hk.ext q4;replace D:=D.ext q4;replace hC:=hC.next q4;refine z0b (z0d 17 U (z0p h U I U z3b ?_ (h1:=(by first|(simp[Value.oneCell',S];done)|exact z2x.one (m.ys.getD j yq0)))));clear h a;intro w5 a3 q5 hz a h;have z5:=q5.size;replace hk:=hk.fr q5;replace D:=D.fr q5;replace hC:=hC.sp q5;clear I hz;have I:Blk w5 a0 _ [_,_,_,_,_]:=a3;clear a3;refine z0b (z0d 18 U (z0t h U λa h=>?_));refine z0b (z0r ?_);clear hC a2 a1 O;refine bk (h.sub (L':=[(3,_),(5,_),(7,_)]) (.c3 U U U)) (tn (sq (sr (fad U z7p (z0i U I U na4 (nt' U (nn (cd U (λc0=>?_) (λc0=>?_)))))))));refine sr (asg U (asg U (asg U (nn (rt (tr (r3 results130 U U U ?_)))))));have Z:z7z m.p o=12:=by unfold z7z;rw[M,if_pos (by simpa using c0)]
 exact⟨_,rfl,by rw[Z];rfl,(q1.z4 q2 q3 q4 q5)⟩;refine sk (tn (sq (sr (fad U z7y (z0i U D U y9j (eq' U (nn (cd U (λc1=>?_) (λc1=>?_)))))))));refine sq (sr (fad U z5e (z0i U I U na3 (mv U (gt' U (nn (cd U (λc2=>?_) (λc2=>?_))))))));refine sr (asg U (asg U (asg U (nn (rt (tr (tr (r3 results130 U U U ?_))))))));have Z:z7z m.p o=12:=by unfold z7z;rw[M,if_neg (by simpa using c0),if_pos c1,if_pos c2]
 exact⟨_,rfl,by rw[Z];rfl,(q1.z4 q2 q3 q4 q5)⟩;refine sk (tn (sr (mv U (z0x U (wi6 oo) (mv U (asg U (asg U (asg U (nn (rt (tr (r3 results130 U U U ?_))))))))))));have Z:z7z m.p o=0:=by unfold z7z;rw[M,if_neg (by simpa using c0),if_pos c1,if_neg c2]
 exact⟨_,rfl,by rw[Z];rw[if_pos U,if_pos U,x7b,if_pos c1],(q1.z4 q2 q3 q4 q5)⟩;refine sk (tn (sq (sr (fad U z5e (z0i U I U na3 (mv U (lt' U (nn (cd U (λc3=>?_) (λc3=>?_))))))))));refine sr (asg U (asg U (asg U (nn (rt (tr (r3 results130 U U U ?_)))))));have Z:z7z m.p o=12:=by unfold z7z;rw[M,if_neg (by simpa using c0),if_neg c1,if_pos c3]
 exact⟨_,rfl,by rw[Z];rfl,(q1.z4 q2 q3 q4 q5)⟩;refine sk (tn (sr (mv U (z2w U (wi6 oo) (mv U (asg U (asg U (asg U (nn (rt (r3 results130 U U U ?_)))))))))));have Z:z7z m.p o=0:=by unfold z7z;rw[M,if_neg (by simpa using c0),if_neg c1,if_neg c3]
 exact⟨_,rfl,by rw[Z];rw[if_pos U,if_pos U,x7b,if_neg c1],(q1.z4 q2 q3 q4 q5)⟩;refine z0u h z5m U λw6 I q6 hz a h=>?_;obtain⟨a0,hg⟩:∃g,g=w2.heap.size:=⟨_,rfl⟩;rw[<-hg]at I h hz;have a8.gk_7:ka.gk<a0:=by have:=hk.lt;omega
 have a4:g3<a0:=by have:=D.lt;omega
 have z6:=q6.size;replace hC:=hC.next q6;refine z0b (z0d 15 U (z0n h (z0a U (z0a U z0g)) x7j (y2c _ _ _ _ (by have:=hi.rk;omega)) ?_));rintro _ w7 ⟨rfl,q7⟩ a h;have z7:=q7.size;replace hM:=hM.ext (q6.n1 q7);replace hk:=hk.ext (q6.n1 q7);replace D:=D.ext (q6.n1 q7);replace I:=I.ext q7;replace hC:=hC.next q7;refine z0b (z0d 17 U (z0p h U I U z3b ?_ (h1:=(by first|(simp[Value.oneCell',S];done)|exact z2x.one (m.ys.getD j yq0)))));clear h a;intro w8 a3 q8 hz a h;have z8:=q8.size;replace hk:=hk.fr q8;replace D:=D.fr q8;replace hC:=hC.sp q8;clear I hz;have I:Blk w8 a0 _ [_,_,_,_,_]:=a3;clear a3;refine z0b (z0d 18 U (z0t h U λa h=>?_));refine z0b (z0r ?_);clear hC a2 a1 O;refine bk (h.sub (L':=[(3,_),(5,_),(7,_)]) (.c3 U U U)) (tn (sq (sr (fad U z7p (z0i U I U na4 (nt' U (nn (cd U (λc0=>?_) (λc0=>?_)))))))));refine sr (asg U (asg U (asg U (nn (rt (tr (r3 results130 U U U ?_)))))));have Z:z7z m.p o=12:=by unfold z7z;rw[M,if_pos (by simpa using c0)]
 exact⟨_,rfl,by rw[Z];rfl,(q1.z4 q2 q6 q7 q8)⟩;refine sk (tn (sq (sr (fad U z7y (z0i U D U y9j (eq' U (nn (cd U (λc1=>?_) (λc1=>?_)))))))));refine sq (sr (fad U z5e (z0i U I U na3 (mv U (gt' U (nn (cd U (λc2=>?_) (λc2=>?_))))))));refine sr (asg U (asg U (asg U (nn (rt (tr (tr (r3 results130 U U U ?_))))))));have Z:z7z m.p o=12:=by unfold z7z;rw[M,if_neg (by simpa using c0),if_pos c1,if_pos c2]
 exact⟨_,rfl,by rw[Z];rfl,(q1.z4 q2 q6 q7 q8)⟩;refine sk (tn (sr (mv U (z0x U (wi6 oo) (mv U (asg U (asg U (asg U (nn (rt (tr (r3 results130 U U U ?_))))))))))));have Z:z7z m.p o=0:=by unfold z7z;rw[M,if_neg (by simpa using c0),if_pos c1,if_neg c2]
 exact⟨_,rfl,by rw[Z];rw[if_pos U,if_pos U,x7b,if_pos c1],(q1.z4 q2 q6 q7 q8)⟩;refine sk (tn (sq (sr (fad U z5e (z0i U I U na3 (mv U (lt' U (nn (cd U (λc3=>?_) (λc3=>?_))))))))));refine sr (asg U (asg U (asg U (nn (rt (tr (r3 results130 U U U ?_)))))));have Z:z7z m.p o=12:=by unfold z7z;rw[M,if_neg (by simpa using c0),if_neg c1,if_pos c3]
 exact⟨_,rfl,by rw[Z];rfl,(q1.z4 q2 q6 q7 q8)⟩;refine sk (tn (sr (mv U (z2w U (wi6 oo) (mv U (asg U (asg U (asg U (nn (rt (r3 results130 U U U ?_)))))))))));have Z:z7z m.p o=0:=by unfold z7z;rw[M,if_neg (by simpa using c0),if_neg c1,if_neg c3]
 exact⟨_,rfl,by rw[Z];rw[if_pos U,if_pos U,x7b,if_neg c1],(q1.z4 q2 q6 q7 q8)⟩
theorem z3f:z1c prog 145 1 1:=λ_ _=>kr
theorem x3b (wS:World)(ka:MA)(m:MQ)(yy pl en:Int)(w0:World)(hM:MkM τd 145 wS ka w0 m)(hi:MInv m.p)(hy:1<=yy/\yy<=6):Rets prog 131 #[.pointer (some ⟨ka.gk,0,none⟩),.int .u8 yy,.int .i64 pl,.int .i64 en] w0 λr w'=>MRet τd 145 wS ka (y6e m.p yy pl en) r w':=by
 have g4:=hM.fr.size;have M:=hM.k;have f9:=M.lt;have g1:=hM.ly;have g0:=hM.lt;have f4:=(hM.y.out.blk ka.gy (by simp[z0v])).2;obtain⟨j,hj,g3⟩:∃j:Nat,j<6/\yy=(j:Int)+1:=⟨(yy-1).toNat,oo,oo⟩;have e0:(yy-1).toNat=j:=by omega
 have b9:m.p.y yy=(m.ys.getD j yq0).p:=by rw[u8l,e0]
 have f6:=x9w (z2t m.q.p m.rk) (m.ys.getD j yq0).pl en;have hN:=y3r hi.B;have f8:(z2t m.q.p m.rk).length<=320:=by unfold z2t;rw[z4f,y0z];exact hN
 refine we [(0,.pointer (some ⟨ka.gk,0,none⟩)),(1,.int .u8 yy),(2,.int .i64 pl),(3,.int .i64 en)] func131 U ntmps131 U (.c4 U U U U) ?_;have a8:=hM;refine sr (asg U (nn (sq ?_)));intro a h;refine z0h none (λwb w'=>Fr [] wb w') z2o ?_;intro w1 q1;have z1:=q1.size;replace hM:=hM.ext q1;replace M:=M.ext q1;have hC:Fr [] w1 w1:=Fr.refl _ _;have a3:=hM;have a0:=M;refine z0e 0 h U λa h=>z0o 1 h U λa h=>z0c 2 h U z3f U λa h=>z1f (vs:=[_,_]) 3 h U (λ_ hw=>(a0.ext hw)) z4x U U λa h=>z0e 4 h U λa h=>z0o 5 h U λa h=>z0c 6 h U z3r U λa h=>z0l 7 h U (λ_ hw=>a0.ext hw) U na3 U λa h=>z0d 8 U (z0n h (z0a U (z0a U z0g)) (mkC func56) (v2y m.q m.rk _ hM.b.at hi.B hi.rk) ?_);rintro _ w2 ⟨⟨g9,rfl,f7,hL⟩,hq⟩ a h;have z2:=hq.size;replace hM:=hM.ext hq;replace M:=M.ext hq;replace hC:=hC.next hq;have q2:=hq;have f5:=(hL.blk g9 (by simp[z0v])).2;refine z0b (z0e 9 h U λa h=>z0k 10 h U λa h=>z0k 11 h U λa h=>z0d 12 U (z0t h U λa h=>?_));refine z0b (z0d 13 U (z0t h U λa h=>?_));refine z0b (z0r ?_);clear hC a3 a0;refine bk (h.sub (L':=[(0,_),(1,_),(2,_),(3,_),(9,_),(10,_)]) (.c6 U U U U U U)) (tn (sq (sr (mv U (ne' U (nn (cd U (λc0=>?_) (λc0=>?_))))))));exact absurd U c0;refine sk (tn (sr (mv U (nlc U (fad U z3g (z0i U M U y3i (mv U (z2w U (wi8 oo) (z1d (p:=j) (yq0) U hM.y.out.sl U y3o oo (λf2 e3=>(z1q U (e3 _ hM.y.out.sl) z2y (al z5m U (λe1 w3 f3 D q3 z3=>?_)))))))))))));refine z0j (vs:=[_,_,_,_,_]) U D z3b (λw4 D q4 z4=>?_) (h1:=(by first|(simp[Value.oneCell',S];done)|exact z2x.one (m.ys.getD j yq0)));refine kpL [(0,_),(1,_),(2,_),(3,_),(9,_),(11,_)] (.c6 U U U U U U) (nn (sq ?_));replace hM:=a8.ext (q1.z3 q2 q3 q4);replace M:=(M.ext q3).fr q4;replace hL:=(hL.ext q3).fr q4 (by first|exact z8h hL oo|simp[z0v]<;>omega);intro a h;refine z0h none (λwb w'=>Fr [] wb w') z2o ?_;intro w5 q5;have z5:=q5.size;replace hM:=hM.ext q5;replace M:=M.ext q5;replace hL:=hL.ext q5;replace D:=D.ext q5;have hC:Fr [] w5 w5:=Fr.refl _ _;have a3:=hM;have a0:=M;have d5:=hL;have Z:=D;refine z0w 0 h U (λ_ hw=>Z.ext hw) z2y U λa h=>z0e 1 h U λa h=>z0e 2 h U λa h=>z0c 3 h U z5e U λa h=>z0l 4 h U (λ_ hw=>Z.ext hw) U na3 U λa h=>z0e 5 h U λa h=>z1u 6 11 kr U ?_ ?_;refine z0n h (z0a U (z0a U (z0a U z0g))) (mkC func166) (u1l _ (z2t m.q.p m.rk) (m.ys.getD j yq0).pl en _ hL.sl oo) ?_;rintro _ w6 ⟨⟨e2,rfl,e4,hW⟩,q6⟩ a h;have z6:=q6.size;replace hM:=hM.ext q6;replace M:=M.ext q6;replace hL:=hL.ext q6;replace D:=D.ext q6;replace hC:=hC.next q6;have e9:=(hW.blk e2 (by simp[z0v])).2;refine z0b (z1u 7 11 kr U ?_ ?_);refine z0n h (z0a U (z0a U (z0a U z0g))) (mkC func164) (x4j (m.ys.getD j yq0) pl _ (btw (z2t m.q.p m.rk) (m.ys.getD j yq0).pl en) _ (hM.y.ins j oo).sl hW.sl (λk M=>(hW.blk k M).2) oo) ?_;rintro _ w7 ⟨qn,rfl,b6,q7⟩ a h;have z7:=q7.size;replace M:=M.ext q7;replace D:=D.ext q7;replace hC:=hC.next q7;have O:OwnIf ((goE (m.ys.getD j yq0).p pl (btw (z2t m.q.p m.rk) (m.ys.getD j yq0).pl en))=0) z2d 107 _ _ (slv qn.pe) qn.pes:=λhc=>(b6 hc).2;have b4:=λhc k M=>((O hc).blk k M).2;refine z0b (z0e 8 h U λa h=>z0k 9 h U λa h=>z0k 10 h U λa h=>z0d 11 U (z0u h z5m U λw8 I q8 hz a h=>?_));obtain⟨a2,hg⟩:∃g,g=w7.heap.size:=⟨_,rfl⟩;rw[<-hg]at I h hz;have e5.gk_12:ka.gk<a2:=by have:=M.lt;omega
 have b7:e1<a2:=by have:=D.lt;omega
 have z8:=q8.size;replace hM:=hM.ext (q7.n1 q8);replace M:=M.ext q8;replace hL:=hL.ext (q7.n1 q8);replace D:=D.ext q8;replace hW:=hW.ext (q7.n1 q8);replace O:=O.ext q8;replace hC:=hC.next q8;refine z0b (z0d 12 U (z0p h U I U z3b ?_ (h1:=(by first|(simp[Value.oneCell',S];done)|exact z2x.one (m.ys.getD j yq0)))));clear h a;intro w9 b5 q9 hz a h;have z9:=q9.size;replace M:=M.fr q9;replace hL:=hL.fr q9 (by simp[z0v]<;>omega);replace D:=D.fr q9;replace hW:=hW.fr q9 (by simp[z0v]<;>omega);replace O:=O.fr q9 (by intro a5 k M a4;simp at M;subst M;have d3:=b4 a5 _ a4;have d4:=(O a5).blk _ a4;omega);replace hC:=hC.sp q9;clear I hz;have I:Blk w9 a2 _ [_,_,_,_,_]:=b5;clear b5;refine z0b (z0d 13 U (z0t h U λa h=>?_));refine z0b (z0r ?_);clear hC a3 a0 d5 Z;refine bk (h.sub (L':=[(0,_),(1,_),(10,_),(12,_)]) (.c4 U U U U)) (tn (sq (sr (mv U (eq' U (nn (cd U (λc1=>?_) (λc1=>?_))))))));replace hM:=a8.ext (((q1.z6 q2 q3 q4 q5 q6 q7).n1 q8).z1 q9);intro a h;refine z0h (some 8) (λwb w'=>Fr [] wb w') z2o ?_;intro e6 c9;have h5:=c9.size;replace hM:=hM.ext c9;replace M:=M.ext c9;replace D:=D.ext c9;replace O:=O.ext c9;replace I:=I.ext c9;have hC:Fr [] e6 e6:=Fr.refl _ _;have a3:=hM;have a0:=M;have Z:=D;have a7:=O;have a1:=I;refine z0e 0 h U λa h=>z0o 1 h U λa h=>z0c 2 h U z3g U λa h=>z0l 3 h U (λ_ hw=>a0.ext hw) U y3i U λa h=>z0e 4 h U λa h=>z2v 5 h U (by first|exact IntWalk.u8_in _ oo|rfl) U λa h=>z0w 6 h U (λ_ hw=>a1.ext hw) z2y U λa h=>z1m 7 kr kr kr hC (p:=j) h wn U y3o oo oo oo U U λa h=>z0d 8 U (z0z (i:=j) (qn:YQ) h U hM.y.out (by rw[hM.ly];exact hj) U z3b λg5 a6 d6 _hz a h=>?_);replace hM:=hM.yarn mtd hj a6 d6 ((O c1).low oo);have a8:=hM;clear a6;have h6:=d6.size;replace D:=D.fr d6;replace O:=O.fr d6 (by intro a5 k M a4;simp at M;subst M;have d3:=b4 a5 _ a4;have d4:=(O a5).blk _ a4;omega);replace I:=I.fr d6;have M:=hM.k;clear _hz;refine z1n (z0r ?_);clear hC a3 a0 Z a7 a1;refine bk (h.sub (L':=[(10,_)]) (.cons U .nil)) (tn (sr (mv U (asg U (nn (rt (r1 results131 U ?_)))))));exact⟨_,rfl,by rw[c1];exact MRet.ok (by unfold y6e v9f;rw[b9,if_neg (λe=>e c1)];exact congrArg Except.ok (by rw[y0g m qn e0,(b6 c1).1])) hM⟩;refine sk (tn (sr (mv U (asg U (kpL [(8,_)] (.cons U .nil) (nn (rt (r1 results131 U ?_))))))));replace hM:=a8.ext (((q1.z6 q2 q3 q4 q5 q6 q7).n1 q8).z1 q9);exact⟨_,rfl,MRet.err (by unfold y6e v9f;rw[b9,if_pos c1]) c1 hM.fr⟩;refine z0u h z5m U λg6 I b1 hz a h=>?_;obtain⟨a2,hg⟩:∃g,g=w6.heap.size:=⟨_,rfl⟩;rw[<-hg]at I h hz;have e5.gk_12:ka.gk<a2:=by have:=M.lt;omega
 have b7:e1<a2:=by have:=D.lt;omega
 have h7:=b1.size;replace hM:=hM.ext b1;replace M:=M.ext b1;replace hW:=hW.ext b1;replace hC:=hC.next b1;refine z0b (z0d 7 U (z0n h (z0a U (z0a U (z0a U z0g))) (mkC func164) (x4j (m.ys.getD j yq0) pl _ (btw (z2t m.q.p m.rk) (m.ys.getD j yq0).pl en) _ (hM.y.ins j oo).sl hW.sl (λk M=>(hW.blk k M).2) oo) ?_));rintro _ g7 ⟨qn,rfl,b6,a9⟩ a h;have h8:=a9.size;replace hM:=hM.ext a9;replace M:=M.ext a9;replace hL:=hL.ext (b1.n1 a9);replace D:=D.ext (b1.n1 a9);replace hW:=hW.ext a9;replace I:=I.ext a9;replace hC:=hC.next a9;have O:OwnIf ((goE (m.ys.getD j yq0).p pl (btw (z2t m.q.p m.rk) (m.ys.getD j yq0).pl en))=0) z2d 107 _ _ (slv qn.pe) qn.pes:=λhc=>(b6 hc).2;have b4:=λhc k M=>((O hc).blk k M).2;refine z0b (z0e 8 h U λa h=>z0k 9 h U λa h=>z0k 10 h U λa h=>z0d 12 U (z0p h U I U z3b ?_ (h1:=(by first|(simp[Value.oneCell',S];done)|exact z2x.one (m.ys.getD j yq0)))));clear h a;intro f0 b5 b2 hz a h;have h9:=b2.size;replace M:=M.fr b2;replace hL:=hL.fr b2 (by simp[z0v]<;>omega);replace D:=D.fr b2;replace hW:=hW.fr b2 (by simp[z0v]<;>omega);replace O:=O.fr b2 (by intro a5 k M a4;simp at M;subst M;have d3:=b4 a5 _ a4;have d4:=(O a5).blk _ a4;omega);replace hC:=hC.sp b2;clear I hz;have I:Blk f0 a2 _ [_,_,_,_,_]:=b5;clear b5;refine z0b (z0d 13 U (z0t h U λa h=>?_));refine z0b (z0r ?_);clear hC a3 a0 d5 Z;refine bk (h.sub (L':=[(0,_),(1,_),(10,_),(12,_)]) (.c4 U U U U)) (tn (sq (sr (mv U (eq' U (nn (cd U (λc1=>?_) (λc1=>?_))))))));replace hM:=a8.ext (((q1.z6 q2 q3 q4 q5 q6 b1).n1 a9).z1 b2);intro a h;refine z0h (some 8) (λwb w'=>Fr [] wb w') z2o ?_;intro e7 d0;have i0:=d0.size;replace hM:=hM.ext d0;replace M:=M.ext d0;replace D:=D.ext d0;replace I:=I.ext d0;replace O:=O.ext d0;have hC:Fr [] e7 e7:=Fr.refl _ _;have a3:=hM;have a0:=M;have Z:=D;have a1:=I;have a7:=O;refine z0e 0 h U λa h=>z0o 1 h U λa h=>z0c 2 h U z3g U λa h=>z0l 3 h U (λ_ hw=>a0.ext hw) U y3i U λa h=>z0e 4 h U λa h=>z2v 5 h U (by first|exact IntWalk.u8_in _ oo|rfl) U λa h=>z0w 6 h U (λ_ hw=>a1.ext hw) z2y U λa h=>z1m 7 kr kr kr hC (p:=j) h wn U y3o oo oo oo U U λa h=>z0d 8 U (z0z (i:=j) (qn:YQ) h U hM.y.out (by rw[hM.ly];exact hj) U z3b λg8 a6 d7 _hz a h=>?_);replace hM:=hM.yarn mtd hj a6 d7 ((O c1).low oo);have a8:=hM;clear a6;have i1:=d7.size;replace D:=D.fr d7;replace I:=I.fr d7;replace O:=O.fr d7 (by intro a5 k M a4;simp at M;subst M;have d3:=b4 a5 _ a4;have d4:=(O a5).blk _ a4;omega);have M:=hM.k;clear _hz;refine z1n (z0r ?_);clear hC a3 a0 Z a1 a7;refine bk (h.sub (L':=[(10,_)]) (.cons U .nil)) (tn (sr (mv U (asg U (nn (rt (r1 results131 U ?_)))))));exact⟨_,rfl,by rw[c1];exact MRet.ok (by unfold y6e v9f;rw[b9,if_neg (λe=>e c1)];exact congrArg Except.ok (by rw[y0g m qn e0,(b6 c1).1])) hM⟩;refine sk (tn (sr (mv U (asg U (kpL [(8,_)] (.cons U .nil) (nn (rt (r1 results131 U ?_))))))));replace hM:=a8.ext (((q1.z6 q2 q3 q4 q5 q6 b1).n1 a9).z1 b2);exact⟨_,rfl,MRet.err (by unfold y6e v9f;rw[b9,if_pos c1]) c1 hM.fr⟩;refine z0u h z5m U λh0 I b8 hz a h=>?_;obtain⟨a2,hg⟩:∃g,g=w5.heap.size:=⟨_,rfl⟩;rw[<-hg]at I h hz;have e5.gk_12:ka.gk<a2:=by have:=M.lt;omega
 have b7:e1<a2:=by have:=D.lt;omega
 have i2:=b8.size;replace hL:=hL.ext b8;replace hC:=hC.next b8;refine z0b (z0d 6 U (z0n h (z0a U (z0a U (z0a U z0g))) (mkC func166) (u1l _ (z2t m.q.p m.rk) (m.ys.getD j yq0).pl en _ hL.sl oo) ?_));rintro _ h2 ⟨⟨e2,rfl,e4,hW⟩,q18⟩ a h;have i3:=q18.size;replace hM:=hM.ext (b8.n1 q18);replace M:=M.ext (b8.n1 q18);replace hC:=hC.next q18;have e9:=(hW.blk e2 (by simp[z0v])).2;refine z0b (z0d 7 U (z0n h (z0a U (z0a U (z0a U z0g))) (mkC func164) (x4j (m.ys.getD j yq0) pl _ (btw (z2t m.q.p m.rk) (m.ys.getD j yq0).pl en) _ (hM.y.ins j oo).sl hW.sl (λk M=>(hW.blk k M).2) oo) ?_));rintro _ h3 ⟨qn,rfl,b6,b0⟩ a h;have i4:=b0.size;replace hM:=hM.ext b0;replace M:=M.ext b0;replace hL:=hL.ext (q18.n1 b0);replace D:=D.ext (b8.n2 q18 b0);replace I:=I.ext (q18.n1 b0);replace hW:=hW.ext b0;replace hC:=hC.next b0;have O:OwnIf ((goE (m.ys.getD j yq0).p pl (btw (z2t m.q.p m.rk) (m.ys.getD j yq0).pl en))=0) z2d 107 _ _ (slv qn.pe) qn.pes:=λhc=>(b6 hc).2;have b4:=λhc k M=>((O hc).blk k M).2;refine z0b (z0e 8 h U λa h=>z0k 9 h U λa h=>z0k 10 h U λa h=>z0d 12 U (z0p h U I U z3b ?_ (h1:=(by first|(simp[Value.oneCell',S];done)|exact z2x.one (m.ys.getD j yq0)))));clear h a;intro f1 b5 b3 hz a h;have i5:=b3.size;replace M:=M.fr b3;replace hL:=hL.fr b3 (by simp[z0v]<;>omega);replace D:=D.fr b3;replace hW:=hW.fr b3 (by simp[z0v]<;>omega);replace O:=O.fr b3 (by intro a5 k M a4;simp at M;subst M;have d3:=b4 a5 _ a4;have d4:=(O a5).blk _ a4;omega);replace hC:=hC.sp b3;clear I hz;have I:Blk f1 a2 _ [_,_,_,_,_]:=b5;clear b5;refine z0b (z0d 13 U (z0t h U λa h=>?_));refine z0b (z0r ?_);clear hC a3 a0 d5 Z;refine bk (h.sub (L':=[(0,_),(1,_),(10,_),(12,_)]) (.c4 U U U U)) (tn (sq (sr (mv U (eq' U (nn (cd U (λc1=>?_) (λc1=>?_))))))));replace hM:=a8.ext (((q1.z6 q2 q3 q4 q5 b8 q18).n1 b0).z1 b3);intro a h;refine z0h (some 8) (λwb w'=>Fr [] wb w') z2o ?_;intro e8 d1;have i7:=d1.size;replace hM:=hM.ext d1;replace M:=M.ext d1;replace D:=D.ext d1;replace I:=I.ext d1;replace O:=O.ext d1;have hC:Fr [] e8 e8:=Fr.refl _ _;have a3:=hM;have a0:=M;have Z:=D;have a1:=I;have a7:=O;refine z0e 0 h U λa h=>z0o 1 h U λa h=>z0c 2 h U z3g U λa h=>z0l 3 h U (λ_ hw=>a0.ext hw) U y3i U λa h=>z0e 4 h U λa h=>z2v 5 h U (by first|exact IntWalk.u8_in _ oo|rfl) U λa h=>z0w 6 h U (λ_ hw=>a1.ext hw) z2y U λa h=>z1m 7 kr kr kr hC (p:=j) h wn U y3o oo oo oo U U λa h=>z0d 8 U (z0z (i:=j) (qn:YQ) h U hM.y.out (by rw[hM.ly];exact hj) U z3b λh4 a6 d9 _hz a h=>?_);replace hM:=hM.yarn mtd hj a6 d9 ((O c1).low oo);have a8:=hM;clear a6;have i8:=d9.size;replace D:=D.fr d9;replace I:=I.fr d9;replace O:=O.fr d9 (by intro a5 k M a4;simp at M;subst M;have d3:=b4 a5 _ a4;have d4:=(O a5).blk _ a4;omega);have M:=hM.k;clear _hz;refine z1n (z0r ?_);clear hC a3 a0 Z a1 a7;refine bk (h.sub (L':=[(10,_)]) (.cons U .nil)) (tn (sr (mv U (asg U (nn (rt (r1 results131 U ?_)))))));exact⟨_,rfl,by rw[c1];exact MRet.ok (by unfold y6e v9f;rw[b9,if_neg (λe=>e c1)];exact congrArg Except.ok (by rw[y0g m qn e0,(b6 c1).1])) hM⟩;refine sk (tn (sr (mv U (asg U (kpL [(8,_)] (.cons U .nil) (nn (rt (r1 results131 U ?_))))))));replace hM:=a8.ext (((q1.z6 q2 q3 q4 q5 b8 q18).n1 b0).z1 b3);exact⟨_,rfl,MRet.err (by unfold y6e v9f;rw[b9,if_pos c1]) c1 hM.fr⟩
theorem u3d (wS:World)(M:MA)(m:MQ)(o:MOp)(w0:World)(hM:MkM τd 145 wS M w0 m)(hi:MInv m.p)(hy:1<=o.y/\o.y<=6)(hn:z4g o.b o.p=0):Rets prog 71 #[.pointer (some ⟨M.gk,0,none⟩),opV o] w0 λr w'=>MRet τd 145 wS M (y5u m.p o) r w':=by
 refine we [(0,.pointer (some ⟨M.gk,0,none⟩)),(1,opV o)] func71 U ntmps71 U (.c2 U U) ?_;have I:=hM;refine sr (bx U (λg3 w1 a0 D q1 z1=>(asg U (nn (sr (mv U (z0m U D y3q ?_)))))));replace hM:=I.ext q1;refine cl (ev2 U) (mkC func130) (x3z wS M m o _ hM hi hy hn) U ?_;rintro _ w2 ⟨rfl,q2⟩;refine mv U (xt U (xt U (xt U (asg U (asg U (asg U (kpL [(0,_),(3,_),(5,_),(7,_)] (.c4 U U U U) (nn (sq (sr (mv U (ne' U (nn (cd U (λO=>?_) (λO=>?_)))))))))))))));refine sr (mv U (asg U (kpL [(4,_)] (.cons U .nil) (nn (rt (tr (r1 results71 U ?_)))))));replace hM:=I.ext (q1.n1 q2);exact⟨_,rfl,MRet.err (by unfold y5u;rw[if_pos O]) O hM.fr⟩;refine sk (tn (sr (mv U (fad U z3q ?_))));replace D:=D.ext q2;refine z0i U D U na5 (mv U (mv U ?_));replace hM:=I.ext (q1.n1 q2);refine cl (z0a U (z0a U (z0a U (z0a U z0g)))) (mkC func131) (x3b wS M m o.y (if z7z m.p o=0 then x7b m.p o else 0) (if z7z m.p o=0 then x7b m.p o else 0) _ hM hi hy) U ?_;rintro a1 w3 hR;refine asg U (kpL [(4,_)] (.cons U .nil) (nn (rt (r1 results71 U ?_))));have Z:z7z m.p o=0:=Classical.not_not.1 O;rw[if_pos Z]at hR;exact⟨_,rfl,by rw[show y5u m.p o=_ from if_neg O];exact hR⟩
theorem v0a:CallOf prog 134:=mkC func134
theorem y1v:z1c prog 145 5 6:=λ_ _=>kr
theorem u5r (wS:World)(ka:MA)(m:MQ)(o:MOp)(w0:World)(hM:MkM τd 145 wS ka w0 m)(hi:MInv m.p)(hn:z4g o.b o.p=0):Rets prog 73 #[.pointer (some ⟨ka.gk,0,none⟩),opV o] w0 λr w'=>MRet τd 145 wS ka (y4r m.p o) r w':=by
 have f6:=hM.fr.size;have D:=hM.k;have f2:=D.lt;have f4:=hM.ly;have f3:=hM.lt;have e6:=(hM.y.out.blk ka.gy (by simp[z0v])).2;have f5:=z3a hn;obtain⟨n,b6⟩:∃n:Nat,o.p=(n:Int):=⟨o.p.toNat,oo⟩;obtain⟨⟨hf,hb⟩,h4,d9⟩:=z3o hi.B;have hfl:m.q.p.flat.length+m.fl.length<=z5p (z2g m.ts):=hi.cnt;have f0:z5p (z2g m.ts)<=2048:=hi.all;have hv:BdOk m.q.p:=hi.B;have e9:=y3s hv o.b o.p;refine we [(0,.pointer (some ⟨ka.gk,0,none⟩)),(1,opV o)] func73 U ntmps73 U (.c2 U U) ?_;have a5:=hM;refine sr (bx U (λg3 w1 f1 M q1 z1=>(asg U (nn (sq ?_)))));replace hM:=a5.ext q1;intro a h;refine z0h none (λwb w'=>Fr [] wb w') z2o ?_;intro w2 q2;have z2:=q2.size;replace hM:=hM.ext q2;replace D:=D.ext (q1.n1 q2);replace M:=M.ext q2;have hC:Fr [] w2 w2:=Fr.refl _ _;have a9:=hM;have a1:=D;have Z:=M;refine z0e 0 h U λa h=>z0o 1 h U λa h=>z0c 2 h U z3f U λa h=>z1f (vs:=[_,_]) 3 h U (λ_ hw=>(a1.ext hw)) z4x U U λa h=>z0c 4 h U z4r U λa h=>z1f (vs:=[_,_]) 5 h U (λ_ hw=>(Z.ext hw)) z5r U U λa h=>z0d 6 U (z0n h (z0a U (z0a U z0g)) x9f (y4w m.q o.b o.p _ hM.b.at oo hf hb h4 d9) ?_);rintro f7 w3 ⟨I,hq⟩ a h;have z3:=hq.size;replace hM:=hM.ext hq;replace D:=D.ext hq;replace M:=M.ext hq;replace hC:=hC.next hq;have q3:=hq;rw[z9r hn]at I;obtain⟨e7,e8,rfl,e5⟩:=I.sl.form;have b5:=λk hb=>(I.blk k hb).2;refine z0b (z0d 7 U (z0t h U λa h=>?_));refine z0b (z0r ?_);clear hC a9 a1 Z;refine bk (h.sub (L':=[(0,_),(3,_),(5,_)]) (.c3 U U U)) (tn (sq (sr (mv U (lnS U underlying30 (eq' U (nn (cd U (λc0=>?_) (λc0=>?_)))))))));exact sr (asg U (nn (rt (tr (r1 results73 U ⟨_,rfl,MRet.err (if_pos (List.length_eq_zero_iff.1 (show (m.q.p.at o.b o.p).length=0 by omega))) dd hM.fr⟩)))));refine sk (tn (sq ?_));intro a h;refine z0h none (λwb w'=>Fr [] wb w') z2o ?_;intro w4 q4;have z4:=q4.size;replace hM:=hM.ext q4;replace D:=D.ext q4;replace M:=M.ext q4;replace I:=I.ext q4;have hC:Fr [] w4 w4:=Fr.refl _ _;have a9:=hM;have a1:=D;have Z:=M;have b3:=I;refine z0e 0 h U λa h=>z0o 1 h U λa h=>z0c 2 h U z3f U λa h=>z1f (vs:=[_,_]) 3 h U (λ_ hw=>(a1.ext hw)) z4x U U λa h=>z0c 4 h U z4r U λa h=>z1f (vs:=[_,_]) 5 h U (λ_ hw=>(Z.ext hw)) z5r U U λa h=>z1u 6 10 kr U ?_ ?_;refine z0n h (z0a U (z0a U (z0a U z0g))) v0a (by have x:=y9q m.q o.b n (.slice none 0 0) [] _ hM.b.at (Sl.nil _) hv (by rw[<-b6];exact hn) sp0 sp0 (λi=>by have:=List.nodup_iff_count.1 hv.nd i;simp only[List.count_nil];omega);rw[<-b6]at x;exact x) ?_;rintro _ w5 ⟨⟨q',rfl,hQ,d3⟩,q5⟩ a h;have z5:=q5.size;replace D:=D.ext q5;replace M:=M.ext q5;replace hC:=hC.next q5;have c9:=x1l hQ a5.f oo;refine z0b (z0e 7 h U λa h=>z0k 8 h U λa h=>z0k 9 h U λa h=>z0d 10 U (z0u h x2z U λw6 O q6 hz a h=>?_));obtain⟨a4,hg⟩:∃g,g=w5.heap.size:=⟨_,rfl⟩;rw[<-hg]at O h hz;have e0.gk_6:ka.gk<a4:=by have:=D.lt;omega
 have d1:g3<a4:=by have:=M.lt;omega
 have z6:=q6.size;replace hM:=hM.ext (q5.n1 q6);replace D:=D.ext q6;replace M:=M.ext q6;replace I:=I.ext (q5.n1 q6);first|replace hQ:=BdO.ext hQ q6|replace hQ:=BdO.tf hQ q6 (OffT.one O dd) (OffT.one O dd)
 replace hC:=hC.next q6;refine z0b (z0d 11 U (z0p h U O U y7s λw7 b2 q7 hz a h=>?_));have z7:=q7.size;replace D:=D.fr q7;replace M:=M.fr q7;replace I:=I.fr q7 (by intro k D a0;simp at D;subst D;have:=b5 _ a0;have b7:=(I.blk _ a0).1;omega);first|replace hQ:=BdO.ext hQ q7|replace hQ:=BdO.tf hQ q7 (OffT.one O dd) (OffT.one O dd)
 replace hC:=hC.sp q7;clear O hz;have O:Blk w7 a4 _ [_,_]:=b2;clear b2;refine z0b (z0d 12 U (z0t h U λa h=>?_));refine z0b (z0r ?_);clear hC a9 a1 Z b3;refine bk (h.sub (L':=[(0,_),(5,_),(6,_),(7,_)]) (.c4 U U U U)) (tn (sq (sr (mv U (ne' U (nn (cd U (λc1=>?_) (λc1=>?_))))))));exact absurd U c1;refine sk (tn (sr (mv U (z0m U O z4x (nlc U (fad U z3f ?_))))));replace hM:=a5.ext (q1.z6 q2 q3 q4 q5 q6 q7);refine z4p (cs':=u0e ka { m with q:=q' }) U U hM.k (by intro u hu;simp at hu;rcases hu with rfl|rfl<;>rfl) y7s U (λw8 a2 q8 z8=>?_);replace hM:=hM.beds mtd (hQ.low oo) a2 q8 c9;have D:=hM.k;have a5:=hM;have b9:=hM;have hF:Lw.Own z1b 64 wS.heap.size _ (slv m.fa) m.fl:=hM.f;clear a2;refine kpL [(0,_),(5,_)] (.c2 U U) (nn (sr (mv U (mv U (nlc U (fad U y1v (z0i U D U z6h (mv U ?_))))))));replace I:=I.fr q8 (by intro k D a0;simp at D;subst D;have:=b5 _ a0;have b7:=(I.blk _ a0).1;omega);have a6:=hF;refine z1z U hF I.sl z3x (λe3 w9 hF q9 a7=>?_) (hM:=(by unfold maxLen;omega)) (hb:=oo);have d5:=q9;obtain⟨b0,b1,rfl,d6⟩:=hF.sl.form;have b4:∀k∈z0v (.slice b0 (m.fl++(m.q.p.at o.b o.p)).length b1),k∈z0v (slv m.fa)\/_<=k:=λk D=>by
  rcases a7 with e|e|e
  exact .inl (congrArg z0v e▸D);exact .inl (e▸D);rw[e,List.mem_singleton]at D;exact .inr (Nat.le_of_eq D.symm)
 have z9:=q9.size;replace D:=D.fr q9 (λd0=>a6.neB D dd d0);refine nlc U (fad U y1v (z3l U D U u1e (λf8 a2 e1 g6=>?_)));have b8:=b9.fall mtd dd (u:=(b0,(m.fl++(m.q.p.at o.b o.p)).length,b1)) hF d5 b4 a2 e1;refine kpL [] .nil (nn (sr (asg U (nn (rt (r1 results73 U ?_))))));exact⟨_,rfl,MRet.ok (by rw[show y4r m.p o=_ from if_neg (λe=>c0 (by rw[show (m.q.p.at o.b o.p)=[] from e];rfl))];exact congrArg Except.ok (by unfold MQ.p;simp only[d3])) b8⟩;refine z0u h x2z U λf9 O a8 hz a h=>?_;obtain⟨a4,hg⟩:∃g,g=w4.heap.size:=⟨_,rfl⟩;rw[<-hg]at O h hz;have e0.gk_6:ka.gk<a4:=by have:=D.lt;omega
 have d1:g3<a4:=by have:=M.lt;omega
 have g7:=a8.size;replace hM:=hM.ext a8;replace hC:=hC.next a8;refine z0b (z0d 6 U (z0n h (z0a U (z0a U (z0a U z0g))) v0a (by have x:=y9q m.q o.b n (.slice none 0 0) [] _ hM.b.at (Sl.nil _) hv (by rw[<-b6];exact hn) sp0 sp0 (λi=>by have:=List.nodup_iff_count.1 hv.nd i;simp only[List.count_nil];omega);rw[<-b6]at x;exact x) ?_));rintro _ g0 ⟨⟨q',rfl,hQ,d3⟩,q12⟩ a h;have g8:=q12.size;replace hM:=hM.ext q12;replace D:=D.ext (a8.n1 q12);replace M:=M.ext (a8.n1 q12);replace I:=I.ext (a8.n1 q12);replace O:=O.ext q12;replace hC:=hC.next q12;have c9:=x1l hQ a5.f oo;refine z0b (z0e 7 h U λa h=>z0k 8 h U λa h=>z0k 9 h U λa h=>z0d 11 U (z0p h U O U y7s λe4 b2 a3 hz a h=>?_));have g9:=a3.size;replace D:=D.fr a3;replace M:=M.fr a3;replace I:=I.fr a3 (by intro k D a0;simp at D;subst D;have:=b5 _ a0;have b7:=(I.blk _ a0).1;omega);first|replace hQ:=BdO.ext hQ a3|replace hQ:=BdO.tf hQ a3 (OffT.one O dd) (OffT.one O dd)
 replace hC:=hC.sp a3;clear O hz;have O:Blk e4 a4 _ [_,_]:=b2;clear b2;refine z0b (z0d 12 U (z0t h U λa h=>?_));refine z0b (z0r ?_);clear hC a9 a1 Z b3;refine bk (h.sub (L':=[(0,_),(5,_),(6,_),(7,_)]) (.c4 U U U U)) (tn (sq (sr (mv U (ne' U (nn (cd U (λc1=>?_) (λc1=>?_))))))));exact absurd U c1;refine sk (tn (sr (mv U (z0m U O z4x (nlc U (fad U z3f ?_))))));replace hM:=a5.ext (q1.z6 q2 q3 q4 a8 q12 a3);refine z4p (cs':=u0e ka { m with q:=q' }) U U hM.k (by intro u hu;simp at hu;rcases hu with rfl|rfl<;>rfl) y7s U (λg1 a2 d7 h0=>?_);replace hM:=hM.beds mtd (hQ.low oo) a2 d7 c9;have D:=hM.k;have a5:=hM;have b9:=hM;have hF:Lw.Own z1b 64 wS.heap.size _ (slv m.fa) m.fl:=hM.f;clear a2;refine kpL [(0,_),(5,_)] (.c2 U U) (nn (sr (mv U (mv U (nlc U (fad U y1v (z0i U D U z6h (mv U ?_))))))));replace I:=I.fr d7 (by intro k D a0;simp at D;subst D;have:=b5 _ a0;have b7:=(I.blk _ a0).1;omega);have a6:=hF;refine z1z U hF I.sl z3x (λe3 g4 hF d4 a7=>?_) (hM:=(by unfold maxLen;omega)) (hb:=oo);have d5:=d4;obtain⟨b0,b1,rfl,d6⟩:=hF.sl.form;have b4:∀k∈z0v (.slice b0 (m.fl++(m.q.p.at o.b o.p)).length b1),k∈z0v (slv m.fa)\/_<=k:=λk D=>by
  rcases a7 with e|e|e
  exact .inl (congrArg z0v e▸D);exact .inl (e▸D);rw[e,List.mem_singleton]at D;exact .inr (Nat.le_of_eq D.symm)
 have h1:=d4.size;replace D:=D.fr d4 (λd0=>a6.neB D dd d0);refine nlc U (fad U y1v (z3l U D U u1e (λg5 a2 e2 h2=>?_)));have b8:=b9.fall mtd dd (u:=(b0,(m.fl++(m.q.p.at o.b o.p)).length,b1)) hF d5 b4 a2 e2;refine kpL [] .nil (nn (sr (asg U (nn (rt (r1 results73 U ?_))))));exact⟨_,rfl,MRet.ok (by rw[show y4r m.p o=_ from if_neg (λe=>c0 (by rw[show (m.q.p.at o.b o.p)=[] from e];rfl))];exact congrArg Except.ok (by unfold MQ.p;simp only[d3])) b8⟩
theorem v3s (b p r:Int)(w0:World)(hn:z4g b p=0)(hr:-4<=r/\r<=4):Rets prog 133 #[.agg #[.int .u8 b,.int .i64 p],.int .i64 r] w0 λv w'=>(∃b' p':Int,v=.tuple #[.agg #[.int .u8 b',.int .i64 p'],.int .i64 (if z4g (1-b) (z5q b p r)≠0 then 11 else 0)]/\(z4g (1-b) (z5q b p r)=0->b'=1-b/\p'=z5q b p r))/\Fr [] w0 w':=by
 have a3:=z3a hn;refine we [(0,.agg #[.int .u8 b,.int .i64 p]),(1,.int .i64 r)] func133 U ntmps133 U (.c2 U U) (sr (bx U (λg2 w1 a4 M q1 z1=>(al v4k U (λg4 w2 a5 D q2 z2=>(asg U (nn (sq (sr ?_)))))))));replace M:=M.ext q2;refine z0m U M z5r (cl (ev1 U) v6a (z4t _ _ _) U ?_);rintro _ w3 ⟨rfl,q3⟩;have z3:=q3.size;refine ne' U (nn (cd U (λc0=>?_) (λc0=>?_)));refine sr (z1s (cs:=[_,_]) z0g y4d z0q U ?_);replace D:=D.ext q3;exact z0j (vs:=[_,_]) U D y5s (λw4 D q4 z4=>(asg U (nn (rt (tr (rCT results133 U D z5r U (absurd hn c0)))))));refine sk (tn (sq (sr (mv U (cl (ev1 U) (mkC func159) (y9w _ _) U ?_)))));rintro _ w5 ⟨rfl,q5⟩;have z5:=q5.size;refine nt' U (nn (cd U (λc1=>?_) (λc1=>?_)));refine sr (z1s (cs:=[_,_]) z0g y4d z0q U ?_);replace D:=D.ext (q3.n1 q5);exact z0j (vs:=[_,_]) U D y5s (λw6 D q6 z6=>(asg U (nn (rt (tr (rCT results133 U D z5r U (absurd hr c1)))))));refine sk (tn (sr (fad U z5v ?_)));replace M:=M.ext (q3.n1 q5);refine z0i U M U na3 (mv U (z2w U (wi6 oo) (z1s (cs:=[_,_]) (ev2 U) y4d (z0f U (z0f U z0q)) U ?_)));refine al v4k U (λg6 w7 a6 I q7 z7=>(z0j (vs:=[_,_]) U I y5s (λw8 I q8 z8=>(kpL [(1,_),(2,_),(4,_),(6,_)] (.c4 U U U U) (nn (jn (ι:=Unit) [(4,_),(6,_)] (λ_j=>[]) (λ_j w'=>Fr [g6] w8 w'/\Blk w' g6 42 [.int .u8 (1-b),.int .i64 (z5q b p r)]) (.c2 U U) ?_ ?_))))));refine sr (fad U z5w ?_);replace M:=(M.ext q7).fr q8;refine z0i U M U x2g (eq' U (nn (cd U (λc2=>?_) (λc2=>?_))));refine rg (fad U z5v (z0i U M U na3 (mv U (z0x U (wi6 oo) (z1s (cs:=[_,_]) (ev2 U) y4d (z0f U (z0f U z0q)) U ?_)))));exact z0j (vs:=[_,_]) U I y5s (λw9 I q9 z9=>(kpL [(4,_),(6,_)] (.c2 U U) (nl (jE (()) (.c2 U U) ⟨((Fr.refl [g6] _).z1 q9),(by rw[show z5q b p r=p+r from if_pos c2,show 1-b=0 by omega];exact I)⟩))));exact sk (jE (()) (.c2 U U) ⟨(Fr.refl _ _),(by rw[show z5q b p r=p-r from if_neg c2,show 1-b=1 by omega];exact I)⟩);rintro _j a7 ⟨Z,I⟩;have b1:=Z.size;have a0:=I.lt;refine kpC [(4,_),(6,_)] (.c2 U U) (sq (sr (z0m U I z5r (cl (ev1 U) v6a (z4t _ _ _) U ?_))));rintro _ a8 ⟨rfl,O⟩;have b2:=O.size;refine ne' U (nn (cd U (λc3=>?_) (λc3=>?_)));refine sr (z1s (cs:=[_,_]) z0g y4d z0q U ?_);replace D:=(((D.ext (q3.n2 q5 q7)).fr q8).fr Z).ext O;exact z0j (vs:=[_,_]) U D y5s (λa9 D a1 b3=>(asg U (nn (rt (tr (rCT results133 U D z5r U ⟨_,rfl,⟨0,0,by rw[if_pos c3],λe=>absurd e c3⟩,(((q1.z6 q2 q3 q5 q7 q8 Z).n1 O).z1 a1)⟩))))));refine sk (tn (sr ?_));replace I:=I.ext O;refine z0m U I z5r ?_;replace D:=(((D.ext (q3.n2 q5 q7)).fr q8).fr Z).ext O;exact z0j (vs:=[_,_]) U D y5s (λb0 D a2 b4=>(asg U (nn (rt (rCT results133 U D z5r U ⟨_,rfl,⟨_,_,by rw[if_neg c3],λ_=>⟨rfl,rfl⟩⟩,(((q1.z6 q2 q3 q5 q7 q8 Z).n1 O).z1 a2)⟩)))))
def BdOIf (c:Prop)(Sτ I base:Nat)(w:World)(q:BdQ):Prop:=c->BdO Sτ I base w q
theorem BdOIf.ext {c:Prop}{D I base:Nat}{w w':World}{q:BdQ}(h:BdOIf c D I base w q)(hf:Fr [] w w'):BdOIf c D I base w' q:=λM=>(h M).ext hf
theorem BdOIf.tf {c:Prop}{D I base:Nat}{w w':World}{q:BdQ}{S:List Nat}(h:BdOIf c D I base w q)(hf:Fr S w w')(O:OffT w D S)(M:OffT w I S):BdOIf c D I base w' q:=λZ=>BdO.tf (h Z) hf O M
theorem x1n {p:MSt}{o:MOp}(h:o.b=0\/o.b=1):y0y p.B o.b o.p (z5q o.b o.p p.rk)=z9m p o:=by
 unfold y0y z9m;rcases h with e|e<;>rw[e]<;>rfl
theorem u3u (wS:World)(ka:MA)(m:MQ)(o:MOp)(w0:World)(hM:MkM τd 145 wS ka w0 m)(hi:MInv m.p)(hn:z4g o.b o.p=0):Rets prog 72 #[.pointer (some ⟨ka.gk,0,none⟩),opV o] w0 λr w'=>MRet τd 145 wS ka (z9k m.p o) r w':=by
 have i7:=hM.fr.size;have Z:=hM.k;have i1:=Z.lt;have i3:=hM.ly;have i2:=hM.lt;have h3:=(hM.y.out.blk ka.gy (by simp[z0v])).2;have e6:=z3a hn;obtain⟨n,d4⟩:∃n:Nat,o.p=(n:Int):=⟨o.p.toNat,oo⟩;obtain⟨⟨hf,hb⟩,h4,f2⟩:=z3o hi.B;have hv:BdOk m.q.p:=hi.B;have h8:=y3s hv o.b o.p;have e7:-4<=m.rk/\m.rk<=4:=hi.rk;have i4:=y5h o.b o.p m.rk;have i5:=y5h (1-o.b) (z5q o.b o.p m.rk) m.rk;refine we [(0,.pointer (some ⟨ka.gk,0,none⟩)),(1,opV o)] func72 U ntmps72 U (.c2 U U) ?_;have a3:=hM;refine sr (bx U (λg3 w1 h9 D q1 z1=>(asg U (nn (sq (sq ?_))))));replace hM:=a3.ext q1;intro a h;refine z0h none (λwb w'=>Fr [] wb w') z2o ?_;intro w2 q2;have z2:=q2.size;replace hM:=hM.ext q2;replace Z:=Z.ext (q1.n1 q2);replace D:=D.ext q2;have hC:Fr [] w2 w2:=Fr.refl _ _;have a4:=hM;have a0:=Z;have O:=D;refine z0e 0 h U λa h=>z0o 1 h U λa h=>z0c 2 h U z3f U λa h=>z1f (vs:=[_,_]) 3 h U (λ_ hw=>(a0.ext hw)) z4x U U λa h=>z0c 4 h U z4r U λa h=>z1f (vs:=[_,_]) 5 h U (λ_ hw=>(O.ext hw)) z5r U U λa h=>z0d 6 U (z0n h (z0a U (z0a U z0g)) x9f (y4w m.q o.b o.p _ hM.b.at oo hf hb h4 f2) ?_);rintro i8 w3 ⟨e0,hq⟩ a h;have z3:=hq.size;replace hM:=hM.ext hq;replace Z:=Z.ext hq;replace D:=D.ext hq;replace hC:=hC.next hq;have q3:=hq;rw[z9r hn]at e0;obtain⟨h6,h7,rfl,h0⟩:=e0.sl.form;refine z0b (z7s 7 hC h wn U underlying30 U λa h=>x1u 8 hC h wn U λa h=>z0r ?_);clear hC a4 a0 O;refine bk (h.sub (L':=[(0,_),(3,_),(19,_)]) (.c3 U U U)) (tn (cd U (λc0=>?_) (λc0=>?_)));exact sr (asg U (nn (rt (tr (r1 results72 U ⟨_,rfl,MRet.err (if_pos (List.length_eq_zero_iff.1 (show (m.q.p.at o.b o.p).length=0 by omega))) dd hM.fr⟩)))));have c9:(m.q.p.at o.b o.p)≠[]:=λe=>c0 (by rw[e];rfl);refine sk (tn (jn (ι:=Nat×Int×Int) [(0,_),(3,_)] (λz_=>[(5,.pointer (some ⟨z_.1,0,none⟩)),(6,.int .i64 (if z4g (1-o.b) (z5q o.b o.p m.rk)≠0 then 11 else 0))]) (λz_ w'=>Fr [] w3 w'/\(w3.heap.size<=z_.1/\Blk w' z_.1 42 [.int .u8 z_.2.1,.int .i64 z_.2.2])/\(z4g (1-o.b) (z5q o.b o.p m.rk)=0->z_.2.1=1-o.b/\z_.2.2=z5q o.b o.p m.rk)) (.c2 U U) ?_ ?_));intro a h;refine z0h none (λwb w'=>Fr [] wb w') z2o ?_;intro w4 q4;have z4:=q4.size;replace hM:=hM.ext q4;replace Z:=Z.ext q4;replace D:=D.ext q4;have hC:Fr [] w4 w4:=Fr.refl _ _;have a4:=hM;have a0:=Z;have O:=D;refine z0c 0 h U z4r U λa h=>z1f (vs:=[_,_]) 1 h U (λ_ hw=>(O.ext hw)) z5r U U λa h=>z0e 2 h U λa h=>z0o 3 h U λa h=>z0c 4 h U z3r U λa h=>z0l 5 h U (λ_ hw=>a0.ext hw) U na3 U λa h=>z1u 6 10 kr U ?_ ?_;refine z0n h (z0a U (z0a U z0g)) (mkC func133) (v3s o.b o.p m.rk _ hn e7) ?_;rintro _ w5 ⟨⟨bn,pn,rfl,a1⟩,q5⟩ a h;have z5:=q5.size;replace Z:=Z.ext q5;replace D:=D.ext q5;replace hC:=hC.next q5;refine z0b (z0e 7 h U λa h=>z0k 8 h U λa h=>z0k 9 h U λa h=>z0d 10 U (z0u h v4k U λw6 I q6 hz a h=>?_));obtain⟨b3,hg⟩:∃g,g=w5.heap.size:=⟨_,rfl⟩;rw[<-hg]at I h hz;have e1.gk_5:ka.gk<b3:=by have:=Z.lt;omega
 have e2:g3<b3:=by have:=D.lt;omega
 have z6:=q6.size;replace Z:=Z.ext q6;replace D:=D.ext q6;replace hC:=hC.next q6;refine z0b (z0d 11 U (z0p h U I U y5s ?_ (h1:=(by first|(simp[Value.oneCell',S];done)|exact z2x.one (m.ys.getD i yq0)))));clear h a;intro w7 a1 q7 hz a h;have z7:=q7.size;replace Z:=Z.fr q7;replace D:=D.fr q7;replace hC:=hC.sp q7;clear I hz;have I:Blk w7 b3 _ [_,_]:=a1;clear a1;refine z0b (z0d 12 U (z0t h U λa h=>?_));refine z0b (z0r ?_);clear hC a4 a0 O;exact bk (h.sub (L':=[(0,_),(3,_),(5,_),(6,_)]) (.c4 U U U U)) (jE ((b3,bn,pn)) (.c4 U U U U) ⟨(q4.z3 q5 q6 q7),⟨⟨sm,I⟩,a1⟩⟩);refine z0u h v4k U λw8 I q8 hz a h=>?_;obtain⟨b3,hg⟩:∃g,g=w4.heap.size:=⟨_,rfl⟩;rw[<-hg]at I h hz;have e1.gk_5:ka.gk<b3:=by have:=Z.lt;omega
 have e2:g3<b3:=by have:=D.lt;omega
 have z8:=q8.size;replace hC:=hC.next q8;refine z0b (z0d 6 U (z0n h (z0a U (z0a U z0g)) (mkC func133) (v3s o.b o.p m.rk _ hn e7) ?_));rintro _ w9 ⟨⟨bn,pn,rfl,a1⟩,q9⟩ a h;have z9:=q9.size;replace Z:=Z.ext (q8.n1 q9);replace D:=D.ext (q8.n1 q9);replace I:=I.ext q9;replace hC:=hC.next q9;refine z0b (z0e 7 h U λa h=>z0k 8 h U λa h=>z0k 9 h U λa h=>z0d 11 U (z0p h U I U y5s ?_ (h1:=(by first|(simp[Value.oneCell',S];done)|exact z2x.one (m.ys.getD i yq0)))));clear h a;intro f9 a1 d7 hz a h;have j9:=d7.size;replace Z:=Z.fr d7;replace D:=D.fr d7;replace hC:=hC.sp d7;clear I hz;have I:Blk f9 b3 _ [_,_]:=a1;clear a1;refine z0b (z0d 12 U (z0t h U λa h=>?_));refine z0b (z0r ?_);clear hC a4 a0 O;exact bk (h.sub (L':=[(0,_),(3,_),(5,_),(6,_)]) (.c4 U U U U)) (jE ((b3,bn,pn)) (.c4 U U U U) ⟨(q4.z3 q8 q9 d7),⟨⟨sm,I⟩,a1⟩⟩);rintro⟨g5,bn,pn⟩ i9 ⟨a9,⟨⟨f6,I⟩,a1⟩⟩;have k0:=a9.size;have f1:=I.lt;simp only at f6 I a1;refine kpC [(0,_),(3,_),(5,.pointer (some ⟨g5,0,none⟩)),(6,_)] (.c4 U U U U) (sq (sr (mv U (ne' U (nn (cd U (λc1=>?_) (λc1=>?_)))))));refine sr (mv U (asg U (kpL [(4,_)] (.cons U .nil) (nn (rt (tr (r1 results72 U ?_)))))));replace hM:=a3.ext (q1.n3 q2 q3 a9);have a8:z4g (1-o.b) (z5q o.b o.p m.rk)≠0:=λe=>c1 (by rw[if_neg (λh=>h e)]);exact⟨_,rfl,by rw[if_pos a8];exact MRet.err (by rw[z9k,if_neg c9,if_pos a8]) dd hM.fr⟩;have a8:z4g (1-o.b) (z5q o.b o.p m.rk)=0:=Classical.not_not.1 λe=>c1 (by rw[if_pos e];decide);obtain⟨rfl,rfl⟩:=a1 a8;have h5:=z3a a8;obtain⟨n2,d3⟩:∃n2:Nat,z5q o.b o.p m.rk=(n2:Int):=⟨(z5q o.b o.p m.rk).toNat,oo⟩;refine sk (tn (sq ?_));replace hM:=a3.ext (q1.n3 q2 q3 a9);intro a h;refine z0h none (λwb w'=>Fr [] wb w') z2o ?_;intro f0 b0;have k1:=b0.size;replace hM:=hM.ext b0;replace Z:=Z.ext (a9.n1 b0);replace D:=D.ext (a9.n1 b0);replace I:=I.ext b0;have hC:Fr [] f0 f0:=Fr.refl _ _;have a4:=hM;have a0:=Z;have O:=D;have a5:=I;refine z0c 0 h U z4r U λa h=>z1f (vs:=[_,_]) 1 h U (λ_ hw=>(O.ext hw)) z5r U U λa h=>z0e 2 h U λa h=>z0o 3 h U λa h=>z0c 4 h U z3r U λa h=>z0l 5 h U (λ_ hw=>a0.ext hw) U na3 U λa h=>z0w 7 h U (λ_ hw=>a5.ext hw) z5r U λa h=>z0e 8 h U λa h=>z0o 9 h U λa h=>z0c 10 h U z3r U λa h=>z0l 11 h U (λ_ hw=>a0.ext hw) U na3 U λa h=>z0d 6 U (z0n h (z0a U (z0a U z0g)) x7j (y2c _ _ _ _ oo) ?_);rintro _ j0 ⟨rfl,a6⟩ a h;have k2:=a6.size;replace hC:=hC.next a6;refine z0b (z0d 12 U (z0n h (z0a U (z0a U z0g)) x7j (y2c _ _ _ _ oo) ?_));rintro _ g1 ⟨rfl,a7⟩ a h;have k4:=a7.size;replace hM:=hM.ext (a6.n1 a7);replace Z:=Z.ext (a6.n1 a7);replace D:=D.ext (a6.n1 a7);replace I:=I.ext (a6.n1 a7);replace hC:=hC.next a7;refine z0b (u7o 13 kr kr kr hC h wn U U U U λa h=>z5n 14 h U (by first|exact i6 oo|rfl) U λa h=>z0d 15 U (z0t h U λa h=>?_));refine z0b (z0r ?_);clear hC a4 a0 O a5;refine bk (h.sub (L':=[(0,_),(3,_),(5,_),(7,_)]) (.c4 U U U U)) (tn (sq (sr (mv U (nlc U (fad U z3g (z0i U Z U y3i (lnS U underlying26 (mv U (nn (bl (lpK (ι:=Nat) [(0,_),(3,_),(5,_),(7,_),(51,_),(52,_)] (λi=>[(53,.int .i64 (i:Int))]) (λi w'=>Fr [] g1 w'/\i<=6/\∀k,k<i->¬((m.ys.getD k yq0).inn=true/\(m.ys.getD k yq0).pl=(v5d m.p o))) (λi=>6-i) 0 (.c7 U U U U U U U) ⟨Fr.refl _ _,⟨Nat.zero_le _,λj h=>absurd h oo⟩⟩ ?_))))))))))));rintro i j1 ⟨b1,⟨hi,hz⟩⟩;have k5:=b1.size;refine kpC [(0,_),(3,_),(5,_),(7,_),(51,_),(52,_),(53,_)] (.c7 U U U U U U U) (sr (lt' U (nn (sq (cd U (λc2=>?_) (λc2=>?_))))));refine sk (tn (sq (bl (sr ?_))));replace hM:=a3.ext ((q1.n6 q2 q3 a9 b0 a6 a7).n1 b1);refine z1d (yq0) U hM.y.out.sl U y3o z1j (λg8 e5=>?_);refine z1q U (e5 _ hM.y.out.sl) z2y (al z5m U (λg9 j2 i0 d9 e8 k6=>?_));refine z0j (vs:=[_,_,_,_,_]) U d9 z3b (λj3 d9 e9 k7=>?_) (h1:=(by first|(simp[Value.oneCell',S];done)|exact z2x.one (m.ys.getD i yq0)));refine nn (sq (rbo (r:=64) (L':=[(0,_),(3,_),(5,_),(7,_),(51,_),(52,_),(53,_)]) (((m.ys.getD i yq0).inn=true/\((m.ys.getD i yq0).pl=((min (z4v o.b o.p m.rk) (z4v (1-o.b) (z5q o.b o.p m.rk) m.rk))+1)))) (.c7 U U U U U U U) ?_ ?_));refine fad U z7p (z0i U d9 U na4 (mv U (gs 59 U (λg0=>?_) (λg0=>?_))));exact gY U (fad U z5e (gY U (z0i U d9 U na3 (gY U (mv U (gY U (eq' U (pkt U (rbe U (.c7 U U U U U U U))))))))));exact gN U (gN U (gN U (gN U (pkf U (rbe U (.c7 U U U U U U U))))));refine tn (cd U (λc3=>?_) (λc3=>?_));refine sr (asg U (kpL [(4,_)] (.cons U .nil) (nn (rt (rb (tr (tr (rb (tr (r1 results72 U ?_))))))))));replace hM:=a3.ext ((((q1.n6 q2 q3 a9 b0 a6 a7).n1 b1).n1 e8).z1 e9);exact⟨_,rfl,MRet.err (by rw[z9k,if_neg c9,if_neg (λh=>h a8),if_pos (⟨_,List.mem_map.2 ⟨m.ys.getD i yq0,z1a oo,rfl⟩,c3⟩:∃y∈m.p.ys,y.inn=true/\y.pl=v5d m.p o)]) dd hM.fr⟩;refine sk (bn' (tn (rg (z0x U (wi6 oo) (mv U (nl ?_))))));exact lpE (i+1) (.c7 U U U U U U U) ⟨(b1.z2 e8 e9),⟨oo,λk h=>by
  by_cases e:k=i;subst e;exact c3;exact hz k oo⟩⟩ oo
 have b6:¬ ∃y∈m.p.ys,y.inn=true/\y.pl=v5d m.p o:=by
  rintro⟨y,hy,h1,h2⟩;obtain⟨z,f5,rfl⟩:=List.mem_map.1 hy;obtain⟨k,f4,rfl⟩:=List.getElem_of_mem f5;refine hz k oo ?_;rw[List.getD,List.getElem?_eq_getElem f4];exact⟨h1,h2⟩
 refine ex (te (te (xh (tn (sq ?_)))));replace hM:=a3.ext ((q1.n6 q2 q3 a9 b0 a6 a7).n1 b1);intro a h;refine z0h none (λwb w'=>Fr [] wb w') z2o ?_;intro e4 b7;have k8:=b7.size;replace hM:=hM.ext b7;replace Z:=Z.ext (b1.n1 b7);replace D:=D.ext (b1.n1 b7);replace I:=I.ext (b1.n1 b7);have hC:Fr [] e4 e4:=Fr.refl _ _;have a4:=hM;have a0:=Z;have O:=D;have a5:=I;refine z0e 0 h U λa h=>z0o 1 h U λa h=>z0c 2 h U z3f U λa h=>z1f (vs:=[_,_]) 3 h U (λ_ hw=>(a0.ext hw)) z4x U U λa h=>z0c 4 h U z4r U λa h=>z1f (vs:=[_,_]) 5 h U (λ_ hw=>(O.ext hw)) z5r U U λa h=>z0w 6 h U (λ_ hw=>a5.ext hw) z5r U λa h=>z1u 7 11 kr U ?_ ?_;refine z0n h (z0a U (z0a U (z0a U z0g))) (mkC func124) (by have x:=y8v m.q o.b n n2 _ hM.b.at hv (by rw[<-d4];exact hn) (by rw[<-d3];exact a8) (by rw[<-d4];exact c9);rw[<-d4,<-d3]at x;exact x) ?_;rintro _ g4 ⟨⟨q',rfl,d5⟩,q19⟩ a h;have k9:=q19.size;replace Z:=Z.ext q19;replace D:=D.ext q19;replace I:=I.ext q19;replace hC:=hC.next q19;have hQ:BdOIf (¬4<(m.q.p.at o.b o.p).length+(m.q.p.at (1-o.b) (z5q o.b o.p m.rk)).length) 30 64 _ _ q':=λhc=>(d5 hc).1;have e3:=λhc=>(d5 hc).2;have d1:=λhc=>x1l (hQ hc) a3.f oo;refine z0b (z0e 8 h U λa h=>z0k 9 h U λa h=>z0k 10 h U λa h=>z0d 11 U (z0u h x2z U λj4 M b2 hz a h=>?_));obtain⟨a2,hg⟩:∃g,g=g4.heap.size:=⟨_,rfl⟩;rw[<-hg]at M h hz;have e1.gk_10:ka.gk<a2:=by have:=Z.lt;omega
 have b4:g3<a2:=by have:=D.lt;omega
 have b4:g5<a2:=by have:=I.lt;omega
 have l0:=b2.size;replace hM:=hM.ext (q19.n1 b2);replace Z:=Z.ext b2;replace D:=D.ext b2;replace I:=I.ext b2;first|replace hQ:=BdOIf.ext hQ b2|replace hQ:=BdOIf.tf hQ b2 (OffT.one M dd) (OffT.one M dd)
 replace hC:=hC.next b2;refine z0b (z0d 12 U (z0p h U M U y7s ?_ (h1:=(by first|(simp[Value.oneCell',S];done)|exact z2x.one (m.ys.getD i yq0)))));clear h a;intro g6 a1 b8 hz a h;have l1:=b8.size;replace Z:=Z.fr b8;replace D:=D.fr b8;replace I:=I.fr b8;first|replace hQ:=BdOIf.ext hQ b8|replace hQ:=BdOIf.tf hQ b8 (OffT.one M dd) (OffT.one M dd)
 replace hC:=hC.sp b8;clear M hz;have M:Blk g6 a2 _ [_,_]:=a1;clear a1;refine z0b (z0d 13 U (z0t h U λa h=>?_));refine z0b (z0r ?_);clear hC a4 a0 O a5;refine bk (h.sub (L':=[(0,_),(6,_),(10,_)]) (.c3 U U U)) (tn (sq (sr (mv U (eq' U (nn (cd U (λc4=>?_) (λc4=>?_))))))));have b5:¬4<(m.q.p.at o.b o.p).length+(m.q.p.at (1-o.b) (z5q o.b o.p m.rk)).length:=λe=>by rw[if_pos e]at c4;exact absurd c4 dd
 replace hQ:=hQ b5;replace d1:=d1 b5;refine rg (mv U (z0m U M z4x (nlc U (fad U z3f ?_))));replace hM:=a3.ext ((((q1.n6 q2 q3 a9 b0 a6 a7).n1 b1).n1 b7).z3 q19 b2 b8);refine z4p (cs':=u0e ka { m with q:=q' }) U U hM.k (by intro u hu;simp at hu;rcases hu with rfl|rfl<;>rfl) y7s U (λj5 d6 f7 l2=>?_);replace hM:=hM.beds mtd (hQ.low oo) d6 f7 d1;have Z:=hM.k;have a3:=hM;have f3:=hM;have hF:Lw.Own z1b 64 wS.heap.size _ (slv m.fa) m.fl:=hM.f;clear d6;refine kpL [(6,_)] (.cons U .nil) (nl (tn (sr (mv U (asg U (nn (rt (r1 results72 U ?_))))))));exact⟨_,rfl,by rw[c4];exact MRet.ok (by rw[z9k,if_neg c9,if_neg (λh=>h a8),if_neg b6,if_neg b5];exact congrArg Except.ok (by have hj:y0y m.q.p o.b o.p (z5q o.b o.p m.rk)=z9m m.p o:=x1n (p:=m.p) e6.1;unfold MQ.p;simp only[e3 b5];rw[hj])) hM⟩;refine sk (tn (sr (mv U (asg U (nn (rt (r1 results72 U ?_)))))));replace hM:=a3.ext ((((q1.n6 q2 q3 a9 b0 a6 a7).n1 b1).n1 b7).z3 q19 b2 b8);exact⟨_,rfl,MRet.err (by rw[z9k,if_neg c9,if_neg (λh=>h a8),if_neg b6,if_pos (Classical.not_not.1 λe=>c4 (if_neg e))];rw[if_pos (Classical.not_not.1 λe=>c4 (if_neg e))]) c4 hM.fr⟩;refine z0u h x2z U λj6 M d0 hz a h=>?_;obtain⟨a2,hg⟩:∃g,g=e4.heap.size:=⟨_,rfl⟩;rw[<-hg]at M h hz;have e1.gk_10:ka.gk<a2:=by have:=Z.lt;omega
 have b4:g3<a2:=by have:=D.lt;omega
 have b4:g5<a2:=by have:=I.lt;omega
 have l3:=d0.size;replace hM:=hM.ext d0;replace hC:=hC.next d0;refine z0b (z0d 7 U (z0n h (z0a U (z0a U (z0a U z0g))) (mkC func124) (by have x:=y8v m.q o.b n n2 _ hM.b.at hv (by rw[<-d4];exact hn) (by rw[<-d3];exact a8) (by rw[<-d4];exact c9);rw[<-d4,<-d3]at x;exact x) ?_));rintro _ j7 ⟨⟨q',rfl,d5⟩,q24⟩ a h;have l4:=q24.size;replace hM:=hM.ext q24;replace Z:=Z.ext (d0.n1 q24);replace D:=D.ext (d0.n1 q24);replace I:=I.ext (d0.n1 q24);replace M:=M.ext q24;replace hC:=hC.next q24;have hQ:BdOIf (¬4<(m.q.p.at o.b o.p).length+(m.q.p.at (1-o.b) (z5q o.b o.p m.rk)).length) 30 64 _ _ q':=λhc=>(d5 hc).1;have e3:=λhc=>(d5 hc).2;have d1:=λhc=>x1l (hQ hc) a3.f oo;refine z0b (z0e 8 h U λa h=>z0k 9 h U λa h=>z0k 10 h U λa h=>z0d 12 U (z0p h U M U y7s ?_ (h1:=(by first|(simp[Value.oneCell',S];done)|exact z2x.one (m.ys.getD i yq0)))));clear h a;intro g7 a1 b9 hz a h;have l5:=b9.size;replace Z:=Z.fr b9;replace D:=D.fr b9;replace I:=I.fr b9;first|replace hQ:=BdOIf.ext hQ b9|replace hQ:=BdOIf.tf hQ b9 (OffT.one M dd) (OffT.one M dd)
 replace hC:=hC.sp b9;clear M hz;have M:Blk g7 a2 _ [_,_]:=a1;clear a1;refine z0b (z0d 13 U (z0t h U λa h=>?_));refine z0b (z0r ?_);clear hC a4 a0 O a5;refine bk (h.sub (L':=[(0,_),(6,_),(10,_)]) (.c3 U U U)) (tn (sq (sr (mv U (eq' U (nn (cd U (λc4=>?_) (λc4=>?_))))))));have b5:¬4<(m.q.p.at o.b o.p).length+(m.q.p.at (1-o.b) (z5q o.b o.p m.rk)).length:=λe=>by rw[if_pos e]at c4;exact absurd c4 dd
 replace hQ:=hQ b5;replace d1:=d1 b5;refine rg (mv U (z0m U M z4x (nlc U (fad U z3f ?_))));replace hM:=a3.ext ((((q1.n6 q2 q3 a9 b0 a6 a7).n1 b1).n1 b7).z3 d0 q24 b9);refine z4p (cs':=u0e ka { m with q:=q' }) U U hM.k (by intro u hu;simp at hu;rcases hu with rfl|rfl<;>rfl) y7s U (λj8 d6 f8 l6=>?_);replace hM:=hM.beds mtd (hQ.low oo) d6 f8 d1;have Z:=hM.k;have a3:=hM;have f3:=hM;have hF:Lw.Own z1b 64 wS.heap.size _ (slv m.fa) m.fl:=hM.f;clear d6;refine kpL [(6,_)] (.cons U .nil) (nl (tn (sr (mv U (asg U (nn (rt (r1 results72 U ?_))))))));exact⟨_,rfl,by rw[c4];exact MRet.ok (by rw[z9k,if_neg c9,if_neg (λh=>h a8),if_neg b6,if_neg b5];exact congrArg Except.ok (by have hj:y0y m.q.p o.b o.p (z5q o.b o.p m.rk)=z9m m.p o:=x1n (p:=m.p) e6.1;unfold MQ.p;simp only[e3 b5];rw[hj])) hM⟩;refine sk (tn (sr (mv U (asg U (nn (rt (r1 results72 U ?_)))))));replace hM:=a3.ext ((((q1.n6 q2 q3 a9 b0 a6 a7).n1 b1).n1 b7).z3 d0 q24 b9);exact⟨_,rfl,MRet.err (by rw[z9k,if_neg c9,if_neg (λh=>h a8),if_neg b6,if_pos (Classical.not_not.1 λe=>c4 (if_neg e))];rw[if_pos (Classical.not_not.1 λe=>c4 (if_neg e))]) c4 hM.fr⟩
end Go.Proofs.YtlfdhllfmoplgaaGreatDoor
namespace Go.G08
open Go.Lw Go.G21
theorem y8b {p:MSt}{y:Int}{q:Yn}(h:MInv p)(O:1<=y/\y<=6)(M:y2m q)(I:q.ct=(p.y y).ct):MInv (p.setY y q):=by
 have hl:(y-1).toNat<p.ys.length:=by rw[h.ly];omega
 refine⟨h.rk,h.B,by show (p.ys.set _ q).length=6;rw[List.length_set];exact h.ly,h.lt,λk D=>?_,h.has,h.cnt,h.all,h.cv⟩;show y2m ((p.ys.set (y-1).toNat q).getD k yn0)/\((p.ys.set (y-1).toNat q).getD k yn0).ct=z3h p.tb k;rw[z1i hl];split;rename_i e;refine⟨M,I.trans ?_⟩;have:=(h.yn k D).2;rw[<-e]at this ⊢;exact this;exact h.yn k D
theorem x9i {st:List Pa}{p:Pa}(h:y5r st)(hp:y0x p):y5r (y0c st p):=by
 unfold y0c;split;intro i O;rw[List.length_take]at O;have e:∀k,k<st.length-1->(st.take (st.length-1)).getD k pa0=st.getD k pa0:=λk Z=>by
  rw[List.getD,List.getElem?_take,if_pos Z,List.getD]
 obtain⟨I,M⟩:=h i oo;refine⟨by rw[e i oo];exact I,λD=>?_⟩;rw[e i oo,e (i-1) oo];exact M D;rename_i hc;intro i O;rw[List.length_append,List.length_singleton]at O;have e:∀k,k<st.length->(st++[p]).getD k pa0=st.getD k pa0:=λk Z=>by
  rw[List.getD,List.getElem?_append_left Z,List.getD]
 by_cases hl:i<st.length;obtain⟨I,M⟩:=h i hl;refine⟨by rw[e i hl];exact I,λD=>?_⟩;rw[e i hl,e (i-1) oo];exact M D;obtain rfl:i=st.length:=by omega
 have ep:(st++[p]).getD st.length pa0=p:=by simp[List.getD]
 refine⟨by rw[ep];exact hp,λD=>?_⟩;rw[ep,e (st.length-1) oo];exact λhh=>hc ⟨D,hh⟩
theorem x0m:∀ {l st:List Pa},y5r st->j0c l->y5r (z4w st l)
 | [],_,h,_=>h
 | p::l,st,h,hv=>x0m (l:=l) (x9i h (hv p sp0)) (λq D=>hv q (List.mem_cons_of_mem _ D))
theorem u9i {y:Yn}{O:Int}{l:List Pa}(h:goE y O l=0):y2m (goS y O l):=by
 unfold goE at h;split at h;exact absurd h (by assumption);rename_i I;have I:=v3i (Classical.not_not.1 I);split at h;omega;rename_i Z;split at h;omega;rename_i hv;split at h;omega;rename_i D;have D:y.inn=true:=by simpa using D
 split at h;omega;have M:=I.2;rw[if_pos D]at M;refine⟨I.1,?_⟩;show if y.inn=true then _ else _
 rw[if_pos D];exact⟨Classical.not_not.1 Z,by show (z4w y.pe l).length<=4096;omega,x0m M.2.2 (Classical.not_not.1 hv)⟩
theorem z9j (B:Bd){b n:Int}(h:z4g b n=0)(s:List LId):(B.put b n s).flat.length+(B.at b n).length=B.flat.length+s.length:=by
 have:=(List.perm_iff_count.2 (λi=>by rw[List.count_append,List.count_append];exact z4j B h s i):((B.put b n s).flat++B.at b n).Perm (B.flat++s)).length_eq;simpa using this
theorem u0m {B:Bd}(h:BdOk B){b n:Int}(hn:z4g b n=0):BdOk (B.put b n []):=h.put hn sp0 sp0 λi=>by
 have:=List.nodup_iff_count.1 h.nd i
 simp only[List.count_nil];omega
theorem v6o {p q:MSt}{o:MOp}(h:MInv p)(hn:z4g o.b o.p=0)(e:y4r p o=.ok q):MInv q:=by
 unfold y4r at e;split at e;cases e;cases e;refine⟨h.rk,u0m h.B hn,h.ly,h.lt,h.yn,λi I=>?_,?_,h.all,h.cv⟩;rcases y1b hn I with k|k
 cases k;exact h.has i k;have D:=z9j p.B hn [];have M:=h.cnt;show (p.B.put o.b o.p []).flat.length+(p.fa++p.B.at o.b o.p).length<=z5p p.tb;rw[List.length_append];simp only[List.length_nil]at D;omega
theorem y4h {p:MSt}{o:MOp}(h:o.b=0\/o.b=1)(i:LId):(z9m p o).count i=(p.B.at o.b o.p).count i+(p.B.at (1-o.b) (z5q o.b o.p p.rk)).count i:=by
 unfold z9m;rcases h with e|e
 rw[e,if_neg dd,List.count_append,show (1:Int)-0=1 from U];omega;rw[e,if_pos U,List.count_append,show (1:Int)-1=0 from U]
theorem v6t {p q:MSt}{o:MOp}(h:MInv p)(hn:z4g o.b o.p=0)(e:z9k p o=.ok q):MInv q:=by
 unfold z9k at e;split at e;cases e;split at e;cases e;rename_i D;have D:=Classical.not_not.1 D;split at e;cases e;split at e;cases e;rename_i h4;cases e;have hb:=(z3a hn).1;have hc:=y4h (p:=p) (o:=o) hb;have a0:(z9m p o).length=(p.B.at o.b o.p).length+(p.B.at (1-o.b) (z5q o.b o.p p.rk)).length:=by
  have:=(List.perm_iff_count.2 (λi=>by rw[List.count_append];exact hc i):(z9m p o).Perm (p.B.at o.b o.p++p.B.at (1-o.b) (z5q o.b o.p p.rk))).length_eq;simpa using this
 have I:∀i∈z9m p o,i∈p.B.flat:=λi Z=>by
  have M:=List.count_pos_iff.2 Z;rw[hc i]at M;by_cases k:0<(p.B.at o.b o.p).count i;exact y0f (List.count_pos_iff.1 k);exact y0f (List.count_pos_iff.1 (show 0<(p.B.at (1-o.b) (z5q o.b o.p p.rk)).count i by omega))
 have O:(p.B.put o.b o.p []).at (1-o.b) (z5q o.b o.p p.rk)=p.B.at (1-o.b) (z5q o.b o.p p.rk):=by
  rw[v3e p.B hn D,if_neg oo]
 have a1:=u0m h.B hn;refine⟨h.rk,a1.put D oo (λi Z=>h.B.nm i (I i Z)) (λi=>?_),h.ly,h.lt,h.yn,λi Z=>?_,?_,h.all,h.cv⟩;have M:=z4j p.B hn [] i;have h2:=List.nodup_iff_count.1 h.B.nd i;rw[O,hc i];simp only[List.count_nil]at M;omega;rcases y1b D Z with k|k
 exact h.has i (I i k);rcases y1b hn k with k|k
 cases k;exact h.has i k;have M:=z9j p.B hn [];have h2:=z9j (p.B.put o.b o.p []) D (z9m p o);have h3:=h.cnt;rw[O,a0]at h2;simp only[List.length_nil]at M;show ((p.B.put o.b o.p []).put (1-o.b) (z5q o.b o.p p.rk) (z9m p o)).flat.length+p.fa.length<=z5p p.tb;omega
theorem x8w {p q:MSt}{o:MOp}{th st:List LId}(h:MInv p)(hy:1<=o.y/\o.y<=6)(hn:z4g o.b o.p=0)(hs:st=[]\/(st=p.B.at o.b o.p/\st.length<4))(e:x1a p o th st=.ok q):MInv q:=by
 unfold x1a at e;split at e;cases e;rename_i hm;split at e;cases e;rename_i hc;cases e;have hm:=Classical.not_not.1 hm;obtain⟨j,hj,a6⟩:∃j:Nat,j<6/\o.y=(j:Int)+1:=⟨(o.y-1).toNat,oo,oo⟩;have O:(o.y-1).toNat=j:=by omega
 have M:=h.yn j hj;have a7:p.y o.y=p.ys.getD j yn0:=by unfold MSt.y;rw[O]
 rw[<-a7]at M;have a5:j<p.ys.length:=by rw[h.ly];exact hj
 have I:j<p.tb.length:=by rw[h.lt];exact hj
 have a0:(p.y o.y).inn=true/\(p.y o.y).ct≠2048:=by
  unfold mkE at hm;split at hm;exact absurd hm (by assumption);split at hm;omega;rename_i D;split at hm;omega;rename_i hk;exact⟨by simpa using D,hk⟩
 have a8:=M.1.1;have Z:∀i∈p.B.flat,i≠⟨o.y,(p.y o.y).ct⟩:=λi D e=>by
  have:=h.has i D;rw[e]at this;obtain⟨_,_,_,h4⟩:=this;simp only at h4;rw[O,M.2]at h4;omega
 have a1:∀i∈st,i∈p.B.flat:=λi D=>by
  rcases hs with e|⟨e,_⟩
  rw[e]at D;cases D;rw[e]at D;exact y0f D
 have a2:p.row o.y=p.tb.getD j []:=by unfold MSt.row;rw[O]
 simp only[O,a2];have a4:(st++[(⟨o.y,(p.y o.y).ct⟩:LId)]).length<=4:=by
  rw[List.length_append,List.length_singleton];rcases hs with e|⟨_,e⟩
  rw[e];simp;omega
 have a3:=y8d p.tb j (p.tb.getD j []++[(⟨o.b,(p.y o.y).nw,th,(p.y o.y).pe⟩:Lp)]) I;rw[List.length_append,List.length_singleton,show (p.tb.getD j []).length=z3h p.tb j from U]at a3;refine⟨h.rk,h.B.put hn a4 (λi D=>?_) (λi=>?_),by show (p.ys.set _ _).length=6;rw[List.length_set];exact h.ly,by show (p.tb.set _ _).length=6;rw[List.length_set];exact h.lt,λk hk=>?_,λi D=>?_,?_,?_,h.cv⟩;rcases List.mem_append.1 D with k|k
 exact h.B.nm i (a1 i k);rw[List.mem_singleton.1 k];unfold y1j;simp only;omega;have hd:=List.nodup_iff_count.1 h.B.nd i;rw[List.count_append,List.count_singleton];by_cases e:(⟨o.y,(p.y o.y).ct⟩:LId)=i;have h0:p.B.flat.count i=0:=List.count_eq_zero.2 λk=>Z i k e.symm;have h1:st.count i=0:=List.count_eq_zero.2 λk=>Z i (a1 i k) e.symm;rw[h0,h1];split<;>omega
 rw[if_neg (by simpa using e)];rcases hs with e|⟨e,_⟩
 rw[e];simp only[List.count_nil];omega;rw[e];omega;show y2m ((p.ys.set j (mkS (p.y o.y))).getD k yn0)/\((p.ys.set j (mkS (p.y o.y))).getD k yn0).ct=z3h (p.tb.set j _) k;rw[z1i a5,z9d I];by_cases e:j=k;rw[if_pos e,if_pos e];refine⟨⟨⟨by show 0<=(p.y o.y).ct+1;omega,by show (p.y o.y).ct+1<=2048;omega⟩,?_⟩,?_⟩;have h2:=M.1.2;rw[if_pos a0.1]at h2;show if true=true then _ else _
 rw[if_pos U];exact⟨h2.1,by show ([]:List Pa).length<=4096;simp,λi D=>by simp[mkS]at D⟩;show (p.y o.y).ct+1=_;rw[M.2,List.length_append,List.length_singleton];rfl;rw[if_neg e,if_neg e];exact h.yn k hk;rcases y1b hn D with k|k
 rcases List.mem_append.1 k with k|k
 exact y9d I (h.has i (a1 i k));rw[List.mem_singleton.1 k];have:=z9i (T:=p.tb.set j (p.tb.getD j []++[(⟨o.b,(p.y o.y).nw,th,(p.y o.y).pe⟩:Lp)])) (y:=j) (n:=z3h p.tb j) (by rw[List.length_set];exact I) (by rw[z9d I,if_pos U,List.length_append,List.length_singleton];exact Nat.lt_succ_self _);rwa [<-a6,<-M.2]at this;exact y9d I (h.has i k);have h1:=z9j p.B hn (st++[(⟨o.y,(p.y o.y).ct⟩:LId)]);have h2:=h.cnt;have h3:st.length<=(p.B.at o.b o.p).length:=by
  rcases hs with e|⟨e,_⟩
  rw[e];simp;rw[e];exact Nat.le_refl _
 rw[List.length_append,List.length_singleton]at h1;show (p.B.put o.b o.p _).flat.length+p.fa.length<=z5p (p.tb.set j _);omega;have:=h.all;show z5p (p.tb.set j _)<=2048;omega
theorem u8q {p q:MSt}{o:MOp}(h:MInv p)(Z:1<=o.y/\o.y<=6)(hd:z5z o.d)(e:inM p o=.ok q):MInv q:=by
 unfold inM at e;split at e;cases e;rename_i D;cases e;have D:=Classical.not_not.1 D;refine y8b h Z ?_ U;have I:y2m (p.y o.y):=by
  unfold enE at D;split at D;exact absurd D (by assumption);rename_i M;exact v3i (Classical.not_not.1 M)
 refine⟨I.1,?_⟩;show if true=true then _ else _
 rw[if_pos U];refine⟨?_,by show ([]:List Pa).length<=4096;simp,λi O=>by simp[enS]at O⟩;show x8k (if o.d=1 then 179 else -13);split<;>decide
theorem u1u {p q:MSt}{o:MOp}(h:MInv p)(O:1<=o.y/\o.y<=6)(e:x8l p o=.ok q):MInv q:=by
 unfold x8l at e;split at e;cases e;rename_i D;cases e;have D:=Classical.not_not.1 D;refine y8b h O ?_ U;have I:y2m (p.y o.y):=by
  unfold lvE at D;split at D;exact absurd D (by assumption);rename_i M;exact v3i (Classical.not_not.1 M)
 refine⟨I.1,?_⟩;show if false=true then _ else _
 rw[if_neg dd];exact⟨rfl,rfl,rfl⟩
theorem y2f {p q:MSt}{y M en:Int}(h:MInv p)(I:1<=y/\y<=6)(e:y6e p y M en=.ok q):MInv q/\q.B=p.B/\q.rk=p.rk:=by
 unfold y6e at e;split at e;cases e;rename_i D;cases e;exact⟨y8b h I (u9i (Classical.not_not.1 D)) U,rfl,rfl⟩
theorem v4u {p q:MSt}{o:MOp}(h:MInv p)(D:1<=o.y/\o.y<=6)(e:y5u p o=.ok q):MInv q:=by
 unfold y5u at e;split at e;cases e;exact(y2f h D e).1
theorem v8s {p q:MSt}{o:MOp}(h:MInv p)(D:1<=o.y/\o.y<=6)(hn:z4g o.b o.p=0)(e:y3a p o=.ok q):MInv q:=by
 unfold y3a at e;split at e;cases e;split at e;cases e;rename_i r I;exact x8w (y2f h D I).1 D hn (.inl U) e
theorem v7g {p q:MSt}{o:MOp}(h:MInv p)(D:1<=o.y/\o.y<=6)(hn:z4g o.b o.p=0)(e:y2d p o=.ok q):MInv q:=by
 unfold y2d at e;split at e;cases e;split at e;cases e;rename_i r I;split at e;cases e;exact x8w (y2f h D I).1 D hn (.inr ⟨rfl,oo⟩) e
theorem x6m {p:MSt}{d:Int}{y D:Yn}(e:z8g p d y=.ok D):(y2m y->y2m D)/\D.ct=y.ct:=by
 unfold z8g at e;split at e;cases e;exact⟨id,rfl⟩;split at e;cases e;rename_i I;cases e;exact⟨λ_=>u9i (Classical.not_not.1 I),rfl⟩
theorem x0u {p:MSt}{d:Int}:∀ {l l':List Yn},z4y p d l=.ok l'->l'.length=l.length/\∀k,(y2m (l.getD k yn0)->y2m (l'.getD k yn0))/\(l'.getD k yn0).ct=(l.getD k yn0).ct
 | [],l',e=>by cases e;exact⟨rfl,λk=>⟨id,rfl⟩⟩
 | y::l,l',e=>by
  unfold z4y at e
  split at e
  ·cases e
  rename_i Z M
  split at e
  ·cases e
  rename_i O hl
  cases e
  obtain⟨D,I⟩:=x0u hl
  refine⟨by simp[D],λk=>?_⟩
  cases k with
  | zero=>exact x6m M
  | succ k=>simpa only[List.getD_cons_succ] using I k
def j1p (l:List Cx):Prop:=∀c∈l,-1048576<=c.n/\c.n<=1048576
theorem u2l {l l':List Cx}{c:Cx}(h:j1p l)(e:x0x l c=.ok l'):j1p l':=by
 unfold x0x at e;dsimp only at e;generalize (if 0<z6k c.a c.b then (c.b,c.a) else (c.a,c.b))=kk at e;split at e;cases e;rename_i M;split at e;cases e;intro x D;exact h x (List.mem_filter.1 D).1;cases e;intro x D;unfold y9l at D;split at D;obtain⟨z,I,rfl⟩:=List.mem_map.1 D;split;simp only;omega;exact h z I;rcases List.mem_append.1 D with k|k
 exact h x k;rw[List.mem_singleton.1 k];simp only;omega
theorem y7e:∀ {r l l':List Cx},j1p l->z6a l r=.ok l'->j1p l'
 | [],l,l',h,e=>by cases e;exact h
 | c::r,l,l',h,e=>by
  unfold z6a at e
  split at e
  ·cases e
  rename_i I D
  exact y7e (u2l h D) e
theorem y8c {p q:MSt}{d:Int}(h:MInv p)(hd:-4<=p.rk+stI d/\p.rk+stI d<=4)(e:z9l p d=.ok q):MInv q/\q.rk=p.rk+stI d:=by
 unfold z9l at e;split at e;cases e;rename_i ys I;split at e;cases e;rename_i cr D;cases e;obtain⟨Z,M⟩:=x0u I;exact⟨⟨hd,h.B,Z.trans h.ly,h.lt,λk O=>⟨(M k).1 (h.yn k O).1,(M k).2.trans (h.yn k O).2⟩,h.has,h.cnt,h.all,y7e h.cv D⟩,rfl⟩
theorem x6c {r:Int}(M:-4<=r/\r<=4):∀ {n:Nat} {p q:MSt},MInv p->z5t n p r=.ok q->MInv q
 | 0,p,q,h,e=>by cases e;exact h
 | n+1,p,q,h,e=>by
  unfold z5t at e
  split at e
  ·cases e;exact h
  rename_i I
  split at e
  ·cases e
  rename_i Z D
  have O:=h.rk
  refine x6c M (y8c h ?_ D).1 e
  unfold stI
  split<;>split<;>omega
theorem x6d {p q:MSt}{o:MOp}(h:MInv p)(e:doM p o=.ok q):MInv q:=by
 unfold doM at e;split at e;cases e;rename_i Z;obtain⟨_,M,D,h3,I,O⟩:=z7c (Classical.not_not.1 Z);unfold opM at e;split at e;exact u8q h (D oo) (M oo) e;split at e;exact u1u h (D oo) e;split at e;exact x6c (O oo) h e;split at e;exact v8s h (D oo) (I oo) e;split at e;exact v7g h (D oo) (I oo) e;split at e;exact v4u h (D oo) e;split at e;exact v6t h (I oo) e;exact v6o h (I oo) e
end Go.G08
namespace Go.G08
open Go.Lw Go.G21
section
variable {τ:TyK} {Mt:Nat} {wS w w' w2:World} {a:MA} {m:MQ} {j:Nat} {u:SV} {q:LpQ}
theorem MkM.row (h:MkM τ Mt wS a w m)(D:MtOk τ Mt)(hj:j<6)(hq:LpO τ wS.heap.size w q)(a1:∀k∈z0v (slv q.th),k∉z0v (slv m.fa))
    (h1:Lw.Own z6j τ.L wS.heap.size w' (slv u) ((m.ts.getD j tq0).2++[q])) (f1:Fr (z0v (slv (m.ts.getD j tq0).1)) w w') (hx:slv u=slv (m.ts.getD j tq0).1\/z0v (slv u)=z0v (slv (m.ts.getD j tq0).1)\/z0v (slv u)=[w.heap.size])
    (h2:Lw.Own z3z τ.T wS.heap.size w2 a.TV (m.ts.set j (u,(m.ts.getD j tq0).2++[q]))) (f2:Fr [a.gt] w' w2):MkM τ Mt wS a w2 { m with ts:=m.ts.set j (u,(m.ts.getD j tq0).2++[q]) }:=by
  have hl:j<m.ts.length:=by rw[h.lt];exact hj
  have I:∀T,T≠τ.L->OffT w T (z0v (slv (m.ts.getD j tq0).1)):=λT hT=>z6e (h.t.ins j hl) (Ne.symm hT)
  have M:=z1w h.t.out f1 (I _ D.o.tl)
  have O:∀T,T≠τ.T->OffT w' T [a.gt]:=λT hT=>z6e M (Ne.symm hT)
  refine⟨y2o (y2o h.k f1 (I _ D.l)) f2 (O _ D.t),BdO.tf (BdO.tf h.b f1 (I _ (Ne.symm D.o.ls)) (I _ (Ne.symm D.o.li))) f2 (O _ (Ne.symm D.o.ts)) (O _ (Ne.symm D.o.ti)),
    (h.y.tf f1 (I _ D.o.yl) (I _ (Ne.symm D.o.lp))).tf f2 (O _ D.o.yt) (O _ (Ne.symm D.o.tp)),h.t.put D.o hl hq h1 f1 hx h2 f2,(h.c.tf f1 (I _ D.l)).tf f2 (O _ D.t),z1w (z1w h.f f1 (I _ (Ne.symm D.o.li))) f2 (O _ (Ne.symm D.o.ti)),h.fb,λi hi p Z=>?_,h.ly,by rw[List.length_set];exact h.lt,h.gk,h.gc,(h.fr.step f1 (y6n (h.t.ins j hl) (by simp[v4m])) λk hk a0=>?_).step f2 (y6n M (by simp[v4m])) λk hk a0=>?_⟩
  · simp only at Z
    rw[z1i hl]at Z
    split at Z
    · rcases List.mem_append.1 Z with k|k
      · exact h.ft j hj p k
      · rw[List.mem_singleton.1 k];exact a1
    · exact h.ft i hi p Z
  · have:=((h.t.ins j hl).blk k hk).1;omega
  · have:=(h.t.out.blk k hk).1;omega
theorem u5x {p:MSt}{o:MOp}{st:List LId}(h:MInv p)(hy:1<=o.y/\o.y<=6)(hs:st=[]\/(st=p.B.at o.b o.p/\st.length<4))(Z:mkE (p.y o.y)=0) :
    (st++[(⟨o.y,(p.y o.y).ct⟩:LId)]).length<=4/\(∀i∈st++[(⟨o.y,(p.y o.y).ct⟩:LId)],y1j i)/\∀i,p.B.flat.count i+(st++[(⟨o.y,(p.y o.y).ct⟩:LId)]).count i<=(p.B.at o.b o.p).count i+1:=by
  obtain⟨j,hj,a4⟩:∃j:Nat,j<6/\o.y=(j:Int)+1:=⟨(o.y-1).toNat,oo,oo⟩
  have O:(o.y-1).toNat=j:=by omega
  have M:=h.yn j hj
  have a2:p.y o.y=p.ys.getD j yn0:=by unfold MSt.y;rw[O]
  rw[<-a2]at M
  have a1:(p.y o.y).inn=true/\(p.y o.y).ct≠2048:=by
    unfold mkE at Z
    split at Z
    · exact absurd Z (by assumption)
    · split at Z
      · omega
      · rename_i D
        split at Z
        · omega
        · rename_i hk;exact⟨by simpa using D,hk⟩
  have a3:=M.1.1
  have I:∀i∈p.B.flat,i≠⟨o.y,(p.y o.y).ct⟩:=λi D e=>by
    have:=h.has i D
    rw[e]at this
    obtain⟨_,_,_,h4⟩:=this
    simp only at h4
    rw[O,M.2]at h4
    omega
  have a0:∀i∈st,i∈p.B.flat:=λi D=>by
    rcases hs with e|⟨e,_⟩
    · rw[e]at D;cases D
    · rw[e]at D;exact y0f D
  refine⟨?_,λi D=>?_,λi=>?_⟩
  · rw[List.length_append,List.length_singleton]
    rcases hs with e|⟨_,e⟩
    · rw[e];simp
    · omega
  · rcases List.mem_append.1 D with k|k
    · exact h.B.nm i (a0 i k)
    · rw[List.mem_singleton.1 k];unfold y1j;simp only;omega
  · have hd:=List.nodup_iff_count.1 h.B.nd i
    rw[List.count_append,List.count_singleton]
    by_cases e:(⟨o.y,(p.y o.y).ct⟩:LId)=i
    · have h0:p.B.flat.count i=0:=List.count_eq_zero.2 λk=>I i k e.symm
      have h1:st.count i=0:=List.count_eq_zero.2 λk=>I i (a0 i k) e.symm
      rw[h0,h1];split<;>omega
    · rw[if_neg (by simpa using e)]
      rcases hs with e|⟨e,_⟩
      · rw[e];simp only[List.count_nil];omega
      · rw[e];omega
end
end Go.G08
namespace Go.Lw
theorem y3l {ι:Type}{pq:Option Nat}{P:Program}{ops:Array Oper}{K:Act->World->Prop}{C:World->Prop}{fu:Nat}{listed:Array Bool}{a:Act}{w:World}{ds:List Nat}{n:Nat}{L:List (Nat×Value)}(h:AgM ds a n L)(Z:List (Nat×Value))(_hs:Sub Z L)(D:Array Bool)(O:Nat)(M:ι->List (Nat×Value))(R:ι->World->Prop)
    (main:(∀(i:ι) l2 I w',l2=D->AgM ds I n (Z++M i)->R i w'->z0y pq P ops (z0s K) C O l2 I w')->z0y pq P ops (z0s K) C fu listed a w)
    (tail:∀i I w',R i w'->AgM ds I n (Z++M i)->z0y pq P ops (z0s K) C O D I w'):z0y pq P ops (z0s K) C fu listed a w:=
  main λi l2 I w' e ha hr=>by subst e;exact tail i I w' hr ha
end Go.Lw
namespace Go.Proofs.YtlfdhllfmoplgaaGreatDoor
open Go.Lw Go.G21 Go.G08 _root_.Go.Proofs.Tryz
theorem j3b:BuildAt prog 155 [(0,1),(1,1),(2,1),(3,1)] [(.int .u8 0),(.bool false),(.slice none 0 0),(.slice none 0 0)]:=BuildAt.struct underlying155 (λ_=>kr) (λ_=>kr)
theorem y9v:CallOf prog 65:=mkC func65
theorem v1v:CallOf prog 167:=mkC func167
theorem y1r:z1c prog 145 3 4:=λ_ _=>kr
theorem u5s:z1c prog 249 0 0:=λ_ _=>kr
theorem u6l:z1c prog 249 1 1:=λ_ _=>kr
theorem u4z:z1c prog 249 2 2:=λ_ _=>kr
theorem u4n:z1t prog 123 1:=λ_=>kr
theorem z3v (v:Value)(l:List LId)(w0:World)(I:Sl z1b w0 v l)(hl:l.length<=100000):Rets prog 65 #[v] w0 λr w'=>∃g,r=.slice (some ⟨g,0,none⟩) l.length l.length/\w0.heap.size<=g/\Lw.Own z1b 64 w0.heap.size w' r l/\Fr [] w0 w':=by
 obtain⟨A,c,rfl,a0,hM,hA⟩:=id I;clear hA;unfold maxLen at hM;refine we [(0,.slice A l.length c)] func65 U ntmps65 U (.cons U .nil) ?_;have M:=I;refine sr (asg U (nn (sr (mv U (lnS U underlying30 (z1h (m:=l.length) (c:=l.length) (id0) U z3x z7r U (λZ w1 a1 D O z1=>(asg U (nn (sr (mv U (mv U ?_))))))))))));replace I:=M.ext O;refine z8d (zs:=List.replicate l.length id0) (by rw[List.length_replicate];rfl) U (by rw[List.length_replicate];exact D) I (by rw[List.length_replicate]) z3x (λw2 D q2 z2=>?_);rw[List.length_replicate]at D;exact nn (sr (mv U (asg U (nn (rt (r1 results65 U ⟨_,rfl,Z,rfl,oo,D.low oo,(O.z1 q2)⟩))))))
theorem u0z (ts:List TQ)(j:Nat):(ts.getD j tq0).2.length<=z5p (z2g ts):=by
 by_cases h:j<ts.length;have k:=y8d (z2g ts) j [] (by rw[List.length_map];exact h);have e:z3h (z2g ts) j=(ts.getD j tq0).2.length:=by
  unfold z3h;rw[List.getD,List.getD,List.getElem?_map,List.getElem?_eq_getElem h];exact List.length_map ..
 rw[List.length_nil,e]at k;omega;rw[List.getD,List.getElem?_eq_none oo];exact Nat.zero_le _
theorem j0r {o:MOp}{ths st:List LId}{th sn u:SV}{q':BdQ}(m:MQ)(j:Nat)(D:(o.y-1).toNat=j)(I:q'.p=m.q.p.put o.b o.p (st++[(⟨o.y,(m.ys.getD j yq0).ct⟩:LId)])) :
    { m with q:=q',ys:=m.ys.set j ⟨true,(m.ys.getD j yq0).pl,(m.ys.getD j yq0).ct+1,false,sv0,[]⟩,ts:=m.ts.set j (u,(m.ts.getD j tq0).2++[(⟨o.b,(m.ys.getD j yq0).nw,th,sn,ths,(m.ys.getD j yq0).pes⟩:LpQ)]) }.p =
      { m.p with B:=m.p.B.put o.b o.p (st++[(⟨o.y,(m.ys.getD j yq0).p.ct⟩:LId)]),ys:=m.p.ys.set (o.y-1).toNat (mkS (m.ys.getD j yq0).p),tb:=m.p.tb.set (o.y-1).toNat (m.p.row o.y++[(⟨o.b,(m.ys.getD j yq0).p.nw,ths,(m.ys.getD j yq0).p.pe⟩:Lp)]) }:=by
  unfold MSt.row
  rw[D]
  have M:(z2g m.ts).getD j []=(m.ts.getD j tq0).2.map LpQ.p:=by
    rw[List.getD,List.getD,List.getElem?_map]
    cases m.ts[j]?<;>rfl
  simp only[MQ.p,I,List.map_set,M,List.map_append,List.map_cons,List.map_nil,mkS]
theorem v1k (wS:World)(ka:MA)(m:MQ)(o:MOp)(th:SV)(j8:List LId)(s4:Value)(st:List LId)(w0:World)(hM:MkM τd 145 wS ka w0 m)(hi:MInv m.p)(hy:1<=o.y/\o.y<=6)(hn:z4g o.b o.p=0)(g3:Lw.Own z1b 64 wS.heap.size w0 (slv th) j8)(r9:∀k∈z0v (slv th),k∉z0v (slv m.fa))(b5:Sl z1b w0 s4 st)(hs:st=[]\/(st=m.q.p.at o.b o.p/\st.length<4)):Rets prog 132 #[.pointer (some ⟨ka.gk,0,none⟩),opV o,.slice th.1 th.2.1 th.2.2,s4] w0 λr w'=>MRet τd 145 wS ka (x1a m.p o j8 st) r w':=by
 have A1:=hM.fr.size;have M:=hM.k;have y6:=M.lt;have y7:=hM.ly;have o6:=hM.lt;have y1:=(hM.y.out.blk ka.gy (by simp[z0v])).2;obtain⟨j,hj,y9⟩:∃j:Nat,j<6/\o.y=(j:Int)+1:=⟨(o.y-1).toNat,oo,oo⟩;have r4:(o.y-1).toNat=j:=by omega
 have l3:m.p.y o.y=(m.ys.getD j yq0).p:=by rw[u8l,r4]
 obtain⟨AS,cS,rfl,y4⟩:=b5.form;have y8:=z3a hn;obtain⟨n,h9⟩:∃n:Nat,o.p=(n:Int):=⟨o.p.toNat,oo⟩;have hv:BdOk m.q.p:=hi.B;have A0:st.length<=3:=by rcases hs with e|⟨_,e⟩;rw[e];simp;omega
 have x8:z5p (z2g m.ts)<=2048:=hi.all;have y2:=hM.gk;have r7:∀k∈z0v (slv (m.ts.getD j tq0).1),k<w0.heap.size:=λk M=>((hM.t.ins j (by rw[o6];exact hj)).blk k M).2;have k1:ka.gk∉z0v (slv th):=λhb=>g3.neB hM.k dd hb;have k2:ka.gy∉z0v (slv th):=λhb=>Own.neO hM.y.out g3 dd ka.gy (by simp[z0v]) hb;have k4:∀k∈z0v (slv th),k<w0.heap.size:=λk M=>(g3.blk k M).2;refine we [(0,.pointer (some ⟨ka.gk,0,none⟩)),(1,opV o),(2,.slice th.1 th.2.1 th.2.2),(3,.slice AS st.length cS)] func132 U ntmps132 U (.c4 U U U U) ?_;have h6:=hM;have r8:=b5;refine sr (bx U (λg5 w1 y5 I q1 z1=>(asg U (nn (jn (ι:=Nat×Nat) [(0,_),(2,_),(3,_),(5,_)] (λp=>[(9,.pointer (some ⟨p.1,0,none⟩)),(10,.pointer (some ⟨p.2,0,none⟩)),(11,.int .i64 (mkE (m.ys.getD j yq0).p))]) (λp w'=>Fr [] w1 w'/\∃(qn:YQ) (e1:Int) (e2:Bool) (sn:SV) (c9:List Pa),(w1.heap.size<=p.1/\w1.heap.size<=p.2/\((mkE (m.ys.getD j yq0).p)=0->qn=(⟨true,(m.ys.getD j yq0).pl,(m.ys.getD j yq0).ct+1,false,sv0,[]⟩:YQ)/\e1=(m.ys.getD j yq0).ct/\e2=(m.ys.getD j yq0).nw/\c9=(m.ys.getD j yq0).pes))/\Blk w' p.1 104 (z2x.enc qn)/\Blk w' p.2 249 [.int .i64 e1,.bool e2,.slice sn.1 sn.2.1 sn.2.2]/\OwnIf ((mkE (m.ys.getD j yq0).p)=0) z2d 107 (max wS.heap.size w1.heap.size) w' (slv sn) c9) (.c4 U U U U) ?_ ?_)))));replace hM:=h6.ext q1;intro a h;refine z0h none (λwb w'=>Fr [] wb w') z2o ?_;intro w2 q2;have z2:=q2.size;replace hM:=hM.ext q2;replace M:=M.ext (q1.n1 q2);replace I:=I.ext q2;have hC:Fr [] w2 w2:=Fr.refl _ _;have d0:=hM;have b8:=M;have b2:=I;refine y3l (ι:=(Nat×Nat)×YQ×(Int×Bool)×SV×List Pa) h [(0,_),(2,_),(3,_),(5,_)] (.c4 U U U U) #[true,true,true,true,true,true,true,true,true,true,true,true,true,true,true,true,false,false,false] 3 (λp=>[(9,.pointer (some ⟨p.1.1,0,none⟩)),(10,.pointer (some ⟨p.1.2,0,none⟩)),(26,.agg #[.bool p.2.1.inn,.int .i64 p.2.1.pl,.int .i64 p.2.1.ct,.bool p.2.1.nw,.slice p.2.1.pe.1 p.2.1.pe.2.1 p.2.1.pe.2.2]),(27,.agg #[.int .i64 p.2.2.1.1,.bool p.2.2.1.2,.slice p.2.2.2.1.1 p.2.2.2.1.2.1 p.2.2.2.1.2.2]),(28,.int .i64 (mkE (m.ys.getD j yq0).p))]) (λp w'=>Fr [] w2 w'/\(w2.heap.size<=p.1.1/\w2.heap.size<=p.1.2/\p.1.1≠p.1.2)/\((mkE (m.ys.getD j yq0).p)=0->p.2.1=(⟨true,(m.ys.getD j yq0).pl,(m.ys.getD j yq0).ct+1,false,sv0,[]⟩:YQ)/\p.2.2.1.1=(m.ys.getD j yq0).ct/\p.2.2.1.2=(m.ys.getD j yq0).nw/\p.2.2.2.2=(m.ys.getD j yq0).pes/\p.1.1∉z0v (slv p.2.2.2.1)/\p.1.2∉z0v (slv p.2.2.2.1))/\Blk w' p.1.1 104 [.bool false,.int .i64 0,.int .i64 0,.bool false,.slice none 0 0]/\Blk w' p.1.2 249 [.int .i64 0,.bool false,.slice none 0 0]/\OwnIf ((mkE (m.ys.getD j yq0).p)=0) z2d 107 (max wS.heap.size w2.heap.size) w' (slv p.2.2.2.1) p.2.2.2.2) (λf0=>?_) ?_;refine z0e 0 h U λa h=>z0o 1 h U λa h=>z0c 2 h U z3g U λa h=>z0l 3 h U (λ_ hw=>b8.ext hw) U y3i U λa h=>z0c 4 h U z3q U λa h=>z0l 5 h U (λ_ hw=>b2.ext hw) U na5 U λa h=>z2v 6 h U (by first|exact IntWalk.u8_in _ oo|rfl) U λa h=>z1e (p:=j) (yq0) 7 h U hM.y.out.sl U y3o U λx6 p8 a h=>z1x (cs:=z2x.enc (m.ys.getD j yq0)) 8 h wn U (λ_ hw=>p8 _ (d0.ext hw).y.out.sl) z2y U λa h=>y8e 9 14 15 kr U U U ?_ ?_ ?_;refine z0n h (z0a U z0g) v1v (y1i (m.ys.getD j yq0) _ (hM.y.ins j oo).sl (λk M=>((hM.y.ins j oo).blk k M).2)) ?_;rintro _ w3 ⟨qn,e1,e2,sn,c9,rfl,a6,q3⟩ a h;have z3:=q3.size;replace hM:=hM.ext q3;replace M:=M.ext q3;replace I:=I.ext q3;replace hC:=hC.next q3;have O:OwnIf ((mkE (m.ys.getD j yq0).p)=0) z2d 107 _ _ (slv sn) c9:=λhc=>(a6 hc).2.2.2.2;have e0:=λhc k M=>((O hc).blk k M).2;refine z0b (z0e 10 h U λa h=>z0k 11 h U λa h=>z0k 12 h U λa h=>z0k 13 h U λa h=>z1u 14 15 kr U ?_ ?_);refine z0u h z5m U λw4 Z q4 hz a h=>?_;obtain⟨b1,hg⟩:∃g,g=w3.heap.size:=⟨_,rfl⟩;rw[<-hg]at Z h hz;have b9.gk_9:ka.gk<b1:=by have:=M.lt;omega
 have h8:g5<b1:=by have:=I.lt;omega
 have z4:=q4.size;replace M:=M.ext q4;replace I:=I.ext q4;replace hC:=hC.next q4;refine z0b (z0d 15 U (z0u h y9r U λw5 D q5 hz a h=>?_));obtain⟨a7,hg⟩:∃g,g=w4.heap.size:=⟨_,rfl⟩;rw[<-hg]at D h hz;have b9.gk_10:ka.gk<a7:=by have:=M.lt;omega
 have f7:g5<a7:=by have:=I.lt;omega
 have i8:b1<a7:=by have:=Z.lt;omega
 have z5:=q5.size;replace O:=O.ext (q4.n1 q5);replace Z:=Z.ext q5;replace hC:=hC.next q5;exact z0b (f0 ((b1,a7),qn,(e1,e2),sn,c9) _ _ _ kr (h.sub (.d8 U U U U U U U U (.cons U .nil))) ⟨hC,⟨sm,sm,sm⟩,(λe=>⟨(a6 e).1,(a6 e).2.1,(a6 e).2.2.1,(a6 e).2.2.2.1,(λa3=>by have b7:=e0 e _ a3;have b0:=(O e).blk _ a3;simp only at b7 b0;omega),(λa3=>by have b7:=e0 e _ a3;have b0:=(O e).blk _ a3;simp only at b7 b0;omega)⟩),Z,D,(λe=>(O e).low oo)⟩);refine z0u h y9r U λw6 D q6 hz a h=>?_;obtain⟨a7,hg⟩:∃g,g=w3.heap.size:=⟨_,rfl⟩;rw[<-hg]at D h hz;have b9.gk_10:ka.gk<a7:=by have:=M.lt;omega
 have f7:g5<a7:=by have:=I.lt;omega
 have z6:=q6.size;replace M:=M.ext q6;replace I:=I.ext q6;replace hC:=hC.next q6;refine z0b (z0d 14 U (z0u h z5m U λw7 Z q7 hz a h=>?_));obtain⟨b1,hg⟩:∃g,g=w6.heap.size:=⟨_,rfl⟩;rw[<-hg]at Z h hz;have b9.gk_9:ka.gk<b1:=by have:=M.lt;omega
 have h8:g5<b1:=by have:=I.lt;omega
 have i7:a7<b1:=by have:=D.lt;omega
 have z7:=q7.size;replace O:=O.ext (q6.n1 q7);replace D:=D.ext q7;replace hC:=hC.next q7;exact z0b (f0 ((b1,a7),qn,(e1,e2),sn,c9) _ _ _ kr (h.sub (.d8 U U U U U U U U (.cons U .nil))) ⟨hC,⟨sm,sm,sm⟩,(λe=>⟨(a6 e).1,(a6 e).2.1,(a6 e).2.2.1,(a6 e).2.2.2.1,(λa3=>by have b7:=e0 e _ a3;have b0:=(O e).blk _ a3;simp only at b7 b0;omega),(λa3=>by have b7:=e0 e _ a3;have b0:=(O e).blk _ a3;simp only at b7 b0;omega)⟩),Z,D,(λe=>(O e).low oo)⟩);refine z0u h z5m U λw8 Z q8 hz a h=>?_;obtain⟨b1,hg⟩:∃g,g=w2.heap.size:=⟨_,rfl⟩;rw[<-hg]at Z h hz;have b9.gk_9:ka.gk<b1:=by have:=M.lt;omega
 have h8:g5<b1:=by have:=I.lt;omega
 have z8:=q8.size;replace hM:=hM.ext q8;replace M:=M.ext q8;replace I:=I.ext q8;replace hC:=hC.next q8;refine z0b (z1u 9 15 kr U ?_ ?_);refine z0n h (z0a U z0g) v1v (y1i (m.ys.getD j yq0) _ (hM.y.ins j oo).sl (λk M=>((hM.y.ins j oo).blk k M).2)) ?_;rintro _ w9 ⟨qn,e1,e2,sn,c9,rfl,a6,q9⟩ a h;have z9:=q9.size;replace M:=M.ext q9;replace I:=I.ext q9;replace Z:=Z.ext q9;replace hC:=hC.next q9;have O:OwnIf ((mkE (m.ys.getD j yq0).p)=0) z2d 107 _ _ (slv sn) c9:=λhc=>(a6 hc).2.2.2.2;have e0:=λhc k M=>((O hc).blk k M).2;refine z0b (z0e 10 h U λa h=>z0k 11 h U λa h=>z0k 12 h U λa h=>z0k 13 h U λa h=>z0d 15 U (z0u h y9r U λA4 D m9 hz a h=>?_));obtain⟨a7,hg⟩:∃g,g=w9.heap.size:=⟨_,rfl⟩;rw[<-hg]at D h hz;have b9.gk_10:ka.gk<a7:=by have:=M.lt;omega
 have f7:g5<a7:=by have:=I.lt;omega
 have i8:b1<a7:=by have:=Z.lt;omega
 have D8:=m9.size;replace Z:=Z.ext m9;replace O:=O.ext m9;replace hC:=hC.next m9;exact z0b (f0 ((b1,a7),qn,(e1,e2),sn,c9) _ _ _ kr (h.sub (.d8 U U U U U U U U (.cons U .nil))) ⟨hC,⟨sm,sm,sm⟩,(λe=>⟨(a6 e).1,(a6 e).2.1,(a6 e).2.2.1,(a6 e).2.2.2.1,(λa3=>by have b7:=e0 e _ a3;have b0:=(O e).blk _ a3;simp only at b7 b0;omega),(λa3=>by have b7:=e0 e _ a3;have b0:=(O e).blk _ a3;simp only at b7 b0;omega)⟩),Z,D,(λe=>(O e).low oo)⟩);refine z0u h y9r U λA5 D l7 hz a h=>?_;obtain⟨a7,hg⟩:∃g,g=w8.heap.size:=⟨_,rfl⟩;rw[<-hg]at D h hz;have b9.gk_10:ka.gk<a7:=by have:=M.lt;omega
 have f7:g5<a7:=by have:=I.lt;omega
 have i8:b1<a7:=by have:=Z.lt;omega
 have D9:=l7.size;replace hM:=hM.ext l7;replace M:=M.ext l7;replace hC:=hC.next l7;refine z0b (z0d 9 U (z0n h (z0a U z0g) v1v (y1i (m.ys.getD j yq0) _ (hM.y.ins j oo).sl (λk M=>((hM.y.ins j oo).blk k M).2)) ?_));rintro _ A6 ⟨qn,e1,e2,sn,c9,rfl,a6,l8⟩ a h;have E0:=l8.size;replace M:=M.ext l8;replace Z:=Z.ext (l7.n1 l8);replace D:=D.ext l8;replace hC:=hC.next l8;have O:OwnIf ((mkE (m.ys.getD j yq0).p)=0) z2d 107 _ _ (slv sn) c9:=λhc=>(a6 hc).2.2.2.2;have e0:=λhc k M=>((O hc).blk k M).2;refine z0b (z0e 10 h U λa h=>z0k 11 h U λa h=>z0k 12 h U λa h=>z0k 13 h U λa h=>?_);exact f0 ((b1,a7),qn,(e1,e2),sn,c9) _ _ _ kr (h.sub (.d8 U U U U U U U U (.cons U .nil))) ⟨hC,⟨sm,sm,sm⟩,(λe=>⟨(a6 e).1,(a6 e).2.1,(a6 e).2.2.1,(a6 e).2.2.2.1,(λa3=>by have b7:=e0 e _ a3;have b0:=(O e).blk _ a3;simp only at b7 b0;omega),(λa3=>by have b7:=e0 e _ a3;have b0:=(O e).blk _ a3;simp only at b7 b0;omega)⟩),Z,D,(λe=>(O e).low oo)⟩;refine z0u h y9r U λu6 D l9 hz a h=>?_;obtain⟨a7,hg⟩:∃g,g=w2.heap.size:=⟨_,rfl⟩;rw[<-hg]at D h hz;have b9.gk_10:ka.gk<a7:=by have:=M.lt;omega
 have f7:g5<a7:=by have:=I.lt;omega
 have E1:=l9.size;replace hM:=hM.ext l9;replace M:=M.ext l9;replace I:=I.ext l9;replace hC:=hC.next l9;refine z0b (z1u 9 14 kr U ?_ ?_);refine z0n h (z0a U z0g) v1v (y1i (m.ys.getD j yq0) _ (hM.y.ins j oo).sl (λk M=>((hM.y.ins j oo).blk k M).2)) ?_;rintro _ u7 ⟨qn,e1,e2,sn,c9,rfl,a6,m0⟩ a h;have E2:=m0.size;replace M:=M.ext m0;replace I:=I.ext m0;replace D:=D.ext m0;replace hC:=hC.next m0;have O:OwnIf ((mkE (m.ys.getD j yq0).p)=0) z2d 107 _ _ (slv sn) c9:=λhc=>(a6 hc).2.2.2.2;have e0:=λhc k M=>((O hc).blk k M).2;refine z0b (z0e 10 h U λa h=>z0k 11 h U λa h=>z0k 12 h U λa h=>z0k 13 h U λa h=>z0d 14 U (z0u h z5m U λA7 Z n7 hz a h=>?_));obtain⟨b1,hg⟩:∃g,g=u7.heap.size:=⟨_,rfl⟩;rw[<-hg]at Z h hz;have b9.gk_9:ka.gk<b1:=by have:=M.lt;omega
 have h8:g5<b1:=by have:=I.lt;omega
 have i7:a7<b1:=by have:=D.lt;omega
 have E3:=n7.size;replace D:=D.ext n7;replace O:=O.ext n7;replace hC:=hC.next n7;exact z0b (f0 ((b1,a7),qn,(e1,e2),sn,c9) _ _ _ kr (h.sub (.d8 U U U U U U U U (.cons U .nil))) ⟨hC,⟨sm,sm,sm⟩,(λe=>⟨(a6 e).1,(a6 e).2.1,(a6 e).2.2.1,(a6 e).2.2.2.1,(λa3=>by have b7:=e0 e _ a3;have b0:=(O e).blk _ a3;simp only at b7 b0;omega),(λa3=>by have b7:=e0 e _ a3;have b0:=(O e).blk _ a3;simp only at b7 b0;omega)⟩),Z,D,(λe=>(O e).low oo)⟩);refine z0u h z5m U λA8 Z k7 hz a h=>?_;obtain⟨b1,hg⟩:∃g,g=u6.heap.size:=⟨_,rfl⟩;rw[<-hg]at Z h hz;have b9.gk_9:ka.gk<b1:=by have:=M.lt;omega
 have h8:g5<b1:=by have:=I.lt;omega
 have i7:a7<b1:=by have:=D.lt;omega
 have E4:=k7.size;replace hM:=hM.ext k7;replace M:=M.ext k7;replace I:=I.ext k7;replace D:=D.ext k7;replace hC:=hC.next k7;refine z0b (z0d 9 U (z0n h (z0a U z0g) v1v (y1i (m.ys.getD j yq0) _ (hM.y.ins j oo).sl (λk M=>((hM.y.ins j oo).blk k M).2)) ?_));rintro _ A9 ⟨qn,e1,e2,sn,c9,rfl,a6,hq⟩ a h;have E5:=hq.size;replace hM:=hM.ext hq;replace M:=M.ext hq;replace I:=I.ext hq;replace D:=D.ext hq;replace Z:=Z.ext hq;replace hC:=hC.next hq;have A2:=hq;have O:OwnIf ((mkE (m.ys.getD j yq0).p)=0) z2d 107 _ _ (slv sn) c9:=λhc=>(a6 hc).2.2.2.2;have e0:=λhc k M=>((O hc).blk k M).2;refine z0b (z0e 10 h U λa h=>z0k 11 h U λa h=>z0k 12 h U λa h=>z0k 13 h U λa h=>?_);exact f0 ((b1,a7),qn,(e1,e2),sn,c9) _ _ _ kr (h.sub (.d8 U U U U U U U U (.cons U .nil))) ⟨hC,⟨sm,sm,sm⟩,(λe=>⟨(a6 e).1,(a6 e).2.1,(a6 e).2.2.1,(a6 e).2.2.2.1,(λa3=>by have b7:=e0 e _ a3;have b0:=(O e).blk _ a3;simp only at b7 b0;omega),(λa3=>by have b7:=e0 e _ a3;have b0:=(O e).blk _ a3;simp only at b7 b0;omega)⟩),Z,D,(λe=>(O e).low oo)⟩;rintro⟨⟨b1,a7⟩,qn,⟨e1,e2⟩,sn,c9⟩ a w18 ⟨hC,⟨p1,l4,hz910⟩,a6,Z,D,O⟩ h;simp only at p1 l4 hz910 a6 Z D O;have n8:=hC;have E6:=n8.size;replace M:=M.ext n8;replace I:=I.ext n8;refine z0d 16 U (z0p h U Z U z3b ?_ (h1:=(by first|(simp[Value.oneCell',S];done)|exact z2x.one (m.ys.getD j yq0))));clear h a;intro u9 i5 j5 hz a h;have E7:=j5.size;replace M:=M.fr j5;replace I:=I.fr j5;replace D:=D.fr j5;replace O:=O.fr j5 (by intro l1 k M a3;simp at M;subst M;first|exact(a6 l1).2.2.2.2.1 a3|exact(a6 l1).2.2.2.2.2 a3);replace hC:=hC.sp j5;clear Z hz;have Z:Blk u9 b1 _ [_,_,_,_,_]:=i5;clear i5;refine z0b (z0d 17 U (z0p h U D U x1t ?_ (h1:=(by first|(simp[Value.oneCell',S];done)|exact z2x.one (m.ys.getD j yq0)))));clear h a;intro v8 i5 j6 hz a h;have E8:=j6.size;replace M:=M.fr j6;replace I:=I.fr j6;replace Z:=Z.fr j6;replace O:=O.fr j6 (by intro l1 k M a3;simp at M;subst M;first|exact(a6 l1).2.2.2.2.1 a3|exact(a6 l1).2.2.2.2.2 a3);replace hC:=hC.sp j6;clear D hz;have D:Blk v8 a7 _ [_,_,_]:=i5;clear i5;refine z0b (z0d 18 U (z0t h U λa h=>?_));refine z0b (z0r ?_);clear hC d0 b8 b2;exact bk (h.sub (L':=[(0,_),(2,_),(3,_),(5,_),(9,_),(10,_),(11,_)]) (.c7 U U U U U U U)) (jE ((b1,a7)) (.c7 U U U U U U U) ⟨(q2.z3 n8 j5 j6),⟨qn,e1,e2,sn,c9,⟨sm,sm,λe=>⟨(a6 e).1,(a6 e).2.1,(a6 e).2.2.1,(a6 e).2.2.2.1⟩⟩,Z,D,λe=>(O e).low oo⟩⟩);rintro⟨g9,f1⟩ B0 ⟨h2,⟨qn,e1,e2,sn,c9,⟨p1,l4,a6⟩,Z,D,O⟩⟩;have E9:=h2.size;have s7:=Z.lt;have s2:=D.lt;simp only at p1 l4 Z D;refine kpC [(0,_),(2,_),(3,_),(5,_),(9,.pointer (some ⟨g9,0,none⟩)),(10,.pointer (some ⟨f1,0,none⟩)),(11,.int .i64 (mkE (m.ys.getD j yq0).p))] (.c7 U U U U U U U) (sq (sr (mv U (ne' U (nn (cd U (λc0=>?_) (λc0=>?_)))))));refine sr (mv U (asg U (kpL [(8,_)] (.cons U .nil) (nn (rt (tr (r1 results132 U ?_)))))));replace hM:=h6.ext (q1.n1 h2);exact⟨_,rfl,MRet.err (by unfold x1a;rw[l3,if_pos c0]) c0 hM.fr⟩;replace M:=M.ext (q1.n1 h2);have l2:(mkE (m.ys.getD j yq0).p)=0:=Classical.not_not.1 c0;obtain⟨rfl,rfl,rfl,rfl⟩:=a6 l2;replace O:=O l2;have f9:=λk M=>(O.blk k M).2;obtain⟨m4,m6,m5⟩:=u5x hi hy hs (by rw[l3];exact l2);rw[l3]at m4 m6 m5;refine sk (tn (sq (sr (mv U (nlc U (fad U y1r (z0i U M U x3j ?_)))))));replace hM:=h6.ext (q1.n1 h2);refine cl (ev1 U) (mkC func168) (y3e _ m.ts _ hM.t.at.1 hM.t.at.2 oo) U ?_;rintro _ B1 ⟨rfl,e6⟩;have F0:=e6.size;refine ge' U U (kpL [(0,_),(2,_),(3,_),(5,_),(9,_),(10,_),(37,_)] (.c7 U U U U U U U) (nn (cd U (λc1=>?_) (λc1=>?_))));refine sr (asg U (kpL [(8,_)] (.cons U .nil) (nn (rt (tr (r1 results132 U ?_))))));replace hM:=h6.ext (q1.n2 h2 e6);exact⟨_,rfl,MRet.err (by unfold x1a;rw[l3,if_neg (λe=>e l2),if_pos (show 2048<=z5p m.p.tb by have:m.p.tb=z2g m.ts:=rfl;rw[this];omega)]) dd hM.fr⟩;refine sk (tn (sr (fad U z3q ?_)));replace I:=I.ext (h2.n1 e6);refine z0i U I U na5 (fad U u5s ?_);replace D:=D.ext e6;refine z0i U D U na3 (z1s (cs:=[_,_]) (ev2 U) j1x (z0f U (z0f U z0q)) U ?_);refine al z7r U (λf8 B2 x9 a5 f3 F1=>?_);refine z0j (vs:=[_,_]) U a5 z5y (λB3 a5 f4 F2=>?_) (h1:=(by first|(simp[Value.oneCell',S];done)|exact z2x.one (m.ys.getD j yq0)));refine kpL [(0,_),(2,_),(3,_),(5,_),(9,_),(10,_),(12,_)] (.c7 U U U U U U U) (nn (sr (fad U z4r (x1e U z5w U ?_))));replace I:=(I.ext f3).fr f4;refine z0i U I U x2g (fad U u6l ?_);replace D:=(D.ext f3).fr f4;refine z0i U D U na4 (mv U (fad U u4z (z0i U D U z9o (z1s (cs:=[_,_,_,_]) (ev4 U) j3b (z0f U (z0f U (z0f U (z0f U z0q)))) U ?_))));refine al x3d U (λf2 B4 y0 a1 e7 F3=>?_);refine z0j (vs:=[_,_,_,_]) U a1 x7u (λp4 a1 e8 F5=>?_) (h1:=(by first|(simp[Value.oneCell',S];done)|exact z2x.one (m.ys.getD j yq0)));refine kpL [(0,_),(3,_),(5,_),(9,_),(12,_),(13,_)] (.c6 U U U U U U) (nn (jn (ι:=Nat) [(0,_),(5,_),(9,_),(13,_)] (λg_=>[(14,.pointer (some ⟨g_,0,none⟩)),(11,.int .i64 0)]) (λg_ w'=>Fr [] p4 w'/\∃q':BdQ,(p4.heap.size<=g_/\q'.p=m.q.p.put o.b o.p (st++[(⟨o.y,(m.ys.getD j yq0).ct⟩:LId)]))/\Blk w' g_ 25 (bdL q')/\BdO 30 64 (max wS.heap.size p4.heap.size) w' q') (.c4 U U U U) ?_ ?_));replace hM:=h6.ext (q1.z6 h2 e6 f3 f4 e7 e8);replace M:=(((M.ext (e6.n1 f3)).fr f4).ext e7).fr e8;replace b5:=r8.ext (q1.z6 h2 e6 f3 f4 e7 e8);replace I:=(I.ext e7).fr e8;replace Z:=(((Z.ext (e6.n1 f3)).fr f4).ext e7).fr e8;replace D:=(D.ext e7).fr e8;replace O:=(((O.ext (e6.n1 f3)).fr f4 (by intro k M a3;simp at M;subst M;have b0:=O.blk _ a3;have k6:=f9 _ a3;omega)).ext e7).fr e8 (by intro k M a3;simp at M;subst M;have b0:=O.blk _ a3;have k6:=f9 _ a3;omega);replace a5:=(a5.ext e7).fr e8;intro a h;refine z0h none (λwb w'=>Fr [] wb w') z2o ?_;intro d6 g4;have F6:=g4.size;replace hM:=hM.ext g4;replace M:=M.ext g4;replace b5:=b5.ext g4;replace I:=I.ext g4;replace Z:=Z.ext g4;replace D:=D.ext g4;replace O:=O.ext g4;replace a5:=a5.ext g4;replace a1:=a1.ext g4;have hC:Fr [] d6 d6:=Fr.refl _ _;have d0:=hM;have b8:=M;have o9:=b5;have b2:=I;have h7:=Z;have m3:=D;have g1:=O;have j9:=a5;have d7:=a1;refine y3l (ι:=Nat×BdQ) h [(0,_),(3,_),(5,_),(9,_),(12,_),(13,_)] (.c6 U U U U U U) #[true,true,true,true,true,true,true,true,true,true,true,true,true,true,true,true,false,false] 2 (λp=>[(14,.pointer (some ⟨p.1,0,none⟩)),(65,.agg #[.slice p.2.f.1 p.2.f.2.1 p.2.f.2.2,.slice p.2.b.1 p.2.b.2.1 p.2.b.2.2]),(66,.int .i64 0)]) (λp w'=>Fr [] d6 w'/\(d6.heap.size<=p.1/\p.2.p=m.q.p.put o.b o.p (st++[(⟨o.y,(m.ys.getD j yq0).ct⟩:LId)]))/\Blk w' p.1 25 [.slice none 0 0,.slice none 0 0]/\BdO 30 64 (max wS.heap.size d6.heap.size) w' p.2) (λj4=>?_) ?_;refine y3l (ι:=(Nat×Nat)×Nat) h [(0,_),(3,_),(5,_),(9,_),(12,_),(13,_)] (.c6 U U U U U U) #[true,true,true,true,true,true,true,true,true,true,false,false,false,false,false,true,false,false] 7 (λp=>[(56,.agg #[.slice m.q.f.1 m.q.f.2.1 m.q.f.2.2,.slice m.q.b.1 m.q.b.2.1 m.q.b.2.2]),(58,.agg #[.int .u8 o.b,.int .i64 o.p]),(60,.slice (some ⟨p.1.1,0,none⟩) st.length st.length),(62,.slice (some ⟨p.1.2,0,none⟩) 1 1),(14,.pointer (some ⟨p.2,0,none⟩))]) (λp w'=>Fr [] d6 w'/\(d6.heap.size<=p.1.1/\d6.heap.size<=p.1.2)/\Lw.Own z1b 64 d6.heap.size w' (.slice (some ⟨p.1.1,0,none⟩) st.length st.length) st/\Lw.Own z1b 64 d6.heap.size w' (.slice (some ⟨p.1.2,0,none⟩) 1 1) [(⟨o.y,(m.ys.getD j yq0).ct⟩:LId)]/\d6.heap.size<=p.2/\Blk w' p.2 25 [.slice none 0 0,.slice none 0 0]) (λg0=>?_) ?_;refine y3l (ι:=Nat×Nat) h [(0,_),(3,_),(5,_),(9,_),(12,_),(13,_)] (.c6 U U U U U U) #[true,true,true,true,true,true,true,true,true,true,false,false,false,false,false,false,false,false] 8 (λp=>[(56,.agg #[.slice m.q.f.1 m.q.f.2.1 m.q.f.2.2,.slice m.q.b.1 m.q.b.2.1 m.q.b.2.2]),(58,.agg #[.int .u8 o.b,.int .i64 o.p]),(60,.slice (some ⟨p.1,0,none⟩) st.length st.length),(62,.slice (some ⟨p.2,0,none⟩) 1 1)]) (λp w'=>Fr [] d6 w'/\(d6.heap.size<=p.1/\d6.heap.size<=p.2)/\Lw.Own z1b 64 d6.heap.size w' (.slice (some ⟨p.1,0,none⟩) st.length st.length) st/\Lw.Own z1b 64 d6.heap.size w' (.slice (some ⟨p.2,0,none⟩) 1 1) [(⟨o.y,(m.ys.getD j yq0).ct⟩:LId)]) (λl0=>?_) ?_;refine z0e 0 h U λa h=>z0o 1 h U λa h=>z0c 2 h U z3f U λa h=>z1f (vs:=[_,_]) 3 h U (λ_ hw=>(b8.ext hw)) z4x U U λa h=>z0c 4 h U z4r U λa h=>z1f (vs:=[_,_]) 5 h U (λ_ hw=>(b2.ext hw)) z5r U U λa h=>z0e 6 h U λa h=>z0w 8 h U (λ_ hw=>j9.ext hw) z2q U λa h=>y8e 7 9 15 kr U U U ?_ ?_ ?_;refine z0n h (z0a U z0g) y9v (z3v _ st _ b5 oo) ?_;rintro _ v9 ⟨e9,rfl,k0,hX,g6⟩ a h;have F7:=g6.size;replace hM:=hM.ext g6;replace M:=M.ext g6;replace b5:=b5.ext g6;replace I:=I.ext g6;replace Z:=Z.ext g6;replace D:=D.ext g6;replace O:=O.ext g6;replace a5:=a5.ext g6;replace a1:=a1.ext g6;replace hC:=hC.next g6;have i4:=λk M=>(hX.blk k M).2;refine z0b (z1u 9 15 kr U ?_ ?_);refine z2j ([(⟨o.y,(m.ys.getD j yq0).ct⟩:LId)]) h (z0a U z0g) U z3x λa4 B5 hg a8 p2 hz a h=>?_;have b9.gk_62:ka.gk<a4:=by have:=M.lt;omega
 have b6:g5<a4:=by have:=I.lt;omega
 have b6:g9<a4:=by have:=Z.lt;omega
 have e3:f1<a4:=by have:=D.lt;omega
 have e4:f8<a4:=by have:=a5.lt;omega
 have e5:f2<a4:=by have:=a1.lt;omega
 have F8:=p2.size;replace hX:=hX.ext p2;replace hC:=hC.next p2;exact z0b (l0 (e9,a4) _ _ _ kr (h.sub (.d8 U U U U U U U U (.c2 U U))) ⟨hC,⟨sm,sm⟩,hX.low oo,a8.low oo⟩);refine z0u h x2z U λB6 a2 i0 hz a h=>?_;obtain⟨a0,hg⟩:∃g,g=v9.heap.size:=⟨_,rfl⟩;rw[<-hg]at a2 h hz;have b9.gk_14:ka.gk<a0:=by have:=M.lt;omega
 have b3:g5<a0:=by have:=I.lt;omega
 have b3:g9<a0:=by have:=Z.lt;omega
 have d3:f1<a0:=by have:=D.lt;omega
 have d4:f8<a0:=by have:=a5.lt;omega
 have d5:f2<a0:=by have:=a1.lt;omega
 have F9:=i0.size;replace M:=M.ext i0;replace I:=I.ext i0;replace Z:=Z.ext i0;replace D:=D.ext i0;replace a5:=a5.ext i0;replace a1:=a1.ext i0;replace hC:=hC.next i0;refine z0b (z0d 9 U (z2j ([(⟨o.y,(m.ys.getD j yq0).ct⟩:LId)]) h (z0a U z0g) U z3x λa4 B7 hg a8 n9 hz a h=>?_));have b9.gk_62:ka.gk<a4:=by have:=M.lt;omega
 have b6:g5<a4:=by have:=I.lt;omega
 have b6:g9<a4:=by have:=Z.lt;omega
 have e3:f1<a4:=by have:=D.lt;omega
 have e4:f8<a4:=by have:=a5.lt;omega
 have e5:f2<a4:=by have:=a1.lt;omega
 have h5:a0<a4:=by have:=a2.lt;omega
 have G0:=n9.size;replace hX:=hX.ext (i0.n1 n9);replace a2:=a2.ext n9;replace hC:=hC.next n9;exact z0b (g0 ((e9,a4),a0) _ _ _ kr (h.sub (.d8 U U U U U U U U (.c3 U U U))) ⟨hC,⟨sm,sm⟩,hX.low oo,a8.low oo,sm,a2⟩);refine z2j ([(⟨o.y,(m.ys.getD j yq0).ct⟩:LId)]) h (z0a U z0g) U z3x λa4 x0 hg a8 g7 hz a h=>?_;have b9.gk_62:ka.gk<a4:=by have:=M.lt;omega
 have b6:g5<a4:=by have:=I.lt;omega
 have b6:g9<a4:=by have:=Z.lt;omega
 have e3:f1<a4:=by have:=D.lt;omega
 have e4:f8<a4:=by have:=a5.lt;omega
 have e5:f2<a4:=by have:=a1.lt;omega
 have G1:=g7.size;replace hM:=hM.ext g7;replace M:=M.ext g7;replace b5:=b5.ext g7;replace I:=I.ext g7;replace Z:=Z.ext g7;replace D:=D.ext g7;replace O:=O.ext g7;replace a5:=a5.ext g7;replace a1:=a1.ext g7;replace hC:=hC.next g7;refine z0b (z1u 7 15 kr U ?_ ?_);refine z0n h (z0a U z0g) y9v (z3v _ st _ b5 oo) ?_;rintro _ B8 ⟨e9,rfl,k0,hX,o0⟩ a h;have G2:=o0.size;replace M:=M.ext o0;replace a8:=a8.ext o0;replace hC:=hC.next o0;have i4:=λk M=>(hX.blk k M).2;exact z0b (l0 (e9,a4) _ _ _ kr (h.sub (.d8 U U U U U U U U (.c2 U U))) ⟨hC,⟨sm,sm⟩,hX.low oo,a8.low oo⟩);refine z0u h x2z U λB9 a2 m1 hz a h=>?_;obtain⟨a0,hg⟩:∃g,g=x0.heap.size:=⟨_,rfl⟩;rw[<-hg]at a2 h hz;have b9.gk_14:ka.gk<a0:=by have:=M.lt;omega
 have b3:g5<a0:=by have:=I.lt;omega
 have b3:g9<a0:=by have:=Z.lt;omega
 have d3:f1<a0:=by have:=D.lt;omega
 have d4:f8<a0:=by have:=a5.lt;omega
 have d5:f2<a0:=by have:=a1.lt;omega
 have p6:a4<a0:=by have:=(a8.blk a4 (by simp[z0v])).2;omega
 have G3:=m1.size;replace b5:=b5.ext m1;replace hC:=hC.next m1;refine z0b (z0d 7 U (z0n h (z0a U z0g) y9v (z3v _ st _ b5 oo) ?_));rintro _ C0 ⟨e9,rfl,k0,hX,m2⟩ a h;have G4:=m2.size;replace M:=M.ext (m1.n1 m2);replace a8:=a8.ext (m1.n1 m2);replace a2:=a2.ext m2;replace hC:=hC.next m2;have i4:=λk M=>(hX.blk k M).2;exact z0b (g0 ((e9,a4),a0) _ _ _ kr (h.sub (.d8 U U U U U U U U (.c3 U U U))) ⟨hC,⟨sm,sm⟩,hX.low oo,a8.low oo,sm,a2⟩);refine z0u h x2z U λC1 a2 g8 hz a h=>?_;obtain⟨a0,hg⟩:∃g,g=d6.heap.size:=⟨_,rfl⟩;rw[<-hg]at a2 h hz;have b9.gk_14:ka.gk<a0:=by have:=M.lt;omega
 have b3:g5<a0:=by have:=I.lt;omega
 have b3:g9<a0:=by have:=Z.lt;omega
 have d3:f1<a0:=by have:=D.lt;omega
 have d4:f8<a0:=by have:=a5.lt;omega
 have d5:f2<a0:=by have:=a1.lt;omega
 have G5:=g8.size;replace hM:=hM.ext g8;replace M:=M.ext g8;replace b5:=b5.ext g8;replace I:=I.ext g8;replace Z:=Z.ext g8;replace D:=D.ext g8;replace O:=O.ext g8;replace a5:=a5.ext g8;replace a1:=a1.ext g8;replace hC:=hC.next g8;refine z0b (z1u 7 9 kr U ?_ ?_);refine z0n h (z0a U z0g) y9v (z3v _ st _ b5 oo) ?_;rintro _ C2 ⟨e9,rfl,k0,hX,i1⟩ a h;have G6:=i1.size;replace M:=M.ext i1;replace I:=I.ext i1;replace Z:=Z.ext i1;replace D:=D.ext i1;replace a5:=a5.ext i1;replace a1:=a1.ext i1;replace a2:=a2.ext i1;replace hC:=hC.next i1;have i4:=λk M=>(hX.blk k M).2;refine z0b (z0d 9 U (z2j ([(⟨o.y,(m.ys.getD j yq0).ct⟩:LId)]) h (z0a U z0g) U z3x λa4 C3 hg a8 o1 hz a h=>?_));have b9.gk_62:ka.gk<a4:=by have:=M.lt;omega
 have b6:g5<a4:=by have:=I.lt;omega
 have b6:g9<a4:=by have:=Z.lt;omega
 have e3:f1<a4:=by have:=D.lt;omega
 have e4:f8<a4:=by have:=a5.lt;omega
 have e5:f2<a4:=by have:=a1.lt;omega
 have h5:a0<a4:=by have:=a2.lt;omega
 have G7:=o1.size;replace a2:=a2.ext o1;replace hX:=hX.ext o1;replace hC:=hC.next o1;exact z0b (g0 ((e9,a4),a0) _ _ _ kr (h.sub (.d8 U U U U U U U U (.c3 U U U))) ⟨hC,⟨sm,sm⟩,hX.low oo,a8.low oo,sm,a2⟩);refine z2j ([(⟨o.y,(m.ys.getD j yq0).ct⟩:LId)]) h (z0a U z0g) U z3x λa4 C4 hg a8 f5 hz a h=>?_;have b9.gk_62:ka.gk<a4:=by have:=M.lt;omega
 have b6:g5<a4:=by have:=I.lt;omega
 have b6:g9<a4:=by have:=Z.lt;omega
 have e3:f1<a4:=by have:=D.lt;omega
 have e4:f8<a4:=by have:=a5.lt;omega
 have e5:f2<a4:=by have:=a1.lt;omega
 have h5:a0<a4:=by have:=a2.lt;omega
 have G8:=f5.size;replace hM:=hM.ext f5;replace M:=M.ext f5;replace b5:=b5.ext f5;replace I:=I.ext f5;replace Z:=Z.ext f5;replace D:=D.ext f5;replace O:=O.ext f5;replace a5:=a5.ext f5;replace a1:=a1.ext f5;replace a2:=a2.ext f5;replace hC:=hC.next f5;refine z0b (z0d 7 U (z0n h (z0a U z0g) y9v (z3v _ st _ b5 oo) ?_));rintro _ C5 ⟨e9,rfl,k0,hX,hq⟩ a h;have G9:=hq.size;replace hM:=hM.ext hq;replace M:=M.ext hq;replace b5:=b5.ext hq;replace I:=I.ext hq;replace Z:=Z.ext hq;replace D:=D.ext hq;replace O:=O.ext hq;replace a5:=a5.ext hq;replace a1:=a1.ext hq;replace a2:=a2.ext hq;replace a8:=a8.ext hq;replace hC:=hC.next hq;have A3:=hq;have i4:=λk M=>(hX.blk k M).2;exact z0b (g0 ((e9,a4),a0) _ _ _ kr (h.sub (.d8 U U U U U U U U (.c3 U U U))) ⟨hC,⟨sm,sm⟩,hX.low oo,a8.low oo,sm,a2⟩);rintro⟨e9,a4⟩ a x1 ⟨hC,⟨l5,l6⟩,hX,a8⟩ h;simp only at l5 l6 hX a8;have h3:=hC;have H0:=h3.size;replace hM:=hM.ext h3;replace M:=M.ext h3;replace b5:=b5.ext h3;replace I:=I.ext h3;replace Z:=Z.ext h3;replace D:=D.ext h3;replace O:=O.ext h3;replace a5:=a5.ext h3;replace a1:=a1.ext h3;have i4:=λk h_=>(hX.blk k h_).2;refine z1u 10 15 kr U ?_ ?_;have a9:=hX;refine z7i h U U hX a8.sl z3x U λu5 x2 hX i2 o8 a h=>?_;obtain⟨s8,s9,rfl,p9⟩:=hX.sl.form;have i4:=λk M=>(hX.blk k M).2;have H1:=i2.size;replace M:=M.fr i2 (λb4=>a9.neB M dd b4);replace I:=I.fr i2 (λb4=>a9.neB I dd b4);replace Z:=Z.fr i2 (λb4=>a9.neB Z dd b4);replace D:=D.fr i2 (λb4=>a9.neB D dd b4);replace O:=O.fr i2 (Own.neO a9 O dd);replace a5:=a5.fr i2 (λb4=>by have:=(a9.blk _ b4).1;omega);replace a1:=a1.fr i2 (λb4=>a9.neB a1 dd b4);replace hC:=hC.step i2 (λk M o6=>absurd (a9.blk k M).1 oo);refine z0b (z1u 11 15 kr U ?_ ?_);refine z0n h (z0a U (z0a U (z0a U z0g))) v0a (by have x:=y9q m.q o.b n _ (st++[(⟨o.y,(m.ys.getD j yq0).ct⟩:LId)]) _ (d0.ext hC).b.at hX.sl hv (by rw[<-h9];exact hn) m4 m6 (by rw[<-h9];exact m5);rw[<-h9]at x;exact x) ?_;rintro _ x3 ⟨⟨q',rfl,hQ,h0⟩,q43⟩ a h;have H2:=q43.size;replace M:=M.ext q43;replace I:=I.ext q43;replace Z:=Z.ext q43;replace D:=D.ext q43;replace a5:=a5.ext q43;replace a1:=a1.ext q43;replace hC:=hC.next q43;refine z0b (z0e 12 h U λa h=>z0k 13 h U λa h=>z0k 14 h U λa h=>z0d 15 U (z0u h x2z U λC6 a2 o2 hz a h=>?_));obtain⟨a0,hg⟩:∃g,g=x3.heap.size:=⟨_,rfl⟩;rw[<-hg]at a2 h hz;have b9.gk_14:ka.gk<a0:=by have:=M.lt;omega
 have b3:g5<a0:=by have:=I.lt;omega
 have b3:g9<a0:=by have:=Z.lt;omega
 have d3:f1<a0:=by have:=D.lt;omega
 have d4:f8<a0:=by have:=a5.lt;omega
 have d5:f2<a0:=by have:=a1.lt;omega
 have H3:=o2.size;first|replace hQ:=BdO.ext hQ o2|replace hQ:=BdO.tf hQ o2 (OffT.one a2 dd) (OffT.one a2 dd)
 replace hC:=hC.next o2;exact z0b (j4 (a0,q') _ _ _ kr (h.sub (.d8 U U U U U U U U (.cons U .nil))) ⟨hC,⟨sm,h0⟩,a2,BdO.low hQ oo⟩);refine z0u h x2z U λC7 a2 p3 hz a h=>?_;obtain⟨a0,hg⟩:∃g,g=x2.heap.size:=⟨_,rfl⟩;rw[<-hg]at a2 h hz;have b9.gk_14:ka.gk<a0:=by have:=M.lt;omega
 have b3:g5<a0:=by have:=I.lt;omega
 have b3:g9<a0:=by have:=Z.lt;omega
 have d3:f1<a0:=by have:=D.lt;omega
 have d4:f8<a0:=by have:=a5.lt;omega
 have d5:f2<a0:=by have:=a1.lt;omega
 have H4:=p3.size;replace hX:=hX.ext p3;replace hC:=hC.next p3;refine z0b (z0d 11 U (z0n h (z0a U (z0a U (z0a U z0g))) v0a (by have x:=y9q m.q o.b n _ (st++[(⟨o.y,(m.ys.getD j yq0).ct⟩:LId)]) _ (d0.ext hC).b.at hX.sl hv (by rw[<-h9];exact hn) m4 m6 (by rw[<-h9];exact m5);rw[<-h9]at x;exact x) ?_));rintro _ C8 ⟨⟨q',rfl,hQ,h0⟩,q46⟩ a h;have H5:=q46.size;replace a2:=a2.ext q46;replace hC:=hC.next q46;refine z0b (z0e 12 h U λa h=>z0k 13 h U λa h=>z0k 14 h U λa h=>?_);exact j4 (a0,q') _ _ _ kr (h.sub (.d8 U U U U U U U U (.cons U .nil))) ⟨hC,⟨sm,h0⟩,a2,BdO.low hQ oo⟩;refine z0u h x2z U λC9 a2 o3 hz a h=>?_;obtain⟨a0,hg⟩:∃g,g=x1.heap.size:=⟨_,rfl⟩;rw[<-hg]at a2 h hz;have b9.gk_14:ka.gk<a0:=by have:=M.lt;omega
 have b3:g5<a0:=by have:=I.lt;omega
 have b3:g9<a0:=by have:=Z.lt;omega
 have d3:f1<a0:=by have:=D.lt;omega
 have d4:f8<a0:=by have:=a5.lt;omega
 have d5:f2<a0:=by have:=a1.lt;omega
 have H6:=o3.size;replace hX:=hX.ext o3;replace a8:=a8.ext o3;replace hC:=hC.next o3;exact z0b (g0 ((e9,a4),a0) _ _ _ kr (h.sub (.d8 U U U U U U U U (.c3 U U U))) ⟨hC,⟨sm,sm⟩,hX.low oo,a8.low oo,sm,a2⟩);rintro⟨⟨e9,a4⟩,a0⟩ a w48 ⟨hC,⟨l5,l6⟩,hX,a8,k5,a2⟩ h;simp only at l5 l6 hX a8 k5 a2;have i9:=hC;have H7:=i9.size;replace M:=M.ext i9;replace I:=I.ext i9;replace Z:=Z.ext i9;replace D:=D.ext i9;replace O:=O.ext i9;replace a5:=a5.ext i9;replace a1:=a1.ext i9;have i4:=λk h_=>(hX.blk k h_).2;refine z0d 10 U ?_;have a9:=hX;refine z7i h U U hX a8.sl z3x U λu5 D0 hX h4 o8 a h=>?_;obtain⟨s8,s9,rfl,p9⟩:=hX.sl.form;have i4:=λk M=>(hX.blk k M).2;have H8:=h4.size;replace M:=M.fr h4 (λb4=>a9.neB M dd b4);replace I:=I.fr h4 (λb4=>a9.neB I dd b4);replace Z:=Z.fr h4 (λb4=>a9.neB Z dd b4);replace D:=D.fr h4 (λb4=>a9.neB D dd b4);replace O:=O.fr h4 (Own.neO a9 O dd);replace a5:=a5.fr h4 (λb4=>by have:=(a9.blk _ b4).1;omega);replace a1:=a1.fr h4 (λb4=>a9.neB a1 dd b4);replace a2:=a2.fr h4 (λb4=>a9.neB a2 dd b4);replace hC:=hC.step h4 (λk M o6=>absurd (a9.blk k M).1 oo);refine z0b (z0d 11 U (z0n h (z0a U (z0a U (z0a U z0g))) v0a (by have x:=y9q m.q o.b n _ (st++[(⟨o.y,(m.ys.getD j yq0).ct⟩:LId)]) _ (d0.ext hC).b.at hX.sl hv (by rw[<-h9];exact hn) m4 m6 (by rw[<-h9];exact m5);rw[<-h9]at x;exact x) ?_));rintro _ D1 ⟨⟨q',rfl,hQ,h0⟩,q50⟩ a h;have H9:=q50.size;replace a2:=a2.ext q50;replace hC:=hC.next q50;refine z0b (z0e 12 h U λa h=>z0k 13 h U λa h=>z0k 14 h U λa h=>?_);exact j4 (a0,q') _ _ _ kr (h.sub (.d8 U U U U U U U U (.cons U .nil))) ⟨hC,⟨sm,h0⟩,a2,BdO.low hQ oo⟩;rintro⟨a0,q'⟩ a D2 ⟨hC,⟨k5,h0⟩,a2,hQ⟩ h;simp only at k5 h0 a2 hQ;have i3:=hC;have I0:=i3.size;replace M:=M.ext i3;replace I:=I.ext i3;replace Z:=Z.ext i3;replace D:=D.ext i3;replace O:=O.ext i3;replace a5:=a5.ext i3;replace a1:=a1.ext i3;refine z0d 16 U (z0p h U a2 U y7s ?_ (h1:=(by first|(simp[Value.oneCell',S];done)|exact z2x.one (m.ys.getD j yq0))));clear h a;intro x4 i5 f6 hz a h;have I1:=f6.size;replace M:=M.fr f6;replace I:=I.fr f6;replace Z:=Z.fr f6;replace D:=D.fr f6;replace O:=O.fr f6 (by intro k M a3;simp at M;subst M;have b0:=O.blk _ a3;have k6:=f9 _ a3;omega);replace a5:=a5.fr f6;replace a1:=a1.fr f6;first|replace hQ:=BdO.ext hQ f6|replace hQ:=BdO.tf hQ f6 (OffT.one a2 dd) (OffT.one a2 dd)
 replace hC:=hC.sp f6;clear a2 hz;have a2:Blk x4 a0 _ [_,_]:=i5;clear i5;refine z0b (z0d 17 U (z0t h U λa h=>?_));refine z0b (z0r ?_);clear hC d0 b8 o9 b2 h7 m3 g1 j9 d7;exact bk (h.sub (L':=[(0,_),(5,_),(9,_),(11,_),(13,_),(14,_)]) (.c6 U U U U U U)) (jE (a0) (.c6 U U U U U U) ⟨(g4.z2 i3 f6),⟨q',⟨oo,h0⟩,a2,BdO.low hQ oo⟩⟩);rintro t8 D3 ⟨j0,⟨q',⟨k5,h0⟩,a2,hQ⟩⟩;have I2:=j0.size;have s3:=a2.lt;refine kpC [(0,_),(5,_),(9,_),(13,_),(14,.pointer (some ⟨t8,0,none⟩)),(11,.int .i64 0)] (.c6 U U U U U U) ?_;have t9:=x1l hQ h6.f oo;refine sq (sr (mv U (ne' U (nn (cd U (λc2=>?_) (λc2=>?_))))));exact absurd U c2;refine sk (tn (sr (mv U (z0m U a2 z4x (nlc U (fad U z3f ?_))))));replace hM:=h6.ext ((q1.z6 h2 e6 f3 f4 e7 e8).n1 j0);replace M:=((((M.ext (e6.n1 f3)).fr f4).ext e7).fr e8).ext j0;refine z4p (cs':=u0e ka { m with q:=q' }) U U hM.k (by intro u hu;simp at hu;rcases hu with rfl|rfl<;>rfl) y7s U (λD4 r5 k8 I3=>?_);replace hM:=hM.beds mtd (hQ.low oo) r5 k8 t9;have M:=hM.k;have h6:=hM;have p7:=hM;have hF:Lw.Own z1b 64 wS.heap.size _ (slv m.fa) m.fl:=hM.f;clear r5;refine kpL [(0,_),(5,_),(9,_),(13,_)] (.c4 U U U U) (nn (sq ?_));replace I:=(((I.ext e7).fr e8).ext j0).fr k8;replace Z:=(((((Z.ext (e6.n1 f3)).fr f4).ext e7).fr e8).ext j0).fr k8;replace O:=(((((O.ext (e6.n1 f3)).fr f4 (by intro k M a3;simp at M;subst M;have b0:=O.blk _ a3;have k6:=f9 _ a3;omega)).ext e7).fr e8 (by intro k M a3;simp at M;subst M;have b0:=O.blk _ a3;have k6:=f9 _ a3;omega)).ext j0).fr k8 (by intro k M a3;simp at M;subst M;have b0:=O.blk _ a3;have k6:=f9 _ a3;omega);replace a1:=(a1.ext j0).fr k8;intro a h;refine z0h (some 9) (λwb w'=>Fr [] wb w') z2o ?_;intro s5 j1;have I4:=j1.size;replace hM:=hM.ext j1;replace M:=M.ext j1;replace I:=I.ext j1;replace Z:=Z.ext j1;replace O:=O.ext j1;replace a1:=a1.ext j1;have hC:Fr [] s5 s5:=Fr.refl _ _;have d0:=hM;have b8:=M;have b2:=I;have h7:=Z;have g1:=O;have d7:=a1;refine z0e 0 h U λa h=>z0o 1 h U λa h=>z0c 2 h U z3g U λa h=>z0l 3 h U (λ_ hw=>b8.ext hw) U y3i U λa h=>z0c 4 h U z3q U λa h=>z0l 5 h U (λ_ hw=>b2.ext hw) U na5 U λa h=>z2v 6 h U (by first|exact IntWalk.u8_in _ oo|rfl) U λa h=>z0w 7 h U (λ_ hw=>h7.ext hw) z2y U λa h=>z1m 8 kr kr kr hC (p:=j) h wn U y3o oo oo oo U U λa h=>z0d 9 U (z0z (i:=j) ((⟨true,(m.ys.getD j yq0).pl,(m.ys.getD j yq0).ct+1,false,sv0,[]⟩:YQ):YQ) h U hM.y.out (by rw[hM.ly];exact hj) U z3b λx5 o5 j7 _hz a h=>?_);replace hM:=hM.yarn mtd hj o5 j7 (Own.nil _);have h6:=hM;clear o5;have I5:=j7.size;replace I:=I.fr j7;replace Z:=Z.fr j7;replace O:=O.fr j7 (by intro k M a3;simp at M;subst M;have b0:=O.blk _ a3;have k6:=f9 _ a3;omega);replace a1:=a1.fr j7;have M:=hM.k;clear _hz;refine z1n (z0r ?_);clear hC d0 b8 b2 h7 g1 d7;replace g3:=(((((((g3.ext (q1.n3 h2 e6 f3)).fr f4 (by intro k M a3;simp at M;subst M;first|exact k1 a3|exact k2 a3|(have:=k4 _ a3;omega))).ext e7).fr e8 (by intro k M a3;simp at M;subst M;first|exact k1 a3|exact k2 a3|(have:=k4 _ a3;omega))).ext j0).fr k8 (by intro k M a3;simp at M;subst M;first|exact k1 a3|exact k2 a3|(have:=k4 _ a3;omega))).ext j1).fr j7 (by intro k M a3;simp at M;subst M;first|exact k1 a3|exact k2 a3|(have:=k4 _ a3;omega));have d1:=hM.t.ins j (by rw[hM.lt];exact hj);have u1:=d1;have u2:∀k∈z0v (slv (m.ts.getD j tq0).1),k<x5.heap.size:=λk M=>(d1.blk k M).2;have z0:(m.ts.getD j tq0).2.length<=2048:=by have:=u0z m.ts j;omega
 refine bk (h.sub (L':=[(0,_),(5,_),(13,_)]) (.c3 U U U)) (tn (sq ?_));intro a h;refine z0h (some 20) (λwb w'=>Fr (z0v (slv (m.ts.getD j tq0).1)) wb w') z2o ?_;intro s6 j2;have I6:=j2.size;replace hM:=hM.ext j2;replace M:=M.ext j2;replace g3:=g3.ext j2;replace I:=I.ext j2;replace O:=O.ext j2;replace a1:=a1.ext j2;replace d1:=d1.ext j2;have hC:Fr (z0v (slv (m.ts.getD j tq0).1)) s6 s6:=Fr.refl _ _;have d0:=hM;have b8:=M;have p0:=g3;have b2:=I;have g1:=O;have d7:=a1;have d9:=d1;refine z0e 0 h U λa h=>z0o 1 h U λa h=>z0c 2 h U y1r U λa h=>z0l 3 h U (λ_ hw=>b8.fr hw (λk_=>Own.neB d9 b8 dd k_)) U x3j U λa h=>z0c 4 h U z3q U λa h=>z0l 5 h U (λ_ hw=>b2.fr hw (λk_=>Own.neB d9 b2 dd k_)) U na5 U λa h=>z2v 6 h U (by first|exact IntWalk.u8_in _ oo|rfl) U λa h=>z0e 7 h U λa h=>z0o 8 h U λa h=>z0c 9 h U y1r U λa h=>z0l 10 h U (λ_ hw=>b8.fr hw (λk_=>Own.neB d9 b8 dd k_)) U x3j U λa h=>z0c 11 h U z3q U λa h=>z0l 12 h U (λ_ hw=>b2.fr hw (λk_=>Own.neB d9 b2 dd k_)) U na5 U λa h=>z2v 13 h U (by first|exact IntWalk.u8_in _ oo|rfl) U λa h=>z1e (p:=j) (tq0) 14 h U (show Sl z3z _ ka.TV m.ts from hM.t.out.sl) U y9c U λx7 q0 a h=>z2p 15 h wn U (λ_ hw=>q0 _ (z1w d0.t.out hw (z6e d9 dd)).sl) y0q U λa h=>z0w 16 h U (λ_ hw=>d7.fr hw (λk_=>by have:=r7 _ k_;omega)) x0j U λa h=>z0d 17 U (z2j ([(⟨o.b,(m.ys.getD j yq0).nw,th,sn,j8,(m.ys.getD j yq0).pes⟩:LpQ)]) h (z0a U z0g) U y5a λj3 D5 hg o7 k9 hz a h=>?_);have b9.gk_100:ka.gk<j3:=by have:=M.lt;omega
 have r6:g5<j3:=by have:=I.lt;omega
 have p5:f2<j3:=by have:=a1.lt;omega
 have I7:=k9.size;replace hM:=hM.ext k9;replace g3:=g3.ext k9;replace O:=O.ext k9;replace d1:=d1.ext k9;replace hC:=hC.next k9;refine z0b (z0d 18 U ?_);have m7:=d1;refine z7i h U U d1 o7.sl y5a U λy3 D6 d1 o4 m8 a h=>?_;have p7:=hM;have u0:LpO τd wS.heap.size _ (⟨o.b,(m.ys.getD j yq0).nw,th,sn,j8,(m.ys.getD j yq0).pes⟩:LpQ):=⟨g3,O.low oo⟩;have u3:=z1w hM.t.out o4 (z6e m7 dd);have u4:=o4;obtain⟨AR,cR,rfl,_⟩:=d1.sl.form;have u6k:=d1;have I8:=o4.size;replace hC:=hC.step o4 (λk_ h_ _=>h_);refine z0b (z0d 19 U (y9h (p:=j) (E:=z3z) h U U y9c oo oo oo U λa h=>?_));refine z0b (z0d 20 U (z0z (i:=j) (((AR,((m.ts.getD j tq0).2++[(⟨o.b,(m.ys.getD j yq0).nw,th,sn,j8,(m.ys.getD j yq0).pes⟩:LpQ)]).length,cR),((m.ts.getD j tq0).2++[(⟨o.b,(m.ys.getD j yq0).nw,th,sn,j8,(m.ys.getD j yq0).pes⟩:LpQ)])):TQ) h U u3 (by rw[hM.lt];exact hj) U u4n λD7 s1 hq _hz a h=>?_));replace hM:=p7.row mtd (u:=(AR,((m.ts.getD j tq0).2++[(⟨o.b,(m.ys.getD j yq0).nw,th,sn,j8,(m.ys.getD j yq0).pes⟩:LpQ)]).length,cR)) hj u0 r9 u6k u4 m8 s1 hq;clear hq _hz;refine z1n (z0r ?_);clear hC d0 b8 p0 b2 g1 d7 d9;refine bk (h.sub (L':=[]) .nil) (tn (sr (asg U (nn (rt (r1 results132 U ?_))))));exact⟨_,rfl,MRet.ok (by unfold x1a;rw[l3,if_neg (λe=>e l2),if_neg (show ¬2048<=z5p m.p.tb by have:m.p.tb=z2g m.ts:=rfl;rw[this];omega)];exact congrArg Except.ok (j0r m j r4 h0).symm) hM⟩
end Go.Proofs.YtlfdhllfmoplgaaGreatDoor
namespace Go.G08
open Go.Lw Go.G21
theorem z5l (c:Cx)(l:List Cx):crM (c::l)=((c.a,c.b),.int .i64 c.n)::crM l:=rfl
theorem z7q {a b:LId}{c:Cx}:isC a b c=true↔c.a=a/\c.b=b:=by unfold isC;simp
theorem v2d (a b:LId):∀l:List Cx,(z2k (crM l) (a,b)).getD (.int .i64 0)=.int .i64 (y5t l a b)
 | []=>rfl
 | c::l=>by
  rw[z5l]
  unfold z2k y5t
  rw[List.find?_cons]
  by_cases h:c.a=a/\c.b=b
  ·rw[if_pos (by rw[<-h.1,<-h.2]),z7q.2 h];rfl
  have D:isC a b c=false:=by cases e:isC a b c;rfl;exact absurd (z7q.1 e) h
  rw[if_neg (λe=>h ⟨(Prod.mk.inj e).1.symm,(Prod.mk.inj e).2.symm⟩),D]
  exact v2d a b l
theorem v2l {a b:LId}{l:List Cx}(h:(a,b)∉(crM l).map (·.1)):∀c∈l,isC a b c=false:=λc M=>by
 cases e:isC a b c
 ·rfl
 obtain⟨D,I⟩:=z7q.1 e
 refine absurd ?_ h
 unfold crM
 rw[List.map_map]
 exact List.mem_map.2 ⟨c,M,by simp[D,I]⟩
theorem v0h (a b:LId)(n:Int):∀l:List Cx,((crM l).map (·.1)).Nodup->crM (y9l l a b n)=z3w (crM l) (a,b) (.int .i64 n)
 | [],_=>rfl
 | c::l,hn=>by
  rw[z5l,List.map_cons]at hn
  obtain⟨n1,n2⟩:=List.nodup_cons.1 hn
  have ih:=v0h a b n l n2
  by_cases h:c.a=a/\c.b=b
  ·obtain⟨D,I⟩:=h
   subst D;subst I
   have hl:l.map (λx=>if isC c.a c.b x then (⟨c.a,c.b,n⟩:Cx) else x)=l:=by
    have:=v2l (l:=l) n1
    conv=>rhs;rw[<-List.map_id l]
    refine List.map_congr_left λx hx=>?_
    rw[this x hx];rfl
   have M:isC c.a c.b c=true:=z7q.2 ⟨rfl,rfl⟩
   have Z:y9l (c::l) c.a c.b n=⟨c.a,c.b,n⟩::l:=by
    unfold y9l
    rw[List.any_cons,M,Bool.true_or,if_pos U,List.map_cons,M,if_pos U,hl]
   have O:z3w (((c.a,c.b),Value.int .i64 c.n)::crM l) (c.a,c.b) (.int .i64 n)=((c.a,c.b),.int .i64 n)::crM l:=by
    unfold z3w;simp[List.findIdx?_cons]
   rw[Z,z5l,z5l,O]
  have D:isC a b c=false:=by cases e:isC a b c;rfl;exact absurd (z7q.1 e) h
  have I:¬((a,b):LId×LId)=(c.a,c.b):=λe=>h ⟨(Prod.mk.inj e).1.symm,(Prod.mk.inj e).2.symm⟩
  have es:y9l (c::l) a b n=c::y9l l a b n:=by
   unfold y9l
   rw[List.any_cons,D,Bool.false_or]
   split
   ·rw[List.map_cons,D];rfl
   rfl
  rw[es,z5l,ih]
  unfold z3w
  rw[z5l,List.map_cons,List.findIdx?_cons,if_neg (by simpa using I)]
  cases hf:((crM l).map (·.1)).findIdx? (λx=>decide ((a,b)=x)) with
  | none=>rfl
  | some i=>rfl
theorem v2b (a b:LId):∀l:List Cx,((crM l).map (·.1)).Nodup->crM (x8u l a b)=z5g (crM l) (a,b)
 | [],_=>rfl
 | c::l,hn=>by
  rw[z5l,List.map_cons]at hn
  obtain⟨n1,n2⟩:=List.nodup_cons.1 hn
  have ih:=v2b a b l n2
  by_cases h:c.a=a/\c.b=b
  ·obtain⟨D,I⟩:=h
   subst D;subst I
   have hl:l.filter (λx=>!isC c.a c.b x)=l:=List.filter_eq_self.2 λx hx=>by
    rw[v2l (l:=l) n1 x hx];rfl
   have hi:isC c.a c.b c=true:=z7q.2 ⟨rfl,rfl⟩
   have O:x8u (c::l) c.a c.b=l:=by
    unfold x8u
    rw[List.filter_cons,hi,hl];rfl
   have M:z5g (((c.a,c.b),Value.int .i64 c.n)::crM l) (c.a,c.b)=crM l:=by
    unfold z5g;simp[List.findIdx?_cons]
   rw[O,z5l,M]
  have D:isC a b c=false:=by cases e:isC a b c;rfl;exact absurd (z7q.1 e) h
  have I:¬((a,b):LId×LId)=(c.a,c.b):=λe=>h ⟨(Prod.mk.inj e).1.symm,(Prod.mk.inj e).2.symm⟩
  have Z:x8u (c::l) a b=c::x8u l a b:=by
   unfold x8u
   rw[List.filter_cons,D];rfl
  rw[Z,z5l,ih]
  unfold z5g
  rw[z5l,List.map_cons,List.findIdx?_cons,if_neg (by simpa using I)]
  cases hf:((crM l).map (·.1)).findIdx? (λx=>decide ((a,b)=x)) with
  | none=>rfl
  | some i=>rfl
section
variable {α κ:Type} [DecidableEq κ] {E:Enc α} {T base g:Nat} {w w':World} {v:Value} {ys:List α} {V:κ->Value} {em:List (κ×Value)}
theorem u9j (h:Lw.Own E T base w v ys)(O:MapL V w g em)(hf:Fr [g] w w'):Lw.Own E T base w' v ys:=h.fr hf λk D M=>by
 rw[List.mem_singleton]at D;subst D
 obtain⟨cs,I⟩:=z9b h _ M
 exact O.f.ne_blk I U
theorem j1c {k:Nat}{cs:List Value}(h:Blk w k T cs)(I:MapL V w g em)(hf:Fr [g] w w'):Blk w' k T cs:=h.fr hf λD=>by
 rw[List.mem_singleton]at D;subst D
 exact I.f.ne_blk h U
end
theorem FrM.un {τ:TyK}{Mt:Nat}{wS w w':World}{a:MA}(h:FrM τ Mt wS { a with wk:=w } w')(D:FrM τ Mt wS a w):FrM τ Mt wS a w':=⟨h.fr,D.kp.trans h.kp⟩
theorem MkM.gcne {τ:TyK}{Mt:Nat}{wS w:World}{a:MA}{m:MQ}(h:MkM τ Mt wS a w m){k T:Nat}{cs:List Value}(hb:Blk w k T cs):k≠a.gc:=λe=>by
 subst e;exact h.c.f.ne_blk hb U
theorem KpM.own {α:Type}{E:Enc α}{I:List Nat}{g T base:Nat}{w w':World}{v:Value}{ys:List α}(h:KpM I g w w')(D:Lw.Own E T base w v ys)(hg:∀k∈z0v v,k≠g)(hT:T∉I):Lw.Own E T base w' v ys:=by
 rcases D with D|⟨k,cap,cur,rfl,M,O,Z⟩
 exact .inl D;have hb:Blk w k T cur.toList:=O;exact .inr ⟨k,cap,cur,rfl,M,h.blk hb (hg k (by simp[z0v])) hT,Z⟩
theorem MkM.gcneO {τ:TyK}{Mt:Nat}{wS w:World}{a:MA}{m:MQ}{α:Type}{E:Enc α}{T base:Nat}{v:Value}{ys:List α}(h:MkM τ Mt wS a w m)(M:Lw.Own E T base w v ys):∀k∈z0v v,k≠a.gc:=λk I=>by
 obtain⟨cs,D⟩:=z9b M k I
 exact h.gcne D
theorem y6m {p:MSt}{d:Int}:∀ {l l':List Yn},l'.length=l.length->(∀j,j<l.length->z8g p d (l.getD j yn0)=.ok (l'.getD j yn0))->z4y p d l=.ok l'
 | [],[],_,_=>rfl
 | [],_::_,h,_=>by simp at h
 | _::_,[],h,_=>by simp at h
 | y::l,y'::l',hl,h=>by
  have D:=h 0 sp0
  simp only[List.getD_cons_zero]at D
  have I:=y6m (p:=p) (d:=d) (l:=l) (l':=l') (by simpa using hl) λj M=>by
   have:=h (j+1) so
   simpa only[List.getD_cons_succ] using this
  unfold z4y
  rw[D,I]
theorem y6x {p:MSt}{d e:Int}:∀ {l:List Yn} {i:Nat},i<l.length->(∀j,j<i->∃I,z8g p d (l.getD j yn0)=.ok I)->z8g p d (l.getD i yn0)=.error e->z4y p d l=.error e
 | y::l,0,_,_,h=>by
  simp only[List.getD_cons_zero]at h
  unfold z4y;rw[h]
 | y::l,i+1,hi,hj,h=>by
  obtain⟨I,D⟩:=hj 0 oo
  simp only[List.getD_cons_zero]at D
  have M:=y6x (p:=p) (d:=d) (e:=e) (l:=l) (i:=i) (by simpa using hi) (λj hl=>by
   have:=hj (j+1) oo
   simpa only[List.getD_cons_succ] using this) (by simpa only[List.getD_cons_succ] using h)
  unfold z4y
  rw[D,M]
theorem y2h {c:Cx}:∀ {r l l':List Cx},z6a l r=.ok l'->z6a l (r++[c])=x0x l' c
 | [],l,l',h=>by
  cases h
  show z6a l [c]=x0x l c
  unfold z6a
  cases x0x l c<;>rfl
 | x::r,l,l',h=>by
  rw[List.cons_append]
  unfold z6a at h ⊢
  cases e:x0x l x with
  | error e'=>rw[e]at h;cases h
  | ok l1=>rw[e]at h;simp only at h ⊢;exact y2h h
theorem x0l {e:Int}:∀ {r l:List Cx} (s:List Cx),z6a l r=.error e->z6a l (r++s)=.error e
 | [],l,s,h=>by cases h
 | x::r,l,s,h=>by
  rw[List.cons_append]
  unfold z6a at h ⊢
  cases e1:x0x l x with
  | error e'=>rw[e1]at h;exact h
  | ok l1=>rw[e1]at h;simp only at h ⊢;exact x0l s h
theorem u9f {B:Bd}{r d:Int}:∀c∈z3d B r d,-1<=c.n/\c.n<=1:=by
 have I:∀i,∀c∈x6y B r d i,-1<=c.n/\c.n<=1:=λi c D=>by
  obtain⟨k,_,M⟩:=List.mem_flatMap.1 D;obtain⟨x,_,O⟩:=List.mem_flatMap.1 M;obtain⟨o,_,rfl⟩:=List.mem_map.1 O;unfold x6l;split<;>(simp only;omega)
 intro c D;unfold z3d at D;split at D;exact I _ c (List.mem_reverse.1 D);exact I _ c D
theorem u8i {D:Int}(h:x8k D):¬Int.tmod D 2=0/\-9223372036854775808<=D/\D<=9223372036854775807:=by
 unfold x8k at h;omega
def y2r (p:MSt)(d:Int):MR:=match z4y p d p.ys with
  | .error e=>.error e
  | .ok ys=>match z6a p.cr (z3d p.B p.rk d) with
    | .error e=>.error e
    | .ok cr=>.ok { p with ys:=ys,cr:=cr }
def u5m (p:MSt)(c:Cx):MR:=match x0x p.cr c with
  | .error e=>.error e
  | .ok l=>.ok { p with cr:=l }
abbrev z5s (c:Cx):LId×LId:=if 0<z6k c.a c.b then (c.b,c.a) else (c.a,c.b)
section
variable {τ:TyK} {Mt:Nat} {wS w w':World} {a:MA} {m:MQ} {l:List Cx}
theorem MkM.cross (h:MkM τ Mt wS a w m)(hc:MapL crK w' a.gc (crM l))(hf:Fr [a.gc] w w'):MkM τ Mt wS a w' { m with cr:=l }:=by
 have o:∀ {α:Type} {E:Enc α} {T b:Nat} {v:Value} {ys:List α},Lw.Own E T b w v ys->Lw.Own E T b w' v ys:=λZ=>u9j Z h.c hf;refine⟨j1c h.k h.c hf,⟨⟨o h.b.f.1,λp M=>o (h.b.f.2 p M)⟩,⟨o h.b.b.1,λp M=>o (h.b.b.2 p M)⟩⟩,⟨o h.y.out,λi D=>o (h.y.ins i D)⟩,⟨o h.t.out,λi D=>o (h.t.ins i D),h.t.off,λi D q O=>⟨o (h.t.lps i D q O).1,o (h.t.lps i D q O).2⟩⟩,hc,o h.f,h.fb,h.ft,h.ly,h.lt,h.gk,h.gc,h.fr.step hf (λk I=>.inl (List.mem_singleton.1 I)) λk I a0=>?_⟩;rw[List.mem_singleton]at I;have:=h.gc;omega
end
theorem v5g {a b:LId}{l:List Cx}(h:∀c∈l,-1048576<=c.n/\c.n<=1048576):-1048576<=y5t l a b/\y5t l a b<=1048576:=by
 unfold y5t;cases e:l.find? (isC a b) with
 | none=>simp
 | some c=>exact h c (List.mem_of_find?_eq_some e)
theorem v3h (l:List Cx)(c:Cx):x0x l c=if y5t l (z5s c).1 (z5s c).2+c.n < -1048576\/1048576<y5t l (z5s c).1 (z5s c).2+c.n then .error 3 else if y5t l (z5s c).1 (z5s c).2+c.n=0 then .ok (x8u l (z5s c).1 (z5s c).2) else .ok (y9l l (z5s c).1 (z5s c).2 (y5t l (z5s c).1 (z5s c).2+c.n)):=rfl
theorem x2r (p:MSt)(c:Cx):u5m p c=if y5t p.cr (z5s c).1 (z5s c).2+c.n < -1048576\/1048576<y5t p.cr (z5s c).1 (z5s c).2+c.n then .error 3 else if y5t p.cr (z5s c).1 (z5s c).2+c.n=0 then .ok { p with cr:=x8u p.cr (z5s c).1 (z5s c).2 } else .ok { p with cr:=y9l p.cr (z5s c).1 (z5s c).2 (y5t p.cr (z5s c).1 (z5s c).2+c.n) }:=by
 unfold u5m;rw[v3h];generalize y5t p.cr (z5s c).1 (z5s c).2+c.n=n;by_cases h1:n < -1048576\/1048576<n;rw[if_pos h1,if_pos h1];rw[if_neg h1,if_neg h1];by_cases h2:n=0;rw[if_pos h2,if_pos h2];rw[if_neg h2,if_neg h2]
end Go.G08
namespace Go.Proofs.YtlfdhllfmoplgaaGreatDoor
open Go.Lw Go.G21 Go.G08 _root_.Go.Proofs.Tryz
theorem u3i (wS:World)(ka:MA)(m:MQ)(o:MOp)(w0:World)(hM:MkM τd 145 wS ka w0 m)(hi:MInv m.p)(hy:1<=o.y/\o.y<=6)(hn:z4g o.b o.p=0):Rets prog 69 #[.pointer (some ⟨ka.gk,0,none⟩),opV o] w0 λr w'=>MRet τd 145 wS ka (y3a m.p o) r w':=by
 have c9:=hM.fr.size;have b2:=hM.gk;have b4:=hM.k.lt;refine we [(0,.pointer (some ⟨ka.gk,0,none⟩)),(1,opV o)] func69 U ntmps69 U (.c2 U U) ?_;have O:=hM;refine sr (bx U (λg3 w1 b8 D q1 z1=>(asg U (nn (sr (mv U (z0m U D y3q ?_)))))));replace hM:=O.ext q1;refine cl (ev2 U) (mkC func130) (x3z wS ka m o _ hM hi hy hn) U ?_;rintro _ w2 ⟨rfl,q2⟩;have z2:=q2.size;refine mv U (xt U (xt U (xt U (asg U (asg U (asg U (kpL [(0,_),(3,_),(5,_),(6,_),(7,_)] (.c5 U U U U U) (nn (sq (sr (mv U (ne' U (nn (cd U (λc0=>?_) (λc0=>?_)))))))))))))));refine sr (mv U (asg U (kpL [(4,_)] (.cons U .nil) (nn (rt (tr (r1 results69 U ?_)))))));replace hM:=O.ext (q1.n1 q2);exact⟨_,rfl,MRet.err (by unfold y3a;rw[if_pos c0]) c0 hM.fr⟩;have M:z7z m.p o=0:=Classical.not_not.1 c0;refine sk (tn (sq (sr (mv U (fad U z3q ?_)))));replace D:=D.ext q2;refine z0i U D U na5 (mv U (mv U ?_));replace hM:=O.ext (q1.n1 q2);have a4:=hM.fr;refine cl (z0a U (z0a U (z0a U (z0a U z0g)))) (mkC func131) (x3b wS { ka with wk:=w2 } m o.y (if z7z m.p o=0 then x7b m.p o else 0) (if z7z m.p o=0 then (z4v o.b o.p m.rk) else 0) _ hM.mark hi hy) U ?_;intro _ w3 hR;obtain⟨rfl,a2,m1,b0⟩:=hR.split;have z3:=a2.kp.size;simp only at z3;replace D:=a2.kp.blk D (by have:=hM.gcne D;exact this) dd;refine asg U (kpL [(0,_),(3,_),(8,_)] (.c3 U U U) (nn (sr (mv U (ne' U (nn (cd U (λc1=>?_) (λc1=>?_))))))));exact sr (mv U (asg U (nn (rt (tr (r1 results69 U ⟨_,rfl,MRet.err (by have hx:=y0k c1;unfold y3a;rw[if_neg c0];rw[if_pos M,if_pos M]at hx;rw[hx,if_pos M,if_pos M]) c1 (a2.un a4)⟩))))));obtain⟨a9,a3⟩:=b0 (Classical.not_not.1 c1);rw[if_pos M,if_pos M]at a3;obtain⟨a5,b7,b9⟩:=y2f hi hy a3;obtain⟨⟨hf,hb⟩,h4,a8⟩:=z3o a5.B;replace hM:=a9.unmark a4;have O:=hM;have hk:=hM.k;have b3:=hk.lt;refine sk (tn (sq ?_));intro a h;refine z0h (some 9) (λwb w'=>Fr [] wb w') z2o ?_;intro w4 q4;have z4:=q4.size;replace D:=D.ext q4;replace hM:=hM.ext q4;replace hk:=hk.ext q4;have hC:Fr [] w4 w4:=Fr.refl _ _;have I:=D;have a0:=hM;have a1:=hk;refine z0e 0 h U λa h=>z0w 1 h U (λ_ hw=>I.ext hw) y3q U λa h=>z0e 2 h U λa h=>z0o 3 h U λa h=>z0c 4 h U z3f U λa h=>z1f (vs:=[_,_]) 5 h U (λ_ hw=>(a1.ext hw)) z4x U U λa h=>z0c 6 h U z4r U λa h=>z1f (vs:=[_,_]) 7 h U (λ_ hw=>(I.ext hw)) z5r U U λa h=>z0d 8 U (z0n h (z0a U (z0a U z0g)) x9f (y4w m1.q o.b o.p _ hM.b.at (by have:=z3a hn;omega) hf hb h4 a8) ?_);rintro d0 w5 ⟨Z,hq⟩ a h;have z5:=hq.size;replace D:=D.ext hq;replace hM:=hM.ext hq;replace hk:=hk.ext hq;replace hC:=hC.next hq;have q5:=hq;rw[z9r hn]at Z;obtain⟨a6,a7,rfl,b1⟩:=Z.sl.form;refine z0b (z0d 9 U (z0n h (z0a U (z0a U (z0a U (z0a U z0g)))) (mkC func132) (v1k wS ka m1 o (a6,(m1.q.p.at o.b o.p).length,a7) (m1.q.p.at o.b o.p) (.slice none 0 0) [] _ hM a5 hy hn (Z.low oo) (λk hk hb=>by have b5:=(Z.blk k hk).1;have b6:=(a0.f.blk k hb).2;omega) (Sl.nil _) (.inl U)) ?_));rintro d1 w6 hR a h;refine z1n (z0d 10 U (z0t h U λa h=>?_));refine z1n (z0r ?_);clear hC I a0 a1;exact bk (h.sub (L':=[(4,_)]) (.cons U .nil)) (tn (rt (r1 results69 U ⟨_,rfl,by rw[show y3a m.p o=_ from by unfold y3a;rw[if_neg c0,a3]];exact hR⟩)))
theorem u6a (wS:World)(ka:MA)(m:MQ)(o:MOp)(w0:World)(hM:MkM τd 145 wS ka w0 m)(hi:MInv m.p)(hy:1<=o.y/\o.y<=6)(hn:z4g o.b o.p=0):Rets prog 70 #[.pointer (some ⟨ka.gk,0,none⟩),opV o] w0 λr w'=>MRet τd 145 wS ka (y2d m.p o) r w':=by
 have b8:=hM.fr.size;have b0:=hM.gk;have b2:=hM.k.lt;refine we [(0,.pointer (some ⟨ka.gk,0,none⟩)),(1,opV o)] func70 U ntmps70 U (.c2 U U) ?_;have O:=hM;refine sr (bx U (λg3 w1 b6 D q1 z1=>(asg U (nn (sr (mv U (z0m U D y3q ?_)))))));replace hM:=O.ext q1;refine cl (ev2 U) (mkC func130) (x3z wS ka m o _ hM hi hy hn) U ?_;rintro _ w2 ⟨rfl,q2⟩;refine mv U (xt U (xt U (xt U (asg U (asg U (asg U (kpL [(0,_),(3,_),(5,_),(6,_),(7,_)] (.c5 U U U U U) (nn (sq (sr (mv U (ne' U (nn (cd U (λc0=>?_) (λc0=>?_)))))))))))))));refine sr (mv U (asg U (kpL [(4,_)] (.cons U .nil) (nn (rt (tr (r1 results70 U ?_)))))));replace hM:=O.ext (q1.n1 q2);exact⟨_,rfl,MRet.err (by unfold y2d;rw[if_pos c0]) c0 hM.fr⟩;have I:z7z m.p o=0:=Classical.not_not.1 c0;refine sk (tn (sq (sr (mv U (fad U z3q ?_)))));replace D:=D.ext q2;refine z0i U D U na5 (mv U (mv U ?_));replace hM:=O.ext (q1.n1 q2);have a4:=hM.fr;refine cl (z0a U (z0a U (z0a U (z0a U z0g)))) (mkC func131) (x3b wS { ka with wk:=w2 } m o.y (if z7z m.p o=0 then x7b m.p o else 0) (if z7z m.p o=0 then (z4v o.b o.p m.rk) else 0) _ hM.mark hi hy) U ?_;intro _ w3 hR;obtain⟨rfl,a1,m1,a8⟩:=hR.split;have z3:=a1.kp.size;simp only at z3;replace D:=a1.kp.blk D (by have:=hM.gcne D;exact this) dd;refine asg U (kpL [(0,_),(3,_),(8,_)] (.c3 U U U) (nn (sr (mv U (ne' U (nn (cd U (λc1=>?_) (λc1=>?_))))))));exact sr (mv U (asg U (nn (rt (tr (r1 results70 U ⟨_,rfl,MRet.err (by have hx:=y0k c1;unfold y2d;rw[if_neg c0];rw[if_pos I,if_pos I]at hx;rw[hx,if_pos I,if_pos I]) c1 (a1.un a4)⟩))))));obtain⟨a7,Z⟩:=a8 (Classical.not_not.1 c1);rw[if_pos I,if_pos I]at Z;obtain⟨a5,b5,b7⟩:=y2f hi hy Z;obtain⟨⟨hf,hb⟩,h4,a6⟩:=z3o a5.B;replace hM:=a7.unmark a4;have O:=hM;have hk:=hM.k;have b1:=hk.lt;refine sk (tn (sq ?_));intro a h;refine z0h none (λwb w'=>Fr [] wb w') z2o ?_;intro w4 q4;replace D:=D.ext q4;replace hM:=hM.ext q4;replace hk:=hk.ext q4;have hC:Fr [] w4 w4:=Fr.refl _ _;have M:=D;have a3:=hM;have a0:=hk;refine z0e 0 h U λa h=>z0o 1 h U λa h=>z0c 2 h U z3f U λa h=>z1f (vs:=[_,_]) 3 h U (λ_ hw=>(a0.ext hw)) z4x U U λa h=>z0c 4 h U z4r U λa h=>z1f (vs:=[_,_]) 5 h U (λ_ hw=>(M.ext hw)) z5r U U λa h=>z0d 6 U (z0n h (z0a U (z0a U z0g)) x9f (y4w m1.q o.b o.p _ hM.b.at (by have:=z3a hn;omega) hf hb h4 a6) ?_);rintro b9 w5 ⟨a2,hq⟩ a h;replace D:=D.ext hq;replace hM:=hM.ext hq;replace hk:=hk.ext hq;replace hC:=hC.next hq;have q5:=hq;rw[z9r hn]at a2;obtain⟨b3,b4,rfl,a9⟩:=a2.sl.form;refine z0b (z0d 7 U (z0t h U λa h=>?_));refine z0b (z0r ?_);clear hC M a3 a0;refine bk (h.sub (L':=[(0,_),(3,_),(9,_)]) (.c3 U U U)) (tn (sq (sr (mv U (lnS U underlying30 (ge' U U (nn (cd U (λc2=>?_) (λc2=>?_)))))))));exact sr (asg U (nn (rt (tr (r1 results70 U ⟨_,rfl,MRet.err (by unfold y2d;rw[if_neg c0,Z];simp only;rw[if_pos (show 4<=(m1.q.p.at o.b o.p).length by omega)]) dd hM.fr⟩)))));refine sk (tn (sr (mv U (z0m U D y3q (mv U (cl (z0a U (z0a U (z0a U (z0a U z0g)))) (mkC func132) (v1k wS ka m1 o sv0 [] _ (m1.q.p.at o.b o.p) _ hM a5 hy hn (Own.nil _) (λk hk=>by cases hk) a2.sl (.inr ⟨rfl,oo⟩)) U ?_))))));rintro c9 w6 hR;exact asg U (kpL [(4,_)] (.cons U .nil) (nn (rt (r1 results70 U ⟨_,rfl,by rw[show y2d m.p o=x1a m1.p o [] (m1.q.p.at o.b o.p) from by unfold y2d;rw[if_neg c0,Z];simp only;rw[if_neg (show ¬4<=(m1.q.p.at o.b o.p).length by omega)]];exact hR⟩))))
theorem u2g:z3p prog 148 4:=⟨λ_=>kr,λ_=>kr⟩
theorem u2x:BuildAt prog 148 [(0,2),(2,2)] [(.int .u8 0),(.int .i64 0),(.int .u8 0),(.int .i64 0)]:=BuildAt.array (sz:=2) underlying148 (λ_=>kr) (λ_=>kr) (λi q h=>by match i,h with|0,h=>simpa using h.symm|1,h=>simpa using h.symm|(k+2),h=>simp at h)
theorem u9o:CallOf prog 76:=mkC func76
theorem y7q:z1c prog 101 0 0:=λ_ _=>kr
theorem x2h:z1c prog 101 1 2:=λ_ _=>kr
theorem x3k:z1c prog 101 2 4:=λ_ _=>kr
theorem y2g:z1c prog 145 4 5:=λ_ _=>kr
theorem x8c:z1y prog 142:=λ_=>kr
theorem u3g:z1t prog 148 4:=λ_=>kr
theorem j0q (w:World):(zeroValue 148).run prog w=.ok (.agg #[(.int .u8 0),(.int .i64 0),(.int .u8 0),(.int .i64 0)]) w:=kr
theorem j4e (p q:LId×LId)(w:World):(Op.equal 148 (crK p) (crK q)).run prog w=.ok (decide (p=q)) w:=by
 obtain⟨⟨Z,n1⟩,⟨y2,n2⟩⟩:=p;obtain⟨⟨y3,n3⟩,⟨y4,n4⟩⟩:=q;have D:prog.stoodInHeld 64=false:=by kernel_rfl
 have I:(sizeOf 64).run prog w=.ok 2 w:=by kernel_rfl
 unfold crK Op.equal Op.maxDepth Op.equalIn;simp only[Sem.run_bind,run_underlying underlying148,Result.andThen_ok,I];have M:∀a b c d:Value,(part 64 #[a,b,c,d] (0*2)).run prog w=.ok (.agg #[a,b]) w:=λa b c d=>by kernel_rfl
 have O:∀a b c d:Value,(part 64 #[a,b,c,d] (1*2)).run prog w=.ok (.agg #[c,d]) w:=λa b c d=>by kernel_rfl
 rw[Std.Legacy.Range.forIn_eq_forIn_range'];simp[List.range',List.forIn_cons,M,O,go_sem,D,underlying64];(repeat' split)<;>simp_all
theorem x4o:KeyLaw prog 148 crK:=KeyLaw.asking underlying148 (λ_ _=>rfl) (λ_ _ _=>kr) j4e (λ_=>by simp[crK,Instr.sameBits])
theorem zvI2 (w:World):(zeroValue 3).run prog w=.ok (.int .i64 0) w:=kr
theorem u4c (wS:World)(ka:MA)(m:MQ)(c:Cx)(w0:World)(hM:MkM τd 145 wS ka w0 m)(a6:∀x∈m.cr,-1048576<=x.n/\x.n<=1048576)(a7:-1<=c.n/\c.n<=1):Rets prog 165 #[.pointer (some ⟨ka.gk,0,none⟩),.agg #[.int .u8 c.a.y,.int .i64 c.a.n,.int .u8 c.b.y,.int .i64 c.b.n,.int .i64 c.n]] w0 λr w'=>MRet τd 145 wS ka (u5m m.p c) r w':=by
 have b2:=hM.fr.size;have hk:=hM.k;have b1:=hk.lt;have b0:=v5g (a:=(z5s c).1) (b:=(z5s c).2) a6;refine we [(0,.pointer (some ⟨ka.gk,0,none⟩)),(1,.agg #[.int .u8 c.a.y,.int .i64 c.a.n,.int .u8 c.b.y,.int .i64 c.b.n,.int .i64 c.n])] func165 U ntmps165 U (.c2 U U) ?_;have a5:=hM;refine sr (bx U (λg3 w1 a8 M q1 z1=>?_));refine asg U (nn (sr (fad U y7q (z1v (vs:=[_,_]) U M z2q U (fad U x2h (z1v (vs:=[_,_]) U M z2q U (z1s (cs:=[_,_,_,_]) (ev2 U) u2x (z0f U (z0f U z0q)) U ?_)))))));refine al j0q U (λg5 w2 a9 D q2 z2=>(z0j (vs:=[_,_,_,_]) U D u3g (λw3 D q3 z3=>(nn (jn (ι:=Unit) [(0,_),(3,_),(5,_)] (λ_j=>[]) (λ_j w'=>Fr [g5] w3 w'/\Blk w' g5 148 [.int .u8 (z5s c).1.y,.int .i64 (z5s c).1.n,.int .u8 (z5s c).2.y,.int .i64 (z5s c).2.n]) (.c3 U U U) ?_ ?_)))));refine sr (fad U y7q ?_);replace M:=(M.ext q2).fr q3;refine z1v (vs:=[_,_]) U M z2q U (fad U x2h (z1v (vs:=[_,_]) U M z2q U (cl (ev2 U) u9o (y0o ⟨_,_⟩ ⟨_,_⟩ _) U ?_)));rintro _ w4 ⟨rfl,q4⟩;refine gt' U (nn (cd U (λc0=>?_) (λc0=>?_)));refine rg (fad U x2h ?_);replace M:=M.ext q4;refine z1v (vs:=[_,_]) U M z2q U (fad U y7q (z1v (vs:=[_,_]) U M z2q U (z1s (cs:=[_,_,_,_]) (ev2 U) u2x (z0f U (z0f U z0q)) U ?_)));replace D:=D.ext q4;exact z0j (vs:=[_,_,_,_]) U D u3g (λw5 D q5 z5=>(kpL [(0,_),(3,_),(5,_)] (.c3 U U U) (nl (jE (()) (.c3 U U U) ⟨((Fr.refl [g5] _).z2 q4 q5),(by rw[show z5s c=(c.b,c.a) from if_pos c0];exact D)⟩))));refine sk ?_;replace D:=D.ext q4;exact jE (()) (.c3 U U U) ⟨((Fr.refl [g5] _).n1 q4),(by rw[show z5s c=(c.a,c.b) from if_neg c0];exact D)⟩;rintro _j w6 ⟨q6,D⟩;have a4:=D.lt;refine kpC [(0,_),(3,_),(5,_)] (.c3 U U U) (sq ?_);replace hM:=a5.ext (q1.z3 q2 q3 q6);replace hk:=((hk.ext (q1.n1 q2)).fr q3).fr q6;replace M:=((M.ext q2).fr q3).fr q6;intro a h;refine z0h none (λwb w'=>Fr [] wb w') z2o ?_;intro w7 q7;replace hM:=hM.ext q7;replace hk:=hk.ext q7;replace M:=M.ext q7;replace D:=D.ext q7;have hC:Fr [] w7 w7:=Fr.refl _ _;have Z:=hM;have O:=hk;have a0:=M;have I:=D;refine z0e 0 h U λa h=>z0o 1 h U λa h=>z0c 2 h U y2g U λa h=>z0l 3 h U (λ_ hw=>O.ext hw) U x8c U λa h=>z0w 4 h U (λ_ hw=>I.ext hw) u2g U λa h=>z0c 6 h U x3k U λa h=>z0l 7 h U (λ_ hw=>a0.ext hw) U na3 U λa h=>z0d 5 U (y1h (V:=crK) (k:=z5s c) (f:=z2k (crM m.cr)) h U U hM.c.f x4o underlying142 zvI2 (v2d (z5s c).1 (z5s c).2 m.cr) U λa h=>?_);refine z0b (z5n 8 h U (by first|exact i6 oo|rfl) U λa h=>z0d 9 U (z0t h U λa h=>?_));refine z0b (z0r ?_);clear hC Z O a0 I;refine bk (h.sub (L':=[(0,_),(5,_),(6,_)]) (.c3 U U U)) (tn (sq (sq (rbo (r:=37) (L':=[(0,_),(5,_),(6,_)]) (((((y5t m.cr (z5s c).1 (z5s c).2)+c.n) < -1048576)\/(1048576<((y5t m.cr (z5s c).1 (z5s c).2)+c.n)))) (.c3 U U U) ?_ ?_))));refine mv U (lt' U (mv U (gs 34 U (λg0=>?_) (λg0=>?_))));exact gN U (gN U (pkt U (rbe U (.c3 U U U))));exact gY U (mv U (gY U (gt' U (pkf U (rbe U (.c3 U U U))))));refine tn (cd U (λc1=>?_) (λc1=>?_));exact sr (asg U (nn (rt (tr (r1 results165 U ⟨_,rfl,MRet.err (by rw[x2r,if_pos c1]) dd hM.fr⟩)))));refine sk (tn (sq (sr (mv U (eq' U (nn (cd U (λc2=>?_) (λc2=>?_))))))));intro a h;refine z0h (some 5) (λwb w'=>Fr [] wb w') z2o ?_;intro w8 q8;replace hM:=hM.ext q8;replace hk:=hk.ext q8;replace D:=D.ext q8;have hC:Fr [] w8 w8:=Fr.refl _ _;have Z:=hM;have O:=hk;have I:=D;refine z0e 0 h U λa h=>z0o 1 h U λa h=>z0c 2 h U y2g U λa h=>z0l 3 h U (λ_ hw=>O.ext hw) U x8c U λa h=>z0w 4 h U (λ_ hw=>I.ext hw) u2g U λa h=>z0d 5 U (u4g (V:=crK) (k:=z5s c) h U U hM.c x4o underlying142 U λw9 a1 hq _hz a h=>?_);replace hM:=hM.cross (l:=x8u m.cr (z5s c).1 (z5s c).2) (by rw[v2b _ _ _ hM.c.nodup];exact a1) hq;refine z1n (z0r ?_);clear hC Z O I;exact bk (h.sub (L':=[]) .nil) (tn (sr (asg U (nn (rt (r1 results165 U ⟨_,rfl,MRet.ok (by rw[x2r,if_neg c1,if_pos c2]) hM⟩))))));intro a h;refine z0h (some 6) (λwb w'=>Fr [] wb w') z2o ?_;intro a3 a2;replace hM:=hM.ext a2;replace hk:=hk.ext a2;replace D:=D.ext a2;have hC:Fr [] a3 a3:=Fr.refl _ _;have Z:=hM;have O:=hk;have I:=D;refine z0e 0 h U λa h=>z0o 1 h U λa h=>z0c 2 h U y2g U λa h=>z0l 3 h U (λ_ hw=>O.ext hw) U x8c U λa h=>z0w 4 h U (λ_ hw=>I.ext hw) u2g U λa h=>z0e 5 h U λa h=>z0d 6 U (y6y (V:=crK) (k:=z5s c) (v:=.int .i64 ((y5t m.cr (z5s c).1 (z5s c).2)+c.n)) h U U U hM.c x4o underlying142 λb3 a1 hq _hz a h=>?_);replace hM:=hM.cross (l:=y9l m.cr (z5s c).1 (z5s c).2 (y5t m.cr (z5s c).1 (z5s c).2+c.n)) (by rw[v0h _ _ _ _ hM.c.nodup];exact a1) hq;refine z1n (z0r ?_);clear hC Z O I;exact bk (h.sub (L':=[]) .nil) (tn (sr (asg U (nn (rt (r1 results165 U ⟨_,rfl,MRet.ok (by rw[x2r,if_neg c1,if_neg c2]) hM⟩))))))
end Go.Proofs.YtlfdhllfmoplgaaGreatDoor
