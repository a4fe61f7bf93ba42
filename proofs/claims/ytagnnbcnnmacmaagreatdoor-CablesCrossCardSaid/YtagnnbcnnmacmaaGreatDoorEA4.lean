/- Texts of the proof, joined. -/
import Derived.Test.YtagnnbcnnmacmaaGreatDoorRows
import Derived.Maps.RangeRun
import Derived.Test.YtagnnbcnnmacmaaGreatDoorEA3
set_option linter.unusedVariables false
set_option linter.unusedSimpArgs false
set_option maxHeartbeats 4000000
namespace Go.Proofs.YtagnnbcnnmacmaaGreatDoor
open Go.Lw Go.G21 Go.G08 _root_.Go.Proofs.Tryz
theorem k5n (w:World):(zeroValue 197).run prog w=.ok (.slice none 0 0) w:=kr0
theorem u2l (q:BdQ)(r:Int)(w0:World)(hB:BdAt w0 q)(hv:BdOk q.p)(hr:-4<=r/\r<=4):Rets prog 129 #[.agg #[.slice q.f.1 q.f.2.1 q.f.2.2,.slice q.b.1 q.b.2.1 q.b.2.2],.int .i64 r] w0 λv w'=>(∃g,v=.tuple #[.slice (some ⟨g,0,none⟩) (z3h q.p r).length (z3h q.p r).length,.int .i64 0]/\w0.heap.size<=g/\Lw.Own z4h 201 w0.heap.size w' (.slice (some ⟨g,0,none⟩) (z3h q.p r).length (z3h q.p r).length) (z3h q.p r))/\Fr [] w0 w':=by
 obtain⟨⟨hf,hb⟩,h4,a6⟩:=z4b hv;have hN:=x2n hv;have b8:=y2u q.p r;have d0:(z3h q.p r).length=(u2r q.p r).length:=z4w _;refine we [(0,.agg #[.slice q.f.1 q.f.2.1 q.f.2.2,.slice q.b.1 q.b.2.1 q.b.2.2]),(1,.int .i64 r)] func129 U ntmps129 U (.c2 U U) ?_;have a4:=hB;refine sr (bx U (λg2 w1 b9 D q1 z1=>(bx U (λg3 w2 c1 a1 q2 z2=>(asg U (asg U (nn (sq (sr ?_)))))))));replace D:=D.ext q2;refine z0m U D z6k (z2j U a1 na3 ?_);replace hB:=a4.ext (q1.n1 q2);refine cl (ev2 U) (mkC func167) (x3z q _ _ hB hv oo) U ?_;rintro _ w3 ⟨rfl,q3⟩;have z3:=q3.size;replace a1:=a1.ext q3;replace D:=D.ext q3;have a0:BdAt w3 q:=a4.ext (q1.n2 q2 q3);have Z:=a1;have b7:=Z.lt;have a8:=D;refine asg U (nn (sr (mv U (ne' U (nn (cd U (λc0=>?_) (λc0=>?_)))))));exact absurd U c0;refine sk (tn (sr (z0m U D z6k ?_)));replace hB:=a4.ext (q1.n2 q2 q3);refine cl (ev1 U) (mkC func15) (y2d q _ hB hf hb h4 a6) U ?_;rintro _ w4 ⟨rfl,q4⟩;have z4:=q4.size;refine z1g (m:=0) (c:=q.p.flat.length) (hd0) U z3z u7r U (λa2 w5 b3 O q5 z5=>(al k5n U (λg7 w6 c9 I q6 z6=>(z2u U I U k0z (λw7 I q7 z7=>(nn (sr (z4q z0g (ev2 U) (asg U (nn (sr (mv U (fad U x0l ?_)))))))))))));replace D:=(D.ext (q4.n2 q5 q6)).fr q7;refine z0i U D U v1z ?_;replace O:=(O.ext q6).fr q7 (by first|(intro k hk hb;rw[List.mem_singleton.1 hk]at hb;first|exact O.neB I dd hb|(have:=(O.blk _ hb).2;omega))|(simp;done));refine clv (us:=[]) (ws:=[.pointer (some ⟨g7,0,none⟩),.pointer (some ⟨g3,0,none⟩)]) U (ev2 U) (mkC func168) (u1x g7 g3 a2 0 r _ _ q.fs [] w3 _ (q4.z3 q5 q6 q7) a0.f a0.fi Z oo oo oo I O dd oo h4 (by first|(simp;done)|(have:=x9n 0 r q.fs h4 q.fs.length;simp;omega)) ⟨_,_,_,rfl⟩) U (by intro g e;cases e) ?_;rintro _ w8 ⟨rfl,⟨d1,I,O,a9⟩,hz22,q8⟩;have z8:=q8.size;refine nn (sr (mv U (fad U y4s ?_)));replace D:=a8.ext q8;refine z0i U D U v1z (clv (us:=[]) (ws:=[.pointer (some ⟨g7,0,none⟩),.pointer (some ⟨g3,0,none⟩)]) U (ev2 U) (mkC func168) (u1x g7 g3 a2 1 r _ _ q.bs ([]++hds 0 r (plB q.fs) q.fs.length) w3 _ q8 a0.b a0.bi Z oo oo oo I O dd oo a6 (by first|(simp;done)|(have:=x9n 0 r q.fs h4 q.fs.length;simp;omega)) a9) U (by intro g e;cases e) ?_);rintro _ w9 ⟨rfl,⟨d3,I,O,b0⟩,hz26,q9⟩;have z9:=q9.size;rw[List.nil_append,show hds 0 r (plB q.fs) q.fs.length++hds 1 r (plB q.bs) q.bs.length=u2r q.p r by unfold u2r;simp only[List.length_map]]at O;obtain⟨a3,b5,rfl⟩:=u3r b0 O;have b6:=(O.blk a3 (by simp[z0u])).1;have a7:g7∉[a3]:=λhk=>(O.neB I dd) (by simpa[z0u] using hk);refine kpL [(7,_)] (.cons U .nil) (nn (sr (z2j U I j6b (cl (ev2 U) (mkC func169) (u4r a3 _ a2 (u2r q.p r) _ O oo) U ?_))));rintro _ d4 ⟨rfl,O,a5⟩;have d6:=a5.size;refine nn (sr ?_);replace I:=I.fr a5 (by first|exact a7|(simp;omega));refine z2j U I j6b (cl (ev1 U) (mkC func171) (v3k _ (z3h q.p r) _ (by unfold z3h;exact O.sl) oo) U ?_);rintro _ d5 ⟨b2,rfl,b4,hX,b1⟩;have d7:=b1.size;exact asg U (asg U (nn (rt (r2 results129 U U ⟨_,rfl,⟨b2,rfl,oo,hX.low oo⟩,(q1.z5 q2 q3 q9 a5 b1)⟩))))
end Go.Proofs.YtagnnbcnnmacmaaGreatDoor
namespace Go.G08
open Go.Lw Go.G21
def btL (fr to:Int):Int:=if fr<to then fr else to
def btH (fr to:Int):Int:=if fr<to then to else fr
def btD (fr to:Int):Int:=if fr<to then 1 else 0
def btA (l:List Hd)(fr to:Int)(k:Nat):List Pa:=((l.take k).filter λh=>decide (btL fr to<h.s/\h.s<btH fr to)).map λh=>⟨h.id,decide (h.b=1),btD fr to⟩
theorem k3w {l:List Hd}{fr D:Int}{k:Nat}(I:k<l.length)(h:btL fr D<(l.getD k hd0).s/\(l.getD k hd0).s<btH fr D):btA l fr D (k+1)=btA l fr D k++[⟨(l.getD k hd0).id,decide ((l.getD k hd0).b=1),btD fr D⟩]:=by
 unfold btA;rw[z6d hd0 I,List.filter_append,List.map_append,List.filter_cons,if_pos (decide_eq_true h)];rfl
theorem k5c {l:List Hd}{fr D:Int}{k:Nat}(I:k<l.length)(h:¬(btL fr D<(l.getD k hd0).s/\(l.getD k hd0).s<btH fr D)):btA l fr D (k+1)=btA l fr D k:=by
 unfold btA;rw[z6d hd0 I,List.filter_append,List.filter_cons,if_neg (by simpa using h)];simp
theorem x7j (l:List Hd)(fr D:Int)(k:Nat):(btA l fr D k).length<=l.length:=by
 unfold btA;rw[List.length_map];refine Nat.le_trans (List.length_filter_le _ _) ?_;rw[List.length_take];omega
theorem j8f {l:List Hd}{fr D:Int}(h:¬btD fr D=0):btw l fr D=btA l fr D l.length:=by
 unfold btD at h;by_cases c:fr<D;unfold btw btA btL btH btD;rw[List.take_length];simp only[if_pos c];rw[if_neg c]at h;exact absurd U h
theorem j8u {l:List Hd}{fr D:Int}(h:btD fr D=0):btw l fr D=(btA l fr D l.length).reverse:=by
 unfold btD at h;by_cases c:fr<D;rw[if_pos c]at h;exact absurd h dd;unfold btw btA btL btH btD;rw[List.take_length];simp only[if_neg c]
theorem v9m (l:List Hd)(fr D:Int):(btw l fr D).length<=l.length:=by
 by_cases h:btD fr D=0;rw[j8u h,List.length_reverse];exact x7j l fr D _;rw[j8f h];exact x7j l fr D _
end Go.G08
namespace Go.Proofs.YtagnnbcnnmacmaaGreatDoor
open Go.Lw Go.G21 Go.G08 _root_.Go.Proofs.Tryz
theorem j9q:BuildAt prog 114 [(0,2),(2,1),(3,1)] [(.int .u8 0),(.int .i64 0),(.bool false),(.int .u8 0)]:=BuildAt.struct underlying114 (λ_=>kr0) (λ_=>kr0)
theorem u1i:z0y prog 201 0 0:=λ_ _=>kr0
theorem j1x:z0y prog 201 1 2:=λ_ _=>kr0
theorem u8e (v:Value)(l:List Hd)(fr D:Int)(w0:World)(hs:Sl z4h w0 v l)(hl:l.length<=1000):Rets prog 176 #[v,.int .i64 fr,.int .i64 D] w0 λr w'=>(∃g,r=.slice (some ⟨g,0,none⟩) (btw l fr D).length (btw l fr D).length/\w0.heap.size<=g/\Lw.Own z2f 114 w0.heap.size w' r (btw l fr D))/\Fr [] w0 w':=by
 obtain⟨A,c,rfl,b6,hM,hA⟩:=id hs;clear hA;unfold maxLen at hM;refine we [(0,.slice A l.length c),(1,.int .i64 fr),(2,.int .i64 D)] func176 U ntmps176 U (.c3 U U U) ?_;have a7:=hs;refine sr (asg U (nn (sr (mv U (mv U (asg U (asg U (asg U (nn (jn (ι:=Unit) [(0,_)] (λ_j=>[(7,.int .i64 (btL fr D)),(8,.int .i64 (btH fr D)),(9,.int .u8 (btD fr D))]) (λ_j w'=>Fr [] w0 w') (.cons U .nil) ?_ ?_))))))))));refine sr (mv U (mv U (gt' U (nn (cd U (λZ=>?_) (λZ=>?_))))));exact rg (mv U (mv U (asg U (asg U (asg U (nl (jE (()) (.c4 U (by first|(rw[show btL fr D=_ from if_pos Z];rfl)|(rw[show btL fr D=_ from if_neg Z];rfl)) (by first|(rw[show btH fr D=_ from if_pos Z];rfl)|(rw[show btH fr D=_ from if_neg Z];rfl)) (by first|(rw[show btD fr D=_ from if_pos Z];rfl)|(rw[show btD fr D=_ from if_neg Z];rfl))) (Fr.refl _ _))))))));exact sk (jE (()) (.c4 U (by first|(rw[show btL fr D=_ from if_pos Z];rfl)|(rw[show btL fr D=_ from if_neg Z];rfl)) (by first|(rw[show btH fr D=_ from if_pos Z];rfl)|(rw[show btH fr D=_ from if_neg Z];rfl)) (by first|(rw[show btD fr D=_ from if_pos Z];rfl)|(rw[show btD fr D=_ from if_neg Z];rfl))) (Fr.refl _ _));rintro _j w1 q1;have z1:=q1.size;refine kpC [(0,_),(7,_),(8,_),(9,_)] (.c4 U U U U) (sr (asg U (nn (sq (sr (mv U (lnS U underlying197 (mv U (nn (bl (lpK (ι:=Nat×Value) [(7,_),(8,_),(9,_),(20,_),(21,_)] (λp=>[(22,.int .i64 (p.1:Int)),(10,p.2)]) (λp w'=>Fr [] w0 w'/\p.1<=l.length/\Lw.Own z2f 114 w0.heap.size w' p.2 (btA l fr D p.1)) (λp=>l.length-p.1) (0,_) (.c7 U U U U U U U) ⟨q1,⟨Nat.zero_le _,Own.nil _⟩⟩ ?_)))))))))));rintro⟨k,vP⟩ w2 ⟨q2,⟨hk,O⟩⟩;simp only at hk O;have z2:=q2.size;refine kpC [(7,_),(8,_),(9,_),(20,_),(21,_),(22,.int .i64 (k:Int)),(10,vP)] (.c7 U U U U U U U) ?_;have b4:=x7j l fr D k;refine sr (lt' U (nn (sq (cd U (λc1=>?_) (λc1=>?_)))));refine sk (tn (sq (bl (sr ?_))));replace hs:=a7.ext q2;refine z0x (hd0) U hs U z3z z1m (λa8 a1=>?_);refine z1t U (a1 _ hs) z6g (al u7r U (λb2 w3 a9 I q3 z3=>?_));refine z0k (vs:=[_,_,_,_,_]) U I z9n (λw4 I q4 z4=>?_) (h1:=(by first|(simp[Value.oneCell',S];done)|exact z4h.one _));refine nn (sq (rbo (r:=35) (L':=[(7,_),(8,_),(9,_),(10,_),(12,_),(20,_),(21,_),(22,_)]) ((((btL fr D)<(l.getD k hd0).s)/\((l.getD k hd0).s<(btH fr D)))) (.c8 U U U U U U U U) ?_ ?_));refine fad U x1h (z0i U I U na3 (mv U (gt' U (mv U (gs 30 U (λg0=>?_) (λg0=>?_))))));exact gY U (fad U x1h (gY U (z0i U I U na3 (gY U (mv U (gY U (lt' U (pkt U (rbe U (.c8 U U U U U U U U))))))))));exact gN U (gN U (gN U (gN U (pkf U (rbe U (.c8 U U U U U U U U))))));refine tn (cd U (λc2=>?_) (λc2=>?_));refine rg (mv U (fad U u1i (z2r (vs:=[_,_]) U I z3x U (fad U j1x (v1y U z9i U (z0i U I U v0a (eq' U (mv U (z1z (cs:=[_,_,_,_]) (ev3 U) j9q (z0f U (z0f U (z0f U z0t))) U ?_)))))))));refine z1w ([(⟨(l.getD k hd0).id,decide ((l.getD k hd0).b=1),btD fr D⟩:Pa)]) (ev1 U) U z5a (λb3 w5 b0 a2 q5 z5=>?_);replace O:=((O.ext q3).fr q4 (by first|exact z9q O oo|simp[z0u]<;>omega)).ext q5;have a0:=O;refine z1x U O a2.sl z5a (λb7 w6 O q6 a6=>?_);have z6:=q6.size;exact asg U (kpL [(7,_),(8,_),(9,_),(10,_),(20,_),(21,_),(22,_)] (.c7 U U U U U U U) (nl (bn' (tn (rg (z0q U (wi6 oo) (mv U (nl (lpE ((k+1,_)) (.c7 U U U U U U U) ⟨((q2.z3 q3 q4 q5).step q6 (λk hk a4=>absurd (a0.blk k hk).1 oo)),⟨sm,by rw[k3w oo c2];exact O⟩⟩ sm)))))))));refine sk (bn' (tn (rg (z0q U (wi6 oo) (mv U (nl ?_))))));replace O:=(O.ext q3).fr q4 (by first|exact z9q O oo|simp[z0u]<;>omega);exact lpE ((k+1,_)) (.c7 U U U U U U U) ⟨(q2.z2 q3 q4),⟨sm,by rw[k5c oo c2];exact O⟩⟩ sm;obtain rfl:k=l.length:=by omega
 have b5:=v9m l fr D;refine ex (te (te (xh (tn (jn (ι:=Unit) [(10,_)] (λ_j=>[]) (λ_j w'=>Fr [] w0 w'/\Lw.Own z2f 114 w0.heap.size w' vP (btw l fr D)) (.cons U .nil) ?_ ?_)))));refine sr (mv U (eq' U (kpL [(10,_),(49,_)] (.c2 U U) (nn (cd U (λc3=>?_) (λc3=>?_))))));refine rg (mv U ?_);have a5:=O;refine cl (ev1 U) (mkC func212) (x4e w0.heap.size _ _ _ O oo) U ?_;rintro _ w7 ⟨O,q7⟩;have z7:=q7.size;exact nl (jE (()) (.cons U .nil) ⟨(q2.step q7 (λk hk a4=>absurd (a5.blk k hk).1 oo)),(by rw[j8u c3];exact O)⟩);exact sk (jE (()) (.cons U .nil) ⟨q2,(by rw[j8f c3];exact O)⟩);rintro _j w8 ⟨q8,O⟩;have z8:=q8.size;refine kpC [(10,_)] (.cons U .nil) (sr (mv U (cl (ev1 U) (mkC func213) (y6h _ (btw l fr D) _ O.sl oo) U ?_)));rintro _ w9 ⟨a3,rfl,b1,hX,q9⟩;have z9:=q9.size;exact asg U (nn (rt (r1 results176 U ⟨_,rfl,⟨a3,rfl,oo,hX.low oo⟩,(q8.n1 q9)⟩)))
end Go.Proofs.YtagnnbcnnmacmaaGreatDoor
namespace Go.G08
open Go.Lw Go.G21
theorem Own.neO {α β:Type}{E:Enc α}{O:Enc β}{T T' b b':Nat}{w:World}{v I:Value}{ys:List α}{zs:List β}(h:Lw.Own E T b w v ys)(Z:Lw.Own O T' b' w I zs)(hT:T≠T'):∀k∈z0u v,k∉z0u I:=by
 intro k D;rcases h with ⟨rfl,rfl⟩|⟨g,cap,cur,rfl,_,hg,_⟩
 cases D;obtain rfl:k=g:=by simpa[z0u] using D
 exact Z.neB hg (Ne.symm hT)
theorem v6l (B:Bd)(r d:Int)(i:Nat):x3e B r d (i+1)=x3e B r d i++v1s B r d i:=by unfold x3e;rw[List.range_succ,List.flatMap_append];simp
theorem y8y (B:Bd)(r d p:Int)(i:Nat):y8j B r d p (i+1)=y8j B r d p i++x4r B r d p i:=by unfold y8j;rw[List.range_succ,List.flatMap_append];simp
theorem v6s {α β:Type}(f:α->List β){l:List α}{j:Nat}(d:α)(h:j<l.length):(l.take (j+1)).flatMap f=(l.take j).flatMap f++f (l.getD j d):=by
 rw[z6d d h,List.flatMap_append];simp
theorem v6g {B:Bd}(h:BdOk B)(k:Nat):(B.b.getD k []).length<=4:=by
 have:=y2e h 1 ((k:Int)+1);unfold Bd.at atB at this;rwa [if_neg dd,show ((k:Int)+1-1).toNat=k by omega]at this
theorem x7n {B:Bd}(h:BdOk B)(b n:Int):(B.atC b n).length<=4:=by
 unfold Bd.atC;split;exact y2e h b n;simp
theorem flat_len {α β:Type}(f:α->List β)(m:Nat)(hf:∀x,(f x).length<=m):∀l:List α,(l.flatMap f).length<=m*l.length
 | []=>by simp
 | x::l=>by have:=flat_len f m hf l;have:=hf x;rw[List.flatMap_cons,List.length_append,List.length_cons];rw[Nat.mul_succ];omega
theorem u6u {B:Bd}(h:BdOk B)(r d:Int)(k:Nat):(v1s B r d k).length<=16:=by
 unfold v1s;have D:=flat_len (λx=>(B.atC 0 (z9p r d k)).reverse.map (y7g d x)) 4 (λx=>by rw[List.length_map,List.length_reverse];exact x7n h _ _) (B.b.getD k []);have:=v6g h k;omega
theorem v1c {B:Bd}(h:BdOk B)(r d:Int)(i:Nat):(x3e B r d i).length<=16*i:=by
 have:=flat_len (v1s B r d) 16 (u6u h r d) (List.range i);rw[List.length_range]at this;exact this
theorem v4x {B:Bd}(h:BdOk B)(r d p:Int)(k:Nat):(x4r B r d p k).length<=4:=by
 unfold x4r;split;simp;rw[List.length_map];exact v6g h k
theorem x6f {B:Bd}(h:BdOk B)(r d p:Int)(i:Nat):(y8j B r d p i).length<=4*i:=by
 have:=flat_len (x4r B r d p) 4 (v4x h r d p) (List.range i);rw[List.length_range]at this;exact this
theorem x4v {B:Bd}(h:BdOk B)(r d p:Int):(z8a B r d p).length<=4*B.b.length:=by
 have:=x6f h r d p B.b.length;unfold z8a;split;rw[List.length_reverse];exact this;exact this
theorem y2y {B:Bd}(h:BdOk B)(r d:Int):(z3q B r d).length<=16*B.b.length:=by
 have:=v1c h r d B.b.length;unfold z3q;split;rw[List.length_reverse];exact this;exact this
end Go.G08
namespace Go.Proofs.YtagnnbcnnmacmaaGreatDoor
open Go.Lw Go.G21 Go.G08 _root_.Go.Proofs.Tryz
theorem u4c (q:BdQ)(r d pl:Int)(w0:World)(Z:BdAt w0 q)(hv:BdOk q.p)(hT:StT w0)(hr:-4<=r/\r<=4)(hd:d=0\/d=1)(d7:-4<=r+stI d/\r+stI d<=4)(hp:¬Int.tmod pl 2=0)(d5:-9223372036854775808<=pl/\pl<=9223372036854775807):Rets prog 172 #[.agg #[.slice q.f.1 q.f.2.1 q.f.2.2,.slice q.b.1 q.b.2.1 q.b.2.2],.int .i64 r,.int .u8 d,.int .i64 pl] w0 λv w'=>(∃g,v=.tuple #[.slice (some ⟨g,0,none⟩) (z8a q.p r d pl).length (z8a q.p r d pl).length,.int .i64 0]/\w0.heap.size<=g/\Lw.Own z2f 114 w0.heap.size w' (.slice (some ⟨g,0,none⟩) (z8a q.p r d pl).length (z8a q.p r d pl).length) (z8a q.p r d pl))/\Fr [] w0 w':=by
 obtain⟨⟨hf,hb⟩,h4,b1⟩:=z4b hv;have b3:=x4v hv r d pl;rw[List.length_map]at b3;refine we [(0,.agg #[.slice q.f.1 q.f.2.1 q.f.2.2,.slice q.b.1 q.b.2.1 q.b.2.2]),(1,.int .i64 r),(2,.int .u8 d),(3,.int .i64 pl)] func172 U ntmps172 U (.c4 U U U U) ?_;have I:=Z;have a2:=hT;refine sr (bx U (λg4 w1 d4 a0 q1 z1=>(asg U (asg U (nn (sq (sr (z0m U a0 z6k (mv U (mv U ?_))))))))));replace Z:=I.ext q1;replace hT:=a2.ext q1;refine cl (ev3 U) (mkC func211) (x6x q _ _ _ Z hv hT oo hd oo) U ?_;rintro _ w2 ⟨rfl,q2⟩;have z2:=q2.size;refine asg U (nn (sr (mv U (ne' U (nn (cd U (λc0=>?_) (λc0=>?_)))))));exact absurd U c0;refine sk (tn (sq (sr (mv U (x7c U U (by first|exact IntWalk.rem_in _ _ oo|rfl) U (eq' U (nn (cd U (λc1=>?_) (λc1=>?_)))))))));exact absurd c1 hp;refine sk (tn (sr (asg U (nn (jn (ι:=Unit) [(1,_),(2,_),(3,_),(4,_)] (λ_j=>[(11,.int .u8 (1-d))]) (λ_j w'=>Fr [] w2 w') (.c4 U U U U) ?_ ?_)))));refine sr (mv U (eq' U (nn (cd U (λc2=>?_) (λc2=>?_)))));refine rg (asg U (nl ?_));exact jE (()) (.c5 U U U U (congrArg (λz=>some (Value.int .u8 z)) oo)) (Fr.refl _ _);refine sk ?_;exact jE (()) (.c5 U U U U (congrArg (λz=>some (Value.int .u8 z)) oo)) (Fr.refl _ _);rintro _j w3 q3;have z3:=q3.size;refine kpC [(1,_),(2,_),(3,_),(4,_),(11,_)] (.c5 U U U U U) (sr (asg U (nn (sq (sr (fad U y4s ?_))))));replace a0:=a0.ext (q2.n1 q3);refine z0i U a0 U v1z (lnS U underlying35 (mv U (nn (bl (lpK (ι:=Nat×Value) [(1,_),(2,_),(3,_),(11,_),(31,_),(32,_)] (λp=>[(33,.int .i64 (p.1:Int)),(12,p.2)]) (λp w'=>Fr [] w0 w'/\p.1<=q.bs.length/\Lw.Own z2f 114 w0.heap.size w' p.2 (y8j q.p r d pl p.1)) (λp=>q.bs.length-p.1) (0,_) (.c8 U U U U U U U U) ⟨(q1.n2 q2 q3),⟨Nat.zero_le _,Own.nil _⟩⟩ ?_)))));rintro⟨i,uI⟩ w4 ⟨q4,⟨hi,D⟩⟩;simp only at hi D;have z4:=q4.size;refine kpC [(1,_),(2,_),(3,_),(11,_),(31,_),(32,_),(33,.int .i64 (i:Int)),(12,uI)] (.c8 U U U U U U U U) ?_;have d6:=z2g I.b;have d3:=x6f hv r d pl i;have d9:=z4e b1 i;have e0:=z2g (z1p I.bi i);have e1:-300<=z2s 1 ((i:Int)+1) r/\z2s 1 ((i:Int)+1) r<=300:=by
  unfold z2s;split;omega;split<;>omega
 have e2:stI d = -1\/stI d=1:=by unfold stI;split<;>simp
 refine sr (lt' U (nn (sq (cd U (λc3=>?_) (λc3=>?_)))));refine sk (tn (sq (bl (sr (mv U ?_)))));replace Z:=I.ext q4;refine z0x (iq0) U Z.b U y2h z1m (λb6 a3=>?_);refine z1a U (a3 _ Z.b) z8o (asg U (asg U (nn (sr (mv U (z0q U (wi6 oo) (z1z (cs:=[_,_]) (ev2 U) x8q (z0f U (z0f U z0t)) U ?_)))))));refine mv U (cl (ev2 U) v3q (y4a _ _ _ _ oo) U ?_);rintro _ w5 ⟨rfl,q5⟩;have z5:=q5.size;refine asg U (kpL [(1,_),(2,_),(3,_),(11,_),(12,_),(14,_),(15,_),(31,_),(32,_),(33,_)] (.d8 U U U U U U U U (.c2 U U)) (nn (sq (sq (rbo (r:=59) (L':=[(1,_),(2,_),(3,_),(11,_),(12,_),(14,_),(31,_),(32,_),(33,_)]) (((pl≠((z2s 1 ((i:Int)+1) r)+(stI d)))/\(pl≠((z2s 1 ((i:Int)+1) r)+(3*(stI d)))))) (.d8 U U U U U U U U (.cons U .nil)) ?_ ?_)))));refine mv U (mv U (mv U (y1f U U underlying299 sz3 ?_)));replace hT:=a2.ext (q4.n1 q5);refine z9b U hT.c (y7a hd) na3 (z0q U (wi6 oo) (ne' U (mv U (gs 50 U (λg0=>?_) (λg0=>?_)))));exact gY U (mv U (gY U (mv U (gY U (mv U (gY U (y1f U U underlying299 sz3 (gY U (z9b U hT.c (y7a hd) na3 (gY U (y4m U (wi6 oo) (gY U (z0q U (wi6 oo) (gY U (ne' U (pkt U (rbe U (.d8 U U U U U U U U (.cons U .nil)))))))))))))))))));exact gN U (gN U (gN U (gN U (gN U (gN U (gN U (gN U (pkf U (rbe U (.d8 U U U U U U U U (.cons U .nil)))))))))));refine tn (cd U (λc4=>?_) (λc4=>?_));refine ex (te (xh (tn (rg (z0q U (wi6 oo) (mv U (nl ?_)))))));replace D:=D.ext q5;exact lpE ((i+1,_)) (.c8 U U U U U U U U) ⟨(q4.n1 q5),⟨sm,by rw[y8y,show x4r q.p r d pl i=[] from if_pos c4,List.append_nil];exact D⟩⟩ sm;refine sk (tn (sr (mv U (lnS U underlying42 (mv U (nn (bl ?_)))))));replace D:=D.ext q5;refine lpK (ι:=Nat×Value) [(1,_),(2,_),(3,_),(11,_),(31,_),(32,_),(33,_),(60,_),(61,_)] (λp=>[(62,.int .i64 (p.1:Int)),(12,p.2)]) (λp w'=>Fr [] w0 w'/\p.1<=(q.bs.getD i iq0).2.length/\Lw.Own z2f 114 w0.heap.size w' p.2 ((y8j q.p r d pl i)++((q.bs.getD i iq0).2.take p.1).map (λx=>(⟨x,true,1-d⟩:Pa)))) (λp=>(q.bs.getD i iq0).2.length-p.1) (0,uI) (.d8 U U U U U U U U (.c3 U U U)) ⟨(q4.n1 q5),⟨Nat.zero_le _,by simpa using D⟩⟩ ?_;rintro⟨j,uJ⟩ w6 ⟨q6,⟨hj,D⟩⟩;simp only at hj D;have z6:=q6.size;refine kpC [(1,_),(2,_),(3,_),(11,_),(31,_),(32,_),(33,_),(60,_),(61,_),(62,.int .i64 (j:Int)),(12,uJ)] (.d8 U U U U U U U U (.c3 U U U)) (sr (lt' U (nn (sq (cd U (λc5=>?_) (λc5=>?_))))));refine sk (tn (sq (bl (sr ?_))));replace Z:=I.ext q6;refine z0x (id0) U (z1p Z.bi i) U z6q z1m (λb7 a4=>?_);refine z1t U (a4 _ (z1p Z.bi i)) z3x (al y6l U (λd0 w7 b8 O q7 z7=>?_));refine z0k (vs:=[_,_]) U O y3o (λw8 O q8 z8=>?_) (h1:=(by first|(simp[Value.oneCell',S];done)|exact z1j.one _));refine nn (rg (mv U (z0m U O z3x (mv U (z1z (cs:=[_,_,_,_]) (ev3 U) j9q (z0f U (z0f U (z0f U z0t))) U ?_)))));refine z1w ([(⟨((q.bs.getD i iq0).2.getD j id0),true,1-d⟩:Pa)]) (ev1 U) U z5a (λd1 w9 b9 a5 q9 z9=>?_);replace D:=((D.ext q7).fr q8 (by first|exact z9q D oo|simp[z0u]<;>omega)).ext q9;have a1:=D;refine z1x U D a5.sl z5a (λe3 e4 D a6 b5=>?_) (hM:=(by unfold maxLen;simp only[List.length_append,List.length_map,List.length_take,List.length_cons,List.length_nil];omega)) (hb:=(by simp only[List.length_append,List.length_map,List.length_take,List.length_cons,List.length_nil];omega));have e8:=a6.size;exact asg U (kpL [(1,_),(2,_),(3,_),(11,_),(12,_),(31,_),(32,_),(33,_),(60,_),(61,_),(62,_)] (.d8 U U U U U U U U (.c3 U U U)) (nl (bn' (tn (rg (z0q U (wi6 oo) (mv U (nl (lpE ((j+1,_)) (.d8 U U U U U U U U (.c3 U U U)) ⟨((q6.z3 q7 q8 q9).step a6 (λk hk b2=>absurd (a1.blk k hk).1 oo)),⟨sm,by rw[y5x (λx=>(⟨x,true,1-d⟩:Pa)) id0 oo,<-List.append_assoc];exact D⟩⟩ sm)))))))));obtain rfl:j=(q.bs.getD i iq0).2.length:=by omega
 rw[List.take_length]at D;exact ex (te (te (xh (bn' (tn (rg (z0q U (wi6 oo) (mv U (nl (lpE ((i+1,_)) (.c8 U U U U U U U U) ⟨q6,⟨sm,by rw[y8y,show x4r q.p r d pl i=_ from if_neg c4,z4x];exact D⟩⟩ sm))))))))));obtain rfl:i=q.bs.length:=by omega
 refine ex (te (te (xh (tn (jn (ι:=Unit) [(12,_)] (λ_j=>[]) (λ_j w'=>Fr [] w0 w'/\Lw.Own z2f 114 w0.heap.size w' uI (z8a q.p r d pl)) (.cons U .nil) ?_ ?_)))));refine sr (mv U (eq' U (kpL [(12,_),(75,_)] (.c2 U U) (nn (cd U (λc6=>?_) (λc6=>?_))))));refine rg (mv U ?_);have b4:=D;refine cl (ev1 U) (mkC func212) (x4e w0.heap.size _ _ _ D oo) U ?_;rintro _ e5 ⟨D,a7⟩;have e9:=a7.size;exact nl (jE (()) (.cons U .nil) ⟨(q4.step a7 (λk hk b2=>absurd (b4.blk k hk).1 oo)),(by rw[show z8a q.p r d pl=_ from if_pos oo,List.length_map];exact D)⟩);exact sk (jE (()) (.cons U .nil) ⟨q4,(by rw[show z8a q.p r d pl=_ from if_neg oo,List.length_map];exact D)⟩);rintro _j e6 ⟨a8,D⟩;have f0:=a8.size;refine kpC [(12,_)] (.cons U .nil) (sr (mv U (cl (ev1 U) (mkC func213) (y6h _ (z8a q.p r d pl) _ D.sl oo) U ?_)));rintro _ e7 ⟨b0,rfl,c9,hX,a9⟩;have f1:=a9.size;exact asg U (asg U (nn (rt (r2 results172 U U ⟨_,rfl,⟨b0,rfl,oo,hX.low oo⟩,(a8.n1 a9)⟩))))
theorem k0h:BuildAt prog 232 [(0,2),(2,2),(4,1)] [(.int .u8 0),(.int .i64 0),(.int .u8 0),(.int .i64 0),(.int .i64 0)]:=BuildAt.struct underlying232 (λ_=>kr0) (λ_=>kr0)
theorem u9q (q:BdQ)(r d:Int)(w0:World)(hB:BdAt w0 q)(hv:BdOk q.p)(hT:StT w0)(hr:-4<=r/\r<=4)(hd:d=0\/d=1)(g1:-4<=r+stI d/\r+stI d<=4):Rets prog 174 #[.agg #[.slice q.f.1 q.f.2.1 q.f.2.2,.slice q.b.1 q.b.2.1 q.b.2.2],.int .i64 r,.int .u8 d] w0 λv w'=>(∃g,v=.tuple #[.slice (some ⟨g,0,none⟩) (z3q q.p r d).length (z3q q.p r d).length,.int .i64 0]/\w0.heap.size<=g/\Lw.Own z5p 232 w0.heap.size w' (.slice (some ⟨g,0,none⟩) (z3q q.p r d).length (z3q q.p r d).length) (z3q q.p r d))/\Fr [] w0 w':=by
 obtain⟨⟨hf,hb⟩,h4,b5⟩:=z4b hv;have g0:=z2g hB.b;have e2:=y2y hv r d;rw[List.length_map]at e2;refine we [(0,.agg #[.slice q.f.1 q.f.2.1 q.f.2.2,.slice q.b.1 q.b.2.1 q.b.2.2]),(1,.int .i64 r),(2,.int .u8 d)] func174 U ntmps174 U (.c3 U U U) ?_;have a5:=hB;have d9:=hT;refine sr (bx U (λg3 w1 f9 a1 q1 z1=>(asg U (asg U (nn (sq (sr (z0m U a1 z6k (mv U (mv U ?_))))))))));replace hB:=a5.ext q1;replace hT:=d9.ext q1;refine cl (ev3 U) (mkC func211) (x6x q _ _ _ hB hv hT oo hd oo) U ?_;rintro _ w2 ⟨rfl,q2⟩;have z2:=q2.size;replace a1:=a1.ext q2;have b6:=a1;refine asg U (nn (sr (mv U (ne' U (nn (cd U (λc0=>?_) (λc0=>?_)))))));exact absurd U c0;refine sk (tn (sr (asg U (nn (sq (sr (fad U y4s (z0i U a1 U v1z (lnS U underlying35 (mv U (nn (bl (lpK (ι:=Nat×Value) [(1,_),(2,_),(3,_),(26,_),(27,_)] (λp=>[(28,.int .i64 (p.1:Int)),(9,p.2)]) (λp w'=>Fr [] w2 w'/\p.1<=q.bs.length/\Lw.Own z5p 232 w2.heap.size w' p.2 (x3e q.p r d p.1)) (λp=>q.bs.length-p.1) (0,_) (.c7 U U U U U U U) ⟨(Fr.refl _ _),⟨Nat.zero_le _,Own.nil _⟩⟩ ?_)))))))))))));rintro⟨i,uI⟩ w3 ⟨q3,⟨hi,I⟩⟩;simp only at hi I;have z3:=q3.size;refine kpC [(1,_),(2,_),(3,_),(26,_),(27,_),(28,.int .i64 (i:Int)),(9,uI)] (.c7 U U U U U U U) ?_;have f7:=v1c hv r d i;have g4:=z4e b5 i;have g5:=z2g (z1p a5.bi i);have f8:-10<=z9p r d i/\z9p r d i<=50:=by unfold z9p;split<;>omega
 have e0:((q.p.atC 0 (z9p r d i)).reverse).length<=4:=by rw[List.length_reverse];exact x7n hv _ _
 refine sr (lt' U (nn (sq (cd U (λc1=>?_) (λc1=>?_)))));refine sk (tn (sq (bl (sr (mv U ?_)))));replace hB:=a5.ext (q1.n2 q2 q3);refine z0x (iq0) U hB.b U y2h z1m (λe5 b7=>?_);refine z1a U (b7 _ hB.b) z8o (asg U (asg U (nn (sr (mv U (z0q U (wi6 oo) (mv U (z0q U (wi6 oo) (asg U (nn (jn (ι:=Unit) [(1,_),(2,_),(3,_),(9,_),(11,_),(26,_),(27,_),(28,_)] (λ_j=>[(12,.int .i64 (z9p r d i))]) (λ_j w'=>Fr [] w2 w'/\Lw.Own z5p 232 w2.heap.size w' uI (x3e q.p r d i)) (.c8 U U U U U U U U) ?_ ?_)))))))))));refine sr (mv U (eq' U (nn (cd U (λc2=>?_) (λc2=>?_)))));exact rg (mv U (z1u U (wi6 oo) (asg U (nl (jE (()) (.d8 U U U U U U U U (.cons (by first|(rw[show z9p r d i=_ from if_pos c2];rfl)|(rw[show z9p r d i=_ from if_neg c2];rfl)) .nil)) ⟨q3,I⟩)))));exact sk (jE (()) (.d8 U U U U U U U U (.cons (by first|(rw[show z9p r d i=_ from if_pos c2];rfl)|(rw[show z9p r d i=_ from if_neg c2];rfl)) .nil)) ⟨q3,I⟩);rintro _j w4 ⟨q4,I⟩;have z4:=q4.size;refine kpC [(1,_),(2,_),(3,_),(9,_),(11,_),(26,_),(27,_),(28,_),(12,_)] (.d8 U U U U U U U U (.cons U .nil)) (sr ?_);replace a1:=b6.ext q4;refine z0m U a1 z6k (mv U (z1z (cs:=[_,_]) (ev2 U) x8q (z0f U (z0f U z0t)) U ?_));replace hB:=a5.ext (q1.n2 q2 q4);refine cl (ev2 U) u8w (x4d q 0 (z9p r d i) _ hB oo hf hb h4 b5) U ?_;rintro g6 w5 ⟨O,q5⟩;replace O:=O.low (show w2.heap.size<=_ by omega);have z5:=q5.size;refine asg U (nn (sr (mv U ?_)));have a6:=O;replace I:=I.ext q5;refine cl (ev1 U) (mkC func216) (u2c w2.heap.size _ _ _ O (by have:=x7n hv 0 (z9p r d i);omega)) U ?_;rintro _ w6 ⟨O,q6⟩;replace I:=I.fr q6 (Own.neO a6 I dd);have z6:=q6.size;obtain⟨b3,b4,rfl,e8⟩:=O.sl.form;refine nn (sr (mv U (lnS U underlying42 (mv U (nn (bl (lpK (ι:=Nat×Value) [(1,_),(2,_),(3,_),(13,_),(26,_),(27,_),(28,_),(47,_),(48,_)] (λp=>[(49,.int .i64 (p.1:Int)),(9,p.2)]) (λp w'=>Fr [] w2 w'/\p.1<=(q.bs.getD i iq0).2.length/\Lw.Own z5p 232 w2.heap.size w' p.2 ((x3e q.p r d i)++((q.bs.getD i iq0).2.take p.1).flatMap (λx=>((q.p.atC 0 (z9p r d i)).reverse).map (y7g d x)))/\Lw.Own z1j 54 w2.heap.size w' (.slice b3 ((q.p.atC 0 (z9p r d i)).reverse).length b4) ((q.p.atC 0 (z9p r d i)).reverse)) (λp=>(q.bs.getD i iq0).2.length-p.1) (0,_) (.d8 U U U U U U U U (.c3 U U U)) ⟨((q4.n1 q5).step q6 (λk hk b2=>absurd (a6.blk k hk).1 oo)),⟨Nat.zero_le _,by simpa using I,O⟩⟩ ?_)))))));rintro⟨j,uJ⟩ w7 ⟨q7,⟨hj,I,O⟩⟩;simp only at hj I;have z7:=q7.size;refine kpC [(1,_),(2,_),(3,_),(13,_),(26,_),(27,_),(28,_),(47,_),(48,_),(49,.int .i64 (j:Int)),(9,uJ)] (.d8 U U U U U U U U (.c3 U U U)) ?_;have e1:=flat_len (λx=>((q.p.atC 0 (z9p r d i)).reverse).map (y7g d x)) 4 (λx=>by rw[List.length_map];exact e0) ((q.bs.getD i iq0).2.take j);rw[List.length_take]at e1;refine sr (lt' U (nn (sq (cd U (λc3=>?_) (λc3=>?_)))));refine sk (tn (sq (bl (sr ?_))));replace hB:=a5.ext (q1.n2 q2 q7);refine z0x (id0) U (z1p hB.bi i) U z6q z1m (λe6 b8=>?_);refine z1t U (b8 _ (z1p hB.bi i)) z3x (al y6l U (λd6 w8 e9 D q8 z8=>?_));refine z0k (vs:=[_,_]) U D y3o (λw9 D q9 z9=>?_) (h1:=(by first|(simp[Value.oneCell',S];done)|exact z1j.one _));refine nn (sr (mv U (lnS U underlying42 (mv U (nn (bl ?_))))));replace I:=(I.ext q8).fr q9 (by first|exact z9q I oo|simp[z0u]<;>omega);replace O:=(O.ext q8).fr q9 (by first|exact z9q O oo|simp[z0u]<;>omega);refine lpK (ι:=Nat×Value) [(1,_),(2,_),(3,_),(13,_),(15,_),(26,_),(27,_),(28,_),(47,_),(48,_),(49,_),(53,_),(54,_)] (λp=>[(55,.int .i64 (p.1:Int)),(9,p.2)]) (λp w'=>Fr [] w2 w'/\p.1<=((q.p.atC 0 (z9p r d i)).reverse).length/\Lw.Own z5p 232 w2.heap.size w' p.2 (((x3e q.p r d i)++((q.bs.getD i iq0).2.take j).flatMap (λx=>((q.p.atC 0 (z9p r d i)).reverse).map (y7g d x)))++(((q.p.atC 0 (z9p r d i)).reverse).take p.1).map (y7g d ((q.bs.getD i iq0).2.getD j id0)))/\Lw.Own z1j 54 w2.heap.size w' (.slice b3 ((q.p.atC 0 (z9p r d i)).reverse).length b4) ((q.p.atC 0 (z9p r d i)).reverse)/\Blk w' d6 54 (z1j.enc ((q.bs.getD i iq0).2.getD j id0))) (λp=>((q.p.atC 0 (z9p r d i)).reverse).length-p.1) (0,_) (.d8 U U U U U U U U (.c7 U U U U U U U)) ⟨(q7.z2 q8 q9),⟨Nat.zero_le _,by simpa using I,O,D⟩⟩ ?_;rintro⟨k,uK⟩ g9 ⟨a7,⟨hk,I,O,D⟩⟩;simp only at hk I;have i1:=a7.size;have d1:=D.lt;refine kpC [(1,_),(2,_),(3,_),(13,_),(15,_),(26,_),(27,_),(28,_),(47,_),(48,_),(49,_),(53,_),(54,_),(55,.int .i64 (k:Int)),(9,uK)] (.d8 U U U U U U U U (.c7 U U U U U U U)) (sr (lt' U (nn (sq (cd U (λc4=>?_) (λc4=>?_))))));refine sk (tn (sq (bl (sr (z0x (id0) U O.sl U z6q z1m (λe7 b9=>?_))))));refine z1t U (b9 _ O.sl) z3x (al y6l U (λf4 h0 f0 a4 Z i2=>?_));refine z0k (vs:=[_,_]) U a4 y3o (λh2 a4 a0 i3=>?_) (h1:=(by first|(simp[Value.oneCell',S];done)|exact z1j.one _));refine nn (sr (mv U (eq' U (nn (cd U (λc5=>?_) (λc5=>?_))))));refine rg (mv U (z0m U a4 z3x ?_));replace D:=(D.ext Z).fr a0;refine z0m U D z3x (z1z (cs:=[_,_,_,_,_]) (ev3 U) k0h (z0f U (z0f U (z0f U z0t))) U ?_);refine z1w ([(⟨(((q.p.atC 0 (z9p r d i)).reverse).getD k id0),((q.bs.getD i iq0).2.getD j id0),1⟩:Cx)]) (ev1 U) U y3u (λf5 h3 f1 c9 a8 i4=>?_);replace O:=((O.ext Z).fr a0 (by first|exact z9q O oo|simp[z0u]<;>omega)).ext a8;replace D:=D.ext a8;replace I:=((I.ext Z).fr a0 (by first|exact z9q I oo|simp[z0u]<;>omega)).ext a8;have a2:=I;refine z1x U I c9.sl y3u (λg7 h5 I a9 e3=>?_) (hM:=(by unfold maxLen;simp only[List.length_append,List.length_map,List.length_take,List.length_cons,List.length_nil];omega)) (hb:=(by simp only[List.length_append,List.length_map,List.length_take,List.length_cons,List.length_nil];omega));have i5:=a9.size;replace O:=O.fr a9 ((Own.neO a2 O dd));replace D:=D.fr a9 (λhk=>a2.neB D dd hk);exact asg U (kpL [(1,_),(2,_),(3,_),(9,_),(13,_),(15,_),(26,_),(27,_),(28,_),(47,_),(48,_),(49,_),(53,_),(54,_),(55,_)] (.d8 U U U U U U U U (.c7 U U U U U U U)) (nl (bn' (tn (rg (z0q U (wi6 oo) (mv U (nl (lpE ((k+1,_)) (.d8 U U U U U U U U (.c7 U U U U U U U)) ⟨((a7.z3 Z a0 a8).step a9 (λk hk b2=>absurd (a2.blk k hk).1 oo)),⟨sm,by rw[y5x (y7g d ((q.bs.getD i iq0).2.getD j id0)) id0 oo,<-List.append_assoc,show y7g d ((q.bs.getD i iq0).2.getD j id0) (((q.p.atC 0 (z9p r d i)).reverse).getD k id0)=_ from if_pos c5];exact I,O,D⟩⟩ sm)))))))));refine rg (mv U ?_);replace D:=(D.ext Z).fr a0;refine z0m U D z3x (z0m U a4 z3x (z1z (cs:=[_,_,_,_,_]) (ev3 U) k0h (z0f U (z0f U (z0f U z0t))) U ?_));refine z1w ([(⟨((q.bs.getD i iq0).2.getD j id0),(((q.p.atC 0 (z9p r d i)).reverse).getD k id0),-1⟩:Cx)]) (ev1 U) U y3u (λf6 h6 f2 d0 b0 i7=>?_);replace O:=((O.ext Z).fr a0 (by first|exact z9q O oo|simp[z0u]<;>omega)).ext b0;replace D:=D.ext b0;replace I:=((I.ext Z).fr a0 (by first|exact z9q I oo|simp[z0u]<;>omega)).ext b0;have a3:=I;refine z1x U I d0.sl y3u (λg8 h7 I b1 e4=>?_) (hM:=(by unfold maxLen;simp only[List.length_append,List.length_map,List.length_take,List.length_cons,List.length_nil];omega)) (hb:=(by simp only[List.length_append,List.length_map,List.length_take,List.length_cons,List.length_nil];omega));have i8:=b1.size;replace O:=O.fr b1 ((Own.neO a3 O dd));replace D:=D.fr b1 (λhk=>a3.neB D dd hk);exact asg U (kpL [(1,_),(2,_),(3,_),(9,_),(13,_),(15,_),(26,_),(27,_),(28,_),(47,_),(48,_),(49,_),(53,_),(54,_),(55,_)] (.d8 U U U U U U U U (.c7 U U U U U U U)) (nl (bn' (tn (rg (z0q U (wi6 oo) (mv U (nl (lpE ((k+1,_)) (.d8 U U U U U U U U (.c7 U U U U U U U)) ⟨((a7.z3 Z a0 b0).step b1 (λk hk b2=>absurd (a3.blk k hk).1 oo)),⟨sm,by rw[y5x (y7g d ((q.bs.getD i iq0).2.getD j id0)) id0 oo,<-List.append_assoc,show y7g d ((q.bs.getD i iq0).2.getD j id0) (((q.p.atC 0 (z9p r d i)).reverse).getD k id0)=_ from if_neg c5];exact I,O,D⟩⟩ sm)))))))));obtain rfl:k=((q.p.atC 0 (z9p r d i)).reverse).length:=by omega
 rw[List.take_length]at I;exact ex (te (te (xh (bn' (tn (rg (z0q U (wi6 oo) (mv U (kpL [(1,_),(2,_),(3,_),(9,_),(13,_),(26,_),(27,_),(28,_),(47,_),(48,_),(49,_)] (.d8 U U U U U U U U (.c3 U U U)) (nl (lpE ((j+1,_)) (.d8 U U U U U U U U (.c3 U U U)) ⟨a7,⟨sm,by rw[v6s (λx=>((q.p.atC 0 (z9p r d i)).reverse).map (y7g d x)) id0 oo,<-List.append_assoc];exact I,O⟩⟩ sm)))))))))));obtain rfl:j=(q.bs.getD i iq0).2.length:=by omega
 rw[List.take_length]at I;exact ex (te (te (xh (bn' (tn (rg (z0q U (wi6 oo) (mv U (kpL [(1,_),(2,_),(3,_),(9,_),(26,_),(27,_),(28,_)] (.c7 U U U U U U U) (nl (lpE ((i+1,_)) (.c7 U U U U U U U) ⟨q7,⟨sm,by rw[v6l,show v1s q.p r d i=(q.bs.getD i iq0).2.flatMap (λx=>((q.p.atC 0 (z9p r d i)).reverse).map (y7g d x)) from by unfold v1s;rw[z4x]];exact I⟩⟩ sm)))))))))));obtain rfl:i=q.bs.length:=by omega
 refine ex (te (te (xh (tn (jn (ι:=Unit) [(9,_)] (λ_j=>[]) (λ_j w'=>Fr [] w0 w'/\Lw.Own z5p 232 w0.heap.size w' uI (z3q q.p r d)) (.cons U .nil) ?_ ?_)))));refine sr (mv U (eq' U (kpL [(9,_),(77,_)] (.c2 U U) (nn (cd U (λc6=>?_) (λc6=>?_))))));refine rg (mv U ?_);have a6:=I;refine cl (ev1 U) (mkC func217) (v7n w2.heap.size _ _ _ I oo) U ?_;rintro _ h8 ⟨I,d3⟩;have i9:=d3.size;exact nl (jE (()) (.cons U .nil) ⟨((q1.n2 q2 q3).step d3 (λk hk b2=>absurd (a6.blk k hk).1 oo)),(by rw[show z3q q.p r d=_ from if_pos oo,List.length_map];exact I.low oo)⟩);exact sk (jE (()) (.cons U .nil) ⟨(q1.n2 q2 q3),(by rw[show z3q q.p r d=_ from if_neg oo,List.length_map];exact I.low oo)⟩);rintro _j h9 ⟨d4,I⟩;have j0:=d4.size;refine kpC [(9,_)] (.cons U .nil) (sr (mv U (cl (ev1 U) (mkC func218) (x9f _ (z3q q.p r d) _ I.sl oo) U ?_)));rintro _ i0 ⟨d7,rfl,f3,hY,d5⟩;have j1:=d5.size;exact asg U (asg U (nn (rt (r2 results174 U U ⟨_,rfl,⟨d7,rfl,oo,hY.low oo⟩,(d4.n1 d5)⟩))))
end Go.Proofs.YtagnnbcnnmacmaaGreatDoor
namespace Go.G08
open Go.Lw Go.G21
def orZ:List Int->Int
  | []=>0
  | x::l=>if x≠0 then x else orZ l
theorem u2a:∀ {l:List Int} {i:Nat},i<l.length->(∀j,j<i->l.getD j 0=0)->l.getD i 0≠0->orZ l=l.getD i 0
 | x::l,0,_,_,h=>by simp only[List.getD_cons_zero]at h ⊢;exact if_pos h
 | x::l,i+1,hi,hj,h=>by
  have D:=hj 0 oo
  simp only[List.getD_cons_zero]at D
  rw[show orZ (x::l)=if x≠0 then x else orZ l from U,if_neg oo]
  simp only[List.getD_cons_succ]at h ⊢
  exact u2a (by simpa using hi) (λj hl=>by have:=hj (j+1) oo;simpa only[List.getD_cons_succ] using this) h
theorem x2d:∀ {l:List Int},(∀j,j<l.length->l.getD j 0=0)->orZ l=0
 | [],_=>rfl
 | x::l,hj=>by
  have D:=hj 0 sp0
  simp only[List.getD_cons_zero]at D
  rw[show orZ (x::l)=if x≠0 then x else orZ l from U,if_neg oo]
  exact x2d (λj hl=>by have:=hj (j+1) (by simpa using hl);simpa only[List.getD_cons_succ] using this)
theorem v1b (a b:LId):orZ [y1e a.y b.y,y1e a.n b.n]=z5m a b:=by
 unfold orZ orZ orZ y1e z5m
 repeat' split
 all_goals first|rfl|omega
end Go.G08
namespace Go.Lw
open Go.RowKit
def MapL {κ:Type}[DecidableEq κ](V:κ->Value)(w:World)(g:Nat)(m:List (κ×Value)):Prop:=
  ∃(es:Array MapEntry) (c:Nat),w.heap[g]?=some (.map es c)/\es.toList.map (λe=>(e.key,e.val))=m.map (λp=>(V p.1,p.2))/\(m.map (·.1)).Nodup/\(es.toList.map (·.born)).Nodup/\∀e∈es.toList,e.born<c
def z5u {κ:Type}[DecidableEq κ](m:List (κ×Value))(k:κ):List (κ×Value):=
  match (m.map (·.1)).findIdx? (λx=>decide (k=x)) with
  | some i=>m.eraseIdx i
  | none=>m
def MapIt {κ:Type}[DecidableEq κ](V:κ->Value)(w:World)(gi g:Nat)(m rem:List (κ×Value))(cur:Option (κ×Value)):Prop:=
  ∃(es:Array MapEntry) (c:Nat) (seen:Array Nat),w.heap[g]?=some (.map es c)/\es.toList.map (λe=>(e.key,e.val))=m.map (λp=>(V p.1,p.2))/\(es.toList.map (·.born)).Nodup/\(∀e∈es.toList,e.born<c)/\
    w.heap[gi]?=some (.mapIter (some g) c seen c)/\(leftOf es seen).toList.map (λe=>(e.key,e.val))=rem.map (λp=>(V p.1,p.2))/\∀p,cur=some p->∃e∈es.toList,∃s':Array Nat,seen=s'.push e.born/\e.key=V p.1/\e.val=p.2
theorem j6l {P:Program}{ops:Array Oper}{Q:Exit->Act->World->Prop}{o:Oper}{rest:List Oper}{a:Act}{n:Nat}{ds:List Nat}{L:List (Nat×Value)}{w w':World}{v:Value}(h:AgM ds a n L)(O:o.guard=none)(I:o.dst=none)(Z:(execOp a.eval o).run P w=.ok (.value v) w')
    (k:∀a,AgM ds a n L->wpList P ops Q rest a w'):wpList P ops Q (o::rest) a w:=
  wpList_plain O λK D=>by
    unfold Oper.wp
    rw[Z]
    show K (a.put o.dst v) w'
    rw[I]
    exact D _ _ (k _ h)
theorem y8n {D:Type}(m:List (D×Value))(i:Nat)(v:Value):(m.modify i λp=>(p.1,v)).map (·.1)=m.map (·.1):=by
 apply List.ext_getElem?;intro j;simp only[List.getElem?_map,List.getElem?_modify];by_cases h:i=j;subst h;cases m[i]?<;>simp
 simp[h]
theorem y3k {α β:Type}(f:α->β)(i:Nat)(l:List α):(l.eraseIdx i).map f=(l.map f).eraseIdx i:=by
 apply List.ext_getElem?;intro j;simp only[List.getElem?_map,List.getElem?_eraseIdx];split<;>rfl
section
variable {κ:Type} [DecidableEq κ] {V:κ->Value} {P:Program} {K:TypeId} {w w':World} {g:Nat} {m:List (κ×Value)} {S:List Nat}
theorem MapL.fr (h:MapL V w g m)(hf:Fr S w w')(hn:g∉S:=by simp[z0u]<;>omega):MapL V w' g m:=by
 obtain⟨I,c,D,O⟩:=h;exact⟨I,c,(hf.block g (Array.getElem?_eq_some_iff.1 D).1 hn).trans D,O⟩
theorem MapL.f (h:MapL V w g m):MapF V w g (z2t m):=let ⟨es,c,h1,h2,_⟩:=h;⟨es,c,m,h1,h2,λ_=>rfl⟩
theorem MapL.lt (h:MapL V w g m):g<w.heap.size:=h.f.lt
theorem MapL.nodup (h:MapL V w g m):(m.map (·.1)).Nodup:=let ⟨_,_,_,_,h,_⟩:=h;h
theorem u1r {k:κ}(h:(m.map (·.1)).findIdx? (λx=>decide (k=x))=none):k∉m.map (·.1):=λD=>by
 rw[List.findIdx?_eq_none_iff]at h
 have:=h k D
 simp at this
theorem y8k {t E:TypeId}(h:MapL V w g m)(hk:KeyLaw P K V)(hu:P.underlying t=some (.map K E))(k:κ)(v:Value) :
    ∃w',(Instr.mapUpdate t (.map (some g)) (V k) v).run P w=.ok () w'/\MapL V w' g (z4o m k v)/\Fr [g] w w'/\w'.heap.size=w.heap.size:=by
  obtain⟨D,c,h1,h2,a9,a6,a3⟩:=h
  have b1:=(Array.getElem?_eq_some_iff.1 h1).1
  have a0:D.toList.map (·.key)=(m.map (·.1)).map V:=by
    have:=congrArg (List.map Prod.fst) h2
    simpa[List.map_map,Function.comp_def] using this
  have O:=hk.find k D.toList (m.map (·.1)) w a0
  have a2:∀o,(setObj g o).run P w=.ok () { w with heap:=w.heap.setIfInBounds g o }:=by intro o;simp[setObj,Sem.run,h1]
  have a7:∀o,Fr [g] w { w with heap:=w.heap.setIfInBounds g o }:=λo=>⟨rfl,rfl,rfl,sp0,λi _ hn=>by
    simp only
    rw[Array.getElem?_setIfInBounds_ne (by intro e;subst e;simp at hn)]⟩
  have Z:∀o,({ w with heap:=w.heap.setIfInBounds g o }:World).heap[g]?=some o:=by intro o;simp[b1]
  have b3:D.toList.length=m.length:=by have:=congrArg List.length h2;simpa using this
  cases hf:(m.map (·.1)).findIdx? (λx=>decide (k=x)) with
  | none=>
    have ea:z4o m k v=m++[(k,v)]:=by unfold z4o;rw[hf]
    rw[ea]
    refine⟨_,?_,⟨_,_,Z (.map (D.push { key:=V k,val:=v,born:=c }) (c+1)),?_,?_,?_,?_⟩,a7 _,sp0⟩
    · rw[hf]at O
      simp only[Instr.mapUpdate,Sem.run_bind,run_underlying hu,Result.andThen_ok,z2x h1,hk.check,O,Option.bind_none,a2]
    · simp[h2]
    · rw[List.map_append]
      exact List.nodup_append.2 ⟨a9,sp0,λx hx y hy=>by
        simp at hy;subst hy;intro e;subst e;exact u1r hf hx⟩
    · rw[Array.toList_push,List.map_append]
      exact List.nodup_append.2 ⟨a6,sp0,λx hx y hy=>by
        simp at hy;subst hy
        obtain⟨e,he,rfl⟩:=List.mem_map.1 hx
        have:=a3 e he;omega⟩
    · intro e he
      rw[Array.toList_push]at he
      rcases List.mem_append.1 he with h|h
      · have:=a3 e h;omega
      · simp at h;subst h;exact Nat.lt_succ_self _
  | some i=>
    have hi:i<m.length:=by
      have:=List.findIdx?_eq_some_iff_findIdx_eq.1 hf
      simpa using this.1
    have a1:i<D.toList.length:=by omega
    have a8:V k=(D.toList[i]).key:=by
      have b0:=List.findIdx?_eq_some_iff_getElem.1 hf
      obtain⟨b4,hp,_⟩:=b0
      have b2:k=(m.map (·.1))[i]:=by simpa using hp
      have e1:(D.toList.map (·.key))[i]?=((m.map (·.1)).map V)[i]?:=by rw[a0]
      simp only[List.getElem?_map,List.getElem?_eq_getElem a1,List.getElem?_eq_getElem hi,Option.map_some,Option.some.injEq]at e1
      rw[e1,b2];simp
    have ea:z4o m k v=m.modify i λp=>(p.1,v):=by unfold z4o;rw[hf]
    rw[ea]
    have I:(D.modify i λe=>{ e with key:=V k,val:=v }).toList.map (·.born)=D.toList.map (·.born):=by
      apply List.ext_getElem?
      intro j
      simp only[List.getElem?_map]
      rw[Array.getElem?_toList,Array.getElem?_modify,Array.getElem?_toList]
      by_cases hj:i=j
      · subst hj;simp only[if_true];cases D[i]?<;>rfl
      · simp only[hj,if_false]
    refine⟨_,?_,⟨_,_,Z (.map (D.modify i λe=>{ e with key:=V k,val:=v }) c),?_,by rw[y8n m];exact a9,by rw[I];exact a6,?_⟩,a7 _,sp0⟩
    · rw[hf]at O
      have a4:D[i]?=some D.toList[i]:=by rw[<-Array.getElem?_toList,List.getElem?_eq_getElem a1]
      simp only[Option.bind_some,List.getElem?_eq_getElem a1,Option.map_some]at O
      have a5:(Instr.keyThatStays (((D[i]?).map (·.key)).getD (V k)) (V k)).run P w=.ok (V k) w:=by
        rw[a4]
        simp only[Option.map_some,Option.getD_some,<-a8,Instr.keyThatStays,hk.bits,if_true,Sem.run_pure]
      simp only[Instr.mapUpdate,Sem.run_bind,run_underlying hu,Result.andThen_ok,z2x h1,hk.check,O,a5,a2]
    · apply List.ext_getElem?
      intro j
      have e2:=congrArg (·[j]?) h2
      simp only[List.getElem?_map]at e2 ⊢
      rw[Array.getElem?_toList,Array.getElem?_modify,List.getElem?_modify]
      rw[Array.getElem?_toList]at e2
      by_cases hj:i=j
      · subst hj
        have e3:=List.getElem?_eq_getElem hi
        have a4:D[i]?=some D.toList[i]:=by rw[<-Array.getElem?_toList,List.getElem?_eq_getElem a1]
        rw[a4,e3]at e2 ⊢
        simp only[Option.map_some,Option.some.injEq,Prod.mk.injEq]at e2
        simp only[if_true,Option.map_some]
        rw[a8,e2.1];rfl
      · simp only[hj,if_false]
        rw[e2];simp
    · intro e he
      have:e.born∈D.toList.map (·.born):=by rw[<-I];exact List.mem_map_of_mem he
      obtain⟨x,hx,hb⟩:=List.mem_map.1 this
      rw[<-hb];exact a3 x hx
theorem x9b {t E:TypeId}{ty:TypeId}(h:MapL V w g m)(hk:KeyLaw P K V)(hu:P.underlying t=some (.map K E))(k:κ) :
    ∃w',(Builtin.delete_ #[t,K] ty #[.map (some g),V k]).run P w=.ok (.tuple #[]) w'/\MapL V w' g (z5u m k)/\Fr [g] w w'/\w'.heap.size=w.heap.size:=by
  obtain⟨O,c,h1,h2,a5,a2,a1⟩:=h
  have a6:=(Array.getElem?_eq_some_iff.1 h1).1
  have a0:O.toList.map (·.key)=(m.map (·.1)).map V:=by
    have:=congrArg (List.map Prod.fst) h2
    simpa[List.map_map,Function.comp_def] using this
  have D:=hk.find k O.toList (m.map (·.1)) w a0
  have Z:∀o,(setObj g o).run P w=.ok () { w with heap:=w.heap.setIfInBounds g o }:=by intro o;simp[setObj,Sem.run,h1]
  have a3:∀o,Fr [g] w { w with heap:=w.heap.setIfInBounds g o }:=λo=>⟨rfl,rfl,rfl,sp0,λi _ hn=>by
    simp only
    rw[Array.getElem?_setIfInBounds_ne (by intro e;subst e;simp at hn)]⟩
  have I:∀o,({ w with heap:=w.heap.setIfInBounds g o }:World).heap[g]?=some o:=by intro o;simp[a6]
  have a7:O.toList.length=m.length:=by have:=congrArg List.length h2;simpa using this
  cases hf:(m.map (·.1)).findIdx? (λx=>decide (k=x)) with
  | none=>
    have ea:z5u m k=m:=by unfold z5u;rw[hf]
    rw[ea]
    refine⟨_,?_,⟨_,_,I (.map O c),h2,a5,a2,a1⟩,a3 _,sp0⟩
    rw[hf]at D
    simp[Builtin.delete_,run_underlying hu,z2x h1,hk.check,D,Z]
  | some i=>
    have ea:z5u m k=m.eraseIdx i:=by unfold z5u;rw[hf]
    rw[ea]
    have hi:i<m.length:=by
      have:=List.findIdx?_eq_some_iff_findIdx_eq.1 hf
      simpa using this.1
    have a4:i<O.toList.length:=by omega
    have el:(O.eraseIdxIfInBounds i).toList=O.toList.eraseIdx i:=by
      unfold Array.eraseIdxIfInBounds
      rw[dif_pos (by simpa using a4),Array.toList_eraseIdx]
    refine⟨_,?_,⟨_,_,I (.map (O.eraseIdxIfInBounds i) c),?_,?_,?_,?_⟩,a3 _,sp0⟩
    · rw[hf]at D
      simp only[Option.bind_some,List.getElem?_eq_getElem a4,Option.map_some]at D
      simp[Builtin.delete_,run_underlying hu,z2x h1,hk.check,D,Z]
    · rw[el,y3k,y3k,h2]
    · rw[y3k];exact List.Nodup.sublist (List.eraseIdx_sublist _ _) a5
    · rw[el,y3k];exact List.Nodup.sublist (List.eraseIdx_sublist _ _) a2
    · intro e he
      rw[el]at he
      exact a1 e ((List.eraseIdx_sublist _ _).mem he)
variable {a:Act} {n:Nat} {L:List (Nat×Value)} {ds:List Nat} {Q:Exit->Act->World->Prop} {C:World->Prop} {Qa:Act->Prop} {ops:Array Oper} {rest:List Oper}
variable {d:Nat} {ty:TypeId} {pos:String} {after:Array Edge} {x y z:Operand} {t E:TypeId} {k:κ} {v zv:Value}
theorem y8w (h:AgM ds a n L)(hx:ev L x=some (.map (some g)))(hy:ev L y=some (V k))(hz:ev L z=some v)(hm:MapL V w g m)(Z:KeyLaw P K V)(hu:P.underlying t=some (.map K E))
    (q:∀w',MapL V w' g (z4o m k v)->Fr [g] w w'->w'.heap.size=w.heap.size->∀a,AgM ds a n L->wpList P ops Q rest a w'):wpList P ops Q (⟨none,.mapUpdate t x y z,ty,pos,after,none⟩::rest) a w:=by
  obtain⟨w',hr,D,I,O⟩:=y8k hm Z hu k v
  exact z9v h U U (w':=w') (by simp[execOp,h.eval hx,h.eval hy,h.eval hz,hr]) (q w' D I O)
theorem j5f {O:TypeId}(h:AgM ds a n L)(hx:ev L x=some (.map (some g)))(hy:ev L y=some (V k))(hm:MapL V w g m)(hk:KeyLaw P K V)(hu:P.underlying t=some (.map K E))(he:O=K)
    (q:∀w',MapL V w' g (z5u m k)->Fr [g] w w'->w'.heap.size=w.heap.size->∀a,AgM ds a n L->wpList P ops Q rest a w'):wpList P ops Q (⟨none,.call ⟨.builtin .delete,#[x,y],#[t,O]⟩,ty,pos,after,none⟩::rest) a w:=by
  subst he
  obtain⟨w',hr,Z,h2,h3⟩:=x9b (ty:=ty) hm hk hu k
  refine j6l h U U (w':=w') (v:=.tuple #[]) ?_ (q w' Z h2 h3)
  have D:=h.eval hx
  have I:=h.eval hy
  rw[z2d];unfold builtin
  simp[D,I,hr]
theorem MapIt.fr {gi:Nat}{rem:List (κ×Value)}{cur:Option (κ×Value)}(h:MapIt V w gi g m rem cur)(hf:Fr S w w')(h1:g∉S)(h2:gi∉S):MapIt V w' gi g m rem cur:=by
 obtain⟨Z,c,D,I,k2,k3,k4,O,k6⟩:=h;exact⟨Z,c,D,(hf.block g (Array.getElem?_eq_some_iff.1 I).1 h1).trans I,k2,k3,k4,(hf.block gi (Array.getElem?_eq_some_iff.1 O).1 h2).trans O,k6⟩
theorem MapIt.lt {gi:Nat}{rem:List (κ×Value)}{cur:Option (κ×Value)}(h:MapIt V w gi g m rem cur):gi<w.heap.size:=let ⟨_,_,_,_,_,_,_,k5,_⟩:=h;(Array.getElem?_eq_some_iff.1 k5).1
theorem MapIt.ne {gi:Nat}{rem:List (κ×Value)}{cur:Option (κ×Value)}(h:MapIt V w gi g m rem cur):g≠gi:=λe=>by
 obtain⟨Z,c,I,O,_,_,_,D,_⟩:=h
 rw[<-e,O]at D;cases D
theorem v8e {I:Array MapEntry}{D:Array Nat}{e:MapEntry}{O Z:List MapEntry}(hn:(I.toList.map (·.born)).Nodup)(h:(leftOf I D).toList=O++e::Z):(leftOf I (D.push e.born)).toList=O++Z:=by
 have h2:(leftOf I (D.push e.born)).toList=(leftOf I D).toList.filter λx=>decide (x.born≠e.born):=by
  unfold leftOf;rw[Array.toList_filter,Array.toList_filter,List.filter_filter];congr 1;funext x;by_cases c1:x.born=e.born;simp[c1];by_cases c2:x.born∈D;simp[c1,c2];simp[c1,c2]
 have hs:((leftOf I D).toList.map (·.born)).Nodup:=by
  refine List.Nodup.sublist (List.Sublist.map _ ?_) hn;unfold leftOf;rw[Array.toList_filter];exact List.filter_sublist
 rw[h]at h2 hs;rw[h2,List.filter_append,List.filter_cons];rw[List.map_append,List.map_cons]at hs;obtain⟨n1,n2,n3⟩:=List.nodup_append.1 hs;have n4:=List.nodup_cons.1 n2;have f1:O.filter (λx=>decide (x.born≠e.born))=O:=List.filter_eq_self.2 λx hx=>by
  simpa using n3 _ (List.mem_map_of_mem hx) e.born (List.mem_cons_self ..)
 have f2:Z.filter (λx=>decide (x.born≠e.born))=Z:=List.filter_eq_self.2 λx hx=>by
  have:x.born≠e.born:=λk=>n4.1 (by rw[<-k];exact List.mem_map_of_mem hx);simpa using this
 rw[f1,f2];simp
theorem u4d (hx:ev L x=some (.map (some g)))(hm:MapL V w g m)(hu:P.underlying t=some (.map K E))(hn:Nat.blt d n=true)
    (q:∀gi w',gi=w.heap.size->MapIt V w' gi g m m none->Fr [] w w'->w'.heap.size=gi+1->WL P ops Q rest n ds w' ((d,.pointer (some ⟨gi,0,none⟩))::L)):WL P ops Q (⟨some d,.range t x,ty,pos,after,none⟩::rest) n ds w L:=λa h=>by
  obtain⟨I,c,O,h2,h3,h4,h5⟩:=hm
  have D:=(Array.getElem?_eq_some_iff.1 O).1
  refine z2m h U hn (w':=w.alloc (.mapIter (some g) c #[] c)) (v:=.pointer (some ⟨w.heap.size,0,none⟩)) ?_ (q _ _ U ⟨I,c,#[],?_,h2,h4,h5,heap_alloc_new w _,?_,λp hp=>by cases hp⟩ (Fr.alloc [] w _) sp0 )
  · have Z:=h.eval hx
    simp only[execOp,Z,Sem.run_bind,run_range_map w t K E g I c hu O,Result.andThen_ok,Sem.run_pure]
  · first|exact(heap_alloc_old w _ D).trans O|exact(heap_alloc_old w _ _ D).trans O
  · rw[<-h2]
    have:(leftOf I #[]).toList=I.toList:=by unfold leftOf;rw[Array.toList_filter];simp
    rw[this]
theorem j5q {gi:Nat}{rem:List (κ×Value)}{cur:Option (κ×Value)}(hx:ev L x=some (.pointer (some ⟨gi,0,none⟩)))(hi:MapIt V w gi g m rem cur)(hn:Nat.blt d n=true)
    (qt:∀(r1:List (κ×Value)) (p:κ×Value) (r2:List (κ×Value)),rem=r1++p::r2->∀w',MapIt V w' gi g m (r1++r2) (some p)->Fr [gi] w w'->w'.heap.size=w.heap.size->WL P ops Q rest n ds w' ((d,.tuple #[.bool true,V p.1,p.2])::L))
    (qf:rem=[]->WL P ops Q rest n ds w ((d,.tuple #[.bool false])::L)):WL P ops Q (⟨some d,.next x false,ty,pos,after,none⟩::rest) n ds w L:=λa h=>by
  have a5:=hi.ne
  obtain⟨I,c,D,h1,h2,h3,h4,h5,h6,h7⟩:=hi
  have a4:=(Array.getElem?_eq_some_iff.1 h5).1
  have a1:=h.eval hx
  rcases run_next_at (P:=P) w ty gi g c c D I c h5 h1 h4 (Nat.le_refl _) with ⟨e0,hr⟩|⟨e,he,w1,hw,hr⟩
  · refine z2m h U hn (w':=w) (v:=.tuple #[.bool false]) (by simp only[execOp,a1,Sem.run_bind,hr,Result.andThen_ok,Sem.run_pure]) (qf ?_)
    have:(leftOf I D).toList=[]:=List.length_eq_zero_iff.1 (by rw[Array.length_toList];exact e0)
    rw[this]at h6
    exact List.map_eq_nil_iff.1 h6.symm
  · obtain⟨l1,l2,hl⟩:=List.append_of_mem he
    rw[hl,List.map_append,List.map_cons]at h6
    obtain⟨r1,r',a7,e1,e2⟩:=List.map_eq_append_iff.1 h6.symm
    obtain⟨p,r2,a8,e3,e4⟩:=List.map_eq_cons_iff.1 e2
    obtain⟨ek,O⟩:=Prod.mk.inj e3
    have a2:e∈I.toList:=by
      have:e∈(leftOf I D).toList:=he
      unfold leftOf at this;rw[Array.toList_filter]at this;exact(List.mem_filter.1 this).1
    have a3:Fr [] w w1:=by rcases hw with rfl|rfl;exact Fr.refl _ _;exact Fr.drew _ _
    have a0:w1.heap.size=w.heap.size:=by rcases hw with rfl|rfl<;>rfl
    have Z:Fr [gi] w (ChangeMaps.setBlock w1 gi (.mapIter (some g) c (D.push e.born) c)):=
      (a3.weak sp0).step (S':=[gi]) ⟨rfl,rfl,rfl,by simp[ChangeMaps.setBlock],λk _ hk=>by
        simp only[ChangeMaps.setBlock]
        rw[Array.getElem?_setIfInBounds_ne (by intro e;subst e;simp at hk)]⟩ (by intro k hk _;exact hk)
    refine z2m h U hn (w':=ChangeMaps.setBlock w1 gi (.mapIter (some g) c (D.push e.born) c)) (v:=.tuple #[.bool true,e.key,e.val]) (by simp only[execOp,a1,Sem.run_bind,hr,Result.andThen_ok,Sem.run_pure]) ?_
    rw[<-ek,<-O]
    refine qt r1 p r2 (by rw[a7,a8]) _ ⟨I,c,D.push e.born,?_,h2,h3,h4,?_,?_,λp' a6=>?_⟩ Z (by simp[ChangeMaps.setBlock,a0])
    · exact(Z.block g (Array.getElem?_eq_some_iff.1 h1).1 (by simpa using a5)).trans h1
    · simp[ChangeMaps.setBlock,a0,a4]
    · rw[v8e h3 hl,List.map_append,List.map_append,<-e1,<-e4]
    · cases a6
      exact⟨e,a2,D,rfl,ek.symm,O.symm⟩
theorem u6r {gi:Nat}{rem:List (κ×Value)}{p:κ×Value}(hx:ev L x=some (.pointer (some ⟨gi,0,none⟩)))(hi:MapIt V w gi g m rem (some p))(hn:Nat.blt d n=true)
    (q:WL P ops Q rest n ds w ((d,.tuple #[V p.1,p.2])::L)):WL P ops Q (⟨some d,.entry x,ty,pos,after,none⟩::rest) n ds w L:=λa h=>by
  obtain⟨es,c,O,h1,h2,h3,h4,h5,h6,h7⟩:=hi
  obtain⟨e,he,s',rfl,Z,D⟩:=h7 p U
  have I:=h.eval hx
  refine z2m h U hn (w':=w) (v:=.tuple #[V p.1,p.2]) ?_ q
  rw[<-Z,<-D]
  simp only[execOp,I,Sem.run_bind,run_entry_at (P:=P) w gi g c s' es c e h5 h1 he h3,Result.andThen_ok,Sem.run_pure]
end
end Go.Lw
namespace Go.G08
open Go.Lw Go.G21
section
variable {κ:Type} [DecidableEq κ] {V:κ->Value} {w w':World} {g:Nat} {m:List (κ×Value)} {S:List Nat}
theorem _root_.Go.Lw.MapL.tf {T:Nat}(h:MapL V w g m)(hf:Fr S w w')(I:OffT w T S):MapL V w' g m:=h.fr hf λO=>by
 obtain⟨T',cs,D,_⟩:=I g O
 exact h.f.ne_blk D U
end
theorem BdO.tf {D I base:Nat}{w w':World}{q:BdQ}{S:List Nat}(h:BdO D I base w q)(hf:Fr S w w')(hS:OffT w D S)(Z:OffT w I S):BdO D I base w' q:=
 ⟨⟨z2b h.f.1 hf hS,λp O=>z2b (h.f.2 p O) hf Z⟩,⟨z2b h.b.1 hf hS,λp O=>z2b (h.b.2 p O) hf Z⟩⟩
structure KpM (Ts:List Nat) (g:Nat) (w w':World):Prop where
  size:w.heap.size<=w'.heap.size
  block:∀k,k<w.heap.size->k≠g->(∀(T:Nat) (cs:List Value),Blk w k T cs->T∉Ts)->w'.heap[k]?=w.heap[k]?
theorem KpM.refl (D:List Nat)(g:Nat)(w:World):KpM D g w w:=⟨Nat.le_refl _,λ_ _ _ _=>rfl⟩
theorem KpM.trans {D:List Nat}{g:Nat}{a b c:World}(h:KpM D g a b)(I:KpM D g b c):KpM D g a c:=
 ⟨Nat.le_trans h.size I.size,λk hk Z O=>by
  have e:=h.block k hk Z O
  rw[<-e]
  exact I.block k (Nat.lt_of_lt_of_le hk h.size) Z λT cs hb=>O T cs (e.symm.trans hb)⟩
theorem KpM.of {D:List Nat}{g:Nat}{w w':World}{S:List Nat}(hf:Fr S w w')(I:∀k∈S,k=g\/∃(T:Nat) (cs:List Value),Blk w k T cs/\T∈D):KpM D g w w':=
 ⟨hf.size,λk hk hg O=>hf.block k hk λhm=>by
  rcases I k hm with e|⟨T,cs,Z,hi⟩
  ·exact hg e
  exact O T cs Z hi⟩
theorem j9i {w:World}{k T T':Nat}{cs cs':List Value}(h:Blk w k T cs)(D:Blk w k T' cs'):T=T':=by
 have e:=(show w.heap[k]?=some (.cells cs.toArray T (0,0)) from h).symm.trans (show w.heap[k]?=some (.cells cs'.toArray T' (0,0)) from D);simp only[Option.some.injEq,Obj.cells.injEq]at e;exact e.2.1
theorem KpM.blk {D:List Nat}{g:Nat}{w w':World}(h:KpM D g w w'){k T:Nat}{cs:List Value}(hb:Blk w k T cs)(hg:k≠g)(Z:T∉D):Blk w' k T cs:=
 (h.block k hb.lt hg λT' I O=>by rw[<-j9i hb O];exact Z).trans hb
theorem KpM.mapF {κ:Type}[DecidableEq κ]{V:κ->Value}{f:κ->Option Value}{I:List Nat}{g k:Nat}{w w':World}(h:KpM I g w w')(hb:MapF V w k f)(hg:k≠g):MapF V w' k f:=by
 obtain⟨O,c,m,D,Z⟩:=hb;refine⟨O,c,m,(h.block k (Array.getElem?_eq_some_iff.1 D).1 hg λT cs hb=>?_).trans D,Z⟩;have e:=(show w.heap[k]?=some (.cells cs.toArray T (0,0)) from hb).symm.trans D;cases e
theorem y9u {α:Type}{E:Enc α}{T base g:Nat}{w:World}{v:Value}{ys:List α}{D:List Nat}(h:Lw.Own E T base w v ys)(I:T∈D):∀k∈z0u v,k=g\/∃(T:Nat) (cs:List Value),Blk w k T cs/\T∈D:=λk Z=>by
 obtain⟨cs,O⟩:=y1k h k Z
 exact .inr ⟨T,cs,O,I⟩
theorem u7w {g k T:Nat}{w:World}{cs:List Value}{D:List Nat}(h:Blk w k T cs)(O:T∈D):∀k'∈[k],k'=g\/∃(T:Nat) (cs:List Value),Blk w k' T cs/\T∈D:=λk' I=>by
 rw[List.mem_singleton]at I;subst I
 exact .inr ⟨T,cs,h,O⟩
structure MA where
  gk:Nat
  gy:Nat
  cy:Nat
  gt:Nat
  ct:Nat
  gc:Nat
  wk:World
abbrev MA.YV (a:MA):Value:=.slice (some ⟨a.gy,0,none⟩) 6 a.cy
abbrev MA.TV (a:MA):Value:=.slice (some ⟨a.gt,0,none⟩) 6 a.ct
structure MQ where
  rk:Int
  q:BdQ
  ys:List YQ
  ts:List TQ
  cr:List Cx
  fa:SV
  fl:List LId
abbrev MQ.p (m:MQ):MSt:=⟨m.rk,m.q.p,m.ys.map YQ.p,z2o m.ts,m.cr,m.fl⟩
abbrev u8p (a:MA)(m:MQ):List Value:=[.int .i64 m.rk,.slice m.q.f.1 m.q.f.2.1 m.q.f.2.2,.slice m.q.b.1 m.q.b.2.1 m.q.b.2.2,a.YV,a.TV,.map (some a.gc),.slice m.fa.1 m.fa.2.1 m.fa.2.2]
def crK (p:LId×LId):Value:=.agg #[.int .u8 p.1.y,.int .i64 p.1.n,.int .u8 p.2.y,.int .i64 p.2.n]
def crM (l:List Cx):List ((LId×LId)×Value):=l.map λc=>((c.a,c.b),.int .i64 c.n)
structure MtOk (τ:TyK) (Mt:Nat):Prop where
  o:τ.Ok
  y:Mt≠τ.Y
  t:Mt≠τ.T
  l:Mt≠τ.L
  i:Mt≠τ.I
  p:Mt≠τ.P
  s:Mt≠τ.S
abbrev u2o (τ:TyK)(Mt:Nat):List Nat:=[Mt,τ.Y,τ.T,τ.L,τ.I]
structure FrM (τ:TyK) (Mt:Nat) (wS:World) (a:MA) (w:World):Prop where
  fr:Fr [] wS w
  kp:KpM (u2o τ Mt) a.gc a.wk w
theorem FrM.size {τ:TyK}{Mt:Nat}{wS w:World}{a:MA}(h:FrM τ Mt wS a w):wS.heap.size<=w.heap.size:=h.fr.size
theorem FrM.next {τ:TyK}{Mt:Nat}{wS w w':World}{a:MA}(h:FrM τ Mt wS a w)(hf:Fr [] w w'):FrM τ Mt wS a w':=⟨h.fr.next hf,h.kp.trans (KpM.of hf sp0)⟩
theorem FrM.step {τ:TyK}{Mt:Nat}{wS w w':World}{a:MA}{S:List Nat}(h:FrM τ Mt wS a w)(hf:Fr S w w')(I:∀k∈S,k=a.gc\/∃(T:Nat) (cs:List Value),Blk w k T cs/\T∈u2o τ Mt)(D:∀k∈S,k<wS.heap.size->k∈([]:List Nat)):FrM τ Mt wS a w':=⟨h.fr.step hf D,h.kp.trans (KpM.of hf I)⟩
structure MkM (τ:TyK) (Mt:Nat) (wS:World) (a:MA) (w:World) (m:MQ):Prop where
  k:Blk w a.gk Mt (u8p a m)
  b:BdO τ.S τ.I wS.heap.size w m.q
  y:YsO τ wS.heap.size w a.YV m.ys
  t:TbO τ wS.heap.size w a.TV m.ts
  c:MapL crK w a.gc (crM m.cr)
  f:Lw.Own z1j τ.I wS.heap.size w (slv m.fa) m.fl
  fb:∀s∈m.q.fs++m.q.bs,∀k∈z0u (slv s.1),k∉z0u (slv m.fa)
  ft:∀i,i<6->∀q∈(m.ts.getD i tq0).2,∀k∈z0u (slv q.th),k∉z0u (slv m.fa)
  ly:m.ys.length=6
  lt:m.ts.length=6
  gk:wS.heap.size<=a.gk
  gc:wS.heap.size<=a.gc
  fr:FrM τ Mt wS a w
def MRet (τ:TyK)(Mt:Nat)(wS:World)(a:MA)(x:MR)(r:Value)(w':World):Prop:=
  FrM τ Mt wS a w'/\match x with
    | .error e=>r=.int .i64 e/\e≠0
    | .ok p=>r=.int .i64 0/\∃m,MkM τ Mt wS a w' m/\m.p=p
section
variable {τ:TyK} {Mt:Nat} {wS w w':World} {a:MA} {m:MQ} {j:Nat} {y:YQ}
theorem MRet.err {x:MR}{e:Int}{w':World}(I:x=.error e)(D:e≠0)(hf:FrM τ Mt wS a w'):MRet τ Mt wS a x (.int .i64 e) w':=by subst I;exact⟨hf,rfl,D⟩
theorem MRet.ok {x:MR}{m:MQ}{w':World}(D:x=.ok m.p)(h:MkM τ Mt wS a w' m):MRet τ Mt wS a x (.int .i64 0) w':=by subst D;exact⟨h.fr,rfl,m,h,rfl⟩
theorem MkM.ext (h:MkM τ Mt wS a w m)(hf:Fr [] w w'):MkM τ Mt wS a w' m:=
 ⟨h.k.ext hf,h.b.ext hf,h.y.ext hf,h.t.ext hf,h.c.fr hf sp0,h.f.ext hf,h.fb,h.ft,h.ly,h.lt,h.gk,h.gc,h.fr.next hf⟩
theorem MkM.yarn (h:MkM τ Mt wS a w m)(D:MtOk τ Mt)(O:j<6)(ho:Lw.Own z3l τ.Y wS.heap.size w' a.YV (m.ys.set j y))(hf:Fr [a.gy] w w')(hp:Lw.Own z2f τ.P wS.heap.size w (slv y.pe) y.pes):MkM τ Mt wS a w' { m with ys:=m.ys.set j y }:=by
 have o:∀T,T≠τ.Y->OffT w T [a.gy]:=λT I=>z7f h.y.out (Ne.symm I);refine⟨x0m h.k hf (o _ D.y),BdO.tf h.b hf (o _ (Ne.symm D.o.ys)) (o _ (Ne.symm D.o.yi)),h.y.put (by rw[h.ly];exact O) D.o ho hf hp,h.t.tf hf (o _ (Ne.symm D.o.yt)) (o _ (Ne.symm D.o.yl)) (o _ (Ne.symm D.o.yi)) (o _ (Ne.symm D.o.yp)),h.c.tf hf (o _ D.y),z2b h.f hf (o _ (Ne.symm D.o.yi)),h.fb,h.ft,by rw[List.length_set];exact h.ly,h.lt,h.gk,h.gc,h.fr.step hf (y9u h.y.out (by simp[u2o])) λk Z a0=>?_⟩;have:=(h.y.out.blk k Z).1;omega
theorem MkM.beds {q:BdQ}{r:Int}(h:MkM τ Mt wS a w m)(D:MtOk τ Mt)(hq:BdO τ.S τ.I wS.heap.size w q)(O:Blk w' a.gk Mt (u8p a { m with q:=q,rk:=r }))(hf:Fr [a.gk] w w')(I:∀s∈q.fs++q.bs,∀k∈z0u (slv s.1),k∉z0u (slv m.fa)):MkM τ Mt wS a w' { m with q:=q,rk:=r }:=by
 have o:∀T,T≠Mt->OffT w T [a.gk]:=λT Z=>OffT.one h.k (Ne.symm Z);refine⟨O,BdO.tf hq hf (o _ (Ne.symm D.s)) (o _ (Ne.symm D.i)),h.y.tf hf (o _ (Ne.symm D.y)) (o _ (Ne.symm D.p)),h.t.tf hf (o _ (Ne.symm D.t)) (o _ (Ne.symm D.l)) (o _ (Ne.symm D.i)) (o _ (Ne.symm D.p)),h.c.tf hf (o _ (Ne.symm D.y)),z2b h.f hf (o _ (Ne.symm D.i)),I,h.ft,h.ly,h.lt,h.gk,h.gc,h.fr.step hf (u7w h.k (by simp[u2o])) λk O a0=>?_⟩;rw[List.mem_singleton]at O;have:=h.gk;omega
theorem x6w {Z I:Nat}{q:BdQ}{v:Value}{ys:List LId}{T base b:Nat}(O:BdO Z I b w' q)(hv:Lw.Own z1j T base w v ys)(hb:w.heap.size<=b):∀s∈q.fs++q.bs,∀k∈z0u (slv s.1),k∉z0u v:=λs hs k D hb=>by
 have:=(hv.blk k hb).2
 rcases List.mem_append.1 hs with e|e
 ·have:=((O.f.2 s e).blk k D).1;omega
 have:=((O.b.2 s e).blk k D).1;omega
theorem MkM.fall {w2:World}{u:SV}{l:List LId}(h:MkM τ Mt wS a w m)(D:MtOk τ Mt)(a0:τ.I≠τ.P)(h1:Lw.Own z1j τ.I wS.heap.size w' (slv u) l)(I:Fr (z0u (slv m.fa)) w w')(hx:∀k∈z0u (slv u),k∈z0u (slv m.fa)\/w.heap.size<=k)
    (O:Blk w2 a.gk Mt (u8p a { m with fa:=u,fl:=l })) (f2:Fr [a.gk] w' w2):MkM τ Mt wS a w2 { m with fa:=u,fl:=l }:=by
  have o1:∀T,T≠τ.I->OffT w T (z0u (slv m.fa)):=λT hT=>z7f h.f (Ne.symm hT)
  have k1:=x0m h.k I (o1 _ D.i)
  have Z:∀T,T≠Mt->OffT w' T [a.gk]:=λT hT=>OffT.one k1 (Ne.symm hT)
  have dx:∀ {v:Value} {xs:List LId},Lw.Own z1j τ.I wS.heap.size w v xs->(∀k∈z0u v,k∉z0u (slv m.fa))->∀k∈z0u v,k∉z0u (slv u):=λho hd k O hb=>by
    rcases hx k hb with e|e
    · exact hd k O e
    · have:=(ho.blk k O).2;omega
  have fi:∀ {v:Value} {xs:List LId},Lw.Own z1j τ.I wS.heap.size w v xs->(∀k∈z0u v,k∉z0u (slv m.fa))->Lw.Own z1j τ.I wS.heap.size w2 v xs:=λho hd=>z2b (ho.fr I λk O hb=>hd k hb O) f2 (Z _ (Ne.symm D.i))
  have a2:∀s∈m.q.fs,Lw.Own z1j τ.I wS.heap.size w2 (slv s.1) s.2:=λs hs=>fi (h.b.f.2 s hs) (h.fb s (List.mem_append.2 (.inl hs)))
  have a1:∀s∈m.q.bs,Lw.Own z1j τ.I wS.heap.size w2 (slv s.1) s.2:=λs hs=>fi (h.b.b.2 s hs) (h.fb s (List.mem_append.2 (.inr hs)))
  refine⟨O,⟨⟨z2b (z2b h.b.f.1 I (o1 _ D.o.si)) f2 (Z _ (Ne.symm D.s)),a2⟩,⟨z2b (z2b h.b.b.1 I (o1 _ D.o.si)) f2 (Z _ (Ne.symm D.s)),a1⟩⟩,
    (h.y.tf I (o1 _ D.o.yi) (o1 _ (Ne.symm a0))).tf f2 (Z _ (Ne.symm D.y)) (Z _ (Ne.symm D.p)),
    ⟨z2b (z2b h.t.out I (o1 _ D.o.ti)) f2 (Z _ (Ne.symm D.t)),λi hi=>z2b (z2b (h.t.ins i hi) I (o1 _ D.o.li)) f2 (Z _ (Ne.symm D.l)),h.t.off,λi hi q hq=>⟨fi (h.t.lps i hi q hq).1 (h.ft i (by rw[<-h.lt];exact hi) q hq),z2b (z2b (h.t.lps i hi q hq).2 I (o1 _ (Ne.symm a0))) f2 (Z _ (Ne.symm D.p))⟩⟩,
    (h.c.tf I (o1 _ D.i)).tf f2 (Z _ (Ne.symm D.y)),z2b h1 f2 (Z _ (Ne.symm D.i)),λs hs=>?_,λi hi q hq=>dx (h.t.lps i (by rw[h.lt];exact hi) q hq).1 (h.ft i hi q hq),h.ly,h.lt,h.gk,h.gc,(h.fr.step I (y9u h.f (by simp[u2o])) λk O a3=>?_).step f2 (u7w k1 (by simp[u2o])) λk O a3=>?_⟩
  · rcases List.mem_append.1 hs with e|e
    · exact dx (h.b.f.2 s e) (h.fb s hs)
    · exact dx (h.b.b.2 s e) (h.fb s hs)
  · have:=(h.f.blk k O).1;omega
  · rw[List.mem_singleton]at O;have:=h.gk;omega
theorem MkM.mark (h:MkM τ Mt wS a w m):MkM τ Mt wS { a with wk:=w } w m:=⟨h.k,h.b,h.y,h.t,h.c,h.f,h.fb,h.ft,h.ly,h.lt,h.gk,h.gc,⟨h.fr.fr,KpM.refl _ _ _⟩⟩
theorem MkM.unmark (h:MkM τ Mt wS { a with wk:=w } w' m)(D:FrM τ Mt wS a w):MkM τ Mt wS a w' m:=⟨h.k,h.b,h.y,h.t,h.c,h.f,h.fb,h.ft,h.ly,h.lt,h.gk,h.gc,⟨h.fr.fr,D.kp.trans h.fr.kp⟩⟩
def k0n (x:MR):Int:=match x with
  | .error e=>e
  | .ok _=>0
theorem MRet.split {x:MR}{r:Value}(h:MRet τ Mt wS a x r w'):r=.int .i64 (k0n x)/\FrM τ Mt wS a w'/\∃O,k0n x=0->MkM τ Mt wS a w' O/\x=.ok O.p:=by
 obtain⟨I,D⟩:=h;cases x with
 | error e=>exact⟨D.1,I,⟨0,⟨sv0,sv0,[],[]⟩,[],[],[],sv0,[]⟩,λZ=>absurd Z D.2⟩
 | ok p=>exact⟨D.1,I,D.2.choose,λ_=>⟨D.2.choose_spec.1,congrArg Except.ok D.2.choose_spec.2.symm⟩⟩
theorem y2r {x:MR}(h:k0n x≠0):x=.error (k0n x):=by cases x with
 | error e=>rfl
 | ok p=>exact absurd U h
theorem y6y (b n r:Int):-400<=z2s b n r/\z2s b n r<=400:=by
 unfold z2s;split;omega;rename_i h;have D:z4g b n=0:=Classical.not_not.1 λe=>h (.inl e);have I:-4<=r/\r<=4:=Classical.not_not.1 λe=>h (.inr e);have:=z3n D;split<;>omega
def OwnIf {α:Type}(c:Prop)(E:Enc α)(T base:Nat)(w:World)(v:Value)(ys:List α):Prop:=c->Lw.Own E T base w v ys
theorem OwnIf.fr {α:Type}{c:Prop}{E:Enc α}{T base:Nat}{w w':World}{v:Value}{ys:List α}{S:List Nat}(h:OwnIf c E T base w v ys)(hf:Fr S w w')(hn:c->∀k∈S,k∉z0u v:=by simp[z0u]<;>omega):OwnIf c E T base w' v ys:=λD=>(h D).fr hf (hn D)
theorem OwnIf.ext {α:Type}{c:Prop}{E:Enc α}{T base:Nat}{w w':World}{v:Value}{ys:List α}(h:OwnIf c E T base w v ys)(hf:Fr [] w w'):OwnIf c E T base w' v ys:=λD=>(h D).ext hf
theorem j6p (m:MQ)(y:Int):m.p.y y=(m.ys.getD (y-1).toNat yq0).p:=by
 unfold MSt.y;rw[List.getD,List.getD,List.getElem?_map];cases m.ys[(y-1).toNat]?<;>rfl
theorem y1y {y:Int}(m:MQ)(q:YQ)(D:(y-1).toNat=j):{ m with ys:=m.ys.set j q }.p=m.p.setY y q.p:=by
 subst D;unfold MSt.setY MQ.p;simp only[List.map_set]
end
end Go.G08
namespace Go.Proofs.YtagnnbcnnmacmaaGreatDoor
open Go.Lw Go.G21 Go.G08 _root_.Go.Proofs.Tryz
theorem x5v (q:YQ)(w0:World)(hp:Sl z2f w0 (slv q.pe) q.pes):Rets prog 133 #[.agg #[.bool q.inn,.int .i64 q.pl,.int .i64 q.ct,.bool q.nw,.slice q.pe.1 q.pe.2.1 q.pe.2.2]] w0 λr w'=>∃q':YQ,r=.tuple #[.agg #[.bool q'.inn,.int .i64 q'.pl,.int .i64 q'.ct,.bool q'.nw,.slice q'.pe.1 q'.pe.2.1 q'.pe.2.2],.int .i64 (lvE q.p)]/\(lvE q.p=0->q'=⟨false,0,q.ct,false,sv0,[]⟩)/\Fr [] w0 w':=by
 have a4:=z2g hp;have a1:=hp.len_le;unfold maxLen at a1;refine we [(0,.agg #[.bool q.inn,.int .i64 q.pl,.int .i64 q.ct,.bool q.nw,.slice q.pe.1 q.pe.2.1 q.pe.2.2])] func133 U ntmps133 U (.cons U .nil) ?_;have a0:=hp;refine sr (bx U (λg1 w1 a2 I q1 z1=>(al z6j U (λg2 w2 a3 D q2 z2=>(asg U (nn (sq (sr ?_))))))));replace I:=I.ext q2;refine z0m U I z3k ?_;replace hp:=a0.ext (q1.n1 q2);refine cl (ev1 U) k1f (z9x q _ hp) U ?_;rintro _ w3 ⟨rfl,Z⟩;refine asg U (nn (sr (mv U (ne' U (nn (cd U (λc0=>?_) (λc0=>?_)))))));refine sr (z1z (cs:=[_,_,_,_,_]) z0g y0i z0t U ?_);refine mv U ?_;replace D:=D.ext Z;refine z0k (vs:=[_,_,_,_,_]) U D z3o (λw4 D q4 z4=>(asg U (nn (rt (tr (rCT results133 U D z3k U ?_))))));have O:lvE q.p=ynE q.p:=by unfold lvE;rw[if_pos c0]
 exact⟨_,rfl,yq0,by rw[O];rfl,(λh=>absurd h (by rw[O];exact c0)),(q1.z3 q2 Z q4)⟩;refine sk (tn (sq (sr (fad U z8r ?_))));replace I:=I.ext Z;refine z0i U I U na4 (nt' U (nn (cd U (λc1=>?_) (λc1=>?_))));refine sr (z1z (cs:=[_,_,_,_,_]) z0g y0i z0t U ?_);replace D:=D.ext Z;refine z0k (vs:=[_,_,_,_,_]) U D z3o (λw5 D q5 z5=>(asg U (nn (rt (tr (rCT results133 U D z3k U ?_))))));have O:lvE q.p=12:=by unfold lvE;rw[if_neg c0,if_pos (by simpa using c1)]
 exact⟨_,rfl,yq0,by rw[O];rfl,(λh=>absurd h (by rw[O];decide)),(q1.z3 q2 Z q5)⟩;refine sk (tn (sr (fad U z8x (z0i U I U na3 (z1z (cs:=[_,_,_,_,_]) (ev1 U) y0i (z0f U z0t) U ?_)))));replace D:=D.ext Z;refine z0k (vs:=[_,_,_,_,_]) U D z3o (λw6 D q6 z6=>(asg U (nn (rt (rCT results133 U D z3k U ?_)))));have O:lvE q.p=0:=by unfold lvE;rw[if_neg c0,if_neg (by simpa using c1)]
 exact⟨_,rfl,⟨false,0,q.ct,false,sv0,[]⟩,by rw[O];rfl,(λ_=>rfl),(q1.z3 q2 Z q6)⟩
theorem k0x (v:Value)(l:List Int)(w0:World)(I:Sl Enc.i64 w0 v l)(hl:l.length<=1000):Rets prog 99 #[v] w0 λr w'=>r=.int .i64 (orZ l)/\Fr [] w0 w':=by
 obtain⟨A,c,rfl,a1,hM,hA⟩:=id I;clear hA;unfold maxLen at hM;refine we [(0,.slice A l.length c)] func99 U ntmps99 U (.cons U .nil) ?_;have Z:=I;refine sr (asg U (nn (sr (asg U (nn (sq (sr (mv U (lnS U underlying26 (mv U (nn (bl (lpK (ι:=Nat) [(3,_),(6,_),(7,_)] (λi=>[(8,.int .i64 (i:Int))]) (λi w'=>Fr [] w0 w'/\i<=l.length/\∀j,j<i->l.getD j 0=0) (λi=>l.length-i) 0 (.c4 U U U U) ⟨Fr.refl _ _,⟨Nat.zero_le _,λj h=>absurd h oo⟩⟩ ?_)))))))))))));rintro i w1 ⟨O,⟨hi,hz⟩⟩;refine kpC [(3,_),(6,_),(7,_),(8,_)] (.c4 U U U U) (sr (lt' U (nn (sq (cd U (λc0=>?_) (λc0=>?_))))));refine sk (tn (sq (bl (sr ?_))));replace I:=Z.ext O;refine z0x (0) U I U z3b z1m (λa0 D=>?_);refine z1a U (D _ I) na3 (asg U (nn (sr (mv U (mv U (ne' U (nn (cd U (λc1=>?_) (λc1=>?_)))))))));refine sr (mv U (asg U (kpL [(2,_)] (.cons U .nil) (nn (rt (rb (tr (tr (rb (tr (r1 results99 U ?_)))))))))));exact⟨_,rfl,congrArg (Value.int .i64) (u2a oo hz oo).symm,O⟩;refine sk (bn' (tn (rg (z0q U (wi6 oo) (mv U (nl ?_))))));exact lpE (i+1) (.c4 U U U U) ⟨O,⟨oo,λj h=>by
  by_cases e:j=i;subst e;omega;exact hz j oo⟩⟩ oo
 obtain rfl:i=l.length:=by omega
 refine ex (te (te (xh (tn (sr (mv U (asg U (kpL [(2,_)] (.cons U .nil) (nn (rt (r1 results99 U ?_)))))))))));exact⟨_,rfl,congrArg (Value.int .i64) (x2d hz).symm,O⟩
theorem y0l (x1 x2:LId)(w0:World):Rets prog 93 #[.agg #[.int .u8 x1.y,.int .i64 x1.n],.agg #[.int .u8 x2.y,.int .i64 x2.n]] w0 λr w'=>r=.int .i64 (z5m x1 x2)/\Fr [] w0 w':=by
 refine we [(0,.agg #[.int .u8 x1.y,.int .i64 x1.n]),(1,.agg #[.int .u8 x2.y,.int .i64 x2.n])] func93 U ntmps93 U (.c2 U U) (sr (bx U (λg2 w1 a3 O q1 z1=>(bx U (λg3 w2 a4 Z q2 z2=>(asg U (nn (sq ?_))))))));intro a h;refine z0h none (λwb w'=>Fr [] wb w') z2y ?_;intro w3 q3;replace O:=O.ext (q2.n1 q3);replace Z:=Z.ext q3;have hC:Fr [] w3 w3:=Fr.refl _ _;have D:=O;have I:=Z;refine z0c 0 h U z9g U λa h=>z0j 1 h U (λ_ hw=>D.ext hw) U na5 U λa h=>z0c 2 h U z9g U λa h=>z0j 3 h U (λ_ hw=>I.ext hw) U na5 U λa h=>z0c 5 h U y1g U λa h=>z0j 6 h U (λ_ hw=>D.ext hw) U na3 U λa h=>z0c 7 h U y1g U λa h=>z0j 8 h U (λ_ hw=>I.ext hw) U na3 U λa h=>z0e 4 U (z0n h (z0a U (z0a U z0g)) (mkC func145) (j7n _ _ _) ?_);rintro _ w4 ⟨rfl,q4⟩ a h;replace hC:=hC.next q4;refine z0b (z0e 9 U (z0n h (z0a U (z0a U z0g)) (mkC func146) (u2i _ _ _) ?_));rintro _ w5 ⟨rfl,q5⟩ a h;replace O:=O.ext (q4.n1 q5);replace Z:=Z.ext (q4.n1 q5);replace hC:=hC.next q5;refine z0b (z0e 10 U (z2i ([y1e x1.y x2.y,y1e x1.n x2.n]) h (z0a U (z0a U z0g)) U z3b λa1 w6 hg a2 q6 hz a h=>?_));have a0:g2<a1:=by have:=O.lt;omega
 have a0:g3<a1:=by have:=Z.lt;omega
 replace hC:=hC.next q6;refine z0b (z0e 11 U (z0n h (z0a U z0g) (mkC func99) (k0x _ [y1e x1.y x2.y,y1e x1.n x2.n] _ a2.sl sp0) ?_));rintro _ w7 ⟨rfl,q7⟩ a h;replace hC:=hC.next q7;refine z0b (z0e 12 U (z0s h U λa h=>?_));refine z0b (z0r ?_);clear hC D I;refine bk (h.sub (L':=[(4,_)]) (.cons U .nil)) (tn (rt (r1 results93 U ?_)));exact⟨_,rfl,congrArg (Value.int .i64) (v1b x1 x2),(q1.n6 q2 q3 q4 q5 q6 q7)⟩
theorem y5h:ElemOf prog 38 146 z3l 56:=ElemOf.mk' (z:=(.agg #[.bool false,.int .i64 0,.int .i64 0,.bool false,.slice none 0 0])) underlying38 kr0 U
theorem z3r:z0y prog 156 2 3:=λ_ _=>kr0
theorem y6b:z2a prog 38:=λ_=>kr0
abbrev τd:TyK:=⟨146,116,111,54,114,42,44⟩
theorem τd_ok:τd.Ok:=by constructor<;>decide
theorem mtd:MtOk τd 156:=⟨τd_ok,dd,dd,dd,dd,dd,dd⟩
theorem k1o (wS:World)(ka:MA)(m:MQ)(o:MOp)(w0:World)(hM:MkM τd 156 wS ka w0 m)(hy:1<=o.y/\o.y<=6):Rets prog 82 #[.pointer (some ⟨ka.gk,0,none⟩),opV o] w0 λr w'=>MRet τd 156 wS ka (inM m.p o) r w':=by
 have d3:=hM.fr.size;have hk:=hM.k;have c1:=hk.lt;have d0:=hM.ly;have c9:=hM.lt;have b8:=(hM.y.out.blk ka.gy (by simp[z0u])).2;obtain⟨j,hj,d1⟩:∃j:Nat,j<6/\o.y=(j:Int)+1:=⟨(o.y-1).toNat,oo,oo⟩;have b1:(o.y-1).toNat=j:=by omega
 have a9:m.p.y o.y=(m.ys.getD j yq0).p:=by rw[j6p,b1]
 refine we [(0,.pointer (some ⟨ka.gk,0,none⟩)),(1,opV o)] func82 U ntmps82 U (.c2 U U) ?_;have a4:=hM;refine sr (bx U (λg3 w1 b9 D q1 z1=>(asg U (nn (sq ?_)))));replace hM:=a4.ext q1;intro a h;refine z0h none (λwb w'=>Fr [] wb w') z2y ?_;intro w2 q2;have z2:=q2.size;replace hM:=hM.ext q2;replace hk:=hk.ext (q1.n1 q2);replace D:=D.ext q2;have hC:Fr [] w2 w2:=Fr.refl _ _;have a0:=hM;have Z:=hk;have I:=D;refine z0d 0 h U λa h=>z0o 1 h U λa h=>z0c 2 h U z3r U λa h=>z0j 3 h U (λ_ hw=>Z.ext hw) U y6b U λa h=>z0c 4 h U z5f U λa h=>z0j 5 h U (λ_ hw=>I.ext hw) U na5 U λa h=>z3e 6 h U (by first|exact IntWalk.u8_in _ oo|rfl) U λa h=>z1e (p:=j) (yq0) 7 h U hM.y.out.sl U y5h U λb7 b3 a h=>z2l (cs:=z3l.enc (m.ys.getD j yq0)) 8 h wn U (λ_ hw=>b3 _ (a0.ext hw).y.out.sl) z3k U λa h=>z0c 9 h U y1i U λa h=>z0j 10 h U (λ_ hw=>I.ext hw) U x3n U λa h=>?_;refine z2n 11 15 kr0 U ?_ ?_;refine z0n h (z0a U (z0a U z0g)) (mkC func132) (x6j (m.ys.getD j yq0) o.d _ (hM.y.ins j oo).sl) ?_;rintro _ w3 ⟨qn,rfl,a7,q3⟩ a h;have z3:=q3.size;replace hk:=hk.ext q3;replace D:=D.ext q3;replace hC:=hC.next q3;refine z0b (z0d 12 h U λa h=>z0p 13 h U λa h=>z0p 14 h U λa h=>z0e 15 U (z1f h z6j U λw4 O q4 hz a h=>?_));obtain⟨a3,hg⟩:∃g,g=w3.heap.size:=⟨_,rfl⟩;rw[<-hg]at O h hz;have b5.gk_5:ka.gk<a3:=by have:=hk.lt;omega
 have b2:g3<a3:=by have:=D.lt;omega
 have z4:=q4.size;replace hM:=hM.ext (q3.n1 q4);replace hk:=hk.ext q4;replace D:=D.ext q4;replace hC:=hC.next q4;refine z0b (z0e 16 U (z0v h U O U z3o ?_ (h1:=(by first|(simp[Value.oneCell',S];done)|exact z3l.one (m.ys.getD j yq0)))));clear h a;intro w5 a6 q5 hz a h;have z5:=q5.size;replace hk:=hk.fr q5;replace D:=D.fr q5;replace hC:=hC.sp q5;clear O hz;have O:Blk w5 a3 _ [_,_,_,_,_]:=a6;clear a6;refine z0b (z0e 17 U (z0s h U λa h=>?_));refine z0b (z0r ?_);clear hC a0 Z I;refine bk (h.sub (L':=[(0,_),(3,_),(5,_),(6,_)]) (.c4 U U U U)) (tn (sq (sr (mv U (eq' U (nn (cd U (λc0=>?_) (λc0=>?_))))))));obtain rfl:=a7 c0;replace hM:=a4.ext (q1.z4 q2 q3 q4 q5);intro a h;refine z0h (some 9) (λwb w'=>Fr [] wb w') z2y ?_;intro w6 q6;have z6:=q6.size;replace hM:=hM.ext q6;replace hk:=hk.ext q6;replace D:=D.ext q6;replace O:=O.ext q6;have hC:Fr [] w6 w6:=Fr.refl _ _;have a0:=hM;have Z:=hk;have I:=D;have a1:=O;refine z0d 0 h U λa h=>z0o 1 h U λa h=>z0c 2 h U z3r U λa h=>z0j 3 h U (λ_ hw=>Z.ext hw) U y6b U λa h=>z0c 4 h U z5f U λa h=>z0j 5 h U (λ_ hw=>I.ext hw) U na5 U λa h=>z3e 6 h U (by first|exact IntWalk.u8_in _ oo|rfl) U λa h=>z0z 7 h U (λ_ hw=>a1.ext hw) z3k U λa h=>z1o 8 kr0 hC (p:=j) h wn U y5h oo oo oo U U λa h=>z0e 9 U (z1c (i:=j) (⟨true,if o.d=1 then 179 else -13,(m.ys.getD j yq0).ct,true,sv0,[]⟩:YQ) h U hM.y.out (by rw[hM.ly];exact hj) U z3o λw7 a2 q7 _hz a h=>?_);replace hM:=hM.yarn mtd hj a2 q7 (Own.nil _);have a4:=hM;clear a2;have z7:=q7.size;replace D:=D.fr q7;replace O:=O.fr q7;have hk:=hM.k;clear _hz;refine z1h (z0r ?_);clear hC a0 Z I a1;refine bk (h.sub (L':=[(6,_)]) (.cons U .nil)) (tn (sr (mv U (asg U (nn (rt (r1 results82 U ?_)))))));exact⟨_,rfl,by rw[c0];exact MRet.ok (by unfold inM;rw[a9,if_neg (λe=>e c0)];exact congrArg Except.ok (y1y m (⟨true,if o.d=1 then 179 else -13,(m.ys.getD j yq0).ct,true,sv0,[]⟩:YQ) b1).symm) hM⟩;refine sk (tn (sr (mv U (asg U (kpL [(4,_)] (.cons U .nil) (nn (rt (r1 results82 U ?_))))))));replace hM:=a4.ext (q1.z4 q2 q3 q4 q5);exact⟨_,rfl,MRet.err (by unfold inM;rw[a9,if_pos c0]) c0 hM.fr⟩;refine z1f h z6j U λw8 O q8 hz a h=>?_;obtain⟨a3,hg⟩:∃g,g=w2.heap.size:=⟨_,rfl⟩;rw[<-hg]at O h hz;have b5.gk_5:ka.gk<a3:=by have:=hk.lt;omega
 have b2:g3<a3:=by have:=D.lt;omega
 have z8:=q8.size;replace hM:=hM.ext q8;replace hC:=hC.next q8;refine z0b (z0e 11 U (z0n h (z0a U (z0a U z0g)) (mkC func132) (x6j (m.ys.getD j yq0) o.d _ (hM.y.ins j oo).sl) ?_));rintro _ w9 ⟨qn,rfl,a7,q9⟩ a h;have z9:=q9.size;replace hM:=hM.ext q9;replace hk:=hk.ext (q8.n1 q9);replace D:=D.ext (q8.n1 q9);replace O:=O.ext q9;replace hC:=hC.next q9;refine z0b (z0d 12 h U λa h=>z0p 13 h U λa h=>z0p 14 h U λa h=>z0e 16 U (z0v h U O U z3o ?_ (h1:=(by first|(simp[Value.oneCell',S];done)|exact z3l.one (m.ys.getD j yq0)))));clear h a;intro b6 a6 a5 hz a h;have d5:=a5.size;replace hk:=hk.fr a5;replace D:=D.fr a5;replace hC:=hC.sp a5;clear O hz;have O:Blk b6 a3 _ [_,_,_,_,_]:=a6;clear a6;refine z0b (z0e 17 U (z0s h U λa h=>?_));refine z0b (z0r ?_);clear hC a0 Z I;refine bk (h.sub (L':=[(0,_),(3,_),(5,_),(6,_)]) (.c4 U U U U)) (tn (sq (sr (mv U (eq' U (nn (cd U (λc0=>?_) (λc0=>?_))))))));obtain rfl:=a7 c0;replace hM:=a4.ext (q1.z4 q2 q8 q9 a5);intro a h;refine z0h (some 9) (λwb w'=>Fr [] wb w') z2y ?_;intro b4 a8;have d6:=a8.size;replace hM:=hM.ext a8;replace hk:=hk.ext a8;replace D:=D.ext a8;replace O:=O.ext a8;have hC:Fr [] b4 b4:=Fr.refl _ _;have a0:=hM;have Z:=hk;have I:=D;have a1:=O;refine z0d 0 h U λa h=>z0o 1 h U λa h=>z0c 2 h U z3r U λa h=>z0j 3 h U (λ_ hw=>Z.ext hw) U y6b U λa h=>z0c 4 h U z5f U λa h=>z0j 5 h U (λ_ hw=>I.ext hw) U na5 U λa h=>z3e 6 h U (by first|exact IntWalk.u8_in _ oo|rfl) U λa h=>z0z 7 h U (λ_ hw=>a1.ext hw) z3k U λa h=>z1o 8 kr0 hC (p:=j) h wn U y5h oo oo oo U U λa h=>z0e 9 U (z1c (i:=j) (⟨true,if o.d=1 then 179 else -13,(m.ys.getD j yq0).ct,true,sv0,[]⟩:YQ) h U hM.y.out (by rw[hM.ly];exact hj) U z3o λd4 a2 b0 _hz a h=>?_);replace hM:=hM.yarn mtd hj a2 b0 (Own.nil _);have a4:=hM;clear a2;have d7:=b0.size;replace D:=D.fr b0;replace O:=O.fr b0;have hk:=hM.k;clear _hz;refine z1h (z0r ?_);clear hC a0 Z I a1;refine bk (h.sub (L':=[(6,_)]) (.cons U .nil)) (tn (sr (mv U (asg U (nn (rt (r1 results82 U ?_)))))));exact⟨_,rfl,by rw[c0];exact MRet.ok (by unfold inM;rw[a9,if_neg (λe=>e c0)];exact congrArg Except.ok (y1y m (⟨true,if o.d=1 then 179 else -13,(m.ys.getD j yq0).ct,true,sv0,[]⟩:YQ) b1).symm) hM⟩;refine sk (tn (sr (mv U (asg U (kpL [(4,_)] (.cons U .nil) (nn (rt (r1 results82 U ?_))))))));replace hM:=a4.ext (q1.z4 q2 q8 q9 a5);exact⟨_,rfl,MRet.err (by unfold inM;rw[a9,if_pos c0]) c0 hM.fr⟩
theorem j0m (wS:World)(ka:MA)(m:MQ)(o:MOp)(w0:World)(hM:MkM τd 156 wS ka w0 m)(hy:1<=o.y/\o.y<=6):Rets prog 83 #[.pointer (some ⟨ka.gk,0,none⟩),opV o] w0 λr w'=>MRet τd 156 wS ka (v3m m.p o) r w':=by
 have d3:=hM.fr.size;have hk:=hM.k;have c1:=hk.lt;have d0:=hM.ly;have c9:=hM.lt;have b8:=(hM.y.out.blk ka.gy (by simp[z0u])).2;obtain⟨j,hj,d1⟩:∃j:Nat,j<6/\o.y=(j:Int)+1:=⟨(o.y-1).toNat,oo,oo⟩;have b1:(o.y-1).toNat=j:=by omega
 have a9:m.p.y o.y=(m.ys.getD j yq0).p:=by rw[j6p,b1]
 refine we [(0,.pointer (some ⟨ka.gk,0,none⟩)),(1,opV o)] func83 U ntmps83 U (.c2 U U) ?_;have a4:=hM;refine sr (bx U (λg3 w1 b9 D q1 z1=>(asg U (nn (sq ?_)))));replace hM:=a4.ext q1;intro a h;refine z0h none (λwb w'=>Fr [] wb w') z2y ?_;intro w2 q2;have z2:=q2.size;replace hM:=hM.ext q2;replace hk:=hk.ext (q1.n1 q2);replace D:=D.ext q2;have hC:Fr [] w2 w2:=Fr.refl _ _;have a0:=hM;have Z:=hk;have O:=D;refine z0d 0 h U λa h=>z0o 1 h U λa h=>z0c 2 h U z3r U λa h=>z0j 3 h U (λ_ hw=>Z.ext hw) U y6b U λa h=>z0c 4 h U z5f U λa h=>z0j 5 h U (λ_ hw=>O.ext hw) U na5 U λa h=>z3e 6 h U (by first|exact IntWalk.u8_in _ oo|rfl) U λa h=>z1e (p:=j) (yq0) 7 h U hM.y.out.sl U y5h U λb7 b3 a h=>z2l (cs:=z3l.enc (m.ys.getD j yq0)) 8 h wn U (λ_ hw=>b3 _ (a0.ext hw).y.out.sl) z3k U λa h=>z2n 9 13 kr0 U ?_ ?_;refine z0n h (z0a U z0g) (mkC func133) (x5v (m.ys.getD j yq0) _ (hM.y.ins j oo).sl) ?_;rintro _ w3 ⟨qn,rfl,a7,q3⟩ a h;have z3:=q3.size;replace hk:=hk.ext q3;replace D:=D.ext q3;replace hC:=hC.next q3;refine z0b (z0d 10 h U λa h=>z0p 11 h U λa h=>z0p 12 h U λa h=>z0e 13 U (z1f h z6j U λw4 I q4 hz a h=>?_));obtain⟨a3,hg⟩:∃g,g=w3.heap.size:=⟨_,rfl⟩;rw[<-hg]at I h hz;have b5.gk_5:ka.gk<a3:=by have:=hk.lt;omega
 have b2:g3<a3:=by have:=D.lt;omega
 have z4:=q4.size;replace hM:=hM.ext (q3.n1 q4);replace hk:=hk.ext q4;replace D:=D.ext q4;replace hC:=hC.next q4;refine z0b (z0e 14 U (z0v h U I U z3o ?_ (h1:=(by first|(simp[Value.oneCell',S];done)|exact z3l.one (m.ys.getD j yq0)))));clear h a;intro w5 a6 q5 hz a h;have z5:=q5.size;replace hk:=hk.fr q5;replace D:=D.fr q5;replace hC:=hC.sp q5;clear I hz;have I:Blk w5 a3 _ [_,_,_,_,_]:=a6;clear a6;refine z0b (z0e 15 U (z0s h U λa h=>?_));refine z0b (z0r ?_);clear hC a0 Z O;refine bk (h.sub (L':=[(0,_),(3,_),(5,_),(6,_)]) (.c4 U U U U)) (tn (sq (sr (mv U (eq' U (nn (cd U (λc0=>?_) (λc0=>?_))))))));obtain rfl:=a7 c0;replace hM:=a4.ext (q1.z4 q2 q3 q4 q5);intro a h;refine z0h (some 9) (λwb w'=>Fr [] wb w') z2y ?_;intro w6 q6;have z6:=q6.size;replace hM:=hM.ext q6;replace hk:=hk.ext q6;replace D:=D.ext q6;replace I:=I.ext q6;have hC:Fr [] w6 w6:=Fr.refl _ _;have a0:=hM;have Z:=hk;have O:=D;have a1:=I;refine z0d 0 h U λa h=>z0o 1 h U λa h=>z0c 2 h U z3r U λa h=>z0j 3 h U (λ_ hw=>Z.ext hw) U y6b U λa h=>z0c 4 h U z5f U λa h=>z0j 5 h U (λ_ hw=>O.ext hw) U na5 U λa h=>z3e 6 h U (by first|exact IntWalk.u8_in _ oo|rfl) U λa h=>z0z 7 h U (λ_ hw=>a1.ext hw) z3k U λa h=>z1o 8 kr0 hC (p:=j) h wn U y5h oo oo oo U U λa h=>z0e 9 U (z1c (i:=j) (⟨false,0,(m.ys.getD j yq0).ct,false,sv0,[]⟩:YQ) h U hM.y.out (by rw[hM.ly];exact hj) U z3o λw7 a2 q7 _hz a h=>?_);replace hM:=hM.yarn mtd hj a2 q7 (Own.nil _);have a4:=hM;clear a2;have z7:=q7.size;replace D:=D.fr q7;replace I:=I.fr q7;have hk:=hM.k;clear _hz;refine z1h (z0r ?_);clear hC a0 Z O a1;refine bk (h.sub (L':=[(6,_)]) (.cons U .nil)) (tn (sr (mv U (asg U (nn (rt (r1 results83 U ?_)))))));exact⟨_,rfl,by rw[c0];exact MRet.ok (by unfold v3m;rw[a9,if_neg (λe=>e c0)];exact congrArg Except.ok (y1y m (⟨false,0,(m.ys.getD j yq0).ct,false,sv0,[]⟩:YQ) b1).symm) hM⟩;refine sk (tn (sr (mv U (asg U (kpL [(4,_)] (.cons U .nil) (nn (rt (r1 results83 U ?_))))))));replace hM:=a4.ext (q1.z4 q2 q3 q4 q5);exact⟨_,rfl,MRet.err (by unfold v3m;rw[a9,if_pos c0]) c0 hM.fr⟩;refine z1f h z6j U λw8 I q8 hz a h=>?_;obtain⟨a3,hg⟩:∃g,g=w2.heap.size:=⟨_,rfl⟩;rw[<-hg]at I h hz;have b5.gk_5:ka.gk<a3:=by have:=hk.lt;omega
 have b2:g3<a3:=by have:=D.lt;omega
 have z8:=q8.size;replace hM:=hM.ext q8;replace hC:=hC.next q8;refine z0b (z0e 9 U (z0n h (z0a U z0g) (mkC func133) (x5v (m.ys.getD j yq0) _ (hM.y.ins j oo).sl) ?_));rintro _ w9 ⟨qn,rfl,a7,q9⟩ a h;have z9:=q9.size;replace hM:=hM.ext q9;replace hk:=hk.ext (q8.n1 q9);replace D:=D.ext (q8.n1 q9);replace I:=I.ext q9;replace hC:=hC.next q9;refine z0b (z0d 10 h U λa h=>z0p 11 h U λa h=>z0p 12 h U λa h=>z0e 14 U (z0v h U I U z3o ?_ (h1:=(by first|(simp[Value.oneCell',S];done)|exact z3l.one (m.ys.getD j yq0)))));clear h a;intro b6 a6 a5 hz a h;have d5:=a5.size;replace hk:=hk.fr a5;replace D:=D.fr a5;replace hC:=hC.sp a5;clear I hz;have I:Blk b6 a3 _ [_,_,_,_,_]:=a6;clear a6;refine z0b (z0e 15 U (z0s h U λa h=>?_));refine z0b (z0r ?_);clear hC a0 Z O;refine bk (h.sub (L':=[(0,_),(3,_),(5,_),(6,_)]) (.c4 U U U U)) (tn (sq (sr (mv U (eq' U (nn (cd U (λc0=>?_) (λc0=>?_))))))));obtain rfl:=a7 c0;replace hM:=a4.ext (q1.z4 q2 q8 q9 a5);intro a h;refine z0h (some 9) (λwb w'=>Fr [] wb w') z2y ?_;intro b4 a8;have d6:=a8.size;replace hM:=hM.ext a8;replace hk:=hk.ext a8;replace D:=D.ext a8;replace I:=I.ext a8;have hC:Fr [] b4 b4:=Fr.refl _ _;have a0:=hM;have Z:=hk;have O:=D;have a1:=I;refine z0d 0 h U λa h=>z0o 1 h U λa h=>z0c 2 h U z3r U λa h=>z0j 3 h U (λ_ hw=>Z.ext hw) U y6b U λa h=>z0c 4 h U z5f U λa h=>z0j 5 h U (λ_ hw=>O.ext hw) U na5 U λa h=>z3e 6 h U (by first|exact IntWalk.u8_in _ oo|rfl) U λa h=>z0z 7 h U (λ_ hw=>a1.ext hw) z3k U λa h=>z1o 8 kr0 hC (p:=j) h wn U y5h oo oo oo U U λa h=>z0e 9 U (z1c (i:=j) (⟨false,0,(m.ys.getD j yq0).ct,false,sv0,[]⟩:YQ) h U hM.y.out (by rw[hM.ly];exact hj) U z3o λd4 a2 b0 _hz a h=>?_);replace hM:=hM.yarn mtd hj a2 b0 (Own.nil _);have a4:=hM;clear a2;have d7:=b0.size;replace D:=D.fr b0;replace I:=I.fr b0;have hk:=hM.k;clear _hz;refine z1h (z0r ?_);clear hC a0 Z O a1;refine bk (h.sub (L':=[(6,_)]) (.cons U .nil)) (tn (sr (mv U (asg U (nn (rt (r1 results83 U ?_)))))));exact⟨_,rfl,by rw[c0];exact MRet.ok (by unfold v3m;rw[a9,if_neg (λe=>e c0)];exact congrArg Except.ok (y1y m (⟨false,0,(m.ys.getD j yq0).ct,false,sv0,[]⟩:YQ) b1).symm) hM⟩;refine sk (tn (sr (mv U (asg U (kpL [(4,_)] (.cons U .nil) (nn (rt (r1 results83 U ?_))))))));replace hM:=a4.ext (q1.z4 q2 q8 q9 a5);exact⟨_,rfl,MRet.err (by unfold v3m;rw[a9,if_pos c0]) c0 hM.fr⟩
theorem z4k:z0y prog 156 0 0:=λ_ _=>kr0
theorem x8p (wS:World)(ka:MA)(m:MQ)(o:MOp)(w0:World)(hM:MkM τd 156 wS ka w0 m)(hi:MInv m.p)(hy:1<=o.y/\o.y<=6)(hn:z4g o.b o.p=0):Rets prog 135 #[.pointer (some ⟨ka.gk,0,none⟩),opV o] w0 λr w'=>r=.tuple #[.int .i64 (if z7i m.p o=0 then behP m.p o else 0),.int .i64 (if z7i m.p o=0 then (z2s o.b o.p m.rk) else 0),.int .i64 (z7i m.p o)]/\Fr [] w0 w':=by
 have b8:=hM.fr.size;have hk:=hM.k;have b2:=hk.lt;have b4:=hM.ly;have b3:=hM.lt;have b0:=(hM.y.out.blk ka.gy (by simp[z0u])).2;obtain⟨j,hj,b6⟩:∃j:Nat,j<6/\o.y=(j:Int)+1:=⟨(o.y-1).toNat,oo,oo⟩;have a7:(o.y-1).toNat=j:=by omega
 have O:m.p.y o.y=(m.ys.getD j yq0).p:=by rw[j6p,a7]
 have b7:=y6y o.b o.p m.rk;have b5:=z3n hn;refine we [(0,.pointer (some ⟨ka.gk,0,none⟩)),(1,opV o)] func135 U ntmps135 U (.c2 U U) ?_;have a6:=hM;refine sr (bx U (λg3 w1 b1 D q1 z1=>(asg U (asg U (asg U (nn (sq ?_)))))));replace hM:=a6.ext q1;intro a h;refine z0h none (λwb w'=>Fr [] wb w') z2y ?_;intro w2 q2;have z2:=q2.size;replace hM:=hM.ext q2;replace hk:=hk.ext (q1.n1 q2);replace D:=D.ext q2;have hC:Fr [] w2 w2:=Fr.refl _ _;have a2:=hM;have a1:=hk;have Z:=D;refine z0d 0 h U λa h=>z0o 1 h U λa h=>z0c 2 h U z3r U λa h=>z0j 3 h U (λ_ hw=>a1.ext hw) U y6b U λa h=>z0c 4 h U z5f U λa h=>z0j 5 h U (λ_ hw=>Z.ext hw) U na5 U λa h=>z3e 6 h U (by first|exact IntWalk.u8_in _ oo|rfl) U λa h=>z1e (p:=j) (yq0) 7 h U hM.y.out.sl U y5h U λa9 a5 a h=>z2l (cs:=z3l.enc (m.ys.getD j yq0)) 8 h wn U (λ_ hw=>a5 _ (a2.ext hw).y.out.sl) z3k U λa h=>z0c 9 h U z6r U λa h=>z1d (vs:=[_,_]) 10 h U (λ_ hw=>(Z.ext hw)) z8c U U λa h=>?_;refine z0d 11 h U λa h=>z0o 12 h U λa h=>z0c 13 h U z4k U λa h=>z0j 14 h U (λ_ hw=>a1.ext hw) U na3 U λa h=>z2n 15 16 kr0 U ?_ ?_;refine z0n h (z0a U (z0a U z0g)) v3q (y4a _ _ _ _ (by have:=hi.rk;omega)) ?_;rintro _ w3 ⟨rfl,q3⟩ a h;have z3:=q3.size;replace hk:=hk.ext q3;replace D:=D.ext q3;replace hC:=hC.next q3;refine z0b (z0e 16 U (z1f h z6j U λw4 I q4 hz a h=>?_));obtain⟨a0,hg⟩:∃g,g=w3.heap.size:=⟨_,rfl⟩;rw[<-hg]at I h hz;have a8.gk_7:ka.gk<a0:=by have:=hk.lt;omega
 have a4:g3<a0:=by have:=D.lt;omega
 have z4:=q4.size;replace hM:=hM.ext (q3.n1 q4);replace hk:=hk.ext q4;replace D:=D.ext q4;replace hC:=hC.next q4;refine z0b (z0e 17 U (z0v h U I U z3o ?_ (h1:=(by first|(simp[Value.oneCell',S];done)|exact z3l.one (m.ys.getD j yq0)))));clear h a;intro w5 a3 q5 hz a h;have z5:=q5.size;replace hk:=hk.fr q5;replace D:=D.fr q5;replace hC:=hC.sp q5;clear I hz;have I:Blk w5 a0 _ [_,_,_,_,_]:=a3;clear a3;refine z0b (z0e 18 U (z0s h U λa h=>?_));refine z0b (z0r ?_);clear hC a2 a1 Z;refine bk (h.sub (L':=[(3,_),(5,_),(7,_)]) (.c3 U U U)) (tn (sq (sr (fad U z8r (z0i U I U na4 (nt' U (nn (cd U (λc0=>?_) (λc0=>?_)))))))));refine sr (asg U (asg U (asg U (nn (rt (tr (r3 results135 U U U ?_)))))));have he:z7i m.p o=12:=by unfold z7i;rw[O,if_pos (by simpa using c0)]
 exact⟨_,rfl,by rw[he];rfl,(q1.z4 q2 q3 q4 q5)⟩;refine sk (tn (sq (sr (fad U y1i (z0i U D U x3n (eq' U (nn (cd U (λc1=>?_) (λc1=>?_)))))))));refine sq (sr (fad U z5s (z0i U I U na3 (mv U (gt' U (nn (cd U (λc2=>?_) (λc2=>?_))))))));refine sr (asg U (asg U (asg U (nn (rt (tr (tr (r3 results135 U U U ?_))))))));have he:z7i m.p o=12:=by unfold z7i;rw[O,if_neg (by simpa using c0),if_pos c1,if_pos c2]
 exact⟨_,rfl,by rw[he];rfl,(q1.z4 q2 q3 q4 q5)⟩;refine sk (tn (sr (mv U (z0q U (wi6 oo) (mv U (asg U (asg U (asg U (nn (rt (tr (r3 results135 U U U ?_))))))))))));have he:z7i m.p o=0:=by unfold z7i;rw[O,if_neg (by simpa using c0),if_pos c1,if_neg c2]
 exact⟨_,rfl,by rw[he];rw[if_pos U,if_pos U,behP,if_pos c1],(q1.z4 q2 q3 q4 q5)⟩;refine sk (tn (sq (sr (fad U z5s (z0i U I U na3 (mv U (lt' U (nn (cd U (λc3=>?_) (λc3=>?_))))))))));refine sr (asg U (asg U (asg U (nn (rt (tr (r3 results135 U U U ?_)))))));have he:z7i m.p o=12:=by unfold z7i;rw[O,if_neg (by simpa using c0),if_neg c1,if_pos c3]
 exact⟨_,rfl,by rw[he];rfl,(q1.z4 q2 q3 q4 q5)⟩;refine sk (tn (sr (mv U (z1u U (wi6 oo) (mv U (asg U (asg U (asg U (nn (rt (r3 results135 U U U ?_)))))))))));have he:z7i m.p o=0:=by unfold z7i;rw[O,if_neg (by simpa using c0),if_neg c1,if_neg c3]
 exact⟨_,rfl,by rw[he];rw[if_pos U,if_pos U,behP,if_neg c1],(q1.z4 q2 q3 q4 q5)⟩;refine z1f h z6j U λw6 I q6 hz a h=>?_;obtain⟨a0,hg⟩:∃g,g=w2.heap.size:=⟨_,rfl⟩;rw[<-hg]at I h hz;have a8.gk_7:ka.gk<a0:=by have:=hk.lt;omega
 have a4:g3<a0:=by have:=D.lt;omega
 have z6:=q6.size;replace hC:=hC.next q6;refine z0b (z0e 15 U (z0n h (z0a U (z0a U z0g)) v3q (y4a _ _ _ _ (by have:=hi.rk;omega)) ?_));rintro _ w7 ⟨rfl,q7⟩ a h;have z7:=q7.size;replace hM:=hM.ext (q6.n1 q7);replace hk:=hk.ext (q6.n1 q7);replace D:=D.ext (q6.n1 q7);replace I:=I.ext q7;replace hC:=hC.next q7;refine z0b (z0e 17 U (z0v h U I U z3o ?_ (h1:=(by first|(simp[Value.oneCell',S];done)|exact z3l.one (m.ys.getD j yq0)))));clear h a;intro w8 a3 q8 hz a h;have z8:=q8.size;replace hk:=hk.fr q8;replace D:=D.fr q8;replace hC:=hC.sp q8;clear I hz;have I:Blk w8 a0 _ [_,_,_,_,_]:=a3;clear a3;refine z0b (z0e 18 U (z0s h U λa h=>?_));refine z0b (z0r ?_);clear hC a2 a1 Z;refine bk (h.sub (L':=[(3,_),(5,_),(7,_)]) (.c3 U U U)) (tn (sq (sr (fad U z8r (z0i U I U na4 (nt' U (nn (cd U (λc0=>?_) (λc0=>?_)))))))));refine sr (asg U (asg U (asg U (nn (rt (tr (r3 results135 U U U ?_)))))));have he:z7i m.p o=12:=by unfold z7i;rw[O,if_pos (by simpa using c0)]
 exact⟨_,rfl,by rw[he];rfl,(q1.z4 q2 q6 q7 q8)⟩;refine sk (tn (sq (sr (fad U y1i (z0i U D U x3n (eq' U (nn (cd U (λc1=>?_) (λc1=>?_)))))))));refine sq (sr (fad U z5s (z0i U I U na3 (mv U (gt' U (nn (cd U (λc2=>?_) (λc2=>?_))))))));refine sr (asg U (asg U (asg U (nn (rt (tr (tr (r3 results135 U U U ?_))))))));have he:z7i m.p o=12:=by unfold z7i;rw[O,if_neg (by simpa using c0),if_pos c1,if_pos c2]
 exact⟨_,rfl,by rw[he];rfl,(q1.z4 q2 q6 q7 q8)⟩;refine sk (tn (sr (mv U (z0q U (wi6 oo) (mv U (asg U (asg U (asg U (nn (rt (tr (r3 results135 U U U ?_))))))))))));have he:z7i m.p o=0:=by unfold z7i;rw[O,if_neg (by simpa using c0),if_pos c1,if_neg c2]
 exact⟨_,rfl,by rw[he];rw[if_pos U,if_pos U,behP,if_pos c1],(q1.z4 q2 q6 q7 q8)⟩;refine sk (tn (sq (sr (fad U z5s (z0i U I U na3 (mv U (lt' U (nn (cd U (λc3=>?_) (λc3=>?_))))))))));refine sr (asg U (asg U (asg U (nn (rt (tr (r3 results135 U U U ?_)))))));have he:z7i m.p o=12:=by unfold z7i;rw[O,if_neg (by simpa using c0),if_neg c1,if_pos c3]
 exact⟨_,rfl,by rw[he];rfl,(q1.z4 q2 q6 q7 q8)⟩;refine sk (tn (sr (mv U (z1u U (wi6 oo) (mv U (asg U (asg U (asg U (nn (rt (r3 results135 U U U ?_)))))))))));have he:z7i m.p o=0:=by unfold z7i;rw[O,if_neg (by simpa using c0),if_neg c1,if_neg c3]
 exact⟨_,rfl,by rw[he];rw[if_pos U,if_pos U,behP,if_neg c1],(q1.z4 q2 q6 q7 q8)⟩
theorem z3s:z0y prog 156 1 1:=λ_ _=>kr0
theorem x8i (wS:World)(ka:MA)(m:MQ)(yy pl en:Int)(w0:World)(hM:MkM τd 156 wS ka w0 m)(hi:MInv m.p)(hy:1<=yy/\yy<=6):Rets prog 136 #[.pointer (some ⟨ka.gk,0,none⟩),.int .u8 yy,.int .i64 pl,.int .i64 en] w0 λr w'=>MRet τd 156 wS ka (y5y m.p yy pl en) r w':=by
 have g5:=hM.fr.size;have O:=hM.k;have g0:=O.lt;have g3:=hM.ly;have g1:=hM.lt;have f5:=(hM.y.out.blk ka.gy (by simp[z0u])).2;obtain⟨j,hj,g4⟩:∃j:Nat,j<6/\yy=(j:Int)+1:=⟨(yy-1).toNat,oo,oo⟩;have e1:(yy-1).toNat=j:=by omega
 have c9:m.p.y yy=(m.ys.getD j yq0).p:=by rw[j6p,e1]
 have f7:=v9m (z3h m.q.p m.rk) (m.ys.getD j yq0).pl en;have hN:=x2n hi.B;have f9:(z3h m.q.p m.rk).length<=320:=by unfold z3h;rw[z4w,y2u];exact hN
 refine we [(0,.pointer (some ⟨ka.gk,0,none⟩)),(1,.int .u8 yy),(2,.int .i64 pl),(3,.int .i64 en)] func136 U ntmps136 U (.c4 U U U U) ?_;have a9:=hM;refine sr (asg U (nn (sq ?_)));intro a h;refine z0h none (λwb w'=>Fr [] wb w') z2y ?_;intro w1 q1;have z1:=q1.size;replace hM:=hM.ext q1;replace O:=O.ext q1;have hC:Fr [] w1 w1:=Fr.refl _ _;have a4:=hM;have a1:=O;refine z0d 0 h U λa h=>z0o 1 h U λa h=>z0c 2 h U z3s U λa h=>z1d (vs:=[_,_]) 3 h U (λ_ hw=>(a1.ext hw)) z6k U U λa h=>z0d 4 h U λa h=>z0o 5 h U λa h=>z0c 6 h U z4k U λa h=>z0j 7 h U (λ_ hw=>a1.ext hw) U na3 U λa h=>z0e 8 U (z0n h (z0a U (z0a U z0g)) (mkC func129) (u2l m.q m.rk _ hM.b.at hi.B hi.rk) ?_);rintro _ w2 ⟨⟨g9,rfl,f8,hL⟩,hq⟩ a h;have z2:=hq.size;replace hM:=hM.ext hq;replace O:=O.ext hq;replace hC:=hC.next hq;have q2:=hq;have f6:=(hL.blk g9 (by simp[z0u])).2;refine z0b (z0d 9 h U λa h=>z0p 10 h U λa h=>z0p 11 h U λa h=>z0e 12 U (z0s h U λa h=>?_));refine z0b (z0e 13 U (z0s h U λa h=>?_));refine z0b (z0r ?_);clear hC a4 a1;refine bk (h.sub (L':=[(0,_),(1,_),(2,_),(3,_),(9,_),(10,_)]) (.c6 U U U U U U)) (tn (sq (sr (mv U (ne' U (nn (cd U (λc0=>?_) (λc0=>?_))))))));exact absurd U c0;refine sk (tn (sr (mv U (nlc U (fad U z3r (z0i U O U y6b (mv U (z1u U (wi8 oo) (z0x (p:=j) (yq0) U hM.y.out.sl U y5h oo (λf3 e4=>(z1t U (e4 _ hM.y.out.sl) z3k (al z6j U (λe2 w3 f4 D q3 z3=>?_)))))))))))));refine z0k (vs:=[_,_,_,_,_]) U D z3o (λw4 D q4 z4=>?_) (h1:=(by first|(simp[Value.oneCell',S];done)|exact z3l.one (m.ys.getD j yq0)));refine kpL [(0,_),(1,_),(2,_),(3,_),(9,_),(11,_)] (.c6 U U U U U U) (nn (sq ?_));replace hM:=a9.ext (q1.z3 q2 q3 q4);replace O:=(O.ext q3).fr q4;replace hL:=(hL.ext q3).fr q4 (by first|exact z9q hL oo|simp[z0u]<;>omega);intro a h;refine z0h none (λwb w'=>Fr [] wb w') z2y ?_;intro w5 q5;have z5:=q5.size;replace hM:=hM.ext q5;replace O:=O.ext q5;replace hL:=hL.ext q5;replace D:=D.ext q5;have hC:Fr [] w5 w5:=Fr.refl _ _;have a4:=hM;have a1:=O;have d6:=hL;have a0:=D;refine z0z 0 h U (λ_ hw=>a0.ext hw) z3k U λa h=>z0d 1 h U λa h=>z0d 2 h U λa h=>z0c 3 h U z5s U λa h=>z0j 4 h U (λ_ hw=>a0.ext hw) U na3 U λa h=>z0d 5 h U λa h=>z2n 6 11 kr0 U ?_ ?_;refine z0n h (z0a U (z0a U (z0a U z0g))) (mkC func176) (u8e _ (z3h m.q.p m.rk) (m.ys.getD j yq0).pl en _ hL.sl oo) ?_;rintro _ w6 ⟨⟨e3,rfl,e5,hW⟩,q6⟩ a h;have z6:=q6.size;replace hM:=hM.ext q6;replace O:=O.ext q6;replace hL:=hL.ext q6;replace D:=D.ext q6;replace hC:=hC.next q6;have f0:=(hW.blk e3 (by simp[z0u])).2;refine z0b (z2n 7 11 kr0 U ?_ ?_);refine z0n h (z0a U (z0a U (z0a U z0g))) (mkC func173) (v0t (m.ys.getD j yq0) pl _ (btw (z3h m.q.p m.rk) (m.ys.getD j yq0).pl en) _ (hM.y.ins j oo).sl hW.sl (λk O=>(hW.blk k O).2) oo) ?_;rintro _ w7 ⟨qn,rfl,b7,q7⟩ a h;have z7:=q7.size;replace O:=O.ext q7;replace D:=D.ext q7;replace hC:=hC.next q7;have Z:OwnIf ((goE (m.ys.getD j yq0).p pl (btw (z3h m.q.p m.rk) (m.ys.getD j yq0).pl en))=0) z2f 114 _ _ (slv qn.pe) qn.pes:=λhc=>(b7 hc).2;have b5:=λhc k O=>((Z hc).blk k O).2;refine z0b (z0d 8 h U λa h=>z0p 9 h U λa h=>z0p 10 h U λa h=>z0e 11 U (z1f h z6j U λw8 I q8 hz a h=>?_));obtain⟨a3,hg⟩:∃g,g=w7.heap.size:=⟨_,rfl⟩;rw[<-hg]at I h hz;have e6.gk_12:ka.gk<a3:=by have:=O.lt;omega
 have b8:e2<a3:=by have:=D.lt;omega
 have z8:=q8.size;replace hM:=hM.ext (q7.n1 q8);replace O:=O.ext q8;replace hL:=hL.ext (q7.n1 q8);replace D:=D.ext q8;replace hW:=hW.ext (q7.n1 q8);replace Z:=Z.ext q8;replace hC:=hC.next q8;refine z0b (z0e 12 U (z0v h U I U z3o ?_ (h1:=(by first|(simp[Value.oneCell',S];done)|exact z3l.one (m.ys.getD j yq0)))));clear h a;intro w9 b6 q9 hz a h;have z9:=q9.size;replace O:=O.fr q9;replace hL:=hL.fr q9 (by simp[z0u]<;>omega);replace D:=D.fr q9;replace hW:=hW.fr q9 (by simp[z0u]<;>omega);replace Z:=Z.fr q9 (by intro a6 k O a5;simp at O;subst O;have d4:=b5 a6 _ a5;have d5:=(Z a6).blk _ a5;omega);replace hC:=hC.sp q9;clear I hz;have I:Blk w9 a3 _ [_,_,_,_,_]:=b6;clear b6;refine z0b (z0e 13 U (z0s h U λa h=>?_));refine z0b (z0r ?_);clear hC a4 a1 d6 a0;refine bk (h.sub (L':=[(0,_),(1,_),(10,_),(12,_)]) (.c4 U U U U)) (tn (sq (sr (mv U (eq' U (nn (cd U (λc1=>?_) (λc1=>?_))))))));replace hM:=a9.ext (((q1.z6 q2 q3 q4 q5 q6 q7).n1 q8).z1 q9);intro a h;refine z0h (some 8) (λwb w'=>Fr [] wb w') z2y ?_;intro e7 d0;have h6:=d0.size;replace hM:=hM.ext d0;replace O:=O.ext d0;replace D:=D.ext d0;replace Z:=Z.ext d0;replace I:=I.ext d0;have hC:Fr [] e7 e7:=Fr.refl _ _;have a4:=hM;have a1:=O;have a0:=D;have a8:=Z;have a2:=I;refine z0d 0 h U λa h=>z0o 1 h U λa h=>z0c 2 h U z3r U λa h=>z0j 3 h U (λ_ hw=>a1.ext hw) U y6b U λa h=>z0d 4 h U λa h=>z3e 5 h U (by first|exact IntWalk.u8_in _ oo|rfl) U λa h=>z0z 6 h U (λ_ hw=>a2.ext hw) z3k U λa h=>z1o 7 kr0 hC (p:=j) h wn U y5h oo oo oo U U λa h=>z0e 8 U (z1c (i:=j) (qn:YQ) h U hM.y.out (by rw[hM.ly];exact hj) U z3o λg6 a7 d7 _hz a h=>?_);replace hM:=hM.yarn mtd hj a7 d7 ((Z c1).low oo);have a9:=hM;clear a7;have h7:=d7.size;replace D:=D.fr d7;replace Z:=Z.fr d7 (by intro a6 k O a5;simp at O;subst O;have d4:=b5 a6 _ a5;have d5:=(Z a6).blk _ a5;omega);replace I:=I.fr d7;have O:=hM.k;clear _hz;refine z1h (z0r ?_);clear hC a4 a1 a0 a8 a2;refine bk (h.sub (L':=[(10,_)]) (.cons U .nil)) (tn (sr (mv U (asg U (nn (rt (r1 results136 U ?_)))))));exact⟨_,rfl,by rw[c1];exact MRet.ok (by unfold y5y y4z;rw[c9,if_neg (λe=>e c1)];exact congrArg Except.ok (by rw[y1y m qn e1,(b7 c1).1])) hM⟩;refine sk (tn (sr (mv U (asg U (kpL [(8,_)] (.cons U .nil) (nn (rt (r1 results136 U ?_))))))));replace hM:=a9.ext (((q1.z6 q2 q3 q4 q5 q6 q7).n1 q8).z1 q9);exact⟨_,rfl,MRet.err (by unfold y5y y4z;rw[c9,if_pos c1]) c1 hM.fr⟩;refine z1f h z6j U λg7 I b2 hz a h=>?_;obtain⟨a3,hg⟩:∃g,g=w6.heap.size:=⟨_,rfl⟩;rw[<-hg]at I h hz;have e6.gk_12:ka.gk<a3:=by have:=O.lt;omega
 have b8:e2<a3:=by have:=D.lt;omega
 have h8:=b2.size;replace hM:=hM.ext b2;replace O:=O.ext b2;replace hW:=hW.ext b2;replace hC:=hC.next b2;refine z0b (z0e 7 U (z0n h (z0a U (z0a U (z0a U z0g))) (mkC func173) (v0t (m.ys.getD j yq0) pl _ (btw (z3h m.q.p m.rk) (m.ys.getD j yq0).pl en) _ (hM.y.ins j oo).sl hW.sl (λk O=>(hW.blk k O).2) oo) ?_));rintro _ g8 ⟨qn,rfl,b7,b0⟩ a h;have h9:=b0.size;replace hM:=hM.ext b0;replace O:=O.ext b0;replace hL:=hL.ext (b2.n1 b0);replace D:=D.ext (b2.n1 b0);replace hW:=hW.ext b0;replace I:=I.ext b0;replace hC:=hC.next b0;have Z:OwnIf ((goE (m.ys.getD j yq0).p pl (btw (z3h m.q.p m.rk) (m.ys.getD j yq0).pl en))=0) z2f 114 _ _ (slv qn.pe) qn.pes:=λhc=>(b7 hc).2;have b5:=λhc k O=>((Z hc).blk k O).2;refine z0b (z0d 8 h U λa h=>z0p 9 h U λa h=>z0p 10 h U λa h=>z0e 12 U (z0v h U I U z3o ?_ (h1:=(by first|(simp[Value.oneCell',S];done)|exact z3l.one (m.ys.getD j yq0)))));clear h a;intro f1 b6 b3 hz a h;have i0:=b3.size;replace O:=O.fr b3;replace hL:=hL.fr b3 (by simp[z0u]<;>omega);replace D:=D.fr b3;replace hW:=hW.fr b3 (by simp[z0u]<;>omega);replace Z:=Z.fr b3 (by intro a6 k O a5;simp at O;subst O;have d4:=b5 a6 _ a5;have d5:=(Z a6).blk _ a5;omega);replace hC:=hC.sp b3;clear I hz;have I:Blk f1 a3 _ [_,_,_,_,_]:=b6;clear b6;refine z0b (z0e 13 U (z0s h U λa h=>?_));refine z0b (z0r ?_);clear hC a4 a1 d6 a0;refine bk (h.sub (L':=[(0,_),(1,_),(10,_),(12,_)]) (.c4 U U U U)) (tn (sq (sr (mv U (eq' U (nn (cd U (λc1=>?_) (λc1=>?_))))))));replace hM:=a9.ext (((q1.z6 q2 q3 q4 q5 q6 b2).n1 b0).z1 b3);intro a h;refine z0h (some 8) (λwb w'=>Fr [] wb w') z2y ?_;intro e8 d1;have i1:=d1.size;replace hM:=hM.ext d1;replace O:=O.ext d1;replace D:=D.ext d1;replace I:=I.ext d1;replace Z:=Z.ext d1;have hC:Fr [] e8 e8:=Fr.refl _ _;have a4:=hM;have a1:=O;have a0:=D;have a2:=I;have a8:=Z;refine z0d 0 h U λa h=>z0o 1 h U λa h=>z0c 2 h U z3r U λa h=>z0j 3 h U (λ_ hw=>a1.ext hw) U y6b U λa h=>z0d 4 h U λa h=>z3e 5 h U (by first|exact IntWalk.u8_in _ oo|rfl) U λa h=>z0z 6 h U (λ_ hw=>a2.ext hw) z3k U λa h=>z1o 7 kr0 hC (p:=j) h wn U y5h oo oo oo U U λa h=>z0e 8 U (z1c (i:=j) (qn:YQ) h U hM.y.out (by rw[hM.ly];exact hj) U z3o λh0 a7 d9 _hz a h=>?_);replace hM:=hM.yarn mtd hj a7 d9 ((Z c1).low oo);have a9:=hM;clear a7;have i2:=d9.size;replace D:=D.fr d9;replace I:=I.fr d9;replace Z:=Z.fr d9 (by intro a6 k O a5;simp at O;subst O;have d4:=b5 a6 _ a5;have d5:=(Z a6).blk _ a5;omega);have O:=hM.k;clear _hz;refine z1h (z0r ?_);clear hC a4 a1 a0 a2 a8;refine bk (h.sub (L':=[(10,_)]) (.cons U .nil)) (tn (sr (mv U (asg U (nn (rt (r1 results136 U ?_)))))));exact⟨_,rfl,by rw[c1];exact MRet.ok (by unfold y5y y4z;rw[c9,if_neg (λe=>e c1)];exact congrArg Except.ok (by rw[y1y m qn e1,(b7 c1).1])) hM⟩;refine sk (tn (sr (mv U (asg U (kpL [(8,_)] (.cons U .nil) (nn (rt (r1 results136 U ?_))))))));replace hM:=a9.ext (((q1.z6 q2 q3 q4 q5 q6 b2).n1 b0).z1 b3);exact⟨_,rfl,MRet.err (by unfold y5y y4z;rw[c9,if_pos c1]) c1 hM.fr⟩;refine z1f h z6j U λh2 I b9 hz a h=>?_;obtain⟨a3,hg⟩:∃g,g=w5.heap.size:=⟨_,rfl⟩;rw[<-hg]at I h hz;have e6.gk_12:ka.gk<a3:=by have:=O.lt;omega
 have b8:e2<a3:=by have:=D.lt;omega
 have i3:=b9.size;replace hL:=hL.ext b9;replace hC:=hC.next b9;refine z0b (z0e 6 U (z0n h (z0a U (z0a U (z0a U z0g))) (mkC func176) (u8e _ (z3h m.q.p m.rk) (m.ys.getD j yq0).pl en _ hL.sl oo) ?_));rintro _ h3 ⟨⟨e3,rfl,e5,hW⟩,q18⟩ a h;have i4:=q18.size;replace hM:=hM.ext (b9.n1 q18);replace O:=O.ext (b9.n1 q18);replace hC:=hC.next q18;have f0:=(hW.blk e3 (by simp[z0u])).2;refine z0b (z0e 7 U (z0n h (z0a U (z0a U (z0a U z0g))) (mkC func173) (v0t (m.ys.getD j yq0) pl _ (btw (z3h m.q.p m.rk) (m.ys.getD j yq0).pl en) _ (hM.y.ins j oo).sl hW.sl (λk O=>(hW.blk k O).2) oo) ?_));rintro _ h4 ⟨qn,rfl,b7,b1⟩ a h;have i5:=b1.size;replace hM:=hM.ext b1;replace O:=O.ext b1;replace hL:=hL.ext (q18.n1 b1);replace D:=D.ext (b9.n2 q18 b1);replace I:=I.ext (q18.n1 b1);replace hW:=hW.ext b1;replace hC:=hC.next b1;have Z:OwnIf ((goE (m.ys.getD j yq0).p pl (btw (z3h m.q.p m.rk) (m.ys.getD j yq0).pl en))=0) z2f 114 _ _ (slv qn.pe) qn.pes:=λhc=>(b7 hc).2;have b5:=λhc k O=>((Z hc).blk k O).2;refine z0b (z0d 8 h U λa h=>z0p 9 h U λa h=>z0p 10 h U λa h=>z0e 12 U (z0v h U I U z3o ?_ (h1:=(by first|(simp[Value.oneCell',S];done)|exact z3l.one (m.ys.getD j yq0)))));clear h a;intro f2 b6 b4 hz a h;have i7:=b4.size;replace O:=O.fr b4;replace hL:=hL.fr b4 (by simp[z0u]<;>omega);replace D:=D.fr b4;replace hW:=hW.fr b4 (by simp[z0u]<;>omega);replace Z:=Z.fr b4 (by intro a6 k O a5;simp at O;subst O;have d4:=b5 a6 _ a5;have d5:=(Z a6).blk _ a5;omega);replace hC:=hC.sp b4;clear I hz;have I:Blk f2 a3 _ [_,_,_,_,_]:=b6;clear b6;refine z0b (z0e 13 U (z0s h U λa h=>?_));refine z0b (z0r ?_);clear hC a4 a1 d6 a0;refine bk (h.sub (L':=[(0,_),(1,_),(10,_),(12,_)]) (.c4 U U U U)) (tn (sq (sr (mv U (eq' U (nn (cd U (λc1=>?_) (λc1=>?_))))))));replace hM:=a9.ext (((q1.z6 q2 q3 q4 q5 b9 q18).n1 b1).z1 b4);intro a h;refine z0h (some 8) (λwb w'=>Fr [] wb w') z2y ?_;intro e9 d3;have i8:=d3.size;replace hM:=hM.ext d3;replace O:=O.ext d3;replace D:=D.ext d3;replace I:=I.ext d3;replace Z:=Z.ext d3;have hC:Fr [] e9 e9:=Fr.refl _ _;have a4:=hM;have a1:=O;have a0:=D;have a2:=I;have a8:=Z;refine z0d 0 h U λa h=>z0o 1 h U λa h=>z0c 2 h U z3r U λa h=>z0j 3 h U (λ_ hw=>a1.ext hw) U y6b U λa h=>z0d 4 h U λa h=>z3e 5 h U (by first|exact IntWalk.u8_in _ oo|rfl) U λa h=>z0z 6 h U (λ_ hw=>a2.ext hw) z3k U λa h=>z1o 7 kr0 hC (p:=j) h wn U y5h oo oo oo U U λa h=>z0e 8 U (z1c (i:=j) (qn:YQ) h U hM.y.out (by rw[hM.ly];exact hj) U z3o λh5 a7 e0 _hz a h=>?_);replace hM:=hM.yarn mtd hj a7 e0 ((Z c1).low oo);have a9:=hM;clear a7;have i9:=e0.size;replace D:=D.fr e0;replace I:=I.fr e0;replace Z:=Z.fr e0 (by intro a6 k O a5;simp at O;subst O;have d4:=b5 a6 _ a5;have d5:=(Z a6).blk _ a5;omega);have O:=hM.k;clear _hz;refine z1h (z0r ?_);clear hC a4 a1 a0 a2 a8;refine bk (h.sub (L':=[(10,_)]) (.cons U .nil)) (tn (sr (mv U (asg U (nn (rt (r1 results136 U ?_)))))));exact⟨_,rfl,by rw[c1];exact MRet.ok (by unfold y5y y4z;rw[c9,if_neg (λe=>e c1)];exact congrArg Except.ok (by rw[y1y m qn e1,(b7 c1).1])) hM⟩;refine sk (tn (sr (mv U (asg U (kpL [(8,_)] (.cons U .nil) (nn (rt (r1 results136 U ?_))))))));replace hM:=a9.ext (((q1.z6 q2 q3 q4 q5 b9 q18).n1 b1).z1 b4);exact⟨_,rfl,MRet.err (by unfold y5y y4z;rw[c9,if_pos c1]) c1 hM.fr⟩
theorem j4u (wS:World)(O:MA)(m:MQ)(o:MOp)(w0:World)(hM:MkM τd 156 wS O w0 m)(hi:MInv m.p)(hy:1<=o.y/\o.y<=6)(hn:z4g o.b o.p=0):Rets prog 87 #[.pointer (some ⟨O.gk,0,none⟩),opV o] w0 λr w'=>MRet τd 156 wS O (y6i m.p o) r w':=by
 refine we [(0,.pointer (some ⟨O.gk,0,none⟩)),(1,opV o)] func87 U ntmps87 U (.c2 U U) ?_;have I:=hM;refine sr (bx U (λg3 w1 a1 D q1 z1=>(asg U (nn (sr (mv U (z0m U D v4e ?_)))))));replace hM:=I.ext q1;refine cl (ev2 U) (mkC func135) (x8p wS O m o _ hM hi hy hn) U ?_;rintro _ w2 ⟨rfl,q2⟩;refine mv U (xt U (xt U (xt U (asg U (asg U (asg U (kpL [(0,_),(3,_),(5,_),(7,_)] (.c4 U U U U) (nn (sq (sr (mv U (ne' U (nn (cd U (λZ=>?_) (λZ=>?_)))))))))))))));refine sr (mv U (asg U (kpL [(4,_)] (.cons U .nil) (nn (rt (tr (r1 results87 U ?_)))))));replace hM:=I.ext (q1.n1 q2);exact⟨_,rfl,MRet.err (by unfold y6i;rw[if_pos Z]) Z hM.fr⟩;refine sk (tn (sr (mv U (fad U z5f ?_))));replace D:=D.ext q2;refine z0i U D U na5 (mv U (mv U ?_));replace hM:=I.ext (q1.n1 q2);refine cl (z0a U (z0a U (z0a U (z0a U z0g)))) (mkC func136) (x8i wS O m o.y (if z7i m.p o=0 then behP m.p o else 0) (if z7i m.p o=0 then behP m.p o else 0) _ hM hi hy) U ?_;rintro a2 w3 hR;refine asg U (kpL [(4,_)] (.cons U .nil) (nn (rt (r1 results87 U ?_))));have a0:z7i m.p o=0:=Classical.not_not.1 Z;rw[if_pos a0]at hR;exact⟨_,rfl,by rw[show y6i m.p o=_ from if_neg Z];exact hR⟩
theorem u2d:CallOf prog 141:=mkC func141
theorem y3y:z0y prog 156 5 6:=λ_ _=>kr0
theorem j2d (wS:World)(ka:MA)(m:MQ)(o:MOp)(w0:World)(hM:MkM τd 156 wS ka w0 m)(hi:MInv m.p)(hn:z4g o.b o.p=0):Rets prog 89 #[.pointer (some ⟨ka.gk,0,none⟩),opV o] w0 λr w'=>MRet τd 156 wS ka (y6f m.p o) r w':=by
 have f7:=hM.fr.size;have D:=hM.k;have f3:=D.lt;have f5:=hM.ly;have f4:=hM.lt;have e7:=(hM.y.out.blk ka.gy (by simp[z0u])).2;have f6:=z3n hn;obtain⟨n,b7⟩:∃n:Nat,o.p=(n:Int):=⟨o.p.toNat,oo⟩;obtain⟨⟨hf,hb⟩,h4,e0⟩:=z4b hi.B;have hfl:m.q.p.flat.length+m.fl.length<=z4r (z2o m.ts):=hi.cnt;have f1:z4r (z2o m.ts)<=2048:=hi.all;have hv:BdOk m.q.p:=hi.B;have f0:=y2e hv o.b o.p;refine we [(0,.pointer (some ⟨ka.gk,0,none⟩)),(1,opV o)] func89 U ntmps89 U (.c2 U U) ?_;have a6:=hM;refine sr (bx U (λg3 w1 f2 O q1 z1=>(asg U (nn (sq ?_)))));replace hM:=a6.ext q1;intro a h;refine z0h none (λwb w'=>Fr [] wb w') z2y ?_;intro w2 q2;have z2:=q2.size;replace hM:=hM.ext q2;replace D:=D.ext (q1.n1 q2);replace O:=O.ext q2;have hC:Fr [] w2 w2:=Fr.refl _ _;have b0:=hM;have a2:=D;have a0:=O;refine z0d 0 h U λa h=>z0o 1 h U λa h=>z0c 2 h U z3s U λa h=>z1d (vs:=[_,_]) 3 h U (λ_ hw=>(a2.ext hw)) z6k U U λa h=>z0c 4 h U z6r U λa h=>z1d (vs:=[_,_]) 5 h U (λ_ hw=>(a0.ext hw)) z8c U U λa h=>z0e 6 U (z0n h (z0a U (z0a U z0g)) u8w (x4d m.q o.b o.p _ hM.b.at oo hf hb h4 e0) ?_);rintro f8 w3 ⟨I,hq⟩ a h;have z3:=hq.size;replace hM:=hM.ext hq;replace D:=D.ext hq;replace O:=O.ext hq;replace hC:=hC.next hq;have q3:=hq;rw[y9n hn]at I;obtain⟨e8,e9,rfl,e6⟩:=I.sl.form;have b6:=λk hb=>(I.blk k hb).2;refine z0b (z0e 7 U (z0s h U λa h=>?_));refine z0b (z0r ?_);clear hC b0 a2 a0;refine bk (h.sub (L':=[(0,_),(3,_),(5,_)]) (.c3 U U U)) (tn (sq (sr (mv U (lnS U underlying42 (eq' U (nn (cd U (λc0=>?_) (λc0=>?_)))))))));exact sr (asg U (nn (rt (tr (r1 results89 U ⟨_,rfl,MRet.err (if_pos (List.length_eq_zero_iff.1 (show (m.q.p.at o.b o.p).length=0 by omega))) dd hM.fr⟩)))));refine sk (tn (sq ?_));intro a h;refine z0h none (λwb w'=>Fr [] wb w') z2y ?_;intro w4 q4;have z4:=q4.size;replace hM:=hM.ext q4;replace D:=D.ext q4;replace O:=O.ext q4;replace I:=I.ext q4;have hC:Fr [] w4 w4:=Fr.refl _ _;have b0:=hM;have a2:=D;have a0:=O;have b4:=I;refine z0d 0 h U λa h=>z0o 1 h U λa h=>z0c 2 h U z3s U λa h=>z1d (vs:=[_,_]) 3 h U (λ_ hw=>(a2.ext hw)) z6k U U λa h=>z0c 4 h U z6r U λa h=>z1d (vs:=[_,_]) 5 h U (λ_ hw=>(a0.ext hw)) z8c U U λa h=>z2n 6 10 kr0 U ?_ ?_;refine z0n h (z0a U (z0a U (z0a U z0g))) u2d (by have x:=x4h m.q o.b n (.slice none 0 0) [] _ hM.b.at (Sl.nil _) hv (by rw[<-b7];exact hn) sp0 sp0 (λi=>by have:=List.nodup_iff_count.1 hv.nd i;simp only[List.count_nil];omega);rw[<-b7]at x;exact x) ?_;rintro _ w5 ⟨⟨q',rfl,hQ,d4⟩,q5⟩ a h;have z5:=q5.size;replace D:=D.ext q5;replace O:=O.ext q5;replace hC:=hC.next q5;have d0:=x6w hQ a6.f oo;refine z0b (z0d 7 h U λa h=>z0p 8 h U λa h=>z0p 9 h U λa h=>z0e 10 U (z1f h v4k U λw6 Z q6 hz a h=>?_));obtain⟨a5,hg⟩:∃g,g=w5.heap.size:=⟨_,rfl⟩;rw[<-hg]at Z h hz;have e1.gk_6:ka.gk<a5:=by have:=D.lt;omega
 have d3:g3<a5:=by have:=O.lt;omega
 have z6:=q6.size;replace hM:=hM.ext (q5.n1 q6);replace D:=D.ext q6;replace O:=O.ext q6;replace I:=I.ext (q5.n1 q6);first|replace hQ:=BdO.ext hQ q6|replace hQ:=BdO.tf hQ q6 (OffT.one Z dd) (OffT.one Z dd)
 replace hC:=hC.next q6;refine z0b (z0e 11 U (z0v h U Z U x7z λw7 b3 q7 hz a h=>?_));have z7:=q7.size;replace D:=D.fr q7;replace O:=O.fr q7;replace I:=I.fr q7 (by intro k D a1;simp at D;subst D;have:=b6 _ a1;have b8:=(I.blk _ a1).1;omega);first|replace hQ:=BdO.ext hQ q7|replace hQ:=BdO.tf hQ q7 (OffT.one Z dd) (OffT.one Z dd)
 replace hC:=hC.sp q7;clear Z hz;have Z:Blk w7 a5 _ [_,_]:=b3;clear b3;refine z0b (z0e 12 U (z0s h U λa h=>?_));refine z0b (z0r ?_);clear hC b0 a2 a0 b4;refine bk (h.sub (L':=[(0,_),(5,_),(6,_),(7,_)]) (.c4 U U U U)) (tn (sq (sr (mv U (ne' U (nn (cd U (λc1=>?_) (λc1=>?_))))))));exact absurd U c1;refine sk (tn (sr (mv U (z0m U Z z6k (nlc U (fad U z3s ?_))))));replace hM:=a6.ext (q1.z6 q2 q3 q4 q5 q6 q7);refine y0g (cs':=u8p ka { m with q:=q' }) U U hM.k U (by intro u hu;simp at hu;rcases hu with rfl|rfl<;>rfl) x7z U (λw8 a3 q8 z8=>?_);replace hM:=hM.beds mtd (hQ.low oo) a3 q8 d0;have D:=hM.k;have a6:=hM;have c9:=hM;have hF:Lw.Own z1j 54 wS.heap.size _ (slv m.fa) m.fl:=hM.f;clear a3;refine kpL [(0,_),(5,_)] (.c2 U U) (nn (sr (mv U (mv U (nlc U (fad U y3y (z0i U D U z8o (mv U ?_))))))));replace I:=I.fr q8 (by intro k D a1;simp at D;subst D;have:=b6 _ a1;have b8:=(I.blk _ a1).1;omega);have a7:=hF;refine z1x U hF I.sl z6q (λe4 w9 hF q9 a8=>?_) (hM:=(by unfold maxLen;omega)) (hb:=oo);have d6:=q9;obtain⟨b1,b2,rfl,d7⟩:=hF.sl.form;have b5:∀k∈z0u (.slice b1 (m.fl++(m.q.p.at o.b o.p)).length b2),k∈z0u (slv m.fa)\/_<=k:=λk D=>by
  rcases a8 with e|e|e
  exact .inl (congrArg z0u e▸D);exact .inl (e▸D);rw[e,List.mem_singleton]at D;exact .inr (Nat.le_of_eq D.symm)
 have z9:=q9.size;replace D:=D.fr q9 (λd1=>a7.neB D dd d1);refine nlc U (fad U y3y (z5w U U D U j5l (λf9 a3 e2 g7=>?_)));have b9:=c9.fall mtd dd (u:=(b1,(m.fl++(m.q.p.at o.b o.p)).length,b2)) hF d6 b5 a3 e2;refine kpL [] .nil (nn (sr (asg U (nn (rt (r1 results89 U ?_))))));exact⟨_,rfl,MRet.ok (by rw[show y6f m.p o=_ from if_neg (λe=>c0 (by rw[show (m.q.p.at o.b o.p)=[] from e];rfl))];exact congrArg Except.ok (by unfold MQ.p;simp only[d4])) b9⟩;refine z1f h v4k U λg0 Z a9 hz a h=>?_;obtain⟨a5,hg⟩:∃g,g=w4.heap.size:=⟨_,rfl⟩;rw[<-hg]at Z h hz;have e1.gk_6:ka.gk<a5:=by have:=D.lt;omega
 have d3:g3<a5:=by have:=O.lt;omega
 have g8:=a9.size;replace hM:=hM.ext a9;replace hC:=hC.next a9;refine z0b (z0e 6 U (z0n h (z0a U (z0a U (z0a U z0g))) u2d (by have x:=x4h m.q o.b n (.slice none 0 0) [] _ hM.b.at (Sl.nil _) hv (by rw[<-b7];exact hn) sp0 sp0 (λi=>by have:=List.nodup_iff_count.1 hv.nd i;simp only[List.count_nil];omega);rw[<-b7]at x;exact x) ?_));rintro _ g1 ⟨⟨q',rfl,hQ,d4⟩,q12⟩ a h;have g9:=q12.size;replace hM:=hM.ext q12;replace D:=D.ext (a9.n1 q12);replace O:=O.ext (a9.n1 q12);replace I:=I.ext (a9.n1 q12);replace Z:=Z.ext q12;replace hC:=hC.next q12;have d0:=x6w hQ a6.f oo;refine z0b (z0d 7 h U λa h=>z0p 8 h U λa h=>z0p 9 h U λa h=>z0e 11 U (z0v h U Z U x7z λe5 b3 a4 hz a h=>?_));have h0:=a4.size;replace D:=D.fr a4;replace O:=O.fr a4;replace I:=I.fr a4 (by intro k D a1;simp at D;subst D;have:=b6 _ a1;have b8:=(I.blk _ a1).1;omega);first|replace hQ:=BdO.ext hQ a4|replace hQ:=BdO.tf hQ a4 (OffT.one Z dd) (OffT.one Z dd)
 replace hC:=hC.sp a4;clear Z hz;have Z:Blk e5 a5 _ [_,_]:=b3;clear b3;refine z0b (z0e 12 U (z0s h U λa h=>?_));refine z0b (z0r ?_);clear hC b0 a2 a0 b4;refine bk (h.sub (L':=[(0,_),(5,_),(6,_),(7,_)]) (.c4 U U U U)) (tn (sq (sr (mv U (ne' U (nn (cd U (λc1=>?_) (λc1=>?_))))))));exact absurd U c1;refine sk (tn (sr (mv U (z0m U Z z6k (nlc U (fad U z3s ?_))))));replace hM:=a6.ext (q1.z6 q2 q3 q4 a9 q12 a4);refine y0g (cs':=u8p ka { m with q:=q' }) U U hM.k U (by intro u hu;simp at hu;rcases hu with rfl|rfl<;>rfl) x7z U (λg4 a3 d9 h1=>?_);replace hM:=hM.beds mtd (hQ.low oo) a3 d9 d0;have D:=hM.k;have a6:=hM;have c9:=hM;have hF:Lw.Own z1j 54 wS.heap.size _ (slv m.fa) m.fl:=hM.f;clear a3;refine kpL [(0,_),(5,_)] (.c2 U U) (nn (sr (mv U (mv U (nlc U (fad U y3y (z0i U D U z8o (mv U ?_))))))));replace I:=I.fr d9 (by intro k D a1;simp at D;subst D;have:=b6 _ a1;have b8:=(I.blk _ a1).1;omega);have a7:=hF;refine z1x U hF I.sl z6q (λe4 g5 hF d5 a8=>?_) (hM:=(by unfold maxLen;omega)) (hb:=oo);have d6:=d5;obtain⟨b1,b2,rfl,d7⟩:=hF.sl.form;have b5:∀k∈z0u (.slice b1 (m.fl++(m.q.p.at o.b o.p)).length b2),k∈z0u (slv m.fa)\/_<=k:=λk D=>by
  rcases a8 with e|e|e
  exact .inl (congrArg z0u e▸D);exact .inl (e▸D);rw[e,List.mem_singleton]at D;exact .inr (Nat.le_of_eq D.symm)
 have h2:=d5.size;replace D:=D.fr d5 (λd1=>a7.neB D dd d1);refine nlc U (fad U y3y (z5w U U D U j5l (λg6 a3 e3 h3=>?_)));have b9:=c9.fall mtd dd (u:=(b1,(m.fl++(m.q.p.at o.b o.p)).length,b2)) hF d6 b5 a3 e3;refine kpL [] .nil (nn (sr (asg U (nn (rt (r1 results89 U ?_))))));exact⟨_,rfl,MRet.ok (by rw[show y6f m.p o=_ from if_neg (λe=>c0 (by rw[show (m.q.p.at o.b o.p)=[] from e];rfl))];exact congrArg Except.ok (by unfold MQ.p;simp only[d4])) b9⟩
theorem v8h (b p r:Int)(w0:World)(hn:z4g b p=0)(hr:-4<=r/\r<=4):Rets prog 138 #[.agg #[.int .u8 b,.int .i64 p],.int .i64 r] w0 λv w'=>(∃b' p':Int,v=.tuple #[.agg #[.int .u8 b',.int .i64 p'],.int .i64 (if z4g (1-b) (z8d b p r)≠0 then 11 else 0)]/\(z4g (1-b) (z8d b p r)=0->b'=1-b/\p'=z8d b p r))/\Fr [] w0 w':=by
 have a4:=z3n hn;refine we [(0,.agg #[.int .u8 b,.int .i64 p]),(1,.int .i64 r)] func138 U ntmps138 U (.c2 U U) (sr (bx U (λg2 w1 a5 O q1 z1=>(al j1u U (λg4 w2 a6 D q2 z2=>(asg U (nn (sq (sr ?_)))))))));replace O:=O.ext q2;refine z0m U O z8c (cl (ev1 U) u5t (z5i _ _ _) U ?_);rintro _ w3 ⟨rfl,q3⟩;have z3:=q3.size;refine ne' U (nn (cd U (λc0=>?_) (λc0=>?_)));refine sr (z1z (cs:=[_,_]) z0g x8q z0t U ?_);replace D:=D.ext q3;exact z0k (vs:=[_,_]) U D v5m (λw4 D q4 z4=>(asg U (nn (rt (tr (rCT results138 U D z8c U (absurd hn c0)))))));refine sk (tn (sq (sr (mv U (cl (ev1 U) (mkC func179) (x4u _ _) U ?_)))));rintro _ w5 ⟨rfl,q5⟩;have z5:=q5.size;refine nt' U (nn (cd U (λc1=>?_) (λc1=>?_)));refine sr (z1z (cs:=[_,_]) z0g x8q z0t U ?_);replace D:=D.ext (q3.n1 q5);exact z0k (vs:=[_,_]) U D v5m (λw6 D q6 z6=>(asg U (nn (rt (tr (rCT results138 U D z8c U (absurd hr c1)))))));refine sk (tn (sr (fad U z9j ?_)));replace O:=O.ext (q3.n1 q5);refine z0i U O U na3 (mv U (z1u U (wi6 oo) (z1z (cs:=[_,_]) (ev2 U) x8q (z0f U (z0f U z0t)) U ?_)));refine al j1u U (λg6 w7 a7 I q7 z7=>(z0k (vs:=[_,_]) U I v5m (λw8 I q8 z8=>(kpL [(1,_),(2,_),(4,_),(6,_)] (.c4 U U U U) (nn (jn (ι:=Unit) [(4,_),(6,_)] (λ_j=>[]) (λ_j w'=>Fr [g6] w8 w'/\Blk w' g6 85 [.int .u8 (1-b),.int .i64 (z8d b p r)]) (.c2 U U) ?_ ?_))))));refine sr (fad U z9i ?_);replace O:=(O.ext q7).fr q8;refine z0i U O U v0a (eq' U (nn (cd U (λc2=>?_) (λc2=>?_))));refine rg (fad U z9j (z0i U O U na3 (mv U (z0q U (wi6 oo) (z1z (cs:=[_,_]) (ev2 U) x8q (z0f U (z0f U z0t)) U ?_)))));exact z0k (vs:=[_,_]) U I v5m (λw9 I q9 z9=>(kpL [(4,_),(6,_)] (.c2 U U) (nl (jE (()) (.c2 U U) ⟨((Fr.refl [g6] _).z1 q9),(by rw[show z8d b p r=p+r from if_pos c2,show 1-b=0 by omega];exact I)⟩))));exact sk (jE (()) (.c2 U U) ⟨(Fr.refl _ _),(by rw[show z8d b p r=p-r from if_neg c2,show 1-b=1 by omega];exact I)⟩);rintro _j a8 ⟨a0,I⟩;have b2:=a0.size;have a1:=I.lt;refine kpC [(4,_),(6,_)] (.c2 U U) (sq (sr (z0m U I z8c (cl (ev1 U) u5t (z5i _ _ _) U ?_))));rintro _ a9 ⟨rfl,Z⟩;have b3:=Z.size;refine ne' U (nn (cd U (λc3=>?_) (λc3=>?_)));refine sr (z1z (cs:=[_,_]) z0g x8q z0t U ?_);replace D:=(((D.ext (q3.n2 q5 q7)).fr q8).fr a0).ext Z;exact z0k (vs:=[_,_]) U D v5m (λb0 D a2 b4=>(asg U (nn (rt (tr (rCT results138 U D z8c U ⟨_,rfl,⟨0,0,by rw[if_pos c3],λe=>absurd e c3⟩,(((q1.z6 q2 q3 q5 q7 q8 a0).n1 Z).z1 a2)⟩))))));refine sk (tn (sr ?_));replace I:=I.ext Z;refine z0m U I z8c ?_;replace D:=(((D.ext (q3.n2 q5 q7)).fr q8).fr a0).ext Z;exact z0k (vs:=[_,_]) U D v5m (λb1 D a3 b5=>(asg U (nn (rt (rCT results138 U D z8c U ⟨_,rfl,⟨_,_,by rw[if_neg c3],λ_=>⟨rfl,rfl⟩⟩,(((q1.z6 q2 q3 q5 q7 q8 a0).n1 Z).z1 a3)⟩)))))
def BdOIf (c:Prop)(Sτ I base:Nat)(w:World)(q:BdQ):Prop:=c->BdO Sτ I base w q
theorem BdOIf.ext {c:Prop}{D I base:Nat}{w w':World}{q:BdQ}(h:BdOIf c D I base w q)(hf:Fr [] w w'):BdOIf c D I base w' q:=λO=>(h O).ext hf
theorem BdOIf.tf {c:Prop}{D I base:Nat}{w w':World}{q:BdQ}{S:List Nat}(h:BdOIf c D I base w q)(hf:Fr S w w')(Z:OffT w D S)(O:OffT w I S):BdOIf c D I base w' q:=λhc=>BdO.tf (h hc) hf Z O
theorem x6s {p:MSt}{o:MOp}(h:o.b=0\/o.b=1):y7z p.B o.b o.p (z8d o.b o.p p.rk)=y1a p o:=by
 unfold y7z y1a;rcases h with e|e<;>rw[e]<;>rfl
theorem j2o (wS:World)(ka:MA)(m:MQ)(o:MOp)(w0:World)(hM:MkM τd 156 wS ka w0 m)(hi:MInv m.p)(hn:z4g o.b o.p=0):Rets prog 88 #[.pointer (some ⟨ka.gk,0,none⟩),opV o] w0 λr w'=>MRet τd 156 wS ka (z9c m.p o) r w':=by
 have i7:=hM.fr.size;have hk:=hM.k;have i1:=hk.lt;have i3:=hM.ly;have i2:=hM.lt;have h3:=(hM.y.out.blk ka.gy (by simp[z0u])).2;have e6:=z3n hn;obtain⟨n,d4⟩:∃n:Nat,o.p=(n:Int):=⟨o.p.toNat,oo⟩;obtain⟨⟨hf,hb⟩,h4,f2⟩:=z4b hi.B;have hv:BdOk m.q.p:=hi.B;have h8:=y2e hv o.b o.p;have e7:-4<=m.rk/\m.rk<=4:=hi.rk;have i4:=y6y o.b o.p m.rk;have i5:=y6y (1-o.b) (z8d o.b o.p m.rk) m.rk;refine we [(0,.pointer (some ⟨ka.gk,0,none⟩)),(1,opV o)] func88 U ntmps88 U (.c2 U U) ?_;have a3:=hM;refine sr (bx U (λg3 w1 h9 D q1 z1=>(asg U (nn (sq (sq ?_))))));replace hM:=a3.ext q1;intro a h;refine z0h none (λwb w'=>Fr [] wb w') z2y ?_;intro w2 q2;have z2:=q2.size;replace hM:=hM.ext q2;replace hk:=hk.ext (q1.n1 q2);replace D:=D.ext q2;have hC:Fr [] w2 w2:=Fr.refl _ _;have a4:=hM;have a0:=hk;have Z:=D;refine z0d 0 h U λa h=>z0o 1 h U λa h=>z0c 2 h U z3s U λa h=>z1d (vs:=[_,_]) 3 h U (λ_ hw=>(a0.ext hw)) z6k U U λa h=>z0c 4 h U z6r U λa h=>z1d (vs:=[_,_]) 5 h U (λ_ hw=>(Z.ext hw)) z8c U U λa h=>z0e 6 U (z0n h (z0a U (z0a U z0g)) u8w (x4d m.q o.b o.p _ hM.b.at oo hf hb h4 f2) ?_);rintro i8 w3 ⟨e0,hq⟩ a h;have z3:=hq.size;replace hM:=hM.ext hq;replace hk:=hk.ext hq;replace D:=D.ext hq;replace hC:=hC.next hq;have q3:=hq;rw[y9n hn]at e0;obtain⟨h6,h7,rfl,h0⟩:=e0.sl.form;refine z0b (z7q 7 hC h wn U underlying42 U λa h=>v4y 8 hC h wn U U U U λa h=>z0r ?_);clear hC a4 a0 Z;refine bk (h.sub (L':=[(0,_),(3,_),(19,_)]) (.c3 U U U)) (tn (cd U (λc0=>?_) (λc0=>?_)));exact sr (asg U (nn (rt (tr (r1 results88 U ⟨_,rfl,MRet.err (if_pos (List.length_eq_zero_iff.1 (show (m.q.p.at o.b o.p).length=0 by omega))) dd hM.fr⟩)))));have c9:(m.q.p.at o.b o.p)≠[]:=λe=>c0 (by rw[e];rfl);refine sk (tn (jn (ι:=Nat×Int×Int) [(0,_),(3,_)] (λz_=>[(5,.pointer (some ⟨z_.1,0,none⟩)),(6,.int .i64 (if z4g (1-o.b) (z8d o.b o.p m.rk)≠0 then 11 else 0))]) (λz_ w'=>Fr [] w3 w'/\(w3.heap.size<=z_.1/\Blk w' z_.1 85 [.int .u8 z_.2.1,.int .i64 z_.2.2])/\(z4g (1-o.b) (z8d o.b o.p m.rk)=0->z_.2.1=1-o.b/\z_.2.2=z8d o.b o.p m.rk)) (.c2 U U) ?_ ?_));intro a h;refine z0h none (λwb w'=>Fr [] wb w') z2y ?_;intro w4 q4;have z4:=q4.size;replace hM:=hM.ext q4;replace hk:=hk.ext q4;replace D:=D.ext q4;have hC:Fr [] w4 w4:=Fr.refl _ _;have a4:=hM;have a0:=hk;have Z:=D;refine z0c 0 h U z6r U λa h=>z1d (vs:=[_,_]) 1 h U (λ_ hw=>(Z.ext hw)) z8c U U λa h=>z0d 2 h U λa h=>z0o 3 h U λa h=>z0c 4 h U z4k U λa h=>z0j 5 h U (λ_ hw=>a0.ext hw) U na3 U λa h=>z2n 6 10 kr0 U ?_ ?_;refine z0n h (z0a U (z0a U z0g)) (mkC func138) (v8h o.b o.p m.rk _ hn e7) ?_;rintro _ w5 ⟨⟨bn,pn,rfl,a1⟩,q5⟩ a h;have z5:=q5.size;replace hk:=hk.ext q5;replace D:=D.ext q5;replace hC:=hC.next q5;refine z0b (z0d 7 h U λa h=>z0p 8 h U λa h=>z0p 9 h U λa h=>z0e 10 U (z1f h j1u U λw6 I q6 hz a h=>?_));obtain⟨b3,hg⟩:∃g,g=w5.heap.size:=⟨_,rfl⟩;rw[<-hg]at I h hz;have e1.gk_5:ka.gk<b3:=by have:=hk.lt;omega
 have e2:g3<b3:=by have:=D.lt;omega
 have z6:=q6.size;replace hk:=hk.ext q6;replace D:=D.ext q6;replace hC:=hC.next q6;refine z0b (z0e 11 U (z0v h U I U v5m ?_ (h1:=(by first|(simp[Value.oneCell',S];done)|exact z3l.one (m.ys.getD i yq0)))));clear h a;intro w7 a1 q7 hz a h;have z7:=q7.size;replace hk:=hk.fr q7;replace D:=D.fr q7;replace hC:=hC.sp q7;clear I hz;have I:Blk w7 b3 _ [_,_]:=a1;clear a1;refine z0b (z0e 12 U (z0s h U λa h=>?_));refine z0b (z0r ?_);clear hC a4 a0 Z;exact bk (h.sub (L':=[(0,_),(3,_),(5,_),(6,_)]) (.c4 U U U U)) (jE ((b3,bn,pn)) (.c4 U U U U) ⟨(q4.z3 q5 q6 q7),⟨⟨sm,I⟩,a1⟩⟩);refine z1f h j1u U λw8 I q8 hz a h=>?_;obtain⟨b3,hg⟩:∃g,g=w4.heap.size:=⟨_,rfl⟩;rw[<-hg]at I h hz;have e1.gk_5:ka.gk<b3:=by have:=hk.lt;omega
 have e2:g3<b3:=by have:=D.lt;omega
 have z8:=q8.size;replace hC:=hC.next q8;refine z0b (z0e 6 U (z0n h (z0a U (z0a U z0g)) (mkC func138) (v8h o.b o.p m.rk _ hn e7) ?_));rintro _ w9 ⟨⟨bn,pn,rfl,a1⟩,q9⟩ a h;have z9:=q9.size;replace hk:=hk.ext (q8.n1 q9);replace D:=D.ext (q8.n1 q9);replace I:=I.ext q9;replace hC:=hC.next q9;refine z0b (z0d 7 h U λa h=>z0p 8 h U λa h=>z0p 9 h U λa h=>z0e 11 U (z0v h U I U v5m ?_ (h1:=(by first|(simp[Value.oneCell',S];done)|exact z3l.one (m.ys.getD i yq0)))));clear h a;intro f9 a1 d7 hz a h;have j9:=d7.size;replace hk:=hk.fr d7;replace D:=D.fr d7;replace hC:=hC.sp d7;clear I hz;have I:Blk f9 b3 _ [_,_]:=a1;clear a1;refine z0b (z0e 12 U (z0s h U λa h=>?_));refine z0b (z0r ?_);clear hC a4 a0 Z;exact bk (h.sub (L':=[(0,_),(3,_),(5,_),(6,_)]) (.c4 U U U U)) (jE ((b3,bn,pn)) (.c4 U U U U) ⟨(q4.z3 q8 q9 d7),⟨⟨sm,I⟩,a1⟩⟩);rintro⟨g5,bn,pn⟩ i9 ⟨a9,⟨⟨f6,I⟩,a1⟩⟩;have k0:=a9.size;have f1:=I.lt;simp only at f6 I a1;refine kpC [(0,_),(3,_),(5,.pointer (some ⟨g5,0,none⟩)),(6,_)] (.c4 U U U U) (sq (sr (mv U (ne' U (nn (cd U (λc1=>?_) (λc1=>?_)))))));refine sr (mv U (asg U (kpL [(4,_)] (.cons U .nil) (nn (rt (tr (r1 results88 U ?_)))))));replace hM:=a3.ext (q1.n3 q2 q3 a9);have a8:z4g (1-o.b) (z8d o.b o.p m.rk)≠0:=λe=>c1 (by rw[if_neg (λh=>h e)]);exact⟨_,rfl,by rw[if_pos a8];exact MRet.err (by rw[z9c,if_neg c9,if_pos a8]) dd hM.fr⟩;have a8:z4g (1-o.b) (z8d o.b o.p m.rk)=0:=Classical.not_not.1 λe=>c1 (by rw[if_pos e];decide);obtain⟨rfl,rfl⟩:=a1 a8;have h5:=z3n a8;obtain⟨n2,d3⟩:∃n2:Nat,z8d o.b o.p m.rk=(n2:Int):=⟨(z8d o.b o.p m.rk).toNat,oo⟩;refine sk (tn (sq ?_));replace hM:=a3.ext (q1.n3 q2 q3 a9);intro a h;refine z0h none (λwb w'=>Fr [] wb w') z2y ?_;intro f0 b0;have k1:=b0.size;replace hM:=hM.ext b0;replace hk:=hk.ext (a9.n1 b0);replace D:=D.ext (a9.n1 b0);replace I:=I.ext b0;have hC:Fr [] f0 f0:=Fr.refl _ _;have a4:=hM;have a0:=hk;have Z:=D;have a5:=I;refine z0c 0 h U z6r U λa h=>z1d (vs:=[_,_]) 1 h U (λ_ hw=>(Z.ext hw)) z8c U U λa h=>z0d 2 h U λa h=>z0o 3 h U λa h=>z0c 4 h U z4k U λa h=>z0j 5 h U (λ_ hw=>a0.ext hw) U na3 U λa h=>z0z 7 h U (λ_ hw=>a5.ext hw) z8c U λa h=>z0d 8 h U λa h=>z0o 9 h U λa h=>z0c 10 h U z4k U λa h=>z0j 11 h U (λ_ hw=>a0.ext hw) U na3 U λa h=>z0e 6 U (z0n h (z0a U (z0a U z0g)) v3q (y4a _ _ _ _ oo) ?_);rintro _ j0 ⟨rfl,a6⟩ a h;have k2:=a6.size;replace hC:=hC.next a6;refine z0b (z0e 12 U (z0n h (z0a U (z0a U z0g)) v3q (y4a _ _ _ _ oo) ?_));rintro _ g1 ⟨rfl,a7⟩ a h;have k4:=a7.size;replace hM:=hM.ext (a6.n1 a7);replace hk:=hk.ext (a6.n1 a7);replace D:=D.ext (a6.n1 a7);replace I:=I.ext (a6.n1 a7);replace hC:=hC.next a7;refine z0b (j9x 13 kr0 hC h wn U U U U λa h=>z4d 14 h U (by first|exact i6 oo|rfl) U λa h=>z0e 15 U (z0s h U λa h=>?_));refine z0b (z0r ?_);clear hC a4 a0 Z a5;refine bk (h.sub (L':=[(0,_),(3,_),(5,_),(7,_)]) (.c4 U U U U)) (tn (sq (sr (mv U (nlc U (fad U z3r (z0i U hk U y6b (lnS U underlying38 (mv U (nn (bl (lpK (ι:=Nat) [(0,_),(3,_),(5,_),(7,_),(51,_),(52,_)] (λi=>[(53,.int .i64 (i:Int))]) (λi w'=>Fr [] g1 w'/\i<=6/\∀k,k<i->¬((m.ys.getD k yq0).inn=true/\(m.ys.getD k yq0).pl=(u6v m.p o))) (λi=>6-i) 0 (.c7 U U U U U U U) ⟨Fr.refl _ _,⟨Nat.zero_le _,λj h=>absurd h oo⟩⟩ ?_))))))))))));rintro i j1 ⟨b1,⟨hi,hz⟩⟩;have k5:=b1.size;refine kpC [(0,_),(3,_),(5,_),(7,_),(51,_),(52,_),(53,_)] (.c7 U U U U U U U) (sr (lt' U (nn (sq (cd U (λc2=>?_) (λc2=>?_))))));refine sk (tn (sq (bl (sr ?_))));replace hM:=a3.ext ((q1.n6 q2 q3 a9 b0 a6 a7).n1 b1);refine z0x (yq0) U hM.y.out.sl U y5h z1m (λg8 e5=>?_);refine z1t U (e5 _ hM.y.out.sl) z3k (al z6j U (λg9 j2 i0 d9 e8 k6=>?_));refine z0k (vs:=[_,_,_,_,_]) U d9 z3o (λj3 d9 e9 k7=>?_) (h1:=(by first|(simp[Value.oneCell',S];done)|exact z3l.one (m.ys.getD i yq0)));refine nn (sq (rbo (r:=64) (L':=[(0,_),(3,_),(5,_),(7,_),(51,_),(52,_),(53,_)]) (((m.ys.getD i yq0).inn=true/\((m.ys.getD i yq0).pl=((min (z2s o.b o.p m.rk) (z2s (1-o.b) (z8d o.b o.p m.rk) m.rk))+1)))) (.c7 U U U U U U U) ?_ ?_));refine fad U z8r (z0i U d9 U na4 (mv U (gs 59 U (λg0=>?_) (λg0=>?_))));exact gY U (fad U z5s (gY U (z0i U d9 U na3 (gY U (mv U (gY U (eq' U (pkt U (rbe U (.c7 U U U U U U U))))))))));exact gN U (gN U (gN U (gN U (pkf U (rbe U (.c7 U U U U U U U))))));refine tn (cd U (λc3=>?_) (λc3=>?_));refine sr (asg U (kpL [(4,_)] (.cons U .nil) (nn (rt (rb (tr (tr (rb (tr (r1 results88 U ?_))))))))));replace hM:=a3.ext ((((q1.n6 q2 q3 a9 b0 a6 a7).n1 b1).n1 e8).z1 e9);exact⟨_,rfl,MRet.err (by rw[z9c,if_neg c9,if_neg (λh=>h a8),if_pos (⟨_,List.mem_map.2 ⟨m.ys.getD i yq0,z1b oo,rfl⟩,c3⟩:∃y∈m.p.ys,y.inn=true/\y.pl=u6v m.p o)]) dd hM.fr⟩;refine sk (bn' (tn (rg (z0q U (wi6 oo) (mv U (nl ?_))))));exact lpE (i+1) (.c7 U U U U U U U) ⟨(b1.z2 e8 e9),⟨oo,λk h=>by
  by_cases e:k=i;subst e;exact c3;exact hz k oo⟩⟩ oo
 have b6:¬ ∃y∈m.p.ys,y.inn=true/\y.pl=u6v m.p o:=by
  rintro⟨y,hy,h1,h2⟩;obtain⟨z,f5,rfl⟩:=List.mem_map.1 hy;obtain⟨k,f4,rfl⟩:=List.getElem_of_mem f5;refine hz k oo ?_;rw[List.getD,List.getElem?_eq_getElem f4];exact⟨h1,h2⟩
 refine ex (te (te (xh (tn (sq ?_)))));replace hM:=a3.ext ((q1.n6 q2 q3 a9 b0 a6 a7).n1 b1);intro a h;refine z0h none (λwb w'=>Fr [] wb w') z2y ?_;intro e4 b7;have k8:=b7.size;replace hM:=hM.ext b7;replace hk:=hk.ext (b1.n1 b7);replace D:=D.ext (b1.n1 b7);replace I:=I.ext (b1.n1 b7);have hC:Fr [] e4 e4:=Fr.refl _ _;have a4:=hM;have a0:=hk;have Z:=D;have a5:=I;refine z0d 0 h U λa h=>z0o 1 h U λa h=>z0c 2 h U z3s U λa h=>z1d (vs:=[_,_]) 3 h U (λ_ hw=>(a0.ext hw)) z6k U U λa h=>z0c 4 h U z6r U λa h=>z1d (vs:=[_,_]) 5 h U (λ_ hw=>(Z.ext hw)) z8c U U λa h=>z0z 6 h U (λ_ hw=>a5.ext hw) z8c U λa h=>z2n 7 11 kr0 U ?_ ?_;refine z0n h (z0a U (z0a U (z0a U z0g))) (mkC func140) (by have x:=v6z m.q o.b n n2 _ hM.b.at hv (by rw[<-d4];exact hn) (by rw[<-d3];exact a8) (by rw[<-d4];exact c9);rw[<-d4,<-d3]at x;exact x) ?_;rintro _ g4 ⟨⟨q',rfl,d5⟩,q19⟩ a h;have k9:=q19.size;replace hk:=hk.ext q19;replace D:=D.ext q19;replace I:=I.ext q19;replace hC:=hC.next q19;have hQ:BdOIf (¬4<(m.q.p.at o.b o.p).length+(m.q.p.at (1-o.b) (z8d o.b o.p m.rk)).length) 42 54 _ _ q':=λhc=>(d5 hc).1;have e3:=λhc=>(d5 hc).2;have d1:=λhc=>x6w (hQ hc) a3.f oo;refine z0b (z0d 8 h U λa h=>z0p 9 h U λa h=>z0p 10 h U λa h=>z0e 11 U (z1f h v4k U λj4 O b2 hz a h=>?_));obtain⟨a2,hg⟩:∃g,g=g4.heap.size:=⟨_,rfl⟩;rw[<-hg]at O h hz;have e1.gk_10:ka.gk<a2:=by have:=hk.lt;omega
 have b4:g3<a2:=by have:=D.lt;omega
 have b4:g5<a2:=by have:=I.lt;omega
 have l0:=b2.size;replace hM:=hM.ext (q19.n1 b2);replace hk:=hk.ext b2;replace D:=D.ext b2;replace I:=I.ext b2;first|replace hQ:=BdOIf.ext hQ b2|replace hQ:=BdOIf.tf hQ b2 (OffT.one O dd) (OffT.one O dd)
 replace hC:=hC.next b2;refine z0b (z0e 12 U (z0v h U O U x7z ?_ (h1:=(by first|(simp[Value.oneCell',S];done)|exact z3l.one (m.ys.getD i yq0)))));clear h a;intro g6 a1 b8 hz a h;have l1:=b8.size;replace hk:=hk.fr b8;replace D:=D.fr b8;replace I:=I.fr b8;first|replace hQ:=BdOIf.ext hQ b8|replace hQ:=BdOIf.tf hQ b8 (OffT.one O dd) (OffT.one O dd)
 replace hC:=hC.sp b8;clear O hz;have O:Blk g6 a2 _ [_,_]:=a1;clear a1;refine z0b (z0e 13 U (z0s h U λa h=>?_));refine z0b (z0r ?_);clear hC a4 a0 Z a5;refine bk (h.sub (L':=[(0,_),(6,_),(10,_)]) (.c3 U U U)) (tn (sq (sr (mv U (eq' U (nn (cd U (λc4=>?_) (λc4=>?_))))))));have b5:¬4<(m.q.p.at o.b o.p).length+(m.q.p.at (1-o.b) (z8d o.b o.p m.rk)).length:=λe=>by rw[if_pos e]at c4;exact absurd c4 dd
 replace hQ:=hQ b5;replace d1:=d1 b5;refine rg (mv U (z0m U O z6k (nlc U (fad U z3s ?_))));replace hM:=a3.ext ((((q1.n6 q2 q3 a9 b0 a6 a7).n1 b1).n1 b7).z3 q19 b2 b8);refine y0g (cs':=u8p ka { m with q:=q' }) U U hM.k U (by intro u hu;simp at hu;rcases hu with rfl|rfl<;>rfl) x7z U (λj5 d6 f7 l2=>?_);replace hM:=hM.beds mtd (hQ.low oo) d6 f7 d1;have hk:=hM.k;have a3:=hM;have f3:=hM;have hF:Lw.Own z1j 54 wS.heap.size _ (slv m.fa) m.fl:=hM.f;clear d6;refine kpL [(6,_)] (.cons U .nil) (nl (tn (sr (mv U (asg U (nn (rt (r1 results88 U ?_))))))));exact⟨_,rfl,by rw[c4];exact MRet.ok (by rw[z9c,if_neg c9,if_neg (λh=>h a8),if_neg b6,if_neg b5];exact congrArg Except.ok (by have hj:y7z m.q.p o.b o.p (z8d o.b o.p m.rk)=y1a m.p o:=x6s (p:=m.p) e6.1;unfold MQ.p;simp only[e3 b5];rw[hj])) hM⟩;refine sk (tn (sr (mv U (asg U (nn (rt (r1 results88 U ?_)))))));replace hM:=a3.ext ((((q1.n6 q2 q3 a9 b0 a6 a7).n1 b1).n1 b7).z3 q19 b2 b8);exact⟨_,rfl,MRet.err (by rw[z9c,if_neg c9,if_neg (λh=>h a8),if_neg b6,if_pos (Classical.not_not.1 λe=>c4 (if_neg e))];rw[if_pos (Classical.not_not.1 λe=>c4 (if_neg e))]) c4 hM.fr⟩;refine z1f h v4k U λj6 O d0 hz a h=>?_;obtain⟨a2,hg⟩:∃g,g=e4.heap.size:=⟨_,rfl⟩;rw[<-hg]at O h hz;have e1.gk_10:ka.gk<a2:=by have:=hk.lt;omega
 have b4:g3<a2:=by have:=D.lt;omega
 have b4:g5<a2:=by have:=I.lt;omega
 have l3:=d0.size;replace hM:=hM.ext d0;replace hC:=hC.next d0;refine z0b (z0e 7 U (z0n h (z0a U (z0a U (z0a U z0g))) (mkC func140) (by have x:=v6z m.q o.b n n2 _ hM.b.at hv (by rw[<-d4];exact hn) (by rw[<-d3];exact a8) (by rw[<-d4];exact c9);rw[<-d4,<-d3]at x;exact x) ?_));rintro _ j7 ⟨⟨q',rfl,d5⟩,q24⟩ a h;have l4:=q24.size;replace hM:=hM.ext q24;replace hk:=hk.ext (d0.n1 q24);replace D:=D.ext (d0.n1 q24);replace I:=I.ext (d0.n1 q24);replace O:=O.ext q24;replace hC:=hC.next q24;have hQ:BdOIf (¬4<(m.q.p.at o.b o.p).length+(m.q.p.at (1-o.b) (z8d o.b o.p m.rk)).length) 42 54 _ _ q':=λhc=>(d5 hc).1;have e3:=λhc=>(d5 hc).2;have d1:=λhc=>x6w (hQ hc) a3.f oo;refine z0b (z0d 8 h U λa h=>z0p 9 h U λa h=>z0p 10 h U λa h=>z0e 12 U (z0v h U O U x7z ?_ (h1:=(by first|(simp[Value.oneCell',S];done)|exact z3l.one (m.ys.getD i yq0)))));clear h a;intro g7 a1 b9 hz a h;have l5:=b9.size;replace hk:=hk.fr b9;replace D:=D.fr b9;replace I:=I.fr b9;first|replace hQ:=BdOIf.ext hQ b9|replace hQ:=BdOIf.tf hQ b9 (OffT.one O dd) (OffT.one O dd)
 replace hC:=hC.sp b9;clear O hz;have O:Blk g7 a2 _ [_,_]:=a1;clear a1;refine z0b (z0e 13 U (z0s h U λa h=>?_));refine z0b (z0r ?_);clear hC a4 a0 Z a5;refine bk (h.sub (L':=[(0,_),(6,_),(10,_)]) (.c3 U U U)) (tn (sq (sr (mv U (eq' U (nn (cd U (λc4=>?_) (λc4=>?_))))))));have b5:¬4<(m.q.p.at o.b o.p).length+(m.q.p.at (1-o.b) (z8d o.b o.p m.rk)).length:=λe=>by rw[if_pos e]at c4;exact absurd c4 dd
 replace hQ:=hQ b5;replace d1:=d1 b5;refine rg (mv U (z0m U O z6k (nlc U (fad U z3s ?_))));replace hM:=a3.ext ((((q1.n6 q2 q3 a9 b0 a6 a7).n1 b1).n1 b7).z3 d0 q24 b9);refine y0g (cs':=u8p ka { m with q:=q' }) U U hM.k U (by intro u hu;simp at hu;rcases hu with rfl|rfl<;>rfl) x7z U (λj8 d6 f8 l6=>?_);replace hM:=hM.beds mtd (hQ.low oo) d6 f8 d1;have hk:=hM.k;have a3:=hM;have f3:=hM;have hF:Lw.Own z1j 54 wS.heap.size _ (slv m.fa) m.fl:=hM.f;clear d6;refine kpL [(6,_)] (.cons U .nil) (nl (tn (sr (mv U (asg U (nn (rt (r1 results88 U ?_))))))));exact⟨_,rfl,by rw[c4];exact MRet.ok (by rw[z9c,if_neg c9,if_neg (λh=>h a8),if_neg b6,if_neg b5];exact congrArg Except.ok (by have hj:y7z m.q.p o.b o.p (z8d o.b o.p m.rk)=y1a m.p o:=x6s (p:=m.p) e6.1;unfold MQ.p;simp only[e3 b5];rw[hj])) hM⟩;refine sk (tn (sr (mv U (asg U (nn (rt (r1 results88 U ?_)))))));replace hM:=a3.ext ((((q1.n6 q2 q3 a9 b0 a6 a7).n1 b1).n1 b7).z3 d0 q24 b9);exact⟨_,rfl,MRet.err (by rw[z9c,if_neg c9,if_neg (λh=>h a8),if_neg b6,if_pos (Classical.not_not.1 λe=>c4 (if_neg e))];rw[if_pos (Classical.not_not.1 λe=>c4 (if_neg e))]) c4 hM.fr⟩
end Go.Proofs.YtagnnbcnnmacmaaGreatDoor
namespace Go.G08
open Go.Lw Go.G21
theorem x1r {p:MSt}{y:Int}{q:Yn}(h:MInv p)(Z:1<=y/\y<=6)(O:y1z q)(I:q.ct=(p.y y).ct):MInv (p.setY y q):=by
 have hl:(y-1).toNat<p.ys.length:=by rw[h.ly];omega
 refine⟨h.rk,h.B,by show (p.ys.set _ q).length=6;rw[List.length_set];exact h.ly,h.lt,λk D=>?_,h.has,h.cnt,h.all,h.cv⟩;show y1z ((p.ys.set (y-1).toNat q).getD k yn0)/\((p.ys.set (y-1).toNat q).getD k yn0).ct=z3w p.tb k;rw[z1i hl];split;rename_i e;refine⟨O,I.trans ?_⟩;have:=(h.yn k D).2;rw[<-e]at this ⊢;exact this;exact h.yn k D
theorem u0h {st:List Pa}{p:Pa}(h:y8p st)(hp:y2i p):y8p (y1o st p):=by
 unfold y1o;split;intro i Z;rw[List.length_take]at Z;have e:∀k,k<st.length-1->(st.take (st.length-1)).getD k pa0=st.getD k pa0:=λk hk=>by
  rw[List.getD,List.getElem?_take,if_pos hk,List.getD]
 obtain⟨I,O⟩:=h i oo;refine⟨by rw[e i oo];exact I,λD=>?_⟩;rw[e i oo,e (i-1) oo];exact O D;rename_i hc;intro i Z;rw[List.length_append,List.length_singleton]at Z;have e:∀k,k<st.length->(st++[p]).getD k pa0=st.getD k pa0:=λk hk=>by
  rw[List.getD,List.getElem?_append_left hk,List.getD]
 by_cases hl:i<st.length;obtain⟨I,O⟩:=h i hl;refine⟨by rw[e i hl];exact I,λD=>?_⟩;rw[e i hl,e (i-1) oo];exact O D;obtain rfl:i=st.length:=by omega
 have ep:(st++[p]).getD st.length pa0=p:=by simp[List.getD]
 refine⟨by rw[ep];exact hp,λD=>?_⟩;rw[ep,e (st.length-1) oo];exact λhh=>hc ⟨D,hh⟩
theorem x4b:∀ {l st:List Pa},y8p st->j2q l->y8p (z5g st l)
 | [],_,h,_=>h
 | p::l,st,h,hv=>x4b (l:=l) (u0h h (hv p sp0)) (λq D=>hv q (List.mem_cons_of_mem _ D))
theorem j9d {y:Yn}{pl:Int}{l:List Pa}(h:goE y pl l=0):y1z (goS y pl l):=by
 unfold goE at h;split at h;exact absurd h (by assumption);rename_i I;have I:=v9o (Classical.not_not.1 I);split at h;omega;rename_i Z;split at h;omega;rename_i hv;split at h;omega;rename_i D;have D:y.inn=true:=by simpa using D
 split at h;omega;have O:=I.2;rw[if_pos D]at O;refine⟨I.1,?_⟩;show if y.inn=true then _ else _
 rw[if_pos D];exact⟨Classical.not_not.1 Z,by show (z5g y.pe l).length<=4096;omega,x4b O.2.2 (Classical.not_not.1 hv)⟩
theorem y5w (B:Bd){b n:Int}(h:z4g b n=0)(s:List LId):(B.put b n s).flat.length+(B.at b n).length=B.flat.length+s.length:=by
 have:=(List.perm_iff_count.2 (λi=>by rw[List.count_append,List.count_append];exact z4n B h s i):((B.put b n s).flat++B.at b n).Perm (B.flat++s)).length_eq;simpa using this
theorem u9d {B:Bd}(h:BdOk B){b n:Int}(hn:z4g b n=0):BdOk (B.put b n []):=h.put hn sp0 sp0 λi=>by
 have:=List.nodup_iff_count.1 h.nd i
 simp only[List.count_nil];omega
theorem u7i {p q:MSt}{o:MOp}(h:MInv p)(hn:z4g o.b o.p=0)(e:y6f p o=.ok q):MInv q:=by
 unfold y6f at e;split at e;cases e;cases e;refine⟨h.rk,u9d h.B hn,h.ly,h.lt,h.yn,λi I=>?_,?_,h.all,h.cv⟩;rcases y2n hn I with k|k
 cases k;exact h.has i k;have D:=y5w p.B hn [];have O:=h.cnt;show (p.B.put o.b o.p []).flat.length+(p.fa++p.B.at o.b o.p).length<=z4r p.tb;rw[List.length_append];simp only[List.length_nil]at D;omega
theorem y7l {p:MSt}{o:MOp}(h:o.b=0\/o.b=1)(i:LId):(y1a p o).count i=(p.B.at o.b o.p).count i+(p.B.at (1-o.b) (z8d o.b o.p p.rk)).count i:=by
 unfold y1a;rcases h with e|e
 rw[e,if_neg dd,List.count_append,show (1:Int)-0=1 from U];omega;rw[e,if_pos U,List.count_append,show (1:Int)-1=0 from U]
theorem u4f {p q:MSt}{o:MOp}(h:MInv p)(hn:z4g o.b o.p=0)(e:z9c p o=.ok q):MInv q:=by
 unfold z9c at e;split at e;cases e;split at e;cases e;rename_i D;have D:=Classical.not_not.1 D;split at e;cases e;split at e;cases e;rename_i h4;cases e;have hb:=(z3n hn).1;have hc:=y7l (p:=p) (o:=o) hb;have a0:(y1a p o).length=(p.B.at o.b o.p).length+(p.B.at (1-o.b) (z8d o.b o.p p.rk)).length:=by
  have:=(List.perm_iff_count.2 (λi=>by rw[List.count_append];exact hc i):(y1a p o).Perm (p.B.at o.b o.p++p.B.at (1-o.b) (z8d o.b o.p p.rk))).length_eq;simpa using this
 have I:∀i∈y1a p o,i∈p.B.flat:=λi hi=>by
  have O:=List.count_pos_iff.2 hi;rw[hc i]at O;by_cases k:0<(p.B.at o.b o.p).count i;exact z6z (List.count_pos_iff.1 k);exact z6z (List.count_pos_iff.1 (show 0<(p.B.at (1-o.b) (z8d o.b o.p p.rk)).count i by omega))
 have Z:(p.B.put o.b o.p []).at (1-o.b) (z8d o.b o.p p.rk)=p.B.at (1-o.b) (z8d o.b o.p p.rk):=by
  rw[z5r p.B hn D,if_neg oo]
 have a1:=u9d h.B hn;refine⟨h.rk,a1.put D oo (λi hi=>h.B.nm i (I i hi)) (λi=>?_),h.ly,h.lt,h.yn,λi hi=>?_,?_,h.all,h.cv⟩;have O:=z4n p.B hn [] i;have h2:=List.nodup_iff_count.1 h.B.nd i;rw[Z,hc i];simp only[List.count_nil]at O;omega;rcases y2n D hi with k|k
 exact h.has i (I i k);rcases y2n hn k with k|k
 cases k;exact h.has i k;have O:=y5w p.B hn [];have h2:=y5w (p.B.put o.b o.p []) D (y1a p o);have h3:=h.cnt;rw[Z,a0]at h2;simp only[List.length_nil]at O;show ((p.B.put o.b o.p []).put (1-o.b) (z8d o.b o.p p.rk) (y1a p o)).flat.length+p.fa.length<=z4r p.tb;omega
theorem v6b {p q:MSt}{o:MOp}{th st:List LId}(h:MInv p)(hy:1<=o.y/\o.y<=6)(hn:z4g o.b o.p=0)(hs:st=[]\/(st=p.B.at o.b o.p/\st.length<4))(e:x2r p o th st=.ok q):MInv q:=by
 unfold x2r at e;split at e;cases e;rename_i hm;split at e;cases e;rename_i hc;cases e;have hm:=Classical.not_not.1 hm;obtain⟨j,hj,a7⟩:∃j:Nat,j<6/\o.y=(j:Int)+1:=⟨(o.y-1).toNat,oo,oo⟩;have Z:(o.y-1).toNat=j:=by omega
 have O:=h.yn j hj;have a8:p.y o.y=p.ys.getD j yn0:=by unfold MSt.y;rw[Z]
 rw[<-a8]at O;have a6:j<p.ys.length:=by rw[h.ly];exact hj
 have I:j<p.tb.length:=by rw[h.lt];exact hj
 have a1:(p.y o.y).inn=true/\(p.y o.y).ct≠2048:=by
  unfold mkE at hm;split at hm;exact absurd hm (by assumption);split at hm;omega;rename_i D;split at hm;omega;rename_i hk;exact⟨by simpa using D,hk⟩
 have a9:=O.1.1;have a0:∀i∈p.B.flat,i≠⟨o.y,(p.y o.y).ct⟩:=λi D e=>by
  have:=h.has i D;rw[e]at this;obtain⟨_,_,_,h4⟩:=this;simp only at h4;rw[Z,O.2]at h4;omega
 have a2:∀i∈st,i∈p.B.flat:=λi D=>by
  rcases hs with e|⟨e,_⟩
  rw[e]at D;cases D;rw[e]at D;exact z6z D
 have a3:p.row o.y=p.tb.getD j []:=by unfold MSt.row;rw[Z]
 simp only[Z,a3];have a5:(st++[(⟨o.y,(p.y o.y).ct⟩:LId)]).length<=4:=by
  rw[List.length_append,List.length_singleton];rcases hs with e|⟨_,e⟩
  rw[e];simp;omega
 have a4:=y7n p.tb j (p.tb.getD j []++[(⟨o.b,(p.y o.y).nw,th,(p.y o.y).pe⟩:Lp)]) I;rw[List.length_append,List.length_singleton,show (p.tb.getD j []).length=z3w p.tb j from U]at a4;refine⟨h.rk,h.B.put hn a5 (λi D=>?_) (λi=>?_),by show (p.ys.set _ _).length=6;rw[List.length_set];exact h.ly,by show (p.tb.set _ _).length=6;rw[List.length_set];exact h.lt,λk hk=>?_,λi D=>?_,?_,?_,h.cv⟩;rcases List.mem_append.1 D with k|k
 exact h.B.nm i (a2 i k);rw[List.mem_singleton.1 k];unfold y3g;simp only;omega;have hd:=List.nodup_iff_count.1 h.B.nd i;rw[List.count_append,List.count_singleton];by_cases e:(⟨o.y,(p.y o.y).ct⟩:LId)=i;have h0:p.B.flat.count i=0:=List.count_eq_zero.2 λk=>a0 i k e.symm;have h1:st.count i=0:=List.count_eq_zero.2 λk=>a0 i (a2 i k) e.symm;rw[h0,h1];split<;>omega
 rw[if_neg (by simpa using e)];rcases hs with e|⟨e,_⟩
 rw[e];simp only[List.count_nil];omega;rw[e];omega;show y1z ((p.ys.set j (mkS (p.y o.y))).getD k yn0)/\((p.ys.set j (mkS (p.y o.y))).getD k yn0).ct=z3w (p.tb.set j _) k;rw[z1i a6,y0q I];by_cases e:j=k;rw[if_pos e,if_pos e];refine⟨⟨⟨by show 0<=(p.y o.y).ct+1;omega,by show (p.y o.y).ct+1<=2048;omega⟩,?_⟩,?_⟩;have h2:=O.1.2;rw[if_pos a1.1]at h2;show if true=true then _ else _
 rw[if_pos U];exact⟨h2.1,by show ([]:List Pa).length<=4096;simp,λi D=>by simp[mkS]at D⟩;show (p.y o.y).ct+1=_;rw[O.2,List.length_append,List.length_singleton];rfl;rw[if_neg e,if_neg e];exact h.yn k hk;rcases y2n hn D with k|k
 rcases List.mem_append.1 k with k|k
 exact x1i I (h.has i (a2 i k));rw[List.mem_singleton.1 k];have:=y0u (T:=p.tb.set j (p.tb.getD j []++[(⟨o.b,(p.y o.y).nw,th,(p.y o.y).pe⟩:Lp)])) (y:=j) (n:=z3w p.tb j) (by rw[List.length_set];exact I) (by rw[y0q I,if_pos U,List.length_append,List.length_singleton];exact Nat.lt_succ_self _);rwa [<-a7,<-O.2]at this;exact x1i I (h.has i k);have h1:=y5w p.B hn (st++[(⟨o.y,(p.y o.y).ct⟩:LId)]);have h2:=h.cnt;have h3:st.length<=(p.B.at o.b o.p).length:=by
  rcases hs with e|⟨e,_⟩
  rw[e];simp;rw[e];exact Nat.le_refl _
 rw[List.length_append,List.length_singleton]at h1;show (p.B.put o.b o.p _).flat.length+p.fa.length<=z4r (p.tb.set j _);omega;have:=h.all;show z4r (p.tb.set j _)<=2048;omega
theorem k0r {p q:MSt}{o:MOp}(h:MInv p)(hy:1<=o.y/\o.y<=6)(hd:z6v o.d)(e:inM p o=.ok q):MInv q:=by
 unfold inM at e;split at e;cases e;rename_i D;cases e;have D:=Classical.not_not.1 D;refine x1r h hy ?_ U;have I:y1z (p.y o.y):=by
  unfold enE at D;split at D;exact absurd D (by assumption);rename_i O;exact v9o (Classical.not_not.1 O)
 refine⟨I.1,?_⟩;show if true=true then _ else _
 rw[if_pos U];refine⟨?_,by show ([]:List Pa).length<=4096;simp,λi Z=>by simp[enS]at Z⟩;show x6z (if o.d=1 then 179 else -13);split<;>decide
theorem j1s {p q:MSt}{o:MOp}(h:MInv p)(Z:1<=o.y/\o.y<=6)(e:v3m p o=.ok q):MInv q:=by
 unfold v3m at e;split at e;cases e;rename_i D;cases e;have D:=Classical.not_not.1 D;refine x1r h Z ?_ U;have I:y1z (p.y o.y):=by
  unfold lvE at D;split at D;exact absurd D (by assumption);rename_i O;exact v9o (Classical.not_not.1 O)
 refine⟨I.1,?_⟩;show if false=true then _ else _
 rw[if_neg dd];exact⟨rfl,rfl,rfl⟩
theorem y1x {p q:MSt}{y pl en:Int}(h:MInv p)(I:1<=y/\y<=6)(e:y5y p y pl en=.ok q):MInv q/\q.B=p.B/\q.rk=p.rk:=by
 unfold y5y at e;split at e;cases e;rename_i D;cases e;exact⟨x1r h I (j9d (Classical.not_not.1 D)) U,rfl,rfl⟩
theorem u4k {p q:MSt}{o:MOp}(h:MInv p)(D:1<=o.y/\o.y<=6)(e:y6i p o=.ok q):MInv q:=by
 unfold y6i at e;split at e;cases e;exact(y1x h D e).1
theorem u3z {p q:MSt}{o:MOp}(h:MInv p)(D:1<=o.y/\o.y<=6)(hn:z4g o.b o.p=0)(e:y4c p o=.ok q):MInv q:=by
 unfold y4c at e;split at e;cases e;split at e;cases e;rename_i r I;exact v6b (y1x h D I).1 D hn (.inl U) e
theorem u3h {p q:MSt}{o:MOp}(h:MInv p)(D:1<=o.y/\o.y<=6)(hn:z4g o.b o.p=0)(e:y2s p o=.ok q):MInv q:=by
 unfold y2s at e;split at e;cases e;split at e;cases e;rename_i r I;split at e;cases e;exact v6b (y1x h D I).1 D hn (.inr ⟨rfl,oo⟩) e
theorem u7n {p:MSt}{d:Int}{y D:Yn}(e:z9o p d y=.ok D):(y1z y->y1z D)/\D.ct=y.ct:=by
 unfold z9o at e;split at e;cases e;exact⟨id,rfl⟩;split at e;cases e;rename_i I;cases e;exact⟨λ_=>j9d (Classical.not_not.1 I),rfl⟩
theorem x6a {p:MSt}{d:Int}:∀ {l l':List Yn},z6u p d l=.ok l'->l'.length=l.length/\∀k,(y1z (l.getD k yn0)->y1z (l'.getD k yn0))/\(l'.getD k yn0).ct=(l.getD k yn0).ct
 | [],l',e=>by cases e;exact⟨rfl,λk=>⟨id,rfl⟩⟩
 | y::l,l',e=>by
  unfold z6u at e
  split at e
  ·cases e
  rename_i y' O
  split at e
  ·cases e
  rename_i Z hl
  cases e
  obtain⟨D,I⟩:=x6a hl
  refine⟨by simp[D],λk=>?_⟩
  cases k with
  | zero=>exact u7n O
  | succ k=>simpa only[List.getD_cons_succ] using I k
def k2g (l:List Cx):Prop:=∀c∈l,-1048576<=c.n/\c.n<=1048576
theorem j3r {l l':List Cx}{c:Cx}(h:k2g l)(e:y8o l c=.ok l'):k2g l':=by
 unfold y8o at e;dsimp only at e;generalize (if 0<z5m c.a c.b then (c.b,c.a) else (c.a,c.b))=kk at e;split at e;cases e;rename_i O;split at e;cases e;intro x D;exact h x (List.mem_filter.1 D).1;cases e;intro x D;unfold y9q at D;split at D;obtain⟨z,I,rfl⟩:=List.mem_map.1 D;split;simp only;omega;exact h z I;rcases List.mem_append.1 D with k|k
 exact h x k;rw[List.mem_singleton.1 k];simp only;omega
theorem x0x:∀ {r l l':List Cx},k2g l->z4s l r=.ok l'->k2g l'
 | [],l,l',h,e=>by cases e;exact h
 | c::r,l,l',h,e=>by
  unfold z4s at e
  split at e
  ·cases e
  rename_i I D
  exact x0x (j3r h D) e
theorem x0s {p q:MSt}{d:Int}(h:MInv p)(hd:-4<=p.rk+stI d/\p.rk+stI d<=4)(e:z9l p d=.ok q):MInv q/\q.rk=p.rk+stI d:=by
 unfold z9l at e;split at e;cases e;rename_i ys I;split at e;cases e;rename_i cr D;cases e;obtain⟨h1,O⟩:=x6a I;exact⟨⟨hd,h.B,h1.trans h.ly,h.lt,λk Z=>⟨(O k).1 (h.yn k Z).1,(O k).2.trans (h.yn k Z).2⟩,h.has,h.cnt,h.all,x0x h.cv D⟩,rfl⟩
theorem v1d {r:Int}(O:-4<=r/\r<=4):∀ {n:Nat} {p q:MSt},MInv p->z6m n p r=.ok q->MInv q
 | 0,p,q,h,e=>by cases e;exact h
 | n+1,p,q,h,e=>by
  unfold z6m at e
  split at e
  ·cases e;exact h
  rename_i I
  split at e
  ·cases e
  rename_i p2 D
  have Z:=h.rk
  refine v1d O (x0s h ?_ D).1 e
  unfold stI
  split<;>split<;>omega
theorem y1b {p q:MSt}{o:MOp}(h:MInv p)(e:doM p o=.ok q):MInv q:=by
 unfold doM at e;split at e;cases e;rename_i hc;obtain⟨_,O,D,h3,I,Z⟩:=z7b (Classical.not_not.1 hc);unfold opM at e;split at e;exact k0r h (D oo) (O oo) e;split at e;exact j1s h (D oo) e;split at e;exact v1d (Z oo) h e;split at e;exact u3z h (D oo) (I oo) e;split at e;exact u3h h (D oo) (I oo) e;split at e;exact u4k h (D oo) e;split at e;exact u4f h (I oo) e;exact u7i h (I oo) e
end Go.G08
namespace Go.G08
open Go.Lw Go.G21
section
variable {τ:TyK} {Mt:Nat} {wS w w' w2:World} {a:MA} {m:MQ} {j:Nat} {u:SV} {q:LpQ}
theorem MkM.row (h:MkM τ Mt wS a w m)(D:MtOk τ Mt)(hj:j<6)(hq:LpO τ wS.heap.size w q)(a1:∀k∈z0u (slv q.th),k∉z0u (slv m.fa))
    (h1:Lw.Own z7k τ.L wS.heap.size w' (slv u) ((m.ts.getD j tq0).2++[q])) (f1:Fr (z0u (slv (m.ts.getD j tq0).1)) w w') (hx:slv u=slv (m.ts.getD j tq0).1\/z0u (slv u)=z0u (slv (m.ts.getD j tq0).1)\/z0u (slv u)=[w.heap.size])
    (h2:Lw.Own z4z τ.T wS.heap.size w2 a.TV (m.ts.set j (u,(m.ts.getD j tq0).2++[q]))) (f2:Fr [a.gt] w' w2):MkM τ Mt wS a w2 { m with ts:=m.ts.set j (u,(m.ts.getD j tq0).2++[q]) }:=by
  have hl:j<m.ts.length:=by rw[h.lt];exact hj
  have I:∀T,T≠τ.L->OffT w T (z0u (slv (m.ts.getD j tq0).1)):=λT hT=>z7f (h.t.ins j hl) (Ne.symm hT)
  have O:=z2b h.t.out f1 (I _ D.o.tl)
  have Z:∀T,T≠τ.T->OffT w' T [a.gt]:=λT hT=>z7f O (Ne.symm hT)
  refine⟨x0m (x0m h.k f1 (I _ D.l)) f2 (Z _ D.t),BdO.tf (BdO.tf h.b f1 (I _ (Ne.symm D.o.ls)) (I _ (Ne.symm D.o.li))) f2 (Z _ (Ne.symm D.o.ts)) (Z _ (Ne.symm D.o.ti)),
    (h.y.tf f1 (I _ D.o.yl) (I _ (Ne.symm D.o.lp))).tf f2 (Z _ D.o.yt) (Z _ (Ne.symm D.o.tp)),h.t.put D.o hl hq h1 f1 hx h2 f2,(h.c.tf f1 (I _ D.l)).tf f2 (Z _ D.t),z2b (z2b h.f f1 (I _ (Ne.symm D.o.li))) f2 (Z _ (Ne.symm D.o.ti)),h.fb,λi hi p hp=>?_,h.ly,by rw[List.length_set];exact h.lt,h.gk,h.gc,(h.fr.step f1 (y9u (h.t.ins j hl) (by simp[u2o])) λk hk a0=>?_).step f2 (y9u O (by simp[u2o])) λk hk a0=>?_⟩
  · simp only at hp
    rw[z1i hl]at hp
    split at hp
    · rcases List.mem_append.1 hp with k|k
      · exact h.ft j hj p k
      · rw[List.mem_singleton.1 k];exact a1
    · exact h.ft i hi p hp
  · have:=((h.t.ins j hl).blk k hk).1;omega
  · have:=(h.t.out.blk k hk).1;omega
theorem j0a {p:MSt}{o:MOp}{st:List LId}(h:MInv p)(hy:1<=o.y/\o.y<=6)(hs:st=[]\/(st=p.B.at o.b o.p/\st.length<4))(hm:mkE (p.y o.y)=0) :
    (st++[(⟨o.y,(p.y o.y).ct⟩:LId)]).length<=4/\(∀i∈st++[(⟨o.y,(p.y o.y).ct⟩:LId)],y3g i)/\∀i,p.B.flat.count i+(st++[(⟨o.y,(p.y o.y).ct⟩:LId)]).count i<=(p.B.at o.b o.p).count i+1:=by
  obtain⟨j,hj,a4⟩:∃j:Nat,j<6/\o.y=(j:Int)+1:=⟨(o.y-1).toNat,oo,oo⟩
  have Z:(o.y-1).toNat=j:=by omega
  have O:=h.yn j hj
  have a2:p.y o.y=p.ys.getD j yn0:=by unfold MSt.y;rw[Z]
  rw[<-a2]at O
  have a1:(p.y o.y).inn=true/\(p.y o.y).ct≠2048:=by
    unfold mkE at hm
    split at hm
    · exact absurd hm (by assumption)
    · split at hm
      · omega
      · rename_i D
        split at hm
        · omega
        · rename_i hk;exact⟨by simpa using D,hk⟩
  have a3:=O.1.1
  have I:∀i∈p.B.flat,i≠⟨o.y,(p.y o.y).ct⟩:=λi D e=>by
    have:=h.has i D
    rw[e]at this
    obtain⟨_,_,_,h4⟩:=this
    simp only at h4
    rw[Z,O.2]at h4
    omega
  have a0:∀i∈st,i∈p.B.flat:=λi D=>by
    rcases hs with e|⟨e,_⟩
    · rw[e]at D;cases D
    · rw[e]at D;exact z6z D
  refine⟨?_,λi D=>?_,λi=>?_⟩
  · rw[List.length_append,List.length_singleton]
    rcases hs with e|⟨_,e⟩
    · rw[e];simp
    · omega
  · rcases List.mem_append.1 D with k|k
    · exact h.B.nm i (a0 i k)
    · rw[List.mem_singleton.1 k];unfold y3g;simp only;omega
  · have hd:=List.nodup_iff_count.1 h.B.nd i
    rw[List.count_append,List.count_singleton]
    by_cases e:(⟨o.y,(p.y o.y).ct⟩:LId)=i
    · have h0:p.B.flat.count i=0:=List.count_eq_zero.2 λk=>I i k e.symm
      have h1:st.count i=0:=List.count_eq_zero.2 λk=>I i (a0 i k) e.symm
      rw[h0,h1];split<;>omega
    · rw[if_neg (by simpa using e)]
      rcases hs with e|⟨e,_⟩
      · rw[e];simp only[List.count_nil];omega
      · rw[e];omega
end
end Go.G08
namespace Go.Lw
theorem y5z {ι:Type}{pq:Option Nat}{P:Program}{ops:Array Oper}{K:Act->World->Prop}{C:World->Prop}{fu:Nat}{listed:Array Bool}{a:Act}{w:World}{ds:List Nat}{n:Nat}{L:List (Nat×Value)}(h:AgM ds a n L)(Z:List (Nat×Value))(_hs:Sub Z L)(D:Array Bool)(O:Nat)(M:ι->List (Nat×Value))(R:ι->World->Prop)
    (main:(∀(i:ι) l2 I w',l2=D->AgM ds I n (Z++M i)->R i w'->z0w pq P ops (z0l K) C O l2 I w')->z0w pq P ops (z0l K) C fu listed a w)
    (tail:∀i I w',R i w'->AgM ds I n (Z++M i)->z0w pq P ops (z0l K) C O D I w'):z0w pq P ops (z0l K) C fu listed a w:=
  main λi l2 I w' e ha hr=>by subst e;exact tail i I w' hr ha
end Go.Lw
namespace Go.Proofs.YtagnnbcnnmacmaaGreatDoor
open Go.Lw Go.G21 Go.G08 _root_.Go.Proofs.Tryz
theorem k5o:BuildAt prog 111 [(0,1),(1,1),(2,1),(3,1)] [(.int .u8 0),(.bool false),(.slice none 0 0),(.slice none 0 0)]:=BuildAt.struct underlying111 (λ_=>kr0) (λ_=>kr0)
theorem x6v:CallOf prog 81:=mkC func81
theorem u1m:CallOf prog 177:=mkC func177
theorem y4l:z0y prog 156 3 4:=λ_ _=>kr0
theorem j4a:z0y prog 263 0 0:=λ_ _=>kr0
theorem j2v:z0y prog 263 1 1:=λ_ _=>kr0
theorem j2l:z0y prog 263 2 2:=λ_ _=>kr0
theorem j5k:z1r prog 116 1:=λ_=>kr0
theorem z4m (v:Value)(l:List LId)(w0:World)(I:Sl z1j w0 v l)(hl:l.length<=100000):Rets prog 81 #[v] w0 λr w'=>∃g,r=.slice (some ⟨g,0,none⟩) l.length l.length/\w0.heap.size<=g/\Lw.Own z1j 54 w0.heap.size w' r l/\Fr [] w0 w':=by
 obtain⟨A,c,rfl,a0,hM,hA⟩:=id I;clear hA;unfold maxLen at hM;refine we [(0,.slice A l.length c)] func81 U ntmps81 U (.cons U .nil) ?_;have O:=I;refine sr (asg U (nn (sr (mv U (lnS U underlying42 (z1g (m:=l.length) (c:=l.length) (id0) U z6q y6l U (λg6 w1 a1 D Z z1=>(asg U (nn (sr (mv U (mv U ?_))))))))))));replace I:=O.ext Z;refine z9h (zs:=List.replicate l.length id0) (by rw[List.length_replicate];rfl) U (by rw[List.length_replicate];exact D) I (by rw[List.length_replicate]) z6q (λw2 D q2 z2=>?_);rw[List.length_replicate]at D;exact nn (sr (mv U (asg U (nn (rt (r1 results81 U ⟨_,rfl,g6,rfl,oo,D.low oo,(Z.z1 q2)⟩))))))
theorem u8m (ts:List TQ)(j:Nat):(ts.getD j tq0).2.length<=z4r (z2o ts):=by
 by_cases h:j<ts.length;have k:=y7n (z2o ts) j [] (by rw[List.length_map];exact h);have e:z3w (z2o ts) j=(ts.getD j tq0).2.length:=by
  unfold z3w;rw[List.getD,List.getD,List.getElem?_map,List.getElem?_eq_getElem h];exact List.length_map ..
 rw[List.length_nil,e]at k;omega;rw[List.getD,List.getElem?_eq_none oo];exact Nat.zero_le _
theorem j6w {o:MOp}{ths st:List LId}{th sn u:SV}{q':BdQ}(m:MQ)(j:Nat)(D:(o.y-1).toNat=j)(I:q'.p=m.q.p.put o.b o.p (st++[(⟨o.y,(m.ys.getD j yq0).ct⟩:LId)])) :
    { m with q:=q',ys:=m.ys.set j ⟨true,(m.ys.getD j yq0).pl,(m.ys.getD j yq0).ct+1,false,sv0,[]⟩,ts:=m.ts.set j (u,(m.ts.getD j tq0).2++[(⟨o.b,(m.ys.getD j yq0).nw,th,sn,ths,(m.ys.getD j yq0).pes⟩:LpQ)]) }.p =
      { m.p with B:=m.p.B.put o.b o.p (st++[(⟨o.y,(m.ys.getD j yq0).p.ct⟩:LId)]),ys:=m.p.ys.set (o.y-1).toNat (mkS (m.ys.getD j yq0).p),tb:=m.p.tb.set (o.y-1).toNat (m.p.row o.y++[(⟨o.b,(m.ys.getD j yq0).p.nw,ths,(m.ys.getD j yq0).p.pe⟩:Lp)]) }:=by
  unfold MSt.row
  rw[D]
  have O:(z2o m.ts).getD j []=(m.ts.getD j tq0).2.map LpQ.p:=by
    rw[List.getD,List.getD,List.getElem?_map]
    cases m.ts[j]?<;>rfl
  simp only[MQ.p,I,List.map_set,O,List.map_append,List.map_cons,List.map_nil,mkS]
theorem v9y (wS:World)(ka:MA)(m:MQ)(o:MOp)(th:SV)(j9:List LId)(s6:Value)(st:List LId)(w0:World)(hM:MkM τd 156 wS ka w0 m)(hi:MInv m.p)(hy:1<=o.y/\o.y<=6)(hn:z4g o.b o.p=0)(g4:Lw.Own z1j 54 wS.heap.size w0 (slv th) j9)(s2:∀k∈z0u (slv th),k∉z0u (slv m.fa))(b6:Sl z1j w0 s6 st)(hs:st=[]\/(st=m.q.p.at o.b o.p/\st.length<4)):Rets prog 137 #[.pointer (some ⟨ka.gk,0,none⟩),opV o,.slice th.1 th.2.1 th.2.2,s6] w0 λr w'=>MRet τd 156 wS ka (x2r m.p o j9 st) r w':=by
 have A3:=hM.fr.size;have O:=hM.k;have y8:=O.lt;have y9:=hM.ly;have o7:=hM.lt;have y3:=(hM.y.out.blk ka.gy (by simp[z0u])).2;obtain⟨j,hj,A0⟩:∃j:Nat,j<6/\o.y=(j:Int)+1:=⟨(o.y-1).toNat,oo,oo⟩;have r5:(o.y-1).toNat=j:=by omega
 have l4:m.p.y o.y=(m.ys.getD j yq0).p:=by rw[j6p,r5]
 obtain⟨AS,cS,rfl,y6⟩:=b6.form;have z0:=z3n hn;obtain⟨n,i0⟩:∃n:Nat,o.p=(n:Int):=⟨o.p.toNat,oo⟩;have hv:BdOk m.q.p:=hi.B;have A2:st.length<=3:=by rcases hs with e|⟨_,e⟩;rw[e];simp;omega
 have y0:z4r (z2o m.ts)<=2048:=hi.all;have y4:=hM.gk;have r9:∀k∈z0u (slv (m.ts.getD j tq0).1),k<w0.heap.size:=λk O=>((hM.t.ins j (by rw[o7];exact hj)).blk k O).2;have k2:ka.gk∉z0u (slv th):=λhb=>g4.neB hM.k dd hb;have k4:ka.gy∉z0u (slv th):=λhb=>Own.neO hM.y.out g4 dd ka.gy (by simp[z0u]) hb;have k5:∀k∈z0u (slv th),k<w0.heap.size:=λk O=>(g4.blk k O).2;refine we [(0,.pointer (some ⟨ka.gk,0,none⟩)),(1,opV o),(2,.slice th.1 th.2.1 th.2.2),(3,.slice AS st.length cS)] func137 U ntmps137 U (.c4 U U U U) ?_;have h7:=hM;have s1:=b6;refine sr (bx U (λg5 w1 y7 I q1 z1=>(asg U (nn (jn (ι:=Nat×Nat) [(0,_),(2,_),(3,_),(5,_)] (λp=>[(9,.pointer (some ⟨p.1,0,none⟩)),(10,.pointer (some ⟨p.2,0,none⟩)),(11,.int .i64 (mkE (m.ys.getD j yq0).p))]) (λp w'=>Fr [] w1 w'/\∃(qn:YQ) (e2:Int) (e3:Bool) (sn:SV) (d0:List Pa),(w1.heap.size<=p.1/\w1.heap.size<=p.2/\((mkE (m.ys.getD j yq0).p)=0->qn=(⟨true,(m.ys.getD j yq0).pl,(m.ys.getD j yq0).ct+1,false,sv0,[]⟩:YQ)/\e2=(m.ys.getD j yq0).ct/\e3=(m.ys.getD j yq0).nw/\d0=(m.ys.getD j yq0).pes))/\Blk w' p.1 146 (z3l.enc qn)/\Blk w' p.2 263 [.int .i64 e2,.bool e3,.slice sn.1 sn.2.1 sn.2.2]/\OwnIf ((mkE (m.ys.getD j yq0).p)=0) z2f 114 (max wS.heap.size w1.heap.size) w' (slv sn) d0) (.c4 U U U U) ?_ ?_)))));replace hM:=h7.ext q1;intro a h;refine z0h none (λwb w'=>Fr [] wb w') z2y ?_;intro w2 q2;have z2:=q2.size;replace hM:=hM.ext q2;replace O:=O.ext (q1.n1 q2);replace I:=I.ext q2;have hC:Fr [] w2 w2:=Fr.refl _ _;have d1:=hM;have b9:=O;have b3:=I;refine y5z (ι:=(Nat×Nat)×YQ×(Int×Bool)×SV×List Pa) h [(0,_),(2,_),(3,_),(5,_)] (.c4 U U U U) #[true,true,true,true,true,true,true,true,true,true,true,true,true,true,true,true,false,false,false] 3 (λp=>[(9,.pointer (some ⟨p.1.1,0,none⟩)),(10,.pointer (some ⟨p.1.2,0,none⟩)),(26,.agg #[.bool p.2.1.inn,.int .i64 p.2.1.pl,.int .i64 p.2.1.ct,.bool p.2.1.nw,.slice p.2.1.pe.1 p.2.1.pe.2.1 p.2.1.pe.2.2]),(27,.agg #[.int .i64 p.2.2.1.1,.bool p.2.2.1.2,.slice p.2.2.2.1.1 p.2.2.2.1.2.1 p.2.2.2.1.2.2]),(28,.int .i64 (mkE (m.ys.getD j yq0).p))]) (λp w'=>Fr [] w2 w'/\(w2.heap.size<=p.1.1/\w2.heap.size<=p.1.2/\p.1.1≠p.1.2)/\((mkE (m.ys.getD j yq0).p)=0->p.2.1=(⟨true,(m.ys.getD j yq0).pl,(m.ys.getD j yq0).ct+1,false,sv0,[]⟩:YQ)/\p.2.2.1.1=(m.ys.getD j yq0).ct/\p.2.2.1.2=(m.ys.getD j yq0).nw/\p.2.2.2.2=(m.ys.getD j yq0).pes/\p.1.1∉z0u (slv p.2.2.2.1)/\p.1.2∉z0u (slv p.2.2.2.1))/\Blk w' p.1.1 146 [.bool false,.int .i64 0,.int .i64 0,.bool false,.slice none 0 0]/\Blk w' p.1.2 263 [.int .i64 0,.bool false,.slice none 0 0]/\OwnIf ((mkE (m.ys.getD j yq0).p)=0) z2f 114 (max wS.heap.size w2.heap.size) w' (slv p.2.2.2.1) p.2.2.2.2) (λf1=>?_) ?_;refine z0d 0 h U λa h=>z0o 1 h U λa h=>z0c 2 h U z3r U λa h=>z0j 3 h U (λ_ hw=>b9.ext hw) U y6b U λa h=>z0c 4 h U z5f U λa h=>z0j 5 h U (λ_ hw=>b3.ext hw) U na5 U λa h=>z3e 6 h U (by first|exact IntWalk.u8_in _ oo|rfl) U λa h=>z1e (p:=j) (yq0) 7 h U hM.y.out.sl U y5h U λx8 p9 a h=>z2l (cs:=z3l.enc (m.ys.getD j yq0)) 8 h wn U (λ_ hw=>p9 _ (d1.ext hw).y.out.sl) z3k U λa h=>v2k 9 14 15 kr0 U U U ?_ ?_ ?_;refine z0n h (z0a U z0g) u1m (y3i (m.ys.getD j yq0) _ (hM.y.ins j oo).sl (λk O=>((hM.y.ins j oo).blk k O).2)) ?_;rintro _ w3 ⟨qn,e2,e3,sn,d0,rfl,a7,q3⟩ a h;have z3:=q3.size;replace hM:=hM.ext q3;replace O:=O.ext q3;replace I:=I.ext q3;replace hC:=hC.next q3;have Z:OwnIf ((mkE (m.ys.getD j yq0).p)=0) z2f 114 _ _ (slv sn) d0:=λhc=>(a7 hc).2.2.2.2;have e1:=λhc k O=>((Z hc).blk k O).2;refine z0b (z0d 10 h U λa h=>z0p 11 h U λa h=>z0p 12 h U λa h=>z0p 13 h U λa h=>z2n 14 15 kr0 U ?_ ?_);refine z1f h z6j U λw4 a0 q4 hz a h=>?_;obtain⟨b2,hg⟩:∃g,g=w3.heap.size:=⟨_,rfl⟩;rw[<-hg]at a0 h hz;have c9.gk_9:ka.gk<b2:=by have:=O.lt;omega
 have h9:g5<b2:=by have:=I.lt;omega
 have z4:=q4.size;replace O:=O.ext q4;replace I:=I.ext q4;replace hC:=hC.next q4;refine z0b (z0e 15 U (z1f h x4i U λw5 D q5 hz a h=>?_));obtain⟨a8,hg⟩:∃g,g=w4.heap.size:=⟨_,rfl⟩;rw[<-hg]at D h hz;have c9.gk_10:ka.gk<a8:=by have:=O.lt;omega
 have f8:g5<a8:=by have:=I.lt;omega
 have i9:b2<a8:=by have:=a0.lt;omega
 have z5:=q5.size;replace Z:=Z.ext (q4.n1 q5);replace a0:=a0.ext q5;replace hC:=hC.next q5;exact z0b (f1 ((b2,a8),qn,(e2,e3),sn,d0) _ _ _ kr0 (h.sub (.d8 U U U U U U U U (.cons U .nil))) ⟨hC,⟨sm,sm,sm⟩,(λe=>⟨(a7 e).1,(a7 e).2.1,(a7 e).2.2.1,(a7 e).2.2.2.1,(λa4=>by have b8:=e1 e _ a4;have b1:=(Z e).blk _ a4;simp only at b8 b1;omega),(λa4=>by have b8:=e1 e _ a4;have b1:=(Z e).blk _ a4;simp only at b8 b1;omega)⟩),a0,D,(λe=>(Z e).low oo)⟩);refine z1f h x4i U λw6 D q6 hz a h=>?_;obtain⟨a8,hg⟩:∃g,g=w3.heap.size:=⟨_,rfl⟩;rw[<-hg]at D h hz;have c9.gk_10:ka.gk<a8:=by have:=O.lt;omega
 have f8:g5<a8:=by have:=I.lt;omega
 have z6:=q6.size;replace O:=O.ext q6;replace I:=I.ext q6;replace hC:=hC.next q6;refine z0b (z0e 14 U (z1f h z6j U λw7 a0 q7 hz a h=>?_));obtain⟨b2,hg⟩:∃g,g=w6.heap.size:=⟨_,rfl⟩;rw[<-hg]at a0 h hz;have c9.gk_9:ka.gk<b2:=by have:=O.lt;omega
 have h9:g5<b2:=by have:=I.lt;omega
 have i8:a8<b2:=by have:=D.lt;omega
 have z7:=q7.size;replace Z:=Z.ext (q6.n1 q7);replace D:=D.ext q7;replace hC:=hC.next q7;exact z0b (f1 ((b2,a8),qn,(e2,e3),sn,d0) _ _ _ kr0 (h.sub (.d8 U U U U U U U U (.cons U .nil))) ⟨hC,⟨sm,sm,sm⟩,(λe=>⟨(a7 e).1,(a7 e).2.1,(a7 e).2.2.1,(a7 e).2.2.2.1,(λa4=>by have b8:=e1 e _ a4;have b1:=(Z e).blk _ a4;simp only at b8 b1;omega),(λa4=>by have b8:=e1 e _ a4;have b1:=(Z e).blk _ a4;simp only at b8 b1;omega)⟩),a0,D,(λe=>(Z e).low oo)⟩);refine z1f h z6j U λw8 a0 q8 hz a h=>?_;obtain⟨b2,hg⟩:∃g,g=w2.heap.size:=⟨_,rfl⟩;rw[<-hg]at a0 h hz;have c9.gk_9:ka.gk<b2:=by have:=O.lt;omega
 have h9:g5<b2:=by have:=I.lt;omega
 have z8:=q8.size;replace hM:=hM.ext q8;replace O:=O.ext q8;replace I:=I.ext q8;replace hC:=hC.next q8;refine z0b (z2n 9 15 kr0 U ?_ ?_);refine z0n h (z0a U z0g) u1m (y3i (m.ys.getD j yq0) _ (hM.y.ins j oo).sl (λk O=>((hM.y.ins j oo).blk k O).2)) ?_;rintro _ w9 ⟨qn,e2,e3,sn,d0,rfl,a7,q9⟩ a h;have z9:=q9.size;replace O:=O.ext q9;replace I:=I.ext q9;replace a0:=a0.ext q9;replace hC:=hC.next q9;have Z:OwnIf ((mkE (m.ys.getD j yq0).p)=0) z2f 114 _ _ (slv sn) d0:=λhc=>(a7 hc).2.2.2.2;have e1:=λhc k O=>((Z hc).blk k O).2;refine z0b (z0d 10 h U λa h=>z0p 11 h U λa h=>z0p 12 h U λa h=>z0p 13 h U λa h=>z0e 15 U (z1f h x4i U λA6 D n7 hz a h=>?_));obtain⟨a8,hg⟩:∃g,g=w9.heap.size:=⟨_,rfl⟩;rw[<-hg]at D h hz;have c9.gk_10:ka.gk<a8:=by have:=O.lt;omega
 have f8:g5<a8:=by have:=I.lt;omega
 have i9:b2<a8:=by have:=a0.lt;omega
 have E0:=n7.size;replace a0:=a0.ext n7;replace Z:=Z.ext n7;replace hC:=hC.next n7;exact z0b (f1 ((b2,a8),qn,(e2,e3),sn,d0) _ _ _ kr0 (h.sub (.d8 U U U U U U U U (.cons U .nil))) ⟨hC,⟨sm,sm,sm⟩,(λe=>⟨(a7 e).1,(a7 e).2.1,(a7 e).2.2.1,(a7 e).2.2.2.1,(λa4=>by have b8:=e1 e _ a4;have b1:=(Z e).blk _ a4;simp only at b8 b1;omega),(λa4=>by have b8:=e1 e _ a4;have b1:=(Z e).blk _ a4;simp only at b8 b1;omega)⟩),a0,D,(λe=>(Z e).low oo)⟩);refine z1f h x4i U λA7 D l8 hz a h=>?_;obtain⟨a8,hg⟩:∃g,g=w8.heap.size:=⟨_,rfl⟩;rw[<-hg]at D h hz;have c9.gk_10:ka.gk<a8:=by have:=O.lt;omega
 have f8:g5<a8:=by have:=I.lt;omega
 have i9:b2<a8:=by have:=a0.lt;omega
 have E1:=l8.size;replace hM:=hM.ext l8;replace O:=O.ext l8;replace hC:=hC.next l8;refine z0b (z0e 9 U (z0n h (z0a U z0g) u1m (y3i (m.ys.getD j yq0) _ (hM.y.ins j oo).sl (λk O=>((hM.y.ins j oo).blk k O).2)) ?_));rintro _ A8 ⟨qn,e2,e3,sn,d0,rfl,a7,l9⟩ a h;have E2:=l9.size;replace O:=O.ext l9;replace a0:=a0.ext (l8.n1 l9);replace D:=D.ext l9;replace hC:=hC.next l9;have Z:OwnIf ((mkE (m.ys.getD j yq0).p)=0) z2f 114 _ _ (slv sn) d0:=λhc=>(a7 hc).2.2.2.2;have e1:=λhc k O=>((Z hc).blk k O).2;refine z0b (z0d 10 h U λa h=>z0p 11 h U λa h=>z0p 12 h U λa h=>z0p 13 h U λa h=>?_);exact f1 ((b2,a8),qn,(e2,e3),sn,d0) _ _ _ kr0 (h.sub (.d8 U U U U U U U U (.cons U .nil))) ⟨hC,⟨sm,sm,sm⟩,(λe=>⟨(a7 e).1,(a7 e).2.1,(a7 e).2.2.1,(a7 e).2.2.2.1,(λa4=>by have b8:=e1 e _ a4;have b1:=(Z e).blk _ a4;simp only at b8 b1;omega),(λa4=>by have b8:=e1 e _ a4;have b1:=(Z e).blk _ a4;simp only at b8 b1;omega)⟩),a0,D,(λe=>(Z e).low oo)⟩;refine z1f h x4i U λu9 D m0 hz a h=>?_;obtain⟨a8,hg⟩:∃g,g=w2.heap.size:=⟨_,rfl⟩;rw[<-hg]at D h hz;have c9.gk_10:ka.gk<a8:=by have:=O.lt;omega
 have f8:g5<a8:=by have:=I.lt;omega
 have E3:=m0.size;replace hM:=hM.ext m0;replace O:=O.ext m0;replace I:=I.ext m0;replace hC:=hC.next m0;refine z0b (z2n 9 14 kr0 U ?_ ?_);refine z0n h (z0a U z0g) u1m (y3i (m.ys.getD j yq0) _ (hM.y.ins j oo).sl (λk O=>((hM.y.ins j oo).blk k O).2)) ?_;rintro _ v8 ⟨qn,e2,e3,sn,d0,rfl,a7,m1⟩ a h;have E4:=m1.size;replace O:=O.ext m1;replace I:=I.ext m1;replace D:=D.ext m1;replace hC:=hC.next m1;have Z:OwnIf ((mkE (m.ys.getD j yq0).p)=0) z2f 114 _ _ (slv sn) d0:=λhc=>(a7 hc).2.2.2.2;have e1:=λhc k O=>((Z hc).blk k O).2;refine z0b (z0d 10 h U λa h=>z0p 11 h U λa h=>z0p 12 h U λa h=>z0p 13 h U λa h=>z0e 14 U (z1f h z6j U λA9 a0 n8 hz a h=>?_));obtain⟨b2,hg⟩:∃g,g=v8.heap.size:=⟨_,rfl⟩;rw[<-hg]at a0 h hz;have c9.gk_9:ka.gk<b2:=by have:=O.lt;omega
 have h9:g5<b2:=by have:=I.lt;omega
 have i8:a8<b2:=by have:=D.lt;omega
 have E5:=n8.size;replace D:=D.ext n8;replace Z:=Z.ext n8;replace hC:=hC.next n8;exact z0b (f1 ((b2,a8),qn,(e2,e3),sn,d0) _ _ _ kr0 (h.sub (.d8 U U U U U U U U (.cons U .nil))) ⟨hC,⟨sm,sm,sm⟩,(λe=>⟨(a7 e).1,(a7 e).2.1,(a7 e).2.2.1,(a7 e).2.2.2.1,(λa4=>by have b8:=e1 e _ a4;have b1:=(Z e).blk _ a4;simp only at b8 b1;omega),(λa4=>by have b8:=e1 e _ a4;have b1:=(Z e).blk _ a4;simp only at b8 b1;omega)⟩),a0,D,(λe=>(Z e).low oo)⟩);refine z1f h z6j U λB0 a0 k8 hz a h=>?_;obtain⟨b2,hg⟩:∃g,g=u9.heap.size:=⟨_,rfl⟩;rw[<-hg]at a0 h hz;have c9.gk_9:ka.gk<b2:=by have:=O.lt;omega
 have h9:g5<b2:=by have:=I.lt;omega
 have i8:a8<b2:=by have:=D.lt;omega
 have E6:=k8.size;replace hM:=hM.ext k8;replace O:=O.ext k8;replace I:=I.ext k8;replace D:=D.ext k8;replace hC:=hC.next k8;refine z0b (z0e 9 U (z0n h (z0a U z0g) u1m (y3i (m.ys.getD j yq0) _ (hM.y.ins j oo).sl (λk O=>((hM.y.ins j oo).blk k O).2)) ?_));rintro _ B1 ⟨qn,e2,e3,sn,d0,rfl,a7,hq⟩ a h;have E7:=hq.size;replace hM:=hM.ext hq;replace O:=O.ext hq;replace I:=I.ext hq;replace D:=D.ext hq;replace a0:=a0.ext hq;replace hC:=hC.next hq;have A4:=hq;have Z:OwnIf ((mkE (m.ys.getD j yq0).p)=0) z2f 114 _ _ (slv sn) d0:=λhc=>(a7 hc).2.2.2.2;have e1:=λhc k O=>((Z hc).blk k O).2;refine z0b (z0d 10 h U λa h=>z0p 11 h U λa h=>z0p 12 h U λa h=>z0p 13 h U λa h=>?_);exact f1 ((b2,a8),qn,(e2,e3),sn,d0) _ _ _ kr0 (h.sub (.d8 U U U U U U U U (.cons U .nil))) ⟨hC,⟨sm,sm,sm⟩,(λe=>⟨(a7 e).1,(a7 e).2.1,(a7 e).2.2.1,(a7 e).2.2.2.1,(λa4=>by have b8:=e1 e _ a4;have b1:=(Z e).blk _ a4;simp only at b8 b1;omega),(λa4=>by have b8:=e1 e _ a4;have b1:=(Z e).blk _ a4;simp only at b8 b1;omega)⟩),a0,D,(λe=>(Z e).low oo)⟩;rintro⟨⟨b2,a8⟩,qn,⟨e2,e3⟩,sn,d0⟩ a w18 ⟨hC,⟨p2,l5,hz910⟩,a7,a0,D,Z⟩ h;simp only at p2 l5 hz910 a7 a0 D Z;have n9:=hC;have E8:=n9.size;replace O:=O.ext n9;replace I:=I.ext n9;refine z0e 16 U (z0v h U a0 U z3o ?_ (h1:=(by first|(simp[Value.oneCell',S];done)|exact z3l.one (m.ys.getD j yq0))));clear h a;intro v9 i7 j6 hz a h;have E9:=j6.size;replace O:=O.fr j6;replace I:=I.fr j6;replace D:=D.fr j6;replace Z:=Z.fr j6 (by intro l2 k O a4;simp at O;subst O;first|exact(a7 l2).2.2.2.2.1 a4|exact(a7 l2).2.2.2.2.2 a4);replace hC:=hC.sp j6;clear a0 hz;have a0:Blk v9 b2 _ [_,_,_,_,_]:=i7;clear i7;refine z0b (z0e 17 U (z0v h U D U x5r ?_ (h1:=(by first|(simp[Value.oneCell',S];done)|exact z3l.one (m.ys.getD j yq0)))));clear h a;intro x0 i7 j7 hz a h;have F0:=j7.size;replace O:=O.fr j7;replace I:=I.fr j7;replace a0:=a0.fr j7;replace Z:=Z.fr j7 (by intro l2 k O a4;simp at O;subst O;first|exact(a7 l2).2.2.2.2.1 a4|exact(a7 l2).2.2.2.2.2 a4);replace hC:=hC.sp j7;clear D hz;have D:Blk x0 a8 _ [_,_,_]:=i7;clear i7;refine z0b (z0e 18 U (z0s h U λa h=>?_));refine z0b (z0r ?_);clear hC d1 b9 b3;exact bk (h.sub (L':=[(0,_),(2,_),(3,_),(5,_),(9,_),(10,_),(11,_)]) (.c7 U U U U U U U)) (jE ((b2,a8)) (.c7 U U U U U U U) ⟨(q2.z3 n9 j6 j7),⟨qn,e2,e3,sn,d0,⟨sm,sm,λe=>⟨(a7 e).1,(a7 e).2.1,(a7 e).2.2.1,(a7 e).2.2.2.1⟩⟩,a0,D,λe=>(Z e).low oo⟩⟩);rintro⟨g9,f2⟩ B2 ⟨h3,⟨qn,e2,e3,sn,d0,⟨p2,l5,a7⟩,a0,D,Z⟩⟩;have F1:=h3.size;have s9:=a0.lt;have s4:=D.lt;simp only at p2 l5 a0 D;refine kpC [(0,_),(2,_),(3,_),(5,_),(9,.pointer (some ⟨g9,0,none⟩)),(10,.pointer (some ⟨f2,0,none⟩)),(11,.int .i64 (mkE (m.ys.getD j yq0).p))] (.c7 U U U U U U U) (sq (sr (mv U (ne' U (nn (cd U (λc0=>?_) (λc0=>?_)))))));refine sr (mv U (asg U (kpL [(8,_)] (.cons U .nil) (nn (rt (tr (r1 results137 U ?_)))))));replace hM:=h7.ext (q1.n1 h3);exact⟨_,rfl,MRet.err (by unfold x2r;rw[l4,if_pos c0]) c0 hM.fr⟩;replace O:=O.ext (q1.n1 h3);have l3:(mkE (m.ys.getD j yq0).p)=0:=Classical.not_not.1 c0;obtain⟨rfl,rfl,rfl,rfl⟩:=a7 l3;replace Z:=Z l3;have g0:=λk O=>(Z.blk k O).2;obtain⟨m5,m7,m6⟩:=j0a hi hy hs (by rw[l4];exact l3);rw[l4]at m5 m7 m6;refine sk (tn (sq (sr (mv U (nlc U (fad U y4l (z0i U O U v0w ?_)))))));replace hM:=h7.ext (q1.n1 h3);refine cl (ev1 U) (mkC func178) (y5p _ m.ts _ hM.t.at.1 hM.t.at.2 oo) U ?_;rintro _ B3 ⟨rfl,e7⟩;have F2:=e7.size;refine ge' U (kpL [(0,_),(2,_),(3,_),(5,_),(9,_),(10,_),(37,_)] (.c7 U U U U U U U) (nn (cd U (λc1=>?_) (λc1=>?_))));refine sr (asg U (kpL [(8,_)] (.cons U .nil) (nn (rt (tr (r1 results137 U ?_))))));replace hM:=h7.ext (q1.n2 h3 e7);exact⟨_,rfl,MRet.err (by unfold x2r;rw[l4,if_neg (λe=>e l3),if_pos (show 2048<=z4r m.p.tb by have:m.p.tb=z2o m.ts:=rfl;rw[this];omega)]) dd hM.fr⟩;refine sk (tn (sr (fad U z5f ?_)));replace I:=I.ext (h3.n1 e7);refine z0i U I U na5 (fad U j4a ?_);replace D:=D.ext e7;refine z0i U D U na3 (z1z (cs:=[_,_]) (ev2 U) k4p (z0f U (z0f U z0t)) U ?_);refine al y6l U (λf9 B4 y1 a6 f4 F3=>?_);refine z0k (vs:=[_,_]) U a6 y3o (λB5 a6 f5 F5=>?_) (h1:=(by first|(simp[Value.oneCell',S];done)|exact z3l.one (m.ys.getD j yq0)));refine kpL [(0,_),(2,_),(3,_),(5,_),(9,_),(10,_),(12,_)] (.c7 U U U U U U U) (nn (sr (fad U z6r (v1y U z9i U ?_))));replace I:=(I.ext f4).fr f5;refine z0i U I U v0a (fad U j2v ?_);replace D:=(D.ext f4).fr f5;refine z0i U D U na4 (mv U (fad U j2l (z0i U D U y0y (z1z (cs:=[_,_,_,_]) (ev4 U) k5o (z0f U (z0f U (z0f U (z0f U z0t)))) U ?_))));refine al x8f U (λf3 B6 y2 a2 e8 F6=>?_);refine z0k (vs:=[_,_,_,_]) U a2 v4u (λp5 a2 e9 F7=>?_) (h1:=(by first|(simp[Value.oneCell',S];done)|exact z3l.one (m.ys.getD j yq0)));refine kpL [(0,_),(3,_),(5,_),(9,_),(12,_),(13,_)] (.c6 U U U U U U) (nn (jn (ι:=Nat) [(0,_),(5,_),(9,_),(13,_)] (λg_=>[(14,.pointer (some ⟨g_,0,none⟩)),(11,.int .i64 0)]) (λg_ w'=>Fr [] p5 w'/\∃q':BdQ,(p5.heap.size<=g_/\q'.p=m.q.p.put o.b o.p (st++[(⟨o.y,(m.ys.getD j yq0).ct⟩:LId)]))/\Blk w' g_ 37 (bdL q')/\BdO 42 54 (max wS.heap.size p5.heap.size) w' q') (.c4 U U U U) ?_ ?_));replace hM:=h7.ext (q1.z6 h3 e7 f4 f5 e8 e9);replace O:=(((O.ext (e7.n1 f4)).fr f5).ext e8).fr e9;replace b6:=s1.ext (q1.z6 h3 e7 f4 f5 e8 e9);replace I:=(I.ext e8).fr e9;replace a0:=(((a0.ext (e7.n1 f4)).fr f5).ext e8).fr e9;replace D:=(D.ext e8).fr e9;replace Z:=(((Z.ext (e7.n1 f4)).fr f5 (by intro k O a4;simp at O;subst O;have b1:=Z.blk _ a4;have k7:=g0 _ a4;omega)).ext e8).fr e9 (by intro k O a4;simp at O;subst O;have b1:=Z.blk _ a4;have k7:=g0 _ a4;omega);replace a6:=(a6.ext e8).fr e9;intro a h;refine z0h none (λwb w'=>Fr [] wb w') z2y ?_;intro d7 g6;have F8:=g6.size;replace hM:=hM.ext g6;replace O:=O.ext g6;replace b6:=b6.ext g6;replace I:=I.ext g6;replace a0:=a0.ext g6;replace D:=D.ext g6;replace Z:=Z.ext g6;replace a6:=a6.ext g6;replace a2:=a2.ext g6;have hC:Fr [] d7 d7:=Fr.refl _ _;have d1:=hM;have b9:=O;have p0:=b6;have b3:=I;have h8:=a0;have m4:=D;have g3:=Z;have k0:=a6;have d9:=a2;refine y5z (ι:=Nat×BdQ) h [(0,_),(3,_),(5,_),(9,_),(12,_),(13,_)] (.c6 U U U U U U) #[true,true,true,true,true,true,true,true,true,true,true,true,true,true,true,true,false,false] 2 (λp=>[(14,.pointer (some ⟨p.1,0,none⟩)),(65,.agg #[.slice p.2.f.1 p.2.f.2.1 p.2.f.2.2,.slice p.2.b.1 p.2.b.2.1 p.2.b.2.2]),(66,.int .i64 0)]) (λp w'=>Fr [] d7 w'/\(d7.heap.size<=p.1/\p.2.p=m.q.p.put o.b o.p (st++[(⟨o.y,(m.ys.getD j yq0).ct⟩:LId)]))/\Blk w' p.1 37 [.slice none 0 0,.slice none 0 0]/\BdO 42 54 (max wS.heap.size d7.heap.size) w' p.2) (λj5=>?_) ?_;refine y5z (ι:=(Nat×Nat)×Nat) h [(0,_),(3,_),(5,_),(9,_),(12,_),(13,_)] (.c6 U U U U U U) #[true,true,true,true,true,true,true,true,true,true,false,false,false,false,false,true,false,false] 7 (λp=>[(56,.agg #[.slice m.q.f.1 m.q.f.2.1 m.q.f.2.2,.slice m.q.b.1 m.q.b.2.1 m.q.b.2.2]),(58,.agg #[.int .u8 o.b,.int .i64 o.p]),(60,.slice (some ⟨p.1.1,0,none⟩) st.length st.length),(62,.slice (some ⟨p.1.2,0,none⟩) 1 1),(14,.pointer (some ⟨p.2,0,none⟩))]) (λp w'=>Fr [] d7 w'/\(d7.heap.size<=p.1.1/\d7.heap.size<=p.1.2)/\Lw.Own z1j 54 d7.heap.size w' (.slice (some ⟨p.1.1,0,none⟩) st.length st.length) st/\Lw.Own z1j 54 d7.heap.size w' (.slice (some ⟨p.1.2,0,none⟩) 1 1) [(⟨o.y,(m.ys.getD j yq0).ct⟩:LId)]/\d7.heap.size<=p.2/\Blk w' p.2 37 [.slice none 0 0,.slice none 0 0]) (λg1=>?_) ?_;refine y5z (ι:=Nat×Nat) h [(0,_),(3,_),(5,_),(9,_),(12,_),(13,_)] (.c6 U U U U U U) #[true,true,true,true,true,true,true,true,true,true,false,false,false,false,false,false,false,false] 8 (λp=>[(56,.agg #[.slice m.q.f.1 m.q.f.2.1 m.q.f.2.2,.slice m.q.b.1 m.q.b.2.1 m.q.b.2.2]),(58,.agg #[.int .u8 o.b,.int .i64 o.p]),(60,.slice (some ⟨p.1,0,none⟩) st.length st.length),(62,.slice (some ⟨p.2,0,none⟩) 1 1)]) (λp w'=>Fr [] d7 w'/\(d7.heap.size<=p.1/\d7.heap.size<=p.2)/\Lw.Own z1j 54 d7.heap.size w' (.slice (some ⟨p.1,0,none⟩) st.length st.length) st/\Lw.Own z1j 54 d7.heap.size w' (.slice (some ⟨p.2,0,none⟩) 1 1) [(⟨o.y,(m.ys.getD j yq0).ct⟩:LId)]) (λl1=>?_) ?_;refine z0d 0 h U λa h=>z0o 1 h U λa h=>z0c 2 h U z3s U λa h=>z1d (vs:=[_,_]) 3 h U (λ_ hw=>(b9.ext hw)) z6k U U λa h=>z0c 4 h U z6r U λa h=>z1d (vs:=[_,_]) 5 h U (λ_ hw=>(b3.ext hw)) z8c U U λa h=>z0d 6 h U λa h=>z0z 8 h U (λ_ hw=>k0.ext hw) z3x U λa h=>v2k 7 9 15 kr0 U U U ?_ ?_ ?_;refine z0n h (z0a U z0g) x6v (z4m _ st _ b6 oo) ?_;rintro _ x1 ⟨f0,rfl,k1,hX,g7⟩ a h;have F9:=g7.size;replace hM:=hM.ext g7;replace O:=O.ext g7;replace b6:=b6.ext g7;replace I:=I.ext g7;replace a0:=a0.ext g7;replace D:=D.ext g7;replace Z:=Z.ext g7;replace a6:=a6.ext g7;replace a2:=a2.ext g7;replace hC:=hC.next g7;have i5:=λk O=>(hX.blk k O).2;refine z0b (z2n 9 15 kr0 U ?_ ?_);refine z2i ([(⟨o.y,(m.ys.getD j yq0).ct⟩:LId)]) h (z0a U z0g) U z6q λa5 B7 hg a9 p3 hz a h=>?_;have c9.gk_62:ka.gk<a5:=by have:=O.lt;omega
 have b7:g5<a5:=by have:=I.lt;omega
 have b7:g9<a5:=by have:=a0.lt;omega
 have e4:f2<a5:=by have:=D.lt;omega
 have e5:f9<a5:=by have:=a6.lt;omega
 have e6:f3<a5:=by have:=a2.lt;omega
 have G0:=p3.size;replace hX:=hX.ext p3;replace hC:=hC.next p3;exact z0b (l1 (f0,a5) _ _ _ kr0 (h.sub (.d8 U U U U U U U U (.c2 U U))) ⟨hC,⟨sm,sm⟩,hX.low oo,a9.low oo⟩);refine z1f h v4k U λB8 a3 i1 hz a h=>?_;obtain⟨a1,hg⟩:∃g,g=x1.heap.size:=⟨_,rfl⟩;rw[<-hg]at a3 h hz;have c9.gk_14:ka.gk<a1:=by have:=O.lt;omega
 have b4:g5<a1:=by have:=I.lt;omega
 have b4:g9<a1:=by have:=a0.lt;omega
 have d4:f2<a1:=by have:=D.lt;omega
 have d5:f9<a1:=by have:=a6.lt;omega
 have d6:f3<a1:=by have:=a2.lt;omega
 have G1:=i1.size;replace O:=O.ext i1;replace I:=I.ext i1;replace a0:=a0.ext i1;replace D:=D.ext i1;replace a6:=a6.ext i1;replace a2:=a2.ext i1;replace hC:=hC.next i1;refine z0b (z0e 9 U (z2i ([(⟨o.y,(m.ys.getD j yq0).ct⟩:LId)]) h (z0a U z0g) U z6q λa5 B9 hg a9 o0 hz a h=>?_));have c9.gk_62:ka.gk<a5:=by have:=O.lt;omega
 have b7:g5<a5:=by have:=I.lt;omega
 have b7:g9<a5:=by have:=a0.lt;omega
 have e4:f2<a5:=by have:=D.lt;omega
 have e5:f9<a5:=by have:=a6.lt;omega
 have e6:f3<a5:=by have:=a2.lt;omega
 have h6:a1<a5:=by have:=a3.lt;omega
 have G2:=o0.size;replace hX:=hX.ext (i1.n1 o0);replace a3:=a3.ext o0;replace hC:=hC.next o0;exact z0b (g1 ((f0,a5),a1) _ _ _ kr0 (h.sub (.d8 U U U U U U U U (.c3 U U U))) ⟨hC,⟨sm,sm⟩,hX.low oo,a9.low oo,sm,a3⟩);refine z2i ([(⟨o.y,(m.ys.getD j yq0).ct⟩:LId)]) h (z0a U z0g) U z6q λa5 x2 hg a9 g8 hz a h=>?_;have c9.gk_62:ka.gk<a5:=by have:=O.lt;omega
 have b7:g5<a5:=by have:=I.lt;omega
 have b7:g9<a5:=by have:=a0.lt;omega
 have e4:f2<a5:=by have:=D.lt;omega
 have e5:f9<a5:=by have:=a6.lt;omega
 have e6:f3<a5:=by have:=a2.lt;omega
 have G3:=g8.size;replace hM:=hM.ext g8;replace O:=O.ext g8;replace b6:=b6.ext g8;replace I:=I.ext g8;replace a0:=a0.ext g8;replace D:=D.ext g8;replace Z:=Z.ext g8;replace a6:=a6.ext g8;replace a2:=a2.ext g8;replace hC:=hC.next g8;refine z0b (z2n 7 15 kr0 U ?_ ?_);refine z0n h (z0a U z0g) x6v (z4m _ st _ b6 oo) ?_;rintro _ C0 ⟨f0,rfl,k1,hX,o1⟩ a h;have G4:=o1.size;replace O:=O.ext o1;replace a9:=a9.ext o1;replace hC:=hC.next o1;have i5:=λk O=>(hX.blk k O).2;exact z0b (l1 (f0,a5) _ _ _ kr0 (h.sub (.d8 U U U U U U U U (.c2 U U))) ⟨hC,⟨sm,sm⟩,hX.low oo,a9.low oo⟩);refine z1f h v4k U λC1 a3 m2 hz a h=>?_;obtain⟨a1,hg⟩:∃g,g=x2.heap.size:=⟨_,rfl⟩;rw[<-hg]at a3 h hz;have c9.gk_14:ka.gk<a1:=by have:=O.lt;omega
 have b4:g5<a1:=by have:=I.lt;omega
 have b4:g9<a1:=by have:=a0.lt;omega
 have d4:f2<a1:=by have:=D.lt;omega
 have d5:f9<a1:=by have:=a6.lt;omega
 have d6:f3<a1:=by have:=a2.lt;omega
 have p7:a5<a1:=by have:=(a9.blk a5 (by simp[z0u])).2;omega
 have G5:=m2.size;replace b6:=b6.ext m2;replace hC:=hC.next m2;refine z0b (z0e 7 U (z0n h (z0a U z0g) x6v (z4m _ st _ b6 oo) ?_));rintro _ C2 ⟨f0,rfl,k1,hX,m3⟩ a h;have G6:=m3.size;replace O:=O.ext (m2.n1 m3);replace a9:=a9.ext (m2.n1 m3);replace a3:=a3.ext m3;replace hC:=hC.next m3;have i5:=λk O=>(hX.blk k O).2;exact z0b (g1 ((f0,a5),a1) _ _ _ kr0 (h.sub (.d8 U U U U U U U U (.c3 U U U))) ⟨hC,⟨sm,sm⟩,hX.low oo,a9.low oo,sm,a3⟩);refine z1f h v4k U λC3 a3 h0 hz a h=>?_;obtain⟨a1,hg⟩:∃g,g=d7.heap.size:=⟨_,rfl⟩;rw[<-hg]at a3 h hz;have c9.gk_14:ka.gk<a1:=by have:=O.lt;omega
 have b4:g5<a1:=by have:=I.lt;omega
 have b4:g9<a1:=by have:=a0.lt;omega
 have d4:f2<a1:=by have:=D.lt;omega
 have d5:f9<a1:=by have:=a6.lt;omega
 have d6:f3<a1:=by have:=a2.lt;omega
 have G7:=h0.size;replace hM:=hM.ext h0;replace O:=O.ext h0;replace b6:=b6.ext h0;replace I:=I.ext h0;replace a0:=a0.ext h0;replace D:=D.ext h0;replace Z:=Z.ext h0;replace a6:=a6.ext h0;replace a2:=a2.ext h0;replace hC:=hC.next h0;refine z0b (z2n 7 9 kr0 U ?_ ?_);refine z0n h (z0a U z0g) x6v (z4m _ st _ b6 oo) ?_;rintro _ C4 ⟨f0,rfl,k1,hX,i2⟩ a h;have G8:=i2.size;replace O:=O.ext i2;replace I:=I.ext i2;replace a0:=a0.ext i2;replace D:=D.ext i2;replace a6:=a6.ext i2;replace a2:=a2.ext i2;replace a3:=a3.ext i2;replace hC:=hC.next i2;have i5:=λk O=>(hX.blk k O).2;refine z0b (z0e 9 U (z2i ([(⟨o.y,(m.ys.getD j yq0).ct⟩:LId)]) h (z0a U z0g) U z6q λa5 C5 hg a9 o2 hz a h=>?_));have c9.gk_62:ka.gk<a5:=by have:=O.lt;omega
 have b7:g5<a5:=by have:=I.lt;omega
 have b7:g9<a5:=by have:=a0.lt;omega
 have e4:f2<a5:=by have:=D.lt;omega
 have e5:f9<a5:=by have:=a6.lt;omega
 have e6:f3<a5:=by have:=a2.lt;omega
 have h6:a1<a5:=by have:=a3.lt;omega
 have G9:=o2.size;replace a3:=a3.ext o2;replace hX:=hX.ext o2;replace hC:=hC.next o2;exact z0b (g1 ((f0,a5),a1) _ _ _ kr0 (h.sub (.d8 U U U U U U U U (.c3 U U U))) ⟨hC,⟨sm,sm⟩,hX.low oo,a9.low oo,sm,a3⟩);refine z2i ([(⟨o.y,(m.ys.getD j yq0).ct⟩:LId)]) h (z0a U z0g) U z6q λa5 C6 hg a9 f6 hz a h=>?_;have c9.gk_62:ka.gk<a5:=by have:=O.lt;omega
 have b7:g5<a5:=by have:=I.lt;omega
 have b7:g9<a5:=by have:=a0.lt;omega
 have e4:f2<a5:=by have:=D.lt;omega
 have e5:f9<a5:=by have:=a6.lt;omega
 have e6:f3<a5:=by have:=a2.lt;omega
 have h6:a1<a5:=by have:=a3.lt;omega
 have H0:=f6.size;replace hM:=hM.ext f6;replace O:=O.ext f6;replace b6:=b6.ext f6;replace I:=I.ext f6;replace a0:=a0.ext f6;replace D:=D.ext f6;replace Z:=Z.ext f6;replace a6:=a6.ext f6;replace a2:=a2.ext f6;replace a3:=a3.ext f6;replace hC:=hC.next f6;refine z0b (z0e 7 U (z0n h (z0a U z0g) x6v (z4m _ st _ b6 oo) ?_));rintro _ C7 ⟨f0,rfl,k1,hX,hq⟩ a h;have H1:=hq.size;replace hM:=hM.ext hq;replace O:=O.ext hq;replace b6:=b6.ext hq;replace I:=I.ext hq;replace a0:=a0.ext hq;replace D:=D.ext hq;replace Z:=Z.ext hq;replace a6:=a6.ext hq;replace a2:=a2.ext hq;replace a3:=a3.ext hq;replace a9:=a9.ext hq;replace hC:=hC.next hq;have A5:=hq;have i5:=λk O=>(hX.blk k O).2;exact z0b (g1 ((f0,a5),a1) _ _ _ kr0 (h.sub (.d8 U U U U U U U U (.c3 U U U))) ⟨hC,⟨sm,sm⟩,hX.low oo,a9.low oo,sm,a3⟩);rintro⟨f0,a5⟩ a x3 ⟨hC,⟨l6,l7⟩,hX,a9⟩ h;simp only at l6 l7 hX a9;have h4:=hC;have H2:=h4.size;replace hM:=hM.ext h4;replace O:=O.ext h4;replace b6:=b6.ext h4;replace I:=I.ext h4;replace a0:=a0.ext h4;replace D:=D.ext h4;replace Z:=Z.ext h4;replace a6:=a6.ext h4;replace a2:=a2.ext h4;have i5:=λk h_=>(hX.blk k h_).2;refine z2n 10 15 kr0 U ?_ ?_;have b0:=hX;refine z3g h U hX a9.sl z6q (by unfold maxLen;simp only[List.length_cons,List.length_nil];omega) (by simp only[List.length_cons,List.length_nil];omega) λu7 x4 hX i3 o9 a h=>?_;obtain⟨t8,t9,rfl,q0⟩:=hX.sl.form;have i5:=λk O=>(hX.blk k O).2;have H3:=i3.size;replace O:=O.fr i3 (λb5=>b0.neB O dd b5);replace I:=I.fr i3 (λb5=>b0.neB I dd b5);replace a0:=a0.fr i3 (λb5=>b0.neB a0 dd b5);replace D:=D.fr i3 (λb5=>b0.neB D dd b5);replace Z:=Z.fr i3 (Own.neO b0 Z dd);replace a6:=a6.fr i3 (λb5=>by have:=(b0.blk _ b5).1;omega);replace a2:=a2.fr i3 (λb5=>b0.neB a2 dd b5);replace hC:=hC.step i3 (λk O o7=>absurd (b0.blk k O).1 oo);refine z0b (z2n 11 15 kr0 U ?_ ?_);refine z0n h (z0a U (z0a U (z0a U z0g))) u2d (by have x:=x4h m.q o.b n _ (st++[(⟨o.y,(m.ys.getD j yq0).ct⟩:LId)]) _ (d1.ext hC).b.at hX.sl hv (by rw[<-i0];exact hn) m5 m7 (by rw[<-i0];exact m6);rw[<-i0]at x;exact x) ?_;rintro _ x5 ⟨⟨q',rfl,hQ,h2⟩,q43⟩ a h;have H4:=q43.size;replace O:=O.ext q43;replace I:=I.ext q43;replace a0:=a0.ext q43;replace D:=D.ext q43;replace a6:=a6.ext q43;replace a2:=a2.ext q43;replace hC:=hC.next q43;refine z0b (z0d 12 h U λa h=>z0p 13 h U λa h=>z0p 14 h U λa h=>z0e 15 U (z1f h v4k U λC8 a3 o3 hz a h=>?_));obtain⟨a1,hg⟩:∃g,g=x5.heap.size:=⟨_,rfl⟩;rw[<-hg]at a3 h hz;have c9.gk_14:ka.gk<a1:=by have:=O.lt;omega
 have b4:g5<a1:=by have:=I.lt;omega
 have b4:g9<a1:=by have:=a0.lt;omega
 have d4:f2<a1:=by have:=D.lt;omega
 have d5:f9<a1:=by have:=a6.lt;omega
 have d6:f3<a1:=by have:=a2.lt;omega
 have H5:=o3.size;first|replace hQ:=BdO.ext hQ o3|replace hQ:=BdO.tf hQ o3 (OffT.one a3 dd) (OffT.one a3 dd)
 replace hC:=hC.next o3;exact z0b (j5 (a1,q') _ _ _ kr0 (h.sub (.d8 U U U U U U U U (.cons U .nil))) ⟨hC,⟨sm,h2⟩,a3,BdO.low hQ oo⟩);refine z1f h v4k U λC9 a3 p4 hz a h=>?_;obtain⟨a1,hg⟩:∃g,g=x4.heap.size:=⟨_,rfl⟩;rw[<-hg]at a3 h hz;have c9.gk_14:ka.gk<a1:=by have:=O.lt;omega
 have b4:g5<a1:=by have:=I.lt;omega
 have b4:g9<a1:=by have:=a0.lt;omega
 have d4:f2<a1:=by have:=D.lt;omega
 have d5:f9<a1:=by have:=a6.lt;omega
 have d6:f3<a1:=by have:=a2.lt;omega
 have H6:=p4.size;replace hX:=hX.ext p4;replace hC:=hC.next p4;refine z0b (z0e 11 U (z0n h (z0a U (z0a U (z0a U z0g))) u2d (by have x:=x4h m.q o.b n _ (st++[(⟨o.y,(m.ys.getD j yq0).ct⟩:LId)]) _ (d1.ext hC).b.at hX.sl hv (by rw[<-i0];exact hn) m5 m7 (by rw[<-i0];exact m6);rw[<-i0]at x;exact x) ?_));rintro _ D0 ⟨⟨q',rfl,hQ,h2⟩,q46⟩ a h;have H7:=q46.size;replace a3:=a3.ext q46;replace hC:=hC.next q46;refine z0b (z0d 12 h U λa h=>z0p 13 h U λa h=>z0p 14 h U λa h=>?_);exact j5 (a1,q') _ _ _ kr0 (h.sub (.d8 U U U U U U U U (.cons U .nil))) ⟨hC,⟨sm,h2⟩,a3,BdO.low hQ oo⟩;refine z1f h v4k U λD1 a3 o4 hz a h=>?_;obtain⟨a1,hg⟩:∃g,g=x3.heap.size:=⟨_,rfl⟩;rw[<-hg]at a3 h hz;have c9.gk_14:ka.gk<a1:=by have:=O.lt;omega
 have b4:g5<a1:=by have:=I.lt;omega
 have b4:g9<a1:=by have:=a0.lt;omega
 have d4:f2<a1:=by have:=D.lt;omega
 have d5:f9<a1:=by have:=a6.lt;omega
 have d6:f3<a1:=by have:=a2.lt;omega
 have H8:=o4.size;replace hX:=hX.ext o4;replace a9:=a9.ext o4;replace hC:=hC.next o4;exact z0b (g1 ((f0,a5),a1) _ _ _ kr0 (h.sub (.d8 U U U U U U U U (.c3 U U U))) ⟨hC,⟨sm,sm⟩,hX.low oo,a9.low oo,sm,a3⟩);rintro⟨⟨f0,a5⟩,a1⟩ a w48 ⟨hC,⟨l6,l7⟩,hX,a9,k6,a3⟩ h;simp only at l6 l7 hX a9 k6 a3;have j0:=hC;have H9:=j0.size;replace O:=O.ext j0;replace I:=I.ext j0;replace a0:=a0.ext j0;replace D:=D.ext j0;replace Z:=Z.ext j0;replace a6:=a6.ext j0;replace a2:=a2.ext j0;have i5:=λk h_=>(hX.blk k h_).2;refine z0e 10 U ?_;have b0:=hX;refine z3g h U hX a9.sl z6q (by unfold maxLen;simp only[List.length_cons,List.length_nil];omega) (by simp only[List.length_cons,List.length_nil];omega) λu7 D2 hX h5 o9 a h=>?_;obtain⟨t8,t9,rfl,q0⟩:=hX.sl.form;have i5:=λk O=>(hX.blk k O).2;have I0:=h5.size;replace O:=O.fr h5 (λb5=>b0.neB O dd b5);replace I:=I.fr h5 (λb5=>b0.neB I dd b5);replace a0:=a0.fr h5 (λb5=>b0.neB a0 dd b5);replace D:=D.fr h5 (λb5=>b0.neB D dd b5);replace Z:=Z.fr h5 (Own.neO b0 Z dd);replace a6:=a6.fr h5 (λb5=>by have:=(b0.blk _ b5).1;omega);replace a2:=a2.fr h5 (λb5=>b0.neB a2 dd b5);replace a3:=a3.fr h5 (λb5=>b0.neB a3 dd b5);replace hC:=hC.step h5 (λk O o7=>absurd (b0.blk k O).1 oo);refine z0b (z0e 11 U (z0n h (z0a U (z0a U (z0a U z0g))) u2d (by have x:=x4h m.q o.b n _ (st++[(⟨o.y,(m.ys.getD j yq0).ct⟩:LId)]) _ (d1.ext hC).b.at hX.sl hv (by rw[<-i0];exact hn) m5 m7 (by rw[<-i0];exact m6);rw[<-i0]at x;exact x) ?_));rintro _ D3 ⟨⟨q',rfl,hQ,h2⟩,q50⟩ a h;have I1:=q50.size;replace a3:=a3.ext q50;replace hC:=hC.next q50;refine z0b (z0d 12 h U λa h=>z0p 13 h U λa h=>z0p 14 h U λa h=>?_);exact j5 (a1,q') _ _ _ kr0 (h.sub (.d8 U U U U U U U U (.cons U .nil))) ⟨hC,⟨sm,h2⟩,a3,BdO.low hQ oo⟩;rintro⟨a1,q'⟩ a D4 ⟨hC,⟨k6,h2⟩,a3,hQ⟩ h;simp only at k6 h2 a3 hQ;have i4:=hC;have I2:=i4.size;replace O:=O.ext i4;replace I:=I.ext i4;replace a0:=a0.ext i4;replace D:=D.ext i4;replace Z:=Z.ext i4;replace a6:=a6.ext i4;replace a2:=a2.ext i4;refine z0e 16 U (z0v h U a3 U x7z ?_ (h1:=(by first|(simp[Value.oneCell',S];done)|exact z3l.one (m.ys.getD j yq0))));clear h a;intro x6 i7 f7 hz a h;have I3:=f7.size;replace O:=O.fr f7;replace I:=I.fr f7;replace a0:=a0.fr f7;replace D:=D.fr f7;replace Z:=Z.fr f7 (by intro k O a4;simp at O;subst O;have b1:=Z.blk _ a4;have k7:=g0 _ a4;omega);replace a6:=a6.fr f7;replace a2:=a2.fr f7;first|replace hQ:=BdO.ext hQ f7|replace hQ:=BdO.tf hQ f7 (OffT.one a3 dd) (OffT.one a3 dd)
 replace hC:=hC.sp f7;clear a3 hz;have a3:Blk x6 a1 _ [_,_]:=i7;clear i7;refine z0b (z0e 17 U (z0s h U λa h=>?_));refine z0b (z0r ?_);clear hC d1 b9 p0 b3 h8 m4 g3 k0 d9;exact bk (h.sub (L':=[(0,_),(5,_),(9,_),(11,_),(13,_),(14,_)]) (.c6 U U U U U U)) (jE (a1) (.c6 U U U U U U) ⟨(g6.z2 i4 f7),⟨q',⟨oo,h2⟩,a3,BdO.low hQ oo⟩⟩);rintro u0 D5 ⟨j1,⟨q',⟨k6,h2⟩,a3,hQ⟩⟩;have I4:=j1.size;have s5:=a3.lt;refine kpC [(0,_),(5,_),(9,_),(13,_),(14,.pointer (some ⟨u0,0,none⟩)),(11,.int .i64 0)] (.c6 U U U U U U) ?_;have u1:=x6w hQ h7.f oo;refine sq (sr (mv U (ne' U (nn (cd U (λc2=>?_) (λc2=>?_))))));exact absurd U c2;refine sk (tn (sr (mv U (z0m U a3 z6k (nlc U (fad U z3s ?_))))));replace hM:=h7.ext ((q1.z6 h3 e7 f4 f5 e8 e9).n1 j1);replace O:=((((O.ext (e7.n1 f4)).fr f5).ext e8).fr e9).ext j1;refine y0g (cs':=u8p ka { m with q:=q' }) U U hM.k U (by intro u hu;simp at hu;rcases hu with rfl|rfl<;>rfl) x7z U (λD6 r7 k9 I5=>?_);replace hM:=hM.beds mtd (hQ.low oo) r7 k9 u1;have O:=hM.k;have h7:=hM;have p8:=hM;have hF:Lw.Own z1j 54 wS.heap.size _ (slv m.fa) m.fl:=hM.f;clear r7;refine kpL [(0,_),(5,_),(9,_),(13,_)] (.c4 U U U U) (nn (sq ?_));replace I:=(((I.ext e8).fr e9).ext j1).fr k9;replace a0:=(((((a0.ext (e7.n1 f4)).fr f5).ext e8).fr e9).ext j1).fr k9;replace Z:=(((((Z.ext (e7.n1 f4)).fr f5 (by intro k O a4;simp at O;subst O;have b1:=Z.blk _ a4;have k7:=g0 _ a4;omega)).ext e8).fr e9 (by intro k O a4;simp at O;subst O;have b1:=Z.blk _ a4;have k7:=g0 _ a4;omega)).ext j1).fr k9 (by intro k O a4;simp at O;subst O;have b1:=Z.blk _ a4;have k7:=g0 _ a4;omega);replace a2:=(a2.ext j1).fr k9;intro a h;refine z0h (some 9) (λwb w'=>Fr [] wb w') z2y ?_;intro s7 j2;have I6:=j2.size;replace hM:=hM.ext j2;replace O:=O.ext j2;replace I:=I.ext j2;replace a0:=a0.ext j2;replace Z:=Z.ext j2;replace a2:=a2.ext j2;have hC:Fr [] s7 s7:=Fr.refl _ _;have d1:=hM;have b9:=O;have b3:=I;have h8:=a0;have g3:=Z;have d9:=a2;refine z0d 0 h U λa h=>z0o 1 h U λa h=>z0c 2 h U z3r U λa h=>z0j 3 h U (λ_ hw=>b9.ext hw) U y6b U λa h=>z0c 4 h U z5f U λa h=>z0j 5 h U (λ_ hw=>b3.ext hw) U na5 U λa h=>z3e 6 h U (by first|exact IntWalk.u8_in _ oo|rfl) U λa h=>z0z 7 h U (λ_ hw=>h8.ext hw) z3k U λa h=>z1o 8 kr0 hC (p:=j) h wn U y5h oo oo oo U U λa h=>z0e 9 U (z1c (i:=j) ((⟨true,(m.ys.getD j yq0).pl,(m.ys.getD j yq0).ct+1,false,sv0,[]⟩:YQ):YQ) h U hM.y.out (by rw[hM.ly];exact hj) U z3o λx7 o6 j8 _hz a h=>?_);replace hM:=hM.yarn mtd hj o6 j8 (Own.nil _);have h7:=hM;clear o6;have I7:=j8.size;replace I:=I.fr j8;replace a0:=a0.fr j8;replace Z:=Z.fr j8 (by intro k O a4;simp at O;subst O;have b1:=Z.blk _ a4;have k7:=g0 _ a4;omega);replace a2:=a2.fr j8;have O:=hM.k;clear _hz;refine z1h (z0r ?_);clear hC d1 b9 b3 h8 g3 d9;replace g4:=(((((((g4.ext (q1.n3 h3 e7 f4)).fr f5 (by intro k O a4;simp at O;subst O;first|exact k2 a4|exact k4 a4|(have:=k5 _ a4;omega))).ext e8).fr e9 (by intro k O a4;simp at O;subst O;first|exact k2 a4|exact k4 a4|(have:=k5 _ a4;omega))).ext j1).fr k9 (by intro k O a4;simp at O;subst O;first|exact k2 a4|exact k4 a4|(have:=k5 _ a4;omega))).ext j2).fr j8 (by intro k O a4;simp at O;subst O;first|exact k2 a4|exact k4 a4|(have:=k5 _ a4;omega));have d3:=hM.t.ins j (by rw[hM.lt];exact hj);have u3:=d3;have u4:∀k∈z0u (slv (m.ts.getD j tq0).1),k<x7.heap.size:=λk O=>(d3.blk k O).2;have A1:(m.ts.getD j tq0).2.length<=2048:=by have:=u8m m.ts j;omega
 refine bk (h.sub (L':=[(0,_),(5,_),(13,_)]) (.c3 U U U)) (tn (sq ?_));intro a h;refine z0h (some 20) (λwb w'=>Fr (z0u (slv (m.ts.getD j tq0).1)) wb w') z2y ?_;intro s8 j3;have I8:=j3.size;replace hM:=hM.ext j3;replace O:=O.ext j3;replace g4:=g4.ext j3;replace I:=I.ext j3;replace Z:=Z.ext j3;replace a2:=a2.ext j3;replace d3:=d3.ext j3;have hC:Fr (z0u (slv (m.ts.getD j tq0).1)) s8 s8:=Fr.refl _ _;have d1:=hM;have b9:=O;have p1:=g4;have b3:=I;have g3:=Z;have d9:=a2;have e0:=d3;refine z0d 0 h U λa h=>z0o 1 h U λa h=>z0c 2 h U y4l U λa h=>z0j 3 h U (λ_ hw=>b9.fr hw (λk_=>Own.neB e0 b9 dd k_)) U v0w U λa h=>z0c 4 h U z5f U λa h=>z0j 5 h U (λ_ hw=>b3.fr hw (λk_=>Own.neB e0 b3 dd k_)) U na5 U λa h=>z3e 6 h U (by first|exact IntWalk.u8_in _ oo|rfl) U λa h=>z0d 7 h U λa h=>z0o 8 h U λa h=>z0c 9 h U y4l U λa h=>z0j 10 h U (λ_ hw=>b9.fr hw (λk_=>Own.neB e0 b9 dd k_)) U v0w U λa h=>z0c 11 h U z5f U λa h=>z0j 12 h U (λ_ hw=>b3.fr hw (λk_=>Own.neB e0 b3 dd k_)) U na5 U λa h=>z3e 13 h U (by first|exact IntWalk.u8_in _ oo|rfl) U λa h=>z1e (p:=j) (tq0) 14 h U (show Sl z4z _ ka.TV m.ts from hM.t.out.sl) U x1l U λx9 r4 a h=>z2h 15 h U (λ_ hw=>r4 _ (z2b d1.t.out hw (z7f e0 dd)).sl) y3h U λa h=>z0z 16 h U (λ_ hw=>d9.fr hw (λk_=>by have:=r9 _ k_;omega)) x5j U λa h=>z0e 17 U (z2i ([(⟨o.b,(m.ys.getD j yq0).nw,th,sn,j9,(m.ys.getD j yq0).pes⟩:LpQ)]) h (z0a U z0g) U y6o λj4 D7 hg o8 l0 hz a h=>?_);have c9.gk_100:ka.gk<j4:=by have:=O.lt;omega
 have r8:g5<j4:=by have:=I.lt;omega
 have p6:f3<j4:=by have:=a2.lt;omega
 have I9:=l0.size;replace hM:=hM.ext l0;replace g4:=g4.ext l0;replace Z:=Z.ext l0;replace d3:=d3.ext l0;replace hC:=hC.next l0;refine z0b (z0e 18 U ?_);have m8:=d3;refine z3g h U d3 o8.sl y6o (by unfold maxLen;simp only[List.length_cons,List.length_nil];omega) (by simp only[List.length_cons,List.length_nil];omega) λy5 D8 d3 o5 m9 a h=>?_;have p8:=hM;have u2:LpO τd wS.heap.size _ (⟨o.b,(m.ys.getD j yq0).nw,th,sn,j9,(m.ys.getD j yq0).pes⟩:LpQ):=⟨g4,Z.low oo⟩;have u5:=z2b hM.t.out o5 (z7f m8 dd);have u6:=o5;obtain⟨AR,cR,rfl,_⟩:=d3.sl.form;have j1y:=d3;have J0:=o5.size;replace hC:=hC.step o5 (λk_ h_ _=>h_);refine z0b (z0e 19 U (y6s (p:=j) (E:=z4z) h U U x1l oo oo oo U λa h=>?_));refine z0b (z0e 20 U (z1c (i:=j) (((AR,((m.ts.getD j tq0).2++[(⟨o.b,(m.ys.getD j yq0).nw,th,sn,j9,(m.ys.getD j yq0).pes⟩:LpQ)]).length,cR),((m.ts.getD j tq0).2++[(⟨o.b,(m.ys.getD j yq0).nw,th,sn,j9,(m.ys.getD j yq0).pes⟩:LpQ)])):TQ) h U u5 (by rw[hM.lt];exact hj) U j5k λD9 s3 hq _hz a h=>?_));replace hM:=p8.row mtd (u:=(AR,((m.ts.getD j tq0).2++[(⟨o.b,(m.ys.getD j yq0).nw,th,sn,j9,(m.ys.getD j yq0).pes⟩:LpQ)]).length,cR)) hj u2 s2 j1y u6 m9 s3 hq;clear hq _hz;refine z1h (z0r ?_);clear hC d1 b9 p1 b3 g3 d9 e0;refine bk (h.sub (L':=[]) .nil) (tn (sr (asg U (nn (rt (r1 results137 U ?_))))));exact⟨_,rfl,MRet.ok (by unfold x2r;rw[l4,if_neg (λe=>e l3),if_neg (show ¬2048<=z4r m.p.tb by have:m.p.tb=z2o m.ts:=rfl;rw[this];omega)];exact congrArg Except.ok (j6w m j r5 h2).symm) hM⟩
end Go.Proofs.YtagnnbcnnmacmaaGreatDoor
namespace Go.G08
open Go.Lw Go.G21
theorem z5z (c:Cx)(l:List Cx):crM (c::l)=((c.a,c.b),.int .i64 c.n)::crM l:=rfl
theorem z8s {a b:LId}{c:Cx}:isC a b c=true↔c.a=a/\c.b=b:=by unfold isC;simp
theorem v7c (a b:LId):∀l:List Cx,(z2t (crM l) (a,b)).getD (.int .i64 0)=.int .i64 (z5n l a b)
 | []=>rfl
 | c::l=>by
  rw[z5z]
  unfold z2t z5n
  rw[List.find?_cons]
  by_cases h:c.a=a/\c.b=b
  ·rw[if_pos (by rw[<-h.1,<-h.2]),z8s.2 h];rfl
  have D:isC a b c=false:=by cases e:isC a b c;rfl;exact absurd (z8s.1 e) h
  rw[if_neg (λe=>h ⟨(Prod.mk.inj e).1.symm,(Prod.mk.inj e).2.symm⟩),D]
  exact v7c a b l
theorem v7b {a b:LId}{l:List Cx}(h:(a,b)∉(crM l).map (·.1)):∀c∈l,isC a b c=false:=λc O=>by
 cases e:isC a b c
 ·rfl
 obtain⟨D,I⟩:=z8s.1 e
 refine absurd ?_ h
 unfold crM
 rw[List.map_map]
 exact List.mem_map.2 ⟨c,O,by simp[D,I]⟩
theorem v7u (a b:LId)(n:Int):∀l:List Cx,((crM l).map (·.1)).Nodup->crM (y9q l a b n)=z4o (crM l) (a,b) (.int .i64 n)
 | [],_=>rfl
 | c::l,hn=>by
  rw[z5z,List.map_cons]at hn
  obtain⟨n1,n2⟩:=List.nodup_cons.1 hn
  have ih:=v7u a b n l n2
  by_cases h:c.a=a/\c.b=b
  ·obtain⟨D,I⟩:=h
   subst D;subst I
   have hl:l.map (λx=>if isC c.a c.b x then (⟨c.a,c.b,n⟩:Cx) else x)=l:=by
    have:=v7b (l:=l) n1
    conv=>rhs;rw[<-List.map_id l]
    refine List.map_congr_left λx hx=>?_
    rw[this x hx];rfl
   have O:isC c.a c.b c=true:=z8s.2 ⟨rfl,rfl⟩
   have e2:y9q (c::l) c.a c.b n=⟨c.a,c.b,n⟩::l:=by
    unfold y9q
    rw[List.any_cons,O,Bool.true_or,if_pos U,List.map_cons,O,if_pos U,hl]
   have Z:z4o (((c.a,c.b),Value.int .i64 c.n)::crM l) (c.a,c.b) (.int .i64 n)=((c.a,c.b),.int .i64 n)::crM l:=by
    unfold z4o;simp[List.findIdx?_cons]
   rw[e2,z5z,z5z,Z]
  have D:isC a b c=false:=by cases e:isC a b c;rfl;exact absurd (z8s.1 e) h
  have I:¬((a,b):LId×LId)=(c.a,c.b):=λe=>h ⟨(Prod.mk.inj e).1.symm,(Prod.mk.inj e).2.symm⟩
  have es:y9q (c::l) a b n=c::y9q l a b n:=by
   unfold y9q
   rw[List.any_cons,D,Bool.false_or]
   split
   ·rw[List.map_cons,D];rfl
   rfl
  rw[es,z5z,ih]
  unfold z4o
  rw[z5z,List.map_cons,List.findIdx?_cons,if_neg (by simpa using I)]
  cases hf:((crM l).map (·.1)).findIdx? (λx=>decide ((a,b)=x)) with
  | none=>rfl
  | some i=>rfl
theorem v6h (a b:LId):∀l:List Cx,((crM l).map (·.1)).Nodup->crM (x9z l a b)=z5u (crM l) (a,b)
 | [],_=>rfl
 | c::l,hn=>by
  rw[z5z,List.map_cons]at hn
  obtain⟨n1,n2⟩:=List.nodup_cons.1 hn
  have ih:=v6h a b l n2
  by_cases h:c.a=a/\c.b=b
  ·obtain⟨D,I⟩:=h
   subst D;subst I
   have hl:l.filter (λx=>!isC c.a c.b x)=l:=List.filter_eq_self.2 λx hx=>by
    rw[v7b (l:=l) n1 x hx];rfl
   have hi:isC c.a c.b c=true:=z8s.2 ⟨rfl,rfl⟩
   have Z:x9z (c::l) c.a c.b=l:=by
    unfold x9z
    rw[List.filter_cons,hi,hl];rfl
   have O:z5u (((c.a,c.b),Value.int .i64 c.n)::crM l) (c.a,c.b)=crM l:=by
    unfold z5u;simp[List.findIdx?_cons]
   rw[Z,z5z,O]
  have D:isC a b c=false:=by cases e:isC a b c;rfl;exact absurd (z8s.1 e) h
  have I:¬((a,b):LId×LId)=(c.a,c.b):=λe=>h ⟨(Prod.mk.inj e).1.symm,(Prod.mk.inj e).2.symm⟩
  have es:x9z (c::l) a b=c::x9z l a b:=by
   unfold x9z
   rw[List.filter_cons,D];rfl
  rw[es,z5z,ih]
  unfold z5u
  rw[z5z,List.map_cons,List.findIdx?_cons,if_neg (by simpa using I)]
  cases hf:((crM l).map (·.1)).findIdx? (λx=>decide ((a,b)=x)) with
  | none=>rfl
  | some i=>rfl
section
variable {α κ:Type} [DecidableEq κ] {E:Enc α} {T base g:Nat} {w w':World} {v:Value} {ys:List α} {V:κ->Value} {em:List (κ×Value)}
theorem k0y (h:Lw.Own E T base w v ys)(Z:MapL V w g em)(hf:Fr [g] w w'):Lw.Own E T base w' v ys:=h.fr hf λk D O=>by
 rw[List.mem_singleton]at D;subst D
 obtain⟨cs,I⟩:=y1k h _ O
 exact Z.f.ne_blk I U
theorem j9j {k:Nat}{cs:List Value}(h:Blk w k T cs)(I:MapL V w g em)(hf:Fr [g] w w'):Blk w' k T cs:=h.fr hf λD=>by
 rw[List.mem_singleton]at D;subst D
 exact I.f.ne_blk h U
end
theorem FrM.un {τ:TyK}{Mt:Nat}{wS w w':World}{a:MA}(h:FrM τ Mt wS { a with wk:=w } w')(D:FrM τ Mt wS a w):FrM τ Mt wS a w':=⟨h.fr,D.kp.trans h.kp⟩
theorem MkM.gcne {τ:TyK}{Mt:Nat}{wS w:World}{a:MA}{m:MQ}(h:MkM τ Mt wS a w m){k T:Nat}{cs:List Value}(hb:Blk w k T cs):k≠a.gc:=λe=>by
 subst e;exact h.c.f.ne_blk hb U
theorem KpM.own {α:Type}{E:Enc α}{I:List Nat}{g T base:Nat}{w w':World}{v:Value}{ys:List α}(h:KpM I g w w')(D:Lw.Own E T base w v ys)(hg:∀k∈z0u v,k≠g)(hT:T∉I):Lw.Own E T base w' v ys:=by
 rcases D with D|⟨k,cap,cur,rfl,O,Z,h3⟩
 exact .inl D;have hb:Blk w k T cur.toList:=Z;exact .inr ⟨k,cap,cur,rfl,O,h.blk hb (hg k (by simp[z0u])) hT,h3⟩
theorem MkM.gcneO {τ:TyK}{Mt:Nat}{wS w:World}{a:MA}{m:MQ}{α:Type}{E:Enc α}{T base:Nat}{v:Value}{ys:List α}(h:MkM τ Mt wS a w m)(O:Lw.Own E T base w v ys):∀k∈z0u v,k≠a.gc:=λk I=>by
 obtain⟨cs,D⟩:=y1k O k I
 exact h.gcne D
theorem y8s {p:MSt}{d:Int}:∀ {l l':List Yn},l'.length=l.length->(∀j,j<l.length->z9o p d (l.getD j yn0)=.ok (l'.getD j yn0))->z6u p d l=.ok l'
 | [],[],_,_=>rfl
 | [],_::_,h,_=>by simp at h
 | _::_,[],h,_=>by simp at h
 | y::l,y'::l',hl,h=>by
  have D:=h 0 sp0
  simp only[List.getD_cons_zero]at D
  have I:=y8s (p:=p) (d:=d) (l:=l) (l':=l') (by simpa using hl) λj O=>by
   have:=h (j+1) so
   simpa only[List.getD_cons_succ] using this
  unfold z6u
  rw[D,I]
theorem y9t {p:MSt}{d e:Int}:∀ {l:List Yn} {i:Nat},i<l.length->(∀j,j<i->∃I,z9o p d (l.getD j yn0)=.ok I)->z9o p d (l.getD i yn0)=.error e->z6u p d l=.error e
 | y::l,0,_,_,h=>by
  simp only[List.getD_cons_zero]at h
  unfold z6u;rw[h]
 | y::l,i+1,hi,hj,h=>by
  obtain⟨I,D⟩:=hj 0 oo
  simp only[List.getD_cons_zero]at D
  have O:=y9t (p:=p) (d:=d) (e:=e) (l:=l) (i:=i) (by simpa using hi) (λj hl=>by
   have:=hj (j+1) oo
   simpa only[List.getD_cons_succ] using this) (by simpa only[List.getD_cons_succ] using h)
  unfold z6u
  rw[D,O]
theorem y3s {c:Cx}:∀ {r l l':List Cx},z4s l r=.ok l'->z4s l (r++[c])=y8o l' c
 | [],l,l',h=>by
  cases h
  show z4s l [c]=y8o l c
  unfold z4s
  cases y8o l c<;>rfl
 | x::r,l,l',h=>by
  rw[List.cons_append]
  unfold z4s at h ⊢
  cases e:y8o l x with
  | error e'=>rw[e]at h;cases h
  | ok l1=>rw[e]at h;simp only at h ⊢;exact y3s h
theorem x4p {e:Int}:∀ {r l:List Cx} (s:List Cx),z4s l r=.error e->z4s l (r++s)=.error e
 | [],l,s,h=>by cases h
 | x::r,l,s,h=>by
  rw[List.cons_append]
  unfold z4s at h ⊢
  cases e1:y8o l x with
  | error e'=>rw[e1]at h;exact h
  | ok l1=>rw[e1]at h;simp only at h ⊢;exact x4p s h
theorem k5l {B:Bd}{r d:Int}:∀c∈z3q B r d,-1<=c.n/\c.n<=1:=by
 have I:∀i,∀c∈x3e B r d i,-1<=c.n/\c.n<=1:=λi c D=>by
  obtain⟨k,_,O⟩:=List.mem_flatMap.1 D;obtain⟨x,_,Z⟩:=List.mem_flatMap.1 O;obtain⟨o,_,rfl⟩:=List.mem_map.1 Z;unfold y7g;split<;>(simp only;omega)
 intro c D;unfold z3q at D;split at D;exact I _ c (List.mem_reverse.1 D);exact I _ c D
theorem j9v {pl:Int}(h:x6z pl):¬Int.tmod pl 2=0/\-9223372036854775808<=pl/\pl<=9223372036854775807:=by
 unfold x6z at h;omega
def y4p (p:MSt)(d:Int):MR:=match z6u p d p.ys with
  | .error e=>.error e
  | .ok ys=>match z4s p.cr (z3q p.B p.rk d) with
    | .error e=>.error e
    | .ok cr=>.ok { p with ys:=ys,cr:=cr }
def j0q (p:MSt)(c:Cx):MR:=match y8o p.cr c with
  | .error e=>.error e
  | .ok l=>.ok { p with cr:=l }
abbrev z3a (c:Cx):LId×LId:=if 0<z5m c.a c.b then (c.b,c.a) else (c.a,c.b)
section
variable {τ:TyK} {Mt:Nat} {wS w w':World} {a:MA} {m:MQ} {l:List Cx}
theorem MkM.cross (h:MkM τ Mt wS a w m)(hc:MapL crK w' a.gc (crM l))(hf:Fr [a.gc] w w'):MkM τ Mt wS a w' { m with cr:=l }:=by
 have o:∀ {α:Type} {E:Enc α} {T b:Nat} {v:Value} {ys:List α},Lw.Own E T b w v ys->Lw.Own E T b w' v ys:=λh'=>k0y h' h.c hf;refine⟨j9j h.k h.c hf,⟨⟨o h.b.f.1,λp O=>o (h.b.f.2 p O)⟩,⟨o h.b.b.1,λp O=>o (h.b.b.2 p O)⟩⟩,⟨o h.y.out,λi D=>o (h.y.ins i D)⟩,⟨o h.t.out,λi D=>o (h.t.ins i D),h.t.off,λi D q Z=>⟨o (h.t.lps i D q Z).1,o (h.t.lps i D q Z).2⟩⟩,hc,o h.f,h.fb,h.ft,h.ly,h.lt,h.gk,h.gc,h.fr.step hf (λk I=>.inl (List.mem_singleton.1 I)) λk I a0=>?_⟩;rw[List.mem_singleton]at I;have:=h.gc;omega
end
theorem u5z {a b:LId}{l:List Cx}(h:∀c∈l,-1048576<=c.n/\c.n<=1048576):-1048576<=z5n l a b/\z5n l a b<=1048576:=by
 unfold z5n;cases e:l.find? (isC a b) with
 | none=>simp
 | some c=>exact h c (List.mem_of_find?_eq_some e)
theorem x0t (l:List Cx)(c:Cx):y8o l c=if z5n l (z3a c).1 (z3a c).2+c.n < -1048576\/1048576<z5n l (z3a c).1 (z3a c).2+c.n then .error 3 else if z5n l (z3a c).1 (z3a c).2+c.n=0 then .ok (x9z l (z3a c).1 (z3a c).2) else .ok (y9q l (z3a c).1 (z3a c).2 (z5n l (z3a c).1 (z3a c).2+c.n)):=rfl
theorem x8b (p:MSt)(c:Cx):j0q p c=if z5n p.cr (z3a c).1 (z3a c).2+c.n < -1048576\/1048576<z5n p.cr (z3a c).1 (z3a c).2+c.n then .error 3 else if z5n p.cr (z3a c).1 (z3a c).2+c.n=0 then .ok { p with cr:=x9z p.cr (z3a c).1 (z3a c).2 } else .ok { p with cr:=y9q p.cr (z3a c).1 (z3a c).2 (z5n p.cr (z3a c).1 (z3a c).2+c.n) }:=by
 unfold j0q;rw[x0t];generalize z5n p.cr (z3a c).1 (z3a c).2+c.n=n;by_cases h1:n < -1048576\/1048576<n;rw[if_pos h1,if_pos h1];rw[if_neg h1,if_neg h1];by_cases h2:n=0;rw[if_pos h2,if_pos h2];rw[if_neg h2,if_neg h2]
end Go.G08
namespace Go.Proofs.YtagnnbcnnmacmaaGreatDoor
open Go.Lw Go.G21 Go.G08 _root_.Go.Proofs.Tryz
theorem j3h (wS:World)(ka:MA)(m:MQ)(o:MOp)(w0:World)(hM:MkM τd 156 wS ka w0 m)(hi:MInv m.p)(hy:1<=o.y/\o.y<=6)(hn:z4g o.b o.p=0):Rets prog 85 #[.pointer (some ⟨ka.gk,0,none⟩),opV o] w0 λr w'=>MRet τd 156 wS ka (y4c m.p o) r w':=by
 have d0:=hM.fr.size;have b3:=hM.gk;have b5:=hM.k.lt;refine we [(0,.pointer (some ⟨ka.gk,0,none⟩)),(1,opV o)] func85 U ntmps85 U (.c2 U U) ?_;have Z:=hM;refine sr (bx U (λg3 w1 b9 D q1 z1=>(asg U (nn (sr (mv U (z0m U D v4e ?_)))))));replace hM:=Z.ext q1;refine cl (ev2 U) (mkC func135) (x8p wS ka m o _ hM hi hy hn) U ?_;rintro _ w2 ⟨rfl,q2⟩;have z2:=q2.size;refine mv U (xt U (xt U (xt U (asg U (asg U (asg U (kpL [(0,_),(3,_),(5,_),(6,_),(7,_)] (.c5 U U U U U) (nn (sq (sr (mv U (ne' U (nn (cd U (λc0=>?_) (λc0=>?_)))))))))))))));refine sr (mv U (asg U (kpL [(4,_)] (.cons U .nil) (nn (rt (tr (r1 results85 U ?_)))))));replace hM:=Z.ext (q1.n1 q2);exact⟨_,rfl,MRet.err (by unfold y4c;rw[if_pos c0]) c0 hM.fr⟩;have O:z7i m.p o=0:=Classical.not_not.1 c0;refine sk (tn (sq (sr (mv U (fad U z5f ?_)))));replace D:=D.ext q2;refine z0i U D U na5 (mv U (mv U ?_));replace hM:=Z.ext (q1.n1 q2);have a5:=hM.fr;refine cl (z0a U (z0a U (z0a U (z0a U z0g)))) (mkC func136) (x8i wS { ka with wk:=w2 } m o.y (if z7i m.p o=0 then behP m.p o else 0) (if z7i m.p o=0 then (z2s o.b o.p m.rk) else 0) _ hM.mark hi hy) U ?_;intro _ w3 hR;obtain⟨rfl,a3,m1,b1⟩:=hR.split;have z3:=a3.kp.size;simp only at z3;replace D:=a3.kp.blk D (by have:=hM.gcne D;exact this) dd;refine asg U (kpL [(0,_),(3,_),(8,_)] (.c3 U U U) (nn (sr (mv U (ne' U (nn (cd U (λc1=>?_) (λc1=>?_))))))));exact sr (mv U (asg U (nn (rt (tr (r1 results85 U ⟨_,rfl,MRet.err (by have hx:=y2r c1;unfold y4c;rw[if_neg c0];rw[if_pos O,if_pos O]at hx;rw[hx,if_pos O,if_pos O]) c1 (a3.un a5)⟩))))));obtain⟨b0,a4⟩:=b1 (Classical.not_not.1 c1);rw[if_pos O,if_pos O]at a4;obtain⟨a6,b8,c9⟩:=y1x hi hy a4;obtain⟨⟨hf,hb⟩,h4,a9⟩:=z4b a6.B;replace hM:=b0.unmark a5;have Z:=hM;have hk:=hM.k;have b4:=hk.lt;refine sk (tn (sq ?_));intro a h;refine z0h (some 9) (λwb w'=>Fr [] wb w') z2y ?_;intro w4 q4;have z4:=q4.size;replace D:=D.ext q4;replace hM:=hM.ext q4;replace hk:=hk.ext q4;have hC:Fr [] w4 w4:=Fr.refl _ _;have I:=D;have a1:=hM;have a2:=hk;refine z0d 0 h U λa h=>z0z 1 h U (λ_ hw=>I.ext hw) v4e U λa h=>z0d 2 h U λa h=>z0o 3 h U λa h=>z0c 4 h U z3s U λa h=>z1d (vs:=[_,_]) 5 h U (λ_ hw=>(a2.ext hw)) z6k U U λa h=>z0c 6 h U z6r U λa h=>z1d (vs:=[_,_]) 7 h U (λ_ hw=>(I.ext hw)) z8c U U λa h=>z0e 8 U (z0n h (z0a U (z0a U z0g)) u8w (x4d m1.q o.b o.p _ hM.b.at (by have:=z3n hn;omega) hf hb h4 a9) ?_);rintro d1 w5 ⟨a0,hq⟩ a h;have z5:=hq.size;replace D:=D.ext hq;replace hM:=hM.ext hq;replace hk:=hk.ext hq;replace hC:=hC.next hq;have q5:=hq;rw[y9n hn]at a0;obtain⟨a7,a8,rfl,b2⟩:=a0.sl.form;refine z0b (z0e 9 U (z0n h (z0a U (z0a U (z0a U (z0a U z0g)))) (mkC func137) (v9y wS ka m1 o (a7,(m1.q.p.at o.b o.p).length,a8) (m1.q.p.at o.b o.p) (.slice none 0 0) [] _ hM a6 hy hn (a0.low oo) (λk hk hb=>by have b6:=(a0.blk k hk).1;have b7:=(a1.f.blk k hb).2;omega) (Sl.nil _) (.inl U)) ?_));rintro d3 w6 hR a h;refine z1h (z0e 10 U (z0s h U λa h=>?_));refine z1h (z0r ?_);clear hC I a1 a2;exact bk (h.sub (L':=[(4,_)]) (.cons U .nil)) (tn (rt (r1 results85 U ⟨_,rfl,by rw[show y4c m.p o=_ from by unfold y4c;rw[if_neg c0,a4]];exact hR⟩)))
theorem j3t (wS:World)(ka:MA)(m:MQ)(o:MOp)(w0:World)(hM:MkM τd 156 wS ka w0 m)(hi:MInv m.p)(hy:1<=o.y/\o.y<=6)(hn:z4g o.b o.p=0):Rets prog 86 #[.pointer (some ⟨ka.gk,0,none⟩),opV o] w0 λr w'=>MRet τd 156 wS ka (y2s m.p o) r w':=by
 have b9:=hM.fr.size;have b1:=hM.gk;have b3:=hM.k.lt;refine we [(0,.pointer (some ⟨ka.gk,0,none⟩)),(1,opV o)] func86 U ntmps86 U (.c2 U U) ?_;have Z:=hM;refine sr (bx U (λg3 w1 b7 D q1 z1=>(asg U (nn (sr (mv U (z0m U D v4e ?_)))))));replace hM:=Z.ext q1;refine cl (ev2 U) (mkC func135) (x8p wS ka m o _ hM hi hy hn) U ?_;rintro _ w2 ⟨rfl,q2⟩;refine mv U (xt U (xt U (xt U (asg U (asg U (asg U (kpL [(0,_),(3,_),(5,_),(6,_),(7,_)] (.c5 U U U U U) (nn (sq (sr (mv U (ne' U (nn (cd U (λc0=>?_) (λc0=>?_)))))))))))))));refine sr (mv U (asg U (kpL [(4,_)] (.cons U .nil) (nn (rt (tr (r1 results86 U ?_)))))));replace hM:=Z.ext (q1.n1 q2);exact⟨_,rfl,MRet.err (by unfold y2s;rw[if_pos c0]) c0 hM.fr⟩;have I:z7i m.p o=0:=Classical.not_not.1 c0;refine sk (tn (sq (sr (mv U (fad U z5f ?_)))));replace D:=D.ext q2;refine z0i U D U na5 (mv U (mv U ?_));replace hM:=Z.ext (q1.n1 q2);have a5:=hM.fr;refine cl (z0a U (z0a U (z0a U (z0a U z0g)))) (mkC func136) (x8i wS { ka with wk:=w2 } m o.y (if z7i m.p o=0 then behP m.p o else 0) (if z7i m.p o=0 then (z2s o.b o.p m.rk) else 0) _ hM.mark hi hy) U ?_;intro _ w3 hR;obtain⟨rfl,a2,m1,a9⟩:=hR.split;have z3:=a2.kp.size;simp only at z3;replace D:=a2.kp.blk D (by have:=hM.gcne D;exact this) dd;refine asg U (kpL [(0,_),(3,_),(8,_)] (.c3 U U U) (nn (sr (mv U (ne' U (nn (cd U (λc1=>?_) (λc1=>?_))))))));exact sr (mv U (asg U (nn (rt (tr (r1 results86 U ⟨_,rfl,MRet.err (by have hx:=y2r c1;unfold y2s;rw[if_neg c0];rw[if_pos I,if_pos I]at hx;rw[hx,if_pos I,if_pos I]) c1 (a2.un a5)⟩))))));obtain⟨a8,a0⟩:=a9 (Classical.not_not.1 c1);rw[if_pos I,if_pos I]at a0;obtain⟨a6,b6,b8⟩:=y1x hi hy a0;obtain⟨⟨hf,hb⟩,h4,a7⟩:=z4b a6.B;replace hM:=a8.unmark a5;have Z:=hM;have hk:=hM.k;have b2:=hk.lt;refine sk (tn (sq ?_));intro a h;refine z0h none (λwb w'=>Fr [] wb w') z2y ?_;intro w4 q4;replace D:=D.ext q4;replace hM:=hM.ext q4;replace hk:=hk.ext q4;have hC:Fr [] w4 w4:=Fr.refl _ _;have O:=D;have a4:=hM;have a1:=hk;refine z0d 0 h U λa h=>z0o 1 h U λa h=>z0c 2 h U z3s U λa h=>z1d (vs:=[_,_]) 3 h U (λ_ hw=>(a1.ext hw)) z6k U U λa h=>z0c 4 h U z6r U λa h=>z1d (vs:=[_,_]) 5 h U (λ_ hw=>(O.ext hw)) z8c U U λa h=>z0e 6 U (z0n h (z0a U (z0a U z0g)) u8w (x4d m1.q o.b o.p _ hM.b.at (by have:=z3n hn;omega) hf hb h4 a7) ?_);rintro c9 w5 ⟨a3,hq⟩ a h;replace D:=D.ext hq;replace hM:=hM.ext hq;replace hk:=hk.ext hq;replace hC:=hC.next hq;have q5:=hq;rw[y9n hn]at a3;obtain⟨b4,b5,rfl,b0⟩:=a3.sl.form;refine z0b (z0e 7 U (z0s h U λa h=>?_));refine z0b (z0r ?_);clear hC O a4 a1;refine bk (h.sub (L':=[(0,_),(3,_),(9,_)]) (.c3 U U U)) (tn (sq (sr (mv U (lnS U underlying42 (ge' U (nn (cd U (λc2=>?_) (λc2=>?_)))))))));exact sr (asg U (nn (rt (tr (r1 results86 U ⟨_,rfl,MRet.err (by unfold y2s;rw[if_neg c0,a0];simp only;rw[if_pos (show 4<=(m1.q.p.at o.b o.p).length by omega)]) dd hM.fr⟩)))));refine sk (tn (sr (mv U (z0m U D v4e (mv U (cl (z0a U (z0a U (z0a U (z0a U z0g)))) (mkC func137) (v9y wS ka m1 o sv0 [] _ (m1.q.p.at o.b o.p) _ hM a6 hy hn (Own.nil _) (λk hk=>by cases hk) a3.sl (.inr ⟨rfl,oo⟩)) U ?_))))));rintro d0 w6 hR;exact asg U (kpL [(4,_)] (.cons U .nil) (nn (rt (r1 results86 U ⟨_,rfl,by rw[show y2s m.p o=x2r m1.p o [] (m1.q.p.at o.b o.p) from by unfold y2s;rw[if_neg c0,a0];simp only;rw[if_neg (show ¬4<=(m1.q.p.at o.b o.p).length by omega)]];exact hR⟩))))
theorem j1i:z4i prog 157 4:=⟨λ_=>kr0,λ_=>kr0⟩
theorem j5h:BuildAt prog 157 [(0,2),(2,2)] [(.int .u8 0),(.int .i64 0),(.int .u8 0),(.int .i64 0)]:=BuildAt.array (sz:=2) underlying157 (λ_=>kr0) (λ_=>kr0) (λi q h=>by match i,h with|0,h=>simpa using h.symm|1,h=>simpa using h.symm|(k+2),h=>simp at h)
theorem j6k:CallOf prog 93:=mkC func93
theorem y4j:z0y prog 156 4 5:=λ_ _=>kr0
theorem x7q:z0y prog 232 0 0:=λ_ _=>kr0
theorem x9a:z0y prog 232 1 2:=λ_ _=>kr0
theorem j1v:z0y prog 232 2 4:=λ_ _=>kr0
theorem v3o:z2a prog 153:=λ_=>kr0
theorem j3e:z1r prog 157 4:=λ_=>kr0
theorem j9w (w:World):(zeroValue 157).run prog w=.ok (.agg #[(.int .u8 0),(.int .i64 0),(.int .u8 0),(.int .i64 0)]) w:=kr0
theorem k4w (p q:LId×LId)(w:World):(Op.equal 157 (crK p) (crK q)).run prog w=.ok (decide (p=q)) w:=by
 obtain⟨⟨y1,n1⟩,⟨y2,n2⟩⟩:=p;obtain⟨⟨y3,n3⟩,⟨y4,n4⟩⟩:=q;have D:prog.stoodInHeld 54=false:=by kernel_rfl
 have I:(sizeOf 54).run prog w=.ok 2 w:=by kernel_rfl
 unfold crK Op.equal Op.maxDepth Op.equalIn;simp only[Sem.run_bind,run_underlying underlying157,Result.andThen_ok,I];have O:∀a b c d:Value,(part 54 #[a,b,c,d] (0*2)).run prog w=.ok (.agg #[a,b]) w:=λa b c d=>by kernel_rfl
 have Z:∀a b c d:Value,(part 54 #[a,b,c,d] (1*2)).run prog w=.ok (.agg #[c,d]) w:=λa b c d=>by kernel_rfl
 rw[Std.Legacy.Range.forIn_eq_forIn_range'];simp[List.range',List.forIn_cons,O,Z,go_sem,D,underlying54];(repeat' split)<;>simp_all
theorem v1j:KeyLaw prog 157 crK:=KeyLaw.asking underlying157 (λ_ _=>rfl) (λ_ _ _=>kr0) k4w (λ_=>by simp[crK,Instr.sameBits])
theorem zvI2 (w:World):(zeroValue 3).run prog w=.ok (.int .i64 0) w:=kr0
theorem j0p (wS:World)(ka:MA)(m:MQ)(c:Cx)(w0:World)(hM:MkM τd 156 wS ka w0 m)(a7:∀x∈m.cr,-1048576<=x.n/\x.n<=1048576)(a8:-1<=c.n/\c.n<=1):Rets prog 175 #[.pointer (some ⟨ka.gk,0,none⟩),.agg #[.int .u8 c.a.y,.int .i64 c.a.n,.int .u8 c.b.y,.int .i64 c.b.n,.int .i64 c.n]] w0 λr w'=>MRet τd 156 wS ka (j0q m.p c) r w':=by
 have b3:=hM.fr.size;have hk:=hM.k;have b2:=hk.lt;have b1:=u5z (a:=(z3a c).1) (b:=(z3a c).2) a7;refine we [(0,.pointer (some ⟨ka.gk,0,none⟩)),(1,.agg #[.int .u8 c.a.y,.int .i64 c.a.n,.int .u8 c.b.y,.int .i64 c.b.n,.int .i64 c.n])] func175 U ntmps175 U (.c2 U U) ?_;have a6:=hM;refine sr (bx U (λg3 w1 a9 O q1 z1=>?_));refine asg U (nn (sr (fad U x7q (z2r (vs:=[_,_]) U O z3x U (fad U x9a (z2r (vs:=[_,_]) U O z3x U (z1z (cs:=[_,_,_,_]) (ev2 U) j5h (z0f U (z0f U z0t)) U ?_)))))));refine al j9w U (λg5 w2 b0 D q2 z2=>(z0k (vs:=[_,_,_,_]) U D j3e (λw3 D q3 z3=>(nn (jn (ι:=Unit) [(0,_),(3,_),(5,_)] (λ_j=>[]) (λ_j w'=>Fr [g5] w3 w'/\Blk w' g5 157 [.int .u8 (z3a c).1.y,.int .i64 (z3a c).1.n,.int .u8 (z3a c).2.y,.int .i64 (z3a c).2.n]) (.c3 U U U) ?_ ?_)))));refine sr (fad U x7q ?_);replace O:=(O.ext q2).fr q3;refine z2r (vs:=[_,_]) U O z3x U (fad U x9a (z2r (vs:=[_,_]) U O z3x U (cl (ev2 U) j6k (y0l ⟨_,_⟩ ⟨_,_⟩ _) U ?_)));rintro _ w4 ⟨rfl,q4⟩;refine gt' U (nn (cd U (λc0=>?_) (λc0=>?_)));refine rg (fad U x9a ?_);replace O:=O.ext q4;refine z2r (vs:=[_,_]) U O z3x U (fad U x7q (z2r (vs:=[_,_]) U O z3x U (z1z (cs:=[_,_,_,_]) (ev2 U) j5h (z0f U (z0f U z0t)) U ?_)));replace D:=D.ext q4;exact z0k (vs:=[_,_,_,_]) U D j3e (λw5 D q5 z5=>(kpL [(0,_),(3,_),(5,_)] (.c3 U U U) (nl (jE (()) (.c3 U U U) ⟨((Fr.refl [g5] _).z2 q4 q5),(by rw[show z3a c=(c.b,c.a) from if_pos c0];exact D)⟩))));refine sk ?_;replace D:=D.ext q4;exact jE (()) (.c3 U U U) ⟨((Fr.refl [g5] _).n1 q4),(by rw[show z3a c=(c.a,c.b) from if_neg c0];exact D)⟩;rintro _j w6 ⟨q6,D⟩;have a5:=D.lt;refine kpC [(0,_),(3,_),(5,_)] (.c3 U U U) (sq ?_);replace hM:=a6.ext (q1.z3 q2 q3 q6);replace hk:=((hk.ext (q1.n1 q2)).fr q3).fr q6;replace O:=((O.ext q2).fr q3).fr q6;intro a h;refine z0h none (λwb w'=>Fr [] wb w') z2y ?_;intro w7 q7;replace hM:=hM.ext q7;replace hk:=hk.ext q7;replace O:=O.ext q7;replace D:=D.ext q7;have hC:Fr [] w7 w7:=Fr.refl _ _;have a0:=hM;have Z:=hk;have a1:=O;have I:=D;refine z0d 0 h U λa h=>z0o 1 h U λa h=>z0c 2 h U y4j U λa h=>z0j 3 h U (λ_ hw=>Z.ext hw) U v3o U λa h=>z0z 4 h U (λ_ hw=>I.ext hw) j1i U λa h=>z0c 6 h U j1v U λa h=>z0j 7 h U (λ_ hw=>a1.ext hw) U na3 U λa h=>z0e 5 U (x6r (V:=crK) (k:=z3a c) (f:=z2t (crM m.cr)) h U U hM.c.f v1j underlying153 zvI2 (v7c (z3a c).1 (z3a c).2 m.cr) U λa h=>?_);refine z0b (z4d 8 h U (by first|exact i6 oo|rfl) U λa h=>z0e 9 U (z0s h U λa h=>?_));refine z0b (z0r ?_);clear hC a0 Z a1 I;refine bk (h.sub (L':=[(0,_),(5,_),(6,_)]) (.c3 U U U)) (tn (sq (sq (rbo (r:=37) (L':=[(0,_),(5,_),(6,_)]) (((((z5n m.cr (z3a c).1 (z3a c).2)+c.n) < -1048576)\/(1048576<((z5n m.cr (z3a c).1 (z3a c).2)+c.n)))) (.c3 U U U) ?_ ?_))));refine mv U (lt' U (mv U (gs 34 U (λg0=>?_) (λg0=>?_))));exact gN U (gN U (pkt U (rbe U (.c3 U U U))));exact gY U (mv U (gY U (gt' U (pkf U (rbe U (.c3 U U U))))));refine tn (cd U (λc1=>?_) (λc1=>?_));exact sr (asg U (nn (rt (tr (r1 results175 U ⟨_,rfl,MRet.err (by rw[x8b,if_pos c1]) dd hM.fr⟩)))));refine sk (tn (sq (sr (mv U (eq' U (nn (cd U (λc2=>?_) (λc2=>?_))))))));intro a h;refine z0h (some 5) (λwb w'=>Fr [] wb w') z2y ?_;intro w8 q8;replace hM:=hM.ext q8;replace hk:=hk.ext q8;replace D:=D.ext q8;have hC:Fr [] w8 w8:=Fr.refl _ _;have a0:=hM;have Z:=hk;have I:=D;refine z0d 0 h U λa h=>z0o 1 h U λa h=>z0c 2 h U y4j U λa h=>z0j 3 h U (λ_ hw=>Z.ext hw) U v3o U λa h=>z0z 4 h U (λ_ hw=>I.ext hw) j1i U λa h=>z0e 5 U (j5f (V:=crK) (k:=z3a c) h U U hM.c v1j underlying153 U λw9 a2 hq _hz a h=>?_);replace hM:=hM.cross (l:=x9z m.cr (z3a c).1 (z3a c).2) (by rw[v6h _ _ _ hM.c.nodup];exact a2) hq;refine z1h (z0r ?_);clear hC a0 Z I;exact bk (h.sub (L':=[]) .nil) (tn (sr (asg U (nn (rt (r1 results175 U ⟨_,rfl,MRet.ok (by rw[x8b,if_neg c1,if_pos c2]) hM⟩))))));intro a h;refine z0h (some 6) (λwb w'=>Fr [] wb w') z2y ?_;intro a4 a3;replace hM:=hM.ext a3;replace hk:=hk.ext a3;replace D:=D.ext a3;have hC:Fr [] a4 a4:=Fr.refl _ _;have a0:=hM;have Z:=hk;have I:=D;refine z0d 0 h U λa h=>z0o 1 h U λa h=>z0c 2 h U y4j U λa h=>z0j 3 h U (λ_ hw=>Z.ext hw) U v3o U λa h=>z0z 4 h U (λ_ hw=>I.ext hw) j1i U λa h=>z0d 5 h U λa h=>z0e 6 U (y8w (V:=crK) (k:=z3a c) (v:=.int .i64 ((z5n m.cr (z3a c).1 (z3a c).2)+c.n)) h U U U hM.c v1j underlying153 λb4 a2 hq _hz a h=>?_);replace hM:=hM.cross (l:=y9q m.cr (z3a c).1 (z3a c).2 (z5n m.cr (z3a c).1 (z3a c).2+c.n)) (by rw[v7u _ _ _ _ hM.c.nodup];exact a2) hq;refine z1h (z0r ?_);clear hC a0 Z I;exact bk (h.sub (L':=[]) .nil) (tn (sr (asg U (nn (rt (r1 results175 U ⟨_,rfl,MRet.ok (by rw[x8b,if_neg c1,if_neg c2]) hM⟩))))))
end Go.Proofs.YtagnnbcnnmacmaaGreatDoor
