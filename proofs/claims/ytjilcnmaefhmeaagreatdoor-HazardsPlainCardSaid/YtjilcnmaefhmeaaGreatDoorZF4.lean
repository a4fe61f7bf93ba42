/- Texts of the proof, joined. -/
import Derived.Test.YtjilcnmaefhmeaaGreatDoorRows
import Derived.Maps.RangeRun
import Derived.Test.YtjilcnmaefhmeaaGreatDoorZF3
set_option linter.unusedVariables false
set_option linter.unusedSimpArgs false
set_option maxHeartbeats 4000000
namespace Go.Proofs.YtjilcnmaefhmeaaGreatDoor
open Go.Lw Go.G21 Go.G08 _root_.Go.Proofs.Tryz
theorem k0x (w:World):(zeroValue 202).run prog w=.ok (.slice none 0 0) w:=kr
theorem v6h (q:BdQ)(r:Int)(w0:World)(hB:BdAt w0 q)(hv:BdOk q.p)(hr:-4<=r/\r<=4):Rets prog 117 #[.agg #[.slice q.f.1 q.f.2.1 q.f.2.2,.slice q.b.1 q.b.2.1 q.b.2.2],.int .i64 r] w0 λv w'=>(∃g,v=.tuple #[.slice (some ⟨g,0,none⟩) (z2q q.p r).length (z2q q.p r).length,.int .i64 0]/\w0.heap.size<=g/\Lw.Own z3i 206 w0.heap.size w' (.slice (some ⟨g,0,none⟩) (z2q q.p r).length (z2q q.p r).length) (z2q q.p r))/\Fr [] w0 w':=by
 obtain⟨⟨hf,hb⟩,h4,a4⟩:=z3t hv;have hN:=y2f hv;have b8:=y9b q.p r;have d0:(z2q q.p r).length=(v7d q.p r).length:=z4e _;refine we [(0,.agg #[.slice q.f.1 q.f.2.1 q.f.2.2,.slice q.b.1 q.b.2.1 q.b.2.2]),(1,.int .i64 r)] func117 U ntmps117 U (.c2 U U) ?_;have a2:=hB;refine sr (bx U (λg2 w1 b9 D q1 z1=>(bx U (λg3 w2 c1 Z q2 z2=>(asg U (asg U (nn (sq (sr ?_)))))))));replace D:=D.ext q2;refine z0m U D z4s (z4d U Z na3 ?_);replace hB:=a2.ext (q1.n1 q2);refine cl (ev2 U) (mkC func161) (x1j q _ _ hB hv oo) U ?_;rintro _ w3 ⟨rfl,q3⟩;have z3:=q3.size;replace Z:=Z.ext q3;replace D:=D.ext q3;have O:BdAt w3 q:=a2.ext (q1.n2 q2 q3);have M:=Z;have b7:=M.lt;have a6:=D;refine asg U (nn (sr (mv U U (ne' U (nn (cd U (λc0=>?_) (λc0=>?_)))))));exact absurd U c0;refine sk (tn (sr (z0m U D z4s ?_)));replace hB:=a2.ext (q1.n2 q2 q3);refine cl (ev1 U) (mkC func110) (x2t q _ hB hf hb h4 a4) U ?_;rintro _ w4 ⟨rfl,q4⟩;have z4:=q4.size;refine z1e (m:=0) (c:=q.p.flat.length) (hd0) U z3f v2p U (λa0 w5 b3 J q5 z5=>(al k0x U (λg7 w6 c9 I q6 z6=>(z5n U U I U j6i (λw7 I q7 z7=>(nn (sr (z9h z0g (ev2 U) U (asg U (nn (sr (mv U U (fad U y6p ?_)))))))))))));replace D:=(D.ext (q4.n2 q5 q6)).fr q7;refine z0i U D U x8b ?_;replace J:=(J.ext q6).fr q7 (by first|(intro k hk hb;rw[List.mem_singleton.1 hk]at hb;first|exact J.neB I dd hb|(have:=(J.blk _ hb).2;omega))|(simp;done));refine clv (us:=[]) (ws:=[.pointer (some ⟨g7,0,none⟩),.pointer (some ⟨g3,0,none⟩)]) U (ev2 U) (mkC func162) (v2j g7 g3 a0 0 r _ _ q.fs [] w3 _ (q4.z3 q5 q6 q7) O.f O.fi M oo oo oo I J dd oo h4 (by first|(simp;done)|(have:=x5e 0 r q.fs h4 q.fs.length;simp;omega)) ⟨_,_,_,rfl⟩) U (by intro g e;cases e) ?_;rintro _ w8 ⟨rfl,⟨d1,I,J,a7⟩,hz22,q8⟩;have z8:=q8.size;refine nn (sr (mv U U (fad U y2r ?_)));replace D:=a6.ext q8;refine z0i U D U x8b (clv (us:=[]) (ws:=[.pointer (some ⟨g7,0,none⟩),.pointer (some ⟨g3,0,none⟩)]) U (ev2 U) (mkC func162) (v2j g7 g3 a0 1 r _ _ q.bs ([]++hds 0 r (plB q.fs) q.fs.length) w3 _ q8 O.b O.bi M oo oo oo I J dd oo a4 (by first|(simp;done)|(have:=x5e 0 r q.fs h4 q.fs.length;simp;omega)) a7) U (by intro g e;cases e) ?_);rintro _ w9 ⟨rfl,⟨d3,I,J,a8⟩,hz26,q9⟩;have z9:=q9.size;rw[List.nil_append,show hds 0 r (plB q.fs) q.fs.length++hds 1 r (plB q.bs) q.bs.length=v7d q.p r by unfold v7d;simp only[List.length_map]]at J;obtain⟨a1,b5,rfl⟩:=u0x a8 J;have b6:=(J.blk a1 (by simp[z0u])).1;have a5:g7∉[a1]:=λhk=>(J.neB I dd) (by simpa[z0u] using hk);refine kpL [(7,_)] (.cons U .nil) (nn (sr (z4d U I u8a (cl (ev2 U) (mkC func163) (u0o a1 _ a0 (v7d q.p r) _ J oo) U ?_))));rintro _ d4 ⟨rfl,J,a3⟩;have d6:=a3.size;refine nn (sr ?_);replace I:=I.fr a3 (by first|exact a5|(simp;omega));refine z4d U I u8a (cl (ev1 U) (mkC func165) (v1e _ (z2q q.p r) _ (by unfold z2q;exact J.sl) oo) U ?_);rintro _ d5 ⟨b0,rfl,b4,hX,a9⟩;have d7:=a9.size;exact asg U (asg U (nn (rt (r2 results117 U U ⟨_,rfl,⟨b0,rfl,oo,hX.low oo⟩,(q1.z5 q2 q3 q9 a3 a9)⟩))))
end Go.Proofs.YtjilcnmaefhmeaaGreatDoor
namespace Go.G08
open Go.Lw Go.G21
def btL (fr to:Int):Int:=if fr<to then fr else to
def btH (fr to:Int):Int:=if fr<to then to else fr
def btD (fr to:Int):Int:=if fr<to then 1 else 0
def btA (l:List Hd)(fr to:Int)(k:Nat):List Pa:=((l.take k).filter λh=>decide (btL fr to<h.s/\h.s<btH fr to)).map λh=>⟨h.id,decide (h.b=1),btD fr to⟩
theorem j8e {l:List Hd}{fr D:Int}{k:Nat}(I:k<l.length)(h:btL fr D<(l.getD k hd0).s/\(l.getD k hd0).s<btH fr D):btA l fr D (k+1)=btA l fr D k++[⟨(l.getD k hd0).id,decide ((l.getD k hd0).b=1),btD fr D⟩]:=by
 unfold btA;rw[z1z hd0 I,List.filter_append,List.map_append,List.filter_cons,if_pos (decide_eq_true h)];rfl
theorem j9b {l:List Hd}{fr D:Int}{k:Nat}(I:k<l.length)(h:¬(btL fr D<(l.getD k hd0).s/\(l.getD k hd0).s<btH fr D)):btA l fr D (k+1)=btA l fr D k:=by
 unfold btA;rw[z1z hd0 I,List.filter_append,List.filter_cons,if_neg (by simpa using h)];simp
theorem x4b (l:List Hd)(fr D:Int)(k:Nat):(btA l fr D k).length<=l.length:=by
 unfold btA;rw[List.length_map];refine Nat.le_trans (List.length_filter_le _ _) ?_;rw[List.length_take];omega
theorem j3z {l:List Hd}{fr D:Int}(h:¬btD fr D=0):btw l fr D=btA l fr D l.length:=by
 unfold btD at h;by_cases c:fr<D;unfold btw btA btL btH btD;rw[List.take_length];simp only[if_pos c];rw[if_neg c]at h;exact absurd U h
theorem j3o {l:List Hd}{fr D:Int}(h:btD fr D=0):btw l fr D=(btA l fr D l.length).reverse:=by
 unfold btD at h;by_cases c:fr<D;rw[if_pos c]at h;exact absurd h dd;unfold btw btA btL btH btD;rw[List.take_length];simp only[if_neg c]
theorem v7r (l:List Hd)(fr D:Int):(btw l fr D).length<=l.length:=by
 by_cases h:btD fr D=0;rw[j3o h,List.length_reverse];exact x4b l fr D _;rw[j3z h];exact x4b l fr D _
end Go.G08
namespace Go.Proofs.YtjilcnmaefhmeaaGreatDoor
open Go.Lw Go.G21 Go.G08 _root_.Go.Proofs.Tryz
theorem bo97:BuildAt prog 97 [(0,2),(2,1),(3,1)] [(.int .u8 0),(.int .i64 0),(.bool false),(.int .u8 0)]:=BuildAt.struct underlying97 (λ_=>kr) (λ_=>kr)
theorem y9i:z0x prog 206 0 0:=λ_ _=>kr
theorem y9g:z0x prog 206 1 2:=λ_ _=>kr
theorem u4i (v:Value)(l:List Hd)(fr D:Int)(w0:World)(hs:Sl z3i w0 v l)(hl:l.length<=1000):Rets prog 199 #[v,.int .i64 fr,.int .i64 D] w0 λr w'=>(∃g,r=.slice (some ⟨g,0,none⟩) (btw l fr D).length (btw l fr D).length/\w0.heap.size<=g/\Lw.Own z2f 97 w0.heap.size w' r (btw l fr D))/\Fr [] w0 w':=by
 obtain⟨A,c,rfl,b7,hM,hA⟩:=id hs;clear hA;unfold maxLen at hM;refine we [(0,.slice A l.length c),(1,.int .i64 fr),(2,.int .i64 D)] func199 U ntmps199 U (.c3 U U U) ?_;have a6:=hs;refine sr (asg U (nn (sr (mv U U (mv U U (asg U (asg U (asg U (nn (jn (ι:=Unit) [(0,_)] (λ_j=>[(7,.int .i64 (btL fr D)),(8,.int .i64 (btH fr D)),(9,.int .u8 (btD fr D))]) (λ_j w'=>Fr [] w0 w') (.cons U .nil) ?_ ?_))))))))));refine sr (mv U U (mv U U (gt' U (nn (cd U (λM=>?_) (λM=>?_))))));exact rg (mv U U (mv U U (asg U (asg U (asg U (nl (jE (()) (.c4 U (by first|(rw[show btL fr D=_ from if_pos M];rfl)|(rw[show btL fr D=_ from if_neg M];rfl)) (by first|(rw[show btH fr D=_ from if_pos M];rfl)|(rw[show btH fr D=_ from if_neg M];rfl)) (by first|(rw[show btD fr D=_ from if_pos M];rfl)|(rw[show btD fr D=_ from if_neg M];rfl))) (Fr.refl _ _))))))));exact sk (jE (()) (.c4 U (by first|(rw[show btL fr D=_ from if_pos M];rfl)|(rw[show btL fr D=_ from if_neg M];rfl)) (by first|(rw[show btH fr D=_ from if_pos M];rfl)|(rw[show btH fr D=_ from if_neg M];rfl)) (by first|(rw[show btD fr D=_ from if_pos M];rfl)|(rw[show btD fr D=_ from if_neg M];rfl))) (Fr.refl _ _));rintro _j w1 q1;have z1:=q1.size;refine kpC [(0,_),(7,_),(8,_),(9,_)] (.c4 U U U U) (sr (asg U (nn (sq (sr (mv U U (lnS U underlying202 (mv U U (nn (bl (lpK (ι:=Nat×Value) [(7,_),(8,_),(9,_),(20,_),(21,_)] (λp=>[(22,.int .i64 (p.1:Int)),(10,p.2)]) (λp w'=>Fr [] w0 w'/\p.1<=l.length/\Lw.Own z2f 97 w0.heap.size w' p.2 (btA l fr D p.1)) (λp=>l.length-p.1) (0,_) (.c7 U U U U U U U) ⟨q1,⟨Nat.zero_le _,Own.nil _⟩⟩ ?_)))))))))));rintro⟨k,vP⟩ w2 ⟨Z,⟨hk,J⟩⟩;simp only at hk J;have z2:=Z.size;refine kpC [(7,_),(8,_),(9,_),(20,_),(21,_),(22,.int .i64 (k:Int)),(10,vP)] (.c7 U U U U U U U) ?_;have b5:=x4b l fr D k;refine sr (lt' U (nn (sq (cd U (λc1=>?_) (λc1=>?_)))));refine sk (tn (sq (bl (sr ?_))));replace hs:=a6.ext Z;refine z1d (hd0) U hs U z3f z1i (λa7 a0=>?_);refine z1k U (a0 _ hs) z4w (al v2p U (λb3 w3 a8 I q3 z3=>?_));refine z0k (vs:=[_,_,_,_,_]) U I z7x (λw4 I q4 z4=>?_) (h1:=(by first|(simp[Value.oneCell',S];done)|exact z3i.one _));refine nn (sq (rbo (r:=35) (L':=[(7,_),(8,_),(9,_),(10,_),(12,_),(20,_),(21,_),(22,_)]) ((((btL fr D)<(l.getD k hd0).s)/\((l.getD k hd0).s<(btH fr D)))) (.c8 U U U U U U U U) ?_ ?_));refine fad U y9r (z0i U I U na3 (mv U U (gt' U (mv U U (gs 30 U (λg0=>?_) (λg0=>?_))))));exact gY U (fad U y9r (gY U (z0i U I U na3 (gY U (mv U U (gY U (lt' U (pkt U (rbe U (.c8 U U U U U U U U))))))))));exact gN U (gN U (gN U (gN U (pkf U (rbe U (.c8 U U U U U U U U))))));refine tn (cd U (λc2=>?_) (λc2=>?_));refine rg (mv U U (fad U y9i (z1w (vs:=[_,_]) U I z2w U (fad U y9g (y7l U z6u U (z0i U I U x9j (eq' U (mv U U (z1p (cs:=[_,_,_,_]) (ev3 U) bo97 (z0f U (z0f U (z0f U z0p))) U ?_)))))))));refine z2i ([(⟨(l.getD k hd0).id,decide ((l.getD k hd0).b=1),btD fr D⟩:Pa)]) (ev1 U) U y0d (λb4 w5 a9 a1 q5 z5=>?_);replace J:=((J.ext q3).fr q4 (by first|exact z7z J oo|simp[z0u]<;>omega)).ext q5;have O:=J;refine z2b U J a1.sl y0d (by unfold maxLen;simp only[List.length_cons,List.length_nil];omega) (by simp only[List.length_cons,List.length_nil];omega) (λb8 w6 J q6 a5=>?_);have z6:=q6.size;exact asg U (kpL [(7,_),(8,_),(9,_),(10,_),(20,_),(21,_),(22,_)] (.c7 U U U U U U U) (nl (bn' (tn (rg (z0z U (wi6 oo) (mv U U (nl (lpE ((k+1,_)) (.c7 U U U U U U U) ⟨((Z.z3 q3 q4 q5).step q6 (λk hk a3=>absurd (O.blk k hk).1 oo)),⟨sm,by rw[j8e oo c2];exact J⟩⟩ sm)))))))));refine sk (bn' (tn (rg (z0z U (wi6 oo) (mv U U (nl ?_))))));replace J:=(J.ext q3).fr q4 (by first|exact z7z J oo|simp[z0u]<;>omega);exact lpE ((k+1,_)) (.c7 U U U U U U U) ⟨(Z.z2 q3 q4),⟨sm,by rw[j9b oo c2];exact J⟩⟩ sm;obtain rfl:k=l.length:=by omega
 have b6:=v7r l fr D;refine ex (te (te (xh (tn (jn (ι:=Unit) [(10,_)] (λ_j=>[]) (λ_j w'=>Fr [] w0 w'/\Lw.Own z2f 97 w0.heap.size w' vP (btw l fr D)) (.cons U .nil) ?_ ?_)))));refine sr (mv U U (eq' U (kpL [(10,_),(49,_)] (.c2 U U) (nn (cd U (λc3=>?_) (λc3=>?_))))));refine rg (mv U U ?_);have a4:=J;refine cl (ev1 U) (mkC func250) (x2o w0.heap.size _ _ _ J oo) U ?_;rintro _ w7 ⟨J,q7⟩;have z7:=q7.size;exact nl (jE (()) (.cons U .nil) ⟨(Z.step q7 (λk hk a3=>absurd (a4.blk k hk).1 oo)),(by rw[j3o c3];exact J)⟩);exact sk (jE (()) (.cons U .nil) ⟨Z,(by rw[j3z c3];exact J)⟩);rintro _j w8 ⟨q8,J⟩;have z8:=q8.size;refine kpC [(10,_)] (.cons U .nil) (sr (mv U U (cl (ev1 U) (mkC func251) (y4u _ (btw l fr D) _ J.sl oo) U ?_)));rintro _ w9 ⟨a2,rfl,b0,hX,q9⟩;have z9:=q9.size;exact asg U (nn (rt (r1 results199 U ⟨_,rfl,⟨a2,rfl,oo,hX.low oo⟩,(q8.n1 q9)⟩)))
end Go.Proofs.YtjilcnmaefhmeaaGreatDoor
namespace Go.G08
open Go.Lw Go.G21
theorem Own.neO {α β:Type}{E:Enc α}{I:Enc β}{T T' b J:Nat}{w:World}{v v':Value}{ys:List α}{zs:List β}(h:Lw.Own E T b w v ys)(M:Lw.Own I T' J w v' zs)(O:T≠T'):∀k∈z0u v,k∉z0u v':=by
 intro k D;rcases h with ⟨rfl,rfl⟩|⟨g,cap,cur,rfl,_,Z,_⟩
 cases D;obtain rfl:k=g:=by simpa[z0u] using D
 exact M.neB Z (Ne.symm O)
theorem v4t (B:Bd)(r d:Int)(i:Nat):v0c B r d (i+1)=v0c B r d i++u3r B r d i:=by unfold v0c;rw[List.range_succ,List.flatMap_append];simp
theorem y7q (B:Bd)(r d p:Int)(i:Nat):y6e B r d p (i+1)=y6e B r d p i++x2y B r d p i:=by unfold y6e;rw[List.range_succ,List.flatMap_append];simp
theorem v3k {α β:Type}(f:α->List β){l:List α}{j:Nat}(d:α)(h:j<l.length):(l.take (j+1)).flatMap f=(l.take j).flatMap f++f (l.getD j d):=by
 rw[z1z d h,List.flatMap_append];simp
theorem v5n {B:Bd}(h:BdOk B)(k:Nat):(B.b.getD k []).length<=4:=by
 have:=z9r h 1 ((k:Int)+1);unfold Bd.at atB at this;rwa [if_neg dd,show ((k:Int)+1-1).toNat=k by omega]at this
theorem x6e {B:Bd}(h:BdOk B)(b n:Int):(B.atC b n).length<=4:=by
 unfold Bd.atC;split;exact z9r h b n;simp
theorem flat_len {α β:Type}(f:α->List β)(m:Nat)(hf:∀x,(f x).length<=m):∀l:List α,(l.flatMap f).length<=m*l.length
 | []=>by simp
 | x::l=>by have:=flat_len f m hf l;have:=hf x;rw[List.flatMap_cons,List.length_append,List.length_cons];rw[Nat.mul_succ];omega
theorem v8q {B:Bd}(h:BdOk B)(r d:Int)(k:Nat):(u3r B r d k).length<=16:=by
 unfold u3r;have D:=flat_len (λx=>(B.atC 0 (y0f r d k)).reverse.map (x9e d x)) 4 (λx=>by rw[List.length_map,List.length_reverse];exact x6e h _ _) (B.b.getD k []);have:=v5n h k;omega
theorem x6k {B:Bd}(h:BdOk B)(r d:Int)(i:Nat):(v0c B r d i).length<=16*i:=by
 have:=flat_len (u3r B r d) 16 (v8q h r d) (List.range i);rw[List.length_range]at this;exact this
theorem v1o {B:Bd}(h:BdOk B)(r d p:Int)(k:Nat):(x2y B r d p k).length<=4:=by
 unfold x2y;split;simp;rw[List.length_map];exact v5n h k
theorem x2m {B:Bd}(h:BdOk B)(r d p:Int)(i:Nat):(y6e B r d p i).length<=4*i:=by
 have:=flat_len (x2y B r d p) 4 (v1o h r d p) (List.range i);rw[List.length_range]at this;exact this
theorem x1m {B:Bd}(h:BdOk B)(r d p:Int):(z6z B r d p).length<=4*B.b.length:=by
 have:=x2m h r d p B.b.length;unfold z6z;split;rw[List.length_reverse];exact this;exact this
theorem y4j {B:Bd}(h:BdOk B)(r d:Int):(z4h B r d).length<=16*B.b.length:=by
 have:=x6k h r d B.b.length;unfold z4h;split;rw[List.length_reverse];exact this;exact this
end Go.G08
namespace Go.Proofs.YtjilcnmaefhmeaaGreatDoor
open Go.Lw Go.G21 Go.G08 _root_.Go.Proofs.Tryz
theorem u0e (q:BdQ)(r d I:Int)(w0:World)(O:BdAt w0 q)(hv:BdOk q.p)(hT:StT w0)(hr:-4<=r/\r<=4)(hd:d=0\/d=1)(d9:-4<=r+stI d/\r+stI d<=4)(hp:¬Int.tmod I 2=0)(d6:-9223372036854775808<=I/\I<=9223372036854775807):Rets prog 195 #[.agg #[.slice q.f.1 q.f.2.1 q.f.2.2,.slice q.b.1 q.b.2.1 q.b.2.2],.int .i64 r,.int .u8 d,.int .i64 I] w0 λv w'=>(∃g,v=.tuple #[.slice (some ⟨g,0,none⟩) (z6z q.p r d I).length (z6z q.p r d I).length,.int .i64 0]/\w0.heap.size<=g/\Lw.Own z2f 97 w0.heap.size w' (.slice (some ⟨g,0,none⟩) (z6z q.p r d I).length (z6z q.p r d I).length) (z6z q.p r d I))/\Fr [] w0 w':=by
 obtain⟨⟨hf,hb⟩,h4,b0⟩:=z3t hv;have b4:=x1m hv r d I;rw[List.length_map]at b4;refine we [(0,.agg #[.slice q.f.1 q.f.2.1 q.f.2.2,.slice q.b.1 q.b.2.1 q.b.2.2]),(1,.int .i64 r),(2,.int .u8 d),(3,.int .i64 I)] func195 U ntmps195 U (.c4 U U U U) ?_;have J:=O;have a1:=hT;refine sr (bx U (λg4 w1 d5 Z q1 z1=>(asg U (asg U (nn (sq (sr (z0m U Z z4s (mv U U (mv U U ?_))))))))));replace O:=J.ext q1;replace hT:=a1.ext q1;refine cl (ev3 U) (mkC func249) (x3m q _ _ _ O hv hT oo hd oo) U ?_;rintro _ w2 ⟨rfl,q2⟩;have z2:=q2.size;refine asg U (nn (sr (mv U U (ne' U (nn (cd U (λc0=>?_) (λc0=>?_)))))));exact absurd U c0;refine sk (tn (sq (sr (mv U U (x5i U U (by first|exact IntWalk.rem_in _ _ oo|rfl) (eq' U (nn (cd U (λc1=>?_) (λc1=>?_)))))))));exact absurd c1 hp;refine sk (tn (sr (asg U (nn (jn (ι:=Unit) [(1,_),(2,_),(3,_),(4,_)] (λ_j=>[(11,.int .u8 (1-d))]) (λ_j w'=>Fr [] w2 w') (.c4 U U U U) ?_ ?_)))));refine sr (mv U U (eq' U (nn (cd U (λc2=>?_) (λc2=>?_)))));refine rg (asg U (nl ?_));exact jE (()) (.c5 U U U U (congrArg (λz=>some (Value.int .u8 z)) oo)) (Fr.refl _ _);refine sk ?_;exact jE (()) (.c5 U U U U (congrArg (λz=>some (Value.int .u8 z)) oo)) (Fr.refl _ _);rintro _j w3 q3;have z3:=q3.size;refine kpC [(1,_),(2,_),(3,_),(4,_),(11,_)] (.c5 U U U U U) (sr (asg U (nn (sq (sr (fad U y2r ?_))))));replace Z:=Z.ext (q2.n1 q3);refine z0i U Z U x8b (lnS U underlying48 (mv U U (nn (bl (lpK (ι:=Nat×Value) [(1,_),(2,_),(3,_),(11,_),(31,_),(32,_)] (λp=>[(33,.int .i64 (p.1:Int)),(12,p.2)]) (λp w'=>Fr [] w0 w'/\p.1<=q.bs.length/\Lw.Own z2f 97 w0.heap.size w' p.2 (y6e q.p r d I p.1)) (λp=>q.bs.length-p.1) (0,_) (.c8 U U U U U U U U) ⟨(q1.n2 q2 q3),⟨Nat.zero_le _,Own.nil _⟩⟩ ?_)))));rintro⟨i,uI⟩ w4 ⟨q4,⟨hi,D⟩⟩;simp only at hi D;have z4:=q4.size;refine kpC [(1,_),(2,_),(3,_),(11,_),(31,_),(32,_),(33,.int .i64 (i:Int)),(12,uI)] (.c8 U U U U U U U U) ?_;have d7:=z1x J.b;have d4:=x2m hv r d I i;have e0:=z3n b0 i;have e1:=z1x (z2g J.bi i);have e2:-300<=z4g 1 ((i:Int)+1) r/\z4g 1 ((i:Int)+1) r<=300:=by
  unfold z4g;split;omega;split<;>omega
 have e3:stI d = -1\/stI d=1:=by unfold stI;split<;>simp
 refine sr (lt' U (nn (sq (cd U (λc3=>?_) (λc3=>?_)))));refine sk (tn (sq (bl (sr (mv U U ?_)))));replace O:=J.ext q4;refine z1d (iq0) U O.b U y6j z1i (λb7 a2=>?_);refine z1l U (a2 _ O.b) z8h (asg U (asg U (nn (sr (mv U U (z0z U (wi6 oo) (z1p (cs:=[_,_]) (ev2 U) y4d (z0f U (z0f U z0p)) U ?_)))))));refine mv U U (cl (ev2 U) x5b (z9y _ _ _ _ oo) U ?_);rintro _ w5 ⟨rfl,q5⟩;have z5:=q5.size;refine asg U (kpL [(1,_),(2,_),(3,_),(11,_),(12,_),(14,_),(15,_),(31,_),(32,_),(33,_)] (.d8 U U U U U U U U (.c2 U U)) (nn (sq (sq (rbo (r:=59) (L':=[(1,_),(2,_),(3,_),(11,_),(12,_),(14,_),(31,_),(32,_),(33,_)]) (((I≠((z4g 1 ((i:Int)+1) r)+(stI d)))/\(I≠((z4g 1 ((i:Int)+1) r)+(3*(stI d)))))) (.d8 U U U U U U U U (.cons U .nil)) ?_ ?_)))));refine mv U U (mv U U (mv U U (y3b U U underlying342 sz3 ?_)));replace hT:=a1.ext (q4.n1 q5);refine y0e U hT.c (y5u hd) na3 U (z0z U (wi6 oo) (ne' U (mv U U (gs 50 U (λg0=>?_) (λg0=>?_)))));exact gY U (mv U U (gY U (mv U U (gY U (mv U U (gY U (y3b U U underlying342 sz3 (gY U (y0e U hT.c (y5u hd) na3 U (gY U (x2p U U (wi6 oo) (gY U (z0z U (wi6 oo) (gY U (ne' U (pkt U (rbe U (.d8 U U U U U U U U (.cons U .nil)))))))))))))))))));exact gN U (gN U (gN U (gN U (gN U (gN U (gN U (gN U (pkf U (rbe U (.d8 U U U U U U U U (.cons U .nil)))))))))));refine tn (cd U (λc4=>?_) (λc4=>?_));refine ex (te (xh (tn (rg (z0z U (wi6 oo) (mv U U (nl ?_)))))));replace D:=D.ext q5;exact lpE ((i+1,_)) (.c8 U U U U U U U U) ⟨(q4.n1 q5),⟨sm,by rw[y7q,show x2y q.p r d I i=[] from if_pos c4,List.append_nil];exact D⟩⟩ sm;refine sk (tn (sr (mv U U (lnS U underlying27 (mv U U (nn (bl ?_)))))));replace D:=D.ext q5;refine lpK (ι:=Nat×Value) [(1,_),(2,_),(3,_),(11,_),(31,_),(32,_),(33,_),(60,_),(61,_)] (λp=>[(62,.int .i64 (p.1:Int)),(12,p.2)]) (λp w'=>Fr [] w0 w'/\p.1<=(q.bs.getD i iq0).2.length/\Lw.Own z2f 97 w0.heap.size w' p.2 ((y6e q.p r d I i)++((q.bs.getD i iq0).2.take p.1).map (λx=>(⟨x,true,1-d⟩:Pa)))) (λp=>(q.bs.getD i iq0).2.length-p.1) (0,uI) (.d8 U U U U U U U U (.c3 U U U)) ⟨(q4.n1 q5),⟨Nat.zero_le _,by simpa using D⟩⟩ ?_;rintro⟨j,uJ⟩ w6 ⟨q6,⟨hj,D⟩⟩;simp only at hj D;have z6:=q6.size;refine kpC [(1,_),(2,_),(3,_),(11,_),(31,_),(32,_),(33,_),(60,_),(61,_),(62,.int .i64 (j:Int)),(12,uJ)] (.d8 U U U U U U U U (.c3 U U U)) (sr (lt' U (nn (sq (cd U (λc5=>?_) (λc5=>?_))))));refine sk (tn (sq (bl (sr ?_))));replace O:=J.ext q6;refine z1d (id0) U (z2g O.bi i) U z4u z1i (λb8 a3=>?_);refine z1k U (a3 _ (z2g O.bi i)) z2w (al y0b U (λd1 w7 b9 M q7 z7=>?_));refine z0k (vs:=[_,_]) U M z9m (λw8 M q8 z8=>?_) (h1:=(by first|(simp[Value.oneCell',S];done)|exact z1f.one _));refine nn (rg (mv U U (z0m U M z2w (mv U U (z1p (cs:=[_,_,_,_]) (ev3 U) bo97 (z0f U (z0f U (z0f U z0p))) U ?_)))));refine z2i ([(⟨((q.bs.getD i iq0).2.getD j id0),true,1-d⟩:Pa)]) (ev1 U) U y0d (λd3 w9 c9 a4 q9 z9=>?_);replace D:=((D.ext q7).fr q8 (by first|exact z7z D oo|simp[z0u]<;>omega)).ext q9;have a0:=D;refine z2b U D a4.sl y0d (by unfold maxLen;simp only[List.length_append,List.length_map,List.length_take,List.length_cons,List.length_nil];omega) (by simp only[List.length_append,List.length_map,List.length_take,List.length_cons,List.length_nil];omega) (λe4 e5 D a5 b6=>?_);have e9:=a5.size;exact asg U (kpL [(1,_),(2,_),(3,_),(11,_),(12,_),(31,_),(32,_),(33,_),(60,_),(61,_),(62,_)] (.d8 U U U U U U U U (.c3 U U U)) (nl (bn' (tn (rg (z0z U (wi6 oo) (mv U U (nl (lpE ((j+1,_)) (.d8 U U U U U U U U (.c3 U U U)) ⟨((q6.z3 q7 q8 q9).step a5 (λk hk b3=>absurd (a0.blk k hk).1 oo)),⟨sm,by rw[y3p (λx=>(⟨x,true,1-d⟩:Pa)) id0 oo,<-List.append_assoc];exact D⟩⟩ sm)))))))));obtain rfl:j=(q.bs.getD i iq0).2.length:=by omega
 rw[List.take_length]at D;exact ex (te (te (xh (bn' (tn (rg (z0z U (wi6 oo) (mv U U (nl (lpE ((i+1,_)) (.c8 U U U U U U U U) ⟨q6,⟨sm,by rw[y7q,show x2y q.p r d I i=_ from if_neg c4,z4f];exact D⟩⟩ sm))))))))));obtain rfl:i=q.bs.length:=by omega
 refine ex (te (te (xh (tn (jn (ι:=Unit) [(12,_)] (λ_j=>[]) (λ_j w'=>Fr [] w0 w'/\Lw.Own z2f 97 w0.heap.size w' uI (z6z q.p r d I)) (.cons U .nil) ?_ ?_)))));refine sr (mv U U (eq' U (kpL [(12,_),(75,_)] (.c2 U U) (nn (cd U (λc6=>?_) (λc6=>?_))))));refine rg (mv U U ?_);have b5:=D;refine cl (ev1 U) (mkC func250) (x2o w0.heap.size _ _ _ D oo) U ?_;rintro _ e6 ⟨D,a6⟩;have f0:=a6.size;exact nl (jE (()) (.cons U .nil) ⟨(q4.step a6 (λk hk b3=>absurd (b5.blk k hk).1 oo)),(by rw[show z6z q.p r d I=_ from if_pos oo,List.length_map];exact D)⟩);exact sk (jE (()) (.cons U .nil) ⟨q4,(by rw[show z6z q.p r d I=_ from if_neg oo,List.length_map];exact D)⟩);rintro _j e7 ⟨a7,D⟩;have f1:=a7.size;refine kpC [(12,_)] (.cons U .nil) (sr (mv U U (cl (ev1 U) (mkC func251) (y4u _ (z6z q.p r d I) _ D.sl oo) U ?_)));rintro _ e8 ⟨a9,rfl,d0,hX,a8⟩;have f2:=a8.size;exact asg U (asg U (nn (rt (r2 results195 U U ⟨_,rfl,⟨a9,rfl,oo,hX.low oo⟩,(a7.n1 a8)⟩))))
theorem j3c:BuildAt prog 292 [(0,2),(2,2),(4,1)] [(.int .u8 0),(.int .i64 0),(.int .u8 0),(.int .i64 0),(.int .i64 0)]:=BuildAt.struct underlying292 (λ_=>kr) (λ_=>kr)
theorem u6v (q:BdQ)(r d:Int)(w0:World)(hB:BdAt w0 q)(hv:BdOk q.p)(hT:StT w0)(hr:-4<=r/\r<=4)(hd:d=0\/d=1)(g1:-4<=r+stI d/\r+stI d<=4):Rets prog 197 #[.agg #[.slice q.f.1 q.f.2.1 q.f.2.2,.slice q.b.1 q.b.2.1 q.b.2.2],.int .i64 r,.int .u8 d] w0 λv w'=>(∃g,v=.tuple #[.slice (some ⟨g,0,none⟩) (z4h q.p r d).length (z4h q.p r d).length,.int .i64 0]/\w0.heap.size<=g/\Lw.Own z5p 292 w0.heap.size w' (.slice (some ⟨g,0,none⟩) (z4h q.p r d).length (z4h q.p r d).length) (z4h q.p r d))/\Fr [] w0 w':=by
 obtain⟨⟨hf,hb⟩,h4,b5⟩:=z3t hv;have g0:=z1x hB.b;have e2:=y4j hv r d;rw[List.length_map]at e2;refine we [(0,.agg #[.slice q.f.1 q.f.2.1 q.f.2.2,.slice q.b.1 q.b.2.1 q.b.2.2]),(1,.int .i64 r),(2,.int .u8 d)] func197 U ntmps197 U (.c3 U U U) ?_;have a3:=hB;have d9:=hT;refine sr (bx U (λg3 w1 f9 Z q1 z1=>(asg U (asg U (nn (sq (sr (z0m U Z z4s (mv U U (mv U U ?_))))))))));replace hB:=a3.ext q1;replace hT:=d9.ext q1;refine cl (ev3 U) (mkC func249) (x3m q _ _ _ hB hv hT oo hd oo) U ?_;rintro _ w2 ⟨rfl,q2⟩;have z2:=q2.size;replace Z:=Z.ext q2;have b6:=Z;refine asg U (nn (sr (mv U U (ne' U (nn (cd U (λc0=>?_) (λc0=>?_)))))));exact absurd U c0;refine sk (tn (sr (asg U (nn (sq (sr (fad U y2r (z0i U Z U x8b (lnS U underlying48 (mv U U (nn (bl (lpK (ι:=Nat×Value) [(1,_),(2,_),(3,_),(26,_),(27,_)] (λp=>[(28,.int .i64 (p.1:Int)),(9,p.2)]) (λp w'=>Fr [] w2 w'/\p.1<=q.bs.length/\Lw.Own z5p 292 w2.heap.size w' p.2 (v0c q.p r d p.1)) (λp=>q.bs.length-p.1) (0,_) (.c7 U U U U U U U) ⟨(Fr.refl _ _),⟨Nat.zero_le _,Own.nil _⟩⟩ ?_)))))))))))));rintro⟨i,uI⟩ w3 ⟨q3,⟨hi,I⟩⟩;simp only at hi I;have z3:=q3.size;refine kpC [(1,_),(2,_),(3,_),(26,_),(27,_),(28,.int .i64 (i:Int)),(9,uI)] (.c7 U U U U U U U) ?_;have f7:=x6k hv r d i;have g6:=z3n b5 i;have g7:=z1x (z2g a3.bi i);have f8:-10<=y0f r d i/\y0f r d i<=50:=by unfold y0f;split<;>omega
 have e0:((q.p.atC 0 (y0f r d i)).reverse).length<=4:=by rw[List.length_reverse];exact x6e hv _ _
 refine sr (lt' U (nn (sq (cd U (λc1=>?_) (λc1=>?_)))));refine sk (tn (sq (bl (sr (mv U U ?_)))));replace hB:=a3.ext (q1.n2 q2 q3);refine z1d (iq0) U hB.b U y6j z1i (λe5 b7=>?_);refine z1l U (b7 _ hB.b) z8h (asg U (asg U (nn (sr (mv U U (z0z U (wi6 oo) (mv U U (z0z U (wi6 oo) (asg U (nn (jn (ι:=Unit) [(1,_),(2,_),(3,_),(9,_),(11,_),(26,_),(27,_),(28,_)] (λ_j=>[(12,.int .i64 (y0f r d i))]) (λ_j w'=>Fr [] w2 w'/\Lw.Own z5p 292 w2.heap.size w' uI (v0c q.p r d i)) (.c8 U U U U U U U U) ?_ ?_)))))))))));refine sr (mv U U (eq' U (nn (cd U (λc2=>?_) (λc2=>?_)))));exact rg (mv U U (z2r U (wi6 oo) (asg U (nl (jE (()) (.d8 U U U U U U U U (.cons (by first|(rw[show y0f r d i=_ from if_pos c2];rfl)|(rw[show y0f r d i=_ from if_neg c2];rfl)) .nil)) ⟨q3,I⟩)))));exact sk (jE (()) (.d8 U U U U U U U U (.cons (by first|(rw[show y0f r d i=_ from if_pos c2];rfl)|(rw[show y0f r d i=_ from if_neg c2];rfl)) .nil)) ⟨q3,I⟩);rintro _j w4 ⟨q4,I⟩;have z4:=q4.size;refine kpC [(1,_),(2,_),(3,_),(9,_),(11,_),(26,_),(27,_),(28,_),(12,_)] (.d8 U U U U U U U U (.cons U .nil)) (sr ?_);replace Z:=b6.ext q4;refine z0m U Z z4s (mv U U (z1p (cs:=[_,_]) (ev2 U) y4d (z0f U (z0f U z0p)) U ?_));replace hB:=a3.ext (q1.n2 q2 q4);refine cl (ev2 U) u5f (x2r q 0 (y0f r d i) _ hB oo hf hb h4 b5) U ?_;rintro g8 w5 ⟨J,q5⟩;replace J:=J.low (show w2.heap.size<=_ by omega);have z5:=q5.size;refine asg U (nn (sr (mv U U ?_)));have a4:=J;replace I:=I.ext q5;refine cl (ev1 U) (mkC func254) (v6f w2.heap.size _ _ _ J (by have:=x6e hv 0 (y0f r d i);omega)) U ?_;rintro _ w6 ⟨J,q6⟩;replace I:=I.fr q6 (Own.neO a4 I dd);have z6:=q6.size;obtain⟨b3,b4,rfl,e8⟩:=J.sl.form;refine nn (sr (mv U U (lnS U underlying27 (mv U U (nn (bl (lpK (ι:=Nat×Value) [(1,_),(2,_),(3,_),(13,_),(26,_),(27,_),(28,_),(47,_),(48,_)] (λp=>[(49,.int .i64 (p.1:Int)),(9,p.2)]) (λp w'=>Fr [] w2 w'/\p.1<=(q.bs.getD i iq0).2.length/\Lw.Own z5p 292 w2.heap.size w' p.2 ((v0c q.p r d i)++((q.bs.getD i iq0).2.take p.1).flatMap (λx=>((q.p.atC 0 (y0f r d i)).reverse).map (x9e d x)))/\Lw.Own z1f 73 w2.heap.size w' (.slice b3 ((q.p.atC 0 (y0f r d i)).reverse).length b4) ((q.p.atC 0 (y0f r d i)).reverse)) (λp=>(q.bs.getD i iq0).2.length-p.1) (0,_) (.d8 U U U U U U U U (.c3 U U U)) ⟨((q4.n1 q5).step q6 (λk hk b0=>absurd (a4.blk k hk).1 oo)),⟨Nat.zero_le _,by simpa using I,J⟩⟩ ?_)))))));rintro⟨j,uJ⟩ w7 ⟨q7,⟨hj,I,J⟩⟩;simp only at hj I;have z7:=q7.size;refine kpC [(1,_),(2,_),(3,_),(13,_),(26,_),(27,_),(28,_),(47,_),(48,_),(49,.int .i64 (j:Int)),(9,uJ)] (.d8 U U U U U U U U (.c3 U U U)) ?_;have e1:=flat_len (λx=>((q.p.atC 0 (y0f r d i)).reverse).map (x9e d x)) 4 (λx=>by rw[List.length_map];exact e0) ((q.bs.getD i iq0).2.take j);rw[List.length_take]at e1;refine sr (lt' U (nn (sq (cd U (λc3=>?_) (λc3=>?_)))));refine sk (tn (sq (bl (sr ?_))));replace hB:=a3.ext (q1.n2 q2 q7);refine z1d (id0) U (z2g hB.bi i) U z4u z1i (λe6 b8=>?_);refine z1k U (b8 _ (z2g hB.bi i)) z2w (al y0b U (λd6 w8 e9 D q8 z8=>?_));refine z0k (vs:=[_,_]) U D z9m (λw9 D q9 z9=>?_) (h1:=(by first|(simp[Value.oneCell',S];done)|exact z1f.one _));refine nn (sr (mv U U (lnS U underlying27 (mv U U (nn (bl ?_))))));replace I:=(I.ext q8).fr q9 (by first|exact z7z I oo|simp[z0u]<;>omega);replace J:=(J.ext q8).fr q9 (by first|exact z7z J oo|simp[z0u]<;>omega);refine lpK (ι:=Nat×Value) [(1,_),(2,_),(3,_),(13,_),(15,_),(26,_),(27,_),(28,_),(47,_),(48,_),(49,_),(53,_),(54,_)] (λp=>[(55,.int .i64 (p.1:Int)),(9,p.2)]) (λp w'=>Fr [] w2 w'/\p.1<=((q.p.atC 0 (y0f r d i)).reverse).length/\Lw.Own z5p 292 w2.heap.size w' p.2 (((v0c q.p r d i)++((q.bs.getD i iq0).2.take j).flatMap (λx=>((q.p.atC 0 (y0f r d i)).reverse).map (x9e d x)))++(((q.p.atC 0 (y0f r d i)).reverse).take p.1).map (x9e d ((q.bs.getD i iq0).2.getD j id0)))/\Lw.Own z1f 73 w2.heap.size w' (.slice b3 ((q.p.atC 0 (y0f r d i)).reverse).length b4) ((q.p.atC 0 (y0f r d i)).reverse)/\Blk w' d6 73 (z1f.enc ((q.bs.getD i iq0).2.getD j id0))) (λp=>((q.p.atC 0 (y0f r d i)).reverse).length-p.1) (0,_) (.d8 U U U U U U U U (.c7 U U U U U U U)) ⟨(q7.z2 q8 q9),⟨Nat.zero_le _,by simpa using I,J,D⟩⟩ ?_;rintro⟨k,uK⟩ h2 ⟨a5,⟨hk,I,J,D⟩⟩;simp only at hk I;have i3:=a5.size;have d1:=D.lt;refine kpC [(1,_),(2,_),(3,_),(13,_),(15,_),(26,_),(27,_),(28,_),(47,_),(48,_),(49,_),(53,_),(54,_),(55,.int .i64 (k:Int)),(9,uK)] (.d8 U U U U U U U U (.c7 U U U U U U U)) (sr (lt' U (nn (sq (cd U (λc4=>?_) (λc4=>?_))))));refine sk (tn (sq (bl (sr (z1d (id0) U J.sl U z4u z1i (λe7 b9=>?_))))));refine z1k U (b9 _ J.sl) z2w (al y0b U (λf4 h3 f0 a2 M i4=>?_));refine z0k (vs:=[_,_]) U a2 z9m (λh5 a2 O i5=>?_) (h1:=(by first|(simp[Value.oneCell',S];done)|exact z1f.one _));refine nn (sr (mv U U (eq' U (nn (cd U (λc5=>?_) (λc5=>?_))))));refine rg (mv U U (z0m U a2 z2w ?_));replace D:=(D.ext M).fr O;refine z0m U D z2w (z1p (cs:=[_,_,_,_,_]) (ev3 U) j3c (z0f U (z0f U (z0f U z0p))) U ?_);refine z2i ([(⟨(((q.p.atC 0 (y0f r d i)).reverse).getD k id0),((q.bs.getD i iq0).2.getD j id0),1⟩:Cx)]) (ev1 U) U y2d (λf5 h6 f1 c9 a6 i7=>?_);replace J:=((J.ext M).fr O (by first|exact z7z J oo|simp[z0u]<;>omega)).ext a6;replace D:=D.ext a6;replace I:=((I.ext M).fr O (by first|exact z7z I oo|simp[z0u]<;>omega)).ext a6;have a0:=I;refine z2b U I c9.sl y2d (by unfold maxLen;simp only[List.length_append,List.length_map,List.length_take,List.length_cons,List.length_nil];omega) (by simp only[List.length_append,List.length_map,List.length_take,List.length_cons,List.length_nil];omega) (λg9 h7 I a7 e3=>?_);have i8:=a7.size;replace J:=J.fr a7 ((Own.neO a0 J dd));replace D:=D.fr a7 (λhk=>a0.neB D dd hk);exact asg U (kpL [(1,_),(2,_),(3,_),(9,_),(13,_),(15,_),(26,_),(27,_),(28,_),(47,_),(48,_),(49,_),(53,_),(54,_),(55,_)] (.d8 U U U U U U U U (.c7 U U U U U U U)) (nl (bn' (tn (rg (z0z U (wi6 oo) (mv U U (nl (lpE ((k+1,_)) (.d8 U U U U U U U U (.c7 U U U U U U U)) ⟨((a5.z3 M O a6).step a7 (λk hk b0=>absurd (a0.blk k hk).1 oo)),⟨sm,by rw[y3p (x9e d ((q.bs.getD i iq0).2.getD j id0)) id0 oo,<-List.append_assoc,show x9e d ((q.bs.getD i iq0).2.getD j id0) (((q.p.atC 0 (y0f r d i)).reverse).getD k id0)=_ from if_pos c5];exact I,J,D⟩⟩ sm)))))))));refine rg (mv U U ?_);replace D:=(D.ext M).fr O;refine z0m U D z2w (z0m U a2 z2w (z1p (cs:=[_,_,_,_,_]) (ev3 U) j3c (z0f U (z0f U (z0f U z0p))) U ?_));refine z2i ([(⟨((q.bs.getD i iq0).2.getD j id0),(((q.p.atC 0 (y0f r d i)).reverse).getD k id0),-1⟩:Cx)]) (ev1 U) U y2d (λf6 h8 f2 d0 a8 i9=>?_);replace J:=((J.ext M).fr O (by first|exact z7z J oo|simp[z0u]<;>omega)).ext a8;replace D:=D.ext a8;replace I:=((I.ext M).fr O (by first|exact z7z I oo|simp[z0u]<;>omega)).ext a8;have a1:=I;refine z2b U I d0.sl y2d (by unfold maxLen;simp only[List.length_append,List.length_map,List.length_take,List.length_cons,List.length_nil];omega) (by simp only[List.length_append,List.length_map,List.length_take,List.length_cons,List.length_nil];omega) (λh0 h9 I a9 e4=>?_);have j0:=a9.size;replace J:=J.fr a9 ((Own.neO a1 J dd));replace D:=D.fr a9 (λhk=>a1.neB D dd hk);exact asg U (kpL [(1,_),(2,_),(3,_),(9,_),(13,_),(15,_),(26,_),(27,_),(28,_),(47,_),(48,_),(49,_),(53,_),(54,_),(55,_)] (.d8 U U U U U U U U (.c7 U U U U U U U)) (nl (bn' (tn (rg (z0z U (wi6 oo) (mv U U (nl (lpE ((k+1,_)) (.d8 U U U U U U U U (.c7 U U U U U U U)) ⟨((a5.z3 M O a8).step a9 (λk hk b0=>absurd (a1.blk k hk).1 oo)),⟨sm,by rw[y3p (x9e d ((q.bs.getD i iq0).2.getD j id0)) id0 oo,<-List.append_assoc,show x9e d ((q.bs.getD i iq0).2.getD j id0) (((q.p.atC 0 (y0f r d i)).reverse).getD k id0)=_ from if_neg c5];exact I,J,D⟩⟩ sm)))))))));obtain rfl:k=((q.p.atC 0 (y0f r d i)).reverse).length:=by omega
 rw[List.take_length]at I;exact ex (te (te (xh (bn' (tn (rg (z0z U (wi6 oo) (mv U U (kpL [(1,_),(2,_),(3,_),(9,_),(13,_),(26,_),(27,_),(28,_),(47,_),(48,_),(49,_)] (.d8 U U U U U U U U (.c3 U U U)) (nl (lpE ((j+1,_)) (.d8 U U U U U U U U (.c3 U U U)) ⟨a5,⟨sm,by rw[v3k (λx=>((q.p.atC 0 (y0f r d i)).reverse).map (x9e d x)) id0 oo,<-List.append_assoc];exact I,J⟩⟩ sm)))))))))));obtain rfl:j=(q.bs.getD i iq0).2.length:=by omega
 rw[List.take_length]at I;exact ex (te (te (xh (bn' (tn (rg (z0z U (wi6 oo) (mv U U (kpL [(1,_),(2,_),(3,_),(9,_),(26,_),(27,_),(28,_)] (.c7 U U U U U U U) (nl (lpE ((i+1,_)) (.c7 U U U U U U U) ⟨q7,⟨sm,by rw[v4t,show u3r q.p r d i=(q.bs.getD i iq0).2.flatMap (λx=>((q.p.atC 0 (y0f r d i)).reverse).map (x9e d x)) from by unfold u3r;rw[z4f]];exact I⟩⟩ sm)))))))))));obtain rfl:i=q.bs.length:=by omega
 refine ex (te (te (xh (tn (jn (ι:=Unit) [(9,_)] (λ_j=>[]) (λ_j w'=>Fr [] w0 w'/\Lw.Own z5p 292 w0.heap.size w' uI (z4h q.p r d)) (.cons U .nil) ?_ ?_)))));refine sr (mv U U (eq' U (kpL [(9,_),(77,_)] (.c2 U U) (nn (cd U (λc6=>?_) (λc6=>?_))))));refine rg (mv U U ?_);have a4:=I;refine cl (ev1 U) (mkC func255) (v3b w2.heap.size _ _ _ I oo) U ?_;rintro _ i0 ⟨I,d3⟩;have j1:=d3.size;exact nl (jE (()) (.cons U .nil) ⟨((q1.n2 q2 q3).step d3 (λk hk b0=>absurd (a4.blk k hk).1 oo)),(by rw[show z4h q.p r d=_ from if_pos oo,List.length_map];exact I.low oo)⟩);exact sk (jE (()) (.cons U .nil) ⟨(q1.n2 q2 q3),(by rw[show z4h q.p r d=_ from if_neg oo,List.length_map];exact I.low oo)⟩);rintro _j i1 ⟨d4,I⟩;have j2:=d4.size;refine kpC [(9,_)] (.cons U .nil) (sr (mv U U (cl (ev1 U) (mkC func256) (x5r _ (z4h q.p r d) _ I.sl oo) U ?_)));rintro _ i2 ⟨d7,rfl,f3,hY,d5⟩;have j3:=d5.size;exact asg U (asg U (nn (rt (r2 results197 U U ⟨_,rfl,⟨d7,rfl,oo,hY.low oo⟩,(d4.n1 d5)⟩))))
end Go.Proofs.YtjilcnmaefhmeaaGreatDoor
namespace Go.G08
open Go.Lw Go.G21
def orZ:List Int->Int
  | []=>0
  | x::l=>if x≠0 then x else orZ l
theorem v8a:∀ {l:List Int} {i:Nat},i<l.length->(∀j,j<i->l.getD j 0=0)->l.getD i 0≠0->orZ l=l.getD i 0
 | x::l,0,_,_,h=>by simp only[List.getD_cons_zero]at h ⊢;exact if_pos h
 | x::l,i+1,hi,hj,h=>by
  have D:=hj 0 oo
  simp only[List.getD_cons_zero]at D
  rw[show orZ (x::l)=if x≠0 then x else orZ l from U,if_neg oo]
  simp only[List.getD_cons_succ]at h ⊢
  exact v8a (by simpa using hi) (λj I=>by have:=hj (j+1) oo;simpa only[List.getD_cons_succ] using this) h
theorem x0f:∀ {l:List Int},(∀j,j<l.length->l.getD j 0=0)->orZ l=0
 | [],_=>rfl
 | x::l,hj=>by
  have D:=hj 0 sp0
  simp only[List.getD_cons_zero]at D
  rw[show orZ (x::l)=if x≠0 then x else orZ l from U,if_neg oo]
  exact x0f (λj I=>by have:=hj (j+1) (by simpa using I);simpa only[List.getD_cons_succ] using this)
theorem x6s (a b:LId):orZ [z6a a.y b.y,z6a a.n b.n]=z6n a b:=by
 unfold orZ orZ orZ z6a z6n
 repeat' split
 all_goals first|rfl|omega
end Go.G08
namespace Go.Lw
open Go.RowKit
def MapL {κ:Type}[DecidableEq κ](V:κ->Value)(w:World)(g:Nat)(m:List (κ×Value)):Prop:=
  ∃(es:Array MapEntry) (c:Nat),w.heap[g]?=some (.map es c)/\es.toList.map (λe=>(e.key,e.val))=m.map (λp=>(V p.1,p.2))/\(m.map (·.1)).Nodup/\(es.toList.map (·.born)).Nodup/\∀e∈es.toList,e.born<c
def z5e {κ:Type}[DecidableEq κ](m:List (κ×Value))(k:κ):List (κ×Value):=
  match (m.map (·.1)).findIdx? (λx=>decide (k=x)) with
  | some i=>m.eraseIdx i
  | none=>m
def MapIt {κ:Type}[DecidableEq κ](V:κ->Value)(w:World)(gi g:Nat)(m rem:List (κ×Value))(cur:Option (κ×Value)):Prop:=
  ∃(es:Array MapEntry) (c:Nat) (seen:Array Nat),w.heap[g]?=some (.map es c)/\es.toList.map (λe=>(e.key,e.val))=m.map (λp=>(V p.1,p.2))/\(es.toList.map (·.born)).Nodup/\(∀e∈es.toList,e.born<c)/\
    w.heap[gi]?=some (.mapIter (some g) c seen c)/\(leftOf es seen).toList.map (λe=>(e.key,e.val))=rem.map (λp=>(V p.1,p.2))/\∀p,cur=some p->∃e∈es.toList,∃s':Array Nat,seen=s'.push e.born/\e.key=V p.1/\e.val=p.2
theorem j4u {P:Program}{ops:Array Oper}{Q:Exit->Act->World->Prop}{o:Oper}{rest:List Oper}{a:Act}{n:Nat}{ds:List Nat}{L:List (Nat×Value)}{w w':World}{v:Value}(h:AgM ds a n L)(J:o.guard=none)(I:o.dst=none)(M:(execOp a.eval o).run P w=.ok (.value v) w')
    (k:∀a,AgM ds a n L->wpList P ops Q rest a w'):wpList P ops Q (o::rest) a w:=
  wpList_plain J λK D=>by
    unfold Oper.wp
    rw[M]
    show K (a.put o.dst v) w'
    rw[I]
    exact D _ _ (k _ h)
theorem y6i {D:Type}(m:List (D×Value))(i:Nat)(v:Value):(m.modify i λp=>(p.1,v)).map (·.1)=m.map (·.1):=by
 apply List.ext_getElem?;intro j;simp only[List.getElem?_map,List.getElem?_modify];by_cases h:i=j;subst h;cases m[i]?<;>simp
 simp[h]
theorem y0x {α β:Type}(f:α->β)(i:Nat)(l:List α):(l.eraseIdx i).map f=(l.map f).eraseIdx i:=by
 apply List.ext_getElem?;intro j;simp only[List.getElem?_map,List.getElem?_eraseIdx];split<;>rfl
section
variable {κ:Type} [DecidableEq κ] {V:κ->Value} {P:Program} {K:TypeId} {w w':World} {g:Nat} {m:List (κ×Value)} {S:List Nat}
theorem MapL.fr (h:MapL V w g m)(hf:Fr S w w')(hn:g∉S:=by simp[z0u]<;>omega):MapL V w' g m:=by
 obtain⟨I,c,D,J⟩:=h;exact⟨I,c,(hf.block g (Array.getElem?_eq_some_iff.1 D).1 hn).trans D,J⟩
theorem MapL.ext (h:MapL V w g m)(hf:Fr [] w w'):MapL V w' g m:=h.fr hf sp0
theorem MapL.f (h:MapL V w g m):MapF V w g (z1h m):=let ⟨es,c,h1,h2,_⟩:=h;⟨es,c,m,h1,h2,λ_=>rfl⟩
theorem MapL.lt (h:MapL V w g m):g<w.heap.size:=h.f.lt
theorem MapL.nodup (h:MapL V w g m):(m.map (·.1)).Nodup:=let ⟨_,_,_,_,h,_⟩:=h;h
theorem v4r {k:κ}(h:(m.map (·.1)).findIdx? (λx=>decide (k=x))=none):k∉m.map (·.1):=λD=>by
 rw[List.findIdx?_eq_none_iff]at h
 have:=h k D
 simp at this
theorem y6d {t E:TypeId}(h:MapL V w g m)(hk:KeyLaw P K V)(hu:P.underlying t=some (.map K E))(k:κ)(v:Value) :
    ∃w',(Instr.mapUpdate t (.map (some g)) (V k) v).run P w=.ok () w'/\MapL V w' g (z1u m k v)/\Fr [g] w w'/\w'.heap.size=w.heap.size:=by
  obtain⟨D,c,h1,h2,a7,a4,a1⟩:=h
  have a9:=(Array.getElem?_eq_some_iff.1 h1).1
  have O:D.toList.map (·.key)=(m.map (·.1)).map V:=by
    have:=congrArg (List.map Prod.fst) h2
    simpa[List.map_map,Function.comp_def] using this
  have J:=hk.find k D.toList (m.map (·.1)) w O
  have a0:∀o,(setObj g o).run P w=.ok () { w with heap:=w.heap.setIfInBounds g o }:=by intro o;simp[setObj,Sem.run,h1]
  have a5:∀o,Fr [g] w { w with heap:=w.heap.setIfInBounds g o }:=λo=>⟨rfl,rfl,rfl,sp0,λi _ hn=>by
    simp only
    rw[Array.getElem?_setIfInBounds_ne (by intro e;subst e;simp at hn)]⟩
  have M:∀o,({ w with heap:=w.heap.setIfInBounds g o }:World).heap[g]?=some o:=by intro o;simp[a9]
  have b3:D.toList.length=m.length:=by have:=congrArg List.length h2;simpa using this
  cases hf:(m.map (·.1)).findIdx? (λx=>decide (k=x)) with
  | none=>
    have ea:z1u m k v=m++[(k,v)]:=by unfold z1u;rw[hf]
    rw[ea]
    refine⟨_,?_,⟨_,_,M (.map (D.push { key:=V k,val:=v,born:=c }) (c+1)),?_,?_,?_,?_⟩,a5 _,sp0⟩
    · rw[hf]at J
      simp only[Instr.mapUpdate,Sem.run_bind,run_underlying hu,Result.andThen_ok,z2h h1,hk.check,J,Option.bind_none,a0]
    · simp[h2]
    · rw[List.map_append]
      exact List.nodup_append.2 ⟨a7,sp0,λx hx y hy=>by
        simp at hy;subst hy;intro e;subst e;exact v4r hf hx⟩
    · rw[Array.toList_push,List.map_append]
      exact List.nodup_append.2 ⟨a4,sp0,λx hx y hy=>by
        simp at hy;subst hy
        obtain⟨e,he,rfl⟩:=List.mem_map.1 hx
        have:=a1 e he;omega⟩
    · intro e he
      rw[Array.toList_push]at he
      rcases List.mem_append.1 he with h|h
      · have:=a1 e h;omega
      · simp at h;subst h;exact Nat.lt_succ_self _
  | some i=>
    have hi:i<m.length:=by
      have:=List.findIdx?_eq_some_iff_findIdx_eq.1 hf
      simpa using this.1
    have Z:i<D.toList.length:=by omega
    have a6:V k=(D.toList[i]).key:=by
      have a8:=List.findIdx?_eq_some_iff_getElem.1 hf
      obtain⟨b4,hp,_⟩:=a8
      have b0:k=(m.map (·.1))[i]:=by simpa using hp
      have e1:(D.toList.map (·.key))[i]?=((m.map (·.1)).map V)[i]?:=by rw[O]
      simp only[List.getElem?_map,List.getElem?_eq_getElem Z,List.getElem?_eq_getElem hi,Option.map_some,Option.some.injEq]at e1
      rw[e1,b0];simp
    have ea:z1u m k v=m.modify i λp=>(p.1,v):=by unfold z1u;rw[hf]
    rw[ea]
    have I:(D.modify i λe=>{ e with key:=V k,val:=v }).toList.map (·.born)=D.toList.map (·.born):=by
      apply List.ext_getElem?
      intro j
      simp only[List.getElem?_map]
      rw[Array.getElem?_toList,Array.getElem?_modify,Array.getElem?_toList]
      by_cases hj:i=j
      · subst hj;simp only[if_true];cases D[i]?<;>rfl
      · simp only[hj,if_false]
    refine⟨_,?_,⟨_,_,M (.map (D.modify i λe=>{ e with key:=V k,val:=v }) c),?_,by rw[y6i m];exact a7,by rw[I];exact a4,?_⟩,a5 _,sp0⟩
    · rw[hf]at J
      have a2:D[i]?=some D.toList[i]:=by rw[<-Array.getElem?_toList,List.getElem?_eq_getElem Z]
      simp only[Option.bind_some,List.getElem?_eq_getElem Z,Option.map_some]at J
      have a3:(Instr.keyThatStays (((D[i]?).map (·.key)).getD (V k)) (V k)).run P w=.ok (V k) w:=by
        rw[a2]
        simp only[Option.map_some,Option.getD_some,<-a6,Instr.keyThatStays,hk.bits,if_true,Sem.run_pure]
      simp only[Instr.mapUpdate,Sem.run_bind,run_underlying hu,Result.andThen_ok,z2h h1,hk.check,J,a3,a0]
    · apply List.ext_getElem?
      intro j
      have e2:=congrArg (·[j]?) h2
      simp only[List.getElem?_map]at e2 ⊢
      rw[Array.getElem?_toList,Array.getElem?_modify,List.getElem?_modify]
      rw[Array.getElem?_toList]at e2
      by_cases hj:i=j
      · subst hj
        have e3:=List.getElem?_eq_getElem hi
        have a2:D[i]?=some D.toList[i]:=by rw[<-Array.getElem?_toList,List.getElem?_eq_getElem Z]
        rw[a2,e3]at e2 ⊢
        simp only[Option.map_some,Option.some.injEq,Prod.mk.injEq]at e2
        simp only[if_true,Option.map_some]
        rw[a6,e2.1];rfl
      · simp only[hj,if_false]
        rw[e2];simp
    · intro e he
      have:e.born∈D.toList.map (·.born):=by rw[<-I];exact List.mem_map_of_mem he
      obtain⟨x,hx,hb⟩:=List.mem_map.1 this
      rw[<-hb];exact a1 x hx
theorem x3z {t E:TypeId}{ty:TypeId}(h:MapL V w g m)(hk:KeyLaw P K V)(hu:P.underlying t=some (.map K E))(k:κ) :
    ∃w',(Builtin.delete_ #[t,K] ty #[.map (some g),V k]).run P w=.ok (.tuple #[]) w'/\MapL V w' g (z5e m k)/\Fr [g] w w'/\w'.heap.size=w.heap.size:=by
  obtain⟨J,c,h1,h2,a3,a0,Z⟩:=h
  have a4:=(Array.getElem?_eq_some_iff.1 h1).1
  have O:J.toList.map (·.key)=(m.map (·.1)).map V:=by
    have:=congrArg (List.map Prod.fst) h2
    simpa[List.map_map,Function.comp_def] using this
  have D:=hk.find k J.toList (m.map (·.1)) w O
  have M:∀o,(setObj g o).run P w=.ok () { w with heap:=w.heap.setIfInBounds g o }:=by intro o;simp[setObj,Sem.run,h1]
  have a1:∀o,Fr [g] w { w with heap:=w.heap.setIfInBounds g o }:=λo=>⟨rfl,rfl,rfl,sp0,λi _ hn=>by
    simp only
    rw[Array.getElem?_setIfInBounds_ne (by intro e;subst e;simp at hn)]⟩
  have I:∀o,({ w with heap:=w.heap.setIfInBounds g o }:World).heap[g]?=some o:=by intro o;simp[a4]
  have a5:J.toList.length=m.length:=by have:=congrArg List.length h2;simpa using this
  cases hf:(m.map (·.1)).findIdx? (λx=>decide (k=x)) with
  | none=>
    have ea:z5e m k=m:=by unfold z5e;rw[hf]
    rw[ea]
    refine⟨_,?_,⟨_,_,I (.map J c),h2,a3,a0,Z⟩,a1 _,sp0⟩
    rw[hf]at D
    simp[Builtin.delete_,run_underlying hu,z2h h1,hk.check,D,M]
  | some i=>
    have ea:z5e m k=m.eraseIdx i:=by unfold z5e;rw[hf]
    rw[ea]
    have hi:i<m.length:=by
      have:=List.findIdx?_eq_some_iff_findIdx_eq.1 hf
      simpa using this.1
    have a2:i<J.toList.length:=by omega
    have el:(J.eraseIdxIfInBounds i).toList=J.toList.eraseIdx i:=by
      unfold Array.eraseIdxIfInBounds
      rw[dif_pos (by simpa using a2),Array.toList_eraseIdx]
    refine⟨_,?_,⟨_,_,I (.map (J.eraseIdxIfInBounds i) c),?_,?_,?_,?_⟩,a1 _,sp0⟩
    · rw[hf]at D
      simp only[Option.bind_some,List.getElem?_eq_getElem a2,Option.map_some]at D
      simp[Builtin.delete_,run_underlying hu,z2h h1,hk.check,D,M]
    · rw[el,y0x,y0x,h2]
    · rw[y0x];exact List.Nodup.sublist (List.eraseIdx_sublist _ _) a3
    · rw[el,y0x];exact List.Nodup.sublist (List.eraseIdx_sublist _ _) a0
    · intro e he
      rw[el]at he
      exact Z e ((List.eraseIdx_sublist _ _).mem he)
variable {a:Act} {n:Nat} {L:List (Nat×Value)} {ds:List Nat} {Q:Exit->Act->World->Prop} {C:World->Prop} {Qa:Act->Prop} {ops:Array Oper} {rest:List Oper}
variable {d:Nat} {ty:TypeId} {pos:String} {after:Array Edge} {x y z:Operand} {t E:TypeId} {k:κ} {v zv:Value}
theorem y1s (h:AgM ds a n L)(hx:ev L x=some (.map (some g)))(hy:ev L y=some (V k))(hz:ev L z=some v)(O:MapL V w g m)(M:KeyLaw P K V)(hu:P.underlying t=some (.map K E))
    (q:∀w',MapL V w' g (z1u m k v)->Fr [g] w w'->w'.heap.size=w.heap.size->∀a,AgM ds a n L->wpList P ops Q rest a w'):wpList P ops Q (⟨none,.mapUpdate t x y z,ty,pos,after,none⟩::rest) a w:=by
  obtain⟨w',Z,D,I,J⟩:=y6d O M hu k v
  exact z8c h U U (w':=w') (by simp[execOp,h.eval hx,h.eval hy,h.eval hz,Z]) (q w' D I J)
theorem u9z {J:TypeId}(h:AgM ds a n L)(hx:ev L x=some (.map (some g)))(hy:ev L y=some (V k))(hm:MapL V w g m)(hk:KeyLaw P K V)(hu:P.underlying t=some (.map K E))(he:J=K)
    (q:∀w',MapL V w' g (z5e m k)->Fr [g] w w'->w'.heap.size=w.heap.size->∀a,AgM ds a n L->wpList P ops Q rest a w'):wpList P ops Q (⟨none,.call ⟨.builtin .delete,#[x,y],#[t,J]⟩,ty,pos,after,none⟩::rest) a w:=by
  subst he
  obtain⟨w',hr,M,O,Z⟩:=x3z (ty:=ty) hm hk hu k
  refine j4u h U U (w':=w') (v:=.tuple #[]) ?_ (q w' M O Z)
  have D:=h.eval hx
  have I:=h.eval hy
  rw[z2k];unfold builtin
  simp[D,I,hr]
theorem MapIt.fr {gi:Nat}{rem:List (κ×Value)}{cur:Option (κ×Value)}(h:MapIt V w gi g m rem cur)(hf:Fr S w w')(h1:g∉S)(O:gi∉S):MapIt V w' gi g m rem cur:=by
 obtain⟨M,c,D,I,Z,k3,k4,J,k6⟩:=h;exact⟨M,c,D,(hf.block g (Array.getElem?_eq_some_iff.1 I).1 h1).trans I,Z,k3,k4,(hf.block gi (Array.getElem?_eq_some_iff.1 J).1 O).trans J,k6⟩
theorem MapIt.ext {gi:Nat}{rem:List (κ×Value)}{cur:Option (κ×Value)}(h:MapIt V w gi g m rem cur)(hf:Fr [] w w'):MapIt V w' gi g m rem cur:=h.fr hf sp0 sp0
theorem MapIt.lt {gi:Nat}{rem:List (κ×Value)}{cur:Option (κ×Value)}(h:MapIt V w gi g m rem cur):gi<w.heap.size:=let ⟨_,_,_,_,_,_,_,k5,_⟩:=h;(Array.getElem?_eq_some_iff.1 k5).1
theorem MapIt.ne {gi:Nat}{rem:List (κ×Value)}{cur:Option (κ×Value)}(h:MapIt V w gi g m rem cur):g≠gi:=λe=>by
 obtain⟨M,c,I,J,_,_,_,D,_⟩:=h
 rw[<-e,J]at D;cases D
theorem v1p {I:Array MapEntry}{D:Array Nat}{e:MapEntry}{J M:List MapEntry}(hn:(I.toList.map (·.born)).Nodup)(h:(leftOf I D).toList=J++e::M):(leftOf I (D.push e.born)).toList=J++M:=by
 have h2:(leftOf I (D.push e.born)).toList=(leftOf I D).toList.filter λx=>decide (x.born≠e.born):=by
  unfold leftOf;rw[Array.toList_filter,Array.toList_filter,List.filter_filter];congr 1;funext x;by_cases c1:x.born=e.born;simp[c1];by_cases c2:x.born∈D;simp[c1,c2];simp[c1,c2]
 have O:((leftOf I D).toList.map (·.born)).Nodup:=by
  refine List.Nodup.sublist (List.Sublist.map _ ?_) hn;unfold leftOf;rw[Array.toList_filter];exact List.filter_sublist
 rw[h]at h2 O;rw[h2,List.filter_append,List.filter_cons];rw[List.map_append,List.map_cons]at O;obtain⟨n1,n2,n3⟩:=List.nodup_append.1 O;have n4:=List.nodup_cons.1 n2;have f1:J.filter (λx=>decide (x.born≠e.born))=J:=List.filter_eq_self.2 λx Z=>by
  simpa using n3 _ (List.mem_map_of_mem Z) e.born (List.mem_cons_self ..)
 have f2:M.filter (λx=>decide (x.born≠e.born))=M:=List.filter_eq_self.2 λx Z=>by
  have:x.born≠e.born:=λk=>n4.1 (by rw[<-k];exact List.mem_map_of_mem Z);simpa using this
 rw[f1,f2];simp
theorem x8g (hx:ev L x=some (.map (some g)))(hm:MapL V w g m)(hu:P.underlying t=some (.map K E))(hn:Nat.blt d n=true)
    (q:∀gi w',gi=w.heap.size->MapIt V w' gi g m m none->Fr [] w w'->w'.heap.size=gi+1->WL P ops Q rest n ds w' ((d,.pointer (some ⟨gi,0,none⟩))::L)):WL P ops Q (⟨some d,.range t x,ty,pos,after,none⟩::rest) n ds w L:=λa h=>by
  obtain⟨I,c,J,O,h3,Z,h5⟩:=hm
  have D:=(Array.getElem?_eq_some_iff.1 J).1
  refine z2a h U hn (w':=w.alloc (.mapIter (some g) c #[] c)) (v:=.pointer (some ⟨w.heap.size,0,none⟩)) ?_ (q _ _ U ⟨I,c,#[],?_,O,Z,h5,heap_alloc_new w _,?_,λp hp=>by cases hp⟩ (Fr.alloc [] w _) sp0 )
  · have M:=h.eval hx
    simp only[execOp,M,Sem.run_bind,run_range_map w t K E g I c hu J,Result.andThen_ok,Sem.run_pure]
  · first|exact(heap_alloc_old w _ D).trans J|exact(heap_alloc_old w _ _ D).trans J
  · rw[<-O]
    have:(leftOf I #[]).toList=I.toList:=by unfold leftOf;rw[Array.toList_filter];simp
    rw[this]
theorem v2v {gi:Nat}{rem:List (κ×Value)}{cur:Option (κ×Value)}(hx:ev L x=some (.pointer (some ⟨gi,0,none⟩)))(hi:MapIt V w gi g m rem cur)(hn:Nat.blt d n=true)
    (qt:∀(r1:List (κ×Value)) (p:κ×Value) (r2:List (κ×Value)),rem=r1++p::r2->∀w',MapIt V w' gi g m (r1++r2) (some p)->Fr [gi] w w'->w'.heap.size=w.heap.size->WL P ops Q rest n ds w' ((d,.tuple #[.bool true,V p.1,p.2])::L))
    (qf:rem=[]->WL P ops Q rest n ds w ((d,.tuple #[.bool false])::L)):WL P ops Q (⟨some d,.next x false,ty,pos,after,none⟩::rest) n ds w L:=λa h=>by
  have a3:=hi.ne
  obtain⟨I,c,D,h1,h2,h3,h4,h5,h6,h7⟩:=hi
  have a2:=(Array.getElem?_eq_some_iff.1 h5).1
  have Z:=h.eval hx
  rcases run_next_at (P:=P) w ty gi g c c D I c h5 h1 h4 (Nat.le_refl _) with ⟨e0,hr⟩|⟨e,he,w1,hw,hr⟩
  · refine z2a h U hn (w':=w) (v:=.tuple #[.bool false]) (by simp only[execOp,Z,Sem.run_bind,hr,Result.andThen_ok,Sem.run_pure]) (qf ?_)
    have:(leftOf I D).toList=[]:=List.length_eq_zero_iff.1 (by rw[Array.length_toList];exact e0)
    rw[this]at h6
    exact List.map_eq_nil_iff.1 h6.symm
  · obtain⟨l1,l2,hl⟩:=List.append_of_mem he
    rw[hl,List.map_append,List.map_cons]at h6
    obtain⟨r1,r',a5,e1,e2⟩:=List.map_eq_append_iff.1 h6.symm
    obtain⟨p,r2,a6,e3,e4⟩:=List.map_eq_cons_iff.1 e2
    obtain⟨ek,J⟩:=Prod.mk.inj e3
    have a0:e∈I.toList:=by
      have:e∈(leftOf I D).toList:=he
      unfold leftOf at this;rw[Array.toList_filter]at this;exact(List.mem_filter.1 this).1
    have a1:Fr [] w w1:=by rcases hw with rfl|rfl;exact Fr.refl _ _;exact Fr.drew _ _
    have O:w1.heap.size=w.heap.size:=by rcases hw with rfl|rfl<;>rfl
    have M:Fr [gi] w (ChangeMaps.setBlock w1 gi (.mapIter (some g) c (D.push e.born) c)):=
      (a1.weak sp0).step (S':=[gi]) ⟨rfl,rfl,rfl,by simp[ChangeMaps.setBlock],λk _ hk=>by
        simp only[ChangeMaps.setBlock]
        rw[Array.getElem?_setIfInBounds_ne (by intro e;subst e;simp at hk)]⟩ (by intro k hk _;exact hk)
    refine z2a h U hn (w':=ChangeMaps.setBlock w1 gi (.mapIter (some g) c (D.push e.born) c)) (v:=.tuple #[.bool true,e.key,e.val]) (by simp only[execOp,Z,Sem.run_bind,hr,Result.andThen_ok,Sem.run_pure]) ?_
    rw[<-ek,<-J]
    refine qt r1 p r2 (by rw[a5,a6]) _ ⟨I,c,D.push e.born,?_,h2,h3,h4,?_,?_,λp' a4=>?_⟩ M (by simp[ChangeMaps.setBlock,O])
    · exact(M.block g (Array.getElem?_eq_some_iff.1 h1).1 (by simpa using a3)).trans h1
    · simp[ChangeMaps.setBlock,O,a2]
    · rw[v1p h3 hl,List.map_append,List.map_append,<-e1,<-e4]
    · cases a4
      exact⟨e,a0,D,rfl,ek.symm,J.symm⟩
theorem x8d {gi:Nat}{rem:List (κ×Value)}{p:κ×Value}(hx:ev L x=some (.pointer (some ⟨gi,0,none⟩)))(hi:MapIt V w gi g m rem (some p))(hn:Nat.blt d n=true)
    (q:WL P ops Q rest n ds w ((d,.tuple #[V p.1,p.2])::L)):WL P ops Q (⟨some d,.entry x,ty,pos,after,none⟩::rest) n ds w L:=λa h=>by
  obtain⟨O,c,J,Z,h2,h3,h4,h5,h6,h7⟩:=hi
  obtain⟨e,he,s',rfl,M,D⟩:=h7 p U
  have I:=h.eval hx
  refine z2a h U hn (w':=w) (v:=.tuple #[V p.1,p.2]) ?_ q
  rw[<-M,<-D]
  simp only[execOp,I,Sem.run_bind,run_entry_at (P:=P) w gi g c s' O c e h5 Z he h3,Result.andThen_ok,Sem.run_pure]
end
end Go.Lw
namespace Go.G08
open Go.Lw Go.G21
section
variable {κ:Type} [DecidableEq κ] {V:κ->Value} {w w':World} {g:Nat} {m:List (κ×Value)} {S:List Nat}
theorem _root_.Go.Lw.MapL.tf {T:Nat}(h:MapL V w g m)(hf:Fr S w w')(I:OffT w T S):MapL V w' g m:=h.fr hf λJ=>by
 obtain⟨T',cs,D,_⟩:=I g J
 exact h.f.ne_blk D U
end
theorem BdO.tf {D I base:Nat}{w w':World}{q:BdQ}{S:List Nat}(h:BdO D I base w q)(hf:Fr S w w')(O:OffT w D S)(M:OffT w I S):BdO D I base w' q:=
 ⟨⟨z1v h.f.1 hf O,λp J=>z1v (h.f.2 p J) hf M⟩,⟨z1v h.b.1 hf O,λp J=>z1v (h.b.2 p J) hf M⟩⟩
structure KpM (Ts:List Nat) (g:Nat) (w w':World):Prop where
  size:w.heap.size<=w'.heap.size
  block:∀k,k<w.heap.size->k≠g->(∀(T:Nat) (cs:List Value),Blk w k T cs->T∉Ts)->w'.heap[k]?=w.heap[k]?
theorem KpM.refl (D:List Nat)(g:Nat)(w:World):KpM D g w w:=⟨Nat.le_refl _,λ_ _ _ _=>rfl⟩
theorem KpM.trans {D:List Nat}{g:Nat}{a b c:World}(h:KpM D g a b)(I:KpM D g b c):KpM D g a c:=
 ⟨Nat.le_trans h.size I.size,λk O M J=>by
  have e:=h.block k O M J
  rw[<-e]
  exact I.block k (Nat.lt_of_lt_of_le O h.size) M λT cs Z=>J T cs (e.symm.trans Z)⟩
theorem KpM.of {D:List Nat}{g:Nat}{w w':World}{S:List Nat}(hf:Fr S w w')(I:∀k∈S,k=g\/∃(T:Nat) (cs:List Value),Blk w k T cs/\T∈D):KpM D g w w':=
 ⟨hf.size,λk hk O J=>hf.block k hk λhm=>by
  rcases I k hm with e|⟨T,cs,M,Z⟩
  ·exact O e
  exact J T cs M Z⟩
theorem v7x {w:World}{k T T':Nat}{cs cs':List Value}(h:Blk w k T cs)(D:Blk w k T' cs'):T=T':=by
 have e:=(show w.heap[k]?=some (.cells cs.toArray T (0,0)) from h).symm.trans (show w.heap[k]?=some (.cells cs'.toArray T' (0,0)) from D);simp only[Option.some.injEq,Obj.cells.injEq]at e;exact e.2.1
theorem KpM.blk {D:List Nat}{g:Nat}{w w':World}(h:KpM D g w w'){k T:Nat}{cs:List Value}(hb:Blk w k T cs)(O:k≠g)(M:T∉D):Blk w' k T cs:=
 (h.block k hb.lt O λT' I J=>by rw[<-v7x hb J];exact M).trans hb
theorem KpM.map {κ:Type}[DecidableEq κ]{V:κ->Value}{em:List (κ×Value)}{I:List Nat}{g k:Nat}{w w':World}(h:KpM I g w w')(hb:MapL V w k em)(O:k≠g):MapL V w' k em:=by
 obtain⟨J,c,D,M⟩:=hb;refine⟨J,c,(h.block k (Array.getElem?_eq_some_iff.1 D).1 O λT cs hb=>?_).trans D,M⟩;have e:=(show w.heap[k]?=some (.cells cs.toArray T (0,0)) from hb).symm.trans D;cases e
theorem KpM.mapF {κ:Type}[DecidableEq κ]{V:κ->Value}{f:κ->Option Value}{I:List Nat}{g k:Nat}{w w':World}(h:KpM I g w w')(hb:MapF V w k f)(O:k≠g):MapF V w' k f:=by
 obtain⟨J,c,m,D,M⟩:=hb;refine⟨J,c,m,(h.block k (Array.getElem?_eq_some_iff.1 D).1 O λT cs hb=>?_).trans D,M⟩;have e:=(show w.heap[k]?=some (.cells cs.toArray T (0,0)) from hb).symm.trans D;cases e
theorem y4y {α:Type}{E:Enc α}{T base g:Nat}{w:World}{v:Value}{ys:List α}{D:List Nat}(h:Lw.Own E T base w v ys)(I:T∈D):∀k∈z0u v,k=g\/∃(T:Nat) (cs:List Value),Blk w k T cs/\T∈D:=λk M=>by
 obtain⟨cs,J⟩:=z4r h k M
 exact .inr ⟨T,cs,J,I⟩
theorem x9i {g k T:Nat}{w:World}{cs:List Value}{D:List Nat}(h:Blk w k T cs)(J:T∈D):∀k'∈[k],k'=g\/∃(T:Nat) (cs:List Value),Blk w k' T cs/\T∈D:=λk' I=>by
 rw[List.mem_singleton]at I;subst I
 exact .inr ⟨T,cs,h,J⟩
structure MA where
  gk:Nat
  gy:Nat
  cy:Nat
  gt:Nat
  ct:Nat
  gc:Nat
  wk:World
abbrev MA.YV (a:MA):Value:=.slice (some ⟨a.gy,0,none⟩) 6 a.cy
abbrev MA.TV (a:MA):Value:=.slice (some ⟨a.gt,0,none⟩) 6 a.ct
structure MQ where
  rk:Int
  q:BdQ
  ys:List YQ
  ts:List TQ
  cr:List Cx
  fa:SV
  fl:List LId
abbrev MQ.p (m:MQ):MSt:=⟨m.rk,m.q.p,m.ys.map YQ.p,z1s m.ts,m.cr,m.fl⟩
abbrev u4p (a:MA)(m:MQ):List Value:=[.int .i64 m.rk,.slice m.q.f.1 m.q.f.2.1 m.q.f.2.2,.slice m.q.b.1 m.q.b.2.1 m.q.b.2.2,a.YV,a.TV,.map (some a.gc),.slice m.fa.1 m.fa.2.1 m.fa.2.2]
def crK (p:LId×LId):Value:=.agg #[.int .u8 p.1.y,.int .i64 p.1.n,.int .u8 p.2.y,.int .i64 p.2.n]
def crM (l:List Cx):List ((LId×LId)×Value):=l.map λc=>((c.a,c.b),.int .i64 c.n)
structure MtOk (τ:TyK) (Mt:Nat):Prop where
  o:τ.Ok
  y:Mt≠τ.Y
  t:Mt≠τ.T
  l:Mt≠τ.L
  i:Mt≠τ.I
  p:Mt≠τ.P
  s:Mt≠τ.S
abbrev v8k (τ:TyK)(Mt:Nat):List Nat:=[Mt,τ.Y,τ.T,τ.L,τ.I]
structure FrM (τ:TyK) (Mt:Nat) (wS:World) (a:MA) (w:World):Prop where
  fr:Fr [] wS w
  kp:KpM (v8k τ Mt) a.gc a.wk w
theorem FrM.size {τ:TyK}{Mt:Nat}{wS w:World}{a:MA}(h:FrM τ Mt wS a w):wS.heap.size<=w.heap.size:=h.fr.size
theorem FrM.next {τ:TyK}{Mt:Nat}{wS w w':World}{a:MA}(h:FrM τ Mt wS a w)(hf:Fr [] w w'):FrM τ Mt wS a w':=⟨h.fr.next hf,h.kp.trans (KpM.of hf sp0)⟩
theorem FrM.step {τ:TyK}{Mt:Nat}{wS w w':World}{a:MA}{S:List Nat}(h:FrM τ Mt wS a w)(hf:Fr S w w')(I:∀k∈S,k=a.gc\/∃(T:Nat) (cs:List Value),Blk w k T cs/\T∈v8k τ Mt)(D:∀k∈S,k<wS.heap.size->k∈([]:List Nat)):FrM τ Mt wS a w':=⟨h.fr.step hf D,h.kp.trans (KpM.of hf I)⟩
structure MkM (τ:TyK) (Mt:Nat) (wS:World) (a:MA) (w:World) (m:MQ):Prop where
  k:Blk w a.gk Mt (u4p a m)
  b:BdO τ.S τ.I wS.heap.size w m.q
  y:YsO τ wS.heap.size w a.YV m.ys
  t:TbO τ wS.heap.size w a.TV m.ts
  c:MapL crK w a.gc (crM m.cr)
  f:Lw.Own z1f τ.I wS.heap.size w (slv m.fa) m.fl
  fb:∀s∈m.q.fs++m.q.bs,∀k∈z0u (slv s.1),k∉z0u (slv m.fa)
  ft:∀i,i<6->∀q∈(m.ts.getD i tq0).2,∀k∈z0u (slv q.th),k∉z0u (slv m.fa)
  ly:m.ys.length=6
  lt:m.ts.length=6
  gk:wS.heap.size<=a.gk
  gc:wS.heap.size<=a.gc
  fr:FrM τ Mt wS a w
def MRet (τ:TyK)(Mt:Nat)(wS:World)(a:MA)(x:MR)(r:Value)(w':World):Prop:=
  FrM τ Mt wS a w'/\match x with
    | .error e=>r=.int .i64 e/\e≠0
    | .ok p=>r=.int .i64 0/\∃m,MkM τ Mt wS a w' m/\m.p=p
section
variable {τ:TyK} {Mt:Nat} {wS w w':World} {a:MA} {m:MQ} {j:Nat} {y:YQ}
theorem MRet.err {x:MR}{e:Int}{w':World}(I:x=.error e)(D:e≠0)(hf:FrM τ Mt wS a w'):MRet τ Mt wS a x (.int .i64 e) w':=by subst I;exact⟨hf,rfl,D⟩
theorem MRet.ok {x:MR}{m:MQ}{w':World}(D:x=.ok m.p)(h:MkM τ Mt wS a w' m):MRet τ Mt wS a x (.int .i64 0) w':=by subst D;exact⟨h.fr,rfl,m,h,rfl⟩
theorem MkM.ext (h:MkM τ Mt wS a w m)(hf:Fr [] w w'):MkM τ Mt wS a w' m:=
 ⟨h.k.ext hf,h.b.ext hf,h.y.ext hf,h.t.ext hf,h.c.fr hf sp0,h.f.ext hf,h.fb,h.ft,h.ly,h.lt,h.gk,h.gc,h.fr.next hf⟩
theorem MkM.yarn (h:MkM τ Mt wS a w m)(D:MtOk τ Mt)(J:j<6)(ho:Lw.Own z2z τ.Y wS.heap.size w' a.YV (m.ys.set j y))(hf:Fr [a.gy] w w')(hp:Lw.Own z2f τ.P wS.heap.size w (slv y.pe) y.pes):MkM τ Mt wS a w' { m with ys:=m.ys.set j y }:=by
 have o:∀T,T≠τ.Y->OffT w T [a.gy]:=λT I=>z4z h.y.out (Ne.symm I);refine⟨y1o h.k hf (o _ D.y),BdO.tf h.b hf (o _ (Ne.symm D.o.ys)) (o _ (Ne.symm D.o.yi)),h.y.put (by rw[h.ly];exact J) D.o ho hf hp,h.t.tf hf (o _ (Ne.symm D.o.yt)) (o _ (Ne.symm D.o.yl)) (o _ (Ne.symm D.o.yi)) (o _ (Ne.symm D.o.yp)),h.c.tf hf (o _ D.y),z1v h.f hf (o _ (Ne.symm D.o.yi)),h.fb,h.ft,by rw[List.length_set];exact h.ly,h.lt,h.gk,h.gc,h.fr.step hf (y4y h.y.out (by simp[v8k])) λk M O=>?_⟩;have:=(h.y.out.blk k M).1;omega
theorem MkM.beds {q:BdQ}{r:Int}(h:MkM τ Mt wS a w m)(D:MtOk τ Mt)(Z:BdO τ.S τ.I wS.heap.size w q)(J:Blk w' a.gk Mt (u4p a { m with q:=q,rk:=r }))(hf:Fr [a.gk] w w')(I:∀s∈q.fs++q.bs,∀k∈z0u (slv s.1),k∉z0u (slv m.fa)):MkM τ Mt wS a w' { m with q:=q,rk:=r }:=by
 have o:∀T,T≠Mt->OffT w T [a.gk]:=λT M=>OffT.one h.k (Ne.symm M);refine⟨J,BdO.tf Z hf (o _ (Ne.symm D.s)) (o _ (Ne.symm D.i)),h.y.tf hf (o _ (Ne.symm D.y)) (o _ (Ne.symm D.p)),h.t.tf hf (o _ (Ne.symm D.t)) (o _ (Ne.symm D.l)) (o _ (Ne.symm D.i)) (o _ (Ne.symm D.p)),h.c.tf hf (o _ (Ne.symm D.y)),z1v h.f hf (o _ (Ne.symm D.i)),I,h.ft,h.ly,h.lt,h.gk,h.gc,h.fr.step hf (x9i h.k (by simp[v8k])) λk J O=>?_⟩;rw[List.mem_singleton]at J;have:=h.gk;omega
theorem x3d {M I:Nat}{q:BdQ}{v:Value}{ys:List LId}{T base b:Nat}(J:BdO M I b w' q)(Z:Lw.Own z1f T base w v ys)(hb:w.heap.size<=b):∀s∈q.fs++q.bs,∀k∈z0u (slv s.1),k∉z0u v:=λs O k D hb=>by
 have:=(Z.blk k hb).2
 rcases List.mem_append.1 O with e|e
 ·have:=((J.f.2 s e).blk k D).1;omega
 have:=((J.b.2 s e).blk k D).1;omega
theorem MkM.fall {w2:World}{u:SV}{l:List LId}(h:MkM τ Mt wS a w m)(D:MtOk τ Mt)(a0:τ.I≠τ.P)(h1:Lw.Own z1f τ.I wS.heap.size w' (slv u) l)(I:Fr (z0u (slv m.fa)) w w')(hx:∀k∈z0u (slv u),k∈z0u (slv m.fa)\/w.heap.size<=k)
    (J:Blk w2 a.gk Mt (u4p a { m with fa:=u,fl:=l })) (f2:Fr [a.gk] w' w2):MkM τ Mt wS a w2 { m with fa:=u,fl:=l }:=by
  have Z:∀T,T≠τ.I->OffT w T (z0u (slv m.fa)):=λT hT=>z4z h.f (Ne.symm hT)
  have k1:=y1o h.k I (Z _ D.i)
  have M:∀T,T≠Mt->OffT w' T [a.gk]:=λT hT=>OffT.one k1 (Ne.symm hT)
  have dx:∀ {v:Value} {xs:List LId},Lw.Own z1f τ.I wS.heap.size w v xs->(∀k∈z0u v,k∉z0u (slv m.fa))->∀k∈z0u v,k∉z0u (slv u):=λho hd k J hb=>by
    rcases hx k hb with e|e
    · exact hd k J e
    · have:=(ho.blk k J).2;omega
  have fi:∀ {v:Value} {xs:List LId},Lw.Own z1f τ.I wS.heap.size w v xs->(∀k∈z0u v,k∉z0u (slv m.fa))->Lw.Own z1f τ.I wS.heap.size w2 v xs:=λho hd=>z1v (ho.fr I λk J hb=>hd k hb J) f2 (M _ (Ne.symm D.i))
  have a2:∀s∈m.q.fs,Lw.Own z1f τ.I wS.heap.size w2 (slv s.1) s.2:=λs O=>fi (h.b.f.2 s O) (h.fb s (List.mem_append.2 (.inl O)))
  have a1:∀s∈m.q.bs,Lw.Own z1f τ.I wS.heap.size w2 (slv s.1) s.2:=λs O=>fi (h.b.b.2 s O) (h.fb s (List.mem_append.2 (.inr O)))
  refine⟨J,⟨⟨z1v (z1v h.b.f.1 I (Z _ D.o.si)) f2 (M _ (Ne.symm D.s)),a2⟩,⟨z1v (z1v h.b.b.1 I (Z _ D.o.si)) f2 (M _ (Ne.symm D.s)),a1⟩⟩,
    (h.y.tf I (Z _ D.o.yi) (Z _ (Ne.symm a0))).tf f2 (M _ (Ne.symm D.y)) (M _ (Ne.symm D.p)),
    ⟨z1v (z1v h.t.out I (Z _ D.o.ti)) f2 (M _ (Ne.symm D.t)),λi hi=>z1v (z1v (h.t.ins i hi) I (Z _ D.o.li)) f2 (M _ (Ne.symm D.l)),h.t.off,λi hi q hq=>⟨fi (h.t.lps i hi q hq).1 (h.ft i (by rw[<-h.lt];exact hi) q hq),z1v (z1v (h.t.lps i hi q hq).2 I (Z _ (Ne.symm a0))) f2 (M _ (Ne.symm D.p))⟩⟩,
    (h.c.tf I (Z _ D.i)).tf f2 (M _ (Ne.symm D.y)),z1v h1 f2 (M _ (Ne.symm D.i)),λs O=>?_,λi hi q hq=>dx (h.t.lps i (by rw[h.lt];exact hi) q hq).1 (h.ft i hi q hq),h.ly,h.lt,h.gk,h.gc,(h.fr.step I (y4y h.f (by simp[v8k])) λk J a3=>?_).step f2 (x9i k1 (by simp[v8k])) λk J a3=>?_⟩
  · rcases List.mem_append.1 O with e|e
    · exact dx (h.b.f.2 s e) (h.fb s O)
    · exact dx (h.b.b.2 s e) (h.fb s O)
  · have:=(h.f.blk k J).1;omega
  · rw[List.mem_singleton]at J;have:=h.gk;omega
theorem MkM.mark (h:MkM τ Mt wS a w m):MkM τ Mt wS { a with wk:=w } w m:=⟨h.k,h.b,h.y,h.t,h.c,h.f,h.fb,h.ft,h.ly,h.lt,h.gk,h.gc,⟨h.fr.fr,KpM.refl _ _ _⟩⟩
theorem MkM.unmark (h:MkM τ Mt wS { a with wk:=w } w' m)(D:FrM τ Mt wS a w):MkM τ Mt wS a w' m:=⟨h.k,h.b,h.y,h.t,h.c,h.f,h.fb,h.ft,h.ly,h.lt,h.gk,h.gc,⟨h.fr.fr,D.kp.trans h.fr.kp⟩⟩
def j7f (x:MR):Int:=match x with
  | .error e=>e
  | .ok _=>0
theorem MRet.split {x:MR}{r:Value}(h:MRet τ Mt wS a x r w'):r=.int .i64 (j7f x)/\FrM τ Mt wS a w'/\∃J,j7f x=0->MkM τ Mt wS a w' J/\x=.ok J.p:=by
 obtain⟨I,D⟩:=h;cases x with
 | error e=>exact⟨D.1,I,⟨0,⟨sv0,sv0,[],[]⟩,[],[],[],sv0,[]⟩,λM=>absurd M D.2⟩
 | ok p=>exact⟨D.1,I,D.2.choose,λ_=>⟨D.2.choose_spec.1,congrArg Except.ok D.2.choose_spec.2.symm⟩⟩
theorem y1h {x:MR}(h:j7f x≠0):x=.error (j7f x):=by cases x with
 | error e=>rfl
 | ok p=>exact absurd U h
theorem y1j (b n r:Int):-400<=z4g b n r/\z4g b n r<=400:=by
 unfold z4g;split;omega;rename_i h;have D:z3v b n=0:=Classical.not_not.1 λe=>h (.inl e);have I:-4<=r/\r<=4:=Classical.not_not.1 λe=>h (.inr e);have:=z2p D;split<;>omega
def OwnIf {α:Type}(c:Prop)(E:Enc α)(T base:Nat)(w:World)(v:Value)(ys:List α):Prop:=c->Lw.Own E T base w v ys
theorem OwnIf.fr {α:Type}{c:Prop}{E:Enc α}{T base:Nat}{w w':World}{v:Value}{ys:List α}{S:List Nat}(h:OwnIf c E T base w v ys)(hf:Fr S w w')(hn:c->∀k∈S,k∉z0u v:=by simp[z0u]<;>omega):OwnIf c E T base w' v ys:=λD=>(h D).fr hf (hn D)
theorem OwnIf.ext {α:Type}{c:Prop}{E:Enc α}{T base:Nat}{w w':World}{v:Value}{ys:List α}(h:OwnIf c E T base w v ys)(hf:Fr [] w w'):OwnIf c E T base w' v ys:=λD=>(h D).ext hf
theorem j7m (m:MQ)(y:Int):m.p.y y=(m.ys.getD (y-1).toNat yq0).p:=by
 unfold MSt.y;rw[List.getD,List.getD,List.getElem?_map];cases m.ys[(y-1).toNat]?<;>rfl
theorem y0c {y:Int}(m:MQ)(q:YQ)(D:(y-1).toNat=j):{ m with ys:=m.ys.set j q }.p=m.p.setY y q.p:=by
 subst D;unfold MSt.setY MQ.p;simp only[List.map_set]
end
end Go.G08
namespace Go.Proofs.YtjilcnmaefhmeaaGreatDoor
open Go.Lw Go.G21 Go.G08 _root_.Go.Proofs.Tryz
theorem x1e (q:YQ)(w0:World)(hp:Sl z2f w0 (slv q.pe) q.pes):Rets prog 145 #[.agg #[.bool q.inn,.int .i64 q.pl,.int .i64 q.ct,.bool q.nw,.slice q.pe.1 q.pe.2.1 q.pe.2.2]] w0 λr w'=>∃J:YQ,r=.tuple #[.agg #[.bool J.inn,.int .i64 J.pl,.int .i64 J.ct,.bool J.nw,.slice J.pe.1 J.pe.2.1 J.pe.2.2],.int .i64 (lvE q.p)]/\(lvE q.p=0->J=⟨false,0,q.ct,false,sv0,[]⟩)/\Fr [] w0 w':=by
 have a4:=z1x hp;have a1:=hp.len_le;unfold maxLen at a1;refine we [(0,.agg #[.bool q.inn,.int .i64 q.pl,.int .i64 q.ct,.bool q.nw,.slice q.pe.1 q.pe.2.1 q.pe.2.2])] func145 U ntmps145 U (.cons U .nil) ?_;have a0:=hp;refine sr (bx U (λg1 w1 a2 I q1 z1=>(al y3c U (λg2 w2 a3 D q2 z2=>(asg U (nn (sq (sr ?_))))))));replace I:=I.ext q2;refine z0m U I z6y ?_;replace hp:=a0.ext (q1.n1 q2);refine cl (ev1 U) j5j (z8w q _ hp) U ?_;rintro _ w3 ⟨rfl,O⟩;refine asg U (nn (sr (mv U U (ne' U (nn (cd U (λZ=>?_) (λZ=>?_)))))));refine sr (z1p (cs:=[_,_,_,_,_]) z0g x3i z0p U ?_);refine mv U U ?_;replace D:=D.ext O;refine z0k (vs:=[_,_,_,_,_]) U D z7d (λw4 D q4 z4=>(asg U (nn (rt (tr (rCT results145 U D z6y U ?_))))));have M:lvE q.p=ynE q.p:=by unfold lvE;rw[if_pos Z]
 exact⟨_,rfl,yq0,by rw[M];rfl,(λh=>absurd h (by rw[M];exact Z)),(q1.z3 q2 O q4)⟩;refine sk (tn (sq (sr (fad U y0k ?_))));replace I:=I.ext O;refine z0i U I U na4 (nt' U (nn (cd U (λc1=>?_) (λc1=>?_))));refine sr (z1p (cs:=[_,_,_,_,_]) z0g x3i z0p U ?_);replace D:=D.ext O;refine z0k (vs:=[_,_,_,_,_]) U D z7d (λw5 D q5 z5=>(asg U (nn (rt (tr (rCT results145 U D z6y U ?_))))));have M:lvE q.p=12:=by unfold lvE;rw[if_neg Z,if_pos (by simpa using c1)]
 exact⟨_,rfl,yq0,by rw[M];rfl,(λh=>absurd h (by rw[M];decide)),(q1.z3 q2 O q5)⟩;refine sk (tn (sr (fad U y1k (z0i U I U na3 (z1p (cs:=[_,_,_,_,_]) (ev1 U) x3i (z0f U z0p) U ?_)))));replace D:=D.ext O;refine z0k (vs:=[_,_,_,_,_]) U D z7d (λw6 D q6 z6=>(asg U (nn (rt (rCT results145 U D z6y U ?_)))));have M:lvE q.p=0:=by unfold lvE;rw[if_neg Z,if_neg (by simpa using c1)]
 exact⟨_,rfl,⟨false,0,q.ct,false,sv0,[]⟩,by rw[M];rfl,(λ_=>rfl),(q1.z3 q2 O q6)⟩
theorem j3q (v:Value)(l:List Int)(w0:World)(I:Sl Enc.i64 w0 v l)(hl:l.length<=1000):Rets prog 66 #[v] w0 λr w'=>r=.int .i64 (orZ l)/\Fr [] w0 w':=by
 obtain⟨A,c,rfl,a0,hM,hA⟩:=id I;clear hA;unfold maxLen at hM;refine we [(0,.slice A l.length c)] func66 U ntmps66 U (.cons U .nil) ?_;have M:=I;refine sr (asg U (nn (sr (asg U (nn (sq (sr (mv U U (lnS U underlying154 (mv U U (nn (bl (lpK (ι:=Nat) [(3,_),(6,_),(7,_)] (λi=>[(8,.int .i64 (i:Int))]) (λi w'=>Fr [] w0 w'/\i<=l.length/\∀j,j<i->l.getD j 0=0) (λi=>l.length-i) 0 (.c4 U U U U) ⟨Fr.refl _ _,⟨Nat.zero_le _,λj h=>absurd h oo⟩⟩ ?_)))))))))))));rintro i w1 ⟨J,⟨hi,O⟩⟩;refine kpC [(3,_),(6,_),(7,_),(8,_)] (.c4 U U U U) (sr (lt' U (nn (sq (cd U (λc0=>?_) (λc0=>?_))))));refine sk (tn (sq (bl (sr ?_))));replace I:=M.ext J;refine z1d (0) U I U z7m z1i (λZ D=>?_);refine z1l U (D _ I) na3 (asg U (nn (sr (mv U U (mv U U (ne' U (nn (cd U (λc1=>?_) (λc1=>?_)))))))));refine sr (mv U U (asg U (kpL [(2,_)] (.cons U .nil) (nn (rt (rb (tr (tr (rb (tr (r1 results66 U ?_)))))))))));exact⟨_,rfl,congrArg (Value.int .i64) (v8a oo O oo).symm,J⟩;refine sk (bn' (tn (rg (z0z U (wi6 oo) (mv U U (nl ?_))))));exact lpE (i+1) (.c4 U U U U) ⟨J,⟨oo,λj h=>by
  by_cases e:j=i;subst e;omega;exact O j oo⟩⟩ oo
 obtain rfl:i=l.length:=by omega
 refine ex (te (te (xh (tn (sr (mv U U (asg U (kpL [(2,_)] (.cons U .nil) (nn (rt (r1 results66 U ?_)))))))))));exact⟨_,rfl,congrArg (Value.int .i64) (x0f O).symm,J⟩
theorem y1d (O Z:LId)(w0:World):Rets prog 69 #[.agg #[.int .u8 O.y,.int .i64 O.n],.agg #[.int .u8 Z.y,.int .i64 Z.n]] w0 λr w'=>r=.int .i64 (z6n O Z)/\Fr [] w0 w':=by
 refine we [(0,.agg #[.int .u8 O.y,.int .i64 O.n]),(1,.agg #[.int .u8 Z.y,.int .i64 Z.n])] func69 U ntmps69 U (.c2 U U) (sr (bx U (λg2 w1 a3 J q1 z1=>(bx U (λg3 w2 a4 M q2 z2=>(asg U (nn (sq ?_))))))));intro a h;refine z0h none (λwb w'=>Fr [] wb w') z2m ?_;intro w3 q3;replace J:=J.ext (q2.n1 q3);replace M:=M.ext q3;have hC:Fr [] w3 w3:=Fr.refl _ _;have D:=J;have I:=M;refine z0c 0 h U z5m U λa h=>z0j 1 h U (λ_ hw=>D.ext hw) U na5 U λa h=>z0c 2 h U z5m U λa h=>z0j 3 h U (λ_ hw=>I.ext hw) U na5 U λa h=>z0c 5 h U z6f U λa h=>z0j 6 h U (λ_ hw=>D.ext hw) U na3 U λa h=>z0c 7 h U z6f U λa h=>z0j 8 h U (λ_ hw=>I.ext hw) U na3 U λa h=>z0d 4 U (z0o h (z0a U (z0a U z0g)) (mkC func131) (j5p _ _ _) ?_);rintro _ w4 ⟨rfl,q4⟩ a h;replace hC:=hC.next q4;refine z0b (z0d 9 U (z0o h (z0a U (z0a U z0g)) (mkC func67) (v7u _ _ _) ?_));rintro _ w5 ⟨rfl,q5⟩ a h;replace J:=J.ext (q4.n1 q5);replace M:=M.ext (q4.n1 q5);replace hC:=hC.next q5;refine z0b (z0d 10 U (z2y ([z6a O.y Z.y,z6a O.n Z.n]) h (z0a U (z0a U z0g)) U z7m λa1 w6 hg a2 q6 hz a h=>?_));have a0:g2<a1:=by have:=J.lt;omega
 have a0:g3<a1:=by have:=M.lt;omega
 replace hC:=hC.next q6;refine z0b (z0d 11 U (z0o h (z0a U z0g) (mkC func66) (j3q _ [z6a O.y Z.y,z6a O.n Z.n] _ a2.sl sp0) ?_));rintro _ w7 ⟨rfl,q7⟩ a h;replace hC:=hC.next q7;refine z0b (z0d 12 U (z0s h U λa h=>?_));refine z0b (z0q ?_);clear hC D I;refine bk (h.sub (L':=[(4,_)]) (.cons U .nil)) (tn (rt (r1 results69 U ?_)));exact⟨_,rfl,congrArg (Value.int .i64) (x6s O Z),(q1.n6 q2 q3 q4 q5 q6 q7)⟩
theorem y4b:ElemOf prog 51 95 z2z 56:=ElemOf.mk' (z:=(.agg #[.bool false,.int .i64 0,.int .i64 0,.bool false,.slice none 0 0])) underlying51 kr U
theorem z3e:z0x prog 183 2 3:=λ_ _=>kr
theorem y3q:z2c prog 51:=λ_=>kr
abbrev τd:TyK:=⟨95,34,107,73,97,27,55⟩
theorem τd_ok:τd.Ok:=by constructor<;>decide
theorem mtd:MtOk τd 183:=⟨τd_ok,dd,dd,dd,dd,dd,dd⟩
theorem j5g (wS:World)(ka:MA)(m:MQ)(o:MOp)(w0:World)(hM:MkM τd 183 wS ka w0 m)(hy:1<=o.y/\o.y<=6):Rets prog 92 #[.pointer (some ⟨ka.gk,0,none⟩),opV o] w0 λr w'=>MRet τd 183 wS ka (inM m.p o) r w':=by
 have d4:=hM.fr.size;have O:=hM.k;have c9:=O.lt;have d1:=hM.ly;have d0:=hM.lt;have b9:=(hM.y.out.blk ka.gy (by simp[z0u])).2;obtain⟨j,hj,d3⟩:∃j:Nat,j<6/\o.y=(j:Int)+1:=⟨(o.y-1).toNat,oo,oo⟩;have b0:(o.y-1).toNat=j:=by omega
 have a8:m.p.y o.y=(m.ys.getD j yq0).p:=by rw[j7m,b0]
 refine we [(0,.pointer (some ⟨ka.gk,0,none⟩)),(1,opV o)] func92 U ntmps92 U (.c2 U U) ?_;have a3:=hM;refine sr (bx U (λg3 w1 c1 D q1 z1=>(asg U (nn (sq ?_)))));replace hM:=a3.ext q1;intro a h;refine z0h none (λwb w'=>Fr [] wb w') z2m ?_;intro w2 q2;have z2:=q2.size;replace hM:=hM.ext q2;replace O:=O.ext (q1.n1 q2);replace D:=D.ext q2;have hC:Fr [] w2 w2:=Fr.refl _ _;have Z:=hM;have M:=O;have I:=D;refine z0e 0 h U λa h=>z0l 1 h U λa h=>z0c 2 h U z3e U λa h=>z0j 3 h U (λ_ hw=>M.ext hw) U y3q U λa h=>z0c 4 h U z3l U λa h=>z0j 5 h U (λ_ hw=>I.ext hw) U na5 U λa h=>z2t 6 h wn U (by first|exact IntWalk.u8_in _ oo|rfl) U λa h=>z1g (p:=j) (yq0) 7 h U hM.y.out.sl U y4b U λb8 b4 a h=>z2o (cs:=z2z.enc (m.ys.getD j yq0)) 8 h wn U (λ_ hw=>b4 _ (Z.ext hw).y.out.sl) z6y U λa h=>z0c 9 h U z7p U λa h=>z0j 10 h U (λ_ hw=>I.ext hw) U x0l U λa h=>?_;refine z1y 11 15 kr U ?_ ?_;refine z0o h (z0a U (z0a U z0g)) (mkC func144) (x3k (m.ys.getD j yq0) o.d _ (hM.y.ins j oo).sl) ?_;rintro _ w3 ⟨qn,rfl,a6,q3⟩ a h;have z3:=q3.size;replace O:=O.ext q3;replace D:=D.ext q3;replace hC:=hC.next q3;refine z0b (z0e 12 h U λa h=>z0n 13 h U λa h=>z0n 14 h U λa h=>z0d 15 U (z0w h y3c U λw4 J q4 hz a h=>?_));obtain⟨a2,hg⟩:∃g,g=w3.heap.size:=⟨_,rfl⟩;rw[<-hg]at J h hz;have b6.gk_5:ka.gk<a2:=by have:=O.lt;omega
 have b3:g3<a2:=by have:=D.lt;omega
 have z4:=q4.size;replace hM:=hM.ext (q3.n1 q4);replace O:=O.ext q4;replace D:=D.ext q4;replace hC:=hC.next q4;refine z0b (z0d 16 U (z0t h U J U z7d ?_ (h1:=(by first|(simp[Value.oneCell',S];done)|exact z2z.one (m.ys.getD j yq0)))));clear h a;intro w5 a5 q5 hz a h;have z5:=q5.size;replace O:=O.fr q5;replace D:=D.fr q5;replace hC:=hC.sp q5;clear J hz;have J:Blk w5 a2 _ [_,_,_,_,_]:=a5;clear a5;refine z0b (z0d 17 U (z0s h U λa h=>?_));refine z0b (z0q ?_);clear hC Z M I;refine bk (h.sub (L':=[(0,_),(3,_),(5,_),(6,_)]) (.c4 U U U U)) (tn (sq (sr (mv U U (eq' U (nn (cd U (λc0=>?_) (λc0=>?_))))))));obtain rfl:=a6 c0;replace hM:=a3.ext (q1.z4 q2 q3 q4 q5);intro a h;refine z0h (some 9) (λwb w'=>Fr [] wb w') z2m ?_;intro w6 q6;have z6:=q6.size;replace hM:=hM.ext q6;replace O:=O.ext q6;replace D:=D.ext q6;replace J:=J.ext q6;have hC:Fr [] w6 w6:=Fr.refl _ _;have Z:=hM;have M:=O;have I:=D;have a0:=J;refine z0e 0 h U λa h=>z0l 1 h U λa h=>z0c 2 h U z3e U λa h=>z0j 3 h U (λ_ hw=>M.ext hw) U y3q U λa h=>z0c 4 h U z3l U λa h=>z0j 5 h U (λ_ hw=>I.ext hw) U na5 U λa h=>z2t 6 h wn U (by first|exact IntWalk.u8_in _ oo|rfl) U λa h=>z0v 7 h U (λ_ hw=>a0.ext hw) z6y U λa h=>z1q 8 kr kr kr hC (p:=j) h wn U y4b oo oo oo U U λa h=>z0d 9 U (z1c (i:=j) (⟨true,if o.d=1 then 179 else -13,(m.ys.getD j yq0).ct,true,sv0,[]⟩:YQ) h U hM.y.out (by rw[hM.ly];exact hj) U z7d λw7 a1 q7 _hz a h=>?_);replace hM:=hM.yarn mtd hj a1 q7 (Own.nil _);have a3:=hM;clear a1;have z7:=q7.size;replace D:=D.fr q7;replace J:=J.fr q7;have O:=hM.k;clear _hz;refine z1m (z0q ?_);clear hC Z M I a0;refine bk (h.sub (L':=[(6,_)]) (.cons U .nil)) (tn (sr (mv U U (asg U (nn (rt (r1 results92 U ?_)))))));exact⟨_,rfl,by rw[c0];exact MRet.ok (by unfold inM;rw[a8,if_neg (λe=>e c0)];exact congrArg Except.ok (y0c m (⟨true,if o.d=1 then 179 else -13,(m.ys.getD j yq0).ct,true,sv0,[]⟩:YQ) b0).symm) hM⟩;refine sk (tn (sr (mv U U (asg U (kpL [(4,_)] (.cons U .nil) (nn (rt (r1 results92 U ?_))))))));replace hM:=a3.ext (q1.z4 q2 q3 q4 q5);exact⟨_,rfl,MRet.err (by unfold inM;rw[a8,if_pos c0]) c0 hM.fr⟩;refine z0w h y3c U λw8 J q8 hz a h=>?_;obtain⟨a2,hg⟩:∃g,g=w2.heap.size:=⟨_,rfl⟩;rw[<-hg]at J h hz;have b6.gk_5:ka.gk<a2:=by have:=O.lt;omega
 have b3:g3<a2:=by have:=D.lt;omega
 have z8:=q8.size;replace hM:=hM.ext q8;replace hC:=hC.next q8;refine z0b (z0d 11 U (z0o h (z0a U (z0a U z0g)) (mkC func144) (x3k (m.ys.getD j yq0) o.d _ (hM.y.ins j oo).sl) ?_));rintro _ w9 ⟨qn,rfl,a6,q9⟩ a h;have z9:=q9.size;replace hM:=hM.ext q9;replace O:=O.ext (q8.n1 q9);replace D:=D.ext (q8.n1 q9);replace J:=J.ext q9;replace hC:=hC.next q9;refine z0b (z0e 12 h U λa h=>z0n 13 h U λa h=>z0n 14 h U λa h=>z0d 16 U (z0t h U J U z7d ?_ (h1:=(by first|(simp[Value.oneCell',S];done)|exact z2z.one (m.ys.getD j yq0)))));clear h a;intro b7 a5 a4 hz a h;have d6:=a4.size;replace O:=O.fr a4;replace D:=D.fr a4;replace hC:=hC.sp a4;clear J hz;have J:Blk b7 a2 _ [_,_,_,_,_]:=a5;clear a5;refine z0b (z0d 17 U (z0s h U λa h=>?_));refine z0b (z0q ?_);clear hC Z M I;refine bk (h.sub (L':=[(0,_),(3,_),(5,_),(6,_)]) (.c4 U U U U)) (tn (sq (sr (mv U U (eq' U (nn (cd U (λc0=>?_) (λc0=>?_))))))));obtain rfl:=a6 c0;replace hM:=a3.ext (q1.z4 q2 q8 q9 a4);intro a h;refine z0h (some 9) (λwb w'=>Fr [] wb w') z2m ?_;intro b5 a7;have d7:=a7.size;replace hM:=hM.ext a7;replace O:=O.ext a7;replace D:=D.ext a7;replace J:=J.ext a7;have hC:Fr [] b5 b5:=Fr.refl _ _;have Z:=hM;have M:=O;have I:=D;have a0:=J;refine z0e 0 h U λa h=>z0l 1 h U λa h=>z0c 2 h U z3e U λa h=>z0j 3 h U (λ_ hw=>M.ext hw) U y3q U λa h=>z0c 4 h U z3l U λa h=>z0j 5 h U (λ_ hw=>I.ext hw) U na5 U λa h=>z2t 6 h wn U (by first|exact IntWalk.u8_in _ oo|rfl) U λa h=>z0v 7 h U (λ_ hw=>a0.ext hw) z6y U λa h=>z1q 8 kr kr kr hC (p:=j) h wn U y4b oo oo oo U U λa h=>z0d 9 U (z1c (i:=j) (⟨true,if o.d=1 then 179 else -13,(m.ys.getD j yq0).ct,true,sv0,[]⟩:YQ) h U hM.y.out (by rw[hM.ly];exact hj) U z7d λd5 a1 a9 _hz a h=>?_);replace hM:=hM.yarn mtd hj a1 a9 (Own.nil _);have a3:=hM;clear a1;have d9:=a9.size;replace D:=D.fr a9;replace J:=J.fr a9;have O:=hM.k;clear _hz;refine z1m (z0q ?_);clear hC Z M I a0;refine bk (h.sub (L':=[(6,_)]) (.cons U .nil)) (tn (sr (mv U U (asg U (nn (rt (r1 results92 U ?_)))))));exact⟨_,rfl,by rw[c0];exact MRet.ok (by unfold inM;rw[a8,if_neg (λe=>e c0)];exact congrArg Except.ok (y0c m (⟨true,if o.d=1 then 179 else -13,(m.ys.getD j yq0).ct,true,sv0,[]⟩:YQ) b0).symm) hM⟩;refine sk (tn (sr (mv U U (asg U (kpL [(4,_)] (.cons U .nil) (nn (rt (r1 results92 U ?_))))))));replace hM:=a3.ext (q1.z4 q2 q8 q9 a4);exact⟨_,rfl,MRet.err (by unfold inM;rw[a8,if_pos c0]) c0 hM.fr⟩
theorem j1i (wS:World)(ka:MA)(m:MQ)(o:MOp)(w0:World)(hM:MkM τd 183 wS ka w0 m)(hy:1<=o.y/\o.y<=6):Rets prog 93 #[.pointer (some ⟨ka.gk,0,none⟩),opV o] w0 λr w'=>MRet τd 183 wS ka (v0s m.p o) r w':=by
 have d4:=hM.fr.size;have O:=hM.k;have c9:=O.lt;have d1:=hM.ly;have d0:=hM.lt;have b9:=(hM.y.out.blk ka.gy (by simp[z0u])).2;obtain⟨j,hj,d3⟩:∃j:Nat,j<6/\o.y=(j:Int)+1:=⟨(o.y-1).toNat,oo,oo⟩;have b0:(o.y-1).toNat=j:=by omega
 have a8:m.p.y o.y=(m.ys.getD j yq0).p:=by rw[j7m,b0]
 refine we [(0,.pointer (some ⟨ka.gk,0,none⟩)),(1,opV o)] func93 U ntmps93 U (.c2 U U) ?_;have a3:=hM;refine sr (bx U (λg3 w1 c1 D q1 z1=>(asg U (nn (sq ?_)))));replace hM:=a3.ext q1;intro a h;refine z0h none (λwb w'=>Fr [] wb w') z2m ?_;intro w2 q2;have z2:=q2.size;replace hM:=hM.ext q2;replace O:=O.ext (q1.n1 q2);replace D:=D.ext q2;have hC:Fr [] w2 w2:=Fr.refl _ _;have Z:=hM;have M:=O;have J:=D;refine z0e 0 h U λa h=>z0l 1 h U λa h=>z0c 2 h U z3e U λa h=>z0j 3 h U (λ_ hw=>M.ext hw) U y3q U λa h=>z0c 4 h U z3l U λa h=>z0j 5 h U (λ_ hw=>J.ext hw) U na5 U λa h=>z2t 6 h wn U (by first|exact IntWalk.u8_in _ oo|rfl) U λa h=>z1g (p:=j) (yq0) 7 h U hM.y.out.sl U y4b U λb8 b4 a h=>z2o (cs:=z2z.enc (m.ys.getD j yq0)) 8 h wn U (λ_ hw=>b4 _ (Z.ext hw).y.out.sl) z6y U λa h=>z1y 9 13 kr U ?_ ?_;refine z0o h (z0a U z0g) (mkC func145) (x1e (m.ys.getD j yq0) _ (hM.y.ins j oo).sl) ?_;rintro _ w3 ⟨qn,rfl,a6,q3⟩ a h;have z3:=q3.size;replace O:=O.ext q3;replace D:=D.ext q3;replace hC:=hC.next q3;refine z0b (z0e 10 h U λa h=>z0n 11 h U λa h=>z0n 12 h U λa h=>z0d 13 U (z0w h y3c U λw4 I q4 hz a h=>?_));obtain⟨a2,hg⟩:∃g,g=w3.heap.size:=⟨_,rfl⟩;rw[<-hg]at I h hz;have b6.gk_5:ka.gk<a2:=by have:=O.lt;omega
 have b3:g3<a2:=by have:=D.lt;omega
 have z4:=q4.size;replace hM:=hM.ext (q3.n1 q4);replace O:=O.ext q4;replace D:=D.ext q4;replace hC:=hC.next q4;refine z0b (z0d 14 U (z0t h U I U z7d ?_ (h1:=(by first|(simp[Value.oneCell',S];done)|exact z2z.one (m.ys.getD j yq0)))));clear h a;intro w5 a5 q5 hz a h;have z5:=q5.size;replace O:=O.fr q5;replace D:=D.fr q5;replace hC:=hC.sp q5;clear I hz;have I:Blk w5 a2 _ [_,_,_,_,_]:=a5;clear a5;refine z0b (z0d 15 U (z0s h U λa h=>?_));refine z0b (z0q ?_);clear hC Z M J;refine bk (h.sub (L':=[(0,_),(3,_),(5,_),(6,_)]) (.c4 U U U U)) (tn (sq (sr (mv U U (eq' U (nn (cd U (λc0=>?_) (λc0=>?_))))))));obtain rfl:=a6 c0;replace hM:=a3.ext (q1.z4 q2 q3 q4 q5);intro a h;refine z0h (some 9) (λwb w'=>Fr [] wb w') z2m ?_;intro w6 q6;have z6:=q6.size;replace hM:=hM.ext q6;replace O:=O.ext q6;replace D:=D.ext q6;replace I:=I.ext q6;have hC:Fr [] w6 w6:=Fr.refl _ _;have Z:=hM;have M:=O;have J:=D;have a0:=I;refine z0e 0 h U λa h=>z0l 1 h U λa h=>z0c 2 h U z3e U λa h=>z0j 3 h U (λ_ hw=>M.ext hw) U y3q U λa h=>z0c 4 h U z3l U λa h=>z0j 5 h U (λ_ hw=>J.ext hw) U na5 U λa h=>z2t 6 h wn U (by first|exact IntWalk.u8_in _ oo|rfl) U λa h=>z0v 7 h U (λ_ hw=>a0.ext hw) z6y U λa h=>z1q 8 kr kr kr hC (p:=j) h wn U y4b oo oo oo U U λa h=>z0d 9 U (z1c (i:=j) (⟨false,0,(m.ys.getD j yq0).ct,false,sv0,[]⟩:YQ) h U hM.y.out (by rw[hM.ly];exact hj) U z7d λw7 a1 q7 _hz a h=>?_);replace hM:=hM.yarn mtd hj a1 q7 (Own.nil _);have a3:=hM;clear a1;have z7:=q7.size;replace D:=D.fr q7;replace I:=I.fr q7;have O:=hM.k;clear _hz;refine z1m (z0q ?_);clear hC Z M J a0;refine bk (h.sub (L':=[(6,_)]) (.cons U .nil)) (tn (sr (mv U U (asg U (nn (rt (r1 results93 U ?_)))))));exact⟨_,rfl,by rw[c0];exact MRet.ok (by unfold v0s;rw[a8,if_neg (λe=>e c0)];exact congrArg Except.ok (y0c m (⟨false,0,(m.ys.getD j yq0).ct,false,sv0,[]⟩:YQ) b0).symm) hM⟩;refine sk (tn (sr (mv U U (asg U (kpL [(4,_)] (.cons U .nil) (nn (rt (r1 results93 U ?_))))))));replace hM:=a3.ext (q1.z4 q2 q3 q4 q5);exact⟨_,rfl,MRet.err (by unfold v0s;rw[a8,if_pos c0]) c0 hM.fr⟩;refine z0w h y3c U λw8 I q8 hz a h=>?_;obtain⟨a2,hg⟩:∃g,g=w2.heap.size:=⟨_,rfl⟩;rw[<-hg]at I h hz;have b6.gk_5:ka.gk<a2:=by have:=O.lt;omega
 have b3:g3<a2:=by have:=D.lt;omega
 have z8:=q8.size;replace hM:=hM.ext q8;replace hC:=hC.next q8;refine z0b (z0d 9 U (z0o h (z0a U z0g) (mkC func145) (x1e (m.ys.getD j yq0) _ (hM.y.ins j oo).sl) ?_));rintro _ w9 ⟨qn,rfl,a6,q9⟩ a h;have z9:=q9.size;replace hM:=hM.ext q9;replace O:=O.ext (q8.n1 q9);replace D:=D.ext (q8.n1 q9);replace I:=I.ext q9;replace hC:=hC.next q9;refine z0b (z0e 10 h U λa h=>z0n 11 h U λa h=>z0n 12 h U λa h=>z0d 14 U (z0t h U I U z7d ?_ (h1:=(by first|(simp[Value.oneCell',S];done)|exact z2z.one (m.ys.getD j yq0)))));clear h a;intro b7 a5 a4 hz a h;have d6:=a4.size;replace O:=O.fr a4;replace D:=D.fr a4;replace hC:=hC.sp a4;clear I hz;have I:Blk b7 a2 _ [_,_,_,_,_]:=a5;clear a5;refine z0b (z0d 15 U (z0s h U λa h=>?_));refine z0b (z0q ?_);clear hC Z M J;refine bk (h.sub (L':=[(0,_),(3,_),(5,_),(6,_)]) (.c4 U U U U)) (tn (sq (sr (mv U U (eq' U (nn (cd U (λc0=>?_) (λc0=>?_))))))));obtain rfl:=a6 c0;replace hM:=a3.ext (q1.z4 q2 q8 q9 a4);intro a h;refine z0h (some 9) (λwb w'=>Fr [] wb w') z2m ?_;intro b5 a7;have d7:=a7.size;replace hM:=hM.ext a7;replace O:=O.ext a7;replace D:=D.ext a7;replace I:=I.ext a7;have hC:Fr [] b5 b5:=Fr.refl _ _;have Z:=hM;have M:=O;have J:=D;have a0:=I;refine z0e 0 h U λa h=>z0l 1 h U λa h=>z0c 2 h U z3e U λa h=>z0j 3 h U (λ_ hw=>M.ext hw) U y3q U λa h=>z0c 4 h U z3l U λa h=>z0j 5 h U (λ_ hw=>J.ext hw) U na5 U λa h=>z2t 6 h wn U (by first|exact IntWalk.u8_in _ oo|rfl) U λa h=>z0v 7 h U (λ_ hw=>a0.ext hw) z6y U λa h=>z1q 8 kr kr kr hC (p:=j) h wn U y4b oo oo oo U U λa h=>z0d 9 U (z1c (i:=j) (⟨false,0,(m.ys.getD j yq0).ct,false,sv0,[]⟩:YQ) h U hM.y.out (by rw[hM.ly];exact hj) U z7d λd5 a1 a9 _hz a h=>?_);replace hM:=hM.yarn mtd hj a1 a9 (Own.nil _);have a3:=hM;clear a1;have d9:=a9.size;replace D:=D.fr a9;replace I:=I.fr a9;have O:=hM.k;clear _hz;refine z1m (z0q ?_);clear hC Z M J a0;refine bk (h.sub (L':=[(6,_)]) (.cons U .nil)) (tn (sr (mv U U (asg U (nn (rt (r1 results93 U ?_)))))));exact⟨_,rfl,by rw[c0];exact MRet.ok (by unfold v0s;rw[a8,if_neg (λe=>e c0)];exact congrArg Except.ok (y0c m (⟨false,0,(m.ys.getD j yq0).ct,false,sv0,[]⟩:YQ) b0).symm) hM⟩;refine sk (tn (sr (mv U U (asg U (kpL [(4,_)] (.cons U .nil) (nn (rt (r1 results93 U ?_))))))));replace hM:=a3.ext (q1.z4 q2 q8 q9 a4);exact⟨_,rfl,MRet.err (by unfold v0s;rw[a8,if_pos c0]) c0 hM.fr⟩
theorem z3q:z0x prog 183 0 0:=λ_ _=>kr
theorem x5s (wS:World)(ka:MA)(m:MQ)(o:MOp)(w0:World)(hM:MkM τd 183 wS ka w0 m)(hi:MInv m.p)(hy:1<=o.y/\o.y<=6)(hn:z3v o.b o.p=0):Rets prog 147 #[.pointer (some ⟨ka.gk,0,none⟩),opV o] w0 λr w'=>r=.tuple #[.int .i64 (if z8f m.p o=0 then v0t m.p o else 0),.int .i64 (if z8f m.p o=0 then (z4g o.b o.p m.rk) else 0),.int .i64 (z8f m.p o)]/\Fr [] w0 w':=by
 have c9:=hM.fr.size;have Z:=hM.k;have b4:=Z.lt;have b6:=hM.ly;have b5:=hM.lt;have b0:=(hM.y.out.blk ka.gy (by simp[z0u])).2;obtain⟨j,hj,b8⟩:∃j:Nat,j<6/\o.y=(j:Int)+1:=⟨(o.y-1).toNat,oo,oo⟩;have a7:(o.y-1).toNat=j:=by omega
 have J:m.p.y o.y=(m.ys.getD j yq0).p:=by rw[j7m,a7]
 have b9:=y1j o.b o.p m.rk;have b7:=z2p hn;refine we [(0,.pointer (some ⟨ka.gk,0,none⟩)),(1,opV o)] func147 U ntmps147 U (.c2 U U) ?_;have a6:=hM;refine sr (bx U (λg3 w1 b3 D q1 z1=>(asg U (asg U (asg U (nn (sq ?_)))))));replace hM:=a6.ext q1;intro a h;refine z0h none (λwb w'=>Fr [] wb w') z2m ?_;intro w2 q2;have z2:=q2.size;replace hM:=hM.ext q2;replace Z:=Z.ext (q1.n1 q2);replace D:=D.ext q2;have hC:Fr [] w2 w2:=Fr.refl _ _;have a2:=hM;have a1:=Z;have M:=D;refine z0e 0 h U λa h=>z0l 1 h U λa h=>z0c 2 h U z3e U λa h=>z0j 3 h U (λ_ hw=>a1.ext hw) U y3q U λa h=>z0c 4 h U z3l U λa h=>z0j 5 h U (λ_ hw=>M.ext hw) U na5 U λa h=>z2t 6 h wn U (by first|exact IntWalk.u8_in _ oo|rfl) U λa h=>z1g (p:=j) (yq0) 7 h U hM.y.out.sl U y4b U λa9 a5 a h=>z2o (cs:=z2z.enc (m.ys.getD j yq0)) 8 h wn U (λ_ hw=>a5 _ (a2.ext hw).y.out.sl) z6y U λa h=>z0c 9 h U z3g U λa h=>z1b (vs:=[_,_]) 10 h U (λ_ hw=>(M.ext hw)) z4k U U λa h=>?_;refine z0e 11 h U λa h=>z0l 12 h U λa h=>z0c 13 h U z3q U λa h=>z0j 14 h U (λ_ hw=>a1.ext hw) U na3 U λa h=>z1y 15 16 kr U ?_ ?_;refine z0o h (z0a U (z0a U z0g)) x5b (z9y _ _ _ _ (by have:=hi.rk;omega)) ?_;rintro _ w3 ⟨rfl,q3⟩ a h;have z3:=q3.size;replace Z:=Z.ext q3;replace D:=D.ext q3;replace hC:=hC.next q3;refine z0b (z0d 16 U (z0w h y3c U λw4 I q4 hz a h=>?_));obtain⟨a0,hg⟩:∃g,g=w3.heap.size:=⟨_,rfl⟩;rw[<-hg]at I h hz;have a8.gk_7:ka.gk<a0:=by have:=Z.lt;omega
 have a4:g3<a0:=by have:=D.lt;omega
 have z4:=q4.size;replace hM:=hM.ext (q3.n1 q4);replace Z:=Z.ext q4;replace D:=D.ext q4;replace hC:=hC.next q4;refine z0b (z0d 17 U (z0t h U I U z7d ?_ (h1:=(by first|(simp[Value.oneCell',S];done)|exact z2z.one (m.ys.getD j yq0)))));clear h a;intro w5 a3 q5 hz a h;have z5:=q5.size;replace Z:=Z.fr q5;replace D:=D.fr q5;replace hC:=hC.sp q5;clear I hz;have I:Blk w5 a0 _ [_,_,_,_,_]:=a3;clear a3;refine z0b (z0d 18 U (z0s h U λa h=>?_));refine z0b (z0q ?_);clear hC a2 a1 M;refine bk (h.sub (L':=[(3,_),(5,_),(7,_)]) (.c3 U U U)) (tn (sq (sr (fad U y0k (z0i U I U na4 (nt' U (nn (cd U (λc0=>?_) (λc0=>?_)))))))));refine sr (asg U (asg U (asg U (nn (rt (tr (r3 results147 U U U ?_)))))));have O:z8f m.p o=12:=by unfold z8f;rw[J,if_pos (by simpa using c0)]
 exact⟨_,rfl,by rw[O];rfl,(q1.z4 q2 q3 q4 q5)⟩;refine sk (tn (sq (sr (fad U z7p (z0i U D U x0l (eq' U (nn (cd U (λc1=>?_) (λc1=>?_)))))))));refine sq (sr (fad U z7h (z0i U I U na3 (mv U U (gt' U (nn (cd U (λc2=>?_) (λc2=>?_))))))));refine sr (asg U (asg U (asg U (nn (rt (tr (tr (r3 results147 U U U ?_))))))));have O:z8f m.p o=12:=by unfold z8f;rw[J,if_neg (by simpa using c0),if_pos c1,if_pos c2]
 exact⟨_,rfl,by rw[O];rfl,(q1.z4 q2 q3 q4 q5)⟩;refine sk (tn (sr (mv U U (z0z U (wi6 oo) (mv U U (asg U (asg U (asg U (nn (rt (tr (r3 results147 U U U ?_))))))))))));have O:z8f m.p o=0:=by unfold z8f;rw[J,if_neg (by simpa using c0),if_pos c1,if_neg c2]
 exact⟨_,rfl,by rw[O];rw[if_pos U,if_pos U,v0t,if_pos c1],(q1.z4 q2 q3 q4 q5)⟩;refine sk (tn (sq (sr (fad U z7h (z0i U I U na3 (mv U U (lt' U (nn (cd U (λc3=>?_) (λc3=>?_))))))))));refine sr (asg U (asg U (asg U (nn (rt (tr (r3 results147 U U U ?_)))))));have O:z8f m.p o=12:=by unfold z8f;rw[J,if_neg (by simpa using c0),if_neg c1,if_pos c3]
 exact⟨_,rfl,by rw[O];rfl,(q1.z4 q2 q3 q4 q5)⟩;refine sk (tn (sr (mv U U (z2r U (wi6 oo) (mv U U (asg U (asg U (asg U (nn (rt (r3 results147 U U U ?_)))))))))));have O:z8f m.p o=0:=by unfold z8f;rw[J,if_neg (by simpa using c0),if_neg c1,if_neg c3]
 exact⟨_,rfl,by rw[O];rw[if_pos U,if_pos U,v0t,if_neg c1],(q1.z4 q2 q3 q4 q5)⟩;refine z0w h y3c U λw6 I q6 hz a h=>?_;obtain⟨a0,hg⟩:∃g,g=w2.heap.size:=⟨_,rfl⟩;rw[<-hg]at I h hz;have a8.gk_7:ka.gk<a0:=by have:=Z.lt;omega
 have a4:g3<a0:=by have:=D.lt;omega
 have z6:=q6.size;replace hC:=hC.next q6;refine z0b (z0d 15 U (z0o h (z0a U (z0a U z0g)) x5b (z9y _ _ _ _ (by have:=hi.rk;omega)) ?_));rintro _ w7 ⟨rfl,q7⟩ a h;have z7:=q7.size;replace hM:=hM.ext (q6.n1 q7);replace Z:=Z.ext (q6.n1 q7);replace D:=D.ext (q6.n1 q7);replace I:=I.ext q7;replace hC:=hC.next q7;refine z0b (z0d 17 U (z0t h U I U z7d ?_ (h1:=(by first|(simp[Value.oneCell',S];done)|exact z2z.one (m.ys.getD j yq0)))));clear h a;intro w8 a3 q8 hz a h;have z8:=q8.size;replace Z:=Z.fr q8;replace D:=D.fr q8;replace hC:=hC.sp q8;clear I hz;have I:Blk w8 a0 _ [_,_,_,_,_]:=a3;clear a3;refine z0b (z0d 18 U (z0s h U λa h=>?_));refine z0b (z0q ?_);clear hC a2 a1 M;refine bk (h.sub (L':=[(3,_),(5,_),(7,_)]) (.c3 U U U)) (tn (sq (sr (fad U y0k (z0i U I U na4 (nt' U (nn (cd U (λc0=>?_) (λc0=>?_)))))))));refine sr (asg U (asg U (asg U (nn (rt (tr (r3 results147 U U U ?_)))))));have O:z8f m.p o=12:=by unfold z8f;rw[J,if_pos (by simpa using c0)]
 exact⟨_,rfl,by rw[O];rfl,(q1.z4 q2 q6 q7 q8)⟩;refine sk (tn (sq (sr (fad U z7p (z0i U D U x0l (eq' U (nn (cd U (λc1=>?_) (λc1=>?_)))))))));refine sq (sr (fad U z7h (z0i U I U na3 (mv U U (gt' U (nn (cd U (λc2=>?_) (λc2=>?_))))))));refine sr (asg U (asg U (asg U (nn (rt (tr (tr (r3 results147 U U U ?_))))))));have O:z8f m.p o=12:=by unfold z8f;rw[J,if_neg (by simpa using c0),if_pos c1,if_pos c2]
 exact⟨_,rfl,by rw[O];rfl,(q1.z4 q2 q6 q7 q8)⟩;refine sk (tn (sr (mv U U (z0z U (wi6 oo) (mv U U (asg U (asg U (asg U (nn (rt (tr (r3 results147 U U U ?_))))))))))));have O:z8f m.p o=0:=by unfold z8f;rw[J,if_neg (by simpa using c0),if_pos c1,if_neg c2]
 exact⟨_,rfl,by rw[O];rw[if_pos U,if_pos U,v0t,if_pos c1],(q1.z4 q2 q6 q7 q8)⟩;refine sk (tn (sq (sr (fad U z7h (z0i U I U na3 (mv U U (lt' U (nn (cd U (λc3=>?_) (λc3=>?_))))))))));refine sr (asg U (asg U (asg U (nn (rt (tr (r3 results147 U U U ?_)))))));have O:z8f m.p o=12:=by unfold z8f;rw[J,if_neg (by simpa using c0),if_neg c1,if_pos c3]
 exact⟨_,rfl,by rw[O];rfl,(q1.z4 q2 q6 q7 q8)⟩;refine sk (tn (sr (mv U U (z2r U (wi6 oo) (mv U U (asg U (asg U (asg U (nn (rt (r3 results147 U U U ?_)))))))))));have O:z8f m.p o=0:=by unfold z8f;rw[J,if_neg (by simpa using c0),if_neg c1,if_neg c3]
 exact⟨_,rfl,by rw[O];rw[if_pos U,if_pos U,v0t,if_neg c1],(q1.z4 q2 q6 q7 q8)⟩
theorem z3d:z0x prog 183 1 1:=λ_ _=>kr
theorem x5w (wS:World)(ka:MA)(m:MQ)(yy pl en:Int)(w0:World)(hM:MkM τd 183 wS ka w0 m)(hi:MInv m.p)(hy:1<=yy/\yy<=6):Rets prog 148 #[.pointer (some ⟨ka.gk,0,none⟩),.int .u8 yy,.int .i64 pl,.int .i64 en] w0 λr w'=>MRet τd 183 wS ka (y3j m.p yy pl en) r w':=by
 have g7:=hM.fr.size;have J:=hM.k;have g0:=J.lt;have g3:=hM.ly;have g1:=hM.lt;have f5:=(hM.y.out.blk ka.gy (by simp[z0u])).2;obtain⟨j,hj,g6⟩:∃j:Nat,j<6/\yy=(j:Int)+1:=⟨(yy-1).toNat,oo,oo⟩;have e1:(yy-1).toNat=j:=by omega
 have c9:m.p.y yy=(m.ys.getD j yq0).p:=by rw[j7m,e1]
 have f7:=v7r (z2q m.q.p m.rk) (m.ys.getD j yq0).pl en;have hN:=y2f hi.B;have f9:(z2q m.q.p m.rk).length<=320:=by unfold z2q;rw[z4e,y9b];exact hN
 refine we [(0,.pointer (some ⟨ka.gk,0,none⟩)),(1,.int .u8 yy),(2,.int .i64 pl),(3,.int .i64 en)] func148 U ntmps148 U (.c4 U U U U) ?_;have a7:=hM;refine sr (asg U (nn (sq ?_)));intro a h;refine z0h none (λwb w'=>Fr [] wb w') z2m ?_;intro w1 q1;have z1:=q1.size;replace hM:=hM.ext q1;replace J:=J.ext q1;have hC:Fr [] w1 w1:=Fr.refl _ _;have a2:=hM;have Z:=J;refine z0e 0 h U λa h=>z0l 1 h U λa h=>z0c 2 h U z3d U λa h=>z1b (vs:=[_,_]) 3 h U (λ_ hw=>(Z.ext hw)) z4s U U λa h=>z0e 4 h U λa h=>z0l 5 h U λa h=>z0c 6 h U z3q U λa h=>z0j 7 h U (λ_ hw=>Z.ext hw) U na3 U λa h=>z0d 8 U (z0o h (z0a U (z0a U z0g)) (mkC func117) (v6h m.q m.rk _ hM.b.at hi.B hi.rk) ?_);rintro _ w2 ⟨⟨g9,rfl,f8,hL⟩,hq⟩ a h;have z2:=hq.size;replace hM:=hM.ext hq;replace J:=J.ext hq;replace hC:=hC.next hq;have q2:=hq;have f6:=(hL.blk g9 (by simp[z0u])).2;refine z0b (z0e 9 h U λa h=>z0n 10 h U λa h=>z0n 11 h U λa h=>z0d 12 U (z0s h U λa h=>?_));refine z0b (z0d 13 U (z0s h U λa h=>?_));refine z0b (z0q ?_);clear hC a2 Z;refine bk (h.sub (L':=[(0,_),(1,_),(2,_),(3,_),(9,_),(10,_)]) (.c6 U U U U U U)) (tn (sq (sr (mv U U (ne' U (nn (cd U (λc0=>?_) (λc0=>?_))))))));exact absurd U c0;refine sk (tn (sr (mv U U (nlc U (fad U z3e (z0i U J U y3q (mv U U (z2r U (wi8 oo) (z1d (p:=j) (yq0) U hM.y.out.sl U y4b oo (λf3 e4=>(z1k U (e4 _ hM.y.out.sl) z6y (al y3c U (λe2 w3 f4 D q3 z3=>?_)))))))))))));refine z0k (vs:=[_,_,_,_,_]) U D z7d (λw4 D q4 z4=>?_) (h1:=(by first|(simp[Value.oneCell',S];done)|exact z2z.one (m.ys.getD j yq0)));refine kpL [(0,_),(1,_),(2,_),(3,_),(9,_),(11,_)] (.c6 U U U U U U) (nn (sq ?_));replace hM:=a7.ext (q1.z3 q2 q3 q4);replace J:=(J.ext q3).fr q4;replace hL:=(hL.ext q3).fr q4 (by first|exact z7z hL oo|simp[z0u]<;>omega);intro a h;refine z0h none (λwb w'=>Fr [] wb w') z2m ?_;intro w5 q5;have z5:=q5.size;replace hM:=hM.ext q5;replace J:=J.ext q5;replace hL:=hL.ext q5;replace D:=D.ext q5;have hC:Fr [] w5 w5:=Fr.refl _ _;have a2:=hM;have Z:=J;have d6:=hL;have O:=D;refine z0v 0 h U (λ_ hw=>O.ext hw) z6y U λa h=>z0e 1 h U λa h=>z0e 2 h U λa h=>z0c 3 h U z7h U λa h=>z0j 4 h U (λ_ hw=>O.ext hw) U na3 U λa h=>z0e 5 h U λa h=>z1y 6 11 kr U ?_ ?_;refine z0o h (z0a U (z0a U (z0a U z0g))) (mkC func199) (u4i _ (z2q m.q.p m.rk) (m.ys.getD j yq0).pl en _ hL.sl oo) ?_;rintro _ w6 ⟨⟨e3,rfl,e5,hW⟩,q6⟩ a h;have z6:=q6.size;replace hM:=hM.ext q6;replace J:=J.ext q6;replace hL:=hL.ext q6;replace D:=D.ext q6;replace hC:=hC.next q6;have f0:=(hW.blk e3 (by simp[z0u])).2;refine z0b (z1y 7 11 kr U ?_ ?_);refine z0o h (z0a U (z0a U (z0a U z0g))) (mkC func196) (x8x (m.ys.getD j yq0) pl _ (btw (z2q m.q.p m.rk) (m.ys.getD j yq0).pl en) _ (hM.y.ins j oo).sl hW.sl (λk J=>(hW.blk k J).2) oo) ?_;rintro _ w7 ⟨qn,rfl,b7,q7⟩ a h;have z7:=q7.size;replace J:=J.ext q7;replace D:=D.ext q7;replace hC:=hC.next q7;have M:OwnIf ((goE (m.ys.getD j yq0).p pl (btw (z2q m.q.p m.rk) (m.ys.getD j yq0).pl en))=0) z2f 97 _ _ (slv qn.pe) qn.pes:=λhc=>(b7 hc).2;have b5:=λhc k J=>((M hc).blk k J).2;refine z0b (z0e 8 h U λa h=>z0n 9 h U λa h=>z0n 10 h U λa h=>z0d 11 U (z0w h y3c U λw8 I q8 hz a h=>?_));obtain⟨a1,hg⟩:∃g,g=w7.heap.size:=⟨_,rfl⟩;rw[<-hg]at I h hz;have e6.gk_12:ka.gk<a1:=by have:=J.lt;omega
 have b8:e2<a1:=by have:=D.lt;omega
 have z8:=q8.size;replace hM:=hM.ext (q7.n1 q8);replace J:=J.ext q8;replace hL:=hL.ext (q7.n1 q8);replace D:=D.ext q8;replace hW:=hW.ext (q7.n1 q8);replace M:=M.ext q8;replace hC:=hC.next q8;refine z0b (z0d 12 U (z0t h U I U z7d ?_ (h1:=(by first|(simp[Value.oneCell',S];done)|exact z2z.one (m.ys.getD j yq0)))));clear h a;intro w9 b6 q9 hz a h;have z9:=q9.size;replace J:=J.fr q9;replace hL:=hL.fr q9 (by simp[z0u]<;>omega);replace D:=D.fr q9;replace hW:=hW.fr q9 (by simp[z0u]<;>omega);replace M:=M.fr q9 (by intro a4 k J a3;simp at J;subst J;have d4:=b5 a4 _ a3;have d5:=(M a4).blk _ a3;omega);replace hC:=hC.sp q9;clear I hz;have I:Blk w9 a1 _ [_,_,_,_,_]:=b6;clear b6;refine z0b (z0d 13 U (z0s h U λa h=>?_));refine z0b (z0q ?_);clear hC a2 Z d6 O;refine bk (h.sub (L':=[(0,_),(1,_),(10,_),(12,_)]) (.c4 U U U U)) (tn (sq (sr (mv U U (eq' U (nn (cd U (λc1=>?_) (λc1=>?_))))))));replace hM:=a7.ext (((q1.z6 q2 q3 q4 q5 q6 q7).n1 q8).z1 q9);intro a h;refine z0h (some 8) (λwb w'=>Fr [] wb w') z2m ?_;intro e7 d0;have h8:=d0.size;replace hM:=hM.ext d0;replace J:=J.ext d0;replace D:=D.ext d0;replace M:=M.ext d0;replace I:=I.ext d0;have hC:Fr [] e7 e7:=Fr.refl _ _;have a2:=hM;have Z:=J;have O:=D;have a6:=M;have a0:=I;refine z0e 0 h U λa h=>z0l 1 h U λa h=>z0c 2 h U z3e U λa h=>z0j 3 h U (λ_ hw=>Z.ext hw) U y3q U λa h=>z0e 4 h U λa h=>z2t 5 h wn U (by first|exact IntWalk.u8_in _ oo|rfl) U λa h=>z0v 6 h U (λ_ hw=>a0.ext hw) z6y U λa h=>z1q 7 kr kr kr hC (p:=j) h wn U y4b oo oo oo U U λa h=>z0d 8 U (z1c (i:=j) (qn:YQ) h U hM.y.out (by rw[hM.ly];exact hj) U z7d λg8 a5 d7 _hz a h=>?_);replace hM:=hM.yarn mtd hj a5 d7 ((M c1).low oo);have a7:=hM;clear a5;have h9:=d7.size;replace D:=D.fr d7;replace M:=M.fr d7 (by intro a4 k J a3;simp at J;subst J;have d4:=b5 a4 _ a3;have d5:=(M a4).blk _ a3;omega);replace I:=I.fr d7;have J:=hM.k;clear _hz;refine z1m (z0q ?_);clear hC a2 Z O a6 a0;refine bk (h.sub (L':=[(10,_)]) (.cons U .nil)) (tn (sr (mv U U (asg U (nn (rt (r1 results148 U ?_)))))));exact⟨_,rfl,by rw[c1];exact MRet.ok (by unfold y3j v2t;rw[c9,if_neg (λe=>e c1)];exact congrArg Except.ok (by rw[y0c m qn e1,(b7 c1).1])) hM⟩;refine sk (tn (sr (mv U U (asg U (kpL [(8,_)] (.cons U .nil) (nn (rt (r1 results148 U ?_))))))));replace hM:=a7.ext (((q1.z6 q2 q3 q4 q5 q6 q7).n1 q8).z1 q9);exact⟨_,rfl,MRet.err (by unfold y3j v2t;rw[c9,if_pos c1]) c1 hM.fr⟩;refine z0w h y3c U λh0 I b0 hz a h=>?_;obtain⟨a1,hg⟩:∃g,g=w6.heap.size:=⟨_,rfl⟩;rw[<-hg]at I h hz;have e6.gk_12:ka.gk<a1:=by have:=J.lt;omega
 have b8:e2<a1:=by have:=D.lt;omega
 have i0:=b0.size;replace hM:=hM.ext b0;replace J:=J.ext b0;replace hW:=hW.ext b0;replace hC:=hC.next b0;refine z0b (z0d 7 U (z0o h (z0a U (z0a U (z0a U z0g))) (mkC func196) (x8x (m.ys.getD j yq0) pl _ (btw (z2q m.q.p m.rk) (m.ys.getD j yq0).pl en) _ (hM.y.ins j oo).sl hW.sl (λk J=>(hW.blk k J).2) oo) ?_));rintro _ h2 ⟨qn,rfl,b7,a8⟩ a h;have i1:=a8.size;replace hM:=hM.ext a8;replace J:=J.ext a8;replace hL:=hL.ext (b0.n1 a8);replace D:=D.ext (b0.n1 a8);replace hW:=hW.ext a8;replace I:=I.ext a8;replace hC:=hC.next a8;have M:OwnIf ((goE (m.ys.getD j yq0).p pl (btw (z2q m.q.p m.rk) (m.ys.getD j yq0).pl en))=0) z2f 97 _ _ (slv qn.pe) qn.pes:=λhc=>(b7 hc).2;have b5:=λhc k J=>((M hc).blk k J).2;refine z0b (z0e 8 h U λa h=>z0n 9 h U λa h=>z0n 10 h U λa h=>z0d 12 U (z0t h U I U z7d ?_ (h1:=(by first|(simp[Value.oneCell',S];done)|exact z2z.one (m.ys.getD j yq0)))));clear h a;intro f1 b6 b3 hz a h;have i2:=b3.size;replace J:=J.fr b3;replace hL:=hL.fr b3 (by simp[z0u]<;>omega);replace D:=D.fr b3;replace hW:=hW.fr b3 (by simp[z0u]<;>omega);replace M:=M.fr b3 (by intro a4 k J a3;simp at J;subst J;have d4:=b5 a4 _ a3;have d5:=(M a4).blk _ a3;omega);replace hC:=hC.sp b3;clear I hz;have I:Blk f1 a1 _ [_,_,_,_,_]:=b6;clear b6;refine z0b (z0d 13 U (z0s h U λa h=>?_));refine z0b (z0q ?_);clear hC a2 Z d6 O;refine bk (h.sub (L':=[(0,_),(1,_),(10,_),(12,_)]) (.c4 U U U U)) (tn (sq (sr (mv U U (eq' U (nn (cd U (λc1=>?_) (λc1=>?_))))))));replace hM:=a7.ext (((q1.z6 q2 q3 q4 q5 q6 b0).n1 a8).z1 b3);intro a h;refine z0h (some 8) (λwb w'=>Fr [] wb w') z2m ?_;intro e8 d1;have i3:=d1.size;replace hM:=hM.ext d1;replace J:=J.ext d1;replace D:=D.ext d1;replace I:=I.ext d1;replace M:=M.ext d1;have hC:Fr [] e8 e8:=Fr.refl _ _;have a2:=hM;have Z:=J;have O:=D;have a0:=I;have a6:=M;refine z0e 0 h U λa h=>z0l 1 h U λa h=>z0c 2 h U z3e U λa h=>z0j 3 h U (λ_ hw=>Z.ext hw) U y3q U λa h=>z0e 4 h U λa h=>z2t 5 h wn U (by first|exact IntWalk.u8_in _ oo|rfl) U λa h=>z0v 6 h U (λ_ hw=>a0.ext hw) z6y U λa h=>z1q 7 kr kr kr hC (p:=j) h wn U y4b oo oo oo U U λa h=>z0d 8 U (z1c (i:=j) (qn:YQ) h U hM.y.out (by rw[hM.ly];exact hj) U z7d λh3 a5 d9 _hz a h=>?_);replace hM:=hM.yarn mtd hj a5 d9 ((M c1).low oo);have a7:=hM;clear a5;have i4:=d9.size;replace D:=D.fr d9;replace I:=I.fr d9;replace M:=M.fr d9 (by intro a4 k J a3;simp at J;subst J;have d4:=b5 a4 _ a3;have d5:=(M a4).blk _ a3;omega);have J:=hM.k;clear _hz;refine z1m (z0q ?_);clear hC a2 Z O a0 a6;refine bk (h.sub (L':=[(10,_)]) (.cons U .nil)) (tn (sr (mv U U (asg U (nn (rt (r1 results148 U ?_)))))));exact⟨_,rfl,by rw[c1];exact MRet.ok (by unfold y3j v2t;rw[c9,if_neg (λe=>e c1)];exact congrArg Except.ok (by rw[y0c m qn e1,(b7 c1).1])) hM⟩;refine sk (tn (sr (mv U U (asg U (kpL [(8,_)] (.cons U .nil) (nn (rt (r1 results148 U ?_))))))));replace hM:=a7.ext (((q1.z6 q2 q3 q4 q5 q6 b0).n1 a8).z1 b3);exact⟨_,rfl,MRet.err (by unfold y3j v2t;rw[c9,if_pos c1]) c1 hM.fr⟩;refine z0w h y3c U λh4 I b9 hz a h=>?_;obtain⟨a1,hg⟩:∃g,g=w5.heap.size:=⟨_,rfl⟩;rw[<-hg]at I h hz;have e6.gk_12:ka.gk<a1:=by have:=J.lt;omega
 have b8:e2<a1:=by have:=D.lt;omega
 have i5:=b9.size;replace hL:=hL.ext b9;replace hC:=hC.next b9;refine z0b (z0d 6 U (z0o h (z0a U (z0a U (z0a U z0g))) (mkC func199) (u4i _ (z2q m.q.p m.rk) (m.ys.getD j yq0).pl en _ hL.sl oo) ?_));rintro _ h5 ⟨⟨e3,rfl,e5,hW⟩,q18⟩ a h;have i7:=q18.size;replace hM:=hM.ext (b9.n1 q18);replace J:=J.ext (b9.n1 q18);replace hC:=hC.next q18;have f0:=(hW.blk e3 (by simp[z0u])).2;refine z0b (z0d 7 U (z0o h (z0a U (z0a U (z0a U z0g))) (mkC func196) (x8x (m.ys.getD j yq0) pl _ (btw (z2q m.q.p m.rk) (m.ys.getD j yq0).pl en) _ (hM.y.ins j oo).sl hW.sl (λk J=>(hW.blk k J).2) oo) ?_));rintro _ h6 ⟨qn,rfl,b7,a9⟩ a h;have i8:=a9.size;replace hM:=hM.ext a9;replace J:=J.ext a9;replace hL:=hL.ext (q18.n1 a9);replace D:=D.ext (b9.n2 q18 a9);replace I:=I.ext (q18.n1 a9);replace hW:=hW.ext a9;replace hC:=hC.next a9;have M:OwnIf ((goE (m.ys.getD j yq0).p pl (btw (z2q m.q.p m.rk) (m.ys.getD j yq0).pl en))=0) z2f 97 _ _ (slv qn.pe) qn.pes:=λhc=>(b7 hc).2;have b5:=λhc k J=>((M hc).blk k J).2;refine z0b (z0e 8 h U λa h=>z0n 9 h U λa h=>z0n 10 h U λa h=>z0d 12 U (z0t h U I U z7d ?_ (h1:=(by first|(simp[Value.oneCell',S];done)|exact z2z.one (m.ys.getD j yq0)))));clear h a;intro f2 b6 b4 hz a h;have i9:=b4.size;replace J:=J.fr b4;replace hL:=hL.fr b4 (by simp[z0u]<;>omega);replace D:=D.fr b4;replace hW:=hW.fr b4 (by simp[z0u]<;>omega);replace M:=M.fr b4 (by intro a4 k J a3;simp at J;subst J;have d4:=b5 a4 _ a3;have d5:=(M a4).blk _ a3;omega);replace hC:=hC.sp b4;clear I hz;have I:Blk f2 a1 _ [_,_,_,_,_]:=b6;clear b6;refine z0b (z0d 13 U (z0s h U λa h=>?_));refine z0b (z0q ?_);clear hC a2 Z d6 O;refine bk (h.sub (L':=[(0,_),(1,_),(10,_),(12,_)]) (.c4 U U U U)) (tn (sq (sr (mv U U (eq' U (nn (cd U (λc1=>?_) (λc1=>?_))))))));replace hM:=a7.ext (((q1.z6 q2 q3 q4 q5 b9 q18).n1 a9).z1 b4);intro a h;refine z0h (some 8) (λwb w'=>Fr [] wb w') z2m ?_;intro e9 d3;have j0:=d3.size;replace hM:=hM.ext d3;replace J:=J.ext d3;replace D:=D.ext d3;replace I:=I.ext d3;replace M:=M.ext d3;have hC:Fr [] e9 e9:=Fr.refl _ _;have a2:=hM;have Z:=J;have O:=D;have a0:=I;have a6:=M;refine z0e 0 h U λa h=>z0l 1 h U λa h=>z0c 2 h U z3e U λa h=>z0j 3 h U (λ_ hw=>Z.ext hw) U y3q U λa h=>z0e 4 h U λa h=>z2t 5 h wn U (by first|exact IntWalk.u8_in _ oo|rfl) U λa h=>z0v 6 h U (λ_ hw=>a0.ext hw) z6y U λa h=>z1q 7 kr kr kr hC (p:=j) h wn U y4b oo oo oo U U λa h=>z0d 8 U (z1c (i:=j) (qn:YQ) h U hM.y.out (by rw[hM.ly];exact hj) U z7d λh7 a5 e0 _hz a h=>?_);replace hM:=hM.yarn mtd hj a5 e0 ((M c1).low oo);have a7:=hM;clear a5;have j1:=e0.size;replace D:=D.fr e0;replace I:=I.fr e0;replace M:=M.fr e0 (by intro a4 k J a3;simp at J;subst J;have d4:=b5 a4 _ a3;have d5:=(M a4).blk _ a3;omega);have J:=hM.k;clear _hz;refine z1m (z0q ?_);clear hC a2 Z O a0 a6;refine bk (h.sub (L':=[(10,_)]) (.cons U .nil)) (tn (sr (mv U U (asg U (nn (rt (r1 results148 U ?_)))))));exact⟨_,rfl,by rw[c1];exact MRet.ok (by unfold y3j v2t;rw[c9,if_neg (λe=>e c1)];exact congrArg Except.ok (by rw[y0c m qn e1,(b7 c1).1])) hM⟩;refine sk (tn (sr (mv U U (asg U (kpL [(8,_)] (.cons U .nil) (nn (rt (r1 results148 U ?_))))))));replace hM:=a7.ext (((q1.z6 q2 q3 q4 q5 b9 q18).n1 a9).z1 b4);exact⟨_,rfl,MRet.err (by unfold y3j v2t;rw[c9,if_pos c1]) c1 hM.fr⟩
theorem j2c (wS:World)(J:MA)(m:MQ)(o:MOp)(w0:World)(hM:MkM τd 183 wS J w0 m)(hi:MInv m.p)(hy:1<=o.y/\o.y<=6)(hn:z3v o.b o.p=0):Rets prog 97 #[.pointer (some ⟨J.gk,0,none⟩),opV o] w0 λr w'=>MRet τd 183 wS J (y5m m.p o) r w':=by
 refine we [(0,.pointer (some ⟨J.gk,0,none⟩)),(1,opV o)] func97 U ntmps97 U (.c2 U U) ?_;have I:=hM;refine sr (bx U (λg3 w1 a0 D Z z1=>(asg U (nn (sr (mv U U (z0m U D y3g ?_)))))));replace hM:=I.ext Z;refine cl (ev2 U) (mkC func147) (x5s wS J m o _ hM hi hy hn) U ?_;rintro _ w2 ⟨rfl,q2⟩;refine mv U U (xt U (xt U (xt U (asg U (asg U (asg U (kpL [(0,_),(3,_),(5,_),(7,_)] (.c4 U U U U) (nn (sq (sr (mv U U (ne' U (nn (cd U (λM=>?_) (λM=>?_)))))))))))))));refine sr (mv U U (asg U (kpL [(4,_)] (.cons U .nil) (nn (rt (tr (r1 results97 U ?_)))))));replace hM:=I.ext (Z.n1 q2);exact⟨_,rfl,MRet.err (by unfold y5m;rw[if_pos M]) M hM.fr⟩;refine sk (tn (sr (mv U U (fad U z3l ?_))));replace D:=D.ext q2;refine z0i U D U na5 (mv U U (mv U U ?_));replace hM:=I.ext (Z.n1 q2);refine cl (z0a U (z0a U (z0a U (z0a U z0g)))) (mkC func148) (x5w wS J m o.y (if z8f m.p o=0 then v0t m.p o else 0) (if z8f m.p o=0 then v0t m.p o else 0) _ hM hi hy) U ?_;rintro a1 w3 hR;refine asg U (kpL [(4,_)] (.cons U .nil) (nn (rt (r1 results97 U ?_))));have O:z8f m.p o=0:=Classical.not_not.1 M;rw[if_pos O]at hR;exact⟨_,rfl,by rw[show y5m m.p o=_ from if_neg M];exact hR⟩
theorem x3x:CallOf prog 151:=mkC func151
theorem y2h:z0x prog 183 5 6:=λ_ _=>kr
theorem j1o (wS:World)(ka:MA)(m:MQ)(o:MOp)(w0:World)(hM:MkM τd 183 wS ka w0 m)(hi:MInv m.p)(hn:z3v o.b o.p=0):Rets prog 99 #[.pointer (some ⟨ka.gk,0,none⟩),opV o] w0 λr w'=>MRet τd 183 wS ka (y3h m.p o) r w':=by
 have f7:=hM.fr.size;have D:=hM.k;have f3:=D.lt;have f5:=hM.ly;have f4:=hM.lt;have e7:=(hM.y.out.blk ka.gy (by simp[z0u])).2;have f6:=z2p hn;obtain⟨n,b7⟩:∃n:Nat,o.p=(n:Int):=⟨o.p.toNat,oo⟩;obtain⟨⟨hf,hb⟩,h4,e0⟩:=z3t hi.B;have hfl:m.q.p.flat.length+m.fl.length<=z5r (z1s m.ts):=hi.cnt;have f1:z5r (z1s m.ts)<=2048:=hi.all;have hv:BdOk m.q.p:=hi.B;have f0:=z9r hv o.b o.p;refine we [(0,.pointer (some ⟨ka.gk,0,none⟩)),(1,opV o)] func99 U ntmps99 U (.c2 U U) ?_;have a4:=hM;refine sr (bx U (λg3 w1 f2 J q1 z1=>(asg U (nn (sq ?_)))));replace hM:=a4.ext q1;intro a h;refine z0h none (λwb w'=>Fr [] wb w') z2m ?_;intro w2 q2;have z2:=q2.size;replace hM:=hM.ext q2;replace D:=D.ext (q1.n1 q2);replace J:=J.ext q2;have hC:Fr [] w2 w2:=Fr.refl _ _;have a8:=hM;have a0:=D;have O:=J;refine z0e 0 h U λa h=>z0l 1 h U λa h=>z0c 2 h U z3d U λa h=>z1b (vs:=[_,_]) 3 h U (λ_ hw=>(a0.ext hw)) z4s U U λa h=>z0c 4 h U z3g U λa h=>z1b (vs:=[_,_]) 5 h U (λ_ hw=>(O.ext hw)) z4k U U λa h=>z0d 6 U (z0o h (z0a U (z0a U z0g)) u5f (x2r m.q o.b o.p _ hM.b.at oo hf hb h4 e0) ?_);rintro f8 w3 ⟨I,hq⟩ a h;have z3:=hq.size;replace hM:=hM.ext hq;replace D:=D.ext hq;replace J:=J.ext hq;replace hC:=hC.next hq;have q3:=hq;rw[y1c hn]at I;obtain⟨e8,e9,rfl,e6⟩:=I.sl.form;have b6:=λk hb=>(I.blk k hb).2;refine z0b (z0d 7 U (z0s h U λa h=>?_));refine z0b (z0q ?_);clear hC a8 a0 O;refine bk (h.sub (L':=[(0,_),(3,_),(5,_)]) (.c3 U U U)) (tn (sq (sr (mv U U (lnS U underlying27 (eq' U (nn (cd U (λc0=>?_) (λc0=>?_)))))))));exact sr (asg U (nn (rt (tr (r1 results99 U ⟨_,rfl,MRet.err (if_pos (List.length_eq_zero_iff.1 (show (m.q.p.at o.b o.p).length=0 by omega))) dd hM.fr⟩)))));refine sk (tn (sq ?_));intro a h;refine z0h none (λwb w'=>Fr [] wb w') z2m ?_;intro w4 q4;have z4:=q4.size;replace hM:=hM.ext q4;replace D:=D.ext q4;replace J:=J.ext q4;replace I:=I.ext q4;have hC:Fr [] w4 w4:=Fr.refl _ _;have a8:=hM;have a0:=D;have O:=J;have b4:=I;refine z0e 0 h U λa h=>z0l 1 h U λa h=>z0c 2 h U z3d U λa h=>z1b (vs:=[_,_]) 3 h U (λ_ hw=>(a0.ext hw)) z4s U U λa h=>z0c 4 h U z3g U λa h=>z1b (vs:=[_,_]) 5 h U (λ_ hw=>(O.ext hw)) z4k U U λa h=>z1y 6 10 kr U ?_ ?_;refine z0o h (z0a U (z0a U (z0a U z0g))) x3x (by have x:=y4l m.q o.b n (.slice none 0 0) [] _ hM.b.at (Sl.nil _) hv (by rw[<-b7];exact hn) sp0 sp0 (λi=>by have:=List.nodup_iff_count.1 hv.nd i;simp only[List.count_nil];omega);rw[<-b7]at x;exact x) ?_;rintro _ w5 ⟨⟨q',rfl,hQ,d4⟩,q5⟩ a h;have z5:=q5.size;replace D:=D.ext q5;replace J:=J.ext q5;replace hC:=hC.next q5;have d0:=x3d hQ a4.f oo;refine z0b (z0e 7 h U λa h=>z0n 8 h U λa h=>z0n 9 h U λa h=>z0d 10 U (z0w h x1h U λw6 M q6 hz a h=>?_));obtain⟨a3,hg⟩:∃g,g=w5.heap.size:=⟨_,rfl⟩;rw[<-hg]at M h hz;have e1.gk_6:ka.gk<a3:=by have:=D.lt;omega
 have d3:g3<a3:=by have:=J.lt;omega
 have z6:=q6.size;replace hM:=hM.ext (q5.n1 q6);replace D:=D.ext q6;replace J:=J.ext q6;replace I:=I.ext (q5.n1 q6);first|replace hQ:=BdO.ext hQ q6|replace hQ:=BdO.tf hQ q6 (OffT.one M dd) (OffT.one M dd)
 replace hC:=hC.next q6;refine z0b (z0d 11 U (z0t h U M U y4m λw7 b3 q7 hz a h=>?_));have z7:=q7.size;replace D:=D.fr q7;replace J:=J.fr q7;replace I:=I.fr q7 (by intro k D Z;simp at D;subst D;have:=b6 _ Z;have b8:=(I.blk _ Z).1;omega);first|replace hQ:=BdO.ext hQ q7|replace hQ:=BdO.tf hQ q7 (OffT.one M dd) (OffT.one M dd)
 replace hC:=hC.sp q7;clear M hz;have M:Blk w7 a3 _ [_,_]:=b3;clear b3;refine z0b (z0d 12 U (z0s h U λa h=>?_));refine z0b (z0q ?_);clear hC a8 a0 O b4;refine bk (h.sub (L':=[(0,_),(5,_),(6,_),(7,_)]) (.c4 U U U U)) (tn (sq (sr (mv U U (ne' U (nn (cd U (λc1=>?_) (λc1=>?_))))))));exact absurd U c1;refine sk (tn (sr (mv U U (z0m U M z4s (nlc U (fad U z3d ?_))))));replace hM:=a4.ext (q1.z6 q2 q3 q4 q5 q6 q7);refine z3j (cs':=u4p ka { m with q:=q' }) U hM.k (by intro u hu;simp at hu;rcases hu with rfl|rfl<;>rfl) y4m U (λw8 a1 q8 z8=>?_);replace hM:=hM.beds mtd (hQ.low oo) a1 q8 d0;have D:=hM.k;have a4:=hM;have c9:=hM;have hF:Lw.Own z1f 73 wS.heap.size _ (slv m.fa) m.fl:=hM.f;clear a1;refine kpL [(0,_),(5,_)] (.c2 U U) (nn (sr (mv U U (mv U U (nlc U (fad U y2h (z0i U D U z8h (mv U U ?_))))))));replace I:=I.fr q8 (by intro k D Z;simp at D;subst D;have:=b6 _ Z;have b8:=(I.blk _ Z).1;omega);have a5:=hF;refine z2b U hF I.sl z4u (by unfold maxLen;omega) oo (λe4 w9 hF q9 a6=>?_);have d6:=q9;obtain⟨a9,b0,rfl,d7⟩:=hF.sl.form;have b5:∀k∈z0u (.slice a9 (m.fl++(m.q.p.at o.b o.p)).length b0),k∈z0u (slv m.fa)\/_<=k:=λk D=>by
  rcases a6 with e|e|e
  exact .inl (congrArg z0u e▸D);exact .inl (e▸D);rw[e,List.mem_singleton]at D;exact .inr (Nat.le_of_eq D.symm)
 have z9:=q9.size;replace D:=D.fr q9 (λd1=>a5.neB D dd d1);refine nlc U (fad U y2h (z3c U D U u6s (λf9 a1 e2 g9=>?_)));have b9:=c9.fall mtd dd (u:=(a9,(m.fl++(m.q.p.at o.b o.p)).length,b0)) hF d6 b5 a1 e2;refine kpL [] .nil (nn (sr (asg U (nn (rt (r1 results99 U ?_))))));exact⟨_,rfl,MRet.ok (by rw[show y3h m.p o=_ from if_neg (λe=>c0 (by rw[show (m.q.p.at o.b o.p)=[] from e];rfl))];exact congrArg Except.ok (by unfold MQ.p;simp only[d4])) b9⟩;refine z0w h x1h U λg0 M a7 hz a h=>?_;obtain⟨a3,hg⟩:∃g,g=w4.heap.size:=⟨_,rfl⟩;rw[<-hg]at M h hz;have e1.gk_6:ka.gk<a3:=by have:=D.lt;omega
 have d3:g3<a3:=by have:=J.lt;omega
 have h0:=a7.size;replace hM:=hM.ext a7;replace hC:=hC.next a7;refine z0b (z0d 6 U (z0o h (z0a U (z0a U (z0a U z0g))) x3x (by have x:=y4l m.q o.b n (.slice none 0 0) [] _ hM.b.at (Sl.nil _) hv (by rw[<-b7];exact hn) sp0 sp0 (λi=>by have:=List.nodup_iff_count.1 hv.nd i;simp only[List.count_nil];omega);rw[<-b7]at x;exact x) ?_));rintro _ g1 ⟨⟨q',rfl,hQ,d4⟩,q12⟩ a h;have h1:=q12.size;replace hM:=hM.ext q12;replace D:=D.ext (a7.n1 q12);replace J:=J.ext (a7.n1 q12);replace I:=I.ext (a7.n1 q12);replace M:=M.ext q12;replace hC:=hC.next q12;have d0:=x3d hQ a4.f oo;refine z0b (z0e 7 h U λa h=>z0n 8 h U λa h=>z0n 9 h U λa h=>z0d 11 U (z0t h U M U y4m λe5 b3 a2 hz a h=>?_));have h2:=a2.size;replace D:=D.fr a2;replace J:=J.fr a2;replace I:=I.fr a2 (by intro k D Z;simp at D;subst D;have:=b6 _ Z;have b8:=(I.blk _ Z).1;omega);first|replace hQ:=BdO.ext hQ a2|replace hQ:=BdO.tf hQ a2 (OffT.one M dd) (OffT.one M dd)
 replace hC:=hC.sp a2;clear M hz;have M:Blk e5 a3 _ [_,_]:=b3;clear b3;refine z0b (z0d 12 U (z0s h U λa h=>?_));refine z0b (z0q ?_);clear hC a8 a0 O b4;refine bk (h.sub (L':=[(0,_),(5,_),(6,_),(7,_)]) (.c4 U U U U)) (tn (sq (sr (mv U U (ne' U (nn (cd U (λc1=>?_) (λc1=>?_))))))));exact absurd U c1;refine sk (tn (sr (mv U U (z0m U M z4s (nlc U (fad U z3d ?_))))));replace hM:=a4.ext (q1.z6 q2 q3 q4 a7 q12 a2);refine z3j (cs':=u4p ka { m with q:=q' }) U hM.k (by intro u hu;simp at hu;rcases hu with rfl|rfl<;>rfl) y4m U (λg6 a1 d9 h3=>?_);replace hM:=hM.beds mtd (hQ.low oo) a1 d9 d0;have D:=hM.k;have a4:=hM;have c9:=hM;have hF:Lw.Own z1f 73 wS.heap.size _ (slv m.fa) m.fl:=hM.f;clear a1;refine kpL [(0,_),(5,_)] (.c2 U U) (nn (sr (mv U U (mv U U (nlc U (fad U y2h (z0i U D U z8h (mv U U ?_))))))));replace I:=I.fr d9 (by intro k D Z;simp at D;subst D;have:=b6 _ Z;have b8:=(I.blk _ Z).1;omega);have a5:=hF;refine z2b U hF I.sl z4u (by unfold maxLen;omega) oo (λe4 g7 hF d5 a6=>?_);have d6:=d5;obtain⟨a9,b0,rfl,d7⟩:=hF.sl.form;have b5:∀k∈z0u (.slice a9 (m.fl++(m.q.p.at o.b o.p)).length b0),k∈z0u (slv m.fa)\/_<=k:=λk D=>by
  rcases a6 with e|e|e
  exact .inl (congrArg z0u e▸D);exact .inl (e▸D);rw[e,List.mem_singleton]at D;exact .inr (Nat.le_of_eq D.symm)
 have h5:=d5.size;replace D:=D.fr d5 (λd1=>a5.neB D dd d1);refine nlc U (fad U y2h (z3c U D U u6s (λg8 a1 e3 h6=>?_)));have b9:=c9.fall mtd dd (u:=(a9,(m.fl++(m.q.p.at o.b o.p)).length,b0)) hF d6 b5 a1 e3;refine kpL [] .nil (nn (sr (asg U (nn (rt (r1 results99 U ?_))))));exact⟨_,rfl,MRet.ok (by rw[show y3h m.p o=_ from if_neg (λe=>c0 (by rw[show (m.q.p.at o.b o.p)=[] from e];rfl))];exact congrArg Except.ok (by unfold MQ.p;simp only[d4])) b9⟩
theorem y9s (b p r:Int)(w0:World)(hn:z3v b p=0)(hr:-4<=r/\r<=4):Rets prog 122 #[.agg #[.int .u8 b,.int .i64 p],.int .i64 r] w0 λv w'=>(∃b' p':Int,v=.tuple #[.agg #[.int .u8 b',.int .i64 p'],.int .i64 (if z3v (1-b) (z6o b p r)≠0 then 11 else 0)]/\(z3v (1-b) (z6o b p r)=0->b'=1-b/\p'=z6o b p r))/\Fr [] w0 w':=by
 have a3:=z2p hn;refine we [(0,.agg #[.int .u8 b,.int .i64 p]),(1,.int .i64 r)] func122 U ntmps122 U (.c2 U U) (sr (bx U (λg2 w1 a4 J q1 z1=>(al v7o U (λg4 w2 a5 D q2 z2=>(asg U (nn (sq (sr ?_)))))))));replace J:=J.ext q2;refine z0m U J z4k (cl (ev1 U) v9b (z4p _ _ _) U ?_);rintro _ w3 ⟨rfl,Z⟩;have z3:=Z.size;refine ne' U (nn (cd U (λc0=>?_) (λc0=>?_)));refine sr (z1p (cs:=[_,_]) z0g y4d z0p U ?_);replace D:=D.ext Z;exact z0k (vs:=[_,_]) U D y6f (λw4 D q4 z4=>(asg U (nn (rt (tr (rCT results122 U D z4k U (absurd hn c0)))))));refine sk (tn (sq (sr (mv U U (cl (ev1 U) (mkC func168) (x2b _ _) U ?_)))));rintro _ w5 ⟨rfl,q5⟩;have z5:=q5.size;refine nt' U (nn (cd U (λc1=>?_) (λc1=>?_)));refine sr (z1p (cs:=[_,_]) z0g y4d z0p U ?_);replace D:=D.ext (Z.n1 q5);exact z0k (vs:=[_,_]) U D y6f (λw6 D q6 z6=>(asg U (nn (rt (tr (rCT results122 U D z4k U (absurd hr c1)))))));refine sk (tn (sr (fad U z6i ?_)));replace J:=J.ext (Z.n1 q5);refine z0i U J U na3 (mv U U (z2r U (wi6 oo) (z1p (cs:=[_,_]) (ev2 U) y4d (z0f U (z0f U z0p)) U ?_)));refine al v7o U (λg6 w7 a6 I q7 z7=>(z0k (vs:=[_,_]) U I y6f (λw8 I q8 z8=>(kpL [(1,_),(2,_),(4,_),(6,_)] (.c4 U U U U) (nn (jn (ι:=Unit) [(4,_),(6,_)] (λ_j=>[]) (λ_j w'=>Fr [g6] w8 w'/\Blk w' g6 45 [.int .u8 (1-b),.int .i64 (z6o b p r)]) (.c2 U U) ?_ ?_))))));refine sr (fad U z6u ?_);replace J:=(J.ext q7).fr q8;refine z0i U J U x9j (eq' U (nn (cd U (λc2=>?_) (λc2=>?_))));refine rg (fad U z6i (z0i U J U na3 (mv U U (z0z U (wi6 oo) (z1p (cs:=[_,_]) (ev2 U) y4d (z0f U (z0f U z0p)) U ?_)))));exact z0k (vs:=[_,_]) U I y6f (λw9 I q9 z9=>(kpL [(4,_),(6,_)] (.c2 U U) (nl (jE (()) (.c2 U U) ⟨((Fr.refl [g6] _).z1 q9),(by rw[show z6o b p r=p+r from if_pos c2,show 1-b=0 by omega];exact I)⟩))));exact sk (jE (()) (.c2 U U) ⟨(Fr.refl _ _),(by rw[show z6o b p r=p-r from if_neg c2,show 1-b=1 by omega];exact I)⟩);rintro _j a7 ⟨O,I⟩;have b3:=O.size;have a0:=I.lt;refine kpC [(4,_),(6,_)] (.c2 U U) (sq (sr (z0m U I z4k (cl (ev1 U) v9b (z4p _ _ _) U ?_))));rintro _ a8 ⟨rfl,M⟩;have b4:=M.size;refine ne' U (nn (cd U (λc3=>?_) (λc3=>?_)));refine sr (z1p (cs:=[_,_]) z0g y4d z0p U ?_);replace D:=(((D.ext (Z.n2 q5 q7)).fr q8).fr O).ext M;exact z0k (vs:=[_,_]) U D y6f (λa9 D a1 b5=>(asg U (nn (rt (tr (rCT results122 U D z4k U ⟨_,rfl,⟨0,0,by rw[if_pos c3],λe=>absurd e c3⟩,(((q1.z6 q2 Z q5 q7 q8 O).n1 M).z1 a1)⟩))))));refine sk (tn (sr ?_));replace I:=I.ext M;refine z0m U I z4k ?_;replace D:=(((D.ext (Z.n2 q5 q7)).fr q8).fr O).ext M;exact z0k (vs:=[_,_]) U D y6f (λb0 D a2 b6=>(asg U (nn (rt (rCT results122 U D z4k U ⟨_,rfl,⟨_,_,by rw[if_neg c3],λ_=>⟨rfl,rfl⟩⟩,(((q1.z6 q2 Z q5 q7 q8 O).n1 M).z1 a2)⟩)))))
def BdOIf (c:Prop)(Sτ I base:Nat)(w:World)(q:BdQ):Prop:=c->BdO Sτ I base w q
theorem BdOIf.ext {c:Prop}{D I base:Nat}{w w':World}{q:BdQ}(h:BdOIf c D I base w q)(hf:Fr [] w w'):BdOIf c D I base w' q:=λJ=>(h J).ext hf
theorem BdOIf.tf {c:Prop}{D I base:Nat}{w w':World}{q:BdQ}{S:List Nat}(h:BdOIf c D I base w q)(hf:Fr S w w')(M:OffT w D S)(J:OffT w I S):BdOIf c D I base w' q:=λO=>BdO.tf (h O) hf M J
theorem x1z {p:MSt}{o:MOp}(h:o.b=0\/o.b=1):y1x p.B o.b o.p (z6o o.b o.p p.rk)=z9j p o:=by
 unfold y1x z9j;rcases h with e|e<;>rw[e]<;>rfl
theorem j0s (wS:World)(ka:MA)(m:MQ)(o:MOp)(w0:World)(hM:MkM τd 183 wS ka w0 m)(hi:MInv m.p)(hn:z3v o.b o.p=0):Rets prog 98 #[.pointer (some ⟨ka.gk,0,none⟩),opV o] w0 λr w'=>MRet τd 183 wS ka (z9l m.p o) r w':=by
 have i9:=hM.fr.size;have O:=hM.k;have i3:=O.lt;have i5:=hM.ly;have i4:=hM.lt;have h6:=(hM.y.out.blk ka.gy (by simp[z0u])).2;have e7:=z2p hn;obtain⟨n,d5⟩:∃n:Nat,o.p=(n:Int):=⟨o.p.toNat,oo⟩;obtain⟨⟨hf,hb⟩,h4,f3⟩:=z3t hi.B;have hv:BdOk m.q.p:=hi.B;have i0:=z9r hv o.b o.p;have e8:-4<=m.rk/\m.rk<=4:=hi.rk;have i7:=y1j o.b o.p m.rk;have i8:=y1j (1-o.b) (z6o o.b o.p m.rk) m.rk;refine we [(0,.pointer (some ⟨ka.gk,0,none⟩)),(1,opV o)] func98 U ntmps98 U (.c2 U U) ?_;have a2:=hM;refine sr (bx U (λg3 w1 i1 D q1 z1=>(asg U (nn (sq (sq ?_))))));replace hM:=a2.ext q1;intro a h;refine z0h none (λwb w'=>Fr [] wb w') z2m ?_;intro w2 q2;have z2:=q2.size;replace hM:=hM.ext q2;replace O:=O.ext (q1.n1 q2);replace D:=D.ext q2;have hC:Fr [] w2 w2:=Fr.refl _ _;have a3:=hM;have Z:=O;have M:=D;refine z0e 0 h U λa h=>z0l 1 h U λa h=>z0c 2 h U z3d U λa h=>z1b (vs:=[_,_]) 3 h U (λ_ hw=>(Z.ext hw)) z4s U U λa h=>z0c 4 h U z3g U λa h=>z1b (vs:=[_,_]) 5 h U (λ_ hw=>(M.ext hw)) z4k U U λa h=>z0d 6 U (z0o h (z0a U (z0a U z0g)) u5f (x2r m.q o.b o.p _ hM.b.at oo hf hb h4 f3) ?_);rintro j0 w3 ⟨e1,hq⟩ a h;have z3:=hq.size;replace hM:=hM.ext hq;replace O:=O.ext hq;replace D:=D.ext hq;replace hC:=hC.next hq;have q3:=hq;rw[y1c hn]at e1;obtain⟨h8,h9,rfl,h5⟩:=e1.sl.form;refine z0b (z6l 7 h wn U underlying27 U λa h=>u2f 8 hC h wn U U U U λa h=>z0q ?_);clear hC a3 Z M;refine bk (h.sub (L':=[(0,_),(3,_),(19,_)]) (.c3 U U U)) (tn (cd U (λc0=>?_) (λc0=>?_)));exact sr (asg U (nn (rt (tr (r1 results98 U ⟨_,rfl,MRet.err (if_pos (List.length_eq_zero_iff.1 (show (m.q.p.at o.b o.p).length=0 by omega))) dd hM.fr⟩)))));have d0:(m.q.p.at o.b o.p)≠[]:=λe=>c0 (by rw[e];rfl);refine sk (tn (jn (ι:=Nat×Int×Int) [(0,_),(3,_)] (λz_=>[(5,.pointer (some ⟨z_.1,0,none⟩)),(6,.int .i64 (if z3v (1-o.b) (z6o o.b o.p m.rk)≠0 then 11 else 0))]) (λz_ w'=>Fr [] w3 w'/\(w3.heap.size<=z_.1/\Blk w' z_.1 45 [.int .u8 z_.2.1,.int .i64 z_.2.2])/\(z3v (1-o.b) (z6o o.b o.p m.rk)=0->z_.2.1=1-o.b/\z_.2.2=z6o o.b o.p m.rk)) (.c2 U U) ?_ ?_));intro a h;refine z0h none (λwb w'=>Fr [] wb w') z2m ?_;intro w4 q4;have z4:=q4.size;replace hM:=hM.ext q4;replace O:=O.ext q4;replace D:=D.ext q4;have hC:Fr [] w4 w4:=Fr.refl _ _;have a3:=hM;have Z:=O;have M:=D;refine z0c 0 h U z3g U λa h=>z1b (vs:=[_,_]) 1 h U (λ_ hw=>(M.ext hw)) z4k U U λa h=>z0e 2 h U λa h=>z0l 3 h U λa h=>z0c 4 h U z3q U λa h=>z0j 5 h U (λ_ hw=>Z.ext hw) U na3 U λa h=>z1y 6 10 kr U ?_ ?_;refine z0o h (z0a U (z0a U z0g)) (mkC func122) (y9s o.b o.p m.rk _ hn e8) ?_;rintro _ w5 ⟨⟨bn,pn,rfl,a0⟩,q5⟩ a h;have z5:=q5.size;replace O:=O.ext q5;replace D:=D.ext q5;replace hC:=hC.next q5;refine z0b (z0e 7 h U λa h=>z0n 8 h U λa h=>z0n 9 h U λa h=>z0d 10 U (z0w h v7o U λw6 I q6 hz a h=>?_));obtain⟨b4,hg⟩:∃g,g=w5.heap.size:=⟨_,rfl⟩;rw[<-hg]at I h hz;have e2.gk_5:ka.gk<b4:=by have:=O.lt;omega
 have e3:g3<b4:=by have:=D.lt;omega
 have z6:=q6.size;replace O:=O.ext q6;replace D:=D.ext q6;replace hC:=hC.next q6;refine z0b (z0d 11 U (z0t h U I U y6f ?_ (h1:=(by first|(simp[Value.oneCell',S];done)|exact z2z.one (m.ys.getD i yq0)))));clear h a;intro w7 a0 q7 hz a h;have z7:=q7.size;replace O:=O.fr q7;replace D:=D.fr q7;replace hC:=hC.sp q7;clear I hz;have I:Blk w7 b4 _ [_,_]:=a0;clear a0;refine z0b (z0d 12 U (z0s h U λa h=>?_));refine z0b (z0q ?_);clear hC a3 Z M;exact bk (h.sub (L':=[(0,_),(3,_),(5,_),(6,_)]) (.c4 U U U U)) (jE ((b4,bn,pn)) (.c4 U U U U) ⟨(q4.z3 q5 q6 q7),⟨⟨sm,I⟩,a0⟩⟩);refine z0w h v7o U λw8 I q8 hz a h=>?_;obtain⟨b4,hg⟩:∃g,g=w4.heap.size:=⟨_,rfl⟩;rw[<-hg]at I h hz;have e2.gk_5:ka.gk<b4:=by have:=O.lt;omega
 have e3:g3<b4:=by have:=D.lt;omega
 have z8:=q8.size;replace hC:=hC.next q8;refine z0b (z0d 6 U (z0o h (z0a U (z0a U z0g)) (mkC func122) (y9s o.b o.p m.rk _ hn e8) ?_));rintro _ w9 ⟨⟨bn,pn,rfl,a0⟩,q9⟩ a h;have z9:=q9.size;replace O:=O.ext (q8.n1 q9);replace D:=D.ext (q8.n1 q9);replace I:=I.ext q9;replace hC:=hC.next q9;refine z0b (z0e 7 h U λa h=>z0n 8 h U λa h=>z0n 9 h U λa h=>z0d 11 U (z0t h U I U y6f ?_ (h1:=(by first|(simp[Value.oneCell',S];done)|exact z2z.one (m.ys.getD i yq0)))));clear h a;intro g1 a0 d9 hz a h;have k1:=d9.size;replace O:=O.fr d9;replace D:=D.fr d9;replace hC:=hC.sp d9;clear I hz;have I:Blk g1 b4 _ [_,_]:=a0;clear a0;refine z0b (z0d 12 U (z0s h U λa h=>?_));refine z0b (z0q ?_);clear hC a3 Z M;exact bk (h.sub (L':=[(0,_),(3,_),(5,_),(6,_)]) (.c4 U U U U)) (jE ((b4,bn,pn)) (.c4 U U U U) ⟨(q4.z3 q8 q9 d9),⟨⟨sm,I⟩,a0⟩⟩);rintro⟨g5,bn,pn⟩ j1 ⟨a8,⟨⟨f7,I⟩,a0⟩⟩;have k2:=a8.size;have f2:=I.lt;simp only at f7 I a0;refine kpC [(0,_),(3,_),(5,.pointer (some ⟨g5,0,none⟩)),(6,_)] (.c4 U U U U) (sq (sr (mv U U (ne' U (nn (cd U (λc1=>?_) (λc1=>?_)))))));refine sr (mv U U (asg U (kpL [(4,_)] (.cons U .nil) (nn (rt (tr (r1 results98 U ?_)))))));replace hM:=a2.ext (q1.n3 q2 q3 a8);have a7:z3v (1-o.b) (z6o o.b o.p m.rk)≠0:=λe=>c1 (by rw[if_neg (λh=>h e)]);exact⟨_,rfl,by rw[if_pos a7];exact MRet.err (by rw[z9l,if_neg d0,if_pos a7]) dd hM.fr⟩;have a7:z3v (1-o.b) (z6o o.b o.p m.rk)=0:=Classical.not_not.1 λe=>c1 (by rw[if_pos e];decide);obtain⟨rfl,rfl⟩:=a0 a7;have h7:=z2p a7;obtain⟨n2,d4⟩:∃n2:Nat,z6o o.b o.p m.rk=(n2:Int):=⟨(z6o o.b o.p m.rk).toNat,oo⟩;refine sk (tn (sq ?_));replace hM:=a2.ext (q1.n3 q2 q3 a8);intro a h;refine z0h none (λwb w'=>Fr [] wb w') z2m ?_;intro f1 a9;have k4:=a9.size;replace hM:=hM.ext a9;replace O:=O.ext (a8.n1 a9);replace D:=D.ext (a8.n1 a9);replace I:=I.ext a9;have hC:Fr [] f1 f1:=Fr.refl _ _;have a3:=hM;have Z:=O;have M:=D;have a4:=I;refine z0c 0 h U z3g U λa h=>z1b (vs:=[_,_]) 1 h U (λ_ hw=>(M.ext hw)) z4k U U λa h=>z0e 2 h U λa h=>z0l 3 h U λa h=>z0c 4 h U z3q U λa h=>z0j 5 h U (λ_ hw=>Z.ext hw) U na3 U λa h=>z0v 7 h U (λ_ hw=>a4.ext hw) z4k U λa h=>z0e 8 h U λa h=>z0l 9 h U λa h=>z0c 10 h U z3q U λa h=>z0j 11 h U (λ_ hw=>Z.ext hw) U na3 U λa h=>z0d 6 U (z0o h (z0a U (z0a U z0g)) x5b (z9y _ _ _ _ oo) ?_);rintro _ j2 ⟨rfl,a5⟩ a h;have k5:=a5.size;replace hC:=hC.next a5;refine z0b (z0d 12 U (z0o h (z0a U (z0a U z0g)) x5b (z9y _ _ _ _ oo) ?_));rintro _ g6 ⟨rfl,a6⟩ a h;have k6:=a6.size;replace hM:=hM.ext (a5.n1 a6);replace O:=O.ext (a5.n1 a6);replace D:=D.ext (a5.n1 a6);replace I:=I.ext (a5.n1 a6);replace hC:=hC.next a6;refine z0b (j6j 13 kr kr kr hC h wn U U U U λa h=>z4m 14 h U (by first|exact i6 oo|rfl) U λa h=>z0d 15 U (z0s h U λa h=>?_));refine z0b (z0q ?_);clear hC a3 Z M a4;refine bk (h.sub (L':=[(0,_),(3,_),(5,_),(7,_)]) (.c4 U U U U)) (tn (sq (sr (mv U U (nlc U (fad U z3e (z0i U O U y3q (lnS U underlying51 (mv U U (nn (bl (lpK (ι:=Nat) [(0,_),(3,_),(5,_),(7,_),(51,_),(52,_)] (λi=>[(53,.int .i64 (i:Int))]) (λi w'=>Fr [] g6 w'/\i<=6/\∀k,k<i->¬((m.ys.getD k yq0).inn=true/\(m.ys.getD k yq0).pl=(v9e m.p o))) (λi=>6-i) 0 (.c7 U U U U U U U) ⟨Fr.refl _ _,⟨Nat.zero_le _,λj h=>absurd h oo⟩⟩ ?_))))))))))));rintro i j3 ⟨b0,⟨hi,hz⟩⟩;have k7:=b0.size;refine kpC [(0,_),(3,_),(5,_),(7,_),(51,_),(52,_),(53,_)] (.c7 U U U U U U U) (sr (lt' U (nn (sq (cd U (λc2=>?_) (λc2=>?_))))));refine sk (tn (sq (bl (sr ?_))));replace hM:=a2.ext ((q1.n6 q2 q3 a8 a9 a5 a6).n1 b0);refine z1d (yq0) U hM.y.out.sl U y4b z1i (λh3 e6=>?_);refine z1k U (e6 _ hM.y.out.sl) z6y (al y3c U (λg9 j4 i2 e0 e9 k8=>?_));refine z0k (vs:=[_,_,_,_,_]) U e0 z7d (λj5 e0 f0 k9=>?_) (h1:=(by first|(simp[Value.oneCell',S];done)|exact z2z.one (m.ys.getD i yq0)));refine nn (sq (rbo (r:=64) (L':=[(0,_),(3,_),(5,_),(7,_),(51,_),(52,_),(53,_)]) (((m.ys.getD i yq0).inn=true/\((m.ys.getD i yq0).pl=((min (z4g o.b o.p m.rk) (z4g (1-o.b) (z6o o.b o.p m.rk) m.rk))+1)))) (.c7 U U U U U U U) ?_ ?_));refine fad U y0k (z0i U e0 U na4 (mv U U (gs 59 U (λg0=>?_) (λg0=>?_))));exact gY U (fad U z7h (gY U (z0i U e0 U na3 (gY U (mv U U (gY U (eq' U (pkt U (rbe U (.c7 U U U U U U U))))))))));exact gN U (gN U (gN U (gN U (pkf U (rbe U (.c7 U U U U U U U))))));refine tn (cd U (λc3=>?_) (λc3=>?_));refine sr (asg U (kpL [(4,_)] (.cons U .nil) (nn (rt (rb (tr (tr (rb (tr (r1 results98 U ?_))))))))));replace hM:=a2.ext ((((q1.n6 q2 q3 a8 a9 a5 a6).n1 b0).n1 e9).z1 f0);exact⟨_,rfl,MRet.err (by rw[z9l,if_neg d0,if_neg (λh=>h a7),if_pos (⟨_,List.mem_map.2 ⟨m.ys.getD i yq0,z0y oo,rfl⟩,c3⟩:∃y∈m.p.ys,y.inn=true/\y.pl=v9e m.p o)]) dd hM.fr⟩;refine sk (bn' (tn (rg (z0z U (wi6 oo) (mv U U (nl ?_))))));exact lpE (i+1) (.c7 U U U U U U U) ⟨(b0.z2 e9 f0),⟨oo,λk h=>by
  by_cases e:k=i;subst e;exact c3;exact hz k oo⟩⟩ oo
 have b7:¬ ∃y∈m.p.ys,y.inn=true/\y.pl=v9e m.p o:=by
  rintro⟨y,hy,h1,h2⟩;obtain⟨z,f6,rfl⟩:=List.mem_map.1 hy;obtain⟨k,f5,rfl⟩:=List.getElem_of_mem f6;refine hz k oo ?_;rw[List.getD,List.getElem?_eq_getElem f5];exact⟨h1,h2⟩
 refine ex (te (te (xh (tn (sq ?_)))));replace hM:=a2.ext ((q1.n6 q2 q3 a8 a9 a5 a6).n1 b0);intro a h;refine z0h none (λwb w'=>Fr [] wb w') z2m ?_;intro e5 b8;have l0:=b8.size;replace hM:=hM.ext b8;replace O:=O.ext (b0.n1 b8);replace D:=D.ext (b0.n1 b8);replace I:=I.ext (b0.n1 b8);have hC:Fr [] e5 e5:=Fr.refl _ _;have a3:=hM;have Z:=O;have M:=D;have a4:=I;refine z0e 0 h U λa h=>z0l 1 h U λa h=>z0c 2 h U z3d U λa h=>z1b (vs:=[_,_]) 3 h U (λ_ hw=>(Z.ext hw)) z4s U U λa h=>z0c 4 h U z3g U λa h=>z1b (vs:=[_,_]) 5 h U (λ_ hw=>(M.ext hw)) z4k U U λa h=>z0v 6 h U (λ_ hw=>a4.ext hw) z4k U λa h=>z1y 7 11 kr U ?_ ?_;refine z0o h (z0a U (z0a U (z0a U z0g))) (mkC func123) (by have x:=y8t m.q o.b n n2 _ hM.b.at hv (by rw[<-d5];exact hn) (by rw[<-d4];exact a7) (by rw[<-d5];exact d0);rw[<-d5,<-d4]at x;exact x) ?_;rintro _ g7 ⟨⟨q',rfl,d6⟩,q19⟩ a h;have l1:=q19.size;replace O:=O.ext q19;replace D:=D.ext q19;replace I:=I.ext q19;replace hC:=hC.next q19;have hQ:BdOIf (¬4<(m.q.p.at o.b o.p).length+(m.q.p.at (1-o.b) (z6o o.b o.p m.rk)).length) 27 73 _ _ q':=λhc=>(d6 hc).1;have e4:=λhc=>(d6 hc).2;have d3:=λhc=>x3d (hQ hc) a2.f oo;refine z0b (z0e 8 h U λa h=>z0n 9 h U λa h=>z0n 10 h U λa h=>z0d 11 U (z0w h x1h U λj6 J b3 hz a h=>?_));obtain⟨a1,hg⟩:∃g,g=g7.heap.size:=⟨_,rfl⟩;rw[<-hg]at J h hz;have e2.gk_10:ka.gk<a1:=by have:=O.lt;omega
 have b5:g3<a1:=by have:=D.lt;omega
 have b5:g5<a1:=by have:=I.lt;omega
 have l2:=b3.size;replace hM:=hM.ext (q19.n1 b3);replace O:=O.ext b3;replace D:=D.ext b3;replace I:=I.ext b3;first|replace hQ:=BdOIf.ext hQ b3|replace hQ:=BdOIf.tf hQ b3 (OffT.one J dd) (OffT.one J dd)
 replace hC:=hC.next b3;refine z0b (z0d 12 U (z0t h U J U y4m ?_ (h1:=(by first|(simp[Value.oneCell',S];done)|exact z2z.one (m.ys.getD i yq0)))));clear h a;intro g8 a0 b9 hz a h;have l3:=b9.size;replace O:=O.fr b9;replace D:=D.fr b9;replace I:=I.fr b9;first|replace hQ:=BdOIf.ext hQ b9|replace hQ:=BdOIf.tf hQ b9 (OffT.one J dd) (OffT.one J dd)
 replace hC:=hC.sp b9;clear J hz;have J:Blk g8 a1 _ [_,_]:=a0;clear a0;refine z0b (z0d 13 U (z0s h U λa h=>?_));refine z0b (z0q ?_);clear hC a3 Z M a4;refine bk (h.sub (L':=[(0,_),(6,_),(10,_)]) (.c3 U U U)) (tn (sq (sr (mv U U (eq' U (nn (cd U (λc4=>?_) (λc4=>?_))))))));have b6:¬4<(m.q.p.at o.b o.p).length+(m.q.p.at (1-o.b) (z6o o.b o.p m.rk)).length:=λe=>by rw[if_pos e]at c4;exact absurd c4 dd
 replace hQ:=hQ b6;replace d3:=d3 b6;refine rg (mv U U (z0m U J z4s (nlc U (fad U z3d ?_))));replace hM:=a2.ext ((((q1.n6 q2 q3 a8 a9 a5 a6).n1 b0).n1 b8).z3 q19 b3 b9);refine z3j (cs':=u4p ka { m with q:=q' }) U hM.k (by intro u hu;simp at hu;rcases hu with rfl|rfl<;>rfl) y4m U (λj7 d7 f8 l4=>?_);replace hM:=hM.beds mtd (hQ.low oo) d7 f8 d3;have O:=hM.k;have a2:=hM;have f4:=hM;have hF:Lw.Own z1f 73 wS.heap.size _ (slv m.fa) m.fl:=hM.f;clear d7;refine kpL [(6,_)] (.cons U .nil) (nl (tn (sr (mv U U (asg U (nn (rt (r1 results98 U ?_))))))));exact⟨_,rfl,by rw[c4];exact MRet.ok (by rw[z9l,if_neg d0,if_neg (λh=>h a7),if_neg b7,if_neg b6];exact congrArg Except.ok (by have hj:y1x m.q.p o.b o.p (z6o o.b o.p m.rk)=z9j m.p o:=x1z (p:=m.p) e7.1;unfold MQ.p;simp only[e4 b6];rw[hj])) hM⟩;refine sk (tn (sr (mv U U (asg U (nn (rt (r1 results98 U ?_)))))));replace hM:=a2.ext ((((q1.n6 q2 q3 a8 a9 a5 a6).n1 b0).n1 b8).z3 q19 b3 b9);exact⟨_,rfl,MRet.err (by rw[z9l,if_neg d0,if_neg (λh=>h a7),if_neg b7,if_pos (Classical.not_not.1 λe=>c4 (if_neg e))];rw[if_pos (Classical.not_not.1 λe=>c4 (if_neg e))]) c4 hM.fr⟩;refine z0w h x1h U λj8 J d1 hz a h=>?_;obtain⟨a1,hg⟩:∃g,g=e5.heap.size:=⟨_,rfl⟩;rw[<-hg]at J h hz;have e2.gk_10:ka.gk<a1:=by have:=O.lt;omega
 have b5:g3<a1:=by have:=D.lt;omega
 have b5:g5<a1:=by have:=I.lt;omega
 have l5:=d1.size;replace hM:=hM.ext d1;replace hC:=hC.next d1;refine z0b (z0d 7 U (z0o h (z0a U (z0a U (z0a U z0g))) (mkC func123) (by have x:=y8t m.q o.b n n2 _ hM.b.at hv (by rw[<-d5];exact hn) (by rw[<-d4];exact a7) (by rw[<-d5];exact d0);rw[<-d5,<-d4]at x;exact x) ?_));rintro _ j9 ⟨⟨q',rfl,d6⟩,q24⟩ a h;have l6:=q24.size;replace hM:=hM.ext q24;replace O:=O.ext (d1.n1 q24);replace D:=D.ext (d1.n1 q24);replace I:=I.ext (d1.n1 q24);replace J:=J.ext q24;replace hC:=hC.next q24;have hQ:BdOIf (¬4<(m.q.p.at o.b o.p).length+(m.q.p.at (1-o.b) (z6o o.b o.p m.rk)).length) 27 73 _ _ q':=λhc=>(d6 hc).1;have e4:=λhc=>(d6 hc).2;have d3:=λhc=>x3d (hQ hc) a2.f oo;refine z0b (z0e 8 h U λa h=>z0n 9 h U λa h=>z0n 10 h U λa h=>z0d 12 U (z0t h U J U y4m ?_ (h1:=(by first|(simp[Value.oneCell',S];done)|exact z2z.one (m.ys.getD i yq0)))));clear h a;intro h0 a0 c9 hz a h;have l7:=c9.size;replace O:=O.fr c9;replace D:=D.fr c9;replace I:=I.fr c9;first|replace hQ:=BdOIf.ext hQ c9|replace hQ:=BdOIf.tf hQ c9 (OffT.one J dd) (OffT.one J dd)
 replace hC:=hC.sp c9;clear J hz;have J:Blk h0 a1 _ [_,_]:=a0;clear a0;refine z0b (z0d 13 U (z0s h U λa h=>?_));refine z0b (z0q ?_);clear hC a3 Z M a4;refine bk (h.sub (L':=[(0,_),(6,_),(10,_)]) (.c3 U U U)) (tn (sq (sr (mv U U (eq' U (nn (cd U (λc4=>?_) (λc4=>?_))))))));have b6:¬4<(m.q.p.at o.b o.p).length+(m.q.p.at (1-o.b) (z6o o.b o.p m.rk)).length:=λe=>by rw[if_pos e]at c4;exact absurd c4 dd
 replace hQ:=hQ b6;replace d3:=d3 b6;refine rg (mv U U (z0m U J z4s (nlc U (fad U z3d ?_))));replace hM:=a2.ext ((((q1.n6 q2 q3 a8 a9 a5 a6).n1 b0).n1 b8).z3 d1 q24 c9);refine z3j (cs':=u4p ka { m with q:=q' }) U hM.k (by intro u hu;simp at hu;rcases hu with rfl|rfl<;>rfl) y4m U (λk0 d7 f9 l8=>?_);replace hM:=hM.beds mtd (hQ.low oo) d7 f9 d3;have O:=hM.k;have a2:=hM;have f4:=hM;have hF:Lw.Own z1f 73 wS.heap.size _ (slv m.fa) m.fl:=hM.f;clear d7;refine kpL [(6,_)] (.cons U .nil) (nl (tn (sr (mv U U (asg U (nn (rt (r1 results98 U ?_))))))));exact⟨_,rfl,by rw[c4];exact MRet.ok (by rw[z9l,if_neg d0,if_neg (λh=>h a7),if_neg b7,if_neg b6];exact congrArg Except.ok (by have hj:y1x m.q.p o.b o.p (z6o o.b o.p m.rk)=z9j m.p o:=x1z (p:=m.p) e7.1;unfold MQ.p;simp only[e4 b6];rw[hj])) hM⟩;refine sk (tn (sr (mv U U (asg U (nn (rt (r1 results98 U ?_)))))));replace hM:=a2.ext ((((q1.n6 q2 q3 a8 a9 a5 a6).n1 b0).n1 b8).z3 d1 q24 c9);exact⟨_,rfl,MRet.err (by rw[z9l,if_neg d0,if_neg (λh=>h a7),if_neg b7,if_pos (Classical.not_not.1 λe=>c4 (if_neg e))];rw[if_pos (Classical.not_not.1 λe=>c4 (if_neg e))]) c4 hM.fr⟩
end Go.Proofs.YtjilcnmaefhmeaaGreatDoor
namespace Go.G08
open Go.Lw Go.G21
theorem y9k {p:MSt}{y:Int}{q:Yn}(h:MInv p)(O:1<=y/\y<=6)(M:y2z q)(I:q.ct=(p.y y).ct):MInv (p.setY y q):=by
 have J:(y-1).toNat<p.ys.length:=by rw[h.ly];omega
 refine⟨h.rk,h.B,by show (p.ys.set _ q).length=6;rw[List.length_set];exact h.ly,h.lt,λk D=>?_,h.has,h.cnt,h.all,h.cv⟩;show y2z ((p.ys.set (y-1).toNat q).getD k yn0)/\((p.ys.set (y-1).toNat q).getD k yn0).ct=z3a p.tb k;rw[z1j J];split;rename_i e;refine⟨M,I.trans ?_⟩;have:=(h.yn k D).2;rw[<-e]at this ⊢;exact this;exact h.yn k D
theorem v4o {st:List Pa}{p:Pa}(h:y6h st)(hp:y1a p):y6h (z9x st p):=by
 unfold z9x;split;intro i M;rw[List.length_take]at M;have e:∀k,k<st.length-1->(st.take (st.length-1)).getD k pa0=st.getD k pa0:=λk O=>by
  rw[List.getD,List.getElem?_take,if_pos O,List.getD]
 obtain⟨I,J⟩:=h i oo;refine⟨by rw[e i oo];exact I,λD=>?_⟩;rw[e i oo,e (i-1) oo];exact J D;rename_i hc;intro i M;rw[List.length_append,List.length_singleton]at M;have e:∀k,k<st.length->(st++[p]).getD k pa0=st.getD k pa0:=λk O=>by
  rw[List.getD,List.getElem?_append_left O,List.getD]
 by_cases hl:i<st.length;obtain⟨I,J⟩:=h i hl;refine⟨by rw[e i hl];exact I,λD=>?_⟩;rw[e i hl,e (i-1) oo];exact J D;obtain rfl:i=st.length:=by omega
 have Z:(st++[p]).getD st.length pa0=p:=by simp[List.getD]
 refine⟨by rw[Z];exact hp,λD=>?_⟩;rw[Z,e (st.length-1) oo];exact λhh=>hc ⟨D,hh⟩
theorem x1b:∀ {l st:List Pa},y6h st->j6z l->y6h (z4t st l)
 | [],_,h,_=>h
 | p::l,st,h,hv=>x1b (l:=l) (v4o h (hv p sp0)) (λq D=>hv q (List.mem_cons_of_mem _ D))
theorem j6q {y:Yn}{M:Int}{l:List Pa}(h:goE y M l=0):y2z (goS y M l):=by
 unfold goE at h;split at h;exact absurd h (by assumption);rename_i I;have I:=v6r (Classical.not_not.1 I);split at h;omega;rename_i O;split at h;omega;rename_i Z;split at h;omega;rename_i D;have D:y.inn=true:=by simpa using D
 split at h;omega;have J:=I.2;rw[if_pos D]at J;refine⟨I.1,?_⟩;show if y.inn=true then _ else _
 rw[if_pos D];exact⟨Classical.not_not.1 O,by show (z4t y.pe l).length<=4096;omega,x1b J.2.2 (Classical.not_not.1 Z)⟩
theorem y4c (B:Bd){b n:Int}(h:z3v b n=0)(s:List LId):(B.put b n s).flat.length+(B.at b n).length=B.flat.length+s.length:=by
 have:=(List.perm_iff_count.2 (λi=>by rw[List.count_append,List.count_append];exact z3w B h s i):((B.put b n s).flat++B.at b n).Perm (B.flat++s)).length_eq;simpa using this
theorem u4u {B:Bd}(h:BdOk B){b n:Int}(hn:z3v b n=0):BdOk (B.put b n []):=h.put hn sp0 sp0 λi=>by
 have:=List.nodup_iff_count.1 h.nd i
 simp only[List.count_nil];omega
theorem u3k {p q:MSt}{o:MOp}(h:MInv p)(hn:z3v o.b o.p=0)(e:y3h p o=.ok q):MInv q:=by
 unfold y3h at e;split at e;cases e;cases e;refine⟨h.rk,u4u h.B hn,h.ly,h.lt,h.yn,λi I=>?_,?_,h.all,h.cv⟩;rcases y0n hn I with k|k
 cases k;exact h.has i k;have D:=y4c p.B hn [];have J:=h.cnt;show (p.B.put o.b o.p []).flat.length+(p.fa++p.B.at o.b o.p).length<=z5r p.tb;rw[List.length_append];simp only[List.length_nil]at D;omega
theorem y4x {p:MSt}{o:MOp}(h:o.b=0\/o.b=1)(i:LId):(z9j p o).count i=(p.B.at o.b o.p).count i+(p.B.at (1-o.b) (z6o o.b o.p p.rk)).count i:=by
 unfold z9j;rcases h with e|e
 rw[e,if_neg dd,List.count_append,show (1:Int)-0=1 from U];omega;rw[e,if_pos U,List.count_append,show (1:Int)-1=0 from U]
theorem v9v {p q:MSt}{o:MOp}(h:MInv p)(hn:z3v o.b o.p=0)(e:z9l p o=.ok q):MInv q:=by
 unfold z9l at e;split at e;cases e;split at e;cases e;rename_i D;have D:=Classical.not_not.1 D;split at e;cases e;split at e;cases e;rename_i h4;cases e;have hb:=(z2p hn).1;have hc:=y4x (p:=p) (o:=o) hb;have Z:(z9j p o).length=(p.B.at o.b o.p).length+(p.B.at (1-o.b) (z6o o.b o.p p.rk)).length:=by
  have:=(List.perm_iff_count.2 (λi=>by rw[List.count_append];exact hc i):(z9j p o).Perm (p.B.at o.b o.p++p.B.at (1-o.b) (z6o o.b o.p p.rk))).length_eq;simpa using this
 have I:∀i∈z9j p o,i∈p.B.flat:=λi O=>by
  have J:=List.count_pos_iff.2 O;rw[hc i]at J;by_cases k:0<(p.B.at o.b o.p).count i;exact z6g (List.count_pos_iff.1 k);exact z6g (List.count_pos_iff.1 (show 0<(p.B.at (1-o.b) (z6o o.b o.p p.rk)).count i by omega))
 have M:(p.B.put o.b o.p []).at (1-o.b) (z6o o.b o.p p.rk)=p.B.at (1-o.b) (z6o o.b o.p p.rk):=by
  rw[y8q p.B hn D,if_neg oo]
 have a0:=u4u h.B hn;refine⟨h.rk,a0.put D oo (λi O=>h.B.nm i (I i O)) (λi=>?_),h.ly,h.lt,h.yn,λi O=>?_,?_,h.all,h.cv⟩;have J:=z3w p.B hn [] i;have h2:=List.nodup_iff_count.1 h.B.nd i;rw[M,hc i];simp only[List.count_nil]at J;omega;rcases y0n D O with k|k
 exact h.has i (I i k);rcases y0n hn k with k|k
 cases k;exact h.has i k;have J:=y4c p.B hn [];have h2:=y4c (p.B.put o.b o.p []) D (z9j p o);have h3:=h.cnt;rw[M,Z]at h2;simp only[List.length_nil]at J;show ((p.B.put o.b o.p []).put (1-o.b) (z6o o.b o.p p.rk) (z9j p o)).flat.length+p.fa.length<=z5r p.tb;omega
theorem v3q {p q:MSt}{o:MOp}{th st:List LId}(h:MInv p)(hy:1<=o.y/\o.y<=6)(hn:z3v o.b o.p=0)(hs:st=[]\/(st=p.B.at o.b o.p/\st.length<4))(e:x0h p o th st=.ok q):MInv q:=by
 unfold x0h at e;split at e;cases e;rename_i hm;split at e;cases e;rename_i hc;cases e;have hm:=Classical.not_not.1 hm;obtain⟨j,hj,a5⟩:∃j:Nat,j<6/\o.y=(j:Int)+1:=⟨(o.y-1).toNat,oo,oo⟩;have M:(o.y-1).toNat=j:=by omega
 have J:=h.yn j hj;have a6:p.y o.y=p.ys.getD j yn0:=by unfold MSt.y;rw[M]
 rw[<-a6]at J;have a4:j<p.ys.length:=by rw[h.ly];exact hj
 have I:j<p.tb.length:=by rw[h.lt];exact hj
 have Z:(p.y o.y).inn=true/\(p.y o.y).ct≠2048:=by
  unfold mkE at hm;split at hm;exact absurd hm (by assumption);split at hm;omega;rename_i D;split at hm;omega;rename_i hk;exact⟨by simpa using D,hk⟩
 have a7:=J.1.1;have O:∀i∈p.B.flat,i≠⟨o.y,(p.y o.y).ct⟩:=λi D e=>by
  have:=h.has i D;rw[e]at this;obtain⟨_,_,_,h4⟩:=this;simp only at h4;rw[M,J.2]at h4;omega
 have a0:∀i∈st,i∈p.B.flat:=λi D=>by
  rcases hs with e|⟨e,_⟩
  rw[e]at D;cases D;rw[e]at D;exact z6g D
 have a1:p.row o.y=p.tb.getD j []:=by unfold MSt.row;rw[M]
 simp only[M,a1];have a3:(st++[(⟨o.y,(p.y o.y).ct⟩:LId)]).length<=4:=by
  rw[List.length_append,List.length_singleton];rcases hs with e|⟨_,e⟩
  rw[e];simp;omega
 have a2:=y4t p.tb j (p.tb.getD j []++[(⟨o.b,(p.y o.y).nw,th,(p.y o.y).pe⟩:Lp)]) I;rw[List.length_append,List.length_singleton,show (p.tb.getD j []).length=z3a p.tb j from U]at a2;refine⟨h.rk,h.B.put hn a3 (λi D=>?_) (λi=>?_),by show (p.ys.set _ _).length=6;rw[List.length_set];exact h.ly,by show (p.tb.set _ _).length=6;rw[List.length_set];exact h.lt,λk hk=>?_,λi D=>?_,?_,?_,h.cv⟩;rcases List.mem_append.1 D with k|k
 exact h.B.nm i (a0 i k);rw[List.mem_singleton.1 k];unfold z5v;simp only;omega;have hd:=List.nodup_iff_count.1 h.B.nd i;rw[List.count_append,List.count_singleton];by_cases e:(⟨o.y,(p.y o.y).ct⟩:LId)=i;have h0:p.B.flat.count i=0:=List.count_eq_zero.2 λk=>O i k e.symm;have h1:st.count i=0:=List.count_eq_zero.2 λk=>O i (a0 i k) e.symm;rw[h0,h1];split<;>omega
 rw[if_neg (by simpa using e)];rcases hs with e|⟨e,_⟩
 rw[e];simp only[List.count_nil];omega;rw[e];omega;show y2z ((p.ys.set j (mkS (p.y o.y))).getD k yn0)/\((p.ys.set j (mkS (p.y o.y))).getD k yn0).ct=z3a (p.tb.set j _) k;rw[z1j a4,z9g I];by_cases e:j=k;rw[if_pos e,if_pos e];refine⟨⟨⟨by show 0<=(p.y o.y).ct+1;omega,by show (p.y o.y).ct+1<=2048;omega⟩,?_⟩,?_⟩;have h2:=J.1.2;rw[if_pos Z.1]at h2;show if true=true then _ else _
 rw[if_pos U];exact⟨h2.1,by show ([]:List Pa).length<=4096;simp,λi D=>by simp[mkS]at D⟩;show (p.y o.y).ct+1=_;rw[J.2,List.length_append,List.length_singleton];rfl;rw[if_neg e,if_neg e];exact h.yn k hk;rcases y0n hn D with k|k
 rcases List.mem_append.1 k with k|k
 exact y8r I (h.has i (a0 i k));rw[List.mem_singleton.1 k];have:=y0j (T:=p.tb.set j (p.tb.getD j []++[(⟨o.b,(p.y o.y).nw,th,(p.y o.y).pe⟩:Lp)])) (y:=j) (n:=z3a p.tb j) (by rw[List.length_set];exact I) (by rw[z9g I,if_pos U,List.length_append,List.length_singleton];exact Nat.lt_succ_self _);rwa [<-a5,<-J.2]at this;exact y8r I (h.has i k);have h1:=y4c p.B hn (st++[(⟨o.y,(p.y o.y).ct⟩:LId)]);have h2:=h.cnt;have h3:st.length<=(p.B.at o.b o.p).length:=by
  rcases hs with e|⟨e,_⟩
  rw[e];simp;rw[e];exact Nat.le_refl _
 rw[List.length_append,List.length_singleton]at h1;show (p.B.put o.b o.p _).flat.length+p.fa.length<=z5r (p.tb.set j _);omega;have:=h.all;show z5r (p.tb.set j _)<=2048;omega
theorem j5x {p q:MSt}{o:MOp}(h:MInv p)(O:1<=o.y/\o.y<=6)(Z:z5x o.d)(e:inM p o=.ok q):MInv q:=by
 unfold inM at e;split at e;cases e;rename_i D;cases e;have D:=Classical.not_not.1 D;refine y9k h O ?_ U;have I:y2z (p.y o.y):=by
  unfold enE at D;split at D;exact absurd D (by assumption);rename_i J;exact v6r (Classical.not_not.1 J)
 refine⟨I.1,?_⟩;show if true=true then _ else _
 rw[if_pos U];refine⟨?_,by show ([]:List Pa).length<=4096;simp,λi M=>by simp[enS]at M⟩;show v1k (if o.d=1 then 179 else -13);split<;>decide
theorem u9f {p q:MSt}{o:MOp}(h:MInv p)(M:1<=o.y/\o.y<=6)(e:v0s p o=.ok q):MInv q:=by
 unfold v0s at e;split at e;cases e;rename_i D;cases e;have D:=Classical.not_not.1 D;refine y9k h M ?_ U;have I:y2z (p.y o.y):=by
  unfold lvE at D;split at D;exact absurd D (by assumption);rename_i J;exact v6r (Classical.not_not.1 J)
 refine⟨I.1,?_⟩;show if false=true then _ else _
 rw[if_neg dd];exact⟨rfl,rfl,rfl⟩
theorem y2p {p q:MSt}{y J en:Int}(h:MInv p)(I:1<=y/\y<=6)(e:y3j p y J en=.ok q):MInv q/\q.B=p.B/\q.rk=p.rk:=by
 unfold y3j at e;split at e;cases e;rename_i D;cases e;exact⟨y9k h I (j6q (Classical.not_not.1 D)) U,rfl,rfl⟩
theorem v8o {p q:MSt}{o:MOp}(h:MInv p)(D:1<=o.y/\o.y<=6)(e:y5m p o=.ok q):MInv q:=by
 unfold y5m at e;split at e;cases e;exact(y2p h D e).1
theorem u1j {p q:MSt}{o:MOp}(h:MInv p)(D:1<=o.y/\o.y<=6)(hn:z3v o.b o.p=0)(e:y2k p o=.ok q):MInv q:=by
 unfold y2k at e;split at e;cases e;split at e;cases e;rename_i r I;exact v3q (y2p h D I).1 D hn (.inl U) e
theorem u3g {p q:MSt}{o:MOp}(h:MInv p)(D:1<=o.y/\o.y<=6)(hn:z3v o.b o.p=0)(e:y0v p o=.ok q):MInv q:=by
 unfold y0v at e;split at e;cases e;split at e;cases e;rename_i r I;split at e;cases e;exact v3q (y2p h D I).1 D hn (.inr ⟨rfl,oo⟩) e
theorem x8e {p:MSt}{d:Int}{y D:Yn}(e:z8g p d y=.ok D):(y2z y->y2z D)/\D.ct=y.ct:=by
 unfold z8g at e;split at e;cases e;exact⟨id,rfl⟩;split at e;cases e;rename_i I;cases e;exact⟨λ_=>j6q (Classical.not_not.1 I),rfl⟩
theorem x2k {p:MSt}{d:Int}:∀ {l l':List Yn},z4v p d l=.ok l'->l'.length=l.length/\∀k,(y2z (l.getD k yn0)->y2z (l'.getD k yn0))/\(l'.getD k yn0).ct=(l.getD k yn0).ct
 | [],l',e=>by cases e;exact⟨rfl,λk=>⟨id,rfl⟩⟩
 | y::l,l',e=>by
  unfold z4v at e
  split at e
  ·cases e
  rename_i Z M
  split at e
  ·cases e
  rename_i O J
  cases e
  obtain⟨D,I⟩:=x2k J
  refine⟨by simp[D],λk=>?_⟩
  cases k with
  | zero=>exact x8e M
  | succ k=>simpa only[List.getD_cons_succ] using I k
def j7y (l:List Cx):Prop:=∀c∈l,-1048576<=c.n/\c.n<=1048576
theorem u6d {l l':List Cx}{c:Cx}(h:j7y l)(e:x2n l c=.ok l'):j7y l':=by
 unfold x2n at e;dsimp only at e;generalize (if 0<z6n c.a c.b then (c.b,c.a) else (c.a,c.b))=kk at e;split at e;cases e;rename_i J;split at e;cases e;intro x D;exact h x (List.mem_filter.1 D).1;cases e;intro x D;unfold x0m at D;split at D;obtain⟨z,I,rfl⟩:=List.mem_map.1 D;split;simp only;omega;exact h z I;rcases List.mem_append.1 D with k|k
 exact h x k;rw[List.mem_singleton.1 k];simp only;omega
theorem y8p:∀ {r l l':List Cx},j7y l->z5y l r=.ok l'->j7y l'
 | [],l,l',h,e=>by cases e;exact h
 | c::r,l,l',h,e=>by
  unfold z5y at e
  split at e
  ·cases e
  rename_i I D
  exact y8p (u6d h D) e
theorem y8m {p q:MSt}{d:Int}(h:MInv p)(Z:-4<=p.rk+stI d/\p.rk+stI d<=4)(e:z8p p d=.ok q):MInv q/\q.rk=p.rk+stI d:=by
 unfold z8p at e;split at e;cases e;rename_i ys I;split at e;cases e;rename_i cr D;cases e;obtain⟨O,J⟩:=x2k I;exact⟨⟨Z,h.B,O.trans h.ly,h.lt,λk M=>⟨(J k).1 (h.yn k M).1,(J k).2.trans (h.yn k M).2⟩,h.has,h.cnt,h.all,y8p h.cv D⟩,rfl⟩
theorem x7x {r:Int}(J:-4<=r/\r<=4):∀ {n:Nat} {p q:MSt},MInv p->z4y n p r=.ok q->MInv q
 | 0,p,q,h,e=>by cases e;exact h
 | n+1,p,q,h,e=>by
  unfold z4y at e
  split at e
  ·cases e;exact h
  rename_i I
  split at e
  ·cases e
  rename_i O D
  have M:=h.rk
  refine x7x J (y8m h ?_ D).1 e
  unfold stI
  split<;>split<;>omega
theorem v3l {p q:MSt}{o:MOp}(h:MInv p)(e:doM p o=.ok q):MInv q:=by
 unfold doM at e;split at e;cases e;rename_i O;obtain⟨_,J,D,Z,I,M⟩:=z6d (Classical.not_not.1 O);unfold opM at e;split at e;exact j5x h (D oo) (J oo) e;split at e;exact u9f h (D oo) e;split at e;exact x7x (M oo) h e;split at e;exact u1j h (D oo) (I oo) e;split at e;exact u3g h (D oo) (I oo) e;split at e;exact v8o h (D oo) e;split at e;exact v9v h (I oo) e;exact u3k h (I oo) e
end Go.G08
namespace Go.G08
open Go.Lw Go.G21
section
variable {τ:TyK} {Mt:Nat} {wS w w' w2:World} {a:MA} {m:MQ} {j:Nat} {u:SV} {q:LpQ}
theorem MkM.row (h:MkM τ Mt wS a w m)(D:MtOk τ Mt)(hj:j<6)(hq:LpO τ wS.heap.size w q)(a1:∀k∈z0u (slv q.th),k∉z0u (slv m.fa))
    (h1:Lw.Own z6q τ.L wS.heap.size w' (slv u) ((m.ts.getD j tq0).2++[q])) (f1:Fr (z0u (slv (m.ts.getD j tq0).1)) w w') (hx:slv u=slv (m.ts.getD j tq0).1\/z0u (slv u)=z0u (slv (m.ts.getD j tq0).1)\/z0u (slv u)=[w.heap.size])
    (h2:Lw.Own z4c τ.T wS.heap.size w2 a.TV (m.ts.set j (u,(m.ts.getD j tq0).2++[q]))) (f2:Fr [a.gt] w' w2):MkM τ Mt wS a w2 { m with ts:=m.ts.set j (u,(m.ts.getD j tq0).2++[q]) }:=by
  have O:j<m.ts.length:=by rw[h.lt];exact hj
  have I:∀T,T≠τ.L->OffT w T (z0u (slv (m.ts.getD j tq0).1)):=λT hT=>z4z (h.t.ins j O) (Ne.symm hT)
  have J:=z1v h.t.out f1 (I _ D.o.tl)
  have M:∀T,T≠τ.T->OffT w' T [a.gt]:=λT hT=>z4z J (Ne.symm hT)
  refine⟨y1o (y1o h.k f1 (I _ D.l)) f2 (M _ D.t),BdO.tf (BdO.tf h.b f1 (I _ (Ne.symm D.o.ls)) (I _ (Ne.symm D.o.li))) f2 (M _ (Ne.symm D.o.ts)) (M _ (Ne.symm D.o.ti)),
    (h.y.tf f1 (I _ D.o.yl) (I _ (Ne.symm D.o.lp))).tf f2 (M _ D.o.yt) (M _ (Ne.symm D.o.tp)),h.t.put D.o O hq h1 f1 hx h2 f2,(h.c.tf f1 (I _ D.l)).tf f2 (M _ D.t),z1v (z1v h.f f1 (I _ (Ne.symm D.o.li))) f2 (M _ (Ne.symm D.o.ti)),h.fb,λi hi p Z=>?_,h.ly,by rw[List.length_set];exact h.lt,h.gk,h.gc,(h.fr.step f1 (y4y (h.t.ins j O) (by simp[v8k])) λk hk a0=>?_).step f2 (y4y J (by simp[v8k])) λk hk a0=>?_⟩
  · simp only at Z
    rw[z1j O]at Z
    split at Z
    · rcases List.mem_append.1 Z with k|k
      · exact h.ft j hj p k
      · rw[List.mem_singleton.1 k];exact a1
    · exact h.ft i hi p Z
  · have:=((h.t.ins j O).blk k hk).1;omega
  · have:=(h.t.out.blk k hk).1;omega
theorem j0x {p:MSt}{o:MOp}{st:List LId}(h:MInv p)(hy:1<=o.y/\o.y<=6)(hs:st=[]\/(st=p.B.at o.b o.p/\st.length<4))(O:mkE (p.y o.y)=0) :
    (st++[(⟨o.y,(p.y o.y).ct⟩:LId)]).length<=4/\(∀i∈st++[(⟨o.y,(p.y o.y).ct⟩:LId)],z5v i)/\∀i,p.B.flat.count i+(st++[(⟨o.y,(p.y o.y).ct⟩:LId)]).count i<=(p.B.at o.b o.p).count i+1:=by
  obtain⟨j,hj,a3⟩:∃j:Nat,j<6/\o.y=(j:Int)+1:=⟨(o.y-1).toNat,oo,oo⟩
  have M:(o.y-1).toNat=j:=by omega
  have J:=h.yn j hj
  have a1:p.y o.y=p.ys.getD j yn0:=by unfold MSt.y;rw[M]
  rw[<-a1]at J
  have a0:(p.y o.y).inn=true/\(p.y o.y).ct≠2048:=by
    unfold mkE at O
    split at O
    · exact absurd O (by assumption)
    · split at O
      · omega
      · rename_i D
        split at O
        · omega
        · rename_i hk;exact⟨by simpa using D,hk⟩
  have a2:=J.1.1
  have I:∀i∈p.B.flat,i≠⟨o.y,(p.y o.y).ct⟩:=λi D e=>by
    have:=h.has i D
    rw[e]at this
    obtain⟨_,_,_,h4⟩:=this
    simp only at h4
    rw[M,J.2]at h4
    omega
  have Z:∀i∈st,i∈p.B.flat:=λi D=>by
    rcases hs with e|⟨e,_⟩
    · rw[e]at D;cases D
    · rw[e]at D;exact z6g D
  refine⟨?_,λi D=>?_,λi=>?_⟩
  · rw[List.length_append,List.length_singleton]
    rcases hs with e|⟨_,e⟩
    · rw[e];simp
    · omega
  · rcases List.mem_append.1 D with k|k
    · exact h.B.nm i (Z i k)
    · rw[List.mem_singleton.1 k];unfold z5v;simp only;omega
  · have hd:=List.nodup_iff_count.1 h.B.nd i
    rw[List.count_append,List.count_singleton]
    by_cases e:(⟨o.y,(p.y o.y).ct⟩:LId)=i
    · have h0:p.B.flat.count i=0:=List.count_eq_zero.2 λk=>I i k e.symm
      have h1:st.count i=0:=List.count_eq_zero.2 λk=>I i (Z i k) e.symm
      rw[h0,h1];split<;>omega
    · rw[if_neg (by simpa using e)]
      rcases hs with e|⟨e,_⟩
      · rw[e];simp only[List.count_nil];omega
      · rw[e];omega
end
end Go.G08
namespace Go.Lw
theorem y0g {ι:Type}{pq:Option Nat}{P:Program}{ops:Array Oper}{K:Act->World->Prop}{C:World->Prop}{fu:Nat}{listed:Array Bool}{a:Act}{w:World}{ds:List Nat}{n:Nat}{L:List (Nat×Value)}(h:AgM ds a n L)(O:List (Nat×Value))(_hs:Sub O L)(D:Array Bool)(J:Nat)(M:ι->List (Nat×Value))(R:ι->World->Prop)
    (main:(∀(i:ι) Z I w',Z=D->AgM ds I n (O++M i)->R i w'->z1a pq P ops (z0r K) C J Z I w')->z1a pq P ops (z0r K) C fu listed a w)
    (tail:∀i I w',R i w'->AgM ds I n (O++M i)->z1a pq P ops (z0r K) C J D I w'):z1a pq P ops (z0r K) C fu listed a w:=
  main λi Z I w' e ha hr=>by subst e;exact tail i I w' hr ha
end Go.Lw
namespace Go.Proofs.YtjilcnmaefhmeaaGreatDoor
open Go.Lw Go.G21 Go.G08 _root_.Go.Proofs.Tryz
theorem j9z:BuildAt prog 107 [(0,1),(1,1),(2,1),(3,1)] [(.int .u8 0),(.bool false),(.slice none 0 0),(.slice none 0 0)]:=BuildAt.struct underlying107 (λ_=>kr) (λ_=>kr)
theorem x0n:CallOf prog 91:=mkC func91
theorem v7h:CallOf prog 200:=mkC func200
theorem y2l:z0x prog 183 3 4:=λ_ _=>kr
theorem u8l:z0x prog 296 0 0:=λ_ _=>kr
theorem u5n:z0x prog 296 1 1:=λ_ _=>kr
theorem j0t:z0x prog 296 2 2:=λ_ _=>kr
theorem k0l:z1r prog 34 1:=λ_=>kr
theorem z3s (v:Value)(l:List LId)(w0:World)(I:Sl z1f w0 v l)(hl:l.length<=100000):Rets prog 91 #[v] w0 λr w'=>∃g,r=.slice (some ⟨g,0,none⟩) l.length l.length/\w0.heap.size<=g/\Lw.Own z1f 73 w0.heap.size w' r l/\Fr [] w0 w':=by
 obtain⟨A,c,rfl,a0,hM,Z⟩:=id I;clear Z;unfold maxLen at hM;refine we [(0,.slice A l.length c)] func91 U ntmps91 U (.cons U .nil) ?_;have J:=I;refine sr (asg U (nn (sr (mv U U (lnS U underlying27 (z1e (m:=l.length) (c:=l.length) (id0) U z4u y0b U (λO w1 a1 D M z1=>(asg U (nn (sr (mv U U (mv U U ?_))))))))))));replace I:=J.ext M;refine z6c (zs:=List.replicate l.length id0) (by rw[List.length_replicate];rfl) U (by rw[List.length_replicate];exact D) I (by rw[List.length_replicate]) z4u (λw2 D q2 z2=>?_);rw[List.length_replicate]at D;exact nn (sr (mv U U (asg U (nn (rt (r1 results91 U ⟨_,rfl,O,rfl,oo,D.low oo,(M.z1 q2)⟩))))))
theorem u4k (ts:List TQ)(j:Nat):(ts.getD j tq0).2.length<=z5r (z1s ts):=by
 by_cases h:j<ts.length;have k:=y4t (z1s ts) j [] (by rw[List.length_map];exact h);have e:z3a (z1s ts) j=(ts.getD j tq0).2.length:=by
  unfold z3a;rw[List.getD,List.getD,List.getElem?_map,List.getElem?_eq_getElem h];exact List.length_map ..
 rw[List.length_nil,e]at k;omega;rw[List.getD,List.getElem?_eq_none oo];exact Nat.zero_le _
theorem j6w {o:MOp}{ths st:List LId}{th sn u:SV}{D:BdQ}(m:MQ)(j:Nat)(I:(o.y-1).toNat=j)(J:D.p=m.q.p.put o.b o.p (st++[(⟨o.y,(m.ys.getD j yq0).ct⟩:LId)])) :
    { m with q:=D,ys:=m.ys.set j ⟨true,(m.ys.getD j yq0).pl,(m.ys.getD j yq0).ct+1,false,sv0,[]⟩,ts:=m.ts.set j (u,(m.ts.getD j tq0).2++[(⟨o.b,(m.ys.getD j yq0).nw,th,sn,ths,(m.ys.getD j yq0).pes⟩:LpQ)]) }.p =
      { m.p with B:=m.p.B.put o.b o.p (st++[(⟨o.y,(m.ys.getD j yq0).p.ct⟩:LId)]),ys:=m.p.ys.set (o.y-1).toNat (mkS (m.ys.getD j yq0).p),tb:=m.p.tb.set (o.y-1).toNat (m.p.row o.y++[(⟨o.b,(m.ys.getD j yq0).p.nw,ths,(m.ys.getD j yq0).p.pe⟩:Lp)]) }:=by
  unfold MSt.row
  rw[I]
  have M:(z1s m.ts).getD j []=(m.ts.getD j tq0).2.map LpQ.p:=by
    rw[List.getD,List.getD,List.getElem?_map]
    cases m.ts[j]?<;>rfl
  simp only[MQ.p,J,List.map_set,M,List.map_append,List.map_cons,List.map_nil,mkS]
theorem v3c (wS:World)(ka:MA)(m:MQ)(o:MOp)(th:SV)(k0:List LId)(t8:Value)(st:List LId)(w0:World)(hM:MkM τd 183 wS ka w0 m)(hi:MInv m.p)(hy:1<=o.y/\o.y<=6)(hn:z3v o.b o.p=0)(g6:Lw.Own z1f 73 wS.heap.size w0 (slv th) k0)(s6:∀k∈z0u (slv th),k∉z0u (slv m.fa))(b6:Sl z1f w0 t8 st)(hs:st=[]\/(st=m.q.p.at o.b o.p/\st.length<4)):Rets prog 149 #[.pointer (some ⟨ka.gk,0,none⟩),opV o,.slice th.1 th.2.1 th.2.2,t8] w0 λr w'=>MRet τd 183 wS ka (x0h m.p o k0 st) r w':=by
 have A8:=hM.fr.size;have J:=hM.k;have A2:=J.lt;have A3:=hM.ly;have p1:=hM.lt;have y8:=(hM.y.out.blk ka.gy (by simp[z0u])).2;obtain⟨j,hj,A5⟩:∃j:Nat,j<6/\o.y=(j:Int)+1:=⟨(o.y-1).toNat,oo,oo⟩;have r9:(o.y-1).toNat=j:=by omega
 have l5:m.p.y o.y=(m.ys.getD j yq0).p:=by rw[j7m,r9]
 obtain⟨AS,cS,rfl,A0⟩:=b6.form;have A4:=z2p hn;obtain⟨n,i1⟩:∃n:Nat,o.p=(n:Int):=⟨o.p.toNat,oo⟩;have hv:BdOk m.q.p:=hi.B;have A7:st.length<=3:=by rcases hs with e|⟨_,e⟩;rw[e];simp;omega
 have y5:z5r (z1s m.ts)<=2048:=hi.all;have y9:=hM.gk;have s4:∀k∈z0u (slv (m.ts.getD j tq0).1),k<w0.heap.size:=λk J=>((hM.t.ins j (by rw[p1];exact hj)).blk k J).2;have k4:ka.gk∉z0u (slv th):=λhb=>g6.neB hM.k dd hb;have k5:ka.gy∉z0u (slv th):=λhb=>Own.neO hM.y.out g6 dd ka.gy (by simp[z0u]) hb;have k6:∀k∈z0u (slv th),k<w0.heap.size:=λk J=>(g6.blk k J).2;refine we [(0,.pointer (some ⟨ka.gk,0,none⟩)),(1,opV o),(2,.slice th.1 th.2.1 th.2.2),(3,.slice AS st.length cS)] func149 U ntmps149 U (.c4 U U U U) ?_;have h8:=hM;have s5:=b6;refine sr (bx U (λg5 w1 A1 I q1 z1=>(asg U (nn (jn (ι:=Nat×Nat) [(0,_),(2,_),(3,_),(5,_)] (λp=>[(9,.pointer (some ⟨p.1,0,none⟩)),(10,.pointer (some ⟨p.2,0,none⟩)),(11,.int .i64 (mkE (m.ys.getD j yq0).p))]) (λp w'=>Fr [] w1 w'/\∃(qn:YQ) (e2:Int) (e3:Bool) (sn:SV) (d0:List Pa),(w1.heap.size<=p.1/\w1.heap.size<=p.2/\((mkE (m.ys.getD j yq0).p)=0->qn=(⟨true,(m.ys.getD j yq0).pl,(m.ys.getD j yq0).ct+1,false,sv0,[]⟩:YQ)/\e2=(m.ys.getD j yq0).ct/\e3=(m.ys.getD j yq0).nw/\d0=(m.ys.getD j yq0).pes))/\Blk w' p.1 95 (z2z.enc qn)/\Blk w' p.2 296 [.int .i64 e2,.bool e3,.slice sn.1 sn.2.1 sn.2.2]/\OwnIf ((mkE (m.ys.getD j yq0).p)=0) z2f 97 (max wS.heap.size w1.heap.size) w' (slv sn) d0) (.c4 U U U U) ?_ ?_)))));replace hM:=h8.ext q1;intro a h;refine z0h none (λwb w'=>Fr [] wb w') z2m ?_;intro w2 q2;have z2:=q2.size;replace hM:=hM.ext q2;replace J:=J.ext (q1.n1 q2);replace I:=I.ext q2;have hC:Fr [] w2 w2:=Fr.refl _ _;have d1:=hM;have b9:=J;have b3:=I;refine y0g (ι:=(Nat×Nat)×YQ×(Int×Bool)×SV×List Pa) h [(0,_),(2,_),(3,_),(5,_)] (.c4 U U U U) #[true,true,true,true,true,true,true,true,true,true,true,true,true,true,true,true,false,false,false] 3 (λp=>[(9,.pointer (some ⟨p.1.1,0,none⟩)),(10,.pointer (some ⟨p.1.2,0,none⟩)),(26,.agg #[.bool p.2.1.inn,.int .i64 p.2.1.pl,.int .i64 p.2.1.ct,.bool p.2.1.nw,.slice p.2.1.pe.1 p.2.1.pe.2.1 p.2.1.pe.2.2]),(27,.agg #[.int .i64 p.2.2.1.1,.bool p.2.2.1.2,.slice p.2.2.2.1.1 p.2.2.2.1.2.1 p.2.2.2.1.2.2]),(28,.int .i64 (mkE (m.ys.getD j yq0).p))]) (λp w'=>Fr [] w2 w'/\(w2.heap.size<=p.1.1/\w2.heap.size<=p.1.2/\p.1.1≠p.1.2)/\((mkE (m.ys.getD j yq0).p)=0->p.2.1=(⟨true,(m.ys.getD j yq0).pl,(m.ys.getD j yq0).ct+1,false,sv0,[]⟩:YQ)/\p.2.2.1.1=(m.ys.getD j yq0).ct/\p.2.2.1.2=(m.ys.getD j yq0).nw/\p.2.2.2.2=(m.ys.getD j yq0).pes/\p.1.1∉z0u (slv p.2.2.2.1)/\p.1.2∉z0u (slv p.2.2.2.1))/\Blk w' p.1.1 95 [.bool false,.int .i64 0,.int .i64 0,.bool false,.slice none 0 0]/\Blk w' p.1.2 296 [.int .i64 0,.bool false,.slice none 0 0]/\OwnIf ((mkE (m.ys.getD j yq0).p)=0) z2f 97 (max wS.heap.size w2.heap.size) w' (slv p.2.2.2.1) p.2.2.2.2) (λf1=>?_) ?_;refine z0e 0 h U λa h=>z0l 1 h U λa h=>z0c 2 h U z3e U λa h=>z0j 3 h U (λ_ hw=>b9.ext hw) U y3q U λa h=>z0c 4 h U z3l U λa h=>z0j 5 h U (λ_ hw=>b3.ext hw) U na5 U λa h=>z2t 6 h wn U (by first|exact IntWalk.u8_in _ oo|rfl) U λa h=>z1g (p:=j) (yq0) 7 h U hM.y.out.sl U y4b U λy3 r6 a h=>z2o (cs:=z2z.enc (m.ys.getD j yq0)) 8 h wn U (λ_ hw=>r6 _ (d1.ext hw).y.out.sl) z6y U λa h=>y9w 9 14 15 kr U U U ?_ ?_ ?_;refine z0o h (z0a U z0g) v7h (y0h (m.ys.getD j yq0) _ (hM.y.ins j oo).sl (λk J=>((hM.y.ins j oo).blk k J).2)) ?_;rintro _ w3 ⟨qn,e2,e3,sn,d0,rfl,a5,q3⟩ a h;have z3:=q3.size;replace hM:=hM.ext q3;replace J:=J.ext q3;replace I:=I.ext q3;replace hC:=hC.next q3;have M:OwnIf ((mkE (m.ys.getD j yq0).p)=0) z2f 97 _ _ (slv sn) d0:=λhc=>(a5 hc).2.2.2.2;have e1:=λhc k J=>((M hc).blk k J).2;refine z0b (z0e 10 h U λa h=>z0n 11 h U λa h=>z0n 12 h U λa h=>z0n 13 h U λa h=>z1y 14 15 kr U ?_ ?_);refine z0w h y3c U λw4 O q4 hz a h=>?_;obtain⟨b0,hg⟩:∃g,g=w3.heap.size:=⟨_,rfl⟩;rw[<-hg]at O h hz;have c9.gk_9:ka.gk<b0:=by have:=J.lt;omega
 have i0:g5<b0:=by have:=I.lt;omega
 have z4:=q4.size;replace J:=J.ext q4;replace I:=I.ext q4;replace hC:=hC.next q4;refine z0b (z0d 15 U (z0w h x3j U λw5 D q5 hz a h=>?_));obtain⟨a6,hg⟩:∃g,g=w4.heap.size:=⟨_,rfl⟩;rw[<-hg]at D h hz;have c9.gk_10:ka.gk<a6:=by have:=J.lt;omega
 have f8:g5<a6:=by have:=I.lt;omega
 have j0:b0<a6:=by have:=O.lt;omega
 have z5:=q5.size;replace M:=M.ext (q4.n1 q5);replace O:=O.ext q5;replace hC:=hC.next q5;exact z0b (f1 ((b0,a6),qn,(e2,e3),sn,d0) _ _ _ kr (h.sub (.d8 U U U U U U U U (.cons U .nil))) ⟨hC,⟨sm,sm,sm⟩,(λe=>⟨(a5 e).1,(a5 e).2.1,(a5 e).2.2.1,(a5 e).2.2.2.1,(λa2=>by have b8:=e1 e _ a2;have a9:=(M e).blk _ a2;simp only at b8 a9;omega),(λa2=>by have b8:=e1 e _ a2;have a9:=(M e).blk _ a2;simp only at b8 a9;omega)⟩),O,D,(λe=>(M e).low oo)⟩);refine z0w h x3j U λw6 D q6 hz a h=>?_;obtain⟨a6,hg⟩:∃g,g=w3.heap.size:=⟨_,rfl⟩;rw[<-hg]at D h hz;have c9.gk_10:ka.gk<a6:=by have:=J.lt;omega
 have f8:g5<a6:=by have:=I.lt;omega
 have z6:=q6.size;replace J:=J.ext q6;replace I:=I.ext q6;replace hC:=hC.next q6;refine z0b (z0d 14 U (z0w h y3c U λw7 O q7 hz a h=>?_));obtain⟨b0,hg⟩:∃g,g=w6.heap.size:=⟨_,rfl⟩;rw[<-hg]at O h hz;have c9.gk_9:ka.gk<b0:=by have:=J.lt;omega
 have i0:g5<b0:=by have:=I.lt;omega
 have i9:a6<b0:=by have:=D.lt;omega
 have z7:=q7.size;replace M:=M.ext (q6.n1 q7);replace D:=D.ext q7;replace hC:=hC.next q7;exact z0b (f1 ((b0,a6),qn,(e2,e3),sn,d0) _ _ _ kr (h.sub (.d8 U U U U U U U U (.cons U .nil))) ⟨hC,⟨sm,sm,sm⟩,(λe=>⟨(a5 e).1,(a5 e).2.1,(a5 e).2.2.1,(a5 e).2.2.2.1,(λa2=>by have b8:=e1 e _ a2;have a9:=(M e).blk _ a2;simp only at b8 a9;omega),(λa2=>by have b8:=e1 e _ a2;have a9:=(M e).blk _ a2;simp only at b8 a9;omega)⟩),O,D,(λe=>(M e).low oo)⟩);refine z0w h y3c U λw8 O q8 hz a h=>?_;obtain⟨b0,hg⟩:∃g,g=w2.heap.size:=⟨_,rfl⟩;rw[<-hg]at O h hz;have c9.gk_9:ka.gk<b0:=by have:=J.lt;omega
 have i0:g5<b0:=by have:=I.lt;omega
 have z8:=q8.size;replace hM:=hM.ext q8;replace J:=J.ext q8;replace I:=I.ext q8;replace hC:=hC.next q8;refine z0b (z1y 9 15 kr U ?_ ?_);refine z0o h (z0a U z0g) v7h (y0h (m.ys.getD j yq0) _ (hM.y.ins j oo).sl (λk J=>((hM.y.ins j oo).blk k J).2)) ?_;rintro _ w9 ⟨qn,e2,e3,sn,d0,rfl,a5,q9⟩ a h;have z9:=q9.size;replace J:=J.ext q9;replace I:=I.ext q9;replace O:=O.ext q9;replace hC:=hC.next q9;have M:OwnIf ((mkE (m.ys.getD j yq0).p)=0) z2f 97 _ _ (slv sn) d0:=λhc=>(a5 hc).2.2.2.2;have e1:=λhc k J=>((M hc).blk k J).2;refine z0b (z0e 10 h U λa h=>z0n 11 h U λa h=>z0n 12 h U λa h=>z0n 13 h U λa h=>z0d 15 U (z0w h x3j U λB1 D o1 hz a h=>?_));obtain⟨a6,hg⟩:∃g,g=w9.heap.size:=⟨_,rfl⟩;rw[<-hg]at D h hz;have c9.gk_10:ka.gk<a6:=by have:=J.lt;omega
 have f8:g5<a6:=by have:=I.lt;omega
 have j0:b0<a6:=by have:=O.lt;omega
 have E5:=o1.size;replace O:=O.ext o1;replace M:=M.ext o1;replace hC:=hC.next o1;exact z0b (f1 ((b0,a6),qn,(e2,e3),sn,d0) _ _ _ kr (h.sub (.d8 U U U U U U U U (.cons U .nil))) ⟨hC,⟨sm,sm,sm⟩,(λe=>⟨(a5 e).1,(a5 e).2.1,(a5 e).2.2.1,(a5 e).2.2.2.1,(λa2=>by have b8:=e1 e _ a2;have a9:=(M e).blk _ a2;simp only at b8 a9;omega),(λa2=>by have b8:=e1 e _ a2;have a9:=(M e).blk _ a2;simp only at b8 a9;omega)⟩),O,D,(λe=>(M e).low oo)⟩);refine z0w h x3j U λB2 D l9 hz a h=>?_;obtain⟨a6,hg⟩:∃g,g=w8.heap.size:=⟨_,rfl⟩;rw[<-hg]at D h hz;have c9.gk_10:ka.gk<a6:=by have:=J.lt;omega
 have f8:g5<a6:=by have:=I.lt;omega
 have j0:b0<a6:=by have:=O.lt;omega
 have E6:=l9.size;replace hM:=hM.ext l9;replace J:=J.ext l9;replace hC:=hC.next l9;refine z0b (z0d 9 U (z0o h (z0a U z0g) v7h (y0h (m.ys.getD j yq0) _ (hM.y.ins j oo).sl (λk J=>((hM.y.ins j oo).blk k J).2)) ?_));rintro _ B3 ⟨qn,e2,e3,sn,d0,rfl,a5,m0⟩ a h;have E7:=m0.size;replace J:=J.ext m0;replace O:=O.ext (l9.n1 m0);replace D:=D.ext m0;replace hC:=hC.next m0;have M:OwnIf ((mkE (m.ys.getD j yq0).p)=0) z2f 97 _ _ (slv sn) d0:=λhc=>(a5 hc).2.2.2.2;have e1:=λhc k J=>((M hc).blk k J).2;refine z0b (z0e 10 h U λa h=>z0n 11 h U λa h=>z0n 12 h U λa h=>z0n 13 h U λa h=>?_);exact f1 ((b0,a6),qn,(e2,e3),sn,d0) _ _ _ kr (h.sub (.d8 U U U U U U U U (.cons U .nil))) ⟨hC,⟨sm,sm,sm⟩,(λe=>⟨(a5 e).1,(a5 e).2.1,(a5 e).2.2.1,(a5 e).2.2.2.1,(λa2=>by have b8:=e1 e _ a2;have a9:=(M e).blk _ a2;simp only at b8 a9;omega),(λa2=>by have b8:=e1 e _ a2;have a9:=(M e).blk _ a2;simp only at b8 a9;omega)⟩),O,D,(λe=>(M e).low oo)⟩;refine z0w h x3j U λx2 D m4 hz a h=>?_;obtain⟨a6,hg⟩:∃g,g=w2.heap.size:=⟨_,rfl⟩;rw[<-hg]at D h hz;have c9.gk_10:ka.gk<a6:=by have:=J.lt;omega
 have f8:g5<a6:=by have:=I.lt;omega
 have E8:=m4.size;replace hM:=hM.ext m4;replace J:=J.ext m4;replace I:=I.ext m4;replace hC:=hC.next m4;refine z0b (z1y 9 14 kr U ?_ ?_);refine z0o h (z0a U z0g) v7h (y0h (m.ys.getD j yq0) _ (hM.y.ins j oo).sl (λk J=>((hM.y.ins j oo).blk k J).2)) ?_;rintro _ x3 ⟨qn,e2,e3,sn,d0,rfl,a5,m5⟩ a h;have E9:=m5.size;replace J:=J.ext m5;replace I:=I.ext m5;replace D:=D.ext m5;replace hC:=hC.next m5;have M:OwnIf ((mkE (m.ys.getD j yq0).p)=0) z2f 97 _ _ (slv sn) d0:=λhc=>(a5 hc).2.2.2.2;have e1:=λhc k J=>((M hc).blk k J).2;refine z0b (z0e 10 h U λa h=>z0n 11 h U λa h=>z0n 12 h U λa h=>z0n 13 h U λa h=>z0d 14 U (z0w h y3c U λB4 O o2 hz a h=>?_));obtain⟨b0,hg⟩:∃g,g=x3.heap.size:=⟨_,rfl⟩;rw[<-hg]at O h hz;have c9.gk_9:ka.gk<b0:=by have:=J.lt;omega
 have i0:g5<b0:=by have:=I.lt;omega
 have i9:a6<b0:=by have:=D.lt;omega
 have F0:=o2.size;replace D:=D.ext o2;replace M:=M.ext o2;replace hC:=hC.next o2;exact z0b (f1 ((b0,a6),qn,(e2,e3),sn,d0) _ _ _ kr (h.sub (.d8 U U U U U U U U (.cons U .nil))) ⟨hC,⟨sm,sm,sm⟩,(λe=>⟨(a5 e).1,(a5 e).2.1,(a5 e).2.2.1,(a5 e).2.2.2.1,(λa2=>by have b8:=e1 e _ a2;have a9:=(M e).blk _ a2;simp only at b8 a9;omega),(λa2=>by have b8:=e1 e _ a2;have a9:=(M e).blk _ a2;simp only at b8 a9;omega)⟩),O,D,(λe=>(M e).low oo)⟩);refine z0w h y3c U λB5 O k9 hz a h=>?_;obtain⟨b0,hg⟩:∃g,g=x2.heap.size:=⟨_,rfl⟩;rw[<-hg]at O h hz;have c9.gk_9:ka.gk<b0:=by have:=J.lt;omega
 have i0:g5<b0:=by have:=I.lt;omega
 have i9:a6<b0:=by have:=D.lt;omega
 have F1:=k9.size;replace hM:=hM.ext k9;replace J:=J.ext k9;replace I:=I.ext k9;replace D:=D.ext k9;replace hC:=hC.next k9;refine z0b (z0d 9 U (z0o h (z0a U z0g) v7h (y0h (m.ys.getD j yq0) _ (hM.y.ins j oo).sl (λk J=>((hM.y.ins j oo).blk k J).2)) ?_));rintro _ B6 ⟨qn,e2,e3,sn,d0,rfl,a5,hq⟩ a h;have F2:=hq.size;replace hM:=hM.ext hq;replace J:=J.ext hq;replace I:=I.ext hq;replace D:=D.ext hq;replace O:=O.ext hq;replace hC:=hC.next hq;have A9:=hq;have M:OwnIf ((mkE (m.ys.getD j yq0).p)=0) z2f 97 _ _ (slv sn) d0:=λhc=>(a5 hc).2.2.2.2;have e1:=λhc k J=>((M hc).blk k J).2;refine z0b (z0e 10 h U λa h=>z0n 11 h U λa h=>z0n 12 h U λa h=>z0n 13 h U λa h=>?_);exact f1 ((b0,a6),qn,(e2,e3),sn,d0) _ _ _ kr (h.sub (.d8 U U U U U U U U (.cons U .nil))) ⟨hC,⟨sm,sm,sm⟩,(λe=>⟨(a5 e).1,(a5 e).2.1,(a5 e).2.2.1,(a5 e).2.2.2.1,(λa2=>by have b8:=e1 e _ a2;have a9:=(M e).blk _ a2;simp only at b8 a9;omega),(λa2=>by have b8:=e1 e _ a2;have a9:=(M e).blk _ a2;simp only at b8 a9;omega)⟩),O,D,(λe=>(M e).low oo)⟩;rintro⟨⟨b0,a6⟩,qn,⟨e2,e3⟩,sn,d0⟩ a w18 ⟨hC,⟨p6,l6,hz910⟩,a5,O,D,M⟩ h;simp only at p6 l6 hz910 a5 O D M;have o3:=hC;have F3:=o3.size;replace J:=J.ext o3;replace I:=I.ext o3;refine z0d 16 U (z0t h U O U z7d ?_ (h1:=(by first|(simp[Value.oneCell',S];done)|exact z2z.one (m.ys.getD j yq0))));clear h a;intro x4 i8 j7 hz a h;have F5:=j7.size;replace J:=J.fr j7;replace I:=I.fr j7;replace D:=D.fr j7;replace M:=M.fr j7 (by intro l3 k J a2;simp at J;subst J;first|exact(a5 l3).2.2.2.2.1 a2|exact(a5 l3).2.2.2.2.2 a2);replace hC:=hC.sp j7;clear O hz;have O:Blk x4 b0 _ [_,_,_,_,_]:=i8;clear i8;refine z0b (z0d 17 U (z0t h U D U x2i ?_ (h1:=(by first|(simp[Value.oneCell',S];done)|exact z2z.one (m.ys.getD j yq0)))));clear h a;intro x5 i8 j8 hz a h;have F6:=j8.size;replace J:=J.fr j8;replace I:=I.fr j8;replace O:=O.fr j8;replace M:=M.fr j8 (by intro l3 k J a2;simp at J;subst J;first|exact(a5 l3).2.2.2.2.1 a2|exact(a5 l3).2.2.2.2.2 a2);replace hC:=hC.sp j8;clear D hz;have D:Blk x5 a6 _ [_,_,_]:=i8;clear i8;refine z0b (z0d 18 U (z0s h U λa h=>?_));refine z0b (z0q ?_);clear hC d1 b9 b3;exact bk (h.sub (L':=[(0,_),(2,_),(3,_),(5,_),(9,_),(10,_),(11,_)]) (.c7 U U U U U U U)) (jE ((b0,a6)) (.c7 U U U U U U U) ⟨(q2.z3 o3 j7 j8),⟨qn,e2,e3,sn,d0,⟨sm,sm,λe=>⟨(a5 e).1,(a5 e).2.1,(a5 e).2.2.1,(a5 e).2.2.2.1⟩⟩,O,D,λe=>(M e).low oo⟩⟩);rintro⟨g9,f2⟩ B7 ⟨h4,⟨qn,e2,e3,sn,d0,⟨p6,l6,a5⟩,O,D,M⟩⟩;have F7:=h4.size;have u2:=O.lt;have s8:=D.lt;simp only at p6 l6 O D;refine kpC [(0,_),(2,_),(3,_),(5,_),(9,.pointer (some ⟨g9,0,none⟩)),(10,.pointer (some ⟨f2,0,none⟩)),(11,.int .i64 (mkE (m.ys.getD j yq0).p))] (.c7 U U U U U U U) (sq (sr (mv U U (ne' U (nn (cd U (λc0=>?_) (λc0=>?_)))))));refine sr (mv U U (asg U (kpL [(8,_)] (.cons U .nil) (nn (rt (tr (r1 results149 U ?_)))))));replace hM:=h8.ext (q1.n1 h4);exact⟨_,rfl,MRet.err (by unfold x0h;rw[l5,if_pos c0]) c0 hM.fr⟩;replace J:=J.ext (q1.n1 h4);have l4:(mkE (m.ys.getD j yq0).p)=0:=Classical.not_not.1 c0;obtain⟨rfl,rfl,rfl,rfl⟩:=a5 l4;replace M:=M l4;have g0:=λk J=>(M.blk k J).2;obtain⟨m9,n8,n7⟩:=j0x hi hy hs (by rw[l5];exact l4);rw[l5]at m9 n8 n7;refine sk (tn (sq (sr (mv U U (nlc U (fad U y2l (z0i U J U x3s ?_)))))));replace hM:=h8.ext (q1.n1 h4);refine cl (ev1 U) (mkC func201) (y3l _ m.ts _ hM.t.at.1 hM.t.at.2 oo) U ?_;rintro _ B8 ⟨rfl,e7⟩;have F8:=e7.size;refine ge' U U (kpL [(0,_),(2,_),(3,_),(5,_),(9,_),(10,_),(37,_)] (.c7 U U U U U U U) (nn (cd U (λc1=>?_) (λc1=>?_))));refine sr (asg U (kpL [(8,_)] (.cons U .nil) (nn (rt (tr (r1 results149 U ?_))))));replace hM:=h8.ext (q1.n2 h4 e7);exact⟨_,rfl,MRet.err (by unfold x0h;rw[l5,if_neg (λe=>e l4),if_pos (show 2048<=z5r m.p.tb by have:m.p.tb=z1s m.ts:=rfl;rw[this];omega)]) dd hM.fr⟩;refine sk (tn (sr (fad U z3l ?_)));replace I:=I.ext (h4.n1 e7);refine z0i U I U na5 (fad U u8l ?_);replace D:=D.ext e7;refine z0i U D U na3 (z1p (cs:=[_,_]) (ev2 U) j3j (z0f U (z0f U z0p)) U ?_);refine al y0b U (λf9 B9 y6 a4 f4 F9=>?_);refine z0k (vs:=[_,_]) U a4 z9m (λC0 a4 f5 G0=>?_) (h1:=(by first|(simp[Value.oneCell',S];done)|exact z2z.one (m.ys.getD j yq0)));refine kpL [(0,_),(2,_),(3,_),(5,_),(9,_),(10,_),(12,_)] (.c7 U U U U U U U) (nn (sr (fad U z3g (y7l U z6u U ?_))));replace I:=(I.ext f4).fr f5;refine z0i U I U x9j (fad U u5n ?_);replace D:=(D.ext f4).fr f5;refine z0i U D U na4 (mv U U (fad U j0t (z0i U D U x3t (z1p (cs:=[_,_,_,_]) (ev4 U) j9z (z0f U (z0f U (z0f U (z0f U z0p)))) U ?_))));refine al x4h U (λf3 C1 y7 a0 e8 G1=>?_);refine z0k (vs:=[_,_,_,_]) U a0 v0o (λp9 a0 e9 G2=>?_) (h1:=(by first|(simp[Value.oneCell',S];done)|exact z2z.one (m.ys.getD j yq0)));refine kpL [(0,_),(3,_),(5,_),(9,_),(12,_),(13,_)] (.c6 U U U U U U) (nn (jn (ι:=Nat) [(0,_),(5,_),(9,_),(13,_)] (λg_=>[(14,.pointer (some ⟨g_,0,none⟩)),(11,.int .i64 0)]) (λg_ w'=>Fr [] p9 w'/\∃q':BdQ,(p9.heap.size<=g_/\q'.p=m.q.p.put o.b o.p (st++[(⟨o.y,(m.ys.getD j yq0).ct⟩:LId)]))/\Blk w' g_ 50 (bdL q')/\BdO 27 73 (max wS.heap.size p9.heap.size) w' q') (.c4 U U U U) ?_ ?_));replace hM:=h8.ext (q1.z6 h4 e7 f4 f5 e8 e9);replace J:=(((J.ext (e7.n1 f4)).fr f5).ext e8).fr e9;replace b6:=s5.ext (q1.z6 h4 e7 f4 f5 e8 e9);replace I:=(I.ext e8).fr e9;replace O:=(((O.ext (e7.n1 f4)).fr f5).ext e8).fr e9;replace D:=(D.ext e8).fr e9;replace M:=(((M.ext (e7.n1 f4)).fr f5 (by intro k J a2;simp at J;subst J;have a9:=M.blk _ a2;have k8:=g0 _ a2;omega)).ext e8).fr e9 (by intro k J a2;simp at J;subst J;have a9:=M.blk _ a2;have k8:=g0 _ a2;omega);replace a4:=(a4.ext e8).fr e9;intro a h;refine z0h none (λwb w'=>Fr [] wb w') z2m ?_;intro d7 g7;have G3:=g7.size;replace hM:=hM.ext g7;replace J:=J.ext g7;replace b6:=b6.ext g7;replace I:=I.ext g7;replace O:=O.ext g7;replace D:=D.ext g7;replace M:=M.ext g7;replace a4:=a4.ext g7;replace a0:=a0.ext g7;have hC:Fr [] d7 d7:=Fr.refl _ _;have d1:=hM;have b9:=J;have p4:=b6;have b3:=I;have h9:=O;have m8:=D;have g3:=M;have k1:=a4;have d9:=a0;refine y0g (ι:=Nat×BdQ) h [(0,_),(3,_),(5,_),(9,_),(12,_),(13,_)] (.c6 U U U U U U) #[true,true,true,true,true,true,true,true,true,true,true,true,true,true,true,true,false,false] 2 (λp=>[(14,.pointer (some ⟨p.1,0,none⟩)),(65,.agg #[.slice p.2.f.1 p.2.f.2.1 p.2.f.2.2,.slice p.2.b.1 p.2.b.2.1 p.2.b.2.2]),(66,.int .i64 0)]) (λp w'=>Fr [] d7 w'/\(d7.heap.size<=p.1/\p.2.p=m.q.p.put o.b o.p (st++[(⟨o.y,(m.ys.getD j yq0).ct⟩:LId)]))/\Blk w' p.1 50 [.slice none 0 0,.slice none 0 0]/\BdO 27 73 (max wS.heap.size d7.heap.size) w' p.2) (λj6=>?_) ?_;refine y0g (ι:=(Nat×Nat)×Nat) h [(0,_),(3,_),(5,_),(9,_),(12,_),(13,_)] (.c6 U U U U U U) #[true,true,true,true,true,true,true,true,true,true,false,false,false,false,false,true,false,false] 7 (λp=>[(56,.agg #[.slice m.q.f.1 m.q.f.2.1 m.q.f.2.2,.slice m.q.b.1 m.q.b.2.1 m.q.b.2.2]),(58,.agg #[.int .u8 o.b,.int .i64 o.p]),(60,.slice (some ⟨p.1.1,0,none⟩) st.length st.length),(62,.slice (some ⟨p.1.2,0,none⟩) 1 1),(14,.pointer (some ⟨p.2,0,none⟩))]) (λp w'=>Fr [] d7 w'/\(d7.heap.size<=p.1.1/\d7.heap.size<=p.1.2)/\Lw.Own z1f 73 d7.heap.size w' (.slice (some ⟨p.1.1,0,none⟩) st.length st.length) st/\Lw.Own z1f 73 d7.heap.size w' (.slice (some ⟨p.1.2,0,none⟩) 1 1) [(⟨o.y,(m.ys.getD j yq0).ct⟩:LId)]/\d7.heap.size<=p.2/\Blk w' p.2 50 [.slice none 0 0,.slice none 0 0]) (λg1=>?_) ?_;refine y0g (ι:=Nat×Nat) h [(0,_),(3,_),(5,_),(9,_),(12,_),(13,_)] (.c6 U U U U U U) #[true,true,true,true,true,true,true,true,true,true,false,false,false,false,false,false,false,false] 8 (λp=>[(56,.agg #[.slice m.q.f.1 m.q.f.2.1 m.q.f.2.2,.slice m.q.b.1 m.q.b.2.1 m.q.b.2.2]),(58,.agg #[.int .u8 o.b,.int .i64 o.p]),(60,.slice (some ⟨p.1,0,none⟩) st.length st.length),(62,.slice (some ⟨p.2,0,none⟩) 1 1)]) (λp w'=>Fr [] d7 w'/\(d7.heap.size<=p.1/\d7.heap.size<=p.2)/\Lw.Own z1f 73 d7.heap.size w' (.slice (some ⟨p.1,0,none⟩) st.length st.length) st/\Lw.Own z1f 73 d7.heap.size w' (.slice (some ⟨p.2,0,none⟩) 1 1) [(⟨o.y,(m.ys.getD j yq0).ct⟩:LId)]) (λl2=>?_) ?_;refine z0e 0 h U λa h=>z0l 1 h U λa h=>z0c 2 h U z3d U λa h=>z1b (vs:=[_,_]) 3 h U (λ_ hw=>(b9.ext hw)) z4s U U λa h=>z0c 4 h U z3g U λa h=>z1b (vs:=[_,_]) 5 h U (λ_ hw=>(b3.ext hw)) z4k U U λa h=>z0e 6 h U λa h=>z0v 8 h U (λ_ hw=>k1.ext hw) z2w U λa h=>y9w 7 9 15 kr U U U ?_ ?_ ?_;refine z0o h (z0a U z0g) x0n (z3s _ st _ b6 oo) ?_;rintro _ x6 ⟨f0,rfl,k2,hX,g8⟩ a h;have G4:=g8.size;replace hM:=hM.ext g8;replace J:=J.ext g8;replace b6:=b6.ext g8;replace I:=I.ext g8;replace O:=O.ext g8;replace D:=D.ext g8;replace M:=M.ext g8;replace a4:=a4.ext g8;replace a0:=a0.ext g8;replace hC:=hC.next g8;have i7:=λk J=>(hX.blk k J).2;refine z0b (z1y 9 15 kr U ?_ ?_);refine z2y ([(⟨o.y,(m.ys.getD j yq0).ct⟩:LId)]) h (z0a U z0g) U z4u λa3 C2 hg a7 p7 hz a h=>?_;have c9.gk_62:ka.gk<a3:=by have:=J.lt;omega
 have b7:g5<a3:=by have:=I.lt;omega
 have b7:g9<a3:=by have:=O.lt;omega
 have e4:f2<a3:=by have:=D.lt;omega
 have e5:f9<a3:=by have:=a4.lt;omega
 have e6:f3<a3:=by have:=a0.lt;omega
 have G5:=p7.size;replace hX:=hX.ext p7;replace hC:=hC.next p7;exact z0b (l2 (f0,a3) _ _ _ kr (h.sub (.d8 U U U U U U U U (.c2 U U))) ⟨hC,⟨sm,sm⟩,hX.low oo,a7.low oo⟩);refine z0w h x1h U λC3 a1 i2 hz a h=>?_;obtain⟨Z,hg⟩:∃g,g=x6.heap.size:=⟨_,rfl⟩;rw[<-hg]at a1 h hz;have c9.gk_14:ka.gk<Z:=by have:=J.lt;omega
 have b4:g5<Z:=by have:=I.lt;omega
 have b4:g9<Z:=by have:=O.lt;omega
 have d4:f2<Z:=by have:=D.lt;omega
 have d5:f9<Z:=by have:=a4.lt;omega
 have d6:f3<Z:=by have:=a0.lt;omega
 have G6:=i2.size;replace J:=J.ext i2;replace I:=I.ext i2;replace O:=O.ext i2;replace D:=D.ext i2;replace a4:=a4.ext i2;replace a0:=a0.ext i2;replace hC:=hC.next i2;refine z0b (z0d 9 U (z2y ([(⟨o.y,(m.ys.getD j yq0).ct⟩:LId)]) h (z0a U z0g) U z4u λa3 C4 hg a7 o4 hz a h=>?_));have c9.gk_62:ka.gk<a3:=by have:=J.lt;omega
 have b7:g5<a3:=by have:=I.lt;omega
 have b7:g9<a3:=by have:=O.lt;omega
 have e4:f2<a3:=by have:=D.lt;omega
 have e5:f9<a3:=by have:=a4.lt;omega
 have e6:f3<a3:=by have:=a0.lt;omega
 have h7:Z<a3:=by have:=a1.lt;omega
 have G7:=o4.size;replace hX:=hX.ext (i2.n1 o4);replace a1:=a1.ext o4;replace hC:=hC.next o4;exact z0b (g1 ((f0,a3),Z) _ _ _ kr (h.sub (.d8 U U U U U U U U (.c3 U U U))) ⟨hC,⟨sm,sm⟩,hX.low oo,a7.low oo,sm,a1⟩);refine z2y ([(⟨o.y,(m.ys.getD j yq0).ct⟩:LId)]) h (z0a U z0g) U z4u λa3 x7 hg a7 h0 hz a h=>?_;have c9.gk_62:ka.gk<a3:=by have:=J.lt;omega
 have b7:g5<a3:=by have:=I.lt;omega
 have b7:g9<a3:=by have:=O.lt;omega
 have e4:f2<a3:=by have:=D.lt;omega
 have e5:f9<a3:=by have:=a4.lt;omega
 have e6:f3<a3:=by have:=a0.lt;omega
 have G8:=h0.size;replace hM:=hM.ext h0;replace J:=J.ext h0;replace b6:=b6.ext h0;replace I:=I.ext h0;replace O:=O.ext h0;replace D:=D.ext h0;replace M:=M.ext h0;replace a4:=a4.ext h0;replace a0:=a0.ext h0;replace hC:=hC.next h0;refine z0b (z1y 7 15 kr U ?_ ?_);refine z0o h (z0a U z0g) x0n (z3s _ st _ b6 oo) ?_;rintro _ C5 ⟨f0,rfl,k2,hX,o5⟩ a h;have G9:=o5.size;replace J:=J.ext o5;replace a7:=a7.ext o5;replace hC:=hC.next o5;have i7:=λk J=>(hX.blk k J).2;exact z0b (l2 (f0,a3) _ _ _ kr (h.sub (.d8 U U U U U U U U (.c2 U U))) ⟨hC,⟨sm,sm⟩,hX.low oo,a7.low oo⟩);refine z0w h x1h U λC6 a1 m6 hz a h=>?_;obtain⟨Z,hg⟩:∃g,g=x7.heap.size:=⟨_,rfl⟩;rw[<-hg]at a1 h hz;have c9.gk_14:ka.gk<Z:=by have:=J.lt;omega
 have b4:g5<Z:=by have:=I.lt;omega
 have b4:g9<Z:=by have:=O.lt;omega
 have d4:f2<Z:=by have:=D.lt;omega
 have d5:f9<Z:=by have:=a4.lt;omega
 have d6:f3<Z:=by have:=a0.lt;omega
 have r4:a3<Z:=by have:=(a7.blk a3 (by simp[z0u])).2;omega
 have H0:=m6.size;replace b6:=b6.ext m6;replace hC:=hC.next m6;refine z0b (z0d 7 U (z0o h (z0a U z0g) x0n (z3s _ st _ b6 oo) ?_));rintro _ C7 ⟨f0,rfl,k2,hX,m7⟩ a h;have H1:=m7.size;replace J:=J.ext (m6.n1 m7);replace a7:=a7.ext (m6.n1 m7);replace a1:=a1.ext m7;replace hC:=hC.next m7;have i7:=λk J=>(hX.blk k J).2;exact z0b (g1 ((f0,a3),Z) _ _ _ kr (h.sub (.d8 U U U U U U U U (.c3 U U U))) ⟨hC,⟨sm,sm⟩,hX.low oo,a7.low oo,sm,a1⟩);refine z0w h x1h U λC8 a1 h2 hz a h=>?_;obtain⟨Z,hg⟩:∃g,g=d7.heap.size:=⟨_,rfl⟩;rw[<-hg]at a1 h hz;have c9.gk_14:ka.gk<Z:=by have:=J.lt;omega
 have b4:g5<Z:=by have:=I.lt;omega
 have b4:g9<Z:=by have:=O.lt;omega
 have d4:f2<Z:=by have:=D.lt;omega
 have d5:f9<Z:=by have:=a4.lt;omega
 have d6:f3<Z:=by have:=a0.lt;omega
 have H2:=h2.size;replace hM:=hM.ext h2;replace J:=J.ext h2;replace b6:=b6.ext h2;replace I:=I.ext h2;replace O:=O.ext h2;replace D:=D.ext h2;replace M:=M.ext h2;replace a4:=a4.ext h2;replace a0:=a0.ext h2;replace hC:=hC.next h2;refine z0b (z1y 7 9 kr U ?_ ?_);refine z0o h (z0a U z0g) x0n (z3s _ st _ b6 oo) ?_;rintro _ C9 ⟨f0,rfl,k2,hX,i3⟩ a h;have H3:=i3.size;replace J:=J.ext i3;replace I:=I.ext i3;replace O:=O.ext i3;replace D:=D.ext i3;replace a4:=a4.ext i3;replace a0:=a0.ext i3;replace a1:=a1.ext i3;replace hC:=hC.next i3;have i7:=λk J=>(hX.blk k J).2;refine z0b (z0d 9 U (z2y ([(⟨o.y,(m.ys.getD j yq0).ct⟩:LId)]) h (z0a U z0g) U z4u λa3 D0 hg a7 o6 hz a h=>?_));have c9.gk_62:ka.gk<a3:=by have:=J.lt;omega
 have b7:g5<a3:=by have:=I.lt;omega
 have b7:g9<a3:=by have:=O.lt;omega
 have e4:f2<a3:=by have:=D.lt;omega
 have e5:f9<a3:=by have:=a4.lt;omega
 have e6:f3<a3:=by have:=a0.lt;omega
 have h7:Z<a3:=by have:=a1.lt;omega
 have H4:=o6.size;replace a1:=a1.ext o6;replace hX:=hX.ext o6;replace hC:=hC.next o6;exact z0b (g1 ((f0,a3),Z) _ _ _ kr (h.sub (.d8 U U U U U U U U (.c3 U U U))) ⟨hC,⟨sm,sm⟩,hX.low oo,a7.low oo,sm,a1⟩);refine z2y ([(⟨o.y,(m.ys.getD j yq0).ct⟩:LId)]) h (z0a U z0g) U z4u λa3 D1 hg a7 f6 hz a h=>?_;have c9.gk_62:ka.gk<a3:=by have:=J.lt;omega
 have b7:g5<a3:=by have:=I.lt;omega
 have b7:g9<a3:=by have:=O.lt;omega
 have e4:f2<a3:=by have:=D.lt;omega
 have e5:f9<a3:=by have:=a4.lt;omega
 have e6:f3<a3:=by have:=a0.lt;omega
 have h7:Z<a3:=by have:=a1.lt;omega
 have H5:=f6.size;replace hM:=hM.ext f6;replace J:=J.ext f6;replace b6:=b6.ext f6;replace I:=I.ext f6;replace O:=O.ext f6;replace D:=D.ext f6;replace M:=M.ext f6;replace a4:=a4.ext f6;replace a0:=a0.ext f6;replace a1:=a1.ext f6;replace hC:=hC.next f6;refine z0b (z0d 7 U (z0o h (z0a U z0g) x0n (z3s _ st _ b6 oo) ?_));rintro _ D2 ⟨f0,rfl,k2,hX,hq⟩ a h;have H6:=hq.size;replace hM:=hM.ext hq;replace J:=J.ext hq;replace b6:=b6.ext hq;replace I:=I.ext hq;replace O:=O.ext hq;replace D:=D.ext hq;replace M:=M.ext hq;replace a4:=a4.ext hq;replace a0:=a0.ext hq;replace a1:=a1.ext hq;replace a7:=a7.ext hq;replace hC:=hC.next hq;have B0:=hq;have i7:=λk J=>(hX.blk k J).2;exact z0b (g1 ((f0,a3),Z) _ _ _ kr (h.sub (.d8 U U U U U U U U (.c3 U U U))) ⟨hC,⟨sm,sm⟩,hX.low oo,a7.low oo,sm,a1⟩);rintro⟨f0,a3⟩ a x8 ⟨hC,⟨l7,l8⟩,hX,a7⟩ h;simp only at l7 l8 hX a7;have h5:=hC;have H7:=h5.size;replace hM:=hM.ext h5;replace J:=J.ext h5;replace b6:=b6.ext h5;replace I:=I.ext h5;replace O:=O.ext h5;replace D:=D.ext h5;replace M:=M.ext h5;replace a4:=a4.ext h5;replace a0:=a0.ext h5;have i7:=λk h_=>(hX.blk k h_).2;refine z1y 10 15 kr U ?_ ?_;have a8:=hX;refine z5j h U U hX a7.sl z4u U λx1 x9 hX i4 p3 a h=>?_;obtain⟨u3,u4,rfl,r7⟩:=hX.sl.form;have i7:=λk J=>(hX.blk k J).2;have H8:=i4.size;replace J:=J.fr i4 (λb5=>a8.neB J dd b5);replace I:=I.fr i4 (λb5=>a8.neB I dd b5);replace O:=O.fr i4 (λb5=>a8.neB O dd b5);replace D:=D.fr i4 (λb5=>a8.neB D dd b5);replace M:=M.fr i4 (Own.neO a8 M dd);replace a4:=a4.fr i4 (λb5=>by have:=(a8.blk _ b5).1;omega);replace a0:=a0.fr i4 (λb5=>a8.neB a0 dd b5);replace hC:=hC.step i4 (λk J p1=>absurd (a8.blk k J).1 oo);refine z0b (z1y 11 15 kr U ?_ ?_);refine z0o h (z0a U (z0a U (z0a U z0g))) x3x (by have x:=y4l m.q o.b n _ (st++[(⟨o.y,(m.ys.getD j yq0).ct⟩:LId)]) _ (d1.ext hC).b.at hX.sl hv (by rw[<-i1];exact hn) m9 n8 (by rw[<-i1];exact n7);rw[<-i1]at x;exact x) ?_;rintro _ y0 ⟨⟨q',rfl,hQ,h3⟩,q43⟩ a h;have H9:=q43.size;replace J:=J.ext q43;replace I:=I.ext q43;replace O:=O.ext q43;replace D:=D.ext q43;replace a4:=a4.ext q43;replace a0:=a0.ext q43;replace hC:=hC.next q43;refine z0b (z0e 12 h U λa h=>z0n 13 h U λa h=>z0n 14 h U λa h=>z0d 15 U (z0w h x1h U λD3 a1 o7 hz a h=>?_));obtain⟨Z,hg⟩:∃g,g=y0.heap.size:=⟨_,rfl⟩;rw[<-hg]at a1 h hz;have c9.gk_14:ka.gk<Z:=by have:=J.lt;omega
 have b4:g5<Z:=by have:=I.lt;omega
 have b4:g9<Z:=by have:=O.lt;omega
 have d4:f2<Z:=by have:=D.lt;omega
 have d5:f9<Z:=by have:=a4.lt;omega
 have d6:f3<Z:=by have:=a0.lt;omega
 have I0:=o7.size;first|replace hQ:=BdO.ext hQ o7|replace hQ:=BdO.tf hQ o7 (OffT.one a1 dd) (OffT.one a1 dd)
 replace hC:=hC.next o7;exact z0b (j6 (Z,q') _ _ _ kr (h.sub (.d8 U U U U U U U U (.cons U .nil))) ⟨hC,⟨sm,h3⟩,a1,BdO.low hQ oo⟩);refine z0w h x1h U λD4 a1 p8 hz a h=>?_;obtain⟨Z,hg⟩:∃g,g=x9.heap.size:=⟨_,rfl⟩;rw[<-hg]at a1 h hz;have c9.gk_14:ka.gk<Z:=by have:=J.lt;omega
 have b4:g5<Z:=by have:=I.lt;omega
 have b4:g9<Z:=by have:=O.lt;omega
 have d4:f2<Z:=by have:=D.lt;omega
 have d5:f9<Z:=by have:=a4.lt;omega
 have d6:f3<Z:=by have:=a0.lt;omega
 have I1:=p8.size;replace hX:=hX.ext p8;replace hC:=hC.next p8;refine z0b (z0d 11 U (z0o h (z0a U (z0a U (z0a U z0g))) x3x (by have x:=y4l m.q o.b n _ (st++[(⟨o.y,(m.ys.getD j yq0).ct⟩:LId)]) _ (d1.ext hC).b.at hX.sl hv (by rw[<-i1];exact hn) m9 n8 (by rw[<-i1];exact n7);rw[<-i1]at x;exact x) ?_));rintro _ D5 ⟨⟨q',rfl,hQ,h3⟩,q46⟩ a h;have I2:=q46.size;replace a1:=a1.ext q46;replace hC:=hC.next q46;refine z0b (z0e 12 h U λa h=>z0n 13 h U λa h=>z0n 14 h U λa h=>?_);exact j6 (Z,q') _ _ _ kr (h.sub (.d8 U U U U U U U U (.cons U .nil))) ⟨hC,⟨sm,h3⟩,a1,BdO.low hQ oo⟩;refine z0w h x1h U λD6 a1 o8 hz a h=>?_;obtain⟨Z,hg⟩:∃g,g=x8.heap.size:=⟨_,rfl⟩;rw[<-hg]at a1 h hz;have c9.gk_14:ka.gk<Z:=by have:=J.lt;omega
 have b4:g5<Z:=by have:=I.lt;omega
 have b4:g9<Z:=by have:=O.lt;omega
 have d4:f2<Z:=by have:=D.lt;omega
 have d5:f9<Z:=by have:=a4.lt;omega
 have d6:f3<Z:=by have:=a0.lt;omega
 have I3:=o8.size;replace hX:=hX.ext o8;replace a7:=a7.ext o8;replace hC:=hC.next o8;exact z0b (g1 ((f0,a3),Z) _ _ _ kr (h.sub (.d8 U U U U U U U U (.c3 U U U))) ⟨hC,⟨sm,sm⟩,hX.low oo,a7.low oo,sm,a1⟩);rintro⟨⟨f0,a3⟩,Z⟩ a w48 ⟨hC,⟨l7,l8⟩,hX,a7,k7,a1⟩ h;simp only at l7 l8 hX a7 k7 a1;have j1:=hC;have I4:=j1.size;replace J:=J.ext j1;replace I:=I.ext j1;replace O:=O.ext j1;replace D:=D.ext j1;replace M:=M.ext j1;replace a4:=a4.ext j1;replace a0:=a0.ext j1;have i7:=λk h_=>(hX.blk k h_).2;refine z0d 10 U ?_;have a8:=hX;refine z5j h U U hX a7.sl z4u U λx1 D7 hX h6 p3 a h=>?_;obtain⟨u3,u4,rfl,r7⟩:=hX.sl.form;have i7:=λk J=>(hX.blk k J).2;have I5:=h6.size;replace J:=J.fr h6 (λb5=>a8.neB J dd b5);replace I:=I.fr h6 (λb5=>a8.neB I dd b5);replace O:=O.fr h6 (λb5=>a8.neB O dd b5);replace D:=D.fr h6 (λb5=>a8.neB D dd b5);replace M:=M.fr h6 (Own.neO a8 M dd);replace a4:=a4.fr h6 (λb5=>by have:=(a8.blk _ b5).1;omega);replace a0:=a0.fr h6 (λb5=>a8.neB a0 dd b5);replace a1:=a1.fr h6 (λb5=>a8.neB a1 dd b5);replace hC:=hC.step h6 (λk J p1=>absurd (a8.blk k J).1 oo);refine z0b (z0d 11 U (z0o h (z0a U (z0a U (z0a U z0g))) x3x (by have x:=y4l m.q o.b n _ (st++[(⟨o.y,(m.ys.getD j yq0).ct⟩:LId)]) _ (d1.ext hC).b.at hX.sl hv (by rw[<-i1];exact hn) m9 n8 (by rw[<-i1];exact n7);rw[<-i1]at x;exact x) ?_));rintro _ D8 ⟨⟨q',rfl,hQ,h3⟩,q50⟩ a h;have I6:=q50.size;replace a1:=a1.ext q50;replace hC:=hC.next q50;refine z0b (z0e 12 h U λa h=>z0n 13 h U λa h=>z0n 14 h U λa h=>?_);exact j6 (Z,q') _ _ _ kr (h.sub (.d8 U U U U U U U U (.cons U .nil))) ⟨hC,⟨sm,h3⟩,a1,BdO.low hQ oo⟩;rintro⟨Z,q'⟩ a D9 ⟨hC,⟨k7,h3⟩,a1,hQ⟩ h;simp only at k7 h3 a1 hQ;have i5:=hC;have I7:=i5.size;replace J:=J.ext i5;replace I:=I.ext i5;replace O:=O.ext i5;replace D:=D.ext i5;replace M:=M.ext i5;replace a4:=a4.ext i5;replace a0:=a0.ext i5;refine z0d 16 U (z0t h U a1 U y4m ?_ (h1:=(by first|(simp[Value.oneCell',S];done)|exact z2z.one (m.ys.getD j yq0))));clear h a;intro y1 i8 f7 hz a h;have I8:=f7.size;replace J:=J.fr f7;replace I:=I.fr f7;replace O:=O.fr f7;replace D:=D.fr f7;replace M:=M.fr f7 (by intro k J a2;simp at J;subst J;have a9:=M.blk _ a2;have k8:=g0 _ a2;omega);replace a4:=a4.fr f7;replace a0:=a0.fr f7;first|replace hQ:=BdO.ext hQ f7|replace hQ:=BdO.tf hQ f7 (OffT.one a1 dd) (OffT.one a1 dd)
 replace hC:=hC.sp f7;clear a1 hz;have a1:Blk y1 Z _ [_,_]:=i8;clear i8;refine z0b (z0d 17 U (z0s h U λa h=>?_));refine z0b (z0q ?_);clear hC d1 b9 p4 b3 h9 m8 g3 k1 d9;exact bk (h.sub (L':=[(0,_),(5,_),(9,_),(11,_),(13,_),(14,_)]) (.c6 U U U U U U)) (jE (Z) (.c6 U U U U U U) ⟨(g7.z2 i5 f7),⟨q',⟨oo,h3⟩,a1,BdO.low hQ oo⟩⟩);rintro u5 E0 ⟨j2,⟨q',⟨k7,h3⟩,a1,hQ⟩⟩;have I9:=j2.size;have s9:=a1.lt;refine kpC [(0,_),(5,_),(9,_),(13,_),(14,.pointer (some ⟨u5,0,none⟩)),(11,.int .i64 0)] (.c6 U U U U U U) ?_;have u6:=x3d hQ h8.f oo;refine sq (sr (mv U U (ne' U (nn (cd U (λc2=>?_) (λc2=>?_))))));exact absurd U c2;refine sk (tn (sr (mv U U (z0m U a1 z4s (nlc U (fad U z3d ?_))))));replace hM:=h8.ext ((q1.z6 h4 e7 f4 f5 e8 e9).n1 j2);replace J:=((((J.ext (e7.n1 f4)).fr f5).ext e8).fr e9).ext j2;refine z3j (cs':=u4p ka { m with q:=q' }) U hM.k (by intro u hu;simp at hu;rcases hu with rfl|rfl<;>rfl) y4m U (λE1 s2 l0 J0=>?_);replace hM:=hM.beds mtd (hQ.low oo) s2 l0 u6;have J:=hM.k;have h8:=hM;have r5:=hM;have hF:Lw.Own z1f 73 wS.heap.size _ (slv m.fa) m.fl:=hM.f;clear s2;refine kpL [(0,_),(5,_),(9,_),(13,_)] (.c4 U U U U) (nn (sq ?_));replace I:=(((I.ext e8).fr e9).ext j2).fr l0;replace O:=(((((O.ext (e7.n1 f4)).fr f5).ext e8).fr e9).ext j2).fr l0;replace M:=(((((M.ext (e7.n1 f4)).fr f5 (by intro k J a2;simp at J;subst J;have a9:=M.blk _ a2;have k8:=g0 _ a2;omega)).ext e8).fr e9 (by intro k J a2;simp at J;subst J;have a9:=M.blk _ a2;have k8:=g0 _ a2;omega)).ext j2).fr l0 (by intro k J a2;simp at J;subst J;have a9:=M.blk _ a2;have k8:=g0 _ a2;omega);replace a0:=(a0.ext j2).fr l0;intro a h;refine z0h (some 9) (λwb w'=>Fr [] wb w') z2m ?_;intro t9 j3;have J1:=j3.size;replace hM:=hM.ext j3;replace J:=J.ext j3;replace I:=I.ext j3;replace O:=O.ext j3;replace M:=M.ext j3;replace a0:=a0.ext j3;have hC:Fr [] t9 t9:=Fr.refl _ _;have d1:=hM;have b9:=J;have b3:=I;have h9:=O;have g3:=M;have d9:=a0;refine z0e 0 h U λa h=>z0l 1 h U λa h=>z0c 2 h U z3e U λa h=>z0j 3 h U (λ_ hw=>b9.ext hw) U y3q U λa h=>z0c 4 h U z3l U λa h=>z0j 5 h U (λ_ hw=>b3.ext hw) U na5 U λa h=>z2t 6 h wn U (by first|exact IntWalk.u8_in _ oo|rfl) U λa h=>z0v 7 h U (λ_ hw=>h9.ext hw) z6y U λa h=>z1q 8 kr kr kr hC (p:=j) h wn U y4b oo oo oo U U λa h=>z0d 9 U (z1c (i:=j) ((⟨true,(m.ys.getD j yq0).pl,(m.ys.getD j yq0).ct+1,false,sv0,[]⟩:YQ):YQ) h U hM.y.out (by rw[hM.ly];exact hj) U z7d λy2 p0 j9 _hz a h=>?_);replace hM:=hM.yarn mtd hj p0 j9 (Own.nil _);have h8:=hM;clear p0;have J2:=j9.size;replace I:=I.fr j9;replace O:=O.fr j9;replace M:=M.fr j9 (by intro k J a2;simp at J;subst J;have a9:=M.blk _ a2;have k8:=g0 _ a2;omega);replace a0:=a0.fr j9;have J:=hM.k;clear _hz;refine z1m (z0q ?_);clear hC d1 b9 b3 h9 g3 d9;replace g6:=(((((((g6.ext (q1.n3 h4 e7 f4)).fr f5 (by intro k J a2;simp at J;subst J;first|exact k4 a2|exact k5 a2|(have:=k6 _ a2;omega))).ext e8).fr e9 (by intro k J a2;simp at J;subst J;first|exact k4 a2|exact k5 a2|(have:=k6 _ a2;omega))).ext j2).fr l0 (by intro k J a2;simp at J;subst J;first|exact k4 a2|exact k5 a2|(have:=k6 _ a2;omega))).ext j3).fr j9 (by intro k J a2;simp at J;subst J;first|exact k4 a2|exact k5 a2|(have:=k6 _ a2;omega));have d3:=hM.t.ins j (by rw[hM.lt];exact hj);have u9:=d3;have v8:∀k∈z0u (slv (m.ts.getD j tq0).1),k<y2.heap.size:=λk J=>(d3.blk k J).2;have A6:(m.ts.getD j tq0).2.length<=2048:=by have:=u4k m.ts j;omega
 refine bk (h.sub (L':=[(0,_),(5,_),(13,_)]) (.c3 U U U)) (tn (sq ?_));intro a h;refine z0h (some 20) (λwb w'=>Fr (z0u (slv (m.ts.getD j tq0).1)) wb w') z2m ?_;intro u0 j4;have J3:=j4.size;replace hM:=hM.ext j4;replace J:=J.ext j4;replace g6:=g6.ext j4;replace I:=I.ext j4;replace M:=M.ext j4;replace a0:=a0.ext j4;replace d3:=d3.ext j4;have hC:Fr (z0u (slv (m.ts.getD j tq0).1)) u0 u0:=Fr.refl _ _;have d1:=hM;have b9:=J;have p5:=g6;have b3:=I;have g3:=M;have d9:=a0;have e0:=d3;refine z0e 0 h U λa h=>z0l 1 h U λa h=>z0c 2 h U y2l U λa h=>z0j 3 h U (λ_ hw=>b9.fr hw (λk_=>Own.neB e0 b9 dd k_)) U x3s U λa h=>z0c 4 h U z3l U λa h=>z0j 5 h U (λ_ hw=>b3.fr hw (λk_=>Own.neB e0 b3 dd k_)) U na5 U λa h=>z2t 6 h wn U (by first|exact IntWalk.u8_in _ oo|rfl) U λa h=>z0e 7 h U λa h=>z0l 8 h U λa h=>z0c 9 h U y2l U λa h=>z0j 10 h U (λ_ hw=>b9.fr hw (λk_=>Own.neB e0 b9 dd k_)) U x3s U λa h=>z0c 11 h U z3l U λa h=>z0j 12 h U (λ_ hw=>b3.fr hw (λk_=>Own.neB e0 b3 dd k_)) U na5 U λa h=>z2t 13 h wn U (by first|exact IntWalk.u8_in _ oo|rfl) U λa h=>z1g (p:=j) (tq0) 14 h U (show Sl z4c _ ka.TV m.ts from hM.t.out.sl) U y5z U λy4 r8 a h=>z2u 15 h wn U (λ_ hw=>r8 _ (z1v d1.t.out hw (z4z e0 dd)).sl) x1u U λa h=>z0v 16 h U (λ_ hw=>d9.fr hw (λk_=>by have:=s4 _ k_;omega)) x2j U λa h=>z0d 17 U (z2y ([(⟨o.b,(m.ys.getD j yq0).nw,th,sn,k0,(m.ys.getD j yq0).pes⟩:LpQ)]) h (z0a U z0g) U x9w λj5 E2 hg p2 l1 hz a h=>?_);have c9.gk_100:ka.gk<j5:=by have:=J.lt;omega
 have s3:g5<j5:=by have:=I.lt;omega
 have q0:f3<j5:=by have:=a0.lt;omega
 have J4:=l1.size;replace hM:=hM.ext l1;replace g6:=g6.ext l1;replace M:=M.ext l1;replace d3:=d3.ext l1;replace hC:=hC.next l1;refine z0b (z0d 18 U ?_);have n9:=d3;refine z5j h U U d3 p2.sl x9w U λz0 E3 d3 o9 o0 a h=>?_;have r5:=hM;have u7:LpO τd wS.heap.size _ (⟨o.b,(m.ys.getD j yq0).nw,th,sn,k0,(m.ys.getD j yq0).pes⟩:LpQ):=⟨g6,M.low oo⟩;have v9:=z1v hM.t.out o9 (z4z n9 dd);have x0:=o9;obtain⟨AR,cR,rfl,_⟩:=d3.sl.form;have v9x:=d3;have J5:=o9.size;replace hC:=hC.step o9 (λk_ h_ _=>h_);refine z0b (z0d 19 U (y8w (p:=j) (E:=z4c) h U U y5z oo oo oo U λa h=>?_));refine z0b (z0d 20 U (z1c (i:=j) (((AR,((m.ts.getD j tq0).2++[(⟨o.b,(m.ys.getD j yq0).nw,th,sn,k0,(m.ys.getD j yq0).pes⟩:LpQ)]).length,cR),((m.ts.getD j tq0).2++[(⟨o.b,(m.ys.getD j yq0).nw,th,sn,k0,(m.ys.getD j yq0).pes⟩:LpQ)])):TQ) h U v9 (by rw[hM.lt];exact hj) U k0l λE4 s7 hq _hz a h=>?_));replace hM:=r5.row mtd (u:=(AR,((m.ts.getD j tq0).2++[(⟨o.b,(m.ys.getD j yq0).nw,th,sn,k0,(m.ys.getD j yq0).pes⟩:LpQ)]).length,cR)) hj u7 s6 v9x x0 o0 s7 hq;clear hq _hz;refine z1m (z0q ?_);clear hC d1 b9 p5 b3 g3 d9 e0;refine bk (h.sub (L':=[]) .nil) (tn (sr (asg U (nn (rt (r1 results149 U ?_))))));exact⟨_,rfl,MRet.ok (by unfold x0h;rw[l5,if_neg (λe=>e l4),if_neg (show ¬2048<=z5r m.p.tb by have:m.p.tb=z1s m.ts:=rfl;rw[this];omega)];exact congrArg Except.ok (j6w m j r9 h3).symm) hM⟩
end Go.Proofs.YtjilcnmaefhmeaaGreatDoor
namespace Go.G08
open Go.Lw Go.G21
theorem z5f (c:Cx)(l:List Cx):crM (c::l)=((c.a,c.b),.int .i64 c.n)::crM l:=rfl
theorem z8b {a b:LId}{c:Cx}:isC a b c=true↔c.a=a/\c.b=b:=by unfold isC;simp
theorem v1t (a b:LId):∀l:List Cx,(z1h (crM l) (a,b)).getD (.int .i64 0)=.int .i64 (y6g l a b)
 | []=>rfl
 | c::l=>by
  rw[z5f]
  unfold z1h y6g
  rw[List.find?_cons]
  by_cases h:c.a=a/\c.b=b
  ·rw[if_pos (by rw[<-h.1,<-h.2]),z8b.2 h];rfl
  have D:isC a b c=false:=by cases e:isC a b c;rfl;exact absurd (z8b.1 e) h
  rw[if_neg (λe=>h ⟨(Prod.mk.inj e).1.symm,(Prod.mk.inj e).2.symm⟩),D]
  exact v1t a b l
theorem v3w {a b:LId}{l:List Cx}(h:(a,b)∉(crM l).map (·.1)):∀c∈l,isC a b c=false:=λc J=>by
 cases e:isC a b c
 ·rfl
 obtain⟨D,I⟩:=z8b.1 e
 refine absurd ?_ h
 unfold crM
 rw[List.map_map]
 exact List.mem_map.2 ⟨c,J,by simp[D,I]⟩
theorem v3y (a b:LId)(n:Int):∀l:List Cx,((crM l).map (·.1)).Nodup->crM (x0m l a b n)=z1u (crM l) (a,b) (.int .i64 n)
 | [],_=>rfl
 | c::l,hn=>by
  rw[z5f,List.map_cons]at hn
  obtain⟨n1,n2⟩:=List.nodup_cons.1 hn
  have ih:=v3y a b n l n2
  by_cases h:c.a=a/\c.b=b
  ·obtain⟨D,I⟩:=h
   subst D;subst I
   have hl:l.map (λx=>if isC c.a c.b x then (⟨c.a,c.b,n⟩:Cx) else x)=l:=by
    have:=v3w (l:=l) n1
    conv=>rhs;rw[<-List.map_id l]
    refine List.map_congr_left λx hx=>?_
    rw[this x hx];rfl
   have J:isC c.a c.b c=true:=z8b.2 ⟨rfl,rfl⟩
   have O:x0m (c::l) c.a c.b n=⟨c.a,c.b,n⟩::l:=by
    unfold x0m
    rw[List.any_cons,J,Bool.true_or,if_pos U,List.map_cons,J,if_pos U,hl]
   have M:z1u (((c.a,c.b),Value.int .i64 c.n)::crM l) (c.a,c.b) (.int .i64 n)=((c.a,c.b),.int .i64 n)::crM l:=by
    unfold z1u;simp[List.findIdx?_cons]
   rw[O,z5f,z5f,M]
  have D:isC a b c=false:=by cases e:isC a b c;rfl;exact absurd (z8b.1 e) h
  have I:¬((a,b):LId×LId)=(c.a,c.b):=λe=>h ⟨(Prod.mk.inj e).1.symm,(Prod.mk.inj e).2.symm⟩
  have Z:x0m (c::l) a b n=c::x0m l a b n:=by
   unfold x0m
   rw[List.any_cons,D,Bool.false_or]
   split
   ·rw[List.map_cons,D];rfl
   rfl
  rw[Z,z5f,ih]
  unfold z1u
  rw[z5f,List.map_cons,List.findIdx?_cons,if_neg (by simpa using I)]
  cases hf:((crM l).map (·.1)).findIdx? (λx=>decide ((a,b)=x)) with
  | none=>rfl
  | some i=>rfl
theorem v5o (a b:LId):∀l:List Cx,((crM l).map (·.1)).Nodup->crM (v5d l a b)=z5e (crM l) (a,b)
 | [],_=>rfl
 | c::l,hn=>by
  rw[z5f,List.map_cons]at hn
  obtain⟨n1,n2⟩:=List.nodup_cons.1 hn
  have ih:=v5o a b l n2
  by_cases h:c.a=a/\c.b=b
  ·obtain⟨D,I⟩:=h
   subst D;subst I
   have hl:l.filter (λx=>!isC c.a c.b x)=l:=List.filter_eq_self.2 λx hx=>by
    rw[v3w (l:=l) n1 x hx];rfl
   have Z:isC c.a c.b c=true:=z8b.2 ⟨rfl,rfl⟩
   have M:v5d (c::l) c.a c.b=l:=by
    unfold v5d
    rw[List.filter_cons,Z,hl];rfl
   have J:z5e (((c.a,c.b),Value.int .i64 c.n)::crM l) (c.a,c.b)=crM l:=by
    unfold z5e;simp[List.findIdx?_cons]
   rw[M,z5f,J]
  have D:isC a b c=false:=by cases e:isC a b c;rfl;exact absurd (z8b.1 e) h
  have I:¬((a,b):LId×LId)=(c.a,c.b):=λe=>h ⟨(Prod.mk.inj e).1.symm,(Prod.mk.inj e).2.symm⟩
  have O:v5d (c::l) a b=c::v5d l a b:=by
   unfold v5d
   rw[List.filter_cons,D];rfl
  rw[O,z5f,ih]
  unfold z5e
  rw[z5f,List.map_cons,List.findIdx?_cons,if_neg (by simpa using I)]
  cases hf:((crM l).map (·.1)).findIdx? (λx=>decide ((a,b)=x)) with
  | none=>rfl
  | some i=>rfl
section
variable {α κ:Type} [DecidableEq κ] {E:Enc α} {T base g:Nat} {w w':World} {v:Value} {ys:List α} {V:κ->Value} {em:List (κ×Value)}
theorem j6k (h:Lw.Own E T base w v ys)(M:MapL V w g em)(hf:Fr [g] w w'):Lw.Own E T base w' v ys:=h.fr hf λk D J=>by
 rw[List.mem_singleton]at D;subst D
 obtain⟨cs,I⟩:=z4r h _ J
 exact M.f.ne_blk I U
theorem j5d {k:Nat}{cs:List Value}(h:Blk w k T cs)(I:MapL V w g em)(hf:Fr [g] w w'):Blk w' k T cs:=h.fr hf λD=>by
 rw[List.mem_singleton]at D;subst D
 exact I.f.ne_blk h U
end
theorem FrM.un {τ:TyK}{Mt:Nat}{wS w w':World}{a:MA}(h:FrM τ Mt wS { a with wk:=w } w')(D:FrM τ Mt wS a w):FrM τ Mt wS a w':=⟨h.fr,D.kp.trans h.kp⟩
theorem MkM.gcne {τ:TyK}{Mt:Nat}{wS w:World}{a:MA}{m:MQ}(h:MkM τ Mt wS a w m){k T:Nat}{cs:List Value}(hb:Blk w k T cs):k≠a.gc:=λe=>by
 subst e;exact h.c.f.ne_blk hb U
theorem KpM.own {α:Type}{E:Enc α}{D:List Nat}{g T base:Nat}{w w':World}{v:Value}{ys:List α}(h:KpM D g w w')(ho:Lw.Own E T base w v ys)(hg:∀k∈z0u v,k≠g)(O:T∉D):Lw.Own E T base w' v ys:=by
 rcases ho with ho|⟨k,cap,cur,rfl,I,J,M⟩
 exact .inl ho;have Z:Blk w k T cur.toList:=J;exact .inr ⟨k,cap,cur,rfl,I,h.blk Z (hg k (by simp[z0u])) O,M⟩
theorem MkM.gcneO {τ:TyK}{Mt:Nat}{wS w:World}{a:MA}{m:MQ}{α:Type}{E:Enc α}{T base:Nat}{v:Value}{ys:List α}(h:MkM τ Mt wS a w m)(ho:Lw.Own E T base w v ys):∀k∈z0u v,k≠a.gc:=λk I=>by
 obtain⟨cs,D⟩:=z4r ho k I
 exact h.gcne D
theorem y7o {p:MSt}{d:Int}:∀ {l l':List Yn},l'.length=l.length->(∀j,j<l.length->z8g p d (l.getD j yn0)=.ok (l'.getD j yn0))->z4v p d l=.ok l'
 | [],[],_,_=>rfl
 | [],_::_,h,_=>by simp at h
 | _::_,[],h,_=>by simp at h
 | y::l,y'::l',hl,h=>by
  have D:=h 0 sp0
  simp only[List.getD_cons_zero]at D
  have I:=y7o (p:=p) (d:=d) (l:=l) (l':=l') (by simpa using hl) λj J=>by
   have:=h (j+1) so
   simpa only[List.getD_cons_succ] using this
  unfold z4v
  rw[D,I]
theorem y7d {p:MSt}{d e:Int}:∀ {l:List Yn} {i:Nat},i<l.length->(∀j,j<i->∃I,z8g p d (l.getD j yn0)=.ok I)->z8g p d (l.getD i yn0)=.error e->z4v p d l=.error e
 | y::l,0,_,_,h=>by
  simp only[List.getD_cons_zero]at h
  unfold z4v;rw[h]
 | y::l,i+1,hi,hj,h=>by
  obtain⟨I,D⟩:=hj 0 oo
  simp only[List.getD_cons_zero]at D
  have J:=y7d (p:=p) (d:=d) (e:=e) (l:=l) (i:=i) (by simpa using hi) (λj M=>by
   have:=hj (j+1) oo
   simpa only[List.getD_cons_succ] using this) (by simpa only[List.getD_cons_succ] using h)
  unfold z4v
  rw[D,J]
theorem y2c {c:Cx}:∀ {r l l':List Cx},z5y l r=.ok l'->z5y l (r++[c])=x2n l' c
 | [],l,l',h=>by
  cases h
  show z5y l [c]=x2n l c
  unfold z5y
  cases x2n l c<;>rfl
 | x::r,l,l',h=>by
  rw[List.cons_append]
  unfold z5y at h ⊢
  cases e:x2n l x with
  | error e'=>rw[e]at h;cases h
  | ok l1=>rw[e]at h;simp only at h ⊢;exact y2c h
theorem x3g {e:Int}:∀ {r l:List Cx} (s:List Cx),z5y l r=.error e->z5y l (r++s)=.error e
 | [],l,s,h=>by cases h
 | x::r,l,s,h=>by
  rw[List.cons_append]
  unfold z5y at h ⊢
  cases e1:x2n l x with
  | error e'=>rw[e1]at h;exact h
  | ok l1=>rw[e1]at h;simp only at h ⊢;exact x3g s h
theorem k0k {B:Bd}{r d:Int}:∀c∈z4h B r d,-1<=c.n/\c.n<=1:=by
 have I:∀i,∀c∈v0c B r d i,-1<=c.n/\c.n<=1:=λi c D=>by
  obtain⟨k,_,J⟩:=List.mem_flatMap.1 D;obtain⟨x,_,M⟩:=List.mem_flatMap.1 J;obtain⟨o,_,rfl⟩:=List.mem_map.1 M;unfold x9e;split<;>(simp only;omega)
 intro c D;unfold z4h at D;split at D;exact I _ c (List.mem_reverse.1 D);exact I _ c D
theorem j6s {D:Int}(h:v1k D):¬Int.tmod D 2=0/\-9223372036854775808<=D/\D<=9223372036854775807:=by
 unfold v1k at h;omega
def y2w (p:MSt)(d:Int):MR:=match z4v p d p.ys with
  | .error e=>.error e
  | .ok ys=>match z5y p.cr (z4h p.B p.rk d) with
    | .error e=>.error e
    | .ok cr=>.ok { p with ys:=ys,cr:=cr }
def j1s (p:MSt)(c:Cx):MR:=match x2n p.cr c with
  | .error e=>.error e
  | .ok l=>.ok { p with cr:=l }
abbrev z5t (c:Cx):LId×LId:=if 0<z6n c.a c.b then (c.b,c.a) else (c.a,c.b)
section
variable {τ:TyK} {Mt:Nat} {wS w w':World} {a:MA} {m:MQ} {l:List Cx}
theorem MkM.cross (h:MkM τ Mt wS a w m)(Z:MapL crK w' a.gc (crM l))(hf:Fr [a.gc] w w'):MkM τ Mt wS a w' { m with cr:=l }:=by
 have o:∀ {α:Type} {E:Enc α} {T b:Nat} {v:Value} {ys:List α},Lw.Own E T b w v ys->Lw.Own E T b w' v ys:=λO=>j6k O h.c hf;refine⟨j5d h.k h.c hf,⟨⟨o h.b.f.1,λp J=>o (h.b.f.2 p J)⟩,⟨o h.b.b.1,λp J=>o (h.b.b.2 p J)⟩⟩,⟨o h.y.out,λi D=>o (h.y.ins i D)⟩,⟨o h.t.out,λi D=>o (h.t.ins i D),h.t.off,λi D q M=>⟨o (h.t.lps i D q M).1,o (h.t.lps i D q M).2⟩⟩,Z,o h.f,h.fb,h.ft,h.ly,h.lt,h.gk,h.gc,h.fr.step hf (λk I=>.inl (List.mem_singleton.1 I)) λk I a0=>?_⟩;rw[List.mem_singleton]at I;have:=h.gc;omega
end
theorem u0s {a b:LId}{l:List Cx}(h:∀c∈l,-1048576<=c.n/\c.n<=1048576):-1048576<=y6g l a b/\y6g l a b<=1048576:=by
 unfold y6g;cases e:l.find? (isC a b) with
 | none=>simp
 | some c=>exact h c (List.mem_of_find?_eq_some e)
theorem v3e (l:List Cx)(c:Cx):x2n l c=if y6g l (z5t c).1 (z5t c).2+c.n < -1048576\/1048576<y6g l (z5t c).1 (z5t c).2+c.n then .error 3 else if y6g l (z5t c).1 (z5t c).2+c.n=0 then .ok (v5d l (z5t c).1 (z5t c).2) else .ok (x0m l (z5t c).1 (z5t c).2 (y6g l (z5t c).1 (z5t c).2+c.n)):=rfl
theorem x5y (p:MSt)(c:Cx):j1s p c=if y6g p.cr (z5t c).1 (z5t c).2+c.n < -1048576\/1048576<y6g p.cr (z5t c).1 (z5t c).2+c.n then .error 3 else if y6g p.cr (z5t c).1 (z5t c).2+c.n=0 then .ok { p with cr:=v5d p.cr (z5t c).1 (z5t c).2 } else .ok { p with cr:=x0m p.cr (z5t c).1 (z5t c).2 (y6g p.cr (z5t c).1 (z5t c).2+c.n) }:=by
 unfold j1s;rw[v3e];generalize y6g p.cr (z5t c).1 (z5t c).2+c.n=n;by_cases h1:n < -1048576\/1048576<n;rw[if_pos h1,if_pos h1];rw[if_neg h1,if_neg h1];by_cases h2:n=0;rw[if_pos h2,if_pos h2];rw[if_neg h2,if_neg h2]
end Go.G08
namespace Go.Proofs.YtjilcnmaefhmeaaGreatDoor
open Go.Lw Go.G21 Go.G08 _root_.Go.Proofs.Tryz
theorem j0y (wS:World)(ka:MA)(m:MQ)(o:MOp)(w0:World)(hM:MkM τd 183 wS ka w0 m)(hi:MInv m.p)(hy:1<=o.y/\o.y<=6)(hn:z3v o.b o.p=0):Rets prog 95 #[.pointer (some ⟨ka.gk,0,none⟩),opV o] w0 λr w'=>MRet τd 183 wS ka (y2k m.p o) r w':=by
 have d0:=hM.fr.size;have b3:=hM.gk;have b5:=hM.k.lt;refine we [(0,.pointer (some ⟨ka.gk,0,none⟩)),(1,opV o)] func95 U ntmps95 U (.c2 U U) ?_;have M:=hM;refine sr (bx U (λg3 w1 b9 D q1 z1=>(asg U (nn (sr (mv U U (z0m U D y3g ?_)))))));replace hM:=M.ext q1;refine cl (ev2 U) (mkC func147) (x5s wS ka m o _ hM hi hy hn) U ?_;rintro _ w2 ⟨rfl,q2⟩;have z2:=q2.size;refine mv U U (xt U (xt U (xt U (asg U (asg U (asg U (kpL [(0,_),(3,_),(5,_),(6,_),(7,_)] (.c5 U U U U U) (nn (sq (sr (mv U U (ne' U (nn (cd U (λc0=>?_) (λc0=>?_)))))))))))))));refine sr (mv U U (asg U (kpL [(4,_)] (.cons U .nil) (nn (rt (tr (r1 results95 U ?_)))))));replace hM:=M.ext (q1.n1 q2);exact⟨_,rfl,MRet.err (by unfold y2k;rw[if_pos c0]) c0 hM.fr⟩;have J:z8f m.p o=0:=Classical.not_not.1 c0;refine sk (tn (sq (sr (mv U U (fad U z3l ?_)))));replace D:=D.ext q2;refine z0i U D U na5 (mv U U (mv U U ?_));replace hM:=M.ext (q1.n1 q2);have a3:=hM.fr;refine cl (z0a U (z0a U (z0a U (z0a U z0g)))) (mkC func148) (x5w wS { ka with wk:=w2 } m o.y (if z8f m.p o=0 then v0t m.p o else 0) (if z8f m.p o=0 then (z4g o.b o.p m.rk) else 0) _ hM.mark hi hy) U ?_;intro _ w3 hR;obtain⟨rfl,a1,m1,a9⟩:=hR.split;have z3:=a1.kp.size;simp only at z3;replace D:=a1.kp.blk D (by have:=hM.gcne D;exact this) dd;refine asg U (kpL [(0,_),(3,_),(8,_)] (.c3 U U U) (nn (sr (mv U U (ne' U (nn (cd U (λc1=>?_) (λc1=>?_))))))));exact sr (mv U U (asg U (nn (rt (tr (r1 results95 U ⟨_,rfl,MRet.err (by have hx:=y1h c1;unfold y2k;rw[if_neg c0];rw[if_pos J,if_pos J]at hx;rw[hx,if_pos J,if_pos J]) c1 (a1.un a3)⟩))))));obtain⟨a8,a2⟩:=a9 (Classical.not_not.1 c1);rw[if_pos J,if_pos J]at a2;obtain⟨a4,b8,c9⟩:=y2p hi hy a2;obtain⟨⟨hf,hb⟩,h4,a7⟩:=z3t a4.B;replace hM:=a8.unmark a3;have M:=hM;have hk:=hM.k;have b4:=hk.lt;refine sk (tn (sq ?_));intro a h;refine z0h (some 9) (λwb w'=>Fr [] wb w') z2m ?_;intro w4 q4;have z4:=q4.size;replace D:=D.ext q4;replace hM:=hM.ext q4;replace hk:=hk.ext q4;have hC:Fr [] w4 w4:=Fr.refl _ _;have I:=D;have Z:=hM;have a0:=hk;refine z0e 0 h U λa h=>z0v 1 h U (λ_ hw=>I.ext hw) y3g U λa h=>z0e 2 h U λa h=>z0l 3 h U λa h=>z0c 4 h U z3d U λa h=>z1b (vs:=[_,_]) 5 h U (λ_ hw=>(a0.ext hw)) z4s U U λa h=>z0c 6 h U z3g U λa h=>z1b (vs:=[_,_]) 7 h U (λ_ hw=>(I.ext hw)) z4k U U λa h=>z0d 8 U (z0o h (z0a U (z0a U z0g)) u5f (x2r m1.q o.b o.p _ hM.b.at (by have:=z2p hn;omega) hf hb h4 a7) ?_);rintro d1 w5 ⟨O,hq⟩ a h;have z5:=hq.size;replace D:=D.ext hq;replace hM:=hM.ext hq;replace hk:=hk.ext hq;replace hC:=hC.next hq;have q5:=hq;rw[y1c hn]at O;obtain⟨a5,a6,rfl,b0⟩:=O.sl.form;refine z0b (z0d 9 U (z0o h (z0a U (z0a U (z0a U (z0a U z0g)))) (mkC func149) (v3c wS ka m1 o (a5,(m1.q.p.at o.b o.p).length,a6) (m1.q.p.at o.b o.p) (.slice none 0 0) [] _ hM a4 hy hn (O.low oo) (λk hk hb=>by have b6:=(O.blk k hk).1;have b7:=(Z.f.blk k hb).2;omega) (Sl.nil _) (.inl U)) ?_));rintro d3 w6 hR a h;refine z1m (z0d 10 U (z0s h U λa h=>?_));refine z1m (z0q ?_);clear hC I Z a0;exact bk (h.sub (L':=[(4,_)]) (.cons U .nil)) (tn (rt (r1 results95 U ⟨_,rfl,by rw[show y2k m.p o=_ from by unfold y2k;rw[if_neg c0,a2]];exact hR⟩)))
theorem j0n (wS:World)(ka:MA)(m:MQ)(o:MOp)(w0:World)(hM:MkM τd 183 wS ka w0 m)(hi:MInv m.p)(hy:1<=o.y/\o.y<=6)(hn:z3v o.b o.p=0):Rets prog 96 #[.pointer (some ⟨ka.gk,0,none⟩),opV o] w0 λr w'=>MRet τd 183 wS ka (y0v m.p o) r w':=by
 have c9:=hM.fr.size;have b0:=hM.gk;have b4:=hM.k.lt;refine we [(0,.pointer (some ⟨ka.gk,0,none⟩)),(1,opV o)] func96 U ntmps96 U (.c2 U U) ?_;have M:=hM;refine sr (bx U (λg3 w1 b8 D q1 z1=>(asg U (nn (sr (mv U U (z0m U D y3g ?_)))))));replace hM:=M.ext q1;refine cl (ev2 U) (mkC func147) (x5s wS ka m o _ hM hi hy hn) U ?_;rintro _ w2 ⟨rfl,q2⟩;refine mv U U (xt U (xt U (xt U (asg U (asg U (asg U (kpL [(0,_),(3,_),(5,_),(6,_),(7,_)] (.c5 U U U U U) (nn (sq (sr (mv U U (ne' U (nn (cd U (λc0=>?_) (λc0=>?_)))))))))))))));refine sr (mv U U (asg U (kpL [(4,_)] (.cons U .nil) (nn (rt (tr (r1 results96 U ?_)))))));replace hM:=M.ext (q1.n1 q2);exact⟨_,rfl,MRet.err (by unfold y0v;rw[if_pos c0]) c0 hM.fr⟩;have I:z8f m.p o=0:=Classical.not_not.1 c0;refine sk (tn (sq (sr (mv U U (fad U z3l ?_)))));replace D:=D.ext q2;refine z0i U D U na5 (mv U U (mv U U ?_));replace hM:=M.ext (q1.n1 q2);have a4:=hM.fr;refine cl (z0a U (z0a U (z0a U (z0a U z0g)))) (mkC func148) (x5w wS { ka with wk:=w2 } m o.y (if z8f m.p o=0 then v0t m.p o else 0) (if z8f m.p o=0 then (z4g o.b o.p m.rk) else 0) _ hM.mark hi hy) U ?_;intro _ w3 hR;obtain⟨rfl,a1,m1,a8⟩:=hR.split;have z3:=a1.kp.size;simp only at z3;replace D:=a1.kp.blk D (by have:=hM.gcne D;exact this) dd;refine asg U (kpL [(0,_),(3,_),(8,_)] (.c3 U U U) (nn (sr (mv U U (ne' U (nn (cd U (λc1=>?_) (λc1=>?_))))))));exact sr (mv U U (asg U (nn (rt (tr (r1 results96 U ⟨_,rfl,MRet.err (by have hx:=y1h c1;unfold y0v;rw[if_neg c0];rw[if_pos I,if_pos I]at hx;rw[hx,if_pos I,if_pos I]) c1 (a1.un a4)⟩))))));obtain⟨a7,O⟩:=a8 (Classical.not_not.1 c1);rw[if_pos I,if_pos I]at O;obtain⟨a5,b7,b9⟩:=y2p hi hy O;obtain⟨⟨hf,hb⟩,h4,a6⟩:=z3t a5.B;replace hM:=a7.unmark a4;have M:=hM;have Z:=hM.k;have b3:=Z.lt;refine sk (tn (sq ?_));intro a h;refine z0h none (λwb w'=>Fr [] wb w') z2m ?_;intro w4 q4;replace D:=D.ext q4;replace hM:=hM.ext q4;replace Z:=Z.ext q4;have hC:Fr [] w4 w4:=Fr.refl _ _;have J:=D;have a3:=hM;have a0:=Z;refine z0e 0 h U λa h=>z0l 1 h U λa h=>z0c 2 h U z3d U λa h=>z1b (vs:=[_,_]) 3 h U (λ_ hw=>(a0.ext hw)) z4s U U λa h=>z0c 4 h U z3g U λa h=>z1b (vs:=[_,_]) 5 h U (λ_ hw=>(J.ext hw)) z4k U U λa h=>z0d 6 U (z0o h (z0a U (z0a U z0g)) u5f (x2r m1.q o.b o.p _ hM.b.at (by have:=z2p hn;omega) hf hb h4 a6) ?_);rintro d0 w5 ⟨a2,hq⟩ a h;replace D:=D.ext hq;replace hM:=hM.ext hq;replace Z:=Z.ext hq;replace hC:=hC.next hq;have q5:=hq;rw[y1c hn]at a2;obtain⟨b5,b6,rfl,a9⟩:=a2.sl.form;refine z0b (z0d 7 U (z0s h U λa h=>?_));refine z0b (z0q ?_);clear hC J a3 a0;refine bk (h.sub (L':=[(0,_),(3,_),(9,_)]) (.c3 U U U)) (tn (sq (sr (mv U U (lnS U underlying27 (ge' U U (nn (cd U (λc2=>?_) (λc2=>?_)))))))));exact sr (asg U (nn (rt (tr (r1 results96 U ⟨_,rfl,MRet.err (by unfold y0v;rw[if_neg c0,O];simp only;rw[if_pos (show 4<=(m1.q.p.at o.b o.p).length by omega)]) dd hM.fr⟩)))));refine sk (tn (sr (mv U U (z0m U D y3g (mv U U (cl (z0a U (z0a U (z0a U (z0a U z0g)))) (mkC func149) (v3c wS ka m1 o sv0 [] _ (m1.q.p.at o.b o.p) _ hM a5 hy hn (Own.nil _) (λk Z=>by cases Z) a2.sl (.inr ⟨rfl,oo⟩)) U ?_))))));rintro d1 w6 hR;exact asg U (kpL [(4,_)] (.cons U .nil) (nn (rt (r1 results96 U ⟨_,rfl,by rw[show y0v m.p o=x0h m1.p o [] (m1.q.p.at o.b o.p) from by unfold y0v;rw[if_neg c0,O];simp only;rw[if_neg (show ¬4<=(m1.q.p.at o.b o.p).length by omega)]];exact hR⟩))))
end Go.Proofs.YtjilcnmaefhmeaaGreatDoor
