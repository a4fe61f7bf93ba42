/- Texts of the proof, joined. -/
import Derived.Test.YtjilcnmaefhmeaaGreatDoorRows
import Derived.Shelf.Strings.Builder1
import Derived.Shelf.Strings.Builder2
import Derived.Shelf.Strings.OnBuilder
import Derived.Shelf.Strings.Trim
import Derived.Shelf.Small.Utf8
import Derived.Shelf.Small.Bits
import Derived.Shelf.Small.Strs
import Derived.Shelf.Strconv.Atoi
import Derived.Shelf.Strconv.Itoa0
import Derived.Shelf.Strconv.Itoa1
import Derived.Shelf.LaysM
import Derived.Shelf.Strconv.Itoa2
import Derived.Shelf.Strconv.Itoa3
import Derived.Shelf.Strconv.AtoiErrFast
import Derived.Shelf.Strconv.ParseIntEmpty
import Derived.Shelf.Strconv.AtoiFail
import Derived.Shelf.Strconv.Clone
import Derived.Shelf.Strconv.SyntaxError
import Derived.Shelf.LaysC
import Derived.Shelf.Strconv.ToError
import Derived.Shelf.Strconv.AtoiErr
import Derived.Shelf.Strconv.ErrVar
import Derived.Shelf.Strconv.Lower
import Derived.Shelf.Strconv.ParseUint10
import Derived.Shelf.Strconv.ParseUint10Empty
import Derived.Shelf.Strconv.ParseUint10Any
import Derived.Shelf.Strconv.ParseInt10
import Derived.Shelf.Strconv.AtoiLong
import Derived.Shelf.Strconv.AtoiInnerAll
import Derived.Shelf.Strconv.RangeError
import Derived.Shelf.Strconv.ToErrorRange
import Derived.Shelf.Strconv.AtoiAll
import Derived.Shelf.Strconv.ErrVarAll
import Derived.Shelf.Strings.Search1
import Derived.Shelf.Strings.Search2
import Derived.Shelf.Strings.Search3
import Derived.Shelf.Strings.Cut
import Derived.Shelf.Strings.Count
import Derived.Shelf.Strings.Shaped
import Derived.Shelf.Strings.Split
import Derived.Shelf.Strings.SplitShaped
import Derived.Shelf.Strings.Runes
import Derived.Shelf.Strings.AsciiSet
import Derived.Shelf.Unicode.DecodeSlow
import Derived.Shelf.Unicode.DecodeAny
import Derived.Ground.Names2Prog
import Derived.Shelf.Slices.SearchI
import Derived.Test.YtjilcnmaefhmeaaGreatDoorProg
import Derived.Lib.ItoaLen
import Derived.Lib.LaidTab
import Derived.LaidSub
import Derived.Test.YtjilcnmaefhmeaaGreatDoorCards
import Derived.Test.YtjilcnmaefhmeaaGreatDoorTie
import Derived.ChangeMaps5
import Derived.OpenShut
import Derived.Test.YtjilcnmaefhmeaaGreatDoorZE6
set_option linter.unusedVariables false
set_option linter.unusedSimpArgs false
set_option maxHeartbeats 4000000
namespace Go.Proofs.YtjilcnmaefhmeaaGreatDoor
open Go.Lw Go.G21 Go.G08 Go.G09 _root_.Go.Proofs.Tryz
theorem v1o:z3q prog 141 3:=⟨λ_=>kr,λ_=>kr⟩
theorem k2f:BuildAt prog 141 [(0,1),(1,1),(2,1)] [(.map none),(.map none),(.map none)]:=BuildAt.struct underlying141 (λ_=>kr) (λ_=>kr)
theorem u0c:z0y prog 141 1 1:=λ_ _=>kr
theorem x7g:z0y prog 141 2 2:=λ_ _=>kr
theorem j7o:z2c prog 138:=λ_=>kr
theorem j2b:z2c prog 139:=λ_=>kr
theorem v7q:z1q prog 141 3:=λ_=>kr
theorem y4c (w:World):(zeroValue 141).run prog w=.ok (.agg #[(.map none),(.map none),(.map none)]) w:=kr
theorem k3e (p q:Int×Int)(w:World):(Op.equal 45 (ndK p) (ndK q)).run prog w=.ok (decide (p=q)) w:=by
 have h:=(k0p p q (.tmp 0) (.tmp 0) w).2.2.1;have e:(binOp .eql 45 (ndV p) (ndV q)).run prog w=((Op.equal 45 (ndV p) (ndV q)).run prog w).andThen λb w'=>.ok (.bool b) w':=by
  have D:binOp .eql 45 (ndV p) (ndV q)=(Op.equal 45 (ndV p) (ndV q) >>= λb=>pure (.bool b)):=by
   unfold binOp ndV;simp only
  rw[D];simp only[Sem.run_bind,Sem.run_pure]
 rw[e]at h;show (Op.equal 45 (ndV p) (ndV q)).run prog w=_;generalize (Op.equal 45 (ndV p) (ndV q)).run prog w=r at h;cases r with
 | ok b w'=>simp only[Result.andThen]at h;cases h;rfl
 | halt x w'=>simp only[Result.andThen]at h;cases h
theorem y5u:KeyLaw prog 45 ndK:=KeyLaw.asking underlying45 (λ_ _=>rfl) (λ_ _ _=>kr) k3e (λ_=>by simp[Instr.sameBits])
theorem k3m (w:World):(zeroValue 73).run prog w=.ok (.agg #[.int .u8 0,.int .i64 0]) w:=kr
theorem y1m (q:BdQ)(r:Int)(w0:World)(hB:BdAt w0 q)(hv:BdOk q.p)(hr:-4<=r/\r<=4):Rets prog 124 #[.agg #[.slice q.f.1 q.f.2.1 q.f.2.2,.slice q.b.1 q.b.2.1 q.b.2.2],.int .i64 r] w0 λv w'=>(∃m1 m2 m3,v=.agg #[.map (some m1),.map (some m2),.map (some m3)]/\w0.heap.size<=m1/\w0.heap.size<=m2/\w0.heap.size<=m3/\MapL idV w' m1 (atM (z2n q.p r) r)/\MapF ndK w' m2 (y5c (vwB q.p r))/\MapL ndK w' m3 (y1k (vwB q.p r)))/\Fr [] w0 w':=by
 obtain⟨⟨hf,hb⟩,h4,f1⟩:=z3w hv;refine we [(0,.agg #[.slice q.f.1 q.f.2.1 q.f.2.2,.slice q.b.1 q.b.2.1 q.b.2.2]),(1,.int .i64 r)] func124 U ntmps124 U (.c2 U U) ?_;have e1:=hB;refine sr (bx U (λg2 w1 f2 d1 q1 z1=>(al y4c U (λg4 w2 f3 b8 q2 z2=>(nn (sr (y7h idV U (λb7 w3 e7 M q3 z3=>(z8y ndK U (λb3 w4 e8 O q4 z4=>(y7h ndK U (λa4 w5 e9 I q5 z5=>?_))))))))))));refine z1y (cs:=[_,_,_]) (ev3 U) k2f (z0g U (z0g U (z0g U z0s))) U ?_;refine al y4c U (λg5 w6 f4 D q6 z6=>?_);refine z0k (vs:=[_,_,_]) U D v7q (λw7 D q7 z7=>?_) (h1:=(by first|(simp[Value.oneCell',S];done)|exact z3l.one _));refine nn (sr ?_);replace d1:=(d1.ext (q2.n4 q3 q4 q5 q6)).fr q7;refine z0n U d1 z4w (mv U U ?_);replace hB:=e1.ext (q1.z6 q2 q3 q4 q5 q6 q7);refine cl (ev2 U) (mkC func117) (v0j q _ _ hB hv hr) U ?_;rintro _ w8 ⟨⟨e0,l,n,d4,f7,f6,rfl,f0,hH⟩,q8⟩;have z8:=q8.size;have e2:=(hH.blk e0 (by simp[z0u])).2;have e3:(l.map Hd.id).Nodup:=by rw[d4];exact(z8e q.p r).nodup_iff.2 hv.nd
 refine mv U U (xt U (xt U (asg U (asg U (kpL [(1,_),(4,_),(5,_),(6,_)] (.c4 U U U U) (nn (sq (sr (mv U U (lnS U underlying202 (mv U U (nn (bl ?_)))))))))))));replace M:=((M.ext (q4.n2 q5 q6)).fr q7 so).ext q8;replace O:=((O.ext (q5.n1 q6)).fr q7 so).ext q8;replace I:=((I.ext q6).fr q7 so).ext q8;refine lpK (ι:=Nat) [(1,_),(4,_),(5,_),(20,_),(21,_)] (λi=>[(22,.int .i64 (i:Int))]) (λi w'=>Fr [b7,b3,a4] w8 w'/\i<=n/\MapL idV w' b7 (atM (l.take i) r)/\MapF ndK w' b3 (y5c ⟨l.take i,r⟩)/\MapL ndK w' a4 (y1k ⟨l.take i,r⟩)) (λi=>n-i) 0 (.c6 U U U U U U) ⟨Fr.refl _ _,⟨Nat.zero_le _,⟨M,O,I⟩⟩⟩ ?_;rintro i w9 ⟨q9,⟨hi,⟨M,O,I⟩⟩⟩;have z9:=q9.size;refine kpC [(1,_),(4,_),(5,_),(20,_),(21,_),(22,_)] (.c6 U U U U U U) (sr (lt' U (nn (sq (cd U (λc0=>?_) (λc0=>?_))))));have b9:i<l.length:=by omega
 obtain⟨f8,_,_⟩:=y5p (r:=r) (h:=l.getD i hd0) hv (by have x:=z0z (d:=hd0) b9;rw[<-d4];exact x);have e4:=u8d ⟨l.take i,r⟩ (ndH (l.getD i hd0));simp only[List.length_take]at e4;have b4:=x3l ⟨l.take i,r⟩ (ndH (l.getD i hd0));refine sk (tn (sq (bl (sr ?_))));replace hH:=hH.fr q9 (by intro k hk hb;simp[z0u]at hk hb;omega);refine z1d (hd0) U hH.sl U z3g z1g (λe6 d6=>?_);refine z1l U (d6 _ hH.sl) z4z (al v6g U (λg9 f9 f5 J b5 h3=>?_));refine z0k (vs:=[_,_,_,_,_]) U J z8l (λg0 J b6 h5=>?_) (h1:=(by first|(simp[Value.oneCell',S];done)|exact z3l.one _));refine nn (sq ?_);replace D:=(((D.ext q8).fr q9).ext b5).fr b6;replace M:=(M.ext b5).fr b6 so;intro a h;refine z0h (some 8) (λwb w'=>Fr [] wb w') z2m ?_;intro d7 a3;have h6:=a3.size;replace D:=D.ext a3;replace M:=M.ext a3;replace J:=J.ext a3;have hC:Fr [] d7 d7:=Fr.refl _ _;have a0:=D;have d5:=M;have Z:=J;refine z0c 0 h U y9y U λa h=>z0j 1 h U (λ_ hw=>a0.ext hw) U v1h U λa h=>z0c 2 h U y9x U λa h=>z1a (vs:=[_,_]) 3 h U (λ_ hw=>(Z.ext hw)) z2y U U λa h=>z0c 4 h U y9e U λa h=>z1a (vs:=[_,_]) 5 h U (λ_ hw=>(Z.ext hw)) z4k U U λa h=>z0e 6 h U λa h=>z0d 7 U (z0o h (z0a U (z0a U z0f)) (mkC func166) (v6c _ _ _ _ (by assumption) oo) ?_);rintro _ g1 ⟨rfl,a2⟩ a h;have h7:=a2.size;replace D:=D.ext a2;replace M:=M.ext a2;replace J:=J.ext a2;replace hC:=hC.next a2;refine z0b (z0d 8 U (y3c (V:=idV) (k:=(l.getD i hd0).id) (v:=.int .i64 (z8p (l.getD i hd0).b (l.getD i hd0).n r)) h U U U M z4a underlying137 λg3 d3 a5 _hz a h=>?_));rw[u4q e3 b9]at d3;clear M;have M:=d3;clear d3;have h8:=a5.size;replace D:=D.fr a5;replace J:=J.fr a5;clear _hz;refine z1m (z0p ?_);clear hC a0 d5 Z;refine bk (h.sub (L':=[(1,_),(4,_),(5,_),(9,_),(20,_),(21,_),(22,_)]) (.c7 U U U U U U U)) (tn (sr (fad U u0c (z0i U D U j7o (fad U y9e (z1w (vs:=[_,_]) U J z4k U (fad U y9x (z1w (vs:=[_,_]) U J z2y U ?_))))))));replace O:=(((O.ext b5).fr b6 so).ext (a3.n1 a2)).fr a5 so;refine y4s (V:=ndK) (k:=ndH (l.getD i hd0)) U U U O y5u underlying138 (λe5 O a6 h9=>?_);replace O:MapF ndK e5 b3 (y5c ⟨l.take (i+1),r⟩):=by rw[<-v1y b9];exact O
 refine kpL [(1,_),(4,_),(5,_),(9,_),(20,_),(21,_),(22,_)] (.c7 U U U U U U U) (nn ?_);replace D:=D.fr a6;replace I:=((((I.ext b5).fr b6 so).ext (a3.n1 a2)).fr a5 so).fr a6 so;replace J:=J.fr a6;intro a h;refine z0h none (λwb w'=>Fr [a4] wb w') z2m ?_;intro d9 a1;have i0:=a1.size;replace D:=D.ext a1;replace I:=I.ext a1;replace J:=J.ext a1;have hC:Fr [a4] d9 d9:=Fr.refl _ _;have a0:=D;have c1:=I;have Z:=J;refine z0c 0 h U x7g U λa h=>z0j 1 h U (λ_ hw=>a0.fr hw se) U j2b U λa h=>z0c 2 h U y9e U λa h=>z1a (vs:=[_,_]) 3 h U (λ_ hw=>(Z.fr hw se)) z4k U U λa h=>z1x 4 6 kr U ?_ ?_;refine z6j (V:=ndK) (k:=ndH (l.getD i hd0)) (f:=z1h _) (v:=.int .i64 (((⟨l.take i,r⟩:Vw).on (ndH (l.getD i hd0))).length:Int)) h U U I.f y5u underlying139 zvI b4 U λa h=>z0b (z4m 5 h U (by first|exact i6 oo|rfl) U λa h=>z0d 6 U (y3v (V:=ndK) (k:=ndH (l.getD i hd0)) h U U I y5u underlying139 zvI U λg6 st m' he c9 a7 _hz a h=>?_));replace I:=he.l;replace b4:=c9.2.trans b4;have i1:=a7.size;replace D:=D.fr a7;replace J:=J.fr a7;replace hC:=hC.sp a7;clear _hz;refine z0b (z0m 7 h U λa h=>z0d 8 U (y0m (v:=.int .i64 (((⟨l.take i,r⟩:Vw).on (ndH (l.getD i hd0))).length+1)) h U U U he ?_));clear h a I;intro g7 I a8 _hz a h;rw[c9.1,y8f b9]at I;have i2:=a8.size;replace D:=D.fr a8;replace J:=J.fr a8;replace hC:=hC.sp a8;clear _hz;refine z0b (z0p ?_);clear hC a0 c1 Z;refine bk (h.sub (L':=[(1,_),(4,_),(5,_),(20,_),(21,_),(22,_)]) (.c6 U U U U U U)) (bn' (tn (rg (z1b U (wi6 oo) (mv U U (nl ?_))))));replace M:=(((M.fr a6 so).ext a1).fr a7 so).fr a8 so;replace O:=((O.ext a1).fr a7 so).fr a8 so;exact lpE (i+1) (.c6 U U U U U U) ⟨((((Fr.refl [b7,b3,a4] _).z6 q9 b5 b6 a3 a2 a5).z1 a6).z3 a1 a7 a8),⟨oo,⟨M,O,I⟩⟩⟩ oo;refine y3v (V:=ndK) (k:=ndH (l.getD i hd0)) h U U I y5u underlying139 zvI U λg8 st m' he c9 a9 _hz a h=>?_;replace I:=he.l;replace b4:=c9.2.trans b4;have i3:=a9.size;replace D:=D.fr a9;replace J:=J.fr a9;replace hC:=hC.sp a9;clear _hz;refine z0b (z0m 7 h U λa h=>z0d 4 U (z6j (V:=ndK) (k:=ndH (l.getD i hd0)) (f:=z1h _) (v:=.int .i64 (((⟨l.take i,r⟩:Vw).on (ndH (l.getD i hd0))).length:Int)) h U U I.f y5u underlying139 zvI b4 U λa h=>?_));refine z0b (z4m 5 h U (by first|exact i6 oo|rfl) U λa h=>z0d 8 U (y0m (v:=.int .i64 (((⟨l.take i,r⟩:Vw).on (ndH (l.getD i hd0))).length+1)) h U U U he ?_));clear h a I;intro h0 I b0 _hz a h;rw[c9.1,y8f b9]at I;have i4:=b0.size;replace D:=D.fr b0;replace J:=J.fr b0;replace hC:=hC.sp b0;clear _hz;refine z0b (z0p ?_);clear hC a0 c1 Z;refine bk (h.sub (L':=[(1,_),(4,_),(5,_),(20,_),(21,_),(22,_)]) (.c6 U U U U U U)) (bn' (tn (rg (z1b U (wi6 oo) (mv U U (nl ?_))))));replace M:=(((M.fr a6 so).ext a1).fr a9 so).fr b0 so;replace O:=((O.ext a1).fr a9 so).fr b0 so;exact lpE (i+1) (.c6 U U U U U U) ⟨((((Fr.refl [b7,b3,a4] _).z6 q9 b5 b6 a3 a2 a5).z1 a6).z3 a1 a9 b0),⟨oo,⟨M,O,I⟩⟩⟩ oo;obtain rfl:i=n:=by omega
 rw[List.take_of_length_le oo]at M O I;refine ex (te (te (xh (tn (sr ?_)))));replace D:=(D.ext q8).fr q9;refine z0n U D v1o ?_;replace b8:=(((b8.ext (q3.n3 q4 q5 q6)).fr q7).ext q8).fr q9;refine z0k (vs:=[_,_,_]) U b8 v7q (λh2 b8 d0 i5=>?_) (h1:=(by first|(simp[Value.oneCell',S];done)|exact z3l.one _));refine kpL [(4,_)] (.cons U .nil) (nn (rt (rC results124 U b8 v1o  ?_)));replace M:=M.fr d0 so;replace O:=O.fr d0 so;replace I:=I.fr d0 so;subst d4;exact⟨_,rfl,⟨b7,b3,a4,rfl,oo,oo,oo,M,O,I⟩,((((q1.z6 q2 q3 q4 q5 q6 q7).n1 q8).z1 q9).z1 d0)⟩
theorem v6j:CallOf prog 124:=mkC func124
theorem v6p:z0y prog 143 6 20:=λ_ _=>kr
theorem j3z (wS:World)(ka:WA)(s:WtQ)(v:Vw)(Us:LId->Option Value)(fd:List Hz)(op:Int)(w0:World)(M:WkM τw wS ka w0 s v Us fd)(hv:BdOk s.q.p)(hr:-4<=s.rk/\s.rk<=4)(h6:s.fb.ts.length=6)(i0:∀i∈s.q.p.flat,z3r (z1r s.fb.ts) i)(i5:∀j p,v.pos j=some p->-1000<=p/\p<=1000)(hfl:fd.length<=90000000):Rets prog 62 #[.pointer (some ⟨ka.gw,0,none⟩),.int .i64 op] w0 λr w'=>r=.tuple #[]/\∃(s':WtQ) (fd':List Hz),WkM τw wS ka w' s' (vwB s.q.p s.rk) Us fd'/\fd'.Perm (fd++(v3g (z1r s.fb.ts) v (vwB s.q.p s.rk) op++v3f v (vwB s.q.p s.rk) op))/\s'.q=s.q/\s'.rk=s.rk/\s'.ct=s.ct/\s'.md=s.md/\s'.fb=s.fb:=by
 have k2:=M.fr.size;have J:=M.k;have k1:=J.lt;have k0:=M.kp.size;have h4:(z2n s.q.p s.rk).length<=320:=by have x:=x4b s.q.p s.rk;have y:=y2u hv;exact Nat.le_trans (Nat.le_of_eq x) y
 have f3:=v9g (vwB s.q.p s.rk);replace f3:(vwB s.q.p s.rk).nds.length<=320:=Nat.le_trans f3 h4;refine we [(0,.pointer (some ⟨ka.gw,0,none⟩)),(1,.int .i64 op)] func62 U ntmps62 U (.c2 U U) ?_;have a5:=M;refine jn (ι:=(Nat×Nat)×Nat×Nat×Nat) [(0,_),(1,_)] (λp=>[(4,.pointer (some ⟨p.1.1,0,none⟩)),(5,.pointer (some ⟨p.1.2,0,none⟩))]) (λp w'=>Fr [] w0 w'/\CmV 141 w' p.1.1 p.1.2 p.2.1 p.2.2.1 p.2.2.2 s (vwB s.q.p s.rk)) (.c2 U U) ?_ ?_;intro a h;refine z0h none (λwb w'=>Fr [] wb w') z2m ?_;intro w1 q1;have z1:=q1.size;replace M:=M.ext q1;replace J:=J.ext q1;have hC:Fr [] w1 w1:=Fr.refl _ _;have f4:=M;have d4:=J;refine y1h (ι:=(Nat×Nat)×Nat×Nat×Nat) h [(0,_),(1,_)] (.c2 U U) #[true,true,true,true,true,true,true,true,true,true,true,true,true,true,true,false,false] 2 (λp_=>[(4,.pointer (some ⟨p_.1.1,0,none⟩)),(5,.pointer (some ⟨p_.1.2,0,none⟩)),(12,.agg #[s.va,s.vl,s.vm]),(21,.agg #[.map (some p_.2.1),.map (some p_.2.2.1),.map (some p_.2.2.2)])]) (λp_ w'=>Fr [] w1 w'/\(w1.heap.size<=p_.1.1/\w1.heap.size<=p_.1.2/\p_.1.1≠p_.1.2)/\Blk w' p_.1.1 141 [.map none,.map none,.map none]/\Blk w' p_.1.2 141 [.map none,.map none,.map none]/\MapL idV w' p_.2.1 (atM (z2n s.q.p s.rk) s.rk)/\MapF ndK w' p_.2.2.1 (y5c (vwB s.q.p s.rk))/\MapL ndK w' p_.2.2.2 (y1k (vwB s.q.p s.rk))) (λa8=>?_) ?_;refine z0e 0 h U λa h=>z0l 1 h U λa h=>z0c 2 h U v6p U λa h=>z1a (vs:=[_,_,_]) 3 h U (λ_ hw=>(d4.ext hw)) v1o U U λa h=>z0e 4 h U λa h=>z0l 5 h U λa h=>z0c 6 h U z9h U λa h=>z1a (vs:=[_,_]) 7 h U (λ_ hw=>(d4.ext hw)) z4w U U λa h=>z0e 8 h U λa h=>z0l 9 h U λa h=>z0c 10 h U y9a U λa h=>z0j 11 h U (λ_ hw=>d4.ext hw) U na3 U λa h=>x0z 12 13 14 kr U U U ?_ ?_ ?_;refine z0o h (z0a U (z0a U z0f)) v6j (y1m s.q s.rk _ M.b.at hv hr) ?_;rintro _ w2 ⟨⟨m1,m2,m3,rfl,e6,e7,e8,O,Z,a0⟩,q2⟩ a h;have z2:=q2.size;replace M:=M.ext q2;replace J:=J.ext q2;replace hC:=hC.next q2;refine z0b (z1x 13 14 kr U ?_ ?_);refine z0w h y4c U λw3 D q3 hz a h=>?_;obtain⟨a1,hg⟩:∃g,g=w2.heap.size:=⟨_,rfl⟩;rw[<-hg]at D h hz;have b7.gw_4:ka.gw<a1:=by have:=J.lt;omega
 have z3:=q3.size;replace J:=J.ext q3;replace hC:=hC.next q3;refine z0b (z0d 14 U (z0w h y4c U λw4 I q4 hz a h=>?_));obtain⟨a2,hg⟩:∃g,g=w3.heap.size:=⟨_,rfl⟩;rw[<-hg]at I h hz;have b7.gw_5:ka.gw<a2:=by have:=J.lt;omega
 have d5:a1<a2:=by have:=D.lt;omega
 have z4:=q4.size;replace O:=O.ext (q3.n1 q4);replace Z:=Z.ext (q3.n1 q4);replace a0:=a0.ext (q3.n1 q4);replace D:=D.ext q4;replace hC:=hC.next q4;exact z0b (a8 ((a1,a2),m1,m2,m3) _ _ _ kr (h.sub (.c6 U U U U U U)) ⟨hC,⟨sm,sm,sm⟩,D,I,O,Z,a0⟩);refine z0w h y4c U λw5 I q5 hz a h=>?_;obtain⟨a2,hg⟩:∃g,g=w2.heap.size:=⟨_,rfl⟩;rw[<-hg]at I h hz;have b7.gw_5:ka.gw<a2:=by have:=J.lt;omega
 have z5:=q5.size;replace J:=J.ext q5;replace hC:=hC.next q5;refine z0b (z0d 13 U (z0w h y4c U λw6 D q6 hz a h=>?_));obtain⟨a1,hg⟩:∃g,g=w5.heap.size:=⟨_,rfl⟩;rw[<-hg]at D h hz;have b7.gw_4:ka.gw<a1:=by have:=J.lt;omega
 have d6:a2<a1:=by have:=I.lt;omega
 have z6:=q6.size;replace O:=O.ext (q5.n1 q6);replace Z:=Z.ext (q5.n1 q6);replace a0:=a0.ext (q5.n1 q6);replace I:=I.ext q6;replace hC:=hC.next q6;exact z0b (a8 ((a1,a2),m1,m2,m3) _ _ _ kr (h.sub (.c6 U U U U U U)) ⟨hC,⟨sm,sm,sm⟩,D,I,O,Z,a0⟩);refine z0w h y4c U λw7 D q7 hz a h=>?_;obtain⟨a1,hg⟩:∃g,g=w1.heap.size:=⟨_,rfl⟩;rw[<-hg]at D h hz;have b7.gw_4:ka.gw<a1:=by have:=J.lt;omega
 have z7:=q7.size;replace M:=M.ext q7;replace J:=J.ext q7;replace hC:=hC.next q7;refine z0b (z1x 12 14 kr U ?_ ?_);refine z0o h (z0a U (z0a U z0f)) v6j (y1m s.q s.rk _ M.b.at hv hr) ?_;rintro _ w8 ⟨⟨m1,m2,m3,rfl,e6,e7,e8,O,Z,a0⟩,q8⟩ a h;have z8:=q8.size;replace J:=J.ext q8;replace D:=D.ext q8;replace hC:=hC.next q8;refine z0b (z0d 14 U (z0w h y4c U λw9 I q9 hz a h=>?_));obtain⟨a2,hg⟩:∃g,g=w8.heap.size:=⟨_,rfl⟩;rw[<-hg]at I h hz;have b7.gw_5:ka.gw<a2:=by have:=J.lt;omega
 have d5:a1<a2:=by have:=D.lt;omega
 have z9:=q9.size;replace D:=D.ext q9;replace O:=O.ext q9;replace Z:=Z.ext q9;replace a0:=a0.ext q9;replace hC:=hC.next q9;exact z0b (a8 ((a1,a2),m1,m2,m3) _ _ _ kr (h.sub (.c6 U U U U U U)) ⟨hC,⟨sm,sm,sm⟩,D,I,O,Z,a0⟩);refine z0w h y4c U λk4 I e9 hz a h=>?_;obtain⟨a2,hg⟩:∃g,g=w7.heap.size:=⟨_,rfl⟩;rw[<-hg]at I h hz;have b7.gw_5:ka.gw<a2:=by have:=J.lt;omega
 have d5:a1<a2:=by have:=D.lt;omega
 have m9:=e9.size;replace M:=M.ext e9;replace hC:=hC.next e9;refine z0b (z0d 12 U (z0o h (z0a U (z0a U z0f)) v6j (y1m s.q s.rk _ M.b.at hv hr) ?_));rintro _ k5 ⟨⟨m1,m2,m3,rfl,e6,e7,e8,O,Z,a0⟩,q11⟩ a h;have n7:=q11.size;replace D:=D.ext (e9.n1 q11);replace I:=I.ext q11;replace hC:=hC.next q11;exact z0b (a8 ((a1,a2),m1,m2,m3) _ _ _ kr (h.sub (.c6 U U U U U U)) ⟨hC,⟨sm,sm,sm⟩,D,I,O,Z,a0⟩);refine z0w h y4c U λi8 I f0 hz a h=>?_;obtain⟨a2,hg⟩:∃g,g=w1.heap.size:=⟨_,rfl⟩;rw[<-hg]at I h hz;have b7.gw_5:ka.gw<a2:=by have:=J.lt;omega
 have n8:=f0.size;replace M:=M.ext f0;replace J:=J.ext f0;replace hC:=hC.next f0;refine z0b (z1x 12 13 kr U ?_ ?_);refine z0o h (z0a U (z0a U z0f)) v6j (y1m s.q s.rk _ M.b.at hv hr) ?_;rintro _ i9 ⟨⟨m1,m2,m3,rfl,e6,e7,e8,O,Z,a0⟩,q13⟩ a h;have n9:=q13.size;replace J:=J.ext q13;replace I:=I.ext q13;replace hC:=hC.next q13;refine z0b (z0d 13 U (z0w h y4c U λk6 D d7 hz a h=>?_));obtain⟨a1,hg⟩:∃g,g=i9.heap.size:=⟨_,rfl⟩;rw[<-hg]at D h hz;have b7.gw_4:ka.gw<a1:=by have:=J.lt;omega
 have d6:a2<a1:=by have:=I.lt;omega
 have o0:=d7.size;replace I:=I.ext d7;replace O:=O.ext d7;replace Z:=Z.ext d7;replace a0:=a0.ext d7;replace hC:=hC.next d7;exact z0b (a8 ((a1,a2),m1,m2,m3) _ _ _ kr (h.sub (.c6 U U U U U U)) ⟨hC,⟨sm,sm,sm⟩,D,I,O,Z,a0⟩);refine z0w h y4c U λk7 D f1 hz a h=>?_;obtain⟨a1,hg⟩:∃g,g=i8.heap.size:=⟨_,rfl⟩;rw[<-hg]at D h hz;have b7.gw_4:ka.gw<a1:=by have:=J.lt;omega
 have d6:a2<a1:=by have:=I.lt;omega
 have o1:=f1.size;replace M:=M.ext f1;replace hC:=hC.next f1;refine z0b (z0d 12 U (z0o h (z0a U (z0a U z0f)) v6j (y1m s.q s.rk _ M.b.at hv hr) ?_));rintro _ k8 ⟨⟨m1,m2,m3,rfl,e6,e7,e8,O,Z,a0⟩,q16⟩ a h;have o2:=q16.size;replace I:=I.ext (f1.n1 q16);replace D:=D.ext q16;replace hC:=hC.next q16;exact z0b (a8 ((a1,a2),m1,m2,m3) _ _ _ kr (h.sub (.c6 U U U U U U)) ⟨hC,⟨sm,sm,sm⟩,D,I,O,Z,a0⟩);rintro⟨⟨a1,a2⟩,m1,m2,m3⟩ a w17 ⟨hC,⟨hz4,hz5,hz45⟩,D,I,O,Z,a0⟩ h;simp only at hz4 hz5 hz45 D I O Z a0;have f2:=hC;have o3:=f2.size;replace M:=M.ext f2;replace J:=J.ext f2;refine z0d 15 U (z0t h U D U v7q ?_ (h1:=(by first|(simp[Value.oneCell',S];done)|exact Enc.one _ _|exact M.one)));clear h a;intro j0 e1 b8 hz a h;have o4:=b8.size;replace J:=J.fr b8;replace I:=I.fr b8;replace O:=O.fr b8 (by intro J;simp at J;first|exact O.f.ne_blk D J|exact O.f.ne_blk I J|exact O.f.ne_blk D J.symm|exact O.f.ne_blk I J.symm);replace Z:=Z.fr b8 (by intro J;simp at J;first|exact Z.ne_blk D J|exact Z.ne_blk I J|exact Z.ne_blk D J.symm|exact Z.ne_blk I J.symm);replace a0:=a0.fr b8 (by intro J;simp at J;first|exact a0.f.ne_blk D J|exact a0.f.ne_blk I J|exact a0.f.ne_blk D J.symm|exact a0.f.ne_blk I J.symm);replace hC:=hC.sp b8;clear D hz;have D:Blk j0 a1 _ [_,_,_]:=e1;clear e1;refine z0b (z0d 16 U (z0t h U I U v7q ?_ (h1:=(by first|(simp[Value.oneCell',S];done)|exact Enc.one _ _|exact M.one))));clear h a;intro j1 e1 b9 hz a h;have o5:=b9.size;replace J:=J.fr b9;replace D:=D.fr b9;replace O:=O.fr b9 (by intro J;simp at J;first|exact O.f.ne_blk D J|exact O.f.ne_blk I J|exact O.f.ne_blk D J.symm|exact O.f.ne_blk I J.symm);replace Z:=Z.fr b9 (by intro J;simp at J;first|exact Z.ne_blk D J|exact Z.ne_blk I J|exact Z.ne_blk D J.symm|exact Z.ne_blk I J.symm);replace a0:=a0.fr b9 (by intro J;simp at J;first|exact a0.f.ne_blk D J|exact a0.f.ne_blk I J|exact a0.f.ne_blk D J.symm|exact a0.f.ne_blk I J.symm);replace hC:=hC.sp b9;clear I hz;have I:Blk j1 a2 _ [_,_,_]:=e1;clear e1;refine z0b (z0p ?_);clear hC f4 d4;exact bk (h.sub (L':=[(0,_),(1,_),(4,_),(5,_)]) (.c4 U U U U)) (jE (((a1,a2),m1,m2,m3)) (.c4 U U U U) ⟨(q1.z3 f2 b8 b9),⟨D,I,O,Z,a0⟩⟩);rintro⟨⟨g4,g5⟩,m1,m2,m3⟩ w20 ⟨q20,hV⟩;have o6:=q20.size;have a6:=hV;simp only at hV;refine kpC [(0,_),(1,_),(4,.pointer (some ⟨g4,0,none⟩)),(5,.pointer (some ⟨g5,0,none⟩))] (.c4 U U U U) (sq (sr (fad U y9y (z0i U hV.h U v1h ?_))));replace M:=a5.ext q20;refine x7y (V:=idV) (atE s.rk) U U hV.a underlying137 U (λh2 k9 j4 a3 f9 o7=>(nn (bl ?_)));replace M:=a5.ext (q20.n1 f9);replace hV:=a6.ext f9;refine lpK (ι:=List Hd×List Hd) [(0,_),(1,_),(4,_),(5,_),(24,_)] (λp=>[]) (λp w'=>(p.1++p.2).Perm (z2n s.q.p s.rk)/\(∃u:SV,WkM τw wS ka w' { s with fd:=u } v Us (fd++(((p.1.map Hd.id).filter (x2m (z1r s.fb.ts) v (vwB s.q.p s.rk))).map λi=>(⟨op,2,i⟩:Hz))))/\CmV 141 w' g4 g5 m1 m2 m3 s (vwB s.q.p s.rk)/\FIt idV (atE s.rk) w' h2 m1 (atM (z2n s.q.p s.rk) s.rk) p.2 none) (λp=>p.2.length) ([],(z2n s.q.p s.rk)) (.c5 U U U U U) ⟨List.Perm.refl _,⟨_,by simpa using M⟩,hV,a3⟩ ?_;rintro⟨dn,rm⟩ l0 ⟨a7,⟨u,M⟩,hV,a3⟩;simp only at a7 M hV a3;have a5:=M;have a6:=hV;refine kpC [(0,_),(1,_),(4,_),(5,_),(24,_)] (.c5 U U U U U) ?_;have i2:=hV.a.lt;have i3:=a3.lt;have i4:=a7.length_eq;rw[List.length_append]at i4;have h9:=List.length_filter_le (x2m (z1r s.fb.ts) v (vwB s.q.p s.rk)) (dn.map Hd.id);rw[List.length_map]at h9;refine sr ?_;have e2:=FIt.at a3;refine v6o U a3 U (λl1 c l2 a9 l3 a3 g3 o8=>?_) (λa9=>?_);replace M:=M.it e2 g3 oo oo;have a5:=M;replace hV:=hV.it e2 g3;have a6:=hV;clear e2;refine xt U (nn (sq (ct U ?_)));have b3:((dn++[c])++(l1++l2)).Perm (z2n s.q.p s.rk):=by
  rw[a9]at a7;refine List.Perm.trans ?_ a7;rw[List.append_assoc];exact List.Perm.append_left _ (show (c::(l1++l2)).Perm (l1++c::l2) from List.perm_middle.symm)
 have f6:c∈(z2n s.q.p s.rk):=b3.mem_iff.1 sp0;rw[a9]at a7;obtain⟨j6,f5,_⟩:=y5p hv f6;have h8:=i0 _ (z4u f5);have h7:=hv.nm _ (z4u f5);unfold z5d at h7;refine sk (tn (bl (sr (v0k U a3 U (xt U (al y0n U (λg6 l4 j8 b0 b4 o9=>?_)))))));refine z0k (vs:=[_,_]) U b0 y0c (λl5 b0 b5 p0=>?_) (h1:=(by first|(simp[Value.oneCell',S];done)|exact Enc.one _ _|exact M.one));refine nn (sq (x9y (r:=43) (L':=[(0,_),(1,_),(4,_),(5,_),(6,_),(24,_)]) ((((¬nwT (z1r s.fb.ts) c.id=true)/\(vwB s.q.p s.rk).str c.id=true)/\(¬v.str c.id=true))) (.c6 U U U U U U) ?_ ?_));refine mv U U (z0n U b0 z2y ?_);replace M:=a5.ext (b4.z1 b5);refine cl (ev2 U) (mkC func125) (v5l ka.gw { s with fd:=u } c.id _ M.k M.fb h6 h8) U ?_;rintro _ l6 ⟨rfl,c0⟩;have p1:=c0.size;refine nt' U (mv U U (gs 33 U (λg0=>?_) (λg0=>?_)));refine gY U ?_;replace hV:=a6.ext (b4.z2 b5 c0);refine z0n U hV.h v1o (gY U ?_);replace b0:=b0.ext c0;refine z0n U b0 z2y (gY U (cl (ev2 U) (mkC func126) (v4p (vwB s.q.p s.rk) _ (.map (some m2)) (.map (some m3)) c.id _ hV.va u7p oo) U ?_));rintro _ l7 ⟨rfl,d9⟩;have p2:=d9.size;refine pkt U (mv U U (gs 38 U (λg1=>?_) (λg1=>?_)));refine gY U ?_;replace hV:=a6.ext (b4.z3 b5 c0 d9);refine z0n U hV.b v1o (gY U ?_);replace b0:=b0.ext d9;refine z0n U b0 z2y (gY U ?_);replace M:=a5.ext (b4.z3 b5 c0 d9);refine cl (ev2 U) (mkC func126) (v4p v s.va s.vl s.vm c.id _ M.va i5 oo) U ?_;rintro _ l8 ⟨rfl,g8⟩;have p3:=g8.size;exact gY U (nt' U (pkt U (z9e U (.c6 U U U U U U) (c0.n2 d9 g8))));exact gN U (gN U (gN U (gN U (pkf U (z9e U (.c6 U U U U U U) (c0.n1 d9))))));exact gN U (gN U (gN U (pkf U (mv U U (gN U (gN U (gN U (gN U (pkf U (z9e U (.c6 U U U U U U) c0))))))))));intro j2 c9;have p4:=c9.size;refine tn (cd U (λc1=>?_) (λc1=>?_));refine rg (mv U U (mv U U ?_));replace b0:=b0.ext c9;refine z0n U b0 z2y ?_;replace M:=a5.ext (b4.z2 b5 c9);replace hV:=a6.ext (b4.z2 b5 c9);replace a3:=((a3.ext b4).fr b5 (by intro k J;simp at J;subst J;exact⟨oo,oo⟩)).ext c9;have e0:=M.kp;refine cl (z0a U (z0a U (z0a U (z0a U z0f)))) j6h (y6d wS { ka with wk:=j2 } { s with fd:=u } v Us _ op 2 c.id _ M.mark (by simp only[List.length_append,List.length_map];omega)) U ?_;rintro _ l9 ⟨rfl,u2,d3⟩;have b6:=d3.kp;simp only at b6;have p5:=b6.size;replace hV:=hV.kp M b6 dd dd;replace a3:=KpM.fit b6 a3 (FIt.ne a3 M).1 (FIt.ne a3 M).2;replace M:=d3.unmark e0;clear e0 d3;have a6:=hV;have a5:=M;have J:=M.k;exact kpL [(0,_),(1,_),(4,_),(5,_),(24,_)] (.c5 U U U U U) (nl (bn' (lpE ((dn++[c],l1++l2)) (.c5 U U U U U) ⟨b3,⟨_,by rw[List.map_append,List.map_cons,List.map_nil,z9t,if_pos (by unfold x2m;simp_all),<-List.append_assoc];exact M⟩,hV,a3.no⟩ (by simp only[a9,List.length_append,List.length_cons];omega))));refine sk (bn' ?_);replace M:=a5.ext (b4.z2 b5 c9);replace hV:=a6.ext (b4.z2 b5 c9);replace a3:=((a3.ext b4).fr b5 (by intro k J;simp at J;subst J;exact⟨oo,oo⟩)).ext c9;exact lpE ((dn++[c],l1++l2)) (.c5 U U U U U) ⟨b3,⟨_,by rw[List.map_append,List.map_cons,List.map_nil,z9t,if_neg (by unfold x2m;simp_all),List.append_nil];exact M⟩,hV,a3.no⟩ (by simp only[a9,List.length_append,List.length_cons];omega);refine xt U (nn (sq (cf U ?_)));rw[a9,List.append_nil]at a7;have f8:=a7;refine ex (te (te (xh (tn (sq (sr (fad U x7g (z0i U hV.h U j2b (x7y (V:=ndK) (mnE (vwB s.q.p s.rk)) U U hV.m underlying139 U (λh3 m0 j5 a4 g9 p6=>(nn (bl ?_))))))))))));replace M:=a5.ext g9;replace hV:=a6.ext g9;refine lpK (ι:=List (Int×Int)×List (Int×Int)) [(0,_),(1,_),(4,_),(5,_),(50,_)] (λp=>[]) (λp w'=>(p.1++p.2).Perm (vwB s.q.p s.rk).nds/\(∃u:SV,WkM τw wS ka w' { s with fd:=u } v Us ((fd++(((dn.map Hd.id).filter (x2m (z1r s.fb.ts) v (vwB s.q.p s.rk))).map λi=>(⟨op,2,i⟩:Hz)))++((p.1.filter (j5f v (vwB s.q.p s.rk))).map λn=>(⟨op,3,((vwB s.q.p s.rk).on n).getLast?.getD id0⟩:Hz))))/\CmV 141 w' g4 g5 m1 m2 m3 s (vwB s.q.p s.rk)/\FIt ndK (mnE (vwB s.q.p s.rk)) w' h3 m3 (y1k (vwB s.q.p s.rk)) p.2 none) (λp=>p.2.length) ([],(vwB s.q.p s.rk).nds) (.c5 U U U U U) ⟨List.Perm.refl _,⟨_,by simpa using M⟩,hV,a4⟩ ?_;rintro⟨e4,rm⟩ m4 ⟨a7,⟨u,M⟩,hV,a4⟩;simp only at a7 M hV a4;have a5:=M;have a6:=hV;refine kpC [(0,_),(1,_),(4,_),(5,_),(50,_)] (.c5 U U U U U) ?_;have i2:=hV.m.lt;have i3:=a4.lt;have f7:=a7.length_eq;rw[List.length_append]at f7;have j7:=List.length_filter_le (j5f v (vwB s.q.p s.rk)) e4;refine sr ?_;have e3:=FIt.at a4;refine v6o U a4 U (λl1 c l2 a9 m5 a4 h0 p7=>?_) (λa9=>?_);replace M:=M.it e3 h0 oo oo;have a5:=M;replace hV:=hV.it e3 h0;have a6:=hV;clear e3;refine xt U (nn (sq (ct U ?_)));have b3:((e4++[c])++(l1++l2)).Perm (vwB s.q.p s.rk).nds:=by
  rw[a9]at a7;refine List.Perm.trans ?_ a7;rw[List.append_assoc];exact List.Perm.append_left _ (show (c::(l1++l2)).Perm (l1++c::l2) from List.perm_middle.symm)
 have f6:c∈(vwB s.q.p s.rk).nds:=b3.mem_iff.1 sp0;rw[a9]at a7;refine sk (tn (bl (sr (v0k U a4 U (xt U (xt U (al v1n U (λg7 m6 j9 e5 d0 p8=>?_))))))));refine z0k (vs:=[_,_]) U e5 y6l (λj3 e5 d1 p9=>?_) (h1:=(by first|(simp[Value.oneCell',S];done)|exact Enc.one _ _|exact M.one));refine asg U (nn (sq (rbo (r:=64) (L':=[(0,_),(1,_),(4,_),(5,_),(7,_),(50,_)]) (((3<((vwB s.q.p s.rk).on c).length)/\(((v.on c).length:Int)<=3))) (.c6 U U U U U U) ?_ ?_)));refine mv U U (gt' U (mv U U (gs 58 U (λg2=>?_) (λg2=>?_))));refine gY U (fad U x7g (gY U ?_));replace hV:=a6.ext (d0.z1 d1);refine z0i U hV.b U j2b (gY U (z0n U e5 z4k (gY U ?_)));replace M:=a5.ext (d0.z1 d1);exact v3w (V:=ndK) (k:=c) (f:=z1h (y1k v)) U U M.vm y5u underlying139 zvI (x3l _ _) U (gY U (le' U U (pkt U (rbe U (.c6 U U U U U U)))));exact gN U (gN U (gN U (gN U (gN U (pkf U (rbe U (.c6 U U U U U U)))))));refine tn (cd U (λc3=>?_) (λc3=>?_));refine rg (mv U U (mv U U (fad U u0c ?_)));replace hV:=a6.ext (d0.z1 d1);refine z0i U hV.h U j7o (z0n U e5 z4k (y4r (V:=ndK) (k:=c) (f:=y5c (vwB s.q.p s.rk)) U U hV.l y5u underlying138 k3m (u2q _ _) U ?_));replace M:=a5.ext (d0.z1 d1);replace a4:=(a4.ext d0).fr d1 (by intro k J;simp at J;subst J;exact⟨oo,oo⟩);have e0:=M.kp;refine cl (z0a U (z0a U (z0a U (z0a U z0f)))) j6h (y6d wS { ka with wk:=j3 } { s with fd:=u } v Us _ op 3 (((vwB s.q.p s.rk).on c).getLast?.getD id0) _ M.mark (by simp only[List.length_append,List.length_map];omega)) U ?_;rintro _ m7 ⟨rfl,u2,d3⟩;have b6:=d3.kp;simp only at b6;have q0:=b6.size;replace hV:=hV.kp M b6 dd dd;replace a4:=KpM.fit b6 a4 (FIt.ne a4 M).1 (FIt.ne a4 M).2;replace M:=d3.unmark e0;clear e0 d3;have a6:=hV;have a5:=M;have J:=M.k;exact kpL [(0,_),(1,_),(4,_),(5,_),(50,_)] (.c5 U U U U U) (nl (bn' (lpE ((e4++[c],l1++l2)) (.c5 U U U U U) ⟨b3,⟨_,by rw[z9t,if_pos (by unfold j5f;simp;omega),<-List.append_assoc];exact M⟩,hV,a4.no⟩ (by simp only[a9,List.length_append,List.length_cons];omega))));refine sk (bn' ?_);replace M:=a5.ext (d0.z1 d1);replace hV:=a6.ext (d0.z1 d1);replace a4:=(a4.ext d0).fr d1 (by intro k J;simp at J;subst J;exact⟨oo,oo⟩);exact lpE ((e4++[c],l1++l2)) (.c5 U U U U U) ⟨b3,⟨_,by rw[z9t,if_neg (by unfold j5f;simp;omega),List.append_nil];exact M⟩,hV,a4.no⟩ (by simp only[a9,List.length_append,List.length_cons];omega);refine xt U (nn (sq (cf U ?_)));rw[a9,List.append_nil]at a7;refine ex (te (te (xh (tn (rg (mv U U (z0n U hV.h v1o (nlc U (fad U v6p ?_)))))))));refine z3m (cs':=wtL { s with fd:=u,va:=.map (some m1),vl:=.map (some m2),vm:=.map (some m3) }) U M.k (by intro u hu;simp at hu;rcases hu with rfl|rfl|rfl<;>rfl) v7q U (λm8 i1 i7 r4=>?_);have h5:=M.put τwk (s':={ s with fd:=u,va:=.map (some m1),vl:=.map (some m2),vm:=.map (some m3) }) (v':=(vwB s.q.p s.rk)) i1 i7 M.b hV.va hV.vm U U U M.c6 M.m6 ⟨_,rfl⟩;exact kpL [] .nil (nl (r0n results62  ⟨_,rfl,rfl,_,_,h5,v2p (List.Perm.refl fd) (u4p (f8.map Hd.id)) (u1k a7),rfl,rfl,rfl,rfl,rfl⟩))
theorem x3x (ts:List TQ)(i:LId):z4n (z1r ts) i=decide (i.n+1=((ts.getD (i.y-1).toNat tq0).2.length:Int)/\0<((ts.getD (i.y-1).toNat tq0).2.getD i.n.toNat lq0).ths.length):=by
 have e:(z1r ts).getD (i.y-1).toNat []=(ts.getD (i.y-1).toNat tq0).2.map LpQ.p:=by
  unfold z1r;rw[List.getD,List.getD,List.getElem?_map];cases ts[(i.y-1).toNat]?<;>rfl
 unfold z4n;rw[e];generalize (ts.getD (i.y-1).toNat tq0).2=r;rw[List.length_map,List.getD,List.getD,List.getElem?_map];cases r[i.n.toNat]?<;>rfl
theorem u2c (i:LId)(v:Value)(ts:List TQ)(w0:World)(hs:Sl z4b w0 v ts)(O:TabAt w0 ts)(hl:ts.length=6)(hi:z3r (z1r ts) i):Rets prog 118 #[v,.agg #[.int .u8 i.y,.int .i64 i.n]] w0 λr w'=>r=.bool (z4n (z1r ts) i)/\Fr [] w0 w':=by
 obtain⟨A,c,rfl,b3,hM,hA⟩:=id hs;clear hA;unfold maxLen at hM;have a6:=z5b O;have b7:=a6 (i.y-1).toNat;have b5:=z2b.1 hi;have b6:=z1z (z7r O (y:=(i.y-1).toNat) (n:=i.n.toNat) oo oo).1;have a4:=(O _ (z0z (d:=tq0) (i:=(i.y-1).toNat) oo)).1.len_le;unfold maxLen at a4;refine we [(0,.slice A ts.length c),(1,.agg #[.int .u8 i.y,.int .i64 i.n])] func118 U ntmps118 U (.c2 U U) ?_;have a7:=hs;have a5:=O;refine sr (bx U (λg3 w1 b4 J q1 z1=>(asg U (nn (sq (sq ?_))))));replace hs:=a7.ext q1;replace O:=a5.ext q1;intro a h;refine z0h none (λwb w'=>Fr [] wb w') z2m ?_;intro w2 q2;have z2:=q2.size;replace hs:=hs.ext q2;replace O:=O.ext q2;replace J:=J.ext q2;have hC:Fr [] w2 w2:=Fr.refl _ _;have M:=hs;have a0:=O;have I:=J;refine z0e 0 h U λa h=>z0v 1 h U (λ_ Z=>I.ext Z) z2y U λa h=>z0d 2 U (z0o h (z0a U (z0a U z0f)) (mkC func159) (y9v i _ _ _ hs O oo oo) ?_);rintro _ w3 ⟨rfl,q3⟩ a h;have z3:=q3.size;replace hs:=hs.ext q3;replace O:=O.ext q3;replace J:=J.ext q3;replace hC:=hC.next q3;refine z0b (x1m 3 hC h wn U U U λa h=>z0e 4 h U λa h=>?_);first|refine u0o (D:=9) h U (λhh=>absurd hh (by exact λe=>e hi)) ?_|refine v2b (D:=9) h U (λhh=>absurd hh (by exact λe=>e hi)) ?_
 clear h;intro g0 h;refine z0c 5 h U z6g U ?_ (hG:=(wy U));clear h a;intro a h;refine z0j 6 h U (λ_ Z=>I.ext Z) U na3 U ?_ (hG:=(wy U));clear h a;intro a h;refine z0e 7 h U ?_ (hG:=(wy U));clear h a;intro a h;refine z0c 8 h U z5v U ?_ (hG:=(wy U));clear h a;intro a h;refine z0j 9 h U (λ_ Z=>I.ext Z) U na5 U ?_ (hG:=(wy U));clear h a;intro a h;refine z2w 10 h (wy U) U (by first|exact IntWalk.u8_in _ oo|rfl) U λa h=>z1i (p:=(i.y-1).toNat) (tq0) 11 h U hs U y6v U ?_ (hG:=(wy U));clear h a;intro a8 a1 a h;refine z2x 12 h (wy U) U (λ_ Z=>a1 _ (M.ext Z)) x1q U λa h=>z6p 13 h (wy U) U underlying34 U λa h=>z2w 14 h (wy U) U (by first|exact i6 oo|rfl) U λa h=>j4p 15 hC h (wy U) U U U U λa h=>z0d 16 U (z4d h U U λa h=>?_);refine z0b (z0p ?_);clear hC M a0 I;refine bk (h.sub (L':=[(0,_),(3,_),(21,_)]) (.c3 U U U)) (tn (cd U (λc0=>?_) (λc0=>?_)));refine sr (asg U (nn (rt (tr (r1 results118 U ?_)))));exact⟨_,rfl,congrArg Value.bool (by rw[x3x];exact(decide_eq_false (λe=>by first|omega|(rcases c0 with hh|hh<;>first|exact hh hi|omega))).symm),(q1.n2 q2 q3)⟩;refine sk (tn (sq ?_));intro a h;refine z0h none (λwb w'=>Fr [] wb w') z2m ?_;intro w4 q4;have z4:=q4.size;replace hs:=hs.ext q4;replace O:=O.ext q4;replace J:=J.ext q4;have hC:Fr [] w4 w4:=Fr.refl _ _;have M:=hs;have a0:=O;have I:=J;refine z0e 0 h U λa h=>z0c 1 h U z5v U λa h=>z0j 2 h U (λ_ Z=>I.ext Z) U na5 U λa h=>z2w 3 h wn U (by first|exact IntWalk.u8_in _ oo|rfl) U λa h=>z1i (p:=(i.y-1).toNat) (tq0) 4 h U hs U y6v U λa9 a2 a h=>z2x 5 h wn U (λ_ Z=>a2 _ (M.ext Z)) x1q U λa h=>z0c 6 h U z6g U λa h=>z0j 7 h U (λ_ Z=>I.ext Z) U na3 U λa h=>z1i (p:=i.n.toNat) (lq0) 8 h U (O _ (z0z (d:=tq0) (i:=(i.y-1).toNat) oo)).1 U v2r U λb0 a3 a h=>z0c 9 h U z6m U λa h=>y4p 10 hC h wn U (λ_ Z=>a3 _ ((O _ (z0z (d:=tq0) (i:=(i.y-1).toNat) oo)).1.ext Z)) U z8o U U λa h=>z6p 11 h wn U underlying27 U λa h=>v1r 12 hC h wn U U λa h=>z0d 13 U (z0r h U λa h=>?_);refine z0b (z0p ?_);clear hC M a0 I;refine bk (h.sub (L':=[(4,_)]) (.cons U .nil)) (tn (rt (r1 results118 U ?_)));exact⟨_,rfl,congrArg Value.bool (by rw[x3x];exact decide_eq_decide.2 ⟨λe=>⟨oo,oo⟩,λe=>oo⟩),(q1.n3 q2 q3 q4)⟩
theorem j6r {α:Type}(P:α->Bool){l:List α}{i:Nat}(d:α)(h:i<l.length)(hp:P (l.getD i d)=true):(l.take (i+1)).filter P=(l.take i).filter P++[l.getD i d]:=by
 rw[z1s d h,List.filter_append,List.filter_cons_of_pos hp,List.filter_nil]
theorem j7g {α:Type}(P:α->Bool){l:List α}{i:Nat}(d:α)(h:i<l.length)(hp:P (l.getD i d)=false):(l.take (i+1)).filter P=(l.take i).filter P:=by
 rw[z1s d h,List.filter_append,List.filter_cons_of_neg (by rw[hp];decide),List.filter_nil,List.append_nil]
theorem j4b (q:FbQ)(w0:World)(J:FbAt w0 q)(h6:q.ts.length=6)(hu:∀i∈q.fs,z3r (z1r q.ts) i)(hfl:q.fs.length<=100000):Rets prog 60 #[.agg #[.slice q.t.1 q.t.2.1 q.t.2.2,.slice q.c.1 q.c.2.1 q.c.2.2,.slice q.h.1 q.h.2.1 q.h.2.2,.slice q.f.1 q.f.2.1 q.f.2.2]] w0 λr w'=>∃A n,r=.slice A n n/\Lw.Own z1f 73 w0.heap.size w' r (q.fs.filter λi=>!z4n (z1r q.ts) i)/\Fr [] w0 w':=by
 have b7:=J.len;have hM:=J.f.len_le;unfold maxLen at hM;refine we [(0,.agg #[.slice q.t.1 q.t.2.1 q.t.2.2,.slice q.c.1 q.c.2.1 q.c.2.2,.slice q.h.1 q.h.2.1 q.h.2.2,.slice q.f.1 q.f.2.1 q.f.2.2])] func60 U ntmps60 U (.cons U .nil) ?_;have a0:=J;refine sr (bx U (λg1 w1 b4 M q1 z1=>(asg U ?_)));have a1:=M;refine nn (sr (asg U (nn (sq (sr (fad U y8e (z0i U M U z8o (lnS U underlying27 (mv U U (nn (bl (lpK (ι:=Nat×Value) [(1,_),(7,_),(8,_)] (λp=>[(9,.int .i64 (p.1:Int)),(3,p.2)]) (λp w'=>Fr [] w1 w'/\p.1<=q.fs.length/\Lw.Own z1f 73 w1.heap.size w' p.2 ((q.fs.take p.1).filter λi=>!z4n (z1r q.ts) i)) (λp=>q.fs.length-p.1) (0,_) (.c5 U U U U U) ⟨(Fr.refl _ _),⟨Nat.zero_le _,by rw[List.take_zero];exact Own.nil _⟩⟩ ?_))))))))))));rintro⟨i,vP⟩ w2 ⟨q2,⟨a5,I⟩⟩;simp only at a5 I;have z2:=q2.size;refine kpC [(1,_),(7,_),(8,_),(9,.int .i64 (i:Int)),(3,vP)] (.c5 U U U U U) ?_;have a9:=List.length_filter_le (λi=>!z4n (z1r q.ts) i) (q.fs.take i);have b8:(q.fs.take i).length<=i:=by rw[List.length_take];omega
 refine sr (lt' U (nn (sq (cd U (λc0=>?_) (λc0=>?_)))));have a7:=hu _ (z0z (d:=id0) (i:=i) (l:=q.fs) oo);refine sk (tn (sq (bl (sr ?_))));replace J:=a0.ext (q1.n1 q2);refine z1d (id0) U J.f U z4x z1g (λa8 a2=>?_);refine z1l U (a2 _ J.f) z2y (al y0n U (λg5 w3 b5 D q3 z3=>?_));refine z0k (vs:=[_,_]) U D y0c (λw4 D q4 z4=>?_) (h1:=(by first|(simp[Value.oneCell',S];done)|exact z1f.one _));refine nn (sr (fad U y0j ?_));replace M:=a1.ext (q2.z2 q3 q4);refine z0i U M U x4q (z0n U D z2y ?_);replace J:=a0.ext (q1.z3 q2 q3 q4);refine cl (ev2 U) (mkC func118) (u2c (q.fs.getD i id0) _ _ _ J.t J.tt h6 a7) U ?_;rintro _ w5 ⟨rfl,q5⟩;have z5:=q5.size;refine nt' U (nn (cd U (λc1=>?_) (λc1=>?_)));refine rg (mv U U ?_);replace D:=D.ext q5;refine z0n U D z2y (z2t ([(q.fs.getD i id0)]) (ev1 U) U z4x (λb3 w6 b0 a3 q6 z6=>?_));replace I:=((I.ext q3).fr q4 (by first|exact z8w I oo|simp[z0u]<;>omega)).ext (q5.n1 q6);have Z:=I;refine z2l U I a3.sl z4x (λb9 w7 I q7 a6=>?_);have z7:=q7.size;exact asg U (kpL [(1,_),(3,_),(7,_),(8,_),(9,_)] (.c5 U U U U U) (nl (bn' (tn (rg (z1b U (wi6 oo) (mv U U (nl (lpE ((i+1,_)) (.c5 U U U U U) ⟨((q2.z4 q3 q4 q5 q6).step q7 (λk hk b6=>absurd (Z.blk k hk).1 oo)),⟨sm,by rw[j6r _ id0 oo (by simpa using c1)];exact I⟩⟩ sm)))))))));refine sk (bn' (tn (rg (z1b U (wi6 oo) (mv U U (nl ?_))))));replace I:=((I.ext q3).fr q4 (by first|exact z8w I oo|simp[z0u]<;>omega)).ext q5;exact lpE ((i+1,_)) (.c5 U U U U U) ⟨(q2.z3 q3 q4 q5),⟨sm,by rw[j7g _ id0 oo (by simpa using c1)];exact I⟩⟩ sm;obtain rfl:i=q.fs.length:=by omega
 refine ex (te (te (xh (tn (sr (mv U U (cl (ev1 U) (mkC func119) (v1g _ ((q.fs.take q.fs.length).filter λi=>!z4n (z1r q.ts) i) _ I.sl oo) U ?_)))))));rintro _ w8 ⟨a4,rfl,O,q8⟩;have z8:=q8.size;exact asg U (kpL [(2,_)] (.cons U .nil) (nn (rt (r1 results60 U ⟨_,rfl,a4,_,rfl,by rw[List.take_length]at O ⊢;exact O.low oo,(q1.n2 q2 q8)⟩))))
end Go.Proofs.YtjilcnmaefhmeaaGreatDoor
namespace Go.G09
open Go.Lw Go.G21 Go.G08
def v6l (k:Int):List UInt8:=if k=1 then [102,108,111,97,116] else if k=2 then [115,116,114,101,116,99,104] else if k=3 then [104,111,111,107] else if k=4 then [117,110,100,111,110,101] else if k=5 then [114,101,115,116] else []
def j7n (h:Hz):Prop:=0<=h.o/\(1<=h.k/\h.k<=5)/\z5d h.id
instance (h:Hz):Decidable (j7n h):=by unfold j7n;infer_instance
def hzT (h:Hz):List UInt8:=if j7n h then Lib.itoa h.o++32::(v6l h.k++32::(Lib.itoa h.id.y++46::Lib.itoa h.id.n)) else []
def y1s (l:List Hz):List UInt8:=l.flatMap λh=>hzT h++[59]
theorem x0x {n:Int}(h:0<=n/\n<100):Lib.itoa n=u2w n.toNat:=by
 rw[v7j oo];unfold x4w;rw[if_neg oo]
def k2s (h:Hz):List UInt8:=u2w h.o.toNat++32::(v6l h.k++32::(u2w h.id.y.toNat++46::u2w h.id.n.toNat))
def k0q (h:Hz):Prop:=j7n h/\h.o<100/\h.id.n<100
instance (h:Hz):Decidable (k0q h):=by unfold k0q;infer_instance
theorem u9o {h:Hz}(O:k0q h):hzT h=k2s h:=by
 obtain⟨I,J,M⟩:=O;have D:=I;obtain⟨a,b,c,d,e,f⟩:=D;unfold hzT k2s;rw[if_pos I,x0x ⟨a,J⟩,x0x (n:=h.id.y) oo,x0x ⟨e,M⟩]
theorem y1i:∀ {l:List Hz},(∀h∈l,k0q h)->y1s l=l.flatMap λh=>k2s h++[59]
 | [],_=>rfl
 | h::l,hs=>by
  unfold y1s
  rw[List.flatMap_cons,List.flatMap_cons,u9o (hs h (List.mem_cons_self ..))]
  congr 1
  exact y1i λx D=>hs x (List.mem_cons_of_mem _ D)
theorem y1t {l:List Hz}(h:∀i,i<l.length->∀j,j<i->y0v (l.getD j hz0) (l.getD i hz0)<0):l.Pairwise λa b=>y0v a b<0:=List.pairwise_iff_getElem.2 λi j J I D=>by
 have:=h j I i D
 rwa [List.getD,List.getD,List.getElem?_eq_getElem J,List.getElem?_eq_getElem I]at this
def hpTA:List UInt8:=[105,110,32,49,32,108,101,102,116,10,107,110,105,116,32,114,105,103,104,116,32,102,49,32,49,10,107,110,105,116,32,114,105,103,104,116,32,102,56,32,49,10,107,110,105,116,32,114,105,103,104,116,32,102,57,32,49]
def j5d:List MOp:=[⟨1,0,0,0,1,0⟩,⟨4,1,0,1,1,0⟩,⟨4,1,0,8,1,0⟩,⟨4,1,0,9,1,0⟩]
theorem hprA:x7f hpTA=(j5d,0,0):=by decide +kernel
def k1n:MSt:=okM (z3n 0 G08.start j5d)
theorem hrnA:z3n 0 G08.start j5d=.ok k1n:=x9h (by decide +kernel)
def j8y:List Hz:=[⟨2,1,⟨1,1⟩⟩,⟨2,2,⟨1,1⟩⟩,⟨4,5,⟨1,0⟩⟩,⟨4,5,⟨1,1⟩⟩,⟨4,5,⟨1,2⟩⟩]
theorem hhaA:y7d (y7b j5d k1n)=j8y:=by
 rw[show y7b j5d k1n=j8y by decide +kernel];exact z9k (y1t dd)
theorem hhtA:y1s j8y=[50,32,102,108,111,97,116,32,49,46,49,59,50,32,115,116,114,101,116,99,104,32,49,46,49,59,52,32,114,101,115,116,32,49,46,48,59,52,32,114,101,115,116,32,49,46,49,59,52,32,114,101,115,116,32,49,46,50,59]:=(y1i dd).trans (by decide +kernel)
def hpTB:List UInt8:=[105,110,32,49,32,108,101,102,116,10,107,110,105,116,32,114,105,103,104,116,32,102,49,32,49,10,107,110,105,116,32,114,105,103,104,116,32,102,55,32,49,10,107,110,105,116,32,114,105,103,104,116,32,102,57,32,49]
def j5m:List MOp:=[⟨1,0,0,0,1,0⟩,⟨4,1,0,1,1,0⟩,⟨4,1,0,7,1,0⟩,⟨4,1,0,9,1,0⟩]
theorem hprB:x7f hpTB=(j5m,0,0):=by decide +kernel
def k3d:MSt:=okM (z3n 0 G08.start j5m)
theorem hrnB:z3n 0 G08.start j5m=.ok k3d:=x9h (by decide +kernel)
def j7b:List Hz:=[⟨4,5,⟨1,0⟩⟩,⟨4,5,⟨1,1⟩⟩,⟨4,5,⟨1,2⟩⟩]
theorem hhaB:y7d (y7b j5m k3d)=j7b:=by
 rw[show y7b j5m k3d=j7b by decide +kernel];exact z9k (y1t dd)
theorem hhtB:y1s j7b=[52,32,114,101,115,116,32,49,46,48,59,52,32,114,101,115,116,32,49,46,49,59,52,32,114,101,115,116,32,49,46,50,59]:=(y1i dd).trans (by decide +kernel)
def hpTC:List UInt8:=[105,110,32,49,32,108,101,102,116,10,107,110,105,116,32,114,105,103,104,116,32,102,49,32,49,10,100,114,111,112,32,102,49]
def j5i:List MOp:=[⟨1,0,0,0,1,0⟩,⟨4,1,0,1,1,0⟩,⟨8,0,0,1,0,0⟩]
theorem hprC:x7f hpTC=(j5i,0,0):=by decide +kernel
def k2u:MSt:=okM (z3n 0 G08.start j5i)
theorem hrnC:z3n 0 G08.start j5i=.ok k2u:=x9h (by decide +kernel)
def j5z:List Hz:=[⟨2,4,⟨1,0⟩⟩]
theorem hhaC:y7d (y7b j5i k2u)=j5z:=by
 rw[show y7b j5i k2u=j5z by decide +kernel];exact z9k (y1t dd)
theorem hhtC:y1s j5z=[50,32,117,110,100,111,110,101,32,49,46,48,59]:=(y1i dd).trans (by decide +kernel)
def hpTD:List UInt8:=[105,110,32,49,32,108,101,102,116,10,107,110,105,116,32,114,105,103,104,116,32,102,49,32,49,10,107,110,105,116,32,108,101,102,116,32,102,49,32,49,10,100,114,111,112,32,102,49,10,111,117,116,32,49]
def j5b:List MOp:=[⟨1,0,0,0,1,0⟩,⟨4,1,0,1,1,0⟩,⟨4,0,0,1,1,0⟩,⟨8,0,0,1,0,0⟩,⟨2,0,0,0,1,0⟩]
theorem hprD:x7f hpTD=(j5b,0,0):=by decide +kernel
def k1q:MSt:=okM (z3n 0 G08.start j5b)
theorem hrnD:z3n 0 G08.start j5b=.ok k1q:=x9h (by decide +kernel)
def k3a:List Hz:=[]
theorem hhaD:y7d (y7b j5b k1q)=k3a:=by
 rw[show y7b j5b k1q=k3a by decide +kernel];exact z9k (y1t dd)
theorem x6c {p:MSt}{y a b e:Int}(h:y2k p y a b=.error e):e≠0:=by
 unfold y2k at h;split at h;rename_i D;cases h;exact D;cases h
theorem v7b {p:MSt}{o:MOp}{t s:List LId}{e:Int}(h:y5m p o t s=.error e):e≠0:=by
 unfold y5m at h;split at h;rename_i D;cases h;exact D;split at h;cases h;decide;cases h
theorem x2c {p:MSt}{d e:Int}:∀ {l:List Yn},z3y p d l=.error e->e≠0
 | [],h=>by cases h
 | y::l,h=>by
  unfold z3y at h;split at h
  ·rename_i I D
   cases h
   unfold z7a at D;split at D
   ·cases D
   split at D
   ·rename_i J;cases D;exact J
   cases D
  split at h
  ·rename_i I D
   cases h;exact x2c D
  cases h
theorem x9z {e:Int}:∀ {r l:List Cx},z5f l r=.error e->e≠0
 | [],l,h=>by cases h
 | c::r,l,h=>by
  unfold z5f at h;split at h
  ·rename_i I D
   cases h
   unfold y8m at D
   simp only at D
   generalize (if 0<z6q c.a c.b then (c.b,c.a) else (c.a,c.b))=k at D
   by_cases c1:z6h l k.1 k.2+c.n < -1048576\/1048576<z6h l k.1 k.2+c.n
   ·rw[if_pos c1]at D;cases D;decide
   rw[if_neg c1]at D;split at D<;>cases D
  exact x9z h
theorem x7s {r e:Int}:∀ {n:Nat} {p:MSt},z3u n p r=.error e->e≠0
 | 0,p,h=>by cases h
 | n+1,p,h=>by
  unfold z3u at h;split at h
  ·cases h
  split at h
  ·rename_i M D
   cases h
   unfold z6e at D;split at D
   ·rename_i J I;cases D;exact x2c I
   split at D
   ·rename_i J I;cases D;exact x9z I
   cases D
  exact x7s h
theorem k3f {p:MSt}{o:MOp}{e:Int}(h:doM p o=.error e):e≠0:=by
 unfold doM at h;split at h;rename_i D;cases h;exact D;unfold opM at h;split at h;unfold inM at h;split at h;rename_i D;cases h;exact D;cases h;split at h;unfold x6s at h;split at h;rename_i D;cases h;exact D;cases h;split at h;exact x7s h;split at h;unfold y0x at h;split at h;rename_i D;cases h;exact D;split at h;rename_i J I;cases h;exact x6c I;exact v7b h;split at h;unfold y0d at h;split at h;rename_i D;cases h;exact D;split at h;rename_i J I;cases h;exact x6c I;split at h;cases h;decide;exact v7b h;split at h;unfold y4b at h;split at h;rename_i D;cases h;exact D;exact x6c h;split at h;unfold z9d at h;split at h;cases h;decide;split at h;cases h;decide;split at h;cases h;decide;split at h;cases h;decide;cases h;unfold y2v at h;split at h;cases h;decide;cases h
theorem u6u {e:Int}{n:Nat}:∀ {l:List MOp} {i:Nat} {p:MSt},z3n i p l=.error (e,n)->e≠0
 | [],i,p,h=>by cases h
 | o::l,i,p,h=>by
  unfold z3n at h;split at h
  ·rename_i I D;cases h;exact k3f D
  exact u6u h
structure RepI (l:List MOp) (qf:MSt) (Us:List LId) (i:Nat) (p:MSt) (t:Wt):Prop where
  run:z3n 0 G08.start (l.take i)=.ok p
  te:t=y1e qf.tb Us 0 G08.start wt0 (l.take i)
  v:MVal p
  md:∀j,j<6->-1000<=t.md.getD j 0/\t.md.getD j 0<=1000
  vw:∀(j:LId) (x:Int),t.vw.pos j=some x->-1000<=x/\x<=1000
  len:t.fd.length<=700*i
theorem RepI.zero (l:List MOp)(I:MSt)(Us:List LId):RepI l I Us 0 G08.start wt0:=
 ⟨rfl,rfl,z8t,λj D=>by
  have e:wt0.md.getD j 0=0:=by
   show (List.replicate 6 (0:Int)).getD j 0=0
   rw[List.getD,List.getElem?_replicate,if_pos D];rfl
  rw[e];omega,λj x h=>(by cases h),Nat.zero_le _⟩
theorem j7z (T:Tb)(Us:List LId)(op:Int)(o:MOp)(p:MSt)(t:Wt):(doH T Us op o p t).vw=t.vw:=by
 unfold doH;(repeat' split)<;>rfl
theorem j7l (T:Tb)(Us:List LId)(op:Int)(o:MOp)(p:MSt){t t':Wt}(h:t.md=t'.md):(doH T Us op o p t).md=(doH T Us op o p t').md:=by
 unfold doH;(repeat' split)<;>simp[h]
theorem u0z {T:Tb}{Us:List LId}{op:Int}{o:MOp}{p:MSt}{t t':Wt}(h:t.md=t'.md)(hp:t.fd.Perm t'.fd):(doH T Us op o p t).fd.Perm (doH T Us op o p t').fd:=by
 unfold doH;split;simp only[h];exact hp.append_right _;split;exact hp.append_right _;exact hp
theorem x5l {B:Bd}(h:BdOk B)(r:Int):(vwB B r).l.length<=320:=by
 rw[x4b];exact y2u h
theorem j0v {T:Tb}{v:Vw}{B:Bd}{r op:Int}(h:BdOk B):(v3g T v (vwB B r) op).length<=320/\(v3f v (vwB B r) op).length<=320:=by
 have D:=x5l h r;have I:=v9g (vwB B r);constructor;unfold v3g;rw[List.length_map];refine Nat.le_trans (List.length_filter_le _ _) ?_;rw[List.length_map];exact D;unfold v3f;rw[List.length_map];exact Nat.le_trans (List.length_filter_le _ _) oo
theorem u6s {T:Tb}{Us:List LId}{op:Int}{o:MOp}{p:MSt}{t:Wt}(h:BdOk p.B):(doH T Us op o p t).fd.length<=t.fd.length+4:=by
 unfold doH;split;simp only[List.length_append];have:(v1x T op o p t.md).length<=1:=by unfold v1x;split<;>simp
 omega;split;simp only[List.length_append];have:(u8b Us op o p).length<=4:=by
  unfold u8b;rw[List.length_map];exact Nat.le_trans (List.length_filter_le _ _) (y0l h _ _)
 omega;omega
theorem u5o {l:List Int}(h:∀j,j<6->-1000<=l.getD j 0/\l.getD j 0<=1000){k:Nat}{x:Int}(I:-1000<=x/\x<=1000):∀j,j<6->-1000<=(l.set k x).getD j 0/\(l.set k x).getD j 0<=1000:=λj D=>by
 rw[List.getD,List.getElem?_set]
 split
 ·split
  ·exact I
  exact⟨dd,dd⟩
 exact h j D
theorem u3d {l:List MOp}{J p:MSt}{i:Nat}(hf:z3n 0 G08.start l=.ok J)(I:i<l.length)(hr:z3n 0 G08.start (l.take i)=.ok p):∃q,doM p (l.getD i op0)=.ok q/\z3n 0 G08.start (l.take (i+1))=.ok q/\PfT q.tb J.tb:=by
 have M:l=l.take i++(l.getD i op0::l.drop (i+1)):=by
  rw[List.getD,List.getElem?_eq_getElem I,Option.getD_some,<-List.drop_eq_getElem_cons I,List.take_append_drop]
 have D:=hf;rw[M,y9d,hr]at D;simp only[z3n]at D;cases hd:doM p (l.getD i op0) with
 | error e=>rw[hd]at D;cases D
 | ok q=>
  rw[hd]at D;refine⟨q,rfl,?_,u7d D⟩;rw[z1s op0 I,y9d,hr];simp only[z3n];rw[hd]
theorem RepI.step {l:List MOp}{qf p:MSt}{Us:List LId}{i:Nat}{t:Wt}(h:RepI l qf Us i p t)(hf:z3n 0 G08.start l=.ok qf)(hi:i<l.length) :
    ∃q,doM p (l.getD i op0)=.ok q/\RepI l qf Us (i+1) q (z6s qf.tb Us i (l.getD i op0) p q t)/\(∀k∈q.B.flat,z3r qf.tb k)/\(y2j (l.getD i op0)->z3r qf.tb (x4t p (l.getD i op0))):=by
  obtain⟨q,hd,hr,hp⟩:=u3d hf hi h.run
  have hq:=y5i h.v hd
  have hb:=hq.inv.B
  have has:∀ {k:LId},z3r q.tb k->z3r qf.tb k:=λ{k} hk=>by
    obtain⟨h1,h2,h3,h4⟩:=hk
    have hL:=(x0n z8t hf).inv.lt
    have hL2:=hq.inv.lt
    refine⟨h1,oo,h3,?_⟩
    have:=(hp (k.y-1).toNat).length_le
    have e1:z3b q.tb (k.y-1).toNat=(q.tb.getD (k.y-1).toNat []).length:=rfl
    have e2:z3b qf.tb (k.y-1).toNat=(qf.tb.getD (k.y-1).toNat []).length:=rfl
    omega
  refine⟨q,hd,⟨hr,?_,hq,?_,?_,?_⟩,λk hk=>has (hq.inv.has k hk),λhm=>has (j9b h.v hd hm)⟩
  · have hl:(l.take i).length=i:=List.length_take_of_le oo
    rw[z1s op0 hi,x7n h.run,hl,<-h.te,Nat.zero_add,y1e,hd]
    rfl
  · unfold z6s
    split
    · exact h.md
    · unfold j5j doH
      simp only
      split
      · have:=x0y (l.getD i op0).b (l.getD i op0).p p.rk
        exact u5o h.md oo
      · split<;>exact h.md
  · unfold z6s
    split
    · exact h.vw
    · exact u7p
  · have h1:=h.len
    unfold z6s
    split
    · omega
    · unfold j5j
      have h2:=u6s (T:=qf.tb) (Us:=Us) (op:=(i:Int)) (o:=l.getD i op0) (t:=t) h.v.inv.B
      obtain⟨h3,h4⟩:=j0v (T:=qf.tb) (v:=(doH qf.tb Us i (l.getD i op0) p t).vw) (r:=q.rk) (op:=(i:Int)) hb
      simp only[List.length_append]
      omega
theorem RepI.done {l:List MOp}{D p:MSt}{Us:List LId}{i:Nat}{t:Wt}(h:RepI l D Us i p t)(hf:z3n 0 G08.start l=.ok D)(M:i=l.length):p=D/\t=y1e D.tb Us 0 G08.start wt0 l:=by
 subst M;have I:=h.run;have J:=h.te;rw[List.take_length]at I J;rw[I]at hf;cases hf;exact⟨rfl,J⟩
theorem j4z (q:MSt)(i:LId):i∈(z7w q.fa).filter (λi=>!z4n q.tb i)↔i∈j0w q:=by
 unfold j0w;rw[List.mem_filter,List.mem_filter,(z5n q.fa).mem_iff]
theorem u6x {T:Tb}{Us D:List LId}(h:∀i,i∈Us↔i∈D):∀ {l:List MOp} {i:Nat} {p:MSt} {s:Wt},y1e T Us i p s l=y1e T D i p s l
 | [],i,p,s=>rfl
 | o::l,i,p,s=>by
  rw[y1e,y1e]
  cases doM p o with
  | error e=>rfl
  | ok q=>
   simp only
   have e:z6s T Us i o p q s=z6s T D i o p q s:=by
    unfold z6s
    split
    ·rfl
    congr 1
    unfold doH
    split
    ·rfl
    split
    ·congr 2
     unfold u8b
     congr 1
     exact List.filter_congr λx _=>decide_eq_decide.2 (h x)
    rfl
   rw[e];exact u6x h
end Go.G09
namespace Go.Proofs.YtjilcnmaefhmeaaGreatDoor
open Go.Lw Go.G21 Go.G08 _root_.Go.Proofs.Tryz
theorem v7m:ElemOf prog 25 47 z9z 40:=ElemOf.mk' (z:=(.agg #[.int .u8 0,.int .u8 0,.int .u8 0,.int .i64 0,.int .u8 0,.int .i64 0])) underlying25 kr U
theorem u6y:z1q prog 47 6:=λ_=>kr
theorem u7x (w:World):(zeroValue 47).run prog w=.ok (.agg #[(.int .u8 0),(.int .u8 0),(.int .u8 0),(.int .i64 0),(.int .u8 0),(.int .i64 0)]) w:=kr
theorem x8l {D p q:MSt}{o:MOp}:∀ {l:List MOp} {i:Nat},z3n i D l=.ok p->doM p o=.ok q->z3n i D (l++[o])=.ok q
 | [],i,h,h2=>by cases h;show z3n i D [o]=_;unfold z3n;rw[h2];rfl
 | x::l,i,h,h2=>by
  unfold z3n at h
  show z3n i D (x::(l++[o]))=_
  unfold z3n
  split at h
  ·cases h
  rename_i J I
  exact x8l h h2
theorem v5q {D p:MSt}{e:Int}{o:MOp}:∀ {l r:List MOp} {i:Nat},z3n i D l=.ok p->doM p o=.error e->z3n i D (l++o::r)=.error (e,i+l.length)
 | [],r,i,h,h2=>by cases h;show z3n i D (o::r)=_;unfold z3n;rw[h2];rfl
 | x::l,r,i,h,h2=>by
  unfold z3n at h
  show z3n i D (x::(l++o::r))=_
  unfold z3n
  split at h
  ·cases h
  rename_i J I
  have:=v5q (r:=r) h h2
  simp only[this,List.length_cons]
  congr 2;omega
theorem u8u (s:StQ)(v:Value)(l:List MOp)(p0:MSt)(w0:World)(hS:StAt w0 s)(d4:StSz s)(d7:(s.fb.cs.map cxK).Nodup)(b4:p0=(⟨s.rk,⟨trimB (plB s.q.fs),trimB (plB s.q.bs)⟩,s.ys.map YQ.p,z1r s.fb.ts,s.fb.cs,s.fb.fs⟩:MSt))(d9:MInv p0)(hv:Sl z9z w0 v l)(d5:StT w0)(f9:l.length<=4096)(b0:∀w,StAt w s->Rets prog 17 #[.agg #[.int .i64 s.rk,.slice s.q.f.1 s.q.f.2.1 s.q.f.2.2,.slice s.q.b.1 s.q.b.2.1 s.q.b.2.2,.slice s.yv.1 s.yv.2.1 s.yv.2.2,.slice s.fb.t.1 s.fb.t.2.1 s.fb.t.2.2,.slice s.fb.c.1 s.fb.c.2.1 s.fb.c.2.2,.slice s.fb.h.1 s.fb.h.2.1 s.fb.h.2.2,.slice s.fb.f.1 s.fb.f.2.1 s.fb.f.2.2]] w λr w'=>r=.int .i64 0/\Fr [] w w')(d6:∀p,z3n 0 p0 l=.ok p->p.cr.length<=100000000):Rets prog 13 #[.agg #[.int .i64 s.rk,.slice s.q.f.1 s.q.f.2.1 s.q.f.2.2,.slice s.q.b.1 s.q.b.2.1 s.q.b.2.2,.slice s.yv.1 s.yv.2.1 s.yv.2.2,.slice s.fb.t.1 s.fb.t.2.1 s.fb.t.2.2,.slice s.fb.c.1 s.fb.c.2.1 s.fb.c.2.2,.slice s.fb.h.1 s.fb.h.2.1 s.fb.h.2.2,.slice s.fb.f.1 s.fb.f.2.1 s.fb.f.2.2],v] w0 λr w'=>(match z3n 0 p0 l with|.error (e,n)=>r=.tuple #[.agg #[.int .i64 0,.slice none 0 0,.slice none 0 0,.slice none 0 0,.slice none 0 0,.slice none 0 0,.slice none 0 0,.slice none 0 0],.int .i64 (n:Int),.int .i64 e]|.ok p=>∃s':StQ,r=.tuple #[.agg #[.int .i64 s'.rk,.slice s'.q.f.1 s'.q.f.2.1 s'.q.f.2.2,.slice s'.q.b.1 s'.q.b.2.1 s'.q.b.2.2,.slice s'.yv.1 s'.yv.2.1 s'.yv.2.2,.slice s'.fb.t.1 s'.fb.t.2.1 s'.fb.t.2.2,.slice s'.fb.c.1 s'.fb.c.2.1 s'.fb.c.2.2,.slice s'.fb.h.1 s'.fb.h.2.1 s'.fb.h.2.2,.slice s'.fb.f.1 s'.fb.f.2.1 s'.fb.f.2.2],.int .i64 (l.length:Int),.int .i64 0]/\StO τd 117 w0.heap.size w' s'/\s'.p=stM p)/\Fr [] w0 w':=by
 obtain⟨A,c,rfl,f4,d1,hA⟩:=id hv;clear hA;unfold maxLen at d1;refine we [(0,.agg #[.int .i64 s.rk,.slice s.q.f.1 s.q.f.2.1 s.q.f.2.2,.slice s.q.b.1 s.q.b.2.1 s.q.b.2.2,.slice s.yv.1 s.yv.2.1 s.yv.2.2,.slice s.fb.t.1 s.fb.t.2.1 s.fb.t.2.2,.slice s.fb.c.1 s.fb.c.2.1 s.fb.c.2.2,.slice s.fb.h.1 s.fb.h.2.1 s.fb.h.2.2,.slice s.fb.f.1 s.fb.f.2.1 s.fb.f.2.2]),(1,.slice A l.length c)] func13 U ntmps13 U (.c2 U U) ?_;have a7:=hS;have e4:=hv;refine sr (bx U (λg2 w1 f5 I q1 z1=>(al k0r U (λg4 w2 f6 D q2 z2=>(asg U (asg U (nn (sq (sr (mv U U (lnS U underlying25 (gt' U (nn (cd U (λc0=>?_) (λc0=>?_)))))))))))))));refine sr (z1y (cs:=[_,_,_,_,_,_,_,_]) z0f u2m z0s U ?_);refine z0k (vs:=[_,_,_,_,_,_,_,_]) U D v7w (λw3 D q3 z3=>(asg U (asg U (nn (rt (tr (k0u results13 U D v3i U U ?_)))))));exfalso;omega;refine sk (tn (sq (sr ?_)));replace I:=I.ext q2;refine z0n U I v3i ?_;replace hS:=a7.ext (q1.n1 q2);refine cl (ev1 U) (mkC func17) (b0 _ hS) U ?_;rintro _ w4 ⟨rfl,q4⟩;have z4:=q4.size;refine asg U (nn (sr (mv U U (ne' U (nn (cd U (λc1=>?_) (λc1=>?_)))))));refine sr (z1y (cs:=[_,_,_,_,_,_,_,_]) z0f u2m z0s U ?_);refine mv U U ?_;replace D:=D.ext q4;exact z0k (vs:=[_,_,_,_,_,_,_,_]) U D v7w (λw5 D q5 z5=>(asg U (asg U (kpL [(4,_),(5,_),(6,_)] (.c3 U U U) (nn (rt (tr (k0u results13 U D v3i U U (absurd U (by assumption))))))))));refine sk (tn (sr ?_));replace I:=I.ext q4;refine z0n U I v3i ?_;replace hS:=a7.ext (q1.n2 q2 q4);replace D:=D.ext q4;refine cl (z0a U z0f) (mkC func39) (j3m s _ hS d4 d7) U ?_;rintro _ w6 ⟨ka,m,rfl,J,b3⟩;have q6:=J.fr.fr;have z6:=q6.size;have a0:=D;have f1:=J.c.lt;have a1:=J;refine cl z0f (mkC func40) (j0b _) U ?_;rintro _ w7 ⟨⟨gl,rfl,f7,hl⟩,q7⟩;have z7:=q7.size;refine asg U (asg U (kpL [(1,_),(4,_),(8,_),(9,_)] (.c4 U U U U) (nn (sq (sr (mv U U (lnS U underlying25 (mv U U (nn (bl ?_))))))))));replace J:=a1.ext q7;refine lpK (ι:=Nat) [(1,_),(4,_),(8,_),(9,_),(26,_),(27,_)] (λi=>[(28,.int .i64 (i:Int))]) (λi w'=>Fr [] w4 w'/\i<=l.length/\∃m:MQ,MkM τd 183 w4 ka w' m/\z3n 0 p0 (l.take i)=.ok m.p/\MInv m.p/\MapF kV w' gl j8j) (λi=>l.length-i) 0 (.c7 U U U U U U U) ⟨(q6.n1 q7),⟨Nat.zero_le _,m,J,by rw[b3,<-b4];rfl,by rw[b3,<-b4];exact d9,hl⟩⟩ ?_;rintro i w8 ⟨q8,⟨f8,m,J,O,a2,hl⟩⟩;have z8:=q8.size;have a1:=J;refine kpC [(1,_),(4,_),(8,_),(9,_),(26,_),(27,_),(28,_)] (.c7 U U U U U U U) ?_;have f2:gl<w8.heap.size:=by obtain⟨_,_,_,b8,_⟩:=hl;exact(Array.getElem?_eq_some_iff.1 b8).1
 refine sr (lt' U (nn (sq (cd U (λc2=>?_) (λc2=>?_)))));have a4:i<l.length:=by omega
 refine sk (tn (sq (bl (sr (mv U U ?_)))));replace hv:=e4.ext (q1.n3 q2 q4 q8);refine z1d (op0) U hv U v7m z1g (λe9 a9=>?_);refine z1l U (a9 _ hv) y6p (al u7x U (λf3 w9 f0 M q9 z9=>(asg U (z0k (vs:=[_,_,_,_,_,_]) U M u6y (λe6 M b5 g6=>(nn (sr (mv U U (mv U U (z0n U M y6p ?_))))))))));replace J:=a1.ext (q9.z1 b5);replace hl:=(hl.ext q9).fr b5 (by simp only[List.mem_singleton];omega);have d0:=J.fr;refine cl (z0a U (z0a U (z0a U z0f))) (mkC func41) (j9a w4 { ka with wk:=e6 } m (l.getD i op0) gl _ J.mark a2 (d5.ext (q1.n2 q2 q4)) hl) U ?_;intro _ g0 hR;obtain⟨rfl,Z,m1,e0⟩:=hR.split;have e8:=Z.kp.size;simp only at e8;have b6:=Z.fr;replace hl:=Z.kp.mapF hl sm;refine asg U (nn (sr (mv U U (ne' U (nn (cd U (λc3=>?_) (λc3=>?_)))))));have D:=a0.ext Z.fr;refine sr (z1y (cs:=[_,_,_,_,_,_,_,_]) z0f u2m z0s U ?_);refine mv U U (mv U U (z0k (vs:=[_,_,_,_,_,_,_,_]) U D v7w (λg1 D e5 g7=>(asg U (asg U (kpL [(4,_),(5,_),(6,_)] (.c3 U U U) (nn (rt (rb (tr (tr (rb (tr (k0u results13 U D v3i U U ?_))))))))))))));have e2:z3n 0 p0 l=.error (k0d (doM m.p (l.getD i op0)),i):=by
  have x:=v5q (r:=l.drop (i+1)) O (y2h c3);have e:l.take i++l.getD i op0::l.drop (i+1)=l:=by
   rw[List.getD,List.getElem?_eq_getElem a4,Option.getD_some,<-List.drop_eq_getElem_cons a4,List.take_append_drop]
  rw[e,List.length_take,Nat.min_eq_left oo,Nat.zero_add]at x;exact x
 exact⟨_,rfl,by rw[e2],(q1.z4 q2 q4 b6 e5)⟩;obtain⟨c9,a3⟩:=e0 (Classical.not_not.1 c3);have a6:=c9.unmark d0;obtain⟨m2,e1⟩:∃m2,m2=m1:=⟨_,rfl⟩;rw[<-e1]at a6 a3;exact sk (bn' (tn (rg (z1b U (wi6 oo) (mv U U (nl (lpE ((i+1)) (.c7 U U U U U U U) ⟨b6,⟨oo,m2,a6,by rw[show l.take (i+1)=l.take i++[l.getD i op0] by rw[List.take_add_one,List.getD,List.getElem?_eq_getElem a4];rfl];exact x8l O a3,u0d a2 a3,hl⟩⟩ oo)))))));obtain rfl:i=l.length:=by omega
 rw[List.take_length]at O;refine ex (te (te (xh (tn (sr (mv U U (cl (z0a U z0f) (mkC func42) (v3s w4 ka m _ J a2 (d6 _ O)) U ?_)))))));rintro _ g3 ⟨s',rfl,d3,e3,a5⟩;have g8:=a5.size;have D:=a0.ext a5;have a8:=D;refine mv U U (lnS U underlying25 (z0k (vs:=[_,_,_,_,_,_,_,_]) U D v7w (λe7 D b7 g9=>(asg U (asg U (kpL [(4,_),(5,_),(6,_)] (.c3 U U U) (nn (rt (k0u results13 U D v3i U U ?_)))))))));have b9:Fr [] _ e7:=(Fr.refl _ _);exact⟨_,rfl,by rw[O];exact⟨s',rfl,((d3.off a8 dd b7).ext b9).low oo,e3⟩,(q1.z4 q2 q4 a5 b7)⟩
theorem y4u (y:Nat):z3b (z1r (List.replicate 6 tq0)) y=0:=by
 unfold z3b;show ((List.replicate 6 ([]:List Lp)).getD y []).length=0;rw[List.getD,List.getElem?_replicate];split<;>rfl
theorem u6g:TabV (z1r (List.replicate 6 tq0)):=by
 refine⟨⟨rfl,dd,λy _ n D=>(by rw[y4u y]at D;omega),⟨λ_=>0,?_⟩⟩,λi=>?_⟩;exact⟨λy _ n D=>(by rw[y4u y]at D;omega),λy _ n m _ I=>(by rw[y4u y]at I;omega)⟩;have e:y0i (z1r (List.replicate 6 tq0))=[]:=by rfl
 rw[e];exact Nat.zero_le _
theorem j3l (I D:Nat)(w:World)(h:StAt w (st0 I D)):Rets prog 17 #[.agg #[.int .i64 (st0 I D).rk,.slice (st0 I D).q.f.1 (st0 I D).q.f.2.1 (st0 I D).q.f.2.2,.slice (st0 I D).q.b.1 (st0 I D).q.b.2.1 (st0 I D).q.b.2.2,.slice (st0 I D).yv.1 (st0 I D).yv.2.1 (st0 I D).yv.2.2,.slice (st0 I D).fb.t.1 (st0 I D).fb.t.2.1 (st0 I D).fb.t.2.2,.slice (st0 I D).fb.c.1 (st0 I D).fb.c.2.1 (st0 I D).fb.c.2.2,.slice (st0 I D).fb.h.1 (st0 I D).fb.h.2.1 (st0 I D).fb.h.2.2,.slice (st0 I D).fb.f.1 (st0 I D).fb.f.2.1 (st0 I D).fb.f.2.2]] w λr w'=>r=.int .i64 0/\Fr [] w w':=
 j2d (st0 I D) w h (by show (-4:Int)<=0/\(0:Int)<=4;omega) y2e.B U U (λi _=>by
  have M:(st0 I D).ys.getD i yq0=yq0:=by
   show (List.replicate 6 yq0).getD i yq0=yq0
   rw[List.getD,List.getElem?_replicate];split<;>rfl
  have O:(st0 I D).fb.ts.getD i tq0=tq0:=by
   show (List.replicate 6 tq0).getD i tq0=tq0
   rw[List.getD,List.getElem?_replicate];split<;>rfl
  rw[M,O];exact⟨dd,rfl⟩) (λw Z=>u3s (st0 I D).fb w Z U u6g ⟨λi J=>absurd J (Nat.not_lt_zero i),λi _ J=>absurd J (Nat.not_lt_zero i)⟩ ⟨λi J=>(by cases J),λi _ J=>absurd J (Nat.not_lt_zero i),λy _ n hn=>(by rw[show z3b (z1r (st0 I D).fb.ts) y=0 from y4u y]at hn;omega),u6g.thr⟩) U (Nat.zero_le _)
theorem j4v (I D:Nat)(v:Value)(l:List MOp)(w0:World)(O:StAt w0 (st0 I D))(Z:Sl z9z w0 v l)(J:StT w0)(M:l.length<=4096):Rets prog 13 #[.agg #[.int .i64 (st0 I D).rk,.slice (st0 I D).q.f.1 (st0 I D).q.f.2.1 (st0 I D).q.f.2.2,.slice (st0 I D).q.b.1 (st0 I D).q.b.2.1 (st0 I D).q.b.2.2,.slice (st0 I D).yv.1 (st0 I D).yv.2.1 (st0 I D).yv.2.2,.slice (st0 I D).fb.t.1 (st0 I D).fb.t.2.1 (st0 I D).fb.t.2.2,.slice (st0 I D).fb.c.1 (st0 I D).fb.c.2.1 (st0 I D).fb.c.2.2,.slice (st0 I D).fb.h.1 (st0 I D).fb.h.2.1 (st0 I D).fb.h.2.2,.slice (st0 I D).fb.f.1 (st0 I D).fb.f.2.1 (st0 I D).fb.f.2.2],v] w0 λr w'=>(match z3n 0 G08.start l with|.error (e,n)=>r=.tuple #[.agg #[.int .i64 0,.slice none 0 0,.slice none 0 0,.slice none 0 0,.slice none 0 0,.slice none 0 0,.slice none 0 0,.slice none 0 0],.int .i64 (n:Int),.int .i64 e]|.ok p=>∃s':StQ,r=.tuple #[.agg #[.int .i64 s'.rk,.slice s'.q.f.1 s'.q.f.2.1 s'.q.f.2.2,.slice s'.q.b.1 s'.q.b.2.1 s'.q.b.2.2,.slice s'.yv.1 s'.yv.2.1 s'.yv.2.2,.slice s'.fb.t.1 s'.fb.t.2.1 s'.fb.t.2.2,.slice s'.fb.c.1 s'.fb.c.2.1 s'.fb.c.2.2,.slice s'.fb.h.1 s'.fb.h.2.1 s'.fb.h.2.2,.slice s'.fb.f.1 s'.fb.f.2.1 s'.fb.f.2.2],.int .i64 (l.length:Int),.int .i64 0]/\StO τd 117 w0.heap.size w' s'/\s'.p=stM p)/\Fr [] w0 w':=
 u8u (st0 I D) v l G08.start w0 O (j5o I D) List.nodup_nil U y2e Z J M (j3l I D) (λp e=>by
  have x:=x8p y2e e
  have y:(G08.start).cr.length=0:=rfl
  omega)
def u1h (l:List MOp):Int:=match z3n 0 G08.start l with
  | .error (e,_)=>e
  | .ok _=>0
abbrev stZ:StQ:=⟨0,⟨sv0,sv0,[],[]⟩,sv0,[],⟨sv0,sv0,sv0,sv0,[],[],[],[]⟩⟩
theorem k0w (base:Nat)(w:World):StO τd 117 base w stZ:=
 ⟨⟨⟨Own.nil w,λq I=>(by cases I)⟩,⟨Own.nil w,λq I=>(by cases I)⟩⟩,⟨Own.nil w,λi D=>(by cases D)⟩,⟨Own.nil w,λi D=>(by cases D),λi j D=>(by cases D),λi D=>(by cases D)⟩,Own.nil w,Own.nil w,Own.nil w,λk J=>(by cases J)⟩
end Go.Proofs.YtjilcnmaefhmeaaGreatDoor
namespace Go.Proofs
open Go.Shelf
def Tryz.lays156_ren:Go.Shelf.Ren:=⟨fun|156=>78|165=>139|166=>77|169=>83|240=>138|241=>194|276=>193|277=>248|n=>n,fun|31=>84|9=>9|3=>3|4=>4|0=>0|20=>20|72=>162|76=>165|70=>160|37=>81|75=>164|127=>229|164=>283|5=>5|80=>173|n=>n,fun|n=>n⟩
theorem Tryz.lays156:Go.Proofs.Lays.n156 Tryz.prog Tryz.lays156_ren:={
 mixed:=by kernel_rfl
 f156:=Tryz.func78.trans (congrArg some kr)
 f165:=Tryz.func139.trans (congrArg some kr)
 f166:=Tryz.func77.trans (congrArg some kr)
 f169:=Tryz.func83.trans (congrArg some kr)
 f240:=Tryz.func138.trans (congrArg some kr)
 f241:=Tryz.func194.trans (congrArg some kr)
 f276:=Tryz.func193.trans (congrArg some kr)
 f277:=Tryz.func248.trans (congrArg some kr)
 t0:=Tryz.underlying0
 a0:=Tryz.isAgg0
 z0:=Tryz.sizeOf0
 v0:=Tryz.zeroValue0
 t3:=Tryz.underlying3
 a3:=Tryz.isAgg3
 z3:=Tryz.sizeOf3
 v3:=Tryz.zeroValue3
 t4:=Tryz.underlying4
 a4:=Tryz.isAgg4
 z4:=Tryz.sizeOf4
 v4:=Tryz.zeroValue4
 t9:=Tryz.underlying9
 a9:=Tryz.isAgg9
 z9:=Tryz.sizeOf9
 v9:=Tryz.zeroValue9
 t20:=Tryz.underlying20
 a20:=Tryz.isAgg20
 z20:=Tryz.sizeOf20
 v20:=Tryz.zeroValue20
 t31:=Tryz.underlying84
 a31:=Tryz.isAgg84
 z31:=Tryz.sizeOf84
 v31:=Tryz.zeroValue84
 t37:=Tryz.underlying81
 a37:=Tryz.isAgg81
 z37:=Tryz.sizeOf81
 v37:=Tryz.zeroValue81
 t70:=Tryz.underlying160
 a70:=Tryz.isAgg160
 z70:=Tryz.sizeOf160
 v70:=Tryz.zeroValue160
 t72:=Tryz.underlying162
 a72:=Tryz.isAgg162
 z72:=Tryz.sizeOf162
 v72:=Tryz.zeroValue162
 t75:=Tryz.underlying164
 a75:=Tryz.isAgg164
 z75:=Tryz.sizeOf164
 v75:=Tryz.zeroValue164
 t76:=Tryz.underlying165
 a76:=Tryz.isAgg165
 z76:=Tryz.sizeOf165
 v76:=Tryz.zeroValue165
 t127:=Tryz.underlying229
 a127:=Tryz.isAgg229
 z127:=Tryz.sizeOf229
 v127:=Tryz.zeroValue229
 t164:=Tryz.underlying283
 a164:=Tryz.isAgg283
 z164:=Tryz.sizeOf283
 v164:=Tryz.zeroValue283 }
theorem Tryz.Builder_Extra_156:Builder.Extra Tryz.prog Tryz.lays156_ren:={
 sizeBuilder:=by kernel_rfl
 liesBuilder:=by kernel_rfl
 t5:=Tryz.underlying5
 a5:=Tryz.isAgg5
 z5:=Tryz.sizeOf5
 v5:=Tryz.zeroValue5
 infoByte:=by kernel_rfl
 cellsByte:=by kernel_rfl
 sizeByte:=by kernel_rfl
 neB5:=by decide }
open Go.RowKit in
theorem Tryz.strings_Join (bk o c:Nat)(J:List ByteArray)(I:ByteArray)(w:World)(D:∀(j:Nat) x,J[j]?=some x->w.cell? ⟨bk,o+j,none⟩=some (.string x))(Z:bk<w.heap.size)(hN:J.length<=140737488355328)(M:J.length<=c)(O:(Lib.join (J.map (·.data.toList)) I.data.toList).length<=140737488355328) :
 Calls Tryz.prog 78 #[.slice (some ⟨bk,o,none⟩) J.length c,.string I] w λe w'=>e=.returned (.string ⟨(Lib.join (J.map (·.data.toList)) I.data.toList).toArray⟩)/\Below w.heap.size w w':=Any.strings_Join Tryz.lays156 Tryz.Builder_Extra_156 bk o c J I w D Z hN M O
def Tryz.lays160_ren:Go.Shelf.Ren:=⟨fun|160=>136|232=>185|231=>184|227=>186|234=>188|233=>187|236=>190|235=>189|228=>240|271=>243|151=>242|197=>241|120=>282|152=>281|260=>280|137=>293|119=>294|224=>278|225=>277|217=>276|266=>291|n=>n,fun|9=>9|4=>4|3=>3|5=>5|117=>277|116=>276|0=>0|124=>280|21=>21|105=>331|46=>217|119=>368|139=>371|138=>370|n=>n,fun|3=>6|4=>7|n=>n⟩
theorem Tryz.lays160:Go.Proofs.Lays.n160 Tryz.prog Tryz.lays160_ren:={
 mixed:=by kernel_rfl
 f119:=Tryz.func294.trans (congrArg some kr)
 f120:=Tryz.func282.trans (congrArg some kr)
 f137:=Tryz.func293.trans (congrArg some kr)
 f151:=Tryz.func242.trans (congrArg some kr)
 f152:=Tryz.func281.trans (congrArg some kr)
 f160:=Tryz.func136.trans (congrArg some kr)
 f197:=Tryz.func241.trans (congrArg some kr)
 f217:=Tryz.func276.trans (congrArg some kr)
 f224:=Tryz.func278.trans (congrArg some kr)
 f225:=Tryz.func277.trans (congrArg some kr)
 f227:=Tryz.func186.trans (congrArg some kr)
 f228:=Tryz.func240.trans (congrArg some kr)
 f231:=Tryz.func184.trans (congrArg some kr)
 f232:=Tryz.func185.trans (congrArg some kr)
 f233:=Tryz.func187.trans (congrArg some kr)
 f234:=Tryz.func188.trans (congrArg some kr)
 f235:=Tryz.func189.trans (congrArg some kr)
 f236:=Tryz.func190.trans (congrArg some kr)
 f260:=Tryz.func280.trans (congrArg some kr)
 f266:=Tryz.func291.trans (congrArg some kr)
 f271:=Tryz.func243.trans (congrArg some kr)
 t0:=Tryz.underlying0
 a0:=Tryz.isAgg0
 z0:=Tryz.sizeOf0
 v0:=Tryz.zeroValue0
 t3:=Tryz.underlying3
 a3:=Tryz.isAgg3
 z3:=Tryz.sizeOf3
 v3:=Tryz.zeroValue3
 t4:=Tryz.underlying4
 a4:=Tryz.isAgg4
 z4:=Tryz.sizeOf4
 v4:=Tryz.zeroValue4
 t5:=Tryz.underlying5
 a5:=Tryz.isAgg5
 z5:=Tryz.sizeOf5
 v5:=Tryz.zeroValue5
 t9:=Tryz.underlying9
 a9:=Tryz.isAgg9
 z9:=Tryz.sizeOf9
 v9:=Tryz.zeroValue9
 t21:=Tryz.underlying21
 a21:=Tryz.isAgg21
 z21:=Tryz.sizeOf21
 v21:=Tryz.zeroValue21
 t46:=Tryz.underlying217
 a46:=Tryz.isAgg217
 z46:=Tryz.sizeOf217
 v46:=Tryz.zeroValue217
 t105:=Tryz.underlying331
 a105:=Tryz.isAgg331
 z105:=Tryz.sizeOf331
 v105:=Tryz.zeroValue331
 t116:=Tryz.underlying276
 a116:=Tryz.isAgg276
 z116:=Tryz.sizeOf276
 t117:=Tryz.underlying277
 a117:=Tryz.isAgg277
 z117:=Tryz.sizeOf277
 v117:=Tryz.zeroValue277
 t119:=Tryz.underlying368
 a119:=Tryz.isAgg368
 z119:=Tryz.sizeOf368
 t124:=Tryz.underlying280
 a124:=Tryz.isAgg280
 z124:=Tryz.sizeOf280
 v124:=Tryz.zeroValue280
 t138:=Tryz.underlying370
 a138:=Tryz.isAgg370
 z138:=Tryz.sizeOf370
 v138:=Tryz.zeroValue370
 t139:=Tryz.underlying371
 a139:=Tryz.isAgg371
 z139:=Tryz.sizeOf371
 v139:=Tryz.zeroValue371
 g3:=by kernel_rfl
 g4:=by kernel_rfl }
open Go.RowKit in
theorem Tryz.strings_Trim_one (s:ByteArray)(c:UInt8)(D:c.toNat<128)(w:World)(I:s.size<=9223372036854775807) :
 Calls Tryz.prog 136 #[.string s,.string ⟨#[c]⟩] w λe w'=>e=.returned (.string ⟨(Lib.trimB s.data.toList c).toArray⟩)/\(w'=w\/w'=w.drew):=Any.strings_Trim_one Tryz.lays160 s c D w I
def Tryz.laysM171_ren:Go.Shelf.Ren:=⟨fun|171=>71|243=>132|246=>181|283=>232|284=>233|285=>234|286=>235|129=>179|317=>270|318=>271|319=>272|320=>273|337=>289|338=>290|n=>n,fun|3=>3|9=>9|2=>2|4=>4|171=>325|0=>0|53=>270|37=>81|5=>5|173=>327|212=>360|51=>268|20=>20|213=>361|46=>217|232=>374|233=>375|n=>n,fun|17=>4|18=>8|19=>9|n=>n⟩
theorem Tryz.laysM171:Go.Proofs.LaysM.n171 Tryz.prog Tryz.laysM171_ren:={
 mixed:=by kernel_rfl
 f129:=Tryz.func179.trans (congrArg some kr)
 f171:=Tryz.func71.trans (congrArg some kr)
 f243:=Tryz.func132.trans (congrArg some kr)
 f246:=Tryz.func181.trans (congrArg some kr)
 f283:=Tryz.func232.trans (congrArg some kr)
 f284:=Tryz.func233.trans (congrArg some kr)
 f285:=Tryz.func234.trans (congrArg some kr)
 f286:=Tryz.func235.trans (congrArg some kr)
 f317:=Tryz.func270.trans (congrArg some kr)
 f318:=Tryz.func271.trans (congrArg some kr)
 f319:=Tryz.func272.trans (congrArg some kr)
 f320:=Tryz.func273.trans (congrArg some kr)
 f337:=Tryz.func289.trans (congrArg some kr)
 f338:=Tryz.func290.trans (congrArg some kr)
 t0:=Tryz.underlying0
 a0:=Tryz.isAgg0
 z0:=Tryz.sizeOf0
 v0:=Tryz.zeroValue0
 t2:=Tryz.underlying2
 a2:=Tryz.isAgg2
 z2:=Tryz.sizeOf2
 v2:=Tryz.zeroValue2
 t3:=Tryz.underlying3
 a3:=Tryz.isAgg3
 z3:=Tryz.sizeOf3
 v3:=Tryz.zeroValue3
 t4:=Tryz.underlying4
 a4:=Tryz.isAgg4
 z4:=Tryz.sizeOf4
 v4:=Tryz.zeroValue4
 t5:=Tryz.underlying5
 a5:=Tryz.isAgg5
 z5:=Tryz.sizeOf5
 v5:=Tryz.zeroValue5
 t9:=Tryz.underlying9
 a9:=Tryz.isAgg9
 z9:=Tryz.sizeOf9
 v9:=Tryz.zeroValue9
 t20:=Tryz.underlying20
 a20:=Tryz.isAgg20
 z20:=Tryz.sizeOf20
 v20:=Tryz.zeroValue20
 t37:=Tryz.underlying81
 a37:=Tryz.isAgg81
 z37:=Tryz.sizeOf81
 v37:=Tryz.zeroValue81
 t46:=Tryz.underlying217
 a46:=Tryz.isAgg217
 z46:=Tryz.sizeOf217
 v46:=Tryz.zeroValue217
 t51:=Tryz.underlying268
 a51:=Tryz.isAgg268
 z51:=Tryz.sizeOf268
 v51:=Tryz.zeroValue268
 t53:=Tryz.underlying270
 a53:=Tryz.isAgg270
 z53:=Tryz.sizeOf270
 v53:=Tryz.zeroValue270
 t171:=Tryz.underlying325
 a171:=Tryz.isAgg325
 z171:=Tryz.sizeOf325
 v171:=Tryz.zeroValue325
 t173:=Tryz.underlying327
 a173:=Tryz.isAgg327
 z173:=Tryz.sizeOf327
 v173:=Tryz.zeroValue327
 t212:=Tryz.underlying360
 a212:=Tryz.isAgg360
 z212:=Tryz.sizeOf360
 v212:=Tryz.zeroValue360
 t213:=Tryz.underlying361
 a213:=Tryz.isAgg361
 z213:=Tryz.sizeOf361
 t232:=Tryz.underlying374
 a232:=Tryz.isAgg374
 z232:=Tryz.sizeOf374
 v232:=Tryz.zeroValue374
 t233:=Tryz.underlying375
 a233:=Tryz.isAgg375
 z233:=Tryz.sizeOf375
 v233:=Tryz.zeroValue375
 g17:=by kernel_rfl
 g18:=by kernel_rfl
 g19:=by kernel_rfl
 i0:=by kernel_rfl
 i2:=by kernel_rfl
 i3:=by kernel_rfl
 i4:=by kernel_rfl
 i5:=by kernel_rfl
 i9:=by kernel_rfl
 i20:=by kernel_rfl
 i37:=by kernel_rfl
 i46:=by kernel_rfl
 i51:=by kernel_rfl
 i53:=by kernel_rfl
 i171:=by kernel_rfl
 i173:=by kernel_rfl
 i212:=by kernel_rfl
 i232:=by kernel_rfl
 i233:=by kernel_rfl
 m17:=by kernel_rfl
 m18:=by kernel_rfl
 m19:=by kernel_rfl }
open Go.RowKit Go.Sort Go.Lib in
theorem Tryz.strconv_Itoa (n:Int)(I:-9223372036854775808<=n)(h1:n<=9223372036854775807)(w:World)(D:Lib.TabIs Tryz.prog w "internal/strconv.uint64pow10" .u64 Lib.pow10Tab) :
 Calls Tryz.prog 71 #[.int .i64 n] w λe w'=>e=.returned (.string ⟨(Lib.itoa n).toArray⟩)/\∃k J,w'=grow (w.drewN k) J:=Any.strconv_Itoa Tryz.laysM171 n I h1 w D
def Tryz.laysC172_ren:Go.Shelf.Ren:=⟨fun|172=>283|244=>295|245=>296|247=>298|279=>299|280=>300|281=>301|282=>302|287=>303|316=>304|171=>71|205=>305|321=>306|322=>307|243=>132|246=>181|283=>232|284=>233|285=>234|286=>235|129=>179|317=>270|318=>271|319=>272|320=>273|337=>289|338=>290|n=>n,fun|9=>9|3=>3|75=>164|76=>165|4=>4|5=>5|167=>376|37=>81|0=>0|85=>377|2=>2|168=>379|53=>270|175=>382|46=>217|210=>386|127=>229|145=>392|143=>390|21=>21|171=>325|173=>327|212=>360|51=>268|20=>20|213=>361|232=>374|233=>375|80=>173|n=>n,fun|15=>10|16=>11|17=>4|18=>8|19=>9|n=>n⟩
theorem Tryz.laysC172:Go.Proofs.LaysC.n172 Tryz.prog Tryz.laysC172_ren:={
 mixed:=by kernel_rfl
 f129:=Tryz.func179.trans (congrArg some kr)
 f171:=Tryz.func71.trans (congrArg some kr)
 f172:=Tryz.func283.trans (congrArg some kr)
 f205:=Tryz.func305.trans (congrArg some kr)
 f243:=Tryz.func132.trans (congrArg some kr)
 f244:=Tryz.func295.trans (congrArg some kr)
 f245:=Tryz.func296.trans (congrArg some kr)
 f246:=Tryz.func181.trans (congrArg some kr)
 f247:=Tryz.func298.trans (congrArg some kr)
 f279:=Tryz.func299.trans (congrArg some kr)
 f280:=Tryz.func300.trans (congrArg some kr)
 f281:=Tryz.func301.trans (congrArg some kr)
 f282:=Tryz.func302.trans (congrArg some kr)
 f283:=Tryz.func232.trans (congrArg some kr)
 f284:=Tryz.func233.trans (congrArg some kr)
 f285:=Tryz.func234.trans (congrArg some kr)
 f286:=Tryz.func235.trans (congrArg some kr)
 f287:=Tryz.func303.trans (congrArg some kr)
 f316:=Tryz.func304.trans (congrArg some kr)
 f317:=Tryz.func270.trans (congrArg some kr)
 f318:=Tryz.func271.trans (congrArg some kr)
 f319:=Tryz.func272.trans (congrArg some kr)
 f320:=Tryz.func273.trans (congrArg some kr)
 f321:=Tryz.func306.trans (congrArg some kr)
 f322:=Tryz.func307.trans (congrArg some kr)
 f337:=Tryz.func289.trans (congrArg some kr)
 f338:=Tryz.func290.trans (congrArg some kr)
 t0:=Tryz.underlying0
 a0:=Tryz.isAgg0
 z0:=Tryz.sizeOf0
 v0:=Tryz.zeroValue0
 t2:=Tryz.underlying2
 a2:=Tryz.isAgg2
 z2:=Tryz.sizeOf2
 v2:=Tryz.zeroValue2
 t3:=Tryz.underlying3
 a3:=Tryz.isAgg3
 z3:=Tryz.sizeOf3
 v3:=Tryz.zeroValue3
 t4:=Tryz.underlying4
 a4:=Tryz.isAgg4
 z4:=Tryz.sizeOf4
 v4:=Tryz.zeroValue4
 t5:=Tryz.underlying5
 a5:=Tryz.isAgg5
 z5:=Tryz.sizeOf5
 v5:=Tryz.zeroValue5
 t9:=Tryz.underlying9
 a9:=Tryz.isAgg9
 z9:=Tryz.sizeOf9
 v9:=Tryz.zeroValue9
 t20:=Tryz.underlying20
 a20:=Tryz.isAgg20
 z20:=Tryz.sizeOf20
 v20:=Tryz.zeroValue20
 t21:=Tryz.underlying21
 a21:=Tryz.isAgg21
 z21:=Tryz.sizeOf21
 v21:=Tryz.zeroValue21
 t37:=Tryz.underlying81
 a37:=Tryz.isAgg81
 z37:=Tryz.sizeOf81
 v37:=Tryz.zeroValue81
 t46:=Tryz.underlying217
 a46:=Tryz.isAgg217
 z46:=Tryz.sizeOf217
 v46:=Tryz.zeroValue217
 t51:=Tryz.underlying268
 a51:=Tryz.isAgg268
 z51:=Tryz.sizeOf268
 v51:=Tryz.zeroValue268
 t53:=Tryz.underlying270
 a53:=Tryz.isAgg270
 z53:=Tryz.sizeOf270
 v53:=Tryz.zeroValue270
 t75:=Tryz.underlying164
 a75:=Tryz.isAgg164
 z75:=Tryz.sizeOf164
 v75:=Tryz.zeroValue164
 t76:=Tryz.underlying165
 a76:=Tryz.isAgg165
 z76:=Tryz.sizeOf165
 v76:=Tryz.zeroValue165
 t85:=Tryz.underlying377
 a85:=Tryz.isAgg377
 z85:=Tryz.sizeOf377
 v85:=Tryz.zeroValue377
 t127:=Tryz.underlying229
 a127:=Tryz.isAgg229
 z127:=Tryz.sizeOf229
 v127:=Tryz.zeroValue229
 t143:=Tryz.underlying390
 a143:=Tryz.isAgg390
 z143:=Tryz.sizeOf390
 v143:=Tryz.zeroValue390
 t145:=Tryz.underlying392
 a145:=Tryz.isAgg392
 z145:=Tryz.sizeOf392
 v145:=Tryz.zeroValue392
 t167:=Tryz.underlying376
 a167:=Tryz.isAgg376
 z167:=Tryz.sizeOf376
 v167:=Tryz.zeroValue376
 t168:=Tryz.underlying379
 a168:=Tryz.isAgg379
 z168:=Tryz.sizeOf379
 v168:=Tryz.zeroValue379
 t171:=Tryz.underlying325
 a171:=Tryz.isAgg325
 z171:=Tryz.sizeOf325
 v171:=Tryz.zeroValue325
 t173:=Tryz.underlying327
 a173:=Tryz.isAgg327
 z173:=Tryz.sizeOf327
 v173:=Tryz.zeroValue327
 t175:=Tryz.underlying382
 a175:=Tryz.isAgg382
 z175:=Tryz.sizeOf382
 v175:=Tryz.zeroValue382
 t210:=Tryz.underlying386
 a210:=Tryz.isAgg386
 z210:=Tryz.sizeOf386
 v210:=Tryz.zeroValue386
 t212:=Tryz.underlying360
 a212:=Tryz.isAgg360
 z212:=Tryz.sizeOf360
 v212:=Tryz.zeroValue360
 t213:=Tryz.underlying361
 a213:=Tryz.isAgg361
 z213:=Tryz.sizeOf361
 t232:=Tryz.underlying374
 a232:=Tryz.isAgg374
 z232:=Tryz.sizeOf374
 v232:=Tryz.zeroValue374
 t233:=Tryz.underlying375
 a233:=Tryz.isAgg375
 z233:=Tryz.sizeOf375
 v233:=Tryz.zeroValue375
 g15:=by kernel_rfl
 g16:=by kernel_rfl
 g17:=by kernel_rfl
 g18:=by kernel_rfl
 g19:=by kernel_rfl
 t80:=Tryz.underlying173
 a80:=Tryz.isAgg173
 z80:=Tryz.sizeOf173
 v80:=Tryz.zeroValue173
 i0:=by kernel_rfl
 i2:=by kernel_rfl
 i3:=by kernel_rfl
 i4:=by kernel_rfl
 i5:=by kernel_rfl
 i9:=by kernel_rfl
 i20:=by kernel_rfl
 i21:=by kernel_rfl
 i37:=by kernel_rfl
 i46:=by kernel_rfl
 i51:=by kernel_rfl
 i53:=by kernel_rfl
 i75:=by kernel_rfl
 i76:=by kernel_rfl
 i80:=by kernel_rfl
 i85:=by kernel_rfl
 i127:=by kernel_rfl
 i143:=by kernel_rfl
 i145:=by kernel_rfl
 i167:=by kernel_rfl
 i168:=by kernel_rfl
 i171:=by kernel_rfl
 i173:=by kernel_rfl
 i175:=by kernel_rfl
 i210:=by kernel_rfl
 i212:=by kernel_rfl
 i232:=by kernel_rfl
 i233:=by kernel_rfl
 m15:=by kernel_rfl
 m16:=by kernel_rfl
 m17:=by kernel_rfl
 m18:=by kernel_rfl
 m19:=by kernel_rfl
 c0:=by kernel_rfl
 c2:=by kernel_rfl
 c3:=by kernel_rfl
 c4:=by kernel_rfl
 c5:=by kernel_rfl
 c9:=by kernel_rfl
 c20:=by kernel_rfl
 c21:=by kernel_rfl
 c37:=by kernel_rfl
 c46:=by kernel_rfl
 c51:=by kernel_rfl
 c53:=by kernel_rfl
 c75:=by kernel_rfl
 c76:=by kernel_rfl
 c80:=by kernel_rfl
 c85:=by kernel_rfl
 c127:=by kernel_rfl
 c143:=by kernel_rfl
 c145:=by kernel_rfl
 c167:=by kernel_rfl
 c168:=by kernel_rfl
 c171:=by kernel_rfl
 c173:=by kernel_rfl
 c175:=by kernel_rfl
 c210:=by kernel_rfl
 c212:=by kernel_rfl
 c213:=by kernel_rfl
 c232:=by kernel_rfl
 c233:=by kernel_rfl }
open Go.RowKit in
theorem Tryz.strconv_Atoi_ok (s:ByteArray)(D:s.size<=9223372036854775806)(v:Int)(h:Lib.atoiAll s.data.toList=.ok v)(w:World) :
 Calls Tryz.prog 283 #[.string s] w λe w'=>e=.returned (.tuple #[.int .i64 v,.nilIface])/\(w'=w\/∃t,w'=Lib.bytesWorld w 5 t):=Any.strconv_Atoi_ok Tryz.laysC172 s D v h w
open Go.RowKit in
theorem Tryz.strconv_Atoi_syntax (s:ByteArray)(D:s.size<=281474976710656)(h:Lib.atoiAll s.data.toList=Lib.atoiAll [])(ev:Value)(w:World)(J:w.cell? ⟨10,0,none⟩=some ev)(I:ev=.nilIface\/∃te M,ev=.iface te M) :
 Calls Tryz.prog 283 #[.string s] w λe w'=>∃N,e=.returned (.tuple #[.int .i64 (0),.iface 379 (.pointer (some ⟨N,0,none⟩))])/\w.heap.size<=N/\w'.heap[N]?=some (.cells #[.string ⟨#[65,116,111,105]⟩,.string s,ev] 386 (0,0))/\Below w.heap.size w w':=Any.strconv_Atoi_syntax Tryz.laysC172 s D h ev w J I
open Go.RowKit in
theorem Tryz.strconv_Atoi_range (s:ByteArray)(D:s.size<=281474976710656)(h:Lib.atoiAll s.data.toList=.range)(ev:Value)(w:World)(J:w.cell? ⟨11,0,none⟩=some ev)(I:ev=.nilIface\/∃te M,ev=.iface te M) :
 Calls Tryz.prog 283 #[.string s] w λe w'=>∃N,e=.returned (.tuple #[.int .i64 (Lib.atoiSat s.data.toList),.iface 379 (.pointer (some ⟨N,0,none⟩))])/\w.heap.size<=N/\w'.heap[N]?=some (.cells #[.string ⟨#[65,116,111,105]⟩,.string s,ev] 386 (0,0))/\Below w.heap.size w w':=Any.strconv_Atoi_range Tryz.laysC172 s D h ev w J I
def Tryz.lays145_ren:Go.Shelf.Ren:=⟨fun|145=>135|220=>183|219=>239|217=>276|225=>277|224=>278|267=>279|266=>291|314=>292|n=>n,fun|9=>9|4=>4|59=>223|3=>3|5=>5|46=>217|146=>366|51=>268|n=>n,fun|1=>5|n=>n⟩
theorem Tryz.lays145:Go.Proofs.Lays.n145 Tryz.prog Tryz.lays145_ren:={
 mixed:=by kernel_rfl
 f145:=Tryz.func135.trans (congrArg some kr)
 f217:=Tryz.func276.trans (congrArg some kr)
 f219:=Tryz.func239.trans (congrArg some kr)
 f220:=Tryz.func183.trans (congrArg some kr)
 f224:=Tryz.func278.trans (congrArg some kr)
 f225:=Tryz.func277.trans (congrArg some kr)
 f266:=Tryz.func291.trans (congrArg some kr)
 f267:=Tryz.func279.trans (congrArg some kr)
 f314:=Tryz.func292.trans (congrArg some kr)
 t3:=Tryz.underlying3
 a3:=Tryz.isAgg3
 z3:=Tryz.sizeOf3
 v3:=Tryz.zeroValue3
 t4:=Tryz.underlying4
 a4:=Tryz.isAgg4
 z4:=Tryz.sizeOf4
 v4:=Tryz.zeroValue4
 t5:=Tryz.underlying5
 a5:=Tryz.isAgg5
 z5:=Tryz.sizeOf5
 v5:=Tryz.zeroValue5
 t9:=Tryz.underlying9
 a9:=Tryz.isAgg9
 z9:=Tryz.sizeOf9
 v9:=Tryz.zeroValue9
 t46:=Tryz.underlying217
 a46:=Tryz.isAgg217
 z46:=Tryz.sizeOf217
 v46:=Tryz.zeroValue217
 t51:=Tryz.underlying268
 a51:=Tryz.isAgg268
 z51:=Tryz.sizeOf268
 v51:=Tryz.zeroValue268
 t59:=Tryz.underlying223
 a59:=Tryz.isAgg223
 z59:=Tryz.sizeOf223
 v59:=Tryz.zeroValue223
 t146:=Tryz.underlying366
 a146:=Tryz.isAgg366
 z146:=Tryz.sizeOf366
 v146:=Tryz.zeroValue366
 g1:=by kernel_rfl }
open Go.RowKit Go.Lib in
theorem Tryz.strings_Cut (s D:ByteArray)(m:Int)(w:World)(J:s.size<4294967281)(I:w.cell? ⟨5,0,none⟩=some (.int .i64 m)) :
 Calls Tryz.prog 135 #[.string s,.string D] w λe w'=>e=.returned (.tuple #[.string ⟨(Lib.cut s.data.toList D.data.toList).1.toArray⟩,.string ⟨(Lib.cut s.data.toList D.data.toList).2.1.toArray⟩,.bool (Lib.cut s.data.toList D.data.toList).2.2])/\∃n,w'=w.drewN n:=Any.strings_Cut Tryz.lays145 s D m w J I
def Tryz.lays146_ren:Go.Shelf.Ren:=⟨fun|146=>134|221=>182|268=>236|138=>237|143=>238|195=>274|197=>241|218=>275|219=>239|260=>280|217=>276|225=>277|224=>278|267=>279|266=>291|314=>292|n=>n,fun|9=>9|31=>84|3=>3|4=>4|0=>0|105=>331|21=>21|5=>5|46=>217|119=>368|139=>371|138=>370|146=>366|51=>268|n=>n,fun|1=>5|3=>6|4=>7|n=>n⟩
theorem Tryz.lays146:Go.Proofs.Lays.n146 Tryz.prog Tryz.lays146_ren:={
 mixed:=by kernel_rfl
 f138:=Tryz.func237.trans (congrArg some kr)
 f143:=Tryz.func238.trans (congrArg some kr)
 f146:=Tryz.func134.trans (congrArg some kr)
 f195:=Tryz.func274.trans (congrArg some kr)
 f197:=Tryz.func241.trans (congrArg some kr)
 f217:=Tryz.func276.trans (congrArg some kr)
 f218:=Tryz.func275.trans (congrArg some kr)
 f219:=Tryz.func239.trans (congrArg some kr)
 f221:=Tryz.func182.trans (congrArg some kr)
 f224:=Tryz.func278.trans (congrArg some kr)
 f225:=Tryz.func277.trans (congrArg some kr)
 f260:=Tryz.func280.trans (congrArg some kr)
 f266:=Tryz.func291.trans (congrArg some kr)
 f267:=Tryz.func279.trans (congrArg some kr)
 f268:=Tryz.func236.trans (congrArg some kr)
 f314:=Tryz.func292.trans (congrArg some kr)
 t0:=Tryz.underlying0
 a0:=Tryz.isAgg0
 z0:=Tryz.sizeOf0
 v0:=Tryz.zeroValue0
 t3:=Tryz.underlying3
 a3:=Tryz.isAgg3
 z3:=Tryz.sizeOf3
 v3:=Tryz.zeroValue3
 t4:=Tryz.underlying4
 a4:=Tryz.isAgg4
 z4:=Tryz.sizeOf4
 v4:=Tryz.zeroValue4
 t5:=Tryz.underlying5
 a5:=Tryz.isAgg5
 z5:=Tryz.sizeOf5
 v5:=Tryz.zeroValue5
 t9:=Tryz.underlying9
 a9:=Tryz.isAgg9
 z9:=Tryz.sizeOf9
 v9:=Tryz.zeroValue9
 t21:=Tryz.underlying21
 a21:=Tryz.isAgg21
 z21:=Tryz.sizeOf21
 v21:=Tryz.zeroValue21
 t31:=Tryz.underlying84
 a31:=Tryz.isAgg84
 z31:=Tryz.sizeOf84
 v31:=Tryz.zeroValue84
 t46:=Tryz.underlying217
 a46:=Tryz.isAgg217
 z46:=Tryz.sizeOf217
 v46:=Tryz.zeroValue217
 t51:=Tryz.underlying268
 a51:=Tryz.isAgg268
 z51:=Tryz.sizeOf268
 v51:=Tryz.zeroValue268
 t105:=Tryz.underlying331
 a105:=Tryz.isAgg331
 z105:=Tryz.sizeOf331
 v105:=Tryz.zeroValue331
 t119:=Tryz.underlying368
 a119:=Tryz.isAgg368
 z119:=Tryz.sizeOf368
 t138:=Tryz.underlying370
 a138:=Tryz.isAgg370
 z138:=Tryz.sizeOf370
 v138:=Tryz.zeroValue370
 t139:=Tryz.underlying371
 a139:=Tryz.isAgg371
 z139:=Tryz.sizeOf371
 v139:=Tryz.zeroValue371
 t146:=Tryz.underlying366
 a146:=Tryz.isAgg366
 z146:=Tryz.sizeOf366
 v146:=Tryz.zeroValue366
 g1:=by kernel_rfl
 g3:=by kernel_rfl
 g4:=by kernel_rfl }
open Go.RowKit Go.Lib in
theorem Tryz.strings_Split (s D:ByteArray)(m:Int)(w:World)(J:s.size<4294967281)(I:w.cell? ⟨5,0,none⟩=some (.int .i64 m))(h1:1<=D.size) :
 Calls Tryz.prog 134 #[.string s,.string D] w λe w'=>
  e=.returned (.slice (some ⟨w.heap.size,0,none⟩) (Lib.countB s D+1) (Lib.countB s D+1))/\w'=w.alloc (.cells ((Lib.splitB D 0 (Lib.countB s D) s).map Value.string).toArray 9):=Any.strings_Split Tryz.lays146 kr s D m w J I h1
end Go.Proofs
namespace Go.Proofs.YtjilcnmaefhmeaaGreatDoor
open Go.Lw _root_.Go.Proofs.Tryz
theorem j4n:CallOf prog 71:=mkC func71
theorem j7h {w w':World}{D:String}{k:IntKind}{zs:List Int}{S:List Nat}(h:Lib.TabIs prog w D k zs)(hf:Fr S w w')(M:∀g,prog.globalNamed D=some g->g∉S):Lib.TabIs prog w' D k zs:=by
 unfold Lib.TabIs World.var? at *
 cases hg:prog.globalNamed D with
 | none=>simp[hg]at h
 | some g=>
  simp only[hg,Option.bind_some]at h ⊢;have J:g<w.heap.size:=by
   rcases Nat.lt_or_ge g w.heap.size with I|I
   exact I;rw[Array.getElem?_eq_none I]at h;simp at h
  rw[hf.block g J (M g hg)];exact h
theorem gPow:prog.globalNamed "internal/strconv.uint64pow10" =some 4:=kr
structure Glob (w:World):Prop where
  wd:Cells w ⟨1,0,none⟩ (z8n.map S)
  dr:Cells w ⟨2,0,none⟩ (x1x.map S)
  ml:IntAt 5 w
  tab:Lib.TabIs prog w "internal/strconv.uint64pow10" .u64 Lib.pow10Tab
  es:∃te pe,w.cell? ⟨10,0,none⟩=some (.iface te pe)
  er:∃te pe,w.cell? ⟨11,0,none⟩=some (.iface te pe)
  sz:12<=w.heap.size
theorem Glob.fr {w w':World}{S:List Nat}(h:Glob w)(hf:Fr S w w')(J:∀k∈S,12<=k):Glob w':=by
 have D:∀g,g<12->g∉S:=λg I e=>by have:=J g e;omega
 exact⟨h.wd.fr hf (D _ dd),h.dr.fr hf (D _ dd),h.ml.fr hf (D _ dd),j7h h.tab hf (λg I=>by rw[gPow]at I;cases I;exact D _ dd),let ⟨a,b,e⟩:=h.es;⟨a,b,hf.cell e (D _ dd)⟩,let ⟨a,b,e⟩:=h.er;⟨a,b,hf.cell e (D _ dd)⟩,Nat.le_trans h.sz hf.size⟩
theorem Glob.ext {w w':World}(h:Glob w)(hf:Fr [] w w'):Glob w':=h.fr hf sp0
theorem v5y (w:World)(k:Nat)(l:Array Obj):Fr [] w (Sort.grow (w.drewN k) l):=
 (Fr.drewN [] w k).next ⟨rfl,rfl,rfl,by simp[Sort.grow],λk D _=>by simp only[Sort.grow];exact Array.getElem?_append_left D⟩
theorem x0t (n:Int)(w0:World)(hG:Glob w0)(h:-99<=n/\n<=99):Rets prog 71 #[.int .i64 n] w0 λv w'=>v=S (x4w n)/\Fr [] w0 w':=by
 refine Calls.mono (strconv_Itoa n oo oo w0 hG.tab) ?_;rintro e w' ⟨rfl,k,D,rfl⟩;exact⟨_,rfl,by rw[v7j h];rfl,v5y _ _ _⟩
theorem x1c (b p:Int)(w0:World)(hG:Glob w0):Rets prog 247 #[.agg #[.int .u8 b,.int .i64 p]] w0 λv w'=>v=S (v4v b p)/\Fr [] w0 w':=by
 have Z:=hG.sz;refine we [(0,.agg #[.int .u8 b,.int .i64 p])] func247 U ntmps247 U (.cons U .nil) (sr (bx U (λg1 w1 a0 D M z1=>(asg U (nn (sq (sr (z0n U D z4k (cl (ev1 U) u4h (z4t _ _ _) U ?_)))))))));rintro _ w2 ⟨rfl,I⟩;refine ne' U (nn (cd U (λJ=>?_) (λJ=>?_)));refine sr (asg U (nn (rt (tr (r1 results247 U ?_)))));exact⟨_,rfl,by rw[v4v,if_pos J]<;>rfl,(M.n1 I)⟩;have hr:=x9j.1 (Classical.not_not.1 J);refine sk (tn (sq (sr (fad U z6v ?_))));replace D:=D.ext I;refine z0i U D U x9d (eq' U (nn (cd U (λO=>?_) (λO=>?_))));refine sr (fad U z6x (z0i U D U na3 ?_));replace hG:=hG.ext (M.n1 I);refine cl (ev1 U) j4n (x0t _ _ hG oo) U ?_;rintro _ w3 ⟨rfl,q3⟩;refine y0g U U (by have:=y5e p;simp;omega) (asg U (kpL [(2,_)] (.cons U .nil) (nn (rt (tr (r1 results247 U ?_))))));exact⟨_,rfl,by rw[v4v,if_neg J,if_pos O]<;>rfl,(M.n2 I q3)⟩;refine sk (tn (sr (fad U z6x (z0i U D U na3 ?_))));replace hG:=hG.ext (M.n1 I);refine cl (ev1 U) j4n (x0t _ _ hG oo) U ?_;rintro _ w4 ⟨rfl,q4⟩;refine y0g U U (by have:=y5e p;simp;omega) (asg U (kpL [(2,_)] (.cons U .nil) (nn (rt (r1 results247 U ?_)))));exact⟨_,rfl,by rw[v4v,if_neg J,if_neg O]<;>rfl,(M.n2 I q4)⟩
theorem u0v (v:Value)(ys:List (List UInt8))(D:List UInt8)(base T:Nat)(w0:World)(I:Lw.Own Enc.str T base w0 v ys)(M:ys≠[])(hl:(Lib.join ys D).length<=1000000)(a0:ys.length<=1000000):Rets prog 78 #[v,S D] w0 λr w'=>r=S (Lib.join ys D)/\Fr [] w0 w':=by
 rcases I with ⟨_,e⟩|⟨g,cap,cur,rfl,J,O,h1,h2,h3,h4⟩
 exact absurd e M;have hm:(ys.map (λy=>(⟨y.toArray⟩:ByteArray))).map (·.data.toList)=ys:=by rw[List.map_map];simp[Function.comp_def]
 have I:Lw.Own Enc.str T base w0 (.slice (some ⟨g,0,none⟩) ys.length cap) ys:=.inr ⟨g,cap,cur,rfl,J,O,h1,h2,h3,h4⟩;have Z:=strings_Join g 0 cap (ys.map (λy=>(⟨y.toArray⟩:ByteArray))) ⟨D.toArray⟩ w0 (λj x hx=>by
  rw[List.getElem?_map,Option.map_eq_some_iff]at hx;obtain⟨y,hy,rfl⟩:=hx;obtain⟨A,c,e,_,_,hA⟩:=I.sl;cases e;obtain⟨ad,e1,hc⟩:=hA j y hy;cases e1;have:=hc 0 (S y) U;rw[z4q,z4q,Nat.add_zero,show Enc.str.sz=1 from U,Nat.mul_one]at this;exact this) ((Array.getElem?_eq_some_iff.1 O).1) so so (by rw[hm];simp;omega)
 rw[hm,List.length_map]at Z;refine Calls.mono Z ?_;rintro e w' ⟨rfl,J⟩;exact⟨_,rfl,by simp[S],Fr.of_below J⟩
theorem u1o (w:World)(t:ByteArray):Fr [] w (Lib.bytesWorld w 5 t):=Fr.of_below (Lib.bytesWorld_below w 5 t)
theorem j2q (l:List UInt8)(w0:World)(hG:Glob w0)(hl:l.length<=1000000):Rets prog 283 #[S l] w0 λr w'=>∃n e,∃b:Bool,r=.tuple #[.int .i64 n,e]/\(e=.nilIface/\b=false\/(∃t p,e=.iface t p)/\b=true)/\u1u l=(if b=true then 0 else n)/\Fr [] w0 w':=by
 have O:(⟨l.toArray⟩:ByteArray).size=l.length:=by simp[ByteArray.size]
 rcases h:Lib.atoiAll l with v|_|_
 refine Calls.mono (strconv_Atoi_ok ⟨l.toArray⟩ oo v (by simpa using h) w0) ?_;rintro e w' ⟨rfl,J⟩;refine⟨_,rfl,v,.nilIface,false,rfl,.inl ⟨rfl,rfl⟩,by simp[u1u,h],?_⟩;rcases J with rfl|⟨t,rfl⟩
 exact Fr.refl _ _;exact u1o w0 t;obtain⟨te,M,I⟩:=hG.es;refine Calls.mono (strconv_Atoi_syntax ⟨l.toArray⟩ oo (show Lib.atoiAll l=Lib.atoiAll [] from h) _ w0 I (.inr ⟨_,_,rfl⟩)) ?_;rintro e w' ⟨N,rfl,_,_,D⟩;exact⟨_,rfl,_,_,true,rfl,.inr ⟨⟨_,_,rfl⟩,rfl⟩,by simp[u1u,h],Fr.of_below D⟩;obtain⟨te,M,I⟩:=hG.er;refine Calls.mono (strconv_Atoi_range ⟨l.toArray⟩ oo (by simpa using h) _ w0 I (.inr ⟨_,_,rfl⟩)) ?_;rintro e w' ⟨N,rfl,_,_,D⟩;exact⟨_,rfl,_,_,true,rfl,.inr ⟨⟨_,_,rfl⟩,rfl⟩,by simp[u1u,h],Fr.of_below D⟩
theorem x8w (l D:List UInt8)(w0:World)(hG:Glob w0)(hl:l.length<4294967281)(h1:1<=D.length):Rets prog 134 #[S l,S D] w0 λr w'=>Lw.Own Enc.str 9 w0.heap.size w' r (Lib.split l D)/\Fr [] w0 w':=by
 obtain⟨k,hk⟩:=hG.ml;have hs:(⟨l.toArray⟩:ByteArray).size=l.length:=by simp[ByteArray.size]
 have a0:(⟨D.toArray⟩:ByteArray).size=D.length:=by simp[ByteArray.size]
 refine Calls.mono (strings_Split ⟨l.toArray⟩ ⟨D.toArray⟩ k w0 oo hk oo) ?_;rintro e w' ⟨rfl,rfl⟩;have Z:=Lib.splitB_data ⟨D.toArray⟩ 0 (Lib.countB ⟨l.toArray⟩ ⟨D.toArray⟩) ⟨l.toArray⟩;have O:Lib.countB ⟨l.toArray⟩ ⟨D.toArray⟩=Lib.count l D:=by simp[Lib.countB]
 have I:=Lib.splitB_all ⟨D.toArray⟩ oo 0 _ ⟨l.toArray⟩ U;have J:=Lib.countB_le ⟨D.toArray⟩ oo _ ⟨l.toArray⟩ (Nat.le_refl _);rw[hs]at J;have M:Lib.split l D=(Lib.splitB ⟨D.toArray⟩ 0 (Lib.countB ⟨l.toArray⟩ ⟨D.toArray⟩) ⟨l.toArray⟩).map (·.data.toList):=by rw[Z,O];rfl
 have hz:∀zs:List ByteArray,zs.map Value.string=(zs.map (·.data.toList)).flatMap Enc.str.enc:=λzs=>by
  induction zs with
  | nil=>rfl
  | cons z zs ih=>rw[List.map_cons,List.map_cons,List.flatMap_cons,<-ih];rfl
 refine⟨_,rfl,.inr ⟨w0.heap.size,Lib.countB ⟨l.toArray⟩ ⟨D.toArray⟩+1,_,by rw[M,List.length_map,I],Nat.le_refl _,heap_alloc_new w0 _,by rw[M,List.length_map,I];exact Nat.le_refl _,by unfold maxLen;omega,?_,?_⟩,Fr.alloc [] w0 _⟩;rw[show Enc.str.sz=1 from U,Nat.mul_one,List.size_toArray,List.length_map,I];exact Nat.le_refl _;rw[M,List.length_map,I,show Enc.str.sz=1 from U,Nat.mul_one,<-hz];exact List.take_of_length_le (by rw[List.length_map,I];exact Nat.le_refl _)
theorem u9u (l:List UInt8)(w0:World)(hl:l.length<=1000000000):Rets prog 136 #[S l,S [32]] w0 λr w'=>r=S (Lib.trimB l 32)/\Fr [] w0 w':=by
 refine Calls.mono (strings_Trim_one ⟨l.toArray⟩ 32 dd w0 (by simp[ByteArray.size];omega)) ?_;rintro e w' ⟨rfl,rfl|rfl⟩;exact⟨_,rfl,by simp[S],Fr.refl _ _⟩;exact⟨_,rfl,by simp[S],Fr.drew _ _⟩
theorem j1c (l m:List UInt8)(w0:World)(hG:Glob w0)(hl:l.length<4294967281):Rets prog 135 #[S l,S m] w0 λv w'=>v=.tuple #[S (Lib.cut l m).1,S (Lib.cut l m).2.1,.bool (Lib.cut l m).2.2]/\Fr [] w0 w':=by
 obtain⟨k,D⟩:=hG.ml;refine Calls.mono (strings_Cut ⟨l.toArray⟩ ⟨m.toArray⟩ k w0 (by simpa[ByteArray.size] using hl) D) ?_;rintro e w' ⟨rfl,n,rfl⟩;exact⟨_,rfl,rfl,Fr.drewN _ _ _⟩
theorem y6y:ElemOf prog 84 9 Enc.str 16:=ElemOf.mk' (z:=(.string ⟨#[]⟩)) underlying84 kr U
theorem na9:z2c prog 9:=λ_=>kr
theorem sz9:z1q prog 9 1:=λ_=>kr
theorem y1g (l:List UInt8)(w0:World)(hG:Glob w0)(hl:l.length<=1000000):Rets prog 244 #[S l] w0 λv w'=>v=.int .i64 (u1u l)/\Fr [] w0 w':=by
 have M:=hG.sz;refine we [(0,S l)] func244 U ntmps244 U (.cons U .nil) (sr (asg U (nn (sr (mv U U (cl (ev1 U) (mkC func283) (j2q _ _ hG oo) U ?_))))));rintro _ w1 ⟨n,e,b,rfl,O,I,J⟩;refine mv U U (xt U (xt U (asg U (asg U (kpL [(3,_),(4,_)] (.c2 U U) (nn (sq (sr (mv U U (u9w U underlying164 O U (nn (cd U (λD=>?_) (λD=>?_)))))))))))));exact sr (asg U (nn (rt (tr (r1 results244 U ⟨_,rfl,by simp[I,D],J⟩)))));exact sk (tn (sr (mv U U (asg U (nn (rt (r1 results244 U ⟨_,rfl,by simp[I,D],J⟩)))))))
theorem u6q (l:List UInt8)(w0:World)(hG:Glob w0):Rets prog 245 #[S l] w0 λv w'=>v=.int .u8 (j8i l)/\Fr [] w0 w':=by
 have I:=hG.sz;refine we [(0,S l)] func245 U ntmps245 U (.cons U .nil) (sr (asg U (nn (sq (sr (mv U U (y3z U U underlying338 sz9 (y0y U hG.dr U na9 U (x4y U (nn (cd U (λD=>?_) (λD=>?_))))))))))));exact sr (asg U (nn (rt (tr (r1 results245 U ⟨_,rfl,by rw[j8i,if_pos D],(Fr.refl _ _)⟩)))));exact sk (tn (sr (asg U (nn (rt (r1 results245 U ⟨_,rfl,by rw[j8i,if_neg D],(Fr.refl _ _)⟩))))))
theorem j3b (o:MOp)(w0:World)(hG:Glob w0):Rets prog 192 #[opV o] w0 λv w'=>v=S (j9d o)/\Fr [] w0 w':=by
 have f1:=hG.sz;refine we [(0,opV o)] func192 U ntmps192 U (.cons U .nil) (sr (bx U (λg1 w1 f2 I q1 z1=>(asg U (nn (sq (sr (z0n U I y6p (cl (ev1 U) (mkC func100) (y8r o _) U ?_)))))))));rintro _ w2 ⟨rfl,q2⟩;have z2:=q2.size;refine ne' U (nn (cd U (λc0=>?_) (λc0=>?_)));refine sr (asg U (nn (rt (tr (r1 results192 U ?_)))));exact⟨_,rfl,by rw[j9d,if_pos c0]<;>rfl,(q1.n1 q2)⟩;have hr:=v9f (Classical.not_not.1 c0);refine sk (tn (sr (fad U z3i ?_)));replace I:=I.ext q2;refine z0i U I U na5 (z4y U (us underlying5) underlying3 (wi6 oo) ?_);replace hG:=hG.ext (q1.n1 q2);refine cl (ev1 U) j4n (x0t _ _ hG oo) U ?_;rintro _ w3 ⟨rfl,q3⟩;have z3:=q3.size;refine asg U (nn (sr (fad U z6y ?_)));replace I:=I.ext q3;refine z0i U I U v1s (y3z U U underlying334 sz9 ?_);replace hG:=hG.ext q3;refine y0y U hG.wd (v8t oo) na9 U (z2t ([x6t o.k]) (ev1 U) U y6y (λJ w4 e2 D q4 z4=>(asg U ?_)));replace D:=D.low (show w0.heap.size<=J by omega);refine nn (jn (ι:=Value) [] (λv4=>[(4,v4)]) (λv4 w'=>Fr [J] w4 w'/\Lw.Own Enc.str 9 w0.heap.size w' v4 (x6t o.k::y4a o)) .nil ?_ ?_);refine sr (fad U z6y ?_);replace I:=I.ext q4;refine z0i U I U v1s (nn (bl (sr (eq' U (asg U (nn (cd U (λc1=>?_) (λc1=>?_))))))));refine rg (mv U U (mv U U (fad U z8m (z0i U I U x1h (y3z U U underlying338 sz9 ?_)))));replace hG:=hG.ext q4;refine y0y U hG.dr (x9v oo) na9 U (z2t ([x4w o.y,u8f o.d]) (ev2 U) U y6y (λe7 w5 e3 b0 q5 z5=>?_));replace D:=D.ext q5;refine z2l (base:=w0.heap.size) U D b0.sl y6y (λf4 w6 Z q6 d5=>?_) (hM:=(by unfold maxLen;first|(simp;done)|(simp;omega))) (hb:=se);replace q6:Fr [J] _ _:=q6;have z6:=q6.size;exact asg U (kpL [(4,_)] (.cons U .nil) (nl (bn' (jE (_) (.cons U .nil) ⟨((Fr.refl [J] _).z2 q5 q6),by first|(rw[y4a,if_pos c1];exact Z)|(exfalso;omega)⟩))));refine sr (eq' U (asg U (nn (cd U (λc2=>?_) (λc2=>?_)))));refine rg (mv U U (mv U U (z2t ([x4w o.y]) (ev1 U) U y6y (λe8 w7 e4 b3 q7 z7=>?_))));replace D:=D.ext q7;refine z2l (base:=w0.heap.size) U D b3.sl y6y (λf5 w8 Z q8 d6=>?_) (hM:=(by unfold maxLen;first|(simp;done)|(simp;omega))) (hb:=se);replace q8:Fr [J] _ _:=q8;have z8:=q8.size;exact asg U (kpL [(4,_)] (.cons U .nil) (nl (bn' (jE (_) (.cons U .nil) ⟨((Fr.refl [J] _).z2 q7 q8),by first|(rw[y4a,if_neg c1,if_pos c2];exact Z)|(exfalso;omega)⟩))));refine sr (eq' U (asg U (nn (cd U (λc3=>?_) (λc3=>?_)))));refine rg (mv U U (fad U y3o (z0i U I U na3 ?_)));replace hG:=hG.ext q4;refine cl (ev1 U) j4n (x0t _ _ hG oo) U ?_;rintro _ w9 ⟨rfl,q9⟩;have z9:=q9.size;refine z2t ([x4w o.r]) (ev1 U) U y6y (λe9 f9 e5 b5 b8 h4=>?_);replace D:=D.ext (q9.n1 b8);refine z2l (base:=w0.heap.size) U D b5.sl y6y (λf6 g0 Z a5 d7=>?_) (hM:=(by unfold maxLen;first|(simp;done)|(simp;omega))) (hb:=se);replace a5:Fr [J] _ _:=a5;have h5:=a5.size;exact asg U (kpL [(4,_)] (.cons U .nil) (nl (bn' (jE (_) (.cons U .nil) ⟨((Fr.refl [J] _).z3 q9 b8 a5),by first|(rw[y4a,if_neg c1,if_neg c2,if_pos c3];exact Z)|(exfalso;omega)⟩))));refine jn (ι:=Bool) [(1,_),(3,_),(4,_),(18,_)] (λb4=>[(43,.bool b4)]) (λb4 w'=>Fr [] w4 w'/\b4=decide ((o.k=4\/o.k=5)\/o.k=6)) (.c4 U U U U) ?_ ?_;refine sr (eq' U (asg U (nn (cd U (λc4=>?_) (λc4=>?_)))));exact sk (jE (_) (.c5 U U U U U) ⟨(Fr.refl _ _),by first|exact bi oo|exact bt oo|exact bf oo⟩);refine sr (eq' U (asg U (nn (cd U (λc5=>?_) (λc5=>?_)))));exact sk (jE (_) (.c5 U U U U U) ⟨(Fr.refl _ _),by first|exact bi oo|exact bt oo|exact bf oo⟩);exact rg (eq' U (asg U (nl (jE (_) (.c5 U U U U U) ⟨(Fr.refl _ _),by first|exact bi oo|exact bt oo|exact bf oo⟩))));rintro b4 d1 ⟨a0,rfl⟩;have h6:=a0.size;refine kpC [(1,_),(3,_),(4,_),(18,_),(43,_)] (.c5 U U U U U) (cd U (λc6=>?_) (λc6=>?_));replace hG:=hG.ext (q4.n1 a0);replace I:=I.ext a0;replace D:=D.ext a0;intro a h;have O:=Fr.refl [J] d1;refine z3v (λwb w'=>Fr [J] wb w') z2m ?_;intro d3 M;have h7:=M.size;replace hG:=hG.ext M;replace I:=I.ext M;replace D:=D.ext M;replace O:=O.next M;have f3:=M.size;clear M;have hC:Fr [J] d3 d3:=Fr.refl _ _;have a7:=hG;have a1:=I;have a4:=D;refine z0e 0 h U λa h=>z0c 1 h U z8m U λa h=>z0j 2 h U (λ_ hw=>a1.fr hw se) U x1h U λa h=>x7i 3 kr kr kr hC h wn U U underlying338 sz9 oo oo U U λa h=>y4p 4 hC h wn U (λ_ hw=>(a7.fr hw se).dr) (x9v oo) na9 U U λa h=>z0c 5 h U z3h U λa h=>z1a (vs:=[_,_]) 6 h U (λ_ hw=>(a1.fr hw se)) z4k U U λa h=>z0e 8 h U λa h=>z0d 7 U ?_;refine z0o h (z0a U z0f) (mkC func247) (x1c _ _ _ hG) ?_;rintro _ g3 ⟨rfl,M⟩ a h;have h8:=M.size;replace hG:=hG.ext M;replace I:=I.ext M;replace D:=D.ext M;replace O:=O.next M;replace hC:=hC.next M;clear M;refine z0b (z0d 9 U (z2s ([u8f o.d,v4v o.b o.p,x4w o.y]) h (z0a U (z0a U (z0a U z0f))) U y6y λa9 g6 hg a3 M hz a h=>?_));have d4:g1<a9:=by have:=I.lt;omega
 have h9:=M.size;replace hG:=hG.ext M;replace I:=I.ext M;replace D:=D.ext M;replace O:=O.next M;replace hC:=hC.next M;clear M;refine z0b (z0d 10 U ?_);refine z5m (base:=w0.heap.size) h U U D a3.sl y6y U ?_ (hM:=(by unfold maxLen;first|(simp;done)|(simp;omega))) (hb:=se);clear h a;intro f7 g7 Z M d9 a h;replace M:Fr [J] _ _:=M;have e1:=M.size;replace hG:=hG.fr M (by simp[z0u]<;>omega);replace I:=I.fr M;replace O:=O.sp M;replace hC:=hC.sp M;replace a3:=a3.fr M (by simp[z0u]<;>omega);clear M;refine z0b (z0d 11 U (z0r h U λa h=>?_));refine z0b (z0p ?_);clear hC a7 a1 a4;have e1:=O.size;exact bk (h.sub (L':=[(4,_)]) (.cons U .nil)) (bn' (jE (_) (.cons U .nil) ⟨((Fr.refl [J] _).z2 a0 O),by first|(rw[y4a,if_neg c1,if_neg c2,if_neg c3,if_pos c6];exact Z)|(exfalso;omega)⟩));refine jn (ι:=Bool) [(1,_),(4,_)] (λb7=>[(58,.bool b7)]) (λb7 w'=>Fr [] d1 w'/\b7=decide (o.k=7\/o.k=8)) (.c2 U U) ?_ ?_;refine sr (eq' U (asg U (nn (cd U (λc7=>?_) (λc7=>?_)))));exact sk (jE (_) (.c3 U U U) ⟨(Fr.refl _ _),by first|exact bi oo|exact bt oo|exact bf oo⟩);exact rg (eq' U (asg U (nl (jE (_) (.c3 U U U) ⟨(Fr.refl _ _),by first|exact bi oo|exact bt oo|exact bf oo⟩))));rintro b7 g8 ⟨a2,rfl⟩;have i0:=a2.size;refine kpC [(1,_),(4,_),(58,_)] (.c3 U U U) (cd U (λc8=>?_) (λc8=>?_));refine rg (mv U U (fad U z3h ?_));replace I:=I.ext (a0.n1 a2);refine z1w (vs:=[_,_]) U I z4k U ?_;replace hG:=hG.ext (q4.n2 a0 a2);refine cl (ev1 U) (mkC func247) (x1c _ _ _ hG) U ?_;rintro _ g9 ⟨rfl,a8⟩;have i1:=a8.size;refine z2t ([v4v o.b o.p]) (ev1 U) U y6y (λf0 h0 e6 b6 b9 i2=>?_);replace D:=D.ext (a0.n3 a2 a8 b9);refine z2l (base:=w0.heap.size) U D b6.sl y6y (λf8 h1 Z a6 e0=>?_) (hM:=(by unfold maxLen;first|(simp;done)|(simp;omega))) (hb:=se);replace a6:Fr [J] _ _:=a6;have i3:=a6.size;exact asg U (kpL [(4,_)] (.cons U .nil) (nl (bn' (jE (_) (.cons U .nil) ⟨((Fr.refl [J] _).z5 a0 a2 a8 b9 a6),by first|(rw[y4a,if_neg c1,if_neg c2,if_neg c3,if_neg c6,if_pos c8];exact Z)|(exfalso;omega)⟩))));exact sk (bn' (jE (_) (.cons U .nil) ⟨((Fr.refl [J] _).n2 a0 a2),by first|(rw[y4a,if_neg c1,if_neg c2,if_neg c3,if_neg c6,if_neg c8];exact Z)|(exfalso;omega)⟩));rintro v4 h2 ⟨c9,Z⟩;have i4:=c9.size;refine kpC [(4,_)] (.cons U .nil) (sr (mv U U (cl (ev2 U) (mkC func78) (u0v _ _ _ _ _ _ Z sp0 (by have:=u1m o (Classical.not_not.1 c0);omega) (by have:=j5x o;simp;omega)) U ?_)));rintro _ h3 ⟨rfl,d0⟩;have i5:=d0.size;exact asg U (nn (rt (r1 results192 U ⟨_,rfl,by rw[j9d,if_neg c0],(q1.z5 q2 q3 q4 c9 d0)⟩)))
theorem j5h:BuildAt prog 47 [(0,1),(1,1),(2,2),(4,1),(5,1)] [(.int .u8 0),(.int .u8 0),(.int .u8 0),(.int .i64 0),(.int .u8 0),(.int .i64 0)]:=BuildAt.struct underlying47 (λ_=>kr) (λ_=>kr)
theorem sz5:z1q prog 5 1:=λ_=>kr
theorem u1l:ElemOf prog 81 5 Enc.b 1:=ElemOf.mk' (z:=(.int .u8 0)) underlying81 kr U
theorem sz43:z1q prog 43 1:=λ_=>kr
theorem x1t (l:List UInt8)(w0:World)(hG:Glob w0)(hl:l.length<=1000000):Rets prog 246 #[S l] w0 λv w'=>∃e,v=.tuple #[.agg #[.int .u8 (x4s l).1,.int .i64 (x4s l).2],e]/\Fr [] w0 w':=by
 have b7:=hG.sz;refine we [(0,S l)] func246 U ntmps246 U (.cons U .nil) (sr (al v1n U (λg2 w1 b9 I q1 z1=>(asg U (nn (sq (sq (rbo (r:=14) (L':=[(0,_),(2,_)]) ((((l.length:Int)<2)\/(3<(l.length:Int)))) (.c2 U U) ?_ ?_))))))));refine mv U U (ln U underlying9 U (lt' U (mv U U (gs 10 U (λg0=>?_) (λg0=>?_)))));exact gN U (gN U (gN U (pkt U (rbe U (.c2 U U)))));exact gY U (mv U U (gY U (ln U underlying9 U (gY U (gt' U (pkf U (rbe U (.c2 U U))))))));refine tn (cd U (λc0=>?_) (λc0=>?_));refine sr (z1y (cs:=[_,_]) z0f x1i z0s U (z0k U I y6l (λw2 I q2 z2=>?_) (hl:=rfl)));exact asg U (nn (rt (tr (rCT results246 U I z4k U ⟨_,rfl,_,by rw[show x4s l=(0,0) from by rw[x4s,if_pos c0]],(q1.z1 q2)⟩))));refine sk (tn (sr (z1y (cs:=[_,_]) z0f x1i z0s U (al v1n U (λg4 w3 c9 D q3 z3=>?_)))));refine z0k U D y6l (λw4 D q4 z4=>?_) (hl:=rfl);refine nn (jn (ι:=Int) [(0,_),(2,_),(4,_)] (λb=>[]) (λb w'=>Fr [g4] w4 w'/\j5c l=some b/\(b=0\/b=1)/\Blk w' g4 45 [.int .u8 b,.int .i64 0]) (.c3 U U U) ?_ ?_);refine sr (mv U U (u8k (p:=0) U U underlying9 oo oo U U (λb4=>(nn (bl (sr (eq' U (asg U (nn (cd U (λc1=>?_) (λc1=>?_)))))))))));refine rg (fad U z6v (z3p U D U sz43 (λw5 D q5 z5=>?_)));replace D:Blk w5 g4 _ [_,_]:=D;exact nl (bn' (jE (_) (.c3 U U U) ⟨((Fr.refl [g4] _).z1 q5),⟨by rw[j5c,if_pos c1],oo,D⟩⟩));skip;refine sr (eq' U (asg U (nn (cd U (λc2=>?_) (λc2=>?_)))));refine rg (fad U z6v (z3p U D U sz43 (λw6 D q6 z6=>?_)));replace D:Blk w6 g4 _ [_,_]:=D;exact nl (bn' (jE (_) (.c3 U U U) ⟨((Fr.refl [g4] _).z1 q6),⟨by rw[j5c,if_neg c1,if_pos c2],oo,D⟩⟩));refine sr (z1y (cs:=[_,_]) z0f x1i z0s U ?_);replace I:=(I.ext q3).fr q4;refine z0k U I y6l (λw7 I q7 z7=>?_) (hl:=rfl);exact asg U (nn (rt (rb (tr (rCT results246 U I z4k U ⟨_,rfl,_,by rw[show x4s l=(0,0) from by rw[x4s,if_neg c0,show j5c l=none from by rw[j5c,if_neg c1,if_neg c2]]],(q1.z3 q3 q4 q7)⟩)))));rintro b w8 ⟨q8,⟨a1,b0,D⟩⟩;have a0:=D.lt;refine kpC [(0,_),(2,_),(4,_)] (.c3 U U U) ?_;have b8:(l.drop 1).length=l.length-1:=List.length_drop;refine sq (sr (mv U U (k0e (p:=1) U U underlying9 oo oo U U (k1p U underlying9 underlying81 underlying5 (by unfold maxLen;simp;omega) U (λb6 b5 w9 b3 O q9 z9=>?_)))));refine lnS U underlying81 (mv U U (nn (bl ?_)));replace D:=D.ext q9;refine lpK (ι:=Nat) [(0,_),(2,_),(4,_),(28,_),(29,_)] (λi=>[(30,.int .i64 (i:Int))]) (λi w'=>Fr [g4] w9 w'/\i<=(l.drop 1).length/\((l.drop 1).take i).all u0s=true/\Blk w' g4 45 [.int .u8 b,.int .i64 (y5l ((l.drop 1).take i))]) (λi=>(l.drop 1).length-i) 0 (.c6 U U U U U U) ⟨Fr.refl _ _,⟨oo,rfl,D⟩⟩ ?_;rintro i d1 ⟨M,⟨hi,J,D⟩⟩;have a0:=D.lt;refine kpC [(0,_),(2,_),(4,_),(28,_),(29,_),(30,_)] (.c6 U U U U U U) (sr (lt' U (nn (sq (cd U (λc3=>?_) (λc3=>?_))))));have d0:=x8i ((l.drop 1).getD i 0);refine sk (tn (sq (bl (sr ?_))));replace O:=O.fr M (by simp[z0u]<;>omega);refine z1d (p:=i) (0) U O U u1l oo (λa9 a2=>(z1k U (a2 _ O) na5 (asg U (nn (sq (sq (rbo (r:=39) (L':=[(0,_),(2,_),(4,_),(6,_),(28,_),(29,_),(30,_)]) ((((((l.drop 1).getD i 0).toNat:Int)<48)\/(57<(((l.drop 1).getD i 0).toNat:Int)))) (.c7 U U U U U U U) ?_ ?_)))))));refine mv U U (lt' U (mv U U (gs 36 U (λg1=>?_) (λg1=>?_))));exact gN U (gN U (pkt U (rbe U (.c7 U U U U U U U))));exact gY U (mv U U (gY U (gt' U (pkf U (rbe U (.c7 U U U U U U U))))));refine tn (cd U (λc4=>?_) (λc4=>?_));refine sr (z1y (cs:=[_,_]) z0f x1i z0s U ?_);replace I:=((((I.ext q3).fr q4).fr q8).ext q9).fr M;refine z0k U I y6l (λd3 I a4 d7=>?_) (hl:=rfl);exact asg U (kpL [(2,_),(3,_)] (.c2 U U) (nn (rt (tr (rb (tr (tr (rb (tr (rCT results246 U I z4k U ⟨_,rfl,_,by rw[show x4s l=(0,0) from by rw[x4s,if_neg c0,a1];simp only;rw[if_pos (j3o _ i oo oo)]],(q1.z6 q3 q4 q8 q9 M a4)⟩))))))))));have a3:=x2i J so;refine sk (tn (rg (fad U z6x (z0i U D U na3 (x5u U U (wi6 oo) U (mv U U (z2p U (wi8 oo) (z4y U (us underlying5) underlying3 (wi6 oo) (z1b U (wi6 oo) (fad U z6x (z3p U D U sz3 (λa8 D a5 d9=>?_))))))))))));replace D:Blk a8 g4 _ [_,_]:=D;exact kpL [(0,_),(2,_),(4,_),(28,_),(29,_),(30,_)] (.c6 U U U U U U) (nl (bn' (tn (rg (z1b U (wi6 oo) (mv U U (nl (lpE (i+1) (.c6 U U U U U U) ⟨((Fr.refl [g4] _).z2 M a5),⟨oo,u3z _ _ oo J oo,by rw[v2q _ _ oo];exact D⟩⟩ oo))))))));obtain rfl:i=(l.drop 1).length:=by omega
 rw[List.take_length]at J D;have a3:=x2i J oo;refine ex (te (te (xh (tn (sq (sr (z0n U D z4k ?_)))))));replace hG:=((((hG.ext (q1.n1 q3)).fr q4 (by first|exact z8w hG oo|simp[z0u]<;>omega)).fr q8 (by first|exact z8w hG oo|simp[z0u]<;>omega)).ext q9).fr M (by first|exact z8w hG oo|simp[z0u]<;>omega);refine cl (ev1 U) (mkC func247) (x1c _ _ _ hG) U ?_;rintro _ d4 ⟨rfl,Z⟩;refine mv U U (j6z U U U (kpL [(2,_),(4,_),(53,_)] (.c3 U U U) (nn (cd U (λc5=>?_) (λc5=>?_)))));refine sr (z1y (cs:=[_,_]) z0f x1i z0s U ?_);replace I:=(((((I.ext q3).fr q4).fr q8).ext q9).fr M).ext Z;refine z0k U I y6l (λd5 I a6 e0=>?_) (hl:=rfl);exact asg U (nn (rt (tr (rCT results246 U I z4k U ⟨_,rfl,_,by rw[show x4s l=(0,0) from by rw[x4s,if_neg c0,a1];simp only;rw[if_neg (by rw[J];exact λe=>Bool.noConfusion e),if_pos c5]],((q1.z6 q3 q4 q8 q9 M Z).z1 a6)⟩))));refine sk (tn (sr ?_));replace D:=D.ext Z;refine z0n U D z4k ?_;replace I:=(((((I.ext q3).fr q4).fr q8).ext q9).fr M).ext Z;refine z0k U I y6l (λd6 I a7 e1=>?_) (hl:=rfl);exact asg U (nn (rt (rCT results246 U I z4k U ⟨_,rfl,_,by rw[show x4s l=(b,y5l (l.drop 1)) from by rw[x4s,if_neg c0,a1];simp only;rw[if_neg (by rw[J];exact λe=>Bool.noConfusion e),if_neg c5]],((q1.z6 q3 q4 q8 q9 M Z).z1 a7)⟩)))
theorem k1o:z3q prog 334 9:=⟨λ_=>kr,λ_=>kr⟩
theorem sz41:z1q prog 41 1:=λ_=>kr
theorem fld0 (f:F4)(w:World):(Instr.field 301 (.agg (f4L f).toArray) 0).run prog w=.ok (.bool f.1) w:=kr
theorem fld1 (f:F4)(w:World):(Instr.field 301 (.agg (f4L f).toArray) 1).run prog w=.ok (.bool f.2.1) w:=kr
theorem u2y (v:Value)(ws:List (List UInt8))(w0:World)(hG:Glob w0)(Z:Sl Enc.str w0 v ws)(f2:1<=ws.length)(b3:∀i,(ws.getD i []).length<=1000000):Rets prog 191 #[v] w0 λr w'=>r=opV (z4e ws)/\Fr [] w0 w':=by
 obtain⟨A,c,rfl,hc,hM,hA⟩:=id Z;clear hA;have a0:=Z.blk (by intro e;simp[e]at f2);have h7:=hG.sz;refine we [(0,.slice A ws.length c)] func191 U ntmps191 U (.cons U .nil) (sr (al u7x U (λg2 w1 h8 M q1 z1=>?_)));refine nn (sr (z1y (cs:=[_,_,_,_,_,_]) z0f j5h z0s U (al u7x U (λg3 w2 h9 I q2 z2=>?_))));refine z0k U I u6y (λw3 I q3 z3=>?_) (hl:=rfl);refine nn (sq (sr ?_));replace hG:=(hG.ext (q1.n1 q2)).fr q3 (by first|exact z8w hG oo|simp[z0u]<;>omega);refine z1l U hG.wd k1o (mv U U (nn (bl (lpK (ι:=Nat) [(0,_),(2,_),(3,_),(7,_)] (λi=>[(8,.int .i64 (i:Int))]) (λi w'=>Fr [g3] w3 w'/\i<=9/\Blk w' g3 47 [.int .u8 (y6s (ws.getD 0 []) i),.int .u8 0,.int .u8 0,.int .i64 0,.int .u8 0,.int .i64 0]) (λi=>9-i) 0 (.c5 U U U U U) ⟨Fr.refl _ _,⟨oo,I⟩⟩ ?_))));rintro i w4 ⟨q4,⟨hi,I⟩⟩;have b8:=I.lt;refine kpC [(0,_),(2,_),(3,_),(7,_),(8,_)] (.c5 U U U U U) (sr (lt' U (nn (sq (cd U (λc0=>?_) (λc0=>?_))))));refine sk (tn (sq (bl (sr (mv U U (u7b U U underlying334 sz9 na9 (u3j oo) U (asg U (asg U (nn (sr (mv U U (mv U U ?_))))))))))));replace Z:=((Z.ext (q1.n1 q2)).fr q3 (by intro k O hb;simp at O;subst O;have:=a0 _ hb;omega)).fr q4 (by intro k O hb;simp at O;subst O;have:=a0 _ hb;omega);refine z1d (p:=0) ([]) U Z U y6y U (λg9 d1=>(z1k U (d1 _ Z) na9 (x4y U (nn (cd U (λc1=>?_) (λc1=>?_))))));refine rg (mv U U (z4y U (us underlying3) underlying41 (wi8 oo) (fad U z6y (z3p U I U sz41 (λw5 I q5 z5=>?_)))));replace I:Blk w5 g3 _ [_,_,_,_,_,_]:=I;exact nl (bn' (tn (rg (z1b U (wi6 oo) (mv U U (nl (lpE (i+1) (.c5 U U U U U) ⟨((Fr.refl [g3] _).z2 q4 q5),⟨oo,by first|(rw[y6s,if_pos c1];exact I)|(rw[y6s,if_neg c1];exact I)⟩⟩ oo)))))));exact sk (bn' (tn (rg (z1b U (wi6 oo) (mv U U (nl (lpE (i+1) (.c5 U U U U U) ⟨((Fr.refl [g3] _).z1 q4),⟨oo,by first|(rw[y6s,if_pos c1];exact I)|(rw[y6s,if_neg c1];exact I)⟩⟩ oo)))))));obtain rfl:i=9:=by omega
 have i0:=x3c (ws.getD 0 []) 9;replace I:Blk w4 g3 47 [.int .u8 (x0j (ws.getD 0 [])),.int .u8 0,.int .u8 0,.int .i64 0,.int .u8 0,.int .i64 0]:=I;refine ex (te (te (xh (tn (jn (ι:=Unit) [(2,_),(3,_)] (λ_j=>[]) (λ_j w'=>Fr [g3] w4 w'/\Blk w' g3 47 [.int .u8 (z4e ws).k,.int .u8 (z4e ws).d,.int .u8 (z4e ws).b,.int .i64 (z4e ws).p,.int .u8 (z4e ws).y,.int .i64 (z4e ws).r]) (.c2 U U) ?_ ?_)))));refine bl (sq (rbo (r:=21) (L':=[(0,_),(2,_),(3,_)]) ((((x0j (ws.getD 0 []))=1)/\((ws.length:Int)=3))) (.c3 U U U) ?_ ?_));refine fad U z6y (z0i U I U v1s (eq' U (mv U U (gs 25 U (λg0=>?_) (λg0=>?_)))));exact gY U (mv U U (gY U (lnS U underlying84 (gY U (eq' U (pkt U (asg U (rbe U (.c3 U U U)))))))));exact gN U (gN U (gN U (pkf U (asg U (rbe U (.c3 U U U))))));refine tn (cd U (λc2=>?_) (λc2=>?_));replace hG:=hG.fr q4 (by first|exact z8w hG oo|simp[z0u]<;>omega);replace Z:=((Z.ext (q1.n1 q2)).fr q3 (by intro k O hb;simp at O;subst O;have:=a0 _ hb;omega)).fr q4 (by intro k O hb;simp at O;subst O;have:=a0 _ hb;omega);replace M:=((M.ext q2).fr q3).fr q4;intro a h;have a8:=Fr.refl [g3] w4;refine z3v (λwb w'=>Fr [g3] wb w') z2m ?_;intro w6 J;replace hG:=hG.ext J;replace Z:=Z.ext J;replace M:=M.ext J;replace I:=I.ext J;replace a8:=a8.next J;have d0:=J.size;clear J;have hC:Fr [g3] w6 w6:=Fr.refl _ _;have a6:=hG;have a2:=Z;have a3:=M;have a1:=I;refine z0e 0 h U λa h=>z1i (p:=1) ([]) 1 h U Z U y6y U ?_ (hp:=rfl);clear h a;intro h0 d3 a h;refine z2x 2 h wn U (λ_ hw=>d3 _ (a2.fr hw (by intro k O hb;simp at O;subst O;have:=a0 _ hb;omega))) na9 U λa h=>z0e 5 h U λa h=>z1i (p:=2) ([]) 6 h U Z U y6y U ?_ (hp:=rfl);clear h a;intro h1 d4 a h;refine z2x 7 h wn U (λ_ hw=>d4 _ (a2.fr hw (by intro k O hb;simp at O;subst O;have:=a0 _ hb;omega))) na9 U λa h=>z0d 3 U (z0o h (z0a U z0f) (mkC func244) (y1g _ _ hG (b3 _)) ?_);rintro _ w7 ⟨rfl,J⟩ a h;replace hG:=hG.ext J;replace Z:=Z.ext J;replace M:=M.ext J;replace I:=I.ext J;replace a8:=a8.next J;replace hC:=hC.next J;clear J;refine z0b (y8z 4 hC h wn U (by rw[underlying3];rfl) underlying5 (by first|exact IntWalk.u8_in _ oo|rfl) U U λa h=>z0c 9 h U z3i U λa h=>z0d 8 U (z0o h (z0a U z0f) (mkC func245) (u6q _ _ hG) ?_));rintro _ w8 ⟨rfl,J⟩ a h;replace hG:=hG.ext J;replace Z:=Z.ext J;replace M:=M.ext J;replace I:=I.ext J;replace a8:=a8.next J;replace hC:=hC.next J;clear J;refine z0b (z0d 10 U (z5r h U U I U U U sz5 λw9 a7 J hz a h=>?_));replace hG:=hG.fr J (by simp[z0u]<;>omega);replace Z:=Z.fr J (by intro k O hb;simp at O;subst O;have:=a0 _ hb;omega);replace M:=M.fr J;replace a8:=a8.sp J;replace hC:=hC.sp J;clear I J hz;have I:Blk w9 g3 _ [_,_,_,_,_,_]:=a7;clear a7;refine z0b (z0c 11 h U z8m U λa h=>z0d 12 U (z5r h U U I U U U k0y λf7 a7 J hz a h=>?_));replace hG:=hG.fr J (by simp[z0u]<;>omega);replace Z:=Z.fr J (by intro k O hb;simp at O;subst O;have:=a0 _ hb;omega);replace M:=M.fr J;replace a8:=a8.sp J;replace hC:=hC.sp J;clear I J hz;have I:Blk f7 g3 _ [_,_,_,_,_,_]:=a7;clear a7;refine z0b (z0p ?_);clear hC a6 a2 a3 a1;exact bk (h.sub (L':=[(2,_),(3,_)]) (.c2 U U)) (bn' (jE (()) (.c2 U U) ⟨((Fr.refl [g3] _).z1 a8),by rw[z4e,y5r,if_pos c2];exact I⟩));refine sq (rbo (r:=41) (L':=[(0,_),(2,_),(3,_)]) ((((x0j (ws.getD 0 []))=2)/\((ws.length:Int)=2))) (.c3 U U U) ?_ ?_);refine fad U z6y (z0i U I U v1s (eq' U (mv U U (gs 45 U (λg1=>?_) (λg1=>?_)))));exact gY U (mv U U (gY U (lnS U underlying84 (gY U (eq' U (pkt U (asg U (rbe U (.c3 U U U)))))))));exact gN U (gN U (gN U (pkf U (asg U (rbe U (.c3 U U U))))));refine tn (cd U (λc3=>?_) (λc3=>?_));refine rg (mv U U ?_);replace Z:=((Z.ext (q1.n1 q2)).fr q3 (by intro k O hb;simp at O;subst O;have:=a0 _ hb;omega)).fr q4 (by intro k O hb;simp at O;subst O;have:=a0 _ hb;omega);refine z1d (p:=1) ([]) U Z U y6y U (λh2 d5=>(z1k U (d5 _ Z) na9 ?_));replace hG:=hG.fr q4 (by first|exact z8w hG oo|simp[z0u]<;>omega);refine cl (ev1 U) (mkC func244) (y1g _ _ hG (b3 _)) U ?_;rintro _ i1 ⟨rfl,e3⟩;refine z4y U (us underlying3) underlying5 (IntKind.wrap_u8 _) (fad U z3i ?_);replace I:=I.ext e3;refine z3p U I U sz5 (λf8 I f3 j4=>?_);replace I:Blk f8 g3 _ [_,_,_,_,_,_]:=I;exact kpL [(2,_),(3,_)] (.c2 U U) (nl (bn' (jE (()) (.c2 U U) ⟨((Fr.refl [g3] _).z2 e3 f3),by rw[z4e,y5r,if_neg c2,if_pos c3];exact I⟩)));refine sq (rbo (r:=56) (L':=[(0,_),(2,_),(3,_)]) ((((x0j (ws.getD 0 []))=3)/\((ws.length:Int)=2))) (.c3 U U U) ?_ ?_);refine fad U z6y (z0i U I U v1s (eq' U (mv U U (gs 60 U (λg2=>?_) (λg2=>?_)))));exact gY U (mv U U (gY U (lnS U underlying84 (gY U (eq' U (pkt U (asg U (rbe U (.c3 U U U)))))))));exact gN U (gN U (gN U (pkf U (asg U (rbe U (.c3 U U U))))));refine tn (cd U (λc4=>?_) (λc4=>?_));refine rg (mv U U ?_);replace Z:=((Z.ext (q1.n1 q2)).fr q3 (by intro k O hb;simp at O;subst O;have:=a0 _ hb;omega)).fr q4 (by intro k O hb;simp at O;subst O;have:=a0 _ hb;omega);refine z1d (p:=1) ([]) U Z U y6y U (λh3 d6=>(z1k U (d6 _ Z) na9 ?_));replace hG:=hG.fr q4 (by first|exact z8w hG oo|simp[z0u]<;>omega);refine cl (ev1 U) (mkC func244) (y1g _ _ hG (b3 _)) U ?_;rintro _ i2 ⟨rfl,e4⟩;refine fad U y3o ?_;replace I:=I.ext e4;refine z3p U I U sz3 (λf9 I f4 j5=>?_);replace I:Blk f9 g3 _ [_,_,_,_,_,_]:=I;exact kpL [(2,_),(3,_)] (.c2 U U) (nl (bn' (jE (()) (.c2 U U) ⟨((Fr.refl [g3] _).z2 e4 f4),by rw[z4e,y5r,if_neg c2,if_neg c3,if_pos c4];exact I⟩)));refine jn (ι:=Bool) [(0,_),(2,_),(3,_)] (λb7=>[(70,.bool b7)]) (λb7 w'=>Fr [] w4 w'/\b7=decide (fD (x0j (ws.getD 0 []))=true/\(ws.length:Int)=4)) (.c3 U U U) ?_ ?_;replace hG:=hG.fr q4 (by first|exact z8w hG oo|simp[z0u]<;>omega);replace Z:=((Z.ext (q1.n1 q2)).fr q3 (by intro k O hb;simp at O;subst O;have:=a0 _ hb;omega)).fr q4 (by intro k O hb;simp at O;subst O;have:=a0 _ hb;omega);replace M:=((M.ext q2).fr q3).fr q4;intro a h;have a9:=Fr.refl [] w4;refine z3v (λwb w'=>Fr [] wb w') z2m ?_;intro e7 J;replace hG:=hG.ext J;replace Z:=Z.ext J;replace M:=M.ext J;replace I:=I.ext J;replace a9:=a9.next J;have d0:=J.size;clear J;have hC:Fr [] e7 e7:=Fr.refl _ _;have a6:=hG;have a2:=Z;have a3:=M;have a1:=I;refine z0c 1 h U z6y U λa h=>z0j 2 h U (λ_ hw=>a1.ext hw) U v1s U λa h=>z0d 0 U (z0o h z0f (mkC func202) (x0u _) ?_);rintro _ i3 ⟨gm,rfl,e1,e2,hm,J⟩ a h;replace hG:=hG.ext J;replace Z:=Z.ext J;replace M:=M.ext J;replace I:=I.ext J;replace a9:=a9.next J;replace hC:=hC.next J;clear J;refine z0b (z0d 3 U (z6j (V:=kV) (k:=(x0j (ws.getD 0 []))) h U U hm y6w underlying303 x1k (z7o _) U λa h=>?_));refine z0b (z0d 4 U (x7k h U (λw=>fld0 _ w) U λa h=>?_));refine z0b (z0e 5 h U λa h=>?_);refine gSp (D:=76) h U ?_ ?_;clear h;intro g3 h;refine z0e 6 h U ?_ (hG:=(wy U));clear h a;intro a h;refine z6p 7 h (wy U) U underlying84 U λa h=>u1a 8 hC h (wy U) U U U U λa h=>z0d 9 U (z5p h U λa h=>?_);refine z0b (z0d 10 U (z0r h U λa h=>?_));refine z0b (z0p ?_);clear hC a6 a2 a3 a1;exact bk (h.sub (L':=[(0,_),(2,_),(3,_),(70,_)]) (.c4 U U U U)) (jE (_) (.c4 U U U U) ⟨a9,by simp_all [fD]⟩);clear h;intro g3 h;refine z2k 6 h U U λa h=>z2k 7 h U U λa h=>z2k 8 h U U λa h=>z0d 9 U (z4d h U U λa h=>?_);refine z0b (z0d 10 U (z0r h U λa h=>?_));refine z0b (z0p ?_);clear hC a6 a2 a3 a1;exact bk (h.sub (L':=[(0,_),(2,_),(3,_),(70,_)]) (.c4 U U U U)) (jE (_) (.c4 U U U U) ⟨a9,by simp_all [fD]⟩);rintro b7 e8 ⟨a5,rfl⟩;refine kpC [(0,_),(2,_),(3,_),(70,_)] (.c4 U U U U) (cd U (λc5=>?_) (λc5=>?_));refine sr (mv U U ?_);replace Z:=(((Z.ext (q1.n1 q2)).fr q3 (by intro k O hb;simp at O;subst O;have:=a0 _ hb;omega)).fr q4 (by intro k O hb;simp at O;subst O;have:=a0 _ hb;omega)).ext a5;refine z1d (p:=2) ([]) U Z U y6y U (λh4 d7=>(z1k U (d7 _ Z) na9 ?_));replace hG:=(hG.fr q4 (by first|exact z8w hG oo|simp[z0u]<;>omega)).ext a5;refine cl (ev1 U) (mkC func246) (x1t _ _ hG (b3 _)) U ?_;rintro _ i4 ⟨e,rfl,b5⟩;refine mv U U (xt U (xt U (fad U z3h ?_)));replace I:=I.ext (a5.n1 b5);refine z3m (cs':=[_,_,_,_,_,_]) U I (by first|(simp[Value.oneCell',S];done)|exact Enc.one _ _) y6l U (λg6 I b9 j6=>?_);refine kpL [(0,_),(2,_),(3,_)] (.c3 U U U) (nn ?_);replace hG:=(hG.ext b5).fr b9 (by first|exact z8w hG oo|simp[z0u]<;>omega);replace Z:=(Z.ext b5).fr b9 (by intro k O hb;simp at O;subst O;have:=a0 _ hb;omega);replace M:=((((M.ext q2).fr q3).fr q4).ext (a5.n1 b5)).fr b9;intro a h;have a4:=Fr.refl [g3] g6;refine z3v (λwb w'=>Fr [g3] wb w') z2m ?_;intro e9 J;replace hG:=hG.ext J;replace Z:=Z.ext J;replace M:=M.ext J;replace I:=I.ext J;replace a4:=a4.next J;have d0:=J.size;clear J;have hC:Fr [g3] e9 e9:=Fr.refl _ _;have a6:=hG;have a2:=Z;have a3:=M;have a1:=I;refine z0e 0 h U λa h=>z1i (p:=1) ([]) 1 h U Z U y6y U ?_ (hp:=rfl);clear h a;intro h5 d9 a h;refine z2x 2 h wn U (λ_ hw=>d9 _ (a2.fr hw (by intro k O hb;simp at O;subst O;have:=a0 _ hb;omega))) na9 U λa h=>z0e 4 h U λa h=>z1i (p:=3) ([]) 5 h U Z U y6y U ?_ (hp:=rfl);clear h a;intro h6 e0 a h;refine z2x 6 h wn U (λ_ hw=>e0 _ (a2.fr hw (by intro k O hb;simp at O;subst O;have:=a0 _ hb;omega))) na9 U λa h=>z0d 3 U (z0o h (z0a U z0f) (mkC func245) (u6q _ _ hG) ?_);rintro _ i5 ⟨rfl,J⟩ a h;replace hG:=hG.ext J;replace Z:=Z.ext J;replace M:=M.ext J;replace I:=I.ext J;replace a4:=a4.next J;replace hC:=hC.next J;clear J;refine z0b (z0c 9 h U z8m U λa h=>z0d 7 U (z0o h (z0a U z0f) (mkC func244) (y1g _ _ hG (b3 _)) ?_));rintro _ i7 ⟨rfl,J⟩ a h;replace hG:=hG.ext J;replace Z:=Z.ext J;replace M:=M.ext J;replace I:=I.ext J;replace a4:=a4.next J;replace hC:=hC.next J;clear J;refine z0b (y8z 8 hC h wn U (by rw[underlying3];rfl) underlying5 (by first|exact IntWalk.u8_in _ oo|rfl) U U λa h=>z0d 10 U (z5r h U U I U U U k0y λg7 a7 J hz a h=>?_));replace hG:=hG.fr J (by simp[z0u]<;>omega);replace Z:=Z.fr J (by intro k O hb;simp at O;subst O;have:=a0 _ hb;omega);replace M:=M.fr J;replace a4:=a4.sp J;replace hC:=hC.sp J;clear I J hz;have I:Blk g7 g3 _ [_,_,_,_,_,_]:=a7;clear a7;refine z0b (z0c 11 h U z3i U λa h=>z0d 12 U (z5r h U U I U U U sz5 λg8 a7 J hz a h=>?_));replace hG:=hG.fr J (by simp[z0u]<;>omega);replace Z:=Z.fr J (by intro k O hb;simp at O;subst O;have:=a0 _ hb;omega);replace M:=M.fr J;replace a4:=a4.sp J;replace hC:=hC.sp J;clear I J hz;have I:Blk g8 g3 _ [_,_,_,_,_,_]:=a7;clear a7;refine z0b (z0p ?_);clear hC a6 a2 a3 a1;exact bk (h.sub (L':=[(2,_),(3,_)]) (.c2 U U)) (bn' (jE (()) (.c2 U U) ⟨((Fr.refl [g3] _).z4 a5 b5 b9 a4),by rw[z4e,y5r,if_neg c2,if_neg c3,if_neg c4,if_pos c5];exact I⟩));refine jn (ι:=Bool) [(0,_),(2,_),(3,_)] (λb6=>[(100,.bool b6)]) (λb6 w'=>Fr [] e8 w'/\b6=decide (fN (x0j (ws.getD 0 []))=true/\(ws.length:Int)=2)) (.c3 U U U) ?_ ?_;replace hG:=(hG.fr q4 (by first|exact z8w hG oo|simp[z0u]<;>omega)).ext a5;replace Z:=(((Z.ext (q1.n1 q2)).fr q3 (by intro k O hb;simp at O;subst O;have:=a0 _ hb;omega)).fr q4 (by intro k O hb;simp at O;subst O;have:=a0 _ hb;omega)).ext a5;replace M:=(((M.ext q2).fr q3).fr q4).ext a5;replace I:=I.ext a5;intro a h;have b0:=Fr.refl [] e8;refine z3v (λwb w'=>Fr [] wb w') z2m ?_;intro f0 J;replace hG:=hG.ext J;replace Z:=Z.ext J;replace M:=M.ext J;replace I:=I.ext J;replace b0:=b0.next J;have d0:=J.size;clear J;have hC:Fr [] f0 f0:=Fr.refl _ _;have a6:=hG;have a2:=Z;have a3:=M;have a1:=I;refine z0c 1 h U z6y U λa h=>z0j 2 h U (λ_ hw=>a1.ext hw) U v1s U λa h=>z0d 0 U (z0o h z0f (mkC func202) (x0u _) ?_);rintro _ i8 ⟨gm,rfl,e1,e2,hm,J⟩ a h;replace hG:=hG.ext J;replace Z:=Z.ext J;replace M:=M.ext J;replace I:=I.ext J;replace b0:=b0.next J;replace hC:=hC.next J;clear J;refine z0b (z0d 3 U (z6j (V:=kV) (k:=(x0j (ws.getD 0 []))) h U U hm y6w underlying303 x1k (z7o _) U λa h=>?_));refine z0b (z0d 4 U (x7k h U (λw=>fld1 _ w) U λa h=>?_));refine z0b (z0e 5 h U λa h=>?_);refine gSp (D:=106) h U ?_ ?_;clear h;intro g4 h;refine z0e 6 h U ?_ (hG:=(wy U));clear h a;intro a h;refine z6p 7 h (wy U) U underlying84 U λa h=>u1a 8 hC h (wy U) U U U U λa h=>z0d 9 U (z5p h U λa h=>?_);refine z0b (z0d 10 U (z0r h U λa h=>?_));refine z0b (z0p ?_);clear hC a6 a2 a3 a1;exact bk (h.sub (L':=[(0,_),(2,_),(3,_),(100,_)]) (.c4 U U U U)) (jE (_) (.c4 U U U U) ⟨b0,by simp_all [fN]⟩);clear h;intro g4 h;refine z2k 6 h U U λa h=>z2k 7 h U U λa h=>z2k 8 h U U λa h=>z0d 9 U (z4d h U U λa h=>?_);refine z0b (z0d 10 U (z0r h U λa h=>?_));refine z0b (z0p ?_);clear hC a6 a2 a3 a1;exact bk (h.sub (L':=[(0,_),(2,_),(3,_),(100,_)]) (.c4 U U U U)) (jE (_) (.c4 U U U U) ⟨b0,by simp_all [fN]⟩);rintro b6 i9 ⟨b4,rfl⟩;refine kpC [(0,_),(2,_),(3,_),(100,_)] (.c4 U U U U) (cd U (λc6=>?_) (λc6=>?_));refine rg (mv U U ?_);replace Z:=(((Z.ext (q1.n1 q2)).fr q3 (by intro k O hb;simp at O;subst O;have:=a0 _ hb;omega)).fr q4 (by intro k O hb;simp at O;subst O;have:=a0 _ hb;omega)).ext (a5.n1 b4);refine z1d (p:=1) ([]) U Z U y6y U (λf1 c9=>(z1k U (c9 _ Z) na9 ?_));replace hG:=(hG.fr q4 (by first|exact z8w hG oo|simp[z0u]<;>omega)).ext (a5.n1 b4);refine cl (ev1 U) (mkC func246) (x1t _ _ hG (b3 _)) U ?_;rintro _ j0 ⟨e,rfl,e5⟩;refine mv U U (xt U (xt U (fad U z3h ?_)));replace I:=I.ext (a5.n2 b4 e5);refine z3m (cs':=[_,_,_,_,_,_]) U I (by first|(simp[Value.oneCell',S];done)|exact Enc.one _ _) y6l U (λj1 I f5 j7=>?_);exact kpL [(2,_),(3,_)] (.c2 U U) (nl (bn' (jE (()) (.c2 U U) ⟨((Fr.refl [g3] _).z4 a5 b4 e5 f5),by rw[z4e,y5r,if_neg c2,if_neg c3,if_neg c4,if_neg c5,if_pos c6];exact I⟩)));refine sk (bn' ?_);replace I:=I.ext (a5.n1 b4);exact jE (()) (.c2 U U) ⟨((Fr.refl [g3] _).n2 a5 b4),by rw[z4e,y5r,if_neg c2,if_neg c3,if_neg c4,if_neg c5,if_neg c6];exact I⟩;rintro _j j2 ⟨e6,I⟩;have b8:=I.lt;refine kpC [(2,_),(3,_)] (.c2 U U) (sr (z0n U I y6p ?_));replace M:=(((M.ext q2).fr q3).fr q4).fr e6;refine z0k U M u6y (λj3 M f6 j8=>?_) (hl:=rfl);exact nn (rt (rC results191 U M y6p  ⟨_,rfl,rfl,(q1.z5 q2 q3 q4 e6 f6)⟩))
theorem u2g (l:List UInt8)(w0:World)(hG:Glob w0)(hl:l.length<=1000000):Rets prog 137 #[S l] w0 λr w'=>∃o e,y5k l=(o,e)/\r=.tuple #[opV o,.int .i64 e]/\Fr [] w0 w':=by
 have a2:=hG.sz;refine we [(0,S l)] func137 U ntmps137 U (.cons U .nil) (sr (al u7x U (λg2 w1 a3 D q1 z1=>(asg U (nn (sr (mv U U ?_)))))));replace hG:=hG.ext q1;refine cl (ev2 U) (mkC func134) (x8w _ _ _ hG oo dd) U ?_;rintro v6 w2 ⟨a0,J⟩;have z2:=J.size;replace hG:=hG.ext J;refine cl (ev1 U) (mkC func191) (u2y _ _ _ hG a0.sl (v8g _ _) (λi=>Nat.le_trans (x2j _ _ i) hl)) U ?_;rintro _ w3 ⟨rfl,M⟩;have z3:=M.size;refine al u7x U (λg4 w4 a4 I Z z4=>(z0k U I u6y (λw5 I q5 z5=>?_) (hl:=rfl)));refine nn (sq (sq (x9y (r:=16) (L':=[(2,_),(4,_)]) ((((z9v (z4e (Lib.split l [32])))≠0)\/((j9d (z4e (Lib.split l [32])))≠l))) (.c2 U U) ?_ ?_)));refine z0n U I y6p (cl (ev1 U) (mkC func100) (y8r (z4e (Lib.split l [32])) _) U ?_);rintro _ w6 ⟨rfl,q6⟩;have z6:=q6.size;refine ne' U (mv U U (gs 11 U (λg0=>?_) (λg0=>?_)));exact gN U (gN U (gN U (gN U (pkt U (z9e U (.c2 U U) q6)))));refine gY U ?_;replace I:=I.ext q6;refine z0n U I y6p (gY U ?_);replace hG:=((hG.ext (M.n1 Z)).fr q5 (by first|exact z8w hG oo|simp[z0u]<;>omega)).ext q6;refine cl (ev1 U) (mkC func192) (j3b (z4e (Lib.split l [32])) _ hG) U ?_;rintro _ w7 ⟨rfl,q7⟩;have z7:=q7.size;exact gY U (mv U U (gY U (j6z U U U (pkf U (z9e U (.c2 U U) (q6.n1 q7))))));intro w8 O;have z8:=O.size;refine tn (cd U (λc0=>?_) (λc0=>?_));refine sr (z1y (cs:=[_,_,_,_,_,_]) z0f j5h z0s U ?_);replace D:=((D.ext (J.n2 M Z)).fr q5).ext O;refine z0k U D u6y (λw9 D q9 z9=>?_) (hl:=rfl);exact asg U (nn (rt (tr (rCT results137 U D y6p U ⟨_,rfl,op0,4,by rw[y5k,if_pos c0],rfl,(q1.z6 J M Z q5 O q9)⟩))));refine sk (tn (sr ?_));replace I:=I.ext O;refine z0n U I y6p ?_;replace D:=((D.ext (J.n2 M Z)).fr q5).ext O;refine z0k U D u6y (λa5 D a1 a6=>?_) (hl:=rfl);exact asg U (nn (rt (rCT results137 U D y6p U ⟨_,rfl,(z4e (Lib.split l [32])),0,by rw[y5k,if_neg c0],rfl,(q1.z6 J M Z q5 O a1)⟩)))
theorem v2a (l:List UInt8)(w0:World)(hG:Glob w0)(hl:l.length<=1000000):Rets prog 75 #[S l] w0 λr w'=>∃A os n e,x7f l=(os,n,e)/\r=.tuple #[.slice A os.length os.length,.int .i64 n,.int .i64 e]/\Lw.Own z9z 47 w0.heap.size w' (.slice A os.length os.length) os/\Fr [] w0 w':=by
 have a0:=λi=>x2j l [10] i;have d0:=hG.sz;refine we [(0,S l)] func75 U ntmps75 U (.cons U .nil) (sr (asg U (asg U (asg U (nn (sr (asg U (nn (sq (sr (mv U U (cl (ev2 U) (mkC func134) (x8w _ _ _ hG oo dd) U ?_))))))))))));rintro d6 w1 ⟨D,q1⟩;have z1:=q1.size;obtain⟨b8,b9,rfl,b5⟩:=D.sl.form;have a7:=λk hk=>(D.blk k hk).2;have a8:=D.sl.len_le;unfold maxLen at a8;refine lnS U underlying84 (mv U U (nn (bl (lpK (ι:=Nat×List MOp×Option Addr×Nat) [(12,_),(13,_)] (λp=>[(5,.slice p.2.2.1 p.2.1.length p.2.2.2),(14,.int .i64 (p.1:Int))]) (λp w'=>Fr [] w1 w'/\p.1<=(Lib.split l [10]).length/\Lw.Own z9z 47 w1.heap.size w' (.slice p.2.2.1 p.2.1.length p.2.2.2) p.2.1/\v1m ((Lib.split l [10]).drop p.1) p.1 p.2.1=x7f l/\p.2.1.length<=4096) (λp=>(Lib.split l [10]).length-p.1) (0,[],none,0) (.c4 U U U U) ⟨Fr.refl _ _,⟨Nat.zero_le _,Own.nil _,rfl,dd⟩⟩ ?_))));rintro⟨i,M,A5,c5⟩ w2 ⟨q2,⟨hi,J,I,a2⟩⟩;simp only at hi J I a2;have z2:=q2.size;refine kpC [(12,_),(13,_),(5,.slice A5 M.length c5),(14,.int .i64 (i:Int))] (.c4 U U U U) (sr (lt' U (nn (sq (cd U (λc0=>?_) (λc0=>?_))))));rw[v9x (Lib.split l [10]) i [] oo,v1m]at I;have d3:=a0 i;refine sk (tn (sq (bl (sr (mv U U ?_)))));replace D:=D.ext q2;refine z1d (p:=i) ([]) U D.sl U y6y oo (λb4 a3=>(z1k U (a3 _ D.sl) na9 (asg U (asg U (nn (sr (mv U U ?_)))))));replace hG:=hG.ext (q1.n1 q2);refine cl (ev2 U) (mkC func135) (j1c _ _ _ hG (by have:=a0 i;omega)) U ?_;rintro _ w3 ⟨rfl,q3⟩;have z3:=q3.size;refine mv U U (xt U (xt U (xt U (asg U (kpL [(5,_),(6,_),(7,_),(12,_),(13,_),(14,_)] (.c6 U U U U U U) (nn (sr (mv U U (cl (ev2 U) (mkC func136) (u9u _ _ (by have:=a0 i;have:=v7i ((Lib.split l [10]).getD i []) [35];omega)) U ?_)))))))));rintro _ w4 ⟨rfl,q4⟩;have z4:=q4.size;refine asg U (nn (sq (sr (mv U U (x4y U (nn (cd U (λc1=>?_) (λc1=>?_))))))));rw[if_pos (show y8q ((Lib.split l [10]).getD i [])=[] from c1)]at I;refine ex (te (xh (tn (rg (z1b U (wi6 oo) (mv U U (nl ?_)))))));replace J:=J.ext (q3.n1 q4);exact lpE ((i+1,M,A5,c5)) (.c4 U U U U) ⟨(q2.n2 q3 q4),⟨oo,J,by simpa using I,a2⟩⟩ oo;rw[if_neg (show ¬y8q ((Lib.split l [10]).getD i [])=[] from c1)]at I;refine sk (tn (sr (mv U U ?_)));replace hG:=hG.ext (q3.n1 q4);refine cl (ev1 U) (mkC func137) (u2g _ _ hG (by have:=a0 i;have:=u1x ((Lib.split l [10]).getD i []);unfold y8q at this;omega)) U ?_;rintro _ w5 ⟨o,e,b0,rfl,q5⟩;have z5:=q5.size;rw[show y5k (y8q ((Lib.split l [10]).getD i []))=(o,e) from b0]at I;simp only at I;refine mv U U (xt U (xt U (al u7x U (λg8 w6 d4 a1 q6 z6=>(z0k U a1 u6y (λw7 a1 q7 z7=>?_) (hl:=rfl))))));refine asg U (kpL [(5,_),(6,_),(8,_),(9,_),(12,_),(13,_),(14,_)] (.c7 U U U U U U U) (nn (sq (sr (mv U U (ne' U (nn (cd U (λc2=>?_) (λc2=>?_)))))))));rw[if_pos c2]at I;exact sr (mv U U (z1b U (wi6 oo) (mv U U (asg U (asg U (asg U (kpL [(2,_),(3,_),(4,_)] (.c3 U U U) (nn (rt (tr (rb (tr (tr (rb (tr (r3 results75 U U U ⟨_,rfl,none,[],_,_,I.symm,rfl,Own.nil _,(q1.z6 q2 q3 q4 q5 q6 q7)⟩))))))))))))))));rw[if_neg c2]at I;refine sk (tn (sq (sr (mv U U (lnS U underlying25 (eq' U (nn (cd U (λc3=>?_) (λc3=>?_)))))))));rw[if_pos c3]at I;exact sr (mv U U (z1b U (wi6 oo) (asg U (asg U (asg U (kpL [(2,_),(3,_),(4,_)] (.c3 U U U) (nn (rt (tr (rb (tr (tr (rb (tr (r3 results75 U U U ⟨_,rfl,none,[],_,_,I.symm,rfl,Own.nil _,(q1.z6 q2 q3 q4 q5 q6 q7)⟩)))))))))))))));rw[if_neg c3]at I;refine sk (tn (rg (mv U U (z0n U a1 y6p (z2t ([o]) (ev1 U) U v7m (λc9 w8 b6 a4 q8 z8=>?_))))));replace hG:=((hG.ext (q5.n1 q6)).fr q7 (by first|exact z8w hG oo|simp[z0u]<;>omega)).ext q8;replace D:=((D.ext (q3.n3 q4 q5 q6)).fr q7 (by first|exact z8w D oo|simp[z0u]<;>omega)).ext q8;replace J:=((J.ext (q3.n3 q4 q5 q6)).fr q7 (by first|exact z8w J oo|simp[z0u]<;>omega)).ext q8;have O:=J;refine z2l U J a4.sl v7m (λd7 w9 J q9 a9=>?_) (hM:=(by unfold maxLen;simp;omega)) (hb:=so);have z9:=q9.size;replace hG:=hG.fr q9 (λk hk=>by have:=(O.blk k hk).1;omega);replace D:=D.fr q9 (λk hk hb=>by have:=(O.blk k hk).1;have:=a7 k hb;omega);obtain⟨A7,c7,rfl,d1⟩:=J.sl.form;exact asg U (kpL [(5,_),(12,_),(13,_),(14,_)] (.c4 U U U U) (nl (bn' (tn (rg (z1b U (wi6 oo) (mv U U (nl (lpE ((i+1,M++[o],A7,c7)) (.c4 U U U U) ⟨((q2.z6 q3 q4 q5 q6 q7 q8).step q9 (λk hk d5=>absurd (O.blk k hk).1 oo)),⟨oo,J,by simpa using I,so⟩⟩ oo)))))))));obtain rfl:i=(Lib.split l [10]).length:=by omega
 rw[List.drop_length,v1m]at I;refine ex (te (te (xh (tn (sr (mv U U (lnS U underlying25 (z1e (m:=M.length) (c:=M.length) op0 U v7m u7x U (λa6 d9 b7 Z a5 e1=>?_) (hmc:=(Nat.le_refl _))))))))));refine asg U (kpL [(5,_),(10,_)] (.c2 U U) (nn (sr (mv U U (mv U U ?_)))));replace J:=J.ext a5;refine z6n (zs:=List.replicate M.length op0) (by rw[List.length_replicate];rfl) U (by rw[List.length_replicate];exact Z) J.sl (by rw[List.length_replicate]) v7m (λe0 Z b3 e2=>?_);rw[List.length_replicate]at Z;exact nn (sr (mv U U (asg U (asg U (asg U (nn (rt (r3 results75 U U U ⟨_,rfl,some ⟨a6,0,none⟩,M,0,0,I.symm,rfl,Z.low oo,(q1.z3 q2 a5 b3)⟩))))))))
open Go.Lw Go.G21 Go.G08 _root_.Go.Proofs.Tryz
end Go.Proofs.YtjilcnmaefhmeaaGreatDoor
namespace Go.Lw
open Go.RowKit
end Go.Lw
namespace Go.Proofs.YtjilcnmaefhmeaaGreatDoor
open Go.Lw Go.G21 Go.G08 _root_.Go.Proofs.Tryz
def j6d (l:List MOp):Nat:=match z3n 0 G08.start l with
  | .error (_,n)=>n
  | .ok _=>l.length
theorem j4a (I D:Nat)(v:Value)(l:List MOp)(w0:World)(hS:StAt w0 (st0 I D))(hv:Sl z9z w0 v l)(J:StT w0)(M:l.length<=4096):Rets prog 13 #[.agg #[.int .i64 (st0 I D).rk,.slice (st0 I D).q.f.1 (st0 I D).q.f.2.1 (st0 I D).q.f.2.2,.slice (st0 I D).q.b.1 (st0 I D).q.b.2.1 (st0 I D).q.b.2.2,.slice (st0 I D).yv.1 (st0 I D).yv.2.1 (st0 I D).yv.2.2,.slice (st0 I D).fb.t.1 (st0 I D).fb.t.2.1 (st0 I D).fb.t.2.2,.slice (st0 I D).fb.c.1 (st0 I D).fb.c.2.1 (st0 I D).fb.c.2.2,.slice (st0 I D).fb.h.1 (st0 I D).fb.h.2.1 (st0 I D).fb.h.2.2,.slice (st0 I D).fb.f.1 (st0 I D).fb.f.2.1 (st0 I D).fb.f.2.2],v] w0 λr w'=>(∃s':StQ,r=.tuple #[.agg #[.int .i64 s'.rk,.slice s'.q.f.1 s'.q.f.2.1 s'.q.f.2.2,.slice s'.q.b.1 s'.q.b.2.1 s'.q.b.2.2,.slice s'.yv.1 s'.yv.2.1 s'.yv.2.2,.slice s'.fb.t.1 s'.fb.t.2.1 s'.fb.t.2.2,.slice s'.fb.c.1 s'.fb.c.2.1 s'.fb.c.2.2,.slice s'.fb.h.1 s'.fb.h.2.1 s'.fb.h.2.2,.slice s'.fb.f.1 s'.fb.f.2.1 s'.fb.f.2.2],.int .i64 (j6d l:Int),.int .i64 (u1h l)]/\StO τd 117 w0.heap.size w' s'/\∀p,z3n 0 G08.start l=.ok p->s'.p=stM p)/\Fr [] w0 w':=
 Rets.mono (j4v I D v l w0 hS hv J M) (by
  rintro r w' ⟨h,hf⟩
  refine⟨?_,hf⟩
  unfold u1h j6d
  cases e:z3n 0 G08.start l with
  | error x=>
   obtain⟨e1,n⟩:=x
   rw[e]at h
   exact⟨stZ,h,k0w _ _,λp hp=>by cases hp⟩
  | ok p=>
   rw[e]at h
   obtain⟨s',O,Z,h3⟩:=h
   exact⟨s',O,Z,λq hq=>by cases hq;exact h3⟩)
theorem x8z {l:List MOp}{p:MSt}(h:z3n 0 G08.start l=.ok p):u1h l=0/\j6d l=l.length:=by
 unfold u1h j6d;rw[h];exact⟨rfl,rfl⟩
open Go.Lw Go.G21 Go.G08 Go.G09 _root_.Go.Proofs.Tryz
theorem v8p (x y:Hz):orZ [z6c x.o y.o,z6c x.k y.k,z6q x.id y.id]=y0v x y:=by
 unfold y0v orZ orZ orZ orZ;(repeat' split)<;>first|rfl|omega|(rename_i h;exact(Decidable.not_not.1 h).symm)|simp_all
theorem k2j (x:Int)(W:World):Calls prog 130 #[.int .u8 x] W λe w'=>e=.returned (.bool false)/\w'=W:=by
 go_enter func130,ntmps130;go_wp2;go_ret;exact⟨sp0,rfl⟩
theorem k3i (x y:Int)(W:World):Calls prog 68 #[.int .u8 x,.int .u8 y] W λe w'=>e=.returned (.int .i64 (z6c x y))/\w'=W:=by
 go_enter func68,ntmps68
 go_wp2_with (go_at_call 130;refine(k2j _ _).mono ?_;rintro e w' ⟨rfl,D⟩;rw[D])
 all_goals (go_ret;refine⟨?_,rfl⟩;unfold z6c;(repeat' split)<;>first|rfl|(exfalso;omega))
theorem orD3 (b T:Nat)(x y z:Int)(W:World)(D:W.heap[b]?=some (.cells #[.int .i64 x,.int .i64 y,.int .i64 z] T (0,0))):Calls prog 66 #[.slice (some ⟨b,0,none⟩) 3 3] W λe w'=>e=.returned (.int .i64 (orZ [x,y,z]))/\w'=W:=
 Calls.mono (j8u _ [x,y,z] W (Lw.Own.sl (E:=Enc.i64) (T:=T) (base:=b) (.inr ⟨b,3,_,rfl,Nat.le_refl _,D,Nat.le_refl _,dd,Nat.le_refl 3,rfl⟩)) sp0) (by rintro e w' ⟨r,rfl,rfl,h⟩;exact⟨rfl,h⟩)
abbrev hzVd (x:Hz):Value:=.agg #[.int .i64 x.o,.int .u8 x.k,.int .u8 x.id.y,.int .i64 x.id.n]
theorem k0j (x y:Hz)(W:World):Calls prog 65 #[hzVd x,hzVd y] W λe w'=>e=.returned (.int .i64 (y0v x y))/\DG W w':=by
 rw[<-v8p x y]
 go_enter func65,ntmps65
 go_wp2
 go_region_held3 (λw'=>w'.cell? ⟨W.heap.size,0,none⟩=some (.int .i64 x.o)/\w'.cell? ⟨W.heap.size,1,none⟩=some (.int .u8 x.k)/\w'.cell? ⟨W.heap.size,2,none⟩=some (.int .u8 x.id.y)/\w'.cell? ⟨W.heap.size,3,none⟩=some (.int .i64 x.id.n)/\w'.cell? ⟨W.heap.size+1,0,none⟩=some (.int .i64 y.o)/\w'.cell? ⟨W.heap.size+1,1,none⟩=some (.int .u8 y.k)/\w'.cell? ⟨W.heap.size+1,2,none⟩=some (.int .u8 y.id.y)/\w'.cell? ⟨W.heap.size+1,3,none⟩=some (.int .i64 y.id.n)) (first|go_keep|exact⟨D.cell (by simp[*]),D.cell (by simp[*]),D.cell (by simp[*]),D.cell (by simp[*]),D.cell (by simp[*]),D.cell (by simp[*]),D.cell (by simp[*]),D.cell (by simp[*])⟩)
  (first|(go_at_call 68;refine(k3i _ _ _).mono ?_;rintro e w' ⟨rfl,rfl⟩)|(go_at_call 67;refine(cmpD _ _ _).mono ?_;rintro e w' ⟨rfl,rfl⟩)|(go_at_call 69;refine(u3p ⟨_,_⟩ ⟨_,_⟩ _).mono ?_;rintro e w' ⟨rfl,D⟩)|(go_at_call 66;refine(orD3 _ 3 (z6c x.o y.o) (z6c x.k y.k) (z6q x.id y.id) _ (u3b _ _ _ sp0)).mono ?_;rintro e w' ⟨rfl,rfl⟩)|(go_at_call 66;refine(orD3 _ 3 (z6c x.o y.o) (z6c x.k y.k) (z6q x.id y.id) _ (j6w _ _ _ sp0)).mono ?_;rintro e w' ⟨rfl,rfl⟩))
 all_goals go_wp2
 all_goals go_ret
 all_goals refine⟨rfl,?_⟩
 all_goals repeat first|exact DG.refl _|refine DG.trans ?_ D|refine DG.drew ?_|refine DG.alloc ?_ _
open Go.Shelf Go.Sort
instance:Inhabited Hz:=⟨hz0⟩
theorem j9t {w0:World}{T base:Nat}{v:Value}{l:List Hz}(ho:Lw.Own y3f T base w0 v l)(hl:l.length<4611686018427387904):Rets prog 64 #[v,.func (.func 65) #[] #[]] w0 λr w'=>r=.tuple #[]/\Lw.Own y3f T base w' v (y7d l)/\Fr (z0u v) w0 w':=
 Rets.mono (y9g (E:=y3f) (f:=64) sortHz U isAgg75 sizeOf75 y0v swoH (enters_of func65 kr U) (λx y W=>k0j x y W) (j0c _) ho hl) (by
  rintro r w' ⟨rfl,l',J,M,D,I⟩
  rw[x7c J M]at D
  exact⟨rfl,D,I⟩)
open Go.Lw Go.G21 Go.G08 Go.G09 _root_.Go.Proofs.Tryz
theorem k0x:BuildAt prog 143 [(0,4),(4,1),(5,1),(6,2),(8,6),(14,6),(20,3),(23,1)] [(.slice none 0 0),(.slice none 0 0),(.slice none 0 0),(.slice none 0 0),(.map none),(.int .i64 0),(.slice none 0 0),(.slice none 0 0),(.int .i64 0),(.int .i64 0),(.int .i64 0),(.int .i64 0),(.int .i64 0),(.int .i64 0),(.int .i64 0),(.int .i64 0),(.int .i64 0),(.int .i64 0),(.int .i64 0),(.int .i64 0),(.map none),(.map none),(.map none),(.slice none 0 0)]:=BuildAt.struct underlying143 (λ_=>kr) (λ_=>kr)
theorem zv75 (w:World):(zeroValue 75).run prog w=.ok (.agg #[(.int .i64 0),(.int .u8 0),(.int .u8 0),(.int .i64 0)]) w:=kr
theorem j0q {l:List MOp}(h:u1h l=0):∃q,z3n 0 G08.start l=.ok q:=by
 unfold u1h at h;cases e:z3n 0 G08.start l with
 | ok q=>exact⟨q,rfl⟩
 | error x=>
  obtain⟨D,n⟩:=x;rw[e]at h;exact absurd h (u6u e)
theorem k1a {s:StQ}{q:MSt}(h:s.p=stM q)(I:MVal q):z1r s.fb.ts=q.tb/\s.fb.hs=(z2n q.B q.rk).map Hd.id/\s.fb.fs=z7w q.fa/\s.fb.ts.length=6:=by
 have D:z1r s.fb.ts=q.tb:=congrArg (λz=>z.fb.t) h;refine⟨D,congrArg (λz=>z.fb.h) h,congrArg (λz=>z.fb.f) h,?_⟩;rw[<-z8z,D];exact I.inv.lt
theorem u4d {q:MSt}(D:MVal q):(z7w q.fa).length<=2048:=by
 rw[(z5n q.fa).length_eq];have I:=D.inv.cnt;have J:=D.inv.all;omega
theorem u8l (v:Value)(l:List MOp)(w0:World)(hv:Sl z9z w0 v l)(hTS:StT w0)(hl4:l.length<=4096):Rets prog 20 #[v] w0 λr w'=>(∃x,r=.tuple #[x,.int .i64 (j6d l:Int),.int .i64 (u1h l)]/\(u1h l≠0->x=.slice none 0 0)/\∀q,z3n 0 G08.start l=.ok q->∃g n,x=.slice (some ⟨g,0,none⟩) n n/\Lw.Own y3f 75 w0.heap.size w' x (y7d (y7b l q)))/\Fr [] w0 w':=by
 obtain⟨A,c,rfl,hcc,hMl,hA⟩:=id hv;clear hA;unfold maxLen at hMl;refine we [(0,.slice A l.length c)] func20 U ntmps20 U (.cons U .nil) ?_;have hv0:=hv;have hTS0:=hTS;refine sr (asg U (asg U (asg U (nn (sr (cl z0f (mkC func14) (v9o _) U ?_))))));rintro _ w1 ⟨⟨gy,gt,rfl,hSt⟩,q1⟩;have z1:=q1.size;have hSt0:=hSt;refine mv U U ?_;replace hv:=hv0.ext q1;replace hTS:=hTS0.ext q1;refine cl (ev2 U) (mkC func13) (j4a gy gt _ l _ hSt hv hTS hl4) U ?_;rintro _ w2 ⟨⟨s,rfl,hO,hsp0⟩,q2⟩;have z2:=q2.size;have hO0:=hO;refine mv U U (xt U (xt U (xt U (al k0r U (λg5 w3 hg5 hb5 q3 z3=>?_)))));refine z0k (vs:=[_,_,_,_,_,_,_,_]) U hb5 v7w (λw4 hb5 q4 z4=>?_) (h1:=(by first|(simp[Value.oneCell',S];done)|exact z1f.one _|exact z9z.one _));refine asg U (asg U (kpL [(0,_),(5,_),(6,_),(7,_)] (.c4 U U U U) (nn (sq (sr (mv U U (ne' U (nn (cd U (λc0=>?_) (λc0=>?_))))))))));exact sr (mv U U (mv U U (asg U (asg U (asg U (kpL [(2,_),(3,_),(4,_)] (.c3 U U U) (nn (rt (tr (r3 results20 U U U ⟨_,rfl,⟨_,rfl,λ_=>rfl,λq hq=>absurd (x8z hq).1 c0⟩,(q1.z3 q2 q3 q4)⟩))))))))));replace hO:=hO0.ext (q3.z1 q4);replace hv:=hv0.ext (q1.z3 q2 q3 q4);obtain⟨qf,hqf⟩:=j0q (Classical.not_not.1 c0);have hsp:=hsp0 _ hqf;have hnr:=(x8z hqf).2;have hF0:Fr [] w0 w4:=(q1.z3 q2 q3 q4);have hO0:=hO;have hb50:=hb5;have hvS:=hv;have hvq:=x0n z8t hqf;obtain⟨htb,hhs,hfs,h6⟩:=k1a hsp hvq;have hfl:=u4d hvq;have hhl:=z1z hO0.at.f.h;have hhl2:s.fb.hs.length<=320:=by rw[hhs,List.length_map];exact x5l hvq.inv.B _
 refine sk (tn (sr (fad U y0k (z1w (vs:=[_,_,_,_]) U hb5 u0r U (z8y idV U (λg29 w5 hg29 hm q5 z5=>?_))))));rw[<-x0b]at hm;refine z1y (cs:=[_,_,_,_,_,_,_,_,_,_,_,_,_,_,_,_,_,_,_,_,_,_,_,_]) (ev2 U) k0x (z0g U (z0g U z0s)) U ?_;refine bx U (λg31 w6 hg31 hb31 q6 z6=>(asg U (kpL [(0,_),(5,_),(6,_),(8,_)] (.c4 U U U U) (nn (sq (sr (fad U y0k ?_)))))));replace hb5:=hb50.ext (q5.n1 q6);refine z1w (vs:=[_,_,_,_]) U hb5 u0r U ?_;replace hO:=hO0.ext (q5.n1 q6);refine cl (ev1 U) (mkC func60) (j4b s.fb _ hO.at.f h6 (by rw[htb,hfs];exact λi hi=>hvq.fa i ((z5n qf.fa).mem_iff.1 hi)) (by rw[hfs];omega)) U ?_;rintro _ w7 ⟨A34,n34,rfl,hU,q7⟩;have z7:=q7.size;rw[hfs,htb]at hU;have hn34:n34=((z7w qf.fa).filter λi=>!z4n qf.tb i).length:=by
  obtain⟨_,_,e_,_⟩:=hU.sl.form;injection e_ with e1 e2 e3
 have hn35:n34<=2048:=by rw[hn34];exact Nat.le_trans (List.length_filter_le _ _) hfl
 refine lnS U underlying27 (mv U U (nn (bl ?_)));replace hm:=hm.ext (q6.n1 q7);refine lpK (ι:=Nat) [(0,_),(5,_),(6,_),(8,_),(34,_),(35,_)] (λk=>[(36,.int .i64 (k:Int))]) (λk w'=>Fr [g29] w7 w'/\k<=n34/\MapF idV w' g29 (z6l (((z7w qf.fa).filter λi=>!z4n qf.tb i).take k))) (λk=>n34-k) 0 (.c7 U U U U U U U) ⟨Fr.refl _ _,⟨Nat.zero_le _,by rw[List.take_zero];exact hm⟩⟩ ?_;rintro k w8 ⟨q8,⟨hk,hm⟩⟩;have z8:=q8.size;refine kpC [(0,_),(5,_),(6,_),(8,_),(34,_),(35,_),(36,_)] (.c7 U U U U U U U) (sr (lt' U (nn (sq (cd U (λc1=>?_) (λc1=>?_))))));refine sk (tn (sq (bl (sr ?_))));replace hU:=hU.fr q8 (by intro k hk hb;simp at hk;have:=(hU.blk _ hb).1;omega);refine z1d (id0) U hU.sl U z4x z1g (λad38 hc38=>?_);refine z1l U (hc38 _ hU.sl) z2y (al y0n U (λg10 w9 hg10 hb10 q9 z9=>?_));refine z0k (vs:=[_,_]) U hb10 y0c (λw10 hb10 q10 z10=>?_) (h1:=(by first|(simp[Value.oneCell',S];done)|exact z1f.one _|exact z9z.one _));refine nn ?_;replace hb31:=(((hb31.ext q7).fr q8).ext q9).fr q10;replace hm:=(hm.ext q9).fr q10 so;intro a h;refine z0h (some 5) (λwb w'=>Fr [] wb w') z2m ?_;intro w11 q11;have z11:=q11.size;replace hb31:=hb31.ext q11;replace hm:=hm.ext q11;replace hb10:=hb10.ext q11;have hC:Fr [] w11 w11:=Fr.refl _ _;have hb31_b:=hb31;have hm_b:=hm;have hb10_b:=hb10;refine z0e 0 h U λa h=>z0l 1 h U λa h=>z0c 2 h U v8e U λa h=>z0j 3 h U (λ_ hw=>hb31_b.ext hw) U x6g U λa h=>z0v 4 h U (λ_ hw=>hb10_b.ext hw) z2y U λa h=>z0d 5 U (x3r (V:=idV) (k:=((z7w qf.fa).filter λi=>!z4n qf.tb i).getD k id0) h U U U hm z4a underlying135 λw12 hcN q12 _hz a h=>?_);rw[y4v]at hcN;clear hm;have hm:=hcN;clear hcN;have z12:=q12.size;replace hb31:=hb31.fr q12;replace hb10:=hb10.fr q12;clear _hz;refine z1m (z0p ?_);clear hC hb31_b hm_b hb10_b;exact bk (h.sub (L':=[(0,_),(5,_),(6,_),(8,_),(34,_),(35,_),(36,_)]) (.c7 U U U U U U U)) (bn' (tn (rg (z1b U (wi6 oo) (mv U U (nl (lpE (k+1) (.c7 U U U U U U U) ⟨((Fr.refl [g29] _).z5 q8 q9 q10 q11 q12),⟨oo,by rw[z1s id0 oo];exact hm⟩⟩ oo)))))));replace hb31:=(hb31.ext q7).fr q8;replace hO:=hO0.ext (q5.z3 q6 q7 q8);rw[List.take_of_length_le oo]at hm;have hW:WkM τw w4 ⟨g31,w8⟩ w8 (⟨s.fb,g29,0,⟨sv0,sv0,[],[]⟩,[0,0,0,0,0,0],[0,0,0,0,0,0],.map none,.map none,.map none,sv0⟩:WtQ) vw0 (z6l ((z7w qf.fa).filter λi=>!z4n qf.tb i)) []:=⟨hb31,⟨⟨Own.nil _,λp hp=>(by cases hp)⟩,⟨Own.nil _,λp hp=>(by cases hp)⟩⟩,hm,.inl ⟨rfl,λ_=>rfl⟩,.inl ⟨rfl,λ_=>rfl⟩,Own.nil _,hO0.at.f,(by show _<=g31;omega),rfl,rfl,(q5.z3 q6 q7 q8),KpM.refl _ _ _,⟨_,rfl⟩⟩;have hW0:=hW;refine ex (te (te (xh (tn (sq (sr (mv U U (lnS U underlying25 (mv U U (nn (bl (lpK (ι:=Nat) [(0,_),(5,_),(6,_),(8,_),(46,_),(47,_)] (λi=>[(48,.int .i64 (i:Int))]) (λi w'=>i<=l.length/\∃(p:MSt) (t:Wt) (u:WtQ) (fd:List Hz),RepI l qf ((z7w qf.fa).filter λi=>!z4n qf.tb i) i p t/\WkM τw w4 ⟨g31,w8⟩ w' u t.vw (z6l ((z7w qf.fa).filter λi=>!z4n qf.tb i)) fd/\fd.Perm t.fd/\u.q.p=p.B/\u.rk=p.rk/\u.ct=ctL p/\u.md=t.md/\u.fb=s.fb) (λi=>l.length-i) 0 (.c7 U U U U U U U) ⟨Nat.zero_le _,G08.start,wt0,(⟨s.fb,g29,0,⟨sv0,sv0,[],[]⟩,[0,0,0,0,0,0],[0,0,0,0,0,0],.map none,.map none,.map none,sv0⟩:WtQ),[],RepI.zero l qf _,hW,List.Perm.refl _,rfl,rfl,rfl,rfl,rfl⟩ ?_))))))))))));rintro i w13 ⟨hil,p,t,s1,fd,hrp,hW,hpf,he1,he2,he3,he4,he5⟩;have hW0:=hW;refine kpC [(0,_),(5,_),(6,_),(8,_),(46,_),(47,_),(48,_)] (.c7 U U U U U U U) ?_;have hv:=hvS.ext hW.fr;have hv0:=hv;have hfl1:=hpf.length_eq;have hfl2:=hrp.len;refine sr (lt' U (nn (sq (cd U (λc2=>?_) (λc2=>?_)))));have hlt:i<l.length:=by omega
 obtain⟨qn,hdo,hrq,hhs2,hnw⟩:=hrp.step hqf hlt;refine sk (tn (sq (bl (sr (mv U U (z1d (op0) U hv U v7m z1g (λad51 hc51=>?_)))))));refine z1l U (hc51 _ hv) y6p (al u7x U (λg12 w14 hg12 hb12 q14 z14=>?_));refine asg U (z0k (vs:=[_,_,_,_,_,_]) U hb12 u6y (λw15 hb12 q15 z15=>?_) (h1:=(by first|(simp[Value.oneCell',S];done)|exact z1f.one _|exact z9z.one _)));refine nn (sq (sq (rbo (r:=65) (L':=[(0,_),(5,_),(6,_),(8,_),(11,_),(12,_),(46,_),(47,_),(48,_)]) (((((l.getD i op0).k=1)\/((l.getD i op0).k=2))\/((l.getD i op0).k=6))) (.d8 U U U U U U U U (.cons U .nil)) ?_ ?_)));refine fad U z6y (z0i U hb12 U v1s (eq' U (mv U U (gs 56 U (λg0=>?_) (λg0=>?_)))));exact gN U (gN U (gN U (pkt U (mv U U (gN U (gN U (gN U (pkt U (rbe U (.d8 U U U U U U U U (.cons U .nil)))))))))));refine gY U (fad U z6y (gY U (z0i U hb12 U v1s (gY U (eq' U (pkf U (mv U U (gs 61 U (λg1=>?_) (λg1=>?_)))))))));exact gN U (gN U (gN U (pkt U (rbe U (.d8 U U U U U U U U (.cons U .nil))))));exact gY U (fad U z6y (gY U (z0i U hb12 U v1s (gY U (eq' U (pkf U (rbe U (.d8 U U U U U U U U (.cons U .nil)))))))));refine tn (cd U (λc3=>?_) (λc3=>?_));have hyn:v2h (l.getD i op0):=by unfold v2h;omega
 obtain⟨hy1,hy2,hy3⟩:=k1g hdo hyn;refine ex (te (xh (tn (rg (z1b U (wi6 oo) (mv U U (nl ?_)))))));replace hW:=hW0.ext (q14.z1 q15);exact lpE ((i+1)) (.c7 U U U U U U U) ⟨oo,qn,_,s1,fd,hrq,by rw[show (z6s qf.tb ((z7w qf.fa).filter λi=>!z4n qf.tb i) (i:Int) (l.getD i op0) p qn t)=t from if_pos hyn];exact hW,by rw[show (z6s qf.tb ((z7w qf.fa).filter λi=>!z4n qf.tb i) (i:Int) (l.getD i op0) p qn t)=t from if_pos hyn];exact hpf,he1.trans hy2.symm,he2.trans hy1.symm,he3.trans hy3.symm,by rw[show (z6s qf.tb ((z7w qf.fa).filter λi=>!z4n qf.tb i) (i:Int) (l.getD i op0) p qn t)=t from if_pos hyn];exact he4,he5⟩ oo;have hny:¬v2h (l.getD i op0):=by unfold v2h;omega
 have hst:z6s qf.tb ((z7w qf.fa).filter λi=>!z4n qf.tb i) (i:Int) (l.getD i op0) p qn t=j5j qf.tb (i:Int) qn (doH qf.tb ((z7w qf.fa).filter λi=>!z4n qf.tb i) (i:Int) (l.getD i op0) p t):=if_neg hny;refine sk (tn (sr (mv U U (mv U U (z0n U hb12 y6p ?_)))));replace hW:=hW0.ext (q14.z1 q15);have hWp:=hW.kp;refine cl (z0a U (z0a U (z0a U z0f))) (mkC func61) (j6v w4 (⟨g31,w15⟩:WA) s1 t.vw (z6l ((z7w qf.fa).filter λi=>!z4n qf.tb i)) fd (i:Int) (l.getD i op0) p qn ((z7w qf.fa).filter λi=>!z4n qf.tb i) _ hW.mark hrp.v.inv hrq.v.inv hdo (by unfold v2h;omega) he1 he2 he3 (by rw[he4];exact hrp.md) (by rw[he5];exact h6) (by rw[he5,htb];exact hnw) U oo) U ?_;rintro _ w16 ⟨rfl,s2,hW1,hf1,hf2,hf3,hf4,hf5⟩;have hKp:=hW1.kp;simp only at hKp;have z16:=hKp.size;replace hW:=hW1.unmark hWp;clear hWp hW1;have hW0:=hW;refine kpL [(0,_),(5,_),(6,_),(8,_),(11,_),(46,_),(47,_),(48,_)] (.c8 U U U U U U U U) (nn (rg (mv U U (mv U U ?_))));have hWp:=hW.kp;refine cl (z0a U (z0a U z0f)) (mkC func62) (j3z w4 (⟨g31,w16⟩:WA) s2 t.vw (z6l ((z7w qf.fa).filter λi=>!z4n qf.tb i)) _ (i:Int) _ hW.mark (by rw[hf1];exact hrq.v.inv.B) (by rw[hf2];exact hrq.v.inv.rk) (by rw[hf5,he5];exact h6) (by rw[hf5,he5,htb,hf1];exact hhs2) hrp.vw (by have:=u6s (T:=z1r s1.fb.ts) (Us:=((z7w qf.fa).filter λi=>!z4n qf.tb i)) (op:=(i:Int)) (o:=l.getD i op0) (t:=⟨s1.md,t.vw,fd⟩) hrp.v.inv.B;have e9:(⟨s1.md,t.vw,fd⟩:Wt).fd=fd:=rfl;rw[e9]at this;omega)) U ?_;rintro _ w17 ⟨rfl,s3,fd3,hW1,hp3,hg1,hg2,hg3,hg4,hg5⟩;have hKp:=hW1.kp;simp only at hKp;have z17:=hKp.size;replace hW:=hW1.unmark hWp;clear hWp hW1;have hW0:=hW;rw[hf5,he5,htb,hf1,hf2]at hp3;rw[he5,htb]at hf4;have hpe:fd3.Perm (j5j qf.tb (i:Int) qn (doH qf.tb ((z7w qf.fa).filter λi=>!z4n qf.tb i) (i:Int) (l.getD i op0) p t)).fd:=by
  refine hp3.trans ?_;show List.Perm _ ((doH qf.tb ((z7w qf.fa).filter λi=>!z4n qf.tb i) (i:Int) (l.getD i op0) p t).fd++(v3g qf.tb (doH qf.tb ((z7w qf.fa).filter λi=>!z4n qf.tb i) (i:Int) (l.getD i op0) p t).vw _ _++v3f (doH qf.tb ((z7w qf.fa).filter λi=>!z4n qf.tb i) (i:Int) (l.getD i op0) p t).vw _ _));rw[j7z];exact(u0z (t:=⟨s1.md,t.vw,fd⟩) he4 hpf).append_right _
 exact nl (bn' (tn (rg (z1b U (wi6 oo) (mv U U (nl (lpE ((i+1)) (.c7 U U U U U U U) ⟨oo,qn,_,s3,fd3,hrq,by have x:=hW;rw[hf1,hf2]at x;rw[hst];exact x,by rw[hst];exact hpe,by rw[hg1];exact hf1,hg2.trans hf2,hg3.trans hf3,by rw[hst];exact hg4.trans (hf4.trans (j7l _ _ _ _ _ he4)),hg5.trans (hf5.trans he5)⟩ oo)))))));obtain rfl:i=l.length:=by omega
 replace hb5:=hb50.ext hW.fr;refine ex (te (te (xh (tn (sq (sr (fad U y0k (x3h U x7q U (z0i U hb5 U z8o (lnS U underlying27 (mv U U (kpL [(0,_),(6,_),(8,_),(76,_),(77,_),(78,_)] (.c6 U U U U U U) (nn (bl (lpK (ι:=Nat) [(0,_),(6,_),(8,_),(76,_),(77,_)] (λj=>[(78,.int .i64 (j:Int))]) (λj w'=>j<=s.fb.hs.length/\∃u:SV,WkM τw w4 ⟨g31,w8⟩ w' { s1 with fd:=u } t.vw (z6l ((z7w qf.fa).filter λi=>!z4n qf.tb i)) (fd++((s.fb.hs.take j).map λx=>(⟨(l.length:Int),5,x⟩:Hz)))) (λj=>s.fb.hs.length-j) 0 (.c6 U U U U U U) ⟨Nat.zero_le _,⟨s1.fd,by simpa using hW⟩⟩ ?_)))))))))))))));rintro j w18 ⟨hj,⟨u,hW⟩⟩;have hW0:=hW;refine kpC [(0,_),(6,_),(8,_),(76,_),(77,_),(78,_)] (.c6 U U U U U U) ?_;have hk:=hW.k;refine sr (lt' U (nn (sq (cd U (λc4=>?_) (λc4=>?_)))));have hlt:j<s.fb.hs.length:=by omega
 refine sk (tn (sq (bl (sr (z1d (id0) U (hO0.at.f.h.ext hW.fr) U z4x z1g (λad80 hc80=>?_))))));refine z1l U (hc80 _ (hO0.at.f.h.ext hW.fr)) z2y (al y0n U (λg14 w19 hg14 hb14 q19 z19=>?_));refine z0k (vs:=[_,_]) U hb14 y0c (λw20 hb14 q20 z20=>?_) (h1:=(by first|(simp[Value.oneCell',S];done)|exact z1f.one _|exact z9z.one _));refine nn (rg (mv U U (mv U U (lnS U underlying25 (z0n U hb14 z2y ?_)))));replace hW:=hW0.ext (q19.z1 q20);have hWp:=hW.kp;refine cl (z0a U (z0a U (z0a U (z0a U z0f)))) j6h (y6d w4 (⟨g31,w20⟩:WA) { s1 with fd:=u } t.vw (z6l ((z7w qf.fa).filter λi=>!z4n qf.tb i)) _ (l.length:Int) 5 (s.fb.hs.getD j id0) _ hW.mark (by simp only[List.length_append,List.length_map,List.length_take];omega)) U ?_;rintro _ w21 ⟨rfl,u2,hW1⟩;have hKp:=hW1.kp;simp only at hKp;have z21:=hKp.size;replace hW:=hW1.unmark hWp;clear hWp hW1;have hW0:=hW;exact kpL [(0,_),(6,_),(8,_),(76,_),(77,_),(78,_)] (.c6 U U U U U U) (nl (bn' (tn (rg (z1b U (wi6 oo) (mv U U (nl (lpE (j+1) (.c6 U U U U U U) ⟨oo,⟨u2,by rw[z1s id0 hlt,List.map_append,<-List.append_assoc];exact hW⟩⟩ oo))))))));obtain rfl:j=s.fb.hs.length:=by omega
 refine ex (te (te (xh (tn (sr (mv U U (nlc U (fad U y5n (z0i U hk U k0v (cl (z0a U (z0a U z0f)) (mkC func64) (j9t hW.f (by simp only[List.length_append,List.length_map,List.length_take];omega)) U ?_))))))))));rintro _ w22 ⟨rfl,hfo,hqs⟩;have z22:=hqs.size;replace hW:=hW.srt τwk hfo hqs;have hW0:=hW;obtain⟨FDS,hFD⟩:∃x,x=y7d (fd++((s.fb.hs.take s.fb.hs.length).map λx=>(⟨(l.length:Int),5,x⟩:Hz))):=⟨_,rfl⟩;rw[<-hFD]at hW hW0;obtain⟨uA,un,uc⟩:=u;obtain rfl:un=FDS.length:=z1z hW.f.sl;have hk:=hW.k;have hfn2:FDS.length=(fd++((s.fb.hs.take s.fb.hs.length).map λx=>(⟨(l.length:Int),5,x⟩:Hz))).length:=by rw[hFD];exact(z9n _).length_eq
 rw[List.length_append,List.length_map,List.length_take]at hfn2;refine kpL [(6,_),(8,_)] (.c2 U U) (nn (sr (mv U U (nlc U (fad U y5n (z0i U hk U k0v (lnS U underlying68 (z1e (m:=FDS.length) (c:=FDS.length) (hz0) U k0k zv75 U (λg98 w23 hg98 ho q23 z23=>(asg U (kpL [(6,_),(8,_),(15,_)] (.c3 U U U) (nn (sr (mv U U (mv U U (nlc U (fad U y5n ?_)))))))))))))))));replace hk:=hk.ext q23;refine z0i U hk U k0v ?_;replace hW:=hW0.ext q23;refine z6n (zs:=List.replicate FDS.length hz0) (by rw[List.length_replicate];rfl) U (by rw[List.length_replicate];exact ho) hW.f.sl (by rw[List.length_replicate]) k0k (λw24 ho q24 z24=>?_);rw[List.length_replicate]at ho;refine kpL [(6,_),(15,_)] (.c2 U U) (nn (sr (mv U U (mv U U (asg U (asg U (asg U (nn (rt (r3 results20 U U U ?_))))))))));obtain⟨hpq,htq⟩:=hrp.done hqf U;have hzz:y7d (y7b l qf)=FDS:=by
  rw[hFD];refine y7w ?_;unfold y7b j4o;rw[List.take_length,hhs,List.map_map,<-u6x (j4z qf),<-htq];exact(hpf.symm).append_right _
 have hFZ:=(hF0.next hW0.fr).next (q23.z1 q24);have hz7:=hF0.size;have hz8:=hW0.fr.size;exact⟨_,rfl,⟨_,by rw[show u1h l=0 from Classical.not_not.1 c0];rfl,λe=>absurd (Classical.not_not.1 c0) e,λq hq=>by
  rw[hqf]at hq;cases hq;exact⟨g98,FDS.length,rfl,by rw[hzz];exact ho.low oo⟩⟩,hFZ⟩
end Go.Proofs.YtjilcnmaefhmeaaGreatDoor
namespace Go.G09
open Go Go.Lw Go.G21 Go.G08
def wordsZ:List (List UInt8):=[[],[102,108,111,97,116],[115,116,114,101,116,99,104],[104,111,111,107],[117,110,100,111,110,101],[114,101,115,116]]
theorem v2w {k:Int}(h:1<=k/\k<=5):(wordsZ.map S)[k.toNat*1]?=some (S (v6l k)):=by
 have:k=1\/k=2\/k=3\/k=4\/k=5:=by omega
 rcases this with rfl|rfl|rfl|rfl|rfl<;>rfl
theorem x3f (k:Int):(v6l k).length<=7:=by
 unfold v6l;(repeat' split)<;>decide
theorem z7e {n:Int}(h:-9223372036854775808<=n/\n<=9223372036854775807):(Lib.itoa n).length<=21:=Lib.itoa_length_le n h.1 h.2
theorem z7k {n:Int}(h:0<=n/\n<10):Lib.itoa n=[UInt8.ofNat (48+n.toNat)]:=by
 unfold Lib.itoa;rw[if_neg oo,Lib.decDigits,dif_pos oo]
theorem u8i {n:Int}(h:10<=n):Lib.itoa n=Lib.itoa (n / 10)++[UInt8.ofNat (48+(n % 10).toNat)]:=by
 unfold Lib.itoa;rw[if_neg oo,if_neg oo,Lib.decDigits,dif_neg oo,show (n / 10).toNat=n.toNat / 10 by omega,show (n % 10).toNat=n.toNat % 10 by omega]
theorem v3v (h:Hz)(ho:h.o<=9223372036854775807):(hzT h).length<=80:=by
 unfold hzT;split;rename_i I;obtain⟨J,M,D⟩:=I;unfold z5d at D;have a:=z7e (n:=h.o) oo;have b:=z7e (n:=h.id.y) oo;have c:=z7e (n:=h.id.n) oo;have d:=x3f h.k;simp only[List.length_append,List.length_cons];omega;simp
theorem v3l {l:List Hz}{i:Nat}(D:i<l.length):y1s (l.take (i+1))=y1s (l.take i)++(hzT (l.getD i hz0)++[59]):=by
 unfold y1s;rw[z1s hz0 D,List.flatMap_append];simp
theorem u3y {l:List Hz}(ho:∀h∈l,h.o<=9223372036854775807):(y1s l).length<=81*l.length:=by
 induction l with
 | nil=>simp[y1s]
 | cons h l ih=>
  have J:=v3v h (ho h (List.mem_cons_self ..));have D:=ih λx I=>ho x (List.mem_cons_of_mem _ I);unfold y1s at D ⊢;rw[List.flatMap_cons,List.length_append,List.length_append,List.length_cons];simp only[List.length_cons,List.length_nil];omega
theorem j2h {l:List MOp}{q:MSt}:∀h∈y7d (y7b l q),0<=h.o/\h.o<=l.length:=λh J=>by
 have D:=(z9n _).mem_iff.1 J
 unfold y7b at D
 rcases List.mem_append.1 D with D|D
 ·obtain⟨x,e,M⟩:=x8g (T:=q.tb) (Us:=j0w q) (l:=l) (i:=0) (p:=G08.start) (s:=wt0)
  rw[e]at D
  rcases List.mem_append.1 D with I|I
  ·cases I
  have:=M h I;omega
 unfold j4o at D
 obtain⟨x,_,rfl⟩:=List.mem_map.1 D
 simp only;omega
theorem u9a {l:List MOp}{q:MSt}(D:z3n 0 G08.start l=.ok q):(y7d (y7b l q)).length<=700*l.length+320:=by
 rw[(z9n _).length_eq];have I:∀i,i<=l.length->∃p t,RepI l q (j0w q) i p t:=λi=>by
  induction i with
  | zero=>exact λ_=>⟨_,_,RepI.zero l q _⟩
  | succ i ih=>
   intro hi;obtain⟨p,t,h⟩:=ih oo;obtain⟨p',_,M,_⟩:=h.step D oo;exact⟨_,_,M⟩
 obtain⟨p,t,h⟩:=I l.length (Nat.le_refl _);obtain⟨_,Z⟩:=h.done D U;have J:=h.len;rw[Z]at J;have O:=x5l (x0n z8t D).inv.B q.rk;unfold y7b j4o;rw[List.length_append,List.length_map];exact Nat.add_le_add J O
end Go.G09
namespace Go.Proofs.YtjilcnmaefhmeaaGreatDoor
open Go.Lw Go.G21 Go.G08 Go.G09 _root_.Go.Proofs.Tryz
theorem j9n:CallOf prog 20:=mkC func20
theorem u7t:z0y prog 75 0 0:=λ_ _=>kr
theorem v9a:z0y prog 75 1 1:=λ_ _=>kr
theorem v8a:z0y prog 75 2 2:=λ_ _=>kr
theorem k3l:z2c prog 71:=λ_=>kr
structure HzG (w:World):Prop where
  c:Cells w ⟨0,0,none⟩ (wordsZ.map S)
theorem HzG.ext {w w':World}(h:HzG w)(hf:Fr [] w w'):HzG w':=⟨h.c.fr hf sp0⟩
theorem x5f (n:Int)(w0:World)(hG:Glob w0)(h:-9223372036854775808<=n/\n<=9223372036854775807):Rets prog 71 #[.int .i64 n] w0 λv w'=>v=S (Lib.itoa n)/\Fr [] w0 w':=by
 refine Calls.mono (strconv_Itoa n oo oo w0 hG.tab) ?_;rintro e w' ⟨rfl,k,D,rfl⟩;exact⟨_,rfl,rfl,v5y _ _ _⟩
theorem u5u (z:Hz)(w0:World)(hG:Glob w0)(hZ:HzG w0)(ho:z.o<=9223372036854775807):Rets prog 24 #[.agg #[.int .i64 z.o,.int .u8 z.k,.int .u8 z.id.y,.int .i64 z.id.n]] w0 λr w'=>r=S (hzT z)/\Fr [] w0 w':=by
 have a7:=hG.sz;refine we [(0,.agg #[.int .i64 z.o,.int .u8 z.k,.int .u8 z.id.y,.int .i64 z.id.n])] func24 U ntmps24 U (.cons U .nil) ?_;have a1:=hG;have a2:=hZ;refine sr (bx U (λg1 w1 a8 I q1 z1=>(asg U (nn (sq (sq (x9y (r:=22) (L':=[(1,_)]) (((((z.o<0)\/(z.k<1))\/(5<z.k))\/(¬z5d z.id))) (.cons U .nil) ?_ ?_)))))));refine fad U u7t (z0i U I U na3 (lt' U (mv U U (gs 7 U (λg0=>?_) (λg0=>?_)))));exact gN U (gN U (gN U (pkt U (mv U U (gN U (gN U (gN U (pkt U (mv U U (gN U (gN U (gN U (gN U (pkt U (z9e U (.cons U .nil) (Fr.refl _ _))))))))))))))));refine gY U (fad U v9a (gY U (z0i U I U k3l (gY U (lt' U (pkf U (mv U U (gs 12 U (λg1=>?_) (λg1=>?_)))))))));exact gN U (gN U (gN U (pkt U (mv U U (gN U (gN U (gN U (gN U (pkt U (z9e U (.cons U .nil) (Fr.refl _ _)))))))))));refine gY U (fad U v9a (gY U (z0i U I U k3l (gY U (gt' U (pkf U (mv U U (gs 17 U (λg2=>?_) (λg2=>?_)))))))));exact gN U (gN U (gN U (gN U (pkt U (z9e U (.cons U .nil) (Fr.refl _ _))))));refine gY U (fad U v8a (gY U (z1w (vs:=[_,_]) U I z2y U (gY U (cl (ev1 U) (mkC func70) (y4f z.id _) U ?_)))));rintro _ w2 ⟨rfl,q2⟩;have z2:=q2.size;exact gY U (nt' U (pkf U (z9e U (.cons U .nil) q2)));intro w3 Z;have z3:=Z.size;refine tn (cd U (λc0=>?_) (λc0=>?_));exact sr (asg U (nn (rt (tr (r1 results24 U ⟨_,rfl,by rw[hzT,if_neg (λhh=>by obtain⟨ha,hb,hc⟩:=hh;unfold z5d at hc;unfold z5d at *;omega)];rfl,(q1.n1 Z)⟩)))));have a6:j7n z:=⟨oo,oo,by by_cases hh:z5d z.id;exact hh;exfalso;first|exact c0 (by simp[hh])|(simp_all)⟩;obtain⟨a3,a4,a0⟩:=a6;have a5:=a0;unfold z5d at a5;have a9:=z7e (n:=z.o) oo;have b0:=z7e (n:=z.id.y) oo;have b3:=z7e (n:=z.id.n) oo;have b4:=x3f z.k;refine sk (tn (sq ?_));replace hG:=a1.ext (q1.n1 Z);intro a h;refine z0h none (λwb w'=>Fr [] wb w') z2m ?_;intro w4 q4;have z4:=q4.size;replace hG:=hG.ext q4;replace I:=I.ext (Z.n1 q4);have hC:Fr [] w4 w4:=Fr.refl _ _;have J:=hG;have D:=I;refine z0c 0 h U v8a U λa h=>z5y 1 h U z5v U λa h=>z0j 2 h U (λ_ M=>D.ext M) U na5 U λa h=>y8z 3 hC h wn U (by rw[underlying5];rfl) underlying3 (by first|exact i6 oo|rfl) U U λa h=>z0c 6 h U v8a U λa h=>z5y 7 h U z6g U λa h=>z0j 8 h U (λ_ M=>D.ext M) U na3 U λa h=>z0d 4 U (z0o h (z0a U z0f) j4n (x5f z.id.y _ hG oo) ?_);rintro _ w5 ⟨rfl,q5⟩ a h;have z5:=q5.size;replace hG:=hG.ext q5;replace hC:=hC.next q5;refine z0b (z8j 5 h U λa h=>z0d 9 U (z0o h (z0a U z0f) j4n (x5f z.id.n _ hG oo) ?_));rintro _ w6 ⟨rfl,q6⟩ a h;have z6:=q6.size;replace hC:=hC.next q6;refine z0b (z8j 10 h U λa h=>z0d 11 U (z0r h U λa h=>?_));refine z0b (z0p ?_);clear hC J D;refine bk (h.sub (L':=[(1,_),(3,_)]) (.c2 U U)) (tn (sq ?_));replace hZ:=a2.ext (q1.n4 Z q4 q5 q6);intro a h;refine z0h none (λwb w'=>Fr [] wb w') z2m ?_;intro w7 q7;have z7:=q7.size;replace hG:=hG.ext (q6.n1 q7);replace hZ:=hZ.ext q7;replace I:=I.ext (q5.n2 q6 q7);have hC:Fr [] w7 w7:=Fr.refl _ _;have J:=hG;have O:=hZ;have D:=I;refine z0c 0 h U u7t U λa h=>z0j 1 h U (λ_ M=>D.ext M) U na3 U λa h=>z0c 4 h U v9a U λa h=>z0j 5 h U (λ_ M=>D.ext M) U k3l U λa h=>x7i 6 kr kr kr hC h wn U U underlying153 sz9 oo oo U U λa h=>y4p 7 hC h wn U (λ_ M=>(O.ext M).c) (v2w oo) na9 U U λa h=>z0e 10 h U λa h=>z0d 2 U (z0o h (z0a U z0f) j4n (x5f z.o _ hG oo) ?_);rintro _ w8 ⟨rfl,q8⟩ a h;have z8:=q8.size;replace hC:=hC.next q8;refine z0b (z8j 3 h U λa h=>z8j 8 h U λa h=>z8j 9 h U λa h=>z8j 11 h U λa h=>z0d 12 U (z0r h U λa h=>?_));refine z0b (z0p ?_);clear hC J O D;exact bk (h.sub (L':=[(2,_)]) (.cons U .nil)) (tn (rt (r1 results24 U ⟨_,rfl,by rw[hzT,if_pos ⟨a3,a4,a0⟩];simp only[List.append_assoc,List.cons_append,List.nil_append],(q1.n6 Z q4 q5 q6 q7 q8)⟩)))
end Go.Proofs.YtjilcnmaefhmeaaGreatDoor
namespace Go.Lw
theorem y2x {P:Program}{W:World}{n:String}{d:DataW Unit}:∀ {l:List (String×DataW Unit)} {ps:List MemPlace},DataW.LaidVars P W l ps->(n,d)∈l->
    ∃g t cs D p,P.globalNamed n=some g/\(P.globals[g]?).map (·.type)=some t/\W.var? P n=some cs/\DataW.trod (λ_=>()) P W 0 (λ_=>true) false D t cs.toList=some (d,p)
  | [],_,_,I=>by simp at I
  | (m,e)::r,ps,h,I=>by
    obtain⟨g,t,cs,D,p,q,J,M,O,Z,hr,_⟩:=h
    rcases List.mem_cons.1 I with e|I
    · cases e;exact⟨g,t,cs,D,p,J,M,O,Z⟩
    · exact y2x hr I
theorem x0m {H:Type}{enc:TypeId×Value->H}{P:Program}{w:World}{base:Nat}{sp:Nat->Bool}{J:Bool}{D:Nat}{t e:TypeId}{n:Nat}{cs:List Value}{zs:List (List UInt8)}{p:List MemPlace}
    (ht:P.underlying t=some (.array n e)) (he:P.underlying e=some .string) (hce:P.cellsOf e=1) (hct:P.cellsOf t=n)
    (h:DataW.trod enc P w base sp J D t cs=some (.agg (zs.map λz=>.lit (.string z)),p)):cs=zs.map S:=by
  cases D with
  | zero=>simp[DataW.trod]at h
  | succ D=>
    simp only[DataW.trod,ht,hce,hct,Nat.mul_one]at h
    split at h
    · rename_i hl
      obtain⟨O,hm,hx⟩:=Option.map_eq_some_iff.1 h
      have M:O.map (·.1)=zs.map λz=>(DataW.lit (.string z):DataW H):=by
        have:=congrArg Prod.fst hx
        simpa using this
      have a0:O.length=n:=by simpa using Lib.mapM_length hm
      have a1:zs.length=n:=by
        have:=congrArg List.length M
        simp at this
        omega
      apply List.ext_getElem?
      intro i
      by_cases hi:i<n
      · obtain⟨b,hb,hf⟩:=Lib.mapM_at hm i i (by simp[hi])
        obtain⟨s,hc,h2,_⟩:=DataW.trod_string he hf
        have h1:cs[i]?=some (.string s):=by
          have:=congrArg (·[0]?) hc
          simpa[List.getElem?_take,List.getElem?_drop] using this
        have Z:(O.map (·.1))[i]?=some b.1:=by simp[hb]
        rw[M,List.getElem?_map,Option.map_eq_some_iff]at Z
        obtain⟨z,hz,I⟩:=Z
        rw[h2]at I
        simp only[DataW.lit.injEq,Lit.string.injEq]at I
        rw[h1,List.getElem?_map,hz,I]
        simp[S]
      · rw[List.getElem?_eq_none oo,List.getElem?_eq_none so]
    · cases h
theorem u2n {H:Type}{enc:TypeId×Value->H}{P:Program}{w:World}{base:Nat}{sp:Nat->Bool}{I:Bool}{D:Nat}{t:TypeId}{ms}{cs:List Value}{nm:String}{d:DataW H}{p:List MemPlace}
    (ht:P.underlying t=some (.interface ms)) (h:DataW.trod enc P w base sp I D t cs=some (.iface nm d,p)):∃u v,cs=[.iface u v]:=by
  cases D with
  | zero=>simp[DataW.trod]at h
  | succ D=>
    simp only[DataW.trod,ht]at h
    split at h<;>simp_all
theorem j7r {P:Program}{W:World}{n:String}{g:Nat}{cs:Array Value}(I:P.globalNamed n=some g)(h:W.var? P n=some cs):g<W.heap.size:=by
 unfold World.var? at h;simp only[I,Option.bind_some]at h;rcases Nat.lt_or_ge g W.heap.size with D|D
 exact D;rw[Array.getElem?_eq_none D]at h;simp at h
end Go.Lw
namespace Go.Proofs.YtjilcnmaefhmeaaGreatDoor
open Go.ChangeShapes Go.WideShapes Go.ChangeAt Go.RowKit Go.Lw
theorem own:ownKnob Tryz.prog.godebug=none:=kr
theorem j1f:laidOutB Tryz.prog=true:=kr
def y0o:List (String×DataW Unit):=[("math/bits.deBruijn32tab",Rows.laid_math_bits_deBruijn32tab),("math/bits.deBruijn64tab",Rows.laid_math_bits_deBruijn64tab),("internal/strconv.uint64pow10",Rows.laid_internal_strconv_uint64pow10),("unicode/utf8.acceptRanges",Rows.laid_unicode_utf8_acceptRanges),("strconv.ErrRange",Rows.laid_strconv_ErrRange),("strconv.ErrSyntax",Rows.laid_strconv_ErrSyntax),("gansey/orders.steps",Rows.laid_gansey_orders_steps),("gansey/operations.words",Rows.laid_gansey_operations_words),("gansey/operations.dirs",Rows.laid_gansey_operations_dirs),("gansey/hazards.words",Rows.laid_gansey_hazards_words),("unicode/utf8.first",Rows.laid_unicode_utf8_first)]
theorem x5i {n:String}{zs:List (List UInt8)}{W:World}{l:List (String×DataW Unit)}{ps:List MemPlace}{g t m:Nat}(hL:DataW.LaidVars Tryz.prog W l ps)(hm:(n,.agg (zs.map λz=>.lit (.string z)))∈l)(ht:Tryz.prog.underlying t=some (.array m 9))(M:Tryz.prog.globalNamed n=some g:=by kernel_rfl)(I:(Tryz.prog.globals[g]?).map (·.type)=some t:=by kernel_rfl)(D:Tryz.prog.cellsOf t=m:=by kernel_rfl):Cells W ⟨g,0,none⟩ (zs.map S):=by
 obtain⟨g',t',cs,J,p,O,Z,e3,e4⟩:=y2x hL hm;cases M.symm.trans O;cases I.symm.trans Z;have hc:=x0m ht Tryz.underlying9 kr D e4;intro j u hu;rw[z4q,Nat.zero_add,World.var?_cell M e3 j,<-Array.getElem?_toList,hc];exact hu
theorem u7k {n nm:String}{d:DataW Unit}{W:World}{l:List (String×DataW Unit)}{ps:List MemPlace}{g:Nat}(hL:DataW.LaidVars Tryz.prog W l ps)(hm:(n,.iface nm d)∈l)(J:Tryz.prog.globalNamed n=some g)(D:(Tryz.prog.globals[g]?).map (·.type)=some 164):∃te pe,W.cell? ⟨g,0,none⟩=some (.iface te pe):=by
 obtain⟨g',t',cs,I,p,M,O,Z,e4⟩:=y2x hL hm;cases J.symm.trans M;cases D.symm.trans O;obtain⟨u,v,hc⟩:=u2n Tryz.underlying164 e4;exact⟨u,v,by rw[World.var?_cell J Z 0,<-Array.getElem?_toList,hc];rfl⟩
theorem j1l {W:World}(h:laidMetH Tryz.prog y0o W)(M:W.ShapedOpen Tryz.prog):Glob W:=by
 have h':laidMet Tryz.prog y0o W:=h;obtain⟨ps,D,_,_⟩:=h';refine⟨?_,?_,(Go.Proofs.cell_of_shapedOpen_int (zero:=#[.int .i64 0]) (t:=3) M (of_decide_eq_true kr) kr U kr kr Tryz.underlying3),?_,?_,?_,?_⟩;exact x5i (zs:=z8n) (n:= "gansey/operations.words") (t:=334) (m:=9) D (by simp[y0o];rfl) Tryz.underlying334;exact x5i (zs:=x1x) (n:= "gansey/operations.dirs") (t:=338) (m:=2) D (by simp[y0o];rfl) Tryz.underlying338;obtain⟨g',t',cs,I,p,O,Z,J,e4⟩:=y2x (n:= "internal/strconv.uint64pow10") (d:=Rows.laid_internal_strconv_uint64pow10) D (by simp[y0o]);cases gPow.symm.trans O;cases (show (Tryz.prog.globals[4]?).map (·.type)=some 360 by kernel_rfl).symm.trans Z;unfold Lib.TabIs;rw[J];have:=Lib.cells_of_tab (zs:=Lib.pow10Tab) Tryz.underlying360 Tryz.underlying270 kr kr e4;rw[<-this];exact u7k (n:= "strconv.ErrSyntax") D (by unfold y0o;simp only[Rows.laid_strconv_ErrSyntax];simp;exact⟨rfl,rfl⟩) kr kr;exact u7k (n:= "strconv.ErrRange") D (by unfold y0o;simp only[Rows.laid_strconv_ErrRange];simp;exact⟨rfl,rfl⟩) kr kr;obtain⟨g',t',cs,I,p,O,Z,J,e4⟩:=y2x (n:= "strconv.ErrRange") (d:=Rows.laid_strconv_ErrRange) D (by simp[y0o]);have:=j7r (show Tryz.prog.globalNamed "strconv.ErrRange" =some 11 by kernel_rfl) J;omega
theorem k0a {W:World}(h:laidMetH Tryz.prog y0o W):HzG W:=by
 have D:laidMet Tryz.prog y0o W:=h;obtain⟨ps,I,_,_⟩:=D;exact⟨x5i (zs:=Go.G09.wordsZ) (n:= "gansey/hazards.words") (t:=153) (m:=6) I (by simp[y0o];rfl) Tryz.underlying153⟩
theorem j5w {W:World}(h:laidMetH Tryz.prog y0o W):StT W:=by
 have h':laidMet Tryz.prog y0o W:=h;obtain⟨ps,hL,_,_⟩:=h';obtain⟨g',t',cs,D,p,J,M,O,Z⟩:=y2x (n:= "gansey/orders.steps") (d:=Rows.laid_gansey_orders_steps) hL (by simp[y0o]);have I:Tryz.prog.globalNamed "gansey/orders.steps" =some 3:=by kernel_rfl
 cases I.symm.trans J;cases (show (Tryz.prog.globals[3]?).map (·.type)=some 342 by kernel_rfl).symm.trans M;have hc:=Lib.cells_of_tab (zs:=[-1,1]) Tryz.underlying342 Tryz.underlying3 kr kr Z;constructor;intro j u hu;rw[z4q,Nat.zero_add,World.var?_cell I O j,<-Array.getElem?_toList,hc];exact hu
def j7e:List (String×DataW Unit):=y0o.filter λp=>match p.2 with|.iface _ _=>false|_=>true
noncomputable def witP (os:Os):World:=k2i Tryz.prog os j7e
theorem k0f {n:Int}(h:(Lit.int .u8 n).wf=true):0<=n/\n<=255:=by
 have D:IntKind.u8.min<=n/\n<=IntKind.u8.max:=by simpa[Lit.wf] using h
 exact D
noncomputable def u5z (w:World)(g:Nat)(s:List UInt8):World:=layW (w.alloc (.cells #[.string ⟨s.toArray⟩] 392)) g #[.iface 390 (.pointer (some ⟨w.heap.size,0,none⟩))]
noncomputable def k2l (os:Os):World:=u5z (u5z (witP os) 11 [118,97,108,117,101,32,111,117,116,32,111,102,32,114,97,110,103,101]) 10 [105,110,118,97,108,105,100,32,115,121,110,116,97,120]
end Go.Proofs.YtjilcnmaefhmeaaGreatDoor
namespace Go.Lw
open Go.RowKit
section
variable {P:Program} {t e:TypeId}
end
end Go.Lw
namespace Go.Lw
open Go.RowKit
def Enc.two (k:IntKind):Enc (Int×Int):=⟨λp=>[.int k p.1,.int k p.2],2,λ_=>rfl,λ_ u h=>by simp at h;rcases h with rfl|rfl<;>rfl,dd⟩
section
variable {P:Program} {t e:TypeId}
end
end Go.Lw
namespace Go.Proofs.YtjilcnmaefhmeaaGreatDoor
open Go.Lw
open Go.Lw Go.G21 Go.G08 Go.G09 _root_.Go.Proofs.Tryz
theorem ag75:z3q prog 75 4:=⟨λ_=>kr,λ_=>kr⟩
theorem j5e:CallOf prog 23:=mkC func23
theorem x1b (v:Value)(l:List Hz)(w0:World)(M:Sl y3f w0 v l)(hG:Glob w0)(hZ:HzG w0)(ho:∀h∈l,h.o<=9223372036854775807)(hl:l.length<=10000000):Rets prog 21 #[v] w0 λr w'=>r=S (y1s l)/\Fr [] w0 w':=by
 obtain⟨A,c,rfl,a5,Z,hA⟩:=id M;clear hA;unfold maxLen at Z;have a4:=hG.sz;refine we [(0,.slice A l.length c)] func21 U ntmps21 U (.cons U .nil) ?_;have a1:=M;have O:=hG;have a0:=hZ;refine sr (asg U (nn (sr (asg U (nn (sq (sr (asg U (nn (bl (lpK (ι:=Nat) [(0,_)] (λi=>[(3,S (y1s (l.take i))),(4,.int .i64 (i:Int))]) (λi w'=>Fr [] w0 w'/\i<=l.length) (λi=>l.length-i) 0 (.c3 U U U) ⟨Fr.refl _ _,Nat.zero_le _⟩ ?_)))))))))));rintro i w1 ⟨D,a6⟩;have z1:=D.size;refine kpC [(0,_),(3,_),(4,_)] (.c3 U U U) ?_;have a2:=u3y (l:=l.take i) (λh hh=>ho h (List.mem_of_mem_take hh));rw[List.length_take]at a2;refine sq (sr (mv U U (mv U U (lnS U underlying68 (lt' U (nn (cd U (λc0=>?_) (λc0=>?_))))))));have J:i<l.length:=by omega
 have a7:=v3v (l.getD i hz0) (ho _ (z0z (d:=hz0) J));refine sk (tn (sq (bl (rg (mv U U (mv U U (mv U U ?_)))))));replace M:=a1.ext D;refine z1d (hz0) U M U k0k z1g (λa3 I=>?_);refine z1l U (I _ M) ag75 ?_;replace hG:=O.ext D;replace hZ:=a0.ext D;refine cl (ev1 U) (mkC func24) (u5u (l.getD i hz0) _ hG hZ (ho _ (z0z oo))) U ?_;rintro _ w2 ⟨rfl,q2⟩;have z2:=q2.size;refine y0g U U (by simp only[List.length_append,List.length_cons,List.length_nil];omega) (y0g U U (by simp only[List.length_append,List.length_cons,List.length_nil];omega) (asg U (kpL [(0,_),(3,_),(4,_)] (.c3 U U U) (nl (bn' (tn (rg (mv U U (z1b U (wi6 oo) (asg U (nl ?_)))))))))));exact lpE ((i+1)) (.c3 U (congrArg (λz=>some (S z)) (by rw[v3l oo])) U) ⟨(D.n1 q2),oo⟩ oo;obtain rfl:i=l.length:=by omega
 exact ex (te (te (xh (tn (sr (mv U U (asg U (nn (rt (r1 results21 U ⟨_,rfl,by rw[List.take_length],D⟩))))))))))
theorem x6m (m:Nat):∀(n:Int) (w0:World),0<=n/\n<=9223372036854775807->n.toNat<m->Rets prog 23 #[.int .i64 n] w0 λv w'=>v=S (Lib.itoa n)/\Fr [] w0 w':=by
 induction m;intro n w0 _ h;omega;rename_i m Z;intro n w0 hn hm;refine we [(0,.int .i64 n)] func23 U ntmps23 U (.cons U .nil) (sr (asg U (nn (sq (sr (mv U U (lt' U (nn (cd U (λc0=>?_) (λc0=>?_))))))))));refine sr (mv U U (z4y U (us underlying3) underlying5 (wi8 oo) (z1b U (wi8 oo) (z2t ([UInt8.ofNat (48+n.toNat)]) (ev1 U) (pi3 U (y5h oo) U) u1l (λg8 w1 a0 O q1 z1=>(k2p U O.sl u1l underlying5 underlying9 U (asg U (kpL [(2,_)] (.cons U .nil) (nn (rt (tr (r1 results23 U ?_))))))))))));exact⟨_,rfl,by rw[z7k oo],q1⟩;have hl:=z7e (n:=n / 10) oo;refine sk (tn ?_);refine jn (ι:=Unit) [] (λ_j=>[(2,S (Lib.itoa (n / 10)++[UInt8.ofNat (48+(n % 10).toNat)]))]) (λ_j w'=>Fr [] w0 w') .nil ?_ ?_;intro a h;have D:=Fr.refl [] w0;refine z3v (λwb w'=>Fr [] wb w') z2m ?_;intro w2 I;have z2:=I.size;replace D:=D.next I;have a1:=I.size;clear I;have hC:Fr [] w2 w2:=Fr.refl _ _;refine z0e 0 h U λa h=>j9m 1 kr kr kr hC h wn U U oo (by first|exact IntWalk.i64_quo _ _ oo|rfl) U U λa h=>z0e 3 h U λa h=>j9x 4 hC h wn U U (by first|exact IntWalk.rem_in _ _ oo|rfl) U U λa h=>y8z 5 hC h wn U (by rw[underlying3];rfl) underlying5 (by first|exact IntWalk.u8_in _ oo|rfl) U U λa h=>z4m 6 h U (by first|exact IntWalk.u8_in _ oo|rfl) U λa h=>z1x 2 7 kr U ?_ ?_;refine z0o h (z0a U z0f) j5e (Z _ _ oo oo) ?_;rintro _ w3 ⟨rfl,I⟩ a h;have z3:=I.size;replace D:=D.next I;replace hC:=hC.next I;clear I;refine z0b ?_;refine z0d 7 U ?_;refine z2s ([UInt8.ofNat (48+(n % 10).toNat)]) h (z0a U z0f) (pi3 U (y5h oo) U) u1l λM w4 hg J I hz a h=>?_;have z4:=I.size;replace D:=D.next I;replace hC:=hC.next I;clear I;refine z0b ?_;refine z0d 8 U ?_;refine x7o h U J.sl u1l underlying5 underlying9 U λa h=>?_;refine z0b ?_;refine z8j 9 h U ?_ (hb:=(by first|(simp only[List.length_append,List.length_cons,List.length_nil];omega)|omega|(simp;done)|(simp;omega)));clear h a;intro a h;refine z0d 10 U ?_;refine z0r h U λa h=>?_;refine z0b ?_;refine z0p ?_;clear hC;have z4:=D.size;refine bk (h.sub (L':=[(2,_)]) (.cons U .nil)) ?_;exact jE (()) (.cons U .nil) D;refine z2s ([UInt8.ofNat (48+(n % 10).toNat)]) h (z0a U z0f) (pi3 U (y5h oo) U) u1l λM w5 hg J I hz a h=>?_;have z5:=I.size;replace D:=D.next I;replace hC:=hC.next I;clear I;refine z0b ?_;refine z1x 2 8 kr U ?_ ?_;refine z0o h (z0a U z0f) j5e (Z _ _ oo oo) ?_;rintro _ w6 ⟨rfl,I⟩ a h;have z6:=I.size;replace D:=D.next I;replace hC:=hC.next I;replace J:=J.ext I;clear I;refine z0b ?_;refine z0d 8 U ?_;refine x7o h U J.sl u1l underlying5 underlying9 U λa h=>?_;refine z0b ?_;refine z8j 9 h U ?_ (hb:=(by first|(simp only[List.length_append,List.length_cons,List.length_nil];omega)|omega|(simp;done)|(simp;omega)));clear h a;intro a h;refine z0d 10 U ?_;refine z0r h U λa h=>?_;refine z0b ?_;refine z0p ?_;clear hC;have z6:=D.size;refine bk (h.sub (L':=[(2,_)]) (.cons U .nil)) ?_;exact jE (()) (.cons U .nil) D;refine x7o h U J.sl u1l underlying5 underlying9 U λa h=>?_;refine z0b ?_;refine z0d 2 U ?_;refine z0o h (z0a U z0f) j5e (Z _ _ oo oo) ?_;rintro _ w7 ⟨rfl,I⟩ a h;have z7:=I.size;replace D:=D.next I;replace hC:=hC.next I;replace J:=J.ext I;clear I;refine z0b ?_;refine z8j 9 h U ?_ (hb:=(by first|(simp only[List.length_append,List.length_cons,List.length_nil];omega)|omega|(simp;done)|(simp;omega)));clear h a;intro a h;refine z0d 10 U ?_;refine z0r h U λa h=>?_;refine z0b ?_;refine z0p ?_;clear hC;have z7:=D.size;refine bk (h.sub (L':=[(2,_)]) (.cons U .nil)) ?_;exact jE (()) (.cons U .nil) D;rintro _j w8 q8;have z8:=q8.size;refine kpC [(2,_)] (.cons U .nil) (rt (r1 results23 U ?_));exact⟨_,rfl,by rw[u8i (n:=n) oo],q8⟩
theorem x8t (x y:Int)(w0:World)(I:-1000000<=x/\x<=1000000)(J:-1000000<=y/\y<=1000000):Rets prog 22 #[.int .i64 x,.int .i64 y] w0 λr w'=>r=.int .i64 (apt x y)/\Fr [] w0 w':=by
 refine we [(0,.int .i64 x),(1,.int .i64 y)] func22 U ntmps22 U (.c2 U U) (sr (asg U (nn (sq (sr (mv U U (mv U U (lt' U (nn (cd U (λD=>?_) (λD=>?_)))))))))));exact sr (mv U U (mv U U (z2p U (wi6 oo) (asg U (kpL [(4,_)] (.cons U .nil) (nn (rt (tr (r1 results22 U ⟨_,rfl,by unfold apt;congr 1;omega,(Fr.refl _ _)⟩)))))))));exact sk (tn (sr (mv U U (mv U U (z2p U (wi6 oo) (asg U (kpL [(4,_)] (.cons U .nil) (nn (rt (r1 results22 U ⟨_,rfl,by unfold apt;congr 1;omega,(Fr.refl _ _)⟩))))))))))
theorem y4g (l:List UInt8)(D:List MOp)(n e:Int)(w0:World)(hG:Glob w0)(h:x7f l=(D,n,e))(hl:l.length<=1000000):Rets prog 59 #[S l] w0 λr w'=>(∃A,r=.slice A D.length D.length/\Lw.Own z9z 47 w0.heap.size w' r D)/\Fr [] w0 w':=by
 have Z:=hG.sz;refine we [(0,S l)] func59 U ntmps59 U (.cons U .nil) ?_;have O:=hG;refine sr (asg U (nn (sr (mv U U (cl (ev1 U) (mkC func75) (v2a l _ hG hl) U ?_)))));rintro _ w1 ⟨A,a0,n',e',J,rfl,I,M⟩;have z1:=M.size;cases J.symm.trans h;exact mv U U (xt U (xt U (xt U (asg U (asg U (asg U (kpL [(3,_)] (.cons U .nil) (nn (sr (mv U U (asg U (nn (rt (r1 results59 U ⟨_,rfl,⟨A,rfl,I.low oo⟩,M⟩))))))))))))))
theorem x3u {v:Value}{l:List MOp}{w0:World}{q:MSt}{zs:List Hz}{n:Nat}(hv:Sl z9z w0 v l)(D:StT w0)(I:l.length<=4096)(M:z3n 0 G08.start l=.ok q)(hz:y7d (y7b l q)=zs)(hn:l.length=n):Rets prog 20 #[v] w0 λr w'=>(∃g,r=.tuple #[.slice (some ⟨g,0,none⟩) zs.length zs.length,.int .i64 (n:Int),.int .i64 0]/\Lw.Own y3f 75 w0.heap.size w' (.slice (some ⟨g,0,none⟩) zs.length zs.length) zs)/\Fr [] w0 w':=
 Rets.mono (u8l v l w0 hv D I) (by
  rintro r w' ⟨⟨x,rfl,h1,Z⟩,hf⟩
  obtain⟨g,m,rfl,J⟩:=Z _ M
  rw[hz]at J
  obtain rfl:m=zs.length:=by
   obtain⟨_,_,O,_⟩:=J.sl.form
   injection O with e1 e2 e3
  rw[(x8z M).1,(x8z M).2,hn]
  exact⟨⟨g,rfl,J⟩,hf⟩)
set_option maxRecDepth 10000 in
theorem x2q (w0:World)(hG:Glob w0)(D:StT w0)(hZ:HzG w0):Rets prog 19 #[] w0 λr w'=>r=.bool true/\Fr [] w0 w':=by
 have c0:=hG.sz;refine we [] func19 U ntmps19 U .nil ?_;have M:=hG;have J:=D;have a0:=hZ;refine sr (asg U (nn (sr (cl (ev1 U) (mkC func59) (y4g _ j5d 0 0 _ hG hprA dd) U ?_))));rintro _ w1 ⟨⟨b0,rfl,a4⟩,q1⟩;have z1:=q1.size;replace D:=J.ext q1;refine cl (ev1 U) j9n (x3u a4.sl D dd hrnA hhaA (n:=4) U) U ?_;rintro _ w2 ⟨⟨b6,rfl,a1⟩,q2⟩;have z2:=q2.size;refine mv U U (xt U (xt U (xt U (asg U (asg U (asg U (kpL [(1,_),(2,_),(3,_)] (.c3 U U U) (nn (sr ?_)))))))));replace hG:=M.ext (q1.n1 q2);refine cl (ev1 U) (mkC func59) (y4g _ j5m 0 0 _ hG hprB dd) U ?_;rintro _ w3 ⟨⟨b3,rfl,a5⟩,q3⟩;have z3:=q3.size;replace D:=J.ext (q1.n2 q2 q3);refine cl (ev1 U) j9n (x3u a5.sl D dd hrnB hhaB (n:=4) U) U ?_;rintro _ w4 ⟨⟨b7,rfl,a2⟩,q4⟩;have z4:=q4.size;refine mv U U (xt U (xt U (xt U (asg U (asg U (asg U (kpL [(1,_),(2,_),(3,_),(4,_),(6,_)] (.c5 U U U U U) (nn (sr ?_)))))))));replace hG:=M.ext (q1.n3 q2 q3 q4);refine cl (ev1 U) (mkC func59) (y4g _ j5i 0 0 _ hG hprC dd) U ?_;rintro _ w5 ⟨⟨b4,rfl,a6⟩,q5⟩;have z5:=q5.size;replace D:=J.ext (q1.n4 q2 q3 q4 q5);refine cl (ev1 U) j9n (x3u a6.sl D dd hrnC hhaC (n:=3) U) U ?_;rintro _ w6 ⟨⟨b8,rfl,a3⟩,q6⟩;have z6:=q6.size;refine mv U U (xt U (xt U (xt U (asg U (asg U (asg U (kpL [(1,_),(2,_),(3,_),(4,_),(6,_),(7,_),(9,_)] (.c7 U U U U U U U) (nn (sr ?_)))))))));replace hG:=M.ext (q1.n5 q2 q3 q4 q5 q6);refine cl (ev1 U) (mkC func59) (y4g _ j5b 0 0 _ hG hprD dd) U ?_;rintro _ w7 ⟨⟨b5,rfl,a7⟩,q7⟩;have z7:=q7.size;replace D:=J.ext (q1.n6 q2 q3 q4 q5 q6 q7);refine cl (ev1 U) j9n (x3u a7.sl D dd hrnD hhaD (n:=5) U) U ?_;rintro _ w8 ⟨⟨b9,rfl,c1⟩,q8⟩;have z8:=q8.size;refine mv U U (xt U (xt U (xt U (asg U (asg U (asg U (kpL [(1,_),(2,_),(3,_),(4,_),(6,_),(7,_),(9,_),(10,_),(12,_)] (.d8 U U U U U U U U (.cons U .nil)) (nn (sq (x9y (r:=0) (L':=[]) ((((((((((0=0)/\(0=0))/\(0=0))/\(0=0))/\(((4:Nat):Int)=4))/\((y1s j8y)=[50,32,102,108,111,97,116,32,49,46,49,59,50,32,115,116,114,101,116,99,104,32,49,46,49,59,52,32,114,101,115,116,32,49,46,48,59,52,32,114,101,115,116,32,49,46,49,59,52,32,114,101,115,116,32,49,46,50,59]))/\((y1s j7b)=[52,32,114,101,115,116,32,49,46,48,59,52,32,114,101,115,116,32,49,46,49,59,52,32,114,101,115,116,32,49,46,50,59]))/\((y1s j5z)=[50,32,117,110,100,111,110,101,32,49,46,48,59]))/\((k3a.length:Int)=0))) .nil ?_ ?_))))))))));refine mv U U (eq' U (mv U U (gs 39 U (λg0=>?_) (λI=>absurd (by rfl) I))));refine gY U (mv U U (gY U (eq' U (pkt U (mv U U (gs 43 U (λg1=>?_) (λI=>absurd (by rfl) I)))))));refine gY U (mv U U (gY U (eq' U (pkt U (mv U U (gs 47 U (λg2=>?_) (λI=>absurd (by rfl) I)))))));refine gY U (mv U U (gY U (eq' U (pkt U (mv U U (gs 51 U (λg3=>?_) (λI=>absurd (by rfl) I)))))));refine gY U (mv U U (gY U (eq' U (pkt U (mv U U (gs 55 U (λg4=>?_) (λI=>absurd (by rfl) I)))))));refine gY U (mv U U (gY U ?_));replace a1:=a1.ext (q3.n5 q4 q5 q6 q7 q8);replace hG:=M.ext ((q1.n6 q2 q3 q4 q5 q6 q7).n1 q8);replace hZ:=a0.ext ((q1.n6 q2 q3 q4 q5 q6 q7).n1 q8);refine cl (ev1 U) (mkC func21) (x1b _ j8y _ a1.sl hG hZ dd dd) U ?_;rintro _ w9 ⟨rfl,Z⟩;have z9:=Z.size;refine gY U (x4y U (pkt U (mv U U (gs 60 U (λg5=>?_) (λI=>absurd (by exact hhtA) I)))));refine gY U (mv U U (gY U ?_));replace a2:=a2.ext (q5.n4 q6 q7 q8 Z);replace hG:=M.ext (((q1.n6 q2 q3 q4 q5 q6 q7).n1 q8).n1 Z);replace hZ:=a0.ext (((q1.n6 q2 q3 q4 q5 q6 q7).n1 q8).n1 Z);refine cl (ev1 U) (mkC func21) (x1b _ j7b _ a2.sl hG hZ dd dd) U ?_;rintro _ c9 ⟨rfl,O⟩;have d3:=O.size;refine gY U (x4y U (pkt U (mv U U (gs 65 U (λg6=>?_) (λI=>absurd (by exact hhtB) I)))));refine gY U (mv U U (gY U ?_));replace a3:=a3.ext (q7.n3 q8 Z O);replace hG:=M.ext ((((q1.n6 q2 q3 q4 q5 q6 q7).n1 q8).n1 Z).n1 O);replace hZ:=a0.ext ((((q1.n6 q2 q3 q4 q5 q6 q7).n1 q8).n1 Z).n1 O);refine cl (ev1 U) (mkC func21) (x1b _ j5z _ a3.sl hG hZ dd dd) U ?_;rintro _ d0 ⟨rfl,a8⟩;have d4:=a8.size;refine gY U (x4y U (pkt U (mv U U (gs 70 U (λg7=>?_) (λI=>absurd (by exact hhtC) I)))));exact gY U (mv U U (gY U (lnS U underlying68 (gY U (eq' U (pkt U (asg U (z9e U .nil (Z.n2 O a8)))))))));intro d1 a9;have d5:=a9.size;refine tn (rt (r1 results19 U ?_));exact⟨_,rfl,congrArg Value.bool (decide_eq_true ⟨⟨⟨⟨⟨⟨⟨⟨rfl,rfl⟩,rfl⟩,rfl⟩,rfl⟩,hhtA⟩,hhtB⟩,hhtC⟩,rfl⟩),(((q1.n6 q2 q3 q4 q5 q6 q7).n1 q8).n1 a9)⟩
end Go.Proofs.YtjilcnmaefhmeaaGreatDoor
namespace Go.G09
open Go Go.Lw Go.G21 Go.G08
def rkS (bs:List UInt8):List Int:=bs.map λc=>(c.toNat:Int) % 9-4
def rkA (rs:List Int)(i:Nat):Int:=(0::rs).getD i 0
theorem y6a {y b1 p b2 q s:Int}:∀ {l:List Int} {i:Nat} {r:Int},v2z y b1 p b2 q i r (l++[s])=v2z y b1 p b2 q i r l++(if y0s b1 p b2 q s=true/\y0s b1 p b2 q ((r::l).getD l.length 0)=false then [⟨((i+l.length:Nat):Int),2,⟨y,1⟩⟩] else [])
 | [],i,r=>by
  show (_++[])=[]++_
  rw[List.append_nil,List.nil_append];rfl
 | x::l,i,r=>by
  show (_++v2z y b1 p b2 q (i+1) x (l++[s]))=(_++v2z y b1 p b2 q (i+1) x l)++_
  rw[y6a,<-List.append_assoc]
  congr 2
  rw[show i+1+l.length=i+(x::l).length by simp only[List.length_cons];omega]
theorem x8j {rs:List Int}{i:Nat}(D:i<=rs.length):(0::rs.take i).getD (rs.take i).length 0=rkA rs i:=by
 unfold rkA;rw[List.length_take_of_le D];cases i with
 | zero=>rfl
 | succ i=>
  rw[List.getD_cons_succ,List.getD_cons_succ,List.getD,List.getD,List.getElem?_take,if_pos (Nat.lt_succ_self i)]
def rkT (p q:Int)(rs:List Int)(i:Nat):List UInt8:=y1s (v3h 2 0 p 1 q false++v2z 2 0 p 1 q 3 0 (rs.take i))
theorem x9s (a b:List Hz):y1s (a++b)=y1s a++y1s b:=by unfold y1s;rw[List.flatMap_append]
def v6e:List UInt8:=[32,115,116,114,101,116,99,104,32,50,46,49,59]
theorem j7k {o:Int}(ho:0<=o):y1s [⟨o,2,⟨2,1⟩⟩]=Lib.itoa o++v6e:=by
 unfold y1s;rw[List.flatMap_cons,List.flatMap_nil,List.append_nil,hzT,if_pos ⟨ho,(by show (1:Int)<=2/\(2:Int)<=5;decide),(by show z5d (⟨2,1⟩:LId);decide)⟩,z7k (n:=2) dd,z7k (n:=1) dd];simp only[List.append_assoc,List.cons_append,List.nil_append];rfl
theorem v8c {p q:Int}{rs:List Int}(h:y0s 0 p 1 q 0=true):rkT p q rs 0=[50,32,102,108,111,97,116,32,50,46,49,59,50,32,115,116,114,101,116,99,104,32,50,46,49,59]:=by
 unfold rkT v3h;rw[if_pos ⟨rfl,h⟩,List.take_zero];show y1s [⟨((2:Nat):Int),1,⟨2,1⟩⟩,⟨((2:Nat):Int),2,⟨2,1⟩⟩]=_;exact(y1i dd).trans (by decide +kernel)
theorem u0i {p q:Int}{rs:List Int}(h:y0s 0 p 1 q 0=false):rkT p q rs 0=[]:=by
 unfold rkT v3h;rw[if_neg (by rw[h];simp),List.take_zero];rfl
theorem j4q {p q:Int}{rs:List Int}{i:Nat}(I:i<rs.length)(h1:y0s 0 p 1 q (rs.getD i 0)=true)(D:y0s 0 p 1 q (rkA rs i)=false):rkT p q rs (i+1)=rkT p q rs i++(Lib.itoa (3+(i:Int))++v6e):=by
 unfold rkT;rw[z1s (0:Int) I,y6a,x8j oo,if_pos ⟨h1,D⟩,<-List.append_assoc,x9s,List.length_take_of_le oo,show ((3+i:Nat):Int)=3+(i:Int) by omega,j7k oo]
theorem j3h {p q:Int}{rs:List Int}{i:Nat}(D:i<rs.length)(h:¬(y0s 0 p 1 q (rs.getD i 0)=true/\y0s 0 p 1 q (rkA rs i)=false)):rkT p q rs (i+1)=rkT p q rs i:=by
 unfold rkT;rw[z1s (0:Int) D,y6a,x8j oo,if_neg h,List.append_nil]
theorem u1q {rs:List Int}(i:Nat):rkA rs (i+1)=rs.getD i 0:=rfl
theorem u7m {p q r:Int}(hp:1<=p/\p<=40)(D:1<=q/\q<=40)(hr:-4<=r/\r<=4):y0s 0 p 1 q r=decide (6<apt p (q+r)):=by
 unfold y0s;rw[u8e (y0t ⟨.inr U,D.1,D.2⟩) hr,u8e (y0t ⟨.inl U,hp.1,hp.2⟩) hr,if_neg dd,if_pos U,u3g]
theorem j2p {bs:List UInt8}:∀r∈rkS bs,-4<=r/\r<=4:=λr D=>by
 obtain⟨c,_,rfl⟩:=List.mem_map.1 D
 omega
theorem v6i {bs:List UInt8}{i:Nat}(D:i<bs.length):(rkS bs).getD i 0=((bs.getD i 0).toNat:Int) % 9-4:=by
 unfold rkS;rw[List.getD,List.getD,List.getElem?_map,List.getElem?_eq_getElem D];rfl
def rkL (p q d:Int)(rs:List Int):List MOp:=j3g 2 0 1 0 p d 1 q false++rs.map v3d
theorem j1m (p q d:Int)(rs:List Int):(rkL p q d rs).length=3+rs.length:=by
 unfold rkL j3g;simp;omega
theorem u5t {p q d:Int}{rs:List Int}{i:Nat}(D:i<rs.length):rkL p q d (rs.take (i+1))=rkL p q d (rs.take i)++[v3d (rs.getD i 0)]:=by
 unfold rkL;rw[z1s (0:Int) D,List.map_append,<-List.append_assoc];rfl
def j0o:List UInt8:=[32,114,101,115,116,32,50,46,48,59]
def j1i:List UInt8:=[32,114,101,115,116,32,50,46,49,59]
theorem j1b {o:Int}(ho:0<=o):y1s [⟨o,5,⟨2,0⟩⟩,⟨o,5,⟨2,1⟩⟩]=((Lib.itoa o++j0o)++Lib.itoa o)++j1i:=by
 unfold y1s;rw[List.flatMap_cons,List.flatMap_cons,List.flatMap_nil,List.append_nil,hzT,if_pos ⟨ho,(by show (1:Int)<=5/\(5:Int)<=5;decide),(by show z5d (⟨2,0⟩:LId);decide)⟩,hzT,if_pos ⟨ho,(by show (1:Int)<=5/\(5:Int)<=5;decide),(by show z5d (⟨2,1⟩:LId);decide)⟩,z7k (n:=2) dd,z7k (n:=1) dd,z7k (n:=0) dd];simp only[List.append_assoc,List.cons_append,List.nil_append];rfl
theorem k2c {p q d:Int}{bs:List UInt8}(I:d=if q<=p then 0 else 1)(hp:1<=p/\p<=40)(M:1<=q/\q<=40)(hl:bs.length<=10) :
    ∃Q,z3n 0 G08.start (rkL p q d (rkS bs))=.ok Q/\y1s (y7d (y7b (rkL p q d (rkS bs)) Q))=rkT p q (rkS bs) (rkS bs).length++(((Lib.itoa ((3+(rkS bs).length:Nat):Int)++j0o)++Lib.itoa ((3+(rkS bs).length:Nat):Int))++j1i):=by
  have D:d=0\/d=1:=by rw[I];split<;>simp
  have n1:z2v 0 p=0:=y0t ⟨.inl U,hp.1,hp.2⟩
  have n2:z2v 1 q=0:=y0t ⟨.inr U,M.1,M.2⟩
  have s1:=(y3m n1 (r:=0)).1
  have O:=(y3m n2 (r:=0)).1
  rw[if_pos U]at s1
  rw[if_neg dd]at O
  have a0:(rkS bs).length=bs.length:=by unfold rkS;exact List.length_map ..
  obtain⟨Q,Z,e2,_,e3⟩:=u9v (y:=2) (sd:=0) (dk:=1) (b1:=0) (p:=p) (dt:=d) (b2:=1) (q:=q) oo oo oo n1 n2 (λe=>oo) D (by
    unfold j5l j0u
    simp only[Bool.false_eq_true,if_false,if_true,s1,O]
    rcases D with rfl|rfl
    · have J:q<=p:=Classical.byContradiction λh=>by rw[if_neg h]at I;omega
      rw[if_neg dd];omega
    · have J:¬q<=p:=λh=>by rw[if_pos h]at I;omega
      rw[if_pos U];omega) (rs:=rkS bs) j2p oo
  refine⟨Q,Z,?_⟩
  have hf:Q.B.flat.Perm [⟨2,0⟩,⟨2,1⟩]:=by rw[e2];exact x0g n1 n2 (λe=>oo)
  show y1s (y7d (y7b (j3g 2 0 1 0 p d 1 q false++(rkS bs).map v3d) Q))=_
  rw[e3,j2y hf,x9s,j1b oo]
  unfold rkT
  rw[List.take_length]
theorem u0m {p q:Int}{rs:List Int}:∀ {i:Nat},i<=rs.length->i<=100->(rkT p q rs i).length<=26+34*i
 | 0,_,_=>by
  cases h:y0s 0 p 1 q 0 with
  | true=>rw[v8c h];decide
  | false=>rw[u0i h];decide
 | i+1,hi,h100=>by
  have D:=u0m (p:=p) (q:=q) (rs:=rs) (i:=i) oo oo
  by_cases h:y0s 0 p 1 q (rs.getD i 0)=true/\y0s 0 p 1 q (rkA rs i)=false
  ·rw[j4q oo h.1 h.2,List.length_append,List.length_append]
   have:=z7e (n:=3+(i:Int)) oo
   have e:v6e.length=13:=rfl
   omega
  rw[j3h oo h];omega
end Go.G09
namespace Go.Proofs.YtjilcnmaefhmeaaGreatDoor
open Go.Lw Go.G21 Go.G08 Go.G09 _root_.Go.Proofs.Tryz
theorem v9u (D I:Int)(v:Value)(bs:List UInt8)(w0:World)(hG:Glob w0)(a7:StT w0)(hZ:HzG w0)(h1:0<=D/\D<=255)(h2:0<=I/\I<=255)(hs:Sl Enc.b w0 v bs):Rets prog 6 #[.int .u8 D,.int .u8 I,v] w0 λr w'=>r=.bool true/\Fr [] w0 w':=by
 obtain⟨A,c,rfl,i4,e7,hA⟩:=id hs;clear hA;unfold maxLen at e7;obtain⟨d,hd⟩:∃d:Int,d=if (1+I % 40)<=(1+D % 40) then 0 else 1:=⟨_,rfl⟩
 have i5:d=0\/d=1:=by rw[hd];split<;>simp
 have f4:(rkS bs).length=bs.length:=by unfold rkS;exact List.length_map ..
 have a8:y0s 0 (1+D % 40) 1 (1+I % 40) (rkA (rkS bs) 0)=decide (6<apt (1+D % 40) (1+I % 40)):=by
  rw[show rkA (rkS bs) 0=0 from U,u7m oo oo oo,Int.add_zero]
 have i3:=hG.sz;refine we [(0,.int .u8 D),(1,.int .u8 I),(2,.slice A bs.length c)] func6 U ntmps6 U (.c3 U U U) ?_;have d1:=hG;have b3:=a7;have d4:=hZ;have f5:=hs;refine sr (asg U (nn (sq (sr (mv U U (lnS U underlying81 (gt' U (nn (cd U (λc0=>?_) (λc0=>?_))))))))));refine sr (cl z0f (mkC func19) (x2q _ hG a7 hZ) U ?_);rintro _ w1 ⟨rfl,q1⟩;have z1:=q1.size;refine asg U (nn (rt (tr (r1 results6 U ?_))));exact⟨_,rfl,by first|rfl|exact congrArg Value.bool (decide_eq_true (.inl ⟨⟨rfl,rfl⟩,a5⟩)),q1⟩;refine sk (tn (sr (mv U U (v4d U U (by first|exact IntWalk.rem_in _ _ oo|rfl) (z4y U (us underlying5) underlying3 (wi6 oo) (z1b U (wi6 oo) (mv U U (v4d U U (by first|exact IntWalk.rem_in _ _ oo|rfl) (z4y U (us underlying5) underlying3 (wi6 oo) (z1b U (wi6 oo) (asg U (asg U (kpL [(2,_),(7,_),(8,_)] (.c3 U U U) (nn (sr (mv U U (z1y (cs:=[_,_]) (ev1 U) x1i (z0g U z0s) U ?_)))))))))))))))));refine mv U U (z1y (cs:=[_,_]) (ev2 U) x1i (z0g U (z0g U z0s)) U ?_);refine al v1n U (λg9 w2 i7 a2 q2 z2=>(al v1n U (λh9 w3 g8 J q3 z3=>?_)));replace a2:=a2.ext q3;refine z0k (vs:=[_,_]) U a2 y6l (λw4 a2 q4 z4=>?_) (h1:=(by first|(simp[Value.oneCell',S];done)|exact z9z.one _|exact y3f.one _));replace J:=J.fr q4;refine z0k (vs:=[_,_]) U J y6l (λw5 J q5 z5=>?_) (h1:=(by first|(simp[Value.oneCell',S];done)|exact z9z.one _|exact y3f.one _));refine nn (sr (z1y (cs:=[_,_,_,_,_,_]) (ev3 U) j5h (z0g U (z0g U (z0g U z0s))) U ?_));replace a2:=a2.fr q5;refine z0n U a2 z4k (z1y (cs:=[_,_,_,_,_,_]) (ev4 U) j5h (z0g U (z0g U (z0g U (z0g U z0s)))) U ?_);refine z2t ([⟨1,0,0,0,2,0⟩,⟨4,1,0,(1+D % 40),2,0⟩]) (ev2 U) U v7m (λi0 w6 h0 a6 q6 z6=>(asg U (nn (sr (asg U (nn (jn (ι:=Unit) [(2,_),(7,_),(8,_),(10,_),(11,_)] (λ_j=>[(12,.int .u8 d)]) (λ_j w'=>Fr [] w6 w') (.c5 U U U U U) ?_ ?_)))))));refine sr (mv U U (mv U U (le' U U (nn (cd U (λc1=>?_) (λc1=>?_))))));refine rg (asg U (nl ?_));exact jE (()) (.c6 U U U U U (congrArg (λz=>some (Value.int .u8 z)) (by rw[hd];first|rw[if_pos oo]|rw[if_neg oo]))) (Fr.refl _ _);refine sk ?_;exact jE (()) (.c6 U U U U U (congrArg (λz=>some (Value.int .u8 z)) (by rw[hd];first|rw[if_pos oo]|rw[if_neg oo]))) (Fr.refl _ _);rintro _j w7 q7;have z7:=q7.size;refine kpC [(2,_),(7,_),(8,_),(10,_),(11,_),(12,_)] (.c6 U U U U U U) (sr (mv U U (mv U U ?_)));replace J:=J.ext (q6.n1 q7);refine z0n U J z4k (z1y (cs:=[_,_,_,_,_,_]) (ev4 U) j5h (z0g U (z0g U (z0g U (z0g U z0s)))) U ?_);refine z2t ([⟨5,d,1,(1+I % 40),2,0⟩]) (ev1 U) U v7m (λi1 w8 h3 d9 q8 z8=>?_);replace a6:=a6.ext (q7.n1 q8);have b6:=a6;refine z2l U a6 d9.sl v7m (λi9 w9 O q9 f2=>?_);have z9:=q9.size;refine asg U (kpL [(2,_),(7,_),(8,_),(11,_)] (.c4 U U U U) (nn (sr (mv U U (mv U U (cl (ev2 U) (mkC func22) (x8t _ _ _ oo oo) U ?_))))));rintro _ f7 ⟨rfl,b8⟩;have k4:=b8.size;refine gt' U (asg U (nn (sr (asg U (nn (jn (ι:=Unit) [(2,_),(7,_),(8,_),(11,_)] (λ_j=>[(13,.bool (y0s 0 (1+D % 40) 1 (1+I % 40) (rkA (rkS bs) 0))),(14,S (rkT (1+D % 40) (1+I % 40) (rkS bs) 0))]) (λ_j w'=>Fr [] f7 w') (.c4 U U U U) ?_ ?_))))));refine sr (mv U U (nn (cd U (λc2=>?_) (λc2=>?_))));refine rg (asg U (nl ?_));exact jE (()) (.c6 U U U U (congrArg (λb=>some (Value.bool b)) a8.symm) (congrArg (λl=>some (S l)) (by first|rw[v8c (a8.trans (decide_eq_true c2))]|rw[u0i (a8.trans (decide_eq_false c2))]))) (Fr.refl _ _);refine sk ?_;exact jE (()) (.c6 U U U U (congrArg (λb=>some (Value.bool b)) a8.symm) (congrArg (λl=>some (S l)) (by first|rw[v8c (a8.trans (decide_eq_true c2))]|rw[u0i (a8.trans (decide_eq_false c2))]))) (Fr.refl _ _);rintro _j j1 b9;have k5:=b9.size;refine kpC [(2,_),(7,_),(8,_),(11,_),(13,_),(14,_)] (.c6 U U U U U U) (sq (sr (asg U (nn (bl ?_)))));replace O:=O.ext (b8.n1 b9);refine lpK (ι:=Nat×Value) [(2,_),(7,_),(8,_)] (λp=>[(15,.int .i64 (p.1:Int)),(11,p.2),(13,.bool (y0s 0 (1+D % 40) 1 (1+I % 40) (rkA (rkS bs) p.1))),(14,S (rkT (1+D % 40) (1+I % 40) (rkS bs) p.1))]) (λp w'=>Fr [] w0 w'/\p.1<=bs.length/\Lw.Own z9z 47 w0.heap.size w' p.2 (rkL (1+D % 40) (1+I % 40) d ((rkS bs).take p.1))) (λp=>bs.length-p.1) (0,_) (.c7 U U U U U U U) ⟨(((q2.z6 q3 q4 q5 q6 q7 q8).step q9 (λk hk a4=>absurd (b6.blk k hk).1 oo)).n2 b8 b9),⟨Nat.zero_le _,O.low oo⟩⟩ ?_;rintro⟨i,vP⟩ j2 ⟨M,⟨f0,O⟩⟩;simp only at f0 O;have k6:=M.size;refine kpC [(2,_),(7,_),(8,_),(15,.int .i64 (i:Int)),(11,vP),(13,.bool (y0s 0 (1+D % 40) 1 (1+I % 40) (rkA (rkS bs) i))),(14,S (rkT (1+D % 40) (1+I % 40) (rkS bs) i))] (.c7 U U U U U U U) ?_;have i8:=u0m (p:=(1+D % 40)) (q:=(1+I % 40)) (rs:=(rkS bs)) (i:=i) oo oo;have b5:(rkL (1+D % 40) (1+I % 40) d ((rkS bs).take i)).length=3+i:=by rw[j1m,List.length_take_of_le oo]
 refine sq (sr (mv U U (mv U U (lnS U underlying81 (lt' U (nn (cd U (λc3=>?_) (λc3=>?_))))))));have d7:i<bs.length:=by omega
 have a4:i<(rkS bs).length:=by omega
 have e8:-4<=(((bs.getD i 0).toNat:Int) % 9-4)/\(((bs.getD i 0).toNat:Int) % 9-4)<=4:=by omega
 have a9:decide (6<apt (1+D % 40) ((1+I % 40)+(((bs.getD i 0).toNat:Int) % 9-4)))=y0s 0 (1+D % 40) 1 (1+I % 40) (rkA (rkS bs) (i+1)):=by rw[u1q,v6i d7,u7m oo oo e8]
 have b4:(((rkL (1+D % 40) (1+I % 40) d ((rkS bs).take i)++[v3d ((rkS bs).getD i 0)]).length:Nat):Int)-1=3+(i:Int):=by rw[List.length_append,b5];simp only[List.length_cons,List.length_nil];omega
 have a3:=z7e (n:=(((rkL (1+D % 40) (1+I % 40) d ((rkS bs).take i)++[v3d ((rkS bs).getD i 0)]).length:Nat):Int)-1) oo;refine sk (tn (sq (bl (sr (mv U U (mv U U ?_))))));replace hs:=f5.ext M;refine z1d (0) U hs U u1l z1g (λf9 d6=>?_);refine z1k U (d6 _ hs) na5 (v4d U U (by first|exact IntWalk.rem_in _ _ oo|rfl) (z4y U (us underlying5) underlying3 (wi6 oo) (z2p U (wi6 oo) (asg U (kpL [(2,_),(7,_),(8,_),(11,_),(13,_),(14,_),(15,_),(16,_)] (.c8 U U U U U U U U) (nn (sr (mv U U (mv U U (z1y (cs:=[_,_,_,_,_,_]) (ev2 U) j5h (z0g U (z0g U z0s)) U ?_))))))))));refine z2t ([v3d ((rkS bs).getD i 0)]) (ev1 U) (pi3 U (by rw[v6i d7];rfl) U) v7m (λi2 j3 h4 e0 e2 k7=>?_);replace O:=O.ext e2;have b7:=O;refine z2l U O e0.sl v7m (λj0 j4 O e3 f3=>?_);have k8:=e3.size;obtain⟨h6,h8,rfl,g7⟩:=O.sl.form;refine asg U (nn (sr (mv U U (mv U U (mv U U (z1b U (wi6 oo) (cl (ev2 U) (mkC func22) (x8t _ _ _ oo oo) U ?_)))))));rintro _ f8 ⟨rfl,c9⟩;have k9:=c9.size;refine gt' U (asg U (kpL [(2,_),(7,_),(8,_),(11,_),(13,_),(14,_),(15,_),(17,_)] (.c8 U U U U U U U U) (nn (jn (ι:=Unit) [(2,_),(7,_),(8,_),(11,_),(15,_),(17,_)] (λ_j=>[(14,S (rkT (1+D % 40) (1+I % 40) (rkS bs) (i+1)))]) (λ_j w'=>Fr [] f8 w') (.c6 U U U U U U) ?_ ?_))));refine sq (rbo (r:=83) (L':=[(2,_),(7,_),(8,_),(11,_),(14,_),(15,_),(17,_)]) (((6<(apt (1+(D % 40)) ((1+(I % 40))+((((bs.getD i 0).toNat:Int) % 9)-4))))/\(¬y0s 0 (1+D % 40) 1 (1+I % 40) (rkA (rkS bs) i)=true))) (.c7 U U U U U U U) ?_ ?_);refine mv U U (mv U U (gs 80 U (λg0=>?_) (λg0=>?_)));exact gY U (mv U U (gY U (nt' U (pkt U (rbe U (.c7 U U U U U U U))))));exact gN U (gN U (pkf U (rbe U (.c7 U U U U U U U))));refine tn (cd U (λc4=>?_) (λc4=>?_));refine rg (mv U U (mv U U (lnS U underlying25 (z2p U (wi6 oo) (cl (ev1 U) j5e (x6m _ _ _ oo (Nat.lt_succ_self _)) U ?_)))));rintro _ j5 ⟨rfl,e4⟩;have l0:=e4.size;refine y0g U U (by first|(simp only[List.length_append,List.length_cons,List.length_nil];omega)|(simp only[List.length_append,List.length_cons,List.length_nil]at a3 ⊢;omega)) (y0g U U (by first|(simp only[List.length_append,List.length_cons,List.length_nil];omega)|(simp only[List.length_append,List.length_cons,List.length_nil]at a3 ⊢;omega)) (asg U (kpL [(2,_),(7,_),(8,_),(11,_),(14,_),(15,_),(17,_)] (.c7 U U U U U U U) (nl ?_))));exact jE (()) (.c7 U U U U U U (congrArg (λl=>some (S l)) (by first|(rw[j4q a4 (a9.symm.trans (decide_eq_true c4.1)) (by simpa using c4.2),<-b4];rfl)|rw[j3h a4 (λe=>c4 ⟨of_decide_eq_true (a9.trans e.1),by rw[e.2];simp⟩)]))) e4;refine sk ?_;exact jE (()) (.c7 U U U U U U (congrArg (λl=>some (S l)) (by first|(rw[j4q a4 (a9.symm.trans (decide_eq_true c4.1)) (by simpa using c4.2),<-b4];rfl)|rw[j3h a4 (λe=>c4 ⟨of_decide_eq_true (a9.trans e.1),by rw[e.2];simp⟩)]))) (Fr.refl _ _);rintro _j j6 d0;have l1:=d0.size;refine kpC [(2,_),(7,_),(8,_),(11,_),(15,_),(17,_),(14,_)] (.c7 U U U U U U U) (rg (mv U U (asg U (nl (bn' (tn (rg (mv U U (z1b U (wi6 oo) (asg U (nl ?_)))))))))));replace O:=O.ext (c9.n1 d0);exact lpE ((i+1,_)) (.c7 U U U U U (congrArg (λb=>some (Value.bool b)) a9) U) ⟨(((M.n1 e2).step e3 (λk hk a4=>absurd (b7.blk k hk).1 oo)).n2 c9 d0),⟨sm,by rw[u5t a4];exact O⟩⟩ sm;have e9:i=bs.length:=by omega
 rw[List.take_of_length_le oo]at O b5;obtain⟨h5,h7,rfl,g6⟩:=O.sl.form;obtain⟨Pq,d3,a5⟩:=k2c (bs:=bs) hd oo oo oo;obtain⟨ZA,d5⟩:∃Z,Z=y7d (y7b (rkL (1+D % 40) (1+I % 40) d ((rkS bs))) Pq):=⟨_,rfl⟩;have e1:=j2h (l:=(rkL (1+D % 40) (1+I % 40) d ((rkS bs)))) (q:=Pq);have f6:=u9a d3;rw[<-d5]at e1 f6 a5;rw[f4,<-e9,show 3+i=(rkL (1+D % 40) (1+I % 40) d ((rkS bs))).length by rw[b5]]at a5;have a3:=z7e (n:=(((rkL (1+D % 40) (1+I % 40) d ((rkS bs))).length:Nat):Int)) oo;refine ex (te (te (xh (tn (sr (mv U U (mv U U (lnS U underlying25 (cl (ev1 U) j5e (x6m _ _ _ oo (Nat.lt_succ_self _)) U ?_)))))))));rintro _ j7 ⟨rfl,a0⟩;have l2:=a0.size;refine y0g U U (by first|(simp only[List.length_append,List.length_cons,List.length_nil];omega)|(simp only[List.length_append,List.length_cons,List.length_nil]at a3 ⊢;omega)) (mv U U (lnS U underlying25 (cl (ev1 U) j5e (x6m _ _ _ oo (Nat.lt_succ_self _)) U ?_)));rintro _ j8 ⟨rfl,a1⟩;have l3:=a1.size;refine y0g U U (by first|(simp only[List.length_append,List.length_cons,List.length_nil];omega)|(simp only[List.length_append,List.length_cons,List.length_nil]at a3 ⊢;omega)) (y0g U U (by first|(simp only[List.length_append,List.length_cons,List.length_nil];omega)|(simp only[List.length_append,List.length_cons,List.length_nil]at a3 ⊢;omega)) (y0g U U (by first|(simp only[List.length_append,List.length_cons,List.length_nil];omega)|(simp only[List.length_append,List.length_cons,List.length_nil]at a3 ⊢;omega)) (asg U (kpL [(11,_),(14,_)] (.c2 U U) (nn (sr (mv U U ?_)))))));replace O:=O.ext (a0.n1 a1);replace a7:=b3.ext (M.n2 a0 a1);refine cl (ev1 U) j9n (x3u (l:=(rkL (1+D % 40) (1+I % 40) d ((rkS bs)))) (n:=(rkL (1+D % 40) (1+I % 40) d ((rkS bs))).length) (zs:=ZA) O.sl a7 oo d3 d5.symm U) U ?_;rintro _ j9 ⟨⟨gz,rfl,f1⟩,q20⟩;have l4:=q20.size;refine mv U U (xt U (xt U (xt U (asg U (asg U (asg U (kpL [(11,_),(14,_),(18,_),(19,_),(20,_)] (.c5 U U U U U) (nn (sq (x9y (r:=6) (L':=[]) (((((0=0)/\((((rkL (1+D % 40) (1+I % 40) d ((rkS bs))).length:Nat):Int)=((rkL (1+D % 40) (1+I % 40) d ((rkS bs))).length:Int)))/\((y1s ZA)=((rkT (1+D % 40) (1+I % 40) (rkS bs) i)++(((Lib.itoa (((rkL (1+D % 40) (1+I % 40) d ((rkS bs))).length:Nat):Int)++j0o)++Lib.itoa (((rkL (1+D % 40) (1+I % 40) d ((rkS bs))).length:Nat):Int))++j1i))))\/False)) .nil ?_ ?_))))))))));refine mv U U (eq' U (mv U U (gs 111 U (λg1=>?_) (λhh=>absurd (by rfl) hh))));refine gY U (mv U U (gY U (mv U U (gY U (lnS U underlying25 (gY U (eq' U (pkt U (mv U U (gs 117 U (λg2=>?_) (λhh=>absurd (by first|rfl|exact⟨rfl,rfl⟩) hh)))))))))));refine gY U (mv U U (gY U ?_));replace hG:=d1.ext (M.n3 a0 a1 q20);replace hZ:=d4.ext (M.n3 a0 a1 q20);refine cl (ev1 U) (mkC func21) (x1b _ ZA _ f1.sl hG hZ (λh hh=>by have:=e1 h hh;omega) oo) U ?_;rintro _ k0 ⟨rfl,b0⟩;have l5:=b0.size;refine gY U (mv U U (gY U (x4y U (pkt U (mv U U (gs 123 U (λg3=>?_) (λhh=>absurd (by first|exact a5|exact⟨rfl,a5⟩|exact⟨⟨rfl,rfl⟩,a5⟩) hh)))))));refine gY U ?_;replace hG:=d1.ext (M.n4 a0 a1 q20 b0);replace a7:=b3.ext (M.n4 a0 a1 q20 b0);replace hZ:=d4.ext (M.n4 a0 a1 q20 b0);refine cl z0f (mkC func19) (x2q _ hG a7 hZ) U ?_;rintro _ k1 ⟨rfl,e5⟩;have l6:=e5.size;exact pkt U (asg U (z9e U .nil (b0.n1 e5)));intro k2 e6;have l7:=e6.size;refine tn (rt (r1 results6 U ?_));exact⟨_,rfl,by first|rfl|exact congrArg Value.bool (decide_eq_true (.inl ⟨⟨rfl,rfl⟩,a5⟩)),(M.n4 a0 a1 q20 e6)⟩
end Go.Proofs.YtjilcnmaefhmeaaGreatDoor
