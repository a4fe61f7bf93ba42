/- Texts of the proof, joined. -/
import Derived.Test.YtlfdhllfmoplgaaGreatDoorRows
import Derived.WalkSmall
import Derived.Test.YtlfdhllfmoplgaaGreatDoorQE2
set_option linter.unusedVariables false
set_option linter.unusedSimpArgs false
set_option maxHeartbeats 4000000
namespace Go.Proofs.YtlfdhllfmoplgaaGreatDoor
open Go.Lw Go.G21 Go.G08 _root_.Go.Proofs.Tryz
theorem y4x:ElemOf prog 23 30 z6t 24:=ElemOf.mk' (z:=(.slice none 0 0)) underlying23 kr U
theorem j1o (w:World):(zeroValue 30).run prog w=.ok (.slice none 0 0) w:=kr
theorem y8z (v:Value)(l:List LId)(w0:World)(I:Sl z1b w0 v l)(hl:l.length<=100000):Rets prog 83 #[v] w0 λr w'=>∃g,r=.slice (some ⟨g,0,none⟩) l.length l.length/\w0.heap.size<=g/\Lw.Own z1b 64 w0.heap.size w' r l/\Fr [] w0 w':=by
 obtain⟨A,c,rfl,a0,hM,hA⟩:=id I;clear hA;unfold maxLen at hM;refine we [(0,.slice A l.length c)] func83 U ntmps83 U (.cons U .nil) ?_;have M:=I;refine sr (asg U (nn (sr (mv U (lnS U underlying30 (z1h (m:=l.length) (c:=l.length) (id0) U z3x z7r U (λZ w1 a1 D O z1=>(asg U (nn (sr (mv U (mv U ?_))))))))))));replace I:=M.ext O;refine z8d (zs:=List.replicate l.length id0) (by rw[List.length_replicate];rfl) U (by rw[List.length_replicate];exact D) I (by rw[List.length_replicate]) z3x (λw2 D q2 z2=>?_);rw[List.length_replicate]at D;exact nn (sr (mv U (asg U (nn (rt (r1 results83 U ⟨_,rfl,Z,rfl,oo,D.low oo,(O.z1 q2)⟩))))))
theorem u4l (v:Value)(l:List IQ)(w0:World)(I:Sl z6t w0 v l)(hl:l.length<=100000):Rets prog 230 #[v] w0 λr w'=>∃g,r=.slice (some ⟨g,0,none⟩) l.length l.length/\w0.heap.size<=g/\Lw.Own z6t 30 w0.heap.size w' r l/\Fr [] w0 w':=by
 obtain⟨A,c,rfl,a0,hM,hA⟩:=id I;clear hA;unfold maxLen at hM;refine we [(0,.slice A l.length c)] func230 U ntmps230 U (.cons U .nil) ?_;have M:=I;refine sr (asg U (nn (sr (mv U (lnS U underlying23 (z1h (m:=l.length) (c:=l.length) (iq0) U y4x j1o U (λZ w1 a1 D O z1=>(asg U (nn (sr (mv U (mv U ?_))))))))))));replace I:=M.ext O;refine z8d (zs:=List.replicate l.length iq0) (by rw[List.length_replicate];rfl) U (by rw[List.length_replicate];exact D) I (by rw[List.length_replicate]) y4x (λw2 D q2 z2=>?_);rw[List.length_replicate]at D;exact nn (sr (mv U (asg U (nn (rt (r1 results230 U ⟨_,rfl,Z,rfl,oo,D.low oo,(O.z1 q2)⟩))))))
theorem v5t (v:Value)(qs:List IQ)(w0:World)(O:Sl z6t w0 v qs)(hk:IqAt w0 qs):Rets prog 91 #[v] w0 λr w'=>∃n:Nat,r=.int .i64 (n:Int)/\n<=qs.length/\(plB qs).take n=trimB (plB qs)/\Fr [] w0 w':=by
 obtain⟨A,c,rfl,a3,hM,hA⟩:=id O;clear hA;unfold maxLen at hM;refine we [(0,.slice A qs.length c)] func91 U ntmps91 U (.cons U .nil) ?_;have a1:=O;have a0:=hk;refine sr (asg U (nn (sr (mv U (lnS U underlying23 (asg U (nn (sq (bl (lpK (ι:=Nat) [(0,_)] (λn=>[(3,.int .i64 (n:Int))]) (λn w'=>Fr [] w0 w'/\n<=qs.length/\∀j,n<=j->(qs.getD j iq0).2=[]) (λn=>n) qs.length (.c2 U U) ⟨Fr.refl _ _,⟨Nat.le_refl _,λj Z=>x5g Z⟩⟩ ?_))))))))));rintro n w1 ⟨q1,⟨hn,I⟩⟩;refine kpC [(0,_),(3,_)] (.c2 U U) ?_;have M:=z2e (z2b a0 (n-1));refine sq (sq (rbo (r:=16) (L':=[(0,_),(3,_)]) (((0<(n:Int))/\(((qs.getD (n-1) iq0).1.2.1:Int)=0))) (.c2 U U) ?_ ?_));refine mv U (gt' U (mv U (gs 8 U (λg0=>?_) (λg0=>?_))));refine gY U (mv U (gY U (mv U (gY U (z2w U (wi6 oo) (gY U ?_))))));replace O:=a1.ext q1;refine z1d (p:=n-1) (iq0) U O U y4x oo (λa2 D=>?_);exact gY U (z1k U (D _ O) z6h (gY U (lnS U underlying30 (gY U (eq' U (pkt U (rbe U (.c2 U U))))))));exact gN U (gN U (gN U (gN U (gN U (gN U (gN U (pkf U (rbe U (.c2 U U)))))))));refine tn (cd U (λc0=>?_) (λc0=>?_));refine sk (tn (bl (rg (mv U (z2w U (wi6 oo) (asg U (nl (bn' ?_))))))));exact lpE (n-1) (.c2 U (congrArg (λz=>some (Value.int .i64 z)) (show (n:Int)-1=((n-1:Nat):Int) by omega))) ⟨q1,⟨oo,λj Z=>by
  by_cases e:n<=j;exact I j e;obtain rfl:j=n-1:=by omega
  exact List.eq_nil_of_length_eq_zero oo⟩⟩ oo
 refine ex (te (te (xh (tn (sr (mv U (asg U (nn (rt (r1 results91 U ?_))))))))));exact⟨_,rfl,n,rfl,hn,y2j _ _ (by rw[List.length_map];exact hn) (λj Z=>by rw[z4e];exact I j Z) (by
  by_cases e:n=0;exact .inl e;refine .inr λh=>c0 ⟨oo,?_⟩;rw[z4e]at h;rw[h]at M;rw[M];rfl),q1⟩
theorem x4p (v u:Value)(qs:List IQ)(n:Nat)(s:List LId)(w0:World)(hs:Sl z6t w0 v qs)(hk:IqAt w0 qs)(hu:Sl z1b w0 u s)(hl:qs.length<=40)(hn:n<=40)(h4:z9p qs)(b8:s.length<=4):Rets prog 206 #[v,.int .i64 (n:Int),u] w0 λr w'=>(∃fs,RwO 30 64 w0.heap.size w' r fs/\plB fs=y5o (plB qs) n s/\∃g,r=.slice (some ⟨g,0,none⟩) fs.length fs.length)/\Fr [] w0 w':=by
 obtain⟨A,c,rfl,d4,hM,hA⟩:=id hs;clear hA;unfold maxLen at hM;obtain⟨B,e,rfl,d5⟩:=id hu.form;obtain⟨M,a6⟩:∃M,M=max qs.length n:=⟨_,rfl⟩;have b3:max (qs.length:Int) (n:Int)=(M:Int):=by omega
 refine we [(0,.slice A qs.length c),(1,.int .i64 (n:Int)),(2,.slice B s.length e)] func206 U ntmps206 U (.c3 U U U) ?_;have b7:=hs;have a8:=hk;have b9:=hu;refine sr (asg U (nn (sr (mv U (lnS U underlying23 (mv U (j2n U U U ?_)))))));rw[b3];refine z1h (m:=M) (c:=M) (iq0) U y4x j1o U (λa0 w1 d0 O q1 z1=>(asg U (nn (sr (mv U (mv U ?_))))));replace hs:=b7.ext q1;refine u2w (p:=0) (k:=qs.length) (m:=M) (cap:=M) (by rw[Nat.zero_mul,z4q];rfl) U O hs (Nat.zero_le _) oo y4x U (λw2 O q2 z2=>?_);replace O:Lw.Own z6t 30 a0 w2 (.slice (some ⟨a0,0,none⟩) M M) (qs++List.replicate (M-qs.length) iq0):=by simpa using O
 refine nn (jn (ι:=List IQ) [(7,_)] (λp=>[]) (λp w'=>Fr [a0] w2 w'/\Lw.Own z6t 30 w0.heap.size w' (.slice (some ⟨a0,0,none⟩) M M) p/\plB p=(if n=0 then plB qs else (x2c (plB qs) n).set (n-1) s)/\IqAt w' p/\z9p p) (.cons U .nil) ?_ ?_);refine sr (mv U (gt' U (nn (cd U (λc0=>?_) (λc0=>?_)))));refine rg (mv U (mv U (z2w U (wi6 oo) (mv U (z8n (p:=n-1) (E:=z6t) U U y4x (z5k (i:=n-1) ((((B,s.length,e),s):IQ)) U U O (by rw[List.length_append,List.length_replicate];omega) U u1e (λw3 O q3 z3=>?_)))))));refine kpL [(7,_)] (.cons U .nil) (nl ?_);replace hk:=a8.ext (q1.z2 q2 q3);replace hu:=b9.ext (q1.z2 q2 q3);exact jE (_) (.cons U .nil) ⟨((Fr.refl [a0] _).z1 q3),⟨O.low oo,u5b oo a6,v8m (x5e hk) hu,v7t (x5q h4) b8⟩⟩;refine sk ?_;replace hk:=a8.ext (q1.z1 q2);exact jE (_) (.cons U .nil) ⟨(Fr.refl _ _),⟨O.low oo,v7e oo a6,x5e hk,x5q h4⟩⟩;rintro rs w4 ⟨q4,⟨O,a9,a3,b6⟩⟩;have z4:=q4.size;have b0:=a3;refine kpC [(7,_)] (.cons U .nil) ?_;have d9:rs.length=M:=by have:=congrArg List.length a9;split at this<;>simp only[plB,List.length_map,List.length_set,y8s]at this<;>omega
 refine sr (mv U (mv U (cl (ev1 U) (mkC func91) (v5t _ rs _ O.sl a3) U ?_)));rintro _ w5 ⟨m,rfl,b4,b5,q5⟩;have z5:=q5.size;obtain⟨ls,I⟩:∃x,x=rs.take m:=⟨_,rfl⟩;refine v9w (p:=m) U U y4x oo oo oo U ?_;replace O:=O.ext q5;refine cl (ev1 U) (mkC func230) (u4l _ ls _ (by rw[I];exact O.sl.take U b4 oo (by unfold maxLen;omega) (λ_=>rfl)) (by rw[I,List.length_take];omega)) U ?_;rintro _ w6 ⟨D,rfl,d1,Z,q6⟩;have z6:=q6.size;have d7:ls.length<=40:=by rw[I,List.length_take];omega
 have b2:z9p ls:=λq hq=>b6 q (List.mem_of_mem_take (I▸hq));have d6:=(Z.blk D (by simp[z0v])).2;refine asg U (nn (sq (sr (mv U (lnS U underlying23 (mv U (nn (bl (lpK (ι:=Nat×List IQ) [(7,_),(30,_),(31,_)] (λp=>[(32,.int .i64 (p.1:Int))]) (λp w'=>Fr [D] w6 w'/\p.1<=ls.length/\Lw.Own z6t 30 w0.heap.size w' (.slice (some ⟨D,0,none⟩) ls.length ls.length) p.2/\plB p.2=plB ls/\(∀j,p.1<=j->p.2.getD j iq0=ls.getD j iq0)/\PreO 64 (D+1) w' p.2 p.1) (λp=>ls.length-p.1) (0,ls) (.c4 U U U U) ⟨Fr.refl _ _,⟨Nat.zero_le _,Z.low oo,rfl,λ_ _=>rfl,PreO.zero⟩⟩ ?_)))))))));rintro⟨i,ps⟩ w7 ⟨q7,⟨hi,Z,a2,a5,a1⟩⟩;simp only at hi Z a2 a5 a1;have z7:=q7.size;refine kpC [(7,_),(30,_),(31,_),(32,.int .i64 (i:Int))] (.c4 U U U U) ?_;have a4:ps.length=ls.length:=by have:=congrArg List.length a2;simpa using this
 refine sr (lt' U (nn (sq (cd U (λc1=>?_) (λc1=>?_)))));refine sk (tn (sq (bl (sr (mv U (z1d (iq0) U Z.sl U y4x z1j (λc9 a7=>?_)))))));refine z1k U (a7 _ Z.sl) z6h (asg U (asg U (nn (rg (mv U (mv U (mv U ?_)))))));replace a3:=b0.ext (q5.z2 q6 q7);refine cl (ev1 U) (mkC func83) (y8z _ (ps.getD i iq0).2 _ (by rw[a5 i (Nat.le_refl _)];exact z2b (v0l I a3) i) (by have:=z3n (u5z b2 a2) i;omega)) U ?_;rintro _ w8 ⟨b1,rfl,d3,hX,q8⟩;have z8:=q8.size;replace Z:=Z.ext q8;refine z8n (p:=i) (E:=z6t) U U y4x (z5k (i:=i) ((((some ⟨b1,0,none⟩,(ps.getD i iq0).2.length,(ps.getD i iq0).2.length),(ps.getD i iq0).2):IQ)) U U Z oo U u1e (λw9 Z q9 z9=>(kpL [(7,_),(30,_),(31,_),(32,_)] (.c4 U U U U) (nl (bn' (tn (rg (z0x U (wi6 oo) (mv U (nl ?_))))))))));replace a1:=(a1.ext q8).fr q9 (by intro k hk;simp at hk;omega);replace hX:=hX.fr q9 (by intro k hk hb;simp[z0v]at hk hb;omega);exact lpE ((i+1,_)) (.c4 U U U U) ⟨((Fr.refl [D] _).z3 q7 q8 q9),⟨sm,Z,(u6e (by rfl)).trans a2,v9g a5 oo,a1.put oo (hX.low oo)⟩⟩ sm;obtain rfl:i=ls.length:=by omega
 exact ex (te (te (xh (tn (sr (mv U (asg U (kpL [(6,_)] (.cons U .nil) (nn (rt (r1 results206 U ⟨_,rfl,⟨ps,⟨Z,(a4▸a1).all oo⟩,a2.trans (u6g I b5 a9),D,by rw[a4]⟩,(q1.z5 q2 q4 q5 q6 q7)⟩)))))))))))
theorem z4x:z3p prog 25 2:=⟨λ_=>kr,λ_=>kr⟩
theorem u6v:BuildAt prog 25 [(0,1),(1,1)] [(.slice none 0 0),(.slice none 0 0)]:=BuildAt.struct underlying25 (λ_=>kr) (λ_=>kr)
theorem y6o:z1c prog 25 0 0:=λ_ _=>kr
theorem y2q:z1c prog 25 1 1:=λ_ _=>kr
theorem x6v:z1y prog 23:=λ_=>kr
theorem y7s:z1t prog 25 2:=λ_=>kr
theorem x2z (w:World):(zeroValue 25).run prog w=.ok (.agg #[(.slice none 0 0),(.slice none 0 0)]) w:=kr
theorem y4c (q:BdQ)(b:Int)(n:Nat)(u:Value)(s:List LId)(w0:World)(hB:BdAt w0 q)(hu:Sl z1b w0 u s)(hn:z4g b (n:Int)=0)(hf:q.fs.length<=40)(hb:q.bs.length<=40)(h4:z9p q.fs)(b3:z9p q.bs)(b9:s.length<=4):Rets prog 162 #[.agg #[.slice q.f.1 q.f.2.1 q.f.2.2,.slice q.b.1 q.b.2.1 q.b.2.2],.agg #[.int .u8 b,.int .i64 (n:Int)],u] w0 λr w'=>(∃q':BdQ,r=.agg (bdL q').toArray/\BdO 30 64 w0.heap.size w' q'/\q'.p=q.p.put b (n:Int) s)/\Fr [] w0 w':=by
 have d5:=z3a hn;obtain⟨Us,e,rfl,d6⟩:=id hu.form;refine we [(0,.agg #[.slice q.f.1 q.f.2.1 q.f.2.2,.slice q.b.1 q.b.2.1 q.b.2.2]),(1,.agg #[.int .u8 b,.int .i64 (n:Int)]),(2,.slice Us s.length e)] func162 U ntmps162 U (.c3 U U U) ?_;have b4:=hB;have c1:=hu;refine sr (bx U (λg3 w1 d7 O q1 z1=>(bx U (λg4 w2 d9 I q2 z2=>(al x2z U (λg6 w3 e0 D q3 z3=>(nn (sq (sr (fad U z5w ?_))))))))));replace I:=I.ext q3;refine z0i U I U x2g (eq' U (nn (cd U (λc0=>?_) (λc0=>?_))));refine sq ?_;replace hB:=b4.ext (q1.n2 q2 q3);replace hu:=c1.ext (q1.n2 q2 q3);intro a h;refine z0h (some 10) (λwb w'=>Fr [] wb w') z2o ?_;intro w4 q4;have z4:=q4.size;replace hB:=hB.ext q4;replace hu:=hu.ext q4;replace O:=O.ext (q2.n2 q3 q4);replace I:=I.ext q4;replace D:=D.ext q4;have hC:Fr [] w4 w4:=Fr.refl _ _;have a8:=hB;have b2:=hu;have M:=O;have Z:=I;have a2:=D;refine z0c 0 h U y6o U λa h=>z0l 1 h U (λ_ hw=>M.ext hw) U x6v U λa h=>z0c 2 h U z5v U λa h=>z0l 3 h U (λ_ hw=>Z.ext hw) U na3 U λa h=>z0e 4 h U λa h=>z0c 6 h U y2q U λa h=>z0l 7 h U (λ_ hw=>M.ext hw) U x6v U λa h=>z0d 5 U (z0n h (z0a U (z0a U (z0a U z0g))) (mkC func206) (x4p _ _ q.fs n s _ hB.f hB.fi hu oo oo h4 b9) ?_);rintro _ w5 ⟨⟨a4,a0,b5,c9,rfl⟩,q5⟩ a h;have z5:=q5.size;replace hB:=hB.ext q5;replace hC:=hC.next q5;refine z0b (z0d 8 U (z0n h (z0a U (z0a U (z0a U z0g))) (mkC func206) (x4p _ _ q.bs 0 [] _ hB.b hB.bi (Sl.nil _) oo oo b3 (Nat.zero_le _)) ?_));rintro _ w6 ⟨⟨a5,a9,b6,d0,rfl⟩,q6⟩ a h;have z6:=q6.size;replace O:=O.ext (q5.n1 q6);replace I:=I.ext (q5.n1 q6);replace D:=D.ext (q5.n1 q6);replace a0:=a0.ext q6;replace hC:=hC.next q6;refine z0b (z2u (cs:=[_,_]) 9 h (z0a U (z0a U z0g)) u6v (z0f U (z0f U z0q)) U U λa h=>z0d 10 U ?_);refine z0p h U D U y7s λw7 b1 q7 hz a h=>?_;have z7:=q7.size;replace O:=O.fr q7;replace I:=I.fr q7;replace a0:=a0.fr q7 (by intro k hk;simp at hk;omega);replace a9:=a9.fr q7 (by intro k hk;simp at hk;omega);clear D hz;have D:Blk w7 g6 _ [_,_]:=b1;clear b1;refine z1n (z0r ?_);clear hC a8 b2 M Z a2;exact bk (h.sub (L':=[(6,_)]) (.cons U .nil)) (tn (rt (tr (rC results162 U D z4x  (⟨_,rfl,⟨⟨(some ⟨c9,0,none⟩,a4.length,a4.length),(some ⟨d0,0,none⟩,a5.length,a5.length),a4,a5⟩,rfl,⟨a0.low oo,a9.low oo⟩,by rw[<-j2k q.p n s oo,<-b5,<-b6]⟩,(q1.z6 q2 q3 q4 q5 q6 q7)⟩)))));refine sk (tn (sq ?_));replace hB:=b4.ext (q1.n2 q2 q3);replace hu:=c1.ext (q1.n2 q2 q3);intro a h;refine z0h (some 10) (λwb w'=>Fr [] wb w') z2o ?_;intro w8 q8;have z8:=q8.size;replace hB:=hB.ext q8;replace hu:=hu.ext q8;replace O:=O.ext (q2.n2 q3 q8);replace I:=I.ext q8;replace D:=D.ext q8;have hC:Fr [] w8 w8:=Fr.refl _ _;have a8:=hB;have b2:=hu;have M:=O;have Z:=I;have a2:=D;refine z0c 0 h U y6o U λa h=>z0l 1 h U (λ_ hw=>M.ext hw) U x6v U λa h=>z0c 3 h U y2q U λa h=>z0l 4 h U (λ_ hw=>M.ext hw) U x6v U λa h=>z0c 5 h U z5v U λa h=>z0l 6 h U (λ_ hw=>Z.ext hw) U na3 U λa h=>z0e 7 h U λa h=>z0d 2 U (z0n h (z0a U (z0a U (z0a U z0g))) (mkC func206) (x4p _ _ q.fs 0 [] _ hB.f hB.fi (Sl.nil _) oo oo h4 (Nat.zero_le _)) ?_);rintro _ w9 ⟨⟨a6,a1,b7,d1,rfl⟩,q9⟩ a h;have z9:=q9.size;replace hB:=hB.ext q9;replace hu:=hu.ext q9;replace hC:=hC.next q9;refine z0b (z0d 8 U (z0n h (z0a U (z0a U (z0a U z0g))) (mkC func206) (x4p _ _ q.bs n s _ hB.b hB.bi hu oo oo b3 b9) ?_));rintro _ e1 ⟨⟨a7,b0,b8,d3,rfl⟩,q10⟩ a h;have e2:=q10.size;replace O:=O.ext (q9.n1 q10);replace I:=I.ext (q9.n1 q10);replace D:=D.ext (q9.n1 q10);replace a1:=a1.ext q10;replace hC:=hC.next q10;refine z0b (z2u (cs:=[_,_]) 9 h (z0a U (z0a U z0g)) u6v (z0f U (z0f U z0q)) U U λa h=>z0d 10 U ?_);refine z0p h U D U y7s λd4 b1 a3 hz a h=>?_;have e3:=a3.size;replace O:=O.fr a3;replace I:=I.fr a3;replace a1:=a1.fr a3 (by intro k hk;simp at hk;omega);replace b0:=b0.fr a3 (by intro k hk;simp at hk;omega);clear D hz;have D:Blk d4 g6 _ [_,_]:=b1;clear b1;refine z1n (z0r ?_);clear hC a8 b2 M Z a2;exact bk (h.sub (L':=[(6,_)]) (.cons U .nil)) (tn (rt (rC results162 U D z4x  (⟨_,rfl,⟨⟨(some ⟨d1,0,none⟩,a6.length,a6.length),(some ⟨d3,0,none⟩,a7.length,a7.length),a6,a7⟩,rfl,⟨a1.low oo,b0.low oo⟩,by rw[<-j1t q.p n s oo,<-b7,<-b8]⟩,(q1.z6 q2 q3 q8 q9 q10 a3)⟩))))
theorem y4w (q:BdQ)(b p:Int)(w0:World)(hB:BdAt w0 q)(hp:-9223372036854775808<=p/\p<=9223372036854775807)(hf:q.fs.length<=40)(hb:q.bs.length<=40)(h4:z9p q.fs)(a6:z9p q.bs):Rets prog 33 #[.agg #[.slice q.f.1 q.f.2.1 q.f.2.2,.slice q.b.1 q.b.2.1 q.b.2.2],.agg #[.int .u8 b,.int .i64 p]] w0 λr w'=>Lw.Own z1b 64 w0.heap.size w' r (q.p.atC b p)/\Fr [] w0 w':=by
 refine we [(0,.agg #[.slice q.f.1 q.f.2.1 q.f.2.2,.slice q.b.1 q.b.2.1 q.b.2.2]),(1,.agg #[.int .u8 b,.int .i64 p])] func33 U ntmps33 U (.c2 U U) ?_;have a0:=hB;refine sr (bx U (λg2 w1 a8 M q1 z1=>(bx U (λg3 w2 a9 D q2 z2=>(asg U (nn (sq (sr (z0m U D z5r (cl (ev1 U) v6a (z4t _ _ _) U ?_))))))))));rintro _ w3 ⟨rfl,O⟩;have z3:=O.size;refine ne' U (nn (cd U (λc0=>?_) (λc0=>?_)));exact sr (asg U (nn (rt (tr (r1 results33 U ⟨_,rfl,by unfold Bd.atC;rw[if_neg c0];exact Own.nil _,(q1.n2 q2 O)⟩)))));refine sk (tn (sr (fad U y6o ?_)));replace M:=M.ext (q2.n1 O);refine z0i U M U x6v (asg U (nn (jn (ι:=Unit) [(3,_)] (λ_j=>[(5,.slice (q.sv b).1 (q.sv b).2.1 (q.sv b).2.2)]) (λ_j w'=>Fr [] w3 w') (.cons U .nil) ?_ ?_)));refine sr (fad U z5w ?_);replace D:=D.ext O;refine z0i U D U x2g (eq' U (nn (cd U (λZ=>?_) (λZ=>?_))));exact rg (fad U y2q (z0i U M U x6v (asg U (nl (jE (()) (.c2 U (by first|(rw[show q.sv b=q.b from if_pos Z];rfl)|(rw[show q.sv b=q.f from if_neg Z];rfl))) (Fr.refl _ _))))));exact sk (jE (()) (.c2 U (by first|(rw[show q.sv b=q.b from if_pos Z];rfl)|(rw[show q.sv b=q.f from if_neg Z];rfl))) (Fr.refl _ _));rintro _j w4 q4;have z4:=q4.size;refine kpC [(3,_),(5,_)] (.c2 U U) ?_;have b1:=z2e (a0.sel b).1;have b0:(q.l b).length<=40:=by unfold BdQ.l;split<;>assumption
 have a2:z9p (q.l b):=by unfold BdQ.l;split<;>assumption
 have I:z4g b p=0:=Classical.not_not.1 c0;have a7:=z3a I;refine sq (sr (fad U z5v ?_));replace D:=D.ext (O.n1 q4);refine z0i U D U na3 (mv U (lnS U underlying23 (gt' U (nn (cd U (λc2=>?_) (λc2=>?_))))));exact sr (asg U (nn (rt (tr (r1 results33 U ⟨_,rfl,by unfold Bd.atC;rw[if_pos I,<-q.at_l I,x5g oo];exact Own.nil _,(q1.n3 q2 O q4)⟩)))));refine sk (tn (sr (mv U (fad U z5v (z0i U D U na3 (z2w U (wi6 oo) ?_))))));replace hB:=a0.ext (q1.n3 q2 O q4);refine z1d (iq0) U (hB.sel b).1 U y4x z1j (λa3 a1=>?_);refine z1k U (a1 _ (hB.sel b).1) z6h (cl (ev1 U) (mkC func83) (y8z _ ((q.l b).getD (p-1).toNat iq0).2 _ (z2b (hB.sel b).2 _) (by have:=z3n a2 (p-1).toNat;omega)) U ?_);rintro _ w5 ⟨a5,rfl,a4,hX,q5⟩;have z5:=q5.size;exact asg U (kpL [(4,_)] (.cons U .nil) (nn (rt (r1 results33 U ⟨_,rfl,by unfold Bd.atC;rw[if_pos I,<-q.at_l I];exact hX.low oo,(q1.n4 q2 O q4 q5)⟩))))
end Go.Proofs.YtlfdhllfmoplgaaGreatDoor
namespace Go.Lw
open Go.RowKit
section
variable {P:Program} {n N:Nat} {ro:Option Nat} {L:List (Nat×Value)} {ds:List Nat} {w w':World} {Q:Exit->Act->World->Prop}
def KeepN (Ts B:List Nat)(b:Nat)(W W':World):Prop:=KeepT Ts B W W'/\KeepsFrom b W W'
theorem KeepsFrom.low {b D:Nat}(h:KeepsFrom b w w')(hb:b<=D):KeepsFrom D w w':=⟨h.size,λk o I=>h.same k o (Nat.le_trans hb I)⟩
theorem KeepN.trans {I B:List Nat}{b:Nat}{D:World}(h:KeepN I B b w w')(k:KeepN I B b w' D):KeepN I B b w D:=⟨h.1.trans k.1,h.2.trans k.2⟩
theorem KeepN.low {D B:List Nat}{b I:Nat}(h:KeepN D B b w w')(hb:b<=I):KeepN D B I w w':=⟨h.1,KeepsFrom.low h.2 hb⟩
theorem KeepN.refl {D B:List Nat}{b:Nat}:KeepN D B b w w:=⟨⟨λ_ _=>rfl,λ_ _ _ _ _ I=>I⟩,⟨Nat.le_refl _,λ_ _ _ h _=>h⟩⟩
def u9r {α:Type}(n:Nat)(P:Program)(g:Nat)(lb:Array Value)(encs:α->Array Value)(Kp:World->World->Prop)(S Sp Pf:List α->Prop)(M:Nat)(w:World):Prop:=
  ∀(l:Nat) (J Jx:List α->World->Prop) (W:World),Below w.heap.size w W->w.heap.size+2<=W.heap.size->(∀s A B,Turn W.heap.size A B->J s A->J s B)->(∀s A B,Turn W.heap.size A B->Jx s A->Jx s B)->
    (∀pre x W1,J pre W1->pre.length<M->Pf (pre++[x])->YieldAt (Fo none) (n-1) P l (encs x) W1 λe W'=>(e=.returned (.bool true)/\J (pre++[x]) W'/\Kp W1 W')\/(e=.returned (.bool false)/\Jx (pre++[x]) W'/\KeepsFrom (w.heap.size+2) W1 W'))->J [] W->
    CallsIn (Fo none) n P g (#[.func (.yield l) #[] #[]]++lb) W λe W'=>(∃v,e=.returned v)/\((∃xs,S xs/\J xs W')\/(∃pre,Sp pre/\Jx pre W'))
theorem Turn.of_fr {n0:Nat}(hf:Fr [] w w'):Turn n0 w w':=⟨none,⟨hf.os,hf.tape,hf.output,hf.size,λk D _=>hf.block k D sp0⟩,λr e=>by cases e⟩
theorem Turn.low {n0 n1:Nat}(h:Turn n0 w w')(hn:n1<=n0):Turn n1 w w':=let ⟨row,hg,hr⟩:=h;⟨row,hg,λr e=>let ⟨a,b⟩:=hr r e;⟨Nat.le_trans hn a,b⟩⟩
theorem Turn.put {n0 l:Nat}{o:Obj}(o':Obj)(hn:n0<=l)(hl:w.heap[l]?=some o)(D:o.isCells=false):Turn n0 w (w.putObj l o'):=⟨some l,grownBy_putObj' w l o',λr e=>by cases e;exact⟨hn,o,hl,D⟩⟩
theorem weIM {f:FuncId}{fn:Func}{c:Code}{args:Array Value}{R:Ending->World->Prop}(L:List (Nat×Value))(hf:P.funcs[f]?=some fn)(hb:fn.body=some c)(hn:fn.ntmps=n)(I:Nat.ble args.size n=true)(D:argsOk args L)
    (h:CWi none N P (bodyPostM (Fo none) N P fn R) c n [] w L):CallsIn (Fo none) N P f args w R:=by
  have M:args.size<=n:=by simpa[Nat.ble_eq] using I
  refine callsIn_of_wp_marks hf hb trivial (h _ ⟨rfl,by simp[hn];omega,λt v Z=>?_⟩)
  have:=argsOk.look D Z
  simp only[Array.getD_eq_getD_getElem?,Array.getElem?_append]
  have O:t<args.size:=by
    rcases Nat.lt_or_ge t args.size with h|h
    · exact h
    · rw[Array.getElem?_eq_none h]at this;cases this
  rw[if_pos O,this];rfl
theorem u9w {α:Type}{g:Operand}{ps:Array Tmp}{assign body:Code}{gf:Nat}{lb:Array Value}(hg:ev L g=some (.func (.func gf) #[] lb))(eg:CallOf P gf)
    {encs:α->Array Value} {Ts B:List Nat} {S Sp Pf:List α->Prop} {M:Nat} (hN:1<=N) (hseq:u9r (N-1) P gf lb encs (KeepN Ts B (w.heap.size+2)) S Sp Pf M w) (hB:∀b∈B,b<w.heap.size)
    (hps:∀x,(encs x).size=ps.size) (Lq:α->List (Nat×Value)) (hLq:∀x,(ps.zip (encs x)).toList.reverse=Lq x) (hpn:∀x,(Lq x).all (λp=>Nat.blt p.1 n)=true)
    (I Ir:List α->World->Prop) (hI:∀s W W',Turn w.heap.size W W'->I s W->I s W') (hIr:∀s W W',Turn w.heap.size W W'->Ir s W->Ir s W') (h0:I [] w)
    (Ax:α->Act->World->Prop) (hAx:∀x a' W W',Turn w.heap.size W W'->Ax x a' W->Ax x a' W')
    (hassign:∀(l:Nat) (Z:List α) (x:α) (W:World),I Z W->CWi (some l) (N-1-1) P (Exit.then (λa' W'=>Ax x a' W'/\Fr [] W W') (λ_ _ _=>False)) assign n [] W (Lq x++L))
    (hbody:∀(l:Nat) (Z:List α) (x:α) (a':Act) (W:World),w.heap.size<=l->Ax x a' W->I Z W->Z.length<M->Pf (Z++[x])->body.wpIn (Fo (some l)) (N-1-1) P (ownPostG w.heap.size (KeepT Ts B) I (λc s W=>c=.ret/\Ir s W) (Z++[x]) W) a' W)
    (hdone:∀(D:Nat) (xs:List α) (W:World),w.heap.size<=D->S xs->I xs W->DefAt D W->EW Q .normal n (D::ds) W L)
    (hstop:∀(D:Nat) (Z:List α) (W:World),w.heap.size<=D->Sp Z->Ir Z W->DefAt D W->EW Q .ret n (D::ds) W L):CWi none N P Q (.rangeFunc g ps assign body) n ds w L:=by
  intro a h
  obtain⟨D,hD⟩:∃D,D=w.heap.size:=⟨_,rfl⟩
  have b6:AgM (D::ds) { a with defers:={ target:=.collected D,args:=#[] }::a.defers } n L:=⟨by simp[h.dfr,mark],h.size,h.at_⟩
  refine wpIn_rangeFunc λfn c9=>?_
  obtain⟨a0,O⟩:∃a0:LoopState->Option Code->Loop,a0=λst pe=>{ state:=st,pending:=pe,fn,tmps:=a.tmps,params:=ps,assign,body,defers:=D }:=⟨_,rfl⟩
  obtain⟨W1,a5⟩:∃W1,W1=(w.alloc (.deferred (some []))).alloc (.loop (a0 .ready none)):=⟨_,rfl⟩
  -- the two blocks of the book-keeping,in a world
  let Bk:LoopState->Option Code->World->Prop:=λst pe W=>W.heap[D+1]?=some (.loop (a0 st pe))/\DefAt D W
  have z1:W1.heap.size=D+2:=by rw[a5,World.size_alloc,World.size_alloc,hD]
  have b3:Bk .ready none W1:=by
    refine⟨?_,?_⟩
    · rw[a5];have:=World.alloc_heap_new (w.alloc (.deferred (some []))) (.loop (a0 .ready none));rwa [World.size_alloc,<-hD]at this
    · rw[a5,hD];exact(Below.heap_alloc _ _ _ sp0).trans (World.alloc_heap_new w _)
  have b2:Below w.heap.size w W1:=by rw[a5];exact((Below.refl _ w).alloc (Nat.le_refl _) _).alloc sp0 _
  have c1:Fr [] w W1:=Fr.of_below' b2 (Nat.le_refl _)
  have b0:∀ {st pe A B},Turn (D+2) A B->Bk st pe A->Bk st pe B:=λht hb=>⟨ht.at hb.1 (.inr oo),ht.at hb.2 (.inr oo)⟩
  have a8:∀ {st pe b8 b7 A},Bk st pe A->Bk b8 b7 (A.putObj (D+1) (.loop (a0 b8 b7))):=λhb=>⟨World.putObj_heap_same (Array.getElem?_eq_some_iff.1 hb.1).1,(World.putObj_heap_other oo).trans hb.2⟩
  have a4:∀ {st pe A} (o':Obj),Bk st pe A->Turn w.heap.size A (A.putObj (D+1) o'):=λo' hb=>Turn.put o' oo hb.1 U
  have a7:∀ {st pe A} (o':Obj),Bk st pe A->KeepN Ts B (w.heap.size+2) A (A.putObj (D+1) o'):=λo' hb=>⟨KeepT.put hb.1 U (λb hb=>by have:=hB b hb;omega),⟨(grownBy_putObj' _ _ _).size,λk o hk ho _=>(World.putObj_heap_other oo).trans ho⟩⟩
  refine⟨D+1,[{ target:=.collected D,args:=#[] }],W1,{ target:=.fn (.func gf) lb,args:=#[.func (.yield (D+1)) #[] #[]] },W1,gf,#[.func (.yield (D+1)) #[] #[]]++lb,W1,?_,?_,?_,?_,λ_=>hN,?_⟩
  · rw[a5,O,hD];exact run_enterLoop_outer _ _ _ _ _
  · simp only[resolve,h.eval hg];simp[go_sem]
  · intro f' _;trivial
  · have he:=eg (#[.func (.yield (D+1)) #[] #[]]++lb) W1
    simpa[invoke,go_sem] using he
  refine(hseq (D+1) (λs W=>I s W/\Bk .ready none W) (λs W=>Ir s W/\Bk .done (some .ret) W) W1 b2 oo (λs A B ht hs=>⟨hI s A B (ht.low oo) hs.1,b0 (z1▸ht) hs.2⟩) (λs A B ht hs=>⟨hIr s A B (ht.low oo) hs.1,b0 (z1▸ht) hs.2⟩) ?_ ⟨hI _ _ _ (Turn.of_fr c1) h0,b3⟩).mono ?_
  · rintro Z x W ⟨hi,hb⟩ b5 d3
    have hy:=run_yield (P:=P) (args:=encs x) hb.1 (by rw[O];exact hps x)
    rw[O]at hy
    refine⟨fn,_,assign,body,hy,roundIn_of_wpIn c9 (wpIn_mono (Q:=Exit.then (λa' W'=>Ax x a' W'/\Fr [] W W') (λ_ _ _=>False)) ?_ ?_)⟩
    · have hp:=v2m h (ps.zip (encs x)).toList (by have:=hpn x;rw[<-hLq,List.all_reverse]at this;exact this)
      rw[hLq]at hp
      have e:({ tmps:=(ps.zip (encs x)).foldl (λt (p:Nat×Value)=>t.setIfInBounds p.1 p.2) a.tmps,defers:=[] }:Act)={ tmps:=(ps.zip (encs x)).toList.foldl (λt p=>t.setIfInBounds p.1 p.2) a.tmps,defers:=[] }:=by
        rw[<-Array.foldl_toList]
      exact hassign _ Z x W hi _ (by rw[<-e]at hp;exact hp)
    · clear hy
      rintro e a' W2 he
      cases e with
      | normal=>
        obtain⟨b9,hf⟩:=he
        have d0:=hI _ _ _ (Turn.of_fr hf) hi
        have a2:Bk .ready none W2:=⟨(hf.block _ (Array.getElem?_eq_some_iff.1 hb.1).1 sp0).trans hb.1,hb.2.ext hf⟩
        have b4:KeepN Ts B (w.heap.size+2) W W2:=⟨KeepT.ext hf (λb h=>by
          have:=hB b h
          have:=(Array.getElem?_eq_some_iff.1 hb.1).1;omega),⟨hf.size,λk o _ ho _=>(hf.block k (Array.getElem?_eq_some_iff.1 ho).1 sp0).trans ho⟩⟩
        have c0:(Instr.beginRound (D+1)).run P W2=.ok () (W2.putObj (D+1) (.loop (a0 .busy none))):=by
          have:=run_beginRound (P:=P) a2.1 (by rw[O])
          rw[O]at this ⊢;exact this
        refine⟨_,c0,wpIn_mono (hbody (D+1) Z x a' _ oo (hAx _ _ _ _ (a4 _ a2) b9) (hI _ _ _ (a4 _ a2) d0) b5 d3) ?_⟩
        have b1:Bk .busy none (W2.putObj (D+1) (.loop (a0 .busy none))):=a8 a2
        have keep:∀ {W3:World},KeepsFrom w.heap.size (W2.putObj (D+1) (.loop (a0 .busy none))) W3->Bk .busy none W3:=λhk=>⟨hk.same _ _ oo b1.1 U,hk.same _ _ oo b1.2 U⟩
        rintro e a3 W3 hp
        cases e with
        | normal=>
          obtain⟨a6,d1,a9⟩:=hp
          have a1:=keep a6
          have hr:(Instr.endRound (D+1) none).run P W3=.ok (.bool true) (W3.putObj (D+1) (.loop (a0 .ready none))):=by
            have:=run_endRound (P:=P) none a1.1
            rw[O]at this ⊢;exact this
          exact⟨_,_,hr,.inl ⟨rfl,⟨hI _ _ _ (a4 _ a1) a9,a8 a1⟩,(b4.trans (a7 _ a2)).trans (KeepN.trans ⟨d1,KeepsFrom.low a6 oo⟩ (a7 _ a1))⟩⟩
        | ret=>
          obtain⟨a6,_,a9⟩:=hp
          have a1:=keep a6
          have hr:(Instr.endRound (D+1) (some .ret)).run P W3=.ok (.bool false) (W3.putObj (D+1) (.loop (a0 .done (some .ret)))):=by
            have:=run_endRound (P:=P) (some .ret) a1.1
            rw[O]at this ⊢;exact this
          exact⟨_,_,hr,.inr ⟨rfl,⟨hIr _ _ _ (a4 _ a1) a9,a8 a1⟩,(b4.2.trans (a7 _ a2).2).trans ((KeepsFrom.low a6 oo).trans (a7 _ a1).2)⟩⟩
        | exit id=>exact absurd hp.2.1 sp0
        | goto t=>exact absurd hp.2.1 sp0
        | panic ch=>exact hp.elim
        | outgrown=>exact hp.elim
      | _=>exact he.elim
  · rintro e W2 ⟨⟨v,rfl⟩,(⟨xs,hS,hi,hb⟩|⟨Z,hS,hi,hb⟩)⟩
    · have hr:=run_endLoop (P:=P) hb.1 (by rw[O];simp)
      rw[O]at hr
      exact⟨none,_,hr,hdone D xs _ oo hS (hI _ _ _ (a4 _ hb) hi) ((World.putObj_heap_other oo).trans hb.2) _ b6⟩
    · have hr:=run_endLoop (P:=P) hb.1 (by rw[O];simp)
      rw[O]at hr
      exact⟨some .ret,_,hr,wpIn_ret (hstop D Z _ oo hS (hIr _ _ _ (a4 _ hb) hi) ((World.putObj_heap_other oo).trans hb.2) _ b6)⟩
theorem v2k {α:Type}{g:Operand}{ps:Array Tmp}{Z a0:Code}{gf:Nat}{lb:Array Value}(hg:ev L g=some (.func (.func gf) #[] lb))(eg:CallOf P gf)
    {encs:α->Array Value} {Ts B:List Nat} {S Sp Pf:List α->Prop} {M:Nat} (hN:1<=N) (hseq:u9r (N-1) P gf lb encs (KeepN Ts B (w.heap.size+2)) S Sp Pf M w) (hB:∀b∈B,b<w.heap.size)
    (hps:∀x,(encs x).size=ps.size) (Lq:α->List (Nat×Value)) (hLq:∀x,(ps.zip (encs x)).toList.reverse=Lq x) (hpn:∀x,(Lq x).all (λp=>Nat.blt p.1 n)=true)
    (I Ir:List α->World->Prop) (hI:∀s W W',Turn w.heap.size W W'->I s W->I s W') (hIr:∀s W W',Turn w.heap.size W W'->Ir s W->Ir s W') (h0:I [] w)
    (Lx:α->List (Nat×Value)) (K:List (Nat×Value)) (_hK:Sub K L)
    (hassign:∀(l:Nat) (O:List α) (x:α) (W:World),I O W->CWi (some l) (N-1-1) P (Exit.then (AsU n W (Lx x++K)) (λ_ _ _=>False)) Z n [] W (Lq x++L))
    (hbody:∀(l:Nat) (O:List α) (x:α) (W:World),w.heap.size<=l->I O W->O.length<M->Pf (O++[x])->CWi (some l) (N-1-1) P (ownPostG w.heap.size (KeepT Ts B) I (λc s W=>c=.ret/\Ir s W) (O++[x]) W) a0 n [] W (Lx x++K))
    (hdone:∀(D:Nat) (xs:List α) (W:World),w.heap.size<=D->S xs->I xs W->DefAt D W->EW Q .normal n (D::ds) W L)
    (hstop:∀(D:Nat) (O:List α) (W:World),w.heap.size<=D->Sp O->Ir O W->DefAt D W->EW Q .ret n (D::ds) W L):CWi none N P Q (.rangeFunc g ps Z a0) n ds w L:=
  u9w hg eg hN hseq hB hps Lq hLq hpn I Ir hI hIr h0 (λx a' _=>AgM [] a' n (Lx x++K)) (λ_ _ _ _ _ h=>h)
    (λl O x W hi a ha=>wpIn_mono (hassign l O x W hi a ha) (λe a' W' he=>by
      cases e with
      | normal=>obtain⟨h1,rfl⟩:=he;exact⟨h1,Fr.refl _ _⟩
      | _=>exact he.elim)) (λl O x a' W hl hx hi hm hp=>hbody l O x W hl hi hm hp a' hx) hdone hstop
theorem j4g {α:Type}{g:Operand}{ps:Array Tmp}{Z a0:Code}{gf:Nat}{lb:Array Value}(hg:ev L g=some (.func (.func gf) #[] lb))(eg:CallOf P gf)
    {encs:α->Array Value} {Ts B:List Nat} {S Sp Pf:List α->Prop} {M:Nat} (hN:1<=N) (hseq:u9r (N-1) P gf lb encs (KeepN Ts B (w.heap.size+2)) S Sp Pf M w) (hB:∀b∈B,b<w.heap.size)
    (hps:∀x,(encs x).size=ps.size) (Lq:α->List (Nat×Value)) (hLq:∀x,(ps.zip (encs x)).toList.reverse=Lq x) (hpn:∀x,(Lq x).all (λp=>Nat.blt p.1 n)=true)
    (I Ir:List α->World->Prop) (hI:∀s W W',Turn w.heap.size W W'->I s W->I s W') (hIr:∀s W W',Turn w.heap.size W W'->Ir s W->Ir s W') (hBI:∀s W,I s W->w.heap.size<=W.heap.size) (h0:I [] w)
    (T:TypeId) (E1:α->List Value) (Lx:Nat->α->List (Nat×Value)) (K:List (Nat×Value)) (_hK:Sub K L)
    (hassign:∀(l:Nat) (O:List α) (x:α) (W:World),I O W->w.heap.size<=W.heap.size->CWi (some l) (N-1-1) P (Exit.then (AsK n w.heap.size W T (E1 x) (λg=>Lx g x++K)) (λ_ _ _=>False)) Z n [] W (Lq x++L))
    (hbody:∀(l:Nat) (O:List α) (x:α) (g:Nat) (W:World),w.heap.size<=l->w.heap.size<=g->Blk W g T (E1 x)->I O W->O.length<M->Pf (O++[x])->CWi (some l) (N-1-1) P (ownPostG w.heap.size (KeepT Ts B) I (λc s W=>c=.ret/\Ir s W) (O++[x]) W) a0 n [] W (Lx g x++K))
    (hdone:∀(D:Nat) (xs:List α) (W:World),w.heap.size<=D->S xs->I xs W->DefAt D W->EW Q .normal n (D::ds) W L)
    (hstop:∀(D:Nat) (O:List α) (W:World),w.heap.size<=D->Sp O->Ir O W->DefAt D W->EW Q .ret n (D::ds) W L):CWi none N P Q (.rangeFunc g ps Z a0) n ds w L:=
  u9w hg eg hN hseq hB hps Lq hLq hpn I Ir hI hIr h0 (λx a' W=>∃g,w.heap.size<=g/\AgM [] a' n (Lx g x++K)/\Blk W g T (E1 x)) (λx a' W W' ht ⟨g,h1,h2,h3⟩=>⟨g,h1,h2,h3.turn ht⟩)
    (λl O x W hi a ha=>wpIn_mono (hassign l O x W hi (hBI _ _ hi) a ha) (λe a' W' he=>by
      cases e with
      | normal=>obtain⟨g,h1,h2,h3,hf⟩:=he;exact⟨⟨g,h1,h2,h3⟩,hf⟩
      | _=>exact he.elim)) (λl O x a' W hl ⟨g,h1,h2,h3⟩ hi hm hp=>hbody l O x g W hl h1 h3 hi hm hp a' h2) hdone hstop
theorem u6y {α:Type}{B0:Nat}{Ts B S:List Nat}{I:List α->World->Prop}{Ix:Code->List α->World->Prop}{xs:List α}{W:World}(hf:Fr S W w)(hS:∀k∈S,k<W.heap.size->(∃cs T f,W.heap[k]?=some (.cells cs T f)/\T∉Ts)\/(k<B0/\x4c W k))(hB:∀b∈B,b<W.heap.size)(hd:∀b∈B,b∉S)(hI:I xs w):EW (ownPostG B0 (KeepT Ts B) I Ix xs W) .normal n ds w L:=
 λ_ _=>⟨⟨hf.size,λk o hk O M=>(hf.block k (Array.getElem?_eq_some_iff.1 O).1 (λe=>by
  rcases hS k e (Array.getElem?_eq_some_iff.1 O).1 with ⟨cs,T,f,D,_⟩|⟨D,_⟩
  ·rw[O]at D;cases D;cases M
  ·omega)).trans O⟩,⟨Keep.fr hf hB hd,λb cs T f hT M=>(hf.block b (Array.getElem?_eq_some_iff.1 M).1 (λe=>by
  rcases hS b e (Array.getElem?_eq_some_iff.1 M).1 with ⟨a0,T',f',D,Z⟩|⟨_,o,D,Z⟩
  ·rw[M]at D;cases D;exact Z hT
  rw[M]at D;cases D;cases Z)).trans M⟩,hI⟩
theorem rndR {α:Type}{O:Nat}{Kp:World->World->Prop}{S:List Nat}{I Z:List α->World->Prop}{xs:List α}{W:World}(hf:Fr S W w)(hS:∀k∈S,k<W.heap.size->(∃cs T f,W.heap[k]?=some (.cells cs T f))\/k<O)(hI:Z xs w):EW (ownPostG O Kp I (λc s W=>c=.ret/\Z s W) xs W) .ret n ds w L:=
 λ_ _=>⟨⟨hf.size,λk o hk D hc=>(hf.block k (Array.getElem?_eq_some_iff.1 D).1 (λe=>by
  rcases hS k e (Array.getElem?_eq_some_iff.1 D).1 with ⟨cs,T,f,M⟩|M
  ·rw[D]at M;cases M;cases hc
  omega)).trans D⟩,rfl,hI⟩
theorem rndK {α:Type}{D:Nat}{M:World->World->Prop}{I:List α->World->Prop}{O:Code->List α->World->Prop}{xs:List α}{W:World}(h1:KeepsFrom D W w)(Z:M W w)(h3:I xs w):EW (ownPostG D M I O xs W) .normal n ds w L:=λ_ _=>⟨h1,Z,h3⟩
theorem rndX {α:Type}{D:Nat}{O:World->World->Prop}{I M:List α->World->Prop}{xs:List α}{W:World}(h1:KeepsFrom D W w)(Z:M xs w):EW (ownPostG D O I (λc s W=>c=.ret/\M s W) xs W) .ret n ds w L:=λ_ _=>⟨h1,rfl,Z⟩
theorem Turn.of_mark {n0 D:Nat}(hf:Fr [D] w w')(I:DefAt D w)(hn:n0<=D):Turn n0 w w':=⟨some D,⟨hf.os,hf.tape,hf.output,hf.size,λk M hn=>hf.block k M (by simpa using hn)⟩,λr e=>by cases e;exact⟨hn,_,I,rfl⟩⟩
def YKr (r:Option Nat)(P:Program)(n:Nat)(ds:List Nat)(ops:Array Oper)(rest:List Oper)(Q:Exit->Act->World->Prop)(d:Nat)(y:Operand)(xs:List Operand):Act->World->Prop:=λa w=>
  ∃(L:List (Nat×Value)) (vs:List Value) (y1:Nat) (Φ:Value->World->Prop),AgM ds a n L/\ev L y=some (.func (.yield y1) #[] #[])/\evs L xs vs/\YieldAt (Fo r) 0 P y1 vs.toArray w (λe w'=>∃v,e=.returned v/\Φ v w')/\Nat.blt d n=true/\
    ∀v w',Φ v w'->WL P ops (z0s (Q .normal)) rest n ds w' ((d,v)::L)
theorem j2h {id:Nat}{l:List Oper}(k:Nat){d:Nat}{y:Operand}{xs:List Operand}{ts:Array TypeId}{ty:TypeId}{pos:String}{after:Array Edge}
    (hl:l=l.take k++⟨some d,.call ⟨.value y,xs.toArray,ts⟩,ty,pos,after,none⟩::l.drop (k+1)) (hd1:(l.take k).all Oper.noDefer=true) (hd2:(l.drop (k+1)).all Oper.noDefer=true) (hnf:∀g,y≠.func g)
    (h1:WL P l.toArray (z0s (YKr ro P n ds l.toArray (l.drop (k+1)) Q d y xs)) (l.take k) n ds w L):CWi ro N P Q (.region id l.toArray false) n ds w L:=by
  intro a ha
  refine wpIn_region_lit ?_
  have Z:wpListIn (Fo ro) N P l.toArray Q (l.take k++⟨some d,.call ⟨.value y,xs.toArray,ts⟩,ty,pos,after,none⟩::l.drop (k+1)) a w:=by
    refine y4n _ ?_ _ a w hd1 (h1 a ha)
    rintro a w ⟨L,vs,y1,Φ,h,hy,hx,⟨fn,tm,D,bd,I,M,O⟩,hn,hk⟩
    have hR:RoundIn (Fo ro) (N-1) P y1 fn tm D bd w (λe w'=>∃v,e=.returned v/\Φ v w'):=⟨M,λc cs _=>O c cs (λd hd=>by cases hd)⟩
    unfold wpListIn
    rw[if_pos (by simp[Region.wanted])]
    refine⟨λ_ _=>trivial,?_⟩
    have e:(Oper.semAt (Fo ro).round a.eval ⟨some d,.call ⟨.value y,xs.toArray,ts⟩,ty,pos,after,none⟩).run P w=.ok (.round y1 fn tm D bd) w:=by
      rw[u0y (by rfl)]
      simp only[execOp,resolve,h.eval hy,Deferred.ofValue,Sem.run_bind,Sem.run_pure,Result.andThen_ok,invoke,List.map_toArray,h.evals hx,List.append_toArray]
      simpa using I
    rw[e]
    refine⟨λe=>by simp[Fo,Fence.wide]at e,hR.mono ?_⟩
    rintro e w' ⟨v,rfl,hv⟩
    have:=y4n (r:=ro) (N:=N) (Q:=Q) (ops:=l.toArray) [] (λa w h=>wpListIn_nil h) (l.drop (k+1)) (a.put (some d) v) w' hd2 (hk v w' hv _ (h.put hn v))
    rwa [List.append_nil]at this
  rwa [<-hl]at Z
theorem j3q {d:Nat}{y:Operand}{xs:List Operand}{vs:List Value}{D:Nat}{Φ:Value->World->Prop}{ops:Array Oper}{rest:List Oper}(O:ev L y=some (.func (.yield D) #[] #[]))(M:evs L xs vs)(I:YieldAt (Fo ro) 0 P D vs.toArray w (λe w'=>∃v,e=.returned v/\Φ v w'))(hn:Nat.blt d n=true)
    (k:∀v w',Φ v w'->WL P ops (z0s (Q .normal)) rest n ds w' ((d,v)::L)) {ops':Array Oper}:WL P ops' (z0s (YKr ro P n ds ops rest Q d y xs)) [] n ds w L:=
  λ_ h=>v9s (Q:=λ_=>YKr ro P n ds ops rest Q d y xs) ⟨L,vs,D,Φ,h,O,M,I,hn,k⟩
theorem j1v {α:Type}{l m:Nat}{J Jx:List α->World->Prop}{I:α->Array Value}{Kp Kx:World->World->Prop}{Pf:List α->Prop}{M:Nat}{D:List α}{x:α}{vs:List Value}(a0:∀D x O,J D O->D.length<M->Pf (D++[x])->YieldAt (Fo none) m P l (I x) O λe W'=>(e=.returned (.bool true)/\J (D++[x]) W'/\Kp O W')\/(e=.returned (.bool false)/\Jx (D++[x]) W'/\Kx O W'))
    (hJ:J D w) (hM:D.length<M) (hp:Pf (D++[x])) (he:vs.toArray=I x):YieldAt (Fo ro) 0 P l vs.toArray w (λe w'=>∃v,e=.returned v/\(v=.bool true/\J (D++[x]) w'/\Kp w w'\/v=.bool false/\Jx (D++[x]) w'/\Kx w w')):=by
  rw[he]
  obtain⟨fn,tm,Z,bd,h1,h2,h3⟩:=a0 D x w hJ hM hp
  refine⟨fn,tm,Z,bd,h1,h2,λc cs _=>?_⟩
  obtain⟨e,w',hr,hc⟩:=h3 c cs (λd hd=>by cases hd)
  refine⟨e,w',?_,hc⟩
  rcases hr with ⟨rfl,h⟩|⟨rfl,h⟩
  · exact⟨_,rfl,.inl ⟨rfl,h⟩⟩
  · exact⟨_,rfl,.inr ⟨rfl,h⟩⟩
theorem v9y {A B C:Nat}(h1:DefAt A w)(I:DefAt B w)(M:DefAt C w):∀D∈[A,B,C],w.heap[D]?=some (.deferred (some [])):=λD h=>by
 simp only[List.mem_cons,List.not_mem_nil,or_false]at h
 rcases h with rfl|rfl|rfl
 ·exact h1
 ·exact I
 exact M
theorem z7n {fn:Func}{R:Ending->World->Prop}{I:Array Value}{v:Value}:∀(ds:List Nat) (w:World),(∀D∈ds,w.heap[D]?=some (.deferred (some [])))->ds.Nodup->(∀w',Fr ds w w'->(results fn I).run P w'=.ok v w')->
    (∀w',Fr ds w w'->R (.returned v) w')->LeavesInM (Fo none) N P fn I R (ds.map mark) .returning w
  | [],w,_,_,hv,k=>⟨v,hv w (Fr.refl _ _),k w (Fr.refl _ _)⟩
  | D::ds,w,hD,hnd,hv,k=>by
    refine⟨sp0,.inl ⟨D,_,rfl,run_takeDeferred (hD D sp0),?_⟩⟩
    rw[List.nodup_cons]at hnd
    have hf:Fr [D] w (w.putObj D (.deferred none)):=⟨rfl,rfl,rfl,sp0,λk _ hk=>World.putObj_heap_other (by simpa using hk)⟩
    refine z7n ds _ (λZ O=>?_) hnd.2 (λw' M=>hv w' (hf.trans M)) (λw' M=>k w' (hf.trans M))
    rw[World.putObj_heap_other (by rintro rfl;exact hnd.1 O)];exact hD Z (by simp[O])
variable {R:Ending->World->Prop} {fn:Func} {p pt q g:Nat} {T:TypeId} {cs:List Value} {v z:Value}
theorem v5m {D:Nat}(hb:Blk w g T cs)(I:w.heap[D]?=some (.deferred (some []))):g≠D:=by
 rintro rfl;rw[show w.heap[g]?=_ from hb]at I;cases I
theorem x0c (hb:Blk w g T cs)(I:∀D∈ds,w.heap[D]?=some (.deferred (some [])))(hf:Fr ds w w'):Blk w' g T cs:=hb.fr hf λh=>v5m hb (I g h) U
theorem rM1c (hr:fn.results=#[.cell p pt])(hp:look L p=some (.pointer (some ⟨g,0,none⟩)))(hb:Blk w g T [v])(hg:z1y P pt)(O:∀D∈ds,w.heap[D]?=some (.deferred (some [])))(I:ds.Nodup)(k:∀w',Fr ds w w'->R (.returned v) w'):EW (bodyPostM (Fo none) N P fn R) .ret n ds w L:=λa h=>by
 show LeavesInM _ _ _ _ _ _ a.defers _ _
 rw[h.dfr]
 refine z7n ds w O I (λw' hf=>?_) k
 have M:=h.at_ p _ hp
 simp only[Array.getD_eq_getD_getElem?]at M
 have Z:w'.cell? ⟨g,0,none⟩=some v:=(x0c hb O hf).cells 0 v U
 simp[results,hr,M,asAddr,loadVar,hg w',Z]
theorem rMCT (hr:fn.results=#[.cell p pt,.tmp q])(hp:look L p=some (.pointer (some ⟨g,0,none⟩)))(hb:Blk w g T cs)(hg:z3p P pt cs.length)(hv:look L q=some v)(Z:∀D∈ds,w.heap[D]?=some (.deferred (some [])))(I:ds.Nodup)(k:∀w',Fr ds w w'->R (.returned (.tuple #[.agg cs.toArray,v])) w'):EW (bodyPostM (Fo none) N P fn R) .ret n ds w L:=λa h=>by
 show LeavesInM _ _ _ _ _ _ a.defers _ _
 rw[h.dfr]
 refine z7n ds w Z I (λw' hf=>?_) k
 have M:=h.at_ p _ hp
 have O:=h.at_ q _ hv
 simp only[Array.getD_eq_getD_getElem?]at M O
 simp[results,hr,M,O,asAddr,loadVar,hg.1 w',hg.2 w',run_loadCells_list w' _ cs (x0c hb Z hf).cells]
end
end Go.Lw
namespace Go.G08
open Go.Lw Go.G21
def bdE (q:BdQ)(x:Bool):Array Value:=#[.int .u8 (if x then 1 else 0),slv (if x then q.b else q.f)]
abbrev BdQ.h (q:BdQ)(x:Bool):SV:=if x then q.b else q.f
abbrev BdQ.r (q:BdQ)(x:Bool):List IQ:=if x then q.bs else q.fs
abbrev y2y (x:Bool):Int:=if x then 1 else 0
def ndE (q:BdQ)(x:Bool×Nat):Array Value:=#[.agg #[.int .u8 (y2y x.1),.int .i64 ((x.2:Int)+1)],slv ((q.r x.1).getD x.2 iq0).1]
def ndR (q:BdQ)(x:Bool)(i:Nat):List (Bool×Nat):=(List.range i).map λk=>(x,k)
def ndP (q:BdQ)(l:List Bool):List (Bool×Nat):=l.flatMap λx=>ndR q x (q.r x).length
theorem x4f (q:BdQ)(x:Bool)(i:Nat):ndR q x (i+1)=ndR q x i++[(x,i)]:=by unfold ndR;rw[List.range_succ,List.map_append];rfl
theorem v0x (q:BdQ)(x:Bool)(i:Nat):(ndR q x i).length=i:=by simp[ndR]
theorem v5e (q:BdQ)(l:List Bool)(x:Bool):ndP q (l++[x])=ndP q l++ndR q x (q.r x).length:=by unfold ndP;simp
theorem v0y (q:BdQ)(hf:q.fs.length<=40)(hb:q.bs.length<=40):∀l:List Bool,(ndP q l).length<=40*l.length
 | []=>by simp[ndP]
 | x::l=>by
  have D:=v0y q hf hb l
  have:(q.r x).length<=40:=by cases x<;>assumption
  have e:ndP q (x::l)=ndR q x (q.r x).length++ndP q l:=rfl
  rw[e,List.length_append,v0x,List.length_cons];omega
theorem u7k {q:BdQ}{l:List Bool}{x:Bool}{i:Nat}(h:l++[x] <+: [false,true])(M:i<(q.r x).length):(ndP q l++ndR q x i)++[(x,i)] <+: ndP q [false,true]:=by
 obtain⟨r,I⟩:=h;have e:ndP q [false,true]=ndP q l++(ndR q x (q.r x).length++ndP q r):=by
  rw[<-I];unfold ndP;simp[List.flatMap_append]
 have D:ndR q x (q.r x).length=ndR q x (i+1)++((List.range' (i+1) ((q.r x).length-(i+1))).map λk=>(x,k)):=by
  unfold ndR;rw[<-List.map_append,List.range_eq_range',List.range_eq_range'];congr 1;have:=List.range'_append (s:=0) (m:=i+1) (n:=(q.r x).length-(i+1)) (step:=1);rw[show i+1+((q.r x).length-(i+1))=(q.r x).length by omega]at this;simpa using this.symm
 rw[e,D,x4f,List.append_assoc,List.append_assoc,List.append_assoc];exact List.prefix_append_right_inj _ |>.2 sp0
def bdB (q:BdQ):List Nat:=slB q.fs.length (slv q.f)++slB q.bs.length (slv q.b)
structure BdS (w:World) (q:BdQ):Prop where
  f:Sl z6t w (slv q.f) q.fs
  b:Sl z6t w (slv q.b) q.bs
theorem BdAt.s {w:World}{q:BdQ}(h:BdAt w q):BdS w q:=⟨h.f,h.b⟩
theorem BdS.ext {w w':World}{q:BdQ}(h:BdS w q)(hf:Fr [] w w'):BdS w' q:=⟨h.f.ext hf,h.b.ext hf⟩
theorem BdS.turn {n:Nat}{w w':World}{q:BdQ}(h:BdS w q)(D:Turn n w w'):BdS w' q:=⟨h.f.turn D,h.b.turn D⟩
theorem BdS.keep {O:List Nat}{n:Nat}{w w':World}{q:BdQ}(h:BdS w q)(M:KeepN O (bdB q) n w w'):BdS w' q:=
 ⟨h.f.keep M.1.1 λD k I=>List.mem_append_left _ (u0d D k I),h.b.keep M.1.1 λD k I=>List.mem_append_right _ (u0d D k I)⟩
theorem BdS.lt {w:World}{q:BdQ}(h:BdS w q):∀b∈bdB q,b<w.heap.size:=λb D=>(List.mem_append.1 D).elim (u0c h.f b) (u0c h.b b)
theorem BdS.sel {w:World}{q:BdQ}(h:BdS w q)(x:Bool):Sl z6t w (slv (q.h x)) (q.r x):=by
 cases x;exact h.f;exact h.b
theorem BdS.len {w:World}{q:BdQ}(h:BdS w q)(x:Bool):(q.h x).2.1=(q.r x).length:=z2e (h.sel x)
def ndN (q:BdQ)(s:List (Bool×Nat)):Nat:=(s.map λx=>((q.r x.1).getD x.2 iq0).2.length).sum
theorem v8d (q:BdQ)(s:List (Bool×Nat))(x:Bool×Nat):ndN q (s++[x])=ndN q s+((q.r x.1).getD x.2 iq0).2.length:=by
 unfold ndN;rw[List.map_append,List.sum_append];simp
theorem u1b (q:BdQ)(hf:z9p q.fs)(hb:z9p q.bs):∀s:List (Bool×Nat),ndN q s<=4*s.length
 | []=>by simp[ndN]
 | x::s=>by
  have D:=u1b q hf hb s
  have:((q.r x.1).getD x.2 iq0).2.length<=4:=by
   cases x.1
   ·exact z3n hf _
   exact z3n hb _
  unfold ndN at *
  simp only[List.map_cons,List.sum_cons,List.length_cons];omega
theorem x2j:∀(l:List IQ),((List.range l.length).map λk=>(l.getD k iq0).2.length).sum=(plB l).flatten.length
 | []=>rfl
 | x::l=>by
  have D:=x2j l
  rw[List.length_cons,List.range_succ_eq_map,List.map_cons,List.map_map,List.sum_cons,plB,List.map_cons,List.flatten_cons,List.length_append,<-D]
  rfl
theorem u3b (q:BdQ):ndN q (ndP q [false,true])=q.p.flat.length:=by
 have e:ndP q [false,true]=ndR q false q.fs.length++ndR q true q.bs.length:=by unfold ndP;simp;rfl
 rw[e];unfold ndN ndR;rw[List.map_append,List.sum_append,List.map_map,List.map_map];have D:=x2j q.fs;have I:=x2j q.bs;unfold Bd.flat;rw[List.length_append,<-D,<-I];rfl
def x0t (q:BdQ)(x:Bool)(i:Nat):List LId:=(plB ((q.r x).take i)).flatten
theorem x0y (q:BdQ)(x:Bool){i:Nat}(h:i<(q.r x).length):x0t q x (i+1)=x0t q x i++((q.r x).getD i iq0).2:=by
 unfold x0t plB;rw[List.take_add_one,List.getElem?_eq_getElem h,List.map_append,List.flatten_append,List.getD,List.getElem?_eq_getElem h];simp
theorem v7k (q:BdQ)(x:Bool):x0t q x (q.r x).length=(plB (q.r x)).flatten:=by unfold x0t;rw[List.take_length]
def y5d (q:BdQ)(l:List Bool):List LId:=l.flatMap λx=>(plB (q.r x)).flatten
theorem v0b (q:BdQ)(l:List Bool)(x:Bool):y5d q (l++[x])=y5d q l++(plB (q.r x)).flatten:=by unfold y5d;simp
theorem BdAt.iq {w:World}{q:BdQ}(h:BdAt w q)(x:Bool):IqAt w (q.r x):=by cases x;exact h.fi;exact h.bi
theorem x6r (q:BdQ):y5d q [false,true]=q.p.flat:=by unfold y5d Bd.flat;simp;rfl
theorem u7m {q:BdQ}{l:List Bool}{x:Bool}{i j:Nat}(h:l++[x] <+: [false,true])(Z:i<(q.r x).length)(D:j<((q.r x).getD i iq0).2.length):(y5d q l++x0t q x i++((q.r x).getD i iq0).2.take j)++[((q.r x).getD i iq0).2.getD j id0] <+: q.p.flat:=by
 obtain⟨r,hr⟩:=h
 have e:q.p.flat=y5d q l++(x0t q x i++(((q.r x).getD i iq0).2++((plB ((q.r x).drop (i+1))).flatten++y5d q r))):=by
  rw[<-x6r,<-hr]
  have I:y5d q (l++[x]++r)=y5d q l++((plB (q.r x)).flatten++y5d q r):=by unfold y5d;simp[List.flatMap_append]
  have M:(plB (q.r x)).flatten=x0t q x (i+1)++(plB ((q.r x).drop (i+1))).flatten:=by
   unfold x0t plB
   rw[<-List.flatten_append,<-List.map_append,List.take_append_drop]
  rw[I,M,x0y q x Z];simp
 have O:((q.r x).getD i iq0).2=((q.r x).getD i iq0).2.take j++[((q.r x).getD i iq0).2.getD j id0]++((q.r x).getD i iq0).2.drop (j+1):=by
  generalize ((q.r x).getD i iq0).2=s at D
  conv=>lhs;rw[<-List.take_append_drop (j+1) s]
  rw[List.take_add_one,List.getD,List.getElem?_eq_getElem D];simp
 rw[e]
 refine⟨((q.r x).getD i iq0).2.drop (j+1)++((plB ((q.r x).drop (i+1))).flatten++y5d q r),?_⟩
 conv=>rhs;rw[O]
 simp
theorem u2r {q:BdQ}{l:List Bool}{x:Bool}{i j:Nat}(Z:q.p.flat.Nodup)(h:l++[x] <+: [false,true])(D:i<(q.r x).length)(I:j<((q.r x).getD i iq0).2.length):((q.r x).getD i iq0).2.getD j id0∉y5d q l++x0t q x i++((q.r x).getD i iq0).2.take j:=λM=>by
 have O:((y5d q l++x0t q x i++((q.r x).getD i iq0).2.take j)++[((q.r x).getD i iq0).2.getD j id0]).Nodup:=List.Nodup.sublist (u7m h D I).sublist Z
 exact(List.nodup_append.1 O).2.2 _ M _ (List.mem_singleton.2 U) U
theorem z4s {α:Type}{l:List α}{j:Nat}(d:α)(h:j<l.length):l.take (j+1)=l.take j++[l.getD j d]:=by
 rw[List.take_add_one,List.getD,List.getElem?_eq_getElem h];rfl
theorem x7v {q:BdQ}(M:BdW q.p)(x:Bool){i j:Nat}(D:i<(q.r x).length)(I:j<((q.r x).getD i iq0).2.length):y1j (((q.r x).getD i iq0).2.getD j id0):=by
 refine M.nm _ ?_;unfold Bd.flat;have:((q.r x).getD i iq0).2.getD j id0∈(plB (q.r x)).flatten:=List.mem_flatten.2 ⟨_,List.mem_map_of_mem (z1a D),z1a I⟩;cases x;exact List.mem_append_left _ this;exact List.mem_append_right _ this
theorem x8z {q:BdQ}(D:BdW q.p):(q.fs.length<=40/\q.bs.length<=40)/\z9p q.fs/\z9p q.bs:=by
 refine⟨⟨by simpa using D.lf,by simpa using D.lb⟩,λs I=>D.ss _ (List.mem_append_left _ (List.mem_map_of_mem I)),λs I=>D.ss _ (List.mem_append_right _ (List.mem_map_of_mem I))⟩
theorem z3o {q:BdQ}(D:BdOk q.p):(q.fs.length<=40/\q.bs.length<=40)/\z9p q.fs/\z9p q.bs:=x8z D.w
def oth (q:BdQ)(b n:Int)(x:Bool×Nat):List LId:=if (y2y x.1,(x.2:Int)+1)=(b,n) then [] else ((q.r x.1).getD x.2 iq0).2
def x2q (q:BdQ)(b n:Int)(s:List (Bool×Nat)):List LId:=s.flatMap (oth q b n)
theorem x1d (q:BdQ)(b n:Int)(s:List (Bool×Nat))(x:Bool×Nat):x2q q b n (s++[x])=x2q q b n s++oth q b n x:=by unfold x2q;simp
theorem y8l:∀(l:List IQ) (m:Nat) (i:LId),((List.range l.length).flatMap λk=>if k=m then [] else (l.getD k iq0).2).count i+(l.getD m iq0).2.count i=(plB l).flatten.count i
 | [],m,i=>by simp[iq0]
 | x::l,m,i=>by
  rw[List.length_cons,List.range_succ_eq_map,List.flatMap_cons,List.count_append,List.flatMap_map]
  have e:(plB (x::l)).flatten=x.2++(plB l).flatten:=rfl
  rw[e,List.count_append]
  cases m with
  | zero=>
   have h:((List.range l.length).flatMap λk=>if k+1=0 then [] else ((x::l).getD (k+1) iq0).2)=(plB l).flatten:=by
    have:=y8l l l.length i
    simp only[Nat.succ_ne_zero,if_false]
    unfold plB
    clear this
    have I:l.map Prod.snd=(List.range l.length).map λk=>(l.getD k iq0).2:=by
     apply List.ext_getElem sp0
     intro j D M
     simp only[List.length_map]at D
     simp[List.getD,List.getElem?_eq_getElem D]
    rw[I,List.flatMap_def];rfl
   rw[h];simp;omega
  | succ m=>
   have O:=y8l l m i
   have h:((List.range l.length).flatMap λk=>if k+1=m+1 then [] else ((x::l).getD (k+1) iq0).2)=((List.range l.length).flatMap λk=>if k=m then [] else (l.getD k iq0).2):=by
    congr 1
    funext k
    simp
   rw[h]
   simp only[Nat.zero_ne_add_one,if_false,List.getD_cons_succ,List.getD_cons_zero]
   omega
theorem x9c (q:BdQ)(x:Bool)(b n:Int)(hn:1<=n):x2q q b n (ndR q x (q.r x).length)=if y2y x=b then ((List.range (q.r x).length).flatMap λk=>if k=(n-1).toNat then [] else ((q.r x).getD k iq0).2) else (plB (q.r x)).flatten:=by
 unfold x2q ndR;rw[List.flatMap_map];unfold oth;simp only[Prod.mk.injEq];by_cases h:y2y x=b;rw[if_pos h];congr 1;funext k;simp only[h,true_and];by_cases e:(k:Int)+1=n;rw[if_pos e,if_pos oo];rw[if_neg e,if_neg oo];rw[if_neg h];simp only[h,false_and,if_false];have I:plB (q.r x)=(List.range (q.r x).length).map λk=>((q.r x).getD k iq0).2:=by
  unfold plB;apply List.ext_getElem sp0;intro j D M;simp only[List.length_map]at D;simp[List.getD,List.getElem?_eq_getElem D]
 rw[I,List.flatMap_def]
theorem u4w (q:BdQ){b n:Int}(h:z4g b n=0)(i:LId):(x2q q b n (ndP q [false,true])).count i+(q.p.at b n).count i=q.p.flat.count i:=by
 obtain⟨M,D,Z⟩:=z3a h;have e:ndP q [false,true]=ndR q false (q.r false).length++ndR q true (q.r true).length:=by unfold ndP;simp
 have I:x2q q b n (ndP q [false,true])=x2q q b n (ndR q false (q.r false).length)++x2q q b n (ndR q true (q.r true).length):=by rw[e];unfold x2q;simp
 rw[I,x9c q false b n D,x9c q true b n D,List.count_append];have r1:((List.range (q.r false).length).flatMap λk=>if k=(n-1).toNat then [] else ((q.r false).getD k iq0).2).count i+((q.fs).getD (n-1).toNat iq0).2.count i=(plB (q.r false)).flatten.count i:=y8l q.fs (n-1).toNat i;have r2:((List.range (q.r true).length).flatMap λk=>if k=(n-1).toNat then [] else ((q.r true).getD k iq0).2).count i+((q.bs).getD (n-1).toNat iq0).2.count i=(plB (q.r true)).flatten.count i:=y8l q.bs (n-1).toNat i;have hfl:q.p.flat.count i=(plB (q.r false)).flatten.count i+(plB (q.r true)).flatten.count i:=by unfold Bd.flat;rw[List.count_append];rfl
 have O:q.p.at b n=if b=0 then (q.fs.getD (n-1).toNat iq0).2 else (q.bs.getD (n-1).toNat iq0).2:=by unfold Bd.at atB;rw[z4e,z4e]
 rw[hfl,O];rcases M with rfl|rfl
 rw[if_pos (show y2y false=0 from U),if_neg (show ¬y2y true=0 by decide),if_pos U];omega;rw[if_neg (show ¬y2y false=1 by decide),if_pos (show y2y true=1 from U),if_neg dd];omega
theorem u3j {q:BdQ}{b n:Int}{l:List LId}{j:Nat}(h:z4g b n=0)(I:∀i,q.p.flat.count i+l.count i<=(q.p.at b n).count i+1)(M:j<l.length):l.getD j id0∉x2q q b n (ndP q [false,true])++l.take j:=λO=>by
 have Z:=u4w q h (l.getD j id0)
 have h2:=I (l.getD j id0)
 have h3:l.count (l.getD j id0)=(l.take j).count (l.getD j id0)+1+(l.drop (j+1)).count (l.getD j id0):=by
  have e:l=l.take j++[l.getD j id0]++l.drop (j+1):=by rw[<-z4s id0 M,List.take_append_drop]
  generalize l.getD j id0=y at e ⊢
  conv=>lhs;rw[e]
  rw[List.count_append,List.count_append,List.count_singleton];simp
 have D:=List.count_pos_iff.2 O
 rw[List.count_append]at D
 omega
theorem BdO.fr {S I base:Nat}{w w':World}{q:BdQ}{T:List Nat}(h:BdO S I base w q)(hf:Fr T w w')(D:∀k∈T,k<base):BdO S I base w' q:=⟨h.f.fr hf D,h.b.fr hf D⟩
theorem z9r {B:Bd}{b n:Int}(h:z4g b n=0):B.atC b n=B.at b n:=if_pos h
def bdq0:BdQ:=⟨sv0,sv0,[],[]⟩
def y0y (B:Bd)(b n m:Int):List LId:=if b=1 then B.at b n++B.at (1-b) m else B.at (1-b) m++B.at b n
theorem v4e (B:Bd)(b n m:Int):(y0y B b n m).length=(B.at b n).length+(B.at (1-b) m).length:=by
 unfold y0y;split<;>rw[List.length_append];omega
theorem x7r {B:Bd}(h:BdOk B){b n:Int}(hn:z4g b n=0):BdOk (B.put b n []):=h.put hn (Nat.zero_le _) (λi D=>by cases D) (λi=>by
 have I:=List.nodup_iff_count.1 h.nd i
 simp only[List.count_nil];omega)
end Go.G08
namespace Go.Lw
open Go.RowKit
section
variable {κ:Type} [DecidableEq κ] {V:κ->Value} {P:Program} {K:TypeId}
variable {a:Act} {n:Nat} {L:List (Nat×Value)} {ds:List Nat} {w w':World} {Q:Exit->Act->World->Prop} {ops:Array Oper} {rest:List Oper}
variable {d:Nat} {ty:TypeId} {pos:String} {after:Array Edge} {x y z' r:Operand} {t E:TypeId}
theorem z4i (V:κ->Value){k:IntKind}{i:Int}(h:AgM ds a n L)(D:ev L r=some (.int k i))(I:P.underlying t=some (.map K E))(hn:Nat.blt d n=true)
    (q:∀g w',g=w.heap.size->MapF V w' g (λ_=>none)->Fr [] w w'->w'.heap.size=g+1->∀a,AgM ds a n ((d,.map (some g))::L)->wpList P ops Q rest a w'):wpList P ops Q (⟨some d,.makeMap t (some r),ty,pos,after,none⟩::rest) a w:=
  z2c h U hn (w':=w.alloc (.map #[] 0)) (by simp[execOp,Instr.makeMap,h.eval D,run_underlying I,asInt,asIntOf]) (q _ _ U ⟨_,_,[],heap_alloc_new w _,sp0,λ_=>rfl⟩ (Fr.alloc [] w _) sp0)
theorem x7n (V:κ->Value){k:IntKind}{i:Int}(D:ev L r=some (.int k i))(I:P.underlying t=some (.map K E))(hn:Nat.blt d n=true)(q:∀g w',g=w.heap.size->MapF V w' g (λ_=>none)->Fr [] w w'->w'.heap.size=g+1->WL P ops Q rest n ds w' ((d,.map (some g))::L)):WL P ops Q (⟨some d,.makeMap t (some r),ty,pos,after,none⟩::rest) n ds w L:=λa h=>z4i V h D I hn q
def z9w (l:List κ)(k:κ):Option Value:=if k∈l then some (.bool true) else none
theorem x4q:z9w ([]:List κ)=λ_=>none:=by funext k;simp[z9w]
theorem y9b (l:List κ)(k:κ):(λk'=>if k'=k then some (Value.bool true) else z9w l k')=z9w (l++[k]):=by
 funext k';unfold z9w;by_cases h:k'=k;subst h;simp;simp[h]
theorem x5z (l:List κ)(k:κ):(z9w l k).getD (.bool false)=.bool (decide (k∈l)):=by
 unfold z9w;by_cases h:k∈l;rw[if_pos h,decide_eq_true h];rfl;rw[if_neg h,decide_eq_false h];rfl
theorem MapF.turn {g n0:Nat}{f:κ->Option Value}(h:MapF V w g f)(Z:Turn n0 w w')(O:g<n0):MapF V w' g f:=by
 obtain⟨D,c,m,I,M⟩:=h;exact⟨D,c,m,Z.at I (.inr O),M⟩
theorem MapF.noncells {g:Nat}{f:κ->Option Value}(h:MapF V w g f):x4c w g:=let ⟨_,_,_,h1,_⟩:=h;⟨_,h1,rfl⟩
end
end Go.Lw
namespace Go.Proofs.YtlfdhllfmoplgaaGreatDoor
open Go.Lw Go.G21 Go.G08 _root_.Go.Proofs.Tryz
theorem y8k (q:BdQ)(w0:World):Rets prog 108 #[.agg #[.slice q.f.1 q.f.2.1 q.f.2.2,.slice q.b.1 q.b.2.1 q.b.2.2]] w0 λr w'=>∃g,r=.func (.func 154) #[] #[.pointer (some ⟨g,0,none⟩)]/\w0.heap.size<=g/\Blk w' g 25 (bdL q)/\Fr [] w0 w':=by
 exact we [(0,.agg #[.slice q.f.1 q.f.2.1 q.f.2.2,.slice q.b.1 q.b.2.1 q.b.2.2])] func108 U ntmps108 U (.cons U .nil) (sr (bx U (λI w1 M D O z1=>(asg U (nn (sr (z7e z0g (ev1 U) U (asg U (nn (rt (r1 results108 U ⟨_,rfl,I,rfl,oo,D,O⟩)))))))))))
theorem y6q (q:BdQ)(w0:World):Rets prog 55 #[.agg #[.slice q.f.1 q.f.2.1 q.f.2.2,.slice q.b.1 q.b.2.1 q.b.2.2]] w0 λr w'=>∃g,r=.func (.func 116) #[] #[.pointer (some ⟨g,0,none⟩)]/\w0.heap.size<=g/\Blk w' g 25 (bdL q)/\Fr [] w0 w':=by
 exact we [(0,.agg #[.slice q.f.1 q.f.2.1 q.f.2.2,.slice q.b.1 q.b.2.1 q.b.2.2])] func55 U ntmps55 U (.cons U .nil) (sr (bx U (λI w1 M D O z1=>(asg U (nn (sr (z7e z0g (ev1 U) U (asg U (nn (rt (r1 results55 U ⟨_,rfl,I,rfl,oo,D,O⟩)))))))))))
theorem y3d (N gD:Nat)(q:BdQ)(wS:World)(a3:Blk wS gD 25 (bdL q)):u9r N prog 154 #[.pointer (some ⟨gD,0,none⟩)] (bdE q) (KeepN [] [gD] (wS.heap.size+2)) (λxs:List Bool=>xs=[false,true]) (λ_=>True) (λs=>s <+: [false,true]) 2 wS:=by
 intro ly J Jx w0 O a6 a5 a4 Z a0;have M:=a3.ext (Fr.of_below' O (Nat.le_refl _));refine weI [(0,.func (.yield ly) #[] #[]),(1,.pointer (some ⟨gD,0,none⟩))] func154 U ntmps154 U (.c2 U U) (isq (j2h 3 U U U (by intro g e;cases e) (mv U (fad U y6o (z0i U M U x6v (j3q U (ev2 U) (j1v (Pf:=λs=>s <+: [false,true]) (x:=false) Z a0 dd sp0 (by rfl)) U ?_))))));rintro _ w1 (⟨rfl,D,a1⟩|⟨rfl,D,_⟩);have a2:=M.keep a1.1.1 (List.mem_singleton.2 U);refine inl (itn (ict U (j2h 3 U U U (by intro g e;cases e) (mv U (fad U y2q (z0i U a2 U x6v (j3q U (ev2 U) (j1v (Pf:=λs=>s <+: [false,true]) (x:=true) Z D dd sp0 (by rfl)) U ?_)))))));rintro _ w2 (⟨rfl,I,_⟩|⟨rfl,I,_⟩);exact kpL [] .nil (inl (r0n results154 (⟨⟨_,rfl⟩,.inl ⟨[false,true],rfl,I⟩⟩)));exact kpL [] .nil (inl (r0n results154 (⟨⟨_,rfl⟩,.inr ⟨_,trivial,I⟩⟩)));exact inl (itn (icf U (isk (r0n results154 (⟨⟨_,rfl⟩,.inr ⟨_,trivial,D⟩⟩)))))
theorem j2m:z1y prog 195:=λ_=>kr
theorem y4y (N gD:Nat)(q:BdQ)(wS:World)(hN:1<=N)(b7:Blk wS gD 25 (bdL q))(hS:BdS wS q)(hf:q.fs.length<=40)(hb:q.bs.length<=40):u9r N prog 116 #[.pointer (some ⟨gD,0,none⟩)] (ndE q) (KeepN [195,25] (bdB q) (wS.heap.size+2)) (λxs:List (Bool×Nat)=>xs=ndP q [false,true]) (λ_=>True) (λs=>s <+: ndP q [false,true]) 81 wS:=by
 intro ly J Jx w0 b0 e0 a3 a1 b9 b2;have hF:Fr [] wS w0:=Fr.of_below' b0 (Nat.le_refl _);refine weIM [(0,.func (.yield ly) #[] #[]),(1,.pointer (some ⟨gD,0,none⟩))] func116 U ntmps116 U (.c2 U U) (isq (irg U (bx U (λg2 w1 d1 a0 q1 z1=>(inl (itn (isq (irg U ?_))))))));have b6:=(b7.ext hF).ext q1;refine z0m U b6 z4x (cl (ev1 U) (mkC func108) (y8k q _) U ?_);rintro _ w2 ⟨g8,rfl,d3,a6,q2⟩;refine inl (itn (ibl ?_));replace a0:=a0.ext q2;have b5:=hS.ext (hF.next (q1.n1 q2));have d0:=a0.lt;have b1:=a6.lt;have b3:=a3 _ _ _ (Turn.of_fr (q1.n1 q2)) b2;refine x2a [(2,_),(8,_)] (.c2 U U) ?_;refine v2k (α:=Bool) U (mkC func154) hN (y3d (N-1) g8 q w2 a6) (λb hb=>by rw[List.mem_singleton.1 hb];exact b1) (λ_=>rfl)
  (λx=>[(10,slv (q.h x)),(9,.int .u8 (y2y x))]) (λx=>by simp[bdE,y2y]) (λx=>rfl)
  (λs W=>J (ndP q s) W/\Blk W g2 195 [.func (.yield ly) #[] #[]]/\Blk W g8 25 (bdL q)/\BdS W q/\w2.heap.size<=W.heap.size) (λ_ W=>∃M,Jx M W)
  (λs W W' ht h=>⟨a3 _ _ _ (ht.low oo) h.1,h.2.1.turn ht,h.2.2.1.turn ht,h.2.2.2.1.turn ht,let ⟨_,hg,_⟩:=ht;Nat.le_trans h.2.2.2.2 hg.size⟩) (λs W W' ht h=>let ⟨p,hp⟩:=h;⟨p,a1 _ _ _ (ht.low oo) hp⟩)
  ⟨b3,a0,a6,b5,Nat.le_refl _⟩ (λx=>[(4,slv (q.h x)),(3,.int .u8 (y2y x))]) [(2,.pointer (some ⟨g2,0,none⟩))] (.cons U .nil) ?_ ?_ ?_ ?_
 intro lN M x w3 hi;exact x2a [(9,_),(10,_),(2,_)] (.c3 U U U) (isq (irg U (asg U (inl (itn (irg U (asg U (inl (asU (.c3 U U U))))))))));rintro lN M x w3 d5 ⟨b4,a9,Z,a8,c9⟩ d6 b8;have d7:=v0y q hf hb M;have d9:(q.r x).length<=40:=by cases x<;>assumption
 have d4:=a8.len x;refine ibl (isq (irg U (mv U (lnS U underlying23 (mv U (inl (itn (ibl (v5n (ι:=Nat) [(2,_),(3,_),(11,_),(12,_)] (λi=>[(13,.int .i64 (i:Int))]) (λi w'=>J (ndP q M++ndR q x i) w'/\i<=(q.r x).length/\KeepN [195,25] (bdB q) w2.heap.size w3 w') (λi=>(q.r x).length-i) 0 (.c5 U U U U U) ⟨by simpa[ndR] using b4,Nat.zero_le _,KeepN.refl⟩ ?_)))))))));rintro i w4 ⟨a7,hi,I⟩;have a2:=a9.keepT I.1 dd;have a5:=a8.keep I;refine x2a [(2,_),(3,_),(11,_),(12,_),(13,.int .i64 (i:Int))] (.c5 U U U U U) (isq (irg U (lt' U (inl (itn (isq (icd U (λc0=>?_) (λc0=>?_))))))));refine isk (itn (isq (ibl (isq (irg U (mv U (z1d (p:=i) (iq0) U (a5.sel x) U y4x oo (λad hc=>(z1k U (hc _ (a5.sel x)) z6h (asg U (asg U (inl (itn (isq (isq (irg U (mv U (ge' U U (inl (itn (icd U (λc1=>absurd c1 oo) (λc1=>(isk (itn (isq (j2h 6 U U U (by intro g e;cases e) (z2r U a2 j2m (mv U (mv U (z0x U (wi6 oo) (z1s (cs:=[_,_]) (ev2 U) y4d (z0f U (z0f U z0q)) U ?_)))))))))))))))))))))))))))))));refine mv U (j3q U (ev2 U) (j1v (Pf:=λs=>s <+: ndP q [false,true]) (x:=(x,i)) b9 a7 (by rw[List.length_append,v0x];omega) (u7k b8 oo) (by rfl)) U ?_);rintro _ w5 (⟨rfl,O,a4⟩|⟨rfl,O,a4⟩);exact nt' U (inl (itn (icf U (isk (bn' (itn (irg U (z0x U (wi6 oo) (mv U (inl (v4y (i+1) (.c5 U U U U U) ⟨by rw[x4f,<-List.append_assoc];exact O,oo,I.trans (a4.low oo)⟩ oo)))))))))));exact nt' U (inl (itn (ict U (irt (rb (tr (tr (rb (rb (rndX (I.2.trans (KeepsFrom.low a4 oo)) ⟨_,O⟩))))))))));obtain rfl:i=(q.r x).length:=by omega
 exact iex (te (te (xh (bn' (rndK I.2 ⟨λb hb=>by rw[List.mem_singleton.1 hb];exact(show w4.heap[g8]?=_ from Z.keepT I.1 dd).trans (show w3.heap[g8]?=_ from Z).symm,λ_ _ _ _ h=>by cases h⟩ ⟨by rw[v5e];exact a7,a2,Z.keepT I.1 dd,a5,Nat.le_trans c9 I.2.size⟩)))));rintro D xs W hD rfl ⟨O,_⟩ hm;refine bn' (rM0n results116 (x6q hm) sp0 ?_);intro w6 q6;exact⟨⟨_,rfl⟩,.inl ⟨_,rfl,a3 _ _ _ (Turn.of_mark q6 hm oo) O⟩⟩;rintro D M W hD _ ⟨p,hp⟩ hm;refine rb (rM0 results116 (x6q hm) sp0 ?_);intro w6 q6;exact⟨⟨_,rfl⟩,.inr ⟨_,trivial,a1 _ _ _ (Turn.of_mark q6 hm oo) hp⟩⟩
theorem y4l (q:BdQ)(w0:World)(hB:BdAt w0 q)(hf:q.fs.length<=40)(hb:q.bs.length<=40)(h4:z9p q.fs)(a6:z9p q.bs):Rets prog 24 #[.agg #[.slice q.f.1 q.f.2.1 q.f.2.2,.slice q.b.1 q.b.2.1 q.b.2.2]] w0 λr w'=>r=.int .i64 (q.p.flat.length:Int)/\Fr [] w0 w':=by
 refine weM [(0,.agg #[.slice q.f.1 q.f.2.1 q.f.2.2,.slice q.b.1 q.b.2.1 q.b.2.2])] func24 U ntmps24 U (.cons U .nil) ?_;have M:=hB;refine isq (irg U (bx U (λg1 w1 b1 Z q1 z1=>(asg U (inl (itn (isq (irg U (al zv3 U (λg3 w2 b2 D q2 z2=>(z3u U U D U sz3 (λw3 D q3 z3=>(inl (itn (isq (isq (irg U ?_)))))))))))))))));replace Z:=(Z.ext q2).fr q3;refine z0m U Z z4x (cl (ev1 U) (mkC func55) (y6q q _) U ?_);rintro _ w4 ⟨g7,rfl,a9,a2,q4⟩;have z4:=q4.size;refine inl (itn (ibl ?_));have a0:∀b∈bdB q,b<w0.heap.size:=BdS.lt M.s;replace D:=D.ext q4;replace hB:=M.ext (q1.z3 q2 q3 q4);refine v2k (α:=Bool×Nat) U (mkC func116) dd (y4y 8 g7 q w4 dd a2 hB.s hf hb) (BdS.lt hB.s) (λ_=>rfl) (λx=>[(9,.slice ((q.r x.1).getD x.2 iq0).1.1 ((q.r x.1).getD x.2 iq0).1.2.1 ((q.r x.1).getD x.2 iq0).1.2.2),(8,.agg #[.int .u8 (y2y x.1),.int .i64 ((x.2:Int)+1)])]) (λx=>by simp[ndE,slv]) (λ_=>rfl) (λ(s:List (Bool×Nat)) (W:World)=>Fr [g3] w4 W/\Blk W g3 3 [.int .i64 (ndN q s:Int)]/\s.length<=81) (λ_ _=>False) (λs W W' ht h=>⟨h.1.turn ht (Nat.le_refl _),h.2.1.turn ht,h.2.2⟩) (λ_ _ _ _ h=>h.elim) ⟨Fr.refl _ _,D,Nat.zero_le _⟩ (λx=>[(5,.slice ((q.r x.1).getD x.2 iq0).1.1 ((q.r x.1).getD x.2 iq0).1.2.1 ((q.r x.1).getD x.2 iq0).1.2.2)]) [(3,_)] (.cons U .nil) ?_ ?_ ?_ (λ_ _ _ _ _ h _=>h.elim);rintro lN a5 x w5 ⟨q5,D,a3⟩;exact x2a [(8,.agg #[.int .u8 (y2y x.1),.int .i64 ((x.2:Int)+1)]),(9,.slice ((q.r x.1).getD x.2 iq0).1.1 ((q.r x.1).getD x.2 iq0).1.2.1 ((q.r x.1).getD x.2 iq0).1.2.2),(3,_)] (.c3 U U U) (irg U (asg U (inl (asU (.c2 U U)))));rintro lN a5 x w6 b3 ⟨q6,D,a3⟩ b4 b6;have z6:=q6.size;have O:=D.lt;have a1:=D;have b5:=u1b q h4 a6 a5;have b7:=z3n (show z9p (q.r x.1) by cases x.1<;>assumption) x.2;have a8:((q.r x.1).getD x.2 iq0).1.2.1=((q.r x.1).getD x.2 iq0).2.length:=z2e (z2b (show IqAt w0 (q.r x.1) by cases x.1;exact M.fi;exact M.bi) x.2);exact ibl (irg U (z2r U D na3 (mv U (lnS U underlying30 (z0x U (wi6 oo) (z3u U U D U sz3 (λw7 D q7 z7=>(kpL [] .nil (inl (bn' (u6y (S:=[g3]) ((Fr.refl [g3] _).z1 q7) (λk hk _=>by cases List.mem_singleton.1 hk;exact .inl (a1.tyC dd)) (λb hb=>Nat.lt_of_lt_of_le (a0 b hb) oo) (λb hb e=>by simp at e;have:=a0 b hb;omega) ⟨((Fr.refl [g3] _).z2 q6 q7),by rw[v8d,<-a8];exact D,by rw[List.length_append];simp;omega⟩)))))))))));rintro D1 b8 w8 b0 hS ⟨q8,D,a3⟩ I;have z8:=q8.size;have a7:=I;have a4:=I.lt;have O:=D.lt;subst hS;rw[u3b]at D;refine bn' (itn (isq (irg U (z2r U D na3 (asg U (inl (itn (irt (rM1 results24 U (x6q I) sp0 ?_)))))))));intro w9 q9;exact⟨_,rfl,rfl,(q1.z5 q2 q3 q4 q8 q9)⟩
theorem na35:z1y prog 35:=λ_=>kr
theorem v1h:z1y prog 190:=λ_=>kr
theorem sz35:z1t prog 35 1:=λ_=>kr
theorem u7l:z1t prog 190 1:=λ_=>kr
theorem zv4 (w:World):(zeroValue 4).run prog w=.ok (.bool false) w:=kr
theorem zv35 (w:World):(zeroValue 35).run prog w=.ok (.int .i64 0) w:=kr
theorem u8c (w:World):(zeroValue 190).run prog w=.ok (.map none) w:=kr
theorem v8v (q:BdQ)(w0:World)(hB:BdAt w0 q)(hv:BdW q.p):Rets prog 50 #[.agg #[.slice q.f.1 q.f.2.1 q.f.2.2,.slice q.b.1 q.b.2.1 q.b.2.2]] w0 λr w'=>r=.int .i64 (if q.p.flat.Nodup then 0 else 8)/\Fr [] w0 w':=by
 obtain⟨⟨hf,hb⟩,h4,k4⟩:=x8z hv;refine weM [(0,.agg #[.slice q.f.1 q.f.2.1 q.f.2.2,.slice q.b.1 q.b.2.1 q.b.2.2])] func50 U ntmps50 U (.cons U .nil) ?_;have a0:=hB;refine isq (irg U (bx U (λg1 w1 k7 a1 q1 z1=>(al zv35 U (λg2 w2 k8 I q2 z2=>(inl (itn (isq (isq (irg U ?_))))))))));replace a1:=a1.ext q2;refine z0m U a1 z4x (cl (ev1 U) (mkC func108) (y8k q _) U ?_);rintro _ w3 ⟨g6,rfl,h0,b4,q3⟩;have z3:=q3.size;refine inl (itn (ibl ?_));have h8:=b4.lt;refine v2k (α:=Bool) U (mkC func154) dd (y3d 8 g6 q w3 b4) (λb M=>by rw[List.mem_singleton.1 M];exact b4.lt) (λ_=>rfl) (λx=>[(23,.slice (q.h x).1 (q.h x).2.1 (q.h x).2.2),(22,.int .u8 (y2y x))]) (λx=>by simp[bdE,y2y,slv]) (λ_=>rfl) (λ(s:List (Bool)) (W:World)=>Fr [] w3 W/\True) (λ_ _=>False) (λs W W' ht h=>⟨h.1.turn ht (Nat.le_refl _),h.2⟩) (λ_ _ _ _ h=>h.elim) ⟨Fr.refl _ _,trivial⟩ (λx=>[(4,.slice (q.h x).1 (q.h x).2.1 (q.h x).2.2)]) [(1,_),(2,_)] (.c2 U U) ?_ ?_ ?_ (λ_ _ _ _ _ h _=>h.elim);rintro lN a8 x w4 ⟨q4,-⟩;exact x2a [(22,.int .u8 (y2y x)),(23,.slice (q.h x).1 (q.h x).2.1 (q.h x).2.2),(1,_),(2,_)] (.c4 U U U U) (irg U (asg U (inl (asU (.c3 U U U)))));rintro lN a8 x w5 f2 ⟨q5,-⟩ f3 e4;have z5:=q5.size;have f1:=(BdS.len a0.s x);have f5:(q.r x).length<=40:=by cases x<;>assumption
 have d6:z9p (q.r x):=by cases x<;>assumption
 refine ibl (isq (isq (irg U (mv U (lnS U underlying23 (gt' U (inl (itn (icd U (λc0=>?_) (λc0=>?_))))))))));exfalso;omega;refine isk (itn (isq (irg U (mv U (lnS U underlying23 (mv U (inl (itn (ibl (v5n (ι:=Nat) [(2,_),(27,_),(28,_)] (λi=>[(29,.int .i64 (i:Int))]) (λi w'=>Fr [] w5 w'/\i<=(q.r x).length) (λi=>(q.r x).length-i) 0 (.c4 U U U U) ⟨Fr.refl _ _,Nat.zero_le _⟩ ?_))))))))));rintro i w6 ⟨q6,hi⟩;have z6:=q6.size;refine x2a [(2,_),(27,_),(28,_),(29,_)] (.c4 U U U U) (isq (irg U (lt' U (inl (itn (isq (icd U (λc1=>?_) (λc1=>?_))))))));have f7:=z2e (z2b (a0.iq x) i);have f6:=z3n d6 i;refine isk (itn (isq (ibl (isq (irg U ?_)))));replace hB:=a0.ext (q1.n4 q2 q3 q5 q6);refine z1d (iq0) U (hB.s.sel x) U y4x z1j (λj1 e6=>?_);refine z1k U (e6 _ (hB.s.sel x)) z6h (asg U (inl (itn (isq (irg U (mv U (lnS U underlying30 (gt' U (inl (itn (icd U (λc2=>?_) (λc2=>?_))))))))))));exfalso;omega;exact isk (bn' (itn (irg U (z0x U (wi6 oo) (mv U (inl (v4y (i+1) (.c4 U U U U) ⟨q6,oo⟩ oo)))))));obtain rfl:i=(q.r x).length:=by omega
 exact iex (te (te (xh (bn' (u6y (S:=[]) q6 sp0 (λb M=>by rw[List.mem_singleton.1 M];omega) sp0 ⟨(q5.n1 q6),trivial⟩)))));rintro D1 g4 w7 k5 hS ⟨q7,-⟩ b1;have z7:=q7.size;have d3:=b1;have f8:=b1.lt;refine bn' (itn (isq (isq (irg U ?_))));replace a1:=a1.ext (q3.n1 q7);refine z0m U a1 z4x (cl (ev1 U) (mkC func108) (y8k q _) U ?_);rintro _ w8 ⟨g7,rfl,h2,b5,q8⟩;have z8:=q8.size;refine inl (itn (ibl ?_));have h9:=b5.lt;refine v2k (α:=Bool) U (mkC func154) dd (y3d 8 g7 q w8 b5) (λb M=>by rw[List.mem_singleton.1 M];exact b5.lt) (λ_=>rfl) (λx=>[(40,.slice (q.h x).1 (q.h x).2.1 (q.h x).2.2),(39,.int .u8 (y2y x))]) (λx=>by simp[bdE,y2y,slv]) (λ_=>rfl) (λ(s:List (Bool)) (W:World)=>Fr [] w8 W/\True) (λ_ _=>False) (λs W W' ht h=>⟨h.1.turn ht (Nat.le_refl _),h.2⟩) (λ_ _ _ _ h=>h.elim) ⟨Fr.refl _ _,trivial⟩ (λx=>[(8,.slice (q.h x).1 (q.h x).2.1 (q.h x).2.2)]) [(1,_),(2,_)] (.c2 U U) ?_ ?_ ?_ (λ_ _ _ _ _ h _=>h.elim);rintro lN a8 x w9 ⟨q9,-⟩;exact x2a [(39,.int .u8 (y2y x)),(40,.slice (q.h x).1 (q.h x).2.1 (q.h x).2.2),(1,_),(2,_)] (.c4 U U U U) (irg U (asg U (inl (asU (.c3 U U U)))));rintro lN a8 x i7 f2 ⟨e0,-⟩ f3 e4;have n7:=e0.size;have f1:=(BdS.len a0.s x);have f5:(q.r x).length<=40:=by cases x<;>assumption
 have d6:z9p (q.r x):=by cases x<;>assumption
 refine ibl (isq (irg U (mv U (lnS U underlying23 (mv U (inl (itn (ibl (v5n (ι:=Nat) [(2,_),(41,_),(42,_)] (λi=>[(43,.int .i64 (i:Int))]) (λi w'=>Fr [] i7 w'/\i<=(q.r x).length) (λi=>(q.r x).length-i) 0 (.c4 U U U U) ⟨Fr.refl _ _,Nat.zero_le _⟩ ?_)))))))));rintro i i8 ⟨b9,hi⟩;have n8:=b9.size;refine x2a [(2,_),(41,_),(42,_),(43,_)] (.c4 U U U U) (isq (irg U (lt' U (inl (itn (isq (icd U (λc3=>?_) (λc3=>?_))))))));have f7:=z2e (z2b (a0.iq x) i);have f6:=z3n d6 i;refine isk (itn (isq (ibl (isq (irg U ?_)))));replace hB:=a0.ext (q1.n6 q2 q3 q7 q8 e0 b9);refine z1d (iq0) U (hB.s.sel x) U y4x z1j (λj2 e7=>?_);refine z1k U (e7 _ (hB.s.sel x)) z6h (asg U (inl (itn (isq (irg U (mv U (lnS U underlying30 (mv U (inl (itn (ibl (v5n (ι:=Nat) [(2,_),(41,_),(42,_),(43,_),(47,_),(48,_)] (λj=>[(49,.int .i64 (j:Int))]) (λj w'=>Fr [] i8 w'/\j<=((q.r x).getD i iq0).2.length) (λj=>((q.r x).getD i iq0).2.length-j) 0 (.c7 U U U U U U U) ⟨Fr.refl _ _,Nat.zero_le _⟩ ?_))))))))))));rintro j l0 ⟨e1,hj⟩;have n9:=e1.size;refine x2a [(2,_),(41,_),(42,_),(43,_),(47,_),(48,_),(49,_)] (.c7 U U U U U U U) (isq (irg U (lt' U (inl (itn (isq (icd U (λc4=>?_) (λc4=>?_))))))));have h7:=x7v hv x (i:=i) (j:=j) oo oo;refine isk (itn (isq (ibl (isq (irg U ?_)))));replace hB:=a0.ext ((q1.n6 q2 q3 q7 q8 e0 b9).n1 e1);refine z1d (id0) U (z2b (hB.iq x) i) U z3x z1j (λj3 e8=>?_);refine z1q U (e8 _ (z2b (hB.iq x) i)) z2q (al z7r U (λk0 l1 j6 d1 i1 o0=>?_));refine z0j (vs:=[_,_]) U d1 z5y (λl2 d1 i2 o1=>?_) (h1:=(by first|(simp[Value.oneCell',S];done)|exact z1b.one (((q.r x).getD i iq0).2.getD j id0)));refine inl (itn (isq (irg U (z0m U d1 z2q (cl (ev1 U) (mkC func109) (y7v (((q.r x).getD i iq0).2.getD j id0) _) U ?_)))));rintro _ l3 ⟨rfl,g0⟩;have o2:=g0.size;refine nt' U (inl (itn (icd U (λc5=>?_) (λc5=>?_))));exact absurd h7 c5;exact isk (bn' (itn (irg U (z0x U (wi6 oo) (mv U (inl (v4y (j+1) (.c7 U U U U U U U) ⟨(e1.z3 i1 i2 g0),oo⟩ oo)))))));obtain rfl:j=((q.r x).getD i iq0).2.length:=by omega
 exact iex (te (te (xh (bn' (itn (irg U (z0x U (wi6 oo) (mv U (inl (v4y (i+1) (.c4 U U U U) ⟨(b9.n1 e1),oo⟩ oo))))))))));obtain rfl:i=(q.r x).length:=by omega
 exact iex (te (te (xh (bn' (u6y (S:=[]) b9 sp0 (λb M=>by rw[List.mem_singleton.1 M];omega) sp0 ⟨(e0.n1 b9),trivial⟩)))));rintro D2 g4 l4 k6 hS ⟨a6,-⟩ b2;have o3:=a6.size;have d4:=b2;have f9:=b2.lt;refine bn' (itn (isq (irg U ?_)));replace a1:=a1.ext (q8.n1 a6);refine z0m U a1 z4x ?_;replace hB:=a0.ext (q1.n5 q2 q3 q7 q8 a6);refine cl (ev1 U) (mkC func24) (y4l q _ hB oo oo (by assumption) (by assumption)) U ?_;rintro _ l5 ⟨rfl,a3⟩;have o4:=a3.size;refine x7n idV U underlying190 U (λD l6 j9 hm a7 o5=>?_);rw[<-x4q]at hm;refine al u8c U (λk1 l7 j7 b0 a4 o6=>(z3u U U b0 U u7l (λl8 b0 a5 o7=>(inl (itn (isq (isq (irg U ?_))))))));replace a1:=(a1.ext (a3.n2 a7 a4)).fr a5;refine z0m U a1 z4x (cl (ev1 U) (mkC func108) (y8k q _) U ?_);rintro _ e5 ⟨g8,rfl,h3,b6,O⟩;have o8:=O.size;refine inl (itn (ibl ?_));have i0:=b6.lt;replace hm:=((hm.ext a4).fr a5 so).ext O;refine v2k (α:=Bool) U (mkC func154) dd (y3d 8 g8 q e5 b6) (λb M=>by rw[List.mem_singleton.1 M];exact b6.lt) (λ_=>rfl) (λx=>[(64,.slice (q.h x).1 (q.h x).2.1 (q.h x).2.2),(63,.int .u8 (y2y x))]) (λx=>by simp[bdE,y2y,slv]) (λ_=>rfl) (λ(s:List (Bool)) (W:World)=>Fr [D] e5 W/\MapF idV W D (z9w (y5d q s))/\(y5d q s).Nodup) (λ(_:List (Bool)) (W:World)=>Fr [D,g2] e5 W/\Blk W g2 35 [.int .i64 8]/\¬q.p.flat.Nodup) (λs W W' ht h=>⟨h.1.turn ht (Nat.le_refl _),⟨h.2.1.turn ht oo,h.2.2⟩⟩) (λs W W' ht h=>⟨h.1.turn ht (Nat.le_refl _),⟨h.2.1.turn ht,h.2.2⟩⟩) ⟨Fr.refl _ _,⟨hm,by simp[y5d]⟩⟩ (λx=>[(15,.slice (q.h x).1 (q.h x).2.1 (q.h x).2.2)]) [(1,_),(2,_),(13,_)] (.c3 U U U) ?_ ?_ ?_ ?_;rintro lN a8 x l9 ⟨k9,⟨hm,a2⟩⟩;exact x2a [(63,.int .u8 (y2y x)),(64,.slice (q.h x).1 (q.h x).2.1 (q.h x).2.2),(1,_),(2,_),(13,_)] (.c5 U U U U U) (irg U (asg U (inl (asU (.c4 U U U U)))));rintro lN a8 x i9 f2 ⟨b7,⟨hm,a2⟩⟩ f3 e4;have o9:=b7.size;have f1:=(BdS.len a0.s x);have f5:(q.r x).length<=40:=by cases x<;>assumption
 have d6:z9p (q.r x):=by cases x<;>assumption
 have h5:=hm;refine ibl (isq (irg U (mv U (lnS U underlying23 (mv U (inl (itn (ibl (v5n (ι:=Nat) [(2,_),(13,_),(65,_),(66,_)] (λi=>[(67,.int .i64 (i:Int))]) (λi w'=>Fr [D] i9 w'/\i<=(q.r x).length/\MapF idV w' D (z9w (y5d q a8++x0t q x i))/\(y5d q a8++x0t q x i).Nodup) (λi=>(q.r x).length-i) 0 (.c5 U U U U U) ⟨Fr.refl _ _,⟨Nat.zero_le _,by simpa[x0t] using And.intro hm a2⟩⟩ ?_)))))))));rintro i j0 ⟨a9,⟨hi,⟨hm,a2⟩⟩⟩;have p0:=a9.size;refine x2a [(2,_),(13,_),(65,_),(66,_),(67,_)] (.c5 U U U U U) (isq (irg U (lt' U (inl (itn (isq (icd U (λc6=>?_) (λc6=>?_))))))));have f7:=z2e (z2b (a0.iq x) i);have f6:=z3n d6 i;refine isk (itn (isq (ibl (isq (irg U ?_)))));replace hB:=a0.ext ((((q1.n6 q2 q3 q7 q8 a6 a3).n1 a7).n1 a4).z4 a5 O b7 a9);refine z1d (iq0) U (hB.s.sel x) U y4x z1j (λj4 e9=>?_);refine z1k U (e9 _ (hB.s.sel x)) z6h (asg U (inl (itn (isq (irg U (mv U (lnS U underlying30 (mv U (inl (itn (ibl (v5n (ι:=Nat) [(2,_),(13,_),(65,_),(66,_),(67,_),(71,_),(72,_)] (λj=>[(73,.int .i64 (j:Int))]) (λj w'=>Fr [D] j0 w'/\j<=((q.r x).getD i iq0).2.length/\MapF idV w' D (z9w (y5d q a8++x0t q x i++((q.r x).getD i iq0).2.take j))/\(y5d q a8++x0t q x i++((q.r x).getD i iq0).2.take j).Nodup) (λj=>((q.r x).getD i iq0).2.length-j) 0 (.c8 U U U U U U U U) ⟨Fr.refl _ _,⟨Nat.zero_le _,by rw[List.take_zero,List.append_nil];exact⟨hm,a2⟩⟩⟩ ?_))))))))))));rintro j m0 ⟨b3,⟨hj,⟨hm,a2⟩⟩⟩;have p1:=b3.size;refine x2a [(2,_),(13,_),(65,_),(66,_),(67,_),(71,_),(72,_),(73,_)] (.c8 U U U U U U U U) (isq (irg U (lt' U (inl (itn (isq (icd U (λc7=>?_) (λc7=>?_))))))));refine isk (itn (isq (ibl (isq (irg U ?_)))));replace hB:=a0.ext ((((q1.n6 q2 q3 q7 q8 a6 a3).n1 a7).n1 a4).z5 a5 O b7 a9 b3);refine z1d (id0) U (z2b (hB.iq x) i) U z3x z1j (λj5 f0=>?_);refine z1q U (f0 _ (z2b (hB.iq x) i)) z2q (al z7r U (λk2 m1 j8 b8 c9 p2=>?_));refine z0j (vs:=[_,_]) U b8 z5y (λm2 b8 d0 p3=>?_) (h1:=(by first|(simp[Value.oneCell',S];done)|exact z1b.one (((q.r x).getD i iq0).2.getD j id0)));refine inl (itn (isq (isq (irg U ?_))));replace b0:=(((((b0.ext O).fr b7).fr a9).fr b3).ext c9).fr d0;refine z2r U b0 v1h (z0m U b8 z2q ?_);replace hm:=(hm.ext c9).fr d0 so;refine y8g (V:=idV) (k:=(((q.r x).getD i iq0).2.getD j id0)) (f:=z9w (y5d q a8++x0t q x i++((q.r x).getD i iq0).2.take j)) U U hm z5x underlying190 zv4 (x5z _ _) U (inl (itn (icd U (λc8=>?_) (λc8=>?_))));have f4:¬q.p.flat.Nodup:=λh=>u2r (j:=j) h e4 (i:=i) oo oo c8;refine isq (irg U ?_);replace I:=(((((((I.ext (q3.n6 q7 q8 a6 a3 a7 a4)).fr a5).ext O).fr b7).fr a9).fr b3).ext c9).fr d0;exact z3u U U I U sz35 (λm3 I g3 p4=>(kpL [(2,_)] (.cons U .nil) (inl (itn (irt (tr (rb (tr (tr (rb (rb (tr (tr (rb (rb (rndR (S:=[D,g2]) ((Fr.refl [D,g2] _).z5 a9 b3 c9 d0 g3) (by intro k hk _;right;simp at hk;omega) ⟨((Fr.refl [D,g2] _).z6 b7 a9 b3 c9 d0 g3),⟨I,f4⟩⟩))))))))))))))));refine isk (itn (irg U (z2r U b0 v1h (z0m U b8 z2q (y8m (V:=idV) (k:=(((q.r x).getD i iq0).2.getD j id0)) U U U hm z5x underlying190 (λm4 hm i3 p5=>?_))))));rw[y9b]at hm;exact inl (bn' (itn (irg U (z0x U (wi6 oo) (mv U (inl (v4y (j+1) (.c8 U U U U U U U U) ⟨((Fr.refl [D] _).z4 b3 c9 d0 i3),⟨oo,by rw[z4s id0 oo,<-List.append_assoc];exact⟨hm,List.nodup_append.2 ⟨a2,sp0,λa ha b hb e=>c8 (by rw[<-List.mem_singleton.1 hb,<-e];exact ha)⟩⟩⟩⟩ oo)))))));obtain rfl:j=((q.r x).getD i iq0).2.length:=by omega
 rw[List.take_length]at hm a2;exact iex (te (te (xh (bn' (itn (irg U (z0x U (wi6 oo) (mv U (inl (v4y (i+1) (.c5 U U U U U) ⟨((Fr.refl [D] _).z2 a9 b3),⟨oo,by rw[x0y q x oo,<-List.append_assoc];exact⟨hm,a2⟩⟩⟩ oo))))))))));obtain rfl:i=(q.r x).length:=by omega
 rw[v7k]at hm a2;exact iex (te (te (xh (bn' (u6y (S:=[D]) ((Fr.refl [D] _).z1 a9) (λk hk _=>.inr (by cases List.mem_singleton.1 hk;exact⟨oo,h5.noncells⟩)) (λb M=>by rw[List.mem_singleton.1 M];omega) (λb M e=>by rw[List.mem_singleton.1 M]at e;simp at e;omega) ⟨((Fr.refl [D] _).z2 b7 a9),by rw[v0b];exact⟨hm,a2⟩⟩)))));rintro D3 g4 m5 g9 hS ⟨d9,⟨hm,a2⟩⟩ Z;have p6:=d9.size;have d5:=Z;have d7:=Z.lt;refine bn' (itn (isq (irg U ?_)));replace I:=(((I.ext (q3.n6 q7 q8 a6 a3 a7 a4)).fr a5).ext O).fr d9;refine z3u U U I U sz35 (λm6 I e2 p7=>(inl (itn (irt ?_))));replace Z:=d5.fr ((Fr.refl [g2] _).z1 e2) so;replace b2:=d4.fr (((Fr.refl [g2] _).z6 a3 a7 a4 a5 O d9).z1 e2) so;replace b1:=d3.fr ((((Fr.refl [g2] _).z6 q8 a6 a3 a7 a4 a5).n1 O).z2 d9 e2) so;refine rM1c results50 U I na35 (v9y Z b2 b1) so ?_;intro m7 i4;exact⟨_,rfl,by rw[if_pos (by rw[<-x6r];subst hS;exact a2)],((((q1.n6 q2 q3 q7 q8 a6 a3).n1 a7).n1 a4).z5 a5 O d9 e2 i4)⟩;rintro D3 _ m8 g9 _ ⟨e3,⟨I,h6⟩⟩ Z;have p8:=e3.size;have d5:=Z;have d7:=Z.lt;have g5:=I.lt;refine rb (tr ?_);replace b2:=d4.fr ((Fr.refl [g2] _).z6 a3 a7 a4 a5 O e3) so;replace b1:=d3.fr ((((Fr.refl [g2] _).z6 q8 a6 a3 a7 a4 a5).n1 O).z1 e3) so;refine rM1c results50 U I na35 (v9y Z b2 b1) so ?_;intro m9 i5;exact⟨_,rfl,by rw[if_neg h6],((((q1.n6 q2 q3 q7 q8 a6 a3).n1 a7).n1 a4).z4 a5 O e3 i5)⟩
theorem y4j (q:BdQ)(w0:World)(I:BdAt w0 q)(D:BdOk q.p):Rets prog 50 #[.agg #[.slice q.f.1 q.f.2.1 q.f.2.2,.slice q.b.1 q.b.2.1 q.b.2.2]] w0 λr w'=>r=.int .i64 0/\Fr [] w0 w':=by
 have x:=v8v q w0 I D.w;rw[if_pos D.nd]at x;exact x
theorem y9q (q:BdQ)(b:Int)(n:Nat)(v:Value)(l:List LId)(w0:World)(hB:BdAt w0 q)(hs:Sl z1b w0 v l)(hv:BdOk q.p)(hn:z4g b (n:Int)=0)(e9:l.length<=4)(f1:∀i∈l,y1j i)(hd:∀i,q.p.flat.count i+l.count i<=(q.p.at b (n:Int)).count i+1):Rets prog 134 #[.agg #[.slice q.f.1 q.f.2.1 q.f.2.2,.slice q.b.1 q.b.2.1 q.b.2.2],.agg #[.int .u8 b,.int .i64 (n:Int)],v] w0 λr w'=>(∃q':BdQ,r=.tuple #[.agg (bdL q').toArray,.int .i64 0]/\BdO 30 64 w0.heap.size w' q'/\q'.p=q.p.put b (n:Int) l)/\Fr [] w0 w':=by
 obtain⟨⟨hf,hb⟩,h4,e7⟩:=z3o hv;have i5:=z3a hn;obtain⟨A,c,rfl,h9⟩:=id hs.form;refine weM [(0,.agg #[.slice q.f.1 q.f.2.1 q.f.2.2,.slice q.b.1 q.b.2.1 q.b.2.2]),(1,.agg #[.int .u8 b,.int .i64 (n:Int)]),(2,.slice A l.length c)] func134 U ntmps134 U (.c3 U U U) ?_;have b0:=hB;have b8:=hs;refine isq (irg U (bx U (λg3 w1 i0 a4 q1 z1=>(bx U (λg4 w2 i1 a5 q2 z2=>(al x2z U (λg6 w3 i2 b5 q3 z3=>(asg U (inl (itn (isq (isq (irg U ?_)))))))))))));replace a4:=a4.ext (q2.n1 q3);refine z0m U a4 z4x ?_;replace hB:=b0.ext (q1.n2 q2 q3);refine cl (ev1 U) (mkC func50) (y4j q _ hB hv) U ?_;rintro _ w4 ⟨rfl,q4⟩;have z4:=q4.size;refine asg U (inl (itn (isq (irg U (mv U (ne' U (inl (itn (icd U (λc0=>?_) (λc0=>?_))))))))));exact absurd U c0;refine isk (itn (isq (isq (irg U ?_))));replace a5:=a5.ext (q3.n1 q4);refine z0m U a5 z5r (cl (ev1 U) v6a (z4t _ _ _) U ?_);rintro _ w5 ⟨rfl,q5⟩;have z5:=q5.size;refine ne' U (inl (itn (icd U (λc1=>?_) (λc1=>?_))));exact absurd hn (by simpa using c1);refine isk (itn (isq (isq (irg U (mv U (lnS U underlying30 (mv U (inl (itn (ibl (v5n (ι:=Nat) [(2,_),(3,_),(4,_),(6,_),(28,_),(29,_)] (λj=>[(30,.int .i64 (j:Int))]) (λj w'=>Fr [] w5 w'/\j<=l.length) (λj=>l.length-j) 0 (.c7 U U U U U U U) ⟨Fr.refl _ _,Nat.zero_le _⟩ ?_)))))))))));rintro j w6 ⟨q6,hj⟩;have z6:=q6.size;refine x2a [(2,_),(3,_),(4,_),(6,_),(28,_),(29,_),(30,_)] (.c7 U U U U U U U) (isq (irg U (lt' U (inl (itn (isq (icd U (λc2=>?_) (λc2=>?_))))))));have f0:=f1 _ (z1a (d:=id0) (i:=j) (l:=l) oo);refine isk (itn (isq (ibl (isq (irg U ?_)))));replace hs:=b8.ext (q1.n5 q2 q3 q4 q5 q6);refine z1d (id0) U hs U z3x z1j (λg0 d5=>?_);refine z1q U (d5 _ hs) z2q (al z7r U (λh3 w7 g7 b3 q7 z7=>?_));refine z0j (vs:=[_,_]) U b3 z5y (λw8 b3 q8 z8=>?_) (h1:=(by first|(simp[Value.oneCell',S];done)|exact z1b.one _));refine inl (itn (isq (irg U (z0m U b3 z2q (cl (ev1 U) (mkC func109) (y7v (l.getD j id0) _) U ?_)))));rintro _ w9 ⟨rfl,q9⟩;have z9:=q9.size;refine nt' U (inl (itn (icd U (λc3=>?_) (λc3=>?_))));exact absurd f0 c3;exact isk (bn' (itn (irg U (z0x U (wi6 oo) (mv U (inl (v4y (j+1) (.c7 U U U U U U U) ⟨(q6.z3 q7 q8 q9),oo⟩ oo)))))));obtain rfl:j=l.length:=by omega
 refine iex (te (te (xh (itn (isq (isq (irg U (mv U (lnS U underlying30 (gt' U (kpL [(2,_),(3,_),(4,_),(6,_),(41,_)] (.c5 U U U U U) (inl (itn (icd U (λc4=>?_) (λc4=>?_)))))))))))))));exfalso;omega;refine isk (itn (isq (irg U (y4b idV U (λD j3 h2 O a2 l2=>?_)))));rw[<-x4q]at O;refine al u8c U (λh5 j4 g8 I Z l3=>(z3u U U I U u7l (λj5 I a0 l4=>(inl (itn (isq (isq (irg U ?_))))))));replace a4:=(a4.ext (q4.n4 q5 q6 a2 Z)).fr a0;refine z0m U a4 z4x (cl (ev1 U) (mkC func55) (y6q q _) U ?_);rintro _ e5 ⟨e6,rfl,e8,b6,M⟩;have l5:=M.size;refine inl (itn (ibl ?_));have a7:∀b∈bdB q,b<w0.heap.size:=BdS.lt b0.s;replace O:=((O.ext Z).fr a0 so).ext M;replace hB:=b0.ext ((((q1.n6 q2 q3 q4 q5 q6 a2).n1 Z).z1 a0).n1 M);refine j4g (α:=Bool×Nat) U (mkC func116) dd (y4y 8 e6 q e5 dd b6 hB.s hf hb) (BdS.lt hB.s) (λ_=>rfl) (λx=>[(47,.slice ((q.r x.1).getD x.2 iq0).1.1 ((q.r x.1).getD x.2 iq0).1.2.1 ((q.r x.1).getD x.2 iq0).1.2.2),(46,.agg #[.int .u8 (y2y x.1),.int .i64 ((x.2:Int)+1)])]) (λx=>by simp[ndE,slv]) (λ_=>rfl) (λ(s:List (Bool×Nat)) (W:World)=>Fr [D] e5 W/\MapF idV W D (z9w (x2q q b (n:Int) s))) (λ_ _=>False) (λs W W' ht h=>⟨h.1.turn ht (Nat.le_refl _),h.2.turn ht oo⟩) (λ_ _ _ _ h=>h.elim) (λs W h=>h.1.size) ⟨Fr.refl _ _,O⟩ 42 (λx=>[.int .u8 (y2y x.1),.int .i64 ((x.2:Int)+1)]) (λg x=>[(12,.pointer (some ⟨g,0,none⟩)),(13,.slice ((q.r x.1).getD x.2 iq0).1.1 ((q.r x.1).getD x.2 iq0).1.2.1 ((q.r x.1).getD x.2 iq0).1.2.2)]) [(4,_),(11,_)] (.c2 U U) ?_ ?_ ?_ (λ_ _ _ _ _ h _=>h.elim);rintro lN e3 x j6 ⟨j2,O⟩ i9;refine x2a [(46,.agg #[.int .u8 (y2y x.1),.int .i64 ((x.2:Int)+1)]),(47,.slice ((q.r x.1).getD x.2 iq0).1.1 ((q.r x.1).getD x.2 iq0).1.2.1 ((q.r x.1).getD x.2 iq0).1.2.2),(4,_),(11,_)] (.c4 U U U U) (isq (irg U (al v4k U (λd4 j7 d9 a3 f4 l6=>?_))));refine z0j (vs:=[_,_]) U a3 y5s (λj8 a3 f5 l7=>?_) (h1:=(by first|(simp[Value.oneCell',S];done)|exact z1b.one _));exact inl (itn (irg U (asg U (inl (asE d4 oo (.c4 U U U U) a3 (f4.z1 f5))))));rintro lN e3 x d4 f8 i3 d9 a3 ⟨b1,O⟩ i4 i7;have l8:=b1.size;have e1:=a3.lt;have e0:=O;have i8:(q.r x.1).length<=40:=by cases x.1<;>assumption
 have j0:=z3n (show z9p (q.r x.1) by cases x.1<;>assumption) x.2;have j1:((q.r x.1).getD x.2 iq0).1.2.1=((q.r x.1).getD x.2 iq0).2.length:=z2e (z2b (b0.iq x.1) x.2);refine ibl (isq (irg U (z0m U a3 z5r ?_)));replace a5:=(((a5.ext (q5.n3 q6 a2 Z)).fr a0).ext M).fr b1;refine z0m U a5 z5r (u1v (V:=ndV) (e:=(y2y x.1,(x.2:Int)+1)) (f:=(b,(n:Int))) U U j3k U (inl (itn (icd U (λc5=>?_) (λc5=>?_)))));refine isq (irg U (mv U (lnS U underlying30 (mv U (inl (itn (ibl (v5n (ι:=Nat) [(11,_),(51,_),(52,_)] (λj=>[(53,.int .i64 (j:Int))]) (λj w'=>Fr [D] f8 w'/\j<=((q.r x.1).getD x.2 iq0).2.length/\MapF idV w' D (z9w (x2q q b (n:Int) e3++((q.r x.1).getD x.2 iq0).2.take j))) (λj=>((q.r x.1).getD x.2 iq0).2.length-j) 0 (.c4 U U U U) ⟨Fr.refl _ _,⟨Nat.zero_le _,by rw[List.take_zero,List.append_nil];exact O⟩⟩ ?_))))))));rintro j j9 ⟨b2,⟨hj,O⟩⟩;have l9:=b2.size;refine x2a [(11,_),(51,_),(52,_),(53,_)] (.c4 U U U U) (isq (irg U (lt' U (inl (itn (isq (icd U (λc6=>?_) (λc6=>?_))))))));refine isk (itn (isq (ibl (isq (irg U ?_)))));replace hB:=b0.ext ((((q1.n6 q2 q3 q4 q5 q6 a2).n1 Z).z1 a0).z3 M b1 b2);refine z1d (id0) U (z2b (hB.iq x.1) x.2) U z3x z1j (λg1 d6=>?_);refine z1q U (d6 _ (z2b (hB.iq x.1) x.2)) z2q (al z7r U (λh6 k0 g9 b4 b9 m0=>?_));refine z0j (vs:=[_,_]) U b4 z5y (λk1 b4 c9 m1=>?_) (h1:=(by first|(simp[Value.oneCell',S];done)|exact z1b.one _));refine inl (itn (irg U ?_));replace I:=((((I.ext M).fr b1).fr b2).ext b9).fr c9;refine z2r U I v1h (z0m U b4 z2q ?_);replace O:=(O.ext b9).fr c9 so;refine y8m (V:=idV) (k:=(((q.r x.1).getD x.2 iq0).2.getD j id0)) U U U O z5x underlying190 (λk2 O f6 m2=>?_);rw[y9b]at O;exact inl (bn' (itn (irg U (z0x U (wi6 oo) (mv U (inl (v4y (j+1) (.c4 U U U U) ⟨((Fr.refl [D] _).z4 b2 b9 c9 f6),⟨oo,by rw[z4s id0 oo,<-List.append_assoc];exact O⟩⟩ oo)))))));obtain rfl:j=((q.r x.1).getD x.2 iq0).2.length:=by omega
 rw[List.take_length]at O;exact iex (te (te (xh (bn' (u6y (S:=[D]) ((Fr.refl [D] _).z1 b2) (λk hk _=>.inr (by cases List.mem_singleton.1 hk;exact⟨oo,e0.noncells⟩)) (λb hb=>Nat.lt_of_lt_of_le (a7 b hb) oo) (λb hb e=>by simp at e;have:=a7 b hb;omega) ⟨((Fr.refl [D] _).z2 b1 b2),by rw[x1d,oth,if_neg c5];exact O⟩)))));exact isk (bn' (u6y (S:=[D]) (Fr.refl _ _) (λk hk _=>.inr (by cases List.mem_singleton.1 hk;exact⟨oo,e0.noncells⟩)) (λb hb=>Nat.lt_of_lt_of_le (a7 b hb) oo) (λb hb e=>by simp at e;have:=a7 b hb;omega) ⟨((Fr.refl [D] _).z1 b1),by rw[x1d,oth,if_pos (Classical.not_not.1 c5),List.append_nil];exact O⟩));rintro D1 l1 f9 h8 hS ⟨a6,O⟩ a9;have m3:=a6.size;have b7:=a9;have e2:=a9.lt;subst hS;refine bn' (itn (isq (isq (irg U (mv U (lnS U underlying30 (mv U (inl (itn (ibl (v5n (ι:=Nat) [(2,_),(3,_),(4,_),(6,_),(11,_),(60,_),(61,_)] (λj=>[(62,.int .i64 (j:Int))]) (λj w'=>Fr [D] f9 w'/\j<=l.length/\MapF idV w' D (z9w (x2q q b (n:Int) (ndP q [false,true])++l.take j))) (λj=>l.length-j) 0 (.c8 U U U U U U U U) ⟨Fr.refl _ _,⟨Nat.zero_le _,by rw[List.take_zero,List.append_nil];exact O⟩⟩ ?_)))))))))));rintro j k4 ⟨a1,⟨hj,O⟩⟩;have m4:=a1.size;refine x2a [(2,_),(3,_),(4,_),(6,_),(11,_),(60,_),(61,_),(62,_)] (.c8 U U U U U U U U) (isq (irg U (lt' U (inl (itn (isq (icd U (λc7=>?_) (λc7=>?_))))))));have f2:=u3j (j:=j) hn hd oo;refine isk (itn (isq (ibl (isq (irg U ?_)))));replace hs:=b8.ext ((((q1.n6 q2 q3 q4 q5 q6 a2).n1 Z).z1 a0).z3 M a6 a1);refine z1d (id0) U hs U z3x z1j (λg5 d7=>?_);refine z1q U (d7 _ hs) z2q (al z7r U (λh7 k5 h0 a8 d0 m5=>?_));refine z0j (vs:=[_,_]) U a8 z5y (λk6 a8 d1 m6=>?_) (h1:=(by first|(simp[Value.oneCell',S];done)|exact z1b.one _));refine inl (itn (isq (isq (irg U ?_))));replace I:=((((I.ext M).fr a6).fr a1).ext d0).fr d1;refine z2r U I v1h (z0m U a8 z2q ?_);replace O:=(O.ext d0).fr d1 so;refine y8g (V:=idV) (k:=(l.getD j id0)) (f:=z9w (x2q q b (n:Int) (ndP q [false,true])++l.take j)) U U O z5x underlying190 zv4 (x5z _ _) U (inl (itn (icd U (λc8=>?_) (λc8=>?_))));exact absurd c8 f2;refine isk (itn (irg U (z2r U I v1h (z0m U a8 z2q (y8m (V:=idV) (k:=(l.getD j id0)) U U U O z5x underlying190 (λk7 O f7 m7=>?_))))));rw[y9b]at O;exact inl (bn' (itn (irg U (z0x U (wi6 oo) (mv U (inl (v4y (j+1) (.c8 U U U U U U U U) ⟨((Fr.refl [D] _).z4 a1 d0 d1 f7),⟨oo,by rw[z4s id0 oo,<-List.append_assoc];exact O⟩⟩ oo)))))));obtain rfl:j=l.length:=by omega
 refine iex (te (te (xh (itn (isq (irg U ?_))))));replace a4:=((a4.ext M).fr a6).fr a1;refine z0m U a4 z4x ?_;replace a5:=((((a5.ext (q5.n3 q6 a2 Z)).fr a0).ext M).fr a6).fr a1;refine z0m U a5 z5r (mv U ?_);replace hB:=b0.ext ((((q1.n6 q2 q3 q4 q5 q6 a2).n1 Z).z1 a0).z3 M a6 a1);replace hs:=b8.ext ((((q1.n6 q2 q3 q4 q5 q6 a2).n1 Z).z1 a0).z3 M a6 a1);refine cl (ev3 U) (mkC func162) (y4c q b n _ l _ hB hs hn hf hb h4 e7 e9) U ?_;rintro _ k8 ⟨⟨q',rfl,a7,f3⟩,q27⟩;have m8:=q27.size;replace b5:=(((((b5.ext (q4.n4 q5 q6 a2 Z)).fr a0).ext M).fr a6).fr a1).ext q27;refine z0j (vs:=[_,_]) U b5 y7s (λk9 b5 d3 m9=>?_) (h1:=(by first|(simp[Value.oneCell',S];done)|exact z1b.one _));refine asg U (kpL [(6,_),(7,_)] (.c2 U U) (inl (itn (irt ?_))));replace a9:=b7.fr ((Fr.refl [g6,D] _).z3 a1 q27 d3) so;refine rMCT results134 U b5 z4x U (x6q a9) sp0 ?_;intro l0 e4;replace a7:=(a7.fr d3 (by intro k hk;simp at hk;omega)).fr e4 (by intro k hk;simp at hk;omega);exact⟨_,rfl,⟨q',rfl,a7.low oo,f3⟩,((((q1.n6 q2 q3 q4 q5 q6 a2).n1 Z).z1 a0).z6 M a6 a1 q27 d3 e4)⟩
theorem x9f:CallOf prog 33:=mkC func33
theorem y8v (q:BdQ)(b:Int)(n m:Nat)(w0:World)(hB:BdAt w0 q)(hv:BdOk q.p)(hn:z4g b (n:Int)=0)(hm:z4g (1-b) (m:Int)=0)(e4:(q.p.at b (n:Int))≠[]):Rets prog 124 #[.agg #[.slice q.f.1 q.f.2.1 q.f.2.2,.slice q.b.1 q.b.2.1 q.b.2.2],.agg #[.int .u8 b,.int .i64 (n:Int)],.agg #[.int .u8 (1-b),.int .i64 (m:Int)]] w0 λr w'=>(∃q':BdQ,r=.tuple #[.agg (bdL q').toArray,.int .i64 (if 4<(q.p.at b (n:Int)).length+(q.p.at (1-b) (m:Int)).length then 9 else 0)]/\(¬4<(q.p.at b (n:Int)).length+(q.p.at (1-b) (m:Int)).length->BdO 30 64 w0.heap.size w' q'/\q'.p=(q.p.put b (n:Int) []).put (1-b) (m:Int) (y0y q.p b (n:Int) (m:Int))))/\Fr [] w0 w':=by
 obtain⟨⟨hf,hb⟩,h4,b8⟩:=z3o hv;have h9:=z3a hn;have h8:=z3a hm;have h6:=y3s hv b (n:Int);have h7:=y3s hv (1-b) (m:Int);have h5:=v4e q.p b (n:Int) (m:Int);have d6:=x7r hv hn;have f5:0<(q.p.at b (n:Int)).length:=List.length_pos_iff.2 e4;refine we [(0,.agg #[.slice q.f.1 q.f.2.1 q.f.2.2,.slice q.b.1 q.b.2.1 q.b.2.2]),(1,.agg #[.int .u8 b,.int .i64 (n:Int)]),(2,.agg #[.int .u8 (1-b),.int .i64 (m:Int)])] func124 U ntmps124 U (.c3 U U U) ?_;have b9:=hB;refine sr (bx U (λg3 w1 h0 M q1 z1=>(bx U (λg4 w2 h1 D q2 z2=>(bx U (λg5 w3 h2 I q3 z3=>(al x2z U (λg6 w4 h3 Z q4 z4=>(asg U (nn (sq (sr ?_))))))))))));replace M:=M.ext (q2.n2 q3 q4);refine z0m U M z4x ?_;replace hB:=b9.ext (q1.n3 q2 q3 q4);refine cl (ev1 U) (mkC func50) (y4j q _ hB hv) U ?_;rintro _ w5 ⟨rfl,q5⟩;have z5:=q5.size;refine asg U (nn (sr (mv U (ne' U (nn (cd U (λc0=>?_) (λc0=>?_)))))));exact absurd U c0;refine sk (tn (sq (sq (v4l (r:=32) (L':=[(3,_),(4,_),(5,_),(6,_)]) ((((0≠0)\/(0≠0))\/(b=(1-b)))) (.c4 U U U U) ?_ ?_))));replace D:=D.ext (q3.n2 q4 q5);refine z0m U D z5r (cl (ev1 U) v6a (z4t _ _ _) U ?_);rintro _ w6 ⟨rfl,q6⟩;have z6:=q6.size;refine ne' U (mv U (gs 21 U (λg0=>?_) (λg0=>?_)));exact gN U (gN U (gN U (pkt U (mv U (gN U (gN U (gN U (gN U (gN U (pkt U (y2n U (.c4 U U U U) q6)))))))))));refine gY U ?_;replace I:=I.ext (q4.n2 q5 q6);refine z0m U I z5r (gY U (cl (ev1 U) v6a (z4t _ _ _) U ?_));rintro _ w7 ⟨rfl,q7⟩;have z7:=q7.size;refine gY U (ne' U (pkf U (mv U (gs 26 U (λg1=>?_) (λg1=>?_)))));exact gN U (gN U (gN U (gN U (gN U (pkt U (y2n U (.c4 U U U U) (q6.n1 q7)))))));refine gY U (fad U z5w (gY U ?_));replace D:=D.ext (q6.n1 q7);refine z0i U D U x2g (gY U (fad U z5w (gY U ?_)));replace I:=I.ext q7;exact z0i U I U x2g (gY U (eq' U (pkf U (y2n U (.c4 U U U U) (q6.n1 q7)))));intro w8 q8;have z8:=q8.size;refine tn (cd U (λc1=>?_) (λc1=>?_));exfalso;omega;refine sk (tn (sq ?_));replace hB:=b9.ext (q1.n5 q2 q3 q4 q5 q8);intro a h;refine z0h none (λwb w'=>Fr [] wb w') z2o ?_;intro w9 q9;have z9:=q9.size;replace hB:=hB.ext q9;replace M:=M.ext (q5.n2 q8 q9);replace D:=D.ext (q3.n4 q4 q5 q8 q9);replace I:=I.ext (q4.n3 q5 q8 q9);have hC:Fr [] w9 w9:=Fr.refl _ _;have b4:=hB;have a3:=M;have a4:=D;have a5:=I;refine z0w 0 h U (λ_ hw=>a3.ext hw) z4x U λa h=>z0w 1 h U (λ_ hw=>a4.ext hw) z5r U λa h=>z0w 3 h U (λ_ hw=>a3.ext hw) z4x U λa h=>z0w 4 h U (λ_ hw=>a5.ext hw) z5r U λa h=>z0d 2 U (z0n h (z0a U (z0a U z0g)) x9f (y4w q b (n:Int) _ hB oo hf hb h4 b8) ?_);rintro i0 i4 ⟨O,a6⟩ a h;have j4:=a6.size;replace hB:=hB.ext a6;replace M:=M.ext a6;replace D:=D.ext a6;replace I:=I.ext a6;replace hC:=hC.next a6;rw[z9r hn]at O;obtain⟨f6,f8,rfl,f1⟩:=O.sl.form;have b6:=λk hb=>(O.blk k hb).2;refine z0b (z0d 5 U (z0n h (z0a U (z0a U z0g)) x9f (y4w q (1-b) (m:Int) _ hB oo hf hb h4 b8) ?_));rintro i1 i5 ⟨a0,hq⟩ a h;have j5:=hq.size;replace hB:=hB.ext hq;replace M:=M.ext hq;replace D:=D.ext hq;replace I:=I.ext hq;replace O:=O.ext hq;replace hC:=hC.next hq;have b5:=hq;rw[z9r hm]at a0;obtain⟨f7,f9,rfl,f2⟩:=a0.sl.form;have b7:=λk hb=>(a0.blk k hb).2;refine z0b (z0d 6 U (z0t h U λa h=>?_));refine z0b (z0d 7 U (z0t h U λa h=>?_));refine z0b (z0r ?_);clear hC b4 a3 a4 a5;refine bk (h.sub (L':=[(3,_),(4,_),(5,_),(6,_),(9,_),(10,_)]) (.c6 U U U U U U)) (tn (sq (sr (mv U (lnS U underlying30 (eq' U (nn (cd U (λc2=>?_) (λc2=>?_)))))))));exfalso;omega;refine sk (tn (sq (sr (mv U (lnS U underlying30 (mv U (lnS U underlying30 (z0x U (wi6 oo) (gt' U (kpL [(3,_),(4,_),(5,_),(6,_),(9,_),(10,_),(49,_)] (.c7 U U U U U U U) (nn (cd U (λc3=>?_) (λc3=>?_)))))))))))));refine sr (z1s (cs:=[_,_]) z0g u6v z0q U ?_);replace Z:=Z.ext (q5.n4 q8 q9 a6 b5);exact z0j (vs:=[_,_]) U Z y7s (λi7 Z e8 j6=>(asg U (kpL [(6,_),(7,_)] (.c2 U U) (nn (rt (tr (rCT results124 U Z z4x U ⟨_,rfl,⟨bdq0,by rw[if_pos oo];rfl,λh=>absurd oo h⟩,((((q1.n6 q2 q3 q4 q5 q8 q9).n1 a6).n1 b5).z1 e8)⟩)))))));refine sk (tn (sr (mv U (cl (ev1 U) (mkC func83) (y8z _ (q.p.at (1-b) (m:Int)) _ a0.sl oo) U ?_))));rintro _ i8 ⟨g7,rfl,f3,hX,a7⟩;have j7:=a7.size;refine mv U ?_;replace O:=O.ext a7;replace a0:=a0.ext a7;replace M:=M.ext a7;replace D:=D.ext a7;replace I:=I.ext a7;replace Z:=Z.ext (q5.n5 q8 q9 a6 b5 a7);have a1:=hX;refine z1z U hX O.sl z3x (λi2 e9 hX a8 e5=>?_) (hM:=(by unfold maxLen;omega)) (hb:=oo);have j8:=a8.size;replace O:=O.fr a8 (λk hk hb=>by have:=(a1.blk k hk).1;have:=b6 k hb;omega);replace a0:=a0.fr a8 (λk hk hb=>by have:=(a1.blk k hk).1;have:=b7 k hb;omega);replace M:=M.fr a8 (λhk=>by have:=(a1.blk _ hk).1;omega);replace D:=D.fr a8 (λhk=>by have:=(a1.blk _ hk).1;omega);replace I:=I.fr a8 (λhk=>by have:=(a1.blk _ hk).1;omega);replace Z:=Z.fr a8 (λhk=>by have:=(a1.blk _ hk).1;omega);refine asg U (nn (jn (ι:=Value) [(3,_),(4,_),(5,_),(6,_)] (λp=>[(11,p)]) (λp w'=>Fr [] e9 w'/\Lw.Own z1b 64 w0.heap.size w' p (y0y q.p b (n:Int) (m:Int))) (.c4 U U U U) ?_ ?_));refine sr (fad U z5w (z0i U D U x2g (eq' U (nn (cd U (λc4=>?_) (λc4=>?_))))));refine rg (mv U (cl (ev1 U) (mkC func83) (y8z _ (q.p.at b (n:Int)) _ O.sl oo) U ?_));rintro _ i9 ⟨g8,rfl,f4,hY,a9⟩;have j9:=a9.size;refine mv U ?_;replace O:=O.ext a9;replace a0:=a0.ext a9;replace M:=M.ext a9;replace D:=D.ext a9;replace I:=I.ext a9;replace Z:=Z.ext a9;have a2:=hY;refine z1z U hY a0.sl z3x (λi3 j0 hY b0 e6=>?_) (hM:=(by unfold maxLen;omega)) (hb:=oo);have k0:=b0.size;replace O:=O.fr b0 (λk hk hb=>by have:=(a2.blk k hk).1;have:=b6 k hb;omega);replace a0:=a0.fr b0 (λk hk hb=>by have:=(a2.blk k hk).1;have:=b7 k hb;omega);replace M:=M.fr b0 (λhk=>by have:=(a2.blk _ hk).1;omega);replace D:=D.fr b0 (λhk=>by have:=(a2.blk _ hk).1;omega);replace I:=I.fr b0 (λhk=>by have:=(a2.blk _ hk).1;omega);replace Z:=Z.fr b0 (λhk=>by have:=(a2.blk _ hk).1;omega);exact asg U (kpL [(3,_),(4,_),(5,_),(6,_),(11,_)] (.c5 U U U U U) (nl (jE (_) (.c5 U U U U U) ⟨(a9.step b0 (λk hk d5=>absurd (a2.blk k hk).1 oo)),(by unfold y0y;rw[if_pos oo];exact hY.low oo)⟩)));exact sk (jE (_) (.c5 U U U U U) ⟨(Fr.refl _ _),(by unfold y0y;rw[if_neg oo];exact hX.low oo)⟩);rintro vS j1 ⟨b2,hS⟩;have k1:=b2.size;refine kpC [(3,_),(4,_),(5,_),(6,_),(11,vS)] (.c5 U U U U U) ?_;obtain⟨AS,cS,rfl,g9⟩:=hS.sl.form;refine sq ?_;replace hB:=b9.ext ((((((q1.n6 q2 q3 q4 q5 q8 q9).n1 a6).n1 b5).n1 a7).step a8 (λk hk d5=>absurd (a1.blk k hk).1 oo)).next b2);intro a h;refine z0h (some 6) (λwb w'=>Fr [] wb w') z2o ?_;intro d9 b1;have k2:=b1.size;replace hB:=hB.ext b1;replace M:=M.ext (b2.n1 b1);replace D:=D.ext (b2.n1 b1);replace I:=I.ext (b2.n1 b1);replace Z:=Z.ext (b2.n1 b1);replace hS:=hS.ext b1;have hC:Fr [] d9 d9:=Fr.refl _ _;have b4:=hB;have a3:=M;have a4:=D;have a5:=I;have d0:=Z;have d3:=hS;refine z0w 0 h U (λ_ hw=>a3.ext hw) z4x U λa h=>z0w 1 h U (λ_ hw=>a4.ext hw) z5r U λa h=>z0w 3 h U (λ_ hw=>a5.ext hw) z5r U λa h=>z0e 4 h U λa h=>z0d 2 U (z0n h (z0a U (z0a U (z0a U z0g))) (mkC func162) (y4c q b n _ [] _ hB (Sl.nil _) hn hf hb h4 b8 (Nat.zero_le _)) ?_);rintro _ j2 ⟨⟨qa,rfl,e1,d7⟩,q19⟩ a h;have k4:=q19.size;replace hS:=hS.ext q19;replace hC:=hC.next q19;rw[<-d7]at d6;obtain⟨⟨e3,e2⟩,e0,d1⟩:=z3o d6;refine z0b (z0d 5 U (z0n h (z0a U (z0a U (z0a U z0g))) (mkC func162) (y4c qa (1-b) m _ (y0y q.p b (n:Int) (m:Int)) _ e1.at hS.sl hm e3 e2 e0 d1 oo) ?_));rintro _ j3 ⟨⟨qb,rfl,c9,e7⟩,q20⟩ a h;have k5:=q20.size;replace M:=M.ext (q19.n1 q20);replace D:=D.ext (q19.n1 q20);replace I:=I.ext (q19.n1 q20);replace Z:=Z.ext (q19.n1 q20);replace hC:=hC.next q20;refine z0b (z0d 6 U (z0p h U Z U y7s λf0 d4 b3 hz a h=>?_));have k6:=b3.size;replace M:=M.fr b3;replace D:=D.fr b3;replace I:=I.fr b3;replace c9:=c9.fr b3 (by intro k hk;simp at hk;omega);clear Z hz;have Z:Blk f0 g6 _ [_,_]:=d4;clear d4;refine z1n (z0d 7 U (z0t h U λa h=>?_));refine z1n (z0r ?_);clear hC b4 a3 a4 a5 d0 d3;exact bk (h.sub (L':=[(6,_),(7,_)]) (.c2 U U)) (tn (rt (rCT results124 U Z z4x U ⟨_,rfl,⟨qb,by rw[if_neg oo],λ_=>⟨c9.low oo,by rw[e7,d7]⟩⟩,((((((((((q1.n6 q2 q3 q4 q5 q8 q9).n1 a6).n1 b5).n1 a7).step a8 (λk hk d5=>absurd (a1.blk k hk).1 oo)).next b2).next b1).next q19).next q20).sp b3)⟩)))
end Go.Proofs.YtlfdhllfmoplgaaGreatDoor
namespace Go.G08
open Go.Lw Go.G21
abbrev v9t:List Value:=[.int .i64 (-1),.int .i64 1]
theorem y5i {d:Int}(h:d=0\/d=1):v9t[d.toNat*1]?=some (.int .i64 (stI d)):=by
 rcases h with rfl|rfl<;>rfl
def z9s (x y:Int):Int:=if x<y then -1 else if y<x then 1 else 0
theorem z9c {x y:Int}:z9s x y<0↔x<y:=by
 unfold z9s;split;simp[*];split<;>simp[*]
abbrev hdL (h:Hd):List Value:=[.int .u8 h.id.y,.int .i64 h.id.n,.int .u8 h.b,.int .i64 h.n,.int .i64 h.s]
def z3t:Enc Hd:=⟨hdL,5,λ_=>rfl,λ_ u h=>by simp at h;rcases h with rfl|rfl|rfl|rfl|rfl<;>rfl,dd⟩
def x1j (l:List Hd):Prop:=l.Pairwise λa b=>a.s<=b.s
theorem x4v {h x:Hd}:∀ {l:List Hd},x∈y1y h l↔x=h\/x∈l
 | []=>by simp[y1y]
 | y::l=>by
  unfold y1y
  split
  ·simp
  simp only[List.mem_cons,x4v (l:=l)]
  constructor
  ·rintro(h|h|h)<;>simp[h]
  rintro(h|h|h)<;>simp[h]
theorem x5w (h:Hd):∀l:List Hd,(y1y h l).length=l.length+1
 | []=>rfl
 | y::l=>by
  unfold y1y;split
  ·rfl
  simp[x5w h l]
theorem y7h (h:Hd):∀l:List Hd,x1j l->x1j (y1y h l)
 | [],_=>List.pairwise_singleton ..
 | y::l,hs=>by
  obtain⟨M,O⟩:=List.pairwise_cons.1 hs
  unfold y1y
  split
  ·rename_i I
   refine List.pairwise_cons.2 ⟨λz D=>?_,hs⟩
   rcases List.mem_cons.1 D with rfl|D
   ·omega
   have:=M z D;omega
  rename_i I
  refine List.pairwise_cons.2 ⟨λz D=>?_,y7h h l O⟩
  rcases x4v.1 D with rfl|D
  ·omega
  exact M z D
theorem v2n (l:List Hd)(h:Hd):z5i (l++[h])=y1y h (z5i l):=by unfold z5i;rw[List.foldl_append];rfl
theorem x6b:∀(l a:List Hd),x1j a->x1j (l.foldl (λa h=>y1y h a) a)
 | [],a,h=>h
 | x::l,a,h=>x6b l _ (y7h x a h)
theorem z7o (l:List Hd):x1j (z5i l):=x6b l [] List.Pairwise.nil
theorem y9x:∀(l a:List Hd),(l.foldl (λa h=>y1y h a) a).length=a.length+l.length
 | [],a=>rfl
 | x::l,a=>by simp only[List.foldl_cons,y9x l,x5w,List.length_cons];omega
theorem z4f (l:List Hd):(z5i l).length=l.length:=by unfold z5i;rw[y9x];simp
theorem x9h {x:Hd}:∀ {A B:List Hd},(∀y∈A,¬x.s<y.s)->(∀y∈B,x.s<y.s)->y1y x (A++B)=A++x::B
 | [],[],_,_=>rfl
 | [],y::B,_,h=>by
  show y1y x (y::B)=x::y::B
  unfold y1y;rw[if_pos (h y (List.mem_cons_self ..))]
 | z::A,B,h1,h2=>by
  show y1y x (z::(A++B))=z::(A++x::B)
  unfold y1y
  rw[if_neg (h1 z (List.mem_cons_self ..)),x9h (λy D=>h1 y (List.mem_cons_of_mem _ D)) h2]
def y2a (P s:List Hd)(k:Nat)(x:Hd)(R:List Hd):List Hd:=P++(s.take k++(x::(s.drop k++R)))
theorem v8g {P s R:List Hd}{k:Nat}{x:Hd}:(y2a P s k x R).length=P.length+s.length+1+R.length:=by
 unfold y2a;have h:(s.take k).length+(s.drop k).length=s.length:=by rw[<-List.length_append,List.take_append_drop]
 simp only[List.length_append,List.length_cons];omega
theorem u9k {P s R:List Hd}{k:Nat}{x d:Hd}(D:k<=s.length):(y2a P s k x R).getD (P.length+k) d=x:=by
 unfold y2a;rw[List.getD,List.getElem?_append_right oo,show P.length+k-P.length=(s.take k).length+0 by rw[List.length_take];omega,List.getElem?_append_right oo];simp
theorem u1f {P s R:List Hd}{k:Nat}{x d:Hd}(D:k+1<=s.length):(y2a P s (k+1) x R).getD (P.length+k) d=s.getD k d:=by
 unfold y2a;rw[List.getD,List.getD,List.getElem?_append_right oo,show P.length+k-P.length=k by omega,List.getElem?_append_left (by rw[List.length_take];omega),List.getElem?_take,if_pos oo]
theorem x0r {P s R:List Hd}{k:Nat}{x d:Hd}(M:k+1<=s.length):((y2a P s (k+1) x R).set (P.length+k+1) (s.getD k d)).set (P.length+k) x=y2a P s k x R:=by
 have D:y2a P s (k+1) x R=(P++s.take k)++(s.getD k d::x::(s.drop (k+1)++R)):=by
  unfold y2a;have e:s.take (k+1)=s.take k++[s.getD k d]:=by rw[List.take_add_one,List.getD,List.getElem?_eq_getElem oo];rfl
  rw[e];simp only[List.append_assoc,List.cons_append,List.nil_append]
 have I:y2a P s k x R=(P++s.take k)++(x::s.getD k d::(s.drop (k+1)++R)):=by
  unfold y2a;have e:s.drop k=s.getD k d::s.drop (k+1):=by rw[List.drop_eq_getElem_cons (show k<s.length by omega),List.getD,List.getElem?_eq_getElem oo];rfl
  rw[e];simp only[List.append_assoc,List.cons_append]
 have hl:(P++s.take k).length=P.length+k:=by rw[List.length_append,List.length_take];omega
 rw[D,I,List.set_append_right _ _ oo,show P.length+k+1-(P++s.take k).length=1 by omega,List.set_append_right _ _ oo,show P.length+k-(P++s.take k).length=0 by omega];rfl
theorem y9u {P s R:List Hd}{k:Nat}{x:Hd}(O:x1j s)(Z:k<=s.length)(h1:k=0\/¬x.s<(s.getD (k-1) hd0).s)(M:∀j,k<=j->j<s.length->x.s<(s.getD j hd0).s):y2a P s k x R=P++(y1y x s++R):=by
 have e:y1y x s=s.take k++x::s.drop k:=by
  conv=>lhs;rw[<-List.take_append_drop k s]
  refine x9h (λy I=>?_) (λy I=>?_)
  ·obtain⟨j,D,rfl⟩:=List.getElem_of_mem I
   rw[List.length_take]at D
   rw[List.getElem_take]
   rcases h1 with rfl|h1
   ·omega
   rw[List.getD,List.getElem?_eq_getElem oo]at h1
   simp only[Option.getD_some]at h1
   by_cases e:j=k-1
   ·subst e;exact h1
   have:=List.pairwise_iff_getElem.1 O j (k-1) oo oo oo
   omega
  obtain⟨j,D,rfl⟩:=List.getElem_of_mem I
  rw[List.length_drop]at D
  rw[List.getElem_drop]
  have:=M (k+j) oo oo
  rwa [List.getD,List.getElem?_eq_getElem oo]at this
 unfold y2a
 rw[e];simp
theorem x8b {P s R:List Hd}{x:Hd}:y2a P s s.length x R=P++(s++x::R):=by
 unfold y2a;rw[List.take_length,List.drop_length];rfl
def z7k (l:List Hd)(lo up i:Nat):List Hd:=l.take lo++(z5i ((l.take (min i up)).drop lo)++l.drop (min i up))
theorem z6i {l:List Hd}{D i:Nat}(h:D<=i)(I:i<=l.length):(z5i ((l.take i).drop D)).length=i-D:=by
 rw[z4f,List.length_drop,List.length_take];omega
theorem j1f {l:List Hd}{D I:Nat}(h:D<=I)(hu:I<=l.length):z7k l D I (D+1)=l:=by
 unfold z7k;by_cases e:D<I;rw[show min (D+1) I=D+1 by omega];have M:(l.take (D+1)).drop D=[l.getD D hd0]:=by
  rw[List.take_add_one,List.drop_append,List.drop_eq_nil_of_le (by rw[List.length_take];omega),List.length_take,show D-min D l.length=0 by omega,List.getD,List.getElem?_eq_getElem oo];rfl
 rw[M];have O:z5i [l.getD D hd0]=[l.getD D hd0]:=rfl;rw[O,<-List.append_assoc];have Z:l.take D++[l.getD D hd0]=l.take (D+1):=by rw[List.take_add_one,List.getD,List.getElem?_eq_getElem oo];rfl
 rw[Z,List.take_append_drop];rw[show min (D+1) I=D by omega];have M:(l.take D).drop D=[]:=List.drop_eq_nil_of_le (by rw[List.length_take];omega);rw[M];exact List.take_append_drop D l
theorem u5w {l:List Hd}{D I i:Nat}(h:D<=i)(M:i<I)(O:I<=l.length):z7k l D I i=y2a (l.take D) (z5i ((l.take i).drop D)) (i-D) (l.getD i hd0) (l.drop (i+1)):=by
 have hl:=z6i (l:=l) h oo;rw[<-hl,x8b];unfold z7k;rw[show min i I=i by omega];congr 2;rw[List.drop_eq_getElem_cons (show i<l.length by omega),List.getD,List.getElem?_eq_getElem oo];rfl
theorem x1s {l:List Hd}{D I i:Nat}(h:D<=i)(O:i<I)(Z:I<=l.length):l.take D++(y1y (l.getD i hd0) (z5i ((l.take i).drop D))++l.drop (i+1))=z7k l D I (i+1):=by
 unfold z7k;rw[show min (i+1) I=i+1 by omega];have M:(l.take (i+1)).drop D=(l.take i).drop D++[l.getD i hd0]:=by
  rw[List.take_add_one,List.drop_append,List.length_take,show D-min i l.length=0 by omega,List.getD,List.getElem?_eq_getElem oo];rfl
 rw[M,v2n]
theorem v5f {l:List Hd}{I D i:Nat}(h:D<=i):z7k l I D i=z7k l I D D:=by
 unfold z7k;rw[show min i D=min D D by omega]
theorem y7w (b r:Int)(l:Bed)(i:Nat):hds b r l (i+1)=hds b r l i++(l.getD i []).map (hdS b r i):=by
 unfold hds;rw[List.range_succ,List.flatMap_append];simp
theorem x2i (b r:Int)(l:List IQ)(h:z9p l)(i:Nat):(hds b r (plB l) i).length<=4*i:=by
 induction i with
 | zero=>simp[hds]
 | succ i ih=>
  rw[y7w,List.length_append,List.length_map,z4e];have:=z3n h i;omega
theorem y3g {α β:Type}(f:α->β){l:List α}{j:Nat}(d:α)(h:j<l.length):(l.take (j+1)).map f=(l.take j).map f++[f (l.getD j d)]:=by
 rw[z4s d h,List.map_append];rfl
theorem v4g (b r:Int)(l:Bed):(hds b r l l.length).length=l.flatten.length:=by
 induction l with
 | nil=>rfl
 | cons s l ih=>
  unfold hds at *
  rw[List.length_cons,List.range_succ_eq_map,List.flatMap_cons,List.length_append,List.flatMap_map,List.flatten_cons,List.length_append,<-ih];simp[List.length_flatMap,Function.comp_def]
theorem y0z (B:Bd)(r:Int):(v4i B r).length=B.flat.length:=by
 unfold v4i Bd.flat;rw[List.length_append,List.length_append,v4g,v4g]
def IsB (v:Value):Prop:=∃g n c,v=Value.slice (some ⟨g,0,none⟩) n c
theorem u2k {α:Type}{E:Enc α}{T base:Nat}{w:World}{v:Value}{ys:List α}(h:Lw.Own E T base w v ys)(D:ys≠[]):IsB v:=by
 rcases h with ⟨rfl,rfl⟩|⟨g,cap,cur,rfl,_⟩
 exact absurd U D;exact⟨_,_,_,rfl⟩
theorem v8f {α:Type}{E:Enc α}{T base:Nat}{w:World}{v:Value}{ys:List α}(h:IsB v)(D:Lw.Own E T base w v ys):∃g c,v=.slice (some ⟨g,0,none⟩) ys.length c:=by
 obtain⟨g,n,c,rfl⟩:=h;obtain⟨A,I,e,_⟩:=D.sl.form;cases e;exact⟨_,_,rfl⟩
def u4j {α:Type}(d:α)(ys zs:List α)(k:Nat):Prop:=zs.length=ys.length/\∀p,p<ys.length->zs.getD p d=if p<k\/ys.length-1-p<k then ys.getD (ys.length-1-p) d else ys.getD p d
theorem z7a {α:Type}{d:α}{ys zs:List α}{k:Nat}(I:k<ys.length-1-k)(h:u4j d ys zs k):u4j d ys ((zs.set k (zs.getD (ys.length-1-k) d)).set (ys.length-1-k) (zs.getD k d)) (k+1):=by
 obtain⟨hl,h⟩:=h;refine⟨by rw[List.length_set,List.length_set];exact hl,λp D=>?_⟩;rw[z1i (by rw[List.length_set];omega),z1i oo,h k oo,h (ys.length-1-k) oo,h p D];rw[if_neg (show ¬(k<k\/ys.length-1-k<k) by omega),if_neg (show ¬(ys.length-1-k<k\/ys.length-1-(ys.length-1-k)<k) by omega)];by_cases e1:ys.length-1-k=p;subst e1;rw[if_pos U,if_pos oo];congr 1;omega;rw[if_neg e1];by_cases e2:k=p;subst e2;rw[if_pos U,if_pos oo];rw[if_neg e2];by_cases e3:p<k\/ys.length-1-p<k;rw[if_pos e3,if_pos oo];rw[if_neg e3,if_neg oo]
theorem y7z {α:Type}{d:α}{ys zs:List α}{k:Nat}(O:¬(k:Int)<(ys.length:Int)-1-k)(h:u4j d ys zs k):zs=ys.reverse:=by
 obtain⟨hl,h⟩:=h;refine List.ext_getElem (by simpa using hl) λp D M=>?_;have I:p<ys.length:=by rw[<-hl];exact D
 have:=h p I;rw[List.getElem_reverse];rw[List.getD,List.getElem?_eq_getElem D,Option.getD_some]at this;rw[this];split;rw[List.getD,List.getElem?_eq_getElem oo];rfl;have e:p=ys.length-1-p:=by omega
 rw[List.getD,List.getElem?_eq_getElem I,Option.getD_some];congr 1
theorem v1q {α:Type}(d:α)(ys:List α):u4j d ys ys 0:=⟨rfl,λp D=>by rw[if_neg oo]⟩
end Go.G08
namespace Go.Proofs.YtlfdhllfmoplgaaGreatDoor
open Go.Lw Go.G21 Go.G08 _root_.Go.Proofs.Tryz
theorem y8u:z1c prog 131 2 4:=λ_ _=>kr
structure StT (w:World):Prop where
  c:Cells w ⟨0,0,none⟩ v9t
theorem StT.ext {w w':World}(h:StT w)(hf:Fr [] w w'):StT w':=⟨h.c.fr hf sp0⟩
theorem x8o (x:Int)(w0:World):Rets prog 161 #[.int .i64 x] w0 λr w'=>r=.bool false/\Fr [] w0 w':=by
 refine we [(0,.int .i64 x)] func161 U ntmps161 U (.cons U .nil) (sr (asg U (nn (sr (mv U (mv U (ne' U (asg U (nn (rt (r1 results161 U ?_)))))))))));exact⟨_,rfl,congrArg Value.bool (decide_eq_false (λh=>h U)),(Fr.refl _ _)⟩
theorem x9z (x y:Int)(w0:World):Rets prog 122 #[.int .i64 x,.int .i64 y] w0 λr w'=>r=.int .i64 (z9s x y)/\Fr [] w0 w':=by
 refine we [(0,.int .i64 x),(1,.int .i64 y)] func122 U ntmps122 U (.c2 U U) (sr (asg U (nn (sr (mv U (cl (ev1 U) (mkC func161) (x8o _ _) U ?_))))));rintro _ w1 ⟨rfl,D⟩;refine asg U (nn (sr (mv U (cl (ev1 U) (mkC func161) (x8o _ _) U ?_))));rintro _ w2 ⟨rfl,I⟩;refine asg U (nn (sq (sr (mv U (nn (cf U (sk (tn (sq (sr (mv U (nn (cf U (sk (tn (sq (sr (mv U (mv U (lt' U (nn (cd U (λc3=>?_) (λc3=>?_)))))))))))))))))))))));refine sr (asg U (nn (rt (tr (r1 results122 U ?_)))));exact⟨_,rfl,by first|(rw[z9s,if_pos c3])|(unfold z9s;(repeat' split)<;>first|rfl|omega),(D.n1 I)⟩;refine sk (tn (sq (sr (mv U (mv U (gt' U (nn (cd U (λc4=>?_) (λc4=>?_)))))))));refine sr (asg U (nn (rt (tr (r1 results122 U ?_)))));exact⟨_,rfl,by first|(rw[z9s,if_neg c3,if_pos c4])|(unfold z9s;(repeat' split)<;>first|rfl|omega),(D.n1 I)⟩;refine sk (tn (sr (asg U (nn (rt (r1 results122 U ?_))))));exact⟨_,rfl,by first|(rw[z9s,if_neg c3,if_neg c4])|(unfold z9s;(repeat' split)<;>first|rfl|omega),(D.n1 I)⟩
theorem u0x (x:Int)(w0:World):Rets prog 179 #[.int .u8 x] w0 λr w'=>r=.bool false/\Fr [] w0 w':=by
 refine we [(0,.int .u8 x)] func179 U ntmps179 U (.cons U .nil) (sr (asg U (nn (sr (mv U (mv U (ne' U (asg U (nn (rt (r1 results179 U ?_)))))))))));exact⟨_,rfl,congrArg Value.bool (decide_eq_false (λh=>h U)),(Fr.refl _ _)⟩
theorem j0k (x y:Int)(w0:World):Rets prog 138 #[.int .u8 x,.int .u8 y] w0 λr w'=>r=.int .i64 (z9s x y)/\Fr [] w0 w':=by
 refine we [(0,.int .u8 x),(1,.int .u8 y)] func138 U ntmps138 U (.c2 U U) (sr (asg U (nn (sr (mv U (cl (ev1 U) (mkC func179) (u0x _ _) U ?_))))));rintro _ w1 ⟨rfl,D⟩;refine asg U (nn (sr (mv U (cl (ev1 U) (mkC func179) (u0x _ _) U ?_))));rintro _ w2 ⟨rfl,I⟩;refine asg U (nn (sq (sr (mv U (nn (cf U (sk (tn (sq (sr (mv U (nn (cf U (sk (tn (sq (sr (mv U (mv U (lt' U (nn (cd U (λc3=>?_) (λc3=>?_)))))))))))))))))))))));refine sr (asg U (nn (rt (tr (r1 results138 U ?_)))));exact⟨_,rfl,by first|(rw[z9s,if_pos c3])|(unfold z9s;(repeat' split)<;>first|rfl|omega),(D.n1 I)⟩;refine sk (tn (sq (sr (mv U (mv U (gt' U (nn (cd U (λc4=>?_) (λc4=>?_)))))))));refine sr (asg U (nn (rt (tr (r1 results138 U ?_)))));exact⟨_,rfl,by first|(rw[z9s,if_neg c3,if_pos c4])|(unfold z9s;(repeat' split)<;>first|rfl|omega),(D.n1 I)⟩;refine sk (tn (sr (asg U (nn (rt (r1 results138 U ?_))))));exact⟨_,rfl,by first|(rw[z9s,if_neg c3,if_neg c4])|(unfold z9s;(repeat' split)<;>first|rfl|omega),(D.n1 I)⟩
theorem y8q (x y:Hd)(w0:World):Rets prog 121 #[.agg #[.int .u8 x.id.y,.int .i64 x.id.n,.int .u8 x.b,.int .i64 x.n,.int .i64 x.s],.agg #[.int .u8 y.id.y,.int .i64 y.id.n,.int .u8 y.b,.int .i64 y.n,.int .i64 y.s]] w0 λr w'=>r=.int .i64 (z9s x.s y.s)/\Fr [] w0 w':=by
 refine we [(0,.agg #[.int .u8 x.id.y,.int .i64 x.id.n,.int .u8 x.b,.int .i64 x.n,.int .i64 x.s]),(1,.agg #[.int .u8 y.id.y,.int .i64 y.id.n,.int .u8 y.b,.int .i64 y.n,.int .i64 y.s])] func121 U ntmps121 U (.c2 U U) (sr (bx U (λg2 w1 O D q1 z1=>(bx U (λg3 w2 Z I M z2=>(asg U (nn (sr (fad U y8u ?_)))))))));replace D:=D.ext M;refine z0i U D U na3 (fad U y8u (z0i U I U na3 (cl (ev2 U) (mkC func122) (x9z _ _ _) U ?_)));rintro _ w3 ⟨rfl,q3⟩;exact asg U (kpL [(4,_)] (.cons U .nil) (nn (rt (r1 results121 U ⟨_,rfl,rfl,(q1.n2 M q3)⟩))))
theorem y6u (r:Int)(w0:World):Rets prog 143 #[.int .i64 r] w0 λv w'=>v=.bool (decide (-4<=r/\r<=4))/\Fr [] w0 w':=by
 refine we [(0,.int .i64 r)] func143 U ntmps143 U (.cons U .nil) (sr (asg U (nn (sq (rbo (r:=2) (L':=[]) (((-4<=r)/\(r<=4))) .nil ?_ ?_)))));refine mv U (ge' U U (mv U (gs 5 U (λD=>?_) (λD=>?_))));exact gY U (mv U (gY U (le' U (pkt U (asg U (rbe U .nil))))));exact gN U (gN U (pkf U (asg U (rbe U .nil))));exact tn (rt (r1 results143 U ⟨_,rfl,rfl,(Fr.refl _ _)⟩))
theorem x1c (q:BdQ)(r:Int)(w0:World)(D:BdAt w0 q)(hv:BdOk q.p)(hr:-4<=r/\r<=4):Rets prog 117 #[.agg #[.slice q.f.1 q.f.2.1 q.f.2.2,.slice q.b.1 q.b.2.1 q.b.2.2],.int .i64 r] w0 λv w'=>v=.int .i64 0/\Fr [] w0 w':=by
 refine we [(0,.agg #[.slice q.f.1 q.f.2.1 q.f.2.2,.slice q.b.1 q.b.2.1 q.b.2.2]),(1,.int .i64 r)] func117 U ntmps117 U (.c2 U U) ?_;have I:=D;refine sr (bx U (λg2 w1 a0 M q1 z1=>(asg U (nn (sq (sr (z0m U M z4x ?_)))))));replace D:=I.ext q1;refine cl (ev1 U) (mkC func50) (y4j q _ D hv) U ?_;rintro _ w2 ⟨rfl,q2⟩;refine asg U (nn (sr (mv U (ne' U (nn (cd U (λO=>?_) (λO=>?_)))))));exact absurd U O;refine sk (tn (sq (sr (mv U (cl (ev1 U) (mkC func143) (y6u _ _) U ?_)))));rintro _ w3 ⟨rfl,q3⟩;refine nt' U (nn (cd U (λZ=>?_) (λZ=>?_)));exact absurd hr Z;exact sk (tn (sr (asg U (nn (rt (r1 results117 U ⟨_,rfl,rfl,(q1.n2 q2 q3)⟩))))))
theorem x1v (q:BdQ)(r d:Int)(w0:World)(D:BdAt w0 q)(hv:BdOk q.p)(M:StT w0)(hr:-4<=r/\r<=4)(hd:d=0\/d=1)(a0:-4<=r+stI d/\r+stI d<=4):Rets prog 85 #[.agg #[.slice q.f.1 q.f.2.1 q.f.2.2,.slice q.b.1 q.b.2.1 q.b.2.2],.int .i64 r,.int .u8 d] w0 λv w'=>v=.int .i64 0/\Fr [] w0 w':=by
 refine we [(0,.agg #[.slice q.f.1 q.f.2.1 q.f.2.2,.slice q.b.1 q.b.2.1 q.b.2.2]),(1,.int .i64 r),(2,.int .u8 d)] func85 U ntmps85 U (.c3 U U U) ?_;have I:=D;have O:=M;refine sr (bx U (λg3 w1 a1 Z q1 z1=>(asg U (nn (sq (sr (z0m U Z z4x (mv U ?_))))))));replace D:=I.ext q1;refine cl (ev2 U) (mkC func117) (x1c q _ _ D hv oo) U ?_;rintro _ w2 ⟨rfl,q2⟩;refine asg U (nn (sr (mv U (ne' U (nn (cd U (λc0=>?_) (λc0=>?_)))))));exact absurd U c0;refine sk (tn (sq (sq (rbo (r:=19) (L':=[(1,_),(2,_)]) (((d≠0)/\(d≠1))) (.c2 U U) ?_ ?_))));refine mv U (ne' U (mv U (gs 16 U (λg0=>?_) (λg0=>?_))));exact gY U (mv U (gY U (ne' U (pkt U (rbe U (.c2 U U))))));exact gN U (gN U (pkf U (rbe U (.c2 U U))));refine tn (cd U (λc1=>?_) (λc1=>?_));exfalso;omega;refine sk (tn (sq (sr (mv U (mv U (y2s U U underlying226 sz3 ?_))))));replace M:=O.ext (q1.n1 q2);refine y0d U M.c (y5i hd) na3 U (z0x U (wi6 oo) (cl (ev1 U) (mkC func143) (y6u _ _) U ?_));rintro _ w3 ⟨rfl,q3⟩;refine nt' U (kpL [(26,_)] (.cons U .nil) (nn (cd U (λc2=>?_) (λc2=>?_))));exact absurd a0 c2;exact sk (tn (sr (asg U (nn (rt (r1 results85 U ⟨_,rfl,rfl,(q1.n2 q2 q3)⟩))))))
theorem z5d:z3p prog 131 5:=⟨λ_=>kr,λ_=>kr⟩
theorem z3i:ElemOf prog 127 131 z3t 40:=ElemOf.mk' (z:=(.agg #[.int .u8 0,.int .i64 0,.int .u8 0,.int .i64 0,.int .i64 0])) underlying127 kr U
theorem z7x:z1t prog 131 5:=λ_=>kr
theorem u1g (g c base I up:Nat)(l:List Hd)(w0:World)(M:Lw.Own z3t 131 base w0 (.slice (some ⟨g,0,none⟩) l.length c) l)(hl:l.length<=1000000)(a0:I<=up/\up<=l.length):Rets prog 204 #[.slice (some ⟨g,0,none⟩) l.length c,.int .i64 (I:Int),.int .i64 (up:Int),.func (.func 121) #[] #[]] w0 λr w'=>r=.tuple #[]/\Lw.Own z3t 131 base w' (.slice (some ⟨g,0,none⟩) l.length c) (z7k l I up up)/\Fr [g] w0 w':=by
 refine we [(0,.slice (some ⟨g,0,none⟩) l.length c),(1,.int .i64 (I:Int)),(2,.int .i64 (up:Int)),(3,.func (.func 121) #[] #[])] func204 U ntmps204 U (.c4 U U U U) (sr (mv U (z0x U (wi6 oo) (asg U (nn (bl ?_))))));refine lpK (ι:=Nat) [(0,_),(1,_),(2,_),(3,_)] (λi=>[(8,.int .i64 (i:Int))]) (λi w'=>Fr [g] w0 w'/\(I+1<=i/\(i<=up\/i=I+1))/\Lw.Own z3t 131 base w' (.slice (some ⟨g,0,none⟩) l.length c) (z7k l I up i)) (λi=>up-i) (I+1) (.c5 U U U U (congrArg (λz=>some (Value.int .i64 z)) (show (I:Int)+1=((I+1:Nat):Int) by omega))) ⟨Fr.refl _ _,⟨⟨Nat.le_refl _,.inr U⟩,by rw[j1f a0.1 a0.2];exact M⟩⟩ ?_;rintro i w1 ⟨q1,⟨hi,M⟩⟩;refine kpC [(0,_),(1,_),(2,_),(3,_),(8,_)] (.c5 U U U U U) (sq (sr (mv U (mv U (lt' U (nn (cd U (λc0=>?_) (λc0=>?_))))))));have b1:i<up:=by omega
 obtain⟨s,hs⟩:∃s,s=z5i ((l.take i).drop I):=⟨_,rfl⟩;obtain⟨x,hx⟩:∃x,x=l.getD i hd0:=⟨_,rfl⟩;have b2:s.length=i-I:=by rw[hs];exact z6i oo oo
 have b0:x1j s:=by rw[hs];exact z7o _
 rw[u5w oo b1 a0.2,<-hs,<-hx,<-b2]at M;refine sk (tn (sq (bl (sr (mv U (asg U (nn (bl ?_))))))));refine lpK (ι:=Nat) [(0,_),(1,_),(2,_),(3,_),(8,_)] (λk=>[(9,.int .i64 ((I+k:Nat):Int))]) (λk w'=>Fr [g] w1 w'/\k<=s.length/\Lw.Own z3t 131 base w' (.slice (some ⟨g,0,none⟩) l.length c) (y2a (l.take I) s k x (l.drop (i+1)))/\∀j,k<=j->j<s.length->x.s<(s.getD j hd0).s) (λk=>k) s.length (.c6 U U U U U (congrArg (λz=>some (Value.int .i64 z)) (show (i:Int)=((I+s.length:Nat):Int) by omega))) ⟨Fr.refl _ _,⟨Nat.le_refl _,M,λj h1 h2=>oo⟩⟩ ?_;rintro k w2 ⟨q2,⟨hk,M,a2⟩⟩;refine kpC [(0,_),(1,_),(2,_),(3,_),(8,_),(9,_)] (.c6 U U U U U U) ?_;have b7:(y2a (l.take I) s k x (l.drop (i+1))).length=l.length:=by rw[v8g,List.length_take,List.length_drop];omega
 have a1:(y2a (l.take I) s k x (l.drop (i+1))).getD (I+k) hd0=x:=by have:=u9k (P:=l.take I) (R:=l.drop (i+1)) (x:=x) (d:=hd0) hk;rwa [List.length_take,show min I l.length=I by omega]at this
 refine sq (sq ?_);intro a h;refine z0h none (λwb w'=>Fr [] wb w') z2o ?_;intro w3 q3;replace M:=M.ext q3;have hC:Fr [] w3 w3:=Fr.refl _ _;have Z:=M;refine z0e 0 h U λa h=>z0e 1 h U λa h=>v3q 2 hC h wn U U U U λa h=>z0e 3 h U λa h=>gSp (D:=21) h U ?_ ?_;clear h;intro g0 h;refine z0e 4 h U ?_ (hG:=(wy U));clear h a;intro a h;refine z0e 5 h U ?_ (hG:=(wy U));clear h a;intro a h;refine z0e 6 h U ?_ (hG:=(wy U));clear h a;intro a h;refine z1e (p:=I+k) (hd0) 7 h U M.sl U z3i U ?_ (hG:=(wy U));clear h a;intro b3 a6 a h;refine z1x 8 h (wy U) U (λ_ hw=>a6 _ (Z.sl.ext hw)) z5d U λa h=>z0e 9 h U ?_ (hG:=(wy U));clear h a;intro a h;refine z0e 10 h U ?_ (hG:=(wy U));clear h a;intro a h;refine z2v 11 h U (by first|exact i6 oo|rfl) U ?_ (hG:=(wy U));clear h a;intro a h;refine z1e (p:=I+k-1) (hd0) 12 h U M.sl U z3i U ?_ (hG:=(wy U));clear h a;intro b4 a7 a h;refine z1x 13 h (wy U) U (λ_ hw=>a7 _ (Z.sl.ext hw)) z5d U λa h=>z0d 14 U (z4d h U U U U (y0r (us:=[]) (ws:=[]) h U (z0a U (z0a U z0g)) (mkC func121) (y8q ((y2a (l.take I) s k x (l.drop (i+1))).getD (I+k) hd0) ((y2a (l.take I) s k x (l.drop (i+1))).getD (I+k-1) hd0) _) U (by intro g e;cases e) ?_));rintro _ w4 ⟨rfl,q4⟩ a h;replace M:=M.ext q4;replace hC:=hC.next q4;refine z0b (x7d 15 hC h (wy U) U U λa h=>z0d 16 U (z4a h U λa h=>?_));refine z0b (z0r ?_);clear hC Z;refine bk (h.sub (L':=[(0,_),(1,_),(2,_),(3,_),(8,_),(9,_),(34,_)]) (.c7 U U U U U U U)) (tn (cd U (λc1=>?_) (λc1=>?_)));have b8:0<k:=by omega
 have a5:(y2a (l.take I) s k x (l.drop (i+1))).getD (I+k-1) hd0=s.getD (k-1) hd0:=by have:=u1f (P:=l.take I) (s:=s) (R:=l.drop (i+1)) (x:=x) (d:=hd0) (k:=k-1) oo;rwa [List.length_take,show min I l.length=I by omega,show k-1+1=k by omega,show I+(k-1)=I+k-1 by omega]at this
 have a8:x.s<(s.getD (k-1) hd0).s:=by rw[a1,a5]at c1;exact z9c.1 c1
 refine sk (tn (sq (bl ?_)));intro a h;refine z0h (some 17) (λwb w'=>Fr [g] wb w') z2o ?_;intro w5 q5;replace M:=M.ext q5;have hC:Fr [g] w5 w5:=Fr.refl _ _;have Z:=M;refine z0e 0 h U λa h=>z0e 1 h U λa h=>z0e 2 h U λa h=>z0e 3 h U λa h=>z2v 4 h U (by first|exact i6 oo|rfl) U λa h=>z0e 5 h U λa h=>z0e 6 h U λa h=>z2v 7 h U (by first|exact i6 oo|rfl) U λa h=>z1e (p:=I+k-1) (hd0) 8 h U M.sl U z3i U λb5 a3 a h=>z0e 10 h U λa h=>z0e 11 h U λa h=>z1e (p:=I+k) (hd0) 12 h U M.sl U z3i U λb6 a4 a h=>z1u 9 13 kr U ?_ ?_;refine z1p h U (a3 _ M.sl) z5d U λa h=>z0b (z0d 13 U (z1p h U (a4 _ M.sl) z5d U λa h=>?_));refine z0b (z1m 14 kr kr kr hC (p:=I+k) h wn U z3i oo oo oo U U λa h=>z0d 15 U (z0z (i:=I+k) ((y2a (l.take I) s k x (l.drop (i+1))).getD (I+k-1) hd0) h U M oo U z7x λw6 O q6 _hz a h=>?_));replace hC:=hC.sp q6;clear _hz M;have M:=O;clear O;refine z0b (z1m 16 kr kr kr hC (p:=I+k-1) h wn U z3i oo oo oo U U λa h=>z0d 17 U (z0z (i:=I+k-1) ((y2a (l.take I) s k x (l.drop (i+1))).getD (I+k) hd0) h U M (by rw[List.length_set];omega) U z7x λw7 O q7 _hz a h=>?_));clear _hz M;have M:=O;clear O;refine z1n (z0r ?_);clear hC Z;refine bk (h.sub (L':=[(0,_),(1,_),(2,_),(3,_),(8,_),(9,_)]) (.c6 U U U U U U)) (bn' (tn (rg (mv U (z2w U (wi6 oo) (asg U (nl ?_)))))));exact lpE (k-1) (.c6 U U U U U (congrArg (λz=>some (Value.int .i64 z)) (show ((I+k:Nat):Int)-1=((I+(k-1):Nat):Int) by omega))) ⟨((Fr.refl [g] _).z6 q2 q3 q4 q5 q6 q7),⟨oo,by rw[a1,a5]at M;have e:=x0r (P:=l.take I) (s:=s) (R:=l.drop (i+1)) (x:=x) (d:=hd0) (k:=k-1) oo;rw[List.length_take,show min I l.length=I by omega,show k-1+1=k by omega,show I+(k-1)+1=I+k by omega]at e;rw[<-e,show I+(k-1)=I+k-1 by omega];exact M,λj h1 h2=>by
  by_cases e:k<=j;exact a2 j e h2;obtain rfl:j=k-1:=by omega
  exact a8⟩⟩ oo
 refine z1p h U (a4 _ M.sl) z5d U λa h=>z0b (z0d 9 U (z1p h U (a3 _ M.sl) z5d U λa h=>?_));refine z0b (z1m 14 kr kr kr hC (p:=I+k) h wn U z3i oo oo oo U U λa h=>z0d 15 U (z0z (i:=I+k) ((y2a (l.take I) s k x (l.drop (i+1))).getD (I+k-1) hd0) h U M oo U z7x λw8 O q8 _hz a h=>?_));replace hC:=hC.sp q8;clear _hz M;have M:=O;clear O;refine z0b (z1m 16 kr kr kr hC (p:=I+k-1) h wn U z3i oo oo oo U U λa h=>z0d 17 U (z0z (i:=I+k-1) ((y2a (l.take I) s k x (l.drop (i+1))).getD (I+k) hd0) h U M (by rw[List.length_set];omega) U z7x λw9 O q9 _hz a h=>?_));clear _hz M;have M:=O;clear O;refine z1n (z0r ?_);clear hC Z;refine bk (h.sub (L':=[(0,_),(1,_),(2,_),(3,_),(8,_),(9,_)]) (.c6 U U U U U U)) (bn' (tn (rg (mv U (z2w U (wi6 oo) (asg U (nl ?_)))))));exact lpE (k-1) (.c6 U U U U U (congrArg (λz=>some (Value.int .i64 z)) (show ((I+k:Nat):Int)-1=((I+(k-1):Nat):Int) by omega))) ⟨((Fr.refl [g] _).z6 q2 q3 q4 q5 q8 q9),⟨oo,by rw[a1,a5]at M;have e:=x0r (P:=l.take I) (s:=s) (R:=l.drop (i+1)) (x:=x) (d:=hd0) (k:=k-1) oo;rw[List.length_take,show min I l.length=I by omega,show k-1+1=k by omega,show I+(k-1)+1=I+k by omega]at e;rw[<-e,show I+(k-1)=I+k-1 by omega];exact M,λj h1 h2=>by
  by_cases e:k<=j;exact a2 j e h2;obtain rfl:j=k-1:=by omega
  exact a8⟩⟩ oo
 have a9:k=0\/¬x.s<(s.getD (k-1) hd0).s:=by
  first
  | exact .inl oo
  | (refine .inr λe=>c1 ?_;have:=u1f (P:=l.take I) (s:=s) (R:=l.drop (i+1)) (x:=x) (d:=hd0) (k:=k-1) oo;rw[List.length_take,show min I l.length=I by omega,show k-1+1=k by omega,show I+(k-1)=I+k-1 by omega]at this;rw[a1,this];exact z9c.2 e)
 exact ex (te (te (xh (bn' (tn (rg (mv U (z0x U (wi6 oo) (asg U (nl (lpE (i+1) (.c5 U U U U U) ⟨((Fr.refl [g] _).z4 q1 q2 q3 q4),⟨oo,by rw[<-x1s oo oo a0.2,<-hs,<-hx,<-y9u (k:=k) b0 hk (by first|exact a9|exact .inl oo) a2];exact M⟩⟩ oo)))))))))));clear h;intro g0 h;refine z1l 4 h U U λa h=>z1l 5 h U U λa h=>z1l 6 h U U λa h=>z1l 7 h U U λa h=>z1l 8 h U U λa h=>z1l 9 h U U λa h=>z1l 10 h U U λa h=>z1l 11 h U U λa h=>z1l 12 h U U λa h=>z1l 13 h U U λa h=>z1l 14 h U U λa h=>z1l 15 h U U λa h=>z0d 16 U (z2l h U λa h=>?_);refine z0b (z0r ?_);clear hC Z;exact bk (h.sub (L':=[(0,_),(1,_),(2,_),(3,_),(8,_),(9,_),(34,_)]) (.c7 U U U U U U U)) (tn (cf U (ex (te (te (xh (bn' (tn (rg (mv U (z0x U (wi6 oo) (asg U (nl (lpE (i+1) (.c5 U U U U U) ⟨((Fr.refl [g] _).z3 q1 q2 q3),⟨oo,by rw[<-x1s oo oo a0.2,<-hs,<-hx,<-y9u (k:=k) b0 hk (by first|exact a9|exact .inl oo) a2];exact M⟩⟩ oo))))))))))))));rw[v5f oo]at M;refine ex (te (te (xh (r0n results204  ?_))));exact⟨_,rfl,rfl,M,(q1.weak se)⟩
end Go.Proofs.YtlfdhllfmoplgaaGreatDoor
namespace Go.G08
open Go.Lw Go.G21
def flK (k:Int)(l:List Hd):List Hd:=l.filter λh=>decide (h.s=k)
theorem z7u (k:Int)(a b:List Hd):flK k (a++b)=flK k a++flK k b:=List.filter_append ..
theorem x2y {k:Int}{l:List Hd}(h:∀x∈l,x.s≠k):flK k l=[]:=by
 unfold flK;rw[List.filter_eq_nil_iff];intro x D;simpa using h x D
theorem z6b (k:Int)(x:Hd)(l:List Hd):flK k (x::l)=if x.s=k then x::flK k l else flK k l:=by
 unfold flK;rw[List.filter_cons];by_cases e:x.s=k<;>simp[e]
theorem v2x (k:Int)(h:Hd):∀l:List Hd,x1j l->flK k (y1y h l)=flK k (l++[h])
 | [],_=>rfl
 | y::l,hs=>by
  obtain⟨I,M⟩:=List.pairwise_cons.1 hs
  unfold y1y
  split
  ·rename_i O
   rw[z7u,z6b]
   by_cases e:h.s=k
   ·have:flK k (y::l)=[]:=x2y λx D=>by
     rcases List.mem_cons.1 D with rfl|D
     ·omega
     have:=I x D;omega
    rw[if_pos e,this,z6b,if_pos e];rfl
   rw[if_neg e,z6b k h [],if_neg e];simp[flK]
  rw[List.cons_append,z6b,z6b,v2x k h l M]
theorem x5x (k:Int):∀(l a:List Hd),x1j a->flK k (l.foldl (λa h=>y1y h a) a)=flK k (a++l)
 | [],a,_=>by simp
 | x::l,a,h=>by
  rw[List.foldl_cons,x5x k l _ (y7h x a h),z7u,v2x k x a h,<-z7u,List.append_assoc];rfl
theorem z8w (k:Int)(l:List Hd):flK k (z5i l)=flK k l:=by unfold z5i;rw[x5x k l [] List.Pairwise.nil];rfl
theorem x9o {k:Int}{x:Hd}{l:List Hd}:x∈flK k l↔x∈l/\x.s=k:=by unfold flK;rw[List.mem_filter];simp
theorem y6l {a b:List Hd}(h:∀k,flK k a=flK k b)(x:Hd)(D:x∈a):x∈b:=(x9o.1 (h x.s▸x9o.2 ⟨D,rfl⟩)).1
theorem x4h {x:Hd}{l:List Hd}:x∈z5i l↔x∈l:=⟨y6l (λk=>z8w k l) x,y6l (λk=>(z8w k l).symm) x⟩
theorem x5u:∀(a b:List Hd),x1j a->x1j b->(∀k,flK k a=flK k b)->a=b
 | [],[],_,_,_=>rfl
 | [],y::b,_,_,h=>by have:=y6l (λk=>(h k).symm) y (List.mem_cons_self ..);cases this
 | x::a,[],_,_,h=>by have:=y6l h x (List.mem_cons_self ..);cases this
 | x::a,y::b,ha,hb,h=>by
  obtain⟨O,Z⟩:=List.pairwise_cons.1 ha
  obtain⟨b1,b2⟩:=List.pairwise_cons.1 hb
  have hx:=y6l h x (List.mem_cons_self ..)
  have hy:=y6l (λk=>(h k).symm) y (List.mem_cons_self ..)
  have e1:y.s<=x.s:=by
   rcases List.mem_cons.1 hx with e|e
   ·rw[e];exact Int.le_refl _
   exact b1 x e
  have e2:x.s<=y.s:=by
   rcases List.mem_cons.1 hy with e|e
   ·rw[e];exact Int.le_refl _
   exact O y e
  have es:y.s=x.s:=by omega
  have M:=h x.s
  rw[z6b,z6b,if_pos U,if_pos es]at M
  obtain⟨I,_⟩:=List.cons.inj M
  subst I
  rw[x5u a b Z b2 λk=>?_]
  have D:=h k
  rw[z6b,z6b]at D
  by_cases e:x.s=k
  ·rw[if_pos e,if_pos e]at D;exact(List.cons.inj D).2
  rw[if_neg e,if_neg e]at D;exact D
theorem x3e {l l':List Hd}(h:x1j l')(hf:∀k,flK k l'=flK k l):l'=z5i l:=x5u _ _ h (z7o l) λk=>(hf k).trans (z8w k l).symm
theorem u4r {l:List Hd}(h:x1j l):z5i l=l:=(x3e h λ_=>rfl).symm
theorem v6l (a b:List Hd):z5i (z5i a++z5i b)=z5i (a++b):=by
 refine x3e (z7o _) λk=>?_;rw[z8w,z7u,z8w,z8w,z7u]
theorem u8d {X Y:List Hd}(k:Int)(h:∀x∈X,∀y∈Y,y.s<x.s):flK k (Y++X)=flK k (X++Y):=by
 rw[z7u,z7u];by_cases e:∃x∈X,x.s=k;obtain⟨x,D,rfl⟩:=e;rw[x2y (l:=Y) λy M=>by have:=h x D y M;omega];simp;rw[x2y (l:=X) λx D I=>e ⟨x,D,I⟩];simp
theorem u2q {O Z M R2:List Hd}(hL:x1j (O++Z))(hR:x1j (M++R2))(hx:∀x∈Z,∀y∈M,y.s<x.s)(h1:∀x∈O,∀y∈R2,x.s<=y.s):z5i (O++M)++z5i (Z++R2)=z5i ((O++Z)++(M++R2)):=by
 obtain⟨_,_,l3⟩:=List.pairwise_append.1 hL;obtain⟨_,_,r3⟩:=List.pairwise_append.1 hR;refine x3e (List.pairwise_append.2 ⟨z7o _,z7o _,λa D b I=>?_⟩) λk=>?_;rcases List.mem_append.1 (x4h.1 D) with D|D<;>rcases List.mem_append.1 (x4h.1 I) with I|I
 exact l3 a D b I;exact h1 a D b I;have:=hx b I a D;omega;exact r3 a D b I;rw[z7u,z8w,z8w];have:=u8d k hx;simp only[z7u,List.append_assoc]at this ⊢;rw[<-List.append_assoc (flK k M),this,List.append_assoc]
-- ---- lists whose elements are taken in another order
def prm (l:List Hd)(f:Nat->Nat):List Hd:=(List.range l.length).map λi=>l.getD (f i) hd0
theorem z5c (l:List Hd)(f:Nat->Nat):(prm l f).length=l.length:=by unfold prm;simp
theorem z8i {l:List Hd}{f:Nat->Nat}{i:Nat}(h:i<l.length):(prm l f).getD i hd0=l.getD (f i) hd0:=by
 unfold prm;rw[List.getD,List.getElem?_eq_getElem (by simpa using h),List.getElem_map,List.getElem_range];rfl
theorem z6m {a b:List Hd}(hl:a.length=b.length)(h:∀i,i<a.length->a.getD i hd0=b.getD i hd0):a=b:=by
 refine List.ext_getElem hl λi D I=>?_;have:=h i D;rw[List.getD,List.getD,List.getElem?_eq_getElem D,List.getElem?_eq_getElem I]at this;exact this
theorem x9x {l:List Hd}{f g:Nat->Nat}(h:∀i,i<l.length->f i=g i):prm l f=prm l g:=by
 refine z6m (by rw[z5c,z5c]) λi D=>?_;rw[z5c]at D;rw[z8i D,z8i D,h i D]
theorem x9p {l:List Hd}{f:Nat->Nat}(h:∀i,i<l.length->f i=i):prm l f=l:=by
 refine z6m (z5c _ _) λi D=>?_;rw[z5c]at D;rw[z8i D,h i D]
theorem v1i {l:List Hd}{f g h:Nat->Nat}(M:∀i,i<l.length->g i<l.length)(I:∀i,i<l.length->f (g i)=h i):prm (prm l f) g=prm l h:=by
 refine z6m (by rw[z5c,z5c,z5c]) λi D=>?_;rw[z5c,z5c]at D;rw[z8i (by rw[z5c];exact D),z8i (M i D),z8i D,I i D]
def z8y (s m e x:Nat):Nat:=if x<s\/e<=x then x else if x<s+(e-m) then x-s+m else x-(e-m)
def z5h (l:List Hd)(s m e:Nat):List Hd:=prm l (z8y s m e)
def swF (a b n x:Nat):Nat:=if a<=x/\x<a+n then x-a+b else if b<=x/\x<b+n then x-b+a else x
def swL (l:List Hd)(a b n:Nat):List Hd:=prm l (swF a b n)
theorem z1o (l:List Hd)(s m e:Nat):(z5h l s m e).length=l.length:=z5c _ _
theorem z6g (l:List Hd)(a b n:Nat):(swL l a b n).length=l.length:=z5c _ _
theorem z2n {l:List Hd}{s m e i:Nat}(h:i<l.length):(z5h l s m e).getD i hd0=l.getD (z8y s m e i) hd0:=z8i h
theorem y8x {l:List Hd}{a b n i:Nat}(h:i<l.length):(swL l a b n).getD i hd0=l.getD (swF a b n i) hd0:=z8i h
theorem v2f {s m e n i:Nat}(h1:s<=m)(I:m<=e)(M:e<=n)(D:i<n):z8y s m e i<n:=by
 unfold z8y;split;exact D;split<;>omega
theorem u1k {l:List Hd}{s e:Nat}(h:s<=e):z5h l s s e=l:=x9p λi _=>by
 unfold z8y;split
 ·rfl
 split<;>omega
theorem u0q {l:List Hd}{s m:Nat}(h:s<=m):z5h l s m m=l:=x9p λi _=>by
 unfold z8y;split
 ·rfl
 split<;>omega
theorem sw_0 {l:List Hd}{a b:Nat}:swL l a b 0=l:=x9p λi _=>by
 unfold swF;split
 ·omega
 split<;>omega
theorem j0y {l:List Hd}{i m:Nat}(h:i<=m):swL l (m-i) m i=z5h l (m-i) m (m+i):=x9x λx _=>by
 unfold swF z8y;repeat' split
 all_goals omega
theorem u9d {l:List Hd}{i j m:Nat}(h:i<=m)(M:j<i)(I:m+j<=l.length):z5h (swL l (m-i) m j) (m-(i-j)) m (m+j)=z5h l (m-i) m (m+j):=by
 refine v1i (λx D=>v2f oo oo I D) λx D=>?_
 unfold swF z8y;repeat' split
 all_goals omega
theorem u7h {l:List Hd}{i j m:Nat}(h:i<=m)(I:i<j)(M:m+j<=l.length):z5h (swL l (m-i) (m+j-i) i) (m-i) m (m+(j-i))=z5h l (m-i) m (m+j):=by
 refine v1i (λx D=>v2f oo oo oo D) λx D=>?_
 unfold swF z8y;repeat' split
 all_goals omega
theorem z6x {l:List Hd}{i j:Nat}{x:Hd}(D:i<l.length):(l.set i x).getD j hd0=if j=i then x else l.getD j hd0:=by
 rw[List.getD,List.getElem?_set];by_cases e:i=j;subst e;rw[if_pos U,if_pos D,if_pos U];rfl;rw[if_neg e,if_neg (λh=>e h.symm)];rfl
theorem v3d {l:List Hd}{a b i:Nat}(h:a+i+1<=b)(I:b+i<l.length):((swL l a b i).set (a+i) ((swL l a b i).getD (b+i) hd0)).set (b+i) ((swL l a b i).getD (a+i) hd0)=swL l a b (i+1):=by
 refine z6m (by simp[z6g]) λx D=>?_
 simp only[List.length_set,z6g]at D
 rw[z6x (by rw[List.length_set,z6g];exact I),z6x (by rw[z6g];omega),y8x oo,y8x oo,y8x D,y8x D]
 unfold swF
 repeat' split
 all_goals first|rfl|(congr 1;omega)|omega
theorem u1m {l:List Hd}{a k:Nat}(h:a<=k)(I:k+1<l.length):((z5h l a (a+1) (k+1)).set k ((z5h l a (a+1) (k+1)).getD (k+1) hd0)).set (k+1) ((z5h l a (a+1) (k+1)).getD k hd0)=z5h l a (a+1) (k+2):=by
 refine z6m (by simp[z1o]) λx D=>?_
 simp only[List.length_set,z1o]at D
 rw[z6x (by rw[List.length_set,z1o];exact I),z6x (by rw[z1o];omega),z2n oo,z2n oo,z2n D,z2n D]
 unfold z8y
 repeat' split
 all_goals first|rfl|(congr 1;omega)|omega
theorem x6p {l:List Hd}{m k:Nat}(h:k<m)(I:m<l.length):((z5h l (k+1) m (m+1)).set (k+1) ((z5h l (k+1) m (m+1)).getD k hd0)).set k ((z5h l (k+1) m (m+1)).getD (k+1) hd0)=z5h l k m (m+1):=by
 refine z6m (by simp[z1o]) λx D=>?_
 simp only[List.length_set,z1o]at D
 rw[z6x (by rw[List.length_set,z1o];omega),z6x (by rw[z1o];omega),z2n oo,z2n oo,z2n D,z2n D]
 unfold z8y
 repeat' split
 all_goals first|rfl|(congr 1;omega)|omega
abbrev seg (l:List Hd)(a b:Nat):List Hd:=(l.take b).drop a
theorem z2a {l:List Hd}{a b:Nat}(hb:b<=l.length):(seg l a b).length=b-a:=by
 unfold seg;rw[List.length_drop,List.length_take];omega
theorem z6u {l:List Hd}{a b i:Nat}(h:i<b-a):(seg l a b).getD i hd0=l.getD (a+i) hd0:=by
 unfold seg;rw[List.getD,List.getElem?_drop,List.getElem?_take,if_pos oo];rfl
theorem y2b {l:List Hd}{a m b:Nat}(h1:a<=m)(I:m<=b)(hb:b<=l.length):seg l a b=seg l a m++seg l m b:=by
 refine z6m (by rw[List.length_append,z2a hb,z2a oo,z2a hb];omega) λi D=>?_;rw[z2a hb]at D;rw[z6u D];by_cases e:i<m-a;rw[List.getD,List.getD,List.getElem?_append_left (by rw[z2a oo];exact e)];have:=z6u (l:=l) (a:=a) (b:=m) e;rw[List.getD,List.getD]at this;exact this.symm;rw[List.getD,List.getD,List.getElem?_append_right (by rw[z2a oo];omega),z2a oo];have:=z6u (l:=l) (a:=m) (b:=b) (i:=i-(m-a)) oo;rw[List.getD,List.getD,show m+(i-(m-a))=a+i by omega]at this;exact this.symm
theorem y7l {l:List Hd}{a b:Nat}(h:a<=b)(hb:b<=l.length):l.take a++(seg l a b++l.drop b)=l:=by
 have D:l.take a++seg l a b=l.take b:=by
  unfold seg
  conv=>rhs;rw[<-List.take_append_drop a (l.take b)]
  rw[List.take_take,show min a b=a by omega]
 rw[<-List.append_assoc,D,List.take_append_drop]
theorem y7d {l:List Hd}{a b:Nat}{x:Hd}(hb:b<=l.length)(I:x∈seg l a b):∃i,a<=i/\i<b/\x=l.getD i hd0:=by
 obtain⟨i,D,rfl⟩:=List.getElem_of_mem I;rw[z2a hb]at D;refine⟨a+i,oo,oo,?_⟩;rw[<-z6u D,List.getD,List.getElem?_eq_getElem (by rw[z2a hb];exact D)];rfl
def z9g (l:List Hd)(a b:Nat):Prop:=∀i j,a<=i->i<j->j<b->(l.getD i hd0).s<=(l.getD j hd0).s
theorem y9f {l:List Hd}{a b:Nat}(hb:b<=l.length)(h:z9g l a b):x1j (seg l a b):=by
 refine List.pairwise_iff_getElem.2 λi j D I Z=>?_;have l1:=D;have l2:=I;rw[z2a hb]at D I;have M:=z6u (l:=l) D;have O:=z6u (l:=l) I;rw[List.getD,List.getElem?_eq_getElem l1,Option.getD_some]at M;rw[List.getD,List.getElem?_eq_getElem l2,Option.getD_some]at O;rw[M,O];exact h _ _ oo oo oo
theorem x6t {l:List Hd}{a b:Nat}(hb:b<=l.length)(h:x1j (seg l a b)):z9g l a b:=λi j M O Z=>by
 have:=List.pairwise_iff_getElem.1 h (i-a) (j-a) (by rw[z2a hb];omega) (by rw[z2a hb];omega) oo
 have D:=z6u (l:=l) (a:=a) (b:=b) (i:=i-a) oo
 have I:=z6u (l:=l) (a:=a) (b:=b) (i:=j-a) oo
 rw[List.getD,List.getElem?_eq_getElem (by rw[z2a hb];omega),Option.getD_some,show a+(i-a)=i by omega]at D
 rw[List.getD,List.getElem?_eq_getElem (by rw[z2a hb];omega),Option.getD_some,show a+(j-a)=j by omega]at I
 rw[D,I]at this;exact this
theorem v6v {l:List Hd}{a b i:Nat}(h:a<=b)(hb:b<=l.length)(D:i<a\/b<=i):(z7k l a b b).getD i hd0=l.getD i hd0:=by
 unfold z7k;rw[show min b b=b by omega];rcases D with e|e
 rw[List.getD,List.getD,List.getElem?_append_left (by rw[List.length_take];omega),List.getElem?_take,if_pos e];rw[List.getD,List.getD,List.getElem?_append_right (by rw[List.length_take];omega),List.length_take,List.getElem?_append_right (by rw[z6i h hb];omega),z6i h hb,List.getElem?_drop];congr 2;omega
theorem x0f {l:List Hd}{a b:Nat}(h:a<=b)(hb:b<=l.length):(z7k l a b b).length=l.length:=by
 unfold z7k;rw[show min b b=b by omega,List.length_append,List.length_append,z6i h hb,List.length_take,List.length_drop];omega
theorem z7g {l:List Hd}{a b:Nat}(h:a<=b)(hb:b<=l.length)(D:z9g l a b):z7k l a b b=l:=by
 unfold z7k;rw[show min b b=b by omega,u4r (y9f hb D)];exact y7l h hb
theorem y9a {l:List Hd}{P M S:List Hd}(h:l=P++(M++S)):seg l P.length (P.length+M.length)=M:=by
 subst h;unfold seg;rw[<-List.append_assoc,List.take_append_of_le_length (by rw[List.length_append];exact Nat.le_refl _),show P.length+M.length=(P++M).length by rw[List.length_append],List.take_length];simp
theorem z7f {P M S:List Hd}:z7k (P++(M++S)) P.length (P.length+M.length) (P.length+M.length)=P++(z5i M++S):=by
 unfold z7k;rw[Nat.min_self];have:=y9a (l:=P++(M++S)) U;unfold seg at this;rw[this];congr 1;simp;congr 1;rw[<-List.append_assoc,show P.length+M.length=(P++M).length by rw[List.length_append],List.drop_append_of_le_length (Nat.le_refl _)];simp
theorem x7m {l:List Hd}{s m e:Nat}(h1:s<=m)(M:m<=e)(D:e<=l.length):z5h l s m e=l.take s++(seg l m e++(seg l s m++l.drop e)):=by
 refine z6m (by simp only[z1o,List.length_append,z2a D,z2a (show m<=l.length by omega),List.length_take,List.length_drop];omega) λi I=>?_;rw[z1o]at I;rw[z2n I];unfold z8y;by_cases c1:i<s;rw[if_pos (.inl c1),List.getD,List.getD,List.getElem?_append_left (by rw[List.length_take];omega),List.getElem?_take,if_pos c1];rw[List.getD,List.getD,List.getElem?_append_right (by rw[List.length_take];omega),List.length_take,show min s l.length=s by omega];by_cases c2:i<s+(e-m);rw[if_neg oo,if_pos c2,List.getElem?_append_left (by rw[z2a D];omega)];have:=z6u (l:=l) (a:=m) (b:=e) (i:=i-s) oo;rw[List.getD,List.getD]at this;rw[this];congr 2;omega;rw[List.getElem?_append_right (by rw[z2a D];omega),z2a D];by_cases c3:i<e;rw[if_neg oo,if_neg c2,List.getElem?_append_left (by rw[z2a oo];omega)];have:=z6u (l:=l) (a:=s) (b:=m) (i:=i-s-(e-m)) oo;rw[List.getD,List.getD]at this;rw[this];congr 2;omega;rw[if_pos oo,List.getElem?_append_right (by rw[z2a oo];omega),z2a oo,List.getElem?_drop];congr 2;omega
theorem u5i {l:List Hd}{a b:Nat}(h:a<=b)(hb:b<=l.length):z7k l a b b=l.take a++(z5i (seg l a b)++l.drop b):=by unfold z7k;rw[Nat.min_self]
theorem y0u {l:List Hd}{a s m e b mid:Nat}(h1:a<=s)(O:s<=m)(Z:m<=e)(h4:e<=b)(hb:b<=l.length)(hm:mid=s+(e-m))(hl:z9g l a m)(hr:z9g l m b)
    (hx:∀i j,s<=i->i<m->m<=j->j<e->(l.getD j hd0).s<(l.getD i hd0).s) (hy:∀i j,a<=i->i<s->e<=j->j<b->(l.getD i hd0).s<=(l.getD j hd0).s):z7k (z7k (z5h l s m e) a mid mid) mid b b=z7k l a b b:=by
  have el:z5h l s m e=l.take a++((seg l a s++seg l m e)++((seg l s m++seg l e b)++l.drop b)):=by
    rw[x7m O Z oo]
    have t1:l.take s=l.take a++seg l a s:=by
      unfold seg
      conv=>lhs;rw[<-List.take_append_drop a (l.take s)]
      rw[List.take_take,show min a s=a by omega]
    have t2:l.drop e=seg l e b++l.drop b:=by
      have:=y7l (l:=l) h4 hb
      have h:=congrArg (List.drop e) this
      rw[List.drop_append_of_le_length (by rw[List.length_take];omega),List.drop_eq_nil_of_le (by rw[List.length_take];omega)]at h
      exact h.symm
    rw[t1,t2];simp only[List.append_assoc]
  have lA:(l.take a).length=a:=by rw[List.length_take];omega
  have lM:(seg l a s++seg l m e).length=mid-a:=by rw[List.length_append,z2a oo,z2a oo];omega
  have lN:(seg l s m++seg l e b).length=b-mid:=by rw[List.length_append,z2a oo,z2a oo];omega
  have i1:=z7f (P:=l.take a) (M:=seg l a s++seg l m e) (S:=(seg l s m++seg l e b)++l.drop b)
  rw[lA,lM,show a+(mid-a)=mid by omega,<-el]at i1
  rw[i1]
  have i2:=z7f (P:=l.take a++z5i (seg l a s++seg l m e)) (M:=seg l s m++seg l e b) (S:=l.drop b)
  rw[List.length_append,lA,z4f,lM,lN,show a+(mid-a)+(b-mid)=b by omega,show a+(mid-a)=mid by omega]at i2
  rw[<-List.append_assoc (l.take a),i2,u5i oo hb,List.append_assoc (l.take a),<-List.append_assoc (z5i (seg l a s++seg l m e))]
  congr 2
  rw[y2b (a:=a) (m:=m) (b:=b) oo oo hb,y2b (a:=a) (m:=s) (b:=m) h1 O oo,y2b (a:=m) (m:=e) (b:=b) Z h4 hb]
  refine u2q ?_ ?_ (λx D y I=>?_) (λx D y I=>?_)
  · rw[<-y2b h1 O oo];exact y9f oo hl
  · rw[<-y2b Z h4 hb];exact y9f hb hr
  · obtain⟨i,k1,k2,rfl⟩:=y7d oo D
    obtain⟨j,k3,k4,rfl⟩:=y7d oo I
    exact hx i j k1 k2 k3 k4
  · obtain⟨i,k1,k2,rfl⟩:=y7d oo D
    obtain⟨j,k3,k4,rfl⟩:=y7d hb I
    exact hy i j k1 k2 k3 k4
theorem y8i {l:List Hd}{a s m e mid:Nat}(h1:a<=s)(O:s<=m)(Z:m<=e)(he:e<=l.length)(hm:mid=s+(e-m))(hl:z9g l a m)(b:Nat)(M:z9g l m b)(hb:e<=b):z9g (z5h l s m e) a s/\z9g (z5h l s m e) s mid:=by
 constructor;intro i j D I k3;rw[z2n oo,z2n oo];unfold z8y;rw[if_pos oo,if_pos oo];exact hl i j D I oo;intro i j D I k3;rw[z2n oo,z2n oo];unfold z8y;rw[if_neg oo,if_pos oo,if_neg oo,if_pos oo];exact M _ _ oo oo oo
theorem x5p {l:List Hd}{a s m e b mid:Nat}(h1:a<=s)(O:s<=m)(Z:m<=e)(he:e<=b)(hb:b<=l.length)(hm:mid=s+(e-m))(hl:z9g l a m)(M:z9g l m b):z9g (z7k (z5h l s m e) a mid mid) mid e/\z9g (z7k (z5h l s m e) a mid mid) e b:=by
 have g:∀i,mid<=i->i<b->(z7k (z5h l s m e) a mid mid).getD i hd0=l.getD (z8y s m e i) hd0:=λi D I=>by
  rw[v6v oo (by rw[z1o];omega) (.inr D),z2n oo]
 constructor;intro i j D I k3;rw[g i oo oo,g j oo oo];unfold z8y;rw[if_neg oo,if_neg oo,if_neg oo,if_neg oo];exact hl _ _ oo oo oo;intro i j D I k3;rw[g i oo oo,g j oo oo];unfold z8y;rw[if_pos oo,if_pos oo];exact M _ _ oo I k3
theorem u6r {l:List Hd}{a i b:Nat}(h1:a+1<=i)(h2:i<=b)(hb:b<=l.length)(hr:z9g l (a+1) b)(hx:∀j,a+1<=j->j<i->(l.getD j hd0).s<(l.getD a hd0).s)(hy:∀j,i<=j->j<b->(l.getD a hd0).s<=(l.getD j hd0).s):z5h l a (a+1) i=z7k l a b b:=by
 have k:=y0u (l:=l) (a:=a) (s:=a) (m:=a+1) (e:=i) (b:=b) (mid:=a+(i-(a+1))) (Nat.le_refl _) oo h1 h2 hb U (λI M O D k3=>oo) hr
  (λI M O D k3 k4=>by obtain rfl:I=a:=oo;exact hx M k3 k4) (λI M O D=>oo)
 have r1:=y8i (l:=l) (a:=a) (s:=a) (m:=a+1) (e:=i) (mid:=a+(i-(a+1))) (Nat.le_refl _) oo h1 oo U (λI M O D k3=>oo) b hr h2;rw[<-k];have s1:z9g (z5h l a (a+1) i) a (a+(i-(a+1))):=r1.2;rw[z7g oo (by rw[z1o];omega) s1];have s2:z9g (z5h l a (a+1) i) (a+(i-(a+1))) b:=λx y O D k3=>by
  rw[z2n oo,z2n oo];by_cases e1:x=i-1;have Z:z8y a (a+1) i x=a:=by unfold z8y;rw[if_neg oo,if_neg oo];omega
  have f2:z8y a (a+1) i y=y:=by unfold z8y;rw[if_pos oo]
  rw[Z,f2];exact hy y oo k3;have Z:z8y a (a+1) i x=x:=by unfold z8y;rw[if_pos oo]
  have f2:z8y a (a+1) i y=y:=by unfold z8y;rw[if_pos oo]
  rw[Z,f2];exact hr x y oo D k3
 exact(z7g oo (by rw[z1o];omega) s2).symm
theorem u6q {l:List Hd}{a i m:Nat}(h1:a<=i)(h2:i<=m)(hb:m+1<=l.length)(hl:z9g l a m)(hx:∀j,i<=j->j<m->(l.getD m hd0).s<(l.getD j hd0).s)(hy:∀j,a<=j->j<i->(l.getD j hd0).s<=(l.getD m hd0).s):z5h l i m (m+1)=z7k l a (m+1) (m+1):=by
 have k:=y0u (l:=l) (a:=a) (s:=i) (m:=m) (e:=m+1) (b:=m+1) (mid:=i+1) h1 h2 oo (Nat.le_refl _) hb oo hl (λZ j' D I k3=>oo)
  (λZ j' D I k3 k4=>by obtain rfl:j'=m:=oo;exact hx Z D I) (λZ j' D I k3 k4=>oo)
 rw[<-k];have s1:z9g (z5h l i m (m+1)) a (i+1):=λx y D I k3=>by
  rw[z2n oo,z2n oo];have O:z8y i m (m+1) x=x:=by unfold z8y;rw[if_pos oo]
  by_cases e1:y=i;have M:z8y i m (m+1) y=m:=by unfold z8y;rw[if_neg oo,if_pos oo];omega
  rw[O,M];exact hy x D oo;have M:z8y i m (m+1) y=y:=by unfold z8y;rw[if_pos oo]
  rw[O,M];exact hl x y D I oo
 rw[z7g oo (by rw[z1o];omega) s1];have s2:z9g (z5h l i m (m+1)) (i+1) (m+1):=λx y D I k3=>by
  rw[z2n oo,z2n oo];have O:z8y i m (m+1) x=x-1:=by unfold z8y;rw[if_neg oo,if_neg oo];omega
  have M:z8y i m (m+1) y=y-1:=by unfold z8y;rw[if_neg oo,if_neg oo];omega
  rw[O,M];exact hl _ _ oo oo oo
 exact(z7g oo (by rw[z1o];omega) s2).symm
theorem j1g {l:List Hd}{s m e:Nat}(h:¬(s<m/\m<e))(h1:s<=m)(D:m<=e):z5h l s m e=l:=by
 by_cases k:s<m;obtain rfl:e=m:=by omega
 exact u0q h1;obtain rfl:s=m:=by omega
 exact u1k D
theorem skip1 {l:List Hd}{a s m e mid:Nat}(hn:¬(a<s/\s<mid))(h1:a<=s)(D:s<=m)(I:m<=e)(M:e<=l.length)(O:mid=s+(e-m))(hl:z9g l a m)(b:Nat)(Z:z9g l m b)(hb:e<=b):z7k (z5h l s m e) a mid mid=z5h l s m e:=by
 obtain⟨k1,k2⟩:=y8i h1 D I M O hl b Z hb;refine z7g oo (by rw[z1o];omega) ?_;by_cases k:a<s;obtain rfl:mid=s:=by omega
 exact k1;obtain rfl:s=a:=by omega
 exact k2
theorem j2f {l:List Hd}{a s m e b mid:Nat}(hn:¬(mid<e/\e<b))(h1:a<=s)(D:s<=m)(I:m<=e)(M:e<=b)(hb:b<=l.length)(O:mid=s+(e-m))(hl:z9g l a m)(Z:z9g l m b):z7k (z7k (z5h l s m e) a mid mid) mid b b=z7k (z5h l s m e) a mid mid:=by
 obtain⟨k1,k2⟩:=x5p h1 D I M hb O hl Z;refine z7g oo (by rw[x0f oo (by rw[z1o];omega),z1o];omega) ?_;by_cases k:mid<e;obtain rfl:e=b:=by omega
 exact k1;obtain rfl:e=mid:=by omega
 exact k2
structure Sch (l:List Hd) (p s0 r0 s r:Nat):Prop where
  lo:s0<=s
  le:s<=r
  hi:r<=r0
  f1:∀x,s0<=x->x<s->(l.getD x hd0).s<=(l.getD (p-x) hd0).s
  f2:∀x,r<=x->x<r0->(l.getD (p-x) hd0).s<(l.getD x hd0).s
theorem j2o {l:List Hd}{p s0 r0:Nat}(h:s0<=r0):Sch l p s0 r0 s0 r0:=⟨Nat.le_refl _,h,Nat.le_refl _,λx _ _=>oo,λx _ _=>oo⟩
theorem z5u {l:List Hd}{a b i j:Nat}(h:z9g l a b)(D:a<=i)(I:i<=j)(M:j<b):(l.getD i hd0).s<=(l.getD j hd0).s:=by
 by_cases e:i=j;subst e;exact Int.le_refl _;exact h i j D oo M
section
variable {l:List Hd} {a m b mid p s0 r0 s r c:Nat}
theorem u7q (h:Sch l p s0 r0 s r)(hc:s<=c/\c<r)(hl:z9g l a m)(D:z9g l m b)(ha:a<=s0)(hm:r0<=m)(hi:r0<=mid)(hp:p=mid+m-1)(hb:mid+m<=b+s0)(hx:¬(l.getD (p-c) hd0).s<(l.getD c hd0).s):Sch l p s0 r0 (c+1) r:=by
 obtain⟨k1,k2,k3,k4,I⟩:=h;refine⟨oo,oo,k3,λx Z h2=>?_,I⟩;have M:=z5u hl (show a<=x by omega) (show x<=c by omega) (show c<m by omega);have O:=z5u D (show m<=p-c by omega) (show p-c<=p-x by omega) (show p-x<b by omega);omega
theorem v7d (h:Sch l p s0 r0 s r)(hc:s<=c/\c<r)(hl:z9g l a m)(D:z9g l m b)(ha:a<=s0)(hm:r0<=m)(hi:r0<=mid)(hp:p=mid+m-1)(hb:mid+m<=b+s0)(hx:(l.getD (p-c) hd0).s<(l.getD c hd0).s):Sch l p s0 r0 s c:=by
 obtain⟨I,k2,k3,M,k5⟩:=h;refine⟨I,oo,oo,M,λx h1 h2=>?_⟩;have O:=z5u hl (show a<=c by omega) (show c<=x by omega) (show x<m by omega);have Z:=z5u D (show m<=p-x by omega) (show p-x<=p-c by omega) (show p-c<b by omega);omega
theorem v9a (h:Sch l p s0 r0 s s)(hl:z9g l a m)(Z:z9g l m b)(ha:a<=s0)(hm:r0=min m mid)(hp:p=mid+m-1)(hb:mid+m<=b+s0)(h0:s0=a\/s0=mid+m-b)(a0:b<=mid+m\/s0=a) :
    (∀i j,s<=i->i<m->m<=j->j<mid+m-s->(l.getD j hd0).s<(l.getD i hd0).s)/\(∀i j,a<=i->i<s->mid+m-s<=j->j<b->(l.getD i hd0).s<=(l.getD j hd0).s):=by
  obtain⟨k1,k2,k3,k4,k5⟩:=h
  constructor
  · intro i j D I M O
    have e0:=k5 s (Nat.le_refl _) oo
    have e1:=z5u hl (show a<=s by omega) D I
    have e2:=z5u Z M (show j<=p-s by omega) (show p-s<b by omega)
    omega
  · intro i j D I M O
    by_cases e:s0<s
    · have e0:=k4 (s-1) oo oo
      have e1:=z5u hl D (show i<=s-1 by omega) (show s-1<m by omega)
      have e2:=z5u Z (show m<=p-(s-1) by omega) (show p-(s-1)<=j by omega) O
      omega
    · omega
end
def chk (B:Nat)(l:List Hd):List Hd:=if h:B=0\/l.length<=B then z5i l else z5i (l.take B)++chk B (l.drop B)
termination_by l.length
decreasing_by rw [List.length_drop];omega
theorem z9z {B:Nat}{l:List Hd}(h:l.length<=B):chk B l=z5i l:=by rw[chk,dif_pos (.inr h)]
theorem v7x {B:Nat}{X Y:List Hd}(D:0<B)(h:X.length=B):chk B (X++Y)=z5i X++chk B Y:=by
 rw[chk];split;rename_i k;rw[List.length_append]at k;have:Y=[]:=List.length_eq_zero_iff.1 oo;subst this;rw[List.append_nil,z9z (l:=[]) sp0];exact(List.append_nil _).symm;rw[<-h];simp
theorem v1c (B:Nat):∀(n:Nat) (l:List Hd),l.length<=n->(chk B l).length=l.length
 | 0,l,h=>by rw[chk,dif_pos (.inr oo),z4f]
 | n+1,l,h=>by
  rw[chk]
  split
  ·exact z4f l
  rename_i k
  rw[List.length_append,z4f,v1c B n _ (by rw[List.length_drop];omega),List.length_take,List.length_drop];omega
theorem y0s {B a:Nat}{l:List Hd}(I:0<B)(h:a+B<=l.length):chk B (l.drop a)=z5i (seg l a (a+B))++chk B (l.drop (a+B)):=by
 have e:l.drop a=seg l a (a+B)++l.drop (a+B):=by
  have:=y7l (l:=l) (a:=a) (b:=a+B) oo h
  have D:=congrArg (List.drop a) this
  rw[List.drop_append_of_le_length (by rw[List.length_take];omega),List.drop_eq_nil_of_le (by rw[List.length_take];omega)]at D
  exact D.symm
 conv=>lhs;rw[e]
 exact v7x I (by rw[z2a h];omega)
theorem v8y {l D:List Hd}{a B:Nat}(O:D.length=a)(h:a+B<=l.length):z7k (D++l.drop a) a (a+B) (a+B)=(D++z5i (seg l a (a+B)))++l.drop (a+B):=by
 have e:l.drop a=seg l a (a+B)++l.drop (a+B):=by
  have:=y7l (l:=l) (a:=a) (b:=a+B) oo h;have I:=congrArg (List.drop a) this;rw[List.drop_append_of_le_length (by rw[List.length_take];omega),List.drop_eq_nil_of_le (by rw[List.length_take];omega)]at I;exact I.symm
 rw[e];have:=z7f (P:=D) (M:=seg l a (a+B)) (S:=l.drop (a+B));rw[O,z2a h,show a+(a+B-a)=a+B by omega]at this;rw[this,List.append_assoc]
theorem v5c {l D:List Hd}{a B:Nat}(I:D.length=a)(h:a<=l.length)(hl:l.length<=a+B):z7k (D++l.drop a) a l.length l.length=D++chk B (l.drop a):=by
 have:=z7f (P:=D) (M:=l.drop a) (S:=[]);rw[I,List.length_drop,show a+(l.length-a)=l.length by omega,List.append_nil,List.append_nil]at this;rw[this,z9z (by rw[List.length_drop];omega)]
theorem x0s {l D:List Hd}{a B C:Nat}(I:D.length=a)(hB:0<B)(hC:C<=B)(h:a+(B+C)<=l.length)(R:List Hd)(hR:chk B (l.drop (a+B))=z5i (seg l (a+B) (a+(B+C)))++R) :
    z7k (D++chk B (l.drop a)) a (a+(B+C)) (a+(B+C))=(D++z5i (seg l a (a+(B+C))))++R/\z9g (D++chk B (l.drop a)) a (a+B)/\z9g (D++chk B (l.drop a)) (a+B) (a+(B+C)):=by
  have e:D++chk B (l.drop a)=D++((z5i (seg l a (a+B))++z5i (seg l (a+B) (a+(B+C))))++R):=by
    rw[y0s hB oo,hR,List.append_assoc]
  have O:(z5i (seg l a (a+B))).length=B:=by rw[z4f,z2a oo];omega
  have Z:(z5i (seg l (a+B) (a+(B+C)))).length=C:=by rw[z4f,z2a oo];omega
  have s:=z7f (P:=D) (M:=z5i (seg l a (a+B))++z5i (seg l (a+B) (a+(B+C)))) (S:=R)
  rw[I,List.length_append,O,Z]at s
  refine⟨?_,?_,?_⟩
  · rw[e,s,v6l,<-y2b oo oo h,List.append_assoc]
  · refine x6t ?_ ?_
    · rw[e];simp only[List.length_append,I,O,Z];omega
    · rw[e]
      have:=y9a (l:=D++(z5i (seg l a (a+B))++(z5i (seg l (a+B) (a+(B+C)))++R))) U
      rw[I,O]at this
      rw[List.append_assoc (z5i (seg l a (a+B))),this];exact z7o _
  · refine x6t ?_ ?_
    · rw[e];simp only[List.length_append,I,O,Z];omega
    · rw[e]
      have:=y9a (l:=(D++z5i (seg l a (a+B)))++(z5i (seg l (a+B) (a+(B+C)))++R)) U
      rw[List.length_append,I,O,Z,List.append_assoc,show a+B+C=a+(B+C) by omega]at this
      rw[List.append_assoc (z5i (seg l a (a+B))),this];exact z7o _
theorem u4m:∀l:Bed,(∀s∈l,s.length<=4)->l.flatten.length<=4*l.length
 | [],_=>by simp
 | s::l,h=>by
  have I:=h s (List.mem_cons_self ..)
  have M:=u4m l λt D=>h t (List.mem_cons_of_mem _ D)
  rw[List.flatten_cons,List.length_append,List.length_cons];omega
theorem y3r {B:Bd}(h:BdOk B):B.flat.length<=320:=by
 have I:=u4m B.f λs D=>h.ss s (List.mem_append.2 (.inl D));have M:=u4m B.b λs D=>h.ss s (List.mem_append.2 (.inr D));have O:=h.lf;have Z:=h.lb;unfold Bd.flat;rw[List.length_append];omega
end Go.G08
namespace Go.Lw
open Go.RowKit
section
variable {P:Program} {n:Nat} {L:List (Nat×Value)} {ds:List Nat} {w w':World} {Q:Exit->Act->World->Prop} {ops:Array Oper} {rest:List Oper} {d:Nat} {ty T:TypeId} {pos:String} {after:Array Edge} {v:Value} {x:Operand}
theorem v9q {t t':TypeId}{k k':IntKind}{i:Int}{m:Nat}{z:Int}{y:Operand}(M:ev L x=some (.int k i))(O:ev L y=some (.int k' (m:Int)))(I:m<=k.bits)(Z:i / ((2 ^ m:Nat):Int)=z)(hn:Nat.blt d n=true)(q:WL P ops Q rest n ds w ((d,.int k z)::L)):WL P ops Q (⟨some d,.binOp .shr t x y t',ty,pos,after,none⟩::rest) n ds w L:=
 λa h=>z2c h U hn (by
  have e:i.fdiv (2 ^ m)=z:=by
   rw[Int.fdiv_eq_ediv_of_nonneg _ (by exact_mod_cast Nat.zero_le (2 ^ m)),<-Z]
   congr 1
  have D:¬((m:Nat):Int)<0:=by omega
  simp[execOp,h.eval M,h.eval O,eqGuard_shr,binOp_shr,Op.shift,Nat.min_eq_left I,e,D]) q
end
end Go.Lw
namespace Go.Proofs.YtlfdhllfmoplgaaGreatDoor
open Go.Lw Go.G21 Go.G08 _root_.Go.Proofs.Tryz
theorem v3y (g c base:Nat)(M b k:Nat)(A B K:Int)(l:List Hd)(w0:World)(hA:A=(M:Int))(hB:B=(b:Int))(hK:K=(k:Int))(I:Lw.Own z3t 131 base w0 (.slice (some ⟨g,0,none⟩) l.length c) l)(hl:l.length<=1000000)(a3:M+k<=b/\b+k<=l.length):Rets prog 244 #[.slice (some ⟨g,0,none⟩) l.length c,.int .i64 A,.int .i64 B,.int .i64 K,.func (.func 121) #[] #[]] w0 λr w'=>r=.tuple #[]/\Lw.Own z3t 131 base w' (.slice (some ⟨g,0,none⟩) l.length c) (swL l M b k)/\Fr [g] w0 w':=by
 subst hA hB hK;refine we [(0,.slice (some ⟨g,0,none⟩) l.length c),(1,.int .i64 (M:Int)),(2,.int .i64 (b:Int)),(3,.int .i64 (k:Int)),(4,.func (.func 121) #[] #[])] func244 U ntmps244 U (.c5 U U U U U) (sr (asg U (nn (bl ?_))));refine lpK (ι:=Nat) [(0,_),(1,_),(2,_),(3,_)] (λi=>[(10,.int .i64 (i:Int))]) (λi w'=>Fr [g] w0 w'/\i<=k/\Lw.Own z3t 131 base w' (.slice (some ⟨g,0,none⟩) l.length c) (swL l M b i)) (λi=>k-i) 0 (.c5 U U U U U) ⟨Fr.refl _ _,⟨Nat.zero_le _,(by rw[sw_0];exact I)⟩⟩ ?_;rintro i w1 ⟨q1,⟨hi,I⟩⟩;refine kpC [(0,_),(1,_),(2,_),(3,_),(10,_)] (.c5 U U U U U) ?_;have a4:=z6g l M b i;refine sq (sr (mv U (mv U (lt' U (nn (cd U (λc0=>?_) (λc0=>?_)))))));refine sk (tn (sq (bl ?_)));intro a h;refine z0h (some 23) (λwb w'=>Fr [g] wb w') z2o ?_;intro w2 q2;replace I:=I.ext q2;have hC:Fr [g] w2 w2:=Fr.refl _ _;have a0:=I;refine z0e 0 h U λa h=>z0e 1 h U λa h=>z0e 2 h U λa h=>z5n 3 h U (by first|exact i6 oo|rfl) U λa h=>z0e 4 h U λa h=>z0e 5 h U λa h=>z0e 6 h U λa h=>z5n 7 h U (by first|exact i6 oo|rfl) U λa h=>z0e 8 h U λa h=>z0e 9 h U λa h=>z0e 10 h U λa h=>?_;refine z5n 11 h U (by first|exact i6 oo|rfl) U λa h=>z1e (p:=(b+i)) (hd0) 12 h U I.sl U z3i U λa1 O a h=>z0e 14 h U λa h=>z0e 15 h U λa h=>z0e 16 h U λa h=>z5n 17 h U (by first|exact i6 oo|rfl) U λa h=>z1e (p:=(M+i)) (hd0) 18 h U I.sl U z3i U λa2 Z a h=>z1u 13 19 kr U ?_ ?_;refine z1p h U (O _ I.sl) z5d U λa h=>?_;refine z0b ?_;refine z0d 19 U ?_;refine z1p h U (Z _ I.sl) z5d U λa h=>?_;refine z0b ?_;refine z1m 20 kr kr kr hC (p:=(M+i)) h wn U z3i oo oo oo U U λa h=>z0d 21 U ?_;refine z0z (i:=(M+i)) (((swL l M b i).getD (b+i) hd0)) h U I (by rw[z6g];omega) U z7x λw3 D q3 _hz a h=>?_;replace hC:=hC.sp q3;clear _hz I;have I:=D;clear D;refine z0b ?_;refine z1m 22 kr kr kr hC (p:=(b+i)) h wn U z3i oo oo oo U U λa h=>z0d 23 U ?_;refine z0z (i:=(b+i)) (((swL l M b i).getD (M+i) hd0)) h U I (by rw[List.length_set,z6g];omega) U z7x λw4 D q4 _hz a h=>?_;clear _hz I;have I:=D;clear D;refine z1n ?_;refine z0r ?_;clear hC a0;refine bk (h.sub (L':=[(0,_),(1,_),(2,_),(3,_),(10,_)]) (.c5 U U U U U)) (bn' (tn (rg (mv U (z0x U (wi6 oo) (asg U (nl ?_)))))));exact lpE (i+1) (.c5 U U U U U) ⟨((Fr.refl [g] _).z4 q1 q2 q3 q4),⟨oo,(by rw[v3d oo oo]at I;exact I)⟩⟩ oo;refine z1p h U (Z _ I.sl) z5d U λa h=>?_;refine z0b ?_;refine z0d 13 U ?_;refine z1p h U (O _ I.sl) z5d U λa h=>?_;refine z0b ?_;refine z1m 20 kr kr kr hC (p:=(M+i)) h wn U z3i oo oo oo U U λa h=>z0d 21 U ?_;refine z0z (i:=(M+i)) (((swL l M b i).getD (b+i) hd0)) h U I (by rw[z6g];omega) U z7x λw5 D q5 _hz a h=>?_;replace hC:=hC.sp q5;clear _hz I;have I:=D;clear D;refine z0b ?_;refine z1m 22 kr kr kr hC (p:=(b+i)) h wn U z3i oo oo oo U U λa h=>z0d 23 U ?_;refine z0z (i:=(b+i)) (((swL l M b i).getD (M+i) hd0)) h U I (by rw[List.length_set,z6g];omega) U z7x λw6 D q6 _hz a h=>?_;clear _hz I;have I:=D;clear D;refine z1n ?_;refine z0r ?_;clear hC a0;refine bk (h.sub (L':=[(0,_),(1,_),(2,_),(3,_),(10,_)]) (.c5 U U U U U)) (bn' (tn (rg (mv U (z0x U (wi6 oo) (asg U (nl ?_)))))));exact lpE (i+1) (.c5 U U U U U) ⟨((Fr.refl [g] _).z4 q1 q2 q5 q6),⟨oo,(by rw[v3d oo oo]at I;exact I)⟩⟩ oo;obtain rfl:i=k:=by omega
 exact ex (te (te (xh (r0n results244  ⟨_,rfl,rfl,I,((Fr.refl [g] _).z1 q1)⟩))))
theorem u8h (g c base:Nat)(Z m b:Nat)(A M B:Int)(l:List Hd)(w0:World)(hA:A=(Z:Int))(hM:M=(m:Int))(hB:B=(b:Int))(I:Lw.Own z3t 131 base w0 (.slice (some ⟨g,0,none⟩) l.length c) l)(hl:l.length<=1000000)(a1:Z<m/\m<b/\b<=l.length):Rets prog 229 #[.slice (some ⟨g,0,none⟩) l.length c,.int .i64 A,.int .i64 M,.int .i64 B,.func (.func 121) #[] #[]] w0 λr w'=>r=.tuple #[]/\Lw.Own z3t 131 base w' (.slice (some ⟨g,0,none⟩) l.length c) (z5h l Z m b)/\Fr [g] w0 w':=by
 subst hA hM hB;refine we [(0,.slice (some ⟨g,0,none⟩) l.length c),(1,.int .i64 (Z:Int)),(2,.int .i64 (m:Int)),(3,.int .i64 (b:Int)),(4,.func (.func 121) #[] #[])] func229 U ntmps229 U (.c5 U U U U U) (sr (mv U (mv U (z2w U (wi6 oo) (asg U (nn (sr (mv U (mv U (z2w U (wi6 oo) (asg U (nn (sq (bl ?_))))))))))))));refine lpK (ι:=Nat×Nat) [(0,_),(2,_),(4,_)] (λp=>[(10,.int .i64 (p.1:Int)),(11,.int .i64 (p.2:Int))]) (λp w'=>Fr [g] w0 w'/\(1<=p.1/\1<=p.2/\p.1<=m/\m+p.2<=l.length)/\∃cur:List Hd,cur.length=l.length/\z5h cur (m-p.1) m (m+p.2)=z5h l Z m b/\Lw.Own z3t 131 base w' (.slice (some ⟨g,0,none⟩) l.length c) cur) (λp=>p.1+p.2) (m-Z,b-m) (.c5 U U U (by first|rfl|exact congrArg (λz=>some (Value.int .i64 z)) (by first|omega|(simp only;omega))) (by first|rfl|exact congrArg (λz=>some (Value.int .i64 z)) (by first|omega|(simp only;omega)))) ⟨Fr.refl _ _,⟨⟨sm,sm,sm,sm⟩,l,rfl,by simp only;rw[show m-(m-Z)=Z by omega,show m+(b-m)=b by omega],I⟩⟩ ?_;rintro⟨i,j⟩ w1 ⟨q1,⟨a0,cur,D,O,I⟩⟩;simp only at a0 O;refine kpC [(0,_),(2,_),(4,_),(10,.int .i64 (i:Int)),(11,.int .i64 (j:Int))] (.c5 U U U U U) (sq (sr (mv U (mv U (ne' U (nn (cd U (λc0=>?_) (λc0=>?_))))))));refine sk (tn (bl (sr (mv U (mv U (gt' U (nn (cd U (λc1=>?_) (λc1=>?_)))))))));refine sr (mv U (mv U (mv U (z2w U (wi6 oo) (mv U (mv U (mv U ?_)))))));refine cl (z0a U (z0a U (z0a U (z0a U (z0a U z0g))))) (mkC func244) (by have x:=v3y g c base (m-i) m j (↑m - ↑i) ↑m ↑j cur _ oo U U (by rw[D];exact I) oo oo;rw[D]at x;exact x) U ?_;rintro _ w2 ⟨rfl,I,q2⟩;refine kpL [(0,_),(2,_),(4,_),(10,_),(11,_)] (.c5 U U U U U) (nn (rg (mv U (mv U (z2w U (wi6 oo) (asg U (nl (bn' ?_))))))));exact lpE ((i-j,j)) (.c5 U U U (by first|rfl|exact congrArg (λz=>some (Value.int .i64 z)) (by first|omega|(simp only;omega))) (by first|rfl|exact congrArg (λz=>some (Value.int .i64 z)) (by first|omega|(simp only;omega)))) ⟨((Fr.refl [g] _).z2 q1 q2),⟨⟨sm,sm,sm,sm⟩,_,by rw[z6g];exact D,by simp only;rw[<-O];exact u9d oo oo oo,I⟩⟩ sm;refine sr (mv U (mv U (mv U (z2w U (wi6 oo) (mv U (mv U (z0x U (wi6 oo) (mv U (z2w U (wi6 oo) (mv U (mv U ?_)))))))))));refine cl (z0a U (z0a U (z0a U (z0a U (z0a U z0g))))) (mkC func244) (by have x:=v3y g c base (m-i) (m+j-i) i (↑m - ↑i) (↑m + ↑j - ↑i) ↑i cur _ oo oo U (by rw[D];exact I) oo oo;rw[D]at x;exact x) U ?_;rintro _ w3 ⟨rfl,I,q3⟩;refine kpL [(0,_),(2,_),(4,_),(10,_),(11,_)] (.c5 U U U U U) (nn (rg (mv U (mv U (z2w U (wi6 oo) (asg U (nl (bn' ?_))))))));exact lpE ((i,j-i)) (.c5 U U U (by first|rfl|exact congrArg (λz=>some (Value.int .i64 z)) (by first|omega|(simp only;omega))) (by first|rfl|exact congrArg (λz=>some (Value.int .i64 z)) (by first|omega|(simp only;omega)))) ⟨((Fr.refl [g] _).z2 q1 q3),⟨⟨sm,sm,sm,sm⟩,_,by rw[z6g];exact D,by simp only;rw[<-O];exact u7h oo oo oo,I⟩⟩ sm;obtain rfl:i=j:=by omega
 refine ex (te (te (xh (tn (rg (mv U (mv U (mv U (z2w U (wi6 oo) (mv U (mv U (mv U (cl (z0a U (z0a U (z0a U (z0a U (z0a U z0g))))) (mkC func244) (by have x:=v3y g c base (m-i) m i (↑m - ↑i) ↑m ↑i cur _ oo U U (by rw[D];exact I) oo oo;rw[D]at x;exact x) U ?_)))))))))))));rintro _ w4 ⟨rfl,I,q4⟩;exact kpL [] .nil (nl (r0n results229  ⟨_,rfl,rfl,by rw[<-O,<-j0y oo];exact I,((Fr.refl [g] _).z2 q1 q4)⟩))
theorem u0t (g c base:Nat)(n:Nat):∀(Z m b:Nat) (A M B:Int) (l:List Hd) (w0:World),b-Z<=n->A=(Z:Int)->M=(m:Int)->B=(b:Int)->Lw.Own z3t 131 base w0 (.slice (some ⟨g,0,none⟩) l.length c) l->l.length<=1000000->Z<m->m<b->b<=l.length->z9g l Z m->z9g l m b->Rets prog 205 #[.slice (some ⟨g,0,none⟩) l.length c,.int .i64 A,.int .i64 M,.int .i64 B,.func (.func 121) #[] #[]] w0 λr w'=>r=.tuple #[]/\Lw.Own z3t 131 base w' (.slice (some ⟨g,0,none⟩) l.length c) (z7k l Z b b)/\Fr [g] w0 w':=by
 induction n;intros;omega;rename_i n ih;intro Z m b A M B l w0 hn hA hM hB D hl h1 h2 h3 a0 a1;subst hA hM hB;obtain⟨mid,h9⟩:∃mid,mid=(Z+b) / 2:=⟨_,rfl⟩;refine we [(0,.slice (some ⟨g,0,none⟩) l.length c),(1,.int .i64 (Z:Int)),(2,.int .i64 (m:Int)),(3,.int .i64 (b:Int)),(4,.func (.func 121) #[] #[])] func205 U ntmps205 U (.c5 U U U U U) (sq (sr (mv U (mv U (z2w U (wi6 oo) (eq' U (nn (cd U (λc0=>?_) (λc0=>?_)))))))));obtain rfl:m=Z+1:=by omega
 refine sr (mv U (asg U (nn (sr (mv U (asg U (nn (sq (bl ?_)))))))));refine lpK (ι:=Nat×Nat) [(0,_),(1,_),(4,_)] (λp=>[(10,.int .i64 (p.1:Int)),(11,.int .i64 (p.2:Int))]) (λp w'=>Fr [] w0 w'/\(Z+1<=p.1/\p.1<=p.2/\p.2<=b)/\(∀x,Z+1<=x->x<p.1->(l.getD x hd0).s<(l.getD Z hd0).s)/\(∀x,p.2<=x->x<b->(l.getD Z hd0).s<=(l.getD x hd0).s)) (λp=>p.2-p.1) (Z+1,b) (.c5 U U U (by first|rfl|exact congrArg (λz=>some (Value.int .i64 z)) (by first|omega|(simp only;omega))) U) ⟨Fr.refl _ _,⟨⟨sm,sm,sm⟩,λx h h'=>by simp only at h';omega,λx h h'=>by simp only at h;omega⟩⟩ ?_;rintro⟨i,j⟩ w1 ⟨q1,hI⟩;simp only at hI;refine kpC [(0,_),(1,_),(4,_),(10,.int .i64 (i:Int)),(11,.int .i64 (j:Int))] (.c5 U U U U U) (sq (sr (mv U (mv U (lt' U (nn (cd U (λc1=>?_) (λc1=>?_))))))));refine sk (tn (bl (sr (mv U (mv U (z0x U (wi6 oo) (z4m U (us underlying3) underlying219 (IntWalk.u64_in _ oo) (v9q (m:=1) (z:=(((i+j) / 2:Nat):Int)) U U dd (show _ / (2:Int)=_ by omega) U (z4m U (us underlying219) underlying3 (wi6 oo) (asg U (kpL [(0,_),(1,_),(4,_),(10,_),(11,_),(12,_)] (.c6 U U U U U U) (nn (sq ?_)))))))))))));intro a h;refine z0h none (λwb w'=>Fr [] wb w') z2o ?_;intro w2 q2;replace D:=D.ext (q1.n1 q2);have hC:Fr [] w2 w2:=Fr.refl _ _;have O:=D;refine z0e 0 h U λa h=>z0e 1 h U λa h=>z0e 2 h U λa h=>z1e (p:=((i+j) / 2)) (hd0) 3 h U D.sl U z3i U λh0 d5 a h=>z1x 4 h wn U (λ_ hw=>d5 _ (O.sl.ext hw)) z5d U λa h=>z0e 5 h U λa h=>z0e 6 h U λa h=>z1e (p:=Z) (hd0) 7 h U D.sl U z3i U λh4 d6 a h=>z1x 8 h wn U (λ_ hw=>d6 _ (O.sl.ext hw)) z5d U λa h=>z0d 9 U (y0r (us:=[]) (ws:=[]) h U (z0a U (z0a U z0g)) (mkC func121) (y8q ((l).getD (((i+j) / 2)) hd0) ((l).getD (Z) hd0) _) U (by intro g e;cases e) ?_);rintro _ w3 ⟨rfl,q3⟩ a h;replace D:=D.ext q3;replace hC:=hC.next q3;refine z0b (x7d 10 hC h wn U U λa h=>z0r ?_);clear hC O;refine bk (h.sub (L':=[(0,_),(1,_),(4,_),(10,_),(11,_),(12,_),(50,_)]) (.c7 U U U U U U U)) (tn (cd U (λc2=>?_) (λc2=>?_)));have hx:=z9c.1 c2;refine rg (mv U (z0x U (wi6 oo) (asg U (nl (bn' ?_)))));exact lpE (((i+j) / 2+1,j)) (.c5 U U U (by first|rfl|exact congrArg (λz=>some (Value.int .i64 z)) (by first|omega|(simp only;omega))) (by first|rfl|exact congrArg (λz=>some (Value.int .i64 z)) (by first|omega|(simp only;omega)))) ⟨(q1.n2 q2 q3),⟨⟨sm,sm,sm⟩,λx h h'=>by
  have:=z5u a1 (show Z+1<=x by omega) (show x<=(i+j) / 2 by simp only at h';omega) oo;omega,hI.2.2⟩⟩ sm
 have hx:¬((l).getD (((i+j) / 2)) hd0).s<((l).getD (Z) hd0).s:=λe=>c2 (z9c.2 e);refine rg (mv U (asg U (nl (bn' ?_))));exact lpE ((i,(i+j) / 2)) (.c5 U U U (by first|rfl|exact congrArg (λz=>some (Value.int .i64 z)) (by first|omega|(simp only;omega))) (by first|rfl|exact congrArg (λz=>some (Value.int .i64 z)) (by first|omega|(simp only;omega)))) ⟨(q1.n2 q2 q3),⟨⟨sm,sm,sm⟩,hI.2.1,λx h h'=>by
  have:=z5u a1 (show Z+1<=(i+j) / 2 by omega) (show (i+j) / 2<=x by simp only at h;omega) h';omega⟩⟩ sm
 obtain rfl:i=j:=by omega
 refine ex (te (te (xh (tn (sq (sr (mv U (asg U (nn (bl ?_))))))))));replace D:=D.ext q1;refine lpK (ι:=Nat) [(0,_),(10,_)] (λk=>[(13,.int .i64 (k:Int))]) (λk w'=>Fr [g] w1 w'/\(Z<=k/\k+1<=i)/\Lw.Own z3t 131 base w' (.slice (some ⟨g,0,none⟩) l.length c) (z5h l Z (Z+1) (k+1))) (λk=>i-k) Z (.c3 U U U) ⟨Fr.refl _ _,⟨⟨Nat.le_refl _,oo⟩,by rw[u0q oo];exact D⟩⟩ ?_;rintro k w4 ⟨q4,⟨hk,D⟩⟩;refine kpC [(0,_),(10,_),(13,_)] (.c3 U U U) ?_;have f6:=z1o l Z (Z+1) (k+1);refine sq (sr (mv U (mv U (z2w U (wi6 oo) (lt' U (nn (cd U (λc3=>?_) (λc3=>?_))))))));refine sk (tn (sq (bl ?_)));intro a h;refine z0h (some 17) (λwb w'=>Fr [g] wb w') z2o ?_;intro w5 q5;replace D:=D.ext q5;have hC:Fr [g] w5 w5:=Fr.refl _ _;have O:=D;refine z0e 0 h U λa h=>z0e 1 h U λa h=>z0e 2 h U λa h=>z0e 3 h U λa h=>z5n 4 h U (by first|exact i6 oo|rfl) U λa h=>z0e 5 h U λa h=>z0e 6 h U λa h=>z5n 7 h U (by first|exact i6 oo|rfl) U λa h=>z1e (p:=(k+1)) (hd0) 8 h U D.sl U z3i U λh5 b2 a h=>z0e 10 h U λa h=>z0e 11 h U λa h=>z1e (p:=k) (hd0) 12 h U D.sl U z3i U λh6 b3 a h=>z1u 9 13 kr U ?_ ?_;refine z1p h U (b2 _ D.sl) z5d U λa h=>z0b (z0d 13 U (z1p h U (b3 _ D.sl) z5d U λa h=>?_));refine z0b (z1m 14 kr kr kr hC (p:=k) h wn U z3i oo oo oo U U λa h=>z0d 15 U (z0z (i:=k) (((z5h l Z (Z+1) (k+1)).getD (k+1) hd0)) h U D (by rw[z1o];omega) U z7x λw6 I q6 _hz a h=>?_));replace hC:=hC.sp q6;clear _hz D;have D:=I;clear I;refine z0b (z1m 16 kr kr kr hC (p:=(k+1)) h wn U z3i oo oo oo U U λa h=>z0d 17 U (z0z (i:=(k+1)) (((z5h l Z (Z+1) (k+1)).getD (k) hd0)) h U D (by rw[List.length_set,z1o];omega) U z7x λw7 I q7 _hz a h=>?_));clear _hz D;have D:=I;clear I;refine z1n (z0r ?_);clear hC O;refine bk (h.sub (L':=[(0,_),(10,_),(13,_)]) (.c3 U U U)) (bn' (tn (rg (mv U (z0x U (wi6 oo) (asg U (nl ?_)))))));exact lpE (k+1) (.c3 U U (congrArg (λz=>some (Value.int .i64 z)) oo)) ⟨((Fr.refl [g] _).z4 q4 q5 q6 q7),⟨oo,by rw[u1m oo oo]at D;exact D⟩⟩ oo;refine z1p h U (b3 _ D.sl) z5d U λa h=>z0b (z0d 9 U (z1p h U (b2 _ D.sl) z5d U λa h=>?_));refine z0b (z1m 14 kr kr kr hC (p:=k) h wn U z3i oo oo oo U U λa h=>z0d 15 U (z0z (i:=k) (((z5h l Z (Z+1) (k+1)).getD (k+1) hd0)) h U D (by rw[z1o];omega) U z7x λw8 I q8 _hz a h=>?_));replace hC:=hC.sp q8;clear _hz D;have D:=I;clear I;refine z0b (z1m 16 kr kr kr hC (p:=(k+1)) h wn U z3i oo oo oo U U λa h=>z0d 17 U (z0z (i:=(k+1)) (((z5h l Z (Z+1) (k+1)).getD (k) hd0)) h U D (by rw[List.length_set,z1o];omega) U z7x λw9 I q9 _hz a h=>?_));clear _hz D;have D:=I;clear I;refine z1n (z0r ?_);clear hC O;refine bk (h.sub (L':=[(0,_),(10,_),(13,_)]) (.c3 U U U)) (bn' (tn (rg (mv U (z0x U (wi6 oo) (asg U (nl ?_)))))));exact lpE (k+1) (.c3 U U (congrArg (λz=>some (Value.int .i64 z)) oo)) ⟨((Fr.refl [g] _).z4 q4 q5 q8 q9),⟨oo,by rw[u1m oo oo]at D;exact D⟩⟩ oo;obtain rfl:k+1=i:=by omega
 exact ex (te (te (xh (tn (rt (tr (r0 results205  ⟨_,rfl,rfl,by rw[<-u6r oo oo h3 a1 hI.2.1 hI.2.2];exact D,((Fr.refl [g] _).z2 q1 q4)⟩)))))));refine sk (tn (sq (sr (mv U (mv U (z2w U (wi6 oo) (eq' U (nn (cd U (λc4=>?_) (λc4=>?_))))))))));obtain rfl:b=m+1:=by omega
 refine sr (mv U (asg U (nn (sr (mv U (asg U (nn (sq (bl (lpK (ι:=Nat×Nat) [(0,_),(2,_),(4,_)] (λp=>[(14,.int .i64 (p.1:Int)),(15,.int .i64 (p.2:Int))]) (λp w'=>Fr [] w0 w'/\(Z<=p.1/\p.1<=p.2/\p.2<=m)/\(∀x,Z<=x->x<p.1->(l.getD x hd0).s<=(l.getD m hd0).s)/\(∀x,p.2<=x->x<m->(l.getD m hd0).s<(l.getD x hd0).s)) (λp=>p.2-p.1) (Z,m) (.c5 U U U U U) ⟨Fr.refl _ _,⟨⟨sm,sm,sm⟩,λx h h'=>by simp only at h';omega,λx h h'=>by simp only at h;omega⟩⟩ ?_))))))))));rintro⟨i,j⟩ g6 ⟨a7,hI⟩;simp only at hI;refine kpC [(0,_),(2,_),(4,_),(14,.int .i64 (i:Int)),(15,.int .i64 (j:Int))] (.c5 U U U U U) (sq (sr (mv U (mv U (lt' U (nn (cd U (λc5=>?_) (λc5=>?_))))))));refine sk (tn (bl (sr (mv U (mv U (z0x U (wi6 oo) (z4m U (us underlying3) underlying219 (IntWalk.u64_in _ oo) (v9q (m:=1) (z:=(((i+j) / 2:Nat):Int)) U U dd (show _ / (2:Int)=_ by omega) U (z4m U (us underlying219) underlying3 (wi6 oo) (asg U (kpL [(0,_),(2,_),(4,_),(14,_),(15,_),(16,_)] (.c6 U U U U U U) (nn (sq ?_)))))))))))));intro a h;refine z0h none (λwb w'=>Fr [] wb w') z2o ?_;intro e5 b7;replace D:=D.ext (a7.n1 b7);have hC:Fr [] e5 e5:=Fr.refl _ _;have O:=D;refine z0e 0 h U λa h=>z0e 1 h U λa h=>z0e 2 h U λa h=>z1e (p:=m) (hd0) 3 h U D.sl U z3i U λh7 d7 a h=>z1x 4 h wn U (λ_ hw=>d7 _ (O.sl.ext hw)) z5d U λa h=>z0e 5 h U λa h=>z0e 6 h U λa h=>z1e (p:=((i+j) / 2)) (hd0) 7 h U D.sl U z3i U λh8 d9 a h=>z1x 8 h wn U (λ_ hw=>d9 _ (O.sl.ext hw)) z5d U λa h=>z0d 9 U (y0r (us:=[]) (ws:=[]) h U (z0a U (z0a U z0g)) (mkC func121) (y8q ((l).getD (m) hd0) ((l).getD (((i+j) / 2)) hd0) _) U (by intro g e;cases e) ?_);rintro _ i5 ⟨rfl,b0⟩ a h;replace D:=D.ext b0;replace hC:=hC.next b0;refine z0b (x7d 10 hC h wn U U λa h=>z9u 11 hC h wn U U λa h=>z0r ?_);clear hC O;refine bk (h.sub (L':=[(0,_),(2,_),(4,_),(14,_),(15,_),(16,_),(103,_)]) (.c7 U U U U U U U)) (tn (cd U (λc6=>?_) (λc6=>?_)));have hx:¬((l).getD (m) hd0).s<((l).getD (((i+j) / 2)) hd0).s:=λe=>c6 (z9c.2 e);refine rg (mv U (z0x U (wi6 oo) (asg U (nl (bn' ?_)))));exact lpE (((i+j) / 2+1,j)) (.c5 U U U (by first|rfl|exact congrArg (λz=>some (Value.int .i64 z)) (by first|omega|(simp only;omega))) (by first|rfl|exact congrArg (λz=>some (Value.int .i64 z)) (by first|omega|(simp only;omega)))) ⟨(a7.n2 b7 b0),⟨⟨sm,sm,sm⟩,λx h h'=>by
  have:=z5u a0 (show Z<=x by omega) (show x<=(i+j) / 2 by simp only at h';omega) oo;omega,hI.2.2⟩⟩ sm
 have hx:=z9c.1 (Classical.not_not.1 c6);refine rg (mv U (asg U (nl (bn' ?_))));exact lpE ((i,(i+j) / 2)) (.c5 U U U (by first|rfl|exact congrArg (λz=>some (Value.int .i64 z)) (by first|omega|(simp only;omega))) (by first|rfl|exact congrArg (λz=>some (Value.int .i64 z)) (by first|omega|(simp only;omega)))) ⟨(a7.n2 b7 b0),⟨⟨sm,sm,sm⟩,hI.2.1,λx h h'=>by
  have:=z5u a0 (show Z<=(i+j) / 2 by omega) (show (i+j) / 2<=x by simp only at h;omega) h';omega⟩⟩ sm
 obtain rfl:i=j:=by omega
 refine ex (te (te (xh (tn (sq (sr (mv U (asg U (nn (bl ?_))))))))));replace D:=D.ext a7;refine lpK (ι:=Nat) [(0,_),(14,_)] (λk=>[(17,.int .i64 (k:Int))]) (λk w'=>Fr [g] g6 w'/\(i<=k/\k<=m)/\Lw.Own z3t 131 base w' (.slice (some ⟨g,0,none⟩) l.length c) (z5h l k m (m+1))) (λk=>k) m (.c3 U U U) ⟨Fr.refl _ _,⟨oo,by rw[u1k oo];exact D⟩⟩ ?_;rintro k i7 ⟨b8,⟨hk,D⟩⟩;refine kpC [(0,_),(14,_),(17,_)] (.c3 U U U) ?_;have f6:=z1o l k m (m+1);refine sq (sr (mv U (mv U (gt' U (nn (cd U (λc7=>?_) (λc7=>?_)))))));refine sk (tn (sq (bl ?_)));intro a h;refine z0h (some 17) (λwb w'=>Fr [g] wb w') z2o ?_;intro e6 b9;replace D:=D.ext b9;have hC:Fr [g] e6 e6:=Fr.refl _ _;have O:=D;refine z0e 0 h U λa h=>z0e 1 h U λa h=>z0e 2 h U λa h=>z0e 3 h U λa h=>z2v 4 h U (by first|exact i6 oo|rfl) U λa h=>z0e 5 h U λa h=>z0e 6 h U λa h=>z2v 7 h U (by first|exact i6 oo|rfl) U λa h=>z1e (p:=(k-1)) (hd0) 8 h U D.sl U z3i U λe8 a5 a h=>z0e 10 h U λa h=>z0e 11 h U λa h=>z1e (p:=k) (hd0) 12 h U D.sl U z3i U λe9 a6 a h=>z1u 9 13 kr U ?_ ?_;refine z1p h U (a5 _ D.sl) z5d U λa h=>z0b (z0d 13 U (z1p h U (a6 _ D.sl) z5d U λa h=>?_));refine z0b (z1m 14 kr kr kr hC (p:=k) h wn U z3i oo oo oo U U λa h=>z0d 15 U (z0z (i:=k) (((z5h l k m (m+1)).getD (k-1) hd0)) h U D (by rw[z1o];omega) U z7x λi8 I e1 _hz a h=>?_));replace hC:=hC.sp e1;clear _hz D;have D:=I;clear I;refine z0b (z1m 16 kr kr kr hC (p:=(k-1)) h wn U z3i oo oo oo U U λa h=>z0d 17 U (z0z (i:=(k-1)) (((z5h l k m (m+1)).getD (k) hd0)) h U D (by rw[List.length_set,z1o];omega) U z7x λi9 I f8 _hz a h=>?_));clear _hz D;have D:=I;clear I;refine z1n (z0r ?_);clear hC O;refine bk (h.sub (L':=[(0,_),(14,_),(17,_)]) (.c3 U U U)) (bn' (tn (rg (mv U (z2w U (wi6 oo) (asg U (nl ?_)))))));exact lpE ((k-1)) (.c3 U U (congrArg (λz=>some (Value.int .i64 z)) oo)) ⟨((Fr.refl [g] _).z4 b8 b9 e1 f8),⟨oo,by have e:=x6p (l:=l) (m:=m) (k:=k-1) oo oo;rw[show k-1+1=k by omega]at e;rw[e]at D;exact D⟩⟩ oo;refine z1p h U (a6 _ D.sl) z5d U λa h=>z0b (z0d 9 U (z1p h U (a5 _ D.sl) z5d U λa h=>?_));refine z0b (z1m 14 kr kr kr hC (p:=k) h wn U z3i oo oo oo U U λa h=>z0d 15 U (z0z (i:=k) (((z5h l k m (m+1)).getD (k-1) hd0)) h U D (by rw[z1o];omega) U z7x λj0 I e2 _hz a h=>?_));replace hC:=hC.sp e2;clear _hz D;have D:=I;clear I;refine z0b (z1m 16 kr kr kr hC (p:=(k-1)) h wn U z3i oo oo oo U U λa h=>z0d 17 U (z0z (i:=(k-1)) (((z5h l k m (m+1)).getD (k) hd0)) h U D (by rw[List.length_set,z1o];omega) U z7x λj1 I f9 _hz a h=>?_));clear _hz D;have D:=I;clear I;refine z1n (z0r ?_);clear hC O;refine bk (h.sub (L':=[(0,_),(14,_),(17,_)]) (.c3 U U U)) (bn' (tn (rg (mv U (z2w U (wi6 oo) (asg U (nl ?_)))))));exact lpE ((k-1)) (.c3 U U (congrArg (λz=>some (Value.int .i64 z)) oo)) ⟨((Fr.refl [g] _).z4 b8 b9 e2 f9),⟨oo,by have e:=x6p (l:=l) (m:=m) (k:=k-1) oo oo;rw[show k-1+1=k by omega]at e;rw[e]at D;exact D⟩⟩ oo;obtain rfl:k=i:=by omega
 exact ex (te (te (xh (tn (rt (tr (r0 results205  ⟨_,rfl,rfl,by rw[<-u6q oo oo h3 a0 (λx h h'=>hI.2.2 x h h') (λx h h'=>hI.2.1 x h h')];exact D,((Fr.refl [g] _).z2 a7 b8)⟩)))))));refine sk (tn (sr (mv U (mv U (z0x U (wi6 oo) (z4m U (us underlying3) underlying219 (IntWalk.u64_in _ oo) (v9q (m:=1) (z:=(mid:Int)) U U dd (show _ / (2:Int)=_ by omega) U (z4m U (us underlying219) underlying3 (wi6 oo) (asg U (kpL [(0,_),(1,_),(2,_),(3,_),(4,_),(18,_)] (.c6 U U U U U U) (nn (sr (mv U (mv U (z0x U (wi6 oo) (asg U (nn (sr (asg U (asg U (nn (jn (ι:=Unit) [(0,_),(1,_),(2,_),(3,_),(4,_),(18,_),(19,_)] (λ_j=>[(20,.int .i64 ((((if mid<m then mid+m-b else Z):Nat)):Int)),(21,.int .i64 ((((if mid<m then mid else m):Nat)):Int))]) (λ_j w'=>Fr [] w0 w') (.c7 U U U U U U U) ?_ ?_))))))))))))))))))))));refine sr (mv U (mv U (gt' U (nn (cd U (λc8=>?_) (λc8=>?_))))));refine sr (mv U (mv U (z2w U (wi6 oo) (asg U (nn (rg (mv U (asg U (nl ?_)))))))));exact jE (()) (.d8 U U U U U U U (congrArg (λz=>some (Value.int .i64 z)) (by split<;>omega)) (.cons (congrArg (λz=>some (Value.int .i64 z)) (by split<;>omega)) .nil)) (Fr.refl _ _);refine sr (mv U (asg U (nn (rg (mv U (asg U (nl ?_)))))));exact jE (()) (.d8 U U U U U U U (congrArg (λz=>some (Value.int .i64 z)) (by split<;>omega)) (.cons (congrArg (λz=>some (Value.int .i64 z)) (by split<;>omega)) .nil)) (Fr.refl _ _);rintro _j g7 a8;refine kpC [(0,_),(1,_),(2,_),(3,_),(4,_),(18,_),(19,_),(20,_),(21,_)] (.d8 U U U U U U U U (.cons U .nil)) (sr (mv U (z2w U (wi6 oo) (asg U (nn (sq (bl ?_)))))));refine lpK (ι:=Nat×Nat) [(0,_),(1,_),(2,_),(3,_),(4,_),(18,_),(19,_),(22,_)] (λp=>[(20,.int .i64 (p.1:Int)),(21,.int .i64 (p.2:Int))]) (λp w'=>Fr [] g7 w'/\Sch l (mid+m-1) (if mid<m then mid+m-b else Z) (if mid<m then mid else m) p.1 p.2) (λp=>p.2-p.1) ((if mid<m then mid+m-b else Z),(if mid<m then mid else m)) (.d8 U U U U U U U U (.c2 U U)) ⟨Fr.refl _ _,j2o (by split<;>omega)⟩ ?_;rintro⟨s,r⟩ g8 ⟨a3,hI⟩;simp only at hI;refine kpC [(0,_),(1,_),(2,_),(3,_),(4,_),(18,_),(19,_),(22,_),(20,.int .i64 (s:Int)),(21,.int .i64 (r:Int))] (.d8 U U U U U U U U (.c2 U U)) ?_;have d1:=hI.lo;have i2:=hI.le;have f5:=hI.hi;have i0:Z<=s:=by split at d1<;>omega
 have i3:r<=m/\r<=mid:=by split at f5<;>omega
 have i1:mid+m<=b+s:=by split at d1<;>omega
 refine sq (sr (mv U (mv U (lt' U (nn (cd U (λc9=>?_) (λc9=>?_)))))));refine sk (tn (bl (sr (mv U (mv U (z0x U (wi6 oo) (z4m U (us underlying3) underlying219 (IntWalk.u64_in _ oo) (v9q (m:=1) (z:=(((s+r) / 2:Nat):Int)) U U dd (show _ / (2:Int)=_ by omega) U (z4m U (us underlying219) underlying3 (wi6 oo) (asg U (kpL [(0,_),(1,_),(2,_),(3,_),(4,_),(18,_),(19,_),(20,_),(21,_),(22,_),(23,_)] (.d8 U U U U U U U U (.c3 U U U)) (nn (sq ?_)))))))))))));intro a h;refine z0h none (λwb w'=>Fr [] wb w') z2o ?_;intro e7 d0;replace D:=D.ext (a8.n2 a3 d0);have hC:Fr [] e7 e7:=Fr.refl _ _;have O:=D;refine z0e 0 h U λa h=>z0e 1 h U λa h=>z0e 2 h U λa h=>z0e 3 h U λa h=>z2v 4 h U (by first|exact i6 oo|rfl) U λa h=>z1e (p:=((mid+m-1)-((s+r) / 2))) (hd0) 5 h U D.sl U z3i U λf0 b5 a h=>z1x 6 h wn U (λ_ hw=>b5 _ (O.sl.ext hw)) z5d U λa h=>z0e 7 h U λa h=>z0e 8 h U λa h=>z1e (p:=((s+r) / 2)) (hd0) 9 h U D.sl U z3i U λf1 b6 a h=>z1x 10 h wn U (λ_ hw=>b6 _ (O.sl.ext hw)) z5d U λa h=>z0d 11 U (y0r (us:=[]) (ws:=[]) h U (z0a U (z0a U z0g)) (mkC func121) (y8q ((l).getD ((mid+m-1)-((s+r) / 2)) hd0) ((l).getD (((s+r) / 2)) hd0) _) U (by intro g e;cases e) ?_);rintro _ j2 ⟨rfl,b1⟩ a h;replace D:=D.ext b1;replace hC:=hC.next b1;refine z0b (x7d 12 hC h wn U U λa h=>z9u 13 hC h wn U U λa h=>z0r ?_);clear hC O;refine bk (h.sub (L':=[(0,_),(1,_),(2,_),(3,_),(4,_),(18,_),(19,_),(20,_),(21,_),(22,_),(23,_),(171,_)]) (.d8 U U U U U U U U (.c4 U U U U))) (tn (cd U (λb4=>?_) (λb4=>?_)));have hx:¬((l).getD ((mid+m-1)-((s+r) / 2)) hd0).s<((l).getD (((s+r) / 2)) hd0).s:=λe=>b4 (z9c.2 e);refine rg (mv U (z0x U (wi6 oo) (asg U (nl (bn' ?_)))));exact lpE (((s+r) / 2+1,r)) (.d8 U U U U U U U U (.c2 (by first|rfl|exact congrArg (λz=>some (Value.int .i64 z)) (by first|omega|(simp only;omega))) (by first|rfl|exact congrArg (λz=>some (Value.int .i64 z)) (by first|omega|(simp only;omega))))) ⟨(a3.n2 d0 b1),u7q hI oo a0 a1 (by split<;>omega) (by split<;>omega) (by split<;>omega) U (by split<;>omega) hx⟩ sm;have hx:=z9c.1 (Classical.not_not.1 b4);refine rg (mv U (asg U (nl (bn' ?_))));exact lpE ((s,(s+r) / 2)) (.d8 U U U U U U U U (.c2 (by first|rfl|exact congrArg (λz=>some (Value.int .i64 z)) (by first|omega|(simp only;omega))) (by first|rfl|exact congrArg (λz=>some (Value.int .i64 z)) (by first|omega|(simp only;omega))))) ⟨(a3.n2 d0 b1),v7d hI oo a0 a1 (by split<;>omega) (by split<;>omega) (by split<;>omega) U (by split<;>omega) hx⟩ sm;obtain rfl:s=r:=by have:=hI.le;omega
 obtain⟨hX,hY⟩:=v9a hI a0 a1 (by split<;>omega) (by split<;>omega) U (by split<;>omega) (by split<;>omega) (by split<;>omega);have e0:=hI.lo;have f7:=hI.hi;have a4:Z<=s:=by split at e0<;>omega
 have a2:s<=m/\s<=mid:=by split at f7<;>omega
 have i4:mid+m<=b+s:=by split at e0<;>omega
 have d3:=y8i a4 a2.1 (show m<=mid+m-s by omega) (show mid+m-s<=l.length by omega) (show mid=s+(mid+m-s-m) by omega) a0 b a1 oo;have d4:=x5p a4 a2.1 (show m<=mid+m-s by omega) (show mid+m-s<=b by omega) h3 (show mid=s+(mid+m-s-m) by omega) a0 a1;have a9:(z7k (z5h l s m (mid+m-s)) Z mid mid).length=l.length:=by rw[x0f oo (by rw[z1o];omega),z1o]
 refine ex (te (te (xh (tn (sr (mv U (mv U (z2w U (wi6 oo) (asg U (kpL [(0,_),(1,_),(2,_),(3,_),(4,_),(18,_),(20,_),(24,_)] (.c8 U U U U U U U U) (nn (jn (ι:=Unit) [(0,_),(1,_),(3,_),(4,_),(18,_),(20,_),(24,_)] (λ_j=>[]) (λ_j w'=>Fr [g] g8 w'/\Lw.Own z3t 131 base w' (.slice (some ⟨g,0,none⟩) l.length c) (z5h l s m (mid+m-s))) (.c7 U U U U U U U) ?_ ?_))))))))))));refine sq (rbo (r:=185) (L':=[(0,_),(1,_),(2,_),(3,_),(4,_),(18,_),(20,_),(24,_)]) ((((s:Int)<(m:Int))/\((m:Int)<(((mid:Int)+(m:Int))-(s:Int))))) (.c8 U U U U U U U U) ?_ ?_);refine mv U (mv U (lt' U (mv U (gs 181 U (λg0=>?_) (λg0=>?_)))));exact gY U (mv U (gY U (mv U (gY U (lt' U (pkt U (rbe U (.c8 U U U U U U U U))))))));exact gN U (gN U (gN U (pkf U (rbe U (.c8 U U U U U U U U)))));refine tn (cd U (λf2=>?_) (λf2=>?_));refine rg (mv U (mv U (mv U (mv U (mv U ?_)))));replace D:=D.ext (a8.n1 a3);refine cl (z0a U (z0a U (z0a U (z0a U (z0a U z0g))))) (mkC func229) (u8h g c base s m (mid+m-s) _ _ _ l _ U U oo D hl oo) U ?_;rintro _ j3 ⟨rfl,D,g3⟩;exact kpL [(0,_),(1,_),(3,_),(4,_),(18,_),(20,_),(24,_)] (.c7 U U U U U U U) (nl (jE (()) (.c7 U U U U U U U) ⟨((Fr.refl [g] _).z1 g3),D⟩));refine sk ?_;replace D:=D.ext (a8.n1 a3);exact jE (()) (.c7 U U U U U U U) ⟨(Fr.refl _ _),(by rw[j1g oo a2.1 oo];exact D)⟩;rintro _j g9 ⟨e3,D⟩;refine kpC [(0,_),(1,_),(3,_),(4,_),(18,_),(20,_),(24,_)] (.c7 U U U U U U U) (jn (ι:=Unit) [(0,_),(3,_),(4,_),(18,_),(24,_)] (λ_j=>[]) (λ_j w'=>Fr [g] g9 w'/\Lw.Own z3t 131 base w' (.slice (some ⟨g,0,none⟩) l.length c) (z7k (z5h l s m (mid+m-s)) Z mid mid)) (.c5 U U U U U) ?_ ?_);refine sq (rbo (r:=199) (L':=[(0,_),(1,_),(3,_),(4,_),(18,_),(20,_),(24,_)]) ((((Z:Int)<(s:Int))/\((s:Int)<(mid:Int)))) (.c7 U U U U U U U) ?_ ?_);refine mv U (mv U (lt' U (mv U (gs 195 U (λg1=>?_) (λg1=>?_)))));exact gY U (mv U (gY U (mv U (gY U (lt' U (pkt U (rbe U (.c7 U U U U U U U))))))));exact gN U (gN U (gN U (pkf U (rbe U (.c7 U U U U U U U)))));refine tn (cd U (λf3=>?_) (λf3=>?_));refine rg (mv U (mv U (mv U (mv U (mv U (cl (z0a U (z0a U (z0a U (z0a U (z0a U z0g))))) (mkC func205) (by have x:=ih Z s mid ↑Z ↑s ↑mid (z5h l s m (mid+m-s)) _ oo U U U (by rw[z1o];exact D) (by rw[z1o];exact hl) oo oo (by rw[z1o];omega) d3.1 d3.2;rw[z1o]at x;exact x) U ?_))))));rintro _ j4 ⟨rfl,D,g4⟩;exact kpL [(0,_),(3,_),(4,_),(18,_),(24,_)] (.c5 U U U U U) (nl (jE (()) (.c5 U U U U U) ⟨((Fr.refl [g] _).z1 g4),D⟩));exact sk (jE (()) (.c5 U U U U U) ⟨(Fr.refl _ _),(by rw[skip1 oo a4 a2.1 oo oo oo a0 b a1 oo];exact D)⟩);rintro _j j5 ⟨e4,D⟩;refine kpC [(0,_),(3,_),(4,_),(18,_),(24,_)] (.c5 U U U U U) (sq (rbo (r:=213) (L':=[(0,_),(3,_),(4,_),(18,_),(24,_)]) ((((mid:Int)<(((mid:Int)+(m:Int))-(s:Int)))/\((((mid:Int)+(m:Int))-(s:Int))<(b:Int)))) (.c5 U U U U U) ?_ ?_));refine mv U (mv U (lt' U (mv U (gs 209 U (λg2=>?_) (λg2=>?_)))));exact gY U (mv U (gY U (mv U (gY U (lt' U (pkt U (rbe U (.c5 U U U U U))))))));exact gN U (gN U (gN U (pkf U (rbe U (.c5 U U U U U)))));refine tn (cd U (λf4=>?_) (λf4=>?_));refine rg (mv U (mv U (mv U (mv U (mv U (cl (z0a U (z0a U (z0a U (z0a U (z0a U z0g))))) (mkC func205) (by have x:=ih mid (mid+m-s) b ↑mid (↑mid + ↑m - ↑s) ↑b (z7k (z5h l s m (mid+m-s)) Z mid mid) _ oo U oo U (by rw[a9];exact D) (by rw[a9];exact hl) oo oo (by rw[a9];omega) d4.1 d4.2;rw[a9]at x;exact x) U ?_))))));rintro _ j6 ⟨rfl,D,g5⟩;exact kpL [] .nil (nl (r0n results205  ⟨_,rfl,rfl,by rw[<-y0u a4 a2.1 (show m<=mid+m-s by omega) (show mid+m-s<=b by omega) h3 (show mid=s+(mid+m-s-m) by omega) a0 a1 hX hY];exact D,((Fr.refl [g] _).z5 a8 a3 e3 e4 g5)⟩));exact sk (r0n results205  ⟨_,rfl,rfl,by rw[<-y0u a4 a2.1 (show m<=mid+m-s by omega) (show mid+m-s<=b by omega) h3 (show mid=s+(mid+m-s-m) by omega) a0 a1 hX hY];rw[j2f oo a4 a2.1 oo oo h3 oo a0 a1];exact D,((Fr.refl [g] _).z4 a8 a3 e3 e4)⟩)
theorem u1r (g c base:Nat)(l:List Hd)(w0:World)(M:Lw.Own z3t 131 base w0 (.slice (some ⟨g,0,none⟩) l.length c) l)(hl:l.length<=1000000):Rets prog 160 #[.slice (some ⟨g,0,none⟩) l.length c,.int .i64 (l.length:Int),.func (.func 121) #[] #[]] w0 λr w'=>r=.tuple #[]/\Lw.Own z3t 131 base w' (.slice (some ⟨g,0,none⟩) l.length c) (z5i l)/\Fr [g] w0 w':=by
 refine we [(0,.slice (some ⟨g,0,none⟩) l.length c),(1,.int .i64 (l.length:Int)),(2,.func (.func 121) #[] #[])] func160 U ntmps160 U (.c3 U U U) (sr (asg U (nn (sr (mv U (asg U (asg U (nn (sq (bl (lpK (ι:=Nat×List Hd) [(0,_),(1,_),(2,_),(6,_)] (λp=>[(7,.int .i64 (p.1:Int)),(8,.int .i64 ((p.1+20:Nat):Int))]) (λp w'=>Fr [g] w0 w'/\(p.2.length=p.1/\p.1<=l.length/\chk 20 l=p.2++chk 20 (l.drop p.1))/\Lw.Own z3t 131 base w' (.slice (some ⟨g,0,none⟩) l.length c) (p.2++l.drop p.1)) (λp=>l.length-p.1) (0,[]) (.c6 U U U U U U) ⟨Fr.refl _ _,⟨⟨rfl,Nat.zero_le _,rfl⟩,by simpa using M⟩⟩ ?_)))))))))));rintro⟨I,D⟩ w1 ⟨q1,⟨Z,M⟩⟩;simp only at Z M;refine kpC [(0,_),(1,_),(2,_),(6,_),(7,.int .i64 (I:Int)),(8,.int .i64 ((I+20:Nat):Int))] (.c6 U U U U U U) ?_;have O:(D++l.drop I).length=l.length:=by rw[List.length_append,List.length_drop];omega
 refine sq (sr (mv U (mv U (le' U (nn (cd U (λc0=>?_) (λc0=>?_)))))));refine sk (tn (bl (sr (mv U (mv U (mv U (mv U (cl (ev4 U) (mkC func204) (by have x:=u1g g c base I (I+20) (D++l.drop I) _ (by rw[O];exact M) oo oo;rw[O]at x;exact x) U ?_))))))));rintro _ w2 ⟨rfl,M,q2⟩;refine kpL [(0,_),(1,_),(2,_),(6,_),(8,_)] (.c5 U U U U U) (nn (sr (mv U (asg U (nn (rg (mv U (mv U (z0x U (wi6 oo) (asg U (nl (bn' ?_))))))))))));exact lpE ((I+20,D++z5i (seg l I (I+20)))) (.c6 U U U U (by first|rfl|exact congrArg (λz=>some (Value.int .i64 z)) (by first|omega|(simp only;omega))) (by first|rfl|exact congrArg (λz=>some (Value.int .i64 z)) (by first|omega|(simp only;omega)))) ⟨((Fr.refl [g] _).z2 q1 q2),⟨⟨by simp only;rw[List.length_append,z4f,z2a oo];omega,sm,by simp only;rw[Z.2.2,y0s dd oo,List.append_assoc]⟩,by simp only;rw[<-v8y Z.1 oo];exact M⟩⟩ sm;refine ex (te (te (xh (tn (sr (mv U (mv U (mv U (mv U (cl (ev4 U) (mkC func204) (by have x:=u1g g c base I l.length (D++l.drop I) _ (by rw[O];exact M) oo oo;rw[O]at x;exact x) U ?_))))))))));rintro _ w3 ⟨rfl,M,q3⟩;rw[v5c (B:=20) Z.1 Z.2.1 oo,<-Z.2.2]at M;refine kpL [(0,_),(1,_),(2,_),(6,_)] (.c4 U U U U) (nn (bl (lpK (ι:=Nat) [(0,_),(1,_),(2,_)] (λB=>[(6,.int .i64 (B:Int))]) (λB w'=>Fr [g] w3 w'/\(20<=B/\B<=4000000)/\Lw.Own z3t 131 base w' (.slice (some ⟨g,0,none⟩) l.length c) (chk B l)) (λB=>l.length-B) 20 (.c4 U U U U) ⟨Fr.refl _ _,⟨oo,M⟩⟩ ?_)));rintro B w4 ⟨q4,⟨hB,M⟩⟩;refine kpC [(0,_),(1,_),(2,_),(6,_)] (.c4 U U U U) (sq (sr (mv U (mv U (lt' U (nn (cd U (λc1=>?_) (λc1=>?_))))))));refine sk (tn (bl (sr (mv U (y4k U U (wi6 oo) (asg U (asg U (nn (sq (bl ?_))))))))));refine lpK (ι:=Nat×List Hd) [(0,_),(1,_),(2,_),(6,_)] (λp=>[(7,.int .i64 (p.1:Int)),(8,.int .i64 ((p.1+2*B:Nat):Int))]) (λp w'=>Fr [g] w4 w'/\(p.2.length=p.1/\p.1<=l.length/\chk (2*B) l=p.2++chk (2*B) (l.drop p.1))/\Lw.Own z3t 131 base w' (.slice (some ⟨g,0,none⟩) l.length c) (p.2++chk B (l.drop p.1))) (λp=>l.length-p.1) (0,[]) (.c6 U U U U U (by first|rfl|exact congrArg (λz=>some (Value.int .i64 z)) (by first|omega|(simp only;omega)))) ⟨Fr.refl _ _,⟨⟨rfl,Nat.zero_le _,rfl⟩,by simpa using M⟩⟩ ?_;rintro⟨I,D⟩ w5 ⟨q5,⟨Z,M⟩⟩;simp only at Z M;refine kpC [(0,_),(1,_),(2,_),(6,_),(7,.int .i64 (I:Int)),(8,.int .i64 ((I+2*B:Nat):Int))] (.c6 U U U U U U) ?_;have O:(D++chk B (l.drop I)).length=l.length:=by rw[List.length_append,v1c B _ _ (Nat.le_refl _),List.length_drop];omega
 refine sq (sr (mv U (mv U (le' U (nn (cd U (λc2=>?_) (λc2=>?_)))))));have hM:=x0s (l:=l) (D:=D) (a:=I) (B:=B) (C:=B) Z.1 oo (Nat.le_refl _) oo (chk B (l.drop (I+(B+B)))) (by rw[show I+(B+B)=I+B+B by omega];exact y0s oo oo);refine sk (tn (bl (sr (mv U (mv U (mv U (mv U (z0x U (wi6 oo) (mv U (mv U (cl (z0a U (z0a U (z0a U (z0a U (z0a U z0g))))) (mkC func205) (by have x:=u0t g c base (2*B) I (I+B) (I+2*B) ↑I (↑I + ↑B) ↑(I+2*B) (D++chk B (l.drop I)) _ oo U oo U (by rw[O];exact M) oo oo oo oo hM.2.1 (by rw[show I+2*B=I+(B+B) by omega];exact hM.2.2);rw[O]at x;exact x) U ?_)))))))))));rintro _ w6 ⟨rfl,M,q6⟩;refine kpL [(0,_),(1,_),(2,_),(6,_),(8,_)] (.c5 U U U U U) (nn (sr (mv U (asg U (nn (rg (mv U (mv U (y4k U U (wi6 oo) (z0x U (wi6 oo) (asg U (nl (bn' ?_)))))))))))));exact lpE ((I+2*B,D++z5i (seg l I (I+2*B)))) (.c6 U U U U (by first|rfl|exact congrArg (λz=>some (Value.int .i64 z)) (by first|omega|(simp only;omega))) (by first|rfl|exact congrArg (λz=>some (Value.int .i64 z)) (by first|omega|(simp only;omega)))) ⟨((Fr.refl [g] _).z2 q5 q6),⟨⟨by simp only;rw[List.length_append,z4f,z2a oo];omega,sm,by simp only;rw[Z.2.2,y0s oo oo,List.append_assoc]⟩,by simp only;rw[show I+2*B=I+(B+B) by omega,hM.1]at M;rw[show I+2*B=I+(B+B) by omega];exact M⟩⟩ sm;refine ex (te (te (xh (tn (jn (ι:=Unit) [(0,_),(1,_),(2,_),(6,_)] (λ_j=>[]) (λ_j w'=>Fr [g] w5 w'/\Lw.Own z3t 131 base w' (.slice (some ⟨g,0,none⟩) l.length c) (chk (2*B) l)) (.c4 U U U U) ?_ ?_)))));refine sr (mv U (mv U (z0x U (wi6 oo) (asg U (nn (sr (mv U (mv U (lt' U (nn (cd U (λc3=>?_) (λc3=>?_))))))))))));have hM:=x0s (l:=l) (D:=D) (a:=I) (B:=B) (C:=l.length-(I+B)) Z.1 oo oo oo [] (by rw[List.append_nil,z9z (by rw[List.length_drop];omega),show I+(B+(l.length-(I+B)))=l.length by omega];unfold seg;rw[List.take_length]);rw[show I+(B+(l.length-(I+B)))=l.length by omega,List.append_nil]at hM;refine rg (mv U (mv U (mv U (mv U (mv U (cl (z0a U (z0a U (z0a U (z0a U (z0a U z0g))))) (mkC func205) (by have x:=u0t g c base (2*B) I (I+B) l.length ↑I (↑I + ↑B) ↑l.length (D++chk B (l.drop I)) _ oo U oo U (by rw[O];exact M) oo oo oo oo hM.2.1 hM.2.2;rw[O]at x;exact x) U ?_))))));rintro _ w7 ⟨rfl,M,q7⟩;exact kpL [(0,_),(1,_),(2,_),(6,_)] (.c4 U U U U) (nl (jE (()) (.c4 U U U U) ⟨((Fr.refl [g] _).z1 q7),(by rw[hM.1]at M;rw[Z.2.2,z9z (show (l.drop I).length<=2*B by rw[List.length_drop];omega),show l.drop I=seg l I l.length by unfold seg;rw[List.take_length]];exact M)⟩));exact sk (jE (()) (.c4 U U U U) ⟨(Fr.refl _ _),(by rw[z9z (show (l.drop I).length<=B by rw[List.length_drop];omega)]at M;rw[Z.2.2,z9z (show (l.drop I).length<=2*B by rw[List.length_drop];omega)];exact M)⟩);rintro _j w8 ⟨q8,M⟩;refine kpC [(0,_),(1,_),(2,_),(6,_)] (.c4 U U U U) (rg (mv U (y4k U U (wi6 oo) (asg U (nl (bn' ?_))))));exact lpE (2*B) (.c4 U U U (congrArg (λz=>some (Value.int .i64 z)) oo)) ⟨((Fr.refl [g] _).z3 q4 q5 q8),⟨oo,M⟩⟩ oo;exact ex (te (te (xh (r0n results160  ⟨_,rfl,rfl,by rw[z9z oo]at M;exact M,((Fr.refl [g] _).z3 q1 q3 q4)⟩))))
theorem x3q:z3p prog 101 5:=⟨λ_=>kr,λ_=>kr⟩
theorem x6n:ElemOf prog 97 101 z4z 40:=ElemOf.mk' (z:=(.agg #[.int .u8 0,.int .i64 0,.int .u8 0,.int .i64 0,.int .i64 0])) underlying97 kr U
theorem x7w:z1t prog 101 5:=λ_=>kr
theorem u6s (w:World):(zeroValue 101).run prog w=.ok (.agg #[(.int .u8 0),(.int .i64 0),(.int .u8 0),(.int .i64 0),(.int .i64 0)]) w:=kr
theorem x8p (w:World):(zeroValue 131).run prog w=.ok (.agg #[(.int .u8 0),(.int .i64 0),(.int .u8 0),(.int .i64 0),(.int .i64 0)]) w:=kr
theorem v4r (g c base:Nat)(l:List Hd)(w0:World)(D:Lw.Own z3t 131 base w0 (.slice (some ⟨g,0,none⟩) l.length c) l)(hl:l.length<=1000000):Rets prog 120 #[.slice (some ⟨g,0,none⟩) l.length c,.func (.func 121) #[] #[]] w0 λr w'=>r=.tuple #[]/\Lw.Own z3t 131 base w' (.slice (some ⟨g,0,none⟩) l.length c) (z5i l)/\Fr [g] w0 w':=by
 refine we [(0,.slice (some ⟨g,0,none⟩) l.length c),(1,.func (.func 121) #[] #[])] func120 U ntmps120 U (.c2 U U) (rg (mv U (mv U (lnS U underlying127 (mv U (cl (ev3 U) (mkC func160) (u1r g c base l _ D hl) U ?_))))));rintro _ w1 ⟨rfl,D,I⟩;exact kpL [] .nil (nl (r0n results120  ⟨_,rfl,rfl,D,((Fr.refl [g] _).z1 I)⟩))
theorem x7p (v:Value)(l:List Hd)(w0:World)(I:Sl z3t w0 v l)(hl:l.length<=100000):Rets prog 123 #[v] w0 λr w'=>∃g,r=.slice (some ⟨g,0,none⟩) l.length l.length/\w0.heap.size<=g/\Lw.Own z3t 131 w0.heap.size w' r l/\Fr [] w0 w':=by
 obtain⟨A,c,rfl,a0,hM,hA⟩:=id I;clear hA;unfold maxLen at hM;refine we [(0,.slice A l.length c)] func123 U ntmps123 U (.cons U .nil) ?_;have M:=I;refine sr (asg U (nn (sr (mv U (lnS U underlying127 (z1h (m:=l.length) (c:=l.length) (hd0) U z3i x8p U (λZ w1 a1 D O z1=>(asg U (nn (sr (mv U (mv U ?_))))))))))));replace I:=M.ext O;refine z8d (zs:=List.replicate l.length hd0) (by rw[List.length_replicate];rfl) U (by rw[List.length_replicate];exact D) I (by rw[List.length_replicate]) z3i (λw2 D q2 z2=>?_);rw[List.length_replicate]at D;exact nn (sr (mv U (asg U (nn (rt (r1 results123 U ⟨_,rfl,Z,rfl,oo,D.low oo,(O.z1 q2)⟩))))))
theorem v5w (g c base:Nat)(ys:List LId)(w0:World)(I:Lw.Own z1b 64 base w0 (.slice (some ⟨g,0,none⟩) ys.length c) ys)(hl:ys.length<=1000000):Rets prog 86 #[.slice (some ⟨g,0,none⟩) ys.length c] w0 λr w'=>Lw.Own z1b 64 base w' (.slice (some ⟨g,0,none⟩) ys.length c) ys.reverse/\Fr [g] w0 w':=by
 refine we [(0,.slice (some ⟨g,0,none⟩) ys.length c)] func86 U ntmps86 U (.cons U .nil) (sr (mv U (lnS U underlying30 (z2w U (wi6 oo) (asg U (asg U (nn (bl ?_))))))));refine lpK (ι:=Nat) [(0,_)] (λk=>[(2,.int .i64 (k:Int)),(3,.int .i64 ((ys.length:Int)-1-(k:Int)))]) (λk w'=>Fr [g] w0 w'/\k<=ys.length/\∃zs,u4j id0 ys zs k/\Lw.Own z1b 64 base w' (.slice (some ⟨g,0,none⟩) ys.length c) zs) (λk=>ys.length-k) 0 (.c3 U U (congrArg (λz=>some (Value.int .i64 z)) oo)) ⟨Fr.refl _ _,⟨Nat.zero_le _,_,v1q _ _,I⟩⟩ ?_;rintro k w1 ⟨q1,⟨hk,zs,hR,I⟩⟩;refine kpC [(0,_),(2,_),(3,_)] (.c3 U U U) (sq (sr (mv U (mv U (lt' U (nn (cd U (λc0=>?_) (λc0=>?_))))))));obtain⟨a3,-⟩:=id hR;have a0:k<ys.length-1-k:=by omega
 refine sk (tn (sq (bl ?_)));intro a h;refine z0h (some 15) (λwb w'=>Fr [g] wb w') z2o ?_;intro w2 q2;replace I:=I.ext q2;have hC:Fr [g] w2 w2:=Fr.refl _ _;have Z:=I;refine z0e 0 h U λa h=>z0e 1 h U λa h=>z0e 2 h U λa h=>z0e 3 h U λa h=>z0e 4 h U λa h=>z0e 5 h U λa h=>z1e (p:=(ys.length-1-k)) (id0) 6 h U I.sl U z3x U λa1 M a h=>z0e 8 h U λa h=>z0e 9 h U λa h=>z1e (p:=k) (id0) 10 h U I.sl U z3x U λa2 O a h=>z1u 7 11 kr U ?_ ?_;refine z1p h U (M _ I.sl) z2q U λa h=>z0b (z0d 11 U (z1p h U (O _ I.sl) z2q U λa h=>?_));refine z0b (z1m 12 kr kr kr hC (p:=k) h wn U z3x oo oo oo U U λa h=>z0d 13 U (z0z (i:=k) (zs.getD (ys.length-1-k) id0) h U I oo U z5y λw3 D q3 _hz a h=>?_));replace hC:=hC.sp q3;clear _hz I;have I:=D;clear D;refine z0b (z1m 14 kr kr kr hC (p:=(ys.length-1-k)) h wn U z3x oo oo oo U U λa h=>z0d 15 U (z0z (i:=(ys.length-1-k)) (zs.getD k id0) h U I (by rw[List.length_set];omega) U z5y λw4 D q4 _hz a h=>?_));clear _hz I;have I:=D;clear D;refine z1n (z0r ?_);clear hC Z;refine bk (h.sub (L':=[(0,_),(2,_),(3,_)]) (.c3 U U U)) (bn' (tn (rg (mv U (z0x U (wi6 oo) (mv U (z2w U (wi6 oo) (asg U (asg U (nl ?_))))))))));exact lpE (k+1) (.c3 U U (congrArg (λz=>some (Value.int .i64 z)) oo)) ⟨((Fr.refl [g] _).z4 q1 q2 q3 q4),⟨oo,_,z7a a0 hR,I⟩⟩ oo;refine z1p h U (O _ I.sl) z2q U λa h=>z0b (z0d 7 U (z1p h U (M _ I.sl) z2q U λa h=>?_));refine z0b (z1m 12 kr kr kr hC (p:=k) h wn U z3x oo oo oo U U λa h=>z0d 13 U (z0z (i:=k) (zs.getD (ys.length-1-k) id0) h U I oo U z5y λw5 D q5 _hz a h=>?_));replace hC:=hC.sp q5;clear _hz I;have I:=D;clear D;refine z0b (z1m 14 kr kr kr hC (p:=(ys.length-1-k)) h wn U z3x oo oo oo U U λa h=>z0d 15 U (z0z (i:=(ys.length-1-k)) (zs.getD k id0) h U I (by rw[List.length_set];omega) U z5y λw6 D q6 _hz a h=>?_));clear _hz I;have I:=D;clear D;refine z1n (z0r ?_);clear hC Z;refine bk (h.sub (L':=[(0,_),(2,_),(3,_)]) (.c3 U U U)) (bn' (tn (rg (mv U (z0x U (wi6 oo) (mv U (z2w U (wi6 oo) (asg U (asg U (nl ?_))))))))));exact lpE (k+1) (.c3 U U (congrArg (λz=>some (Value.int .i64 z)) oo)) ⟨((Fr.refl [g] _).z4 q1 q2 q5 q6),⟨oo,_,z7a a0 hR,I⟩⟩ oo;refine ex (te (te (xh (r0n results86  ?_))));exact⟨_,rfl,by rw[<-y7z oo hR];exact I,(q1.weak se)⟩
theorem u1s (w0:World):Rets prog 86 #[.slice none 0 0] w0 λr w'=>Fr [] w0 w':=by
 refine we [(0,.slice none 0 0)] func86 U ntmps86 U (.cons U .nil) (sr (mv U (lnS U underlying30 (z2w U (wi6 oo) (asg U (asg U (nn (bl (lpK (ι:=Unit) [(0,_),(2,_),(3,_)] (λ_u=>[]) (λ_u w'=>Fr [] w0 w'/\True) (λ_u=>0) () (.c3 U U U) ⟨Fr.refl _ _,trivial⟩ ?_)))))))));rintro _u w1 ⟨I,-⟩;refine kpC [(0,_),(2,_),(3,_)] (.c3 U U U) (sq (sr (mv U (mv U (lt' U (nn (cd U (λD=>?_) (λD=>?_))))))));exfalso;omega;exact ex (te (te (xh (r0n results86  ⟨_,rfl,I⟩))))
theorem v0d (base:Nat)(v:Value)(ys:List LId)(w0:World)(D:Lw.Own z1b 64 base w0 v ys)(hl:ys.length<=1000000):Rets prog 86 #[v] w0 λr w'=>Lw.Own z1b 64 base w' v ys.reverse/\Fr (z0v v) w0 w':=by
 rcases id D with ⟨rfl,rfl⟩|⟨g,cap,cur,rfl,_⟩
 refine Rets.mono (u1s w0) ?_;intro r w' hf;exact⟨Own.nil _,hf⟩;exact v5w g cap base ys w0 D hl
theorem v8j (g c base:Nat)(ys:List Pa)(w0:World)(I:Lw.Own z2d 107 base w0 (.slice (some ⟨g,0,none⟩) ys.length c) ys)(hl:ys.length<=1000000):Rets prog 207 #[.slice (some ⟨g,0,none⟩) ys.length c] w0 λr w'=>Lw.Own z2d 107 base w' (.slice (some ⟨g,0,none⟩) ys.length c) ys.reverse/\Fr [g] w0 w':=by
 refine we [(0,.slice (some ⟨g,0,none⟩) ys.length c)] func207 U ntmps207 U (.cons U .nil) (sr (mv U (lnS U underlying102 (z2w U (wi6 oo) (asg U (asg U (nn (bl ?_))))))));refine lpK (ι:=Nat) [(0,_)] (λk=>[(2,.int .i64 (k:Int)),(3,.int .i64 ((ys.length:Int)-1-(k:Int)))]) (λk w'=>Fr [g] w0 w'/\k<=ys.length/\∃zs,u4j pa0 ys zs k/\Lw.Own z2d 107 base w' (.slice (some ⟨g,0,none⟩) ys.length c) zs) (λk=>ys.length-k) 0 (.c3 U U (congrArg (λz=>some (Value.int .i64 z)) oo)) ⟨Fr.refl _ _,⟨Nat.zero_le _,_,v1q _ _,I⟩⟩ ?_;rintro k w1 ⟨q1,⟨hk,zs,hR,I⟩⟩;refine kpC [(0,_),(2,_),(3,_)] (.c3 U U U) (sq (sr (mv U (mv U (lt' U (nn (cd U (λc0=>?_) (λc0=>?_))))))));obtain⟨a3,-⟩:=id hR;have a0:k<ys.length-1-k:=by omega
 refine sk (tn (sq (bl ?_)));intro a h;refine z0h (some 15) (λwb w'=>Fr [g] wb w') z2o ?_;intro w2 q2;replace I:=I.ext q2;have hC:Fr [g] w2 w2:=Fr.refl _ _;have Z:=I;refine z0e 0 h U λa h=>z0e 1 h U λa h=>z0e 2 h U λa h=>z0e 3 h U λa h=>z0e 4 h U λa h=>z0e 5 h U λa h=>z1e (p:=(ys.length-1-k)) (pa0) 6 h U I.sl U z4h U λa1 M a h=>z0e 8 h U λa h=>z0e 9 h U λa h=>z1e (p:=k) (pa0) 10 h U I.sl U z4h U λa2 O a h=>z1u 7 11 kr U ?_ ?_;refine z1p h U (M _ I.sl) z8f U λa h=>z0b (z0d 11 U (z1p h U (O _ I.sl) z8f U λa h=>?_));refine z0b (z1m 12 kr kr kr hC (p:=k) h wn U z4h oo oo oo U U λa h=>z0d 13 U (z0z (i:=k) (zs.getD (ys.length-1-k) pa0) h U I oo U x1x λw3 D q3 _hz a h=>?_));replace hC:=hC.sp q3;clear _hz I;have I:=D;clear D;refine z0b (z1m 14 kr kr kr hC (p:=(ys.length-1-k)) h wn U z4h oo oo oo U U λa h=>z0d 15 U (z0z (i:=(ys.length-1-k)) (zs.getD k pa0) h U I (by rw[List.length_set];omega) U x1x λw4 D q4 _hz a h=>?_));clear _hz I;have I:=D;clear D;refine z1n (z0r ?_);clear hC Z;refine bk (h.sub (L':=[(0,_),(2,_),(3,_)]) (.c3 U U U)) (bn' (tn (rg (mv U (z0x U (wi6 oo) (mv U (z2w U (wi6 oo) (asg U (asg U (nl ?_))))))))));exact lpE (k+1) (.c3 U U (congrArg (λz=>some (Value.int .i64 z)) oo)) ⟨((Fr.refl [g] _).z4 q1 q2 q3 q4),⟨oo,_,z7a a0 hR,I⟩⟩ oo;refine z1p h U (O _ I.sl) z8f U λa h=>z0b (z0d 7 U (z1p h U (M _ I.sl) z8f U λa h=>?_));refine z0b (z1m 12 kr kr kr hC (p:=k) h wn U z4h oo oo oo U U λa h=>z0d 13 U (z0z (i:=k) (zs.getD (ys.length-1-k) pa0) h U I oo U x1x λw5 D q5 _hz a h=>?_));replace hC:=hC.sp q5;clear _hz I;have I:=D;clear D;refine z0b (z1m 14 kr kr kr hC (p:=(ys.length-1-k)) h wn U z4h oo oo oo U U λa h=>z0d 15 U (z0z (i:=(ys.length-1-k)) (zs.getD k pa0) h U I (by rw[List.length_set];omega) U x1x λw6 D q6 _hz a h=>?_));clear _hz I;have I:=D;clear D;refine z1n (z0r ?_);clear hC Z;refine bk (h.sub (L':=[(0,_),(2,_),(3,_)]) (.c3 U U U)) (bn' (tn (rg (mv U (z0x U (wi6 oo) (mv U (z2w U (wi6 oo) (asg U (asg U (nl ?_))))))))));exact lpE (k+1) (.c3 U U (congrArg (λz=>some (Value.int .i64 z)) oo)) ⟨((Fr.refl [g] _).z4 q1 q2 q5 q6),⟨oo,_,z7a a0 hR,I⟩⟩ oo;refine ex (te (te (xh (r0n results207  ?_))));exact⟨_,rfl,by rw[<-y7z oo hR];exact I,(q1.weak se)⟩
theorem u2m (w0:World):Rets prog 207 #[.slice none 0 0] w0 λr w'=>Fr [] w0 w':=by
 refine we [(0,.slice none 0 0)] func207 U ntmps207 U (.cons U .nil) (sr (mv U (lnS U underlying102 (z2w U (wi6 oo) (asg U (asg U (nn (bl (lpK (ι:=Unit) [(0,_),(2,_),(3,_)] (λ_u=>[]) (λ_u w'=>Fr [] w0 w'/\True) (λ_u=>0) () (.c3 U U U) ⟨Fr.refl _ _,trivial⟩ ?_)))))))));rintro _u w1 ⟨I,-⟩;refine kpC [(0,_),(2,_),(3,_)] (.c3 U U U) (sq (sr (mv U (mv U (lt' U (nn (cd U (λD=>?_) (λD=>?_))))))));exfalso;omega;exact ex (te (te (xh (r0n results207  ⟨_,rfl,I⟩))))
theorem y9p (base:Nat)(v:Value)(ys:List Pa)(w0:World)(D:Lw.Own z2d 107 base w0 v ys)(hl:ys.length<=1000000):Rets prog 207 #[v] w0 λr w'=>Lw.Own z2d 107 base w' v ys.reverse/\Fr (z0v v) w0 w':=by
 rcases id D with ⟨rfl,rfl⟩|⟨g,cap,cur,rfl,_⟩
 refine Rets.mono (u2m w0) ?_;intro r w' hf;exact⟨Own.nil _,hf⟩;exact v8j g cap base ys w0 D hl
theorem v9r (g c base:Nat)(ys:List Cx)(w0:World)(I:Lw.Own z4z 101 base w0 (.slice (some ⟨g,0,none⟩) ys.length c) ys)(hl:ys.length<=1000000):Rets prog 87 #[.slice (some ⟨g,0,none⟩) ys.length c] w0 λr w'=>Lw.Own z4z 101 base w' (.slice (some ⟨g,0,none⟩) ys.length c) ys.reverse/\Fr [g] w0 w':=by
 refine we [(0,.slice (some ⟨g,0,none⟩) ys.length c)] func87 U ntmps87 U (.cons U .nil) (sr (mv U (lnS U underlying97 (z2w U (wi6 oo) (asg U (asg U (nn (bl ?_))))))));refine lpK (ι:=Nat) [(0,_)] (λk=>[(2,.int .i64 (k:Int)),(3,.int .i64 ((ys.length:Int)-1-(k:Int)))]) (λk w'=>Fr [g] w0 w'/\k<=ys.length/\∃zs,u4j cx0 ys zs k/\Lw.Own z4z 101 base w' (.slice (some ⟨g,0,none⟩) ys.length c) zs) (λk=>ys.length-k) 0 (.c3 U U (congrArg (λz=>some (Value.int .i64 z)) oo)) ⟨Fr.refl _ _,⟨Nat.zero_le _,_,v1q _ _,I⟩⟩ ?_;rintro k w1 ⟨q1,⟨hk,zs,hR,I⟩⟩;refine kpC [(0,_),(2,_),(3,_)] (.c3 U U U) (sq (sr (mv U (mv U (lt' U (nn (cd U (λc0=>?_) (λc0=>?_))))))));obtain⟨a3,-⟩:=id hR;have a0:k<ys.length-1-k:=by omega
 refine sk (tn (sq (bl ?_)));intro a h;refine z0h (some 15) (λwb w'=>Fr [g] wb w') z2o ?_;intro w2 q2;replace I:=I.ext q2;have hC:Fr [g] w2 w2:=Fr.refl _ _;have Z:=I;refine z0e 0 h U λa h=>z0e 1 h U λa h=>z0e 2 h U λa h=>z0e 3 h U λa h=>z0e 4 h U λa h=>z0e 5 h U λa h=>z1e (p:=(ys.length-1-k)) (cx0) 6 h U I.sl U x6n U λa1 M a h=>z0e 8 h U λa h=>z0e 9 h U λa h=>z1e (p:=k) (cx0) 10 h U I.sl U x6n U λa2 O a h=>z1u 7 11 kr U ?_ ?_;refine z1p h U (M _ I.sl) x3q U λa h=>z0b (z0d 11 U (z1p h U (O _ I.sl) x3q U λa h=>?_));refine z0b (z1m 12 kr kr kr hC (p:=k) h wn U x6n oo oo oo U U λa h=>z0d 13 U (z0z (i:=k) (zs.getD (ys.length-1-k) cx0) h U I oo U x7w λw3 D q3 _hz a h=>?_));replace hC:=hC.sp q3;clear _hz I;have I:=D;clear D;refine z0b (z1m 14 kr kr kr hC (p:=(ys.length-1-k)) h wn U x6n oo oo oo U U λa h=>z0d 15 U (z0z (i:=(ys.length-1-k)) (zs.getD k cx0) h U I (by rw[List.length_set];omega) U x7w λw4 D q4 _hz a h=>?_));clear _hz I;have I:=D;clear D;refine z1n (z0r ?_);clear hC Z;refine bk (h.sub (L':=[(0,_),(2,_),(3,_)]) (.c3 U U U)) (bn' (tn (rg (mv U (z0x U (wi6 oo) (mv U (z2w U (wi6 oo) (asg U (asg U (nl ?_))))))))));exact lpE (k+1) (.c3 U U (congrArg (λz=>some (Value.int .i64 z)) oo)) ⟨((Fr.refl [g] _).z4 q1 q2 q3 q4),⟨oo,_,z7a a0 hR,I⟩⟩ oo;refine z1p h U (O _ I.sl) x3q U λa h=>z0b (z0d 7 U (z1p h U (M _ I.sl) x3q U λa h=>?_));refine z0b (z1m 12 kr kr kr hC (p:=k) h wn U x6n oo oo oo U U λa h=>z0d 13 U (z0z (i:=k) (zs.getD (ys.length-1-k) cx0) h U I oo U x7w λw5 D q5 _hz a h=>?_));replace hC:=hC.sp q5;clear _hz I;have I:=D;clear D;refine z0b (z1m 14 kr kr kr hC (p:=(ys.length-1-k)) h wn U x6n oo oo oo U U λa h=>z0d 15 U (z0z (i:=(ys.length-1-k)) (zs.getD k cx0) h U I (by rw[List.length_set];omega) U x7w λw6 D q6 _hz a h=>?_));clear _hz I;have I:=D;clear D;refine z1n (z0r ?_);clear hC Z;refine bk (h.sub (L':=[(0,_),(2,_),(3,_)]) (.c3 U U U)) (bn' (tn (rg (mv U (z0x U (wi6 oo) (mv U (z2w U (wi6 oo) (asg U (asg U (nl ?_))))))))));exact lpE (k+1) (.c3 U U (congrArg (λz=>some (Value.int .i64 z)) oo)) ⟨((Fr.refl [g] _).z4 q1 q2 q5 q6),⟨oo,_,z7a a0 hR,I⟩⟩ oo;refine ex (te (te (xh (r0n results87  ?_))));exact⟨_,rfl,by rw[<-y7z oo hR];exact I,(q1.weak se)⟩
theorem u5l (w0:World):Rets prog 87 #[.slice none 0 0] w0 λr w'=>Fr [] w0 w':=by
 refine we [(0,.slice none 0 0)] func87 U ntmps87 U (.cons U .nil) (sr (mv U (lnS U underlying97 (z2w U (wi6 oo) (asg U (asg U (nn (bl (lpK (ι:=Unit) [(0,_),(2,_),(3,_)] (λ_u=>[]) (λ_u w'=>Fr [] w0 w'/\True) (λ_u=>0) () (.c3 U U U) ⟨Fr.refl _ _,trivial⟩ ?_)))))))));rintro _u w1 ⟨I,-⟩;refine kpC [(0,_),(2,_),(3,_)] (.c3 U U U) (sq (sr (mv U (mv U (lt' U (nn (cd U (λD=>?_) (λD=>?_))))))));exfalso;omega;exact ex (te (te (xh (r0n results87  ⟨_,rfl,I⟩))))
theorem v0j (base:Nat)(v:Value)(ys:List Cx)(w0:World)(D:Lw.Own z4z 101 base w0 v ys)(hl:ys.length<=1000000):Rets prog 87 #[v] w0 λr w'=>Lw.Own z4z 101 base w' v ys.reverse/\Fr (z0v v) w0 w':=by
 rcases id D with ⟨rfl,rfl⟩|⟨g,cap,cur,rfl,_⟩
 refine Rets.mono (u5l w0) ?_;intro r w' hf;exact⟨Own.nil _,hf⟩;exact v9r g cap base ys w0 D hl
theorem y3z (v:Value)(l:List Pa)(w0:World)(I:Sl z2d w0 v l)(hl:l.length<=100000):Rets prog 208 #[v] w0 λr w'=>∃g,r=.slice (some ⟨g,0,none⟩) l.length l.length/\w0.heap.size<=g/\Lw.Own z2d 107 w0.heap.size w' r l/\Fr [] w0 w':=by
 obtain⟨A,c,rfl,a0,hM,hA⟩:=id I;clear hA;unfold maxLen at hM;refine we [(0,.slice A l.length c)] func208 U ntmps208 U (.cons U .nil) ?_;have M:=I;refine sr (asg U (nn (sr (mv U (lnS U underlying102 (z1h (m:=l.length) (c:=l.length) (pa0) U z4h y7i U (λZ w1 a1 D O z1=>(asg U (nn (sr (mv U (mv U ?_))))))))))));replace I:=M.ext O;refine z8d (zs:=List.replicate l.length pa0) (by rw[List.length_replicate];rfl) U (by rw[List.length_replicate];exact D) I (by rw[List.length_replicate]) z4h (λw2 D q2 z2=>?_);rw[List.length_replicate]at D;exact nn (sr (mv U (asg U (nn (rt (r1 results208 U ⟨_,rfl,Z,rfl,oo,D.low oo,(O.z1 q2)⟩))))))
theorem x2s (v:Value)(l:List Cx)(w0:World)(I:Sl z4z w0 v l)(hl:l.length<=100000):Rets prog 88 #[v] w0 λr w'=>∃g,r=.slice (some ⟨g,0,none⟩) l.length l.length/\w0.heap.size<=g/\Lw.Own z4z 101 w0.heap.size w' r l/\Fr [] w0 w':=by
 obtain⟨A,c,rfl,a0,hM,hA⟩:=id I;clear hA;unfold maxLen at hM;refine we [(0,.slice A l.length c)] func88 U ntmps88 U (.cons U .nil) ?_;have M:=I;refine sr (asg U (nn (sr (mv U (lnS U underlying97 (z1h (m:=l.length) (c:=l.length) (cx0) U x6n u6s U (λZ w1 a1 D O z1=>(asg U (nn (sr (mv U (mv U ?_))))))))))));replace I:=M.ext O;refine z8d (zs:=List.replicate l.length cx0) (by rw[List.length_replicate];rfl) U (by rw[List.length_replicate];exact D) I (by rw[List.length_replicate]) x6n (λw2 D q2 z2=>?_);rw[List.length_replicate]at D;exact nn (sr (mv U (asg U (nn (rt (r1 results88 U ⟨_,rfl,Z,rfl,oo,D.low oo,(O.z1 q2)⟩))))))
theorem j3f:BuildAt prog 131 [(0,2),(2,2),(4,1)] [(.int .u8 0),(.int .i64 0),(.int .u8 0),(.int .i64 0),(.int .i64 0)]:=BuildAt.struct underlying131 (λ_=>kr) (λ_=>kr)
theorem x7j:CallOf prog 119:=mkC func119
theorem u5k:z1y prog 127:=λ_=>kr
theorem j0h:z1t prog 127 1:=λ_=>kr
theorem v2u (gr gk base:Nat)(b r:Int)(v u:Value)(l:List IQ)(a4:List Hd)(wS w0:World)(hF:Fr [] wS w0)(hs:Sl z6t wS v l)(hk:IqAt wS l)(a6:Blk wS gk 3 [.int .i64 r])(f1:wS.heap.size<=gr)(e6:wS.heap.size<=base)(e7:base<=w0.heap.size)(D:Blk w0 gr 127 [u])(M:Lw.Own z3t 131 base w0 u a4)(hb:b=0\/b=1)(hl:l.length<=40)(h4:z9p l)(ha:a4.length<=1000)(hu:IsB u):Rets prog 118 #[.int .u8 b,v,.pointer (some ⟨gr,0,none⟩),.pointer (some ⟨gk,0,none⟩)] w0 λr' w'=>r'=.tuple #[]/\(∃u',Blk w' gr 127 [u']/\Lw.Own z3t 131 base w' u' (a4++hds b r (plB l) l.length)/\IsB u')/\w0.heap.size<=w'.heap.size/\Fr [] wS w':=by
 obtain⟨A,c,rfl,e8,hM,hA⟩:=id hs;clear hA;unfold maxLen at hM;have f5:=hF.size;have e3:=D.lt;refine we [(0,.int .u8 b),(1,.slice A l.length c),(2,.pointer (some ⟨gr,0,none⟩)),(3,.pointer (some ⟨gk,0,none⟩))] func118 U ntmps118 U (.c4 U U U U) ?_;have d0:=hs;have b3:=hk;have b2:=a6;refine sr (mv U (lnS U underlying23 (mv U (nn (bl (lpK (ι:=Nat×Value) [(0,_),(2,_),(3,_),(11,_),(12,_)] (λp=>[(13,.int .i64 (p.1:Int))]) (λp w'=>Fr [] wS w'/\(p.1<=l.length/\w0.heap.size<=w'.heap.size/\IsB p.2)/\Blk w' gr 127 [p.2]/\Lw.Own z3t 131 base w' p.2 (a4++hds b r (plB l) p.1)) (λp=>l.length-p.1) (0,u) (.c6 U U U U U U) ⟨hF,⟨⟨Nat.zero_le _,oo,hu⟩,D,by simpa[hds] using M⟩⟩ ?_))))));rintro⟨i,uI⟩ w1 ⟨q1,⟨hi,D,M⟩⟩;simp only at hi D M;have z1:=q1.size;have a9:=D.lt;refine kpC [(0,_),(2,_),(3,_),(11,_),(12,_),(13,.int .i64 (i:Int))] (.c6 U U U U U U) ?_;have e9:=x2i b r l h4 i;have f3:=z3n h4 i;have f4:=z2e (z2b b3 i);have b4:=b2.lt;refine sr (lt' U (nn (sq (cd U (λc0=>?_) (λc0=>?_)))));refine sk (tn (sq (bl (sr (mv U ?_)))));replace hs:=d0.ext q1;refine z1d (iq0) U hs U y4x z1j (λd9 b6=>?_);refine z1k U (b6 _ hs) z6h (asg U (asg U (nn (sr (mv U (mv U (z0x U (wi6 oo) (z1s (cs:=[_,_]) (ev2 U) y4d (z0f U (z0f U z0q)) U ?_))))))));refine al v4k U (λg8 w2 f0 I q2 z2=>?_);refine z0j (vs:=[_,_]) U I y5s (λw3 I q3 z3=>?_) (h1:=(by first|(simp[Value.oneCell',S];done)|exact z1b.one _));refine nn (sr (mv U (lnS U underlying30 (mv U (nn (bl ?_))))));replace D:=(D.ext q2).fr q3;replace M:=(M.ext q2).fr q3 (by first|(intro k hk hb;rw[List.mem_singleton.1 hk]at hb;first|exact M.neB D dd hb|(have:=(M.blk _ hb).2;omega))|(simp;done));refine lpK (ι:=Nat×Value) [(0,_),(2,_),(3,_),(8,_),(11,_),(12,_),(13,_),(22,_),(23,_)] (λp=>[(24,.int .i64 (p.1:Int))]) (λp w'=>Fr [] wS w'/\(p.1<=(l.getD i iq0).2.length/\w0.heap.size<=w'.heap.size/\Blk w' g8 42 [.int .u8 b,.int .i64 ((i:Int)+1)]/\IsB p.2)/\Blk w' gr 127 [p.2]/\Lw.Own z3t 131 base w' p.2 ((a4++hds b r (plB l) i)++((l.getD i iq0).2.take p.1).map (hdS b r i))) (λp=>(l.getD i iq0).2.length-p.1) (0,uI) (.d8 U U U U U U U U (.c2 U U)) ⟨(q1.z2 q2 q3),⟨⟨Nat.zero_le _,oo,I,hi.2.2⟩,D,by simpa using M⟩⟩ ?_;rintro⟨j,uJ⟩ w4 ⟨q4,⟨⟨hj,f6,I,d6⟩,D,M⟩⟩;simp only at hj D M;have z4:=q4.size;have a9:=D.lt;have d3:=I.lt;refine kpC [(0,_),(2,_),(3,_),(8,_),(11,_),(12,_),(13,_),(22,_),(23,_),(24,.int .i64 (j:Int))] (.d8 U U U U U U U U (.c2 U U)) (sr (lt' U (nn (sq (cd U (λc1=>?_) (λc1=>?_))))));refine sk (tn (sq (bl (sr ?_))));replace hk:=b3.ext q4;refine z1d (id0) U (z2b hk i) U z3x z1j (λe0 b7=>?_);refine z1q U (b7 _ (z2b hk i)) z2q (al z7r U (λd4 w5 e2 O q5 z5=>?_));refine z0j (vs:=[_,_]) U O z5y (λw6 O q6 z6=>?_) (h1:=(by first|(simp[Value.oneCell',S];done)|exact z1b.one _));refine nn ?_;replace hs:=d0.ext (q4.z2 q5 q6);replace hk:=b3.ext (q4.z2 q5 q6);replace a6:=b2.ext (q4.z2 q5 q6);replace D:=(D.ext q5).fr q6;replace M:=(M.ext q5).fr q6 (by first|(intro k hk hb;rw[List.mem_singleton.1 hk]at hb;first|exact M.neB D dd hb|(have:=(M.blk _ hb).2;omega))|(simp;done));replace I:=(I.ext q5).fr q6;intro a h;refine z0h (some 8) (λwb w'=>Fr (z0v uJ) wb w') z2o ?_;intro w7 q7;have z7:=q7.size;replace hs:=hs.ext q7;replace hk:=hk.ext q7;replace a6:=a6.ext q7;replace D:=D.ext q7;replace M:=M.ext q7;replace I:=I.ext q7;replace O:=O.ext q7;have hC:Fr (z0v uJ) w7 w7:=Fr.refl _ _;have d1:=hs;have b8:=hk;have a7:=a6;have a2:=D;have a0:=M;have Z:=I;have a1:=O;refine z6f 0 hC h wn U (λ_ hw=>a2.fr hw (λk_=>Own.neB a0 a2 dd k_)) u5k U U λa h=>z0w 1 h U (λ_ hw=>a1.fr hw (λk_=>Own.neB a0 a1 dd k_)) z2q U λa h=>z0w 2 h U (λ_ hw=>Z.fr hw (λk_=>Own.neB a0 Z dd k_)) z5r U λa h=>z0w 3 h U (λ_ hw=>Z.fr hw (λk_=>Own.neB a0 Z dd k_)) z5r U λa h=>z6f 4 hC h wn U (λ_ hw=>a7.fr hw (λk_=>by have:=(a0.blk _ k_).1;have:=b4;omega)) na3 U U λa h=>z0d 5 U (z0n h (z0a U (z0a U z0g)) x7j (y2c _ _ _ _ oo) ?_);rintro _ w8 ⟨rfl,q8⟩ a h;have z8:=q8.size;replace D:=D.ext q8;replace I:=I.ext q8;replace O:=O.ext q8;replace hC:=hC.next q8;refine z0b (z2u (cs:=[_,_,_,_,_]) 6 h (z0a U (z0a U (z0a U z0g))) j3f (z0f U (z0f U (z0f U z0q))) U U λa h=>z0d 7 U ?_);refine z2j ([(hdS b r i ((l.getD i iq0).2.getD j id0))]) h (z0a U z0g) U z3i λa5 w9 hg c9 q9 hz a h=>?_;have a8:gr<a5:=by have:=D.lt;omega
 have a8:g8<a5:=by have:=I.lt;omega
 have b9:d4<a5:=by have:=O.lt;omega
 have z9:=q9.size;replace hk:=hk.ext (q8.n1 q9);replace D:=D.ext q9;replace M:=M.ext (q8.n1 q9);replace I:=I.ext q9;replace hC:=hC.next q9;refine z0b (z0d 8 U ?_);have a3:=M;refine z7i h U U M c9.sl z3i U ?_ (hM:=(by unfold maxLen;simp only[List.length_append,List.length_map,List.length_take,List.length_cons,List.length_nil];omega)) (hb:=(by simp only[List.length_append,List.length_map,List.length_take,List.length_cons,List.length_nil];omega));clear h a;intro f7 f8 M b0 d5 a h;obtain⟨e4,e5,rfl,e1⟩:=M.sl.form;have f9:=b0.size;replace D:=D.fr b0 (λhk=>a3.neB D dd hk);replace I:=I.fr b0 (λhk=>a3.neB I dd hk);refine z1n (z0d 9 U (y6g h U U D U U j0h λd7 b5 b1 hz a h=>?_));have g0:=b1.size;replace I:=I.fr b1;replace M:=M.fr b1 (by first|(intro k hk hb;rw[List.mem_singleton.1 hk]at hb;first|exact M.neB D dd hb|(have:=(M.blk _ hb).2;omega))|(simp;done));clear D hz;have D:Blk d7 gr _ [_]:=b5;clear b5;refine z1n (z0r ?_);clear hC d1 b8 a7 a2 a0 Z a1;exact bk (h.sub (L':=[(0,_),(2,_),(3,_),(8,_),(11,_),(12,_),(13,_),(22,_),(23,_),(24,_)]) (.d8 U U U U U U U U (.c2 U U))) (bn' (tn (rg (z0x U (wi6 oo) (mv U (nl (lpE ((j+1,_)) (.d8 U U U U U U U U (.c2 U U)) ⟨(((q4.z5 q5 q6 q7 q8 q9).step b0 (λk hk f2=>absurd (a3.blk k hk).1 oo)).z1 b1),⟨⟨sm,oo,I,u2k M sp0⟩,D,by rw[y3g (hdS b r i) id0 oo,<-List.append_assoc];exact M⟩⟩ sm)))))));obtain rfl:j=(l.getD i iq0).2.length:=by omega
 rw[List.take_length]at M;exact ex (te (te (xh (bn' (tn (rg (z0x U (wi6 oo) (mv U (kpL [(0,_),(2,_),(3,_),(11,_),(12,_),(13,_)] (.c6 U U U U U U) (nl (lpE ((i+1,_)) (.c6 U U U U U U) ⟨q4,⟨⟨sm,oo,d6⟩,D,by rw[y7w,z4e,<-List.append_assoc];exact M⟩⟩ sm)))))))))));obtain rfl:i=l.length:=by omega
 exact ex (te (te (xh (r0n results118  ⟨_,rfl,rfl,⟨_,D,M,hi.2.2⟩,oo,q1⟩))))
theorem j3d (w:World):(zeroValue 127).run prog w=.ok (.slice none 0 0) w:=kr
theorem v2y (q:BdQ)(r:Int)(w0:World)(hB:BdAt w0 q)(hv:BdOk q.p)(hr:-4<=r/\r<=4):Rets prog 56 #[.agg #[.slice q.f.1 q.f.2.1 q.f.2.2,.slice q.b.1 q.b.2.1 q.b.2.2],.int .i64 r] w0 λv w'=>(∃g,v=.tuple #[.slice (some ⟨g,0,none⟩) (z2t q.p r).length (z2t q.p r).length,.int .i64 0]/\w0.heap.size<=g/\Lw.Own z3t 131 w0.heap.size w' (.slice (some ⟨g,0,none⟩) (z2t q.p r).length (z2t q.p r).length) (z2t q.p r))/\Fr [] w0 w':=by
 obtain⟨⟨hf,hb⟩,h4,a5⟩:=z3o hv;have hN:=y3r hv;have b7:=y0z q.p r;have c9:(z2t q.p r).length=(v4i q.p r).length:=z4f _;refine we [(0,.agg #[.slice q.f.1 q.f.2.1 q.f.2.2,.slice q.b.1 q.b.2.1 q.b.2.2]),(1,.int .i64 r)] func56 U ntmps56 U (.c2 U U) ?_;have a3:=hB;refine sr (bx U (λg2 w1 b8 D q1 z1=>(bx U (λg3 w2 b9 a0 q2 z2=>(asg U (asg U (nn (sq (sr ?_)))))))));replace D:=D.ext q2;refine z0m U D z4x (z2r U a0 na3 ?_);replace hB:=a3.ext (q1.n1 q2);refine cl (ev2 U) (mkC func117) (x1c q _ _ hB hv oo) U ?_;rintro _ w3 ⟨rfl,q3⟩;have z3:=q3.size;replace a0:=a0.ext q3;replace D:=D.ext q3;have Z:BdAt w3 q:=a3.ext (q1.n2 q2 q3);have O:=a0;have b6:=O.lt;have a7:=D;refine asg U (nn (sr (mv U (ne' U (nn (cd U (λc0=>?_) (λc0=>?_)))))));exact absurd U c0;refine sk (tn (sr (z0m U D z4x ?_)));replace hB:=a3.ext (q1.n2 q2 q3);refine cl (ev1 U) (mkC func24) (y4l q _ hB hf hb h4 a5) U ?_;rintro _ w4 ⟨rfl,q4⟩;have z4:=q4.size;refine z1h (m:=0) (c:=q.p.flat.length) (hd0) U z3i x8p U (λa1 w5 b2 M q5 z5=>(al j3d U (λg7 w6 c1 I q6 z6=>(z3u U U I U j0h (λw7 I q7 z7=>(nn (sr (z7e z0g (ev2 U) U (asg U (nn (sr (mv U (fad U y6o ?_)))))))))))));replace D:=(D.ext (q4.n2 q5 q6)).fr q7;refine z0i U D U x6v ?_;replace M:=(M.ext q6).fr q7 (by first|(intro k hk hb;rw[List.mem_singleton.1 hk]at hb;first|exact M.neB I dd hb|(have:=(M.blk _ hb).2;omega))|(simp;done));refine clv (us:=[]) (ws:=[.pointer (some ⟨g7,0,none⟩),.pointer (some ⟨g3,0,none⟩)]) U (ev2 U) (mkC func118) (v2u g7 g3 a1 0 r _ _ q.fs [] w3 _ (q4.z3 q5 q6 q7) Z.f Z.fi O oo oo oo I M dd oo h4 (by first|(simp;done)|(have:=x2i 0 r q.fs h4 q.fs.length;simp;omega)) ⟨_,_,_,rfl⟩) U (by intro g e;cases e) ?_;rintro _ w8 ⟨rfl,⟨d0,I,M,a8⟩,hz22,q8⟩;have z8:=q8.size;refine nn (sr (mv U (fad U y2q ?_)));replace D:=a7.ext q8;refine z0i U D U x6v (clv (us:=[]) (ws:=[.pointer (some ⟨g7,0,none⟩),.pointer (some ⟨g3,0,none⟩)]) U (ev2 U) (mkC func118) (v2u g7 g3 a1 1 r _ _ q.bs ([]++hds 0 r (plB q.fs) q.fs.length) w3 _ q8 Z.b Z.bi O oo oo oo I M dd oo a5 (by first|(simp;done)|(have:=x2i 0 r q.fs h4 q.fs.length;simp;omega)) a8) U (by intro g e;cases e) ?_);rintro _ w9 ⟨rfl,⟨d1,I,M,a9⟩,hz26,q9⟩;have z9:=q9.size;rw[List.nil_append,show hds 0 r (plB q.fs) q.fs.length++hds 1 r (plB q.bs) q.bs.length=v4i q.p r by unfold v4i;simp only[List.length_map]]at M;obtain⟨a2,b4,rfl⟩:=v8f a9 M;have b5:=(M.blk a2 (by simp[z0v])).1;have a6:g7∉[a2]:=λhk=>(M.neB I dd) (by simpa[z0v] using hk);refine kpL [(7,_)] (.cons U .nil) (nn (sr (z2r U I u5k (cl (ev2 U) (mkC func120) (v4r a2 _ a1 (v4i q.p r) _ M oo) U ?_))));rintro _ d3 ⟨rfl,M,a4⟩;have d5:=a4.size;refine nn (sr ?_);replace I:=I.fr a4 (by first|exact a6|(simp;omega));refine z2r U I u5k (cl (ev1 U) (mkC func123) (x7p _ (z2t q.p r) _ (by unfold z2t;exact M.sl) oo) U ?_);rintro _ d4 ⟨b1,rfl,b3,hX,b0⟩;have d6:=b0.size;exact asg U (asg U (nn (rt (r2 results56 U U ⟨_,rfl,⟨b1,rfl,oo,hX.low oo⟩,(q1.z5 q2 q3 q9 a4 b0)⟩))))
end Go.Proofs.YtlfdhllfmoplgaaGreatDoor
