/- Texts of the proof, joined. -/
import Derived.Test.YtagnnbcnnmacmaaGreatDoorRows
import Derived.WalkSmall
import Derived.Test.YtagnnbcnnmacmaaGreatDoorEA2
set_option linter.unusedVariables false
set_option linter.unusedSimpArgs false
set_option maxHeartbeats 4000000
namespace Go.Proofs.YtagnnbcnnmacmaaGreatDoor
open Go.Lw Go.G21 Go.G08 _root_.Go.Proofs.Tryz
theorem v5m:z1r prog 85 2:=λ_=>kr0
theorem j1u (w:World):(zeroValue 85).run prog w=.ok (.agg #[(.int .u8 0),(.int .i64 0)]) w:=kr0
theorem x4u (r:Int)(w0:World):Rets prog 179 #[.int .i64 r] w0 λv w'=>v=.bool (decide (-4<=r/\r<=4))/\Fr [] w0 w':=by
 refine we [(0,.int .i64 r)] func179 U ntmps179 U (.cons U .nil) (sr (asg U (nn (sq (rbo (r:=2) (L':=[]) (((-4<=r)/\(r<=4))) .nil ?_ ?_)))));refine mv U (ge' U (mv U (gs 5 U (λD=>?_) (λD=>?_))));exact gY U (mv U (gY U (le' U (pkt U (asg U (rbe U .nil))))));exact gN U (gN U (pkf U (asg U (rbe U .nil))));exact tn (rt (r1 results179 U ⟨_,rfl,rfl,(Fr.refl _ _)⟩))
theorem y4a (b p r:Int)(w0:World)(hp:-9223372036854775808<=p/\p<=9223372036854775807):Rets prog 139 #[.agg #[.int .u8 b,.int .i64 p],.int .i64 r] w0 λv w'=>v=.int .i64 (z2s b p r)/\Fr [] w0 w':=by
 refine we [(0,.agg #[.int .u8 b,.int .i64 p]),(1,.int .i64 r)] func139 U ntmps139 U (.c2 U U) (sr (bx U (λg2 w1 a2 D q1 z1=>(asg U (nn (sq (sq (u2n (r:=12) (L':=[(1,_),(2,_)]) ((((z4g b p)≠0)\/(¬(-4<=r/\r<=4)))) (.c2 U U) ?_ ?_))))))));refine z0m U D z8c (cl (ev1 U) u5t (z5i _ _ _) U ?_);rintro _ w2 ⟨rfl,q2⟩;refine ne' U (mv U (gs 8 U (λg0=>?_) (λg0=>?_)));exact gN U (gN U (gN U (pkt U (y5c U (.c2 U U) q2))));refine gY U (mv U (gY U (cl (ev1 U) (mkC func179) (x4u _ _) U ?_)));rintro _ w3 ⟨rfl,q3⟩;exact gY U (nt' U (pkf U (y5c U (.c2 U U) (q2.n1 q3))));intro w4 O;have z4:=O.size;refine tn (cd U (λI=>?_) (λI=>?_));exact sr (asg U (nn (rt (tr (r1 results139 U ⟨_,rfl,by rw[z2s,if_pos I],(q1.n1 O)⟩)))));have a0:z4g b p=0:=Classical.not_not.1 (λe=>I (.inl e));have a3:-4<=r/\r<=4:=Classical.not_not.1 (λe=>I (.inr e));have a1:=z3n a0;refine sk (tn (sq (sr (fad U z9i ?_))));replace D:=D.ext O;refine z0i U D U v0a (eq' U (nn (cd U (λZ=>?_) (λZ=>?_))));exact sr (fad U z9j (z0i U D U na3 (y4m U (wi6 oo) (z0q U (wi6 oo) (asg U (kpL [(4,_)] (.cons U .nil) (nn (rt (tr (r1 results139 U ⟨_,rfl,by rw[z2s,if_neg I,if_pos Z],(q1.n1 O)⟩))))))))));exact sk (tn (sr (fad U z9j (z0i U D U na3 (mv U (z0q U (wi6 oo) (y4m U (wi6 oo) (asg U (kpL [(4,_)] (.cons U .nil) (nn (rt (r1 results139 U ⟨_,rfl,by rw[z2s,if_neg I,if_neg Z],(q1.n1 O)⟩))))))))))))
theorem y2h:ElemOf prog 35 42 z7g 24:=ElemOf.mk' (z:=(.slice none 0 0)) underlying35 kr0 U
theorem k5p (w:World):(zeroValue 42).run prog w=.ok (.slice none 0 0) w:=kr0
theorem x2z (v:Value)(l:List LId)(w0:World)(I:Sl z1j w0 v l)(hl:l.length<=100000):Rets prog 98 #[v] w0 λr w'=>∃g,r=.slice (some ⟨g,0,none⟩) l.length l.length/\w0.heap.size<=g/\Lw.Own z1j 54 w0.heap.size w' r l/\Fr [] w0 w':=by
 obtain⟨A,c,rfl,a0,hM,hA⟩:=id I;clear hA;unfold maxLen at hM;refine we [(0,.slice A l.length c)] func98 U ntmps98 U (.cons U .nil) ?_;have O:=I;refine sr (asg U (nn (sr (mv U (lnS U underlying42 (z1g (m:=l.length) (c:=l.length) (id0) U z6q y6l U (λg6 w1 a1 D Z z1=>(asg U (nn (sr (mv U (mv U ?_))))))))))));replace I:=O.ext Z;refine z9h (zs:=List.replicate l.length id0) (by rw[List.length_replicate];rfl) U (by rw[List.length_replicate];exact D) I (by rw[List.length_replicate]) z6q (λw2 D q2 z2=>?_);rw[List.length_replicate]at D;exact nn (sr (mv U (asg U (nn (rt (r1 results98 U ⟨_,rfl,g6,rfl,oo,D.low oo,(Z.z1 q2)⟩))))))
theorem j2i (v:Value)(l:List IQ)(w0:World)(I:Sl z7g w0 v l)(hl:l.length<=100000):Rets prog 238 #[v] w0 λr w'=>∃g,r=.slice (some ⟨g,0,none⟩) l.length l.length/\w0.heap.size<=g/\Lw.Own z7g 42 w0.heap.size w' r l/\Fr [] w0 w':=by
 obtain⟨A,c,rfl,a0,hM,hA⟩:=id I;clear hA;unfold maxLen at hM;refine we [(0,.slice A l.length c)] func238 U ntmps238 U (.cons U .nil) ?_;have O:=I;refine sr (asg U (nn (sr (mv U (lnS U underlying35 (z1g (m:=l.length) (c:=l.length) (iq0) U y2h k5p U (λg6 w1 a1 D Z z1=>(asg U (nn (sr (mv U (mv U ?_))))))))))));replace I:=O.ext Z;refine z9h (zs:=List.replicate l.length iq0) (by rw[List.length_replicate];rfl) U (by rw[List.length_replicate];exact D) I (by rw[List.length_replicate]) y2h (λw2 D q2 z2=>?_);rw[List.length_replicate]at D;exact nn (sr (mv U (asg U (nn (rt (r1 results238 U ⟨_,rfl,g6,rfl,oo,D.low oo,(Z.z1 q2)⟩))))))
theorem u6z (v:Value)(qs:List IQ)(w0:World)(Z:Sl z7g w0 v qs)(hk:IqAt w0 qs):Rets prog 45 #[v] w0 λr w'=>∃n:Nat,r=.int .i64 (n:Int)/\n<=qs.length/\(plB qs).take n=z2v (plB qs)/\Fr [] w0 w':=by
 obtain⟨A,c,rfl,a3,hM,hA⟩:=id Z;clear hA;unfold maxLen at hM;refine we [(0,.slice A qs.length c)] func45 U ntmps45 U (.cons U .nil) ?_;have a1:=Z;have a0:=hk;refine sr (asg U (nn (sr (mv U (lnS U underlying35 (asg U (nn (sq (bl (lpK (ι:=Nat) [(0,_)] (λn=>[(3,.int .i64 (n:Int))]) (λn w'=>Fr [] w0 w'/\n<=qs.length/\∀j,n<=j->(qs.getD j iq0).2=[]) (λn=>n) qs.length (.c2 U U) ⟨Fr.refl _ _,⟨Nat.le_refl _,λj hj=>v2n hj⟩⟩ ?_))))))))));rintro n w1 ⟨q1,⟨hn,I⟩⟩;refine kpC [(0,_),(3,_)] (.c2 U U) ?_;have O:=z2g (z1p a0 (n-1));refine sq (sq (rbo (r:=16) (L':=[(0,_),(3,_)]) (((0<(n:Int))/\(((qs.getD (n-1) iq0).1.2.1:Int)=0))) (.c2 U U) ?_ ?_));refine mv U (gt' U (mv U (gs 8 U (λg0=>?_) (λg0=>?_))));refine gY U (mv U (gY U (mv U (gY U (z1u U (wi6 oo) (gY U ?_))))));replace Z:=a1.ext q1;refine z0x (p:=n-1) (iq0) U Z U y2h oo (λa2 D=>?_);exact gY U (z1a U (D _ Z) z8o (gY U (lnS U underlying42 (gY U (eq' U (pkt U (rbe U (.c2 U U))))))));exact gN U (gN U (gN U (gN U (gN U (gN U (gN U (pkf U (rbe U (.c2 U U)))))))));refine tn (cd U (λc0=>?_) (λc0=>?_));refine sk (tn (bl (rg (mv U (z1u U (wi6 oo) (asg U (nl (bn' ?_))))))));exact lpE (n-1) (.c2 U (congrArg (λz=>some (Value.int .i64 z)) (show (n:Int)-1=((n-1:Nat):Int) by omega))) ⟨q1,⟨oo,λj hj=>by
  by_cases e:n<=j;exact I j e;obtain rfl:j=n-1:=by omega
  exact List.eq_nil_of_length_eq_zero oo⟩⟩ oo
 refine ex (te (te (xh (tn (sr (mv U (asg U (nn (rt (r1 results45 U ?_))))))))));exact⟨_,rfl,n,rfl,hn,y3z _ _ (by rw[List.length_map];exact hn) (λj hj=>by rw[z4x];exact I j hj) (by
  by_cases e:n=0;exact .inl e;refine .inr λh=>c0 ⟨oo,?_⟩;rw[z4x]at h;rw[h]at O;rw[O];rfl),q1⟩
theorem v1v (v u:Value)(qs:List IQ)(n:Nat)(s:List LId)(w0:World)(hs:Sl z7g w0 v qs)(hk:IqAt w0 qs)(hu:Sl z1j w0 u s)(hl:qs.length<=40)(hn:n<=40)(h4:y0w qs)(b8:s.length<=4):Rets prog 219 #[v,.int .i64 (n:Int),u] w0 λr w'=>(∃fs,RwO 42 54 w0.heap.size w' r fs/\plB fs=y8l (plB qs) n s/\∃g,r=.slice (some ⟨g,0,none⟩) fs.length fs.length)/\Fr [] w0 w':=by
 obtain⟨A,c,rfl,d4,hM,hA⟩:=id hs;clear hA;unfold maxLen at hM;obtain⟨B,e,rfl,d5⟩:=id hu.form;obtain⟨M,a6⟩:∃M,M=max qs.length n:=⟨_,rfl⟩;have b3:max (qs.length:Int) (n:Int)=(M:Int):=by omega
 refine we [(0,.slice A qs.length c),(1,.int .i64 (n:Int)),(2,.slice B s.length e)] func219 U ntmps219 U (.c3 U U U) ?_;have b7:=hs;have a8:=hk;have b9:=hu;refine sr (asg U (nn (sr (mv U (lnS U underlying35 (mv U (u0m U U U ?_)))))));rw[b3];refine z1g (m:=M) (c:=M) (iq0) U y2h k5p U (λa0 w1 d0 O q1 z1=>(asg U (nn (sr (mv U (mv U ?_))))));replace hs:=b7.ext q1;refine j2w (p:=0) (k:=qs.length) (m:=M) (cap:=M) (by rw[Nat.zero_mul,z6o];rfl) U O hs (Nat.zero_le _) oo y2h U (λw2 O q2 z2=>?_);replace O:Lw.Own z7g 42 a0 w2 (.slice (some ⟨a0,0,none⟩) M M) (qs++List.replicate (M-qs.length) iq0):=by simpa using O
 refine nn (jn (ι:=List IQ) [(7,_)] (λp=>[]) (λp w'=>Fr [a0] w2 w'/\Lw.Own z7g 42 w0.heap.size w' (.slice (some ⟨a0,0,none⟩) M M) p/\plB p=(if n=0 then plB qs else (x6y (plB qs) n).set (n-1) s)/\IqAt w' p/\y0w p) (.cons U .nil) ?_ ?_);refine sr (mv U (gt' U (nn (cd U (λc0=>?_) (λc0=>?_)))));refine rg (mv U (mv U (z1u U (wi6 oo) (mv U (y1c (p:=n-1) (E:=z7g) U U y2h (z6w (i:=n-1) ((((B,s.length,e),s):IQ)) U U O (by rw[List.length_append,List.length_replicate];omega) U j5l (λw3 O q3 z3=>?_)))))));refine kpL [(7,_)] (.cons U .nil) (nl ?_);replace hk:=a8.ext (q1.z2 q2 q3);replace hu:=b9.ext (q1.z2 q2 q3);exact jE (_) (.cons U .nil) ⟨((Fr.refl [a0] _).z1 q3),⟨O.low oo,j2h oo a6,u4i (v2e hk) hu,u7f (v1r h4) b8⟩⟩;refine sk ?_;replace hk:=a8.ext (q1.z1 q2);exact jE (_) (.cons U .nil) ⟨(Fr.refl _ _),⟨O.low oo,u3v oo a6,v2e hk,v1r h4⟩⟩;rintro rs w4 ⟨q4,⟨O,a9,a3,b6⟩⟩;have z4:=q4.size;have b0:=a3;refine kpC [(7,_)] (.cons U .nil) ?_;have d9:rs.length=M:=by have:=congrArg List.length a9;split at this<;>simp only[plB,List.length_map,List.length_set,x2l]at this<;>omega
 refine sr (mv U (mv U (cl (ev1 U) (mkC func45) (u6z _ rs _ O.sl a3) U ?_)));rintro _ w5 ⟨m,rfl,b4,b5,q5⟩;have z5:=q5.size;obtain⟨ls,I⟩:∃x,x=rs.take m:=⟨_,rfl⟩;refine j6m (p:=m) U U y2h oo oo oo U ?_;replace O:=O.ext q5;refine cl (ev1 U) (mkC func238) (j2i _ ls _ (by rw[I];exact O.sl.take U b4 oo (by unfold maxLen;omega) (λ_=>rfl)) (by rw[I,List.length_take];omega)) U ?_;rintro _ w6 ⟨D,rfl,d1,Z,q6⟩;have z6:=q6.size;have d7:ls.length<=40:=by rw[I,List.length_take];omega
 have b2:y0w ls:=λq hq=>b6 q (List.mem_of_mem_take (I▸hq));have d6:=(Z.blk D (by simp[z0u])).2;refine asg U (nn (sq (sr (mv U (lnS U underlying35 (mv U (nn (bl (lpK (ι:=Nat×List IQ) [(7,_),(30,_),(31,_)] (λp=>[(32,.int .i64 (p.1:Int))]) (λp w'=>Fr [D] w6 w'/\p.1<=ls.length/\Lw.Own z7g 42 w0.heap.size w' (.slice (some ⟨D,0,none⟩) ls.length ls.length) p.2/\plB p.2=plB ls/\(∀j,p.1<=j->p.2.getD j iq0=ls.getD j iq0)/\PreO 54 (D+1) w' p.2 p.1) (λp=>ls.length-p.1) (0,ls) (.c4 U U U U) ⟨Fr.refl _ _,⟨Nat.zero_le _,Z.low oo,rfl,λ_ _=>rfl,PreO.zero⟩⟩ ?_)))))))));rintro⟨i,ps⟩ w7 ⟨q7,⟨hi,Z,a2,a5,a1⟩⟩;simp only at hi Z a2 a5 a1;have z7:=q7.size;refine kpC [(7,_),(30,_),(31,_),(32,.int .i64 (i:Int))] (.c4 U U U U) ?_;have a4:ps.length=ls.length:=by have:=congrArg List.length a2;simpa using this
 refine sr (lt' U (nn (sq (cd U (λc1=>?_) (λc1=>?_)))));refine sk (tn (sq (bl (sr (mv U (z0x (iq0) U Z.sl U y2h z1m (λc9 a7=>?_)))))));refine z1a U (a7 _ Z.sl) z8o (asg U (asg U (nn (rg (mv U (mv U (mv U ?_)))))));replace a3:=b0.ext (q5.z2 q6 q7);refine cl (ev1 U) (mkC func98) (x2z _ (ps.getD i iq0).2 _ (by rw[a5 i (Nat.le_refl _)];exact z1p (v9g I a3) i) (by have:=z4e (j4y b2 a2) i;omega)) U ?_;rintro _ w8 ⟨b1,rfl,d3,hX,q8⟩;have z8:=q8.size;replace Z:=Z.ext q8;refine y1c (p:=i) (E:=z7g) U U y2h (z6w (i:=i) ((((some ⟨b1,0,none⟩,(ps.getD i iq0).2.length,(ps.getD i iq0).2.length),(ps.getD i iq0).2):IQ)) U U Z oo U j5l (λw9 Z q9 z9=>(kpL [(7,_),(30,_),(31,_),(32,_)] (.c4 U U U U) (nl (bn' (tn (rg (z0q U (wi6 oo) (mv U (nl ?_))))))))));replace a1:=(a1.ext q8).fr q9 (by intro k hk;simp at hk;omega);replace hX:=hX.fr q9 (by intro k hk hb;simp[z0u]at hk hb;omega);exact lpE ((i+1,_)) (.c4 U U U U) ⟨((Fr.refl [D] _).z3 q7 q8 q9),⟨sm,Z,(j1e (by rfl)).trans a2,u7a a5 oo,a1.put oo (hX.low oo)⟩⟩ sm;obtain rfl:i=ls.length:=by omega
 exact ex (te (te (xh (tn (sr (mv U (asg U (kpL [(6,_)] (.cons U .nil) (nn (rt (r1 results219 U ⟨_,rfl,⟨ps,⟨Z,(a4▸a1).all oo⟩,a2.trans (j5c I b5 a9),D,by rw[a4]⟩,(q1.z5 q2 q4 q5 q6 q7)⟩)))))))))))
theorem z6k:z4i prog 37 2:=⟨λ_=>kr0,λ_=>kr0⟩
theorem j6g:BuildAt prog 37 [(0,1),(1,1)] [(.slice none 0 0),(.slice none 0 0)]:=BuildAt.struct underlying37 (λ_=>kr0) (λ_=>kr0)
theorem x0l:z0y prog 37 0 0:=λ_ _=>kr0
theorem y4s:z0y prog 37 1 1:=λ_ _=>kr0
theorem v1z:z2a prog 35:=λ_=>kr0
theorem x7z:z1r prog 37 2:=λ_=>kr0
theorem v4k (w:World):(zeroValue 37).run prog w=.ok (.agg #[(.slice none 0 0),(.slice none 0 0)]) w:=kr0
theorem y7t (q:BdQ)(b:Int)(n:Nat)(u:Value)(s:List LId)(w0:World)(hB:BdAt w0 q)(hu:Sl z1j w0 u s)(hn:z4g b (n:Int)=0)(hf:q.fs.length<=40)(hb:q.bs.length<=40)(h4:y0w q.fs)(b4:y0w q.bs)(c1:s.length<=4):Rets prog 180 #[.agg #[.slice q.f.1 q.f.2.1 q.f.2.2,.slice q.b.1 q.b.2.1 q.b.2.2],.agg #[.int .u8 b,.int .i64 (n:Int)],u] w0 λr w'=>(∃q':BdQ,r=.agg (bdL q').toArray/\BdO 42 54 w0.heap.size w' q'/\q'.p=q.p.put b (n:Int) s)/\Fr [] w0 w':=by
 have d6:=z3n hn;obtain⟨Us,e,rfl,d7⟩:=id hu.form;refine we [(0,.agg #[.slice q.f.1 q.f.2.1 q.f.2.2,.slice q.b.1 q.b.2.1 q.b.2.2]),(1,.agg #[.int .u8 b,.int .i64 (n:Int)]),(2,.slice Us s.length e)] func180 U ntmps180 U (.c3 U U U) ?_;have b5:=hB;have c9:=hu;refine sr (bx U (λg3 w1 d9 Z q1 z1=>(bx U (λg4 w2 e0 I q2 z2=>(al v4k U (λg6 w3 e1 D q3 z3=>(nn (sq (sr (fad U z9i ?_))))))))));replace I:=I.ext q3;refine z0i U I U v0a (eq' U (nn (cd U (λc0=>?_) (λc0=>?_))));refine sq ?_;replace hB:=b5.ext (q1.n2 q2 q3);replace hu:=c9.ext (q1.n2 q2 q3);intro a h;refine z0h (some 10) (λwb w'=>Fr [] wb w') z2y ?_;intro w4 q4;have z4:=q4.size;replace hB:=hB.ext q4;replace hu:=hu.ext q4;replace Z:=Z.ext (q2.n2 q3 q4);replace I:=I.ext q4;replace D:=D.ext q4;have hC:Fr [] w4 w4:=Fr.refl _ _;have a9:=hB;have b3:=hu;have O:=Z;have a0:=I;have a3:=D;refine z0c 0 h U x0l U λa h=>z0j 1 h U (λ_ hw=>O.ext hw) U v1z U λa h=>z0c 2 h U z9j U λa h=>z0j 3 h U (λ_ hw=>a0.ext hw) U na3 U λa h=>z0d 4 h U λa h=>z0c 6 h U y4s U λa h=>z0j 7 h U (λ_ hw=>O.ext hw) U v1z U λa h=>z0e 5 U (z0n h (z0a U (z0a U (z0a U z0g))) (mkC func219) (v1v _ _ q.fs n s _ hB.f hB.fi hu oo oo h4 c1) ?_);rintro _ w5 ⟨⟨a5,a1,b6,d0,rfl⟩,q5⟩ a h;have z5:=q5.size;replace hB:=hB.ext q5;replace hC:=hC.next q5;refine z0b (z0e 8 U (z0n h (z0a U (z0a U (z0a U z0g))) (mkC func219) (v1v _ _ q.bs 0 [] _ hB.b hB.bi (Sl.nil _) oo oo b4 (Nat.zero_le _)) ?_));rintro _ w6 ⟨⟨a6,b0,b7,d1,rfl⟩,q6⟩ a h;have z6:=q6.size;replace Z:=Z.ext (q5.n1 q6);replace I:=I.ext (q5.n1 q6);replace D:=D.ext (q5.n1 q6);replace a1:=a1.ext q6;replace hC:=hC.next q6;refine z0b (z3m (cs:=[_,_]) 9 h (z0a U (z0a U z0g)) j6g (z0f U (z0f U z0t)) U U λa h=>z0e 10 U ?_);refine z0v h U D U x7z λw7 b2 q7 hz a h=>?_;have z7:=q7.size;replace Z:=Z.fr q7;replace I:=I.fr q7;replace a1:=a1.fr q7 (by intro k hk;simp at hk;omega);replace b0:=b0.fr q7 (by intro k hk;simp at hk;omega);clear D hz;have D:Blk w7 g6 _ [_,_]:=b2;clear b2;refine z1h (z0r ?_);clear hC a9 b3 O a0 a3;exact bk (h.sub (L':=[(6,_)]) (.cons U .nil)) (tn (rt (tr (rC results180 U D z6k  (⟨_,rfl,⟨⟨(some ⟨d0,0,none⟩,a5.length,a5.length),(some ⟨d1,0,none⟩,a6.length,a6.length),a5,a6⟩,rfl,⟨a1.low oo,b0.low oo⟩,by rw[<-k4b q.p n s oo,<-b6,<-b7]⟩,(q1.z6 q2 q3 q4 q5 q6 q7)⟩)))));refine sk (tn (sq ?_));replace hB:=b5.ext (q1.n2 q2 q3);replace hu:=c9.ext (q1.n2 q2 q3);intro a h;refine z0h (some 10) (λwb w'=>Fr [] wb w') z2y ?_;intro w8 q8;have z8:=q8.size;replace hB:=hB.ext q8;replace hu:=hu.ext q8;replace Z:=Z.ext (q2.n2 q3 q8);replace I:=I.ext q8;replace D:=D.ext q8;have hC:Fr [] w8 w8:=Fr.refl _ _;have a9:=hB;have b3:=hu;have O:=Z;have a0:=I;have a3:=D;refine z0c 0 h U x0l U λa h=>z0j 1 h U (λ_ hw=>O.ext hw) U v1z U λa h=>z0c 3 h U y4s U λa h=>z0j 4 h U (λ_ hw=>O.ext hw) U v1z U λa h=>z0c 5 h U z9j U λa h=>z0j 6 h U (λ_ hw=>a0.ext hw) U na3 U λa h=>z0d 7 h U λa h=>z0e 2 U (z0n h (z0a U (z0a U (z0a U z0g))) (mkC func219) (v1v _ _ q.fs 0 [] _ hB.f hB.fi (Sl.nil _) oo oo h4 (Nat.zero_le _)) ?_);rintro _ w9 ⟨⟨a7,a2,b8,d3,rfl⟩,q9⟩ a h;have z9:=q9.size;replace hB:=hB.ext q9;replace hu:=hu.ext q9;replace hC:=hC.next q9;refine z0b (z0e 8 U (z0n h (z0a U (z0a U (z0a U z0g))) (mkC func219) (v1v _ _ q.bs n s _ hB.b hB.bi hu oo oo b4 c1) ?_));rintro _ e2 ⟨⟨a8,b1,b9,d4,rfl⟩,q10⟩ a h;have e3:=q10.size;replace Z:=Z.ext (q9.n1 q10);replace I:=I.ext (q9.n1 q10);replace D:=D.ext (q9.n1 q10);replace a2:=a2.ext q10;replace hC:=hC.next q10;refine z0b (z3m (cs:=[_,_]) 9 h (z0a U (z0a U z0g)) j6g (z0f U (z0f U z0t)) U U λa h=>z0e 10 U ?_);refine z0v h U D U x7z λd5 b2 a4 hz a h=>?_;have e4:=a4.size;replace Z:=Z.fr a4;replace I:=I.fr a4;replace a2:=a2.fr a4 (by intro k hk;simp at hk;omega);replace b1:=b1.fr a4 (by intro k hk;simp at hk;omega);clear D hz;have D:Blk d5 g6 _ [_,_]:=b2;clear b2;refine z1h (z0r ?_);clear hC a9 b3 O a0 a3;exact bk (h.sub (L':=[(6,_)]) (.cons U .nil)) (tn (rt (rC results180 U D z6k  (⟨_,rfl,⟨⟨(some ⟨d3,0,none⟩,a7.length,a7.length),(some ⟨d4,0,none⟩,a8.length,a8.length),a7,a8⟩,rfl,⟨a2.low oo,b1.low oo⟩,by rw[<-k5r q.p n s oo,<-b8,<-b9]⟩,(q1.z6 q2 q3 q8 q9 q10 a4)⟩))))
theorem x4d (q:BdQ)(b p:Int)(w0:World)(hB:BdAt w0 q)(hp:-9223372036854775808<=p/\p<=9223372036854775807)(hf:q.fs.length<=40)(hb:q.bs.length<=40)(h4:y0w q.fs)(a6:y0w q.bs):Rets prog 39 #[.agg #[.slice q.f.1 q.f.2.1 q.f.2.2,.slice q.b.1 q.b.2.1 q.b.2.2],.agg #[.int .u8 b,.int .i64 p]] w0 λr w'=>Lw.Own z1j 54 w0.heap.size w' r (q.p.atC b p)/\Fr [] w0 w':=by
 refine we [(0,.agg #[.slice q.f.1 q.f.2.1 q.f.2.2,.slice q.b.1 q.b.2.1 q.b.2.2]),(1,.agg #[.int .u8 b,.int .i64 p])] func39 U ntmps39 U (.c2 U U) ?_;have a0:=hB;refine sr (bx U (λg2 w1 a8 O q1 z1=>(bx U (λg3 w2 a9 D q2 z2=>(asg U (nn (sq (sr (z0m U D z8c (cl (ev1 U) u5t (z5i _ _ _) U ?_))))))))));rintro _ w3 ⟨rfl,Z⟩;have z3:=Z.size;refine ne' U (nn (cd U (λc0=>?_) (λc0=>?_)));exact sr (asg U (nn (rt (tr (r1 results39 U ⟨_,rfl,by unfold Bd.atC;rw[if_neg c0];exact Own.nil _,(q1.n2 q2 Z)⟩)))));refine sk (tn (sr (fad U x0l ?_)));replace O:=O.ext (q2.n1 Z);refine z0i U O U v1z (asg U (nn (jn (ι:=Unit) [(3,_)] (λ_j=>[(5,.slice (q.sv b).1 (q.sv b).2.1 (q.sv b).2.2)]) (λ_j w'=>Fr [] w3 w') (.cons U .nil) ?_ ?_)));refine sr (fad U z9i ?_);replace D:=D.ext Z;refine z0i U D U v0a (eq' U (nn (cd U (λc1=>?_) (λc1=>?_))));exact rg (fad U y4s (z0i U O U v1z (asg U (nl (jE (()) (.c2 U (by first|(rw[show q.sv b=q.b from if_pos c1];rfl)|(rw[show q.sv b=q.f from if_neg c1];rfl))) (Fr.refl _ _))))));exact sk (jE (()) (.c2 U (by first|(rw[show q.sv b=q.b from if_pos c1];rfl)|(rw[show q.sv b=q.f from if_neg c1];rfl))) (Fr.refl _ _));rintro _j w4 q4;have z4:=q4.size;refine kpC [(3,_),(5,_)] (.c2 U U) ?_;have b1:=z2g (a0.sel b).1;have b0:(q.l b).length<=40:=by unfold BdQ.l;split<;>assumption
 have a2:y0w (q.l b):=by unfold BdQ.l;split<;>assumption
 have I:z4g b p=0:=Classical.not_not.1 c0;have a7:=z3n I;refine sq (sr (fad U z9j ?_));replace D:=D.ext (Z.n1 q4);refine z0i U D U na3 (mv U (lnS U underlying35 (gt' U (nn (cd U (λc2=>?_) (λc2=>?_))))));exact sr (asg U (nn (rt (tr (r1 results39 U ⟨_,rfl,by unfold Bd.atC;rw[if_pos I,<-q.at_l I,v2n oo];exact Own.nil _,(q1.n3 q2 Z q4)⟩)))));refine sk (tn (sr (mv U (fad U z9j (z0i U D U na3 (z1u U (wi6 oo) ?_))))));replace hB:=a0.ext (q1.n3 q2 Z q4);refine z0x (iq0) U (hB.sel b).1 U y2h z1m (λa3 a1=>?_);refine z1a U (a1 _ (hB.sel b).1) z8o (cl (ev1 U) (mkC func98) (x2z _ ((q.l b).getD (p-1).toNat iq0).2 _ (z1p (hB.sel b).2 _) (by have:=z4e a2 (p-1).toNat;omega)) U ?_);rintro _ w5 ⟨a5,rfl,a4,hX,q5⟩;have z5:=q5.size;exact asg U (kpL [(4,_)] (.cons U .nil) (nn (rt (r1 results39 U ⟨_,rfl,by unfold Bd.atC;rw[if_pos I,<-q.at_l I];exact hX.low oo,(q1.n4 q2 Z q4 q5)⟩))))
end Go.Proofs.YtagnnbcnnmacmaaGreatDoor
namespace Go.Lw
open Go.RowKit
section
variable {P:Program} {n N:Nat} {ro:Option Nat} {L:List (Nat×Value)} {ds:List Nat} {w w':World} {Q:Exit->Act->World->Prop}
def KeepN (Ts B:List Nat)(b:Nat)(W W':World):Prop:=KeepT Ts B W W'/\KeepsFrom b W W'
theorem KeepsFrom.low {b b':Nat}(h:KeepsFrom b w w')(hb:b<=b'):KeepsFrom b' w w':=⟨h.size,λk o D=>h.same k o (Nat.le_trans hb D)⟩
theorem KeepN.trans {I B:List Nat}{b:Nat}{D:World}(h:KeepN I B b w w')(k:KeepN I B b w' D):KeepN I B b w D:=⟨h.1.trans k.1,h.2.trans k.2⟩
theorem KeepN.low {D B:List Nat}{b b':Nat}(h:KeepN D B b w w')(hb:b<=b'):KeepN D B b' w w':=⟨h.1,KeepsFrom.low h.2 hb⟩
theorem KeepN.refl {D B:List Nat}{b:Nat}:KeepN D B b w w:=⟨⟨λ_ _=>rfl,λ_ _ _ _ _ I=>I⟩,⟨Nat.le_refl _,λ_ _ _ h _=>h⟩⟩
def j7g {α:Type}(n:Nat)(P:Program)(g:Nat)(lb:Array Value)(encs:α->Array Value)(Kp:World->World->Prop)(S Sp Pf:List α->Prop)(M:Nat)(w:World):Prop:=
  ∀(l:Nat) (J Jx:List α->World->Prop) (W:World),Below w.heap.size w W->w.heap.size+2<=W.heap.size->(∀s A B,Turn W.heap.size A B->J s A->J s B)->(∀s A B,Turn W.heap.size A B->Jx s A->Jx s B)->
    (∀pre x W1,J pre W1->pre.length<M->Pf (pre++[x])->YieldAt (Fo none) (n-1) P l (encs x) W1 λe W'=>(e=.returned (.bool true)/\J (pre++[x]) W'/\Kp W1 W')\/(e=.returned (.bool false)/\Jx (pre++[x]) W'/\KeepsFrom (w.heap.size+2) W1 W'))->J [] W->
    CallsIn (Fo none) n P g (#[.func (.yield l) #[] #[]]++lb) W λe W'=>(∃v,e=.returned v)/\((∃xs,S xs/\J xs W')\/(∃pre,Sp pre/\Jx pre W'))
theorem Turn.of_fr {n0:Nat}(hf:Fr [] w w'):Turn n0 w w':=⟨none,⟨hf.os,hf.tape,hf.output,hf.size,λk D _=>hf.block k D sp0⟩,λr e=>by cases e⟩
theorem Turn.low {n0 n1:Nat}(h:Turn n0 w w')(hn:n1<=n0):Turn n1 w w':=let ⟨row,hg,hr⟩:=h;⟨row,hg,λr e=>let ⟨a,b⟩:=hr r e;⟨Nat.le_trans hn a,b⟩⟩
theorem Turn.put {n0 l:Nat}{o:Obj}(o':Obj)(hn:n0<=l)(hl:w.heap[l]?=some o)(D:o.isCells=false):Turn n0 w (w.putObj l o'):=⟨some l,grownBy_putObj' w l o',λr e=>by cases e;exact⟨hn,o,hl,D⟩⟩
theorem weIM {f:FuncId}{fn:Func}{c:Code}{args:Array Value}{R:Ending->World->Prop}(L:List (Nat×Value))(hf:P.funcs[f]?=some fn)(hb:fn.body=some c)(hn:fn.ntmps=n)(I:Nat.ble args.size n=true)(D:argsOk args L)
    (h:CWi none N P (bodyPostM (Fo none) N P fn R) c n [] w L):CallsIn (Fo none) N P f args w R:=by
  have O:args.size<=n:=by simpa[Nat.ble_eq] using I
  refine callsIn_of_wp_marks hf hb trivial (h _ ⟨rfl,by simp[hn];omega,λt v hv=>?_⟩)
  have:=argsOk.look D hv
  simp only[Array.getD_eq_getD_getElem?,Array.getElem?_append]
  have Z:t<args.size:=by
    rcases Nat.lt_or_ge t args.size with h|h
    · exact h
    · rw[Array.getElem?_eq_none h]at this;cases this
  rw[if_pos Z,this];rfl
theorem j8h {α:Type}{g:Operand}{ps:Array Tmp}{assign body:Code}{gf:Nat}{lb:Array Value}(hg:ev L g=some (.func (.func gf) #[] lb))(eg:CallOf P gf)
    {encs:α->Array Value} {Ts B:List Nat} {S Sp Pf:List α->Prop} {M:Nat} (hN:1<=N) (hseq:j7g (N-1) P gf lb encs (KeepN Ts B (w.heap.size+2)) S Sp Pf M w) (hB:∀b∈B,b<w.heap.size)
    (hps:∀x,(encs x).size=ps.size) (Lq:α->List (Nat×Value)) (hLq:∀x,(ps.zip (encs x)).toList.reverse=Lq x) (hpn:∀x,(Lq x).all (λp=>Nat.blt p.1 n)=true)
    (I Ir:List α->World->Prop) (hI:∀s W W',Turn w.heap.size W W'->I s W->I s W') (hIr:∀s W W',Turn w.heap.size W W'->Ir s W->Ir s W') (h0:I [] w)
    (Ax:α->Act->World->Prop) (hAx:∀x a' W W',Turn w.heap.size W W'->Ax x a' W->Ax x a' W')
    (hassign:∀(l:Nat) (Z:List α) (x:α) (W:World),I Z W->CWi (some l) (N-1-1) P (Exit.then (λa' W'=>Ax x a' W'/\Fr [] W W') (λ_ _ _=>False)) assign n [] W (Lq x++L))
    (hbody:∀(l:Nat) (Z:List α) (x:α) (a':Act) (W:World),w.heap.size<=l->Ax x a' W->I Z W->Z.length<M->Pf (Z++[x])->body.wpIn (Fo (some l)) (N-1-1) P (ownPostG w.heap.size (KeepT Ts B) I (λc s W=>c=.ret/\Ir s W) (Z++[x]) W) a' W)
    (hdone:∀(D:Nat) (xs:List α) (W:World),w.heap.size<=D->S xs->I xs W->DefAt D W->EW Q .normal n (D::ds) W L)
    (hstop:∀(D:Nat) (Z:List α) (W:World),w.heap.size<=D->Sp Z->Ir Z W->DefAt D W->EW Q .ret n (D::ds) W L):CWi none N P Q (.rangeFunc g ps assign body) n ds w L:=by
  intro a h
  obtain⟨D,hD⟩:∃D,D=w.heap.size:=⟨_,rfl⟩
  have b6:AgM (D::ds) { a with defers:={ target:=.collected D,args:=#[] }::a.defers } n L:=⟨by simp[h.dfr,mark],h.size,h.at_⟩
  refine wpIn_rangeFunc λfn c9=>?_
  obtain⟨a0,O⟩:∃a0:LoopState->Option Code->Loop,a0=λst pe=>{ state:=st,pending:=pe,fn,tmps:=a.tmps,params:=ps,assign,body,defers:=D }:=⟨_,rfl⟩
  obtain⟨W1,a5⟩:∃W1,W1=(w.alloc (.deferred (some []))).alloc (.loop (a0 .ready none)):=⟨_,rfl⟩
  -- the two blocks of the book-keeping,in a world
  let Bk:LoopState->Option Code->World->Prop:=λst pe W=>W.heap[D+1]?=some (.loop (a0 st pe))/\DefAt D W
  have z1:W1.heap.size=D+2:=by rw[a5,World.size_alloc,World.size_alloc,hD]
  have b3:Bk .ready none W1:=by
    refine⟨?_,?_⟩
    · rw[a5];have:=World.alloc_heap_new (w.alloc (.deferred (some []))) (.loop (a0 .ready none));rwa [World.size_alloc,<-hD]at this
    · rw[a5,hD];exact(Below.heap_alloc _ _ _ sp0).trans (World.alloc_heap_new w _)
  have b2:Below w.heap.size w W1:=by rw[a5];exact((Below.refl _ w).alloc (Nat.le_refl _) _).alloc sp0 _
  have c1:Fr [] w W1:=Fr.of_below' b2 (Nat.le_refl _)
  have b0:∀ {st pe A B},Turn (D+2) A B->Bk st pe A->Bk st pe B:=λht hb=>⟨ht.at hb.1 (.inr oo),ht.at hb.2 (.inr oo)⟩
  have a8:∀ {st pe b8 b7 A},Bk st pe A->Bk b8 b7 (A.putObj (D+1) (.loop (a0 b8 b7))):=λhb=>⟨World.putObj_heap_same (Array.getElem?_eq_some_iff.1 hb.1).1,(World.putObj_heap_other oo).trans hb.2⟩
  have a4:∀ {st pe A} (o':Obj),Bk st pe A->Turn w.heap.size A (A.putObj (D+1) o'):=λo' hb=>Turn.put o' oo hb.1 U
  have a7:∀ {st pe A} (o':Obj),Bk st pe A->KeepN Ts B (w.heap.size+2) A (A.putObj (D+1) o'):=λo' hb=>⟨KeepT.put hb.1 U (λb hb=>by have:=hB b hb;omega),⟨(grownBy_putObj' _ _ _).size,λk o hk ho _=>(World.putObj_heap_other oo).trans ho⟩⟩
  refine⟨D+1,[{ target:=.collected D,args:=#[] }],W1,{ target:=.fn (.func gf) lb,args:=#[.func (.yield (D+1)) #[] #[]] },W1,gf,#[.func (.yield (D+1)) #[] #[]]++lb,W1,?_,?_,?_,?_,λ_=>hN,?_⟩
  · rw[a5,O,hD];exact run_enterLoop_outer _ _ _ _ _
  · simp only[resolve,h.eval hg];simp[go_sem]
  · intro f' _;trivial
  · have he:=eg (#[.func (.yield (D+1)) #[] #[]]++lb) W1
    simpa[invoke,go_sem] using he
  refine(hseq (D+1) (λs W=>I s W/\Bk .ready none W) (λs W=>Ir s W/\Bk .done (some .ret) W) W1 b2 oo (λs A B ht hs=>⟨hI s A B (ht.low oo) hs.1,b0 (z1▸ht) hs.2⟩) (λs A B ht hs=>⟨hIr s A B (ht.low oo) hs.1,b0 (z1▸ht) hs.2⟩) ?_ ⟨hI _ _ _ (Turn.of_fr c1) h0,b3⟩).mono ?_
  · rintro Z x W ⟨hi,hb⟩ b5 d3
    have hy:=run_yield (P:=P) (args:=encs x) hb.1 (by rw[O];exact hps x)
    rw[O]at hy
    refine⟨fn,_,assign,body,hy,roundIn_of_wpIn c9 (wpIn_mono (Q:=Exit.then (λa' W'=>Ax x a' W'/\Fr [] W W') (λ_ _ _=>False)) ?_ ?_)⟩
    · have hp:=x6d h (ps.zip (encs x)).toList (by have:=hpn x;rw[<-hLq,List.all_reverse]at this;exact this)
      rw[hLq]at hp
      have e:({ tmps:=(ps.zip (encs x)).foldl (λt (p:Nat×Value)=>t.setIfInBounds p.1 p.2) a.tmps,defers:=[] }:Act)={ tmps:=(ps.zip (encs x)).toList.foldl (λt p=>t.setIfInBounds p.1 p.2) a.tmps,defers:=[] }:=by
        rw[<-Array.foldl_toList]
      exact hassign _ Z x W hi _ (by rw[<-e]at hp;exact hp)
    · clear hy
      rintro e a' W2 he
      cases e with
      | normal=>
        obtain⟨b9,hf⟩:=he
        have d0:=hI _ _ _ (Turn.of_fr hf) hi
        have a2:Bk .ready none W2:=⟨(hf.block _ (Array.getElem?_eq_some_iff.1 hb.1).1 sp0).trans hb.1,hb.2.ext hf⟩
        have b4:KeepN Ts B (w.heap.size+2) W W2:=⟨KeepT.ext hf (λb h=>by
          have:=hB b h
          have:=(Array.getElem?_eq_some_iff.1 hb.1).1;omega),⟨hf.size,λk o _ ho _=>(hf.block k (Array.getElem?_eq_some_iff.1 ho).1 sp0).trans ho⟩⟩
        have c0:(Instr.beginRound (D+1)).run P W2=.ok () (W2.putObj (D+1) (.loop (a0 .busy none))):=by
          have:=run_beginRound (P:=P) a2.1 (by rw[O])
          rw[O]at this ⊢;exact this
        refine⟨_,c0,wpIn_mono (hbody (D+1) Z x a' _ oo (hAx _ _ _ _ (a4 _ a2) b9) (hI _ _ _ (a4 _ a2) d0) b5 d3) ?_⟩
        have b1:Bk .busy none (W2.putObj (D+1) (.loop (a0 .busy none))):=a8 a2
        have keep:∀ {W3:World},KeepsFrom w.heap.size (W2.putObj (D+1) (.loop (a0 .busy none))) W3->Bk .busy none W3:=λhk=>⟨hk.same _ _ oo b1.1 U,hk.same _ _ oo b1.2 U⟩
        rintro e a3 W3 hp
        cases e with
        | normal=>
          obtain⟨a6,d1,a9⟩:=hp
          have a1:=keep a6
          have hr:(Instr.endRound (D+1) none).run P W3=.ok (.bool true) (W3.putObj (D+1) (.loop (a0 .ready none))):=by
            have:=run_endRound (P:=P) none a1.1
            rw[O]at this ⊢;exact this
          exact⟨_,_,hr,.inl ⟨rfl,⟨hI _ _ _ (a4 _ a1) a9,a8 a1⟩,(b4.trans (a7 _ a2)).trans (KeepN.trans ⟨d1,KeepsFrom.low a6 oo⟩ (a7 _ a1))⟩⟩
        | ret=>
          obtain⟨a6,_,a9⟩:=hp
          have a1:=keep a6
          have hr:(Instr.endRound (D+1) (some .ret)).run P W3=.ok (.bool false) (W3.putObj (D+1) (.loop (a0 .done (some .ret)))):=by
            have:=run_endRound (P:=P) (some .ret) a1.1
            rw[O]at this ⊢;exact this
          exact⟨_,_,hr,.inr ⟨rfl,⟨hIr _ _ _ (a4 _ a1) a9,a8 a1⟩,(b4.2.trans (a7 _ a2).2).trans ((KeepsFrom.low a6 oo).trans (a7 _ a1).2)⟩⟩
        | exit id=>exact absurd hp.2.1 sp0
        | goto t=>exact absurd hp.2.1 sp0
        | panic ch=>exact hp.elim
        | outgrown=>exact hp.elim
      | _=>exact he.elim
  · rintro e W2 ⟨⟨v,rfl⟩,(⟨xs,hS,hi,hb⟩|⟨Z,hS,hi,hb⟩)⟩
    · have hr:=run_endLoop (P:=P) hb.1 (by rw[O];simp)
      rw[O]at hr
      exact⟨none,_,hr,hdone D xs _ oo hS (hI _ _ _ (a4 _ hb) hi) ((World.putObj_heap_other oo).trans hb.2) _ b6⟩
    · have hr:=run_endLoop (P:=P) hb.1 (by rw[O];simp)
      rw[O]at hr
      exact⟨some .ret,_,hr,wpIn_ret (hstop D Z _ oo hS (hIr _ _ _ (a4 _ hb) hi) ((World.putObj_heap_other oo).trans hb.2) _ b6)⟩
theorem v5x {α:Type}{g:Operand}{ps:Array Tmp}{Z a0:Code}{gf:Nat}{lb:Array Value}(hg:ev L g=some (.func (.func gf) #[] lb))(eg:CallOf P gf)
    {encs:α->Array Value} {Ts B:List Nat} {S Sp Pf:List α->Prop} {M:Nat} (hN:1<=N) (hseq:j7g (N-1) P gf lb encs (KeepN Ts B (w.heap.size+2)) S Sp Pf M w) (hB:∀b∈B,b<w.heap.size)
    (hps:∀x,(encs x).size=ps.size) (Lq:α->List (Nat×Value)) (hLq:∀x,(ps.zip (encs x)).toList.reverse=Lq x) (hpn:∀x,(Lq x).all (λp=>Nat.blt p.1 n)=true)
    (I Ir:List α->World->Prop) (hI:∀s W W',Turn w.heap.size W W'->I s W->I s W') (hIr:∀s W W',Turn w.heap.size W W'->Ir s W->Ir s W') (h0:I [] w)
    (Lx:α->List (Nat×Value)) (K:List (Nat×Value)) (_hK:Sub K L)
    (hassign:∀(l:Nat) (O:List α) (x:α) (W:World),I O W->CWi (some l) (N-1-1) P (Exit.then (AsU n W (Lx x++K)) (λ_ _ _=>False)) Z n [] W (Lq x++L))
    (hbody:∀(l:Nat) (O:List α) (x:α) (W:World),w.heap.size<=l->I O W->O.length<M->Pf (O++[x])->CWi (some l) (N-1-1) P (ownPostG w.heap.size (KeepT Ts B) I (λc s W=>c=.ret/\Ir s W) (O++[x]) W) a0 n [] W (Lx x++K))
    (hdone:∀(D:Nat) (xs:List α) (W:World),w.heap.size<=D->S xs->I xs W->DefAt D W->EW Q .normal n (D::ds) W L)
    (hstop:∀(D:Nat) (O:List α) (W:World),w.heap.size<=D->Sp O->Ir O W->DefAt D W->EW Q .ret n (D::ds) W L):CWi none N P Q (.rangeFunc g ps Z a0) n ds w L:=
  j8h hg eg hN hseq hB hps Lq hLq hpn I Ir hI hIr h0 (λx a' _=>AgM [] a' n (Lx x++K)) (λ_ _ _ _ _ h=>h)
    (λl O x W hi a ha=>wpIn_mono (hassign l O x W hi a ha) (λe a' W' he=>by
      cases e with
      | normal=>obtain⟨h1,rfl⟩:=he;exact⟨h1,Fr.refl _ _⟩
      | _=>exact he.elim)) (λl O x a' W hl hx hi hm hp=>hbody l O x W hl hi hm hp a' hx) hdone hstop
theorem k2q {α:Type}{g:Operand}{ps:Array Tmp}{Z a0:Code}{gf:Nat}{lb:Array Value}(hg:ev L g=some (.func (.func gf) #[] lb))(eg:CallOf P gf)
    {encs:α->Array Value} {Ts B:List Nat} {S Sp Pf:List α->Prop} {M:Nat} (hN:1<=N) (hseq:j7g (N-1) P gf lb encs (KeepN Ts B (w.heap.size+2)) S Sp Pf M w) (hB:∀b∈B,b<w.heap.size)
    (hps:∀x,(encs x).size=ps.size) (Lq:α->List (Nat×Value)) (hLq:∀x,(ps.zip (encs x)).toList.reverse=Lq x) (hpn:∀x,(Lq x).all (λp=>Nat.blt p.1 n)=true)
    (I Ir:List α->World->Prop) (hI:∀s W W',Turn w.heap.size W W'->I s W->I s W') (hIr:∀s W W',Turn w.heap.size W W'->Ir s W->Ir s W') (hBI:∀s W,I s W->w.heap.size<=W.heap.size) (h0:I [] w)
    (T:TypeId) (E1:α->List Value) (Lx:Nat->α->List (Nat×Value)) (K:List (Nat×Value)) (_hK:Sub K L)
    (hassign:∀(l:Nat) (O:List α) (x:α) (W:World),I O W->w.heap.size<=W.heap.size->CWi (some l) (N-1-1) P (Exit.then (AsK n w.heap.size W T (E1 x) (λg=>Lx g x++K)) (λ_ _ _=>False)) Z n [] W (Lq x++L))
    (hbody:∀(l:Nat) (O:List α) (x:α) (g:Nat) (W:World),w.heap.size<=l->w.heap.size<=g->Blk W g T (E1 x)->I O W->O.length<M->Pf (O++[x])->CWi (some l) (N-1-1) P (ownPostG w.heap.size (KeepT Ts B) I (λc s W=>c=.ret/\Ir s W) (O++[x]) W) a0 n [] W (Lx g x++K))
    (hdone:∀(D:Nat) (xs:List α) (W:World),w.heap.size<=D->S xs->I xs W->DefAt D W->EW Q .normal n (D::ds) W L)
    (hstop:∀(D:Nat) (O:List α) (W:World),w.heap.size<=D->Sp O->Ir O W->DefAt D W->EW Q .ret n (D::ds) W L):CWi none N P Q (.rangeFunc g ps Z a0) n ds w L:=
  j8h hg eg hN hseq hB hps Lq hLq hpn I Ir hI hIr h0 (λx a' W=>∃g,w.heap.size<=g/\AgM [] a' n (Lx g x++K)/\Blk W g T (E1 x)) (λx a' W W' ht ⟨g,h1,h2,h3⟩=>⟨g,h1,h2,h3.turn ht⟩)
    (λl O x W hi a ha=>wpIn_mono (hassign l O x W hi (hBI _ _ hi) a ha) (λe a' W' he=>by
      cases e with
      | normal=>obtain⟨g,h1,h2,h3,hf⟩:=he;exact⟨⟨g,h1,h2,h3⟩,hf⟩
      | _=>exact he.elim)) (λl O x a' W hl ⟨g,h1,h2,h3⟩ hi hm hp=>hbody l O x g W hl h1 h3 hi hm hp a' h2) hdone hstop
theorem j6f {α:Type}{B0:Nat}{Ts B S:List Nat}{I:List α->World->Prop}{Ix:Code->List α->World->Prop}{xs:List α}{W:World}(hf:Fr S W w)(hS:∀k∈S,k<W.heap.size->(∃cs T f,W.heap[k]?=some (.cells cs T f)/\T∉Ts)\/(k<B0/\z9e W k))(hB:∀b∈B,b<W.heap.size)(hd:∀b∈B,b∉S)(hI:I xs w):EW (ownPostG B0 (KeepT Ts B) I Ix xs W) .normal n ds w L:=
 λ_ _=>⟨⟨hf.size,λk o hk Z O=>(hf.block k (Array.getElem?_eq_some_iff.1 Z).1 (λe=>by
  rcases hS k e (Array.getElem?_eq_some_iff.1 Z).1 with ⟨cs,T,f,D,_⟩|⟨D,_⟩
  ·rw[Z]at D;cases D;cases O
  ·omega)).trans Z⟩,⟨Keep.fr hf hB hd,λb cs T f hT O=>(hf.block b (Array.getElem?_eq_some_iff.1 O).1 (λe=>by
  rcases hS b e (Array.getElem?_eq_some_iff.1 O).1 with ⟨a0,T',f',D,h2⟩|⟨_,o,D,h2⟩
  ·rw[O]at D;cases D;exact h2 hT
  rw[O]at D;cases D;cases h2)).trans O⟩,hI⟩
theorem rndR {α:Type}{Z:Nat}{Kp:World->World->Prop}{S:List Nat}{I Ir:List α->World->Prop}{xs:List α}{W:World}(hf:Fr S W w)(hS:∀k∈S,k<W.heap.size->(∃cs T f,W.heap[k]?=some (.cells cs T f))\/k<Z)(hI:Ir xs w):EW (ownPostG Z Kp I (λc s W=>c=.ret/\Ir s W) xs W) .ret n ds w L:=
 λ_ _=>⟨⟨hf.size,λk o hk D hc=>(hf.block k (Array.getElem?_eq_some_iff.1 D).1 (λe=>by
  rcases hS k e (Array.getElem?_eq_some_iff.1 D).1 with ⟨cs,T,f,O⟩|O
  ·rw[D]at O;cases O;cases hc
  omega)).trans D⟩,rfl,hI⟩
theorem rndK {α:Type}{D:Nat}{O:World->World->Prop}{I:List α->World->Prop}{Ix:Code->List α->World->Prop}{xs:List α}{W:World}(h1:KeepsFrom D W w)(Z:O W w)(h3:I xs w):EW (ownPostG D O I Ix xs W) .normal n ds w L:=λ_ _=>⟨h1,Z,h3⟩
theorem rndX {α:Type}{D:Nat}{Z:World->World->Prop}{I O:List α->World->Prop}{xs:List α}{W:World}(h1:KeepsFrom D W w)(h3:O xs w):EW (ownPostG D Z I (λc s W=>c=.ret/\O s W) xs W) .ret n ds w L:=λ_ _=>⟨h1,rfl,h3⟩
theorem Turn.of_mark {n0 D:Nat}(hf:Fr [D] w w')(I:DefAt D w)(hn:n0<=D):Turn n0 w w':=⟨some D,⟨hf.os,hf.tape,hf.output,hf.size,λk O hn=>hf.block k O (by simpa using hn)⟩,λr e=>by cases e;exact⟨hn,_,I,rfl⟩⟩
def YKr (r:Option Nat)(P:Program)(n:Nat)(ds:List Nat)(ops:Array Oper)(rest:List Oper)(Q:Exit->Act->World->Prop)(d:Nat)(y:Operand)(xs:List Operand):Act->World->Prop:=λa w=>
  ∃(L:List (Nat×Value)) (vs:List Value) (y1:Nat) (Φ:Value->World->Prop),AgM ds a n L/\ev L y=some (.func (.yield y1) #[] #[])/\evs L xs vs/\YieldAt (Fo r) 0 P y1 vs.toArray w (λe w'=>∃v,e=.returned v/\Φ v w')/\Nat.blt d n=true/\
    ∀v w',Φ v w'->WL P ops (z0l (Q .normal)) rest n ds w' ((d,v)::L)
theorem k5u {id:Nat}{l:List Oper}(k:Nat){d:Nat}{y:Operand}{xs:List Operand}{ts:Array TypeId}{ty:TypeId}{pos:String}{after:Array Edge}
    (hl:l=l.take k++⟨some d,.call ⟨.value y,xs.toArray,ts⟩,ty,pos,after,none⟩::l.drop (k+1)) (hd1:(l.take k).all Oper.noDefer=true) (hd2:(l.drop (k+1)).all Oper.noDefer=true) (hnf:∀g,y≠.func g)
    (h1:WL P l.toArray (z0l (YKr ro P n ds l.toArray (l.drop (k+1)) Q d y xs)) (l.take k) n ds w L):CWi ro N P Q (.region id l.toArray false) n ds w L:=by
  intro a ha
  refine wpIn_region_lit ?_
  have a0:wpListIn (Fo ro) N P l.toArray Q (l.take k++⟨some d,.call ⟨.value y,xs.toArray,ts⟩,ty,pos,after,none⟩::l.drop (k+1)) a w:=by
    refine y1u _ ?_ _ a w hd1 (h1 a ha)
    rintro a w ⟨L,vs,y1,Φ,h,hy,hx,⟨fn,tm,D,bd,I,O,Z⟩,hn,hk⟩
    have hR:RoundIn (Fo ro) (N-1) P y1 fn tm D bd w (λe w'=>∃v,e=.returned v/\Φ v w'):=⟨O,λc cs _=>Z c cs (λd hd=>by cases hd)⟩
    unfold wpListIn
    rw[if_pos (by simp[Region.wanted])]
    refine⟨λ_ _=>trivial,?_⟩
    have e:(Oper.semAt (Fo ro).round a.eval ⟨some d,.call ⟨.value y,xs.toArray,ts⟩,ty,pos,after,none⟩).run P w=.ok (.round y1 fn tm D bd) w:=by
      rw[u1n (by rfl)]
      simp only[execOp,resolve,h.eval hy,Deferred.ofValue,Sem.run_bind,Sem.run_pure,Result.andThen_ok,invoke,List.map_toArray,h.evals hx,List.append_toArray]
      simpa using I
    rw[e]
    refine⟨λe=>by simp[Fo,Fence.wide]at e,hR.mono ?_⟩
    rintro e w' ⟨v,rfl,hv⟩
    have:=y1u (r:=ro) (N:=N) (Q:=Q) (ops:=l.toArray) [] (λa w h=>wpListIn_nil h) (l.drop (k+1)) (a.put (some d) v) w' hd2 (hk v w' hv _ (h.put hn v))
    rwa [List.append_nil]at this
  rwa [<-hl]at a0
theorem k5j {d:Nat}{y:Operand}{xs:List Operand}{vs:List Value}{D:Nat}{Φ:Value->World->Prop}{ops:Array Oper}{rest:List Oper}(Z:ev L y=some (.func (.yield D) #[] #[]))(O:evs L xs vs)(I:YieldAt (Fo ro) 0 P D vs.toArray w (λe w'=>∃v,e=.returned v/\Φ v w'))(hn:Nat.blt d n=true)
    (k:∀v w',Φ v w'->WL P ops (z0l (Q .normal)) rest n ds w' ((d,v)::L)) {ops':Array Oper}:WL P ops' (z0l (YKr ro P n ds ops rest Q d y xs)) [] n ds w L:=
  λ_ h=>v7y (Q:=λ_=>YKr ro P n ds ops rest Q d y xs) ⟨L,vs,D,Φ,h,Z,O,I,hn,k⟩
theorem k3r {α:Type}{l m:Nat}{J Jx:List α->World->Prop}{I:α->Array Value}{Kp Kx:World->World->Prop}{Pf:List α->Prop}{M:Nat}{D:List α}{x:α}{vs:List Value}(a0:∀D x O,J D O->D.length<M->Pf (D++[x])->YieldAt (Fo none) m P l (I x) O λe W'=>(e=.returned (.bool true)/\J (D++[x]) W'/\Kp O W')\/(e=.returned (.bool false)/\Jx (D++[x]) W'/\Kx O W'))
    (hJ:J D w) (hM:D.length<M) (hp:Pf (D++[x])) (he:vs.toArray=I x):YieldAt (Fo ro) 0 P l vs.toArray w (λe w'=>∃v,e=.returned v/\(v=.bool true/\J (D++[x]) w'/\Kp w w'\/v=.bool false/\Jx (D++[x]) w'/\Kx w w')):=by
  rw[he]
  obtain⟨fn,tm,Z,bd,h1,h2,h3⟩:=a0 D x w hJ hM hp
  refine⟨fn,tm,Z,bd,h1,h2,λc cs _=>?_⟩
  obtain⟨e,w',hr,hc⟩:=h3 c cs (λd hd=>by cases hd)
  refine⟨e,w',?_,hc⟩
  rcases hr with ⟨rfl,h⟩|⟨rfl,h⟩
  · exact⟨_,rfl,.inl ⟨rfl,h⟩⟩
  · exact⟨_,rfl,.inr ⟨rfl,h⟩⟩
theorem u9j {A B C:Nat}(h1:DefAt A w)(I:DefAt B w)(O:DefAt C w):∀D∈[A,B,C],w.heap[D]?=some (.deferred (some [])):=λD h=>by
 simp only[List.mem_cons,List.not_mem_nil,or_false]at h
 rcases h with rfl|rfl|rfl
 ·exact h1
 ·exact I
 exact O
theorem z9f {fn:Func}{R:Ending->World->Prop}{I:Array Value}{v:Value}:∀(ds:List Nat) (w:World),(∀D∈ds,w.heap[D]?=some (.deferred (some [])))->ds.Nodup->(∀w',Fr ds w w'->(results fn I).run P w'=.ok v w')->
    (∀w',Fr ds w w'->R (.returned v) w')->LeavesInM (Fo none) N P fn I R (ds.map mark) .returning w
  | [],w,_,_,hv,k=>⟨v,hv w (Fr.refl _ _),k w (Fr.refl _ _)⟩
  | D::ds,w,hD,hnd,hv,k=>by
    refine⟨sp0,.inl ⟨D,_,rfl,run_takeDeferred (hD D sp0),?_⟩⟩
    rw[List.nodup_cons]at hnd
    have hf:Fr [D] w (w.putObj D (.deferred none)):=⟨rfl,rfl,rfl,sp0,λk _ hk=>World.putObj_heap_other (by simpa using hk)⟩
    refine z9f ds _ (λD' Z=>?_) hnd.2 (λw' O=>hv w' (hf.trans O)) (λw' O=>k w' (hf.trans O))
    rw[World.putObj_heap_other (by rintro rfl;exact hnd.1 Z)];exact hD D' (by simp[Z])
variable {R:Ending->World->Prop} {fn:Func} {p pt q g:Nat} {T:TypeId} {cs:List Value} {v z:Value}
theorem u6d {D:Nat}(hb:Blk w g T cs)(I:w.heap[D]?=some (.deferred (some []))):g≠D:=by
 rintro rfl;rw[show w.heap[g]?=_ from hb]at I;cases I
theorem x5p (hb:Blk w g T cs)(I:∀D∈ds,w.heap[D]?=some (.deferred (some [])))(hf:Fr ds w w'):Blk w' g T cs:=hb.fr hf λh=>u6d hb (I g h) U
theorem rM1c (hr:fn.results=#[.cell p pt])(hp:look L p=some (.pointer (some ⟨g,0,none⟩)))(hb:Blk w g T [v])(hg:z2a P pt)(Z:∀D∈ds,w.heap[D]?=some (.deferred (some [])))(I:ds.Nodup)(k:∀w',Fr ds w w'->R (.returned v) w'):EW (bodyPostM (Fo none) N P fn R) .ret n ds w L:=λa h=>by
 show LeavesInM _ _ _ _ _ _ a.defers _ _
 rw[h.dfr]
 refine z9f ds w Z I (λw' hf=>?_) k
 have O:=h.at_ p _ hp
 simp only[Array.getD_eq_getD_getElem?]at O
 have hc:w'.cell? ⟨g,0,none⟩=some v:=(x5p hb Z hf).cells 0 v U
 simp[results,hr,O,asAddr,loadVar,hg w',hc]
theorem rMCT (hr:fn.results=#[.cell p pt,.tmp q])(hp:look L p=some (.pointer (some ⟨g,0,none⟩)))(hb:Blk w g T cs)(hg:z4i P pt cs.length)(hv:look L q=some v)(hD:∀D∈ds,w.heap[D]?=some (.deferred (some [])))(I:ds.Nodup)(k:∀w',Fr ds w w'->R (.returned (.tuple #[.agg cs.toArray,v])) w'):EW (bodyPostM (Fo none) N P fn R) .ret n ds w L:=λa h=>by
 show LeavesInM _ _ _ _ _ _ a.defers _ _
 rw[h.dfr]
 refine z9f ds w hD I (λw' hf=>?_) k
 have O:=h.at_ p _ hp
 have Z:=h.at_ q _ hv
 simp only[Array.getD_eq_getD_getElem?]at O Z
 simp[results,hr,O,Z,asAddr,loadVar,hg.1 w',hg.2 w',run_loadCells_list w' _ cs (x5p hb hD hf).cells]
end
end Go.Lw
namespace Go.G08
open Go.Lw Go.G21
def bdE (q:BdQ)(x:Bool):Array Value:=#[.int .u8 (if x then 1 else 0),slv (if x then q.b else q.f)]
abbrev BdQ.h (q:BdQ)(x:Bool):SV:=if x then q.b else q.f
abbrev BdQ.r (q:BdQ)(x:Bool):List IQ:=if x then q.bs else q.fs
abbrev y4r (x:Bool):Int:=if x then 1 else 0
def ndE (q:BdQ)(x:Bool×Nat):Array Value:=#[.agg #[.int .u8 (y4r x.1),.int .i64 ((x.2:Int)+1)],slv ((q.r x.1).getD x.2 iq0).1]
def ndR (q:BdQ)(x:Bool)(i:Nat):List (Bool×Nat):=(List.range i).map λk=>(x,k)
def ndP (q:BdQ)(l:List Bool):List (Bool×Nat):=l.flatMap λx=>ndR q x (q.r x).length
theorem v2l (q:BdQ)(x:Bool)(i:Nat):ndR q x (i+1)=ndR q x i++[(x,i)]:=by unfold ndR;rw[List.range_succ,List.map_append];rfl
theorem v7d (q:BdQ)(x:Bool)(i:Nat):(ndR q x i).length=i:=by simp[ndR]
theorem u5y (q:BdQ)(l:List Bool)(x:Bool):ndP q (l++[x])=ndP q l++ndR q x (q.r x).length:=by unfold ndP;simp
theorem v6a (q:BdQ)(hf:q.fs.length<=40)(hb:q.bs.length<=40):∀l:List Bool,(ndP q l).length<=40*l.length
 | []=>by simp[ndP]
 | x::l=>by
  have D:=v6a q hf hb l
  have:(q.r x).length<=40:=by cases x<;>assumption
  have e:ndP q (x::l)=ndR q x (q.r x).length++ndP q l:=rfl
  rw[e,List.length_append,v7d,List.length_cons];omega
theorem k1l {q:BdQ}{l:List Bool}{x:Bool}{i:Nat}(h:l++[x] <+: [false,true])(O:i<(q.r x).length):(ndP q l++ndR q x i)++[(x,i)] <+: ndP q [false,true]:=by
 obtain⟨r,I⟩:=h;have e:ndP q [false,true]=ndP q l++(ndR q x (q.r x).length++ndP q r):=by
  rw[<-I];unfold ndP;simp[List.flatMap_append]
 have D:ndR q x (q.r x).length=ndR q x (i+1)++((List.range' (i+1) ((q.r x).length-(i+1))).map λk=>(x,k)):=by
  unfold ndR;rw[<-List.map_append,List.range_eq_range',List.range_eq_range'];congr 1;have:=List.range'_append (s:=0) (m:=i+1) (n:=(q.r x).length-(i+1)) (step:=1);rw[show i+1+((q.r x).length-(i+1))=(q.r x).length by omega]at this;simpa using this.symm
 rw[e,D,v2l,List.append_assoc,List.append_assoc,List.append_assoc];exact List.prefix_append_right_inj _ |>.2 sp0
def bdB (q:BdQ):List Nat:=slB q.fs.length (slv q.f)++slB q.bs.length (slv q.b)
structure BdS (w:World) (q:BdQ):Prop where
  f:Sl z7g w (slv q.f) q.fs
  b:Sl z7g w (slv q.b) q.bs
theorem BdAt.s {w:World}{q:BdQ}(h:BdAt w q):BdS w q:=⟨h.f,h.b⟩
theorem BdS.ext {w w':World}{q:BdQ}(h:BdS w q)(hf:Fr [] w w'):BdS w' q:=⟨h.f.ext hf,h.b.ext hf⟩
theorem BdS.turn {n:Nat}{w w':World}{q:BdQ}(h:BdS w q)(D:Turn n w w'):BdS w' q:=⟨h.f.turn D,h.b.turn D⟩
theorem BdS.keep {Z:List Nat}{n:Nat}{w w':World}{q:BdQ}(h:BdS w q)(O:KeepN Z (bdB q) n w w'):BdS w' q:=
 ⟨h.f.keep O.1.1 λD k I=>List.mem_append_left _ (v5s D k I),h.b.keep O.1.1 λD k I=>List.mem_append_right _ (v5s D k I)⟩
theorem BdS.lt {w:World}{q:BdQ}(h:BdS w q):∀b∈bdB q,b<w.heap.size:=λb D=>(List.mem_append.1 D).elim (u9e h.f b) (u9e h.b b)
theorem BdS.sel {w:World}{q:BdQ}(h:BdS w q)(x:Bool):Sl z7g w (slv (q.h x)) (q.r x):=by
 cases x;exact h.f;exact h.b
theorem BdS.len {w:World}{q:BdQ}(h:BdS w q)(x:Bool):(q.h x).2.1=(q.r x).length:=z2g (h.sel x)
def ndN (q:BdQ)(s:List (Bool×Nat)):Nat:=(s.map λx=>((q.r x.1).getD x.2 iq0).2.length).sum
theorem u3t (q:BdQ)(s:List (Bool×Nat))(x:Bool×Nat):ndN q (s++[x])=ndN q s+((q.r x.1).getD x.2 iq0).2.length:=by
 unfold ndN;rw[List.map_append,List.sum_append];simp
theorem u9l (q:BdQ)(hf:y0w q.fs)(hb:y0w q.bs):∀s:List (Bool×Nat),ndN q s<=4*s.length
 | []=>by simp[ndN]
 | x::s=>by
  have D:=u9l q hf hb s
  have:((q.r x.1).getD x.2 iq0).2.length<=4:=by
   cases x.1
   ·exact z4e hf _
   exact z4e hb _
  unfold ndN at *
  simp only[List.map_cons,List.sum_cons,List.length_cons];omega
theorem x8t:∀(l:List IQ),((List.range l.length).map λk=>(l.getD k iq0).2.length).sum=(plB l).flatten.length
 | []=>rfl
 | x::l=>by
  have D:=x8t l
  rw[List.length_cons,List.range_succ_eq_map,List.map_cons,List.map_map,List.sum_cons,plB,List.map_cons,List.flatten_cons,List.length_append,<-D]
  rfl
theorem u9w (q:BdQ):ndN q (ndP q [false,true])=q.p.flat.length:=by
 have e:ndP q [false,true]=ndR q false q.fs.length++ndR q true q.bs.length:=by unfold ndP;simp;rfl
 rw[e];unfold ndN ndR;rw[List.map_append,List.sum_append,List.map_map,List.map_map];have D:=x8t q.fs;have I:=x8t q.bs;unfold Bd.flat;rw[List.length_append,<-D,<-I];rfl
def x3q (q:BdQ)(x:Bool)(i:Nat):List LId:=(plB ((q.r x).take i)).flatten
theorem x6o (q:BdQ)(x:Bool){i:Nat}(h:i<(q.r x).length):x3q q x (i+1)=x3q q x i++((q.r x).getD i iq0).2:=by
 unfold x3q plB;rw[List.take_add_one,List.getElem?_eq_getElem h,List.map_append,List.flatten_append,List.getD,List.getElem?_eq_getElem h];simp
theorem u3m (q:BdQ)(x:Bool):x3q q x (q.r x).length=(plB (q.r x)).flatten:=by unfold x3q;rw[List.take_length]
def y7s (q:BdQ)(l:List Bool):List LId:=l.flatMap λx=>(plB (q.r x)).flatten
theorem v8w (q:BdQ)(l:List Bool)(x:Bool):y7s q (l++[x])=y7s q l++(plB (q.r x)).flatten:=by unfold y7s;simp
theorem BdAt.iq {w:World}{q:BdQ}(h:BdAt w q)(x:Bool):IqAt w (q.r x):=by cases x;exact h.fi;exact h.bi
theorem v2x (q:BdQ):y7s q [false,true]=q.p.flat:=by unfold y7s Bd.flat;simp;rfl
theorem k1e {q:BdQ}{l:List Bool}{x:Bool}{i j:Nat}(h:l++[x] <+: [false,true])(hi:i<(q.r x).length)(D:j<((q.r x).getD i iq0).2.length):(y7s q l++x3q q x i++((q.r x).getD i iq0).2.take j)++[((q.r x).getD i iq0).2.getD j id0] <+: q.p.flat:=by
 obtain⟨r,hr⟩:=h
 have e:q.p.flat=y7s q l++(x3q q x i++(((q.r x).getD i iq0).2++((plB ((q.r x).drop (i+1))).flatten++y7s q r))):=by
  rw[<-v2x,<-hr]
  have I:y7s q (l++[x]++r)=y7s q l++((plB (q.r x)).flatten++y7s q r):=by unfold y7s;simp[List.flatMap_append]
  have O:(plB (q.r x)).flatten=x3q q x (i+1)++(plB ((q.r x).drop (i+1))).flatten:=by
   unfold x3q plB
   rw[<-List.flatten_append,<-List.map_append,List.take_append_drop]
  rw[I,O,x6o q x hi];simp
 have Z:((q.r x).getD i iq0).2=((q.r x).getD i iq0).2.take j++[((q.r x).getD i iq0).2.getD j id0]++((q.r x).getD i iq0).2.drop (j+1):=by
  generalize ((q.r x).getD i iq0).2=s at D
  conv=>lhs;rw[<-List.take_append_drop (j+1) s]
  rw[List.take_add_one,List.getD,List.getElem?_eq_getElem D];simp
 rw[e]
 refine⟨((q.r x).getD i iq0).2.drop (j+1)++((plB ((q.r x).drop (i+1))).flatten++y7s q r),?_⟩
 conv=>rhs;rw[Z]
 simp
theorem j4b {q:BdQ}{l:List Bool}{x:Bool}{i j:Nat}(hv:q.p.flat.Nodup)(h:l++[x] <+: [false,true])(D:i<(q.r x).length)(I:j<((q.r x).getD i iq0).2.length):((q.r x).getD i iq0).2.getD j id0∉y7s q l++x3q q x i++((q.r x).getD i iq0).2.take j:=λO=>by
 have Z:((y7s q l++x3q q x i++((q.r x).getD i iq0).2.take j)++[((q.r x).getD i iq0).2.getD j id0]).Nodup:=List.Nodup.sublist (k1e h D I).sublist hv
 exact(List.nodup_append.1 Z).2.2 _ O _ (List.mem_singleton.2 U) U
theorem z6d {α:Type}{l:List α}{j:Nat}(d:α)(h:j<l.length):l.take (j+1)=l.take j++[l.getD j d]:=by
 rw[List.take_add_one,List.getD,List.getElem?_eq_getElem h];rfl
theorem v3x {q:BdQ}(O:BdW q.p)(x:Bool){i j:Nat}(D:i<(q.r x).length)(I:j<((q.r x).getD i iq0).2.length):y3g (((q.r x).getD i iq0).2.getD j id0):=by
 refine O.nm _ ?_;unfold Bd.flat;have:((q.r x).getD i iq0).2.getD j id0∈(plB (q.r x)).flatten:=List.mem_flatten.2 ⟨_,List.mem_map_of_mem (z1b D),z1b I⟩;cases x;exact List.mem_append_left _ this;exact List.mem_append_right _ this
theorem v9p {q:BdQ}(D:BdW q.p):(q.fs.length<=40/\q.bs.length<=40)/\y0w q.fs/\y0w q.bs:=by
 refine⟨⟨by simpa using D.lf,by simpa using D.lb⟩,λs I=>D.ss _ (List.mem_append_left _ (List.mem_map_of_mem I)),λs I=>D.ss _ (List.mem_append_right _ (List.mem_map_of_mem I))⟩
theorem z4b {q:BdQ}(D:BdOk q.p):(q.fs.length<=40/\q.bs.length<=40)/\y0w q.fs/\y0w q.bs:=v9p D.w
def oth (q:BdQ)(b n:Int)(x:Bool×Nat):List LId:=if (y4r x.1,(x.2:Int)+1)=(b,n) then [] else ((q.r x.1).getD x.2 iq0).2
def x8r (q:BdQ)(b n:Int)(s:List (Bool×Nat)):List LId:=s.flatMap (oth q b n)
theorem x5g (q:BdQ)(b n:Int)(s:List (Bool×Nat))(x:Bool×Nat):x8r q b n (s++[x])=x8r q b n s++oth q b n x:=by unfold x8r;simp
theorem x0q:∀(l:List IQ) (m:Nat) (i:LId),((List.range l.length).flatMap λk=>if k=m then [] else (l.getD k iq0).2).count i+(l.getD m iq0).2.count i=(plB l).flatten.count i
 | [],m,i=>by simp[iq0]
 | x::l,m,i=>by
  rw[List.length_cons,List.range_succ_eq_map,List.flatMap_cons,List.count_append,List.flatMap_map]
  have e:(plB (x::l)).flatten=x.2++(plB l).flatten:=rfl
  rw[e,List.count_append]
  cases m with
  | zero=>
   have h:((List.range l.length).flatMap λk=>if k+1=0 then [] else ((x::l).getD (k+1) iq0).2)=(plB l).flatten:=by
    have:=x0q l l.length i
    simp only[Nat.succ_ne_zero,if_false]
    unfold plB
    clear this
    have I:l.map Prod.snd=(List.range l.length).map λk=>(l.getD k iq0).2:=by
     apply List.ext_getElem sp0
     intro j D O
     simp only[List.length_map]at D
     simp[List.getD,List.getElem?_eq_getElem D]
    rw[I,List.flatMap_def];rfl
   rw[h];simp;omega
  | succ m=>
   have Z:=x0q l m i
   have h:((List.range l.length).flatMap λk=>if k+1=m+1 then [] else ((x::l).getD (k+1) iq0).2)=((List.range l.length).flatMap λk=>if k=m then [] else (l.getD k iq0).2):=by
    congr 1
    funext k
    simp
   rw[h]
   simp only[Nat.zero_ne_add_one,if_false,List.getD_cons_succ,List.getD_cons_zero]
   omega
theorem v9e (q:BdQ)(x:Bool)(b n:Int)(hn:1<=n):x8r q b n (ndR q x (q.r x).length)=if y4r x=b then ((List.range (q.r x).length).flatMap λk=>if k=(n-1).toNat then [] else ((q.r x).getD k iq0).2) else (plB (q.r x)).flatten:=by
 unfold x8r ndR;rw[List.flatMap_map];unfold oth;simp only[Prod.mk.injEq];by_cases h:y4r x=b;rw[if_pos h];congr 1;funext k;simp only[h,true_and];by_cases e:(k:Int)+1=n;rw[if_pos e,if_pos oo];rw[if_neg e,if_neg oo];rw[if_neg h];simp only[h,false_and,if_false];have I:plB (q.r x)=(List.range (q.r x).length).map λk=>((q.r x).getD k iq0).2:=by
  unfold plB;apply List.ext_getElem sp0;intro j D O;simp only[List.length_map]at D;simp[List.getD,List.getElem?_eq_getElem D]
 rw[I,List.flatMap_def]
theorem j0x (q:BdQ){b n:Int}(h:z4g b n=0)(i:LId):(x8r q b n (ndP q [false,true])).count i+(q.p.at b n).count i=q.p.flat.count i:=by
 obtain⟨O,D,h3⟩:=z3n h;have e:ndP q [false,true]=ndR q false (q.r false).length++ndR q true (q.r true).length:=by unfold ndP;simp
 have I:x8r q b n (ndP q [false,true])=x8r q b n (ndR q false (q.r false).length)++x8r q b n (ndR q true (q.r true).length):=by rw[e];unfold x8r;simp
 rw[I,v9e q false b n D,v9e q true b n D,List.count_append];have r1:((List.range (q.r false).length).flatMap λk=>if k=(n-1).toNat then [] else ((q.r false).getD k iq0).2).count i+((q.fs).getD (n-1).toNat iq0).2.count i=(plB (q.r false)).flatten.count i:=x0q q.fs (n-1).toNat i;have r2:((List.range (q.r true).length).flatMap λk=>if k=(n-1).toNat then [] else ((q.r true).getD k iq0).2).count i+((q.bs).getD (n-1).toNat iq0).2.count i=(plB (q.r true)).flatten.count i:=x0q q.bs (n-1).toNat i;have hfl:q.p.flat.count i=(plB (q.r false)).flatten.count i+(plB (q.r true)).flatten.count i:=by unfold Bd.flat;rw[List.count_append];rfl
 have Z:q.p.at b n=if b=0 then (q.fs.getD (n-1).toNat iq0).2 else (q.bs.getD (n-1).toNat iq0).2:=by unfold Bd.at atB;rw[z4x,z4x]
 rw[hfl,Z];rcases O with rfl|rfl
 rw[if_pos (show y4r false=0 from U),if_neg (show ¬y4r true=0 by decide),if_pos U];omega;rw[if_neg (show ¬y4r false=1 by decide),if_pos (show y4r true=1 from U),if_neg dd];omega
theorem j4t {q:BdQ}{b n:Int}{l:List LId}{j:Nat}(h:z4g b n=0)(I:∀i,q.p.flat.count i+l.count i<=(q.p.at b n).count i+1)(O:j<l.length):l.getD j id0∉x8r q b n (ndP q [false,true])++l.take j:=λZ=>by
 have h1:=j0x q h (l.getD j id0)
 have h2:=I (l.getD j id0)
 have h3:l.count (l.getD j id0)=(l.take j).count (l.getD j id0)+1+(l.drop (j+1)).count (l.getD j id0):=by
  have e:l=l.take j++[l.getD j id0]++l.drop (j+1):=by rw[<-z6d id0 O,List.take_append_drop]
  generalize l.getD j id0=y at e ⊢
  conv=>lhs;rw[e]
  rw[List.count_append,List.count_append,List.count_singleton];simp
 have D:=List.count_pos_iff.2 Z
 rw[List.count_append]at D
 omega
theorem BdO.fr {S I base:Nat}{w w':World}{q:BdQ}{T:List Nat}(h:BdO S I base w q)(hf:Fr T w w')(D:∀k∈T,k<base):BdO S I base w' q:=⟨h.f.fr hf D,h.b.fr hf D⟩
theorem y9n {B:Bd}{b n:Int}(h:z4g b n=0):B.atC b n=B.at b n:=if_pos h
def bdq0:BdQ:=⟨sv0,sv0,[],[]⟩
def y7z (B:Bd)(b n m:Int):List LId:=if b=1 then B.at b n++B.at (1-b) m else B.at (1-b) m++B.at b n
theorem v5c (B:Bd)(b n m:Int):(y7z B b n m).length=(B.at b n).length+(B.at (1-b) m).length:=by
 unfold y7z;split<;>rw[List.length_append];omega
theorem v4o {B:Bd}(h:BdOk B){b n:Int}(hn:z4g b n=0):BdOk (B.put b n []):=h.put hn (Nat.zero_le _) (λi D=>by cases D) (λi=>by
 have I:=List.nodup_iff_count.1 h.nd i
 simp only[List.count_nil];omega)
end Go.G08
namespace Go.Lw
open Go.RowKit
section
variable {κ:Type} [DecidableEq κ] {V:κ->Value} {P:Program} {K:TypeId}
variable {a:Act} {n:Nat} {L:List (Nat×Value)} {ds:List Nat} {w w':World} {Q:Exit->Act->World->Prop} {ops:Array Oper} {rest:List Oper}
variable {d:Nat} {ty:TypeId} {pos:String} {after:Array Edge} {x y z' r:Operand} {t E:TypeId}
theorem z5b (V:κ->Value){k:IntKind}{i:Int}(h:AgM ds a n L)(D:ev L r=some (.int k i))(I:P.underlying t=some (.map K E))(hn:Nat.blt d n=true)
    (q:∀g w',g=w.heap.size->MapF V w' g (λ_=>none)->Fr [] w w'->w'.heap.size=g+1->∀a,AgM ds a n ((d,.map (some g))::L)->wpList P ops Q rest a w'):wpList P ops Q (⟨some d,.makeMap t (some r),ty,pos,after,none⟩::rest) a w:=
  z2m h U hn (w':=w.alloc (.map #[] 0)) (by simp[execOp,Instr.makeMap,h.eval D,run_underlying I,asInt,asIntOf]) (q _ _ U ⟨_,_,[],heap_alloc_new w _,sp0,λ_=>rfl⟩ (Fr.alloc [] w _) sp0)
theorem v4i (V:κ->Value){k:IntKind}{i:Int}(D:ev L r=some (.int k i))(I:P.underlying t=some (.map K E))(hn:Nat.blt d n=true)(q:∀g w',g=w.heap.size->MapF V w' g (λ_=>none)->Fr [] w w'->w'.heap.size=g+1->WL P ops Q rest n ds w' ((d,.map (some g))::L)):WL P ops Q (⟨some d,.makeMap t (some r),ty,pos,after,none⟩::rest) n ds w L:=λa h=>z5b V h D I hn q
def y1s (l:List κ)(k:κ):Option Value:=if k∈l then some (.bool true) else none
theorem v3f:y1s ([]:List κ)=λ_=>none:=by funext k;simp[y1s]
theorem x1m (l:List κ)(k:κ):(λk'=>if k'=k then some (Value.bool true) else y1s l k')=y1s (l++[k]):=by
 funext k';unfold y1s;by_cases h:k'=k;subst h;simp;simp[h]
theorem v2b (l:List κ)(k:κ):(y1s l k).getD (.bool false)=.bool (decide (k∈l)):=by
 unfold y1s;by_cases h:k∈l;rw[if_pos h,decide_eq_true h];rfl;rw[if_neg h,decide_eq_false h];rfl
theorem MapF.turn {g n0:Nat}{f:κ->Option Value}(h:MapF V w g f)(ht:Turn n0 w w')(Z:g<n0):MapF V w' g f:=by
 obtain⟨D,c,m,I,O⟩:=h;exact⟨D,c,m,ht.at I (.inr Z),O⟩
theorem MapF.noncells {g:Nat}{f:κ->Option Value}(h:MapF V w g f):z9e w g:=let ⟨_,_,_,h1,_⟩:=h;⟨_,h1,rfl⟩
end
end Go.Lw
namespace Go.Proofs.YtagnnbcnnmacmaaGreatDoor
open Go.Lw Go.G21 Go.G08 _root_.Go.Proofs.Tryz
theorem x2g (q:BdQ)(w0:World):Rets prog 101 #[.agg #[.slice q.f.1 q.f.2.1 q.f.2.2,.slice q.b.1 q.b.2.1 q.b.2.2]] w0 λr w'=>∃g,r=.func (.func 148) #[] #[.pointer (some ⟨g,0,none⟩)]/\w0.heap.size<=g/\Blk w' g 37 (bdL q)/\Fr [] w0 w':=by
 exact we [(0,.agg #[.slice q.f.1 q.f.2.1 q.f.2.2,.slice q.b.1 q.b.2.1 q.b.2.2])] func101 U ntmps101 U (.cons U .nil) (sr (bx U (λI w1 O D Z z1=>(asg U (nn (sr (z4q z0g (ev1 U) (asg U (nn (rt (r1 results101 U ⟨_,rfl,I,rfl,oo,D,Z⟩)))))))))))
theorem y9k (q:BdQ)(w0:World):Rets prog 42 #[.agg #[.slice q.f.1 q.f.2.1 q.f.2.2,.slice q.b.1 q.b.2.1 q.b.2.2]] w0 λr w'=>∃g,r=.func (.func 100) #[] #[.pointer (some ⟨g,0,none⟩)]/\w0.heap.size<=g/\Blk w' g 37 (bdL q)/\Fr [] w0 w':=by
 exact we [(0,.agg #[.slice q.f.1 q.f.2.1 q.f.2.2,.slice q.b.1 q.b.2.1 q.b.2.2])] func42 U ntmps42 U (.cons U .nil) (sr (bx U (λI w1 O D Z z1=>(asg U (nn (sr (z4q z0g (ev1 U) (asg U (nn (rt (r1 results42 U ⟨_,rfl,I,rfl,oo,D,Z⟩)))))))))))
theorem y5s (N gD:Nat)(q:BdQ)(wS:World)(a4:Blk wS gD 37 (bdL q)):j7g N prog 148 #[.pointer (some ⟨gD,0,none⟩)] (bdE q) (KeepN [] [gD] (wS.heap.size+2)) (λxs:List Bool=>xs=[false,true]) (λ_=>True) (λs=>s <+: [false,true]) 2 wS:=by
 intro ly J Jx w0 Z a7 a6 a5 a0 a1;have O:=a4.ext (Fr.of_below' Z (Nat.le_refl _));refine weI [(0,.func (.yield ly) #[] #[]),(1,.pointer (some ⟨gD,0,none⟩))] func148 U ntmps148 U (.c2 U U) (isq (k5u 3 U U U (by intro g e;cases e) (mv U (fad U x0l (z0i U O U v1z (k5j U (ev2 U) (k3r (Pf:=λs=>s <+: [false,true]) (x:=false) a0 a1 dd sp0 (by rfl)) U ?_))))));rintro _ w1 (⟨rfl,D,a2⟩|⟨rfl,D,_⟩);have a3:=O.keep a2.1.1 (List.mem_singleton.2 U);refine inl (itn (ict U (k5u 3 U U U (by intro g e;cases e) (mv U (fad U y4s (z0i U a3 U v1z (k5j U (ev2 U) (k3r (Pf:=λs=>s <+: [false,true]) (x:=true) a0 D dd sp0 (by rfl)) U ?_)))))));rintro _ w2 (⟨rfl,I,_⟩|⟨rfl,I,_⟩);exact kpL [] .nil (inl (r0n results148 (⟨⟨_,rfl⟩,.inl ⟨[false,true],rfl,I⟩⟩)));exact kpL [] .nil (inl (r0n results148 (⟨⟨_,rfl⟩,.inr ⟨_,trivial,I⟩⟩)));exact inl (itn (icf U (isk (r0n results148 (⟨⟨_,rfl⟩,.inr ⟨_,trivial,D⟩⟩)))))
theorem k3e:z2a prog 167:=λ_=>kr0
theorem y7h (N gD:Nat)(q:BdQ)(wS:World)(hN:1<=N)(b8:Blk wS gD 37 (bdL q))(hS:BdS wS q)(hf:q.fs.length<=40)(hb:q.bs.length<=40):j7g N prog 100 #[.pointer (some ⟨gD,0,none⟩)] (ndE q) (KeepN [167,37] (bdB q) (wS.heap.size+2)) (λxs:List (Bool×Nat)=>xs=ndP q [false,true]) (λ_=>True) (λs=>s <+: ndP q [false,true]) 81 wS:=by
 intro ly J Jx w0 b1 e1 a4 a2 c9 b3;have hF:Fr [] wS w0:=Fr.of_below' b1 (Nat.le_refl _);refine weIM [(0,.func (.yield ly) #[] #[]),(1,.pointer (some ⟨gD,0,none⟩))] func100 U ntmps100 U (.c2 U U) (isq (irg U (bx U (λg2 w1 d3 a1 q1 z1=>(inl (itn (isq (irg U ?_))))))));have b7:=(b8.ext hF).ext q1;refine z0m U b7 z6k (cl (ev1 U) (mkC func101) (x2g q _) U ?_);rintro _ w2 ⟨g8,rfl,d4,a7,q2⟩;refine inl (itn (ibl ?_));replace a1:=a1.ext q2;have b6:=hS.ext (hF.next (q1.n1 q2));have d1:=a1.lt;have b2:=a7.lt;have b4:=a4 _ _ _ (Turn.of_fr (q1.n1 q2)) b3;refine y7v [(2,_),(8,_)] (.c2 U U) ?_;refine v5x (α:=Bool) U (mkC func148) hN (y5s (N-1) g8 q w2 a7) (λb hb=>by rw[List.mem_singleton.1 hb];exact b2) (λ_=>rfl)
  (λx=>[(10,slv (q.h x)),(9,.int .u8 (y4r x))]) (λx=>by simp[bdE,y4r]) (λx=>rfl)
  (λs W=>J (ndP q s) W/\Blk W g2 167 [.func (.yield ly) #[] #[]]/\Blk W g8 37 (bdL q)/\BdS W q/\w2.heap.size<=W.heap.size) (λ_ W=>∃O,Jx O W)
  (λs W W' ht h=>⟨a4 _ _ _ (ht.low oo) h.1,h.2.1.turn ht,h.2.2.1.turn ht,h.2.2.2.1.turn ht,let ⟨_,hg,_⟩:=ht;Nat.le_trans h.2.2.2.2 hg.size⟩) (λs W W' ht h=>let ⟨p,hp⟩:=h;⟨p,a2 _ _ _ (ht.low oo) hp⟩)
  ⟨b4,a1,a7,b6,Nat.le_refl _⟩ (λx=>[(4,slv (q.h x)),(3,.int .u8 (y4r x))]) [(2,.pointer (some ⟨g2,0,none⟩))] (.cons U .nil) ?_ ?_ ?_ ?_
 intro lN O x w3 hi;exact y7v [(9,_),(10,_),(2,_)] (.c3 U U U) (isq (irg U (asg U (inl (itn (irg U (asg U (inl (asU (.c3 U U U))))))))));rintro lN O x w3 d6 ⟨b5,b0,a0,a9,d0⟩ d7 b9;have d9:=v6a q hf hb O;have e0:(q.r x).length<=40:=by cases x<;>assumption
 have d5:=a9.len x;refine ibl (isq (irg U (mv U (lnS U underlying35 (mv U (inl (itn (ibl (v3e (ι:=Nat) [(2,_),(3,_),(11,_),(12,_)] (λi=>[(13,.int .i64 (i:Int))]) (λi w'=>J (ndP q O++ndR q x i) w'/\i<=(q.r x).length/\KeepN [167,37] (bdB q) w2.heap.size w3 w') (λi=>(q.r x).length-i) 0 (.c5 U U U U U) ⟨by simpa[ndR] using b5,Nat.zero_le _,KeepN.refl⟩ ?_)))))))));rintro i w4 ⟨a8,hi,I⟩;have a3:=b0.keepT I.1 dd;have a6:=a9.keep I;refine y7v [(2,_),(3,_),(11,_),(12,_),(13,.int .i64 (i:Int))] (.c5 U U U U U) (isq (irg U (lt' U (inl (itn (isq (icd U (λc0=>?_) (λc0=>?_))))))));refine isk (itn (isq (ibl (isq (irg U (mv U (z0x (p:=i) (iq0) U (a6.sel x) U y2h oo (λad hc=>(z1a U (hc _ (a6.sel x)) z8o (asg U (asg U (inl (itn (isq (isq (irg U (mv U (ge' U (inl (itn (icd U (λc1=>absurd c1 oo) (λc1=>(isk (itn (isq (k5u 6 U U U (by intro g e;cases e) (z2j U a3 k3e (mv U (mv U (z0q U (wi6 oo) (z1z (cs:=[_,_]) (ev2 U) x8q (z0f U (z0f U z0t)) U ?_)))))))))))))))))))))))))))))));refine mv U (k5j U (ev2 U) (k3r (Pf:=λs=>s <+: ndP q [false,true]) (x:=(x,i)) c9 a8 (by rw[List.length_append,v7d];omega) (k1l b9 oo) (by rfl)) U ?_);rintro _ w5 (⟨rfl,Z,a5⟩|⟨rfl,Z,a5⟩);exact nt' U (inl (itn (icf U (isk (bn' (itn (irg U (z0q U (wi6 oo) (mv U (inl (x5z (i+1) (.c5 U U U U U) ⟨by rw[v2l,<-List.append_assoc];exact Z,oo,I.trans (a5.low oo)⟩ oo)))))))))));exact nt' U (inl (itn (ict U (irt (rb (tr (tr (rb (rb (rndX (I.2.trans (KeepsFrom.low a5 oo)) ⟨_,Z⟩))))))))));obtain rfl:i=(q.r x).length:=by omega
 exact iex (te (te (xh (bn' (rndK I.2 ⟨λb hb=>by rw[List.mem_singleton.1 hb];exact(show w4.heap[g8]?=_ from a0.keepT I.1 dd).trans (show w3.heap[g8]?=_ from a0).symm,λ_ _ _ _ h=>by cases h⟩ ⟨by rw[u5y];exact a8,a3,a0.keepT I.1 dd,a6,Nat.le_trans d0 I.2.size⟩)))));rintro D xs W hD rfl ⟨Z,_⟩ hm;refine bn' (rM0n results100 (x6h hm) sp0 ?_);intro w6 q6;exact⟨⟨_,rfl⟩,.inl ⟨_,rfl,a4 _ _ _ (Turn.of_mark q6 hm oo) Z⟩⟩;rintro D O W hD _ ⟨p,hp⟩ hm;refine rb (rM0 results100 (x6h hm) sp0 ?_);intro w6 q6;exact⟨⟨_,rfl⟩,.inr ⟨_,trivial,a2 _ _ _ (Turn.of_mark q6 hm oo) hp⟩⟩
theorem y2d (q:BdQ)(w0:World)(hB:BdAt w0 q)(hf:q.fs.length<=40)(hb:q.bs.length<=40)(h4:y0w q.fs)(a7:y0w q.bs):Rets prog 15 #[.agg #[.slice q.f.1 q.f.2.1 q.f.2.2,.slice q.b.1 q.b.2.1 q.b.2.2]] w0 λr w'=>r=.int .i64 (q.p.flat.length:Int)/\Fr [] w0 w':=by
 refine weM [(0,.agg #[.slice q.f.1 q.f.2.1 q.f.2.2,.slice q.b.1 q.b.2.1 q.b.2.2])] func15 U ntmps15 U (.cons U .nil) ?_;have O:=hB;refine isq (irg U (bx U (λg1 w1 b2 a0 q1 z1=>(asg U (inl (itn (isq (irg U (al zv3 U (λg3 w2 b3 D q2 z2=>(z2u U D U sz3 (λw3 D q3 z3=>(inl (itn (isq (isq (irg U ?_)))))))))))))))));replace a0:=(a0.ext q2).fr q3;refine z0m U a0 z6k (cl (ev1 U) (mkC func42) (y9k q _) U ?_);rintro _ w4 ⟨g7,rfl,b0,a3,q4⟩;have z4:=q4.size;refine inl (itn (ibl ?_));have a1:∀b∈bdB q,b<w0.heap.size:=BdS.lt O.s;replace D:=D.ext q4;replace hB:=O.ext (q1.z3 q2 q3 q4);refine v5x (α:=Bool×Nat) U (mkC func100) dd (y7h 8 g7 q w4 dd a3 hB.s hf hb) (BdS.lt hB.s) (λ_=>rfl) (λx=>[(9,.slice ((q.r x.1).getD x.2 iq0).1.1 ((q.r x.1).getD x.2 iq0).1.2.1 ((q.r x.1).getD x.2 iq0).1.2.2),(8,.agg #[.int .u8 (y4r x.1),.int .i64 ((x.2:Int)+1)])]) (λx=>by simp[ndE,slv]) (λ_=>rfl) (λ(s:List (Bool×Nat)) (W:World)=>Fr [g3] w4 W/\Blk W g3 3 [.int .i64 (ndN q s:Int)]/\s.length<=81) (λ_ _=>False) (λs W W' ht h=>⟨h.1.turn ht (Nat.le_refl _),h.2.1.turn ht,h.2.2⟩) (λ_ _ _ _ h=>h.elim) ⟨Fr.refl _ _,D,Nat.zero_le _⟩ (λx=>[(5,.slice ((q.r x.1).getD x.2 iq0).1.1 ((q.r x.1).getD x.2 iq0).1.2.1 ((q.r x.1).getD x.2 iq0).1.2.2)]) [(3,_)] (.cons U .nil) ?_ ?_ ?_ (λ_ _ _ _ _ h _=>h.elim);rintro lN a6 x w5 ⟨q5,D,a4⟩;exact y7v [(8,.agg #[.int .u8 (y4r x.1),.int .i64 ((x.2:Int)+1)]),(9,.slice ((q.r x.1).getD x.2 iq0).1.1 ((q.r x.1).getD x.2 iq0).1.2.1 ((q.r x.1).getD x.2 iq0).1.2.2),(3,_)] (.c3 U U U) (irg U (asg U (inl (asU (.c2 U U)))));rintro lN a6 x w6 b4 ⟨q6,D,a4⟩ b5 b7;have z6:=q6.size;have Z:=D.lt;have a2:=D;have b6:=u9l q h4 a7 a6;have b8:=z4e (show y0w (q.r x.1) by cases x.1<;>assumption) x.2;have a9:((q.r x.1).getD x.2 iq0).1.2.1=((q.r x.1).getD x.2 iq0).2.length:=z2g (z1p (show IqAt w0 (q.r x.1) by cases x.1;exact O.fi;exact O.bi) x.2);exact ibl (irg U (z2j U D na3 (mv U (lnS U underlying42 (z0q U (wi6 oo) (z2u U D U sz3 (λw7 D q7 z7=>(kpL [] .nil (inl (bn' (j6f (S:=[g3]) ((Fr.refl [g3] _).z1 q7) (λk hk _=>by cases List.mem_singleton.1 hk;exact .inl (a2.tyC dd)) (λb hb=>Nat.lt_of_lt_of_le (a1 b hb) oo) (λb hb e=>by simp at e;have:=a1 b hb;omega) ⟨((Fr.refl [g3] _).z2 q6 q7),by rw[u3t,<-a9];exact D,by rw[List.length_append];simp;omega⟩)))))))))));rintro D1 b9 w8 b1 hS ⟨q8,D,a4⟩ I;have z8:=q8.size;have a8:=I;have a5:=I.lt;have Z:=D.lt;subst hS;rw[u9w]at D;refine bn' (itn (isq (irg U (z2j U D na3 (asg U (inl (itn (irt (rM1 results15 U (x6h I) sp0 ?_)))))))));intro w9 q9;exact⟨_,rfl,rfl,(q1.z5 q2 q3 q4 q8 q9)⟩
theorem na31:z2a prog 31:=λ_=>kr0
theorem v9n:z2a prog 192:=λ_=>kr0
theorem sz31:z1r prog 31 1:=λ_=>kr0
theorem j6n:z1r prog 192 1:=λ_=>kr0
theorem zv4 (w:World):(zeroValue 4).run prog w=.ok (.bool false) w:=kr0
theorem zv31 (w:World):(zeroValue 31).run prog w=.ok (.int .i64 0) w:=kr0
theorem k0o (w:World):(zeroValue 192).run prog w=.ok (.map none) w:=kr0
theorem u4p (q:BdQ)(w0:World)(hB:BdAt w0 q)(hv:BdW q.p):Rets prog 74 #[.agg #[.slice q.f.1 q.f.2.1 q.f.2.2,.slice q.b.1 q.b.2.1 q.b.2.2]] w0 λr w'=>r=.int .i64 (if q.p.flat.Nodup then 0 else 8)/\Fr [] w0 w':=by
 obtain⟨⟨hf,hb⟩,h4,k5⟩:=v9p hv;refine weM [(0,.agg #[.slice q.f.1 q.f.2.1 q.f.2.2,.slice q.b.1 q.b.2.1 q.b.2.2])] func74 U ntmps74 U (.cons U .nil) ?_;have a1:=hB;refine isq (irg U (bx U (λg1 w1 k8 a2 q1 z1=>(al zv31 U (λg2 w2 k9 I q2 z2=>(inl (itn (isq (isq (irg U ?_))))))))));replace a2:=a2.ext q2;refine z0m U a2 z6k (cl (ev1 U) (mkC func101) (x2g q _) U ?_);rintro _ w3 ⟨g7,rfl,h2,b5,q3⟩;have z3:=q3.size;refine inl (itn (ibl ?_));have h9:=b5.lt;refine v5x (α:=Bool) U (mkC func148) dd (y5s 8 g7 q w3 b5) (λb O=>by rw[List.mem_singleton.1 O];exact b5.lt) (λ_=>rfl) (λx=>[(23,.slice (q.h x).1 (q.h x).2.1 (q.h x).2.2),(22,.int .u8 (y4r x))]) (λx=>by simp[bdE,y4r,slv]) (λ_=>rfl) (λ(s:List (Bool)) (W:World)=>Fr [] w3 W/\True) (λ_ _=>False) (λs W W' ht h=>⟨h.1.turn ht (Nat.le_refl _),h.2⟩) (λ_ _ _ _ h=>h.elim) ⟨Fr.refl _ _,trivial⟩ (λx=>[(4,.slice (q.h x).1 (q.h x).2.1 (q.h x).2.2)]) [(1,_),(2,_)] (.c2 U U) ?_ ?_ ?_ (λ_ _ _ _ _ h _=>h.elim);rintro lN a9 x w4 ⟨q4,-⟩;exact y7v [(22,.int .u8 (y4r x)),(23,.slice (q.h x).1 (q.h x).2.1 (q.h x).2.2),(1,_),(2,_)] (.c4 U U U U) (irg U (asg U (inl (asU (.c3 U U U)))));rintro lN a9 x w5 f3 ⟨q5,-⟩ f4 e5;have z5:=q5.size;have f2:=(BdS.len a1.s x);have f6:(q.r x).length<=40:=by cases x<;>assumption
 have d7:y0w (q.r x):=by cases x<;>assumption
 refine ibl (isq (isq (irg U (mv U (lnS U underlying35 (gt' U (inl (itn (icd U (λc0=>?_) (λc0=>?_))))))))));exfalso;omega;refine isk (itn (isq (irg U (mv U (lnS U underlying35 (mv U (inl (itn (ibl (v3e (ι:=Nat) [(2,_),(27,_),(28,_)] (λi=>[(29,.int .i64 (i:Int))]) (λi w'=>Fr [] w5 w'/\i<=(q.r x).length) (λi=>(q.r x).length-i) 0 (.c4 U U U U) ⟨Fr.refl _ _,Nat.zero_le _⟩ ?_))))))))));rintro i w6 ⟨q6,hi⟩;have z6:=q6.size;refine y7v [(2,_),(27,_),(28,_),(29,_)] (.c4 U U U U) (isq (irg U (lt' U (inl (itn (isq (icd U (λc1=>?_) (λc1=>?_))))))));have f8:=z2g (z1p (a1.iq x) i);have f7:=z4e d7 i;refine isk (itn (isq (ibl (isq (irg U ?_)))));replace hB:=a1.ext (q1.n4 q2 q3 q5 q6);refine z0x (iq0) U (hB.s.sel x) U y2h z1m (λj2 e7=>?_);refine z1a U (e7 _ (hB.s.sel x)) z8o (asg U (inl (itn (isq (irg U (mv U (lnS U underlying42 (gt' U (inl (itn (icd U (λc2=>?_) (λc2=>?_))))))))))));exfalso;omega;exact isk (bn' (itn (irg U (z0q U (wi6 oo) (mv U (inl (x5z (i+1) (.c4 U U U U) ⟨q6,oo⟩ oo)))))));obtain rfl:i=(q.r x).length:=by omega
 exact iex (te (te (xh (bn' (j6f (S:=[]) q6 sp0 (λb O=>by rw[List.mem_singleton.1 O];omega) sp0 ⟨(q5.n1 q6),trivial⟩)))));rintro D1 g5 w7 k6 hS ⟨q7,-⟩ b2;have z7:=q7.size;have d4:=b2;have f9:=b2.lt;refine bn' (itn (isq (isq (irg U ?_))));replace a2:=a2.ext (q3.n1 q7);refine z0m U a2 z6k (cl (ev1 U) (mkC func101) (x2g q _) U ?_);rintro _ w8 ⟨g8,rfl,h3,b6,q8⟩;have z8:=q8.size;refine inl (itn (ibl ?_));have i0:=b6.lt;refine v5x (α:=Bool) U (mkC func148) dd (y5s 8 g8 q w8 b6) (λb O=>by rw[List.mem_singleton.1 O];exact b6.lt) (λ_=>rfl) (λx=>[(40,.slice (q.h x).1 (q.h x).2.1 (q.h x).2.2),(39,.int .u8 (y4r x))]) (λx=>by simp[bdE,y4r,slv]) (λ_=>rfl) (λ(s:List (Bool)) (W:World)=>Fr [] w8 W/\True) (λ_ _=>False) (λs W W' ht h=>⟨h.1.turn ht (Nat.le_refl _),h.2⟩) (λ_ _ _ _ h=>h.elim) ⟨Fr.refl _ _,trivial⟩ (λx=>[(8,.slice (q.h x).1 (q.h x).2.1 (q.h x).2.2)]) [(1,_),(2,_)] (.c2 U U) ?_ ?_ ?_ (λ_ _ _ _ _ h _=>h.elim);rintro lN a9 x w9 ⟨q9,-⟩;exact y7v [(39,.int .u8 (y4r x)),(40,.slice (q.h x).1 (q.h x).2.1 (q.h x).2.2),(1,_),(2,_)] (.c4 U U U U) (irg U (asg U (inl (asU (.c3 U U U)))));rintro lN a9 x i8 f3 ⟨e1,-⟩ f4 e5;have n8:=e1.size;have f2:=(BdS.len a1.s x);have f6:(q.r x).length<=40:=by cases x<;>assumption
 have d7:y0w (q.r x):=by cases x<;>assumption
 refine ibl (isq (irg U (mv U (lnS U underlying35 (mv U (inl (itn (ibl (v3e (ι:=Nat) [(2,_),(41,_),(42,_)] (λi=>[(43,.int .i64 (i:Int))]) (λi w'=>Fr [] i8 w'/\i<=(q.r x).length) (λi=>(q.r x).length-i) 0 (.c4 U U U U) ⟨Fr.refl _ _,Nat.zero_le _⟩ ?_)))))))));rintro i i9 ⟨c9,hi⟩;have n9:=c9.size;refine y7v [(2,_),(41,_),(42,_),(43,_)] (.c4 U U U U) (isq (irg U (lt' U (inl (itn (isq (icd U (λc3=>?_) (λc3=>?_))))))));have f8:=z2g (z1p (a1.iq x) i);have f7:=z4e d7 i;refine isk (itn (isq (ibl (isq (irg U ?_)))));replace hB:=a1.ext (q1.n6 q2 q3 q7 q8 e1 c9);refine z0x (iq0) U (hB.s.sel x) U y2h z1m (λj3 e8=>?_);refine z1a U (e8 _ (hB.s.sel x)) z8o (asg U (inl (itn (isq (irg U (mv U (lnS U underlying42 (mv U (inl (itn (ibl (v3e (ι:=Nat) [(2,_),(41,_),(42,_),(43,_),(47,_),(48,_)] (λj=>[(49,.int .i64 (j:Int))]) (λj w'=>Fr [] i9 w'/\j<=((q.r x).getD i iq0).2.length) (λj=>((q.r x).getD i iq0).2.length-j) 0 (.c7 U U U U U U U) ⟨Fr.refl _ _,Nat.zero_le _⟩ ?_))))))))))));rintro j l1 ⟨e2,hj⟩;have o0:=e2.size;refine y7v [(2,_),(41,_),(42,_),(43,_),(47,_),(48,_),(49,_)] (.c7 U U U U U U U) (isq (irg U (lt' U (inl (itn (isq (icd U (λc4=>?_) (λc4=>?_))))))));have h8:=v3x hv x (i:=i) (j:=j) oo oo;refine isk (itn (isq (ibl (isq (irg U ?_)))));replace hB:=a1.ext ((q1.n6 q2 q3 q7 q8 e1 c9).n1 e2);refine z0x (id0) U (z1p (hB.iq x) i) U z6q z1m (λj4 e9=>?_);refine z1t U (e9 _ (z1p (hB.iq x) i)) z3x (al y6l U (λk1 l2 j7 d3 i2 o1=>?_));refine z0k (vs:=[_,_]) U d3 y3o (λl3 d3 i3 o2=>?_) (h1:=(by first|(simp[Value.oneCell',S];done)|exact z1j.one (((q.r x).getD i iq0).2.getD j id0)));refine inl (itn (isq (irg U (z0m U d3 z3x (cl (ev1 U) (mkC func122) (x2k (((q.r x).getD i iq0).2.getD j id0) _) U ?_)))));rintro _ l4 ⟨rfl,g3⟩;have o3:=g3.size;refine nt' U (inl (itn (icd U (λc5=>?_) (λc5=>?_))));exact absurd h8 c5;exact isk (bn' (itn (irg U (z0q U (wi6 oo) (mv U (inl (x5z (j+1) (.c7 U U U U U U U) ⟨(e2.z3 i2 i3 g3),oo⟩ oo)))))));obtain rfl:j=((q.r x).getD i iq0).2.length:=by omega
 exact iex (te (te (xh (bn' (itn (irg U (z0q U (wi6 oo) (mv U (inl (x5z (i+1) (.c4 U U U U) ⟨(c9.n1 e2),oo⟩ oo))))))))));obtain rfl:i=(q.r x).length:=by omega
 exact iex (te (te (xh (bn' (j6f (S:=[]) c9 sp0 (λb O=>by rw[List.mem_singleton.1 O];omega) sp0 ⟨(e1.n1 c9),trivial⟩)))));rintro D2 g5 l5 k7 hS ⟨a7,-⟩ b3;have o4:=a7.size;have d5:=b3;have g0:=b3.lt;refine bn' (itn (isq (irg U ?_)));replace a2:=a2.ext (q8.n1 a7);refine z0m U a2 z6k ?_;replace hB:=a1.ext (q1.n5 q2 q3 q7 q8 a7);refine cl (ev1 U) (mkC func15) (y2d q _ hB oo oo (by assumption) (by assumption)) U ?_;rintro _ l6 ⟨rfl,a4⟩;have o5:=a4.size;refine v4i idV U underlying192 U (λD l7 k0 hm a8 o6=>?_);rw[<-v3f]at hm;refine al k0o U (λk2 l8 j8 b1 a5 o7=>(z2u U b1 U j6n (λl9 b1 a6 o8=>(inl (itn (isq (isq (irg U ?_))))))));replace a2:=(a2.ext (a4.n2 a8 a5)).fr a6;refine z0m U a2 z6k (cl (ev1 U) (mkC func101) (x2g q _) U ?_);rintro _ e6 ⟨g9,rfl,h5,b7,Z⟩;have o9:=Z.size;refine inl (itn (ibl ?_));have i1:=b7.lt;replace hm:=((hm.ext a5).fr a6 so).ext Z;refine v5x (α:=Bool) U (mkC func148) dd (y5s 8 g9 q e6 b7) (λb O=>by rw[List.mem_singleton.1 O];exact b7.lt) (λ_=>rfl) (λx=>[(64,.slice (q.h x).1 (q.h x).2.1 (q.h x).2.2),(63,.int .u8 (y4r x))]) (λx=>by simp[bdE,y4r,slv]) (λ_=>rfl) (λ(s:List (Bool)) (W:World)=>Fr [D] e6 W/\MapF idV W D (y1s (y7s q s))/\(y7s q s).Nodup) (λ(_:List (Bool)) (W:World)=>Fr [D,g2] e6 W/\Blk W g2 31 [.int .i64 8]/\¬q.p.flat.Nodup) (λs W W' ht h=>⟨h.1.turn ht (Nat.le_refl _),⟨h.2.1.turn ht oo,h.2.2⟩⟩) (λs W W' ht h=>⟨h.1.turn ht (Nat.le_refl _),⟨h.2.1.turn ht,h.2.2⟩⟩) ⟨Fr.refl _ _,⟨hm,by simp[y7s]⟩⟩ (λx=>[(15,.slice (q.h x).1 (q.h x).2.1 (q.h x).2.2)]) [(1,_),(2,_),(13,_)] (.c3 U U U) ?_ ?_ ?_ ?_;rintro lN a9 x m0 ⟨l0,⟨hm,a3⟩⟩;exact y7v [(63,.int .u8 (y4r x)),(64,.slice (q.h x).1 (q.h x).2.1 (q.h x).2.2),(1,_),(2,_),(13,_)] (.c5 U U U U U) (irg U (asg U (inl (asU (.c4 U U U U)))));rintro lN a9 x j0 f3 ⟨b8,⟨hm,a3⟩⟩ f4 e5;have p0:=b8.size;have f2:=(BdS.len a1.s x);have f6:(q.r x).length<=40:=by cases x<;>assumption
 have d7:y0w (q.r x):=by cases x<;>assumption
 have h6:=hm;refine ibl (isq (irg U (mv U (lnS U underlying35 (mv U (inl (itn (ibl (v3e (ι:=Nat) [(2,_),(13,_),(65,_),(66,_)] (λi=>[(67,.int .i64 (i:Int))]) (λi w'=>Fr [D] j0 w'/\i<=(q.r x).length/\MapF idV w' D (y1s (y7s q a9++x3q q x i))/\(y7s q a9++x3q q x i).Nodup) (λi=>(q.r x).length-i) 0 (.c5 U U U U U) ⟨Fr.refl _ _,⟨Nat.zero_le _,by simpa[x3q] using And.intro hm a3⟩⟩ ?_)))))))));rintro i j1 ⟨b0,⟨hi,⟨hm,a3⟩⟩⟩;have p1:=b0.size;refine y7v [(2,_),(13,_),(65,_),(66,_),(67,_)] (.c5 U U U U U) (isq (irg U (lt' U (inl (itn (isq (icd U (λc6=>?_) (λc6=>?_))))))));have f8:=z2g (z1p (a1.iq x) i);have f7:=z4e d7 i;refine isk (itn (isq (ibl (isq (irg U ?_)))));replace hB:=a1.ext ((((q1.n6 q2 q3 q7 q8 a7 a4).n1 a8).n1 a5).z4 a6 Z b8 b0);refine z0x (iq0) U (hB.s.sel x) U y2h z1m (λj5 f0=>?_);refine z1a U (f0 _ (hB.s.sel x)) z8o (asg U (inl (itn (isq (irg U (mv U (lnS U underlying42 (mv U (inl (itn (ibl (v3e (ι:=Nat) [(2,_),(13,_),(65,_),(66,_),(67,_),(71,_),(72,_)] (λj=>[(73,.int .i64 (j:Int))]) (λj w'=>Fr [D] j1 w'/\j<=((q.r x).getD i iq0).2.length/\MapF idV w' D (y1s (y7s q a9++x3q q x i++((q.r x).getD i iq0).2.take j))/\(y7s q a9++x3q q x i++((q.r x).getD i iq0).2.take j).Nodup) (λj=>((q.r x).getD i iq0).2.length-j) 0 (.c8 U U U U U U U U) ⟨Fr.refl _ _,⟨Nat.zero_le _,by rw[List.take_zero,List.append_nil];exact⟨hm,a3⟩⟩⟩ ?_))))))))))));rintro j m1 ⟨b4,⟨hj,⟨hm,a3⟩⟩⟩;have p2:=b4.size;refine y7v [(2,_),(13,_),(65,_),(66,_),(67,_),(71,_),(72,_),(73,_)] (.c8 U U U U U U U U) (isq (irg U (lt' U (inl (itn (isq (icd U (λc7=>?_) (λc7=>?_))))))));refine isk (itn (isq (ibl (isq (irg U ?_)))));replace hB:=a1.ext ((((q1.n6 q2 q3 q7 q8 a7 a4).n1 a8).n1 a5).z5 a6 Z b8 b0 b4);refine z0x (id0) U (z1p (hB.iq x) i) U z6q z1m (λj6 f1=>?_);refine z1t U (f1 _ (z1p (hB.iq x) i)) z3x (al y6l U (λk4 m2 j9 b9 d0 p3=>?_));refine z0k (vs:=[_,_]) U b9 y3o (λm3 b9 d1 p4=>?_) (h1:=(by first|(simp[Value.oneCell',S];done)|exact z1j.one (((q.r x).getD i iq0).2.getD j id0)));refine inl (itn (isq (isq (irg U ?_))));replace b1:=(((((b1.ext Z).fr b8).fr b0).fr b4).ext d0).fr d1;refine z2j U b1 v9n (z0m U b9 z3x ?_);replace hm:=(hm.ext d0).fr d1 so;refine x2w (V:=idV) (k:=(((q.r x).getD i iq0).2.getD j id0)) (f:=y1s (y7s q a9++x3q q x i++((q.r x).getD i iq0).2.take j)) U U hm z6t underlying192 zv4 (v2b _ _) U (inl (itn (icd U (λc8=>?_) (λc8=>?_))));have f5:¬q.p.flat.Nodup:=λh=>j4b (j:=j) h e5 (i:=i) oo oo c8;refine isq (irg U ?_);replace I:=(((((((I.ext (q3.n6 q7 q8 a7 a4 a8 a5)).fr a6).ext Z).fr b8).fr b0).fr b4).ext d0).fr d1;exact z2u U I U sz31 (λm4 I g4 p5=>(kpL [(2,_)] (.cons U .nil) (inl (itn (irt (tr (rb (tr (tr (rb (rb (tr (tr (rb (rb (rndR (S:=[D,g2]) ((Fr.refl [D,g2] _).z5 b0 b4 d0 d1 g4) (by intro k hk _;right;simp at hk;omega) ⟨((Fr.refl [D,g2] _).z6 b8 b0 b4 d0 d1 g4),⟨I,f5⟩⟩))))))))))))))));refine isk (itn (irg U (z2j U b1 v9n (z0m U b9 z3x (x3l (V:=idV) (k:=(((q.r x).getD i iq0).2.getD j id0)) U U U hm z6t underlying192 (λm5 hm i4 p6=>?_))))));rw[x1m]at hm;exact inl (bn' (itn (irg U (z0q U (wi6 oo) (mv U (inl (x5z (j+1) (.c8 U U U U U U U U) ⟨((Fr.refl [D] _).z4 b4 d0 d1 i4),⟨oo,by rw[z6d id0 oo,<-List.append_assoc];exact⟨hm,List.nodup_append.2 ⟨a3,sp0,λa ha b hb e=>c8 (by rw[<-List.mem_singleton.1 hb,<-e];exact ha)⟩⟩⟩⟩ oo)))))));obtain rfl:j=((q.r x).getD i iq0).2.length:=by omega
 rw[List.take_length]at hm a3;exact iex (te (te (xh (bn' (itn (irg U (z0q U (wi6 oo) (mv U (inl (x5z (i+1) (.c5 U U U U U) ⟨((Fr.refl [D] _).z2 b0 b4),⟨oo,by rw[x6o q x oo,<-List.append_assoc];exact⟨hm,a3⟩⟩⟩ oo))))))))));obtain rfl:i=(q.r x).length:=by omega
 rw[u3m]at hm a3;exact iex (te (te (xh (bn' (j6f (S:=[D]) ((Fr.refl [D] _).z1 b0) (λk hk _=>.inr (by cases List.mem_singleton.1 hk;exact⟨oo,h6.noncells⟩)) (λb O=>by rw[List.mem_singleton.1 O];omega) (λb O e=>by rw[List.mem_singleton.1 O]at e;simp at e;omega) ⟨((Fr.refl [D] _).z2 b8 b0),by rw[v8w];exact⟨hm,a3⟩⟩)))));rintro D3 g5 m6 h0 hS ⟨e0,⟨hm,a3⟩⟩ a0;have p7:=e0.size;have d6:=a0;have d9:=a0.lt;refine bn' (itn (isq (irg U ?_)));replace I:=(((I.ext (q3.n6 q7 q8 a7 a4 a8 a5)).fr a6).ext Z).fr e0;refine z2u U I U sz31 (λm7 I e3 p8=>(inl (itn (irt ?_))));replace a0:=d6.fr ((Fr.refl [g2] _).z1 e3) so;replace b3:=d5.fr (((Fr.refl [g2] _).z6 a4 a8 a5 a6 Z e0).z1 e3) so;replace b2:=d4.fr ((((Fr.refl [g2] _).z6 q8 a7 a4 a8 a5 a6).n1 Z).z2 e0 e3) so;refine rM1c results74 U I na31 (u9j a0 b3 b2) so ?_;intro m8 i5;exact⟨_,rfl,by rw[if_pos (by rw[<-v2x];subst hS;exact a3)],((((q1.n6 q2 q3 q7 q8 a7 a4).n1 a8).n1 a5).z5 a6 Z e0 e3 i5)⟩;rintro D3 _ m9 h0 _ ⟨e4,⟨I,h7⟩⟩ a0;have p9:=e4.size;have d6:=a0;have d9:=a0.lt;have g6:=I.lt;refine rb (tr ?_);replace b3:=d5.fr ((Fr.refl [g2] _).z6 a4 a8 a5 a6 Z e4) so;replace b2:=d4.fr ((((Fr.refl [g2] _).z6 q8 a7 a4 a8 a5 a6).n1 Z).z1 e4) so;refine rM1c results74 U I na31 (u9j a0 b3 b2) so ?_;intro n7 i7;exact⟨_,rfl,by rw[if_neg h7],((((q1.n6 q2 q3 q7 q8 a7 a4).n1 a8).n1 a5).z4 a6 Z e4 i7)⟩
theorem x1e (q:BdQ)(w0:World)(I:BdAt w0 q)(D:BdOk q.p):Rets prog 74 #[.agg #[.slice q.f.1 q.f.2.1 q.f.2.2,.slice q.b.1 q.b.2.1 q.b.2.2]] w0 λr w'=>r=.int .i64 0/\Fr [] w0 w':=by
 have x:=u4p q w0 I D.w;rw[if_pos D.nd]at x;exact x
theorem x4h (q:BdQ)(b:Int)(n:Nat)(v:Value)(l:List LId)(w0:World)(hB:BdAt w0 q)(hs:Sl z1j w0 v l)(hv:BdOk q.p)(hn:z4g b (n:Int)=0)(f0:l.length<=4)(f2:∀i∈l,y3g i)(hd:∀i,q.p.flat.count i+l.count i<=(q.p.at b (n:Int)).count i+1):Rets prog 141 #[.agg #[.slice q.f.1 q.f.2.1 q.f.2.2,.slice q.b.1 q.b.2.1 q.b.2.2],.agg #[.int .u8 b,.int .i64 (n:Int)],v] w0 λr w'=>(∃q':BdQ,r=.tuple #[.agg (bdL q').toArray,.int .i64 0]/\BdO 42 54 w0.heap.size w' q'/\q'.p=q.p.put b (n:Int) l)/\Fr [] w0 w':=by
 obtain⟨⟨hf,hb⟩,h4,e8⟩:=z4b hv;have i7:=z3n hn;obtain⟨A,c,rfl,i0⟩:=id hs.form;refine weM [(0,.agg #[.slice q.f.1 q.f.2.1 q.f.2.2,.slice q.b.1 q.b.2.1 q.b.2.2]),(1,.agg #[.int .u8 b,.int .i64 (n:Int)]),(2,.slice A l.length c)] func141 U ntmps141 U (.c3 U U U) ?_;have b1:=hB;have b9:=hs;refine isq (irg U (bx U (λg3 w1 i1 a5 q1 z1=>(bx U (λg4 w2 i2 a6 q2 z2=>(al v4k U (λg6 w3 i3 b6 q3 z3=>(asg U (inl (itn (isq (isq (irg U ?_)))))))))))));replace a5:=a5.ext (q2.n1 q3);refine z0m U a5 z6k ?_;replace hB:=b1.ext (q1.n2 q2 q3);refine cl (ev1 U) (mkC func74) (x1e q _ hB hv) U ?_;rintro _ w4 ⟨rfl,q4⟩;have z4:=q4.size;refine asg U (inl (itn (isq (irg U (mv U (ne' U (inl (itn (icd U (λc0=>?_) (λc0=>?_))))))))));exact absurd U c0;refine isk (itn (isq (isq (irg U ?_))));replace a6:=a6.ext (q3.n1 q4);refine z0m U a6 z8c (cl (ev1 U) u5t (z5i _ _ _) U ?_);rintro _ w5 ⟨rfl,q5⟩;have z5:=q5.size;refine ne' U (inl (itn (icd U (λc1=>?_) (λc1=>?_))));exact absurd hn (by simpa using c1);refine isk (itn (isq (isq (irg U (mv U (lnS U underlying42 (mv U (inl (itn (ibl (v3e (ι:=Nat) [(2,_),(3,_),(4,_),(6,_),(28,_),(29,_)] (λj=>[(30,.int .i64 (j:Int))]) (λj w'=>Fr [] w5 w'/\j<=l.length) (λj=>l.length-j) 0 (.c7 U U U U U U U) ⟨Fr.refl _ _,Nat.zero_le _⟩ ?_)))))))))));rintro j w6 ⟨q6,hj⟩;have z6:=q6.size;refine y7v [(2,_),(3,_),(4,_),(6,_),(28,_),(29,_),(30,_)] (.c7 U U U U U U U) (isq (irg U (lt' U (inl (itn (isq (icd U (λc2=>?_) (λc2=>?_))))))));have f1:=f2 _ (z1b (d:=id0) (i:=j) (l:=l) oo);refine isk (itn (isq (ibl (isq (irg U ?_)))));replace hs:=b9.ext (q1.n5 q2 q3 q4 q5 q6);refine z0x (id0) U hs U z6q z1m (λg1 d6=>?_);refine z1t U (d6 _ hs) z3x (al y6l U (λh5 w7 g8 b4 q7 z7=>?_));refine z0k (vs:=[_,_]) U b4 y3o (λw8 b4 q8 z8=>?_) (h1:=(by first|(simp[Value.oneCell',S];done)|exact z1j.one _));refine inl (itn (isq (irg U (z0m U b4 z3x (cl (ev1 U) (mkC func122) (x2k (l.getD j id0) _) U ?_)))));rintro _ w9 ⟨rfl,q9⟩;have z9:=q9.size;refine nt' U (inl (itn (icd U (λc3=>?_) (λc3=>?_))));exact absurd f1 c3;exact isk (bn' (itn (irg U (z0q U (wi6 oo) (mv U (inl (x5z (j+1) (.c7 U U U U U U U) ⟨(q6.z3 q7 q8 q9),oo⟩ oo)))))));obtain rfl:j=l.length:=by omega
 refine iex (te (te (xh (itn (isq (isq (irg U (mv U (lnS U underlying42 (gt' U (kpL [(2,_),(3,_),(4,_),(6,_),(41,_)] (.c5 U U U U U) (inl (itn (icd U (λc4=>?_) (λc4=>?_)))))))))))))));exfalso;omega;refine isk (itn (isq (irg U (y6w idV U (λD j4 h3 Z a3 l3=>?_)))));rw[<-v3f]at Z;refine al k0o U (λh6 j5 g9 I a0 l4=>(z2u U I U j6n (λj6 I a1 l5=>(inl (itn (isq (isq (irg U ?_))))))));replace a5:=(a5.ext (q4.n4 q5 q6 a3 a0)).fr a1;refine z0m U a5 z6k (cl (ev1 U) (mkC func42) (y9k q _) U ?_);rintro _ e6 ⟨e7,rfl,e9,b7,O⟩;have l6:=O.size;refine inl (itn (ibl ?_));have a8:∀b∈bdB q,b<w0.heap.size:=BdS.lt b1.s;replace Z:=((Z.ext a0).fr a1 so).ext O;replace hB:=b1.ext ((((q1.n6 q2 q3 q4 q5 q6 a3).n1 a0).z1 a1).n1 O);refine k2q (α:=Bool×Nat) U (mkC func100) dd (y7h 8 e7 q e6 dd b7 hB.s hf hb) (BdS.lt hB.s) (λ_=>rfl) (λx=>[(47,.slice ((q.r x.1).getD x.2 iq0).1.1 ((q.r x.1).getD x.2 iq0).1.2.1 ((q.r x.1).getD x.2 iq0).1.2.2),(46,.agg #[.int .u8 (y4r x.1),.int .i64 ((x.2:Int)+1)])]) (λx=>by simp[ndE,slv]) (λ_=>rfl) (λ(s:List (Bool×Nat)) (W:World)=>Fr [D] e6 W/\MapF idV W D (y1s (x8r q b (n:Int) s))) (λ_ _=>False) (λs W W' ht h=>⟨h.1.turn ht (Nat.le_refl _),h.2.turn ht oo⟩) (λ_ _ _ _ h=>h.elim) (λs W h=>h.1.size) ⟨Fr.refl _ _,Z⟩ 85 (λx=>[.int .u8 (y4r x.1),.int .i64 ((x.2:Int)+1)]) (λg x=>[(12,.pointer (some ⟨g,0,none⟩)),(13,.slice ((q.r x.1).getD x.2 iq0).1.1 ((q.r x.1).getD x.2 iq0).1.2.1 ((q.r x.1).getD x.2 iq0).1.2.2)]) [(4,_),(11,_)] (.c2 U U) ?_ ?_ ?_ (λ_ _ _ _ _ h _=>h.elim);rintro lN e4 x j7 ⟨j3,Z⟩ j0;refine y7v [(46,.agg #[.int .u8 (y4r x.1),.int .i64 ((x.2:Int)+1)]),(47,.slice ((q.r x.1).getD x.2 iq0).1.1 ((q.r x.1).getD x.2 iq0).1.2.1 ((q.r x.1).getD x.2 iq0).1.2.2),(4,_),(11,_)] (.c4 U U U U) (isq (irg U (al j1u U (λd5 j8 e0 a4 f5 l7=>?_))));refine z0k (vs:=[_,_]) U a4 v5m (λj9 a4 f6 l8=>?_) (h1:=(by first|(simp[Value.oneCell',S];done)|exact z1j.one _));exact inl (itn (irg U (asg U (inl (asE d5 oo (.c4 U U U U) a4 (f5.z1 f6))))));rintro lN e4 x d5 f9 i4 e0 a4 ⟨b2,Z⟩ i5 i8;have l9:=b2.size;have e2:=a4.lt;have e1:=Z;have i9:(q.r x.1).length<=40:=by cases x.1<;>assumption
 have j1:=z4e (show y0w (q.r x.1) by cases x.1<;>assumption) x.2;have j2:((q.r x.1).getD x.2 iq0).1.2.1=((q.r x.1).getD x.2 iq0).2.length:=z2g (z1p (b1.iq x.1) x.2);refine ibl (isq (irg U (z0m U a4 z8c ?_)));replace a6:=(((a6.ext (q5.n3 q6 a3 a0)).fr a1).ext O).fr b2;refine z0m U a6 z8c (j0j (V:=ndV) (e:=(y4r x.1,(x.2:Int)+1)) (f:=(b,(n:Int))) U U k3d U (inl (itn (icd U (λc5=>?_) (λc5=>?_)))));refine isq (irg U (mv U (lnS U underlying42 (mv U (inl (itn (ibl (v3e (ι:=Nat) [(11,_),(51,_),(52,_)] (λj=>[(53,.int .i64 (j:Int))]) (λj w'=>Fr [D] f9 w'/\j<=((q.r x.1).getD x.2 iq0).2.length/\MapF idV w' D (y1s (x8r q b (n:Int) e4++((q.r x.1).getD x.2 iq0).2.take j))) (λj=>((q.r x.1).getD x.2 iq0).2.length-j) 0 (.c4 U U U U) ⟨Fr.refl _ _,⟨Nat.zero_le _,by rw[List.take_zero,List.append_nil];exact Z⟩⟩ ?_))))))));rintro j k0 ⟨b3,⟨hj,Z⟩⟩;have m0:=b3.size;refine y7v [(11,_),(51,_),(52,_),(53,_)] (.c4 U U U U) (isq (irg U (lt' U (inl (itn (isq (icd U (λc6=>?_) (λc6=>?_))))))));refine isk (itn (isq (ibl (isq (irg U ?_)))));replace hB:=b1.ext ((((q1.n6 q2 q3 q4 q5 q6 a3).n1 a0).z1 a1).z3 O b2 b3);refine z0x (id0) U (z1p (hB.iq x.1) x.2) U z6q z1m (λg5 d7=>?_);refine z1t U (d7 _ (z1p (hB.iq x.1) x.2)) z3x (al y6l U (λh7 k1 h0 b5 c9 m1=>?_));refine z0k (vs:=[_,_]) U b5 y3o (λk2 b5 d0 m2=>?_) (h1:=(by first|(simp[Value.oneCell',S];done)|exact z1j.one _));refine inl (itn (irg U ?_));replace I:=((((I.ext O).fr b2).fr b3).ext c9).fr d0;refine z2j U I v9n (z0m U b5 z3x ?_);replace Z:=(Z.ext c9).fr d0 so;refine x3l (V:=idV) (k:=(((q.r x.1).getD x.2 iq0).2.getD j id0)) U U U Z z6t underlying192 (λk4 Z f7 m3=>?_);rw[x1m]at Z;exact inl (bn' (itn (irg U (z0q U (wi6 oo) (mv U (inl (x5z (j+1) (.c4 U U U U) ⟨((Fr.refl [D] _).z4 b3 c9 d0 f7),⟨oo,by rw[z6d id0 oo,<-List.append_assoc];exact Z⟩⟩ oo)))))));obtain rfl:j=((q.r x.1).getD x.2 iq0).2.length:=by omega
 rw[List.take_length]at Z;exact iex (te (te (xh (bn' (j6f (S:=[D]) ((Fr.refl [D] _).z1 b3) (λk hk _=>.inr (by cases List.mem_singleton.1 hk;exact⟨oo,e1.noncells⟩)) (λb hb=>Nat.lt_of_lt_of_le (a8 b hb) oo) (λb hb e=>by simp at e;have:=a8 b hb;omega) ⟨((Fr.refl [D] _).z2 b2 b3),by rw[x5g,oth,if_neg c5];exact Z⟩)))));exact isk (bn' (j6f (S:=[D]) (Fr.refl _ _) (λk hk _=>.inr (by cases List.mem_singleton.1 hk;exact⟨oo,e1.noncells⟩)) (λb hb=>Nat.lt_of_lt_of_le (a8 b hb) oo) (λb hb e=>by simp at e;have:=a8 b hb;omega) ⟨((Fr.refl [D] _).z1 b2),by rw[x5g,oth,if_pos (Classical.not_not.1 c5),List.append_nil];exact Z⟩));rintro D1 l2 g0 h9 hS ⟨a7,Z⟩ b0;have m4:=a7.size;have b8:=b0;have e3:=b0.lt;subst hS;refine bn' (itn (isq (isq (irg U (mv U (lnS U underlying42 (mv U (inl (itn (ibl (v3e (ι:=Nat) [(2,_),(3,_),(4,_),(6,_),(11,_),(60,_),(61,_)] (λj=>[(62,.int .i64 (j:Int))]) (λj w'=>Fr [D] g0 w'/\j<=l.length/\MapF idV w' D (y1s (x8r q b (n:Int) (ndP q [false,true])++l.take j))) (λj=>l.length-j) 0 (.c8 U U U U U U U U) ⟨Fr.refl _ _,⟨Nat.zero_le _,by rw[List.take_zero,List.append_nil];exact Z⟩⟩ ?_)))))))))));rintro j k5 ⟨a2,⟨hj,Z⟩⟩;have m5:=a2.size;refine y7v [(2,_),(3,_),(4,_),(6,_),(11,_),(60,_),(61,_),(62,_)] (.c8 U U U U U U U U) (isq (irg U (lt' U (inl (itn (isq (icd U (λc7=>?_) (λc7=>?_))))))));have f3:=j4t (j:=j) hn hd oo;refine isk (itn (isq (ibl (isq (irg U ?_)))));replace hs:=b9.ext ((((q1.n6 q2 q3 q4 q5 q6 a3).n1 a0).z1 a1).z3 O a7 a2);refine z0x (id0) U hs U z6q z1m (λg7 d9=>?_);refine z1t U (d9 _ hs) z3x (al y6l U (λh8 k6 h2 a9 d1 m6=>?_));refine z0k (vs:=[_,_]) U a9 y3o (λk7 a9 d3 m7=>?_) (h1:=(by first|(simp[Value.oneCell',S];done)|exact z1j.one _));refine inl (itn (isq (isq (irg U ?_))));replace I:=((((I.ext O).fr a7).fr a2).ext d1).fr d3;refine z2j U I v9n (z0m U a9 z3x ?_);replace Z:=(Z.ext d1).fr d3 so;refine x2w (V:=idV) (k:=(l.getD j id0)) (f:=y1s (x8r q b (n:Int) (ndP q [false,true])++l.take j)) U U Z z6t underlying192 zv4 (v2b _ _) U (inl (itn (icd U (λc8=>?_) (λc8=>?_))));exact absurd c8 f3;refine isk (itn (irg U (z2j U I v9n (z0m U a9 z3x (x3l (V:=idV) (k:=(l.getD j id0)) U U U Z z6t underlying192 (λk8 Z f8 m8=>?_))))));rw[x1m]at Z;exact inl (bn' (itn (irg U (z0q U (wi6 oo) (mv U (inl (x5z (j+1) (.c8 U U U U U U U U) ⟨((Fr.refl [D] _).z4 a2 d1 d3 f8),⟨oo,by rw[z6d id0 oo,<-List.append_assoc];exact Z⟩⟩ oo)))))));obtain rfl:j=l.length:=by omega
 refine iex (te (te (xh (itn (isq (irg U ?_))))));replace a5:=((a5.ext O).fr a7).fr a2;refine z0m U a5 z6k ?_;replace a6:=((((a6.ext (q5.n3 q6 a3 a0)).fr a1).ext O).fr a7).fr a2;refine z0m U a6 z8c (mv U ?_);replace hB:=b1.ext ((((q1.n6 q2 q3 q4 q5 q6 a3).n1 a0).z1 a1).z3 O a7 a2);replace hs:=b9.ext ((((q1.n6 q2 q3 q4 q5 q6 a3).n1 a0).z1 a1).z3 O a7 a2);refine cl (ev3 U) (mkC func180) (y7t q b n _ l _ hB hs hn hf hb h4 e8 f0) U ?_;rintro _ k9 ⟨⟨q',rfl,a8,f4⟩,q27⟩;have m9:=q27.size;replace b6:=(((((b6.ext (q4.n4 q5 q6 a3 a0)).fr a1).ext O).fr a7).fr a2).ext q27;refine z0k (vs:=[_,_]) U b6 x7z (λl0 b6 d4 n7=>?_) (h1:=(by first|(simp[Value.oneCell',S];done)|exact z1j.one _));refine asg U (kpL [(6,_),(7,_)] (.c2 U U) (inl (itn (irt ?_))));replace b0:=b8.fr ((Fr.refl [g6,D] _).z3 a2 q27 d4) so;refine rMCT results141 U b6 z6k U (x6h b0) sp0 ?_;intro l1 e5;replace a8:=(a8.fr d4 (by intro k hk;simp at hk;omega)).fr e5 (by intro k hk;simp at hk;omega);exact⟨_,rfl,⟨q',rfl,a8.low oo,f4⟩,((((q1.n6 q2 q3 q4 q5 q6 a3).n1 a0).z1 a1).z6 O a7 a2 q27 d4 e5)⟩
theorem u8w:CallOf prog 39:=mkC func39
theorem v6z (q:BdQ)(b:Int)(n m:Nat)(w0:World)(hB:BdAt w0 q)(hv:BdOk q.p)(hn:z4g b (n:Int)=0)(hm:z4g (1-b) (m:Int)=0)(e5:(q.p.at b (n:Int))≠[]):Rets prog 140 #[.agg #[.slice q.f.1 q.f.2.1 q.f.2.2,.slice q.b.1 q.b.2.1 q.b.2.2],.agg #[.int .u8 b,.int .i64 (n:Int)],.agg #[.int .u8 (1-b),.int .i64 (m:Int)]] w0 λr w'=>(∃q':BdQ,r=.tuple #[.agg (bdL q').toArray,.int .i64 (if 4<(q.p.at b (n:Int)).length+(q.p.at (1-b) (m:Int)).length then 9 else 0)]/\(¬4<(q.p.at b (n:Int)).length+(q.p.at (1-b) (m:Int)).length->BdO 42 54 w0.heap.size w' q'/\q'.p=(q.p.put b (n:Int) []).put (1-b) (m:Int) (y7z q.p b (n:Int) (m:Int))))/\Fr [] w0 w':=by
 obtain⟨⟨hf,hb⟩,h4,b9⟩:=z4b hv;have i0:=z3n hn;have h9:=z3n hm;have h7:=y2e hv b (n:Int);have h8:=y2e hv (1-b) (m:Int);have h6:=v5c q.p b (n:Int) (m:Int);have d7:=v4o hv hn;have f6:0<(q.p.at b (n:Int)).length:=List.length_pos_iff.2 e5;refine we [(0,.agg #[.slice q.f.1 q.f.2.1 q.f.2.2,.slice q.b.1 q.b.2.1 q.b.2.2]),(1,.agg #[.int .u8 b,.int .i64 (n:Int)]),(2,.agg #[.int .u8 (1-b),.int .i64 (m:Int)])] func140 U ntmps140 U (.c3 U U U) ?_;have c9:=hB;refine sr (bx U (λg3 w1 h1 O q1 z1=>(bx U (λg4 w2 h2 D q2 z2=>(bx U (λg5 w3 h3 I q3 z3=>(al v4k U (λg6 w4 h5 a0 q4 z4=>(asg U (nn (sq (sr ?_))))))))))));replace O:=O.ext (q2.n2 q3 q4);refine z0m U O z6k ?_;replace hB:=c9.ext (q1.n3 q2 q3 q4);refine cl (ev1 U) (mkC func74) (x1e q _ hB hv) U ?_;rintro _ w5 ⟨rfl,q5⟩;have z5:=q5.size;refine asg U (nn (sr (mv U (ne' U (nn (cd U (λc0=>?_) (λc0=>?_)))))));exact absurd U c0;refine sk (tn (sq (sq (u2n (r:=32) (L':=[(3,_),(4,_),(5,_),(6,_)]) ((((0≠0)\/(0≠0))\/(b=(1-b)))) (.c4 U U U U) ?_ ?_))));replace D:=D.ext (q3.n2 q4 q5);refine z0m U D z8c (cl (ev1 U) u5t (z5i _ _ _) U ?_);rintro _ w6 ⟨rfl,q6⟩;have z6:=q6.size;refine ne' U (mv U (gs 21 U (λg0=>?_) (λg0=>?_)));exact gN U (gN U (gN U (pkt U (mv U (gN U (gN U (gN U (gN U (gN U (pkt U (y5c U (.c4 U U U U) q6)))))))))));refine gY U ?_;replace I:=I.ext (q4.n2 q5 q6);refine z0m U I z8c (gY U (cl (ev1 U) u5t (z5i _ _ _) U ?_));rintro _ w7 ⟨rfl,q7⟩;have z7:=q7.size;refine gY U (ne' U (pkf U (mv U (gs 26 U (λg1=>?_) (λg1=>?_)))));exact gN U (gN U (gN U (gN U (gN U (pkt U (y5c U (.c4 U U U U) (q6.n1 q7)))))));refine gY U (fad U z9i (gY U ?_));replace D:=D.ext (q6.n1 q7);refine z0i U D U v0a (gY U (fad U z9i (gY U ?_)));replace I:=I.ext q7;exact z0i U I U v0a (gY U (eq' U (pkf U (y5c U (.c4 U U U U) (q6.n1 q7)))));intro w8 q8;have z8:=q8.size;refine tn (cd U (λc1=>?_) (λc1=>?_));exfalso;omega;refine sk (tn (sq ?_));replace hB:=c9.ext (q1.n5 q2 q3 q4 q5 q8);intro a h;refine z0h none (λwb w'=>Fr [] wb w') z2y ?_;intro w9 q9;have z9:=q9.size;replace hB:=hB.ext q9;replace O:=O.ext (q5.n2 q8 q9);replace D:=D.ext (q3.n4 q4 q5 q8 q9);replace I:=I.ext (q4.n3 q5 q8 q9);have hC:Fr [] w9 w9:=Fr.refl _ _;have b5:=hB;have a4:=O;have a5:=D;have a6:=I;refine z0z 0 h U (λ_ hw=>a4.ext hw) z6k U λa h=>z0z 1 h U (λ_ hw=>a5.ext hw) z8c U λa h=>z0z 3 h U (λ_ hw=>a4.ext hw) z6k U λa h=>z0z 4 h U (λ_ hw=>a6.ext hw) z8c U λa h=>z0e 2 U (z0n h (z0a U (z0a U z0g)) u8w (x4d q b (n:Int) _ hB oo hf hb h4 b9) ?_);rintro i1 i5 ⟨Z,a7⟩ a h;have j5:=a7.size;replace hB:=hB.ext a7;replace O:=O.ext a7;replace D:=D.ext a7;replace I:=I.ext a7;replace hC:=hC.next a7;rw[y9n hn]at Z;obtain⟨f7,f9,rfl,f2⟩:=Z.sl.form;have b7:=λk hb=>(Z.blk k hb).2;refine z0b (z0e 5 U (z0n h (z0a U (z0a U z0g)) u8w (x4d q (1-b) (m:Int) _ hB oo hf hb h4 b9) ?_));rintro i2 i7 ⟨a1,hq⟩ a h;have j6:=hq.size;replace hB:=hB.ext hq;replace O:=O.ext hq;replace D:=D.ext hq;replace I:=I.ext hq;replace Z:=Z.ext hq;replace hC:=hC.next hq;have b6:=hq;rw[y9n hm]at a1;obtain⟨f8,g7,rfl,f3⟩:=a1.sl.form;have b8:=λk hb=>(a1.blk k hb).2;refine z0b (z0e 6 U (z0s h U λa h=>?_));refine z0b (z0e 7 U (z0s h U λa h=>?_));refine z0b (z0r ?_);clear hC b5 a4 a5 a6;refine bk (h.sub (L':=[(3,_),(4,_),(5,_),(6,_),(9,_),(10,_)]) (.c6 U U U U U U)) (tn (sq (sr (mv U (lnS U underlying42 (eq' U (nn (cd U (λc2=>?_) (λc2=>?_)))))))));exfalso;omega;refine sk (tn (sq (sr (mv U (lnS U underlying42 (mv U (lnS U underlying42 (z0q U (wi6 oo) (gt' U (kpL [(3,_),(4,_),(5,_),(6,_),(9,_),(10,_),(49,_)] (.c7 U U U U U U U) (nn (cd U (λc3=>?_) (λc3=>?_)))))))))))));refine sr (z1z (cs:=[_,_]) z0g j6g z0t U ?_);replace a0:=a0.ext (q5.n4 q8 q9 a7 b6);exact z0k (vs:=[_,_]) U a0 x7z (λi8 a0 e9 j7=>(asg U (kpL [(6,_),(7,_)] (.c2 U U) (nn (rt (tr (rCT results140 U a0 z6k U ⟨_,rfl,⟨bdq0,by rw[if_pos oo];rfl,λh=>absurd oo h⟩,((((q1.n6 q2 q3 q4 q5 q8 q9).n1 a7).n1 b6).z1 e9)⟩)))))));refine sk (tn (sr (mv U (cl (ev1 U) (mkC func98) (x2z _ (q.p.at (1-b) (m:Int)) _ a1.sl oo) U ?_))));rintro _ i9 ⟨g8,rfl,f4,hX,a8⟩;have j8:=a8.size;refine mv U ?_;replace Z:=Z.ext a8;replace a1:=a1.ext a8;replace O:=O.ext a8;replace D:=D.ext a8;replace I:=I.ext a8;replace a0:=a0.ext (q5.n5 q8 q9 a7 b6 a8);have a2:=hX;refine z1x U hX Z.sl z6q (λi3 f0 hX a9 e6=>?_) (hM:=(by unfold maxLen;omega)) (hb:=oo);have j9:=a9.size;replace Z:=Z.fr a9 (λk hk hb=>by have:=(a2.blk k hk).1;have:=b7 k hb;omega);replace a1:=a1.fr a9 (λk hk hb=>by have:=(a2.blk k hk).1;have:=b8 k hb;omega);replace O:=O.fr a9 (λhk=>by have:=(a2.blk _ hk).1;omega);replace D:=D.fr a9 (λhk=>by have:=(a2.blk _ hk).1;omega);replace I:=I.fr a9 (λhk=>by have:=(a2.blk _ hk).1;omega);replace a0:=a0.fr a9 (λhk=>by have:=(a2.blk _ hk).1;omega);refine asg U (nn (jn (ι:=Value) [(3,_),(4,_),(5,_),(6,_)] (λp=>[(11,p)]) (λp w'=>Fr [] f0 w'/\Lw.Own z1j 54 w0.heap.size w' p (y7z q.p b (n:Int) (m:Int))) (.c4 U U U U) ?_ ?_));refine sr (fad U z9i (z0i U D U v0a (eq' U (nn (cd U (λc4=>?_) (λc4=>?_))))));refine rg (mv U (cl (ev1 U) (mkC func98) (x2z _ (q.p.at b (n:Int)) _ Z.sl oo) U ?_));rintro _ j0 ⟨g9,rfl,f5,hY,b0⟩;have k0:=b0.size;refine mv U ?_;replace Z:=Z.ext b0;replace a1:=a1.ext b0;replace O:=O.ext b0;replace D:=D.ext b0;replace I:=I.ext b0;replace a0:=a0.ext b0;have a3:=hY;refine z1x U hY a1.sl z6q (λi4 j1 hY b1 e7=>?_) (hM:=(by unfold maxLen;omega)) (hb:=oo);have k1:=b1.size;replace Z:=Z.fr b1 (λk hk hb=>by have:=(a3.blk k hk).1;have:=b7 k hb;omega);replace a1:=a1.fr b1 (λk hk hb=>by have:=(a3.blk k hk).1;have:=b8 k hb;omega);replace O:=O.fr b1 (λhk=>by have:=(a3.blk _ hk).1;omega);replace D:=D.fr b1 (λhk=>by have:=(a3.blk _ hk).1;omega);replace I:=I.fr b1 (λhk=>by have:=(a3.blk _ hk).1;omega);replace a0:=a0.fr b1 (λhk=>by have:=(a3.blk _ hk).1;omega);exact asg U (kpL [(3,_),(4,_),(5,_),(6,_),(11,_)] (.c5 U U U U U) (nl (jE (_) (.c5 U U U U U) ⟨(b0.step b1 (λk hk d6=>absurd (a3.blk k hk).1 oo)),(by unfold y7z;rw[if_pos oo];exact hY.low oo)⟩)));exact sk (jE (_) (.c5 U U U U U) ⟨(Fr.refl _ _),(by unfold y7z;rw[if_neg oo];exact hX.low oo)⟩);rintro vS j2 ⟨b3,hS⟩;have k2:=b3.size;refine kpC [(3,_),(4,_),(5,_),(6,_),(11,vS)] (.c5 U U U U U) ?_;obtain⟨AS,cS,rfl,h0⟩:=hS.sl.form;refine sq ?_;replace hB:=c9.ext ((((((q1.n6 q2 q3 q4 q5 q8 q9).n1 a7).n1 b6).n1 a8).step a9 (λk hk d6=>absurd (a2.blk k hk).1 oo)).next b3);intro a h;refine z0h (some 6) (λwb w'=>Fr [] wb w') z2y ?_;intro e0 b2;have k4:=b2.size;replace hB:=hB.ext b2;replace O:=O.ext (b3.n1 b2);replace D:=D.ext (b3.n1 b2);replace I:=I.ext (b3.n1 b2);replace a0:=a0.ext (b3.n1 b2);replace hS:=hS.ext b2;have hC:Fr [] e0 e0:=Fr.refl _ _;have b5:=hB;have a4:=O;have a5:=D;have a6:=I;have d1:=a0;have d4:=hS;refine z0z 0 h U (λ_ hw=>a4.ext hw) z6k U λa h=>z0z 1 h U (λ_ hw=>a5.ext hw) z8c U λa h=>z0z 3 h U (λ_ hw=>a6.ext hw) z8c U λa h=>z0d 4 h U λa h=>z0e 2 U (z0n h (z0a U (z0a U (z0a U z0g))) (mkC func180) (y7t q b n _ [] _ hB (Sl.nil _) hn hf hb h4 b9 (Nat.zero_le _)) ?_);rintro _ j3 ⟨⟨qa,rfl,e2,d9⟩,q19⟩ a h;have k5:=q19.size;replace hS:=hS.ext q19;replace hC:=hC.next q19;rw[<-d9]at d7;obtain⟨⟨e4,e3⟩,e1,d3⟩:=z4b d7;refine z0b (z0e 5 U (z0n h (z0a U (z0a U (z0a U z0g))) (mkC func180) (y7t qa (1-b) m _ (y7z q.p b (n:Int) (m:Int)) _ e2.at hS.sl hm e4 e3 e1 d3 oo) ?_));rintro _ j4 ⟨⟨qb,rfl,d0,e8⟩,q20⟩ a h;have k6:=q20.size;replace O:=O.ext (q19.n1 q20);replace D:=D.ext (q19.n1 q20);replace I:=I.ext (q19.n1 q20);replace a0:=a0.ext (q19.n1 q20);replace hC:=hC.next q20;refine z0b (z0e 6 U (z0v h U a0 U x7z λf1 d5 b4 hz a h=>?_));have k7:=b4.size;replace O:=O.fr b4;replace D:=D.fr b4;replace I:=I.fr b4;replace d0:=d0.fr b4 (by intro k hk;simp at hk;omega);clear a0 hz;have a0:Blk f1 g6 _ [_,_]:=d5;clear d5;refine z1h (z0e 7 U (z0s h U λa h=>?_));refine z1h (z0r ?_);clear hC b5 a4 a5 a6 d1 d4;exact bk (h.sub (L':=[(6,_),(7,_)]) (.c2 U U)) (tn (rt (rCT results140 U a0 z6k U ⟨_,rfl,⟨qb,by rw[if_neg oo],λ_=>⟨d0.low oo,by rw[e8,d9]⟩⟩,((((((((((q1.n6 q2 q3 q4 q5 q8 q9).n1 a7).n1 b6).n1 a8).step a9 (λk hk d6=>absurd (a2.blk k hk).1 oo)).next b3).next b2).next q19).next q20).sp b4)⟩)))
end Go.Proofs.YtagnnbcnnmacmaaGreatDoor
namespace Go.G08
open Go.Lw Go.G21
abbrev u9g:List Value:=[.int .i64 (-1),.int .i64 1]
theorem y7a {d:Int}(h:d=0\/d=1):u9g[d.toNat*1]?=some (.int .i64 (stI d)):=by
 rcases h with rfl|rfl<;>rfl
def y1e (x y:Int):Int:=if x<y then -1 else if y<x then 1 else 0
theorem z9s {x y:Int}:y1e x y<0↔x<y:=by
 unfold y1e;split;simp[*];split<;>simp[*]
abbrev hdL (h:Hd):List Value:=[.int .u8 h.id.y,.int .i64 h.id.n,.int .u8 h.b,.int .i64 h.n,.int .i64 h.s]
def z4h:Enc Hd:=⟨hdL,5,λ_=>rfl,λ_ u h=>by simp at h;rcases h with rfl|rfl|rfl|rfl|rfl<;>rfl,dd⟩
def x5a (l:List Hd):Prop:=l.Pairwise λa b=>a.s<=b.s
theorem v2s {h x:Hd}:∀ {l:List Hd},x∈y4b h l↔x=h\/x∈l
 | []=>by simp[y4b]
 | y::l=>by
  unfold y4b
  split
  ·simp
  simp only[List.mem_cons,v2s (l:=l)]
  constructor
  ·rintro(h|h|h)<;>simp[h]
  rintro(h|h|h)<;>simp[h]
theorem v0z (h:Hd):∀l:List Hd,(y4b h l).length=l.length+1
 | []=>rfl
 | y::l=>by
  unfold y4b;split
  ·rfl
  simp[v0z h l]
theorem x1f (h:Hd):∀l:List Hd,x5a l->x5a (y4b h l)
 | [],_=>List.pairwise_singleton ..
 | y::l,hs=>by
  obtain⟨O,Z⟩:=List.pairwise_cons.1 hs
  unfold y4b
  split
  ·rename_i I
   refine List.pairwise_cons.2 ⟨λz D=>?_,hs⟩
   rcases List.mem_cons.1 D with rfl|D
   ·omega
   have:=O z D;omega
  rename_i I
  refine List.pairwise_cons.2 ⟨λz D=>?_,x1f h l Z⟩
  rcases v2s.1 D with rfl|D
  ·omega
  exact O z D
theorem u1z (l:List Hd)(h:Hd):z5v (l++[h])=y4b h (z5v l):=by unfold z5v;rw[List.foldl_append];rfl
theorem x9s:∀(l a:List Hd),x5a a->x5a (l.foldl (λa h=>y4b h a) a)
 | [],a,h=>h
 | x::l,a,h=>x9s l _ (x1f x a h)
theorem z8z (l:List Hd):x5a (z5v l):=x9s l [] List.Pairwise.nil
theorem x4z:∀(l a:List Hd),(l.foldl (λa h=>y4b h a) a).length=a.length+l.length
 | [],a=>rfl
 | x::l,a=>by simp only[List.foldl_cons,x4z l,v0z,List.length_cons];omega
theorem z4w (l:List Hd):(z5v l).length=l.length:=by unfold z5v;rw[x4z];simp
theorem u1e {x:Hd}:∀ {A B:List Hd},(∀y∈A,¬x.s<y.s)->(∀y∈B,x.s<y.s)->y4b x (A++B)=A++x::B
 | [],[],_,_=>rfl
 | [],y::B,_,h=>by
  show y4b x (y::B)=x::y::B
  unfold y4b;rw[if_pos (h y (List.mem_cons_self ..))]
 | z::A,B,h1,h2=>by
  show y4b x (z::(A++B))=z::(A++x::B)
  unfold y4b
  rw[if_neg (h1 z (List.mem_cons_self ..)),u1e (λy D=>h1 y (List.mem_cons_of_mem _ D)) h2]
def y4d (P s:List Hd)(k:Nat)(x:Hd)(R:List Hd):List Hd:=P++(s.take k++(x::(s.drop k++R)))
theorem u4e {P s R:List Hd}{k:Nat}{x:Hd}:(y4d P s k x R).length=P.length+s.length+1+R.length:=by
 unfold y4d;have h:(s.take k).length+(s.drop k).length=s.length:=by rw[<-List.length_append,List.take_append_drop]
 simp only[List.length_append,List.length_cons];omega
theorem j7m {P s R:List Hd}{k:Nat}{x d:Hd}(D:k<=s.length):(y4d P s k x R).getD (P.length+k) d=x:=by
 unfold y4d;rw[List.getD,List.getElem?_append_right oo,show P.length+k-P.length=(s.take k).length+0 by rw[List.length_take];omega,List.getElem?_append_right oo];simp
theorem u8z {P s R:List Hd}{k:Nat}{x d:Hd}(D:k+1<=s.length):(y4d P s (k+1) x R).getD (P.length+k) d=s.getD k d:=by
 unfold y4d;rw[List.getD,List.getD,List.getElem?_append_right oo,show P.length+k-P.length=k by omega,List.getElem?_append_left (by rw[List.length_take];omega),List.getElem?_take,if_pos oo]
theorem x6q {P s R:List Hd}{k:Nat}{x d:Hd}(O:k+1<=s.length):((y4d P s (k+1) x R).set (P.length+k+1) (s.getD k d)).set (P.length+k) x=y4d P s k x R:=by
 have D:y4d P s (k+1) x R=(P++s.take k)++(s.getD k d::x::(s.drop (k+1)++R)):=by
  unfold y4d;have e:s.take (k+1)=s.take k++[s.getD k d]:=by rw[List.take_add_one,List.getD,List.getElem?_eq_getElem oo];rfl
  rw[e];simp only[List.append_assoc,List.cons_append,List.nil_append]
 have I:y4d P s k x R=(P++s.take k)++(x::s.getD k d::(s.drop (k+1)++R)):=by
  unfold y4d;have e:s.drop k=s.getD k d::s.drop (k+1):=by rw[List.drop_eq_getElem_cons (show k<s.length by omega),List.getD,List.getElem?_eq_getElem oo];rfl
  rw[e];simp only[List.append_assoc,List.cons_append]
 have hl:(P++s.take k).length=P.length+k:=by rw[List.length_append,List.length_take];omega
 rw[D,I,List.set_append_right _ _ oo,show P.length+k+1-(P++s.take k).length=1 by omega,List.set_append_right _ _ oo,show P.length+k-(P++s.take k).length=0 by omega];rfl
theorem x6e {P s R:List Hd}{k:Nat}{x:Hd}(Z:x5a s)(hk:k<=s.length)(h1:k=0\/¬x.s<(s.getD (k-1) hd0).s)(O:∀j,k<=j->j<s.length->x.s<(s.getD j hd0).s):y4d P s k x R=P++(y4b x s++R):=by
 have e:y4b x s=s.take k++x::s.drop k:=by
  conv=>lhs;rw[<-List.take_append_drop k s]
  refine u1e (λy I=>?_) (λy I=>?_)
  ·obtain⟨j,D,rfl⟩:=List.getElem_of_mem I
   rw[List.length_take]at D
   rw[List.getElem_take]
   rcases h1 with rfl|h1
   ·omega
   rw[List.getD,List.getElem?_eq_getElem oo]at h1
   simp only[Option.getD_some]at h1
   by_cases e:j=k-1
   ·subst e;exact h1
   have:=List.pairwise_iff_getElem.1 Z j (k-1) oo oo oo
   omega
  obtain⟨j,D,rfl⟩:=List.getElem_of_mem I
  rw[List.length_drop]at D
  rw[List.getElem_drop]
  have:=O (k+j) oo oo
  rwa [List.getD,List.getElem?_eq_getElem oo]at this
 unfold y4d
 rw[e];simp
theorem v3l {P s R:List Hd}{x:Hd}:y4d P s s.length x R=P++(s++x::R):=by
 unfold y4d;rw[List.take_length,List.drop_length];rfl
def z8p (l:List Hd)(lo up i:Nat):List Hd:=l.take lo++(z5v ((l.take (min i up)).drop lo)++l.drop (min i up))
theorem z7e {l:List Hd}{D i:Nat}(h:D<=i)(I:i<=l.length):(z5v ((l.take i).drop D)).length=i-D:=by
 rw[z4w,List.length_drop,List.length_take];omega
theorem j8j {l:List Hd}{D I:Nat}(h:D<=I)(hu:I<=l.length):z8p l D I (D+1)=l:=by
 unfold z8p;by_cases e:D<I;rw[show min (D+1) I=D+1 by omega];have O:(l.take (D+1)).drop D=[l.getD D hd0]:=by
  rw[List.take_add_one,List.drop_append,List.drop_eq_nil_of_le (by rw[List.length_take];omega),List.length_take,show D-min D l.length=0 by omega,List.getD,List.getElem?_eq_getElem oo];rfl
 rw[O];have Z:z5v [l.getD D hd0]=[l.getD D hd0]:=rfl;rw[Z,<-List.append_assoc];have h3:l.take D++[l.getD D hd0]=l.take (D+1):=by rw[List.take_add_one,List.getD,List.getElem?_eq_getElem oo];rfl
 rw[h3,List.take_append_drop];rw[show min (D+1) I=D by omega];have O:(l.take D).drop D=[]:=List.drop_eq_nil_of_le (by rw[List.length_take];omega);rw[O];exact List.take_append_drop D l
theorem j0d {l:List Hd}{D I i:Nat}(h:D<=i)(O:i<I)(Z:I<=l.length):z8p l D I i=y4d (l.take D) (z5v ((l.take i).drop D)) (i-D) (l.getD i hd0) (l.drop (i+1)):=by
 have hl:=z7e (l:=l) h oo;rw[<-hl,v3l];unfold z8p;rw[show min i I=i by omega];congr 2;rw[List.drop_eq_getElem_cons (show i<l.length by omega),List.getD,List.getElem?_eq_getElem oo];rfl
theorem x3t {l:List Hd}{D I i:Nat}(h:D<=i)(Z:i<I)(hu:I<=l.length):l.take D++(y4b (l.getD i hd0) (z5v ((l.take i).drop D))++l.drop (i+1))=z8p l D I (i+1):=by
 unfold z8p;rw[show min (i+1) I=i+1 by omega];have O:(l.take (i+1)).drop D=(l.take i).drop D++[l.getD i hd0]:=by
  rw[List.take_add_one,List.drop_append,List.length_take,show D-min i l.length=0 by omega,List.getD,List.getElem?_eq_getElem oo];rfl
 rw[O,u1z]
theorem u5q {l:List Hd}{I D i:Nat}(h:D<=i):z8p l I D i=z8p l I D D:=by
 unfold z8p;rw[show min i D=min D D by omega]
theorem x2a (b r:Int)(l:Bed)(i:Nat):hds b r l (i+1)=hds b r l i++(l.getD i []).map (hdS b r i):=by
 unfold hds;rw[List.range_succ,List.flatMap_append];simp
theorem x9n (b r:Int)(l:List IQ)(h:y0w l)(i:Nat):(hds b r (plB l) i).length<=4*i:=by
 induction i with
 | zero=>simp[hds]
 | succ i ih=>
  rw[x2a,List.length_append,List.length_map,z4x];have:=z4e h i;omega
theorem y5x {α β:Type}(f:α->β){l:List α}{j:Nat}(d:α)(h:j<l.length):(l.take (j+1)).map f=(l.take j).map f++[f (l.getD j d)]:=by
 rw[z6d d h,List.map_append];rfl
theorem u1j (b r:Int)(l:Bed):(hds b r l l.length).length=l.flatten.length:=by
 induction l with
 | nil=>rfl
 | cons s l ih=>
  unfold hds at *
  rw[List.length_cons,List.range_succ_eq_map,List.flatMap_cons,List.length_append,List.flatMap_map,List.flatten_cons,List.length_append,<-ih];simp[List.length_flatMap,Function.comp_def]
theorem y2u (B:Bd)(r:Int):(u2r B r).length=B.flat.length:=by
 unfold u2r Bd.flat;rw[List.length_append,List.length_append,u1j,u1j]
def IsB (v:Value):Prop:=∃g n c,v=Value.slice (some ⟨g,0,none⟩) n c
theorem j3i {α:Type}{E:Enc α}{T base:Nat}{w:World}{v:Value}{ys:List α}(h:Lw.Own E T base w v ys)(D:ys≠[]):IsB v:=by
 rcases h with ⟨rfl,rfl⟩|⟨g,cap,cur,rfl,_⟩
 exact absurd U D;exact⟨_,_,_,rfl⟩
theorem u3r {α:Type}{E:Enc α}{T base:Nat}{w:World}{v:Value}{ys:List α}(h:IsB v)(D:Lw.Own E T base w v ys):∃g c,v=.slice (some ⟨g,0,none⟩) ys.length c:=by
 obtain⟨g,n,c,rfl⟩:=h;obtain⟨A,I,e,_⟩:=D.sl.form;cases e;exact⟨_,_,rfl⟩
def j0f {α:Type}(d:α)(ys zs:List α)(k:Nat):Prop:=zs.length=ys.length/\∀p,p<ys.length->zs.getD p d=if p<k\/ys.length-1-p<k then ys.getD (ys.length-1-p) d else ys.getD p d
theorem z8i {α:Type}{d:α}{ys zs:List α}{k:Nat}(I:k<ys.length-1-k)(h:j0f d ys zs k):j0f d ys ((zs.set k (zs.getD (ys.length-1-k) d)).set (ys.length-1-k) (zs.getD k d)) (k+1):=by
 obtain⟨hl,h⟩:=h;refine⟨by rw[List.length_set,List.length_set];exact hl,λp D=>?_⟩;rw[z1i (by rw[List.length_set];omega),z1i oo,h k oo,h (ys.length-1-k) oo,h p D];rw[if_neg (show ¬(k<k\/ys.length-1-k<k) by omega),if_neg (show ¬(ys.length-1-k<k\/ys.length-1-(ys.length-1-k)<k) by omega)];by_cases e1:ys.length-1-k=p;subst e1;rw[if_pos U,if_pos oo];congr 1;omega;rw[if_neg e1];by_cases e2:k=p;subst e2;rw[if_pos U,if_pos oo];rw[if_neg e2];by_cases e3:p<k\/ys.length-1-p<k;rw[if_pos e3,if_pos oo];rw[if_neg e3,if_neg oo]
theorem x0z {α:Type}{d:α}{ys zs:List α}{k:Nat}(Z:¬(k:Int)<(ys.length:Int)-1-k)(h:j0f d ys zs k):zs=ys.reverse:=by
 obtain⟨hl,h⟩:=h;refine List.ext_getElem (by simpa using hl) λp D O=>?_;have I:p<ys.length:=by rw[<-hl];exact D
 have:=h p I;rw[List.getElem_reverse];rw[List.getD,List.getElem?_eq_getElem D,Option.getD_some]at this;rw[this];split;rw[List.getD,List.getElem?_eq_getElem oo];rfl;have e:p=ys.length-1-p:=by omega
 rw[List.getD,List.getElem?_eq_getElem I,Option.getD_some];congr 1
theorem u1d {α:Type}(d:α)(ys:List α):j0f d ys ys 0:=⟨rfl,λp D=>by rw[if_neg oo]⟩
end Go.G08
namespace Go.Proofs.YtagnnbcnnmacmaaGreatDoor
open Go.Lw Go.G21 Go.G08 _root_.Go.Proofs.Tryz
theorem x1h:z0y prog 201 2 4:=λ_ _=>kr0
structure StT (w:World):Prop where
  c:Cells w ⟨2,0,none⟩ u9g
theorem StT.ext {w w':World}(h:StT w)(hf:Fr [] w w'):StT w':=⟨h.c.fr hf sp0⟩
theorem v6e (x:Int)(w0:World):Rets prog 193 #[.int .i64 x] w0 λr w'=>r=.bool false/\Fr [] w0 w':=by
 refine we [(0,.int .i64 x)] func193 U ntmps193 U (.cons U .nil) (sr (asg U (nn (sr (mv U (mv U (ne' U (asg U (nn (rt (r1 results193 U ?_)))))))))));exact⟨_,rfl,congrArg Value.bool (decide_eq_false (λh=>h U)),(Fr.refl _ _)⟩
theorem u2i (x y:Int)(w0:World):Rets prog 146 #[.int .i64 x,.int .i64 y] w0 λr w'=>r=.int .i64 (y1e x y)/\Fr [] w0 w':=by
 refine we [(0,.int .i64 x),(1,.int .i64 y)] func146 U ntmps146 U (.c2 U U) (sr (asg U (nn (sr (mv U (cl (ev1 U) (mkC func193) (v6e _ _) U ?_))))));rintro _ w1 ⟨rfl,D⟩;refine asg U (nn (sr (mv U (cl (ev1 U) (mkC func193) (v6e _ _) U ?_))));rintro _ w2 ⟨rfl,I⟩;refine asg U (nn (sq (sr (mv U (nn (cf U (sk (tn (sq (sr (mv U (nn (cf U (sk (tn (sq (sr (mv U (mv U (lt' U (nn (cd U (λc3=>?_) (λc3=>?_)))))))))))))))))))))));refine sr (asg U (nn (rt (tr (r1 results146 U ?_)))));exact⟨_,rfl,by first|(rw[y1e,if_pos c3])|(unfold y1e;(repeat' split)<;>first|rfl|omega),(D.n1 I)⟩;refine sk (tn (sq (sr (mv U (mv U (gt' U (nn (cd U (λc4=>?_) (λc4=>?_)))))))));refine sr (asg U (nn (rt (tr (r1 results146 U ?_)))));exact⟨_,rfl,by first|(rw[y1e,if_neg c3,if_pos c4])|(unfold y1e;(repeat' split)<;>first|rfl|omega),(D.n1 I)⟩;refine sk (tn (sr (asg U (nn (rt (r1 results146 U ?_))))));exact⟨_,rfl,by first|(rw[y1e,if_neg c3,if_neg c4])|(unfold y1e;(repeat' split)<;>first|rfl|omega),(D.n1 I)⟩
theorem u8x (x:Int)(w0:World):Rets prog 192 #[.int .u8 x] w0 λr w'=>r=.bool false/\Fr [] w0 w':=by
 refine we [(0,.int .u8 x)] func192 U ntmps192 U (.cons U .nil) (sr (asg U (nn (sr (mv U (mv U (ne' U (asg U (nn (rt (r1 results192 U ?_)))))))))));exact⟨_,rfl,congrArg Value.bool (decide_eq_false (λh=>h U)),(Fr.refl _ _)⟩
theorem j7n (x y:Int)(w0:World):Rets prog 145 #[.int .u8 x,.int .u8 y] w0 λr w'=>r=.int .i64 (y1e x y)/\Fr [] w0 w':=by
 refine we [(0,.int .u8 x),(1,.int .u8 y)] func145 U ntmps145 U (.c2 U U) (sr (asg U (nn (sr (mv U (cl (ev1 U) (mkC func192) (u8x _ _) U ?_))))));rintro _ w1 ⟨rfl,D⟩;refine asg U (nn (sr (mv U (cl (ev1 U) (mkC func192) (u8x _ _) U ?_))));rintro _ w2 ⟨rfl,I⟩;refine asg U (nn (sq (sr (mv U (nn (cf U (sk (tn (sq (sr (mv U (nn (cf U (sk (tn (sq (sr (mv U (mv U (lt' U (nn (cd U (λc3=>?_) (λc3=>?_)))))))))))))))))))))));refine sr (asg U (nn (rt (tr (r1 results145 U ?_)))));exact⟨_,rfl,by first|(rw[y1e,if_pos c3])|(unfold y1e;(repeat' split)<;>first|rfl|omega),(D.n1 I)⟩;refine sk (tn (sq (sr (mv U (mv U (gt' U (nn (cd U (λc4=>?_) (λc4=>?_)))))))));refine sr (asg U (nn (rt (tr (r1 results145 U ?_)))));exact⟨_,rfl,by first|(rw[y1e,if_neg c3,if_pos c4])|(unfold y1e;(repeat' split)<;>first|rfl|omega),(D.n1 I)⟩;refine sk (tn (sr (asg U (nn (rt (r1 results145 U ?_))))));exact⟨_,rfl,by first|(rw[y1e,if_neg c3,if_neg c4])|(unfold y1e;(repeat' split)<;>first|rfl|omega),(D.n1 I)⟩
theorem x2m (x y:Hd)(w0:World):Rets prog 170 #[.agg #[.int .u8 x.id.y,.int .i64 x.id.n,.int .u8 x.b,.int .i64 x.n,.int .i64 x.s],.agg #[.int .u8 y.id.y,.int .i64 y.id.n,.int .u8 y.b,.int .i64 y.n,.int .i64 y.s]] w0 λr w'=>r=.int .i64 (y1e x.s y.s)/\Fr [] w0 w':=by
 refine we [(0,.agg #[.int .u8 x.id.y,.int .i64 x.id.n,.int .u8 x.b,.int .i64 x.n,.int .i64 x.s]),(1,.agg #[.int .u8 y.id.y,.int .i64 y.id.n,.int .u8 y.b,.int .i64 y.n,.int .i64 y.s])] func170 U ntmps170 U (.c2 U U) (sr (bx U (λg2 w1 Z D q1 z1=>(bx U (λg3 w2 a0 I O z2=>(asg U (nn (sr (fad U x1h ?_)))))))));replace D:=D.ext O;refine z0i U D U na3 (fad U x1h (z0i U I U na3 (cl (ev2 U) (mkC func146) (u2i _ _ _) U ?_)));rintro _ w3 ⟨rfl,q3⟩;exact asg U (kpL [(4,_)] (.cons U .nil) (nn (rt (r1 results170 U ⟨_,rfl,rfl,(q1.n2 O q3)⟩))))
theorem y9f (r:Int)(w0:World):Rets prog 209 #[.int .i64 r] w0 λv w'=>v=.bool (decide (-4<=r/\r<=4))/\Fr [] w0 w':=by
 refine we [(0,.int .i64 r)] func209 U ntmps209 U (.cons U .nil) (sr (asg U (nn (sq (rbo (r:=2) (L':=[]) (((-4<=r)/\(r<=4))) .nil ?_ ?_)))));refine mv U (ge' U (mv U (gs 5 U (λD=>?_) (λD=>?_))));exact gY U (mv U (gY U (le' U (pkt U (asg U (rbe U .nil))))));exact gN U (gN U (pkf U (asg U (rbe U .nil))));exact tn (rt (r1 results209 U ⟨_,rfl,rfl,(Fr.refl _ _)⟩))
theorem x3z (q:BdQ)(r:Int)(w0:World)(D:BdAt w0 q)(hv:BdOk q.p)(hr:-4<=r/\r<=4):Rets prog 167 #[.agg #[.slice q.f.1 q.f.2.1 q.f.2.2,.slice q.b.1 q.b.2.1 q.b.2.2],.int .i64 r] w0 λv w'=>v=.int .i64 0/\Fr [] w0 w':=by
 refine we [(0,.agg #[.slice q.f.1 q.f.2.1 q.f.2.2,.slice q.b.1 q.b.2.1 q.b.2.2]),(1,.int .i64 r)] func167 U ntmps167 U (.c2 U U) ?_;have I:=D;refine sr (bx U (λg2 w1 a0 O q1 z1=>(asg U (nn (sq (sr (z0m U O z6k ?_)))))));replace D:=I.ext q1;refine cl (ev1 U) (mkC func74) (x1e q _ D hv) U ?_;rintro _ w2 ⟨rfl,q2⟩;refine asg U (nn (sr (mv U (ne' U (nn (cd U (λZ=>?_) (λZ=>?_)))))));exact absurd U Z;refine sk (tn (sq (sr (mv U (cl (ev1 U) (mkC func209) (y9f _ _) U ?_)))));rintro _ w3 ⟨rfl,q3⟩;refine nt' U (nn (cd U (λc1=>?_) (λc1=>?_)));exact absurd hr c1;exact sk (tn (sr (asg U (nn (rt (r1 results167 U ⟨_,rfl,rfl,(q1.n2 q2 q3)⟩))))))
theorem x6x (q:BdQ)(r d:Int)(w0:World)(D:BdAt w0 q)(hv:BdOk q.p)(O:StT w0)(hr:-4<=r/\r<=4)(hd:d=0\/d=1)(a1:-4<=r+stI d/\r+stI d<=4):Rets prog 211 #[.agg #[.slice q.f.1 q.f.2.1 q.f.2.2,.slice q.b.1 q.b.2.1 q.b.2.2],.int .i64 r,.int .u8 d] w0 λv w'=>v=.int .i64 0/\Fr [] w0 w':=by
 refine we [(0,.agg #[.slice q.f.1 q.f.2.1 q.f.2.2,.slice q.b.1 q.b.2.1 q.b.2.2]),(1,.int .i64 r),(2,.int .u8 d)] func211 U ntmps211 U (.c3 U U U) ?_;have I:=D;have Z:=O;refine sr (bx U (λg3 w1 a2 a0 q1 z1=>(asg U (nn (sq (sr (z0m U a0 z6k (mv U ?_))))))));replace D:=I.ext q1;refine cl (ev2 U) (mkC func167) (x3z q _ _ D hv oo) U ?_;rintro _ w2 ⟨rfl,q2⟩;refine asg U (nn (sr (mv U (ne' U (nn (cd U (λc0=>?_) (λc0=>?_)))))));exact absurd U c0;refine sk (tn (sq (sq (rbo (r:=19) (L':=[(1,_),(2,_)]) (((d≠0)/\(d≠1))) (.c2 U U) ?_ ?_))));refine mv U (ne' U (mv U (gs 16 U (λg0=>?_) (λg0=>?_))));exact gY U (mv U (gY U (ne' U (pkt U (rbe U (.c2 U U))))));exact gN U (gN U (pkf U (rbe U (.c2 U U))));refine tn (cd U (λc1=>?_) (λc1=>?_));exfalso;omega;refine sk (tn (sq (sr (mv U (mv U (y1f U U underlying299 sz3 ?_))))));replace O:=Z.ext (q1.n1 q2);refine z9b U O.c (y7a hd) na3 (z0q U (wi6 oo) (cl (ev1 U) (mkC func209) (y9f _ _) U ?_));rintro _ w3 ⟨rfl,q3⟩;refine nt' U (kpL [(26,_)] (.cons U .nil) (nn (cd U (λc2=>?_) (λc2=>?_))));exact absurd a1 c2;exact sk (tn (sr (asg U (nn (rt (r1 results211 U ⟨_,rfl,rfl,(q1.n2 q2 q3)⟩))))))
theorem z6g:z4i prog 201 5:=⟨λ_=>kr0,λ_=>kr0⟩
theorem z3z:ElemOf prog 197 201 z4h 40:=ElemOf.mk' (z:=(.agg #[.int .u8 0,.int .i64 0,.int .u8 0,.int .i64 0,.int .i64 0])) underlying197 kr0 U
theorem z9n:z1r prog 201 5:=λ_=>kr0
theorem u8k (g c base I up:Nat)(l:List Hd)(w0:World)(O:Lw.Own z4h 201 base w0 (.slice (some ⟨g,0,none⟩) l.length c) l)(hl:l.length<=1000000)(a1:I<=up/\up<=l.length):Rets prog 236 #[.slice (some ⟨g,0,none⟩) l.length c,.int .i64 (I:Int),.int .i64 (up:Int),.func (.func 170) #[] #[]] w0 λr w'=>r=.tuple #[]/\Lw.Own z4h 201 base w' (.slice (some ⟨g,0,none⟩) l.length c) (z8p l I up up)/\Fr [g] w0 w':=by
 refine we [(0,.slice (some ⟨g,0,none⟩) l.length c),(1,.int .i64 (I:Int)),(2,.int .i64 (up:Int)),(3,.func (.func 170) #[] #[])] func236 U ntmps236 U (.c4 U U U U) (sr (mv U (z0q U (wi6 oo) (asg U (nn (bl ?_))))));refine lpK (ι:=Nat) [(0,_),(1,_),(2,_),(3,_)] (λi=>[(8,.int .i64 (i:Int))]) (λi w'=>Fr [g] w0 w'/\(I+1<=i/\(i<=up\/i=I+1))/\Lw.Own z4h 201 base w' (.slice (some ⟨g,0,none⟩) l.length c) (z8p l I up i)) (λi=>up-i) (I+1) (.c5 U U U U (congrArg (λz=>some (Value.int .i64 z)) (show (I:Int)+1=((I+1:Nat):Int) by omega))) ⟨Fr.refl _ _,⟨⟨Nat.le_refl _,.inr U⟩,by rw[j8j a1.1 a1.2];exact O⟩⟩ ?_;rintro i w1 ⟨q1,⟨hi,O⟩⟩;refine kpC [(0,_),(1,_),(2,_),(3,_),(8,_)] (.c5 U U U U U) (sq (sr (mv U (mv U (lt' U (nn (cd U (λc0=>?_) (λc0=>?_))))))));have b2:i<up:=by omega
 obtain⟨s,hs⟩:∃s,s=z5v ((l.take i).drop I):=⟨_,rfl⟩;obtain⟨x,hx⟩:∃x,x=l.getD i hd0:=⟨_,rfl⟩;have b3:s.length=i-I:=by rw[hs];exact z7e oo oo
 have b1:x5a s:=by rw[hs];exact z8z _
 rw[j0d oo b2 a1.2,<-hs,<-hx,<-b3]at O;refine sk (tn (sq (bl (sr (mv U (asg U (nn (bl ?_))))))));refine lpK (ι:=Nat) [(0,_),(1,_),(2,_),(3,_),(8,_)] (λk=>[(9,.int .i64 ((I+k:Nat):Int))]) (λk w'=>Fr [g] w1 w'/\k<=s.length/\Lw.Own z4h 201 base w' (.slice (some ⟨g,0,none⟩) l.length c) (y4d (l.take I) s k x (l.drop (i+1)))/\∀j,k<=j->j<s.length->x.s<(s.getD j hd0).s) (λk=>k) s.length (.c6 U U U U U (congrArg (λz=>some (Value.int .i64 z)) (show (i:Int)=((I+s.length:Nat):Int) by omega))) ⟨Fr.refl _ _,⟨Nat.le_refl _,O,λj h1 h2=>oo⟩⟩ ?_;rintro k w2 ⟨q2,⟨hk,O,a3⟩⟩;refine kpC [(0,_),(1,_),(2,_),(3,_),(8,_),(9,_)] (.c6 U U U U U U) ?_;have b8:(y4d (l.take I) s k x (l.drop (i+1))).length=l.length:=by rw[u4e,List.length_take,List.length_drop];omega
 have a2:(y4d (l.take I) s k x (l.drop (i+1))).getD (I+k) hd0=x:=by have:=j7m (P:=l.take I) (R:=l.drop (i+1)) (x:=x) (d:=hd0) hk;rwa [List.length_take,show min I l.length=I by omega]at this
 refine sq (sq ?_);intro a h;refine z0h none (λwb w'=>Fr [] wb w') z2y ?_;intro w3 q3;replace O:=O.ext q3;have hC:Fr [] w3 w3:=Fr.refl _ _;have a0:=O;refine z0d 0 h U λa h=>z0d 1 h U λa h=>v7t 2 hC h wn U U U U λa h=>z0d 3 h U λa h=>gSp (D:=21) h U ?_ ?_;clear h;intro g0 h;refine z0d 4 h U ?_ (hG:=(wy U));clear h a;intro a h;refine z0d 5 h U ?_ (hG:=(wy U));clear h a;intro a h;refine z0d 6 h U ?_ (hG:=(wy U));clear h a;intro a h;refine z1e (p:=I+k) (hd0) 7 h U O.sl U z3z U ?_ (hG:=(wy U));clear h a;intro b4 a7 a h;refine z2l 8 h (wy U) U (λ_ hw=>a7 _ (a0.sl.ext hw)) z6g U λa h=>z0d 9 h U ?_ (hG:=(wy U));clear h a;intro a h;refine z0d 10 h U ?_ (hG:=(wy U));clear h a;intro a h;refine z3e 11 h U (by first|exact i6 oo|rfl) U ?_ (hG:=(wy U));clear h a;intro a h;refine z1e (p:=I+k-1) (hd0) 12 h U O.sl U z3z U ?_ (hG:=(wy U));clear h a;intro b5 a8 a h;refine z2l 13 h (wy U) U (λ_ hw=>a8 _ (a0.sl.ext hw)) z6g U λa h=>z0e 14 U (y1d h U U U U U U (z4y (us:=[]) (ws:=[]) h U (z0a U (z0a U z0g)) (mkC func170) (x2m ((y4d (l.take I) s k x (l.drop (i+1))).getD (I+k) hd0) ((y4d (l.take I) s k x (l.drop (i+1))).getD (I+k-1) hd0) _) (by intro g e;cases e) ?_));rintro _ w4 ⟨rfl,q4⟩ a h;replace O:=O.ext q4;replace hC:=hC.next q4;refine z0b (x9m 15 hC h (wy U) U U λa h=>z0e 16 U (z5k h U λa h=>?_));refine z0b (z0r ?_);clear hC a0;refine bk (h.sub (L':=[(0,_),(1,_),(2,_),(3,_),(8,_),(9,_),(34,_)]) (.c7 U U U U U U U)) (tn (cd U (λc1=>?_) (λc1=>?_)));have b9:0<k:=by omega
 have a6:(y4d (l.take I) s k x (l.drop (i+1))).getD (I+k-1) hd0=s.getD (k-1) hd0:=by have:=u8z (P:=l.take I) (s:=s) (R:=l.drop (i+1)) (x:=x) (d:=hd0) (k:=k-1) oo;rwa [List.length_take,show min I l.length=I by omega,show k-1+1=k by omega,show I+(k-1)=I+k-1 by omega]at this
 have a9:x.s<(s.getD (k-1) hd0).s:=by rw[a2,a6]at c1;exact z9s.1 c1
 refine sk (tn (sq (bl ?_)));intro a h;refine z0h (some 17) (λwb w'=>Fr [g] wb w') z2y ?_;intro w5 q5;replace O:=O.ext q5;have hC:Fr [g] w5 w5:=Fr.refl _ _;have a0:=O;refine z0d 0 h U λa h=>z0d 1 h U λa h=>z0d 2 h U λa h=>z0d 3 h U λa h=>z3e 4 h U (by first|exact i6 oo|rfl) U λa h=>z0d 5 h U λa h=>z0d 6 h U λa h=>z3e 7 h U (by first|exact i6 oo|rfl) U λa h=>z1e (p:=I+k-1) (hd0) 8 h U O.sl U z3z U λb6 a4 a h=>z0d 10 h U λa h=>z0d 11 h U λa h=>z1e (p:=I+k) (hd0) 12 h U O.sl U z3z U λb7 a5 a h=>z2n 9 13 kr0 U ?_ ?_;refine z1v h U (a4 _ O.sl) z6g U λa h=>z0b (z0e 13 U (z1v h U (a5 _ O.sl) z6g U λa h=>?_));refine z0b (z1o 14 kr0 hC (p:=I+k) h wn U z3z oo oo oo U U λa h=>z0e 15 U (z1c (i:=I+k) ((y4d (l.take I) s k x (l.drop (i+1))).getD (I+k-1) hd0) h U O oo U z9n λw6 Z q6 _hz a h=>?_));replace hC:=hC.sp q6;clear _hz O;have O:=Z;clear Z;refine z0b (z1o 16 kr0 hC (p:=I+k-1) h wn U z3z oo oo oo U U λa h=>z0e 17 U (z1c (i:=I+k-1) ((y4d (l.take I) s k x (l.drop (i+1))).getD (I+k) hd0) h U O (by rw[List.length_set];omega) U z9n λw7 Z q7 _hz a h=>?_));clear _hz O;have O:=Z;clear Z;refine z1h (z0r ?_);clear hC a0;refine bk (h.sub (L':=[(0,_),(1,_),(2,_),(3,_),(8,_),(9,_)]) (.c6 U U U U U U)) (bn' (tn (rg (mv U (z1u U (wi6 oo) (asg U (nl ?_)))))));exact lpE (k-1) (.c6 U U U U U (congrArg (λz=>some (Value.int .i64 z)) (show ((I+k:Nat):Int)-1=((I+(k-1):Nat):Int) by omega))) ⟨((Fr.refl [g] _).z6 q2 q3 q4 q5 q6 q7),⟨oo,by rw[a2,a6]at O;have e:=x6q (P:=l.take I) (s:=s) (R:=l.drop (i+1)) (x:=x) (d:=hd0) (k:=k-1) oo;rw[List.length_take,show min I l.length=I by omega,show k-1+1=k by omega,show I+(k-1)+1=I+k by omega]at e;rw[<-e,show I+(k-1)=I+k-1 by omega];exact O,λj h1 h2=>by
  by_cases e:k<=j;exact a3 j e h2;obtain rfl:j=k-1:=by omega
  exact a9⟩⟩ oo
 refine z1v h U (a5 _ O.sl) z6g U λa h=>z0b (z0e 9 U (z1v h U (a4 _ O.sl) z6g U λa h=>?_));refine z0b (z1o 14 kr0 hC (p:=I+k) h wn U z3z oo oo oo U U λa h=>z0e 15 U (z1c (i:=I+k) ((y4d (l.take I) s k x (l.drop (i+1))).getD (I+k-1) hd0) h U O oo U z9n λw8 Z q8 _hz a h=>?_));replace hC:=hC.sp q8;clear _hz O;have O:=Z;clear Z;refine z0b (z1o 16 kr0 hC (p:=I+k-1) h wn U z3z oo oo oo U U λa h=>z0e 17 U (z1c (i:=I+k-1) ((y4d (l.take I) s k x (l.drop (i+1))).getD (I+k) hd0) h U O (by rw[List.length_set];omega) U z9n λw9 Z q9 _hz a h=>?_));clear _hz O;have O:=Z;clear Z;refine z1h (z0r ?_);clear hC a0;refine bk (h.sub (L':=[(0,_),(1,_),(2,_),(3,_),(8,_),(9,_)]) (.c6 U U U U U U)) (bn' (tn (rg (mv U (z1u U (wi6 oo) (asg U (nl ?_)))))));exact lpE (k-1) (.c6 U U U U U (congrArg (λz=>some (Value.int .i64 z)) (show ((I+k:Nat):Int)-1=((I+(k-1):Nat):Int) by omega))) ⟨((Fr.refl [g] _).z6 q2 q3 q4 q5 q8 q9),⟨oo,by rw[a2,a6]at O;have e:=x6q (P:=l.take I) (s:=s) (R:=l.drop (i+1)) (x:=x) (d:=hd0) (k:=k-1) oo;rw[List.length_take,show min I l.length=I by omega,show k-1+1=k by omega,show I+(k-1)+1=I+k by omega]at e;rw[<-e,show I+(k-1)=I+k-1 by omega];exact O,λj h1 h2=>by
  by_cases e:k<=j;exact a3 j e h2;obtain rfl:j=k-1:=by omega
  exact a9⟩⟩ oo
 have b0:k=0\/¬x.s<(s.getD (k-1) hd0).s:=by
  first
  | exact .inl oo
  | (refine .inr λe=>c1 ?_;have:=u8z (P:=l.take I) (s:=s) (R:=l.drop (i+1)) (x:=x) (d:=hd0) (k:=k-1) oo;rw[List.length_take,show min I l.length=I by omega,show k-1+1=k by omega,show I+(k-1)=I+k-1 by omega]at this;rw[a2,this];exact z9s.2 e)
 exact ex (te (te (xh (bn' (tn (rg (mv U (z0q U (wi6 oo) (asg U (nl (lpE (i+1) (.c5 U U U U U) ⟨((Fr.refl [g] _).z4 q1 q2 q3 q4),⟨oo,by rw[<-x3t oo oo a1.2,<-hs,<-hx,<-x6e (k:=k) b1 hk (by first|exact b0|exact .inl oo) a3];exact O⟩⟩ oo)))))))))));clear h;intro g0 h;refine z2p 4 h U U λa h=>z2p 5 h U U λa h=>z2p 6 h U U λa h=>z2p 7 h U U λa h=>z2p 8 h U U λa h=>z2p 9 h U U λa h=>z2p 10 h U U λa h=>z2p 11 h U U λa h=>z2p 12 h U U λa h=>z2p 13 h U U λa h=>z2p 14 h U U λa h=>z2p 15 h U U λa h=>z0e 16 U (z6i h U λa h=>?_);refine z0b (z0r ?_);clear hC a0;exact bk (h.sub (L':=[(0,_),(1,_),(2,_),(3,_),(8,_),(9,_),(34,_)]) (.c7 U U U U U U U)) (tn (cf U (ex (te (te (xh (bn' (tn (rg (mv U (z0q U (wi6 oo) (asg U (nl (lpE (i+1) (.c5 U U U U U) ⟨((Fr.refl [g] _).z3 q1 q2 q3),⟨oo,by rw[<-x3t oo oo a1.2,<-hs,<-hx,<-x6e (k:=k) b1 hk (by first|exact b0|exact .inl oo) a3];exact O⟩⟩ oo))))))))))))));rw[u5q oo]at O;refine ex (te (te (xh (r0n results236  ?_))));exact⟨_,rfl,rfl,O,(q1.weak se)⟩
end Go.Proofs.YtagnnbcnnmacmaaGreatDoor
namespace Go.G08
open Go.Lw Go.G21
def flK (k:Int)(l:List Hd):List Hd:=l.filter λh=>decide (h.s=k)
theorem z8y (k:Int)(a b:List Hd):flK k (a++b)=flK k a++flK k b:=List.filter_append ..
theorem x7l {k:Int}{l:List Hd}(h:∀x∈l,x.s≠k):flK k l=[]:=by
 unfold flK;rw[List.filter_eq_nil_iff];intro x D;simpa using h x D
theorem z6x (k:Int)(x:Hd)(l:List Hd):flK k (x::l)=if x.s=k then x::flK k l else flK k l:=by
 unfold flK;rw[List.filter_cons];by_cases e:x.s=k<;>simp[e]
theorem v8m (k:Int)(h:Hd):∀l:List Hd,x5a l->flK k (y4b h l)=flK k (l++[h])
 | [],_=>rfl
 | y::l,hs=>by
  obtain⟨I,O⟩:=List.pairwise_cons.1 hs
  unfold y4b
  split
  ·rename_i Z
   rw[z8y,z6x]
   by_cases e:h.s=k
   ·have:flK k (y::l)=[]:=x7l λx D=>by
     rcases List.mem_cons.1 D with rfl|D
     ·omega
     have:=I x D;omega
    rw[if_pos e,this,z6x,if_pos e];rfl
   rw[if_neg e,z6x k h [],if_neg e];simp[flK]
  rw[List.cons_append,z6x,z6x,v8m k h l O]
theorem v0k (k:Int):∀(l a:List Hd),x5a a->flK k (l.foldl (λa h=>y4b h a) a)=flK k (a++l)
 | [],a,_=>by simp
 | x::l,a,h=>by
  rw[List.foldl_cons,v0k k l _ (x1f x a h),z8y,v8m k x a h,<-z8y,List.append_assoc];rfl
theorem y0f (k:Int)(l:List Hd):flK k (z5v l)=flK k l:=by unfold z5v;rw[v0k k l [] List.Pairwise.nil];rfl
theorem v5z {k:Int}{x:Hd}{l:List Hd}:x∈flK k l↔x∈l/\x.s=k:=by unfold flK;rw[List.mem_filter];simp
theorem y9i {a b:List Hd}(h:∀k,flK k a=flK k b)(x:Hd)(D:x∈a):x∈b:=(v5z.1 (h x.s▸v5z.2 ⟨D,rfl⟩)).1
theorem v1a {x:Hd}{l:List Hd}:x∈z5v l↔x∈l:=⟨y9i (λk=>y0f k l) x,y9i (λk=>(y0f k l).symm) x⟩
theorem v2v:∀(a b:List Hd),x5a a->x5a b->(∀k,flK k a=flK k b)->a=b
 | [],[],_,_,_=>rfl
 | [],y::b,_,_,h=>by have:=y9i (λk=>(h k).symm) y (List.mem_cons_self ..);cases this
 | x::a,[],_,_,h=>by have:=y9i h x (List.mem_cons_self ..);cases this
 | x::a,y::b,ha,hb,h=>by
  obtain⟨Z,a2⟩:=List.pairwise_cons.1 ha
  obtain⟨b1,b2⟩:=List.pairwise_cons.1 hb
  have hx:=y9i h x (List.mem_cons_self ..)
  have hy:=y9i (λk=>(h k).symm) y (List.mem_cons_self ..)
  have e1:y.s<=x.s:=by
   rcases List.mem_cons.1 hx with e|e
   ·rw[e];exact Int.le_refl _
   exact b1 x e
  have e2:x.s<=y.s:=by
   rcases List.mem_cons.1 hy with e|e
   ·rw[e];exact Int.le_refl _
   exact Z y e
  have es:y.s=x.s:=by omega
  have O:=h x.s
  rw[z6x,z6x,if_pos U,if_pos es]at O
  obtain⟨I,_⟩:=List.cons.inj O
  subst I
  rw[v2v a b a2 b2 λk=>?_]
  have D:=h k
  rw[z6x,z6x]at D
  by_cases e:x.s=k
  ·rw[if_pos e,if_pos e]at D;exact(List.cons.inj D).2
  rw[if_neg e,if_neg e]at D;exact D
theorem x9o {l l':List Hd}(h:x5a l')(hf:∀k,flK k l'=flK k l):l'=z5v l:=v2v _ _ h (z8z l) λk=>(hf k).trans (y0f k l).symm
theorem j2k {l:List Hd}(h:x5a l):z5v l=l:=(x9o h λ_=>rfl).symm
theorem u3c (a b:List Hd):z5v (z5v a++z5v b)=z5v (a++b):=by
 refine x9o (z8z _) λk=>?_;rw[y0f,z8y,y0f,y0f,z8y]
theorem j8m {X Y:List Hd}(k:Int)(h:∀x∈X,∀y∈Y,y.s<x.s):flK k (Y++X)=flK k (X++Y):=by
 rw[z8y,z8y];by_cases e:∃x∈X,x.s=k;obtain⟨x,D,rfl⟩:=e;rw[x7l (l:=Y) λy O=>by have:=h x D y O;omega];simp;rw[x7l (l:=X) λx D I=>e ⟨x,D,I⟩];simp
theorem j1a {Z L2 O R2:List Hd}(hL:x5a (Z++L2))(hR:x5a (O++R2))(hx:∀x∈L2,∀y∈O,y.s<x.s)(h1:∀x∈Z,∀y∈R2,x.s<=y.s):z5v (Z++O)++z5v (L2++R2)=z5v ((Z++L2)++(O++R2)):=by
 obtain⟨_,_,l3⟩:=List.pairwise_append.1 hL;obtain⟨_,_,r3⟩:=List.pairwise_append.1 hR;refine x9o (List.pairwise_append.2 ⟨z8z _,z8z _,λa D b I=>?_⟩) λk=>?_;rcases List.mem_append.1 (v1a.1 D) with D|D<;>rcases List.mem_append.1 (v1a.1 I) with I|I
 exact l3 a D b I;exact h1 a D b I;have:=hx b I a D;omega;exact r3 a D b I;rw[z8y,y0f,y0f];have:=j8m k hx;simp only[z8y,List.append_assoc]at this ⊢;rw[<-List.append_assoc (flK k O),this,List.append_assoc]
-- ---- lists whose elements are taken in another order
def prm (l:List Hd)(f:Nat->Nat):List Hd:=(List.range l.length).map λi=>l.getD (f i) hd0
theorem z5q (l:List Hd)(f:Nat->Nat):(prm l f).length=l.length:=by unfold prm;simp
theorem z8v {l:List Hd}{f:Nat->Nat}{i:Nat}(h:i<l.length):(prm l f).getD i hd0=l.getD (f i) hd0:=by
 unfold prm;rw[List.getD,List.getElem?_eq_getElem (by simpa using h),List.getElem_map,List.getElem_range];rfl
theorem z7l {a b:List Hd}(hl:a.length=b.length)(h:∀i,i<a.length->a.getD i hd0=b.getD i hd0):a=b:=by
 refine List.ext_getElem hl λi D I=>?_;have:=h i D;rw[List.getD,List.getD,List.getElem?_eq_getElem D,List.getElem?_eq_getElem I]at this;exact this
theorem v7a {l:List Hd}{f g:Nat->Nat}(h:∀i,i<l.length->f i=g i):prm l f=prm l g:=by
 refine z7l (by rw[z5q,z5q]) λi D=>?_;rw[z5q]at D;rw[z8v D,z8v D,h i D]
theorem v9z {l:List Hd}{f:Nat->Nat}(h:∀i,i<l.length->f i=i):prm l f=l:=by
 refine z7l (z5q _ _) λi D=>?_;rw[z5q]at D;rw[z8v D,h i D]
theorem v5n {l:List Hd}{f g h:Nat->Nat}(O:∀i,i<l.length->g i<l.length)(I:∀i,i<l.length->f (g i)=h i):prm (prm l f) g=prm l h:=by
 refine z7l (by rw[z5q,z5q,z5q]) λi D=>?_;rw[z5q,z5q]at D;rw[z8v (by rw[z5q];exact D),z8v (O i D),z8v D,I i D]
def y0b (s m e x:Nat):Nat:=if x<s\/e<=x then x else if x<s+(e-m) then x-s+m else x-(e-m)
def z5x (l:List Hd)(s m e:Nat):List Hd:=prm l (y0b s m e)
def swF (a b n x:Nat):Nat:=if a<=x/\x<a+n then x-a+b else if b<=x/\x<b+n then x-b+a else x
def swL (l:List Hd)(a b n:Nat):List Hd:=prm l (swF a b n)
theorem z1n (l:List Hd)(s m e:Nat):(z5x l s m e).length=l.length:=z5q _ _
theorem z7d (l:List Hd)(a b n:Nat):(swL l a b n).length=l.length:=z5q _ _
theorem z2w {l:List Hd}{s m e i:Nat}(h:i<l.length):(z5x l s m e).getD i hd0=l.getD (y0b s m e i) hd0:=z8v h
theorem x1z {l:List Hd}{a b n i:Nat}(h:i<l.length):(swL l a b n).getD i hd0=l.getD (swF a b n i) hd0:=z8v h
theorem v9w {s m e n i:Nat}(h1:s<=m)(I:m<=e)(O:e<=n)(D:i<n):y0b s m e i<n:=by
 unfold y0b;split;exact D;split<;>omega
theorem u7u {l:List Hd}{s e:Nat}(h:s<=e):z5x l s s e=l:=v9z λi _=>by
 unfold y0b;split
 ·rfl
 split<;>omega
theorem u9f {l:List Hd}{s m:Nat}(h:s<=m):z5x l s m m=l:=v9z λi _=>by
 unfold y0b;split
 ·rfl
 split<;>omega
theorem sw_0 {l:List Hd}{a b:Nat}:swL l a b 0=l:=v9z λi _=>by
 unfold swF;split
 ·omega
 split<;>omega
theorem j9b {l:List Hd}{i m:Nat}(h:i<=m):swL l (m-i) m i=z5x l (m-i) m (m+i):=v7a λx _=>by
 unfold swF y0b;repeat' split
 all_goals omega
theorem j7s {l:List Hd}{i j m:Nat}(h:i<=m)(O:j<i)(I:m+j<=l.length):z5x (swL l (m-i) m j) (m-(i-j)) m (m+j)=z5x l (m-i) m (m+j):=by
 refine v5n (λx D=>v9w oo oo I D) λx D=>?_
 unfold swF y0b;repeat' split
 all_goals omega
theorem k1t {l:List Hd}{i j m:Nat}(h:i<=m)(I:i<j)(O:m+j<=l.length):z5x (swL l (m-i) (m+j-i) i) (m-i) m (m+(j-i))=z5x l (m-i) m (m+j):=by
 refine v5n (λx D=>v9w oo oo oo D) λx D=>?_
 unfold swF y0b;repeat' split
 all_goals omega
theorem z8g {l:List Hd}{i j:Nat}{x:Hd}(D:i<l.length):(l.set i x).getD j hd0=if j=i then x else l.getD j hd0:=by
 rw[List.getD,List.getElem?_set];by_cases e:i=j;subst e;rw[if_pos U,if_pos D,if_pos U];rfl;rw[if_neg e,if_neg (λh=>e h.symm)];rfl
theorem v6n {l:List Hd}{a b i:Nat}(h:a+i+1<=b)(I:b+i<l.length):((swL l a b i).set (a+i) ((swL l a b i).getD (b+i) hd0)).set (b+i) ((swL l a b i).getD (a+i) hd0)=swL l a b (i+1):=by
 refine z7l (by simp[z7d]) λx D=>?_
 simp only[List.length_set,z7d]at D
 rw[z8g (by rw[List.length_set,z7d];exact I),z8g (by rw[z7d];omega),x1z oo,x1z oo,x1z D,x1z D]
 unfold swF
 repeat' split
 all_goals first|rfl|(congr 1;omega)|omega
theorem u9h {l:List Hd}{a k:Nat}(h:a<=k)(I:k+1<l.length):((z5x l a (a+1) (k+1)).set k ((z5x l a (a+1) (k+1)).getD (k+1) hd0)).set (k+1) ((z5x l a (a+1) (k+1)).getD k hd0)=z5x l a (a+1) (k+2):=by
 refine z7l (by simp[z1n]) λx D=>?_
 simp only[List.length_set,z1n]at D
 rw[z8g (by rw[List.length_set,z1n];exact I),z8g (by rw[z1n];omega),z2w oo,z2w oo,z2w D,z2w D]
 unfold y0b
 repeat' split
 all_goals first|rfl|(congr 1;omega)|omega
theorem v3b {l:List Hd}{m k:Nat}(h:k<m)(I:m<l.length):((z5x l (k+1) m (m+1)).set (k+1) ((z5x l (k+1) m (m+1)).getD k hd0)).set k ((z5x l (k+1) m (m+1)).getD (k+1) hd0)=z5x l k m (m+1):=by
 refine z7l (by simp[z1n]) λx D=>?_
 simp only[List.length_set,z1n]at D
 rw[z8g (by rw[List.length_set,z1n];omega),z8g (by rw[z1n];omega),z2w oo,z2w oo,z2w D,z2w D]
 unfold y0b
 repeat' split
 all_goals first|rfl|(congr 1;omega)|omega
abbrev seg (l:List Hd)(a b:Nat):List Hd:=(l.take b).drop a
theorem z2e {l:List Hd}{a b:Nat}(hb:b<=l.length):(seg l a b).length=b-a:=by
 unfold seg;rw[List.length_drop,List.length_take];omega
theorem z7v {l:List Hd}{a b i:Nat}(h:i<b-a):(seg l a b).getD i hd0=l.getD (a+i) hd0:=by
 unfold seg;rw[List.getD,List.getElem?_drop,List.getElem?_take,if_pos oo];rfl
theorem y4e {l:List Hd}{a m b:Nat}(h1:a<=m)(I:m<=b)(hb:b<=l.length):seg l a b=seg l a m++seg l m b:=by
 refine z7l (by rw[List.length_append,z2e hb,z2e oo,z2e hb];omega) λi D=>?_;rw[z2e hb]at D;rw[z7v D];by_cases e:i<m-a;rw[List.getD,List.getD,List.getElem?_append_left (by rw[z2e oo];exact e)];have:=z7v (l:=l) (a:=a) (b:=m) e;rw[List.getD,List.getD]at this;exact this.symm;rw[List.getD,List.getD,List.getElem?_append_right (by rw[z2e oo];omega),z2e oo];have:=z7v (l:=l) (a:=m) (b:=b) (i:=i-(m-a)) oo;rw[List.getD,List.getD,show m+(i-(m-a))=a+i by omega]at this;exact this.symm
theorem x1n {l:List Hd}{a b:Nat}(h:a<=b)(hb:b<=l.length):l.take a++(seg l a b++l.drop b)=l:=by
 have D:l.take a++seg l a b=l.take b:=by
  unfold seg
  conv=>rhs;rw[<-List.take_append_drop a (l.take b)]
  rw[List.take_take,show min a b=a by omega]
 rw[<-List.append_assoc,D,List.take_append_drop]
theorem x2x {l:List Hd}{a b:Nat}{x:Hd}(hb:b<=l.length)(I:x∈seg l a b):∃i,a<=i/\i<b/\x=l.getD i hd0:=by
 obtain⟨i,D,rfl⟩:=List.getElem_of_mem I;rw[z2e hb]at D;refine⟨a+i,oo,oo,?_⟩;rw[<-z7v D,List.getD,List.getElem?_eq_getElem (by rw[z2e hb];exact D)];rfl
def y0j (l:List Hd)(a b:Nat):Prop:=∀i j,a<=i->i<j->j<b->(l.getD i hd0).s<=(l.getD j hd0).s
theorem x2e {l:List Hd}{a b:Nat}(hb:b<=l.length)(h:y0j l a b):x5a (seg l a b):=by
 refine List.pairwise_iff_getElem.2 λi j D I a0=>?_;have l1:=D;have l2:=I;rw[z2e hb]at D I;have O:=z7v (l:=l) D;have Z:=z7v (l:=l) I;rw[List.getD,List.getElem?_eq_getElem l1,Option.getD_some]at O;rw[List.getD,List.getElem?_eq_getElem l2,Option.getD_some]at Z;rw[O,Z];exact h _ _ oo oo oo
theorem v0r {l:List Hd}{a b:Nat}(hb:b<=l.length)(h:x5a (seg l a b)):y0j l a b:=λi j O Z h3=>by
 have:=List.pairwise_iff_getElem.1 h (i-a) (j-a) (by rw[z2e hb];omega) (by rw[z2e hb];omega) oo
 have D:=z7v (l:=l) (a:=a) (b:=b) (i:=i-a) oo
 have I:=z7v (l:=l) (a:=a) (b:=b) (i:=j-a) oo
 rw[List.getD,List.getElem?_eq_getElem (by rw[z2e hb];omega),Option.getD_some,show a+(i-a)=i by omega]at D
 rw[List.getD,List.getElem?_eq_getElem (by rw[z2e hb];omega),Option.getD_some,show a+(j-a)=j by omega]at I
 rw[D,I]at this;exact this
theorem u4a {l:List Hd}{a b i:Nat}(h:a<=b)(hb:b<=l.length)(D:i<a\/b<=i):(z8p l a b b).getD i hd0=l.getD i hd0:=by
 unfold z8p;rw[show min b b=b by omega];rcases D with e|e
 rw[List.getD,List.getD,List.getElem?_append_left (by rw[List.length_take];omega),List.getElem?_take,if_pos e];rw[List.getD,List.getD,List.getElem?_append_right (by rw[List.length_take];omega),List.length_take,List.getElem?_append_right (by rw[z7e h hb];omega),z7e h hb,List.getElem?_drop];congr 2;omega
theorem x6m {l:List Hd}{a b:Nat}(h:a<=b)(hb:b<=l.length):(z8p l a b b).length=l.length:=by
 unfold z8p;rw[show min b b=b by omega,List.length_append,List.length_append,z7e h hb,List.length_take,List.length_drop];omega
theorem z8n {l:List Hd}{a b:Nat}(h:a<=b)(hb:b<=l.length)(D:y0j l a b):z8p l a b b=l:=by
 unfold z8p;rw[show min b b=b by omega,j2k (x2e hb D)];exact x1n h hb
theorem x2y {l:List Hd}{P M S:List Hd}(h:l=P++(M++S)):seg l P.length (P.length+M.length)=M:=by
 subst h;unfold seg;rw[<-List.append_assoc,List.take_append_of_le_length (by rw[List.length_append];exact Nat.le_refl _),show P.length+M.length=(P++M).length by rw[List.length_append],List.take_length];simp
theorem z8h {P M S:List Hd}:z8p (P++(M++S)) P.length (P.length+M.length) (P.length+M.length)=P++(z5v M++S):=by
 unfold z8p;rw[Nat.min_self];have:=x2y (l:=P++(M++S)) U;unfold seg at this;rw[this];congr 1;simp;congr 1;rw[<-List.append_assoc,show P.length+M.length=(P++M).length by rw[List.length_append],List.drop_append_of_le_length (Nat.le_refl _)];simp
theorem v4n {l:List Hd}{s m e:Nat}(h1:s<=m)(O:m<=e)(D:e<=l.length):z5x l s m e=l.take s++(seg l m e++(seg l s m++l.drop e)):=by
 refine z7l (by simp only[z1n,List.length_append,z2e D,z2e (show m<=l.length by omega),List.length_take,List.length_drop];omega) λi I=>?_;rw[z1n]at I;rw[z2w I];unfold y0b;by_cases c1:i<s;rw[if_pos (.inl c1),List.getD,List.getD,List.getElem?_append_left (by rw[List.length_take];omega),List.getElem?_take,if_pos c1];rw[List.getD,List.getD,List.getElem?_append_right (by rw[List.length_take];omega),List.length_take,show min s l.length=s by omega];by_cases c2:i<s+(e-m);rw[if_neg oo,if_pos c2,List.getElem?_append_left (by rw[z2e D];omega)];have:=z7v (l:=l) (a:=m) (b:=e) (i:=i-s) oo;rw[List.getD,List.getD]at this;rw[this];congr 2;omega;rw[List.getElem?_append_right (by rw[z2e D];omega),z2e D];by_cases c3:i<e;rw[if_neg oo,if_neg c2,List.getElem?_append_left (by rw[z2e oo];omega)];have:=z7v (l:=l) (a:=s) (b:=m) (i:=i-s-(e-m)) oo;rw[List.getD,List.getD]at this;rw[this];congr 2;omega;rw[if_pos oo,List.getElem?_append_right (by rw[z2e oo];omega),z2e oo,List.getElem?_drop];congr 2;omega
theorem j4o {l:List Hd}{a b:Nat}(h:a<=b)(hb:b<=l.length):z8p l a b b=l.take a++(z5v (seg l a b)++l.drop b):=by unfold z8p;rw[Nat.min_self]
theorem y2q {l:List Hd}{a s m e b mid:Nat}(h1:a<=s)(O:s<=m)(Z:m<=e)(h4:e<=b)(hb:b<=l.length)(hm:mid=s+(e-m))(hl:y0j l a m)(hr:y0j l m b)
    (hx:∀i j,s<=i->i<m->m<=j->j<e->(l.getD j hd0).s<(l.getD i hd0).s) (hy:∀i j,a<=i->i<s->e<=j->j<b->(l.getD i hd0).s<=(l.getD j hd0).s):z8p (z8p (z5x l s m e) a mid mid) mid b b=z8p l a b b:=by
  have el:z5x l s m e=l.take a++((seg l a s++seg l m e)++((seg l s m++seg l e b)++l.drop b)):=by
    rw[v4n O Z oo]
    have t1:l.take s=l.take a++seg l a s:=by
      unfold seg
      conv=>lhs;rw[<-List.take_append_drop a (l.take s)]
      rw[List.take_take,show min a s=a by omega]
    have t2:l.drop e=seg l e b++l.drop b:=by
      have:=x1n (l:=l) h4 hb
      have h:=congrArg (List.drop e) this
      rw[List.drop_append_of_le_length (by rw[List.length_take];omega),List.drop_eq_nil_of_le (by rw[List.length_take];omega)]at h
      exact h.symm
    rw[t1,t2];simp only[List.append_assoc]
  have lA:(l.take a).length=a:=by rw[List.length_take];omega
  have lM:(seg l a s++seg l m e).length=mid-a:=by rw[List.length_append,z2e oo,z2e oo];omega
  have lN:(seg l s m++seg l e b).length=b-mid:=by rw[List.length_append,z2e oo,z2e oo];omega
  have i1:=z8h (P:=l.take a) (M:=seg l a s++seg l m e) (S:=(seg l s m++seg l e b)++l.drop b)
  rw[lA,lM,show a+(mid-a)=mid by omega,<-el]at i1
  rw[i1]
  have i2:=z8h (P:=l.take a++z5v (seg l a s++seg l m e)) (M:=seg l s m++seg l e b) (S:=l.drop b)
  rw[List.length_append,lA,z4w,lM,lN,show a+(mid-a)+(b-mid)=b by omega,show a+(mid-a)=mid by omega]at i2
  rw[<-List.append_assoc (l.take a),i2,j4o oo hb,List.append_assoc (l.take a),<-List.append_assoc (z5v (seg l a s++seg l m e))]
  congr 2
  rw[y4e (a:=a) (m:=m) (b:=b) oo oo hb,y4e (a:=a) (m:=s) (b:=m) h1 O oo,y4e (a:=m) (m:=e) (b:=b) Z h4 hb]
  refine j1a ?_ ?_ (λx D y I=>?_) (λx D y I=>?_)
  · rw[<-y4e h1 O oo];exact x2e oo hl
  · rw[<-y4e Z h4 hb];exact x2e hb hr
  · obtain⟨i,k1,k2,rfl⟩:=x2x oo D
    obtain⟨j,k3,k4,rfl⟩:=x2x oo I
    exact hx i j k1 k2 k3 k4
  · obtain⟨i,k1,k2,rfl⟩:=x2x oo D
    obtain⟨j,k3,k4,rfl⟩:=x2x hb I
    exact hy i j k1 k2 k3 k4
theorem x3d {l:List Hd}{a s m e mid:Nat}(h1:a<=s)(Z:s<=m)(h3:m<=e)(he:e<=l.length)(hm:mid=s+(e-m))(hl:y0j l a m)(b:Nat)(O:y0j l m b)(hb:e<=b):y0j (z5x l s m e) a s/\y0j (z5x l s m e) s mid:=by
 constructor;intro i j D I k3;rw[z2w oo,z2w oo];unfold y0b;rw[if_pos oo,if_pos oo];exact hl i j D I oo;intro i j D I k3;rw[z2w oo,z2w oo];unfold y0b;rw[if_neg oo,if_pos oo,if_neg oo,if_pos oo];exact O _ _ oo oo oo
theorem v1e {l:List Hd}{a s m e b mid:Nat}(h1:a<=s)(Z:s<=m)(h3:m<=e)(he:e<=b)(hb:b<=l.length)(hm:mid=s+(e-m))(hl:y0j l a m)(O:y0j l m b):y0j (z8p (z5x l s m e) a mid mid) mid e/\y0j (z8p (z5x l s m e) a mid mid) e b:=by
 have g:∀i,mid<=i->i<b->(z8p (z5x l s m e) a mid mid).getD i hd0=l.getD (y0b s m e i) hd0:=λi D I=>by
  rw[u4a oo (by rw[z1n];omega) (.inr D),z2w oo]
 constructor;intro i j D I k3;rw[g i oo oo,g j oo oo];unfold y0b;rw[if_neg oo,if_neg oo,if_neg oo,if_neg oo];exact hl _ _ oo oo oo;intro i j D I k3;rw[g i oo oo,g j oo oo];unfold y0b;rw[if_pos oo,if_pos oo];exact O _ _ oo I k3
theorem u9s {l:List Hd}{a i b:Nat}(h1:a+1<=i)(h2:i<=b)(hb:b<=l.length)(hr:y0j l (a+1) b)(hx:∀j,a+1<=j->j<i->(l.getD j hd0).s<(l.getD a hd0).s)(hy:∀j,i<=j->j<b->(l.getD a hd0).s<=(l.getD j hd0).s):z5x l a (a+1) i=z8p l a b b:=by
 have k:=y2q (l:=l) (a:=a) (s:=a) (m:=a+1) (e:=i) (b:=b) (mid:=a+(i-(a+1))) (Nat.le_refl _) oo h1 h2 hb U (λI O Z D k3=>oo) hr
  (λI O Z D k3 k4=>by obtain rfl:I=a:=oo;exact hx O k3 k4) (λI O Z D=>oo)
 have r1:=x3d (l:=l) (a:=a) (s:=a) (m:=a+1) (e:=i) (mid:=a+(i-(a+1))) (Nat.le_refl _) oo h1 oo U (λI O Z D k3=>oo) b hr h2;rw[<-k];have s1:y0j (z5x l a (a+1) i) a (a+(i-(a+1))):=r1.2;rw[z8n oo (by rw[z1n];omega) s1];have s2:y0j (z5x l a (a+1) i) (a+(i-(a+1))) b:=λx y Z D k3=>by
  rw[z2w oo,z2w oo];by_cases e1:x=i-1;have f1:y0b a (a+1) i x=a:=by unfold y0b;rw[if_neg oo,if_neg oo];omega
  have f2:y0b a (a+1) i y=y:=by unfold y0b;rw[if_pos oo]
  rw[f1,f2];exact hy y oo k3;have f1:y0b a (a+1) i x=x:=by unfold y0b;rw[if_pos oo]
  have f2:y0b a (a+1) i y=y:=by unfold y0b;rw[if_pos oo]
  rw[f1,f2];exact hr x y oo D k3
 exact(z8n oo (by rw[z1n];omega) s2).symm
theorem j2y {l:List Hd}{a i m:Nat}(h1:a<=i)(h2:i<=m)(hb:m+1<=l.length)(hl:y0j l a m)(hx:∀j,i<=j->j<m->(l.getD m hd0).s<(l.getD j hd0).s)(hy:∀j,a<=j->j<i->(l.getD j hd0).s<=(l.getD m hd0).s):z5x l i m (m+1)=z8p l a (m+1) (m+1):=by
 have k:=y2q (l:=l) (a:=a) (s:=i) (m:=m) (e:=m+1) (b:=m+1) (mid:=i+1) h1 h2 oo (Nat.le_refl _) hb oo hl (λi' j' D I k3=>oo)
  (λi' j' D I k3 k4=>by obtain rfl:j'=m:=oo;exact hx i' D I) (λi' j' D I k3 k4=>oo)
 rw[<-k];have s1:y0j (z5x l i m (m+1)) a (i+1):=λx y D I k3=>by
  rw[z2w oo,z2w oo];have Z:y0b i m (m+1) x=x:=by unfold y0b;rw[if_pos oo]
  by_cases e1:y=i;have O:y0b i m (m+1) y=m:=by unfold y0b;rw[if_neg oo,if_pos oo];omega
  rw[Z,O];exact hy x D oo;have O:y0b i m (m+1) y=y:=by unfold y0b;rw[if_pos oo]
  rw[Z,O];exact hl x y D I oo
 rw[z8n oo (by rw[z1n];omega) s1];have s2:y0j (z5x l i m (m+1)) (i+1) (m+1):=λx y D I k3=>by
  rw[z2w oo,z2w oo];have Z:y0b i m (m+1) x=x-1:=by unfold y0b;rw[if_neg oo,if_neg oo];omega
  have O:y0b i m (m+1) y=y-1:=by unfold y0b;rw[if_neg oo,if_neg oo];omega
  rw[Z,O];exact hl _ _ oo oo oo
 exact(z8n oo (by rw[z1n];omega) s2).symm
theorem k0a {l:List Hd}{s m e:Nat}(h:¬(s<m/\m<e))(h1:s<=m)(D:m<=e):z5x l s m e=l:=by
 by_cases k:s<m;obtain rfl:e=m:=by omega
 exact u9f h1;obtain rfl:s=m:=by omega
 exact u7u D
theorem skip1 {l:List Hd}{a s m e mid:Nat}(hn:¬(a<s/\s<mid))(h1:a<=s)(D:s<=m)(I:m<=e)(O:e<=l.length)(Z:mid=s+(e-m))(hl:y0j l a m)(b:Nat)(hr:y0j l m b)(hb:e<=b):z8p (z5x l s m e) a mid mid=z5x l s m e:=by
 obtain⟨k1,k2⟩:=x3d h1 D I O Z hl b hr hb;refine z8n oo (by rw[z1n];omega) ?_;by_cases k:a<s;obtain rfl:mid=s:=by omega
 exact k1;obtain rfl:s=a:=by omega
 exact k2
theorem k4s {l:List Hd}{a s m e b mid:Nat}(hn:¬(mid<e/\e<b))(h1:a<=s)(D:s<=m)(I:m<=e)(O:e<=b)(hb:b<=l.length)(Z:mid=s+(e-m))(hl:y0j l a m)(hr:y0j l m b):z8p (z8p (z5x l s m e) a mid mid) mid b b=z8p (z5x l s m e) a mid mid:=by
 obtain⟨k1,k2⟩:=v1e h1 D I O hb Z hl hr;refine z8n oo (by rw[x6m oo (by rw[z1n];omega),z1n];omega) ?_;by_cases k:mid<e;obtain rfl:e=b:=by omega
 exact k1;obtain rfl:e=mid:=by omega
 exact k2
structure Sch (l:List Hd) (p s0 r0 s r:Nat):Prop where
  lo:s0<=s
  le:s<=r
  hi:r<=r0
  f1:∀x,s0<=x->x<s->(l.getD x hd0).s<=(l.getD (p-x) hd0).s
  f2:∀x,r<=x->x<r0->(l.getD (p-x) hd0).s<(l.getD x hd0).s
theorem k3f {l:List Hd}{p s0 r0:Nat}(h:s0<=r0):Sch l p s0 r0 s0 r0:=⟨Nat.le_refl _,h,Nat.le_refl _,λx _ _=>oo,λx _ _=>oo⟩
theorem z6l {l:List Hd}{a b i j:Nat}(h:y0j l a b)(D:a<=i)(I:i<=j)(O:j<b):(l.getD i hd0).s<=(l.getD j hd0).s:=by
 by_cases e:i=j;subst e;exact Int.le_refl _;exact h i j D oo O
section
variable {l:List Hd} {a m b mid p s0 r0 s r c:Nat}
theorem j9r (h:Sch l p s0 r0 s r)(hc:s<=c/\c<r)(hl:y0j l a m)(D:y0j l m b)(ha:a<=s0)(hm:r0<=m)(hi:r0<=mid)(hp:p=mid+m-1)(hb:mid+m<=b+s0)(hx:¬(l.getD (p-c) hd0).s<(l.getD c hd0).s):Sch l p s0 r0 (c+1) r:=by
 obtain⟨k1,k2,k3,k4,I⟩:=h;refine⟨oo,oo,k3,λx h1 h2=>?_,I⟩;have O:=z6l hl (show a<=x by omega) (show x<=c by omega) (show c<m by omega);have Z:=z6l D (show m<=p-c by omega) (show p-c<=p-x by omega) (show p-x<b by omega);omega
theorem u6b (h:Sch l p s0 r0 s r)(hc:s<=c/\c<r)(hl:y0j l a m)(D:y0j l m b)(ha:a<=s0)(hm:r0<=m)(hi:r0<=mid)(hp:p=mid+m-1)(hb:mid+m<=b+s0)(hx:(l.getD (p-c) hd0).s<(l.getD c hd0).s):Sch l p s0 r0 s c:=by
 obtain⟨I,k2,k3,O,k5⟩:=h;refine⟨I,oo,oo,O,λx h1 h2=>?_⟩;have Z:=z6l hl (show a<=c by omega) (show c<=x by omega) (show x<m by omega);have e2:=z6l D (show m<=p-x by omega) (show p-x<=p-c by omega) (show p-c<b by omega);omega
theorem u5s (h:Sch l p s0 r0 s s)(hl:y0j l a m)(hr:y0j l m b)(ha:a<=s0)(hm:r0=min m mid)(hp:p=mid+m-1)(hb:mid+m<=b+s0)(h0:s0=a\/s0=mid+m-b)(a0:b<=mid+m\/s0=a) :
    (∀i j,s<=i->i<m->m<=j->j<mid+m-s->(l.getD j hd0).s<(l.getD i hd0).s)/\(∀i j,a<=i->i<s->mid+m-s<=j->j<b->(l.getD i hd0).s<=(l.getD j hd0).s):=by
  obtain⟨k1,k2,k3,k4,k5⟩:=h
  constructor
  · intro i j D I O Z
    have e0:=k5 s (Nat.le_refl _) oo
    have e1:=z6l hl (show a<=s by omega) D I
    have e2:=z6l hr O (show j<=p-s by omega) (show p-s<b by omega)
    omega
  · intro i j D I O Z
    by_cases e:s0<s
    · have e0:=k4 (s-1) oo oo
      have e1:=z6l hl D (show i<=s-1 by omega) (show s-1<m by omega)
      have e2:=z6l hr (show m<=p-(s-1) by omega) (show p-(s-1)<=j by omega) Z
      omega
    · omega
end
def chk (B:Nat)(l:List Hd):List Hd:=if h:B=0\/l.length<=B then z5v l else z5v (l.take B)++chk B (l.drop B)
termination_by l.length
decreasing_by rw [List.length_drop];omega
theorem y1l {B:Nat}{l:List Hd}(h:l.length<=B):chk B l=z5v l:=by rw[chk,dif_pos (.inr h)]
theorem u4l {B:Nat}{X Y:List Hd}(D:0<B)(h:X.length=B):chk B (X++Y)=z5v X++chk B Y:=by
 rw[chk];split;rename_i k;rw[List.length_append]at k;have:Y=[]:=List.length_eq_zero_iff.1 oo;subst this;rw[List.append_nil,y1l (l:=[]) sp0];exact(List.append_nil _).symm;rw[<-h];simp
theorem u0r (B:Nat):∀(n:Nat) (l:List Hd),l.length<=n->(chk B l).length=l.length
 | 0,l,h=>by rw[chk,dif_pos (.inr oo),z4w]
 | n+1,l,h=>by
  rw[chk]
  split
  ·exact z4w l
  rename_i k
  rw[List.length_append,z4w,u0r B n _ (by rw[List.length_drop];omega),List.length_take,List.length_drop];omega
theorem y3c {B a:Nat}{l:List Hd}(I:0<B)(h:a+B<=l.length):chk B (l.drop a)=z5v (seg l a (a+B))++chk B (l.drop (a+B)):=by
 have e:l.drop a=seg l a (a+B)++l.drop (a+B):=by
  have:=x1n (l:=l) (a:=a) (b:=a+B) oo h
  have D:=congrArg (List.drop a) this
  rw[List.drop_append_of_le_length (by rw[List.length_take];omega),List.drop_eq_nil_of_le (by rw[List.length_take];omega)]at D
  exact D.symm
 conv=>lhs;rw[e]
 exact u4l I (by rw[z2e h];omega)
theorem u6f {l D:List Hd}{a B:Nat}(O:D.length=a)(h:a+B<=l.length):z8p (D++l.drop a) a (a+B) (a+B)=(D++z5v (seg l a (a+B)))++l.drop (a+B):=by
 have e:l.drop a=seg l a (a+B)++l.drop (a+B):=by
  have:=x1n (l:=l) (a:=a) (b:=a+B) oo h;have I:=congrArg (List.drop a) this;rw[List.drop_append_of_le_length (by rw[List.length_take];omega),List.drop_eq_nil_of_le (by rw[List.length_take];omega)]at I;exact I.symm
 rw[e];have:=z8h (P:=D) (M:=seg l a (a+B)) (S:=l.drop (a+B));rw[O,z2e h,show a+(a+B-a)=a+B by omega]at this;rw[this,List.append_assoc]
theorem u7k {l D:List Hd}{a B:Nat}(I:D.length=a)(h:a<=l.length)(hl:l.length<=a+B):z8p (D++l.drop a) a l.length l.length=D++chk B (l.drop a):=by
 have:=z8h (P:=D) (M:=l.drop a) (S:=[]);rw[I,List.length_drop,show a+(l.length-a)=l.length by omega,List.append_nil,List.append_nil]at this;rw[this,y1l (by rw[List.length_drop];omega)]
theorem x5i {l D:List Hd}{a B C:Nat}(I:D.length=a)(hB:0<B)(hC:C<=B)(h:a+(B+C)<=l.length)(R:List Hd)(hR:chk B (l.drop (a+B))=z5v (seg l (a+B) (a+(B+C)))++R) :
    z8p (D++chk B (l.drop a)) a (a+(B+C)) (a+(B+C))=(D++z5v (seg l a (a+(B+C))))++R/\y0j (D++chk B (l.drop a)) a (a+B)/\y0j (D++chk B (l.drop a)) (a+B) (a+(B+C)):=by
  have e:D++chk B (l.drop a)=D++((z5v (seg l a (a+B))++z5v (seg l (a+B) (a+(B+C))))++R):=by
    rw[y3c hB oo,hR,List.append_assoc]
  have O:(z5v (seg l a (a+B))).length=B:=by rw[z4w,z2e oo];omega
  have Z:(z5v (seg l (a+B) (a+(B+C)))).length=C:=by rw[z4w,z2e oo];omega
  have s:=z8h (P:=D) (M:=z5v (seg l a (a+B))++z5v (seg l (a+B) (a+(B+C)))) (S:=R)
  rw[I,List.length_append,O,Z]at s
  refine⟨?_,?_,?_⟩
  · rw[e,s,u3c,<-y4e oo oo h,List.append_assoc]
  · refine v0r ?_ ?_
    · rw[e];simp only[List.length_append,I,O,Z];omega
    · rw[e]
      have:=x2y (l:=D++(z5v (seg l a (a+B))++(z5v (seg l (a+B) (a+(B+C)))++R))) U
      rw[I,O]at this
      rw[List.append_assoc (z5v (seg l a (a+B))),this];exact z8z _
  · refine v0r ?_ ?_
    · rw[e];simp only[List.length_append,I,O,Z];omega
    · rw[e]
      have:=x2y (l:=(D++z5v (seg l a (a+B)))++(z5v (seg l (a+B) (a+(B+C)))++R)) U
      rw[List.length_append,I,O,Z,List.append_assoc,show a+B+C=a+(B+C) by omega]at this
      rw[List.append_assoc (z5v (seg l a (a+B))),this];exact z8z _
theorem u9x:∀l:Bed,(∀s∈l,s.length<=4)->l.flatten.length<=4*l.length
 | [],_=>by simp
 | s::l,h=>by
  have I:=h s (List.mem_cons_self ..)
  have O:=u9x l λt D=>h t (List.mem_cons_of_mem _ D)
  rw[List.flatten_cons,List.length_append,List.length_cons];omega
theorem x2n {B:Bd}(h:BdOk B):B.flat.length<=320:=by
 have I:=u9x B.f λs D=>h.ss s (List.mem_append.2 (.inl D));have O:=u9x B.b λs D=>h.ss s (List.mem_append.2 (.inr D));have Z:=h.lf;have h4:=h.lb;unfold Bd.flat;rw[List.length_append];omega
end Go.G08
namespace Go.Lw
open Go.RowKit
section
variable {P:Program} {n:Nat} {L:List (Nat×Value)} {ds:List Nat} {w w':World} {Q:Exit->Act->World->Prop} {ops:Array Oper} {rest:List Oper} {d:Nat} {ty T:TypeId} {pos:String} {after:Array Edge} {v:Value} {x:Operand}
theorem u7s {t t':TypeId}{k k':IntKind}{i:Int}{m:Nat}{z:Int}{y:Operand}(O:ev L x=some (.int k i))(Z:ev L y=some (.int k' (m:Int)))(I:m<=k.bits)(hz:i / ((2 ^ m:Nat):Int)=z)(hn:Nat.blt d n=true)(q:WL P ops Q rest n ds w ((d,.int k z)::L)):WL P ops Q (⟨some d,.binOp .shr t x y t',ty,pos,after,none⟩::rest) n ds w L:=
 λa h=>z2m h U hn (by
  have e:i.fdiv (2 ^ m)=z:=by
   rw[Int.fdiv_eq_ediv_of_nonneg _ (by exact_mod_cast Nat.zero_le (2 ^ m)),<-hz]
   congr 1
  have D:¬((m:Nat):Int)<0:=by omega
  simp[execOp,h.eval O,h.eval Z,eqGuard_shr,binOp_shr,Op.shift,Nat.min_eq_left I,e,D]) q
end
end Go.Lw
namespace Go.Proofs.YtagnnbcnnmacmaaGreatDoor
open Go.Lw Go.G21 Go.G08 _root_.Go.Proofs.Tryz
theorem u1y (g c base:Nat)(O b k:Nat)(A B K:Int)(l:List Hd)(w0:World)(hA:A=(O:Int))(hB:B=(b:Int))(hK:K=(k:Int))(I:Lw.Own z4h 201 base w0 (.slice (some ⟨g,0,none⟩) l.length c) l)(hl:l.length<=1000000)(a4:O+k<=b/\b+k<=l.length):Rets prog 250 #[.slice (some ⟨g,0,none⟩) l.length c,.int .i64 A,.int .i64 B,.int .i64 K,.func (.func 170) #[] #[]] w0 λr w'=>r=.tuple #[]/\Lw.Own z4h 201 base w' (.slice (some ⟨g,0,none⟩) l.length c) (swL l O b k)/\Fr [g] w0 w':=by
 subst hA hB hK;refine we [(0,.slice (some ⟨g,0,none⟩) l.length c),(1,.int .i64 (O:Int)),(2,.int .i64 (b:Int)),(3,.int .i64 (k:Int)),(4,.func (.func 170) #[] #[])] func250 U ntmps250 U (.c5 U U U U U) (sr (asg U (nn (bl ?_))));refine lpK (ι:=Nat) [(0,_),(1,_),(2,_),(3,_)] (λi=>[(10,.int .i64 (i:Int))]) (λi w'=>Fr [g] w0 w'/\i<=k/\Lw.Own z4h 201 base w' (.slice (some ⟨g,0,none⟩) l.length c) (swL l O b i)) (λi=>k-i) 0 (.c5 U U U U U) ⟨Fr.refl _ _,⟨Nat.zero_le _,(by rw[sw_0];exact I)⟩⟩ ?_;rintro i w1 ⟨q1,⟨hi,I⟩⟩;refine kpC [(0,_),(1,_),(2,_),(3,_),(10,_)] (.c5 U U U U U) ?_;have a5:=z7d l O b i;refine sq (sr (mv U (mv U (lt' U (nn (cd U (λc0=>?_) (λc0=>?_)))))));refine sk (tn (sq (bl ?_)));intro a h;refine z0h (some 23) (λwb w'=>Fr [g] wb w') z2y ?_;intro w2 q2;replace I:=I.ext q2;have hC:Fr [g] w2 w2:=Fr.refl _ _;have a1:=I;refine z0d 0 h U λa h=>z0d 1 h U λa h=>z0d 2 h U λa h=>z4d 3 h U (by first|exact i6 oo|rfl) U λa h=>z0d 4 h U λa h=>z0d 5 h U λa h=>z0d 6 h U λa h=>z4d 7 h U (by first|exact i6 oo|rfl) U λa h=>z0d 8 h U λa h=>z0d 9 h U λa h=>z0d 10 h U λa h=>?_;refine z4d 11 h U (by first|exact i6 oo|rfl) U λa h=>z1e (p:=(b+i)) (hd0) 12 h U I.sl U z3z U λa2 Z a h=>z0d 14 h U λa h=>z0d 15 h U λa h=>z0d 16 h U λa h=>z4d 17 h U (by first|exact i6 oo|rfl) U λa h=>z1e (p:=(O+i)) (hd0) 18 h U I.sl U z3z U λa3 a0 a h=>z2n 13 19 kr0 U ?_ ?_;refine z1v h U (Z _ I.sl) z6g U λa h=>?_;refine z0b ?_;refine z0e 19 U ?_;refine z1v h U (a0 _ I.sl) z6g U λa h=>?_;refine z0b ?_;refine z1o 20 kr0 hC (p:=(O+i)) h wn U z3z oo oo oo U U λa h=>z0e 21 U ?_;refine z1c (i:=(O+i)) (((swL l O b i).getD (b+i) hd0)) h U I (by rw[z7d];omega) U z9n λw3 D q3 _hz a h=>?_;replace hC:=hC.sp q3;clear _hz I;have I:=D;clear D;refine z0b ?_;refine z1o 22 kr0 hC (p:=(b+i)) h wn U z3z oo oo oo U U λa h=>z0e 23 U ?_;refine z1c (i:=(b+i)) (((swL l O b i).getD (O+i) hd0)) h U I (by rw[List.length_set,z7d];omega) U z9n λw4 D q4 _hz a h=>?_;clear _hz I;have I:=D;clear D;refine z1h ?_;refine z0r ?_;clear hC a1;refine bk (h.sub (L':=[(0,_),(1,_),(2,_),(3,_),(10,_)]) (.c5 U U U U U)) (bn' (tn (rg (mv U (z0q U (wi6 oo) (asg U (nl ?_)))))));exact lpE (i+1) (.c5 U U U U U) ⟨((Fr.refl [g] _).z4 q1 q2 q3 q4),⟨oo,(by rw[v6n oo oo]at I;exact I)⟩⟩ oo;refine z1v h U (a0 _ I.sl) z6g U λa h=>?_;refine z0b ?_;refine z0e 13 U ?_;refine z1v h U (Z _ I.sl) z6g U λa h=>?_;refine z0b ?_;refine z1o 20 kr0 hC (p:=(O+i)) h wn U z3z oo oo oo U U λa h=>z0e 21 U ?_;refine z1c (i:=(O+i)) (((swL l O b i).getD (b+i) hd0)) h U I (by rw[z7d];omega) U z9n λw5 D q5 _hz a h=>?_;replace hC:=hC.sp q5;clear _hz I;have I:=D;clear D;refine z0b ?_;refine z1o 22 kr0 hC (p:=(b+i)) h wn U z3z oo oo oo U U λa h=>z0e 23 U ?_;refine z1c (i:=(b+i)) (((swL l O b i).getD (O+i) hd0)) h U I (by rw[List.length_set,z7d];omega) U z9n λw6 D q6 _hz a h=>?_;clear _hz I;have I:=D;clear D;refine z1h ?_;refine z0r ?_;clear hC a1;refine bk (h.sub (L':=[(0,_),(1,_),(2,_),(3,_),(10,_)]) (.c5 U U U U U)) (bn' (tn (rg (mv U (z0q U (wi6 oo) (asg U (nl ?_)))))));exact lpE (i+1) (.c5 U U U U U) ⟨((Fr.refl [g] _).z4 q1 q2 q5 q6),⟨oo,(by rw[v6n oo oo]at I;exact I)⟩⟩ oo;obtain rfl:i=k:=by omega
 exact ex (te (te (xh (r0n results250  ⟨_,rfl,rfl,I,((Fr.refl [g] _).z1 q1)⟩))))
theorem k1v (g c base:Nat)(Z m b:Nat)(A M B:Int)(l:List Hd)(w0:World)(hA:A=(Z:Int))(hM:M=(m:Int))(hB:B=(b:Int))(I:Lw.Own z4h 201 base w0 (.slice (some ⟨g,0,none⟩) l.length c) l)(hl:l.length<=1000000)(a1:Z<m/\m<b/\b<=l.length):Rets prog 247 #[.slice (some ⟨g,0,none⟩) l.length c,.int .i64 A,.int .i64 M,.int .i64 B,.func (.func 170) #[] #[]] w0 λr w'=>r=.tuple #[]/\Lw.Own z4h 201 base w' (.slice (some ⟨g,0,none⟩) l.length c) (z5x l Z m b)/\Fr [g] w0 w':=by
 subst hA hM hB;refine we [(0,.slice (some ⟨g,0,none⟩) l.length c),(1,.int .i64 (Z:Int)),(2,.int .i64 (m:Int)),(3,.int .i64 (b:Int)),(4,.func (.func 170) #[] #[])] func247 U ntmps247 U (.c5 U U U U U) (sr (mv U (mv U (z1u U (wi6 oo) (asg U (nn (sr (mv U (mv U (z1u U (wi6 oo) (asg U (nn (sq (bl ?_))))))))))))));refine lpK (ι:=Nat×Nat) [(0,_),(2,_),(4,_)] (λp=>[(10,.int .i64 (p.1:Int)),(11,.int .i64 (p.2:Int))]) (λp w'=>Fr [g] w0 w'/\(1<=p.1/\1<=p.2/\p.1<=m/\m+p.2<=l.length)/\∃cur:List Hd,cur.length=l.length/\z5x cur (m-p.1) m (m+p.2)=z5x l Z m b/\Lw.Own z4h 201 base w' (.slice (some ⟨g,0,none⟩) l.length c) cur) (λp=>p.1+p.2) (m-Z,b-m) (.c5 U U U (by first|rfl|exact congrArg (λz=>some (Value.int .i64 z)) (by first|omega|(simp only;omega))) (by first|rfl|exact congrArg (λz=>some (Value.int .i64 z)) (by first|omega|(simp only;omega)))) ⟨Fr.refl _ _,⟨⟨sm,sm,sm,sm⟩,l,rfl,by simp only;rw[show m-(m-Z)=Z by omega,show m+(b-m)=b by omega],I⟩⟩ ?_;rintro⟨i,j⟩ w1 ⟨q1,⟨a0,cur,D,O,I⟩⟩;simp only at a0 O;refine kpC [(0,_),(2,_),(4,_),(10,.int .i64 (i:Int)),(11,.int .i64 (j:Int))] (.c5 U U U U U) (sq (sr (mv U (mv U (ne' U (nn (cd U (λc0=>?_) (λc0=>?_))))))));refine sk (tn (bl (sr (mv U (mv U (gt' U (nn (cd U (λc1=>?_) (λc1=>?_)))))))));refine sr (mv U (mv U (mv U (z1u U (wi6 oo) (mv U (mv U (mv U ?_)))))));refine cl (z0a U (z0a U (z0a U (z0a U (z0a U z0g))))) (mkC func250) (by have x:=u1y g c base (m-i) m j (↑m - ↑i) ↑m ↑j cur _ oo U U (by rw[D];exact I) oo oo;rw[D]at x;exact x) U ?_;rintro _ w2 ⟨rfl,I,q2⟩;refine kpL [(0,_),(2,_),(4,_),(10,_),(11,_)] (.c5 U U U U U) (nn (rg (mv U (mv U (z1u U (wi6 oo) (asg U (nl (bn' ?_))))))));exact lpE ((i-j,j)) (.c5 U U U (by first|rfl|exact congrArg (λz=>some (Value.int .i64 z)) (by first|omega|(simp only;omega))) (by first|rfl|exact congrArg (λz=>some (Value.int .i64 z)) (by first|omega|(simp only;omega)))) ⟨((Fr.refl [g] _).z2 q1 q2),⟨⟨sm,sm,sm,sm⟩,_,by rw[z7d];exact D,by simp only;rw[<-O];exact j7s oo oo oo,I⟩⟩ sm;refine sr (mv U (mv U (mv U (z1u U (wi6 oo) (mv U (mv U (z0q U (wi6 oo) (mv U (z1u U (wi6 oo) (mv U (mv U ?_)))))))))));refine cl (z0a U (z0a U (z0a U (z0a U (z0a U z0g))))) (mkC func250) (by have x:=u1y g c base (m-i) (m+j-i) i (↑m - ↑i) (↑m + ↑j - ↑i) ↑i cur _ oo oo U (by rw[D];exact I) oo oo;rw[D]at x;exact x) U ?_;rintro _ w3 ⟨rfl,I,q3⟩;refine kpL [(0,_),(2,_),(4,_),(10,_),(11,_)] (.c5 U U U U U) (nn (rg (mv U (mv U (z1u U (wi6 oo) (asg U (nl (bn' ?_))))))));exact lpE ((i,j-i)) (.c5 U U U (by first|rfl|exact congrArg (λz=>some (Value.int .i64 z)) (by first|omega|(simp only;omega))) (by first|rfl|exact congrArg (λz=>some (Value.int .i64 z)) (by first|omega|(simp only;omega)))) ⟨((Fr.refl [g] _).z2 q1 q3),⟨⟨sm,sm,sm,sm⟩,_,by rw[z7d];exact D,by simp only;rw[<-O];exact k1t oo oo oo,I⟩⟩ sm;obtain rfl:i=j:=by omega
 refine ex (te (te (xh (tn (rg (mv U (mv U (mv U (z1u U (wi6 oo) (mv U (mv U (mv U (cl (z0a U (z0a U (z0a U (z0a U (z0a U z0g))))) (mkC func250) (by have x:=u1y g c base (m-i) m i (↑m - ↑i) ↑m ↑i cur _ oo U U (by rw[D];exact I) oo oo;rw[D]at x;exact x) U ?_)))))))))))));rintro _ w4 ⟨rfl,I,q4⟩;exact kpL [] .nil (nl (r0n results247  ⟨_,rfl,rfl,by rw[<-O,<-j9b oo];exact I,((Fr.refl [g] _).z2 q1 q4)⟩))
theorem u7v (g c base:Nat)(n:Nat):∀(Z m b:Nat) (A M B:Int) (l:List Hd) (w0:World),b-Z<=n->A=(Z:Int)->M=(m:Int)->B=(b:Int)->Lw.Own z4h 201 base w0 (.slice (some ⟨g,0,none⟩) l.length c) l->l.length<=1000000->Z<m->m<b->b<=l.length->y0j l Z m->y0j l m b->Rets prog 237 #[.slice (some ⟨g,0,none⟩) l.length c,.int .i64 A,.int .i64 M,.int .i64 B,.func (.func 170) #[] #[]] w0 λr w'=>r=.tuple #[]/\Lw.Own z4h 201 base w' (.slice (some ⟨g,0,none⟩) l.length c) (z8p l Z b b)/\Fr [g] w0 w':=by
 induction n;intros;omega;rename_i n ih;intro Z m b A M B l w0 hn hA hM hB D hl h1 h2 h3 a0 a1;subst hA hM hB;obtain⟨mid,h9⟩:∃mid,mid=(Z+b) / 2:=⟨_,rfl⟩;refine we [(0,.slice (some ⟨g,0,none⟩) l.length c),(1,.int .i64 (Z:Int)),(2,.int .i64 (m:Int)),(3,.int .i64 (b:Int)),(4,.func (.func 170) #[] #[])] func237 U ntmps237 U (.c5 U U U U U) (sq (sr (mv U (mv U (z1u U (wi6 oo) (eq' U (nn (cd U (λc0=>?_) (λc0=>?_)))))))));obtain rfl:m=Z+1:=by omega
 refine sr (mv U (asg U (nn (sr (mv U (asg U (nn (sq (bl ?_)))))))));refine lpK (ι:=Nat×Nat) [(0,_),(1,_),(4,_)] (λp=>[(10,.int .i64 (p.1:Int)),(11,.int .i64 (p.2:Int))]) (λp w'=>Fr [] w0 w'/\(Z+1<=p.1/\p.1<=p.2/\p.2<=b)/\(∀x,Z+1<=x->x<p.1->(l.getD x hd0).s<(l.getD Z hd0).s)/\(∀x,p.2<=x->x<b->(l.getD Z hd0).s<=(l.getD x hd0).s)) (λp=>p.2-p.1) (Z+1,b) (.c5 U U U (by first|rfl|exact congrArg (λz=>some (Value.int .i64 z)) (by first|omega|(simp only;omega))) U) ⟨Fr.refl _ _,⟨⟨sm,sm,sm⟩,λx h h'=>by simp only at h';omega,λx h h'=>by simp only at h;omega⟩⟩ ?_;rintro⟨i,j⟩ w1 ⟨q1,hI⟩;simp only at hI;refine kpC [(0,_),(1,_),(4,_),(10,.int .i64 (i:Int)),(11,.int .i64 (j:Int))] (.c5 U U U U U) (sq (sr (mv U (mv U (lt' U (nn (cd U (λc1=>?_) (λc1=>?_))))))));refine sk (tn (bl (sr (mv U (mv U (z0q U (wi6 oo) (z6s U (us underlying3) underlying220 (IntWalk.u64_in _ oo) (u7s (m:=1) (z:=(((i+j) / 2:Nat):Int)) U U dd (show _ / (2:Int)=_ by omega) U (z6s U (us underlying220) underlying3 (wi6 oo) (asg U (kpL [(0,_),(1,_),(4,_),(10,_),(11,_),(12,_)] (.c6 U U U U U U) (nn (sq ?_)))))))))))));intro a h;refine z0h none (λwb w'=>Fr [] wb w') z2y ?_;intro w2 q2;replace D:=D.ext (q1.n1 q2);have hC:Fr [] w2 w2:=Fr.refl _ _;have O:=D;refine z0d 0 h U λa h=>z0d 1 h U λa h=>z0d 2 h U λa h=>z1e (p:=((i+j) / 2)) (hd0) 3 h U D.sl U z3z U λh0 d5 a h=>z2l 4 h wn U (λ_ hw=>d5 _ (O.sl.ext hw)) z6g U λa h=>z0d 5 h U λa h=>z0d 6 h U λa h=>z1e (p:=Z) (hd0) 7 h U D.sl U z3z U λh4 d6 a h=>z2l 8 h wn U (λ_ hw=>d6 _ (O.sl.ext hw)) z6g U λa h=>z0e 9 U (z4y (us:=[]) (ws:=[]) h U (z0a U (z0a U z0g)) (mkC func170) (x2m ((l).getD (((i+j) / 2)) hd0) ((l).getD (Z) hd0) _) (by intro g e;cases e) ?_);rintro _ w3 ⟨rfl,q3⟩ a h;replace D:=D.ext q3;replace hC:=hC.next q3;refine z0b (x9m 10 hC h wn U U λa h=>z0r ?_);clear hC O;refine bk (h.sub (L':=[(0,_),(1,_),(4,_),(10,_),(11,_),(12,_),(50,_)]) (.c7 U U U U U U U)) (tn (cd U (λc2=>?_) (λc2=>?_)));have hx:=z9s.1 c2;refine rg (mv U (z0q U (wi6 oo) (asg U (nl (bn' ?_)))));exact lpE (((i+j) / 2+1,j)) (.c5 U U U (by first|rfl|exact congrArg (λz=>some (Value.int .i64 z)) (by first|omega|(simp only;omega))) (by first|rfl|exact congrArg (λz=>some (Value.int .i64 z)) (by first|omega|(simp only;omega)))) ⟨(q1.n2 q2 q3),⟨⟨sm,sm,sm⟩,λx h h'=>by
  have:=z6l a1 (show Z+1<=x by omega) (show x<=(i+j) / 2 by simp only at h';omega) oo;omega,hI.2.2⟩⟩ sm
 have hx:¬((l).getD (((i+j) / 2)) hd0).s<((l).getD (Z) hd0).s:=λe=>c2 (z9s.2 e);refine rg (mv U (asg U (nl (bn' ?_))));exact lpE ((i,(i+j) / 2)) (.c5 U U U (by first|rfl|exact congrArg (λz=>some (Value.int .i64 z)) (by first|omega|(simp only;omega))) (by first|rfl|exact congrArg (λz=>some (Value.int .i64 z)) (by first|omega|(simp only;omega)))) ⟨(q1.n2 q2 q3),⟨⟨sm,sm,sm⟩,hI.2.1,λx h h'=>by
  have:=z6l a1 (show Z+1<=(i+j) / 2 by omega) (show (i+j) / 2<=x by simp only at h;omega) h';omega⟩⟩ sm
 obtain rfl:i=j:=by omega
 refine ex (te (te (xh (tn (sq (sr (mv U (asg U (nn (bl ?_))))))))));replace D:=D.ext q1;refine lpK (ι:=Nat) [(0,_),(10,_)] (λk=>[(13,.int .i64 (k:Int))]) (λk w'=>Fr [g] w1 w'/\(Z<=k/\k+1<=i)/\Lw.Own z4h 201 base w' (.slice (some ⟨g,0,none⟩) l.length c) (z5x l Z (Z+1) (k+1))) (λk=>i-k) Z (.c3 U U U) ⟨Fr.refl _ _,⟨⟨Nat.le_refl _,oo⟩,by rw[u9f oo];exact D⟩⟩ ?_;rintro k w4 ⟨q4,⟨hk,D⟩⟩;refine kpC [(0,_),(10,_),(13,_)] (.c3 U U U) ?_;have f6:=z1n l Z (Z+1) (k+1);refine sq (sr (mv U (mv U (z1u U (wi6 oo) (lt' U (nn (cd U (λc3=>?_) (λc3=>?_))))))));refine sk (tn (sq (bl ?_)));intro a h;refine z0h (some 17) (λwb w'=>Fr [g] wb w') z2y ?_;intro w5 q5;replace D:=D.ext q5;have hC:Fr [g] w5 w5:=Fr.refl _ _;have O:=D;refine z0d 0 h U λa h=>z0d 1 h U λa h=>z0d 2 h U λa h=>z0d 3 h U λa h=>z4d 4 h U (by first|exact i6 oo|rfl) U λa h=>z0d 5 h U λa h=>z0d 6 h U λa h=>z4d 7 h U (by first|exact i6 oo|rfl) U λa h=>z1e (p:=(k+1)) (hd0) 8 h U D.sl U z3z U λh5 b2 a h=>z0d 10 h U λa h=>z0d 11 h U λa h=>z1e (p:=k) (hd0) 12 h U D.sl U z3z U λh6 b3 a h=>z2n 9 13 kr0 U ?_ ?_;refine z1v h U (b2 _ D.sl) z6g U λa h=>z0b (z0e 13 U (z1v h U (b3 _ D.sl) z6g U λa h=>?_));refine z0b (z1o 14 kr0 hC (p:=k) h wn U z3z oo oo oo U U λa h=>z0e 15 U (z1c (i:=k) (((z5x l Z (Z+1) (k+1)).getD (k+1) hd0)) h U D (by rw[z1n];omega) U z9n λw6 I q6 _hz a h=>?_));replace hC:=hC.sp q6;clear _hz D;have D:=I;clear I;refine z0b (z1o 16 kr0 hC (p:=(k+1)) h wn U z3z oo oo oo U U λa h=>z0e 17 U (z1c (i:=(k+1)) (((z5x l Z (Z+1) (k+1)).getD (k) hd0)) h U D (by rw[List.length_set,z1n];omega) U z9n λw7 I q7 _hz a h=>?_));clear _hz D;have D:=I;clear I;refine z1h (z0r ?_);clear hC O;refine bk (h.sub (L':=[(0,_),(10,_),(13,_)]) (.c3 U U U)) (bn' (tn (rg (mv U (z0q U (wi6 oo) (asg U (nl ?_)))))));exact lpE (k+1) (.c3 U U (congrArg (λz=>some (Value.int .i64 z)) oo)) ⟨((Fr.refl [g] _).z4 q4 q5 q6 q7),⟨oo,by rw[u9h oo oo]at D;exact D⟩⟩ oo;refine z1v h U (b3 _ D.sl) z6g U λa h=>z0b (z0e 9 U (z1v h U (b2 _ D.sl) z6g U λa h=>?_));refine z0b (z1o 14 kr0 hC (p:=k) h wn U z3z oo oo oo U U λa h=>z0e 15 U (z1c (i:=k) (((z5x l Z (Z+1) (k+1)).getD (k+1) hd0)) h U D (by rw[z1n];omega) U z9n λw8 I q8 _hz a h=>?_));replace hC:=hC.sp q8;clear _hz D;have D:=I;clear I;refine z0b (z1o 16 kr0 hC (p:=(k+1)) h wn U z3z oo oo oo U U λa h=>z0e 17 U (z1c (i:=(k+1)) (((z5x l Z (Z+1) (k+1)).getD (k) hd0)) h U D (by rw[List.length_set,z1n];omega) U z9n λw9 I q9 _hz a h=>?_));clear _hz D;have D:=I;clear I;refine z1h (z0r ?_);clear hC O;refine bk (h.sub (L':=[(0,_),(10,_),(13,_)]) (.c3 U U U)) (bn' (tn (rg (mv U (z0q U (wi6 oo) (asg U (nl ?_)))))));exact lpE (k+1) (.c3 U U (congrArg (λz=>some (Value.int .i64 z)) oo)) ⟨((Fr.refl [g] _).z4 q4 q5 q8 q9),⟨oo,by rw[u9h oo oo]at D;exact D⟩⟩ oo;obtain rfl:k+1=i:=by omega
 exact ex (te (te (xh (tn (rt (tr (r0 results237  ⟨_,rfl,rfl,by rw[<-u9s oo oo h3 a1 hI.2.1 hI.2.2];exact D,((Fr.refl [g] _).z2 q1 q4)⟩)))))));refine sk (tn (sq (sr (mv U (mv U (z1u U (wi6 oo) (eq' U (nn (cd U (λc4=>?_) (λc4=>?_))))))))));obtain rfl:b=m+1:=by omega
 refine sr (mv U (asg U (nn (sr (mv U (asg U (nn (sq (bl (lpK (ι:=Nat×Nat) [(0,_),(2,_),(4,_)] (λp=>[(14,.int .i64 (p.1:Int)),(15,.int .i64 (p.2:Int))]) (λp w'=>Fr [] w0 w'/\(Z<=p.1/\p.1<=p.2/\p.2<=m)/\(∀x,Z<=x->x<p.1->(l.getD x hd0).s<=(l.getD m hd0).s)/\(∀x,p.2<=x->x<m->(l.getD m hd0).s<(l.getD x hd0).s)) (λp=>p.2-p.1) (Z,m) (.c5 U U U U U) ⟨Fr.refl _ _,⟨⟨sm,sm,sm⟩,λx h h'=>by simp only at h';omega,λx h h'=>by simp only at h;omega⟩⟩ ?_))))))))));rintro⟨i,j⟩ g6 ⟨a7,hI⟩;simp only at hI;refine kpC [(0,_),(2,_),(4,_),(14,.int .i64 (i:Int)),(15,.int .i64 (j:Int))] (.c5 U U U U U) (sq (sr (mv U (mv U (lt' U (nn (cd U (λc5=>?_) (λc5=>?_))))))));refine sk (tn (bl (sr (mv U (mv U (z0q U (wi6 oo) (z6s U (us underlying3) underlying220 (IntWalk.u64_in _ oo) (u7s (m:=1) (z:=(((i+j) / 2:Nat):Int)) U U dd (show _ / (2:Int)=_ by omega) U (z6s U (us underlying220) underlying3 (wi6 oo) (asg U (kpL [(0,_),(2,_),(4,_),(14,_),(15,_),(16,_)] (.c6 U U U U U U) (nn (sq ?_)))))))))))));intro a h;refine z0h none (λwb w'=>Fr [] wb w') z2y ?_;intro e5 b7;replace D:=D.ext (a7.n1 b7);have hC:Fr [] e5 e5:=Fr.refl _ _;have O:=D;refine z0d 0 h U λa h=>z0d 1 h U λa h=>z0d 2 h U λa h=>z1e (p:=m) (hd0) 3 h U D.sl U z3z U λh7 d7 a h=>z2l 4 h wn U (λ_ hw=>d7 _ (O.sl.ext hw)) z6g U λa h=>z0d 5 h U λa h=>z0d 6 h U λa h=>z1e (p:=((i+j) / 2)) (hd0) 7 h U D.sl U z3z U λh8 d9 a h=>z2l 8 h wn U (λ_ hw=>d9 _ (O.sl.ext hw)) z6g U λa h=>z0e 9 U (z4y (us:=[]) (ws:=[]) h U (z0a U (z0a U z0g)) (mkC func170) (x2m ((l).getD (m) hd0) ((l).getD (((i+j) / 2)) hd0) _) (by intro g e;cases e) ?_);rintro _ i5 ⟨rfl,b0⟩ a h;replace D:=D.ext b0;replace hC:=hC.next b0;refine z0b (x9m 10 hC h wn U U λa h=>x5n 11 hC h wn U U U λa h=>z0r ?_);clear hC O;refine bk (h.sub (L':=[(0,_),(2,_),(4,_),(14,_),(15,_),(16,_),(103,_)]) (.c7 U U U U U U U)) (tn (cd U (λc6=>?_) (λc6=>?_)));have hx:¬((l).getD (m) hd0).s<((l).getD (((i+j) / 2)) hd0).s:=λe=>c6 (z9s.2 e);refine rg (mv U (z0q U (wi6 oo) (asg U (nl (bn' ?_)))));exact lpE (((i+j) / 2+1,j)) (.c5 U U U (by first|rfl|exact congrArg (λz=>some (Value.int .i64 z)) (by first|omega|(simp only;omega))) (by first|rfl|exact congrArg (λz=>some (Value.int .i64 z)) (by first|omega|(simp only;omega)))) ⟨(a7.n2 b7 b0),⟨⟨sm,sm,sm⟩,λx h h'=>by
  have:=z6l a0 (show Z<=x by omega) (show x<=(i+j) / 2 by simp only at h';omega) oo;omega,hI.2.2⟩⟩ sm
 have hx:=z9s.1 (Classical.not_not.1 c6);refine rg (mv U (asg U (nl (bn' ?_))));exact lpE ((i,(i+j) / 2)) (.c5 U U U (by first|rfl|exact congrArg (λz=>some (Value.int .i64 z)) (by first|omega|(simp only;omega))) (by first|rfl|exact congrArg (λz=>some (Value.int .i64 z)) (by first|omega|(simp only;omega)))) ⟨(a7.n2 b7 b0),⟨⟨sm,sm,sm⟩,hI.2.1,λx h h'=>by
  have:=z6l a0 (show Z<=(i+j) / 2 by omega) (show (i+j) / 2<=x by simp only at h;omega) h';omega⟩⟩ sm
 obtain rfl:i=j:=by omega
 refine ex (te (te (xh (tn (sq (sr (mv U (asg U (nn (bl ?_))))))))));replace D:=D.ext a7;refine lpK (ι:=Nat) [(0,_),(14,_)] (λk=>[(17,.int .i64 (k:Int))]) (λk w'=>Fr [g] g6 w'/\(i<=k/\k<=m)/\Lw.Own z4h 201 base w' (.slice (some ⟨g,0,none⟩) l.length c) (z5x l k m (m+1))) (λk=>k) m (.c3 U U U) ⟨Fr.refl _ _,⟨oo,by rw[u7u oo];exact D⟩⟩ ?_;rintro k i7 ⟨b8,⟨hk,D⟩⟩;refine kpC [(0,_),(14,_),(17,_)] (.c3 U U U) ?_;have f6:=z1n l k m (m+1);refine sq (sr (mv U (mv U (gt' U (nn (cd U (λc7=>?_) (λc7=>?_)))))));refine sk (tn (sq (bl ?_)));intro a h;refine z0h (some 17) (λwb w'=>Fr [g] wb w') z2y ?_;intro e6 b9;replace D:=D.ext b9;have hC:Fr [g] e6 e6:=Fr.refl _ _;have O:=D;refine z0d 0 h U λa h=>z0d 1 h U λa h=>z0d 2 h U λa h=>z0d 3 h U λa h=>z3e 4 h U (by first|exact i6 oo|rfl) U λa h=>z0d 5 h U λa h=>z0d 6 h U λa h=>z3e 7 h U (by first|exact i6 oo|rfl) U λa h=>z1e (p:=(k-1)) (hd0) 8 h U D.sl U z3z U λe8 a5 a h=>z0d 10 h U λa h=>z0d 11 h U λa h=>z1e (p:=k) (hd0) 12 h U D.sl U z3z U λe9 a6 a h=>z2n 9 13 kr0 U ?_ ?_;refine z1v h U (a5 _ D.sl) z6g U λa h=>z0b (z0e 13 U (z1v h U (a6 _ D.sl) z6g U λa h=>?_));refine z0b (z1o 14 kr0 hC (p:=k) h wn U z3z oo oo oo U U λa h=>z0e 15 U (z1c (i:=k) (((z5x l k m (m+1)).getD (k-1) hd0)) h U D (by rw[z1n];omega) U z9n λi8 I e1 _hz a h=>?_));replace hC:=hC.sp e1;clear _hz D;have D:=I;clear I;refine z0b (z1o 16 kr0 hC (p:=(k-1)) h wn U z3z oo oo oo U U λa h=>z0e 17 U (z1c (i:=(k-1)) (((z5x l k m (m+1)).getD (k) hd0)) h U D (by rw[List.length_set,z1n];omega) U z9n λi9 I f8 _hz a h=>?_));clear _hz D;have D:=I;clear I;refine z1h (z0r ?_);clear hC O;refine bk (h.sub (L':=[(0,_),(14,_),(17,_)]) (.c3 U U U)) (bn' (tn (rg (mv U (z1u U (wi6 oo) (asg U (nl ?_)))))));exact lpE ((k-1)) (.c3 U U (congrArg (λz=>some (Value.int .i64 z)) oo)) ⟨((Fr.refl [g] _).z4 b8 b9 e1 f8),⟨oo,by have e:=v3b (l:=l) (m:=m) (k:=k-1) oo oo;rw[show k-1+1=k by omega]at e;rw[e]at D;exact D⟩⟩ oo;refine z1v h U (a6 _ D.sl) z6g U λa h=>z0b (z0e 9 U (z1v h U (a5 _ D.sl) z6g U λa h=>?_));refine z0b (z1o 14 kr0 hC (p:=k) h wn U z3z oo oo oo U U λa h=>z0e 15 U (z1c (i:=k) (((z5x l k m (m+1)).getD (k-1) hd0)) h U D (by rw[z1n];omega) U z9n λj0 I e2 _hz a h=>?_));replace hC:=hC.sp e2;clear _hz D;have D:=I;clear I;refine z0b (z1o 16 kr0 hC (p:=(k-1)) h wn U z3z oo oo oo U U λa h=>z0e 17 U (z1c (i:=(k-1)) (((z5x l k m (m+1)).getD (k) hd0)) h U D (by rw[List.length_set,z1n];omega) U z9n λj1 I f9 _hz a h=>?_));clear _hz D;have D:=I;clear I;refine z1h (z0r ?_);clear hC O;refine bk (h.sub (L':=[(0,_),(14,_),(17,_)]) (.c3 U U U)) (bn' (tn (rg (mv U (z1u U (wi6 oo) (asg U (nl ?_)))))));exact lpE ((k-1)) (.c3 U U (congrArg (λz=>some (Value.int .i64 z)) oo)) ⟨((Fr.refl [g] _).z4 b8 b9 e2 f9),⟨oo,by have e:=v3b (l:=l) (m:=m) (k:=k-1) oo oo;rw[show k-1+1=k by omega]at e;rw[e]at D;exact D⟩⟩ oo;obtain rfl:k=i:=by omega
 exact ex (te (te (xh (tn (rt (tr (r0 results237  ⟨_,rfl,rfl,by rw[<-j2y oo oo h3 a0 (λx h h'=>hI.2.2 x h h') (λx h h'=>hI.2.1 x h h')];exact D,((Fr.refl [g] _).z2 a7 b8)⟩)))))));refine sk (tn (sr (mv U (mv U (z0q U (wi6 oo) (z6s U (us underlying3) underlying220 (IntWalk.u64_in _ oo) (u7s (m:=1) (z:=(mid:Int)) U U dd (show _ / (2:Int)=_ by omega) U (z6s U (us underlying220) underlying3 (wi6 oo) (asg U (kpL [(0,_),(1,_),(2,_),(3,_),(4,_),(18,_)] (.c6 U U U U U U) (nn (sr (mv U (mv U (z0q U (wi6 oo) (asg U (nn (sr (asg U (asg U (nn (jn (ι:=Unit) [(0,_),(1,_),(2,_),(3,_),(4,_),(18,_),(19,_)] (λ_j=>[(20,.int .i64 ((((if mid<m then mid+m-b else Z):Nat)):Int)),(21,.int .i64 ((((if mid<m then mid else m):Nat)):Int))]) (λ_j w'=>Fr [] w0 w') (.c7 U U U U U U U) ?_ ?_))))))))))))))))))))));refine sr (mv U (mv U (gt' U (nn (cd U (λc8=>?_) (λc8=>?_))))));refine sr (mv U (mv U (z1u U (wi6 oo) (asg U (nn (rg (mv U (asg U (nl ?_)))))))));exact jE (()) (.d8 U U U U U U U (congrArg (λz=>some (Value.int .i64 z)) (by split<;>omega)) (.cons (congrArg (λz=>some (Value.int .i64 z)) (by split<;>omega)) .nil)) (Fr.refl _ _);refine sr (mv U (asg U (nn (rg (mv U (asg U (nl ?_)))))));exact jE (()) (.d8 U U U U U U U (congrArg (λz=>some (Value.int .i64 z)) (by split<;>omega)) (.cons (congrArg (λz=>some (Value.int .i64 z)) (by split<;>omega)) .nil)) (Fr.refl _ _);rintro _j g7 a8;refine kpC [(0,_),(1,_),(2,_),(3,_),(4,_),(18,_),(19,_),(20,_),(21,_)] (.d8 U U U U U U U U (.cons U .nil)) (sr (mv U (z1u U (wi6 oo) (asg U (nn (sq (bl ?_)))))));refine lpK (ι:=Nat×Nat) [(0,_),(1,_),(2,_),(3,_),(4,_),(18,_),(19,_),(22,_)] (λp=>[(20,.int .i64 (p.1:Int)),(21,.int .i64 (p.2:Int))]) (λp w'=>Fr [] g7 w'/\Sch l (mid+m-1) (if mid<m then mid+m-b else Z) (if mid<m then mid else m) p.1 p.2) (λp=>p.2-p.1) ((if mid<m then mid+m-b else Z),(if mid<m then mid else m)) (.d8 U U U U U U U U (.c2 U U)) ⟨Fr.refl _ _,k3f (by split<;>omega)⟩ ?_;rintro⟨s,r⟩ g8 ⟨a3,hI⟩;simp only at hI;refine kpC [(0,_),(1,_),(2,_),(3,_),(4,_),(18,_),(19,_),(22,_),(20,.int .i64 (s:Int)),(21,.int .i64 (r:Int))] (.d8 U U U U U U U U (.c2 U U)) ?_;have d1:=hI.lo;have i2:=hI.le;have f5:=hI.hi;have i0:Z<=s:=by split at d1<;>omega
 have i3:r<=m/\r<=mid:=by split at f5<;>omega
 have i1:mid+m<=b+s:=by split at d1<;>omega
 refine sq (sr (mv U (mv U (lt' U (nn (cd U (λc9=>?_) (λc9=>?_)))))));refine sk (tn (bl (sr (mv U (mv U (z0q U (wi6 oo) (z6s U (us underlying3) underlying220 (IntWalk.u64_in _ oo) (u7s (m:=1) (z:=(((s+r) / 2:Nat):Int)) U U dd (show _ / (2:Int)=_ by omega) U (z6s U (us underlying220) underlying3 (wi6 oo) (asg U (kpL [(0,_),(1,_),(2,_),(3,_),(4,_),(18,_),(19,_),(20,_),(21,_),(22,_),(23,_)] (.d8 U U U U U U U U (.c3 U U U)) (nn (sq ?_)))))))))))));intro a h;refine z0h none (λwb w'=>Fr [] wb w') z2y ?_;intro e7 d0;replace D:=D.ext (a8.n2 a3 d0);have hC:Fr [] e7 e7:=Fr.refl _ _;have O:=D;refine z0d 0 h U λa h=>z0d 1 h U λa h=>z0d 2 h U λa h=>z0d 3 h U λa h=>z3e 4 h U (by first|exact i6 oo|rfl) U λa h=>z1e (p:=((mid+m-1)-((s+r) / 2))) (hd0) 5 h U D.sl U z3z U λf0 b5 a h=>z2l 6 h wn U (λ_ hw=>b5 _ (O.sl.ext hw)) z6g U λa h=>z0d 7 h U λa h=>z0d 8 h U λa h=>z1e (p:=((s+r) / 2)) (hd0) 9 h U D.sl U z3z U λf1 b6 a h=>z2l 10 h wn U (λ_ hw=>b6 _ (O.sl.ext hw)) z6g U λa h=>z0e 11 U (z4y (us:=[]) (ws:=[]) h U (z0a U (z0a U z0g)) (mkC func170) (x2m ((l).getD ((mid+m-1)-((s+r) / 2)) hd0) ((l).getD (((s+r) / 2)) hd0) _) (by intro g e;cases e) ?_);rintro _ j2 ⟨rfl,b1⟩ a h;replace D:=D.ext b1;replace hC:=hC.next b1;refine z0b (x9m 12 hC h wn U U λa h=>x5n 13 hC h wn U U U λa h=>z0r ?_);clear hC O;refine bk (h.sub (L':=[(0,_),(1,_),(2,_),(3,_),(4,_),(18,_),(19,_),(20,_),(21,_),(22,_),(23,_),(171,_)]) (.d8 U U U U U U U U (.c4 U U U U))) (tn (cd U (λb4=>?_) (λb4=>?_)));have hx:¬((l).getD ((mid+m-1)-((s+r) / 2)) hd0).s<((l).getD (((s+r) / 2)) hd0).s:=λe=>b4 (z9s.2 e);refine rg (mv U (z0q U (wi6 oo) (asg U (nl (bn' ?_)))));exact lpE (((s+r) / 2+1,r)) (.d8 U U U U U U U U (.c2 (by first|rfl|exact congrArg (λz=>some (Value.int .i64 z)) (by first|omega|(simp only;omega))) (by first|rfl|exact congrArg (λz=>some (Value.int .i64 z)) (by first|omega|(simp only;omega))))) ⟨(a3.n2 d0 b1),j9r hI oo a0 a1 (by split<;>omega) (by split<;>omega) (by split<;>omega) U (by split<;>omega) hx⟩ sm;have hx:=z9s.1 (Classical.not_not.1 b4);refine rg (mv U (asg U (nl (bn' ?_))));exact lpE ((s,(s+r) / 2)) (.d8 U U U U U U U U (.c2 (by first|rfl|exact congrArg (λz=>some (Value.int .i64 z)) (by first|omega|(simp only;omega))) (by first|rfl|exact congrArg (λz=>some (Value.int .i64 z)) (by first|omega|(simp only;omega))))) ⟨(a3.n2 d0 b1),u6b hI oo a0 a1 (by split<;>omega) (by split<;>omega) (by split<;>omega) U (by split<;>omega) hx⟩ sm;obtain rfl:s=r:=by have:=hI.le;omega
 obtain⟨hX,hY⟩:=u5s hI a0 a1 (by split<;>omega) (by split<;>omega) U (by split<;>omega) (by split<;>omega) (by split<;>omega);have e0:=hI.lo;have f7:=hI.hi;have a4:Z<=s:=by split at e0<;>omega
 have a2:s<=m/\s<=mid:=by split at f7<;>omega
 have i4:mid+m<=b+s:=by split at e0<;>omega
 have d3:=x3d a4 a2.1 (show m<=mid+m-s by omega) (show mid+m-s<=l.length by omega) (show mid=s+(mid+m-s-m) by omega) a0 b a1 oo;have d4:=v1e a4 a2.1 (show m<=mid+m-s by omega) (show mid+m-s<=b by omega) h3 (show mid=s+(mid+m-s-m) by omega) a0 a1;have a9:(z8p (z5x l s m (mid+m-s)) Z mid mid).length=l.length:=by rw[x6m oo (by rw[z1n];omega),z1n]
 refine ex (te (te (xh (tn (sr (mv U (mv U (z1u U (wi6 oo) (asg U (kpL [(0,_),(1,_),(2,_),(3,_),(4,_),(18,_),(20,_),(24,_)] (.c8 U U U U U U U U) (nn (jn (ι:=Unit) [(0,_),(1,_),(3,_),(4,_),(18,_),(20,_),(24,_)] (λ_j=>[]) (λ_j w'=>Fr [g] g8 w'/\Lw.Own z4h 201 base w' (.slice (some ⟨g,0,none⟩) l.length c) (z5x l s m (mid+m-s))) (.c7 U U U U U U U) ?_ ?_))))))))))));refine sq (rbo (r:=185) (L':=[(0,_),(1,_),(2,_),(3,_),(4,_),(18,_),(20,_),(24,_)]) ((((s:Int)<(m:Int))/\((m:Int)<(((mid:Int)+(m:Int))-(s:Int))))) (.c8 U U U U U U U U) ?_ ?_);refine mv U (mv U (lt' U (mv U (gs 181 U (λg0=>?_) (λg0=>?_)))));exact gY U (mv U (gY U (mv U (gY U (lt' U (pkt U (rbe U (.c8 U U U U U U U U))))))));exact gN U (gN U (gN U (pkf U (rbe U (.c8 U U U U U U U U)))));refine tn (cd U (λf2=>?_) (λf2=>?_));refine rg (mv U (mv U (mv U (mv U (mv U ?_)))));replace D:=D.ext (a8.n1 a3);refine cl (z0a U (z0a U (z0a U (z0a U (z0a U z0g))))) (mkC func247) (k1v g c base s m (mid+m-s) _ _ _ l _ U U oo D hl oo) U ?_;rintro _ j3 ⟨rfl,D,g3⟩;exact kpL [(0,_),(1,_),(3,_),(4,_),(18,_),(20,_),(24,_)] (.c7 U U U U U U U) (nl (jE (()) (.c7 U U U U U U U) ⟨((Fr.refl [g] _).z1 g3),D⟩));refine sk ?_;replace D:=D.ext (a8.n1 a3);exact jE (()) (.c7 U U U U U U U) ⟨(Fr.refl _ _),(by rw[k0a oo a2.1 oo];exact D)⟩;rintro _j g9 ⟨e3,D⟩;refine kpC [(0,_),(1,_),(3,_),(4,_),(18,_),(20,_),(24,_)] (.c7 U U U U U U U) (jn (ι:=Unit) [(0,_),(3,_),(4,_),(18,_),(24,_)] (λ_j=>[]) (λ_j w'=>Fr [g] g9 w'/\Lw.Own z4h 201 base w' (.slice (some ⟨g,0,none⟩) l.length c) (z8p (z5x l s m (mid+m-s)) Z mid mid)) (.c5 U U U U U) ?_ ?_);refine sq (rbo (r:=199) (L':=[(0,_),(1,_),(3,_),(4,_),(18,_),(20,_),(24,_)]) ((((Z:Int)<(s:Int))/\((s:Int)<(mid:Int)))) (.c7 U U U U U U U) ?_ ?_);refine mv U (mv U (lt' U (mv U (gs 195 U (λg1=>?_) (λg1=>?_)))));exact gY U (mv U (gY U (mv U (gY U (lt' U (pkt U (rbe U (.c7 U U U U U U U))))))));exact gN U (gN U (gN U (pkf U (rbe U (.c7 U U U U U U U)))));refine tn (cd U (λf3=>?_) (λf3=>?_));refine rg (mv U (mv U (mv U (mv U (mv U (cl (z0a U (z0a U (z0a U (z0a U (z0a U z0g))))) (mkC func237) (by have x:=ih Z s mid ↑Z ↑s ↑mid (z5x l s m (mid+m-s)) _ oo U U U (by rw[z1n];exact D) (by rw[z1n];exact hl) oo oo (by rw[z1n];omega) d3.1 d3.2;rw[z1n]at x;exact x) U ?_))))));rintro _ j4 ⟨rfl,D,g4⟩;exact kpL [(0,_),(3,_),(4,_),(18,_),(24,_)] (.c5 U U U U U) (nl (jE (()) (.c5 U U U U U) ⟨((Fr.refl [g] _).z1 g4),D⟩));exact sk (jE (()) (.c5 U U U U U) ⟨(Fr.refl _ _),(by rw[skip1 oo a4 a2.1 oo oo oo a0 b a1 oo];exact D)⟩);rintro _j j5 ⟨e4,D⟩;refine kpC [(0,_),(3,_),(4,_),(18,_),(24,_)] (.c5 U U U U U) (sq (rbo (r:=213) (L':=[(0,_),(3,_),(4,_),(18,_),(24,_)]) ((((mid:Int)<(((mid:Int)+(m:Int))-(s:Int)))/\((((mid:Int)+(m:Int))-(s:Int))<(b:Int)))) (.c5 U U U U U) ?_ ?_));refine mv U (mv U (lt' U (mv U (gs 209 U (λg2=>?_) (λg2=>?_)))));exact gY U (mv U (gY U (mv U (gY U (lt' U (pkt U (rbe U (.c5 U U U U U))))))));exact gN U (gN U (gN U (pkf U (rbe U (.c5 U U U U U)))));refine tn (cd U (λf4=>?_) (λf4=>?_));refine rg (mv U (mv U (mv U (mv U (mv U (cl (z0a U (z0a U (z0a U (z0a U (z0a U z0g))))) (mkC func237) (by have x:=ih mid (mid+m-s) b ↑mid (↑mid + ↑m - ↑s) ↑b (z8p (z5x l s m (mid+m-s)) Z mid mid) _ oo U oo U (by rw[a9];exact D) (by rw[a9];exact hl) oo oo (by rw[a9];omega) d4.1 d4.2;rw[a9]at x;exact x) U ?_))))));rintro _ j6 ⟨rfl,D,g5⟩;exact kpL [] .nil (nl (r0n results237  ⟨_,rfl,rfl,by rw[<-y2q a4 a2.1 (show m<=mid+m-s by omega) (show mid+m-s<=b by omega) h3 (show mid=s+(mid+m-s-m) by omega) a0 a1 hX hY];exact D,((Fr.refl [g] _).z5 a8 a3 e3 e4 g5)⟩));exact sk (r0n results237  ⟨_,rfl,rfl,by rw[<-y2q a4 a2.1 (show m<=mid+m-s by omega) (show mid+m-s<=b by omega) h3 (show mid=s+(mid+m-s-m) by omega) a0 a1 hX hY];rw[k4s oo a4 a2.1 oo oo h3 oo a0 a1];exact D,((Fr.refl [g] _).z4 a8 a3 e3 e4)⟩)
theorem j5b (g c base:Nat)(l:List Hd)(w0:World)(O:Lw.Own z4h 201 base w0 (.slice (some ⟨g,0,none⟩) l.length c) l)(hl:l.length<=1000000):Rets prog 210 #[.slice (some ⟨g,0,none⟩) l.length c,.int .i64 (l.length:Int),.func (.func 170) #[] #[]] w0 λr w'=>r=.tuple #[]/\Lw.Own z4h 201 base w' (.slice (some ⟨g,0,none⟩) l.length c) (z5v l)/\Fr [g] w0 w':=by
 refine we [(0,.slice (some ⟨g,0,none⟩) l.length c),(1,.int .i64 (l.length:Int)),(2,.func (.func 170) #[] #[])] func210 U ntmps210 U (.c3 U U U) (sr (asg U (nn (sr (mv U (asg U (asg U (nn (sq (bl (lpK (ι:=Nat×List Hd) [(0,_),(1,_),(2,_),(6,_)] (λp=>[(7,.int .i64 (p.1:Int)),(8,.int .i64 ((p.1+20:Nat):Int))]) (λp w'=>Fr [g] w0 w'/\(p.2.length=p.1/\p.1<=l.length/\chk 20 l=p.2++chk 20 (l.drop p.1))/\Lw.Own z4h 201 base w' (.slice (some ⟨g,0,none⟩) l.length c) (p.2++l.drop p.1)) (λp=>l.length-p.1) (0,[]) (.c6 U U U U U U) ⟨Fr.refl _ _,⟨⟨rfl,Nat.zero_le _,rfl⟩,by simpa using O⟩⟩ ?_)))))))))));rintro⟨I,D⟩ w1 ⟨q1,⟨hD,O⟩⟩;simp only at hD O;refine kpC [(0,_),(1,_),(2,_),(6,_),(7,.int .i64 (I:Int)),(8,.int .i64 ((I+20:Nat):Int))] (.c6 U U U U U U) ?_;have Z:(D++l.drop I).length=l.length:=by rw[List.length_append,List.length_drop];omega
 refine sq (sr (mv U (mv U (le' U (nn (cd U (λc0=>?_) (λc0=>?_)))))));refine sk (tn (bl (sr (mv U (mv U (mv U (mv U (cl (ev4 U) (mkC func236) (by have x:=u8k g c base I (I+20) (D++l.drop I) _ (by rw[Z];exact O) oo oo;rw[Z]at x;exact x) U ?_))))))));rintro _ w2 ⟨rfl,O,q2⟩;refine kpL [(0,_),(1,_),(2,_),(6,_),(8,_)] (.c5 U U U U U) (nn (sr (mv U (asg U (nn (rg (mv U (mv U (z0q U (wi6 oo) (asg U (nl (bn' ?_))))))))))));exact lpE ((I+20,D++z5v (seg l I (I+20)))) (.c6 U U U U (by first|rfl|exact congrArg (λz=>some (Value.int .i64 z)) (by first|omega|(simp only;omega))) (by first|rfl|exact congrArg (λz=>some (Value.int .i64 z)) (by first|omega|(simp only;omega)))) ⟨((Fr.refl [g] _).z2 q1 q2),⟨⟨by simp only;rw[List.length_append,z4w,z2e oo];omega,sm,by simp only;rw[hD.2.2,y3c dd oo,List.append_assoc]⟩,by simp only;rw[<-u6f hD.1 oo];exact O⟩⟩ sm;refine ex (te (te (xh (tn (sr (mv U (mv U (mv U (mv U (cl (ev4 U) (mkC func236) (by have x:=u8k g c base I l.length (D++l.drop I) _ (by rw[Z];exact O) oo oo;rw[Z]at x;exact x) U ?_))))))))));rintro _ w3 ⟨rfl,O,q3⟩;rw[u7k (B:=20) hD.1 hD.2.1 oo,<-hD.2.2]at O;refine kpL [(0,_),(1,_),(2,_),(6,_)] (.c4 U U U U) (nn (bl (lpK (ι:=Nat) [(0,_),(1,_),(2,_)] (λB=>[(6,.int .i64 (B:Int))]) (λB w'=>Fr [g] w3 w'/\(20<=B/\B<=4000000)/\Lw.Own z4h 201 base w' (.slice (some ⟨g,0,none⟩) l.length c) (chk B l)) (λB=>l.length-B) 20 (.c4 U U U U) ⟨Fr.refl _ _,⟨oo,O⟩⟩ ?_)));rintro B w4 ⟨q4,⟨hB,O⟩⟩;refine kpC [(0,_),(1,_),(2,_),(6,_)] (.c4 U U U U) (sq (sr (mv U (mv U (lt' U (nn (cd U (λc1=>?_) (λc1=>?_))))))));refine sk (tn (bl (sr (mv U (y4m U (wi6 oo) (asg U (asg U (nn (sq (bl ?_))))))))));refine lpK (ι:=Nat×List Hd) [(0,_),(1,_),(2,_),(6,_)] (λp=>[(7,.int .i64 (p.1:Int)),(8,.int .i64 ((p.1+2*B:Nat):Int))]) (λp w'=>Fr [g] w4 w'/\(p.2.length=p.1/\p.1<=l.length/\chk (2*B) l=p.2++chk (2*B) (l.drop p.1))/\Lw.Own z4h 201 base w' (.slice (some ⟨g,0,none⟩) l.length c) (p.2++chk B (l.drop p.1))) (λp=>l.length-p.1) (0,[]) (.c6 U U U U U (by first|rfl|exact congrArg (λz=>some (Value.int .i64 z)) (by first|omega|(simp only;omega)))) ⟨Fr.refl _ _,⟨⟨rfl,Nat.zero_le _,rfl⟩,by simpa using O⟩⟩ ?_;rintro⟨I,D⟩ w5 ⟨q5,⟨hD,O⟩⟩;simp only at hD O;refine kpC [(0,_),(1,_),(2,_),(6,_),(7,.int .i64 (I:Int)),(8,.int .i64 ((I+2*B:Nat):Int))] (.c6 U U U U U U) ?_;have Z:(D++chk B (l.drop I)).length=l.length:=by rw[List.length_append,u0r B _ _ (Nat.le_refl _),List.length_drop];omega
 refine sq (sr (mv U (mv U (le' U (nn (cd U (λc2=>?_) (λc2=>?_)))))));have hM:=x5i (l:=l) (D:=D) (a:=I) (B:=B) (C:=B) hD.1 oo (Nat.le_refl _) oo (chk B (l.drop (I+(B+B)))) (by rw[show I+(B+B)=I+B+B by omega];exact y3c oo oo);refine sk (tn (bl (sr (mv U (mv U (mv U (mv U (z0q U (wi6 oo) (mv U (mv U (cl (z0a U (z0a U (z0a U (z0a U (z0a U z0g))))) (mkC func237) (by have x:=u7v g c base (2*B) I (I+B) (I+2*B) ↑I (↑I + ↑B) ↑(I+2*B) (D++chk B (l.drop I)) _ oo U oo U (by rw[Z];exact O) oo oo oo oo hM.2.1 (by rw[show I+2*B=I+(B+B) by omega];exact hM.2.2);rw[Z]at x;exact x) U ?_)))))))))));rintro _ w6 ⟨rfl,O,q6⟩;refine kpL [(0,_),(1,_),(2,_),(6,_),(8,_)] (.c5 U U U U U) (nn (sr (mv U (asg U (nn (rg (mv U (mv U (y4m U (wi6 oo) (z0q U (wi6 oo) (asg U (nl (bn' ?_)))))))))))));exact lpE ((I+2*B,D++z5v (seg l I (I+2*B)))) (.c6 U U U U (by first|rfl|exact congrArg (λz=>some (Value.int .i64 z)) (by first|omega|(simp only;omega))) (by first|rfl|exact congrArg (λz=>some (Value.int .i64 z)) (by first|omega|(simp only;omega)))) ⟨((Fr.refl [g] _).z2 q5 q6),⟨⟨by simp only;rw[List.length_append,z4w,z2e oo];omega,sm,by simp only;rw[hD.2.2,y3c oo oo,List.append_assoc]⟩,by simp only;rw[show I+2*B=I+(B+B) by omega,hM.1]at O;rw[show I+2*B=I+(B+B) by omega];exact O⟩⟩ sm;refine ex (te (te (xh (tn (jn (ι:=Unit) [(0,_),(1,_),(2,_),(6,_)] (λ_j=>[]) (λ_j w'=>Fr [g] w5 w'/\Lw.Own z4h 201 base w' (.slice (some ⟨g,0,none⟩) l.length c) (chk (2*B) l)) (.c4 U U U U) ?_ ?_)))));refine sr (mv U (mv U (z0q U (wi6 oo) (asg U (nn (sr (mv U (mv U (lt' U (nn (cd U (λc3=>?_) (λc3=>?_))))))))))));have hM:=x5i (l:=l) (D:=D) (a:=I) (B:=B) (C:=l.length-(I+B)) hD.1 oo oo oo [] (by rw[List.append_nil,y1l (by rw[List.length_drop];omega),show I+(B+(l.length-(I+B)))=l.length by omega];unfold seg;rw[List.take_length]);rw[show I+(B+(l.length-(I+B)))=l.length by omega,List.append_nil]at hM;refine rg (mv U (mv U (mv U (mv U (mv U (cl (z0a U (z0a U (z0a U (z0a U (z0a U z0g))))) (mkC func237) (by have x:=u7v g c base (2*B) I (I+B) l.length ↑I (↑I + ↑B) ↑l.length (D++chk B (l.drop I)) _ oo U oo U (by rw[Z];exact O) oo oo oo oo hM.2.1 hM.2.2;rw[Z]at x;exact x) U ?_))))));rintro _ w7 ⟨rfl,O,q7⟩;exact kpL [(0,_),(1,_),(2,_),(6,_)] (.c4 U U U U) (nl (jE (()) (.c4 U U U U) ⟨((Fr.refl [g] _).z1 q7),(by rw[hM.1]at O;rw[hD.2.2,y1l (show (l.drop I).length<=2*B by rw[List.length_drop];omega),show l.drop I=seg l I l.length by unfold seg;rw[List.take_length]];exact O)⟩));exact sk (jE (()) (.c4 U U U U) ⟨(Fr.refl _ _),(by rw[y1l (show (l.drop I).length<=B by rw[List.length_drop];omega)]at O;rw[hD.2.2,y1l (show (l.drop I).length<=2*B by rw[List.length_drop];omega)];exact O)⟩);rintro _j w8 ⟨q8,O⟩;refine kpC [(0,_),(1,_),(2,_),(6,_)] (.c4 U U U U) (rg (mv U (y4m U (wi6 oo) (asg U (nl (bn' ?_))))));exact lpE (2*B) (.c4 U U U (congrArg (λz=>some (Value.int .i64 z)) oo)) ⟨((Fr.refl [g] _).z3 q4 q5 q8),⟨oo,O⟩⟩ oo;exact ex (te (te (xh (r0n results210  ⟨_,rfl,rfl,by rw[y1l oo]at O;exact O,((Fr.refl [g] _).z3 q1 q3 q4)⟩))))
theorem v3v:z4i prog 232 5:=⟨λ_=>kr0,λ_=>kr0⟩
theorem y3u:ElemOf prog 230 232 z5p 40:=ElemOf.mk' (z:=(.agg #[.int .u8 0,.int .i64 0,.int .u8 0,.int .i64 0,.int .i64 0])) underlying230 kr0 U
theorem v8x:z1r prog 232 5:=λ_=>kr0
theorem u7r (w:World):(zeroValue 201).run prog w=.ok (.agg #[(.int .u8 0),(.int .i64 0),(.int .u8 0),(.int .i64 0),(.int .i64 0)]) w:=kr0
theorem j9n (w:World):(zeroValue 232).run prog w=.ok (.agg #[(.int .u8 0),(.int .i64 0),(.int .u8 0),(.int .i64 0),(.int .i64 0)]) w:=kr0
theorem u4r (g c base:Nat)(l:List Hd)(w0:World)(D:Lw.Own z4h 201 base w0 (.slice (some ⟨g,0,none⟩) l.length c) l)(hl:l.length<=1000000):Rets prog 169 #[.slice (some ⟨g,0,none⟩) l.length c,.func (.func 170) #[] #[]] w0 λr w'=>r=.tuple #[]/\Lw.Own z4h 201 base w' (.slice (some ⟨g,0,none⟩) l.length c) (z5v l)/\Fr [g] w0 w':=by
 refine we [(0,.slice (some ⟨g,0,none⟩) l.length c),(1,.func (.func 170) #[] #[])] func169 U ntmps169 U (.c2 U U) (rg (mv U (mv U (lnS U underlying197 (mv U (cl (ev3 U) (mkC func210) (j5b g c base l _ D hl) U ?_))))));rintro _ w1 ⟨rfl,D,I⟩;exact kpL [] .nil (nl (r0n results169  ⟨_,rfl,rfl,D,((Fr.refl [g] _).z1 I)⟩))
theorem v3k (v:Value)(l:List Hd)(w0:World)(I:Sl z4h w0 v l)(hl:l.length<=100000):Rets prog 171 #[v] w0 λr w'=>∃g,r=.slice (some ⟨g,0,none⟩) l.length l.length/\w0.heap.size<=g/\Lw.Own z4h 201 w0.heap.size w' r l/\Fr [] w0 w':=by
 obtain⟨A,c,rfl,a0,hM,hA⟩:=id I;clear hA;unfold maxLen at hM;refine we [(0,.slice A l.length c)] func171 U ntmps171 U (.cons U .nil) ?_;have O:=I;refine sr (asg U (nn (sr (mv U (lnS U underlying197 (z1g (m:=l.length) (c:=l.length) (hd0) U z3z u7r U (λg6 w1 a1 D Z z1=>(asg U (nn (sr (mv U (mv U ?_))))))))))));replace I:=O.ext Z;refine z9h (zs:=List.replicate l.length hd0) (by rw[List.length_replicate];rfl) U (by rw[List.length_replicate];exact D) I (by rw[List.length_replicate]) z3z (λw2 D q2 z2=>?_);rw[List.length_replicate]at D;exact nn (sr (mv U (asg U (nn (rt (r1 results171 U ⟨_,rfl,g6,rfl,oo,D.low oo,(Z.z1 q2)⟩))))))
theorem u5e (g c base:Nat)(ys:List LId)(w0:World)(I:Lw.Own z1j 54 base w0 (.slice (some ⟨g,0,none⟩) ys.length c) ys)(hl:ys.length<=1000000):Rets prog 216 #[.slice (some ⟨g,0,none⟩) ys.length c] w0 λr w'=>Lw.Own z1j 54 base w' (.slice (some ⟨g,0,none⟩) ys.length c) ys.reverse/\Fr [g] w0 w':=by
 refine we [(0,.slice (some ⟨g,0,none⟩) ys.length c)] func216 U ntmps216 U (.cons U .nil) (sr (mv U (lnS U underlying42 (z1u U (wi6 oo) (asg U (asg U (nn (bl ?_))))))));refine lpK (ι:=Nat) [(0,_)] (λk=>[(2,.int .i64 (k:Int)),(3,.int .i64 ((ys.length:Int)-1-(k:Int)))]) (λk w'=>Fr [g] w0 w'/\k<=ys.length/\∃zs,j0f id0 ys zs k/\Lw.Own z1j 54 base w' (.slice (some ⟨g,0,none⟩) ys.length c) zs) (λk=>ys.length-k) 0 (.c3 U U (congrArg (λz=>some (Value.int .i64 z)) oo)) ⟨Fr.refl _ _,⟨Nat.zero_le _,_,u1d _ _,I⟩⟩ ?_;rintro k w1 ⟨q1,⟨hk,zs,hR,I⟩⟩;refine kpC [(0,_),(2,_),(3,_)] (.c3 U U U) (sq (sr (mv U (mv U (lt' U (nn (cd U (λc0=>?_) (λc0=>?_))))))));obtain⟨a4,-⟩:=id hR;have a1:k<ys.length-1-k:=by omega
 refine sk (tn (sq (bl ?_)));intro a h;refine z0h (some 15) (λwb w'=>Fr [g] wb w') z2y ?_;intro w2 q2;replace I:=I.ext q2;have hC:Fr [g] w2 w2:=Fr.refl _ _;have a0:=I;refine z0d 0 h U λa h=>z0d 1 h U λa h=>z0d 2 h U λa h=>z0d 3 h U λa h=>z0d 4 h U λa h=>z0d 5 h U λa h=>z1e (p:=(ys.length-1-k)) (id0) 6 h U I.sl U z6q U λa2 O a h=>z0d 8 h U λa h=>z0d 9 h U λa h=>z1e (p:=k) (id0) 10 h U I.sl U z6q U λa3 Z a h=>z2n 7 11 kr0 U ?_ ?_;refine z1v h U (O _ I.sl) z3x U λa h=>z0b (z0e 11 U (z1v h U (Z _ I.sl) z3x U λa h=>?_));refine z0b (z1o 12 kr0 hC (p:=k) h wn U z6q oo oo oo U U λa h=>z0e 13 U (z1c (i:=k) (zs.getD (ys.length-1-k) id0) h U I oo U y3o λw3 D q3 _hz a h=>?_));replace hC:=hC.sp q3;clear _hz I;have I:=D;clear D;refine z0b (z1o 14 kr0 hC (p:=(ys.length-1-k)) h wn U z6q oo oo oo U U λa h=>z0e 15 U (z1c (i:=(ys.length-1-k)) (zs.getD k id0) h U I (by rw[List.length_set];omega) U y3o λw4 D q4 _hz a h=>?_));clear _hz I;have I:=D;clear D;refine z1h (z0r ?_);clear hC a0;refine bk (h.sub (L':=[(0,_),(2,_),(3,_)]) (.c3 U U U)) (bn' (tn (rg (mv U (z0q U (wi6 oo) (mv U (z1u U (wi6 oo) (asg U (asg U (nl ?_))))))))));exact lpE (k+1) (.c3 U U (congrArg (λz=>some (Value.int .i64 z)) oo)) ⟨((Fr.refl [g] _).z4 q1 q2 q3 q4),⟨oo,_,z8i a1 hR,I⟩⟩ oo;refine z1v h U (Z _ I.sl) z3x U λa h=>z0b (z0e 7 U (z1v h U (O _ I.sl) z3x U λa h=>?_));refine z0b (z1o 12 kr0 hC (p:=k) h wn U z6q oo oo oo U U λa h=>z0e 13 U (z1c (i:=k) (zs.getD (ys.length-1-k) id0) h U I oo U y3o λw5 D q5 _hz a h=>?_));replace hC:=hC.sp q5;clear _hz I;have I:=D;clear D;refine z0b (z1o 14 kr0 hC (p:=(ys.length-1-k)) h wn U z6q oo oo oo U U λa h=>z0e 15 U (z1c (i:=(ys.length-1-k)) (zs.getD k id0) h U I (by rw[List.length_set];omega) U y3o λw6 D q6 _hz a h=>?_));clear _hz I;have I:=D;clear D;refine z1h (z0r ?_);clear hC a0;refine bk (h.sub (L':=[(0,_),(2,_),(3,_)]) (.c3 U U U)) (bn' (tn (rg (mv U (z0q U (wi6 oo) (mv U (z1u U (wi6 oo) (asg U (asg U (nl ?_))))))))));exact lpE (k+1) (.c3 U U (congrArg (λz=>some (Value.int .i64 z)) oo)) ⟨((Fr.refl [g] _).z4 q1 q2 q5 q6),⟨oo,_,z8i a1 hR,I⟩⟩ oo;refine ex (te (te (xh (r0n results216  ?_))));exact⟨_,rfl,by rw[<-x0z oo hR];exact I,(q1.weak se)⟩
theorem j1f (w0:World):Rets prog 216 #[.slice none 0 0] w0 λr w'=>Fr [] w0 w':=by
 refine we [(0,.slice none 0 0)] func216 U ntmps216 U (.cons U .nil) (sr (mv U (lnS U underlying42 (z1u U (wi6 oo) (asg U (asg U (nn (bl (lpK (ι:=Unit) [(0,_),(2,_),(3,_)] (λ_u=>[]) (λ_u w'=>Fr [] w0 w'/\True) (λ_u=>0) () (.c3 U U U) ⟨Fr.refl _ _,trivial⟩ ?_)))))))));rintro _u w1 ⟨I,-⟩;refine kpC [(0,_),(2,_),(3,_)] (.c3 U U U) (sq (sr (mv U (mv U (lt' U (nn (cd U (λD=>?_) (λD=>?_))))))));exfalso;omega;exact ex (te (te (xh (r0n results216  ⟨_,rfl,I⟩))))
theorem u2c (base:Nat)(v:Value)(ys:List LId)(w0:World)(D:Lw.Own z1j 54 base w0 v ys)(hl:ys.length<=1000000):Rets prog 216 #[v] w0 λr w'=>Lw.Own z1j 54 base w' v ys.reverse/\Fr (z0u v) w0 w':=by
 rcases id D with ⟨rfl,rfl⟩|⟨g,cap,cur,rfl,_⟩
 refine Rets.mono (j1f w0) ?_;intro r w' hf;exact⟨Own.nil _,hf⟩;exact u5e g cap base ys w0 D hl
theorem u6n (g c base:Nat)(ys:List Pa)(w0:World)(I:Lw.Own z2f 114 base w0 (.slice (some ⟨g,0,none⟩) ys.length c) ys)(hl:ys.length<=1000000):Rets prog 212 #[.slice (some ⟨g,0,none⟩) ys.length c] w0 λr w'=>Lw.Own z2f 114 base w' (.slice (some ⟨g,0,none⟩) ys.length c) ys.reverse/\Fr [g] w0 w':=by
 refine we [(0,.slice (some ⟨g,0,none⟩) ys.length c)] func212 U ntmps212 U (.cons U .nil) (sr (mv U (lnS U underlying109 (z1u U (wi6 oo) (asg U (asg U (nn (bl ?_))))))));refine lpK (ι:=Nat) [(0,_)] (λk=>[(2,.int .i64 (k:Int)),(3,.int .i64 ((ys.length:Int)-1-(k:Int)))]) (λk w'=>Fr [g] w0 w'/\k<=ys.length/\∃zs,j0f pa0 ys zs k/\Lw.Own z2f 114 base w' (.slice (some ⟨g,0,none⟩) ys.length c) zs) (λk=>ys.length-k) 0 (.c3 U U (congrArg (λz=>some (Value.int .i64 z)) oo)) ⟨Fr.refl _ _,⟨Nat.zero_le _,_,u1d _ _,I⟩⟩ ?_;rintro k w1 ⟨q1,⟨hk,zs,hR,I⟩⟩;refine kpC [(0,_),(2,_),(3,_)] (.c3 U U U) (sq (sr (mv U (mv U (lt' U (nn (cd U (λc0=>?_) (λc0=>?_))))))));obtain⟨a4,-⟩:=id hR;have a1:k<ys.length-1-k:=by omega
 refine sk (tn (sq (bl ?_)));intro a h;refine z0h (some 15) (λwb w'=>Fr [g] wb w') z2y ?_;intro w2 q2;replace I:=I.ext q2;have hC:Fr [g] w2 w2:=Fr.refl _ _;have a0:=I;refine z0d 0 h U λa h=>z0d 1 h U λa h=>z0d 2 h U λa h=>z0d 3 h U λa h=>z0d 4 h U λa h=>z0d 5 h U λa h=>z1e (p:=(ys.length-1-k)) (pa0) 6 h U I.sl U z5a U λa2 O a h=>z0d 8 h U λa h=>z0d 9 h U λa h=>z1e (p:=k) (pa0) 10 h U I.sl U z5a U λa3 Z a h=>z2n 7 11 kr0 U ?_ ?_;refine z1v h U (O _ I.sl) z9m U λa h=>z0b (z0e 11 U (z1v h U (Z _ I.sl) z9m U λa h=>?_));refine z0b (z1o 12 kr0 hC (p:=k) h wn U z5a oo oo oo U U λa h=>z0e 13 U (z1c (i:=k) (zs.getD (ys.length-1-k) pa0) h U I oo U x3v λw3 D q3 _hz a h=>?_));replace hC:=hC.sp q3;clear _hz I;have I:=D;clear D;refine z0b (z1o 14 kr0 hC (p:=(ys.length-1-k)) h wn U z5a oo oo oo U U λa h=>z0e 15 U (z1c (i:=(ys.length-1-k)) (zs.getD k pa0) h U I (by rw[List.length_set];omega) U x3v λw4 D q4 _hz a h=>?_));clear _hz I;have I:=D;clear D;refine z1h (z0r ?_);clear hC a0;refine bk (h.sub (L':=[(0,_),(2,_),(3,_)]) (.c3 U U U)) (bn' (tn (rg (mv U (z0q U (wi6 oo) (mv U (z1u U (wi6 oo) (asg U (asg U (nl ?_))))))))));exact lpE (k+1) (.c3 U U (congrArg (λz=>some (Value.int .i64 z)) oo)) ⟨((Fr.refl [g] _).z4 q1 q2 q3 q4),⟨oo,_,z8i a1 hR,I⟩⟩ oo;refine z1v h U (Z _ I.sl) z9m U λa h=>z0b (z0e 7 U (z1v h U (O _ I.sl) z9m U λa h=>?_));refine z0b (z1o 12 kr0 hC (p:=k) h wn U z5a oo oo oo U U λa h=>z0e 13 U (z1c (i:=k) (zs.getD (ys.length-1-k) pa0) h U I oo U x3v λw5 D q5 _hz a h=>?_));replace hC:=hC.sp q5;clear _hz I;have I:=D;clear D;refine z0b (z1o 14 kr0 hC (p:=(ys.length-1-k)) h wn U z5a oo oo oo U U λa h=>z0e 15 U (z1c (i:=(ys.length-1-k)) (zs.getD k pa0) h U I (by rw[List.length_set];omega) U x3v λw6 D q6 _hz a h=>?_));clear _hz I;have I:=D;clear D;refine z1h (z0r ?_);clear hC a0;refine bk (h.sub (L':=[(0,_),(2,_),(3,_)]) (.c3 U U U)) (bn' (tn (rg (mv U (z0q U (wi6 oo) (mv U (z1u U (wi6 oo) (asg U (asg U (nl ?_))))))))));exact lpE (k+1) (.c3 U U (congrArg (λz=>some (Value.int .i64 z)) oo)) ⟨((Fr.refl [g] _).z4 q1 q2 q5 q6),⟨oo,_,z8i a1 hR,I⟩⟩ oo;refine ex (te (te (xh (r0n results212  ?_))));exact⟨_,rfl,by rw[<-x0z oo hR];exact I,(q1.weak se)⟩
theorem j0t (w0:World):Rets prog 212 #[.slice none 0 0] w0 λr w'=>Fr [] w0 w':=by
 refine we [(0,.slice none 0 0)] func212 U ntmps212 U (.cons U .nil) (sr (mv U (lnS U underlying109 (z1u U (wi6 oo) (asg U (asg U (nn (bl (lpK (ι:=Unit) [(0,_),(2,_),(3,_)] (λ_u=>[]) (λ_u w'=>Fr [] w0 w'/\True) (λ_u=>0) () (.c3 U U U) ⟨Fr.refl _ _,trivial⟩ ?_)))))))));rintro _u w1 ⟨I,-⟩;refine kpC [(0,_),(2,_),(3,_)] (.c3 U U U) (sq (sr (mv U (mv U (lt' U (nn (cd U (λD=>?_) (λD=>?_))))))));exfalso;omega;exact ex (te (te (xh (r0n results212  ⟨_,rfl,I⟩))))
theorem x4e (base:Nat)(v:Value)(ys:List Pa)(w0:World)(D:Lw.Own z2f 114 base w0 v ys)(hl:ys.length<=1000000):Rets prog 212 #[v] w0 λr w'=>Lw.Own z2f 114 base w' v ys.reverse/\Fr (z0u v) w0 w':=by
 rcases id D with ⟨rfl,rfl⟩|⟨g,cap,cur,rfl,_⟩
 refine Rets.mono (j0t w0) ?_;intro r w' hf;exact⟨Own.nil _,hf⟩;exact u6n g cap base ys w0 D hl
theorem u5w (g c base:Nat)(ys:List Cx)(w0:World)(I:Lw.Own z5p 232 base w0 (.slice (some ⟨g,0,none⟩) ys.length c) ys)(hl:ys.length<=1000000):Rets prog 217 #[.slice (some ⟨g,0,none⟩) ys.length c] w0 λr w'=>Lw.Own z5p 232 base w' (.slice (some ⟨g,0,none⟩) ys.length c) ys.reverse/\Fr [g] w0 w':=by
 refine we [(0,.slice (some ⟨g,0,none⟩) ys.length c)] func217 U ntmps217 U (.cons U .nil) (sr (mv U (lnS U underlying230 (z1u U (wi6 oo) (asg U (asg U (nn (bl ?_))))))));refine lpK (ι:=Nat) [(0,_)] (λk=>[(2,.int .i64 (k:Int)),(3,.int .i64 ((ys.length:Int)-1-(k:Int)))]) (λk w'=>Fr [g] w0 w'/\k<=ys.length/\∃zs,j0f cx0 ys zs k/\Lw.Own z5p 232 base w' (.slice (some ⟨g,0,none⟩) ys.length c) zs) (λk=>ys.length-k) 0 (.c3 U U (congrArg (λz=>some (Value.int .i64 z)) oo)) ⟨Fr.refl _ _,⟨Nat.zero_le _,_,u1d _ _,I⟩⟩ ?_;rintro k w1 ⟨q1,⟨hk,zs,hR,I⟩⟩;refine kpC [(0,_),(2,_),(3,_)] (.c3 U U U) (sq (sr (mv U (mv U (lt' U (nn (cd U (λc0=>?_) (λc0=>?_))))))));obtain⟨a4,-⟩:=id hR;have a1:k<ys.length-1-k:=by omega
 refine sk (tn (sq (bl ?_)));intro a h;refine z0h (some 15) (λwb w'=>Fr [g] wb w') z2y ?_;intro w2 q2;replace I:=I.ext q2;have hC:Fr [g] w2 w2:=Fr.refl _ _;have a0:=I;refine z0d 0 h U λa h=>z0d 1 h U λa h=>z0d 2 h U λa h=>z0d 3 h U λa h=>z0d 4 h U λa h=>z0d 5 h U λa h=>z1e (p:=(ys.length-1-k)) (cx0) 6 h U I.sl U y3u U λa2 O a h=>z0d 8 h U λa h=>z0d 9 h U λa h=>z1e (p:=k) (cx0) 10 h U I.sl U y3u U λa3 Z a h=>z2n 7 11 kr0 U ?_ ?_;refine z1v h U (O _ I.sl) v3v U λa h=>z0b (z0e 11 U (z1v h U (Z _ I.sl) v3v U λa h=>?_));refine z0b (z1o 12 kr0 hC (p:=k) h wn U y3u oo oo oo U U λa h=>z0e 13 U (z1c (i:=k) (zs.getD (ys.length-1-k) cx0) h U I oo U v8x λw3 D q3 _hz a h=>?_));replace hC:=hC.sp q3;clear _hz I;have I:=D;clear D;refine z0b (z1o 14 kr0 hC (p:=(ys.length-1-k)) h wn U y3u oo oo oo U U λa h=>z0e 15 U (z1c (i:=(ys.length-1-k)) (zs.getD k cx0) h U I (by rw[List.length_set];omega) U v8x λw4 D q4 _hz a h=>?_));clear _hz I;have I:=D;clear D;refine z1h (z0r ?_);clear hC a0;refine bk (h.sub (L':=[(0,_),(2,_),(3,_)]) (.c3 U U U)) (bn' (tn (rg (mv U (z0q U (wi6 oo) (mv U (z1u U (wi6 oo) (asg U (asg U (nl ?_))))))))));exact lpE (k+1) (.c3 U U (congrArg (λz=>some (Value.int .i64 z)) oo)) ⟨((Fr.refl [g] _).z4 q1 q2 q3 q4),⟨oo,_,z8i a1 hR,I⟩⟩ oo;refine z1v h U (Z _ I.sl) v3v U λa h=>z0b (z0e 7 U (z1v h U (O _ I.sl) v3v U λa h=>?_));refine z0b (z1o 12 kr0 hC (p:=k) h wn U y3u oo oo oo U U λa h=>z0e 13 U (z1c (i:=k) (zs.getD (ys.length-1-k) cx0) h U I oo U v8x λw5 D q5 _hz a h=>?_));replace hC:=hC.sp q5;clear _hz I;have I:=D;clear D;refine z0b (z1o 14 kr0 hC (p:=(ys.length-1-k)) h wn U y3u oo oo oo U U λa h=>z0e 15 U (z1c (i:=(ys.length-1-k)) (zs.getD k cx0) h U I (by rw[List.length_set];omega) U v8x λw6 D q6 _hz a h=>?_));clear _hz I;have I:=D;clear D;refine z1h (z0r ?_);clear hC a0;refine bk (h.sub (L':=[(0,_),(2,_),(3,_)]) (.c3 U U U)) (bn' (tn (rg (mv U (z0q U (wi6 oo) (mv U (z1u U (wi6 oo) (asg U (asg U (nl ?_))))))))));exact lpE (k+1) (.c3 U U (congrArg (λz=>some (Value.int .i64 z)) oo)) ⟨((Fr.refl [g] _).z4 q1 q2 q5 q6),⟨oo,_,z8i a1 hR,I⟩⟩ oo;refine ex (te (te (xh (r0n results217  ?_))));exact⟨_,rfl,by rw[<-x0z oo hR];exact I,(q1.weak se)⟩
theorem j1h (w0:World):Rets prog 217 #[.slice none 0 0] w0 λr w'=>Fr [] w0 w':=by
 refine we [(0,.slice none 0 0)] func217 U ntmps217 U (.cons U .nil) (sr (mv U (lnS U underlying230 (z1u U (wi6 oo) (asg U (asg U (nn (bl (lpK (ι:=Unit) [(0,_),(2,_),(3,_)] (λ_u=>[]) (λ_u w'=>Fr [] w0 w'/\True) (λ_u=>0) () (.c3 U U U) ⟨Fr.refl _ _,trivial⟩ ?_)))))))));rintro _u w1 ⟨I,-⟩;refine kpC [(0,_),(2,_),(3,_)] (.c3 U U U) (sq (sr (mv U (mv U (lt' U (nn (cd U (λD=>?_) (λD=>?_))))))));exfalso;omega;exact ex (te (te (xh (r0n results217  ⟨_,rfl,I⟩))))
theorem v7n (base:Nat)(v:Value)(ys:List Cx)(w0:World)(D:Lw.Own z5p 232 base w0 v ys)(hl:ys.length<=1000000):Rets prog 217 #[v] w0 λr w'=>Lw.Own z5p 232 base w' v ys.reverse/\Fr (z0u v) w0 w':=by
 rcases id D with ⟨rfl,rfl⟩|⟨g,cap,cur,rfl,_⟩
 refine Rets.mono (j1h w0) ?_;intro r w' hf;exact⟨Own.nil _,hf⟩;exact u5w g cap base ys w0 D hl
theorem y6h (v:Value)(l:List Pa)(w0:World)(I:Sl z2f w0 v l)(hl:l.length<=100000):Rets prog 213 #[v] w0 λr w'=>∃g,r=.slice (some ⟨g,0,none⟩) l.length l.length/\w0.heap.size<=g/\Lw.Own z2f 114 w0.heap.size w' r l/\Fr [] w0 w':=by
 obtain⟨A,c,rfl,a0,hM,hA⟩:=id I;clear hA;unfold maxLen at hM;refine we [(0,.slice A l.length c)] func213 U ntmps213 U (.cons U .nil) ?_;have O:=I;refine sr (asg U (nn (sr (mv U (lnS U underlying109 (z1g (m:=l.length) (c:=l.length) (pa0) U z5a x2b U (λg6 w1 a1 D Z z1=>(asg U (nn (sr (mv U (mv U ?_))))))))))));replace I:=O.ext Z;refine z9h (zs:=List.replicate l.length pa0) (by rw[List.length_replicate];rfl) U (by rw[List.length_replicate];exact D) I (by rw[List.length_replicate]) z5a (λw2 D q2 z2=>?_);rw[List.length_replicate]at D;exact nn (sr (mv U (asg U (nn (rt (r1 results213 U ⟨_,rfl,g6,rfl,oo,D.low oo,(Z.z1 q2)⟩))))))
theorem x9f (v:Value)(l:List Cx)(w0:World)(I:Sl z5p w0 v l)(hl:l.length<=100000):Rets prog 218 #[v] w0 λr w'=>∃g,r=.slice (some ⟨g,0,none⟩) l.length l.length/\w0.heap.size<=g/\Lw.Own z5p 232 w0.heap.size w' r l/\Fr [] w0 w':=by
 obtain⟨A,c,rfl,a0,hM,hA⟩:=id I;clear hA;unfold maxLen at hM;refine we [(0,.slice A l.length c)] func218 U ntmps218 U (.cons U .nil) ?_;have O:=I;refine sr (asg U (nn (sr (mv U (lnS U underlying230 (z1g (m:=l.length) (c:=l.length) (cx0) U y3u j9n U (λg6 w1 a1 D Z z1=>(asg U (nn (sr (mv U (mv U ?_))))))))))));replace I:=O.ext Z;refine z9h (zs:=List.replicate l.length cx0) (by rw[List.length_replicate];rfl) U (by rw[List.length_replicate];exact D) I (by rw[List.length_replicate]) y3u (λw2 D q2 z2=>?_);rw[List.length_replicate]at D;exact nn (sr (mv U (asg U (nn (rt (r1 results218 U ⟨_,rfl,g6,rfl,oo,D.low oo,(Z.z1 q2)⟩))))))
theorem k2s:BuildAt prog 201 [(0,2),(2,2),(4,1)] [(.int .u8 0),(.int .i64 0),(.int .u8 0),(.int .i64 0),(.int .i64 0)]:=BuildAt.struct underlying201 (λ_=>kr0) (λ_=>kr0)
theorem v3q:CallOf prog 139:=mkC func139
theorem j6b:z2a prog 197:=λ_=>kr0
theorem k0z:z1r prog 197 1:=λ_=>kr0
theorem u1x (gr gk base:Nat)(b r:Int)(v u:Value)(l:List IQ)(a5:List Hd)(wS w0:World)(hF:Fr [] wS w0)(hs:Sl z7g wS v l)(hk:IqAt wS l)(a7:Blk wS gk 3 [.int .i64 r])(f2:wS.heap.size<=gr)(e7:wS.heap.size<=base)(e8:base<=w0.heap.size)(D:Blk w0 gr 197 [u])(O:Lw.Own z4h 201 base w0 u a5)(hb:b=0\/b=1)(hl:l.length<=40)(h4:y0w l)(ha:a5.length<=1000)(hu:IsB u):Rets prog 168 #[.int .u8 b,v,.pointer (some ⟨gr,0,none⟩),.pointer (some ⟨gk,0,none⟩)] w0 λr' w'=>r'=.tuple #[]/\(∃u',Blk w' gr 197 [u']/\Lw.Own z4h 201 base w' u' (a5++hds b r (plB l) l.length)/\IsB u')/\w0.heap.size<=w'.heap.size/\Fr [] wS w':=by
 obtain⟨A,c,rfl,e9,hM,hA⟩:=id hs;clear hA;unfold maxLen at hM;have f6:=hF.size;have e4:=D.lt;refine we [(0,.int .u8 b),(1,.slice A l.length c),(2,.pointer (some ⟨gr,0,none⟩)),(3,.pointer (some ⟨gk,0,none⟩))] func168 U ntmps168 U (.c4 U U U U) ?_;have d1:=hs;have b4:=hk;have b3:=a7;refine sr (mv U (lnS U underlying35 (mv U (nn (bl (lpK (ι:=Nat×Value) [(0,_),(2,_),(3,_),(11,_),(12,_)] (λp=>[(13,.int .i64 (p.1:Int))]) (λp w'=>Fr [] wS w'/\(p.1<=l.length/\w0.heap.size<=w'.heap.size/\IsB p.2)/\Blk w' gr 197 [p.2]/\Lw.Own z4h 201 base w' p.2 (a5++hds b r (plB l) p.1)) (λp=>l.length-p.1) (0,u) (.c6 U U U U U U) ⟨hF,⟨⟨Nat.zero_le _,oo,hu⟩,D,by simpa[hds] using O⟩⟩ ?_))))));rintro⟨i,uI⟩ w1 ⟨q1,⟨hi,D,O⟩⟩;simp only at hi D O;have z1:=q1.size;have b0:=D.lt;refine kpC [(0,_),(2,_),(3,_),(11,_),(12,_),(13,.int .i64 (i:Int))] (.c6 U U U U U U) ?_;have f0:=x9n b r l h4 i;have f4:=z4e h4 i;have f5:=z2g (z1p b4 i);have b5:=b3.lt;refine sr (lt' U (nn (sq (cd U (λc0=>?_) (λc0=>?_)))));refine sk (tn (sq (bl (sr (mv U ?_)))));replace hs:=d1.ext q1;refine z0x (iq0) U hs U y2h z1m (λe0 b7=>?_);refine z1a U (b7 _ hs) z8o (asg U (asg U (nn (sr (mv U (mv U (z0q U (wi6 oo) (z1z (cs:=[_,_]) (ev2 U) x8q (z0f U (z0f U z0t)) U ?_))))))));refine al j1u U (λg8 w2 f1 I q2 z2=>?_);refine z0k (vs:=[_,_]) U I v5m (λw3 I q3 z3=>?_) (h1:=(by first|(simp[Value.oneCell',S];done)|exact z1j.one _));refine nn (sr (mv U (lnS U underlying42 (mv U (nn (bl ?_))))));replace D:=(D.ext q2).fr q3;replace O:=(O.ext q2).fr q3 (by first|(intro k hk hb;rw[List.mem_singleton.1 hk]at hb;first|exact O.neB D dd hb|(have:=(O.blk _ hb).2;omega))|(simp;done));refine lpK (ι:=Nat×Value) [(0,_),(2,_),(3,_),(8,_),(11,_),(12,_),(13,_),(22,_),(23,_)] (λp=>[(24,.int .i64 (p.1:Int))]) (λp w'=>Fr [] wS w'/\(p.1<=(l.getD i iq0).2.length/\w0.heap.size<=w'.heap.size/\Blk w' g8 85 [.int .u8 b,.int .i64 ((i:Int)+1)]/\IsB p.2)/\Blk w' gr 197 [p.2]/\Lw.Own z4h 201 base w' p.2 ((a5++hds b r (plB l) i)++((l.getD i iq0).2.take p.1).map (hdS b r i))) (λp=>(l.getD i iq0).2.length-p.1) (0,uI) (.d8 U U U U U U U U (.c2 U U)) ⟨(q1.z2 q2 q3),⟨⟨Nat.zero_le _,oo,I,hi.2.2⟩,D,by simpa using O⟩⟩ ?_;rintro⟨j,uJ⟩ w4 ⟨q4,⟨⟨hj,f7,I,d7⟩,D,O⟩⟩;simp only at hj D O;have z4:=q4.size;have b0:=D.lt;have d4:=I.lt;refine kpC [(0,_),(2,_),(3,_),(8,_),(11,_),(12,_),(13,_),(22,_),(23,_),(24,.int .i64 (j:Int))] (.d8 U U U U U U U U (.c2 U U)) (sr (lt' U (nn (sq (cd U (λc1=>?_) (λc1=>?_))))));refine sk (tn (sq (bl (sr ?_))));replace hk:=b4.ext q4;refine z0x (id0) U (z1p hk i) U z6q z1m (λe1 b8=>?_);refine z1t U (b8 _ (z1p hk i)) z3x (al y6l U (λd5 w5 e3 Z q5 z5=>?_));refine z0k (vs:=[_,_]) U Z y3o (λw6 Z q6 z6=>?_) (h1:=(by first|(simp[Value.oneCell',S];done)|exact z1j.one _));refine nn ?_;replace hs:=d1.ext (q4.z2 q5 q6);replace hk:=b4.ext (q4.z2 q5 q6);replace a7:=b3.ext (q4.z2 q5 q6);replace D:=(D.ext q5).fr q6;replace O:=(O.ext q5).fr q6 (by first|(intro k hk hb;rw[List.mem_singleton.1 hk]at hb;first|exact O.neB D dd hb|(have:=(O.blk _ hb).2;omega))|(simp;done));replace I:=(I.ext q5).fr q6;intro a h;refine z0h (some 8) (λwb w'=>Fr (z0u uJ) wb w') z2y ?_;intro w7 q7;have z7:=q7.size;replace hs:=hs.ext q7;replace hk:=hk.ext q7;replace a7:=a7.ext q7;replace D:=D.ext q7;replace O:=O.ext q7;replace I:=I.ext q7;replace Z:=Z.ext q7;have hC:Fr (z0u uJ) w7 w7:=Fr.refl _ _;have d3:=hs;have b9:=hk;have a8:=a7;have a3:=D;have a1:=O;have a0:=I;have a2:=Z;refine z3u 0 h U (λ_ hw=>a3.fr hw (λk_=>Own.neB a1 a3 dd k_)) j6b U λa h=>z0z 1 h U (λ_ hw=>a2.fr hw (λk_=>Own.neB a1 a2 dd k_)) z3x U λa h=>z0z 2 h U (λ_ hw=>a0.fr hw (λk_=>Own.neB a1 a0 dd k_)) z8c U λa h=>z0z 3 h U (λ_ hw=>a0.fr hw (λk_=>Own.neB a1 a0 dd k_)) z8c U λa h=>z3u 4 h U (λ_ hw=>a8.fr hw (λk_=>by have:=(a1.blk _ k_).1;have:=b5;omega)) na3 U λa h=>z0e 5 U (z0n h (z0a U (z0a U z0g)) v3q (y4a _ _ _ _ oo) ?_);rintro _ w8 ⟨rfl,q8⟩ a h;have z8:=q8.size;replace D:=D.ext q8;replace I:=I.ext q8;replace Z:=Z.ext q8;replace hC:=hC.next q8;refine z0b (z3m (cs:=[_,_,_,_,_]) 6 h (z0a U (z0a U (z0a U z0g))) k2s (z0f U (z0f U (z0f U z0t))) U U λa h=>z0e 7 U ?_);refine z2i ([(hdS b r i ((l.getD i iq0).2.getD j id0))]) h (z0a U z0g) U z3z λa6 w9 hg d0 q9 hz a h=>?_;have a9:gr<a6:=by have:=D.lt;omega
 have a9:g8<a6:=by have:=I.lt;omega
 have c9:d5<a6:=by have:=Z.lt;omega
 have z9:=q9.size;replace hk:=hk.ext (q8.n1 q9);replace D:=D.ext q9;replace O:=O.ext (q8.n1 q9);replace I:=I.ext q9;replace hC:=hC.next q9;refine z0b (z0e 8 U ?_);have a4:=O;refine z3g h U O d0.sl z3z (by unfold maxLen;simp only[List.length_append,List.length_map,List.length_take,List.length_cons,List.length_nil];omega) (by simp only[List.length_append,List.length_map,List.length_take,List.length_cons,List.length_nil];omega) λf8 f9 O b1 d6 a h=>?_;obtain⟨e5,e6,rfl,e2⟩:=O.sl.form;have g0:=b1.size;replace D:=D.fr b1 (λhk=>a4.neB D dd hk);replace I:=I.fr b1 (λhk=>a4.neB I dd hk);refine z1h (z0e 9 U (z5e h U U D U U k0z λd9 b6 b2 hz a h=>?_));have g1:=b2.size;replace I:=I.fr b2;replace O:=O.fr b2 (by first|(intro k hk hb;rw[List.mem_singleton.1 hk]at hb;first|exact O.neB D dd hb|(have:=(O.blk _ hb).2;omega))|(simp;done));clear D hz;have D:Blk d9 gr _ [_]:=b6;clear b6;refine z1h (z0r ?_);clear hC d3 b9 a8 a3 a1 a0 a2;exact bk (h.sub (L':=[(0,_),(2,_),(3,_),(8,_),(11,_),(12,_),(13,_),(22,_),(23,_),(24,_)]) (.d8 U U U U U U U U (.c2 U U))) (bn' (tn (rg (z0q U (wi6 oo) (mv U (nl (lpE ((j+1,_)) (.d8 U U U U U U U U (.c2 U U)) ⟨(((q4.z5 q5 q6 q7 q8 q9).step b1 (λk hk f3=>absurd (a4.blk k hk).1 oo)).z1 b2),⟨⟨sm,oo,I,j3i O sp0⟩,D,by rw[y5x (hdS b r i) id0 oo,<-List.append_assoc];exact O⟩⟩ sm)))))));obtain rfl:j=(l.getD i iq0).2.length:=by omega
 rw[List.take_length]at O;exact ex (te (te (xh (bn' (tn (rg (z0q U (wi6 oo) (mv U (kpL [(0,_),(2,_),(3,_),(11,_),(12,_),(13,_)] (.c6 U U U U U U) (nl (lpE ((i+1,_)) (.c6 U U U U U U) ⟨q4,⟨⟨sm,oo,d7⟩,D,by rw[x2a,z4x,<-List.append_assoc];exact O⟩⟩ sm)))))))))));obtain rfl:i=l.length:=by omega
 exact ex (te (te (xh (r0n results168  ⟨_,rfl,rfl,⟨_,D,O,hi.2.2⟩,oo,q1⟩))))
end Go.Proofs.YtagnnbcnnmacmaaGreatDoor
