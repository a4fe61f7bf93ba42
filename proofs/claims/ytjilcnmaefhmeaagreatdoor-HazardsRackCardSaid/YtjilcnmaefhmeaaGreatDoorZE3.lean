/- Texts of the proof, joined. -/
import Derived.Test.YtjilcnmaefhmeaaGreatDoorRows
import Derived.WalkSmall
import Derived.Test.YtjilcnmaefhmeaaGreatDoorZE2
set_option linter.unusedVariables false
set_option linter.unusedSimpArgs false
set_option maxHeartbeats 4000000
namespace Go.Proofs.YtjilcnmaefhmeaaGreatDoor
open Go.Lw Go.G21 Go.G08 _root_.Go.Proofs.Tryz
theorem x8d:z0y prog 55 1 1:=λ_ _=>kr
theorem k0t:z2c prog 36:=λ_=>kr
theorem v1h:z2c prog 137:=λ_=>kr
theorem v2f (v:Value)(l:List LId)(w0:World)(I:Sl z1f w0 v l)(hl:l.length<=100000):Rets prog 223 #[v] w0 λr w'=>∃A,r=.slice A l.length l.length/\Lw.Own z1f 73 w0.heap.size w' r l/\Fr [] w0 w':=by
 obtain⟨A,c,rfl,a0,hM,Z⟩:=id I;clear Z;unfold maxLen at hM;refine we [(0,.slice A l.length c)] func223 U ntmps223 U (.cons U .nil) ?_;have J:=I;refine sr (asg U (nn (sr (mv U U (lnS U underlying27 (z1e (m:=l.length) (c:=l.length) (id0) U z4x y0n U (λO w1 a1 D M z1=>(asg U (nn (sr (mv U U (mv U U ?_))))))))))));replace I:=J.ext M;refine z6n (zs:=List.replicate l.length id0) (by rw[List.length_replicate];rfl) U (by rw[List.length_replicate];exact D) I (by rw[List.length_replicate]) z4x (λw2 D q2 z2=>?_);rw[List.length_replicate]at D;exact nn (sr (mv U U (asg U (nn (rt (r1 results223 U ⟨_,rfl,some ⟨O,0,none⟩,rfl,D.low oo,(M.z1 q2)⟩))))))
theorem v1g (v:Value)(l:List LId)(w0:World)(I:Sl z1f w0 v l)(hl:l.length<=100000):Rets prog 119 #[v] w0 λr w'=>∃A,r=.slice A l.length l.length/\Lw.Own z1f 73 w0.heap.size w' r l/\Fr [] w0 w':=by
 obtain⟨A,c,rfl,a0,hM,Z⟩:=id I;clear Z;unfold maxLen at hM;refine we [(0,.slice A l.length c)] func119 U ntmps119 U (.cons U .nil) ?_;have J:=I;refine sr (asg U (nn (sr (mv U U (lnS U underlying27 (z1e (m:=l.length) (c:=l.length) (id0) U z4x y0n U (λO w1 a1 D M z1=>(asg U (nn (sr (mv U U (mv U U ?_))))))))))));replace I:=J.ext M;refine z6n (zs:=List.replicate l.length id0) (by rw[List.length_replicate];rfl) U (by rw[List.length_replicate];exact D) I (by rw[List.length_replicate]) z4x (λw2 D q2 z2=>?_);rw[List.length_replicate]at D;exact nn (sr (mv U U (asg U (nn (rt (r1 results119 U ⟨_,rfl,some ⟨O,0,none⟩,rfl,D.low oo,(M.z1 q2)⟩))))))
theorem v5p (v:Value)(ts:List TQ)(w0:World)(I:Sl z4b w0 v ts)(D:TabAt w0 ts)(hl:ts.length=6)(hv:TabV (z1r ts)):Rets prog 158 #[v] w0 λr w'=>∃u,r=.tuple #[u,.int .i64 0]/\Fr [] w0 w':=by
 obtain⟨A,c,rfl,a6,hM,hA⟩:=id I;clear hA;unfold maxLen at hM;have a9:=z5b D;have a7:z4f (z1r ts)<=2048:=hv.ok.cnt;refine we [(0,.slice A ts.length c)] func158 U ntmps158 U (.cons U .nil) ?_;have M:=I;have J:=D;refine sr (asg U (asg U (nn (sq (sr (mv U U (lnS U underlying53 (ne' U (nn (cd U (λc0=>?_) (λc0=>?_)))))))))));refine sr (asg U (asg U (nn (rt (tr (r2 results158 U U ?_))))));exact(by exfalso;first|omega|exact absurd U (by assumption)|(simp_all;done)|(simp_all;omega));refine sk (tn (sq (sr (mv U U (cl (ev1 U) (mkC func201) (y4e _ _ _ I D oo) U ?_)))));rintro _ w1 ⟨rfl,O⟩;refine gt' U (nn (cd U (λc1=>?_) (λc1=>?_)));refine sr (asg U (asg U (nn (rt (tr (r2 results158 U U ?_))))));exact(by exfalso;first|omega|exact absurd U (by assumption)|(simp_all;done)|(simp_all;omega));refine sk (tn (sq (sr (mv U U ?_))));replace I:=M.ext O;replace D:=J.ext O;refine cl (ev1 U) (mkC func220) (v9s _ _ _ I D hl hv.ok) U ?_;rintro _ w2 ⟨rfl,Z⟩;refine asg U (nn (sr (mv U U (ne' U (nn (cd U (λc2=>?_) (λc2=>?_)))))));refine sr (mv U U (asg U (asg U (nn (rt (tr (r2 results158 U U ?_)))))));exact(by exfalso;first|omega|exact absurd U (by assumption)|(simp_all;done)|(simp_all;omega));refine sk (tn (sq (sr (mv U U ?_))));replace I:=M.ext (O.n1 Z);replace D:=J.ext (O.n1 Z);refine cl (ev1 U) (mkC func221) (u8h _ _ _ I D hl hv) U ?_;rintro _ w3 ⟨rfl,q3⟩;refine asg U (nn (sr (mv U U (ne' U (nn (cd U (λc3=>?_) (λc3=>?_)))))));refine sr (mv U U (asg U (asg U (nn (rt (tr (r2 results158 U U ?_)))))));exact(by exfalso;first|omega|exact absurd U (by assumption)|(simp_all;done)|(simp_all;omega));refine sk (tn (sr (mv U U ?_)));replace I:=M.ext (O.n2 Z q3);replace D:=J.ext (O.n2 Z q3);refine cl (ev1 U) (mkC func222) (u3h _ _ _ I D hl hv) U ?_;rintro a4 w4 ⟨l,ho,a8,q4⟩;obtain⟨a2,a5,rfl,a0⟩:=ho.sl.form;refine asg U (nn (sq (sr (mv U U (lnS U underlying27 (mv U U ?_))))));replace I:=M.ext (O.n3 Z q3 q4);replace D:=J.ext (O.n3 Z q3 q4);refine cl (ev1 U) (mkC func201) (y4e _ _ _ I D oo) U ?_;rintro _ w5 ⟨rfl,q5⟩;refine lt' U (nn (cd U (λc4=>?_) (λc4=>?_)));refine sr (asg U (asg U (nn (rt (tr (r2 results158 U U ?_))))));exact(by exfalso;first|omega|exact absurd U (by assumption)|(simp_all;done)|(simp_all;omega));refine sk (tn (sr (mv U U ?_)));replace ho:=ho.ext q5;refine cl (ev1 U) (mkC func223) (v2f _ _ _ ho.sl oo) U ?_;rintro _ w6 ⟨a3,rfl,a1,q6⟩;exact asg U (asg U (nn (rt (r2 results158 U U ⟨_,rfl,_,rfl,(O.n5 Z q3 q4 q5 q6)⟩))))
theorem u8n (v:Value)(ts:List TQ)(w0:World)(I:Sl z4b w0 v ts)(D:TabAt w0 ts)(hl:ts.length=6)(hv:TabV (z1r ts)):Rets prog 114 #[v] w0 λr w'=>r=.int .i64 0/\Fr [] w0 w':=by
 obtain⟨A,c,rfl,O,M,J⟩:=id I;clear J;unfold maxLen at M;have a0:=z5b D;refine we [(0,.slice A ts.length c)] func114 U ntmps114 U (.cons U .nil) ?_;have a1:=I;have Z:=D;refine sr (asg U (nn (sr (mv U U (cl (ev1 U) (mkC func158) (v5p _ _ _ I D hl hv) U ?_)))));rintro _ w1 ⟨v7,rfl,q1⟩;exact mv U U (xt U (xt U (asg U (asg U (kpL [(4,_)] (.cons U .nil) (nn (sr (mv U U (asg U (nn (rt (r1 results114 U ⟨_,rfl,rfl,q1⟩))))))))))))
theorem j2j (D g:Nat)(p:List LId)(A:Option Addr)(m c:Nat)(w0:World)(O:m=0)(J:Blk w0 D 137 [.map (some g)])(M:MapZ idV w0 g (.int .i64 0) (y8w p)):Rets prog 160 #[.slice A m c,.pointer (some ⟨D,0,none⟩)] w0 λr w'=>MapZ idV w' g (.int .i64 0) (y8w p)/\Fr [g] w0 w':=by
 refine we [(0,.slice A m c),(1,.pointer (some ⟨D,0,none⟩))] func160 U ntmps160 U (.c2 U U) (sr (mv U U (lnS U underlying27 (mv U U (nn (bl (lpK (ι:=Nat) [(1,_),(5,_),(6,_)] (λk=>[(7,.int .i64 (k:Int))]) (λk w'=>Fr [] w0 w'/\k<=m) (λk=>m-k) 0 (.c4 U U U U) ⟨Fr.refl _ _,Nat.zero_le _⟩ ?_)))))));rintro k w1 ⟨I,Z⟩;refine kpC [(1,_),(5,_),(6,_),(7,_)] (.c4 U U U U) (sr (lt' U ?_));rw[show decide ((k:Int)<(m:Int))=false from decide_eq_false oo];exact nn (sq (cf U (ex (te (te (xh (r0n results160  ⟨_,rfl,M.ext I,(Fr.refl [g] _).next I⟩)))))))
theorem j1w (gp g:Nat)(p:List LId)(v:Value)(l:List LId)(w0:World)(hs:Sl z1f w0 v l)(I:Blk w0 gp 137 [.map (some g)])(J:MapZ idV w0 g (.int .i64 0) (y8w p))(a3:g∉z0u v)(a2:∀k,k<l.length->(p++l.take k).count (l.getD k id0)<=100000):Rets prog 160 #[v,.pointer (some ⟨gp,0,none⟩)] w0 λr w'=>MapZ idV w' g (.int .i64 0) (y8w (p++l))/\Fr [g] w0 w':=by
 obtain⟨A,c,rfl,b3,hM,hA⟩:=id hs;clear hA;unfold maxLen at hM;have a9:=J.ne_blk I;have b5:=I.lt;have a8:=J.lt;refine we [(0,.slice A l.length c),(1,.pointer (some ⟨gp,0,none⟩))] func160 U ntmps160 U (.c2 U U) ?_;have a6:=hs;refine sr (mv U U (lnS U underlying27 (mv U U (nn (bl (lpK (ι:=Nat) [(1,_),(5,_),(6,_)] (λk=>[(7,.int .i64 (k:Int))]) (λk w'=>Fr [g] w0 w'/\k<=l.length/\MapZ idV w' g (.int .i64 0) (y8w (p++l.take k))) (λk=>l.length-k) 0 (.c4 U U U U) ⟨Fr.refl _ _,⟨Nat.zero_le _,by rw[List.take_zero,List.append_nil];exact J⟩⟩ ?_))))));rintro k w1 ⟨q1,⟨hk,J⟩⟩;have z1:=q1.size;refine kpC [(1,_),(5,_),(6,_),(7,_)] (.c4 U U U U) (sr (lt' U (nn (sq (cd U (λc0=>?_) (λc0=>?_))))));have a7:=a2 k oo;refine sk (tn (sq (bl (sr ?_))));replace hs:=a6.fr ((Fr.refl [g] _).z1 q1) (by intro k_ a4 a0;rw[List.mem_singleton.1 a4]at a0;exact a3 a0);refine z1d (id0) U hs U z4x z1g (λb0 a1=>?_);refine z1l U (a1 _ hs) z2y (al y0n U (λg4 w2 b4 D q2 z2=>?_));refine z0k (vs:=[_,_]) U D y0c (λw3 D q3 z3=>?_) (h1:=(by first|(simp[Value.oneCell',S];done)|exact z1f.one _));refine nn ?_;replace I:=((I.fr q1 (by intro e;simp at e;omega)).ext q2).fr q3 (by intro e;simp at e;omega);replace J:=(J.ext q2).fr q3 (by intro k hk hb;simp at hk hb;omega);intro a h;refine z0h none (λwb w'=>Fr [g] wb w') z2m ?_;intro w4 q4;have z4:=q4.size;replace I:=I.ext q4;replace J:=J.ext q4;replace D:=D.ext q4;have hC:Fr [g] w4 w4:=Fr.refl _ _;have O:=I;have Z:=J;have M:=D;refine y5o 0 hC h wn U (λ_ hw=>O.fr hw (by intro e;simp at e;omega)) v1h U U λa h=>z0v 1 h U (λ_ hw=>M.fr hw (by intro e;simp at e;omega)) z2y U λa h=>z1x 2 4 kr U ?_ ?_;refine z7n (V:=idV) (z:=(.int .i64 0)) (k:=(l.getD k id0)) (v:=.int .i64 ((((p++l.take k)).count (l.getD k id0):Nat):Int)) h U U J z4a underlying137 zvI U U λa h=>z0b (z4m 3 h U (by first|exact i6 oo|rfl) U λa h=>z0d 4 U ?_);have a5:=J.ne_blk D;refine z6w (V:=idV) (z:=(.int .i64 0)) (k:=(l.getD k id0)) h U U J z4a underlying137 zvI U λw5 b6 he q5 z5 a h=>?_;replace J:=he.map;replace D:=D.fr q5 (by intro e;simp at e;omega);replace I:=I.fr q5 (by intro e;simp at e;omega);replace hC:=hC.step q5 sp0;refine z0b (z0m 5 h U λa h=>z0d 6 U (z5k (V:=idV) (z:=(.int .i64 0)) (k:=(l.getD k id0)) h U U U he ?_));clear h a he J;intro w6 J q6 z6 a h;replace J:MapZ idV w6 g (.int .i64 0) (y8w ((p++l.take k)++[(l.getD k id0)])):=by rw[<-y8v];exact J
 replace D:=D.fr q6 (by intro e;simp at e;omega);replace I:=I.fr q6 (by intro e;simp at e;omega);replace hC:=hC.step q6 sp0;refine z0b (z0p ?_);clear hC O Z M;exact bk (h.sub (L':=[(1,_),(5,_),(6,_),(7,_)]) (.c4 U U U U)) (bn' (tn (rg (z1b U (wi6 oo) (mv U U (nl (lpE (k+1) (.c4 U U U U) ⟨((Fr.refl [g] _).z6 q1 q2 q3 q4 q5 q6),⟨oo,by rw[z9m id0 oo,<-List.append_assoc];exact J⟩⟩ oo)))))));have a5:=J.ne_blk D;refine z6w (V:=idV) (z:=(.int .i64 0)) (k:=(l.getD k id0)) h U U J z4a underlying137 zvI U λw7 b7 he q7 z7 a h=>?_;replace J:=he.map;replace D:=D.fr q7 (by intro e;simp at e;omega);replace I:=I.fr q7 (by intro e;simp at e;omega);replace hC:=hC.step q7 sp0;refine z0b (z0m 5 h U λa h=>z0d 2 U (z7n (V:=idV) (z:=(.int .i64 0)) (k:=(l.getD k id0)) (v:=.int .i64 ((((p++l.take k)).count (l.getD k id0):Nat):Int)) h U U J z4a underlying137 zvI U U λa h=>?_));refine z0b (z4m 3 h U (by first|exact i6 oo|rfl) U λa h=>z0d 6 U (z5k (V:=idV) (z:=(.int .i64 0)) (k:=(l.getD k id0)) h U U U he ?_));clear h a he J;intro w8 J q8 z8 a h;replace J:MapZ idV w8 g (.int .i64 0) (y8w ((p++l.take k)++[(l.getD k id0)])):=by rw[<-y8v];exact J
 replace D:=D.fr q8 (by intro e;simp at e;omega);replace I:=I.fr q8 (by intro e;simp at e;omega);replace hC:=hC.step q8 sp0;refine z0b (z0p ?_);clear hC O Z M;exact bk (h.sub (L':=[(1,_),(5,_),(6,_),(7,_)]) (.c4 U U U U)) (bn' (tn (rg (z1b U (wi6 oo) (mv U U (nl (lpE (k+1) (.c4 U U U U) ⟨((Fr.refl [g] _).z6 q1 q2 q3 q4 q7 q8),⟨oo,by rw[z9m id0 oo,<-List.append_assoc];exact J⟩⟩ oo)))))));obtain rfl:k=l.length:=by omega
 rw[List.take_length]at J;exact ex (te (te (xh (r0n results160  ⟨_,rfl,J,((Fr.refl [g] _).z1 q1)⟩))))
theorem x6e (I g:Nat)(p:List LId)(v:Value)(l:List LId)(wS w0:World)(Z:Sl z1f wS v l)(hg:wS.heap.size<=g)(O:Sl z1f w0 v l)(D:Blk w0 I 137 [.map (some g)])(M:MapZ idV w0 g (.int .i64 0) (y8w p))(J:∀k,k<l.length->(p++l.take k).count (l.getD k id0)<=100000):Rets prog 160 #[v,.pointer (some ⟨I,0,none⟩)] w0 λr w'=>MapZ idV w' g (.int .i64 0) (y8w (p++l))/\Fr [g] w0 w':=by
 by_cases e:l=[];subst e;obtain⟨A,c,rfl,_⟩:=O.form;rw[List.append_nil];exact j2j I g p A _ c w0 U D M;exact j1w I g p v l w0 O D M (λh=>by have:=Z.blk e g h;omega) J
def hfv (q:FbQ)(z:Nat):SV:=if z=0 then q.h else q.f
def hfl (q:FbQ)(z:Nat):List LId:=if z=0 then q.hs else q.fs
theorem u1d {q:FbQ}{w:World}(h:FbAt w q)(z:Nat):Sl z1f w (slv (hfv q z)) (hfl q z):=by
 unfold hfv hfl;split;exact h.h;exact h.f
theorem j5q {q:FbQ}(z:Nat){i:LId}(h:i∈hfl q z):i∈q.hs++q.fs:=by
 unfold hfl at h;split at h;exact List.mem_append_left _ h;exact List.mem_append_right _ h
theorem k1f {q:FbQ}{z:Nat}(h:z<2):[Value.slice q.h.1 q.h.2.1 q.h.2.2,.slice q.f.1 q.f.2.1 q.f.2.2][(z:Int).toNat]?=some (.slice (hfv q z).1 (hfv q z).2.1 (hfv q z).2.2):=by
 obtain rfl|rfl:z=0\/z=1:=by omega
 rfl;rfl
theorem u0r:z3q prog 55 4:=⟨λ_=>kr,λ_=>kr⟩
theorem k2o:BuildAt prog 251 [(0,1),(1,1)] [(.slice none 0 0),(.slice none 0 0)]:=BuildAt.array (sz:=1) underlying251 (λ_=>kr) (λ_=>kr) (λi q h=>by match i,h with|0,h=>simpa using h.symm|1,h=>simpa using h.symm|(k+2),h=>simp at h)
theorem y0j:z0y prog 55 0 0:=λ_ _=>kr
theorem x7q:z0y prog 55 2 2:=λ_ _=>kr
theorem y8e:z0y prog 55 3 3:=λ_ _=>kr
theorem x4q:z2c prog 53:=λ_=>kr
theorem u9h:z1q prog 27 1:=λ_=>kr
theorem k1b:z1q prog 137 1:=λ_=>kr
theorem k2h (w:World):(zeroValue 137).run prog w=.ok (.map none) w:=kr
theorem y6l:z1q prog 45 2:=λ_=>kr
theorem v1n (w:World):(zeroValue 45).run prog w=.ok (.agg #[(.int .u8 0),(.int .i64 0)]) w:=kr
theorem x3g (r:Int)(w0:World):Rets prog 168 #[.int .i64 r] w0 λv w'=>v=.bool (decide (-4<=r/\r<=4))/\Fr [] w0 w':=by
 refine we [(0,.int .i64 r)] func168 U ntmps168 U (.cons U .nil) (sr (asg U (nn (sq (rbo (r:=2) (L':=[]) (((-4<=r)/\(r<=4))) .nil ?_ ?_)))));refine mv U U (ge' U U (mv U U (gs 5 U (λD=>?_) (λD=>?_))));exact gY U (mv U U (gY U (le' U U (pkt U (asg U (rbe U .nil))))));exact gN U (gN U (pkf U (asg U (rbe U .nil))));exact tn (rt (r1 results168 U ⟨_,rfl,rfl,(Fr.refl _ _)⟩))
theorem y0q (b p r:Int)(w0:World)(hp:-9223372036854775808<=p/\p<=9223372036854775807):Rets prog 150 #[.agg #[.int .u8 b,.int .i64 p],.int .i64 r] w0 λv w'=>v=.int .i64 (z2h b p r)/\Fr [] w0 w':=by
 refine we [(0,.agg #[.int .u8 b,.int .i64 p]),(1,.int .i64 r)] func150 U ntmps150 U (.c2 U U) (sr (bx U (λg2 w1 a1 D Z z1=>(asg U (nn (sq (sq (x9y (r:=12) (L':=[(1,_),(2,_)]) ((((z2v b p)≠0)\/(¬(-4<=r/\r<=4)))) (.c2 U U) ?_ ?_))))))));refine z0n U D z4k (cl (ev1 U) u4h (z4t _ _ _) U ?_);rintro _ w2 ⟨rfl,q2⟩;refine ne' U (mv U U (gs 8 U (λg0=>?_) (λg0=>?_)));exact gN U (gN U (gN U (pkt U (z9e U (.c2 U U) q2))));refine gY U (mv U U (gY U (cl (ev1 U) (mkC func168) (x3g _ _) U ?_)));rintro _ w3 ⟨rfl,q3⟩;exact gY U (nt' U (pkf U (z9e U (.c2 U U) (q2.n1 q3))));intro w4 J;have z4:=J.size;refine tn (cd U (λI=>?_) (λI=>?_));exact sr (asg U (nn (rt (tr (r1 results150 U ⟨_,rfl,by rw[z2h,if_pos I],(Z.n1 J)⟩)))));have O:z2v b p=0:=Classical.not_not.1 (λe=>I (.inl e));have a2:-4<=r/\r<=4:=Classical.not_not.1 (λe=>I (.inr e));have a0:=z2o O;refine sk (tn (sq (sr (fad U z6v ?_))));replace D:=D.ext J;refine z0i U D U x9d (eq' U (nn (cd U (λM=>?_) (λM=>?_))));exact sr (fad U z6x (z0i U D U na3 (x5u U U (wi6 oo) U (z1b U (wi6 oo) (asg U (kpL [(4,_)] (.cons U .nil) (nn (rt (tr (r1 results150 U ⟨_,rfl,by rw[z2h,if_neg I,if_pos M],(Z.n1 J)⟩))))))))));exact sk (tn (sr (fad U z6x (z0i U D U na3 (mv U U (z1b U (wi6 oo) (x5u U U (wi6 oo) U (asg U (kpL [(4,_)] (.cons U .nil) (nn (rt (r1 results150 U ⟨_,rfl,by rw[z2h,if_neg I,if_neg M],(Z.n1 J)⟩))))))))))))
theorem y6z:ElemOf prog 48 27 z7b 24:=ElemOf.mk' (z:=(.slice none 0 0)) underlying48 kr U
theorem k1u (w:World):(zeroValue 27).run prog w=.ok (.slice none 0 0) w:=kr
theorem y8x (v:Value)(l:List LId)(w0:World)(I:Sl z1f w0 v l)(hl:l.length<=100000):Rets prog 85 #[v] w0 λr w'=>∃g,r=.slice (some ⟨g,0,none⟩) l.length l.length/\w0.heap.size<=g/\Lw.Own z1f 73 w0.heap.size w' r l/\Fr [] w0 w':=by
 obtain⟨A,c,rfl,a0,hM,Z⟩:=id I;clear Z;unfold maxLen at hM;refine we [(0,.slice A l.length c)] func85 U ntmps85 U (.cons U .nil) ?_;have J:=I;refine sr (asg U (nn (sr (mv U U (lnS U underlying27 (z1e (m:=l.length) (c:=l.length) (id0) U z4x y0n U (λO w1 a1 D M z1=>(asg U (nn (sr (mv U U (mv U U ?_))))))))))));replace I:=J.ext M;refine z6n (zs:=List.replicate l.length id0) (by rw[List.length_replicate];rfl) U (by rw[List.length_replicate];exact D) I (by rw[List.length_replicate]) z4x (λw2 D q2 z2=>?_);rw[List.length_replicate]at D;exact nn (sr (mv U U (asg U (nn (rt (r1 results85 U ⟨_,rfl,O,rfl,oo,D.low oo,(M.z1 q2)⟩))))))
theorem j1a (v:Value)(l:List IQ)(w0:World)(I:Sl z7b w0 v l)(hl:l.length<=100000):Rets prog 267 #[v] w0 λr w'=>∃g,r=.slice (some ⟨g,0,none⟩) l.length l.length/\w0.heap.size<=g/\Lw.Own z7b 27 w0.heap.size w' r l/\Fr [] w0 w':=by
 obtain⟨A,c,rfl,a0,hM,Z⟩:=id I;clear Z;unfold maxLen at hM;refine we [(0,.slice A l.length c)] func267 U ntmps267 U (.cons U .nil) ?_;have J:=I;refine sr (asg U (nn (sr (mv U U (lnS U underlying48 (z1e (m:=l.length) (c:=l.length) (iq0) U y6z k1u U (λO w1 a1 D M z1=>(asg U (nn (sr (mv U U (mv U U ?_))))))))))));replace I:=J.ext M;refine z6n (zs:=List.replicate l.length iq0) (by rw[List.length_replicate];rfl) U (by rw[List.length_replicate];exact D) I (by rw[List.length_replicate]) y6z (λw2 D q2 z2=>?_);rw[List.length_replicate]at D;exact nn (sr (mv U U (asg U (nn (rt (r1 results267 U ⟨_,rfl,O,rfl,oo,D.low oo,(M.z1 q2)⟩))))))
theorem u2u (v:Value)(qs:List IQ)(w0:World)(M:Sl z7b w0 v qs)(hk:IqAt w0 qs):Rets prog 268 #[v] w0 λr w'=>∃n:Nat,r=.int .i64 (n:Int)/\n<=qs.length/\(plB qs).take n=trimB (plB qs)/\Fr [] w0 w':=by
 obtain⟨A,c,rfl,a2,hM,hA⟩:=id M;clear hA;unfold maxLen at hM;refine we [(0,.slice A qs.length c)] func268 U ntmps268 U (.cons U .nil) ?_;have a0:=M;have Z:=hk;refine sr (asg U (nn (sr (mv U U (lnS U underlying48 (asg U (nn (sq (bl (lpK (ι:=Nat) [(0,_)] (λn=>[(3,.int .i64 (n:Int))]) (λn w'=>Fr [] w0 w'/\n<=qs.length/\∀j,n<=j->(qs.getD j iq0).2=[]) (λn=>n) qs.length (.c2 U U) ⟨Fr.refl _ _,⟨Nat.le_refl _,λj O=>v0y O⟩⟩ ?_))))))))));rintro n w1 ⟨q1,⟨hn,I⟩⟩;refine kpC [(0,_),(3,_)] (.c2 U U) ?_;have J:=z1z (z2f Z (n-1));refine sq (sq (rbo (r:=16) (L':=[(0,_),(3,_)]) (((0<(n:Int))/\(((qs.getD (n-1) iq0).1.2.1:Int)=0))) (.c2 U U) ?_ ?_));refine mv U U (gt' U (mv U U (gs 8 U (λg0=>?_) (λg0=>?_))));refine gY U (mv U U (gY U (mv U U (gY U (z2p U (wi6 oo) (gY U ?_))))));replace M:=a0.ext q1;refine z1d (p:=n-1) (iq0) U M U y6z oo (λa1 D=>?_);exact gY U (z1k U (D _ M) z8o (gY U (lnS U underlying27 (gY U (eq' U (pkt U (rbe U (.c2 U U))))))));exact gN U (gN U (gN U (gN U (gN U (gN U (gN U (pkf U (rbe U (.c2 U U)))))))));refine tn (cd U (λc0=>?_) (λc0=>?_));refine sk (tn (bl (rg (mv U U (z2p U (wi6 oo) (asg U (nl (bn' ?_))))))));exact lpE (n-1) (.c2 U (congrArg (λz=>some (Value.int .i64 z)) (show (n:Int)-1=((n-1:Nat):Int) by omega))) ⟨q1,⟨oo,λj O=>by
  by_cases e:n<=j;exact I j e;obtain rfl:j=n-1:=by omega
  exact List.eq_nil_of_length_eq_zero oo⟩⟩ oo
 refine ex (te (te (xh (tn (sr (mv U U (asg U (nn (rt (r1 results268 U ?_))))))))));exact⟨_,rfl,n,rfl,hn,y2p _ _ (by rw[List.length_map];exact hn) (λj O=>by rw[z4g];exact I j O) (by
  by_cases e:n=0;exact .inl e;refine .inr λh=>c0 ⟨oo,?_⟩;rw[z4g]at h;rw[h]at J;rw[J];rfl),q1⟩
theorem x8r (v u:Value)(qs:List IQ)(n:Nat)(s:List LId)(w0:World)(hs:Sl z7b w0 v qs)(hk:IqAt w0 qs)(hu:Sl z1f w0 u s)(hl:qs.length<=40)(hn:n<=40)(h4:y0b qs)(c9:s.length<=4):Rets prog 226 #[v,.int .i64 (n:Int),u] w0 λr w'=>(∃fs,RwO 27 73 w0.heap.size w' r fs/\plB fs=y7n (plB qs) n s/\∃g,r=.slice (some ⟨g,0,none⟩) fs.length fs.length)/\Fr [] w0 w':=by
 obtain⟨A,c,rfl,d6,hM,hA⟩:=id hs;clear hA;unfold maxLen at hM;obtain⟨B,e,rfl,d7⟩:=id hu.form;obtain⟨M,a6⟩:∃M,M=max qs.length n:=⟨_,rfl⟩;have b5:max (qs.length:Int) (n:Int)=(M:Int):=by omega
 refine we [(0,.slice A qs.length c),(1,.int .i64 (n:Int)),(2,.slice B s.length e)] func226 U ntmps226 U (.c3 U U U) ?_;have b9:=hs;have a8:=hk;have d0:=hu;refine sr (asg U (nn (sr (mv U U (lnS U underlying48 (mv U U (j7y U U U ?_)))))));rw[b5];refine z1e (m:=M) (c:=M) (iq0) U y6z k1u U (λa0 w1 d3 J q1 z1=>(asg U (nn (sr (mv U U (mv U U ?_))))));replace hs:=b9.ext q1;refine j1g (p:=0) (k:=qs.length) (m:=M) (cap:=M) (by rw[Nat.zero_mul,z4q];rfl) U J hs (Nat.zero_le _) oo y6z U (λw2 J q2 z2=>?_);replace J:Lw.Own z7b 27 a0 w2 (.slice (some ⟨a0,0,none⟩) M M) (qs++List.replicate (M-qs.length) iq0):=by simpa using J
 refine nn (jn (ι:=List IQ) [(7,_)] (λp=>[]) (λp w'=>Fr [a0] w2 w'/\Lw.Own z7b 27 w0.heap.size w' (.slice (some ⟨a0,0,none⟩) M M) p/\plB p=(if n=0 then plB qs else (x4r (plB qs) n).set (n-1) s)/\IqAt w' p/\y0b p) (.cons U .nil) ?_ ?_);refine sr (mv U U (gt' U (nn (cd U (λc0=>?_) (λc0=>?_)))));refine rg (mv U U (mv U U (z2p U (wi6 oo) (mv U U (y0h (p:=n-1) (E:=z7b) U U y6z (z6b (i:=n-1) ((((B,s.length,e),s):IQ)) U U J (by rw[List.length_append,List.length_replicate];omega) U u9h (λw3 J q3 z3=>?_)))))));refine kpL [(7,_)] (.cons U .nil) (nl ?_);replace hk:=a8.ext (q1.z2 q2 q3);replace hu:=d0.ext (q1.z2 q2 q3);exact jE (_) (.cons U .nil) ⟨((Fr.refl [a0] _).z1 q3),⟨J.low oo,j0g oo a6,u1v (x9r hk) hu,u2r (x7m h4) c9⟩⟩;refine sk ?_;replace hk:=a8.ext (q1.z1 q2);exact jE (_) (.cons U .nil) ⟨(Fr.refl _ _),⟨J.low oo,u5n oo a6,x9r hk,x7m h4⟩⟩;rintro rs w4 ⟨q4,⟨J,a9,a3,b8⟩⟩;have z4:=q4.size;have b0:=a3;refine kpC [(7,_)] (.cons U .nil) ?_;have e1:rs.length=M:=by have:=congrArg List.length a9;split at this<;>simp only[plB,List.length_map,List.length_set,y9i]at this<;>omega
 refine sr (mv U U (mv U U (cl (ev1 U) (mkC func268) (u2u _ rs _ J.sl a3) U ?_)));rintro _ w5 ⟨m,rfl,b6,b7,q5⟩;have z5:=q5.size;obtain⟨Z,I⟩:∃x,x=rs.take m:=⟨_,rfl⟩;refine k0g (p:=m) U U y6z oo oo oo U ?_;replace J:=J.ext q5;refine cl (ev1 U) (mkC func267) (j1a _ Z _ (by rw[I];exact J.sl.take U b6 oo (by unfold maxLen;omega) (λ_=>rfl)) (by rw[I,List.length_take];omega)) U ?_;rintro _ w6 ⟨D,rfl,d4,O,q6⟩;have z6:=q6.size;have e0:Z.length<=40:=by rw[I,List.length_take];omega
 have b4:y0b Z:=λq hq=>b8 q (List.mem_of_mem_take (I▸hq));have d9:=(O.blk D (by simp[z0u])).2;refine asg U (nn (sq (sr (mv U U (lnS U underlying48 (mv U U (nn (bl (lpK (ι:=Nat×List IQ) [(7,_),(30,_),(31,_)] (λp=>[(32,.int .i64 (p.1:Int))]) (λp w'=>Fr [D] w6 w'/\p.1<=Z.length/\Lw.Own z7b 27 w0.heap.size w' (.slice (some ⟨D,0,none⟩) Z.length Z.length) p.2/\plB p.2=plB Z/\(∀j,p.1<=j->p.2.getD j iq0=Z.getD j iq0)/\PreO 73 (D+1) w' p.2 p.1) (λp=>Z.length-p.1) (0,Z) (.c4 U U U U) ⟨Fr.refl _ _,⟨Nat.zero_le _,O.low oo,rfl,λ_ _=>rfl,PreO.zero⟩⟩ ?_)))))))));rintro⟨i,ps⟩ w7 ⟨q7,⟨hi,O,a2,a5,a1⟩⟩;simp only at hi O a2 a5 a1;have z7:=q7.size;refine kpC [(7,_),(30,_),(31,_),(32,.int .i64 (i:Int))] (.c4 U U U U) ?_;have a4:ps.length=Z.length:=by have:=congrArg List.length a2;simpa using this
 refine sr (lt' U (nn (sq (cd U (λc1=>?_) (λc1=>?_)))));refine sk (tn (sq (bl (sr (mv U U (z1d (iq0) U O.sl U y6z z1g (λd1 a7=>?_)))))));refine z1k U (a7 _ O.sl) z8o (asg U (asg U (nn (rg (mv U U (mv U U (mv U U ?_)))))));replace a3:=b0.ext (q5.z2 q6 q7);refine cl (ev1 U) (mkC func85) (y8x _ (ps.getD i iq0).2 _ (by rw[a5 i (Nat.le_refl _)];exact z2f (v3k I a3) i) (by have:=z3o (j0n b4 a2) i;omega)) U ?_;rintro _ w8 ⟨b3,rfl,d5,hX,q8⟩;have z8:=q8.size;replace O:=O.ext q8;refine y0h (p:=i) (E:=z7b) U U y6z (z6b (i:=i) ((((some ⟨b3,0,none⟩,(ps.getD i iq0).2.length,(ps.getD i iq0).2.length),(ps.getD i iq0).2):IQ)) U U O oo U u9h (λw9 O q9 z9=>(kpL [(7,_),(30,_),(31,_),(32,_)] (.c4 U U U U) (nl (bn' (tn (rg (z1b U (wi6 oo) (mv U U (nl ?_))))))))));replace a1:=(a1.ext q8).fr q9 (by intro k hk;simp at hk;omega);replace hX:=hX.fr q9 (by intro k hk hb;simp[z0u]at hk hb;omega);exact lpE ((i+1,_)) (.c4 U U U U) ⟨((Fr.refl [D] _).z3 q7 q8 q9),⟨sm,O,(u9r (by rfl)).trans a2,u2o a5 oo,a1.put oo (hX.low oo)⟩⟩ sm;obtain rfl:i=Z.length:=by omega
 exact ex (te (te (xh (tn (sr (mv U U (asg U (kpL [(6,_)] (.cons U .nil) (nn (rt (r1 results226 U ⟨_,rfl,⟨ps,⟨O,(a4▸a1).all oo⟩,a2.trans (j2w I b7 a9),D,by rw[a4]⟩,(q1.z5 q2 q4 q5 q6 q7)⟩)))))))))))
theorem z4w:z3q prog 50 2:=⟨λ_=>kr,λ_=>kr⟩
theorem j5g:BuildAt prog 50 [(0,1),(1,1)] [(.slice none 0 0),(.slice none 0 0)]:=BuildAt.struct underlying50 (λ_=>kr) (λ_=>kr)
theorem y8h:z0y prog 50 0 0:=λ_ _=>kr
theorem y3x:z0y prog 50 1 1:=λ_ _=>kr
theorem v0x:z2c prog 48:=λ_=>kr
theorem y6h:z1q prog 50 2:=λ_=>kr
theorem x2v (w:World):(zeroValue 50).run prog w=.ok (.agg #[(.slice none 0 0),(.slice none 0 0)]) w:=kr
theorem y5b (q:BdQ)(b:Int)(n:Nat)(u:Value)(s:List LId)(w0:World)(Z:BdAt w0 q)(hu:Sl z1f w0 u s)(hn:z2v b (n:Int)=0)(hf:q.fs.length<=40)(hb:q.bs.length<=40)(h4:y0b q.fs)(b5:y0b q.bs)(c9:s.length<=4):Rets prog 169 #[.agg #[.slice q.f.1 q.f.2.1 q.f.2.2,.slice q.b.1 q.b.2.1 q.b.2.2],.agg #[.int .u8 b,.int .i64 (n:Int)],u] w0 λr w'=>(∃q':BdQ,r=.agg (bdL q').toArray/\BdO 27 73 w0.heap.size w' q'/\q'.p=q.p.put b (n:Int) s)/\Fr [] w0 w':=by
 have d7:=z2o hn;obtain⟨Us,e,rfl,d9⟩:=id hu.form;refine we [(0,.agg #[.slice q.f.1 q.f.2.1 q.f.2.2,.slice q.b.1 q.b.2.1 q.b.2.2]),(1,.agg #[.int .u8 b,.int .i64 (n:Int)]),(2,.slice Us s.length e)] func169 U ntmps169 U (.c3 U U U) ?_;have b6:=Z;have d0:=hu;refine sr (bx U (λg3 w1 e0 M q1 z1=>(bx U (λg4 w2 e1 I q2 z2=>(al x2v U (λg6 w3 e2 D q3 z3=>(nn (sq (sr (fad U z6v ?_))))))))));replace I:=I.ext q3;refine z0i U I U x9d (eq' U (nn (cd U (λc0=>?_) (λc0=>?_))));refine sq ?_;replace Z:=b6.ext (q1.n2 q2 q3);replace hu:=d0.ext (q1.n2 q2 q3);intro a h;refine z0h (some 10) (λwb w'=>Fr [] wb w') z2m ?_;intro w4 q4;have z4:=q4.size;replace Z:=Z.ext q4;replace hu:=hu.ext q4;replace M:=M.ext (q2.n2 q3 q4);replace I:=I.ext q4;replace D:=D.ext q4;have hC:Fr [] w4 w4:=Fr.refl _ _;have a8:=Z;have b4:=hu;have J:=M;have O:=I;have a2:=D;refine z0c 0 h U y8h U λa h=>z0j 1 h U (λ_ hw=>J.ext hw) U v0x U λa h=>z0c 2 h U z6x U λa h=>z0j 3 h U (λ_ hw=>O.ext hw) U na3 U λa h=>z0e 4 h U λa h=>z0c 6 h U y3x U λa h=>z0j 7 h U (λ_ hw=>J.ext hw) U v0x U λa h=>z0d 5 U (z0o h (z0a U (z0a U (z0a U z0f))) (mkC func226) (x8r _ _ q.fs n s _ Z.f Z.fi hu oo oo h4 c9) ?_);rintro _ w5 ⟨⟨a4,a0,b7,d1,rfl⟩,q5⟩ a h;have z5:=q5.size;replace Z:=Z.ext q5;replace hC:=hC.next q5;refine z0b (z0d 8 U (z0o h (z0a U (z0a U (z0a U z0f))) (mkC func226) (x8r _ _ q.bs 0 [] _ Z.b Z.bi (Sl.nil _) oo oo b5 (Nat.zero_le _)) ?_));rintro _ w6 ⟨⟨a5,a9,b8,d3,rfl⟩,q6⟩ a h;have z6:=q6.size;replace M:=M.ext (q5.n1 q6);replace I:=I.ext (q5.n1 q6);replace D:=D.ext (q5.n1 q6);replace a0:=a0.ext q6;replace hC:=hC.next q6;refine z0b (z2z (cs:=[_,_]) 9 h (z0a U (z0a U z0f)) j5g (z0g U (z0g U z0s)) U U λa h=>z0d 10 U ?_);refine z0t h U D U y6h λw7 b3 q7 hz a h=>?_;have z7:=q7.size;replace M:=M.fr q7;replace I:=I.fr q7;replace a0:=a0.fr q7 (by intro k hk;simp at hk;omega);replace a9:=a9.fr q7 (by intro k hk;simp at hk;omega);clear D hz;have D:Blk w7 g6 _ [_,_]:=b3;clear b3;refine z1m (z0p ?_);clear hC a8 b4 J O a2;exact bk (h.sub (L':=[(6,_)]) (.cons U .nil)) (tn (rt (tr (rC results169 U D z4w  (⟨_,rfl,⟨⟨(some ⟨d1,0,none⟩,a4.length,a4.length),(some ⟨d3,0,none⟩,a5.length,a5.length),a4,a5⟩,rfl,⟨a0.low oo,a9.low oo⟩,by rw[<-k1t q.p n s oo,<-b7,<-b8]⟩,(q1.z6 q2 q3 q4 q5 q6 q7)⟩)))));refine sk (tn (sq ?_));replace Z:=b6.ext (q1.n2 q2 q3);replace hu:=d0.ext (q1.n2 q2 q3);intro a h;refine z0h (some 10) (λwb w'=>Fr [] wb w') z2m ?_;intro w8 q8;have z8:=q8.size;replace Z:=Z.ext q8;replace hu:=hu.ext q8;replace M:=M.ext (q2.n2 q3 q8);replace I:=I.ext q8;replace D:=D.ext q8;have hC:Fr [] w8 w8:=Fr.refl _ _;have a8:=Z;have b4:=hu;have J:=M;have O:=I;have a2:=D;refine z0c 0 h U y8h U λa h=>z0j 1 h U (λ_ hw=>J.ext hw) U v0x U λa h=>z0c 3 h U y3x U λa h=>z0j 4 h U (λ_ hw=>J.ext hw) U v0x U λa h=>z0c 5 h U z6x U λa h=>z0j 6 h U (λ_ hw=>O.ext hw) U na3 U λa h=>z0e 7 h U λa h=>z0d 2 U (z0o h (z0a U (z0a U (z0a U z0f))) (mkC func226) (x8r _ _ q.fs 0 [] _ Z.f Z.fi (Sl.nil _) oo oo h4 (Nat.zero_le _)) ?_);rintro _ w9 ⟨⟨a6,a1,b9,d4,rfl⟩,q9⟩ a h;have z9:=q9.size;replace Z:=Z.ext q9;replace hu:=hu.ext q9;replace hC:=hC.next q9;refine z0b (z0d 8 U (z0o h (z0a U (z0a U (z0a U z0f))) (mkC func226) (x8r _ _ q.bs n s _ Z.b Z.bi hu oo oo b5 c9) ?_));rintro _ e3 ⟨⟨a7,b0,c1,d5,rfl⟩,q10⟩ a h;have e4:=q10.size;replace M:=M.ext (q9.n1 q10);replace I:=I.ext (q9.n1 q10);replace D:=D.ext (q9.n1 q10);replace a1:=a1.ext q10;replace hC:=hC.next q10;refine z0b (z2z (cs:=[_,_]) 9 h (z0a U (z0a U z0f)) j5g (z0g U (z0g U z0s)) U U λa h=>z0d 10 U ?_);refine z0t h U D U y6h λd6 b3 a3 hz a h=>?_;have e5:=a3.size;replace M:=M.fr a3;replace I:=I.fr a3;replace a1:=a1.fr a3 (by intro k hk;simp at hk;omega);replace b0:=b0.fr a3 (by intro k hk;simp at hk;omega);clear D hz;have D:Blk d6 g6 _ [_,_]:=b3;clear b3;refine z1m (z0p ?_);clear hC a8 b4 J O a2;exact bk (h.sub (L':=[(6,_)]) (.cons U .nil)) (tn (rt (rC results169 U D z4w  (⟨_,rfl,⟨⟨(some ⟨d4,0,none⟩,a6.length,a6.length),(some ⟨d5,0,none⟩,a7.length,a7.length),a6,a7⟩,rfl,⟨a1.low oo,b0.low oo⟩,by rw[<-k3r q.p n s oo,<-b9,<-c1]⟩,(q1.z6 q2 q3 q8 q9 q10 a3)⟩))))
theorem x2k (q:BdQ)(b p:Int)(w0:World)(Z:BdAt w0 q)(hp:-9223372036854775808<=p/\p<=9223372036854775807)(hf:q.fs.length<=40)(hb:q.bs.length<=40)(h4:y0b q.fs)(a6:y0b q.bs):Rets prog 30 #[.agg #[.slice q.f.1 q.f.2.1 q.f.2.2,.slice q.b.1 q.b.2.1 q.b.2.2],.agg #[.int .u8 b,.int .i64 p]] w0 λr w'=>Lw.Own z1f 73 w0.heap.size w' r (q.p.atC b p)/\Fr [] w0 w':=by
 refine we [(0,.agg #[.slice q.f.1 q.f.2.1 q.f.2.2,.slice q.b.1 q.b.2.1 q.b.2.2]),(1,.agg #[.int .u8 b,.int .i64 p])] func30 U ntmps30 U (.c2 U U) ?_;have a0:=Z;refine sr (bx U (λg2 w1 a8 J q1 z1=>(bx U (λg3 w2 a9 D q2 z2=>(asg U (nn (sq (sr (z0n U D z4k (cl (ev1 U) u4h (z4t _ _ _) U ?_))))))))));rintro _ w3 ⟨rfl,M⟩;have z3:=M.size;refine ne' U (nn (cd U (λc0=>?_) (λc0=>?_)));exact sr (asg U (nn (rt (tr (r1 results30 U ⟨_,rfl,by unfold Bd.atC;rw[if_neg c0];exact Own.nil _,(q1.n2 q2 M)⟩)))));refine sk (tn (sr (fad U y8h ?_)));replace J:=J.ext (q2.n1 M);refine z0i U J U v0x (asg U (nn (jn (ι:=Unit) [(3,_)] (λ_j=>[(5,.slice (q.sv b).1 (q.sv b).2.1 (q.sv b).2.2)]) (λ_j w'=>Fr [] w3 w') (.cons U .nil) ?_ ?_)));refine sr (fad U z6v ?_);replace D:=D.ext M;refine z0i U D U x9d (eq' U (nn (cd U (λO=>?_) (λO=>?_))));exact rg (fad U y3x (z0i U J U v0x (asg U (nl (jE (()) (.c2 U (by first|(rw[show q.sv b=q.b from if_pos O];rfl)|(rw[show q.sv b=q.f from if_neg O];rfl))) (Fr.refl _ _))))));exact sk (jE (()) (.c2 U (by first|(rw[show q.sv b=q.b from if_pos O];rfl)|(rw[show q.sv b=q.f from if_neg O];rfl))) (Fr.refl _ _));rintro _j w4 q4;have z4:=q4.size;refine kpC [(3,_),(5,_)] (.c2 U U) ?_;have b3:=z1z (a0.sel b).1;have b0:(q.l b).length<=40:=by unfold BdQ.l;split<;>assumption
 have a2:y0b (q.l b):=by unfold BdQ.l;split<;>assumption
 have I:z2v b p=0:=Classical.not_not.1 c0;have a7:=z2o I;refine sq (sr (fad U z6x ?_));replace D:=D.ext (M.n1 q4);refine z0i U D U na3 (mv U U (lnS U underlying48 (gt' U (nn (cd U (λc2=>?_) (λc2=>?_))))));exact sr (asg U (nn (rt (tr (r1 results30 U ⟨_,rfl,by unfold Bd.atC;rw[if_pos I,<-q.at_l I,v0y oo];exact Own.nil _,(q1.n3 q2 M q4)⟩)))));refine sk (tn (sr (mv U U (fad U z6x (z0i U D U na3 (z2p U (wi6 oo) ?_))))));replace Z:=a0.ext (q1.n3 q2 M q4);refine z1d (iq0) U (Z.sel b).1 U y6z z1g (λa3 a1=>?_);refine z1k U (a1 _ (Z.sel b).1) z8o (cl (ev1 U) (mkC func85) (y8x _ ((q.l b).getD (p-1).toNat iq0).2 _ (z2f (Z.sel b).2 _) (by have:=z3o a2 (p-1).toNat;omega)) U ?_);rintro _ w5 ⟨a5,rfl,a4,hX,q5⟩;have z5:=q5.size;exact asg U (kpL [(4,_)] (.cons U .nil) (nn (rt (r1 results30 U ⟨_,rfl,by unfold Bd.atC;rw[if_pos I,<-q.at_l I];exact hX.low oo,(q1.n4 q2 M q4 q5)⟩))))
end Go.Proofs.YtjilcnmaefhmeaaGreatDoor
namespace Go.Lw
open Go.RowKit
section
variable {P:Program} {n N:Nat} {ro:Option Nat} {L:List (Nat×Value)} {ds:List Nat} {w w':World} {Q:Exit->Act->World->Prop}
def KeepN (Ts B:List Nat)(b:Nat)(W W':World):Prop:=KeepT Ts B W W'/\KeepsFrom b W W'
theorem KeepsFrom.low {b b':Nat}(h:KeepsFrom b w w')(hb:b<=b'):KeepsFrom b' w w':=⟨h.size,λk o D=>h.same k o (Nat.le_trans hb D)⟩
theorem KeepN.trans {I B:List Nat}{b:Nat}{D:World}(h:KeepN I B b w w')(k:KeepN I B b w' D):KeepN I B b w D:=⟨h.1.trans k.1,h.2.trans k.2⟩
theorem KeepN.low {D B:List Nat}{b b':Nat}(h:KeepN D B b w w')(hb:b<=b'):KeepN D B b' w w':=⟨h.1,KeepsFrom.low h.2 hb⟩
theorem KeepN.refl {D B:List Nat}{b:Nat}:KeepN D B b w w:=⟨⟨λ_ _=>rfl,λ_ _ _ _ _ I=>I⟩,⟨Nat.le_refl _,λ_ _ _ h _=>h⟩⟩
def j8f {α:Type}(n:Nat)(P:Program)(g:Nat)(lb:Array Value)(encs:α->Array Value)(Kp:World->World->Prop)(S Sp Pf:List α->Prop)(M:Nat)(w:World):Prop:=
  ∀(l:Nat) (J Jx:List α->World->Prop) (W:World),Below w.heap.size w W->w.heap.size+2<=W.heap.size->(∀s A B,Turn W.heap.size A B->J s A->J s B)->(∀s A B,Turn W.heap.size A B->Jx s A->Jx s B)->
    (∀pre x W1,J pre W1->pre.length<M->Pf (pre++[x])->YieldAt (Fo none) (n-1) P l (encs x) W1 λe W'=>(e=.returned (.bool true)/\J (pre++[x]) W'/\Kp W1 W')\/(e=.returned (.bool false)/\Jx (pre++[x]) W'/\KeepsFrom (w.heap.size+2) W1 W'))->J [] W->
    CallsIn (Fo none) n P g (#[.func (.yield l) #[] #[]]++lb) W λe W'=>(∃v,e=.returned v)/\((∃xs,S xs/\J xs W')\/(∃pre,Sp pre/\Jx pre W'))
theorem Turn.of_fr {n0:Nat}(hf:Fr [] w w'):Turn n0 w w':=⟨none,⟨hf.os,hf.tape,hf.output,hf.size,λk D _=>hf.block k D sp0⟩,λr e=>by cases e⟩
theorem Turn.low {n0 n1:Nat}(h:Turn n0 w w')(hn:n1<=n0):Turn n1 w w':=let ⟨row,hg,hr⟩:=h;⟨row,hg,λr e=>let ⟨a,b⟩:=hr r e;⟨Nat.le_trans hn a,b⟩⟩
theorem Turn.put {n0 l:Nat}{o:Obj}(o':Obj)(hn:n0<=l)(hl:w.heap[l]?=some o)(ho:o.isCells=false):Turn n0 w (w.putObj l o'):=⟨some l,grownBy_putObj' w l o',λr e=>by cases e;exact⟨hn,o,hl,ho⟩⟩
theorem weIM {f:FuncId}{fn:Func}{c:Code}{args:Array Value}{R:Ending->World->Prop}(L:List (Nat×Value))(hf:P.funcs[f]?=some fn)(hb:fn.body=some c)(hn:fn.ntmps=n)(I:Nat.ble args.size n=true)(D:argsOk args L)
    (h:CWi none N P (bodyPostM (Fo none) N P fn R) c n [] w L):CallsIn (Fo none) N P f args w R:=by
  have J:args.size<=n:=by simpa[Nat.ble_eq] using I
  refine callsIn_of_wp_marks hf hb trivial (h _ ⟨rfl,by simp[hn];omega,λt v O=>?_⟩)
  have:=argsOk.look D O
  simp only[Array.getD_eq_getD_getElem?,Array.getElem?_append]
  have M:t<args.size:=by
    rcases Nat.lt_or_ge t args.size with h|h
    · exact h
    · rw[Array.getElem?_eq_none h]at this;cases this
  rw[if_pos M,this];rfl
theorem j5r {α:Type}{g:Operand}{ps:Array Tmp}{assign body:Code}{gf:Nat}{lb:Array Value}(hg:ev L g=some (.func (.func gf) #[] lb))(eg:CallOf P gf)
    {encs:α->Array Value} {Ts B:List Nat} {S Sp Pf:List α->Prop} {M:Nat} (hN:1<=N) (hseq:j8f (N-1) P gf lb encs (KeepN Ts B (w.heap.size+2)) S Sp Pf M w) (hB:∀b∈B,b<w.heap.size)
    (hps:∀x,(encs x).size=ps.size) (Lq:α->List (Nat×Value)) (hLq:∀x,(ps.zip (encs x)).toList.reverse=Lq x) (hpn:∀x,(Lq x).all (λp=>Nat.blt p.1 n)=true)
    (I Ir:List α->World->Prop) (hI:∀s W W',Turn w.heap.size W W'->I s W->I s W') (hIr:∀s W W',Turn w.heap.size W W'->Ir s W->Ir s W') (h0:I [] w)
    (Ax:α->Act->World->Prop) (hAx:∀x a' W W',Turn w.heap.size W W'->Ax x a' W->Ax x a' W')
    (hassign:∀(l:Nat) (O:List α) (x:α) (W:World),I O W->CWi (some l) (N-1-1) P (Exit.then (λa' W'=>Ax x a' W'/\Fr [] W W') (λ_ _ _=>False)) assign n [] W (Lq x++L))
    (hbody:∀(l:Nat) (O:List α) (x:α) (a':Act) (W:World),w.heap.size<=l->Ax x a' W->I O W->O.length<M->Pf (O++[x])->body.wpIn (Fo (some l)) (N-1-1) P (ownPostG w.heap.size (KeepT Ts B) I (λc s W=>c=.ret/\Ir s W) (O++[x]) W) a' W)
    (hdone:∀(D:Nat) (xs:List α) (W:World),w.heap.size<=D->S xs->I xs W->DefAt D W->EW Q .normal n (D::ds) W L)
    (hstop:∀(D:Nat) (O:List α) (W:World),w.heap.size<=D->Sp O->Ir O W->DefAt D W->EW Q .ret n (D::ds) W L):CWi none N P Q (.rangeFunc g ps assign body) n ds w L:=by
  intro a h
  obtain⟨D,hD⟩:∃D,D=w.heap.size:=⟨_,rfl⟩
  have b8:AgM (D::ds) { a with defers:={ target:=.collected D,args:=#[] }::a.defers } n L:=⟨by simp[h.dfr,mark],h.size,h.at_⟩
  refine wpIn_rangeFunc λfn d1=>?_
  obtain⟨a0,J⟩:∃a0:LoopState->Option Code->Loop,a0=λst pe=>{ state:=st,pending:=pe,fn,tmps:=a.tmps,params:=ps,assign,body,defers:=D }:=⟨_,rfl⟩
  obtain⟨W1,a5⟩:∃W1,W1=(w.alloc (.deferred (some []))).alloc (.loop (a0 .ready none)):=⟨_,rfl⟩
  -- the two blocks of the book-keeping,in a world
  let Bk:LoopState->Option Code->World->Prop:=λst pe W=>W.heap[D+1]?=some (.loop (a0 st pe))/\DefAt D W
  have z1:W1.heap.size=D+2:=by rw[a5,World.size_alloc,World.size_alloc,hD]
  have b5:Bk .ready none W1:=by
    refine⟨?_,?_⟩
    · rw[a5];have:=World.alloc_heap_new (w.alloc (.deferred (some []))) (.loop (a0 .ready none));rwa [World.size_alloc,<-hD]at this
    · rw[a5,hD];exact(Below.heap_alloc _ _ _ sp0).trans (World.alloc_heap_new w _)
  have b4:Below w.heap.size w W1:=by rw[a5];exact((Below.refl _ w).alloc (Nat.le_refl _) _).alloc sp0 _
  have d0:Fr [] w W1:=Fr.of_below' b4 (Nat.le_refl _)
  have b0:∀ {st pe A B},Turn (D+2) A B->Bk st pe A->Bk st pe B:=λht Z=>⟨ht.at Z.1 (.inr oo),ht.at Z.2 (.inr oo)⟩
  have a8:∀ {st pe c0 b9 A},Bk st pe A->Bk c0 b9 (A.putObj (D+1) (.loop (a0 c0 b9))):=λZ=>⟨World.putObj_heap_same (Array.getElem?_eq_some_iff.1 Z.1).1,(World.putObj_heap_other oo).trans Z.2⟩
  have a4:∀ {st pe A} (o':Obj),Bk st pe A->Turn w.heap.size A (A.putObj (D+1) o'):=λo' Z=>Turn.put o' oo Z.1 U
  have a7:∀ {st pe A} (o':Obj),Bk st pe A->KeepN Ts B (w.heap.size+2) A (A.putObj (D+1) o'):=λo' Z=>⟨KeepT.put Z.1 U (λb Z=>by have:=hB b Z;omega),⟨(grownBy_putObj' _ _ _).size,λk o hk ho _=>(World.putObj_heap_other oo).trans ho⟩⟩
  refine⟨D+1,[{ target:=.collected D,args:=#[] }],W1,{ target:=.fn (.func gf) lb,args:=#[.func (.yield (D+1)) #[] #[]] },W1,gf,#[.func (.yield (D+1)) #[] #[]]++lb,W1,?_,?_,?_,?_,λ_=>hN,?_⟩
  · rw[a5,J,hD];exact run_enterLoop_outer _ _ _ _ _
  · simp only[resolve,h.eval hg];simp[go_sem]
  · intro f' _;trivial
  · have he:=eg (#[.func (.yield (D+1)) #[] #[]]++lb) W1
    simpa[invoke,go_sem] using he
  refine(hseq (D+1) (λs W=>I s W/\Bk .ready none W) (λs W=>Ir s W/\Bk .done (some .ret) W) W1 b4 oo (λs A B ht hs=>⟨hI s A B (ht.low oo) hs.1,b0 (z1▸ht) hs.2⟩) (λs A B ht hs=>⟨hIr s A B (ht.low oo) hs.1,b0 (z1▸ht) hs.2⟩) ?_ ⟨hI _ _ _ (Turn.of_fr d0) h0,b5⟩).mono ?_
  · rintro O x W ⟨hi,Z⟩ b7 d5
    have hy:=run_yield (P:=P) (args:=encs x) Z.1 (by rw[J];exact hps x)
    rw[J]at hy
    refine⟨fn,_,assign,body,hy,roundIn_of_wpIn d1 (wpIn_mono (Q:=Exit.then (λa' W'=>Ax x a' W'/\Fr [] W W') (λ_ _ _=>False)) ?_ ?_)⟩
    · have hp:=v4h h (ps.zip (encs x)).toList (by have:=hpn x;rw[<-hLq,List.all_reverse]at this;exact this)
      rw[hLq]at hp
      have e:({ tmps:=(ps.zip (encs x)).foldl (λt (p:Nat×Value)=>t.setIfInBounds p.1 p.2) a.tmps,defers:=[] }:Act)={ tmps:=(ps.zip (encs x)).toList.foldl (λt p=>t.setIfInBounds p.1 p.2) a.tmps,defers:=[] }:=by
        rw[<-Array.foldl_toList]
      exact hassign _ O x W hi _ (by rw[<-e]at hp;exact hp)
    · clear hy
      rintro e a' W2 he
      cases e with
      | normal=>
        obtain⟨c1,hf⟩:=he
        have d3:=hI _ _ _ (Turn.of_fr hf) hi
        have a2:Bk .ready none W2:=⟨(hf.block _ (Array.getElem?_eq_some_iff.1 Z.1).1 sp0).trans Z.1,Z.2.ext hf⟩
        have b6:KeepN Ts B (w.heap.size+2) W W2:=⟨KeepT.ext hf (λb h=>by
          have:=hB b h
          have:=(Array.getElem?_eq_some_iff.1 Z.1).1;omega),⟨hf.size,λk o _ ho _=>(hf.block k (Array.getElem?_eq_some_iff.1 ho).1 sp0).trans ho⟩⟩
        have c9:(Instr.beginRound (D+1)).run P W2=.ok () (W2.putObj (D+1) (.loop (a0 .busy none))):=by
          have:=run_beginRound (P:=P) a2.1 (by rw[J])
          rw[J]at this ⊢;exact this
        refine⟨_,c9,wpIn_mono (hbody (D+1) O x a' _ oo (hAx _ _ _ _ (a4 _ a2) c1) (hI _ _ _ (a4 _ a2) d3) b7 d5) ?_⟩
        have b3:Bk .busy none (W2.putObj (D+1) (.loop (a0 .busy none))):=a8 a2
        have keep:∀ {W3:World},KeepsFrom w.heap.size (W2.putObj (D+1) (.loop (a0 .busy none))) W3->Bk .busy none W3:=λhk=>⟨hk.same _ _ oo b3.1 U,hk.same _ _ oo b3.2 U⟩
        rintro e a3 W3 hp
        cases e with
        | normal=>
          obtain⟨a6,d4,a9⟩:=hp
          have a1:=keep a6
          have hr:(Instr.endRound (D+1) none).run P W3=.ok (.bool true) (W3.putObj (D+1) (.loop (a0 .ready none))):=by
            have:=run_endRound (P:=P) none a1.1
            rw[J]at this ⊢;exact this
          exact⟨_,_,hr,.inl ⟨rfl,⟨hI _ _ _ (a4 _ a1) a9,a8 a1⟩,(b6.trans (a7 _ a2)).trans (KeepN.trans ⟨d4,KeepsFrom.low a6 oo⟩ (a7 _ a1))⟩⟩
        | ret=>
          obtain⟨a6,_,a9⟩:=hp
          have a1:=keep a6
          have hr:(Instr.endRound (D+1) (some .ret)).run P W3=.ok (.bool false) (W3.putObj (D+1) (.loop (a0 .done (some .ret)))):=by
            have:=run_endRound (P:=P) (some .ret) a1.1
            rw[J]at this ⊢;exact this
          exact⟨_,_,hr,.inr ⟨rfl,⟨hIr _ _ _ (a4 _ a1) a9,a8 a1⟩,(b6.2.trans (a7 _ a2).2).trans ((KeepsFrom.low a6 oo).trans (a7 _ a1).2)⟩⟩
        | exit id=>exact absurd hp.2.1 sp0
        | goto t=>exact absurd hp.2.1 sp0
        | panic ch=>exact hp.elim
        | outgrown=>exact hp.elim
      | _=>exact he.elim
  · rintro e W2 ⟨⟨v,rfl⟩,(⟨xs,hS,hi,Z⟩|⟨O,hS,hi,Z⟩)⟩
    · have hr:=run_endLoop (P:=P) Z.1 (by rw[J];simp)
      rw[J]at hr
      exact⟨none,_,hr,hdone D xs _ oo hS (hI _ _ _ (a4 _ Z) hi) ((World.putObj_heap_other oo).trans Z.2) _ b8⟩
    · have hr:=run_endLoop (P:=P) Z.1 (by rw[J];simp)
      rw[J]at hr
      exact⟨some .ret,_,hr,wpIn_ret (hstop D O _ oo hS (hIr _ _ _ (a4 _ Z) hi) ((World.putObj_heap_other oo).trans Z.2) _ b8)⟩
theorem v9q {α:Type}{g:Operand}{ps:Array Tmp}{O Z:Code}{gf:Nat}{lb:Array Value}(hg:ev L g=some (.func (.func gf) #[] lb))(eg:CallOf P gf)
    {encs:α->Array Value} {Ts B:List Nat} {S Sp Pf:List α->Prop} {M:Nat} (hN:1<=N) (hseq:j8f (N-1) P gf lb encs (KeepN Ts B (w.heap.size+2)) S Sp Pf M w) (hB:∀b∈B,b<w.heap.size)
    (hps:∀x,(encs x).size=ps.size) (Lq:α->List (Nat×Value)) (hLq:∀x,(ps.zip (encs x)).toList.reverse=Lq x) (hpn:∀x,(Lq x).all (λp=>Nat.blt p.1 n)=true)
    (I Ir:List α->World->Prop) (hI:∀s W W',Turn w.heap.size W W'->I s W->I s W') (hIr:∀s W W',Turn w.heap.size W W'->Ir s W->Ir s W') (h0:I [] w)
    (Lx:α->List (Nat×Value)) (K:List (Nat×Value)) (_hK:Sub K L)
    (hassign:∀(l:Nat) (J:List α) (x:α) (W:World),I J W->CWi (some l) (N-1-1) P (Exit.then (AsU n W (Lx x++K)) (λ_ _ _=>False)) O n [] W (Lq x++L))
    (hbody:∀(l:Nat) (J:List α) (x:α) (W:World),w.heap.size<=l->I J W->J.length<M->Pf (J++[x])->CWi (some l) (N-1-1) P (ownPostG w.heap.size (KeepT Ts B) I (λc s W=>c=.ret/\Ir s W) (J++[x]) W) Z n [] W (Lx x++K))
    (hdone:∀(D:Nat) (xs:List α) (W:World),w.heap.size<=D->S xs->I xs W->DefAt D W->EW Q .normal n (D::ds) W L)
    (hstop:∀(D:Nat) (J:List α) (W:World),w.heap.size<=D->Sp J->Ir J W->DefAt D W->EW Q .ret n (D::ds) W L):CWi none N P Q (.rangeFunc g ps O Z) n ds w L:=
  j5r hg eg hN hseq hB hps Lq hLq hpn I Ir hI hIr h0 (λx a' _=>AgM [] a' n (Lx x++K)) (λ_ _ _ _ _ h=>h)
    (λl J x W hi a ha=>wpIn_mono (hassign l J x W hi a ha) (λe a' W' he=>by
      cases e with
      | normal=>obtain⟨h1,rfl⟩:=he;exact⟨h1,Fr.refl _ _⟩
      | _=>exact he.elim)) (λl J x a' W hl hx hi hm hp=>hbody l J x W hl hi hm hp a' hx) hdone hstop
theorem k1r {α:Type}{g:Operand}{ps:Array Tmp}{O Z:Code}{gf:Nat}{lb:Array Value}(hg:ev L g=some (.func (.func gf) #[] lb))(eg:CallOf P gf)
    {encs:α->Array Value} {Ts B:List Nat} {S Sp Pf:List α->Prop} {M:Nat} (hN:1<=N) (hseq:j8f (N-1) P gf lb encs (KeepN Ts B (w.heap.size+2)) S Sp Pf M w) (hB:∀b∈B,b<w.heap.size)
    (hps:∀x,(encs x).size=ps.size) (Lq:α->List (Nat×Value)) (hLq:∀x,(ps.zip (encs x)).toList.reverse=Lq x) (hpn:∀x,(Lq x).all (λp=>Nat.blt p.1 n)=true)
    (I Ir:List α->World->Prop) (hI:∀s W W',Turn w.heap.size W W'->I s W->I s W') (hIr:∀s W W',Turn w.heap.size W W'->Ir s W->Ir s W') (hBI:∀s W,I s W->w.heap.size<=W.heap.size) (h0:I [] w)
    (T:TypeId) (E1:α->List Value) (Lx:Nat->α->List (Nat×Value)) (K:List (Nat×Value)) (_hK:Sub K L)
    (hassign:∀(l:Nat) (J:List α) (x:α) (W:World),I J W->w.heap.size<=W.heap.size->CWi (some l) (N-1-1) P (Exit.then (AsK n w.heap.size W T (E1 x) (λg=>Lx g x++K)) (λ_ _ _=>False)) O n [] W (Lq x++L))
    (hbody:∀(l:Nat) (J:List α) (x:α) (g:Nat) (W:World),w.heap.size<=l->w.heap.size<=g->Blk W g T (E1 x)->I J W->J.length<M->Pf (J++[x])->CWi (some l) (N-1-1) P (ownPostG w.heap.size (KeepT Ts B) I (λc s W=>c=.ret/\Ir s W) (J++[x]) W) Z n [] W (Lx g x++K))
    (hdone:∀(D:Nat) (xs:List α) (W:World),w.heap.size<=D->S xs->I xs W->DefAt D W->EW Q .normal n (D::ds) W L)
    (hstop:∀(D:Nat) (J:List α) (W:World),w.heap.size<=D->Sp J->Ir J W->DefAt D W->EW Q .ret n (D::ds) W L):CWi none N P Q (.rangeFunc g ps O Z) n ds w L:=
  j5r hg eg hN hseq hB hps Lq hLq hpn I Ir hI hIr h0 (λx a' W=>∃g,w.heap.size<=g/\AgM [] a' n (Lx g x++K)/\Blk W g T (E1 x)) (λx a' W W' ht ⟨g,h1,h2,h3⟩=>⟨g,h1,h2,h3.turn ht⟩)
    (λl J x W hi a ha=>wpIn_mono (hassign l J x W hi (hBI _ _ hi) a ha) (λe a' W' he=>by
      cases e with
      | normal=>obtain⟨g,h1,h2,h3,hf⟩:=he;exact⟨⟨g,h1,h2,h3⟩,hf⟩
      | _=>exact he.elim)) (λl J x a' W hl ⟨g,h1,h2,h3⟩ hi hm hp=>hbody l J x g W hl h1 h3 hi hm hp a' h2) hdone hstop
theorem j5k {α:Type}{Z:Nat}{Ts B S:List Nat}{I:List α->World->Prop}{Ix:Code->List α->World->Prop}{xs:List α}{W:World}(hf:Fr S W w)(hS:∀k∈S,k<W.heap.size->(∃cs T f,W.heap[k]?=some (.cells cs T f)/\T∉Ts)\/(k<Z/\v0b W k))(hB:∀b∈B,b<W.heap.size)(hd:∀b∈B,b∉S)(hI:I xs w):EW (ownPostG Z (KeepT Ts B) I Ix xs W) .normal n ds w L:=
 λ_ _=>⟨⟨hf.size,λk o hk M J=>(hf.block k (Array.getElem?_eq_some_iff.1 M).1 (λe=>by
  rcases hS k e (Array.getElem?_eq_some_iff.1 M).1 with ⟨cs,T,f,D,_⟩|⟨D,_⟩
  ·rw[M]at D;cases D;cases J
  ·omega)).trans M⟩,⟨Keep.fr hf hB hd,λb cs T f hT J=>(hf.block b (Array.getElem?_eq_some_iff.1 J).1 (λe=>by
  rcases hS b e (Array.getElem?_eq_some_iff.1 J).1 with ⟨a0,T',f',D,O⟩|⟨_,o,D,O⟩
  ·rw[J]at D;cases D;exact O hT
  rw[J]at D;cases D;cases O)).trans J⟩,hI⟩
theorem rndR {α:Type}{M:Nat}{Kp:World->World->Prop}{S:List Nat}{I O:List α->World->Prop}{Z:List α}{W:World}(hf:Fr S W w)(hS:∀k∈S,k<W.heap.size->(∃cs T f,W.heap[k]?=some (.cells cs T f))\/k<M)(hI:O Z w):EW (ownPostG M Kp I (λc s W=>c=.ret/\O s W) Z W) .ret n ds w L:=
 λ_ _=>⟨⟨hf.size,λk o hk D hc=>(hf.block k (Array.getElem?_eq_some_iff.1 D).1 (λe=>by
  rcases hS k e (Array.getElem?_eq_some_iff.1 D).1 with ⟨cs,T,f,J⟩|J
  ·rw[D]at J;cases J;cases hc
  omega)).trans D⟩,rfl,hI⟩
theorem rndK {α:Type}{D:Nat}{J:World->World->Prop}{I:List α->World->Prop}{O:Code->List α->World->Prop}{M:List α}{W:World}(h1:KeepsFrom D W w)(Z:J W w)(h3:I M w):EW (ownPostG D J I O M W) .normal n ds w L:=λ_ _=>⟨h1,Z,h3⟩
theorem rndX {α:Type}{D:Nat}{O:World->World->Prop}{I J:List α->World->Prop}{M:List α}{W:World}(h1:KeepsFrom D W w)(Z:J M w):EW (ownPostG D O I (λc s W=>c=.ret/\J s W) M W) .ret n ds w L:=λ_ _=>⟨h1,rfl,Z⟩
theorem Turn.of_mark {n0 D:Nat}(hf:Fr [D] w w')(I:DefAt D w)(hn:n0<=D):Turn n0 w w':=⟨some D,⟨hf.os,hf.tape,hf.output,hf.size,λk J hn=>hf.block k J (by simpa using hn)⟩,λr e=>by cases e;exact⟨hn,_,I,rfl⟩⟩
def YKr (r:Option Nat)(P:Program)(n:Nat)(ds:List Nat)(ops:Array Oper)(rest:List Oper)(Q:Exit->Act->World->Prop)(d:Nat)(y:Operand)(xs:List Operand):Act->World->Prop:=λa w=>
  ∃(L:List (Nat×Value)) (vs:List Value) (y1:Nat) (Φ:Value->World->Prop),AgM ds a n L/\ev L y=some (.func (.yield y1) #[] #[])/\evs L xs vs/\YieldAt (Fo r) 0 P y1 vs.toArray w (λe w'=>∃v,e=.returned v/\Φ v w')/\Nat.blt d n=true/\
    ∀v w',Φ v w'->WL P ops (z0q (Q .normal)) rest n ds w' ((d,v)::L)
theorem k0z {id:Nat}{l:List Oper}(k:Nat){d:Nat}{y:Operand}{J:List Operand}{ts:Array TypeId}{ty:TypeId}{pos:String}{after:Array Edge}
    (hl:l=l.take k++⟨some d,.call ⟨.value y,J.toArray,ts⟩,ty,pos,after,none⟩::l.drop (k+1)) (hd1:(l.take k).all Oper.noDefer=true) (hd2:(l.drop (k+1)).all Oper.noDefer=true) (hnf:∀g,y≠.func g)
    (h1:WL P l.toArray (z0q (YKr ro P n ds l.toArray (l.drop (k+1)) Q d y J)) (l.take k) n ds w L):CWi ro N P Q (.region id l.toArray false) n ds w L:=by
  intro a ha
  refine wpIn_region_lit ?_
  have Z:wpListIn (Fo ro) N P l.toArray Q (l.take k++⟨some d,.call ⟨.value y,J.toArray,ts⟩,ty,pos,after,none⟩::l.drop (k+1)) a w:=by
    refine y6o _ ?_ _ a w hd1 (h1 a ha)
    rintro a w ⟨L,vs,y1,Φ,h,hy,hx,⟨fn,tm,D,bd,I,M,O⟩,hn,hk⟩
    have hR:RoundIn (Fo ro) (N-1) P y1 fn tm D bd w (λe w'=>∃v,e=.returned v/\Φ v w'):=⟨M,λc cs _=>O c cs (λd hd=>by cases hd)⟩
    unfold wpListIn
    rw[if_pos (by simp[Region.wanted])]
    refine⟨λ_ _=>trivial,?_⟩
    have e:(Oper.semAt (Fo ro).round a.eval ⟨some d,.call ⟨.value y,J.toArray,ts⟩,ty,pos,after,none⟩).run P w=.ok (.round y1 fn tm D bd) w:=by
      rw[u7g (by rfl)]
      simp only[execOp,resolve,h.eval hy,Deferred.ofValue,Sem.run_bind,Sem.run_pure,Result.andThen_ok,invoke,List.map_toArray,h.evals hx,List.append_toArray]
      simpa using I
    rw[e]
    refine⟨λe=>by simp[Fo,Fence.wide]at e,hR.mono ?_⟩
    rintro e w' ⟨v,rfl,hv⟩
    have:=y6o (r:=ro) (N:=N) (Q:=Q) (ops:=l.toArray) [] (λa w h=>wpListIn_nil h) (l.drop (k+1)) (a.put (some d) v) w' hd2 (hk v w' hv _ (h.put hn v))
    rwa [List.append_nil]at this
  rwa [<-hl]at Z
theorem k2m {d:Nat}{y:Operand}{D:List Operand}{vs:List Value}{I:Nat}{Φ:Value->World->Prop}{ops:Array Oper}{rest:List Oper}(O:ev L y=some (.func (.yield I) #[] #[]))(M:evs L D vs)(J:YieldAt (Fo ro) 0 P I vs.toArray w (λe w'=>∃v,e=.returned v/\Φ v w'))(hn:Nat.blt d n=true)
    (k:∀v w',Φ v w'->WL P ops (z0q (Q .normal)) rest n ds w' ((d,v)::L)) {ops':Array Oper}:WL P ops' (z0q (YKr ro P n ds ops rest Q d y D)) [] n ds w L:=
  λ_ h=>u6c (Q:=λ_=>YKr ro P n ds ops rest Q d y D) ⟨L,vs,I,Φ,h,O,M,J,hn,k⟩
theorem k2b {α:Type}{l m:Nat}{J Jx:List α->World->Prop}{I:α->Array Value}{Kp Kx:World->World->Prop}{Pf:List α->Prop}{M:Nat}{D:List α}{x:α}{vs:List Value}(a0:∀D x O,J D O->D.length<M->Pf (D++[x])->YieldAt (Fo none) m P l (I x) O λe W'=>(e=.returned (.bool true)/\J (D++[x]) W'/\Kp O W')\/(e=.returned (.bool false)/\Jx (D++[x]) W'/\Kx O W'))
    (hJ:J D w) (hM:D.length<M) (hp:Pf (D++[x])) (he:vs.toArray=I x):YieldAt (Fo ro) 0 P l vs.toArray w (λe w'=>∃v,e=.returned v/\(v=.bool true/\J (D++[x]) w'/\Kp w w'\/v=.bool false/\Jx (D++[x]) w'/\Kx w w')):=by
  rw[he]
  obtain⟨fn,tm,Z,bd,h1,h2,h3⟩:=a0 D x w hJ hM hp
  refine⟨fn,tm,Z,bd,h1,h2,λc cs _=>?_⟩
  obtain⟨e,w',hr,hc⟩:=h3 c cs (λd hd=>by cases hd)
  refine⟨e,w',?_,hc⟩
  rcases hr with ⟨rfl,h⟩|⟨rfl,h⟩
  · exact⟨_,rfl,.inl ⟨rfl,h⟩⟩
  · exact⟨_,rfl,.inr ⟨rfl,h⟩⟩
theorem u6l {A B C:Nat}(h1:DefAt A w)(I:DefAt B w)(J:DefAt C w):∀D∈[A,B,C],w.heap[D]?=some (.deferred (some [])):=λD h=>by
 simp only[List.mem_cons,List.not_mem_nil,or_false]at h
 rcases h with rfl|rfl|rfl
 ·exact h1
 ·exact I
 exact J
theorem z8g {fn:Func}{R:Ending->World->Prop}{I:Array Value}{v:Value}:∀(ds:List Nat) (w:World),(∀D∈ds,w.heap[D]?=some (.deferred (some [])))->ds.Nodup->(∀w',Fr ds w w'->(results fn I).run P w'=.ok v w')->
    (∀w',Fr ds w w'->R (.returned v) w')->LeavesInM (Fo none) N P fn I R (ds.map mark) .returning w
  | [],w,_,_,hv,k=>⟨v,hv w (Fr.refl _ _),k w (Fr.refl _ _)⟩
  | D::ds,w,hD,hnd,hv,k=>by
    refine⟨sp0,.inl ⟨D,_,rfl,run_takeDeferred (hD D sp0),?_⟩⟩
    rw[List.nodup_cons]at hnd
    have hf:Fr [D] w (w.putObj D (.deferred none)):=⟨rfl,rfl,rfl,sp0,λk _ Z=>World.putObj_heap_other (by simpa using Z)⟩
    refine z8g ds _ (λO M=>?_) hnd.2 (λw' J=>hv w' (hf.trans J)) (λw' J=>k w' (hf.trans J))
    rw[World.putObj_heap_other (by rintro rfl;exact hnd.1 M)];exact hD O (by simp[M])
variable {R:Ending->World->Prop} {fn:Func} {p pt q g:Nat} {T:TypeId} {cs:List Value} {v z:Value}
theorem u3k {D:Nat}(hb:Blk w g T cs)(I:w.heap[D]?=some (.deferred (some []))):g≠D:=by
 rintro rfl;rw[show w.heap[g]?=_ from hb]at I;cases I
theorem x2n (hb:Blk w g T cs)(I:∀D∈ds,w.heap[D]?=some (.deferred (some [])))(hf:Fr ds w w'):Blk w' g T cs:=hb.fr hf λh=>u3k hb (I g h) U
theorem rM1c (hr:fn.results=#[.cell p pt])(hp:look L p=some (.pointer (some ⟨g,0,none⟩)))(hb:Blk w g T [v])(Z:z2c P pt)(M:∀D∈ds,w.heap[D]?=some (.deferred (some [])))(I:ds.Nodup)(k:∀w',Fr ds w w'->R (.returned v) w'):EW (bodyPostM (Fo none) N P fn R) .ret n ds w L:=λa h=>by
 show LeavesInM _ _ _ _ _ _ a.defers _ _
 rw[h.dfr]
 refine z8g ds w M I (λw' hf=>?_) k
 have J:=h.at_ p _ hp
 simp only[Array.getD_eq_getD_getElem?]at J
 have O:w'.cell? ⟨g,0,none⟩=some v:=(x2n hb M hf).cells 0 v U
 simp[results,hr,J,asAddr,loadVar,Z w',O]
theorem rMCT (hr:fn.results=#[.cell p pt,.tmp q])(hp:look L p=some (.pointer (some ⟨g,0,none⟩)))(hb:Blk w g T cs)(Z:z3q P pt cs.length)(hv:look L q=some v)(O:∀D∈ds,w.heap[D]?=some (.deferred (some [])))(I:ds.Nodup)(k:∀w',Fr ds w w'->R (.returned (.tuple #[.agg cs.toArray,v])) w'):EW (bodyPostM (Fo none) N P fn R) .ret n ds w L:=λa h=>by
 show LeavesInM _ _ _ _ _ _ a.defers _ _
 rw[h.dfr]
 refine z8g ds w O I (λw' hf=>?_) k
 have J:=h.at_ p _ hp
 have M:=h.at_ q _ hv
 simp only[Array.getD_eq_getD_getElem?]at J M
 simp[results,hr,J,M,asAddr,loadVar,Z.1 w',Z.2 w',run_loadCells_list w' _ cs (x2n hb O hf).cells]
end
end Go.Lw
namespace Go.G08
open Go.Lw Go.G21
def bdE (q:BdQ)(x:Bool):Array Value:=#[.int .u8 (if x then 1 else 0),slv (if x then q.b else q.f)]
abbrev BdQ.h (q:BdQ)(x:Bool):SV:=if x then q.b else q.f
abbrev BdQ.r (q:BdQ)(x:Bool):List IQ:=if x then q.bs else q.fs
abbrev y3t (x:Bool):Int:=if x then 1 else 0
def ndE (q:BdQ)(x:Bool×Nat):Array Value:=#[.agg #[.int .u8 (y3t x.1),.int .i64 ((x.2:Int)+1)],slv ((q.r x.1).getD x.2 iq0).1]
def ndR (q:BdQ)(x:Bool)(i:Nat):List (Bool×Nat):=(List.range i).map λk=>(x,k)
def ndP (q:BdQ)(l:List Bool):List (Bool×Nat):=l.flatMap λx=>ndR q x (q.r x).length
theorem x9t (q:BdQ)(x:Bool)(i:Nat):ndR q x (i+1)=ndR q x i++[(x,i)]:=by unfold ndR;rw[List.range_succ,List.map_append];rfl
theorem v6m (q:BdQ)(x:Bool)(i:Nat):(ndR q x i).length=i:=by simp[ndR]
theorem u3e (q:BdQ)(l:List Bool)(x:Bool):ndP q (l++[x])=ndP q l++ndR q x (q.r x).length:=by unfold ndP;simp
theorem v3y (q:BdQ)(hf:q.fs.length<=40)(hb:q.bs.length<=40):∀l:List Bool,(ndP q l).length<=40*l.length
 | []=>by simp[ndP]
 | x::l=>by
  have D:=v3y q hf hb l
  have:(q.r x).length<=40:=by cases x<;>assumption
  have e:ndP q (x::l)=ndR q x (q.r x).length++ndP q l:=rfl
  rw[e,List.length_append,v6m,List.length_cons];omega
theorem j5p {q:BdQ}{l:List Bool}{x:Bool}{i:Nat}(h:l++[x] <+: [false,true])(J:i<(q.r x).length):(ndP q l++ndR q x i)++[(x,i)] <+: ndP q [false,true]:=by
 obtain⟨r,I⟩:=h;have e:ndP q [false,true]=ndP q l++(ndR q x (q.r x).length++ndP q r):=by
  rw[<-I];unfold ndP;simp[List.flatMap_append]
 have D:ndR q x (q.r x).length=ndR q x (i+1)++((List.range' (i+1) ((q.r x).length-(i+1))).map λk=>(x,k)):=by
  unfold ndR;rw[<-List.map_append,List.range_eq_range',List.range_eq_range'];congr 1;have:=List.range'_append (s:=0) (m:=i+1) (n:=(q.r x).length-(i+1)) (step:=1);rw[show i+1+((q.r x).length-(i+1))=(q.r x).length by omega]at this;simpa using this.symm
 rw[e,D,x9t,List.append_assoc,List.append_assoc,List.append_assoc];exact List.prefix_append_right_inj _ |>.2 sp0
def bdB (q:BdQ):List Nat:=slB q.fs.length (slv q.f)++slB q.bs.length (slv q.b)
structure BdS (w:World) (q:BdQ):Prop where
  f:Sl z7b w (slv q.f) q.fs
  b:Sl z7b w (slv q.b) q.bs
theorem BdAt.s {w:World}{q:BdQ}(h:BdAt w q):BdS w q:=⟨h.f,h.b⟩
theorem BdS.ext {w w':World}{q:BdQ}(h:BdS w q)(hf:Fr [] w w'):BdS w' q:=⟨h.f.ext hf,h.b.ext hf⟩
theorem BdS.turn {n:Nat}{w w':World}{q:BdQ}(h:BdS w q)(D:Turn n w w'):BdS w' q:=⟨h.f.turn D,h.b.turn D⟩
theorem BdS.keep {M:List Nat}{n:Nat}{w w':World}{q:BdQ}(h:BdS w q)(J:KeepN M (bdB q) n w w'):BdS w' q:=
 ⟨h.f.keep J.1.1 λD k I=>List.mem_append_left _ (u6p D k I),h.b.keep J.1.1 λD k I=>List.mem_append_right _ (u6p D k I)⟩
theorem BdS.lt {w:World}{q:BdQ}(h:BdS w q):∀b∈bdB q,b<w.heap.size:=λb D=>(List.mem_append.1 D).elim (u7q h.f b) (u7q h.b b)
theorem BdS.sel {w:World}{q:BdQ}(h:BdS w q)(x:Bool):Sl z7b w (slv (q.h x)) (q.r x):=by
 cases x;exact h.f;exact h.b
theorem BdS.len {w:World}{q:BdQ}(h:BdS w q)(x:Bool):(q.h x).2.1=(q.r x).length:=z1z (h.sel x)
def ndN (q:BdQ)(s:List (Bool×Nat)):Nat:=(s.map λx=>((q.r x.1).getD x.2 iq0).2.length).sum
theorem u5f (q:BdQ)(s:List (Bool×Nat))(x:Bool×Nat):ndN q (s++[x])=ndN q s+((q.r x.1).getD x.2 iq0).2.length:=by
 unfold ndN;rw[List.map_append,List.sum_append];simp
theorem u7s (q:BdQ)(hf:y0b q.fs)(hb:y0b q.bs):∀s:List (Bool×Nat),ndN q s<=4*s.length
 | []=>by simp[ndN]
 | x::s=>by
  have D:=u7s q hf hb s
  have:((q.r x.1).getD x.2 iq0).2.length<=4:=by
   cases x.1
   ·exact z3o hf _
   exact z3o hb _
  unfold ndN at *
  simp only[List.map_cons,List.sum_cons,List.length_cons];omega
theorem x5s:∀(l:List IQ),((List.range l.length).map λk=>(l.getD k iq0).2.length).sum=(plB l).flatten.length
 | []=>rfl
 | x::l=>by
  have D:=x5s l
  rw[List.length_cons,List.range_succ_eq_map,List.map_cons,List.map_map,List.sum_cons,plB,List.map_cons,List.flatten_cons,List.length_append,<-D]
  rfl
theorem j1p (q:BdQ):ndN q (ndP q [false,true])=q.p.flat.length:=by
 have e:ndP q [false,true]=ndR q false q.fs.length++ndR q true q.bs.length:=by unfold ndP;simp;rfl
 rw[e];unfold ndN ndR;rw[List.map_append,List.sum_append,List.map_map,List.map_map];have D:=x5s q.fs;have I:=x5s q.bs;unfold Bd.flat;rw[List.length_append,<-D,<-I];rfl
def x4l (q:BdQ)(x:Bool)(i:Nat):List LId:=(plB ((q.r x).take i)).flatten
theorem x3v (q:BdQ)(x:Bool){i:Nat}(h:i<(q.r x).length):x4l q x (i+1)=x4l q x i++((q.r x).getD i iq0).2:=by
 unfold x4l plB;rw[List.take_add_one,List.getElem?_eq_getElem h,List.map_append,List.flatten_append,List.getD,List.getElem?_eq_getElem h];simp
theorem u4k (q:BdQ)(x:Bool):x4l q x (q.r x).length=(plB (q.r x)).flatten:=by unfold x4l;rw[List.take_length]
def y5y (q:BdQ)(l:List Bool):List LId:=l.flatMap λx=>(plB (q.r x)).flatten
theorem v9e (q:BdQ)(l:List Bool)(x:Bool):y5y q (l++[x])=y5y q l++(plB (q.r x)).flatten:=by unfold y5y;simp
theorem BdAt.iq {w:World}{q:BdQ}(h:BdAt w q)(x:Bool):IqAt w (q.r x):=by cases x;exact h.fi;exact h.bi
theorem x8e (q:BdQ):y5y q [false,true]=q.p.flat:=by unfold y5y Bd.flat;simp;rfl
theorem j7a {q:BdQ}{l:List Bool}{x:Bool}{i j:Nat}(h:l++[x] <+: [false,true])(O:i<(q.r x).length)(D:j<((q.r x).getD i iq0).2.length):(y5y q l++x4l q x i++((q.r x).getD i iq0).2.take j)++[((q.r x).getD i iq0).2.getD j id0] <+: q.p.flat:=by
 obtain⟨r,Z⟩:=h
 have e:q.p.flat=y5y q l++(x4l q x i++(((q.r x).getD i iq0).2++((plB ((q.r x).drop (i+1))).flatten++y5y q r))):=by
  rw[<-x8e,<-Z]
  have I:y5y q (l++[x]++r)=y5y q l++((plB (q.r x)).flatten++y5y q r):=by unfold y5y;simp[List.flatMap_append]
  have J:(plB (q.r x)).flatten=x4l q x (i+1)++(plB ((q.r x).drop (i+1))).flatten:=by
   unfold x4l plB
   rw[<-List.flatten_append,<-List.map_append,List.take_append_drop]
  rw[I,J,x3v q x O];simp
 have M:((q.r x).getD i iq0).2=((q.r x).getD i iq0).2.take j++[((q.r x).getD i iq0).2.getD j id0]++((q.r x).getD i iq0).2.drop (j+1):=by
  generalize ((q.r x).getD i iq0).2=s at D
  conv=>lhs;rw[<-List.take_append_drop (j+1) s]
  rw[List.take_add_one,List.getD,List.getElem?_eq_getElem D];simp
 rw[e]
 refine⟨((q.r x).getD i iq0).2.drop (j+1)++((plB ((q.r x).drop (i+1))).flatten++y5y q r),?_⟩
 conv=>rhs;rw[M]
 simp
theorem j3x {q:BdQ}{l:List Bool}{x:Bool}{i j:Nat}(O:q.p.flat.Nodup)(h:l++[x] <+: [false,true])(D:i<(q.r x).length)(I:j<((q.r x).getD i iq0).2.length):((q.r x).getD i iq0).2.getD j id0∉y5y q l++x4l q x i++((q.r x).getD i iq0).2.take j:=λJ=>by
 have M:((y5y q l++x4l q x i++((q.r x).getD i iq0).2.take j)++[((q.r x).getD i iq0).2.getD j id0]).Nodup:=List.Nodup.sublist (j7a h D I).sublist O
 exact(List.nodup_append.1 M).2.2 _ J _ (List.mem_singleton.2 U) U
theorem z1s {α:Type}{l:List α}{j:Nat}(d:α)(h:j<l.length):l.take (j+1)=l.take j++[l.getD j d]:=by
 rw[List.take_add_one,List.getD,List.getElem?_eq_getElem h];rfl
theorem v2g {q:BdQ}(J:BdW q.p)(x:Bool){i j:Nat}(D:i<(q.r x).length)(I:j<((q.r x).getD i iq0).2.length):z5d (((q.r x).getD i iq0).2.getD j id0):=by
 refine J.nm _ ?_;unfold Bd.flat;have:((q.r x).getD i iq0).2.getD j id0∈(plB (q.r x)).flatten:=List.mem_flatten.2 ⟨_,List.mem_map_of_mem (z0z D),z0z I⟩;cases x;exact List.mem_append_left _ this;exact List.mem_append_right _ this
theorem v5z {q:BdQ}(D:BdW q.p):(q.fs.length<=40/\q.bs.length<=40)/\y0b q.fs/\y0b q.bs:=by
 refine⟨⟨by simpa using D.lf,by simpa using D.lb⟩,λs I=>D.ss _ (List.mem_append_left _ (List.mem_map_of_mem I)),λs I=>D.ss _ (List.mem_append_right _ (List.mem_map_of_mem I))⟩
theorem z3w {q:BdQ}(D:BdOk q.p):(q.fs.length<=40/\q.bs.length<=40)/\y0b q.fs/\y0b q.bs:=v5z D.w
def oth (q:BdQ)(b n:Int)(x:Bool×Nat):List LId:=if (y3t x.1,(x.2:Int)+1)=(b,n) then [] else ((q.r x.1).getD x.2 iq0).2
def x6n (q:BdQ)(b n:Int)(s:List (Bool×Nat)):List LId:=s.flatMap (oth q b n)
theorem x3i (q:BdQ)(b n:Int)(s:List (Bool×Nat))(x:Bool×Nat):x6n q b n (s++[x])=x6n q b n s++oth q b n x:=by unfold x6n;simp
theorem y9f:∀(l:List IQ) (m:Nat) (i:LId),((List.range l.length).flatMap λk=>if k=m then [] else (l.getD k iq0).2).count i+(l.getD m iq0).2.count i=(plB l).flatten.count i
 | [],m,i=>by simp[iq0]
 | x::l,m,i=>by
  rw[List.length_cons,List.range_succ_eq_map,List.flatMap_cons,List.count_append,List.flatMap_map]
  have e:(plB (x::l)).flatten=x.2++(plB l).flatten:=rfl
  rw[e,List.count_append]
  cases m with
  | zero=>
   have h:((List.range l.length).flatMap λk=>if k+1=0 then [] else ((x::l).getD (k+1) iq0).2)=(plB l).flatten:=by
    have:=y9f l l.length i
    simp only[Nat.succ_ne_zero,if_false]
    unfold plB
    clear this
    have I:l.map Prod.snd=(List.range l.length).map λk=>(l.getD k iq0).2:=by
     apply List.ext_getElem sp0
     intro j D J
     simp only[List.length_map]at D
     simp[List.getD,List.getElem?_eq_getElem D]
    rw[I,List.flatMap_def];rfl
   rw[h];simp;omega
  | succ m=>
   have M:=y9f l m i
   have h:((List.range l.length).flatMap λk=>if k+1=m+1 then [] else ((x::l).getD (k+1) iq0).2)=((List.range l.length).flatMap λk=>if k=m then [] else (l.getD k iq0).2):=by
    congr 1
    funext k
    simp
   rw[h]
   simp only[Nat.zero_ne_add_one,if_false,List.getD_cons_succ,List.getD_cons_zero]
   omega
theorem v4i (q:BdQ)(x:Bool)(b n:Int)(hn:1<=n):x6n q b n (ndR q x (q.r x).length)=if y3t x=b then ((List.range (q.r x).length).flatMap λk=>if k=(n-1).toNat then [] else ((q.r x).getD k iq0).2) else (plB (q.r x)).flatten:=by
 unfold x6n ndR;rw[List.flatMap_map];unfold oth;simp only[Prod.mk.injEq];by_cases h:y3t x=b;rw[if_pos h];congr 1;funext k;simp only[h,true_and];by_cases e:(k:Int)+1=n;rw[if_pos e,if_pos oo];rw[if_neg e,if_neg oo];rw[if_neg h];simp only[h,false_and,if_false];have I:plB (q.r x)=(List.range (q.r x).length).map λk=>((q.r x).getD k iq0).2:=by
  unfold plB;apply List.ext_getElem sp0;intro j D J;simp only[List.length_map]at D;simp[List.getD,List.getElem?_eq_getElem D]
 rw[I,List.flatMap_def]
theorem j0s (q:BdQ){b n:Int}(h:z2v b n=0)(i:LId):(x6n q b n (ndP q [false,true])).count i+(q.p.at b n).count i=q.p.flat.count i:=by
 obtain⟨J,D,O⟩:=z2o h;have e:ndP q [false,true]=ndR q false (q.r false).length++ndR q true (q.r true).length:=by unfold ndP;simp
 have I:x6n q b n (ndP q [false,true])=x6n q b n (ndR q false (q.r false).length)++x6n q b n (ndR q true (q.r true).length):=by rw[e];unfold x6n;simp
 rw[I,v4i q false b n D,v4i q true b n D,List.count_append];have r1:((List.range (q.r false).length).flatMap λk=>if k=(n-1).toNat then [] else ((q.r false).getD k iq0).2).count i+((q.fs).getD (n-1).toNat iq0).2.count i=(plB (q.r false)).flatten.count i:=y9f q.fs (n-1).toNat i;have r2:((List.range (q.r true).length).flatMap λk=>if k=(n-1).toNat then [] else ((q.r true).getD k iq0).2).count i+((q.bs).getD (n-1).toNat iq0).2.count i=(plB (q.r true)).flatten.count i:=y9f q.bs (n-1).toNat i;have hfl:q.p.flat.count i=(plB (q.r false)).flatten.count i+(plB (q.r true)).flatten.count i:=by unfold Bd.flat;rw[List.count_append];rfl
 have M:q.p.at b n=if b=0 then (q.fs.getD (n-1).toNat iq0).2 else (q.bs.getD (n-1).toNat iq0).2:=by unfold Bd.at atB;rw[z4g,z4g]
 rw[hfl,M];rcases J with rfl|rfl
 rw[if_pos (show y3t false=0 from U),if_neg (show ¬y3t true=0 by decide),if_pos U];omega;rw[if_neg (show ¬y3t false=1 by decide),if_pos (show y3t true=1 from U),if_neg dd];omega
theorem j2s {q:BdQ}{b n:Int}{l:List LId}{j:Nat}(h:z2v b n=0)(I:∀i,q.p.flat.count i+l.count i<=(q.p.at b n).count i+1)(J:j<l.length):l.getD j id0∉x6n q b n (ndP q [false,true])++l.take j:=λM=>by
 have O:=j0s q h (l.getD j id0)
 have Z:=I (l.getD j id0)
 have h3:l.count (l.getD j id0)=(l.take j).count (l.getD j id0)+1+(l.drop (j+1)).count (l.getD j id0):=by
  have e:l=l.take j++[l.getD j id0]++l.drop (j+1):=by rw[<-z1s id0 J,List.take_append_drop]
  generalize l.getD j id0=y at e ⊢
  conv=>lhs;rw[e]
  rw[List.count_append,List.count_append,List.count_singleton];simp
 have D:=List.count_pos_iff.2 M
 rw[List.count_append]at D
 omega
theorem BdO.fr {S I base:Nat}{w w':World}{q:BdQ}{T:List Nat}(h:BdO S I base w q)(hf:Fr T w w')(D:∀k∈T,k<base):BdO S I base w' q:=⟨h.f.fr hf D,h.b.fr hf D⟩
theorem y1n {B:Bd}{b n:Int}(h:z2v b n=0):B.atC b n=B.at b n:=if_pos h
def bdq0:BdQ:=⟨sv0,sv0,[],[]⟩
def y2y (B:Bd)(b n m:Int):List LId:=if b=1 then B.at b n++B.at (1-b) m else B.at (1-b) m++B.at b n
theorem v7u (B:Bd)(b n m:Int):(y2y B b n m).length=(B.at b n).length+(B.at (1-b) m).length:=by
 unfold y2y;split<;>rw[List.length_append];omega
theorem v1j {B:Bd}(h:BdOk B){b n:Int}(hn:z2v b n=0):BdOk (B.put b n []):=h.put hn (Nat.zero_le _) (λi D=>by cases D) (λi=>by
 have I:=List.nodup_iff_count.1 h.nd i
 simp only[List.count_nil];omega)
end Go.G08
namespace Go.Lw
open Go.RowKit
section
variable {κ:Type} [DecidableEq κ] {V:κ->Value} {P:Program} {K:TypeId}
variable {a:Act} {n:Nat} {L:List (Nat×Value)} {ds:List Nat} {w w':World} {Q:Exit->Act->World->Prop} {ops:Array Oper} {rest:List Oper}
variable {d:Nat} {ty:TypeId} {pos:String} {after:Array Edge} {x y z' r:Operand} {t E:TypeId}
theorem z4l (V:κ->Value){k:IntKind}{i:Int}(h:AgM ds a n L)(hr:ev L r=some (.int k i))(D:P.underlying t=some (.map K E))(hn:Nat.blt d n=true)
    (q:∀g w',g=w.heap.size->MapF V w' g (λ_=>none)->Fr [] w w'->w'.heap.size=g+1->∀a,AgM ds a n ((d,.map (some g))::L)->wpList P ops Q rest a w'):wpList P ops Q (⟨some d,.makeMap t (some r),ty,pos,after,none⟩::rest) a w:=
  z2a h U hn (w':=w.alloc (.map #[] 0)) (by simp[execOp,Instr.makeMap,h.eval hr,run_underlying D,asInt,asIntOf]) (q _ _ U ⟨_,_,[],heap_alloc_new w _,sp0,λ_=>rfl⟩ (Fr.alloc [] w _) sp0)
theorem v1u (V:κ->Value){k:IntKind}{i:Int}(hr:ev L r=some (.int k i))(D:P.underlying t=some (.map K E))(hn:Nat.blt d n=true)(q:∀g w',g=w.heap.size->MapF V w' g (λ_=>none)->Fr [] w w'->w'.heap.size=g+1->WL P ops Q rest n ds w' ((d,.map (some g))::L)):WL P ops Q (⟨some d,.makeMap t (some r),ty,pos,after,none⟩::rest) n ds w L:=λa h=>z4l V h hr D hn q
def z6l (l:List κ)(k:κ):Option Value:=if k∈l then some (.bool true) else none
theorem x0b:z6l ([]:List κ)=λ_=>none:=by funext k;simp[z6l]
theorem y4v (l:List κ)(k:κ):(λk'=>if k'=k then some (Value.bool true) else z6l l k')=z6l (l++[k]):=by
 funext k';unfold z6l;by_cases h:k'=k;subst h;simp;simp[h]
theorem x1g (l:List κ)(k:κ):(z6l l k).getD (.bool false)=.bool (decide (k∈l)):=by
 unfold z6l;by_cases h:k∈l;rw[if_pos h,decide_eq_true h];rfl;rw[if_neg h,decide_eq_false h];rfl
theorem MapF.turn {g n0:Nat}{f:κ->Option Value}(h:MapF V w g f)(O:Turn n0 w w')(M:g<n0):MapF V w' g f:=by
 obtain⟨D,c,m,I,J⟩:=h;exact⟨D,c,m,O.at I (.inr M),J⟩
theorem MapF.noncells {g:Nat}{f:κ->Option Value}(h:MapF V w g f):v0b w g:=let ⟨_,_,_,h1,_⟩:=h;⟨_,h1,rfl⟩
end
end Go.Lw
namespace Go.Proofs.YtjilcnmaefhmeaaGreatDoor
open Go.Lw Go.G21 Go.G08 _root_.Go.Proofs.Tryz
theorem y9o (q:BdQ)(w0:World):Rets prog 109 #[.agg #[.slice q.f.1 q.f.2.1 q.f.2.2,.slice q.b.1 q.b.2.1 q.b.2.2]] w0 λr w'=>∃g,r=.func (.func 155) #[] #[.pointer (some ⟨g,0,none⟩)]/\w0.heap.size<=g/\Blk w' g 50 (bdL q)/\Fr [] w0 w':=by
 exact we [(0,.agg #[.slice q.f.1 q.f.2.1 q.f.2.2,.slice q.b.1 q.b.2.1 q.b.2.2])] func109 U ntmps109 U (.cons U .nil) (sr (bx U (λI w1 J D M z1=>(asg U (nn (sr (z9x z0f (ev1 U) U (asg U (nn (rt (r1 results109 U ⟨_,rfl,I,rfl,oo,D,M⟩)))))))))))
theorem y8d (q:BdQ)(w0:World):Rets prog 156 #[.agg #[.slice q.f.1 q.f.2.1 q.f.2.2,.slice q.b.1 q.b.2.1 q.b.2.2]] w0 λr w'=>∃g,r=.func (.func 219) #[] #[.pointer (some ⟨g,0,none⟩)]/\w0.heap.size<=g/\Blk w' g 50 (bdL q)/\Fr [] w0 w':=by
 exact we [(0,.agg #[.slice q.f.1 q.f.2.1 q.f.2.2,.slice q.b.1 q.b.2.1 q.b.2.2])] func156 U ntmps156 U (.cons U .nil) (sr (bx U (λI w1 J D M z1=>(asg U (nn (sr (z9x z0f (ev1 U) U (asg U (nn (rt (r1 results156 U ⟨_,rfl,I,rfl,oo,D,M⟩)))))))))))
theorem y4t (N gD:Nat)(q:BdQ)(wS:World)(a3:Blk wS gD 50 (bdL q)):j8f N prog 155 #[.pointer (some ⟨gD,0,none⟩)] (bdE q) (KeepN [] [gD] (wS.heap.size+2)) (λxs:List Bool=>xs=[false,true]) (λ_=>True) (λs=>s <+: [false,true]) 2 wS:=by
 intro ly J Jx w0 O hz0 a5 a4 Z a0;have M:=a3.ext (Fr.of_below' O (Nat.le_refl _));refine weI [(0,.func (.yield ly) #[] #[]),(1,.pointer (some ⟨gD,0,none⟩))] func155 U ntmps155 U (.c2 U U) (isq (k0z 3 U U U (by intro g e;cases e) (mv U U (fad U y8h (z0i U M U v0x (k2m U (ev2 U) (k2b (Pf:=λs=>s <+: [false,true]) (x:=false) Z a0 dd sp0 (by rfl)) U ?_))))));rintro _ w1 (⟨rfl,D,a1⟩|⟨rfl,D,_⟩);have a2:=M.keep a1.1.1 (List.mem_singleton.2 U);refine inl (itn (ict U (k0z 3 U U U (by intro g e;cases e) (mv U U (fad U y3x (z0i U a2 U v0x (k2m U (ev2 U) (k2b (Pf:=λs=>s <+: [false,true]) (x:=true) Z D dd sp0 (by rfl)) U ?_)))))));rintro _ w2 (⟨rfl,I,_⟩|⟨rfl,I,_⟩);exact kpL [] .nil (inl (r0n results155 (⟨⟨_,rfl⟩,.inl ⟨[false,true],rfl,I⟩⟩)));exact kpL [] .nil (inl (r0n results155 (⟨⟨_,rfl⟩,.inr ⟨_,trivial,I⟩⟩)));exact inl (itn (icf U (isk (r0n results155 (⟨⟨_,rfl⟩,.inr ⟨_,trivial,D⟩⟩)))))
theorem k3c:z2c prog 315:=λ_=>kr
theorem y5s (N gD:Nat)(q:BdQ)(wS:World)(hN:1<=N)(b9:Blk wS gD 50 (bdL q))(hS:BdS wS q)(hf:q.fs.length<=40)(hb:q.bs.length<=40):j8f N prog 219 #[.pointer (some ⟨gD,0,none⟩)] (ndE q) (KeepN [315,50] (bdB q) (wS.heap.size+2)) (λxs:List (Bool×Nat)=>xs=ndP q [false,true]) (λ_=>True) (λs=>s <+: ndP q [false,true]) 81 wS:=by
 intro ly J Jx w0 b0 hz0 a3 a1 d0 b4;have hF:Fr [] wS w0:=Fr.of_below' b0 (Nat.le_refl _);refine weIM [(0,.func (.yield ly) #[] #[]),(1,.pointer (some ⟨gD,0,none⟩))] func219 U ntmps219 U (.c2 U U) (isq (irg U (bx U (λg2 w1 d4 a0 q1 z1=>(inl (itn (isq (irg U ?_))))))));have b8:=(b9.ext hF).ext q1;refine z0n U b8 z4w (cl (ev1 U) (mkC func109) (y9o q _) U ?_);rintro _ w2 ⟨g8,rfl,d5,a6,q2⟩;refine inl (itn (ibl ?_));replace a0:=a0.ext q2;have b7:=hS.ext (hF.next (q1.n1 q2));have d3:=a0.lt;have b3:=a6.lt;have b5:=a3 _ _ _ (Turn.of_fr (q1.n1 q2)) b4;refine x4u [(2,_),(8,_)] (.c2 U U) ?_;refine v9q (α:=Bool) U (mkC func155) hN (y4t (N-1) g8 q w2 a6) (λb hb=>by rw[List.mem_singleton.1 hb];exact b3) (λ_=>rfl)
  (λx=>[(10,slv (q.h x)),(9,.int .u8 (y3t x))]) (λx=>by simp[bdE,y3t]) (λx=>rfl)
  (λs W=>J (ndP q s) W/\Blk W g2 315 [.func (.yield ly) #[] #[]]/\Blk W g8 50 (bdL q)/\BdS W q/\w2.heap.size<=W.heap.size) (λ_ W=>∃M,Jx M W)
  (λs W W' ht h=>⟨a3 _ _ _ (ht.low oo) h.1,h.2.1.turn ht,h.2.2.1.turn ht,h.2.2.2.1.turn ht,let ⟨_,hg,_⟩:=ht;Nat.le_trans h.2.2.2.2 hg.size⟩) (λs W W' ht h=>let ⟨p,hp⟩:=h;⟨p,a1 _ _ _ (ht.low oo) hp⟩)
  ⟨b5,a0,a6,b7,Nat.le_refl _⟩ (λx=>[(4,slv (q.h x)),(3,.int .u8 (y3t x))]) [(2,.pointer (some ⟨g2,0,none⟩))] (.cons U .nil) ?_ ?_ ?_ ?_
 intro lN M x w3 hi;exact x4u [(9,_),(10,_),(2,_)] (.c3 U U U) (isq (irg U (asg U (inl (itn (irg U (asg U (inl (asU (.c3 U U U))))))))));rintro lN M x w3 d7 ⟨b6,a9,Z,a8,d1⟩ d9 c9;have e0:=v3y q hf hb M;have e1:(q.r x).length<=40:=by cases x<;>assumption
 have d6:=a8.len x;refine ibl (isq (irg U (mv U U (lnS U underlying48 (mv U U (inl (itn (ibl (u2k (ι:=Nat) [(2,_),(3,_),(11,_),(12,_)] (λi=>[(13,.int .i64 (i:Int))]) (λi w'=>J (ndP q M++ndR q x i) w'/\i<=(q.r x).length/\KeepN [315,50] (bdB q) w2.heap.size w3 w') (λi=>(q.r x).length-i) 0 (.c5 U U U U U) ⟨by simpa[ndR] using b6,Nat.zero_le _,KeepN.refl⟩ ?_)))))))));rintro i w4 ⟨a7,hi,I⟩;have a2:=a9.keepT I.1 dd;have a5:=a8.keep I;refine x4u [(2,_),(3,_),(11,_),(12,_),(13,.int .i64 (i:Int))] (.c5 U U U U U) (isq (irg U (lt' U (inl (itn (isq (icd U (λc0=>?_) (λc0=>?_))))))));refine isk (itn (isq (ibl (isq (irg U (mv U U (z1d (p:=i) (iq0) U (a5.sel x) U y6z oo (λad hc=>(z1k U (hc _ (a5.sel x)) z8o (asg U (asg U (inl (itn (isq (isq (irg U (mv U U (ge' U U (inl (itn (icd U (λc1=>absurd c1 oo) (λc1=>(isk (itn (isq (k0z 6 U U U (by intro g e;cases e) (z4j U a2 k3c (mv U U (mv U U (z1b U (wi6 oo) (z1y (cs:=[_,_]) (ev2 U) x1i (z0g U (z0g U z0s)) U ?_)))))))))))))))))))))))))))))));refine mv U U (k2m U (ev2 U) (k2b (Pf:=λs=>s <+: ndP q [false,true]) (x:=(x,i)) d0 a7 (by rw[List.length_append,v6m];omega) (j5p c9 oo) (by rfl)) U ?_);rintro _ w5 (⟨rfl,O,a4⟩|⟨rfl,O,a4⟩);exact nt' U (inl (itn (icf U (isk (bn' (itn (irg U (z1b U (wi6 oo) (mv U U (inl (u3t (i+1) (.c5 U U U U U) ⟨by rw[x9t,<-List.append_assoc];exact O,oo,I.trans (a4.low oo)⟩ oo)))))))))));exact nt' U (inl (itn (ict U (irt (rb (tr (tr (rb (rb (rndX (I.2.trans (KeepsFrom.low a4 oo)) ⟨_,O⟩))))))))));obtain rfl:i=(q.r x).length:=by omega
 exact iex (te (te (xh (bn' (rndK I.2 ⟨λb hb=>by rw[List.mem_singleton.1 hb];exact(show w4.heap[g8]?=_ from Z.keepT I.1 dd).trans (show w3.heap[g8]?=_ from Z).symm,λ_ _ _ _ h=>by cases h⟩ ⟨by rw[u3e];exact a7,a2,Z.keepT I.1 dd,a5,Nat.le_trans d1 I.2.size⟩)))));rintro D xs W hD rfl ⟨O,_⟩ hm;refine bn' (rM0n results219 (v1a hm) sp0 ?_);intro w6 q6;exact⟨⟨_,rfl⟩,.inl ⟨_,rfl,a3 _ _ _ (Turn.of_mark q6 hm oo) O⟩⟩;rintro D M W hD _ ⟨p,hp⟩ hm;refine rb (rM0 results219 (v1a hm) sp0 ?_);intro w6 q6;exact⟨⟨_,rfl⟩,.inr ⟨_,trivial,a1 _ _ _ (Turn.of_mark q6 hm oo) hp⟩⟩
theorem x4o (q:BdQ)(w0:World)(hB:BdAt w0 q)(hf:q.fs.length<=40)(hb:q.bs.length<=40)(h4:y0b q.fs)(a6:y0b q.bs):Rets prog 110 #[.agg #[.slice q.f.1 q.f.2.1 q.f.2.2,.slice q.b.1 q.b.2.1 q.b.2.2]] w0 λr w'=>r=.int .i64 (q.p.flat.length:Int)/\Fr [] w0 w':=by
 refine weM [(0,.agg #[.slice q.f.1 q.f.2.1 q.f.2.2,.slice q.b.1 q.b.2.1 q.b.2.2])] func110 U ntmps110 U (.cons U .nil) ?_;have J:=hB;refine isq (irg U (bx U (λg1 w1 b3 O q1 z1=>(asg U (inl (itn (isq (irg U (al zv3 U (λZ w2 b4 D q2 z2=>(z5u U U D U sz3 (λw3 D q3 z3=>(inl (itn (isq (isq (irg U ?_)))))))))))))))));replace O:=(O.ext q2).fr q3;refine z0n U O z4w (cl (ev1 U) (mkC func156) (y8d q _) U ?_);rintro _ w4 ⟨g7,rfl,a9,a2,q4⟩;have z4:=q4.size;refine inl (itn (ibl ?_));have a0:∀b∈bdB q,b<w0.heap.size:=BdS.lt J.s;replace D:=D.ext q4;replace hB:=J.ext (q1.z3 q2 q3 q4);refine v9q (α:=Bool×Nat) U (mkC func219) dd (y5s 8 g7 q w4 dd a2 hB.s hf hb) (BdS.lt hB.s) (λ_=>rfl) (λx=>[(9,.slice ((q.r x.1).getD x.2 iq0).1.1 ((q.r x.1).getD x.2 iq0).1.2.1 ((q.r x.1).getD x.2 iq0).1.2.2),(8,.agg #[.int .u8 (y3t x.1),.int .i64 ((x.2:Int)+1)])]) (λx=>by simp[ndE,slv]) (λ_=>rfl) (λ(s:List (Bool×Nat)) (W:World)=>Fr [Z] w4 W/\Blk W Z 3 [.int .i64 (ndN q s:Int)]/\s.length<=81) (λ_ _=>False) (λs W W' ht h=>⟨h.1.turn ht (Nat.le_refl _),h.2.1.turn ht,h.2.2⟩) (λ_ _ _ _ h=>h.elim) ⟨Fr.refl _ _,D,Nat.zero_le _⟩ (λx=>[(5,.slice ((q.r x.1).getD x.2 iq0).1.1 ((q.r x.1).getD x.2 iq0).1.2.1 ((q.r x.1).getD x.2 iq0).1.2.2)]) [(3,_)] (.cons U .nil) ?_ ?_ ?_ (λ_ _ _ _ _ h _=>h.elim);rintro lN a5 x w5 ⟨q5,D,a3⟩;exact x4u [(8,.agg #[.int .u8 (y3t x.1),.int .i64 ((x.2:Int)+1)]),(9,.slice ((q.r x.1).getD x.2 iq0).1.1 ((q.r x.1).getD x.2 iq0).1.2.1 ((q.r x.1).getD x.2 iq0).1.2.2),(3,_)] (.c3 U U U) (irg U (asg U (inl (asU (.c2 U U)))));rintro lN a5 x w6 b5 ⟨q6,D,a3⟩ b6 b8;have z6:=q6.size;have M:=D.lt;have a1:=D;have b7:=u7s q h4 a6 a5;have b9:=z3o (show y0b (q.r x.1) by cases x.1<;>assumption) x.2;have a8:((q.r x.1).getD x.2 iq0).1.2.1=((q.r x.1).getD x.2 iq0).2.length:=z1z (z2f (show IqAt w0 (q.r x.1) by cases x.1;exact J.fi;exact J.bi) x.2);exact ibl (irg U (z4j U D na3 (mv U U (lnS U underlying27 (z1b U (wi6 oo) (z5u U U D U sz3 (λw7 D q7 z7=>(kpL [] .nil (inl (bn' (j5k (S:=[Z]) ((Fr.refl [Z] _).z1 q7) (λk hk _=>by cases List.mem_singleton.1 hk;exact .inl (a1.tyC dd)) (λb hb=>Nat.lt_of_lt_of_le (a0 b hb) oo) (λb hb e=>by simp at e;have:=a0 b hb;omega) ⟨((Fr.refl [Z] _).z2 q6 q7),by rw[u5f,<-a8];exact D,by rw[List.length_append];simp;omega⟩)))))))))));rintro D1 c0 w8 b0 hS ⟨q8,D,a3⟩ I;have z8:=q8.size;have a7:=I;have a4:=I.lt;have M:=D.lt;subst hS;rw[j1p]at D;refine bn' (itn (isq (irg U (z4j U D na3 (asg U (inl (itn (irt (rM1 results110 U (v1a I) sp0 ?_)))))))));intro w9 q9;exact⟨_,rfl,rfl,(q1.z5 q2 q3 q4 q8 q9)⟩
theorem na58:z2c prog 58:=λ_=>kr
theorem x6g:z2c prog 135:=λ_=>kr
theorem sz58:z1q prog 58 1:=λ_=>kr
theorem j9q:z1q prog 135 1:=λ_=>kr
theorem zv4 (w:World):(zeroValue 4).run prog w=.ok (.bool false) w:=kr
theorem zv58 (w:World):(zeroValue 58).run prog w=.ok (.int .i64 0) w:=kr
theorem j6n (w:World):(zeroValue 135).run prog w=.ok (.map none) w:=kr
theorem u3x (q:BdQ)(w0:World)(hB:BdAt w0 q)(hv:BdW q.p):Rets prog 48 #[.agg #[.slice q.f.1 q.f.2.1 q.f.2.2,.slice q.b.1 q.b.2.1 q.b.2.2]] w0 λr w'=>r=.int .i64 (if q.p.flat.Nodup then 0 else 8)/\Fr [] w0 w':=by
 obtain⟨⟨hf,hb⟩,h4,k7⟩:=v5z hv;refine weM [(0,.agg #[.slice q.f.1 q.f.2.1 q.f.2.2,.slice q.b.1 q.b.2.1 q.b.2.2])] func48 U ntmps48 U (.cons U .nil) ?_;have Z:=hB;refine isq (irg U (bx U (λg1 w1 l0 a0 q1 z1=>(al zv58 U (λg2 w2 l1 I q2 z2=>(inl (itn (isq (isq (irg U ?_))))))))));replace a0:=a0.ext q2;refine z0n U a0 z4w (cl (ev1 U) (mkC func109) (y9o q _) U ?_);rintro _ w3 ⟨g9,rfl,h5,b5,q3⟩;have z3:=q3.size;refine inl (itn (ibl ?_));have i1:=b5.lt;refine v9q (α:=Bool) U (mkC func155) dd (y4t 8 g9 q w3 b5) (λb J=>by rw[List.mem_singleton.1 J];exact b5.lt) (λ_=>rfl) (λx=>[(23,.slice (q.h x).1 (q.h x).2.1 (q.h x).2.2),(22,.int .u8 (y3t x))]) (λx=>by simp[bdE,y3t,slv]) (λ_=>rfl) (λ(s:List (Bool)) (W:World)=>Fr [] w3 W/\True) (λ_ _=>False) (λs W W' ht h=>⟨h.1.turn ht (Nat.le_refl _),h.2⟩) (λ_ _ _ _ h=>h.elim) ⟨Fr.refl _ _,trivial⟩ (λx=>[(4,.slice (q.h x).1 (q.h x).2.1 (q.h x).2.2)]) [(1,_),(2,_)] (.c2 U U) ?_ ?_ ?_ (λ_ _ _ _ _ h _=>h.elim);rintro lN a7 x w4 ⟨q4,-⟩;exact x4u [(22,.int .u8 (y3t x)),(23,.slice (q.h x).1 (q.h x).2.1 (q.h x).2.2),(1,_),(2,_)] (.c4 U U U U) (irg U (asg U (inl (asU (.c3 U U U)))));rintro lN a7 x w5 f3 ⟨q5,-⟩ f4 e5;have z5:=q5.size;have f2:=(BdS.len Z.s x);have f6:(q.r x).length<=40:=by cases x<;>assumption
 have d7:y0b (q.r x):=by cases x<;>assumption
 refine ibl (isq (isq (irg U (mv U U (lnS U underlying48 (gt' U (inl (itn (icd U (λc0=>?_) (λc0=>?_))))))))));exfalso;omega;refine isk (itn (isq (irg U (mv U U (lnS U underlying48 (mv U U (inl (itn (ibl (u2k (ι:=Nat) [(2,_),(27,_),(28,_)] (λi=>[(29,.int .i64 (i:Int))]) (λi w'=>Fr [] w5 w'/\i<=(q.r x).length) (λi=>(q.r x).length-i) 0 (.c4 U U U U) ⟨Fr.refl _ _,Nat.zero_le _⟩ ?_))))))))));rintro i w6 ⟨q6,hi⟩;have z6:=q6.size;refine x4u [(2,_),(27,_),(28,_),(29,_)] (.c4 U U U U) (isq (irg U (lt' U (inl (itn (isq (icd U (λc1=>?_) (λc1=>?_))))))));have f8:=z1z (z2f (Z.iq x) i);have f7:=z3o d7 i;refine isk (itn (isq (ibl (isq (irg U ?_)))));replace hB:=Z.ext (q1.n4 q2 q3 q5 q6);refine z1d (iq0) U (hB.s.sel x) U y6z z1g (λj4 e7=>?_);refine z1k U (e7 _ (hB.s.sel x)) z8o (asg U (inl (itn (isq (irg U (mv U U (lnS U underlying27 (gt' U (inl (itn (icd U (λc2=>?_) (λc2=>?_))))))))))));exfalso;omega;exact isk (bn' (itn (irg U (z1b U (wi6 oo) (mv U U (inl (u3t (i+1) (.c4 U U U U) ⟨q6,oo⟩ oo)))))));obtain rfl:i=(q.r x).length:=by omega
 exact iex (te (te (xh (bn' (j5k (S:=[]) q6 sp0 (λb J=>by rw[List.mem_singleton.1 J];omega) sp0 ⟨(q5.n1 q6),trivial⟩)))));rintro D1 g7 w7 k8 hS ⟨q7,-⟩ b0;have z7:=q7.size;have d4:=b0;have f9:=b0.lt;refine bn' (itn (isq (isq (irg U ?_))));replace a0:=a0.ext (q3.n1 q7);refine z0n U a0 z4w (cl (ev1 U) (mkC func109) (y9o q _) U ?_);rintro _ w8 ⟨h0,rfl,h6,b6,q8⟩;have z8:=q8.size;refine inl (itn (ibl ?_));have i2:=b6.lt;refine v9q (α:=Bool) U (mkC func155) dd (y4t 8 h0 q w8 b6) (λb J=>by rw[List.mem_singleton.1 J];exact b6.lt) (λ_=>rfl) (λx=>[(40,.slice (q.h x).1 (q.h x).2.1 (q.h x).2.2),(39,.int .u8 (y3t x))]) (λx=>by simp[bdE,y3t,slv]) (λ_=>rfl) (λ(s:List (Bool)) (W:World)=>Fr [] w8 W/\True) (λ_ _=>False) (λs W W' ht h=>⟨h.1.turn ht (Nat.le_refl _),h.2⟩) (λ_ _ _ _ h=>h.elim) ⟨Fr.refl _ _,trivial⟩ (λx=>[(8,.slice (q.h x).1 (q.h x).2.1 (q.h x).2.2)]) [(1,_),(2,_)] (.c2 U U) ?_ ?_ ?_ (λ_ _ _ _ _ h _=>h.elim);rintro lN a7 x w9 ⟨q9,-⟩;exact x4u [(39,.int .u8 (y3t x)),(40,.slice (q.h x).1 (q.h x).2.1 (q.h x).2.2),(1,_),(2,_)] (.c4 U U U U) (irg U (asg U (inl (asU (.c3 U U U)))));rintro lN a7 x j0 f3 ⟨e1,-⟩ f4 e5;have o3:=e1.size;have f2:=(BdS.len Z.s x);have f6:(q.r x).length<=40:=by cases x<;>assumption
 have d7:y0b (q.r x):=by cases x<;>assumption
 refine ibl (isq (irg U (mv U U (lnS U underlying48 (mv U U (inl (itn (ibl (u2k (ι:=Nat) [(2,_),(41,_),(42,_)] (λi=>[(43,.int .i64 (i:Int))]) (λi w'=>Fr [] j0 w'/\i<=(q.r x).length) (λi=>(q.r x).length-i) 0 (.c4 U U U U) ⟨Fr.refl _ _,Nat.zero_le _⟩ ?_)))))))));rintro i j1 ⟨c9,hi⟩;have o4:=c9.size;refine x4u [(2,_),(41,_),(42,_),(43,_)] (.c4 U U U U) (isq (irg U (lt' U (inl (itn (isq (icd U (λc3=>?_) (λc3=>?_))))))));have f8:=z1z (z2f (Z.iq x) i);have f7:=z3o d7 i;refine isk (itn (isq (ibl (isq (irg U ?_)))));replace hB:=Z.ext (q1.n6 q2 q3 q7 q8 e1 c9);refine z1d (iq0) U (hB.s.sel x) U y6z z1g (λj5 e8=>?_);refine z1k U (e8 _ (hB.s.sel x)) z8o (asg U (inl (itn (isq (irg U (mv U U (lnS U underlying27 (mv U U (inl (itn (ibl (u2k (ι:=Nat) [(2,_),(41,_),(42,_),(43,_),(47,_),(48,_)] (λj=>[(49,.int .i64 (j:Int))]) (λj w'=>Fr [] j1 w'/\j<=((q.r x).getD i iq0).2.length) (λj=>((q.r x).getD i iq0).2.length-j) 0 (.c7 U U U U U U U) ⟨Fr.refl _ _,Nat.zero_le _⟩ ?_))))))))))));rintro j l3 ⟨e2,hj⟩;have o5:=e2.size;refine x4u [(2,_),(41,_),(42,_),(43,_),(47,_),(48,_),(49,_)] (.c7 U U U U U U U) (isq (irg U (lt' U (inl (itn (isq (icd U (λc4=>?_) (λc4=>?_))))))));have i0:=v2g hv x (i:=i) (j:=j) oo oo;refine isk (itn (isq (ibl (isq (irg U ?_)))));replace hB:=Z.ext ((q1.n6 q2 q3 q7 q8 e1 c9).n1 e2);refine z1d (id0) U (z2f (hB.iq x) i) U z4x z1g (λj6 e9=>?_);refine z1l U (e9 _ (z2f (hB.iq x) i)) z2y (al y0n U (λk4 l4 j9 d3 i4 o6=>?_));refine z0k (vs:=[_,_]) U d3 y0c (λl5 d3 i5 o7=>?_) (h1:=(by first|(simp[Value.oneCell',S];done)|exact z1f.one (((q.r x).getD i iq0).2.getD j id0)));refine inl (itn (isq (irg U (z0n U d3 z2y (cl (ev1 U) (mkC func70) (y4f (((q.r x).getD i iq0).2.getD j id0) _) U ?_)))));rintro _ l6 ⟨rfl,g3⟩;have o8:=g3.size;refine nt' U (inl (itn (icd U (λc5=>?_) (λc5=>?_))));exact absurd i0 c5;exact isk (bn' (itn (irg U (z1b U (wi6 oo) (mv U U (inl (u3t (j+1) (.c7 U U U U U U U) ⟨(e2.z3 i4 i5 g3),oo⟩ oo)))))));obtain rfl:j=((q.r x).getD i iq0).2.length:=by omega
 exact iex (te (te (xh (bn' (itn (irg U (z1b U (wi6 oo) (mv U U (inl (u3t (i+1) (.c4 U U U U) ⟨(c9.n1 e2),oo⟩ oo))))))))));obtain rfl:i=(q.r x).length:=by omega
 exact iex (te (te (xh (bn' (j5k (S:=[]) c9 sp0 (λb J=>by rw[List.mem_singleton.1 J];omega) sp0 ⟨(e1.n1 c9),trivial⟩)))));rintro D2 g7 l7 k9 hS ⟨a5,-⟩ b3;have o9:=a5.size;have d5:=b3;have g0:=b3.lt;refine bn' (itn (isq (irg U ?_)));replace a0:=a0.ext (q8.n1 a5);refine z0n U a0 z4w ?_;replace hB:=Z.ext (q1.n5 q2 q3 q7 q8 a5);refine cl (ev1 U) (mkC func110) (x4o q _ hB oo oo (by assumption) (by assumption)) U ?_;rintro _ l8 ⟨rfl,a2⟩;have p0:=a2.size;refine v1u idV U underlying135 U (λD l9 k2 hm a6 p1=>?_);rw[<-x0b]at hm;refine al j6n U (λk5 m0 k0 a9 a3 p2=>(z5u U U a9 U j9q (λm4 a9 a4 p3=>(inl (itn (isq (isq (irg U ?_))))))));replace a0:=(a0.ext (a2.n2 a6 a3)).fr a4;refine z0n U a0 z4w (cl (ev1 U) (mkC func109) (y9o q _) U ?_);rintro _ e6 ⟨h2,rfl,h7,b7,M⟩;have p4:=M.size;refine inl (itn (ibl ?_));have i3:=b7.lt;replace hm:=((hm.ext a3).fr a4 so).ext M;refine v9q (α:=Bool) U (mkC func155) dd (y4t 8 h2 q e6 b7) (λb J=>by rw[List.mem_singleton.1 J];exact b7.lt) (λ_=>rfl) (λx=>[(64,.slice (q.h x).1 (q.h x).2.1 (q.h x).2.2),(63,.int .u8 (y3t x))]) (λx=>by simp[bdE,y3t,slv]) (λ_=>rfl) (λ(s:List (Bool)) (W:World)=>Fr [D] e6 W/\MapF idV W D (z6l (y5y q s))/\(y5y q s).Nodup) (λ(_:List (Bool)) (W:World)=>Fr [D,g2] e6 W/\Blk W g2 58 [.int .i64 8]/\¬q.p.flat.Nodup) (λs W W' ht h=>⟨h.1.turn ht (Nat.le_refl _),⟨h.2.1.turn ht oo,h.2.2⟩⟩) (λs W W' ht h=>⟨h.1.turn ht (Nat.le_refl _),⟨h.2.1.turn ht,h.2.2⟩⟩) ⟨Fr.refl _ _,⟨hm,by simp[y5y]⟩⟩ (λx=>[(15,.slice (q.h x).1 (q.h x).2.1 (q.h x).2.2)]) [(1,_),(2,_),(13,_)] (.c3 U U U) ?_ ?_ ?_ ?_;rintro lN a7 x m5 ⟨l2,⟨hm,a1⟩⟩;exact x4u [(63,.int .u8 (y3t x)),(64,.slice (q.h x).1 (q.h x).2.1 (q.h x).2.2),(1,_),(2,_),(13,_)] (.c5 U U U U U) (irg U (asg U (inl (asU (.c4 U U U U)))));rintro lN a7 x j2 f3 ⟨b8,⟨hm,a1⟩⟩ f4 e5;have p5:=b8.size;have f2:=(BdS.len Z.s x);have f6:(q.r x).length<=40:=by cases x<;>assumption
 have d7:y0b (q.r x):=by cases x<;>assumption
 have h8:=hm;refine ibl (isq (irg U (mv U U (lnS U underlying48 (mv U U (inl (itn (ibl (u2k (ι:=Nat) [(2,_),(13,_),(65,_),(66,_)] (λi=>[(67,.int .i64 (i:Int))]) (λi w'=>Fr [D] j2 w'/\i<=(q.r x).length/\MapF idV w' D (z6l (y5y q a7++x4l q x i))/\(y5y q a7++x4l q x i).Nodup) (λi=>(q.r x).length-i) 0 (.c5 U U U U U) ⟨Fr.refl _ _,⟨Nat.zero_le _,by simpa[x4l] using And.intro hm a1⟩⟩ ?_)))))))));rintro i j3 ⟨a8,⟨hi,⟨hm,a1⟩⟩⟩;have p6:=a8.size;refine x4u [(2,_),(13,_),(65,_),(66,_),(67,_)] (.c5 U U U U U) (isq (irg U (lt' U (inl (itn (isq (icd U (λc6=>?_) (λc6=>?_))))))));have f8:=z1z (z2f (Z.iq x) i);have f7:=z3o d7 i;refine isk (itn (isq (ibl (isq (irg U ?_)))));replace hB:=Z.ext ((((q1.n6 q2 q3 q7 q8 a5 a2).n1 a6).n1 a3).z4 a4 M b8 a8);refine z1d (iq0) U (hB.s.sel x) U y6z z1g (λj7 f0=>?_);refine z1k U (f0 _ (hB.s.sel x)) z8o (asg U (inl (itn (isq (irg U (mv U U (lnS U underlying27 (mv U U (inl (itn (ibl (u2k (ι:=Nat) [(2,_),(13,_),(65,_),(66,_),(67,_),(71,_),(72,_)] (λj=>[(73,.int .i64 (j:Int))]) (λj w'=>Fr [D] j3 w'/\j<=((q.r x).getD i iq0).2.length/\MapF idV w' D (z6l (y5y q a7++x4l q x i++((q.r x).getD i iq0).2.take j))/\(y5y q a7++x4l q x i++((q.r x).getD i iq0).2.take j).Nodup) (λj=>((q.r x).getD i iq0).2.length-j) 0 (.c8 U U U U U U U U) ⟨Fr.refl _ _,⟨Nat.zero_le _,by rw[List.take_zero,List.append_nil];exact⟨hm,a1⟩⟩⟩ ?_))))))))))));rintro j m6 ⟨b4,⟨hj,⟨hm,a1⟩⟩⟩;have p7:=b4.size;refine x4u [(2,_),(13,_),(65,_),(66,_),(67,_),(71,_),(72,_),(73,_)] (.c8 U U U U U U U U) (isq (irg U (lt' U (inl (itn (isq (icd U (λc7=>?_) (λc7=>?_))))))));refine isk (itn (isq (ibl (isq (irg U ?_)))));replace hB:=Z.ext ((((q1.n6 q2 q3 q7 q8 a5 a2).n1 a6).n1 a3).z5 a4 M b8 a8 b4);refine z1d (id0) U (z2f (hB.iq x) i) U z4x z1g (λj8 f1=>?_);refine z1l U (f1 _ (z2f (hB.iq x) i)) z2y (al y0n U (λk6 m7 k1 b9 d0 p8=>?_));refine z0k (vs:=[_,_]) U b9 y0c (λm8 b9 d1 p9=>?_) (h1:=(by first|(simp[Value.oneCell',S];done)|exact z1f.one (((q.r x).getD i iq0).2.getD j id0)));refine inl (itn (isq (isq (irg U ?_))));replace a9:=(((((a9.ext M).fr b8).fr a8).fr b4).ext d0).fr d1;refine z4j U a9 x6g (z0n U b9 z2y ?_);replace hm:=(hm.ext d0).fr d1 so;refine y4r (V:=idV) (k:=(((q.r x).getD i iq0).2.getD j id0)) (f:=z6l (y5y q a7++x4l q x i++((q.r x).getD i iq0).2.take j)) U U hm z4a underlying135 zv4 (x1g _ _) U (inl (itn (icd U (λc8=>?_) (λc8=>?_))));have f5:¬q.p.flat.Nodup:=λh=>j3x (j:=j) h e5 (i:=i) oo oo c8;refine isq (irg U ?_);replace I:=(((((((I.ext (q3.n6 q7 q8 a5 a2 a6 a3)).fr a4).ext M).fr b8).fr a8).fr b4).ext d0).fr d1;exact z5u U U I U sz58 (λm9 I g6 q0=>(kpL [(2,_)] (.cons U .nil) (inl (itn (irt (tr (rb (tr (tr (rb (rb (tr (tr (rb (rb (rndR (S:=[D,g2]) ((Fr.refl [D,g2] _).z5 a8 b4 d0 d1 g6) (by intro k hk _;right;simp at hk;omega) ⟨((Fr.refl [D,g2] _).z6 b8 a8 b4 d0 d1 g6),⟨I,f5⟩⟩))))))))))))))));refine isk (itn (irg U (z4j U a9 x6g (z0n U b9 z2y (y4s (V:=idV) (k:=(((q.r x).getD i iq0).2.getD j id0)) U U U hm z4a underlying135 (λn7 hm i7 r4=>?_))))));rw[y4v]at hm;exact inl (bn' (itn (irg U (z1b U (wi6 oo) (mv U U (inl (u3t (j+1) (.c8 U U U U U U U U) ⟨((Fr.refl [D] _).z4 b4 d0 d1 i7),⟨oo,by rw[z1s id0 oo,<-List.append_assoc];exact⟨hm,List.nodup_append.2 ⟨a1,sp0,λa ha b hb e=>c8 (by rw[<-List.mem_singleton.1 hb,<-e];exact ha)⟩⟩⟩⟩ oo)))))));obtain rfl:j=((q.r x).getD i iq0).2.length:=by omega
 rw[List.take_length]at hm a1;exact iex (te (te (xh (bn' (itn (irg U (z1b U (wi6 oo) (mv U U (inl (u3t (i+1) (.c5 U U U U U) ⟨((Fr.refl [D] _).z2 a8 b4),⟨oo,by rw[x3v q x oo,<-List.append_assoc];exact⟨hm,a1⟩⟩⟩ oo))))))))));obtain rfl:i=(q.r x).length:=by omega
 rw[u4k]at hm a1;exact iex (te (te (xh (bn' (j5k (S:=[D]) ((Fr.refl [D] _).z1 a8) (λk hk _=>.inr (by cases List.mem_singleton.1 hk;exact⟨oo,h8.noncells⟩)) (λb J=>by rw[List.mem_singleton.1 J];omega) (λb J e=>by rw[List.mem_singleton.1 J]at e;simp at e;omega) ⟨((Fr.refl [D] _).z2 b8 a8),by rw[v9e];exact⟨hm,a1⟩⟩)))));rintro D3 g7 n8 h3 hS ⟨e0,⟨hm,a1⟩⟩ O;have r5:=e0.size;have d6:=O;have d9:=O.lt;refine bn' (itn (isq (irg U ?_)));replace I:=(((I.ext (q3.n6 q7 q8 a5 a2 a6 a3)).fr a4).ext M).fr e0;refine z5u U U I U sz58 (λn9 I e3 r6=>(inl (itn (irt ?_))));replace O:=d6.fr ((Fr.refl [g2] _).z1 e3) so;replace b3:=d5.fr (((Fr.refl [g2] _).z6 a2 a6 a3 a4 M e0).z1 e3) so;replace b0:=d4.fr ((((Fr.refl [g2] _).z6 q8 a5 a2 a6 a3 a4).n1 M).z2 e0 e3) so;refine rM1c results48 U I na58 (u6l O b3 b0) so ?_;intro o0 i8;exact⟨_,rfl,by rw[if_pos (by rw[<-x8e];subst hS;exact a1)],((((q1.n6 q2 q3 q7 q8 a5 a2).n1 a6).n1 a3).z5 a4 M e0 e3 i8)⟩;rintro D3 _ o1 h3 _ ⟨e4,⟨I,h9⟩⟩ O;have r7:=e4.size;have d6:=O;have d9:=O.lt;have g8:=I.lt;refine rb (tr ?_);replace b3:=d5.fr ((Fr.refl [g2] _).z6 a2 a6 a3 a4 M e4) so;replace b0:=d4.fr ((((Fr.refl [g2] _).z6 q8 a5 a2 a6 a3 a4).n1 M).z1 e4) so;refine rM1c results48 U I na58 (u6l O b3 b0) so ?_;intro o2 i9;exact⟨_,rfl,by rw[if_neg h9],((((q1.n6 q2 q3 q7 q8 a5 a2).n1 a6).n1 a3).z4 a4 M e4 i9)⟩
theorem y9k (q:BdQ)(w0:World)(I:BdAt w0 q)(D:BdOk q.p):Rets prog 48 #[.agg #[.slice q.f.1 q.f.2.1 q.f.2.2,.slice q.b.1 q.b.2.1 q.b.2.2]] w0 λr w'=>r=.int .i64 0/\Fr [] w0 w':=by
 have x:=u3x q w0 I D.w;rw[if_pos D.nd]at x;exact x
theorem y4y (q:BdQ)(b:Int)(n:Nat)(v:Value)(l:List LId)(w0:World)(hB:BdAt w0 q)(hs:Sl z1f w0 v l)(hv:BdOk q.p)(hn:z2v b (n:Int)=0)(f0:l.length<=4)(f2:∀i∈l,z5d i)(hd:∀i,q.p.flat.count i+l.count i<=(q.p.at b (n:Int)).count i+1):Rets prog 151 #[.agg #[.slice q.f.1 q.f.2.1 q.f.2.2,.slice q.b.1 q.b.2.1 q.b.2.2],.agg #[.int .u8 b,.int .i64 (n:Int)],v] w0 λr w'=>(∃q':BdQ,r=.tuple #[.agg (bdL q').toArray,.int .i64 0]/\BdO 27 73 w0.heap.size w' q'/\q'.p=q.p.put b (n:Int) l)/\Fr [] w0 w':=by
 obtain⟨⟨hf,hb⟩,h4,e8⟩:=z3w hv;have i8:=z2o hn;obtain⟨A,c,rfl,i1⟩:=id hs.form;refine weM [(0,.agg #[.slice q.f.1 q.f.2.1 q.f.2.2,.slice q.b.1 q.b.2.1 q.b.2.2]),(1,.agg #[.int .u8 b,.int .i64 (n:Int)]),(2,.slice A l.length c)] func151 U ntmps151 U (.c3 U U U) ?_;have a9:=hB;have b9:=hs;refine isq (irg U (bx U (λg3 w1 i2 a3 q1 z1=>(bx U (λg4 w2 i3 a4 q2 z2=>(al x2v U (λg6 w3 i4 b6 q3 z3=>(asg U (inl (itn (isq (isq (irg U ?_)))))))))))));replace a3:=a3.ext (q2.n1 q3);refine z0n U a3 z4w ?_;replace hB:=a9.ext (q1.n2 q2 q3);refine cl (ev1 U) (mkC func48) (y9k q _ hB hv) U ?_;rintro _ w4 ⟨rfl,q4⟩;have z4:=q4.size;refine asg U (inl (itn (isq (irg U (mv U U (ne' U (inl (itn (icd U (λc0=>?_) (λc0=>?_))))))))));exact absurd U c0;refine isk (itn (isq (isq (irg U ?_))));replace a4:=a4.ext (q3.n1 q4);refine z0n U a4 z4k (cl (ev1 U) u4h (z4t _ _ _) U ?_);rintro _ w5 ⟨rfl,q5⟩;have z5:=q5.size;refine ne' U (inl (itn (icd U (λc1=>?_) (λc1=>?_))));exact absurd hn (by simpa using c1);refine isk (itn (isq (isq (irg U (mv U U (lnS U underlying27 (mv U U (inl (itn (ibl (u2k (ι:=Nat) [(2,_),(3,_),(4,_),(6,_),(28,_),(29,_)] (λj=>[(30,.int .i64 (j:Int))]) (λj w'=>Fr [] w5 w'/\j<=l.length) (λj=>l.length-j) 0 (.c7 U U U U U U U) ⟨Fr.refl _ _,Nat.zero_le _⟩ ?_)))))))))));rintro j w6 ⟨q6,hj⟩;have z6:=q6.size;refine x4u [(2,_),(3,_),(4,_),(6,_),(28,_),(29,_),(30,_)] (.c7 U U U U U U U) (isq (irg U (lt' U (inl (itn (isq (icd U (λc2=>?_) (λc2=>?_))))))));have f1:=f2 _ (z0z (d:=id0) (i:=j) (l:=l) oo);refine isk (itn (isq (ibl (isq (irg U ?_)))));replace hs:=b9.ext (q1.n5 q2 q3 q4 q5 q6);refine z1d (id0) U hs U z4x z1g (λg1 d6=>?_);refine z1l U (d6 _ hs) z2y (al y0n U (λh6 w7 g9 b4 q7 z7=>?_));refine z0k (vs:=[_,_]) U b4 y0c (λw8 b4 q8 z8=>?_) (h1:=(by first|(simp[Value.oneCell',S];done)|exact z1f.one _));refine inl (itn (isq (irg U (z0n U b4 z2y (cl (ev1 U) (mkC func70) (y4f (l.getD j id0) _) U ?_)))));rintro _ w9 ⟨rfl,q9⟩;have z9:=q9.size;refine nt' U (inl (itn (icd U (λc3=>?_) (λc3=>?_))));exact absurd f1 c3;exact isk (bn' (itn (irg U (z1b U (wi6 oo) (mv U U (inl (u3t (j+1) (.c7 U U U U U U U) ⟨(q6.z3 q7 q8 q9),oo⟩ oo)))))));obtain rfl:j=l.length:=by omega
 refine iex (te (te (xh (itn (isq (isq (irg U (mv U U (lnS U underlying27 (gt' U (kpL [(2,_),(3,_),(4,_),(6,_),(41,_)] (.c5 U U U U U) (inl (itn (icd U (λc4=>?_) (λc4=>?_)))))))))))))));exfalso;omega;refine isk (itn (isq (irg U (z8y idV U (λD j5 h5 M a1 l4=>?_)))));rw[<-x0b]at M;refine al j6n U (λh7 j6 h0 I O l5=>(z5u U U I U j9q (λj7 I Z l6=>(inl (itn (isq (isq (irg U ?_))))))));replace a3:=(a3.ext (q4.n4 q5 q6 a1 O)).fr Z;refine z0n U a3 z4w (cl (ev1 U) (mkC func156) (y8d q _) U ?_);rintro _ e6 ⟨e7,rfl,e9,b7,J⟩;have l7:=J.size;refine inl (itn (ibl ?_));have a6:∀b∈bdB q,b<w0.heap.size:=BdS.lt a9.s;replace M:=((M.ext O).fr Z so).ext J;replace hB:=a9.ext ((((q1.n6 q2 q3 q4 q5 q6 a1).n1 O).z1 Z).n1 J);refine k1r (α:=Bool×Nat) U (mkC func219) dd (y5s 8 e7 q e6 dd b7 hB.s hf hb) (BdS.lt hB.s) (λ_=>rfl) (λx=>[(47,.slice ((q.r x.1).getD x.2 iq0).1.1 ((q.r x.1).getD x.2 iq0).1.2.1 ((q.r x.1).getD x.2 iq0).1.2.2),(46,.agg #[.int .u8 (y3t x.1),.int .i64 ((x.2:Int)+1)])]) (λx=>by simp[ndE,slv]) (λ_=>rfl) (λ(s:List (Bool×Nat)) (W:World)=>Fr [D] e6 W/\MapF idV W D (z6l (x6n q b (n:Int) s))) (λ_ _=>False) (λs W W' ht h=>⟨h.1.turn ht (Nat.le_refl _),h.2.turn ht oo⟩) (λ_ _ _ _ h=>h.elim) (λs W h=>h.1.size) ⟨Fr.refl _ _,M⟩ 45 (λx=>[.int .u8 (y3t x.1),.int .i64 ((x.2:Int)+1)]) (λg x=>[(12,.pointer (some ⟨g,0,none⟩)),(13,.slice ((q.r x.1).getD x.2 iq0).1.1 ((q.r x.1).getD x.2 iq0).1.2.1 ((q.r x.1).getD x.2 iq0).1.2.2)]) [(4,_),(11,_)] (.c2 U U) ?_ ?_ ?_ (λ_ _ _ _ _ h _=>h.elim);rintro lN e4 x j8 ⟨j4,M⟩ j1;refine x4u [(46,.agg #[.int .u8 (y3t x.1),.int .i64 ((x.2:Int)+1)]),(47,.slice ((q.r x.1).getD x.2 iq0).1.1 ((q.r x.1).getD x.2 iq0).1.2.1 ((q.r x.1).getD x.2 iq0).1.2.2),(4,_),(11,_)] (.c4 U U U U) (isq (irg U (al v1n U (λd5 j9 e0 a2 f5 l8=>?_))));refine z0k (vs:=[_,_]) U a2 y6l (λk0 a2 f6 l9=>?_) (h1:=(by first|(simp[Value.oneCell',S];done)|exact z1f.one _));exact inl (itn (irg U (asg U (inl (asE d5 oo (.c4 U U U U) a2 (f5.z1 f6))))));rintro lN e4 x d5 f9 i5 e0 a2 ⟨b0,M⟩ i7 i9;have m0:=b0.size;have e2:=a2.lt;have e1:=M;have j0:(q.r x.1).length<=40:=by cases x.1<;>assumption
 have j2:=z3o (show y0b (q.r x.1) by cases x.1<;>assumption) x.2;have j3:((q.r x.1).getD x.2 iq0).1.2.1=((q.r x.1).getD x.2 iq0).2.length:=z1z (z2f (a9.iq x.1) x.2);refine ibl (isq (irg U (z0n U a2 z4k ?_)));replace a4:=(((a4.ext (q5.n3 q6 a1 O)).fr Z).ext J).fr b0;refine z0n U a4 z4k (j4h (V:=ndV) (e:=(y3t x.1,(x.2:Int)+1)) (f:=(b,(n:Int))) U U k0p U (inl (itn (icd U (λc5=>?_) (λc5=>?_)))));refine isq (irg U (mv U U (lnS U underlying27 (mv U U (inl (itn (ibl (u2k (ι:=Nat) [(11,_),(51,_),(52,_)] (λj=>[(53,.int .i64 (j:Int))]) (λj w'=>Fr [D] f9 w'/\j<=((q.r x.1).getD x.2 iq0).2.length/\MapF idV w' D (z6l (x6n q b (n:Int) e4++((q.r x.1).getD x.2 iq0).2.take j))) (λj=>((q.r x.1).getD x.2 iq0).2.length-j) 0 (.c4 U U U U) ⟨Fr.refl _ _,⟨Nat.zero_le _,by rw[List.take_zero,List.append_nil];exact M⟩⟩ ?_))))))));rintro j k1 ⟨b3,⟨hj,M⟩⟩;have m4:=b3.size;refine x4u [(11,_),(51,_),(52,_),(53,_)] (.c4 U U U U) (isq (irg U (lt' U (inl (itn (isq (icd U (λc6=>?_) (λc6=>?_))))))));refine isk (itn (isq (ibl (isq (irg U ?_)))));replace hB:=a9.ext ((((q1.n6 q2 q3 q4 q5 q6 a1).n1 O).z1 Z).z3 J b0 b3);refine z1d (id0) U (z2f (hB.iq x.1) x.2) U z4x z1g (λg7 d7=>?_);refine z1l U (d7 _ (z2f (hB.iq x.1) x.2)) z2y (al y0n U (λh8 k2 h2 b5 c9 m5=>?_));refine z0k (vs:=[_,_]) U b5 y0c (λk4 b5 d0 m6=>?_) (h1:=(by first|(simp[Value.oneCell',S];done)|exact z1f.one _));refine inl (itn (irg U ?_));replace I:=((((I.ext J).fr b0).fr b3).ext c9).fr d0;refine z4j U I x6g (z0n U b5 z2y ?_);replace M:=(M.ext c9).fr d0 so;refine y4s (V:=idV) (k:=(((q.r x.1).getD x.2 iq0).2.getD j id0)) U U U M z4a underlying135 (λk5 M f7 m7=>?_);rw[y4v]at M;exact inl (bn' (itn (irg U (z1b U (wi6 oo) (mv U U (inl (u3t (j+1) (.c4 U U U U) ⟨((Fr.refl [D] _).z4 b3 c9 d0 f7),⟨oo,by rw[z1s id0 oo,<-List.append_assoc];exact M⟩⟩ oo)))))));obtain rfl:j=((q.r x.1).getD x.2 iq0).2.length:=by omega
 rw[List.take_length]at M;exact iex (te (te (xh (bn' (j5k (S:=[D]) ((Fr.refl [D] _).z1 b3) (λk hk _=>.inr (by cases List.mem_singleton.1 hk;exact⟨oo,e1.noncells⟩)) (λb hb=>Nat.lt_of_lt_of_le (a6 b hb) oo) (λb hb e=>by simp at e;have:=a6 b hb;omega) ⟨((Fr.refl [D] _).z2 b0 b3),by rw[x3i,oth,if_neg c5];exact M⟩)))));exact isk (bn' (j5k (S:=[D]) (Fr.refl _ _) (λk hk _=>.inr (by cases List.mem_singleton.1 hk;exact⟨oo,e1.noncells⟩)) (λb hb=>Nat.lt_of_lt_of_le (a6 b hb) oo) (λb hb e=>by simp at e;have:=a6 b hb;omega) ⟨((Fr.refl [D] _).z1 b0),by rw[x3i,oth,if_pos (Classical.not_not.1 c5),List.append_nil];exact M⟩));rintro D1 l3 g0 i0 hS ⟨a5,M⟩ a8;have m8:=a5.size;have b8:=a8;have e3:=a8.lt;subst hS;refine bn' (itn (isq (isq (irg U (mv U U (lnS U underlying27 (mv U U (inl (itn (ibl (u2k (ι:=Nat) [(2,_),(3,_),(4,_),(6,_),(11,_),(60,_),(61,_)] (λj=>[(62,.int .i64 (j:Int))]) (λj w'=>Fr [D] g0 w'/\j<=l.length/\MapF idV w' D (z6l (x6n q b (n:Int) (ndP q [false,true])++l.take j))) (λj=>l.length-j) 0 (.c8 U U U U U U U U) ⟨Fr.refl _ _,⟨Nat.zero_le _,by rw[List.take_zero,List.append_nil];exact M⟩⟩ ?_)))))))))));rintro j k6 ⟨a0,⟨hj,M⟩⟩;have m9:=a0.size;refine x4u [(2,_),(3,_),(4,_),(6,_),(11,_),(60,_),(61,_),(62,_)] (.c8 U U U U U U U U) (isq (irg U (lt' U (inl (itn (isq (icd U (λc7=>?_) (λc7=>?_))))))));have f3:=j2s (j:=j) hn hd oo;refine isk (itn (isq (ibl (isq (irg U ?_)))));replace hs:=b9.ext ((((q1.n6 q2 q3 q4 q5 q6 a1).n1 O).z1 Z).z3 J a5 a0);refine z1d (id0) U hs U z4x z1g (λg8 d9=>?_);refine z1l U (d9 _ hs) z2y (al y0n U (λh9 k7 h3 a7 d1 n7=>?_));refine z0k (vs:=[_,_]) U a7 y0c (λk8 a7 d3 n8=>?_) (h1:=(by first|(simp[Value.oneCell',S];done)|exact z1f.one _));refine inl (itn (isq (isq (irg U ?_))));replace I:=((((I.ext J).fr a5).fr a0).ext d1).fr d3;refine z4j U I x6g (z0n U a7 z2y ?_);replace M:=(M.ext d1).fr d3 so;refine y4r (V:=idV) (k:=(l.getD j id0)) (f:=z6l (x6n q b (n:Int) (ndP q [false,true])++l.take j)) U U M z4a underlying135 zv4 (x1g _ _) U (inl (itn (icd U (λc8=>?_) (λc8=>?_))));exact absurd c8 f3;refine isk (itn (irg U (z4j U I x6g (z0n U a7 z2y (y4s (V:=idV) (k:=(l.getD j id0)) U U U M z4a underlying135 (λk9 M f8 n9=>?_))))));rw[y4v]at M;exact inl (bn' (itn (irg U (z1b U (wi6 oo) (mv U U (inl (u3t (j+1) (.c8 U U U U U U U U) ⟨((Fr.refl [D] _).z4 a0 d1 d3 f8),⟨oo,by rw[z1s id0 oo,<-List.append_assoc];exact M⟩⟩ oo)))))));obtain rfl:j=l.length:=by omega
 refine iex (te (te (xh (itn (isq (irg U ?_))))));replace a3:=((a3.ext J).fr a5).fr a0;refine z0n U a3 z4w ?_;replace a4:=((((a4.ext (q5.n3 q6 a1 O)).fr Z).ext J).fr a5).fr a0;refine z0n U a4 z4k (mv U U ?_);replace hB:=a9.ext ((((q1.n6 q2 q3 q4 q5 q6 a1).n1 O).z1 Z).z3 J a5 a0);replace hs:=b9.ext ((((q1.n6 q2 q3 q4 q5 q6 a1).n1 O).z1 Z).z3 J a5 a0);refine cl (ev3 U) (mkC func169) (y5b q b n _ l _ hB hs hn hf hb h4 e8 f0) U ?_;rintro _ l0 ⟨⟨q',rfl,a6,f4⟩,q27⟩;have o0:=q27.size;replace b6:=(((((b6.ext (q4.n4 q5 q6 a1 O)).fr Z).ext J).fr a5).fr a0).ext q27;refine z0k (vs:=[_,_]) U b6 y6h (λl1 b6 d4 o1=>?_) (h1:=(by first|(simp[Value.oneCell',S];done)|exact z1f.one _));refine asg U (kpL [(6,_),(7,_)] (.c2 U U) (inl (itn (irt ?_))));replace a8:=b8.fr ((Fr.refl [g6,D] _).z3 a0 q27 d4) so;refine rMCT results151 U b6 z4w U (v1a a8) sp0 ?_;intro l2 e5;replace a6:=(a6.fr d4 (by intro k hk;simp at hk;omega)).fr e5 (by intro k hk;simp at hk;omega);exact⟨_,rfl,⟨q',rfl,a6.low oo,f4⟩,((((q1.n6 q2 q3 q4 q5 q6 a1).n1 O).z1 Z).z6 J a5 a0 q27 d4 e5)⟩
theorem u6f:CallOf prog 30:=mkC func30
theorem y9q (q:BdQ)(b:Int)(n m:Nat)(w0:World)(hB:BdAt w0 q)(hv:BdOk q.p)(hn:z2v b (n:Int)=0)(hm:z2v (1-b) (m:Int)=0)(e5:(q.p.at b (n:Int))≠[]):Rets prog 123 #[.agg #[.slice q.f.1 q.f.2.1 q.f.2.2,.slice q.b.1 q.b.2.1 q.b.2.2],.agg #[.int .u8 b,.int .i64 (n:Int)],.agg #[.int .u8 (1-b),.int .i64 (m:Int)]] w0 λr w'=>(∃q':BdQ,r=.tuple #[.agg (bdL q').toArray,.int .i64 (if 4<(q.p.at b (n:Int)).length+(q.p.at (1-b) (m:Int)).length then 9 else 0)]/\(¬4<(q.p.at b (n:Int)).length+(q.p.at (1-b) (m:Int)).length->BdO 27 73 w0.heap.size w' q'/\q'.p=(q.p.put b (n:Int) []).put (1-b) (m:Int) (y2y q.p b (n:Int) (m:Int))))/\Fr [] w0 w':=by
 obtain⟨⟨hf,hb⟩,h4,b9⟩:=z3w hv;have i0:=z2o hn;have h9:=z2o hm;have h7:=y0l hv b (n:Int);have h8:=y0l hv (1-b) (m:Int);have h6:=v7u q.p b (n:Int) (m:Int);have d7:=v1j hv hn;have f6:0<(q.p.at b (n:Int)).length:=List.length_pos_iff.2 e5;refine we [(0,.agg #[.slice q.f.1 q.f.2.1 q.f.2.2,.slice q.b.1 q.b.2.1 q.b.2.2]),(1,.agg #[.int .u8 b,.int .i64 (n:Int)]),(2,.agg #[.int .u8 (1-b),.int .i64 (m:Int)])] func123 U ntmps123 U (.c3 U U U) ?_;have c9:=hB;refine sr (bx U (λg3 w1 h1 J q1 z1=>(bx U (λg4 w2 h2 D q2 z2=>(bx U (λg5 w3 h3 I q3 z3=>(al x2v U (λg6 w4 h5 O q4 z4=>(asg U (nn (sq (sr ?_))))))))))));replace J:=J.ext (q2.n2 q3 q4);refine z0n U J z4w ?_;replace hB:=c9.ext (q1.n3 q2 q3 q4);refine cl (ev1 U) (mkC func48) (y9k q _ hB hv) U ?_;rintro _ w5 ⟨rfl,q5⟩;have z5:=q5.size;refine asg U (nn (sr (mv U U (ne' U (nn (cd U (λc0=>?_) (λc0=>?_)))))));exact absurd U c0;refine sk (tn (sq (sq (x9y (r:=32) (L':=[(3,_),(4,_),(5,_),(6,_)]) ((((0≠0)\/(0≠0))\/(b=(1-b)))) (.c4 U U U U) ?_ ?_))));replace D:=D.ext (q3.n2 q4 q5);refine z0n U D z4k (cl (ev1 U) u4h (z4t _ _ _) U ?_);rintro _ w6 ⟨rfl,q6⟩;have z6:=q6.size;refine ne' U (mv U U (gs 21 U (λg0=>?_) (λg0=>?_)));exact gN U (gN U (gN U (pkt U (mv U U (gN U (gN U (gN U (gN U (gN U (pkt U (z9e U (.c4 U U U U) q6)))))))))));refine gY U ?_;replace I:=I.ext (q4.n2 q5 q6);refine z0n U I z4k (gY U (cl (ev1 U) u4h (z4t _ _ _) U ?_));rintro _ w7 ⟨rfl,q7⟩;have z7:=q7.size;refine gY U (ne' U (pkf U (mv U U (gs 26 U (λg1=>?_) (λg1=>?_)))));exact gN U (gN U (gN U (gN U (gN U (pkt U (z9e U (.c4 U U U U) (q6.n1 q7)))))));refine gY U (fad U z6v (gY U ?_));replace D:=D.ext (q6.n1 q7);refine z0i U D U x9d (gY U (fad U z6v (gY U ?_)));replace I:=I.ext q7;exact z0i U I U x9d (gY U (eq' U (pkf U (z9e U (.c4 U U U U) (q6.n1 q7)))));intro w8 q8;have z8:=q8.size;refine tn (cd U (λc1=>?_) (λc1=>?_));exfalso;omega;refine sk (tn (sq ?_));replace hB:=c9.ext (q1.n5 q2 q3 q4 q5 q8);intro a h;refine z0h none (λwb w'=>Fr [] wb w') z2m ?_;intro w9 q9;have z9:=q9.size;replace hB:=hB.ext q9;replace J:=J.ext (q5.n2 q8 q9);replace D:=D.ext (q3.n4 q4 q5 q8 q9);replace I:=I.ext (q4.n3 q5 q8 q9);have hC:Fr [] w9 w9:=Fr.refl _ _;have b5:=hB;have a2:=J;have a3:=D;have a4:=I;refine z0v 0 h U (λ_ hw=>a2.ext hw) z4w U λa h=>z0v 1 h U (λ_ hw=>a3.ext hw) z4k U λa h=>z0v 3 h U (λ_ hw=>a2.ext hw) z4w U λa h=>z0v 4 h U (λ_ hw=>a4.ext hw) z4k U λa h=>z0d 2 U (z0o h (z0a U (z0a U z0f)) u6f (x2k q b (n:Int) _ hB oo hf hb h4 b9) ?_);rintro i1 i5 ⟨M,a5⟩ a h;have j5:=a5.size;replace hB:=hB.ext a5;replace J:=J.ext a5;replace D:=D.ext a5;replace I:=I.ext a5;replace hC:=hC.next a5;rw[y1n hn]at M;obtain⟨f7,f9,rfl,f2⟩:=M.sl.form;have b7:=λk hb=>(M.blk k hb).2;refine z0b (z0d 5 U (z0o h (z0a U (z0a U z0f)) u6f (x2k q (1-b) (m:Int) _ hB oo hf hb h4 b9) ?_));rintro i2 i7 ⟨Z,hq⟩ a h;have j6:=hq.size;replace hB:=hB.ext hq;replace J:=J.ext hq;replace D:=D.ext hq;replace I:=I.ext hq;replace M:=M.ext hq;replace hC:=hC.next hq;have b6:=hq;rw[y1n hm]at Z;obtain⟨f8,g7,rfl,f3⟩:=Z.sl.form;have b8:=λk hb=>(Z.blk k hb).2;refine z0b (z0d 6 U (z0r h U λa h=>?_));refine z0b (z0d 7 U (z0r h U λa h=>?_));refine z0b (z0p ?_);clear hC b5 a2 a3 a4;refine bk (h.sub (L':=[(3,_),(4,_),(5,_),(6,_),(9,_),(10,_)]) (.c6 U U U U U U)) (tn (sq (sr (mv U U (lnS U underlying27 (eq' U (nn (cd U (λc2=>?_) (λc2=>?_)))))))));exfalso;omega;refine sk (tn (sq (sr (mv U U (lnS U underlying27 (mv U U (lnS U underlying27 (z1b U (wi6 oo) (gt' U (kpL [(3,_),(4,_),(5,_),(6,_),(9,_),(10,_),(49,_)] (.c7 U U U U U U U) (nn (cd U (λc3=>?_) (λc3=>?_)))))))))))));refine sr (z1y (cs:=[_,_]) z0f j5g z0s U ?_);replace O:=O.ext (q5.n4 q8 q9 a5 b6);exact z0k (vs:=[_,_]) U O y6h (λi8 O e9 j7=>(asg U (kpL [(6,_),(7,_)] (.c2 U U) (nn (rt (tr (rCT results123 U O z4w U ⟨_,rfl,⟨bdq0,by rw[if_pos oo];rfl,λh=>absurd oo h⟩,((((q1.n6 q2 q3 q4 q5 q8 q9).n1 a5).n1 b6).z1 e9)⟩)))))));refine sk (tn (sr (mv U U (cl (ev1 U) (mkC func85) (y8x _ (q.p.at (1-b) (m:Int)) _ Z.sl oo) U ?_))));rintro _ i9 ⟨g8,rfl,f4,hX,a6⟩;have j8:=a6.size;refine mv U U ?_;replace M:=M.ext a6;replace Z:=Z.ext a6;replace J:=J.ext a6;replace D:=D.ext a6;replace I:=I.ext a6;replace O:=O.ext (q5.n5 q8 q9 a5 b6 a6);have a0:=hX;refine z2l U hX M.sl z4x (λi3 f0 hX a7 e6=>?_) (hM:=(by unfold maxLen;omega)) (hb:=oo);have j9:=a7.size;replace M:=M.fr a7 (λk hk hb=>by have:=(a0.blk k hk).1;have:=b7 k hb;omega);replace Z:=Z.fr a7 (λk hk hb=>by have:=(a0.blk k hk).1;have:=b8 k hb;omega);replace J:=J.fr a7 (λhk=>by have:=(a0.blk _ hk).1;omega);replace D:=D.fr a7 (λhk=>by have:=(a0.blk _ hk).1;omega);replace I:=I.fr a7 (λhk=>by have:=(a0.blk _ hk).1;omega);replace O:=O.fr a7 (λhk=>by have:=(a0.blk _ hk).1;omega);refine asg U (nn (jn (ι:=Value) [(3,_),(4,_),(5,_),(6,_)] (λp=>[(11,p)]) (λp w'=>Fr [] f0 w'/\Lw.Own z1f 73 w0.heap.size w' p (y2y q.p b (n:Int) (m:Int))) (.c4 U U U U) ?_ ?_));refine sr (fad U z6v (z0i U D U x9d (eq' U (nn (cd U (λc4=>?_) (λc4=>?_))))));refine rg (mv U U (cl (ev1 U) (mkC func85) (y8x _ (q.p.at b (n:Int)) _ M.sl oo) U ?_));rintro _ j0 ⟨g9,rfl,f5,hY,a8⟩;have k0:=a8.size;refine mv U U ?_;replace M:=M.ext a8;replace Z:=Z.ext a8;replace J:=J.ext a8;replace D:=D.ext a8;replace I:=I.ext a8;replace O:=O.ext a8;have a1:=hY;refine z2l U hY Z.sl z4x (λi4 j1 hY a9 e7=>?_) (hM:=(by unfold maxLen;omega)) (hb:=oo);have k1:=a9.size;replace M:=M.fr a9 (λk hk hb=>by have:=(a1.blk k hk).1;have:=b7 k hb;omega);replace Z:=Z.fr a9 (λk hk hb=>by have:=(a1.blk k hk).1;have:=b8 k hb;omega);replace J:=J.fr a9 (λhk=>by have:=(a1.blk _ hk).1;omega);replace D:=D.fr a9 (λhk=>by have:=(a1.blk _ hk).1;omega);replace I:=I.fr a9 (λhk=>by have:=(a1.blk _ hk).1;omega);replace O:=O.fr a9 (λhk=>by have:=(a1.blk _ hk).1;omega);exact asg U (kpL [(3,_),(4,_),(5,_),(6,_),(11,_)] (.c5 U U U U U) (nl (jE (_) (.c5 U U U U U) ⟨(a8.step a9 (λk hk d6=>absurd (a1.blk k hk).1 oo)),(by unfold y2y;rw[if_pos oo];exact hY.low oo)⟩)));exact sk (jE (_) (.c5 U U U U U) ⟨(Fr.refl _ _),(by unfold y2y;rw[if_neg oo];exact hX.low oo)⟩);rintro vS j2 ⟨b3,hS⟩;have k2:=b3.size;refine kpC [(3,_),(4,_),(5,_),(6,_),(11,vS)] (.c5 U U U U U) ?_;obtain⟨AS,cS,rfl,h0⟩:=hS.sl.form;refine sq ?_;replace hB:=c9.ext ((((((q1.n6 q2 q3 q4 q5 q8 q9).n1 a5).n1 b6).n1 a6).step a7 (λk hk d6=>absurd (a0.blk k hk).1 oo)).next b3);intro a h;refine z0h (some 6) (λwb w'=>Fr [] wb w') z2m ?_;intro e0 b0;have k4:=b0.size;replace hB:=hB.ext b0;replace J:=J.ext (b3.n1 b0);replace D:=D.ext (b3.n1 b0);replace I:=I.ext (b3.n1 b0);replace O:=O.ext (b3.n1 b0);replace hS:=hS.ext b0;have hC:Fr [] e0 e0:=Fr.refl _ _;have b5:=hB;have a2:=J;have a3:=D;have a4:=I;have d1:=O;have d4:=hS;refine z0v 0 h U (λ_ hw=>a2.ext hw) z4w U λa h=>z0v 1 h U (λ_ hw=>a3.ext hw) z4k U λa h=>z0v 3 h U (λ_ hw=>a4.ext hw) z4k U λa h=>z0e 4 h U λa h=>z0d 2 U (z0o h (z0a U (z0a U (z0a U z0f))) (mkC func169) (y5b q b n _ [] _ hB (Sl.nil _) hn hf hb h4 b9 (Nat.zero_le _)) ?_);rintro _ j3 ⟨⟨qa,rfl,e2,d9⟩,q19⟩ a h;have k5:=q19.size;replace hS:=hS.ext q19;replace hC:=hC.next q19;rw[<-d9]at d7;obtain⟨⟨e4,e3⟩,e1,d3⟩:=z3w d7;refine z0b (z0d 5 U (z0o h (z0a U (z0a U (z0a U z0f))) (mkC func169) (y5b qa (1-b) m _ (y2y q.p b (n:Int) (m:Int)) _ e2.at hS.sl hm e4 e3 e1 d3 oo) ?_));rintro _ j4 ⟨⟨qb,rfl,d0,e8⟩,q20⟩ a h;have k6:=q20.size;replace J:=J.ext (q19.n1 q20);replace D:=D.ext (q19.n1 q20);replace I:=I.ext (q19.n1 q20);replace O:=O.ext (q19.n1 q20);replace hC:=hC.next q20;refine z0b (z0d 6 U (z0t h U O U y6h λf1 d5 b4 hz a h=>?_));have k7:=b4.size;replace J:=J.fr b4;replace D:=D.fr b4;replace I:=I.fr b4;replace d0:=d0.fr b4 (by intro k hk;simp at hk;omega);clear O hz;have O:Blk f1 g6 _ [_,_]:=d5;clear d5;refine z1m (z0d 7 U (z0r h U λa h=>?_));refine z1m (z0p ?_);clear hC b5 a2 a3 a4 d1 d4;exact bk (h.sub (L':=[(6,_),(7,_)]) (.c2 U U)) (tn (rt (rCT results123 U O z4w U ⟨_,rfl,⟨qb,by rw[if_neg oo],λ_=>⟨d0.low oo,by rw[e8,d9]⟩⟩,((((((((((q1.n6 q2 q3 q4 q5 q8 q9).n1 a5).n1 b6).n1 a6).step a7 (λk hk d6=>absurd (a0.blk k hk).1 oo)).next b3).next b0).next q19).next q20).sp b4)⟩)))
end Go.Proofs.YtjilcnmaefhmeaaGreatDoor
namespace Go.G08
open Go.Lw Go.G21
abbrev u6i:List Value:=[.int .i64 (-1),.int .i64 1]
theorem y5v {d:Int}(h:d=0\/d=1):u6i[d.toNat*1]?=some (.int .i64 (stI d)):=by
 rcases h with rfl|rfl<;>rfl
def z6c (x y:Int):Int:=if x<y then -1 else if y<x then 1 else 0
theorem z6f {x y:Int}:z6c x y<0↔x<y:=by
 unfold z6c;split;simp[*];split<;>simp[*]
abbrev hdL (h:Hd):List Value:=[.int .u8 h.id.y,.int .i64 h.id.n,.int .u8 h.b,.int .i64 h.n,.int .i64 h.s]
def z3l:Enc Hd:=⟨hdL,5,λ_=>rfl,λ_ u h=>by simp at h;rcases h with rfl|rfl|rfl|rfl|rfl<;>rfl,dd⟩
def x4h (l:List Hd):Prop:=l.Pairwise λa b=>a.s<=b.s
theorem x9c {h x:Hd}:∀ {l:List Hd},x∈y2l h l↔x=h\/x∈l
 | []=>by simp[y2l]
 | y::l=>by
  unfold y2l
  split
  ·simp
  simp only[List.mem_cons,x9c (l:=l)]
  constructor
  ·rintro(h|h|h)<;>simp[h]
  rintro(h|h|h)<;>simp[h]
theorem x8m (h:Hd):∀l:List Hd,(y2l h l).length=l.length+1
 | []=>rfl
 | y::l=>by
  unfold y2l;split
  ·rfl
  simp[x8m h l]
theorem x0v (h:Hd):∀l:List Hd,x4h l->x4h (y2l h l)
 | [],_=>List.pairwise_singleton ..
 | y::l,hs=>by
  obtain⟨J,M⟩:=List.pairwise_cons.1 hs
  unfold y2l
  split
  ·rename_i I
   refine List.pairwise_cons.2 ⟨λz D=>?_,hs⟩
   rcases List.mem_cons.1 D with rfl|D
   ·omega
   have:=J z D;omega
  rename_i I
  refine List.pairwise_cons.2 ⟨λz D=>?_,x0v h l M⟩
  rcases x9c.1 D with rfl|D
  ·omega
  exact J z D
theorem v9h (l:List Hd)(h:Hd):z5h (l++[h])=y2l h (z5h l):=by unfold z5h;rw[List.foldl_append];rfl
theorem v0h:∀(l a:List Hd),x4h a->x4h (l.foldl (λa h=>y2l h a) a)
 | [],a,h=>h
 | x::l,a,h=>v0h l _ (x0v x a h)
theorem z8b (l:List Hd):x4h (z5h l):=v0h l [] List.Pairwise.nil
theorem x1r:∀(l a:List Hd),(l.foldl (λa h=>y2l h a) a).length=a.length+l.length
 | [],a=>rfl
 | x::l,a=>by simp only[List.foldl_cons,x1r l,x8m,List.length_cons];omega
theorem z4h (l:List Hd):(z5h l).length=l.length:=by unfold z5h;rw[x1r];simp
theorem v7s {x:Hd}:∀ {A B:List Hd},(∀y∈A,¬x.s<y.s)->(∀y∈B,x.s<y.s)->y2l x (A++B)=A++x::B
 | [],[],_,_=>rfl
 | [],y::B,_,h=>by
  show y2l x (y::B)=x::y::B
  unfold y2l;rw[if_pos (h y (List.mem_cons_self ..))]
 | z::A,B,h1,h2=>by
  show y2l x (z::(A++B))=z::(A++x::B)
  unfold y2l
  rw[if_neg (h1 z (List.mem_cons_self ..)),v7s (λy D=>h1 y (List.mem_cons_of_mem _ D)) h2]
def y3n (P s:List Hd)(k:Nat)(x:Hd)(R:List Hd):List Hd:=P++(s.take k++(x::(s.drop k++R)))
theorem u3l {P s R:List Hd}{k:Nat}{x:Hd}:(y3n P s k x R).length=P.length+s.length+1+R.length:=by
 unfold y3n;have h:(s.take k).length+(s.drop k).length=s.length:=by rw[<-List.length_append,List.take_append_drop]
 simp only[List.length_append,List.length_cons];omega
theorem j5s {P s R:List Hd}{k:Nat}{x d:Hd}(D:k<=s.length):(y3n P s k x R).getD (P.length+k) d=x:=by
 unfold y3n;rw[List.getD,List.getElem?_append_right oo,show P.length+k-P.length=(s.take k).length+0 by rw[List.length_take];omega,List.getElem?_append_right oo];simp
theorem u7e {P s R:List Hd}{k:Nat}{x d:Hd}(D:k+1<=s.length):(y3n P s (k+1) x R).getD (P.length+k) d=s.getD k d:=by
 unfold y3n;rw[List.getD,List.getD,List.getElem?_append_right oo,show P.length+k-P.length=k by omega,List.getElem?_append_left (by rw[List.length_take];omega),List.getElem?_take,if_pos oo]
theorem x2t {P s R:List Hd}{k:Nat}{x d:Hd}(J:k+1<=s.length):((y3n P s (k+1) x R).set (P.length+k+1) (s.getD k d)).set (P.length+k) x=y3n P s k x R:=by
 have D:y3n P s (k+1) x R=(P++s.take k)++(s.getD k d::x::(s.drop (k+1)++R)):=by
  unfold y3n;have e:s.take (k+1)=s.take k++[s.getD k d]:=by rw[List.take_add_one,List.getD,List.getElem?_eq_getElem oo];rfl
  rw[e];simp only[List.append_assoc,List.cons_append,List.nil_append]
 have I:y3n P s k x R=(P++s.take k)++(x::s.getD k d::(s.drop (k+1)++R)):=by
  unfold y3n;have e:s.drop k=s.getD k d::s.drop (k+1):=by rw[List.drop_eq_getElem_cons (show k<s.length by omega),List.getD,List.getElem?_eq_getElem oo];rfl
  rw[e];simp only[List.append_assoc,List.cons_append]
 have M:(P++s.take k).length=P.length+k:=by rw[List.length_append,List.length_take];omega
 rw[D,I,List.set_append_right _ _ oo,show P.length+k+1-(P++s.take k).length=1 by omega,List.set_append_right _ _ oo,show P.length+k-(P++s.take k).length=0 by omega];rfl
theorem x2g {P s R:List Hd}{k:Nat}{x:Hd}(M:x4h s)(O:k<=s.length)(h1:k=0\/¬x.s<(s.getD (k-1) hd0).s)(J:∀j,k<=j->j<s.length->x.s<(s.getD j hd0).s):y3n P s k x R=P++(y2l x s++R):=by
 have e:y2l x s=s.take k++x::s.drop k:=by
  conv=>lhs;rw[<-List.take_append_drop k s]
  refine v7s (λy I=>?_) (λy I=>?_)
  ·obtain⟨j,D,rfl⟩:=List.getElem_of_mem I
   rw[List.length_take]at D
   rw[List.getElem_take]
   rcases h1 with rfl|h1
   ·omega
   rw[List.getD,List.getElem?_eq_getElem oo]at h1
   simp only[Option.getD_some]at h1
   by_cases e:j=k-1
   ·subst e;exact h1
   have:=List.pairwise_iff_getElem.1 M j (k-1) oo oo oo
   omega
  obtain⟨j,D,rfl⟩:=List.getElem_of_mem I
  rw[List.length_drop]at D
  rw[List.getElem_drop]
  have:=J (k+j) oo oo
  rwa [List.getD,List.getElem?_eq_getElem oo]at this
 unfold y3n
 rw[e];simp
theorem v1l {P s R:List Hd}{x:Hd}:y3n P s s.length x R=P++(s++x::R):=by
 unfold y3n;rw[List.take_length,List.drop_length];rfl
def z8a (l:List Hd)(lo up i:Nat):List Hd:=l.take lo++(z5h ((l.take (min i up)).drop lo)++l.drop (min i up))
theorem z6k {l:List Hd}{D i:Nat}(h:D<=i)(I:i<=l.length):(z5h ((l.take i).drop D)).length=i-D:=by
 rw[z4h,List.length_drop,List.length_take];omega
theorem j6g {l:List Hd}{D I:Nat}(h:D<=I)(Z:I<=l.length):z8a l D I (D+1)=l:=by
 unfold z8a;by_cases e:D<I;rw[show min (D+1) I=D+1 by omega];have J:(l.take (D+1)).drop D=[l.getD D hd0]:=by
  rw[List.take_add_one,List.drop_append,List.drop_eq_nil_of_le (by rw[List.length_take];omega),List.length_take,show D-min D l.length=0 by omega,List.getD,List.getElem?_eq_getElem oo];rfl
 rw[J];have M:z5h [l.getD D hd0]=[l.getD D hd0]:=rfl;rw[M,<-List.append_assoc];have O:l.take D++[l.getD D hd0]=l.take (D+1):=by rw[List.take_add_one,List.getD,List.getElem?_eq_getElem oo];rfl
 rw[O,List.take_append_drop];rw[show min (D+1) I=D by omega];have J:(l.take D).drop D=[]:=List.drop_eq_nil_of_le (by rw[List.length_take];omega);rw[J];exact List.take_append_drop D l
theorem j2f {l:List Hd}{D I i:Nat}(h:D<=i)(M:i<I)(O:I<=l.length):z8a l D I i=y3n (l.take D) (z5h ((l.take i).drop D)) (i-D) (l.getD i hd0) (l.drop (i+1)):=by
 have J:=z6k (l:=l) h oo;rw[<-J,v1l];unfold z8a;rw[show min i I=i by omega];congr 2;rw[List.drop_eq_getElem_cons (show i<l.length by omega),List.getD,List.getElem?_eq_getElem oo];rfl
theorem x4g {l:List Hd}{D I i:Nat}(h:D<=i)(M:i<I)(O:I<=l.length):l.take D++(y2l (l.getD i hd0) (z5h ((l.take i).drop D))++l.drop (i+1))=z8a l D I (i+1):=by
 unfold z8a;rw[show min (i+1) I=i+1 by omega];have J:(l.take (i+1)).drop D=(l.take i).drop D++[l.getD i hd0]:=by
  rw[List.take_add_one,List.drop_append,List.length_take,show D-min i l.length=0 by omega,List.getD,List.getElem?_eq_getElem oo];rfl
 rw[J,v9h]
theorem u4t {l:List Hd}{I D i:Nat}(h:D<=i):z8a l I D i=z8a l I D D:=by
 unfold z8a;rw[show min i D=min D D by omega]
theorem y8p (b r:Int)(l:Bed)(i:Nat):hds b r l (i+1)=hds b r l i++(l.getD i []).map (hdS b r i):=by
 unfold hds;rw[List.range_succ,List.flatMap_append];simp
theorem x5k (b r:Int)(l:List IQ)(h:y0b l)(i:Nat):(hds b r (plB l) i).length<=4*i:=by
 induction i with
 | zero=>simp[hds]
 | succ i ih=>
  rw[y8p,List.length_append,List.length_map,z4g];have:=z3o h i;omega
theorem y4j {α β:Type}(f:α->β){l:List α}{j:Nat}(d:α)(h:j<l.length):(l.take (j+1)).map f=(l.take j).map f++[f (l.getD j d)]:=by
 rw[z1s d h,List.map_append];rfl
theorem v8l (b r:Int)(l:Bed):(hds b r l l.length).length=l.flatten.length:=by
 induction l with
 | nil=>rfl
 | cons s l ih=>
  unfold hds at *
  rw[List.length_cons,List.range_succ_eq_map,List.flatMap_cons,List.length_append,List.flatMap_map,List.flatten_cons,List.length_append,<-ih];simp[List.length_flatMap,Function.comp_def]
theorem y4q (B:Bd)(r:Int):(v3e B r).length=B.flat.length:=by
 unfold v3e Bd.flat;rw[List.length_append,List.length_append,v8l,v8l]
def IsB (v:Value):Prop:=∃g n c,v=Value.slice (some ⟨g,0,none⟩) n c
theorem j4c {α:Type}{E:Enc α}{T base:Nat}{w:World}{v:Value}{ys:List α}(h:Lw.Own E T base w v ys)(D:ys≠[]):IsB v:=by
 rcases h with ⟨rfl,rfl⟩|⟨g,cap,cur,rfl,_⟩
 exact absurd U D;exact⟨_,_,_,rfl⟩
theorem u4l {α:Type}{E:Enc α}{T base:Nat}{w:World}{v:Value}{ys:List α}(h:IsB v)(ho:Lw.Own E T base w v ys):∃g c,v=.slice (some ⟨g,0,none⟩) ys.length c:=by
 obtain⟨g,n,c,rfl⟩:=h;obtain⟨A,D,e,_⟩:=ho.sl.form;cases e;exact⟨_,_,rfl⟩
def j2n {α:Type}(d:α)(ys zs:List α)(k:Nat):Prop:=zs.length=ys.length/\∀p,p<ys.length->zs.getD p d=if p<k\/ys.length-1-p<k then ys.getD (ys.length-1-p) d else ys.getD p d
theorem z7u {α:Type}{d:α}{ys zs:List α}{k:Nat}(J:k<ys.length-1-k)(h:j2n d ys zs k):j2n d ys ((zs.set k (zs.getD (ys.length-1-k) d)).set (ys.length-1-k) (zs.getD k d)) (k+1):=by
 obtain⟨D,h⟩:=h;refine⟨by rw[List.length_set,List.length_set];exact D,λp I=>?_⟩;rw[z1j (by rw[List.length_set];omega),z1j oo,h k oo,h (ys.length-1-k) oo,h p I];rw[if_neg (show ¬(k<k\/ys.length-1-k<k) by omega),if_neg (show ¬(ys.length-1-k<k\/ys.length-1-(ys.length-1-k)<k) by omega)];by_cases e1:ys.length-1-k=p;subst e1;rw[if_pos U,if_pos oo];congr 1;omega;rw[if_neg e1];by_cases e2:k=p;subst e2;rw[if_pos U,if_pos oo];rw[if_neg e2];by_cases e3:p<k\/ys.length-1-p<k;rw[if_pos e3,if_pos oo];rw[if_neg e3,if_neg oo]
theorem y9u {α:Type}{d:α}{ys zs:List α}{k:Nat}(O:¬(k:Int)<(ys.length:Int)-1-k)(h:j2n d ys zs k):zs=ys.reverse:=by
 obtain⟨I,h⟩:=h;refine List.ext_getElem (by simpa using I) λp D M=>?_;have J:p<ys.length:=by rw[<-I];exact D
 have:=h p J;rw[List.getElem_reverse];rw[List.getD,List.getElem?_eq_getElem D,Option.getD_some]at this;rw[this];split;rw[List.getD,List.getElem?_eq_getElem oo];rfl;have e:p=ys.length-1-p:=by omega
 rw[List.getD,List.getElem?_eq_getElem J,Option.getD_some];congr 1
theorem v8n {α:Type}(d:α)(ys:List α):j2n d ys ys 0:=⟨rfl,λp D=>by rw[if_neg oo]⟩
end Go.G08
namespace Go.Proofs.YtjilcnmaefhmeaaGreatDoor
open Go.Lw Go.G21 Go.G08 _root_.Go.Proofs.Tryz
theorem x0s:z0y prog 206 2 4:=λ_ _=>kr
structure StT (w:World):Prop where
  c:Cells w ⟨3,0,none⟩ u6i
theorem StT.ext {w w':World}(h:StT w)(hf:Fr [] w w'):StT w':=⟨h.c.fr hf sp0⟩
theorem v8y (x:Int)(w0:World):Rets prog 129 #[.int .i64 x] w0 λr w'=>r=.bool false/\Fr [] w0 w':=by
 refine we [(0,.int .i64 x)] func129 U ntmps129 U (.cons U .nil) (sr (asg U (nn (sr (mv U U (mv U U (ne' U (asg U (nn (rt (r1 results129 U ?_)))))))))));exact⟨_,rfl,congrArg Value.bool (decide_eq_false (λh=>h U)),(Fr.refl _ _)⟩
theorem v7x (x y:Int)(w0:World):Rets prog 67 #[.int .i64 x,.int .i64 y] w0 λr w'=>r=.int .i64 (z6c x y)/\Fr [] w0 w':=by
 refine we [(0,.int .i64 x),(1,.int .i64 y)] func67 U ntmps67 U (.c2 U U) (sr (asg U (nn (sr (mv U U (cl (ev1 U) (mkC func129) (v8y _ _) U ?_))))));rintro _ w1 ⟨rfl,D⟩;refine asg U (nn (sr (mv U U (cl (ev1 U) (mkC func129) (v8y _ _) U ?_))));rintro _ w2 ⟨rfl,I⟩;refine asg U (nn (sq (sr (mv U U (nn (cf U (sk (tn (sq (sr (mv U U (nn (cf U (sk (tn (sq (sr (mv U U (mv U U (lt' U (nn (cd U (λc3=>?_) (λc3=>?_)))))))))))))))))))))));refine sr (asg U (nn (rt (tr (r1 results67 U ?_)))));exact⟨_,rfl,by first|(rw[z6c,if_pos c3])|(unfold z6c;(repeat' split)<;>first|rfl|omega),(D.n1 I)⟩;refine sk (tn (sq (sr (mv U U (mv U U (gt' U (nn (cd U (λc4=>?_) (λc4=>?_)))))))));refine sr (asg U (nn (rt (tr (r1 results67 U ?_)))));exact⟨_,rfl,by first|(rw[z6c,if_neg c3,if_pos c4])|(unfold z6c;(repeat' split)<;>first|rfl|omega),(D.n1 I)⟩;refine sk (tn (sr (asg U (nn (rt (r1 results67 U ?_))))));exact⟨_,rfl,by first|(rw[z6c,if_neg c3,if_neg c4])|(unfold z6c;(repeat' split)<;>first|rfl|omega),(D.n1 I)⟩
theorem u6a (x:Int)(w0:World):Rets prog 180 #[.int .u8 x] w0 λr w'=>r=.bool false/\Fr [] w0 w':=by
 refine we [(0,.int .u8 x)] func180 U ntmps180 U (.cons U .nil) (sr (asg U (nn (sr (mv U U (mv U U (ne' U (asg U (nn (rt (r1 results180 U ?_)))))))))));exact⟨_,rfl,congrArg Value.bool (decide_eq_false (λh=>h U)),(Fr.refl _ _)⟩
theorem j9y (x y:Int)(w0:World):Rets prog 131 #[.int .u8 x,.int .u8 y] w0 λr w'=>r=.int .i64 (z6c x y)/\Fr [] w0 w':=by
 refine we [(0,.int .u8 x),(1,.int .u8 y)] func131 U ntmps131 U (.c2 U U) (sr (asg U (nn (sr (mv U U (cl (ev1 U) (mkC func180) (u6a _ _) U ?_))))));rintro _ w1 ⟨rfl,D⟩;refine asg U (nn (sr (mv U U (cl (ev1 U) (mkC func180) (u6a _ _) U ?_))));rintro _ w2 ⟨rfl,I⟩;refine asg U (nn (sq (sr (mv U U (nn (cf U (sk (tn (sq (sr (mv U U (nn (cf U (sk (tn (sq (sr (mv U U (mv U U (lt' U (nn (cd U (λc3=>?_) (λc3=>?_)))))))))))))))))))))));refine sr (asg U (nn (rt (tr (r1 results131 U ?_)))));exact⟨_,rfl,by first|(rw[z6c,if_pos c3])|(unfold z6c;(repeat' split)<;>first|rfl|omega),(D.n1 I)⟩;refine sk (tn (sq (sr (mv U U (mv U U (gt' U (nn (cd U (λc4=>?_) (λc4=>?_)))))))));refine sr (asg U (nn (rt (tr (r1 results131 U ?_)))));exact⟨_,rfl,by first|(rw[z6c,if_neg c3,if_pos c4])|(unfold z6c;(repeat' split)<;>first|rfl|omega),(D.n1 I)⟩;refine sk (tn (sr (asg U (nn (rt (r1 results131 U ?_))))));exact⟨_,rfl,by first|(rw[z6c,if_neg c3,if_neg c4])|(unfold z6c;(repeat' split)<;>first|rfl|omega),(D.n1 I)⟩
theorem y9n (x y:Hd)(w0:World):Rets prog 164 #[.agg #[.int .u8 x.id.y,.int .i64 x.id.n,.int .u8 x.b,.int .i64 x.n,.int .i64 x.s],.agg #[.int .u8 y.id.y,.int .i64 y.id.n,.int .u8 y.b,.int .i64 y.n,.int .i64 y.s]] w0 λr w'=>r=.int .i64 (z6c x.s y.s)/\Fr [] w0 w':=by
 refine we [(0,.agg #[.int .u8 x.id.y,.int .i64 x.id.n,.int .u8 x.b,.int .i64 x.n,.int .i64 x.s]),(1,.agg #[.int .u8 y.id.y,.int .i64 y.id.n,.int .u8 y.b,.int .i64 y.n,.int .i64 y.s])] func164 U ntmps164 U (.c2 U U) (sr (bx U (λg2 w1 M D Z z1=>(bx U (λg3 w2 O I J z2=>(asg U (nn (sr (fad U x0s ?_)))))))));replace D:=D.ext J;refine z0i U D U na3 (fad U x0s (z0i U I U na3 (cl (ev2 U) (mkC func67) (v7x _ _ _) U ?_)));rintro _ w3 ⟨rfl,q3⟩;exact asg U (kpL [(4,_)] (.cons U .nil) (nn (rt (r1 results164 U ⟨_,rfl,rfl,(Z.n2 J q3)⟩))))
theorem y7r (r:Int)(w0:World):Rets prog 224 #[.int .i64 r] w0 λv w'=>v=.bool (decide (-4<=r/\r<=4))/\Fr [] w0 w':=by
 refine we [(0,.int .i64 r)] func224 U ntmps224 U (.cons U .nil) (sr (asg U (nn (sq (rbo (r:=2) (L':=[]) (((-4<=r)/\(r<=4))) .nil ?_ ?_)))));refine mv U U (ge' U U (mv U U (gs 5 U (λD=>?_) (λD=>?_))));exact gY U (mv U U (gY U (le' U U (pkt U (asg U (rbe U .nil))))));exact gN U (gN U (pkf U (asg U (rbe U .nil))));exact tn (rt (r1 results224 U ⟨_,rfl,rfl,(Fr.refl _ _)⟩))
theorem x2x (q:BdQ)(r:Int)(w0:World)(D:BdAt w0 q)(hv:BdOk q.p)(hr:-4<=r/\r<=4):Rets prog 161 #[.agg #[.slice q.f.1 q.f.2.1 q.f.2.2,.slice q.b.1 q.b.2.1 q.b.2.2],.int .i64 r] w0 λv w'=>v=.int .i64 0/\Fr [] w0 w':=by
 refine we [(0,.agg #[.slice q.f.1 q.f.2.1 q.f.2.2,.slice q.b.1 q.b.2.1 q.b.2.2]),(1,.int .i64 r)] func161 U ntmps161 U (.c2 U U) ?_;have I:=D;refine sr (bx U (λg2 w1 a0 J Z z1=>(asg U (nn (sq (sr (z0n U J z4w ?_)))))));replace D:=I.ext Z;refine cl (ev1 U) (mkC func48) (y9k q _ D hv) U ?_;rintro _ w2 ⟨rfl,q2⟩;refine asg U (nn (sr (mv U U (ne' U (nn (cd U (λM=>?_) (λM=>?_)))))));exact absurd U M;refine sk (tn (sq (sr (mv U U (cl (ev1 U) (mkC func224) (y7r _ _) U ?_)))));rintro _ w3 ⟨rfl,q3⟩;refine nt' U (nn (cd U (λO=>?_) (λO=>?_)));exact absurd hr O;exact sk (tn (sr (asg U (nn (rt (r1 results161 U ⟨_,rfl,rfl,(Z.n2 q2 q3)⟩))))))
theorem x4p (q:BdQ)(r d:Int)(w0:World)(D:BdAt w0 q)(hv:BdOk q.p)(J:StT w0)(hr:-4<=r/\r<=4)(hd:d=0\/d=1)(Z:-4<=r+stI d/\r+stI d<=4):Rets prog 249 #[.agg #[.slice q.f.1 q.f.2.1 q.f.2.2,.slice q.b.1 q.b.2.1 q.b.2.2],.int .i64 r,.int .u8 d] w0 λv w'=>v=.int .i64 0/\Fr [] w0 w':=by
 refine we [(0,.agg #[.slice q.f.1 q.f.2.1 q.f.2.2,.slice q.b.1 q.b.2.1 q.b.2.2]),(1,.int .i64 r),(2,.int .u8 d)] func249 U ntmps249 U (.c3 U U U) ?_;have I:=D;have M:=J;refine sr (bx U (λg3 w1 a0 O q1 z1=>(asg U (nn (sq (sr (z0n U O z4w (mv U U ?_))))))));replace D:=I.ext q1;refine cl (ev2 U) (mkC func161) (x2x q _ _ D hv oo) U ?_;rintro _ w2 ⟨rfl,q2⟩;refine asg U (nn (sr (mv U U (ne' U (nn (cd U (λc0=>?_) (λc0=>?_)))))));exact absurd U c0;refine sk (tn (sq (sq (rbo (r:=19) (L':=[(1,_),(2,_)]) (((d≠0)/\(d≠1))) (.c2 U U) ?_ ?_))));refine mv U U (ne' U (mv U U (gs 16 U (λg0=>?_) (λg0=>?_))));exact gY U (mv U U (gY U (ne' U (pkt U (rbe U (.c2 U U))))));exact gN U (gN U (pkf U (rbe U (.c2 U U))));refine tn (cd U (λc1=>?_) (λc1=>?_));exfalso;omega;refine sk (tn (sq (sr (mv U U (mv U U (y3z U U underlying342 sz3 ?_))))));replace J:=M.ext (q1.n1 q2);refine y0y U J.c (y5v hd) na3 U (z1b U (wi6 oo) (cl (ev1 U) (mkC func224) (y7r _ _) U ?_));rintro _ w3 ⟨rfl,q3⟩;refine nt' U (kpL [(26,_)] (.cons U .nil) (nn (cd U (λc2=>?_) (λc2=>?_))));exact absurd Z c2;exact sk (tn (sr (asg U (nn (rt (r1 results249 U ⟨_,rfl,rfl,(q1.n2 q2 q3)⟩))))))
theorem z4z:z3q prog 206 5:=⟨λ_=>kr,λ_=>kr⟩
theorem z3g:ElemOf prog 202 206 z3l 40:=ElemOf.mk' (z:=(.agg #[.int .u8 0,.int .i64 0,.int .u8 0,.int .i64 0,.int .i64 0])) underlying202 kr U
theorem z8l:z1q prog 206 5:=λ_=>kr
theorem u6r (g c base I Z:Nat)(l:List Hd)(w0:World)(ho:Lw.Own z3l 206 base w0 (.slice (some ⟨g,0,none⟩) l.length c) l)(hl:l.length<=1000000)(O:I<=Z/\Z<=l.length):Rets prog 265 #[.slice (some ⟨g,0,none⟩) l.length c,.int .i64 (I:Int),.int .i64 (Z:Int),.func (.func 164) #[] #[]] w0 λr w'=>r=.tuple #[]/\Lw.Own z3l 206 base w' (.slice (some ⟨g,0,none⟩) l.length c) (z8a l I Z Z)/\Fr [g] w0 w':=by
 refine we [(0,.slice (some ⟨g,0,none⟩) l.length c),(1,.int .i64 (I:Int)),(2,.int .i64 (Z:Int)),(3,.func (.func 164) #[] #[])] func265 U ntmps265 U (.c4 U U U U) (sr (mv U U (z1b U (wi6 oo) (asg U (nn (bl ?_))))));refine lpK (ι:=Nat) [(0,_),(1,_),(2,_),(3,_)] (λi=>[(8,.int .i64 (i:Int))]) (λi w'=>Fr [g] w0 w'/\(I+1<=i/\(i<=Z\/i=I+1))/\Lw.Own z3l 206 base w' (.slice (some ⟨g,0,none⟩) l.length c) (z8a l I Z i)) (λi=>Z-i) (I+1) (.c5 U U U U (congrArg (λz=>some (Value.int .i64 z)) (show (I:Int)+1=((I+1:Nat):Int) by omega))) ⟨Fr.refl _ _,⟨⟨Nat.le_refl _,.inr U⟩,by rw[j6g O.1 O.2];exact ho⟩⟩ ?_;rintro i w1 ⟨q1,⟨hi,ho⟩⟩;refine kpC [(0,_),(1,_),(2,_),(3,_),(8,_)] (.c5 U U U U U) (sq (sr (mv U U (mv U U (lt' U (nn (cd U (λc0=>?_) (λc0=>?_))))))));have b0:i<Z:=by omega
 obtain⟨s,hs⟩:∃s,s=z5h ((l.take i).drop I):=⟨_,rfl⟩;obtain⟨x,hx⟩:∃x,x=l.getD i hd0:=⟨_,rfl⟩;have b3:s.length=i-I:=by rw[hs];exact z6k oo oo
 have a9:x4h s:=by rw[hs];exact z8b _
 rw[j2f oo b0 O.2,<-hs,<-hx,<-b3]at ho;refine sk (tn (sq (bl (sr (mv U U (asg U (nn (bl ?_))))))));refine lpK (ι:=Nat) [(0,_),(1,_),(2,_),(3,_),(8,_)] (λk=>[(9,.int .i64 ((I+k:Nat):Int))]) (λk w'=>Fr [g] w1 w'/\k<=s.length/\Lw.Own z3l 206 base w' (.slice (some ⟨g,0,none⟩) l.length c) (y3n (l.take I) s k x (l.drop (i+1)))/\∀j,k<=j->j<s.length->x.s<(s.getD j hd0).s) (λk=>k) s.length (.c6 U U U U U (congrArg (λz=>some (Value.int .i64 z)) (show (i:Int)=((I+s.length:Nat):Int) by omega))) ⟨Fr.refl _ _,⟨Nat.le_refl _,ho,λj h1 h2=>oo⟩⟩ ?_;rintro k w2 ⟨q2,⟨hk,ho,a1⟩⟩;refine kpC [(0,_),(1,_),(2,_),(3,_),(8,_),(9,_)] (.c6 U U U U U U) ?_;have b8:(y3n (l.take I) s k x (l.drop (i+1))).length=l.length:=by rw[u3l,List.length_take,List.length_drop];omega
 have a0:(y3n (l.take I) s k x (l.drop (i+1))).getD (I+k) hd0=x:=by have:=j5s (P:=l.take I) (R:=l.drop (i+1)) (x:=x) (d:=hd0) hk;rwa [List.length_take,show min I l.length=I by omega]at this
 refine sq (sq ?_);intro a h;refine z0h none (λwb w'=>Fr [] wb w') z2m ?_;intro w3 q3;replace ho:=ho.ext q3;have hC:Fr [] w3 w3:=Fr.refl _ _;have M:=ho;refine z0e 0 h U λa h=>z0e 1 h U λa h=>v1r 2 hC h wn U U λa h=>z0e 3 h U λa h=>gSp (D:=21) h U ?_ ?_;clear h;intro g0 h;refine z0e 4 h U ?_ (hG:=(wy U));clear h a;intro a h;refine z0e 5 h U ?_ (hG:=(wy U));clear h a;intro a h;refine z0e 6 h U ?_ (hG:=(wy U));clear h a;intro a h;refine z1i (p:=I+k) (hd0) 7 h U ho.sl U z3g U ?_ (hG:=(wy U));clear h a;intro b4 a5 a h;refine z2q 8 h (wy U) U (λ_ hw=>a5 _ (M.sl.ext hw)) z4z U λa h=>z0e 9 h U ?_ (hG:=(wy U));clear h a;intro a h;refine z0e 10 h U ?_ (hG:=(wy U));clear h a;intro a h;refine z2w 11 h (wy U) U (by first|exact i6 oo|rfl) U λa h=>z1i (p:=I+k-1) (hd0) 12 h U ho.sl U z3g U ?_ (hG:=(wy U));clear h a;intro b5 a6 a h;refine z2q 13 h (wy U) U (λ_ hw=>a6 _ (M.sl.ext hw)) z4z U λa h=>z0d 14 U (y6m h U U U U U U (y1c (us:=[]) (ws:=[]) h U (z0a U (z0a U z0f)) (mkC func164) (y9n ((y3n (l.take I) s k x (l.drop (i+1))).getD (I+k) hd0) ((y3n (l.take I) s k x (l.drop (i+1))).getD (I+k-1) hd0) _) U (by intro g e;cases e) ?_));rintro _ w4 ⟨rfl,q4⟩ a h;replace ho:=ho.ext q4;replace hC:=hC.next q4;refine z0b (v3a 15 hC h (wy U) U U λa h=>z0d 16 U (z5p h U λa h=>?_));refine z0b (z0p ?_);clear hC M;refine bk (h.sub (L':=[(0,_),(1,_),(2,_),(3,_),(8,_),(9,_),(34,_)]) (.c7 U U U U U U U)) (tn (cd U (λc1=>?_) (λc1=>?_)));have b9:0<k:=by omega
 have a4:(y3n (l.take I) s k x (l.drop (i+1))).getD (I+k-1) hd0=s.getD (k-1) hd0:=by have:=u7e (P:=l.take I) (s:=s) (R:=l.drop (i+1)) (x:=x) (d:=hd0) (k:=k-1) oo;rwa [List.length_take,show min I l.length=I by omega,show k-1+1=k by omega,show I+(k-1)=I+k-1 by omega]at this
 have a7:x.s<(s.getD (k-1) hd0).s:=by rw[a0,a4]at c1;exact z6f.1 c1
 refine sk (tn (sq (bl ?_)));intro a h;refine z0h (some 17) (λwb w'=>Fr [g] wb w') z2m ?_;intro w5 q5;replace ho:=ho.ext q5;have hC:Fr [g] w5 w5:=Fr.refl _ _;have M:=ho;refine z0e 0 h U λa h=>z0e 1 h U λa h=>z0e 2 h U λa h=>z0e 3 h U λa h=>z2w 4 h wn U (by first|exact i6 oo|rfl) U λa h=>z0e 5 h U λa h=>z0e 6 h U λa h=>z2w 7 h wn U (by first|exact i6 oo|rfl) U λa h=>z1i (p:=I+k-1) (hd0) 8 h U ho.sl U z3g U λb6 a2 a h=>z0e 10 h U λa h=>z0e 11 h U λa h=>z1i (p:=I+k) (hd0) 12 h U ho.sl U z3g U λb7 a3 a h=>z1x 9 13 kr U ?_ ?_;refine z1t h U (a2 _ ho.sl) z4z U λa h=>z0b (z0d 13 U (z1t h U (a3 _ ho.sl) z4z U λa h=>?_));refine z0b (z1p 14 kr kr kr hC (p:=I+k) h wn U z3g oo oo oo U U λa h=>z0d 15 U (z1c (i:=I+k) ((y3n (l.take I) s k x (l.drop (i+1))).getD (I+k-1) hd0) h U ho oo U z8l λw6 J q6 _hz a h=>?_));replace hC:=hC.sp q6;clear _hz ho;have ho:=J;clear J;refine z0b (z1p 16 kr kr kr hC (p:=I+k-1) h wn U z3g oo oo oo U U λa h=>z0d 17 U (z1c (i:=I+k-1) ((y3n (l.take I) s k x (l.drop (i+1))).getD (I+k) hd0) h U ho (by rw[List.length_set];omega) U z8l λw7 J q7 _hz a h=>?_));clear _hz ho;have ho:=J;clear J;refine z1m (z0p ?_);clear hC M;refine bk (h.sub (L':=[(0,_),(1,_),(2,_),(3,_),(8,_),(9,_)]) (.c6 U U U U U U)) (bn' (tn (rg (mv U U (z2p U (wi6 oo) (asg U (nl ?_)))))));exact lpE (k-1) (.c6 U U U U U (congrArg (λz=>some (Value.int .i64 z)) (show ((I+k:Nat):Int)-1=((I+(k-1):Nat):Int) by omega))) ⟨((Fr.refl [g] _).z6 q2 q3 q4 q5 q6 q7),⟨oo,by rw[a0,a4]at ho;have e:=x2t (P:=l.take I) (s:=s) (R:=l.drop (i+1)) (x:=x) (d:=hd0) (k:=k-1) oo;rw[List.length_take,show min I l.length=I by omega,show k-1+1=k by omega,show I+(k-1)+1=I+k by omega]at e;rw[<-e,show I+(k-1)=I+k-1 by omega];exact ho,λj h1 h2=>by
  by_cases e:k<=j;exact a1 j e h2;obtain rfl:j=k-1:=by omega
  exact a7⟩⟩ oo
 refine z1t h U (a3 _ ho.sl) z4z U λa h=>z0b (z0d 9 U (z1t h U (a2 _ ho.sl) z4z U λa h=>?_));refine z0b (z1p 14 kr kr kr hC (p:=I+k) h wn U z3g oo oo oo U U λa h=>z0d 15 U (z1c (i:=I+k) ((y3n (l.take I) s k x (l.drop (i+1))).getD (I+k-1) hd0) h U ho oo U z8l λw8 J q8 _hz a h=>?_));replace hC:=hC.sp q8;clear _hz ho;have ho:=J;clear J;refine z0b (z1p 16 kr kr kr hC (p:=I+k-1) h wn U z3g oo oo oo U U λa h=>z0d 17 U (z1c (i:=I+k-1) ((y3n (l.take I) s k x (l.drop (i+1))).getD (I+k) hd0) h U ho (by rw[List.length_set];omega) U z8l λw9 J q9 _hz a h=>?_));clear _hz ho;have ho:=J;clear J;refine z1m (z0p ?_);clear hC M;refine bk (h.sub (L':=[(0,_),(1,_),(2,_),(3,_),(8,_),(9,_)]) (.c6 U U U U U U)) (bn' (tn (rg (mv U U (z2p U (wi6 oo) (asg U (nl ?_)))))));exact lpE (k-1) (.c6 U U U U U (congrArg (λz=>some (Value.int .i64 z)) (show ((I+k:Nat):Int)-1=((I+(k-1):Nat):Int) by omega))) ⟨((Fr.refl [g] _).z6 q2 q3 q4 q5 q8 q9),⟨oo,by rw[a0,a4]at ho;have e:=x2t (P:=l.take I) (s:=s) (R:=l.drop (i+1)) (x:=x) (d:=hd0) (k:=k-1) oo;rw[List.length_take,show min I l.length=I by omega,show k-1+1=k by omega,show I+(k-1)+1=I+k by omega]at e;rw[<-e,show I+(k-1)=I+k-1 by omega];exact ho,λj h1 h2=>by
  by_cases e:k<=j;exact a1 j e h2;obtain rfl:j=k-1:=by omega
  exact a7⟩⟩ oo
 have a8:k=0\/¬x.s<(s.getD (k-1) hd0).s:=by
  first
  | exact .inl oo
  | (refine .inr λe=>c1 ?_;have:=u7e (P:=l.take I) (s:=s) (R:=l.drop (i+1)) (x:=x) (d:=hd0) (k:=k-1) oo;rw[List.length_take,show min I l.length=I by omega,show k-1+1=k by omega,show I+(k-1)=I+k-1 by omega]at this;rw[a0,this];exact z6f.2 e)
 exact ex (te (te (xh (bn' (tn (rg (mv U U (z1b U (wi6 oo) (asg U (nl (lpE (i+1) (.c5 U U U U U) ⟨((Fr.refl [g] _).z4 q1 q2 q3 q4),⟨oo,by rw[<-x4g oo oo O.2,<-hs,<-hx,<-x2g (k:=k) a9 hk (by first|exact a8|exact .inl oo) a1];exact ho⟩⟩ oo)))))))))));clear h;intro g0 h;refine z2k 4 h U U λa h=>z2k 5 h U U λa h=>z2k 6 h U U λa h=>z2k 7 h U U λa h=>z2k 8 h U U λa h=>z2k 9 h U U λa h=>z2k 10 h U U λa h=>z2k 11 h U U λa h=>z2k 12 h U U λa h=>z2k 13 h U U λa h=>z2k 14 h U U λa h=>z2k 15 h U U λa h=>z0d 16 U (z4d h U U λa h=>?_);refine z0b (z0p ?_);clear hC M;exact bk (h.sub (L':=[(0,_),(1,_),(2,_),(3,_),(8,_),(9,_),(34,_)]) (.c7 U U U U U U U)) (tn (cf U (ex (te (te (xh (bn' (tn (rg (mv U U (z1b U (wi6 oo) (asg U (nl (lpE (i+1) (.c5 U U U U U) ⟨((Fr.refl [g] _).z3 q1 q2 q3),⟨oo,by rw[<-x4g oo oo O.2,<-hs,<-hx,<-x2g (k:=k) a9 hk (by first|exact a8|exact .inl oo) a1];exact ho⟩⟩ oo))))))))))))));rw[u4t oo]at ho;refine ex (te (te (xh (r0n results265  ?_))));exact⟨_,rfl,rfl,ho,(q1.weak se)⟩
end Go.Proofs.YtjilcnmaefhmeaaGreatDoor
namespace Go.G08
open Go.Lw Go.G21
def flK (k:Int)(l:List Hd):List Hd:=l.filter λh=>decide (h.s=k)
theorem z8i (k:Int)(a b:List Hd):flK k (a++b)=flK k a++flK k b:=List.filter_append ..
theorem x5c {k:Int}{l:List Hd}(h:∀x∈l,x.s≠k):flK k l=[]:=by
 unfold flK;rw[List.filter_eq_nil_iff];intro x D;simpa using h x D
theorem z6a (k:Int)(x:Hd)(l:List Hd):flK k (x::l)=if x.s=k then x::flK k l else flK k l:=by
 unfold flK;rw[List.filter_cons];by_cases e:x.s=k<;>simp[e]
theorem v5t (k:Int)(h:Hd):∀l:List Hd,x4h l->flK k (y2l h l)=flK k (l++[h])
 | [],_=>rfl
 | y::l,hs=>by
  obtain⟨I,J⟩:=List.pairwise_cons.1 hs
  unfold y2l
  split
  ·rename_i M
   rw[z8i,z6a]
   by_cases e:h.s=k
   ·have:flK k (y::l)=[]:=x5c λx D=>by
     rcases List.mem_cons.1 D with rfl|D
     ·omega
     have:=I x D;omega
    rw[if_pos e,this,z6a,if_pos e];rfl
   rw[if_neg e,z6a k h [],if_neg e];simp[flK]
  rw[List.cons_append,z6a,z6a,v5t k h l J]
theorem x9f (k:Int):∀(l a:List Hd),x4h a->flK k (l.foldl (λa h=>y2l h a) a)=flK k (a++l)
 | [],a,_=>by simp
 | x::l,a,h=>by
  rw[List.foldl_cons,x9f k l _ (x0v x a h),z8i,v5t k x a h,<-z8i,List.append_assoc];rfl
theorem z9g (k:Int)(l:List Hd):flK k (z5h l)=flK k l:=by unfold z5h;rw[x9f k l [] List.Pairwise.nil];rfl
theorem v6b {k:Int}{x:Hd}{l:List Hd}:x∈flK k l↔x∈l/\x.s=k:=by unfold flK;rw[List.mem_filter];simp
theorem y8o {a b:List Hd}(h:∀k,flK k a=flK k b)(x:Hd)(D:x∈a):x∈b:=(v6b.1 (h x.s▸v6b.2 ⟨D,rfl⟩)).1
theorem v1b {x:Hd}{l:List Hd}:x∈z5h l↔x∈l:=⟨y8o (λk=>z9g k l) x,y8o (λk=>(z9g k l).symm) x⟩
theorem x7x:∀(a b:List Hd),x4h a->x4h b->(∀k,flK k a=flK k b)->a=b
 | [],[],_,_,_=>rfl
 | [],y::b,_,_,h=>by have:=y8o (λk=>(h k).symm) y (List.mem_cons_self ..);cases this
 | x::a,[],_,_,h=>by have:=y8o h x (List.mem_cons_self ..);cases this
 | x::a,y::b,ha,hb,h=>by
  obtain⟨M,O⟩:=List.pairwise_cons.1 ha
  obtain⟨b1,b2⟩:=List.pairwise_cons.1 hb
  have hx:=y8o h x (List.mem_cons_self ..)
  have hy:=y8o (λk=>(h k).symm) y (List.mem_cons_self ..)
  have e1:y.s<=x.s:=by
   rcases List.mem_cons.1 hx with e|e
   ·rw[e];exact Int.le_refl _
   exact b1 x e
  have e2:x.s<=y.s:=by
   rcases List.mem_cons.1 hy with e|e
   ·rw[e];exact Int.le_refl _
   exact M y e
  have Z:y.s=x.s:=by omega
  have J:=h x.s
  rw[z6a,z6a,if_pos U,if_pos Z]at J
  obtain⟨I,_⟩:=List.cons.inj J
  subst I
  rw[x7x a b O b2 λk=>?_]
  have D:=h k
  rw[z6a,z6a]at D
  by_cases e:x.s=k
  ·rw[if_pos e,if_pos e]at D;exact(List.cons.inj D).2
  rw[if_neg e,if_neg e]at D;exact D
theorem x5g {l l':List Hd}(h:x4h l')(hf:∀k,flK k l'=flK k l):l'=z5h l:=x7x _ _ h (z8b l) λk=>(hf k).trans (z9g k l).symm
theorem u8z {l:List Hd}(h:x4h l):z5h l=l:=(x5g h λ_=>rfl).symm
theorem u1z (a b:List Hd):z5h (z5h a++z5h b)=z5h (a++b):=by
 refine x5g (z8b _) λk=>?_;rw[z9g,z8i,z9g,z9g,z8i]
theorem j9p {X Y:List Hd}(k:Int)(h:∀x∈X,∀y∈Y,y.s<x.s):flK k (Y++X)=flK k (X++Y):=by
 rw[z8i,z8i];by_cases e:∃x∈X,x.s=k;obtain⟨x,D,rfl⟩:=e;rw[x5c (l:=Y) λy J=>by have:=h x D y J;omega];simp;rw[x5c (l:=X) λx D I=>e ⟨x,D,I⟩];simp
theorem j2o {M O J Z:List Hd}(hL:x4h (M++O))(hR:x4h (J++Z))(hx:∀x∈O,∀y∈J,y.s<x.s)(h1:∀x∈M,∀y∈Z,x.s<=y.s):z5h (M++J)++z5h (O++Z)=z5h ((M++O)++(J++Z)):=by
 obtain⟨_,_,l3⟩:=List.pairwise_append.1 hL;obtain⟨_,_,r3⟩:=List.pairwise_append.1 hR;refine x5g (List.pairwise_append.2 ⟨z8b _,z8b _,λa D b I=>?_⟩) λk=>?_;rcases List.mem_append.1 (v1b.1 D) with D|D<;>rcases List.mem_append.1 (v1b.1 I) with I|I
 exact l3 a D b I;exact h1 a D b I;have:=hx b I a D;omega;exact r3 a D b I;rw[z8i,z9g,z9g];have:=j9p k hx;simp only[z8i,List.append_assoc]at this ⊢;rw[<-List.append_assoc (flK k J),this,List.append_assoc]
-- ---- lists whose elements are taken in another order
def prm (l:List Hd)(f:Nat->Nat):List Hd:=(List.range l.length).map λi=>l.getD (f i) hd0
theorem z5a (l:List Hd)(f:Nat->Nat):(prm l f).length=l.length:=by unfold prm;simp
theorem z8v {l:List Hd}{f:Nat->Nat}{i:Nat}(h:i<l.length):(prm l f).getD i hd0=l.getD (f i) hd0:=by
 unfold prm;rw[List.getD,List.getElem?_eq_getElem (by simpa using h),List.getElem_map,List.getElem_range];rfl
theorem z6u {a b:List Hd}(hl:a.length=b.length)(h:∀i,i<a.length->a.getD i hd0=b.getD i hd0):a=b:=by
 refine List.ext_getElem hl λi D I=>?_;have:=h i D;rw[List.getD,List.getD,List.getElem?_eq_getElem D,List.getElem?_eq_getElem I]at this;exact this
theorem v8k {l:List Hd}{f g:Nat->Nat}(h:∀i,i<l.length->f i=g i):prm l f=prm l g:=by
 refine z6u (by rw[z5a,z5a]) λi D=>?_;rw[z5a]at D;rw[z8v D,z8v D,h i D]
theorem v8i {l:List Hd}{f:Nat->Nat}(h:∀i,i<l.length->f i=i):prm l f=l:=by
 refine z6u (z5a _ _) λi D=>?_;rw[z5a]at D;rw[z8v D,h i D]
theorem u0p {l:List Hd}{f g h:Nat->Nat}(J:∀i,i<l.length->g i<l.length)(I:∀i,i<l.length->f (g i)=h i):prm (prm l f) g=prm l h:=by
 refine z6u (by rw[z5a,z5a,z5a]) λi D=>?_;rw[z5a,z5a]at D;rw[z8v (by rw[z5a];exact D),z8v (J i D),z8v D,I i D]
def z8s (s m e x:Nat):Nat:=if x<s\/e<=x then x else if x<s+(e-m) then x-s+m else x-(e-m)
def z5l (l:List Hd)(s m e:Nat):List Hd:=prm l (z8s s m e)
def swF (a b n x:Nat):Nat:=if a<=x/\x<a+n then x-a+b else if b<=x/\x<b+n then x-b+a else x
def swL (l:List Hd)(a b n:Nat):List Hd:=prm l (swF a b n)
theorem z1n (l:List Hd)(s m e:Nat):(z5l l s m e).length=l.length:=z5a _ _
theorem z6o (l:List Hd)(a b n:Nat):(swL l a b n).length=l.length:=z5a _ _
theorem z2r {l:List Hd}{s m e i:Nat}(h:i<l.length):(z5l l s m e).getD i hd0=l.getD (z8s s m e i) hd0:=z8v h
theorem x0l {l:List Hd}{a b n i:Nat}(h:i<l.length):(swL l a b n).getD i hd0=l.getD (swF a b n i) hd0:=z8v h
theorem v7k {s m e n i:Nat}(h1:s<=m)(I:m<=e)(J:e<=n)(D:i<n):z8s s m e i<n:=by
 unfold z8s;split;exact D;split<;>omega
theorem u6z {l:List Hd}{s e:Nat}(h:s<=e):z5l l s s e=l:=v8i λi _=>by
 unfold z8s;split
 ·rfl
 split<;>omega
theorem u6e {l:List Hd}{s m:Nat}(h:s<=m):z5l l s m m=l:=v8i λi _=>by
 unfold z8s;split
 ·rfl
 split<;>omega
theorem sw_0 {l:List Hd}{a b:Nat}:swL l a b 0=l:=v8i λi _=>by
 unfold swF;split
 ·omega
 split<;>omega
theorem j6x {l:List Hd}{i m:Nat}(h:i<=m):swL l (m-i) m i=z5l l (m-i) m (m+i):=v8k λx _=>by
 unfold swF z8s;repeat' split
 all_goals omega
theorem j9u {l:List Hd}{i j m:Nat}(h:i<=m)(J:j<i)(I:m+j<=l.length):z5l (swL l (m-i) m j) (m-(i-j)) m (m+j)=z5l l (m-i) m (m+j):=by
 refine u0p (λx D=>v7k oo oo I D) λx D=>?_
 unfold swF z8s;repeat' split
 all_goals omega
theorem j7w {l:List Hd}{i j m:Nat}(h:i<=m)(I:i<j)(J:m+j<=l.length):z5l (swL l (m-i) (m+j-i) i) (m-i) m (m+(j-i))=z5l l (m-i) m (m+j):=by
 refine u0p (λx D=>v7k oo oo oo D) λx D=>?_
 unfold swF z8s;repeat' split
 all_goals omega
theorem z7v {l:List Hd}{i j:Nat}{x:Hd}(D:i<l.length):(l.set i x).getD j hd0=if j=i then x else l.getD j hd0:=by
 rw[List.getD,List.getElem?_set];by_cases e:i=j;subst e;rw[if_pos U,if_pos D,if_pos U];rfl;rw[if_neg e,if_neg (λh=>e h.symm)];rfl
theorem v7c {l:List Hd}{a b i:Nat}(h:a+i+1<=b)(I:b+i<l.length):((swL l a b i).set (a+i) ((swL l a b i).getD (b+i) hd0)).set (b+i) ((swL l a b i).getD (a+i) hd0)=swL l a b (i+1):=by
 refine z6u (by simp[z6o]) λx D=>?_
 simp only[List.length_set,z6o]at D
 rw[z7v (by rw[List.length_set,z6o];exact I),z7v (by rw[z6o];omega),x0l oo,x0l oo,x0l D,x0l D]
 unfold swF
 repeat' split
 all_goals first|rfl|(congr 1;omega)|omega
theorem u6k {l:List Hd}{a k:Nat}(h:a<=k)(I:k+1<l.length):((z5l l a (a+1) (k+1)).set k ((z5l l a (a+1) (k+1)).getD (k+1) hd0)).set (k+1) ((z5l l a (a+1) (k+1)).getD k hd0)=z5l l a (a+1) (k+2):=by
 refine z6u (by simp[z1n]) λx D=>?_
 simp only[List.length_set,z1n]at D
 rw[z7v (by rw[List.length_set,z1n];exact I),z7v (by rw[z1n];omega),z2r oo,z2r oo,z2r D,z2r D]
 unfold z8s
 repeat' split
 all_goals first|rfl|(congr 1;omega)|omega
theorem x8b {l:List Hd}{m k:Nat}(h:k<m)(I:m<l.length):((z5l l (k+1) m (m+1)).set (k+1) ((z5l l (k+1) m (m+1)).getD k hd0)).set k ((z5l l (k+1) m (m+1)).getD (k+1) hd0)=z5l l k m (m+1):=by
 refine z6u (by simp[z1n]) λx D=>?_
 simp only[List.length_set,z1n]at D
 rw[z7v (by rw[List.length_set,z1n];omega),z7v (by rw[z1n];omega),z2r oo,z2r oo,z2r D,z2r D]
 unfold z8s
 repeat' split
 all_goals first|rfl|(congr 1;omega)|omega
abbrev seg (l:List Hd)(a b:Nat):List Hd:=(l.take b).drop a
theorem z2d {l:List Hd}{a b:Nat}(hb:b<=l.length):(seg l a b).length=b-a:=by
 unfold seg;rw[List.length_drop,List.length_take];omega
theorem z6z {l:List Hd}{a b i:Nat}(h:i<b-a):(seg l a b).getD i hd0=l.getD (a+i) hd0:=by
 unfold seg;rw[List.getD,List.getElem?_drop,List.getElem?_take,if_pos oo];rfl
theorem y2s {l:List Hd}{a m b:Nat}(h1:a<=m)(I:m<=b)(hb:b<=l.length):seg l a b=seg l a m++seg l m b:=by
 refine z6u (by rw[List.length_append,z2d hb,z2d oo,z2d hb];omega) λi D=>?_;rw[z2d hb]at D;rw[z6z D];by_cases e:i<m-a;rw[List.getD,List.getD,List.getElem?_append_left (by rw[z2d oo];exact e)];have:=z6z (l:=l) (a:=a) (b:=m) e;rw[List.getD,List.getD]at this;exact this.symm;rw[List.getD,List.getD,List.getElem?_append_right (by rw[z2d oo];omega),z2d oo];have:=z6z (l:=l) (a:=m) (b:=b) (i:=i-(m-a)) oo;rw[List.getD,List.getD,show m+(i-(m-a))=a+i by omega]at this;exact this.symm
theorem x0w {l:List Hd}{a b:Nat}(h:a<=b)(hb:b<=l.length):l.take a++(seg l a b++l.drop b)=l:=by
 have D:l.take a++seg l a b=l.take b:=by
  unfold seg
  conv=>rhs;rw[<-List.take_append_drop a (l.take b)]
  rw[List.take_take,show min a b=a by omega]
 rw[<-List.append_assoc,D,List.take_append_drop]
theorem y9c {l:List Hd}{a b:Nat}{x:Hd}(hb:b<=l.length)(I:x∈seg l a b):∃i,a<=i/\i<b/\x=l.getD i hd0:=by
 obtain⟨i,D,rfl⟩:=List.getElem_of_mem I;rw[z2d hb]at D;refine⟨a+i,oo,oo,?_⟩;rw[<-z6z D,List.getD,List.getElem?_eq_getElem (by rw[z2d hb];exact D)];rfl
def z9q (l:List Hd)(a b:Nat):Prop:=∀i j,a<=i->i<j->j<b->(l.getD i hd0).s<=(l.getD j hd0).s
theorem x0e {l:List Hd}{a b:Nat}(hb:b<=l.length)(h:z9q l a b):x4h (seg l a b):=by
 refine List.pairwise_iff_getElem.2 λi j D I O=>?_;have Z:=D;have l2:=I;rw[z2d hb]at D I;have J:=z6z (l:=l) D;have M:=z6z (l:=l) I;rw[List.getD,List.getElem?_eq_getElem Z,Option.getD_some]at J;rw[List.getD,List.getElem?_eq_getElem l2,Option.getD_some]at M;rw[J,M];exact h _ _ oo oo oo
theorem x8s {l:List Hd}{a b:Nat}(hb:b<=l.length)(h:x4h (seg l a b)):z9q l a b:=λi j J M O=>by
 have:=List.pairwise_iff_getElem.1 h (i-a) (j-a) (by rw[z2d hb];omega) (by rw[z2d hb];omega) oo
 have D:=z6z (l:=l) (a:=a) (b:=b) (i:=i-a) oo
 have I:=z6z (l:=l) (a:=a) (b:=b) (i:=j-a) oo
 rw[List.getD,List.getElem?_eq_getElem (by rw[z2d hb];omega),Option.getD_some,show a+(i-a)=i by omega]at D
 rw[List.getD,List.getElem?_eq_getElem (by rw[z2d hb];omega),Option.getD_some,show a+(j-a)=j by omega]at I
 rw[D,I]at this;exact this
theorem u3c {l:List Hd}{a b i:Nat}(h:a<=b)(hb:b<=l.length)(D:i<a\/b<=i):(z8a l a b b).getD i hd0=l.getD i hd0:=by
 unfold z8a;rw[show min b b=b by omega];rcases D with e|e
 rw[List.getD,List.getD,List.getElem?_append_left (by rw[List.length_take];omega),List.getElem?_take,if_pos e];rw[List.getD,List.getD,List.getElem?_append_right (by rw[List.length_take];omega),List.length_take,List.getElem?_append_right (by rw[z6k h hb];omega),z6k h hb,List.getElem?_drop];congr 2;omega
theorem x2e {l:List Hd}{a b:Nat}(h:a<=b)(hb:b<=l.length):(z8a l a b b).length=l.length:=by
 unfold z8a;rw[show min b b=b by omega,List.length_append,List.length_append,z6k h hb,List.length_take,List.length_drop];omega
theorem z7s {l:List Hd}{a b:Nat}(h:a<=b)(hb:b<=l.length)(D:z9q l a b):z8a l a b b=l:=by
 unfold z8a;rw[show min b b=b by omega,u8z (x0e hb D)];exact x0w h hb
theorem x0k {l:List Hd}{P M S:List Hd}(h:l=P++(M++S)):seg l P.length (P.length+M.length)=M:=by
 subst h;unfold seg;rw[<-List.append_assoc,List.take_append_of_le_length (by rw[List.length_append];exact Nat.le_refl _),show P.length+M.length=(P++M).length by rw[List.length_append],List.take_length];simp
theorem z7p {P M S:List Hd}:z8a (P++(M++S)) P.length (P.length+M.length) (P.length+M.length)=P++(z5h M++S):=by
 unfold z8a;rw[Nat.min_self];have:=x0k (l:=P++(M++S)) U;unfold seg at this;rw[this];congr 1;simp;congr 1;rw[<-List.append_assoc,show P.length+M.length=(P++M).length by rw[List.length_append],List.drop_append_of_le_length (Nat.le_refl _)];simp
theorem v2j {l:List Hd}{s m e:Nat}(h1:s<=m)(J:m<=e)(D:e<=l.length):z5l l s m e=l.take s++(seg l m e++(seg l s m++l.drop e)):=by
 refine z6u (by simp only[z1n,List.length_append,z2d D,z2d (show m<=l.length by omega),List.length_take,List.length_drop];omega) λi I=>?_;rw[z1n]at I;rw[z2r I];unfold z8s;by_cases c1:i<s;rw[if_pos (.inl c1),List.getD,List.getD,List.getElem?_append_left (by rw[List.length_take];omega),List.getElem?_take,if_pos c1];rw[List.getD,List.getD,List.getElem?_append_right (by rw[List.length_take];omega),List.length_take,show min s l.length=s by omega];by_cases c2:i<s+(e-m);rw[if_neg oo,if_pos c2,List.getElem?_append_left (by rw[z2d D];omega)];have:=z6z (l:=l) (a:=m) (b:=e) (i:=i-s) oo;rw[List.getD,List.getD]at this;rw[this];congr 2;omega;rw[List.getElem?_append_right (by rw[z2d D];omega),z2d D];by_cases c3:i<e;rw[if_neg oo,if_neg c2,List.getElem?_append_left (by rw[z2d oo];omega)];have:=z6z (l:=l) (a:=s) (b:=m) (i:=i-s-(e-m)) oo;rw[List.getD,List.getD]at this;rw[this];congr 2;omega;rw[if_pos oo,List.getElem?_append_right (by rw[z2d oo];omega),z2d oo,List.getElem?_drop];congr 2;omega
theorem u9c {l:List Hd}{a b:Nat}(h:a<=b)(hb:b<=l.length):z8a l a b b=l.take a++(z5h (seg l a b)++l.drop b):=by unfold z8a;rw[Nat.min_self]
theorem y1j {l:List Hd}{a s m e b mid:Nat}(h1:a<=s)(J:s<=m)(O:m<=e)(Z:e<=b)(hb:b<=l.length)(hm:mid=s+(e-m))(hl:z9q l a m)(hr:z9q l m b)
    (hx:∀i j,s<=i->i<m->m<=j->j<e->(l.getD j hd0).s<(l.getD i hd0).s) (hy:∀i j,a<=i->i<s->e<=j->j<b->(l.getD i hd0).s<=(l.getD j hd0).s):z8a (z8a (z5l l s m e) a mid mid) mid b b=z8a l a b b:=by
  have el:z5l l s m e=l.take a++((seg l a s++seg l m e)++((seg l s m++seg l e b)++l.drop b)):=by
    rw[v2j J O oo]
    have t1:l.take s=l.take a++seg l a s:=by
      unfold seg
      conv=>lhs;rw[<-List.take_append_drop a (l.take s)]
      rw[List.take_take,show min a s=a by omega]
    have t2:l.drop e=seg l e b++l.drop b:=by
      have:=x0w (l:=l) Z hb
      have h:=congrArg (List.drop e) this
      rw[List.drop_append_of_le_length (by rw[List.length_take];omega),List.drop_eq_nil_of_le (by rw[List.length_take];omega)]at h
      exact h.symm
    rw[t1,t2];simp only[List.append_assoc]
  have lA:(l.take a).length=a:=by rw[List.length_take];omega
  have lM:(seg l a s++seg l m e).length=mid-a:=by rw[List.length_append,z2d oo,z2d oo];omega
  have lN:(seg l s m++seg l e b).length=b-mid:=by rw[List.length_append,z2d oo,z2d oo];omega
  have i1:=z7p (P:=l.take a) (M:=seg l a s++seg l m e) (S:=(seg l s m++seg l e b)++l.drop b)
  rw[lA,lM,show a+(mid-a)=mid by omega,<-el]at i1
  rw[i1]
  have i2:=z7p (P:=l.take a++z5h (seg l a s++seg l m e)) (M:=seg l s m++seg l e b) (S:=l.drop b)
  rw[List.length_append,lA,z4h,lM,lN,show a+(mid-a)+(b-mid)=b by omega,show a+(mid-a)=mid by omega]at i2
  rw[<-List.append_assoc (l.take a),i2,u9c oo hb,List.append_assoc (l.take a),<-List.append_assoc (z5h (seg l a s++seg l m e))]
  congr 2
  rw[y2s (a:=a) (m:=m) (b:=b) oo oo hb,y2s (a:=a) (m:=s) (b:=m) h1 J oo,y2s (a:=m) (m:=e) (b:=b) O Z hb]
  refine j2o ?_ ?_ (λx D y I=>?_) (λx D y I=>?_)
  · rw[<-y2s h1 J oo];exact x0e oo hl
  · rw[<-y2s O Z hb];exact x0e hb hr
  · obtain⟨i,k1,k2,rfl⟩:=y9c oo D
    obtain⟨j,k3,k4,rfl⟩:=y9c oo I
    exact hx i j k1 k2 k3 k4
  · obtain⟨i,k1,k2,rfl⟩:=y9c oo D
    obtain⟨j,k3,k4,rfl⟩:=y9c hb I
    exact hy i j k1 k2 k3 k4
theorem x0h {l:List Hd}{a s m e mid:Nat}(h1:a<=s)(J:s<=m)(M:m<=e)(O:e<=l.length)(Z:mid=s+(e-m))(hl:z9q l a m)(b:Nat)(hr:z9q l m b)(hb:e<=b):z9q (z5l l s m e) a s/\z9q (z5l l s m e) s mid:=by
 constructor;intro i j D I k3;rw[z2r oo,z2r oo];unfold z8s;rw[if_pos oo,if_pos oo];exact hl i j D I oo;intro i j D I k3;rw[z2r oo,z2r oo];unfold z8s;rw[if_neg oo,if_pos oo,if_neg oo,if_pos oo];exact hr _ _ oo oo oo
theorem x9w {l:List Hd}{a s m e b mid:Nat}(h1:a<=s)(J:s<=m)(M:m<=e)(O:e<=b)(hb:b<=l.length)(Z:mid=s+(e-m))(hl:z9q l a m)(hr:z9q l m b):z9q (z8a (z5l l s m e) a mid mid) mid e/\z9q (z8a (z5l l s m e) a mid mid) e b:=by
 have g:∀i,mid<=i->i<b->(z8a (z5l l s m e) a mid mid).getD i hd0=l.getD (z8s s m e i) hd0:=λi D I=>by
  rw[u3c oo (by rw[z1n];omega) (.inr D),z2r oo]
 constructor;intro i j D I k3;rw[g i oo oo,g j oo oo];unfold z8s;rw[if_neg oo,if_neg oo,if_neg oo,if_neg oo];exact hl _ _ oo oo oo;intro i j D I k3;rw[g i oo oo,g j oo oo];unfold z8s;rw[if_pos oo,if_pos oo];exact hr _ _ oo I k3
theorem j0e {l:List Hd}{a i b:Nat}(h1:a+1<=i)(h2:i<=b)(hb:b<=l.length)(hr:z9q l (a+1) b)(hx:∀j,a+1<=j->j<i->(l.getD j hd0).s<(l.getD a hd0).s)(hy:∀j,i<=j->j<b->(l.getD a hd0).s<=(l.getD j hd0).s):z5l l a (a+1) i=z8a l a b b:=by
 have k:=y1j (l:=l) (a:=a) (s:=a) (m:=a+1) (e:=i) (b:=b) (mid:=a+(i-(a+1))) (Nat.le_refl _) oo h1 h2 hb U (λI J M D k3=>oo) hr
  (λI J M D k3 k4=>by obtain rfl:I=a:=oo;exact hx J k3 k4) (λI J M D=>oo)
 have r1:=x0h (l:=l) (a:=a) (s:=a) (m:=a+1) (e:=i) (mid:=a+(i-(a+1))) (Nat.le_refl _) oo h1 oo U (λI J M D k3=>oo) b hr h2;rw[<-k];have s1:z9q (z5l l a (a+1) i) a (a+(i-(a+1))):=r1.2;rw[z7s oo (by rw[z1n];omega) s1];have s2:z9q (z5l l a (a+1) i) (a+(i-(a+1))) b:=λx y M D k3=>by
  rw[z2r oo,z2r oo];by_cases e1:x=i-1;have O:z8s a (a+1) i x=a:=by unfold z8s;rw[if_neg oo,if_neg oo];omega
  have Z:z8s a (a+1) i y=y:=by unfold z8s;rw[if_pos oo]
  rw[O,Z];exact hy y oo k3;have O:z8s a (a+1) i x=x:=by unfold z8s;rw[if_pos oo]
  have Z:z8s a (a+1) i y=y:=by unfold z8s;rw[if_pos oo]
  rw[O,Z];exact hr x y oo D k3
 exact(z7s oo (by rw[z1n];omega) s2).symm
theorem u8g {l:List Hd}{a i m:Nat}(h1:a<=i)(h2:i<=m)(hb:m+1<=l.length)(hl:z9q l a m)(hx:∀j,i<=j->j<m->(l.getD m hd0).s<(l.getD j hd0).s)(hy:∀j,a<=j->j<i->(l.getD j hd0).s<=(l.getD m hd0).s):z5l l i m (m+1)=z8a l a (m+1) (m+1):=by
 have k:=y1j (l:=l) (a:=a) (s:=i) (m:=m) (e:=m+1) (b:=m+1) (mid:=i+1) h1 h2 oo (Nat.le_refl _) hb oo hl (λO Z D I k3=>oo)
  (λO Z D I k3 k4=>by obtain rfl:Z=m:=oo;exact hx O D I) (λO Z D I k3 k4=>oo)
 rw[<-k];have s1:z9q (z5l l i m (m+1)) a (i+1):=λx y D I k3=>by
  rw[z2r oo,z2r oo];have M:z8s i m (m+1) x=x:=by unfold z8s;rw[if_pos oo]
  by_cases e1:y=i;have J:z8s i m (m+1) y=m:=by unfold z8s;rw[if_neg oo,if_pos oo];omega
  rw[M,J];exact hy x D oo;have J:z8s i m (m+1) y=y:=by unfold z8s;rw[if_pos oo]
  rw[M,J];exact hl x y D I oo
 rw[z7s oo (by rw[z1n];omega) s1];have s2:z9q (z5l l i m (m+1)) (i+1) (m+1):=λx y D I k3=>by
  rw[z2r oo,z2r oo];have M:z8s i m (m+1) x=x-1:=by unfold z8s;rw[if_neg oo,if_neg oo];omega
  have J:z8s i m (m+1) y=y-1:=by unfold z8s;rw[if_neg oo,if_neg oo];omega
  rw[M,J];exact hl _ _ oo oo oo
 exact(z7s oo (by rw[z1n];omega) s2).symm
theorem j9e {l:List Hd}{s m e:Nat}(h:¬(s<m/\m<e))(h1:s<=m)(D:m<=e):z5l l s m e=l:=by
 by_cases k:s<m;obtain rfl:e=m:=by omega
 exact u6e h1;obtain rfl:s=m:=by omega
 exact u6z D
theorem skip1 {l:List Hd}{a s m e mid:Nat}(hn:¬(a<s/\s<mid))(h1:a<=s)(D:s<=m)(I:m<=e)(J:e<=l.length)(M:mid=s+(e-m))(hl:z9q l a m)(b:Nat)(hr:z9q l m b)(hb:e<=b):z8a (z5l l s m e) a mid mid=z5l l s m e:=by
 obtain⟨O,Z⟩:=x0h h1 D I J M hl b hr hb;refine z7s oo (by rw[z1n];omega) ?_;by_cases k:a<s;obtain rfl:mid=s:=by omega
 exact O;obtain rfl:s=a:=by omega
 exact Z
theorem k1d {l:List Hd}{a s m e b mid:Nat}(hn:¬(mid<e/\e<b))(h1:a<=s)(D:s<=m)(I:m<=e)(J:e<=b)(hb:b<=l.length)(M:mid=s+(e-m))(hl:z9q l a m)(hr:z9q l m b):z8a (z8a (z5l l s m e) a mid mid) mid b b=z8a (z5l l s m e) a mid mid:=by
 obtain⟨O,Z⟩:=x9w h1 D I J hb M hl hr;refine z7s oo (by rw[x2e oo (by rw[z1n];omega),z1n];omega) ?_;by_cases k:mid<e;obtain rfl:e=b:=by omega
 exact O;obtain rfl:e=mid:=by omega
 exact Z
structure Sch (l:List Hd) (p s0 r0 s r:Nat):Prop where
  lo:s0<=s
  le:s<=r
  hi:r<=r0
  f1:∀x,s0<=x->x<s->(l.getD x hd0).s<=(l.getD (p-x) hd0).s
  f2:∀x,r<=x->x<r0->(l.getD (p-x) hd0).s<(l.getD x hd0).s
theorem k3k {l:List Hd}{p s0 r0:Nat}(h:s0<=r0):Sch l p s0 r0 s0 r0:=⟨Nat.le_refl _,h,Nat.le_refl _,λx _ _=>oo,λx _ _=>oo⟩
theorem z5x {l:List Hd}{a b i j:Nat}(h:z9q l a b)(D:a<=i)(I:i<=j)(J:j<b):(l.getD i hd0).s<=(l.getD j hd0).s:=by
 by_cases e:i=j;subst e;exact Int.le_refl _;exact h i j D oo J
section
variable {l:List Hd} {a m b mid p s0 r0 s r c:Nat}
theorem j8m (h:Sch l p s0 r0 s r)(hc:s<=c/\c<r)(hl:z9q l a m)(hr:z9q l m b)(Z:a<=s0)(hm:r0<=m)(hi:r0<=mid)(hp:p=mid+m-1)(hb:mid+m<=b+s0)(hx:¬(l.getD (p-c) hd0).s<(l.getD c hd0).s):Sch l p s0 r0 (c+1) r:=by
 obtain⟨k1,k2,k3,k4,D⟩:=h;refine⟨oo,oo,k3,λx M O=>?_,D⟩;have I:=z5x hl (show a<=x by omega) (show x<=c by omega) (show c<m by omega);have J:=z5x hr (show m<=p-c by omega) (show p-c<=p-x by omega) (show p-x<b by omega);omega
theorem u5v (h:Sch l p s0 r0 s r)(hc:s<=c/\c<r)(hl:z9q l a m)(hr:z9q l m b)(ha:a<=s0)(hm:r0<=m)(hi:r0<=mid)(hp:p=mid+m-1)(hb:mid+m<=b+s0)(hx:(l.getD (p-c) hd0).s<(l.getD c hd0).s):Sch l p s0 r0 s c:=by
 obtain⟨D,k2,k3,I,k5⟩:=h;refine⟨D,oo,oo,I,λx O Z=>?_⟩;have J:=z5x hl (show a<=c by omega) (show c<=x by omega) (show x<m by omega);have M:=z5x hr (show m<=p-x by omega) (show p-x<=p-c by omega) (show p-c<b by omega);omega
theorem u3w (h:Sch l p s0 r0 s s)(hl:z9q l a m)(hr:z9q l m b)(ha:a<=s0)(hm:r0=min m mid)(hp:p=mid+m-1)(hb:mid+m<=b+s0)(h0:s0=a\/s0=mid+m-b)(a0:b<=mid+m\/s0=a) :
    (∀i j,s<=i->i<m->m<=j->j<mid+m-s->(l.getD j hd0).s<(l.getD i hd0).s)/\(∀i j,a<=i->i<s->mid+m-s<=j->j<b->(l.getD i hd0).s<=(l.getD j hd0).s):=by
  obtain⟨k1,k2,k3,k4,k5⟩:=h
  constructor
  · intro i j D I J M
    have O:=k5 s (Nat.le_refl _) oo
    have Z:=z5x hl (show a<=s by omega) D I
    have e2:=z5x hr J (show j<=p-s by omega) (show p-s<b by omega)
    omega
  · intro i j D I J M
    by_cases e:s0<s
    · have O:=k4 (s-1) oo oo
      have Z:=z5x hl D (show i<=s-1 by omega) (show s-1<m by omega)
      have e2:=z5x hr (show m<=p-(s-1) by omega) (show p-(s-1)<=j by omega) M
      omega
    · omega
end
def chk (B:Nat)(l:List Hd):List Hd:=if h:B=0\/l.length<=B then z5h l else z5h (l.take B)++chk B (l.drop B)
termination_by l.length
decreasing_by rw [List.length_drop];omega
theorem y0p {B:Nat}{l:List Hd}(h:l.length<=B):chk B l=z5h l:=by rw[chk,dif_pos (.inr h)]
theorem u2h {B:Nat}{X Y:List Hd}(D:0<B)(h:X.length=B):chk B (X++Y)=z5h X++chk B Y:=by
 rw[chk];split;rename_i k;rw[List.length_append]at k;have:Y=[]:=List.length_eq_zero_iff.1 oo;subst this;rw[List.append_nil,y0p (l:=[]) sp0];exact(List.append_nil _).symm;rw[<-h];simp
theorem v4g (B:Nat):∀(n:Nat) (l:List Hd),l.length<=n->(chk B l).length=l.length
 | 0,l,h=>by rw[chk,dif_pos (.inr oo),z4h]
 | n+1,l,h=>by
  rw[chk]
  split
  ·exact z4h l
  rename_i k
  rw[List.length_append,z4h,v4g B n _ (by rw[List.length_drop];omega),List.length_take,List.length_drop];omega
theorem y1x {B a:Nat}{l:List Hd}(I:0<B)(h:a+B<=l.length):chk B (l.drop a)=z5h (seg l a (a+B))++chk B (l.drop (a+B)):=by
 have e:l.drop a=seg l a (a+B)++l.drop (a+B):=by
  have:=x0w (l:=l) (a:=a) (b:=a+B) oo h
  have D:=congrArg (List.drop a) this
  rw[List.drop_append_of_le_length (by rw[List.length_take];omega),List.drop_eq_nil_of_le (by rw[List.length_take];omega)]at D
  exact D.symm
 conv=>lhs;rw[e]
 exact u2h I (by rw[z2d h];omega)
theorem u1b {l D:List Hd}{a B:Nat}(J:D.length=a)(h:a+B<=l.length):z8a (D++l.drop a) a (a+B) (a+B)=(D++z5h (seg l a (a+B)))++l.drop (a+B):=by
 have e:l.drop a=seg l a (a+B)++l.drop (a+B):=by
  have:=x0w (l:=l) (a:=a) (b:=a+B) oo h;have I:=congrArg (List.drop a) this;rw[List.drop_append_of_le_length (by rw[List.length_take];omega),List.drop_eq_nil_of_le (by rw[List.length_take];omega)]at I;exact I.symm
 rw[e];have:=z7p (P:=D) (M:=seg l a (a+B)) (S:=l.drop (a+B));rw[J,z2d h,show a+(a+B-a)=a+B by omega]at this;rw[this,List.append_assoc]
theorem u1p {l D:List Hd}{a B:Nat}(I:D.length=a)(h:a<=l.length)(hl:l.length<=a+B):z8a (D++l.drop a) a l.length l.length=D++chk B (l.drop a):=by
 have:=z7p (P:=D) (M:=l.drop a) (S:=[]);rw[I,List.length_drop,show a+(l.length-a)=l.length by omega,List.append_nil,List.append_nil]at this;rw[this,y0p (by rw[List.length_drop];omega)]
theorem x2y {l D:List Hd}{a B C:Nat}(I:D.length=a)(Z:0<B)(hC:C<=B)(h:a+(B+C)<=l.length)(R:List Hd)(hR:chk B (l.drop (a+B))=z5h (seg l (a+B) (a+(B+C)))++R) :
    z8a (D++chk B (l.drop a)) a (a+(B+C)) (a+(B+C))=(D++z5h (seg l a (a+(B+C))))++R/\z9q (D++chk B (l.drop a)) a (a+B)/\z9q (D++chk B (l.drop a)) (a+B) (a+(B+C)):=by
  have e:D++chk B (l.drop a)=D++((z5h (seg l a (a+B))++z5h (seg l (a+B) (a+(B+C))))++R):=by
    rw[y1x Z oo,hR,List.append_assoc]
  have J:(z5h (seg l a (a+B))).length=B:=by rw[z4h,z2d oo];omega
  have O:(z5h (seg l (a+B) (a+(B+C)))).length=C:=by rw[z4h,z2d oo];omega
  have s:=z7p (P:=D) (M:=z5h (seg l a (a+B))++z5h (seg l (a+B) (a+(B+C)))) (S:=R)
  rw[I,List.length_append,J,O]at s
  refine⟨?_,?_,?_⟩
  · rw[e,s,u1z,<-y2s oo oo h,List.append_assoc]
  · refine x8s ?_ ?_
    · rw[e];simp only[List.length_append,I,J,O];omega
    · rw[e]
      have:=x0k (l:=D++(z5h (seg l a (a+B))++(z5h (seg l (a+B) (a+(B+C)))++R))) U
      rw[I,J]at this
      rw[List.append_assoc (z5h (seg l a (a+B))),this];exact z8b _
  · refine x8s ?_ ?_
    · rw[e];simp only[List.length_append,I,J,O];omega
    · rw[e]
      have:=x0k (l:=(D++z5h (seg l a (a+B)))++(z5h (seg l (a+B) (a+(B+C)))++R)) U
      rw[List.length_append,I,J,O,List.append_assoc,show a+B+C=a+(B+C) by omega]at this
      rw[List.append_assoc (z5h (seg l a (a+B))),this];exact z8b _
theorem j3a:∀l:Bed,(∀s∈l,s.length<=4)->l.flatten.length<=4*l.length
 | [],_=>by simp
 | s::l,h=>by
  have I:=h s (List.mem_cons_self ..)
  have J:=j3a l λt D=>h t (List.mem_cons_of_mem _ D)
  rw[List.flatten_cons,List.length_append,List.length_cons];omega
theorem y2u {B:Bd}(h:BdOk B):B.flat.length<=320:=by
 have I:=j3a B.f λs D=>h.ss s (List.mem_append.2 (.inl D));have J:=j3a B.b λs D=>h.ss s (List.mem_append.2 (.inr D));have M:=h.lf;have O:=h.lb;unfold Bd.flat;rw[List.length_append];omega
end Go.G08
namespace Go.Lw
open Go.RowKit
section
variable {P:Program} {n:Nat} {L:List (Nat×Value)} {ds:List Nat} {w w':World} {Q:Exit->Act->World->Prop} {ops:Array Oper} {rest:List Oper} {d:Nat} {ty T:TypeId} {pos:String} {after:Array Edge} {v:Value} {x:Operand}
theorem v4y {t t':TypeId}{k k':IntKind}{i:Int}{m:Nat}{z:Int}{y:Operand}(J:ev L x=some (.int k i))(M:ev L y=some (.int k' (m:Int)))(I:m<=k.bits)(O:i / ((2 ^ m:Nat):Int)=z)(hn:Nat.blt d n=true)(q:WL P ops Q rest n ds w ((d,.int k z)::L)):WL P ops Q (⟨some d,.binOp .shr t x y t',ty,pos,after,none⟩::rest) n ds w L:=
 λa h=>z2a h U hn (by
  have e:i.fdiv (2 ^ m)=z:=by
   rw[Int.fdiv_eq_ediv_of_nonneg _ (by exact_mod_cast Nat.zero_le (2 ^ m)),<-O]
   congr 1
  have D:¬((m:Nat):Int)<0:=by omega
  simp[execOp,h.eval J,h.eval M,eqGuard_shr,binOp_shr,Op.shift,Nat.min_eq_left I,e,D]) q
end
end Go.Lw
namespace Go.Proofs.YtjilcnmaefhmeaaGreatDoor
open Go.Lw Go.G21 Go.G08 _root_.Go.Proofs.Tryz
theorem v6r (g c base:Nat)(I b k:Nat)(A B K:Int)(l:List Hd)(w0:World)(hA:A=(I:Int))(hB:B=(b:Int))(hK:K=(k:Int))(ho:Lw.Own z3l 206 base w0 (.slice (some ⟨g,0,none⟩) l.length c) l)(hl:l.length<=1000000)(a2:I+k<=b/\b+k<=l.length):Rets prog 297 #[.slice (some ⟨g,0,none⟩) l.length c,.int .i64 A,.int .i64 B,.int .i64 K,.func (.func 164) #[] #[]] w0 λr w'=>r=.tuple #[]/\Lw.Own z3l 206 base w' (.slice (some ⟨g,0,none⟩) l.length c) (swL l I b k)/\Fr [g] w0 w':=by
 subst hA hB hK;refine we [(0,.slice (some ⟨g,0,none⟩) l.length c),(1,.int .i64 (I:Int)),(2,.int .i64 (b:Int)),(3,.int .i64 (k:Int)),(4,.func (.func 164) #[] #[])] func297 U ntmps297 U (.c5 U U U U U) (sr (asg U (nn (bl ?_))));refine lpK (ι:=Nat) [(0,_),(1,_),(2,_),(3,_)] (λi=>[(10,.int .i64 (i:Int))]) (λi w'=>Fr [g] w0 w'/\i<=k/\Lw.Own z3l 206 base w' (.slice (some ⟨g,0,none⟩) l.length c) (swL l I b i)) (λi=>k-i) 0 (.c5 U U U U U) ⟨Fr.refl _ _,⟨Nat.zero_le _,(by rw[sw_0];exact ho)⟩⟩ ?_;rintro i w1 ⟨Z,⟨hi,ho⟩⟩;refine kpC [(0,_),(1,_),(2,_),(3,_),(10,_)] (.c5 U U U U U) ?_;have a3:=z6o l I b i;refine sq (sr (mv U U (mv U U (lt' U (nn (cd U (λc0=>?_) (λc0=>?_)))))));refine sk (tn (sq (bl ?_)));intro a h;refine z0h (some 23) (λwb w'=>Fr [g] wb w') z2m ?_;intro w2 q2;replace ho:=ho.ext q2;have hC:Fr [g] w2 w2:=Fr.refl _ _;have O:=ho;refine z0e 0 h U λa h=>z0e 1 h U λa h=>z0e 2 h U λa h=>z4m 3 h U (by first|exact i6 oo|rfl) U λa h=>z0e 4 h U λa h=>z0e 5 h U λa h=>z0e 6 h U λa h=>z4m 7 h U (by first|exact i6 oo|rfl) U λa h=>z0e 8 h U λa h=>z0e 9 h U λa h=>z0e 10 h U λa h=>?_;refine z4m 11 h U (by first|exact i6 oo|rfl) U λa h=>z1i (p:=(b+i)) (hd0) 12 h U ho.sl U z3g U λa0 J a h=>z0e 14 h U λa h=>z0e 15 h U λa h=>z0e 16 h U λa h=>z4m 17 h U (by first|exact i6 oo|rfl) U λa h=>z1i (p:=(I+i)) (hd0) 18 h U ho.sl U z3g U λa1 M a h=>z1x 13 19 kr U ?_ ?_;refine z1t h U (J _ ho.sl) z4z U λa h=>?_;refine z0b ?_;refine z0d 19 U ?_;refine z1t h U (M _ ho.sl) z4z U λa h=>?_;refine z0b ?_;refine z1p 20 kr kr kr hC (p:=(I+i)) h wn U z3g oo oo oo U U λa h=>z0d 21 U ?_;refine z1c (i:=(I+i)) (((swL l I b i).getD (b+i) hd0)) h U ho (by rw[z6o];omega) U z8l λw3 D q3 _hz a h=>?_;replace hC:=hC.sp q3;clear _hz ho;have ho:=D;clear D;refine z0b ?_;refine z1p 22 kr kr kr hC (p:=(b+i)) h wn U z3g oo oo oo U U λa h=>z0d 23 U ?_;refine z1c (i:=(b+i)) (((swL l I b i).getD (I+i) hd0)) h U ho (by rw[List.length_set,z6o];omega) U z8l λw4 D q4 _hz a h=>?_;clear _hz ho;have ho:=D;clear D;refine z1m ?_;refine z0p ?_;clear hC O;refine bk (h.sub (L':=[(0,_),(1,_),(2,_),(3,_),(10,_)]) (.c5 U U U U U)) (bn' (tn (rg (mv U U (z1b U (wi6 oo) (asg U (nl ?_)))))));exact lpE (i+1) (.c5 U U U U U) ⟨((Fr.refl [g] _).z4 Z q2 q3 q4),⟨oo,(by rw[v7c oo oo]at ho;exact ho)⟩⟩ oo;refine z1t h U (M _ ho.sl) z4z U λa h=>?_;refine z0b ?_;refine z0d 13 U ?_;refine z1t h U (J _ ho.sl) z4z U λa h=>?_;refine z0b ?_;refine z1p 20 kr kr kr hC (p:=(I+i)) h wn U z3g oo oo oo U U λa h=>z0d 21 U ?_;refine z1c (i:=(I+i)) (((swL l I b i).getD (b+i) hd0)) h U ho (by rw[z6o];omega) U z8l λw5 D q5 _hz a h=>?_;replace hC:=hC.sp q5;clear _hz ho;have ho:=D;clear D;refine z0b ?_;refine z1p 22 kr kr kr hC (p:=(b+i)) h wn U z3g oo oo oo U U λa h=>z0d 23 U ?_;refine z1c (i:=(b+i)) (((swL l I b i).getD (I+i) hd0)) h U ho (by rw[List.length_set,z6o];omega) U z8l λw6 D q6 _hz a h=>?_;clear _hz ho;have ho:=D;clear D;refine z1m ?_;refine z0p ?_;clear hC O;refine bk (h.sub (L':=[(0,_),(1,_),(2,_),(3,_),(10,_)]) (.c5 U U U U U)) (bn' (tn (rg (mv U U (z1b U (wi6 oo) (asg U (nl ?_)))))));exact lpE (i+1) (.c5 U U U U U) ⟨((Fr.refl [g] _).z4 Z q2 q5 q6),⟨oo,(by rw[v7c oo oo]at ho;exact ho)⟩⟩ oo;obtain rfl:i=k:=by omega
 exact ex (te (te (xh (r0n results297  ⟨_,rfl,rfl,ho,((Fr.refl [g] _).z1 Z)⟩))))
theorem j9r (g c base:Nat)(J m b:Nat)(A M B:Int)(l:List Hd)(w0:World)(hA:A=(J:Int))(hM:M=(m:Int))(hB:B=(b:Int))(ho:Lw.Own z3l 206 base w0 (.slice (some ⟨g,0,none⟩) l.length c) l)(hl:l.length<=1000000)(a0:J<m/\m<b/\b<=l.length):Rets prog 288 #[.slice (some ⟨g,0,none⟩) l.length c,.int .i64 A,.int .i64 M,.int .i64 B,.func (.func 164) #[] #[]] w0 λr w'=>r=.tuple #[]/\Lw.Own z3l 206 base w' (.slice (some ⟨g,0,none⟩) l.length c) (z5l l J m b)/\Fr [g] w0 w':=by
 subst hA hM hB;refine we [(0,.slice (some ⟨g,0,none⟩) l.length c),(1,.int .i64 (J:Int)),(2,.int .i64 (m:Int)),(3,.int .i64 (b:Int)),(4,.func (.func 164) #[] #[])] func288 U ntmps288 U (.c5 U U U U U) (sr (mv U U (mv U U (z2p U (wi6 oo) (asg U (nn (sr (mv U U (mv U U (z2p U (wi6 oo) (asg U (nn (sq (bl ?_))))))))))))));refine lpK (ι:=Nat×Nat) [(0,_),(2,_),(4,_)] (λp=>[(10,.int .i64 (p.1:Int)),(11,.int .i64 (p.2:Int))]) (λp w'=>Fr [g] w0 w'/\(1<=p.1/\1<=p.2/\p.1<=m/\m+p.2<=l.length)/\∃cur:List Hd,cur.length=l.length/\z5l cur (m-p.1) m (m+p.2)=z5l l J m b/\Lw.Own z3l 206 base w' (.slice (some ⟨g,0,none⟩) l.length c) cur) (λp=>p.1+p.2) (m-J,b-m) (.c5 U U U (by first|rfl|exact congrArg (λz=>some (Value.int .i64 z)) (by first|omega|(simp only;omega))) (by first|rfl|exact congrArg (λz=>some (Value.int .i64 z)) (by first|omega|(simp only;omega)))) ⟨Fr.refl _ _,⟨⟨sm,sm,sm,sm⟩,l,rfl,by simp only;rw[show m-(m-J)=J by omega,show m+(b-m)=b by omega],ho⟩⟩ ?_;rintro⟨i,j⟩ w1 ⟨Z,⟨O,cur,D,I,ho⟩⟩;simp only at O I;refine kpC [(0,_),(2,_),(4,_),(10,.int .i64 (i:Int)),(11,.int .i64 (j:Int))] (.c5 U U U U U) (sq (sr (mv U U (mv U U (ne' U (nn (cd U (λc0=>?_) (λc0=>?_))))))));refine sk (tn (bl (sr (mv U U (mv U U (gt' U (nn (cd U (λc1=>?_) (λc1=>?_)))))))));refine sr (mv U U (mv U U (mv U U (z2p U (wi6 oo) (mv U U (mv U U (mv U U ?_)))))));refine cl (z0a U (z0a U (z0a U (z0a U (z0a U z0f))))) (mkC func297) (by have x:=v6r g c base (m-i) m j (↑m - ↑i) ↑m ↑j cur _ oo U U (by rw[D];exact ho) oo oo;rw[D]at x;exact x) U ?_;rintro _ w2 ⟨rfl,ho,q2⟩;refine kpL [(0,_),(2,_),(4,_),(10,_),(11,_)] (.c5 U U U U U) (nn (rg (mv U U (mv U U (z2p U (wi6 oo) (asg U (nl (bn' ?_))))))));exact lpE ((i-j,j)) (.c5 U U U (by first|rfl|exact congrArg (λz=>some (Value.int .i64 z)) (by first|omega|(simp only;omega))) (by first|rfl|exact congrArg (λz=>some (Value.int .i64 z)) (by first|omega|(simp only;omega)))) ⟨((Fr.refl [g] _).z2 Z q2),⟨⟨sm,sm,sm,sm⟩,_,by rw[z6o];exact D,by simp only;rw[<-I];exact j9u oo oo oo,ho⟩⟩ sm;refine sr (mv U U (mv U U (mv U U (z2p U (wi6 oo) (mv U U (mv U U (z1b U (wi6 oo) (mv U U (z2p U (wi6 oo) (mv U U (mv U U ?_)))))))))));refine cl (z0a U (z0a U (z0a U (z0a U (z0a U z0f))))) (mkC func297) (by have x:=v6r g c base (m-i) (m+j-i) i (↑m - ↑i) (↑m + ↑j - ↑i) ↑i cur _ oo oo U (by rw[D];exact ho) oo oo;rw[D]at x;exact x) U ?_;rintro _ w3 ⟨rfl,ho,q3⟩;refine kpL [(0,_),(2,_),(4,_),(10,_),(11,_)] (.c5 U U U U U) (nn (rg (mv U U (mv U U (z2p U (wi6 oo) (asg U (nl (bn' ?_))))))));exact lpE ((i,j-i)) (.c5 U U U (by first|rfl|exact congrArg (λz=>some (Value.int .i64 z)) (by first|omega|(simp only;omega))) (by first|rfl|exact congrArg (λz=>some (Value.int .i64 z)) (by first|omega|(simp only;omega)))) ⟨((Fr.refl [g] _).z2 Z q3),⟨⟨sm,sm,sm,sm⟩,_,by rw[z6o];exact D,by simp only;rw[<-I];exact j7w oo oo oo,ho⟩⟩ sm;obtain rfl:i=j:=by omega
 refine ex (te (te (xh (tn (rg (mv U U (mv U U (mv U U (z2p U (wi6 oo) (mv U U (mv U U (mv U U (cl (z0a U (z0a U (z0a U (z0a U (z0a U z0f))))) (mkC func297) (by have x:=v6r g c base (m-i) m i (↑m - ↑i) ↑m ↑i cur _ oo U U (by rw[D];exact ho) oo oo;rw[D]at x;exact x) U ?_)))))))))))));rintro _ w4 ⟨rfl,ho,q4⟩;exact kpL [] .nil (nl (r0n results288  ⟨_,rfl,rfl,by rw[<-I,<-j6x oo];exact ho,((Fr.refl [g] _).z2 Z q4)⟩))
theorem u6t (g c base:Nat)(n:Nat):∀(O m b:Nat) (A M B:Int) (l:List Hd) (w0:World),b-O<=n->A=(O:Int)->M=(m:Int)->B=(b:Int)->Lw.Own z3l 206 base w0 (.slice (some ⟨g,0,none⟩) l.length c) l->l.length<=1000000->O<m->m<b->b<=l.length->z9q l O m->z9q l m b->Rets prog 266 #[.slice (some ⟨g,0,none⟩) l.length c,.int .i64 A,.int .i64 M,.int .i64 B,.func (.func 164) #[] #[]] w0 λr w'=>r=.tuple #[]/\Lw.Own z3l 206 base w' (.slice (some ⟨g,0,none⟩) l.length c) (z8a l O b b)/\Fr [g] w0 w':=by
 induction n;intros;omega;rename_i n ih;intro O m b A M B l w0 hn hA hM hB D hl h1 h2 h3 Z a0;subst hA hM hB;obtain⟨mid,i2⟩:∃mid,mid=(O+b) / 2:=⟨_,rfl⟩;refine we [(0,.slice (some ⟨g,0,none⟩) l.length c),(1,.int .i64 (O:Int)),(2,.int .i64 (m:Int)),(3,.int .i64 (b:Int)),(4,.func (.func 164) #[] #[])] func266 U ntmps266 U (.c5 U U U U U) (sq (sr (mv U U (mv U U (z2p U (wi6 oo) (eq' U (nn (cd U (λc0=>?_) (λc0=>?_)))))))));obtain rfl:m=O+1:=by omega
 refine sr (mv U U (asg U (nn (sr (mv U U (asg U (nn (sq (bl ?_)))))))));refine lpK (ι:=Nat×Nat) [(0,_),(1,_),(4,_)] (λp=>[(10,.int .i64 (p.1:Int)),(11,.int .i64 (p.2:Int))]) (λp w'=>Fr [] w0 w'/\(O+1<=p.1/\p.1<=p.2/\p.2<=b)/\(∀x,O+1<=x->x<p.1->(l.getD x hd0).s<(l.getD O hd0).s)/\(∀x,p.2<=x->x<b->(l.getD O hd0).s<=(l.getD x hd0).s)) (λp=>p.2-p.1) (O+1,b) (.c5 U U U (by first|rfl|exact congrArg (λz=>some (Value.int .i64 z)) (by first|omega|(simp only;omega))) U) ⟨Fr.refl _ _,⟨⟨sm,sm,sm⟩,λx h h'=>by simp only at h';omega,λx h h'=>by simp only at h;omega⟩⟩ ?_;rintro⟨i,j⟩ w1 ⟨q1,hI⟩;simp only at hI;refine kpC [(0,_),(1,_),(4,_),(10,.int .i64 (i:Int)),(11,.int .i64 (j:Int))] (.c5 U U U U U) (sq (sr (mv U U (mv U U (lt' U (nn (cd U (λc1=>?_) (λc1=>?_))))))));refine sk (tn (bl (sr (mv U U (mv U U (z1b U (wi6 oo) (z4y U (us underlying3) underlying217 (IntWalk.u64_in _ oo) (v4y (m:=1) (z:=(((i+j) / 2:Nat):Int)) U U dd (show _ / (2:Int)=_ by omega) U (z4y U (us underlying217) underlying3 (wi6 oo) (asg U (kpL [(0,_),(1,_),(4,_),(10,_),(11,_),(12,_)] (.c6 U U U U U U) (nn (sq ?_)))))))))))));intro a h;refine z0h none (λwb w'=>Fr [] wb w') z2m ?_;intro w2 q2;replace D:=D.ext (q1.n1 q2);have hC:Fr [] w2 w2:=Fr.refl _ _;have J:=D;refine z0e 0 h U λa h=>z0e 1 h U λa h=>z0e 2 h U λa h=>z1i (p:=((i+j) / 2)) (hd0) 3 h U D.sl U z3g U λh6 d6 a h=>z2q 4 h wn U (λ_ hw=>d6 _ (J.sl.ext hw)) z4z U λa h=>z0e 5 h U λa h=>z0e 6 h U λa h=>z1i (p:=O) (hd0) 7 h U D.sl U z3g U λh7 d7 a h=>z2q 8 h wn U (λ_ hw=>d7 _ (J.sl.ext hw)) z4z U λa h=>z0d 9 U (y1c (us:=[]) (ws:=[]) h U (z0a U (z0a U z0f)) (mkC func164) (y9n ((l).getD (((i+j) / 2)) hd0) ((l).getD (O) hd0) _) U (by intro g e;cases e) ?_);rintro _ w3 ⟨rfl,q3⟩ a h;replace D:=D.ext q3;replace hC:=hC.next q3;refine z0b (v3a 10 hC h wn U U λa h=>z0p ?_);clear hC J;refine bk (h.sub (L':=[(0,_),(1,_),(4,_),(10,_),(11,_),(12,_),(50,_)]) (.c7 U U U U U U U)) (tn (cd U (λc2=>?_) (λc2=>?_)));have hx:=z6f.1 c2;refine rg (mv U U (z1b U (wi6 oo) (asg U (nl (bn' ?_)))));exact lpE (((i+j) / 2+1,j)) (.c5 U U U (by first|rfl|exact congrArg (λz=>some (Value.int .i64 z)) (by first|omega|(simp only;omega))) (by first|rfl|exact congrArg (λz=>some (Value.int .i64 z)) (by first|omega|(simp only;omega)))) ⟨(q1.n2 q2 q3),⟨⟨sm,sm,sm⟩,λx h h'=>by
  have:=z5x a0 (show O+1<=x by omega) (show x<=(i+j) / 2 by simp only at h';omega) oo;omega,hI.2.2⟩⟩ sm
 have hx:¬((l).getD (((i+j) / 2)) hd0).s<((l).getD (O) hd0).s:=λe=>c2 (z6f.2 e);refine rg (mv U U (asg U (nl (bn' ?_))));exact lpE ((i,(i+j) / 2)) (.c5 U U U (by first|rfl|exact congrArg (λz=>some (Value.int .i64 z)) (by first|omega|(simp only;omega))) (by first|rfl|exact congrArg (λz=>some (Value.int .i64 z)) (by first|omega|(simp only;omega)))) ⟨(q1.n2 q2 q3),⟨⟨sm,sm,sm⟩,hI.2.1,λx h h'=>by
  have:=z5x a0 (show O+1<=(i+j) / 2 by omega) (show (i+j) / 2<=x by simp only at h;omega) h';omega⟩⟩ sm
 obtain rfl:i=j:=by omega
 refine ex (te (te (xh (tn (sq (sr (mv U U (asg U (nn (bl ?_))))))))));replace D:=D.ext q1;refine lpK (ι:=Nat) [(0,_),(10,_)] (λk=>[(13,.int .i64 (k:Int))]) (λk w'=>Fr [g] w1 w'/\(O<=k/\k+1<=i)/\Lw.Own z3l 206 base w' (.slice (some ⟨g,0,none⟩) l.length c) (z5l l O (O+1) (k+1))) (λk=>i-k) O (.c3 U U U) ⟨Fr.refl _ _,⟨⟨Nat.le_refl _,oo⟩,by rw[u6e oo];exact D⟩⟩ ?_;rintro k w4 ⟨q4,⟨hk,D⟩⟩;refine kpC [(0,_),(10,_),(13,_)] (.c3 U U U) ?_;have f7:=z1n l O (O+1) (k+1);refine sq (sr (mv U U (mv U U (z2p U (wi6 oo) (lt' U (nn (cd U (λc3=>?_) (λc3=>?_))))))));refine sk (tn (sq (bl ?_)));intro a h;refine z0h (some 17) (λwb w'=>Fr [g] wb w') z2m ?_;intro w5 q5;replace D:=D.ext q5;have hC:Fr [g] w5 w5:=Fr.refl _ _;have J:=D;refine z0e 0 h U λa h=>z0e 1 h U λa h=>z0e 2 h U λa h=>z0e 3 h U λa h=>z4m 4 h U (by first|exact i6 oo|rfl) U λa h=>z0e 5 h U λa h=>z0e 6 h U λa h=>z4m 7 h U (by first|exact i6 oo|rfl) U λa h=>z1i (p:=(k+1)) (hd0) 8 h U D.sl U z3g U λh8 b3 a h=>z0e 10 h U λa h=>z0e 11 h U λa h=>z1i (p:=k) (hd0) 12 h U D.sl U z3g U λh9 b4 a h=>z1x 9 13 kr U ?_ ?_;refine z1t h U (b3 _ D.sl) z4z U λa h=>z0b (z0d 13 U (z1t h U (b4 _ D.sl) z4z U λa h=>?_));refine z0b (z1p 14 kr kr kr hC (p:=k) h wn U z3g oo oo oo U U λa h=>z0d 15 U (z1c (i:=k) (((z5l l O (O+1) (k+1)).getD (k+1) hd0)) h U D (by rw[z1n];omega) U z8l λw6 I q6 _hz a h=>?_));replace hC:=hC.sp q6;clear _hz D;have D:=I;clear I;refine z0b (z1p 16 kr kr kr hC (p:=(k+1)) h wn U z3g oo oo oo U U λa h=>z0d 17 U (z1c (i:=(k+1)) (((z5l l O (O+1) (k+1)).getD (k) hd0)) h U D (by rw[List.length_set,z1n];omega) U z8l λw7 I q7 _hz a h=>?_));clear _hz D;have D:=I;clear I;refine z1m (z0p ?_);clear hC J;refine bk (h.sub (L':=[(0,_),(10,_),(13,_)]) (.c3 U U U)) (bn' (tn (rg (mv U U (z1b U (wi6 oo) (asg U (nl ?_)))))));exact lpE (k+1) (.c3 U U (congrArg (λz=>some (Value.int .i64 z)) oo)) ⟨((Fr.refl [g] _).z4 q4 q5 q6 q7),⟨oo,by rw[u6k oo oo]at D;exact D⟩⟩ oo;refine z1t h U (b4 _ D.sl) z4z U λa h=>z0b (z0d 9 U (z1t h U (b3 _ D.sl) z4z U λa h=>?_));refine z0b (z1p 14 kr kr kr hC (p:=k) h wn U z3g oo oo oo U U λa h=>z0d 15 U (z1c (i:=k) (((z5l l O (O+1) (k+1)).getD (k+1) hd0)) h U D (by rw[z1n];omega) U z8l λw8 I q8 _hz a h=>?_));replace hC:=hC.sp q8;clear _hz D;have D:=I;clear I;refine z0b (z1p 16 kr kr kr hC (p:=(k+1)) h wn U z3g oo oo oo U U λa h=>z0d 17 U (z1c (i:=(k+1)) (((z5l l O (O+1) (k+1)).getD (k) hd0)) h U D (by rw[List.length_set,z1n];omega) U z8l λw9 I q9 _hz a h=>?_));clear _hz D;have D:=I;clear I;refine z1m (z0p ?_);clear hC J;refine bk (h.sub (L':=[(0,_),(10,_),(13,_)]) (.c3 U U U)) (bn' (tn (rg (mv U U (z1b U (wi6 oo) (asg U (nl ?_)))))));exact lpE (k+1) (.c3 U U (congrArg (λz=>some (Value.int .i64 z)) oo)) ⟨((Fr.refl [g] _).z4 q4 q5 q8 q9),⟨oo,by rw[u6k oo oo]at D;exact D⟩⟩ oo;obtain rfl:k+1=i:=by omega
 exact ex (te (te (xh (tn (rt (tr (r0 results266  ⟨_,rfl,rfl,by rw[<-j0e oo oo h3 a0 hI.2.1 hI.2.2];exact D,((Fr.refl [g] _).z2 q1 q4)⟩)))))));refine sk (tn (sq (sr (mv U U (mv U U (z2p U (wi6 oo) (eq' U (nn (cd U (λc4=>?_) (λc4=>?_))))))))));obtain rfl:b=m+1:=by omega
 refine sr (mv U U (asg U (nn (sr (mv U U (asg U (nn (sq (bl (lpK (ι:=Nat×Nat) [(0,_),(2,_),(4,_)] (λp=>[(14,.int .i64 (p.1:Int)),(15,.int .i64 (p.2:Int))]) (λp w'=>Fr [] w0 w'/\(O<=p.1/\p.1<=p.2/\p.2<=m)/\(∀x,O<=x->x<p.1->(l.getD x hd0).s<=(l.getD m hd0).s)/\(∀x,p.2<=x->x<m->(l.getD m hd0).s<(l.getD x hd0).s)) (λp=>p.2-p.1) (O,m) (.c5 U U U U U) ⟨Fr.refl _ _,⟨⟨sm,sm,sm⟩,λx h h'=>by simp only at h';omega,λx h h'=>by simp only at h;omega⟩⟩ ?_))))))))));rintro⟨i,j⟩ g9 ⟨a6,hI⟩;simp only at hI;refine kpC [(0,_),(2,_),(4,_),(14,.int .i64 (i:Int)),(15,.int .i64 (j:Int))] (.c5 U U U U U) (sq (sr (mv U U (mv U U (lt' U (nn (cd U (λc5=>?_) (λc5=>?_))))))));refine sk (tn (bl (sr (mv U U (mv U U (z1b U (wi6 oo) (z4y U (us underlying3) underlying217 (IntWalk.u64_in _ oo) (v4y (m:=1) (z:=(((i+j) / 2:Nat):Int)) U U dd (show _ / (2:Int)=_ by omega) U (z4y U (us underlying217) underlying3 (wi6 oo) (asg U (kpL [(0,_),(2,_),(4,_),(14,_),(15,_),(16,_)] (.c6 U U U U U U) (nn (sq ?_)))))))))))));intro a h;refine z0h none (λwb w'=>Fr [] wb w') z2m ?_;intro e6 b8;replace D:=D.ext (a6.n1 b8);have hC:Fr [] e6 e6:=Fr.refl _ _;have J:=D;refine z0e 0 h U λa h=>z0e 1 h U λa h=>z0e 2 h U λa h=>z1i (p:=m) (hd0) 3 h U D.sl U z3g U λi0 d9 a h=>z2q 4 h wn U (λ_ hw=>d9 _ (J.sl.ext hw)) z4z U λa h=>z0e 5 h U λa h=>z0e 6 h U λa h=>z1i (p:=((i+j) / 2)) (hd0) 7 h U D.sl U z3g U λi1 e0 a h=>z2q 8 h wn U (λ_ hw=>e0 _ (J.sl.ext hw)) z4z U λa h=>z0d 9 U (y1c (us:=[]) (ws:=[]) h U (z0a U (z0a U z0f)) (mkC func164) (y9n ((l).getD (m) hd0) ((l).getD (((i+j) / 2)) hd0) _) U (by intro g e;cases e) ?_);rintro _ i9 ⟨rfl,a9⟩ a h;replace D:=D.ext a9;replace hC:=hC.next a9;refine z0b (v3a 10 hC h wn U U λa h=>x1m 11 hC h wn U U U λa h=>z0p ?_);clear hC J;refine bk (h.sub (L':=[(0,_),(2,_),(4,_),(14,_),(15,_),(16,_),(103,_)]) (.c7 U U U U U U U)) (tn (cd U (λc6=>?_) (λc6=>?_)));have hx:¬((l).getD (m) hd0).s<((l).getD (((i+j) / 2)) hd0).s:=λe=>c6 (z6f.2 e);refine rg (mv U U (z1b U (wi6 oo) (asg U (nl (bn' ?_)))));exact lpE (((i+j) / 2+1,j)) (.c5 U U U (by first|rfl|exact congrArg (λz=>some (Value.int .i64 z)) (by first|omega|(simp only;omega))) (by first|rfl|exact congrArg (λz=>some (Value.int .i64 z)) (by first|omega|(simp only;omega)))) ⟨(a6.n2 b8 a9),⟨⟨sm,sm,sm⟩,λx h h'=>by
  have:=z5x Z (show O<=x by omega) (show x<=(i+j) / 2 by simp only at h';omega) oo;omega,hI.2.2⟩⟩ sm
 have hx:=z6f.1 (Classical.not_not.1 c6);refine rg (mv U U (asg U (nl (bn' ?_))));exact lpE ((i,(i+j) / 2)) (.c5 U U U (by first|rfl|exact congrArg (λz=>some (Value.int .i64 z)) (by first|omega|(simp only;omega))) (by first|rfl|exact congrArg (λz=>some (Value.int .i64 z)) (by first|omega|(simp only;omega)))) ⟨(a6.n2 b8 a9),⟨⟨sm,sm,sm⟩,hI.2.1,λx h h'=>by
  have:=z5x Z (show O<=(i+j) / 2 by omega) (show (i+j) / 2<=x by simp only at h;omega) h';omega⟩⟩ sm
 obtain rfl:i=j:=by omega
 refine ex (te (te (xh (tn (sq (sr (mv U U (asg U (nn (bl ?_))))))))));replace D:=D.ext a6;refine lpK (ι:=Nat) [(0,_),(14,_)] (λk=>[(17,.int .i64 (k:Int))]) (λk w'=>Fr [g] g9 w'/\(i<=k/\k<=m)/\Lw.Own z3l 206 base w' (.slice (some ⟨g,0,none⟩) l.length c) (z5l l k m (m+1))) (λk=>k) m (.c3 U U U) ⟨Fr.refl _ _,⟨oo,by rw[u6z oo];exact D⟩⟩ ?_;rintro k j0 ⟨b9,⟨hk,D⟩⟩;refine kpC [(0,_),(14,_),(17,_)] (.c3 U U U) ?_;have f7:=z1n l k m (m+1);refine sq (sr (mv U U (mv U U (gt' U (nn (cd U (λc7=>?_) (λc7=>?_)))))));refine sk (tn (sq (bl ?_)));intro a h;refine z0h (some 17) (λwb w'=>Fr [g] wb w') z2m ?_;intro e7 d0;replace D:=D.ext d0;have hC:Fr [g] e7 e7:=Fr.refl _ _;have J:=D;refine z0e 0 h U λa h=>z0e 1 h U λa h=>z0e 2 h U λa h=>z0e 3 h U λa h=>z2w 4 h wn U (by first|exact i6 oo|rfl) U λa h=>z0e 5 h U λa h=>z0e 6 h U λa h=>z2w 7 h wn U (by first|exact i6 oo|rfl) U λa h=>z1i (p:=(k-1)) (hd0) 8 h U D.sl U z3g U λe9 a4 a h=>z0e 10 h U λa h=>z0e 11 h U λa h=>z1i (p:=k) (hd0) 12 h U D.sl U z3g U λf0 a5 a h=>z1x 9 13 kr U ?_ ?_;refine z1t h U (a4 _ D.sl) z4z U λa h=>z0b (z0d 13 U (z1t h U (a5 _ D.sl) z4z U λa h=>?_));refine z0b (z1p 14 kr kr kr hC (p:=k) h wn U z3g oo oo oo U U λa h=>z0d 15 U (z1c (i:=k) (((z5l l k m (m+1)).getD (k-1) hd0)) h U D (by rw[z1n];omega) U z8l λj1 I e2 _hz a h=>?_));replace hC:=hC.sp e2;clear _hz D;have D:=I;clear I;refine z0b (z1p 16 kr kr kr hC (p:=(k-1)) h wn U z3g oo oo oo U U λa h=>z0d 17 U (z1c (i:=(k-1)) (((z5l l k m (m+1)).getD (k) hd0)) h U D (by rw[List.length_set,z1n];omega) U z8l λj2 I f9 _hz a h=>?_));clear _hz D;have D:=I;clear I;refine z1m (z0p ?_);clear hC J;refine bk (h.sub (L':=[(0,_),(14,_),(17,_)]) (.c3 U U U)) (bn' (tn (rg (mv U U (z2p U (wi6 oo) (asg U (nl ?_)))))));exact lpE ((k-1)) (.c3 U U (congrArg (λz=>some (Value.int .i64 z)) oo)) ⟨((Fr.refl [g] _).z4 b9 d0 e2 f9),⟨oo,by have e:=x8b (l:=l) (m:=m) (k:=k-1) oo oo;rw[show k-1+1=k by omega]at e;rw[e]at D;exact D⟩⟩ oo;refine z1t h U (a5 _ D.sl) z4z U λa h=>z0b (z0d 9 U (z1t h U (a4 _ D.sl) z4z U λa h=>?_));refine z0b (z1p 14 kr kr kr hC (p:=k) h wn U z3g oo oo oo U U λa h=>z0d 15 U (z1c (i:=k) (((z5l l k m (m+1)).getD (k-1) hd0)) h U D (by rw[z1n];omega) U z8l λj3 I e3 _hz a h=>?_));replace hC:=hC.sp e3;clear _hz D;have D:=I;clear I;refine z0b (z1p 16 kr kr kr hC (p:=(k-1)) h wn U z3g oo oo oo U U λa h=>z0d 17 U (z1c (i:=(k-1)) (((z5l l k m (m+1)).getD (k) hd0)) h U D (by rw[List.length_set,z1n];omega) U z8l λj4 I g3 _hz a h=>?_));clear _hz D;have D:=I;clear I;refine z1m (z0p ?_);clear hC J;refine bk (h.sub (L':=[(0,_),(14,_),(17,_)]) (.c3 U U U)) (bn' (tn (rg (mv U U (z2p U (wi6 oo) (asg U (nl ?_)))))));exact lpE ((k-1)) (.c3 U U (congrArg (λz=>some (Value.int .i64 z)) oo)) ⟨((Fr.refl [g] _).z4 b9 d0 e3 g3),⟨oo,by have e:=x8b (l:=l) (m:=m) (k:=k-1) oo oo;rw[show k-1+1=k by omega]at e;rw[e]at D;exact D⟩⟩ oo;obtain rfl:k=i:=by omega
 exact ex (te (te (xh (tn (rt (tr (r0 results266  ⟨_,rfl,rfl,by rw[<-u8g oo oo h3 Z (λx h h'=>hI.2.2 x h h') (λx h h'=>hI.2.1 x h h')];exact D,((Fr.refl [g] _).z2 a6 b9)⟩)))))));refine sk (tn (sr (mv U U (mv U U (z1b U (wi6 oo) (z4y U (us underlying3) underlying217 (IntWalk.u64_in _ oo) (v4y (m:=1) (z:=(mid:Int)) U U dd (show _ / (2:Int)=_ by omega) U (z4y U (us underlying217) underlying3 (wi6 oo) (asg U (kpL [(0,_),(1,_),(2,_),(3,_),(4,_),(18,_)] (.c6 U U U U U U) (nn (sr (mv U U (mv U U (z1b U (wi6 oo) (asg U (nn (sr (asg U (asg U (nn (jn (ι:=Unit) [(0,_),(1,_),(2,_),(3,_),(4,_),(18,_),(19,_)] (λ_j=>[(20,.int .i64 ((((if mid<m then mid+m-b else O):Nat)):Int)),(21,.int .i64 ((((if mid<m then mid else m):Nat)):Int))]) (λ_j w'=>Fr [] w0 w') (.c7 U U U U U U U) ?_ ?_))))))))))))))))))))));refine sr (mv U U (mv U U (gt' U (nn (cd U (λc8=>?_) (λc8=>?_))))));refine sr (mv U U (mv U U (z2p U (wi6 oo) (asg U (nn (rg (mv U U (asg U (nl ?_)))))))));exact jE (()) (.d8 U U U U U U U (congrArg (λz=>some (Value.int .i64 z)) (by split<;>omega)) (.cons (congrArg (λz=>some (Value.int .i64 z)) (by split<;>omega)) .nil)) (Fr.refl _ _);refine sr (mv U U (asg U (nn (rg (mv U U (asg U (nl ?_)))))));exact jE (()) (.d8 U U U U U U U (congrArg (λz=>some (Value.int .i64 z)) (by split<;>omega)) (.cons (congrArg (λz=>some (Value.int .i64 z)) (by split<;>omega)) .nil)) (Fr.refl _ _);rintro _j h0 a7;refine kpC [(0,_),(1,_),(2,_),(3,_),(4,_),(18,_),(19,_),(20,_),(21,_)] (.d8 U U U U U U U U (.cons U .nil)) (sr (mv U U (z2p U (wi6 oo) (asg U (nn (sq (bl ?_)))))));refine lpK (ι:=Nat×Nat) [(0,_),(1,_),(2,_),(3,_),(4,_),(18,_),(19,_),(22,_)] (λp=>[(20,.int .i64 (p.1:Int)),(21,.int .i64 (p.2:Int))]) (λp w'=>Fr [] h0 w'/\Sch l (mid+m-1) (if mid<m then mid+m-b else O) (if mid<m then mid else m) p.1 p.2) (λp=>p.2-p.1) ((if mid<m then mid+m-b else O),(if mid<m then mid else m)) (.d8 U U U U U U U U (.c2 U U)) ⟨Fr.refl _ _,k3k (by split<;>omega)⟩ ?_;rintro⟨s,r⟩ h4 ⟨a2,hI⟩;simp only at hI;refine kpC [(0,_),(1,_),(2,_),(3,_),(4,_),(18,_),(19,_),(22,_),(20,.int .i64 (s:Int)),(21,.int .i64 (r:Int))] (.d8 U U U U U U U U (.c2 U U)) ?_;have d3:=hI.lo;have i5:=hI.le;have f6:=hI.hi;have i3:O<=s:=by split at d3<;>omega
 have i7:r<=m/\r<=mid:=by split at f6<;>omega
 have i4:mid+m<=b+s:=by split at d3<;>omega
 refine sq (sr (mv U U (mv U U (lt' U (nn (cd U (λc9=>?_) (λc9=>?_)))))));refine sk (tn (bl (sr (mv U U (mv U U (z1b U (wi6 oo) (z4y U (us underlying3) underlying217 (IntWalk.u64_in _ oo) (v4y (m:=1) (z:=(((s+r) / 2:Nat):Int)) U U dd (show _ / (2:Int)=_ by omega) U (z4y U (us underlying217) underlying3 (wi6 oo) (asg U (kpL [(0,_),(1,_),(2,_),(3,_),(4,_),(18,_),(19,_),(20,_),(21,_),(22,_),(23,_)] (.d8 U U U U U U U U (.c3 U U U)) (nn (sq ?_)))))))))))));intro a h;refine z0h none (λwb w'=>Fr [] wb w') z2m ?_;intro e8 d1;replace D:=D.ext (a7.n2 a2 d1);have hC:Fr [] e8 e8:=Fr.refl _ _;have J:=D;refine z0e 0 h U λa h=>z0e 1 h U λa h=>z0e 2 h U λa h=>z0e 3 h U λa h=>z2w 4 h wn U (by first|exact i6 oo|rfl) U λa h=>z1i (p:=((mid+m-1)-((s+r) / 2))) (hd0) 5 h U D.sl U z3g U λf1 b6 a h=>z2q 6 h wn U (λ_ hw=>b6 _ (J.sl.ext hw)) z4z U λa h=>z0e 7 h U λa h=>z0e 8 h U λa h=>z1i (p:=((s+r) / 2)) (hd0) 9 h U D.sl U z3g U λf2 b7 a h=>z2q 10 h wn U (λ_ hw=>b7 _ (J.sl.ext hw)) z4z U λa h=>z0d 11 U (y1c (us:=[]) (ws:=[]) h U (z0a U (z0a U z0f)) (mkC func164) (y9n ((l).getD ((mid+m-1)-((s+r) / 2)) hd0) ((l).getD (((s+r) / 2)) hd0) _) U (by intro g e;cases e) ?_);rintro _ j5 ⟨rfl,b0⟩ a h;replace D:=D.ext b0;replace hC:=hC.next b0;refine z0b (v3a 12 hC h wn U U λa h=>x1m 13 hC h wn U U U λa h=>z0p ?_);clear hC J;refine bk (h.sub (L':=[(0,_),(1,_),(2,_),(3,_),(4,_),(18,_),(19,_),(20,_),(21,_),(22,_),(23,_),(171,_)]) (.d8 U U U U U U U U (.c4 U U U U))) (tn (cd U (λb5=>?_) (λb5=>?_)));have hx:¬((l).getD ((mid+m-1)-((s+r) / 2)) hd0).s<((l).getD (((s+r) / 2)) hd0).s:=λe=>b5 (z6f.2 e);refine rg (mv U U (z1b U (wi6 oo) (asg U (nl (bn' ?_)))));exact lpE (((s+r) / 2+1,r)) (.d8 U U U U U U U U (.c2 (by first|rfl|exact congrArg (λz=>some (Value.int .i64 z)) (by first|omega|(simp only;omega))) (by first|rfl|exact congrArg (λz=>some (Value.int .i64 z)) (by first|omega|(simp only;omega))))) ⟨(a2.n2 d1 b0),j8m hI oo Z a0 (by split<;>omega) (by split<;>omega) (by split<;>omega) U (by split<;>omega) hx⟩ sm;have hx:=z6f.1 (Classical.not_not.1 b5);refine rg (mv U U (asg U (nl (bn' ?_))));exact lpE ((s,(s+r) / 2)) (.d8 U U U U U U U U (.c2 (by first|rfl|exact congrArg (λz=>some (Value.int .i64 z)) (by first|omega|(simp only;omega))) (by first|rfl|exact congrArg (λz=>some (Value.int .i64 z)) (by first|omega|(simp only;omega))))) ⟨(a2.n2 d1 b0),u5v hI oo Z a0 (by split<;>omega) (by split<;>omega) (by split<;>omega) U (by split<;>omega) hx⟩ sm;obtain rfl:s=r:=by have:=hI.le;omega
 obtain⟨hX,hY⟩:=u3w hI Z a0 (by split<;>omega) (by split<;>omega) U (by split<;>omega) (by split<;>omega) (by split<;>omega);have e1:=hI.lo;have f8:=hI.hi;have a3:O<=s:=by split at e1<;>omega
 have a1:s<=m/\s<=mid:=by split at f8<;>omega
 have i8:mid+m<=b+s:=by split at e1<;>omega
 have d4:=x0h a3 a1.1 (show m<=mid+m-s by omega) (show mid+m-s<=l.length by omega) (show mid=s+(mid+m-s-m) by omega) Z b a0 oo;have d5:=x9w a3 a1.1 (show m<=mid+m-s by omega) (show mid+m-s<=b by omega) h3 (show mid=s+(mid+m-s-m) by omega) Z a0;have a8:(z8a (z5l l s m (mid+m-s)) O mid mid).length=l.length:=by rw[x2e oo (by rw[z1n];omega),z1n]
 refine ex (te (te (xh (tn (sr (mv U U (mv U U (z2p U (wi6 oo) (asg U (kpL [(0,_),(1,_),(2,_),(3,_),(4,_),(18,_),(20,_),(24,_)] (.c8 U U U U U U U U) (nn (jn (ι:=Unit) [(0,_),(1,_),(3,_),(4,_),(18,_),(20,_),(24,_)] (λ_j=>[]) (λ_j w'=>Fr [g] h4 w'/\Lw.Own z3l 206 base w' (.slice (some ⟨g,0,none⟩) l.length c) (z5l l s m (mid+m-s))) (.c7 U U U U U U U) ?_ ?_))))))))))));refine sq (rbo (r:=185) (L':=[(0,_),(1,_),(2,_),(3,_),(4,_),(18,_),(20,_),(24,_)]) ((((s:Int)<(m:Int))/\((m:Int)<(((mid:Int)+(m:Int))-(s:Int))))) (.c8 U U U U U U U U) ?_ ?_);refine mv U U (mv U U (lt' U (mv U U (gs 181 U (λg0=>?_) (λg0=>?_)))));exact gY U (mv U U (gY U (mv U U (gY U (lt' U (pkt U (rbe U (.c8 U U U U U U U U))))))));exact gN U (gN U (gN U (pkf U (rbe U (.c8 U U U U U U U U)))));refine tn (cd U (λf3=>?_) (λf3=>?_));refine rg (mv U U (mv U U (mv U U (mv U U (mv U U ?_)))));replace D:=D.ext (a7.n1 a2);refine cl (z0a U (z0a U (z0a U (z0a U (z0a U z0f))))) (mkC func288) (j9r g c base s m (mid+m-s) _ _ _ l _ U U oo D hl oo) U ?_;rintro _ j6 ⟨rfl,D,g6⟩;exact kpL [(0,_),(1,_),(3,_),(4,_),(18,_),(20,_),(24,_)] (.c7 U U U U U U U) (nl (jE (()) (.c7 U U U U U U U) ⟨((Fr.refl [g] _).z1 g6),D⟩));refine sk ?_;replace D:=D.ext (a7.n1 a2);exact jE (()) (.c7 U U U U U U U) ⟨(Fr.refl _ _),(by rw[j9e oo a1.1 oo];exact D)⟩;rintro _j h5 ⟨e4,D⟩;refine kpC [(0,_),(1,_),(3,_),(4,_),(18,_),(20,_),(24,_)] (.c7 U U U U U U U) (jn (ι:=Unit) [(0,_),(3,_),(4,_),(18,_),(24,_)] (λ_j=>[]) (λ_j w'=>Fr [g] h5 w'/\Lw.Own z3l 206 base w' (.slice (some ⟨g,0,none⟩) l.length c) (z8a (z5l l s m (mid+m-s)) O mid mid)) (.c5 U U U U U) ?_ ?_);refine sq (rbo (r:=199) (L':=[(0,_),(1,_),(3,_),(4,_),(18,_),(20,_),(24,_)]) ((((O:Int)<(s:Int))/\((s:Int)<(mid:Int)))) (.c7 U U U U U U U) ?_ ?_);refine mv U U (mv U U (lt' U (mv U U (gs 195 U (λg1=>?_) (λg1=>?_)))));exact gY U (mv U U (gY U (mv U U (gY U (lt' U (pkt U (rbe U (.c7 U U U U U U U))))))));exact gN U (gN U (gN U (pkf U (rbe U (.c7 U U U U U U U)))));refine tn (cd U (λf4=>?_) (λf4=>?_));refine rg (mv U U (mv U U (mv U U (mv U U (mv U U (cl (z0a U (z0a U (z0a U (z0a U (z0a U z0f))))) (mkC func266) (by have x:=ih O s mid ↑O ↑s ↑mid (z5l l s m (mid+m-s)) _ oo U U U (by rw[z1n];exact D) (by rw[z1n];exact hl) oo oo (by rw[z1n];omega) d4.1 d4.2;rw[z1n]at x;exact x) U ?_))))));rintro _ j7 ⟨rfl,D,g7⟩;exact kpL [(0,_),(3,_),(4,_),(18,_),(24,_)] (.c5 U U U U U) (nl (jE (()) (.c5 U U U U U) ⟨((Fr.refl [g] _).z1 g7),D⟩));exact sk (jE (()) (.c5 U U U U U) ⟨(Fr.refl _ _),(by rw[skip1 oo a3 a1.1 oo oo oo Z b a0 oo];exact D)⟩);rintro _j j8 ⟨e5,D⟩;refine kpC [(0,_),(3,_),(4,_),(18,_),(24,_)] (.c5 U U U U U) (sq (rbo (r:=213) (L':=[(0,_),(3,_),(4,_),(18,_),(24,_)]) ((((mid:Int)<(((mid:Int)+(m:Int))-(s:Int)))/\((((mid:Int)+(m:Int))-(s:Int))<(b:Int)))) (.c5 U U U U U) ?_ ?_));refine mv U U (mv U U (lt' U (mv U U (gs 209 U (λg2=>?_) (λg2=>?_)))));exact gY U (mv U U (gY U (mv U U (gY U (lt' U (pkt U (rbe U (.c5 U U U U U))))))));exact gN U (gN U (gN U (pkf U (rbe U (.c5 U U U U U)))));refine tn (cd U (λf5=>?_) (λf5=>?_));refine rg (mv U U (mv U U (mv U U (mv U U (mv U U (cl (z0a U (z0a U (z0a U (z0a U (z0a U z0f))))) (mkC func266) (by have x:=ih mid (mid+m-s) b ↑mid (↑mid + ↑m - ↑s) ↑b (z8a (z5l l s m (mid+m-s)) O mid mid) _ oo U oo U (by rw[a8];exact D) (by rw[a8];exact hl) oo oo (by rw[a8];omega) d5.1 d5.2;rw[a8]at x;exact x) U ?_))))));rintro _ j9 ⟨rfl,D,g8⟩;exact kpL [] .nil (nl (r0n results266  ⟨_,rfl,rfl,by rw[<-y1j a3 a1.1 (show m<=mid+m-s by omega) (show mid+m-s<=b by omega) h3 (show mid=s+(mid+m-s-m) by omega) Z a0 hX hY];exact D,((Fr.refl [g] _).z5 a7 a2 e4 e5 g8)⟩));exact sk (r0n results266  ⟨_,rfl,rfl,by rw[<-y1j a3 a1.1 (show m<=mid+m-s by omega) (show mid+m-s<=b by omega) h3 (show mid=s+(mid+m-s-m) by omega) Z a0 hX hY];rw[k1d oo a3 a1.1 oo oo h3 oo Z a0];exact D,((Fr.refl [g] _).z4 a7 a2 e4 e5)⟩)
theorem j2a (g c base:Nat)(l:List Hd)(w0:World)(ho:Lw.Own z3l 206 base w0 (.slice (some ⟨g,0,none⟩) l.length c) l)(hl:l.length<=1000000):Rets prog 225 #[.slice (some ⟨g,0,none⟩) l.length c,.int .i64 (l.length:Int),.func (.func 164) #[] #[]] w0 λr w'=>r=.tuple #[]/\Lw.Own z3l 206 base w' (.slice (some ⟨g,0,none⟩) l.length c) (z5h l)/\Fr [g] w0 w':=by
 refine we [(0,.slice (some ⟨g,0,none⟩) l.length c),(1,.int .i64 (l.length:Int)),(2,.func (.func 164) #[] #[])] func225 U ntmps225 U (.c3 U U U) (sr (asg U (nn (sr (mv U U (asg U (asg U (nn (sq (bl (lpK (ι:=Nat×List Hd) [(0,_),(1,_),(2,_),(6,_)] (λp=>[(7,.int .i64 (p.1:Int)),(8,.int .i64 ((p.1+20:Nat):Int))]) (λp w'=>Fr [g] w0 w'/\(p.2.length=p.1/\p.1<=l.length/\chk 20 l=p.2++chk 20 (l.drop p.1))/\Lw.Own z3l 206 base w' (.slice (some ⟨g,0,none⟩) l.length c) (p.2++l.drop p.1)) (λp=>l.length-p.1) (0,[]) (.c6 U U U U U U) ⟨Fr.refl _ _,⟨⟨rfl,Nat.zero_le _,rfl⟩,by simpa using ho⟩⟩ ?_)))))))))));rintro⟨I,D⟩ w1 ⟨Z,⟨M,ho⟩⟩;simp only at M ho;refine kpC [(0,_),(1,_),(2,_),(6,_),(7,.int .i64 (I:Int)),(8,.int .i64 ((I+20:Nat):Int))] (.c6 U U U U U U) ?_;have J:(D++l.drop I).length=l.length:=by rw[List.length_append,List.length_drop];omega
 refine sq (sr (mv U U (mv U U (le' U U (nn (cd U (λc0=>?_) (λc0=>?_)))))));refine sk (tn (bl (sr (mv U U (mv U U (mv U U (mv U U (cl (ev4 U) (mkC func265) (by have x:=u6r g c base I (I+20) (D++l.drop I) _ (by rw[J];exact ho) oo oo;rw[J]at x;exact x) U ?_))))))));rintro _ w2 ⟨rfl,ho,q2⟩;refine kpL [(0,_),(1,_),(2,_),(6,_),(8,_)] (.c5 U U U U U) (nn (sr (mv U U (asg U (nn (rg (mv U U (mv U U (z1b U (wi6 oo) (asg U (nl (bn' ?_))))))))))));exact lpE ((I+20,D++z5h (seg l I (I+20)))) (.c6 U U U U (by first|rfl|exact congrArg (λz=>some (Value.int .i64 z)) (by first|omega|(simp only;omega))) (by first|rfl|exact congrArg (λz=>some (Value.int .i64 z)) (by first|omega|(simp only;omega)))) ⟨((Fr.refl [g] _).z2 Z q2),⟨⟨by simp only;rw[List.length_append,z4h,z2d oo];omega,sm,by simp only;rw[M.2.2,y1x dd oo,List.append_assoc]⟩,by simp only;rw[<-u1b M.1 oo];exact ho⟩⟩ sm;refine ex (te (te (xh (tn (sr (mv U U (mv U U (mv U U (mv U U (cl (ev4 U) (mkC func265) (by have x:=u6r g c base I l.length (D++l.drop I) _ (by rw[J];exact ho) oo oo;rw[J]at x;exact x) U ?_))))))))));rintro _ w3 ⟨rfl,ho,q3⟩;rw[u1p (B:=20) M.1 M.2.1 oo,<-M.2.2]at ho;refine kpL [(0,_),(1,_),(2,_),(6,_)] (.c4 U U U U) (nn (bl (lpK (ι:=Nat) [(0,_),(1,_),(2,_)] (λB=>[(6,.int .i64 (B:Int))]) (λB w'=>Fr [g] w3 w'/\(20<=B/\B<=4000000)/\Lw.Own z3l 206 base w' (.slice (some ⟨g,0,none⟩) l.length c) (chk B l)) (λB=>l.length-B) 20 (.c4 U U U U) ⟨Fr.refl _ _,⟨oo,ho⟩⟩ ?_)));rintro B w4 ⟨q4,⟨hB,ho⟩⟩;refine kpC [(0,_),(1,_),(2,_),(6,_)] (.c4 U U U U) (sq (sr (mv U U (mv U U (lt' U (nn (cd U (λc1=>?_) (λc1=>?_))))))));refine sk (tn (bl (sr (mv U U (x5u U U (wi6 oo) U (asg U (asg U (nn (sq (bl ?_))))))))));refine lpK (ι:=Nat×List Hd) [(0,_),(1,_),(2,_),(6,_)] (λp=>[(7,.int .i64 (p.1:Int)),(8,.int .i64 ((p.1+2*B:Nat):Int))]) (λp w'=>Fr [g] w4 w'/\(p.2.length=p.1/\p.1<=l.length/\chk (2*B) l=p.2++chk (2*B) (l.drop p.1))/\Lw.Own z3l 206 base w' (.slice (some ⟨g,0,none⟩) l.length c) (p.2++chk B (l.drop p.1))) (λp=>l.length-p.1) (0,[]) (.c6 U U U U U (by first|rfl|exact congrArg (λz=>some (Value.int .i64 z)) (by first|omega|(simp only;omega)))) ⟨Fr.refl _ _,⟨⟨rfl,Nat.zero_le _,rfl⟩,by simpa using ho⟩⟩ ?_;rintro⟨I,D⟩ w5 ⟨q5,⟨M,ho⟩⟩;simp only at M ho;refine kpC [(0,_),(1,_),(2,_),(6,_),(7,.int .i64 (I:Int)),(8,.int .i64 ((I+2*B:Nat):Int))] (.c6 U U U U U U) ?_;have J:(D++chk B (l.drop I)).length=l.length:=by rw[List.length_append,v4g B _ _ (Nat.le_refl _),List.length_drop];omega
 refine sq (sr (mv U U (mv U U (le' U U (nn (cd U (λc2=>?_) (λc2=>?_)))))));have O:=x2y (l:=l) (D:=D) (a:=I) (B:=B) (C:=B) M.1 oo (Nat.le_refl _) oo (chk B (l.drop (I+(B+B)))) (by rw[show I+(B+B)=I+B+B by omega];exact y1x oo oo);refine sk (tn (bl (sr (mv U U (mv U U (mv U U (mv U U (z1b U (wi6 oo) (mv U U (mv U U (cl (z0a U (z0a U (z0a U (z0a U (z0a U z0f))))) (mkC func266) (by have x:=u6t g c base (2*B) I (I+B) (I+2*B) ↑I (↑I + ↑B) ↑(I+2*B) (D++chk B (l.drop I)) _ oo U oo U (by rw[J];exact ho) oo oo oo oo O.2.1 (by rw[show I+2*B=I+(B+B) by omega];exact O.2.2);rw[J]at x;exact x) U ?_)))))))))));rintro _ w6 ⟨rfl,ho,q6⟩;refine kpL [(0,_),(1,_),(2,_),(6,_),(8,_)] (.c5 U U U U U) (nn (sr (mv U U (asg U (nn (rg (mv U U (mv U U (x5u U U (wi6 oo) U (z1b U (wi6 oo) (asg U (nl (bn' ?_)))))))))))));exact lpE ((I+2*B,D++z5h (seg l I (I+2*B)))) (.c6 U U U U (by first|rfl|exact congrArg (λz=>some (Value.int .i64 z)) (by first|omega|(simp only;omega))) (by first|rfl|exact congrArg (λz=>some (Value.int .i64 z)) (by first|omega|(simp only;omega)))) ⟨((Fr.refl [g] _).z2 q5 q6),⟨⟨by simp only;rw[List.length_append,z4h,z2d oo];omega,sm,by simp only;rw[M.2.2,y1x oo oo,List.append_assoc]⟩,by simp only;rw[show I+2*B=I+(B+B) by omega,O.1]at ho;rw[show I+2*B=I+(B+B) by omega];exact ho⟩⟩ sm;refine ex (te (te (xh (tn (jn (ι:=Unit) [(0,_),(1,_),(2,_),(6,_)] (λ_j=>[]) (λ_j w'=>Fr [g] w5 w'/\Lw.Own z3l 206 base w' (.slice (some ⟨g,0,none⟩) l.length c) (chk (2*B) l)) (.c4 U U U U) ?_ ?_)))));refine sr (mv U U (mv U U (z1b U (wi6 oo) (asg U (nn (sr (mv U U (mv U U (lt' U (nn (cd U (λc3=>?_) (λc3=>?_))))))))))));have O:=x2y (l:=l) (D:=D) (a:=I) (B:=B) (C:=l.length-(I+B)) M.1 oo oo oo [] (by rw[List.append_nil,y0p (by rw[List.length_drop];omega),show I+(B+(l.length-(I+B)))=l.length by omega];unfold seg;rw[List.take_length]);rw[show I+(B+(l.length-(I+B)))=l.length by omega,List.append_nil]at O;refine rg (mv U U (mv U U (mv U U (mv U U (mv U U (cl (z0a U (z0a U (z0a U (z0a U (z0a U z0f))))) (mkC func266) (by have x:=u6t g c base (2*B) I (I+B) l.length ↑I (↑I + ↑B) ↑l.length (D++chk B (l.drop I)) _ oo U oo U (by rw[J];exact ho) oo oo oo oo O.2.1 O.2.2;rw[J]at x;exact x) U ?_))))));rintro _ w7 ⟨rfl,ho,q7⟩;exact kpL [(0,_),(1,_),(2,_),(6,_)] (.c4 U U U U) (nl (jE (()) (.c4 U U U U) ⟨((Fr.refl [g] _).z1 q7),(by rw[O.1]at ho;rw[M.2.2,y0p (show (l.drop I).length<=2*B by rw[List.length_drop];omega),show l.drop I=seg l I l.length by unfold seg;rw[List.take_length]];exact ho)⟩));exact sk (jE (()) (.c4 U U U U) ⟨(Fr.refl _ _),(by rw[y0p (show (l.drop I).length<=B by rw[List.length_drop];omega)]at ho;rw[M.2.2,y0p (show (l.drop I).length<=2*B by rw[List.length_drop];omega)];exact ho)⟩);rintro _j w8 ⟨q8,ho⟩;refine kpC [(0,_),(1,_),(2,_),(6,_)] (.c4 U U U U) (rg (mv U U (x5u U U (wi6 oo) U (asg U (nl (bn' ?_))))));exact lpE (2*B) (.c4 U U U (congrArg (λz=>some (Value.int .i64 z)) oo)) ⟨((Fr.refl [g] _).z3 q4 q5 q8),⟨oo,ho⟩⟩ oo;exact ex (te (te (xh (r0n results225  ⟨_,rfl,rfl,by rw[y0p oo]at ho;exact ho,((Fr.refl [g] _).z3 Z q3 q4)⟩))))
end Go.Proofs.YtjilcnmaefhmeaaGreatDoor
