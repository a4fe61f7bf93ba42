/- Texts of the proof, joined. -/
import Derived.Test.YtpgdchkdlgkmgaaGreatDoorRows
import Derived.WalkSmall
import Derived.Test.YtpgdchkdlgkmgaaGreatDoorJS2
set_option linter.unusedVariables false
set_option linter.unusedSimpArgs false
namespace Go.Proofs.YtpgdchkdlgkmgaaGreatDoor
open Go.Lw Go.G21 Go.G08 _root_.Go.Proofs.Tryz
theorem y2v:z0z prog 39 1 1:=λ_ _=>by kernel_rfl
theorem u3f:z2c prog 36:=λ_=>by kernel_rfl
theorem j5j:z2c prog 232:=λ_=>by kernel_rfl
theorem x9q (v:Value)(l:List LId)(w0:World)(I:Sl z1k w0 v l)(hl:l.length<=100000):Rets prog 192 #[v] w0 λr w'=>∃A,r=.slice A l.length l.length/\Lw.Own z1k 87 w0.heap.size w' r l/\Fr [] w0 w':=by
 obtain⟨A,c,rfl,a0,Z,U⟩:=id I;clear U;unfold maxLen at Z;refine we [(0,.slice A l.length c)] func192 rfl ntmps192 rfl (.cons rfl .nil) ?_;have J:=I;refine sr (asg rfl (nn (sr (mv rfl (lnS rfl underlying37 (z1f (m:=l.length) (c:=l.length) (id0) rfl rfl z6j y3v rfl (λO w1 a1 D M z1=>(asg rfl (nn (sr (mv rfl (mv rfl ?_))))))))))));replace I:=J.ext M;refine z7k (zs:=List.replicate l.length id0) (by rw[List.length_replicate];rfl) rfl (by rw[List.length_replicate];exact D) I (by rw[List.length_replicate]) z6j (λw2 D q2 z2=>?_);rw[List.length_replicate]at D;refine nn (sr (mv rfl (asg rfl (nn (rt (r1 results192 rfl ?_))))));exact⟨_,rfl,some ⟨O,0,none⟩,rfl,D.low (by omega),(M.z1 q2)⟩
theorem v3t (v:Value)(ts:List TQ)(w0:World)(I:Sl z3y w0 v ts)(D:TabAt w0 ts)(hl:ts.length=6)(hv:TabV (z2a ts)):Rets prog 137 #[v] w0 λr w'=>∃u,r=.tuple #[u,.int .i64 0]/\Fr [] w0 w':=by
 obtain⟨A,c,rfl,a6,hM,hA⟩:=id I;clear hA;unfold maxLen at hM;have a9:=z5o D;have a7:z4v (z2a ts)<=2048:=hv.ok.cnt;refine we [(0,.slice A ts.length c)] func137 rfl ntmps137 rfl (.cons rfl .nil) ?_;have M:=I;have J:=D;refine sr (asg rfl (asg rfl (nn (sq (sr (mv rfl (lnS rfl underlying35 (ne' rfl rfl (nn (cd rfl (λc0=>?_) (λc0=>?_)))))))))));refine sr (asg rfl (asg rfl (nn (rt (tr (r2 results137 rfl rfl ?_))))));exact(by exfalso;first|omega|exact absurd rfl (by assumption)|(simp_all;done)|(simp_all;omega));refine sk (tn (sq (sr (mv rfl (cl (ev1 rfl) (mkC func151) (y3e _ _ _ I D (by omega)) rfl ?_)))));rintro _ w1 ⟨rfl,O⟩;refine gt' rfl rfl (nn (cd rfl (λc1=>?_) (λc1=>?_)));refine sr (asg rfl (asg rfl (nn (rt (tr (r2 results137 rfl rfl ?_))))));exact(by exfalso;first|omega|exact absurd rfl (by assumption)|(simp_all;done)|(simp_all;omega));refine sk (tn (sq (sr (mv rfl ?_))));replace I:=M.ext O;replace D:=J.ext O;refine cl (ev1 rfl) (mkC func189) (v6x _ _ _ I D hl hv.ok) rfl ?_;rintro _ w2 ⟨rfl,U⟩;refine asg rfl (nn (sr (mv rfl (ne' rfl rfl (nn (cd rfl (λc2=>?_) (λc2=>?_)))))));refine sr (mv rfl (asg rfl (asg rfl (nn (rt (tr (r2 results137 rfl rfl ?_)))))));exact(by exfalso;first|omega|exact absurd rfl (by assumption)|(simp_all;done)|(simp_all;omega));refine sk (tn (sq (sr (mv rfl ?_))));replace I:=M.ext (O.n1 U);replace D:=J.ext (O.n1 U);refine cl (ev1 rfl) (mkC func190) (u9a _ _ _ I D hl hv) rfl ?_;rintro _ w3 ⟨rfl,Z⟩;refine asg rfl (nn (sr (mv rfl (ne' rfl rfl (nn (cd rfl (λc3=>?_) (λc3=>?_)))))));refine sr (mv rfl (asg rfl (asg rfl (nn (rt (tr (r2 results137 rfl rfl ?_)))))));exact(by exfalso;first|omega|exact absurd rfl (by assumption)|(simp_all;done)|(simp_all;omega));refine sk (tn (sr (mv rfl ?_)));replace I:=M.ext (O.n2 U Z);replace D:=J.ext (O.n2 U Z);refine cl (ev1 rfl) (mkC func191) (u2m _ _ _ I D hl hv) rfl ?_;rintro a4 w4 ⟨l,ho,a8,q4⟩;obtain⟨a2,a5,rfl,a0⟩:=ho.sl.form;refine asg rfl (nn (sq (sr (mv rfl (lnS rfl underlying37 (mv rfl ?_))))));replace I:=M.ext (O.n3 U Z q4);replace D:=J.ext (O.n3 U Z q4);refine cl (ev1 rfl) (mkC func151) (y3e _ _ _ I D (by omega)) rfl ?_;rintro _ w5 ⟨rfl,q5⟩;refine lt' rfl rfl (nn (cd rfl (λc4=>?_) (λc4=>?_)));refine sr (asg rfl (asg rfl (nn (rt (tr (r2 results137 rfl rfl ?_))))));exact(by exfalso;first|omega|exact absurd rfl (by assumption)|(simp_all;done)|(simp_all;omega));refine sk (tn (sr (mv rfl ?_)));replace ho:=ho.ext q5;refine cl (ev1 rfl) (mkC func192) (x9q _ _ _ ho.sl (by omega)) rfl ?_;rintro _ w6 ⟨a3,rfl,a1,q6⟩;refine asg rfl (asg rfl (nn (rt (r2 results137 rfl rfl ?_))));exact⟨_,rfl,_,rfl,(O.n5 U Z q4 q5 q6)⟩
theorem u7h (v:Value)(ts:List TQ)(w0:World)(I:Sl z3y w0 v ts)(D:TabAt w0 ts)(hl:ts.length=6)(hv:TabV (z2a ts)):Rets prog 99 #[v] w0 λr w'=>r=.int .i64 0/\Fr [] w0 w':=by
 obtain⟨A,c,rfl,O,M,J⟩:=id I;clear J;unfold maxLen at M;have Z:=z5o D;refine we [(0,.slice A ts.length c)] func99 rfl ntmps99 rfl (.cons rfl .nil) ?_;have a0:=I;have U:=D;refine sr (asg rfl (nn (sr (mv rfl (cl (ev1 rfl) (mkC func137) (v3t _ _ _ I D hl hv) rfl ?_)))));rintro _ w1 ⟨v7,rfl,q1⟩;refine mv rfl (xt rfl rfl (xt rfl rfl (asg rfl (asg rfl (kpL [(4,_)] (.cons rfl .nil) (nn (sr (mv rfl (asg rfl (nn (rt (r1 results99 rfl ?_))))))))))));exact⟨_,rfl,rfl,q1⟩
theorem u6g (D g:Nat)(p:List LId)(A:Option Addr)(m c:Nat)(w0:World)(O:m=0)(J:Blk w0 D 232 [.map (some g)])(M:MapZ idV w0 g (.int .i64 0) (y8p p)):Rets prog 139 #[.slice A m c,.pointer (some ⟨D,0,none⟩)] w0 λr w'=>MapZ idV w' g (.int .i64 0) (y8p p)/\Fr [g] w0 w':=by
 refine we [(0,.slice A m c),(1,.pointer (some ⟨D,0,none⟩))] func139 rfl ntmps139 rfl (.c2 rfl rfl) (sr (mv rfl (lnS rfl underlying37 (mv rfl (nn (bl ?_))))));refine lpK (ι:=Nat) [(1,_),(5,_),(6,_)] (λk=>[(7,.int .i64 (k:Int))]) (λk w'=>Fr [] w0 w'/\k<=m) (λk=>m-k) 0 (.c4 rfl rfl rfl rfl) ⟨Fr.refl _ _,Nat.zero_le _⟩ ?_;rintro k w1 ⟨I,U⟩;refine kpC [(1,_),(5,_),(6,_),(7,_)] (.c4 rfl rfl rfl rfl) (sr (lt' rfl rfl ?_));rw[show decide ((k:Int)<(m:Int))=false from decide_eq_false (by omega)];refine nn (sq (cf rfl (ex (te (te (xh (r0n results139  ?_)))))));exact⟨_,rfl,M.ext I,(Fr.refl [g] _).next I⟩
theorem u7b (gp g:Nat)(p:List LId)(v:Value)(l:List LId)(w0:World)(hs:Sl z1k w0 v l)(I:Blk w0 gp 232 [.map (some g)])(J:MapZ idV w0 g (.int .i64 0) (y8p p))(a3:g∉z0x v)(a2:∀k,k<l.length->(p++l.take k).count (l.getD k id0)<=100000):Rets prog 139 #[v,.pointer (some ⟨gp,0,none⟩)] w0 λr w'=>MapZ idV w' g (.int .i64 0) (y8p (p++l))/\Fr [g] w0 w':=by
 obtain⟨A,c,rfl,b1,hM,hA⟩:=id hs;clear hA;unfold maxLen at hM;have a9:=J.ne_blk I;have b3:=I.lt;have a8:=J.lt;refine we [(0,.slice A l.length c),(1,.pointer (some ⟨gp,0,none⟩))] func139 rfl ntmps139 rfl (.c2 rfl rfl) ?_;have a6:=hs;refine sr (mv rfl (lnS rfl underlying37 (mv rfl (nn (bl ?_)))));refine lpK (ι:=Nat) [(1,_),(5,_),(6,_)] (λk=>[(7,.int .i64 (k:Int))]) (λk w'=>Fr [g] w0 w'/\k<=l.length/\MapZ idV w' g (.int .i64 0) (y8p (p++l.take k))) (λk=>l.length-k) 0 (.c4 rfl rfl rfl rfl) ⟨Fr.refl _ _,⟨Nat.zero_le _,by rw[List.take_zero,List.append_nil];exact J⟩⟩ ?_;rintro k w1 ⟨q1,⟨hk,J⟩⟩;have z1:=q1.size;refine kpC [(1,_),(5,_),(6,_),(7,_)] (.c4 rfl rfl rfl rfl) (sr (lt' rfl rfl (nn (sq (cd rfl (λc0=>?_) (λc0=>?_))))));have a7:=a2 k (by omega);refine sk (tn (sq (bl (sr ?_))));replace hs:=a6.fr ((Fr.refl [g] _).z1 q1) (by intro k_ a4 a0;rw[List.mem_singleton.1 a4]at a0;exact a3 a0);refine z1a (id0) rfl hs rfl z6j z1d (λb0 a1=>?_);refine z1i rfl (a1 _ hs) z3o (al y3v rfl rfl (λg4 w2 b2 D q2 z2=>?_));refine z0j (vs:=[_,_]) rfl rfl D y1u (λw3 D q3 z3=>?_) (h1:=(by first|(simp[Value.oneCell',S];done)|exact z1k.one _));refine nn ?_;replace I:=((I.fr q1 (by intro e;simp at e;omega)).ext q2).fr q3 (by intro e;simp at e;omega);replace J:=(J.ext q2).fr q3 (by intro k hk hb;simp at hk hb;omega);intro a h;refine z0i none (λwb w'=>Fr [g] wb w') z2o ?_;intro w4 q4;have z4:=q4.size;replace I:=I.ext q4;replace J:=J.ext q4;replace D:=D.ext q4;have hC:Fr [g] w4 w4:=Fr.refl _ _;have O:=I;have U:=J;have M:=D;refine y5t 0 hC h wn rfl (λ_ hw=>O.fr hw (by intro e;simp at e;omega)) j5j rfl rfl λa h=>z0y 1 h rfl (λ_ hw=>M.fr hw (by intro e;simp at e;omega)) z3o rfl λa h=>z2d 2 4 (by kernel_rfl) rfl rfl ?_ ?_;refine z7h (V:=idV) (z:=(.int .i64 0)) (k:=(l.getD k id0)) (v:=.int .i64 ((((p++l.take k)).count (l.getD k id0):Nat):Int)) h rfl rfl J z5u underlying232 zvI rfl rfl λa h=>?_;refine z0b ?_;refine z4u 3 h rfl rfl (by first|exact i6 (by omega)|rfl) rfl λa h=>z0d 4 rfl ?_;have a5:=J.ne_blk D;refine z6u (V:=idV) (z:=(.int .i64 0)) (k:=(l.getD k id0)) h rfl rfl J z5u underlying232 zvI rfl λw5 b4 Z q5 z5 a h=>?_;replace J:=Z.map;replace D:=D.fr q5 (by intro e;simp at e;omega);replace I:=I.fr q5 (by intro e;simp at e;omega);replace hC:=hC.step q5 (by simp);refine z0b ?_;refine z0m 5 h rfl rfl rfl λa h=>z0d 6 rfl ?_;refine z4z (V:=idV) (z:=(.int .i64 0)) (k:=(l.getD k id0)) h rfl rfl rfl Z ?_;clear h a Z J;intro w6 J q6 z6 a h;replace J:MapZ idV w6 g (.int .i64 0) (y8p ((p++l.take k)++[(l.getD k id0)])):=by rw[<-y8u];exact J
 replace D:=D.fr q6 (by intro e;simp at e;omega);replace I:=I.fr q6 (by intro e;simp at e;omega);replace hC:=hC.step q6 (by simp);refine z0b ?_;refine z0q ?_;clear hC O U M;refine bk (h.sub (L':=[(1,_),(5,_),(6,_),(7,_)]) (.c4 rfl rfl rfl rfl)) (bn' (tn (rg (z0v rfl rfl (wi6 (by omega)) (mv rfl (nl ?_))))));exact lpE (k+1) (.c4 rfl rfl rfl rfl) ⟨((Fr.refl [g] _).z6 q1 q2 q3 q4 q5 q6),⟨by omega,by rw[z6g id0 (by omega),<-List.append_assoc];exact J⟩⟩ (by omega);have a5:=J.ne_blk D;refine z6u (V:=idV) (z:=(.int .i64 0)) (k:=(l.getD k id0)) h rfl rfl J z5u underlying232 zvI rfl λw7 b5 Z q7 z7 a h=>?_;replace J:=Z.map;replace D:=D.fr q7 (by intro e;simp at e;omega);replace I:=I.fr q7 (by intro e;simp at e;omega);replace hC:=hC.step q7 (by simp);refine z0b ?_;refine z0m 5 h rfl rfl rfl λa h=>z0d 2 rfl ?_;refine z7h (V:=idV) (z:=(.int .i64 0)) (k:=(l.getD k id0)) (v:=.int .i64 ((((p++l.take k)).count (l.getD k id0):Nat):Int)) h rfl rfl J z5u underlying232 zvI rfl rfl λa h=>?_;refine z0b ?_;refine z4u 3 h rfl rfl (by first|exact i6 (by omega)|rfl) rfl λa h=>z0d 6 rfl ?_;refine z4z (V:=idV) (z:=(.int .i64 0)) (k:=(l.getD k id0)) h rfl rfl rfl Z ?_;clear h a Z J;intro w8 J q8 z8 a h;replace J:MapZ idV w8 g (.int .i64 0) (y8p ((p++l.take k)++[(l.getD k id0)])):=by rw[<-y8u];exact J
 replace D:=D.fr q8 (by intro e;simp at e;omega);replace I:=I.fr q8 (by intro e;simp at e;omega);replace hC:=hC.step q8 (by simp);refine z0b ?_;refine z0q ?_;clear hC O U M;refine bk (h.sub (L':=[(1,_),(5,_),(6,_),(7,_)]) (.c4 rfl rfl rfl rfl)) (bn' (tn (rg (z0v rfl rfl (wi6 (by omega)) (mv rfl (nl ?_))))));exact lpE (k+1) (.c4 rfl rfl rfl rfl) ⟨((Fr.refl [g] _).z6 q1 q2 q3 q4 q7 q8),⟨by omega,by rw[z6g id0 (by omega),<-List.append_assoc];exact J⟩⟩ (by omega);obtain rfl:k=l.length:=by omega
 rw[List.take_length]at J;refine ex (te (te (xh (r0n results139  ?_))));exact⟨_,rfl,J,((Fr.refl [g] _).z1 q1)⟩
theorem x4j (I g:Nat)(p:List LId)(v:Value)(l:List LId)(wS w0:World)(U:Sl z1k wS v l)(Z:wS.heap.size<=g)(O:Sl z1k w0 v l)(D:Blk w0 I 232 [.map (some g)])(M:MapZ idV w0 g (.int .i64 0) (y8p p))(J:∀k,k<l.length->(p++l.take k).count (l.getD k id0)<=100000):Rets prog 139 #[v,.pointer (some ⟨I,0,none⟩)] w0 λr w'=>MapZ idV w' g (.int .i64 0) (y8p (p++l))/\Fr [g] w0 w':=by
 by_cases e:l=[];subst e;obtain⟨A,c,rfl,_⟩:=O.form;rw[List.append_nil];exact u6g I g p A _ c w0 rfl D M;exact u7b I g p v l w0 O D M (λh=>by have:=U.blk e g h;omega) J
def hfv (q:FbQ)(z:Nat):SV:=if z=0 then q.h else q.f
def hfl (q:FbQ)(z:Nat):List LId:=if z=0 then q.hs else q.fs
theorem u1m {q:FbQ}{w:World}(h:FbAt w q)(z:Nat):Sl z1k w (slv (hfv q z)) (hfl q z):=by
 unfold hfv hfl;split;exact h.h;exact h.f
theorem j5c {q:FbQ}(z:Nat){i:LId}(h:i∈hfl q z):i∈q.hs++q.fs:=by
 unfold hfl at h;split at h;exact List.mem_append_left _ h;exact List.mem_append_right _ h
theorem j6k {q:FbQ}{z:Nat}(h:z<2):[Value.slice q.h.1 q.h.2.1 q.h.2.2,.slice q.f.1 q.f.2.1 q.f.2.2][(z:Int).toNat]?=some (.slice (hfv q z).1 (hfv q z).2.1 (hfv q z).2.2):=by
 obtain rfl|rfl:z=0\/z=1:=by omega
 rfl;rfl
theorem x5i:z3u prog 39 4:=⟨λ_=>by kernel_rfl,λ_=>by kernel_rfl⟩
theorem j6x:BuildAt prog 231 [(0,1),(1,1)] [(.slice none 0 0),(.slice none 0 0)]:=BuildAt.array (sz:=1) underlying231 (λ_=>by kernel_rfl) (λ_=>by kernel_rfl) (λi q h=>by match i,h with|0,h=>simpa using h.symm|1,h=>simpa using h.symm|(k+2),h=>simp at h)
theorem z8u:z0z prog 39 0 0:=λ_ _=>by kernel_rfl
theorem y5b:z0z prog 39 2 2:=λ_ _=>by kernel_rfl
theorem z8v:z0z prog 39 3 3:=λ_ _=>by kernel_rfl
theorem x3m:z2c prog 35:=λ_=>by kernel_rfl
theorem u5b:z1p prog 37 1:=λ_=>by kernel_rfl
theorem j6e:z1p prog 232 1:=λ_=>by kernel_rfl
theorem j5v (w:World):(zeroValue 232).run prog w=.ok (.map none) w:=by kernel_rfl
theorem y6i:z1p prog 24 2:=λ_=>by kernel_rfl
theorem u0x (w:World):(zeroValue 24).run prog w=.ok (.agg #[(.int .u8 0),(.int .i64 0)]) w:=by kernel_rfl
theorem x3t (r:Int)(w0:World):Rets prog 152 #[.int .i64 r] w0 λv w'=>v=.bool (decide (-4<=r/\r<=4))/\Fr [] w0 w':=by
 refine we [(0,.int .i64 r)] func152 rfl ntmps152 rfl (.cons rfl .nil) (sr (asg rfl (nn (sq ?_))));refine rbo (r:=2) (L':=[]) (((-4<=r)/\(r<=4))) .nil ?_ ?_;refine mv rfl (ge' rfl rfl (mv rfl (gs 5 rfl (λD=>?_) (λD=>?_))));exact gY rfl (mv rfl (gY rfl (le' rfl rfl rfl (pkt rfl rfl (asg rfl (rbe rfl .nil))))));exact gN rfl rfl (gN rfl rfl (pkf rfl rfl (asg rfl (rbe rfl .nil))));refine tn (rt (r1 results152 rfl ?_));exact⟨_,rfl,rfl,(Fr.refl _ _)⟩
theorem y1q (b p r:Int)(w0:World)(hp:-9223372036854775808<=p/\p<=9223372036854775807):Rets prog 116 #[.agg #[.int .u8 b,.int .i64 p],.int .i64 r] w0 λv w'=>v=.int .i64 (z3h b p r)/\Fr [] w0 w':=by
 refine we [(0,.agg #[.int .u8 b,.int .i64 p]),(1,.int .i64 r)] func116 rfl ntmps116 rfl (.c2 rfl rfl) (sr (bx rfl rfl rfl (λg2 w1 a1 D U z1=>(asg rfl (nn (sq (sq ?_)))))));refine y6f (r:=12) (L':=[(1,_),(2,_)]) ((((z4q b p)≠0)\/(¬(-4<=r/\r<=4)))) (.c2 rfl rfl) ?_ ?_;refine z0k rfl D z5z (cl (ev1 rfl) u0o (z4p _ _ _) rfl ?_);rintro _ w2 ⟨rfl,Z⟩;refine ne' rfl rfl (mv rfl (gs 8 rfl (λg0=>?_) (λg0=>?_)));exact gN rfl rfl (gN rfl rfl (gN rfl rfl (pkt rfl rfl (z6y rfl (.c2 rfl rfl) Z))));refine gY rfl (mv rfl (gY rfl (cl (ev1 rfl) (mkC func152) (x3t _ _) rfl ?_)));rintro _ w3 ⟨rfl,q3⟩;exact gY rfl (nt' rfl (pkf rfl rfl (z6y rfl (.c2 rfl rfl) (Z.n1 q3))));intro w4 J;have z4:=J.size;refine tn (cd rfl (λI=>?_) (λI=>?_));refine sr (asg rfl (nn (rt (tr (r1 results116 rfl ?_)))));exact⟨_,rfl,by rw[z3h,if_pos I],(U.n1 J)⟩;have O:z4q b p=0:=Classical.not_not.1 (λe=>I (.inl e));have a2:-4<=r/\r<=4:=Classical.not_not.1 (λe=>I (.inr e));have a0:=z3k O;refine sk (tn (sq (sr (fad rfl z6t ?_))));replace D:=D.ext J;refine z0g rfl D rfl x1z (eq' rfl rfl (nn (cd rfl (λM=>?_) (λM=>?_))));refine sr (fad rfl z6v (z0g rfl D rfl na3 (x5q rfl rfl (wi6 (by omega)) rfl (z0v rfl rfl (wi6 (by omega)) (asg rfl (kpL [(4,_)] (.cons rfl .nil) (nn (rt (tr (r1 results116 rfl ?_))))))))));exact⟨_,rfl,by rw[z3h,if_neg I,if_pos M],(U.n1 J)⟩;refine sk (tn (sr (fad rfl z6v (z0g rfl D rfl na3 (mv rfl (z0v rfl rfl (wi6 (by omega)) (x5q rfl rfl (wi6 (by omega)) rfl (asg rfl (kpL [(4,_)] (.cons rfl .nil) (nn (rt (r1 results116 rfl ?_))))))))))));exact⟨_,rfl,by rw[z3h,if_neg I,if_neg M],(U.n1 J)⟩
theorem y2z:ElemOf prog 30 37 z5p 24:=ElemOf.mk' (z:=(.slice none 0 0)) underlying30 (by kernel_rfl) rfl
theorem j7f (w:World):(zeroValue 37).run prog w=.ok (.slice none 0 0) w:=by kernel_rfl
theorem y9g (v:Value)(l:List LId)(w0:World)(I:Sl z1k w0 v l)(hl:l.length<=100000):Rets prog 59 #[v] w0 λr w'=>∃g,r=.slice (some ⟨g,0,none⟩) l.length l.length/\w0.heap.size<=g/\Lw.Own z1k 87 w0.heap.size w' r l/\Fr [] w0 w':=by
 obtain⟨A,c,rfl,a0,Z,U⟩:=id I;clear U;unfold maxLen at Z;refine we [(0,.slice A l.length c)] func59 rfl ntmps59 rfl (.cons rfl .nil) ?_;have J:=I;refine sr (asg rfl (nn (sr (mv rfl (lnS rfl underlying37 (z1f (m:=l.length) (c:=l.length) (id0) rfl rfl z6j y3v rfl (λO w1 a1 D M z1=>(asg rfl (nn (sr (mv rfl (mv rfl ?_))))))))))));replace I:=J.ext M;refine z7k (zs:=List.replicate l.length id0) (by rw[List.length_replicate];rfl) rfl (by rw[List.length_replicate];exact D) I (by rw[List.length_replicate]) z6j (λw2 D q2 z2=>?_);rw[List.length_replicate]at D;refine nn (sr (mv rfl (asg rfl (nn (rt (r1 results59 rfl ?_))))));exact⟨_,rfl,O,rfl,by omega,D.low (by omega),(M.z1 q2)⟩
theorem u9w (v:Value)(l:List IQ)(w0:World)(I:Sl z5p w0 v l)(hl:l.length<=100000):Rets prog 233 #[v] w0 λr w'=>∃g,r=.slice (some ⟨g,0,none⟩) l.length l.length/\w0.heap.size<=g/\Lw.Own z5p 37 w0.heap.size w' r l/\Fr [] w0 w':=by
 obtain⟨A,c,rfl,a0,Z,U⟩:=id I;clear U;unfold maxLen at Z;refine we [(0,.slice A l.length c)] func233 rfl ntmps233 rfl (.cons rfl .nil) ?_;have J:=I;refine sr (asg rfl (nn (sr (mv rfl (lnS rfl underlying30 (z1f (m:=l.length) (c:=l.length) (iq0) rfl rfl y2z j7f rfl (λO w1 a1 D M z1=>(asg rfl (nn (sr (mv rfl (mv rfl ?_))))))))))));replace I:=J.ext M;refine z7k (zs:=List.replicate l.length iq0) (by rw[List.length_replicate];rfl) rfl (by rw[List.length_replicate];exact D) I (by rw[List.length_replicate]) y2z (λw2 D q2 z2=>?_);rw[List.length_replicate]at D;refine nn (sr (mv rfl (asg rfl (nn (rt (r1 results233 rfl ?_))))));exact⟨_,rfl,O,rfl,by omega,D.low (by omega),(M.z1 q2)⟩
theorem y8e (v:Value)(qs:List IQ)(w0:World)(M:Sl z5p w0 v qs)(hk:IqAt w0 qs):Rets prog 105 #[v] w0 λr w'=>∃n:Nat,r=.int .i64 (n:Int)/\n<=qs.length/\(plB qs).take n=trimB (plB qs)/\Fr [] w0 w':=by
 obtain⟨A,c,rfl,a1,hM,hA⟩:=id M;clear hA;unfold maxLen at hM;refine we [(0,.slice A qs.length c)] func105 rfl ntmps105 rfl (.cons rfl .nil) ?_;have Z:=M;have U:=hk;refine sr (asg rfl (nn (sr (mv rfl (lnS rfl underlying30 (asg rfl (nn (sq (bl ?_)))))))));refine lpK (ι:=Nat) [(0,_)] (λn=>[(3,.int .i64 (n:Int))]) (λn w'=>Fr [] w0 w'/\n<=qs.length/\∀j,n<=j->(qs.getD j iq0).2=[]) (λn=>n) qs.length (.c2 rfl rfl) ⟨Fr.refl _ _,⟨Nat.le_refl _,λj O=>x7e O⟩⟩ ?_;rintro n w1 ⟨q1,⟨hn,I⟩⟩;refine kpC [(0,_),(3,_)] (.c2 rfl rfl) ?_;have J:=z1x (z1u U (n-1));refine sq (sq ?_);refine rbo (r:=16) (L':=[(0,_),(3,_)]) (((0<(n:Int))/\(((qs.getD (n-1) iq0).1.2.1:Int)=0))) (.c2 rfl rfl) ?_ ?_;refine mv rfl (gt' rfl rfl (mv rfl (gs 8 rfl (λg0=>?_) (λg0=>?_))));refine gY rfl (mv rfl (gY rfl (mv rfl (gY rfl (z2u rfl rfl (wi6 (by omega)) (gY rfl ?_))))));replace M:=Z.ext q1;refine z1a (p:=n-1) (iq0) rfl M rfl y2z (by omega) (λa0 D=>?_);exact gY rfl (z1g rfl (D _ M) z5t (gY rfl (lnS rfl underlying37 (gY rfl (eq' rfl rfl (pkt rfl rfl (rbe rfl (.c2 rfl rfl))))))));exact gN rfl rfl (gN rfl rfl (gN rfl rfl (gN rfl rfl (gN rfl rfl (gN rfl rfl (gN rfl rfl (pkf rfl rfl (rbe rfl (.c2 rfl rfl)))))))));refine tn (cd rfl (λc0=>?_) (λc0=>?_));refine sk (tn (bl (rg (mv rfl (z2u rfl rfl (wi6 (by omega)) (asg rfl (nl (bn' ?_))))))));exact lpE (n-1) (.c2 rfl (congrArg (λz=>some (Value.int .i64 z)) (show (n:Int)-1=((n-1:Nat):Int) by omega))) ⟨q1,⟨by omega,λj O=>by
  by_cases e:n<=j;exact I j e;obtain rfl:j=n-1:=by omega
  exact List.eq_nil_of_length_eq_zero (by omega)⟩⟩ (by omega)
 refine ex (te (te (xh (tn (sr (mv rfl (asg rfl (nn (rt (r1 results105 rfl ?_))))))))));exact⟨_,rfl,n,rfl,hn,y1l _ _ (by rw[List.length_map];exact hn) (λj O=>by rw[z3m];exact I j O) (by
  by_cases e:n=0;exact .inl e;refine .inr λh=>c0 ⟨by omega,?_⟩;rw[z3m]at h;rw[h]at J;rw[J];rfl),q1⟩
set_option maxHeartbeats 2000000 in
theorem x7d (v u:Value)(qs:List IQ)(n:Nat)(s:List LId)(w0:World)(hs:Sl z5p w0 v qs)(hk:IqAt w0 qs)(hu:Sl z1k w0 u s)(hl:qs.length<=40)(hn:n<=40)(h4:z9j qs)(b7:s.length<=4):Rets prog 203 #[v,.int .i64 (n:Int),u] w0 λr w'=>(∃fs,RwO 37 87 w0.heap.size w' r fs/\plB fs=y6k (plB qs) n s/\∃g,r=.slice (some ⟨g,0,none⟩) fs.length fs.length)/\Fr [] w0 w':=by
 obtain⟨A,c,rfl,d3,hM,hA⟩:=id hs;clear hA;unfold maxLen at hM;obtain⟨B,e,rfl,d4⟩:=id hu.form;obtain⟨M,a5⟩:∃M,M=max qs.length n:=⟨_,rfl⟩;have b2:max (qs.length:Int) (n:Int)=(M:Int):=by omega
 refine we [(0,.slice A qs.length c),(1,.int .i64 (n:Int)),(2,.slice B s.length e)] func203 rfl ntmps203 rfl (.c3 rfl rfl rfl) ?_;have b6:=hs;have a7:=hk;have b8:=hu;refine sr (asg rfl (nn (sr (mv rfl (lnS rfl underlying30 (mv rfl (j6o rfl rfl rfl ?_)))))));rw[b2];refine z1f (m:=M) (c:=M) (iq0) rfl rfl y2z j7f rfl (λZ w1 c9 J q1 z1=>(asg rfl (nn (sr (mv rfl (mv rfl ?_))))));replace hs:=b6.ext q1;refine u9m (p:=0) (k:=qs.length) (m:=M) (cap:=M) (by rw[Nat.zero_mul,z3s];rfl) rfl J hs (Nat.zero_le _) (by omega) y2z rfl (λw2 J q2 z2=>?_);replace J:Lw.Own z5p 37 Z w2 (.slice (some ⟨Z,0,none⟩) M M) (qs++List.replicate (M-qs.length) iq0):=by simpa using J
 refine nn ?_;refine jn (ι:=List IQ) [(7,_)] (λp=>[]) (λp w'=>Fr [Z] w2 w'/\Lw.Own z5p 37 w0.heap.size w' (.slice (some ⟨Z,0,none⟩) M M) p/\plB p=(if n=0 then plB qs else (x4b (plB qs) n).set (n-1) s)/\IqAt w' p/\z9j p) (.cons rfl .nil) ?_ ?_;refine sr (mv rfl (gt' rfl rfl (nn (cd rfl (λc0=>?_) (λc0=>?_)))));refine rg (mv rfl (mv rfl (z2u rfl rfl (wi6 (by omega)) (mv rfl (z9e (p:=n-1) (E:=z5p) rfl rfl y2z ?_)))));refine z4y (i:=n-1) ((((B,s.length,e),s):IQ)) rfl rfl J (by rw[List.length_append,List.length_replicate];omega) rfl u5b (λw3 J q3 z3=>?_);refine kpL [(7,_)] (.cons rfl .nil) (nl ?_);replace hk:=a7.ext (q1.z2 q2 q3);replace hu:=b8.ext (q1.z2 q2 q3);exact jE (_) (.cons rfl .nil) ⟨((Fr.refl [Z] _).z1 q3),⟨J.low (by omega),u7f (by omega) a5,v9t (x8s hk) hu,u0d (x7y h4) b7⟩⟩;refine sk ?_;replace hk:=a7.ext (q1.z1 q2);exact jE (_) (.cons rfl .nil) ⟨(Fr.refl _ _),⟨J.low (by omega),u0b (by omega) a5,x8s hk,x7y h4⟩⟩;rintro rs w4 ⟨q4,⟨J,a8,a2,b5⟩⟩;have z4:=q4.size;have a9:=a2;refine kpC [(7,_)] (.cons rfl .nil) ?_;have d7:rs.length=M:=by have:=congrArg List.length a8;split at this<;>simp only[plB,List.length_map,List.length_set,y8w]at this<;>omega
 refine sr (mv rfl (mv rfl (cl (ev1 rfl) (mkC func105) (y8e _ rs _ J.sl a2) rfl ?_)));rintro _ w5 ⟨m,rfl,b3,b4,q5⟩;have z5:=q5.size;obtain⟨U,I⟩:∃x,x=rs.take m:=⟨_,rfl⟩;refine j3e (p:=m) rfl rfl y2z (by omega) (by omega) (by omega) rfl ?_;replace J:=J.ext q5;refine cl (ev1 rfl) (mkC func233) (u9w _ U _ (by rw[I];exact J.sl.take rfl b3 (by omega) (by unfold maxLen;omega) (λ_=>rfl)) (by rw[I,List.length_take];omega)) rfl ?_;rintro _ w6 ⟨D,rfl,d0,O,q6⟩;have z6:=q6.size;have d6:U.length<=40:=by rw[I,List.length_take];omega
 have b1:z9j U:=λq hq=>b5 q (List.mem_of_mem_take (I▸hq));have d5:=(O.blk D (by simp[z0x])).2;refine asg rfl (nn (sq (sr (mv rfl (lnS rfl underlying30 (mv rfl (nn (bl ?_))))))));refine lpK (ι:=Nat×List IQ) [(7,_),(30,_),(31,_)] (λp=>[(32,.int .i64 (p.1:Int))]) (λp w'=>Fr [D] w6 w'/\p.1<=U.length/\Lw.Own z5p 37 w0.heap.size w' (.slice (some ⟨D,0,none⟩) U.length U.length) p.2/\plB p.2=plB U/\(∀j,p.1<=j->p.2.getD j iq0=U.getD j iq0)/\PreO 87 (D+1) w' p.2 p.1) (λp=>U.length-p.1) (0,U) (.c4 rfl rfl rfl rfl) ⟨Fr.refl _ _,⟨Nat.zero_le _,O.low (by omega),rfl,λ_ _=>rfl,PreO.zero⟩⟩ ?_;rintro⟨i,ps⟩ w7 ⟨q7,⟨hi,O,a1,a4,a0⟩⟩;simp only at hi O a1 a4 a0;have z7:=q7.size;refine kpC [(7,_),(30,_),(31,_),(32,.int .i64 (i:Int))] (.c4 rfl rfl rfl rfl) ?_;have a3:ps.length=U.length:=by have:=congrArg List.length a1;simpa using this
 refine sr (lt' rfl rfl (nn (sq (cd rfl (λc1=>?_) (λc1=>?_)))));refine sk (tn (sq (bl (sr (mv rfl (z1a (iq0) rfl O.sl rfl y2z z1d (λb9 a6=>?_)))))));refine z1g rfl (a6 _ O.sl) z5t (asg rfl (asg rfl (nn (rg (mv rfl (mv rfl (mv rfl ?_)))))));replace a2:=a9.ext (q5.z2 q6 q7);refine cl (ev1 rfl) (mkC func59) (y9g _ (ps.getD i iq0).2 _ (by rw[a4 i (Nat.le_refl _)];exact z1u (y5g I a2) i) (by have:=z3g (u9r b1 a1) i;omega)) rfl ?_;rintro _ w8 ⟨b0,rfl,d1,hX,q8⟩;have z8:=q8.size;replace O:=O.ext q8;refine z9e (p:=i) (E:=z5p) rfl rfl y2z (z4y (i:=i) ((((some ⟨b0,0,none⟩,(ps.getD i iq0).2.length,(ps.getD i iq0).2.length),(ps.getD i iq0).2):IQ)) rfl rfl O (by omega) rfl u5b (λw9 O q9 z9=>(kpL [(7,_),(30,_),(31,_),(32,_)] (.c4 rfl rfl rfl rfl) (nl (bn' (tn (rg (z0v rfl rfl (wi6 (by omega)) (mv rfl (nl ?_))))))))));replace a0:=(a0.ext q8).fr q9 (by intro k hk;simp at hk;omega);replace hX:=hX.fr q9 (by intro k hk hb;simp[z0x]at hk hb;omega);exact lpE ((i+1,_)) (.c4 rfl rfl rfl rfl) ⟨((Fr.refl [D] _).z3 q7 q8 q9),⟨by simp only;omega,O,(u8j (by rfl)).trans a1,u2h a4 (by omega),a0.put (by omega) (hX.low (by omega))⟩⟩ (by simp only;omega);obtain rfl:i=U.length:=by omega
 refine ex (te (te (xh (tn (sr (mv rfl (asg rfl (kpL [(6,_)] (.cons rfl .nil) (nn (rt (r1 results203 rfl ?_)))))))))));exact⟨_,rfl,⟨ps,⟨O,(a3▸a0).all (by omega)⟩,a1.trans (u6e I b4 a8),D,by rw[a3]⟩,(q1.z5 q2 q4 q5 q6 q7)⟩
theorem z5s:z3u prog 32 2:=⟨λ_=>by kernel_rfl,λ_=>by kernel_rfl⟩
theorem j0p:BuildAt prog 32 [(0,1),(1,1)] [(.slice none 0 0),(.slice none 0 0)]:=BuildAt.struct underlying32 (λ_=>by kernel_rfl) (λ_=>by kernel_rfl)
theorem y2y:z0z prog 32 0 0:=λ_ _=>by kernel_rfl
theorem z9u:z0z prog 32 1 1:=λ_ _=>by kernel_rfl
theorem x0z:z2c prog 30:=λ_=>by kernel_rfl
theorem x5e:z1p prog 32 2:=λ_=>by kernel_rfl
theorem x9f (w:World):(zeroValue 32).run prog w=.ok (.agg #[(.slice none 0 0),(.slice none 0 0)]) w:=by kernel_rfl
set_option maxHeartbeats 1000000 in
theorem y4y (q:BdQ)(b:Int)(n:Nat)(u:Value)(s:List LId)(w0:World)(Z:BdAt w0 q)(hu:Sl z1k w0 u s)(hn:z4q b (n:Int)=0)(hf:q.fs.length<=40)(hb:q.bs.length<=40)(h4:z9j q.fs)(b3:z9j q.bs)(b9:s.length<=4):Rets prog 153 #[.agg #[.slice q.f.1 q.f.2.1 q.f.2.2,.slice q.b.1 q.b.2.1 q.b.2.2],.agg #[.int .u8 b,.int .i64 (n:Int)],u] w0 λr w'=>(∃q':BdQ,r=.agg (bdL q').toArray/\BdO 37 87 w0.heap.size w' q'/\q'.p=q.p.put b (n:Int) s)/\Fr [] w0 w':=by
 have d5:=z3k hn;obtain⟨U,e,rfl,d6⟩:=id hu.form;refine we [(0,.agg #[.slice q.f.1 q.f.2.1 q.f.2.2,.slice q.b.1 q.b.2.1 q.b.2.2]),(1,.agg #[.int .u8 b,.int .i64 (n:Int)]),(2,.slice U s.length e)] func153 rfl ntmps153 rfl (.c3 rfl rfl rfl) ?_;have b4:=Z;have c1:=hu;refine sr (bx rfl rfl rfl (λg3 w1 d7 M q1 z1=>(bx rfl rfl rfl (λg4 w2 d9 I q2 z2=>(al x9f rfl rfl (λg6 w3 e0 D q3 z3=>(nn (sq (sr (fad rfl z6t ?_))))))))));replace I:=I.ext q3;refine z0g rfl I rfl x1z (eq' rfl rfl (nn (cd rfl (λc0=>?_) (λc0=>?_))));refine sq ?_;replace Z:=b4.ext (q1.n2 q2 q3);replace hu:=c1.ext (q1.n2 q2 q3);intro a h;refine z0i (some 10) (λwb w'=>Fr [] wb w') z2o ?_;intro w4 q4;have z4:=q4.size;replace Z:=Z.ext q4;replace hu:=hu.ext q4;replace M:=M.ext (q2.n2 q3 q4);replace I:=I.ext q4;replace D:=D.ext q4;have hC:Fr [] w4 w4:=Fr.refl _ _;have a8:=Z;have b2:=hu;have J:=M;have O:=I;have a2:=D;refine z0c 0 h rfl y2y rfl λa h=>z0l 1 h rfl (λ_ hw=>J.ext hw) rfl x0z rfl λa h=>z0c 2 h rfl z6v rfl λa h=>z0l 3 h rfl (λ_ hw=>O.ext hw) rfl na3 rfl λa h=>z0e 4 h rfl rfl λa h=>z0c 6 h rfl z9u rfl λa h=>z0l 7 h rfl (λ_ hw=>J.ext hw) rfl x0z rfl λa h=>z0d 5 rfl ?_;refine z0n h (z0a rfl (z0a rfl (z0a rfl z0f))) (mkC func203) (x7d _ _ q.fs n s _ Z.f Z.fi hu (by omega) (by omega) h4 b9) ?_;rintro _ w5 ⟨⟨a4,a0,b5,c9,rfl⟩,q5⟩ a h;have z5:=q5.size;replace Z:=Z.ext q5;replace hC:=hC.next q5;refine z0b ?_;refine z0d 8 rfl ?_;refine z0n h (z0a rfl (z0a rfl (z0a rfl z0f))) (mkC func203) (x7d _ _ q.bs 0 [] _ Z.b Z.bi (Sl.nil _) (by omega) (by omega) b3 (Nat.zero_le _)) ?_;rintro _ w6 ⟨⟨a5,a9,b6,d0,rfl⟩,q6⟩ a h;have z6:=q6.size;replace M:=M.ext (q5.n1 q6);replace I:=I.ext (q5.n1 q6);replace D:=D.ext (q5.n1 q6);replace a0:=a0.ext q6;replace hC:=hC.next q6;refine z0b ?_;refine z2y (cs:=[_,_]) 9 h (z0a rfl (z0a rfl z0f)) j0p (z0h rfl rfl rfl (z0h rfl rfl rfl z0s)) rfl rfl λa h=>z0d 10 rfl ?_;refine z0t h rfl rfl D rfl x5e λw7 b1 q7 hz a h=>?_;have z7:=q7.size;replace M:=M.fr q7;replace I:=I.fr q7;replace a0:=a0.fr q7 (by intro k hk;simp at hk;omega);replace a9:=a9.fr q7 (by intro k hk;simp at hk;omega);clear D hz;have D:Blk w7 g6 _ [_,_]:=b1;clear b1;refine z1n ?_;refine z0q ?_;clear hC a8 b2 J O a2;refine bk (h.sub (L':=[(6,_)]) (.cons rfl .nil)) (tn (rt (tr (rC results153 rfl D z5s  ?_))));exact⟨_,rfl,⟨⟨(some ⟨c9,0,none⟩,a4.length,a4.length),(some ⟨d0,0,none⟩,a5.length,a5.length),a4,a5⟩,rfl,⟨a0.low (by omega),a9.low (by omega)⟩,by rw[<-j7o q.p n s (by omega),<-b5,<-b6]⟩,(q1.z6 q2 q3 q4 q5 q6 q7)⟩;refine sk (tn (sq ?_));replace Z:=b4.ext (q1.n2 q2 q3);replace hu:=c1.ext (q1.n2 q2 q3);intro a h;refine z0i (some 10) (λwb w'=>Fr [] wb w') z2o ?_;intro w8 q8;have z8:=q8.size;replace Z:=Z.ext q8;replace hu:=hu.ext q8;replace M:=M.ext (q2.n2 q3 q8);replace I:=I.ext q8;replace D:=D.ext q8;have hC:Fr [] w8 w8:=Fr.refl _ _;have a8:=Z;have b2:=hu;have J:=M;have O:=I;have a2:=D;refine z0c 0 h rfl y2y rfl λa h=>z0l 1 h rfl (λ_ hw=>J.ext hw) rfl x0z rfl λa h=>z0c 3 h rfl z9u rfl λa h=>z0l 4 h rfl (λ_ hw=>J.ext hw) rfl x0z rfl λa h=>z0c 5 h rfl z6v rfl λa h=>z0l 6 h rfl (λ_ hw=>O.ext hw) rfl na3 rfl λa h=>z0e 7 h rfl rfl λa h=>z0d 2 rfl ?_;refine z0n h (z0a rfl (z0a rfl (z0a rfl z0f))) (mkC func203) (x7d _ _ q.fs 0 [] _ Z.f Z.fi (Sl.nil _) (by omega) (by omega) h4 (Nat.zero_le _)) ?_;rintro _ w9 ⟨⟨a6,a1,b7,d1,rfl⟩,q9⟩ a h;have z9:=q9.size;replace Z:=Z.ext q9;replace hu:=hu.ext q9;replace hC:=hC.next q9;refine z0b ?_;refine z0d 8 rfl ?_;refine z0n h (z0a rfl (z0a rfl (z0a rfl z0f))) (mkC func203) (x7d _ _ q.bs n s _ Z.b Z.bi hu (by omega) (by omega) b3 b9) ?_;rintro _ e1 ⟨⟨a7,b0,b8,d3,rfl⟩,q10⟩ a h;have e2:=q10.size;replace M:=M.ext (q9.n1 q10);replace I:=I.ext (q9.n1 q10);replace D:=D.ext (q9.n1 q10);replace a1:=a1.ext q10;replace hC:=hC.next q10;refine z0b ?_;refine z2y (cs:=[_,_]) 9 h (z0a rfl (z0a rfl z0f)) j0p (z0h rfl rfl rfl (z0h rfl rfl rfl z0s)) rfl rfl λa h=>z0d 10 rfl ?_;refine z0t h rfl rfl D rfl x5e λd4 b1 a3 hz a h=>?_;have e3:=a3.size;replace M:=M.fr a3;replace I:=I.fr a3;replace a1:=a1.fr a3 (by intro k hk;simp at hk;omega);replace b0:=b0.fr a3 (by intro k hk;simp at hk;omega);clear D hz;have D:Blk d4 g6 _ [_,_]:=b1;clear b1;refine z1n ?_;refine z0q ?_;clear hC a8 b2 J O a2;refine bk (h.sub (L':=[(6,_)]) (.cons rfl .nil)) (tn (rt (rC results153 rfl D z5s  ?_)));exact⟨_,rfl,⟨⟨(some ⟨d1,0,none⟩,a6.length,a6.length),(some ⟨d3,0,none⟩,a7.length,a7.length),a6,a7⟩,rfl,⟨a1.low (by omega),b0.low (by omega)⟩,by rw[<-j6f q.p n s (by omega),<-b7,<-b8]⟩,(q1.z6 q2 q3 q8 q9 q10 a3)⟩
theorem x1j (q:BdQ)(b p:Int)(w0:World)(U:BdAt w0 q)(hp:-9223372036854775808<=p/\p<=9223372036854775807)(hf:q.fs.length<=40)(hb:q.bs.length<=40)(h4:z9j q.fs)(a5:z9j q.bs):Rets prog 24 #[.agg #[.slice q.f.1 q.f.2.1 q.f.2.2,.slice q.b.1 q.b.2.1 q.b.2.2],.agg #[.int .u8 b,.int .i64 p]] w0 λr w'=>Lw.Own z1k 87 w0.heap.size w' r (q.p.atC b p)/\Fr [] w0 w':=by
 refine we [(0,.agg #[.slice q.f.1 q.f.2.1 q.f.2.2,.slice q.b.1 q.b.2.1 q.b.2.2]),(1,.agg #[.int .u8 b,.int .i64 p])] func24 rfl ntmps24 rfl (.c2 rfl rfl) ?_;have Z:=U;refine sr (bx rfl rfl rfl (λg2 w1 a7 J q1 z1=>(bx rfl rfl rfl (λg3 w2 a8 D q2 z2=>(asg rfl (nn (sq (sr (z0k rfl D z5z (cl (ev1 rfl) u0o (z4p _ _ _) rfl ?_))))))))));rintro _ w3 ⟨rfl,M⟩;have z3:=M.size;refine ne' rfl rfl (nn (cd rfl (λc0=>?_) (λc0=>?_)));refine sr (asg rfl (nn (rt (tr (r1 results24 rfl ?_)))));exact⟨_,rfl,by unfold Bd.atC;rw[if_neg c0];exact Own.nil _,(q1.n2 q2 M)⟩;refine sk (tn (sr (fad rfl y2y ?_)));replace J:=J.ext (q2.n1 M);refine z0g rfl J rfl x0z (asg rfl (nn ?_));refine jn (ι:=Unit) [(3,_)] (λ_j=>[(5,.slice (q.sv b).1 (q.sv b).2.1 (q.sv b).2.2)]) (λ_j w'=>Fr [] w3 w') (.cons rfl .nil) ?_ ?_;refine sr (fad rfl z6t ?_);replace D:=D.ext M;refine z0g rfl D rfl x1z (eq' rfl rfl (nn (cd rfl (λO=>?_) (λO=>?_))));refine rg (fad rfl z9u (z0g rfl J rfl x0z (asg rfl (nl ?_))));exact jE (()) (.c2 rfl (by first|(rw[show q.sv b=q.b from if_pos O];rfl)|(rw[show q.sv b=q.f from if_neg O];rfl))) (Fr.refl _ _);refine sk ?_;exact jE (()) (.c2 rfl (by first|(rw[show q.sv b=q.b from if_pos O];rfl)|(rw[show q.sv b=q.f from if_neg O];rfl))) (Fr.refl _ _);rintro _j w4 q4;have z4:=q4.size;refine kpC [(3,_),(5,_)] (.c2 rfl rfl) ?_;have b0:=z1x (Z.sel b).1;have a9:(q.l b).length<=40:=by unfold BdQ.l;split<;>assumption
 have a1:z9j (q.l b):=by unfold BdQ.l;split<;>assumption
 have I:z4q b p=0:=Classical.not_not.1 c0;have a6:=z3k I;refine sq (sr (fad rfl z6v ?_));replace D:=D.ext (M.n1 q4);refine z0g rfl D rfl na3 (mv rfl (lnS rfl underlying30 (gt' rfl rfl (nn (cd rfl (λc2=>?_) (λc2=>?_))))));refine sr (asg rfl (nn (rt (tr (r1 results24 rfl ?_)))));exact⟨_,rfl,by unfold Bd.atC;rw[if_pos I,<-q.at_l I,x7e (by omega)];exact Own.nil _,(q1.n3 q2 M q4)⟩;refine sk (tn (sr (mv rfl (fad rfl z6v (z0g rfl D rfl na3 (z2u rfl rfl (wi6 (by omega)) ?_))))));replace U:=Z.ext (q1.n3 q2 M q4);refine z1a (iq0) rfl (U.sel b).1 rfl y2z z1d (λa2 a0=>?_);refine z1g rfl (a0 _ (U.sel b).1) z5t ?_;refine cl (ev1 rfl) (mkC func59) (y9g _ ((q.l b).getD (p-1).toNat iq0).2 _ (z1u (U.sel b).2 _) (by have:=z3g a1 (p-1).toNat;omega)) rfl ?_;rintro _ w5 ⟨a4,rfl,a3,hX,q5⟩;have z5:=q5.size;refine asg rfl (kpL [(4,_)] (.cons rfl .nil) (nn (rt (r1 results24 rfl ?_))));exact⟨_,rfl,by unfold Bd.atC;rw[if_pos I,<-q.at_l I];exact hX.low (by omega),(q1.n4 q2 M q4 q5)⟩
end Go.Proofs.YtpgdchkdlgkmgaaGreatDoor
namespace Go.Lw
open Go.RowKit
section
variable {P:Program} {n N:Nat} {ro:Option Nat} {L:List (Nat×Value)} {ds:List Nat} {w w':World} {Q:Exit->Act->World->Prop}
def KeepN (Ts B:List Nat)(b:Nat)(W W':World):Prop:=KeepT Ts B W W'/\KeepsFrom b W W'
theorem KeepsFrom.low {b D:Nat}(h:KeepsFrom b w w')(hb:b<=D):KeepsFrom D w w':=⟨h.size,λk o I=>h.same k o (Nat.le_trans hb I)⟩
theorem KeepN.trans {I B:List Nat}{b:Nat}{D:World}(h:KeepN I B b w w')(k:KeepN I B b w' D):KeepN I B b w D:=⟨h.1.trans k.1,h.2.trans k.2⟩
theorem KeepN.low {D B:List Nat}{b I:Nat}(h:KeepN D B b w w')(hb:b<=I):KeepN D B I w w':=⟨h.1,KeepsFrom.low h.2 hb⟩
theorem KeepN.refl {D B:List Nat}{b:Nat}:KeepN D B b w w:=⟨⟨λ_ _=>rfl,λ_ _ _ _ _ I=>I⟩,⟨Nat.le_refl _,λ_ _ _ h _=>h⟩⟩
def j2x {α:Type}(n:Nat)(P:Program)(g:Nat)(lb:Array Value)(encs:α->Array Value)(Kp:World->World->Prop)(S Sp Pf:List α->Prop)(M:Nat)(w:World):Prop:=
  ∀(l:Nat) (J Jx:List α->World->Prop) (W:World),Below w.heap.size w W->w.heap.size+2<=W.heap.size->(∀s A B,Turn W.heap.size A B->J s A->J s B)->(∀s A B,Turn W.heap.size A B->Jx s A->Jx s B)->
    (∀pre x W1,J pre W1->pre.length<M->Pf (pre++[x])->YieldAt (Fo none) (n-1) P l (encs x) W1 λe W'=>(e=.returned (.bool true)/\J (pre++[x]) W'/\Kp W1 W')\/(e=.returned (.bool false)/\Jx (pre++[x]) W'/\KeepsFrom (w.heap.size+2) W1 W'))->J [] W->
    CallsIn (Fo none) n P g (#[.func (.yield l) #[] #[]]++lb) W λe W'=>(∃v,e=.returned v)/\((∃xs,S xs/\J xs W')\/(∃pre,Sp pre/\Jx pre W'))
theorem Turn.of_fr {n0:Nat}(hf:Fr [] w w'):Turn n0 w w':=⟨none,⟨hf.os,hf.tape,hf.output,hf.size,λk D _=>hf.block k D (by simp)⟩,λr e=>by cases e⟩
theorem Turn.low {n0 n1:Nat}(h:Turn n0 w w')(hn:n1<=n0):Turn n1 w w':=let ⟨row,hg,hr⟩:=h;⟨row,hg,λr e=>let ⟨a,b⟩:=hr r e;⟨Nat.le_trans hn a,b⟩⟩
theorem Turn.put {n0 l:Nat}{o:Obj}(o':Obj)(hn:n0<=l)(hl:w.heap[l]?=some o)(D:o.isCells=false):Turn n0 w (w.putObj l o'):=⟨some l,grownBy_putObj' w l o',λr e=>by cases e;exact⟨hn,o,hl,D⟩⟩
theorem weIM {f:FuncId}{fn:Func}{c:Code}{args:Array Value}{R:Ending->World->Prop}(L:List (Nat×Value))(hf:P.funcs[f]?=some fn)(hb:fn.body=some c)(hn:fn.ntmps=n)(I:Nat.ble args.size n=true)(D:argsOk args L)
    (h:CWi none N P (bodyPostM (Fo none) N P fn R) c n [] w L):CallsIn (Fo none) N P f args w R:=by
  have J:args.size<=n:=by simpa[Nat.ble_eq] using I
  refine callsIn_of_wp_marks hf hb trivial (h _ ⟨rfl,by simp[hn];omega,λt v O=>?_⟩)
  have:=argsOk.look D O
  simp only[Array.getD_eq_getD_getElem?,Array.getElem?_append]
  have M:t<args.size:=by
    rcases Nat.lt_or_ge t args.size with h|h
    · exact h
    · rw[Array.getElem?_eq_none h]at this;cases this
  rw[if_pos M,this];rfl
theorem j2f {α:Type}{g:Operand}{ps:Array Tmp}{assign body:Code}{gf:Nat}{lb:Array Value}(hg:ev L g=some (.func (.func gf) #[] lb))(eg:CallOf P gf)
    {encs:α->Array Value} {Ts B:List Nat} {S Sp Pf:List α->Prop} {M:Nat} (hN:1<=N) (hseq:j2x (N-1) P gf lb encs (KeepN Ts B (w.heap.size+2)) S Sp Pf M w) (hB:∀b∈B,b<w.heap.size)
    (hps:∀x,(encs x).size=ps.size) (Lq:α->List (Nat×Value)) (hLq:∀x,(ps.zip (encs x)).toList.reverse=Lq x) (hpn:∀x,(Lq x).all (λp=>Nat.blt p.1 n)=true)
    (I Ir:List α->World->Prop) (hI:∀s W W',Turn w.heap.size W W'->I s W->I s W') (hIr:∀s W W',Turn w.heap.size W W'->Ir s W->Ir s W') (h0:I [] w)
    (Ax:α->Act->World->Prop) (hAx:∀x a' W W',Turn w.heap.size W W'->Ax x a' W->Ax x a' W')
    (hassign:∀(l:Nat) (O:List α) (x:α) (W:World),I O W->CWi (some l) (N-1-1) P (Exit.then (λa' W'=>Ax x a' W'/\Fr [] W W') (λ_ _ _=>False)) assign n [] W (Lq x++L))
    (hbody:∀(l:Nat) (O:List α) (x:α) (a':Act) (W:World),w.heap.size<=l->Ax x a' W->I O W->O.length<M->Pf (O++[x])->body.wpIn (Fo (some l)) (N-1-1) P (ownPostG w.heap.size (KeepT Ts B) I (λc s W=>c=.ret/\Ir s W) (O++[x]) W) a' W)
    (hdone:∀(D:Nat) (xs:List α) (W:World),w.heap.size<=D->S xs->I xs W->DefAt D W->EW Q .normal n (D::ds) W L)
    (hstop:∀(D:Nat) (O:List α) (W:World),w.heap.size<=D->Sp O->Ir O W->DefAt D W->EW Q .ret n (D::ds) W L):CWi none N P Q (.rangeFunc g ps assign body) n ds w L:=by
  intro a h
  obtain⟨D,hD⟩:∃D,D=w.heap.size:=⟨_,rfl⟩
  have b5:AgM (D::ds) { a with defers:={ target:=.collected D,args:=#[] }::a.defers } n L:=⟨by simp[h.dfr,mark],h.size,h.at_⟩
  refine wpIn_rangeFunc λfn c1=>?_
  obtain⟨Z,J⟩:∃Z:LoopState->Option Code->Loop,Z=λst pe=>{ state:=st,pending:=pe,fn,tmps:=a.tmps,params:=ps,assign,body,defers:=D }:=⟨_,rfl⟩
  obtain⟨W1,a4⟩:∃W1,W1=(w.alloc (.deferred (some []))).alloc (.loop (Z .ready none)):=⟨_,rfl⟩
  -- the two blocks of the book-keeping,in a world
  let Bk:LoopState->Option Code->World->Prop:=λst pe W=>W.heap[D+1]?=some (.loop (Z st pe))/\DefAt D W
  have z1:W1.heap.size=D+2:=by rw[a4,World.size_alloc,World.size_alloc,hD]
  have b2:Bk .ready none W1:=by
    refine⟨?_,?_⟩
    · rw[a4];have:=World.alloc_heap_new (w.alloc (.deferred (some []))) (.loop (Z .ready none));rwa [World.size_alloc,<-hD]at this
    · rw[a4,hD];exact(Below.heap_alloc _ _ _ (by simp)).trans (World.alloc_heap_new w _)
  have b1:Below w.heap.size w W1:=by rw[a4];exact((Below.refl _ w).alloc (Nat.le_refl _) _).alloc (by simp) _
  have c0:Fr [] w W1:=Fr.of_below' b1 (Nat.le_refl _)
  have a9:∀ {st pe A B},Turn (D+2) A B->Bk st pe A->Bk st pe B:=λht U=>⟨ht.at U.1 (.inr (by omega)),ht.at U.2 (.inr (by omega))⟩
  have a7:∀ {st pe b7 b6 A},Bk st pe A->Bk b7 b6 (A.putObj (D+1) (.loop (Z b7 b6))):=λU=>⟨World.putObj_heap_same (Array.getElem?_eq_some_iff.1 U.1).1,(World.putObj_heap_other (by omega)).trans U.2⟩
  have a2:∀ {st pe A} (o':Obj),Bk st pe A->Turn w.heap.size A (A.putObj (D+1) o'):=λo' U=>Turn.put o' (by omega) U.1 rfl
  have a6:∀ {st pe A} (o':Obj),Bk st pe A->KeepN Ts B (w.heap.size+2) A (A.putObj (D+1) o'):=λo' U=>⟨KeepT.put U.1 rfl (λb U=>by have:=hB b U;omega),⟨(grownBy_putObj' _ _ _).size,λk o hk ho _=>(World.putObj_heap_other (by omega)).trans ho⟩⟩
  refine⟨D+1,[{ target:=.collected D,args:=#[] }],W1,{ target:=.fn (.func gf) lb,args:=#[.func (.yield (D+1)) #[] #[]] },W1,gf,#[.func (.yield (D+1)) #[] #[]]++lb,W1,?_,?_,?_,?_,λ_=>hN,?_⟩
  · rw[a4,J,hD];exact run_enterLoop_outer _ _ _ _ _
  · simp only[resolve,h.eval hg];simp[go_sem]
  · intro f' _;trivial
  · have he:=eg (#[.func (.yield (D+1)) #[] #[]]++lb) W1
    simpa[invoke,go_sem] using he
  refine(hseq (D+1) (λs W=>I s W/\Bk .ready none W) (λs W=>Ir s W/\Bk .done (some .ret) W) W1 b1 (by omega) (λs A B ht hs=>⟨hI s A B (ht.low (by omega)) hs.1,a9 (z1▸ht) hs.2⟩) (λs A B ht hs=>⟨hIr s A B (ht.low (by omega)) hs.1,a9 (z1▸ht) hs.2⟩) ?_ ⟨hI _ _ _ (Turn.of_fr c0) h0,b2⟩).mono ?_
  · rintro O x W ⟨hi,U⟩ b4 d1
    have hy:=run_yield (P:=P) (args:=encs x) U.1 (by rw[J];exact hps x)
    rw[J]at hy
    refine⟨fn,_,assign,body,hy,roundIn_of_wpIn c1 (wpIn_mono (Q:=Exit.then (λa' W'=>Ax x a' W'/\Fr [] W W') (λ_ _ _=>False)) ?_ ?_)⟩
    · have hp:=v2r h (ps.zip (encs x)).toList (by have:=hpn x;rw[<-hLq,List.all_reverse]at this;exact this)
      rw[hLq]at hp
      have e:({ tmps:=(ps.zip (encs x)).foldl (λt (p:Nat×Value)=>t.setIfInBounds p.1 p.2) a.tmps,defers:=[] }:Act)={ tmps:=(ps.zip (encs x)).toList.foldl (λt p=>t.setIfInBounds p.1 p.2) a.tmps,defers:=[] }:=by
        rw[<-Array.foldl_toList]
      exact hassign _ O x W hi _ (by rw[<-e]at hp;exact hp)
    · clear hy
      rintro e a' W2 he
      cases e with
      | normal=>
        obtain⟨b8,hf⟩:=he
        have c9:=hI _ _ _ (Turn.of_fr hf) hi
        have a1:Bk .ready none W2:=⟨(hf.block _ (Array.getElem?_eq_some_iff.1 U.1).1 (by simp)).trans U.1,U.2.ext hf⟩
        have b3:KeepN Ts B (w.heap.size+2) W W2:=⟨KeepT.ext hf (λb h=>by
          have:=hB b h
          have:=(Array.getElem?_eq_some_iff.1 U.1).1;omega),⟨hf.size,λk o _ ho _=>(hf.block k (Array.getElem?_eq_some_iff.1 ho).1 (by simp)).trans ho⟩⟩
        have b9:(Instr.beginRound (D+1)).run P W2=.ok () (W2.putObj (D+1) (.loop (Z .busy none))):=by
          have:=run_beginRound (P:=P) a1.1 (by rw[J])
          rw[J]at this ⊢;exact this
        refine⟨_,b9,wpIn_mono (hbody (D+1) O x a' _ (by omega) (hAx _ _ _ _ (a2 _ a1) b8) (hI _ _ _ (a2 _ a1) c9) b4 d1) ?_⟩
        have b0:Bk .busy none (W2.putObj (D+1) (.loop (Z .busy none))):=a7 a1
        have keep:∀ {W3:World},KeepsFrom w.heap.size (W2.putObj (D+1) (.loop (Z .busy none))) W3->Bk .busy none W3:=λhk=>⟨hk.same _ _ (by omega) b0.1 rfl,hk.same _ _ (by omega) b0.2 rfl⟩
        rintro e a3 W3 hp
        cases e with
        | normal=>
          obtain⟨a5,d0,a8⟩:=hp
          have a0:=keep a5
          have hr:(Instr.endRound (D+1) none).run P W3=.ok (.bool true) (W3.putObj (D+1) (.loop (Z .ready none))):=by
            have:=run_endRound (P:=P) none a0.1
            rw[J]at this ⊢;exact this
          exact⟨_,_,hr,.inl ⟨rfl,⟨hI _ _ _ (a2 _ a0) a8,a7 a0⟩,(b3.trans (a6 _ a1)).trans (KeepN.trans ⟨d0,KeepsFrom.low a5 (by omega)⟩ (a6 _ a0))⟩⟩
        | ret=>
          obtain⟨a5,_,a8⟩:=hp
          have a0:=keep a5
          have hr:(Instr.endRound (D+1) (some .ret)).run P W3=.ok (.bool false) (W3.putObj (D+1) (.loop (Z .done (some .ret)))):=by
            have:=run_endRound (P:=P) (some .ret) a0.1
            rw[J]at this ⊢;exact this
          exact⟨_,_,hr,.inr ⟨rfl,⟨hIr _ _ _ (a2 _ a0) a8,a7 a0⟩,(b3.2.trans (a6 _ a1).2).trans ((KeepsFrom.low a5 (by omega)).trans (a6 _ a0).2)⟩⟩
        | exit id=>exact absurd hp.2.1 (by simp)
        | goto t=>exact absurd hp.2.1 (by simp)
        | panic ch=>exact hp.elim
        | outgrown=>exact hp.elim
      | _=>exact he.elim
  · rintro e W2 ⟨⟨v,rfl⟩,(⟨xs,hS,hi,U⟩|⟨O,hS,hi,U⟩)⟩
    · have hr:=run_endLoop (P:=P) U.1 (by rw[J];simp)
      rw[J]at hr
      exact⟨none,_,hr,hdone D xs _ (by omega) hS (hI _ _ _ (a2 _ U) hi) ((World.putObj_heap_other (by omega)).trans U.2) _ b5⟩
    · have hr:=run_endLoop (P:=P) U.1 (by rw[J];simp)
      rw[J]at hr
      exact⟨some .ret,_,hr,wpIn_ret (hstop D O _ (by omega) hS (hIr _ _ _ (a2 _ U) hi) ((World.putObj_heap_other (by omega)).trans U.2) _ b5)⟩
theorem v5q {α:Type}{g:Operand}{ps:Array Tmp}{O U:Code}{gf:Nat}{lb:Array Value}(hg:ev L g=some (.func (.func gf) #[] lb))(eg:CallOf P gf)
    {encs:α->Array Value} {Ts B:List Nat} {S Sp Pf:List α->Prop} {M:Nat} (hN:1<=N) (hseq:j2x (N-1) P gf lb encs (KeepN Ts B (w.heap.size+2)) S Sp Pf M w) (hB:∀b∈B,b<w.heap.size)
    (hps:∀x,(encs x).size=ps.size) (Lq:α->List (Nat×Value)) (hLq:∀x,(ps.zip (encs x)).toList.reverse=Lq x) (hpn:∀x,(Lq x).all (λp=>Nat.blt p.1 n)=true)
    (I Ir:List α->World->Prop) (hI:∀s W W',Turn w.heap.size W W'->I s W->I s W') (hIr:∀s W W',Turn w.heap.size W W'->Ir s W->Ir s W') (h0:I [] w)
    (Lx:α->List (Nat×Value)) (K:List (Nat×Value)) (_hK:Sub K L)
    (hassign:∀(l:Nat) (J:List α) (x:α) (W:World),I J W->CWi (some l) (N-1-1) P (Exit.then (AsU n W (Lx x++K)) (λ_ _ _=>False)) O n [] W (Lq x++L))
    (hbody:∀(l:Nat) (J:List α) (x:α) (W:World),w.heap.size<=l->I J W->J.length<M->Pf (J++[x])->CWi (some l) (N-1-1) P (ownPostG w.heap.size (KeepT Ts B) I (λc s W=>c=.ret/\Ir s W) (J++[x]) W) U n [] W (Lx x++K))
    (hdone:∀(D:Nat) (xs:List α) (W:World),w.heap.size<=D->S xs->I xs W->DefAt D W->EW Q .normal n (D::ds) W L)
    (hstop:∀(D:Nat) (J:List α) (W:World),w.heap.size<=D->Sp J->Ir J W->DefAt D W->EW Q .ret n (D::ds) W L):CWi none N P Q (.rangeFunc g ps O U) n ds w L:=
  j2f hg eg hN hseq hB hps Lq hLq hpn I Ir hI hIr h0 (λx Z _=>AgM [] Z n (Lx x++K)) (λ_ _ _ _ _ h=>h)
    (λl J x W hi a ha=>wpIn_mono (hassign l J x W hi a ha) (λe Z W' he=>by
      cases e with
      | normal=>obtain⟨h1,rfl⟩:=he;exact⟨h1,Fr.refl _ _⟩
      | _=>exact he.elim)) (λl J x Z W hl hx hi hm hp=>hbody l J x W hl hi hm hp Z hx) hdone hstop
theorem j7b {α:Type}{g:Operand}{ps:Array Tmp}{O U:Code}{gf:Nat}{lb:Array Value}(hg:ev L g=some (.func (.func gf) #[] lb))(eg:CallOf P gf)
    {encs:α->Array Value} {Ts B:List Nat} {S Sp Pf:List α->Prop} {M:Nat} (hN:1<=N) (hseq:j2x (N-1) P gf lb encs (KeepN Ts B (w.heap.size+2)) S Sp Pf M w) (hB:∀b∈B,b<w.heap.size)
    (hps:∀x,(encs x).size=ps.size) (Lq:α->List (Nat×Value)) (hLq:∀x,(ps.zip (encs x)).toList.reverse=Lq x) (hpn:∀x,(Lq x).all (λp=>Nat.blt p.1 n)=true)
    (I Ir:List α->World->Prop) (hI:∀s W W',Turn w.heap.size W W'->I s W->I s W') (hIr:∀s W W',Turn w.heap.size W W'->Ir s W->Ir s W') (hBI:∀s W,I s W->w.heap.size<=W.heap.size) (h0:I [] w)
    (T:TypeId) (E1:α->List Value) (Lx:Nat->α->List (Nat×Value)) (K:List (Nat×Value)) (_hK:Sub K L)
    (hassign:∀(l:Nat) (J:List α) (x:α) (W:World),I J W->w.heap.size<=W.heap.size->CWi (some l) (N-1-1) P (Exit.then (AsK n w.heap.size W T (E1 x) (λg=>Lx g x++K)) (λ_ _ _=>False)) O n [] W (Lq x++L))
    (hbody:∀(l:Nat) (J:List α) (x:α) (g:Nat) (W:World),w.heap.size<=l->w.heap.size<=g->Blk W g T (E1 x)->I J W->J.length<M->Pf (J++[x])->CWi (some l) (N-1-1) P (ownPostG w.heap.size (KeepT Ts B) I (λc s W=>c=.ret/\Ir s W) (J++[x]) W) U n [] W (Lx g x++K))
    (hdone:∀(D:Nat) (xs:List α) (W:World),w.heap.size<=D->S xs->I xs W->DefAt D W->EW Q .normal n (D::ds) W L)
    (hstop:∀(D:Nat) (J:List α) (W:World),w.heap.size<=D->Sp J->Ir J W->DefAt D W->EW Q .ret n (D::ds) W L):CWi none N P Q (.rangeFunc g ps O U) n ds w L:=
  j2f hg eg hN hseq hB hps Lq hLq hpn I Ir hI hIr h0 (λx Z W=>∃g,w.heap.size<=g/\AgM [] Z n (Lx g x++K)/\Blk W g T (E1 x)) (λx Z W W' ht ⟨g,h1,h2,h3⟩=>⟨g,h1,h2,h3.turn ht⟩)
    (λl J x W hi a ha=>wpIn_mono (hassign l J x W hi (hBI _ _ hi) a ha) (λe Z W' he=>by
      cases e with
      | normal=>obtain⟨g,h1,h2,h3,hf⟩:=he;exact⟨⟨g,h1,h2,h3⟩,hf⟩
      | _=>exact he.elim)) (λl J x Z W hl ⟨g,h1,h2,h3⟩ hi hm hp=>hbody l J x g W hl h1 h3 hi hm hp Z h2) hdone hstop
theorem j0k {α:Type}{U:Nat}{Z B S:List Nat}{I:List α->World->Prop}{Ix:Code->List α->World->Prop}{xs:List α}{W:World}(hf:Fr S W w)(hS:∀k∈S,k<W.heap.size->(∃cs T f,W.heap[k]?=some (.cells cs T f)/\T∉Z)\/(k<U/\x9a W k))(hB:∀b∈B,b<W.heap.size)(hd:∀b∈B,b∉S)(hI:I xs w):EW (ownPostG U (KeepT Z B) I Ix xs W) .normal n ds w L:=
 λ_ _=>⟨⟨hf.size,λk o hk M J=>(hf.block k (Array.getElem?_eq_some_iff.1 M).1 (λe=>by
  rcases hS k e (Array.getElem?_eq_some_iff.1 M).1 with ⟨cs,T,f,D,_⟩|⟨D,_⟩
  ·rw[M]at D;cases D;cases J
  ·omega)).trans M⟩,⟨Keep.fr hf hB hd,λb cs T f hT J=>(hf.block b (Array.getElem?_eq_some_iff.1 J).1 (λe=>by
  rcases hS b e (Array.getElem?_eq_some_iff.1 J).1 with ⟨a0,T',f',D,O⟩|⟨_,o,D,O⟩
  ·rw[J]at D;cases D;exact O hT
  rw[J]at D;cases D;cases O)).trans J⟩,hI⟩
theorem rndK {α:Type}{D:Nat}{J:World->World->Prop}{I:List α->World->Prop}{O:Code->List α->World->Prop}{M:List α}{W:World}(h1:KeepsFrom D W w)(U:J W w)(Z:I M w):EW (ownPostG D J I O M W) .normal n ds w L:=λ_ _=>⟨h1,U,Z⟩
theorem rndX {α:Type}{D:Nat}{O:World->World->Prop}{I J:List α->World->Prop}{M:List α}{W:World}(h1:KeepsFrom D W w)(U:J M w):EW (ownPostG D O I (λc s W=>c=.ret/\J s W) M W) .ret n ds w L:=λ_ _=>⟨h1,rfl,U⟩
theorem Turn.of_mark {n0 D:Nat}(hf:Fr [D] w w')(I:DefAt D w)(hn:n0<=D):Turn n0 w w':=⟨some D,⟨hf.os,hf.tape,hf.output,hf.size,λk J hn=>hf.block k J (by simpa using hn)⟩,λr e=>by cases e;exact⟨hn,_,I,rfl⟩⟩
def YKr (r:Option Nat)(P:Program)(n:Nat)(ds:List Nat)(ops:Array Oper)(rest:List Oper)(Q:Exit->Act->World->Prop)(d:Nat)(y:Operand)(xs:List Operand):Act->World->Prop:=λa w=>
  ∃(L:List (Nat×Value)) (vs:List Value) (y1:Nat) (Φ:Value->World->Prop),AgM ds a n L/\ev L y=some (.func (.yield y1) #[] #[])/\evs L xs vs/\YieldAt (Fo r) 0 P y1 vs.toArray w (λe w'=>∃v,e=.returned v/\Φ v w')/\Nat.blt d n=true/\
    ∀v w',Φ v w'->WL P ops (z0p (Q .normal)) rest n ds w' ((d,v)::L)
theorem j7t {id:Nat}{l:List Oper}(k:Nat){d:Nat}{y:Operand}{J:List Operand}{ts:Array TypeId}{ty:TypeId}{pos:String}{after:Array Edge}
    (hl:l=l.take k++⟨some d,.call ⟨.value y,J.toArray,ts⟩,ty,pos,after,none⟩::l.drop (k+1)) (hd1:(l.take k).all Oper.noDefer=true) (hd2:(l.drop (k+1)).all Oper.noDefer=true) (hnf:∀g,y≠.func g)
    (h1:WL P l.toArray (z0p (YKr ro P n ds l.toArray (l.drop (k+1)) Q d y J)) (l.take k) n ds w L):CWi ro N P Q (.region id l.toArray false) n ds w L:=by
  intro a ha
  refine wpIn_region_lit ?_
  have U:wpListIn (Fo ro) N P l.toArray Q (l.take k++⟨some d,.call ⟨.value y,J.toArray,ts⟩,ty,pos,after,none⟩::l.drop (k+1)) a w:=by
    refine y4f _ ?_ _ a w hd1 (h1 a ha)
    rintro a w ⟨L,vs,y1,Φ,h,hy,hx,⟨fn,tm,D,Z,I,M,O⟩,hn,hk⟩
    have hR:RoundIn (Fo ro) (N-1) P y1 fn tm D Z w (λe w'=>∃v,e=.returned v/\Φ v w'):=⟨M,λc cs _=>O c cs (λd hd=>by cases hd)⟩
    unfold wpListIn
    rw[if_pos (by simp[Region.wanted])]
    refine⟨λ_ _=>trivial,?_⟩
    have e:(Oper.semAt (Fo ro).round a.eval ⟨some d,.call ⟨.value y,J.toArray,ts⟩,ty,pos,after,none⟩).run P w=.ok (.round y1 fn tm D Z) w:=by
      rw[u4j (by rfl)]
      simp only[execOp,resolve,h.eval hy,Deferred.ofValue,Sem.run_bind,Sem.run_pure,Result.andThen_ok,invoke,List.map_toArray,h.evals hx,List.append_toArray]
      simpa using I
    rw[e]
    refine⟨λe=>by simp[Fo,Fence.wide]at e,hR.mono ?_⟩
    rintro e w' ⟨v,rfl,hv⟩
    have:=y4f (r:=ro) (N:=N) (Q:=Q) (ops:=l.toArray) [] (λa w h=>wpListIn_nil h) (l.drop (k+1)) (a.put (some d) v) w' hd2 (hk v w' hv _ (h.put hn v))
    rwa [List.append_nil]at this
  rwa [<-hl]at U
theorem j8a {d:Nat}{y:Operand}{D:List Operand}{vs:List Value}{I:Nat}{Φ:Value->World->Prop}{ops:Array Oper}{rest:List Oper}(O:ev L y=some (.func (.yield I) #[] #[]))(M:evs L D vs)(J:YieldAt (Fo ro) 0 P I vs.toArray w (λe w'=>∃v,e=.returned v/\Φ v w'))(hn:Nat.blt d n=true)
    (k:∀v w',Φ v w'->WL P ops (z0p (Q .normal)) rest n ds w' ((d,v)::L)) {ops':Array Oper}:WL P ops' (z0p (YKr ro P n ds ops rest Q d y D)) [] n ds w L:=
  λ_ h=>u4a (Q:=λ_=>YKr ro P n ds ops rest Q d y D) ⟨L,vs,I,Φ,h,O,M,J,hn,k⟩
theorem j5y {α:Type}{l m:Nat}{J Jx:List α->World->Prop}{I:α->Array Value}{Kp Kx:World->World->Prop}{Pf:List α->Prop}{M:Nat}{D:List α}{x:α}{vs:List Value}(Z:∀D x O,J D O->D.length<M->Pf (D++[x])->YieldAt (Fo none) m P l (I x) O λe W'=>(e=.returned (.bool true)/\J (D++[x]) W'/\Kp O W')\/(e=.returned (.bool false)/\Jx (D++[x]) W'/\Kx O W'))
    (hJ:J D w) (hM:D.length<M) (hp:Pf (D++[x])) (he:vs.toArray=I x):YieldAt (Fo ro) 0 P l vs.toArray w (λe w'=>∃v,e=.returned v/\(v=.bool true/\J (D++[x]) w'/\Kp w w'\/v=.bool false/\Jx (D++[x]) w'/\Kx w w')):=by
  rw[he]
  obtain⟨fn,tm,U,bd,h1,h2,h3⟩:=Z D x w hJ hM hp
  refine⟨fn,tm,U,bd,h1,h2,λc cs _=>?_⟩
  obtain⟨e,w',hr,hc⟩:=h3 c cs (λd hd=>by cases hd)
  refine⟨e,w',?_,hc⟩
  rcases hr with ⟨rfl,h⟩|⟨rfl,h⟩
  · exact⟨_,rfl,.inl ⟨rfl,h⟩⟩
  · exact⟨_,rfl,.inr ⟨rfl,h⟩⟩
theorem j1y {A B C:Nat}(h1:DefAt A w)(I:DefAt B w)(J:DefAt C w):∀D∈[A,B,C],w.heap[D]?=some (.deferred (some [])):=λD h=>by
 simp only[List.mem_cons,List.not_mem_nil,or_false]at h
 rcases h with rfl|rfl|rfl
 ·exact h1
 ·exact I
 exact J
theorem z7v {fn:Func}{R:Ending->World->Prop}{I:Array Value}{v:Value}:∀(ds:List Nat) (w:World),(∀D∈ds,w.heap[D]?=some (.deferred (some [])))->ds.Nodup->(∀w',Fr ds w w'->(results fn I).run P w'=.ok v w')->
    (∀w',Fr ds w w'->R (.returned v) w')->LeavesInM (Fo none) N P fn I R (ds.map mark) .returning w
  | [],w,_,_,hv,k=>⟨v,hv w (Fr.refl _ _),k w (Fr.refl _ _)⟩
  | D::ds,w,hD,hnd,hv,k=>by
    refine⟨by simp,.inl ⟨D,_,rfl,run_takeDeferred (hD D (by simp)),?_⟩⟩
    rw[List.nodup_cons]at hnd
    have hf:Fr [D] w (w.putObj D (.deferred none)):=⟨rfl,rfl,rfl,by simp,λk _ U=>World.putObj_heap_other (by simpa using U)⟩
    refine z7v ds _ (λO M=>?_) hnd.2 (λw' J=>hv w' (hf.trans J)) (λw' J=>k w' (hf.trans J))
    rw[World.putObj_heap_other (by rintro rfl;exact hnd.1 M)];exact hD O (by simp[M])
variable {R:Ending->World->Prop} {fn:Func} {p pt q g:Nat} {T:TypeId} {cs:List Value} {v z:Value}
theorem u1o {D:Nat}(hb:Blk w g T cs)(I:w.heap[D]?=some (.deferred (some []))):g≠D:=by
 rintro rfl;rw[show w.heap[g]?=_ from hb]at I;cases I
theorem x3v (hb:Blk w g T cs)(I:∀D∈ds,w.heap[D]?=some (.deferred (some [])))(hf:Fr ds w w'):Blk w' g T cs:=hb.fr hf λh=>u1o hb (I g h) rfl
theorem rM1c (Z:fn.results=#[.cell p pt])(hp:look L p=some (.pointer (some ⟨g,0,none⟩)))(hb:Blk w g T [v])(U:z2c P pt)(M:∀D∈ds,w.heap[D]?=some (.deferred (some [])))(I:ds.Nodup)(k:∀w',Fr ds w w'->R (.returned v) w'):EW (bodyPostM (Fo none) N P fn R) .ret n ds w L:=λa h=>by
 show LeavesInM _ _ _ _ _ _ a.defers _ _
 rw[h.dfr]
 refine z7v ds w M I (λw' hf=>?_) k
 have J:=h.at_ p _ hp
 simp only[Array.getD_eq_getD_getElem?]at J
 have O:w'.cell? ⟨g,0,none⟩=some v:=(x3v hb M hf).cells 0 v rfl
 simp[results,Z,J,asAddr,loadVar,U w',O]
theorem rMCT (Z:fn.results=#[.cell p pt,.tmp q])(hp:look L p=some (.pointer (some ⟨g,0,none⟩)))(hb:Blk w g T cs)(U:z3u P pt cs.length)(hv:look L q=some v)(O:∀D∈ds,w.heap[D]?=some (.deferred (some [])))(I:ds.Nodup)(k:∀w',Fr ds w w'->R (.returned (.tuple #[.agg cs.toArray,v])) w'):EW (bodyPostM (Fo none) N P fn R) .ret n ds w L:=λa h=>by
 show LeavesInM _ _ _ _ _ _ a.defers _ _
 rw[h.dfr]
 refine z7v ds w O I (λw' hf=>?_) k
 have J:=h.at_ p _ hp
 have M:=h.at_ q _ hv
 simp only[Array.getD_eq_getD_getElem?]at J M
 simp[results,Z,J,M,asAddr,loadVar,U.1 w',U.2 w',run_loadCells_list w' _ cs (x3v hb O hf).cells]
end
end Go.Lw
namespace Go.G08
open Go.Lw Go.G21
def bdE (q:BdQ)(x:Bool):Array Value:=#[.int .u8 (if x then 1 else 0),slv (if x then q.b else q.f)]
abbrev BdQ.h (q:BdQ)(x:Bool):SV:=if x then q.b else q.f
abbrev BdQ.r (q:BdQ)(x:Bool):List IQ:=if x then q.bs else q.fs
abbrev y2t (x:Bool):Int:=if x then 1 else 0
def ndE (q:BdQ)(x:Bool×Nat):Array Value:=#[.agg #[.int .u8 (y2t x.1),.int .i64 ((x.2:Int)+1)],slv ((q.r x.1).getD x.2 iq0).1]
def ndR (q:BdQ)(x:Bool)(i:Nat):List (Bool×Nat):=(List.range i).map λk=>(x,k)
def ndP (q:BdQ)(l:List Bool):List (Bool×Nat):=l.flatMap λx=>ndR q x (q.r x).length
theorem x9b (q:BdQ)(x:Bool)(i:Nat):ndR q x (i+1)=ndR q x i++[(x,i)]:=by unfold ndR;rw[List.range_succ,List.map_append];rfl
theorem v1b (q:BdQ)(x:Bool)(i:Nat):(ndR q x i).length=i:=by simp[ndR]
theorem u0l (q:BdQ)(l:List Bool)(x:Bool):ndP q (l++[x])=ndP q l++ndR q x (q.r x).length:=by unfold ndP;simp
theorem v6j (q:BdQ)(hf:q.fs.length<=40)(hb:q.bs.length<=40):∀l:List Bool,(ndP q l).length<=40*l.length
 | []=>by simp[ndP]
 | x::l=>by
  have D:=v6j q hf hb l
  have:(q.r x).length<=40:=by cases x<;>assumption
  have e:ndP q (x::l)=ndR q x (q.r x).length++ndP q l:=rfl
  rw[e,List.length_append,v1b,List.length_cons];omega
theorem j0r {q:BdQ}{l:List Bool}{x:Bool}{i:Nat}(h:l++[x] <+: [false,true])(J:i<(q.r x).length):(ndP q l++ndR q x i)++[(x,i)] <+: ndP q [false,true]:=by
 obtain⟨r,I⟩:=h;have e:ndP q [false,true]=ndP q l++(ndR q x (q.r x).length++ndP q r):=by
  rw[<-I];unfold ndP;simp[List.flatMap_append]
 have D:ndR q x (q.r x).length=ndR q x (i+1)++((List.range' (i+1) ((q.r x).length-(i+1))).map λk=>(x,k)):=by
  unfold ndR;rw[<-List.map_append,List.range_eq_range',List.range_eq_range'];congr 1;have:=List.range'_append (s:=0) (m:=i+1) (n:=(q.r x).length-(i+1)) (step:=1);rw[show i+1+((q.r x).length-(i+1))=(q.r x).length by omega]at this;simpa using this.symm
 rw[e,D,x9b,List.append_assoc,List.append_assoc,List.append_assoc];exact List.prefix_append_right_inj _ |>.2 (by simp)
def bdB (q:BdQ):List Nat:=slB q.fs.length (slv q.f)++slB q.bs.length (slv q.b)
structure BdS (w:World) (q:BdQ):Prop where
  f:Sl z5p w (slv q.f) q.fs
  b:Sl z5p w (slv q.b) q.bs
theorem BdAt.s {w:World}{q:BdQ}(h:BdAt w q):BdS w q:=⟨h.f,h.b⟩
theorem BdS.ext {w w':World}{q:BdQ}(h:BdS w q)(hf:Fr [] w w'):BdS w' q:=⟨h.f.ext hf,h.b.ext hf⟩
theorem BdS.turn {n:Nat}{w w':World}{q:BdQ}(h:BdS w q)(D:Turn n w w'):BdS w' q:=⟨h.f.turn D,h.b.turn D⟩
theorem BdS.keep {M:List Nat}{n:Nat}{w w':World}{q:BdQ}(h:BdS w q)(J:KeepN M (bdB q) n w w'):BdS w' q:=
 ⟨h.f.keep J.1.1 λD k I=>List.mem_append_left _ (u3t D k I),h.b.keep J.1.1 λD k I=>List.mem_append_right _ (u3t D k I)⟩
theorem BdS.lt {w:World}{q:BdQ}(h:BdS w q):∀b∈bdB q,b<w.heap.size:=λb D=>(List.mem_append.1 D).elim (u3u h.f b) (u3u h.b b)
theorem BdS.sel {w:World}{q:BdQ}(h:BdS w q)(x:Bool):Sl z5p w (slv (q.h x)) (q.r x):=by
 cases x;exact h.f;exact h.b
theorem BdS.len {w:World}{q:BdQ}(h:BdS w q)(x:Bool):(q.h x).2.1=(q.r x).length:=z1x (h.sel x)
def ndN (q:BdQ)(s:List (Bool×Nat)):Nat:=(s.map λx=>((q.r x.1).getD x.2 iq0).2.length).sum
theorem u2a (q:BdQ)(s:List (Bool×Nat))(x:Bool×Nat):ndN q (s++[x])=ndN q s+((q.r x.1).getD x.2 iq0).2.length:=by
 unfold ndN;rw[List.map_append,List.sum_append];simp
theorem u3v (q:BdQ)(hf:z9j q.fs)(hb:z9j q.bs):∀s:List (Bool×Nat),ndN q s<=4*s.length
 | []=>by simp[ndN]
 | x::s=>by
  have D:=u3v q hf hb s
  have:((q.r x.1).getD x.2 iq0).2.length<=4:=by
   cases x.1
   ·exact z3g hf _
   exact z3g hb _
  unfold ndN at *
  simp only[List.map_cons,List.sum_cons,List.length_cons];omega
theorem x5k:∀(l:List IQ),((List.range l.length).map λk=>(l.getD k iq0).2.length).sum=(plB l).flatten.length
 | []=>rfl
 | x::l=>by
  have D:=x5k l
  rw[List.length_cons,List.range_succ_eq_map,List.map_cons,List.map_map,List.sum_cons,plB,List.map_cons,List.flatten_cons,List.length_append,<-D]
  rfl
theorem u9s (q:BdQ):ndN q (ndP q [false,true])=q.p.flat.length:=by
 have e:ndP q [false,true]=ndR q false q.fs.length++ndR q true q.bs.length:=by unfold ndP;simp;rfl
 rw[e];unfold ndN ndR;rw[List.map_append,List.sum_append,List.map_map,List.map_map];have D:=x5k q.fs;have I:=x5k q.bs;unfold Bd.flat;rw[List.length_append,<-D,<-I];rfl
def x5z (q:BdQ)(x:Bool)(i:Nat):List LId:=(plB ((q.r x).take i)).flatten
theorem x2x (q:BdQ)(x:Bool){i:Nat}(h:i<(q.r x).length):x5z q x (i+1)=x5z q x i++((q.r x).getD i iq0).2:=by
 unfold x5z plB;rw[List.take_add_one,List.getElem?_eq_getElem h,List.map_append,List.flatten_append,List.getD,List.getElem?_eq_getElem h];simp
theorem u0p (q:BdQ)(x:Bool):x5z q x (q.r x).length=(plB (q.r x)).flatten:=by unfold x5z;rw[List.take_length]
def x0q (q:BdQ)(l:List Bool):List LId:=l.flatMap λx=>(plB (q.r x)).flatten
theorem v1f (q:BdQ)(l:List Bool)(x:Bool):x0q q (l++[x])=x0q q l++(plB (q.r x)).flatten:=by unfold x0q;simp
theorem BdAt.iq {w:World}{q:BdQ}(h:BdAt w q)(x:Bool):IqAt w (q.r x):=by cases x;exact h.fi;exact h.bi
theorem u2v (q:BdQ):x0q q [false,true]=q.p.flat:=by unfold x0q Bd.flat;simp;rfl
theorem j1q {q:BdQ}{l:List Bool}{x:Bool}{i j:Nat}(h:l++[x] <+: [false,true])(O:i<(q.r x).length)(D:j<((q.r x).getD i iq0).2.length):(x0q q l++x5z q x i++((q.r x).getD i iq0).2.take j)++[((q.r x).getD i iq0).2.getD j id0] <+: q.p.flat:=by
 obtain⟨r,U⟩:=h
 have e:q.p.flat=x0q q l++(x5z q x i++(((q.r x).getD i iq0).2++((plB ((q.r x).drop (i+1))).flatten++x0q q r))):=by
  rw[<-u2v,<-U]
  have I:x0q q (l++[x]++r)=x0q q l++((plB (q.r x)).flatten++x0q q r):=by unfold x0q;simp[List.flatMap_append]
  have J:(plB (q.r x)).flatten=x5z q x (i+1)++(plB ((q.r x).drop (i+1))).flatten:=by
   unfold x5z plB
   rw[<-List.flatten_append,<-List.map_append,List.take_append_drop]
  rw[I,J,x2x q x O];simp
 have M:((q.r x).getD i iq0).2=((q.r x).getD i iq0).2.take j++[((q.r x).getD i iq0).2.getD j id0]++((q.r x).getD i iq0).2.drop (j+1):=by
  generalize ((q.r x).getD i iq0).2=s at D
  conv=>lhs;rw[<-List.take_append_drop (j+1) s]
  rw[List.take_add_one,List.getD,List.getElem?_eq_getElem D];simp
 rw[e]
 refine⟨((q.r x).getD i iq0).2.drop (j+1)++((plB ((q.r x).drop (i+1))).flatten++x0q q r),?_⟩
 conv=>rhs;rw[M]
 simp
theorem u7g {q:BdQ}{l:List Bool}{x:Bool}{i j:Nat}(O:q.p.flat.Nodup)(h:l++[x] <+: [false,true])(D:i<(q.r x).length)(I:j<((q.r x).getD i iq0).2.length):((q.r x).getD i iq0).2.getD j id0∉x0q q l++x5z q x i++((q.r x).getD i iq0).2.take j:=λJ=>by
 have M:((x0q q l++x5z q x i++((q.r x).getD i iq0).2.take j)++[((q.r x).getD i iq0).2.getD j id0]).Nodup:=List.Nodup.sublist (j1q h D I).sublist O
 exact(List.nodup_append.1 M).2.2 _ J _ (List.mem_singleton.2 rfl) rfl
theorem z5j {α:Type}{l:List α}{j:Nat}(d:α)(h:j<l.length):l.take (j+1)=l.take j++[l.getD j d]:=by
 rw[List.take_add_one,List.getD,List.getElem?_eq_getElem h];rfl
theorem x9y {q:BdQ}(J:BdOk q.p)(x:Bool){i j:Nat}(D:i<(q.r x).length)(I:j<((q.r x).getD i iq0).2.length):y2k (((q.r x).getD i iq0).2.getD j id0):=by
 refine J.nm _ ?_;unfold Bd.flat;have:((q.r x).getD i iq0).2.getD j id0∈(plB (q.r x)).flatten:=List.mem_flatten.2 ⟨_,List.mem_map_of_mem (z0u D),z0u I⟩;cases x;exact List.mem_append_left _ this;exact List.mem_append_right _ this
theorem z3n {q:BdQ}(D:BdOk q.p):(q.fs.length<=40/\q.bs.length<=40)/\z9j q.fs/\z9j q.bs:=by
 refine⟨⟨by simpa using D.lf,by simpa using D.lb⟩,λs I=>D.ss _ (List.mem_append_left _ (List.mem_map_of_mem I)),λs I=>D.ss _ (List.mem_append_right _ (List.mem_map_of_mem I))⟩
def oth (q:BdQ)(b n:Int)(x:Bool×Nat):List LId:=if (y2t x.1,(x.2:Int)+1)=(b,n) then [] else ((q.r x.1).getD x.2 iq0).2
def x6i (q:BdQ)(b n:Int)(s:List (Bool×Nat)):List LId:=s.flatMap (oth q b n)
theorem x1k (q:BdQ)(b n:Int)(s:List (Bool×Nat))(x:Bool×Nat):x6i q b n (s++[x])=x6i q b n s++oth q b n x:=by unfold x6i;simp
theorem x0t:∀(l:List IQ) (m:Nat) (i:LId),((List.range l.length).flatMap λk=>if k=m then [] else (l.getD k iq0).2).count i+(l.getD m iq0).2.count i=(plB l).flatten.count i
 | [],m,i=>by simp[iq0]
 | x::l,m,i=>by
  rw[List.length_cons,List.range_succ_eq_map,List.flatMap_cons,List.count_append,List.flatMap_map]
  have e:(plB (x::l)).flatten=x.2++(plB l).flatten:=rfl
  rw[e,List.count_append]
  cases m with
  | zero=>
   have h:((List.range l.length).flatMap λk=>if k+1=0 then [] else ((x::l).getD (k+1) iq0).2)=(plB l).flatten:=by
    have:=x0t l l.length i
    simp only[Nat.succ_ne_zero,if_false]
    unfold plB
    clear this
    have I:l.map Prod.snd=(List.range l.length).map λk=>(l.getD k iq0).2:=by
     apply List.ext_getElem (by simp)
     intro j D J
     simp only[List.length_map]at D
     simp[List.getD,List.getElem?_eq_getElem D]
    rw[I,List.flatMap_def];rfl
   rw[h];simp;omega
  | succ m=>
   have M:=x0t l m i
   have h:((List.range l.length).flatMap λk=>if k+1=m+1 then [] else ((x::l).getD (k+1) iq0).2)=((List.range l.length).flatMap λk=>if k=m then [] else (l.getD k iq0).2):=by
    congr 1
    funext k
    simp
   rw[h]
   simp only[Nat.zero_ne_add_one,if_false,List.getD_cons_succ,List.getD_cons_zero]
   omega
theorem v2f (q:BdQ)(x:Bool)(b n:Int)(hn:1<=n):x6i q b n (ndR q x (q.r x).length)=if y2t x=b then ((List.range (q.r x).length).flatMap λk=>if k=(n-1).toNat then [] else ((q.r x).getD k iq0).2) else (plB (q.r x)).flatten:=by
 unfold x6i ndR;rw[List.flatMap_map];unfold oth;simp only[Prod.mk.injEq];by_cases h:y2t x=b;rw[if_pos h];congr 1;funext k;simp only[h,true_and];by_cases e:(k:Int)+1=n;rw[if_pos e,if_pos (by omega)];rw[if_neg e,if_neg (by omega)];rw[if_neg h];simp only[h,false_and,if_false];have I:plB (q.r x)=(List.range (q.r x).length).map λk=>((q.r x).getD k iq0).2:=by
  unfold plB;apply List.ext_getElem (by simp);intro j D J;simp only[List.length_map]at D;simp[List.getD,List.getElem?_eq_getElem D]
 rw[I,List.flatMap_def]
theorem u5z (q:BdQ){b n:Int}(h:z4q b n=0)(i:LId):(x6i q b n (ndP q [false,true])).count i+(q.p.at b n).count i=q.p.flat.count i:=by
 obtain⟨J,D,O⟩:=z3k h;have e:ndP q [false,true]=ndR q false (q.r false).length++ndR q true (q.r true).length:=by unfold ndP;simp
 have I:x6i q b n (ndP q [false,true])=x6i q b n (ndR q false (q.r false).length)++x6i q b n (ndR q true (q.r true).length):=by rw[e];unfold x6i;simp
 rw[I,v2f q false b n D,v2f q true b n D,List.count_append];have r1:((List.range (q.r false).length).flatMap λk=>if k=(n-1).toNat then [] else ((q.r false).getD k iq0).2).count i+((q.fs).getD (n-1).toNat iq0).2.count i=(plB (q.r false)).flatten.count i:=x0t q.fs (n-1).toNat i;have r2:((List.range (q.r true).length).flatMap λk=>if k=(n-1).toNat then [] else ((q.r true).getD k iq0).2).count i+((q.bs).getD (n-1).toNat iq0).2.count i=(plB (q.r true)).flatten.count i:=x0t q.bs (n-1).toNat i;have hfl:q.p.flat.count i=(plB (q.r false)).flatten.count i+(plB (q.r true)).flatten.count i:=by unfold Bd.flat;rw[List.count_append];rfl
 have M:q.p.at b n=if b=0 then (q.fs.getD (n-1).toNat iq0).2 else (q.bs.getD (n-1).toNat iq0).2:=by unfold Bd.at atB;rw[z3m,z3m]
 rw[hfl,M];rcases J with rfl|rfl
 rw[if_pos (show y2t false=0 from rfl),if_neg (show ¬y2t true=0 by decide),if_pos rfl];omega;rw[if_neg (show ¬y2t false=1 by decide),if_pos (show y2t true=1 from rfl),if_neg (by decide)];omega
theorem u8w {q:BdQ}{b n:Int}{l:List LId}{j:Nat}(h:z4q b n=0)(I:∀i,q.p.flat.count i+l.count i<=(q.p.at b n).count i+1)(J:j<l.length):l.getD j id0∉x6i q b n (ndP q [false,true])++l.take j:=λM=>by
 have O:=u5z q h (l.getD j id0)
 have U:=I (l.getD j id0)
 have Z:l.count (l.getD j id0)=(l.take j).count (l.getD j id0)+1+(l.drop (j+1)).count (l.getD j id0):=by
  have e:l=l.take j++[l.getD j id0]++l.drop (j+1):=by rw[<-z5j id0 J,List.take_append_drop]
  generalize l.getD j id0=y at e ⊢
  conv=>lhs;rw[e]
  rw[List.count_append,List.count_append,List.count_singleton];simp
 have D:=List.count_pos_iff.2 M
 rw[List.count_append]at D
 omega
theorem BdO.fr {S I base:Nat}{w w':World}{q:BdQ}{T:List Nat}(h:BdO S I base w q)(hf:Fr T w w')(D:∀k∈T,k<base):BdO S I base w' q:=⟨h.f.fr hf D,h.b.fr hf D⟩
theorem y7h {B:Bd}{b n:Int}(h:z4q b n=0):B.atC b n=B.at b n:=if_pos h
def bdq0:BdQ:=⟨sv0,sv0,[],[]⟩
def y4p (B:Bd)(b n m:Int):List LId:=if b=1 then B.at b n++B.at (1-b) m else B.at (1-b) m++B.at b n
theorem v4u (B:Bd)(b n m:Int):(y4p B b n m).length=(B.at b n).length+(B.at (1-b) m).length:=by
 unfold y4p;split<;>rw[List.length_append];omega
theorem v0b {B:Bd}(h:BdOk B){b n:Int}(hn:z4q b n=0):BdOk (B.put b n []):=h.put hn (Nat.zero_le _) (λi D=>by cases D) (λi=>by
 have I:=List.nodup_iff_count.1 h.nd i
 simp only[List.count_nil];omega)
end Go.G08
namespace Go.Lw
open Go.RowKit
section
variable {κ:Type} [DecidableEq κ] {V:κ->Value} {P:Program} {K:TypeId}
variable {a:Act} {n:Nat} {L:List (Nat×Value)} {ds:List Nat} {w w':World} {Q:Exit->Act->World->Prop} {ops:Array Oper} {rest:List Oper}
variable {d:Nat} {ty:TypeId} {pos:String} {after:Array Edge} {x y z' r:Operand} {t E:TypeId}
theorem z4f (V:κ->Value){k:IntKind}{i:Int}(h:AgM ds a n L)(D:ev L r=some (.int k i))(I:P.underlying t=some (.map K E))(hn:Nat.blt d n=true)
    (q:∀g w',g=w.heap.size->MapF V w' g (λ_=>none)->Fr [] w w'->w'.heap.size=g+1->∀a,AgM ds a n ((d,.map (some g))::L)->wpList P ops Q rest a w'):wpList P ops Q (⟨some d,.makeMap t (some r),ty,pos,after,none⟩::rest) a w:=
  z1t h rfl rfl hn (w':=w.alloc (.map #[] 0)) (by simp[execOp,Instr.makeMap,h.eval D,run_underlying I,asInt,asIntOf]) (q _ _ rfl ⟨_,_,[],heap_alloc_new w _,by simp,λ_=>rfl⟩ (Fr.alloc [] w _) (by simp))
theorem x9z (V:κ->Value){k:IntKind}{i:Int}(D:ev L r=some (.int k i))(I:P.underlying t=some (.map K E))(hn:Nat.blt d n=true)(q:∀g w',g=w.heap.size->MapF V w' g (λ_=>none)->Fr [] w w'->w'.heap.size=g+1->WL P ops Q rest n ds w' ((d,.map (some g))::L)):WL P ops Q (⟨some d,.makeMap t (some r),ty,pos,after,none⟩::rest) n ds w L:=λa h=>z4f V h D I hn q
def y0d (l:List κ)(k:κ):Option Value:=if k∈l then some (.bool true) else none
theorem x7g:y0d ([]:List κ)=λ_=>none:=by funext k;simp[y0d]
theorem y8j (l:List κ)(k:κ):(λk'=>if k'=k then some (Value.bool true) else y0d l k')=y0d (l++[k]):=by
 funext k';unfold y0d;by_cases h:k'=k;subst h;simp;simp[h]
theorem x7o (l:List κ)(k:κ):(y0d l k).getD (.bool false)=.bool (decide (k∈l)):=by
 unfold y0d;by_cases h:k∈l;rw[if_pos h,decide_eq_true h];rfl;rw[if_neg h,decide_eq_false h];rfl
theorem MapF.turn {g n0:Nat}{f:κ->Option Value}(h:MapF V w g f)(O:Turn n0 w w')(M:g<n0):MapF V w' g f:=by
 obtain⟨D,c,m,I,J⟩:=h;exact⟨D,c,m,O.at I (.inr M),J⟩
theorem MapF.noncells {g:Nat}{f:κ->Option Value}(h:MapF V w g f):x9a w g:=let ⟨_,_,_,h1,_⟩:=h;⟨_,h1,rfl⟩
end
end Go.Lw
namespace Go.Proofs.YtpgdchkdlgkmgaaGreatDoor
open Go.Lw Go.G21 Go.G08 _root_.Go.Proofs.Tryz
theorem y9e (q:BdQ)(w0:World):Rets prog 93 #[.agg #[.slice q.f.1 q.f.2.1 q.f.2.2,.slice q.b.1 q.b.2.1 q.b.2.2]] w0 λr w'=>∃g,r=.func (.func 134) #[] #[.pointer (some ⟨g,0,none⟩)]/\w0.heap.size<=g/\Blk w' g 32 (bdL q)/\Fr [] w0 w':=by
 refine we [(0,.agg #[.slice q.f.1 q.f.2.1 q.f.2.2,.slice q.b.1 q.b.2.1 q.b.2.2])] func93 rfl ntmps93 rfl (.cons rfl .nil) (sr (bx rfl rfl rfl (λI w1 J D M z1=>(asg rfl (nn (sr (z6b z0f (ev1 rfl) rfl (asg rfl (nn (rt (r1 results93 rfl ?_)))))))))));exact⟨_,rfl,I,rfl,by omega,D,M⟩
theorem y6r (q:BdQ)(w0:World):Rets prog 135 #[.agg #[.slice q.f.1 q.f.2.1 q.f.2.2,.slice q.b.1 q.b.2.1 q.b.2.2]] w0 λr w'=>∃g,r=.func (.func 188) #[] #[.pointer (some ⟨g,0,none⟩)]/\w0.heap.size<=g/\Blk w' g 32 (bdL q)/\Fr [] w0 w':=by
 refine we [(0,.agg #[.slice q.f.1 q.f.2.1 q.f.2.2,.slice q.b.1 q.b.2.1 q.b.2.2])] func135 rfl ntmps135 rfl (.cons rfl .nil) (sr (bx rfl rfl rfl (λI w1 J D M z1=>(asg rfl (nn (sr (z6b z0f (ev1 rfl) rfl (asg rfl (nn (rt (r1 results135 rfl ?_)))))))))));exact⟨_,rfl,I,rfl,by omega,D,M⟩
theorem y3y (N Z:Nat)(q:BdQ)(wS:World)(a3:Blk wS Z 32 (bdL q)):j2x N prog 134 #[.pointer (some ⟨Z,0,none⟩)] (bdE q) (KeepN [] [Z] (wS.heap.size+2)) (λxs:List Bool=>xs=[false,true]) (λ_=>True) (λs=>s <+: [false,true]) 2 wS:=by
 intro ly J Jx w0 O a6 a5 a4 U a0;have M:=a3.ext (Fr.of_below' O (Nat.le_refl _));refine weI [(0,.func (.yield ly) #[] #[]),(1,.pointer (some ⟨Z,0,none⟩))] func134 rfl ntmps134 rfl (.c2 rfl rfl) ?_;refine isq (j7t 3 rfl rfl rfl (by intro g e;cases e) (mv rfl (fad rfl y2y (z0g rfl M rfl x0z ?_))));refine j8a rfl (ev2 rfl rfl) (j5y (Pf:=λs=>s <+: [false,true]) (x:=false) U a0 (by decide) (by simp) (by rfl)) rfl ?_;rintro _ w1 (⟨rfl,D,a1⟩|⟨rfl,D,_⟩);have a2:=M.keep a1.1.1 (List.mem_singleton.2 rfl);refine inl (itn (ict rfl (j7t 3 rfl rfl rfl (by intro g e;cases e) (mv rfl (fad rfl z9u (z0g rfl a2 rfl x0z ?_))))));refine j8a rfl (ev2 rfl rfl) (j5y (Pf:=λs=>s <+: [false,true]) (x:=true) U D (by decide) (by simp) (by rfl)) rfl ?_;rintro _ w2 (⟨rfl,I,_⟩|⟨rfl,I,_⟩);refine kpL [] .nil (inl (r0n results134 ?_));exact⟨⟨_,rfl⟩,.inl ⟨[false,true],rfl,I⟩⟩;refine kpL [] .nil (inl (r0n results134 ?_));exact⟨⟨_,rfl⟩,.inr ⟨_,trivial,I⟩⟩;refine inl (itn (icf rfl (isk (r0n results134 ?_))));exact⟨⟨_,rfl⟩,.inr ⟨_,trivial,D⟩⟩
theorem j6a:z2c prog 286:=λ_=>by kernel_rfl
set_option maxHeartbeats 1000000 in
theorem y4s (N gD:Nat)(q:BdQ)(wS:World)(hN:1<=N)(b6:Blk wS gD 32 (bdL q))(hS:BdS wS q)(hf:q.fs.length<=40)(hb:q.bs.length<=40):j2x N prog 188 #[.pointer (some ⟨gD,0,none⟩)] (ndE q) (KeepN [286,32] (bdB q) (wS.heap.size+2)) (λxs:List (Bool×Nat)=>xs=ndP q [false,true]) (λ_=>True) (λs=>s <+: ndP q [false,true]) 81 wS:=by
 intro ly J Jx w0 a9 d9 a2 a0 b8 b1;have hF:Fr [] wS w0:=Fr.of_below' a9 (Nat.le_refl _);refine weIM [(0,.func (.yield ly) #[] #[]),(1,.pointer (some ⟨gD,0,none⟩))] func188 rfl ntmps188 rfl (.c2 rfl rfl) (isq (irg rfl (bx rfl rfl rfl (λg2 w1 d0 Z q1 z1=>(inl (itn (isq (irg rfl ?_))))))));have b5:=(b6.ext hF).ext q1;refine z0k rfl b5 z5s (cl (ev1 rfl) (mkC func93) (y9e q _) rfl ?_);rintro _ w2 ⟨g8,rfl,d1,a5,q2⟩;refine inl (itn (ibl ?_));replace Z:=Z.ext q2;have b4:=hS.ext (hF.next (q1.n1 q2));have c9:=Z.lt;have b0:=a5.lt;have b2:=a2 _ _ _ (Turn.of_fr (q1.n1 q2)) b1;refine x4d [(2,_),(8,_)] (.c2 rfl rfl) ?_;refine v5q (α:=Bool) rfl (mkC func134) hN (y3y (N-1) g8 q w2 a5) (λb hb=>by rw[List.mem_singleton.1 hb];exact b0) (λ_=>rfl)
  (λx=>[(10,slv (q.h x)),(9,.int .u8 (y2t x))]) (λx=>by simp[bdE,y2t]) (λx=>rfl)
  (λs W=>J (ndP q s) W/\Blk W g2 286 [.func (.yield ly) #[] #[]]/\Blk W g8 32 (bdL q)/\BdS W q/\w2.heap.size<=W.heap.size) (λ_ W=>∃M,Jx M W)
  (λs W W' ht h=>⟨a2 _ _ _ (ht.low (by omega)) h.1,h.2.1.turn ht,h.2.2.1.turn ht,h.2.2.2.1.turn ht,let ⟨_,hg,_⟩:=ht;Nat.le_trans h.2.2.2.2 hg.size⟩) (λs W W' ht h=>let ⟨p,hp⟩:=h;⟨p,a0 _ _ _ (ht.low (by omega)) hp⟩)
  ⟨b2,Z,a5,b4,Nat.le_refl _⟩ (λx=>[(4,slv (q.h x)),(3,.int .u8 (y2t x))]) [(2,.pointer (some ⟨g2,0,none⟩))] (.cons rfl .nil) ?_ ?_ ?_ ?_
 intro lN M x w3 hi;refine x4d [(9,_),(10,_),(2,_)] (.c3 rfl rfl rfl) (isq (irg rfl (asg rfl (inl (itn (irg rfl (asg rfl (inl ?_))))))));exact asU (.c3 rfl rfl rfl);rintro lN M x w3 d4 ⟨b3,a8,U,a7,b9⟩ d5 b7;have d6:=v6j q hf hb M;have d7:(q.r x).length<=40:=by cases x<;>assumption
 have d3:=a7.len x;refine ibl (isq (irg rfl (mv rfl (lnS rfl underlying30 (mv rfl (inl (itn (ibl (v8p (ι:=Nat) [(2,_),(3,_),(11,_),(12,_)] (λi=>[(13,.int .i64 (i:Int))]) (λi w'=>J (ndP q M++ndR q x i) w'/\i<=(q.r x).length/\KeepN [286,32] (bdB q) w2.heap.size w3 w') (λi=>(q.r x).length-i) 0 (.c5 rfl rfl rfl rfl rfl) ⟨by simpa[ndR] using b3,Nat.zero_le _,KeepN.refl⟩ ?_)))))))));rintro i w4 ⟨a6,hi,I⟩;have a1:=a8.keepT I.1 (by decide);have a4:=a7.keep I;refine x4d [(2,_),(3,_),(11,_),(12,_),(13,.int .i64 (i:Int))] (.c5 rfl rfl rfl rfl rfl) (isq (irg rfl (lt' rfl rfl (inl (itn (isq (icd rfl (λc0=>?_) (λc0=>?_))))))));refine isk (itn (isq (ibl (isq (irg rfl (mv rfl (z1a (p:=i) (iq0) rfl (a4.sel x) rfl y2z (by omega) (λad hc=>(z1g rfl (hc _ (a4.sel x)) z5t (asg rfl (asg rfl (inl (itn (isq (isq (irg rfl (mv rfl (ge' rfl rfl (inl (itn (icd rfl (λc1=>absurd c1 (by omega)) (λc1=>(isk (itn ?_))))))))))))))))))))))));refine isq (j7t 6 rfl rfl rfl (by intro g e;cases e) ?_);refine z3v rfl a1 j6a (mv rfl (mv rfl ?_));refine z0v rfl rfl (wi6 (by omega)) (z1v (cs:=[_,_]) (ev2 rfl rfl) x1a (z0h rfl rfl rfl (z0h rfl rfl rfl z0s)) rfl ?_);refine mv rfl ?_;refine j8a rfl (ev2 rfl rfl) (j5y (Pf:=λs=>s <+: ndP q [false,true]) (x:=(x,i)) b8 a6 (by rw[List.length_append,v1b];omega) (j0r b7 (by omega)) (by rfl)) rfl ?_;rintro _ w5 (⟨rfl,O,a3⟩|⟨rfl,O,a3⟩);refine nt' rfl (inl (itn (icf rfl (isk (bn' (itn (irg rfl (z0v rfl rfl (wi6 (by omega)) (mv rfl (inl ?_))))))))));exact u2i (i+1) (.c5 rfl rfl rfl rfl rfl) ⟨by rw[x9b,<-List.append_assoc];exact O,by omega,I.trans (a3.low (by omega))⟩ (by omega);refine nt' rfl (inl (itn (ict rfl (irt ?_))));exact rb (tr (tr (rb (rb (rndX (I.2.trans (KeepsFrom.low a3 (by omega))) ⟨_,O⟩)))));obtain rfl:i=(q.r x).length:=by omega
 refine iex (te (te (xh (bn' ?_))));exact rndK I.2 ⟨λb hb=>by rw[List.mem_singleton.1 hb];exact(show w4.heap[g8]?=_ from U.keepT I.1 (by decide)).trans (show w3.heap[g8]?=_ from U).symm,λ_ _ _ _ h=>by cases h⟩ ⟨by rw[u0l];exact a6,a1,U.keepT I.1 (by decide),a4,Nat.le_trans b9 I.2.size⟩;rintro D xs W hD rfl ⟨O,_⟩ hm;refine bn' (rM0n results188 (x7w hm) (by simp) ?_);intro w6 q6;exact⟨⟨_,rfl⟩,.inl ⟨_,rfl,a2 _ _ _ (Turn.of_mark q6 hm (by omega)) O⟩⟩;rintro D M W hD _ ⟨p,hp⟩ hm;refine rb (rM0 results188 (x7w hm) (by simp) ?_);intro w6 q6;exact⟨⟨_,rfl⟩,.inr ⟨_,trivial,a0 _ _ _ (Turn.of_mark q6 hm (by omega)) hp⟩⟩
theorem x3j (q:BdQ)(w0:World)(hB:BdAt w0 q)(hf:q.fs.length<=40)(hb:q.bs.length<=40)(h4:z9j q.fs)(a5:z9j q.bs):Rets prog 95 #[.agg #[.slice q.f.1 q.f.2.1 q.f.2.2,.slice q.b.1 q.b.2.1 q.b.2.2]] w0 λr w'=>r=.int .i64 (q.p.flat.length:Int)/\Fr [] w0 w':=by
 refine weM [(0,.agg #[.slice q.f.1 q.f.2.1 q.f.2.2,.slice q.b.1 q.b.2.1 q.b.2.2])] func95 rfl ntmps95 rfl (.cons rfl .nil) ?_;have J:=hB;refine isq (irg rfl (bx rfl rfl rfl (λg1 w1 b0 O q1 z1=>(asg rfl (inl (itn (isq (irg rfl (al zv3 rfl rfl (λU w2 b1 D q2 z2=>(z5i rfl rfl D rfl sz3 (λw3 D q3 z3=>(inl (itn (isq (isq (irg rfl ?_)))))))))))))))));replace O:=(O.ext q2).fr q3;refine z0k rfl O z5s (cl (ev1 rfl) (mkC func135) (y6r q _) rfl ?_);rintro _ w4 ⟨g7,rfl,a8,a1,q4⟩;have z4:=q4.size;refine inl (itn (ibl ?_));have Z:∀b∈bdB q,b<w0.heap.size:=BdS.lt J.s;replace D:=D.ext q4;replace hB:=J.ext (q1.z3 q2 q3 q4);refine v5q (α:=Bool×Nat) rfl (mkC func188) (by decide) (y4s 8 g7 q w4 (by decide) a1 hB.s hf hb) (BdS.lt hB.s) (λ_=>rfl) (λx=>[(9,.slice ((q.r x.1).getD x.2 iq0).1.1 ((q.r x.1).getD x.2 iq0).1.2.1 ((q.r x.1).getD x.2 iq0).1.2.2),(8,.agg #[.int .u8 (y2t x.1),.int .i64 ((x.2:Int)+1)])]) (λx=>by simp[ndE,slv]) (λ_=>rfl) (λ(s:List (Bool×Nat)) (W:World)=>Fr [U] w4 W/\Blk W U 3 [.int .i64 (ndN q s:Int)]/\s.length<=81) (λ_ _=>False) (λs W W' ht h=>⟨h.1.turn ht (Nat.le_refl _),h.2.1.turn ht,h.2.2⟩) (λ_ _ _ _ h=>h.elim) ⟨Fr.refl _ _,D,Nat.zero_le _⟩ (λx=>[(5,.slice ((q.r x.1).getD x.2 iq0).1.1 ((q.r x.1).getD x.2 iq0).1.2.1 ((q.r x.1).getD x.2 iq0).1.2.2)]) [(3,_)] (.cons rfl .nil) ?_ ?_ ?_ (λ_ _ _ _ _ h _=>h.elim);rintro lN a4 x w5 ⟨q5,D,a2⟩;refine x4d [(8,.agg #[.int .u8 (y2t x.1),.int .i64 ((x.2:Int)+1)]),(9,.slice ((q.r x.1).getD x.2 iq0).1.1 ((q.r x.1).getD x.2 iq0).1.2.1 ((q.r x.1).getD x.2 iq0).1.2.2),(3,_)] (.c3 rfl rfl rfl) (irg rfl (asg rfl (inl ?_)));exact asU (.c2 rfl rfl);rintro lN a4 x w6 b2 ⟨q6,D,a2⟩ b3 b5;have z6:=q6.size;have M:=D.lt;have a0:=D;have b4:=u3v q h4 a5 a4;have b6:=z3g (show z9j (q.r x.1) by cases x.1<;>assumption) x.2;have a7:((q.r x.1).getD x.2 iq0).1.2.1=((q.r x.1).getD x.2 iq0).2.length:=z1x (z1u (show IqAt w0 (q.r x.1) by cases x.1;exact J.fi;exact J.bi) x.2);refine ibl (irg rfl (z3v rfl D na3 (mv rfl (lnS rfl underlying37 (z0v rfl rfl (wi6 (by omega)) (z5i rfl rfl D rfl sz3 (λw7 D q7 z7=>(kpL [] .nil (inl (bn' ?_))))))))));exact j0k (S:=[U]) ((Fr.refl [U] _).z1 q7) (λk hk _=>by cases List.mem_singleton.1 hk;exact .inl (a0.tyC (by decide))) (λb hb=>Nat.lt_of_lt_of_le (Z b hb) (by omega)) (λb hb e=>by simp at e;have:=Z b hb;omega) ⟨((Fr.refl [U] _).z2 q6 q7),by rw[u2a,<-a7];exact D,by rw[List.length_append];simp;omega⟩;rintro D1 b7 w8 a9 hS ⟨q8,D,a2⟩ I;have z8:=q8.size;have a6:=I;have a3:=I.lt;have M:=D.lt;subst hS;rw[u9s]at D;refine bn' (itn (isq (irg rfl (z3v rfl D na3 (asg rfl (inl (itn (irt (rM1 results95 rfl (x7w I) (by simp) ?_)))))))));intro w9 q9;exact⟨_,rfl,rfl,(q1.z5 q2 q3 q4 q8 q9)⟩
theorem na42:z2c prog 42:=λ_=>by kernel_rfl
theorem v5e:z2c prog 173:=λ_=>by kernel_rfl
theorem sz42:z1p prog 42 1:=λ_=>by kernel_rfl
theorem j1r:z1p prog 173 1:=λ_=>by kernel_rfl
theorem zv4 (w:World):(zeroValue 4).run prog w=.ok (.bool false) w:=by kernel_rfl
theorem zv42 (w:World):(zeroValue 42).run prog w=.ok (.int .i64 0) w:=by kernel_rfl
theorem j1i (w:World):(zeroValue 173).run prog w=.ok (.map none) w:=by kernel_rfl
set_option maxHeartbeats 2000000 in
theorem y8n (q:BdQ)(w0:World)(hB:BdAt w0 q)(hv:BdOk q.p):Rets prog 43 #[.agg #[.slice q.f.1 q.f.2.1 q.f.2.2,.slice q.b.1 q.b.2.1 q.b.2.2]] w0 λr w'=>r=.int .i64 0/\Fr [] w0 w':=by
 obtain⟨⟨hf,hb⟩,h4,j5⟩:=z3n hv;refine weM [(0,.agg #[.slice q.f.1 q.f.2.1 q.f.2.2,.slice q.b.1 q.b.2.1 q.b.2.2])] func43 rfl ntmps43 rfl (.cons rfl .nil) ?_;have I:=hB;refine isq (irg rfl (bx rfl rfl rfl (λg1 w1 j9 J q1 z1=>(al zv42 rfl rfl (λg2 w2 k0 b6 q2 z2=>(inl (itn (isq (isq (irg rfl ?_))))))))));replace J:=J.ext q2;refine z0k rfl J z5s (cl (ev1 rfl) (mkC func93) (y9e q _) rfl ?_);rintro _ w3 ⟨f8,rfl,g3,a5,q3⟩;have z3:=q3.size;refine inl (itn (ibl ?_));have g9:=a5.lt;refine v5q (α:=Bool) rfl (mkC func134) (by decide) (y3y 8 f8 q w3 a5) (λb D=>by rw[List.mem_singleton.1 D];exact a5.lt) (λ_=>rfl) (λx=>[(23,.slice (q.h x).1 (q.h x).2.1 (q.h x).2.2),(22,.int .u8 (y2t x))]) (λx=>by simp[bdE,y2t,slv]) (λ_=>rfl) (λ(s:List (Bool)) (W:World)=>Fr [] w3 W/\True) (λ_ _=>False) (λs W W' ht h=>⟨h.1.turn ht (Nat.le_refl _),h.2⟩) (λ_ _ _ _ h=>h.elim) ⟨Fr.refl _ _,trivial⟩ (λx=>[(4,.slice (q.h x).1 (q.h x).2.1 (q.h x).2.2)]) [(1,_),(2,_)] (.c2 rfl rfl) ?_ ?_ ?_ (λ_ _ _ _ _ h _=>h.elim);rintro lN a0 x w4 ⟨q4,-⟩;refine x4d [(22,.int .u8 (y2t x)),(23,.slice (q.h x).1 (q.h x).2.1 (q.h x).2.2),(1,_),(2,_)] (.c4 rfl rfl rfl rfl) (irg rfl (asg rfl (inl ?_)));exact asU (.c3 rfl rfl rfl);rintro lN a0 x w5 e7 ⟨q5,-⟩ e8 d7;have z5:=q5.size;have e6:=(BdS.len I.s x);have e9:(q.r x).length<=40:=by cases x<;>assumption
 have b7:z9j (q.r x):=by cases x<;>assumption
 refine ibl (isq (isq (irg rfl (mv rfl (lnS rfl underlying30 (gt' rfl rfl (inl (itn (icd rfl (λc0=>?_) (λc0=>?_))))))))));exfalso;omega;refine isk (itn (isq (irg rfl (mv rfl (lnS rfl underlying30 (mv rfl (inl (itn (ibl (v8p (ι:=Nat) [(2,_),(27,_),(28,_)] (λi=>[(29,.int .i64 (i:Int))]) (λi w'=>Fr [] w5 w'/\i<=(q.r x).length) (λi=>(q.r x).length-i) 0 (.c4 rfl rfl rfl rfl) ⟨Fr.refl _ _,Nat.zero_le _⟩ ?_))))))))));rintro i w6 ⟨q6,hi⟩;have z6:=q6.size;refine x4d [(2,_),(27,_),(28,_),(29,_)] (.c4 rfl rfl rfl rfl) (isq (irg rfl (lt' rfl rfl (inl (itn (isq (icd rfl (λc1=>?_) (λc1=>?_))))))));have f1:=z1x (z1u (I.iq x) i);have f0:=z3g b7 i;refine isk (itn (isq (ibl (isq (irg rfl ?_)))));replace hB:=I.ext (q1.n4 q2 q3 q5 q6);refine z1a (iq0) rfl (hB.s.sel x) rfl y2z z1d (λi2 e1=>?_);refine z1g rfl (e1 _ (hB.s.sel x)) z5t (asg rfl (inl (itn (isq (irg rfl (mv rfl (lnS rfl underlying37 (gt' rfl rfl (inl (itn (icd rfl (λc2=>?_) (λc2=>?_))))))))))));exfalso;omega;refine isk (bn' (itn (irg rfl (z0v rfl rfl (wi6 (by omega)) (mv rfl (inl ?_))))));exact u2i (i+1) (.c4 rfl rfl rfl rfl) ⟨q6,by omega⟩ (by omega);obtain rfl:i=(q.r x).length:=by omega
 refine iex (te (te (xh (bn' ?_))));exact j0k (S:=[]) q6 (by simp) (λb D=>by rw[List.mem_singleton.1 D];omega) (by simp) ⟨(q5.n1 q6),trivial⟩;rintro D1 f7 w7 j6 hS ⟨q7,-⟩ b1;have z7:=q7.size;have d4:=b1;have f2:=b1.lt;refine bn' (itn (isq (isq (irg rfl ?_))));replace J:=J.ext (q3.n1 q7);refine z0k rfl J z5s (cl (ev1 rfl) (mkC func93) (y9e q _) rfl ?_);rintro _ w8 ⟨f9,rfl,g4,a6,q8⟩;have z8:=q8.size;refine inl (itn (ibl ?_));have h0:=a6.lt;refine v5q (α:=Bool) rfl (mkC func134) (by decide) (y3y 8 f9 q w8 a6) (λb D=>by rw[List.mem_singleton.1 D];exact a6.lt) (λ_=>rfl) (λx=>[(40,.slice (q.h x).1 (q.h x).2.1 (q.h x).2.2),(39,.int .u8 (y2t x))]) (λx=>by simp[bdE,y2t,slv]) (λ_=>rfl) (λ(s:List (Bool)) (W:World)=>Fr [] w8 W/\True) (λ_ _=>False) (λs W W' ht h=>⟨h.1.turn ht (Nat.le_refl _),h.2⟩) (λ_ _ _ _ h=>h.elim) ⟨Fr.refl _ _,trivial⟩ (λx=>[(8,.slice (q.h x).1 (q.h x).2.1 (q.h x).2.2)]) [(1,_),(2,_)] (.c2 rfl rfl) ?_ ?_ ?_ (λ_ _ _ _ _ h _=>h.elim);rintro lN a0 x w9 ⟨q9,-⟩;refine x4d [(39,.int .u8 (y2t x)),(40,.slice (q.h x).1 (q.h x).2.1 (q.h x).2.2),(1,_),(2,_)] (.c4 rfl rfl rfl rfl) (irg rfl (asg rfl (inl ?_)));exact asU (.c3 rfl rfl rfl);rintro lN a0 x h8 e7 ⟨d0,-⟩ e8 d7;have l9:=d0.size;have e6:=(BdS.len I.s x);have e9:(q.r x).length<=40:=by cases x<;>assumption
 have b7:z9j (q.r x):=by cases x<;>assumption
 refine ibl (isq (irg rfl (mv rfl (lnS rfl underlying30 (mv rfl (inl (itn (ibl (v8p (ι:=Nat) [(2,_),(41,_),(42,_)] (λi=>[(43,.int .i64 (i:Int))]) (λi w'=>Fr [] h8 w'/\i<=(q.r x).length) (λi=>(q.r x).length-i) 0 (.c4 rfl rfl rfl rfl) ⟨Fr.refl _ _,Nat.zero_le _⟩ ?_)))))))));rintro i h9 ⟨b4,hi⟩;have m0:=b4.size;refine x4d [(2,_),(41,_),(42,_),(43,_)] (.c4 rfl rfl rfl rfl) (isq (irg rfl (lt' rfl rfl (inl (itn (isq (icd rfl (λc3=>?_) (λc3=>?_))))))));have f1:=z1x (z1u (I.iq x) i);have f0:=z3g b7 i;refine isk (itn (isq (ibl (isq (irg rfl ?_)))));replace hB:=I.ext (q1.n6 q2 q3 q7 q8 d0 b4);refine z1a (iq0) rfl (hB.s.sel x) rfl y2z z1d (λi3 e2=>?_);refine z1g rfl (e2 _ (hB.s.sel x)) z5t (asg rfl (inl (itn (isq (irg rfl (mv rfl (lnS rfl underlying37 (mv rfl (inl (itn (ibl (v8p (ι:=Nat) [(2,_),(41,_),(42,_),(43,_),(47,_),(48,_)] (λj=>[(49,.int .i64 (j:Int))]) (λj w'=>Fr [] h9 w'/\j<=((q.r x).getD i iq0).2.length) (λj=>((q.r x).getD i iq0).2.length-j) 0 (.c7 rfl rfl rfl rfl rfl rfl rfl) ⟨Fr.refl _ _,Nat.zero_le _⟩ ?_))))))))))));rintro j k2 ⟨d1,hj⟩;have m1:=d1.size;refine x4d [(2,_),(41,_),(42,_),(43,_),(47,_),(48,_),(49,_)] (.c7 rfl rfl rfl rfl rfl rfl rfl) (isq (irg rfl (lt' rfl rfl (inl (itn (isq (icd rfl (λc4=>?_) (λc4=>?_))))))));have g7:=x9y hv x (i:=i) (j:=j) (by omega) (by omega);refine isk (itn (isq (ibl (isq (irg rfl ?_)))));replace hB:=I.ext ((q1.n6 q2 q3 q7 q8 d0 b4).n1 d1);refine z1a (id0) rfl (z1u (hB.iq x) i) rfl z6j z1d (λi4 e3=>?_);refine z1i rfl (e3 _ (z1u (hB.iq x) i)) z3o (al y3v rfl rfl (λj2 k3 i8 b5 h3 m2=>?_));refine z0j (vs:=[_,_]) rfl rfl b5 y1u (λk4 b5 h5 m3=>?_) (h1:=(by first|(simp[Value.oneCell',S];done)|exact z1k.one (((q.r x).getD i iq0).2.getD j id0)));refine inl (itn (isq (irg rfl (z0k rfl b5 z3o (cl (ev1 rfl) (mkC func94) (y8d (((q.r x).getD i iq0).2.getD j id0) _) rfl ?_)))));rintro _ k5 ⟨rfl,f5⟩;have m4:=f5.size;refine nt' rfl (inl (itn (icd rfl (λc5=>?_) (λc5=>?_))));exact absurd g7 c5;refine isk (bn' (itn (irg rfl (z0v rfl rfl (wi6 (by omega)) (mv rfl (inl ?_))))));exact u2i (j+1) (.c7 rfl rfl rfl rfl rfl rfl rfl) ⟨(d1.z3 h3 h5 f5),by omega⟩ (by omega);obtain rfl:j=((q.r x).getD i iq0).2.length:=by omega
 refine iex (te (te (xh (bn' (itn (irg rfl (z0v rfl rfl (wi6 (by omega)) (mv rfl (inl ?_)))))))));exact u2i (i+1) (.c4 rfl rfl rfl rfl) ⟨(b4.n1 d1),by omega⟩ (by omega);obtain rfl:i=(q.r x).length:=by omega
 refine iex (te (te (xh (bn' ?_))));exact j0k (S:=[]) b4 (by simp) (λb D=>by rw[List.mem_singleton.1 D];omega) (by simp) ⟨(d0.n1 b4),trivial⟩;rintro D2 f7 k6 j7 hS ⟨a1,-⟩ b2;have m5:=a1.size;have d5:=b2;have f3:=b2.lt;refine bn' (itn (isq (irg rfl ?_)));replace J:=J.ext (q8.n1 a1);refine z0k rfl J z5s ?_;replace hB:=I.ext (q1.n5 q2 q3 q7 q8 a1);refine cl (ev1 rfl) (mkC func95) (x3j q _ hB (by omega) (by omega) (by assumption) (by assumption)) rfl ?_;rintro _ k7 ⟨rfl,a2⟩;have m6:=a2.size;refine x9z idV rfl underlying173 rfl (λM k8 j1 O a8 m7=>?_);rw[<-x7g]at O;refine al j1i rfl rfl (λj3 k9 i9 U a3 m8=>(z5i rfl rfl U rfl j1r (λl0 U a4 m9=>(inl (itn (isq (isq (irg rfl ?_))))))));replace J:=(J.ext (a2.n2 a8 a3)).fr a4;refine z0k rfl J z5s (cl (ev1 rfl) (mkC func93) (y9e q _) rfl ?_);rintro _ f6 ⟨g0,rfl,g5,a7,Z⟩;have n7:=Z.size;refine inl (itn (ibl ?_));have h2:=a7.lt;replace O:=((O.ext a3).fr a4 (by simp;omega)).ext Z;refine v5q (α:=Bool) rfl (mkC func134) (by decide) (y3y 8 g0 q f6 a7) (λb D=>by rw[List.mem_singleton.1 D];exact a7.lt) (λ_=>rfl) (λx=>[(64,.slice (q.h x).1 (q.h x).2.1 (q.h x).2.2),(63,.int .u8 (y2t x))]) (λx=>by simp[bdE,y2t,slv]) (λ_=>rfl) (λ(s:List (Bool)) (W:World)=>Fr [M] f6 W/\MapF idV W M (y0d (x0q q s))) (λ_ _=>False) (λs W W' ht h=>⟨h.1.turn ht (Nat.le_refl _),h.2.turn ht (by omega)⟩) (λ_ _ _ _ h=>h.elim) ⟨Fr.refl _ _,O⟩ (λx=>[(15,.slice (q.h x).1 (q.h x).2.1 (q.h x).2.2)]) [(1,_),(2,_),(13,_)] (.c3 rfl rfl rfl) ?_ ?_ ?_ (λ_ _ _ _ _ h _=>h.elim);rintro lN a0 x l1 ⟨k1,O⟩;refine x4d [(63,.int .u8 (y2t x)),(64,.slice (q.h x).1 (q.h x).2.1 (q.h x).2.2),(1,_),(2,_),(13,_)] (.c5 rfl rfl rfl rfl rfl) (irg rfl (asg rfl (inl ?_)));exact asU (.c4 rfl rfl rfl rfl);rintro lN a0 x i0 e7 ⟨b8,O⟩ e8 d7;have n8:=b8.size;have e6:=(BdS.len I.s x);have e9:(q.r x).length<=40:=by cases x<;>assumption
 have b7:z9j (q.r x):=by cases x<;>assumption
 have g6:=O;refine ibl (isq (irg rfl (mv rfl (lnS rfl underlying30 (mv rfl (inl (itn (ibl (v8p (ι:=Nat) [(2,_),(13,_),(65,_),(66,_)] (λi=>[(67,.int .i64 (i:Int))]) (λi w'=>Fr [M] i0 w'/\i<=(q.r x).length/\MapF idV w' M (y0d (x0q q a0++x5z q x i))) (λi=>(q.r x).length-i) 0 (.c5 rfl rfl rfl rfl rfl) ⟨Fr.refl _ _,⟨Nat.zero_le _,by simpa[x5z] using O⟩⟩ ?_)))))))));rintro i i1 ⟨a9,⟨hi,O⟩⟩;have n9:=a9.size;refine x4d [(2,_),(13,_),(65,_),(66,_),(67,_)] (.c5 rfl rfl rfl rfl rfl) (isq (irg rfl (lt' rfl rfl (inl (itn (isq (icd rfl (λc6=>?_) (λc6=>?_))))))));have f1:=z1x (z1u (I.iq x) i);have f0:=z3g b7 i;refine isk (itn (isq (ibl (isq (irg rfl ?_)))));replace hB:=I.ext ((((q1.n6 q2 q3 q7 q8 a1 a2).n1 a8).n1 a3).z4 a4 Z b8 a9);refine z1a (iq0) rfl (hB.s.sel x) rfl y2z z1d (λi5 e4=>?_);refine z1g rfl (e4 _ (hB.s.sel x)) z5t (asg rfl (inl (itn (isq (irg rfl (mv rfl (lnS rfl underlying37 (mv rfl (inl (itn (ibl ?_)))))))))));refine v8p (ι:=Nat) [(2,_),(13,_),(65,_),(66,_),(67,_),(71,_),(72,_)] (λj=>[(73,.int .i64 (j:Int))]) (λj w'=>Fr [M] i1 w'/\j<=((q.r x).getD i iq0).2.length/\MapF idV w' M (y0d (x0q q a0++x5z q x i++((q.r x).getD i iq0).2.take j))) (λj=>((q.r x).getD i iq0).2.length-j) 0 (.c8 rfl rfl rfl rfl rfl rfl rfl rfl) ⟨Fr.refl _ _,⟨Nat.zero_le _,by rw[List.take_zero,List.append_nil];exact O⟩⟩ ?_;rintro j l2 ⟨b9,⟨hj,O⟩⟩;have o0:=b9.size;refine x4d [(2,_),(13,_),(65,_),(66,_),(67,_),(71,_),(72,_),(73,_)] (.c8 rfl rfl rfl rfl rfl rfl rfl rfl) (isq (irg rfl (lt' rfl rfl (inl (itn (isq (icd rfl (λc7=>?_) (λc7=>?_))))))));have g8:=u7g (j:=j) hv.nd d7 (i:=i) (by omega) (by omega);refine isk (itn (isq (ibl (isq (irg rfl ?_)))));replace hB:=I.ext ((((q1.n6 q2 q3 q7 q8 a1 a2).n1 a8).n1 a3).z5 a4 Z b8 a9 b9);refine z1a (id0) rfl (z1u (hB.iq x) i) rfl z6j z1d (λi7 e5=>?_);refine z1i rfl (e5 _ (z1u (hB.iq x) i)) z3o (al y3v rfl rfl (λj4 l3 j0 b0 d9 o1=>?_));refine z0j (vs:=[_,_]) rfl rfl b0 y1u (λl4 b0 e0 o2=>?_) (h1:=(by first|(simp[Value.oneCell',S];done)|exact z1k.one (((q.r x).getD i iq0).2.getD j id0)));refine inl (itn (isq (isq (irg rfl ?_))));replace U:=(((((U.ext Z).fr b8).fr a9).fr b9).ext d9).fr e0;refine z3v rfl U v5e (z0k rfl b0 z3o ?_);replace O:=(O.ext d9).fr e0 (by simp;omega);refine y8o (V:=idV) (k:=(((q.r x).getD i iq0).2.getD j id0)) (f:=y0d (x0q q a0++x5z q x i++((q.r x).getD i iq0).2.take j)) rfl rfl O z5u underlying173 zv4 (x7o _ _) rfl (inl (itn (icd rfl (λc8=>?_) (λc8=>?_))));exact absurd c8 g8;refine isk (itn (irg rfl (z3v rfl U v5e (z0k rfl b0 z3o (x0j (V:=idV) (k:=(((q.r x).getD i iq0).2.getD j id0)) rfl rfl rfl O z5u underlying173 (λl5 O h6 o3=>?_))))));rw[y8j]at O;refine inl (bn' (itn (irg rfl (z0v rfl rfl (wi6 (by omega)) (mv rfl (inl ?_))))));exact u2i (j+1) (.c8 rfl rfl rfl rfl rfl rfl rfl rfl) ⟨((Fr.refl [M] _).z4 b9 d9 e0 h6),⟨by omega,by rw[z5j id0 (by omega),<-List.append_assoc];exact O⟩⟩ (by omega);obtain rfl:j=((q.r x).getD i iq0).2.length:=by omega
 rw[List.take_length]at O;refine iex (te (te (xh (bn' (itn (irg rfl (z0v rfl rfl (wi6 (by omega)) (mv rfl (inl ?_)))))))));exact u2i (i+1) (.c5 rfl rfl rfl rfl rfl) ⟨((Fr.refl [M] _).z2 a9 b9),⟨by omega,by rw[x2x q x (by omega),<-List.append_assoc];exact O⟩⟩ (by omega);obtain rfl:i=(q.r x).length:=by omega
 rw[u0p]at O;refine iex (te (te (xh (bn' ?_))));exact j0k (S:=[M]) ((Fr.refl [M] _).z1 a9) (λk hk _=>.inr (by cases List.mem_singleton.1 hk;exact⟨by omega,g6.noncells⟩)) (λb D=>by rw[List.mem_singleton.1 D];omega) (λb D e=>by rw[List.mem_singleton.1 D]at e;simp at e;omega) ⟨((Fr.refl [M] _).z2 b8 a9),by rw[v1f];exact O⟩;rintro D3 f7 l6 j8 hS ⟨c9,O⟩ b3;have o4:=c9.size;have d6:=b3;have f4:=b3.lt;refine bn' (itn (isq (irg rfl ?_)));replace b6:=(((b6.ext (q3.n6 q7 q8 a1 a2 a8 a3)).fr a4).ext Z).fr c9;refine z5i rfl rfl b6 rfl sz42 (λl7 b6 d3 o5=>(inl (itn (irt ?_))));replace b3:=d6.fr ((Fr.refl [g2] _).z1 d3) (by simp;omega);replace b2:=d5.fr (((Fr.refl [g2] _).z6 a2 a8 a3 a4 Z c9).z1 d3) (by simp;omega);replace b1:=d4.fr ((((Fr.refl [g2] _).z6 q8 a1 a2 a8 a3 a4).n1 Z).z2 c9 d3) (by simp;omega);refine rM1c results43 rfl b6 na42 (j1y b3 b2 b1) (by simp;omega) ?_;intro l8 h7;exact⟨_,rfl,rfl,((((q1.n6 q2 q3 q7 q8 a1 a2).n1 a8).n1 a3).z5 a4 Z c9 d3 h7)⟩
set_option maxHeartbeats 2000000 in
theorem x2g (q:BdQ)(b:Int)(n:Nat)(v:Value)(l:List LId)(w0:World)(hB:BdAt w0 q)(hs:Sl z1k w0 v l)(hv:BdOk q.p)(hn:z4q b (n:Int)=0)(e7:l.length<=4)(e9:∀i∈l,y2k i)(hd:∀i,q.p.flat.count i+l.count i<=(q.p.at b (n:Int)).count i+1):Rets prog 118 #[.agg #[.slice q.f.1 q.f.2.1 q.f.2.2,.slice q.b.1 q.b.2.1 q.b.2.2],.agg #[.int .u8 b,.int .i64 (n:Int)],v] w0 λr w'=>(∃q':BdQ,r=.tuple #[.agg (bdL q').toArray,.int .i64 0]/\BdO 37 87 w0.heap.size w' q'/\q'.p=q.p.put b (n:Int) l)/\Fr [] w0 w':=by
 obtain⟨⟨hf,hb⟩,h4,e5⟩:=z3n hv;have i3:=z3k hn;obtain⟨A,c,rfl,h7⟩:=id hs.form;refine weM [(0,.agg #[.slice q.f.1 q.f.2.1 q.f.2.2,.slice q.b.1 q.b.2.1 q.b.2.2]),(1,.agg #[.int .u8 b,.int .i64 (n:Int)]),(2,.slice A l.length c)] func118 rfl ntmps118 rfl (.c3 rfl rfl rfl) ?_;have a8:=hB;have b6:=hs;refine isq (irg rfl (bx rfl rfl rfl (λg3 w1 h8 a2 q1 z1=>(bx rfl rfl rfl (λg4 w2 h9 a3 q2 z2=>(al x9f rfl rfl (λg6 w3 i0 b3 q3 z3=>(asg rfl (inl (itn (isq (isq (irg rfl ?_)))))))))))));replace a2:=a2.ext (q2.n1 q3);refine z0k rfl a2 z5s ?_;replace hB:=a8.ext (q1.n2 q2 q3);refine cl (ev1 rfl) (mkC func43) (y8n q _ hB hv) rfl ?_;rintro _ w4 ⟨rfl,q4⟩;have z4:=q4.size;refine asg rfl (inl (itn (isq (irg rfl (mv rfl (ne' rfl rfl (inl (itn (icd rfl (λc0=>?_) (λc0=>?_))))))))));exact absurd rfl c0;refine isk (itn (isq (isq (irg rfl ?_))));replace a3:=a3.ext (q3.n1 q4);refine z0k rfl a3 z5z (cl (ev1 rfl) u0o (z4p _ _ _) rfl ?_);rintro _ w5 ⟨rfl,q5⟩;have z5:=q5.size;refine ne' rfl rfl (inl (itn (icd rfl (λc1=>?_) (λc1=>?_))));exact absurd hn (by simpa using c1);refine isk (itn (isq (isq (irg rfl (mv rfl (lnS rfl underlying37 (mv rfl (inl (itn (ibl (v8p (ι:=Nat) [(2,_),(3,_),(4,_),(6,_),(28,_),(29,_)] (λj=>[(30,.int .i64 (j:Int))]) (λj w'=>Fr [] w5 w'/\j<=l.length) (λj=>l.length-j) 0 (.c7 rfl rfl rfl rfl rfl rfl rfl) ⟨Fr.refl _ _,Nat.zero_le _⟩ ?_)))))))))));rintro j w6 ⟨q6,hj⟩;have z6:=q6.size;refine x4d [(2,_),(3,_),(4,_),(6,_),(28,_),(29,_),(30,_)] (.c7 rfl rfl rfl rfl rfl rfl rfl) (isq (irg rfl (lt' rfl rfl (inl (itn (isq (icd rfl (λc2=>?_) (λc2=>?_))))))));have e8:=e9 _ (z0u (d:=id0) (i:=j) (l:=l) (by omega));refine isk (itn (isq (ibl (isq (irg rfl ?_)))));replace hs:=b6.ext (q1.n5 q2 q3 q4 q5 q6);refine z1a (id0) rfl hs rfl z6j z1d (λf8 d3=>?_);refine z1i rfl (d3 _ hs) z3o (al y3v rfl rfl (λh0 w7 g1 b1 q7 z7=>?_));refine z0j (vs:=[_,_]) rfl rfl b1 y1u (λw8 b1 q8 z8=>?_) (h1:=(by first|(simp[Value.oneCell',S];done)|exact z1k.one _));refine inl (itn (isq (irg rfl (z0k rfl b1 z3o (cl (ev1 rfl) (mkC func94) (y8d (l.getD j id0) _) rfl ?_)))));rintro _ w9 ⟨rfl,q9⟩;have z9:=q9.size;refine nt' rfl (inl (itn (icd rfl (λc3=>?_) (λc3=>?_))));exact absurd e8 c3;refine isk (bn' (itn (irg rfl (z0v rfl rfl (wi6 (by omega)) (mv rfl (inl ?_))))));exact u2i (j+1) (.c7 rfl rfl rfl rfl rfl rfl rfl) ⟨(q6.z3 q7 q8 q9),by omega⟩ (by omega);obtain rfl:j=l.length:=by omega
 refine iex (te (te (xh (itn (isq (isq (irg rfl (mv rfl (lnS rfl underlying37 (gt' rfl rfl (kpL [(2,_),(3,_),(4,_),(6,_),(41,_)] (.c5 rfl rfl rfl rfl rfl) (inl (itn (icd rfl (λc4=>?_) (λc4=>?_)))))))))))))));exfalso;omega;refine isk (itn (isq (irg rfl (y6a idV rfl (λD j1 g9 M a0 k9=>?_)))));rw[<-x7g]at M;refine al j1i rfl rfl (λh2 j2 g5 I O l0=>(z5i rfl rfl I rfl j1r (λj3 I U l1=>(inl (itn (isq (isq (irg rfl ?_))))))));replace a2:=(a2.ext (q4.n4 q5 q6 a0 O)).fr U;refine z0k rfl a2 z5s (cl (ev1 rfl) (mkC func135) (y6r q _) rfl ?_);rintro _ e3 ⟨e4,rfl,e6,b4,J⟩;have l2:=J.size;refine inl (itn (ibl ?_));have a5:∀b∈bdB q,b<w0.heap.size:=BdS.lt a8.s;replace M:=((M.ext O).fr U (by simp;omega)).ext J;replace hB:=a8.ext ((((q1.n6 q2 q3 q4 q5 q6 a0).n1 O).z1 U).n1 J);refine j7b (α:=Bool×Nat) rfl (mkC func188) (by decide) (y4s 8 e4 q e3 (by decide) b4 hB.s hf hb) (BdS.lt hB.s) (λ_=>rfl) (λx=>[(47,.slice ((q.r x.1).getD x.2 iq0).1.1 ((q.r x.1).getD x.2 iq0).1.2.1 ((q.r x.1).getD x.2 iq0).1.2.2),(46,.agg #[.int .u8 (y2t x.1),.int .i64 ((x.2:Int)+1)])]) (λx=>by simp[ndE,slv]) (λ_=>rfl) (λ(s:List (Bool×Nat)) (W:World)=>Fr [D] e3 W/\MapF idV W D (y0d (x6i q b (n:Int) s))) (λ_ _=>False) (λs W W' ht h=>⟨h.1.turn ht (Nat.le_refl _),h.2.turn ht (by omega)⟩) (λ_ _ _ _ h=>h.elim) (λs W h=>h.1.size) ⟨Fr.refl _ _,M⟩ 24 (λx=>[.int .u8 (y2t x.1),.int .i64 ((x.2:Int)+1)]) (λg x=>[(12,.pointer (some ⟨g,0,none⟩)),(13,.slice ((q.r x.1).getD x.2 iq0).1.1 ((q.r x.1).getD x.2 iq0).1.2.1 ((q.r x.1).getD x.2 iq0).1.2.2)]) [(4,_),(11,_)] (.c2 rfl rfl) ?_ ?_ ?_ (λ_ _ _ _ _ h _=>h.elim);rintro lN e1 x j4 ⟨j0,M⟩ i7;refine x4d [(46,.agg #[.int .u8 (y2t x.1),.int .i64 ((x.2:Int)+1)]),(47,.slice ((q.r x.1).getD x.2 iq0).1.1 ((q.r x.1).getD x.2 iq0).1.2.1 ((q.r x.1).getD x.2 iq0).1.2.2),(4,_),(11,_)] (.c4 rfl rfl rfl rfl) (isq (irg rfl (al u0x rfl rfl (λd1 j5 d6 a1 f2 l3=>?_))));refine z0j (vs:=[_,_]) rfl rfl a1 y6i (λj6 a1 f3 l4=>?_) (h1:=(by first|(simp[Value.oneCell',S];done)|exact z1k.one _));refine inl (itn (irg rfl (asg rfl (inl ?_))));exact asE d1 (by omega) (.c4 rfl rfl rfl rfl) a1 (f2.z1 f3);rintro lN e1 x d1 f6 i1 d6 a1 ⟨a9,M⟩ i2 i4;have l5:=a9.size;have d9:=a1.lt;have d7:=M;have i5:(q.r x.1).length<=40:=by cases x.1<;>assumption
 have i8:=z3g (show z9j (q.r x.1) by cases x.1<;>assumption) x.2;have i9:((q.r x.1).getD x.2 iq0).1.2.1=((q.r x.1).getD x.2 iq0).2.length:=z1x (z1u (a8.iq x.1) x.2);refine ibl (isq (irg rfl (z0k rfl a1 z5z ?_)));replace a3:=(((a3.ext (q5.n3 q6 a0 O)).fr U).ext J).fr a9;refine z0k rfl a3 z5z (u1b (V:=ndV) (e:=(y2t x.1,(x.2:Int)+1)) (f:=(b,(n:Int))) rfl rfl j5x rfl (inl (itn (icd rfl (λc5=>?_) (λc5=>?_)))));refine isq (irg rfl (mv rfl (lnS rfl underlying37 (mv rfl (inl (itn (ibl ?_)))))));refine v8p (ι:=Nat) [(11,_),(51,_),(52,_)] (λj=>[(53,.int .i64 (j:Int))]) (λj w'=>Fr [D] f6 w'/\j<=((q.r x.1).getD x.2 iq0).2.length/\MapF idV w' D (y0d (x6i q b (n:Int) e1++((q.r x.1).getD x.2 iq0).2.take j))) (λj=>((q.r x.1).getD x.2 iq0).2.length-j) 0 (.c4 rfl rfl rfl rfl) ⟨Fr.refl _ _,⟨Nat.zero_le _,by rw[List.take_zero,List.append_nil];exact M⟩⟩ ?_;rintro j j7 ⟨b0,⟨hj,M⟩⟩;have l6:=b0.size;refine x4d [(11,_),(51,_),(52,_),(53,_)] (.c4 rfl rfl rfl rfl) (isq (irg rfl (lt' rfl rfl (inl (itn (isq (icd rfl (λc6=>?_) (λc6=>?_))))))));refine isk (itn (isq (ibl (isq (irg rfl ?_)))));replace hB:=a8.ext ((((q1.n6 q2 q3 q4 q5 q6 a0).n1 O).z1 U).z3 J a9 b0);refine z1a (id0) rfl (z1u (hB.iq x.1) x.2) rfl z6j z1d (λf9 d4=>?_);refine z1i rfl (d4 _ (z1u (hB.iq x.1) x.2)) z3o (al y3v rfl rfl (λh3 j8 g7 b2 b7 l7=>?_));refine z0j (vs:=[_,_]) rfl rfl b2 y1u (λj9 b2 b8 l8=>?_) (h1:=(by first|(simp[Value.oneCell',S];done)|exact z1k.one _));refine inl (itn (irg rfl ?_));replace I:=((((I.ext J).fr a9).fr b0).ext b7).fr b8;refine z3v rfl I v5e (z0k rfl b2 z3o ?_);replace M:=(M.ext b7).fr b8 (by simp;omega);refine x0j (V:=idV) (k:=(((q.r x.1).getD x.2 iq0).2.getD j id0)) rfl rfl rfl M z5u underlying173 (λk0 M f4 l9=>?_);rw[y8j]at M;refine inl (bn' (itn (irg rfl (z0v rfl rfl (wi6 (by omega)) (mv rfl (inl ?_))))));exact u2i (j+1) (.c4 rfl rfl rfl rfl) ⟨((Fr.refl [D] _).z4 b0 b7 b8 f4),⟨by omega,by rw[z5j id0 (by omega),<-List.append_assoc];exact M⟩⟩ (by omega);obtain rfl:j=((q.r x.1).getD x.2 iq0).2.length:=by omega
 rw[List.take_length]at M;refine iex (te (te (xh (bn' ?_))));exact j0k (S:=[D]) ((Fr.refl [D] _).z1 b0) (λk hk _=>.inr (by cases List.mem_singleton.1 hk;exact⟨by omega,d7.noncells⟩)) (λb hb=>Nat.lt_of_lt_of_le (a5 b hb) (by omega)) (λb hb e=>by simp at e;have:=a5 b hb;omega) ⟨((Fr.refl [D] _).z2 a9 b0),by rw[x1k,oth,if_neg c5];exact M⟩;refine isk (bn' ?_);exact j0k (S:=[D]) (Fr.refl _ _) (λk hk _=>.inr (by cases List.mem_singleton.1 hk;exact⟨by omega,d7.noncells⟩)) (λb hb=>Nat.lt_of_lt_of_le (a5 b hb) (by omega)) (λb hb e=>by simp at e;have:=a5 b hb;omega) ⟨((Fr.refl [D] _).z1 a9),by rw[x1k,oth,if_pos (Classical.not_not.1 c5),List.append_nil];exact M⟩;rintro D1 k8 f7 h6 hS ⟨a4,M⟩ a7;have m0:=a4.size;have b5:=a7;have e0:=a7.lt;subst hS;refine bn' (itn (isq (isq (irg rfl (mv rfl (lnS rfl underlying37 (mv rfl (inl (itn (ibl ?_))))))))));refine v8p (ι:=Nat) [(2,_),(3,_),(4,_),(6,_),(11,_),(60,_),(61,_)] (λj=>[(62,.int .i64 (j:Int))]) (λj w'=>Fr [D] f7 w'/\j<=l.length/\MapF idV w' D (y0d (x6i q b (n:Int) (ndP q [false,true])++l.take j))) (λj=>l.length-j) 0 (.c8 rfl rfl rfl rfl rfl rfl rfl rfl) ⟨Fr.refl _ _,⟨Nat.zero_le _,by rw[List.take_zero,List.append_nil];exact M⟩⟩ ?_;rintro j k1 ⟨Z,⟨hj,M⟩⟩;have m1:=Z.size;refine x4d [(2,_),(3,_),(4,_),(6,_),(11,_),(60,_),(61,_),(62,_)] (.c8 rfl rfl rfl rfl rfl rfl rfl rfl) (isq (irg rfl (lt' rfl rfl (inl (itn (isq (icd rfl (λc7=>?_) (λc7=>?_))))))));have f0:=u8w (j:=j) hn hd (by omega);refine isk (itn (isq (ibl (isq (irg rfl ?_)))));replace hs:=b6.ext ((((q1.n6 q2 q3 q4 q5 q6 a0).n1 O).z1 U).z3 J a4 Z);refine z1a (id0) rfl hs rfl z6j z1d (λg0 d5=>?_);refine z1i rfl (d5 _ hs) z3o (al y3v rfl rfl (λh5 k2 g8 a6 b9 m2=>?_));refine z0j (vs:=[_,_]) rfl rfl a6 y1u (λk3 a6 c9 m3=>?_) (h1:=(by first|(simp[Value.oneCell',S];done)|exact z1k.one _));refine inl (itn (isq (isq (irg rfl ?_))));replace I:=((((I.ext J).fr a4).fr Z).ext b9).fr c9;refine z3v rfl I v5e (z0k rfl a6 z3o ?_);replace M:=(M.ext b9).fr c9 (by simp;omega);refine y8o (V:=idV) (k:=(l.getD j id0)) (f:=y0d (x6i q b (n:Int) (ndP q [false,true])++l.take j)) rfl rfl M z5u underlying173 zv4 (x7o _ _) rfl (inl (itn (icd rfl (λc8=>?_) (λc8=>?_))));exact absurd c8 f0;refine isk (itn (irg rfl (z3v rfl I v5e (z0k rfl a6 z3o (x0j (V:=idV) (k:=(l.getD j id0)) rfl rfl rfl M z5u underlying173 (λk4 M f5 m4=>?_))))));rw[y8j]at M;refine inl (bn' (itn (irg rfl (z0v rfl rfl (wi6 (by omega)) (mv rfl (inl ?_))))));exact u2i (j+1) (.c8 rfl rfl rfl rfl rfl rfl rfl rfl) ⟨((Fr.refl [D] _).z4 Z b9 c9 f5),⟨by omega,by rw[z5j id0 (by omega),<-List.append_assoc];exact M⟩⟩ (by omega);obtain rfl:j=l.length:=by omega
 refine iex (te (te (xh (itn (isq (irg rfl ?_))))));replace a2:=((a2.ext J).fr a4).fr Z;refine z0k rfl a2 z5s ?_;replace a3:=((((a3.ext (q5.n3 q6 a0 O)).fr U).ext J).fr a4).fr Z;refine z0k rfl a3 z5z (mv rfl ?_);replace hB:=a8.ext ((((q1.n6 q2 q3 q4 q5 q6 a0).n1 O).z1 U).z3 J a4 Z);replace hs:=b6.ext ((((q1.n6 q2 q3 q4 q5 q6 a0).n1 O).z1 U).z3 J a4 Z);refine cl (ev3 rfl rfl rfl) (mkC func153) (y4y q b n _ l _ hB hs hn hf hb h4 e5 e7) rfl ?_;rintro _ k5 ⟨⟨q',rfl,a5,f1⟩,q27⟩;have m5:=q27.size;replace b3:=(((((b3.ext (q4.n4 q5 q6 a0 O)).fr U).ext J).fr a4).fr Z).ext q27;refine z0j (vs:=[_,_]) rfl rfl b3 x5e (λk6 b3 d0 m6=>?_) (h1:=(by first|(simp[Value.oneCell',S];done)|exact z1k.one _));refine asg rfl (kpL [(6,_),(7,_)] (.c2 rfl rfl) (inl (itn (irt ?_))));replace a7:=b5.fr ((Fr.refl [g6,D] _).z3 Z q27 d0) (by simp;omega);refine rMCT results118 rfl b3 z5s rfl (x7w a7) (by simp) ?_;intro k7 e2;replace a5:=(a5.fr d0 (by intro k hk;simp at hk;omega)).fr e2 (by intro k hk;simp at hk;omega);exact⟨_,rfl,⟨q',rfl,a5.low (by omega),f1⟩,((((q1.n6 q2 q3 q4 q5 q6 a0).n1 O).z1 U).z6 J a4 Z q27 d0 e2)⟩
theorem u3q:CallOf prog 24:=mkC func24
set_option maxHeartbeats 2000000 in
theorem v3n (q:BdQ)(b:Int)(n m:Nat)(w0:World)(hB:BdAt w0 q)(hv:BdOk q.p)(hn:z4q b (n:Int)=0)(hm:z4q (1-b) (m:Int)=0)(e2:(q.p.at b (n:Int))≠[]):Rets prog 117 #[.agg #[.slice q.f.1 q.f.2.1 q.f.2.2,.slice q.b.1 q.b.2.1 q.b.2.2],.agg #[.int .u8 b,.int .i64 (n:Int)],.agg #[.int .u8 (1-b),.int .i64 (m:Int)]] w0 λr w'=>(∃q':BdQ,r=.tuple #[.agg (bdL q').toArray,.int .i64 (if 4<(q.p.at b (n:Int)).length+(q.p.at (1-b) (m:Int)).length then 9 else 0)]/\(¬4<(q.p.at b (n:Int)).length+(q.p.at (1-b) (m:Int)).length->BdO 37 87 w0.heap.size w' q'/\q'.p=(q.p.put b (n:Int) []).put (1-b) (m:Int) (y4p q.p b (n:Int) (m:Int))))/\Fr [] w0 w':=by
 obtain⟨⟨hf,hb⟩,h4,b6⟩:=z3n hv;have h7:=z3k hn;have h6:=z3k hm;have h3:=y4o hv b (n:Int);have h5:=y4o hv (1-b) (m:Int);have h2:=v4u q.p b (n:Int) (m:Int);have d4:=v0b hv hn;have f3:0<(q.p.at b (n:Int)).length:=List.length_pos_iff.2 e2;refine we [(0,.agg #[.slice q.f.1 q.f.2.1 q.f.2.2,.slice q.b.1 q.b.2.1 q.b.2.2]),(1,.agg #[.int .u8 b,.int .i64 (n:Int)]),(2,.agg #[.int .u8 (1-b),.int .i64 (m:Int)])] func117 rfl ntmps117 rfl (.c3 rfl rfl rfl) ?_;have b7:=hB;refine sr (bx rfl rfl rfl (λg3 w1 g8 J q1 z1=>(bx rfl rfl rfl (λg4 w2 g9 D q2 z2=>(bx rfl rfl rfl (λg5 w3 h0 I q3 z3=>(al x9f rfl rfl (λg6 w4 h1 O q4 z4=>(asg rfl (nn (sq (sr ?_))))))))))));replace J:=J.ext (q2.n2 q3 q4);refine z0k rfl J z5s ?_;replace hB:=b7.ext (q1.n3 q2 q3 q4);refine cl (ev1 rfl) (mkC func43) (y8n q _ hB hv) rfl ?_;rintro _ w5 ⟨rfl,q5⟩;have z5:=q5.size;refine asg rfl (nn (sr (mv rfl (ne' rfl rfl (nn (cd rfl (λc0=>?_) (λc0=>?_)))))));exact absurd rfl c0;refine sk (tn (sq (sq ?_)));refine y6f (r:=32) (L':=[(3,_),(4,_),(5,_),(6,_)]) ((((0≠0)\/(0≠0))\/(b=(1-b)))) (.c4 rfl rfl rfl rfl) ?_ ?_;replace D:=D.ext (q3.n2 q4 q5);refine z0k rfl D z5z (cl (ev1 rfl) u0o (z4p _ _ _) rfl ?_);rintro _ w6 ⟨rfl,q6⟩;have z6:=q6.size;refine ne' rfl rfl (mv rfl (gs 21 rfl (λg0=>?_) (λg0=>?_)));exact gN rfl rfl (gN rfl rfl (gN rfl rfl (pkt rfl rfl (mv rfl (gN rfl rfl (gN rfl rfl (gN rfl rfl (gN rfl rfl (gN rfl rfl (pkt rfl rfl (z6y rfl (.c4 rfl rfl rfl rfl) q6)))))))))));refine gY rfl ?_;replace I:=I.ext (q4.n2 q5 q6);refine z0k rfl I z5z (gY rfl (cl (ev1 rfl) u0o (z4p _ _ _) rfl ?_));rintro _ w7 ⟨rfl,q7⟩;have z7:=q7.size;refine gY rfl (ne' rfl rfl (pkf rfl rfl (mv rfl (gs 26 rfl (λg1=>?_) (λg1=>?_)))));exact gN rfl rfl (gN rfl rfl (gN rfl rfl (gN rfl rfl (gN rfl rfl (pkt rfl rfl (z6y rfl (.c4 rfl rfl rfl rfl) (q6.n1 q7)))))));refine gY rfl (fad rfl z6t (gY rfl ?_));replace D:=D.ext (q6.n1 q7);refine z0g rfl D rfl x1z (gY rfl (fad rfl z6t (gY rfl ?_)));replace I:=I.ext q7;exact z0g rfl I rfl x1z (gY rfl (eq' rfl rfl (pkf rfl rfl (z6y rfl (.c4 rfl rfl rfl rfl) (q6.n1 q7)))));intro w8 q8;have z8:=q8.size;refine tn (cd rfl (λc1=>?_) (λc1=>?_));exfalso;omega;refine sk (tn (sq ?_));replace hB:=b7.ext (q1.n5 q2 q3 q4 q5 q8);intro a h;refine z0i none (λwb w'=>Fr [] wb w') z2o ?_;intro w9 q9;have z9:=q9.size;replace hB:=hB.ext q9;replace J:=J.ext (q5.n2 q8 q9);replace D:=D.ext (q3.n4 q4 q5 q8 q9);replace I:=I.ext (q4.n3 q5 q8 q9);have hC:Fr [] w9 w9:=Fr.refl _ _;have b2:=hB;have a1:=J;have a2:=D;have a3:=I;refine z0y 0 h rfl (λ_ hw=>a1.ext hw) z5s rfl λa h=>z0y 1 h rfl (λ_ hw=>a2.ext hw) z5z rfl λa h=>z0y 3 h rfl (λ_ hw=>a1.ext hw) z5s rfl λa h=>z0y 4 h rfl (λ_ hw=>a3.ext hw) z5z rfl λa h=>z0d 2 rfl ?_;refine z0n h (z0a rfl (z0a rfl z0f)) u3q (x1j q b (n:Int) _ hB (by omega) hf hb h4 b6) ?_;rintro h8 i2 ⟨M,a4⟩ a h;have j2:=a4.size;replace hB:=hB.ext a4;replace J:=J.ext a4;replace D:=D.ext a4;replace I:=I.ext a4;replace hC:=hC.next a4;rw[y7h hn]at M;obtain⟨f4,f6,rfl,e9⟩:=M.sl.form;have b4:=λk hb=>(M.blk k hb).2;refine z0b ?_;refine z0d 5 rfl ?_;refine z0n h (z0a rfl (z0a rfl z0f)) u3q (x1j q (1-b) (m:Int) _ hB (by omega) hf hb h4 b6) ?_;rintro h9 i3 ⟨U,hq⟩ a h;have j3:=hq.size;replace hB:=hB.ext hq;replace J:=J.ext hq;replace D:=D.ext hq;replace I:=I.ext hq;replace M:=M.ext hq;replace hC:=hC.next hq;have b3:=hq;rw[y7h hm]at U;obtain⟨f5,f7,rfl,f0⟩:=U.sl.form;have b5:=λk hb=>(U.blk k hb).2;refine z0b ?_;refine z0d 6 rfl ?_;refine z0r h rfl λa h=>?_;refine z0b ?_;refine z0d 7 rfl ?_;refine z0r h rfl λa h=>?_;refine z0b ?_;refine z0q ?_;clear hC b2 a1 a2 a3;refine bk (h.sub (L':=[(3,_),(4,_),(5,_),(6,_),(9,_),(10,_)]) (.c6 rfl rfl rfl rfl rfl rfl)) (tn (sq (sr (mv rfl (lnS rfl underlying37 (eq' rfl rfl (nn (cd rfl (λc2=>?_) (λc2=>?_)))))))));exfalso;omega;refine sk (tn (sq (sr (mv rfl (lnS rfl underlying37 (mv rfl (lnS rfl underlying37 (z0v rfl rfl (wi6 (by omega)) (gt' rfl rfl (kpL [(3,_),(4,_),(5,_),(6,_),(9,_),(10,_),(49,_)] (.c7 rfl rfl rfl rfl rfl rfl rfl) (nn (cd rfl (λc3=>?_) (λc3=>?_)))))))))))));refine sr (z1v (cs:=[_,_]) z0f j0p z0s rfl ?_);replace O:=O.ext (q5.n4 q8 q9 a4 b3);refine z0j (vs:=[_,_]) rfl rfl O x5e (λi4 O e6 j4=>(asg rfl (kpL [(6,_),(7,_)] (.c2 rfl rfl) (nn (rt (tr (rCT results117 rfl O z5s rfl ?_)))))));exact⟨_,rfl,⟨bdq0,by rw[if_pos (by omega)];rfl,λh=>absurd (by omega) h⟩,((((q1.n6 q2 q3 q4 q5 q8 q9).n1 a4).n1 b3).z1 e6)⟩;refine sk (tn (sr (mv rfl (cl (ev1 rfl) (mkC func59) (y9g _ (q.p.at (1-b) (m:Int)) _ U.sl (by omega)) rfl ?_))));rintro _ i5 ⟨f8,rfl,f1,hX,a5⟩;have j5:=a5.size;refine mv rfl ?_;replace M:=M.ext a5;replace U:=U.ext a5;replace J:=J.ext a5;replace D:=D.ext a5;replace I:=I.ext a5;replace O:=O.ext (q5.n5 q8 q9 a4 b3 a5);have Z:=hX;refine z2e rfl rfl hX M.sl z6j (by unfold maxLen;omega) (by omega) (λi0 e7 hX a6 e3=>?_);have j6:=a6.size;replace M:=M.fr a6 (λk hk hb=>by have:=(Z.blk k hk).1;have:=b4 k hb;omega);replace U:=U.fr a6 (λk hk hb=>by have:=(Z.blk k hk).1;have:=b5 k hb;omega);replace J:=J.fr a6 (λhk=>by have:=(Z.blk _ hk).1;omega);replace D:=D.fr a6 (λhk=>by have:=(Z.blk _ hk).1;omega);replace I:=I.fr a6 (λhk=>by have:=(Z.blk _ hk).1;omega);replace O:=O.fr a6 (λhk=>by have:=(Z.blk _ hk).1;omega);refine asg rfl (nn ?_);refine jn (ι:=Value) [(3,_),(4,_),(5,_),(6,_)] (λp=>[(11,p)]) (λp w'=>Fr [] e7 w'/\Lw.Own z1k 87 w0.heap.size w' p (y4p q.p b (n:Int) (m:Int))) (.c4 rfl rfl rfl rfl) ?_ ?_;refine sr (fad rfl z6t (z0g rfl D rfl x1z (eq' rfl rfl (nn (cd rfl (λc4=>?_) (λc4=>?_))))));refine rg (mv rfl (cl (ev1 rfl) (mkC func59) (y9g _ (q.p.at b (n:Int)) _ M.sl (by omega)) rfl ?_));rintro _ i7 ⟨f9,rfl,f2,hY,a7⟩;have j7:=a7.size;refine mv rfl ?_;replace M:=M.ext a7;replace U:=U.ext a7;replace J:=J.ext a7;replace D:=D.ext a7;replace I:=I.ext a7;replace O:=O.ext a7;have a0:=hY;refine z2e rfl rfl hY U.sl z6j (by unfold maxLen;omega) (by omega) (λi1 i8 hY a8 e4=>?_);have j8:=a8.size;replace M:=M.fr a8 (λk hk hb=>by have:=(a0.blk k hk).1;have:=b4 k hb;omega);replace U:=U.fr a8 (λk hk hb=>by have:=(a0.blk k hk).1;have:=b5 k hb;omega);replace J:=J.fr a8 (λhk=>by have:=(a0.blk _ hk).1;omega);replace D:=D.fr a8 (λhk=>by have:=(a0.blk _ hk).1;omega);replace I:=I.fr a8 (λhk=>by have:=(a0.blk _ hk).1;omega);replace O:=O.fr a8 (λhk=>by have:=(a0.blk _ hk).1;omega);refine asg rfl (kpL [(3,_),(4,_),(5,_),(6,_),(11,_)] (.c5 rfl rfl rfl rfl rfl) (nl ?_));exact jE (_) (.c5 rfl rfl rfl rfl rfl) ⟨(a7.step a8 (λk hk d3=>absurd (a0.blk k hk).1 (by omega))),(by unfold y4p;rw[if_pos (by omega)];exact hY.low (by omega))⟩;refine sk ?_;exact jE (_) (.c5 rfl rfl rfl rfl rfl) ⟨(Fr.refl _ _),(by unfold y4p;rw[if_neg (by omega)];exact hX.low (by omega))⟩;rintro vS i9 ⟨b0,hS⟩;have j9:=b0.size;refine kpC [(3,_),(4,_),(5,_),(6,_),(11,vS)] (.c5 rfl rfl rfl rfl rfl) ?_;obtain⟨AS,cS,rfl,g7⟩:=hS.sl.form;refine sq ?_;replace hB:=b7.ext ((((((q1.n6 q2 q3 q4 q5 q8 q9).n1 a4).n1 b3).n1 a5).step a6 (λk hk d3=>absurd (Z.blk k hk).1 (by omega))).next b0);intro a h;refine z0i (some 6) (λwb w'=>Fr [] wb w') z2o ?_;intro d6 a9;have k0:=a9.size;replace hB:=hB.ext a9;replace J:=J.ext (b0.n1 a9);replace D:=D.ext (b0.n1 a9);replace I:=I.ext (b0.n1 a9);replace O:=O.ext (b0.n1 a9);replace hS:=hS.ext a9;have hC:Fr [] d6 d6:=Fr.refl _ _;have b2:=hB;have a1:=J;have a2:=D;have a3:=I;have b9:=O;have d0:=hS;refine z0y 0 h rfl (λ_ hw=>a1.ext hw) z5s rfl λa h=>z0y 1 h rfl (λ_ hw=>a2.ext hw) z5z rfl λa h=>z0y 3 h rfl (λ_ hw=>a3.ext hw) z5z rfl λa h=>z0e 4 h rfl rfl λa h=>z0d 2 rfl ?_;refine z0n h (z0a rfl (z0a rfl (z0a rfl z0f))) (mkC func153) (y4y q b n _ [] _ hB (Sl.nil _) hn hf hb h4 b6 (Nat.zero_le _)) ?_;rintro _ j0 ⟨⟨qa,rfl,d9,d5⟩,q19⟩ a h;have k1:=q19.size;replace hS:=hS.ext q19;replace hC:=hC.next q19;rw[<-d5]at d4;obtain⟨⟨e1,e0⟩,d7,c9⟩:=z3n d4;refine z0b ?_;refine z0d 5 rfl ?_;refine z0n h (z0a rfl (z0a rfl (z0a rfl z0f))) (mkC func153) (y4y qa (1-b) m _ (y4p q.p b (n:Int) (m:Int)) _ d9.at hS.sl hm e1 e0 d7 c9 (by omega)) ?_;rintro _ j1 ⟨⟨qb,rfl,b8,e5⟩,q20⟩ a h;have k2:=q20.size;replace J:=J.ext (q19.n1 q20);replace D:=D.ext (q19.n1 q20);replace I:=I.ext (q19.n1 q20);replace O:=O.ext (q19.n1 q20);replace hC:=hC.next q20;refine z0b ?_;refine z0d 6 rfl ?_;refine z0t h rfl rfl O rfl x5e λe8 d1 b1 hz a h=>?_;have k3:=b1.size;replace J:=J.fr b1;replace D:=D.fr b1;replace I:=I.fr b1;replace b8:=b8.fr b1 (by intro k hk;simp at hk;omega);clear O hz;have O:Blk e8 g6 _ [_,_]:=d1;clear d1;refine z1n ?_;refine z0d 7 rfl ?_;refine z0r h rfl λa h=>?_;refine z1n ?_;refine z0q ?_;clear hC b2 a1 a2 a3 b9 d0;refine bk (h.sub (L':=[(6,_),(7,_)]) (.c2 rfl rfl)) (tn (rt (rCT results117 rfl O z5s rfl ?_)));exact⟨_,rfl,⟨qb,by rw[if_neg (by omega)],λ_=>⟨b8.low (by omega),by rw[e5,d5]⟩⟩,((((((((((q1.n6 q2 q3 q4 q5 q8 q9).n1 a4).n1 b3).n1 a5).step a6 (λk hk d3=>absurd (Z.blk k hk).1 (by omega))).next b0).next a9).next q19).next q20).sp b1)⟩
end Go.Proofs.YtpgdchkdlgkmgaaGreatDoor
namespace Go.G08
open Go.Lw Go.G21
abbrev u3n:List Value:=[.int .i64 (-1),.int .i64 1]
theorem y4h {d:Int}(h:d=0\/d=1):u3n[d.toNat*1]?=some (.int .i64 (stI d)):=by
 rcases h with rfl|rfl<;>rfl
def z9v (x y:Int):Int:=if x<y then -1 else if y<x then 1 else 0
theorem z9b {x y:Int}:z9v x y<0↔x<y:=by
 unfold z9v;split;simp[*];split<;>simp[*]
abbrev hdL (h:Hd):List Value:=[.int .u8 h.id.y,.int .i64 h.id.n,.int .u8 h.b,.int .i64 h.n,.int .i64 h.s]
def z3p:Enc Hd:=⟨hdL,5,λ_=>rfl,λ_ u h=>by simp at h;rcases h with rfl|rfl|rfl|rfl|rfl<;>rfl,by decide⟩
def x2r (l:List Hd):Prop:=l.Pairwise λa b=>a.s<=b.s
theorem x6p {h x:Hd}:∀ {l:List Hd},x∈y1w h l↔x=h\/x∈l
 | []=>by simp[y1w]
 | y::l=>by
  unfold y1w
  split
  ·simp
  simp only[List.mem_cons,x6p (l:=l)]
  constructor
  ·rintro(h|h|h)<;>simp[h]
  rintro(h|h|h)<;>simp[h]
theorem x8n (h:Hd):∀l:List Hd,(y1w h l).length=l.length+1
 | []=>rfl
 | y::l=>by
  unfold y1w;split
  ·rfl
  simp[x8n h l]
theorem y9z (h:Hd):∀l:List Hd,x2r l->x2r (y1w h l)
 | [],_=>List.pairwise_singleton ..
 | y::l,hs=>by
  obtain⟨J,M⟩:=List.pairwise_cons.1 hs
  unfold y1w
  split
  ·rename_i I
   refine List.pairwise_cons.2 ⟨λz D=>?_,hs⟩
   rcases List.mem_cons.1 D with rfl|D
   ·omega
   have:=J z D;omega
  rename_i I
  refine List.pairwise_cons.2 ⟨λz D=>?_,y9z h l M⟩
  rcases x6p.1 D with rfl|D
  ·omega
  exact J z D
theorem v4b (l:List Hd)(h:Hd):z5e (l++[h])=y1w h (z5e l):=by unfold z5e;rw[List.foldl_append];rfl
theorem x8r:∀(l a:List Hd),x2r a->x2r (l.foldl (λa h=>y1w h a) a)
 | [],a,h=>h
 | x::l,a,h=>x8r l _ (y9z x a h)
theorem z7x (l:List Hd):x2r (z5e l):=x8r l [] List.Pairwise.nil
theorem x2u:∀(l a:List Hd),(l.foldl (λa h=>y1w h a) a).length=a.length+l.length
 | [],a=>rfl
 | x::l,a=>by simp only[List.foldl_cons,x2u l,x8n,List.length_cons];omega
theorem z4d (l:List Hd):(z5e l).length=l.length:=by unfold z5e;rw[x2u];simp
theorem v6q {x:Hd}:∀ {A B:List Hd},(∀y∈A,¬x.s<y.s)->(∀y∈B,x.s<y.s)->y1w x (A++B)=A++x::B
 | [],[],_,_=>rfl
 | [],y::B,_,h=>by
  show y1w x (y::B)=x::y::B
  unfold y1w;rw[if_pos (h y (List.mem_cons_self ..))]
 | z::A,B,h1,h2=>by
  show y1w x (z::(A++B))=z::(A++x::B)
  unfold y1w
  rw[if_neg (h1 z (List.mem_cons_self ..)),v6q (λy D=>h1 y (List.mem_cons_of_mem _ D)) h2]
def y2j (P s:List Hd)(k:Nat)(x:Hd)(R:List Hd):List Hd:=P++(s.take k++(x::(s.drop k++R)))
theorem u2g {P s R:List Hd}{k:Nat}{x:Hd}:(y2j P s k x R).length=P.length+s.length+1+R.length:=by
 unfold y2j;have h:(s.take k).length+(s.drop k).length=s.length:=by rw[<-List.length_append,List.take_append_drop]
 simp only[List.length_append,List.length_cons];omega
theorem j3d {P s R:List Hd}{k:Nat}{x d:Hd}(D:k<=s.length):(y2j P s k x R).getD (P.length+k) d=x:=by
 unfold y2j;rw[List.getD,List.getElem?_append_right (by omega),show P.length+k-P.length=(s.take k).length+0 by rw[List.length_take];omega,List.getElem?_append_right (by omega)];simp
theorem u4b {P s R:List Hd}{k:Nat}{x d:Hd}(D:k+1<=s.length):(y2j P s (k+1) x R).getD (P.length+k) d=s.getD k d:=by
 unfold y2j;rw[List.getD,List.getD,List.getElem?_append_right (by omega),show P.length+k-P.length=k by omega,List.getElem?_append_left (by rw[List.length_take];omega),List.getElem?_take,if_pos (by omega)]
theorem x3d {P s R:List Hd}{k:Nat}{x d:Hd}(J:k+1<=s.length):((y2j P s (k+1) x R).set (P.length+k+1) (s.getD k d)).set (P.length+k) x=y2j P s k x R:=by
 have D:y2j P s (k+1) x R=(P++s.take k)++(s.getD k d::x::(s.drop (k+1)++R)):=by
  unfold y2j;have e:s.take (k+1)=s.take k++[s.getD k d]:=by rw[List.take_add_one,List.getD,List.getElem?_eq_getElem (by omega)];rfl
  rw[e];simp only[List.append_assoc,List.cons_append,List.nil_append]
 have I:y2j P s k x R=(P++s.take k)++(x::s.getD k d::(s.drop (k+1)++R)):=by
  unfold y2j;have e:s.drop k=s.getD k d::s.drop (k+1):=by rw[List.drop_eq_getElem_cons (show k<s.length by omega),List.getD,List.getElem?_eq_getElem (by omega)];rfl
  rw[e];simp only[List.append_assoc,List.cons_append]
 have hl:(P++s.take k).length=P.length+k:=by rw[List.length_append,List.length_take];omega
 rw[D,I,List.set_append_right _ _ (by omega),show P.length+k+1-(P++s.take k).length=1 by omega,List.set_append_right _ _ (by omega),show P.length+k-(P++s.take k).length=0 by omega];rfl
theorem x3u {P s R:List Hd}{k:Nat}{x:Hd}(M:x2r s)(O:k<=s.length)(h1:k=0\/¬x.s<(s.getD (k-1) hd0).s)(J:∀j,k<=j->j<s.length->x.s<(s.getD j hd0).s):y2j P s k x R=P++(y1w x s++R):=by
 have e:y1w x s=s.take k++x::s.drop k:=by
  conv=>lhs;rw[<-List.take_append_drop k s]
  refine v6q (λy I=>?_) (λy I=>?_)
  ·obtain⟨j,D,rfl⟩:=List.getElem_of_mem I
   rw[List.length_take]at D
   rw[List.getElem_take]
   rcases h1 with rfl|h1
   ·omega
   rw[List.getD,List.getElem?_eq_getElem (by omega)]at h1
   simp only[Option.getD_some]at h1
   by_cases e:j=k-1
   ·subst e;exact h1
   have:=List.pairwise_iff_getElem.1 M j (k-1) (by omega) (by omega) (by omega)
   omega
  obtain⟨j,D,rfl⟩:=List.getElem_of_mem I
  rw[List.length_drop]at D
  rw[List.getElem_drop]
  have:=J (k+j) (by omega) (by omega)
  rwa [List.getD,List.getElem?_eq_getElem (by omega)]at this
 unfold y2j
 rw[e];simp
theorem v0l {P s R:List Hd}{x:Hd}:y2j P s s.length x R=P++(s++x::R):=by
 unfold y2j;rw[List.take_length,List.drop_length];rfl
def z7u (l:List Hd)(lo up i:Nat):List Hd:=l.take lo++(z5e ((l.take (min i up)).drop lo)++l.drop (min i up))
theorem z6e {l:List Hd}{D i:Nat}(h:D<=i)(I:i<=l.length):(z5e ((l.take i).drop D)).length=i-D:=by
 rw[z4d,List.length_drop,List.length_take];omega
theorem j1t {l:List Hd}{D I:Nat}(h:D<=I)(U:I<=l.length):z7u l D I (D+1)=l:=by
 unfold z7u;by_cases e:D<I;rw[show min (D+1) I=D+1 by omega];have J:(l.take (D+1)).drop D=[l.getD D hd0]:=by
  rw[List.take_add_one,List.drop_append,List.drop_eq_nil_of_le (by rw[List.length_take];omega),List.length_take,show D-min D l.length=0 by omega,List.getD,List.getElem?_eq_getElem (by omega)];rfl
 rw[J];have M:z5e [l.getD D hd0]=[l.getD D hd0]:=rfl;rw[M,<-List.append_assoc];have O:l.take D++[l.getD D hd0]=l.take (D+1):=by rw[List.take_add_one,List.getD,List.getElem?_eq_getElem (by omega)];rfl
 rw[O,List.take_append_drop];rw[show min (D+1) I=D by omega];have J:(l.take D).drop D=[]:=List.drop_eq_nil_of_le (by rw[List.length_take];omega);rw[J];exact List.take_append_drop D l
theorem u4t {l:List Hd}{D I i:Nat}(h:D<=i)(J:i<I)(M:I<=l.length):z7u l D I i=y2j (l.take D) (z5e ((l.take i).drop D)) (i-D) (l.getD i hd0) (l.drop (i+1)):=by
 have hl:=z6e (l:=l) h (by omega);rw[<-hl,v0l];unfold z7u;rw[show min i I=i by omega];congr 2;rw[List.drop_eq_getElem_cons (show i<l.length by omega),List.getD,List.getElem?_eq_getElem (by omega)];rfl
theorem x1y {l:List Hd}{D I i:Nat}(h:D<=i)(M:i<I)(O:I<=l.length):l.take D++(y1w (l.getD i hd0) (z5e ((l.take i).drop D))++l.drop (i+1))=z7u l D I (i+1):=by
 unfold z7u;rw[show min (i+1) I=i+1 by omega];have J:(l.take (i+1)).drop D=(l.take i).drop D++[l.getD i hd0]:=by
  rw[List.take_add_one,List.drop_append,List.length_take,show D-min i l.length=0 by omega,List.getD,List.getElem?_eq_getElem (by omega)];rfl
 rw[J,v4b]
theorem u2u {l:List Hd}{I D i:Nat}(h:D<=i):z7u l I D i=z7u l I D D:=by
 unfold z7u;rw[show min i D=min D D by omega]
theorem y8s (b r:Int)(l:Bed)(i:Nat):hds b r l (i+1)=hds b r l i++(l.getD i []).map (hdS b r i):=by
 unfold hds;rw[List.range_succ,List.flatMap_append];simp
theorem x5m (b r:Int)(l:List IQ)(h:z9j l)(i:Nat):(hds b r (plB l) i).length<=4*i:=by
 induction i with
 | zero=>simp[hds]
 | succ i ih=>
  rw[y8s,List.length_append,List.length_map,z3m];have:=z3g h i;omega
theorem y3t {α β:Type}(f:α->β){l:List α}{j:Nat}(d:α)(h:j<l.length):(l.take (j+1)).map f=(l.take j).map f++[f (l.getD j d)]:=by
 rw[z5j d h,List.map_append];rfl
theorem v4d (b r:Int)(l:Bed):(hds b r l l.length).length=l.flatten.length:=by
 induction l with
 | nil=>rfl
 | cons s l ih=>
  unfold hds at *
  rw[List.length_cons,List.range_succ_eq_map,List.flatMap_cons,List.length_append,List.flatMap_map,List.flatten_cons,List.length_append,<-ih];simp[List.length_flatMap,Function.comp_def]
theorem y3r (B:Bd)(r:Int):(v7k B r).length=B.flat.length:=by
 unfold v7k Bd.flat;rw[List.length_append,List.length_append,v4d,v4d]
def IsB (v:Value):Prop:=∃g n c,v=Value.slice (some ⟨g,0,none⟩) n c
theorem u9c {α:Type}{E:Enc α}{T base:Nat}{w:World}{v:Value}{ys:List α}(h:Lw.Own E T base w v ys)(D:ys≠[]):IsB v:=by
 rcases h with ⟨rfl,rfl⟩|⟨g,cap,cur,rfl,_⟩
 exact absurd rfl D;exact⟨_,_,_,rfl⟩
theorem v8z {α:Type}{E:Enc α}{T base:Nat}{w:World}{v:Value}{ys:List α}(h:IsB v)(D:Lw.Own E T base w v ys):∃g c,v=.slice (some ⟨g,0,none⟩) ys.length c:=by
 obtain⟨g,n,c,rfl⟩:=h;obtain⟨A,I,e,_⟩:=D.sl.form;cases e;exact⟨_,_,rfl⟩
def j0f {α:Type}(d:α)(ys zs:List α)(k:Nat):Prop:=zs.length=ys.length/\∀p,p<ys.length->zs.getD p d=if p<k\/ys.length-1-p<k then ys.getD (ys.length-1-p) d else ys.getD p d
theorem z7j {α:Type}{d:α}{ys zs:List α}{k:Nat}(I:k<ys.length-1-k)(h:j0f d ys zs k):j0f d ys ((zs.set k (zs.getD (ys.length-1-k) d)).set (ys.length-1-k) (zs.getD k d)) (k+1):=by
 obtain⟨hl,h⟩:=h;refine⟨by rw[List.length_set,List.length_set];exact hl,λp D=>?_⟩;rw[z1j (by rw[List.length_set];omega),z1j (by omega),h k (by omega),h (ys.length-1-k) (by omega),h p D];rw[if_neg (show ¬(k<k\/ys.length-1-k<k) by omega),if_neg (show ¬(ys.length-1-k<k\/ys.length-1-(ys.length-1-k)<k) by omega)];by_cases e1:ys.length-1-k=p;subst e1;rw[if_pos rfl,if_pos (by omega)];congr 1;omega;rw[if_neg e1];by_cases e2:k=p;subst e2;rw[if_pos rfl,if_pos (by omega)];rw[if_neg e2];by_cases e3:p<k\/ys.length-1-p<k;rw[if_pos e3,if_pos (by omega)];rw[if_neg e3,if_neg (by omega)]
theorem y9l {α:Type}{d:α}{ys zs:List α}{k:Nat}(M:¬(k:Int)<(ys.length:Int)-1-k)(h:j0f d ys zs k):zs=ys.reverse:=by
 obtain⟨hl,h⟩:=h;refine List.ext_getElem (by simpa using hl) λp D J=>?_;have I:p<ys.length:=by rw[<-hl];exact D
 have:=h p I;rw[List.getElem_reverse];rw[List.getD,List.getElem?_eq_getElem D,Option.getD_some]at this;rw[this];split;rw[List.getD,List.getElem?_eq_getElem (by omega)];rfl;have e:p=ys.length-1-p:=by omega
 rw[List.getD,List.getElem?_eq_getElem I,Option.getD_some];congr 1
theorem v2e {α:Type}(d:α)(ys:List α):j0f d ys ys 0:=⟨rfl,λp D=>by rw[if_neg (by omega)]⟩
end Go.G08
namespace Go.Proofs.YtpgdchkdlgkmgaaGreatDoor
open Go.Lw Go.G21 Go.G08 _root_.Go.Proofs.Tryz
theorem y8m:z0z prog 183 2 4:=λ_ _=>by kernel_rfl
structure StT (w:World):Prop where
  c:Cells w ⟨0,0,none⟩ u3n
theorem StT.ext {w w':World}(h:StT w)(hf:Fr [] w w'):StT w':=⟨h.c.fr hf (by simp)⟩
theorem v6z (x:Int)(w0:World):Rets prog 165 #[.int .i64 x] w0 λr w'=>r=.bool false/\Fr [] w0 w':=by
 refine we [(0,.int .i64 x)] func165 rfl ntmps165 rfl (.cons rfl .nil) (sr (asg rfl (nn (sr (mv rfl (mv rfl (ne' rfl rfl (asg rfl (nn (rt (r1 results165 rfl ?_)))))))))));exact⟨_,rfl,congrArg Value.bool (decide_eq_false (λh=>h rfl)),(Fr.refl _ _)⟩
theorem v6f (x y:Int)(w0:World):Rets prog 123 #[.int .i64 x,.int .i64 y] w0 λr w'=>r=.int .i64 (z9v x y)/\Fr [] w0 w':=by
 refine we [(0,.int .i64 x),(1,.int .i64 y)] func123 rfl ntmps123 rfl (.c2 rfl rfl) (sr (asg rfl (nn (sr (mv rfl (cl (ev1 rfl) (mkC func165) (v6z _ _) rfl ?_))))));rintro _ w1 ⟨rfl,D⟩;refine asg rfl (nn (sr (mv rfl (cl (ev1 rfl) (mkC func165) (v6z _ _) rfl ?_))));rintro _ w2 ⟨rfl,I⟩;refine asg rfl (nn (sq (sr (mv rfl (nn (cf rfl (sk (tn (sq (sr (mv rfl (nn (cf rfl (sk (tn (sq (sr (mv rfl (mv rfl (lt' rfl rfl (nn (cd rfl (λc3=>?_) (λc3=>?_)))))))))))))))))))))));refine sr (asg rfl (nn (rt (tr (r1 results123 rfl ?_)))));exact⟨_,rfl,by first|(rw[z9v,if_pos c3])|(unfold z9v;(repeat' split)<;>first|rfl|omega),(D.n1 I)⟩;refine sk (tn (sq (sr (mv rfl (mv rfl (gt' rfl rfl (nn (cd rfl (λc4=>?_) (λc4=>?_)))))))));refine sr (asg rfl (nn (rt (tr (r1 results123 rfl ?_)))));exact⟨_,rfl,by first|(rw[z9v,if_neg c3,if_pos c4])|(unfold z9v;(repeat' split)<;>first|rfl|omega),(D.n1 I)⟩;refine sk (tn (sr (asg rfl (nn (rt (r1 results123 rfl ?_))))));exact⟨_,rfl,by first|(rw[z9v,if_neg c3,if_neg c4])|(unfold z9v;(repeat' split)<;>first|rfl|omega),(D.n1 I)⟩
theorem u3j (x:Int)(w0:World):Rets prog 164 #[.int .u8 x] w0 λr w'=>r=.bool false/\Fr [] w0 w':=by
 refine we [(0,.int .u8 x)] func164 rfl ntmps164 rfl (.cons rfl .nil) (sr (asg rfl (nn (sr (mv rfl (mv rfl (ne' rfl rfl (asg rfl (nn (rt (r1 results164 rfl ?_)))))))))));exact⟨_,rfl,congrArg Value.bool (decide_eq_false (λh=>h rfl)),(Fr.refl _ _)⟩
theorem j4t (x y:Int)(w0:World):Rets prog 122 #[.int .u8 x,.int .u8 y] w0 λr w'=>r=.int .i64 (z9v x y)/\Fr [] w0 w':=by
 refine we [(0,.int .u8 x),(1,.int .u8 y)] func122 rfl ntmps122 rfl (.c2 rfl rfl) (sr (asg rfl (nn (sr (mv rfl (cl (ev1 rfl) (mkC func164) (u3j _ _) rfl ?_))))));rintro _ w1 ⟨rfl,D⟩;refine asg rfl (nn (sr (mv rfl (cl (ev1 rfl) (mkC func164) (u3j _ _) rfl ?_))));rintro _ w2 ⟨rfl,I⟩;refine asg rfl (nn (sq (sr (mv rfl (nn (cf rfl (sk (tn (sq (sr (mv rfl (nn (cf rfl (sk (tn (sq (sr (mv rfl (mv rfl (lt' rfl rfl (nn (cd rfl (λc3=>?_) (λc3=>?_)))))))))))))))))))))));refine sr (asg rfl (nn (rt (tr (r1 results122 rfl ?_)))));exact⟨_,rfl,by first|(rw[z9v,if_pos c3])|(unfold z9v;(repeat' split)<;>first|rfl|omega),(D.n1 I)⟩;refine sk (tn (sq (sr (mv rfl (mv rfl (gt' rfl rfl (nn (cd rfl (λc4=>?_) (λc4=>?_)))))))));refine sr (asg rfl (nn (rt (tr (r1 results122 rfl ?_)))));exact⟨_,rfl,by first|(rw[z9v,if_neg c3,if_pos c4])|(unfold z9v;(repeat' split)<;>first|rfl|omega),(D.n1 I)⟩;refine sk (tn (sr (asg rfl (nn (rt (r1 results122 rfl ?_))))));exact⟨_,rfl,by first|(rw[z9v,if_neg c3,if_neg c4])|(unfold z9v;(repeat' split)<;>first|rfl|omega),(D.n1 I)⟩
theorem x0o (x y:Hd)(w0:World):Rets prog 143 #[.agg #[.int .u8 x.id.y,.int .i64 x.id.n,.int .u8 x.b,.int .i64 x.n,.int .i64 x.s],.agg #[.int .u8 y.id.y,.int .i64 y.id.n,.int .u8 y.b,.int .i64 y.n,.int .i64 y.s]] w0 λr w'=>r=.int .i64 (z9v x.s y.s)/\Fr [] w0 w':=by
 refine we [(0,.agg #[.int .u8 x.id.y,.int .i64 x.id.n,.int .u8 x.b,.int .i64 x.n,.int .i64 x.s]),(1,.agg #[.int .u8 y.id.y,.int .i64 y.id.n,.int .u8 y.b,.int .i64 y.n,.int .i64 y.s])] func143 rfl ntmps143 rfl (.c2 rfl rfl) (sr (bx rfl rfl rfl (λg2 w1 M D U z1=>(bx rfl rfl rfl (λg3 w2 O I J z2=>(asg rfl (nn (sr (fad rfl y8m ?_)))))))));replace D:=D.ext J;refine z0g rfl D rfl na3 (fad rfl y8m (z0g rfl I rfl na3 (cl (ev2 rfl rfl) (mkC func123) (v6f _ _ _) rfl ?_)));rintro _ w3 ⟨rfl,Z⟩;refine asg rfl (kpL [(4,_)] (.cons rfl .nil) (nn (rt (r1 results143 rfl ?_))));exact⟨_,rfl,rfl,(U.n2 J Z)⟩
theorem y7n (r:Int)(w0:World):Rets prog 193 #[.int .i64 r] w0 λv w'=>v=.bool (decide (-4<=r/\r<=4))/\Fr [] w0 w':=by
 refine we [(0,.int .i64 r)] func193 rfl ntmps193 rfl (.cons rfl .nil) (sr (asg rfl (nn (sq ?_))));refine rbo (r:=2) (L':=[]) (((-4<=r)/\(r<=4))) .nil ?_ ?_;refine mv rfl (ge' rfl rfl (mv rfl (gs 5 rfl (λD=>?_) (λD=>?_))));exact gY rfl (mv rfl (gY rfl (le' rfl rfl rfl (pkt rfl rfl (asg rfl (rbe rfl .nil))))));exact gN rfl rfl (gN rfl rfl (pkf rfl rfl (asg rfl (rbe rfl .nil))));refine tn (rt (r1 results193 rfl ?_));exact⟨_,rfl,rfl,(Fr.refl _ _)⟩
theorem x3i (q:BdQ)(r:Int)(w0:World)(D:BdAt w0 q)(hv:BdOk q.p)(hr:-4<=r/\r<=4):Rets prog 140 #[.agg #[.slice q.f.1 q.f.2.1 q.f.2.2,.slice q.b.1 q.b.2.1 q.b.2.2],.int .i64 r] w0 λv w'=>v=.int .i64 0/\Fr [] w0 w':=by
 refine we [(0,.agg #[.slice q.f.1 q.f.2.1 q.f.2.2,.slice q.b.1 q.b.2.1 q.b.2.2]),(1,.int .i64 r)] func140 rfl ntmps140 rfl (.c2 rfl rfl) ?_;have I:=D;refine sr (bx rfl rfl rfl (λg2 w1 Z J U z1=>(asg rfl (nn (sq (sr (z0k rfl J z5s ?_)))))));replace D:=I.ext U;refine cl (ev1 rfl) (mkC func43) (y8n q _ D hv) rfl ?_;rintro _ w2 ⟨rfl,q2⟩;refine asg rfl (nn (sr (mv rfl (ne' rfl rfl (nn (cd rfl (λM=>?_) (λM=>?_)))))));exact absurd rfl M;refine sk (tn (sq (sr (mv rfl (cl (ev1 rfl) (mkC func193) (y7n _ _) rfl ?_)))));rintro _ w3 ⟨rfl,q3⟩;refine nt' rfl (nn (cd rfl (λO=>?_) (λO=>?_)));exact absurd hr O;refine sk (tn (sr (asg rfl (nn (rt (r1 results140 rfl ?_))))));exact⟨_,rfl,rfl,(U.n2 q2 q3)⟩
theorem x2w (q:BdQ)(r d:Int)(w0:World)(D:BdAt w0 q)(hv:BdOk q.p)(J:StT w0)(hr:-4<=r/\r<=4)(hd:d=0\/d=1)(U:-4<=r+stI d/\r+stI d<=4):Rets prog 195 #[.agg #[.slice q.f.1 q.f.2.1 q.f.2.2,.slice q.b.1 q.b.2.1 q.b.2.2],.int .i64 r,.int .u8 d] w0 λv w'=>v=.int .i64 0/\Fr [] w0 w':=by
 refine we [(0,.agg #[.slice q.f.1 q.f.2.1 q.f.2.2,.slice q.b.1 q.b.2.1 q.b.2.2]),(1,.int .i64 r),(2,.int .u8 d)] func195 rfl ntmps195 rfl (.c3 rfl rfl rfl) ?_;have I:=D;have M:=J;refine sr (bx rfl rfl rfl (λg3 w1 a0 O Z z1=>(asg rfl (nn (sq (sr (z0k rfl O z5s (mv rfl ?_))))))));replace D:=I.ext Z;refine cl (ev2 rfl rfl) (mkC func140) (x3i q _ _ D hv (by omega)) rfl ?_;rintro _ w2 ⟨rfl,q2⟩;refine asg rfl (nn (sr (mv rfl (ne' rfl rfl (nn (cd rfl (λc0=>?_) (λc0=>?_)))))));exact absurd rfl c0;refine sk (tn (sq (sq ?_)));refine rbo (r:=19) (L':=[(1,_),(2,_)]) (((d≠0)/\(d≠1))) (.c2 rfl rfl) ?_ ?_;refine mv rfl (ne' rfl rfl (mv rfl (gs 16 rfl (λg0=>?_) (λg0=>?_))));exact gY rfl (mv rfl (gY rfl (ne' rfl rfl (pkt rfl rfl (rbe rfl (.c2 rfl rfl))))));exact gN rfl rfl (gN rfl rfl (pkf rfl rfl (rbe rfl (.c2 rfl rfl))));refine tn (cd rfl (λc1=>?_) (λc1=>?_));exfalso;omega;refine sk (tn (sq (sr (mv rfl (mv rfl (y2u rfl rfl underlying290 sz3 ?_))))));replace J:=M.ext (Z.n1 q2);refine z8b rfl J.c (y4h hd) na3 (z0v rfl rfl (wi6 (by omega)) (cl (ev1 rfl) (mkC func193) (y7n _ _) rfl ?_));rintro _ w3 ⟨rfl,q3⟩;refine nt' rfl (kpL [(26,_)] (.cons rfl .nil) (nn (cd rfl (λc2=>?_) (λc2=>?_))));exact absurd U c2;refine sk (tn (sr (asg rfl (nn (rt (r1 results195 rfl ?_))))));exact⟨_,rfl,rfl,(Z.n2 q2 q3)⟩
theorem z5g:z3u prog 183 5:=⟨λ_=>by kernel_rfl,λ_=>by kernel_rfl⟩
theorem z3f:ElemOf prog 179 183 z3p 40:=ElemOf.mk' (z:=(.agg #[.int .u8 0,.int .i64 0,.int .u8 0,.int .i64 0,.int .i64 0])) underlying179 (by kernel_rfl) rfl
theorem z8i:z1p prog 183 5:=λ_=>by kernel_rfl
set_option maxHeartbeats 2000000 in
theorem u3l (g c base I Z:Nat)(l:List Hd)(w0:World)(J:Lw.Own z3p 183 base w0 (.slice (some ⟨g,0,none⟩) l.length c) l)(hl:l.length<=1000000)(U:I<=Z/\Z<=l.length):Rets prog 231 #[.slice (some ⟨g,0,none⟩) l.length c,.int .i64 (I:Int),.int .i64 (Z:Int),.func (.func 143) #[] #[]] w0 λr w'=>r=.tuple #[]/\Lw.Own z3p 183 base w' (.slice (some ⟨g,0,none⟩) l.length c) (z7u l I Z Z)/\Fr [g] w0 w':=by
 refine we [(0,.slice (some ⟨g,0,none⟩) l.length c),(1,.int .i64 (I:Int)),(2,.int .i64 (Z:Int)),(3,.func (.func 143) #[] #[])] func231 rfl ntmps231 rfl (.c4 rfl rfl rfl rfl) (sr (mv rfl (z0v rfl rfl (wi6 (by omega)) (asg rfl (nn (bl ?_))))));refine lpK (ι:=Nat) [(0,_),(1,_),(2,_),(3,_)] (λi=>[(8,.int .i64 (i:Int))]) (λi w'=>Fr [g] w0 w'/\(I+1<=i/\(i<=Z\/i=I+1))/\Lw.Own z3p 183 base w' (.slice (some ⟨g,0,none⟩) l.length c) (z7u l I Z i)) (λi=>Z-i) (I+1) (.c5 rfl rfl rfl rfl (congrArg (λz=>some (Value.int .i64 z)) (show (I:Int)+1=((I+1:Nat):Int) by omega))) ⟨Fr.refl _ _,⟨⟨Nat.le_refl _,.inr rfl⟩,by rw[j1t U.1 U.2];exact J⟩⟩ ?_;rintro i w1 ⟨q1,⟨hi,J⟩⟩;refine kpC [(0,_),(1,_),(2,_),(3,_),(8,_)] (.c5 rfl rfl rfl rfl rfl) (sq (sr (mv rfl (mv rfl (lt' rfl rfl (nn (cd rfl (λc0=>?_) (λc0=>?_))))))));have b0:i<Z:=by omega
 obtain⟨s,hs⟩:∃s,s=z5e ((l.take i).drop I):=⟨_,rfl⟩;obtain⟨x,hx⟩:∃x,x=l.getD i hd0:=⟨_,rfl⟩;have b1:s.length=i-I:=by rw[hs];exact z6e (by omega) (by omega)
 have a9:x2r s:=by rw[hs];exact z7x _
 rw[u4t (by omega) b0 U.2,<-hs,<-hx,<-b1]at J;refine sk (tn (sq (bl (sr (mv rfl (asg rfl (nn (bl ?_))))))));refine lpK (ι:=Nat) [(0,_),(1,_),(2,_),(3,_),(8,_)] (λk=>[(9,.int .i64 ((I+k:Nat):Int))]) (λk w'=>Fr [g] w1 w'/\k<=s.length/\Lw.Own z3p 183 base w' (.slice (some ⟨g,0,none⟩) l.length c) (y2j (l.take I) s k x (l.drop (i+1)))/\∀j,k<=j->j<s.length->x.s<(s.getD j hd0).s) (λk=>k) s.length (.c6 rfl rfl rfl rfl rfl (congrArg (λz=>some (Value.int .i64 z)) (show (i:Int)=((I+s.length:Nat):Int) by omega))) ⟨Fr.refl _ _,⟨Nat.le_refl _,J,λj h1 h2=>by omega⟩⟩ ?_;rintro k w2 ⟨q2,⟨hk,J,a1⟩⟩;refine kpC [(0,_),(1,_),(2,_),(3,_),(8,_),(9,_)] (.c6 rfl rfl rfl rfl rfl rfl) ?_;have b6:(y2j (l.take I) s k x (l.drop (i+1))).length=l.length:=by rw[u2g,List.length_take,List.length_drop];omega
 have a0:(y2j (l.take I) s k x (l.drop (i+1))).getD (I+k) hd0=x:=by have:=j3d (P:=l.take I) (R:=l.drop (i+1)) (x:=x) (d:=hd0) hk;rwa [List.length_take,show min I l.length=I by omega]at this
 refine sq (sq ?_);intro a h;refine z0i none (λwb w'=>Fr [] wb w') z2o ?_;intro w3 q3;replace J:=J.ext q3;have hC:Fr [] w3 w3:=Fr.refl _ _;have O:=J;refine z0e 0 h rfl rfl λa h=>z0e 1 h rfl rfl λa h=>v4k 2 hC h wn rfl rfl rfl rfl λa h=>z0e 3 h rfl rfl λa h=>?_;refine gSp (D:=21) h rfl ?_ ?_;clear h;intro g0 h;refine z0e 4 h rfl rfl ?_ (hG:=(wy rfl));clear h a;intro a h;refine z0e 5 h rfl rfl ?_ (hG:=(wy rfl));clear h a;intro a h;refine z0e 6 h rfl rfl ?_ (hG:=(wy rfl));clear h a;intro a h;refine z1h (p:=I+k) (hd0) 7 h rfl J.sl rfl z3f rfl ?_ (hG:=(wy rfl));clear h a;intro b2 a5 a h;refine z1y 8 h (wy rfl) rfl (λ_ hw=>a5 _ (O.sl.ext hw)) z5g rfl λa h=>z0e 9 h rfl rfl ?_ (hG:=(wy rfl));clear h a;intro a h;refine z0e 10 h rfl rfl ?_ (hG:=(wy rfl));clear h a;intro a h;refine z3b 11 h (wy rfl) rfl rfl (by first|exact i6 (by omega)|rfl) rfl λa h=>z1h (p:=I+k-1) (hd0) 12 h rfl J.sl rfl z3f rfl ?_ (hG:=(wy rfl));clear h a;intro b3 a6 a h;refine z1y 13 h (wy rfl) rfl (λ_ hw=>a6 _ (O.sl.ext hw)) z5g rfl λa h=>z0d 14 rfl ?_;refine y5y h rfl rfl rfl rfl rfl rfl ?_;refine z9q (us:=[]) (ws:=[]) h rfl (z0a rfl (z0a rfl z0f)) (mkC func143) (x0o ((y2j (l.take I) s k x (l.drop (i+1))).getD (I+k) hd0) ((y2j (l.take I) s k x (l.drop (i+1))).getD (I+k-1) hd0) _) rfl (by intro g e;cases e) ?_;rintro _ w4 ⟨rfl,q4⟩ a h;replace J:=J.ext q4;replace hC:=hC.next q4;refine z0b ?_;refine v0f 15 hC h (wy rfl) rfl rfl rfl rfl λa h=>z0d 16 rfl ?_;refine z5k h rfl rfl rfl rfl λa h=>?_;refine z0b ?_;refine z0q ?_;clear hC O;refine bk (h.sub (L':=[(0,_),(1,_),(2,_),(3,_),(8,_),(9,_),(34,_)]) (.c7 rfl rfl rfl rfl rfl rfl rfl)) (tn (cd rfl (λc1=>?_) (λc1=>?_)));have b7:0<k:=by omega
 have a4:(y2j (l.take I) s k x (l.drop (i+1))).getD (I+k-1) hd0=s.getD (k-1) hd0:=by have:=u4b (P:=l.take I) (s:=s) (R:=l.drop (i+1)) (x:=x) (d:=hd0) (k:=k-1) (by omega);rwa [List.length_take,show min I l.length=I by omega,show k-1+1=k by omega,show I+(k-1)=I+k-1 by omega]at this
 have a7:x.s<(s.getD (k-1) hd0).s:=by rw[a0,a4]at c1;exact z9b.1 c1
 refine sk (tn (sq (bl ?_)));intro a h;refine z0i (some 17) (λwb w'=>Fr [g] wb w') z2o ?_;intro w5 q5;replace J:=J.ext q5;have hC:Fr [g] w5 w5:=Fr.refl _ _;have O:=J;refine z0e 0 h rfl rfl λa h=>z0e 1 h rfl rfl λa h=>z0e 2 h rfl rfl λa h=>z0e 3 h rfl rfl λa h=>z3b 4 h wn rfl rfl (by first|exact i6 (by omega)|rfl) rfl λa h=>z0e 5 h rfl rfl λa h=>z0e 6 h rfl rfl λa h=>z3b 7 h wn rfl rfl (by first|exact i6 (by omega)|rfl) rfl λa h=>z1h (p:=I+k-1) (hd0) 8 h rfl J.sl rfl z3f rfl λb4 a2 a h=>z0e 10 h rfl rfl λa h=>z0e 11 h rfl rfl λa h=>?_;refine z1h (p:=I+k) (hd0) 12 h rfl J.sl rfl z3f rfl λb5 a3 a h=>z2d 9 13 (by kernel_rfl) rfl rfl ?_ ?_;refine z1q h rfl (a2 _ J.sl) z5g rfl λa h=>?_;refine z0b ?_;refine z0d 13 rfl ?_;refine z1q h rfl (a3 _ J.sl) z5g rfl λa h=>?_;refine z0b ?_;refine z1o 14 (by kernel_rfl) (by kernel_rfl) (by kernel_rfl) hC (p:=I+k) h wn rfl rfl z3f (by omega) (by omega) (by omega) rfl rfl λa h=>z0d 15 rfl ?_;refine z1b (i:=I+k) ((y2j (l.take I) s k x (l.drop (i+1))).getD (I+k-1) hd0) h rfl rfl J (by omega) rfl z8i λw6 M q6 _hz a h=>?_;replace hC:=hC.sp q6;clear _hz J;have J:=M;clear M;refine z0b ?_;refine z1o 16 (by kernel_rfl) (by kernel_rfl) (by kernel_rfl) hC (p:=I+k-1) h wn rfl rfl z3f (by omega) (by omega) (by omega) rfl rfl λa h=>z0d 17 rfl ?_;refine z1b (i:=I+k-1) ((y2j (l.take I) s k x (l.drop (i+1))).getD (I+k) hd0) h rfl rfl J (by rw[List.length_set];omega) rfl z8i λw7 M q7 _hz a h=>?_;clear _hz J;have J:=M;clear M;refine z1n ?_;refine z0q ?_;clear hC O;refine bk (h.sub (L':=[(0,_),(1,_),(2,_),(3,_),(8,_),(9,_)]) (.c6 rfl rfl rfl rfl rfl rfl)) (bn' (tn (rg (mv rfl (z2u rfl rfl (wi6 (by omega)) (asg rfl (nl ?_)))))));exact lpE (k-1) (.c6 rfl rfl rfl rfl rfl (congrArg (λz=>some (Value.int .i64 z)) (show ((I+k:Nat):Int)-1=((I+(k-1):Nat):Int) by omega))) ⟨((Fr.refl [g] _).z6 q2 q3 q4 q5 q6 q7),⟨by omega,by rw[a0,a4]at J;have e:=x3d (P:=l.take I) (s:=s) (R:=l.drop (i+1)) (x:=x) (d:=hd0) (k:=k-1) (by omega);rw[List.length_take,show min I l.length=I by omega,show k-1+1=k by omega,show I+(k-1)+1=I+k by omega]at e;rw[<-e,show I+(k-1)=I+k-1 by omega];exact J,λj h1 h2=>by
  by_cases e:k<=j;exact a1 j e h2;obtain rfl:j=k-1:=by omega
  exact a7⟩⟩ (by omega)
 refine z1q h rfl (a3 _ J.sl) z5g rfl λa h=>?_;refine z0b ?_;refine z0d 9 rfl ?_;refine z1q h rfl (a2 _ J.sl) z5g rfl λa h=>?_;refine z0b ?_;refine z1o 14 (by kernel_rfl) (by kernel_rfl) (by kernel_rfl) hC (p:=I+k) h wn rfl rfl z3f (by omega) (by omega) (by omega) rfl rfl λa h=>z0d 15 rfl ?_;refine z1b (i:=I+k) ((y2j (l.take I) s k x (l.drop (i+1))).getD (I+k-1) hd0) h rfl rfl J (by omega) rfl z8i λw8 M q8 _hz a h=>?_;replace hC:=hC.sp q8;clear _hz J;have J:=M;clear M;refine z0b ?_;refine z1o 16 (by kernel_rfl) (by kernel_rfl) (by kernel_rfl) hC (p:=I+k-1) h wn rfl rfl z3f (by omega) (by omega) (by omega) rfl rfl λa h=>z0d 17 rfl ?_;refine z1b (i:=I+k-1) ((y2j (l.take I) s k x (l.drop (i+1))).getD (I+k) hd0) h rfl rfl J (by rw[List.length_set];omega) rfl z8i λw9 M q9 _hz a h=>?_;clear _hz J;have J:=M;clear M;refine z1n ?_;refine z0q ?_;clear hC O;refine bk (h.sub (L':=[(0,_),(1,_),(2,_),(3,_),(8,_),(9,_)]) (.c6 rfl rfl rfl rfl rfl rfl)) (bn' (tn (rg (mv rfl (z2u rfl rfl (wi6 (by omega)) (asg rfl (nl ?_)))))));exact lpE (k-1) (.c6 rfl rfl rfl rfl rfl (congrArg (λz=>some (Value.int .i64 z)) (show ((I+k:Nat):Int)-1=((I+(k-1):Nat):Int) by omega))) ⟨((Fr.refl [g] _).z6 q2 q3 q4 q5 q8 q9),⟨by omega,by rw[a0,a4]at J;have e:=x3d (P:=l.take I) (s:=s) (R:=l.drop (i+1)) (x:=x) (d:=hd0) (k:=k-1) (by omega);rw[List.length_take,show min I l.length=I by omega,show k-1+1=k by omega,show I+(k-1)+1=I+k by omega]at e;rw[<-e,show I+(k-1)=I+k-1 by omega];exact J,λj h1 h2=>by
  by_cases e:k<=j;exact a1 j e h2;obtain rfl:j=k-1:=by omega
  exact a7⟩⟩ (by omega)
 have a8:k=0\/¬x.s<(s.getD (k-1) hd0).s:=by
  first
  | exact .inl (by omega)
  | (refine .inr λe=>c1 ?_;have:=u4b (P:=l.take I) (s:=s) (R:=l.drop (i+1)) (x:=x) (d:=hd0) (k:=k-1) (by omega);rw[List.length_take,show min I l.length=I by omega,show k-1+1=k by omega,show I+(k-1)=I+k-1 by omega]at this;rw[a0,this];exact z9b.2 e)
 refine ex (te (te (xh (bn' (tn (rg (mv rfl (z0v rfl rfl (wi6 (by omega)) (asg rfl (nl ?_))))))))));exact lpE (i+1) (.c5 rfl rfl rfl rfl rfl) ⟨((Fr.refl [g] _).z4 q1 q2 q3 q4),⟨by omega,by rw[<-x1y (by omega) (by omega) U.2,<-hs,<-hx,<-x3u (k:=k) a9 hk (by first|exact a8|exact .inl (by omega)) a1];exact J⟩⟩ (by omega);clear h;intro g0 h;refine z2i 4 h rfl rfl rfl λa h=>z2i 5 h rfl rfl rfl λa h=>z2i 6 h rfl rfl rfl λa h=>z2i 7 h rfl rfl rfl λa h=>z2i 8 h rfl rfl rfl λa h=>z2i 9 h rfl rfl rfl λa h=>z2i 10 h rfl rfl rfl λa h=>z2i 11 h rfl rfl rfl λa h=>z2i 12 h rfl rfl rfl λa h=>z2i 13 h rfl rfl rfl λa h=>z2i 14 h rfl rfl rfl λa h=>?_;refine z2i 15 h rfl rfl rfl λa h=>z0d 16 rfl ?_;refine z4k h rfl rfl rfl rfl λa h=>?_;refine z0b ?_;refine z0q ?_;clear hC O;refine bk (h.sub (L':=[(0,_),(1,_),(2,_),(3,_),(8,_),(9,_),(34,_)]) (.c7 rfl rfl rfl rfl rfl rfl rfl)) (tn (cf rfl (ex (te (te (xh (bn' (tn (rg (mv rfl (z0v rfl rfl (wi6 (by omega)) (asg rfl (nl ?_)))))))))))));exact lpE (i+1) (.c5 rfl rfl rfl rfl rfl) ⟨((Fr.refl [g] _).z3 q1 q2 q3),⟨by omega,by rw[<-x1y (by omega) (by omega) U.2,<-hs,<-hx,<-x3u (k:=k) a9 hk (by first|exact a8|exact .inl (by omega)) a1];exact J⟩⟩ (by omega);rw[u2u (by omega)]at J;refine ex (te (te (xh (r0n results231  ?_))));exact⟨_,rfl,rfl,J,(q1.weak (by simp<;>omega))⟩
end Go.Proofs.YtpgdchkdlgkmgaaGreatDoor
namespace Go.G08
open Go.Lw Go.G21
def flK (k:Int)(l:List Hd):List Hd:=l.filter λh=>decide (h.s=k)
theorem z8a (k:Int)(a b:List Hd):flK k (a++b)=flK k a++flK k b:=List.filter_append ..
theorem x5d {k:Int}{l:List Hd}(h:∀x∈l,x.s≠k):flK k l=[]:=by
 unfold flK;rw[List.filter_eq_nil_iff];intro x D;simpa using h x D
theorem z5v (k:Int)(x:Hd)(l:List Hd):flK k (x::l)=if x.s=k then x::flK k l else flK k l:=by
 unfold flK;rw[List.filter_cons];by_cases e:x.s=k<;>simp[e]
theorem v2y (k:Int)(h:Hd):∀l:List Hd,x2r l->flK k (y1w h l)=flK k (l++[h])
 | [],_=>rfl
 | y::l,hs=>by
  obtain⟨I,J⟩:=List.pairwise_cons.1 hs
  unfold y1w
  split
  ·rename_i M
   rw[z8a,z5v]
   by_cases e:h.s=k
   ·have:flK k (y::l)=[]:=x5d λx D=>by
     rcases List.mem_cons.1 D with rfl|D
     ·omega
     have:=I x D;omega
    rw[if_pos e,this,z5v,if_pos e];rfl
   rw[if_neg e,z5v k h [],if_neg e];simp[flK]
  rw[List.cons_append,z5v,z5v,v2y k h l J]
theorem x8w (k:Int):∀(l a:List Hd),x2r a->flK k (l.foldl (λa h=>y1w h a) a)=flK k (a++l)
 | [],a,_=>by simp
 | x::l,a,h=>by
  rw[List.foldl_cons,x8w k l _ (y9z x a h),z8a,v2y k x a h,<-z8a,List.append_assoc];rfl
theorem z8w (k:Int)(l:List Hd):flK k (z5e l)=flK k l:=by unfold z5e;rw[x8w k l [] List.Pairwise.nil];rfl
theorem v5o {k:Int}{x:Hd}{l:List Hd}:x∈flK k l↔x∈l/\x.s=k:=by unfold flK;rw[List.mem_filter];simp
theorem y6q {a b:List Hd}(h:∀k,flK k a=flK k b)(x:Hd)(D:x∈a):x∈b:=(v5o.1 (h x.s▸v5o.2 ⟨D,rfl⟩)).1
theorem x7m {x:Hd}{l:List Hd}:x∈z5e l↔x∈l:=⟨y6q (λk=>z8w k l) x,y6q (λk=>(z8w k l).symm) x⟩
theorem x7z:∀(a b:List Hd),x2r a->x2r b->(∀k,flK k a=flK k b)->a=b
 | [],[],_,_,_=>rfl
 | [],y::b,_,_,h=>by have:=y6q (λk=>(h k).symm) y (List.mem_cons_self ..);cases this
 | x::a,[],_,_,h=>by have:=y6q h x (List.mem_cons_self ..);cases this
 | x::a,y::b,ha,hb,h=>by
  obtain⟨M,O⟩:=List.pairwise_cons.1 ha
  obtain⟨U,Z⟩:=List.pairwise_cons.1 hb
  have hx:=y6q h x (List.mem_cons_self ..)
  have hy:=y6q (λk=>(h k).symm) y (List.mem_cons_self ..)
  have e1:y.s<=x.s:=by
   rcases List.mem_cons.1 hx with e|e
   ·rw[e];exact Int.le_refl _
   exact U x e
  have e2:x.s<=y.s:=by
   rcases List.mem_cons.1 hy with e|e
   ·rw[e];exact Int.le_refl _
   exact M y e
  have es:y.s=x.s:=by omega
  have J:=h x.s
  rw[z5v,z5v,if_pos rfl,if_pos es]at J
  obtain⟨I,_⟩:=List.cons.inj J
  subst I
  rw[x7z a b O Z λk=>?_]
  have D:=h k
  rw[z5v,z5v]at D
  by_cases e:x.s=k
  ·rw[if_pos e,if_pos e]at D;exact(List.cons.inj D).2
  rw[if_neg e,if_neg e]at D;exact D
theorem x6l {l l':List Hd}(h:x2r l')(hf:∀k,flK k l'=flK k l):l'=z5e l:=x7z _ _ h (z7x l) λk=>(hf k).trans (z8w k l).symm
theorem u5q {l:List Hd}(h:x2r l):z5e l=l:=(x6l h λ_=>rfl).symm
theorem u1p (a b:List Hd):z5e (z5e a++z5e b)=z5e (a++b):=by
 refine x6l (z7x _) λk=>?_;rw[z8w,z8a,z8w,z8w,z8a]
theorem j1c {X Y:List Hd}(k:Int)(h:∀x∈X,∀y∈Y,y.s<x.s):flK k (Y++X)=flK k (X++Y):=by
 rw[z8a,z8a];by_cases e:∃x∈X,x.s=k;obtain⟨x,D,rfl⟩:=e;rw[x5d (l:=Y) λy J=>by have:=h x D y J;omega];simp;rw[x5d (l:=X) λx D I=>e ⟨x,D,I⟩];simp
theorem u8d {M O J U:List Hd}(hL:x2r (M++O))(hR:x2r (J++U))(Z:∀x∈O,∀y∈J,y.s<x.s)(h1:∀x∈M,∀y∈U,x.s<=y.s):z5e (M++J)++z5e (O++U)=z5e ((M++O)++(J++U)):=by
 obtain⟨_,_,l3⟩:=List.pairwise_append.1 hL;obtain⟨_,_,r3⟩:=List.pairwise_append.1 hR;refine x6l (List.pairwise_append.2 ⟨z7x _,z7x _,λa D b I=>?_⟩) λk=>?_;rcases List.mem_append.1 (x7m.1 D) with D|D<;>rcases List.mem_append.1 (x7m.1 I) with I|I
 exact l3 a D b I;exact h1 a D b I;have:=Z b I a D;omega;exact r3 a D b I;rw[z8a,z8w,z8w];have:=j1c k Z;simp only[z8a,List.append_assoc]at this ⊢;rw[<-List.append_assoc (flK k J),this,List.append_assoc]
-- ---- lists whose elements are taken in another order
def prm (l:List Hd)(f:Nat->Nat):List Hd:=(List.range l.length).map λi=>l.getD (f i) hd0
theorem z4w (l:List Hd)(f:Nat->Nat):(prm l f).length=l.length:=by unfold prm;simp
theorem z8o {l:List Hd}{f:Nat->Nat}{i:Nat}(h:i<l.length):(prm l f).getD i hd0=l.getD (f i) hd0:=by
 unfold prm;rw[List.getD,List.getElem?_eq_getElem (by simpa using h),List.getElem_map,List.getElem_range];rfl
theorem z6q {a b:List Hd}(hl:a.length=b.length)(h:∀i,i<a.length->a.getD i hd0=b.getD i hd0):a=b:=by
 refine List.ext_getElem hl λi D I=>?_;have:=h i D;rw[List.getD,List.getD,List.getElem?_eq_getElem D,List.getElem?_eq_getElem I]at this;exact this
theorem v6i {l:List Hd}{f g:Nat->Nat}(h:∀i,i<l.length->f i=g i):prm l f=prm l g:=by
 refine z6q (by rw[z4w,z4w]) λi D=>?_;rw[z4w]at D;rw[z8o D,z8o D,h i D]
theorem v0y {l:List Hd}{f:Nat->Nat}(h:∀i,i<l.length->f i=i):prm l f=l:=by
 refine z6q (z4w _ _) λi D=>?_;rw[z4w]at D;rw[z8o D,h i D]
theorem v3o {l:List Hd}{f g h:Nat->Nat}(J:∀i,i<l.length->g i<l.length)(I:∀i,i<l.length->f (g i)=h i):prm (prm l f) g=prm l h:=by
 refine z6q (by rw[z4w,z4w,z4w]) λi D=>?_;rw[z4w,z4w]at D;rw[z8o (by rw[z4w];exact D),z8o (J i D),z8o D,I i D]
def z8t (s m e x:Nat):Nat:=if x<s\/e<=x then x else if x<s+(e-m) then x-s+m else x-(e-m)
def z5f (l:List Hd)(s m e:Nat):List Hd:=prm l (z8t s m e)
def swF (a b n x:Nat):Nat:=if a<=x/\x<a+n then x-a+b else if b<=x/\x<b+n then x-b+a else x
def swL (l:List Hd)(a b n:Nat):List Hd:=prm l (swF a b n)
theorem z1l (l:List Hd)(s m e:Nat):(z5f l s m e).length=l.length:=z4w _ _
theorem z6h (l:List Hd)(a b n:Nat):(swL l a b n).length=l.length:=z4w _ _
theorem z2m {l:List Hd}{s m e i:Nat}(h:i<l.length):(z5f l s m e).getD i hd0=l.getD (z8t s m e i) hd0:=z8o h
theorem y9o {l:List Hd}{a b n i:Nat}(h:i<l.length):(swL l a b n).getD i hd0=l.getD (swF a b n i) hd0:=z8o h
theorem v5c {s m e n i:Nat}(h1:s<=m)(I:m<=e)(J:e<=n)(D:i<n):z8t s m e i<n:=by
 unfold z8t;split;exact D;split<;>omega
theorem u3h {l:List Hd}{s e:Nat}(h:s<=e):z5f l s s e=l:=v0y λi _=>by
 unfold z8t;split
 ·rfl
 split<;>omega
theorem u4g {l:List Hd}{s m:Nat}(h:s<=m):z5f l s m m=l:=v0y λi _=>by
 unfold z8t;split
 ·rfl
 split<;>omega
theorem sw_0 {l:List Hd}{a b:Nat}:swL l a b 0=l:=v0y λi _=>by
 unfold swF;split
 ·omega
 split<;>omega
theorem j1o {l:List Hd}{i m:Nat}(h:i<=m):swL l (m-i) m i=z5f l (m-i) m (m+i):=v6i λx _=>by
 unfold swF z8t;repeat' split
 all_goals omega
theorem j5h {l:List Hd}{i j m:Nat}(h:i<=m)(J:j<i)(I:m+j<=l.length):z5f (swL l (m-i) m j) (m-(i-j)) m (m+j)=z5f l (m-i) m (m+j):=by
 refine v3o (λx D=>v5c (by omega) (by omega) I D) λx D=>?_
 unfold swF z8t;repeat' split
 all_goals omega
theorem j2e {l:List Hd}{i j m:Nat}(h:i<=m)(I:i<j)(J:m+j<=l.length):z5f (swL l (m-i) (m+j-i) i) (m-i) m (m+(j-i))=z5f l (m-i) m (m+j):=by
 refine v3o (λx D=>v5c (by omega) (by omega) (by omega) D) λx D=>?_
 unfold swF z8t;repeat' split
 all_goals omega
theorem z7n {l:List Hd}{i j:Nat}{x:Hd}(D:i<l.length):(l.set i x).getD j hd0=if j=i then x else l.getD j hd0:=by
 rw[List.getD,List.getElem?_set];by_cases e:i=j;subst e;rw[if_pos rfl,if_pos D,if_pos rfl];rfl;rw[if_neg e,if_neg (λh=>e h.symm)];rfl
theorem v3i {l:List Hd}{a b i:Nat}(h:a+i+1<=b)(I:b+i<l.length):((swL l a b i).set (a+i) ((swL l a b i).getD (b+i) hd0)).set (b+i) ((swL l a b i).getD (a+i) hd0)=swL l a b (i+1):=by
 refine z6q (by simp[z6h]) λx D=>?_
 simp only[List.length_set,z6h]at D
 rw[z7n (by rw[List.length_set,z6h];exact I),z7n (by rw[z6h];omega),y9o (by omega),y9o (by omega),y9o D,y9o D]
 unfold swF
 repeat' split
 all_goals first|rfl|(congr 1;omega)|omega
theorem u4m {l:List Hd}{a k:Nat}(h:a<=k)(I:k+1<l.length):((z5f l a (a+1) (k+1)).set k ((z5f l a (a+1) (k+1)).getD (k+1) hd0)).set (k+1) ((z5f l a (a+1) (k+1)).getD k hd0)=z5f l a (a+1) (k+2):=by
 refine z6q (by simp[z1l]) λx D=>?_
 simp only[List.length_set,z1l]at D
 rw[z7n (by rw[List.length_set,z1l];exact I),z7n (by rw[z1l];omega),z2m (by omega),z2m (by omega),z2m D,z2m D]
 unfold z8t
 repeat' split
 all_goals first|rfl|(congr 1;omega)|omega
theorem x7i {l:List Hd}{m k:Nat}(h:k<m)(I:m<l.length):((z5f l (k+1) m (m+1)).set (k+1) ((z5f l (k+1) m (m+1)).getD k hd0)).set k ((z5f l (k+1) m (m+1)).getD (k+1) hd0)=z5f l k m (m+1):=by
 refine z6q (by simp[z1l]) λx D=>?_
 simp only[List.length_set,z1l]at D
 rw[z7n (by rw[List.length_set,z1l];omega),z7n (by rw[z1l];omega),z2m (by omega),z2m (by omega),z2m D,z2m D]
 unfold z8t
 repeat' split
 all_goals first|rfl|(congr 1;omega)|omega
abbrev seg (l:List Hd)(a b:Nat):List Hd:=(l.take b).drop a
theorem z2b {l:List Hd}{a b:Nat}(hb:b<=l.length):(seg l a b).length=b-a:=by
 unfold seg;rw[List.length_drop,List.length_take];omega
theorem z7e {l:List Hd}{a b i:Nat}(h:i<b-a):(seg l a b).getD i hd0=l.getD (a+i) hd0:=by
 unfold seg;rw[List.getD,List.getElem?_drop,List.getElem?_take,if_pos (by omega)];rfl
theorem y1n {l:List Hd}{a m b:Nat}(h1:a<=m)(I:m<=b)(hb:b<=l.length):seg l a b=seg l a m++seg l m b:=by
 refine z6q (by rw[List.length_append,z2b hb,z2b (by omega),z2b hb];omega) λi D=>?_;rw[z2b hb]at D;rw[z7e D];by_cases e:i<m-a;rw[List.getD,List.getD,List.getElem?_append_left (by rw[z2b (by omega)];exact e)];have:=z7e (l:=l) (a:=a) (b:=m) e;rw[List.getD,List.getD]at this;exact this.symm;rw[List.getD,List.getD,List.getElem?_append_right (by rw[z2b (by omega)];omega),z2b (by omega)];have:=z7e (l:=l) (a:=m) (b:=b) (i:=i-(m-a)) (by omega);rw[List.getD,List.getD,show m+(i-(m-a))=a+i by omega]at this;exact this.symm
theorem y8x {l:List Hd}{a b:Nat}(h:a<=b)(hb:b<=l.length):l.take a++(seg l a b++l.drop b)=l:=by
 have D:l.take a++seg l a b=l.take b:=by
  unfold seg
  conv=>rhs;rw[<-List.take_append_drop a (l.take b)]
  rw[List.take_take,show min a b=a by omega]
 rw[<-List.append_assoc,D,List.take_append_drop]
theorem y9k {l:List Hd}{a b:Nat}{x:Hd}(hb:b<=l.length)(I:x∈seg l a b):∃i,a<=i/\i<b/\x=l.getD i hd0:=by
 obtain⟨i,D,rfl⟩:=List.getElem_of_mem I;rw[z2b hb]at D;refine⟨a+i,by omega,by omega,?_⟩;rw[<-z7e D,List.getD,List.getElem?_eq_getElem (by rw[z2b hb];exact D)];rfl
def z9l (l:List Hd)(a b:Nat):Prop:=∀i j,a<=i->i<j->j<b->(l.getD i hd0).s<=(l.getD j hd0).s
theorem y9d {l:List Hd}{a b:Nat}(hb:b<=l.length)(h:z9l l a b):x2r (seg l a b):=by
 refine List.pairwise_iff_getElem.2 λi j D I O=>?_;have U:=D;have Z:=I;rw[z2b hb]at D I;have J:=z7e (l:=l) D;have M:=z7e (l:=l) I;rw[List.getD,List.getElem?_eq_getElem U,Option.getD_some]at J;rw[List.getD,List.getElem?_eq_getElem Z,Option.getD_some]at M;rw[J,M];exact h _ _ (by omega) (by omega) (by omega)
theorem x7r {l:List Hd}{a b:Nat}(hb:b<=l.length)(h:x2r (seg l a b)):z9l l a b:=λi j J M O=>by
 have:=List.pairwise_iff_getElem.1 h (i-a) (j-a) (by rw[z2b hb];omega) (by rw[z2b hb];omega) (by omega)
 have D:=z7e (l:=l) (a:=a) (b:=b) (i:=i-a) (by omega)
 have I:=z7e (l:=l) (a:=a) (b:=b) (i:=j-a) (by omega)
 rw[List.getD,List.getElem?_eq_getElem (by rw[z2b hb];omega),Option.getD_some,show a+(i-a)=i by omega]at D
 rw[List.getD,List.getElem?_eq_getElem (by rw[z2b hb];omega),Option.getD_some,show a+(j-a)=j by omega]at I
 rw[D,I]at this;exact this
theorem u0c {l:List Hd}{a b i:Nat}(h:a<=b)(hb:b<=l.length)(D:i<a\/b<=i):(z7u l a b b).getD i hd0=l.getD i hd0:=by
 unfold z7u;rw[show min b b=b by omega];rcases D with e|e
 rw[List.getD,List.getD,List.getElem?_append_left (by rw[List.length_take];omega),List.getElem?_take,if_pos e];rw[List.getD,List.getD,List.getElem?_append_right (by rw[List.length_take];omega),List.length_take,List.getElem?_append_right (by rw[z6e h hb];omega),z6e h hb,List.getElem?_drop];congr 2;omega
theorem x1l {l:List Hd}{a b:Nat}(h:a<=b)(hb:b<=l.length):(z7u l a b b).length=l.length:=by
 unfold z7u;rw[show min b b=b by omega,List.length_append,List.length_append,z6e h hb,List.length_take,List.length_drop];omega
theorem z7m {l:List Hd}{a b:Nat}(h:a<=b)(hb:b<=l.length)(D:z9l l a b):z7u l a b b=l:=by
 unfold z7u;rw[show min b b=b by omega,u5q (y9d hb D)];exact y8x h hb
theorem x0k {l:List Hd}{P M S:List Hd}(h:l=P++(M++S)):seg l P.length (P.length+M.length)=M:=by
 subst h;unfold seg;rw[<-List.append_assoc,List.take_append_of_le_length (by rw[List.length_append];exact Nat.le_refl _),show P.length+M.length=(P++M).length by rw[List.length_append],List.take_length];simp
theorem z7q {P M S:List Hd}:z7u (P++(M++S)) P.length (P.length+M.length) (P.length+M.length)=P++(z5e M++S):=by
 unfold z7u;rw[Nat.min_self];have:=x0k (l:=P++(M++S)) rfl;unfold seg at this;rw[this];congr 1;simp;congr 1;rw[<-List.append_assoc,show P.length+M.length=(P++M).length by rw[List.length_append],List.drop_append_of_le_length (Nat.le_refl _)];simp
theorem x9s {l:List Hd}{s m e:Nat}(h1:s<=m)(J:m<=e)(D:e<=l.length):z5f l s m e=l.take s++(seg l m e++(seg l s m++l.drop e)):=by
 refine z6q (by simp only[z1l,List.length_append,z2b D,z2b (show m<=l.length by omega),List.length_take,List.length_drop];omega) λi I=>?_;rw[z1l]at I;rw[z2m I];unfold z8t;by_cases c1:i<s;rw[if_pos (.inl c1),List.getD,List.getD,List.getElem?_append_left (by rw[List.length_take];omega),List.getElem?_take,if_pos c1];rw[List.getD,List.getD,List.getElem?_append_right (by rw[List.length_take];omega),List.length_take,show min s l.length=s by omega];by_cases c2:i<s+(e-m);rw[if_neg (by omega),if_pos c2,List.getElem?_append_left (by rw[z2b D];omega)];have:=z7e (l:=l) (a:=m) (b:=e) (i:=i-s) (by omega);rw[List.getD,List.getD]at this;rw[this];congr 2;omega;rw[List.getElem?_append_right (by rw[z2b D];omega),z2b D];by_cases c3:i<e;rw[if_neg (by omega),if_neg c2,List.getElem?_append_left (by rw[z2b (by omega)];omega)];have:=z7e (l:=l) (a:=s) (b:=m) (i:=i-s-(e-m)) (by omega);rw[List.getD,List.getD]at this;rw[this];congr 2;omega;rw[if_pos (by omega),List.getElem?_append_right (by rw[z2b (by omega)];omega),z2b (by omega),List.getElem?_drop];congr 2;omega
theorem u9q {l:List Hd}{a b:Nat}(h:a<=b)(hb:b<=l.length):z7u l a b b=l.take a++(z5e (seg l a b)++l.drop b):=by unfold z7u;rw[Nat.min_self]
theorem y1a {l:List Hd}{a s m e b mid:Nat}(h1:a<=s)(J:s<=m)(O:m<=e)(U:e<=b)(hb:b<=l.length)(hm:mid=s+(e-m))(hl:z9l l a m)(hr:z9l l m b)
    (hx:∀i j,s<=i->i<m->m<=j->j<e->(l.getD j hd0).s<(l.getD i hd0).s) (hy:∀i j,a<=i->i<s->e<=j->j<b->(l.getD i hd0).s<=(l.getD j hd0).s):z7u (z7u (z5f l s m e) a mid mid) mid b b=z7u l a b b:=by
  have el:z5f l s m e=l.take a++((seg l a s++seg l m e)++((seg l s m++seg l e b)++l.drop b)):=by
    rw[x9s J O (by omega)]
    have t1:l.take s=l.take a++seg l a s:=by
      unfold seg
      conv=>lhs;rw[<-List.take_append_drop a (l.take s)]
      rw[List.take_take,show min a s=a by omega]
    have t2:l.drop e=seg l e b++l.drop b:=by
      have:=y8x (l:=l) U hb
      have h:=congrArg (List.drop e) this
      rw[List.drop_append_of_le_length (by rw[List.length_take];omega),List.drop_eq_nil_of_le (by rw[List.length_take];omega)]at h
      exact h.symm
    rw[t1,t2];simp only[List.append_assoc]
  have lA:(l.take a).length=a:=by rw[List.length_take];omega
  have lM:(seg l a s++seg l m e).length=mid-a:=by rw[List.length_append,z2b (by omega),z2b (by omega)];omega
  have lN:(seg l s m++seg l e b).length=b-mid:=by rw[List.length_append,z2b (by omega),z2b (by omega)];omega
  have i1:=z7q (P:=l.take a) (M:=seg l a s++seg l m e) (S:=(seg l s m++seg l e b)++l.drop b)
  rw[lA,lM,show a+(mid-a)=mid by omega,<-el]at i1
  rw[i1]
  have i2:=z7q (P:=l.take a++z5e (seg l a s++seg l m e)) (M:=seg l s m++seg l e b) (S:=l.drop b)
  rw[List.length_append,lA,z4d,lM,lN,show a+(mid-a)+(b-mid)=b by omega,show a+(mid-a)=mid by omega]at i2
  rw[<-List.append_assoc (l.take a),i2,u9q (by omega) hb,List.append_assoc (l.take a),<-List.append_assoc (z5e (seg l a s++seg l m e))]
  congr 2
  rw[y1n (a:=a) (m:=m) (b:=b) (by omega) (by omega) hb,y1n (a:=a) (m:=s) (b:=m) h1 J (by omega),y1n (a:=m) (m:=e) (b:=b) O U hb]
  refine u8d ?_ ?_ (λx D y I=>?_) (λx D y I=>?_)
  · rw[<-y1n h1 J (by omega)];exact y9d (by omega) hl
  · rw[<-y1n O U hb];exact y9d hb hr
  · obtain⟨i,Z,k2,rfl⟩:=y9k (by omega) D
    obtain⟨j,k3,k4,rfl⟩:=y9k (by omega) I
    exact hx i j Z k2 k3 k4
  · obtain⟨i,Z,k2,rfl⟩:=y9k (by omega) D
    obtain⟨j,k3,k4,rfl⟩:=y9k hb I
    exact hy i j Z k2 k3 k4
theorem y9w {l:List Hd}{a s m e mid:Nat}(h1:a<=s)(O:s<=m)(U:m<=e)(Z:e<=l.length)(hm:mid=s+(e-m))(hl:z9l l a m)(b:Nat)(J:z9l l m b)(hb:e<=b):z9l (z5f l s m e) a s/\z9l (z5f l s m e) s mid:=by
 constructor;intro i j D I M;rw[z2m (by omega),z2m (by omega)];unfold z8t;rw[if_pos (by omega),if_pos (by omega)];exact hl i j D I (by omega);intro i j D I M;rw[z2m (by omega),z2m (by omega)];unfold z8t;rw[if_neg (by omega),if_pos (by omega),if_neg (by omega),if_pos (by omega)];exact J _ _ (by omega) (by omega) (by omega)
theorem x7u {l:List Hd}{a s m e b mid:Nat}(h1:a<=s)(O:s<=m)(U:m<=e)(Z:e<=b)(hb:b<=l.length)(hm:mid=s+(e-m))(hl:z9l l a m)(M:z9l l m b):z9l (z7u (z5f l s m e) a mid mid) mid e/\z9l (z7u (z5f l s m e) a mid mid) e b:=by
 have g:∀i,mid<=i->i<b->(z7u (z5f l s m e) a mid mid).getD i hd0=l.getD (z8t s m e i) hd0:=λi D I=>by
  rw[u0c (by omega) (by rw[z1l];omega) (.inr D),z2m (by omega)]
 constructor;intro i j D I J;rw[g i (by omega) (by omega),g j (by omega) (by omega)];unfold z8t;rw[if_neg (by omega),if_neg (by omega),if_neg (by omega),if_neg (by omega)];exact hl _ _ (by omega) (by omega) (by omega);intro i j D I J;rw[g i (by omega) (by omega),g j (by omega) (by omega)];unfold z8t;rw[if_pos (by omega),if_pos (by omega)];exact M _ _ (by omega) I J
theorem u8z {l:List Hd}{a i b:Nat}(h1:a+1<=i)(h2:i<=b)(hb:b<=l.length)(hr:z9l l (a+1) b)(hx:∀j,a+1<=j->j<i->(l.getD j hd0).s<(l.getD a hd0).s)(hy:∀j,i<=j->j<b->(l.getD a hd0).s<=(l.getD j hd0).s):z5f l a (a+1) i=z7u l a b b:=by
 have k:=y1a (l:=l) (a:=a) (s:=a) (m:=a+1) (e:=i) (b:=b) (mid:=a+(i-(a+1))) (Nat.le_refl _) (by omega) h1 h2 hb rfl (λJ M O I D=>by omega) hr
  (λJ M O I D k4=>by obtain rfl:J=a:=(by omega);exact hx M D k4) (λJ M O I=>by omega)
 have r1:=y9w (l:=l) (a:=a) (s:=a) (m:=a+1) (e:=i) (mid:=a+(i-(a+1))) (Nat.le_refl _) (by omega) h1 (by omega) rfl (λJ M O I D=>by omega) b hr h2;rw[<-k];have s1:z9l (z5f l a (a+1) i) a (a+(i-(a+1))):=r1.2;rw[z7m (by omega) (by rw[z1l];omega) s1];have s2:z9l (z5f l a (a+1) i) (a+(i-(a+1))) b:=λx y O I D=>by
  rw[z2m (by omega),z2m (by omega)];by_cases e1:x=i-1;have U:z8t a (a+1) i x=a:=by unfold z8t;rw[if_neg (by omega),if_neg (by omega)];omega
  have Z:z8t a (a+1) i y=y:=by unfold z8t;rw[if_pos (by omega)]
  rw[U,Z];exact hy y (by omega) D;have U:z8t a (a+1) i x=x:=by unfold z8t;rw[if_pos (by omega)]
  have Z:z8t a (a+1) i y=y:=by unfold z8t;rw[if_pos (by omega)]
  rw[U,Z];exact hr x y (by omega) I D
 exact(z7m (by omega) (by rw[z1l];omega) s2).symm
theorem u5o {l:List Hd}{a i m:Nat}(h1:a<=i)(h2:i<=m)(hb:m+1<=l.length)(hl:z9l l a m)(hx:∀j,i<=j->j<m->(l.getD m hd0).s<(l.getD j hd0).s)(hy:∀j,a<=j->j<i->(l.getD j hd0).s<=(l.getD m hd0).s):z5f l i m (m+1)=z7u l a (m+1) (m+1):=by
 have k:=y1a (l:=l) (a:=a) (s:=i) (m:=m) (e:=m+1) (b:=m+1) (mid:=i+1) h1 h2 (by omega) (Nat.le_refl _) hb (by omega) hl (λU Z D I O=>by omega)
  (λU Z D I O k4=>by obtain rfl:Z=m:=(by omega);exact hx U D I) (λU Z D I O k4=>by omega)
 rw[<-k];have s1:z9l (z5f l i m (m+1)) a (i+1):=λx y D I O=>by
  rw[z2m (by omega),z2m (by omega)];have M:z8t i m (m+1) x=x:=by unfold z8t;rw[if_pos (by omega)]
  by_cases e1:y=i;have J:z8t i m (m+1) y=m:=by unfold z8t;rw[if_neg (by omega),if_pos (by omega)];omega
  rw[M,J];exact hy x D (by omega);have J:z8t i m (m+1) y=y:=by unfold z8t;rw[if_pos (by omega)]
  rw[M,J];exact hl x y D I (by omega)
 rw[z7m (by omega) (by rw[z1l];omega) s1];have s2:z9l (z5f l i m (m+1)) (i+1) (m+1):=λx y D I O=>by
  rw[z2m (by omega),z2m (by omega)];have M:z8t i m (m+1) x=x-1:=by unfold z8t;rw[if_neg (by omega),if_neg (by omega)];omega
  have J:z8t i m (m+1) y=y-1:=by unfold z8t;rw[if_neg (by omega),if_neg (by omega)];omega
  rw[M,J];exact hl _ _ (by omega) (by omega) (by omega)
 exact(z7m (by omega) (by rw[z1l];omega) s2).symm
theorem j3t {l:List Hd}{s m e:Nat}(h:¬(s<m/\m<e))(h1:s<=m)(D:m<=e):z5f l s m e=l:=by
 by_cases k:s<m;obtain rfl:e=m:=by omega
 exact u4g h1;obtain rfl:s=m:=by omega
 exact u3h D
theorem skip1 {l:List Hd}{a s m e mid:Nat}(hn:¬(a<s/\s<mid))(h1:a<=s)(D:s<=m)(I:m<=e)(J:e<=l.length)(M:mid=s+(e-m))(hl:z9l l a m)(b:Nat)(O:z9l l m b)(hb:e<=b):z7u (z5f l s m e) a mid mid=z5f l s m e:=by
 obtain⟨U,Z⟩:=y9w h1 D I J M hl b O hb;refine z7m (by omega) (by rw[z1l];omega) ?_;by_cases k:a<s;obtain rfl:mid=s:=by omega
 exact U;obtain rfl:s=a:=by omega
 exact Z
theorem j6b {l:List Hd}{a s m e b mid:Nat}(hn:¬(mid<e/\e<b))(h1:a<=s)(D:s<=m)(I:m<=e)(J:e<=b)(hb:b<=l.length)(M:mid=s+(e-m))(hl:z9l l a m)(O:z9l l m b):z7u (z7u (z5f l s m e) a mid mid) mid b b=z7u (z5f l s m e) a mid mid:=by
 obtain⟨U,Z⟩:=x7u h1 D I J hb M hl O;refine z7m (by omega) (by rw[x1l (by omega) (by rw[z1l];omega),z1l];omega) ?_;by_cases k:mid<e;obtain rfl:e=b:=by omega
 exact U;obtain rfl:e=mid:=by omega
 exact Z
structure Sch (l:List Hd) (p s0 r0 s r:Nat):Prop where
  lo:s0<=s
  le:s<=r
  hi:r<=r0
  f1:∀x,s0<=x->x<s->(l.getD x hd0).s<=(l.getD (p-x) hd0).s
  f2:∀x,r<=x->x<r0->(l.getD (p-x) hd0).s<(l.getD x hd0).s
theorem j6j {l:List Hd}{p s0 r0:Nat}(h:s0<=r0):Sch l p s0 r0 s0 r0:=⟨Nat.le_refl _,h,Nat.le_refl _,λx _ _=>by omega,λx _ _=>by omega⟩
theorem z5q {l:List Hd}{a b i j:Nat}(h:z9l l a b)(D:a<=i)(I:i<=j)(J:j<b):(l.getD i hd0).s<=(l.getD j hd0).s:=by
 by_cases e:i=j;subst e;exact Int.le_refl _;exact h i j D (by omega) J
section
variable {l:List Hd} {a m b mid p s0 r0 s r c:Nat}
theorem j4s (h:Sch l p s0 r0 s r)(hc:s<=c/\c<r)(hl:z9l l a m)(D:z9l l m b)(ha:a<=s0)(hm:r0<=m)(hi:r0<=mid)(hp:p=mid+m-1)(hb:mid+m<=b+s0)(hx:¬(l.getD (p-c) hd0).s<(l.getD c hd0).s):Sch l p s0 r0 (c+1) r:=by
 obtain⟨k1,k2,I,k4,J⟩:=h;refine⟨by omega,by omega,I,λx U Z=>?_,J⟩;have M:=z5q hl (show a<=x by omega) (show x<=c by omega) (show c<m by omega);have O:=z5q D (show m<=p-c by omega) (show p-c<=p-x by omega) (show p-x<b by omega);omega
theorem v8i (h:Sch l p s0 r0 s r)(hc:s<=c/\c<r)(hl:z9l l a m)(D:z9l l m b)(ha:a<=s0)(hm:r0<=m)(hi:r0<=mid)(hp:p=mid+m-1)(hb:mid+m<=b+s0)(hx:(l.getD (p-c) hd0).s<(l.getD c hd0).s):Sch l p s0 r0 s c:=by
 obtain⟨I,k2,k3,J,k5⟩:=h;refine⟨I,by omega,by omega,J,λx U Z=>?_⟩;have M:=z5q hl (show a<=c by omega) (show c<=x by omega) (show x<m by omega);have O:=z5q D (show m<=p-x by omega) (show p-x<=p-c by omega) (show p-c<b by omega);omega
theorem u1g (h:Sch l p s0 r0 s s)(hl:z9l l a m)(O:z9l l m b)(ha:a<=s0)(hm:r0=min m mid)(hp:p=mid+m-1)(hb:mid+m<=b+s0)(h0:s0=a\/s0=mid+m-b)(a0:b<=mid+m\/s0=a) :
    (∀i j,s<=i->i<m->m<=j->j<mid+m-s->(l.getD j hd0).s<(l.getD i hd0).s)/\(∀i j,a<=i->i<s->mid+m-s<=j->j<b->(l.getD i hd0).s<=(l.getD j hd0).s):=by
  obtain⟨k1,k2,k3,k4,k5⟩:=h
  constructor
  · intro i j D I J M
    have U:=k5 s (Nat.le_refl _) (by omega)
    have Z:=z5q hl (show a<=s by omega) D I
    have e2:=z5q O J (show j<=p-s by omega) (show p-s<b by omega)
    omega
  · intro i j D I J M
    by_cases e:s0<s
    · have U:=k4 (s-1) (by omega) (by omega)
      have Z:=z5q hl D (show i<=s-1 by omega) (show s-1<m by omega)
      have e2:=z5q O (show m<=p-(s-1) by omega) (show p-(s-1)<=j by omega) M
      omega
    · omega
end
def chk (B:Nat)(l:List Hd):List Hd:=if h:B=0\/l.length<=B then z5e l else z5e (l.take B)++chk B (l.drop B)
termination_by l.length
decreasing_by rw [List.length_drop];omega
theorem y0e {B:Nat}{l:List Hd}(h:l.length<=B):chk B l=z5e l:=by rw[chk,dif_pos (.inr h)]
theorem u0w {B:Nat}{X Y:List Hd}(D:0<B)(h:X.length=B):chk B (X++Y)=z5e X++chk B Y:=by
 rw[chk];split;rename_i k;rw[List.length_append]at k;have:Y=[]:=List.length_eq_zero_iff.1 (by omega);subst this;rw[List.append_nil,y0e (l:=[]) (by simp)];exact(List.append_nil _).symm;rw[<-h];simp
theorem v2k (B:Nat):∀(n:Nat) (l:List Hd),l.length<=n->(chk B l).length=l.length
 | 0,l,h=>by rw[chk,dif_pos (.inr (by omega)),z4d]
 | n+1,l,h=>by
  rw[chk]
  split
  ·exact z4d l
  rename_i k
  rw[List.length_append,z4d,v2k B n _ (by rw[List.length_drop];omega),List.length_take,List.length_drop];omega
theorem y0m {B a:Nat}{l:List Hd}(I:0<B)(h:a+B<=l.length):chk B (l.drop a)=z5e (seg l a (a+B))++chk B (l.drop (a+B)):=by
 have e:l.drop a=seg l a (a+B)++l.drop (a+B):=by
  have:=y8x (l:=l) (a:=a) (b:=a+B) (by omega) h
  have D:=congrArg (List.drop a) this
  rw[List.drop_append_of_le_length (by rw[List.length_take];omega),List.drop_eq_nil_of_le (by rw[List.length_take];omega)]at D
  exact D.symm
 conv=>lhs;rw[e]
 exact u0w I (by rw[z2b h];omega)
theorem v7v {l D:List Hd}{a B:Nat}(J:D.length=a)(h:a+B<=l.length):z7u (D++l.drop a) a (a+B) (a+B)=(D++z5e (seg l a (a+B)))++l.drop (a+B):=by
 have e:l.drop a=seg l a (a+B)++l.drop (a+B):=by
  have:=y8x (l:=l) (a:=a) (b:=a+B) (by omega) h;have I:=congrArg (List.drop a) this;rw[List.drop_append_of_le_length (by rw[List.length_take];omega),List.drop_eq_nil_of_le (by rw[List.length_take];omega)]at I;exact I.symm
 rw[e];have:=z7q (P:=D) (M:=seg l a (a+B)) (S:=l.drop (a+B));rw[J,z2b h,show a+(a+B-a)=a+B by omega]at this;rw[this,List.append_assoc]
theorem u0g {l D:List Hd}{a B:Nat}(I:D.length=a)(h:a<=l.length)(hl:l.length<=a+B):z7u (D++l.drop a) a l.length l.length=D++chk B (l.drop a):=by
 have:=z7q (P:=D) (M:=l.drop a) (S:=[]);rw[I,List.length_drop,show a+(l.length-a)=l.length by omega,List.append_nil,List.append_nil]at this;rw[this,y0e (by rw[List.length_drop];omega)]
theorem x1u {l D:List Hd}{a B C:Nat}(I:D.length=a)(U:0<B)(hC:C<=B)(h:a+(B+C)<=l.length)(R:List Hd)(Z:chk B (l.drop (a+B))=z5e (seg l (a+B) (a+(B+C)))++R) :
    z7u (D++chk B (l.drop a)) a (a+(B+C)) (a+(B+C))=(D++z5e (seg l a (a+(B+C))))++R/\z9l (D++chk B (l.drop a)) a (a+B)/\z9l (D++chk B (l.drop a)) (a+B) (a+(B+C)):=by
  have e:D++chk B (l.drop a)=D++((z5e (seg l a (a+B))++z5e (seg l (a+B) (a+(B+C))))++R):=by
    rw[y0m U (by omega),Z,List.append_assoc]
  have J:(z5e (seg l a (a+B))).length=B:=by rw[z4d,z2b (by omega)];omega
  have O:(z5e (seg l (a+B) (a+(B+C)))).length=C:=by rw[z4d,z2b (by omega)];omega
  have s:=z7q (P:=D) (M:=z5e (seg l a (a+B))++z5e (seg l (a+B) (a+(B+C)))) (S:=R)
  rw[I,List.length_append,J,O]at s
  refine⟨?_,?_,?_⟩
  · rw[e,s,u1p,<-y1n (by omega) (by omega) h,List.append_assoc]
  · refine x7r ?_ ?_
    · rw[e];simp only[List.length_append,I,J,O];omega
    · rw[e]
      have:=x0k (l:=D++(z5e (seg l a (a+B))++(z5e (seg l (a+B) (a+(B+C)))++R))) rfl
      rw[I,J]at this
      rw[List.append_assoc (z5e (seg l a (a+B))),this];exact z7x _
  · refine x7r ?_ ?_
    · rw[e];simp only[List.length_append,I,J,O];omega
    · rw[e]
      have:=x0k (l:=(D++z5e (seg l a (a+B)))++(z5e (seg l (a+B) (a+(B+C)))++R)) rfl
      rw[List.length_append,I,J,O,List.append_assoc,show a+B+C=a+(B+C) by omega]at this
      rw[List.append_assoc (z5e (seg l a (a+B))),this];exact z7x _
theorem u6n:∀l:Bed,(∀s∈l,s.length<=4)->l.flatten.length<=4*l.length
 | [],_=>by simp
 | s::l,h=>by
  have I:=h s (List.mem_cons_self ..)
  have J:=u6n l λt D=>h t (List.mem_cons_of_mem _ D)
  rw[List.flatten_cons,List.length_append,List.length_cons];omega
theorem y5n {B:Bd}(h:BdOk B):B.flat.length<=320:=by
 have I:=u6n B.f λs D=>h.ss s (List.mem_append.2 (.inl D));have J:=u6n B.b λs D=>h.ss s (List.mem_append.2 (.inr D));have M:=h.lf;have O:=h.lb;unfold Bd.flat;rw[List.length_append];omega
end Go.G08
namespace Go.Lw
open Go.RowKit
section
variable {P:Program} {n:Nat} {L:List (Nat×Value)} {ds:List Nat} {w w':World} {Q:Exit->Act->World->Prop} {ops:Array Oper} {rest:List Oper} {d:Nat} {ty T:TypeId} {pos:String} {after:Array Edge} {v:Value} {x:Operand}
theorem u2w {t t':TypeId}{k k':IntKind}{i:Int}{m:Nat}{z:Int}{y:Operand}(J:ev L x=some (.int k i))(M:ev L y=some (.int k' (m:Int)))(I:m<=k.bits)(O:i / ((2 ^ m:Nat):Int)=z)(hn:Nat.blt d n=true)(q:WL P ops Q rest n ds w ((d,.int k z)::L)):WL P ops Q (⟨some d,.binOp .shr t x y t',ty,pos,after,none⟩::rest) n ds w L:=
 λa h=>z1t h rfl rfl hn (by
  have e:i.fdiv (2 ^ m)=z:=by
   rw[Int.fdiv_eq_ediv_of_nonneg _ (by exact_mod_cast Nat.zero_le (2 ^ m)),<-O]
   congr 1
  have D:¬((m:Nat):Int)<0:=by omega
  simp[execOp,h.eval J,h.eval M,eqGuard_shr,binOp_shr,Op.shift,Nat.min_eq_left I,e,D]) q
end
end Go.Lw
namespace Go.Proofs.YtpgdchkdlgkmgaaGreatDoor
open Go.Lw Go.G21 Go.G08 _root_.Go.Proofs.Tryz
set_option maxHeartbeats 1000000 in
theorem v5f (g c base:Nat)(J b k:Nat)(A B K:Int)(l:List Hd)(w0:World)(hA:A=(J:Int))(hB:B=(b:Int))(hK:K=(k:Int))(I:Lw.Own z3p 183 base w0 (.slice (some ⟨g,0,none⟩) l.length c) l)(hl:l.length<=1000000)(a2:J+k<=b/\b+k<=l.length):Rets prog 261 #[.slice (some ⟨g,0,none⟩) l.length c,.int .i64 A,.int .i64 B,.int .i64 K,.func (.func 143) #[] #[]] w0 λr w'=>r=.tuple #[]/\Lw.Own z3p 183 base w' (.slice (some ⟨g,0,none⟩) l.length c) (swL l J b k)/\Fr [g] w0 w':=by
 subst hA hB hK;refine we [(0,.slice (some ⟨g,0,none⟩) l.length c),(1,.int .i64 (J:Int)),(2,.int .i64 (b:Int)),(3,.int .i64 (k:Int)),(4,.func (.func 143) #[] #[])] func261 rfl ntmps261 rfl (.c5 rfl rfl rfl rfl rfl) (sr (asg rfl (nn (bl ?_))));refine lpK (ι:=Nat) [(0,_),(1,_),(2,_),(3,_)] (λi=>[(10,.int .i64 (i:Int))]) (λi w'=>Fr [g] w0 w'/\i<=k/\Lw.Own z3p 183 base w' (.slice (some ⟨g,0,none⟩) l.length c) (swL l J b i)) (λi=>k-i) 0 (.c5 rfl rfl rfl rfl rfl) ⟨Fr.refl _ _,⟨Nat.zero_le _,(by rw[sw_0];exact I)⟩⟩ ?_;rintro i w1 ⟨Z,⟨hi,I⟩⟩;refine kpC [(0,_),(1,_),(2,_),(3,_),(10,_)] (.c5 rfl rfl rfl rfl rfl) ?_;have a3:=z6h l J b i;refine sq (sr (mv rfl (mv rfl (lt' rfl rfl (nn (cd rfl (λc0=>?_) (λc0=>?_)))))));refine sk (tn (sq (bl ?_)));intro a h;refine z0i (some 23) (λwb w'=>Fr [g] wb w') z2o ?_;intro w2 q2;replace I:=I.ext q2;have hC:Fr [g] w2 w2:=Fr.refl _ _;have U:=I;refine z0e 0 h rfl rfl λa h=>z0e 1 h rfl rfl λa h=>z0e 2 h rfl rfl λa h=>z4u 3 h rfl rfl (by first|exact i6 (by omega)|rfl) rfl λa h=>z0e 4 h rfl rfl λa h=>z0e 5 h rfl rfl λa h=>z0e 6 h rfl rfl λa h=>z4u 7 h rfl rfl (by first|exact i6 (by omega)|rfl) rfl λa h=>z0e 8 h rfl rfl λa h=>z0e 9 h rfl rfl λa h=>z0e 10 h rfl rfl λa h=>?_;refine z4u 11 h rfl rfl (by first|exact i6 (by omega)|rfl) rfl λa h=>z1h (p:=(b+i)) (hd0) 12 h rfl I.sl rfl z3f rfl λa0 M a h=>z0e 14 h rfl rfl λa h=>z0e 15 h rfl rfl λa h=>z0e 16 h rfl rfl λa h=>z4u 17 h rfl rfl (by first|exact i6 (by omega)|rfl) rfl λa h=>z1h (p:=(J+i)) (hd0) 18 h rfl I.sl rfl z3f rfl λa1 O a h=>z2d 13 19 (by kernel_rfl) rfl rfl ?_ ?_;refine z1q h rfl (M _ I.sl) z5g rfl λa h=>?_;refine z0b ?_;refine z0d 19 rfl ?_;refine z1q h rfl (O _ I.sl) z5g rfl λa h=>?_;refine z0b ?_;refine z1o 20 (by kernel_rfl) (by kernel_rfl) (by kernel_rfl) hC (p:=(J+i)) h wn rfl rfl z3f (by omega) (by omega) (by omega) rfl rfl λa h=>z0d 21 rfl ?_;refine z1b (i:=(J+i)) (((swL l J b i).getD (b+i) hd0)) h rfl rfl I (by rw[z6h];omega) rfl z8i λw3 D q3 _hz a h=>?_;replace hC:=hC.sp q3;clear _hz I;have I:=D;clear D;refine z0b ?_;refine z1o 22 (by kernel_rfl) (by kernel_rfl) (by kernel_rfl) hC (p:=(b+i)) h wn rfl rfl z3f (by omega) (by omega) (by omega) rfl rfl λa h=>z0d 23 rfl ?_;refine z1b (i:=(b+i)) (((swL l J b i).getD (J+i) hd0)) h rfl rfl I (by rw[List.length_set,z6h];omega) rfl z8i λw4 D q4 _hz a h=>?_;clear _hz I;have I:=D;clear D;refine z1n ?_;refine z0q ?_;clear hC U;refine bk (h.sub (L':=[(0,_),(1,_),(2,_),(3,_),(10,_)]) (.c5 rfl rfl rfl rfl rfl)) (bn' (tn (rg (mv rfl (z0v rfl rfl (wi6 (by omega)) (asg rfl (nl ?_)))))));exact lpE (i+1) (.c5 rfl rfl rfl rfl rfl) ⟨((Fr.refl [g] _).z4 Z q2 q3 q4),⟨by omega,(by rw[v3i (by omega) (by omega)]at I;exact I)⟩⟩ (by omega);refine z1q h rfl (O _ I.sl) z5g rfl λa h=>?_;refine z0b ?_;refine z0d 13 rfl ?_;refine z1q h rfl (M _ I.sl) z5g rfl λa h=>?_;refine z0b ?_;refine z1o 20 (by kernel_rfl) (by kernel_rfl) (by kernel_rfl) hC (p:=(J+i)) h wn rfl rfl z3f (by omega) (by omega) (by omega) rfl rfl λa h=>z0d 21 rfl ?_;refine z1b (i:=(J+i)) (((swL l J b i).getD (b+i) hd0)) h rfl rfl I (by rw[z6h];omega) rfl z8i λw5 D q5 _hz a h=>?_;replace hC:=hC.sp q5;clear _hz I;have I:=D;clear D;refine z0b ?_;refine z1o 22 (by kernel_rfl) (by kernel_rfl) (by kernel_rfl) hC (p:=(b+i)) h wn rfl rfl z3f (by omega) (by omega) (by omega) rfl rfl λa h=>z0d 23 rfl ?_;refine z1b (i:=(b+i)) (((swL l J b i).getD (J+i) hd0)) h rfl rfl I (by rw[List.length_set,z6h];omega) rfl z8i λw6 D q6 _hz a h=>?_;clear _hz I;have I:=D;clear D;refine z1n ?_;refine z0q ?_;clear hC U;refine bk (h.sub (L':=[(0,_),(1,_),(2,_),(3,_),(10,_)]) (.c5 rfl rfl rfl rfl rfl)) (bn' (tn (rg (mv rfl (z0v rfl rfl (wi6 (by omega)) (asg rfl (nl ?_)))))));exact lpE (i+1) (.c5 rfl rfl rfl rfl rfl) ⟨((Fr.refl [g] _).z4 Z q2 q5 q6),⟨by omega,(by rw[v3i (by omega) (by omega)]at I;exact I)⟩⟩ (by omega);obtain rfl:i=k:=by omega
 refine ex (te (te (xh (r0n results261  ?_))));exact⟨_,rfl,rfl,I,((Fr.refl [g] _).z1 Z)⟩
set_option maxHeartbeats 1000000 in
theorem j5a (g c base:Nat)(O m b:Nat)(A M B:Int)(l:List Hd)(w0:World)(hA:A=(O:Int))(hM:M=(m:Int))(hB:B=(b:Int))(I:Lw.Own z3p 183 base w0 (.slice (some ⟨g,0,none⟩) l.length c) l)(hl:l.length<=1000000)(a0:O<m/\m<b/\b<=l.length):Rets prog 252 #[.slice (some ⟨g,0,none⟩) l.length c,.int .i64 A,.int .i64 M,.int .i64 B,.func (.func 143) #[] #[]] w0 λr w'=>r=.tuple #[]/\Lw.Own z3p 183 base w' (.slice (some ⟨g,0,none⟩) l.length c) (z5f l O m b)/\Fr [g] w0 w':=by
 subst hA hM hB;refine we [(0,.slice (some ⟨g,0,none⟩) l.length c),(1,.int .i64 (O:Int)),(2,.int .i64 (m:Int)),(3,.int .i64 (b:Int)),(4,.func (.func 143) #[] #[])] func252 rfl ntmps252 rfl (.c5 rfl rfl rfl rfl rfl) (sr (mv rfl (mv rfl (z2u rfl rfl (wi6 (by omega)) (asg rfl (nn (sr (mv rfl (mv rfl (z2u rfl rfl (wi6 (by omega)) (asg rfl (nn (sq (bl ?_))))))))))))));refine lpK (ι:=Nat×Nat) [(0,_),(2,_),(4,_)] (λp=>[(10,.int .i64 (p.1:Int)),(11,.int .i64 (p.2:Int))]) (λp w'=>Fr [g] w0 w'/\(1<=p.1/\1<=p.2/\p.1<=m/\m+p.2<=l.length)/\∃cur:List Hd,cur.length=l.length/\z5f cur (m-p.1) m (m+p.2)=z5f l O m b/\Lw.Own z3p 183 base w' (.slice (some ⟨g,0,none⟩) l.length c) cur) (λp=>p.1+p.2) (m-O,b-m) (.c5 rfl rfl rfl (by first|rfl|exact congrArg (λz=>some (Value.int .i64 z)) (by first|omega|(simp only;omega))) (by first|rfl|exact congrArg (λz=>some (Value.int .i64 z)) (by first|omega|(simp only;omega)))) ⟨Fr.refl _ _,⟨⟨by simp only;omega,by simp only;omega,by simp only;omega,by simp only;omega⟩,l,rfl,by simp only;rw[show m-(m-O)=O by omega,show m+(b-m)=b by omega],I⟩⟩ ?_;rintro⟨i,j⟩ w1 ⟨Z,⟨U,cur,D,J,I⟩⟩;simp only at U J;refine kpC [(0,_),(2,_),(4,_),(10,.int .i64 (i:Int)),(11,.int .i64 (j:Int))] (.c5 rfl rfl rfl rfl rfl) (sq (sr (mv rfl (mv rfl (ne' rfl rfl (nn (cd rfl (λc0=>?_) (λc0=>?_))))))));refine sk (tn (bl (sr (mv rfl (mv rfl (gt' rfl rfl (nn (cd rfl (λc1=>?_) (λc1=>?_)))))))));refine sr (mv rfl (mv rfl (mv rfl (z2u rfl rfl (wi6 (by omega)) (mv rfl (mv rfl (mv rfl ?_)))))));refine cl (z0a rfl (z0a rfl (z0a rfl (z0a rfl (z0a rfl z0f))))) (mkC func261) (by have x:=v5f g c base (m-i) m j (↑m - ↑i) ↑m ↑j cur _ (by omega) rfl rfl (by rw[D];exact I) (by omega) (by omega);rw[D]at x;exact x) rfl ?_;rintro _ w2 ⟨rfl,I,q2⟩;refine kpL [(0,_),(2,_),(4,_),(10,_),(11,_)] (.c5 rfl rfl rfl rfl rfl) (nn (rg (mv rfl (mv rfl (z2u rfl rfl (wi6 (by omega)) (asg rfl (nl (bn' ?_))))))));exact lpE ((i-j,j)) (.c5 rfl rfl rfl (by first|rfl|exact congrArg (λz=>some (Value.int .i64 z)) (by first|omega|(simp only;omega))) (by first|rfl|exact congrArg (λz=>some (Value.int .i64 z)) (by first|omega|(simp only;omega)))) ⟨((Fr.refl [g] _).z2 Z q2),⟨⟨by simp only;omega,by simp only;omega,by simp only;omega,by simp only;omega⟩,_,by rw[z6h];exact D,by simp only;rw[<-J];exact j5h (by omega) (by omega) (by omega),I⟩⟩ (by simp only;omega);refine sr (mv rfl (mv rfl (mv rfl (z2u rfl rfl (wi6 (by omega)) (mv rfl (mv rfl (z0v rfl rfl (wi6 (by omega)) (mv rfl (z2u rfl rfl (wi6 (by omega)) (mv rfl (mv rfl ?_)))))))))));refine cl (z0a rfl (z0a rfl (z0a rfl (z0a rfl (z0a rfl z0f))))) (mkC func261) (by have x:=v5f g c base (m-i) (m+j-i) i (↑m - ↑i) (↑m + ↑j - ↑i) ↑i cur _ (by omega) (by omega) rfl (by rw[D];exact I) (by omega) (by omega);rw[D]at x;exact x) rfl ?_;rintro _ w3 ⟨rfl,I,q3⟩;refine kpL [(0,_),(2,_),(4,_),(10,_),(11,_)] (.c5 rfl rfl rfl rfl rfl) (nn (rg (mv rfl (mv rfl (z2u rfl rfl (wi6 (by omega)) (asg rfl (nl (bn' ?_))))))));exact lpE ((i,j-i)) (.c5 rfl rfl rfl (by first|rfl|exact congrArg (λz=>some (Value.int .i64 z)) (by first|omega|(simp only;omega))) (by first|rfl|exact congrArg (λz=>some (Value.int .i64 z)) (by first|omega|(simp only;omega)))) ⟨((Fr.refl [g] _).z2 Z q3),⟨⟨by simp only;omega,by simp only;omega,by simp only;omega,by simp only;omega⟩,_,by rw[z6h];exact D,by simp only;rw[<-J];exact j2e (by omega) (by omega) (by omega),I⟩⟩ (by simp only;omega);obtain rfl:i=j:=by omega
 refine ex (te (te (xh (tn (rg (mv rfl (mv rfl (mv rfl (z2u rfl rfl (wi6 (by omega)) (mv rfl (mv rfl (mv rfl ?_))))))))))));refine cl (z0a rfl (z0a rfl (z0a rfl (z0a rfl (z0a rfl z0f))))) (mkC func261) (by have x:=v5f g c base (m-i) m i (↑m - ↑i) ↑m ↑i cur _ (by omega) rfl rfl (by rw[D];exact I) (by omega) (by omega);rw[D]at x;exact x) rfl ?_;rintro _ w4 ⟨rfl,I,q4⟩;refine kpL [] .nil (nl (r0n results252  ?_));exact⟨_,rfl,rfl,by rw[<-J,<-j1o (by omega)];exact I,((Fr.refl [g] _).z2 Z q4)⟩
set_option maxHeartbeats 4000000 in
theorem u3k (g c base:Nat)(n:Nat):∀(O m b:Nat) (A M B:Int) (l:List Hd) (w0:World),b-O<=n->A=(O:Int)->M=(m:Int)->B=(b:Int)->Lw.Own z3p 183 base w0 (.slice (some ⟨g,0,none⟩) l.length c) l->l.length<=1000000->O<m->m<b->b<=l.length->z9l l O m->z9l l m b->Rets prog 232 #[.slice (some ⟨g,0,none⟩) l.length c,.int .i64 A,.int .i64 M,.int .i64 B,.func (.func 143) #[] #[]] w0 λr w'=>r=.tuple #[]/\Lw.Own z3p 183 base w' (.slice (some ⟨g,0,none⟩) l.length c) (z7u l O b b)/\Fr [g] w0 w':=by
 induction n;intros;omega;rename_i n ih;intro O m b A M B l w0 hn hA hM hB D hl h1 h2 h3 U Z;subst hA hM hB;obtain⟨mid,h7⟩:∃mid,mid=(O+b) / 2:=⟨_,rfl⟩;refine we [(0,.slice (some ⟨g,0,none⟩) l.length c),(1,.int .i64 (O:Int)),(2,.int .i64 (m:Int)),(3,.int .i64 (b:Int)),(4,.func (.func 143) #[] #[])] func232 rfl ntmps232 rfl (.c5 rfl rfl rfl rfl rfl) (sq (sr (mv rfl (mv rfl (z2u rfl rfl (wi6 (by omega)) (eq' rfl rfl (nn (cd rfl (λc0=>?_) (λc0=>?_)))))))));obtain rfl:m=O+1:=by omega
 refine sr (mv rfl (asg rfl (nn (sr (mv rfl (asg rfl (nn (sq (bl ?_)))))))));refine lpK (ι:=Nat×Nat) [(0,_),(1,_),(4,_)] (λp=>[(10,.int .i64 (p.1:Int)),(11,.int .i64 (p.2:Int))]) (λp w'=>Fr [] w0 w'/\(O+1<=p.1/\p.1<=p.2/\p.2<=b)/\(∀x,O+1<=x->x<p.1->(l.getD x hd0).s<(l.getD O hd0).s)/\(∀x,p.2<=x->x<b->(l.getD O hd0).s<=(l.getD x hd0).s)) (λp=>p.2-p.1) (O+1,b) (.c5 rfl rfl rfl (by first|rfl|exact congrArg (λz=>some (Value.int .i64 z)) (by first|omega|(simp only;omega))) rfl) ⟨Fr.refl _ _,⟨⟨by simp only;omega,by simp only;omega,by simp only;omega⟩,λx h h'=>by simp only at h';omega,λx h h'=>by simp only at h;omega⟩⟩ ?_;rintro⟨i,j⟩ w1 ⟨q1,hI⟩;simp only at hI;refine kpC [(0,_),(1,_),(4,_),(10,.int .i64 (i:Int)),(11,.int .i64 (j:Int))] (.c5 rfl rfl rfl rfl rfl) (sq (sr (mv rfl (mv rfl (lt' rfl rfl (nn (cd rfl (λc1=>?_) (λc1=>?_))))))));refine sk (tn (bl (sr (mv rfl (mv rfl (z0v rfl rfl (wi6 (by omega)) (z5m rfl (us underlying3) underlying208 (IntWalk.u64_in _ (by omega)) (u2w (m:=1) (z:=(((i+j) / 2:Nat):Int)) rfl rfl (by decide) (show _ / (2:Int)=_ by omega) rfl (z5m rfl (us underlying208) underlying3 (wi6 (by omega)) (asg rfl (kpL [(0,_),(1,_),(4,_),(10,_),(11,_),(12,_)] (.c6 rfl rfl rfl rfl rfl rfl) (nn (sq ?_)))))))))))));intro a h;refine z0i none (λwb w'=>Fr [] wb w') z2o ?_;intro w2 q2;replace D:=D.ext (q1.n1 q2);have hC:Fr [] w2 w2:=Fr.refl _ _;have J:=D;refine z0e 0 h rfl rfl λa h=>z0e 1 h rfl rfl λa h=>z0e 2 h rfl rfl λa h=>z1h (p:=((i+j) / 2)) (hd0) 3 h rfl D.sl rfl z3f rfl λg8 d3 a h=>z1y 4 h wn rfl (λ_ hw=>d3 _ (J.sl.ext hw)) z5g rfl λa h=>z0e 5 h rfl rfl λa h=>z0e 6 h rfl rfl λa h=>z1h (p:=O) (hd0) 7 h rfl D.sl rfl z3f rfl λg9 d4 a h=>z1y 8 h wn rfl (λ_ hw=>d4 _ (J.sl.ext hw)) z5g rfl λa h=>z0d 9 rfl ?_;refine z9q (us:=[]) (ws:=[]) h rfl (z0a rfl (z0a rfl z0f)) (mkC func143) (x0o ((l).getD (((i+j) / 2)) hd0) ((l).getD (O) hd0) _) rfl (by intro g e;cases e) ?_;rintro _ w3 ⟨rfl,q3⟩ a h;replace D:=D.ext q3;replace hC:=hC.next q3;refine z0b ?_;refine v0f 10 hC h wn rfl rfl rfl rfl λa h=>z0q ?_;clear hC J;refine bk (h.sub (L':=[(0,_),(1,_),(4,_),(10,_),(11,_),(12,_),(50,_)]) (.c7 rfl rfl rfl rfl rfl rfl rfl)) (tn (cd rfl (λc2=>?_) (λc2=>?_)));have hx:=z9b.1 c2;refine rg (mv rfl (z0v rfl rfl (wi6 (by omega)) (asg rfl (nl (bn' ?_)))));exact lpE (((i+j) / 2+1,j)) (.c5 rfl rfl rfl (by first|rfl|exact congrArg (λz=>some (Value.int .i64 z)) (by first|omega|(simp only;omega))) (by first|rfl|exact congrArg (λz=>some (Value.int .i64 z)) (by first|omega|(simp only;omega)))) ⟨(q1.n2 q2 q3),⟨⟨by simp only;omega,by simp only;omega,by simp only;omega⟩,λx h h'=>by
  have:=z5q Z (show O+1<=x by omega) (show x<=(i+j) / 2 by simp only at h';omega) (by omega);omega,hI.2.2⟩⟩ (by simp only;omega)
 have hx:¬((l).getD (((i+j) / 2)) hd0).s<((l).getD (O) hd0).s:=λe=>c2 (z9b.2 e);refine rg (mv rfl (asg rfl (nl (bn' ?_))));exact lpE ((i,(i+j) / 2)) (.c5 rfl rfl rfl (by first|rfl|exact congrArg (λz=>some (Value.int .i64 z)) (by first|omega|(simp only;omega))) (by first|rfl|exact congrArg (λz=>some (Value.int .i64 z)) (by first|omega|(simp only;omega)))) ⟨(q1.n2 q2 q3),⟨⟨by simp only;omega,by simp only;omega,by simp only;omega⟩,hI.2.1,λx h h'=>by
  have:=z5q Z (show O+1<=(i+j) / 2 by omega) (show (i+j) / 2<=x by simp only at h;omega) h';omega⟩⟩ (by simp only;omega)
 obtain rfl:i=j:=by omega
 refine ex (te (te (xh (tn (sq (sr (mv rfl (asg rfl (nn (bl ?_))))))))));replace D:=D.ext q1;refine lpK (ι:=Nat) [(0,_),(10,_)] (λk=>[(13,.int .i64 (k:Int))]) (λk w'=>Fr [g] w1 w'/\(O<=k/\k+1<=i)/\Lw.Own z3p 183 base w' (.slice (some ⟨g,0,none⟩) l.length c) (z5f l O (O+1) (k+1))) (λk=>i-k) O (.c3 rfl rfl rfl) ⟨Fr.refl _ _,⟨⟨Nat.le_refl _,by omega⟩,by rw[u4g (by omega)];exact D⟩⟩ ?_;rintro k w4 ⟨q4,⟨hk,D⟩⟩;refine kpC [(0,_),(10,_),(13,_)] (.c3 rfl rfl rfl) ?_;have f4:=z1l l O (O+1) (k+1);refine sq (sr (mv rfl (mv rfl (z2u rfl rfl (wi6 (by omega)) (lt' rfl rfl (nn (cd rfl (λc3=>?_) (λc3=>?_))))))));refine sk (tn (sq (bl ?_)));intro a h;refine z0i (some 17) (λwb w'=>Fr [g] wb w') z2o ?_;intro w5 q5;replace D:=D.ext q5;have hC:Fr [g] w5 w5:=Fr.refl _ _;have J:=D;refine z0e 0 h rfl rfl λa h=>z0e 1 h rfl rfl λa h=>z0e 2 h rfl rfl λa h=>z0e 3 h rfl rfl λa h=>z4u 4 h rfl rfl (by first|exact i6 (by omega)|rfl) rfl λa h=>z0e 5 h rfl rfl λa h=>z0e 6 h rfl rfl λa h=>z4u 7 h rfl rfl (by first|exact i6 (by omega)|rfl) rfl λa h=>z1h (p:=(k+1)) (hd0) 8 h rfl D.sl rfl z3f rfl λh0 b0 a h=>z0e 10 h rfl rfl λa h=>z0e 11 h rfl rfl λa h=>?_;refine z1h (p:=k) (hd0) 12 h rfl D.sl rfl z3f rfl λh4 b1 a h=>z2d 9 13 (by kernel_rfl) rfl rfl ?_ ?_;refine z1q h rfl (b0 _ D.sl) z5g rfl λa h=>?_;refine z0b ?_;refine z0d 13 rfl ?_;refine z1q h rfl (b1 _ D.sl) z5g rfl λa h=>?_;refine z0b ?_;refine z1o 14 (by kernel_rfl) (by kernel_rfl) (by kernel_rfl) hC (p:=k) h wn rfl rfl z3f (by omega) (by omega) (by omega) rfl rfl λa h=>z0d 15 rfl ?_;refine z1b (i:=k) (((z5f l O (O+1) (k+1)).getD (k+1) hd0)) h rfl rfl D (by rw[z1l];omega) rfl z8i λw6 I q6 _hz a h=>?_;replace hC:=hC.sp q6;clear _hz D;have D:=I;clear I;refine z0b ?_;refine z1o 16 (by kernel_rfl) (by kernel_rfl) (by kernel_rfl) hC (p:=(k+1)) h wn rfl rfl z3f (by omega) (by omega) (by omega) rfl rfl λa h=>z0d 17 rfl ?_;refine z1b (i:=(k+1)) (((z5f l O (O+1) (k+1)).getD (k) hd0)) h rfl rfl D (by rw[List.length_set,z1l];omega) rfl z8i λw7 I q7 _hz a h=>?_;clear _hz D;have D:=I;clear I;refine z1n ?_;refine z0q ?_;clear hC J;refine bk (h.sub (L':=[(0,_),(10,_),(13,_)]) (.c3 rfl rfl rfl)) (bn' (tn (rg (mv rfl (z0v rfl rfl (wi6 (by omega)) (asg rfl (nl ?_)))))));exact lpE (k+1) (.c3 rfl rfl (congrArg (λz=>some (Value.int .i64 z)) (by omega))) ⟨((Fr.refl [g] _).z4 q4 q5 q6 q7),⟨by omega,by rw[u4m (by omega) (by omega)]at D;exact D⟩⟩ (by omega);refine z1q h rfl (b1 _ D.sl) z5g rfl λa h=>?_;refine z0b ?_;refine z0d 9 rfl ?_;refine z1q h rfl (b0 _ D.sl) z5g rfl λa h=>?_;refine z0b ?_;refine z1o 14 (by kernel_rfl) (by kernel_rfl) (by kernel_rfl) hC (p:=k) h wn rfl rfl z3f (by omega) (by omega) (by omega) rfl rfl λa h=>z0d 15 rfl ?_;refine z1b (i:=k) (((z5f l O (O+1) (k+1)).getD (k+1) hd0)) h rfl rfl D (by rw[z1l];omega) rfl z8i λw8 I q8 _hz a h=>?_;replace hC:=hC.sp q8;clear _hz D;have D:=I;clear I;refine z0b ?_;refine z1o 16 (by kernel_rfl) (by kernel_rfl) (by kernel_rfl) hC (p:=(k+1)) h wn rfl rfl z3f (by omega) (by omega) (by omega) rfl rfl λa h=>z0d 17 rfl ?_;refine z1b (i:=(k+1)) (((z5f l O (O+1) (k+1)).getD (k) hd0)) h rfl rfl D (by rw[List.length_set,z1l];omega) rfl z8i λw9 I q9 _hz a h=>?_;clear _hz D;have D:=I;clear I;refine z1n ?_;refine z0q ?_;clear hC J;refine bk (h.sub (L':=[(0,_),(10,_),(13,_)]) (.c3 rfl rfl rfl)) (bn' (tn (rg (mv rfl (z0v rfl rfl (wi6 (by omega)) (asg rfl (nl ?_)))))));exact lpE (k+1) (.c3 rfl rfl (congrArg (λz=>some (Value.int .i64 z)) (by omega))) ⟨((Fr.refl [g] _).z4 q4 q5 q8 q9),⟨by omega,by rw[u4m (by omega) (by omega)]at D;exact D⟩⟩ (by omega);obtain rfl:k+1=i:=by omega
 refine ex (te (te (xh (tn (rt (tr (r0 results232  ?_)))))));exact⟨_,rfl,rfl,by rw[<-u8z (by omega) (by omega) h3 Z hI.2.1 hI.2.2];exact D,((Fr.refl [g] _).z2 q1 q4)⟩;refine sk (tn (sq (sr (mv rfl (mv rfl (z2u rfl rfl (wi6 (by omega)) (eq' rfl rfl (nn (cd rfl (λc4=>?_) (λc4=>?_))))))))));obtain rfl:b=m+1:=by omega
 refine sr (mv rfl (asg rfl (nn (sr (mv rfl (asg rfl (nn (sq (bl ?_)))))))));refine lpK (ι:=Nat×Nat) [(0,_),(2,_),(4,_)] (λp=>[(14,.int .i64 (p.1:Int)),(15,.int .i64 (p.2:Int))]) (λp w'=>Fr [] w0 w'/\(O<=p.1/\p.1<=p.2/\p.2<=m)/\(∀x,O<=x->x<p.1->(l.getD x hd0).s<=(l.getD m hd0).s)/\(∀x,p.2<=x->x<m->(l.getD m hd0).s<(l.getD x hd0).s)) (λp=>p.2-p.1) (O,m) (.c5 rfl rfl rfl rfl rfl) ⟨Fr.refl _ _,⟨⟨by simp only;omega,by simp only;omega,by simp only;omega⟩,λx h h'=>by simp only at h';omega,λx h h'=>by simp only at h;omega⟩⟩ ?_;rintro⟨i,j⟩ g4 ⟨a5,hI⟩;simp only at hI;refine kpC [(0,_),(2,_),(4,_),(14,.int .i64 (i:Int)),(15,.int .i64 (j:Int))] (.c5 rfl rfl rfl rfl rfl) (sq (sr (mv rfl (mv rfl (lt' rfl rfl (nn (cd rfl (λc5=>?_) (λc5=>?_))))))));refine sk (tn (bl (sr (mv rfl (mv rfl (z0v rfl rfl (wi6 (by omega)) (z5m rfl (us underlying3) underlying208 (IntWalk.u64_in _ (by omega)) (u2w (m:=1) (z:=(((i+j) / 2:Nat):Int)) rfl rfl (by decide) (show _ / (2:Int)=_ by omega) rfl (z5m rfl (us underlying208) underlying3 (wi6 (by omega)) (asg rfl (kpL [(0,_),(2,_),(4,_),(14,_),(15,_),(16,_)] (.c6 rfl rfl rfl rfl rfl rfl) (nn (sq ?_)))))))))))));intro a h;refine z0i none (λwb w'=>Fr [] wb w') z2o ?_;intro e3 b5;replace D:=D.ext (a5.n1 b5);have hC:Fr [] e3 e3:=Fr.refl _ _;have J:=D;refine z0e 0 h rfl rfl λa h=>z0e 1 h rfl rfl λa h=>z0e 2 h rfl rfl λa h=>z1h (p:=m) (hd0) 3 h rfl D.sl rfl z3f rfl λh5 d5 a h=>z1y 4 h wn rfl (λ_ hw=>d5 _ (J.sl.ext hw)) z5g rfl λa h=>z0e 5 h rfl rfl λa h=>z0e 6 h rfl rfl λa h=>z1h (p:=((i+j) / 2)) (hd0) 7 h rfl D.sl rfl z3f rfl λh6 d6 a h=>z1y 8 h wn rfl (λ_ hw=>d6 _ (J.sl.ext hw)) z5g rfl λa h=>z0d 9 rfl ?_;refine z9q (us:=[]) (ws:=[]) h rfl (z0a rfl (z0a rfl z0f)) (mkC func143) (x0o ((l).getD (m) hd0) ((l).getD (((i+j) / 2)) hd0) _) rfl (by intro g e;cases e) ?_;rintro _ i3 ⟨rfl,a8⟩ a h;replace D:=D.ext a8;replace hC:=hC.next a8;refine z0b ?_;refine v0f 10 hC h wn rfl rfl rfl rfl λa h=>x7a 11 hC h wn rfl rfl rfl λa h=>z0q ?_;clear hC J;refine bk (h.sub (L':=[(0,_),(2,_),(4,_),(14,_),(15,_),(16,_),(103,_)]) (.c7 rfl rfl rfl rfl rfl rfl rfl)) (tn (cd rfl (λc6=>?_) (λc6=>?_)));have hx:¬((l).getD (m) hd0).s<((l).getD (((i+j) / 2)) hd0).s:=λe=>c6 (z9b.2 e);refine rg (mv rfl (z0v rfl rfl (wi6 (by omega)) (asg rfl (nl (bn' ?_)))));exact lpE (((i+j) / 2+1,j)) (.c5 rfl rfl rfl (by first|rfl|exact congrArg (λz=>some (Value.int .i64 z)) (by first|omega|(simp only;omega))) (by first|rfl|exact congrArg (λz=>some (Value.int .i64 z)) (by first|omega|(simp only;omega)))) ⟨(a5.n2 b5 a8),⟨⟨by simp only;omega,by simp only;omega,by simp only;omega⟩,λx h h'=>by
  have:=z5q U (show O<=x by omega) (show x<=(i+j) / 2 by simp only at h';omega) (by omega);omega,hI.2.2⟩⟩ (by simp only;omega)
 have hx:=z9b.1 (Classical.not_not.1 c6);refine rg (mv rfl (asg rfl (nl (bn' ?_))));exact lpE ((i,(i+j) / 2)) (.c5 rfl rfl rfl (by first|rfl|exact congrArg (λz=>some (Value.int .i64 z)) (by first|omega|(simp only;omega))) (by first|rfl|exact congrArg (λz=>some (Value.int .i64 z)) (by first|omega|(simp only;omega)))) ⟨(a5.n2 b5 a8),⟨⟨by simp only;omega,by simp only;omega,by simp only;omega⟩,hI.2.1,λx h h'=>by
  have:=z5q U (show O<=(i+j) / 2 by omega) (show (i+j) / 2<=x by simp only at h;omega) h';omega⟩⟩ (by simp only;omega)
 obtain rfl:i=j:=by omega
 refine ex (te (te (xh (tn (sq (sr (mv rfl (asg rfl (nn (bl ?_))))))))));replace D:=D.ext a5;refine lpK (ι:=Nat) [(0,_),(14,_)] (λk=>[(17,.int .i64 (k:Int))]) (λk w'=>Fr [g] g4 w'/\(i<=k/\k<=m)/\Lw.Own z3p 183 base w' (.slice (some ⟨g,0,none⟩) l.length c) (z5f l k m (m+1))) (λk=>k) m (.c3 rfl rfl rfl) ⟨Fr.refl _ _,⟨by omega,by rw[u3h (by omega)];exact D⟩⟩ ?_;rintro k i4 ⟨b6,⟨hk,D⟩⟩;refine kpC [(0,_),(14,_),(17,_)] (.c3 rfl rfl rfl) ?_;have f4:=z1l l k m (m+1);refine sq (sr (mv rfl (mv rfl (gt' rfl rfl (nn (cd rfl (λc7=>?_) (λc7=>?_)))))));refine sk (tn (sq (bl ?_)));intro a h;refine z0i (some 17) (λwb w'=>Fr [g] wb w') z2o ?_;intro e4 b7;replace D:=D.ext b7;have hC:Fr [g] e4 e4:=Fr.refl _ _;have J:=D;refine z0e 0 h rfl rfl λa h=>z0e 1 h rfl rfl λa h=>z0e 2 h rfl rfl λa h=>z0e 3 h rfl rfl λa h=>z3b 4 h wn rfl rfl (by first|exact i6 (by omega)|rfl) rfl λa h=>z0e 5 h rfl rfl λa h=>z0e 6 h rfl rfl λa h=>z3b 7 h wn rfl rfl (by first|exact i6 (by omega)|rfl) rfl λa h=>z1h (p:=(k-1)) (hd0) 8 h rfl D.sl rfl z3f rfl λe6 a3 a h=>z0e 10 h rfl rfl λa h=>z0e 11 h rfl rfl λa h=>?_;refine z1h (p:=k) (hd0) 12 h rfl D.sl rfl z3f rfl λe7 a4 a h=>z2d 9 13 (by kernel_rfl) rfl rfl ?_ ?_;refine z1q h rfl (a3 _ D.sl) z5g rfl λa h=>?_;refine z0b ?_;refine z0d 13 rfl ?_;refine z1q h rfl (a4 _ D.sl) z5g rfl λa h=>?_;refine z0b ?_;refine z1o 14 (by kernel_rfl) (by kernel_rfl) (by kernel_rfl) hC (p:=k) h wn rfl rfl z3f (by omega) (by omega) (by omega) rfl rfl λa h=>z0d 15 rfl ?_;refine z1b (i:=k) (((z5f l k m (m+1)).getD (k-1) hd0)) h rfl rfl D (by rw[z1l];omega) rfl z8i λi5 I d9 _hz a h=>?_;replace hC:=hC.sp d9;clear _hz D;have D:=I;clear I;refine z0b ?_;refine z1o 16 (by kernel_rfl) (by kernel_rfl) (by kernel_rfl) hC (p:=(k-1)) h wn rfl rfl z3f (by omega) (by omega) (by omega) rfl rfl λa h=>z0d 17 rfl ?_;refine z1b (i:=(k-1)) (((z5f l k m (m+1)).getD (k) hd0)) h rfl rfl D (by rw[List.length_set,z1l];omega) rfl z8i λi7 I f6 _hz a h=>?_;clear _hz D;have D:=I;clear I;refine z1n ?_;refine z0q ?_;clear hC J;refine bk (h.sub (L':=[(0,_),(14,_),(17,_)]) (.c3 rfl rfl rfl)) (bn' (tn (rg (mv rfl (z2u rfl rfl (wi6 (by omega)) (asg rfl (nl ?_)))))));exact lpE ((k-1)) (.c3 rfl rfl (congrArg (λz=>some (Value.int .i64 z)) (by omega))) ⟨((Fr.refl [g] _).z4 b6 b7 d9 f6),⟨by omega,by have e:=x7i (l:=l) (m:=m) (k:=k-1) (by omega) (by omega);rw[show k-1+1=k by omega]at e;rw[e]at D;exact D⟩⟩ (by omega);refine z1q h rfl (a4 _ D.sl) z5g rfl λa h=>?_;refine z0b ?_;refine z0d 9 rfl ?_;refine z1q h rfl (a3 _ D.sl) z5g rfl λa h=>?_;refine z0b ?_;refine z1o 14 (by kernel_rfl) (by kernel_rfl) (by kernel_rfl) hC (p:=k) h wn rfl rfl z3f (by omega) (by omega) (by omega) rfl rfl λa h=>z0d 15 rfl ?_;refine z1b (i:=k) (((z5f l k m (m+1)).getD (k-1) hd0)) h rfl rfl D (by rw[z1l];omega) rfl z8i λi8 I e0 _hz a h=>?_;replace hC:=hC.sp e0;clear _hz D;have D:=I;clear I;refine z0b ?_;refine z1o 16 (by kernel_rfl) (by kernel_rfl) (by kernel_rfl) hC (p:=(k-1)) h wn rfl rfl z3f (by omega) (by omega) (by omega) rfl rfl λa h=>z0d 17 rfl ?_;refine z1b (i:=(k-1)) (((z5f l k m (m+1)).getD (k) hd0)) h rfl rfl D (by rw[List.length_set,z1l];omega) rfl z8i λi9 I f7 _hz a h=>?_;clear _hz D;have D:=I;clear I;refine z1n ?_;refine z0q ?_;clear hC J;refine bk (h.sub (L':=[(0,_),(14,_),(17,_)]) (.c3 rfl rfl rfl)) (bn' (tn (rg (mv rfl (z2u rfl rfl (wi6 (by omega)) (asg rfl (nl ?_)))))));exact lpE ((k-1)) (.c3 rfl rfl (congrArg (λz=>some (Value.int .i64 z)) (by omega))) ⟨((Fr.refl [g] _).z4 b6 b7 e0 f7),⟨by omega,by have e:=x7i (l:=l) (m:=m) (k:=k-1) (by omega) (by omega);rw[show k-1+1=k by omega]at e;rw[e]at D;exact D⟩⟩ (by omega);obtain rfl:k=i:=by omega
 refine ex (te (te (xh (tn (rt (tr (r0 results232  ?_)))))));exact⟨_,rfl,rfl,by rw[<-u5o (by omega) (by omega) h3 U (λx h h'=>hI.2.2 x h h') (λx h h'=>hI.2.1 x h h')];exact D,((Fr.refl [g] _).z2 a5 b6)⟩;refine sk (tn (sr (mv rfl (mv rfl (z0v rfl rfl (wi6 (by omega)) (z5m rfl (us underlying3) underlying208 (IntWalk.u64_in _ (by omega)) (u2w (m:=1) (z:=(mid:Int)) rfl rfl (by decide) (show _ / (2:Int)=_ by omega) rfl (z5m rfl (us underlying208) underlying3 (wi6 (by omega)) (asg rfl (kpL [(0,_),(1,_),(2,_),(3,_),(4,_),(18,_)] (.c6 rfl rfl rfl rfl rfl rfl) (nn (sr (mv rfl (mv rfl (z0v rfl rfl (wi6 (by omega)) (asg rfl (nn (sr (asg rfl (asg rfl (nn ?_)))))))))))))))))))));refine jn (ι:=Unit) [(0,_),(1,_),(2,_),(3,_),(4,_),(18,_),(19,_)] (λ_j=>[(20,.int .i64 ((((if mid<m then mid+m-b else O):Nat)):Int)),(21,.int .i64 ((((if mid<m then mid else m):Nat)):Int))]) (λ_j w'=>Fr [] w0 w') (.c7 rfl rfl rfl rfl rfl rfl rfl) ?_ ?_;refine sr (mv rfl (mv rfl (gt' rfl rfl (nn (cd rfl (λc8=>?_) (λc8=>?_))))));refine sr (mv rfl (mv rfl (z2u rfl rfl (wi6 (by omega)) (asg rfl (nn (rg (mv rfl (asg rfl (nl ?_)))))))));exact jE (()) (.d8 rfl rfl rfl rfl rfl rfl rfl (congrArg (λz=>some (Value.int .i64 z)) (by split<;>omega)) (.cons (congrArg (λz=>some (Value.int .i64 z)) (by split<;>omega)) .nil)) (Fr.refl _ _);refine sr (mv rfl (asg rfl (nn (rg (mv rfl (asg rfl (nl ?_)))))));exact jE (()) (.d8 rfl rfl rfl rfl rfl rfl rfl (congrArg (λz=>some (Value.int .i64 z)) (by split<;>omega)) (.cons (congrArg (λz=>some (Value.int .i64 z)) (by split<;>omega)) .nil)) (Fr.refl _ _);rintro _j g5 a6;refine kpC [(0,_),(1,_),(2,_),(3,_),(4,_),(18,_),(19,_),(20,_),(21,_)] (.d8 rfl rfl rfl rfl rfl rfl rfl rfl (.cons rfl .nil)) (sr (mv rfl (z2u rfl rfl (wi6 (by omega)) (asg rfl (nn (sq (bl ?_)))))));refine lpK (ι:=Nat×Nat) [(0,_),(1,_),(2,_),(3,_),(4,_),(18,_),(19,_),(22,_)] (λp=>[(20,.int .i64 (p.1:Int)),(21,.int .i64 (p.2:Int))]) (λp w'=>Fr [] g5 w'/\Sch l (mid+m-1) (if mid<m then mid+m-b else O) (if mid<m then mid else m) p.1 p.2) (λp=>p.2-p.1) ((if mid<m then mid+m-b else O),(if mid<m then mid else m)) (.d8 rfl rfl rfl rfl rfl rfl rfl rfl (.c2 rfl rfl)) ⟨Fr.refl _ _,j6j (by split<;>omega)⟩ ?_;rintro⟨s,r⟩ g6 ⟨a1,hI⟩;simp only at hI;refine kpC [(0,_),(1,_),(2,_),(3,_),(4,_),(18,_),(19,_),(22,_),(20,.int .i64 (s:Int)),(21,.int .i64 (r:Int))] (.d8 rfl rfl rfl rfl rfl rfl rfl rfl (.c2 rfl rfl)) ?_;have b9:=hI.lo;have i0:=hI.le;have f3:=hI.hi;have h8:O<=s:=by split at b9<;>omega
 have i1:r<=m/\r<=mid:=by split at f3<;>omega
 have h9:mid+m<=b+s:=by split at b9<;>omega
 refine sq (sr (mv rfl (mv rfl (lt' rfl rfl (nn (cd rfl (λc9=>?_) (λc9=>?_)))))));refine sk (tn (bl (sr (mv rfl (mv rfl (z0v rfl rfl (wi6 (by omega)) (z5m rfl (us underlying3) underlying208 (IntWalk.u64_in _ (by omega)) (u2w (m:=1) (z:=(((s+r) / 2:Nat):Int)) rfl rfl (by decide) (show _ / (2:Int)=_ by omega) rfl (z5m rfl (us underlying208) underlying3 (wi6 (by omega)) (asg rfl (kpL [(0,_),(1,_),(2,_),(3,_),(4,_),(18,_),(19,_),(20,_),(21,_),(22,_),(23,_)] (.d8 rfl rfl rfl rfl rfl rfl rfl rfl (.c3 rfl rfl rfl)) (nn (sq ?_)))))))))))));intro a h;refine z0i none (λwb w'=>Fr [] wb w') z2o ?_;intro e5 b8;replace D:=D.ext (a6.n2 a1 b8);have hC:Fr [] e5 e5:=Fr.refl _ _;have J:=D;refine z0e 0 h rfl rfl λa h=>z0e 1 h rfl rfl λa h=>z0e 2 h rfl rfl λa h=>z0e 3 h rfl rfl λa h=>z3b 4 h wn rfl rfl (by first|exact i6 (by omega)|rfl) rfl λa h=>z1h (p:=((mid+m-1)-((s+r) / 2))) (hd0) 5 h rfl D.sl rfl z3f rfl λe8 b3 a h=>z1y 6 h wn rfl (λ_ hw=>b3 _ (J.sl.ext hw)) z5g rfl λa h=>z0e 7 h rfl rfl λa h=>z0e 8 h rfl rfl λa h=>z1h (p:=((s+r) / 2)) (hd0) 9 h rfl D.sl rfl z3f rfl λe9 b4 a h=>z1y 10 h wn rfl (λ_ hw=>b4 _ (J.sl.ext hw)) z5g rfl λa h=>?_;refine z0d 11 rfl ?_;refine z9q (us:=[]) (ws:=[]) h rfl (z0a rfl (z0a rfl z0f)) (mkC func143) (x0o ((l).getD ((mid+m-1)-((s+r) / 2)) hd0) ((l).getD (((s+r) / 2)) hd0) _) rfl (by intro g e;cases e) ?_;rintro _ j0 ⟨rfl,a9⟩ a h;replace D:=D.ext a9;replace hC:=hC.next a9;refine z0b ?_;refine v0f 12 hC h wn rfl rfl rfl rfl λa h=>x7a 13 hC h wn rfl rfl rfl λa h=>z0q ?_;clear hC J;refine bk (h.sub (L':=[(0,_),(1,_),(2,_),(3,_),(4,_),(18,_),(19,_),(20,_),(21,_),(22,_),(23,_),(171,_)]) (.d8 rfl rfl rfl rfl rfl rfl rfl rfl (.c4 rfl rfl rfl rfl))) (tn (cd rfl (λb2=>?_) (λb2=>?_)));have hx:¬((l).getD ((mid+m-1)-((s+r) / 2)) hd0).s<((l).getD (((s+r) / 2)) hd0).s:=λe=>b2 (z9b.2 e);refine rg (mv rfl (z0v rfl rfl (wi6 (by omega)) (asg rfl (nl (bn' ?_)))));exact lpE (((s+r) / 2+1,r)) (.d8 rfl rfl rfl rfl rfl rfl rfl rfl (.c2 (by first|rfl|exact congrArg (λz=>some (Value.int .i64 z)) (by first|omega|(simp only;omega))) (by first|rfl|exact congrArg (λz=>some (Value.int .i64 z)) (by first|omega|(simp only;omega))))) ⟨(a1.n2 b8 a9),j4s hI (by omega) U Z (by split<;>omega) (by split<;>omega) (by split<;>omega) rfl (by split<;>omega) hx⟩ (by simp only;omega);have hx:=z9b.1 (Classical.not_not.1 b2);refine rg (mv rfl (asg rfl (nl (bn' ?_))));exact lpE ((s,(s+r) / 2)) (.d8 rfl rfl rfl rfl rfl rfl rfl rfl (.c2 (by first|rfl|exact congrArg (λz=>some (Value.int .i64 z)) (by first|omega|(simp only;omega))) (by first|rfl|exact congrArg (λz=>some (Value.int .i64 z)) (by first|omega|(simp only;omega))))) ⟨(a1.n2 b8 a9),v8i hI (by omega) U Z (by split<;>omega) (by split<;>omega) (by split<;>omega) rfl (by split<;>omega) hx⟩ (by simp only;omega);obtain rfl:s=r:=by have:=hI.le;omega
 obtain⟨hX,hY⟩:=u1g hI U Z (by split<;>omega) (by split<;>omega) rfl (by split<;>omega) (by split<;>omega) (by split<;>omega);have d7:=hI.lo;have f5:=hI.hi;have a2:O<=s:=by split at d7<;>omega
 have a0:s<=m/\s<=mid:=by split at f5<;>omega
 have i2:mid+m<=b+s:=by split at d7<;>omega
 have d0:=y9w a2 a0.1 (show m<=mid+m-s by omega) (show mid+m-s<=l.length by omega) (show mid=s+(mid+m-s-m) by omega) U b Z (by omega);have d1:=x7u a2 a0.1 (show m<=mid+m-s by omega) (show mid+m-s<=b by omega) h3 (show mid=s+(mid+m-s-m) by omega) U Z;have a7:(z7u (z5f l s m (mid+m-s)) O mid mid).length=l.length:=by rw[x1l (by omega) (by rw[z1l];omega),z1l]
 refine ex (te (te (xh (tn (sr (mv rfl (mv rfl (z2u rfl rfl (wi6 (by omega)) (asg rfl (kpL [(0,_),(1,_),(2,_),(3,_),(4,_),(18,_),(20,_),(24,_)] (.c8 rfl rfl rfl rfl rfl rfl rfl rfl) (nn ?_)))))))))));refine jn (ι:=Unit) [(0,_),(1,_),(3,_),(4,_),(18,_),(20,_),(24,_)] (λ_j=>[]) (λ_j w'=>Fr [g] g6 w'/\Lw.Own z3p 183 base w' (.slice (some ⟨g,0,none⟩) l.length c) (z5f l s m (mid+m-s))) (.c7 rfl rfl rfl rfl rfl rfl rfl) ?_ ?_;refine sq ?_;refine rbo (r:=185) (L':=[(0,_),(1,_),(2,_),(3,_),(4,_),(18,_),(20,_),(24,_)]) ((((s:Int)<(m:Int))/\((m:Int)<(((mid:Int)+(m:Int))-(s:Int))))) (.c8 rfl rfl rfl rfl rfl rfl rfl rfl) ?_ ?_;refine mv rfl (mv rfl (lt' rfl rfl (mv rfl (gs 181 rfl (λg0=>?_) (λg0=>?_)))));exact gY rfl (mv rfl (gY rfl (mv rfl (gY rfl (lt' rfl rfl (pkt rfl rfl (rbe rfl (.c8 rfl rfl rfl rfl rfl rfl rfl rfl))))))));exact gN rfl rfl (gN rfl rfl (gN rfl rfl (pkf rfl rfl (rbe rfl (.c8 rfl rfl rfl rfl rfl rfl rfl rfl)))));refine tn (cd rfl (λf0=>?_) (λf0=>?_));refine rg (mv rfl (mv rfl (mv rfl (mv rfl (mv rfl ?_)))));replace D:=D.ext (a6.n1 a1);refine cl (z0a rfl (z0a rfl (z0a rfl (z0a rfl (z0a rfl z0f))))) (mkC func252) (j5a g c base s m (mid+m-s) _ _ _ l _ rfl rfl (by omega) D hl (by omega)) rfl ?_;rintro _ j1 ⟨rfl,D,f8⟩;refine kpL [(0,_),(1,_),(3,_),(4,_),(18,_),(20,_),(24,_)] (.c7 rfl rfl rfl rfl rfl rfl rfl) (nl ?_);exact jE (()) (.c7 rfl rfl rfl rfl rfl rfl rfl) ⟨((Fr.refl [g] _).z1 f8),D⟩;refine sk ?_;replace D:=D.ext (a6.n1 a1);exact jE (()) (.c7 rfl rfl rfl rfl rfl rfl rfl) ⟨(Fr.refl _ _),(by rw[j3t (by omega) a0.1 (by omega)];exact D)⟩;rintro _j g7 ⟨e1,D⟩;refine kpC [(0,_),(1,_),(3,_),(4,_),(18,_),(20,_),(24,_)] (.c7 rfl rfl rfl rfl rfl rfl rfl) ?_;refine jn (ι:=Unit) [(0,_),(3,_),(4,_),(18,_),(24,_)] (λ_j=>[]) (λ_j w'=>Fr [g] g7 w'/\Lw.Own z3p 183 base w' (.slice (some ⟨g,0,none⟩) l.length c) (z7u (z5f l s m (mid+m-s)) O mid mid)) (.c5 rfl rfl rfl rfl rfl) ?_ ?_;refine sq ?_;refine rbo (r:=199) (L':=[(0,_),(1,_),(3,_),(4,_),(18,_),(20,_),(24,_)]) ((((O:Int)<(s:Int))/\((s:Int)<(mid:Int)))) (.c7 rfl rfl rfl rfl rfl rfl rfl) ?_ ?_;refine mv rfl (mv rfl (lt' rfl rfl (mv rfl (gs 195 rfl (λg1=>?_) (λg1=>?_)))));exact gY rfl (mv rfl (gY rfl (mv rfl (gY rfl (lt' rfl rfl (pkt rfl rfl (rbe rfl (.c7 rfl rfl rfl rfl rfl rfl rfl))))))));exact gN rfl rfl (gN rfl rfl (gN rfl rfl (pkf rfl rfl (rbe rfl (.c7 rfl rfl rfl rfl rfl rfl rfl)))));refine tn (cd rfl (λf1=>?_) (λf1=>?_));refine rg (mv rfl (mv rfl (mv rfl (mv rfl (mv rfl ?_)))));refine cl (z0a rfl (z0a rfl (z0a rfl (z0a rfl (z0a rfl z0f))))) (mkC func232) (by have x:=ih O s mid ↑O ↑s ↑mid (z5f l s m (mid+m-s)) _ (by omega) rfl rfl rfl (by rw[z1l];exact D) (by rw[z1l];exact hl) (by omega) (by omega) (by rw[z1l];omega) d0.1 d0.2;rw[z1l]at x;exact x) rfl ?_;rintro _ j2 ⟨rfl,D,f9⟩;refine kpL [(0,_),(3,_),(4,_),(18,_),(24,_)] (.c5 rfl rfl rfl rfl rfl) (nl ?_);exact jE (()) (.c5 rfl rfl rfl rfl rfl) ⟨((Fr.refl [g] _).z1 f9),D⟩;refine sk ?_;exact jE (()) (.c5 rfl rfl rfl rfl rfl) ⟨(Fr.refl _ _),(by rw[skip1 (by omega) a2 a0.1 (by omega) (by omega) (by omega) U b Z (by omega)];exact D)⟩;rintro _j j3 ⟨e2,D⟩;refine kpC [(0,_),(3,_),(4,_),(18,_),(24,_)] (.c5 rfl rfl rfl rfl rfl) (sq ?_);refine rbo (r:=213) (L':=[(0,_),(3,_),(4,_),(18,_),(24,_)]) ((((mid:Int)<(((mid:Int)+(m:Int))-(s:Int)))/\((((mid:Int)+(m:Int))-(s:Int))<(b:Int)))) (.c5 rfl rfl rfl rfl rfl) ?_ ?_;refine mv rfl (mv rfl (lt' rfl rfl (mv rfl (gs 209 rfl (λg2=>?_) (λg2=>?_)))));exact gY rfl (mv rfl (gY rfl (mv rfl (gY rfl (lt' rfl rfl (pkt rfl rfl (rbe rfl (.c5 rfl rfl rfl rfl rfl))))))));exact gN rfl rfl (gN rfl rfl (gN rfl rfl (pkf rfl rfl (rbe rfl (.c5 rfl rfl rfl rfl rfl)))));refine tn (cd rfl (λf2=>?_) (λf2=>?_));refine rg (mv rfl (mv rfl (mv rfl (mv rfl (mv rfl ?_)))));refine cl (z0a rfl (z0a rfl (z0a rfl (z0a rfl (z0a rfl z0f))))) (mkC func232) (by have x:=ih mid (mid+m-s) b ↑mid (↑mid + ↑m - ↑s) ↑b (z7u (z5f l s m (mid+m-s)) O mid mid) _ (by omega) rfl (by omega) rfl (by rw[a7];exact D) (by rw[a7];exact hl) (by omega) (by omega) (by rw[a7];omega) d1.1 d1.2;rw[a7]at x;exact x) rfl ?_;rintro _ j4 ⟨rfl,D,g3⟩;refine kpL [] .nil (nl (r0n results232  ?_));exact⟨_,rfl,rfl,by rw[<-y1a a2 a0.1 (show m<=mid+m-s by omega) (show mid+m-s<=b by omega) h3 (show mid=s+(mid+m-s-m) by omega) U Z hX hY];exact D,((Fr.refl [g] _).z5 a6 a1 e1 e2 g3)⟩;refine sk (r0n results232  ?_);exact⟨_,rfl,rfl,by rw[<-y1a a2 a0.1 (show m<=mid+m-s by omega) (show mid+m-s<=b by omega) h3 (show mid=s+(mid+m-s-m) by omega) U Z hX hY];rw[j6b (by omega) a2 a0.1 (by omega) (by omega) h3 (by omega) U Z];exact D,((Fr.refl [g] _).z4 a6 a1 e1 e2)⟩
set_option maxHeartbeats 2000000 in
theorem u4z (g c base:Nat)(l:List Hd)(w0:World)(J:Lw.Own z3p 183 base w0 (.slice (some ⟨g,0,none⟩) l.length c) l)(hl:l.length<=1000000):Rets prog 194 #[.slice (some ⟨g,0,none⟩) l.length c,.int .i64 (l.length:Int),.func (.func 143) #[] #[]] w0 λr w'=>r=.tuple #[]/\Lw.Own z3p 183 base w' (.slice (some ⟨g,0,none⟩) l.length c) (z5e l)/\Fr [g] w0 w':=by
 refine we [(0,.slice (some ⟨g,0,none⟩) l.length c),(1,.int .i64 (l.length:Int)),(2,.func (.func 143) #[] #[])] func194 rfl ntmps194 rfl (.c3 rfl rfl rfl) (sr (asg rfl (nn (sr (mv rfl (asg rfl (asg rfl (nn (sq (bl ?_))))))))));refine lpK (ι:=Nat×List Hd) [(0,_),(1,_),(2,_),(6,_)] (λp=>[(7,.int .i64 (p.1:Int)),(8,.int .i64 ((p.1+20:Nat):Int))]) (λp w'=>Fr [g] w0 w'/\(p.2.length=p.1/\p.1<=l.length/\chk 20 l=p.2++chk 20 (l.drop p.1))/\Lw.Own z3p 183 base w' (.slice (some ⟨g,0,none⟩) l.length c) (p.2++l.drop p.1)) (λp=>l.length-p.1) (0,[]) (.c6 rfl rfl rfl rfl rfl rfl) ⟨Fr.refl _ _,⟨⟨rfl,Nat.zero_le _,rfl⟩,by simpa using J⟩⟩ ?_;rintro⟨I,D⟩ w1 ⟨Z,⟨O,J⟩⟩;simp only at O J;refine kpC [(0,_),(1,_),(2,_),(6,_),(7,.int .i64 (I:Int)),(8,.int .i64 ((I+20:Nat):Int))] (.c6 rfl rfl rfl rfl rfl rfl) ?_;have M:(D++l.drop I).length=l.length:=by rw[List.length_append,List.length_drop];omega
 refine sq (sr (mv rfl (mv rfl (le' rfl rfl rfl (nn (cd rfl (λc0=>?_) (λc0=>?_)))))));refine sk (tn (bl (sr (mv rfl (mv rfl (mv rfl (mv rfl ?_)))))));refine cl (ev4 rfl rfl rfl rfl) (mkC func231) (by have x:=u3l g c base I (I+20) (D++l.drop I) _ (by rw[M];exact J) (by omega) (by omega);rw[M]at x;exact x) rfl ?_;rintro _ w2 ⟨rfl,J,q2⟩;refine kpL [(0,_),(1,_),(2,_),(6,_),(8,_)] (.c5 rfl rfl rfl rfl rfl) (nn (sr (mv rfl (asg rfl (nn (rg (mv rfl (mv rfl (z0v rfl rfl (wi6 (by omega)) (asg rfl (nl (bn' ?_))))))))))));exact lpE ((I+20,D++z5e (seg l I (I+20)))) (.c6 rfl rfl rfl rfl (by first|rfl|exact congrArg (λz=>some (Value.int .i64 z)) (by first|omega|(simp only;omega))) (by first|rfl|exact congrArg (λz=>some (Value.int .i64 z)) (by first|omega|(simp only;omega)))) ⟨((Fr.refl [g] _).z2 Z q2),⟨⟨by simp only;rw[List.length_append,z4d,z2b (by omega)];omega,by simp only;omega,by simp only;rw[O.2.2,y0m (by decide) (by omega),List.append_assoc]⟩,by simp only;rw[<-v7v O.1 (by omega)];exact J⟩⟩ (by simp only;omega);refine ex (te (te (xh (tn (sr (mv rfl (mv rfl (mv rfl (mv rfl ?_)))))))));refine cl (ev4 rfl rfl rfl rfl) (mkC func231) (by have x:=u3l g c base I l.length (D++l.drop I) _ (by rw[M];exact J) (by omega) (by omega);rw[M]at x;exact x) rfl ?_;rintro _ w3 ⟨rfl,J,q3⟩;rw[u0g (B:=20) O.1 O.2.1 (by omega),<-O.2.2]at J;refine kpL [(0,_),(1,_),(2,_),(6,_)] (.c4 rfl rfl rfl rfl) (nn (bl ?_));refine lpK (ι:=Nat) [(0,_),(1,_),(2,_)] (λB=>[(6,.int .i64 (B:Int))]) (λB w'=>Fr [g] w3 w'/\(20<=B/\B<=4000000)/\Lw.Own z3p 183 base w' (.slice (some ⟨g,0,none⟩) l.length c) (chk B l)) (λB=>l.length-B) 20 (.c4 rfl rfl rfl rfl) ⟨Fr.refl _ _,⟨by omega,J⟩⟩ ?_;rintro B w4 ⟨q4,⟨hB,J⟩⟩;refine kpC [(0,_),(1,_),(2,_),(6,_)] (.c4 rfl rfl rfl rfl) (sq (sr (mv rfl (mv rfl (lt' rfl rfl (nn (cd rfl (λc1=>?_) (λc1=>?_))))))));refine sk (tn (bl (sr (mv rfl (x5q rfl rfl (wi6 (by omega)) rfl (asg rfl (asg rfl (nn (sq (bl ?_))))))))));refine lpK (ι:=Nat×List Hd) [(0,_),(1,_),(2,_),(6,_)] (λp=>[(7,.int .i64 (p.1:Int)),(8,.int .i64 ((p.1+2*B:Nat):Int))]) (λp w'=>Fr [g] w4 w'/\(p.2.length=p.1/\p.1<=l.length/\chk (2*B) l=p.2++chk (2*B) (l.drop p.1))/\Lw.Own z3p 183 base w' (.slice (some ⟨g,0,none⟩) l.length c) (p.2++chk B (l.drop p.1))) (λp=>l.length-p.1) (0,[]) (.c6 rfl rfl rfl rfl rfl (by first|rfl|exact congrArg (λz=>some (Value.int .i64 z)) (by first|omega|(simp only;omega)))) ⟨Fr.refl _ _,⟨⟨rfl,Nat.zero_le _,rfl⟩,by simpa using J⟩⟩ ?_;rintro⟨I,D⟩ w5 ⟨q5,⟨O,J⟩⟩;simp only at O J;refine kpC [(0,_),(1,_),(2,_),(6,_),(7,.int .i64 (I:Int)),(8,.int .i64 ((I+2*B:Nat):Int))] (.c6 rfl rfl rfl rfl rfl rfl) ?_;have M:(D++chk B (l.drop I)).length=l.length:=by rw[List.length_append,v2k B _ _ (Nat.le_refl _),List.length_drop];omega
 refine sq (sr (mv rfl (mv rfl (le' rfl rfl rfl (nn (cd rfl (λc2=>?_) (λc2=>?_)))))));have U:=x1u (l:=l) (D:=D) (a:=I) (B:=B) (C:=B) O.1 (by omega) (Nat.le_refl _) (by omega) (chk B (l.drop (I+(B+B)))) (by rw[show I+(B+B)=I+B+B by omega];exact y0m (by omega) (by omega));refine sk (tn (bl (sr (mv rfl (mv rfl (mv rfl (mv rfl (z0v rfl rfl (wi6 (by omega)) (mv rfl (mv rfl ?_))))))))));refine cl (z0a rfl (z0a rfl (z0a rfl (z0a rfl (z0a rfl z0f))))) (mkC func232) (by have x:=u3k g c base (2*B) I (I+B) (I+2*B) ↑I (↑I + ↑B) ↑(I+2*B) (D++chk B (l.drop I)) _ (by omega) rfl (by omega) rfl (by rw[M];exact J) (by omega) (by omega) (by omega) (by omega) U.2.1 (by rw[show I+2*B=I+(B+B) by omega];exact U.2.2);rw[M]at x;exact x) rfl ?_;rintro _ w6 ⟨rfl,J,q6⟩;refine kpL [(0,_),(1,_),(2,_),(6,_),(8,_)] (.c5 rfl rfl rfl rfl rfl) (nn (sr (mv rfl (asg rfl (nn (rg (mv rfl (mv rfl (x5q rfl rfl (wi6 (by omega)) rfl (z0v rfl rfl (wi6 (by omega)) (asg rfl (nl (bn' ?_)))))))))))));exact lpE ((I+2*B,D++z5e (seg l I (I+2*B)))) (.c6 rfl rfl rfl rfl (by first|rfl|exact congrArg (λz=>some (Value.int .i64 z)) (by first|omega|(simp only;omega))) (by first|rfl|exact congrArg (λz=>some (Value.int .i64 z)) (by first|omega|(simp only;omega)))) ⟨((Fr.refl [g] _).z2 q5 q6),⟨⟨by simp only;rw[List.length_append,z4d,z2b (by omega)];omega,by simp only;omega,by simp only;rw[O.2.2,y0m (by omega) (by omega),List.append_assoc]⟩,by simp only;rw[show I+2*B=I+(B+B) by omega,U.1]at J;rw[show I+2*B=I+(B+B) by omega];exact J⟩⟩ (by simp only;omega);refine ex (te (te (xh (tn ?_))));refine jn (ι:=Unit) [(0,_),(1,_),(2,_),(6,_)] (λ_j=>[]) (λ_j w'=>Fr [g] w5 w'/\Lw.Own z3p 183 base w' (.slice (some ⟨g,0,none⟩) l.length c) (chk (2*B) l)) (.c4 rfl rfl rfl rfl) ?_ ?_;refine sr (mv rfl (mv rfl (z0v rfl rfl (wi6 (by omega)) (asg rfl (nn (sr (mv rfl (mv rfl (lt' rfl rfl (nn (cd rfl (λc3=>?_) (λc3=>?_))))))))))));have U:=x1u (l:=l) (D:=D) (a:=I) (B:=B) (C:=l.length-(I+B)) O.1 (by omega) (by omega) (by omega) [] (by rw[List.append_nil,y0e (by rw[List.length_drop];omega),show I+(B+(l.length-(I+B)))=l.length by omega];unfold seg;rw[List.take_length]);rw[show I+(B+(l.length-(I+B)))=l.length by omega,List.append_nil]at U;refine rg (mv rfl (mv rfl (mv rfl (mv rfl (mv rfl ?_)))));refine cl (z0a rfl (z0a rfl (z0a rfl (z0a rfl (z0a rfl z0f))))) (mkC func232) (by have x:=u3k g c base (2*B) I (I+B) l.length ↑I (↑I + ↑B) ↑l.length (D++chk B (l.drop I)) _ (by omega) rfl (by omega) rfl (by rw[M];exact J) (by omega) (by omega) (by omega) (by omega) U.2.1 U.2.2;rw[M]at x;exact x) rfl ?_;rintro _ w7 ⟨rfl,J,q7⟩;refine kpL [(0,_),(1,_),(2,_),(6,_)] (.c4 rfl rfl rfl rfl) (nl ?_);exact jE (()) (.c4 rfl rfl rfl rfl) ⟨((Fr.refl [g] _).z1 q7),(by rw[U.1]at J;rw[O.2.2,y0e (show (l.drop I).length<=2*B by rw[List.length_drop];omega),show l.drop I=seg l I l.length by unfold seg;rw[List.take_length]];exact J)⟩;refine sk ?_;exact jE (()) (.c4 rfl rfl rfl rfl) ⟨(Fr.refl _ _),(by rw[y0e (show (l.drop I).length<=B by rw[List.length_drop];omega)]at J;rw[O.2.2,y0e (show (l.drop I).length<=2*B by rw[List.length_drop];omega)];exact J)⟩;rintro _j w8 ⟨q8,J⟩;refine kpC [(0,_),(1,_),(2,_),(6,_)] (.c4 rfl rfl rfl rfl) (rg (mv rfl (x5q rfl rfl (wi6 (by omega)) rfl (asg rfl (nl (bn' ?_))))));exact lpE (2*B) (.c4 rfl rfl rfl (congrArg (λz=>some (Value.int .i64 z)) (by omega))) ⟨((Fr.refl [g] _).z3 q4 q5 q8),⟨by omega,J⟩⟩ (by omega);refine ex (te (te (xh (r0n results194  ?_))));exact⟨_,rfl,rfl,by rw[y0e (by omega)]at J;exact J,((Fr.refl [g] _).z3 Z q3 q4)⟩
theorem v0k:z3u prog 246 5:=⟨λ_=>by kernel_rfl,λ_=>by kernel_rfl⟩
theorem y1z:ElemOf prog 242 246 z4o 40:=ElemOf.mk' (z:=(.agg #[.int .u8 0,.int .i64 0,.int .u8 0,.int .i64 0,.int .i64 0])) underlying242 (by kernel_rfl) rfl
theorem v4t:z1p prog 246 5:=λ_=>by kernel_rfl
theorem u2c (w:World):(zeroValue 183).run prog w=.ok (.agg #[(.int .u8 0),(.int .i64 0),(.int .u8 0),(.int .i64 0),(.int .i64 0)]) w:=by kernel_rfl
theorem j0s (w:World):(zeroValue 246).run prog w=.ok (.agg #[(.int .u8 0),(.int .i64 0),(.int .u8 0),(.int .i64 0),(.int .i64 0)]) w:=by kernel_rfl
theorem u0r (g c base:Nat)(l:List Hd)(w0:World)(D:Lw.Own z3p 183 base w0 (.slice (some ⟨g,0,none⟩) l.length c) l)(hl:l.length<=1000000):Rets prog 142 #[.slice (some ⟨g,0,none⟩) l.length c,.func (.func 143) #[] #[]] w0 λr w'=>r=.tuple #[]/\Lw.Own z3p 183 base w' (.slice (some ⟨g,0,none⟩) l.length c) (z5e l)/\Fr [g] w0 w':=by
 refine we [(0,.slice (some ⟨g,0,none⟩) l.length c),(1,.func (.func 143) #[] #[])] func142 rfl ntmps142 rfl (.c2 rfl rfl) (rg (mv rfl (mv rfl (lnS rfl underlying179 (mv rfl (cl (ev3 rfl rfl rfl) (mkC func194) (u4z g c base l _ D hl) rfl ?_))))));rintro _ w1 ⟨rfl,D,I⟩;refine kpL [] .nil (nl (r0n results142  ?_));exact⟨_,rfl,rfl,D,((Fr.refl [g] _).z1 I)⟩
theorem v0d (v:Value)(l:List Hd)(w0:World)(I:Sl z3p w0 v l)(hl:l.length<=100000):Rets prog 144 #[v] w0 λr w'=>∃g,r=.slice (some ⟨g,0,none⟩) l.length l.length/\w0.heap.size<=g/\Lw.Own z3p 183 w0.heap.size w' r l/\Fr [] w0 w':=by
 obtain⟨A,c,rfl,a0,Z,U⟩:=id I;clear U;unfold maxLen at Z;refine we [(0,.slice A l.length c)] func144 rfl ntmps144 rfl (.cons rfl .nil) ?_;have J:=I;refine sr (asg rfl (nn (sr (mv rfl (lnS rfl underlying179 (z1f (m:=l.length) (c:=l.length) (hd0) rfl rfl z3f u2c rfl (λO w1 a1 D M z1=>(asg rfl (nn (sr (mv rfl (mv rfl ?_))))))))))));replace I:=J.ext M;refine z7k (zs:=List.replicate l.length hd0) (by rw[List.length_replicate];rfl) rfl (by rw[List.length_replicate];exact D) I (by rw[List.length_replicate]) z3f (λw2 D q2 z2=>?_);rw[List.length_replicate]at D;refine nn (sr (mv rfl (asg rfl (nn (rt (r1 results144 rfl ?_))))));exact⟨_,rfl,O,rfl,by omega,D.low (by omega),(M.z1 q2)⟩
theorem v9s (g c base:Nat)(ys:List LId)(w0:World)(I:Lw.Own z1k 87 base w0 (.slice (some ⟨g,0,none⟩) ys.length c) ys)(hl:ys.length<=1000000):Rets prog 200 #[.slice (some ⟨g,0,none⟩) ys.length c] w0 λr w'=>Lw.Own z1k 87 base w' (.slice (some ⟨g,0,none⟩) ys.length c) ys.reverse/\Fr [g] w0 w':=by
 refine we [(0,.slice (some ⟨g,0,none⟩) ys.length c)] func200 rfl ntmps200 rfl (.cons rfl .nil) (sr (mv rfl (lnS rfl underlying37 (z2u rfl rfl (wi6 (by omega)) (asg rfl (asg rfl (nn (bl ?_))))))));refine lpK (ι:=Nat) [(0,_)] (λk=>[(2,.int .i64 (k:Int)),(3,.int .i64 ((ys.length:Int)-1-(k:Int)))]) (λk w'=>Fr [g] w0 w'/\k<=ys.length/\∃zs,j0f id0 ys zs k/\Lw.Own z1k 87 base w' (.slice (some ⟨g,0,none⟩) ys.length c) zs) (λk=>ys.length-k) 0 (.c3 rfl rfl (congrArg (λz=>some (Value.int .i64 z)) (by omega))) ⟨Fr.refl _ _,⟨Nat.zero_le _,_,v2e _ _,I⟩⟩ ?_;rintro k w1 ⟨q1,⟨hk,zs,Z,I⟩⟩;refine kpC [(0,_),(2,_),(3,_)] (.c3 rfl rfl rfl) (sq (sr (mv rfl (mv rfl (lt' rfl rfl (nn (cd rfl (λc0=>?_) (λc0=>?_))))))));obtain⟨a2,-⟩:=id Z;have U:k<ys.length-1-k:=by omega
 refine sk (tn (sq (bl ?_)));intro a h;refine z0i (some 15) (λwb w'=>Fr [g] wb w') z2o ?_;intro w2 q2;replace I:=I.ext q2;have hC:Fr [g] w2 w2:=Fr.refl _ _;have O:=I;refine z0e 0 h rfl rfl λa h=>z0e 1 h rfl rfl λa h=>z0e 2 h rfl rfl λa h=>z0e 3 h rfl rfl λa h=>z0e 4 h rfl rfl λa h=>z0e 5 h rfl rfl λa h=>z1h (p:=(ys.length-1-k)) (id0) 6 h rfl I.sl rfl z6j rfl λa0 J a h=>z0e 8 h rfl rfl λa h=>z0e 9 h rfl rfl λa h=>z1h (p:=k) (id0) 10 h rfl I.sl rfl z6j rfl λa1 M a h=>z2d 7 11 (by kernel_rfl) rfl rfl ?_ ?_;refine z1q h rfl (J _ I.sl) z3o rfl λa h=>?_;refine z0b ?_;refine z0d 11 rfl ?_;refine z1q h rfl (M _ I.sl) z3o rfl λa h=>?_;refine z0b ?_;refine z1o 12 (by kernel_rfl) (by kernel_rfl) (by kernel_rfl) hC (p:=k) h wn rfl rfl z6j (by omega) (by omega) (by omega) rfl rfl λa h=>z0d 13 rfl ?_;refine z1b (i:=k) (zs.getD (ys.length-1-k) id0) h rfl rfl I (by omega) rfl y1u λw3 D q3 _hz a h=>?_;replace hC:=hC.sp q3;clear _hz I;have I:=D;clear D;refine z0b ?_;refine z1o 14 (by kernel_rfl) (by kernel_rfl) (by kernel_rfl) hC (p:=(ys.length-1-k)) h wn rfl rfl z6j (by omega) (by omega) (by omega) rfl rfl λa h=>z0d 15 rfl ?_;refine z1b (i:=(ys.length-1-k)) (zs.getD k id0) h rfl rfl I (by rw[List.length_set];omega) rfl y1u λw4 D q4 _hz a h=>?_;clear _hz I;have I:=D;clear D;refine z1n ?_;refine z0q ?_;clear hC O;refine bk (h.sub (L':=[(0,_),(2,_),(3,_)]) (.c3 rfl rfl rfl)) (bn' (tn (rg (mv rfl (z0v rfl rfl (wi6 (by omega)) (mv rfl (z2u rfl rfl (wi6 (by omega)) (asg rfl (asg rfl (nl ?_))))))))));exact lpE (k+1) (.c3 rfl rfl (congrArg (λz=>some (Value.int .i64 z)) (by omega))) ⟨((Fr.refl [g] _).z4 q1 q2 q3 q4),⟨by omega,_,z7j U Z,I⟩⟩ (by omega);refine z1q h rfl (M _ I.sl) z3o rfl λa h=>?_;refine z0b ?_;refine z0d 7 rfl ?_;refine z1q h rfl (J _ I.sl) z3o rfl λa h=>?_;refine z0b ?_;refine z1o 12 (by kernel_rfl) (by kernel_rfl) (by kernel_rfl) hC (p:=k) h wn rfl rfl z6j (by omega) (by omega) (by omega) rfl rfl λa h=>z0d 13 rfl ?_;refine z1b (i:=k) (zs.getD (ys.length-1-k) id0) h rfl rfl I (by omega) rfl y1u λw5 D q5 _hz a h=>?_;replace hC:=hC.sp q5;clear _hz I;have I:=D;clear D;refine z0b ?_;refine z1o 14 (by kernel_rfl) (by kernel_rfl) (by kernel_rfl) hC (p:=(ys.length-1-k)) h wn rfl rfl z6j (by omega) (by omega) (by omega) rfl rfl λa h=>z0d 15 rfl ?_;refine z1b (i:=(ys.length-1-k)) (zs.getD k id0) h rfl rfl I (by rw[List.length_set];omega) rfl y1u λw6 D q6 _hz a h=>?_;clear _hz I;have I:=D;clear D;refine z1n ?_;refine z0q ?_;clear hC O;refine bk (h.sub (L':=[(0,_),(2,_),(3,_)]) (.c3 rfl rfl rfl)) (bn' (tn (rg (mv rfl (z0v rfl rfl (wi6 (by omega)) (mv rfl (z2u rfl rfl (wi6 (by omega)) (asg rfl (asg rfl (nl ?_))))))))));exact lpE (k+1) (.c3 rfl rfl (congrArg (λz=>some (Value.int .i64 z)) (by omega))) ⟨((Fr.refl [g] _).z4 q1 q2 q5 q6),⟨by omega,_,z7j U Z,I⟩⟩ (by omega);refine ex (te (te (xh (r0n results200  ?_))));exact⟨_,rfl,by rw[<-y9l (by omega) Z];exact I,(q1.weak (by simp<;>omega))⟩
theorem u8h (w0:World):Rets prog 200 #[.slice none 0 0] w0 λr w'=>Fr [] w0 w':=by
 refine we [(0,.slice none 0 0)] func200 rfl ntmps200 rfl (.cons rfl .nil) (sr (mv rfl (lnS rfl underlying37 (z2u rfl rfl (wi6 (by omega)) (asg rfl (asg rfl (nn (bl ?_))))))));refine lpK (ι:=Unit) [(0,_),(2,_),(3,_)] (λ_u=>[]) (λ_u w'=>Fr [] w0 w'/\True) (λ_u=>0) () (.c3 rfl rfl rfl) ⟨Fr.refl _ _,trivial⟩ ?_;rintro _u w1 ⟨I,-⟩;refine kpC [(0,_),(2,_),(3,_)] (.c3 rfl rfl rfl) (sq (sr (mv rfl (mv rfl (lt' rfl rfl (nn (cd rfl (λD=>?_) (λD=>?_))))))));exfalso;omega;refine ex (te (te (xh (r0n results200  ?_))));exact⟨_,rfl,I⟩
theorem v2u (base:Nat)(v:Value)(ys:List LId)(w0:World)(D:Lw.Own z1k 87 base w0 v ys)(hl:ys.length<=1000000):Rets prog 200 #[v] w0 λr w'=>Lw.Own z1k 87 base w' v ys.reverse/\Fr (z0x v) w0 w':=by
 rcases id D with ⟨rfl,rfl⟩|⟨g,cap,cur,rfl,_⟩
 refine Rets.mono (u8h w0) ?_;intro r w' hf;exact⟨Own.nil _,hf⟩;exact v9s g cap base ys w0 D hl
theorem v8u (g c base:Nat)(ys:List Pa)(w0:World)(I:Lw.Own z1r 100 base w0 (.slice (some ⟨g,0,none⟩) ys.length c) ys)(hl:ys.length<=1000000):Rets prog 196 #[.slice (some ⟨g,0,none⟩) ys.length c] w0 λr w'=>Lw.Own z1r 100 base w' (.slice (some ⟨g,0,none⟩) ys.length c) ys.reverse/\Fr [g] w0 w':=by
 refine we [(0,.slice (some ⟨g,0,none⟩) ys.length c)] func196 rfl ntmps196 rfl (.cons rfl .nil) (sr (mv rfl (lnS rfl underlying54 (z2u rfl rfl (wi6 (by omega)) (asg rfl (asg rfl (nn (bl ?_))))))));refine lpK (ι:=Nat) [(0,_)] (λk=>[(2,.int .i64 (k:Int)),(3,.int .i64 ((ys.length:Int)-1-(k:Int)))]) (λk w'=>Fr [g] w0 w'/\k<=ys.length/\∃zs,j0f pa0 ys zs k/\Lw.Own z1r 100 base w' (.slice (some ⟨g,0,none⟩) ys.length c) zs) (λk=>ys.length-k) 0 (.c3 rfl rfl (congrArg (λz=>some (Value.int .i64 z)) (by omega))) ⟨Fr.refl _ _,⟨Nat.zero_le _,_,v2e _ _,I⟩⟩ ?_;rintro k w1 ⟨q1,⟨hk,zs,Z,I⟩⟩;refine kpC [(0,_),(2,_),(3,_)] (.c3 rfl rfl rfl) (sq (sr (mv rfl (mv rfl (lt' rfl rfl (nn (cd rfl (λc0=>?_) (λc0=>?_))))))));obtain⟨a2,-⟩:=id Z;have U:k<ys.length-1-k:=by omega
 refine sk (tn (sq (bl ?_)));intro a h;refine z0i (some 15) (λwb w'=>Fr [g] wb w') z2o ?_;intro w2 q2;replace I:=I.ext q2;have hC:Fr [g] w2 w2:=Fr.refl _ _;have O:=I;refine z0e 0 h rfl rfl λa h=>z0e 1 h rfl rfl λa h=>z0e 2 h rfl rfl λa h=>z0e 3 h rfl rfl λa h=>z0e 4 h rfl rfl λa h=>z0e 5 h rfl rfl λa h=>z1h (p:=(ys.length-1-k)) (pa0) 6 h rfl I.sl rfl z8x rfl λa0 J a h=>z0e 8 h rfl rfl λa h=>z0e 9 h rfl rfl λa h=>z1h (p:=k) (pa0) 10 h rfl I.sl rfl z8x rfl λa1 M a h=>z2d 7 11 (by kernel_rfl) rfl rfl ?_ ?_;refine z1q h rfl (J _ I.sl) z6k rfl λa h=>?_;refine z0b ?_;refine z0d 11 rfl ?_;refine z1q h rfl (M _ I.sl) z6k rfl λa h=>?_;refine z0b ?_;refine z1o 12 (by kernel_rfl) (by kernel_rfl) (by kernel_rfl) hC (p:=k) h wn rfl rfl z8x (by omega) (by omega) (by omega) rfl rfl λa h=>z0d 13 rfl ?_;refine z1b (i:=k) (zs.getD (ys.length-1-k) pa0) h rfl rfl I (by omega) rfl x0a λw3 D q3 _hz a h=>?_;replace hC:=hC.sp q3;clear _hz I;have I:=D;clear D;refine z0b ?_;refine z1o 14 (by kernel_rfl) (by kernel_rfl) (by kernel_rfl) hC (p:=(ys.length-1-k)) h wn rfl rfl z8x (by omega) (by omega) (by omega) rfl rfl λa h=>z0d 15 rfl ?_;refine z1b (i:=(ys.length-1-k)) (zs.getD k pa0) h rfl rfl I (by rw[List.length_set];omega) rfl x0a λw4 D q4 _hz a h=>?_;clear _hz I;have I:=D;clear D;refine z1n ?_;refine z0q ?_;clear hC O;refine bk (h.sub (L':=[(0,_),(2,_),(3,_)]) (.c3 rfl rfl rfl)) (bn' (tn (rg (mv rfl (z0v rfl rfl (wi6 (by omega)) (mv rfl (z2u rfl rfl (wi6 (by omega)) (asg rfl (asg rfl (nl ?_))))))))));exact lpE (k+1) (.c3 rfl rfl (congrArg (λz=>some (Value.int .i64 z)) (by omega))) ⟨((Fr.refl [g] _).z4 q1 q2 q3 q4),⟨by omega,_,z7j U Z,I⟩⟩ (by omega);refine z1q h rfl (M _ I.sl) z6k rfl λa h=>?_;refine z0b ?_;refine z0d 7 rfl ?_;refine z1q h rfl (J _ I.sl) z6k rfl λa h=>?_;refine z0b ?_;refine z1o 12 (by kernel_rfl) (by kernel_rfl) (by kernel_rfl) hC (p:=k) h wn rfl rfl z8x (by omega) (by omega) (by omega) rfl rfl λa h=>z0d 13 rfl ?_;refine z1b (i:=k) (zs.getD (ys.length-1-k) pa0) h rfl rfl I (by omega) rfl x0a λw5 D q5 _hz a h=>?_;replace hC:=hC.sp q5;clear _hz I;have I:=D;clear D;refine z0b ?_;refine z1o 14 (by kernel_rfl) (by kernel_rfl) (by kernel_rfl) hC (p:=(ys.length-1-k)) h wn rfl rfl z8x (by omega) (by omega) (by omega) rfl rfl λa h=>z0d 15 rfl ?_;refine z1b (i:=(ys.length-1-k)) (zs.getD k pa0) h rfl rfl I (by rw[List.length_set];omega) rfl x0a λw6 D q6 _hz a h=>?_;clear _hz I;have I:=D;clear D;refine z1n ?_;refine z0q ?_;clear hC O;refine bk (h.sub (L':=[(0,_),(2,_),(3,_)]) (.c3 rfl rfl rfl)) (bn' (tn (rg (mv rfl (z0v rfl rfl (wi6 (by omega)) (mv rfl (z2u rfl rfl (wi6 (by omega)) (asg rfl (asg rfl (nl ?_))))))))));exact lpE (k+1) (.c3 rfl rfl (congrArg (λz=>some (Value.int .i64 z)) (by omega))) ⟨((Fr.refl [g] _).z4 q1 q2 q5 q6),⟨by omega,_,z7j U Z,I⟩⟩ (by omega);refine ex (te (te (xh (r0n results196  ?_))));exact⟨_,rfl,by rw[<-y9l (by omega) Z];exact I,(q1.weak (by simp<;>omega))⟩
theorem u5r (w0:World):Rets prog 196 #[.slice none 0 0] w0 λr w'=>Fr [] w0 w':=by
 refine we [(0,.slice none 0 0)] func196 rfl ntmps196 rfl (.cons rfl .nil) (sr (mv rfl (lnS rfl underlying54 (z2u rfl rfl (wi6 (by omega)) (asg rfl (asg rfl (nn (bl ?_))))))));refine lpK (ι:=Unit) [(0,_),(2,_),(3,_)] (λ_u=>[]) (λ_u w'=>Fr [] w0 w'/\True) (λ_u=>0) () (.c3 rfl rfl rfl) ⟨Fr.refl _ _,trivial⟩ ?_;rintro _u w1 ⟨I,-⟩;refine kpC [(0,_),(2,_),(3,_)] (.c3 rfl rfl rfl) (sq (sr (mv rfl (mv rfl (lt' rfl rfl (nn (cd rfl (λD=>?_) (λD=>?_))))))));exfalso;omega;refine ex (te (te (xh (r0n results196  ?_))));exact⟨_,rfl,I⟩
theorem x3h (base:Nat)(v:Value)(ys:List Pa)(w0:World)(D:Lw.Own z1r 100 base w0 v ys)(hl:ys.length<=1000000):Rets prog 196 #[v] w0 λr w'=>Lw.Own z1r 100 base w' v ys.reverse/\Fr (z0x v) w0 w':=by
 rcases id D with ⟨rfl,rfl⟩|⟨g,cap,cur,rfl,_⟩
 refine Rets.mono (u5r w0) ?_;intro r w' hf;exact⟨Own.nil _,hf⟩;exact v8u g cap base ys w0 D hl
theorem v9p (g c base:Nat)(ys:List Cx)(w0:World)(I:Lw.Own z4o 246 base w0 (.slice (some ⟨g,0,none⟩) ys.length c) ys)(hl:ys.length<=1000000):Rets prog 201 #[.slice (some ⟨g,0,none⟩) ys.length c] w0 λr w'=>Lw.Own z4o 246 base w' (.slice (some ⟨g,0,none⟩) ys.length c) ys.reverse/\Fr [g] w0 w':=by
 refine we [(0,.slice (some ⟨g,0,none⟩) ys.length c)] func201 rfl ntmps201 rfl (.cons rfl .nil) (sr (mv rfl (lnS rfl underlying242 (z2u rfl rfl (wi6 (by omega)) (asg rfl (asg rfl (nn (bl ?_))))))));refine lpK (ι:=Nat) [(0,_)] (λk=>[(2,.int .i64 (k:Int)),(3,.int .i64 ((ys.length:Int)-1-(k:Int)))]) (λk w'=>Fr [g] w0 w'/\k<=ys.length/\∃zs,j0f cx0 ys zs k/\Lw.Own z4o 246 base w' (.slice (some ⟨g,0,none⟩) ys.length c) zs) (λk=>ys.length-k) 0 (.c3 rfl rfl (congrArg (λz=>some (Value.int .i64 z)) (by omega))) ⟨Fr.refl _ _,⟨Nat.zero_le _,_,v2e _ _,I⟩⟩ ?_;rintro k w1 ⟨q1,⟨hk,zs,Z,I⟩⟩;refine kpC [(0,_),(2,_),(3,_)] (.c3 rfl rfl rfl) (sq (sr (mv rfl (mv rfl (lt' rfl rfl (nn (cd rfl (λc0=>?_) (λc0=>?_))))))));obtain⟨a2,-⟩:=id Z;have U:k<ys.length-1-k:=by omega
 refine sk (tn (sq (bl ?_)));intro a h;refine z0i (some 15) (λwb w'=>Fr [g] wb w') z2o ?_;intro w2 q2;replace I:=I.ext q2;have hC:Fr [g] w2 w2:=Fr.refl _ _;have O:=I;refine z0e 0 h rfl rfl λa h=>z0e 1 h rfl rfl λa h=>z0e 2 h rfl rfl λa h=>z0e 3 h rfl rfl λa h=>z0e 4 h rfl rfl λa h=>z0e 5 h rfl rfl λa h=>z1h (p:=(ys.length-1-k)) (cx0) 6 h rfl I.sl rfl y1z rfl λa0 J a h=>z0e 8 h rfl rfl λa h=>z0e 9 h rfl rfl λa h=>z1h (p:=k) (cx0) 10 h rfl I.sl rfl y1z rfl λa1 M a h=>z2d 7 11 (by kernel_rfl) rfl rfl ?_ ?_;refine z1q h rfl (J _ I.sl) v0k rfl λa h=>?_;refine z0b ?_;refine z0d 11 rfl ?_;refine z1q h rfl (M _ I.sl) v0k rfl λa h=>?_;refine z0b ?_;refine z1o 12 (by kernel_rfl) (by kernel_rfl) (by kernel_rfl) hC (p:=k) h wn rfl rfl y1z (by omega) (by omega) (by omega) rfl rfl λa h=>z0d 13 rfl ?_;refine z1b (i:=k) (zs.getD (ys.length-1-k) cx0) h rfl rfl I (by omega) rfl v4t λw3 D q3 _hz a h=>?_;replace hC:=hC.sp q3;clear _hz I;have I:=D;clear D;refine z0b ?_;refine z1o 14 (by kernel_rfl) (by kernel_rfl) (by kernel_rfl) hC (p:=(ys.length-1-k)) h wn rfl rfl y1z (by omega) (by omega) (by omega) rfl rfl λa h=>z0d 15 rfl ?_;refine z1b (i:=(ys.length-1-k)) (zs.getD k cx0) h rfl rfl I (by rw[List.length_set];omega) rfl v4t λw4 D q4 _hz a h=>?_;clear _hz I;have I:=D;clear D;refine z1n ?_;refine z0q ?_;clear hC O;refine bk (h.sub (L':=[(0,_),(2,_),(3,_)]) (.c3 rfl rfl rfl)) (bn' (tn (rg (mv rfl (z0v rfl rfl (wi6 (by omega)) (mv rfl (z2u rfl rfl (wi6 (by omega)) (asg rfl (asg rfl (nl ?_))))))))));exact lpE (k+1) (.c3 rfl rfl (congrArg (λz=>some (Value.int .i64 z)) (by omega))) ⟨((Fr.refl [g] _).z4 q1 q2 q3 q4),⟨by omega,_,z7j U Z,I⟩⟩ (by omega);refine z1q h rfl (M _ I.sl) v0k rfl λa h=>?_;refine z0b ?_;refine z0d 7 rfl ?_;refine z1q h rfl (J _ I.sl) v0k rfl λa h=>?_;refine z0b ?_;refine z1o 12 (by kernel_rfl) (by kernel_rfl) (by kernel_rfl) hC (p:=k) h wn rfl rfl y1z (by omega) (by omega) (by omega) rfl rfl λa h=>z0d 13 rfl ?_;refine z1b (i:=k) (zs.getD (ys.length-1-k) cx0) h rfl rfl I (by omega) rfl v4t λw5 D q5 _hz a h=>?_;replace hC:=hC.sp q5;clear _hz I;have I:=D;clear D;refine z0b ?_;refine z1o 14 (by kernel_rfl) (by kernel_rfl) (by kernel_rfl) hC (p:=(ys.length-1-k)) h wn rfl rfl y1z (by omega) (by omega) (by omega) rfl rfl λa h=>z0d 15 rfl ?_;refine z1b (i:=(ys.length-1-k)) (zs.getD k cx0) h rfl rfl I (by rw[List.length_set];omega) rfl v4t λw6 D q6 _hz a h=>?_;clear _hz I;have I:=D;clear D;refine z1n ?_;refine z0q ?_;clear hC O;refine bk (h.sub (L':=[(0,_),(2,_),(3,_)]) (.c3 rfl rfl rfl)) (bn' (tn (rg (mv rfl (z0v rfl rfl (wi6 (by omega)) (mv rfl (z2u rfl rfl (wi6 (by omega)) (asg rfl (asg rfl (nl ?_))))))))));exact lpE (k+1) (.c3 rfl rfl (congrArg (λz=>some (Value.int .i64 z)) (by omega))) ⟨((Fr.refl [g] _).z4 q1 q2 q5 q6),⟨by omega,_,z7j U Z,I⟩⟩ (by omega);refine ex (te (te (xh (r0n results201  ?_))));exact⟨_,rfl,by rw[<-y9l (by omega) Z];exact I,(q1.weak (by simp<;>omega))⟩
theorem u5d (w0:World):Rets prog 201 #[.slice none 0 0] w0 λr w'=>Fr [] w0 w':=by
 refine we [(0,.slice none 0 0)] func201 rfl ntmps201 rfl (.cons rfl .nil) (sr (mv rfl (lnS rfl underlying242 (z2u rfl rfl (wi6 (by omega)) (asg rfl (asg rfl (nn (bl ?_))))))));refine lpK (ι:=Unit) [(0,_),(2,_),(3,_)] (λ_u=>[]) (λ_u w'=>Fr [] w0 w'/\True) (λ_u=>0) () (.c3 rfl rfl rfl) ⟨Fr.refl _ _,trivial⟩ ?_;rintro _u w1 ⟨I,-⟩;refine kpC [(0,_),(2,_),(3,_)] (.c3 rfl rfl rfl) (sq (sr (mv rfl (mv rfl (lt' rfl rfl (nn (cd rfl (λD=>?_) (λD=>?_))))))));exfalso;omega;refine ex (te (te (xh (r0n results201  ?_))));exact⟨_,rfl,I⟩
theorem v3u (base:Nat)(v:Value)(ys:List Cx)(w0:World)(D:Lw.Own z4o 246 base w0 v ys)(hl:ys.length<=1000000):Rets prog 201 #[v] w0 λr w'=>Lw.Own z4o 246 base w' v ys.reverse/\Fr (z0x v) w0 w':=by
 rcases id D with ⟨rfl,rfl⟩|⟨g,cap,cur,rfl,_⟩
 refine Rets.mono (u5d w0) ?_;intro r w' hf;exact⟨Own.nil _,hf⟩;exact v9p g cap base ys w0 D hl
theorem y5j (v:Value)(l:List Pa)(w0:World)(I:Sl z1r w0 v l)(hl:l.length<=100000):Rets prog 197 #[v] w0 λr w'=>∃g,r=.slice (some ⟨g,0,none⟩) l.length l.length/\w0.heap.size<=g/\Lw.Own z1r 100 w0.heap.size w' r l/\Fr [] w0 w':=by
 obtain⟨A,c,rfl,a0,Z,U⟩:=id I;clear U;unfold maxLen at Z;refine we [(0,.slice A l.length c)] func197 rfl ntmps197 rfl (.cons rfl .nil) ?_;have J:=I;refine sr (asg rfl (nn (sr (mv rfl (lnS rfl underlying54 (z1f (m:=l.length) (c:=l.length) (pa0) rfl rfl z8x y6p rfl (λO w1 a1 D M z1=>(asg rfl (nn (sr (mv rfl (mv rfl ?_))))))))))));replace I:=J.ext M;refine z7k (zs:=List.replicate l.length pa0) (by rw[List.length_replicate];rfl) rfl (by rw[List.length_replicate];exact D) I (by rw[List.length_replicate]) z8x (λw2 D q2 z2=>?_);rw[List.length_replicate]at D;refine nn (sr (mv rfl (asg rfl (nn (rt (r1 results197 rfl ?_))))));exact⟨_,rfl,O,rfl,by omega,D.low (by omega),(M.z1 q2)⟩
theorem x5l (v:Value)(l:List Cx)(w0:World)(I:Sl z4o w0 v l)(hl:l.length<=100000):Rets prog 202 #[v] w0 λr w'=>∃g,r=.slice (some ⟨g,0,none⟩) l.length l.length/\w0.heap.size<=g/\Lw.Own z4o 246 w0.heap.size w' r l/\Fr [] w0 w':=by
 obtain⟨A,c,rfl,a0,Z,U⟩:=id I;clear U;unfold maxLen at Z;refine we [(0,.slice A l.length c)] func202 rfl ntmps202 rfl (.cons rfl .nil) ?_;have J:=I;refine sr (asg rfl (nn (sr (mv rfl (lnS rfl underlying242 (z1f (m:=l.length) (c:=l.length) (cx0) rfl rfl y1z j0s rfl (λO w1 a1 D M z1=>(asg rfl (nn (sr (mv rfl (mv rfl ?_))))))))))));replace I:=J.ext M;refine z7k (zs:=List.replicate l.length cx0) (by rw[List.length_replicate];rfl) rfl (by rw[List.length_replicate];exact D) I (by rw[List.length_replicate]) y1z (λw2 D q2 z2=>?_);rw[List.length_replicate]at D;refine nn (sr (mv rfl (asg rfl (nn (rt (r1 results202 rfl ?_))))));exact⟨_,rfl,O,rfl,by omega,D.low (by omega),(M.z1 q2)⟩
end Go.Proofs.YtpgdchkdlgkmgaaGreatDoor
