/- Texts of the proof, joined. -/
import Derived.Test.YtagnnbcnnmacmaaGreatDoorRows
import Derived.Test.YtagnnbcnnmacmaaGreatDoorEA6
set_option linter.unusedVariables false
set_option linter.unusedSimpArgs false
set_option maxHeartbeats 4000000
namespace Go.Proofs.YtagnnbcnnmacmaaGreatDoor
open Go.Lw _root_.Go.Proofs.Tryz
set_option maxRecDepth 100000 in
theorem y7i (w0:World)(hG:Glob w0):Rets prog 7 #[] w0 λr w'=>r=.bool true/\Fr [] w0 w':=by
 have d3:=hG.sz;refine we [] func7 U ntmps7 U .nil ?_;have a1:=hG;refine sr (asg U (nn (sr (z1w (([13,14]:List Int)) (ev2 U) U z3b (λc0 w1 b3 a2 q1 z1=>(cl (z0a U (z0a U (z0a U (z0a U (z0a U z0g))))) (mkC func8) (y5n _ [13,14] 0 1 1 false _ a2.sl) U ?_))))));rintro _ w2 ⟨b0,rfl,I,q2⟩;have z2:=q2.size;refine mv U (xt U (xt U (asg U (asg U (nn (sr (z1w (([13,14]:List Int)) (ev2 U) U z3b (λc1 w3 b4 a3 q3 z3=>(cl (z0a U (z0a U (z0a U (z0a U (z0a U z0g))))) (mkC func8) (y5n _ [13,14] 0 1 1 true _ a3.sl) U ?_)))))))));rintro _ w4 ⟨b1,rfl,O,q4⟩;have z4:=q4.size;refine mv U (xt U (xt U (asg U (asg U (nn (sr (z1w (([2,1,1]:List Int)) (ev3 U) U z3b (λc9 w5 b5 a4 q5 z5=>(cl (z0a U (z0a U (z0a U (z0a U (z0a U z0g))))) (mkC func18) (u5c _ [2,1,1] 0 1 2 true _ a4.sl dd) U ?_)))))))));rintro _ w6 ⟨b9,rfl,Z,q6⟩;have z6:=q6.size;refine mv U (xt U (xt U (asg U (asg U (nn (sr (z1w (([39,40]:List Int)) (ev2 U) U z3b (λd0 w7 b6 a5 q7 z7=>(cl (z0a U (z0a U (z0a U (z0a U (z0a U z0g))))) (mkC func8) (y5n _ [39,40] 0 1 1 false _ a5.sl) U ?_)))))))));rintro _ w8 ⟨b2,rfl,b8,q8⟩;have z8:=q8.size;refine mv U (xt U (xt U (asg U (asg U (kpL [(1,_),(2,_),(3,_),(4,_),(5,_),(6,_),(8,_)] (.c7 U U U U U U U) (nn (sq (u2n (r:=0) (L':=[]) (True) .nil ?_ ?_))))))));refine mv U (eq' U (mv U (gs 31 U (λg0=>?_) (λD=>absurd (by decide +kernel) D))));refine gY U (mv U (gY U (eq' U (pkt U (mv U (gs 35 U (λg1=>?_) (λD=>absurd (by decide +kernel) D)))))));refine gY U (mv U (gY U (eq' U (pkt U (mv U (gs 39 U (λg2=>?_) (λD=>absurd (by decide +kernel) D)))))));refine gY U (mv U (gY U (eq' U (pkt U (mv U (gs 43 U (λg3=>?_) (λD=>absurd (by decide +kernel) D)))))));refine gY U (mv U (gY U ?_));replace hG:=a1.ext ((q1.n6 q2 q3 q4 q5 q6 q7).n1 q8);replace I:=I.ext (q3.n5 q4 q5 q6 q7 q8);refine cl (ev1 U) (mkC func24) (x4g _ (z5d [13,14] 0 1 1 false) _ hG I.sl (by decide +kernel)) U ?_;rintro _ w9 ⟨rfl,q9⟩;have z9:=q9.size;refine gY U (k1r U U U (pkt U (mv U (gs 48 U (λg4=>?_) (λD=>absurd (by decide +kernel) D)))));refine gY U (mv U (gY U ?_));replace hG:=a1.ext (((q1.n6 q2 q3 q4 q5 q6 q7).n1 q8).n1 q9);replace O:=O.ext (q5.n4 q6 q7 q8 q9);refine cl (ev1 U) (mkC func24) (x4g _ (z5d [13,14] 0 1 1 true) _ hG O.sl (by decide +kernel)) U ?_;rintro _ d4 ⟨rfl,a0⟩;have d9:=a0.size;refine gY U (k1r U U U (pkt U (mv U (gs 53 U (λg5=>?_) (λD=>absurd (by decide +kernel) D)))));refine gY U (mv U (gY U (z1w (([2,3,1,2]:List Int)) (ev4 U) U z3b (λd1 d5 b7 a6 a7 e0=>(gY U ?_)))));replace Z:=Z.ext (q7.n4 q8 q9 a0 a7);refine cl (ev2 U) (mkC func25) (v6q _ _ (x9i [2,1,1] 0 1 2 true) [2,3,1,2] _ Z.sl a6.sl) U ?_;rintro _ d6 ⟨rfl,a8⟩;have e1:=a8.size;exact pkt U (asg U (y5c U .nil (q9.n3 a0 a7 a8) (hb:=(by exact bi ⟨λ_=>trivial,λ_=>by decide +kernel⟩))));intro d7 a9;have e2:=a9.size;exact tn (rt (r1 results7 U ⟨_,rfl,rfl,(((q1.n6 q2 q3 q4 q5 q6 q7).n1 q8).n1 a9)⟩))
end Go.Proofs.YtagnnbcnnmacmaaGreatDoor
namespace Go.Lw
open Go.RowKit
theorem u7h {f:List Int}{x:Int}(h:Asc f)(O:1<=x/\x<=40)(hl:∀j,j<f.length->f.getD j 0<x):Asc (f++[x]):=by
 intro j hj;rw[List.length_append,List.length_singleton]at hj;have D:∀k,k<f.length->(f++[x]).getD k 0=f.getD k 0:=λk hk=>by simp only[List.getD];rw[List.getElem?_append_left hk]
 rcases Nat.lt_or_ge j f.length with e|e
 have:=h j e;rw[D j e];refine⟨this.1,this.2.1,λI=>?_⟩;rw[D (j-1) oo];exact this.2.2 I;have Z:j=f.length:=by omega
 subst Z;have g2:(f++[x]).getD f.length 0=x:=by simp[List.getD]
 rw[g2];refine⟨O.1,O.2,λI=>?_⟩;rw[D _ oo];exact hl _ oo
theorem y3r {v D u:Value}{m:Nat}(h:D=v\/z0u D=z0u v\/z0u D=[m])(I:∀k∈z0u v,k∉z0u u)(hu:∀k∈z0u u,k<m):∀k∈z0u D,k∉z0u u:=by
 rcases h with e|e|e
 rw[e];exact I;rw[e];exact I;rw[e];intro k Z O;simp at Z;have:=hu k O;omega
def u9k (i a:Nat)(front:Bool):Nat:=if front then i+a else i
def u7q (i a b:Nat)(front:Bool):Nat:=if front then i+a+b else i+a
theorem j7e (l:List Int)(i a b:Nat)(front:Bool):x7a l i a b front=((z2z l i a b front).take (u7q i a b front)).drop (u9k i a front):=by cases front<;>rfl
theorem y5o {l:List Int}{i a b:Nat}{front:Bool}(D:i+a+b<=l.length){j:Nat}(I:j<a+b):(z2z l i a b front).getD (i+j) 0=(if front then l.getD (i+a+b-1) 0-a-b+1 else l.getD i 0)+(j:Int):=by
 cases front;rw[y8t D _ oo,if_neg oo,if_pos oo];simp only[Bool.false_eq_true,if_false];omega;rw[y9v D _ oo,if_neg oo,if_pos oo];simp only[if_true];omega
theorem j0n {l:List Int}{i a b:Nat}(D:i+a+b<=l.length){m:Nat}(I:m<b):(z2z l i a b true).getD (i+a+m) 0+byC a b true=behP l i a b true+(m:Int):=by
 rw[Nat.add_assoc,y5o D oo];simp only[if_true,byC,behP];omega
theorem j4s {l:List Int}{i a b:Nat}(D:i+a+b<=l.length){m:Nat}(I:m<b):(z2z l i a b false).getD (i+a+m) 0=behP l i a b false+(m:Int):=by
 rw[Nat.add_assoc,y5o D oo];simp only[Bool.false_eq_true,if_false,behP];omega
theorem j8p {l:List Int}{i a b:Nat}(D:i+a+b<=l.length){m:Nat}(I:m<a):(z2z l i a b true).getD (i+m) 0=behP l i a b true+((b+m:Nat):Int):=by
 rw[y5o D oo];simp only[if_true,behP];omega
theorem j8c {l:List Int}{i a b:Nat}(D:i+a+b<=l.length){m:Nat}(I:m<a):(z2z l i a b false).getD (i+m) 0+byC a b false=behP l i a b false+((b+m:Nat):Int):=by
 rw[y5o D oo];simp only[Bool.false_eq_true,if_false,byC,behP];omega
theorem v6w {xs:List Int}(x:Int):(xs++[x]).getD xs.length 0=x:=by simp[List.getD]
end Go.Lw
namespace Go.Proofs.YtagnnbcnnmacmaaGreatDoor
open Go.Lw _root_.Go.Proofs.Tryz
theorem k2n:ElemOf prog 23 132 (Enc.tri .u8) 3:=ElemOf.mk' (z:=(.agg #[.int .u8 0,.int .u8 0,.int .u8 0])) underlying23 kr0 U
theorem j8l:z0y prog 25 0 0:=λ_ _=>kr0
theorem j8w:z0y prog 25 1 1:=λ_ _=>kr0
theorem j6v:z0y prog 25 2 2:=λ_ _=>kr0
theorem k2f:z0y prog 25 3 3:=λ_ _=>kr0
theorem na23:z2a prog 23:=λ_=>kr0
theorem sz5:z1r prog 5 1:=λ_=>kr0
theorem j1q (v:Value)(xs:List (Int×Int×Int))(w0:World)(hs:Sl (Enc.tri .u8) w0 v xs)(hb:∀y∈xs,(0<=y.1/\y.1<=255)/\(0<=y.2.1/\y.2.1<=255)/\(0<=y.2.2/\y.2.2<=255)):Rets prog 23 #[v,.bool false] w0 λr w'=>∃v7 v8 v9 f g h,r=.tuple #[v7,v8,v9]/\Lw.Own Enc.i64 3 w0.heap.size w' v7 f/\Lw.Own Enc.i64 3 w0.heap.size w' v8 g/\Lw.Own Enc.i64 3 w0.heap.size w' v9 h/\Asc f/\f.length<=8/\g.length=f.length/\(∀y∈g,1<=y/\y<=2)/\Fr [] w0 w':=by
 obtain⟨A,c,rfl,e9,hM,hA⟩:=id hs;clear hA;unfold maxLen at hM;have c9:∀j,j<xs.length->(0<=(xs.getD j (0,0,0)).1/\(xs.getD j (0,0,0)).1<=255)/\(0<=(xs.getD j (0,0,0)).2.1/\(xs.getD j (0,0,0)).2.1<=255)/\(0<=(xs.getD j (0,0,0)).2.2/\(xs.getD j (0,0,0)).2.2<=255):=λj hj=>hb _ (by rw[<-Go.Lw.getD_at xs j hj];exact List.getElem_mem _);refine we [(0,.slice A xs.length c),(1,.bool false)] func23 U ntmps23 U (.c2 U U) ?_;have d1:=hs;refine sr (asg U (asg U (asg U (nn (sr (asg U (asg U (asg U (nn (sr (asg U (asg U (asg U (nn (sq (sr (asg U (nn (bl (lpK (ι:=Nat×Int×Int×Int×Value×Value×Value×List Int×List Int×List Int) [(0,_),(1,_)] (λp=>[(7,p.2.2.2.2.1),(8,p.2.2.2.2.2.1),(9,p.2.2.2.2.2.2.1),(10,.int .i64 p.2.1),(11,.int .i64 p.2.2.1),(12,.int .i64 p.2.2.2.1),(13,.int .i64 (p.1:Int))]) (λp w'=>Fr [] w0 w'/\(p.1<=8/\(0<=p.2.1/\p.2.1<=40)/\(0<=p.2.2.1/\p.2.2.1<=40)/\(0<=p.2.2.2.1/\p.2.2.2.1<=2))/\(Asc p.2.2.2.2.2.2.2.1/\(∀j,j<(p.2.2.2.2.2.2.2.1).length->(p.2.2.2.2.2.2.2.1).getD j 0<=p.2.1)/\(p.2.2.2.2.2.2.2.1).length<=p.1/\((p.2.2.2.2.2.2.2.2.1).length=(p.2.2.2.2.2.2.2.1).length/\∀y∈p.2.2.2.2.2.2.2.2.1,1<=y/\y<=2)/\(p.2.2.2.2.2.2.2.2.2).length<=p.1)/\Lw.Own Enc.i64 3 w0.heap.size w' p.2.2.2.2.1 (p.2.2.2.2.2.2.2.1)/\Lw.Own Enc.i64 3 w0.heap.size w' p.2.2.2.2.2.1 (p.2.2.2.2.2.2.2.2.1)/\Lw.Own Enc.i64 3 w0.heap.size w' p.2.2.2.2.2.2.1 (p.2.2.2.2.2.2.2.2.2)/\(∀k∈z0u (p.2.2.2.2.1),k∉z0u (p.2.2.2.2.2.1))/\(∀k∈z0u (p.2.2.2.2.1),k∉z0u (p.2.2.2.2.2.2.1))/\(∀k∈z0u (p.2.2.2.2.2.1),k∉z0u (p.2.2.2.2.2.2.1))) (λp=>8-p.1) (0,0,0,0,.slice none 0 0,.slice none 0 0,.slice none 0 0,[],[],[]) (.d8 U U U U U U U U (.cons U .nil)) ⟨(Fr.refl _ _),⟨⟨dd,dd,dd,dd⟩,⟨λj hj=>absurd hj (Nat.not_lt_zero j),λj hj=>absurd hj (Nat.not_lt_zero j),Nat.le_refl _,⟨rfl,λy hy=>by cases hy⟩,Nat.le_refl _⟩,Own.nil _,Own.nil _,Own.nil _,by simp[z0u],by simp[z0u],by simp[z0u]⟩⟩ ?_))))))))))))))))))));rintro⟨i,aa,bb,st,v7,v8,v9,f,g,h⟩ w1 ⟨q1,⟨⟨hi,b9,d0,d3⟩,⟨hasc,hle,hfl,hgl,hhl⟩,I,O,Z,hd1,hd2,hd3⟩⟩;simp only at hi b9 d0 d3 hasc hle hfl hgl hhl I O Z hd1 hd2 hd3;have e5:=hgl.1;have z1:=q1.size;refine kpC [(0,_),(1,_),(7,v7),(8,v8),(9,v9),(10,.int .i64 aa),(11,.int .i64 bb),(12,.int .i64 st),(13,.int .i64 (i:Int))] (.d8 U U U U U U U U (.cons U .nil)) (sq (sq (rbo (r:=23) (L':=[(0,_),(1,_),(7,_),(8,_),(9,_),(10,_),(11,_),(12,_),(13,_)]) (((i:Int)<(xs.length:Int))/\((i:Int)<8)) (.d8 U U U U U U U U (.cons U .nil)) ?_ ?_)));refine mv U (mv U (lnS U underlying23 (lt' U (mv U (gs 20 U (λg0=>?_) (λg0=>?_))))));exact gY U (mv U (gY U (lt' U (pkt U (rbe U (.d8 U U U U U U U U (.cons U .nil)))))));exact gN U (gN U (pkf U (rbe U (.d8 U U U U U U U U (.cons U .nil)))));refine tn (cd U (λc0=>?_) (λc0=>?_));have f0:=c9 i oo;refine sk (tn (sq (bl (sr (mv U (z0q U (wi6 oo) (mv U (mv U ?_))))))));replace hs:=d1.ext q1;refine z0x (p:=i) ((0,0,0)) U hs U k2n oo (λd7 a9=>(y1f U U underlying132 sz5 (z9b U (a9 _ hs) U na5 (x7c U U (by first|exact IntWalk.rem_in _ _ oo|rfl) U (z6s U (us underlying5) underlying3 (wi6 oo) (z0q U (wi6 oo) (asg U (kpL [(0,_),(1,_),(7,_),(8,_),(9,_),(10,_),(11,_),(12,_),(13,_)] (.d8 U U U U U U U U (.cons U .nil)) (nn (sr (mv U (mv U (z0x (p:=i) ((0,0,0)) U hs U k2n oo (λd9 b0=>?_))))))))))))));refine y1f U U underlying132 sz5 (z9b U (b0 _ hs) U na5 (x7c U U (by first|exact IntWalk.rem_in _ _ oo|rfl) U (z6s U (us underlying5) underlying3 (wi6 oo) (z0q U (wi6 oo) (asg U (kpL [(0,_),(1,_),(7,_),(8,_),(9,_),(10,_),(11,_),(12,_),(13,_),(14,_)] (.d8 U U U U U U U U (.c2 U U)) (nn (sr (mv U (mv U (z0x (p:=i) ((0,0,0)) U hs U k2n oo (λe0 b1=>?_))))))))))));refine y1f U U underlying132 sz5 (z9b U (b1 _ hs) U na5 (x7c U U (by first|exact IntWalk.rem_in _ _ oo|rfl) U (z6s U (us underlying5) underlying3 (wi6 oo) (asg U (kpL [(0,_),(1,_),(7,_),(8,_),(9,_),(10,_),(11,_),(12,_),(13,_),(14,_),(15,_)] (.d8 U U U U U U U U (.c3 U U U)) (nn (sq (sq (rbo (r:=66) (L':=[(0,_),(1,_),(7,_),(8,_),(9,_),(10,_),(11,_),(12,_),(13,_),(14,_),(15,_)]) (True) (.d8 U U U U U U U U (.c3 U U U)) ?_ ?_)))))))));refine mv U (eq' U (mv U (gs 53 U (λg1=>?_) (λg1=>?_))));exact gN U (gN U (pkt U (mv U (gN U (gN U (gN U (gS U (gS U (gS U (gS U (gN U (pkt U (rbe U (.d8 U U U U U U U U (.c3 U U U)) (hb:=(by first|rfl|(simp;done))))))))))))))));refine gY U (mv U (gY U (nt' U (pkf U (mv U (gs 57 U (λg2=>?_) (λhh=>absurd (by rfl) hh)))))));exact gN U (gN U (gN U (gS U (gS U (gS U (gS U (gN U (pkt U (rbe U (.d8 U U U U U U U U (.c3 U U U)) (hb:=(by first|rfl|(simp;done))))))))))));refine tn (cd U (λc1=>?_) (λc1=>?_));refine rg (mv U (z0q U (wi6 oo) (asg U (nl (tn (sq (sr (mv U (gt' U (nn (cd U (λc2=>?_) (λc2=>?_))))))))))));refine rg (asg U (nl (tn (sr (mv U (mv U (z0q U (wi6 oo) (asg U (nn (sr (mv U (mv U (z0q U (wi6 oo) (asg U (nn (sq (sq (rbo (r:=82) (L':=[(0,_),(1,_),(7,_),(8,_),(9,_),(10,_),(11,_),(12,_),(13,_),(14,_)]) (40<(aa+1+(xs.getD i (0,0,0)).1 % 6)\/40<(bb+((xs.getD i (0,0,0)).2.2 % 6+1))) (.d8 U U U U U U U U (.c2 U U)) ?_ ?_))))))))))))))))));refine mv U (gt' U (mv U (gs 79 U (λg3=>?_) (λg3=>?_))));exact gN U (gN U (pkt U (rbe U (.d8 U U U U U U U U (.c2 U U)))));exact gY U (mv U (gY U (gt' U (pkf U (rbe U (.d8 U U U U U U U U (.c2 U U)))))));refine tn (cd U (λc3=>?_) (λc3=>?_));exact ex (te (xo U (te (te (xh (tn (sr (mv U (mv U (mv U (asg U (asg U (asg U (kpL [(4,_),(5,_),(6,_)] (.c3 U U U) (nn (rt (r3 results23 U U U ⟨_,rfl,v7,v8,v9,f,g,h,rfl,I,O,Z,hasc,oo,hgl.1,hgl.2,q1⟩)))))))))))))))));refine sk (tn (sr (mv U (mv U (z1w ([(aa+1+(xs.getD i (0,0,0)).1 % 6)]) (ev1 U) U z3b (λe6 w2 e1 b6 q2 z2=>?_))))));replace O:=O.ext q2;replace Z:=Z.ext q2;replace I:=I.ext q2;have a6:=I;refine z1x U I b6.sl z3b (λd4 w3 I q3 a0=>?_);have a3:=y3r a0 hd1 (λk D=>(O.blk k D).2);have a4:=y3r a0 hd2 (λk D=>(Z.blk k D).2);have z3:=q3.size;replace O:=O.fr q3 (λk D hb=>hd1 k D hb);replace Z:=Z.fr q3 (λk D hb=>hd2 k D hb);refine asg U (nn (sr (mv U (mv U (z1w ([(1+(xs.getD i (0,0,0)).2.1 % 2)]) (ev1 U) U z3b (λe7 w4 e3 b7 q4 z4=>?_))))));replace I:=I.ext q4;replace Z:=Z.ext q4;replace O:=O.ext q4;have a7:=O;refine z1x U O b7.sl z3b (λd5 w5 O q5 a1=>?_);have b2:=y3r a1 (λk D hb=>a3 k hb D) (λk D=>(I.blk k D).2);have a5:=y3r a1 hd3 (λk D=>(Z.blk k D).2);have z5:=q5.size;replace I:=I.fr q5 (λk D hb=>a3 k hb D);replace Z:=Z.fr q5 (λk D hb=>hd3 k D hb);refine asg U (nn (rg (mv U (mv U (z1w ([(bb+((xs.getD i (0,0,0)).2.2 % 6+1))]) (ev1 U) U z3b (λe8 w6 e4 b8 q6 z6=>?_))))));replace I:=I.ext q6;replace O:=O.ext q6;replace Z:=Z.ext q6;have a8:=Z;refine z1x U Z b8.sl z3b (λd6 w7 Z q7 a2=>?_);have b3:=y3r a2 (λk D hb=>a4 k hb D) (λk D=>(I.blk k D).2);have b4:=y3r a2 (λk D hb=>a5 k hb D) (λk D=>(O.blk k D).2);have z7:=q7.size;replace I:=I.fr q7 (λk D hb=>a4 k hb D);replace O:=O.fr q7 (λk D hb=>a5 k hb D);refine asg U (nl (bn' (tn (rg (mv U (z0q U (wi6 oo) (asg U (nl ?_))))))));exact lpE ((i+1,(aa+1+(xs.getD i (0,0,0)).1 % 6),(bb+((xs.getD i (0,0,0)).2.2 % 6+1)),0+(1+(xs.getD i (0,0,0)).2.1 % 2),d4,d5,d6,f++[(aa+1+(xs.getD i (0,0,0)).1 % 6)],g++[(1+(xs.getD i (0,0,0)).2.1 % 2)],h++[(bb+((xs.getD i (0,0,0)).2.2 % 6+1))])) (.d8 U U U U U U U U (.cons U .nil)) ⟨((((((q1.n1 q2).step q3 (λk D b5=>absurd (a6.blk k D).1 oo)).n1 q4).step q5 (λk D b5=>absurd (a7.blk k D).1 oo)).next q6).step q7 (λk D b5=>absurd (a8.blk k D).1 oo)),⟨⟨sm,sm,sm,sm⟩,⟨u7h hasc oo (λj hj=>by have:=hle j hj;omega),λj hj=>by
  simp only[List.length_append,List.length_singleton]at hj ⊢;rcases Nat.lt_or_ge j f.length with e|e
  have:=hle j e;simp only[List.getD]at this ⊢;rw[List.getElem?_append_left e];omega;have e2:j=f.length:=by omega
  subst e2;rw[v6w];exact Int.le_refl _,by simp only[List.length_append,List.length_singleton];omega,⟨by simp only[List.length_append,List.length_singleton];omega,λy hy=>by
  rcases List.mem_append.1 hy with e|e
  exact hgl.2 y e;rw[List.mem_singleton]at e;rw[e];omega⟩,by simp only[List.length_append,List.length_singleton];omega⟩,I,O,Z,λk D hb=>b2 k hb D,λk D hb=>b3 k hb D,λk D hb=>b4 k hb D⟩⟩ sm
 exact absurd oo c2;exact absurd trivial c1;exact ex (te (te (xh (tn (sr (mv U (mv U (mv U (asg U (asg U (asg U (kpL [(4,_),(5,_),(6,_)] (.c3 U U U) (nn (rt (r3 results23 U U U ⟨_,rfl,v7,v8,v9,f,g,h,rfl,I,O,Z,hasc,oo,hgl.1,hgl.2,q1⟩)))))))))))))))
theorem r6 {P:Program}{n:Nat}{L:List (Nat×Value)}{w:World}{R:Ending->World->Prop}{fn:Func}{t0 t1 t2 t3 t4 t5:Nat}{D I O Z x4 x5:Value}(hr:fn.results=#[.tmp t0,.tmp t1,.tmp t2,.tmp t3,.tmp t4,.tmp t5])(e0:Lw.look L t0=some D)(e1:Lw.look L t1=some I)(e2:Lw.look L t2=some O)(e3:Lw.look L t3=some Z)(e4:Lw.look L t4=some x4)(e5:Lw.look L t5=some x5)(k:R (.returned (.tuple #[D,I,O,Z,x4,x5])) w):EW (bodyPost P fn R) .ret n [] w L:=λa h=>
 bodyPost_ret (v:=.tuple #[D,I,O,Z,x4,x5]) (by
  have h0:=h.at_ t0 D e0;have h1:=h.at_ t1 I e1;have h2:=h.at_ t2 O e2;have h3:=h.at_ t3 Z e3;have h4:=h.at_ t4 x4 e4;have h5:=h.at_ t5 x5 e5
  simp only[Array.getD_eq_getD_getElem?]at h0 h1 h2 h3 h4 h5
  simp[results,hr,h0,h1,h2,h3,h4,h5]) h.dfr k
theorem k1s (v:Value)(xs:List (Int×Int×Int))(yI yA yB:Int)(fr:Bool)(w0:World)(hs:Sl (Enc.tri .u8) w0 v xs)(hb:∀y∈xs,(0<=y.1/\y.1<=255)/\(0<=y.2.1/\y.2.1<=255)/\(0<=y.2.2/\y.2.2<=255))(d1:0<=yI/\yI<=255)(c9:0<=yA/\yA<=255)(d0:0<=yB/\yB<=255):Rets prog 6 #[.agg #[v,.int .u8 yI,.int .u8 yA,.int .u8 yB,.bool fr]] w0 λr w'=>∃v1 v2,∃i' I O:Nat,∃a6 f g',r=.tuple #[v1,v2,.int .i64 (i':Int),.int .i64 (I:Int),.int .i64 (O:Int),.bool a6]/\Lw.Own Enc.i64 3 w0.heap.size w' v1 f/\Lw.Own Enc.i64 3 w0.heap.size w' v2 g'/\(a6=true->Asc f/\(1<=I/\1<=O/\I+O<=4)/\i'+I+O<=f.length/\f.length<=8/\g'.length=f.length/\∀y∈g',1<=y/\y<=2)/\Fr [] w0 w':=by
 obtain⟨I,a8⟩:∃I:Nat,1+yA % 3=(I:Int):=⟨(1+yA % 3).toNat,oo⟩;have b6:=Int.emod_nonneg yB (show 4-(I:Int)≠0 by omega);have b7:=Int.emod_lt_of_pos yB (show 0<4-(I:Int) by omega);obtain⟨O,a9⟩:∃O:Nat,1+yB % (4-(I:Int))=(O:Int):=⟨(1+yB % (4-(I:Int))).toNat,(Int.toNat_of_nonneg oo).symm⟩;refine we [(0,.agg #[v,.int .u8 yI,.int .u8 yA,.int .u8 yB,.bool fr])] func6 U ntmps6 U (.cons U .nil) ?_;have b2:=hs;refine sr (bx U (λg1 w1 b5 D q1 z1=>(asg U (asg U (asg U (asg U (asg U (asg U (kpL [(1,_)] (.cons U .nil) (nn (sr (fad U j8l (z0i U D U na23 ?_)))))))))))));replace hs:=b2.ext q1;refine cl (ev2 U) (mkC func23) (j1q _ xs _ hs hb) U ?_;rintro _ w2 ⟨v7,v8,v9,f,a7,b3,rfl,a0,a2,b9,a3,hfl,a4,a5,q2⟩;have z2:=q2.size;obtain⟨AF,cF,rfl,b4⟩:=a0.sl.form;refine mv U (xt U (xt U (xt U (asg U (asg U (asg U (kpL [(1,_),(8,_),(9,_)] (.c3 U U U) (nn (jn (ι:=Unit) [(1,_),(8,_),(9,_)] (λ_j=>[(11,.int .i64 (I:Int))]) (λ_j w'=>Fr [] w2 w') (.c3 U U U) ?_ ?_)))))))));refine rg (fad U j6v ?_);replace D:=D.ext q2;refine z0i U D U na5 (x7c U U (by first|exact IntWalk.rem_in _ _ oo|rfl) U (z6s U (us underlying5) underlying3 (wi6 oo) (z0q U (wi6 oo) (asg U (nl ?_)))));exact jE (()) (.c4 U U U (congrArg (λz=>some (Value.int .i64 z)) a8)) (Fr.refl _ _);rintro _j w3 q3;have z3:=q3.size;refine kpC [(1,_),(8,_),(9,_),(11,_)] (.c4 U U U U) (jn (ι:=Unit) [(1,_),(8,_),(9,_),(11,_)] (λ_j=>[(12,.int .i64 (O:Int))]) (λ_j w'=>Fr [] w3 w') (.c4 U U U U) ?_ ?_);refine rg (fad U k2f ?_);replace D:=D.ext (q2.n1 q3);refine z0i U D U na5 (z6s U (us underlying5) underlying3 (wi6 oo) (mv U (z1u U (wi6 oo) (x7c U U (by first|exact IntWalk.rem_in _ _ oo|rfl) U (z0q U (wi6 oo) (asg U (kpL [(1,_),(8,_),(9,_),(11,_),(12,_)] (.c5 U U U U U) (nl ?_))))))));exact jE (()) (.c5 U U U U (congrArg (λz=>some (Value.int .i64 z)) a9)) (Fr.refl _ _);rintro _j w4 q4;have z4:=q4.size;refine kpC [(1,_),(8,_),(9,_),(11,_),(12,_)] (.c5 U U U U U) (sq (sr (mv U (lnS U underlying26 (mv U (mv U (z0q U (wi6 oo) (lt' U (nn (cd U (λc0=>?_) (λc0=>?_)))))))))));exact sr (asg U (asg U (asg U (asg U (asg U (asg U (kpL [(2,_),(3,_),(4,_),(5,_),(6,_),(7,_)] (.c6 U U U U U U) (nn (rt (tr (r6 results6 U U U U U U ⟨_,rfl,.slice none 0 0,.slice none 0 0,0,0,0,false,[],[],rfl,Own.nil _,Own.nil _,(λh=>by cases h),(q1.n3 q2 q3 q4)⟩)))))))))));have b1:=Int.emod_nonneg yI (show (f.length:Int)-(I:Int)-(O:Int)+1≠0 by omega);have b8:=Int.emod_lt_of_pos yI (show 0<(f.length:Int)-(I:Int)-(O:Int)+1 by omega);obtain⟨i',b0⟩:∃i':Nat,yI % ((f.length:Int)-(I:Int)-(O:Int)+1)=(i':Int):=⟨(yI % ((f.length:Int)-(I:Int)-(O:Int)+1)).toNat,(Int.toNat_of_nonneg b1).symm⟩;refine sk (tn (jn (ι:=Unit) [] (λ_j=>[(2,.slice AF f.length cF),(3,v8),(4,.int .i64 (i':Int)),(5,.int .i64 (I:Int)),(6,.int .i64 (O:Int)),(7,.bool true)]) (λ_j w'=>Fr [] w4 w') .nil ?_ ?_));replace D:=D.ext (q2.n2 q3 q4);intro a h;have a1:=Fr.refl [] w4;refine z3j (λwb w'=>Fr [] wb w') z2y ?_;intro w5 hq;have z5:=hq.size;replace D:=D.ext hq;replace a1:=a1.next hq;have c1:=hq.size;clear hq;have hC:Fr [] w5 w5:=Fr.refl _ _;have Z:=D;refine z0d 0 h U λa h=>z0d 1 h U λa h=>z0c 2 h U j8w U λa h=>z0j 3 h U (λ_ hw=>Z.ext hw) U na5 U λa h=>j1t 4 kr0 hC h wn U (by rw[underlying5];rfl) underlying3 (by first|exact i6 oo|rfl) U U λa h=>z0d 5 h U λa h=>z7q 6 hC h wn U underlying26 U λa h=>z0d 7 h U λa h=>z3e 8 h U (by first|exact i6 oo|rfl) U λa h=>z0d 9 h U λa h=>z3e 10 h U (by first|exact i6 oo|rfl) U λa h=>z4d 11 h U (by first|exact i6 oo|rfl) U λa h=>k1z 12 kr0 hC h wn U U oo (by first|exact IntWalk.rem_in _ _ oo|rfl) U U λa h=>z0d 13 h U λa h=>z0d 14 h U λa h=>z0e 15 U (z0s h U λa h=>?_);refine z0b (z0e 16 U (z0s h U λa h=>?_));refine z0b (z0e 17 U (z0s h U λa h=>?_));refine z0b (z0e 18 U (z0s h U λa h=>?_));refine z0b (z0e 19 U (z0s h U λa h=>?_));refine z0b (z0e 20 U (z0s h U λa h=>?_));refine z0b (z0r ?_);clear hC Z;have z5:=a1.size;refine bk (h.sub (L':=[(2,_),(3,_),(4,_),(5,_),(6,_),(7,_)]) (.c6 U U U U U U)) ?_;exact jE (()) (.c6 U U (congrArg (λz=>some (Value.int .i64 z)) b0) U U U) a1;rintro _j w6 q6;have z6:=q6.size;refine kpC [(2,_),(3,_),(4,_),(5,_),(6,_),(7,_)] (.c6 U U U U U U) (rt (r6 results6 U U U U U U ?_));replace a0:=a0.ext (q3.n2 q4 q6);replace a2:=a2.ext (q3.n2 q4 q6);exact⟨_,rfl,_,_,i',I,O,true,f,a7,rfl,a0.low oo,a2.low oo,(λ_=>⟨a3,⟨oo,oo,oo⟩,oo,hfl,a4,a5⟩),(q1.n4 q2 q3 q4 q6)⟩
end Go.Proofs.YtagnnbcnnmacmaaGreatDoor
namespace Go.G08
open Go.Lw Go.G21
theorem k3n {y:Yn}{pl:Int}{l:List Pa}(h1:y1z y)(D:x6z pl)(I:j2q l)(O:y.inn=true)(Z:(z5g y.pe l).length<=4096):goE y pl l=0:=by
 unfold goE;rw[if_neg (by rw[j5j h1];simp),if_neg (not_not_intro D),if_neg (not_not_intro I),if_neg (by rw[O];simp),if_neg oo]
theorem j2z {d:Int}(h:d=0\/d=1):stI (1-d) = - stI d/\(stI d=1\/stI d = -1):=by
 rcases h with rfl|rfl<;>exact⟨rfl,dd⟩
theorem z6b {a b:LId}{c:Cx}{l:List Cx}:z5n (c::l) a b=if isC a b c=true then c.n else z5n l a b:=by
 unfold z5n;rw[List.find?_cons];split<;>rename_i h<;>rw[h]<;>rfl
theorem u9a {a b a' b':LId}{n:Int}(h:¬(a'=a/\b'=b)):isC a b ⟨a',b',n⟩=false:=by unfold isC;simpa using h
theorem v1p {a b a' b':LId}{n:Int}:∀l:List Cx,z5n (l++[⟨a',b',n⟩]) a b=if l.any (isC a b)=true then z5n l a b else if a'=a/\b'=b then n else 0
 | []=>by
  rw[List.nil_append,z6b]
  by_cases h:a'=a/\b'=b
  ·rw[if_pos (by unfold isC;simpa using h),if_neg sp0,if_pos h]
  rw[if_neg (by rw[u9a h];simp),if_neg sp0,if_neg h];rfl
 | c::l=>by
  rw[List.cons_append,z6b,z6b,List.any_cons,v1p l]
  cases isC a b c<;>simp
theorem z9t {a b:LId}:∀ {l:List Cx},¬l.any (isC a b)=true->z5n l a b=0
 | [],_=>rfl
 | c::l,h=>by
  rw[List.any_cons,Bool.or_eq_true,not_or]at h
  rw[z6b,if_neg h.1,z9t h.2]
theorem v0i {a b a' b':LId}{n:Int}:∀l:List Cx,z5n (l.map λc=>if isC a' b' c then ⟨a',b',n⟩ else c) a b=if a'=a/\b'=b then (if l.any (isC a b)=true then n else 0) else z5n l a b
 | []=>by simp[z5n]
 | c::l=>by
  have O:=v0i (a:=a) (b:=b) (a':=a') (b':=b') (n:=n) l
  rw[List.map_cons,z6b,O,z6b]
  by_cases e:a'=a/\b'=b
  ·obtain⟨rfl,rfl⟩:=e
   have D:a'=a'/\b'=b':=⟨rfl,rfl⟩
   by_cases h:isC a' b' c=true
   ·rw[if_pos h,if_pos (by simp[isC]),if_pos D,if_pos (by rw[List.any_cons,h];rfl)]
   rw[if_neg h,if_neg h,if_pos D,if_pos D]
   by_cases k:l.any (isC a' b')=true
   ·rw[if_pos k,if_pos (by rw[List.any_cons,k,Bool.or_true])]
   rw[if_neg k,if_neg (by rw[List.any_cons,Bool.or_eq_true];rintro(x|x);exact h x;exact k x)]
  rw[if_neg e,if_neg e]
  cases h:isC a' b' c
  ·simp
  rw[if_pos U,u9a e]
  have:isC a b c=false:=by
   rw[<-Bool.not_eq_true,y1p];rw[y1p]at h
   intro I;rw[h]at I;exact e (by simpa using I)
  rw[this,if_neg sp0,if_neg sp0]
theorem v1l {l:List Cx}{a b a' b':LId}{n:Int}:z5n (y9q l a' b' n) a b=if a'=a/\b'=b then n else z5n l a b:=by
 unfold y9q;by_cases h:l.any (isC a' b')=true;rw[if_pos h,v0i];by_cases e:a'=a/\b'=b;rw[if_pos e,if_pos e,if_pos (by rw[<-e.1,<-e.2];exact h)];rw[if_neg e,if_neg e];rw[if_neg h,v1p];by_cases e:a'=a/\b'=b;rw[if_pos e,if_neg (by rw[<-e.1,<-e.2];exact h),if_pos e];rw[if_neg e];split;rfl;rename_i D;rw[z9t D]
theorem x3b {a b a' b':LId}:∀l:List Cx,z5n (x9z l a' b') a b=if a'=a/\b'=b then 0 else z5n l a b
 | []=>by simp[z5n,x9z]
 | c::l=>by
  have D:=x3b (a:=a) (b:=b) (a':=a') (b':=b') l
  unfold x9z at D ⊢
  rw[List.filter_cons,z6b]
  cases h:isC a' b' c
  ·simp only[Bool.not_false,if_true]
   rw[z6b,D]
   by_cases e:a'=a/\b'=b
   ·rw[if_pos e,if_pos e,if_neg (by rw[<-e.1,<-e.2,h];simp)]
   rw[if_neg e,if_neg e]
  simp only[Bool.not_true,Bool.false_eq_true,if_false]
  rw[D]
  by_cases e:a'=a/\b'=b
  ·rw[if_pos e,if_pos e]
  rw[if_neg e,if_neg e,if_neg]
  rw[y1p]at h ⊢
  intro I;rw[h]at I;exact e (by simpa using I)
theorem v0v {l l':List Cx}{c:Cx}(h:y8o l c=.ok l')(a b:LId):z5n l' a b=if z3a c=(a,b) then z5n l a b+c.n else z5n l a b:=by
 rw[x0t]at h;generalize z3a c=k at h ⊢;obtain⟨x,y⟩:=k;simp only at h;by_cases h1:z5n l x y+c.n < -1048576\/1048576<z5n l x y+c.n;rw[if_pos h1]at h;cases h;rw[if_neg h1]at h;by_cases e:x=a/\y=b;obtain⟨rfl,rfl⟩:=e;rw[if_pos U];by_cases h2:z5n l x y+c.n=0;rw[if_pos h2]at h;cases h;rw[x3b,if_pos ⟨rfl,rfl⟩];omega;rw[if_neg h2]at h;cases h;rw[v1l,if_pos ⟨rfl,rfl⟩];rw[if_neg (by simpa using e)];by_cases h2:z5n l x y+c.n=0;rw[if_pos h2]at h;cases h;rw[x3b,if_neg e];rw[if_neg h2]at h;cases h;rw[v1l,if_neg e]
theorem j2c {l:List Cx}{c:Cx}(h:-1048576<=z5n l (z3a c).1 (z3a c).2+c.n/\z5n l (z3a c).1 (z3a c).2+c.n<=1048576):∃l',y8o l c=.ok l':=by
 rw[x0t,if_neg oo];split<;>exact⟨_,rfl⟩
theorem x4o {a b:LId}(h:a≠b):(0<z5m a b↔¬0<z5m b a):=by
 constructor;intro D I;have:=x5l D;omega;intro D;have I:=v1t (Ne.symm h) D;unfold z5m at I ⊢;(repeat' split at I)<;>(repeat' split)<;>omega
theorem y0s {l r:List Cx}{c:Cx}:z4s l (c::r)=match y8o l c with|.error e=>.error e|.ok l'=>z4s l' r:=rfl
theorem x5t:∀ {x y l:List Cx},z4s l (x++y)=match z4s l x with|.error e=>.error e|.ok l'=>z4s l' y
 | [],y,l=>rfl
 | c::x,y,l=>by
  rw[List.cons_append,y0s,y0s]
  cases y8o l c with
  | error e=>rfl
  | ok l'=>exact x5t
theorem u3e {l:List Cx}{c:Cx}(hn:(l.map λc=>(c.a,c.b)).Nodup)(O:∀x∈l,x.n≠0):c∈l↔c.n≠0/\z5n l c.a c.b=c.n:=by
 constructor;intro h;refine⟨O c h,?_⟩;unfold z5n;rw[y5m hn h U];rfl;rintro⟨Z,D⟩;unfold z5n at D;cases e:l.find? (isC c.a c.b) with
 | none=>rw[e]at D;exact absurd D.symm Z
 | some x=>
  rw[e]at D;have I:=y1p.1 (List.find?_some e);have h4:=List.mem_of_find?_eq_some e;obtain⟨xa,xb,xn⟩:=x;obtain⟨ca,cb,cn⟩:=c;simp only[Prod.mk.injEq]at I;obtain⟨rfl,rfl⟩:=I;obtain rfl:xn=cn:=D;exact h4
def itS:Nat->MSt->Int->MR
  | 0,p,_=>.ok p
  | n+1,p,d=>match z9l p d with
    | .error e=>.error e
    | .ok q=>itS n q d
theorem j2x {p q:MSt}{d:Int}(e:z9l p d=.ok q):q.rk=p.rk+stI d:=by
 unfold z9l at e;split at e;cases e;split at e;cases e;cases e;rfl
theorem v6d {r d:Int}(D:d=0\/d=1):∀ {k n:Nat} {p:MSt},k<=n->r=p.rk+k*stI d->z6m n p r=itS k p d
 | 0,0,p,_,_=>rfl
 | 0,n+1,p,_,h=>by unfold z6m;rw[if_pos (by simpa using h.symm)];rfl
 | k+1,n+1,p,hk,h=>by
  have O:=(j2z D).2
  have hm:((k+1:Nat):Int)*stI d=k*stI d+stI d:=by rw[Int.natCast_add,Int.add_mul];simp
  rw[hm]at h
  have a0:(k:Int)*stI d=k\/(k:Int)*stI d = -k:=by rcases O with e|e<;>rw[e]<;>simp
  have Z:(k:Int)*stI d=k↔(stI d=1\/k=0):=by rcases O with e|e<;>rw[e]<;>simp<;>omega
  unfold z6m itS
  rw[if_neg (by rcases O with e|e<;>rw[e]at h<;>simp at h<;>omega)]
  have I:(if r<p.rk then 0 else 1:Int)=d:=by
   rcases D with rfl|rfl
   ·have:stI 0 = -1:=rfl
    rw[this]at h;rw[if_pos (by simp at h;omega)]
   have:stI 1=1:=rfl
   rw[this]at h;rw[if_neg (by simp at h;omega)]
  rw[I]
  cases e:z9l p d with
  | error x=>rfl
  | ok q=>exact v6d D oo (by rw[j2x e];omega)
theorem u1c {p:MSt}{y:Int}{q:Yn}(h:(y-1).toNat<p.ys.length):(p.setY y q).y y=q:=by
 unfold MSt.setY MSt.y;simp only;rw[List.getD,List.getElem?_set_self (by exact h)];rfl
theorem j0u {p q:MSt}{y pl en:Int}(e:y5y p y pl en=.ok q):goE (p.y y) pl (y4z p y en)=0/\q=p.setY y (goS (p.y y) pl (y4z p y en)):=by
 unfold y5y at e;split at e;cases e;rename_i h;cases e;exact⟨Classical.not_not.1 h,rfl⟩
theorem j2n {p:MSt}{y pl en:Int}(h:goE (p.y y) pl (y4z p y en)=0):y5y p y pl en=.ok (p.setY y (goS (p.y y) pl (y4z p y en))):=by
 unfold y5y;rw[if_neg (not_not_intro h)]
theorem v0q {B:Bd}{r a b:Int}:(btw (z3h B r) a b).length<=B.flat.length:=by
 have D:(z3h B r).length=B.flat.length:=by rw[(y3t _ _).length_eq,y2u]
 rw[<-D];unfold btw;split;rw[List.length_map];exact List.length_filter_le _ _;rw[List.length_reverse,List.length_map];exact List.length_filter_le _ _
end Go.G08
namespace Go.Lw
theorem u0e {c:UInt8}:∀ {l:List UInt8},c∉l->Lib.index l [c] = -1
 | [],_=>by simp[Lib.index]
 | b::l,h=>by
  have D:¬c=b:=λe=>h (by rw[e];simp)
  have hl:c∉l:=λe=>h (by simp[e])
  rw[Lib.index,u0e hl]
  simp[List.isPrefixOf,D]
theorem u8y {c:UInt8}(y:List UInt8):∀ {x:List UInt8},c∉x->Lib.index (x++c::y) [c]=x.length
 | [],_=>by simp[Lib.index,List.isPrefixOf]
 | b::x,h=>by
  have D:¬c=b:=λe=>h (by rw[e];simp)
  have hl:c∉x:=λe=>h (by simp[e])
  rw[List.cons_append,Lib.index,u8y y hl]
  simp only[List.isPrefixOf,beq_eq_false_iff_ne.2 D,Bool.false_and,Bool.false_eq_true,if_false]
  rw[if_neg se];simp
theorem cnt {c:UInt8}:∀(f:Nat) (s:List UInt8),s.length<f->Lib.countFrom [c] f s=s.count c
 | 0,s,h=>by omega
 | f+1,s,h=>by
  rw[Lib.countFrom]
  by_cases hm:c∈s
  ·obtain⟨x,y,rfl,D⟩:=List.eq_append_cons_of_mem hm
   rw[u8y y D,if_neg se]
   have e:(x++c::y).drop ((x.length:Int).toNat + [c].length)=y:=by
    rw[Int.toNat_natCast,show x++c::y=(x++[c])++y by simp,show x.length + [c].length=(x++[c]).length by simp,List.drop_left]
   rw[e,cnt f y (by simp at h;omega)]
   simp[List.count_eq_zero.2 D];omega
  rw[u0e hm,if_pos dd,List.count_eq_zero.2 hm]
end Go.Lw
namespace Go.G08
open Go.Lw Go.G21
theorem y4y {p:MSt}{o:MOp}(h:y2p o=0):doM p o=opM p o:=by unfold doM;rw[if_neg (by rw[h];simp)]
end Go.G08
namespace Go.G09
open Go.Lw Go.G21 Go.G08
def CrB (l:List Cx)(n:Int):Prop:=∀a b,-n<=z5n l a b/\z5n l a b<=n
theorem CrB.mono {l:List Cx}{n m:Int}(h:CrB l n)(D:n<=m):CrB l m:=λa b=>⟨by have:=(h a b).1;omega,by have:=(h a b).2;omega⟩
theorem x3r:∀ {r l:List Cx} {n:Int},CrB l n->(∀c∈r,c.n=1\/c.n = -1)->n+r.length<=1048576->∃l',z4s l r=.ok l'/\CrB l' (n+r.length)
 | [],l,n,h,_,_=>⟨l,rfl,h.mono sp0⟩
 | c::r,l,n,h,hr,hn=>by
  have h1:=hr c (List.mem_cons_self ..)
  have hl:((c::r).length:Int)=r.length+1:=by simp
  rw[hl]at hn ⊢
  have hk:=h (z3a c).1 (z3a c).2
  obtain⟨l1,D⟩:=j2c (l:=l) (c:=c) oo
  have Z:CrB l1 (n+1):=λa b=>by
   rw[v0v D]
   have:=h a b
   split<;>omega
  obtain⟨l2,I,O⟩:=x3r Z (λc hc=>hr c (List.mem_cons_of_mem _ hc)) oo
  exact⟨l2,by rw[y0s,D];exact I,O.mono oo⟩
theorem j1z {b n r:Int}(hn:z4g b n=0)(D:-4<=r/\r<=4):(z2s b n r=if b=0 then 4*n+2 else 4*(n+r))/\-12<=z2s b n r/\z2s b n r<=176/\z2s b n r % 2=0:=by
 obtain⟨Z,I,O⟩:=z3n hn;have e:z2s b n r=if b=0 then 4*n+2 else 4*(n+r):=by
  unfold z2s;rw[if_neg (by rintro(h|h);exact h hn;exact h D)]
 refine⟨e,?_⟩;rw[e];split<;>omega
theorem y5g {p:MSt}{o:MOp}(hn:z4g o.b o.p=0)(D:-4<=p.rk/\p.rk<=4):x6z (behP p o):=by
 obtain⟨_,I,O,Z⟩:=j1z hn D;unfold Go.G08.behP x6z;split<;>refine⟨?_,oo,oo⟩<;>intro e<;>have:=Int.dvd_of_tmod_eq_zero e<;>omega
theorem k5w {B:Bd}(I:BdOk B){r f t:Int}:j2q (btw (z3h B r) f t):=λq D=>by
 refine⟨I.nm _ (v6c D),?_⟩
 unfold btw at D
 split at D
 ·obtain⟨h,_,rfl⟩:=List.mem_map.1 D;exact .inr U
 obtain⟨h,_,rfl⟩:=List.mem_map.1 (List.mem_reverse.1 D);exact .inl U
theorem y6a {p:MSt}{y pl en:Int}(h:MInv p)(hy:1<=y/\y<=6)(I:x6z pl)(D:(p.y y).inn=true)(O:(p.y y).pe.length+p.B.flat.length<=4096) :
    y5y p y pl en=.ok (p.setY y (goS (p.y y) pl (y4z p y en))):=by
  refine j2n (k3n (h.yn (y-1).toNat oo).1 I (k5w h.B) D ?_)
  have Z:=z8e (y4z p y en) (p.y y).pe
  have h2:(y4z p y en).length<=p.B.flat.length:=v0q
  omega
structure Mk (p q:MSt) (o:MOp) (st:List LId):Prop where
  rk:q.rk=p.rk
  B:q.B=p.B.put o.b o.p (st++[⟨o.y,(p.y o.y).ct⟩])
  tb:∃th pe,q.tb=p.tb.set (o.y-1).toNat (p.row o.y++[⟨o.b,(p.y o.y).nw,th,pe⟩])
  ys:q.ys=p.ys.set (o.y-1).toNat ⟨true,behP p o,(p.y o.y).ct+1,false,[]⟩
  cr:q.cr=p.cr
  fa:q.fa=p.fa
theorem u8q {p:MSt}(h:MInv p){o:MOp}(hy:1<=o.y/\o.y<=6)(hn:z4g o.b o.p=0)(D:(p.y o.y).inn=true)(a1:(p.y o.y).ct<2048)(a0:z4r p.tb<2048)(Z:(p.y o.y).pe.length+p.B.flat.length<=4096)(th st:List LId) :
    ∃q,x2r (p.setY o.y (goS (p.y o.y) (behP p o) (y4z p o.y (z2s o.b o.p p.rk)))) o th st=.ok q/\Mk p q o st:=by
  have hl:(o.y-1).toNat<p.ys.length:=by rw[h.ly];omega
  have hc:=y6a (en:=z2s o.b o.p p.rk) h hy (y5g hn h.rk) D Z
  have hi:=(y1x h hy hc).1
  have I:(p.setY o.y (goS (p.y o.y) (behP p o) (y4z p o.y (z2s o.b o.p p.rk)))).y o.y=goS (p.y o.y) (behP p o) (y4z p o.y (z2s o.b o.p p.rk)):=u1c hl
  have O:y1z ((p.setY o.y (goS (p.y o.y) (behP p o) (y4z p o.y (z2s o.b o.p p.rk)))).y o.y):=(hi.yn (o.y-1).toNat oo).1
  have hm:mkE (goS (p.y o.y) (behP p o) (y4z p o.y (z2s o.b o.p p.rk)))=0:=by
    unfold mkE
    rw[<-I,if_neg (by rw[j5j O];decide),I]
    rw[if_neg (by show ¬(p.y o.y).inn=false;rw[D];decide),if_neg (by show ¬(p.y o.y).ct=2048;omega)]
  unfold x2r
  rw[I,if_neg (by rw[hm];decide),if_neg (by show ¬2048<=z4r p.tb;omega)]
  refine⟨_,rfl,rfl,rfl,⟨th,_,rfl⟩,?_,rfl,rfl⟩
  show (p.ys.set _ _).set _ _=_
  rw[List.set_set]
  rfl
theorem v5d {p:MSt}(h:MInv p){o:MOp}(hc:y2p o=0)(hk:o.k=4)(hb:z7i p o=0)(D:(p.y o.y).inn=true)(Z:(p.y o.y).ct<2048)(O:z4r p.tb<2048)(I:(p.y o.y).pe.length+p.B.flat.length<=4096) :
    ∃q,doM p o=.ok q/\Mk p q o []:=by
  obtain⟨_,_,f3,_,f5,_⟩:=z7b hc
  have hy:=f3 oo;have hn:=f5 oo
  rw[y4y hc]
  unfold opM
  rw[if_neg oo,if_neg oo,if_neg oo,if_pos hk]
  unfold y4c
  rw[if_neg (by rw[hb];decide),y6a h hy (y5g hn h.rk) D I]
  exact u8q h hy hn D Z O I _ _
theorem v9t {p:MSt}(h:MInv p){o:MOp}(hc:y2p o=0)(hk:o.k=5)(hb:z7i p o=0)(D:(p.y o.y).inn=true)(Z:(p.y o.y).ct<2048)(O:z4r p.tb<2048)(I:(p.y o.y).pe.length+p.B.flat.length<=4096)(a0:(p.B.at o.b o.p).length<4) :
    ∃q,doM p o=.ok q/\Mk p q o (p.B.at o.b o.p):=by
  obtain⟨_,_,f3,_,f5,_⟩:=z7b hc
  have hy:=f3 oo;have hn:=f5 oo
  rw[y4y hc]
  unfold opM
  rw[if_neg oo,if_neg oo,if_neg oo,if_neg oo,if_pos hk]
  unfold y2s
  rw[if_neg (by rw[hb];decide),y6a h hy (y5g hn h.rk) D I]
  simp only
  rw[if_neg (by show ¬4<=(p.B.at o.b o.p).length;omega)]
  exact u8q h hy hn D Z O I _ _
theorem j4n {p:MSt}(h:MInv p){o:MOp}(O:y2p o=0)(Z:o.k=1)(D:(p.y o.y).inn=false):doM p o=.ok (p.setY o.y (enS (p.y o.y) o.d)):=by
 obtain⟨_,f2,f3,_,_,_⟩:=z7b O;have hy:=f3 oo;rw[y4y O];unfold opM inM;have he:enE (p.y o.y) o.d=0:=by
  have I:y1z (p.y o.y):=(h.yn (o.y-1).toNat oo).1;unfold enE;rw[if_neg (by rw[j5j I];decide),if_neg (λx=>x (f2 Z)),if_neg (by rw[D];decide)]
 rw[if_pos Z,if_neg (by rw[he];decide)]
theorem u5n {p:MSt}(h:MInv p){o:MOp}(O:y2p o=0)(hk:o.k=2)(D:(p.y o.y).inn=true):doM p o=.ok (p.setY o.y (lvS (p.y o.y))):=by
 obtain⟨_,_,Z,_,_,_⟩:=z7b O;have hy:=Z oo;rw[y4y O];unfold opM v3m;have he:lvE (p.y o.y)=0:=by
  have I:y1z (p.y o.y):=(h.yn (o.y-1).toNat oo).1;unfold lvE;rw[if_neg (by rw[j5j I];decide),if_neg (by rw[D];decide)]
 rw[if_neg oo,if_pos hk,if_neg (by rw[he];decide)]
end Go.G09
namespace Go.G08
open Go.Lw Go.G21
theorem v1i {p q:MSt}{o:MOp}{D st:List LId}(e:x2r p o D st=.ok q):z4r q.tb<=z4r p.tb+1:=by
 unfold x2r at e;split at e;cases e;split at e;cases e;cases e;show z4r (p.tb.set (o.y-1).toNat (p.row o.y++[_]))<=_;by_cases hj:(o.y-1).toNat<p.tb.length;have:=y7n p.tb (o.y-1).toNat (p.row o.y++[⟨o.b,(p.y o.y).nw,D,(p.y o.y).pe⟩]) hj;rw[List.length_append,List.length_singleton,show (p.row o.y).length=z3w p.tb (o.y-1).toNat from U]at this;omega;rw[List.set_eq_of_length_le oo];omega
theorem x8e {p q:MSt}{y pl en:Int}(e:y5y p y pl en=.ok q):q.tb=p.tb:=by obtain⟨_,rfl⟩:=j0u e;rfl
theorem v2m {r:Int}:∀ {n:Nat} {p q:MSt},z6m n p r=.ok q->q.tb=p.tb
 | 0,p,q,e=>by cases e;rfl
 | n+1,p,q,e=>by
  unfold z6m at e
  split at e
  ·cases e;rfl
  split at e
  ·cases e
  rename_i I D
  refine(v2m e).trans ?_
  unfold z9l at D
  split at D
  ·cases D
  split at D
  ·cases D
  cases D;rfl
theorem k1d {p q:MSt}{o:MOp}(e:doM p o=.ok q):z4r q.tb<=z4r p.tb+1:=by
 have t:∀ {x:MSt},x.tb=p.tb->z4r x.tb<=z4r p.tb+1:=λh=>by rw[h];omega
 unfold doM at e;split at e;cases e;unfold opM at e;split at e;unfold inM at e;split at e;cases e;cases e;exact t U;split at e;unfold v3m at e;split at e;cases e;cases e;exact t U;split at e;exact t (v2m e);split at e;unfold y4c at e;split at e;cases e;split at e;cases e;rename_i h;have:=v1i e;rw[x8e h]at this;exact this;split at e;unfold y2s at e;split at e;cases e;split at e;cases e;rename_i h;split at e;cases e;have:=v1i e;rw[x8e h]at this;exact this;split at e;unfold y6i at e;split at e;cases e;exact t (x8e e);split at e;unfold z9c at e;repeat (split at e;· cases e)
 cases e;exact t U;unfold y6f at e;split at e;cases e;cases e;exact t U
end Go.G08
namespace Go.G26
open Go.Lw Go.G21 Go.G08
def k2i (l:List LId)(x:LId):Int:=if x∈l then (l.idxOf x:Int) else -1
abbrev St:=List LId×List Int
def k5v (o:List LId)(k:Nat):List LId:=(o.set (k-1) (o.getD k id0)).set k (o.getD (k-1) id0)
def k5f (st:St)(c:Cx):St:=
  if 0<k2i st.1 c.a+1/\k2i st.1 c.a+1<(st.1.length:Int) then (k5v st.1 (k2i st.1 c.a+1).toNat,st.2++[(k2i st.1 c.a+1)*c.n]) else st
def k4a (st:St)(cs:List Cx):St:=cs.foldl k5f st
def j8e (B:Bd)(d:Int):Nat->Int->St->St
  | 0,_,st=>st
  | n+1,r,st=>j8e B d n (r+stI d) (k4a st (z3q B r d))
def turnS (B:Bd)(r ro:Int)(st:St):St:=j8e B (if ro<r then 0 else 1) (if ro<r then r-ro else ro-r).toNat r st
def x1p:MSt->St->List MOp->Option St
  | _,st,[]=>some st
  | p,st,o::l=>
    let st':=if o.k=3 then turnS p.B p.rk o.r st else st
    if 64<st'.2.length then none else match doM p o with
      | .error _=>none
      | .ok q=>x1p q st' l
def ord0 (p:MSt):List LId:=(z3h p.B p.rk).map Hd.id
abbrev Asc (l:List Hd):Prop:=l.Pairwise λx y=>x.s<=y.s
theorem flat_one {α:Type}{X:List α}:∀ {n k:Nat},((List.range n).flatMap λi=>if i=k then X else [])=if k<n then X else []
 | 0,k=>by simp
 | n+1,k=>by
  rw[List.range_succ,List.flatMap_append,flat_one (n:=n) (k:=k)]
  simp only[List.flatMap_cons,List.flatMap_nil,List.append_nil]
  by_cases e:n=k
  ·subst e;simp
  rw[if_neg e,List.append_nil]
  by_cases h:k<n
  ·rw[if_pos h,if_pos oo]
  rw[if_neg h,if_neg oo]
theorem j1r (b r v:Int)(l:Bed)(i:Nat):(hds b r l i).filter (λx=>decide (x.s=v))=(List.range i).flatMap λ(k:Nat)=>if z2s b ((k:Int)+1) r=v then (l.getD k []).map (hdS b r k) else []:=by
 unfold hds;rw[List.filter_flatMap];congr 1;funext k;by_cases e:z2s b ((k:Int)+1) r=v;rw[if_pos e];refine List.filter_eq_self.2 λx D=>?_;obtain⟨y,_,rfl⟩:=List.mem_map.1 D;exact decide_eq_true e;rw[if_neg e];refine List.filter_eq_nil_iff.2 λx D=>?_;obtain⟨y,_,rfl⟩:=List.mem_map.1 D;exact λh=>e (of_decide_eq_true h)
theorem x8v (b r v:Int)(l:Bed)(i:Nat):((hds b r l i).filter (λx=>decide (x.s=v))).map Hd.id=(List.range i).flatMap λ(k:Nat)=>if z2s b ((k:Int)+1) r=v then l.getD k [] else []:=by
 rw[j1r,List.map_flatMap];congr 1;funext k;split;rw[List.map_map];exact(List.map_congr_left λx _=>rfl).trans (List.map_id _);rfl
theorem v0c {n r:Int}(hn:1<=n/\n<=40)(D:-4<=r/\r<=4):z2s 0 n r=4*n+2:=by
 unfold z2s;rw[if_neg,if_pos U];intro h;rcases h with h|h
 exact h (z2c ⟨.inl U,hn.1,hn.2⟩);exact h D
abbrev Bk:=List LId×List LId
def swpN (l:List Nat)(k:Nat):List Nat:=(l.set (k-1) (l.getD k 0)).set k (l.getD (k-1) 0)
def flw (l:List Nat)(w:List Int):List Nat:=w.foldl (λl k=>swpN l k.natAbs) l
def sgn (k:Int):Int:=if k<0 then -1 else 1
def lnk:List Nat->List Int->Nat->Nat->Int
  | _,[],_,_=>0
  | l,x::u,i,k=>(if (l.getD (x.natAbs-1) 0=i/\l.getD x.natAbs 0=k)\/(l.getD (x.natAbs-1) 0=k/\l.getD x.natAbs 0=i) then sgn x else 0)+lnk (swpN l x.natAbs) u i k
def crS (cs:List Cx)(a b:LId):Int:=(cs.map λc=>if (c.a=a/\c.b=b)\/(c.a=b/\c.b=a) then c.n else 0).sum
abbrev Sg (cs:List Cx):Prop:=∀c∈cs,c.n=1\/c.n = -1
end Go.G26
namespace Go.G08
open Go.Lw Go.G21
end Go.G08
namespace Go.G08
open Go.Lw Go.G21
def k3a:Nat->Nat->List UInt8
  | 0,_=>[]
  | f+1,u=>if u<10 then [UInt8.ofNat (48+u)] else k3a f (u / 10)++[UInt8.ofNat (48+u % 10)]
def k2u (n:Int):List UInt8:=if n<0 then 45::k3a 8 n.natAbs else k3a 8 n.toNat
def v4c (i:LId):List UInt8:=k2u i.y++[46]++k2u i.n
def v9i (wd:List UInt8)(l:List LId):List (List UInt8):=wd::l.map v4c
def k2z (p:Pa):List UInt8:=if p.f=true then (v4c p.id++(if p.d=1 then [62] else [60]))++[43] else v4c p.id++(if p.d=1 then [62] else [60])
def j9e:List UInt8:=[102,114,111,110,116]
def k2m:List UInt8:=[98,97,99,107]
def sNew:List UInt8:=[110,101,119]
def sThr:List UInt8:=[116,104,114,111,117,103,104]
def k4n:List UInt8:=[112,97,115,116]
def k1q:List UInt8:=[99,114,111,115,115]
def k3q:List UInt8:=[104,101,108,100]
def j4w:List UInt8:=[102,97,108,108,101,110]
def k2o (i:LId)(l:Lp):List (List UInt8):=[v4c i,if l.b=1 then k2m else j9e]++(if l.nw=true then [sNew] else [])
def k5s (i:LId)(l:Lp):List (List UInt8):=k2o i l++(if l.th=[] then [] else v9i sThr l.th)
def k4q (i:LId)(l:Lp):List (List UInt8):=k5s i l++(if l.pa=[] then [] else [k4n])
def k4v (i:LId)(l:Lp):List (List UInt8):=k4q i l++l.pa.map k2z
def u7p (ws:List (List UInt8)):List UInt8:=Lib.join ws [32]++[10]
def j9t (y:Nat):Nat->List Lp->List UInt8
  | _,[]=>[]
  | n,l::r=>u7p (k4v ⟨(y:Int)+1,(n:Int)⟩ l)++j9t y (n+1) r
def k0j:Nat->Tb->List UInt8
  | _,[]=>[]
  | y,r::T=>j9t y 0 r++k0j (y+1) T
def j8q:List Cx->List UInt8
  | []=>[]
  | c::l=>u7p [k1q,v4c c.a,v4c c.b,k2u c.n]++j8q l
def k3c (h:List LId):List UInt8:=if h=[] then [] else u7p (v9i k3q h)
def k5q (f:List LId):List UInt8:=if f=[] then [] else u7p (v9i j4w f)
def u4u (T:Tb)(c:List Cx)(h f:List LId):List UInt8:=k0j 0 T++(j8q c++(k3c h++k5q f))
end Go.G08
namespace Go.G08
open Go.Lw Go.G21
end Go.G08
namespace Go.G08
open Go.Lw Go.G21
end Go.G08
namespace Go.G08
open Go.Lw Go.G21
end Go.G08
namespace Go.G09
open Go.Lw Go.G21 Go.G08
structure Hz where
  o:Int
  k:Int
  id:LId
deriving DecidableEq
def posS (b n r:Int):Int:=z2s b n r / 4
def apt (a b:Int):Int:=max (a-b) (b-a)
structure Vw where
  l:List Hd
  r:Int
def Vw.pos (v:Vw)(i:LId):Option Int:=(v.l.find? λh=>decide (h.id=i)).map λh=>posS h.b h.n v.r
def Vw.str (v:Vw)(i:LId):Bool:=match v.pos i,v.pos ⟨i.y,i.n-1⟩ with
  | some a,some b=>decide (6<apt a b)
  | _,_=>false
def Vw.on (v:Vw)(n:Int×Int):List LId:=(v.l.filter λh=>decide ((h.b,h.n)=n)).map Hd.id
def isMk (o:MOp):Prop:=o.k=4\/o.k=5
instance (o:MOp):Decidable (isMk o):=inferInstanceAs (Decidable (_\/_))
def isYn (o:MOp):Prop:=o.k=1\/o.k=2\/o.k=6
instance (o:MOp):Decidable (isYn o):=inferInstanceAs (Decidable (_\/_))
def k3 (l:List Hz):List Hz:=l.filter λh=>decide (h.k<=3)
end Go.G09
namespace Go.G26
open Go.Lw Go.G21 Go.G08 Go.G09
def lkC (l:List Cx)(a b:LId):Int:=z5n l (z3a ⟨a,b,0⟩).1 (z3a ⟨a,b,0⟩).2
theorem x1j {c:Cx}{a b:LId}(h:a≠b):z3a c=z3a ⟨a,b,0⟩↔(c.a=a/\c.b=b)\/(c.a=b/\c.b=a):=by
 have O:=x4o h;have Z:=x4o (Ne.symm h);unfold z3a;by_cases k:0<z5m a b;rw[if_pos (c:=0<z5m (⟨a,b,0⟩:Cx).a (⟨a,b,0⟩:Cx).b) k];by_cases k2:0<z5m c.a c.b;rw[if_pos k2];simp only[Prod.mk.injEq];constructor;rintro⟨D,I⟩;exact .inl ⟨I,D⟩;rintro(⟨D,I⟩|⟨D,I⟩);exact⟨I,D⟩;rw[D,I]at k2;exact absurd k2 (O.1 k);rw[if_neg k2];simp only[Prod.mk.injEq];constructor;rintro⟨D,I⟩;exact .inr ⟨D,I⟩;rintro(⟨D,I⟩|⟨D,I⟩);rw[D,I]at k2;exact absurd k k2;exact⟨D,I⟩;rw[if_neg (c:=0<z5m (⟨a,b,0⟩:Cx).a (⟨a,b,0⟩:Cx).b) k];by_cases k2:0<z5m c.a c.b;rw[if_pos k2];simp only[Prod.mk.injEq];constructor;rintro⟨D,I⟩;exact .inr ⟨I,D⟩;rintro(⟨D,I⟩|⟨D,I⟩);rw[D,I]at k2;exact absurd k2 k;exact⟨I,D⟩;rw[if_neg k2];simp only[Prod.mk.injEq];constructor;rintro⟨D,I⟩;exact .inl ⟨D,I⟩;rintro(⟨D,I⟩|⟨D,I⟩);exact⟨D,I⟩;rw[D,I]at k2;exact absurd (Z.2 k) k2
theorem v6m {a b:LId}(h:a≠b):∀ {cs l l':List Cx},z4s l cs=.ok l'->lkC l' a b=lkC l a b+crS cs a b
 | [],l,l',e=>by cases e;simp[crS]
 | c::cs,l,l',e=>by
  rw[y0s]at e
  cases e1:y8o l c with
  | error x=>rw[e1]at e;cases e
  | ok l1=>
   rw[e1]at e
   have D:=v0v e1 (z3a ⟨a,b,0⟩).1 (z3a ⟨a,b,0⟩).2
   rw[v6m h e]
   unfold lkC crS at *
   rw[D,List.map_cons,List.sum_cons]
   by_cases k:(c.a=a/\c.b=b)\/(c.a=b/\c.b=a)
   ·rw[if_pos k,if_pos ((x1j h).2 k)];omega
   rw[if_neg k,if_neg (λe=>k ((x1j h).1 e))];omega
structure Wd (f:Nat->LId) (l:List Nat) (u:List Int) (p q:MSt):Prop where
  ord:ord0 q=(flw l u).map f
  bd:∀k∈u,1<=k.natAbs/\k.natAbs<l.length
  lk:∀i k,i∈l->k∈l->f i≠f k->lkC q.cr (f i) (f k)=lkC p.cr (f i) (f k)+lnk l u i k
end Go.G26
namespace Go.G28
open Go.Lw Go.G21 Go.G08 Go.G09 Go.G26
abbrev Row:=Int->List LId
def upR (F:Row)(n:Int)(s:List LId):Row:=λm=>if m=n then s else F m
structure Tv (p:MSt) (r:Int) (F G:Row):Prop where
  inv:MInv p
  rk:p.rk=r
  f:∀n,1<=n->n<=40->p.B.at 0 n=F n
  g:∀n,1<=n->n<=40->p.B.at 1 n=G n
  out:∀y∈p.ys,y.inn=false
structure Ky (p q:MSt):Prop where
  tb:q.tb=p.tb
  fa:q.fa=p.fa
  ys:q.ys=p.ys
theorem Ky.refl (p:MSt):Ky p p:=⟨rfl,rfl,rfl⟩
theorem Ky.trans {p q r:MSt}(h:Ky p q)(D:Ky q r):Ky p r:=⟨D.tb.trans h.tb,D.fa.trans h.fa,D.ys.trans h.ys⟩
theorem Tv.congr {p:MSt}{r:Int}{F G F' D:Row}(h:Tv p r F G)(hf:∀n,1<=n->n<=40->F' n=F n)(I:∀n,1<=n->n<=40->D n=G n):Tv p r F' D:=
 ⟨h.inv,h.rk,λn a b=>(h.f n a b).trans (hf n a b).symm,λn a b=>(h.g n a b).trans (I n a b).symm,h.out⟩
theorem v2i {b n:Int}(hb:b=0\/b=1)(hn:1<=n/\n<=40):y2p (z6a b n)=0:=by
 unfold y2p;have:y3b (z6a b n):=by
  refine⟨rfl,?_⟩;show y7u (false,true,false,false) (z6a b n);have D:z4g b n=0:=z2c ⟨hb,hn⟩;refine⟨by simp[pl1,z6a],?_,by simp[pl3,z6a],.inr U⟩;simp only[pl2,z6a,D];simp
 rw[if_neg (λh=>h this),if_neg (by simp[z6a])]
theorem u5h {r:Int}(D:-4<=r/\r<=4):y2p (y0a r)=0:=by
 unfold y2p;have:y3b (y0a r):=by
  refine⟨rfl,?_⟩;show y7u (false,false,false,true) (y0a r);exact⟨by simp[pl1,y0a],by simp[pl2,y0a],by simp[pl3,y0a],.inl U⟩
 rw[if_neg (λh=>h this),if_neg (by simp[y0a];omega)]
theorem j4c {p:MSt}{r:Int}{F G:Row}(h:Tv p r F G){n:Int}(hn:1<=n/\n<=40)(O:1<=n-r/\n-r<=40)(hs:F n≠[])(hd:G (n-r)=[]) :
    ∃q,doM p (z6a 0 n)=.ok q/\Tv q r (upR F n []) (upR G (n-r) (F n))/\q.cr=p.cr/\Ky p q:=by
  have I:z4g 0 n=0:=z2c ⟨.inl U,hn⟩
  have D:z4g 1 (n-r)=0:=z2c ⟨.inr U,O⟩
  have Z:=h.f n hn.1 hn.2
  have e1:=h.g (n-r) O.1 O.2
  have e4:=y2e h.inv.B 0 n
  have hx:doM p (z6a 0 n)=.ok { p with B:=(p.B.put 0 n []).put 1 (n-r) (p.B.at 1 (n-r)++p.B.at 0 n) }:=by
    rw[y4y (v2i (.inl U) hn)]
    show z9c p (z6a 0 n)=_
    unfold z9c
    simp only[z6a,z8d,h.rk]
    rw[if_neg (by rw[Z];exact hs),if_neg (by simpa using D),if_neg (by rintro⟨y,hy,hi,_⟩;rw[h.out y hy]at hi;cases hi)]
    simp only[show (0:Int)=1↔False by decide,if_false,show (1:Int)-0=1 from U]
    rw[if_neg (by rw[e1,hd];simp;omega)]
    simp only[y1a,z8d,h.rk]
    simp
  refine⟨_,hx,⟨y1b h.inv hx,h.rk,λm a b=>?_,λm a b=>?_,h.out⟩,rfl,⟨rfl,rfl,rfl⟩⟩
  · show ((p.B.put 0 n []).put 1 (n-r) _).at 0 m=_
    rw[z5r _ D (z2c ⟨.inl U,a,b⟩),if_neg sp0,z5r _ I (z2c ⟨.inl U,a,b⟩)]
    unfold upR
    by_cases c:m=n
    · rw[if_pos ⟨rfl,c⟩,if_pos c]
    · rw[if_neg (λx=>c x.2),if_neg c,h.f m a b]
  · show ((p.B.put 0 n []).put 1 (n-r) _).at 1 m=_
    rw[z5r _ D (z2c ⟨.inr U,a,b⟩)]
    unfold upR
    by_cases c:m=n-r
    · rw[if_pos ⟨rfl,c⟩,if_pos c,e1,hd,Z];rfl
    · rw[if_neg (λx=>c x.2),if_neg c,z5r _ I (z2c ⟨.inr U,a,b⟩),if_neg sp0,h.g m a b]
theorem j4v {p:MSt}{r:Int}{F G:Row}(h:Tv p r F G){n:Int}(hn:1<=n/\n<=40)(O:1<=n+r/\n+r<=40)(hs:G n≠[])(hd:F (n+r)=[]) :
    ∃q,doM p (z6a 1 n)=.ok q/\Tv q r (upR F (n+r) (G n)) (upR G n [])/\q.cr=p.cr/\Ky p q:=by
  have I:z4g 1 n=0:=z2c ⟨.inr U,hn⟩
  have D:z4g 0 (n+r)=0:=z2c ⟨.inl U,O⟩
  have Z:=h.g n hn.1 hn.2
  have e1:=h.f (n+r) O.1 O.2
  have e4:=y2e h.inv.B 1 n
  have hx:doM p (z6a 1 n)=.ok { p with B:=(p.B.put 1 n []).put 0 (n+r) (p.B.at 1 n++p.B.at 0 (n+r)) }:=by
    rw[y4y (v2i (.inr U) hn)]
    show z9c p (z6a 1 n)=_
    unfold z9c
    simp only[z6a,z8d,h.rk]
    rw[if_neg (by rw[Z];exact hs),if_neg (by simpa using D),if_neg (by rintro⟨y,hy,hi,_⟩;rw[h.out y hy]at hi;cases hi)]
    simp only[if_true,show (1:Int)-1=0 from U]
    rw[if_neg (by rw[e1,hd];simp;omega)]
    simp only[y1a,z8d,h.rk]
    simp
  refine⟨_,hx,⟨y1b h.inv hx,h.rk,λm a b=>?_,λm a b=>?_,h.out⟩,rfl,⟨rfl,rfl,rfl⟩⟩
  · show ((p.B.put 1 n []).put 0 (n+r) _).at 0 m=_
    rw[z5r _ D (z2c ⟨.inl U,a,b⟩)]
    unfold upR
    by_cases c:m=n+r
    · rw[if_pos ⟨rfl,c⟩,if_pos c,e1,hd,Z,List.append_nil]
    · rw[if_neg (λx=>c x.2),if_neg c,z5r _ I (z2c ⟨.inl U,a,b⟩),if_neg sp0,h.f m a b]
  · show ((p.B.put 1 n []).put 0 (n+r) _).at 1 m=_
    rw[z5r _ D (z2c ⟨.inr U,a,b⟩),if_neg sp0,z5r _ I (z2c ⟨.inr U,a,b⟩)]
    unfold upR
    by_cases c:m=n
    · rw[if_pos ⟨rfl,c⟩,if_pos c]
    · rw[if_neg (λx=>c x.2),if_neg c,h.g m a b]
def crI (B:Bd)(d:Int):Nat->Int->List Cx
  | 0,_=>[]
  | k+1,r=>z3q B r d++crI B d k (r+stI d)
theorem x3o {p:MSt}{d:Int}:∀ {l:List Yn},(∀y∈l,y.inn=false)->z6u p d l=.ok l
 | [],_=>rfl
 | y::l,h=>by
  unfold z6u z9o
  rw[if_pos (h y (List.mem_cons_self ..))]
  simp only
  rw[x3o λz D=>h z (List.mem_cons_of_mem _ D)]
theorem u9c {d:Int}:∀ {k:Nat} {p:MSt} {c:List Cx},(∀y∈p.ys,y.inn=false)->z4s p.cr (crI p.B d k p.rk)=.ok c->itS k p d=.ok { p with cr:=c,rk:=p.rk+k*stI d }
 | 0,p,c,_,h=>by
  cases h
  show Except.ok p=_
  simp
 | k+1,p,c,ho,h=>by
  unfold crI at h
  rw[x5t]at h
  unfold itS z9l
  rw[x3o ho]
  split at h
  ·cases h
  rename_i l' D
  simp only[D]
  rw[u9c (p:={ p with cr:=l',rk:=p.rk+stI d }) ho h]
  have I:((k+1:Nat):Int)*stI d=k*stI d+stI d:=by rw[Int.natCast_add,Int.add_mul];simp
  rw[I]
  congr 2
  show p.rk+stI d+k*stI d=_
  omega
theorem v5u {p:MSt}{r r':Int}{F G:Row}{d:Int}{k:Nat}{c:List Cx}(h:Tv p r F G)(Z:d=0\/d=1)(hk:k<=8)(I:r'=r+k*stI d)(D:-4<=r'/\r'<=4)(O:z4s p.cr (crI p.B d k r)=.ok c) :
    ∃q,doM p (y0a r')=.ok q/\Tv q r' F G/\q.cr=c/\Ky p q/\q.B=p.B:=by
  have e:doM p (y0a r')=.ok { p with cr:=c,rk:=p.rk+k*stI d }:=by
    rw[y4y (u5h D)]
    show z6m 8 p r'=_
    rw[v6d Z hk (by rw[h.rk];exact I)]
    exact u9c h.out (by rw[h.rk];exact O)
  refine⟨_,e,⟨y1b h.inv e,?_,h.f,h.g,h.out⟩,rfl,⟨rfl,rfl,rfl⟩,rfl⟩
  show p.rk+k*stI d=r'
  rw[h.rk,I]
theorem u5l {p:MSt}{F G:Row}{r0 r d:Int}(h:Tv p r0 F G)(hf:∀n,1<=n->n<=40->G n≠[]->1<=n+r+(if d=0 then -1 else 0)->n+r+(if d=0 then -1 else 0)<=40->F (n+r+(if d=0 then -1 else 0))=[]):z3q p.B r d=[]:=by
 have O:∀k,v1s p.B r d k=[]:=λk=>by
  unfold v1s;cases hb:p.B.b.getD k [] with
  | nil=>rfl
  | cons x l=>
   have hk:k<40:=by
    rcases Nat.lt_or_ge k 40 with h4|h4
    exact h4;rw[List.getD,List.getElem?_eq_none (by have:=h.inv.B.lb;omega)]at hb;cases hb
   have Z:p.B.at 1 ((k:Int)+1)=x::l:=by
    show (if (1:Int)=0 then atB p.B.f _ else atB p.B.b _)=_;rw[if_neg dd];unfold atB;rw[show ((k:Int)+1-1).toNat=k by omega];exact hb
   rw[h.g _ oo oo]at Z;have e2:p.B.atC 0 (z9p r d k)=[]:=by
    unfold Bd.atC;split;rename_i hn;obtain⟨_,D,I⟩:=z3n hn;rw[h.f _ D I];have hA:z9p r d k=((k:Int)+1)+r+(if d=0 then -1 else 0):=by unfold z9p;split<;>omega
    rw[hA]at D I ⊢;exact hf _ oo oo (by rw[Z];simp) D I;rfl
   rw[e2];simp
 have hU:∀i,x3e p.B r d i=[]:=λi=>by unfold x3e;rw[List.flatMap_eq_nil_iff];intro k _;exact O k
 unfold z3q;rw[hU];split<;>rfl
theorem y6c {p:MSt}{r r':Int}{F G:Row}(h:Tv p r F G)(a0:-4<=r'/\r'<=4)(hf:∀n s,1<=n->n<=40->G n≠[]->(r<=s/\s<r'\/r'<=s/\s<r)->1<=n+s->n+s<=40->F (n+s)=[]) :
    ∃q,doM p (y0a r')=.ok q/\Tv q r' F G/\q.cr=p.cr/\Ky p q:=by
  have h4:=h.inv.rk
  rw[h.rk]at h4
  have O:∀d:Int,(d=0\/d=1)->∀k:Nat,k<=8->r'=r+k*stI d->∃q,doM p (y0a r')=.ok q/\Tv q r' F G/\q.cr=p.cr/\Ky p q:=λd hd k hk I=>by
    have D:∀(j:Nat) (ρ:Int),r'=ρ+j*stI d->(stI d=1->r<=ρ)->(stI d = -1->ρ<=r)->crI p.B d j ρ=[]:=by
      intro j
      induction j with
      | zero=>intro ρ _ _ _;rfl
      | succ j ih=>
        intro ρ hρ Z h2
        have hm:((j+1:Nat):Int)*stI d=j*stI d+stI d:=by rw[Int.natCast_add,Int.add_mul];simp
        rw[hm]at hρ
        unfold crI
        rw[ih (ρ+stI d) oo (λe=>by have:=Z e;omega) (λe=>by have:=h2 e;omega),List.append_nil]
        refine u5l h λn a b hg c1 c2=>?_
        rcases hd with rfl|rfl
        · have e:stI 0 = -1:=rfl
          rw[e]at hρ
          simp only[if_true]at c1 c2 ⊢
          have:=h2 e
          have hx:=hf n (ρ + -1) a b hg oo oo oo
          rw[show n+ρ + -1=n+(ρ + -1) by omega];exact hx
        · have e:stI 1=1:=rfl
          rw[e]at hρ
          simp only[show ¬(1:Int)=0 by decide,if_false]at c1 c2 ⊢
          have:=Z e
          have hx:=hf n ρ a b hg oo oo oo
          rw[show n+ρ+0=n+ρ by omega];exact hx
    obtain⟨q,Z,h2,h3,h4,_⟩:=v5u (c:=p.cr) h hd hk I a0 (by rw[D k r I (λ_=>oo) (λ_=>oo)];rfl)
    exact⟨q,Z,h2,h3,h4⟩
  rcases Int.le_total r r' with c|c
  · exact O 1 (.inr U) (r'-r).toNat oo (by show _=_+_*(1:Int);omega)
  · exact O 0 (.inl U) (r-r').toNat oo (by show _=_+_*(-1:Int);omega)
end Go.G28
namespace Go.G28
open Go.Lw Go.G21 Go.G08 Go.G09
open Go.G26 hiding turnS
def Runs (p:MSt)(l:List MOp)(q:MSt):Prop:=∀i,z8b i p l=.ok q
theorem Runs.nil (p:MSt):Runs p [] p:=λ_=>rfl
theorem Runs.cons {p q r:MSt}{o:MOp}{l:List MOp}(h:doM p o=.ok q)(D:Runs q l r):Runs p (o::l) r:=λi=>by
 unfold z8b;rw[h];exact D _
theorem Runs.app {q r:MSt}{m:List MOp}(I:Runs q m r):∀ {l:List MOp} {p:MSt},Runs p l q->Runs p (l++m) r
 | [],p,h=>by have:=h 0;cases this;exact I
 | o::l,p,h=>by
  have D:=h 0
  unfold z8b at D
  split at D
  ·cases D
  rename_i p1 O
  refine Runs.cons O (Runs.app I λi=>?_)
  have Z:=runM_shift (l:=l) (p:=p1) (q:=q) (i:=1) (j:=i)
  exact Z D
where
  runM_shift:∀ {l:List MOp} {p q:MSt} {i j:Nat},z8b i p l=.ok q->z8b j p l=.ok q
  | [],_,_,_,_,h=>h
  | o::l,p,q,i,j,h=>by
    unfold z8b at h ⊢
    split at h
    · cases h
    · exact runM_shift h
abbrev Sts:=List (Int×List LId)
def z7j (F:Row):Sts->Row
  | [],n=>F n
  | x::t,n=>if n=x.1 then x.2 else z7j F t n
def x9l (A:Sts):Sts:=A.map λx=>(x.1,[])
def shS (d:Int)(A:Sts):Sts:=A.map λx=>(x.1+d,x.2)
theorem z3t {F:Row}{n:Int}:∀ {A:Sts},n∉A.map Prod.fst->z7j F A n=F n
 | [],_=>rfl
 | x::t,h=>by
  unfold z7j
  rw[List.map_cons,List.mem_cons]at h
  rw[if_neg (λe=>h (.inl e)),z3t λe=>h (.inr e)]
theorem z5l {F:Row}{x:Int×List LId}:∀ {A:Sts},(A.map Prod.fst).Nodup->x∈A->z7j F A x.1=x.2
 | [],_,h=>by cases h
 | y::t,hn,h=>by
  rw[List.map_cons,List.nodup_cons]at hn
  unfold z7j
  rcases List.mem_cons.1 h with rfl|h
  ·rw[if_pos U]
  rw[if_neg,z5l hn.2 h]
  intro e;exact hn.1 (e▸List.mem_map_of_mem h)
theorem z4c {F:Row}{n:Int}:∀ {A:Sts},z7j F (x9l A) n=if n∈A.map Prod.fst then [] else F n
 | []=>by simp[x9l,z7j]
 | x::t=>by
  show (if n=x.1 then [] else z7j F (x9l t) n)=_
  rw[z4c (A:=t),List.map_cons]
  by_cases c:n=x.1
  ·rw[if_pos c,if_pos (List.mem_cons.2 (.inl c))]
  rw[if_neg c]
  by_cases c2:n∈t.map Prod.fst
  ·rw[if_pos c2,if_pos (List.mem_cons_of_mem _ c2)]
  rw[if_neg c2,if_neg (by simp only[List.mem_cons];exact λe=>e.elim c c2)]
theorem y8v {F F':Row}{n:Int}(h:F n=F' n):∀ {A:Sts},z7j F A n=z7j F' A n
 | []=>h
 | x::t=>by unfold z7j;rw[y8v h]
theorem y4v (d:Int)(A:Sts):(shS d A).map Prod.fst=(A.map Prod.fst).map (·+d):=by unfold shS;rw[List.map_map,List.map_map];rfl
theorem y8x {d n:Int}{A:Sts}:n∈(shS d A).map Prod.fst↔n-d∈A.map Prod.fst:=by
 rw[y4v,List.mem_map];constructor;rintro⟨m,h,rfl⟩;rw[show m+d-d=m by omega];exact h;intro h;exact⟨_,h,oo⟩
theorem j6u (d e:Int)(A:Sts):shS e (shS d A)=shS (d+e) A:=by
 unfold shS;rw[List.map_map];refine List.map_congr_left λx _=>?_;show (x.1+d+e,x.2)=_;rw[Int.add_assoc]
theorem k4l (A:Sts):shS 0 A=A:=by
 unfold shS
 conv=>rhs;rw[<-List.map_id A]
 exact List.map_congr_left λx _=>sp0
theorem z9u {F:Row}{m n:Int}{s:List LId}:∀ {A:Sts},m∉A.map Prod.fst->z7j (upR F m s) A n=if n=m then s else z7j F A n
 | [],_=>by unfold z7j upR;rfl
 | x::t,h=>by
  rw[List.map_cons,List.mem_cons]at h
  unfold z7j
  rw[z9u (A:=t) λe=>h (.inr e)]
  by_cases c:n=x.1
  ·rw[if_pos c,if_neg (λe:n=m=>h (.inl (e.symm.trans c))),if_pos c]
  rw[if_neg c,if_neg c]
theorem j0z {r:Int}:∀ {A:Sts} {p:MSt} {F G:Row},Tv p r F G->(A.map Prod.fst).Nodup->
    (∀x∈A,(1<=x.1/\x.1<=40)/\(1<=x.1-r/\x.1-r<=40)/\F x.1=x.2/\x.2≠[]/\G (x.1-r)=[])->
    ∃q,Runs p ((A.map Prod.fst).map (z6a 0)) q/\Tv q r (z7j F (x9l A)) (z7j G (shS (-r) A))/\q.cr=p.cr/\Ky p q
  | [],p,F,G,h,_,_=>⟨p,Runs.nil p,h,rfl,Ky.refl p⟩
  | x::t,p,F,G,h,hn,hA=>by
    rw[List.map_cons,List.nodup_cons]at hn
    obtain⟨Z,a2,I,a4,a5⟩:=hA x (List.mem_cons_self ..)
    obtain⟨q,h1,h2,h3,h4⟩:=j4c h Z a2 (by rw[I];exact a4) a5
    obtain⟨q2,g1,g2,g3,g4⟩:=j0z (A:=t) h2 hn.2 λy O=>by
      obtain⟨b1,b2,b3,b4,b5⟩:=hA y (List.mem_cons_of_mem _ O)
      have D:y.1≠x.1:=λe=>hn.1 (e▸List.mem_map_of_mem O)
      exact⟨b1,b2,by unfold upR;rw[if_neg D];exact b3,b4,by unfold upR;rw[if_neg oo];exact b5⟩
    refine⟨q2,Runs.cons h1 g1,g2.congr (λn _ _=>?_) (λn _ _=>?_),g3.trans h3,h4.trans g4⟩
    · show (if n=x.1 then [] else z7j F (x9l t) n)=_
      rw[z9u]
      unfold x9l;rw[List.map_map];exact hn.1
    · show (if n=x.1 + -r then x.2 else z7j G (shS (-r) t) n)=_
      rw[z9u,I,Int.sub_eq_add_neg]
      rw[y8x];intro e;rw[show x.1-r - -r=x.1 by omega]at e;exact hn.1 e
theorem j3d {r:Int}:∀ {A:Sts} {p:MSt} {F G:Row},Tv p r F G->(A.map Prod.fst).Nodup->
    (∀x∈A,(1<=x.1/\x.1<=40)/\(1<=x.1+r/\x.1+r<=40)/\G x.1=x.2/\x.2≠[]/\F (x.1+r)=[])->
    ∃q,Runs p ((A.map Prod.fst).map (z6a 1)) q/\Tv q r (z7j F (shS r A)) (z7j G (x9l A))/\q.cr=p.cr/\Ky p q
  | [],p,F,G,h,_,_=>⟨p,Runs.nil p,h,rfl,Ky.refl p⟩
  | x::t,p,F,G,h,hn,hA=>by
    rw[List.map_cons,List.nodup_cons]at hn
    obtain⟨Z,a2,I,a4,a5⟩:=hA x (List.mem_cons_self ..)
    obtain⟨q,h1,h2,h3,h4⟩:=j4v h Z a2 (by rw[I];exact a4) a5
    obtain⟨q2,g1,g2,g3,g4⟩:=j3d (A:=t) h2 hn.2 λy O=>by
      obtain⟨b1,b2,b3,b4,b5⟩:=hA y (List.mem_cons_of_mem _ O)
      have D:y.1≠x.1:=λe=>hn.1 (e▸List.mem_map_of_mem O)
      exact⟨b1,b2,by unfold upR;rw[if_neg D];exact b3,b4,by unfold upR;rw[if_neg oo];exact b5⟩
    refine⟨q2,Runs.cons h1 g1,g2.congr (λn _ _=>?_) (λn _ _=>?_),g3.trans h3,h4.trans g4⟩
    · show (if n=x.1+r then x.2 else z7j F (shS r t) n)=_
      rw[z9u,I]
      rw[y8x];intro e;rw[show x.1+r-r=x.1 by omega]at e;exact hn.1 e
    · show (if n=x.1 then [] else z7j G (x9l t) n)=_
      rw[z9u]
      unfold x9l;rw[List.map_map];exact hn.1
structure PR (p0:MSt) (s:PS) (F:Row) (q:MSt):Prop where
  run:Runs p0 s.1 q
  vw:Tv q s.2 F (λ_=>[])
  cr:q.cr=p0.cr
  ky:Ky p0 q
theorem PR.turn {D q:MSt}{s:PS}{F:Row}{r:Int}(h:PR D s F q)(hr:-4<=r/\r<=4):∃q',PR D (turnS s r) F q':=by
 unfold turnS;by_cases c:s.2≠r;rw[if_pos c];obtain⟨q',I,O,Z,h4⟩:=y6c h.vw hr λn _ _ _ hg=>absurd U hg;exact⟨q',Runs.app (Runs.cons I (Runs.nil _)) h.run,O,Z.trans h.cr,h.ky.trans h4⟩;rw[if_neg c];exact⟨q,h⟩
structure Way (F:Row) (A:Sts) (d:Int):Prop where
  nd:(A.map Prod.fst).Nodup
  hold:∀x∈A,F x.1=x.2/\x.2≠[]
  rng:∀x∈A,(1<=x.1/\x.1<=40)/\1<=x.1+d/\x.1+d<=40
  clr:∀x∈A,∀m,(x.1<=m/\m<=x.1+d\/x.1+d<=m/\m<=x.1)->m∉A.map Prod.fst->F m=[]
def mvR (F:Row)(A:Sts)(d:Int):Row:=z7j (z7j F (x9l A)) (shS d A)
theorem k3v {s:PS}{l:List Int}{d:Int}(D:l≠[])(hl:∀x∈l,(1<=x/\x<=40)/\1<=x+d/\x+d<=40)(I:∀x∈l,l.getD 0 0<=x/\x<=l.getD (l.length-1) 0) :
    (-4<=rS s l d/\rS s l d<=4)/\(-4<=rS s l d+byS d/\rS s l d+byS d<=4)/\∀x∈l,(1<=x-rS s l d/\x-rS s l d<=40)/\1<=x+byS d/\x+byS d<=40:=by
  have hp:0<l.length:=List.length_pos_iff.2 D
  have Z:l.getD 0 0∈l:=by rw[List.getD,List.getElem?_eq_getElem hp];exact List.getElem_mem _
  have m1:l.getD (l.length-1) 0∈l:=by rw[List.getD,List.getElem?_eq_getElem oo];exact List.getElem_mem _
  have h0:=hl _ Z
  have h1:=hl _ m1
  have a0:=I _ Z
  have a1:byS d=max (-8) (min 8 d):=rfl
  refine⟨by unfold rS;omega,by unfold rS;omega,λx O=>?_⟩
  have h2:=hl x O
  have h3:=I x O
  refine⟨by unfold rS;omega,oo⟩
theorem PR.step {p0 q:MSt}{s:PS}{F:Row}{A:Sts}{d:Int}(h:PR p0 s F q)(I:Way F A d)(a9:A≠[])(ha:∀x∈A.map Prod.fst,(A.map Prod.fst).getD 0 0<=x/\x<=(A.map Prod.fst).getD ((A.map Prod.fst).length-1) 0) :
    ∃q',PR p0 (y2t s (A.map Prod.fst) d) (mvR F A (byS d)) q':=by
  obtain⟨a6,a7,Z⟩:=k3v (s:=s) (l:=A.map Prod.fst) (d:=d) (by simpa using a9) (λx D=>by obtain⟨y,O,rfl⟩:=List.mem_map.1 D;exact I.rng y O) ha
  obtain⟨r,hr⟩:∃r,r=rS s (A.map Prod.fst) d:=⟨_,rfl⟩
  obtain⟨b,hb⟩:∃b,b=byS d:=⟨_,rfl⟩
  rw[<-hr,<-hb]at a7 Z
  rw[<-hr]at a6
  rw[<-hb]
  have b5:(0<=b/\b<=d)\/(d<=b/\b<=0):=by rw[hb];unfold byS;omega
  obtain⟨q1,h1⟩:=h.turn (r:=r) a6
  have e1:=y8b s r
  have v1:=h1.vw
  rw[e1]at v1
  obtain⟨q2,a1,a2,a3,a4⟩:=j0z v1 I.nd λx D=>⟨(I.rng x D).1,(Z _ (List.mem_map_of_mem D)).1,(I.hold x D).1,(I.hold x D).2,rfl⟩
  have hG:∀n,z7j (λ_=>[]) (shS (-r) A) n≠[]->n+r∈A.map Prod.fst:=λn hn=>by
    by_cases c:n∈(shS (-r) A).map Prod.fst
    · rw[y8x]at c;rw[show n+r=n - -r by omega];exact c
    · rw[z3t c]at hn;exact absurd U hn
  have a0:∃q3,Runs q2 (turnS ([],r) (r+b)).1 q3/\Tv q3 (r+b) (z7j F (x9l A)) (z7j (λ_=>[]) (shS (-r) A))/\q3.cr=q2.cr/\Ky q2 q3:=by
    by_cases c:r≠r+b
    · obtain⟨q3,b1,b2,b3,b4⟩:=y6c a2 a7 λn σ _ _ hg hs _ _=>by
        have D:=hG n hg
        rw[z4c]
        by_cases c2:n+σ∈A.map Prod.fst
        · rw[if_pos c2]
        · rw[if_neg c2]
          obtain⟨y,O,b6⟩:=List.mem_map.1 D
          exact I.clr y O _ oo c2
      refine⟨q3,?_,b2,b3,b4⟩
      unfold turnS;rw[if_pos c];exact Runs.cons b1 (Runs.nil _)
    · have a8:b=0:=by omega
      refine⟨q2,?_,by rw[a8,Int.add_zero];exact a2,rfl,Ky.refl _⟩
      unfold turnS;rw[if_neg c];exact Runs.nil _
  obtain⟨q3,b1,b2,b3,b4⟩:=a0
  have a5:((shS (-r) A).map Prod.fst).Nodup:=by
    rw[y4v];exact I.nd.map _ λx y b0 h=>b0 oo
  obtain⟨q4,c1,c2,c3,c4⟩:=j3d b2 a5 λx D=>by
    obtain⟨y,O,rfl⟩:=List.mem_map.1 D
    have g1:=Z _ (List.mem_map_of_mem O)
    refine⟨by show 1<=y.1 + -r/\y.1 + -r<=40;omega,by show 1<=y.1 + -r+(r+b)/\y.1 + -r+(r+b)<=40;omega,z5l a5 (List.mem_map_of_mem O),(I.hold y O).2,?_⟩
    show z7j F (x9l A) (y.1 + -r+(r+b))=[]
    rw[z4c,show y.1 + -r+(r+b)=y.1+b by omega]
    split
    · rfl
    · rename_i c;exact I.clr y O _ oo c
  refine⟨q4,?_,?_,?_,?_⟩
  · have e:(y2t s (A.map Prod.fst) d).1=(turnS s r).1++(A.map Prod.fst).map (z6a 0)++(turnS ([],r) (r+b)).1++((shS (-r) A).map Prod.fst).map (z6a 1):=by
      unfold y2t
      rw[<-hr,<-hb]
      have t1:(z8j (turnS s r) 0 (A.map Prod.fst) 0)=((turnS s r).1++(A.map Prod.fst).map (z6a 0),r):=by
        unfold z8j;rw[e1];congr 2;exact List.map_congr_left λx _=>by rw[Int.sub_zero]
      rw[t1]
      have t2:∀o:List MOp,turnS (o,r) (r+b)=(o++(turnS ([],r) (r+b)).1,r+b):=λo=>by
        unfold turnS
        by_cases c:r≠r+b
        · simp only[if_pos c];rfl
        · simp only[if_neg c];rw[List.append_nil];congr 1;omega
      rw[t2]
      unfold z8j
      simp only
      congr 1
      rw[y4v,List.map_map,List.map_map,List.map_map]
      exact List.map_congr_left λx _=>by simp[Int.sub_eq_add_neg]
    rw[e]
    exact Runs.app c1 (Runs.app b1 (Runs.app a1 h1.run))
  · rw[y7r,<-hr,<-hb]
    refine c2.congr (λn _ _=>?_) λn _ _=>?_
    · unfold mvR
      rw[j6u,show -r+(r+b)=b by omega]
    · rw[z4c]
      split
      · rfl
      · rename_i c;rw[z3t c]
  · rw[c3,b3,a3,h1.cr]
  · exact((h1.ky.trans a4).trans b4).trans c4
theorem u0k {F F':Row}{n:Int}:∀ {A:Sts},n∈A.map Prod.fst->z7j F A n=z7j F' A n
 | [],h=>by cases h
 | x::t,h=>by
  unfold z7j
  by_cases c:n=x.1
  ·rw[if_pos c,if_pos c]
  rw[if_neg c,if_neg c]
  rw[List.map_cons,List.mem_cons]at h
  exact u0k (h.resolve_left c)
theorem y2v {F:Row}{n:Int}{Y:Sts}:∀ {X:Sts},z7j F (X++Y) n=z7j (z7j F Y) X n
 | []=>rfl
 | x::t=>by
  show (if n=x.1 then x.2 else z7j F (t++Y) n)=if n=x.1 then x.2 else z7j (z7j F Y) t n
  rw[y2v (X:=t)]
abbrev u6l (l:List Int):Prop:=l.Pairwise (· < ·)
theorem y1q {l:List Int}(h:u6l l):l.Nodup:=h.imp λD e=>oo
theorem v0g:∀ {l:List Int},u6l l->∀x∈l,l.getD 0 0<=x/\x<=l.getD (l.length-1) 0
 | [],_,x,h=>by cases h
 | a::t,h,x,D=>by
  have O:=List.pairwise_cons.1 h
  have Z:∀y∈a::t,a<=y:=λy I=>by
   rcases List.mem_cons.1 I with rfl|I
   ·omega
   have:=O.1 y I;omega
  refine⟨Z x D,?_⟩
  show x<=(a::t).getD t.length 0
  rcases List.mem_cons.1 D with rfl|D
  ·refine Z _ ?_
   rw[List.getD,List.getElem?_eq_getElem sp0];exact List.getElem_mem _
  cases t with
  | nil=>cases D
  | cons b s=>
   have:=(v0g O.2 x D).2
   simpa using this
theorem x7t {l:List Int}(h:u6l l)(d:Int):u6l (l.map (·+d)):=List.Pairwise.map _ (λ_ _ D=>oo) h
theorem PR.congr {D q:MSt}{s:PS}{F F':Row}(h:PR D s F q)(hf:∀n,1<=n->n<=40->F' n=F n):PR D s F' q:=⟨h.run,h.vw.congr hf λ_ _ _=>rfl,h.cr,h.ky⟩
theorem PR.moveF {p0:MSt}:∀ {f:Nat} {q:MSt} {s:PS} {F:Row} {A:Sts} {d:Int},PR p0 s F q->Way F A d->A≠[]->u6l (A.map Prod.fst)->d.natAbs<=f->∃q',PR p0 (Lw.moveF f s (A.map Prod.fst) d) (mvR F A d) q'
 | 0,q,s,F,A,d,h,hw,_,_,hf=>by
  have:d=0:=by omega
  subst this
  refine⟨q,h.congr λn _ _=>?_⟩
  unfold mvR;rw[k4l]
  by_cases c:n∈A.map Prod.fst
  ·obtain⟨x,D,rfl⟩:=List.mem_map.1 c
   rw[z5l hw.nd D,(hw.hold x D).1]
  rw[z3t c,z4c,if_neg c]
 | f+1,q,s,F,A,d,h,hw,hne,ha,hf=>by
  unfold Lw.moveF
  by_cases c0:d=0
  ·rw[if_pos c0];subst c0
   refine⟨q,h.congr λn _ _=>?_⟩
   unfold mvR;rw[k4l]
   by_cases c:n∈A.map Prod.fst
   ·obtain⟨x,D,rfl⟩:=List.mem_map.1 c
    rw[z5l hw.nd D,(hw.hold x D).1]
   rw[z3t c,z4c,if_neg c]
  rw[if_neg c0]
  obtain⟨q1,h1⟩:=h.step hw hne (v0g ha)
  obtain⟨b,Z⟩:∃b,b=byS d:=⟨_,rfl⟩
  have a0:=j7c c0
  rw[<-Z]at h1 a0 ⊢
  have a3:(0<=b/\b<=d)\/(d<=b/\b<=0):=by rw[Z];unfold byS;omega
  have a2:(1<=b\/b<=-1):=by rw[Z];unfold byS;omega
  have O:((shS b A).map Prod.fst).Nodup:=by rw[y4v];exact y1q (x7t ha b)
  have a1:Way (mvR F A b) (shS b A) (d-b):=by
   refine⟨O,λx D=>?_,λx D=>?_,λx D m hm hn=>?_⟩
   ·refine⟨z5l O D,?_⟩
    obtain⟨y,I,rfl⟩:=List.mem_map.1 D
    exact(hw.hold y I).2
   ·obtain⟨y,I,rfl⟩:=List.mem_map.1 D
    have:=hw.rng y I
    show (1<=y.1+b/\y.1+b<=40)/\1<=y.1+b+(d-b)/\y.1+b+(d-b)<=40
    omega
   obtain⟨y,I,rfl⟩:=List.mem_map.1 D
   unfold mvR
   rw[z3t hn,z4c]
   split
   ·rfl
   rename_i c
   refine hw.clr y I m ?_ c
   simp only at hm
   omega
  obtain⟨q2,h2⟩:=PR.moveF (f:=f) h1 a1 (by unfold shS;simpa using hne) (by rw[y4v];exact x7t ha b) oo
  rw[y4v]at h2
  refine⟨q2,h2.congr λn _ _=>?_⟩
  unfold mvR
  rw[j6u,show b+(d-b)=d by omega]
  by_cases c:n∈(shS d A).map Prod.fst
  ·exact u0k c
  rw[z3t c,z3t c,z4c,z4c]
  by_cases c1:n∈(shS b A).map Prod.fst
  ·rw[if_pos c1]
   split
   ·rfl
   rename_i c2
   rw[y8x]at c1
   obtain⟨y,I,a4⟩:=List.mem_map.1 c1
   exact hw.clr y I n oo c2
  rw[if_neg c1,z3t c1,z4c]
theorem PR.seg {p0 q:MSt}{s:PS}{X A Y:Sts}{d:Int}(h:PR p0 s (z7j (λ_=>[]) (X++(A++Y))) q)(hs:∀x∈X++(A++Y),x.2≠[])(h1:u6l ((X++(A++Y)).map Prod.fst))(h2:u6l ((X++(shS d A++Y)).map Prod.fst))
    (r1:∀x∈X++(A++Y),1<=x.1/\x.1<=40) (r2:∀x∈X++(shS d A++Y),1<=x.1/\x.1<=40) (hne:A≠[]) :
    ∃q',PR p0 (y8r s (A.map Prod.fst) d) (z7j (λ_=>[]) (X++(shS d A++Y))) q':=by
  have hA:u6l (A.map Prod.fst):=by
    rw[List.map_append,List.map_append]at h1
    exact(List.pairwise_append.1 (List.pairwise_append.1 h1).2.1).1
  have Z:∀x∈A,x∈X++(A++Y):=λx D=>List.mem_append_right _ (List.mem_append_left _ D)
  have a3:∀x∈X,∀y∈A,x.1<y.1:=λx D y O=>by
    rw[List.map_append,List.map_append]at h1
    exact(List.pairwise_append.1 h1).2.2 _ (List.mem_map_of_mem D) _ (List.mem_append_left _ (List.mem_map_of_mem O))
  have a1:∀x∈A,∀y∈Y,x.1<y.1:=λx D y O=>by
    rw[List.map_append,List.map_append]at h1
    exact(List.pairwise_append.1 (List.pairwise_append.1 h1).2.1).2.2 _ (List.mem_map_of_mem D) _ (List.mem_map_of_mem O)
  have a4:∀x∈X,∀y∈A,x.1<y.1+d:=λx D y O=>by
    rw[List.map_append,List.map_append]at h2
    have a5:(y.1+d,y.2)∈shS d A:=List.mem_map_of_mem O
    exact(List.pairwise_append.1 h2).2.2 _ (List.mem_map_of_mem D) _ (List.mem_append_left _ (List.mem_map_of_mem a5))
  have a2:∀x∈A,∀y∈Y,x.1+d<y.1:=λx D y O=>by
    rw[List.map_append,List.map_append]at h2
    have a0:(x.1+d,x.2)∈shS d A:=List.mem_map_of_mem D
    exact(List.pairwise_append.1 (List.pairwise_append.1 h2).2.1).2.2 _ (List.mem_map_of_mem a0) _ (List.mem_map_of_mem O)
  have hw:Way (z7j (λ_=>[]) (X++(A++Y))) A d:=by
    refine⟨y1q hA,λx D=>⟨z5l (y1q h1) (Z x D),hs x (Z x D)⟩,λx D=>⟨r1 x (Z x D),?_⟩,λx D m hm hn=>?_⟩
    · have a0:(x.1+d,x.2)∈shS d A:=List.mem_map_of_mem D
      exact r2 _ (List.mem_append_right _ (List.mem_append_left _ a0))
    · refine z3t λI=>?_
      rw[List.map_append,List.map_append,List.mem_append,List.mem_append]at I
      rcases I with I|I|I
      · obtain⟨y,O,rfl⟩:=List.mem_map.1 I
        have:=a3 y O x D;have:=a4 y O x D;omega
      · exact hn I
      · obtain⟨y,O,rfl⟩:=List.mem_map.1 I
        have:=a1 x D y O;have:=a2 x D y O;omega
  obtain⟨q',h'⟩:=h.moveF hw hne hA (Nat.le_refl _)
  refine⟨q',h'.congr λn _ _=>?_⟩
  unfold mvR
  by_cases c:n∈(shS d A).map Prod.fst
  · obtain⟨x,D,rfl⟩:=List.mem_map.1 c
    rw[z5l (by rw[y4v];exact y1q (x7t hA d)) D,z5l (y1q h2) (List.mem_append_right _ (List.mem_append_left _ D))]
  · rw[z3t c,z4c]
    by_cases c1:n∈A.map Prod.fst
    · rw[if_pos c1]
      refine z3t λI=>?_
      obtain⟨x,D,rfl⟩:=List.mem_map.1 c1
      rw[List.map_append,List.map_append,List.mem_append,List.mem_append]at I
      rcases I with I|I|I
      · obtain⟨y,O,e⟩:=List.mem_map.1 I;have:=a3 y O x D;omega
      · exact c I
      · obtain⟨y,O,e⟩:=List.mem_map.1 I;have:=a1 x D y O;omega
    · rw[if_neg c1,y2v,y2v]
      refine y8v ?_
      rw[y2v,y2v,z3t c,z3t c1]
end Go.G28
namespace Go.G28
open Go.Lw Go.G21 Go.G08 Go.G09
open Go.G26 hiding turnS
theorem v5g {b:List Int}{i j:Nat}(h1:i<j)(O:j<y2a b i):b.getD j 0=b.getD i 0:=by
 unfold y2a at O;obtain⟨k,rfl⟩:∃k,j=i+1+k:=⟨j-(i+1),oo⟩;have D:k<((b.drop (i+1)).takeWhile λz=>decide (z=b.getD i 0)).length:=by omega
 have I:=List.takeWhile_prefix (λz=>decide (z=b.getD i 0)) (l:=b.drop (i+1));have hm:=List.getElem_mem D;have Z:=List.all_eq_true.1 (List.all_takeWhile (p:=λz=>decide (z=b.getD i 0)) (l:=b.drop (i+1))) _ hm;have h4:=I.getElem D;have h5:k<(b.drop (i+1)).length:=Nat.lt_of_lt_of_le D I.length_le;have e:b.getD (i+1+k) 0=(b.drop (i+1))[k]:=by
  rw[List.length_drop]at h5;rw[List.getElem_drop,List.getD,List.getElem?_eq_getElem oo];rfl
 rw[e,<-h4];simpa using Z
def slN (c:Nat->Int)(S:Nat->List LId)(i k:Nat):Sts:=(List.range' i k).map λj=>(c j,S j)
def slF (c:Nat->Int)(S:Nat->List LId)(n:Nat):Row:=z7j (λ_=>[]) (slN c S 0 n)
theorem x2v {c:Nat->Int}{S:Nat->List LId}{i e n:Nat}(h1:i<=e)(D:e<=n):slN c S 0 n=slN c S 0 i++(slN c S i (e-i)++slN c S e (n-e)):=by
 unfold slN;rw[<-List.map_append,<-List.map_append];congr 1;obtain⟨a,rfl⟩:∃a,e=i+a:=⟨e-i,oo⟩;obtain⟨b,rfl⟩:∃b,n=i+a+b:=⟨n-(i+a),oo⟩;rw[show i+a-i=a by omega,show i+a+b-(i+a)=b by omega,List.range'_append_1];have:=List.range'_append_1 (s:=0) (m:=i) (n:=a+b);rw[Nat.zero_add]at this;rw[this,Nat.add_assoc]
theorem z4v {c c':Nat->Int}{S:Nat->List LId}{i k:Nat}(h:∀j,i<=j->j<i+k->c j=c' j):slN c S i k=slN c' S i k:=List.map_congr_left λj D=>by
 rw[List.mem_range'_1]at D
 rw[h j D.1 D.2]
theorem v9s (c:Nat->Int)(S:Nat->List LId)(i k:Nat):(slN c S i k).map Prod.fst=(List.range' i k).map c:=by unfold slN;rw[List.map_map];rfl
theorem v1o {c:Nat->Int}{S:Nat->List LId}{n:Nat}(h:∀j,j+1<n->c j<c (j+1)):u6l ((slN c S 0 n).map Prod.fst):=by
 rw[v9s];have mono:∀d j:Nat,j+d+1<n->c j<c (j+d+1):=λd=>by
  induction d with
  | zero=>intro j D;exact h j D
  | succ d ih=>
   intro j D;have:=ih j oo;have:=h (j+d+1) oo;rw[show j+(d+1)+1=j+d+1+1 by omega];omega
 show List.Pairwise _ _;rw[List.pairwise_map];refine List.Pairwise.imp_of_mem (R:=(· < ·)) (λ{a b} I Z O=>?_) List.pairwise_lt_range';rw[List.mem_range'_1]at I Z;have:=mono (b-a-1) a oo;rwa [show a+(b-a-1)+1=b by omega]at this
theorem k3b {c:Nat->Int}{S:Nat->List LId}{i k:Nat}{d:Int}:shS d (slN c S i k)=slN (λj=>c j+d) S i k:=by unfold shS slN;rw[List.map_map];rfl
theorem u9m {xs:List Int}{S:Nat->List LId}{i e:Nat}(O:e<=xs.length):(slN (λj=>xs.getD j 0) S i (e-i)).map Prod.fst=(xs.take e).drop i:=by
 rw[v9s];refine List.ext_getElem ?_ λk D I=>?_;rw[List.length_map,List.length_range',List.length_drop,List.length_take];omega;rw[List.length_map,List.length_range']at D;rw[List.getElem_map,List.getElem_range',List.getElem_drop,List.getElem_take,List.getD,List.getElem?_eq_getElem oo];simp
section
variable {xs ys:List Int} {S:Nat->List LId}
def cU (xs ys:List Int)(i j:Nat):Int:=if i<=j/\0<ys.getD j 0-xs.getD j 0 then ys.getD j 0 else xs.getD j 0
def cD (xs ys:List Int)(i j:Nat):Int:=if 0<ys.getD j 0-xs.getD j 0\/j<i then ys.getD j 0 else xs.getD j 0
theorem u9n (Z:Asc xs)(hy:Asc ys)(hl:ys.length=xs.length)(i:Nat):∀j,j+1<xs.length->cU xs ys i j<cU xs ys i (j+1):=λj O=>by
 have D:=(Z (j+1) O).2.2 oo
 have I:=(hy (j+1) oo).2.2 oo
 simp only[Nat.add_sub_cancel]at D I
 unfold cU
 split<;>split<;>omega
theorem u8c (Z:Asc xs)(hy:Asc ys)(hl:ys.length=xs.length)(i:Nat):∀j,j+1<xs.length->cD xs ys i j<cD xs ys i (j+1):=λj O=>by
 have D:=(Z (j+1) O).2.2 oo
 have I:=(hy (j+1) oo).2.2 oo
 simp only[Nat.add_sub_cancel]at D I
 unfold cD
 split<;>split<;>omega
theorem j7t {c:Nat->Int}(O:Asc xs)(Z:Asc ys)(hl:ys.length=xs.length)(D:∀j,c j=ys.getD j 0\/c j=xs.getD j 0):∀x∈slN c S 0 xs.length,1<=x.1/\x.1<=40:=λx h=>by
 obtain⟨j,I,rfl⟩:=List.mem_map.1 h
 rw[List.mem_range'_1]at I
 have h1:=O j oo
 have h2:=Z j oo
 show 1<=c j/\c j<=40
 rcases D j with e|e<;>rw[e]<;>omega
theorem PR.group {p0 q:MSt}{s:PS}{c c':Nat->Int}{i e:Nat}{d:Int}(O:Asc xs)(hy:Asc ys)(hl:ys.length=xs.length)(hS:∀j,j<xs.length->S j≠[])(hi:i<e)(he:e<=xs.length)
    (h:PR p0 s (slF c S xs.length) q) (hc:∀j,c j=ys.getD j 0\/c j=xs.getD j 0) (hc':∀j,c' j=ys.getD j 0\/c' j=xs.getD j 0) (h1:∀j,j+1<xs.length->c j<c (j+1)) (h2:∀j,j+1<xs.length->c' j<c' (j+1))
    (ho:∀j,(j<i\/e<=j)->c' j=c j) (hm:∀j,i<=j->j<e->c j=xs.getD j 0/\c' j=xs.getD j 0+d):∃q',PR p0 (y8r s ((xs.take e).drop i) d) (slF c' S xs.length) q':=by
  have e1:=x2v (c:=c) (S:=S) (i:=i) (e:=e) (n:=xs.length) oo he
  have Z:=x2v (c:=c') (S:=S) (i:=i) (e:=e) (n:=xs.length) oo he
  have e3:slN c' S 0 i=slN c S 0 i:=z4v λj _ I=>ho j (.inl oo)
  have e4:slN c' S e (xs.length-e)=slN c S e (xs.length-e):=z4v λj I _=>ho j (.inr I)
  have e5:slN c' S i (e-i)=shS d (slN c S i (e-i)):=by
    rw[k3b];exact z4v λj D hb=>by rw[(hm j D oo).1,(hm j D oo).2]
  rw[e3,e4,e5]at Z
  have e6:slN c S i (e-i)=slN (λj=>xs.getD j 0) S i (e-i):=z4v λj D hb=>(hm j D oo).1
  unfold slF at h ⊢
  rw[Z]
  rw[e1]at h
  have a1:=v1o (S:=S) h1
  have a2:=v1o (S:=S) h2
  have b1:=j7t (S:=S) O hy hl hc
  have b2:=j7t (S:=S) O hy hl hc'
  have b0:∀x∈slN c S 0 xs.length,x.2≠[]:=λx O=>by
    obtain⟨j,I,rfl⟩:=List.mem_map.1 O
    rw[List.mem_range'_1]at I
    exact hS j oo
  rw[e1]at a1 b1 b0
  rw[Z]at a2 b2
  have hr:=h.seg b0 a1 a2 b1 b2 (by
    unfold slN
    intro e;rw[List.map_eq_nil_iff,List.range'_eq_nil_iff]at e;omega)
  rwa [e6,u9m he,<-e6]at hr
theorem PR.ups {p0:MSt}(hx:Asc xs)(hy:Asc ys)(hl:ys.length=xs.length)(hS:∀j,j<xs.length->S j≠[]):∀(f i:Nat) {s:PS} {q:MSt},xs.length-i<=f->PR p0 s (slF (cU xs ys xs.length) S xs.length) q->
    ∃q',PR p0 ((z2q (dif xs ys) f i).reverse.foldl (upS xs (dif xs ys)) s) (slF (cU xs ys i) S xs.length) q'
  | 0,i,s,q,hf,h=>by
    refine⟨q,?_⟩
    have:slF (cU xs ys i) S xs.length=slF (cU xs ys xs.length) S xs.length:=by
      unfold slF;rw[z4v λj _ O=>?_]
      unfold cU;rw[if_neg oo,if_neg oo]
    rw[this];exact h
  | f+1,i,s,q,hf,h=>by
    unfold z2q
    by_cases c:i<(dif xs ys).length
    · rw[if_pos c]
      have hb:=z8t c
      rw[z5c hl]at hb c
      rw[List.reverse_cons,List.foldl_append,List.foldl_cons,List.foldl_nil]
      obtain⟨q1,Z⟩:=PR.ups hx hy hl hS f (y2a (dif xs ys) i) oo h
      unfold upS
      have I:=z7o hl c
      have D:∀j,i<=j->j<y2a (dif xs ys) i->ys.getD j 0-xs.getD j 0=ys.getD i 0-xs.getD i 0:=λj Z h2=>by
        rcases Nat.eq_or_lt_of_le Z with rfl|Z
        · rfl
        · have:=v5g Z h2
          rw[z7o hl oo,I]at this;exact this
      by_cases cp:0<(dif xs ys).getD i 0
      · rw[if_pos cp]
        refine PR.group hx hy hl hS hb.1 hb.2 Z (λj=>?_) (λj=>?_) (u9n hx hy hl _) (u9n hx hy hl _) (λj O=>?_) λj ha a0=>?_
        · unfold cU;split<;>simp
        · unfold cU;split<;>simp
        · unfold cU
          rcases O with O|O
          · rw[if_neg oo,if_neg oo]
          · by_cases cc:0<ys.getD j 0-xs.getD j 0
            · rw[if_pos ⟨oo,cc⟩,if_pos ⟨oo,cc⟩]
            · rw[if_neg (λx=>cc x.2),if_neg (λx=>cc x.2)]
        · have O:=D j ha a0
          rw[I]at cp ⊢
          unfold cU
          rw[if_neg oo,if_pos ⟨ha,oo⟩]
          exact⟨rfl,oo⟩
      · rw[if_neg cp]
        refine⟨q1,?_⟩
        have:slF (cU xs ys i) S xs.length=slF (cU xs ys (y2a (dif xs ys) i)) S xs.length:=by
          unfold slF;rw[z4v λj _ O=>?_]
          have hh:i<=j->j<y2a (dif xs ys) i->ys.getD j 0-xs.getD j 0<=0:=λa b=>by have:=D j a b;rw[I]at cp;omega
          unfold cU
          split<;>split<;>omega
        rw[this];exact Z
    · rw[if_neg c]
      rw[z5c hl]at c
      refine⟨q,?_⟩
      have:slF (cU xs ys i) S xs.length=slF (cU xs ys xs.length) S xs.length:=by
        unfold slF;rw[z4v λj _ O=>?_]
        unfold cU;rw[if_neg oo,if_neg oo]
      rw[this];exact h
theorem PR.downs {p0:MSt}(hx:Asc xs)(hy:Asc ys)(hl:ys.length=xs.length)(hS:∀j,j<xs.length->S j≠[]):∀(f i:Nat) {s:PS} {q:MSt},xs.length-i<=f->PR p0 s (slF (cD xs ys i) S xs.length) q->
    ∃q',PR p0 ((z2q (dif xs ys) f i).foldl (y0z xs (dif xs ys)) s) (slF (λj=>ys.getD j 0) S xs.length) q'
  | 0,i,s,q,hf,h=>by
    refine⟨q,?_⟩
    have:slF (λj=>ys.getD j 0) S xs.length=slF (cD xs ys i) S xs.length:=by
      unfold slF;rw[z4v λj _ I=>?_]
      unfold cD;rw[if_pos (.inr oo)]
    rw[this];exact h
  | f+1,i,s,q,hf,h=>by
    unfold z2q
    by_cases c:i<(dif xs ys).length
    · rw[if_pos c]
      have hb:=z8t c
      rw[z5c hl]at hb c
      rw[List.foldl_cons]
      have O:=z7o hl c
      have D:∀j,i<=j->j<y2a (dif xs ys) i->ys.getD j 0-xs.getD j 0=ys.getD i 0-xs.getD i 0:=λj Z h2=>by
        rcases Nat.eq_or_lt_of_le Z with rfl|Z
        · rfl
        · have:=v5g Z h2
          rw[z7o hl oo,O]at this;exact this
      have a1:∃q1,PR p0 (y0z xs (dif xs ys) s i) (slF (cD xs ys (y2a (dif xs ys) i)) S xs.length) q1:=by
        unfold y0z
        by_cases cp:(dif xs ys).getD i 0<0
        · rw[if_pos cp]
          refine PR.group hx hy hl hS hb.1 hb.2 h (λj=>?_) (λj=>?_) (u8c hx hy hl _) (u8c hx hy hl _) (λj I=>?_) λj ha a0=>?_
          · unfold cD;split<;>simp
          · unfold cD;split<;>simp
          · unfold cD
            by_cases cc:0<ys.getD j 0-xs.getD j 0
            · rw[if_pos (.inl cc),if_pos (.inl cc)]
            · rcases I with I|I
              · rw[if_pos (.inr oo),if_pos (.inr I)]
              · rw[if_neg oo,if_neg oo]
          · have I:=D j ha a0
            rw[O]at cp ⊢
            unfold cD
            rw[if_neg oo,if_pos (.inr a0)]
            exact⟨rfl,oo⟩
        · rw[if_neg cp]
          refine⟨q,?_⟩
          have:slF (cD xs ys (y2a (dif xs ys) i)) S xs.length=slF (cD xs ys i) S xs.length:=by
            unfold slF;rw[z4v λj _ I=>?_]
            have hh:i<=j->j<y2a (dif xs ys) i->0<=ys.getD j 0-xs.getD j 0:=λa b=>by have:=D j a b;rw[O]at cp;omega
            unfold cD
            split<;>split<;>omega
          rw[this];exact h
      obtain⟨q1,Z⟩:=a1
      exact PR.downs hx hy hl hS f (y2a (dif xs ys) i) oo Z
    · rw[if_neg c]
      rw[z5c hl]at c
      refine⟨q,?_⟩
      have:slF (λj=>ys.getD j 0) S xs.length=slF (cD xs ys i) S xs.length:=by
        unfold slF;rw[z4v λj _ I=>?_]
        unfold cD;rw[if_pos (.inr oo)]
      rw[this];exact h
theorem y9h {p:MSt}(hx:Asc xs)(hy:Asc ys)(hl:ys.length=xs.length)(O:∀j,j<xs.length->S j≠[])(h:Tv p 0 (slF (λj=>xs.getD j 0) S xs.length) λ_=>[]) :
    ∃q,Runs p (z8k xs ys) q/\Tv q 0 (slF (λj=>ys.getD j 0) S xs.length) (λ_=>[])/\q.cr=p.cr/\Ky p q:=by
  have h0:PR p ([],0) (slF (cU xs ys xs.length) S xs.length) p:=by
    refine⟨Runs.nil p,?_,rfl,Ky.refl p⟩
    have:slF (cU xs ys xs.length) S xs.length=slF (λj=>xs.getD j 0) S xs.length:=by
      unfold slF;rw[z4v λj _ hj=>?_]
      unfold cU;rw[if_neg oo]
    rw[this];exact h
  have Z:xs.length-0<=(dif xs ys).length:=by rw[z5c hl];omega
  obtain⟨q1,h1⟩:=PR.ups hx hy hl O (dif xs ys).length 0 Z h0
  have I:PR p ((z2q (dif xs ys) (dif xs ys).length 0).reverse.foldl (upS xs (dif xs ys)) ([],0)) (slF (cD xs ys 0) S xs.length) q1:=by
    have:slF (cD xs ys 0) S xs.length=slF (cU xs ys 0) S xs.length:=by
      unfold slF;rw[z4v λj _ hj=>?_]
      unfold cD cU
      by_cases cc:0<ys.getD j 0-xs.getD j 0
      · rw[if_pos (.inl cc),if_pos ⟨oo,cc⟩]
      · rw[if_neg oo,if_neg (λx=>cc x.2)]
    rw[this];exact h1
  obtain⟨q2,h2⟩:=PR.downs hx hy hl O (dif xs ys).length 0 Z I
  obtain⟨q3,D⟩:=h2.turn (r:=0) oo
  have hv:=D.vw
  rw[y8b]at hv
  exact⟨q3,D.run,hv,D.cr,D.ky⟩
end
end Go.G28
namespace Go.G09
open Go.Lw Go.G21 Go.G08
theorem y6z {B:Bd}(hB:BdOk B){b n b' D:Int}{i:LId}(hn:z4g b n=0)(I:z4g b' D=0)(h:i∈B.at b n)(Z:i∈B.at b' D):b'=b/\D=n:=Classical.byContradiction λO=>by
 have e:=z4n B hn [] i
 have h1:=hB.nd.count (a:=i)
 have h2:i∈(B.put b n []).flat:=z6z (b:=b') (n:=D) (by rw[z5r _ hn I,if_neg O];exact Z)
 have h3:=List.count_pos_iff.2 h2
 have h4:=List.count_pos_iff.2 h
 have h5:=List.count_pos_iff.2 (z6z h)
 rw[if_pos (z6z h)]at h1
 simp at e
 omega
end Go.G09
namespace Go.G28
open Go.Lw Go.G21 Go.G08
open Go.G09 hiding Vw
open Go.G26 hiding turnS
theorem x7m (l m:List Cx)(x y:LId):crS (l++m) x y=crS l x y+crS m x y:=by unfold crS;rw[List.map_append,List.sum_append]
theorem x7g (l:List Cx)(x y:LId):crS l.reverse x y=crS l x y:=by unfold crS;rw[List.map_reverse,List.sum_reverse]
theorem y5i {α:Type}(f:α->List Cx)(x y:LId):∀l:List α,crS (l.flatMap f) x y=(l.map λa=>crS (f a) x y).sum
 | []=>rfl
 | a::l=>by rw[List.flatMap_cons,x7m,y5i f x y l,List.map_cons,List.sum_cons]
theorem x1u {X:List LId}(D:X.Nodup)(x:LId)(v:Int):(X.map λu=>if u=x then v else 0).sum=if x∈X then v else 0:=by
 induction X with
 | nil=>rfl
 | cons a t ih=>
  rw[List.nodup_cons]at D;rw[List.map_cons,List.sum_cons,ih D.2];by_cases c:a=x;subst c;rw[if_pos U,if_neg D.1,if_pos (List.mem_cons_self ..)];omega;rw[if_neg c];by_cases c2:x∈t;rw[if_pos c2,if_pos (List.mem_cons_of_mem _ c2)];omega;rw[if_neg c2,if_neg (by simp only[List.mem_cons];exact λe=>e.elim (λe=>c e.symm) c2)];omega
theorem v8d {α:Type}(f g:α->Int):∀l:List α,(l.map λa=>f a+g a).sum=(l.map f).sum+(l.map g).sum
 | []=>rfl
 | a::l=>by rw[List.map_cons,List.map_cons,List.map_cons,List.sum_cons,List.sum_cons,List.sum_cons,v8d f g l];omega
theorem v8t (D:Nat)(v:Int):∀n:Nat,((List.range n).map λk=>if k=D then v else 0).sum=if D<n then v else 0
 | 0=>rfl
 | n+1=>by
  rw[List.range_succ,List.map_append,List.sum_append,v8t D v n]
  simp only[List.map_cons,List.map_nil,List.sum_cons,List.sum_nil]
  by_cases c:n=D
  ·subst c;rw[if_neg oo,if_pos U,if_pos oo];omega
  rw[if_neg c]
  by_cases c2:D<n
  ·rw[if_pos c2,if_pos oo];omega
  rw[if_neg c2,if_neg oo];omega
def sgD (d:Int):Int:=if d=0 then 1 else -1
def dlD (d:Int):Int:=if d=0 then -1 else 0
theorem v8y {X Y:List LId}(I:X.Nodup)(O:Y.Nodup)(d:Int){x y:LId}(D:x≠y) :
    crS (X.flatMap λu=>Y.reverse.map (y7g d u)) x y=(if x∈X/\y∈Y then sgD d else 0)+if y∈X/\x∈Y then sgD d else 0:=by
  rw[y5i]
  have Z:∀u,crS (Y.reverse.map (y7g d u)) x y=(if u=x then (if y∈Y then sgD d else 0) else 0)+(if u=y then (if x∈Y then sgD d else 0) else 0):=λu=>by
    rw[List.map_reverse,x7g]
    unfold crS
    rw[List.map_map]
    have e:∀o,((λc:Cx=>if (c.a=x/\c.b=y)\/(c.a=y/\c.b=x) then c.n else 0) ∘ y7g d u) o=if u=x then (if o=y then sgD d else 0) else if u=y then (if o=x then sgD d else 0) else 0:=λo=>by
      show (if ((y7g d u o).a=x/\(y7g d u o).b=y)\/((y7g d u o).a=y/\(y7g d u o).b=x) then (y7g d u o).n else 0)=_
      unfold y7g sgD
      by_cases d0:d=0
      · simp only[if_pos d0]
        by_cases c1:u=x
        · subst c1
          rw[if_pos U]
          by_cases c2:o=y
          · rw[if_pos c2,if_pos (.inr ⟨c2,rfl⟩)]
          · rw[if_neg c2,if_neg]
            rintro(⟨_,h⟩|⟨h,_⟩)
            · exact D h
            · exact c2 h
        · rw[if_neg c1]
          by_cases c2:u=y
          · subst c2
            rw[if_pos U]
            by_cases c3:o=x
            · rw[if_pos c3,if_pos (.inl ⟨c3,rfl⟩)]
            · rw[if_neg c3,if_neg]
              rintro(⟨h,_⟩|⟨_,h⟩)
              · exact c3 h
              · exact c1 h
          · rw[if_neg c2,if_neg]
            rintro(⟨_,h⟩|⟨_,h⟩)
            · exact c2 h
            · exact c1 h
      · simp only[if_neg d0]
        by_cases c1:u=x
        · subst c1
          rw[if_pos U]
          by_cases c2:o=y
          · rw[if_pos c2,if_pos (.inl ⟨rfl,c2⟩)]
          · rw[if_neg c2,if_neg]
            rintro(⟨_,h⟩|⟨h,_⟩)
            · exact c2 h
            · exact D h
        · rw[if_neg c1]
          by_cases c2:u=y
          · subst c2
            rw[if_pos U]
            by_cases c3:o=x
            · rw[if_pos c3,if_pos (.inr ⟨rfl,c3⟩)]
            · rw[if_neg c3,if_neg]
              rintro(⟨h,_⟩|⟨_,h⟩)
              · exact c1 h
              · exact c3 h
          · rw[if_neg c2,if_neg]
            rintro(⟨h,_⟩|⟨h,_⟩)
            · exact c1 h
            · exact c2 h
    rw[List.map_congr_left λo _=>e o]
    by_cases c1:u=x
    · simp only[if_pos c1]
      rw[x1u O,if_neg (λh=>D (c1.symm.trans h))];omega
    · simp only[if_neg c1]
      by_cases c2:u=y
      · simp only[if_pos c2];rw[x1u O];omega
      · simp only[if_neg c2]
        have:∀l:List LId,(l.map λ_=>(0:Int)).sum=0:=λl=>by induction l with
          | nil=>rfl
          | cons a t ih=>rw[List.map_cons,List.sum_cons,ih];rfl
        rw[this];rfl
  rw[List.map_congr_left λu _=>Z u,v8d,x1u I,x1u I]
  congr 1
  · by_cases c:x∈X
    · rw[if_pos c]
      by_cases c2:y∈Y
      · rw[if_pos c2,if_pos ⟨c,c2⟩]
      · rw[if_neg c2,if_neg λh=>c2 h.2]
    · rw[if_neg c,if_neg λh=>c h.1]
  · by_cases c:y∈X
    · rw[if_pos c]
      by_cases c2:x∈Y
      · rw[if_pos c2,if_pos ⟨c,c2⟩]
      · rw[if_neg c2,if_neg λh=>c2 h.2]
    · rw[if_neg c,if_neg λh=>c h.1]
theorem y5l {B:Bd}(h:BdOk B)(b n:Int):(B.at b n).Nodup:=by
 have:B.flat.Nodup:=h.nd;rw[u0g]at this;by_cases c:B.at b n=[];rw[c];exact List.nodup_nil;exact(List.pairwise_flatten.1 this).1 _ (x7f c)
theorem getD_at (B:Bd)(k:Nat):B.b.getD k []=B.at 1 ((k:Int)+1):=by
 show _=if (1:Int)=0 then _ else atB B.b _
 rw[if_neg dd];unfold atB;rw[show ((k:Int)+1-1).toNat=k by omega]
theorem x4n {B:Bd}(h:BdOk B)(n:Int):(B.atC 0 n).Nodup:=by
 unfold Bd.atC;split;exact y5l h 0 n;exact List.nodup_nil
theorem x0u {B:Bd}{n:Int}{x:LId}:x∈B.atC 0 n↔(1<=n/\n<=40)/\x∈B.at 0 n:=by
 unfold Bd.atC;constructor;intro h;split at h;rename_i c;exact⟨(z3n c).2,h⟩;cases h;rintro⟨D,I⟩;rw[if_pos (z2c ⟨.inl U,D⟩)];exact I
theorem j0o {B:Bd}(h:BdOk B){r d:Int}{x y:LId}{n m:Int}(hn:1<=n/\n<=40)(O:1<=m/\m<=40)(I:x∈B.at 1 n)(Z:y∈B.at 0 m):crS (z3q B r d) x y=if m=n+r+dlD d then sgD d else 0:=by
 have a0:x≠y:=λe=>by
  have:=y6z h (z2c ⟨.inr U,hn⟩) (z2c ⟨.inl U,O⟩) I (e▸Z);omega
 have hU:crS (z3q B r d) x y=crS (x3e B r d B.b.length) x y:=by unfold z3q;split;exact x7g _ _ _;rfl
 rw[hU];unfold x3e;rw[y5i];have e:∀k∈List.range B.b.length,crS (v1s B r d k) x y=if k=(n-1).toNat then (if m=n+r+dlD d then sgD d else 0) else 0:=λk hk=>by
  unfold v1s;rw[v8y (by rw[getD_at];exact y5l h _ _) (x4n h _) d a0];have a1:k<40:=by have:=h.lb;rw[List.mem_range]at hk;omega
  have hA:z9p r d k=((k:Int)+1)+r+dlD d:=by unfold z9p dlD;split<;>omega
  have h2:¬(y∈B.b.getD k []/\x∈B.atC 0 (z9p r d k)):=λD=>by
   rw[getD_at]at D;have:=y6z h (z2c ⟨.inl U,O⟩) (z2c ⟨.inr U,oo,oo⟩) Z D.1;omega
  rw[if_neg h2,getD_at,hA];by_cases c:k=(n-1).toNat;rw[if_pos c,show (k:Int)+1=n by omega];by_cases c2:m=n+r+dlD d;rw[if_pos c2,if_pos ⟨I,x0u.2 ⟨c2▸O,c2▸Z⟩⟩];omega;rw[if_neg c2,if_neg];omega;rintro⟨_,D⟩;rw[x0u]at D;have:=y6z h (z2c ⟨.inl U,O⟩) (z2c ⟨.inl U,D.1⟩) Z D.2;omega;rw[if_neg c,if_neg];omega;rintro⟨D,_⟩;have:=y6z h (z2c ⟨.inr U,hn⟩) (z2c ⟨.inr U,oo,oo⟩) I D;omega
 rw[List.map_congr_left e,v8t];have:(n-1).toNat<B.b.length:=by
  rcases Nat.lt_or_ge (n-1).toNat B.b.length with c|c
  exact c;have e1:B.at 1 n=[]:=by
   show (if (1:Int)=0 then _ else atB B.b n)=_;rw[if_neg dd];unfold atB;rw[List.getD,List.getElem?_eq_none c];rfl
  rw[e1]at I;cases I
 rw[if_pos this]
theorem v3d (l:List Cx)(x y:LId):crS l x y=crS l y x:=by
 unfold crS;congr 1;refine List.map_congr_left λc _=>?_;by_cases h:(c.a=x/\c.b=y)\/(c.a=y/\c.b=x);rw[if_pos h,if_pos h.symm];rw[if_neg h,if_neg λe=>h e.symm]
theorem j4k {B:Bd}(h:BdOk B){r d:Int}{x y:LId}(D:x≠y)(h1:∀n m,1<=n->n<=40->1<=m->m<=40->¬(x∈B.at 1 n/\y∈B.at 0 m))(O:∀n m,1<=n->n<=40->1<=m->m<=40->¬(y∈B.at 1 n/\x∈B.at 0 m)):crS (z3q B r d) x y=0:=by
 have Z:crS (z3q B r d) x y=crS (x3e B r d B.b.length) x y:=by unfold z3q;split;exact x7g _ _ _;rfl
 rw[Z];unfold x3e;rw[y5i];have e:∀k∈List.range B.b.length,crS (v1s B r d k) x y=0:=λk hk=>by
  unfold v1s;rw[v8y (by rw[getD_at];exact y5l h _ _) (x4n h _) d D];have I:k<40:=by have:=h.lb;rw[List.mem_range]at hk;omega
  rw[getD_at,if_neg,if_neg];rfl;rintro⟨a,b⟩;rw[x0u]at b;exact O _ _ oo oo b.1.1 b.1.2 ⟨a,b.2⟩;rintro⟨a,b⟩;rw[x0u]at b;exact h1 _ _ oo oo b.1.1 b.1.2 ⟨a,b.2⟩
 rw[List.map_congr_left e];generalize List.range B.b.length=l;induction l with
 | nil=>rfl
 | cons a t ih=>rw[List.map_cons,List.sum_cons,ih];rfl
theorem u8u {B:Bd}(h:BdOk B){d:Int}(D:d=0\/d=1){x y:LId}{n m:Int}(hn:1<=n/\n<=40)(I:1<=m/\m<=40)(O:x∈B.at 1 n)(Z:y∈B.at 0 m):∀(k:Nat) (r:Int),
    crS (crI B d k r) x y=if (d=0/\n+r-k<=m/\m<n+r)\/(d=1/\n+r<=m/\m<n+r+k) then sgD d else 0
  | 0,r=>by rw[if_neg oo];rfl
  | k+1,r=>by
    unfold crI
    rw[x7m,j0o h hn I O Z,u8u h D hn I O Z k]
    rcases D with rfl|rfl
    · rw[show G08.stI 0 = -1 from U,show dlD 0 = -1 from U]
      by_cases c1:m=n+r + -1
      · rw[if_pos c1,if_neg oo,if_pos oo];omega
      · rw[if_neg c1]
        by_cases c2:n+r-((k+1:Nat):Int)<=m/\m<n+r
        · rw[if_pos oo,if_pos oo];omega
        · rw[if_neg oo,if_neg oo];omega
    · rw[show G08.stI 1=1 from U,show dlD 1=0 from U]
      by_cases c1:m=n+r+0
      · rw[if_pos c1,if_neg oo,if_pos oo];omega
      · rw[if_neg c1]
        by_cases c2:n+r<=m/\m<n+r+((k+1:Nat):Int)
        · rw[if_pos oo,if_pos oo];omega
        · rw[if_neg oo,if_neg oo];omega
theorem u8j {B:Bd}(h:BdOk B){d:Int}{x y:LId}(D:x≠y)(h1:∀n m,1<=n->n<=40->1<=m->m<=40->¬(x∈B.at 1 n/\y∈B.at 0 m))(I:∀n m,1<=n->n<=40->1<=m->m<=40->¬(y∈B.at 1 n/\x∈B.at 0 m)):∀(k:Nat) (r:Int),crS (crI B d k r) x y=0
 | 0,_=>rfl
 | k+1,r=>by unfold crI;rw[x7m,j4k h D h1 I,u8j h D h1 I k];rfl
end Go.G28
namespace Go.G28
open Go.Lw Go.G21 Go.G08
open Go.G09 hiding Vw
open Go.G26 hiding turnS
theorem y4o {c:Nat->Int}{S:Nat->List LId}{n j:Nat}(h:∀j,j+1<n->c j<c (j+1))(D:j<n):slF c S n (c j)=S j:=
 z5l (x:=(c j,S j)) (y1q (v1o (S:=S) h)) (List.mem_map.2 ⟨j,List.mem_range'_1.2 ⟨Nat.zero_le _,oo⟩,rfl⟩)
theorem v2z {c:Nat->Int}{S:Nat->List LId}{n:Nat}{m:Int}(h:∀j,j<n->c j≠m):slF c S n m=[]:=by
 refine z3t λD=>?_;rw[v9s]at D;obtain⟨j,I,e⟩:=List.mem_map.1 D;rw[List.mem_range'_1]at I;exact h j oo e
theorem u8r {c:Nat->Int}{S:Nat->List LId}{i k:Nat}{x:Int×List LId}:x∈slN c S i k↔∃j,i<=j/\j<i+k/\x=(c j,S j):=by
 unfold slN;rw[List.mem_map];constructor;rintro⟨j,D,rfl⟩;rw[List.mem_range'_1]at D;exact⟨j,D.1,D.2,rfl⟩;rintro⟨j,I,O,rfl⟩;exact⟨j,List.mem_range'_1.2 ⟨I,O⟩,rfl⟩
theorem z9a {l:List Int}(h:Asc l):∀j,j+1<l.length->l.getD j 0<l.getD (j+1) 0:=λj D=>by
 have:=(h (j+1) D).2.2 oo;simpa using this
theorem x7h {l:List Int}(h:Asc l){j k:Nat}(D:j<l.length)(I:k<l.length)(e:l.getD j 0=l.getD k 0):j=k:=by
 rcases Nat.lt_trichotomy j k with c|c|c
 have:=h.mono k j c I;omega;exact c;have:=h.mono j k c D;omega
def swC (i a b j:Nat):Nat:=if i<=j/\j<i+b then j+a else if i+b<=j/\j<i+a+b then j-b else j
def swI (i a b j:Nat):Nat:=if i<=j/\j<i+a then j+b else if i+a<=j/\j<i+a+b then j-a else j
theorem k0d (i a b j:Nat):swC i a b (swI i a b j)=j:=by
 unfold swC swI
 repeat' split
 all_goals omega
theorem y5e {i a b j n:Nat}(h:i+a+b<=n)(D:j<n):swC i a b j<n/\swI i a b j<n:=by
 unfold swC swI
 constructor
 all_goals repeat' split
 all_goals omega
section
variable {l:List Int} {i a b:Nat} {front:Bool} {S:Nat->List LId}
def inA (i a b:Nat)(front:Bool)(j:Nat):Prop:=u9k i a front<=j/\j<u7q i a b front
instance (i a b:Nat) (front:Bool) (j:Nat):Decidable (inA i a b front j):=by unfold inA;infer_instance
theorem v8c {i a b j:Nat}:inA i a b false j↔i<=j/\j<i+a:=Iff.rfl
theorem v5v {i a b j:Nat}:inA i a b true j↔i+a<=j/\j<i+a+b:=Iff.rfl
def inO (i a b:Nat)(front:Bool)(j:Nat):Prop:=if front then i<=j/\j<i+a else i+a<=j/\j<i+a+b
theorem k3m (D:i+a+b<=l.length){j:Nat}(I:j<l.length):(x9g l i a b front).getD j 0=(z2z l i a b front).getD (swC i a b j) 0+(if inA i a b front (swC i a b j) then byC a b front else 0):=by
 rw[v6o D];unfold swC;by_cases c1:i<=j/\j<i+b;rw[if_pos ⟨c1.1,oo⟩,if_pos c1];have e:j+a=i+a+(j-i):=by omega
 cases front;rw[e,j4s D oo,if_neg (by rw[v8c];omega)];omega;rw[e,if_pos (by rw[v5v];omega),j0n D oo];rw[if_neg c1];by_cases c2:i+b<=j/\j<i+a+b;rw[if_pos ⟨oo,c2.2⟩,if_pos c2];have e:j-b=i+(j-i-b):=by omega
 cases front;rw[e,if_pos (by rw[v8c];omega),j8c D oo];omega;rw[e,j8p D oo,if_neg (by rw[v5v];omega)];omega;rw[if_neg oo,if_neg c2,if_neg];omega;cases front;rw[v8c];omega;rw[v5v];omega
theorem v8g (Z:Asc l)(hz:1<=a/\1<=b/\a+b<=4)(D:i+a+b<=l.length){j m:Nat}(I:inA i a b front j)(O:m<l.length)(hn:¬inA i a b front m) :
    (if front then (z2z l i a b front).getD j 0-(a+b:Nat)<=(z2z l i a b front).getD m 0/\(z2z l i a b front).getD m 0<(z2z l i a b front).getD j 0
      else (z2z l i a b front).getD j 0<=(z2z l i a b front).getD m 0/\(z2z l i a b front).getD m 0<(z2z l i a b front).getD j 0+(a+b:Nat))↔inO i a b front m:=by
  unfold inA u9k u7q at I hn
  unfold inO
  cases front
  · simp only[Bool.false_eq_true,if_false]at I hn ⊢
    rw[y8t D j oo,y8t D m O,if_neg oo,if_pos oo]
    by_cases c1:m<i
    · rw[if_pos c1]
      have:=Z.mono i m c1 oo
      omega
    · rw[if_neg c1]
      by_cases c2:m<i+a+b
      · rw[if_pos c2];omega
      · rw[if_neg c2]
        have h1:=(x1s (l.drop (i+a+b)) (z1q l i a b false) (m-(i+a+b)) (by rw[List.length_drop];omega)).1
        have h2:z1q l i a b false=l.getD i 0+2*a+b:=rfl
        omega
  · simp only[if_true]at I hn ⊢
    rw[y9v D j oo,y9v D m O,if_neg oo,if_pos oo]
    by_cases c1:m<i
    · rw[if_pos c1]
      have h1:=(x3j (l.take i).reverse (z1q l i a b true) (i-1-m) (by rw[List.length_reverse,List.length_take];omega)).1
      have h2:z1q l i a b true=l.getD (i+a+b-1) 0-a-2*b:=rfl
      omega
    · rw[if_neg c1]
      by_cases c2:m<i+a+b
      · rw[if_pos c2];omega
      · rw[if_neg c2]
        have:=Z.mono m (i+a+b-1) oo O
        omega
theorem j2g {B:Bd}(h:BdOk B){x:LId}(I:x∈B.flat):∃b n,z4g b n=0/\x∈B.at b n:=by
 rcases List.mem_append.1 I with I|I
 obtain⟨s,Z,D⟩:=List.mem_flatten.1 I;obtain⟨k,O,rfl⟩:=List.getElem_of_mem Z;have:=h.lf;refine⟨0,(k:Int)+1,z2c ⟨.inl U,oo,oo⟩,?_⟩;show x∈if (0:Int)=0 then atB B.f _ else _
 rw[if_pos U];unfold atB;rw[show ((k:Int)+1-1).toNat=k by omega,List.getD,List.getElem?_eq_getElem O];exact D;obtain⟨s,Z,D⟩:=List.mem_flatten.1 I;obtain⟨k,O,rfl⟩:=List.getElem_of_mem Z;have:=h.lb;refine⟨1,(k:Int)+1,z2c ⟨.inr U,oo,oo⟩,?_⟩;rw[<-getD_at,List.getD,List.getElem?_eq_getElem O];exact D
def v5y (l:List Int)(i a b:Nat)(front:Bool)(S:Nat->List LId)(x y:LId):Prop:=∃j m,inA i a b front j/\m<l.length/\inO i a b front m/\(x∈S j/\y∈S m\/y∈S j/\x∈S m)
theorem v4j {p:MSt}{N:Int}(hx:Asc l)(hz:1<=a/\1<=b/\a+b<=4)(O:i+a+b<=l.length)(hf:y3n l i a b front)(hS:∀j,j<l.length->S j≠[])
    (h:Tv p 0 (slF (λj=>l.getD j 0) S l.length) λ_=>[]) (hN:CrB p.cr N) (hN2:N+5120<=1048576) :
    ∃q cs,Runs p (y2z l i a b front) q/\Tv q 0 (slF (λj=>l.getD j 0) (λj=>S (swC i a b j)) l.length) (λ_=>[])/\Ky p q/\z4s p.cr cs=.ok q.cr/\Sg cs/\
      (∀x y,x≠y->(v5y l i a b front S x y->crS cs x y=if front then 1 else -1)/\(¬v5y l i a b front S x y->crS cs x y=0))/\
      (∀c∈cs,c.a∈p.B.flat/\c.b∈p.B.flat/\c.a≠c.b):=by
  obtain⟨hr,a9⟩:=x1w hx hz O hf
  have lr:(z2z l i a b front).length=l.length:=z4l O
  have lb:(x9g l i a b front).length=l.length:=y2x O
  obtain⟨R,hR⟩:∃R,R=z2z l i a b front:=⟨_,rfl⟩
  obtain⟨E,hE⟩:∃E,E=x9g l i a b front:=⟨_,rfl⟩
  have p2:∀ {j:Nat},j<l.length->E.getD j 0=R.getD (swC i a b j) 0+(if inA i a b front (swC i a b j) then byC a b front else 0):=λI=>by rw[hE,hR];exact k3m O I
  have gp:=λ{j m:Nat} (I:inA i a b front j) (hm:m<l.length) (hn:¬inA i a b front m)=>v8g hx hz O I hm hn
  rw[<-hR]at hr lr gp
  rw[<-hE]at a9 lb
  have hfl:u9k i a front<=u7q i a b front/\u7q i a b front<=l.length/\u9k i a front<u7q i a b front:=by unfold u9k u7q;cases front<;>simp<;>omega
  obtain⟨fi,c0⟩:∃fi,fi=u9k i a front:=⟨_,rfl⟩
  obtain⟨la,d0⟩:∃la,la=u7q i a b front:=⟨_,rfl⟩
  have c9:∀j,inA i a b front j↔fi<=j/\j<la:=λj=>by unfold inA;rw[c0,d0]
  rw[<-c0,<-d0]at hfl
  -- the first shift
  obtain⟨q1,a1,a2,a3,a4⟩:=y9h (ys:=R) hx hr lr hS h
  -- across: to the back bed
  obtain⟨A,hA⟩:∃A,A=slN (λj=>R.getD j 0) S fi (la-fi):=⟨_,rfl⟩
  have e0:A.map Prod.fst=x7a l i a b front:=by rw[hA,u9m oo,j7e,<-hR,c0,d0]
  have a0:(A.map Prod.fst).Nodup:=by
    have Z:=v1o (S:=S) (n:=R.length) (z9a hr)
    rw[x2v (i:=fi) (e:=la) hfl.1 oo,List.map_append,List.map_append]at Z
    rw[hA]
    exact y1q (List.pairwise_append.1 (List.pairwise_append.1 Z).2.1).1
  have a6:∀ {x},x∈A->∃j,inA i a b front j/\j<l.length/\x=(R.getD j 0,S j):=λhx=>by
    rw[hA]at hx
    obtain⟨j,Z,h2,h3⟩:=u8r.1 hx
    exact⟨j,(c9 j).2 ⟨Z,oo⟩,oo,h3⟩
  have d5:∀ {j},inA i a b front j->(R.getD j 0,S j)∈A:=λI=>by
    rw[c9]at I;rw[hA];exact u8r.2 ⟨_,I.1,oo,rfl⟩
  have step:=z9a hr
  rw[lr]at step
  have d6:∀ {j},j<l.length->slF (λj=>R.getD j 0) S l.length (R.getD j 0)=S j:=λI=>y4o (c:=λj=>R.getD j 0) step I
  obtain⟨q2,b1,b2,b3,b4⟩:=j0z (r:=0) a2 a0 λx D=>by
    obtain⟨j,Z,h2,rfl⟩:=a6 D
    have:=hr j oo
    exact⟨⟨this.1,this.2.1⟩,by show 1<=R.getD j 0-0/\R.getD j 0-0<=40;omega,d6 h2,hS j h2,rfl⟩
  rw[show -(0:Int)=0 from U,k4l]at b2
  -- the rack
  obtain⟨d,hd⟩:∃d:Int,d=if front then 0 else 1:=⟨_,rfl⟩
  have b6:d=0\/d=1:=by rw[hd];split<;>simp
  have g0:byC a b front=0+((a+b:Nat):Int)*G08.stI d:=by
    rw[hd];unfold byC
    cases front
    · show (a:Int)+b=0+((a+b:Nat):Int)*1;omega
    · show 0-((a:Int)+b)=0+((a+b:Nat):Int)*(-1);omega
  have e7:-4<=byC a b front/\byC a b front<=4:=by unfold byC;cases front<;>simp<;>omega
  obtain⟨cs,a8⟩:∃cs,cs=crI q2.B d (a+b) 0:=⟨_,rfl⟩
  have f7:Sg cs:=λc hc=>by
    rw[a8]at hc
    have:∀(k:Nat) (r:Int),∀c∈crI q2.B d k r,c.n=1\/c.n = -1:=λk=>by
      induction k with
      | zero=>intro r c hc;cases hc
      | succ k ih=>
        intro r c hc
        unfold crI at hc
        rcases List.mem_append.1 hc with hc|hc
        · exact(y6g b2.inv.B.nd hc).2.2.2
        · exact ih _ c hc
    exact this _ _ c hc
  have f0:∀(k:Nat) (r:Int),(crI q2.B d k r).length<=k*640:=λk=>by
    induction k with
    | zero=>intro r;exact Nat.le_refl _
    | succ k ih=>
      intro r
      unfold crI
      rw[List.length_append]
      have Z:=y2y b2.inv.B r d
      have h2:=b2.inv.B.lb
      have h3:=ih (r+G08.stI d)
      rw[Nat.succ_mul];omega
  have e9:q2.cr=p.cr:=b3.trans a3
  obtain⟨c',e8,_⟩:=x3r (l:=q2.cr) (r:=cs) (by rw[e9];exact hN) f7 (by have:=f0 (a+b) 0;rw[<-a8]at this;have h4:(a+b)*640<=4*640:=Nat.mul_le_mul_right _ hz.2.2;omega)
  obtain⟨q3,c1,c2,c3,c4,cB⟩:=v5u b2 b6 (k:=a+b) oo g0 e7 (by rw[<-a8];exact e8)
  -- to the front bed
  have h6:∀ {j k:Nat},j<l.length->k<l.length->R.getD j 0=R.getD k 0->j=k:=λI hk e=>x7h hr oo oo e
  have b9:∀ {j k:Nat},j<l.length->k<l.length->R.getD j 0+(if inA i a b front j then byC a b front else 0)=R.getD k 0+(if inA i a b front k then byC a b front else 0)->j=k:=λ{j k} I hk e=>by
    have e1:=p2 (y5e (a:=a) O I).2
    have e2:=p2 (y5e (a:=a) O hk).2
    rw[k0d]at e1 e2
    have:=x7h a9 (by rw[lb];exact(y5e (a:=a) O I).2) (by rw[lb];exact(y5e (a:=a) O hk).2) (by rw[e1,e2];exact e)
    have h3:=congrArg (swC i a b) this
    rwa [k0d,k0d]at h3
  have F1:∀ {j},j<l.length->¬inA i a b front j->z7j (slF (λj=>R.getD j 0) S l.length) (x9l A) (R.getD j 0)=S j:=λ{j} I hn=>by
    rw[z4c,if_neg,d6 I]
    intro hh
    obtain⟨x,D,e⟩:=List.mem_map.1 hh
    obtain⟨k,Z,h2,rfl⟩:=a6 D
    exact hn (h6 h2 I e▸Z)
  have a7:∀ {m},(∀j,j<l.length->¬inA i a b front j->R.getD j 0≠m)->z7j (slF (λj=>R.getD j 0) S l.length) (x9l A) m=[]:=λ{m} hh=>by
    rw[z4c]
    split
    · rfl
    · rename_i hn
      refine v2z λj I e=>?_
      by_cases c:inA i a b front j
      · exact hn (List.mem_map.2 ⟨_,d5 c,e⟩)
      · exact hh j I c e
  obtain⟨q4,d1,d2,d3,d4⟩:=j3d c2 a0 λx D=>by
    obtain⟨j,Z,h2,rfl⟩:=a6 D
    have d7:=hr j oo
    have e1:=p2 (y5e (a:=a) O h2).2
    rw[k0d,if_pos Z]at e1
    have d9:=a9 (swI i a b j) (by rw[lb];exact(y5e (a:=a) O h2).2)
    refine⟨⟨d7.1,d7.2.1⟩,by show 1<=R.getD j 0+byC a b front/\R.getD j 0+byC a b front<=40;rw[<-e1];exact⟨d9.1,d9.2.1⟩,z5l a0 D,hS j h2,?_⟩
    refine a7 λk hk hn e=>?_
    have:=b9 hk h2 (by rw[if_neg hn,if_pos Z];omega)
    exact hn (this▸Z)
  have e5:∀n,z7j (z7j (λ_=>[]) A) (x9l A) n=([]:List LId):=λn=>by
    rw[z4c]
    split
    · rfl
    · rename_i c;rw[z3t c]
  obtain⟨q5,e1,e2,e3,e4⟩:=y6c (r':=0) d2 oo λn s _ _ hg _ _ _=>absurd (e5 n) hg
  -- where the slots are
  have lE:E.length=l.length:=lb
  have b0:=z9a a9
  rw[lE]at b0
  have f9:Tv q5 0 (slF (λj=>E.getD j 0) (λj=>S (swC i a b j)) E.length) λ_=>[]:=by
    refine e2.congr (λn _ _=>?_) λn _ _=>(e5 n).symm
    rw[lE]
    by_cases c:∃j,j<l.length/\E.getD j 0=n
    · obtain⟨j,I,rfl⟩:=c
      rw[y4o (c:=λj=>E.getD j 0) b0 I]
      have hs:=(y5e (a:=a) O I).1
      have e:=p2 I
      by_cases c1:inA i a b front (swC i a b j)
      · rw[if_pos c1]at e
        rw[e]
        have hm:(R.getD (swC i a b j) 0+byC a b front,S (swC i a b j))∈shS (byC a b front) A:=List.mem_map.2 ⟨_,d5 c1,rfl⟩
        exact(z5l (by rw[y4v];exact a0.map _ λx y h0 h=>h0 oo) hm).symm
      · rw[if_neg c1,Int.add_zero]at e
        rw[e,z3t,F1 hs c1]
        rw[y8x]
        intro hh
        obtain⟨x,D,ex⟩:=List.mem_map.1 hh
        obtain⟨k,Z,h2,rfl⟩:=a6 D
        have:=b9 h2 hs (by rw[if_pos Z,if_neg c1];simp only at ex;omega)
        exact c1 (this▸Z)
    · rw[v2z λj I e=>c ⟨j,I,e⟩]
      have none:∀k,k<l.length->R.getD k 0+(if inA i a b front k then byC a b front else 0)≠n:=λk hk e=>by
        have e1:=p2 (y5e (a:=a) O hk).2
        rw[k0d]at e1
        exact c ⟨_,(y5e (a:=a) O hk).2,e1.trans e⟩
      rw[z3t,a7 λj I hn e=>none j I (by rw[if_neg hn];omega)]
      rw[y8x]
      intro hh
      obtain⟨x,D,ex⟩:=List.mem_map.1 hh
      obtain⟨k,Z,h2,rfl⟩:=a6 D
      exact none k h2 (by rw[if_pos Z];simp only at ex;omega)
  -- the second shift
  obtain⟨q6,f1,f2,f3,f4⟩:=y9h (xs:=E) (ys:=l) a9 hx oo (λj I=>hS _ (y5e (a:=a) O oo).1) f9
  rw[lE]at f2
  refine⟨q6,cs,?_,f2,((((a4.trans b4).trans c4).trans d4).trans e4).trans f4,?_,f7,λx y g5=>?_,λc hc=>?_⟩
  · unfold y2z
    refine Runs.app (hE▸f1) (Runs.app (Runs.cons e1 (Runs.nil _)) (Runs.app ?_ (Runs.app (Runs.cons c1 (Runs.nil _)) (Runs.app ?_ (hR▸a1)))))
    · unfold z7s;rw[<-e0];exact d1
    · unfold z7s;rw[<-e0];exact b1
  · rw[f3,e3,d3,c3,<-e9];exact e8
  · -- what has crossed
    have G2:∀ {n x},1<=n->n<=40->x∈q2.B.at 1 n->∃j,inA i a b front j/\j<l.length/\n=R.getD j 0/\x∈S j:=λ{n x} Z h2 D=>by
      rw[b2.g n Z h2]at D
      by_cases c:n∈A.map Prod.fst
      · obtain⟨y,hy,rfl⟩:=List.mem_map.1 c
        rw[z5l a0 hy]at D
        obtain⟨j,k1,k2,rfl⟩:=a6 hy
        exact⟨j,k1,k2,rfl,D⟩
      · rw[z3t c]at D;cases D
    have F2:∀ {n x},1<=n->n<=40->x∈q2.B.at 0 n->∃j,¬inA i a b front j/\j<l.length/\n=R.getD j 0/\x∈S j:=λ{n x} Z h2 D=>by
      rw[b2.f n Z h2]at D
      by_cases c:∃j,j<l.length/\¬inA i a b front j/\R.getD j 0=n
      · obtain⟨j,I,hn,rfl⟩:=c
        rw[F1 I hn]at D
        exact⟨j,hn,I,rfl,D⟩
      · rw[a7 λj I hn e=>c ⟨j,I,hn,e⟩]at D;cases D
    have B2:∀ {j x},inA i a b front j->x∈S j->x∈q2.B.at 1 (R.getD j 0)/\1<=R.getD j 0/\R.getD j 0<=40:=λ{j x} I D=>by
      have h9:j<l.length:=by rw[c9]at I;omega
      have:=hr j oo
      refine⟨?_,this.1,this.2.1⟩
      rw[b2.g _ this.1 this.2.1,z5l (x:=(R.getD j 0,S j)) a0 (d5 I)];exact D
    have C2:∀ {j x},j<l.length->¬inA i a b front j->x∈S j->x∈q2.B.at 0 (R.getD j 0)/\1<=R.getD j 0/\R.getD j 0<=40:=λ{j x} I hn D=>by
      have:=hr j oo
      refine⟨?_,this.1,this.2.1⟩
      rw[b2.f _ this.1 this.2.1,F1 I hn];exact D
    have e6:∀ {m},inO i a b front m->¬inA i a b front m:=λ{m} hm=>by
      unfold inO at hm;unfold inA u9k u7q
      cases front<;>simp at hm ⊢<;>omega
    have b5:∀ {x y j m},inA i a b front j->m<l.length->¬inA i a b front m->x∈S j->y∈S m->(inO i a b front m->crS cs x y=if front then 1 else -1)/\(¬inO i a b front m->crS cs x y=0):=λ{x y j m} I hm hn g8 h5=>by
      obtain⟨k1,k2,k3⟩:=B2 I g8
      obtain⟨k4,k5,k6⟩:=C2 hm hn h5
      rw[a8,u8u b2.inv.B b6 ⟨k2,k3⟩ ⟨k5,k6⟩ k1 k4]
      have hg:=gp I hm hn
      have g7:sgD d=if front then 1 else -1:=by rw[hd];cases front<;>rfl
      rw[g7]
      have b8:((d=0/\R.getD j 0+0-((a+b:Nat):Int)<=R.getD m 0/\R.getD m 0<R.getD j 0+0)\/(d=1/\R.getD j 0+0<=R.getD m 0/\R.getD m 0<R.getD j 0+0+((a+b:Nat):Int)))↔inO i a b front m:=by
        rw[<-hg,hd]
        cases front<;>simp
      exact⟨λc=>by rw[if_pos (b8.2 c)],λc=>by rw[if_neg (λe=>c (b8.1 e))]⟩
    have h8:∀ {m},inO i a b front m->m<l.length:=λ{m} hm=>by
      unfold inO at hm;cases front<;>simp at hm<;>omega
    refine⟨λc=>?_,λc=>?_⟩
    · obtain⟨j,m,Z,h2,h3,h4|h4⟩:=c
      · exact(b5 Z h2 (e6 h3) h4.1 h4.2).1 h3
      · rw[v3d];exact(b5 Z h2 (e6 h3) h4.1 h4.2).1 h3
    · by_cases k1:∃n m,(1<=n/\n<=40)/\(1<=m/\m<=40)/\x∈q2.B.at 1 n/\y∈q2.B.at 0 m
      · obtain⟨n,m,g1,g2,g3,g4⟩:=k1
        obtain⟨j,u1,u2,rfl,u4⟩:=G2 g1.1 g1.2 g3
        obtain⟨k,v1,v2,rfl,v4⟩:=F2 g2.1 g2.2 g4
        exact(b5 u1 v2 v1 u4 v4).2 λhO=>c ⟨j,k,u1,v2,hO,.inl ⟨u4,v4⟩⟩
      · by_cases k2:∃n m,(1<=n/\n<=40)/\(1<=m/\m<=40)/\y∈q2.B.at 1 n/\x∈q2.B.at 0 m
        · obtain⟨n,m,g1,g2,g3,g4⟩:=k2
          obtain⟨j,u1,u2,rfl,u4⟩:=G2 g1.1 g1.2 g3
          obtain⟨k,v1,v2,rfl,v4⟩:=F2 g2.1 g2.2 g4
          rw[v3d];exact(b5 u1 v2 v1 u4 v4).2 λhO=>c ⟨j,k,u1,v2,hO,.inr ⟨u4,v4⟩⟩
        · rw[a8]
          exact u8j b2.inv.B g5 (λn m Z h2 h3 h4 hh=>k1 ⟨n,m,⟨Z,h2⟩,⟨h3,h4⟩,hh⟩) (λn m Z h2 h3 h4 hh=>k2 ⟨n,m,⟨Z,h2⟩,⟨h3,h4⟩,hh⟩) _ _
  · have b7:∀x,x∈q2.B.flat->x∈p.B.flat:=λx D=>by
      obtain⟨bb,nn,g6,a5⟩:=j2g b2.inv.B D
      obtain⟨hb,f5,f6⟩:=z3n g6
      have I:∃j,j<l.length/\x∈S j:=by
        rcases hb with rfl|rfl
        · rw[b2.f _ f5 f6]at a5
          by_cases c:∃j,j<l.length/\¬inA i a b front j/\R.getD j 0=nn
          · obtain⟨j,I,hn,rfl⟩:=c
            rw[F1 I hn]at a5;exact⟨j,I,a5⟩
          · rw[a7 λj I hn e=>c ⟨j,I,hn,e⟩]at a5;cases a5
        · rw[b2.g _ f5 f6]at a5
          by_cases c:nn∈A.map Prod.fst
          · obtain⟨y,hy,rfl⟩:=List.mem_map.1 c
            rw[z5l a0 hy]at a5
            obtain⟨j,k1,k2,rfl⟩:=a6 hy
            exact⟨j,k2,a5⟩
          · rw[z3t c]at a5;cases a5
      obtain⟨j,I,g9⟩:=I
      have f8:=hx j I
      refine z6z (b:=0) (n:=l.getD j 0) ?_
      rw[h.f _ f8.1 f8.2.1,y4o (c:=λj=>l.getD j 0) (z9a hx) I];exact g9
    rw[a8]at hc
    have h7:∀(k:Nat) (r:Int),∀c∈crI q2.B d k r,c.a∈q2.B.flat/\c.b∈q2.B.flat/\c.a≠c.b:=λk=>by
      induction k with
      | zero=>intro r c hc;cases hc
      | succ k ih=>
        intro r c hc
        unfold crI at hc
        rcases List.mem_append.1 hc with hc|hc
        · obtain⟨m1,m2,m3,_⟩:=y6g b2.inv.B.nd hc;exact⟨m1,m2,m3⟩
        · exact ih _ c hc
    obtain⟨m1,m2,m3⟩:=h7 _ _ c hc
    exact⟨b7 _ m1,b7 _ m2,m3⟩
end
end Go.G28
namespace Go.G26
open Go.Lw Go.G21 Go.G08
def hitS (at_ n:Nat)(p:Int):Prop:=(p % 8=((at_ / 2:Nat):Int)/\(p / 8 % 2=1↔at_ % 2=0))/\n<6
instance (at_ n:Nat) (p:Int):Decidable (hitS at_ n p):=by unfold hitS;infer_instance
end Go.G26
namespace Go.G26
open Go.Lw Go.G21 Go.G08 Go.G09
theorem k4f {p q:MSt}{z:Yn}(h:MInv p)(e:q.ys=p.ys.set 0 z):q.y 1=z:=by
 unfold MSt.y;rw[e,List.getD,show ((1:Int)-1).toNat=0 from U,List.getElem?_set_self (by rw[h.ly];omega)];rfl
end Go.G26
namespace Go.G28
open Go.Lw Go.G21 Go.G08
open Go.G09 hiding Vw
open Go.G26 hiding turnS
def hIn:MOp:=⟨1,0,0,0,1,0⟩
def k3x:MOp:=⟨2,0,0,0,1,0⟩
def hKn (n:Int):MOp:=⟨4,1,0,n,1,0⟩
def hMi (n:Int):MOp:=⟨6,0,0,n,1,0⟩
def hTu (n:Int):MOp:=⟨5,1,0,n,1,0⟩
def j1d (n:Int):Nat->List MOp
  | 0=>[]
  | k+1=>j1d n k++[hMi n,hTu n]
def x6i (n:Int)(g:Nat):List MOp:=hKn n::j1d n (g-1)
def u2m (l:List Int)(g:List Int):Nat->List MOp
  | 0=>[hIn]
  | k+1=>u2m l g k++x6i (l.getD k 0) (g.getD k 0).toNat
def j6i (l g:List Int):List MOp:=u2m l g l.length++[k3x]
theorem j0b {n:Int}(hn:1<=n/\n<=40):y2p (hKn n)=0/\y2p (hMi n)=0/\y2p (hTu n)=0:=by
 have O:z4g 0 n=0:=z2c ⟨.inl U,hn⟩;have D:∀(k d:Int),z8q k=some (true,true,true,false)->(d=0\/d=1)->y2p ⟨k,d,0,n,1,0⟩=0:=λk d I Z=>by
  unfold y2p;have:y3b ⟨k,d,0,n,1,0⟩:=by
   refine⟨by simp only[I];rfl,?_⟩;show y7u ((z8q k).getD f40) _;rw[I];refine⟨?_,?_,?_,.inr U⟩;simp only[pl1,Option.getD_some];simp;omega;simp only[pl2,Option.getD_some,O];simp;simp[pl3]
  rw[if_neg (λh=>h this),if_neg sp0]
 exact⟨D 4 1 U (.inr U),D 6 0 U (.inl U),D 5 1 U (.inr U)⟩
structure RH (p:MSt) (b:Int) (m:Nat) (F:Row):Prop where
  v:MInv p
  rk:p.rk=0
  inn:(p.y 1).inn=true
  pl:(p.y 1).pl<=b
  pe:(p.y 1).pe.length<=m
  cnt:z4r p.tb<=m
  oth:∀j,1<=j->j<6->(p.ys.getD j yn0).inn=false
  cr:p.cr=[]
  fa:p.fa=[]
  f:∀n,1<=n->n<=40->p.B.at 0 n=F n
  g:∀n,1<=n->n<=40->p.B.at 1 n=[]
theorem RH.fl {p:MSt}{b:Int}{m:Nat}{F:Row}(h:RH p b m F):p.B.flat.length<=m:=by have:=h.v.cnt;have:=h.cnt;omega
theorem RH.ct {p:MSt}{b:Int}{m:Nat}{F:Row}(h:RH p b m F):(p.y 1).ct<=m:=by
 have e:(p.y 1).ct=z3w p.tb 0:=(h.v.yn 0 oo).2;have D:=x7d p.tb 0;have:=h.cnt;rw[e];omega
theorem x0n {ys:List Yn}{z:Yn}{j:Nat}(h:1<=j):(ys.set 0 z).getD j yn0=ys.getD j yn0:=by
 rw[List.getD,List.getD,List.getElem?_set_ne oo]
theorem mk_h {p q:MSt}{b:Int}{m:Nat}{F:Row}{k n:Int}{st:List LId}(h:RH p b m F)(hn:1<=n/\n<=40)(e:doM p ⟨k,1,0,n,1,0⟩=.ok q)(D:Mk p q ⟨k,1,0,n,1,0⟩ st) :
    RH q (4*n+3) (m+1) (upR F n (st++[⟨1,(p.y 1).ct⟩]))/\(q.y 1).pl=4*n+3/\(q.y 1).pe=[]:=by
  have hs:z2s 0 n p.rk=4*n+2:=by rw[h.rk];exact v0c hn oo
  have O:=k4f h.v D.ys
  have hp:behP p ⟨k,1,0,n,1,0⟩=4*n+3:=by
    unfold G08.behP
    rw[if_pos (show (⟨k,1,0,n,1,0⟩:MOp).d=1 from U)]
    show z2s 0 n p.rk+1=_
    rw[hs];omega
  have I:z4g 0 n=0:=z2c ⟨.inl U,hn⟩
  refine⟨⟨y1b h.v e,D.rk.trans h.rk,by rw[O],by rw[O];exact Int.le_of_eq hp,by rw[O];exact Nat.zero_le _,Nat.le_trans (k1d e) (by have:=h.cnt;omega),λj Z h2=>?_,D.cr.trans h.cr,D.fa.trans h.fa,λx a c=>?_,λx a c=>?_⟩,by rw[O];exact hp,by rw[O]⟩
  · rw[D.ys]
    show ((p.ys.set 0 _).getD j yn0).inn=false
    rw[x0n Z];exact h.oth j Z h2
  · rw[D.B]
    show (p.B.put 0 n _).at 0 x=_
    rw[z5r _ I (z2c ⟨.inl U,a,c⟩)]
    unfold upR
    by_cases cx:x=n
    · rw[if_pos ⟨rfl,cx⟩,if_pos cx]
    · rw[if_neg (λz=>cx z.2),if_neg cx,h.f x a c]
  · rw[D.B]
    show (p.B.put 0 n _).at 1 x=_
    rw[z5r _ I (z2c ⟨.inr U,a,c⟩),if_neg sp0,h.g x a c]
theorem j8b {p:MSt}{b:Int}{m:Nat}{F:Row}{n:Int}(h:RH p b m F)(hn:1<=n/\n<=40)(hb:b<=4*n+2)(hm:m<100) :
    ∃q,doM p (hKn n)=.ok q/\RH q (4*n+3) (m+1) (upR F n [⟨1,(p.y 1).ct⟩])/\(q.y 1).pl=4*n+3/\(q.y 1).pe=[]:=by
  have hs:z2s 0 n p.rk=4*n+2:=by rw[h.rk];exact v0c hn oo
  have O:=h.ct;have hfl:=h.fl;have Z:=h.pe;have I:=h.cnt;have a0:=h.pl
  have D:z7i p (hKn n)=0:=by
    unfold z7i
    rw[show (hKn n).y=1 from U,if_neg (by rw[h.inn];decide),if_pos (show (hKn n).d=1 from U),if_neg]
    show ¬z2s 0 n p.rk<_
    rw[hs];omega
  obtain⟨q,e,k⟩:=v5d h.v (j0b hn).1 U D h.inn (show (p.y 1).ct<2048 by omega) oo (show (p.y 1).pe.length+_<=4096 by omega)
  exact⟨q,e,mk_h h hn e k⟩
theorem j7k {p:MSt}{b:Int}{m:Nat}{F:Row}{n:Int}(h:RH p b m F)(hn:1<=n/\n<=40)(hb:b<=4*n+2)(hm:m<100)(hl:(F n).length<4) :
    ∃q,doM p (hTu n)=.ok q/\RH q (4*n+3) (m+1) (upR F n (F n++[⟨1,(p.y 1).ct⟩]))/\(q.y 1).pl=4*n+3/\(q.y 1).pe=[]:=by
  have hs:z2s 0 n p.rk=4*n+2:=by rw[h.rk];exact v0c hn oo
  have Z:=h.ct;have hfl:=h.fl;have a0:=h.pe;have O:=h.cnt;have a1:=h.pl
  have D:z7i p (hTu n)=0:=by
    unfold z7i
    rw[show (hTu n).y=1 from U,if_neg (by rw[h.inn];decide),if_pos (show (hTu n).d=1 from U),if_neg]
    show ¬z2s 0 n p.rk<_
    rw[hs];omega
  have I:p.B.at 0 n=F n:=h.f n hn.1 hn.2
  obtain⟨q,e,k⟩:=v9t h.v (j0b hn).2.2 U D h.inn (show (p.y 1).ct<2048 by omega) oo (show (p.y 1).pe.length+_<=4096 by omega) (by show (p.B.at 0 n).length<4;rw[I];exact hl)
  have:=mk_h h hn e k
  rw[show p.B.at (hTu n).b (hTu n).p=F n from I]at this
  exact⟨q,e,this⟩
theorem j6z {p:MSt}{m:Nat}{F:Row}{n:Int}(h:RH p (4*n+3) m F)(hn:1<=n/\n<=40)(hm:m<100)(a0:(p.y 1).pl=4*n+3)(D:(p.y 1).pe=[]) :
    ∃q,doM p (hMi n)=.ok q/\RH q (4*n+2) m F:=by
  have hs:z2s 0 n p.rk=4*n+2:=by rw[h.rk];exact v0c hn oo
  have hfl:=h.fl
  have I:z4g 0 n=0:=z2c ⟨.inl U,hn⟩
  have hb:z7i p (hMi n)=0:=by
    unfold z7i
    rw[show (hMi n).y=1 from U,if_neg (by rw[h.inn];decide),if_neg (show ¬(hMi n).d=1 from (by decide:¬(0:Int)=1)),if_neg]
    show ¬_<z2s 0 n p.rk
    rw[hs];omega
  have hp:behP p (hMi n)=4*n+1:=by
    unfold G08.behP
    rw[if_neg (show ¬(hMi n).d=1 from (by decide:¬(0:Int)=1))]
    show z2s 0 n p.rk-1=_
    rw[hs];omega
  have hc:=y6a (y:=1) (pl:=behP p (hMi n)) (en:=behP p (hMi n)) h.v oo (y5g I h.v.rk) h.inn (by rw[D];simp;omega)
  have e:doM p (hMi n)=.ok (p.setY 1 (goS (p.y 1) (behP p (hMi n)) (y4z p 1 (behP p (hMi n))))):=by
    rw[y4y (j0b hn).2.1]
    unfold opM
    rw[if_neg (show ¬(hMi n).k=1 from (by decide:¬(6:Int)=1)),if_neg (show ¬(hMi n).k=2 from (by decide:¬(6:Int)=2)),if_neg (show ¬(hMi n).k=3 from (by decide:¬(6:Int)=3)),if_neg (show ¬(hMi n).k=4 from (by decide:¬(6:Int)=4)),if_neg (show ¬(hMi n).k=5 from (by decide:¬(6:Int)=5)),if_pos (show (hMi n).k=6 from U)]
    unfold y6i
    rw[if_neg (by rw[hb];decide)]
    exact hc
  have O:(p.setY 1 (goS (p.y 1) (behP p (hMi n)) (y4z p 1 (behP p (hMi n))))).y 1=goS (p.y 1) (behP p (hMi n)) (y4z p 1 (behP p (hMi n))):=u1c (by rw[h.v.ly];decide)
  refine⟨_,e,⟨y1b h.v e,h.rk,by rw[O];exact h.inn,by rw[O];show behP p (hMi n)<=_;omega,?_,h.cnt,λj Z h2=>?_,h.cr,h.fa,h.f,h.g⟩⟩
  · rw[O]
    have h6:=z8e (y4z p 1 (behP p (hMi n))) (p.y 1).pe
    have h7:(y4z p 1 (behP p (hMi n))).length<=p.B.flat.length:=v0q
    rw[D]at h6
    show (z5g (p.y 1).pe _).length<=m
    rw[D]
    simp at h6;omega
  · show ((p.ys.set 0 _).getD j yn0).inn=false
    rw[x0n Z];exact h.oth j Z h2
theorem RH.congr {p:MSt}{b:Int}{m:Nat}{F F':Row}(h:RH p b m F)(hf:∀n,1<=n->n<=40->F' n=F n):RH p b m F':=
 ⟨h.v,h.rk,h.inn,h.pl,h.pe,h.cnt,h.oth,h.cr,h.fa,λn a c=>(h.f n a c).trans (hf n a c).symm,h.g⟩
theorem k0m {n:Int}(hn:1<=n/\n<=40):∀(k:Nat) {p:MSt} {m:Nat} {F:Row},RH p (4*n+3) m F->m+k<100->(F n).length+k<=4->(p.y 1).pl=4*n+3->(p.y 1).pe=[]->
    ∃q s,Runs p (j1d n k) q/\RH q (4*n+3) (m+k) (upR F n s)/\s.length=(F n).length+k/\(q.y 1).pl=4*n+3/\(q.y 1).pe=[]
  | 0,p,m,F,h,_,_,hpl,hpe=>⟨p,F n,Runs.nil p,h.congr λx _ _=>by unfold upR;split<;>simp_all,rfl,hpl,hpe⟩
  | k+1,p,m,F,h,hm,hl,hpl,hpe=>by
    obtain⟨q,s,h1,h2,h3,h4,h5⟩:=k0m hn k h oo oo hpl hpe
    obtain⟨q2,O,g2⟩:=j6z h2 hn oo h4 h5
    have I:upR F n s n=s:=by unfold upR;rw[if_pos U]
    obtain⟨q3,Z,D,g4,g5⟩:=j7k g2 hn oo oo (by rw[I];omega)
    rw[I]at D
    refine⟨q3,s++[⟨1,(q2.y 1).ct⟩],?_,?_,by rw[List.length_append,h3];simp;omega,g4,g5⟩
    · unfold j1d
      exact Runs.app (Runs.cons O (Runs.cons Z (Runs.nil _))) h1
    · refine(D.congr λx _ _=>?_)
      unfold upR;split<;>rfl
theorem k1a {p:MSt}{b:Int}{m g:Nat}{F:Row}{n:Int}(h:RH p b m F)(hn:1<=n/\n<=40)(hb:b<=4*n+2)(hm:m+g<100)(hg:1<=g/\g<=4) :
    ∃q s,Runs p (x6i n g) q/\RH q (4*n+3) (m+g) (upR F n s)/\s.length=g:=by
  obtain⟨q1,I,O,Z,h3⟩:=j8b h hn hb oo
  have D:upR F n [⟨1,(p.y 1).ct⟩] n=[⟨1,(p.y 1).ct⟩]:=by unfold upR;rw[if_pos U]
  obtain⟨q,s,k1,k2,k3,_,_⟩:=k0m hn (g-1) O oo (by rw[D];simp;omega) Z h3
  rw[D]at k3
  refine⟨q,s,Runs.cons I k1,?_,by rw[k3];simp;omega⟩
  rw[show m+g=m+1+(g-1) by omega]
  exact k2.congr λx _ _=>by unfold upR;split<;>rfl
theorem x5q {l g:List Int}(hl:Asc l)(h8:l.length<=8)(a0:g.length=l.length)(hg:∀j,j<l.length->1<=g.getD j 0/\g.getD j 0<=4):∀k,k<=l.length->
    ∃p S,Runs G08.start (u2m l g k) p/\RH p (if k=0 then -13 else 4*l.getD (k-1) 0+3) (4*k) (slF (λj=>l.getD j 0) S k)/\∀j,j<k->(S j).length=(g.getD j 0).toNat
  | 0,_=>by
    obtain⟨p,e,rfl⟩:∃p,doM G08.start hIn=.ok p/\p=G08.start.setY 1 (enS (G08.start.y 1) 0):=⟨_,j4n y7w dd U dd,rfl⟩
    have hy:(G08.start.setY 1 (enS (G08.start.y 1) 0)).y 1=enS (G08.start.y 1) 0:=u1c dd
    refine⟨_,λ_=>[],Runs.cons e (Runs.nil _),⟨y1b y7w e,rfl,by rw[hy];rfl,by rw[hy];show (if (0:Int)=1 then (179:Int) else -13)<=_;rw[if_neg dd,if_pos U];omega,by rw[hy];exact Nat.zero_le _,(by decide:z4r G08.start.tb<=0),λj h1 h2=>?_,rfl,rfl,λn _ _=>?_,λn _ _=>?_⟩,λj O=>absurd O (Nat.not_lt_zero _)⟩
    · show ((G08.start.ys.set 0 _).getD j yn0).inn=false
      rw[x0n h1]
      have:G08.start.ys.getD j yn0=yn0:=by simp only[G08.start,List.getD,List.getElem?_replicate];split<;>rfl
      rw[this];rfl
    · show G08.start.B.at 0 n=[]
      show atB [] n=[]
      unfold atB;rfl
    · show atB [] n=[]
      unfold atB;rfl
  | k+1,hk=>by
    obtain⟨p,S,h1,h2,h3⟩:=x5q hl h8 a0 hg k oo
    have Z:=hl k oo
    have a1:=hg k oo
    obtain⟨q,s,e1,D,e3⟩:=k1a (n:=l.getD k 0) (g:=(g.getD k 0).toNat) h2 ⟨Z.1,Z.2.1⟩ (by
      split
      · omega
      · have:=Z.2.2 oo;omega) oo oo
    refine⟨q,λj=>if j=k then s else S j,?_,?_,λj O=>?_⟩
    · unfold u2m;exact Runs.app e1 h1
    · rw[if_neg oo,Nat.add_sub_cancel]
      have e4:RH q (4*l.getD k 0+3) (4*(k+1)) (upR (slF (λj=>l.getD j 0) S k) (l.getD k 0) s):=⟨D.v,D.rk,D.inn,D.pl,Nat.le_trans D.pe oo,Nat.le_trans D.cnt oo,D.oth,D.cr,D.fa,D.f,D.g⟩
      refine e4.congr λx _ _=>?_
      have I:∀j,j+1<l.length->l.getD j 0<l.getD (j+1) 0:=z9a hl
      unfold upR
      by_cases c:x=l.getD k 0
      · rw[if_pos c,c,y4o (c:=λj=>l.getD j 0) (n:=k+1) (λj O=>I j oo) (Nat.lt_succ_self k),if_pos U]
      · rw[if_neg c]
        by_cases c2:∃j,j<k/\l.getD j 0=x
        · obtain⟨j,O,rfl⟩:=c2
          rw[y4o (c:=λj=>l.getD j 0) (n:=k+1) (λj O=>I j oo) oo,y4o (c:=λj=>l.getD j 0) (n:=k) (λj O=>I j oo) O,if_neg oo]
        · rw[v2z λj O e=>?_,v2z λj O e=>c2 ⟨j,O,e⟩]
          rcases Nat.lt_or_ge j k with h|h
          · exact c2 ⟨j,h,e⟩
          · rw[show j=k by omega]at e;exact c e.symm
    · show (if j=k then s else S j).length=_
      by_cases c:j=k
      · rw[if_pos c,e3,c]
      · rw[if_neg c];exact h3 j oo
theorem x2i (n:Int):∀k,(j1d n k).length=2*k
 | 0=>rfl
 | k+1=>by show (j1d n k++[hMi n,hTu n]).length=_;rw[List.length_append,x2i n k];rfl
theorem u0d (n:Int)(g:Nat):(x6i n g).length=1+2*(g-1):=by unfold x6i;rw[List.length_cons,x2i];omega
theorem y5v {l g:List Int}(D:∀j,j<l.length->1<=g.getD j 0/\g.getD j 0<=4):∀k,k<=l.length->(u2m l g k).length<=1+7*k
 | 0,_=>Nat.le_refl _
 | k+1,h=>by
  have I:=y5v D k oo
  have O:=D k oo
  show (u2m l g k++(hKn (l.getD k 0)::j1d (l.getD k 0) ((g.getD k 0).toNat-1))).length<=_
  rw[List.length_append,List.length_cons,x2i];omega
theorem v3z {n:Int}{k:Nat}(h:1<=k):x6i n k++[hMi n,hTu n]=x6i n (k+1):=by
 obtain⟨j,rfl⟩:∃j,k=j+1:=⟨k-1,oo⟩;rfl
theorem u0x:nrm G08.start=G08.start:=by simp[nrm,G08.start,y2k,y2b]
theorem u7b {l g:List Int}(hl:Asc l)(h8:l.length<=8)(O:g.length=l.length)(hg:∀j,j<l.length->1<=g.getD j 0/\g.getD j 0<=4) :
    ∃p S,Runs G08.start (j6i l g) p/\Tv p 0 (slF (λj=>l.getD j 0) S l.length) (λ_=>[])/\p.cr=[]/\p.fa=[]/\(∀j,j<l.length->(S j).length=(g.getD j 0).toNat):=by
  obtain⟨p,S,h1,D,h3⟩:=x5q hl h8 O hg l.length (Nat.le_refl _)
  have e:=u5n (o:=k3x) D.v dd U D.inn
  refine⟨_,S,Runs.app (Runs.cons e (Runs.nil _)) h1,⟨y1b D.v e,D.rk,D.f,D.g,λy hy=>?_⟩,D.cr,D.fa,h3⟩
  have Z:y∈p.ys.set 0 (lvS (p.y 1)):=hy
  obtain⟨j,I,rfl⟩:=List.getElem_of_mem Z
  rw[List.length_set,D.v.ly]at I
  have:(p.ys.set 0 (lvS (p.y 1))).getD j yn0=(p.ys.set 0 (lvS (p.y 1)))[j]'(by rw[List.length_set,D.v.ly];exact I):=by rw[List.getD,List.getElem?_eq_getElem (by rw[List.length_set,D.v.ly];exact I)];rfl
  rw[<-this]
  rcases Nat.eq_zero_or_pos j with rfl|hp
  · rw[List.getD,List.getElem?_set_self (by rw[D.v.ly];omega)];rfl
  · rw[x0n hp];exact D.oth j hp I
end Go.G28
namespace Go.Proofs.YtagnnbcnnmacmaaGreatDoor
open Go.Lw Go.G21 Go.G08 Go.G09 Go.G26 Go.G28 _root_.Go.Proofs.Tryz
theorem j0h (v1 v2:Value)(l g:List Int)(w0:World)(h1:Sl Enc.i64 w0 v1 l)(h2:Sl Enc.i64 w0 v2 g)(hl:Lw.Asc l)(h8:l.length<=8)(h3:g.length=l.length)(hg:∀j,j<l.length->1<=g.getD j 0/\g.getD j 0<=4)(a8:StT w0):Rets prog 10 #[v1,v2] w0 λr w'=>(∃s:StQ,r=.agg #[.int .i64 s.rk,.slice s.q.f.1 s.q.f.2.1 s.q.f.2.2,.slice s.q.b.1 s.q.b.2.1 s.q.b.2.2,.slice s.yv.1 s.yv.2.1 s.yv.2.2,.slice s.fb.t.1 s.fb.t.2.1 s.fb.t.2.2,.slice s.fb.c.1 s.fb.c.2.1 s.fb.c.2.2,.slice s.fb.h.1 s.fb.h.2.1 s.fb.h.2.2,.slice s.fb.f.1 s.fb.f.2.1 s.fb.f.2.2]/\StK UK w' s/\∀q,z8b 0 G08.start (j6i l g)=.ok q->StP s q 80)/\Fr [] w0 w':=by
 obtain⟨A1,c1,rfl,g1⟩:=id h1.form;obtain⟨A2,c2,rfl,g3⟩:=id h2.form;refine we [(0,.slice A1 l.length c1),(1,.slice A2 g.length c2)] func10 U ntmps10 U (.c2 U U) ?_;have d7:=h1;have e0:=h2;have b5:=a8;refine sr (al u9y U (λg4 w1 g5 a1 q1 z1=>?_));obtain⟨bS,g0⟩:∃b:Nat,b=w1.heap.size:=⟨_,rfl⟩;have b7:=a1;refine nn (sr (z1z (cs:=[_,_,_,_,_,_]) (ev2 U) u2t (z0f U (z0f U z0t)) U ?_));refine z1w ([hIn]) (ev1 U) U y8q (λf6 w2 f1 d0 q2 z2=>(asg U (nn (sq (sr (asg U (nn (bl (lpK (ι:=Nat×Value) [(0,_),(1,_),(4,_)] (λp_=>[(6,.int .i64 (p_.1:Int)),(5,p_.2)]) (λp_ w'=>Fr [] w1 w'/\p_.1<=l.length/\Lw.Own y0v 88 bS w' p_.2 (u2m l g p_.1)) (λp_=>l.length-p_.1) (0,_) (.c5 U U U U U) ⟨q2,⟨Nat.zero_le _,d0.low oo⟩⟩ ?_)))))))));rintro⟨i,vP⟩ w3 ⟨q3,⟨e3,I⟩⟩;simp only at e3 I;have z3:=q3.size;refine kpC [(0,_),(1,_),(4,_),(6,.int .i64 (i:Int)),(5,vP)] (.c5 U U U U U) (sq (sr (mv U (mv U (lnS U underlying26 (lt' U (nn (cd U (λc0=>?_) (λc0=>?_)))))))));have h0:=hg i oo;have h4:=hl i oo;have e8:=y5v hg i oo;refine sk (tn (sq (bl (sr (mv U (mv U ?_))))));replace h1:=d7.ext (q1.n1 q3);refine z0x (p:=i) (0) U h1 U z3b oo (λe9 b8=>?_);refine z1a U (b8 _ h1) na3 (z1z (cs:=[_,_]) (ev1 U) x8q (z0f U z0t) U ?_);refine al j1u U (λg7 w4 g6 D q4 z4=>?_);refine z0k (vs:=[_,_]) U D v5m (λw5 D q5 z5=>?_) (h1:=(by first|(simp[Value.oneCell',S];done)|exact y0v.one _));refine kpL [(0,_),(1,_),(4,_),(5,_),(6,_),(7,_)] (.c6 U U U U U U) (nn (sr (mv U (z0m U D z8c (z1z (cs:=[_,_,_,_,_,_]) (ev4 U) u2t (z0f U (z0f U (z0f U (z0f U z0t)))) U ?_)))));refine z1w ([hKn (l.getD i 0)]) (ev1 U) U y8q (λf7 w6 f2 d1 q6 z6=>?_);replace D:=D.ext q6;replace I:=((I.ext q4).fr q5 (by first|exact z9q I oo|simp[z0u]<;>omega)).ext q6;have a2:=I;refine z1x U I d1.sl y8q (λh9 w7 I q7 e5=>?_) (hM:=(by unfold maxLen;simp only[List.length_append,List.length_cons,List.length_nil];omega)) (hb:=(by simp only[List.length_append,List.length_cons,List.length_nil];omega));have z7:=q7.size;replace D:=D.fr q7 (λO=>a2.neB D dd O);refine asg U (nn (sr (asg U (nn (bl (lpK (ι:=Nat×Value) [(0,_),(1,_),(4,_),(6,_),(7,_)] (λp_=>[(8,.int .i64 (p_.1:Int)),(5,p_.2)]) (λp_ w'=>Fr [] w1 w'/\(1<=p_.1/\p_.1<=(g.getD i 0).toNat)/\Blk w' g7 85 [.int .u8 0,.int .i64 (l.getD i 0)]/\Lw.Own y0v 88 bS w' p_.2 (u2m l g i++x6i (l.getD i 0) p_.1)) (λp_=>(g.getD i 0).toNat-p_.1) (1,_) (.c7 U U U U U U U) ⟨((q3.z3 q4 q5 q6).step q7 (λk O a6=>absurd (a2.blk k O).1 oo)),⟨⟨Nat.le_refl _,sm⟩,D,I⟩⟩ ?_))))));rintro⟨k,vK⟩ w8 ⟨q8,⟨c9,D,I⟩⟩;simp only at c9 D I;have z8:=q8.size;have d6:=D.lt;refine kpC [(0,_),(1,_),(4,_),(6,_),(7,_),(8,.int .i64 (k:Int)),(5,vK)] (.c7 U U U U U U U) (sq (sr (mv U (mv U (mv U ?_)))));replace h2:=e0.ext (q1.n1 q8);refine z0x (p:=i) (0) U h2 U z3b oo (λf0 b9=>(z1a U (b9 _ h2) na3 (lt' U (nn (cd U (λc1=>?_) (λc1=>?_))))));have h5:=u0d (l.getD i 0) k;refine sk (tn (sq (bl (rg (mv U (z0m U D z8c (z1z (cs:=[_,_,_,_,_,_]) (ev4 U) u2t (z0f U (z0f U (z0f U (z0f U z0t)))) U ?_)))))));refine z0m U D z8c (z1z (cs:=[_,_,_,_,_,_]) (ev4 U) u2t (z0f U (z0f U (z0f U (z0f U z0t)))) U ?_);refine z1w ([hMi (l.getD i 0),hTu (l.getD i 0)]) (ev2 U) U y8q (λf8 w9 f3 d3 q9 z9=>?_);replace D:=D.ext q9;replace I:=I.ext q9;have a3:=I;refine z1x U I d3.sl y8q (λi0 i2 I b0 e6=>?_) (hM:=(by unfold maxLen;simp only[List.length_append,List.length_cons,List.length_nil];omega)) (hb:=(by simp only[List.length_append,List.length_cons,List.length_nil];omega));have j1:=b0.size;replace D:=D.fr b0 (λO=>a3.neB D dd O);exact asg U (kpL [(0,_),(1,_),(4,_),(5,_),(6,_),(7,_),(8,_)] (.c7 U U U U U U U) (nl (bn' (tn (rg (mv U (z0q U (wi6 oo) (asg U (nl (lpE ((k+1,_)) (.c7 U U U U U U U) ⟨((q8.n1 q9).step b0 (λk O a6=>absurd (a3.blk k O).1 oo)),⟨⟨sm,sm⟩,D,by simp only;rw[<-v3z c9.1,<-List.append_assoc];exact I⟩⟩ sm))))))))));have e4:k=(g.getD i 0).toNat:=by omega
 have e1:u2m l g (i+1)=u2m l g i++x6i (l.getD i 0) k:=by rw[e4];rfl
 exact ex (te (te (xh (bn' (tn (rg (mv U (z0q U (wi6 oo) (asg U (nl (lpE ((i+1,_)) (.c5 U U U U U) ⟨q8,⟨sm,by simp only;rw[e1];exact I⟩⟩ sm)))))))))));obtain rfl:i=l.length:=by omega
 have e8:=y5v hg l.length (Nat.le_refl _);refine ex (te (te (xh (tn (sr (cl z0g (mkC func33) (v3y _) U ?_))))));rintro _ i3 ⟨⟨gy,gt,rfl,b4⟩,q11⟩;have j2:=q11.size;have a0:=b4.k;clear b4;refine mv U (z1z (cs:=[_,_,_,_,_,_]) (ev2 U) u2t (z0f U (z0f U z0t)) U ?_);refine z1w ([k3x]) (ev1 U) U y8q (λf9 i4 f4 d4 a4 j3=>?_);replace a0:=a0.ext a4;replace I:=I.ext (q11.n1 a4);have Z:=I;refine z1x U I d4.sl y8q (λi1 i5 I a5 e7=>?_) (hM:=(by unfold maxLen;simp only[List.length_append,List.length_cons,List.length_nil];omega)) (hb:=(by simp only[List.length_append,List.length_cons,List.length_nil];omega));have j4:=a5.size;replace a0:=a0.fr a5 (λk_ d9 _=>by obtain⟨f5,e2⟩:=y1k Z k_ d9;exact⟨_,_,e2,dd⟩);have h6:(j6i l g).length<=58:=by unfold j6i;rw[List.length_append];have:=y5v hg l.length (Nat.le_refl _);simp only[List.length_cons,List.length_nil];omega
 replace a8:=b5.ext ((q1.n3 q3 q11 a4).step a5 (λk O a6=>absurd (Z.blk k O).1 oo));refine cl (ev2 U) (mkC func11) (v8i _ (j6i l g) _ a0.at (stp0 gy gt) oo I.sl a8) U ?_;rintro _ i7 ⟨⟨s5,rfl,b3,b6,h7⟩,q14⟩;have j5:=q14.size;have a7:=b3.k;clear b3;refine mv U (xt U (xt U (xt U (al u9y U (λg9 i8 g8 a9 b1 j6=>?_)))));refine z0k (vs:=[_,_,_,_,_,_,_,_]) U a9 v1f (λi9 a9 b2 j7=>?_) (h1:=(by first|(simp[Value.oneCell',S];done)|exact y0v.one _));refine asg U (asg U (kpL [(4,_),(9,_)] (.c2 U U) (nn (sr (z0m U a9 x6u ?_)))));replace a1:=b7.ext (((q3.n2 q11 a4).step a5 (λk O a6=>absurd (Z.blk k O).1 oo)).z3 q14 b1 b2);refine z0k (vs:=[_,_,_,_,_,_,_,_]) U a1 v1f (λj0 a1 d5 j8=>?_) (h1:=(by first|(simp[Value.oneCell',S];done)|exact y0v.one _));refine nn (rt (rC results10 U a1 x6u  ?_));replace a7:=((a7.ext b1).fr b2 (by intro k O _;rw[List.mem_singleton]at O;subst O;exact⟨_,_,by assumption,dd⟩)).fr d5 (by intro k O _;rw[List.mem_singleton]at O;subst O;exact⟨_,_,by assumption,dd⟩);exact⟨_,rfl,⟨s5,rfl,a7,λq hq=>by rw[u0x]at b6;exact(b6 q hq).mono oo⟩,(((q1.n3 q3 q11 a4).step a5 (λk O a6=>absurd (Z.blk k O).1 oo)).z4 q14 b1 b2 d5)⟩
end Go.Proofs.YtagnnbcnnmacmaaGreatDoor
namespace Go.G28
open Go.Lw Go.G21 Go.G08
def ElO (I base:Nat)(w:World)(l:List IQ):Prop:=∀q∈l,Lw.Own z1j I base w (slv q.1) q.2
theorem ElO.nil {I base:Nat}{w:World}:ElO I base w []:=λq D=>by cases D
theorem ElO.ext {I base:Nat}{w w':World}{l:List IQ}(h:ElO I base w l)(hf:Fr [] w w'):ElO I base w' l:=λq D=>(h q D).ext hf
theorem ElO.fr {I base:Nat}{w w':World}{l:List IQ}{S:List Nat}(h:ElO I base w l)(hf:Fr S w w')(hS:∀k∈S,k<w.heap.size->∃T cs,Blk w k T cs/\T≠I):ElO I base w' l:=λq O=>
 (h q O).fr hf λk hk Z=>by
  have D:=((h q O).blk k Z).2
  obtain⟨T,cs,h1,h2⟩:=hS k hk D
  exact Own.neB (h q O) h1 (λe=>h2 e.symm) Z
theorem ElO.snoc {I base:Nat}{w:World}{l:List IQ}{q:IQ}(h:ElO I base w l)(D:Lw.Own z1j I base w (slv q.1) q.2):ElO I base w (l++[q]):=λx O=>by
 rcases List.mem_append.1 O with e|e
 ·exact h x e
 rw[List.mem_singleton]at e;rw[e];exact D
theorem ElO.low {I base b:Nat}{w:World}{l:List IQ}(h:ElO I base w l)(hb:b<=base):ElO I b w l:=λq D=>(h q D).low hb
theorem ElO.at {I base:Nat}{w:World}{l:List IQ}(h:ElO I base w l):IqAt w l:=λq D=>(h q D).sl
end Go.G28
namespace Go.Proofs.YtagnnbcnnmacmaaGreatDoor
open Go.Lw Go.G21 Go.G08 Go.G09 Go.G26 Go.G28 _root_.Go.Proofs.Tryz
theorem j3z {q:BdQ}{l:List Int}{i:Nat}{ps:List IQ}{x:SV}(D:i<l.length)(h:ps.map Prod.snd=(l.take i).map (q.p.atC 0)):(ps++[(x,q.p.atC 0 (l.getD i 0))]).map Prod.snd=(l.take (i+1)).map (q.p.atC 0):=by
 rw[List.take_add_one,List.getElem?_eq_getElem D,List.map_append,List.map_append,h,List.getD,List.getElem?_eq_getElem D];rfl
theorem u8n (s:StQ)(v:Value)(l:List Int)(w0:World)(hS:StAt w0 s)(hB:BdOk s.q.p)(h1:Sl Enc.i64 w0 v l)(hl:l.length<=8)(c1:∀i,i<l.length->1<=l.getD i 0/\l.getD i 0<=40):Rets prog 12 #[.agg #[.int .i64 s.rk,.slice s.q.f.1 s.q.f.2.1 s.q.f.2.2,.slice s.q.b.1 s.q.b.2.1 s.q.b.2.2,.slice s.yv.1 s.yv.2.1 s.yv.2.2,.slice s.fb.t.1 s.fb.t.2.1 s.fb.t.2.2,.slice s.fb.c.1 s.fb.c.2.1 s.fb.c.2.2,.slice s.fb.h.1 s.fb.h.2.1 s.fb.h.2.2,.slice s.fb.f.1 s.fb.f.2.1 s.fb.f.2.2],v] w0 λr w'=>(∃ps,Lw.Own z7g 42 w0.heap.size w' r ps/\ElO 54 w0.heap.size w' ps/\ps.map Prod.snd=l.map (s.q.p.atC 0))/\Fr [] w0 w':=by
 obtain⟨A,c,rfl,hc⟩:=id h1.form;obtain⟨⟨b7,b6⟩,b5,a8⟩:=z4b hB;refine we [(0,.agg #[.int .i64 s.rk,.slice s.q.f.1 s.q.f.2.1 s.q.f.2.2,.slice s.q.b.1 s.q.b.2.1 s.q.b.2.2,.slice s.yv.1 s.yv.2.1 s.yv.2.2,.slice s.fb.t.1 s.fb.t.2.1 s.fb.t.2.2,.slice s.fb.c.1 s.fb.c.2.1 s.fb.c.2.2,.slice s.fb.h.1 s.fb.h.2.1 s.fb.h.2.2,.slice s.fb.f.1 s.fb.f.2.1 s.fb.f.2.2]),(1,.slice A l.length c)] func12 U ntmps12 U (.c2 U U) ?_;have b4:=hS;have a5:=h1;refine sr (bx U (λg2 w1 d6 D q1 z1=>(asg U ?_)));obtain⟨bS,d4⟩:∃b:Nat,b=w1.heap.size:=⟨_,rfl⟩;have a7:=D;refine nn (sr (asg U (nn (sq (sr (asg U (nn (bl (lpK (ι:=Nat×Value×List IQ) [(1,_),(2,_)] (λp_=>[(6,.int .i64 (p_.1:Int)),(5,p_.2.1)]) (λp_ w'=>Fr [] w1 w'/\p_.1<=l.length/\Lw.Own z7g 42 bS w' p_.2.1 p_.2.2/\ElO 54 bS w' p_.2.2/\p_.2.2.map Prod.snd=(l.take p_.1).map (s.q.p.atC 0)) (λp_=>l.length-p_.1) (0,.slice none 0 0,[]) (.c4 U U U U) ⟨(Fr.refl _ _),⟨Nat.zero_le _,Own.nil _,ElO.nil,rfl⟩⟩ ?_)))))))));rintro⟨i,vP,ps⟩ w2 ⟨q2,⟨b8,Z,he,a1⟩⟩;simp only at b8 Z he a1;have z2:=q2.size;refine kpC [(1,_),(2,_),(6,.int .i64 (i:Int)),(5,vP)] (.c4 U U U U) (sq (sr (mv U (mv U (lnS U underlying26 (lt' U (nn (cd U (λc0=>?_) (λc0=>?_)))))))));have d7:=c1 i oo;have b1:l≠[]:=λe=>by rw[e]at c0;simp at c0;omega
 have e0:ps.length=i:=by have:=congrArg List.length a1;rw[List.length_map,List.length_map,List.length_take_of_le oo]at this;exact this
 refine sk (tn (sq (bl ?_)));replace hS:=b4.ext (q1.n1 q2);replace h1:=a5.ext (q1.n1 q2);replace D:=a7.ext q2;intro a h;refine z0h (some 10) (λwb w'=>Fr (z0u vP) wb w') z2y ?_;intro w3 q3;have z3:=q3.size;replace hS:=hS.ext q3;replace h1:=h1.ext q3;replace D:=D.ext q3;replace Z:=Z.ext q3;replace he:=he.ext q3;have hC:Fr (z0u vP) w3 w3:=Fr.refl _ _;have a6:=hS;have a2:=h1;have O:=D;have a0:=Z;have b0:=he;refine z0d 0 h U λa h=>z0c 1 h U y7j U λa h=>z1d (vs:=[_,_]) 2 h U (λ_ hw=>(O.fr hw (λk_=>Own.neB a0 O dd k_))) z6k U U λa h=>z0d 3 h U λa h=>z0d 4 h U λa h=>z1e (p:=i) (0) 5 h U h1 U z3b U λd0 a9 a h=>z2h 6 h U (λ_ hw=>a9 _ (a2.fr hw (λk_ b9 a4=>absurd (a0.blk k_ b9).1 (by have:=a5.blk b1 k_ a4;omega)))) na3 U λa h=>z3m (cs:=[_,_]) 7 h (z0a U z0g) x8q (z0f U z0t) U U λa h=>z0e 8 U ?_;refine z0n h (z0a U (z0a U z0g)) u8w (x4d s.q 0 (l.getD i 0) _ hS.b oo b7 b6 b5 a8) ?_;rintro _ w4 ⟨hX,q4⟩ a h;have z4:=q4.size;replace hC:=hC.next q4;obtain⟨AX,cX,rfl,d5⟩:=hX.sl.form;refine z0b (z0e 9 U (z2i ([((AX,(s.q.p.atC 0 (l.getD i 0)).length,cX),s.q.p.atC 0 (l.getD i 0))]) h (z0a U z0g) U y2h λd1 w5 hg b2 q5 hz a h=>?_));have z5:=q5.size;replace D:=D.ext (q4.n1 q5);replace Z:=Z.ext (q4.n1 q5);replace he:=he.ext (q4.n1 q5);replace hX:=hX.ext q5;replace hC:=hC.next q5;refine z0b (z0e 10 U ?_);have I:=Z;refine z3g h U Z b2.sl y2h (by unfold maxLen;simp only[List.length_cons,List.length_nil];omega) (by simp only[List.length_cons,List.length_nil];omega) λe1 w6 Z q6 c9 a h=>?_;have z6:=q6.size;replace D:=D.fr q6 (λhk=>I.neB D dd hk);replace he:=he.fr q6 (λk_ a3 _=>by obtain⟨d3,a4⟩:=y1k I k_ a3;exact⟨_,_,a4,dd⟩);replace hX:=hX.fr q6 (λk_ a3 b3=>(Own.neO I hX dd) k_ a3 b3);refine z1h (z0e 11 U (z0s h U λa h=>?_));refine z1h (z0r ?_);clear hC a6 a2 O a0 b0;exact bk (h.sub (L':=[(1,_),(2,_),(5,_),(6,_)]) (.c4 U U U U)) (bn' (tn (rg (mv U (z0q U (wi6 oo) (asg U (nl (lpE ((i+1,_,_)) (.c4 U U U U) ⟨((q2.n3 q3 q4 q5).step q6 (λk hk d9=>absurd (I.blk k hk).1 oo)),⟨sm,Z,he.snoc (hX.low oo),j3z oo a1⟩⟩ sm))))))));obtain rfl:i=l.length:=by omega
 rw[List.take_length]at a1;exact ex (te (te (xh (tn (sr (mv U (asg U (kpL [(4,_)] (.cons U .nil) (nn (rt (r1 results12 U ⟨_,rfl,⟨ps,Z.low oo,he.low oo,a1⟩,(q1.n1 q2)⟩)))))))))))
theorem v8r (v1 v2:Value)(Z l2:List LId)(w0:World)(h1:Sl z1j w0 v1 Z)(h2:Sl z1j w0 v2 l2)(hl:Z.length<=100000):Rets prog 13 #[v1,v2] w0 λr w'=>r=.bool (decide (Z=l2))/\Fr [] w0 w':=by
 obtain⟨A1,k1,rfl,a6⟩:=id h1.form;obtain⟨A2,k2,rfl,a7⟩:=id h2.form;refine we [(0,.slice A1 Z.length k1),(1,.slice A2 l2.length k2)] func13 U ntmps13 U (.c2 U U) ?_;have a2:=h1;have a3:=h2;refine sr (asg U (nn (sq (sr (mv U (lnS U underlying42 (mv U (lnS U underlying42 (ne' U (nn (cd U (λc0=>?_) (λc0=>?_))))))))))));refine sr (asg U (nn (rt (tr (r1 results13 U ?_)))));exact⟨_,rfl,congrArg Value.bool (decide_eq_false (λe=>c0 (by rw[e]))).symm,(Fr.refl _ _)⟩;refine sk (tn (sq (sr (asg U (nn (bl (lpK (ι:=Nat) [(0,_),(1,_)] (λi=>[(5,.int .i64 (i:Int))]) (λi w'=>Fr [] w0 w'/\i<=Z.length/\∀j,j<i->Z.getD j id0=l2.getD j id0) (λi=>Z.length-i) 0 (.c3 U U U) ⟨Fr.refl _ _,⟨Nat.zero_le _,λj h=>absurd h oo⟩⟩ ?_)))))));rintro i w1 ⟨q1,⟨hi,hz⟩⟩;have z1:=q1.size;refine kpC [(0,_),(1,_),(5,_)] (.c3 U U U) (sq (sr (mv U (mv U (lnS U underlying42 (lt' U (nn (cd U (λc1=>?_) (λc1=>?_)))))))));refine sk (tn (sq (bl (sq ?_))));replace h1:=a2.ext q1;replace h2:=a3.ext q1;intro a h;have D:=Fr.refl [] w1;refine z3j (λwb w'=>Fr [] wb w') z2y ?_;intro w2 hq;have z2:=hq.size;replace h1:=h1.ext hq;replace h2:=h2.ext hq;replace D:=D.next hq;have a8:=hq.size;clear hq;have hC:Fr [] w2 w2:=Fr.refl _ _;have I:=h1;have O:=h2;refine z0d 0 h U λa h=>z0d 1 h U λa h=>z1e (id0) 2 h U h1 U z6q U ?_ (hp:=rfl);clear h a;intro a4 a0 a h;refine z2l 3 h wn U (λ_ hw=>a0 _ (I.ext hw)) z3x U λa h=>z0d 4 h U λa h=>z0d 5 h U λa h=>z1e (id0) 6 h U h2 U z6q U ?_ (hp:=rfl);clear h a;intro a5 a1 a h;refine z2l 7 h wn U (λ_ hw=>a1 _ (O.ext hw)) z3x U λa h=>u8v (V:=idV) (e:=_) (f:=_) 8 hC h wn U U k3i U U λa h=>z0r ?_;clear hC I O;have z2:=D.size;refine bk (h.sub (L':=[(0,_),(1,_),(5,_),(25,_)]) (.c4 U U U U)) (tn (cd U (λc2=>?_) (λc2=>?_)));refine sr (asg U (nn (rt (rb (tr (tr (rb (tr (r1 results13 U ?_)))))))));exact⟨_,rfl,congrArg Value.bool (decide_eq_false (λe=>c2 (by rw[e]))).symm,(q1.n1 D)⟩;refine sk (bn' (tn (rg (mv U (z0q U (wi6 oo) (asg U (nl ?_)))))));exact lpE (i+1) (.c3 U U U) ⟨(q1.n1 D),⟨oo,λj h=>by
  by_cases e:j=i;subst e;exact Classical.not_not.1 c2;exact hz j oo⟩⟩ oo
 obtain rfl:i=Z.length:=by omega
 refine ex (te (te (xh (tn (sr (asg U (nn (rt (r1 results13 U ?_)))))))));exact⟨_,rfl,congrArg Value.bool (decide_eq_true (v5t id0 oo (λj hj=>hz j oo))).symm,q1⟩
end Go.Proofs.YtagnnbcnnmacmaaGreatDoor
namespace Go.G26
open Go.Lw Go.G21 Go.G08
def prmJ (l:List Nat)(j:Nat):List Nat:=(List.range l.length).map λi=>if l.idxOf i<j then l.idxOf i+1 else 0
def k0i (l:List Nat):List Nat:=prmJ l l.length
theorem z8v {l:List Nat}(hp:l.Perm (List.range l.length)){f:Nat->LId}{i:Nat}(O:i<l.length):1<=(k0i l).getD i 0/\(k0i l).getD i 0<=l.length/\(l.map f).getD ((k0i l).getD i 0-1) id0=f i:=by
 have D:i∈l:=hp.mem_iff.2 (List.mem_range.2 O);have I:l.idxOf i<l.length:=List.idxOf_lt_length_iff.2 D;have e:(k0i l).getD i 0=l.idxOf i+1:=by
  unfold k0i prmJ;rw[List.getD,List.getElem?_map,List.getElem?_range O];show (if _ then _ else _)=_;rw[if_pos I]
 rw[e];refine⟨oo,oo,?_⟩;rw[Nat.add_sub_cancel,List.getD,List.getElem?_map,List.getElem?_eq_getElem I];show f l[l.idxOf i]=f i;rw[List.getElem_idxOf I]
end Go.G26
namespace Go.G26
open Go.Lw Go.G21 Go.G08
structure LkA where
  gb:Nat
  gT:Nat
  n:Nat
  b0:Nat
  HS:List SV
  G:Nat->Nat
section
variable {T2 T1 T0:Nat} {a:LkA} {w w':World} {M M':Nat->Nat->Int} {S:List Nat}
end
section
variable {T0 base n m:Nat} {w w':World} {G:Nat->Nat} {S:List Nat}
end
end Go.G26
namespace Go.G26
open Go.Lw Go.G21 Go.G08 Go.G09
theorem j1m {q:MSt}(D:MVal q)(a b:LId):lkC (y2k q.cr) a b=lkC q.cr a b:=
 v7q (z3i q.cr) (((z3i q.cr).map _).nodup_iff.2 D.cr.nd)
end Go.G26
namespace Go.G28
open Go.Lw Go.G21 Go.G08
open Go.G09 hiding Vw
open Go.G26 hiding turnS
theorem u6s {p:MSt}(D:p.cr=[])(hf:p.fa=[]):nrm p=p:=by
 obtain⟨rk,B,ys,Z,I,O⟩:=p;simp only at D hf;subst D hf;simp[nrm,y2k,y2b]
theorem u8i {B:Bd}{n:Int}(h:1<=n/\n<=40):B.atC 0 n=B.at 0 n:=by
 unfold Bd.atC;rw[if_pos (z2c ⟨.inl U,h⟩)]
def y8i (S:Nat->List LId)(i k:Nat):Nat:=((List.range' i k).map λj=>(S j).length).sum
theorem y8f (S:Nat->List LId)(i k:Nat):y8i S i (k+1)=y8i S i k+(S (i+k)).length:=by
 unfold y8i;rw[List.range'_concat,List.map_append,List.sum_append];simp
def x1x (S:Nat->List LId)(i k:Nat):List LId:=(List.range' i k).flatMap S
theorem v1q (S:Nat->List LId)(i k:Nat):(x1x S i k).length=y8i S i k:=by
 unfold x1x y8i;rw[List.length_flatMap]
theorem z4u {S:Nat->List LId}{i k:Nat}{x:LId}:x∈x1x S i k↔∃j,i<=j/\j<i+k/\x∈S j:=by
 unfold x1x;rw[List.mem_flatMap];constructor;rintro⟨j,D,I⟩;rw[List.mem_range'_1]at D;exact⟨j,D.1,D.2,I⟩;rintro⟨j,O,Z,I⟩;exact⟨j,List.mem_range'_1.2 ⟨O,Z⟩,I⟩
section
variable {l:List Int} {S:Nat->List LId} {p:MSt}
structure Stk (l:List Int) (S:Nat->List LId) (p:MSt):Prop where
  at_:∀k,k<l.length->p.B.at 0 (l.getD k 0)=S k
  nd:∀k,k<l.length->(S k).Nodup
  one:∀j k x,j<l.length->k<l.length->x∈S j->x∈S k->j=k
theorem j7l (hl:Asc l)(h:Tv p 0 (slF (λj=>l.getD j 0) S l.length) λ_=>[]):Stk l S p:=by
 have D:∀k,k<l.length->p.B.at 0 (l.getD k 0)=S k:=λk I=>by
  have:=hl k I;rw[h.f _ this.1 this.2.1,y4o (c:=λj=>l.getD j 0) (z9a hl) I]
 refine⟨D,λk I=>by rw[<-D k I];exact y5l h.inv.B _ _,λj k x Z I hx O=>?_⟩;rw[<-D j Z]at hx;rw[<-D k I]at O;have h1:=hl j Z;have h2:=hl k I;have:=y6z h.inv.B (z2c ⟨.inl U,h1.1,h1.2.1⟩) (z2c ⟨.inl U,h2.1,h2.2.1⟩) hx O;exact(x7h hl I Z this.2).symm
theorem v9v (h:Stk l S p){i k:Nat}(hk:i+k<=l.length):(x1x S i k).Nodup:=by
 unfold x1x;refine List.pairwise_flatMap.2 ⟨λj Z=>?_,?_⟩;rw[List.mem_range'_1]at Z;exact h.nd j oo;refine List.Pairwise.imp_of_mem (R:=(· < ·)) (λ{a b} D O I=>?_) List.pairwise_lt_range';rw[List.mem_range'_1]at D O;intro x hx y hy e;have:=h.one a b x oo oo hx (e▸hy);omega
end
theorem v8f {l g:List Int}{i a b:Nat}{front:Bool}(hl:Asc l)(h8:l.length<=8)(e0:g.length=l.length)(hg:∀j,j<l.length->1<=g.getD j 0/\g.getD j 0<=4)(hz:1<=a/\1<=b/\a+b<=4)(c0:i+a+b<=l.length)(hf:y3n l i a b front) :
    ∃p q S,z8b 0 G08.start (j6i l g)=.ok p/\z8b 0 p (y2z l i a b front)=.ok q/\nrm p=p/\MVal p/\MVal q/\q.rk=0/\Ky p q/\Stk l S p/\(∀k,k<l.length->(S k).length=(g.getD k 0).toNat)/\
      Tv p 0 (slF (λj=>l.getD j 0) S l.length) (λ_=>[])/\Tv q 0 (slF (λj=>l.getD j 0) (λj=>S (swC i a b j)) l.length) (λ_=>[])/\
      (∀k,k<l.length->q.B.at 0 (l.getD k 0)=S (swC i a b k))/\
      (∀k m x y,i<=k->k<i+a->i+a<=m->m<i+a+b->x∈S k->y∈S m->lkC q.cr x y=if front then 1 else -1)/\
      q.cr.length=y8i S i a*y8i S (i+a) b/\q.B.flat.length=p.B.flat.length:=by
  obtain⟨p,S,h1,h2,h3,h4,h5⟩:=u7b hl h8 e0 hg
  have hS:∀j,j<l.length->S j≠[]:=λj hj e=>by have h6:=h5 j hj;have:=hg j hj;rw[e,List.length_nil]at h6;omega
  have vp:MVal p:=x0v x4c (h1 0)
  have hs:=j7l hl h2
  obtain⟨q,cs,k1,k2,k3,k4,k5,k6,k7⟩:=v4j (N:=0) hl hz c0 hf hS h2 (by rw[h3];intro x y;exact⟨Int.le_refl _,Int.le_refl _⟩) oo
  have vq:MVal q:=x0v vp (k1 0)
  rw[h3]at k4
  have d3:∀x y,x≠y->lkC q.cr x y=crS cs x y:=λx y D=>by
    rw[v6m D k4]
    show z5n [] _ _+_=_
    have:∀u v,z5n [] u v=0:=λu v=>rfl
    rw[this];omega
  have e6:∀k,k<l.length->swC i a b k<l.length:=λk hk=>(y5e (a:=a) c0 hk).1
  have b0:∀k m x y,i<=k->k<i+a->i+a<=m->m<i+a+b->x∈S k->y∈S m->x≠y/\v5y l i a b front S x y:=λk m x y a1 a2 a3 a4 I hy=>by
    refine⟨λe=>?_,?_⟩
    · have:=hs.one k m x oo oo I (e▸hy);omega
    · cases front
      · exact⟨k,m,v8c.2 ⟨a1,a2⟩,oo,⟨a3,a4⟩,.inl ⟨I,hy⟩⟩
      · exact⟨m,k,v5v.2 ⟨a3,a4⟩,oo,⟨a1,a2⟩,.inr ⟨hy,I⟩⟩
  have b5:∀x y,v5y l i a b front S x y->(x∈x1x S i a/\y∈x1x S (i+a) b)\/(y∈x1x S i a/\x∈x1x S (i+a) b):=λx y ⟨j,m,c1,c2,c3,c4⟩=>by
    cases front
    · have d1:=v8c.1 c1
      have d2:i+a<=m/\m<i+a+b:=c3
      rcases c4 with c4|c4
      · exact .inl ⟨z4u.2 ⟨j,d1.1,d1.2,c4.1⟩,z4u.2 ⟨m,d2.1,d2.2,c4.2⟩⟩
      · exact .inr ⟨z4u.2 ⟨j,d1.1,d1.2,c4.1⟩,z4u.2 ⟨m,d2.1,d2.2,c4.2⟩⟩
    · have d1:=v5v.1 c1
      have d2:i<=m/\m<i+a:=c3
      rcases c4 with c4|c4
      · exact .inr ⟨z4u.2 ⟨m,d2.1,d2.2,c4.2⟩,z4u.2 ⟨j,d1.1,d1.2,c4.1⟩⟩
      · exact .inl ⟨z4u.2 ⟨m,d2.1,d2.2,c4.2⟩,z4u.2 ⟨j,d1.1,d1.2,c4.1⟩⟩
  have d6:∀k m x y,i<=k->k<i+a->i+a<=m->m<i+a+b->x∈S k->y∈S m->lkC q.cr x y=if front then 1 else -1:=λk m x y a1 a2 a3 a4 I hy=>by
    obtain⟨D,hp⟩:=b0 k m x y a1 a2 a3 a4 I hy
    rw[d3 x y D];exact(k6 x y D).1 hp
  -- how many crossings there are
  obtain⟨KL,a5⟩:∃KL:List (LId×LId),KL=(x1x S i a).flatMap λx=>(x1x S (i+a) b).map λy=>z3a ⟨x,y,0⟩:=⟨_,rfl⟩
  have a6:∀x,x∈x1x S i a->x∈x1x S (i+a) b->False:=λx I hy=>by
    obtain⟨j,b1,b2,b3⟩:=z4u.1 I
    obtain⟨m,c1,c2,c3⟩:=z4u.1 hy
    have:=hs.one j m x oo oo b3 c3;omega
  have d7:∀x y:LId,z3a ⟨x,y,0⟩=(x,y)\/z3a ⟨x,y,0⟩=(y,x):=λx y=>by
    unfold z3a;simp only;split<;>simp
  have a7:∀ {x y x' y':LId},x∈x1x S i a->y∈x1x S (i+a) b->x'∈x1x S i a->y'∈x1x S (i+a) b->z3a ⟨x,y,0⟩=z3a ⟨x',y',0⟩->x=x'/\y=y':=λ{x y x' y'} I hy e4 a0 e=>by
    rcases d7 x y with e1|e1<;>rcases d7 x' y' with e2|e2<;>rw[e1,e2]at e<;>simp only[Prod.mk.injEq]at e
    · exact e
    · exact absurd a0 λh=>a6 _ (e.1▸I) h
    · exact absurd hy λh=>a6 _ (e.1▸e4) (by exact h)
    · exact⟨e.2,e.1⟩
  have b6:KL.Nodup:=by
    rw[a5]
    refine List.pairwise_flatMap.2 ⟨λx I=>?_,?_⟩
    · exact List.pairwise_map.2 ((v9v hs (i:=i+a) (k:=b) oo).imp_of_mem λ{y y'} hy a0 D e=>D (a7 I hy I a0 e).2)
    · refine List.Pairwise.imp_of_mem (λ{u v} hu hv e3=>?_) (v9v hs (i:=i) (k:=a) oo)
      intro z hz z' O ez
      subst ez
      obtain⟨y,hy,rfl⟩:=List.mem_map.1 hz
      obtain⟨y',a0,e⟩:=List.mem_map.1 O
      exact e3 (a7 hv a0 hu hy e).1.symm
  have a8:KL.length=y8i S i a*y8i S (i+a) b:=by
    rw[a5,List.length_flatMap]
    have:∀L:List LId,(L.map λx=>((x1x S (i+a) b).map λy=>z3a ⟨x,y,0⟩).length).sum=L.length*y8i S (i+a) b:=λL=>by
      induction L with
      | nil=>simp
      | cons u v ih=>rw[List.map_cons,List.sum_cons,ih,List.length_map,v1q,List.length_cons,Nat.succ_mul];omega
    rw[this,v1q]
  have d4:∀z,z∈q.cr.map (λc=>(c.a,c.b))↔z∈KL:=λz=>by
    constructor
    · intro O
      obtain⟨c,hc,rfl⟩:=List.mem_map.1 O
      have hh:=vq.cr.has c hc
      have D:c.a≠c.b:=λe=>by
        have h9:=hh.2.2.1;rw[e]at h9
        have:z5m c.b c.b=0:=by unfold z5m;simp
        omega
      have e5:z3a c=(c.a,c.b):=by unfold z3a;rw[if_neg (by have:=hh.2.2.1;omega)]
      have Z:z3a ⟨c.a,c.b,0⟩=(c.a,c.b):=by unfold z3a;simp only;rw[if_neg (by have:=hh.2.2.1;omega)]
      have b9:=((u3e vq.cr.nd λx I=>(vq.cr.has x I).2.2.2.2).1 hc)
      have c9:lkC q.cr c.a c.b≠0:=by unfold lkC;rw[Z];simp only;rw[b9.2];exact b9.1
      rw[d3 _ _ D]at c9
      have hp:v5y l i a b front S c.a c.b:=Classical.byContradiction λhn=>c9 ((k6 _ _ D).2 hn)
      rw[a5]
      rcases b5 _ _ hp with h|h
      · exact List.mem_flatMap.2 ⟨c.a,h.1,List.mem_map.2 ⟨c.b,h.2,Z⟩⟩
      · refine List.mem_flatMap.2 ⟨c.b,h.1,List.mem_map.2 ⟨c.a,h.2,?_⟩⟩
        have:z3a ⟨c.b,c.a,0⟩=z3a ⟨c.a,c.b,0⟩:=(x1j D).2 (.inr ⟨rfl,rfl⟩)
        rw[this,Z]
    · intro O
      rw[a5]at O
      obtain⟨x,I,O⟩:=List.mem_flatMap.1 O
      obtain⟨y,hy,rfl⟩:=List.mem_map.1 O
      obtain⟨j,b1,b2,b3⟩:=z4u.1 I
      obtain⟨m,c1,c2,c3⟩:=z4u.1 hy
      have hv:=d6 j m x y b1 b2 c1 c2 b3 c3
      have d5:z5n q.cr (z3a ⟨x,y,0⟩).1 (z3a ⟨x,y,0⟩).2≠0:=by
        show lkC q.cr x y≠0
        rw[hv];split<;>omega
      have b7:q.cr.any (isC (z3a ⟨x,y,0⟩).1 (z3a ⟨x,y,0⟩).2)=true:=Classical.byContradiction λh=>d5 (z9t h)
      obtain⟨c,hc,d9⟩:=List.any_eq_true.1 b7
      have b8:c.a=(z3a ⟨x,y,0⟩).1/\c.b=(z3a ⟨x,y,0⟩).2:=by simpa[isC] using d9
      exact List.mem_map.2 ⟨c,hc,by rw[b8.1,b8.2]⟩
  have d0:q.cr.length=y8i S i a*y8i S (i+a) b:=by
    have b4:=(List.perm_ext_iff_of_nodup vq.cr.nd b6).2 d4
    have:=b4.length_eq
    rw[List.length_map]at this
    rw[this,a8]
  -- the loops are the same
  have a9:q.B.flat.length=p.B.flat.length:=by
    refine List.Perm.length_eq (List.perm_iff_count.2 λx=>?_)
    by_cases I:z5h p.tb x
    · have o1:=vp.once x I
      have o2:=vq.once x (by rw[k3.tb];exact I)
      rw[k3.tb,k3.fa]at o2
      simp only[List.count_append]at o1 o2
      omega
    · rw[List.count_eq_zero.2 λh=>I (vp.inv.has x h),List.count_eq_zero.2 λh=>I (by have:=vq.inv.has x h;rwa [k3.tb]at this)]
  refine⟨p,q,S,h1 0,k1 0,u6s h3 h4,vp,vq,k2.rk,k3,hs,h5,h2,k2,λk hk=>?_,d6,d0,a9⟩
  have:=hl k hk
  rw[k2.f _ this.1 this.2.1,y4o (c:=λj=>l.getD j 0) (z9a hl) hk]
end Go.G28
namespace Go.G28
open Go.Lw Go.G21 Go.G08
open Go.G09 hiding Vw
open Go.G26 hiding turnS
theorem y9y:∀(f m:Nat) (s:PS) (l:List Int) (d:Int),-(8*(m:Int))<=d->d<=8*(m:Int)->(moveF f s l d).1.length<=s.1.length+m*(2+2*l.length)
 | 0,m,s,l,d,_,_=>by unfold moveF;exact Nat.le_add_right _ _
 | f+1,m,s,l,d,h1,h2=>by
  unfold moveF
  split
  ·exact Nat.le_add_right _ _
  rename_i O
  obtain⟨k,rfl⟩:∃k,m=k+1:=⟨m-1,oo⟩
  have D:=y9y f k (y2t s l d) (l.map (·+byS d)) (d-byS d) (by unfold byS;omega) (by unfold byS;omega)
  have I:=x3f s l d
  rw[List.length_map]at D
  rw[Nat.succ_mul];omega
theorem y9x (s:PS)(l:List Int){k e:Nat}{d:Int}(h1:-40<=d)(D:d<=40):(y8r s ((l.take e).drop k) d).1.length<=s.1.length+5*(2+2*(e-k)):=by
 have h:=y9y d.natAbs 5 s ((l.take e).drop k) d oo oo;have I:((l.take e).drop k).length<=e-k:=by rw[List.length_drop,List.length_take];omega
 unfold y8r;omega
def j1b (b:List Int)(k:Nat):Nat:=5*(2+2*(y2a b k-k))
theorem y7e (b:List Int):∀f i,((z2q b f i).map (j1b b)).sum<=20*(b.length-i)
 | 0,i=>by simp[z2q]
 | f+1,i=>by
  unfold z2q
  split
  ·rename_i D
   have I:=y7e b f (y2a b i)
   have O:=z8t D
   rw[List.map_cons,List.sum_cons]
   unfold j1b at *
   omega
  simp
def coU (b:List Int)(k:Nat):Nat:=if 0<b.getD k 0 then j1b b k else 0
def coD (b:List Int)(k:Nat):Nat:=if b.getD k 0<0 then j1b b k else 0
theorem v3a (b:List Int):∀D:List Nat,(D.map (coU b)).sum+(D.map (coD b)).sum<=(D.map (j1b b)).sum
 | []=>by simp
 | k::D=>by
  have h:=v3a b D
  have I:coU b k+coD b k<=j1b b k:=by unfold coU coD;split<;>split<;>omega
  simp only[List.map_cons,List.sum_cons];omega
section
variable {xs ys:List Int}
theorem u0f (O:Asc xs)(Z:Asc ys)(hl:ys.length=xs.length):∀(D:List Nat) (s:PS),(∀k∈D,k<xs.length)->(D.foldl (upS xs (dif xs ys)) s).1.length<=s.1.length+(D.map (coU (dif xs ys))).sum
 | [],s,_=>by simp
 | k::D,s,hk=>by
  have h1:=u0f O Z hl D (upS xs (dif xs ys) s k) λj hj=>hk j (List.mem_cons_of_mem _ hj)
  have I:=x0h O Z hl (hk k List.mem_cons_self)
  have h3:(upS xs (dif xs ys) s k).1.length<=s.1.length+coU (dif xs ys) k:=by
   unfold upS coU
   split
   ·exact y9x s xs I.1 I.2
   exact Nat.le_add_right _ _
  rw[List.foldl_cons,List.map_cons,List.sum_cons];omega
theorem x6k (O:Asc xs)(Z:Asc ys)(hl:ys.length=xs.length):∀(D:List Nat) (s:PS),(∀k∈D,k<xs.length)->(D.foldl (y0z xs (dif xs ys)) s).1.length<=s.1.length+(D.map (coD (dif xs ys))).sum
 | [],s,_=>by simp
 | k::D,s,hk=>by
  have h1:=x6k O Z hl D (y0z xs (dif xs ys) s k) λj hj=>hk j (List.mem_cons_of_mem _ hj)
  have I:=x0h O Z hl (hk k List.mem_cons_self)
  have h3:(y0z xs (dif xs ys) s k).1.length<=s.1.length+coD (dif xs ys) k:=by
   unfold y0z coD
   split
   ·exact y9x s xs I.1 I.2
   exact Nat.le_add_right _ _
  rw[List.foldl_cons,List.map_cons,List.sum_cons];omega
theorem x0b (Z:Asc xs)(hy:Asc ys)(hl:ys.length=xs.length):(z8k xs ys).length<=20*xs.length+1:=by
 have I:=y7e (dif xs ys) (dif xs ys).length 0;have O:=u0f Z hy hl (z1l (dif xs ys)).reverse ([],0) λk D=>x6p hl (List.mem_reverse.1 D);have h2:=x6k Z hy hl (z1l (dif xs ys)) ((z1l (dif xs ys)).reverse.foldl (upS xs (dif xs ys)) ([],0)) λk D=>x6p hl D;have h3:=y0o ((z1l (dif xs ys)).foldl (y0z xs (dif xs ys)) ((z1l (dif xs ys)).reverse.foldl (upS xs (dif xs ys)) ([],0))) 0;have h4:(((z1l (dif xs ys)).reverse).map (coU (dif xs ys))).sum=((z1l (dif xs ys)).map (coU (dif xs ys))).sum:=by rw[List.map_reverse,List.sum_reverse]
 rw[h4]at O;rw[z5c hl]at I;have h5:((z1l (dif xs ys)).map (j1b (dif xs ys))).sum<=20*xs.length:=by unfold z1l;rw[z5c hl];exact I
 have h6:=v3a (dif xs ys) (z1l (dif xs ys));unfold z8k;simp only[List.length_nil]at O;omega
end
section
variable {l:List Int} {i a b:Nat} {front:Bool}
theorem x9e (hl:Asc l)(h8:l.length<=8)(hz:1<=a/\1<=b/\a+b<=4)(D:i+a+b<=l.length)(hf:y3n l i a b front):(y2z l i a b front).length<=400:=by
 obtain⟨O,Z⟩:=x1w hl hz D hf;have h3:=z4l (front:=front) D;have I:=y2x (front:=front) D;have h5:=x0b hl O h3;have h6:=x0b Z hl (by rw[I]);have h7:(x7a l i a b front).length<=8:=by
  unfold x7a;split<;>(rw[List.length_drop,List.length_take];omega)
 rw[I]at h6;unfold y2z z7s;simp only[List.length_append,List.length_map,List.length_cons,List.length_nil];omega
theorem v3t (hl:Asc l)(I:l.length<=8)(O:1<=a/\1<=b/\a+b<=4)(D:i+a+b<=l.length)(hf:y3n l i a b front):(y2z l i a b front).length<=700:=Nat.le_trans (x9e hl I O D hf) oo
theorem j7j (hl:Asc l)(I:1<=a/\1<=b/\a+b<=4)(D:i+a+b<=l.length)(hf:y3n l i a b front):x3m l i a b front=0/\z5d l i a b front=y2z l i a b front:=by
 have e:x3m l i a b front=0:=by
  unfold x3m;rw[if_neg (λh=>h hl),if_neg (λh=>h (by unfold y7c;omega)),if_neg oo,if_pos (by simpa using hf)]
 exact⟨e,by unfold z5d;rw[if_pos e];simp⟩
theorem j1n (hl:Asc l)(I:1<=a/\1<=b/\a+b<=4)(D:i+a+b<=l.length)(hf:¬y3n l i a b front):x3m l i a b front=15/\z5d l i a b front=[]:=by
 have e:x3m l i a b front=15:=by
  unfold x3m;rw[if_neg (λh=>h hl),if_neg (λh=>h (by unfold y7c;omega)),if_neg oo,if_neg (by simpa using hf)]
 exact⟨e,by unfold z5d;rw[if_neg (by rw[e];decide)]⟩
end
def z5C (i a b k:Nat):Nat:=if i<=k/\k<i+b then k+a else k
def prN (S:Nat->List LId)(i a b m n x:Nat):Nat:=y8i S i m*y8i S (i+a) b+(S (i+m)).length*y8i S (i+a) n+x*(S (i+a+n)).length
theorem x9u (S:Nat->List LId)(i:Nat):y8i S i 0=0:=rfl
theorem k2t (S:Nat->List LId)(i a b:Nat):prN S i a b 0 0 0=0:=by simp[prN,x9u]
theorem k3t (S:Nat->List LId)(i a b m n x:Nat):prN S i a b m n x+(S (i+a+n)).length=prN S i a b m n (x+1):=by unfold prN;rw[Nat.succ_mul];omega
theorem k2w (S:Nat->List LId)(i a b m n:Nat):prN S i a b m n (S (i+m)).length=prN S i a b m (n+1) 0:=by unfold prN;rw[y8f,Nat.mul_add];omega
theorem k3h (S:Nat->List LId)(i a b m:Nat):prN S i a b m b 0=prN S i a b (m+1) 0 0:=by unfold prN;rw[y8f,Nat.add_mul,x9u];omega
theorem j3v (S:Nat->List LId)(i a b:Nat):prN S i a b a 0 0=y8i S i a*y8i S (i+a) b:=by unfold prN;rw[x9u];omega
theorem x2c {S:Nat->List LId}{L i:Nat}(h:∀k,k<L->(S k).length<=4):∀n,i+n<=L->y8i S i n<=4*n
 | 0,_=>by rw[x9u];omega
 | n+1,hn=>by
  have D:=x2c (L:=L) (i:=i) h n oo
  have I:=h (i+n) oo
  rw[y8f];omega
theorem j9p {S:Nat->List LId}{L i a b m n x:Nat}(h:∀k,k<L->(S k).length<=4)(hz:a+b<=4)(hL:i+a+b<=L)(hm:m<a)(hn:n<b)(O:x<=4):prN S i a b m n x<=400:=by
 have h1:=x2c (L:=L) (i:=i) h m oo;have h2:=x2c (L:=L) (i:=i+a) h b oo;have h3:=x2c (L:=L) (i:=i+a) h n oo;have D:=h (i+m) oo;have I:=h (i+a+n) oo;have Z:y8i S i m*y8i S (i+a) b<=16*16:=Nat.mul_le_mul oo oo;have e2:(S (i+m)).length*y8i S (i+a) n<=4*16:=Nat.mul_le_mul D oo;have e3:x*(S (i+a+n)).length<=4*4:=Nat.mul_le_mul O I;unfold prN;omega
theorem u8t {ps:List IQ}{l:List Int}{f:Int->List LId}{k:Nat}(h:ps.map Prod.snd=l.map f)(D:k<l.length):(ps.getD k iq0).2=f (l.getD k 0):=by
 have hl:ps.length=l.length:=by have:=congrArg List.length h;rwa [List.length_map,List.length_map]at this
 have e:=congrArg (λz=>z.getD k []) h;simp only[List.getD,List.getElem?_map,List.getElem?_eq_getElem D,List.getElem?_eq_getElem (show k<ps.length by omega),Option.map_some,Option.getD_some]at e ⊢;exact e
theorem u9b {ps:List IQ}{l:List Int}{f:Int->List LId}(h:ps.map Prod.snd=l.map f):ps.length=l.length:=by have:=congrArg List.length h;rwa [List.length_map,List.length_map]at this
end Go.G28
namespace Go.G26
open Go.Lw Go.G21 Go.G08
end Go.G26
namespace Go.G26
open Go.Lw Go.G21 Go.G08
section
variable {S S':List Nat} {J T T' base g:Nat} {w w':World}
end
structure TyP where
  S:Nat
  I:Nat
  F:Nat
  L:Nat
  J:Nat
structure TyP.Ok (τ:TyP):Prop where
  fs:τ.F≠τ.S
  fi:τ.F≠τ.I
  fl:τ.F≠τ.L
  fj:τ.F≠τ.J
  sl:τ.S≠τ.L
  si:τ.S≠τ.I
  sj:τ.S≠τ.J
  il:τ.I≠τ.L
  ij:τ.I≠τ.J
  lj:τ.L≠τ.J
structure WdA where
  gf:Nat
  go:Nat
  gl:Nat
  gO:Nat
section
variable {τ:TyP} {tv:Value} {wS w w' w1:World} {a:WdA} {q q':BdQ} {rk:Int} {st:St}
end
end Go.G26
namespace Go.Proofs.YtagnnbcnnmacmaaGreatDoor
open Go.Lw Go.G21 Go.G08 Go.G26 _root_.Go.Proofs.Tryz
end Go.Proofs.YtagnnbcnnmacmaaGreatDoor
namespace Go.G09
open Go.Lw Go.G21 Go.G08
end Go.G09
namespace Go.Proofs.YtagnnbcnnmacmaaGreatDoor
open Go.Lw Go.G21 Go.G08 Go.G09 Go.G26 _root_.Go.Proofs.Tryz
end Go.Proofs.YtagnnbcnnmacmaaGreatDoor
namespace Go.Lw
section
variable {P:Program} {n:Nat} {L:List (Nat×Value)} {w:World} {v:Value} {a:Act} {g T:Nat} {cs:List Value}
end
end Go.Lw
namespace Go.Proofs.YtagnnbcnnmacmaaGreatDoor
open Go.Lw Go.G21 Go.G08 Go.G09 Go.G26 _root_.Go.Proofs.Tryz
open Go.Lw Go.G21 Go.G08 _root_.Go.Proofs.Tryz
open Go.Lw Go.G21 Go.G08 Go.G09 Go.G26 _root_.Go.Proofs.Tryz
end Go.Proofs.YtagnnbcnnmacmaaGreatDoor
namespace Go.G26
open Go.Lw Go.G21 Go.G08 Go.G09
end Go.G26
namespace Go.Proofs.YtagnnbcnnmacmaaGreatDoor
open Go.Lw Go.G21 Go.G08 Go.G09 Go.G26 _root_.Go.Proofs.Tryz
theorem j2e (x y:LId)(w0:World):Rets prog 40 #[.agg #[.int .u8 x.y,.int .i64 x.n],.agg #[.int .u8 y.y,.int .i64 y.n]] w0 λr w'=>r=.agg #[.int .u8 (⟨(z3a (⟨x,y,0⟩:Cx)).1,(z3a (⟨x,y,0⟩:Cx)).2,0⟩:Cx).a.y,.int .i64 (⟨(z3a (⟨x,y,0⟩:Cx)).1,(z3a (⟨x,y,0⟩:Cx)).2,0⟩:Cx).a.n,.int .u8 (⟨(z3a (⟨x,y,0⟩:Cx)).1,(z3a (⟨x,y,0⟩:Cx)).2,0⟩:Cx).b.y,.int .i64 (⟨(z3a (⟨x,y,0⟩:Cx)).1,(z3a (⟨x,y,0⟩:Cx)).2,0⟩:Cx).b.n,.int .i64 (⟨(z3a (⟨x,y,0⟩:Cx)).1,(z3a (⟨x,y,0⟩:Cx)).2,0⟩:Cx).n]/\Fr [] w0 w':=by
 refine we [(0,.agg #[.int .u8 x.y,.int .i64 x.n]),(1,.agg #[.int .u8 y.y,.int .i64 y.n])] func40 U ntmps40 U (.c2 U U) (sr (bx U (λg2 w1 a0 D q1 z1=>(bx U (λg3 w2 a1 I q2 z2=>(al x9c U (λg4 w3 a2 O q3 z3=>(nn (sq (sr ?_))))))))));replace D:=D.ext (q2.n1 q3);refine z0m U D z3x ?_;replace I:=I.ext q3;refine z0m U I z3x (cl (ev2 U) j6k (y0l x y _) U ?_);rintro _ w4 ⟨rfl,Z⟩;refine gt' U (nn (cd U (λc0=>?_) (λc0=>?_)));refine rg ?_;replace I:=I.ext Z;refine z0m U I z3x ?_;replace D:=D.ext Z;refine z0m U D z3x (z0k (vs:=[_,_]) U D y3o (λw5 D q5 z5=>?_));replace I:=I.fr q5;refine z0k (vs:=[_,_]) U I y3o (λw6 I q6 z6=>(nl (tn (sr ?_))));replace D:=D.fr q6;refine z0m U D z3x (z0m U I z3x (z1z (cs:=[_,_,_,_,_]) (ev2 U) u9z (z0f U (z0f U z0t)) U ?_));replace O:=((O.ext Z).fr q5).fr q6;exact z0k (vs:=[_,_,_,_,_]) U O v4p (λw7 O q7 z7=>(nn (rt (rC results40 U O x1t  ⟨_,rfl,by simp only[z3a];first|rw[if_pos c0]|rw[if_neg c0],(q1.z6 q2 q3 Z q5 q6 q7)⟩))));refine sk (tn (sr ?_));replace D:=D.ext Z;refine z0m U D z3x ?_;replace I:=I.ext Z;refine z0m U I z3x (z1z (cs:=[_,_,_,_,_]) (ev2 U) u9z (z0f U (z0f U z0t)) U ?_);replace O:=O.ext Z;exact z0k (vs:=[_,_,_,_,_]) U O v4p (λw8 O q8 z8=>(kpL [(4,_)] (.cons U .nil) (nn (rt (rC results40 U O x1t  ⟨_,rfl,by simp only[z3a];first|rw[if_pos c0]|rw[if_neg c0],(q1.z4 q2 q3 Z q8)⟩)))))
theorem x2o {a b:LId}:z5m a b=0↔a=b:=by
 constructor;intro h;unfold z5m at h;obtain⟨y,n⟩:=a;obtain⟨I,D⟩:=b;simp only at h;split at h;omega;split at h;omega;split at h;omega;split at h;omega;rw[show y=I by omega,show n=D by omega];rintro rfl;unfold z5m;simp
theorem v0b {c:Cx}{a b:LId}{n:Int}:y9o c ⟨a,b,n⟩=0↔isC a b c=true:=by
 unfold y9o isC;simp only[decide_eq_true_eq];by_cases h:z5m c.a a=0;rw[if_neg (not_not_intro h),x2o];exact⟨λe=>⟨x2o.1 h,e⟩,λe=>e.2⟩;rw[if_pos h];exact⟨λe=>absurd e h,λe=>absurd (x2o.2 e.1) h⟩
theorem u5v {l:List Cx}{a b:LId}{i:Nat}(D:i<l.length)(h:isC a b (l.getD i cx0)=true)(hn:∀j,j<i->isC a b (l.getD j cx0)=false):z5n l a b=(l.getD i cx0).n:=by
 unfold z5n;rw[List.getD,List.getElem?_eq_getElem D,Option.getD_some]at h ⊢;have:l.find? (isC a b)=some l[i]:=by
  rw[List.find?_eq_some_iff_getElem];refine⟨h,i,D,rfl,λj I=>?_⟩;have:=hn j I;rw[List.getD,List.getElem?_eq_getElem oo,Option.getD_some]at this;rw[this];rfl
 rw[this];rfl
theorem z9t {l:List Cx}{a b:LId}(hn:∀j,j<l.length->isC a b (l.getD j cx0)=false):z5n l a b=0:=by
 unfold z5n;rw[List.find?_eq_none.2 λc I=>?_];rfl;obtain⟨j,D,rfl⟩:=List.getElem_of_mem I;have:=hn j D;rw[List.getD,List.getElem?_eq_getElem D,Option.getD_some]at this;rw[this];decide
theorem j9l (q:FbQ)(x y:LId)(w0:World)(hF:FbAt w0 q)(a6:q.cs.length<=1000000000):Rets prog 14 #[.agg #[.slice q.t.1 q.t.2.1 q.t.2.2,.slice q.c.1 q.c.2.1 q.c.2.2,.slice q.h.1 q.h.2.1 q.h.2.2,.slice q.f.1 q.f.2.1 q.f.2.2],.agg #[.int .u8 x.y,.int .i64 x.n],.agg #[.int .u8 y.y,.int .i64 y.n]] w0 λr w'=>r=.int .i64 (lkC q.cs x y)/\Fr [] w0 w':=by
 have a7:=z2g hF.c;refine we [(0,.agg #[.slice q.t.1 q.t.2.1 q.t.2.2,.slice q.c.1 q.c.2.1 q.c.2.2,.slice q.h.1 q.h.2.1 q.h.2.2,.slice q.f.1 q.f.2.1 q.f.2.2]),(1,.agg #[.int .u8 x.y,.int .i64 x.n]),(2,.agg #[.int .u8 y.y,.int .i64 y.n])] func14 U ntmps14 U (.c3 U U U) ?_;have a3:=hF;refine sr (bx U (λg3 w1 a8 Z q1 z1=>(bx U (λg4 w2 a9 a0 q2 z2=>(bx U (λg5 w3 b0 a4 q3 z3=>(asg U (nn (sr ?_)))))))));replace a0:=a0.ext q3;refine z0m U a0 z3x (z0m U a4 z3x (cl (ev2 U) (mkC func40) (j2e x y _) U ?_));rintro _ w4 ⟨rfl,q4⟩;have z4:=q4.size;refine al x9c U (λg7 w5 b1 I q5 z5=>?_);refine z0k (vs:=[_,_,_,_,_]) U I v4p (λw6 I q6 z6=>?_) (h1:=(by first|(simp[Value.oneCell',S];done)|exact z5p.one _));refine nn (sq (sr (fad U x0i ?_)));replace Z:=(Z.ext (q2.n3 q3 q4 q5)).fr q6;refine z0i U Z U j6d (lnS U underlying41 (mv U (nn (bl (lpK (ι:=Nat) [(7,_),(14,_),(15,_)] (λi=>[(16,.int .i64 (i:Int))]) (λi w'=>Fr [] w6 w'/\i<=q.cs.length/\∀j,j<i->isC (z3a (⟨x,y,0⟩:Cx)).1 (z3a (⟨x,y,0⟩:Cx)).2 (q.cs.getD j cx0)=false) (λi=>q.cs.length-i) 0 (.c4 U U U U) ⟨Fr.refl _ _,⟨Nat.zero_le _,λj h=>absurd h oo⟩⟩ ?_)))));rintro i w7 ⟨q7,⟨hi,a1⟩⟩;have z7:=q7.size;refine kpC [(7,_),(14,_),(15,_),(16,_)] (.c4 U U U U) (sr (lt' U (nn (sq (cd U (λc0=>?_) (λc0=>?_))))));refine sk (tn (sq (bl (sr ?_))));replace hF:=a3.ext (q1.z6 q2 q3 q4 q5 q6 q7);refine z0x (cx0) U hF.c U u4q z1m (λa5 a2=>?_);refine z1t U (a2 _ hF.c) x1t (al x9c U (λg9 w8 b2 D q8 z8=>?_));refine z0k (vs:=[_,_,_,_,_]) U D v4p (λw9 D q9 z9=>?_) (h1:=(by first|(simp[Value.oneCell',S];done)|exact z5p.one _));refine nn (sr (z0m U D x1t ?_));replace I:=(I.ext (q7.n1 q8)).fr q9;refine z0m U I x1t (cl (ev2 U) (mkC func41) (v1n (q.cs.getD i cx0) (⟨(z3a (⟨x,y,0⟩:Cx)).1,(z3a (⟨x,y,0⟩:Cx)).2,0⟩:Cx) _) U ?_);rintro _ b3 ⟨rfl,O⟩;have b4:=O.size;refine eq' U (nn (cd U (λc1=>?_) (λc1=>?_)));refine sr (fad U y8c ?_);replace D:=D.ext O;refine z0i U D U na3 (asg U (kpL [(6,_)] (.cons U .nil) (nn (rt (rb (tr (tr (rb (tr (r1 results14 U ?_))))))))));exact⟨_,rfl,congrArg (Value.int .i64) (u5v oo (v0b.1 c1) a1).symm,((((q1.z6 q2 q3 q4 q5 q6 q7).n1 q8).z1 q9).n1 O)⟩;refine sk (bn' (tn (rg (z0q U (wi6 oo) (mv U (nl ?_))))));exact lpE (i+1) (.c4 U U U U) ⟨(q7.z3 q8 q9 O),⟨oo,λj h=>by
  by_cases e:j=i;subst e;exact Bool.eq_false_iff.2 λh=>c1 (v0b.2 h);exact a1 j oo⟩⟩ oo
 obtain rfl:i=q.cs.length:=by omega
 refine ex (te (te (xh (tn (sr (asg U (nn (rt (r1 results14 U ?_)))))))));exact⟨_,rfl,congrArg (Value.int .i64) (z9t (λj hj=>a1 j oo)).symm,(q1.z6 q2 q3 q4 q5 q6 q7)⟩
open Go.Lw Go.G21 Go.G08 Go.G09 Go.G26 Go.G28 _root_.Go.Proofs.Tryz
theorem ag25:z4i prog 25 5:=⟨λ_=>kr0,λ_=>kr0⟩
theorem v8n:z0y prog 25 4 4:=λ_ _=>kr0
theorem u1q (v:Value)(xs:List (Int×Int×Int))(yI yA yB:Int)(fr:Bool)(w0:World)(hG:Glob w0)(f1:StT w0)(hs:Sl (Enc.tri .u8) w0 v xs)(hb:∀y∈xs,(0<=y.1/\y.1<=255)/\(0<=y.2.1/\y.2.1<=255)/\(0<=y.2.2/\y.2.2<=255))(r4:0<=yI/\yI<=255)(p9:0<=yA/\yA<=255)(q0:0<=yB/\yB<=255):Rets prog 3 #[.agg #[v,.int .u8 yI,.int .u8 yA,.int .u8 yB,.bool fr]] w0 λr w'=>r=.bool true/\Fr [] w0 w':=by
 have f6:=hG.sz;refine we [(0,.agg #[v,.int .u8 yI,.int .u8 yA,.int .u8 yB,.bool fr])] func3 U ntmps3 U (.cons U .nil) ?_;have h6:=hG;have g9:=f1;have p6:=hs;refine sr (bx U (λg1 w1 x3 b3 q1 z1=>(asg U (nn (sr (z0m U b3 ag25 ?_))))));replace hs:=p6.ext q1;refine cl (ev1 U) (mkC func6) (k1s v xs yI yA yB fr _ hs hb r4 p9 q0) U ?_;rintro _ w2 ⟨v1,v2,O,a',b',r5,f,g',rfl,i9,j0,p2,q2⟩;obtain⟨AF,cF,rfl,x0⟩:=i9.sl.form;obtain⟨AG,cG,rfl,x1⟩:=j0.sl.form;have hF:=i9.sl;have f6:=j0.sl;clear i9 j0;have z2:=q2.size;have h5:=hF;have j9:=f6;refine mv U (xt U (xt U (xt U (xt U (xt U (xt U (asg U (asg U (asg U (asg U (asg U (asg U (kpL [(1,_),(3,_),(4,_),(5,_),(6,_),(7,_),(8,_)] (.c7 U U U U U U U) (nn (sq (sr (mv U (nt' U (nn (cd U (λc0=>?_) (λc0=>?_)))))))))))))))))))));refine sr ?_;replace hG:=h6.ext (q1.n1 q2);refine cl z0g (mkC func7) (y7i _ hG) U ?_;rintro _ w3 ⟨rfl,q3⟩;have z3:=q3.size;refine asg U (kpL [(2,_)] (.cons U .nil) (nn (rt (tr (r1 results3 U ?_)))));exact⟨_,rfl,by first|rfl|exact congrArg Value.bool (decide_eq_true sp0),(q1.n2 q2 q3)⟩;have o8:r5=true:=by simpa using c0
 obtain⟨a8,hz,d0,f2,l0,o7⟩:=p2 o8;have e0:∀i,i<f.length->1<=f.getD i 0/\f.getD i 0<=40:=λi hi=>⟨(a8 i hi).1,(a8 i hi).2.1⟩;have i8:∀j,j<f.length->1<=g'.getD j 0/\g'.getD j 0<=4:=λj hj=>by have:=o7 _ (z1b (d:=0) (show j<g'.length by omega));omega
 refine sk (tn (sr (mv U (mv U (mv U (mv U (fad U v8n ?_)))))));replace b3:=b3.ext q2;refine z0i U b3 U na4 (cl (z0a U (z0a U (z0a U (z0a U (z0a U z0g))))) (mkC func8) (y5n _ f O a' b' fr _ hF) U ?_);rintro _ w4 ⟨AX,rfl,l2,q4⟩;have hX:=l2.sl;clear l2;have z4:=q4.size;have o0:=hX;refine mv U (xt U (xt U (asg U (asg U (kpL [(1,_),(3,_),(4,_),(5,_),(6,_),(7,_),(9,_),(10,_)] (.c8 U U U U U U U U) (nn (sq (sr (mv U (mv U (mv U (mv U (fad U v8n ?_)))))))))))));replace b3:=b3.ext q4;refine z0i U b3 U na4 ?_;replace hF:=h5.ext q4;refine cl (z0a U (z0a U (z0a U (z0a U (z0a U z0g))))) (mkC func9) (v5j _ f O a' b' fr _ hF a8 hz d0) U ?_;rintro _ w5 ⟨rfl,q5⟩;have z5:=q5.size;refine nt' U (kpL [(1,_),(3,_),(4,_),(5,_),(6,_),(7,_),(9,_),(10,_),(54,_)] (.d8 U U U U U U U U (.cons U .nil)) (nn (cd U (λc1=>?_) (λc1=>?_))));obtain⟨j6,k1⟩:=j1n a8 hz d0 c1;refine sr (mv U (eq' U (mv U (gs 57 U (λg0=>?_) (λhh=>absurd (by exact j6) hh)))));refine gY U (mv U (gY U (lnS U underlying30 (gY U (eq' U (pkt U (mv U (gs 62 U (λg1=>?_) (λhh=>absurd (by rw[k1];rfl) hh)))))))));refine gY U ?_;replace hG:=h6.ext (q1.n3 q2 q4 q5);refine cl z0g (mkC func7) (y7i _ hG) U ?_;rintro _ w6 ⟨rfl,q6⟩;have z6:=q6.size;refine pkt U (asg U (kpL [(2,_)] (.cons U .nil) (nn (rt (tr (r1 results3 U ?_))))));exact⟨_,rfl,by first|rfl|exact congrArg Value.bool (decide_eq_true sp0),(q1.n4 q2 q4 q5 q6)⟩;have f3:y3n f O a' b' fr:=Classical.not_not.1 c1;obtain⟨hE,k2⟩:=j7j a8 hz d0 f3;have v8:(z5d f O a' b' fr).length<=700:=by rw[k2];exact v3t a8 f2 hz d0 f3
 refine sk (tn (sr (mv U (mv U ?_))));replace hF:=h5.ext (q4.n1 q5);replace f6:=j9.ext (q4.n1 q5);replace f1:=g9.ext (q1.n3 q2 q4 q5);refine cl (ev2 U) (mkC func10) (j0h _ _ f g' _ hF f6 a8 f2 l0 i8 f1) U ?_;rintro _ w7 ⟨⟨s,rfl,hK,n8⟩,q7⟩;have hS:=hK.at;clear hK;obtain⟨p,q,Sk,hp,hq,p1,vp,vq,p3,x5,l5,n9,-,-,o1,p7,o5,hfl⟩:=v8f (g:=g') a8 f2 l0 i8 hz d0 f3;have hP:=n8 p hp;have f7:∀j,j<f.length->(Sk j).length<=4:=λj hj=>by have h1:=n9 j hj;have h2:=i8 j hj;omega
 have z7:=q7.size;have h7:=hS;refine al u9y U (λu5 w8 s9 a3 q8 z8=>(z0k (vs:=[_,_,_,_,_,_,_,_]) U a3 v1f (λw9 a3 q9 z9=>(nn (sr (z0m U a3 x6u (mv U ?_)))))));replace hS:=h7.ext (q8.z1 q9);replace hX:=o0.ext (q5.z3 q7 q8 q9);replace f1:=g9.ext (q1.z6 q2 q4 q5 q7 q8 q9);refine cl (ev2 U) (mkC func11) (v8i _ (z5d f O a' b' fr) _ hS hP oo hX f1) U ?_;rintro _ y5 ⟨⟨s2,rfl,k0,k4,-⟩,q10⟩;have a2:=k0.k.at;clear k0;have h4:z8b 0 (nrm p) (z5d f O a' b' fr)=.ok q:=by rw[p1,k2];exact hq
 have e8:=k4 q h4;obtain⟨p4,y2⟩:=v0l h4;clear k4;have p5:s2.rk=0:=e8.rkE.trans p3;have f5:=hP.BE;have d9:=e8.BE;have j4:BdOk s.q.p:=f5▸hP.v.inv.B;have j5:BdOk s2.q.p:=d9▸e8.v.inv.B;obtain⟨⟨o4,o3⟩,o2,k6⟩:=z4b j4;obtain⟨⟨k8,k7⟩,k5,h8⟩:=z4b j5;have k9:s2.fb.cs=y2k q.cr:=e8.csE;have x2:s2.fb.cs.length=q.cr.length:=by rw[k9,(z3i _).length_eq]
 have o6:q.cr.length<=1000000000:=by have:=e8.c;omega
 have s7:=z2g a2.f.c;have A5:=q10.size;have e9:=a2;refine mv U (xt U (xt U (xt U (al u9y U (λu6 y6 t8 Z b5 A6=>(z0k (vs:=[_,_,_,_,_,_,_,_]) U Z v1f (λy7 Z b6 A7=>(asg U (asg U (kpL [(1,_),(3,_),(5,_),(6,_),(7,_),(9,_),(10,_),(11,_),(12,_),(14,_)] (.d8 U U U U U U U U (.c2 U U)) (nn (sq (sr (mv U (ne' U (mv U (gs 77 U (λhh=>absurd hh (by exact λh=>h hE)) (λg2=>(gY U (mv U (gY U (ne' U (pkf U (mv U (gs 81 U (λhh=>absurd hh (by exact λh=>h p4)) (λg3=>?_))))))))))))))))))))))))));refine gY U (fad U x5m (gY U (z0i U Z U na3 (gY U (ne' U (pkf U (mv U (gs 86 U (λhh=>absurd hh (by exact λh=>h p5)) (λg4=>(gY U (mv U (gY U (u8o U underlying30 U (gY U (mv U (gY U (lnS U underlying30 (gY U (ne' U (pkf U (kpL [(1,_),(3,_),(5,_),(6,_),(7,_),(11,_),(12,_),(92,_)] (.c8 U U U U U U U U) (nn (cd U (λc2=>?_) (λc2=>?_))))))))))))))))))))))));exact absurd U c2;refine sk (tn (sq ?_));replace hF:=h5.ext ((q4.z6 q5 q7 q8 q9 q10 b5).z1 b6);replace hS:=h7.ext (q8.z4 q9 q10 b5 b6);replace a3:=(a3.ext (q10.n1 b5)).fr b6;replace a2:=e9.ext (b5.z1 b6);intro a h;refine z0h none (λwb w'=>Fr [] wb w') z2y ?_;intro l6 a9;have A8:=a9.size;replace hF:=hF.ext a9;replace hS:=hS.ext a9;replace a3:=a3.ext a9;replace a2:=a2.ext a9;replace Z:=Z.ext a9;have hC:Fr [] l6 l6:=Fr.refl _ _;have j7:=hF;have f0:=hS;have a7:=a3;have b1:=a2;have a1:=Z;refine z0z 0 h U (λ_ hw=>a7.ext hw) x6u U λa h=>z0d 1 h U λa h=>z0z 3 h U (λ_ hw=>a1.ext hw) x6u U λa h=>z0d 4 h U λa h=>z0e 2 U (z0n h (z0a U (z0a U z0g)) (mkC func12) (u8n s _ f _ hS j4 hF f2 e0) ?_);rintro _ y8 ⟨⟨b4,I,a0,h0⟩,q14⟩ a h;have A9:=q14.size;replace hF:=hF.ext q14;replace hS:=hS.ext q14;replace a3:=a3.ext q14;replace a2:=a2.ext q14;replace Z:=Z.ext q14;replace hC:=hC.next q14;obtain⟨u1,u3,rfl,s5⟩:=I.sl.form;refine z0b (z0e 5 U (z0n h (z0a U (z0a U z0g)) (mkC func12) (u8n s2 _ f _ a2 j5 hF f2 e0) ?_));rintro _ r7 ⟨⟨j1,b2,b7,h3⟩,hq⟩ a h;have B0:=hq.size;replace hF:=hF.ext hq;replace hS:=hS.ext hq;replace a3:=a3.ext hq;replace a2:=a2.ext hq;replace Z:=Z.ext hq;replace I:=I.ext hq;replace a0:=a0.ext hq;replace hC:=hC.next hq;have e3:=hq;obtain⟨u2,u4,rfl,s6⟩:=b2.sl.form;have t9:=u9b h0;have u0:=u9b h3;have e2:∀j,j<f.length->(b4.getD j iq0).2=Sk j:=λj hj=>by rw[u8t h0 hj,f5,u8i (e0 j hj)];exact l5.at_ j hj
 have l3:∀j,j<f.length->(j1.getD j iq0).2=Sk (swC O a' b' j):=λj hj=>by rw[u8t h3 hj,d9,u8i (e0 j hj)];exact o1 j hj
 have l4:∀j,j<f.length->(b4.getD j iq0).1.2.1=(Sk j).length:=λj hj=>(z2g (z1p a0.at j)).trans (by rw[e2 j hj]);refine z0b (z0e 6 U (z0s h U λa h=>?_));refine z0b (z0e 7 U (z0s h U λa h=>?_));refine z0b (z0r ?_);clear hC j7 f0 a7 b1 a1;refine bk (h.sub (L':=[(1,_),(3,_),(5,_),(6,_),(7,_),(11,_),(12,_),(15,_),(16,_)]) (.d8 U U U U U U U U (.cons U .nil))) (tn (sr (asg U (nn (jn (ι:=Unit) [(3,_),(5,_),(6,_),(7,_),(11,_),(12,_),(15,_),(16,_)] (λ_j=>[(17,.int .i64 (if fr=true then (1:Int) else -1))]) (λ_j w'=>Fr [] r7 w') (.c8 U U U U U U U U) ?_ ?_)))));refine sr (fad U v8n ?_);replace b3:=((((b3.ext (q5.n2 q7 q8)).fr q9).ext (q10.n1 b5)).fr b6).ext (a9.n2 q14 e3);refine z0i U b3 U na4 (nn (cd U (λc3=>?_) (λc3=>?_)));refine rg (asg U (nl ?_));exact jE (()) (.d8 U U U U U U U U (.cons (congrArg (λz=>some (Value.int .i64 z)) (by first|exact(if_pos c3).symm|exact(if_neg c3).symm)) .nil)) (Fr.refl _ _);refine sk ?_;exact jE (()) (.d8 U U U U U U U U (.cons (congrArg (λz=>some (Value.int .i64 z)) (by first|exact(if_pos c3).symm|exact(if_neg c3).symm)) .nil)) (Fr.refl _ _);rintro _j r8 a6;have B1:=a6.size;refine kpC [(3,_),(5,_),(6,_),(7,_),(11,_),(12,_),(15,_),(16,_),(17,_)] (.d8 U U U U U U U U (.cons U .nil)) (sq (sr (asg U (nn (bl (lpK (ι:=Nat) [(3,_),(5,_),(6,_),(7,_),(11,_),(12,_),(15,_),(16,_),(17,_)] (λk=>[(18,.int .i64 (k:Int))]) (λk w'=>Fr [] r8 w'/\k<=f.length) (λk=>f.length-k) 0 (.d8 U U U U U U U U (.c2 U U)) ⟨Fr.refl _ _,oo⟩ ?_))))));rintro k l7 ⟨a5,x4⟩;have B2:=a5.size;refine kpC [(3,_),(5,_),(6,_),(7,_),(11,_),(12,_),(15,_),(16,_),(17,_),(18,_)] (.d8 U U U U U U U U (.c2 U U)) (sq (sr (mv U (mv U (lnS U underlying26 (lt' U (nn (cd U (λc4=>?_) (λc4=>?_)))))))));have l1:k<f.length:=by omega
 have p8:swC O a' b' k<f.length:=(y5e (a:=a') d0 l1).1;have o9:(j1.getD k iq0).2=(b4.getD (swC O a' b' k) iq0).2:=by rw[l3 k l1,e2 _ p8]
 refine sk (tn (sq (bl (sr (mv U (asg U (nn (jn (ι:=Unit) [(3,_),(5,_),(6,_),(7,_),(11,_),(12,_),(15,_),(16,_),(17,_),(18,_)] (λ_j=>[(19,.int .i64 ((z5C O a' b' k):Int))]) (λ_j w'=>Fr [] l7 w') (.d8 U U U U U U U U (.c2 U U)) ?_ ?_))))))));refine sr (mv U (mv U (ge' U (mv U (gs 111 U (λg5=>?_) (λg5=>?_))))));refine gY U (mv U (gY U (mv U (gY U (mv U (gY U (z0q U (wi6 oo) (gY U (lt' U (pkt U (kpL [(3,_),(5,_),(6,_),(7,_),(11,_),(12,_),(15,_),(16,_),(17,_),(18,_),(19,_),(117,_)] (.d8 U U U U U U U U (.c4 U U U U)) (nn (cd U (λc5=>?_) (λc5=>?_))))))))))))));refine rg (mv U (mv U (z0q U (wi6 oo) (asg U (nl ?_)))));exact jE (()) (.d8 U U U U U U U U (.c3 U U (congrArg (λz=>some (Value.int .i64 z)) (by unfold z5C;split<;>omega)))) (Fr.refl _ _);refine sk ?_;exact jE (()) (.d8 U U U U U U U U (.c3 U U (congrArg (λz=>some (Value.int .i64 z)) (by unfold z5C;split<;>omega)))) (Fr.refl _ _);refine gN U (gN U (gN U (gN U (gN U (pkf U (kpL [(3,_),(5,_),(6,_),(7,_),(11,_),(12,_),(15,_),(16,_),(17,_),(18,_),(19,_),(117,_)] (.d8 U U U U U U U U (.c4 U U U U)) (nn (cf U (sk ?_)))))))));exact jE (()) (.d8 U U U U U U U U (.c3 U U (congrArg (λz=>some (Value.int .i64 z)) (by unfold z5C;split<;>omega)))) (Fr.refl _ _);rintro _j r9 e4;have B3:=e4.size;refine kpC [(3,_),(5,_),(6,_),(7,_),(11,_),(12,_),(15,_),(16,_),(17,_),(18,_),(19,_)] (.d8 U U U U U U U U (.c3 U U U)) (jn (ι:=Unit) [(3,_),(5,_),(6,_),(7,_),(11,_),(12,_),(15,_),(16,_),(17,_),(18,_)] (λ_j=>[(19,.int .i64 ((swC O a' b' k):Int))]) (λ_j w'=>Fr [] r9 w') (.d8 U U U U U U U U (.c2 U U)) ?_ ?_);refine sr (mv U (mv U (mv U (z0q U (wi6 oo) (ge' U (mv U (gs 126 U (λg6=>?_) (λg6=>?_))))))));refine gY U (mv U (gY U (mv U (gY U (mv U (gY U (z0q U (wi6 oo) (gY U (mv U (gY U (z0q U (wi6 oo) (gY U (lt' U (pkt U (kpL [(3,_),(5,_),(6,_),(7,_),(11,_),(12,_),(15,_),(16,_),(17,_),(18,_),(19,_),(134,_)] (.d8 U U U U U U U U (.c4 U U U U)) (nn (cd U (λc6=>?_) (λc6=>?_))))))))))))))))));refine rg (mv U (mv U (z1u U (wi6 oo) (asg U (nl ?_)))));exact jE (()) (.d8 U U U U U U U U (.c3 U U (congrArg (λz=>some (Value.int .i64 z)) (by simp only[z5C,swC];(repeat' split)<;>omega)))) (Fr.refl _ _);refine sk ?_;exact jE (()) (.d8 U U U U U U U U (.c3 U U (congrArg (λz=>some (Value.int .i64 z)) (by simp only[z5C,swC];(repeat' split)<;>omega)))) (Fr.refl _ _);refine gN U (gN U (gN U (gN U (gN U (gN U (gN U (pkf U (kpL [(3,_),(5,_),(6,_),(7,_),(11,_),(12,_),(15,_),(16,_),(17,_),(18,_),(19,_),(134,_)] (.d8 U U U U U U U U (.c4 U U U U)) (nn (cf U (sk ?_)))))))))));exact jE (()) (.d8 U U U U U U U U (.c3 U U (congrArg (λz=>some (Value.int .i64 z)) (by simp only[z5C,swC];(repeat' split)<;>omega)))) (Fr.refl _ _);rintro _j y9 e5;have B4:=e5.size;refine kpC [(3,_),(5,_),(6,_),(7,_),(11,_),(12,_),(15,_),(16,_),(17,_),(18,_),(19,_)] (.d8 U U U U U U U U (.c3 U U U)) (sq ?_);intro a h;refine z0h none (λwb w'=>Fr [] wb w') z2y ?_;intro l8 e6;have B5:=e6.size;replace I:=I.ext (a6.n4 a5 e4 e5 e6);replace a0:=a0.ext (a6.n4 a5 e4 e5 e6);replace b2:=b2.ext (a6.n4 a5 e4 e5 e6);replace b7:=b7.ext (a6.n4 a5 e4 e5 e6);have hC:Fr [] l8 l8:=Fr.refl _ _;have a4:=I;have b8:=a0;have e1:=b2;have f8:=b7;refine z0d 0 h U λa h=>z0d 1 h U λa h=>z1e (p:=k) (iq0) 2 h U b2.sl U y2h U λm1 h9 a h=>z2h 3 h U (λ_ hw=>h9 _ (e1.sl.ext hw)) z8o U λa h=>z0d 4 h U λa h=>z0d 5 h U λa h=>z1e (p:=(swC O a' b' k)) (iq0) 6 h U I.sl U y2h U λm2 i0 a h=>z2h 7 h U (λ_ hw=>i0 _ (a4.sl.ext hw)) z8o U λa h=>z0e 8 U (z0n h (z0a U (z0a U z0g)) (mkC func13) (v8r _ _ (j1.getD k iq0).2 (b4.getD (swC O a' b' k) iq0).2 _ (z1p b7.at k) (z1p a0.at (swC O a' b' k)) (by rw[l3 k oo];have:=f7 (swC O a' b' k) oo;omega)) ?_);rintro _ z0 ⟨rfl,d1⟩ a h;have B6:=d1.size;replace I:=I.ext d1;replace a0:=a0.ext d1;replace b2:=b2.ext d1;replace b7:=b7.ext d1;replace hC:=hC.next d1;refine z0b (x5n 9 hC h wn U U U λa h=>z0r ?_);clear hC a4 b8 e1 f8;refine bk (h.sub (L':=[(3,_),(5,_),(6,_),(7,_),(11,_),(12,_),(15,_),(16,_),(17,_),(18,_),(147,_)]) (.d8 U U U U U U U U (.c3 U U U))) (tn (cd U (λc7=>?_) (λc7=>?_)));exact absurd o9 c7;exact sk (bn' (tn (rg (mv U (z0q U (wi6 oo) (asg U (nl (lpE ((k+1)) (.d8 U U U U U U U U (.c2 U U)) ⟨(a5.n4 e4 e5 e6 d1),oo⟩ oo))))))));refine ex (te (te (xh (tn (sr (asg U (nn (sq (sr (mv U (asg U (nn (bl ?_)))))))))))));refine lpK (ι:=Nat) [(5,_),(6,_),(7,_),(11,_),(12,_),(15,_),(17,_)] (λm=>[(21,.int .i64 ((O+m:Nat):Int)),(20,.int .i64 (prN Sk O a' b' m 0 0:Int))]) (λm w'=>Fr [] l7 w'/\m<=a') (λm=>a'-m) 0 (.d8 U U U U U U U (congrArg (λz=>some (Value.int .i64 z)) oo) (.cons (congrArg (λz=>some (Value.int .i64 z)) (by rw[k2t];rfl)) .nil)) ⟨Fr.refl _ _,oo⟩ ?_;rintro m s1 ⟨b0,x8⟩;have B7:=b0.size;refine kpC [(5,_),(6,_),(7,_),(11,_),(12,_),(15,_),(17,_),(21,_),(20,_)] (.d8 U U U U U U U U (.cons U .nil)) (sq (sr (mv U (mv U (mv U (z0q U (wi6 oo) (lt' U (nn (cd U (λc8=>?_) (λc8=>?_))))))))));have hm:m<a':=by omega
 have y0:=l4 (O+m) oo;have u7:=f7 (O+m) oo;refine sk (tn (sq (bl (sr (mv U (mv U (z0q U (wi6 oo) (asg U (nn (bl ?_))))))))));refine lpK (ι:=Nat) [(5,_),(6,_),(7,_),(11,_),(12,_),(15,_),(17,_),(21,_)] (λn=>[(22,.int .i64 ((O+a'+n:Nat):Int)),(20,.int .i64 (prN Sk O a' b' m n 0:Int))]) (λn w'=>Fr [] s1 w'/\n<=b') (λn=>b'-n) 0 (.d8 U U U U U U U U (.c2 (congrArg (λz=>some (Value.int .i64 z)) oo) U)) ⟨Fr.refl _ _,oo⟩ ?_;rintro n s3 ⟨d3,x9⟩;have B8:=d3.size;refine kpC [(5,_),(6,_),(7,_),(11,_),(12,_),(15,_),(17,_),(21,_),(22,_),(20,_)] (.d8 U U U U U U U U (.c2 U U)) (sq (sr (mv U (mv U (mv U (z0q U (wi6 oo) (mv U (z0q U (wi6 oo) (lt' U (kpL [(5,_),(6,_),(7,_),(11,_),(12,_),(15,_),(17,_),(20,_),(21,_),(22,_),(165,_)] (.d8 U U U U U U U U (.c3 U U U)) (nn (cd U (λc9=>?_) (λc9=>?_)))))))))))));have hn:n<b':=by omega
 have y1:=l4 (O+a'+n) oo;have u9:=f7 (O+a'+n) oo;refine sk (tn (sq (bl (sr (asg U (nn (bl (lpK (ι:=Nat) [(5,_),(6,_),(7,_),(11,_),(12,_),(15,_),(17,_),(21,_),(22,_)] (λx=>[(23,.int .i64 (x:Int)),(20,.int .i64 (prN Sk O a' b' m n x:Int))]) (λx w'=>Fr [] s3 w'/\x<=(Sk (O+m)).length) (λx=>(Sk (O+m)).length-x) 0 (.d8 U U U U U U U U (.c3 U U U)) ⟨Fr.refl _ _,oo⟩ ?_))))))));rintro x s4 ⟨d4,y3⟩;have B9:=d4.size;refine kpC [(5,_),(6,_),(7,_),(11,_),(12,_),(15,_),(17,_),(21,_),(22,_),(23,_),(20,_)] (.d8 U U U U U U U U (.c3 U U U)) (sq (sr (mv U (mv U (mv U ?_)))));replace I:=I.ext (a6.n4 a5 b0 d3 d4);refine z0x (p:=(O+m)) (iq0) U I.sl U y2h oo (λm3 i1=>(z1a U (i1 _ I.sl) z8o (lnS U underlying42 (lt' U (kpL [(5,_),(6,_),(7,_),(11,_),(12,_),(15,_),(17,_),(20,_),(21,_),(22,_),(23,_),(174,_)] (.d8 U U U U U U U U (.c4 U U U U)) (nn (cd U (λm9=>?_) (λm9=>?_))))))));have hx:x<(Sk (O+m)).length:=by omega
 refine sk (tn (sq (bl (sr (asg U (nn (bl ?_)))))));refine lpK (ι:=Nat) [(5,_),(6,_),(7,_),(11,_),(12,_),(15,_),(17,_),(21,_),(22,_),(23,_)] (λy=>[(24,.int .i64 (y:Int)),(20,.int .i64 ((prN Sk O a' b' m n x+y:Nat):Int))]) (λy w'=>Fr [] s4 w'/\y<=(Sk (O+a'+n)).length) (λy=>(Sk (O+a'+n)).length-y) 0 (.d8 U U U U U U U U (.c4 U U U (congrArg (λz=>some (Value.int .i64 z)) oo))) ⟨Fr.refl _ _,oo⟩ ?_;rintro y A0 ⟨d5,y4⟩;have C0:=d5.size;refine kpC [(5,_),(6,_),(7,_),(11,_),(12,_),(15,_),(17,_),(21,_),(22,_),(23,_),(24,_),(20,_)] (.d8 U U U U U U U U (.c4 U U U U)) (sq (sr (mv U (mv U (mv U ?_)))));replace I:=I.ext d5;refine z0x (p:=(O+a'+n)) (iq0) U I.sl U y2h oo (λm4 i2=>(z1a U (i2 _ I.sl) z8o (lnS U underlying42 (lt' U (kpL [(5,_),(6,_),(7,_),(11,_),(12,_),(15,_),(17,_),(20,_),(21,_),(22,_),(23,_),(24,_),(183,_)] (.d8 U U U U U U U U (.c5 U U U U U)) (nn (cd U (λn7=>?_) (λn7=>?_))))))));have hy:y<(Sk (O+a'+n)).length:=by omega
 have x6:(b4.getD (O+m) iq0).2.length=(Sk (O+m)).length:=congrArg List.length (e2 (O+m) oo);have x7:(b4.getD (O+a'+n) iq0).2.length=(Sk (O+a'+n)).length:=congrArg List.length (e2 (O+a'+n) oo);have v9:=j9p (x:=x) f7 hz.2.2 d0 hm hn oo;have p0:lkC s2.fb.cs ((b4.getD (O+m) iq0).2.getD x id0) ((b4.getD (O+a'+n) iq0).2.getD y id0)=(if fr=true then (1:Int) else -1):=by
  rw[k9,j1m vq];refine p7 (O+m) (O+a'+n) _ _ oo oo oo oo ?_ ?_;rw[e2 _ oo];exact z1b hx;rw[e2 _ oo];exact z1b hy
 refine sk (tn (sq (bl (sr (mv U (z0q U (wi6 oo) (asg U (nn (sq ?_)))))))));replace a2:=e9.ext ((((b5.z6 b6 a9 q14 e3 a6 a5).n1 b0).n1 d3).n2 d4 d5);intro a h;refine z0h none (λwb w'=>Fr [] wb w') z2y ?_;intro l9 e7;have C1:=e7.size;replace a2:=a2.ext e7;replace Z:=Z.ext (a6.n6 a5 b0 d3 d4 d5 e7);replace I:=I.ext e7;replace a0:=a0.ext (a6.n6 a5 b0 d3 d4 d5 e7);have hC:Fr [] l9 l9:=Fr.refl _ _;have b1:=a2;have a1:=Z;have a4:=I;have b8:=a0;refine z0c 0 h U y2l U λa h=>z1d (vs:=[_,_,_,_]) 1 h U (λ_ hw=>(a1.ext hw)) u7d U U λa h=>z0d 2 h U λa h=>z0d 3 h U λa h=>z1e (p:=(O+m)) (iq0) 4 h U I.sl U y2h U λm5 i3 a h=>z2h 5 h U (λ_ hw=>i3 _ (a4.sl.ext hw)) z8o U λa h=>z0d 6 h U λa h=>z1e (p:=x) (id0) 7 h U (z1p a0.at (O+m)) U z6q U λm6 i4 a h=>z2l 8 h wn U (λ_ hw=>i4 _ ((z1p a0.at (O+m)).ext hw)) z3x U λa h=>z0d 9 h U λa h=>z0d 10 h U λa h=>z1e (p:=(O+a'+n)) (iq0) 11 h U I.sl U y2h U λm7 i5 a h=>z2h 12 h U (λ_ hw=>i5 _ (a4.sl.ext hw)) z8o U λa h=>z0d 13 h U λa h=>z1e (p:=y) (id0) 14 h U (z1p a0.at (O+a'+n)) U z6q U λm8 i7 a h=>z2l 15 h wn U (λ_ hw=>i7 _ ((z1p a0.at (O+a'+n)).ext hw)) z3x U λa h=>z0d 17 h U λa h=>z0e 16 U (z0n h (z0a U (z0a U (z0a U z0g))) (mkC func14) (j9l s2.fb ((b4.getD (O+m) iq0).2.getD x id0) ((b4.getD (O+a'+n) iq0).2.getD y id0) _ a2.f oo) ?_);rintro _ A1 ⟨rfl,d6⟩ a h;have C2:=d6.size;replace a2:=a2.ext d6;replace Z:=Z.ext d6;replace I:=I.ext d6;replace a0:=a0.ext d6;replace hC:=hC.next d6;refine z0b (u9t 18 hC h wn U U U U λa h=>z0r ?_);clear hC b1 a1 a4 b8;refine bk (h.sub (L':=[(5,_),(6,_),(7,_),(11,_),(12,_),(15,_),(17,_),(20,_),(21,_),(22,_),(23,_),(24,_),(206,_)]) (.d8 U U U U U U U U (.c5 U U U U U))) (tn (cd U (λj3=>?_) (λj3=>?_)));exact absurd p0 j3;refine sk (bn' (tn (rg (mv U (z0q U (wi6 oo) (asg U (nl ?_)))))));exact lpE ((y+1)) (.d8 U U U U U U U U (.c4 U U (congrArg (λz=>some (Value.int .i64 z)) oo) (congrArg (λz=>some (Value.int .i64 z)) oo))) ⟨(d5.n2 e7 d6),oo⟩ oo;obtain rfl:y=(Sk (O+a'+n)).length:=by omega
 have b9:=k3t Sk O a' b' m n x;refine ex (te (te (xh (bn' (tn (rg (mv U (z0q U (wi6 oo) (asg U (nl ?_))))))))));exact lpE ((x+1)) (.d8 U U U U U U U U (.c3 U (congrArg (λz=>some (Value.int .i64 z)) oo) (congrArg (λz=>some (Value.int .i64 z)) oo))) ⟨(d4.n1 d5),oo⟩ oo;obtain rfl:x=(Sk (O+m)).length:=by omega
 have b9:=k2w Sk O a' b' m n;refine ex (te (te (xh (bn' (tn (rg (mv U (z0q U (wi6 oo) (asg U (nl ?_))))))))));exact lpE ((n+1)) (.d8 U U U U U U U U (.c2 (congrArg (λz=>some (Value.int .i64 z)) oo) (congrArg (λz=>some (Value.int .i64 z)) (by rw[b9])))) ⟨(d3.n1 d4),oo⟩ oo;obtain rfl:n=b':=by omega
 have b9:=k3h Sk O a' n m;refine ex (te (te (xh (bn' (tn (rg (mv U (z0q U (wi6 oo) (asg U (nl ?_))))))))));exact lpE ((m+1)) (.d8 U U U U U U U (congrArg (λz=>some (Value.int .i64 z)) oo) (.cons (congrArg (λz=>some (Value.int .i64 z)) (by rw[b9])) .nil)) ⟨(b0.n1 d3),oo⟩ oo;obtain rfl:m=a':=by omega
 have s8:prN Sk O m b' m 0 0=q.cr.length:=by rw[j3v,o5]
 refine ex (te (te (xh (tn (sq ?_)))));replace hG:=h6.ext (((((q1.z6 q2 q4 q5 q7 q8 q9).n1 q10).n1 b5).z6 b6 a9 q14 e3 a6 a5).next b0);replace hS:=h7.ext ((((q8.z6 q9 q10 b5 b6 a9 q14).n1 e3).n1 a6).n2 a5 b0);replace a2:=e9.ext ((b5.z6 b6 a9 q14 e3 a6 a5).n1 b0);intro a h;refine z0h none (λwb w'=>Fr [] wb w') z2y ?_;intro m0 d7;have C3:=d7.size;replace hG:=hG.ext d7;replace hS:=hS.ext d7;replace a3:=a3.ext (a6.n3 a5 b0 d7);replace a2:=a2.ext d7;replace Z:=Z.ext (a6.n3 a5 b0 d7);have hC:Fr [] m0 m0:=Fr.refl _ _;have j8:=hG;have f0:=hS;have a7:=a3;have b1:=a2;have a1:=Z;refine z0c 0 h U y2l U λa h=>z7u 1 hC h wn U x0i U λa h=>z0j 2 h U (λ_ hw=>a1.ext hw) U j6d U λa h=>z7q 3 hC h wn U underlying41 U λa h=>z0d 4 h U λa h=>v4y 5 hC h wn U U U U λa h=>z0d 6 h U λa h=>?_;first|refine x5c (D:=213) h U ?_ (λhh=>absurd oo hh)|refine y8z (D:=213) h U ?_ (λhh=>absurd oo hh)
 clear h;intro g7 h;refine z0c 7 h U y7j U ?_ (hG:=(wy U));clear h a;intro a h;refine z1d (vs:=[_,_]) 8 h U (λ_ hw=>(a1.ext hw)) z6k U U ?_ (hG:=(wy U));clear h a;intro a h;refine z0c 10 h U y7j U ?_ (hG:=(wy U));clear h a;intro a h;refine z1d (vs:=[_,_]) 11 h U (λ_ hw=>(a7.ext hw)) z6k U U ?_ (hG:=(wy U));clear h a;intro a h;refine z0e 9 U (y1d h U U U U U U (z0n h (z0a U z0g) (mkC func15) (y2d s2.q _ a2.b k8 k7 k5 h8) ?_));rintro _ A2 ⟨rfl,f4⟩ a h;have C4:=f4.size;replace hS:=hS.ext f4;replace hC:=hC.next f4;refine z0b (z0e 12 U (y1d h U U U U U U (z0n h (z0a U z0g) (mkC func15) (y2d s.q _ hS.b o4 o3 o2 k6) ?_)));rintro _ A3 ⟨rfl,f9⟩ a h;have C5:=f9.size;replace hG:=hG.ext (f4.n1 f9);replace hC:=hC.next f9;refine z0b (v4y 13 hC h (wy U) U U U U λa h=>z0e 14 U (z5k h U λa h=>?_));refine z0b (z0d 15 h U λa h=>?_);first|refine x5c (D:=222) h U ?_ (λhh=>absurd (by rw[f5,d9,hfl]) hh)|refine y8z (D:=222) h U ?_ (λhh=>absurd (by rw[f5,d9,hfl]) hh)
 clear h;intro g8 h;refine z0e 16 U (y1d h U U U U U U (z0n h z0g (mkC func7) (y7i _ hG) ?_));rintro _ A4 ⟨rfl,j2⟩ a h;have C6:=j2.size;replace hC:=hC.next j2;refine z0b (z0e 17 U (z5k h U λa h=>?_));refine z0b (z0e 18 U (z0s h U λa h=>?_));refine z0b (z0r ?_);clear hC j8 f0 a7 b1 a1;refine bk (h.sub (L':=[(2,_)]) (.cons U .nil)) (tn (rt (r1 results3 U ?_)));exact⟨_,rfl,by first|rfl|exact congrArg Value.bool (decide_eq_true sp0),(((((((((q1.z6 q2 q4 q5 q7 q8 q9).n1 q10).n1 b5).z6 b6 a9 q14 e3 a6 a5).next b0).next d7).next f4).next f9).next j2)⟩
end Go.Proofs.YtagnnbcnnmacmaaGreatDoor
