/- Texts of the proof, joined. -/
import Derived.Test.YtlfdhllfmoplgaaGreatDoorRows
import Derived.Maps.RangeRun
import Derived.Test.YtlfdhllfmoplgaaGreatDoorQD3
set_option linter.unusedVariables false
set_option linter.unusedSimpArgs false
set_option maxHeartbeats 4000000
namespace Go.Proofs.YtlfdhllfmoplgaaGreatDoor
open Go.Lw Go.G21 Go.G08 _root_.Go.Proofs.Tryz
theorem x7r:z4b prog 101 5:=⟨λ_=>kr,λ_=>kr⟩
theorem x2r:ElemOf prog 97 101 z4m 40:=ElemOf.mk' (z:=(.agg #[.int .u8 0,.int .i64 0,.int .u8 0,.int .i64 0,.int .i64 0])) underlying97 kr U
theorem v3m:z1u prog 101 5:=λ_=>kr
theorem j3c (w:World):(zeroValue 101).run prog w=.ok (.agg #[(.int .u8 0),(.int .i64 0),(.int .u8 0),(.int .i64 0),(.int .i64 0)]) w:=kr
theorem u0a (w:World):(zeroValue 131).run prog w=.ok (.agg #[(.int .u8 0),(.int .i64 0),(.int .u8 0),(.int .i64 0),(.int .i64 0)]) w:=kr
theorem u4g (g c base:Nat)(l:List Hd)(w0:World)(D:Lw.Own z4g 131 base w0 (.slice (saa g) l.length c) l)(hl:l.length<=1000000):Rets prog 120 #[.slice (saa g) l.length c,.func (.func 121) #[] #[]] w0 λr w'=>r=.tuple #[]/\Lw.Own z4g 131 base w' (.slice (saa g) l.length c) (z5x l)/\Fr [g] w0 w':=by
 refine we [(0,.slice (saa g) l.length c),(1,.func (.func 121) #[] #[])] func120 U ntmps120 U (.c2 U U) (rg (mv U (mv U (lnS U underlying127 (mv U (cl (ev3 U) (mkC func160) (j3t g c base l _ D hl) U ?_))))));rintro _ w1 ⟨rfl,D,I⟩;exact kpL [] .nil (nl (r0n results120  ⟨_,rfl,rfl,D,((l12 [g] _).z1 I)⟩))
theorem v2r (v:Value)(l:List Hd)(w0:World)(I:Sl z4g w0 v l)(hl:l.length<=100000):Rets prog 123 #[v] w0 λr w'=>∃g,r=.slice (saa g) l.length l.length/\w0.heap.size<=g/\Lw.Own z4g 131 w0.heap.size w' r l/\Fr [] w0 w':=by
 obtain⟨A,c,rfl,a0,hM,hA⟩:=id I;clear hA;unfold maxLen at hM;refine we [(0,.slice A l.length c)] func123 U ntmps123 U (.cons U .nil) ?_;have O:=I;refine sr (asg U (nn (sr (mv U (lnS U underlying127 (z1j (m:=l.length) (c:=l.length) (hd0) U z3p u0a U (λg6 w1 a1 D Z z1=>(asg U (nn (sr (mv U (mv U ?_))))))))))));have I:=O.ext Z;refine z9j (zs:=List.replicate l.length hd0) t33 U (by rw[l24];exact D) I t34 z3p (λw2 D q2 z2=>?_);rw[l24]at D;exact nn (sr (mv U (asg U (nn (rt (r1 results123 U ⟨_,rfl,g6,rfl,oo,D.low oo,(Z.z1 q2)⟩))))))
theorem u6d (g c base:Nat)(ys:List LId)(w0:World)(I:Lw.Own z1g 64 base w0 (.slice (saa g) ys.length c) ys)(hl:ys.length<=1000000):Rets prog 86 #[.slice (saa g) ys.length c] w0 λr w'=>Lw.Own z1g 64 base w' (.slice (saa g) ys.length c) ys.reverse/\Fr [g] w0 w':=by
 refine we [(0,.slice (saa g) ys.length c)] func86 U ntmps86 U (.cons U .nil) (sr (mv U (lnS U underlying30 (z2x U (wi6 oo) (asg U (asg U (nn (bl ?_))))))));refine lpK (ι:=Nat) (ll1 0) (λk=>[(2,.int .i64 (k:Int)),(3,.int .i64 ((ys.length:Int)-1-(k:Int)))]) (λk w'=>Fr [g] w0 w'/\k<=ys.length/\∃zs,j2k id0 ys zs k/\Lw.Own z1g 64 base w' (.slice (saa g) ys.length c) zs) (λk=>ys.length-k) 0 (.c3 U U (congrArg (λz=>some (Value.int .i64 z)) oo)) ⟨l12 _ _,⟨l15 _,_,u0i _ _,I⟩⟩ ?_;rintro k w1 ⟨q1,⟨hk,zs,hR,I⟩⟩;refine kpC (ll3 0 2 3) (csu U) (sq (sr (mv U (mv U (lt' U (nn (cd U (λc0=>?_) (λc0=>?_))))))));obtain⟨a4,-⟩:=id hR;have a1:k<ys.length-1-k:=by omega
 refine sk (tn (sq (bl ?_)));intro a h;refine z0h (some 15) (λwb w'=>Fr [g] wb w') z2o ?_;intro w2 q2;have I:=I.ext q2;have hC:Fr [g] w2 w2:=l12 _ _;have a0:=I;refine z0d 0 h U λa h=>z0d 1 h U λa h=>z0d 2 h U λa h=>z0d 3 h U λa h=>z0d 4 h U λa h=>z0d 5 h U λa h=>z0z (p:=(ys.length-1-k)) (id0) 6 h U I.sl U z3k U λa2 O a h=>z0d 8 h U λa h=>z0d 9 h U λa h=>z0z (p:=k) (id0) 10 h U I.sl U z3k U λa3 Z a h=>z1w 7 11 kr U ?_ ?_;refine z1p h U (O _ I.sl) z2h U λa h=>z0b (z0e 11 U (z1p h U (Z _ I.sl) z2h U λa h=>?_));refine z0b (z1k 12 kr kr kr hC (p:=k) h wn U z3k oo oo oo U U λa h=>z0e 13 U (z0x (i:=k) (zs.getD (ys.length-1-k) id0) h U I oo U z8r λw3 D q3 _hz a h=>?_));have hC:=hC.sp q3;clear _hz I;have I:=D;clear D;refine z0b (z1k 14 kr kr kr hC (p:=(ys.length-1-k)) h wn U z3k oo oo oo U U λa h=>z0e 15 U (z0x (i:=(ys.length-1-k)) (zs.getD k id0) h U I t23 U z8r λw4 D q4 _hz a h=>?_));clear _hz I;have I:=D;clear D;refine z1l (z0o ?_);clear hC a0;refine bk (h.sub (L':=ll3 0 2 3) (csu U)) (bn' (tn (rg (mv U (z0w U (wi6 oo) (mv U (z2x U (wi6 oo) (asg U (asg U (nl ?_))))))))));exact lpE (k+1) (.c3 U U (congrArg (λz=>some (Value.int .i64 z)) oo)) ⟨((l12 [g] _).z4 q1 q2 q3 q4),⟨oo,_,z8d a1 hR,I⟩⟩ oo;refine z1p h U (Z _ I.sl) z2h U λa h=>z0b (z0e 7 U (z1p h U (O _ I.sl) z2h U λa h=>?_));refine z0b (z1k 12 kr kr kr hC (p:=k) h wn U z3k oo oo oo U U λa h=>z0e 13 U (z0x (i:=k) (zs.getD (ys.length-1-k) id0) h U I oo U z8r λw5 D q5 _hz a h=>?_));have hC:=hC.sp q5;clear _hz I;have I:=D;clear D;refine z0b (z1k 14 kr kr kr hC (p:=(ys.length-1-k)) h wn U z3k oo oo oo U U λa h=>z0e 15 U (z0x (i:=(ys.length-1-k)) (zs.getD k id0) h U I t23 U z8r λw6 D q6 _hz a h=>?_));clear _hz I;have I:=D;clear D;refine z1l (z0o ?_);clear hC a0;refine bk (h.sub (L':=ll3 0 2 3) (csu U)) (bn' (tn (rg (mv U (z0w U (wi6 oo) (mv U (z2x U (wi6 oo) (asg U (asg U (nl ?_))))))))));exact lpE (k+1) (.c3 U U (congrArg (λz=>some (Value.int .i64 z)) oo)) ⟨((l12 [g] _).z4 q1 q2 q5 q6),⟨oo,_,z8d a1 hR,I⟩⟩ oo;refine ex (te (te (xh (r0n results86  ?_))));exact⟨_,rfl,by rw[<-y9o oo hR];exact I,(q1.weak se)⟩
theorem j3p (w0:World):Rets prog 86 #[.slice none 0 0] w0 λr w'=>Fr [] w0 w':=by
 refine we [(0,.slice none 0 0)] func86 U ntmps86 U (.cons U .nil) (sr (mv U (lnS U underlying30 (z2x U (wi6 oo) (asg U (asg U (nn (bl (lpK (ι:=Unit) (ll3 0 2 3) (λ_u=>[]) (λ_u w'=>Fr [] w0 w'/\True) (λ_u=>0) () (csu U) ⟨l12 _ _,trivial⟩ ?_)))))))));rintro _u w1 ⟨I,-⟩;refine kpC (ll3 0 2 3) (csu U) (sq (sr (mv U (mv U (lt' U (nn (cd U (λD=>?_) (λD=>?_))))))));exfalso;omega;exact ex (te (te (xh (r0n results86  ⟨_,rfl,I⟩))))
theorem v5w (base:Nat)(v:Value)(ys:List LId)(w0:World)(D:Lw.Own z1g 64 base w0 v ys)(hl:ys.length<=1000000):Rets prog 86 #[v] w0 λr w'=>Lw.Own z1g 64 base w' v ys.reverse/\Fr (z0u v) w0 w':=by
 rcases id D with ⟨rfl,rfl⟩|⟨g,cap,cur,rfl,_⟩
 refine Rets.mono (j3p w0) ?_;intro r w' hf;exact⟨Own.nil _,hf⟩;exact u6d g cap base ys w0 D hl
theorem u4u (g c base:Nat)(ys:List Pa)(w0:World)(I:Lw.Own z2d 107 base w0 (.slice (saa g) ys.length c) ys)(hl:ys.length<=1000000):Rets prog 207 #[.slice (saa g) ys.length c] w0 λr w'=>Lw.Own z2d 107 base w' (.slice (saa g) ys.length c) ys.reverse/\Fr [g] w0 w':=by
 refine we [(0,.slice (saa g) ys.length c)] func207 U ntmps207 U (.cons U .nil) (sr (mv U (lnS U underlying102 (z2x U (wi6 oo) (asg U (asg U (nn (bl ?_))))))));refine lpK (ι:=Nat) (ll1 0) (λk=>[(2,.int .i64 (k:Int)),(3,.int .i64 ((ys.length:Int)-1-(k:Int)))]) (λk w'=>Fr [g] w0 w'/\k<=ys.length/\∃zs,j2k pa0 ys zs k/\Lw.Own z2d 107 base w' (.slice (saa g) ys.length c) zs) (λk=>ys.length-k) 0 (.c3 U U (congrArg (λz=>some (Value.int .i64 z)) oo)) ⟨l12 _ _,⟨l15 _,_,u0i _ _,I⟩⟩ ?_;rintro k w1 ⟨q1,⟨hk,zs,hR,I⟩⟩;refine kpC (ll3 0 2 3) (csu U) (sq (sr (mv U (mv U (lt' U (nn (cd U (λc0=>?_) (λc0=>?_))))))));obtain⟨a4,-⟩:=id hR;have a1:k<ys.length-1-k:=by omega
 refine sk (tn (sq (bl ?_)));intro a h;refine z0h (some 15) (λwb w'=>Fr [g] wb w') z2o ?_;intro w2 q2;have I:=I.ext q2;have hC:Fr [g] w2 w2:=l12 _ _;have a0:=I;refine z0d 0 h U λa h=>z0d 1 h U λa h=>z0d 2 h U λa h=>z0d 3 h U λa h=>z0d 4 h U λa h=>z0d 5 h U λa h=>z0z (p:=(ys.length-1-k)) (pa0) 6 h U I.sl U z4q U λa2 O a h=>z0d 8 h U λa h=>z0d 9 h U λa h=>z0z (p:=k) (pa0) 10 h U I.sl U z4q U λa3 Z a h=>z1w 7 11 kr U ?_ ?_;refine z1p h U (O _ I.sl) z8j U λa h=>z0b (z0e 11 U (z1p h U (Z _ I.sl) z8j U λa h=>?_));refine z0b (z1k 12 kr kr kr hC (p:=k) h wn U z4q oo oo oo U U λa h=>z0e 13 U (z0x (i:=k) (zs.getD (ys.length-1-k) pa0) h U I oo U x5a λw3 D q3 _hz a h=>?_));have hC:=hC.sp q3;clear _hz I;have I:=D;clear D;refine z0b (z1k 14 kr kr kr hC (p:=(ys.length-1-k)) h wn U z4q oo oo oo U U λa h=>z0e 15 U (z0x (i:=(ys.length-1-k)) (zs.getD k pa0) h U I t23 U x5a λw4 D q4 _hz a h=>?_));clear _hz I;have I:=D;clear D;refine z1l (z0o ?_);clear hC a0;refine bk (h.sub (L':=ll3 0 2 3) (csu U)) (bn' (tn (rg (mv U (z0w U (wi6 oo) (mv U (z2x U (wi6 oo) (asg U (asg U (nl ?_))))))))));exact lpE (k+1) (.c3 U U (congrArg (λz=>some (Value.int .i64 z)) oo)) ⟨((l12 [g] _).z4 q1 q2 q3 q4),⟨oo,_,z8d a1 hR,I⟩⟩ oo;refine z1p h U (Z _ I.sl) z8j U λa h=>z0b (z0e 7 U (z1p h U (O _ I.sl) z8j U λa h=>?_));refine z0b (z1k 12 kr kr kr hC (p:=k) h wn U z4q oo oo oo U U λa h=>z0e 13 U (z0x (i:=k) (zs.getD (ys.length-1-k) pa0) h U I oo U x5a λw5 D q5 _hz a h=>?_));have hC:=hC.sp q5;clear _hz I;have I:=D;clear D;refine z0b (z1k 14 kr kr kr hC (p:=(ys.length-1-k)) h wn U z4q oo oo oo U U λa h=>z0e 15 U (z0x (i:=(ys.length-1-k)) (zs.getD k pa0) h U I t23 U x5a λw6 D q6 _hz a h=>?_));clear _hz I;have I:=D;clear D;refine z1l (z0o ?_);clear hC a0;refine bk (h.sub (L':=ll3 0 2 3) (csu U)) (bn' (tn (rg (mv U (z0w U (wi6 oo) (mv U (z2x U (wi6 oo) (asg U (asg U (nl ?_))))))))));exact lpE (k+1) (.c3 U U (congrArg (λz=>some (Value.int .i64 z)) oo)) ⟨((l12 [g] _).z4 q1 q2 q5 q6),⟨oo,_,z8d a1 hR,I⟩⟩ oo;refine ex (te (te (xh (r0n results207  ?_))));exact⟨_,rfl,by rw[<-y9o oo hR];exact I,(q1.weak se)⟩
theorem j4m (w0:World):Rets prog 207 #[.slice none 0 0] w0 λr w'=>Fr [] w0 w':=by
 refine we [(0,.slice none 0 0)] func207 U ntmps207 U (.cons U .nil) (sr (mv U (lnS U underlying102 (z2x U (wi6 oo) (asg U (asg U (nn (bl (lpK (ι:=Unit) (ll3 0 2 3) (λ_u=>[]) (λ_u w'=>Fr [] w0 w'/\True) (λ_u=>0) () (csu U) ⟨l12 _ _,trivial⟩ ?_)))))))));rintro _u w1 ⟨I,-⟩;refine kpC (ll3 0 2 3) (csu U) (sq (sr (mv U (mv U (lt' U (nn (cd U (λD=>?_) (λD=>?_))))))));exfalso;omega;exact ex (te (te (xh (r0n results207  ⟨_,rfl,I⟩))))
theorem x4x (base:Nat)(v:Value)(ys:List Pa)(w0:World)(D:Lw.Own z2d 107 base w0 v ys)(hl:ys.length<=1000000):Rets prog 207 #[v] w0 λr w'=>Lw.Own z2d 107 base w' v ys.reverse/\Fr (z0u v) w0 w':=by
 rcases id D with ⟨rfl,rfl⟩|⟨g,cap,cur,rfl,_⟩
 refine Rets.mono (j4m w0) ?_;intro r w' hf;exact⟨Own.nil _,hf⟩;exact u4u g cap base ys w0 D hl
theorem u1k (g c base:Nat)(ys:List Cx)(w0:World)(I:Lw.Own z4m 101 base w0 (.slice (saa g) ys.length c) ys)(hl:ys.length<=1000000):Rets prog 87 #[.slice (saa g) ys.length c] w0 λr w'=>Lw.Own z4m 101 base w' (.slice (saa g) ys.length c) ys.reverse/\Fr [g] w0 w':=by
 refine we [(0,.slice (saa g) ys.length c)] func87 U ntmps87 U (.cons U .nil) (sr (mv U (lnS U underlying97 (z2x U (wi6 oo) (asg U (asg U (nn (bl ?_))))))));refine lpK (ι:=Nat) (ll1 0) (λk=>[(2,.int .i64 (k:Int)),(3,.int .i64 ((ys.length:Int)-1-(k:Int)))]) (λk w'=>Fr [g] w0 w'/\k<=ys.length/\∃zs,j2k cx0 ys zs k/\Lw.Own z4m 101 base w' (.slice (saa g) ys.length c) zs) (λk=>ys.length-k) 0 (.c3 U U (congrArg (λz=>some (Value.int .i64 z)) oo)) ⟨l12 _ _,⟨l15 _,_,u0i _ _,I⟩⟩ ?_;rintro k w1 ⟨q1,⟨hk,zs,hR,I⟩⟩;refine kpC (ll3 0 2 3) (csu U) (sq (sr (mv U (mv U (lt' U (nn (cd U (λc0=>?_) (λc0=>?_))))))));obtain⟨a4,-⟩:=id hR;have a1:k<ys.length-1-k:=by omega
 refine sk (tn (sq (bl ?_)));intro a h;refine z0h (some 15) (λwb w'=>Fr [g] wb w') z2o ?_;intro w2 q2;have I:=I.ext q2;have hC:Fr [g] w2 w2:=l12 _ _;have a0:=I;refine z0d 0 h U λa h=>z0d 1 h U λa h=>z0d 2 h U λa h=>z0d 3 h U λa h=>z0d 4 h U λa h=>z0d 5 h U λa h=>z0z (p:=(ys.length-1-k)) (cx0) 6 h U I.sl U x2r U λa2 O a h=>z0d 8 h U λa h=>z0d 9 h U λa h=>z0z (p:=k) (cx0) 10 h U I.sl U x2r U λa3 Z a h=>z1w 7 11 kr U ?_ ?_;refine z1p h U (O _ I.sl) x7r U λa h=>z0b (z0e 11 U (z1p h U (Z _ I.sl) x7r U λa h=>?_));refine z0b (z1k 12 kr kr kr hC (p:=k) h wn U x2r oo oo oo U U λa h=>z0e 13 U (z0x (i:=k) (zs.getD (ys.length-1-k) cx0) h U I oo U v3m λw3 D q3 _hz a h=>?_));have hC:=hC.sp q3;clear _hz I;have I:=D;clear D;refine z0b (z1k 14 kr kr kr hC (p:=(ys.length-1-k)) h wn U x2r oo oo oo U U λa h=>z0e 15 U (z0x (i:=(ys.length-1-k)) (zs.getD k cx0) h U I t23 U v3m λw4 D q4 _hz a h=>?_));clear _hz I;have I:=D;clear D;refine z1l (z0o ?_);clear hC a0;refine bk (h.sub (L':=ll3 0 2 3) (csu U)) (bn' (tn (rg (mv U (z0w U (wi6 oo) (mv U (z2x U (wi6 oo) (asg U (asg U (nl ?_))))))))));exact lpE (k+1) (.c3 U U (congrArg (λz=>some (Value.int .i64 z)) oo)) ⟨((l12 [g] _).z4 q1 q2 q3 q4),⟨oo,_,z8d a1 hR,I⟩⟩ oo;refine z1p h U (Z _ I.sl) x7r U λa h=>z0b (z0e 7 U (z1p h U (O _ I.sl) x7r U λa h=>?_));refine z0b (z1k 12 kr kr kr hC (p:=k) h wn U x2r oo oo oo U U λa h=>z0e 13 U (z0x (i:=k) (zs.getD (ys.length-1-k) cx0) h U I oo U v3m λw5 D q5 _hz a h=>?_));have hC:=hC.sp q5;clear _hz I;have I:=D;clear D;refine z0b (z1k 14 kr kr kr hC (p:=(ys.length-1-k)) h wn U x2r oo oo oo U U λa h=>z0e 15 U (z0x (i:=(ys.length-1-k)) (zs.getD k cx0) h U I t23 U v3m λw6 D q6 _hz a h=>?_));clear _hz I;have I:=D;clear D;refine z1l (z0o ?_);clear hC a0;refine bk (h.sub (L':=ll3 0 2 3) (csu U)) (bn' (tn (rg (mv U (z0w U (wi6 oo) (mv U (z2x U (wi6 oo) (asg U (asg U (nl ?_))))))))));exact lpE (k+1) (.c3 U U (congrArg (λz=>some (Value.int .i64 z)) oo)) ⟨((l12 [g] _).z4 q1 q2 q5 q6),⟨oo,_,z8d a1 hR,I⟩⟩ oo;refine ex (te (te (xh (r0n results87  ?_))));exact⟨_,rfl,by rw[<-y9o oo hR];exact I,(q1.weak se)⟩
theorem j0a (w0:World):Rets prog 87 #[.slice none 0 0] w0 λr w'=>Fr [] w0 w':=by
 refine we [(0,.slice none 0 0)] func87 U ntmps87 U (.cons U .nil) (sr (mv U (lnS U underlying97 (z2x U (wi6 oo) (asg U (asg U (nn (bl (lpK (ι:=Unit) (ll3 0 2 3) (λ_u=>[]) (λ_u w'=>Fr [] w0 w'/\True) (λ_u=>0) () (csu U) ⟨l12 _ _,trivial⟩ ?_)))))))));rintro _u w1 ⟨I,-⟩;refine kpC (ll3 0 2 3) (csu U) (sq (sr (mv U (mv U (lt' U (nn (cd U (λD=>?_) (λD=>?_))))))));exfalso;omega;exact ex (te (te (xh (r0n results87  ⟨_,rfl,I⟩))))
theorem u0g (base:Nat)(v:Value)(ys:List Cx)(w0:World)(D:Lw.Own z4m 101 base w0 v ys)(hl:ys.length<=1000000):Rets prog 87 #[v] w0 λr w'=>Lw.Own z4m 101 base w' v ys.reverse/\Fr (z0u v) w0 w':=by
 rcases id D with ⟨rfl,rfl⟩|⟨g,cap,cur,rfl,_⟩
 refine Rets.mono (j0a w0) ?_;intro r w' hf;exact⟨Own.nil _,hf⟩;exact u1k g cap base ys w0 D hl
theorem y7h (v:Value)(l:List Pa)(w0:World)(I:Sl z2d w0 v l)(hl:l.length<=100000):Rets prog 208 #[v] w0 λr w'=>∃g,r=.slice (saa g) l.length l.length/\w0.heap.size<=g/\Lw.Own z2d 107 w0.heap.size w' r l/\Fr [] w0 w':=by
 obtain⟨A,c,rfl,a0,hM,hA⟩:=id I;clear hA;unfold maxLen at hM;refine we [(0,.slice A l.length c)] func208 U ntmps208 U (.cons U .nil) ?_;have O:=I;refine sr (asg U (nn (sr (mv U (lnS U underlying102 (z1j (m:=l.length) (c:=l.length) (pa0) U z4q x1x U (λg6 w1 a1 D Z z1=>(asg U (nn (sr (mv U (mv U ?_))))))))))));have I:=O.ext Z;refine z9j (zs:=List.replicate l.length pa0) t33 U (by rw[l24];exact D) I t34 z4q (λw2 D q2 z2=>?_);rw[l24]at D;exact nn (sr (mv U (asg U (nn (rt (r1 results208 U ⟨_,rfl,g6,rfl,oo,D.low oo,(Z.z1 q2)⟩))))))
theorem x6l (v:Value)(l:List Cx)(w0:World)(I:Sl z4m w0 v l)(hl:l.length<=100000):Rets prog 88 #[v] w0 λr w'=>∃g,r=.slice (saa g) l.length l.length/\w0.heap.size<=g/\Lw.Own z4m 101 w0.heap.size w' r l/\Fr [] w0 w':=by
 obtain⟨A,c,rfl,a0,hM,hA⟩:=id I;clear hA;unfold maxLen at hM;refine we [(0,.slice A l.length c)] func88 U ntmps88 U (.cons U .nil) ?_;have O:=I;refine sr (asg U (nn (sr (mv U (lnS U underlying97 (z1j (m:=l.length) (c:=l.length) (cx0) U x2r j3c U (λg6 w1 a1 D Z z1=>(asg U (nn (sr (mv U (mv U ?_))))))))))));have I:=O.ext Z;refine z9j (zs:=List.replicate l.length cx0) t33 U (by rw[l24];exact D) I t34 x2r (λw2 D q2 z2=>?_);rw[l24]at D;exact nn (sr (mv U (asg U (nn (rt (r1 results88 U ⟨_,rfl,g6,rfl,oo,D.low oo,(Z.z1 q2)⟩))))))
theorem k1q:BuildAt prog 131 [(0,2),(2,2),(4,1)] [(.int .u8 0),(.int .i64 0),(.int .u8 0),(.int .i64 0),(.int .i64 0)]:=BuildAt.struct underlying131 (λ_=>kr) (λ_=>kr)
theorem v2j:CallOf prog 119:=mkC func119
theorem u8l:z2a prog 127:=λ_=>kr
theorem j5r:z1u prog 127 1:=λ_=>kr
theorem v4z (gr gk base:Nat)(b r:Int)(v u:Value)(l:List IQ)(a5:List Hd)(wS w0:World)(hF:Fr [] wS w0)(hs:Sl z6l wS v l)(hk:IqAt wS l)(a7:Blk wS gk 3 [.int .i64 r])(f2:wS.heap.size<=gr)(e7:wS.heap.size<=base)(e8:base<=w0.heap.size)(D:Blk w0 gr 127 [u])(O:Lw.Own z4g 131 base w0 u a5)(hb:b=0\/b=1)(hl:l.length<=40)(h4:z9o l)(ha:a5.length<=1000)(hu:IsB u):Rets prog 118 #[.int .u8 b,v,pta gr,pta gk] w0 λr' w'=>r'=.tuple #[]/\(∃u',Blk w' gr 127 [u']/\Lw.Own z4g 131 base w' u' (a5++hds b r (plB l) l.length)/\IsB u')/\w0.heap.size<=w'.heap.size/\Fr [] wS w':=by
 obtain⟨A,c,rfl,e9,hM,hA⟩:=id hs;clear hA;unfold maxLen at hM;have f6:=hF.size;have e4:=D.lt;refine we [(0,.int .u8 b),(1,.slice A l.length c),(2,pta gr),(3,pta gk)] func118 U ntmps118 U (.c4 U U U U) ?_;have d1:=hs;have b4:=hk;have b3:=a7;refine sr (mv U (lnS U underlying23 (mv U (nn (bl (lpK (ι:=Nat×Value) (ll5 0 2 3 11 12) (λp=>[(13,.int .i64 (p.1:Int))]) (λp w'=>Fr [] wS w'/\(p.1<=l.length/\w0.heap.size<=w'.heap.size/\IsB p.2)/\Blk w' gr 127 [p.2]/\Lw.Own z4g 131 base w' p.2 (a5++hds b r (plB l) p.1)) (λp=>l.length-p.1) (0,u) (csu U) ⟨hF,⟨⟨l15 _,oo,hu⟩,D,by simpa[hds] using O⟩⟩ ?_))))));rintro⟨i,uI⟩ w1 ⟨q1,⟨hi,D,O⟩⟩;simp only at hi D O;have z1:=q1.size;have b0:=D.lt;refine kpC [(0,_),(2,_),(3,_),(11,_),(12,_),(13,.int .i64 (i:Int))] (csu U) ?_;have f0:=x8d b r l h4 i;have f4:=z3j h4 i;have f5:=z1x (z1y b4 i);have b5:=b3.lt;refine sr (lt' U (nn (sq (cd U (λc0=>?_) (λc0=>?_)))));refine sk (tn (sq (bl (sr (mv U ?_)))));have hs:=d1.ext q1;refine z1b (iq0) U hs U y3m z1h (λe0 b7=>?_);refine z1d U (b7 _ hs) z4s (asg U (asg U (nn (sr (mv U (mv U (z0w U (wi6 oo) (z1v (cs:=[_,_]) (ev2 U) y7p (z0g U (z0g U z0r)) U ?_))))))));refine al x9x U (λg8 w2 f1 I q2 z2=>?_);refine z0j (vs:=[_,_]) U I y4e (λw3 I q3 z3=>?_) (h1:=t19);refine nn (sr (mv U (lnS U underlying30 (mv U (nn (bl ?_))))));have D:=(D.ext q2).fr q3;have O:=(O.ext q2).fr q3 (by first|(intro k hk hb;rw[l11.1 hk]at hb;first|exact O.neB D dd hb|(have:=(O.blk _ hb).2;omega))|(simp;done));refine lpK (ι:=Nat×Value) (ll9 0 2 3 8 11 12 13 22 23) (λp=>[(24,.int .i64 (p.1:Int))]) (λp w'=>Fr [] wS w'/\(p.1<=(l.getD i iq0).2.length/\w0.heap.size<=w'.heap.size/\Blk w' g8 42 [.int .u8 b,.int .i64 ((i:Int)+1)]/\IsB p.2)/\Blk w' gr 127 [p.2]/\Lw.Own z4g 131 base w' p.2 ((a5++hds b r (plB l) i)++((l.getD i iq0).2.take p.1).map (hdS b r i))) (λp=>(l.getD i iq0).2.length-p.1) (0,uI) (csu U) ⟨(q1.z2 q2 q3),⟨⟨l15 _,oo,I,hi.2.2⟩,D,by simpa using O⟩⟩ ?_;rintro⟨j,uJ⟩ w4 ⟨q4,⟨⟨hj,f7,I,d7⟩,D,O⟩⟩;simp only at hj D O;have z4:=q4.size;have b0:=D.lt;have d4:=I.lt;refine kpC [(0,_),(2,_),(3,_),(8,_),(11,_),(12,_),(13,_),(22,_),(23,_),(24,.int .i64 (j:Int))] (csu U) (sr (lt' U (nn (sq (cd U (λc1=>?_) (λc1=>?_))))));refine sk (tn (sq (bl (sr ?_))));have hk:=b4.ext q4;refine z1b (id0) U (z1y hk i) U z3k z1h (λe1 b8=>?_);refine z1q U (b8 _ (z1y hk i)) z2h (al z9f U (λd5 w5 e3 Z q5 z5=>?_));refine z0j (vs:=[_,_]) U Z z8r (λw6 Z q6 z6=>?_) (h1:=t19);refine nn ?_;have hs:=d1.ext (q4.z2 q5 q6);have hk:=b4.ext (q4.z2 q5 q6);have a7:=b3.ext (q4.z2 q5 q6);have D:=(D.ext q5).fr q6;have O:=(O.ext q5).fr q6 (by first|(intro k hk hb;rw[l11.1 hk]at hb;first|exact O.neB D dd hb|(have:=(O.blk _ hb).2;omega))|(simp;done));have I:=(I.ext q5).fr q6;intro a h;refine z0h (some 8) (λwb w'=>Fr (z0u uJ) wb w') z2o ?_;intro w7 q7;have z7:=q7.size;have hs:=hs.ext q7;have hk:=hk.ext q7;have a7:=a7.ext q7;have D:=D.ext q7;have O:=O.ext q7;have I:=I.ext q7;have Z:=Z.ext q7;have hC:Fr (z0u uJ) w7 w7:=l12 _ _;have d3:=hs;have b9:=hk;have a8:=a7;have a3:=D;have a1:=O;have a0:=I;have a2:=Z;refine z6f 0 hC h wn U (λ_ hw=>a3.fr hw (λk_=>Own.neB a1 a3 dd k_)) u8l U λa h=>z0v 1 h U (λ_ hw=>a2.fr hw (λk_=>Own.neB a1 a2 dd k_)) z2h U λa h=>z0v 2 h U (λ_ hw=>a0.fr hw (λk_=>Own.neB a1 a0 dd k_)) z5s U λa h=>z0v 3 h U (λ_ hw=>a0.fr hw (λk_=>Own.neB a1 a0 dd k_)) z5s U λa h=>z6f 4 hC h wn U (λ_ hw=>a8.fr hw (λk_=>by have:=(a1.blk _ k_).1;have:=b5;omega)) na3 U λa h=>z0e 5 U (z0n h (z0a U (z0a U z0f)) v2j (y3l _ _ _ _ oo) ?_);rintro _ w8 ⟨rfl,q8⟩ a h;have z8:=q8.size;have D:=D.ext q8;have I:=I.ext q8;have Z:=Z.ext q8;have hC:=hC.next q8;refine z0b (z3e (cs:=[_,_,_,_,_]) 6 h (z0a U (z0a U (z0a U z0f))) k1q (z0g U (z0g U (z0g U z0r))) U U λa h=>z0e 7 U ?_);refine z2r ([(hdS b r i ((l.getD i iq0).2.getD j id0))]) h (z0a U z0f) U z3p λa6 w9 hg d0 q9 hz a h=>?_;have a9:gr<a6:=by have:=D.lt;omega
 have a9:g8<a6:=by have:=I.lt;omega
 have c9:d5<a6:=by have:=Z.lt;omega
 have z9:=q9.size;have hk:=hk.ext (q8.n1 q9);have D:=D.ext q9;have O:=O.ext (q8.n1 q9);have I:=I.ext q9;have hC:=hC.next q9;refine z0b (z0e 8 U ?_);have a4:=O;refine z8c h U U O d0.sl z3p U ?_ (hM:=t62) (hb:=t63);clear h a;intro f8 f9 O b1 d6 a h;obtain⟨e5,e6,rfl,e2⟩:=O.sl.form;have g0:=b1.size;have D:=D.fr b1 (λhk=>a4.neB D dd hk);have I:=I.fr b1 (λhk=>a4.neB I dd hk);refine z1l (z0e 9 U (y8n h U U D U U j5r λd9 b6 b2 hz a h=>?_));have g1:=b2.size;have I:=I.fr b2;have O:=O.fr b2 (by first|(intro k hk hb;rw[l11.1 hk]at hb;first|exact O.neB D dd hb|(have:=(O.blk _ hb).2;omega))|(simp;done));clear D hz;have D:Blk d9 gr _ [_]:=b6;clear b6;refine z1l (z0o ?_);clear hC d3 b9 a8 a3 a1 a0 a2;exact bk (h.sub (L':=ll10 0 2 3 8 11 12 13 22 23 24) (csu U)) (bn' (tn (rg (z0w U (wi6 oo) (mv U (nl (lpE ((j+1,_)) (csu U) ⟨(((q4.z5 q5 q6 q7 q8 q9).step b1 (λk hk f3=>absurd (a4.blk k hk).1 oo)).z1 b2),⟨⟨sm,oo,I,j4n O sp0⟩,D,by rw[y4t (hdS b r i) id0 oo,<-l17];exact O⟩⟩ sm)))))));obtain rfl:j=(l.getD i iq0).2.length:=by omega
 rw[l34]at O;exact ex (te (te (xh (bn' (tn (rg (z0w U (wi6 oo) (mv U (kpL (ll6 0 2 3 11 12 13) (csu U) (nl (lpE ((i+1,_)) (csu U) ⟨q4,⟨⟨sm,oo,d7⟩,D,by rw[x1s,z4c,<-l17];exact O⟩⟩ sm)))))))))));obtain rfl:i=l.length:=by omega
 exact ex (te (te (xh (r0n results118  ⟨_,rfl,rfl,⟨_,D,O,hi.2.2⟩,oo,q1⟩))))
theorem k0j (w:World):(zeroValue 127).run prog w=.ok (.slice none 0 0) w:=kr
theorem v6e (q:BdQ)(r:Int)(w0:World)(hB:BdAt w0 q)(hv:BdOk q.p)(hr:-4<=r/\r<=4):Rets prog 56 #[bvv q,.int .i64 r] w0 λv w'=>(∃g,v=.tuple #[.slice (saa g) (z2i q.p r).length (z2i q.p r).length,.int .i64 0]/\w0.heap.size<=g/\Lw.Own z4g 131 w0.heap.size w' (.slice (saa g) (z2i q.p r).length (z2i q.p r).length) (z2i q.p r))/\Fr [] w0 w':=by
 obtain⟨⟨hf,hb⟩,h4,a6⟩:=z3u hv;have hN:=y6k hv;have b8:=z9e q.p r;have d0:(z2i q.p r).length=(x5v q.p r).length:=z4v _;refine we [(0,bvv q),(1,.int .i64 r)] func56 U ntmps56 U (.c2 U U) ?_;have a4:=hB;refine sr (bx U (λg2 w1 b9 D q1 z1=>(bx U (λg3 w2 c1 a1 q2 z2=>(asg U (asg U (nn (sq (sr ?_)))))))));have D:=D.ext q2;refine z0k U D z5a (z2j U a1 na3 ?_);have hB:=a4.ext (q1.n1 q2);refine cl (ev2 U) (mkC func117) (x2m q _ _ hB hv oo) U ?_;rintro _ w3 ⟨rfl,q3⟩;have z3:=q3.size;have a1:=a1.ext q3;have D:=D.ext q3;have a0:BdAt w3 q:=a4.ext (q1.n2 q2 q3);have Z:=a1;have b7:=Z.lt;have a8:=D;refine asg U (nn (sr (mv U (ne' U (nn (cd U (λc0=>?_) (λc0=>?_)))))));exact absurd U c0;refine sk (tn (sr (z0k U D z5a ?_)));have hB:=a4.ext (q1.n2 q2 q3);refine cl (ev1 U) (mkC func24) (y5y q _ hB hf hb h4 a6) U ?_;rintro _ w4 ⟨rfl,q4⟩;have z4:=q4.size;refine z1j (m:=0) (c:=q.p.flat.length) (hd0) U z3p u0a U (λa2 w5 b3 O q5 z5=>(al k0j U (λg7 w6 c9 I q6 z6=>(z3b U I U j5r (λw7 I q7 z7=>(nn (sr (z5w z0f (ev2 U) (asg U (nn (sr (mv U (fad U y4g ?_)))))))))))));have D:=(D.ext (q4.n2 q5 q6)).fr q7;refine z0i U D U x2f ?_;have O:=(O.ext q6).fr q7 (by first|(intro k hk hb;rw[l11.1 hk]at hb;first|exact O.neB I dd hb|(have:=(O.blk _ hb).2;omega))|(simp;done));refine clv (us:=[]) (ws:=[pta g7,pta g3]) U (ev2 U) (mkC func118) (v4z g7 g3 a2 0 r _ _ q.fs [] w3 _ (q4.z3 q5 q6 q7) a0.f a0.fi Z oo oo oo I O dd oo h4 (by first|(simp;done)|(have:=x8d 0 r q.fs h4 q.fs.length;simp;omega)) ⟨_,_,_,rfl⟩) U t14 ?_;rintro _ w8 ⟨rfl,⟨d1,I,O,a9⟩,hz22,q8⟩;have z8:=q8.size;refine nn (sr (mv U (fad U y1b ?_)));have D:=a8.ext q8;refine z0i U D U x2f (clv (us:=[]) (ws:=[pta g7,pta g3]) U (ev2 U) (mkC func118) (v4z g7 g3 a2 1 r _ _ q.bs ([]++hds 0 r (plB q.fs) q.fs.length) w3 _ q8 a0.b a0.bi Z oo oo oo I O dd oo a6 (by first|(simp;done)|(have:=x8d 0 r q.fs h4 q.fs.length;simp;omega)) a9) U t14 ?_);rintro _ w9 ⟨rfl,⟨d3,I,O,b0⟩,hz26,q9⟩;have z9:=q9.size;rw[l43,show hds 0 r (plB q.fs) q.fs.length++hds 1 r (plB q.bs) q.bs.length=x5v q.p r by unfold x5v;simp only[l18]]at O;obtain⟨a3,b5,rfl⟩:=u4z b0 O;have b6:=(O.blk a3 t10).1;have a7:g7∉[a3]:=λhk=>(O.neB I dd) (by simpa[z0u] using hk);refine kpL (ll1 7) (csu U) (nn (sr (z2j U I u8l (cl (ev2 U) (mkC func120) (u4g a3 _ a2 (x5v q.p r) _ O oo) U ?_))));rintro _ d4 ⟨rfl,O,a5⟩;have d6:=a5.size;refine nn (sr ?_);have I:=I.fr a5 (by first|exact a7|(simp;omega));refine z2j U I u8l (cl (ev1 U) (mkC func123) (v2r _ (z2i q.p r) _ (by unfold z2i;exact O.sl) oo) U ?_);rintro _ d5 ⟨b2,rfl,b4,hX,b1⟩;have d7:=b1.size;exact asg U (asg U (nn (rt (r2 results56 U U ⟨_,rfl,⟨b2,rfl,oo,hX.low oo⟩,(q1.z5 q2 q3 q9 a5 b1)⟩))))
end Go.Proofs.YtlfdhllfmoplgaaGreatDoor
namespace Go.G08
open Go.Lw Go.G21
def btL (fr to:Int):Int:=if fr<to then fr else to
def btH (fr to:Int):Int:=if fr<to then to else fr
def btD (fr to:Int):Int:=if fr<to then 1 else 0
def btA (l:List Hd)(fr to:Int)(k:Nat):List Pa:=((l.take k).filter λh=>decide (btL fr to<h.s/\h.s<btH fr to)).map λh=>⟨h.id,decide (h.b=1),btD fr to⟩
theorem k2j {l:List Hd}{fr D:Int}{k:Nat}(I:k<l.length)(h:btL fr D<(l.getD k hd0).s/\(l.getD k hd0).s<btH fr D):btA l fr D (k+1)=btA l fr D k++[⟨(l.getD k hd0).id,decide ((l.getD k hd0).b=1),btD fr D⟩]:=by
 unfold btA;rw[z5g hd0 I,List.filter_append,l39,l54,if_pos (decide_eq_true h)];rfl
theorem k2s {l:List Hd}{fr D:Int}{k:Nat}(I:k<l.length)(h:¬(btL fr D<(l.getD k hd0).s/\(l.getD k hd0).s<btH fr D)):btA l fr D (k+1)=btA l fr D k:=by
 unfold btA;rw[z5g hd0 I,List.filter_append,l54,if_neg (by simpa using h)];simp
theorem x7s (l:List Hd)(fr D:Int)(k:Nat):(btA l fr D k).length<=l.length:=by
 unfold btA;rw[l18];refine l32 (List.length_filter_le _ _) ?_;rw[l28];omega
theorem j5u {l:List Hd}{fr D:Int}(h:¬btD fr D=0):btw l fr D=btA l fr D l.length:=by
 unfold btD at h;by_cases c:fr<D;unfold btw btA btL btH btD;rw[l34];simp only[if_pos c];rw[if_neg c]at h;exact absurd U h
theorem j7m {l:List Hd}{fr D:Int}(h:btD fr D=0):btw l fr D=(btA l fr D l.length).reverse:=by
 unfold btD at h;by_cases c:fr<D;rw[if_pos c]at h;exact absurd h dd;unfold btw btA btL btH btD;rw[l34];simp only[if_neg c]
theorem v9t (l:List Hd)(fr D:Int):(btw l fr D).length<=l.length:=by
 by_cases h:btD fr D=0;rw[j7m h,l96];exact x7s l fr D _;rw[j5u h];exact x7s l fr D _
end Go.G08
namespace Go.Proofs.YtlfdhllfmoplgaaGreatDoor
open Go.Lw Go.G21 Go.G08 _root_.Go.Proofs.Tryz
theorem j9p:BuildAt prog 107 [(0,2),(2,1),(3,1)] [(.int .u8 0),(.int .i64 0),(.bool false),(.int .u8 0)]:=BuildAt.struct underlying107 (λ_=>kr) (λ_=>kr)
theorem x7w:z1e prog 131 0 0:=λ_ _=>kr
theorem j4k:z1e prog 131 1 2:=λ_ _=>kr
theorem u7l (v:Value)(l:List Hd)(fr D:Int)(w0:World)(hs:Sl z4g w0 v l)(hl:l.length<=1000):Rets prog 166 #[v,.int .i64 fr,.int .i64 D] w0 λr w'=>(∃g,r=.slice (saa g) (btw l fr D).length (btw l fr D).length/\w0.heap.size<=g/\Lw.Own z2d 107 w0.heap.size w' r (btw l fr D))/\Fr [] w0 w':=by
 obtain⟨A,c,rfl,b6,hM,hA⟩:=id hs;clear hA;unfold maxLen at hM;refine we [(0,.slice A l.length c),(1,.int .i64 fr),(2,.int .i64 D)] func166 U ntmps166 U (.c3 U U U) ?_;have a7:=hs;refine sr (asg U (nn (sr (mv U (mv U (asg U (asg U (asg U (nn (jn (ι:=Unit) (ll1 0) (λ_j=>[(7,.int .i64 (btL fr D)),(8,.int .i64 (btH fr D)),(9,.int .u8 (btD fr D))]) (λ_j w'=>Fr [] w0 w') (csu U) ?_ ?_))))))))));refine sr (mv U (mv U (gt' U (nn (cd U (λZ=>?_) (λZ=>?_))))));exact rg (mv U (mv U (asg U (asg U (asg U (nl (jE (()) (.c4 U (by first|(rw[show btL fr D=_ from if_pos Z];rfl)|(rw[show btL fr D=_ from if_neg Z];rfl)) (by first|(rw[show btH fr D=_ from if_pos Z];rfl)|(rw[show btH fr D=_ from if_neg Z];rfl)) (by first|(rw[show btD fr D=_ from if_pos Z];rfl)|(rw[show btD fr D=_ from if_neg Z];rfl))) (l12 _ _))))))));exact sk (jE (()) (.c4 U (by first|(rw[show btL fr D=_ from if_pos Z];rfl)|(rw[show btL fr D=_ from if_neg Z];rfl)) (by first|(rw[show btH fr D=_ from if_pos Z];rfl)|(rw[show btH fr D=_ from if_neg Z];rfl)) (by first|(rw[show btD fr D=_ from if_pos Z];rfl)|(rw[show btD fr D=_ from if_neg Z];rfl))) (l12 _ _));rintro _j w1 q1;have z1:=q1.size;refine kpC (ll4 0 7 8 9) (csu U) (sr (asg U (nn (sq (sr (mv U (lnS U underlying127 (mv U (nn (bl (lpK (ι:=Nat×Value) (ll5 7 8 9 20 21) (λp=>[(22,.int .i64 (p.1:Int)),(10,p.2)]) (λp w'=>Fr [] w0 w'/\p.1<=l.length/\Lw.Own z2d 107 w0.heap.size w' p.2 (btA l fr D p.1)) (λp=>l.length-p.1) (0,_) (csu U) ⟨q1,⟨l15 _,Own.nil _⟩⟩ ?_)))))))))));rintro⟨k,vP⟩ w2 ⟨q2,⟨hk,O⟩⟩;simp only at hk O;have z2:=q2.size;refine kpC [(7,_),(8,_),(9,_),(20,_),(21,_),(22,.int .i64 (k:Int)),(10,vP)] (csu U) ?_;have b4:=x7s l fr D k;refine sr (lt' U (nn (sq (cd U (λc1=>?_) (λc1=>?_)))));refine sk (tn (sq (bl (sr ?_))));have hs:=a7.ext q2;refine z1b (hd0) U hs U z3p z1h (λa8 a1=>?_);refine z1q U (a1 _ hs) z5u (al u0a U (λb2 w3 a9 I q3 z3=>?_));refine z0j (vs:=[_,_,_,_,_]) U I z8u (λw4 I q4 z4=>?_) (h1:=(by first|(simp[Value.oneCell',S];done)|exact z4g.one _));refine nn (sq (rbo (r:=35) (L':=ll8 7 8 9 10 12 20 21 22) ((((btL fr D)<(l.getD k hd0).s)/\((l.getD k hd0).s<(btH fr D)))) (csu U) ?_ ?_));refine fad U x1e (z0i U I U na3 (mv U (gt' U (mv U (gs 30 U (λg0=>?_) (λg0=>?_))))));exact gY U (fad U x1e (gY U (z0i U I U na3 (gY U (mv U (gY U (lt' U (pkt U (rbe U (csu U))))))))));exact gN U (gN U (gN U (gN U (pkf U (rbe U (csu U))))));refine tn (cd U (λc2=>?_) (λc2=>?_));refine rg (mv U (fad U x7w (z1t (vs:=[_,_]) U I z2h U (fad U j4k (y2r U z6u (z0i U I U x3d (eq' U (mv U (z1v (cs:=[_,_,_,_]) (ev3 U) j9p (z0g U (z0g U (z0g U z0r))) U ?_)))))))));refine z1m ([(⟨(l.getD k hd0).id,decide ((l.getD k hd0).b=1),btD fr D⟩:Pa)]) (ev1 U) U z4q (λb3 w5 b0 a2 q5 z5=>?_);have O:=((O.ext q3).fr q4 (by first|exact z9n O oo|simp[z0u]<;>omega)).ext q5;have a0:=O;refine z2e U O a2.sl z4q (λb7 w6 O q6 a6=>?_);have z6:=q6.size;exact asg U (kpL (ll7 7 8 9 10 20 21 22) (csu U) (nl (bn' (tn (rg (z0w U (wi6 oo) (mv U (nl (lpE ((k+1,_)) (csu U) ⟨((q2.z3 q3 q4 q5).step q6 (λk hk a4=>absurd (a0.blk k hk).1 oo)),⟨sm,by rw[k2j oo c2];exact O⟩⟩ sm)))))))));refine sk (bn' (tn (rg (z0w U (wi6 oo) (mv U (nl ?_))))));have O:=(O.ext q3).fr q4 (by first|exact z9n O oo|simp[z0u]<;>omega);exact lpE ((k+1,_)) (csu U) ⟨(q2.z2 q3 q4),⟨sm,by rw[k2s oo c2];exact O⟩⟩ sm;obtain rfl:k=l.length:=by omega
 have b5:=v9t l fr D;refine ex (te (te (xh (tn (jn (ι:=Unit) (ll1 10) (λ_j=>[]) (λ_j w'=>Fr [] w0 w'/\Lw.Own z2d 107 w0.heap.size w' vP (btw l fr D)) (csu U) ?_ ?_)))));refine sr (mv U (eq' U (kpL (ll2 10 49) (csu U) (nn (cd U (λc3=>?_) (λc3=>?_))))));refine rg (mv U ?_);have a5:=O;refine cl (ev1 U) (mkC func207) (x4x w0.heap.size _ _ _ O oo) U ?_;rintro _ w7 ⟨O,q7⟩;have z7:=q7.size;exact nl (jE (()) (csu U) ⟨(q2.step q7 (λk hk a4=>absurd (a5.blk k hk).1 oo)),(by rw[j7m c3];exact O)⟩);exact sk (jE (()) (csu U) ⟨q2,(by rw[j5u c3];exact O)⟩);rintro _j w8 ⟨q8,O⟩;have z8:=q8.size;refine kpC (ll1 10) (csu U) (sr (mv U (cl (ev1 U) (mkC func208) (y7h _ (btw l fr D) _ O.sl oo) U ?_)));rintro _ w9 ⟨a3,rfl,b1,hX,q9⟩;have z9:=q9.size;exact asg U (nn (rt (r1 results166 U ⟨_,rfl,⟨a3,rfl,oo,hX.low oo⟩,(q8.n1 q9)⟩)))
end Go.Proofs.YtlfdhllfmoplgaaGreatDoor
namespace Go.G08
open Go.Lw Go.G21
theorem Own.neO {α β:Type}{E:Enc α}{O:Enc β}{T T' b b':Nat}{w:World}{v I:Value}{ys:List α}{zs:List β}(h:Lw.Own E T b w v ys)(Z:Lw.Own O T' b' w I zs)(hT:T≠T'):∀k∈z0u v,k∉z0u I:=by
 intro k D;rcases h with ⟨rfl,rfl⟩|⟨g,cap,cur,rfl,_,hg,_⟩
 cases D;obtain rfl:k=g:=by simpa[z0u] using D
 exact Z.neB hg (l44 hT)
theorem v8e (B:Bd)(r d:Int)(i:Nat):x5r B r d (i+1)=x5r B r d i++u0j B r d i:=by unfold x5r;rw[l73,l35];simp
theorem y8x (B:Bd)(r d p:Int)(i:Nat):y7r B r d p (i+1)=y7r B r d p i++x4e B r d p i:=by unfold y7r;rw[l73,l35];simp
theorem v7b {α β:Type}(f:α->List β){l:List α}{j:Nat}(d:α)(h:j<l.length):(l.take (j+1)).flatMap f=(l.take j).flatMap f++f (l.getD j d):=by
 rw[z5g d h,l35];simp
theorem v5l {B:Bd}(h:BdOk B)(k:Nat):(B.b.getD k []).length<=4:=by
 have:=y6n h 1 ((k:Int)+1);unfold Bd.at atB at this;rwa [if_neg dd,show ((k:Int)+1-1).toNat=k by omega]at this
theorem x5u {B:Bd}(h:BdOk B)(b n:Int):(B.atC b n).length<=4:=by
 unfold Bd.atC;split;exact y6n h b n;simp
theorem flat_len {α β:Type}(f:α->List β)(m:Nat)(hf:∀x,(f x).length<=m):∀l:List α,(l.flatMap f).length<=m*l.length
 | []=>by simp
 | x::l=>by have:=flat_len f m hf l;have:=hf x;rw[l33,l13,l30];rw[Nat.mul_succ];omega
theorem u2o {B:Bd}(h:BdOk B)(r d:Int)(k:Nat):(u0j B r d k).length<=16:=by
 unfold u0j;have D:=flat_len (λx=>(B.atC 0 (y1d r d k)).reverse.map (x7k d x)) 4 (λx=>by rw[l18,l96];exact x5u h _ _) (B.b.getD k []);have:=v5l h k;omega
theorem x8h {B:Bd}(h:BdOk B)(r d:Int)(i:Nat):(x5r B r d i).length<=16*i:=by
 have:=flat_len (u0j B r d) 16 (u2o h r d) (List.range i);rw[l53]at this;exact this
theorem v8c {B:Bd}(h:BdOk B)(r d p:Int)(k:Nat):(x4e B r d p k).length<=4:=by
 unfold x4e;split;simp;rw[l18];exact v5l h k
theorem x5b {B:Bd}(h:BdOk B)(r d p:Int)(i:Nat):(y7r B r d p i).length<=4*i:=by
 have:=flat_len (x4e B r d p) 4 (v8c h r d p) (List.range i);rw[l53]at this;exact this
theorem x5e {B:Bd}(h:BdOk B)(r d p:Int):(z7v B r d p).length<=4*B.b.length:=by
 have:=x5b h r d p B.b.length;unfold z7v;split;rw[l96];exact this;exact this
theorem y5p {B:Bd}(h:BdOk B)(r d:Int):(z2m B r d).length<=16*B.b.length:=by
 have:=x8h h r d B.b.length;unfold z2m;split;rw[l96];exact this;exact this
end Go.G08
namespace Go.Proofs.YtlfdhllfmoplgaaGreatDoor
open Go.Lw Go.G21 Go.G08 _root_.Go.Proofs.Tryz
theorem u5g (q:BdQ)(r d pl:Int)(w0:World)(Z:BdAt w0 q)(hv:BdOk q.p)(hT:StT w0)(hr:-4<=r/\r<=4)(hd:d=0\/d=1)(d7:-4<=r+stI d/\r+stI d<=4)(hp:¬Int.tmod pl 2=0)(d5:-9223372036854775808<=pl/\pl<=9223372036854775807):Rets prog 163 #[bvv q,.int .i64 r,.int .u8 d,.int .i64 pl] w0 λv w'=>(∃g,v=.tuple #[.slice (saa g) (z7v q.p r d pl).length (z7v q.p r d pl).length,.int .i64 0]/\w0.heap.size<=g/\Lw.Own z2d 107 w0.heap.size w' (.slice (saa g) (z7v q.p r d pl).length (z7v q.p r d pl).length) (z7v q.p r d pl))/\Fr [] w0 w':=by
 obtain⟨⟨hf,hb⟩,h4,b1⟩:=z3u hv;have b3:=x5e hv r d pl;rw[l18]at b3;refine we [(0,bvv q),(1,.int .i64 r),(2,.int .u8 d),(3,.int .i64 pl)] func163 U ntmps163 U (.c4 U U U U) ?_;have I:=Z;have a2:=hT;refine sr (bx U (λg4 w1 d4 a0 q1 z1=>(asg U (asg U (nn (sq (sr (z0k U a0 z5a (mv U (mv U ?_))))))))));have Z:=I.ext q1;have hT:=a2.ext q1;refine cl (ev3 U) (mkC func85) (x2h q _ _ _ Z hv hT oo hd oo) U ?_;rintro _ w2 ⟨rfl,q2⟩;have z2:=q2.size;refine asg U (nn (sr (mv U (ne' U (nn (cd U (λc0=>?_) (λc0=>?_)))))));exact absurd U c0;refine sk (tn (sq (sr (mv U (x1r U U t38 (eq' U (nn (cd U (λc1=>?_) (λc1=>?_)))))))));exact absurd c1 hp;refine sk (tn (sr (asg U (nn (jn (ι:=Unit) (ll4 1 2 3 4) (λ_j=>[(11,.int .u8 (1-d))]) (λ_j w'=>Fr [] w2 w') (csu U) ?_ ?_)))));refine sr (mv U (eq' U (nn (cd U (λc2=>?_) (λc2=>?_)))));refine rg (asg U (nl ?_));exact jE (()) (.c5 U U U U (congrArg (λz=>some (Value.int .u8 z)) oo)) (l12 _ _);refine sk ?_;exact jE (()) (.c5 U U U U (congrArg (λz=>some (Value.int .u8 z)) oo)) (l12 _ _);rintro _j w3 q3;have z3:=q3.size;refine kpC (ll5 1 2 3 4 11) (csu U) (sr (asg U (nn (sq (sr (fad U y1b ?_))))));have a0:=a0.ext (q2.n1 q3);refine z0i U a0 U x2f (lnS U underlying23 (mv U (nn (bl (lpK (ι:=Nat×Value) (ll6 1 2 3 11 31 32) (λp=>[(33,.int .i64 (p.1:Int)),(12,p.2)]) (λp w'=>Fr [] w0 w'/\p.1<=q.bs.length/\Lw.Own z2d 107 w0.heap.size w' p.2 (y7r q.p r d pl p.1)) (λp=>q.bs.length-p.1) (0,_) (csu U) ⟨(q1.n2 q2 q3),⟨l15 _,Own.nil _⟩⟩ ?_)))));rintro⟨i,uI⟩ w4 ⟨q4,⟨hi,D⟩⟩;simp only at hi D;have z4:=q4.size;refine kpC [(1,_),(2,_),(3,_),(11,_),(31,_),(32,_),(33,.int .i64 (i:Int)),(12,uI)] (csu U) ?_;have d6:=z1x I.b;have d3:=x5b hv r d pl i;have d9:=z3j b1 i;have e0:=z1x (z1y I.bi i);have e1:-300<=z2c 1 ((i:Int)+1) r/\z2c 1 ((i:Int)+1) r<=300:=by
  unfold z2c;split;omega;split<;>omega
 have e2:stI d = -1\/stI d=1:=by unfold stI;split<;>simp
 refine sr (lt' U (nn (sq (cd U (λc3=>?_) (λc3=>?_)))));refine sk (tn (sq (bl (sr (mv U ?_)))));have Z:=I.ext q4;refine z1b (iq0) U Z.b U y3m z1h (λb6 a3=>?_);refine z1d U (a3 _ Z.b) z4s (asg U (asg U (nn (sr (mv U (z0w U (wi6 oo) (z1v (cs:=[_,_]) (ev2 U) y7p (z0g U (z0g U z0r)) U ?_)))))));refine mv U (cl (ev2 U) v2j (y3l _ _ _ _ oo) U ?_);rintro _ w5 ⟨rfl,q5⟩;have z5:=q5.size;refine asg U (kpL (ll10 1 2 3 11 12 14 15 31 32 33) (csu U) (nn (sq (sq (rbo (r:=59) (L':=ll9 1 2 3 11 12 14 31 32 33) (((pl≠((z2c 1 ((i:Int)+1) r)+(stI d)))/\(pl≠((z2c 1 ((i:Int)+1) r)+(3*(stI d)))))) (csu U) ?_ ?_)))));refine mv U (mv U (mv U (y4c U U underlying226 sz3 ?_)));have hT:=a2.ext (q4.n1 q5);refine z7c U hT.c (y5q hd) na3 (z0w U (wi6 oo) (ne' U (mv U (gs 50 U (λg0=>?_) (λg0=>?_)))));exact gY U (mv U (gY U (mv U (gY U (mv U (gY U (y4c U U underlying226 sz3 (gY U (z7c U hT.c (y5q hd) na3 (gY U (y4q U (wi6 oo) (gY U (z0w U (wi6 oo) (gY U (ne' U (pkt U (rbe U (csu U))))))))))))))))));exact gN U (gN U (gN U (gN U (gN U (gN U (gN U (gN U (pkf U (rbe U (csu U))))))))));refine tn (cd U (λc4=>?_) (λc4=>?_));refine ex (te (xh (tn (rg (z0w U (wi6 oo) (mv U (nl ?_)))))));have D:=D.ext q5;exact lpE ((i+1,_)) (csu U) ⟨(q4.n1 q5),⟨sm,by rw[y8x,show x4e q.p r d pl i=[] from if_pos c4,l27];exact D⟩⟩ sm;refine sk (tn (sr (mv U (lnS U underlying30 (mv U (nn (bl ?_)))))));have D:=D.ext q5;refine lpK (ι:=Nat×Value) (ll9 1 2 3 11 31 32 33 60 61) (λp=>[(62,.int .i64 (p.1:Int)),(12,p.2)]) (λp w'=>Fr [] w0 w'/\p.1<=(q.bs.getD i iq0).2.length/\Lw.Own z2d 107 w0.heap.size w' p.2 ((y7r q.p r d pl i)++((q.bs.getD i iq0).2.take p.1).map (λx=>(⟨x,true,1-d⟩:Pa)))) (λp=>(q.bs.getD i iq0).2.length-p.1) (0,uI) (csu U) ⟨(q4.n1 q5),⟨l15 _,by simpa using D⟩⟩ ?_;rintro⟨j,uJ⟩ w6 ⟨q6,⟨hj,D⟩⟩;simp only at hj D;have z6:=q6.size;refine kpC [(1,_),(2,_),(3,_),(11,_),(31,_),(32,_),(33,_),(60,_),(61,_),(62,.int .i64 (j:Int)),(12,uJ)] (csu U) (sr (lt' U (nn (sq (cd U (λc5=>?_) (λc5=>?_))))));refine sk (tn (sq (bl (sr ?_))));have Z:=I.ext q6;refine z1b (id0) U (z1y Z.bi i) U z3k z1h (λb7 a4=>?_);refine z1q U (a4 _ (z1y Z.bi i)) z2h (al z9f U (λd0 w7 b8 O q7 z7=>?_));refine z0j (vs:=[_,_]) U O z8r (λw8 O q8 z8=>?_) (h1:=t19);refine nn (rg (mv U (z0k U O z2h (mv U (z1v (cs:=[_,_,_,_]) (ev3 U) j9p (z0g U (z0g U (z0g U z0r))) U ?_)))));refine z1m ([(⟨((q.bs.getD i iq0).2.getD j id0),true,1-d⟩:Pa)]) (ev1 U) U z4q (λd1 w9 b9 a5 q9 z9=>?_);have D:=((D.ext q7).fr q8 (by first|exact z9n D oo|simp[z0u]<;>omega)).ext q9;have a1:=D;refine z2e U D a5.sl z4q (λe3 e4 D a6 b5=>?_) (hM:=t62) (hb:=t63);have e8:=a6.size;exact asg U (kpL (ll11 1 2 3 11 12 31 32 33 60 61 62) (csu U) (nl (bn' (tn (rg (z0w U (wi6 oo) (mv U (nl (lpE ((j+1,_)) (csu U) ⟨((q6.z3 q7 q8 q9).step a6 (λk hk b2=>absurd (a1.blk k hk).1 oo)),⟨sm,by rw[y4t (λx=>(⟨x,true,1-d⟩:Pa)) id0 oo,<-l17];exact D⟩⟩ sm)))))))));obtain rfl:j=(q.bs.getD i iq0).2.length:=by omega
 rw[l34]at D;exact ex (te (te (xh (bn' (tn (rg (z0w U (wi6 oo) (mv U (nl (lpE ((i+1,_)) (csu U) ⟨q6,⟨sm,by rw[y8x,show x4e q.p r d pl i=_ from if_neg c4,z4c];exact D⟩⟩ sm))))))))));obtain rfl:i=q.bs.length:=by omega
 refine ex (te (te (xh (tn (jn (ι:=Unit) (ll1 12) (λ_j=>[]) (λ_j w'=>Fr [] w0 w'/\Lw.Own z2d 107 w0.heap.size w' uI (z7v q.p r d pl)) (csu U) ?_ ?_)))));refine sr (mv U (eq' U (kpL (ll2 12 75) (csu U) (nn (cd U (λc6=>?_) (λc6=>?_))))));refine rg (mv U ?_);have b4:=D;refine cl (ev1 U) (mkC func207) (x4x w0.heap.size _ _ _ D oo) U ?_;rintro _ e5 ⟨D,a7⟩;have e9:=a7.size;exact nl (jE (()) (csu U) ⟨(q4.step a7 (λk hk b2=>absurd (b4.blk k hk).1 oo)),(by rw[show z7v q.p r d pl=_ from if_pos oo,l18];exact D)⟩);exact sk (jE (()) (csu U) ⟨q4,(by rw[show z7v q.p r d pl=_ from if_neg oo,l18];exact D)⟩);rintro _j e6 ⟨a8,D⟩;have f0:=a8.size;refine kpC (ll1 12) (csu U) (sr (mv U (cl (ev1 U) (mkC func208) (y7h _ (z7v q.p r d pl) _ D.sl oo) U ?_)));rintro _ e7 ⟨b0,rfl,c9,hX,a9⟩;have f1:=a9.size;exact asg U (asg U (nn (rt (r2 results163 U U ⟨_,rfl,⟨b0,rfl,oo,hX.low oo⟩,(a8.n1 a9)⟩))))
theorem j9c:BuildAt prog 101 [(0,2),(2,2),(4,1)] [(.int .u8 0),(.int .i64 0),(.int .u8 0),(.int .i64 0),(.int .i64 0)]:=BuildAt.struct underlying101 (λ_=>kr) (λ_=>kr)
theorem x6r (q:BdQ)(r d:Int)(w0:World)(hB:BdAt w0 q)(hv:BdOk q.p)(hT:StT w0)(hr:-4<=r/\r<=4)(hd:d=0\/d=1)(g1:-4<=r+stI d/\r+stI d<=4):Rets prog 36 #[bvv q,.int .i64 r,.int .u8 d] w0 λv w'=>(∃g,v=.tuple #[.slice (saa g) (z2m q.p r d).length (z2m q.p r d).length,.int .i64 0]/\w0.heap.size<=g/\Lw.Own z4m 101 w0.heap.size w' (.slice (saa g) (z2m q.p r d).length (z2m q.p r d).length) (z2m q.p r d))/\Fr [] w0 w':=by
 obtain⟨⟨hf,hb⟩,h4,b5⟩:=z3u hv;have g0:=z1x hB.b;have e2:=y5p hv r d;rw[l18]at e2;refine we [(0,bvv q),(1,.int .i64 r),(2,.int .u8 d)] func36 U ntmps36 U (.c3 U U U) ?_;have a5:=hB;have d9:=hT;refine sr (bx U (λg3 w1 f9 a1 q1 z1=>(asg U (asg U (nn (sq (sr (z0k U a1 z5a (mv U (mv U ?_))))))))));have hB:=a5.ext q1;have hT:=d9.ext q1;refine cl (ev3 U) (mkC func85) (x2h q _ _ _ hB hv hT oo hd oo) U ?_;rintro _ w2 ⟨rfl,q2⟩;have z2:=q2.size;have a1:=a1.ext q2;have b6:=a1;refine asg U (nn (sr (mv U (ne' U (nn (cd U (λc0=>?_) (λc0=>?_)))))));exact absurd U c0;refine sk (tn (sr (asg U (nn (sq (sr (fad U y1b (z0i U a1 U x2f (lnS U underlying23 (mv U (nn (bl (lpK (ι:=Nat×Value) (ll5 1 2 3 26 27) (λp=>[(28,.int .i64 (p.1:Int)),(9,p.2)]) (λp w'=>Fr [] w2 w'/\p.1<=q.bs.length/\Lw.Own z4m 101 w2.heap.size w' p.2 (x5r q.p r d p.1)) (λp=>q.bs.length-p.1) (0,_) (csu U) ⟨(l12 _ _),⟨l15 _,Own.nil _⟩⟩ ?_)))))))))))));rintro⟨i,uI⟩ w3 ⟨q3,⟨hi,I⟩⟩;simp only at hi I;have z3:=q3.size;refine kpC [(1,_),(2,_),(3,_),(26,_),(27,_),(28,.int .i64 (i:Int)),(9,uI)] (csu U) ?_;have f7:=x8h hv r d i;have g4:=z3j b5 i;have g5:=z1x (z1y a5.bi i);have f8:-10<=y1d r d i/\y1d r d i<=50:=by unfold y1d;split<;>omega
 have e0:((q.p.atC 0 (y1d r d i)).reverse).length<=4:=by rw[l96];exact x5u hv _ _
 refine sr (lt' U (nn (sq (cd U (λc1=>?_) (λc1=>?_)))));refine sk (tn (sq (bl (sr (mv U ?_)))));have hB:=a5.ext (q1.n2 q2 q3);refine z1b (iq0) U hB.b U y3m z1h (λe5 b7=>?_);refine z1d U (b7 _ hB.b) z4s (asg U (asg U (nn (sr (mv U (z0w U (wi6 oo) (mv U (z0w U (wi6 oo) (asg U (nn (jn (ι:=Unit) (ll8 1 2 3 9 11 26 27 28) (λ_j=>[(12,.int .i64 (y1d r d i))]) (λ_j w'=>Fr [] w2 w'/\Lw.Own z4m 101 w2.heap.size w' uI (x5r q.p r d i)) (csu U) ?_ ?_)))))))))));refine sr (mv U (eq' U (nn (cd U (λc2=>?_) (λc2=>?_)))));exact rg (mv U (z2x U (wi6 oo) (asg U (nl (jE (()) (.d8 U U U U U U U U (.cons (by first|(rw[show y1d r d i=_ from if_pos c2];rfl)|(rw[show y1d r d i=_ from if_neg c2];rfl)) .nil)) ⟨q3,I⟩)))));exact sk (jE (()) (.d8 U U U U U U U U (.cons (by first|(rw[show y1d r d i=_ from if_pos c2];rfl)|(rw[show y1d r d i=_ from if_neg c2];rfl)) .nil)) ⟨q3,I⟩);rintro _j w4 ⟨q4,I⟩;have z4:=q4.size;refine kpC (ll9 1 2 3 9 11 26 27 28 12) (csu U) (sr ?_);have a1:=b6.ext q4;refine z0k U a1 z5a (mv U (z1v (cs:=[_,_]) (ev2 U) y7p (z0g U (z0g U z0r)) U ?_));have hB:=a5.ext (q1.n2 q2 q4);refine cl (ev2 U) v3r (y5u q 0 (y1d r d i) _ hB oo hf hb h4 b5) U ?_;rintro g6 w5 ⟨O,q5⟩;have O:=O.low (show w2.heap.size<=_ by omega);have z5:=q5.size;refine asg U (nn (sr (mv U ?_)));have a6:=O;have I:=I.ext q5;refine cl (ev1 U) (mkC func86) (v5w w2.heap.size _ _ _ O (by have:=x5u hv 0 (y1d r d i);omega)) U ?_;rintro _ w6 ⟨O,q6⟩;have I:=I.fr q6 (Own.neO a6 I dd);have z6:=q6.size;obtain⟨b3,b4,rfl,e8⟩:=O.sl.form;refine nn (sr (mv U (lnS U underlying30 (mv U (nn (bl (lpK (ι:=Nat×Value) (ll9 1 2 3 13 26 27 28 47 48) (λp=>[(49,.int .i64 (p.1:Int)),(9,p.2)]) (λp w'=>Fr [] w2 w'/\p.1<=(q.bs.getD i iq0).2.length/\Lw.Own z4m 101 w2.heap.size w' p.2 ((x5r q.p r d i)++((q.bs.getD i iq0).2.take p.1).flatMap (λx=>((q.p.atC 0 (y1d r d i)).reverse).map (x7k d x)))/\Lw.Own z1g 64 w2.heap.size w' (.slice b3 ((q.p.atC 0 (y1d r d i)).reverse).length b4) ((q.p.atC 0 (y1d r d i)).reverse)) (λp=>(q.bs.getD i iq0).2.length-p.1) (0,_) (csu U) ⟨((q4.n1 q5).step q6 (λk hk b2=>absurd (a6.blk k hk).1 oo)),⟨l15 _,by simpa using I,O⟩⟩ ?_)))))));rintro⟨j,uJ⟩ w7 ⟨q7,⟨hj,I,O⟩⟩;simp only at hj I;have z7:=q7.size;refine kpC [(1,_),(2,_),(3,_),(13,_),(26,_),(27,_),(28,_),(47,_),(48,_),(49,.int .i64 (j:Int)),(9,uJ)] (csu U) ?_;have e1:=flat_len (λx=>((q.p.atC 0 (y1d r d i)).reverse).map (x7k d x)) 4 (λx=>by rw[l18];exact e0) ((q.bs.getD i iq0).2.take j);rw[l28]at e1;refine sr (lt' U (nn (sq (cd U (λc3=>?_) (λc3=>?_)))));refine sk (tn (sq (bl (sr ?_))));have hB:=a5.ext (q1.n2 q2 q7);refine z1b (id0) U (z1y hB.bi i) U z3k z1h (λe6 b8=>?_);refine z1q U (b8 _ (z1y hB.bi i)) z2h (al z9f U (λd6 w8 e9 D q8 z8=>?_));refine z0j (vs:=[_,_]) U D z8r (λw9 D q9 z9=>?_) (h1:=t19);refine nn (sr (mv U (lnS U underlying30 (mv U (nn (bl ?_))))));have I:=(I.ext q8).fr q9 (by first|exact z9n I oo|simp[z0u]<;>omega);have O:=(O.ext q8).fr q9 (by first|exact z9n O oo|simp[z0u]<;>omega);refine lpK (ι:=Nat×Value) [(1,_),(2,_),(3,_),(13,_),(15,_),(26,_),(27,_),(28,_),(47,_),(48,_),(49,_),(53,_),(54,_)] (λp=>[(55,.int .i64 (p.1:Int)),(9,p.2)]) (λp w'=>Fr [] w2 w'/\p.1<=((q.p.atC 0 (y1d r d i)).reverse).length/\Lw.Own z4m 101 w2.heap.size w' p.2 (((x5r q.p r d i)++((q.bs.getD i iq0).2.take j).flatMap (λx=>((q.p.atC 0 (y1d r d i)).reverse).map (x7k d x)))++(((q.p.atC 0 (y1d r d i)).reverse).take p.1).map (x7k d ((q.bs.getD i iq0).2.getD j id0)))/\Lw.Own z1g 64 w2.heap.size w' (.slice b3 ((q.p.atC 0 (y1d r d i)).reverse).length b4) ((q.p.atC 0 (y1d r d i)).reverse)/\Blk w' d6 64 (z1g.enc ((q.bs.getD i iq0).2.getD j id0))) (λp=>((q.p.atC 0 (y1d r d i)).reverse).length-p.1) (0,_) (csu U) ⟨(q7.z2 q8 q9),⟨l15 _,by simpa using I,O,D⟩⟩ ?_;rintro⟨k,uK⟩ g9 ⟨a7,⟨hk,I,O,D⟩⟩;simp only at hk I;have i1:=a7.size;have d1:=D.lt;refine kpC [(1,_),(2,_),(3,_),(13,_),(15,_),(26,_),(27,_),(28,_),(47,_),(48,_),(49,_),(53,_),(54,_),(55,.int .i64 (k:Int)),(9,uK)] (csu U) (sr (lt' U (nn (sq (cd U (λc4=>?_) (λc4=>?_))))));refine sk (tn (sq (bl (sr (z1b (id0) U O.sl U z3k z1h (λe7 b9=>?_))))));refine z1q U (b9 _ O.sl) z2h (al z9f U (λf4 h0 f0 a4 Z i2=>?_));refine z0j (vs:=[_,_]) U a4 z8r (λh2 a4 a0 i3=>?_) (h1:=t19);refine nn (sr (mv U (eq' U (nn (cd U (λc5=>?_) (λc5=>?_))))));refine rg (mv U (z0k U a4 z2h ?_));have D:=(D.ext Z).fr a0;refine z0k U D z2h (z1v (cs:=[_,_,_,_,_]) (ev3 U) j9c (z0g U (z0g U (z0g U z0r))) U ?_);refine z1m ([(⟨(((q.p.atC 0 (y1d r d i)).reverse).getD k id0),((q.bs.getD i iq0).2.getD j id0),1⟩:Cx)]) (ev1 U) U x2r (λf5 h3 f1 c9 a8 i4=>?_);have O:=((O.ext Z).fr a0 (by first|exact z9n O oo|simp[z0u]<;>omega)).ext a8;have D:=D.ext a8;have I:=((I.ext Z).fr a0 (by first|exact z9n I oo|simp[z0u]<;>omega)).ext a8;have a2:=I;refine z2e U I c9.sl x2r (λg7 h5 I a9 e3=>?_) (hM:=t62) (hb:=t63);have i5:=a9.size;have O:=O.fr a9 ((Own.neO a2 O dd));have D:=D.fr a9 (λhk=>a2.neB D dd hk);exact asg U (kpL [(1,_),(2,_),(3,_),(9,_),(13,_),(15,_),(26,_),(27,_),(28,_),(47,_),(48,_),(49,_),(53,_),(54,_),(55,_)] (csu U) (nl (bn' (tn (rg (z0w U (wi6 oo) (mv U (nl (lpE ((k+1,_)) (csu U) ⟨((a7.z3 Z a0 a8).step a9 (λk hk b2=>absurd (a2.blk k hk).1 oo)),⟨sm,by rw[y4t (x7k d ((q.bs.getD i iq0).2.getD j id0)) id0 oo,<-l17,show x7k d ((q.bs.getD i iq0).2.getD j id0) (((q.p.atC 0 (y1d r d i)).reverse).getD k id0)=_ from if_pos c5];exact I,O,D⟩⟩ sm)))))))));refine rg (mv U ?_);have D:=(D.ext Z).fr a0;refine z0k U D z2h (z0k U a4 z2h (z1v (cs:=[_,_,_,_,_]) (ev3 U) j9c (z0g U (z0g U (z0g U z0r))) U ?_));refine z1m ([(⟨((q.bs.getD i iq0).2.getD j id0),(((q.p.atC 0 (y1d r d i)).reverse).getD k id0),-1⟩:Cx)]) (ev1 U) U x2r (λf6 h6 f2 d0 b0 i7=>?_);have O:=((O.ext Z).fr a0 (by first|exact z9n O oo|simp[z0u]<;>omega)).ext b0;have D:=D.ext b0;have I:=((I.ext Z).fr a0 (by first|exact z9n I oo|simp[z0u]<;>omega)).ext b0;have a3:=I;refine z2e U I d0.sl x2r (λg8 h7 I b1 e4=>?_) (hM:=t62) (hb:=t63);have i8:=b1.size;have O:=O.fr b1 ((Own.neO a3 O dd));have D:=D.fr b1 (λhk=>a3.neB D dd hk);exact asg U (kpL [(1,_),(2,_),(3,_),(9,_),(13,_),(15,_),(26,_),(27,_),(28,_),(47,_),(48,_),(49,_),(53,_),(54,_),(55,_)] (csu U) (nl (bn' (tn (rg (z0w U (wi6 oo) (mv U (nl (lpE ((k+1,_)) (csu U) ⟨((a7.z3 Z a0 b0).step b1 (λk hk b2=>absurd (a3.blk k hk).1 oo)),⟨sm,by rw[y4t (x7k d ((q.bs.getD i iq0).2.getD j id0)) id0 oo,<-l17,show x7k d ((q.bs.getD i iq0).2.getD j id0) (((q.p.atC 0 (y1d r d i)).reverse).getD k id0)=_ from if_neg c5];exact I,O,D⟩⟩ sm)))))))));obtain rfl:k=((q.p.atC 0 (y1d r d i)).reverse).length:=by omega
 rw[l34]at I;exact ex (te (te (xh (bn' (tn (rg (z0w U (wi6 oo) (mv U (kpL (ll11 1 2 3 9 13 26 27 28 47 48 49) (csu U) (nl (lpE ((j+1,_)) (csu U) ⟨a7,⟨sm,by rw[v7b (λx=>((q.p.atC 0 (y1d r d i)).reverse).map (x7k d x)) id0 oo,<-l17];exact I,O⟩⟩ sm)))))))))));obtain rfl:j=(q.bs.getD i iq0).2.length:=by omega
 rw[l34]at I;exact ex (te (te (xh (bn' (tn (rg (z0w U (wi6 oo) (mv U (kpL (ll7 1 2 3 9 26 27 28) (csu U) (nl (lpE ((i+1,_)) (csu U) ⟨q7,⟨sm,by rw[v8e,show u0j q.p r d i=(q.bs.getD i iq0).2.flatMap (λx=>((q.p.atC 0 (y1d r d i)).reverse).map (x7k d x)) from by unfold u0j;rw[z4c]];exact I⟩⟩ sm)))))))))));obtain rfl:i=q.bs.length:=by omega
 refine ex (te (te (xh (tn (jn (ι:=Unit) (ll1 9) (λ_j=>[]) (λ_j w'=>Fr [] w0 w'/\Lw.Own z4m 101 w0.heap.size w' uI (z2m q.p r d)) (csu U) ?_ ?_)))));refine sr (mv U (eq' U (kpL (ll2 9 77) (csu U) (nn (cd U (λc6=>?_) (λc6=>?_))))));refine rg (mv U ?_);have a6:=I;refine cl (ev1 U) (mkC func87) (u0g w2.heap.size _ _ _ I oo) U ?_;rintro _ h8 ⟨I,d3⟩;have i9:=d3.size;exact nl (jE (()) (csu U) ⟨((q1.n2 q2 q3).step d3 (λk hk b2=>absurd (a6.blk k hk).1 oo)),(by rw[show z2m q.p r d=_ from if_pos oo,l18];exact I.low oo)⟩);exact sk (jE (()) (csu U) ⟨(q1.n2 q2 q3),(by rw[show z2m q.p r d=_ from if_neg oo,l18];exact I.low oo)⟩);rintro _j h9 ⟨d4,I⟩;have j0:=d4.size;refine kpC (ll1 9) (csu U) (sr (mv U (cl (ev1 U) (mkC func88) (x6l _ (z2m q.p r d) _ I.sl oo) U ?_)));rintro _ i0 ⟨d7,rfl,f3,hY,d5⟩;have j1:=d5.size;exact asg U (asg U (nn (rt (r2 results36 U U ⟨_,rfl,⟨d7,rfl,oo,hY.low oo⟩,(d4.n1 d5)⟩))))
end Go.Proofs.YtlfdhllfmoplgaaGreatDoor
namespace Go.G08
open Go.Lw Go.G21
def orZ:List Int->Int
  | []=>0
  | x::l=>if x≠0 then x else orZ l
theorem v6u:∀ {l:List Int} {i:Nat},i<l.length->(∀j,j<i->l.getD j 0=0)->l.getD i 0≠0->orZ l=l.getD i 0
 | x::l,0,_,_,h=>by simp only[l83]at h ⊢;exact if_pos h
 | x::l,i+1,hi,hj,h=>by
  have D:=hj 0 oo
  simp only[l83]at D
  rw[show orZ (x::l)=if x≠0 then x else orZ l from U,if_neg oo]
  simp only[l59]at h ⊢
  exact v6u (by simpa using hi) (λj hl=>by have:=hj (j+1) oo;simpa only[l59] using this) h
theorem x1z:∀ {l:List Int},(∀j,j<l.length->l.getD j 0=0)->orZ l=0
 | [],_=>rfl
 | x::l,hj=>by
  have D:=hj 0 sp0
  simp only[l83]at D
  rw[show orZ (x::l)=if x≠0 then x else orZ l from U,if_neg oo]
  exact x1z (λj hl=>by have:=hj (j+1) (by simpa using hl);simpa only[l59] using this)
theorem v1m (a b:LId):orZ [y0w a.y b.y,y0w a.n b.n]=z5o a b:=by
 unfold orZ orZ orZ y0w z5o
 repeat' split
 all_goals first|rfl|omega
end Go.G08
namespace Go.Lw
open Go.RowKit
def MapL {κ:Type}[DecidableEq κ](V:κ->Value)(w:World)(g:Nat)(m:List (κ×Value)):Prop:=
  ∃(es:Array MapEntry) (c:Nat),w.heap[g]?=some (.map es c)/\es.toList.map (λe=>(e.key,e.val))=m.map (λp=>(V p.1,p.2))/\(m.map (·.1)).Nodup/\(es.toList.map (·.born)).Nodup/\∀e∈es.toList,e.born<c
def z6d {κ:Type}[DecidableEq κ](m:List (κ×Value))(k:κ):List (κ×Value):=
  match (m.map (·.1)).findIdx? (λx=>decide (k=x)) with
  | some i=>m.eraseIdx i
  | none=>m
def MapIt {κ:Type}[DecidableEq κ](V:κ->Value)(w:World)(gi g:Nat)(m rem:List (κ×Value))(cur:Option (κ×Value)):Prop:=
  ∃(es:Array MapEntry) (c:Nat) (seen:Array Nat),w.heap[g]?=some (.map es c)/\es.toList.map (λe=>(e.key,e.val))=m.map (λp=>(V p.1,p.2))/\(es.toList.map (·.born)).Nodup/\(∀e∈es.toList,e.born<c)/\
    w.heap[gi]?=some (.mapIter (some g) c seen c)/\(leftOf es seen).toList.map (λe=>(e.key,e.val))=rem.map (λp=>(V p.1,p.2))/\∀p,cur=some p->∃e∈es.toList,∃s':Array Nat,seen=s'.push e.born/\e.key=V p.1/\e.val=p.2
theorem j7a {P:Program}{ops:Array Oper}{Q:Exit->Act->World->Prop}{o:Oper}{rest:List Oper}{a:Act}{n:Nat}{ds:List Nat}{L:List (Nat×Value)}{w w':World}{v:Value}(h:AgM ds a n L)(O:o.guard=none)(I:o.dst=none)(Z:(execOp a.eval o).run P w=.ok (.value v) w')
    (k:∀a,AgM ds a n L->wpList P ops Q rest a w'):wpList P ops Q (o::rest) a w:=
  wpList_plain O λK D=>by
    unfold Oper.wp
    rw[Z]
    show K (a.put o.dst v) w'
    rw[I]
    exact D _ _ (k _ h)
theorem y7t {D:Type}(m:List (D×Value))(i:Nat)(v:Value):(m.modify i λp=>(p.1,v)).map (·.1)=m.map (·.1):=by
 apply l57;intro j;simp only[l23,l101];by_cases h:i=j;subst h;cases m[i]?<;>simp
 simp[h]
theorem y2f {α β:Type}(f:α->β)(i:Nat)(l:List α):(l.eraseIdx i).map f=(l.map f).eraseIdx i:=by
 apply l57;intro j;simp only[l23,List.getElem?_eraseIdx];split<;>rfl
section
variable {κ:Type} [DecidableEq κ] {V:κ->Value} {P:Program} {K:TypeId} {w w':World} {g:Nat} {m:List (κ×Value)} {S:List Nat}
theorem MapL.fr (h:MapL V w g m)(hf:Fr S w w')(hn:g∉S:=by simp[z0u]<;>omega):MapL V w' g m:=by
 obtain⟨I,c,D,O⟩:=h;exact⟨I,c,(hf.block g (l14.1 D).1 hn).trans D,O⟩
theorem MapL.ext (h:MapL V w g m)(hf:Fr [] w w'):MapL V w' g m:=h.fr hf sp0
theorem MapL.f (h:MapL V w g m):MapF V w g (z2s m):=let ⟨es,c,h1,h2,_⟩:=h;⟨es,c,m,h1,h2,λ_=>rfl⟩
theorem MapL.lt (h:MapL V w g m):g<w.heap.size:=h.f.lt
theorem MapL.nodup (h:MapL V w g m):(m.map (·.1)).Nodup:=let ⟨_,_,_,_,h,_⟩:=h;h
theorem v5c {k:κ}(h:(m.map (·.1)).findIdx? (λx=>decide (k=x))=none):k∉m.map (·.1):=λD=>by
 rw[List.findIdx?_eq_none_iff]at h
 have:=h k D
 simp at this
theorem y7y {t E:TypeId}(h:MapL V w g m)(hk:KeyLaw P K V)(hu:P.underlying t=some (.map K E))(k:κ)(v:Value) :
    ∃w',(Instr.mapUpdate t (.map (some g)) (V k) v).run P w=.ok () w'/\MapL V w' g (z4j m k v)/\Fr [g] w w'/\w'.heap.size=w.heap.size:=by
  obtain⟨D,c,h1,h2,a9,a6,a3⟩:=h
  have b1:=(l14.1 h1).1
  have a0:D.toList.map (·.key)=(m.map (·.1)).map V:=by
    have:=congrArg (List.map Prod.fst) h2
    simpa[l81,l97] using this
  have O:=hk.find k D.toList (m.map (·.1)) w a0
  have a2:∀o,(setObj g o).run P w=.ok () { w with heap:=w.heap.setIfInBounds g o }:=by intro o;simp[setObj,Sem.run,h1]
  have a7:∀o,Fr [g] w { w with heap:=w.heap.setIfInBounds g o }:=λo=>⟨rfl,rfl,rfl,sp0,λi _ hn=>by
    simp only
    rw[l74 (by intro e;subst e;simp at hn)]⟩
  have Z:∀o,({ w with heap:=w.heap.setIfInBounds g o }:World).heap[g]?=some o:=by intro o;simp[b1]
  have b3:D.toList.length=m.length:=by have:=congrArg List.length h2;simpa using this
  cases hf:(m.map (·.1)).findIdx? (λx=>decide (k=x)) with
  | none=>
    have ea:z4j m k v=m++[(k,v)]:=by unfold z4j;rw[hf]
    rw[ea]
    refine⟨_,?_,⟨_,_,Z (.map (D.push { key:=V k,val:=v,born:=c }) (c+1)),?_,?_,?_,?_⟩,a7 _,sp0⟩
    · rw[hf]at O
      simp only[Instr.mapUpdate,Sem.run_bind,run_underlying hu,Result.andThen_ok,z2v h1,hk.check,O,Option.bind_none,a2]
    · simp[h2]
    · rw[l39]
      exact l78.2 ⟨a9,sp0,λx hx y hy=>by
        simp at hy;subst hy;intro e;subst e;exact v5c hf hx⟩
    · rw[Array.toList_push,l39]
      exact l78.2 ⟨a6,sp0,λx hx y hy=>by
        simp at hy;subst hy
        obtain⟨e,he,rfl⟩:=l48.1 hx
        have:=a3 e he;omega⟩
    · intro e he
      rw[Array.toList_push]at he
      rcases l22.1 he with h|h
      · have:=a3 e h;omega
      · simp at h;subst h;exact Nat.lt_succ_self _
  | some i=>
    have hi:i<m.length:=by
      have:=l76.1 hf
      simpa using this.1
    have a1:i<D.toList.length:=by omega
    have a8:V k=(D.toList[i]).key:=by
      have b0:=List.findIdx?_eq_some_iff_getElem.1 hf
      obtain⟨b4,hp,_⟩:=b0
      have b2:k=(m.map (·.1))[i]:=by simpa using hp
      have e1:(D.toList.map (·.key))[i]?=((m.map (·.1)).map V)[i]?:=by rw[a0]
      simp only[l23,l10 a1,l10 hi,l55,l69]at e1
      rw[e1,b2];simp
    have ea:z4j m k v=m.modify i λp=>(p.1,v):=by unfold z4j;rw[hf]
    rw[ea]
    have I:(D.modify i λe=>{ e with key:=V k,val:=v }).toList.map (·.born)=D.toList.map (·.born):=by
      apply l57
      intro j
      simp only[l23]
      rw[l37,Array.getElem?_modify,l37]
      by_cases hj:i=j
      · subst hj;simp only[if_true];cases D[i]?<;>rfl
      · simp only[hj,if_false]
    refine⟨_,?_,⟨_,_,Z (.map (D.modify i λe=>{ e with key:=V k,val:=v }) c),?_,by rw[y7t m];exact a9,by rw[I];exact a6,?_⟩,a7 _,sp0⟩
    · rw[hf]at O
      have a4:D[i]?=some D.toList[i]:=by rw[<-l37,l10 a1]
      simp only[Option.bind_some,l10 a1,l55]at O
      have a5:(Instr.keyThatStays (((D[i]?).map (·.key)).getD (V k)) (V k)).run P w=.ok (V k) w:=by
        rw[a4]
        simp only[l55,l51,<-a8,Instr.keyThatStays,hk.bits,if_true,Sem.run_pure]
      simp only[Instr.mapUpdate,Sem.run_bind,run_underlying hu,Result.andThen_ok,z2v h1,hk.check,O,a5,a2]
    · apply l57
      intro j
      have e2:=congrArg (·[j]?) h2
      simp only[l23]at e2 ⊢
      rw[l37,Array.getElem?_modify,l101]
      rw[l37]at e2
      by_cases hj:i=j
      · subst hj
        have e3:=l10 hi
        have a4:D[i]?=some D.toList[i]:=by rw[<-l37,l10 a1]
        rw[a4,e3]at e2 ⊢
        simp only[l55,l69,l93]at e2
        simp only[if_true,l55]
        rw[a8,e2.1];rfl
      · simp only[hj,if_false]
        rw[e2];simp
    · intro e he
      have:e.born∈D.toList.map (·.born):=by rw[<-I];exact l85 he
      obtain⟨x,hx,hb⟩:=l48.1 this
      rw[<-hb];exact a3 x hx
theorem x5w {t E:TypeId}{ty:TypeId}(h:MapL V w g m)(hk:KeyLaw P K V)(hu:P.underlying t=some (.map K E))(k:κ) :
    ∃w',(Builtin.delete_ #[t,K] ty #[.map (some g),V k]).run P w=.ok (.tuple #[]) w'/\MapL V w' g (z6d m k)/\Fr [g] w w'/\w'.heap.size=w.heap.size:=by
  obtain⟨O,c,h1,h2,a5,a2,a1⟩:=h
  have a6:=(l14.1 h1).1
  have a0:O.toList.map (·.key)=(m.map (·.1)).map V:=by
    have:=congrArg (List.map Prod.fst) h2
    simpa[l81,l97] using this
  have D:=hk.find k O.toList (m.map (·.1)) w a0
  have Z:∀o,(setObj g o).run P w=.ok () { w with heap:=w.heap.setIfInBounds g o }:=by intro o;simp[setObj,Sem.run,h1]
  have a3:∀o,Fr [g] w { w with heap:=w.heap.setIfInBounds g o }:=λo=>⟨rfl,rfl,rfl,sp0,λi _ hn=>by
    simp only
    rw[l74 (by intro e;subst e;simp at hn)]⟩
  have I:∀o,({ w with heap:=w.heap.setIfInBounds g o }:World).heap[g]?=some o:=by intro o;simp[a6]
  have a7:O.toList.length=m.length:=by have:=congrArg List.length h2;simpa using this
  cases hf:(m.map (·.1)).findIdx? (λx=>decide (k=x)) with
  | none=>
    have ea:z6d m k=m:=by unfold z6d;rw[hf]
    rw[ea]
    refine⟨_,?_,⟨_,_,I (.map O c),h2,a5,a2,a1⟩,a3 _,sp0⟩
    rw[hf]at D
    simp[Builtin.delete_,run_underlying hu,z2v h1,hk.check,D,Z]
  | some i=>
    have ea:z6d m k=m.eraseIdx i:=by unfold z6d;rw[hf]
    rw[ea]
    have hi:i<m.length:=by
      have:=l76.1 hf
      simpa using this.1
    have a4:i<O.toList.length:=by omega
    have el:(O.eraseIdxIfInBounds i).toList=O.toList.eraseIdx i:=by
      unfold Array.eraseIdxIfInBounds
      rw[dif_pos (by simpa using a4),Array.toList_eraseIdx]
    refine⟨_,?_,⟨_,_,I (.map (O.eraseIdxIfInBounds i) c),?_,?_,?_,?_⟩,a3 _,sp0⟩
    · rw[hf]at D
      simp only[Option.bind_some,l10 a4,l55]at D
      simp[Builtin.delete_,run_underlying hu,z2v h1,hk.check,D,Z]
    · rw[el,y2f,y2f,h2]
    · rw[y2f];exact List.Nodup.sublist (List.eraseIdx_sublist _ _) a5
    · rw[el,y2f];exact List.Nodup.sublist (List.eraseIdx_sublist _ _) a2
    · intro e he
      rw[el]at he
      exact a1 e ((List.eraseIdx_sublist _ _).mem he)
variable {a:Act} {n:Nat} {L:List (Nat×Value)} {ds:List Nat} {Q:Exit->Act->World->Prop} {C:World->Prop} {Qa:Act->Prop} {ops:Array Oper} {rest:List Oper}
variable {d:Nat} {ty:TypeId} {pos:String} {after:Array Edge} {x y z:Operand} {t E:TypeId} {k:κ} {v zv:Value}
theorem y9i (h:AgM ds a n L)(hx:ev L x=some (.map (some g)))(hy:ev L y=some (V k))(hz:ev L z=some v)(hm:MapL V w g m)(Z:KeyLaw P K V)(hu:P.underlying t=some (.map K E))
    (q:∀w',MapL V w' g (z4j m k v)->Fr [g] w w'->w'.heap.size=w.heap.size->∀a,AgM ds a n L->wpList P ops Q rest a w'):wpList P ops Q (⟨none,.mapUpdate t x y z,ty,pos,after,none⟩::rest) a w:=by
  obtain⟨w',hr,D,I,O⟩:=y7y hm Z hu k v
  exact y0e h U U (w':=w') (by simp[execOp,h.eval hx,h.eval hy,h.eval hz,hr]) (q w' D I O)
theorem j3m {O:TypeId}(h:AgM ds a n L)(hx:ev L x=some (.map (some g)))(hy:ev L y=some (V k))(hm:MapL V w g m)(hk:KeyLaw P K V)(hu:P.underlying t=some (.map K E))(he:O=K)
    (q:∀w',MapL V w' g (z6d m k)->Fr [g] w w'->w'.heap.size=w.heap.size->∀a,AgM ds a n L->wpList P ops Q rest a w'):wpList P ops Q (⟨none,.call ⟨.builtin .delete,#[x,y],#[t,O]⟩,ty,pos,after,none⟩::rest) a w:=by
  subst he
  obtain⟨w',hr,Z,h2,h3⟩:=x5w (ty:=ty) hm hk hu k
  refine j7a h U U (w':=w') (v:=.tuple #[]) ?_ (q w' Z h2 h3)
  have D:=h.eval hx
  have I:=h.eval hy
  rw[z2p];unfold builtin
  simp[D,I,hr]
theorem MapIt.fr {gi:Nat}{rem:List (κ×Value)}{cur:Option (κ×Value)}(h:MapIt V w gi g m rem cur)(hf:Fr S w w')(h1:g∉S)(h2:gi∉S):MapIt V w' gi g m rem cur:=by
 obtain⟨Z,c,D,I,k2,k3,k4,O,k6⟩:=h;exact⟨Z,c,D,(hf.block g (l14.1 I).1 h1).trans I,k2,k3,k4,(hf.block gi (l14.1 O).1 h2).trans O,k6⟩
theorem MapIt.ext {gi:Nat}{rem:List (κ×Value)}{cur:Option (κ×Value)}(h:MapIt V w gi g m rem cur)(hf:Fr [] w w'):MapIt V w' gi g m rem cur:=h.fr hf sp0 sp0
theorem MapIt.lt {gi:Nat}{rem:List (κ×Value)}{cur:Option (κ×Value)}(h:MapIt V w gi g m rem cur):gi<w.heap.size:=let ⟨_,_,_,_,_,_,_,k5,_⟩:=h;(l14.1 k5).1
theorem MapIt.ne {gi:Nat}{rem:List (κ×Value)}{cur:Option (κ×Value)}(h:MapIt V w gi g m rem cur):g≠gi:=λe=>by
 obtain⟨Z,c,I,O,_,_,_,D,_⟩:=h
 rw[<-e,O]at D;cases D
theorem v8z {I:Array MapEntry}{D:Array Nat}{e:MapEntry}{O Z:List MapEntry}(hn:(I.toList.map (·.born)).Nodup)(h:(leftOf I D).toList=O++e::Z):(leftOf I (D.push e.born)).toList=O++Z:=by
 have h2:(leftOf I (D.push e.born)).toList=(leftOf I D).toList.filter λx=>decide (x.born≠e.born):=by
  unfold leftOf;rw[Array.toList_filter,Array.toList_filter,List.filter_filter];congr 1;funext x;by_cases c1:x.born=e.born;simp[c1];by_cases c2:x.born∈D;simp[c1,c2];simp[c1,c2]
 have hs:((leftOf I D).toList.map (·.born)).Nodup:=by
  refine List.Nodup.sublist (List.Sublist.map _ ?_) hn;unfold leftOf;rw[Array.toList_filter];exact List.filter_sublist
 rw[h]at h2 hs;rw[h2,List.filter_append,l54];rw[l39,l36]at hs;obtain⟨n1,n2,n3⟩:=l78.1 hs;have n4:=List.nodup_cons.1 n2;have f1:O.filter (λx=>decide (x.born≠e.born))=O:=List.filter_eq_self.2 λx hx=>by
  simpa using n3 _ (l85 hx) e.born (l45 ..)
 have f2:Z.filter (λx=>decide (x.born≠e.born))=Z:=List.filter_eq_self.2 λx hx=>by
  have:x.born≠e.born:=λk=>n4.1 (by rw[<-k];exact l85 hx);simpa using this
 rw[f1,f2];simp
theorem u0v (hx:ev L x=some (.map (some g)))(hm:MapL V w g m)(hu:P.underlying t=some (.map K E))(hn:Nat.blt d n=true)
    (q:∀gi w',gi=w.heap.size->MapIt V w' gi g m m none->Fr [] w w'->w'.heap.size=gi+1->WL P ops Q rest n ds w' ((d,pta gi)::L)):WL P ops Q (⟨some d,.range t x,ty,pos,after,none⟩::rest) n ds w L:=λa h=>by
  obtain⟨I,c,O,h2,h3,h4,h5⟩:=hm
  have D:=(l14.1 O).1
  refine z2g h U hn (w':=w.alloc (.mapIter (some g) c #[] c)) (v:=(pta w.heap.size)) ?_ (q _ _ U ⟨I,c,#[],?_,h2,h4,h5,heap_alloc_new w _,?_,λp hp=>by cases hp⟩ (Fr.alloc [] w _) sp0 )
  · have Z:=h.eval hx
    simp only[execOp,Z,Sem.run_bind,run_range_map w t K E g I c hu O,Result.andThen_ok,Sem.run_pure]
  · first|exact(heap_alloc_old w _ D).trans O|exact(heap_alloc_old w _ _ D).trans O
  · rw[<-h2]
    have:(leftOf I #[]).toList=I.toList:=by unfold leftOf;rw[Array.toList_filter];simp
    rw[this]
theorem j2e {gi:Nat}{rem:List (κ×Value)}{cur:Option (κ×Value)}(hx:ev L x=some (pta gi))(hi:MapIt V w gi g m rem cur)(hn:Nat.blt d n=true)
    (qt:∀(r1:List (κ×Value)) (p:κ×Value) (r2:List (κ×Value)),rem=r1++p::r2->∀w',MapIt V w' gi g m (r1++r2) (some p)->Fr [gi] w w'->w'.heap.size=w.heap.size->WL P ops Q rest n ds w' ((d,.tuple #[.bool true,V p.1,p.2])::L))
    (qf:rem=[]->WL P ops Q rest n ds w ((d,.tuple #[.bool false])::L)):WL P ops Q (⟨some d,.next x false,ty,pos,after,none⟩::rest) n ds w L:=λa h=>by
  have a5:=hi.ne
  obtain⟨I,c,D,h1,h2,h3,h4,h5,h6,h7⟩:=hi
  have a4:=(l14.1 h5).1
  have a1:=h.eval hx
  rcases run_next_at (P:=P) w ty gi g c c D I c h5 h1 h4 (l21 _) with ⟨e0,hr⟩|⟨e,he,w1,hw,hr⟩
  · refine z2g h U hn (w':=w) (v:=.tuple #[.bool false]) (by simp only[execOp,a1,Sem.run_bind,hr,Result.andThen_ok,Sem.run_pure]) (qf ?_)
    have:(leftOf I D).toList=[]:=l99.1 (by rw[l106];exact e0)
    rw[this]at h6
    exact List.map_eq_nil_iff.1 h6.symm
  · obtain⟨l1,l2,hl⟩:=List.append_of_mem he
    rw[hl,l39,l36]at h6
    obtain⟨r1,r',a7,e1,e2⟩:=List.map_eq_append_iff.1 h6.symm
    obtain⟨p,r2,a8,e3,e4⟩:=List.map_eq_cons_iff.1 e2
    obtain⟨ek,O⟩:=Prod.mk.inj e3
    have a2:e∈I.toList:=by
      have:e∈(leftOf I D).toList:=he
      unfold leftOf at this;rw[Array.toList_filter]at this;exact(l91.1 this).1
    have a3:Fr [] w w1:=by rcases hw with rfl|rfl;exact l12 _ _;exact Fr.drew _ _
    have a0:w1.heap.size=w.heap.size:=by rcases hw with rfl|rfl<;>rfl
    have Z:Fr [gi] w (ChangeMaps.setBlock w1 gi (.mapIter (some g) c (D.push e.born) c)):=
      (a3.weak sp0).step (S':=[gi]) ⟨rfl,rfl,rfl,by simp[ChangeMaps.setBlock],λk _ hk=>by
        simp only[ChangeMaps.setBlock]
        rw[l74 (by intro e;subst e;simp at hk)]⟩ (by intro k hk _;exact hk)
    refine z2g h U hn (w':=ChangeMaps.setBlock w1 gi (.mapIter (some g) c (D.push e.born) c)) (v:=.tuple #[.bool true,e.key,e.val]) (by simp only[execOp,a1,Sem.run_bind,hr,Result.andThen_ok,Sem.run_pure]) ?_
    rw[<-ek,<-O]
    refine qt r1 p r2 (by rw[a7,a8]) _ ⟨I,c,D.push e.born,?_,h2,h3,h4,?_,?_,λp' a6=>?_⟩ Z (by simp[ChangeMaps.setBlock,a0])
    · exact(Z.block g (l14.1 h1).1 (by simpa using a5)).trans h1
    · simp[ChangeMaps.setBlock,a0,a4]
    · rw[v8z h3 hl,l39,l39,<-e1,<-e4]
    · cases a6
      exact⟨e,a2,D,rfl,ek.symm,O.symm⟩
theorem u4k {gi:Nat}{rem:List (κ×Value)}{p:κ×Value}(hx:ev L x=some (pta gi))(hi:MapIt V w gi g m rem (some p))(hn:Nat.blt d n=true)
    (q:WL P ops Q rest n ds w ((d,.tuple #[V p.1,p.2])::L)):WL P ops Q (⟨some d,.entry x,ty,pos,after,none⟩::rest) n ds w L:=λa h=>by
  obtain⟨es,c,O,h1,h2,h3,h4,h5,h6,h7⟩:=hi
  obtain⟨e,he,s',rfl,Z,D⟩:=h7 p U
  have I:=h.eval hx
  refine z2g h U hn (w':=w) (v:=.tuple #[V p.1,p.2]) ?_ q
  rw[<-Z,<-D]
  simp only[execOp,I,Sem.run_bind,run_entry_at (P:=P) w gi g c s' es c e h5 h1 he h3,Result.andThen_ok,Sem.run_pure]
end
end Go.Lw
namespace Go.G08
open Go.Lw Go.G21
section
variable {κ:Type} [DecidableEq κ] {V:κ->Value} {w w':World} {g:Nat} {m:List (κ×Value)} {S:List Nat}
theorem _root_.Go.Lw.MapL.tf {T:Nat}(h:MapL V w g m)(hf:Fr S w w')(I:OffT w T S):MapL V w' g m:=h.fr hf λO=>by
 obtain⟨T',cs,D,_⟩:=I g O
 exact h.f.ne_blk D U
end
theorem BdO.tf {D I base:Nat}{w w':World}{q:BdQ}{S:List Nat}(h:BdO D I base w q)(hf:Fr S w w')(hS:OffT w D S)(Z:OffT w I S):BdO D I base w' q:=
 ⟨⟨z1z h.f.1 hf hS,λp O=>z1z (h.f.2 p O) hf Z⟩,⟨z1z h.b.1 hf hS,λp O=>z1z (h.b.2 p O) hf Z⟩⟩
structure KpM (Ts:List Nat) (g:Nat) (w w':World):Prop where
  size:w.heap.size<=w'.heap.size
  block:∀k,k<w.heap.size->k≠g->(∀(T:Nat) (cs:List Value),Blk w k T cs->T∉Ts)->w'.heap[k]?=w.heap[k]?
theorem KpM.refl (D:List Nat)(g:Nat)(w:World):KpM D g w w:=⟨l21 _,λ_ _ _ _=>rfl⟩
theorem KpM.trans {D:List Nat}{g:Nat}{a b c:World}(h:KpM D g a b)(I:KpM D g b c):KpM D g a c:=
 ⟨l32 h.size I.size,λk hk Z O=>by
  have e:=h.block k hk Z O
  rw[<-e]
  exact I.block k (l64 hk h.size) Z λT cs hb=>O T cs (e.symm.trans hb)⟩
theorem KpM.of {D:List Nat}{g:Nat}{w w':World}{S:List Nat}(hf:Fr S w w')(I:∀k∈S,k=g\/∃(T:Nat) (cs:List Value),Blk w k T cs/\T∈D):KpM D g w w':=
 ⟨hf.size,λk hk hg O=>hf.block k hk λhm=>by
  rcases I k hm with e|⟨T,cs,Z,hi⟩
  ·exact hg e
  exact O T cs Z hi⟩
theorem v1u {w:World}{k T T':Nat}{cs cs':List Value}(h:Blk w k T cs)(D:Blk w k T' cs'):T=T':=by
 have e:=(show w.heap[k]?=some (.cells cs.toArray T (0,0)) from h).symm.trans (show w.heap[k]?=some (.cells cs'.toArray T' (0,0)) from D);simp only[l69,Obj.cells.injEq]at e;exact e.2.1
theorem KpM.blk {D:List Nat}{g:Nat}{w w':World}(h:KpM D g w w'){k T:Nat}{cs:List Value}(hb:Blk w k T cs)(hg:k≠g)(Z:T∉D):Blk w' k T cs:=
 (h.block k hb.lt hg λT' I O=>by rw[<-v1u hb O];exact Z).trans hb
theorem KpM.map {κ:Type}[DecidableEq κ]{V:κ->Value}{em:List (κ×Value)}{I:List Nat}{g k:Nat}{w w':World}(h:KpM I g w w')(hb:MapL V w k em)(hg:k≠g):MapL V w' k em:=by
 obtain⟨O,c,D,Z⟩:=hb;refine⟨O,c,(h.block k (l14.1 D).1 hg λT cs hb=>?_).trans D,Z⟩;have e:=(show w.heap[k]?=some (.cells cs.toArray T (0,0)) from hb).symm.trans D;cases e
theorem KpM.mapF {κ:Type}[DecidableEq κ]{V:κ->Value}{f:κ->Option Value}{I:List Nat}{g k:Nat}{w w':World}(h:KpM I g w w')(hb:MapF V w k f)(hg:k≠g):MapF V w' k f:=by
 obtain⟨O,c,m,D,Z⟩:=hb;refine⟨O,c,m,(h.block k (l14.1 D).1 hg λT cs hb=>?_).trans D,Z⟩;have e:=(show w.heap[k]?=some (.cells cs.toArray T (0,0)) from hb).symm.trans D;cases e
theorem y8q {α:Type}{E:Enc α}{T base g:Nat}{w:World}{v:Value}{ys:List α}{D:List Nat}(h:Lw.Own E T base w v ys)(I:T∈D):∀k∈z0u v,k=g\/∃(T:Nat) (cs:List Value),Blk w k T cs/\T∈D:=λk Z=>by
 obtain⟨cs,O⟩:=z7q h k Z
 exact .inr ⟨T,cs,O,I⟩
theorem u6t {g k T:Nat}{w:World}{cs:List Value}{D:List Nat}(h:Blk w k T cs)(O:T∈D):∀k'∈[k],k'=g\/∃(T:Nat) (cs:List Value),Blk w k' T cs/\T∈D:=λk' I=>by
 rw[l11]at I;subst I
 exact .inr ⟨T,cs,h,O⟩
structure MA where
  gk:Nat
  gy:Nat
  cy:Nat
  gt:Nat
  ct:Nat
  gc:Nat
  wk:World
abbrev MA.YV (a:MA):Value:=.slice (some ⟨a.gy,0,none⟩) 6 a.cy
abbrev MA.TV (a:MA):Value:=.slice (some ⟨a.gt,0,none⟩) 6 a.ct
structure MQ where
  rk:Int
  q:BdQ
  ys:List YQ
  ts:List TQ
  cr:List Cx
  fa:SV
  fl:List LId
abbrev MQ.p (m:MQ):MSt:=⟨m.rk,m.q.p,m.ys.map YQ.p,z2l m.ts,m.cr,m.fl⟩
abbrev u6u (a:MA)(m:MQ):List Value:=[.int .i64 m.rk,.slice m.q.f.1 m.q.f.2.1 m.q.f.2.2,.slice m.q.b.1 m.q.b.2.1 m.q.b.2.2,a.YV,a.TV,.map (some a.gc),.slice m.fa.1 m.fa.2.1 m.fa.2.2]
def crK (p:LId×LId):Value:=.agg #[.int .u8 p.1.y,.int .i64 p.1.n,.int .u8 p.2.y,.int .i64 p.2.n]
def crM (l:List Cx):List ((LId×LId)×Value):=l.map λc=>((c.a,c.b),.int .i64 c.n)
structure MtOk (τ:TyK) (Mt:Nat):Prop where
  o:τ.Ok
  y:Mt≠τ.Y
  t:Mt≠τ.T
  l:Mt≠τ.L
  i:Mt≠τ.I
  p:Mt≠τ.P
  s:Mt≠τ.S
abbrev u0p (τ:TyK)(Mt:Nat):List Nat:=[Mt,τ.Y,τ.T,τ.L,τ.I]
structure FrM (τ:TyK) (Mt:Nat) (wS:World) (a:MA) (w:World):Prop where
  fr:Fr [] wS w
  kp:KpM (u0p τ Mt) a.gc a.wk w
theorem FrM.size {τ:TyK}{Mt:Nat}{wS w:World}{a:MA}(h:FrM τ Mt wS a w):wS.heap.size<=w.heap.size:=h.fr.size
theorem FrM.next {τ:TyK}{Mt:Nat}{wS w w':World}{a:MA}(h:FrM τ Mt wS a w)(hf:Fr [] w w'):FrM τ Mt wS a w':=⟨h.fr.next hf,h.kp.trans (KpM.of hf sp0)⟩
theorem FrM.step {τ:TyK}{Mt:Nat}{wS w w':World}{a:MA}{S:List Nat}(h:FrM τ Mt wS a w)(hf:Fr S w w')(I:∀k∈S,k=a.gc\/∃(T:Nat) (cs:List Value),Blk w k T cs/\T∈u0p τ Mt)(D:∀k∈S,k<wS.heap.size->k∈([]:List Nat)):FrM τ Mt wS a w':=⟨h.fr.step hf D,h.kp.trans (KpM.of hf I)⟩
structure MkM (τ:TyK) (Mt:Nat) (wS:World) (a:MA) (w:World) (m:MQ):Prop where
  k:Blk w a.gk Mt (u6u a m)
  b:BdO τ.S τ.I wS.heap.size w m.q
  y:YsO τ wS.heap.size w a.YV m.ys
  t:TbO τ wS.heap.size w a.TV m.ts
  c:MapL crK w a.gc (crM m.cr)
  f:Lw.Own z1g τ.I wS.heap.size w (slv m.fa) m.fl
  fb:∀s∈m.q.fs++m.q.bs,∀k∈z0u (slv s.1),k∉z0u (slv m.fa)
  ft:∀i,i<6->∀q∈(m.ts.getD i tq0).2,∀k∈z0u (slv q.th),k∉z0u (slv m.fa)
  ly:m.ys.length=6
  lt:m.ts.length=6
  gk:wS.heap.size<=a.gk
  gc:wS.heap.size<=a.gc
  fr:FrM τ Mt wS a w
def MRet (τ:TyK)(Mt:Nat)(wS:World)(a:MA)(x:MR)(r:Value)(w':World):Prop:=
  FrM τ Mt wS a w'/\match x with
    | .error e=>r=.int .i64 e/\e≠0
    | .ok p=>r=.int .i64 0/\∃m,MkM τ Mt wS a w' m/\m.p=p
section
variable {τ:TyK} {Mt:Nat} {wS w w':World} {a:MA} {m:MQ} {j:Nat} {y:YQ}
theorem MRet.err {x:MR}{e:Int}{w':World}(I:x=.error e)(D:e≠0)(hf:FrM τ Mt wS a w'):MRet τ Mt wS a x (.int .i64 e) w':=by subst I;exact⟨hf,rfl,D⟩
theorem MRet.ok {x:MR}{m:MQ}{w':World}(D:x=.ok m.p)(h:MkM τ Mt wS a w' m):MRet τ Mt wS a x (.int .i64 0) w':=by subst D;exact⟨h.fr,rfl,m,h,rfl⟩
theorem MkM.ext (h:MkM τ Mt wS a w m)(hf:Fr [] w w'):MkM τ Mt wS a w' m:=
 ⟨h.k.ext hf,h.b.ext hf,h.y.ext hf,h.t.ext hf,h.c.fr hf sp0,h.f.ext hf,h.fb,h.ft,h.ly,h.lt,h.gk,h.gc,h.fr.next hf⟩
theorem MkM.yarn (h:MkM τ Mt wS a w m)(D:MtOk τ Mt)(O:j<6)(ho:Lw.Own z3d τ.Y wS.heap.size w' a.YV (m.ys.set j y))(hf:Fr [a.gy] w w')(hp:Lw.Own z2d τ.P wS.heap.size w (slv y.pe) y.pes):MkM τ Mt wS a w' { m with ys:=m.ys.set j y }:=by
 have o:∀T,T≠τ.Y->OffT w T [a.gy]:=λT I=>z6o h.y.out (l44 I);refine⟨y4h h.k hf (o _ D.y),BdO.tf h.b hf (o _ (l44 D.o.ys)) (o _ (l44 D.o.yi)),h.y.put (by rw[h.ly];exact O) D.o ho hf hp,h.t.tf hf (o _ (l44 D.o.yt)) (o _ (l44 D.o.yl)) (o _ (l44 D.o.yi)) (o _ (l44 D.o.yp)),h.c.tf hf (o _ D.y),z1z h.f hf (o _ (l44 D.o.yi)),h.fb,h.ft,by rw[l19];exact h.ly,h.lt,h.gk,h.gc,h.fr.step hf (y8q h.y.out t42) λk Z a0=>?_⟩;have:=(h.y.out.blk k Z).1;omega
theorem MkM.beds {q:BdQ}{r:Int}(h:MkM τ Mt wS a w m)(D:MtOk τ Mt)(hq:BdO τ.S τ.I wS.heap.size w q)(O:Blk w' a.gk Mt (u6u a { m with q:=q,rk:=r }))(hf:Fr [a.gk] w w')(I:∀s∈q.fs++q.bs,∀k∈z0u (slv s.1),k∉z0u (slv m.fa)):MkM τ Mt wS a w' { m with q:=q,rk:=r }:=by
 have o:∀T,T≠Mt->OffT w T [a.gk]:=λT Z=>OffT.one h.k (l44 Z);refine⟨O,BdO.tf hq hf (o _ (l44 D.s)) (o _ (l44 D.i)),h.y.tf hf (o _ (l44 D.y)) (o _ (l44 D.p)),h.t.tf hf (o _ (l44 D.t)) (o _ (l44 D.l)) (o _ (l44 D.i)) (o _ (l44 D.p)),h.c.tf hf (o _ (l44 D.y)),z1z h.f hf (o _ (l44 D.i)),I,h.ft,h.ly,h.lt,h.gk,h.gc,h.fr.step hf (u6t h.k t42) λk O a0=>?_⟩;rw[l11]at O;have:=h.gk;omega
theorem x3r {Z I:Nat}{q:BdQ}{v:Value}{ys:List LId}{T base b:Nat}(O:BdO Z I b w' q)(hv:Lw.Own z1g T base w v ys)(hb:w.heap.size<=b):∀s∈q.fs++q.bs,∀k∈z0u (slv s.1),k∉z0u v:=λs hs k D hb=>by
 have:=(hv.blk k hb).2
 rcases l22.1 hs with e|e
 ·have:=((O.f.2 s e).blk k D).1;omega
 have:=((O.b.2 s e).blk k D).1;omega
theorem MkM.fall {w2:World}{u:SV}{l:List LId}(h:MkM τ Mt wS a w m)(D:MtOk τ Mt)(a0:τ.I≠τ.P)(h1:Lw.Own z1g τ.I wS.heap.size w' (slv u) l)(I:Fr (z0u (slv m.fa)) w w')(hx:∀k∈z0u (slv u),k∈z0u (slv m.fa)\/w.heap.size<=k)
    (O:Blk w2 a.gk Mt (u6u a { m with fa:=u,fl:=l })) (f2:Fr [a.gk] w' w2):MkM τ Mt wS a w2 { m with fa:=u,fl:=l }:=by
  have o1:∀T,T≠τ.I->OffT w T (z0u (slv m.fa)):=λT hT=>z6o h.f (l44 hT)
  have k1:=y4h h.k I (o1 _ D.i)
  have Z:∀T,T≠Mt->OffT w' T [a.gk]:=λT hT=>OffT.one k1 (l44 hT)
  have dx:∀ {v:Value} {xs:List LId},Lw.Own z1g τ.I wS.heap.size w v xs->(∀k∈z0u v,k∉z0u (slv m.fa))->∀k∈z0u v,k∉z0u (slv u):=λho hd k O hb=>by
    rcases hx k hb with e|e
    · exact hd k O e
    · have:=(ho.blk k O).2;omega
  have fi:∀ {v:Value} {xs:List LId},Lw.Own z1g τ.I wS.heap.size w v xs->(∀k∈z0u v,k∉z0u (slv m.fa))->Lw.Own z1g τ.I wS.heap.size w2 v xs:=λho hd=>z1z (ho.fr I λk O hb=>hd k hb O) f2 (Z _ (l44 D.i))
  have a2:∀s∈m.q.fs,Lw.Own z1g τ.I wS.heap.size w2 (slv s.1) s.2:=λs hs=>fi (h.b.f.2 s hs) (h.fb s (l22.2 (.inl hs)))
  have a1:∀s∈m.q.bs,Lw.Own z1g τ.I wS.heap.size w2 (slv s.1) s.2:=λs hs=>fi (h.b.b.2 s hs) (h.fb s (l22.2 (.inr hs)))
  refine⟨O,⟨⟨z1z (z1z h.b.f.1 I (o1 _ D.o.si)) f2 (Z _ (l44 D.s)),a2⟩,⟨z1z (z1z h.b.b.1 I (o1 _ D.o.si)) f2 (Z _ (l44 D.s)),a1⟩⟩,
    (h.y.tf I (o1 _ D.o.yi) (o1 _ (l44 a0))).tf f2 (Z _ (l44 D.y)) (Z _ (l44 D.p)),
    ⟨z1z (z1z h.t.out I (o1 _ D.o.ti)) f2 (Z _ (l44 D.t)),λi hi=>z1z (z1z (h.t.ins i hi) I (o1 _ D.o.li)) f2 (Z _ (l44 D.l)),h.t.off,λi hi q hq=>⟨fi (h.t.lps i hi q hq).1 (h.ft i (by rw[<-h.lt];exact hi) q hq),z1z (z1z (h.t.lps i hi q hq).2 I (o1 _ (l44 a0))) f2 (Z _ (l44 D.p))⟩⟩,
    (h.c.tf I (o1 _ D.i)).tf f2 (Z _ (l44 D.y)),z1z h1 f2 (Z _ (l44 D.i)),λs hs=>?_,λi hi q hq=>dx (h.t.lps i (by rw[h.lt];exact hi) q hq).1 (h.ft i hi q hq),h.ly,h.lt,h.gk,h.gc,(h.fr.step I (y8q h.f t42) λk O a3=>?_).step f2 (u6t k1 t42) λk O a3=>?_⟩
  · rcases l22.1 hs with e|e
    · exact dx (h.b.f.2 s e) (h.fb s hs)
    · exact dx (h.b.b.2 s e) (h.fb s hs)
  · have:=(h.f.blk k O).1;omega
  · rw[l11]at O;have:=h.gk;omega
theorem MkM.mark (h:MkM τ Mt wS a w m):MkM τ Mt wS { a with wk:=w } w m:=⟨h.k,h.b,h.y,h.t,h.c,h.f,h.fb,h.ft,h.ly,h.lt,h.gk,h.gc,⟨h.fr.fr,KpM.refl _ _ _⟩⟩
theorem MkM.unmark (h:MkM τ Mt wS { a with wk:=w } w' m)(D:FrM τ Mt wS a w):MkM τ Mt wS a w' m:=⟨h.k,h.b,h.y,h.t,h.c,h.f,h.fb,h.ft,h.ly,h.lt,h.gk,h.gc,⟨h.fr.fr,D.kp.trans h.fr.kp⟩⟩
def u5a (x:MR):Int:=match x with
  | .error e=>e
  | .ok _=>0
theorem MRet.split {x:MR}{r:Value}(h:MRet τ Mt wS a x r w'):r=.int .i64 (u5a x)/\FrM τ Mt wS a w'/\∃O,u5a x=0->MkM τ Mt wS a w' O/\x=.ok O.p:=by
 obtain⟨I,D⟩:=h;cases x with
 | error e=>exact⟨D.1,I,⟨0,⟨sv0,sv0,[],[]⟩,[],[],[],sv0,[]⟩,λZ=>absurd Z D.2⟩
 | ok p=>exact⟨D.1,I,D.2.choose,λ_=>⟨D.2.choose_spec.1,congrArg Except.ok D.2.choose_spec.2.symm⟩⟩
theorem y0q {x:MR}(h:u5a x≠0):x=.error (u5a x):=by cases x with
 | error e=>rfl
 | ok p=>exact absurd U h
theorem y7g (b n r:Int):-400<=z2c b n r/\z2c b n r<=400:=by
 unfold z2c;split;omega;rename_i h;have D:z4d b n=0:=l16.1 λe=>h (.inl e);have I:-4<=r/\r<=4:=l16.1 λe=>h (.inr e);have:=z2t D;split<;>omega
def OwnIf {α:Type}(c:Prop)(E:Enc α)(T base:Nat)(w:World)(v:Value)(ys:List α):Prop:=c->Lw.Own E T base w v ys
theorem OwnIf.fr {α:Type}{c:Prop}{E:Enc α}{T base:Nat}{w w':World}{v:Value}{ys:List α}{S:List Nat}(h:OwnIf c E T base w v ys)(hf:Fr S w w')(hn:c->∀k∈S,k∉z0u v:=by simp[z0u]<;>omega):OwnIf c E T base w' v ys:=λD=>(h D).fr hf (hn D)
theorem OwnIf.ext {α:Type}{c:Prop}{E:Enc α}{T base:Nat}{w w':World}{v:Value}{ys:List α}(h:OwnIf c E T base w v ys)(hf:Fr [] w w'):OwnIf c E T base w' v ys:=λD=>(h D).ext hf
theorem j6h (m:MQ)(y:Int):m.p.y y=(m.ys.getD (y-1).toNat yq0).p:=by
 unfold MSt.y;rw[List.getD,List.getD,l23];cases m.ys[(y-1).toNat]?<;>rfl
theorem y1n {y:Int}(m:MQ)(q:YQ)(D:(y-1).toNat=j):{ m with ys:=m.ys.set j q }.p=m.p.setY y q.p:=by
 subst D;unfold MSt.setY MQ.p;simp only[l108]
end
end Go.G08
namespace Go.Proofs.YtlfdhllfmoplgaaGreatDoor
open Go.Lw Go.G21 Go.G08 _root_.Go.Proofs.Tryz
theorem x5h (q:YQ)(w0:World)(hp:Sl z2d w0 (slv q.pe) q.pes):Rets prog 128 #[yvv q] w0 λr w'=>∃q':YQ,r=.tuple #[yvv q',.int .i64 (lvE q.p)]/\(lvE q.p=0->q'=⟨false,0,q.ct,false,sv0,[]⟩)/\Fr [] w0 w':=by
 have a4:=z1x hp;have a1:=hp.len_le;unfold maxLen at a1;refine we [(0,yvv q)] func128 U ntmps128 U (.cons U .nil) ?_;have a0:=hp;refine sr (bx U (λg1 w1 a2 I q1 z1=>(al z5p U (λg2 w2 a3 D q2 z2=>(asg U (nn (sq (sr ?_))))))));have I:=I.ext q2;refine z0k U I z3c ?_;have hp:=a0.ext (q1.n1 q2);refine cl (ev1 U) j6v (y0c q _ hp) U ?_;rintro _ w3 ⟨rfl,Z⟩;refine asg U (nn (sr (mv U (ne' U (nn (cd U (λc0=>?_) (λc0=>?_)))))));refine sr (z1v (cs:=[_,_,_,_,_]) z0f y0b z0r U ?_);refine mv U ?_;have D:=D.ext Z;refine z0j (vs:=[_,_,_,_,_]) U D z3h (λw4 D q4 z4=>(asg U (nn (rt (tr (rCT results128 U D z3c U ?_))))));have O:lvE q.p=ynE q.p:=by unfold lvE;rw[if_pos c0]
 exact⟨_,rfl,yq0,by rw[O];rfl,(λh=>absurd h (by rw[O];exact c0)),(q1.z3 q2 Z q4)⟩;refine sk (tn (sq (sr (fad U z7f ?_))));have I:=I.ext Z;refine z0i U I U na4 (nt' U (nn (cd U (λc1=>?_) (λc1=>?_))));refine sr (z1v (cs:=[_,_,_,_,_]) z0f y0b z0r U ?_);have D:=D.ext Z;refine z0j (vs:=[_,_,_,_,_]) U D z3h (λw5 D q5 z5=>(asg U (nn (rt (tr (rCT results128 U D z3c U ?_))))));have O:lvE q.p=12:=by unfold lvE;rw[if_neg c0,if_pos (by simpa using c1)]
 exact⟨_,rfl,yq0,by rw[O];rfl,(λh=>absurd h (by rw[O];decide)),(q1.z3 q2 Z q5)⟩;refine sk (tn (sr (fad U z7e (z0i U I U na3 (z1v (cs:=[_,_,_,_,_]) (ev1 U) y0b (z0g U z0r) U ?_)))));have D:=D.ext Z;refine z0j (vs:=[_,_,_,_,_]) U D z3h (λw6 D q6 z6=>(asg U (nn (rt (rCT results128 U D z3c U ?_)))));have O:lvE q.p=0:=by unfold lvE;rw[if_neg c0,if_neg (by simpa using c1)]
 exact⟨_,rfl,⟨false,0,q.ct,false,sv0,[]⟩,by rw[O];rfl,(λ_=>rfl),(q1.z3 q2 Z q6)⟩
theorem j8f (v:Value)(l:List Int)(w0:World)(I:Sl Enc.i64 w0 v l)(hl:l.length<=1000):Rets prog 137 #[v] w0 λr w'=>r=.int .i64 (orZ l)/\Fr [] w0 w':=by
 obtain⟨A,c,rfl,a1,hM,hA⟩:=id I;clear hA;unfold maxLen at hM;refine we [(0,.slice A l.length c)] func137 U ntmps137 U (.cons U .nil) ?_;have Z:=I;refine sr (asg U (nn (sr (asg U (nn (sq (sr (mv U (lnS U underlying22 (mv U (nn (bl (lpK (ι:=Nat) (ll3 3 6 7) (λi=>[(8,.int .i64 (i:Int))]) (λi w'=>Fr [] w0 w'/\i<=l.length/\∀j,j<i->l.getD j 0=0) (λi=>l.length-i) 0 (csu U) ⟨l12 _ _,⟨l15 _,λj h=>absurd h oo⟩⟩ ?_)))))))))))));rintro i w1 ⟨O,⟨hi,hz⟩⟩;refine kpC (ll4 3 6 7 8) (csu U) (sr (lt' U (nn (sq (cd U (λc0=>?_) (λc0=>?_))))));refine sk (tn (sq (bl (sr ?_))));have I:=Z.ext O;refine z1b (0) U I U z4w z1h (λa0 D=>?_);refine z1d U (D _ I) na3 (asg U (nn (sr (mv U (mv U (ne' U (nn (cd U (λc1=>?_) (λc1=>?_)))))))));refine sr (mv U (asg U (kpL (ll1 2) (csu U) (nn (rt (rb (tr (tr (rb (tr (r1 results137 U ?_)))))))))));exact⟨_,rfl,congrArg (Value.int .i64) (v6u oo hz oo).symm,O⟩;refine sk (bn' (tn (rg (z0w U (wi6 oo) (mv U (nl ?_))))));exact lpE (i+1) (csu U) ⟨O,⟨oo,λj h=>by
  by_cases e:j=i;subst e;omega;exact hz j oo⟩⟩ oo
 obtain rfl:i=l.length:=by omega
 refine ex (te (te (xh (tn (sr (mv U (asg U (kpL (ll1 2) (csu U) (nn (rt (r1 results137 U ?_)))))))))));exact⟨_,rfl,congrArg (Value.int .i64) (x1z hz).symm,O⟩
theorem y0n (x1 x2:LId)(w0:World):Rets prog 76 #[ivv x1,ivv x2] w0 λr w'=>r=.int .i64 (z5o x1 x2)/\Fr [] w0 w':=by
 refine we [(0,ivv x1),(1,ivv x2)] func76 U ntmps76 U (.c2 U U) (sr (bx U (λg2 w1 a3 O q1 z1=>(bx U (λg3 w2 a4 Z q2 z2=>(asg U (nn (sq ?_))))))));intro a h;refine z0h none (λwb w'=>Fr [] wb w') z2o ?_;intro w3 q3;have O:=O.ext (q2.n1 q3);have Z:=Z.ext q3;have hC:Fr [] w3 w3:=l12 _ _;have D:=O;have I:=Z;refine z0c 0 h U z9k U λa h=>z0m 1 h U (λ_ hw=>D.ext hw) U na5 U λa h=>z0c 2 h U z9k U λa h=>z0m 3 h U (λ_ hw=>I.ext hw) U na5 U λa h=>z0c 5 h U y0z U λa h=>z0m 6 h U (λ_ hw=>D.ext hw) U na3 U λa h=>z0c 7 h U y0z U λa h=>z0m 8 h U (λ_ hw=>I.ext hw) U na3 U λa h=>z0e 4 U (z0n h (z0a U (z0a U z0f)) (mkC func138) (j9r _ _ _) ?_);rintro _ w4 ⟨rfl,q4⟩ a h;have hC:=hC.next q4;refine z0b (z0e 9 U (z0n h (z0a U (z0a U z0f)) (mkC func122) (v4o _ _ _) ?_));rintro _ w5 ⟨rfl,q5⟩ a h;have O:=O.ext (q4.n1 q5);have Z:=Z.ext (q4.n1 q5);have hC:=hC.next q5;refine z0b (z0e 10 U (z2r ([y0w x1.y x2.y,y0w x1.n x2.n]) h (z0a U (z0a U z0f)) U z4w λa1 w6 hg a2 q6 hz a h=>?_));have a0:g2<a1:=by have:=O.lt;omega
 have a0:g3<a1:=by have:=Z.lt;omega
 have hC:=hC.next q6;refine z0b (z0e 11 U (z0n h (z0a U z0f) (mkC func137) (j8f _ [y0w x1.y x2.y,y0w x1.n x2.n] _ a2.sl sp0) ?_));rintro _ w7 ⟨rfl,q7⟩ a h;have hC:=hC.next q7;refine z0b (z0e 12 U (z0q h U λa h=>?_));refine z0b (z0o ?_);clear hC D I;refine bk (h.sub (L':=ll1 4) (csu U)) (tn (rt (r1 results76 U ?_)));exact⟨_,rfl,congrArg (Value.int .i64) (v1m x1 x2),(q1.n6 q2 q3 q4 q5 q6 q7)⟩
theorem y4l:ElemOf prog 26 104 z3d 56:=ElemOf.mk' (z:=(.agg #[.bool false,.int .i64 0,.int .i64 0,.bool false,.slice none 0 0])) underlying26 kr U
theorem z3m:z1e prog 145 2 3:=λ_ _=>kr
theorem y4a:z2a prog 26:=λ_=>kr
abbrev τd:TyK:=⟨104,123,155,64,107,30,32⟩
theorem τd_ok:τd.Ok:=by constructor<;>decide
theorem mtd:MtOk τd 145:=⟨τd_ok,dd,dd,dd,dd,dd,dd⟩
theorem j5j (wS:World)(ka:MA)(m:MQ)(o:MOp)(w0:World)(hM:MkM τd 145 wS ka w0 m)(hy:1<=o.y/\o.y<=6):Rets prog 66 #[pta ka.gk,opV o] w0 λr w'=>MRet τd 145 wS ka (inM m.p o) r w':=by
 have d3:=hM.fr.size;have hk:=hM.k;have c1:=hk.lt;have d0:=hM.ly;have c9:=hM.lt;have b8:=(hM.y.out.blk ka.gy t10).2;obtain⟨j,hj,d1⟩:∃j:Nat,j<6/\o.y=(j:Int)+1:=⟨(o.y-1).toNat,oo,oo⟩;have b1:(o.y-1).toNat=j:=by omega
 have a9:m.p.y o.y=(m.ys.getD j yq0).p:=by rw[j6h,b1]
 refine we [(0,pta ka.gk),(1,opV o)] func66 U ntmps66 U (.c2 U U) ?_;have a4:=hM;refine sr (bx U (λg3 w1 b9 D q1 z1=>(asg U (nn (sq ?_)))));have hM:=a4.ext q1;intro a h;refine z0h none (λwb w'=>Fr [] wb w') z2o ?_;intro w2 q2;have z2:=q2.size;have hM:=hM.ext q2;have hk:=hk.ext (q1.n1 q2);have D:=D.ext q2;have hC:Fr [] w2 w2:=l12 _ _;have a0:=hM;have Z:=hk;have I:=D;refine z0d 0 h U λa h=>z0p 1 h U λa h=>z0c 2 h U z3m U λa h=>z0m 3 h U (λ_ hw=>Z.ext hw) U y4a U λa h=>z0c 4 h U z4e U λa h=>z0m 5 h U (λ_ hw=>I.ext hw) U na5 U λa h=>z3a 6 h U t18 U λa h=>z0z (p:=j) (yq0) 7 h U hM.y.out.sl U y4l U λb7 b3 a h=>z1o (cs:=z3d.enc (m.ys.getD j yq0)) 8 h wn U (λ_ hw=>b3 _ (a0.ext hw).y.out.sl) z3c U λa h=>z0c 9 h U z9l U λa h=>z0m 10 h U (λ_ hw=>I.ext hw) U x2e U λa h=>?_;refine z1w 11 15 kr U ?_ ?_;refine z0n h (z0a U (z0a U z0f)) (mkC func127) (x4r (m.ys.getD j yq0) o.d _ (hM.y.ins j oo).sl) ?_;rintro _ w3 ⟨qn,rfl,a7,q3⟩ a h;have z3:=q3.size;have hk:=hk.ext q3;have D:=D.ext q3;have hC:=hC.next q3;refine z0b (z0d 12 h U λa h=>z0l 13 h U λa h=>z0l 14 h U λa h=>z0e 15 U (z0y h z5p U λw4 O q4 hz a h=>?_));obtain⟨a3,hg⟩:∃g,g=w3.heap.size:=⟨_,rfl⟩;rw[<-hg]at O h hz;have b5.gk_5:ka.gk<a3:=by have:=hk.lt;omega
 have b2:g3<a3:=by have:=D.lt;omega
 have z4:=q4.size;have hM:=hM.ext (q3.n1 q4);have hk:=hk.ext q4;have D:=D.ext q4;have hC:=hC.next q4;refine z0b (z0e 16 U (z0t h U O U z3h ?_ (h1:=(by first|(simp[Value.oneCell',S];done)|exact z3d.one (m.ys.getD j yq0)))));clear h a;intro w5 a6 q5 hz a h;have z5:=q5.size;have hk:=hk.fr q5;have D:=D.fr q5;have hC:=hC.sp q5;clear O hz;have O:Blk w5 a3 _ [_,_,_,_,_]:=a6;clear a6;refine z0b (z0e 17 U (z0q h U λa h=>?_));refine z0b (z0o ?_);clear hC a0 Z I;refine bk (h.sub (L':=ll4 0 3 5 6) (csu U)) (tn (sq (sr (mv U (eq' U (nn (cd U (λc0=>?_) (λc0=>?_))))))));obtain rfl:=a7 c0;have hM:=a4.ext (q1.z4 q2 q3 q4 q5);intro a h;refine z0h (some 9) (λwb w'=>Fr [] wb w') z2o ?_;intro w6 q6;have z6:=q6.size;have hM:=hM.ext q6;have hk:=hk.ext q6;have D:=D.ext q6;have O:=O.ext q6;have hC:Fr [] w6 w6:=l12 _ _;have a0:=hM;have Z:=hk;have I:=D;have a1:=O;refine z0d 0 h U λa h=>z0p 1 h U λa h=>z0c 2 h U z3m U λa h=>z0m 3 h U (λ_ hw=>Z.ext hw) U y4a U λa h=>z0c 4 h U z4e U λa h=>z0m 5 h U (λ_ hw=>I.ext hw) U na5 U λa h=>z3a 6 h U t18 U λa h=>z0v 7 h U (λ_ hw=>a1.ext hw) z3c U λa h=>z1k 8 kr kr kr hC (p:=j) h wn U y4l oo oo oo U U λa h=>z0e 9 U (z0x (i:=j) (⟨true,if o.d=1 then 179 else -13,(m.ys.getD j yq0).ct,true,sv0,[]⟩:YQ) h U hM.y.out (by rw[hM.ly];exact hj) U z3h λw7 a2 q7 _hz a h=>?_);have hM:=hM.yarn mtd hj a2 q7 (Own.nil _);have a4:=hM;clear a2;have z7:=q7.size;have D:=D.fr q7;have O:=O.fr q7;have hk:=hM.k;clear _hz;refine z1l (z0o ?_);clear hC a0 Z I a1;refine bk (h.sub (L':=ll1 6) (csu U)) (tn (sr (mv U (asg U (nn (rt (r1 results66 U ?_)))))));exact⟨_,rfl,by rw[c0];exact MRet.ok (by unfold inM;rw[a9,if_neg (λe=>e c0)];exact congrArg Except.ok (y1n m (⟨true,if o.d=1 then 179 else -13,(m.ys.getD j yq0).ct,true,sv0,[]⟩:YQ) b1).symm) hM⟩;refine sk (tn (sr (mv U (asg U (kpL (ll1 4) (csu U) (nn (rt (r1 results66 U ?_))))))));have hM:=a4.ext (q1.z4 q2 q3 q4 q5);exact⟨_,rfl,MRet.err (by unfold inM;rw[a9,if_pos c0]) c0 hM.fr⟩;refine z0y h z5p U λw8 O q8 hz a h=>?_;obtain⟨a3,hg⟩:∃g,g=w2.heap.size:=⟨_,rfl⟩;rw[<-hg]at O h hz;have b5.gk_5:ka.gk<a3:=by have:=hk.lt;omega
 have b2:g3<a3:=by have:=D.lt;omega
 have z8:=q8.size;have hM:=hM.ext q8;have hC:=hC.next q8;refine z0b (z0e 11 U (z0n h (z0a U (z0a U z0f)) (mkC func127) (x4r (m.ys.getD j yq0) o.d _ (hM.y.ins j oo).sl) ?_));rintro _ w9 ⟨qn,rfl,a7,q9⟩ a h;have z9:=q9.size;have hM:=hM.ext q9;have hk:=hk.ext (q8.n1 q9);have D:=D.ext (q8.n1 q9);have O:=O.ext q9;have hC:=hC.next q9;refine z0b (z0d 12 h U λa h=>z0l 13 h U λa h=>z0l 14 h U λa h=>z0e 16 U (z0t h U O U z3h ?_ (h1:=(by first|(simp[Value.oneCell',S];done)|exact z3d.one (m.ys.getD j yq0)))));clear h a;intro b6 a6 a5 hz a h;have d5:=a5.size;have hk:=hk.fr a5;have D:=D.fr a5;have hC:=hC.sp a5;clear O hz;have O:Blk b6 a3 _ [_,_,_,_,_]:=a6;clear a6;refine z0b (z0e 17 U (z0q h U λa h=>?_));refine z0b (z0o ?_);clear hC a0 Z I;refine bk (h.sub (L':=ll4 0 3 5 6) (csu U)) (tn (sq (sr (mv U (eq' U (nn (cd U (λc0=>?_) (λc0=>?_))))))));obtain rfl:=a7 c0;have hM:=a4.ext (q1.z4 q2 q8 q9 a5);intro a h;refine z0h (some 9) (λwb w'=>Fr [] wb w') z2o ?_;intro b4 a8;have d6:=a8.size;have hM:=hM.ext a8;have hk:=hk.ext a8;have D:=D.ext a8;have O:=O.ext a8;have hC:Fr [] b4 b4:=l12 _ _;have a0:=hM;have Z:=hk;have I:=D;have a1:=O;refine z0d 0 h U λa h=>z0p 1 h U λa h=>z0c 2 h U z3m U λa h=>z0m 3 h U (λ_ hw=>Z.ext hw) U y4a U λa h=>z0c 4 h U z4e U λa h=>z0m 5 h U (λ_ hw=>I.ext hw) U na5 U λa h=>z3a 6 h U t18 U λa h=>z0v 7 h U (λ_ hw=>a1.ext hw) z3c U λa h=>z1k 8 kr kr kr hC (p:=j) h wn U y4l oo oo oo U U λa h=>z0e 9 U (z0x (i:=j) (⟨true,if o.d=1 then 179 else -13,(m.ys.getD j yq0).ct,true,sv0,[]⟩:YQ) h U hM.y.out (by rw[hM.ly];exact hj) U z3h λd4 a2 b0 _hz a h=>?_);have hM:=hM.yarn mtd hj a2 b0 (Own.nil _);have a4:=hM;clear a2;have d7:=b0.size;have D:=D.fr b0;have O:=O.fr b0;have hk:=hM.k;clear _hz;refine z1l (z0o ?_);clear hC a0 Z I a1;refine bk (h.sub (L':=ll1 6) (csu U)) (tn (sr (mv U (asg U (nn (rt (r1 results66 U ?_)))))));exact⟨_,rfl,by rw[c0];exact MRet.ok (by unfold inM;rw[a9,if_neg (λe=>e c0)];exact congrArg Except.ok (y1n m (⟨true,if o.d=1 then 179 else -13,(m.ys.getD j yq0).ct,true,sv0,[]⟩:YQ) b1).symm) hM⟩;refine sk (tn (sr (mv U (asg U (kpL (ll1 4) (csu U) (nn (rt (r1 results66 U ?_))))))));have hM:=a4.ext (q1.z4 q2 q8 q9 a5);exact⟨_,rfl,MRet.err (by unfold inM;rw[a9,if_pos c0]) c0 hM.fr⟩
theorem j3q (wS:World)(ka:MA)(m:MQ)(o:MOp)(w0:World)(hM:MkM τd 145 wS ka w0 m)(hy:1<=o.y/\o.y<=6):Rets prog 67 #[pta ka.gk,opV o] w0 λr w'=>MRet τd 145 wS ka (x7b m.p o) r w':=by
 have d3:=hM.fr.size;have hk:=hM.k;have c1:=hk.lt;have d0:=hM.ly;have c9:=hM.lt;have b8:=(hM.y.out.blk ka.gy t10).2;obtain⟨j,hj,d1⟩:∃j:Nat,j<6/\o.y=(j:Int)+1:=⟨(o.y-1).toNat,oo,oo⟩;have b1:(o.y-1).toNat=j:=by omega
 have a9:m.p.y o.y=(m.ys.getD j yq0).p:=by rw[j6h,b1]
 refine we [(0,pta ka.gk),(1,opV o)] func67 U ntmps67 U (.c2 U U) ?_;have a4:=hM;refine sr (bx U (λg3 w1 b9 D q1 z1=>(asg U (nn (sq ?_)))));have hM:=a4.ext q1;intro a h;refine z0h none (λwb w'=>Fr [] wb w') z2o ?_;intro w2 q2;have z2:=q2.size;have hM:=hM.ext q2;have hk:=hk.ext (q1.n1 q2);have D:=D.ext q2;have hC:Fr [] w2 w2:=l12 _ _;have a0:=hM;have Z:=hk;have O:=D;refine z0d 0 h U λa h=>z0p 1 h U λa h=>z0c 2 h U z3m U λa h=>z0m 3 h U (λ_ hw=>Z.ext hw) U y4a U λa h=>z0c 4 h U z4e U λa h=>z0m 5 h U (λ_ hw=>O.ext hw) U na5 U λa h=>z3a 6 h U t18 U λa h=>z0z (p:=j) (yq0) 7 h U hM.y.out.sl U y4l U λb7 b3 a h=>z1o (cs:=z3d.enc (m.ys.getD j yq0)) 8 h wn U (λ_ hw=>b3 _ (a0.ext hw).y.out.sl) z3c U λa h=>z1w 9 13 kr U ?_ ?_;refine z0n h (z0a U z0f) (mkC func128) (x5h (m.ys.getD j yq0) _ (hM.y.ins j oo).sl) ?_;rintro _ w3 ⟨qn,rfl,a7,q3⟩ a h;have z3:=q3.size;have hk:=hk.ext q3;have D:=D.ext q3;have hC:=hC.next q3;refine z0b (z0d 10 h U λa h=>z0l 11 h U λa h=>z0l 12 h U λa h=>z0e 13 U (z0y h z5p U λw4 I q4 hz a h=>?_));obtain⟨a3,hg⟩:∃g,g=w3.heap.size:=⟨_,rfl⟩;rw[<-hg]at I h hz;have b5.gk_5:ka.gk<a3:=by have:=hk.lt;omega
 have b2:g3<a3:=by have:=D.lt;omega
 have z4:=q4.size;have hM:=hM.ext (q3.n1 q4);have hk:=hk.ext q4;have D:=D.ext q4;have hC:=hC.next q4;refine z0b (z0e 14 U (z0t h U I U z3h ?_ (h1:=(by first|(simp[Value.oneCell',S];done)|exact z3d.one (m.ys.getD j yq0)))));clear h a;intro w5 a6 q5 hz a h;have z5:=q5.size;have hk:=hk.fr q5;have D:=D.fr q5;have hC:=hC.sp q5;clear I hz;have I:Blk w5 a3 _ [_,_,_,_,_]:=a6;clear a6;refine z0b (z0e 15 U (z0q h U λa h=>?_));refine z0b (z0o ?_);clear hC a0 Z O;refine bk (h.sub (L':=ll4 0 3 5 6) (csu U)) (tn (sq (sr (mv U (eq' U (nn (cd U (λc0=>?_) (λc0=>?_))))))));obtain rfl:=a7 c0;have hM:=a4.ext (q1.z4 q2 q3 q4 q5);intro a h;refine z0h (some 9) (λwb w'=>Fr [] wb w') z2o ?_;intro w6 q6;have z6:=q6.size;have hM:=hM.ext q6;have hk:=hk.ext q6;have D:=D.ext q6;have I:=I.ext q6;have hC:Fr [] w6 w6:=l12 _ _;have a0:=hM;have Z:=hk;have O:=D;have a1:=I;refine z0d 0 h U λa h=>z0p 1 h U λa h=>z0c 2 h U z3m U λa h=>z0m 3 h U (λ_ hw=>Z.ext hw) U y4a U λa h=>z0c 4 h U z4e U λa h=>z0m 5 h U (λ_ hw=>O.ext hw) U na5 U λa h=>z3a 6 h U t18 U λa h=>z0v 7 h U (λ_ hw=>a1.ext hw) z3c U λa h=>z1k 8 kr kr kr hC (p:=j) h wn U y4l oo oo oo U U λa h=>z0e 9 U (z0x (i:=j) (⟨false,0,(m.ys.getD j yq0).ct,false,sv0,[]⟩:YQ) h U hM.y.out (by rw[hM.ly];exact hj) U z3h λw7 a2 q7 _hz a h=>?_);have hM:=hM.yarn mtd hj a2 q7 (Own.nil _);have a4:=hM;clear a2;have z7:=q7.size;have D:=D.fr q7;have I:=I.fr q7;have hk:=hM.k;clear _hz;refine z1l (z0o ?_);clear hC a0 Z O a1;refine bk (h.sub (L':=ll1 6) (csu U)) (tn (sr (mv U (asg U (nn (rt (r1 results67 U ?_)))))));exact⟨_,rfl,by rw[c0];exact MRet.ok (by unfold x7b;rw[a9,if_neg (λe=>e c0)];exact congrArg Except.ok (y1n m (⟨false,0,(m.ys.getD j yq0).ct,false,sv0,[]⟩:YQ) b1).symm) hM⟩;refine sk (tn (sr (mv U (asg U (kpL (ll1 4) (csu U) (nn (rt (r1 results67 U ?_))))))));have hM:=a4.ext (q1.z4 q2 q3 q4 q5);exact⟨_,rfl,MRet.err (by unfold x7b;rw[a9,if_pos c0]) c0 hM.fr⟩;refine z0y h z5p U λw8 I q8 hz a h=>?_;obtain⟨a3,hg⟩:∃g,g=w2.heap.size:=⟨_,rfl⟩;rw[<-hg]at I h hz;have b5.gk_5:ka.gk<a3:=by have:=hk.lt;omega
 have b2:g3<a3:=by have:=D.lt;omega
 have z8:=q8.size;have hM:=hM.ext q8;have hC:=hC.next q8;refine z0b (z0e 9 U (z0n h (z0a U z0f) (mkC func128) (x5h (m.ys.getD j yq0) _ (hM.y.ins j oo).sl) ?_));rintro _ w9 ⟨qn,rfl,a7,q9⟩ a h;have z9:=q9.size;have hM:=hM.ext q9;have hk:=hk.ext (q8.n1 q9);have D:=D.ext (q8.n1 q9);have I:=I.ext q9;have hC:=hC.next q9;refine z0b (z0d 10 h U λa h=>z0l 11 h U λa h=>z0l 12 h U λa h=>z0e 14 U (z0t h U I U z3h ?_ (h1:=(by first|(simp[Value.oneCell',S];done)|exact z3d.one (m.ys.getD j yq0)))));clear h a;intro b6 a6 a5 hz a h;have d5:=a5.size;have hk:=hk.fr a5;have D:=D.fr a5;have hC:=hC.sp a5;clear I hz;have I:Blk b6 a3 _ [_,_,_,_,_]:=a6;clear a6;refine z0b (z0e 15 U (z0q h U λa h=>?_));refine z0b (z0o ?_);clear hC a0 Z O;refine bk (h.sub (L':=ll4 0 3 5 6) (csu U)) (tn (sq (sr (mv U (eq' U (nn (cd U (λc0=>?_) (λc0=>?_))))))));obtain rfl:=a7 c0;have hM:=a4.ext (q1.z4 q2 q8 q9 a5);intro a h;refine z0h (some 9) (λwb w'=>Fr [] wb w') z2o ?_;intro b4 a8;have d6:=a8.size;have hM:=hM.ext a8;have hk:=hk.ext a8;have D:=D.ext a8;have I:=I.ext a8;have hC:Fr [] b4 b4:=l12 _ _;have a0:=hM;have Z:=hk;have O:=D;have a1:=I;refine z0d 0 h U λa h=>z0p 1 h U λa h=>z0c 2 h U z3m U λa h=>z0m 3 h U (λ_ hw=>Z.ext hw) U y4a U λa h=>z0c 4 h U z4e U λa h=>z0m 5 h U (λ_ hw=>O.ext hw) U na5 U λa h=>z3a 6 h U t18 U λa h=>z0v 7 h U (λ_ hw=>a1.ext hw) z3c U λa h=>z1k 8 kr kr kr hC (p:=j) h wn U y4l oo oo oo U U λa h=>z0e 9 U (z0x (i:=j) (⟨false,0,(m.ys.getD j yq0).ct,false,sv0,[]⟩:YQ) h U hM.y.out (by rw[hM.ly];exact hj) U z3h λd4 a2 b0 _hz a h=>?_);have hM:=hM.yarn mtd hj a2 b0 (Own.nil _);have a4:=hM;clear a2;have d7:=b0.size;have D:=D.fr b0;have I:=I.fr b0;have hk:=hM.k;clear _hz;refine z1l (z0o ?_);clear hC a0 Z O a1;refine bk (h.sub (L':=ll1 6) (csu U)) (tn (sr (mv U (asg U (nn (rt (r1 results67 U ?_)))))));exact⟨_,rfl,by rw[c0];exact MRet.ok (by unfold x7b;rw[a9,if_neg (λe=>e c0)];exact congrArg Except.ok (y1n m (⟨false,0,(m.ys.getD j yq0).ct,false,sv0,[]⟩:YQ) b1).symm) hM⟩;refine sk (tn (sr (mv U (asg U (kpL (ll1 4) (csu U) (nn (rt (r1 results67 U ?_))))))));have hM:=a4.ext (q1.z4 q2 q8 q9 a5);exact⟨_,rfl,MRet.err (by unfold x7b;rw[a9,if_pos c0]) c0 hM.fr⟩
theorem z4f:z1e prog 145 0 0:=λ_ _=>kr
theorem x5z (wS:World)(ka:MA)(m:MQ)(o:MOp)(w0:World)(hM:MkM τd 145 wS ka w0 m)(hi:MInv m.p)(hy:1<=o.y/\o.y<=6)(hn:z4d o.b o.p=0):Rets prog 130 #[pta ka.gk,opV o] w0 λr w'=>r=.tuple #[.int .i64 (if z5r m.p o=0 then z6p m.p o else 0),.int .i64 (if z5r m.p o=0 then (z2c o.b o.p m.rk) else 0),.int .i64 (z5r m.p o)]/\Fr [] w0 w':=by
 have b8:=hM.fr.size;have hk:=hM.k;have b2:=hk.lt;have b4:=hM.ly;have b3:=hM.lt;have b0:=(hM.y.out.blk ka.gy t10).2;obtain⟨j,hj,b6⟩:∃j:Nat,j<6/\o.y=(j:Int)+1:=⟨(o.y-1).toNat,oo,oo⟩;have a7:(o.y-1).toNat=j:=by omega
 have O:m.p.y o.y=(m.ys.getD j yq0).p:=by rw[j6h,a7]
 have b7:=y7g o.b o.p m.rk;have b5:=z2t hn;refine we [(0,pta ka.gk),(1,opV o)] func130 U ntmps130 U (.c2 U U) ?_;have a6:=hM;refine sr (bx U (λg3 w1 b1 D q1 z1=>(asg U (asg U (asg U (nn (sq ?_)))))));have hM:=a6.ext q1;intro a h;refine z0h none (λwb w'=>Fr [] wb w') z2o ?_;intro w2 q2;have z2:=q2.size;have hM:=hM.ext q2;have hk:=hk.ext (q1.n1 q2);have D:=D.ext q2;have hC:Fr [] w2 w2:=l12 _ _;have a2:=hM;have a1:=hk;have Z:=D;refine z0d 0 h U λa h=>z0p 1 h U λa h=>z0c 2 h U z3m U λa h=>z0m 3 h U (λ_ hw=>a1.ext hw) U y4a U λa h=>z0c 4 h U z4e U λa h=>z0m 5 h U (λ_ hw=>Z.ext hw) U na5 U λa h=>z3a 6 h U t18 U λa h=>z0z (p:=j) (yq0) 7 h U hM.y.out.sl U y4l U λa9 a5 a h=>z1o (cs:=z3d.enc (m.ys.getD j yq0)) 8 h wn U (λ_ hw=>a5 _ (a2.ext hw).y.out.sl) z3c U λa h=>z0c 9 h U z5n U λa h=>z1i (vs:=[_,_]) 10 h U (λ_ hw=>(Z.ext hw)) z5s U U λa h=>?_;refine z0d 11 h U λa h=>z0p 12 h U λa h=>z0c 13 h U z4f U λa h=>z0m 14 h U (λ_ hw=>a1.ext hw) U na3 U λa h=>z1w 15 16 kr U ?_ ?_;refine z0n h (z0a U (z0a U z0f)) v2j (y3l _ _ _ _ (by have:=hi.rk;omega)) ?_;rintro _ w3 ⟨rfl,q3⟩ a h;have z3:=q3.size;have hk:=hk.ext q3;have D:=D.ext q3;have hC:=hC.next q3;refine z0b (z0e 16 U (z0y h z5p U λw4 I q4 hz a h=>?_));obtain⟨a0,hg⟩:∃g,g=w3.heap.size:=⟨_,rfl⟩;rw[<-hg]at I h hz;have a8.gk_7:ka.gk<a0:=by have:=hk.lt;omega
 have a4:g3<a0:=by have:=D.lt;omega
 have z4:=q4.size;have hM:=hM.ext (q3.n1 q4);have hk:=hk.ext q4;have D:=D.ext q4;have hC:=hC.next q4;refine z0b (z0e 17 U (z0t h U I U z3h ?_ (h1:=(by first|(simp[Value.oneCell',S];done)|exact z3d.one (m.ys.getD j yq0)))));clear h a;intro w5 a3 q5 hz a h;have z5:=q5.size;have hk:=hk.fr q5;have D:=D.fr q5;have hC:=hC.sp q5;clear I hz;have I:Blk w5 a0 _ [_,_,_,_,_]:=a3;clear a3;refine z0b (z0e 18 U (z0q h U λa h=>?_));refine z0b (z0o ?_);clear hC a2 a1 Z;refine bk (h.sub (L':=ll3 3 5 7) (csu U)) (tn (sq (sr (fad U z7f (z0i U I U na4 (nt' U (nn (cd U (λc0=>?_) (λc0=>?_)))))))));refine sr (asg U (asg U (asg U (nn (rt (tr (r3 results130 U U U ?_)))))));have he:z5r m.p o=12:=by unfold z5r;rw[O,if_pos (by simpa using c0)]
 exact⟨_,rfl,by rw[he];rfl,(q1.z4 q2 q3 q4 q5)⟩;refine sk (tn (sq (sr (fad U z9l (z0i U D U x2e (eq' U (nn (cd U (λc1=>?_) (λc1=>?_)))))))));refine sq (sr (fad U z4x (z0i U I U na3 (mv U (gt' U (nn (cd U (λc2=>?_) (λc2=>?_))))))));refine sr (asg U (asg U (asg U (nn (rt (tr (tr (r3 results130 U U U ?_))))))));have he:z5r m.p o=12:=by unfold z5r;rw[O,if_neg (by simpa using c0),if_pos c1,if_pos c2]
 exact⟨_,rfl,by rw[he];rfl,(q1.z4 q2 q3 q4 q5)⟩;refine sk (tn (sr (mv U (z0w U (wi6 oo) (mv U (asg U (asg U (asg U (nn (rt (tr (r3 results130 U U U ?_))))))))))));have he:z5r m.p o=0:=by unfold z5r;rw[O,if_neg (by simpa using c0),if_pos c1,if_neg c2]
 exact⟨_,rfl,by rw[he];rw[if_pos U,if_pos U,z6p,if_pos c1],(q1.z4 q2 q3 q4 q5)⟩;refine sk (tn (sq (sr (fad U z4x (z0i U I U na3 (mv U (lt' U (nn (cd U (λc3=>?_) (λc3=>?_))))))))));refine sr (asg U (asg U (asg U (nn (rt (tr (r3 results130 U U U ?_)))))));have he:z5r m.p o=12:=by unfold z5r;rw[O,if_neg (by simpa using c0),if_neg c1,if_pos c3]
 exact⟨_,rfl,by rw[he];rfl,(q1.z4 q2 q3 q4 q5)⟩;refine sk (tn (sr (mv U (z2x U (wi6 oo) (mv U (asg U (asg U (asg U (nn (rt (r3 results130 U U U ?_)))))))))));have he:z5r m.p o=0:=by unfold z5r;rw[O,if_neg (by simpa using c0),if_neg c1,if_neg c3]
 exact⟨_,rfl,by rw[he];rw[if_pos U,if_pos U,z6p,if_neg c1],(q1.z4 q2 q3 q4 q5)⟩;refine z0y h z5p U λw6 I q6 hz a h=>?_;obtain⟨a0,hg⟩:∃g,g=w2.heap.size:=⟨_,rfl⟩;rw[<-hg]at I h hz;have a8.gk_7:ka.gk<a0:=by have:=hk.lt;omega
 have a4:g3<a0:=by have:=D.lt;omega
 have z6:=q6.size;have hC:=hC.next q6;refine z0b (z0e 15 U (z0n h (z0a U (z0a U z0f)) v2j (y3l _ _ _ _ (by have:=hi.rk;omega)) ?_));rintro _ w7 ⟨rfl,q7⟩ a h;have z7:=q7.size;have hM:=hM.ext (q6.n1 q7);have hk:=hk.ext (q6.n1 q7);have D:=D.ext (q6.n1 q7);have I:=I.ext q7;have hC:=hC.next q7;refine z0b (z0e 17 U (z0t h U I U z3h ?_ (h1:=(by first|(simp[Value.oneCell',S];done)|exact z3d.one (m.ys.getD j yq0)))));clear h a;intro w8 a3 q8 hz a h;have z8:=q8.size;have hk:=hk.fr q8;have D:=D.fr q8;have hC:=hC.sp q8;clear I hz;have I:Blk w8 a0 _ [_,_,_,_,_]:=a3;clear a3;refine z0b (z0e 18 U (z0q h U λa h=>?_));refine z0b (z0o ?_);clear hC a2 a1 Z;refine bk (h.sub (L':=ll3 3 5 7) (csu U)) (tn (sq (sr (fad U z7f (z0i U I U na4 (nt' U (nn (cd U (λc0=>?_) (λc0=>?_)))))))));refine sr (asg U (asg U (asg U (nn (rt (tr (r3 results130 U U U ?_)))))));have he:z5r m.p o=12:=by unfold z5r;rw[O,if_pos (by simpa using c0)]
 exact⟨_,rfl,by rw[he];rfl,(q1.z4 q2 q6 q7 q8)⟩;refine sk (tn (sq (sr (fad U z9l (z0i U D U x2e (eq' U (nn (cd U (λc1=>?_) (λc1=>?_)))))))));refine sq (sr (fad U z4x (z0i U I U na3 (mv U (gt' U (nn (cd U (λc2=>?_) (λc2=>?_))))))));refine sr (asg U (asg U (asg U (nn (rt (tr (tr (r3 results130 U U U ?_))))))));have he:z5r m.p o=12:=by unfold z5r;rw[O,if_neg (by simpa using c0),if_pos c1,if_pos c2]
 exact⟨_,rfl,by rw[he];rfl,(q1.z4 q2 q6 q7 q8)⟩;refine sk (tn (sr (mv U (z0w U (wi6 oo) (mv U (asg U (asg U (asg U (nn (rt (tr (r3 results130 U U U ?_))))))))))));have he:z5r m.p o=0:=by unfold z5r;rw[O,if_neg (by simpa using c0),if_pos c1,if_neg c2]
 exact⟨_,rfl,by rw[he];rw[if_pos U,if_pos U,z6p,if_pos c1],(q1.z4 q2 q6 q7 q8)⟩;refine sk (tn (sq (sr (fad U z4x (z0i U I U na3 (mv U (lt' U (nn (cd U (λc3=>?_) (λc3=>?_))))))))));refine sr (asg U (asg U (asg U (nn (rt (tr (r3 results130 U U U ?_)))))));have he:z5r m.p o=12:=by unfold z5r;rw[O,if_neg (by simpa using c0),if_neg c1,if_pos c3]
 exact⟨_,rfl,by rw[he];rfl,(q1.z4 q2 q6 q7 q8)⟩;refine sk (tn (sr (mv U (z2x U (wi6 oo) (mv U (asg U (asg U (asg U (nn (rt (r3 results130 U U U ?_)))))))))));have he:z5r m.p o=0:=by unfold z5r;rw[O,if_neg (by simpa using c0),if_neg c1,if_neg c3]
 exact⟨_,rfl,by rw[he];rw[if_pos U,if_pos U,z6p,if_neg c1],(q1.z4 q2 q6 q7 q8)⟩
theorem z3n:z1e prog 145 1 1:=λ_ _=>kr
theorem x6e (wS:World)(ka:MA)(m:MQ)(yy pl en:Int)(w0:World)(hM:MkM τd 145 wS ka w0 m)(hi:MInv m.p)(hy:1<=yy/\yy<=6):Rets prog 131 #[pta ka.gk,.int .u8 yy,.int .i64 pl,.int .i64 en] w0 λr w'=>MRet τd 145 wS ka (z8y m.p yy pl en) r w':=by
 have g5:=hM.fr.size;have O:=hM.k;have g0:=O.lt;have g3:=hM.ly;have g1:=hM.lt;have f5:=(hM.y.out.blk ka.gy t10).2;obtain⟨j,hj,g4⟩:∃j:Nat,j<6/\yy=(j:Int)+1:=⟨(yy-1).toNat,oo,oo⟩;have e1:(yy-1).toNat=j:=by omega
 have c9:m.p.y yy=(m.ys.getD j yq0).p:=by rw[j6h,e1]
 have f7:=v9t (z2i m.q.p m.rk) (m.ys.getD j yq0).pl en;have hN:=y6k hi.B;have f9:(z2i m.q.p m.rk).length<=320:=by unfold z2i;rw[z4v,z9e];exact hN
 refine we [(0,pta ka.gk),(1,.int .u8 yy),(2,.int .i64 pl),(3,.int .i64 en)] func131 U ntmps131 U (.c4 U U U U) ?_;have a9:=hM;refine sr (asg U (nn (sq ?_)));intro a h;refine z0h none (λwb w'=>Fr [] wb w') z2o ?_;intro w1 q1;have z1:=q1.size;have hM:=hM.ext q1;have O:=O.ext q1;have hC:Fr [] w1 w1:=l12 _ _;have a4:=hM;have a1:=O;refine z0d 0 h U λa h=>z0p 1 h U λa h=>z0c 2 h U z3n U λa h=>z1i (vs:=[_,_]) 3 h U (λ_ hw=>(a1.ext hw)) z5a U U λa h=>z0d 4 h U λa h=>z0p 5 h U λa h=>z0c 6 h U z4f U λa h=>z0m 7 h U (λ_ hw=>a1.ext hw) U na3 U λa h=>z0e 8 U (z0n h (z0a U (z0a U z0f)) (mkC func56) (v6e m.q m.rk _ hM.b.at hi.B hi.rk) ?_);rintro _ w2 ⟨⟨g9,rfl,f8,hL⟩,hq⟩ a h;have z2:=hq.size;have hM:=hM.ext hq;have O:=O.ext hq;have hC:=hC.next hq;have q2:=hq;have f6:=(hL.blk g9 t10).2;refine z0b (z0d 9 h U λa h=>z0l 10 h U λa h=>z0l 11 h U λa h=>z0e 12 U (z0q h U λa h=>?_));refine z0b (z0e 13 U (z0q h U λa h=>?_));refine z0b (z0o ?_);clear hC a4 a1;refine bk (h.sub (L':=ll6 0 1 2 3 9 10) (csu U)) (tn (sq (sr (mv U (ne' U (nn (cd U (λc0=>?_) (λc0=>?_))))))));exact absurd U c0;refine sk (tn (sr (mv U (nlc U (fad U z3m (z0i U O U y4a (mv U (z2x U (wi8 oo) (z1b (p:=j) (yq0) U hM.y.out.sl U y4l oo (λf3 e4=>(z1q U (e4 _ hM.y.out.sl) z3c (al z5p U (λe2 w3 f4 D q3 z3=>?_)))))))))))));refine z0j (vs:=[_,_,_,_,_]) U D z3h (λw4 D q4 z4=>?_) (h1:=(by first|(simp[Value.oneCell',S];done)|exact z3d.one (m.ys.getD j yq0)));refine kpL (ll6 0 1 2 3 9 11) (csu U) (nn (sq ?_));have hM:=a9.ext (q1.z3 q2 q3 q4);have O:=(O.ext q3).fr q4;have hL:=(hL.ext q3).fr q4 (by first|exact z9n hL oo|simp[z0u]<;>omega);intro a h;refine z0h none (λwb w'=>Fr [] wb w') z2o ?_;intro w5 q5;have z5:=q5.size;have hM:=hM.ext q5;have O:=O.ext q5;have hL:=hL.ext q5;have D:=D.ext q5;have hC:Fr [] w5 w5:=l12 _ _;have a4:=hM;have a1:=O;have d6:=hL;have a0:=D;refine z0v 0 h U (λ_ hw=>a0.ext hw) z3c U λa h=>z0d 1 h U λa h=>z0d 2 h U λa h=>z0c 3 h U z4x U λa h=>z0m 4 h U (λ_ hw=>a0.ext hw) U na3 U λa h=>z0d 5 h U λa h=>z1w 6 11 kr U ?_ ?_;refine z0n h (z0a U (z0a U (z0a U z0f))) (mkC func166) (u7l _ (z2i m.q.p m.rk) (m.ys.getD j yq0).pl en _ hL.sl oo) ?_;rintro _ w6 ⟨⟨e3,rfl,e5,hW⟩,q6⟩ a h;have z6:=q6.size;have hM:=hM.ext q6;have O:=O.ext q6;have hL:=hL.ext q6;have D:=D.ext q6;have hC:=hC.next q6;have f0:=(hW.blk e3 t10).2;refine z0b (z1w 7 11 kr U ?_ ?_);refine z0n h (z0a U (z0a U (z0a U z0f))) (mkC func164) (v0i (m.ys.getD j yq0) pl _ (btw (z2i m.q.p m.rk) (m.ys.getD j yq0).pl en) _ (hM.y.ins j oo).sl hW.sl (λk O=>(hW.blk k O).2) oo) ?_;rintro _ w7 ⟨qn,rfl,b7,q7⟩ a h;have z7:=q7.size;have O:=O.ext q7;have D:=D.ext q7;have hC:=hC.next q7;have Z:OwnIf ((goE (m.ys.getD j yq0).p pl (btw (z2i m.q.p m.rk) (m.ys.getD j yq0).pl en))=0) z2d 107 _ _ (slv qn.pe) qn.pes:=λhc=>(b7 hc).2;have b5:=λhc k O=>((Z hc).blk k O).2;refine z0b (z0d 8 h U λa h=>z0l 9 h U λa h=>z0l 10 h U λa h=>z0e 11 U (z0y h z5p U λw8 I q8 hz a h=>?_));obtain⟨a3,hg⟩:∃g,g=w7.heap.size:=⟨_,rfl⟩;rw[<-hg]at I h hz;have e6.gk_12:ka.gk<a3:=by have:=O.lt;omega
 have b8:e2<a3:=by have:=D.lt;omega
 have z8:=q8.size;have hM:=hM.ext (q7.n1 q8);have O:=O.ext q8;have hL:=hL.ext (q7.n1 q8);have D:=D.ext q8;have hW:=hW.ext (q7.n1 q8);have Z:=Z.ext q8;have hC:=hC.next q8;refine z0b (z0e 12 U (z0t h U I U z3h ?_ (h1:=(by first|(simp[Value.oneCell',S];done)|exact z3d.one (m.ys.getD j yq0)))));clear h a;intro w9 b6 q9 hz a h;have z9:=q9.size;have O:=O.fr q9;have hL:=hL.fr q9 t26;have D:=D.fr q9;have hW:=hW.fr q9 t26;have Z:=Z.fr q9 (by intro a6 k O a5;simp at O;subst O;have d4:=b5 a6 _ a5;have d5:=(Z a6).blk _ a5;omega);have hC:=hC.sp q9;clear I hz;have I:Blk w9 a3 _ [_,_,_,_,_]:=b6;clear b6;refine z0b (z0e 13 U (z0q h U λa h=>?_));refine z0b (z0o ?_);clear hC a4 a1 d6 a0;refine bk (h.sub (L':=ll4 0 1 10 12) (csu U)) (tn (sq (sr (mv U (eq' U (nn (cd U (λc1=>?_) (λc1=>?_))))))));have hM:=a9.ext (((q1.z6 q2 q3 q4 q5 q6 q7).n1 q8).z1 q9);intro a h;refine z0h (some 8) (λwb w'=>Fr [] wb w') z2o ?_;intro e7 d0;have h6:=d0.size;have hM:=hM.ext d0;have O:=O.ext d0;have D:=D.ext d0;have Z:=Z.ext d0;have I:=I.ext d0;have hC:Fr [] e7 e7:=l12 _ _;have a4:=hM;have a1:=O;have a0:=D;have a8:=Z;have a2:=I;refine z0d 0 h U λa h=>z0p 1 h U λa h=>z0c 2 h U z3m U λa h=>z0m 3 h U (λ_ hw=>a1.ext hw) U y4a U λa h=>z0d 4 h U λa h=>z3a 5 h U t18 U λa h=>z0v 6 h U (λ_ hw=>a2.ext hw) z3c U λa h=>z1k 7 kr kr kr hC (p:=j) h wn U y4l oo oo oo U U λa h=>z0e 8 U (z0x (i:=j) (qn:YQ) h U hM.y.out (by rw[hM.ly];exact hj) U z3h λg6 a7 d7 _hz a h=>?_);have hM:=hM.yarn mtd hj a7 d7 ((Z c1).low oo);have a9:=hM;clear a7;have h7:=d7.size;have D:=D.fr d7;have Z:=Z.fr d7 (by intro a6 k O a5;simp at O;subst O;have d4:=b5 a6 _ a5;have d5:=(Z a6).blk _ a5;omega);have I:=I.fr d7;have O:=hM.k;clear _hz;refine z1l (z0o ?_);clear hC a4 a1 a0 a8 a2;refine bk (h.sub (L':=ll1 10) (csu U)) (tn (sr (mv U (asg U (nn (rt (r1 results131 U ?_)))))));exact⟨_,rfl,by rw[c1];exact MRet.ok (by unfold z8y y2a;rw[c9,if_neg (λe=>e c1)];exact congrArg Except.ok (by rw[y1n m qn e1,(b7 c1).1])) hM⟩;refine sk (tn (sr (mv U (asg U (kpL (ll1 8) (csu U) (nn (rt (r1 results131 U ?_))))))));have hM:=a9.ext (((q1.z6 q2 q3 q4 q5 q6 q7).n1 q8).z1 q9);exact⟨_,rfl,MRet.err (by unfold z8y y2a;rw[c9,if_pos c1]) c1 hM.fr⟩;refine z0y h z5p U λg7 I b2 hz a h=>?_;obtain⟨a3,hg⟩:∃g,g=w6.heap.size:=⟨_,rfl⟩;rw[<-hg]at I h hz;have e6.gk_12:ka.gk<a3:=by have:=O.lt;omega
 have b8:e2<a3:=by have:=D.lt;omega
 have h8:=b2.size;have hM:=hM.ext b2;have O:=O.ext b2;have hW:=hW.ext b2;have hC:=hC.next b2;refine z0b (z0e 7 U (z0n h (z0a U (z0a U (z0a U z0f))) (mkC func164) (v0i (m.ys.getD j yq0) pl _ (btw (z2i m.q.p m.rk) (m.ys.getD j yq0).pl en) _ (hM.y.ins j oo).sl hW.sl (λk O=>(hW.blk k O).2) oo) ?_));rintro _ g8 ⟨qn,rfl,b7,b0⟩ a h;have h9:=b0.size;have hM:=hM.ext b0;have O:=O.ext b0;have hL:=hL.ext (b2.n1 b0);have D:=D.ext (b2.n1 b0);have hW:=hW.ext b0;have I:=I.ext b0;have hC:=hC.next b0;have Z:OwnIf ((goE (m.ys.getD j yq0).p pl (btw (z2i m.q.p m.rk) (m.ys.getD j yq0).pl en))=0) z2d 107 _ _ (slv qn.pe) qn.pes:=λhc=>(b7 hc).2;have b5:=λhc k O=>((Z hc).blk k O).2;refine z0b (z0d 8 h U λa h=>z0l 9 h U λa h=>z0l 10 h U λa h=>z0e 12 U (z0t h U I U z3h ?_ (h1:=(by first|(simp[Value.oneCell',S];done)|exact z3d.one (m.ys.getD j yq0)))));clear h a;intro f1 b6 b3 hz a h;have i0:=b3.size;have O:=O.fr b3;have hL:=hL.fr b3 t26;have D:=D.fr b3;have hW:=hW.fr b3 t26;have Z:=Z.fr b3 (by intro a6 k O a5;simp at O;subst O;have d4:=b5 a6 _ a5;have d5:=(Z a6).blk _ a5;omega);have hC:=hC.sp b3;clear I hz;have I:Blk f1 a3 _ [_,_,_,_,_]:=b6;clear b6;refine z0b (z0e 13 U (z0q h U λa h=>?_));refine z0b (z0o ?_);clear hC a4 a1 d6 a0;refine bk (h.sub (L':=ll4 0 1 10 12) (csu U)) (tn (sq (sr (mv U (eq' U (nn (cd U (λc1=>?_) (λc1=>?_))))))));have hM:=a9.ext (((q1.z6 q2 q3 q4 q5 q6 b2).n1 b0).z1 b3);intro a h;refine z0h (some 8) (λwb w'=>Fr [] wb w') z2o ?_;intro e8 d1;have i1:=d1.size;have hM:=hM.ext d1;have O:=O.ext d1;have D:=D.ext d1;have I:=I.ext d1;have Z:=Z.ext d1;have hC:Fr [] e8 e8:=l12 _ _;have a4:=hM;have a1:=O;have a0:=D;have a2:=I;have a8:=Z;refine z0d 0 h U λa h=>z0p 1 h U λa h=>z0c 2 h U z3m U λa h=>z0m 3 h U (λ_ hw=>a1.ext hw) U y4a U λa h=>z0d 4 h U λa h=>z3a 5 h U t18 U λa h=>z0v 6 h U (λ_ hw=>a2.ext hw) z3c U λa h=>z1k 7 kr kr kr hC (p:=j) h wn U y4l oo oo oo U U λa h=>z0e 8 U (z0x (i:=j) (qn:YQ) h U hM.y.out (by rw[hM.ly];exact hj) U z3h λh0 a7 d9 _hz a h=>?_);have hM:=hM.yarn mtd hj a7 d9 ((Z c1).low oo);have a9:=hM;clear a7;have i2:=d9.size;have D:=D.fr d9;have I:=I.fr d9;have Z:=Z.fr d9 (by intro a6 k O a5;simp at O;subst O;have d4:=b5 a6 _ a5;have d5:=(Z a6).blk _ a5;omega);have O:=hM.k;clear _hz;refine z1l (z0o ?_);clear hC a4 a1 a0 a2 a8;refine bk (h.sub (L':=ll1 10) (csu U)) (tn (sr (mv U (asg U (nn (rt (r1 results131 U ?_)))))));exact⟨_,rfl,by rw[c1];exact MRet.ok (by unfold z8y y2a;rw[c9,if_neg (λe=>e c1)];exact congrArg Except.ok (by rw[y1n m qn e1,(b7 c1).1])) hM⟩;refine sk (tn (sr (mv U (asg U (kpL (ll1 8) (csu U) (nn (rt (r1 results131 U ?_))))))));have hM:=a9.ext (((q1.z6 q2 q3 q4 q5 q6 b2).n1 b0).z1 b3);exact⟨_,rfl,MRet.err (by unfold z8y y2a;rw[c9,if_pos c1]) c1 hM.fr⟩;refine z0y h z5p U λh2 I b9 hz a h=>?_;obtain⟨a3,hg⟩:∃g,g=w5.heap.size:=⟨_,rfl⟩;rw[<-hg]at I h hz;have e6.gk_12:ka.gk<a3:=by have:=O.lt;omega
 have b8:e2<a3:=by have:=D.lt;omega
 have i3:=b9.size;have hL:=hL.ext b9;have hC:=hC.next b9;refine z0b (z0e 6 U (z0n h (z0a U (z0a U (z0a U z0f))) (mkC func166) (u7l _ (z2i m.q.p m.rk) (m.ys.getD j yq0).pl en _ hL.sl oo) ?_));rintro _ h3 ⟨⟨e3,rfl,e5,hW⟩,q18⟩ a h;have i4:=q18.size;have hM:=hM.ext (b9.n1 q18);have O:=O.ext (b9.n1 q18);have hC:=hC.next q18;have f0:=(hW.blk e3 t10).2;refine z0b (z0e 7 U (z0n h (z0a U (z0a U (z0a U z0f))) (mkC func164) (v0i (m.ys.getD j yq0) pl _ (btw (z2i m.q.p m.rk) (m.ys.getD j yq0).pl en) _ (hM.y.ins j oo).sl hW.sl (λk O=>(hW.blk k O).2) oo) ?_));rintro _ h4 ⟨qn,rfl,b7,b1⟩ a h;have i5:=b1.size;have hM:=hM.ext b1;have O:=O.ext b1;have hL:=hL.ext (q18.n1 b1);have D:=D.ext (b9.n2 q18 b1);have I:=I.ext (q18.n1 b1);have hW:=hW.ext b1;have hC:=hC.next b1;have Z:OwnIf ((goE (m.ys.getD j yq0).p pl (btw (z2i m.q.p m.rk) (m.ys.getD j yq0).pl en))=0) z2d 107 _ _ (slv qn.pe) qn.pes:=λhc=>(b7 hc).2;have b5:=λhc k O=>((Z hc).blk k O).2;refine z0b (z0d 8 h U λa h=>z0l 9 h U λa h=>z0l 10 h U λa h=>z0e 12 U (z0t h U I U z3h ?_ (h1:=(by first|(simp[Value.oneCell',S];done)|exact z3d.one (m.ys.getD j yq0)))));clear h a;intro f2 b6 b4 hz a h;have i7:=b4.size;have O:=O.fr b4;have hL:=hL.fr b4 t26;have D:=D.fr b4;have hW:=hW.fr b4 t26;have Z:=Z.fr b4 (by intro a6 k O a5;simp at O;subst O;have d4:=b5 a6 _ a5;have d5:=(Z a6).blk _ a5;omega);have hC:=hC.sp b4;clear I hz;have I:Blk f2 a3 _ [_,_,_,_,_]:=b6;clear b6;refine z0b (z0e 13 U (z0q h U λa h=>?_));refine z0b (z0o ?_);clear hC a4 a1 d6 a0;refine bk (h.sub (L':=ll4 0 1 10 12) (csu U)) (tn (sq (sr (mv U (eq' U (nn (cd U (λc1=>?_) (λc1=>?_))))))));have hM:=a9.ext (((q1.z6 q2 q3 q4 q5 b9 q18).n1 b1).z1 b4);intro a h;refine z0h (some 8) (λwb w'=>Fr [] wb w') z2o ?_;intro e9 d3;have i8:=d3.size;have hM:=hM.ext d3;have O:=O.ext d3;have D:=D.ext d3;have I:=I.ext d3;have Z:=Z.ext d3;have hC:Fr [] e9 e9:=l12 _ _;have a4:=hM;have a1:=O;have a0:=D;have a2:=I;have a8:=Z;refine z0d 0 h U λa h=>z0p 1 h U λa h=>z0c 2 h U z3m U λa h=>z0m 3 h U (λ_ hw=>a1.ext hw) U y4a U λa h=>z0d 4 h U λa h=>z3a 5 h U t18 U λa h=>z0v 6 h U (λ_ hw=>a2.ext hw) z3c U λa h=>z1k 7 kr kr kr hC (p:=j) h wn U y4l oo oo oo U U λa h=>z0e 8 U (z0x (i:=j) (qn:YQ) h U hM.y.out (by rw[hM.ly];exact hj) U z3h λh5 a7 e0 _hz a h=>?_);have hM:=hM.yarn mtd hj a7 e0 ((Z c1).low oo);have a9:=hM;clear a7;have i9:=e0.size;have D:=D.fr e0;have I:=I.fr e0;have Z:=Z.fr e0 (by intro a6 k O a5;simp at O;subst O;have d4:=b5 a6 _ a5;have d5:=(Z a6).blk _ a5;omega);have O:=hM.k;clear _hz;refine z1l (z0o ?_);clear hC a4 a1 a0 a2 a8;refine bk (h.sub (L':=ll1 10) (csu U)) (tn (sr (mv U (asg U (nn (rt (r1 results131 U ?_)))))));exact⟨_,rfl,by rw[c1];exact MRet.ok (by unfold z8y y2a;rw[c9,if_neg (λe=>e c1)];exact congrArg Except.ok (by rw[y1n m qn e1,(b7 c1).1])) hM⟩;refine sk (tn (sr (mv U (asg U (kpL (ll1 8) (csu U) (nn (rt (r1 results131 U ?_))))))));have hM:=a9.ext (((q1.z6 q2 q3 q4 q5 b9 q18).n1 b1).z1 b4);exact⟨_,rfl,MRet.err (by unfold z8y y2a;rw[c9,if_pos c1]) c1 hM.fr⟩
theorem j2o (wS:World)(O:MA)(m:MQ)(o:MOp)(w0:World)(hM:MkM τd 145 wS O w0 m)(hi:MInv m.p)(hy:1<=o.y/\o.y<=6)(hn:z4d o.b o.p=0):Rets prog 71 #[pta O.gk,opV o] w0 λr w'=>MRet τd 145 wS O (y3q m.p o) r w':=by
 refine we [(0,pta O.gk),(1,opV o)] func71 U ntmps71 U (.c2 U U) ?_;have I:=hM;refine sr (bx U (λg3 w1 a1 D q1 z1=>(asg U (nn (sr (mv U (z0k U D y2s ?_)))))));have hM:=I.ext q1;refine cl (ev2 U) (mkC func130) (x5z wS O m o _ hM hi hy hn) U ?_;rintro _ w2 ⟨rfl,q2⟩;refine mv U (xt U (xt U (xt U (asg U (asg U (asg U (kpL (ll4 0 3 5 7) (csu U) (nn (sq (sr (mv U (ne' U (nn (cd U (λZ=>?_) (λZ=>?_)))))))))))))));refine sr (mv U (asg U (kpL (ll1 4) (csu U) (nn (rt (tr (r1 results71 U ?_)))))));have hM:=I.ext (q1.n1 q2);exact⟨_,rfl,MRet.err (by unfold y3q;rw[if_pos Z]) Z hM.fr⟩;refine sk (tn (sr (mv U (fad U z4e ?_))));have D:=D.ext q2;refine z0i U D U na5 (mv U (mv U ?_));have hM:=I.ext (q1.n1 q2);refine cl (z0a U (z0a U (z0a U (z0a U z0f)))) (mkC func131) (x6e wS O m o.y (if z5r m.p o=0 then z6p m.p o else 0) (if z5r m.p o=0 then z6p m.p o else 0) _ hM hi hy) U ?_;rintro a2 w3 hR;refine asg U (kpL (ll1 4) (csu U) (nn (rt (r1 results71 U ?_))));have a0:z5r m.p o=0:=l16.1 Z;rw[if_pos a0]at hR;exact⟨_,rfl,by rw[show y3q m.p o=_ from if_neg Z];exact hR⟩
theorem v7c:CallOf prog 134:=mkC func134
theorem y3o:z1e prog 145 5 6:=λ_ _=>kr
theorem j1l (wS:World)(ka:MA)(m:MQ)(o:MOp)(w0:World)(hM:MkM τd 145 wS ka w0 m)(hi:MInv m.p)(hn:z4d o.b o.p=0):Rets prog 73 #[pta ka.gk,opV o] w0 λr w'=>MRet τd 145 wS ka (y3g m.p o) r w':=by
 have f7:=hM.fr.size;have D:=hM.k;have f3:=D.lt;have f5:=hM.ly;have f4:=hM.lt;have e7:=(hM.y.out.blk ka.gy t10).2;have f6:=z2t hn;obtain⟨n,b7⟩:∃n:Nat,o.p=(n:Int):=⟨o.p.toNat,oo⟩;obtain⟨⟨hf,hb⟩,h4,e0⟩:=z3u hi.B;have hfl:m.q.p.flat.length+m.fl.length<=z4r (z2l m.ts):=hi.cnt;have f1:z4r (z2l m.ts)<=2048:=hi.all;have hv:BdOk m.q.p:=hi.B;have f0:=y6n hv o.b o.p;refine we [(0,pta ka.gk),(1,opV o)] func73 U ntmps73 U (.c2 U U) ?_;have a6:=hM;refine sr (bx U (λg3 w1 f2 O q1 z1=>(asg U (nn (sq ?_)))));have hM:=a6.ext q1;intro a h;refine z0h none (λwb w'=>Fr [] wb w') z2o ?_;intro w2 q2;have z2:=q2.size;have hM:=hM.ext q2;have D:=D.ext (q1.n1 q2);have O:=O.ext q2;have hC:Fr [] w2 w2:=l12 _ _;have b0:=hM;have a2:=D;have a0:=O;refine z0d 0 h U λa h=>z0p 1 h U λa h=>z0c 2 h U z3n U λa h=>z1i (vs:=[_,_]) 3 h U (λ_ hw=>(a2.ext hw)) z5a U U λa h=>z0c 4 h U z5n U λa h=>z1i (vs:=[_,_]) 5 h U (λ_ hw=>(a0.ext hw)) z5s U U λa h=>z0e 6 U (z0n h (z0a U (z0a U z0f)) v3r (y5u m.q o.b o.p _ hM.b.at oo hf hb h4 e0) ?_);rintro f8 w3 ⟨I,hq⟩ a h;have z3:=hq.size;have hM:=hM.ext hq;have D:=D.ext hq;have O:=O.ext hq;have hC:=hC.next hq;have q3:=hq;rw[y0y hn]at I;obtain⟨e8,e9,rfl,e6⟩:=I.sl.form;have b6:=λk hb=>(I.blk k hb).2;refine z0b (z0e 7 U (z0q h U λa h=>?_));refine z0b (z0o ?_);clear hC b0 a2 a0;refine bk (h.sub (L':=ll3 0 3 5) (csu U)) (tn (sq (sr (mv U (lnS U underlying30 (eq' U (nn (cd U (λc0=>?_) (λc0=>?_)))))))));exact sr (asg U (nn (rt (tr (r1 results73 U ⟨_,rfl,MRet.err (if_pos (l99.1 (show (m.q.p.at o.b o.p).length=0 by omega))) dd hM.fr⟩)))));refine sk (tn (sq ?_));intro a h;refine z0h none (λwb w'=>Fr [] wb w') z2o ?_;intro w4 q4;have z4:=q4.size;have hM:=hM.ext q4;have D:=D.ext q4;have O:=O.ext q4;have I:=I.ext q4;have hC:Fr [] w4 w4:=l12 _ _;have b0:=hM;have a2:=D;have a0:=O;have b4:=I;refine z0d 0 h U λa h=>z0p 1 h U λa h=>z0c 2 h U z3n U λa h=>z1i (vs:=[_,_]) 3 h U (λ_ hw=>(a2.ext hw)) z5a U U λa h=>z0c 4 h U z5n U λa h=>z1i (vs:=[_,_]) 5 h U (λ_ hw=>(a0.ext hw)) z5s U U λa h=>z1w 6 10 kr U ?_ ?_;refine z0n h (z0a U (z0a U (z0a U z0f))) v7c (by have x:=x3f m.q o.b n (.slice none 0 0) [] _ hM.b.at (Sl.nil _) hv (by rw[<-b7];exact hn) sp0 sp0 (λi=>by have:=l80.1 hv.nd i;simp only[l116];omega);rw[<-b7]at x;exact x) ?_;rintro _ w5 ⟨⟨q',rfl,hQ,d4⟩,q5⟩ a h;have z5:=q5.size;have D:=D.ext q5;have O:=O.ext q5;have hC:=hC.next q5;have d0:=x3r hQ a6.f oo;refine z0b (z0d 7 h U λa h=>z0l 8 h U λa h=>z0l 9 h U λa h=>z0e 10 U (z0y h x7e U λw6 Z q6 hz a h=>?_));obtain⟨a5,hg⟩:∃g,g=w5.heap.size:=⟨_,rfl⟩;rw[<-hg]at Z h hz;have e1.gk_6:ka.gk<a5:=by have:=D.lt;omega
 have d3:g3<a5:=by have:=O.lt;omega
 have z6:=q6.size;have hM:=hM.ext (q5.n1 q6);have D:=D.ext q6;have O:=O.ext q6;have I:=I.ext (q5.n1 q6);first|have hQ:=BdO.ext hQ q6|have hQ:=BdO.tf hQ q6 (OffT.one Z dd) (OffT.one Z dd)
 have hC:=hC.next q6;refine z0b (z0e 11 U (z0t h U Z U x1a λw7 b3 q7 hz a h=>?_));have z7:=q7.size;have D:=D.fr q7;have O:=O.fr q7;have I:=I.fr q7 (by intro k D a1;simp at D;subst D;have:=b6 _ a1;have b8:=(I.blk _ a1).1;omega);first|have hQ:=BdO.ext hQ q7|have hQ:=BdO.tf hQ q7 (OffT.one Z dd) (OffT.one Z dd)
 have hC:=hC.sp q7;clear Z hz;have Z:Blk w7 a5 _ [_,_]:=b3;clear b3;refine z0b (z0e 12 U (z0q h U λa h=>?_));refine z0b (z0o ?_);clear hC b0 a2 a0 b4;refine bk (h.sub (L':=ll4 0 5 6 7) (csu U)) (tn (sq (sr (mv U (ne' U (nn (cd U (λc1=>?_) (λc1=>?_))))))));exact absurd U c1;refine sk (tn (sr (mv U (z0k U Z z5a (nlc U (fad U z3n ?_))))));have hM:=a6.ext (q1.z6 q2 q3 q4 q5 q6 q7);refine z5f (cs':=u6u ka { m with q:=q' }) U U hM.k t43 x1a U (λw8 a3 q8 z8=>?_);have hM:=hM.beds mtd (hQ.low oo) a3 q8 d0;have D:=hM.k;have a6:=hM;have c9:=hM;have hF:Lw.Own z1g 64 wS.heap.size _ (slv m.fa) m.fl:=hM.f;clear a3;refine kpL (ll2 0 5) (csu U) (nn (sr (mv U (mv U (nlc U (fad U y3o (z0i U D U z4s (mv U ?_))))))));have I:=I.fr q8 (by intro k D a1;simp at D;subst D;have:=b6 _ a1;have b8:=(I.blk _ a1).1;omega);have a7:=hF;refine z2e U hF I.sl z3k (λe4 w9 hF q9 a8=>?_) (hM:=t41) (hb:=oo);have d6:=q9;obtain⟨b1,b2,rfl,d7⟩:=hF.sl.form;have b5:∀k∈z0u (.slice b1 (m.fl++(m.q.p.at o.b o.p)).length b2),k∈z0u (slv m.fa)\/_<=k:=λk D=>by
  rcases a8 with e|e|e
  exact .inl (congrArg z0u e▸D);exact .inl (e▸D);rw[e,l11]at D;exact .inr (Nat.le_of_eq D.symm)
 have z9:=q9.size;have D:=D.fr q9 (λd1=>a7.neB D dd d1);refine nlc U (fad U y3o (z3v U D U u7h (λf9 a3 e2 g7=>?_)));have b9:=c9.fall mtd dd (u:=(b1,(m.fl++(m.q.p.at o.b o.p)).length,b2)) hF d6 b5 a3 e2;refine kpL [] .nil (nn (sr (asg U (nn (rt (r1 results73 U ?_))))));exact⟨_,rfl,MRet.ok (by rw[show y3g m.p o=_ from if_neg (λe=>c0 (by rw[show (m.q.p.at o.b o.p)=[] from e];rfl))];exact congrArg Except.ok (by unfold MQ.p;simp only[d4])) b9⟩;refine z0y h x7e U λg0 Z a9 hz a h=>?_;obtain⟨a5,hg⟩:∃g,g=w4.heap.size:=⟨_,rfl⟩;rw[<-hg]at Z h hz;have e1.gk_6:ka.gk<a5:=by have:=D.lt;omega
 have d3:g3<a5:=by have:=O.lt;omega
 have g8:=a9.size;have hM:=hM.ext a9;have hC:=hC.next a9;refine z0b (z0e 6 U (z0n h (z0a U (z0a U (z0a U z0f))) v7c (by have x:=x3f m.q o.b n (.slice none 0 0) [] _ hM.b.at (Sl.nil _) hv (by rw[<-b7];exact hn) sp0 sp0 (λi=>by have:=l80.1 hv.nd i;simp only[l116];omega);rw[<-b7]at x;exact x) ?_));rintro _ g1 ⟨⟨q',rfl,hQ,d4⟩,q12⟩ a h;have g9:=q12.size;have hM:=hM.ext q12;have D:=D.ext (a9.n1 q12);have O:=O.ext (a9.n1 q12);have I:=I.ext (a9.n1 q12);have Z:=Z.ext q12;have hC:=hC.next q12;have d0:=x3r hQ a6.f oo;refine z0b (z0d 7 h U λa h=>z0l 8 h U λa h=>z0l 9 h U λa h=>z0e 11 U (z0t h U Z U x1a λe5 b3 a4 hz a h=>?_));have h0:=a4.size;have D:=D.fr a4;have O:=O.fr a4;have I:=I.fr a4 (by intro k D a1;simp at D;subst D;have:=b6 _ a1;have b8:=(I.blk _ a1).1;omega);first|have hQ:=BdO.ext hQ a4|have hQ:=BdO.tf hQ a4 (OffT.one Z dd) (OffT.one Z dd)
 have hC:=hC.sp a4;clear Z hz;have Z:Blk e5 a5 _ [_,_]:=b3;clear b3;refine z0b (z0e 12 U (z0q h U λa h=>?_));refine z0b (z0o ?_);clear hC b0 a2 a0 b4;refine bk (h.sub (L':=ll4 0 5 6 7) (csu U)) (tn (sq (sr (mv U (ne' U (nn (cd U (λc1=>?_) (λc1=>?_))))))));exact absurd U c1;refine sk (tn (sr (mv U (z0k U Z z5a (nlc U (fad U z3n ?_))))));have hM:=a6.ext (q1.z6 q2 q3 q4 a9 q12 a4);refine z5f (cs':=u6u ka { m with q:=q' }) U U hM.k t43 x1a U (λg4 a3 d9 h1=>?_);have hM:=hM.beds mtd (hQ.low oo) a3 d9 d0;have D:=hM.k;have a6:=hM;have c9:=hM;have hF:Lw.Own z1g 64 wS.heap.size _ (slv m.fa) m.fl:=hM.f;clear a3;refine kpL (ll2 0 5) (csu U) (nn (sr (mv U (mv U (nlc U (fad U y3o (z0i U D U z4s (mv U ?_))))))));have I:=I.fr d9 (by intro k D a1;simp at D;subst D;have:=b6 _ a1;have b8:=(I.blk _ a1).1;omega);have a7:=hF;refine z2e U hF I.sl z3k (λe4 g5 hF d5 a8=>?_) (hM:=t41) (hb:=oo);have d6:=d5;obtain⟨b1,b2,rfl,d7⟩:=hF.sl.form;have b5:∀k∈z0u (.slice b1 (m.fl++(m.q.p.at o.b o.p)).length b2),k∈z0u (slv m.fa)\/_<=k:=λk D=>by
  rcases a8 with e|e|e
  exact .inl (congrArg z0u e▸D);exact .inl (e▸D);rw[e,l11]at D;exact .inr (Nat.le_of_eq D.symm)
 have h2:=d5.size;have D:=D.fr d5 (λd1=>a7.neB D dd d1);refine nlc U (fad U y3o (z3v U D U u7h (λg6 a3 e3 h3=>?_)));have b9:=c9.fall mtd dd (u:=(b1,(m.fl++(m.q.p.at o.b o.p)).length,b2)) hF d6 b5 a3 e3;refine kpL [] .nil (nn (sr (asg U (nn (rt (r1 results73 U ?_))))));exact⟨_,rfl,MRet.ok (by rw[show y3g m.p o=_ from if_neg (λe=>c0 (by rw[show (m.q.p.at o.b o.p)=[] from e];rfl))];exact congrArg Except.ok (by unfold MQ.p;simp only[d4])) b9⟩
theorem v9n (b p r:Int)(w0:World)(hn:z4d b p=0)(hr:-4<=r/\r<=4):Rets prog 133 #[.agg #[.int .u8 b,.int .i64 p],.int .i64 r] w0 λv w'=>(∃b' p':Int,v=.tuple #[.agg #[.int .u8 b',.int .i64 p'],.int .i64 (if z4d (1-b) (z5t b p r)≠0 then 11 else 0)]/\(z4d (1-b) (z5t b p r)=0->b'=1-b/\p'=z5t b p r))/\Fr [] w0 w':=by
 have a4:=z2t hn;refine we [(0,.agg #[.int .u8 b,.int .i64 p]),(1,.int .i64 r)] func133 U ntmps133 U (.c2 U U) (sr (bx U (λg2 w1 a5 O q1 z1=>(al x9x U (λg4 w2 a6 D q2 z2=>(asg U (nn (sq (sr ?_)))))))));have O:=O.ext q2;refine z0k U O z5s (cl (ev1 U) u5x (z5i _ _ _) U ?_);rintro _ w3 ⟨rfl,q3⟩;have z3:=q3.size;refine ne' U (nn (cd U (λc0=>?_) (λc0=>?_)));refine sr (z1v (cs:=[_,_]) z0f y7p z0r U ?_);have D:=D.ext q3;exact z0j (vs:=[_,_]) U D y4e (λw4 D q4 z4=>(asg U (nn (rt (tr (rCT results133 U D z5s U (absurd hn c0)))))));refine sk (tn (sq (sr (mv U (cl (ev1 U) (mkC func159) (x5o _ _) U ?_)))));rintro _ w5 ⟨rfl,q5⟩;have z5:=q5.size;refine nt' U (nn (cd U (λc1=>?_) (λc1=>?_)));refine sr (z1v (cs:=[_,_]) z0f y7p z0r U ?_);have D:=D.ext (q3.n1 q5);exact z0j (vs:=[_,_]) U D y4e (λw6 D q6 z6=>(asg U (nn (rt (tr (rCT results133 U D z5s U (absurd hr c1)))))));refine sk (tn (sr (fad U z6s ?_)));have O:=O.ext (q3.n1 q5);refine z0i U O U na3 (mv U (z2x U (wi6 oo) (z1v (cs:=[_,_]) (ev2 U) y7p (z0g U (z0g U z0r)) U ?_)));refine al x9x U (λg6 w7 a7 I q7 z7=>(z0j (vs:=[_,_]) U I y4e (λw8 I q8 z8=>(kpL (ll4 1 2 4 6) (csu U) (nn (jn (ι:=Unit) (ll2 4 6) (λ_j=>[]) (λ_j w'=>Fr [g6] w8 w'/\Blk w' g6 42 [.int .u8 (1-b),.int .i64 (z5t b p r)]) (csu U) ?_ ?_))))));refine sr (fad U z6u ?_);have O:=(O.ext q7).fr q8;refine z0i U O U x3d (eq' U (nn (cd U (λc2=>?_) (λc2=>?_))));refine rg (fad U z6s (z0i U O U na3 (mv U (z0w U (wi6 oo) (z1v (cs:=[_,_]) (ev2 U) y7p (z0g U (z0g U z0r)) U ?_)))));exact z0j (vs:=[_,_]) U I y4e (λw9 I q9 z9=>(kpL (ll2 4 6) (csu U) (nl (jE (()) (csu U) ⟨((l12 [g6] _).z1 q9),(by rw[show z5t b p r=p+r from if_pos c2,show 1-b=0 by omega];exact I)⟩))));exact sk (jE (()) (csu U) ⟨(l12 _ _),(by rw[show z5t b p r=p-r from if_neg c2,show 1-b=1 by omega];exact I)⟩);rintro _j a8 ⟨a0,I⟩;have b2:=a0.size;have a1:=I.lt;refine kpC (ll2 4 6) (csu U) (sq (sr (z0k U I z5s (cl (ev1 U) u5x (z5i _ _ _) U ?_))));rintro _ a9 ⟨rfl,Z⟩;have b3:=Z.size;refine ne' U (nn (cd U (λc3=>?_) (λc3=>?_)));refine sr (z1v (cs:=[_,_]) z0f y7p z0r U ?_);have D:=(((D.ext (q3.n2 q5 q7)).fr q8).fr a0).ext Z;exact z0j (vs:=[_,_]) U D y4e (λb0 D a2 b4=>(asg U (nn (rt (tr (rCT results133 U D z5s U ⟨_,rfl,⟨0,0,by rw[if_pos c3],λe=>absurd e c3⟩,(((q1.z6 q2 q3 q5 q7 q8 a0).n1 Z).z1 a2)⟩))))));refine sk (tn (sr ?_));have I:=I.ext Z;refine z0k U I z5s ?_;have D:=(((D.ext (q3.n2 q5 q7)).fr q8).fr a0).ext Z;exact z0j (vs:=[_,_]) U D y4e (λb1 D a3 b5=>(asg U (nn (rt (rCT results133 U D z5s U ⟨_,rfl,⟨_,_,by rw[if_neg c3],λ_=>⟨rfl,rfl⟩⟩,(((q1.z6 q2 q3 q5 q7 q8 a0).n1 Z).z1 a3)⟩)))))
def BdOIf (c:Prop)(Sτ I base:Nat)(w:World)(q:BdQ):Prop:=c->BdO Sτ I base w q
theorem BdOIf.ext {c:Prop}{D I base:Nat}{w w':World}{q:BdQ}(h:BdOIf c D I base w q)(hf:Fr [] w w'):BdOIf c D I base w' q:=λO=>(h O).ext hf
theorem BdOIf.tf {c:Prop}{D I base:Nat}{w w':World}{q:BdQ}{S:List Nat}(h:BdOIf c D I base w q)(hf:Fr S w w')(Z:OffT w D S)(O:OffT w I S):BdOIf c D I base w' q:=λhc=>BdO.tf (h hc) hf Z O
theorem x3n {p:MSt}{o:MOp}(h:o.b=0\/o.b=1):y1q p.B o.b o.p (z5t o.b o.p p.rk)=y0r p o:=by
 unfold y1q y0r;rcases h with e|e<;>rw[e]<;>rfl
theorem u8j (wS:World)(ka:MA)(m:MQ)(o:MOp)(w0:World)(hM:MkM τd 145 wS ka w0 m)(hi:MInv m.p)(hn:z4d o.b o.p=0):Rets prog 72 #[pta ka.gk,opV o] w0 λr w'=>MRet τd 145 wS ka (z8t m.p o) r w':=by
 have i7:=hM.fr.size;have hk:=hM.k;have i1:=hk.lt;have i3:=hM.ly;have i2:=hM.lt;have h3:=(hM.y.out.blk ka.gy t10).2;have e6:=z2t hn;obtain⟨n,d4⟩:∃n:Nat,o.p=(n:Int):=⟨o.p.toNat,oo⟩;obtain⟨⟨hf,hb⟩,h4,f2⟩:=z3u hi.B;have hv:BdOk m.q.p:=hi.B;have h8:=y6n hv o.b o.p;have e7:-4<=m.rk/\m.rk<=4:=hi.rk;have i4:=y7g o.b o.p m.rk;have i5:=y7g (1-o.b) (z5t o.b o.p m.rk) m.rk;refine we [(0,pta ka.gk),(1,opV o)] func72 U ntmps72 U (.c2 U U) ?_;have a3:=hM;refine sr (bx U (λg3 w1 h9 D q1 z1=>(asg U (nn (sq (sq ?_))))));have hM:=a3.ext q1;intro a h;refine z0h none (λwb w'=>Fr [] wb w') z2o ?_;intro w2 q2;have z2:=q2.size;have hM:=hM.ext q2;have hk:=hk.ext (q1.n1 q2);have D:=D.ext q2;have hC:Fr [] w2 w2:=l12 _ _;have a4:=hM;have a0:=hk;have Z:=D;refine z0d 0 h U λa h=>z0p 1 h U λa h=>z0c 2 h U z3n U λa h=>z1i (vs:=[_,_]) 3 h U (λ_ hw=>(a0.ext hw)) z5a U U λa h=>z0c 4 h U z5n U λa h=>z1i (vs:=[_,_]) 5 h U (λ_ hw=>(Z.ext hw)) z5s U U λa h=>z0e 6 U (z0n h (z0a U (z0a U z0f)) v3r (y5u m.q o.b o.p _ hM.b.at oo hf hb h4 f2) ?_);rintro i8 w3 ⟨e0,hq⟩ a h;have z3:=hq.size;have hM:=hM.ext hq;have hk:=hk.ext hq;have D:=D.ext hq;have hC:=hC.next hq;have q3:=hq;rw[y0y hn]at e0;obtain⟨h6,h7,rfl,h0⟩:=e0.sl.form;refine z0b (z7x 7 hC h wn U underlying30 U λa h=>x4o 8 hC h wn U λa h=>z0o ?_);clear hC a4 a0 Z;refine bk (h.sub (L':=ll3 0 3 19) (csu U)) (tn (cd U (λc0=>?_) (λc0=>?_)));exact sr (asg U (nn (rt (tr (r1 results72 U ⟨_,rfl,MRet.err (if_pos (l99.1 (show (m.q.p.at o.b o.p).length=0 by omega))) dd hM.fr⟩)))));have c9:(m.q.p.at o.b o.p)≠[]:=λe=>c0 (by rw[e];rfl);refine sk (tn (jn (ι:=Nat×Int×Int) (ll2 0 3) (λz_=>[(5,pta z_.1),(6,.int .i64 (if z4d (1-o.b) (z5t o.b o.p m.rk)≠0 then 11 else 0))]) (λz_ w'=>Fr [] w3 w'/\(w3.heap.size<=z_.1/\Blk w' z_.1 42 [.int .u8 z_.2.1,.int .i64 z_.2.2])/\(z4d (1-o.b) (z5t o.b o.p m.rk)=0->z_.2.1=1-o.b/\z_.2.2=z5t o.b o.p m.rk)) (csu U) ?_ ?_));intro a h;refine z0h none (λwb w'=>Fr [] wb w') z2o ?_;intro w4 q4;have z4:=q4.size;have hM:=hM.ext q4;have hk:=hk.ext q4;have D:=D.ext q4;have hC:Fr [] w4 w4:=l12 _ _;have a4:=hM;have a0:=hk;have Z:=D;refine z0c 0 h U z5n U λa h=>z1i (vs:=[_,_]) 1 h U (λ_ hw=>(Z.ext hw)) z5s U U λa h=>z0d 2 h U λa h=>z0p 3 h U λa h=>z0c 4 h U z4f U λa h=>z0m 5 h U (λ_ hw=>a0.ext hw) U na3 U λa h=>z1w 6 10 kr U ?_ ?_;refine z0n h (z0a U (z0a U z0f)) (mkC func133) (v9n o.b o.p m.rk _ hn e7) ?_;rintro _ w5 ⟨⟨bn,pn,rfl,a1⟩,q5⟩ a h;have z5:=q5.size;have hk:=hk.ext q5;have D:=D.ext q5;have hC:=hC.next q5;refine z0b (z0d 7 h U λa h=>z0l 8 h U λa h=>z0l 9 h U λa h=>z0e 10 U (z0y h x9x U λw6 I q6 hz a h=>?_));obtain⟨b3,hg⟩:∃g,g=w5.heap.size:=⟨_,rfl⟩;rw[<-hg]at I h hz;have e1.gk_5:ka.gk<b3:=by have:=hk.lt;omega
 have e2:g3<b3:=by have:=D.lt;omega
 have z6:=q6.size;have hk:=hk.ext q6;have D:=D.ext q6;have hC:=hC.next q6;refine z0b (z0e 11 U (z0t h U I U y4e ?_ (h1:=(by first|(simp[Value.oneCell',S];done)|exact z3d.one (m.ys.getD i yq0)))));clear h a;intro w7 a1 q7 hz a h;have z7:=q7.size;have hk:=hk.fr q7;have D:=D.fr q7;have hC:=hC.sp q7;clear I hz;have I:Blk w7 b3 _ [_,_]:=a1;clear a1;refine z0b (z0e 12 U (z0q h U λa h=>?_));refine z0b (z0o ?_);clear hC a4 a0 Z;exact bk (h.sub (L':=ll4 0 3 5 6) (csu U)) (jE ((b3,bn,pn)) (csu U) ⟨(q4.z3 q5 q6 q7),⟨⟨sm,I⟩,a1⟩⟩);refine z0y h x9x U λw8 I q8 hz a h=>?_;obtain⟨b3,hg⟩:∃g,g=w4.heap.size:=⟨_,rfl⟩;rw[<-hg]at I h hz;have e1.gk_5:ka.gk<b3:=by have:=hk.lt;omega
 have e2:g3<b3:=by have:=D.lt;omega
 have z8:=q8.size;have hC:=hC.next q8;refine z0b (z0e 6 U (z0n h (z0a U (z0a U z0f)) (mkC func133) (v9n o.b o.p m.rk _ hn e7) ?_));rintro _ w9 ⟨⟨bn,pn,rfl,a1⟩,q9⟩ a h;have z9:=q9.size;have hk:=hk.ext (q8.n1 q9);have D:=D.ext (q8.n1 q9);have I:=I.ext q9;have hC:=hC.next q9;refine z0b (z0d 7 h U λa h=>z0l 8 h U λa h=>z0l 9 h U λa h=>z0e 11 U (z0t h U I U y4e ?_ (h1:=(by first|(simp[Value.oneCell',S];done)|exact z3d.one (m.ys.getD i yq0)))));clear h a;intro f9 a1 d7 hz a h;have j9:=d7.size;have hk:=hk.fr d7;have D:=D.fr d7;have hC:=hC.sp d7;clear I hz;have I:Blk f9 b3 _ [_,_]:=a1;clear a1;refine z0b (z0e 12 U (z0q h U λa h=>?_));refine z0b (z0o ?_);clear hC a4 a0 Z;exact bk (h.sub (L':=ll4 0 3 5 6) (csu U)) (jE ((b3,bn,pn)) (csu U) ⟨(q4.z3 q8 q9 d7),⟨⟨sm,I⟩,a1⟩⟩);rintro⟨g5,bn,pn⟩ i9 ⟨a9,⟨⟨f6,I⟩,a1⟩⟩;have k0:=a9.size;have f1:=I.lt;simp only at f6 I a1;refine kpC [(0,_),(3,_),(5,pta g5),(6,_)] (csu U) (sq (sr (mv U (ne' U (nn (cd U (λc1=>?_) (λc1=>?_)))))));refine sr (mv U (asg U (kpL (ll1 4) (csu U) (nn (rt (tr (r1 results72 U ?_)))))));have hM:=a3.ext (q1.n3 q2 q3 a9);have a8:z4d (1-o.b) (z5t o.b o.p m.rk)≠0:=λe=>c1 (by rw[if_neg (λh=>h e)]);exact⟨_,rfl,by rw[if_pos a8];exact MRet.err (by rw[z8t,if_neg c9,if_pos a8]) dd hM.fr⟩;have a8:z4d (1-o.b) (z5t o.b o.p m.rk)=0:=l16.1 λe=>c1 (by rw[if_pos e];decide);obtain⟨rfl,rfl⟩:=a1 a8;have h5:=z2t a8;obtain⟨n2,d3⟩:∃n2:Nat,z5t o.b o.p m.rk=(n2:Int):=⟨(z5t o.b o.p m.rk).toNat,oo⟩;refine sk (tn (sq ?_));have hM:=a3.ext (q1.n3 q2 q3 a9);intro a h;refine z0h none (λwb w'=>Fr [] wb w') z2o ?_;intro f0 b0;have k1:=b0.size;have hM:=hM.ext b0;have hk:=hk.ext (a9.n1 b0);have D:=D.ext (a9.n1 b0);have I:=I.ext b0;have hC:Fr [] f0 f0:=l12 _ _;have a4:=hM;have a0:=hk;have Z:=D;have a5:=I;refine z0c 0 h U z5n U λa h=>z1i (vs:=[_,_]) 1 h U (λ_ hw=>(Z.ext hw)) z5s U U λa h=>z0d 2 h U λa h=>z0p 3 h U λa h=>z0c 4 h U z4f U λa h=>z0m 5 h U (λ_ hw=>a0.ext hw) U na3 U λa h=>z0v 7 h U (λ_ hw=>a5.ext hw) z5s U λa h=>z0d 8 h U λa h=>z0p 9 h U λa h=>z0c 10 h U z4f U λa h=>z0m 11 h U (λ_ hw=>a0.ext hw) U na3 U λa h=>z0e 6 U (z0n h (z0a U (z0a U z0f)) v2j (y3l _ _ _ _ oo) ?_);rintro _ j0 ⟨rfl,a6⟩ a h;have k2:=a6.size;have hC:=hC.next a6;refine z0b (z0e 12 U (z0n h (z0a U (z0a U z0f)) v2j (y3l _ _ _ _ oo) ?_));rintro _ g1 ⟨rfl,a7⟩ a h;have k4:=a7.size;have hM:=hM.ext (a6.n1 a7);have hk:=hk.ext (a6.n1 a7);have D:=D.ext (a6.n1 a7);have I:=I.ext (a6.n1 a7);have hC:=hC.next a7;refine z0b (j5t 13 kr kr kr hC h wn U U U U λa h=>z3s 14 h U t13 U λa h=>z0e 15 U (z0q h U λa h=>?_));refine z0b (z0o ?_);clear hC a4 a0 Z a5;refine bk (h.sub (L':=ll4 0 3 5 7) (csu U)) (tn (sq (sr (mv U (nlc U (fad U z3m (z0i U hk U y4a (lnS U underlying26 (mv U (nn (bl (lpK (ι:=Nat) (ll6 0 3 5 7 51 52) (λi=>[(53,.int .i64 (i:Int))]) (λi w'=>Fr [] g1 w'/\i<=6/\∀k,k<i->¬((m.ys.getD k yq0).inn=true/\(m.ys.getD k yq0).pl=(x7t m.p o))) (λi=>6-i) 0 (csu U) ⟨l12 _ _,⟨l15 _,λj h=>absurd h oo⟩⟩ ?_))))))))))));rintro i j1 ⟨b1,⟨hi,hz⟩⟩;have k5:=b1.size;refine kpC (ll7 0 3 5 7 51 52 53) (csu U) (sr (lt' U (nn (sq (cd U (λc2=>?_) (λc2=>?_))))));refine sk (tn (sq (bl (sr ?_))));have hM:=a3.ext ((q1.n6 q2 q3 a9 b0 a6 a7).n1 b1);refine z1b (yq0) U hM.y.out.sl U y4l z1h (λg8 e5=>?_);refine z1q U (e5 _ hM.y.out.sl) z3c (al z5p U (λg9 j2 i0 d9 e8 k6=>?_));refine z0j (vs:=[_,_,_,_,_]) U d9 z3h (λj3 d9 e9 k7=>?_) (h1:=(by first|(simp[Value.oneCell',S];done)|exact z3d.one (m.ys.getD i yq0)));refine nn (sq (rbo (r:=64) (L':=ll7 0 3 5 7 51 52 53) (((m.ys.getD i yq0).inn=true/\((m.ys.getD i yq0).pl=((min (z2c o.b o.p m.rk) (z2c (1-o.b) (z5t o.b o.p m.rk) m.rk))+1)))) (csu U) ?_ ?_));refine fad U z7f (z0i U d9 U na4 (mv U (gs 59 U (λg0=>?_) (λg0=>?_))));exact gY U (fad U z4x (gY U (z0i U d9 U na3 (gY U (mv U (gY U (eq' U (pkt U (rbe U (csu U))))))))));exact gN U (gN U (gN U (gN U (pkf U (rbe U (csu U))))));refine tn (cd U (λc3=>?_) (λc3=>?_));refine sr (asg U (kpL (ll1 4) (csu U) (nn (rt (rb (tr (tr (rb (tr (r1 results72 U ?_))))))))));have hM:=a3.ext ((((q1.n6 q2 q3 a9 b0 a6 a7).n1 b1).n1 e8).z1 e9);exact⟨_,rfl,MRet.err (by rw[z8t,if_neg c9,if_neg (λh=>h a8),if_pos (⟨_,l48.2 ⟨m.ys.getD i yq0,z1a oo,rfl⟩,c3⟩:∃y∈m.p.ys,y.inn=true/\y.pl=x7t m.p o)]) dd hM.fr⟩;refine sk (bn' (tn (rg (z0w U (wi6 oo) (mv U (nl ?_))))));exact lpE (i+1) (csu U) ⟨(b1.z2 e8 e9),⟨oo,λk h=>by
  by_cases e:k=i;subst e;exact c3;exact hz k oo⟩⟩ oo
 have b6:¬ ∃y∈m.p.ys,y.inn=true/\y.pl=x7t m.p o:=by
  rintro⟨y,hy,h1,h2⟩;obtain⟨z,f5,rfl⟩:=l48.1 hy;obtain⟨k,f4,rfl⟩:=l25 f5;refine hz k oo ?_;rw[List.getD,l10 f4];exact⟨h1,h2⟩
 refine ex (te (te (xh (tn (sq ?_)))));have hM:=a3.ext ((q1.n6 q2 q3 a9 b0 a6 a7).n1 b1);intro a h;refine z0h none (λwb w'=>Fr [] wb w') z2o ?_;intro e4 b7;have k8:=b7.size;have hM:=hM.ext b7;have hk:=hk.ext (b1.n1 b7);have D:=D.ext (b1.n1 b7);have I:=I.ext (b1.n1 b7);have hC:Fr [] e4 e4:=l12 _ _;have a4:=hM;have a0:=hk;have Z:=D;have a5:=I;refine z0d 0 h U λa h=>z0p 1 h U λa h=>z0c 2 h U z3n U λa h=>z1i (vs:=[_,_]) 3 h U (λ_ hw=>(a0.ext hw)) z5a U U λa h=>z0c 4 h U z5n U λa h=>z1i (vs:=[_,_]) 5 h U (λ_ hw=>(Z.ext hw)) z5s U U λa h=>z0v 6 h U (λ_ hw=>a5.ext hw) z5s U λa h=>z1w 7 11 kr U ?_ ?_;refine z0n h (z0a U (z0a U (z0a U z0f))) (mkC func124) (by have x:=x0q m.q o.b n n2 _ hM.b.at hv (by rw[<-d4];exact hn) (by rw[<-d3];exact a8) (by rw[<-d4];exact c9);rw[<-d4,<-d3]at x;exact x) ?_;rintro _ g4 ⟨⟨q',rfl,d5⟩,q19⟩ a h;have k9:=q19.size;have hk:=hk.ext q19;have D:=D.ext q19;have I:=I.ext q19;have hC:=hC.next q19;have hQ:BdOIf (¬4<(m.q.p.at o.b o.p).length+(m.q.p.at (1-o.b) (z5t o.b o.p m.rk)).length) 30 64 _ _ q':=λhc=>(d5 hc).1;have e3:=λhc=>(d5 hc).2;have d1:=λhc=>x3r (hQ hc) a3.f oo;refine z0b (z0d 8 h U λa h=>z0l 9 h U λa h=>z0l 10 h U λa h=>z0e 11 U (z0y h x7e U λj4 O b2 hz a h=>?_));obtain⟨a2,hg⟩:∃g,g=g4.heap.size:=⟨_,rfl⟩;rw[<-hg]at O h hz;have e1.gk_10:ka.gk<a2:=by have:=hk.lt;omega
 have b4:g3<a2:=by have:=D.lt;omega
 have b4:g5<a2:=by have:=I.lt;omega
 have l0:=b2.size;have hM:=hM.ext (q19.n1 b2);have hk:=hk.ext b2;have D:=D.ext b2;have I:=I.ext b2;first|have hQ:=BdOIf.ext hQ b2|have hQ:=BdOIf.tf hQ b2 (OffT.one O dd) (OffT.one O dd)
 have hC:=hC.next b2;refine z0b (z0e 12 U (z0t h U O U x1a ?_ (h1:=(by first|(simp[Value.oneCell',S];done)|exact z3d.one (m.ys.getD i yq0)))));clear h a;intro g6 a1 b8 hz a h;have l1:=b8.size;have hk:=hk.fr b8;have D:=D.fr b8;have I:=I.fr b8;first|have hQ:=BdOIf.ext hQ b8|have hQ:=BdOIf.tf hQ b8 (OffT.one O dd) (OffT.one O dd)
 have hC:=hC.sp b8;clear O hz;have O:Blk g6 a2 _ [_,_]:=a1;clear a1;refine z0b (z0e 13 U (z0q h U λa h=>?_));refine z0b (z0o ?_);clear hC a4 a0 Z a5;refine bk (h.sub (L':=ll3 0 6 10) (csu U)) (tn (sq (sr (mv U (eq' U (nn (cd U (λc4=>?_) (λc4=>?_))))))));have b5:¬4<(m.q.p.at o.b o.p).length+(m.q.p.at (1-o.b) (z5t o.b o.p m.rk)).length:=λe=>by rw[if_pos e]at c4;exact absurd c4 dd
 have hQ:=hQ b5;have d1:=d1 b5;refine rg (mv U (z0k U O z5a (nlc U (fad U z3n ?_))));have hM:=a3.ext ((((q1.n6 q2 q3 a9 b0 a6 a7).n1 b1).n1 b7).z3 q19 b2 b8);refine z5f (cs':=u6u ka { m with q:=q' }) U U hM.k t43 x1a U (λj5 d6 f7 l2=>?_);have hM:=hM.beds mtd (hQ.low oo) d6 f7 d1;have hk:=hM.k;have a3:=hM;have f3:=hM;have hF:Lw.Own z1g 64 wS.heap.size _ (slv m.fa) m.fl:=hM.f;clear d6;refine kpL (ll1 6) (csu U) (nl (tn (sr (mv U (asg U (nn (rt (r1 results72 U ?_))))))));exact⟨_,rfl,by rw[c4];exact MRet.ok (by rw[z8t,if_neg c9,if_neg (λh=>h a8),if_neg b6,if_neg b5];exact congrArg Except.ok (by have hj:y1q m.q.p o.b o.p (z5t o.b o.p m.rk)=y0r m.p o:=x3n (p:=m.p) e6.1;unfold MQ.p;simp only[e3 b5];rw[hj])) hM⟩;refine sk (tn (sr (mv U (asg U (nn (rt (r1 results72 U ?_)))))));have hM:=a3.ext ((((q1.n6 q2 q3 a9 b0 a6 a7).n1 b1).n1 b7).z3 q19 b2 b8);exact⟨_,rfl,MRet.err (by rw[z8t,if_neg c9,if_neg (λh=>h a8),if_neg b6,if_pos (l16.1 λe=>c4 (if_neg e))];rw[if_pos (l16.1 λe=>c4 (if_neg e))]) c4 hM.fr⟩;refine z0y h x7e U λj6 O d0 hz a h=>?_;obtain⟨a2,hg⟩:∃g,g=e4.heap.size:=⟨_,rfl⟩;rw[<-hg]at O h hz;have e1.gk_10:ka.gk<a2:=by have:=hk.lt;omega
 have b4:g3<a2:=by have:=D.lt;omega
 have b4:g5<a2:=by have:=I.lt;omega
 have l3:=d0.size;have hM:=hM.ext d0;have hC:=hC.next d0;refine z0b (z0e 7 U (z0n h (z0a U (z0a U (z0a U z0f))) (mkC func124) (by have x:=x0q m.q o.b n n2 _ hM.b.at hv (by rw[<-d4];exact hn) (by rw[<-d3];exact a8) (by rw[<-d4];exact c9);rw[<-d4,<-d3]at x;exact x) ?_));rintro _ j7 ⟨⟨q',rfl,d5⟩,q24⟩ a h;have l4:=q24.size;have hM:=hM.ext q24;have hk:=hk.ext (d0.n1 q24);have D:=D.ext (d0.n1 q24);have I:=I.ext (d0.n1 q24);have O:=O.ext q24;have hC:=hC.next q24;have hQ:BdOIf (¬4<(m.q.p.at o.b o.p).length+(m.q.p.at (1-o.b) (z5t o.b o.p m.rk)).length) 30 64 _ _ q':=λhc=>(d5 hc).1;have e3:=λhc=>(d5 hc).2;have d1:=λhc=>x3r (hQ hc) a3.f oo;refine z0b (z0d 8 h U λa h=>z0l 9 h U λa h=>z0l 10 h U λa h=>z0e 12 U (z0t h U O U x1a ?_ (h1:=(by first|(simp[Value.oneCell',S];done)|exact z3d.one (m.ys.getD i yq0)))));clear h a;intro g7 a1 b9 hz a h;have l5:=b9.size;have hk:=hk.fr b9;have D:=D.fr b9;have I:=I.fr b9;first|have hQ:=BdOIf.ext hQ b9|have hQ:=BdOIf.tf hQ b9 (OffT.one O dd) (OffT.one O dd)
 have hC:=hC.sp b9;clear O hz;have O:Blk g7 a2 _ [_,_]:=a1;clear a1;refine z0b (z0e 13 U (z0q h U λa h=>?_));refine z0b (z0o ?_);clear hC a4 a0 Z a5;refine bk (h.sub (L':=ll3 0 6 10) (csu U)) (tn (sq (sr (mv U (eq' U (nn (cd U (λc4=>?_) (λc4=>?_))))))));have b5:¬4<(m.q.p.at o.b o.p).length+(m.q.p.at (1-o.b) (z5t o.b o.p m.rk)).length:=λe=>by rw[if_pos e]at c4;exact absurd c4 dd
 have hQ:=hQ b5;have d1:=d1 b5;refine rg (mv U (z0k U O z5a (nlc U (fad U z3n ?_))));have hM:=a3.ext ((((q1.n6 q2 q3 a9 b0 a6 a7).n1 b1).n1 b7).z3 d0 q24 b9);refine z5f (cs':=u6u ka { m with q:=q' }) U U hM.k t43 x1a U (λj8 d6 f8 l6=>?_);have hM:=hM.beds mtd (hQ.low oo) d6 f8 d1;have hk:=hM.k;have a3:=hM;have f3:=hM;have hF:Lw.Own z1g 64 wS.heap.size _ (slv m.fa) m.fl:=hM.f;clear d6;refine kpL (ll1 6) (csu U) (nl (tn (sr (mv U (asg U (nn (rt (r1 results72 U ?_))))))));exact⟨_,rfl,by rw[c4];exact MRet.ok (by rw[z8t,if_neg c9,if_neg (λh=>h a8),if_neg b6,if_neg b5];exact congrArg Except.ok (by have hj:y1q m.q.p o.b o.p (z5t o.b o.p m.rk)=y0r m.p o:=x3n (p:=m.p) e6.1;unfold MQ.p;simp only[e3 b5];rw[hj])) hM⟩;refine sk (tn (sr (mv U (asg U (nn (rt (r1 results72 U ?_)))))));have hM:=a3.ext ((((q1.n6 q2 q3 a9 b0 a6 a7).n1 b1).n1 b7).z3 d0 q24 b9);exact⟨_,rfl,MRet.err (by rw[z8t,if_neg c9,if_neg (λh=>h a8),if_neg b6,if_pos (l16.1 λe=>c4 (if_neg e))];rw[if_pos (l16.1 λe=>c4 (if_neg e))]) c4 hM.fr⟩
end Go.Proofs.YtlfdhllfmoplgaaGreatDoor
namespace Go.G08
open Go.Lw Go.G21
theorem x0c {p:MSt}{y:Int}{q:Yn}(h:MInv p)(Z:1<=y/\y<=6)(O:y1t q)(I:q.ct=(p.y y).ct):MInv (p.setY y q):=by
 have hl:(y-1).toNat<p.ys.length:=by rw[h.ly];omega
 refine⟨h.rk,h.B,by show (p.ys.set _ q).length=6;rw[l19];exact h.ly,h.lt,λk D=>?_,h.has,h.cnt,h.all,h.cv⟩;show y1t ((p.ys.set (y-1).toNat q).getD k yn0)/\((p.ys.set (y-1).toNat q).getD k yn0).ct=z3i p.tb k;rw[z1n hl];split;rename_i e;refine⟨O,I.trans ?_⟩;have:=(h.yn k D).2;rw[<-e]at this ⊢;exact this;exact h.yn k D
theorem v5b {st:List Pa}{p:Pa}(h:y7w st)(hp:y2p p):y7w (y1g st p):=by
 unfold y1g;split;intro i Z;rw[l28]at Z;have e:∀k,k<st.length-1->(st.take (st.length-1)).getD k pa0=st.getD k pa0:=λk hk=>by
  rw[List.getD,l63,if_pos hk,List.getD]
 obtain⟨I,O⟩:=h i oo;refine⟨by rw[e i oo];exact I,λD=>?_⟩;rw[e i oo,e (i-1) oo];exact O D;rename_i hc;intro i Z;rw[l13,l56]at Z;have e:∀k,k<st.length->(st++[p]).getD k pa0=st.getD k pa0:=λk hk=>by
  rw[List.getD,l38 hk,List.getD]
 by_cases hl:i<st.length;obtain⟨I,O⟩:=h i hl;refine⟨by rw[e i hl];exact I,λD=>?_⟩;rw[e i hl,e (i-1) oo];exact O D;obtain rfl:i=st.length:=by omega
 have ep:(st++[p]).getD st.length pa0=p:=by simp[List.getD]
 refine⟨by rw[ep];exact hp,λD=>?_⟩;rw[ep,e (st.length-1) oo];exact λhh=>hc ⟨D,hh⟩
theorem x4t:∀ {l st:List Pa},y7w st->j2u l->y7w (z5d st l)
 | [],_,h,_=>h
 | p::l,st,h,hv=>x4t (l:=l) (v5b h (hv p sp0)) (λq D=>hv q (l46 _ D))
theorem j9m {y:Yn}{pl:Int}{l:List Pa}(h:goE y pl l=0):y1t (goS y pl l):=by
 unfold goE at h;split at h;exact absurd h t12;rename_i I;have I:=v8a (l16.1 I);split at h;omega;rename_i Z;split at h;omega;rename_i hv;split at h;omega;rename_i D;have D:y.inn=true:=by simpa using D
 split at h;omega;have O:=I.2;rw[if_pos D]at O;refine⟨I.1,?_⟩;show if y.inn=true then _ else _
 rw[if_pos D];exact⟨l16.1 Z,by show (z5d y.pe l).length<=4096;omega,x4t O.2.2 (l16.1 hv)⟩
theorem y0j (B:Bd){b n:Int}(h:z4d b n=0)(s:List LId):(B.put b n s).flat.length+(B.at b n).length=B.flat.length+s.length:=by
 have:=(List.perm_iff_count.2 (λi=>by rw[l20,l20];exact z5b B h s i):((B.put b n s).flat++B.at b n).Perm (B.flat++s)).length_eq;simpa using this
theorem u7r {B:Bd}(h:BdOk B){b n:Int}(hn:z4d b n=0):BdOk (B.put b n []):=h.put hn sp0 sp0 λi=>by
 have:=l80.1 h.nd i
 simp only[l116];omega
theorem u1p {p q:MSt}{o:MOp}(h:MInv p)(hn:z4d o.b o.p=0)(e:y3g p o=.ok q):MInv q:=by
 unfold y3g at e;split at e;cases e;cases e;refine⟨h.rk,u7r h.B hn,h.ly,h.lt,h.yn,λi I=>?_,?_,h.all,h.cv⟩;rcases y1v hn I with k|k
 cases k;exact h.has i k;have D:=y0j p.B hn [];have O:=h.cnt;show (p.B.put o.b o.p []).flat.length+(p.fa++p.B.at o.b o.p).length<=z4r p.tb;rw[l13];simp only[l52]at D;omega
theorem y6o {p:MSt}{o:MOp}(h:o.b=0\/o.b=1)(i:LId):(y0r p o).count i=(p.B.at o.b o.p).count i+(p.B.at (1-o.b) (z5t o.b o.p p.rk)).count i:=by
 unfold y0r;rcases h with e|e
 rw[e,if_neg dd,l20,show (1:Int)-0=1 from U];omega;rw[e,if_pos U,l20,show (1:Int)-1=0 from U]
theorem u3y {p q:MSt}{o:MOp}(h:MInv p)(hn:z4d o.b o.p=0)(e:z8t p o=.ok q):MInv q:=by
 unfold z8t at e;split at e;cases e;split at e;cases e;rename_i D;have D:=l16.1 D;split at e;cases e;split at e;cases e;rename_i h4;cases e;have hb:=(z2t hn).1;have hc:=y6o (p:=p) (o:=o) hb;have a0:(y0r p o).length=(p.B.at o.b o.p).length+(p.B.at (1-o.b) (z5t o.b o.p p.rk)).length:=by
  have:=(List.perm_iff_count.2 (λi=>by rw[l20];exact hc i):(y0r p o).Perm (p.B.at o.b o.p++p.B.at (1-o.b) (z5t o.b o.p p.rk))).length_eq;simpa using this
 have I:∀i∈y0r p o,i∈p.B.flat:=λi hi=>by
  have O:=l110.2 hi;rw[hc i]at O;by_cases k:0<(p.B.at o.b o.p).count i;exact y1p (l110.1 k);exact y1p (l110.1 (show 0<(p.B.at (1-o.b) (z5t o.b o.p p.rk)).count i by omega))
 have Z:(p.B.put o.b o.p []).at (1-o.b) (z5t o.b o.p p.rk)=p.B.at (1-o.b) (z5t o.b o.p p.rk):=by
  rw[y7n p.B hn D,if_neg oo]
 have a1:=u7r h.B hn;refine⟨h.rk,a1.put D oo (λi hi=>h.B.nm i (I i hi)) (λi=>?_),h.ly,h.lt,h.yn,λi hi=>?_,?_,h.all,h.cv⟩;have O:=z5b p.B hn [] i;have h2:=l80.1 h.B.nd i;rw[Z,hc i];simp only[l116]at O;omega;rcases y1v D hi with k|k
 exact h.has i (I i k);rcases y1v hn k with k|k
 cases k;exact h.has i k;have O:=y0j p.B hn [];have h2:=y0j (p.B.put o.b o.p []) D (y0r p o);have h3:=h.cnt;rw[Z,a0]at h2;simp only[l52]at O;show ((p.B.put o.b o.p []).put (1-o.b) (z5t o.b o.p p.rk) (y0r p o)).flat.length+p.fa.length<=z4r p.tb;omega
theorem v3y {p q:MSt}{o:MOp}{th st:List LId}(h:MInv p)(hy:1<=o.y/\o.y<=6)(hn:z4d o.b o.p=0)(hs:st=[]\/(st=p.B.at o.b o.p/\st.length<4))(e:y1u p o th st=.ok q):MInv q:=by
 unfold y1u at e;split at e;cases e;rename_i hm;split at e;cases e;rename_i hc;cases e;have hm:=l16.1 hm;obtain⟨j,hj,a7⟩:∃j:Nat,j<6/\o.y=(j:Int)+1:=⟨(o.y-1).toNat,oo,oo⟩;have Z:(o.y-1).toNat=j:=by omega
 have O:=h.yn j hj;have a8:p.y o.y=p.ys.getD j yn0:=by unfold MSt.y;rw[Z]
 rw[<-a8]at O;have a6:j<p.ys.length:=by rw[h.ly];exact hj
 have I:j<p.tb.length:=by rw[h.lt];exact hj
 have a1:(p.y o.y).inn=true/\(p.y o.y).ct≠2048:=by
  unfold mkE at hm;split at hm;exact absurd hm t12;split at hm;omega;rename_i D;split at hm;omega;rename_i hk;exact⟨by simpa using D,hk⟩
 have a9:=O.1.1;have a0:∀i∈p.B.flat,i≠⟨o.y,(p.y o.y).ct⟩:=λi D e=>by
  have:=h.has i D;rw[e]at this;obtain⟨_,_,_,h4⟩:=this;simp only at h4;rw[Z,O.2]at h4;omega
 have a2:∀i∈st,i∈p.B.flat:=λi D=>by
  rcases hs with e|⟨e,_⟩
  rw[e]at D;cases D;rw[e]at D;exact y1p D
 have a3:p.row o.y=p.tb.getD j []:=by unfold MSt.row;rw[Z]
 simp only[Z,a3];have a5:(st++[(⟨o.y,(p.y o.y).ct⟩:LId)]).length<=4:=by
  rw[l13,l56];rcases hs with e|⟨_,e⟩
  rw[e];simp;omega
 have a4:=y6u p.tb j (p.tb.getD j []++[(⟨o.b,(p.y o.y).nw,th,(p.y o.y).pe⟩:Lp)]) I;rw[l13,l56,show (p.tb.getD j []).length=z3i p.tb j from U]at a4;refine⟨h.rk,h.B.put hn a5 (λi D=>?_) (λi=>?_),by show (p.ys.set _ _).length=6;rw[l19];exact h.ly,by show (p.tb.set _ _).length=6;rw[l19];exact h.lt,λk hk=>?_,λi D=>?_,?_,?_,h.cv⟩;rcases l22.1 D with k|k
 exact h.B.nm i (a2 i k);rw[l11.1 k];unfold y2e;simp only;omega;have hd:=l80.1 h.B.nd i;rw[l20,l89];by_cases e:(⟨o.y,(p.y o.y).ct⟩:LId)=i;have h0:p.B.flat.count i=0:=l62.2 λk=>a0 i k e.symm;have h1:st.count i=0:=l62.2 λk=>a0 i (a2 i k) e.symm;rw[h0,h1];split<;>omega
 rw[if_neg (by simpa using e)];rcases hs with e|⟨e,_⟩
 rw[e];simp only[l116];omega;rw[e];omega;show y1t ((p.ys.set j (mkS (p.y o.y))).getD k yn0)/\((p.ys.set j (mkS (p.y o.y))).getD k yn0).ct=z3i (p.tb.set j _) k;rw[z1n a6,y0o I];by_cases e:j=k;rw[if_pos e,if_pos e];refine⟨⟨⟨by show 0<=(p.y o.y).ct+1;omega,by show (p.y o.y).ct+1<=2048;omega⟩,?_⟩,?_⟩;have h2:=O.1.2;rw[if_pos a1.1]at h2;show if true=true then _ else _
 rw[if_pos U];exact⟨h2.1,by show ([]:List Pa).length<=4096;simp,λi D=>by simp[mkS]at D⟩;show (p.y o.y).ct+1=_;rw[O.2,l13,l56];rfl;rw[if_neg e,if_neg e];exact h.yn k hk;rcases y1v hn D with k|k
 rcases l22.1 k with k|k
 exact x0f I (h.has i (a2 i k));rw[l11.1 k];have:=y0k (T:=p.tb.set j (p.tb.getD j []++[(⟨o.b,(p.y o.y).nw,th,(p.y o.y).pe⟩:Lp)])) (y:=j) (n:=z3i p.tb j) (by rw[l19];exact I) (by rw[y0o I,if_pos U,l13,l56];exact Nat.lt_succ_self _);rwa [<-a7,<-O.2]at this;exact x0f I (h.has i k);have h1:=y0j p.B hn (st++[(⟨o.y,(p.y o.y).ct⟩:LId)]);have h2:=h.cnt;have h3:st.length<=(p.B.at o.b o.p).length:=by
  rcases hs with e|⟨e,_⟩
  rw[e];simp;rw[e];exact l21 _
 rw[l13,l56]at h1;show (p.B.put o.b o.p _).flat.length+p.fa.length<=z4r (p.tb.set j _);omega;have:=h.all;show z4r (p.tb.set j _)<=2048;omega
theorem j6w {p q:MSt}{o:MOp}(h:MInv p)(hy:1<=o.y/\o.y<=6)(hd:z6x o.d)(e:inM p o=.ok q):MInv q:=by
 unfold inM at e;split at e;cases e;rename_i D;cases e;have D:=l16.1 D;refine x0c h hy ?_ U;have I:y1t (p.y o.y):=by
  unfold enE at D;split at D;exact absurd D t12;rename_i O;exact v8a (l16.1 O)
 refine⟨I.1,?_⟩;show if true=true then _ else _
 rw[if_pos U];refine⟨?_,by show ([]:List Pa).length<=4096;simp,λi Z=>by simp[enS]at Z⟩;show x5p (if o.d=1 then 179 else -13);split<;>decide
theorem j3w {p q:MSt}{o:MOp}(h:MInv p)(Z:1<=o.y/\o.y<=6)(e:x7b p o=.ok q):MInv q:=by
 unfold x7b at e;split at e;cases e;rename_i D;cases e;have D:=l16.1 D;refine x0c h Z ?_ U;have I:y1t (p.y o.y):=by
  unfold lvE at D;split at D;exact absurd D t12;rename_i O;exact v8a (l16.1 O)
 refine⟨I.1,?_⟩;show if false=true then _ else _
 rw[if_neg dd];exact⟨rfl,rfl,rfl⟩
theorem y1i {p q:MSt}{y pl en:Int}(h:MInv p)(I:1<=y/\y<=6)(e:z8y p y pl en=.ok q):MInv q/\q.B=p.B/\q.rk=p.rk:=by
 unfold z8y at e;split at e;cases e;rename_i D;cases e;exact⟨x0c h I (j9m (l16.1 D)) U,rfl,rfl⟩
theorem u4l {p q:MSt}{o:MOp}(h:MInv p)(D:1<=o.y/\o.y<=6)(e:y3q p o=.ok q):MInv q:=by
 unfold y3q at e;split at e;cases e;exact(y1i h D e).1
theorem u6a {p q:MSt}{o:MOp}(h:MInv p)(D:1<=o.y/\o.y<=6)(hn:z4d o.b o.p=0)(e:y1h p o=.ok q):MInv q:=by
 unfold y1h at e;split at e;cases e;split at e;cases e;rename_i r I;exact v3y (y1i h D I).1 D hn (.inl U) e
theorem u5n {p q:MSt}{o:MOp}(h:MInv p)(D:1<=o.y/\o.y<=6)(hn:z4d o.b o.p=0)(e:y0t p o=.ok q):MInv q:=by
 unfold y0t at e;split at e;cases e;split at e;cases e;rename_i r I;split at e;cases e;exact v3y (y1i h D I).1 D hn (.inr ⟨rfl,oo⟩) e
theorem x9q {p:MSt}{d:Int}{y D:Yn}(e:z7t p d y=.ok D):(y1t y->y1t D)/\D.ct=y.ct:=by
 unfold z7t at e;split at e;cases e;exact⟨id,rfl⟩;split at e;cases e;rename_i I;cases e;exact⟨λ_=>j9m (l16.1 I),rfl⟩
theorem x2k {p:MSt}{d:Int}:∀ {l l':List Yn},z4k p d l=.ok l'->l'.length=l.length/\∀k,(y1t (l.getD k yn0)->y1t (l'.getD k yn0))/\(l'.getD k yn0).ct=(l.getD k yn0).ct
 | [],l',e=>by cases e;exact⟨rfl,λk=>⟨id,rfl⟩⟩
 | y::l,l',e=>by
  unfold z4k at e
  split at e
  ·cases e
  rename_i y' O
  split at e
  ·cases e
  rename_i Z hl
  cases e
  obtain⟨D,I⟩:=x2k hl
  refine⟨by simp[D],λk=>?_⟩
  cases k with
  | zero=>exact x9q O
  | succ k=>simpa only[l59] using I k
def k0b (l:List Cx):Prop:=∀c∈l,-1048576<=c.n/\c.n<=1048576
theorem u9t {l l':List Cx}{c:Cx}(h:k0b l)(e:y4n l c=.ok l'):k0b l':=by
 unfold y4n at e;dsimp only at e;generalize (if 0<z5o c.a c.b then (c.b,c.a) else (c.a,c.b))=kk at e;split at e;cases e;rename_i O;split at e;cases e;intro x D;exact h x (l91.1 D).1;cases e;intro x D;unfold y4r at D;split at D;obtain⟨z,I,rfl⟩:=l48.1 D;split;simp only;omega;exact h z I;rcases l22.1 D with k|k
 exact h x k;rw[l11.1 k];simp only;omega
theorem y9s:∀ {r l l':List Cx},k0b l->z4i l r=.ok l'->k0b l'
 | [],l,l',h,e=>by cases e;exact h
 | c::r,l,l',h,e=>by
  unfold z4i at e
  split at e
  ·cases e
  rename_i I D
  exact y9s (u9t h D) e
theorem y5i {p q:MSt}{d:Int}(h:MInv p)(hd:-4<=p.rk+stI d/\p.rk+stI d<=4)(e:z6h p d=.ok q):MInv q/\q.rk=p.rk+stI d:=by
 unfold z6h at e;split at e;cases e;rename_i ys I;split at e;cases e;rename_i cr D;cases e;obtain⟨h1,O⟩:=x2k I;exact⟨⟨hd,h.B,h1.trans h.ly,h.lt,λk Z=>⟨(O k).1 (h.yn k Z).1,(O k).2.trans (h.yn k Z).2⟩,h.has,h.cnt,h.all,y9s h.cv D⟩,rfl⟩
theorem v0a {r:Int}(O:-4<=r/\r<=4):∀ {n:Nat} {p q:MSt},MInv p->z4t n p r=.ok q->MInv q
 | 0,p,q,h,e=>by cases e;exact h
 | n+1,p,q,h,e=>by
  unfold z4t at e
  split at e
  ·cases e;exact h
  rename_i I
  split at e
  ·cases e
  rename_i p2 D
  have Z:=h.rk
  refine v0a O (y5i h ?_ D).1 e
  unfold stI
  split<;>split<;>omega
theorem z8p {p q:MSt}{o:MOp}(h:MInv p)(e:doM p o=.ok q):MInv q:=by
 unfold doM at e;split at e;cases e;rename_i hc;obtain⟨_,O,D,h3,I,Z⟩:=z3o (l16.1 hc);unfold opM at e;split at e;exact j6w h (D oo) (O oo) e;split at e;exact j3w h (D oo) e;split at e;exact v0a (Z oo) h e;split at e;exact u6a h (D oo) (I oo) e;split at e;exact u5n h (D oo) (I oo) e;split at e;exact u4l h (D oo) e;split at e;exact u3y h (I oo) e;exact u1p h (I oo) e
end Go.G08
namespace Go.G08
open Go.Lw Go.G21
section
variable {τ:TyK} {Mt:Nat} {wS w w' w2:World} {a:MA} {m:MQ} {j:Nat} {u:SV} {q:LpQ}
theorem MkM.row (h:MkM τ Mt wS a w m)(D:MtOk τ Mt)(hj:j<6)(hq:LpO τ wS.heap.size w q)(a1:∀k∈z0u (slv q.th),k∉z0u (slv m.fa))
    (h1:Lw.Own z5q τ.L wS.heap.size w' (slv u) ((m.ts.getD j tq0).2++[q])) (f1:Fr (z0u (slv (m.ts.getD j tq0).1)) w w') (hx:slv u=slv (m.ts.getD j tq0).1\/z0u (slv u)=z0u (slv (m.ts.getD j tq0).1)\/z0u (slv u)=[w.heap.size])
    (h2:Lw.Own z4o τ.T wS.heap.size w2 a.TV (m.ts.set j (u,(m.ts.getD j tq0).2++[q]))) (f2:Fr [a.gt] w' w2):MkM τ Mt wS a w2 { m with ts:=m.ts.set j (u,(m.ts.getD j tq0).2++[q]) }:=by
  have hl:j<m.ts.length:=by rw[h.lt];exact hj
  have I:∀T,T≠τ.L->OffT w T (z0u (slv (m.ts.getD j tq0).1)):=λT hT=>z6o (h.t.ins j hl) (l44 hT)
  have O:=z1z h.t.out f1 (I _ D.o.tl)
  have Z:∀T,T≠τ.T->OffT w' T [a.gt]:=λT hT=>z6o O (l44 hT)
  refine⟨y4h (y4h h.k f1 (I _ D.l)) f2 (Z _ D.t),BdO.tf (BdO.tf h.b f1 (I _ (l44 D.o.ls)) (I _ (l44 D.o.li))) f2 (Z _ (l44 D.o.ts)) (Z _ (l44 D.o.ti)),
    (h.y.tf f1 (I _ D.o.yl) (I _ (l44 D.o.lp))).tf f2 (Z _ D.o.yt) (Z _ (l44 D.o.tp)),h.t.put D.o hl hq h1 f1 hx h2 f2,(h.c.tf f1 (I _ D.l)).tf f2 (Z _ D.t),z1z (z1z h.f f1 (I _ (l44 D.o.li))) f2 (Z _ (l44 D.o.ti)),h.fb,λi hi p hp=>?_,h.ly,by rw[l19];exact h.lt,h.gk,h.gc,(h.fr.step f1 (y8q (h.t.ins j hl) t42) λk hk a0=>?_).step f2 (y8q O t42) λk hk a0=>?_⟩
  · simp only at hp
    rw[z1n hl]at hp
    split at hp
    · rcases l22.1 hp with k|k
      · exact h.ft j hj p k
      · rw[l11.1 k];exact a1
    · exact h.ft i hi p hp
  · have:=((h.t.ins j hl).blk k hk).1;omega
  · have:=(h.t.out.blk k hk).1;omega
theorem j1w {p:MSt}{o:MOp}{st:List LId}(h:MInv p)(hy:1<=o.y/\o.y<=6)(hs:st=[]\/(st=p.B.at o.b o.p/\st.length<4))(hm:mkE (p.y o.y)=0) :
    (st++[(⟨o.y,(p.y o.y).ct⟩:LId)]).length<=4/\(∀i∈st++[(⟨o.y,(p.y o.y).ct⟩:LId)],y2e i)/\∀i,p.B.flat.count i+(st++[(⟨o.y,(p.y o.y).ct⟩:LId)]).count i<=(p.B.at o.b o.p).count i+1:=by
  obtain⟨j,hj,a4⟩:∃j:Nat,j<6/\o.y=(j:Int)+1:=⟨(o.y-1).toNat,oo,oo⟩
  have Z:(o.y-1).toNat=j:=by omega
  have O:=h.yn j hj
  have a2:p.y o.y=p.ys.getD j yn0:=by unfold MSt.y;rw[Z]
  rw[<-a2]at O
  have a1:(p.y o.y).inn=true/\(p.y o.y).ct≠2048:=by
    unfold mkE at hm
    split at hm
    · exact absurd hm t12
    · split at hm
      · omega
      · rename_i D
        split at hm
        · omega
        · rename_i hk;exact⟨by simpa using D,hk⟩
  have a3:=O.1.1
  have I:∀i∈p.B.flat,i≠⟨o.y,(p.y o.y).ct⟩:=λi D e=>by
    have:=h.has i D
    rw[e]at this
    obtain⟨_,_,_,h4⟩:=this
    simp only at h4
    rw[Z,O.2]at h4
    omega
  have a0:∀i∈st,i∈p.B.flat:=λi D=>by
    rcases hs with e|⟨e,_⟩
    · rw[e]at D;cases D
    · rw[e]at D;exact y1p D
  refine⟨?_,λi D=>?_,λi=>?_⟩
  · rw[l13,l56]
    rcases hs with e|⟨_,e⟩
    · rw[e];simp
    · omega
  · rcases l22.1 D with k|k
    · exact h.B.nm i (a0 i k)
    · rw[l11.1 k];unfold y2e;simp only;omega
  · have hd:=l80.1 h.B.nd i
    rw[l20,l89]
    by_cases e:(⟨o.y,(p.y o.y).ct⟩:LId)=i
    · have h0:p.B.flat.count i=0:=l62.2 λk=>I i k e.symm
      have h1:st.count i=0:=l62.2 λk=>I i (a0 i k) e.symm
      rw[h0,h1];split<;>omega
    · rw[if_neg (by simpa using e)]
      rcases hs with e|⟨e,_⟩
      · rw[e];simp only[l116];omega
      · rw[e];omega
end
end Go.G08
namespace Go.Lw
theorem y1y {ι:Type}{pq:Option Nat}{P:Program}{ops:Array Oper}{K:Act->World->Prop}{C:World->Prop}{fu:Nat}{listed:Array Bool}{a:Act}{w:World}{ds:List Nat}{n:Nat}{L:List (Nat×Value)}(h:AgM ds a n L)(Z:List (Nat×Value))(_hs:Sub Z L)(D:Array Bool)(O:Nat)(M:ι->List (Nat×Value))(R:ι->World->Prop)
    (main:(∀(i:ι) l2 I w',l2=D->AgM ds I n (Z++M i)->R i w'->z1c pq P ops (z0s K) C O l2 I w')->z1c pq P ops (z0s K) C fu listed a w)
    (tail:∀i I w',R i w'->AgM ds I n (Z++M i)->z1c pq P ops (z0s K) C O D I w'):z1c pq P ops (z0s K) C fu listed a w:=
  main λi l2 I w' e ha hr=>by subst e;exact tail i I w' hr ha
end Go.Lw
