/- Texts of the proof, joined. -/
import Derived.Test.YtjilcnmaefhmeaaGreatDoorRows
import Derived.Maps.RangeRun
import Derived.Test.YtjilcnmaefhmeaaGreatDoorZE3
set_option linter.unusedVariables false
set_option linter.unusedSimpArgs false
set_option maxHeartbeats 4000000
namespace Go.Proofs.YtjilcnmaefhmeaaGreatDoor
open Go.Lw Go.G21 Go.G08 _root_.Go.Proofs.Tryz
theorem v2n:z3q prog 292 5:=⟨λ_=>kr,λ_=>kr⟩
theorem y2q:ElemOf prog 288 292 z5w 40:=ElemOf.mk' (z:=(.agg #[.int .u8 0,.int .i64 0,.int .u8 0,.int .i64 0,.int .i64 0])) underlying288 kr U
theorem u0h:z1q prog 292 5:=λ_=>kr
theorem v6g (w:World):(zeroValue 206).run prog w=.ok (.agg #[(.int .u8 0),(.int .i64 0),(.int .u8 0),(.int .i64 0),(.int .i64 0)]) w:=kr
theorem j8s (w:World):(zeroValue 292).run prog w=.ok (.agg #[(.int .u8 0),(.int .i64 0),(.int .u8 0),(.int .i64 0),(.int .i64 0)]) w:=kr
theorem u2p (g c base:Nat)(l:List Hd)(w0:World)(ho:Lw.Own z3l 206 base w0 (.slice (some ⟨g,0,none⟩) l.length c) l)(hl:l.length<=1000000):Rets prog 163 #[.slice (some ⟨g,0,none⟩) l.length c,.func (.func 164) #[] #[]] w0 λr w'=>r=.tuple #[]/\Lw.Own z3l 206 base w' (.slice (some ⟨g,0,none⟩) l.length c) (z5h l)/\Fr [g] w0 w':=by
 refine we [(0,.slice (some ⟨g,0,none⟩) l.length c),(1,.func (.func 164) #[] #[])] func163 U ntmps163 U (.c2 U U) (rg (mv U U (mv U U (lnS U underlying202 (mv U U (cl (ev3 U) (mkC func225) (j2a g c base l _ ho hl) U ?_))))));rintro _ w1 ⟨rfl,ho,D⟩;exact kpL [] .nil (nl (r0n results163  ⟨_,rfl,rfl,ho,((Fr.refl [g] _).z1 D)⟩))
theorem v2e (v:Value)(l:List Hd)(w0:World)(I:Sl z3l w0 v l)(hl:l.length<=100000):Rets prog 165 #[v] w0 λr w'=>∃g,r=.slice (some ⟨g,0,none⟩) l.length l.length/\w0.heap.size<=g/\Lw.Own z3l 206 w0.heap.size w' r l/\Fr [] w0 w':=by
 obtain⟨A,c,rfl,a0,hM,Z⟩:=id I;clear Z;unfold maxLen at hM;refine we [(0,.slice A l.length c)] func165 U ntmps165 U (.cons U .nil) ?_;have J:=I;refine sr (asg U (nn (sr (mv U U (lnS U underlying202 (z1e (m:=l.length) (c:=l.length) (hd0) U z3g v6g U (λO w1 a1 D M z1=>(asg U (nn (sr (mv U U (mv U U ?_))))))))))));replace I:=J.ext M;refine z6n (zs:=List.replicate l.length hd0) (by rw[List.length_replicate];rfl) U (by rw[List.length_replicate];exact D) I (by rw[List.length_replicate]) z3g (λw2 D q2 z2=>?_);rw[List.length_replicate]at D;exact nn (sr (mv U U (asg U (nn (rt (r1 results165 U ⟨_,rfl,O,rfl,oo,D.low oo,(M.z1 q2)⟩))))))
theorem u4z (g c base:Nat)(ys:List LId)(w0:World)(ho:Lw.Own z1f 73 base w0 (.slice (some ⟨g,0,none⟩) ys.length c) ys)(hl:ys.length<=1000000):Rets prog 254 #[.slice (some ⟨g,0,none⟩) ys.length c] w0 λr w'=>Lw.Own z1f 73 base w' (.slice (some ⟨g,0,none⟩) ys.length c) ys.reverse/\Fr [g] w0 w':=by
 refine we [(0,.slice (some ⟨g,0,none⟩) ys.length c)] func254 U ntmps254 U (.cons U .nil) (sr (mv U U (lnS U underlying27 (z2p U (wi6 oo) (asg U (asg U (nn (bl ?_))))))));refine lpK (ι:=Nat) [(0,_)] (λk=>[(2,.int .i64 (k:Int)),(3,.int .i64 ((ys.length:Int)-1-(k:Int)))]) (λk w'=>Fr [g] w0 w'/\k<=ys.length/\∃zs,j2n id0 ys zs k/\Lw.Own z1f 73 base w' (.slice (some ⟨g,0,none⟩) ys.length c) zs) (λk=>ys.length-k) 0 (.c3 U U (congrArg (λz=>some (Value.int .i64 z)) oo)) ⟨Fr.refl _ _,⟨Nat.zero_le _,_,v8n _ _,ho⟩⟩ ?_;rintro k w1 ⟨q1,⟨hk,zs,Z,ho⟩⟩;refine kpC [(0,_),(2,_),(3,_)] (.c3 U U U) (sq (sr (mv U U (mv U U (lt' U (nn (cd U (λc0=>?_) (λc0=>?_))))))));obtain⟨a2,-⟩:=id Z;have O:k<ys.length-1-k:=by omega
 refine sk (tn (sq (bl ?_)));intro a h;refine z0h (some 15) (λwb w'=>Fr [g] wb w') z2m ?_;intro w2 q2;replace ho:=ho.ext q2;have hC:Fr [g] w2 w2:=Fr.refl _ _;have M:=ho;refine z0e 0 h U λa h=>z0e 1 h U λa h=>z0e 2 h U λa h=>z0e 3 h U λa h=>z0e 4 h U λa h=>z0e 5 h U λa h=>z1i (p:=(ys.length-1-k)) (id0) 6 h U ho.sl U z4x U λa0 I a h=>z0e 8 h U λa h=>z0e 9 h U λa h=>z1i (p:=k) (id0) 10 h U ho.sl U z4x U λa1 J a h=>z1x 7 11 kr U ?_ ?_;refine z1t h U (I _ ho.sl) z2y U λa h=>z0b (z0d 11 U (z1t h U (J _ ho.sl) z2y U λa h=>?_));refine z0b (z1p 12 kr kr kr hC (p:=k) h wn U z4x oo oo oo U U λa h=>z0d 13 U (z1c (i:=k) (zs.getD (ys.length-1-k) id0) h U ho oo U y0c λw3 D q3 _hz a h=>?_));replace hC:=hC.sp q3;clear _hz ho;have ho:=D;clear D;refine z0b (z1p 14 kr kr kr hC (p:=(ys.length-1-k)) h wn U z4x oo oo oo U U λa h=>z0d 15 U (z1c (i:=(ys.length-1-k)) (zs.getD k id0) h U ho (by rw[List.length_set];omega) U y0c λw4 D q4 _hz a h=>?_));clear _hz ho;have ho:=D;clear D;refine z1m (z0p ?_);clear hC M;refine bk (h.sub (L':=[(0,_),(2,_),(3,_)]) (.c3 U U U)) (bn' (tn (rg (mv U U (z1b U (wi6 oo) (mv U U (z2p U (wi6 oo) (asg U (asg U (nl ?_))))))))));exact lpE (k+1) (.c3 U U (congrArg (λz=>some (Value.int .i64 z)) oo)) ⟨((Fr.refl [g] _).z4 q1 q2 q3 q4),⟨oo,_,z7u O Z,ho⟩⟩ oo;refine z1t h U (J _ ho.sl) z2y U λa h=>z0b (z0d 7 U (z1t h U (I _ ho.sl) z2y U λa h=>?_));refine z0b (z1p 12 kr kr kr hC (p:=k) h wn U z4x oo oo oo U U λa h=>z0d 13 U (z1c (i:=k) (zs.getD (ys.length-1-k) id0) h U ho oo U y0c λw5 D q5 _hz a h=>?_));replace hC:=hC.sp q5;clear _hz ho;have ho:=D;clear D;refine z0b (z1p 14 kr kr kr hC (p:=(ys.length-1-k)) h wn U z4x oo oo oo U U λa h=>z0d 15 U (z1c (i:=(ys.length-1-k)) (zs.getD k id0) h U ho (by rw[List.length_set];omega) U y0c λw6 D q6 _hz a h=>?_));clear _hz ho;have ho:=D;clear D;refine z1m (z0p ?_);clear hC M;refine bk (h.sub (L':=[(0,_),(2,_),(3,_)]) (.c3 U U U)) (bn' (tn (rg (mv U U (z1b U (wi6 oo) (mv U U (z2p U (wi6 oo) (asg U (asg U (nl ?_))))))))));exact lpE (k+1) (.c3 U U (congrArg (λz=>some (Value.int .i64 z)) oo)) ⟨((Fr.refl [g] _).z4 q1 q2 q5 q6),⟨oo,_,z7u O Z,ho⟩⟩ oo;refine ex (te (te (xh (r0n results254  ?_))));exact⟨_,rfl,by rw[<-y9u oo Z];exact ho,(q1.weak se)⟩
theorem j0z (w0:World):Rets prog 254 #[.slice none 0 0] w0 λr w'=>Fr [] w0 w':=by
 refine we [(0,.slice none 0 0)] func254 U ntmps254 U (.cons U .nil) (sr (mv U U (lnS U underlying27 (z2p U (wi6 oo) (asg U (asg U (nn (bl (lpK (ι:=Unit) [(0,_),(2,_),(3,_)] (λ_u=>[]) (λ_u w'=>Fr [] w0 w'/\True) (λ_u=>0) () (.c3 U U U) ⟨Fr.refl _ _,trivial⟩ ?_)))))))));rintro _u w1 ⟨I,-⟩;refine kpC [(0,_),(2,_),(3,_)] (.c3 U U U) (sq (sr (mv U U (mv U U (lt' U (nn (cd U (λD=>?_) (λD=>?_))))))));exfalso;omega;exact ex (te (te (xh (r0n results254  ⟨_,rfl,I⟩))))
theorem u0e (base:Nat)(v:Value)(ys:List LId)(w0:World)(ho:Lw.Own z1f 73 base w0 v ys)(hl:ys.length<=1000000):Rets prog 254 #[v] w0 λr w'=>Lw.Own z1f 73 base w' v ys.reverse/\Fr (z0u v) w0 w':=by
 rcases id ho with ⟨rfl,rfl⟩|⟨g,cap,cur,rfl,_⟩
 refine Rets.mono (j0z w0) ?_;intro r w' hf;exact⟨Own.nil _,hf⟩;exact u4z g cap base ys w0 ho hl
theorem u1g (g c base:Nat)(ys:List Pa)(w0:World)(ho:Lw.Own z2e 97 base w0 (.slice (some ⟨g,0,none⟩) ys.length c) ys)(hl:ys.length<=1000000):Rets prog 250 #[.slice (some ⟨g,0,none⟩) ys.length c] w0 λr w'=>Lw.Own z2e 97 base w' (.slice (some ⟨g,0,none⟩) ys.length c) ys.reverse/\Fr [g] w0 w':=by
 refine we [(0,.slice (some ⟨g,0,none⟩) ys.length c)] func250 U ntmps250 U (.cons U .nil) (sr (mv U U (lnS U underlying30 (z2p U (wi6 oo) (asg U (asg U (nn (bl ?_))))))));refine lpK (ι:=Nat) [(0,_)] (λk=>[(2,.int .i64 (k:Int)),(3,.int .i64 ((ys.length:Int)-1-(k:Int)))]) (λk w'=>Fr [g] w0 w'/\k<=ys.length/\∃zs,j2n pa0 ys zs k/\Lw.Own z2e 97 base w' (.slice (some ⟨g,0,none⟩) ys.length c) zs) (λk=>ys.length-k) 0 (.c3 U U (congrArg (λz=>some (Value.int .i64 z)) oo)) ⟨Fr.refl _ _,⟨Nat.zero_le _,_,v8n _ _,ho⟩⟩ ?_;rintro k w1 ⟨q1,⟨hk,zs,Z,ho⟩⟩;refine kpC [(0,_),(2,_),(3,_)] (.c3 U U U) (sq (sr (mv U U (mv U U (lt' U (nn (cd U (λc0=>?_) (λc0=>?_))))))));obtain⟨a2,-⟩:=id Z;have O:k<ys.length-1-k:=by omega
 refine sk (tn (sq (bl ?_)));intro a h;refine z0h (some 15) (λwb w'=>Fr [g] wb w') z2m ?_;intro w2 q2;replace ho:=ho.ext q2;have hC:Fr [g] w2 w2:=Fr.refl _ _;have M:=ho;refine z0e 0 h U λa h=>z0e 1 h U λa h=>z0e 2 h U λa h=>z0e 3 h U λa h=>z0e 4 h U λa h=>z0e 5 h U λa h=>z1i (p:=(ys.length-1-k)) (pa0) 6 h U ho.sl U y0r U λa0 I a h=>z0e 8 h U λa h=>z0e 9 h U λa h=>z1i (p:=k) (pa0) 10 h U ho.sl U y0r U λa1 J a h=>z1x 7 11 kr U ?_ ?_;refine z1t h U (I _ ho.sl) x1j U λa h=>z0b (z0d 11 U (z1t h U (J _ ho.sl) x1j U λa h=>?_));refine z0b (z1p 12 kr kr kr hC (p:=k) h wn U y0r oo oo oo U U λa h=>z0d 13 U (z1c (i:=k) (zs.getD (ys.length-1-k) pa0) h U ho oo U u6d λw3 D q3 _hz a h=>?_));replace hC:=hC.sp q3;clear _hz ho;have ho:=D;clear D;refine z0b (z1p 14 kr kr kr hC (p:=(ys.length-1-k)) h wn U y0r oo oo oo U U λa h=>z0d 15 U (z1c (i:=(ys.length-1-k)) (zs.getD k pa0) h U ho (by rw[List.length_set];omega) U u6d λw4 D q4 _hz a h=>?_));clear _hz ho;have ho:=D;clear D;refine z1m (z0p ?_);clear hC M;refine bk (h.sub (L':=[(0,_),(2,_),(3,_)]) (.c3 U U U)) (bn' (tn (rg (mv U U (z1b U (wi6 oo) (mv U U (z2p U (wi6 oo) (asg U (asg U (nl ?_))))))))));exact lpE (k+1) (.c3 U U (congrArg (λz=>some (Value.int .i64 z)) oo)) ⟨((Fr.refl [g] _).z4 q1 q2 q3 q4),⟨oo,_,z7u O Z,ho⟩⟩ oo;refine z1t h U (J _ ho.sl) x1j U λa h=>z0b (z0d 7 U (z1t h U (I _ ho.sl) x1j U λa h=>?_));refine z0b (z1p 12 kr kr kr hC (p:=k) h wn U y0r oo oo oo U U λa h=>z0d 13 U (z1c (i:=k) (zs.getD (ys.length-1-k) pa0) h U ho oo U u6d λw5 D q5 _hz a h=>?_));replace hC:=hC.sp q5;clear _hz ho;have ho:=D;clear D;refine z0b (z1p 14 kr kr kr hC (p:=(ys.length-1-k)) h wn U y0r oo oo oo U U λa h=>z0d 15 U (z1c (i:=(ys.length-1-k)) (zs.getD k pa0) h U ho (by rw[List.length_set];omega) U u6d λw6 D q6 _hz a h=>?_));clear _hz ho;have ho:=D;clear D;refine z1m (z0p ?_);clear hC M;refine bk (h.sub (L':=[(0,_),(2,_),(3,_)]) (.c3 U U U)) (bn' (tn (rg (mv U U (z1b U (wi6 oo) (mv U U (z2p U (wi6 oo) (asg U (asg U (nl ?_))))))))));exact lpE (k+1) (.c3 U U (congrArg (λz=>some (Value.int .i64 z)) oo)) ⟨((Fr.refl [g] _).z4 q1 q2 q5 q6),⟨oo,_,z7u O Z,ho⟩⟩ oo;refine ex (te (te (xh (r0n results250  ?_))));exact⟨_,rfl,by rw[<-y9u oo Z];exact ho,(q1.weak se)⟩
theorem j4e (w0:World):Rets prog 250 #[.slice none 0 0] w0 λr w'=>Fr [] w0 w':=by
 refine we [(0,.slice none 0 0)] func250 U ntmps250 U (.cons U .nil) (sr (mv U U (lnS U underlying30 (z2p U (wi6 oo) (asg U (asg U (nn (bl (lpK (ι:=Unit) [(0,_),(2,_),(3,_)] (λ_u=>[]) (λ_u w'=>Fr [] w0 w'/\True) (λ_u=>0) () (.c3 U U U) ⟨Fr.refl _ _,trivial⟩ ?_)))))))));rintro _u w1 ⟨I,-⟩;refine kpC [(0,_),(2,_),(3,_)] (.c3 U U U) (sq (sr (mv U U (mv U U (lt' U (nn (cd U (λD=>?_) (λD=>?_))))))));exfalso;omega;exact ex (te (te (xh (r0n results250  ⟨_,rfl,I⟩))))
theorem x3a (base:Nat)(v:Value)(ys:List Pa)(w0:World)(ho:Lw.Own z2e 97 base w0 v ys)(hl:ys.length<=1000000):Rets prog 250 #[v] w0 λr w'=>Lw.Own z2e 97 base w' v ys.reverse/\Fr (z0u v) w0 w':=by
 rcases id ho with ⟨rfl,rfl⟩|⟨g,cap,cur,rfl,_⟩
 refine Rets.mono (j4e w0) ?_;intro r w' hf;exact⟨Own.nil _,hf⟩;exact u1g g cap base ys w0 ho hl
theorem u5y (g c base:Nat)(ys:List Cx)(w0:World)(ho:Lw.Own z5w 292 base w0 (.slice (some ⟨g,0,none⟩) ys.length c) ys)(hl:ys.length<=1000000):Rets prog 255 #[.slice (some ⟨g,0,none⟩) ys.length c] w0 λr w'=>Lw.Own z5w 292 base w' (.slice (some ⟨g,0,none⟩) ys.length c) ys.reverse/\Fr [g] w0 w':=by
 refine we [(0,.slice (some ⟨g,0,none⟩) ys.length c)] func255 U ntmps255 U (.cons U .nil) (sr (mv U U (lnS U underlying288 (z2p U (wi6 oo) (asg U (asg U (nn (bl ?_))))))));refine lpK (ι:=Nat) [(0,_)] (λk=>[(2,.int .i64 (k:Int)),(3,.int .i64 ((ys.length:Int)-1-(k:Int)))]) (λk w'=>Fr [g] w0 w'/\k<=ys.length/\∃zs,j2n cx0 ys zs k/\Lw.Own z5w 292 base w' (.slice (some ⟨g,0,none⟩) ys.length c) zs) (λk=>ys.length-k) 0 (.c3 U U (congrArg (λz=>some (Value.int .i64 z)) oo)) ⟨Fr.refl _ _,⟨Nat.zero_le _,_,v8n _ _,ho⟩⟩ ?_;rintro k w1 ⟨q1,⟨hk,zs,Z,ho⟩⟩;refine kpC [(0,_),(2,_),(3,_)] (.c3 U U U) (sq (sr (mv U U (mv U U (lt' U (nn (cd U (λc0=>?_) (λc0=>?_))))))));obtain⟨a2,-⟩:=id Z;have O:k<ys.length-1-k:=by omega
 refine sk (tn (sq (bl ?_)));intro a h;refine z0h (some 15) (λwb w'=>Fr [g] wb w') z2m ?_;intro w2 q2;replace ho:=ho.ext q2;have hC:Fr [g] w2 w2:=Fr.refl _ _;have M:=ho;refine z0e 0 h U λa h=>z0e 1 h U λa h=>z0e 2 h U λa h=>z0e 3 h U λa h=>z0e 4 h U λa h=>z0e 5 h U λa h=>z1i (p:=(ys.length-1-k)) (cx0) 6 h U ho.sl U y2q U λa0 I a h=>z0e 8 h U λa h=>z0e 9 h U λa h=>z1i (p:=k) (cx0) 10 h U ho.sl U y2q U λa1 J a h=>z1x 7 11 kr U ?_ ?_;refine z1t h U (I _ ho.sl) v2n U λa h=>z0b (z0d 11 U (z1t h U (J _ ho.sl) v2n U λa h=>?_));refine z0b (z1p 12 kr kr kr hC (p:=k) h wn U y2q oo oo oo U U λa h=>z0d 13 U (z1c (i:=k) (zs.getD (ys.length-1-k) cx0) h U ho oo U u0h λw3 D q3 _hz a h=>?_));replace hC:=hC.sp q3;clear _hz ho;have ho:=D;clear D;refine z0b (z1p 14 kr kr kr hC (p:=(ys.length-1-k)) h wn U y2q oo oo oo U U λa h=>z0d 15 U (z1c (i:=(ys.length-1-k)) (zs.getD k cx0) h U ho (by rw[List.length_set];omega) U u0h λw4 D q4 _hz a h=>?_));clear _hz ho;have ho:=D;clear D;refine z1m (z0p ?_);clear hC M;refine bk (h.sub (L':=[(0,_),(2,_),(3,_)]) (.c3 U U U)) (bn' (tn (rg (mv U U (z1b U (wi6 oo) (mv U U (z2p U (wi6 oo) (asg U (asg U (nl ?_))))))))));exact lpE (k+1) (.c3 U U (congrArg (λz=>some (Value.int .i64 z)) oo)) ⟨((Fr.refl [g] _).z4 q1 q2 q3 q4),⟨oo,_,z7u O Z,ho⟩⟩ oo;refine z1t h U (J _ ho.sl) v2n U λa h=>z0b (z0d 7 U (z1t h U (I _ ho.sl) v2n U λa h=>?_));refine z0b (z1p 12 kr kr kr hC (p:=k) h wn U y2q oo oo oo U U λa h=>z0d 13 U (z1c (i:=k) (zs.getD (ys.length-1-k) cx0) h U ho oo U u0h λw5 D q5 _hz a h=>?_));replace hC:=hC.sp q5;clear _hz ho;have ho:=D;clear D;refine z0b (z1p 14 kr kr kr hC (p:=(ys.length-1-k)) h wn U y2q oo oo oo U U λa h=>z0d 15 U (z1c (i:=(ys.length-1-k)) (zs.getD k cx0) h U ho (by rw[List.length_set];omega) U u0h λw6 D q6 _hz a h=>?_));clear _hz ho;have ho:=D;clear D;refine z1m (z0p ?_);clear hC M;refine bk (h.sub (L':=[(0,_),(2,_),(3,_)]) (.c3 U U U)) (bn' (tn (rg (mv U U (z1b U (wi6 oo) (mv U U (z2p U (wi6 oo) (asg U (asg U (nl ?_))))))))));exact lpE (k+1) (.c3 U U (congrArg (λz=>some (Value.int .i64 z)) oo)) ⟨((Fr.refl [g] _).z4 q1 q2 q5 q6),⟨oo,_,z7u O Z,ho⟩⟩ oo;refine ex (te (te (xh (r0n results255  ?_))));exact⟨_,rfl,by rw[<-y9u oo Z];exact ho,(q1.weak se)⟩
theorem u9f (w0:World):Rets prog 255 #[.slice none 0 0] w0 λr w'=>Fr [] w0 w':=by
 refine we [(0,.slice none 0 0)] func255 U ntmps255 U (.cons U .nil) (sr (mv U U (lnS U underlying288 (z2p U (wi6 oo) (asg U (asg U (nn (bl (lpK (ι:=Unit) [(0,_),(2,_),(3,_)] (λ_u=>[]) (λ_u w'=>Fr [] w0 w'/\True) (λ_u=>0) () (.c3 U U U) ⟨Fr.refl _ _,trivial⟩ ?_)))))))));rintro _u w1 ⟨I,-⟩;refine kpC [(0,_),(2,_),(3,_)] (.c3 U U U) (sq (sr (mv U U (mv U U (lt' U (nn (cd U (λD=>?_) (λD=>?_))))))));exfalso;omega;exact ex (te (te (xh (r0n results255  ⟨_,rfl,I⟩))))
theorem v4q (base:Nat)(v:Value)(ys:List Cx)(w0:World)(ho:Lw.Own z5w 292 base w0 v ys)(hl:ys.length<=1000000):Rets prog 255 #[v] w0 λr w'=>Lw.Own z5w 292 base w' v ys.reverse/\Fr (z0u v) w0 w':=by
 rcases id ho with ⟨rfl,rfl⟩|⟨g,cap,cur,rfl,_⟩
 refine Rets.mono (u9f w0) ?_;intro r w' hf;exact⟨Own.nil _,hf⟩;exact u5y g cap base ys w0 ho hl
theorem y6c (v:Value)(l:List Pa)(w0:World)(I:Sl z2e w0 v l)(hl:l.length<=100000):Rets prog 251 #[v] w0 λr w'=>∃g,r=.slice (some ⟨g,0,none⟩) l.length l.length/\w0.heap.size<=g/\Lw.Own z2e 97 w0.heap.size w' r l/\Fr [] w0 w':=by
 obtain⟨A,c,rfl,a0,hM,Z⟩:=id I;clear Z;unfold maxLen at hM;refine we [(0,.slice A l.length c)] func251 U ntmps251 U (.cons U .nil) ?_;have J:=I;refine sr (asg U (nn (sr (mv U U (lnS U underlying30 (z1e (m:=l.length) (c:=l.length) (pa0) U y0r u2z U (λO w1 a1 D M z1=>(asg U (nn (sr (mv U U (mv U U ?_))))))))))));replace I:=J.ext M;refine z6n (zs:=List.replicate l.length pa0) (by rw[List.length_replicate];rfl) U (by rw[List.length_replicate];exact D) I (by rw[List.length_replicate]) y0r (λw2 D q2 z2=>?_);rw[List.length_replicate]at D;exact nn (sr (mv U U (asg U (nn (rt (r1 results251 U ⟨_,rfl,O,rfl,oo,D.low oo,(M.z1 q2)⟩))))))
theorem x5r (v:Value)(l:List Cx)(w0:World)(I:Sl z5w w0 v l)(hl:l.length<=100000):Rets prog 256 #[v] w0 λr w'=>∃g,r=.slice (some ⟨g,0,none⟩) l.length l.length/\w0.heap.size<=g/\Lw.Own z5w 292 w0.heap.size w' r l/\Fr [] w0 w':=by
 obtain⟨A,c,rfl,a0,hM,Z⟩:=id I;clear Z;unfold maxLen at hM;refine we [(0,.slice A l.length c)] func256 U ntmps256 U (.cons U .nil) ?_;have J:=I;refine sr (asg U (nn (sr (mv U U (lnS U underlying288 (z1e (m:=l.length) (c:=l.length) (cx0) U y2q j8s U (λO w1 a1 D M z1=>(asg U (nn (sr (mv U U (mv U U ?_))))))))))));replace I:=J.ext M;refine z6n (zs:=List.replicate l.length cx0) (by rw[List.length_replicate];rfl) U (by rw[List.length_replicate];exact D) I (by rw[List.length_replicate]) y2q (λw2 D q2 z2=>?_);rw[List.length_replicate]at D;exact nn (sr (mv U U (asg U (nn (rt (r1 results256 U ⟨_,rfl,O,rfl,oo,D.low oo,(M.z1 q2)⟩))))))
theorem k3p:BuildAt prog 206 [(0,2),(2,2),(4,1)] [(.int .u8 0),(.int .i64 0),(.int .u8 0),(.int .i64 0),(.int .i64 0)]:=BuildAt.struct underlying206 (λ_=>kr) (λ_=>kr)
theorem x5q:CallOf prog 150:=mkC func150
theorem j3w:z2c prog 202:=λ_=>kr
theorem j6f:z1q prog 202 1:=λ_=>kr
theorem v6k (gr gk base:Nat)(b r:Int)(v u:Value)(l:List IQ)(a3:List Hd)(wS w0:World)(hF:Fr [] wS w0)(hs:Sl z7b wS v l)(O:IqAt wS l)(a5:Blk wS gk 3 [.int .i64 r])(f2:wS.heap.size<=gr)(e7:wS.heap.size<=base)(e8:base<=w0.heap.size)(D:Blk w0 gr 202 [u])(ho:Lw.Own z3l 206 base w0 u a3)(hb:b=0\/b=1)(hl:l.length<=40)(h4:y0b l)(ha:a3.length<=1000)(hu:IsB u):Rets prog 162 #[.int .u8 b,v,.pointer (some ⟨gr,0,none⟩),.pointer (some ⟨gk,0,none⟩)] w0 λr' w'=>r'=.tuple #[]/\(∃u',Blk w' gr 202 [u']/\Lw.Own z3l 206 base w' u' (a3++hds b r (plB l) l.length)/\IsB u')/\w0.heap.size<=w'.heap.size/\Fr [] wS w':=by
 obtain⟨A,c,rfl,e9,hM,hA⟩:=id hs;clear hA;unfold maxLen at hM;have f6:=hF.size;have e4:=D.lt;refine we [(0,.int .u8 b),(1,.slice A l.length c),(2,.pointer (some ⟨gr,0,none⟩)),(3,.pointer (some ⟨gk,0,none⟩))] func162 U ntmps162 U (.c4 U U U U) ?_;have d1:=hs;have b4:=O;have b3:=a5;refine sr (mv U U (lnS U underlying48 (mv U U (nn (bl (lpK (ι:=Nat×Value) [(0,_),(2,_),(3,_),(11,_),(12,_)] (λp=>[(13,.int .i64 (p.1:Int))]) (λp w'=>Fr [] wS w'/\(p.1<=l.length/\w0.heap.size<=w'.heap.size/\IsB p.2)/\Blk w' gr 202 [p.2]/\Lw.Own z3l 206 base w' p.2 (a3++hds b r (plB l) p.1)) (λp=>l.length-p.1) (0,u) (.c6 U U U U U U) ⟨hF,⟨⟨Nat.zero_le _,oo,hu⟩,D,by simpa[hds] using ho⟩⟩ ?_))))));rintro⟨i,uI⟩ w1 ⟨q1,⟨hi,D,ho⟩⟩;simp only at hi D ho;have z1:=q1.size;have a8:=D.lt;refine kpC [(0,_),(2,_),(3,_),(11,_),(12,_),(13,.int .i64 (i:Int))] (.c6 U U U U U U) ?_;have f0:=x5k b r l h4 i;have f4:=z3o h4 i;have f5:=z1z (z2f b4 i);have b5:=b3.lt;refine sr (lt' U (nn (sq (cd U (λc0=>?_) (λc0=>?_)))));refine sk (tn (sq (bl (sr (mv U U ?_)))));replace hs:=d1.ext q1;refine z1d (iq0) U hs U y6z z1g (λe0 b7=>?_);refine z1k U (b7 _ hs) z8o (asg U (asg U (nn (sr (mv U U (mv U U (z1b U (wi6 oo) (z1y (cs:=[_,_]) (ev2 U) x1i (z0g U (z0g U z0s)) U ?_))))))));refine al v1n U (λg8 w2 f1 I q2 z2=>?_);refine z0k (vs:=[_,_]) U I y6l (λw3 I q3 z3=>?_) (h1:=(by first|(simp[Value.oneCell',S];done)|exact z1f.one _));refine nn (sr (mv U U (lnS U underlying27 (mv U U (nn (bl ?_))))));replace D:=(D.ext q2).fr q3;replace ho:=(ho.ext q2).fr q3 (by first|(intro k O hb;rw[List.mem_singleton.1 O]at hb;first|exact ho.neB D dd hb|(have:=(ho.blk _ hb).2;omega))|(simp;done));refine lpK (ι:=Nat×Value) [(0,_),(2,_),(3,_),(8,_),(11,_),(12,_),(13,_),(22,_),(23,_)] (λp=>[(24,.int .i64 (p.1:Int))]) (λp w'=>Fr [] wS w'/\(p.1<=(l.getD i iq0).2.length/\w0.heap.size<=w'.heap.size/\Blk w' g8 45 [.int .u8 b,.int .i64 ((i:Int)+1)]/\IsB p.2)/\Blk w' gr 202 [p.2]/\Lw.Own z3l 206 base w' p.2 ((a3++hds b r (plB l) i)++((l.getD i iq0).2.take p.1).map (hdS b r i))) (λp=>(l.getD i iq0).2.length-p.1) (0,uI) (.d8 U U U U U U U U (.c2 U U)) ⟨(q1.z2 q2 q3),⟨⟨Nat.zero_le _,oo,I,hi.2.2⟩,D,by simpa using ho⟩⟩ ?_;rintro⟨j,uJ⟩ w4 ⟨q4,⟨⟨hj,f7,I,d7⟩,D,ho⟩⟩;simp only at hj D ho;have z4:=q4.size;have a8:=D.lt;have d4:=I.lt;refine kpC [(0,_),(2,_),(3,_),(8,_),(11,_),(12,_),(13,_),(22,_),(23,_),(24,.int .i64 (j:Int))] (.d8 U U U U U U U U (.c2 U U)) (sr (lt' U (nn (sq (cd U (λc1=>?_) (λc1=>?_))))));refine sk (tn (sq (bl (sr ?_))));replace O:=b4.ext q4;refine z1d (id0) U (z2f O i) U z4x z1g (λe1 b8=>?_);refine z1l U (b8 _ (z2f O i)) z2y (al y0n U (λd5 w5 e3 J q5 z5=>?_));refine z0k (vs:=[_,_]) U J y0c (λw6 J q6 z6=>?_) (h1:=(by first|(simp[Value.oneCell',S];done)|exact z1f.one _));refine nn ?_;replace hs:=d1.ext (q4.z2 q5 q6);replace O:=b4.ext (q4.z2 q5 q6);replace a5:=b3.ext (q4.z2 q5 q6);replace D:=(D.ext q5).fr q6;replace ho:=(ho.ext q5).fr q6 (by first|(intro k O hb;rw[List.mem_singleton.1 O]at hb;first|exact ho.neB D dd hb|(have:=(ho.blk _ hb).2;omega))|(simp;done));replace I:=(I.ext q5).fr q6;intro a h;refine z0h (some 8) (λwb w'=>Fr (z0u uJ) wb w') z2m ?_;intro w7 q7;have z7:=q7.size;replace hs:=hs.ext q7;replace O:=O.ext q7;replace a5:=a5.ext q7;replace D:=D.ext q7;replace ho:=ho.ext q7;replace I:=I.ext q7;replace J:=J.ext q7;have hC:Fr (z0u uJ) w7 w7:=Fr.refl _ _;have d3:=hs;have b9:=O;have a6:=a5;have a1:=D;have Z:=ho;have M:=I;have a0:=J;refine y5o 0 hC h wn U (λ_ hw=>a1.fr hw (λk_=>Own.neB Z a1 dd k_)) j3w U U λa h=>z0v 1 h U (λ_ hw=>a0.fr hw (λk_=>Own.neB Z a0 dd k_)) z2y U λa h=>z0v 2 h U (λ_ hw=>M.fr hw (λk_=>Own.neB Z M dd k_)) z4k U λa h=>z0v 3 h U (λ_ hw=>M.fr hw (λk_=>Own.neB Z M dd k_)) z4k U λa h=>y5o 4 hC h wn U (λ_ hw=>a6.fr hw (λk_=>by have:=(Z.blk _ k_).1;have:=b5;omega)) na3 U U λa h=>z0d 5 U (z0o h (z0a U (z0a U z0f)) x5q (y0q _ _ _ _ oo) ?_);rintro _ w8 ⟨rfl,q8⟩ a h;have z8:=q8.size;replace D:=D.ext q8;replace I:=I.ext q8;replace J:=J.ext q8;replace hC:=hC.next q8;refine z0b (z2z (cs:=[_,_,_,_,_]) 6 h (z0a U (z0a U (z0a U z0f))) k3p (z0g U (z0g U (z0g U z0s))) U U λa h=>z0d 7 U ?_);refine z2s ([(hdS b r i ((l.getD i iq0).2.getD j id0))]) h (z0a U z0f) U z3g λa4 w9 hg d0 q9 hz a h=>?_;have a7:gr<a4:=by have:=D.lt;omega
 have a7:g8<a4:=by have:=I.lt;omega
 have c9:d5<a4:=by have:=J.lt;omega
 have z9:=q9.size;replace O:=O.ext (q8.n1 q9);replace D:=D.ext q9;replace ho:=ho.ext (q8.n1 q9);replace I:=I.ext q9;replace hC:=hC.next q9;refine z0b (z0d 8 U ?_);have a2:=ho;refine z5m h U U ho d0.sl z3g U ?_ (hM:=(by unfold maxLen;simp only[List.length_append,List.length_map,List.length_take,List.length_cons,List.length_nil];omega)) (hb:=(by simp only[List.length_append,List.length_map,List.length_take,List.length_cons,List.length_nil];omega));clear h a;intro f8 f9 ho a9 d6 a h;obtain⟨e5,e6,rfl,e2⟩:=ho.sl.form;have g0:=a9.size;replace D:=D.fr a9 (λO=>a2.neB D dd O);replace I:=I.fr a9 (λO=>a2.neB I dd O);refine z1m (z0d 9 U (y7t h U U D U U j6f λd9 b6 b0 hz a h=>?_));have g1:=b0.size;replace I:=I.fr b0;replace ho:=ho.fr b0 (by first|(intro k O hb;rw[List.mem_singleton.1 O]at hb;first|exact ho.neB D dd hb|(have:=(ho.blk _ hb).2;omega))|(simp;done));clear D hz;have D:Blk d9 gr _ [_]:=b6;clear b6;refine z1m (z0p ?_);clear hC d3 b9 a6 a1 Z M a0;exact bk (h.sub (L':=[(0,_),(2,_),(3,_),(8,_),(11,_),(12,_),(13,_),(22,_),(23,_),(24,_)]) (.d8 U U U U U U U U (.c2 U U))) (bn' (tn (rg (z1b U (wi6 oo) (mv U U (nl (lpE ((j+1,_)) (.d8 U U U U U U U U (.c2 U U)) ⟨(((q4.z5 q5 q6 q7 q8 q9).step a9 (λk O f3=>absurd (a2.blk k O).1 oo)).z1 b0),⟨⟨sm,oo,I,j4c ho sp0⟩,D,by rw[y4j (hdS b r i) id0 oo,<-List.append_assoc];exact ho⟩⟩ sm)))))));obtain rfl:j=(l.getD i iq0).2.length:=by omega
 rw[List.take_length]at ho;exact ex (te (te (xh (bn' (tn (rg (z1b U (wi6 oo) (mv U U (kpL [(0,_),(2,_),(3,_),(11,_),(12,_),(13,_)] (.c6 U U U U U U) (nl (lpE ((i+1,_)) (.c6 U U U U U U) ⟨q4,⟨⟨sm,oo,d7⟩,D,by rw[y8p,z4g,<-List.append_assoc];exact ho⟩⟩ sm)))))))))));obtain rfl:i=l.length:=by omega
 exact ex (te (te (xh (r0n results162  ⟨_,rfl,rfl,⟨_,D,ho,hi.2.2⟩,oo,q1⟩))))
theorem k2k (w:World):(zeroValue 202).run prog w=.ok (.slice none 0 0) w:=kr
theorem v7z (q:BdQ)(r:Int)(w0:World)(hB:BdAt w0 q)(hv:BdOk q.p)(hr:-4<=r/\r<=4):Rets prog 117 #[.agg #[.slice q.f.1 q.f.2.1 q.f.2.2,.slice q.b.1 q.b.2.1 q.b.2.2],.int .i64 r] w0 λv w'=>(∃g,v=.tuple #[.slice (some ⟨g,0,none⟩) (z2n q.p r).length (z2n q.p r).length,.int .i64 0]/\w0.heap.size<=g/\Lw.Own z3l 206 w0.heap.size w' (.slice (some ⟨g,0,none⟩) (z2n q.p r).length (z2n q.p r).length) (z2n q.p r))/\Fr [] w0 w':=by
 obtain⟨⟨hf,hb⟩,h4,a4⟩:=z3w hv;have hN:=y2u hv;have b8:=y4q q.p r;have d0:(z2n q.p r).length=(v3e q.p r).length:=z4h _;refine we [(0,.agg #[.slice q.f.1 q.f.2.1 q.f.2.2,.slice q.b.1 q.b.2.1 q.b.2.2]),(1,.int .i64 r)] func117 U ntmps117 U (.c2 U U) ?_;have a2:=hB;refine sr (bx U (λg2 w1 b9 D q1 z1=>(bx U (λg3 w2 c1 Z q2 z2=>(asg U (asg U (nn (sq (sr ?_)))))))));replace D:=D.ext q2;refine z0n U D z4w (z4j U Z na3 ?_);replace hB:=a2.ext (q1.n1 q2);refine cl (ev2 U) (mkC func161) (x2x q _ _ hB hv oo) U ?_;rintro _ w3 ⟨rfl,q3⟩;have z3:=q3.size;replace Z:=Z.ext q3;replace D:=D.ext q3;have O:BdAt w3 q:=a2.ext (q1.n2 q2 q3);have M:=Z;have b7:=M.lt;have a6:=D;refine asg U (nn (sr (mv U U (ne' U (nn (cd U (λc0=>?_) (λc0=>?_)))))));exact absurd U c0;refine sk (tn (sr (z0n U D z4w ?_)));replace hB:=a2.ext (q1.n2 q2 q3);refine cl (ev1 U) (mkC func110) (x4o q _ hB hf hb h4 a4) U ?_;rintro _ w4 ⟨rfl,q4⟩;have z4:=q4.size;refine z1e (m:=0) (c:=q.p.flat.length) (hd0) U z3g v6g U (λa0 w5 b3 J q5 z5=>(al k2k U (λg7 w6 c9 I q6 z6=>(z5u U U I U j6f (λw7 I q7 z7=>(nn (sr (z9x z0f (ev2 U) U (asg U (nn (sr (mv U U (fad U y8h ?_)))))))))))));replace D:=(D.ext (q4.n2 q5 q6)).fr q7;refine z0i U D U v0x ?_;replace J:=(J.ext q6).fr q7 (by first|(intro k hk hb;rw[List.mem_singleton.1 hk]at hb;first|exact J.neB I dd hb|(have:=(J.blk _ hb).2;omega))|(simp;done));refine clv (us:=[]) (ws:=[.pointer (some ⟨g7,0,none⟩),.pointer (some ⟨g3,0,none⟩)]) U (ev2 U) (mkC func162) (v6k g7 g3 a0 0 r _ _ q.fs [] w3 _ (q4.z3 q5 q6 q7) O.f O.fi M oo oo oo I J dd oo h4 (by first|(simp;done)|(have:=x5k 0 r q.fs h4 q.fs.length;simp;omega)) ⟨_,_,_,rfl⟩) U (by intro g e;cases e) ?_;rintro _ w8 ⟨rfl,⟨d1,I,J,a7⟩,hz22,q8⟩;have z8:=q8.size;refine nn (sr (mv U U (fad U y3x ?_)));replace D:=a6.ext q8;refine z0i U D U v0x (clv (us:=[]) (ws:=[.pointer (some ⟨g7,0,none⟩),.pointer (some ⟨g3,0,none⟩)]) U (ev2 U) (mkC func162) (v6k g7 g3 a0 1 r _ _ q.bs ([]++hds 0 r (plB q.fs) q.fs.length) w3 _ q8 O.b O.bi M oo oo oo I J dd oo a4 (by first|(simp;done)|(have:=x5k 0 r q.fs h4 q.fs.length;simp;omega)) a7) U (by intro g e;cases e) ?_);rintro _ w9 ⟨rfl,⟨d3,I,J,a8⟩,hz26,q9⟩;have z9:=q9.size;rw[List.nil_append,show hds 0 r (plB q.fs) q.fs.length++hds 1 r (plB q.bs) q.bs.length=v3e q.p r by unfold v3e;simp only[List.length_map]]at J;obtain⟨a1,b5,rfl⟩:=u4l a8 J;have b6:=(J.blk a1 (by simp[z0u])).1;have a5:g7∉[a1]:=λhk=>(J.neB I dd) (by simpa[z0u] using hk);refine kpL [(7,_)] (.cons U .nil) (nn (sr (z4j U I j3w (cl (ev2 U) (mkC func163) (u2p a1 _ a0 (v3e q.p r) _ J oo) U ?_))));rintro _ d4 ⟨rfl,J,a3⟩;have d6:=a3.size;refine nn (sr ?_);replace I:=I.fr a3 (by first|exact a5|(simp;omega));refine z4j U I j3w (cl (ev1 U) (mkC func165) (v2e _ (z2n q.p r) _ (by unfold z2n;exact J.sl) oo) U ?_);rintro _ d5 ⟨b0,rfl,b4,hX,a9⟩;have d7:=a9.size;exact asg U (asg U (nn (rt (r2 results117 U U ⟨_,rfl,⟨b0,rfl,oo,hX.low oo⟩,(q1.z5 q2 q3 q9 a3 a9)⟩))))
end Go.Proofs.YtjilcnmaefhmeaaGreatDoor
namespace Go.G08
open Go.Lw Go.G21
def btL (fr to:Int):Int:=if fr<to then fr else to
def btH (fr to:Int):Int:=if fr<to then to else fr
def btD (fr to:Int):Int:=if fr<to then 1 else 0
def btA (l:List Hd)(fr to:Int)(k:Nat):List Pa:=((l.take k).filter λh=>decide (btL fr to<h.s/\h.s<btH fr to)).map λh=>⟨h.id,decide (h.b=1),btD fr to⟩
theorem k2t {l:List Hd}{fr D:Int}{k:Nat}(I:k<l.length)(h:btL fr D<(l.getD k hd0).s/\(l.getD k hd0).s<btH fr D):btA l fr D (k+1)=btA l fr D k++[⟨(l.getD k hd0).id,decide ((l.getD k hd0).b=1),btD fr D⟩]:=by
 unfold btA;rw[z1s hd0 I,List.filter_append,List.map_append,List.filter_cons,if_pos (decide_eq_true h)];rfl
theorem k3n {l:List Hd}{fr D:Int}{k:Nat}(I:k<l.length)(h:¬(btL fr D<(l.getD k hd0).s/\(l.getD k hd0).s<btH fr D)):btA l fr D (k+1)=btA l fr D k:=by
 unfold btA;rw[z1s hd0 I,List.filter_append,List.filter_cons,if_neg (by simpa using h)];simp
theorem x6f (l:List Hd)(fr D:Int)(k:Nat):(btA l fr D k).length<=l.length:=by
 unfold btA;rw[List.length_map];refine Nat.le_trans (List.length_filter_le _ _) ?_;rw[List.length_take];omega
theorem j8k {l:List Hd}{fr D:Int}(h:¬btD fr D=0):btw l fr D=btA l fr D l.length:=by
 unfold btD at h;by_cases c:fr<D;unfold btw btA btL btH btD;rw[List.take_length];simp only[if_pos c];rw[if_neg c]at h;exact absurd U h
theorem j9c {l:List Hd}{fr D:Int}(h:btD fr D=0):btw l fr D=(btA l fr D l.length).reverse:=by
 unfold btD at h;by_cases c:fr<D;rw[if_pos c]at h;exact absurd h dd;unfold btw btA btL btH btD;rw[List.take_length];simp only[if_neg c]
theorem v5e (l:List Hd)(fr D:Int):(btw l fr D).length<=l.length:=by
 by_cases h:btD fr D=0;rw[j9c h,List.length_reverse];exact x6f l fr D _;rw[j8k h];exact x6f l fr D _
end Go.G08
namespace Go.Proofs.YtjilcnmaefhmeaaGreatDoor
open Go.Lw Go.G21 Go.G08 _root_.Go.Proofs.Tryz
theorem bo97:BuildAt prog 97 [(0,2),(2,1),(3,1)] [(.int .u8 0),(.int .i64 0),(.bool false),(.int .u8 0)]:=BuildAt.struct underlying97 (λ_=>kr) (λ_=>kr)
theorem y9x:z0y prog 206 0 0:=λ_ _=>kr
theorem y9e:z0y prog 206 1 2:=λ_ _=>kr
theorem u7j (v:Value)(l:List Hd)(fr D:Int)(w0:World)(hs:Sl z3l w0 v l)(hl:l.length<=1000):Rets prog 199 #[v,.int .i64 fr,.int .i64 D] w0 λr w'=>(∃g,r=.slice (some ⟨g,0,none⟩) (btw l fr D).length (btw l fr D).length/\w0.heap.size<=g/\Lw.Own z2e 97 w0.heap.size w' r (btw l fr D))/\Fr [] w0 w':=by
 obtain⟨A,c,rfl,b7,hM,hA⟩:=id hs;clear hA;unfold maxLen at hM;refine we [(0,.slice A l.length c),(1,.int .i64 fr),(2,.int .i64 D)] func199 U ntmps199 U (.c3 U U U) ?_;have a6:=hs;refine sr (asg U (nn (sr (mv U U (mv U U (asg U (asg U (asg U (nn (jn (ι:=Unit) [(0,_)] (λ_j=>[(7,.int .i64 (btL fr D)),(8,.int .i64 (btH fr D)),(9,.int .u8 (btD fr D))]) (λ_j w'=>Fr [] w0 w') (.cons U .nil) ?_ ?_))))))))));refine sr (mv U U (mv U U (gt' U (nn (cd U (λM=>?_) (λM=>?_))))));exact rg (mv U U (mv U U (asg U (asg U (asg U (nl (jE (()) (.c4 U (by first|(rw[show btL fr D=_ from if_pos M];rfl)|(rw[show btL fr D=_ from if_neg M];rfl)) (by first|(rw[show btH fr D=_ from if_pos M];rfl)|(rw[show btH fr D=_ from if_neg M];rfl)) (by first|(rw[show btD fr D=_ from if_pos M];rfl)|(rw[show btD fr D=_ from if_neg M];rfl))) (Fr.refl _ _))))))));exact sk (jE (()) (.c4 U (by first|(rw[show btL fr D=_ from if_pos M];rfl)|(rw[show btL fr D=_ from if_neg M];rfl)) (by first|(rw[show btH fr D=_ from if_pos M];rfl)|(rw[show btH fr D=_ from if_neg M];rfl)) (by first|(rw[show btD fr D=_ from if_pos M];rfl)|(rw[show btD fr D=_ from if_neg M];rfl))) (Fr.refl _ _));rintro _j w1 q1;have z1:=q1.size;refine kpC [(0,_),(7,_),(8,_),(9,_)] (.c4 U U U U) (sr (asg U (nn (sq (sr (mv U U (lnS U underlying202 (mv U U (nn (bl (lpK (ι:=Nat×Value) [(7,_),(8,_),(9,_),(20,_),(21,_)] (λp=>[(22,.int .i64 (p.1:Int)),(10,p.2)]) (λp w'=>Fr [] w0 w'/\p.1<=l.length/\Lw.Own z2e 97 w0.heap.size w' p.2 (btA l fr D p.1)) (λp=>l.length-p.1) (0,_) (.c7 U U U U U U U) ⟨q1,⟨Nat.zero_le _,Own.nil _⟩⟩ ?_)))))))))));rintro⟨k,vP⟩ w2 ⟨Z,⟨hk,J⟩⟩;simp only at hk J;have z2:=Z.size;refine kpC [(7,_),(8,_),(9,_),(20,_),(21,_),(22,.int .i64 (k:Int)),(10,vP)] (.c7 U U U U U U U) ?_;have b5:=x6f l fr D k;refine sr (lt' U (nn (sq (cd U (λc1=>?_) (λc1=>?_)))));refine sk (tn (sq (bl (sr ?_))));replace hs:=a6.ext Z;refine z1d (hd0) U hs U z3g z1g (λa7 a0=>?_);refine z1l U (a0 _ hs) z4z (al v6g U (λb3 w3 a8 I q3 z3=>?_));refine z0k (vs:=[_,_,_,_,_]) U I z8l (λw4 I q4 z4=>?_) (h1:=(by first|(simp[Value.oneCell',S];done)|exact z3l.one _));refine nn (sq (rbo (r:=35) (L':=[(7,_),(8,_),(9,_),(10,_),(12,_),(20,_),(21,_),(22,_)]) ((((btL fr D)<(l.getD k hd0).s)/\((l.getD k hd0).s<(btH fr D)))) (.c8 U U U U U U U U) ?_ ?_));refine fad U x0s (z0i U I U na3 (mv U U (gt' U (mv U U (gs 30 U (λg0=>?_) (λg0=>?_))))));exact gY U (fad U x0s (gY U (z0i U I U na3 (gY U (mv U U (gY U (lt' U (pkt U (rbe U (.c8 U U U U U U U U))))))))));exact gN U (gN U (gN U (gN U (pkf U (rbe U (.c8 U U U U U U U U))))));refine tn (cd U (λc2=>?_) (λc2=>?_));refine rg (mv U U (fad U y9x (z1w (vs:=[_,_]) U I z2y U (fad U y9e (x3h U z6v U (z0i U I U x9d (eq' U (mv U U (z1y (cs:=[_,_,_,_]) (ev3 U) bo97 (z0g U (z0g U (z0g U z0s))) U ?_)))))))));refine z2t ([(⟨(l.getD k hd0).id,decide ((l.getD k hd0).b=1),btD fr D⟩:Pa)]) (ev1 U) U y0r (λb4 w5 a9 a1 q5 z5=>?_);replace J:=((J.ext q3).fr q4 (by first|exact z8w J oo|simp[z0u]<;>omega)).ext q5;have O:=J;refine z2l U J a1.sl y0r (λb8 w6 J q6 a5=>?_);have z6:=q6.size;exact asg U (kpL [(7,_),(8,_),(9,_),(10,_),(20,_),(21,_),(22,_)] (.c7 U U U U U U U) (nl (bn' (tn (rg (z1b U (wi6 oo) (mv U U (nl (lpE ((k+1,_)) (.c7 U U U U U U U) ⟨((Z.z3 q3 q4 q5).step q6 (λk hk a3=>absurd (O.blk k hk).1 oo)),⟨sm,by rw[k2t oo c2];exact J⟩⟩ sm)))))))));refine sk (bn' (tn (rg (z1b U (wi6 oo) (mv U U (nl ?_))))));replace J:=(J.ext q3).fr q4 (by first|exact z8w J oo|simp[z0u]<;>omega);exact lpE ((k+1,_)) (.c7 U U U U U U U) ⟨(Z.z2 q3 q4),⟨sm,by rw[k3n oo c2];exact J⟩⟩ sm;obtain rfl:k=l.length:=by omega
 have b6:=v5e l fr D;refine ex (te (te (xh (tn (jn (ι:=Unit) [(10,_)] (λ_j=>[]) (λ_j w'=>Fr [] w0 w'/\Lw.Own z2e 97 w0.heap.size w' vP (btw l fr D)) (.cons U .nil) ?_ ?_)))));refine sr (mv U U (eq' U (kpL [(10,_),(49,_)] (.c2 U U) (nn (cd U (λc3=>?_) (λc3=>?_))))));refine rg (mv U U ?_);have a4:=J;refine cl (ev1 U) (mkC func250) (x3a w0.heap.size _ _ _ J oo) U ?_;rintro _ w7 ⟨J,q7⟩;have z7:=q7.size;exact nl (jE (()) (.cons U .nil) ⟨(Z.step q7 (λk hk a3=>absurd (a4.blk k hk).1 oo)),(by rw[j9c c3];exact J)⟩);exact sk (jE (()) (.cons U .nil) ⟨Z,(by rw[j8k c3];exact J)⟩);rintro _j w8 ⟨q8,J⟩;have z8:=q8.size;refine kpC [(10,_)] (.cons U .nil) (sr (mv U U (cl (ev1 U) (mkC func251) (y6c _ (btw l fr D) _ J.sl oo) U ?_)));rintro _ w9 ⟨a2,rfl,b0,hX,q9⟩;have z9:=q9.size;exact asg U (nn (rt (r1 results199 U ⟨_,rfl,⟨a2,rfl,oo,hX.low oo⟩,(q8.n1 q9)⟩)))
end Go.Proofs.YtjilcnmaefhmeaaGreatDoor
namespace Go.G08
open Go.Lw Go.G21
theorem Own.neO {α β:Type}{E:Enc α}{I:Enc β}{T T' b b':Nat}{w:World}{v v':Value}{ys:List α}{zs:List β}(h:Lw.Own E T b w v ys)(J:Lw.Own I T' b' w v' zs)(M:T≠T'):∀k∈z0u v,k∉z0u v':=by
 intro k D;rcases h with ⟨rfl,rfl⟩|⟨g,cap,cur,rfl,_,O,_⟩
 cases D;obtain rfl:k=g:=by simpa[z0u] using D
 exact J.neB O (Ne.symm M)
theorem v9p (B:Bd)(r d:Int)(i:Nat):v1v B r d (i+1)=v1v B r d i++u7z B r d i:=by unfold v1v;rw[List.range_succ,List.flatMap_append];simp
theorem y8k (B:Bd)(r d p:Int)(i:Nat):z8f B r d p (i+1)=z8f B r d p i++y5g B r d p i:=by unfold z8f;rw[List.range_succ,List.flatMap_append];simp
theorem v9c {α β:Type}(f:α->List β){l:List α}{j:Nat}(d:α)(h:j<l.length):(l.take (j+1)).flatMap f=(l.take j).flatMap f++f (l.getD j d):=by
 rw[z1s d h,List.flatMap_append];simp
theorem v9r {B:Bd}(h:BdOk B)(k:Nat):(B.b.getD k []).length<=4:=by
 have:=y0l h 1 ((k:Int)+1);unfold Bd.at atB at this;rwa [if_neg dd,show ((k:Int)+1-1).toNat=k by omega]at this
theorem x5w {B:Bd}(h:BdOk B)(b n:Int):(B.atC b n).length<=4:=by
 unfold Bd.atC;split;exact y0l h b n;simp
theorem flat_len {α β:Type}(f:α->List β)(m:Nat)(hf:∀x,(f x).length<=m):∀l:List α,(l.flatMap f).length<=m*l.length
 | []=>by simp
 | x::l=>by have:=flat_len f m hf l;have:=hf x;rw[List.flatMap_cons,List.length_append,List.length_cons];rw[Nat.mul_succ];omega
theorem u5w {B:Bd}(h:BdOk B)(r d:Int)(k:Nat):(u7z B r d k).length<=16:=by
 unfold u7z;have D:=flat_len (λx=>(B.atC 0 (y1b r d k)).reverse.map (x9k d x)) 4 (λx=>by rw[List.length_map,List.length_reverse];exact x5w h _ _) (B.b.getD k []);have:=v9r h k;omega
theorem x7z {B:Bd}(h:BdOk B)(r d:Int)(i:Nat):(v1v B r d i).length<=16*i:=by
 have:=flat_len (u7z B r d) 16 (u5w h r d) (List.range i);rw[List.length_range]at this;exact this
theorem v6t {B:Bd}(h:BdOk B)(r d p:Int)(k:Nat):(y5g B r d p k).length<=4:=by
 unfold y5g;split;simp;rw[List.length_map];exact v9r h k
theorem x3j {B:Bd}(h:BdOk B)(r d p:Int)(i:Nat):(z8f B r d p i).length<=4*i:=by
 have:=flat_len (y5g B r d p) 4 (v6t h r d p) (List.range i);rw[List.length_range]at this;exact this
theorem x1l {B:Bd}(h:BdOk B)(r d p:Int):(z5e B r d p).length<=4*B.b.length:=by
 have:=x3j h r d p B.b.length;unfold z5e;split;rw[List.length_reverse];exact this;exact this
theorem y1z {B:Bd}(h:BdOk B)(r d:Int):(z4c B r d).length<=16*B.b.length:=by
 have:=x7z h r d B.b.length;unfold z4c;split;rw[List.length_reverse];exact this;exact this
end Go.G08
namespace Go.Proofs.YtjilcnmaefhmeaaGreatDoor
open Go.Lw Go.G21 Go.G08 _root_.Go.Proofs.Tryz
theorem u5k (q:BdQ)(r d I:Int)(w0:World)(O:BdAt w0 q)(hv:BdOk q.p)(hT:StT w0)(hr:-4<=r/\r<=4)(hd:d=0\/d=1)(d9:-4<=r+stI d/\r+stI d<=4)(hp:¬Int.tmod I 2=0)(d6:-9223372036854775808<=I/\I<=9223372036854775807):Rets prog 195 #[.agg #[.slice q.f.1 q.f.2.1 q.f.2.2,.slice q.b.1 q.b.2.1 q.b.2.2],.int .i64 r,.int .u8 d,.int .i64 I] w0 λv w'=>(∃g,v=.tuple #[.slice (some ⟨g,0,none⟩) (z5e q.p r d I).length (z5e q.p r d I).length,.int .i64 0]/\w0.heap.size<=g/\Lw.Own z2e 97 w0.heap.size w' (.slice (some ⟨g,0,none⟩) (z5e q.p r d I).length (z5e q.p r d I).length) (z5e q.p r d I))/\Fr [] w0 w':=by
 obtain⟨⟨hf,hb⟩,h4,b0⟩:=z3w hv;have b4:=x1l hv r d I;rw[List.length_map]at b4;refine we [(0,.agg #[.slice q.f.1 q.f.2.1 q.f.2.2,.slice q.b.1 q.b.2.1 q.b.2.2]),(1,.int .i64 r),(2,.int .u8 d),(3,.int .i64 I)] func195 U ntmps195 U (.c4 U U U U) ?_;have J:=O;have a1:=hT;refine sr (bx U (λg4 w1 d5 Z q1 z1=>(asg U (asg U (nn (sq (sr (z0n U Z z4w (mv U U (mv U U ?_))))))))));replace O:=J.ext q1;replace hT:=a1.ext q1;refine cl (ev3 U) (mkC func249) (x4p q _ _ _ O hv hT oo hd oo) U ?_;rintro _ w2 ⟨rfl,q2⟩;have z2:=q2.size;refine asg U (nn (sr (mv U U (ne' U (nn (cd U (λc0=>?_) (λc0=>?_)))))));exact absurd U c0;refine sk (tn (sq (sr (mv U U (v4d U U (by first|exact IntWalk.rem_in _ _ oo|rfl) (eq' U (nn (cd U (λc1=>?_) (λc1=>?_)))))))));exact absurd c1 hp;refine sk (tn (sr (asg U (nn (jn (ι:=Unit) [(1,_),(2,_),(3,_),(4,_)] (λ_j=>[(11,.int .u8 (1-d))]) (λ_j w'=>Fr [] w2 w') (.c4 U U U U) ?_ ?_)))));refine sr (mv U U (eq' U (nn (cd U (λc2=>?_) (λc2=>?_)))));refine rg (asg U (nl ?_));exact jE (()) (.c5 U U U U (congrArg (λz=>some (Value.int .u8 z)) oo)) (Fr.refl _ _);refine sk ?_;exact jE (()) (.c5 U U U U (congrArg (λz=>some (Value.int .u8 z)) oo)) (Fr.refl _ _);rintro _j w3 q3;have z3:=q3.size;refine kpC [(1,_),(2,_),(3,_),(4,_),(11,_)] (.c5 U U U U U) (sr (asg U (nn (sq (sr (fad U y3x ?_))))));replace Z:=Z.ext (q2.n1 q3);refine z0i U Z U v0x (lnS U underlying48 (mv U U (nn (bl (lpK (ι:=Nat×Value) [(1,_),(2,_),(3,_),(11,_),(31,_),(32,_)] (λp=>[(33,.int .i64 (p.1:Int)),(12,p.2)]) (λp w'=>Fr [] w0 w'/\p.1<=q.bs.length/\Lw.Own z2e 97 w0.heap.size w' p.2 (z8f q.p r d I p.1)) (λp=>q.bs.length-p.1) (0,_) (.c8 U U U U U U U U) ⟨(q1.n2 q2 q3),⟨Nat.zero_le _,Own.nil _⟩⟩ ?_)))));rintro⟨i,uI⟩ w4 ⟨q4,⟨hi,D⟩⟩;simp only at hi D;have z4:=q4.size;refine kpC [(1,_),(2,_),(3,_),(11,_),(31,_),(32,_),(33,.int .i64 (i:Int)),(12,uI)] (.c8 U U U U U U U U) ?_;have d7:=z1z J.b;have d4:=x3j hv r d I i;have e0:=z3o b0 i;have e1:=z1z (z2f J.bi i);have e2:-300<=z2h 1 ((i:Int)+1) r/\z2h 1 ((i:Int)+1) r<=300:=by
  unfold z2h;split;omega;split<;>omega
 have e3:stI d = -1\/stI d=1:=by unfold stI;split<;>simp
 refine sr (lt' U (nn (sq (cd U (λc3=>?_) (λc3=>?_)))));refine sk (tn (sq (bl (sr (mv U U ?_)))));replace O:=J.ext q4;refine z1d (iq0) U O.b U y6z z1g (λb7 a2=>?_);refine z1k U (a2 _ O.b) z8o (asg U (asg U (nn (sr (mv U U (z1b U (wi6 oo) (z1y (cs:=[_,_]) (ev2 U) x1i (z0g U (z0g U z0s)) U ?_)))))));refine mv U U (cl (ev2 U) x5q (y0q _ _ _ _ oo) U ?_);rintro _ w5 ⟨rfl,q5⟩;have z5:=q5.size;refine asg U (kpL [(1,_),(2,_),(3,_),(11,_),(12,_),(14,_),(15,_),(31,_),(32,_),(33,_)] (.d8 U U U U U U U U (.c2 U U)) (nn (sq (sq (rbo (r:=59) (L':=[(1,_),(2,_),(3,_),(11,_),(12,_),(14,_),(31,_),(32,_),(33,_)]) (((I≠((z2h 1 ((i:Int)+1) r)+(stI d)))/\(I≠((z2h 1 ((i:Int)+1) r)+(3*(stI d)))))) (.d8 U U U U U U U U (.cons U .nil)) ?_ ?_)))));refine mv U U (mv U U (mv U U (y3z U U underlying342 sz3 ?_)));replace hT:=a1.ext (q4.n1 q5);refine y0y U hT.c (y5v hd) na3 U (z1b U (wi6 oo) (ne' U (mv U U (gs 50 U (λg0=>?_) (λg0=>?_)))));exact gY U (mv U U (gY U (mv U U (gY U (mv U U (gY U (y3z U U underlying342 sz3 (gY U (y0y U hT.c (y5v hd) na3 U (gY U (x5u U U (wi6 oo) U (gY U (z1b U (wi6 oo) (gY U (ne' U (pkt U (rbe U (.d8 U U U U U U U U (.cons U .nil)))))))))))))))))));exact gN U (gN U (gN U (gN U (gN U (gN U (gN U (gN U (pkf U (rbe U (.d8 U U U U U U U U (.cons U .nil)))))))))));refine tn (cd U (λc4=>?_) (λc4=>?_));refine ex (te (xh (tn (rg (z1b U (wi6 oo) (mv U U (nl ?_)))))));replace D:=D.ext q5;exact lpE ((i+1,_)) (.c8 U U U U U U U U) ⟨(q4.n1 q5),⟨sm,by rw[y8k,show y5g q.p r d I i=[] from if_pos c4,List.append_nil];exact D⟩⟩ sm;refine sk (tn (sr (mv U U (lnS U underlying27 (mv U U (nn (bl ?_)))))));replace D:=D.ext q5;refine lpK (ι:=Nat×Value) [(1,_),(2,_),(3,_),(11,_),(31,_),(32,_),(33,_),(60,_),(61,_)] (λp=>[(62,.int .i64 (p.1:Int)),(12,p.2)]) (λp w'=>Fr [] w0 w'/\p.1<=(q.bs.getD i iq0).2.length/\Lw.Own z2e 97 w0.heap.size w' p.2 ((z8f q.p r d I i)++((q.bs.getD i iq0).2.take p.1).map (λx=>(⟨x,true,1-d⟩:Pa)))) (λp=>(q.bs.getD i iq0).2.length-p.1) (0,uI) (.d8 U U U U U U U U (.c3 U U U)) ⟨(q4.n1 q5),⟨Nat.zero_le _,by simpa using D⟩⟩ ?_;rintro⟨j,uJ⟩ w6 ⟨q6,⟨hj,D⟩⟩;simp only at hj D;have z6:=q6.size;refine kpC [(1,_),(2,_),(3,_),(11,_),(31,_),(32,_),(33,_),(60,_),(61,_),(62,.int .i64 (j:Int)),(12,uJ)] (.d8 U U U U U U U U (.c3 U U U)) (sr (lt' U (nn (sq (cd U (λc5=>?_) (λc5=>?_))))));refine sk (tn (sq (bl (sr ?_))));replace O:=J.ext q6;refine z1d (id0) U (z2f O.bi i) U z4x z1g (λb8 a3=>?_);refine z1l U (a3 _ (z2f O.bi i)) z2y (al y0n U (λd1 w7 b9 M q7 z7=>?_));refine z0k (vs:=[_,_]) U M y0c (λw8 M q8 z8=>?_) (h1:=(by first|(simp[Value.oneCell',S];done)|exact z1f.one _));refine nn (rg (mv U U (z0n U M z2y (mv U U (z1y (cs:=[_,_,_,_]) (ev3 U) bo97 (z0g U (z0g U (z0g U z0s))) U ?_)))));refine z2t ([(⟨((q.bs.getD i iq0).2.getD j id0),true,1-d⟩:Pa)]) (ev1 U) U y0r (λd3 w9 c9 a4 q9 z9=>?_);replace D:=((D.ext q7).fr q8 (by first|exact z8w D oo|simp[z0u]<;>omega)).ext q9;have a0:=D;refine z2l U D a4.sl y0r (λe4 e5 D a5 b6=>?_) (hM:=(by unfold maxLen;simp only[List.length_append,List.length_map,List.length_take,List.length_cons,List.length_nil];omega)) (hb:=(by simp only[List.length_append,List.length_map,List.length_take,List.length_cons,List.length_nil];omega));have e9:=a5.size;exact asg U (kpL [(1,_),(2,_),(3,_),(11,_),(12,_),(31,_),(32,_),(33,_),(60,_),(61,_),(62,_)] (.d8 U U U U U U U U (.c3 U U U)) (nl (bn' (tn (rg (z1b U (wi6 oo) (mv U U (nl (lpE ((j+1,_)) (.d8 U U U U U U U U (.c3 U U U)) ⟨((q6.z3 q7 q8 q9).step a5 (λk hk b3=>absurd (a0.blk k hk).1 oo)),⟨sm,by rw[y4j (λx=>(⟨x,true,1-d⟩:Pa)) id0 oo,<-List.append_assoc];exact D⟩⟩ sm)))))))));obtain rfl:j=(q.bs.getD i iq0).2.length:=by omega
 rw[List.take_length]at D;exact ex (te (te (xh (bn' (tn (rg (z1b U (wi6 oo) (mv U U (nl (lpE ((i+1,_)) (.c8 U U U U U U U U) ⟨q6,⟨sm,by rw[y8k,show y5g q.p r d I i=_ from if_neg c4,z4g];exact D⟩⟩ sm))))))))));obtain rfl:i=q.bs.length:=by omega
 refine ex (te (te (xh (tn (jn (ι:=Unit) [(12,_)] (λ_j=>[]) (λ_j w'=>Fr [] w0 w'/\Lw.Own z2e 97 w0.heap.size w' uI (z5e q.p r d I)) (.cons U .nil) ?_ ?_)))));refine sr (mv U U (eq' U (kpL [(12,_),(75,_)] (.c2 U U) (nn (cd U (λc6=>?_) (λc6=>?_))))));refine rg (mv U U ?_);have b5:=D;refine cl (ev1 U) (mkC func250) (x3a w0.heap.size _ _ _ D oo) U ?_;rintro _ e6 ⟨D,a6⟩;have f0:=a6.size;exact nl (jE (()) (.cons U .nil) ⟨(q4.step a6 (λk hk b3=>absurd (b5.blk k hk).1 oo)),(by rw[show z5e q.p r d I=_ from if_pos oo,List.length_map];exact D)⟩);exact sk (jE (()) (.cons U .nil) ⟨q4,(by rw[show z5e q.p r d I=_ from if_neg oo,List.length_map];exact D)⟩);rintro _j e7 ⟨a7,D⟩;have f1:=a7.size;refine kpC [(12,_)] (.cons U .nil) (sr (mv U U (cl (ev1 U) (mkC func251) (y6c _ (z5e q.p r d I) _ D.sl oo) U ?_)));rintro _ e8 ⟨a9,rfl,d0,hX,a8⟩;have f2:=a8.size;exact asg U (asg U (nn (rt (r2 results195 U U ⟨_,rfl,⟨a9,rfl,oo,hX.low oo⟩,(a7.n1 a8)⟩))))
theorem j9o:BuildAt prog 292 [(0,2),(2,2),(4,1)] [(.int .u8 0),(.int .i64 0),(.int .u8 0),(.int .i64 0),(.int .i64 0)]:=BuildAt.struct underlying292 (λ_=>kr) (λ_=>kr)
theorem u8p (q:BdQ)(r d:Int)(w0:World)(hB:BdAt w0 q)(hv:BdOk q.p)(hT:StT w0)(hr:-4<=r/\r<=4)(hd:d=0\/d=1)(g1:-4<=r+stI d/\r+stI d<=4):Rets prog 197 #[.agg #[.slice q.f.1 q.f.2.1 q.f.2.2,.slice q.b.1 q.b.2.1 q.b.2.2],.int .i64 r,.int .u8 d] w0 λv w'=>(∃g,v=.tuple #[.slice (some ⟨g,0,none⟩) (z4c q.p r d).length (z4c q.p r d).length,.int .i64 0]/\w0.heap.size<=g/\Lw.Own z5w 292 w0.heap.size w' (.slice (some ⟨g,0,none⟩) (z4c q.p r d).length (z4c q.p r d).length) (z4c q.p r d))/\Fr [] w0 w':=by
 obtain⟨⟨hf,hb⟩,h4,b5⟩:=z3w hv;have g0:=z1z hB.b;have e2:=y1z hv r d;rw[List.length_map]at e2;refine we [(0,.agg #[.slice q.f.1 q.f.2.1 q.f.2.2,.slice q.b.1 q.b.2.1 q.b.2.2]),(1,.int .i64 r),(2,.int .u8 d)] func197 U ntmps197 U (.c3 U U U) ?_;have a3:=hB;have d9:=hT;refine sr (bx U (λg3 w1 f9 Z q1 z1=>(asg U (asg U (nn (sq (sr (z0n U Z z4w (mv U U (mv U U ?_))))))))));replace hB:=a3.ext q1;replace hT:=d9.ext q1;refine cl (ev3 U) (mkC func249) (x4p q _ _ _ hB hv hT oo hd oo) U ?_;rintro _ w2 ⟨rfl,q2⟩;have z2:=q2.size;replace Z:=Z.ext q2;have b6:=Z;refine asg U (nn (sr (mv U U (ne' U (nn (cd U (λc0=>?_) (λc0=>?_)))))));exact absurd U c0;refine sk (tn (sr (asg U (nn (sq (sr (fad U y3x (z0i U Z U v0x (lnS U underlying48 (mv U U (nn (bl (lpK (ι:=Nat×Value) [(1,_),(2,_),(3,_),(26,_),(27,_)] (λp=>[(28,.int .i64 (p.1:Int)),(9,p.2)]) (λp w'=>Fr [] w2 w'/\p.1<=q.bs.length/\Lw.Own z5w 292 w2.heap.size w' p.2 (v1v q.p r d p.1)) (λp=>q.bs.length-p.1) (0,_) (.c7 U U U U U U U) ⟨(Fr.refl _ _),⟨Nat.zero_le _,Own.nil _⟩⟩ ?_)))))))))))));rintro⟨i,uI⟩ w3 ⟨q3,⟨hi,I⟩⟩;simp only at hi I;have z3:=q3.size;refine kpC [(1,_),(2,_),(3,_),(26,_),(27,_),(28,.int .i64 (i:Int)),(9,uI)] (.c7 U U U U U U U) ?_;have f7:=x7z hv r d i;have g6:=z3o b5 i;have g7:=z1z (z2f a3.bi i);have f8:-10<=y1b r d i/\y1b r d i<=50:=by unfold y1b;split<;>omega
 have e0:((q.p.atC 0 (y1b r d i)).reverse).length<=4:=by rw[List.length_reverse];exact x5w hv _ _
 refine sr (lt' U (nn (sq (cd U (λc1=>?_) (λc1=>?_)))));refine sk (tn (sq (bl (sr (mv U U ?_)))));replace hB:=a3.ext (q1.n2 q2 q3);refine z1d (iq0) U hB.b U y6z z1g (λe5 b7=>?_);refine z1k U (b7 _ hB.b) z8o (asg U (asg U (nn (sr (mv U U (z1b U (wi6 oo) (mv U U (z1b U (wi6 oo) (asg U (nn (jn (ι:=Unit) [(1,_),(2,_),(3,_),(9,_),(11,_),(26,_),(27,_),(28,_)] (λ_j=>[(12,.int .i64 (y1b r d i))]) (λ_j w'=>Fr [] w2 w'/\Lw.Own z5w 292 w2.heap.size w' uI (v1v q.p r d i)) (.c8 U U U U U U U U) ?_ ?_)))))))))));refine sr (mv U U (eq' U (nn (cd U (λc2=>?_) (λc2=>?_)))));exact rg (mv U U (z2p U (wi6 oo) (asg U (nl (jE (()) (.d8 U U U U U U U U (.cons (by first|(rw[show y1b r d i=_ from if_pos c2];rfl)|(rw[show y1b r d i=_ from if_neg c2];rfl)) .nil)) ⟨q3,I⟩)))));exact sk (jE (()) (.d8 U U U U U U U U (.cons (by first|(rw[show y1b r d i=_ from if_pos c2];rfl)|(rw[show y1b r d i=_ from if_neg c2];rfl)) .nil)) ⟨q3,I⟩);rintro _j w4 ⟨q4,I⟩;have z4:=q4.size;refine kpC [(1,_),(2,_),(3,_),(9,_),(11,_),(26,_),(27,_),(28,_),(12,_)] (.d8 U U U U U U U U (.cons U .nil)) (sr ?_);replace Z:=b6.ext q4;refine z0n U Z z4w (mv U U (z1y (cs:=[_,_]) (ev2 U) x1i (z0g U (z0g U z0s)) U ?_));replace hB:=a3.ext (q1.n2 q2 q4);refine cl (ev2 U) u6f (x2k q 0 (y1b r d i) _ hB oo hf hb h4 b5) U ?_;rintro g8 w5 ⟨J,q5⟩;replace J:=J.low (show w2.heap.size<=_ by omega);have z5:=q5.size;refine asg U (nn (sr (mv U U ?_)));have a4:=J;replace I:=I.ext q5;refine cl (ev1 U) (mkC func254) (u0e w2.heap.size _ _ _ J (by have:=x5w hv 0 (y1b r d i);omega)) U ?_;rintro _ w6 ⟨J,q6⟩;replace I:=I.fr q6 (Own.neO a4 I dd);have z6:=q6.size;obtain⟨b3,b4,rfl,e8⟩:=J.sl.form;refine nn (sr (mv U U (lnS U underlying27 (mv U U (nn (bl (lpK (ι:=Nat×Value) [(1,_),(2,_),(3,_),(13,_),(26,_),(27,_),(28,_),(47,_),(48,_)] (λp=>[(49,.int .i64 (p.1:Int)),(9,p.2)]) (λp w'=>Fr [] w2 w'/\p.1<=(q.bs.getD i iq0).2.length/\Lw.Own z5w 292 w2.heap.size w' p.2 ((v1v q.p r d i)++((q.bs.getD i iq0).2.take p.1).flatMap (λx=>((q.p.atC 0 (y1b r d i)).reverse).map (x9k d x)))/\Lw.Own z1f 73 w2.heap.size w' (.slice b3 ((q.p.atC 0 (y1b r d i)).reverse).length b4) ((q.p.atC 0 (y1b r d i)).reverse)) (λp=>(q.bs.getD i iq0).2.length-p.1) (0,_) (.d8 U U U U U U U U (.c3 U U U)) ⟨((q4.n1 q5).step q6 (λk hk b0=>absurd (a4.blk k hk).1 oo)),⟨Nat.zero_le _,by simpa using I,J⟩⟩ ?_)))))));rintro⟨j,uJ⟩ w7 ⟨q7,⟨hj,I,J⟩⟩;simp only at hj I;have z7:=q7.size;refine kpC [(1,_),(2,_),(3,_),(13,_),(26,_),(27,_),(28,_),(47,_),(48,_),(49,.int .i64 (j:Int)),(9,uJ)] (.d8 U U U U U U U U (.c3 U U U)) ?_;have e1:=flat_len (λx=>((q.p.atC 0 (y1b r d i)).reverse).map (x9k d x)) 4 (λx=>by rw[List.length_map];exact e0) ((q.bs.getD i iq0).2.take j);rw[List.length_take]at e1;refine sr (lt' U (nn (sq (cd U (λc3=>?_) (λc3=>?_)))));refine sk (tn (sq (bl (sr ?_))));replace hB:=a3.ext (q1.n2 q2 q7);refine z1d (id0) U (z2f hB.bi i) U z4x z1g (λe6 b8=>?_);refine z1l U (b8 _ (z2f hB.bi i)) z2y (al y0n U (λd6 w8 e9 D q8 z8=>?_));refine z0k (vs:=[_,_]) U D y0c (λw9 D q9 z9=>?_) (h1:=(by first|(simp[Value.oneCell',S];done)|exact z1f.one _));refine nn (sr (mv U U (lnS U underlying27 (mv U U (nn (bl ?_))))));replace I:=(I.ext q8).fr q9 (by first|exact z8w I oo|simp[z0u]<;>omega);replace J:=(J.ext q8).fr q9 (by first|exact z8w J oo|simp[z0u]<;>omega);refine lpK (ι:=Nat×Value) [(1,_),(2,_),(3,_),(13,_),(15,_),(26,_),(27,_),(28,_),(47,_),(48,_),(49,_),(53,_),(54,_)] (λp=>[(55,.int .i64 (p.1:Int)),(9,p.2)]) (λp w'=>Fr [] w2 w'/\p.1<=((q.p.atC 0 (y1b r d i)).reverse).length/\Lw.Own z5w 292 w2.heap.size w' p.2 (((v1v q.p r d i)++((q.bs.getD i iq0).2.take j).flatMap (λx=>((q.p.atC 0 (y1b r d i)).reverse).map (x9k d x)))++(((q.p.atC 0 (y1b r d i)).reverse).take p.1).map (x9k d ((q.bs.getD i iq0).2.getD j id0)))/\Lw.Own z1f 73 w2.heap.size w' (.slice b3 ((q.p.atC 0 (y1b r d i)).reverse).length b4) ((q.p.atC 0 (y1b r d i)).reverse)/\Blk w' d6 73 (z1f.enc ((q.bs.getD i iq0).2.getD j id0))) (λp=>((q.p.atC 0 (y1b r d i)).reverse).length-p.1) (0,_) (.d8 U U U U U U U U (.c7 U U U U U U U)) ⟨(q7.z2 q8 q9),⟨Nat.zero_le _,by simpa using I,J,D⟩⟩ ?_;rintro⟨k,uK⟩ h2 ⟨a5,⟨hk,I,J,D⟩⟩;simp only at hk I;have i3:=a5.size;have d1:=D.lt;refine kpC [(1,_),(2,_),(3,_),(13,_),(15,_),(26,_),(27,_),(28,_),(47,_),(48,_),(49,_),(53,_),(54,_),(55,.int .i64 (k:Int)),(9,uK)] (.d8 U U U U U U U U (.c7 U U U U U U U)) (sr (lt' U (nn (sq (cd U (λc4=>?_) (λc4=>?_))))));refine sk (tn (sq (bl (sr (z1d (id0) U J.sl U z4x z1g (λe7 b9=>?_))))));refine z1l U (b9 _ J.sl) z2y (al y0n U (λf4 h3 f0 a2 M i4=>?_));refine z0k (vs:=[_,_]) U a2 y0c (λh5 a2 O i5=>?_) (h1:=(by first|(simp[Value.oneCell',S];done)|exact z1f.one _));refine nn (sr (mv U U (eq' U (nn (cd U (λc5=>?_) (λc5=>?_))))));refine rg (mv U U (z0n U a2 z2y ?_));replace D:=(D.ext M).fr O;refine z0n U D z2y (z1y (cs:=[_,_,_,_,_]) (ev3 U) j9o (z0g U (z0g U (z0g U z0s))) U ?_);refine z2t ([(⟨(((q.p.atC 0 (y1b r d i)).reverse).getD k id0),((q.bs.getD i iq0).2.getD j id0),1⟩:Cx)]) (ev1 U) U y2q (λf5 h6 f1 c9 a6 i7=>?_);replace J:=((J.ext M).fr O (by first|exact z8w J oo|simp[z0u]<;>omega)).ext a6;replace D:=D.ext a6;replace I:=((I.ext M).fr O (by first|exact z8w I oo|simp[z0u]<;>omega)).ext a6;have a0:=I;refine z2l U I c9.sl y2q (λg9 h7 I a7 e3=>?_) (hM:=(by unfold maxLen;simp only[List.length_append,List.length_map,List.length_take,List.length_cons,List.length_nil];omega)) (hb:=(by simp only[List.length_append,List.length_map,List.length_take,List.length_cons,List.length_nil];omega));have i8:=a7.size;replace J:=J.fr a7 ((Own.neO a0 J dd));replace D:=D.fr a7 (λhk=>a0.neB D dd hk);exact asg U (kpL [(1,_),(2,_),(3,_),(9,_),(13,_),(15,_),(26,_),(27,_),(28,_),(47,_),(48,_),(49,_),(53,_),(54,_),(55,_)] (.d8 U U U U U U U U (.c7 U U U U U U U)) (nl (bn' (tn (rg (z1b U (wi6 oo) (mv U U (nl (lpE ((k+1,_)) (.d8 U U U U U U U U (.c7 U U U U U U U)) ⟨((a5.z3 M O a6).step a7 (λk hk b0=>absurd (a0.blk k hk).1 oo)),⟨sm,by rw[y4j (x9k d ((q.bs.getD i iq0).2.getD j id0)) id0 oo,<-List.append_assoc,show x9k d ((q.bs.getD i iq0).2.getD j id0) (((q.p.atC 0 (y1b r d i)).reverse).getD k id0)=_ from if_pos c5];exact I,J,D⟩⟩ sm)))))))));refine rg (mv U U ?_);replace D:=(D.ext M).fr O;refine z0n U D z2y (z0n U a2 z2y (z1y (cs:=[_,_,_,_,_]) (ev3 U) j9o (z0g U (z0g U (z0g U z0s))) U ?_));refine z2t ([(⟨((q.bs.getD i iq0).2.getD j id0),(((q.p.atC 0 (y1b r d i)).reverse).getD k id0),-1⟩:Cx)]) (ev1 U) U y2q (λf6 h8 f2 d0 a8 i9=>?_);replace J:=((J.ext M).fr O (by first|exact z8w J oo|simp[z0u]<;>omega)).ext a8;replace D:=D.ext a8;replace I:=((I.ext M).fr O (by first|exact z8w I oo|simp[z0u]<;>omega)).ext a8;have a1:=I;refine z2l U I d0.sl y2q (λh0 h9 I a9 e4=>?_) (hM:=(by unfold maxLen;simp only[List.length_append,List.length_map,List.length_take,List.length_cons,List.length_nil];omega)) (hb:=(by simp only[List.length_append,List.length_map,List.length_take,List.length_cons,List.length_nil];omega));have j0:=a9.size;replace J:=J.fr a9 ((Own.neO a1 J dd));replace D:=D.fr a9 (λhk=>a1.neB D dd hk);exact asg U (kpL [(1,_),(2,_),(3,_),(9,_),(13,_),(15,_),(26,_),(27,_),(28,_),(47,_),(48,_),(49,_),(53,_),(54,_),(55,_)] (.d8 U U U U U U U U (.c7 U U U U U U U)) (nl (bn' (tn (rg (z1b U (wi6 oo) (mv U U (nl (lpE ((k+1,_)) (.d8 U U U U U U U U (.c7 U U U U U U U)) ⟨((a5.z3 M O a8).step a9 (λk hk b0=>absurd (a1.blk k hk).1 oo)),⟨sm,by rw[y4j (x9k d ((q.bs.getD i iq0).2.getD j id0)) id0 oo,<-List.append_assoc,show x9k d ((q.bs.getD i iq0).2.getD j id0) (((q.p.atC 0 (y1b r d i)).reverse).getD k id0)=_ from if_neg c5];exact I,J,D⟩⟩ sm)))))))));obtain rfl:k=((q.p.atC 0 (y1b r d i)).reverse).length:=by omega
 rw[List.take_length]at I;exact ex (te (te (xh (bn' (tn (rg (z1b U (wi6 oo) (mv U U (kpL [(1,_),(2,_),(3,_),(9,_),(13,_),(26,_),(27,_),(28,_),(47,_),(48,_),(49,_)] (.d8 U U U U U U U U (.c3 U U U)) (nl (lpE ((j+1,_)) (.d8 U U U U U U U U (.c3 U U U)) ⟨a5,⟨sm,by rw[v9c (λx=>((q.p.atC 0 (y1b r d i)).reverse).map (x9k d x)) id0 oo,<-List.append_assoc];exact I,J⟩⟩ sm)))))))))));obtain rfl:j=(q.bs.getD i iq0).2.length:=by omega
 rw[List.take_length]at I;exact ex (te (te (xh (bn' (tn (rg (z1b U (wi6 oo) (mv U U (kpL [(1,_),(2,_),(3,_),(9,_),(26,_),(27,_),(28,_)] (.c7 U U U U U U U) (nl (lpE ((i+1,_)) (.c7 U U U U U U U) ⟨q7,⟨sm,by rw[v9p,show u7z q.p r d i=(q.bs.getD i iq0).2.flatMap (λx=>((q.p.atC 0 (y1b r d i)).reverse).map (x9k d x)) from by unfold u7z;rw[z4g]];exact I⟩⟩ sm)))))))))));obtain rfl:i=q.bs.length:=by omega
 refine ex (te (te (xh (tn (jn (ι:=Unit) [(9,_)] (λ_j=>[]) (λ_j w'=>Fr [] w0 w'/\Lw.Own z5w 292 w0.heap.size w' uI (z4c q.p r d)) (.cons U .nil) ?_ ?_)))));refine sr (mv U U (eq' U (kpL [(9,_),(77,_)] (.c2 U U) (nn (cd U (λc6=>?_) (λc6=>?_))))));refine rg (mv U U ?_);have a4:=I;refine cl (ev1 U) (mkC func255) (v4q w2.heap.size _ _ _ I oo) U ?_;rintro _ i0 ⟨I,d3⟩;have j1:=d3.size;exact nl (jE (()) (.cons U .nil) ⟨((q1.n2 q2 q3).step d3 (λk hk b0=>absurd (a4.blk k hk).1 oo)),(by rw[show z4c q.p r d=_ from if_pos oo,List.length_map];exact I.low oo)⟩);exact sk (jE (()) (.cons U .nil) ⟨(q1.n2 q2 q3),(by rw[show z4c q.p r d=_ from if_neg oo,List.length_map];exact I.low oo)⟩);rintro _j i1 ⟨d4,I⟩;have j2:=d4.size;refine kpC [(9,_)] (.cons U .nil) (sr (mv U U (cl (ev1 U) (mkC func256) (x5r _ (z4c q.p r d) _ I.sl oo) U ?_)));rintro _ i2 ⟨d7,rfl,f3,hY,d5⟩;have j3:=d5.size;exact asg U (asg U (nn (rt (r2 results197 U U ⟨_,rfl,⟨d7,rfl,oo,hY.low oo⟩,(d4.n1 d5)⟩))))
end Go.Proofs.YtjilcnmaefhmeaaGreatDoor
namespace Go.G08
open Go.Lw Go.G21
def orZ:List Int->Int
  | []=>0
  | x::l=>if x≠0 then x else orZ l
theorem v3j:∀ {l:List Int} {i:Nat},i<l.length->(∀j,j<i->l.getD j 0=0)->l.getD i 0≠0->orZ l=l.getD i 0
 | x::l,0,_,_,h=>by simp only[List.getD_cons_zero]at h ⊢;exact if_pos h
 | x::l,i+1,hi,hj,h=>by
  have D:=hj 0 oo
  simp only[List.getD_cons_zero]at D
  rw[show orZ (x::l)=if x≠0 then x else orZ l from U,if_neg oo]
  simp only[List.getD_cons_succ]at h ⊢
  exact v3j (by simpa using hi) (λj I=>by have:=hj (j+1) oo;simpa only[List.getD_cons_succ] using this) h
theorem y9p:∀ {l:List Int},(∀j,j<l.length->l.getD j 0=0)->orZ l=0
 | [],_=>rfl
 | x::l,hj=>by
  have D:=hj 0 sp0
  simp only[List.getD_cons_zero]at D
  rw[show orZ (x::l)=if x≠0 then x else orZ l from U,if_neg oo]
  exact y9p (λj I=>by have:=hj (j+1) (by simpa using I);simpa only[List.getD_cons_succ] using this)
theorem x9m (a b:LId):orZ [z6c a.y b.y,z6c a.n b.n]=z6q a b:=by
 unfold orZ orZ orZ z6c z6q
 repeat' split
 all_goals first|rfl|omega
end Go.G08
namespace Go.Lw
open Go.RowKit
def MapL {κ:Type}[DecidableEq κ](V:κ->Value)(w:World)(g:Nat)(m:List (κ×Value)):Prop:=
  ∃(es:Array MapEntry) (c:Nat),w.heap[g]?=some (.map es c)/\es.toList.map (λe=>(e.key,e.val))=m.map (λp=>(V p.1,p.2))/\(m.map (·.1)).Nodup/\(es.toList.map (·.born)).Nodup/\∀e∈es.toList,e.born<c
def z5i {κ:Type}[DecidableEq κ](m:List (κ×Value))(k:κ):List (κ×Value):=
  match (m.map (·.1)).findIdx? (λx=>decide (k=x)) with
  | some i=>m.eraseIdx i
  | none=>m
def MapIt {κ:Type}[DecidableEq κ](V:κ->Value)(w:World)(gi g:Nat)(m rem:List (κ×Value))(cur:Option (κ×Value)):Prop:=
  ∃(es:Array MapEntry) (c:Nat) (seen:Array Nat),w.heap[g]?=some (.map es c)/\es.toList.map (λe=>(e.key,e.val))=m.map (λp=>(V p.1,p.2))/\(es.toList.map (·.born)).Nodup/\(∀e∈es.toList,e.born<c)/\
    w.heap[gi]?=some (.mapIter (some g) c seen c)/\(leftOf es seen).toList.map (λe=>(e.key,e.val))=rem.map (λp=>(V p.1,p.2))/\∀p,cur=some p->∃e∈es.toList,∃s':Array Nat,seen=s'.push e.born/\e.key=V p.1/\e.val=p.2
theorem j7v {P:Program}{ops:Array Oper}{Q:Exit->Act->World->Prop}{o:Oper}{rest:List Oper}{a:Act}{n:Nat}{ds:List Nat}{L:List (Nat×Value)}{w w':World}{v:Value}(h:AgM ds a n L)(J:o.guard=none)(I:o.dst=none)(hr:(execOp a.eval o).run P w=.ok (.value v) w')
    (k:∀a,AgM ds a n L->wpList P ops Q rest a w'):wpList P ops Q (o::rest) a w:=
  wpList_plain J λK D=>by
    unfold Oper.wp
    rw[hr]
    show K (a.put o.dst v) w'
    rw[I]
    exact D _ _ (k _ h)
theorem y7c {D:Type}(m:List (D×Value))(i:Nat)(v:Value):(m.modify i λp=>(p.1,v)).map (·.1)=m.map (·.1):=by
 apply List.ext_getElem?;intro j;simp only[List.getElem?_map,List.getElem?_modify];by_cases h:i=j;subst h;cases m[i]?<;>simp
 simp[h]
theorem y1f {α β:Type}(f:α->β)(i:Nat)(l:List α):(l.eraseIdx i).map f=(l.map f).eraseIdx i:=by
 apply List.ext_getElem?;intro j;simp only[List.getElem?_map,List.getElem?_eraseIdx];split<;>rfl
section
variable {κ:Type} [DecidableEq κ] {V:κ->Value} {P:Program} {K:TypeId} {w w':World} {g:Nat} {m:List (κ×Value)} {S:List Nat}
theorem MapL.fr (h:MapL V w g m)(hf:Fr S w w')(hn:g∉S:=by simp[z0u]<;>omega):MapL V w' g m:=by
 obtain⟨I,c,D,J⟩:=h;exact⟨I,c,(hf.block g (Array.getElem?_eq_some_iff.1 D).1 hn).trans D,J⟩
theorem MapL.ext (h:MapL V w g m)(hf:Fr [] w w'):MapL V w' g m:=h.fr hf sp0
theorem MapL.f (h:MapL V w g m):MapF V w g (z1h m):=let ⟨es,c,h1,h2,_⟩:=h;⟨es,c,m,h1,h2,λ_=>rfl⟩
theorem MapL.lt (h:MapL V w g m):g<w.heap.size:=h.f.lt
theorem MapL.nodup (h:MapL V w g m):(m.map (·.1)).Nodup:=let ⟨_,_,_,_,h,_⟩:=h;h
theorem v6v {k:κ}(h:(m.map (·.1)).findIdx? (λx=>decide (k=x))=none):k∉m.map (·.1):=λD=>by
 rw[List.findIdx?_eq_none_iff]at h
 have:=h k D
 simp at this
theorem y7a {t E:TypeId}(h:MapL V w g m)(hk:KeyLaw P K V)(hu:P.underlying t=some (.map K E))(k:κ)(v:Value) :
    ∃w',(Instr.mapUpdate t (.map (some g)) (V k) v).run P w=.ok () w'/\MapL V w' g (z1u m k v)/\Fr [g] w w'/\w'.heap.size=w.heap.size:=by
  obtain⟨D,c,h1,h2,a7,a4,a1⟩:=h
  have a9:=(Array.getElem?_eq_some_iff.1 h1).1
  have O:D.toList.map (·.key)=(m.map (·.1)).map V:=by
    have:=congrArg (List.map Prod.fst) h2
    simpa[List.map_map,Function.comp_def] using this
  have J:=hk.find k D.toList (m.map (·.1)) w O
  have a0:∀o,(setObj g o).run P w=.ok () { w with heap:=w.heap.setIfInBounds g o }:=by intro o;simp[setObj,Sem.run,h1]
  have a5:∀o,Fr [g] w { w with heap:=w.heap.setIfInBounds g o }:=λo=>⟨rfl,rfl,rfl,sp0,λi _ hn=>by
    simp only
    rw[Array.getElem?_setIfInBounds_ne (by intro e;subst e;simp at hn)]⟩
  have M:∀o,({ w with heap:=w.heap.setIfInBounds g o }:World).heap[g]?=some o:=by intro o;simp[a9]
  have b3:D.toList.length=m.length:=by have:=congrArg List.length h2;simpa using this
  cases hf:(m.map (·.1)).findIdx? (λx=>decide (k=x)) with
  | none=>
    have ea:z1u m k v=m++[(k,v)]:=by unfold z1u;rw[hf]
    rw[ea]
    refine⟨_,?_,⟨_,_,M (.map (D.push { key:=V k,val:=v,born:=c }) (c+1)),?_,?_,?_,?_⟩,a5 _,sp0⟩
    · rw[hf]at J
      simp only[Instr.mapUpdate,Sem.run_bind,run_underlying hu,Result.andThen_ok,z2g h1,hk.check,J,Option.bind_none,a0]
    · simp[h2]
    · rw[List.map_append]
      exact List.nodup_append.2 ⟨a7,sp0,λx hx y hy=>by
        simp at hy;subst hy;intro e;subst e;exact v6v hf hx⟩
    · rw[Array.toList_push,List.map_append]
      exact List.nodup_append.2 ⟨a4,sp0,λx hx y hy=>by
        simp at hy;subst hy
        obtain⟨e,he,rfl⟩:=List.mem_map.1 hx
        have:=a1 e he;omega⟩
    · intro e he
      rw[Array.toList_push]at he
      rcases List.mem_append.1 he with h|h
      · have:=a1 e h;omega
      · simp at h;subst h;exact Nat.lt_succ_self _
  | some i=>
    have hi:i<m.length:=by
      have:=List.findIdx?_eq_some_iff_findIdx_eq.1 hf
      simpa using this.1
    have Z:i<D.toList.length:=by omega
    have a6:V k=(D.toList[i]).key:=by
      have a8:=List.findIdx?_eq_some_iff_getElem.1 hf
      obtain⟨b4,hp,_⟩:=a8
      have b0:k=(m.map (·.1))[i]:=by simpa using hp
      have e1:(D.toList.map (·.key))[i]?=((m.map (·.1)).map V)[i]?:=by rw[O]
      simp only[List.getElem?_map,List.getElem?_eq_getElem Z,List.getElem?_eq_getElem hi,Option.map_some,Option.some.injEq]at e1
      rw[e1,b0];simp
    have ea:z1u m k v=m.modify i λp=>(p.1,v):=by unfold z1u;rw[hf]
    rw[ea]
    have I:(D.modify i λe=>{ e with key:=V k,val:=v }).toList.map (·.born)=D.toList.map (·.born):=by
      apply List.ext_getElem?
      intro j
      simp only[List.getElem?_map]
      rw[Array.getElem?_toList,Array.getElem?_modify,Array.getElem?_toList]
      by_cases hj:i=j
      · subst hj;simp only[if_true];cases D[i]?<;>rfl
      · simp only[hj,if_false]
    refine⟨_,?_,⟨_,_,M (.map (D.modify i λe=>{ e with key:=V k,val:=v }) c),?_,by rw[y7c m];exact a7,by rw[I];exact a4,?_⟩,a5 _,sp0⟩
    · rw[hf]at J
      have a2:D[i]?=some D.toList[i]:=by rw[<-Array.getElem?_toList,List.getElem?_eq_getElem Z]
      simp only[Option.bind_some,List.getElem?_eq_getElem Z,Option.map_some]at J
      have a3:(Instr.keyThatStays (((D[i]?).map (·.key)).getD (V k)) (V k)).run P w=.ok (V k) w:=by
        rw[a2]
        simp only[Option.map_some,Option.getD_some,<-a6,Instr.keyThatStays,hk.bits,if_true,Sem.run_pure]
      simp only[Instr.mapUpdate,Sem.run_bind,run_underlying hu,Result.andThen_ok,z2g h1,hk.check,J,a3,a0]
    · apply List.ext_getElem?
      intro j
      have e2:=congrArg (·[j]?) h2
      simp only[List.getElem?_map]at e2 ⊢
      rw[Array.getElem?_toList,Array.getElem?_modify,List.getElem?_modify]
      rw[Array.getElem?_toList]at e2
      by_cases hj:i=j
      · subst hj
        have e3:=List.getElem?_eq_getElem hi
        have a2:D[i]?=some D.toList[i]:=by rw[<-Array.getElem?_toList,List.getElem?_eq_getElem Z]
        rw[a2,e3]at e2 ⊢
        simp only[Option.map_some,Option.some.injEq,Prod.mk.injEq]at e2
        simp only[if_true,Option.map_some]
        rw[a6,e2.1];rfl
      · simp only[hj,if_false]
        rw[e2];simp
    · intro e he
      have:e.born∈D.toList.map (·.born):=by rw[<-I];exact List.mem_map_of_mem he
      obtain⟨x,hx,hb⟩:=List.mem_map.1 this
      rw[<-hb];exact a1 x hx
theorem x7h {t E:TypeId}{ty:TypeId}(h:MapL V w g m)(hk:KeyLaw P K V)(hu:P.underlying t=some (.map K E))(k:κ) :
    ∃w',(Builtin.delete_ #[t,K] ty #[.map (some g),V k]).run P w=.ok (.tuple #[]) w'/\MapL V w' g (z5i m k)/\Fr [g] w w'/\w'.heap.size=w.heap.size:=by
  obtain⟨J,c,h1,h2,a3,a0,Z⟩:=h
  have a4:=(Array.getElem?_eq_some_iff.1 h1).1
  have O:J.toList.map (·.key)=(m.map (·.1)).map V:=by
    have:=congrArg (List.map Prod.fst) h2
    simpa[List.map_map,Function.comp_def] using this
  have D:=hk.find k J.toList (m.map (·.1)) w O
  have M:∀o,(setObj g o).run P w=.ok () { w with heap:=w.heap.setIfInBounds g o }:=by intro o;simp[setObj,Sem.run,h1]
  have a1:∀o,Fr [g] w { w with heap:=w.heap.setIfInBounds g o }:=λo=>⟨rfl,rfl,rfl,sp0,λi _ hn=>by
    simp only
    rw[Array.getElem?_setIfInBounds_ne (by intro e;subst e;simp at hn)]⟩
  have I:∀o,({ w with heap:=w.heap.setIfInBounds g o }:World).heap[g]?=some o:=by intro o;simp[a4]
  have a5:J.toList.length=m.length:=by have:=congrArg List.length h2;simpa using this
  cases hf:(m.map (·.1)).findIdx? (λx=>decide (k=x)) with
  | none=>
    have ea:z5i m k=m:=by unfold z5i;rw[hf]
    rw[ea]
    refine⟨_,?_,⟨_,_,I (.map J c),h2,a3,a0,Z⟩,a1 _,sp0⟩
    rw[hf]at D
    simp[Builtin.delete_,run_underlying hu,z2g h1,hk.check,D,M]
  | some i=>
    have ea:z5i m k=m.eraseIdx i:=by unfold z5i;rw[hf]
    rw[ea]
    have hi:i<m.length:=by
      have:=List.findIdx?_eq_some_iff_findIdx_eq.1 hf
      simpa using this.1
    have a2:i<J.toList.length:=by omega
    have el:(J.eraseIdxIfInBounds i).toList=J.toList.eraseIdx i:=by
      unfold Array.eraseIdxIfInBounds
      rw[dif_pos (by simpa using a2),Array.toList_eraseIdx]
    refine⟨_,?_,⟨_,_,I (.map (J.eraseIdxIfInBounds i) c),?_,?_,?_,?_⟩,a1 _,sp0⟩
    · rw[hf]at D
      simp only[Option.bind_some,List.getElem?_eq_getElem a2,Option.map_some]at D
      simp[Builtin.delete_,run_underlying hu,z2g h1,hk.check,D,M]
    · rw[el,y1f,y1f,h2]
    · rw[y1f];exact List.Nodup.sublist (List.eraseIdx_sublist _ _) a3
    · rw[el,y1f];exact List.Nodup.sublist (List.eraseIdx_sublist _ _) a0
    · intro e he
      rw[el]at he
      exact Z e ((List.eraseIdx_sublist _ _).mem he)
variable {a:Act} {n:Nat} {L:List (Nat×Value)} {ds:List Nat} {Q:Exit->Act->World->Prop} {C:World->Prop} {Qa:Act->Prop} {ops:Array Oper} {rest:List Oper}
variable {d:Nat} {ty:TypeId} {pos:String} {after:Array Edge} {x y z:Operand} {t E:TypeId} {k:κ} {v zv:Value}
theorem y3c (h:AgM ds a n L)(hx:ev L x=some (.map (some g)))(hy:ev L y=some (V k))(hz:ev L z=some v)(O:MapL V w g m)(M:KeyLaw P K V)(hu:P.underlying t=some (.map K E))
    (q:∀w',MapL V w' g (z1u m k v)->Fr [g] w w'->w'.heap.size=w.heap.size->∀a,AgM ds a n L->wpList P ops Q rest a w'):wpList P ops Q (⟨none,.mapUpdate t x y z,ty,pos,after,none⟩::rest) a w:=by
  obtain⟨w',Z,D,I,J⟩:=y7a O M hu k v
  exact z8h h U U (w':=w') (by simp[execOp,h.eval hx,h.eval hy,h.eval hz,Z]) (q w' D I J)
theorem j0f {J:TypeId}(h:AgM ds a n L)(hx:ev L x=some (.map (some g)))(hy:ev L y=some (V k))(hm:MapL V w g m)(hk:KeyLaw P K V)(hu:P.underlying t=some (.map K E))(he:J=K)
    (q:∀w',MapL V w' g (z5i m k)->Fr [g] w w'->w'.heap.size=w.heap.size->∀a,AgM ds a n L->wpList P ops Q rest a w'):wpList P ops Q (⟨none,.call ⟨.builtin .delete,#[x,y],#[t,J]⟩,ty,pos,after,none⟩::rest) a w:=by
  subst he
  obtain⟨w',hr,M,O,Z⟩:=x7h (ty:=ty) hm hk hu k
  refine j7v h U U (w':=w') (v:=.tuple #[]) ?_ (q w' M O Z)
  have D:=h.eval hx
  have I:=h.eval hy
  rw[z2i];unfold builtin
  simp[D,I,hr]
theorem MapIt.fr {gi:Nat}{rem:List (κ×Value)}{cur:Option (κ×Value)}(h:MapIt V w gi g m rem cur)(hf:Fr S w w')(h1:g∉S)(O:gi∉S):MapIt V w' gi g m rem cur:=by
 obtain⟨M,c,D,I,Z,k3,k4,J,k6⟩:=h;exact⟨M,c,D,(hf.block g (Array.getElem?_eq_some_iff.1 I).1 h1).trans I,Z,k3,k4,(hf.block gi (Array.getElem?_eq_some_iff.1 J).1 O).trans J,k6⟩
theorem MapIt.ext {gi:Nat}{rem:List (κ×Value)}{cur:Option (κ×Value)}(h:MapIt V w gi g m rem cur)(hf:Fr [] w w'):MapIt V w' gi g m rem cur:=h.fr hf sp0 sp0
theorem MapIt.lt {gi:Nat}{rem:List (κ×Value)}{cur:Option (κ×Value)}(h:MapIt V w gi g m rem cur):gi<w.heap.size:=let ⟨_,_,_,_,_,_,_,k5,_⟩:=h;(Array.getElem?_eq_some_iff.1 k5).1
theorem MapIt.ne {gi:Nat}{rem:List (κ×Value)}{cur:Option (κ×Value)}(h:MapIt V w gi g m rem cur):g≠gi:=λe=>by
 obtain⟨M,c,I,J,_,_,_,D,_⟩:=h
 rw[<-e,J]at D;cases D
theorem v4k {I:Array MapEntry}{D:Array Nat}{e:MapEntry}{J M:List MapEntry}(hn:(I.toList.map (·.born)).Nodup)(h:(leftOf I D).toList=J++e::M):(leftOf I (D.push e.born)).toList=J++M:=by
 have h2:(leftOf I (D.push e.born)).toList=(leftOf I D).toList.filter λx=>decide (x.born≠e.born):=by
  unfold leftOf;rw[Array.toList_filter,Array.toList_filter,List.filter_filter];congr 1;funext x;by_cases c1:x.born=e.born;simp[c1];by_cases c2:x.born∈D;simp[c1,c2];simp[c1,c2]
 have O:((leftOf I D).toList.map (·.born)).Nodup:=by
  refine List.Nodup.sublist (List.Sublist.map _ ?_) hn;unfold leftOf;rw[Array.toList_filter];exact List.filter_sublist
 rw[h]at h2 O;rw[h2,List.filter_append,List.filter_cons];rw[List.map_append,List.map_cons]at O;obtain⟨n1,n2,n3⟩:=List.nodup_append.1 O;have n4:=List.nodup_cons.1 n2;have f1:J.filter (λx=>decide (x.born≠e.born))=J:=List.filter_eq_self.2 λx Z=>by
  simpa using n3 _ (List.mem_map_of_mem Z) e.born (List.mem_cons_self ..)
 have f2:M.filter (λx=>decide (x.born≠e.born))=M:=List.filter_eq_self.2 λx Z=>by
  have:x.born≠e.born:=λk=>n4.1 (by rw[<-k];exact List.mem_map_of_mem Z);simpa using this
 rw[f1,f2];simp
theorem x8u (hx:ev L x=some (.map (some g)))(hm:MapL V w g m)(hu:P.underlying t=some (.map K E))(hn:Nat.blt d n=true)
    (q:∀gi w',gi=w.heap.size->MapIt V w' gi g m m none->Fr [] w w'->w'.heap.size=gi+1->WL P ops Q rest n ds w' ((d,.pointer (some ⟨gi,0,none⟩))::L)):WL P ops Q (⟨some d,.range t x,ty,pos,after,none⟩::rest) n ds w L:=λa h=>by
  obtain⟨I,c,J,O,h3,Z,h5⟩:=hm
  have D:=(Array.getElem?_eq_some_iff.1 J).1
  refine z2a h U hn (w':=w.alloc (.mapIter (some g) c #[] c)) (v:=.pointer (some ⟨w.heap.size,0,none⟩)) ?_ (q _ _ U ⟨I,c,#[],?_,O,Z,h5,heap_alloc_new w _,?_,λp hp=>by cases hp⟩ (Fr.alloc [] w _) sp0 )
  · have M:=h.eval hx
    simp only[execOp,M,Sem.run_bind,run_range_map w t K E g I c hu J,Result.andThen_ok,Sem.run_pure]
  · first|exact(heap_alloc_old w _ D).trans J|exact(heap_alloc_old w _ _ D).trans J
  · rw[<-O]
    have:(leftOf I #[]).toList=I.toList:=by unfold leftOf;rw[Array.toList_filter];simp
    rw[this]
theorem v4x {gi:Nat}{rem:List (κ×Value)}{cur:Option (κ×Value)}(hx:ev L x=some (.pointer (some ⟨gi,0,none⟩)))(hi:MapIt V w gi g m rem cur)(hn:Nat.blt d n=true)
    (qt:∀(r1:List (κ×Value)) (p:κ×Value) (r2:List (κ×Value)),rem=r1++p::r2->∀w',MapIt V w' gi g m (r1++r2) (some p)->Fr [gi] w w'->w'.heap.size=w.heap.size->WL P ops Q rest n ds w' ((d,.tuple #[.bool true,V p.1,p.2])::L))
    (qf:rem=[]->WL P ops Q rest n ds w ((d,.tuple #[.bool false])::L)):WL P ops Q (⟨some d,.next x false,ty,pos,after,none⟩::rest) n ds w L:=λa h=>by
  have a3:=hi.ne
  obtain⟨I,c,D,h1,h2,h3,h4,h5,h6,h7⟩:=hi
  have a2:=(Array.getElem?_eq_some_iff.1 h5).1
  have Z:=h.eval hx
  rcases run_next_at (P:=P) w ty gi g c c D I c h5 h1 h4 (Nat.le_refl _) with ⟨e0,hr⟩|⟨e,he,w1,hw,hr⟩
  · refine z2a h U hn (w':=w) (v:=.tuple #[.bool false]) (by simp only[execOp,Z,Sem.run_bind,hr,Result.andThen_ok,Sem.run_pure]) (qf ?_)
    have:(leftOf I D).toList=[]:=List.length_eq_zero_iff.1 (by rw[Array.length_toList];exact e0)
    rw[this]at h6
    exact List.map_eq_nil_iff.1 h6.symm
  · obtain⟨l1,l2,hl⟩:=List.append_of_mem he
    rw[hl,List.map_append,List.map_cons]at h6
    obtain⟨r1,r',a5,e1,e2⟩:=List.map_eq_append_iff.1 h6.symm
    obtain⟨p,r2,a6,e3,e4⟩:=List.map_eq_cons_iff.1 e2
    obtain⟨ek,J⟩:=Prod.mk.inj e3
    have a0:e∈I.toList:=by
      have:e∈(leftOf I D).toList:=he
      unfold leftOf at this;rw[Array.toList_filter]at this;exact(List.mem_filter.1 this).1
    have a1:Fr [] w w1:=by rcases hw with rfl|rfl;exact Fr.refl _ _;exact Fr.drew _ _
    have O:w1.heap.size=w.heap.size:=by rcases hw with rfl|rfl<;>rfl
    have M:Fr [gi] w (ChangeMaps.setBlock w1 gi (.mapIter (some g) c (D.push e.born) c)):=
      (a1.weak sp0).step (S':=[gi]) ⟨rfl,rfl,rfl,by simp[ChangeMaps.setBlock],λk _ hk=>by
        simp only[ChangeMaps.setBlock]
        rw[Array.getElem?_setIfInBounds_ne (by intro e;subst e;simp at hk)]⟩ (by intro k hk _;exact hk)
    refine z2a h U hn (w':=ChangeMaps.setBlock w1 gi (.mapIter (some g) c (D.push e.born) c)) (v:=.tuple #[.bool true,e.key,e.val]) (by simp only[execOp,Z,Sem.run_bind,hr,Result.andThen_ok,Sem.run_pure]) ?_
    rw[<-ek,<-J]
    refine qt r1 p r2 (by rw[a5,a6]) _ ⟨I,c,D.push e.born,?_,h2,h3,h4,?_,?_,λp' a4=>?_⟩ M (by simp[ChangeMaps.setBlock,O])
    · exact(M.block g (Array.getElem?_eq_some_iff.1 h1).1 (by simpa using a3)).trans h1
    · simp[ChangeMaps.setBlock,O,a2]
    · rw[v4k h3 hl,List.map_append,List.map_append,<-e1,<-e4]
    · cases a4
      exact⟨e,a0,D,rfl,ek.symm,J.symm⟩
theorem x8a {gi:Nat}{rem:List (κ×Value)}{p:κ×Value}(hx:ev L x=some (.pointer (some ⟨gi,0,none⟩)))(hi:MapIt V w gi g m rem (some p))(hn:Nat.blt d n=true)
    (q:WL P ops Q rest n ds w ((d,.tuple #[V p.1,p.2])::L)):WL P ops Q (⟨some d,.entry x,ty,pos,after,none⟩::rest) n ds w L:=λa h=>by
  obtain⟨O,c,J,Z,h2,h3,h4,h5,h6,h7⟩:=hi
  obtain⟨e,he,s',rfl,M,D⟩:=h7 p U
  have I:=h.eval hx
  refine z2a h U hn (w':=w) (v:=.tuple #[V p.1,p.2]) ?_ q
  rw[<-M,<-D]
  simp only[execOp,I,Sem.run_bind,run_entry_at (P:=P) w gi g c s' O c e h5 Z he h3,Result.andThen_ok,Sem.run_pure]
end
end Go.Lw
namespace Go.G08
open Go.Lw Go.G21
section
variable {κ:Type} [DecidableEq κ] {V:κ->Value} {w w':World} {g:Nat} {m:List (κ×Value)} {S:List Nat}
theorem _root_.Go.Lw.MapL.tf {T:Nat}(h:MapL V w g m)(hf:Fr S w w')(I:OffT w T S):MapL V w' g m:=h.fr hf λJ=>by
 obtain⟨T',cs,D,_⟩:=I g J
 exact h.f.ne_blk D U
end
theorem BdO.tf {D I base:Nat}{w w':World}{q:BdQ}{S:List Nat}(h:BdO D I base w q)(hf:Fr S w w')(O:OffT w D S)(M:OffT w I S):BdO D I base w' q:=
 ⟨⟨z1v h.f.1 hf O,λp J=>z1v (h.f.2 p J) hf M⟩,⟨z1v h.b.1 hf O,λp J=>z1v (h.b.2 p J) hf M⟩⟩
structure KpM (Ts:List Nat) (g:Nat) (w w':World):Prop where
  size:w.heap.size<=w'.heap.size
  block:∀k,k<w.heap.size->k≠g->(∀(T:Nat) (cs:List Value),Blk w k T cs->T∉Ts)->w'.heap[k]?=w.heap[k]?
theorem KpM.refl (D:List Nat)(g:Nat)(w:World):KpM D g w w:=⟨Nat.le_refl _,λ_ _ _ _=>rfl⟩
theorem KpM.trans {D:List Nat}{g:Nat}{a b c:World}(h:KpM D g a b)(I:KpM D g b c):KpM D g a c:=
 ⟨Nat.le_trans h.size I.size,λk O M J=>by
  have e:=h.block k O M J
  rw[<-e]
  exact I.block k (Nat.lt_of_lt_of_le O h.size) M λT cs Z=>J T cs (e.symm.trans Z)⟩
theorem KpM.of {D:List Nat}{g:Nat}{w w':World}{S:List Nat}(hf:Fr S w w')(I:∀k∈S,k=g\/∃(T:Nat) (cs:List Value),Blk w k T cs/\T∈D):KpM D g w w':=
 ⟨hf.size,λk hk O J=>hf.block k hk λhm=>by
  rcases I k hm with e|⟨T,cs,M,Z⟩
  ·exact O e
  exact J T cs M Z⟩
theorem v9t {w:World}{k T T':Nat}{cs cs':List Value}(h:Blk w k T cs)(D:Blk w k T' cs'):T=T':=by
 have e:=(show w.heap[k]?=some (.cells cs.toArray T (0,0)) from h).symm.trans (show w.heap[k]?=some (.cells cs'.toArray T' (0,0)) from D);simp only[Option.some.injEq,Obj.cells.injEq]at e;exact e.2.1
theorem KpM.blk {D:List Nat}{g:Nat}{w w':World}(h:KpM D g w w'){k T:Nat}{cs:List Value}(hb:Blk w k T cs)(O:k≠g)(M:T∉D):Blk w' k T cs:=
 (h.block k hb.lt O λT' I J=>by rw[<-v9t hb J];exact M).trans hb
theorem KpM.map {κ:Type}[DecidableEq κ]{V:κ->Value}{em:List (κ×Value)}{I:List Nat}{g k:Nat}{w w':World}(h:KpM I g w w')(hb:MapL V w k em)(O:k≠g):MapL V w' k em:=by
 obtain⟨J,c,D,M⟩:=hb;refine⟨J,c,(h.block k (Array.getElem?_eq_some_iff.1 D).1 O λT cs hb=>?_).trans D,M⟩;have e:=(show w.heap[k]?=some (.cells cs.toArray T (0,0)) from hb).symm.trans D;cases e
theorem KpM.mapF {κ:Type}[DecidableEq κ]{V:κ->Value}{f:κ->Option Value}{I:List Nat}{g k:Nat}{w w':World}(h:KpM I g w w')(hb:MapF V w k f)(O:k≠g):MapF V w' k f:=by
 obtain⟨J,c,m,D,M⟩:=hb;refine⟨J,c,m,(h.block k (Array.getElem?_eq_some_iff.1 D).1 O λT cs hb=>?_).trans D,M⟩;have e:=(show w.heap[k]?=some (.cells cs.toArray T (0,0)) from hb).symm.trans D;cases e
theorem y6f {α:Type}{E:Enc α}{T base g:Nat}{w:World}{v:Value}{ys:List α}{D:List Nat}(h:Lw.Own E T base w v ys)(I:T∈D):∀k∈z0u v,k=g\/∃(T:Nat) (cs:List Value),Blk w k T cs/\T∈D:=λk M=>by
 obtain⟨cs,J⟩:=z4v h k M
 exact .inr ⟨T,cs,J,I⟩
theorem x8y {g k T:Nat}{w:World}{cs:List Value}{D:List Nat}(h:Blk w k T cs)(J:T∈D):∀k'∈[k],k'=g\/∃(T:Nat) (cs:List Value),Blk w k' T cs/\T∈D:=λk' I=>by
 rw[List.mem_singleton]at I;subst I
 exact .inr ⟨T,cs,h,J⟩
structure MA where
  gk:Nat
  gy:Nat
  cy:Nat
  gt:Nat
  ct:Nat
  gc:Nat
  wk:World
abbrev MA.YV (a:MA):Value:=.slice (some ⟨a.gy,0,none⟩) 6 a.cy
abbrev MA.TV (a:MA):Value:=.slice (some ⟨a.gt,0,none⟩) 6 a.ct
structure MQ where
  rk:Int
  q:BdQ
  ys:List YQ
  ts:List TQ
  cr:List Cx
  fa:SV
  fl:List LId
abbrev MQ.p (m:MQ):MSt:=⟨m.rk,m.q.p,m.ys.map YQ.p,z1r m.ts,m.cr,m.fl⟩
abbrev u6m (a:MA)(m:MQ):List Value:=[.int .i64 m.rk,.slice m.q.f.1 m.q.f.2.1 m.q.f.2.2,.slice m.q.b.1 m.q.b.2.1 m.q.b.2.2,a.YV,a.TV,.map (some a.gc),.slice m.fa.1 m.fa.2.1 m.fa.2.2]
def crK (p:LId×LId):Value:=.agg #[.int .u8 p.1.y,.int .i64 p.1.n,.int .u8 p.2.y,.int .i64 p.2.n]
def crM (l:List Cx):List ((LId×LId)×Value):=l.map λc=>((c.a,c.b),.int .i64 c.n)
structure MtOk (τ:TyK) (Mt:Nat):Prop where
  o:τ.Ok
  y:Mt≠τ.Y
  t:Mt≠τ.T
  l:Mt≠τ.L
  i:Mt≠τ.I
  p:Mt≠τ.P
  s:Mt≠τ.S
abbrev u0q (τ:TyK)(Mt:Nat):List Nat:=[Mt,τ.Y,τ.T,τ.L,τ.I]
structure FrM (τ:TyK) (Mt:Nat) (wS:World) (a:MA) (w:World):Prop where
  fr:Fr [] wS w
  kp:KpM (u0q τ Mt) a.gc a.wk w
theorem FrM.size {τ:TyK}{Mt:Nat}{wS w:World}{a:MA}(h:FrM τ Mt wS a w):wS.heap.size<=w.heap.size:=h.fr.size
theorem FrM.next {τ:TyK}{Mt:Nat}{wS w w':World}{a:MA}(h:FrM τ Mt wS a w)(hf:Fr [] w w'):FrM τ Mt wS a w':=⟨h.fr.next hf,h.kp.trans (KpM.of hf sp0)⟩
theorem FrM.step {τ:TyK}{Mt:Nat}{wS w w':World}{a:MA}{S:List Nat}(h:FrM τ Mt wS a w)(hf:Fr S w w')(I:∀k∈S,k=a.gc\/∃(T:Nat) (cs:List Value),Blk w k T cs/\T∈u0q τ Mt)(D:∀k∈S,k<wS.heap.size->k∈([]:List Nat)):FrM τ Mt wS a w':=⟨h.fr.step hf D,h.kp.trans (KpM.of hf I)⟩
structure MkM (τ:TyK) (Mt:Nat) (wS:World) (a:MA) (w:World) (m:MQ):Prop where
  k:Blk w a.gk Mt (u6m a m)
  b:BdO τ.S τ.I wS.heap.size w m.q
  y:YsO τ wS.heap.size w a.YV m.ys
  t:TbO τ wS.heap.size w a.TV m.ts
  c:MapL crK w a.gc (crM m.cr)
  f:Lw.Own z1f τ.I wS.heap.size w (slv m.fa) m.fl
  fb:∀s∈m.q.fs++m.q.bs,∀k∈z0u (slv s.1),k∉z0u (slv m.fa)
  ft:∀i,i<6->∀q∈(m.ts.getD i tq0).2,∀k∈z0u (slv q.th),k∉z0u (slv m.fa)
  ly:m.ys.length=6
  lt:m.ts.length=6
  gk:wS.heap.size<=a.gk
  gc:wS.heap.size<=a.gc
  fr:FrM τ Mt wS a w
def MRet (τ:TyK)(Mt:Nat)(wS:World)(a:MA)(x:MR)(r:Value)(w':World):Prop:=
  FrM τ Mt wS a w'/\match x with
    | .error e=>r=.int .i64 e/\e≠0
    | .ok p=>r=.int .i64 0/\∃m,MkM τ Mt wS a w' m/\m.p=p
section
variable {τ:TyK} {Mt:Nat} {wS w w':World} {a:MA} {m:MQ} {j:Nat} {y:YQ}
theorem MRet.err {x:MR}{e:Int}{w':World}(I:x=.error e)(D:e≠0)(hf:FrM τ Mt wS a w'):MRet τ Mt wS a x (.int .i64 e) w':=by subst I;exact⟨hf,rfl,D⟩
theorem MRet.ok {x:MR}{m:MQ}{w':World}(D:x=.ok m.p)(h:MkM τ Mt wS a w' m):MRet τ Mt wS a x (.int .i64 0) w':=by subst D;exact⟨h.fr,rfl,m,h,rfl⟩
theorem MkM.ext (h:MkM τ Mt wS a w m)(hf:Fr [] w w'):MkM τ Mt wS a w' m:=
 ⟨h.k.ext hf,h.b.ext hf,h.y.ext hf,h.t.ext hf,h.c.fr hf sp0,h.f.ext hf,h.fb,h.ft,h.ly,h.lt,h.gk,h.gc,h.fr.next hf⟩
theorem MkM.yarn (h:MkM τ Mt wS a w m)(D:MtOk τ Mt)(J:j<6)(ho:Lw.Own z3a τ.Y wS.heap.size w' a.YV (m.ys.set j y))(hf:Fr [a.gy] w w')(hp:Lw.Own z2e τ.P wS.heap.size w (slv y.pe) y.pes):MkM τ Mt wS a w' { m with ys:=m.ys.set j y }:=by
 have o:∀T,T≠τ.Y->OffT w T [a.gy]:=λT I=>z5c h.y.out (Ne.symm I);refine⟨y2d h.k hf (o _ D.y),BdO.tf h.b hf (o _ (Ne.symm D.o.ys)) (o _ (Ne.symm D.o.yi)),h.y.put (by rw[h.ly];exact J) D.o ho hf hp,h.t.tf hf (o _ (Ne.symm D.o.yt)) (o _ (Ne.symm D.o.yl)) (o _ (Ne.symm D.o.yi)) (o _ (Ne.symm D.o.yp)),h.c.tf hf (o _ D.y),z1v h.f hf (o _ (Ne.symm D.o.yi)),h.fb,h.ft,by rw[List.length_set];exact h.ly,h.lt,h.gk,h.gc,h.fr.step hf (y6f h.y.out (by simp[u0q])) λk M O=>?_⟩;have:=(h.y.out.blk k M).1;omega
theorem MkM.beds {q:BdQ}{r:Int}(h:MkM τ Mt wS a w m)(D:MtOk τ Mt)(Z:BdO τ.S τ.I wS.heap.size w q)(J:Blk w' a.gk Mt (u6m a { m with q:=q,rk:=r }))(hf:Fr [a.gk] w w')(I:∀s∈q.fs++q.bs,∀k∈z0u (slv s.1),k∉z0u (slv m.fa)):MkM τ Mt wS a w' { m with q:=q,rk:=r }:=by
 have o:∀T,T≠Mt->OffT w T [a.gk]:=λT M=>OffT.one h.k (Ne.symm M);refine⟨J,BdO.tf Z hf (o _ (Ne.symm D.s)) (o _ (Ne.symm D.i)),h.y.tf hf (o _ (Ne.symm D.y)) (o _ (Ne.symm D.p)),h.t.tf hf (o _ (Ne.symm D.t)) (o _ (Ne.symm D.l)) (o _ (Ne.symm D.i)) (o _ (Ne.symm D.p)),h.c.tf hf (o _ (Ne.symm D.y)),z1v h.f hf (o _ (Ne.symm D.i)),I,h.ft,h.ly,h.lt,h.gk,h.gc,h.fr.step hf (x8y h.k (by simp[u0q])) λk J O=>?_⟩;rw[List.mem_singleton]at J;have:=h.gk;omega
theorem x2d {M I:Nat}{q:BdQ}{v:Value}{ys:List LId}{T base b:Nat}(J:BdO M I b w' q)(Z:Lw.Own z1f T base w v ys)(hb:w.heap.size<=b):∀s∈q.fs++q.bs,∀k∈z0u (slv s.1),k∉z0u v:=λs O k D hb=>by
 have:=(Z.blk k hb).2
 rcases List.mem_append.1 O with e|e
 ·have:=((J.f.2 s e).blk k D).1;omega
 have:=((J.b.2 s e).blk k D).1;omega
theorem MkM.fall {w2:World}{u:SV}{l:List LId}(h:MkM τ Mt wS a w m)(D:MtOk τ Mt)(a0:τ.I≠τ.P)(h1:Lw.Own z1f τ.I wS.heap.size w' (slv u) l)(I:Fr (z0u (slv m.fa)) w w')(hx:∀k∈z0u (slv u),k∈z0u (slv m.fa)\/w.heap.size<=k)
    (J:Blk w2 a.gk Mt (u6m a { m with fa:=u,fl:=l })) (f2:Fr [a.gk] w' w2):MkM τ Mt wS a w2 { m with fa:=u,fl:=l }:=by
  have Z:∀T,T≠τ.I->OffT w T (z0u (slv m.fa)):=λT hT=>z5c h.f (Ne.symm hT)
  have k1:=y2d h.k I (Z _ D.i)
  have M:∀T,T≠Mt->OffT w' T [a.gk]:=λT hT=>OffT.one k1 (Ne.symm hT)
  have dx:∀ {v:Value} {xs:List LId},Lw.Own z1f τ.I wS.heap.size w v xs->(∀k∈z0u v,k∉z0u (slv m.fa))->∀k∈z0u v,k∉z0u (slv u):=λho hd k J hb=>by
    rcases hx k hb with e|e
    · exact hd k J e
    · have:=(ho.blk k J).2;omega
  have fi:∀ {v:Value} {xs:List LId},Lw.Own z1f τ.I wS.heap.size w v xs->(∀k∈z0u v,k∉z0u (slv m.fa))->Lw.Own z1f τ.I wS.heap.size w2 v xs:=λho hd=>z1v (ho.fr I λk J hb=>hd k hb J) f2 (M _ (Ne.symm D.i))
  have a2:∀s∈m.q.fs,Lw.Own z1f τ.I wS.heap.size w2 (slv s.1) s.2:=λs O=>fi (h.b.f.2 s O) (h.fb s (List.mem_append.2 (.inl O)))
  have a1:∀s∈m.q.bs,Lw.Own z1f τ.I wS.heap.size w2 (slv s.1) s.2:=λs O=>fi (h.b.b.2 s O) (h.fb s (List.mem_append.2 (.inr O)))
  refine⟨J,⟨⟨z1v (z1v h.b.f.1 I (Z _ D.o.si)) f2 (M _ (Ne.symm D.s)),a2⟩,⟨z1v (z1v h.b.b.1 I (Z _ D.o.si)) f2 (M _ (Ne.symm D.s)),a1⟩⟩,
    (h.y.tf I (Z _ D.o.yi) (Z _ (Ne.symm a0))).tf f2 (M _ (Ne.symm D.y)) (M _ (Ne.symm D.p)),
    ⟨z1v (z1v h.t.out I (Z _ D.o.ti)) f2 (M _ (Ne.symm D.t)),λi hi=>z1v (z1v (h.t.ins i hi) I (Z _ D.o.li)) f2 (M _ (Ne.symm D.l)),h.t.off,λi hi q hq=>⟨fi (h.t.lps i hi q hq).1 (h.ft i (by rw[<-h.lt];exact hi) q hq),z1v (z1v (h.t.lps i hi q hq).2 I (Z _ (Ne.symm a0))) f2 (M _ (Ne.symm D.p))⟩⟩,
    (h.c.tf I (Z _ D.i)).tf f2 (M _ (Ne.symm D.y)),z1v h1 f2 (M _ (Ne.symm D.i)),λs O=>?_,λi hi q hq=>dx (h.t.lps i (by rw[h.lt];exact hi) q hq).1 (h.ft i hi q hq),h.ly,h.lt,h.gk,h.gc,(h.fr.step I (y6f h.f (by simp[u0q])) λk J a3=>?_).step f2 (x8y k1 (by simp[u0q])) λk J a3=>?_⟩
  · rcases List.mem_append.1 O with e|e
    · exact dx (h.b.f.2 s e) (h.fb s O)
    · exact dx (h.b.b.2 s e) (h.fb s O)
  · have:=(h.f.blk k J).1;omega
  · rw[List.mem_singleton]at J;have:=h.gk;omega
theorem MkM.mark (h:MkM τ Mt wS a w m):MkM τ Mt wS { a with wk:=w } w m:=⟨h.k,h.b,h.y,h.t,h.c,h.f,h.fb,h.ft,h.ly,h.lt,h.gk,h.gc,⟨h.fr.fr,KpM.refl _ _ _⟩⟩
theorem MkM.unmark (h:MkM τ Mt wS { a with wk:=w } w' m)(D:FrM τ Mt wS a w):MkM τ Mt wS a w' m:=⟨h.k,h.b,h.y,h.t,h.c,h.f,h.fb,h.ft,h.ly,h.lt,h.gk,h.gc,⟨h.fr.fr,D.kp.trans h.fr.kp⟩⟩
def k0d (x:MR):Int:=match x with
  | .error e=>e
  | .ok _=>0
theorem MRet.split {x:MR}{r:Value}(h:MRet τ Mt wS a x r w'):r=.int .i64 (k0d x)/\FrM τ Mt wS a w'/\∃J,k0d x=0->MkM τ Mt wS a w' J/\x=.ok J.p:=by
 obtain⟨I,D⟩:=h;cases x with
 | error e=>exact⟨D.1,I,⟨0,⟨sv0,sv0,[],[]⟩,[],[],[],sv0,[]⟩,λM=>absurd M D.2⟩
 | ok p=>exact⟨D.1,I,D.2.choose,λ_=>⟨D.2.choose_spec.1,congrArg Except.ok D.2.choose_spec.2.symm⟩⟩
theorem y2h {x:MR}(h:k0d x≠0):x=.error (k0d x):=by cases x with
 | error e=>rfl
 | ok p=>exact absurd U h
theorem y1y (b n r:Int):-400<=z2h b n r/\z2h b n r<=400:=by
 unfold z2h;split;omega;rename_i h;have D:z2v b n=0:=Classical.not_not.1 λe=>h (.inl e);have I:-4<=r/\r<=4:=Classical.not_not.1 λe=>h (.inr e);have:=z2o D;split<;>omega
def OwnIf {α:Type}(c:Prop)(E:Enc α)(T base:Nat)(w:World)(v:Value)(ys:List α):Prop:=c->Lw.Own E T base w v ys
theorem OwnIf.fr {α:Type}{c:Prop}{E:Enc α}{T base:Nat}{w w':World}{v:Value}{ys:List α}{S:List Nat}(h:OwnIf c E T base w v ys)(hf:Fr S w w')(hn:c->∀k∈S,k∉z0u v:=by simp[z0u]<;>omega):OwnIf c E T base w' v ys:=λD=>(h D).fr hf (hn D)
theorem OwnIf.ext {α:Type}{c:Prop}{E:Enc α}{T base:Nat}{w w':World}{v:Value}{ys:List α}(h:OwnIf c E T base w v ys)(hf:Fr [] w w'):OwnIf c E T base w' v ys:=λD=>(h D).ext hf
theorem j8p (m:MQ)(y:Int):m.p.y y=(m.ys.getD (y-1).toNat yq0).p:=by
 unfold MSt.y;rw[List.getD,List.getD,List.getElem?_map];cases m.ys[(y-1).toNat]?<;>rfl
theorem y1a {y:Int}(m:MQ)(q:YQ)(D:(y-1).toNat=j):{ m with ys:=m.ys.set j q }.p=m.p.setY y q.p:=by
 subst D;unfold MSt.setY MQ.p;simp only[List.map_set]
end
end Go.G08
namespace Go.Proofs.YtjilcnmaefhmeaaGreatDoor
open Go.Lw Go.G21 Go.G08 _root_.Go.Proofs.Tryz
theorem x3p (q:YQ)(w0:World)(hp:Sl z2e w0 (slv q.pe) q.pes):Rets prog 145 #[.agg #[.bool q.inn,.int .i64 q.pl,.int .i64 q.ct,.bool q.nw,.slice q.pe.1 q.pe.2.1 q.pe.2.2]] w0 λr w'=>∃J:YQ,r=.tuple #[.agg #[.bool J.inn,.int .i64 J.pl,.int .i64 J.ct,.bool J.nw,.slice J.pe.1 J.pe.2.1 J.pe.2.2],.int .i64 (lvE q.p)]/\(lvE q.p=0->J=⟨false,0,q.ct,false,sv0,[]⟩)/\Fr [] w0 w':=by
 have a4:=z1z hp;have a1:=hp.len_le;unfold maxLen at a1;refine we [(0,.agg #[.bool q.inn,.int .i64 q.pl,.int .i64 q.ct,.bool q.nw,.slice q.pe.1 q.pe.2.1 q.pe.2.2])] func145 U ntmps145 U (.cons U .nil) ?_;have a0:=hp;refine sr (bx U (λg1 w1 a2 I q1 z1=>(al y3y U (λg2 w2 a3 D q2 z2=>(asg U (nn (sq (sr ?_))))))));replace I:=I.ext q2;refine z0n U I z7g ?_;replace hp:=a0.ext (q1.n1 q2);refine cl (ev1 U) j9f (z8q q _ hp) U ?_;rintro _ w3 ⟨rfl,O⟩;refine asg U (nn (sr (mv U U (ne' U (nn (cd U (λZ=>?_) (λZ=>?_)))))));refine sr (z1y (cs:=[_,_,_,_,_]) z0f x3n z0s U ?_);refine mv U U ?_;replace D:=D.ext O;refine z0k (vs:=[_,_,_,_,_]) U D z7i (λw4 D q4 z4=>(asg U (nn (rt (tr (rCT results145 U D z7g U ?_))))));have M:lvE q.p=ynE q.p:=by unfold lvE;rw[if_pos Z]
 exact⟨_,rfl,yq0,by rw[M];rfl,(λh=>absurd h (by rw[M];exact Z)),(q1.z3 q2 O q4)⟩;refine sk (tn (sq (sr (fad U y1p ?_))));replace I:=I.ext O;refine z0i U I U na4 (nt' U (nn (cd U (λc1=>?_) (λc1=>?_))));refine sr (z1y (cs:=[_,_,_,_,_]) z0f x3n z0s U ?_);replace D:=D.ext O;refine z0k (vs:=[_,_,_,_,_]) U D z7i (λw5 D q5 z5=>(asg U (nn (rt (tr (rCT results145 U D z7g U ?_))))));have M:lvE q.p=12:=by unfold lvE;rw[if_neg Z,if_pos (by simpa using c1)]
 exact⟨_,rfl,yq0,by rw[M];rfl,(λh=>absurd h (by rw[M];decide)),(q1.z3 q2 O q5)⟩;refine sk (tn (sr (fad U y1q (z0i U I U na3 (z1y (cs:=[_,_,_,_,_]) (ev1 U) x3n (z0g U z0s) U ?_)))));replace D:=D.ext O;refine z0k (vs:=[_,_,_,_,_]) U D z7i (λw6 D q6 z6=>(asg U (nn (rt (rCT results145 U D z7g U ?_)))));have M:lvE q.p=0:=by unfold lvE;rw[if_neg Z,if_neg (by simpa using c1)]
 exact⟨_,rfl,⟨false,0,q.ct,false,sv0,[]⟩,by rw[M];rfl,(λ_=>rfl),(q1.z3 q2 O q6)⟩
theorem j6q (v:Value)(l:List Int)(w0:World)(I:Sl Enc.i64 w0 v l)(hl:l.length<=1000):Rets prog 66 #[v] w0 λr w'=>r=.int .i64 (orZ l)/\Fr [] w0 w':=by
 obtain⟨A,c,rfl,a0,hM,hA⟩:=id I;clear hA;unfold maxLen at hM;refine we [(0,.slice A l.length c)] func66 U ntmps66 U (.cons U .nil) ?_;have M:=I;refine sr (asg U (nn (sr (asg U (nn (sq (sr (mv U U (lnS U underlying154 (mv U U (nn (bl (lpK (ι:=Nat) [(3,_),(6,_),(7,_)] (λi=>[(8,.int .i64 (i:Int))]) (λi w'=>Fr [] w0 w'/\i<=l.length/\∀j,j<i->l.getD j 0=0) (λi=>l.length-i) 0 (.c4 U U U U) ⟨Fr.refl _ _,⟨Nat.zero_le _,λj h=>absurd h oo⟩⟩ ?_)))))))))))));rintro i w1 ⟨J,⟨hi,O⟩⟩;refine kpC [(3,_),(6,_),(7,_),(8,_)] (.c4 U U U U) (sr (lt' U (nn (sq (cd U (λc0=>?_) (λc0=>?_))))));refine sk (tn (sq (bl (sr ?_))));replace I:=M.ext J;refine z1d (0) U I U z7l z1g (λZ D=>?_);refine z1k U (D _ I) na3 (asg U (nn (sr (mv U U (mv U U (ne' U (nn (cd U (λc1=>?_) (λc1=>?_)))))))));refine sr (mv U U (asg U (kpL [(2,_)] (.cons U .nil) (nn (rt (rb (tr (tr (rb (tr (r1 results66 U ?_)))))))))));exact⟨_,rfl,congrArg (Value.int .i64) (v3j oo O oo).symm,J⟩;refine sk (bn' (tn (rg (z1b U (wi6 oo) (mv U U (nl ?_))))));exact lpE (i+1) (.c4 U U U U) ⟨J,⟨oo,λj h=>by
  by_cases e:j=i;subst e;omega;exact O j oo⟩⟩ oo
 obtain rfl:i=l.length:=by omega
 refine ex (te (te (xh (tn (sr (mv U U (asg U (kpL [(2,_)] (.cons U .nil) (nn (rt (r1 results66 U ?_)))))))))));exact⟨_,rfl,congrArg (Value.int .i64) (y9p O).symm,J⟩
theorem y1u (O Z:LId)(w0:World):Rets prog 69 #[.agg #[.int .u8 O.y,.int .i64 O.n],.agg #[.int .u8 Z.y,.int .i64 Z.n]] w0 λr w'=>r=.int .i64 (z6q O Z)/\Fr [] w0 w':=by
 refine we [(0,.agg #[.int .u8 O.y,.int .i64 O.n]),(1,.agg #[.int .u8 Z.y,.int .i64 Z.n])] func69 U ntmps69 U (.c2 U U) (sr (bx U (λg2 w1 a3 J q1 z1=>(bx U (λg3 w2 a4 M q2 z2=>(asg U (nn (sq ?_))))))));intro a h;refine z0h none (λwb w'=>Fr [] wb w') z2m ?_;intro w3 q3;replace J:=J.ext (q2.n1 q3);replace M:=M.ext q3;have hC:Fr [] w3 w3:=Fr.refl _ _;have D:=J;have I:=M;refine z0c 0 h U z5v U λa h=>z0j 1 h U (λ_ hw=>D.ext hw) U na5 U λa h=>z0c 2 h U z5v U λa h=>z0j 3 h U (λ_ hw=>I.ext hw) U na5 U λa h=>z0c 5 h U z6g U λa h=>z0j 6 h U (λ_ hw=>D.ext hw) U na3 U λa h=>z0c 7 h U z6g U λa h=>z0j 8 h U (λ_ hw=>I.ext hw) U na3 U λa h=>z0d 4 U (z0o h (z0a U (z0a U z0f)) (mkC func131) (j9y _ _ _) ?_);rintro _ w4 ⟨rfl,q4⟩ a h;replace hC:=hC.next q4;refine z0b (z0d 9 U (z0o h (z0a U (z0a U z0f)) (mkC func67) (v7x _ _ _) ?_));rintro _ w5 ⟨rfl,q5⟩ a h;replace J:=J.ext (q4.n1 q5);replace M:=M.ext (q4.n1 q5);replace hC:=hC.next q5;refine z0b (z0d 10 U (z2s ([z6c O.y Z.y,z6c O.n Z.n]) h (z0a U (z0a U z0f)) U z7l λa1 w6 hg a2 q6 hz a h=>?_));have a0:g2<a1:=by have:=J.lt;omega
 have a0:g3<a1:=by have:=M.lt;omega
 replace hC:=hC.next q6;refine z0b (z0d 11 U (z0o h (z0a U z0f) (mkC func66) (j6q _ [z6c O.y Z.y,z6c O.n Z.n] _ a2.sl sp0) ?_));rintro _ w7 ⟨rfl,q7⟩ a h;replace hC:=hC.next q7;refine z0b (z0d 12 U (z0r h U λa h=>?_));refine z0b (z0p ?_);clear hC D I;refine bk (h.sub (L':=[(4,_)]) (.cons U .nil)) (tn (rt (r1 results69 U ?_)));exact⟨_,rfl,congrArg (Value.int .i64) (x9m O Z),(q1.n6 q2 q3 q4 q5 q6 q7)⟩
theorem y4n:ElemOf prog 51 95 z3a 56:=ElemOf.mk' (z:=(.agg #[.bool false,.int .i64 0,.int .i64 0,.bool false,.slice none 0 0])) underlying51 kr U
theorem z3e:z0y prog 183 2 3:=λ_ _=>kr
theorem y4d:z2c prog 51:=λ_=>kr
abbrev τd:TyK:=⟨95,34,107,73,97,27,55⟩
theorem τd_ok:τd.Ok:=by constructor<;>decide
theorem mtd:MtOk τd 183:=⟨τd_ok,dd,dd,dd,dd,dd,dd⟩
theorem k0h (wS:World)(ka:MA)(m:MQ)(o:MOp)(w0:World)(hM:MkM τd 183 wS ka w0 m)(hy:1<=o.y/\o.y<=6):Rets prog 92 #[.pointer (some ⟨ka.gk,0,none⟩),opV o] w0 λr w'=>MRet τd 183 wS ka (inM m.p o) r w':=by
 have d4:=hM.fr.size;have O:=hM.k;have c9:=O.lt;have d1:=hM.ly;have d0:=hM.lt;have b9:=(hM.y.out.blk ka.gy (by simp[z0u])).2;obtain⟨j,hj,d3⟩:∃j:Nat,j<6/\o.y=(j:Int)+1:=⟨(o.y-1).toNat,oo,oo⟩;have b0:(o.y-1).toNat=j:=by omega
 have a8:m.p.y o.y=(m.ys.getD j yq0).p:=by rw[j8p,b0]
 refine we [(0,.pointer (some ⟨ka.gk,0,none⟩)),(1,opV o)] func92 U ntmps92 U (.c2 U U) ?_;have a3:=hM;refine sr (bx U (λg3 w1 c1 D q1 z1=>(asg U (nn (sq ?_)))));replace hM:=a3.ext q1;intro a h;refine z0h none (λwb w'=>Fr [] wb w') z2m ?_;intro w2 q2;have z2:=q2.size;replace hM:=hM.ext q2;replace O:=O.ext (q1.n1 q2);replace D:=D.ext q2;have hC:Fr [] w2 w2:=Fr.refl _ _;have Z:=hM;have M:=O;have I:=D;refine z0e 0 h U λa h=>z0l 1 h U λa h=>z0c 2 h U z3e U λa h=>z0j 3 h U (λ_ hw=>M.ext hw) U y4d U λa h=>z0c 4 h U z3i U λa h=>z0j 5 h U (λ_ hw=>I.ext hw) U na5 U λa h=>z2w 6 h wn U (by first|exact IntWalk.u8_in _ oo|rfl) U λa h=>z1i (p:=j) (yq0) 7 h U hM.y.out.sl U y4n U λb8 b4 a h=>z2q (cs:=z3a.enc (m.ys.getD j yq0)) 8 h wn U (λ_ hw=>b4 _ (Z.ext hw).y.out.sl) z7g U λa h=>z0c 9 h U z8m U λa h=>z0j 10 h U (λ_ hw=>I.ext hw) U x1h U λa h=>?_;refine z1x 11 15 kr U ?_ ?_;refine z0o h (z0a U (z0a U z0f)) (mkC func144) (x2u (m.ys.getD j yq0) o.d _ (hM.y.ins j oo).sl) ?_;rintro _ w3 ⟨qn,rfl,a6,q3⟩ a h;have z3:=q3.size;replace O:=O.ext q3;replace D:=D.ext q3;replace hC:=hC.next q3;refine z0b (z0e 12 h U λa h=>z0m 13 h U λa h=>z0m 14 h U λa h=>z0d 15 U (z0w h y3y U λw4 J q4 hz a h=>?_));obtain⟨a2,hg⟩:∃g,g=w3.heap.size:=⟨_,rfl⟩;rw[<-hg]at J h hz;have b6.gk_5:ka.gk<a2:=by have:=O.lt;omega
 have b3:g3<a2:=by have:=D.lt;omega
 have z4:=q4.size;replace hM:=hM.ext (q3.n1 q4);replace O:=O.ext q4;replace D:=D.ext q4;replace hC:=hC.next q4;refine z0b (z0d 16 U (z0t h U J U z7i ?_ (h1:=(by first|(simp[Value.oneCell',S];done)|exact z3a.one (m.ys.getD j yq0)))));clear h a;intro w5 a5 q5 hz a h;have z5:=q5.size;replace O:=O.fr q5;replace D:=D.fr q5;replace hC:=hC.sp q5;clear J hz;have J:Blk w5 a2 _ [_,_,_,_,_]:=a5;clear a5;refine z0b (z0d 17 U (z0r h U λa h=>?_));refine z0b (z0p ?_);clear hC Z M I;refine bk (h.sub (L':=[(0,_),(3,_),(5,_),(6,_)]) (.c4 U U U U)) (tn (sq (sr (mv U U (eq' U (nn (cd U (λc0=>?_) (λc0=>?_))))))));obtain rfl:=a6 c0;replace hM:=a3.ext (q1.z4 q2 q3 q4 q5);intro a h;refine z0h (some 9) (λwb w'=>Fr [] wb w') z2m ?_;intro w6 q6;have z6:=q6.size;replace hM:=hM.ext q6;replace O:=O.ext q6;replace D:=D.ext q6;replace J:=J.ext q6;have hC:Fr [] w6 w6:=Fr.refl _ _;have Z:=hM;have M:=O;have I:=D;have a0:=J;refine z0e 0 h U λa h=>z0l 1 h U λa h=>z0c 2 h U z3e U λa h=>z0j 3 h U (λ_ hw=>M.ext hw) U y4d U λa h=>z0c 4 h U z3i U λa h=>z0j 5 h U (λ_ hw=>I.ext hw) U na5 U λa h=>z2w 6 h wn U (by first|exact IntWalk.u8_in _ oo|rfl) U λa h=>z0v 7 h U (λ_ hw=>a0.ext hw) z7g U λa h=>z1p 8 kr kr kr hC (p:=j) h wn U y4n oo oo oo U U λa h=>z0d 9 U (z1c (i:=j) (⟨true,if o.d=1 then 179 else -13,(m.ys.getD j yq0).ct,true,sv0,[]⟩:YQ) h U hM.y.out (by rw[hM.ly];exact hj) U z7i λw7 a1 q7 _hz a h=>?_);replace hM:=hM.yarn mtd hj a1 q7 (Own.nil _);have a3:=hM;clear a1;have z7:=q7.size;replace D:=D.fr q7;replace J:=J.fr q7;have O:=hM.k;clear _hz;refine z1m (z0p ?_);clear hC Z M I a0;refine bk (h.sub (L':=[(6,_)]) (.cons U .nil)) (tn (sr (mv U U (asg U (nn (rt (r1 results92 U ?_)))))));exact⟨_,rfl,by rw[c0];exact MRet.ok (by unfold inM;rw[a8,if_neg (λe=>e c0)];exact congrArg Except.ok (y1a m (⟨true,if o.d=1 then 179 else -13,(m.ys.getD j yq0).ct,true,sv0,[]⟩:YQ) b0).symm) hM⟩;refine sk (tn (sr (mv U U (asg U (kpL [(4,_)] (.cons U .nil) (nn (rt (r1 results92 U ?_))))))));replace hM:=a3.ext (q1.z4 q2 q3 q4 q5);exact⟨_,rfl,MRet.err (by unfold inM;rw[a8,if_pos c0]) c0 hM.fr⟩;refine z0w h y3y U λw8 J q8 hz a h=>?_;obtain⟨a2,hg⟩:∃g,g=w2.heap.size:=⟨_,rfl⟩;rw[<-hg]at J h hz;have b6.gk_5:ka.gk<a2:=by have:=O.lt;omega
 have b3:g3<a2:=by have:=D.lt;omega
 have z8:=q8.size;replace hM:=hM.ext q8;replace hC:=hC.next q8;refine z0b (z0d 11 U (z0o h (z0a U (z0a U z0f)) (mkC func144) (x2u (m.ys.getD j yq0) o.d _ (hM.y.ins j oo).sl) ?_));rintro _ w9 ⟨qn,rfl,a6,q9⟩ a h;have z9:=q9.size;replace hM:=hM.ext q9;replace O:=O.ext (q8.n1 q9);replace D:=D.ext (q8.n1 q9);replace J:=J.ext q9;replace hC:=hC.next q9;refine z0b (z0e 12 h U λa h=>z0m 13 h U λa h=>z0m 14 h U λa h=>z0d 16 U (z0t h U J U z7i ?_ (h1:=(by first|(simp[Value.oneCell',S];done)|exact z3a.one (m.ys.getD j yq0)))));clear h a;intro b7 a5 a4 hz a h;have d6:=a4.size;replace O:=O.fr a4;replace D:=D.fr a4;replace hC:=hC.sp a4;clear J hz;have J:Blk b7 a2 _ [_,_,_,_,_]:=a5;clear a5;refine z0b (z0d 17 U (z0r h U λa h=>?_));refine z0b (z0p ?_);clear hC Z M I;refine bk (h.sub (L':=[(0,_),(3,_),(5,_),(6,_)]) (.c4 U U U U)) (tn (sq (sr (mv U U (eq' U (nn (cd U (λc0=>?_) (λc0=>?_))))))));obtain rfl:=a6 c0;replace hM:=a3.ext (q1.z4 q2 q8 q9 a4);intro a h;refine z0h (some 9) (λwb w'=>Fr [] wb w') z2m ?_;intro b5 a7;have d7:=a7.size;replace hM:=hM.ext a7;replace O:=O.ext a7;replace D:=D.ext a7;replace J:=J.ext a7;have hC:Fr [] b5 b5:=Fr.refl _ _;have Z:=hM;have M:=O;have I:=D;have a0:=J;refine z0e 0 h U λa h=>z0l 1 h U λa h=>z0c 2 h U z3e U λa h=>z0j 3 h U (λ_ hw=>M.ext hw) U y4d U λa h=>z0c 4 h U z3i U λa h=>z0j 5 h U (λ_ hw=>I.ext hw) U na5 U λa h=>z2w 6 h wn U (by first|exact IntWalk.u8_in _ oo|rfl) U λa h=>z0v 7 h U (λ_ hw=>a0.ext hw) z7g U λa h=>z1p 8 kr kr kr hC (p:=j) h wn U y4n oo oo oo U U λa h=>z0d 9 U (z1c (i:=j) (⟨true,if o.d=1 then 179 else -13,(m.ys.getD j yq0).ct,true,sv0,[]⟩:YQ) h U hM.y.out (by rw[hM.ly];exact hj) U z7i λd5 a1 a9 _hz a h=>?_);replace hM:=hM.yarn mtd hj a1 a9 (Own.nil _);have a3:=hM;clear a1;have d9:=a9.size;replace D:=D.fr a9;replace J:=J.fr a9;have O:=hM.k;clear _hz;refine z1m (z0p ?_);clear hC Z M I a0;refine bk (h.sub (L':=[(6,_)]) (.cons U .nil)) (tn (sr (mv U U (asg U (nn (rt (r1 results92 U ?_)))))));exact⟨_,rfl,by rw[c0];exact MRet.ok (by unfold inM;rw[a8,if_neg (λe=>e c0)];exact congrArg Except.ok (y1a m (⟨true,if o.d=1 then 179 else -13,(m.ys.getD j yq0).ct,true,sv0,[]⟩:YQ) b0).symm) hM⟩;refine sk (tn (sr (mv U U (asg U (kpL [(4,_)] (.cons U .nil) (nn (rt (r1 results92 U ?_))))))));replace hM:=a3.ext (q1.z4 q2 q8 q9 a4);exact⟨_,rfl,MRet.err (by unfold inM;rw[a8,if_pos c0]) c0 hM.fr⟩
theorem j1e (wS:World)(ka:MA)(m:MQ)(o:MOp)(w0:World)(hM:MkM τd 183 wS ka w0 m)(hy:1<=o.y/\o.y<=6):Rets prog 93 #[.pointer (some ⟨ka.gk,0,none⟩),opV o] w0 λr w'=>MRet τd 183 wS ka (x6s m.p o) r w':=by
 have d4:=hM.fr.size;have O:=hM.k;have c9:=O.lt;have d1:=hM.ly;have d0:=hM.lt;have b9:=(hM.y.out.blk ka.gy (by simp[z0u])).2;obtain⟨j,hj,d3⟩:∃j:Nat,j<6/\o.y=(j:Int)+1:=⟨(o.y-1).toNat,oo,oo⟩;have b0:(o.y-1).toNat=j:=by omega
 have a8:m.p.y o.y=(m.ys.getD j yq0).p:=by rw[j8p,b0]
 refine we [(0,.pointer (some ⟨ka.gk,0,none⟩)),(1,opV o)] func93 U ntmps93 U (.c2 U U) ?_;have a3:=hM;refine sr (bx U (λg3 w1 c1 D q1 z1=>(asg U (nn (sq ?_)))));replace hM:=a3.ext q1;intro a h;refine z0h none (λwb w'=>Fr [] wb w') z2m ?_;intro w2 q2;have z2:=q2.size;replace hM:=hM.ext q2;replace O:=O.ext (q1.n1 q2);replace D:=D.ext q2;have hC:Fr [] w2 w2:=Fr.refl _ _;have Z:=hM;have M:=O;have J:=D;refine z0e 0 h U λa h=>z0l 1 h U λa h=>z0c 2 h U z3e U λa h=>z0j 3 h U (λ_ hw=>M.ext hw) U y4d U λa h=>z0c 4 h U z3i U λa h=>z0j 5 h U (λ_ hw=>J.ext hw) U na5 U λa h=>z2w 6 h wn U (by first|exact IntWalk.u8_in _ oo|rfl) U λa h=>z1i (p:=j) (yq0) 7 h U hM.y.out.sl U y4n U λb8 b4 a h=>z2q (cs:=z3a.enc (m.ys.getD j yq0)) 8 h wn U (λ_ hw=>b4 _ (Z.ext hw).y.out.sl) z7g U λa h=>z1x 9 13 kr U ?_ ?_;refine z0o h (z0a U z0f) (mkC func145) (x3p (m.ys.getD j yq0) _ (hM.y.ins j oo).sl) ?_;rintro _ w3 ⟨qn,rfl,a6,q3⟩ a h;have z3:=q3.size;replace O:=O.ext q3;replace D:=D.ext q3;replace hC:=hC.next q3;refine z0b (z0e 10 h U λa h=>z0m 11 h U λa h=>z0m 12 h U λa h=>z0d 13 U (z0w h y3y U λw4 I q4 hz a h=>?_));obtain⟨a2,hg⟩:∃g,g=w3.heap.size:=⟨_,rfl⟩;rw[<-hg]at I h hz;have b6.gk_5:ka.gk<a2:=by have:=O.lt;omega
 have b3:g3<a2:=by have:=D.lt;omega
 have z4:=q4.size;replace hM:=hM.ext (q3.n1 q4);replace O:=O.ext q4;replace D:=D.ext q4;replace hC:=hC.next q4;refine z0b (z0d 14 U (z0t h U I U z7i ?_ (h1:=(by first|(simp[Value.oneCell',S];done)|exact z3a.one (m.ys.getD j yq0)))));clear h a;intro w5 a5 q5 hz a h;have z5:=q5.size;replace O:=O.fr q5;replace D:=D.fr q5;replace hC:=hC.sp q5;clear I hz;have I:Blk w5 a2 _ [_,_,_,_,_]:=a5;clear a5;refine z0b (z0d 15 U (z0r h U λa h=>?_));refine z0b (z0p ?_);clear hC Z M J;refine bk (h.sub (L':=[(0,_),(3,_),(5,_),(6,_)]) (.c4 U U U U)) (tn (sq (sr (mv U U (eq' U (nn (cd U (λc0=>?_) (λc0=>?_))))))));obtain rfl:=a6 c0;replace hM:=a3.ext (q1.z4 q2 q3 q4 q5);intro a h;refine z0h (some 9) (λwb w'=>Fr [] wb w') z2m ?_;intro w6 q6;have z6:=q6.size;replace hM:=hM.ext q6;replace O:=O.ext q6;replace D:=D.ext q6;replace I:=I.ext q6;have hC:Fr [] w6 w6:=Fr.refl _ _;have Z:=hM;have M:=O;have J:=D;have a0:=I;refine z0e 0 h U λa h=>z0l 1 h U λa h=>z0c 2 h U z3e U λa h=>z0j 3 h U (λ_ hw=>M.ext hw) U y4d U λa h=>z0c 4 h U z3i U λa h=>z0j 5 h U (λ_ hw=>J.ext hw) U na5 U λa h=>z2w 6 h wn U (by first|exact IntWalk.u8_in _ oo|rfl) U λa h=>z0v 7 h U (λ_ hw=>a0.ext hw) z7g U λa h=>z1p 8 kr kr kr hC (p:=j) h wn U y4n oo oo oo U U λa h=>z0d 9 U (z1c (i:=j) (⟨false,0,(m.ys.getD j yq0).ct,false,sv0,[]⟩:YQ) h U hM.y.out (by rw[hM.ly];exact hj) U z7i λw7 a1 q7 _hz a h=>?_);replace hM:=hM.yarn mtd hj a1 q7 (Own.nil _);have a3:=hM;clear a1;have z7:=q7.size;replace D:=D.fr q7;replace I:=I.fr q7;have O:=hM.k;clear _hz;refine z1m (z0p ?_);clear hC Z M J a0;refine bk (h.sub (L':=[(6,_)]) (.cons U .nil)) (tn (sr (mv U U (asg U (nn (rt (r1 results93 U ?_)))))));exact⟨_,rfl,by rw[c0];exact MRet.ok (by unfold x6s;rw[a8,if_neg (λe=>e c0)];exact congrArg Except.ok (y1a m (⟨false,0,(m.ys.getD j yq0).ct,false,sv0,[]⟩:YQ) b0).symm) hM⟩;refine sk (tn (sr (mv U U (asg U (kpL [(4,_)] (.cons U .nil) (nn (rt (r1 results93 U ?_))))))));replace hM:=a3.ext (q1.z4 q2 q3 q4 q5);exact⟨_,rfl,MRet.err (by unfold x6s;rw[a8,if_pos c0]) c0 hM.fr⟩;refine z0w h y3y U λw8 I q8 hz a h=>?_;obtain⟨a2,hg⟩:∃g,g=w2.heap.size:=⟨_,rfl⟩;rw[<-hg]at I h hz;have b6.gk_5:ka.gk<a2:=by have:=O.lt;omega
 have b3:g3<a2:=by have:=D.lt;omega
 have z8:=q8.size;replace hM:=hM.ext q8;replace hC:=hC.next q8;refine z0b (z0d 9 U (z0o h (z0a U z0f) (mkC func145) (x3p (m.ys.getD j yq0) _ (hM.y.ins j oo).sl) ?_));rintro _ w9 ⟨qn,rfl,a6,q9⟩ a h;have z9:=q9.size;replace hM:=hM.ext q9;replace O:=O.ext (q8.n1 q9);replace D:=D.ext (q8.n1 q9);replace I:=I.ext q9;replace hC:=hC.next q9;refine z0b (z0e 10 h U λa h=>z0m 11 h U λa h=>z0m 12 h U λa h=>z0d 14 U (z0t h U I U z7i ?_ (h1:=(by first|(simp[Value.oneCell',S];done)|exact z3a.one (m.ys.getD j yq0)))));clear h a;intro b7 a5 a4 hz a h;have d6:=a4.size;replace O:=O.fr a4;replace D:=D.fr a4;replace hC:=hC.sp a4;clear I hz;have I:Blk b7 a2 _ [_,_,_,_,_]:=a5;clear a5;refine z0b (z0d 15 U (z0r h U λa h=>?_));refine z0b (z0p ?_);clear hC Z M J;refine bk (h.sub (L':=[(0,_),(3,_),(5,_),(6,_)]) (.c4 U U U U)) (tn (sq (sr (mv U U (eq' U (nn (cd U (λc0=>?_) (λc0=>?_))))))));obtain rfl:=a6 c0;replace hM:=a3.ext (q1.z4 q2 q8 q9 a4);intro a h;refine z0h (some 9) (λwb w'=>Fr [] wb w') z2m ?_;intro b5 a7;have d7:=a7.size;replace hM:=hM.ext a7;replace O:=O.ext a7;replace D:=D.ext a7;replace I:=I.ext a7;have hC:Fr [] b5 b5:=Fr.refl _ _;have Z:=hM;have M:=O;have J:=D;have a0:=I;refine z0e 0 h U λa h=>z0l 1 h U λa h=>z0c 2 h U z3e U λa h=>z0j 3 h U (λ_ hw=>M.ext hw) U y4d U λa h=>z0c 4 h U z3i U λa h=>z0j 5 h U (λ_ hw=>J.ext hw) U na5 U λa h=>z2w 6 h wn U (by first|exact IntWalk.u8_in _ oo|rfl) U λa h=>z0v 7 h U (λ_ hw=>a0.ext hw) z7g U λa h=>z1p 8 kr kr kr hC (p:=j) h wn U y4n oo oo oo U U λa h=>z0d 9 U (z1c (i:=j) (⟨false,0,(m.ys.getD j yq0).ct,false,sv0,[]⟩:YQ) h U hM.y.out (by rw[hM.ly];exact hj) U z7i λd5 a1 a9 _hz a h=>?_);replace hM:=hM.yarn mtd hj a1 a9 (Own.nil _);have a3:=hM;clear a1;have d9:=a9.size;replace D:=D.fr a9;replace I:=I.fr a9;have O:=hM.k;clear _hz;refine z1m (z0p ?_);clear hC Z M J a0;refine bk (h.sub (L':=[(6,_)]) (.cons U .nil)) (tn (sr (mv U U (asg U (nn (rt (r1 results93 U ?_)))))));exact⟨_,rfl,by rw[c0];exact MRet.ok (by unfold x6s;rw[a8,if_neg (λe=>e c0)];exact congrArg Except.ok (y1a m (⟨false,0,(m.ys.getD j yq0).ct,false,sv0,[]⟩:YQ) b0).symm) hM⟩;refine sk (tn (sr (mv U U (asg U (kpL [(4,_)] (.cons U .nil) (nn (rt (r1 results93 U ?_))))))));replace hM:=a3.ext (q1.z4 q2 q8 q9 a4);exact⟨_,rfl,MRet.err (by unfold x6s;rw[a8,if_pos c0]) c0 hM.fr⟩
theorem z3s:z0y prog 183 0 0:=λ_ _=>kr
theorem x5y (wS:World)(ka:MA)(m:MQ)(o:MOp)(w0:World)(hM:MkM τd 183 wS ka w0 m)(hi:MInv m.p)(hy:1<=o.y/\o.y<=6)(hn:z2v o.b o.p=0):Rets prog 147 #[.pointer (some ⟨ka.gk,0,none⟩),opV o] w0 λr w'=>r=.tuple #[.int .i64 (if z7j m.p o=0 then y4l m.p o else 0),.int .i64 (if z7j m.p o=0 then (z2h o.b o.p m.rk) else 0),.int .i64 (z7j m.p o)]/\Fr [] w0 w':=by
 have c9:=hM.fr.size;have Z:=hM.k;have b4:=Z.lt;have b6:=hM.ly;have b5:=hM.lt;have b0:=(hM.y.out.blk ka.gy (by simp[z0u])).2;obtain⟨j,hj,b8⟩:∃j:Nat,j<6/\o.y=(j:Int)+1:=⟨(o.y-1).toNat,oo,oo⟩;have a7:(o.y-1).toNat=j:=by omega
 have J:m.p.y o.y=(m.ys.getD j yq0).p:=by rw[j8p,a7]
 have b9:=y1y o.b o.p m.rk;have b7:=z2o hn;refine we [(0,.pointer (some ⟨ka.gk,0,none⟩)),(1,opV o)] func147 U ntmps147 U (.c2 U U) ?_;have a6:=hM;refine sr (bx U (λg3 w1 b3 D q1 z1=>(asg U (asg U (asg U (nn (sq ?_)))))));replace hM:=a6.ext q1;intro a h;refine z0h none (λwb w'=>Fr [] wb w') z2m ?_;intro w2 q2;have z2:=q2.size;replace hM:=hM.ext q2;replace Z:=Z.ext (q1.n1 q2);replace D:=D.ext q2;have hC:Fr [] w2 w2:=Fr.refl _ _;have a2:=hM;have a1:=Z;have M:=D;refine z0e 0 h U λa h=>z0l 1 h U λa h=>z0c 2 h U z3e U λa h=>z0j 3 h U (λ_ hw=>a1.ext hw) U y4d U λa h=>z0c 4 h U z3i U λa h=>z0j 5 h U (λ_ hw=>M.ext hw) U na5 U λa h=>z2w 6 h wn U (by first|exact IntWalk.u8_in _ oo|rfl) U λa h=>z1i (p:=j) (yq0) 7 h U hM.y.out.sl U y4n U λa9 a5 a h=>z2q (cs:=z3a.enc (m.ys.getD j yq0)) 8 h wn U (λ_ hw=>a5 _ (a2.ext hw).y.out.sl) z7g U λa h=>z0c 9 h U z3h U λa h=>z1a (vs:=[_,_]) 10 h U (λ_ hw=>(M.ext hw)) z4k U U λa h=>?_;refine z0e 11 h U λa h=>z0l 12 h U λa h=>z0c 13 h U z3s U λa h=>z0j 14 h U (λ_ hw=>a1.ext hw) U na3 U λa h=>z1x 15 16 kr U ?_ ?_;refine z0o h (z0a U (z0a U z0f)) x5q (y0q _ _ _ _ (by have:=hi.rk;omega)) ?_;rintro _ w3 ⟨rfl,q3⟩ a h;have z3:=q3.size;replace Z:=Z.ext q3;replace D:=D.ext q3;replace hC:=hC.next q3;refine z0b (z0d 16 U (z0w h y3y U λw4 I q4 hz a h=>?_));obtain⟨a0,hg⟩:∃g,g=w3.heap.size:=⟨_,rfl⟩;rw[<-hg]at I h hz;have a8.gk_7:ka.gk<a0:=by have:=Z.lt;omega
 have a4:g3<a0:=by have:=D.lt;omega
 have z4:=q4.size;replace hM:=hM.ext (q3.n1 q4);replace Z:=Z.ext q4;replace D:=D.ext q4;replace hC:=hC.next q4;refine z0b (z0d 17 U (z0t h U I U z7i ?_ (h1:=(by first|(simp[Value.oneCell',S];done)|exact z3a.one (m.ys.getD j yq0)))));clear h a;intro w5 a3 q5 hz a h;have z5:=q5.size;replace Z:=Z.fr q5;replace D:=D.fr q5;replace hC:=hC.sp q5;clear I hz;have I:Blk w5 a0 _ [_,_,_,_,_]:=a3;clear a3;refine z0b (z0d 18 U (z0r h U λa h=>?_));refine z0b (z0p ?_);clear hC a2 a1 M;refine bk (h.sub (L':=[(3,_),(5,_),(7,_)]) (.c3 U U U)) (tn (sq (sr (fad U y1p (z0i U I U na4 (nt' U (nn (cd U (λc0=>?_) (λc0=>?_)))))))));refine sr (asg U (asg U (asg U (nn (rt (tr (r3 results147 U U U ?_)))))));have O:z7j m.p o=12:=by unfold z7j;rw[J,if_pos (by simpa using c0)]
 exact⟨_,rfl,by rw[O];rfl,(q1.z4 q2 q3 q4 q5)⟩;refine sk (tn (sq (sr (fad U z8m (z0i U D U x1h (eq' U (nn (cd U (λc1=>?_) (λc1=>?_)))))))));refine sq (sr (fad U z7m (z0i U I U na3 (mv U U (gt' U (nn (cd U (λc2=>?_) (λc2=>?_))))))));refine sr (asg U (asg U (asg U (nn (rt (tr (tr (r3 results147 U U U ?_))))))));have O:z7j m.p o=12:=by unfold z7j;rw[J,if_neg (by simpa using c0),if_pos c1,if_pos c2]
 exact⟨_,rfl,by rw[O];rfl,(q1.z4 q2 q3 q4 q5)⟩;refine sk (tn (sr (mv U U (z1b U (wi6 oo) (mv U U (asg U (asg U (asg U (nn (rt (tr (r3 results147 U U U ?_))))))))))));have O:z7j m.p o=0:=by unfold z7j;rw[J,if_neg (by simpa using c0),if_pos c1,if_neg c2]
 exact⟨_,rfl,by rw[O];rw[if_pos U,if_pos U,y4l,if_pos c1],(q1.z4 q2 q3 q4 q5)⟩;refine sk (tn (sq (sr (fad U z7m (z0i U I U na3 (mv U U (lt' U (nn (cd U (λc3=>?_) (λc3=>?_))))))))));refine sr (asg U (asg U (asg U (nn (rt (tr (r3 results147 U U U ?_)))))));have O:z7j m.p o=12:=by unfold z7j;rw[J,if_neg (by simpa using c0),if_neg c1,if_pos c3]
 exact⟨_,rfl,by rw[O];rfl,(q1.z4 q2 q3 q4 q5)⟩;refine sk (tn (sr (mv U U (z2p U (wi6 oo) (mv U U (asg U (asg U (asg U (nn (rt (r3 results147 U U U ?_)))))))))));have O:z7j m.p o=0:=by unfold z7j;rw[J,if_neg (by simpa using c0),if_neg c1,if_neg c3]
 exact⟨_,rfl,by rw[O];rw[if_pos U,if_pos U,y4l,if_neg c1],(q1.z4 q2 q3 q4 q5)⟩;refine z0w h y3y U λw6 I q6 hz a h=>?_;obtain⟨a0,hg⟩:∃g,g=w2.heap.size:=⟨_,rfl⟩;rw[<-hg]at I h hz;have a8.gk_7:ka.gk<a0:=by have:=Z.lt;omega
 have a4:g3<a0:=by have:=D.lt;omega
 have z6:=q6.size;replace hC:=hC.next q6;refine z0b (z0d 15 U (z0o h (z0a U (z0a U z0f)) x5q (y0q _ _ _ _ (by have:=hi.rk;omega)) ?_));rintro _ w7 ⟨rfl,q7⟩ a h;have z7:=q7.size;replace hM:=hM.ext (q6.n1 q7);replace Z:=Z.ext (q6.n1 q7);replace D:=D.ext (q6.n1 q7);replace I:=I.ext q7;replace hC:=hC.next q7;refine z0b (z0d 17 U (z0t h U I U z7i ?_ (h1:=(by first|(simp[Value.oneCell',S];done)|exact z3a.one (m.ys.getD j yq0)))));clear h a;intro w8 a3 q8 hz a h;have z8:=q8.size;replace Z:=Z.fr q8;replace D:=D.fr q8;replace hC:=hC.sp q8;clear I hz;have I:Blk w8 a0 _ [_,_,_,_,_]:=a3;clear a3;refine z0b (z0d 18 U (z0r h U λa h=>?_));refine z0b (z0p ?_);clear hC a2 a1 M;refine bk (h.sub (L':=[(3,_),(5,_),(7,_)]) (.c3 U U U)) (tn (sq (sr (fad U y1p (z0i U I U na4 (nt' U (nn (cd U (λc0=>?_) (λc0=>?_)))))))));refine sr (asg U (asg U (asg U (nn (rt (tr (r3 results147 U U U ?_)))))));have O:z7j m.p o=12:=by unfold z7j;rw[J,if_pos (by simpa using c0)]
 exact⟨_,rfl,by rw[O];rfl,(q1.z4 q2 q6 q7 q8)⟩;refine sk (tn (sq (sr (fad U z8m (z0i U D U x1h (eq' U (nn (cd U (λc1=>?_) (λc1=>?_)))))))));refine sq (sr (fad U z7m (z0i U I U na3 (mv U U (gt' U (nn (cd U (λc2=>?_) (λc2=>?_))))))));refine sr (asg U (asg U (asg U (nn (rt (tr (tr (r3 results147 U U U ?_))))))));have O:z7j m.p o=12:=by unfold z7j;rw[J,if_neg (by simpa using c0),if_pos c1,if_pos c2]
 exact⟨_,rfl,by rw[O];rfl,(q1.z4 q2 q6 q7 q8)⟩;refine sk (tn (sr (mv U U (z1b U (wi6 oo) (mv U U (asg U (asg U (asg U (nn (rt (tr (r3 results147 U U U ?_))))))))))));have O:z7j m.p o=0:=by unfold z7j;rw[J,if_neg (by simpa using c0),if_pos c1,if_neg c2]
 exact⟨_,rfl,by rw[O];rw[if_pos U,if_pos U,y4l,if_pos c1],(q1.z4 q2 q6 q7 q8)⟩;refine sk (tn (sq (sr (fad U z7m (z0i U I U na3 (mv U U (lt' U (nn (cd U (λc3=>?_) (λc3=>?_))))))))));refine sr (asg U (asg U (asg U (nn (rt (tr (r3 results147 U U U ?_)))))));have O:z7j m.p o=12:=by unfold z7j;rw[J,if_neg (by simpa using c0),if_neg c1,if_pos c3]
 exact⟨_,rfl,by rw[O];rfl,(q1.z4 q2 q6 q7 q8)⟩;refine sk (tn (sr (mv U U (z2p U (wi6 oo) (mv U U (asg U (asg U (asg U (nn (rt (r3 results147 U U U ?_)))))))))));have O:z7j m.p o=0:=by unfold z7j;rw[J,if_neg (by simpa using c0),if_neg c1,if_neg c3]
 exact⟨_,rfl,by rw[O];rw[if_pos U,if_pos U,y4l,if_neg c1],(q1.z4 q2 q6 q7 q8)⟩
theorem z3f:z0y prog 183 1 1:=λ_ _=>kr
theorem x4z (wS:World)(ka:MA)(m:MQ)(yy pl en:Int)(w0:World)(hM:MkM τd 183 wS ka w0 m)(hi:MInv m.p)(hy:1<=yy/\yy<=6):Rets prog 148 #[.pointer (some ⟨ka.gk,0,none⟩),.int .u8 yy,.int .i64 pl,.int .i64 en] w0 λr w'=>MRet τd 183 wS ka (y2k m.p yy pl en) r w':=by
 have g7:=hM.fr.size;have J:=hM.k;have g0:=J.lt;have g3:=hM.ly;have g1:=hM.lt;have f5:=(hM.y.out.blk ka.gy (by simp[z0u])).2;obtain⟨j,hj,g6⟩:∃j:Nat,j<6/\yy=(j:Int)+1:=⟨(yy-1).toNat,oo,oo⟩;have e1:(yy-1).toNat=j:=by omega
 have c9:m.p.y yy=(m.ys.getD j yq0).p:=by rw[j8p,e1]
 have f7:=v5e (z2n m.q.p m.rk) (m.ys.getD j yq0).pl en;have hN:=y2u hi.B;have f9:(z2n m.q.p m.rk).length<=320:=by unfold z2n;rw[z4h,y4q];exact hN
 refine we [(0,.pointer (some ⟨ka.gk,0,none⟩)),(1,.int .u8 yy),(2,.int .i64 pl),(3,.int .i64 en)] func148 U ntmps148 U (.c4 U U U U) ?_;have a7:=hM;refine sr (asg U (nn (sq ?_)));intro a h;refine z0h none (λwb w'=>Fr [] wb w') z2m ?_;intro w1 q1;have z1:=q1.size;replace hM:=hM.ext q1;replace J:=J.ext q1;have hC:Fr [] w1 w1:=Fr.refl _ _;have a2:=hM;have Z:=J;refine z0e 0 h U λa h=>z0l 1 h U λa h=>z0c 2 h U z3f U λa h=>z1a (vs:=[_,_]) 3 h U (λ_ hw=>(Z.ext hw)) z4w U U λa h=>z0e 4 h U λa h=>z0l 5 h U λa h=>z0c 6 h U z3s U λa h=>z0j 7 h U (λ_ hw=>Z.ext hw) U na3 U λa h=>z0d 8 U (z0o h (z0a U (z0a U z0f)) (mkC func117) (v7z m.q m.rk _ hM.b.at hi.B hi.rk) ?_);rintro _ w2 ⟨⟨g9,rfl,f8,hL⟩,hq⟩ a h;have z2:=hq.size;replace hM:=hM.ext hq;replace J:=J.ext hq;replace hC:=hC.next hq;have q2:=hq;have f6:=(hL.blk g9 (by simp[z0u])).2;refine z0b (z0e 9 h U λa h=>z0m 10 h U λa h=>z0m 11 h U λa h=>z0d 12 U (z0r h U λa h=>?_));refine z0b (z0d 13 U (z0r h U λa h=>?_));refine z0b (z0p ?_);clear hC a2 Z;refine bk (h.sub (L':=[(0,_),(1,_),(2,_),(3,_),(9,_),(10,_)]) (.c6 U U U U U U)) (tn (sq (sr (mv U U (ne' U (nn (cd U (λc0=>?_) (λc0=>?_))))))));exact absurd U c0;refine sk (tn (sr (mv U U (nlc U (fad U z3e (z0i U J U y4d (mv U U (z2p U (wi8 oo) (z1d (p:=j) (yq0) U hM.y.out.sl U y4n oo (λf3 e4=>(z1l U (e4 _ hM.y.out.sl) z7g (al y3y U (λe2 w3 f4 D q3 z3=>?_)))))))))))));refine z0k (vs:=[_,_,_,_,_]) U D z7i (λw4 D q4 z4=>?_) (h1:=(by first|(simp[Value.oneCell',S];done)|exact z3a.one (m.ys.getD j yq0)));refine kpL [(0,_),(1,_),(2,_),(3,_),(9,_),(11,_)] (.c6 U U U U U U) (nn (sq ?_));replace hM:=a7.ext (q1.z3 q2 q3 q4);replace J:=(J.ext q3).fr q4;replace hL:=(hL.ext q3).fr q4 (by first|exact z8w hL oo|simp[z0u]<;>omega);intro a h;refine z0h none (λwb w'=>Fr [] wb w') z2m ?_;intro w5 q5;have z5:=q5.size;replace hM:=hM.ext q5;replace J:=J.ext q5;replace hL:=hL.ext q5;replace D:=D.ext q5;have hC:Fr [] w5 w5:=Fr.refl _ _;have a2:=hM;have Z:=J;have d6:=hL;have O:=D;refine z0v 0 h U (λ_ hw=>O.ext hw) z7g U λa h=>z0e 1 h U λa h=>z0e 2 h U λa h=>z0c 3 h U z7m U λa h=>z0j 4 h U (λ_ hw=>O.ext hw) U na3 U λa h=>z0e 5 h U λa h=>z1x 6 11 kr U ?_ ?_;refine z0o h (z0a U (z0a U (z0a U z0f))) (mkC func199) (u7j _ (z2n m.q.p m.rk) (m.ys.getD j yq0).pl en _ hL.sl oo) ?_;rintro _ w6 ⟨⟨e3,rfl,e5,hW⟩,q6⟩ a h;have z6:=q6.size;replace hM:=hM.ext q6;replace J:=J.ext q6;replace hL:=hL.ext q6;replace D:=D.ext q6;replace hC:=hC.next q6;have f0:=(hW.blk e3 (by simp[z0u])).2;refine z0b (z1x 7 11 kr U ?_ ?_);refine z0o h (z0a U (z0a U (z0a U z0f))) (mkC func196) (v0t (m.ys.getD j yq0) pl _ (btw (z2n m.q.p m.rk) (m.ys.getD j yq0).pl en) _ (hM.y.ins j oo).sl hW.sl (λk J=>(hW.blk k J).2) oo) ?_;rintro _ w7 ⟨qn,rfl,b7,q7⟩ a h;have z7:=q7.size;replace J:=J.ext q7;replace D:=D.ext q7;replace hC:=hC.next q7;have M:OwnIf ((goE (m.ys.getD j yq0).p pl (btw (z2n m.q.p m.rk) (m.ys.getD j yq0).pl en))=0) z2e 97 _ _ (slv qn.pe) qn.pes:=λhc=>(b7 hc).2;have b5:=λhc k J=>((M hc).blk k J).2;refine z0b (z0e 8 h U λa h=>z0m 9 h U λa h=>z0m 10 h U λa h=>z0d 11 U (z0w h y3y U λw8 I q8 hz a h=>?_));obtain⟨a1,hg⟩:∃g,g=w7.heap.size:=⟨_,rfl⟩;rw[<-hg]at I h hz;have e6.gk_12:ka.gk<a1:=by have:=J.lt;omega
 have b8:e2<a1:=by have:=D.lt;omega
 have z8:=q8.size;replace hM:=hM.ext (q7.n1 q8);replace J:=J.ext q8;replace hL:=hL.ext (q7.n1 q8);replace D:=D.ext q8;replace hW:=hW.ext (q7.n1 q8);replace M:=M.ext q8;replace hC:=hC.next q8;refine z0b (z0d 12 U (z0t h U I U z7i ?_ (h1:=(by first|(simp[Value.oneCell',S];done)|exact z3a.one (m.ys.getD j yq0)))));clear h a;intro w9 b6 q9 hz a h;have z9:=q9.size;replace J:=J.fr q9;replace hL:=hL.fr q9 (by simp[z0u]<;>omega);replace D:=D.fr q9;replace hW:=hW.fr q9 (by simp[z0u]<;>omega);replace M:=M.fr q9 (by intro a4 k J a3;simp at J;subst J;have d4:=b5 a4 _ a3;have d5:=(M a4).blk _ a3;omega);replace hC:=hC.sp q9;clear I hz;have I:Blk w9 a1 _ [_,_,_,_,_]:=b6;clear b6;refine z0b (z0d 13 U (z0r h U λa h=>?_));refine z0b (z0p ?_);clear hC a2 Z d6 O;refine bk (h.sub (L':=[(0,_),(1,_),(10,_),(12,_)]) (.c4 U U U U)) (tn (sq (sr (mv U U (eq' U (nn (cd U (λc1=>?_) (λc1=>?_))))))));replace hM:=a7.ext (((q1.z6 q2 q3 q4 q5 q6 q7).n1 q8).z1 q9);intro a h;refine z0h (some 8) (λwb w'=>Fr [] wb w') z2m ?_;intro e7 d0;have h8:=d0.size;replace hM:=hM.ext d0;replace J:=J.ext d0;replace D:=D.ext d0;replace M:=M.ext d0;replace I:=I.ext d0;have hC:Fr [] e7 e7:=Fr.refl _ _;have a2:=hM;have Z:=J;have O:=D;have a6:=M;have a0:=I;refine z0e 0 h U λa h=>z0l 1 h U λa h=>z0c 2 h U z3e U λa h=>z0j 3 h U (λ_ hw=>Z.ext hw) U y4d U λa h=>z0e 4 h U λa h=>z2w 5 h wn U (by first|exact IntWalk.u8_in _ oo|rfl) U λa h=>z0v 6 h U (λ_ hw=>a0.ext hw) z7g U λa h=>z1p 7 kr kr kr hC (p:=j) h wn U y4n oo oo oo U U λa h=>z0d 8 U (z1c (i:=j) (qn:YQ) h U hM.y.out (by rw[hM.ly];exact hj) U z7i λg8 a5 d7 _hz a h=>?_);replace hM:=hM.yarn mtd hj a5 d7 ((M c1).low oo);have a7:=hM;clear a5;have h9:=d7.size;replace D:=D.fr d7;replace M:=M.fr d7 (by intro a4 k J a3;simp at J;subst J;have d4:=b5 a4 _ a3;have d5:=(M a4).blk _ a3;omega);replace I:=I.fr d7;have J:=hM.k;clear _hz;refine z1m (z0p ?_);clear hC a2 Z O a6 a0;refine bk (h.sub (L':=[(10,_)]) (.cons U .nil)) (tn (sr (mv U U (asg U (nn (rt (r1 results148 U ?_)))))));exact⟨_,rfl,by rw[c1];exact MRet.ok (by unfold y2k y6x;rw[c9,if_neg (λe=>e c1)];exact congrArg Except.ok (by rw[y1a m qn e1,(b7 c1).1])) hM⟩;refine sk (tn (sr (mv U U (asg U (kpL [(8,_)] (.cons U .nil) (nn (rt (r1 results148 U ?_))))))));replace hM:=a7.ext (((q1.z6 q2 q3 q4 q5 q6 q7).n1 q8).z1 q9);exact⟨_,rfl,MRet.err (by unfold y2k y6x;rw[c9,if_pos c1]) c1 hM.fr⟩;refine z0w h y3y U λh0 I b0 hz a h=>?_;obtain⟨a1,hg⟩:∃g,g=w6.heap.size:=⟨_,rfl⟩;rw[<-hg]at I h hz;have e6.gk_12:ka.gk<a1:=by have:=J.lt;omega
 have b8:e2<a1:=by have:=D.lt;omega
 have i0:=b0.size;replace hM:=hM.ext b0;replace J:=J.ext b0;replace hW:=hW.ext b0;replace hC:=hC.next b0;refine z0b (z0d 7 U (z0o h (z0a U (z0a U (z0a U z0f))) (mkC func196) (v0t (m.ys.getD j yq0) pl _ (btw (z2n m.q.p m.rk) (m.ys.getD j yq0).pl en) _ (hM.y.ins j oo).sl hW.sl (λk J=>(hW.blk k J).2) oo) ?_));rintro _ h2 ⟨qn,rfl,b7,a8⟩ a h;have i1:=a8.size;replace hM:=hM.ext a8;replace J:=J.ext a8;replace hL:=hL.ext (b0.n1 a8);replace D:=D.ext (b0.n1 a8);replace hW:=hW.ext a8;replace I:=I.ext a8;replace hC:=hC.next a8;have M:OwnIf ((goE (m.ys.getD j yq0).p pl (btw (z2n m.q.p m.rk) (m.ys.getD j yq0).pl en))=0) z2e 97 _ _ (slv qn.pe) qn.pes:=λhc=>(b7 hc).2;have b5:=λhc k J=>((M hc).blk k J).2;refine z0b (z0e 8 h U λa h=>z0m 9 h U λa h=>z0m 10 h U λa h=>z0d 12 U (z0t h U I U z7i ?_ (h1:=(by first|(simp[Value.oneCell',S];done)|exact z3a.one (m.ys.getD j yq0)))));clear h a;intro f1 b6 b3 hz a h;have i2:=b3.size;replace J:=J.fr b3;replace hL:=hL.fr b3 (by simp[z0u]<;>omega);replace D:=D.fr b3;replace hW:=hW.fr b3 (by simp[z0u]<;>omega);replace M:=M.fr b3 (by intro a4 k J a3;simp at J;subst J;have d4:=b5 a4 _ a3;have d5:=(M a4).blk _ a3;omega);replace hC:=hC.sp b3;clear I hz;have I:Blk f1 a1 _ [_,_,_,_,_]:=b6;clear b6;refine z0b (z0d 13 U (z0r h U λa h=>?_));refine z0b (z0p ?_);clear hC a2 Z d6 O;refine bk (h.sub (L':=[(0,_),(1,_),(10,_),(12,_)]) (.c4 U U U U)) (tn (sq (sr (mv U U (eq' U (nn (cd U (λc1=>?_) (λc1=>?_))))))));replace hM:=a7.ext (((q1.z6 q2 q3 q4 q5 q6 b0).n1 a8).z1 b3);intro a h;refine z0h (some 8) (λwb w'=>Fr [] wb w') z2m ?_;intro e8 d1;have i3:=d1.size;replace hM:=hM.ext d1;replace J:=J.ext d1;replace D:=D.ext d1;replace I:=I.ext d1;replace M:=M.ext d1;have hC:Fr [] e8 e8:=Fr.refl _ _;have a2:=hM;have Z:=J;have O:=D;have a0:=I;have a6:=M;refine z0e 0 h U λa h=>z0l 1 h U λa h=>z0c 2 h U z3e U λa h=>z0j 3 h U (λ_ hw=>Z.ext hw) U y4d U λa h=>z0e 4 h U λa h=>z2w 5 h wn U (by first|exact IntWalk.u8_in _ oo|rfl) U λa h=>z0v 6 h U (λ_ hw=>a0.ext hw) z7g U λa h=>z1p 7 kr kr kr hC (p:=j) h wn U y4n oo oo oo U U λa h=>z0d 8 U (z1c (i:=j) (qn:YQ) h U hM.y.out (by rw[hM.ly];exact hj) U z7i λh3 a5 d9 _hz a h=>?_);replace hM:=hM.yarn mtd hj a5 d9 ((M c1).low oo);have a7:=hM;clear a5;have i4:=d9.size;replace D:=D.fr d9;replace I:=I.fr d9;replace M:=M.fr d9 (by intro a4 k J a3;simp at J;subst J;have d4:=b5 a4 _ a3;have d5:=(M a4).blk _ a3;omega);have J:=hM.k;clear _hz;refine z1m (z0p ?_);clear hC a2 Z O a0 a6;refine bk (h.sub (L':=[(10,_)]) (.cons U .nil)) (tn (sr (mv U U (asg U (nn (rt (r1 results148 U ?_)))))));exact⟨_,rfl,by rw[c1];exact MRet.ok (by unfold y2k y6x;rw[c9,if_neg (λe=>e c1)];exact congrArg Except.ok (by rw[y1a m qn e1,(b7 c1).1])) hM⟩;refine sk (tn (sr (mv U U (asg U (kpL [(8,_)] (.cons U .nil) (nn (rt (r1 results148 U ?_))))))));replace hM:=a7.ext (((q1.z6 q2 q3 q4 q5 q6 b0).n1 a8).z1 b3);exact⟨_,rfl,MRet.err (by unfold y2k y6x;rw[c9,if_pos c1]) c1 hM.fr⟩;refine z0w h y3y U λh4 I b9 hz a h=>?_;obtain⟨a1,hg⟩:∃g,g=w5.heap.size:=⟨_,rfl⟩;rw[<-hg]at I h hz;have e6.gk_12:ka.gk<a1:=by have:=J.lt;omega
 have b8:e2<a1:=by have:=D.lt;omega
 have i5:=b9.size;replace hL:=hL.ext b9;replace hC:=hC.next b9;refine z0b (z0d 6 U (z0o h (z0a U (z0a U (z0a U z0f))) (mkC func199) (u7j _ (z2n m.q.p m.rk) (m.ys.getD j yq0).pl en _ hL.sl oo) ?_));rintro _ h5 ⟨⟨e3,rfl,e5,hW⟩,q18⟩ a h;have i7:=q18.size;replace hM:=hM.ext (b9.n1 q18);replace J:=J.ext (b9.n1 q18);replace hC:=hC.next q18;have f0:=(hW.blk e3 (by simp[z0u])).2;refine z0b (z0d 7 U (z0o h (z0a U (z0a U (z0a U z0f))) (mkC func196) (v0t (m.ys.getD j yq0) pl _ (btw (z2n m.q.p m.rk) (m.ys.getD j yq0).pl en) _ (hM.y.ins j oo).sl hW.sl (λk J=>(hW.blk k J).2) oo) ?_));rintro _ h6 ⟨qn,rfl,b7,a9⟩ a h;have i8:=a9.size;replace hM:=hM.ext a9;replace J:=J.ext a9;replace hL:=hL.ext (q18.n1 a9);replace D:=D.ext (b9.n2 q18 a9);replace I:=I.ext (q18.n1 a9);replace hW:=hW.ext a9;replace hC:=hC.next a9;have M:OwnIf ((goE (m.ys.getD j yq0).p pl (btw (z2n m.q.p m.rk) (m.ys.getD j yq0).pl en))=0) z2e 97 _ _ (slv qn.pe) qn.pes:=λhc=>(b7 hc).2;have b5:=λhc k J=>((M hc).blk k J).2;refine z0b (z0e 8 h U λa h=>z0m 9 h U λa h=>z0m 10 h U λa h=>z0d 12 U (z0t h U I U z7i ?_ (h1:=(by first|(simp[Value.oneCell',S];done)|exact z3a.one (m.ys.getD j yq0)))));clear h a;intro f2 b6 b4 hz a h;have i9:=b4.size;replace J:=J.fr b4;replace hL:=hL.fr b4 (by simp[z0u]<;>omega);replace D:=D.fr b4;replace hW:=hW.fr b4 (by simp[z0u]<;>omega);replace M:=M.fr b4 (by intro a4 k J a3;simp at J;subst J;have d4:=b5 a4 _ a3;have d5:=(M a4).blk _ a3;omega);replace hC:=hC.sp b4;clear I hz;have I:Blk f2 a1 _ [_,_,_,_,_]:=b6;clear b6;refine z0b (z0d 13 U (z0r h U λa h=>?_));refine z0b (z0p ?_);clear hC a2 Z d6 O;refine bk (h.sub (L':=[(0,_),(1,_),(10,_),(12,_)]) (.c4 U U U U)) (tn (sq (sr (mv U U (eq' U (nn (cd U (λc1=>?_) (λc1=>?_))))))));replace hM:=a7.ext (((q1.z6 q2 q3 q4 q5 b9 q18).n1 a9).z1 b4);intro a h;refine z0h (some 8) (λwb w'=>Fr [] wb w') z2m ?_;intro e9 d3;have j0:=d3.size;replace hM:=hM.ext d3;replace J:=J.ext d3;replace D:=D.ext d3;replace I:=I.ext d3;replace M:=M.ext d3;have hC:Fr [] e9 e9:=Fr.refl _ _;have a2:=hM;have Z:=J;have O:=D;have a0:=I;have a6:=M;refine z0e 0 h U λa h=>z0l 1 h U λa h=>z0c 2 h U z3e U λa h=>z0j 3 h U (λ_ hw=>Z.ext hw) U y4d U λa h=>z0e 4 h U λa h=>z2w 5 h wn U (by first|exact IntWalk.u8_in _ oo|rfl) U λa h=>z0v 6 h U (λ_ hw=>a0.ext hw) z7g U λa h=>z1p 7 kr kr kr hC (p:=j) h wn U y4n oo oo oo U U λa h=>z0d 8 U (z1c (i:=j) (qn:YQ) h U hM.y.out (by rw[hM.ly];exact hj) U z7i λh7 a5 e0 _hz a h=>?_);replace hM:=hM.yarn mtd hj a5 e0 ((M c1).low oo);have a7:=hM;clear a5;have j1:=e0.size;replace D:=D.fr e0;replace I:=I.fr e0;replace M:=M.fr e0 (by intro a4 k J a3;simp at J;subst J;have d4:=b5 a4 _ a3;have d5:=(M a4).blk _ a3;omega);have J:=hM.k;clear _hz;refine z1m (z0p ?_);clear hC a2 Z O a0 a6;refine bk (h.sub (L':=[(10,_)]) (.cons U .nil)) (tn (sr (mv U U (asg U (nn (rt (r1 results148 U ?_)))))));exact⟨_,rfl,by rw[c1];exact MRet.ok (by unfold y2k y6x;rw[c9,if_neg (λe=>e c1)];exact congrArg Except.ok (by rw[y1a m qn e1,(b7 c1).1])) hM⟩;refine sk (tn (sr (mv U U (asg U (kpL [(8,_)] (.cons U .nil) (nn (rt (r1 results148 U ?_))))))));replace hM:=a7.ext (((q1.z6 q2 q3 q4 q5 b9 q18).n1 a9).z1 b4);exact⟨_,rfl,MRet.err (by unfold y2k y6x;rw[c9,if_pos c1]) c1 hM.fr⟩
theorem j4i (wS:World)(J:MA)(m:MQ)(o:MOp)(w0:World)(hM:MkM τd 183 wS J w0 m)(hi:MInv m.p)(hy:1<=o.y/\o.y<=6)(hn:z2v o.b o.p=0):Rets prog 97 #[.pointer (some ⟨J.gk,0,none⟩),opV o] w0 λr w'=>MRet τd 183 wS J (y4b m.p o) r w':=by
 refine we [(0,.pointer (some ⟨J.gk,0,none⟩)),(1,opV o)] func97 U ntmps97 U (.c2 U U) ?_;have I:=hM;refine sr (bx U (λg3 w1 a0 D Z z1=>(asg U (nn (sr (mv U U (z0n U D y6p ?_)))))));replace hM:=I.ext Z;refine cl (ev2 U) (mkC func147) (x5y wS J m o _ hM hi hy hn) U ?_;rintro _ w2 ⟨rfl,q2⟩;refine mv U U (xt U (xt U (xt U (asg U (asg U (asg U (kpL [(0,_),(3,_),(5,_),(7,_)] (.c4 U U U U) (nn (sq (sr (mv U U (ne' U (nn (cd U (λM=>?_) (λM=>?_)))))))))))))));refine sr (mv U U (asg U (kpL [(4,_)] (.cons U .nil) (nn (rt (tr (r1 results97 U ?_)))))));replace hM:=I.ext (Z.n1 q2);exact⟨_,rfl,MRet.err (by unfold y4b;rw[if_pos M]) M hM.fr⟩;refine sk (tn (sr (mv U U (fad U z3i ?_))));replace D:=D.ext q2;refine z0i U D U na5 (mv U U (mv U U ?_));replace hM:=I.ext (Z.n1 q2);refine cl (z0a U (z0a U (z0a U (z0a U z0f)))) (mkC func148) (x4z wS J m o.y (if z7j m.p o=0 then y4l m.p o else 0) (if z7j m.p o=0 then y4l m.p o else 0) _ hM hi hy) U ?_;rintro a1 w3 hR;refine asg U (kpL [(4,_)] (.cons U .nil) (nn (rt (r1 results97 U ?_))));have O:z7j m.p o=0:=Classical.not_not.1 M;rw[if_pos O]at hR;exact⟨_,rfl,by rw[show y4b m.p o=_ from if_neg M];exact hR⟩
theorem x5z:CallOf prog 151:=mkC func151
theorem y3h:z0y prog 183 5 6:=λ_ _=>kr
theorem u8v (wS:World)(ka:MA)(m:MQ)(o:MOp)(w0:World)(hM:MkM τd 183 wS ka w0 m)(hi:MInv m.p)(hn:z2v o.b o.p=0):Rets prog 99 #[.pointer (some ⟨ka.gk,0,none⟩),opV o] w0 λr w'=>MRet τd 183 wS ka (y2v m.p o) r w':=by
 have f7:=hM.fr.size;have D:=hM.k;have f3:=D.lt;have f5:=hM.ly;have f4:=hM.lt;have e7:=(hM.y.out.blk ka.gy (by simp[z0u])).2;have f6:=z2o hn;obtain⟨n,b7⟩:∃n:Nat,o.p=(n:Int):=⟨o.p.toNat,oo⟩;obtain⟨⟨hf,hb⟩,h4,e0⟩:=z3w hi.B;have hfl:m.q.p.flat.length+m.fl.length<=z4f (z1r m.ts):=hi.cnt;have f1:z4f (z1r m.ts)<=2048:=hi.all;have hv:BdOk m.q.p:=hi.B;have f0:=y0l hv o.b o.p;refine we [(0,.pointer (some ⟨ka.gk,0,none⟩)),(1,opV o)] func99 U ntmps99 U (.c2 U U) ?_;have a4:=hM;refine sr (bx U (λg3 w1 f2 J q1 z1=>(asg U (nn (sq ?_)))));replace hM:=a4.ext q1;intro a h;refine z0h none (λwb w'=>Fr [] wb w') z2m ?_;intro w2 q2;have z2:=q2.size;replace hM:=hM.ext q2;replace D:=D.ext (q1.n1 q2);replace J:=J.ext q2;have hC:Fr [] w2 w2:=Fr.refl _ _;have a8:=hM;have a0:=D;have O:=J;refine z0e 0 h U λa h=>z0l 1 h U λa h=>z0c 2 h U z3f U λa h=>z1a (vs:=[_,_]) 3 h U (λ_ hw=>(a0.ext hw)) z4w U U λa h=>z0c 4 h U z3h U λa h=>z1a (vs:=[_,_]) 5 h U (λ_ hw=>(O.ext hw)) z4k U U λa h=>z0d 6 U (z0o h (z0a U (z0a U z0f)) u6f (x2k m.q o.b o.p _ hM.b.at oo hf hb h4 e0) ?_);rintro f8 w3 ⟨I,hq⟩ a h;have z3:=hq.size;replace hM:=hM.ext hq;replace D:=D.ext hq;replace J:=J.ext hq;replace hC:=hC.next hq;have q3:=hq;rw[y1n hn]at I;obtain⟨e8,e9,rfl,e6⟩:=I.sl.form;have b6:=λk hb=>(I.blk k hb).2;refine z0b (z0d 7 U (z0r h U λa h=>?_));refine z0b (z0p ?_);clear hC a8 a0 O;refine bk (h.sub (L':=[(0,_),(3,_),(5,_)]) (.c3 U U U)) (tn (sq (sr (mv U U (lnS U underlying27 (eq' U (nn (cd U (λc0=>?_) (λc0=>?_)))))))));exact sr (asg U (nn (rt (tr (r1 results99 U ⟨_,rfl,MRet.err (if_pos (List.length_eq_zero_iff.1 (show (m.q.p.at o.b o.p).length=0 by omega))) dd hM.fr⟩)))));refine sk (tn (sq ?_));intro a h;refine z0h none (λwb w'=>Fr [] wb w') z2m ?_;intro w4 q4;have z4:=q4.size;replace hM:=hM.ext q4;replace D:=D.ext q4;replace J:=J.ext q4;replace I:=I.ext q4;have hC:Fr [] w4 w4:=Fr.refl _ _;have a8:=hM;have a0:=D;have O:=J;have b4:=I;refine z0e 0 h U λa h=>z0l 1 h U λa h=>z0c 2 h U z3f U λa h=>z1a (vs:=[_,_]) 3 h U (λ_ hw=>(a0.ext hw)) z4w U U λa h=>z0c 4 h U z3h U λa h=>z1a (vs:=[_,_]) 5 h U (λ_ hw=>(O.ext hw)) z4k U U λa h=>z1x 6 10 kr U ?_ ?_;refine z0o h (z0a U (z0a U (z0a U z0f))) x5z (by have x:=y4y m.q o.b n (.slice none 0 0) [] _ hM.b.at (Sl.nil _) hv (by rw[<-b7];exact hn) sp0 sp0 (λi=>by have:=List.nodup_iff_count.1 hv.nd i;simp only[List.count_nil];omega);rw[<-b7]at x;exact x) ?_;rintro _ w5 ⟨⟨q',rfl,hQ,d4⟩,q5⟩ a h;have z5:=q5.size;replace D:=D.ext q5;replace J:=J.ext q5;replace hC:=hC.next q5;have d0:=x2d hQ a4.f oo;refine z0b (z0e 7 h U λa h=>z0m 8 h U λa h=>z0m 9 h U λa h=>z0d 10 U (z0w h x2v U λw6 M q6 hz a h=>?_));obtain⟨a3,hg⟩:∃g,g=w5.heap.size:=⟨_,rfl⟩;rw[<-hg]at M h hz;have e1.gk_6:ka.gk<a3:=by have:=D.lt;omega
 have d3:g3<a3:=by have:=J.lt;omega
 have z6:=q6.size;replace hM:=hM.ext (q5.n1 q6);replace D:=D.ext q6;replace J:=J.ext q6;replace I:=I.ext (q5.n1 q6);first|replace hQ:=BdO.ext hQ q6|replace hQ:=BdO.tf hQ q6 (OffT.one M dd) (OffT.one M dd)
 replace hC:=hC.next q6;refine z0b (z0d 11 U (z0t h U M U y6h λw7 b3 q7 hz a h=>?_));have z7:=q7.size;replace D:=D.fr q7;replace J:=J.fr q7;replace I:=I.fr q7 (by intro k D Z;simp at D;subst D;have:=b6 _ Z;have b8:=(I.blk _ Z).1;omega);first|replace hQ:=BdO.ext hQ q7|replace hQ:=BdO.tf hQ q7 (OffT.one M dd) (OffT.one M dd)
 replace hC:=hC.sp q7;clear M hz;have M:Blk w7 a3 _ [_,_]:=b3;clear b3;refine z0b (z0d 12 U (z0r h U λa h=>?_));refine z0b (z0p ?_);clear hC a8 a0 O b4;refine bk (h.sub (L':=[(0,_),(5,_),(6,_),(7,_)]) (.c4 U U U U)) (tn (sq (sr (mv U U (ne' U (nn (cd U (λc1=>?_) (λc1=>?_))))))));exact absurd U c1;refine sk (tn (sr (mv U U (z0n U M z4w (nlc U (fad U z3f ?_))))));replace hM:=a4.ext (q1.z6 q2 q3 q4 q5 q6 q7);refine z3m (cs':=u6m ka { m with q:=q' }) U hM.k (by intro u hu;simp at hu;rcases hu with rfl|rfl<;>rfl) y6h U (λw8 a1 q8 z8=>?_);replace hM:=hM.beds mtd (hQ.low oo) a1 q8 d0;have D:=hM.k;have a4:=hM;have c9:=hM;have hF:Lw.Own z1f 73 wS.heap.size _ (slv m.fa) m.fl:=hM.f;clear a1;refine kpL [(0,_),(5,_)] (.c2 U U) (nn (sr (mv U U (mv U U (nlc U (fad U y3h (z0i U D U z8o (mv U U ?_))))))));replace I:=I.fr q8 (by intro k D Z;simp at D;subst D;have:=b6 _ Z;have b8:=(I.blk _ Z).1;omega);have a5:=hF;refine z2l U hF I.sl z4x (λe4 w9 hF q9 a6=>?_) (hM:=(by unfold maxLen;omega)) (hb:=oo);have d6:=q9;obtain⟨a9,b0,rfl,d7⟩:=hF.sl.form;have b5:∀k∈z0u (.slice a9 (m.fl++(m.q.p.at o.b o.p)).length b0),k∈z0u (slv m.fa)\/_<=k:=λk D=>by
  rcases a6 with e|e|e
  exact .inl (congrArg z0u e▸D);exact .inl (e▸D);rw[e,List.mem_singleton]at D;exact .inr (Nat.le_of_eq D.symm)
 have z9:=q9.size;replace D:=D.fr q9 (λd1=>a5.neB D dd d1);refine nlc U (fad U y3h (z3p U D U u9h (λf9 a1 e2 g9=>?_)));have b9:=c9.fall mtd dd (u:=(a9,(m.fl++(m.q.p.at o.b o.p)).length,b0)) hF d6 b5 a1 e2;refine kpL [] .nil (nn (sr (asg U (nn (rt (r1 results99 U ?_))))));exact⟨_,rfl,MRet.ok (by rw[show y2v m.p o=_ from if_neg (λe=>c0 (by rw[show (m.q.p.at o.b o.p)=[] from e];rfl))];exact congrArg Except.ok (by unfold MQ.p;simp only[d4])) b9⟩;refine z0w h x2v U λg0 M a7 hz a h=>?_;obtain⟨a3,hg⟩:∃g,g=w4.heap.size:=⟨_,rfl⟩;rw[<-hg]at M h hz;have e1.gk_6:ka.gk<a3:=by have:=D.lt;omega
 have d3:g3<a3:=by have:=J.lt;omega
 have h0:=a7.size;replace hM:=hM.ext a7;replace hC:=hC.next a7;refine z0b (z0d 6 U (z0o h (z0a U (z0a U (z0a U z0f))) x5z (by have x:=y4y m.q o.b n (.slice none 0 0) [] _ hM.b.at (Sl.nil _) hv (by rw[<-b7];exact hn) sp0 sp0 (λi=>by have:=List.nodup_iff_count.1 hv.nd i;simp only[List.count_nil];omega);rw[<-b7]at x;exact x) ?_));rintro _ g1 ⟨⟨q',rfl,hQ,d4⟩,q12⟩ a h;have h1:=q12.size;replace hM:=hM.ext q12;replace D:=D.ext (a7.n1 q12);replace J:=J.ext (a7.n1 q12);replace I:=I.ext (a7.n1 q12);replace M:=M.ext q12;replace hC:=hC.next q12;have d0:=x2d hQ a4.f oo;refine z0b (z0e 7 h U λa h=>z0m 8 h U λa h=>z0m 9 h U λa h=>z0d 11 U (z0t h U M U y6h λe5 b3 a2 hz a h=>?_));have h2:=a2.size;replace D:=D.fr a2;replace J:=J.fr a2;replace I:=I.fr a2 (by intro k D Z;simp at D;subst D;have:=b6 _ Z;have b8:=(I.blk _ Z).1;omega);first|replace hQ:=BdO.ext hQ a2|replace hQ:=BdO.tf hQ a2 (OffT.one M dd) (OffT.one M dd)
 replace hC:=hC.sp a2;clear M hz;have M:Blk e5 a3 _ [_,_]:=b3;clear b3;refine z0b (z0d 12 U (z0r h U λa h=>?_));refine z0b (z0p ?_);clear hC a8 a0 O b4;refine bk (h.sub (L':=[(0,_),(5,_),(6,_),(7,_)]) (.c4 U U U U)) (tn (sq (sr (mv U U (ne' U (nn (cd U (λc1=>?_) (λc1=>?_))))))));exact absurd U c1;refine sk (tn (sr (mv U U (z0n U M z4w (nlc U (fad U z3f ?_))))));replace hM:=a4.ext (q1.z6 q2 q3 q4 a7 q12 a2);refine z3m (cs':=u6m ka { m with q:=q' }) U hM.k (by intro u hu;simp at hu;rcases hu with rfl|rfl<;>rfl) y6h U (λg6 a1 d9 h3=>?_);replace hM:=hM.beds mtd (hQ.low oo) a1 d9 d0;have D:=hM.k;have a4:=hM;have c9:=hM;have hF:Lw.Own z1f 73 wS.heap.size _ (slv m.fa) m.fl:=hM.f;clear a1;refine kpL [(0,_),(5,_)] (.c2 U U) (nn (sr (mv U U (mv U U (nlc U (fad U y3h (z0i U D U z8o (mv U U ?_))))))));replace I:=I.fr d9 (by intro k D Z;simp at D;subst D;have:=b6 _ Z;have b8:=(I.blk _ Z).1;omega);have a5:=hF;refine z2l U hF I.sl z4x (λe4 g7 hF d5 a6=>?_) (hM:=(by unfold maxLen;omega)) (hb:=oo);have d6:=d5;obtain⟨a9,b0,rfl,d7⟩:=hF.sl.form;have b5:∀k∈z0u (.slice a9 (m.fl++(m.q.p.at o.b o.p)).length b0),k∈z0u (slv m.fa)\/_<=k:=λk D=>by
  rcases a6 with e|e|e
  exact .inl (congrArg z0u e▸D);exact .inl (e▸D);rw[e,List.mem_singleton]at D;exact .inr (Nat.le_of_eq D.symm)
 have h5:=d5.size;replace D:=D.fr d5 (λd1=>a5.neB D dd d1);refine nlc U (fad U y3h (z3p U D U u9h (λg8 a1 e3 h6=>?_)));have b9:=c9.fall mtd dd (u:=(a9,(m.fl++(m.q.p.at o.b o.p)).length,b0)) hF d6 b5 a1 e3;refine kpL [] .nil (nn (sr (asg U (nn (rt (r1 results99 U ?_))))));exact⟨_,rfl,MRet.ok (by rw[show y2v m.p o=_ from if_neg (λe=>c0 (by rw[show (m.q.p.at o.b o.p)=[] from e];rfl))];exact congrArg Except.ok (by unfold MQ.p;simp only[d4])) b9⟩
theorem x0c (b p r:Int)(w0:World)(hn:z2v b p=0)(hr:-4<=r/\r<=4):Rets prog 122 #[.agg #[.int .u8 b,.int .i64 p],.int .i64 r] w0 λv w'=>(∃b' p':Int,v=.tuple #[.agg #[.int .u8 b',.int .i64 p'],.int .i64 (if z2v (1-b) (z6r b p r)≠0 then 11 else 0)]/\(z2v (1-b) (z6r b p r)=0->b'=1-b/\p'=z6r b p r))/\Fr [] w0 w':=by
 have a3:=z2o hn;refine we [(0,.agg #[.int .u8 b,.int .i64 p]),(1,.int .i64 r)] func122 U ntmps122 U (.c2 U U) (sr (bx U (λg2 w1 a4 J q1 z1=>(al v1n U (λg4 w2 a5 D q2 z2=>(asg U (nn (sq (sr ?_)))))))));replace J:=J.ext q2;refine z0n U J z4k (cl (ev1 U) u4h (z4t _ _ _) U ?_);rintro _ w3 ⟨rfl,Z⟩;have z3:=Z.size;refine ne' U (nn (cd U (λc0=>?_) (λc0=>?_)));refine sr (z1y (cs:=[_,_]) z0f x1i z0s U ?_);replace D:=D.ext Z;exact z0k (vs:=[_,_]) U D y6l (λw4 D q4 z4=>(asg U (nn (rt (tr (rCT results122 U D z4k U (absurd hn c0)))))));refine sk (tn (sq (sr (mv U U (cl (ev1 U) (mkC func168) (x3g _ _) U ?_)))));rintro _ w5 ⟨rfl,q5⟩;have z5:=q5.size;refine nt' U (nn (cd U (λc1=>?_) (λc1=>?_)));refine sr (z1y (cs:=[_,_]) z0f x1i z0s U ?_);replace D:=D.ext (Z.n1 q5);exact z0k (vs:=[_,_]) U D y6l (λw6 D q6 z6=>(asg U (nn (rt (tr (rCT results122 U D z4k U (absurd hr c1)))))));refine sk (tn (sr (fad U z6x ?_)));replace J:=J.ext (Z.n1 q5);refine z0i U J U na3 (mv U U (z2p U (wi6 oo) (z1y (cs:=[_,_]) (ev2 U) x1i (z0g U (z0g U z0s)) U ?_)));refine al v1n U (λg6 w7 a6 I q7 z7=>(z0k (vs:=[_,_]) U I y6l (λw8 I q8 z8=>(kpL [(1,_),(2,_),(4,_),(6,_)] (.c4 U U U U) (nn (jn (ι:=Unit) [(4,_),(6,_)] (λ_j=>[]) (λ_j w'=>Fr [g6] w8 w'/\Blk w' g6 45 [.int .u8 (1-b),.int .i64 (z6r b p r)]) (.c2 U U) ?_ ?_))))));refine sr (fad U z6v ?_);replace J:=(J.ext q7).fr q8;refine z0i U J U x9d (eq' U (nn (cd U (λc2=>?_) (λc2=>?_))));refine rg (fad U z6x (z0i U J U na3 (mv U U (z1b U (wi6 oo) (z1y (cs:=[_,_]) (ev2 U) x1i (z0g U (z0g U z0s)) U ?_)))));exact z0k (vs:=[_,_]) U I y6l (λw9 I q9 z9=>(kpL [(4,_),(6,_)] (.c2 U U) (nl (jE (()) (.c2 U U) ⟨((Fr.refl [g6] _).z1 q9),(by rw[show z6r b p r=p+r from if_pos c2,show 1-b=0 by omega];exact I)⟩))));exact sk (jE (()) (.c2 U U) ⟨(Fr.refl _ _),(by rw[show z6r b p r=p-r from if_neg c2,show 1-b=1 by omega];exact I)⟩);rintro _j a7 ⟨O,I⟩;have b3:=O.size;have a0:=I.lt;refine kpC [(4,_),(6,_)] (.c2 U U) (sq (sr (z0n U I z4k (cl (ev1 U) u4h (z4t _ _ _) U ?_))));rintro _ a8 ⟨rfl,M⟩;have b4:=M.size;refine ne' U (nn (cd U (λc3=>?_) (λc3=>?_)));refine sr (z1y (cs:=[_,_]) z0f x1i z0s U ?_);replace D:=(((D.ext (Z.n2 q5 q7)).fr q8).fr O).ext M;exact z0k (vs:=[_,_]) U D y6l (λa9 D a1 b5=>(asg U (nn (rt (tr (rCT results122 U D z4k U ⟨_,rfl,⟨0,0,by rw[if_pos c3],λe=>absurd e c3⟩,(((q1.z6 q2 Z q5 q7 q8 O).n1 M).z1 a1)⟩))))));refine sk (tn (sr ?_));replace I:=I.ext M;refine z0n U I z4k ?_;replace D:=(((D.ext (Z.n2 q5 q7)).fr q8).fr O).ext M;exact z0k (vs:=[_,_]) U D y6l (λb0 D a2 b6=>(asg U (nn (rt (rCT results122 U D z4k U ⟨_,rfl,⟨_,_,by rw[if_neg c3],λ_=>⟨rfl,rfl⟩⟩,(((q1.z6 q2 Z q5 q7 q8 O).n1 M).z1 a2)⟩)))))
def BdOIf (c:Prop)(Sτ I base:Nat)(w:World)(q:BdQ):Prop:=c->BdO Sτ I base w q
theorem BdOIf.ext {c:Prop}{D I base:Nat}{w w':World}{q:BdQ}(h:BdOIf c D I base w q)(hf:Fr [] w w'):BdOIf c D I base w' q:=λJ=>(h J).ext hf
theorem BdOIf.tf {c:Prop}{D I base:Nat}{w w':World}{q:BdQ}{S:List Nat}(h:BdOIf c D I base w q)(hf:Fr S w w')(M:OffT w D S)(J:OffT w I S):BdOIf c D I base w' q:=λO=>BdO.tf (h O) hf M J
theorem x3d {p:MSt}{o:MOp}(h:o.b=0\/o.b=1):y2y p.B o.b o.p (z6r o.b o.p p.rk)=z9y p o:=by
 unfold y2y z9y;rcases h with e|e<;>rw[e]<;>rfl
theorem j1o (wS:World)(ka:MA)(m:MQ)(o:MOp)(w0:World)(hM:MkM τd 183 wS ka w0 m)(hi:MInv m.p)(hn:z2v o.b o.p=0):Rets prog 98 #[.pointer (some ⟨ka.gk,0,none⟩),opV o] w0 λr w'=>MRet τd 183 wS ka (z9d m.p o) r w':=by
 have i9:=hM.fr.size;have O:=hM.k;have i3:=O.lt;have i5:=hM.ly;have i4:=hM.lt;have h6:=(hM.y.out.blk ka.gy (by simp[z0u])).2;have e7:=z2o hn;obtain⟨n,d5⟩:∃n:Nat,o.p=(n:Int):=⟨o.p.toNat,oo⟩;obtain⟨⟨hf,hb⟩,h4,f3⟩:=z3w hi.B;have hv:BdOk m.q.p:=hi.B;have i0:=y0l hv o.b o.p;have e8:-4<=m.rk/\m.rk<=4:=hi.rk;have i7:=y1y o.b o.p m.rk;have i8:=y1y (1-o.b) (z6r o.b o.p m.rk) m.rk;refine we [(0,.pointer (some ⟨ka.gk,0,none⟩)),(1,opV o)] func98 U ntmps98 U (.c2 U U) ?_;have a2:=hM;refine sr (bx U (λg3 w1 i1 D q1 z1=>(asg U (nn (sq (sq ?_))))));replace hM:=a2.ext q1;intro a h;refine z0h none (λwb w'=>Fr [] wb w') z2m ?_;intro w2 q2;have z2:=q2.size;replace hM:=hM.ext q2;replace O:=O.ext (q1.n1 q2);replace D:=D.ext q2;have hC:Fr [] w2 w2:=Fr.refl _ _;have a3:=hM;have Z:=O;have M:=D;refine z0e 0 h U λa h=>z0l 1 h U λa h=>z0c 2 h U z3f U λa h=>z1a (vs:=[_,_]) 3 h U (λ_ hw=>(Z.ext hw)) z4w U U λa h=>z0c 4 h U z3h U λa h=>z1a (vs:=[_,_]) 5 h U (λ_ hw=>(M.ext hw)) z4k U U λa h=>z0d 6 U (z0o h (z0a U (z0a U z0f)) u6f (x2k m.q o.b o.p _ hM.b.at oo hf hb h4 f3) ?_);rintro j0 w3 ⟨e1,hq⟩ a h;have z3:=hq.size;replace hM:=hM.ext hq;replace O:=O.ext hq;replace D:=D.ext hq;replace hC:=hC.next hq;have q3:=hq;rw[y1n hn]at e1;obtain⟨h8,h9,rfl,h5⟩:=e1.sl.form;refine z0b (z6p 7 h wn U underlying27 U λa h=>u1a 8 hC h wn U U U U λa h=>z0p ?_);clear hC a3 Z M;refine bk (h.sub (L':=[(0,_),(3,_),(19,_)]) (.c3 U U U)) (tn (cd U (λc0=>?_) (λc0=>?_)));exact sr (asg U (nn (rt (tr (r1 results98 U ⟨_,rfl,MRet.err (if_pos (List.length_eq_zero_iff.1 (show (m.q.p.at o.b o.p).length=0 by omega))) dd hM.fr⟩)))));have d0:(m.q.p.at o.b o.p)≠[]:=λe=>c0 (by rw[e];rfl);refine sk (tn (jn (ι:=Nat×Int×Int) [(0,_),(3,_)] (λz_=>[(5,.pointer (some ⟨z_.1,0,none⟩)),(6,.int .i64 (if z2v (1-o.b) (z6r o.b o.p m.rk)≠0 then 11 else 0))]) (λz_ w'=>Fr [] w3 w'/\(w3.heap.size<=z_.1/\Blk w' z_.1 45 [.int .u8 z_.2.1,.int .i64 z_.2.2])/\(z2v (1-o.b) (z6r o.b o.p m.rk)=0->z_.2.1=1-o.b/\z_.2.2=z6r o.b o.p m.rk)) (.c2 U U) ?_ ?_));intro a h;refine z0h none (λwb w'=>Fr [] wb w') z2m ?_;intro w4 q4;have z4:=q4.size;replace hM:=hM.ext q4;replace O:=O.ext q4;replace D:=D.ext q4;have hC:Fr [] w4 w4:=Fr.refl _ _;have a3:=hM;have Z:=O;have M:=D;refine z0c 0 h U z3h U λa h=>z1a (vs:=[_,_]) 1 h U (λ_ hw=>(M.ext hw)) z4k U U λa h=>z0e 2 h U λa h=>z0l 3 h U λa h=>z0c 4 h U z3s U λa h=>z0j 5 h U (λ_ hw=>Z.ext hw) U na3 U λa h=>z1x 6 10 kr U ?_ ?_;refine z0o h (z0a U (z0a U z0f)) (mkC func122) (x0c o.b o.p m.rk _ hn e8) ?_;rintro _ w5 ⟨⟨bn,pn,rfl,a0⟩,q5⟩ a h;have z5:=q5.size;replace O:=O.ext q5;replace D:=D.ext q5;replace hC:=hC.next q5;refine z0b (z0e 7 h U λa h=>z0m 8 h U λa h=>z0m 9 h U λa h=>z0d 10 U (z0w h v1n U λw6 I q6 hz a h=>?_));obtain⟨b4,hg⟩:∃g,g=w5.heap.size:=⟨_,rfl⟩;rw[<-hg]at I h hz;have e2.gk_5:ka.gk<b4:=by have:=O.lt;omega
 have e3:g3<b4:=by have:=D.lt;omega
 have z6:=q6.size;replace O:=O.ext q6;replace D:=D.ext q6;replace hC:=hC.next q6;refine z0b (z0d 11 U (z0t h U I U y6l ?_ (h1:=(by first|(simp[Value.oneCell',S];done)|exact z3a.one (m.ys.getD i yq0)))));clear h a;intro w7 a0 q7 hz a h;have z7:=q7.size;replace O:=O.fr q7;replace D:=D.fr q7;replace hC:=hC.sp q7;clear I hz;have I:Blk w7 b4 _ [_,_]:=a0;clear a0;refine z0b (z0d 12 U (z0r h U λa h=>?_));refine z0b (z0p ?_);clear hC a3 Z M;exact bk (h.sub (L':=[(0,_),(3,_),(5,_),(6,_)]) (.c4 U U U U)) (jE ((b4,bn,pn)) (.c4 U U U U) ⟨(q4.z3 q5 q6 q7),⟨⟨sm,I⟩,a0⟩⟩);refine z0w h v1n U λw8 I q8 hz a h=>?_;obtain⟨b4,hg⟩:∃g,g=w4.heap.size:=⟨_,rfl⟩;rw[<-hg]at I h hz;have e2.gk_5:ka.gk<b4:=by have:=O.lt;omega
 have e3:g3<b4:=by have:=D.lt;omega
 have z8:=q8.size;replace hC:=hC.next q8;refine z0b (z0d 6 U (z0o h (z0a U (z0a U z0f)) (mkC func122) (x0c o.b o.p m.rk _ hn e8) ?_));rintro _ w9 ⟨⟨bn,pn,rfl,a0⟩,q9⟩ a h;have z9:=q9.size;replace O:=O.ext (q8.n1 q9);replace D:=D.ext (q8.n1 q9);replace I:=I.ext q9;replace hC:=hC.next q9;refine z0b (z0e 7 h U λa h=>z0m 8 h U λa h=>z0m 9 h U λa h=>z0d 11 U (z0t h U I U y6l ?_ (h1:=(by first|(simp[Value.oneCell',S];done)|exact z3a.one (m.ys.getD i yq0)))));clear h a;intro g1 a0 d9 hz a h;have k1:=d9.size;replace O:=O.fr d9;replace D:=D.fr d9;replace hC:=hC.sp d9;clear I hz;have I:Blk g1 b4 _ [_,_]:=a0;clear a0;refine z0b (z0d 12 U (z0r h U λa h=>?_));refine z0b (z0p ?_);clear hC a3 Z M;exact bk (h.sub (L':=[(0,_),(3,_),(5,_),(6,_)]) (.c4 U U U U)) (jE ((b4,bn,pn)) (.c4 U U U U) ⟨(q4.z3 q8 q9 d9),⟨⟨sm,I⟩,a0⟩⟩);rintro⟨g5,bn,pn⟩ j1 ⟨a8,⟨⟨f7,I⟩,a0⟩⟩;have k2:=a8.size;have f2:=I.lt;simp only at f7 I a0;refine kpC [(0,_),(3,_),(5,.pointer (some ⟨g5,0,none⟩)),(6,_)] (.c4 U U U U) (sq (sr (mv U U (ne' U (nn (cd U (λc1=>?_) (λc1=>?_)))))));refine sr (mv U U (asg U (kpL [(4,_)] (.cons U .nil) (nn (rt (tr (r1 results98 U ?_)))))));replace hM:=a2.ext (q1.n3 q2 q3 a8);have a7:z2v (1-o.b) (z6r o.b o.p m.rk)≠0:=λe=>c1 (by rw[if_neg (λh=>h e)]);exact⟨_,rfl,by rw[if_pos a7];exact MRet.err (by rw[z9d,if_neg d0,if_pos a7]) dd hM.fr⟩;have a7:z2v (1-o.b) (z6r o.b o.p m.rk)=0:=Classical.not_not.1 λe=>c1 (by rw[if_pos e];decide);obtain⟨rfl,rfl⟩:=a0 a7;have h7:=z2o a7;obtain⟨n2,d4⟩:∃n2:Nat,z6r o.b o.p m.rk=(n2:Int):=⟨(z6r o.b o.p m.rk).toNat,oo⟩;refine sk (tn (sq ?_));replace hM:=a2.ext (q1.n3 q2 q3 a8);intro a h;refine z0h none (λwb w'=>Fr [] wb w') z2m ?_;intro f1 a9;have k4:=a9.size;replace hM:=hM.ext a9;replace O:=O.ext (a8.n1 a9);replace D:=D.ext (a8.n1 a9);replace I:=I.ext a9;have hC:Fr [] f1 f1:=Fr.refl _ _;have a3:=hM;have Z:=O;have M:=D;have a4:=I;refine z0c 0 h U z3h U λa h=>z1a (vs:=[_,_]) 1 h U (λ_ hw=>(M.ext hw)) z4k U U λa h=>z0e 2 h U λa h=>z0l 3 h U λa h=>z0c 4 h U z3s U λa h=>z0j 5 h U (λ_ hw=>Z.ext hw) U na3 U λa h=>z0v 7 h U (λ_ hw=>a4.ext hw) z4k U λa h=>z0e 8 h U λa h=>z0l 9 h U λa h=>z0c 10 h U z3s U λa h=>z0j 11 h U (λ_ hw=>Z.ext hw) U na3 U λa h=>z0d 6 U (z0o h (z0a U (z0a U z0f)) x5q (y0q _ _ _ _ oo) ?_);rintro _ j2 ⟨rfl,a5⟩ a h;have k5:=a5.size;replace hC:=hC.next a5;refine z0b (z0d 12 U (z0o h (z0a U (z0a U z0f)) x5q (y0q _ _ _ _ oo) ?_));rintro _ g6 ⟨rfl,a6⟩ a h;have k6:=a6.size;replace hM:=hM.ext (a5.n1 a6);replace O:=O.ext (a5.n1 a6);replace D:=D.ext (a5.n1 a6);replace I:=I.ext (a5.n1 a6);replace hC:=hC.next a6;refine z0b (j8w 13 kr kr kr hC h wn U U U U λa h=>z4m 14 h U (by first|exact i6 oo|rfl) U λa h=>z0d 15 U (z0r h U λa h=>?_));refine z0b (z0p ?_);clear hC a3 Z M a4;refine bk (h.sub (L':=[(0,_),(3,_),(5,_),(7,_)]) (.c4 U U U U)) (tn (sq (sr (mv U U (nlc U (fad U z3e (z0i U O U y4d (lnS U underlying51 (mv U U (nn (bl (lpK (ι:=Nat) [(0,_),(3,_),(5,_),(7,_),(51,_),(52,_)] (λi=>[(53,.int .i64 (i:Int))]) (λi w'=>Fr [] g6 w'/\i<=6/\∀k,k<i->¬((m.ys.getD k yq0).inn=true/\(m.ys.getD k yq0).pl=(u1f m.p o))) (λi=>6-i) 0 (.c7 U U U U U U U) ⟨Fr.refl _ _,⟨Nat.zero_le _,λj h=>absurd h oo⟩⟩ ?_))))))))))));rintro i j3 ⟨b0,⟨hi,hz⟩⟩;have k7:=b0.size;refine kpC [(0,_),(3,_),(5,_),(7,_),(51,_),(52,_),(53,_)] (.c7 U U U U U U U) (sr (lt' U (nn (sq (cd U (λc2=>?_) (λc2=>?_))))));refine sk (tn (sq (bl (sr ?_))));replace hM:=a2.ext ((q1.n6 q2 q3 a8 a9 a5 a6).n1 b0);refine z1d (yq0) U hM.y.out.sl U y4n z1g (λh3 e6=>?_);refine z1l U (e6 _ hM.y.out.sl) z7g (al y3y U (λg9 j4 i2 e0 e9 k8=>?_));refine z0k (vs:=[_,_,_,_,_]) U e0 z7i (λj5 e0 f0 k9=>?_) (h1:=(by first|(simp[Value.oneCell',S];done)|exact z3a.one (m.ys.getD i yq0)));refine nn (sq (rbo (r:=64) (L':=[(0,_),(3,_),(5,_),(7,_),(51,_),(52,_),(53,_)]) (((m.ys.getD i yq0).inn=true/\((m.ys.getD i yq0).pl=((min (z2h o.b o.p m.rk) (z2h (1-o.b) (z6r o.b o.p m.rk) m.rk))+1)))) (.c7 U U U U U U U) ?_ ?_));refine fad U y1p (z0i U e0 U na4 (mv U U (gs 59 U (λg0=>?_) (λg0=>?_))));exact gY U (fad U z7m (gY U (z0i U e0 U na3 (gY U (mv U U (gY U (eq' U (pkt U (rbe U (.c7 U U U U U U U))))))))));exact gN U (gN U (gN U (gN U (pkf U (rbe U (.c7 U U U U U U U))))));refine tn (cd U (λc3=>?_) (λc3=>?_));refine sr (asg U (kpL [(4,_)] (.cons U .nil) (nn (rt (rb (tr (tr (rb (tr (r1 results98 U ?_))))))))));replace hM:=a2.ext ((((q1.n6 q2 q3 a8 a9 a5 a6).n1 b0).n1 e9).z1 f0);exact⟨_,rfl,MRet.err (by rw[z9d,if_neg d0,if_neg (λh=>h a7),if_pos (⟨_,List.mem_map.2 ⟨m.ys.getD i yq0,z0z oo,rfl⟩,c3⟩:∃y∈m.p.ys,y.inn=true/\y.pl=u1f m.p o)]) dd hM.fr⟩;refine sk (bn' (tn (rg (z1b U (wi6 oo) (mv U U (nl ?_))))));exact lpE (i+1) (.c7 U U U U U U U) ⟨(b0.z2 e9 f0),⟨oo,λk h=>by
  by_cases e:k=i;subst e;exact c3;exact hz k oo⟩⟩ oo
 have b7:¬ ∃y∈m.p.ys,y.inn=true/\y.pl=u1f m.p o:=by
  rintro⟨y,hy,h1,h2⟩;obtain⟨z,f6,rfl⟩:=List.mem_map.1 hy;obtain⟨k,f5,rfl⟩:=List.getElem_of_mem f6;refine hz k oo ?_;rw[List.getD,List.getElem?_eq_getElem f5];exact⟨h1,h2⟩
 refine ex (te (te (xh (tn (sq ?_)))));replace hM:=a2.ext ((q1.n6 q2 q3 a8 a9 a5 a6).n1 b0);intro a h;refine z0h none (λwb w'=>Fr [] wb w') z2m ?_;intro e5 b8;have l0:=b8.size;replace hM:=hM.ext b8;replace O:=O.ext (b0.n1 b8);replace D:=D.ext (b0.n1 b8);replace I:=I.ext (b0.n1 b8);have hC:Fr [] e5 e5:=Fr.refl _ _;have a3:=hM;have Z:=O;have M:=D;have a4:=I;refine z0e 0 h U λa h=>z0l 1 h U λa h=>z0c 2 h U z3f U λa h=>z1a (vs:=[_,_]) 3 h U (λ_ hw=>(Z.ext hw)) z4w U U λa h=>z0c 4 h U z3h U λa h=>z1a (vs:=[_,_]) 5 h U (λ_ hw=>(M.ext hw)) z4k U U λa h=>z0v 6 h U (λ_ hw=>a4.ext hw) z4k U λa h=>z1x 7 11 kr U ?_ ?_;refine z0o h (z0a U (z0a U (z0a U z0f))) (mkC func123) (by have x:=y9q m.q o.b n n2 _ hM.b.at hv (by rw[<-d5];exact hn) (by rw[<-d4];exact a7) (by rw[<-d5];exact d0);rw[<-d5,<-d4]at x;exact x) ?_;rintro _ g7 ⟨⟨q',rfl,d6⟩,q19⟩ a h;have l1:=q19.size;replace O:=O.ext q19;replace D:=D.ext q19;replace I:=I.ext q19;replace hC:=hC.next q19;have hQ:BdOIf (¬4<(m.q.p.at o.b o.p).length+(m.q.p.at (1-o.b) (z6r o.b o.p m.rk)).length) 27 73 _ _ q':=λhc=>(d6 hc).1;have e4:=λhc=>(d6 hc).2;have d3:=λhc=>x2d (hQ hc) a2.f oo;refine z0b (z0e 8 h U λa h=>z0m 9 h U λa h=>z0m 10 h U λa h=>z0d 11 U (z0w h x2v U λj6 J b3 hz a h=>?_));obtain⟨a1,hg⟩:∃g,g=g7.heap.size:=⟨_,rfl⟩;rw[<-hg]at J h hz;have e2.gk_10:ka.gk<a1:=by have:=O.lt;omega
 have b5:g3<a1:=by have:=D.lt;omega
 have b5:g5<a1:=by have:=I.lt;omega
 have l2:=b3.size;replace hM:=hM.ext (q19.n1 b3);replace O:=O.ext b3;replace D:=D.ext b3;replace I:=I.ext b3;first|replace hQ:=BdOIf.ext hQ b3|replace hQ:=BdOIf.tf hQ b3 (OffT.one J dd) (OffT.one J dd)
 replace hC:=hC.next b3;refine z0b (z0d 12 U (z0t h U J U y6h ?_ (h1:=(by first|(simp[Value.oneCell',S];done)|exact z3a.one (m.ys.getD i yq0)))));clear h a;intro g8 a0 b9 hz a h;have l3:=b9.size;replace O:=O.fr b9;replace D:=D.fr b9;replace I:=I.fr b9;first|replace hQ:=BdOIf.ext hQ b9|replace hQ:=BdOIf.tf hQ b9 (OffT.one J dd) (OffT.one J dd)
 replace hC:=hC.sp b9;clear J hz;have J:Blk g8 a1 _ [_,_]:=a0;clear a0;refine z0b (z0d 13 U (z0r h U λa h=>?_));refine z0b (z0p ?_);clear hC a3 Z M a4;refine bk (h.sub (L':=[(0,_),(6,_),(10,_)]) (.c3 U U U)) (tn (sq (sr (mv U U (eq' U (nn (cd U (λc4=>?_) (λc4=>?_))))))));have b6:¬4<(m.q.p.at o.b o.p).length+(m.q.p.at (1-o.b) (z6r o.b o.p m.rk)).length:=λe=>by rw[if_pos e]at c4;exact absurd c4 dd
 replace hQ:=hQ b6;replace d3:=d3 b6;refine rg (mv U U (z0n U J z4w (nlc U (fad U z3f ?_))));replace hM:=a2.ext ((((q1.n6 q2 q3 a8 a9 a5 a6).n1 b0).n1 b8).z3 q19 b3 b9);refine z3m (cs':=u6m ka { m with q:=q' }) U hM.k (by intro u hu;simp at hu;rcases hu with rfl|rfl<;>rfl) y6h U (λj7 d7 f8 l4=>?_);replace hM:=hM.beds mtd (hQ.low oo) d7 f8 d3;have O:=hM.k;have a2:=hM;have f4:=hM;have hF:Lw.Own z1f 73 wS.heap.size _ (slv m.fa) m.fl:=hM.f;clear d7;refine kpL [(6,_)] (.cons U .nil) (nl (tn (sr (mv U U (asg U (nn (rt (r1 results98 U ?_))))))));exact⟨_,rfl,by rw[c4];exact MRet.ok (by rw[z9d,if_neg d0,if_neg (λh=>h a7),if_neg b7,if_neg b6];exact congrArg Except.ok (by have hj:y2y m.q.p o.b o.p (z6r o.b o.p m.rk)=z9y m.p o:=x3d (p:=m.p) e7.1;unfold MQ.p;simp only[e4 b6];rw[hj])) hM⟩;refine sk (tn (sr (mv U U (asg U (nn (rt (r1 results98 U ?_)))))));replace hM:=a2.ext ((((q1.n6 q2 q3 a8 a9 a5 a6).n1 b0).n1 b8).z3 q19 b3 b9);exact⟨_,rfl,MRet.err (by rw[z9d,if_neg d0,if_neg (λh=>h a7),if_neg b7,if_pos (Classical.not_not.1 λe=>c4 (if_neg e))];rw[if_pos (Classical.not_not.1 λe=>c4 (if_neg e))]) c4 hM.fr⟩;refine z0w h x2v U λj8 J d1 hz a h=>?_;obtain⟨a1,hg⟩:∃g,g=e5.heap.size:=⟨_,rfl⟩;rw[<-hg]at J h hz;have e2.gk_10:ka.gk<a1:=by have:=O.lt;omega
 have b5:g3<a1:=by have:=D.lt;omega
 have b5:g5<a1:=by have:=I.lt;omega
 have l5:=d1.size;replace hM:=hM.ext d1;replace hC:=hC.next d1;refine z0b (z0d 7 U (z0o h (z0a U (z0a U (z0a U z0f))) (mkC func123) (by have x:=y9q m.q o.b n n2 _ hM.b.at hv (by rw[<-d5];exact hn) (by rw[<-d4];exact a7) (by rw[<-d5];exact d0);rw[<-d5,<-d4]at x;exact x) ?_));rintro _ j9 ⟨⟨q',rfl,d6⟩,q24⟩ a h;have l6:=q24.size;replace hM:=hM.ext q24;replace O:=O.ext (d1.n1 q24);replace D:=D.ext (d1.n1 q24);replace I:=I.ext (d1.n1 q24);replace J:=J.ext q24;replace hC:=hC.next q24;have hQ:BdOIf (¬4<(m.q.p.at o.b o.p).length+(m.q.p.at (1-o.b) (z6r o.b o.p m.rk)).length) 27 73 _ _ q':=λhc=>(d6 hc).1;have e4:=λhc=>(d6 hc).2;have d3:=λhc=>x2d (hQ hc) a2.f oo;refine z0b (z0e 8 h U λa h=>z0m 9 h U λa h=>z0m 10 h U λa h=>z0d 12 U (z0t h U J U y6h ?_ (h1:=(by first|(simp[Value.oneCell',S];done)|exact z3a.one (m.ys.getD i yq0)))));clear h a;intro h0 a0 c9 hz a h;have l7:=c9.size;replace O:=O.fr c9;replace D:=D.fr c9;replace I:=I.fr c9;first|replace hQ:=BdOIf.ext hQ c9|replace hQ:=BdOIf.tf hQ c9 (OffT.one J dd) (OffT.one J dd)
 replace hC:=hC.sp c9;clear J hz;have J:Blk h0 a1 _ [_,_]:=a0;clear a0;refine z0b (z0d 13 U (z0r h U λa h=>?_));refine z0b (z0p ?_);clear hC a3 Z M a4;refine bk (h.sub (L':=[(0,_),(6,_),(10,_)]) (.c3 U U U)) (tn (sq (sr (mv U U (eq' U (nn (cd U (λc4=>?_) (λc4=>?_))))))));have b6:¬4<(m.q.p.at o.b o.p).length+(m.q.p.at (1-o.b) (z6r o.b o.p m.rk)).length:=λe=>by rw[if_pos e]at c4;exact absurd c4 dd
 replace hQ:=hQ b6;replace d3:=d3 b6;refine rg (mv U U (z0n U J z4w (nlc U (fad U z3f ?_))));replace hM:=a2.ext ((((q1.n6 q2 q3 a8 a9 a5 a6).n1 b0).n1 b8).z3 d1 q24 c9);refine z3m (cs':=u6m ka { m with q:=q' }) U hM.k (by intro u hu;simp at hu;rcases hu with rfl|rfl<;>rfl) y6h U (λk0 d7 f9 l8=>?_);replace hM:=hM.beds mtd (hQ.low oo) d7 f9 d3;have O:=hM.k;have a2:=hM;have f4:=hM;have hF:Lw.Own z1f 73 wS.heap.size _ (slv m.fa) m.fl:=hM.f;clear d7;refine kpL [(6,_)] (.cons U .nil) (nl (tn (sr (mv U U (asg U (nn (rt (r1 results98 U ?_))))))));exact⟨_,rfl,by rw[c4];exact MRet.ok (by rw[z9d,if_neg d0,if_neg (λh=>h a7),if_neg b7,if_neg b6];exact congrArg Except.ok (by have hj:y2y m.q.p o.b o.p (z6r o.b o.p m.rk)=z9y m.p o:=x3d (p:=m.p) e7.1;unfold MQ.p;simp only[e4 b6];rw[hj])) hM⟩;refine sk (tn (sr (mv U U (asg U (nn (rt (r1 results98 U ?_)))))));replace hM:=a2.ext ((((q1.n6 q2 q3 a8 a9 a5 a6).n1 b0).n1 b8).z3 d1 q24 c9);exact⟨_,rfl,MRet.err (by rw[z9d,if_neg d0,if_neg (λh=>h a7),if_neg b7,if_pos (Classical.not_not.1 λe=>c4 (if_neg e))];rw[if_pos (Classical.not_not.1 λe=>c4 (if_neg e))]) c4 hM.fr⟩
end Go.Proofs.YtjilcnmaefhmeaaGreatDoor
namespace Go.G08
open Go.Lw Go.G21
theorem x0i {p:MSt}{y:Int}{q:Yn}(h:MInv p)(O:1<=y/\y<=6)(M:y0f q)(I:q.ct=(p.y y).ct):MInv (p.setY y q):=by
 have J:(y-1).toNat<p.ys.length:=by rw[h.ly];omega
 refine⟨h.rk,h.B,by show (p.ys.set _ q).length=6;rw[List.length_set];exact h.ly,h.lt,λk D=>?_,h.has,h.cnt,h.all,h.cv⟩;show y0f ((p.ys.set (y-1).toNat q).getD k yn0)/\((p.ys.set (y-1).toNat q).getD k yn0).ct=z3b p.tb k;rw[z1j J];split;rename_i e;refine⟨M,I.trans ?_⟩;have:=(h.yn k D).2;rw[<-e]at this ⊢;exact this;exact h.yn k D
theorem v6a {st:List Pa}{p:Pa}(h:y5q st)(hp:y1w p):y5q (y0w st p):=by
 unfold y0w;split;intro i M;rw[List.length_take]at M;have e:∀k,k<st.length-1->(st.take (st.length-1)).getD k pa0=st.getD k pa0:=λk O=>by
  rw[List.getD,List.getElem?_take,if_pos O,List.getD]
 obtain⟨I,J⟩:=h i oo;refine⟨by rw[e i oo];exact I,λD=>?_⟩;rw[e i oo,e (i-1) oo];exact J D;rename_i hc;intro i M;rw[List.length_append,List.length_singleton]at M;have e:∀k,k<st.length->(st++[p]).getD k pa0=st.getD k pa0:=λk O=>by
  rw[List.getD,List.getElem?_append_left O,List.getD]
 by_cases hl:i<st.length;obtain⟨I,J⟩:=h i hl;refine⟨by rw[e i hl];exact I,λD=>?_⟩;rw[e i hl,e (i-1) oo];exact J D;obtain rfl:i=st.length:=by omega
 have Z:(st++[p]).getD st.length pa0=p:=by simp[List.getD]
 refine⟨by rw[Z];exact hp,λD=>?_⟩;rw[Z,e (st.length-1) oo];exact λhh=>hc ⟨D,hh⟩
theorem x4e:∀ {l st:List Pa},y5q st->u6b l->y5q (z4o st l)
 | [],_,h,_=>h
 | p::l,st,h,hv=>x4e (l:=l) (v6a h (hv p sp0)) (λq D=>hv q (List.mem_cons_of_mem _ D))
theorem j5v {y:Yn}{M:Int}{l:List Pa}(h:goE y M l=0):y0f (goS y M l):=by
 unfold goE at h;split at h;exact absurd h (by assumption);rename_i I;have I:=v8s (Classical.not_not.1 I);split at h;omega;rename_i O;split at h;omega;rename_i Z;split at h;omega;rename_i D;have D:y.inn=true:=by simpa using D
 split at h;omega;have J:=I.2;rw[if_pos D]at J;refine⟨I.1,?_⟩;show if y.inn=true then _ else _
 rw[if_pos D];exact⟨Classical.not_not.1 O,by show (z4o y.pe l).length<=4096;omega,x4e J.2.2 (Classical.not_not.1 Z)⟩
theorem y4k (B:Bd){b n:Int}(h:z2v b n=0)(s:List LId):(B.put b n s).flat.length+(B.at b n).length=B.flat.length+s.length:=by
 have:=(List.perm_iff_count.2 (λi=>by rw[List.count_append,List.count_append];exact z3d B h s i):((B.put b n s).flat++B.at b n).Perm (B.flat++s)).length_eq;simpa using this
theorem u7o {B:Bd}(h:BdOk B){b n:Int}(hn:z2v b n=0):BdOk (B.put b n []):=h.put hn sp0 sp0 λi=>by
 have:=List.nodup_iff_count.1 h.nd i
 simp only[List.count_nil];omega
theorem u5c {p q:MSt}{o:MOp}(h:MInv p)(hn:z2v o.b o.p=0)(e:y2v p o=.ok q):MInv q:=by
 unfold y2v at e;split at e;cases e;cases e;refine⟨h.rk,u7o h.B hn,h.ly,h.lt,h.yn,λi I=>?_,?_,h.all,h.cv⟩;rcases y1l hn I with k|k
 cases k;exact h.has i k;have D:=y4k p.B hn [];have J:=h.cnt;show (p.B.put o.b o.p []).flat.length+(p.fa++p.B.at o.b o.p).length<=z4f p.tb;rw[List.length_append];simp only[List.length_nil]at D;omega
theorem y4z {p:MSt}{o:MOp}(h:o.b=0\/o.b=1)(i:LId):(z9y p o).count i=(p.B.at o.b o.p).count i+(p.B.at (1-o.b) (z6r o.b o.p p.rk)).count i:=by
 unfold z9y;rcases h with e|e
 rw[e,if_neg dd,List.count_append,show (1:Int)-0=1 from U];omega;rw[e,if_pos U,List.count_append,show (1:Int)-1=0 from U]
theorem u3u {p q:MSt}{o:MOp}(h:MInv p)(hn:z2v o.b o.p=0)(e:z9d p o=.ok q):MInv q:=by
 unfold z9d at e;split at e;cases e;split at e;cases e;rename_i D;have D:=Classical.not_not.1 D;split at e;cases e;split at e;cases e;rename_i h4;cases e;have hb:=(z2o hn).1;have hc:=y4z (p:=p) (o:=o) hb;have Z:(z9y p o).length=(p.B.at o.b o.p).length+(p.B.at (1-o.b) (z6r o.b o.p p.rk)).length:=by
  have:=(List.perm_iff_count.2 (λi=>by rw[List.count_append];exact hc i):(z9y p o).Perm (p.B.at o.b o.p++p.B.at (1-o.b) (z6r o.b o.p p.rk))).length_eq;simpa using this
 have I:∀i∈z9y p o,i∈p.B.flat:=λi O=>by
  have J:=List.count_pos_iff.2 O;rw[hc i]at J;by_cases k:0<(p.B.at o.b o.p).count i;exact z4u (List.count_pos_iff.1 k);exact z4u (List.count_pos_iff.1 (show 0<(p.B.at (1-o.b) (z6r o.b o.p p.rk)).count i by omega))
 have M:(p.B.put o.b o.p []).at (1-o.b) (z6r o.b o.p p.rk)=p.B.at (1-o.b) (z6r o.b o.p p.rk):=by
  rw[z8c p.B hn D,if_neg oo]
 have a0:=u7o h.B hn;refine⟨h.rk,a0.put D oo (λi O=>h.B.nm i (I i O)) (λi=>?_),h.ly,h.lt,h.yn,λi O=>?_,?_,h.all,h.cv⟩;have J:=z3d p.B hn [] i;have h2:=List.nodup_iff_count.1 h.B.nd i;rw[M,hc i];simp only[List.count_nil]at J;omega;rcases y1l D O with k|k
 exact h.has i (I i k);rcases y1l hn k with k|k
 cases k;exact h.has i k;have J:=y4k p.B hn [];have h2:=y4k (p.B.put o.b o.p []) D (z9y p o);have h3:=h.cnt;rw[M,Z]at h2;simp only[List.length_nil]at J;show ((p.B.put o.b o.p []).put (1-o.b) (z6r o.b o.p p.rk) (z9y p o)).flat.length+p.fa.length<=z4f p.tb;omega
theorem v7d {p q:MSt}{o:MOp}{th st:List LId}(h:MInv p)(hy:1<=o.y/\o.y<=6)(hn:z2v o.b o.p=0)(hs:st=[]\/(st=p.B.at o.b o.p/\st.length<4))(e:y5m p o th st=.ok q):MInv q:=by
 unfold y5m at e;split at e;cases e;rename_i hm;split at e;cases e;rename_i hc;cases e;have hm:=Classical.not_not.1 hm;obtain⟨j,hj,a5⟩:∃j:Nat,j<6/\o.y=(j:Int)+1:=⟨(o.y-1).toNat,oo,oo⟩;have M:(o.y-1).toNat=j:=by omega
 have J:=h.yn j hj;have a6:p.y o.y=p.ys.getD j yn0:=by unfold MSt.y;rw[M]
 rw[<-a6]at J;have a4:j<p.ys.length:=by rw[h.ly];exact hj
 have I:j<p.tb.length:=by rw[h.lt];exact hj
 have Z:(p.y o.y).inn=true/\(p.y o.y).ct≠2048:=by
  unfold mkE at hm;split at hm;exact absurd hm (by assumption);split at hm;omega;rename_i D;split at hm;omega;rename_i hk;exact⟨by simpa using D,hk⟩
 have a7:=J.1.1;have O:∀i∈p.B.flat,i≠⟨o.y,(p.y o.y).ct⟩:=λi D e=>by
  have:=h.has i D;rw[e]at this;obtain⟨_,_,_,h4⟩:=this;simp only at h4;rw[M,J.2]at h4;omega
 have a0:∀i∈st,i∈p.B.flat:=λi D=>by
  rcases hs with e|⟨e,_⟩
  rw[e]at D;cases D;rw[e]at D;exact z4u D
 have a1:p.row o.y=p.tb.getD j []:=by unfold MSt.row;rw[M]
 simp only[M,a1];have a3:(st++[(⟨o.y,(p.y o.y).ct⟩:LId)]).length<=4:=by
  rw[List.length_append,List.length_singleton];rcases hs with e|⟨_,e⟩
  rw[e];simp;omega
 have a2:=y3e p.tb j (p.tb.getD j []++[(⟨o.b,(p.y o.y).nw,th,(p.y o.y).pe⟩:Lp)]) I;rw[List.length_append,List.length_singleton,show (p.tb.getD j []).length=z3b p.tb j from U]at a2;refine⟨h.rk,h.B.put hn a3 (λi D=>?_) (λi=>?_),by show (p.ys.set _ _).length=6;rw[List.length_set];exact h.ly,by show (p.tb.set _ _).length=6;rw[List.length_set];exact h.lt,λk hk=>?_,λi D=>?_,?_,?_,h.cv⟩;rcases List.mem_append.1 D with k|k
 exact h.B.nm i (a0 i k);rw[List.mem_singleton.1 k];unfold z5d;simp only;omega;have hd:=List.nodup_iff_count.1 h.B.nd i;rw[List.count_append,List.count_singleton];by_cases e:(⟨o.y,(p.y o.y).ct⟩:LId)=i;have h0:p.B.flat.count i=0:=List.count_eq_zero.2 λk=>O i k e.symm;have h1:st.count i=0:=List.count_eq_zero.2 λk=>O i (a0 i k) e.symm;rw[h0,h1];split<;>omega
 rw[if_neg (by simpa using e)];rcases hs with e|⟨e,_⟩
 rw[e];simp only[List.count_nil];omega;rw[e];omega;show y0f ((p.ys.set j (mkS (p.y o.y))).getD k yn0)/\((p.ys.set j (mkS (p.y o.y))).getD k yn0).ct=z3b (p.tb.set j _) k;rw[z1j a4,z9p I];by_cases e:j=k;rw[if_pos e,if_pos e];refine⟨⟨⟨by show 0<=(p.y o.y).ct+1;omega,by show (p.y o.y).ct+1<=2048;omega⟩,?_⟩,?_⟩;have h2:=J.1.2;rw[if_pos Z.1]at h2;show if true=true then _ else _
 rw[if_pos U];exact⟨h2.1,by show ([]:List Pa).length<=4096;simp,λi D=>by simp[mkS]at D⟩;show (p.y o.y).ct+1=_;rw[J.2,List.length_append,List.length_singleton];rfl;rw[if_neg e,if_neg e];exact h.yn k hk;rcases y1l hn D with k|k
 rcases List.mem_append.1 k with k|k
 exact x0p I (h.has i (a0 i k));rw[List.mem_singleton.1 k];have:=y2c (T:=p.tb.set j (p.tb.getD j []++[(⟨o.b,(p.y o.y).nw,th,(p.y o.y).pe⟩:Lp)])) (y:=j) (n:=z3b p.tb j) (by rw[List.length_set];exact I) (by rw[z9p I,if_pos U,List.length_append,List.length_singleton];exact Nat.lt_succ_self _);rwa [<-a5,<-J.2]at this;exact x0p I (h.has i k);have h1:=y4k p.B hn (st++[(⟨o.y,(p.y o.y).ct⟩:LId)]);have h2:=h.cnt;have h3:st.length<=(p.B.at o.b o.p).length:=by
  rcases hs with e|⟨e,_⟩
  rw[e];simp;rw[e];exact Nat.le_refl _
 rw[List.length_append,List.length_singleton]at h1;show (p.B.put o.b o.p _).flat.length+p.fa.length<=z4f (p.tb.set j _);omega;have:=h.all;show z4f (p.tb.set j _)<=2048;omega
theorem j9i {p q:MSt}{o:MOp}(h:MInv p)(O:1<=o.y/\o.y<=6)(Z:z5t o.d)(e:inM p o=.ok q):MInv q:=by
 unfold inM at e;split at e;cases e;rename_i D;cases e;have D:=Classical.not_not.1 D;refine x0i h O ?_ U;have I:y0f (p.y o.y):=by
  unfold enE at D;split at D;exact absurd D (by assumption);rename_i J;exact v8s (Classical.not_not.1 J)
 refine⟨I.1,?_⟩;show if true=true then _ else _
 rw[if_pos U];refine⟨?_,by show ([]:List Pa).length<=4096;simp,λi M=>by simp[enS]at M⟩;show x3q (if o.d=1 then 179 else -13);split<;>decide
theorem j3q {p q:MSt}{o:MOp}(h:MInv p)(M:1<=o.y/\o.y<=6)(e:x6s p o=.ok q):MInv q:=by
 unfold x6s at e;split at e;cases e;rename_i D;cases e;have D:=Classical.not_not.1 D;refine x0i h M ?_ U;have I:y0f (p.y o.y):=by
  unfold lvE at D;split at D;exact absurd D (by assumption);rename_i J;exact v8s (Classical.not_not.1 J)
 refine⟨I.1,?_⟩;show if false=true then _ else _
 rw[if_neg dd];exact⟨rfl,rfl,rfl⟩
theorem y0z {p q:MSt}{y J en:Int}(h:MInv p)(I:1<=y/\y<=6)(e:y2k p y J en=.ok q):MInv q/\q.B=p.B/\q.rk=p.rk:=by
 unfold y2k at e;split at e;cases e;rename_i D;cases e;exact⟨x0i h I (j5v (Classical.not_not.1 D)) U,rfl,rfl⟩
theorem u1w {p q:MSt}{o:MOp}(h:MInv p)(D:1<=o.y/\o.y<=6)(e:y4b p o=.ok q):MInv q:=by
 unfold y4b at e;split at e;cases e;exact(y0z h D e).1
theorem u0w {p q:MSt}{o:MOp}(h:MInv p)(D:1<=o.y/\o.y<=6)(hn:z2v o.b o.p=0)(e:y0x p o=.ok q):MInv q:=by
 unfold y0x at e;split at e;cases e;split at e;cases e;rename_i r I;exact v7d (y0z h D I).1 D hn (.inl U) e
theorem u5d {p q:MSt}{o:MOp}(h:MInv p)(D:1<=o.y/\o.y<=6)(hn:z2v o.b o.p=0)(e:y0d p o=.ok q):MInv q:=by
 unfold y0d at e;split at e;cases e;split at e;cases e;rename_i r I;split at e;cases e;exact v7d (y0z h D I).1 D hn (.inr ⟨rfl,oo⟩) e
theorem v0v {p:MSt}{d:Int}{y D:Yn}(e:z7a p d y=.ok D):(y0f y->y0f D)/\D.ct=y.ct:=by
 unfold z7a at e;split at e;cases e;exact⟨id,rfl⟩;split at e;cases e;rename_i I;cases e;exact⟨λ_=>j5v (Classical.not_not.1 I),rfl⟩
theorem x1p {p:MSt}{d:Int}:∀ {l l':List Yn},z3y p d l=.ok l'->l'.length=l.length/\∀k,(y0f (l.getD k yn0)->y0f (l'.getD k yn0))/\(l'.getD k yn0).ct=(l.getD k yn0).ct
 | [],l',e=>by cases e;exact⟨rfl,λk=>⟨id,rfl⟩⟩
 | y::l,l',e=>by
  unfold z3y at e
  split at e
  ·cases e
  rename_i Z M
  split at e
  ·cases e
  rename_i O J
  cases e
  obtain⟨D,I⟩:=x1p J
  refine⟨by simp[D],λk=>?_⟩
  cases k with
  | zero=>exact v0v M
  | succ k=>simpa only[List.getD_cons_succ] using I k
def k0s (l:List Cx):Prop:=∀c∈l,-1048576<=c.n/\c.n<=1048576
theorem j0a {l l':List Cx}{c:Cx}(h:k0s l)(e:y8m l c=.ok l'):k0s l':=by
 unfold y8m at e;dsimp only at e;generalize (if 0<z6q c.a c.b then (c.b,c.a) else (c.a,c.b))=kk at e;split at e;cases e;rename_i J;split at e;cases e;intro x D;exact h x (List.mem_filter.1 D).1;cases e;intro x D;unfold y7u at D;split at D;obtain⟨z,I,rfl⟩:=List.mem_map.1 D;split;simp only;omega;exact h z I;rcases List.mem_append.1 D with k|k
 exact h x k;rw[List.mem_singleton.1 k];simp only;omega
theorem x0o:∀ {r l l':List Cx},k0s l->z5f l r=.ok l'->k0s l'
 | [],l,l',h,e=>by cases e;exact h
 | c::r,l,l',h,e=>by
  unfold z5f at e
  split at e
  ·cases e
  rename_i I D
  exact x0o (j0a h D) e
theorem y4h {p q:MSt}{d:Int}(h:MInv p)(Z:-4<=p.rk+stI d/\p.rk+stI d<=4)(e:z6e p d=.ok q):MInv q/\q.rk=p.rk+stI d:=by
 unfold z6e at e;split at e;cases e;rename_i ys I;split at e;cases e;rename_i cr D;cases e;obtain⟨O,J⟩:=x1p I;exact⟨⟨Z,h.B,O.trans h.ly,h.lt,λk M=>⟨(J k).1 (h.yn k M).1,(J k).2.trans (h.yn k M).2⟩,h.has,h.cnt,h.all,x0o h.cv D⟩,rfl⟩
theorem v0p {r:Int}(hr:-4<=r/\r<=4):∀ {n:Nat} {p q:MSt},MInv p->z3u n p r=.ok q->MInv q
 | 0,p,q,h,e=>by cases e;exact h
 | n+1,p,q,h,e=>by
  unfold z3u at e
  split at e
  ·cases e;exact h
  rename_i I
  split at e
  ·cases e
  rename_i M D
  have J:=h.rk
  refine v0p hr (y4h h ?_ D).1 e
  unfold stI
  split<;>split<;>omega
theorem u0d {p q:MSt}{o:MOp}(h:MInv p)(e:doM p o=.ok q):MInv q:=by
 unfold doM at e;split at e;cases e;rename_i O;obtain⟨_,J,D,Z,I,M⟩:=z3j (Classical.not_not.1 O);unfold opM at e;split at e;exact j9i h (D oo) (J oo) e;split at e;exact j3q h (D oo) e;split at e;exact v0p (M oo) h e;split at e;exact u0w h (D oo) (I oo) e;split at e;exact u5d h (D oo) (I oo) e;split at e;exact u1w h (D oo) e;split at e;exact u3u h (I oo) e;exact u5c h (I oo) e
end Go.G08
namespace Go.G08
open Go.Lw Go.G21
section
variable {τ:TyK} {Mt:Nat} {wS w w' w2:World} {a:MA} {m:MQ} {j:Nat} {u:SV} {q:LpQ}
theorem MkM.row (h:MkM τ Mt wS a w m)(D:MtOk τ Mt)(hj:j<6)(hq:LpO τ wS.heap.size w q)(a1:∀k∈z0u (slv q.th),k∉z0u (slv m.fa))
    (h1:Lw.Own z6t τ.L wS.heap.size w' (slv u) ((m.ts.getD j tq0).2++[q])) (f1:Fr (z0u (slv (m.ts.getD j tq0).1)) w w') (hx:slv u=slv (m.ts.getD j tq0).1\/z0u (slv u)=z0u (slv (m.ts.getD j tq0).1)\/z0u (slv u)=[w.heap.size])
    (h2:Lw.Own z4b τ.T wS.heap.size w2 a.TV (m.ts.set j (u,(m.ts.getD j tq0).2++[q]))) (f2:Fr [a.gt] w' w2):MkM τ Mt wS a w2 { m with ts:=m.ts.set j (u,(m.ts.getD j tq0).2++[q]) }:=by
  have O:j<m.ts.length:=by rw[h.lt];exact hj
  have I:∀T,T≠τ.L->OffT w T (z0u (slv (m.ts.getD j tq0).1)):=λT hT=>z5c (h.t.ins j O) (Ne.symm hT)
  have J:=z1v h.t.out f1 (I _ D.o.tl)
  have M:∀T,T≠τ.T->OffT w' T [a.gt]:=λT hT=>z5c J (Ne.symm hT)
  refine⟨y2d (y2d h.k f1 (I _ D.l)) f2 (M _ D.t),BdO.tf (BdO.tf h.b f1 (I _ (Ne.symm D.o.ls)) (I _ (Ne.symm D.o.li))) f2 (M _ (Ne.symm D.o.ts)) (M _ (Ne.symm D.o.ti)),
    (h.y.tf f1 (I _ D.o.yl) (I _ (Ne.symm D.o.lp))).tf f2 (M _ D.o.yt) (M _ (Ne.symm D.o.tp)),h.t.put D.o O hq h1 f1 hx h2 f2,(h.c.tf f1 (I _ D.l)).tf f2 (M _ D.t),z1v (z1v h.f f1 (I _ (Ne.symm D.o.li))) f2 (M _ (Ne.symm D.o.ti)),h.fb,λi hi p Z=>?_,h.ly,by rw[List.length_set];exact h.lt,h.gk,h.gc,(h.fr.step f1 (y6f (h.t.ins j O) (by simp[u0q])) λk hk a0=>?_).step f2 (y6f J (by simp[u0q])) λk hk a0=>?_⟩
  · simp only at Z
    rw[z1j O]at Z
    split at Z
    · rcases List.mem_append.1 Z with k|k
      · exact h.ft j hj p k
      · rw[List.mem_singleton.1 k];exact a1
    · exact h.ft i hi p Z
  · have:=((h.t.ins j O).blk k hk).1;omega
  · have:=(h.t.out.blk k hk).1;omega
theorem j3u {p:MSt}{o:MOp}{st:List LId}(h:MInv p)(hy:1<=o.y/\o.y<=6)(hs:st=[]\/(st=p.B.at o.b o.p/\st.length<4))(O:mkE (p.y o.y)=0) :
    (st++[(⟨o.y,(p.y o.y).ct⟩:LId)]).length<=4/\(∀i∈st++[(⟨o.y,(p.y o.y).ct⟩:LId)],z5d i)/\∀i,p.B.flat.count i+(st++[(⟨o.y,(p.y o.y).ct⟩:LId)]).count i<=(p.B.at o.b o.p).count i+1:=by
  obtain⟨j,hj,a3⟩:∃j:Nat,j<6/\o.y=(j:Int)+1:=⟨(o.y-1).toNat,oo,oo⟩
  have M:(o.y-1).toNat=j:=by omega
  have J:=h.yn j hj
  have a1:p.y o.y=p.ys.getD j yn0:=by unfold MSt.y;rw[M]
  rw[<-a1]at J
  have a0:(p.y o.y).inn=true/\(p.y o.y).ct≠2048:=by
    unfold mkE at O
    split at O
    · exact absurd O (by assumption)
    · split at O
      · omega
      · rename_i D
        split at O
        · omega
        · rename_i hk;exact⟨by simpa using D,hk⟩
  have a2:=J.1.1
  have I:∀i∈p.B.flat,i≠⟨o.y,(p.y o.y).ct⟩:=λi D e=>by
    have:=h.has i D
    rw[e]at this
    obtain⟨_,_,_,h4⟩:=this
    simp only at h4
    rw[M,J.2]at h4
    omega
  have Z:∀i∈st,i∈p.B.flat:=λi D=>by
    rcases hs with e|⟨e,_⟩
    · rw[e]at D;cases D
    · rw[e]at D;exact z4u D
  refine⟨?_,λi D=>?_,λi=>?_⟩
  · rw[List.length_append,List.length_singleton]
    rcases hs with e|⟨_,e⟩
    · rw[e];simp
    · omega
  · rcases List.mem_append.1 D with k|k
    · exact h.B.nm i (Z i k)
    · rw[List.mem_singleton.1 k];unfold z5d;simp only;omega
  · have hd:=List.nodup_iff_count.1 h.B.nd i
    rw[List.count_append,List.count_singleton]
    by_cases e:(⟨o.y,(p.y o.y).ct⟩:LId)=i
    · have h0:p.B.flat.count i=0:=List.count_eq_zero.2 λk=>I i k e.symm
      have h1:st.count i=0:=List.count_eq_zero.2 λk=>I i (Z i k) e.symm
      rw[h0,h1];split<;>omega
    · rw[if_neg (by simpa using e)]
      rcases hs with e|⟨e,_⟩
      · rw[e];simp only[List.count_nil];omega
      · rw[e];omega
end
end Go.G08
namespace Go.Lw
theorem y1h {ι:Type}{pq:Option Nat}{P:Program}{ops:Array Oper}{K:Act->World->Prop}{C:World->Prop}{fu:Nat}{listed:Array Bool}{a:Act}{w:World}{ds:List Nat}{n:Nat}{L:List (Nat×Value)}(h:AgM ds a n L)(O:List (Nat×Value))(_hs:Sub O L)(D:Array Bool)(J:Nat)(M:ι->List (Nat×Value))(R:ι->World->Prop)
    (main:(∀(i:ι) Z I w',Z=D->AgM ds I n (O++M i)->R i w'->z0x pq P ops (z0q K) C J Z I w')->z0x pq P ops (z0q K) C fu listed a w)
    (tail:∀i I w',R i w'->AgM ds I n (O++M i)->z0x pq P ops (z0q K) C J D I w'):z0x pq P ops (z0q K) C fu listed a w:=
  main λi Z I w' e ha hr=>by subst e;exact tail i I w' hr ha
end Go.Lw
