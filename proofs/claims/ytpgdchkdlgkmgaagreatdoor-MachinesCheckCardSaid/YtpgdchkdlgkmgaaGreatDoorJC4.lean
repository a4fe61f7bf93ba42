/- Texts of the proof, joined. -/
import Derived.Test.YtpgdchkdlgkmgaaGreatDoorRows
import Derived.Maps.RangeRun
import Derived.Test.YtpgdchkdlgkmgaaGreatDoorJC3
set_option linter.unusedVariables false
set_option linter.unusedSimpArgs false
namespace Go.Proofs.YtpgdchkdlgkmgaaGreatDoor
open Go.Lw Go.G21 Go.G08 _root_.Go.Proofs.Tryz
theorem x8q:z3s prog 246 5:=⟨λ_=>by kernel_rfl,λ_=>by kernel_rfl⟩
theorem y1p:ElemOf prog 242 246 z4q 40:=ElemOf.mk' (z:=(.agg #[.int .u8 0,.int .i64 0,.int .u8 0,.int .i64 0,.int .i64 0])) underlying242 (by kernel_rfl) U
theorem v4p:z1r prog 246 5:=λ_=>by kernel_rfl
theorem u1g (w:World):(zeroValue 183).run prog w=.ok (.agg #[(.int .u8 0),(.int .i64 0),(.int .u8 0),(.int .i64 0),(.int .i64 0)]) w:=by kernel_rfl
theorem j1e (w:World):(zeroValue 246).run prog w=.ok (.agg #[(.int .u8 0),(.int .i64 0),(.int .u8 0),(.int .i64 0),(.int .i64 0)]) w:=by kernel_rfl
theorem u2i (g c base:Nat)(l:List Hd)(w0:World)(D:Lw.Own z3o 183 base w0 (.slice (some ⟨g,0,none⟩) l.length c) l)(hl:l.length<=1000000):Rets prog 142 #[.slice (some ⟨g,0,none⟩) l.length c,.func (.func 143) #[] #[]] w0 λr w'=>r=.tuple #[]/\Lw.Own z3o 183 base w' (.slice (some ⟨g,0,none⟩) l.length c) (z5e l)/\Fr [g] w0 w':=by
 refine we [(0,.slice (some ⟨g,0,none⟩) l.length c),(1,.func (.func 143) #[] #[])] func142 U ntmps142 U (.c2 U U) (rg (mv U (mv U (lnS U underlying179 (mv U (cl (ev3 U) (mkC func194) (u7f g c base l _ D hl) U ?_))))));rintro _ w1 ⟨rfl,D,I⟩;refine kpL [] .nil (nl (r0n results142  ?_));exact⟨_,rfl,rfl,D,((Fr.refl [g] _).z1 I)⟩
theorem x9p (v:Value)(l:List Hd)(w0:World)(I:Sl z3o w0 v l)(hl:l.length<=100000):Rets prog 144 #[v] w0 λr w'=>∃g,r=.slice (some ⟨g,0,none⟩) l.length l.length/\w0.heap.size<=g/\Lw.Own z3o 183 w0.heap.size w' r l/\Fr [] w0 w':=by
 obtain⟨A,c,rfl,a0,hM,Z⟩:=id I;clear Z;unfold maxLen at hM;refine we [(0,.slice A l.length c)] func144 U ntmps144 U (.cons U .nil) ?_;have J:=I;refine sr (asg U (nn (sr (mv U (lnS U underlying179 (z1i (m:=l.length) (c:=l.length) (hd0) U z3i u1g U (λO w1 a1 D M z1=>(asg U (nn (sr (mv U (mv U ?_))))))))))));replace I:=J.ext M;refine z7w (zs:=List.replicate l.length hd0) (by rw[List.length_replicate];rfl) U (by rw[List.length_replicate];exact D) I (by rw[List.length_replicate]) z3i (λw2 D q2 z2=>?_);rw[List.length_replicate]at D;refine nn (sr (mv U (asg U (nn (rt (r1 results144 U ?_))))));exact⟨_,rfl,O,rfl,by omega,D.low (by omega),(M.z1 q2)⟩
theorem v7y (g c base:Nat)(ys:List LId)(w0:World)(I:Lw.Own z1h 87 base w0 (.slice (some ⟨g,0,none⟩) ys.length c) ys)(hl:ys.length<=1000000):Rets prog 200 #[.slice (some ⟨g,0,none⟩) ys.length c] w0 λr w'=>Lw.Own z1h 87 base w' (.slice (some ⟨g,0,none⟩) ys.length c) ys.reverse/\Fr [g] w0 w':=by
 refine we [(0,.slice (some ⟨g,0,none⟩) ys.length c)] func200 U ntmps200 U (.cons U .nil) (sr (mv U (lnS U underlying37 (z2u U (wi6 (by omega)) (asg U (asg U (nn (bl ?_))))))));refine lpK (ι:=Nat) [(0,_)] (λk=>[(2,.int .i64 (k:Int)),(3,.int .i64 ((ys.length:Int)-1-(k:Int)))]) (λk w'=>Fr [g] w0 w'/\k<=ys.length/\∃zs,u6s id0 ys zs k/\Lw.Own z1h 87 base w' (.slice (some ⟨g,0,none⟩) ys.length c) zs) (λk=>ys.length-k) 0 (.c3 U U (congrArg (λz=>some (Value.int .i64 z)) (by omega))) ⟨Fr.refl _ _,⟨Nat.zero_le _,_,v6v _ _,I⟩⟩ ?_;rintro k w1 ⟨q1,⟨hk,zs,hR,I⟩⟩;refine kpC [(0,_),(2,_),(3,_)] (.c3 U U U) (sq (sr (mv U (mv U (lt' U (nn (cd U (λc0=>?_) (λc0=>?_))))))));obtain⟨a2,-⟩:=id hR;have Z:k<ys.length-1-k:=by omega
 refine sk (tn (sq (bl ?_)));intro a h;refine z0i (some 15) (λwb w'=>Fr [g] wb w') z2r ?_;intro w2 q2;replace I:=I.ext q2;have hC:Fr [g] w2 w2:=Fr.refl _ _;have O:=I;refine z0e 0 h U λa h=>z0e 1 h U λa h=>z0e 2 h U λa h=>z0e 3 h U λa h=>z0e 4 h U λa h=>z0e 5 h U λa h=>z1f (p:=(ys.length-1-k)) (id0) 6 h U I.sl U z5d U λa0 J a h=>z0e 8 h U λa h=>z0e 9 h U λa h=>z1f (p:=k) (id0) 10 h U I.sl U z5d U λa1 M a h=>z2d 7 11 (by kernel_rfl) U ?_ ?_;refine z1o h U (J _ I.sl) z3j U λa h=>?_;refine z0b ?_;refine z0d 11 U ?_;refine z1o h U (M _ I.sl) z3j U λa h=>?_;refine z0b ?_;refine z1m 12 (by kernel_rfl) (by kernel_rfl) (by kernel_rfl) hC (p:=k) h wn U z5d (by omega) (by omega) (by omega) U U λa h=>z0d 13 U ?_;refine z1b (i:=k) (zs.getD (ys.length-1-k) id0) h U I (by omega) U y0b λw3 D q3 _hz a h=>?_;replace hC:=hC.sp q3;clear _hz I;have I:=D;clear D;refine z0b ?_;refine z1m 14 (by kernel_rfl) (by kernel_rfl) (by kernel_rfl) hC (p:=(ys.length-1-k)) h wn U z5d (by omega) (by omega) (by omega) U U λa h=>z0d 15 U ?_;refine z1b (i:=(ys.length-1-k)) (zs.getD k id0) h U I (by rw[List.length_set];omega) U y0b λw4 D q4 _hz a h=>?_;clear _hz I;have I:=D;clear D;refine z1p ?_;refine z0r ?_;clear hC O;refine bk (h.sub (L':=[(0,_),(2,_),(3,_)]) (.c3 U U U)) (bn' (tn (rg (mv U (z0w U (wi6 (by omega)) (mv U (z2u U (wi6 (by omega)) (asg U (asg U (nl ?_))))))))));exact lpE (k+1) (.c3 U U (congrArg (λz=>some (Value.int .i64 z)) (by omega))) ⟨((Fr.refl [g] _).z4 q1 q2 q3 q4),⟨by omega,_,z7i Z hR,I⟩⟩ (by omega);refine z1o h U (M _ I.sl) z3j U λa h=>?_;refine z0b ?_;refine z0d 7 U ?_;refine z1o h U (J _ I.sl) z3j U λa h=>?_;refine z0b ?_;refine z1m 12 (by kernel_rfl) (by kernel_rfl) (by kernel_rfl) hC (p:=k) h wn U z5d (by omega) (by omega) (by omega) U U λa h=>z0d 13 U ?_;refine z1b (i:=k) (zs.getD (ys.length-1-k) id0) h U I (by omega) U y0b λw5 D q5 _hz a h=>?_;replace hC:=hC.sp q5;clear _hz I;have I:=D;clear D;refine z0b ?_;refine z1m 14 (by kernel_rfl) (by kernel_rfl) (by kernel_rfl) hC (p:=(ys.length-1-k)) h wn U z5d (by omega) (by omega) (by omega) U U λa h=>z0d 15 U ?_;refine z1b (i:=(ys.length-1-k)) (zs.getD k id0) h U I (by rw[List.length_set];omega) U y0b λw6 D q6 _hz a h=>?_;clear _hz I;have I:=D;clear D;refine z1p ?_;refine z0r ?_;clear hC O;refine bk (h.sub (L':=[(0,_),(2,_),(3,_)]) (.c3 U U U)) (bn' (tn (rg (mv U (z0w U (wi6 (by omega)) (mv U (z2u U (wi6 (by omega)) (asg U (asg U (nl ?_))))))))));exact lpE (k+1) (.c3 U U (congrArg (λz=>some (Value.int .i64 z)) (by omega))) ⟨((Fr.refl [g] _).z4 q1 q2 q5 q6),⟨by omega,_,z7i Z hR,I⟩⟩ (by omega);refine ex (te (te (xh (r0n results200  ?_))));exact⟨_,rfl,by rw[<-y9n (by omega) hR];exact I,(q1.weak (by simp<;>omega))⟩
theorem j0a (w0:World):Rets prog 200 #[.slice none 0 0] w0 λr w'=>Fr [] w0 w':=by
 refine we [(0,.slice none 0 0)] func200 U ntmps200 U (.cons U .nil) (sr (mv U (lnS U underlying37 (z2u U (wi6 (by omega)) (asg U (asg U (nn (bl ?_))))))));refine lpK (ι:=Unit) [(0,_),(2,_),(3,_)] (λ_u=>[]) (λ_u w'=>Fr [] w0 w'/\True) (λ_u=>0) () (.c3 U U U) ⟨Fr.refl _ _,trivial⟩ ?_;rintro _u w1 ⟨I,-⟩;refine kpC [(0,_),(2,_),(3,_)] (.c3 U U U) (sq (sr (mv U (mv U (lt' U (nn (cd U (λD=>?_) (λD=>?_))))))));exfalso;omega;refine ex (te (te (xh (r0n results200  ?_))));exact⟨_,rfl,I⟩
theorem v2v (base:Nat)(v:Value)(ys:List LId)(w0:World)(D:Lw.Own z1h 87 base w0 v ys)(hl:ys.length<=1000000):Rets prog 200 #[v] w0 λr w'=>Lw.Own z1h 87 base w' v ys.reverse/\Fr (z0v v) w0 w':=by
 rcases id D with ⟨rfl,rfl⟩|⟨g,cap,cur,rfl,_⟩
 refine Rets.mono (j0a w0) ?_;intro r w' hf;exact⟨Own.nil _,hf⟩;exact v7y g cap base ys w0 D hl
theorem u0h (g c base:Nat)(ys:List Pa)(w0:World)(I:Lw.Own z1s 100 base w0 (.slice (some ⟨g,0,none⟩) ys.length c) ys)(hl:ys.length<=1000000):Rets prog 196 #[.slice (some ⟨g,0,none⟩) ys.length c] w0 λr w'=>Lw.Own z1s 100 base w' (.slice (some ⟨g,0,none⟩) ys.length c) ys.reverse/\Fr [g] w0 w':=by
 refine we [(0,.slice (some ⟨g,0,none⟩) ys.length c)] func196 U ntmps196 U (.cons U .nil) (sr (mv U (lnS U underlying54 (z2u U (wi6 (by omega)) (asg U (asg U (nn (bl ?_))))))));refine lpK (ι:=Nat) [(0,_)] (λk=>[(2,.int .i64 (k:Int)),(3,.int .i64 ((ys.length:Int)-1-(k:Int)))]) (λk w'=>Fr [g] w0 w'/\k<=ys.length/\∃zs,u6s pa0 ys zs k/\Lw.Own z1s 100 base w' (.slice (some ⟨g,0,none⟩) ys.length c) zs) (λk=>ys.length-k) 0 (.c3 U U (congrArg (λz=>some (Value.int .i64 z)) (by omega))) ⟨Fr.refl _ _,⟨Nat.zero_le _,_,v6v _ _,I⟩⟩ ?_;rintro k w1 ⟨q1,⟨hk,zs,hR,I⟩⟩;refine kpC [(0,_),(2,_),(3,_)] (.c3 U U U) (sq (sr (mv U (mv U (lt' U (nn (cd U (λc0=>?_) (λc0=>?_))))))));obtain⟨a2,-⟩:=id hR;have Z:k<ys.length-1-k:=by omega
 refine sk (tn (sq (bl ?_)));intro a h;refine z0i (some 15) (λwb w'=>Fr [g] wb w') z2r ?_;intro w2 q2;replace I:=I.ext q2;have hC:Fr [g] w2 w2:=Fr.refl _ _;have O:=I;refine z0e 0 h U λa h=>z0e 1 h U λa h=>z0e 2 h U λa h=>z0e 3 h U λa h=>z0e 4 h U λa h=>z0e 5 h U λa h=>z1f (p:=(ys.length-1-k)) (pa0) 6 h U I.sl U z9d U λa0 J a h=>z0e 8 h U λa h=>z0e 9 h U λa h=>z1f (p:=k) (pa0) 10 h U I.sl U z9d U λa1 M a h=>z2d 7 11 (by kernel_rfl) U ?_ ?_;refine z1o h U (J _ I.sl) z6j U λa h=>?_;refine z0b ?_;refine z0d 11 U ?_;refine z1o h U (M _ I.sl) z6j U λa h=>?_;refine z0b ?_;refine z1m 12 (by kernel_rfl) (by kernel_rfl) (by kernel_rfl) hC (p:=k) h wn U z9d (by omega) (by omega) (by omega) U U λa h=>z0d 13 U ?_;refine z1b (i:=k) (zs.getD (ys.length-1-k) pa0) h U I (by omega) U x0k λw3 D q3 _hz a h=>?_;replace hC:=hC.sp q3;clear _hz I;have I:=D;clear D;refine z0b ?_;refine z1m 14 (by kernel_rfl) (by kernel_rfl) (by kernel_rfl) hC (p:=(ys.length-1-k)) h wn U z9d (by omega) (by omega) (by omega) U U λa h=>z0d 15 U ?_;refine z1b (i:=(ys.length-1-k)) (zs.getD k pa0) h U I (by rw[List.length_set];omega) U x0k λw4 D q4 _hz a h=>?_;clear _hz I;have I:=D;clear D;refine z1p ?_;refine z0r ?_;clear hC O;refine bk (h.sub (L':=[(0,_),(2,_),(3,_)]) (.c3 U U U)) (bn' (tn (rg (mv U (z0w U (wi6 (by omega)) (mv U (z2u U (wi6 (by omega)) (asg U (asg U (nl ?_))))))))));exact lpE (k+1) (.c3 U U (congrArg (λz=>some (Value.int .i64 z)) (by omega))) ⟨((Fr.refl [g] _).z4 q1 q2 q3 q4),⟨by omega,_,z7i Z hR,I⟩⟩ (by omega);refine z1o h U (M _ I.sl) z6j U λa h=>?_;refine z0b ?_;refine z0d 7 U ?_;refine z1o h U (J _ I.sl) z6j U λa h=>?_;refine z0b ?_;refine z1m 12 (by kernel_rfl) (by kernel_rfl) (by kernel_rfl) hC (p:=k) h wn U z9d (by omega) (by omega) (by omega) U U λa h=>z0d 13 U ?_;refine z1b (i:=k) (zs.getD (ys.length-1-k) pa0) h U I (by omega) U x0k λw5 D q5 _hz a h=>?_;replace hC:=hC.sp q5;clear _hz I;have I:=D;clear D;refine z0b ?_;refine z1m 14 (by kernel_rfl) (by kernel_rfl) (by kernel_rfl) hC (p:=(ys.length-1-k)) h wn U z9d (by omega) (by omega) (by omega) U U λa h=>z0d 15 U ?_;refine z1b (i:=(ys.length-1-k)) (zs.getD k pa0) h U I (by rw[List.length_set];omega) U x0k λw6 D q6 _hz a h=>?_;clear _hz I;have I:=D;clear D;refine z1p ?_;refine z0r ?_;clear hC O;refine bk (h.sub (L':=[(0,_),(2,_),(3,_)]) (.c3 U U U)) (bn' (tn (rg (mv U (z0w U (wi6 (by omega)) (mv U (z2u U (wi6 (by omega)) (asg U (asg U (nl ?_))))))))));exact lpE (k+1) (.c3 U U (congrArg (λz=>some (Value.int .i64 z)) (by omega))) ⟨((Fr.refl [g] _).z4 q1 q2 q5 q6),⟨by omega,_,z7i Z hR,I⟩⟩ (by omega);refine ex (te (te (xh (r0n results196  ?_))));exact⟨_,rfl,by rw[<-y9n (by omega) hR];exact I,(q1.weak (by simp<;>omega))⟩
theorem u5s (w0:World):Rets prog 196 #[.slice none 0 0] w0 λr w'=>Fr [] w0 w':=by
 refine we [(0,.slice none 0 0)] func196 U ntmps196 U (.cons U .nil) (sr (mv U (lnS U underlying54 (z2u U (wi6 (by omega)) (asg U (asg U (nn (bl ?_))))))));refine lpK (ι:=Unit) [(0,_),(2,_),(3,_)] (λ_u=>[]) (λ_u w'=>Fr [] w0 w'/\True) (λ_u=>0) () (.c3 U U U) ⟨Fr.refl _ _,trivial⟩ ?_;rintro _u w1 ⟨I,-⟩;refine kpC [(0,_),(2,_),(3,_)] (.c3 U U U) (sq (sr (mv U (mv U (lt' U (nn (cd U (λD=>?_) (λD=>?_))))))));exfalso;omega;refine ex (te (te (xh (r0n results196  ?_))));exact⟨_,rfl,I⟩
theorem x3l (base:Nat)(v:Value)(ys:List Pa)(w0:World)(D:Lw.Own z1s 100 base w0 v ys)(hl:ys.length<=1000000):Rets prog 196 #[v] w0 λr w'=>Lw.Own z1s 100 base w' v ys.reverse/\Fr (z0v v) w0 w':=by
 rcases id D with ⟨rfl,rfl⟩|⟨g,cap,cur,rfl,_⟩
 refine Rets.mono (u5s w0) ?_;intro r w' hf;exact⟨Own.nil _,hf⟩;exact u0h g cap base ys w0 D hl
theorem v7x (g c base:Nat)(ys:List Cx)(w0:World)(I:Lw.Own z4q 246 base w0 (.slice (some ⟨g,0,none⟩) ys.length c) ys)(hl:ys.length<=1000000):Rets prog 201 #[.slice (some ⟨g,0,none⟩) ys.length c] w0 λr w'=>Lw.Own z4q 246 base w' (.slice (some ⟨g,0,none⟩) ys.length c) ys.reverse/\Fr [g] w0 w':=by
 refine we [(0,.slice (some ⟨g,0,none⟩) ys.length c)] func201 U ntmps201 U (.cons U .nil) (sr (mv U (lnS U underlying242 (z2u U (wi6 (by omega)) (asg U (asg U (nn (bl ?_))))))));refine lpK (ι:=Nat) [(0,_)] (λk=>[(2,.int .i64 (k:Int)),(3,.int .i64 ((ys.length:Int)-1-(k:Int)))]) (λk w'=>Fr [g] w0 w'/\k<=ys.length/\∃zs,u6s cx0 ys zs k/\Lw.Own z4q 246 base w' (.slice (some ⟨g,0,none⟩) ys.length c) zs) (λk=>ys.length-k) 0 (.c3 U U (congrArg (λz=>some (Value.int .i64 z)) (by omega))) ⟨Fr.refl _ _,⟨Nat.zero_le _,_,v6v _ _,I⟩⟩ ?_;rintro k w1 ⟨q1,⟨hk,zs,hR,I⟩⟩;refine kpC [(0,_),(2,_),(3,_)] (.c3 U U U) (sq (sr (mv U (mv U (lt' U (nn (cd U (λc0=>?_) (λc0=>?_))))))));obtain⟨a2,-⟩:=id hR;have Z:k<ys.length-1-k:=by omega
 refine sk (tn (sq (bl ?_)));intro a h;refine z0i (some 15) (λwb w'=>Fr [g] wb w') z2r ?_;intro w2 q2;replace I:=I.ext q2;have hC:Fr [g] w2 w2:=Fr.refl _ _;have O:=I;refine z0e 0 h U λa h=>z0e 1 h U λa h=>z0e 2 h U λa h=>z0e 3 h U λa h=>z0e 4 h U λa h=>z0e 5 h U λa h=>z1f (p:=(ys.length-1-k)) (cx0) 6 h U I.sl U y1p U λa0 J a h=>z0e 8 h U λa h=>z0e 9 h U λa h=>z1f (p:=k) (cx0) 10 h U I.sl U y1p U λa1 M a h=>z2d 7 11 (by kernel_rfl) U ?_ ?_;refine z1o h U (J _ I.sl) x8q U λa h=>?_;refine z0b ?_;refine z0d 11 U ?_;refine z1o h U (M _ I.sl) x8q U λa h=>?_;refine z0b ?_;refine z1m 12 (by kernel_rfl) (by kernel_rfl) (by kernel_rfl) hC (p:=k) h wn U y1p (by omega) (by omega) (by omega) U U λa h=>z0d 13 U ?_;refine z1b (i:=k) (zs.getD (ys.length-1-k) cx0) h U I (by omega) U v4p λw3 D q3 _hz a h=>?_;replace hC:=hC.sp q3;clear _hz I;have I:=D;clear D;refine z0b ?_;refine z1m 14 (by kernel_rfl) (by kernel_rfl) (by kernel_rfl) hC (p:=(ys.length-1-k)) h wn U y1p (by omega) (by omega) (by omega) U U λa h=>z0d 15 U ?_;refine z1b (i:=(ys.length-1-k)) (zs.getD k cx0) h U I (by rw[List.length_set];omega) U v4p λw4 D q4 _hz a h=>?_;clear _hz I;have I:=D;clear D;refine z1p ?_;refine z0r ?_;clear hC O;refine bk (h.sub (L':=[(0,_),(2,_),(3,_)]) (.c3 U U U)) (bn' (tn (rg (mv U (z0w U (wi6 (by omega)) (mv U (z2u U (wi6 (by omega)) (asg U (asg U (nl ?_))))))))));exact lpE (k+1) (.c3 U U (congrArg (λz=>some (Value.int .i64 z)) (by omega))) ⟨((Fr.refl [g] _).z4 q1 q2 q3 q4),⟨by omega,_,z7i Z hR,I⟩⟩ (by omega);refine z1o h U (M _ I.sl) x8q U λa h=>?_;refine z0b ?_;refine z0d 7 U ?_;refine z1o h U (J _ I.sl) x8q U λa h=>?_;refine z0b ?_;refine z1m 12 (by kernel_rfl) (by kernel_rfl) (by kernel_rfl) hC (p:=k) h wn U y1p (by omega) (by omega) (by omega) U U λa h=>z0d 13 U ?_;refine z1b (i:=k) (zs.getD (ys.length-1-k) cx0) h U I (by omega) U v4p λw5 D q5 _hz a h=>?_;replace hC:=hC.sp q5;clear _hz I;have I:=D;clear D;refine z0b ?_;refine z1m 14 (by kernel_rfl) (by kernel_rfl) (by kernel_rfl) hC (p:=(ys.length-1-k)) h wn U y1p (by omega) (by omega) (by omega) U U λa h=>z0d 15 U ?_;refine z1b (i:=(ys.length-1-k)) (zs.getD k cx0) h U I (by rw[List.length_set];omega) U v4p λw6 D q6 _hz a h=>?_;clear _hz I;have I:=D;clear D;refine z1p ?_;refine z0r ?_;clear hC O;refine bk (h.sub (L':=[(0,_),(2,_),(3,_)]) (.c3 U U U)) (bn' (tn (rg (mv U (z0w U (wi6 (by omega)) (mv U (z2u U (wi6 (by omega)) (asg U (asg U (nl ?_))))))))));exact lpE (k+1) (.c3 U U (congrArg (λz=>some (Value.int .i64 z)) (by omega))) ⟨((Fr.refl [g] _).z4 q1 q2 q5 q6),⟨by omega,_,z7i Z hR,I⟩⟩ (by omega);refine ex (te (te (xh (r0n results201  ?_))));exact⟨_,rfl,by rw[<-y9n (by omega) hR];exact I,(q1.weak (by simp<;>omega))⟩
theorem u4l (w0:World):Rets prog 201 #[.slice none 0 0] w0 λr w'=>Fr [] w0 w':=by
 refine we [(0,.slice none 0 0)] func201 U ntmps201 U (.cons U .nil) (sr (mv U (lnS U underlying242 (z2u U (wi6 (by omega)) (asg U (asg U (nn (bl ?_))))))));refine lpK (ι:=Unit) [(0,_),(2,_),(3,_)] (λ_u=>[]) (λ_u w'=>Fr [] w0 w'/\True) (λ_u=>0) () (.c3 U U U) ⟨Fr.refl _ _,trivial⟩ ?_;rintro _u w1 ⟨I,-⟩;refine kpC [(0,_),(2,_),(3,_)] (.c3 U U U) (sq (sr (mv U (mv U (lt' U (nn (cd U (λD=>?_) (λD=>?_))))))));exfalso;omega;refine ex (te (te (xh (r0n results201  ?_))));exact⟨_,rfl,I⟩
theorem v1v (base:Nat)(v:Value)(ys:List Cx)(w0:World)(D:Lw.Own z4q 246 base w0 v ys)(hl:ys.length<=1000000):Rets prog 201 #[v] w0 λr w'=>Lw.Own z4q 246 base w' v ys.reverse/\Fr (z0v v) w0 w':=by
 rcases id D with ⟨rfl,rfl⟩|⟨g,cap,cur,rfl,_⟩
 refine Rets.mono (u4l w0) ?_;intro r w' hf;exact⟨Own.nil _,hf⟩;exact v7x g cap base ys w0 D hl
theorem y5u (v:Value)(l:List Pa)(w0:World)(I:Sl z1s w0 v l)(hl:l.length<=100000):Rets prog 197 #[v] w0 λr w'=>∃g,r=.slice (some ⟨g,0,none⟩) l.length l.length/\w0.heap.size<=g/\Lw.Own z1s 100 w0.heap.size w' r l/\Fr [] w0 w':=by
 obtain⟨A,c,rfl,a0,hM,Z⟩:=id I;clear Z;unfold maxLen at hM;refine we [(0,.slice A l.length c)] func197 U ntmps197 U (.cons U .nil) ?_;have J:=I;refine sr (asg U (nn (sr (mv U (lnS U underlying54 (z1i (m:=l.length) (c:=l.length) (pa0) U z9d y6j U (λO w1 a1 D M z1=>(asg U (nn (sr (mv U (mv U ?_))))))))))));replace I:=J.ext M;refine z7w (zs:=List.replicate l.length pa0) (by rw[List.length_replicate];rfl) U (by rw[List.length_replicate];exact D) I (by rw[List.length_replicate]) z9d (λw2 D q2 z2=>?_);rw[List.length_replicate]at D;refine nn (sr (mv U (asg U (nn (rt (r1 results197 U ?_))))));exact⟨_,rfl,O,rfl,by omega,D.low (by omega),(M.z1 q2)⟩
theorem x4e (v:Value)(l:List Cx)(w0:World)(I:Sl z4q w0 v l)(hl:l.length<=100000):Rets prog 202 #[v] w0 λr w'=>∃g,r=.slice (some ⟨g,0,none⟩) l.length l.length/\w0.heap.size<=g/\Lw.Own z4q 246 w0.heap.size w' r l/\Fr [] w0 w':=by
 obtain⟨A,c,rfl,a0,hM,Z⟩:=id I;clear Z;unfold maxLen at hM;refine we [(0,.slice A l.length c)] func202 U ntmps202 U (.cons U .nil) ?_;have J:=I;refine sr (asg U (nn (sr (mv U (lnS U underlying242 (z1i (m:=l.length) (c:=l.length) (cx0) U y1p j1e U (λO w1 a1 D M z1=>(asg U (nn (sr (mv U (mv U ?_))))))))))));replace I:=J.ext M;refine z7w (zs:=List.replicate l.length cx0) (by rw[List.length_replicate];rfl) U (by rw[List.length_replicate];exact D) I (by rw[List.length_replicate]) y1p (λw2 D q2 z2=>?_);rw[List.length_replicate]at D;refine nn (sr (mv U (asg U (nn (rt (r1 results202 U ?_))))));exact⟨_,rfl,O,rfl,by omega,D.low (by omega),(M.z1 q2)⟩
theorem j7x:BuildAt prog 183 [(0,2),(2,2),(4,1)] [(.int .u8 0),(.int .i64 0),(.int .u8 0),(.int .i64 0),(.int .i64 0)]:=BuildAt.struct underlying183 (λ_=>by kernel_rfl) (λ_=>by kernel_rfl)
theorem x9j:CallOf prog 116:=mkC func116
theorem u7z:z2a prog 179:=λ_=>by kernel_rfl
theorem j2v:z1r prog 179 1:=λ_=>by kernel_rfl
set_option maxHeartbeats 2000000 in
theorem v4v (gr gk base:Nat)(b r:Int)(v u:Value)(l:List IQ)(a4:List Hd)(wS w0:World)(hF:Fr [] wS w0)(hs:Sl z5r wS v l)(Z:IqAt wS l)(a6:Blk wS gk 3 [.int .i64 r])(f1:wS.heap.size<=gr)(e6:wS.heap.size<=base)(e7:base<=w0.heap.size)(D:Blk w0 gr 179 [u])(J:Lw.Own z3o 183 base w0 u a4)(hb:b=0\/b=1)(hl:l.length<=40)(h4:z8p l)(ha:a4.length<=1000)(hu:IsB u):Rets prog 141 #[.int .u8 b,v,.pointer (some ⟨gr,0,none⟩),.pointer (some ⟨gk,0,none⟩)] w0 λr' w'=>r'=.tuple #[]/\(∃u',Blk w' gr 179 [u']/\Lw.Own z3o 183 base w' u' (a4++hds b r (plB l) l.length)/\IsB u')/\w0.heap.size<=w'.heap.size/\Fr [] wS w':=by
 obtain⟨A,c,rfl,e8,hM,hA⟩:=id hs;clear hA;unfold maxLen at hM;have f5:=hF.size;have e3:=D.lt;refine we [(0,.int .u8 b),(1,.slice A l.length c),(2,.pointer (some ⟨gr,0,none⟩)),(3,.pointer (some ⟨gk,0,none⟩))] func141 U ntmps141 U (.c4 U U U U) ?_;have d0:=hs;have b3:=Z;have b2:=a6;refine sr (mv U (lnS U underlying30 (mv U (nn (bl ?_)))));refine lpK (ι:=Nat×Value) [(0,_),(2,_),(3,_),(11,_),(12,_)] (λp=>[(13,.int .i64 (p.1:Int))]) (λp w'=>Fr [] wS w'/\(p.1<=l.length/\w0.heap.size<=w'.heap.size/\IsB p.2)/\Blk w' gr 179 [p.2]/\Lw.Own z3o 183 base w' p.2 (a4++hds b r (plB l) p.1)) (λp=>l.length-p.1) (0,u) (.c6 U U U U U U) ⟨hF,⟨⟨Nat.zero_le _,by omega,hu⟩,D,by simpa[hds] using J⟩⟩ ?_;rintro⟨i,uI⟩ w1 ⟨q1,⟨hi,D,J⟩⟩;simp only at hi D J;have z1:=q1.size;have a9:=D.lt;refine kpC [(0,_),(2,_),(3,_),(11,_),(12,_),(13,.int .i64 (i:Int))] (.c6 U U U U U U) ?_;have e9:=x3s b r l h4 i;have f3:=z3h h4 i;have f4:=z1u (z1y b3 i);have b4:=b2.lt;refine sr (lt' U (nn (sq (cd U (λc0=>?_) (λc0=>?_)))));refine sk (tn (sq (bl (sr (mv U ?_)))));replace hs:=d0.ext q1;refine z0y (iq0) U hs U y2w z1e (λd9 b6=>?_);refine z1g U (b6 _ hs) z4x (asg U (asg U (nn (sr (mv U (mv U (z0w U (wi6 (by omega)) (z1t (cs:=[_,_]) (ev2 U) x0l (z0h U (z0h U z0q)) U ?_))))))));refine al v9b U (λg8 w2 f0 I q2 z2=>?_);refine z0j (vs:=[_,_]) U I y6g (λw3 I q3 z3=>?_) (h1:=(by first|(simp[Value.oneCell',S];done)|exact z1h.one _));refine nn (sr (mv U (lnS U underlying37 (mv U (nn (bl ?_))))));replace D:=(D.ext q2).fr q3;replace J:=(J.ext q2).fr q3 (by first|(intro k Z hb;rw[List.mem_singleton.1 Z]at hb;first|exact J.neB D (by decide) hb|(have:=(J.blk _ hb).2;omega))|(simp;done));refine lpK (ι:=Nat×Value) [(0,_),(2,_),(3,_),(8,_),(11,_),(12,_),(13,_),(22,_),(23,_)] (λp=>[(24,.int .i64 (p.1:Int))]) (λp w'=>Fr [] wS w'/\(p.1<=(l.getD i iq0).2.length/\w0.heap.size<=w'.heap.size/\Blk w' g8 24 [.int .u8 b,.int .i64 ((i:Int)+1)]/\IsB p.2)/\Blk w' gr 179 [p.2]/\Lw.Own z3o 183 base w' p.2 ((a4++hds b r (plB l) i)++((l.getD i iq0).2.take p.1).map (hdS b r i))) (λp=>(l.getD i iq0).2.length-p.1) (0,uI) (.d8 U U U U U U U U (.c2 U U)) ⟨(q1.z2 q2 q3),⟨⟨Nat.zero_le _,by omega,I,hi.2.2⟩,D,by simpa using J⟩⟩ ?_;rintro⟨j,uJ⟩ w4 ⟨q4,⟨⟨hj,f6,I,d6⟩,D,J⟩⟩;simp only at hj D J;have z4:=q4.size;have a9:=D.lt;have d3:=I.lt;refine kpC [(0,_),(2,_),(3,_),(8,_),(11,_),(12,_),(13,_),(22,_),(23,_),(24,.int .i64 (j:Int))] (.d8 U U U U U U U U (.c2 U U)) (sr (lt' U (nn (sq (cd U (λc1=>?_) (λc1=>?_))))));refine sk (tn (sq (bl (sr ?_))));replace Z:=b3.ext q4;refine z0y (id0) U (z1y Z i) U z5d z1e (λe0 b7=>?_);refine z1k U (b7 _ (z1y Z i)) z3j (al y3h U (λd4 w5 e2 M q5 z5=>?_));refine z0j (vs:=[_,_]) U M y0b (λw6 M q6 z6=>?_) (h1:=(by first|(simp[Value.oneCell',S];done)|exact z1h.one _));refine nn ?_;replace hs:=d0.ext (q4.z2 q5 q6);replace Z:=b3.ext (q4.z2 q5 q6);replace a6:=b2.ext (q4.z2 q5 q6);replace D:=(D.ext q5).fr q6;replace J:=(J.ext q5).fr q6 (by first|(intro k Z hb;rw[List.mem_singleton.1 Z]at hb;first|exact J.neB D (by decide) hb|(have:=(J.blk _ hb).2;omega))|(simp;done));replace I:=(I.ext q5).fr q6;intro a h;refine z0i (some 8) (λwb w'=>Fr (z0v uJ) wb w') z2r ?_;intro w7 q7;have z7:=q7.size;replace hs:=hs.ext q7;replace Z:=Z.ext q7;replace a6:=a6.ext q7;replace D:=D.ext q7;replace J:=J.ext q7;replace I:=I.ext q7;replace M:=M.ext q7;have hC:Fr (z0v uJ) w7 w7:=Fr.refl _ _;have d1:=hs;have b8:=Z;have a7:=a6;have a2:=D;have a0:=J;have O:=I;have a1:=M;refine y5b 0 hC h wn U (λ_ hw=>a2.fr hw (λk_=>Own.neB a0 a2 (by decide) k_)) u7z U U λa h=>z0z 1 h U (λ_ hw=>a1.fr hw (λk_=>Own.neB a0 a1 (by decide) k_)) z3j U λa h=>z0z 2 h U (λ_ hw=>O.fr hw (λk_=>Own.neB a0 O (by decide) k_)) z5z U λa h=>z0z 3 h U (λ_ hw=>O.fr hw (λk_=>Own.neB a0 O (by decide) k_)) z5z U λa h=>y5b 4 hC h wn U (λ_ hw=>a7.fr hw (λk_=>by have:=(a0.blk _ k_).1;have:=b4;omega)) na3 U U λa h=>z0d 5 U ?_;refine z0m h (z0a U (z0a U z0f)) x9j (y2j _ _ _ _ (by omega)) ?_;rintro _ w8 ⟨rfl,q8⟩ a h;have z8:=q8.size;replace D:=D.ext q8;replace I:=I.ext q8;replace M:=M.ext q8;replace hC:=hC.next q8;refine z0b ?_;refine z2y (cs:=[_,_,_,_,_]) 6 h (z0a U (z0a U (z0a U z0f))) j7x (z0h U (z0h U (z0h U z0q))) U U λa h=>z0d 7 U ?_;refine z2w ([(hdS b r i ((l.getD i iq0).2.getD j id0))]) h (z0a U z0f) U z3i λa5 w9 hg c9 q9 hz a h=>?_;have a8:gr<a5:=by have:=D.lt;omega
 have a8:g8<a5:=by have:=I.lt;omega
 have b9:d4<a5:=by have:=M.lt;omega
 have z9:=q9.size;replace Z:=Z.ext (q8.n1 q9);replace D:=D.ext q9;replace J:=J.ext (q8.n1 q9);replace I:=I.ext q9;replace hC:=hC.next q9;refine z0b ?_;refine z0d 8 U ?_;have a3:=J;refine z6f h U U J c9.sl z3i U ?_ (hM:=(by unfold maxLen;simp only[List.length_append,List.length_map,List.length_take,List.length_cons,List.length_nil];omega)) (hb:=(by simp only[List.length_append,List.length_map,List.length_take,List.length_cons,List.length_nil];omega));clear h a;intro f7 f8 J b0 d5 a h;obtain⟨e4,e5,rfl,e1⟩:=J.sl.form;have f9:=b0.size;replace D:=D.fr b0 (λZ=>a3.neB D (by decide) Z);replace I:=I.fr b0 (λZ=>a3.neB I (by decide) Z);refine z1p ?_;refine z0d 9 U ?_;refine y7m h U U D U U j2v λd7 b5 b1 hz a h=>?_;have g0:=b1.size;replace I:=I.fr b1;replace J:=J.fr b1 (by first|(intro k Z hb;rw[List.mem_singleton.1 Z]at hb;first|exact J.neB D (by decide) hb|(have:=(J.blk _ hb).2;omega))|(simp;done));clear D hz;have D:Blk d7 gr _ [_]:=b5;clear b5;refine z1p ?_;refine z0r ?_;clear hC d1 b8 a7 a2 a0 O a1;refine bk (h.sub (L':=[(0,_),(2,_),(3,_),(8,_),(11,_),(12,_),(13,_),(22,_),(23,_),(24,_)]) (.d8 U U U U U U U U (.c2 U U))) (bn' (tn (rg (z0w U (wi6 (by omega)) (mv U (nl ?_))))));exact lpE ((j+1,_)) (.d8 U U U U U U U U (.c2 U U)) ⟨(((q4.z5 q5 q6 q7 q8 q9).step b0 (λk Z f2=>absurd (a3.blk k Z).1 (by omega))).z1 b1),⟨⟨by simp only;omega,by omega,I,u9j J (by simp)⟩,D,by rw[y3o (hdS b r i) id0 (by omega),<-List.append_assoc];exact J⟩⟩ (by simp only;omega);obtain rfl:j=(l.getD i iq0).2.length:=by omega
 rw[List.take_length]at J;refine ex (te (te (xh (bn' (tn (rg (z0w U (wi6 (by omega)) (mv U (kpL [(0,_),(2,_),(3,_),(11,_),(12,_),(13,_)] (.c6 U U U U U U) (nl ?_))))))))));exact lpE ((i+1,_)) (.c6 U U U U U U) ⟨q4,⟨⟨by simp only;omega,by omega,d6⟩,D,by rw[y8m,z3n,<-List.append_assoc];exact J⟩⟩ (by simp only;omega);obtain rfl:i=l.length:=by omega
 refine ex (te (te (xh (r0n results141  ?_))));exact⟨_,rfl,rfl,⟨_,D,J,hi.2.2⟩,by omega,q1⟩
theorem j6l (w:World):(zeroValue 179).run prog w=.ok (.slice none 0 0) w:=by kernel_rfl
set_option maxHeartbeats 2000000 in
theorem v6x (q:BdQ)(r:Int)(w0:World)(hB:BdAt w0 q)(hv:BdOk q.p)(hr:-4<=r/\r<=4):Rets prog 102 #[.agg #[.slice q.f.1 q.f.2.1 q.f.2.2,.slice q.b.1 q.b.2.1 q.b.2.2],.int .i64 r] w0 λv w'=>(∃g,v=.tuple #[.slice (some ⟨g,0,none⟩) (z2q q.p r).length (z2q q.p r).length,.int .i64 0]/\w0.heap.size<=g/\Lw.Own z3o 183 w0.heap.size w' (.slice (some ⟨g,0,none⟩) (z2q q.p r).length (z2q q.p r).length) (z2q q.p r))/\Fr [] w0 w':=by
 obtain⟨⟨hf,hb⟩,h4,a4⟩:=z3x hv;have hN:=y5k hv;have b6:=y3g q.p r;have c1:(z2q q.p r).length=(v7k q.p r).length:=z4e _;refine we [(0,.agg #[.slice q.f.1 q.f.2.1 q.f.2.2,.slice q.b.1 q.b.2.1 q.b.2.2]),(1,.int .i64 r)] func102 U ntmps102 U (.c2 U U) ?_;have a2:=hB;refine sr (bx U (λg2 w1 b7 D q1 z1=>(bx U (λg3 w2 b8 Z q2 z2=>(asg U (asg U (nn (sq (sr ?_)))))))));replace D:=D.ext q2;refine z0l U D z5q (z3w U Z na3 ?_);replace hB:=a2.ext (q1.n1 q2);refine cl (ev2 U) (mkC func140) (x2o q _ _ hB hv (by omega)) U ?_;rintro _ w3 ⟨rfl,q3⟩;have z3:=q3.size;replace Z:=Z.ext q3;replace D:=D.ext q3;have O:BdAt w3 q:=a2.ext (q1.n2 q2 q3);have M:=Z;have b5:=M.lt;have a6:=D;refine asg U (nn (sr (mv U (ne' U (nn (cd U (λc0=>?_) (λc0=>?_)))))));exact absurd U c0;refine sk (tn (sr (z0l U D z5q ?_)));replace hB:=a2.ext (q1.n2 q2 q3);refine cl (ev1 U) (mkC func95) (x3e q _ hB hf hb h4 a4) U ?_;rintro _ w4 ⟨rfl,q4⟩;have z4:=q4.size;refine z1i (m:=0) (c:=q.p.flat.length) (hd0) U z3i u1g U (λa0 w5 b1 J q5 z5=>(al j6l U (λg7 w6 b9 I q6 z6=>(z4n U U I U j2v (λw7 I q7 z7=>(nn (sr (z6c z0f (ev2 U) U (asg U (nn (sr (mv U (fad U y2y ?_)))))))))))));replace D:=(D.ext (q4.n2 q5 q6)).fr q7;refine z0g U D U x0p ?_;replace J:=(J.ext q6).fr q7 (by first|(intro k hk hb;rw[List.mem_singleton.1 hk]at hb;first|exact J.neB I (by decide) hb|(have:=(J.blk _ hb).2;omega))|(simp;done));refine clv (us:=[]) (ws:=[.pointer (some ⟨g7,0,none⟩),.pointer (some ⟨g3,0,none⟩)]) U (ev2 U) (mkC func141) (v4v g7 g3 a0 0 r _ _ q.fs [] w3 _ (q4.z3 q5 q6 q7) O.f O.fi M (by omega) (by omega) (by omega) I J (by decide) (by omega) h4 (by first|(simp;done)|(have:=x3s 0 r q.fs h4 q.fs.length;simp;omega)) ⟨_,_,_,rfl⟩) U (by intro g e;cases e) ?_;rintro _ w8 ⟨rfl,⟨c9,I,J,a7⟩,hz22,q8⟩;have z8:=q8.size;refine nn (sr (mv U (fad U z9z ?_)));replace D:=a6.ext q8;refine z0g U D U x0p ?_;refine clv (us:=[]) (ws:=[.pointer (some ⟨g7,0,none⟩),.pointer (some ⟨g3,0,none⟩)]) U (ev2 U) (mkC func141) (v4v g7 g3 a0 1 r _ _ q.bs ([]++hds 0 r (plB q.fs) q.fs.length) w3 _ q8 O.b O.bi M (by omega) (by omega) (by omega) I J (by decide) (by omega) a4 (by first|(simp;done)|(have:=x3s 0 r q.fs h4 q.fs.length;simp;omega)) a7) U (by intro g e;cases e) ?_;rintro _ w9 ⟨rfl,⟨d0,I,J,a8⟩,hz26,q9⟩;have z9:=q9.size;rw[List.nil_append,show hds 0 r (plB q.fs) q.fs.length++hds 1 r (plB q.bs) q.bs.length=v7k q.p r by unfold v7k;simp only[List.length_map]]at J;obtain⟨a1,b3,rfl⟩:=v7t a8 J;have b4:=(J.blk a1 (by simp[z0v])).1;have a5:g7∉[a1]:=λhk=>(J.neB I (by decide)) (by simpa[z0v] using hk);refine kpL [(7,_)] (.cons U .nil) (nn (sr (z3w U I u7z (cl (ev2 U) (mkC func142) (u2i a1 _ a0 (v7k q.p r) _ J (by omega)) U ?_))));rintro _ d1 ⟨rfl,J,a3⟩;have d4:=a3.size;refine nn (sr ?_);replace I:=I.fr a3 (by first|exact a5|(simp;omega));refine z3w U I u7z ?_;refine cl (ev1 U) (mkC func144) (x9p _ (z2q q.p r) _ (by unfold z2q;exact J.sl) (by omega)) U ?_;rintro _ d3 ⟨b0,rfl,b2,hX,a9⟩;have d5:=a9.size;refine asg U (asg U (nn (rt (r2 results102 U U ?_))));exact⟨_,rfl,⟨b0,rfl,by omega,hX.low (by omega)⟩,(q1.z5 q2 q3 q9 a3 a9)⟩
end Go.Proofs.YtpgdchkdlgkmgaaGreatDoor
namespace Go.G08
open Go.Lw Go.G21
def btL (fr to:Int):Int:=if fr<to then fr else to
def btH (fr to:Int):Int:=if fr<to then to else fr
def btD (fr to:Int):Int:=if fr<to then 1 else 0
def btA (l:List Hd)(fr to:Int)(k:Nat):List Pa:=((l.take k).filter λh=>decide (btL fr to<h.s/\h.s<btH fr to)).map λh=>⟨h.id,decide (h.b=1),btD fr to⟩
theorem j6p {l:List Hd}{fr D:Int}{k:Nat}(I:k<l.length)(h:btL fr D<(l.getD k hd0).s/\(l.getD k hd0).s<btH fr D):btA l fr D (k+1)=btA l fr D k++[⟨(l.getD k hd0).id,decide ((l.getD k hd0).b=1),btD fr D⟩]:=by
 unfold btA;rw[z5m hd0 I,List.filter_append,List.map_append,List.filter_cons,if_pos (decide_eq_true h)];rfl
theorem j6r {l:List Hd}{fr D:Int}{k:Nat}(I:k<l.length)(h:¬(btL fr D<(l.getD k hd0).s/\(l.getD k hd0).s<btH fr D)):btA l fr D (k+1)=btA l fr D k:=by
 unfold btA;rw[z5m hd0 I,List.filter_append,List.filter_cons,if_neg (by simpa using h)];simp
theorem x4s (l:List Hd)(fr D:Int)(k:Nat):(btA l fr D k).length<=l.length:=by
 unfold btA;rw[List.length_map];refine Nat.le_trans (List.length_filter_le _ _) ?_;rw[List.length_take];omega
theorem j0q {l:List Hd}{fr D:Int}(h:¬btD fr D=0):btw l fr D=btA l fr D l.length:=by
 unfold btD at h;by_cases c:fr<D;unfold btw btA btL btH btD;rw[List.take_length];simp only[if_pos c];rw[if_neg c]at h;exact absurd U h
theorem j5c {l:List Hd}{fr D:Int}(h:btD fr D=0):btw l fr D=(btA l fr D l.length).reverse:=by
 unfold btD at h;by_cases c:fr<D;rw[if_pos c]at h;exact absurd h (by decide);unfold btw btA btL btH btD;rw[List.take_length];simp only[if_neg c]
theorem v1g (l:List Hd)(fr D:Int):(btw l fr D).length<=l.length:=by
 by_cases h:btD fr D=0;rw[j5c h,List.length_reverse];exact x4s l fr D _;rw[j0q h];exact x4s l fr D _
end Go.G08
namespace Go.Proofs.YtpgdchkdlgkmgaaGreatDoor
open Go.Lw Go.G21 Go.G08 _root_.Go.Proofs.Tryz
theorem u7x:BuildAt prog 100 [(0,2),(2,1),(3,1)] [(.int .u8 0),(.int .i64 0),(.bool false),(.int .u8 0)]:=BuildAt.struct underlying100 (λ_=>by kernel_rfl) (λ_=>by kernel_rfl)
theorem v1e:z1a prog 183 0 0:=λ_ _=>by kernel_rfl
theorem u7u:z1a prog 183 1 2:=λ_ _=>by kernel_rfl
set_option maxHeartbeats 1000000 in
theorem u4f (v:Value)(l:List Hd)(fr D:Int)(w0:World)(hs:Sl z3o w0 v l)(hl:l.length<=1000):Rets prog 149 #[v,.int .i64 fr,.int .i64 D] w0 λr w'=>(∃g,r=.slice (some ⟨g,0,none⟩) (btw l fr D).length (btw l fr D).length/\w0.heap.size<=g/\Lw.Own z1s 100 w0.heap.size w' r (btw l fr D))/\Fr [] w0 w':=by
 obtain⟨A,c,rfl,b5,hM,hA⟩:=id hs;clear hA;unfold maxLen at hM;refine we [(0,.slice A l.length c),(1,.int .i64 fr),(2,.int .i64 D)] func149 U ntmps149 U (.c3 U U U) ?_;have a6:=hs;refine sr (asg U (nn (sr (mv U (mv U (asg U (asg U (asg U (nn ?_)))))))));refine jn (ι:=Unit) [(0,_)] (λ_j=>[(7,.int .i64 (btL fr D)),(8,.int .i64 (btH fr D)),(9,.int .u8 (btD fr D))]) (λ_j w'=>Fr [] w0 w') (.cons U .nil) ?_ ?_;refine sr (mv U (mv U (gt' U (nn (cd U (λM=>?_) (λM=>?_))))));refine rg (mv U (mv U (asg U (asg U (asg U (nl ?_))))));exact jE (()) (.c4 U (by first|(rw[show btL fr D=_ from if_pos M];rfl)|(rw[show btL fr D=_ from if_neg M];rfl)) (by first|(rw[show btH fr D=_ from if_pos M];rfl)|(rw[show btH fr D=_ from if_neg M];rfl)) (by first|(rw[show btD fr D=_ from if_pos M];rfl)|(rw[show btD fr D=_ from if_neg M];rfl))) (Fr.refl _ _);refine sk ?_;exact jE (()) (.c4 U (by first|(rw[show btL fr D=_ from if_pos M];rfl)|(rw[show btL fr D=_ from if_neg M];rfl)) (by first|(rw[show btH fr D=_ from if_pos M];rfl)|(rw[show btH fr D=_ from if_neg M];rfl)) (by first|(rw[show btD fr D=_ from if_pos M];rfl)|(rw[show btD fr D=_ from if_neg M];rfl))) (Fr.refl _ _);rintro _j w1 q1;have z1:=q1.size;refine kpC [(0,_),(7,_),(8,_),(9,_)] (.c4 U U U U) (sr (asg U (nn (sq (sr (mv U (lnS U underlying179 (mv U (nn (bl ?_))))))))));refine lpK (ι:=Nat×Value) [(7,_),(8,_),(9,_),(20,_),(21,_)] (λp=>[(22,.int .i64 (p.1:Int)),(10,p.2)]) (λp w'=>Fr [] w0 w'/\p.1<=l.length/\Lw.Own z1s 100 w0.heap.size w' p.2 (btA l fr D p.1)) (λp=>l.length-p.1) (0,_) (.c7 U U U U U U U) ⟨q1,⟨Nat.zero_le _,Own.nil _⟩⟩ ?_;rintro⟨k,vP⟩ w2 ⟨Z,⟨hk,J⟩⟩;simp only at hk J;have z2:=Z.size;refine kpC [(7,_),(8,_),(9,_),(20,_),(21,_),(22,.int .i64 (k:Int)),(10,vP)] (.c7 U U U U U U U) ?_;have b3:=x4s l fr D k;refine sr (lt' U (nn (sq (cd U (λc1=>?_) (λc1=>?_)))));refine sk (tn (sq (bl (sr ?_))));replace hs:=a6.ext Z;refine z0y (hd0) U hs U z3i z1e (λa7 a0=>?_);refine z1k U (a0 _ hs) z5k (al u1g U (λb1 w3 a8 I q3 z3=>?_));refine z0j (vs:=[_,_,_,_,_]) U I z8o (λw4 I q4 z4=>?_) (h1:=(by first|(simp[Value.oneCell',S];done)|exact z3o.one _));refine nn (sq ?_);refine rbo (r:=35) (L':=[(7,_),(8,_),(9,_),(10,_),(12,_),(20,_),(21,_),(22,_)]) ((((btL fr D)<(l.getD k hd0).s)/\((l.getD k hd0).s<(btH fr D)))) (.c8 U U U U U U U U) ?_ ?_;refine fad U y8f (z0g U I U na3 (mv U (gt' U (mv U (gs 30 U (λg0=>?_) (λg0=>?_))))));exact gY U (fad U y8f (gY U (z0g U I U na3 (gY U (mv U (gY U (lt' U (pkt U (rbe U (.c8 U U U U U U U U))))))))));exact gN U (gN U (gN U (gN U (pkf U (rbe U (.c8 U U U U U U U U))))));refine tn (cd U (λc2=>?_) (λc2=>?_));refine rg (mv U (fad U v1e (z1v (vs:=[_,_]) U I z3j U (fad U u7u (z9b U z6q (z0g U I U x1a (eq' U (mv U (z1t (cs:=[_,_,_,_]) (ev3 U) u7x (z0h U (z0h U (z0h U z0q))) U ?_)))))))));refine z2e ([(⟨(l.getD k hd0).id,decide ((l.getD k hd0).b=1),btD fr D⟩:Pa)]) (ev1 U) U z9d (λb2 w5 a9 a1 q5 z5=>?_);replace J:=((J.ext q3).fr q4 (by first|exact z8y J (by omega)|simp[z0v]<;>omega)).ext q5;have O:=J;refine z2g U J a1.sl z9d (by unfold maxLen;simp only[List.length_cons,List.length_nil];omega) (by simp only[List.length_cons,List.length_nil];omega) (λb6 w6 J q6 a5=>?_);have z6:=q6.size;refine asg U (kpL [(7,_),(8,_),(9,_),(10,_),(20,_),(21,_),(22,_)] (.c7 U U U U U U U) (nl (bn' (tn (rg (z0w U (wi6 (by omega)) (mv U (nl ?_))))))));exact lpE ((k+1,_)) (.c7 U U U U U U U) ⟨((Z.z3 q3 q4 q5).step q6 (λk hk a3=>absurd (O.blk k hk).1 (by omega))),⟨by simp only;omega,by rw[j6p (by omega) c2];exact J⟩⟩ (by simp only;omega);refine sk (bn' (tn (rg (z0w U (wi6 (by omega)) (mv U (nl ?_))))));replace J:=(J.ext q3).fr q4 (by first|exact z8y J (by omega)|simp[z0v]<;>omega);exact lpE ((k+1,_)) (.c7 U U U U U U U) ⟨(Z.z2 q3 q4),⟨by simp only;omega,by rw[j6r (by omega) c2];exact J⟩⟩ (by simp only;omega);obtain rfl:k=l.length:=by omega
 have b4:=v1g l fr D;refine ex (te (te (xh (tn ?_))));refine jn (ι:=Unit) [(10,_)] (λ_j=>[]) (λ_j w'=>Fr [] w0 w'/\Lw.Own z1s 100 w0.heap.size w' vP (btw l fr D)) (.cons U .nil) ?_ ?_;refine sr (mv U (eq' U (kpL [(10,_),(49,_)] (.c2 U U) (nn (cd U (λc3=>?_) (λc3=>?_))))));refine rg (mv U ?_);have a4:=J;refine cl (ev1 U) (mkC func196) (x3l w0.heap.size _ _ _ J (by omega)) U ?_;rintro _ w7 ⟨J,q7⟩;have z7:=q7.size;refine nl ?_;exact jE (()) (.cons U .nil) ⟨(Z.step q7 (λk hk a3=>absurd (a4.blk k hk).1 (by omega))),(by rw[j5c c3];exact J)⟩;refine sk ?_;exact jE (()) (.cons U .nil) ⟨Z,(by rw[j0q c3];exact J)⟩;rintro _j w8 ⟨q8,J⟩;have z8:=q8.size;refine kpC [(10,_)] (.cons U .nil) (sr (mv U (cl (ev1 U) (mkC func197) (y5u _ (btw l fr D) _ J.sl (by omega)) U ?_)));rintro _ w9 ⟨a2,rfl,b0,hX,q9⟩;have z9:=q9.size;refine asg U (nn (rt (r1 results149 U ?_)));exact⟨_,rfl,⟨a2,rfl,by omega,hX.low (by omega)⟩,(q8.n1 q9)⟩
end Go.Proofs.YtpgdchkdlgkmgaaGreatDoor
namespace Go.G08
open Go.Lw Go.G21
theorem Own.neO {α β:Type}{E:Enc α}{J:Enc β}{T T' b M:Nat}{w:World}{v I:Value}{ys:List α}{zs:List β}(h:Lw.Own E T b w v ys)(O:Lw.Own J T' M w I zs)(Z:T≠T'):∀k∈z0v v,k∉z0v I:=by
 intro k D;rcases h with ⟨rfl,rfl⟩|⟨g,cap,cur,rfl,_,hg,_⟩
 cases D;obtain rfl:k=g:=by simpa[z0v] using D
 exact O.neB hg (Ne.symm Z)
theorem v4k (B:Bd)(r d:Int)(i:Nat):x9v B r d (i+1)=x9v B r d i++u2r B r d i:=by unfold x9v;rw[List.range_succ,List.flatMap_append];simp
theorem y6w (B:Bd)(r d p:Int)(i:Nat):y6h B r d p (i+1)=y6h B r d p i++x1s B r d p i:=by unfold y6h;rw[List.range_succ,List.flatMap_append];simp
theorem v2r {α β:Type}(f:α->List β){l:List α}{j:Nat}(d:α)(h:j<l.length):(l.take (j+1)).flatMap f=(l.take j).flatMap f++f (l.getD j d):=by
 rw[z5m d h,List.flatMap_append];simp
theorem v5e {B:Bd}(h:BdOk B)(k:Nat):(B.b.getD k []).length<=4:=by
 have:=y5a h 1 ((k:Int)+1);unfold Bd.at atB at this;rwa [if_neg (by decide),show ((k:Int)+1-1).toNat=k by omega]at this
theorem x4t {B:Bd}(h:BdOk B)(b n:Int):(B.atC b n).length<=4:=by
 unfold Bd.atC;split;exact y5a h b n;simp
theorem flat_len {α β:Type}(f:α->List β)(m:Nat)(hf:∀x,(f x).length<=m):∀l:List α,(l.flatMap f).length<=m*l.length
 | []=>by simp
 | x::l=>by have:=flat_len f m hf l;have:=hf x;rw[List.flatMap_cons,List.length_append,List.length_cons];rw[Nat.mul_succ];omega
theorem u1k {B:Bd}(h:BdOk B)(r d:Int)(k:Nat):(u2r B r d k).length<=16:=by
 unfold u2r;have D:=flat_len (λx=>(B.atC 0 (y0j r d k)).reverse.map (x6x d x)) 4 (λx=>by rw[List.length_map,List.length_reverse];exact x4t h _ _) (B.b.getD k []);have:=v5e h k;omega
theorem x7y {B:Bd}(h:BdOk B)(r d:Int)(i:Nat):(x9v B r d i).length<=16*i:=by
 have:=flat_len (u2r B r d) 16 (u1k h r d) (List.range i);rw[List.length_range]at this;exact this
theorem v2a {B:Bd}(h:BdOk B)(r d p:Int)(k:Nat):(x1s B r d p k).length<=4:=by
 unfold x1s;split;simp;rw[List.length_map];exact v5e h k
theorem x3b {B:Bd}(h:BdOk B)(r d p:Int)(i:Nat):(y6h B r d p i).length<=4*i:=by
 have:=flat_len (x1s B r d p) 4 (v2a h r d p) (List.range i);rw[List.length_range]at this;exact this
theorem x1w {B:Bd}(h:BdOk B)(r d p:Int):(z7a B r d p).length<=4*B.b.length:=by
 have:=x3b h r d p B.b.length;unfold z7a;split;rw[List.length_reverse];exact this;exact this
theorem y4o {B:Bd}(h:BdOk B)(r d:Int):(z4g B r d).length<=16*B.b.length:=by
 have:=x7y h r d B.b.length;unfold z4g;split;rw[List.length_reverse];exact this;exact this
end Go.G08
namespace Go.Proofs.YtpgdchkdlgkmgaaGreatDoor
open Go.Lw Go.G21 Go.G08 _root_.Go.Proofs.Tryz
set_option maxHeartbeats 2000000 in
theorem v7p (q:BdQ)(r d I:Int)(w0:World)(O:BdAt w0 q)(hv:BdOk q.p)(hT:StT w0)(hr:-4<=r/\r<=4)(hd:d=0\/d=1)(d6:-4<=r+stI d/\r+stI d<=4)(hp:¬Int.tmod I 2=0)(d4:-9223372036854775808<=I/\I<=9223372036854775807):Rets prog 145 #[.agg #[.slice q.f.1 q.f.2.1 q.f.2.2,.slice q.b.1 q.b.2.1 q.b.2.2],.int .i64 r,.int .u8 d,.int .i64 I] w0 λv w'=>(∃g,v=.tuple #[.slice (some ⟨g,0,none⟩) (z7a q.p r d I).length (z7a q.p r d I).length,.int .i64 0]/\w0.heap.size<=g/\Lw.Own z1s 100 w0.heap.size w' (.slice (some ⟨g,0,none⟩) (z7a q.p r d I).length (z7a q.p r d I).length) (z7a q.p r d I))/\Fr [] w0 w':=by
 obtain⟨⟨hf,hb⟩,h4,b0⟩:=z3x hv;have b2:=x1w hv r d I;rw[List.length_map]at b2;refine we [(0,.agg #[.slice q.f.1 q.f.2.1 q.f.2.2,.slice q.b.1 q.b.2.1 q.b.2.2]),(1,.int .i64 r),(2,.int .u8 d),(3,.int .i64 I)] func145 U ntmps145 U (.c4 U U U U) ?_;have J:=O;have a1:=hT;refine sr (bx U (λg4 w1 d3 Z q1 z1=>(asg U (asg U (nn (sq (sr (z0l U Z z5q (mv U (mv U ?_))))))))));replace O:=J.ext q1;replace hT:=a1.ext q1;refine cl (ev3 U) (mkC func195) (x2f q _ _ _ O hv hT (by omega) hd (by omega)) U ?_;rintro _ w2 ⟨rfl,q2⟩;have z2:=q2.size;refine asg U (nn (sr (mv U (ne' U (nn (cd U (λc0=>?_) (λc0=>?_)))))));exact absurd U c0;refine sk (tn (sq (sr (mv U (y6d U U (by first|exact IntWalk.rem_in _ _ (by omega)|rfl) (eq' U (nn ?_)))))));refine cd U (λc1=>?_) (λc1=>?_);exact absurd c1 hp;refine sk (tn (sr (asg U (nn ?_))));refine jn (ι:=Unit) [(1,_),(2,_),(3,_),(4,_)] (λ_j=>[(11,.int .u8 (1-d))]) (λ_j w'=>Fr [] w2 w') (.c4 U U U U) ?_ ?_;refine sr (mv U (eq' U (nn (cd U (λc2=>?_) (λc2=>?_)))));refine rg (asg U (nl ?_));exact jE (()) (.c5 U U U U (congrArg (λz=>some (Value.int .u8 z)) (by omega))) (Fr.refl _ _);refine sk ?_;exact jE (()) (.c5 U U U U (congrArg (λz=>some (Value.int .u8 z)) (by omega))) (Fr.refl _ _);rintro _j w3 q3;have z3:=q3.size;refine kpC [(1,_),(2,_),(3,_),(4,_),(11,_)] (.c5 U U U U U) (sr (asg U (nn (sq (sr (fad U z9z ?_))))));replace Z:=Z.ext (q2.n1 q3);refine z0g U Z U x0p (lnS U underlying30 (mv U (nn (bl ?_))));refine lpK (ι:=Nat×Value) [(1,_),(2,_),(3,_),(11,_),(31,_),(32,_)] (λp=>[(33,.int .i64 (p.1:Int)),(12,p.2)]) (λp w'=>Fr [] w0 w'/\p.1<=q.bs.length/\Lw.Own z1s 100 w0.heap.size w' p.2 (y6h q.p r d I p.1)) (λp=>q.bs.length-p.1) (0,_) (.c8 U U U U U U U U) ⟨(q1.n2 q2 q3),⟨Nat.zero_le _,Own.nil _⟩⟩ ?_;rintro⟨i,uI⟩ w4 ⟨q4,⟨hi,D⟩⟩;simp only at hi D;have z4:=q4.size;refine kpC [(1,_),(2,_),(3,_),(11,_),(31,_),(32,_),(33,.int .i64 (i:Int)),(12,uI)] (.c8 U U U U U U U U) ?_;have d5:=z1u J.b;have d1:=x3b hv r d I i;have d7:=z3h b0 i;have d9:=z1u (z1y J.bi i);have e0:-300<=z4t 1 ((i:Int)+1) r/\z4t 1 ((i:Int)+1) r<=300:=by
  unfold z4t;split;omega;split<;>omega
 have e1:stI d = -1\/stI d=1:=by unfold stI;split<;>simp
 refine sr (lt' U (nn (sq (cd U (λc3=>?_) (λc3=>?_)))));refine sk (tn (sq (bl (sr (mv U ?_)))));replace O:=J.ext q4;refine z0y (iq0) U O.b U y2w z1e (λb5 a2=>?_);refine z1g U (a2 _ O.b) z4x (asg U (asg U (nn (sr (mv U (z0w U (wi6 (by omega)) (z1t (cs:=[_,_]) (ev2 U) x0l (z0h U (z0h U z0q)) U ?_)))))));refine mv U (cl (ev2 U) x9j (y2j _ _ _ _ (by omega)) U ?_);rintro _ w5 ⟨rfl,q5⟩;have z5:=q5.size;refine asg U (kpL [(1,_),(2,_),(3,_),(11,_),(12,_),(14,_),(15,_),(31,_),(32,_),(33,_)] (.d8 U U U U U U U U (.c2 U U)) (nn (sq (sq ?_))));refine rbo (r:=59) (L':=[(1,_),(2,_),(3,_),(11,_),(12,_),(14,_),(31,_),(32,_),(33,_)]) (((I≠((z4t 1 ((i:Int)+1) r)+(stI d)))/\(I≠((z4t 1 ((i:Int)+1) r)+(3*(stI d)))))) (.d8 U U U U U U U U (.cons U .nil)) ?_ ?_;refine mv U (mv U (mv U (y2v U U underlying290 sz3 ?_)));replace hT:=a1.ext (q4.n1 q5);refine z6e U hT.c (y4x hd) na3 (z0w U (wi6 (by omega)) (ne' U (mv U (gs 50 U (λg0=>?_) (λg0=>?_)))));refine gY U (mv U (gY U (mv U (gY U (mv U (gY U (y2v U U underlying290 sz3 (gY U (z6e U hT.c (y4x hd) na3 (gY U (x5q U U (wi6 (by omega)) U ?_)))))))))));exact gY U (z0w U (wi6 (by omega)) (gY U (ne' U (pkt U (rbe U (.d8 U U U U U U U U (.cons U .nil)))))));exact gN U (gN U (gN U (gN U (gN U (gN U (gN U (gN U (pkf U (rbe U (.d8 U U U U U U U U (.cons U .nil)))))))))));refine tn (cd U (λc4=>?_) (λc4=>?_));refine ex (te (xh (tn (rg (z0w U (wi6 (by omega)) (mv U (nl ?_)))))));replace D:=D.ext q5;exact lpE ((i+1,_)) (.c8 U U U U U U U U) ⟨(q4.n1 q5),⟨by simp only;omega,by rw[y6w,show x1s q.p r d I i=[] from if_pos c4,List.append_nil];exact D⟩⟩ (by simp only;omega);refine sk (tn (sr (mv U (lnS U underlying37 (mv U (nn (bl ?_)))))));replace D:=D.ext q5;refine lpK (ι:=Nat×Value) [(1,_),(2,_),(3,_),(11,_),(31,_),(32,_),(33,_),(60,_),(61,_)] (λp=>[(62,.int .i64 (p.1:Int)),(12,p.2)]) (λp w'=>Fr [] w0 w'/\p.1<=(q.bs.getD i iq0).2.length/\Lw.Own z1s 100 w0.heap.size w' p.2 ((y6h q.p r d I i)++((q.bs.getD i iq0).2.take p.1).map (λx=>(⟨x,true,1-d⟩:Pa)))) (λp=>(q.bs.getD i iq0).2.length-p.1) (0,uI) (.d8 U U U U U U U U (.c3 U U U)) ⟨(q4.n1 q5),⟨Nat.zero_le _,by simpa using D⟩⟩ ?_;rintro⟨j,uJ⟩ w6 ⟨q6,⟨hj,D⟩⟩;simp only at hj D;have z6:=q6.size;refine kpC [(1,_),(2,_),(3,_),(11,_),(31,_),(32,_),(33,_),(60,_),(61,_),(62,.int .i64 (j:Int)),(12,uJ)] (.d8 U U U U U U U U (.c3 U U U)) (sr (lt' U (nn (sq (cd U (λc5=>?_) (λc5=>?_))))));refine sk (tn (sq (bl (sr ?_))));replace O:=J.ext q6;refine z0y (id0) U (z1y O.bi i) U z5d z1e (λb6 a3=>?_);refine z1k U (a3 _ (z1y O.bi i)) z3j (al y3h U (λc9 w7 b7 M q7 z7=>?_));refine z0j (vs:=[_,_]) U M y0b (λw8 M q8 z8=>?_) (h1:=(by first|(simp[Value.oneCell',S];done)|exact z1h.one _));refine nn (rg (mv U (z0l U M z3j (mv U (z1t (cs:=[_,_,_,_]) (ev3 U) u7x (z0h U (z0h U (z0h U z0q))) U ?_)))));refine z2e ([(⟨((q.bs.getD i iq0).2.getD j id0),true,1-d⟩:Pa)]) (ev1 U) U z9d (λd0 w9 b8 a4 q9 z9=>?_);replace D:=((D.ext q7).fr q8 (by first|exact z8y D (by omega)|simp[z0v]<;>omega)).ext q9;have a0:=D;refine z2g U D a4.sl z9d (by unfold maxLen;simp only[List.length_append,List.length_map,List.length_take,List.length_cons,List.length_nil];omega) (by simp only[List.length_append,List.length_map,List.length_take,List.length_cons,List.length_nil];omega) (λe2 e3 D a5 b4=>?_);have e7:=a5.size;refine asg U (kpL [(1,_),(2,_),(3,_),(11,_),(12,_),(31,_),(32,_),(33,_),(60,_),(61,_),(62,_)] (.d8 U U U U U U U U (.c3 U U U)) (nl (bn' (tn (rg (z0w U (wi6 (by omega)) (mv U (nl ?_))))))));exact lpE ((j+1,_)) (.d8 U U U U U U U U (.c3 U U U)) ⟨((q6.z3 q7 q8 q9).step a5 (λk hk b1=>absurd (a0.blk k hk).1 (by omega))),⟨by simp only;omega,by rw[y3o (λx=>(⟨x,true,1-d⟩:Pa)) id0 (by omega),<-List.append_assoc];exact D⟩⟩ (by simp only;omega);obtain rfl:j=(q.bs.getD i iq0).2.length:=by omega
 rw[List.take_length]at D;refine ex (te (te (xh (bn' (tn (rg (z0w U (wi6 (by omega)) (mv U (nl ?_)))))))));exact lpE ((i+1,_)) (.c8 U U U U U U U U) ⟨q6,⟨by simp only;omega,by rw[y6w,show x1s q.p r d I i=_ from if_neg c4,z3n];exact D⟩⟩ (by simp only;omega);obtain rfl:i=q.bs.length:=by omega
 refine ex (te (te (xh (tn ?_))));refine jn (ι:=Unit) [(12,_)] (λ_j=>[]) (λ_j w'=>Fr [] w0 w'/\Lw.Own z1s 100 w0.heap.size w' uI (z7a q.p r d I)) (.cons U .nil) ?_ ?_;refine sr (mv U (eq' U (kpL [(12,_),(75,_)] (.c2 U U) (nn (cd U (λc6=>?_) (λc6=>?_))))));refine rg (mv U ?_);have b3:=D;refine cl (ev1 U) (mkC func196) (x3l w0.heap.size _ _ _ D (by omega)) U ?_;rintro _ e4 ⟨D,a6⟩;have e8:=a6.size;refine nl ?_;exact jE (()) (.cons U .nil) ⟨(q4.step a6 (λk hk b1=>absurd (b3.blk k hk).1 (by omega))),(by rw[show z7a q.p r d I=_ from if_pos (by omega),List.length_map];exact D)⟩;refine sk ?_;exact jE (()) (.cons U .nil) ⟨q4,(by rw[show z7a q.p r d I=_ from if_neg (by omega),List.length_map];exact D)⟩;rintro _j e5 ⟨a7,D⟩;have e9:=a7.size;refine kpC [(12,_)] (.cons U .nil) (sr (mv U (cl (ev1 U) (mkC func197) (y5u _ (z7a q.p r d I) _ D.sl (by omega)) U ?_)));rintro _ e6 ⟨a9,rfl,b9,hX,a8⟩;have f0:=a8.size;refine asg U (asg U (nn (rt (r2 results145 U U ?_))));exact⟨_,rfl,⟨a9,rfl,by omega,hX.low (by omega)⟩,(a7.n1 a8)⟩
theorem j2q:BuildAt prog 246 [(0,2),(2,2),(4,1)] [(.int .u8 0),(.int .i64 0),(.int .u8 0),(.int .i64 0),(.int .i64 0)]:=BuildAt.struct underlying246 (λ_=>by kernel_rfl) (λ_=>by kernel_rfl)
set_option maxHeartbeats 4000000 in
theorem u9d (q:BdQ)(r d:Int)(w0:World)(hB:BdAt w0 q)(hv:BdOk q.p)(hT:StT w0)(hr:-4<=r/\r<=4)(hd:d=0\/d=1)(f9:-4<=r+stI d/\r+stI d<=4):Rets prog 147 #[.agg #[.slice q.f.1 q.f.2.1 q.f.2.2,.slice q.b.1 q.b.2.1 q.b.2.2],.int .i64 r,.int .u8 d] w0 λv w'=>(∃g,v=.tuple #[.slice (some ⟨g,0,none⟩) (z4g q.p r d).length (z4g q.p r d).length,.int .i64 0]/\w0.heap.size<=g/\Lw.Own z4q 246 w0.heap.size w' (.slice (some ⟨g,0,none⟩) (z4g q.p r d).length (z4g q.p r d).length) (z4g q.p r d))/\Fr [] w0 w':=by
 obtain⟨⟨hf,hb⟩,h4,b3⟩:=z3x hv;have f8:=z1u hB.b;have e0:=y4o hv r d;rw[List.length_map]at e0;refine we [(0,.agg #[.slice q.f.1 q.f.2.1 q.f.2.2,.slice q.b.1 q.b.2.1 q.b.2.2]),(1,.int .i64 r),(2,.int .u8 d)] func147 U ntmps147 U (.c3 U U U) ?_;have a3:=hB;have d6:=hT;refine sr (bx U (λg3 w1 f7 Z q1 z1=>(asg U (asg U (nn (sq (sr (z0l U Z z5q (mv U (mv U ?_))))))))));replace hB:=a3.ext q1;replace hT:=d6.ext q1;refine cl (ev3 U) (mkC func195) (x2f q _ _ _ hB hv hT (by omega) hd (by omega)) U ?_;rintro _ w2 ⟨rfl,q2⟩;have z2:=q2.size;replace Z:=Z.ext q2;have b4:=Z;refine asg U (nn (sr (mv U (ne' U (nn (cd U (λc0=>?_) (λc0=>?_)))))));exact absurd U c0;refine sk (tn (sr (asg U (nn (sq (sr (fad U z9z (z0g U Z U x0p (lnS U underlying30 (mv U (nn (bl ?_))))))))))));refine lpK (ι:=Nat×Value) [(1,_),(2,_),(3,_),(26,_),(27,_)] (λp=>[(28,.int .i64 (p.1:Int)),(9,p.2)]) (λp w'=>Fr [] w2 w'/\p.1<=q.bs.length/\Lw.Own z4q 246 w2.heap.size w' p.2 (x9v q.p r d p.1)) (λp=>q.bs.length-p.1) (0,_) (.c7 U U U U U U U) ⟨(Fr.refl _ _),⟨Nat.zero_le _,Own.nil _⟩⟩ ?_;rintro⟨i,uI⟩ w3 ⟨q3,⟨hi,I⟩⟩;simp only at hi I;have z3:=q3.size;refine kpC [(1,_),(2,_),(3,_),(26,_),(27,_),(28,.int .i64 (i:Int)),(9,uI)] (.c7 U U U U U U U) ?_;have f5:=x7y hv r d i;have g0:=z3h b3 i;have g1:=z1u (z1y a3.bi i);have f6:-10<=y0j r d i/\y0j r d i<=50:=by unfold y0j;split<;>omega
 have d7:((q.p.atC 0 (y0j r d i)).reverse).length<=4:=by rw[List.length_reverse];exact x4t hv _ _
 refine sr (lt' U (nn (sq (cd U (λc1=>?_) (λc1=>?_)))));refine sk (tn (sq (bl (sr (mv U ?_)))));replace hB:=a3.ext (q1.n2 q2 q3);refine z0y (iq0) U hB.b U y2w z1e (λe3 b5=>?_);refine z1g U (b5 _ hB.b) z4x (asg U (asg U (nn (sr (mv U (z0w U (wi6 (by omega)) (mv U (z0w U (wi6 (by omega)) (asg U (nn ?_))))))))));refine jn (ι:=Unit) [(1,_),(2,_),(3,_),(9,_),(11,_),(26,_),(27,_),(28,_)] (λ_j=>[(12,.int .i64 (y0j r d i))]) (λ_j w'=>Fr [] w2 w'/\Lw.Own z4q 246 w2.heap.size w' uI (x9v q.p r d i)) (.c8 U U U U U U U U) ?_ ?_;refine sr (mv U (eq' U (nn (cd U (λc2=>?_) (λc2=>?_)))));refine rg (mv U (z2u U (wi6 (by omega)) (asg U (nl ?_))));exact jE (()) (.d8 U U U U U U U U (.cons (by first|(rw[show y0j r d i=_ from if_pos c2];rfl)|(rw[show y0j r d i=_ from if_neg c2];rfl)) .nil)) ⟨q3,I⟩;refine sk ?_;exact jE (()) (.d8 U U U U U U U U (.cons (by first|(rw[show y0j r d i=_ from if_pos c2];rfl)|(rw[show y0j r d i=_ from if_neg c2];rfl)) .nil)) ⟨q3,I⟩;rintro _j w4 ⟨q4,I⟩;have z4:=q4.size;refine kpC [(1,_),(2,_),(3,_),(9,_),(11,_),(26,_),(27,_),(28,_),(12,_)] (.d8 U U U U U U U U (.cons U .nil)) (sr ?_);replace Z:=b4.ext q4;refine z0l U Z z5q (mv U (z1t (cs:=[_,_]) (ev2 U) x0l (z0h U (z0h U z0q)) U ?_));replace hB:=a3.ext (q1.n2 q2 q4);refine cl (ev2 U) u2x (x2i q 0 (y0j r d i) _ hB (by omega) hf hb h4 b3) U ?_;rintro g4 w5 ⟨J,q5⟩;replace J:=J.low (show w2.heap.size<=_ by omega);have z5:=q5.size;refine asg U (nn (sr (mv U ?_)));have a4:=J;replace I:=I.ext q5;refine cl (ev1 U) (mkC func200) (v2v w2.heap.size _ _ _ J (by have:=x4t hv 0 (y0j r d i);omega)) U ?_;rintro _ w6 ⟨J,q6⟩;replace I:=I.fr q6 (Own.neO a4 I (by decide));have z6:=q6.size;obtain⟨b1,b2,rfl,e6⟩:=J.sl.form;refine nn (sr (mv U (lnS U underlying37 (mv U (nn (bl ?_))))));refine lpK (ι:=Nat×Value) [(1,_),(2,_),(3,_),(13,_),(26,_),(27,_),(28,_),(47,_),(48,_)] (λp=>[(49,.int .i64 (p.1:Int)),(9,p.2)]) (λp w'=>Fr [] w2 w'/\p.1<=(q.bs.getD i iq0).2.length/\Lw.Own z4q 246 w2.heap.size w' p.2 ((x9v q.p r d i)++((q.bs.getD i iq0).2.take p.1).flatMap (λx=>((q.p.atC 0 (y0j r d i)).reverse).map (x6x d x)))/\Lw.Own z1h 87 w2.heap.size w' (.slice b1 ((q.p.atC 0 (y0j r d i)).reverse).length b2) ((q.p.atC 0 (y0j r d i)).reverse)) (λp=>(q.bs.getD i iq0).2.length-p.1) (0,_) (.d8 U U U U U U U U (.c3 U U U)) ⟨((q4.n1 q5).step q6 (λk hk b0=>absurd (a4.blk k hk).1 (by omega))),⟨Nat.zero_le _,by simpa using I,J⟩⟩ ?_;rintro⟨j,uJ⟩ w7 ⟨q7,⟨hj,I,J⟩⟩;simp only at hj I;have z7:=q7.size;refine kpC [(1,_),(2,_),(3,_),(13,_),(26,_),(27,_),(28,_),(47,_),(48,_),(49,.int .i64 (j:Int)),(9,uJ)] (.d8 U U U U U U U U (.c3 U U U)) ?_;have d9:=flat_len (λx=>((q.p.atC 0 (y0j r d i)).reverse).map (x6x d x)) 4 (λx=>by rw[List.length_map];exact d7) ((q.bs.getD i iq0).2.take j);rw[List.length_take]at d9;refine sr (lt' U (nn (sq (cd U (λc3=>?_) (λc3=>?_)))));refine sk (tn (sq (bl (sr ?_))));replace hB:=a3.ext (q1.n2 q2 q7);refine z0y (id0) U (z1y hB.bi i) U z5d z1e (λe4 b6=>?_);refine z1k U (b6 _ (z1y hB.bi i)) z3j (al y3h U (λd4 w8 e7 D q8 z8=>?_));refine z0j (vs:=[_,_]) U D y0b (λw9 D q9 z9=>?_) (h1:=(by first|(simp[Value.oneCell',S];done)|exact z1h.one _));refine nn (sr (mv U (lnS U underlying37 (mv U (nn (bl ?_))))));replace I:=(I.ext q8).fr q9 (by first|exact z8y I (by omega)|simp[z0v]<;>omega);replace J:=(J.ext q8).fr q9 (by first|exact z8y J (by omega)|simp[z0v]<;>omega);refine lpK (ι:=Nat×Value) [(1,_),(2,_),(3,_),(13,_),(15,_),(26,_),(27,_),(28,_),(47,_),(48,_),(49,_),(53,_),(54,_)] (λp=>[(55,.int .i64 (p.1:Int)),(9,p.2)]) (λp w'=>Fr [] w2 w'/\p.1<=((q.p.atC 0 (y0j r d i)).reverse).length/\Lw.Own z4q 246 w2.heap.size w' p.2 (((x9v q.p r d i)++((q.bs.getD i iq0).2.take j).flatMap (λx=>((q.p.atC 0 (y0j r d i)).reverse).map (x6x d x)))++(((q.p.atC 0 (y0j r d i)).reverse).take p.1).map (x6x d ((q.bs.getD i iq0).2.getD j id0)))/\Lw.Own z1h 87 w2.heap.size w' (.slice b1 ((q.p.atC 0 (y0j r d i)).reverse).length b2) ((q.p.atC 0 (y0j r d i)).reverse)/\Blk w' d4 87 (z1h.enc ((q.bs.getD i iq0).2.getD j id0))) (λp=>((q.p.atC 0 (y0j r d i)).reverse).length-p.1) (0,_) (.d8 U U U U U U U U (.c7 U U U U U U U)) ⟨(q7.z2 q8 q9),⟨Nat.zero_le _,by simpa using I,J,D⟩⟩ ?_;rintro⟨k,uK⟩ g7 ⟨a5,⟨hk,I,J,D⟩⟩;simp only at hk I;have h9:=a5.size;have c9:=D.lt;refine kpC [(1,_),(2,_),(3,_),(13,_),(15,_),(26,_),(27,_),(28,_),(47,_),(48,_),(49,_),(53,_),(54,_),(55,.int .i64 (k:Int)),(9,uK)] (.d8 U U U U U U U U (.c7 U U U U U U U)) (sr (lt' U (nn (sq (cd U (λc4=>?_) (λc4=>?_))))));refine sk (tn (sq (bl (sr (z0y (id0) U J.sl U z5d z1e (λe5 b7=>?_))))));refine z1k U (b7 _ J.sl) z3j (al y3h U (λf2 g8 e8 a2 M i0=>?_));refine z0j (vs:=[_,_]) U a2 y0b (λg9 a2 O i1=>?_) (h1:=(by first|(simp[Value.oneCell',S];done)|exact z1h.one _));refine nn (sr (mv U (eq' U (nn (cd U (λc5=>?_) (λc5=>?_))))));refine rg (mv U (z0l U a2 z3j ?_));replace D:=(D.ext M).fr O;refine z0l U D z3j (z1t (cs:=[_,_,_,_,_]) (ev3 U) j2q (z0h U (z0h U (z0h U z0q))) U ?_);refine z2e ([(⟨(((q.p.atC 0 (y0j r d i)).reverse).getD k id0),((q.bs.getD i iq0).2.getD j id0),1⟩:Cx)]) (ev1 U) U y1p (λf3 h0 e9 b8 a6 i2=>?_);replace J:=((J.ext M).fr O (by first|exact z8y J (by omega)|simp[z0v]<;>omega)).ext a6;replace D:=D.ext a6;replace I:=((I.ext M).fr O (by first|exact z8y I (by omega)|simp[z0v]<;>omega)).ext a6;have a0:=I;refine z2g U I b8.sl y1p (by unfold maxLen;simp only[List.length_append,List.length_map,List.length_take,List.length_cons,List.length_nil];omega) (by simp only[List.length_append,List.length_map,List.length_take,List.length_cons,List.length_nil];omega) (λg5 h2 I a7 e1=>?_);have i3:=a7.size;replace J:=J.fr a7 ((Own.neO a0 J (by decide)));replace D:=D.fr a7 (λhk=>a0.neB D (by decide) hk);refine asg U (kpL [(1,_),(2,_),(3,_),(9,_),(13,_),(15,_),(26,_),(27,_),(28,_),(47,_),(48,_),(49,_),(53,_),(54,_),(55,_)] (.d8 U U U U U U U U (.c7 U U U U U U U)) (nl (bn' (tn (rg (z0w U (wi6 (by omega)) (mv U (nl ?_))))))));exact lpE ((k+1,_)) (.d8 U U U U U U U U (.c7 U U U U U U U)) ⟨((a5.z3 M O a6).step a7 (λk hk b0=>absurd (a0.blk k hk).1 (by omega))),⟨by simp only;omega,by rw[y3o (x6x d ((q.bs.getD i iq0).2.getD j id0)) id0 (by omega),<-List.append_assoc,show x6x d ((q.bs.getD i iq0).2.getD j id0) (((q.p.atC 0 (y0j r d i)).reverse).getD k id0)=_ from if_pos c5];exact I,J,D⟩⟩ (by simp only;omega);refine rg (mv U ?_);replace D:=(D.ext M).fr O;refine z0l U D z3j (z0l U a2 z3j (z1t (cs:=[_,_,_,_,_]) (ev3 U) j2q (z0h U (z0h U (z0h U z0q))) U ?_));refine z2e ([(⟨((q.bs.getD i iq0).2.getD j id0),(((q.p.atC 0 (y0j r d i)).reverse).getD k id0),-1⟩:Cx)]) (ev1 U) U y1p (λf4 h3 f0 b9 a8 i4=>?_);replace J:=((J.ext M).fr O (by first|exact z8y J (by omega)|simp[z0v]<;>omega)).ext a8;replace D:=D.ext a8;replace I:=((I.ext M).fr O (by first|exact z8y I (by omega)|simp[z0v]<;>omega)).ext a8;have a1:=I;refine z2g U I b9.sl y1p (by unfold maxLen;simp only[List.length_append,List.length_map,List.length_take,List.length_cons,List.length_nil];omega) (by simp only[List.length_append,List.length_map,List.length_take,List.length_cons,List.length_nil];omega) (λg6 h5 I a9 e2=>?_);have i5:=a9.size;replace J:=J.fr a9 ((Own.neO a1 J (by decide)));replace D:=D.fr a9 (λhk=>a1.neB D (by decide) hk);refine asg U (kpL [(1,_),(2,_),(3,_),(9,_),(13,_),(15,_),(26,_),(27,_),(28,_),(47,_),(48,_),(49,_),(53,_),(54,_),(55,_)] (.d8 U U U U U U U U (.c7 U U U U U U U)) (nl (bn' (tn (rg (z0w U (wi6 (by omega)) (mv U (nl ?_))))))));exact lpE ((k+1,_)) (.d8 U U U U U U U U (.c7 U U U U U U U)) ⟨((a5.z3 M O a8).step a9 (λk hk b0=>absurd (a1.blk k hk).1 (by omega))),⟨by simp only;omega,by rw[y3o (x6x d ((q.bs.getD i iq0).2.getD j id0)) id0 (by omega),<-List.append_assoc,show x6x d ((q.bs.getD i iq0).2.getD j id0) (((q.p.atC 0 (y0j r d i)).reverse).getD k id0)=_ from if_neg c5];exact I,J,D⟩⟩ (by simp only;omega);obtain rfl:k=((q.p.atC 0 (y0j r d i)).reverse).length:=by omega
 rw[List.take_length]at I;refine ex (te (te (xh (bn' (tn (rg (z0w U (wi6 (by omega)) (mv U (kpL [(1,_),(2,_),(3,_),(9,_),(13,_),(26,_),(27,_),(28,_),(47,_),(48,_),(49,_)] (.d8 U U U U U U U U (.c3 U U U)) (nl ?_))))))))));exact lpE ((j+1,_)) (.d8 U U U U U U U U (.c3 U U U)) ⟨a5,⟨by simp only;omega,by rw[v2r (λx=>((q.p.atC 0 (y0j r d i)).reverse).map (x6x d x)) id0 (by omega),<-List.append_assoc];exact I,J⟩⟩ (by simp only;omega);obtain rfl:j=(q.bs.getD i iq0).2.length:=by omega
 rw[List.take_length]at I;refine ex (te (te (xh (bn' (tn (rg (z0w U (wi6 (by omega)) (mv U (kpL [(1,_),(2,_),(3,_),(9,_),(26,_),(27,_),(28,_)] (.c7 U U U U U U U) (nl ?_))))))))));exact lpE ((i+1,_)) (.c7 U U U U U U U) ⟨q7,⟨by simp only;omega,by rw[v4k,show u2r q.p r d i=(q.bs.getD i iq0).2.flatMap (λx=>((q.p.atC 0 (y0j r d i)).reverse).map (x6x d x)) from by unfold u2r;rw[z3n]];exact I⟩⟩ (by simp only;omega);obtain rfl:i=q.bs.length:=by omega
 refine ex (te (te (xh (tn ?_))));refine jn (ι:=Unit) [(9,_)] (λ_j=>[]) (λ_j w'=>Fr [] w0 w'/\Lw.Own z4q 246 w0.heap.size w' uI (z4g q.p r d)) (.cons U .nil) ?_ ?_;refine sr (mv U (eq' U (kpL [(9,_),(77,_)] (.c2 U U) (nn (cd U (λc6=>?_) (λc6=>?_))))));refine rg (mv U ?_);have a4:=I;refine cl (ev1 U) (mkC func201) (v1v w2.heap.size _ _ _ I (by omega)) U ?_;rintro _ h6 ⟨I,d0⟩;have i7:=d0.size;refine nl ?_;exact jE (()) (.cons U .nil) ⟨((q1.n2 q2 q3).step d0 (λk hk b0=>absurd (a4.blk k hk).1 (by omega))),(by rw[show z4g q.p r d=_ from if_pos (by omega),List.length_map];exact I.low (by omega))⟩;refine sk ?_;exact jE (()) (.cons U .nil) ⟨(q1.n2 q2 q3),(by rw[show z4g q.p r d=_ from if_neg (by omega),List.length_map];exact I.low (by omega))⟩;rintro _j h7 ⟨d1,I⟩;have i8:=d1.size;refine kpC [(9,_)] (.cons U .nil) (sr (mv U (cl (ev1 U) (mkC func202) (x4e _ (z4g q.p r d) _ I.sl (by omega)) U ?_)));rintro _ h8 ⟨d5,rfl,f1,hY,d3⟩;have i9:=d3.size;refine asg U (asg U (nn (rt (r2 results147 U U ?_))));exact⟨_,rfl,⟨d5,rfl,by omega,hY.low (by omega)⟩,(d1.n1 d3)⟩
end Go.Proofs.YtpgdchkdlgkmgaaGreatDoor
namespace Go.G08
open Go.Lw Go.G21
def orZ:List Int->Int
  | []=>0
  | x::l=>if x≠0 then x else orZ l
theorem v4o:∀ {l:List Int} {i:Nat},i<l.length->(∀j,j<i->l.getD j 0=0)->l.getD i 0≠0->orZ l=l.getD i 0
 | x::l,0,_,_,h=>by simp only[List.getD_cons_zero]at h ⊢;exact if_pos h
 | x::l,i+1,hi,hj,h=>by
  have D:=hj 0 (by omega)
  simp only[List.getD_cons_zero]at D
  rw[show orZ (x::l)=if x≠0 then x else orZ l from U,if_neg (by omega)]
  simp only[List.getD_cons_succ]at h ⊢
  exact v4o (by simpa using hi) (λj hl=>by have:=hj (j+1) (by omega);simpa only[List.getD_cons_succ] using this) h
theorem y9m:∀ {l:List Int},(∀j,j<l.length->l.getD j 0=0)->orZ l=0
 | [],_=>rfl
 | x::l,hj=>by
  have D:=hj 0 (by simp)
  simp only[List.getD_cons_zero]at D
  rw[show orZ (x::l)=if x≠0 then x else orZ l from U,if_neg (by omega)]
  exact y9m (λj hl=>by have:=hj (j+1) (by simpa using hl);simpa only[List.getD_cons_succ] using this)
theorem x5v (a b:LId):orZ [z9w a.y b.y,z9w a.n b.n]=z6o a b:=by
 unfold orZ orZ orZ z9w z6o
 repeat' split
 all_goals first|rfl|omega
end Go.G08
namespace Go.Lw
open Go.RowKit
def MapL {κ:Type}[DecidableEq κ](V:κ->Value)(w:World)(g:Nat)(m:List (κ×Value)):Prop:=
  ∃(es:Array MapEntry) (c:Nat),w.heap[g]?=some (.map es c)/\es.toList.map (λe=>(e.key,e.val))=m.map (λp=>(V p.1,p.2))/\(m.map (·.1)).Nodup/\(es.toList.map (·.born)).Nodup/\∀e∈es.toList,e.born<c
def z5f {κ:Type}[DecidableEq κ](m:List (κ×Value))(k:κ):List (κ×Value):=
  match (m.map (·.1)).findIdx? (λx=>decide (k=x)) with
  | some i=>m.eraseIdx i
  | none=>m
def MapIt {κ:Type}[DecidableEq κ](V:κ->Value)(w:World)(gi g:Nat)(m rem:List (κ×Value))(cur:Option (κ×Value)):Prop:=
  ∃(es:Array MapEntry) (c:Nat) (seen:Array Nat),w.heap[g]?=some (.map es c)/\es.toList.map (λe=>(e.key,e.val))=m.map (λp=>(V p.1,p.2))/\(es.toList.map (·.born)).Nodup/\(∀e∈es.toList,e.born<c)/\
    w.heap[gi]?=some (.mapIter (some g) c seen c)/\(leftOf es seen).toList.map (λe=>(e.key,e.val))=rem.map (λp=>(V p.1,p.2))/\∀p,cur=some p->∃e∈es.toList,∃s':Array Nat,seen=s'.push e.born/\e.key=V p.1/\e.val=p.2
theorem j4o {P:Program}{ops:Array Oper}{Q:Exit->Act->World->Prop}{o:Oper}{rest:List Oper}{a:Act}{n:Nat}{ds:List Nat}{L:List (Nat×Value)}{w w':World}{v:Value}(h:AgM ds a n L)(J:o.guard=none)(I:o.dst=none)(M:(execOp a.eval o).run P w=.ok (.value v) w')
    (k:∀a,AgM ds a n L->wpList P ops Q rest a w'):wpList P ops Q (o::rest) a w:=
  wpList_plain J λK D=>by
    unfold Oper.wp
    rw[M]
    show K (a.put o.dst v) w'
    rw[I]
    exact D _ _ (k _ h)
theorem y6i {D:Type}(m:List (D×Value))(i:Nat)(v:Value):(m.modify i λp=>(p.1,v)).map (·.1)=m.map (·.1):=by
 apply List.ext_getElem?;intro j;simp only[List.getElem?_map,List.getElem?_modify];by_cases h:i=j;subst h;cases m[i]?<;>simp
 simp[h]
theorem y0t {α β:Type}(f:α->β)(i:Nat)(l:List α):(l.eraseIdx i).map f=(l.map f).eraseIdx i:=by
 apply List.ext_getElem?;intro j;simp only[List.getElem?_map,List.getElem?_eraseIdx];split<;>rfl
section
variable {κ:Type} [DecidableEq κ] {V:κ->Value} {P:Program} {K:TypeId} {w w':World} {g:Nat} {m:List (κ×Value)} {S:List Nat}
theorem MapL.fr (h:MapL V w g m)(hf:Fr S w w')(hn:g∉S:=by simp[z0v]<;>omega):MapL V w' g m:=by
 obtain⟨I,c,D,J⟩:=h;exact⟨I,c,(hf.block g (Array.getElem?_eq_some_iff.1 D).1 hn).trans D,J⟩
theorem MapL.ext (h:MapL V w g m)(hf:Fr [] w w'):MapL V w' g m:=h.fr hf (by simp)
theorem MapL.f (h:MapL V w g m):MapF V w g (z2k m):=let ⟨es,c,h1,h2,_⟩:=h;⟨es,c,m,h1,h2,λ_=>rfl⟩
theorem MapL.lt (h:MapL V w g m):g<w.heap.size:=h.f.lt
theorem MapL.nodup (h:MapL V w g m):(m.map (·.1)).Nodup:=let ⟨_,_,_,_,h,_⟩:=h;h
theorem v6n {k:κ}(h:(m.map (·.1)).findIdx? (λx=>decide (k=x))=none):k∉m.map (·.1):=λD=>by
 rw[List.findIdx?_eq_none_iff]at h
 have:=h k D
 simp at this
theorem y6f {t E:TypeId}(h:MapL V w g m)(hk:KeyLaw P K V)(hu:P.underlying t=some (.map K E))(k:κ)(v:Value) :
    ∃w',(Instr.mapUpdate t (.map (some g)) (V k) v).run P w=.ok () w'/\MapL V w' g (z3u m k v)/\Fr [g] w w'/\w'.heap.size=w.heap.size:=by
  obtain⟨D,c,h1,h2,a7,a4,a1⟩:=h
  have a9:=(Array.getElem?_eq_some_iff.1 h1).1
  have O:D.toList.map (·.key)=(m.map (·.1)).map V:=by
    have:=congrArg (List.map Prod.fst) h2
    simpa[List.map_map,Function.comp_def] using this
  have J:=hk.find k D.toList (m.map (·.1)) w O
  have a0:∀o,(setObj g o).run P w=.ok () { w with heap:=w.heap.setIfInBounds g o }:=by intro o;simp[setObj,Sem.run,h1]
  have a5:∀o,Fr [g] w { w with heap:=w.heap.setIfInBounds g o }:=λo=>⟨rfl,rfl,rfl,by simp,λi _ hn=>by
    simp only
    rw[Array.getElem?_setIfInBounds_ne (by intro e;subst e;simp at hn)]⟩
  have M:∀o,({ w with heap:=w.heap.setIfInBounds g o }:World).heap[g]?=some o:=by intro o;simp[a9]
  have b1:D.toList.length=m.length:=by have:=congrArg List.length h2;simpa using this
  cases hf:(m.map (·.1)).findIdx? (λx=>decide (k=x)) with
  | none=>
    have ea:z3u m k v=m++[(k,v)]:=by unfold z3u;rw[hf]
    rw[ea]
    refine⟨_,?_,⟨_,_,M (.map (D.push { key:=V k,val:=v,born:=c }) (c+1)),?_,?_,?_,?_⟩,a5 _,by simp⟩
    · rw[hf]at J
      simp only[Instr.mapUpdate,Sem.run_bind,run_underlying hu,Result.andThen_ok,z2l h1,hk.check,J,Option.bind_none,a0]
    · simp[h2]
    · rw[List.map_append]
      exact List.nodup_append.2 ⟨a7,by simp,λx hx y hy=>by
        simp at hy;subst hy;intro e;subst e;exact v6n hf hx⟩
    · rw[Array.toList_push,List.map_append]
      exact List.nodup_append.2 ⟨a4,by simp,λx hx y hy=>by
        simp at hy;subst hy
        obtain⟨e,he,rfl⟩:=List.mem_map.1 hx
        have:=a1 e he;omega⟩
    · intro e he
      rw[Array.toList_push]at he
      rcases List.mem_append.1 he with h|h
      · have:=a1 e h;omega
      · simp at h;subst h;exact Nat.lt_succ_self _
  | some i=>
    have hi:i<m.length:=by
      have:=List.findIdx?_eq_some_iff_findIdx_eq.1 hf
      simpa using this.1
    have Z:i<D.toList.length:=by omega
    have a6:V k=(D.toList[i]).key:=by
      have a8:=List.findIdx?_eq_some_iff_getElem.1 hf
      obtain⟨b2,hp,_⟩:=a8
      have b0:k=(m.map (·.1))[i]:=by simpa using hp
      have e1:(D.toList.map (·.key))[i]?=((m.map (·.1)).map V)[i]?:=by rw[O]
      simp only[List.getElem?_map,List.getElem?_eq_getElem Z,List.getElem?_eq_getElem hi,Option.map_some,Option.some.injEq]at e1
      rw[e1,b0];simp
    have ea:z3u m k v=m.modify i λp=>(p.1,v):=by unfold z3u;rw[hf]
    rw[ea]
    have I:(D.modify i λe=>{ e with key:=V k,val:=v }).toList.map (·.born)=D.toList.map (·.born):=by
      apply List.ext_getElem?
      intro j
      simp only[List.getElem?_map]
      rw[Array.getElem?_toList,Array.getElem?_modify,Array.getElem?_toList]
      by_cases hj:i=j
      · subst hj;simp only[if_true];cases D[i]?<;>rfl
      · simp only[hj,if_false]
    refine⟨_,?_,⟨_,_,M (.map (D.modify i λe=>{ e with key:=V k,val:=v }) c),?_,by rw[y6i m];exact a7,by rw[I];exact a4,?_⟩,a5 _,by simp⟩
    · rw[hf]at J
      have a2:D[i]?=some D.toList[i]:=by rw[<-Array.getElem?_toList,List.getElem?_eq_getElem Z]
      simp only[Option.bind_some,List.getElem?_eq_getElem Z,Option.map_some]at J
      have a3:(Instr.keyThatStays (((D[i]?).map (·.key)).getD (V k)) (V k)).run P w=.ok (V k) w:=by
        rw[a2]
        simp only[Option.map_some,Option.getD_some,<-a6,Instr.keyThatStays,hk.bits,if_true,Sem.run_pure]
      simp only[Instr.mapUpdate,Sem.run_bind,run_underlying hu,Result.andThen_ok,z2l h1,hk.check,J,a3,a0]
    · apply List.ext_getElem?
      intro j
      have e2:=congrArg (·[j]?) h2
      simp only[List.getElem?_map]at e2 ⊢
      rw[Array.getElem?_toList,Array.getElem?_modify,List.getElem?_modify]
      rw[Array.getElem?_toList]at e2
      by_cases hj:i=j
      · subst hj
        have e3:=List.getElem?_eq_getElem hi
        have a2:D[i]?=some D.toList[i]:=by rw[<-Array.getElem?_toList,List.getElem?_eq_getElem Z]
        rw[a2,e3]at e2 ⊢
        simp only[Option.map_some,Option.some.injEq,Prod.mk.injEq]at e2
        simp only[if_true,Option.map_some]
        rw[a6,e2.1];rfl
      · simp only[hj,if_false]
        rw[e2];simp
    · intro e he
      have:e.born∈D.toList.map (·.born):=by rw[<-I];exact List.mem_map_of_mem he
      obtain⟨x,hx,hb⟩:=List.mem_map.1 this
      rw[<-hb];exact a1 x hx
theorem x4m {t E:TypeId}{ty:TypeId}(h:MapL V w g m)(hk:KeyLaw P K V)(hu:P.underlying t=some (.map K E))(k:κ) :
    ∃w',(Builtin.delete_ #[t,K] ty #[.map (some g),V k]).run P w=.ok (.tuple #[]) w'/\MapL V w' g (z5f m k)/\Fr [g] w w'/\w'.heap.size=w.heap.size:=by
  obtain⟨J,c,h1,h2,a3,a0,Z⟩:=h
  have a4:=(Array.getElem?_eq_some_iff.1 h1).1
  have O:J.toList.map (·.key)=(m.map (·.1)).map V:=by
    have:=congrArg (List.map Prod.fst) h2
    simpa[List.map_map,Function.comp_def] using this
  have D:=hk.find k J.toList (m.map (·.1)) w O
  have M:∀o,(setObj g o).run P w=.ok () { w with heap:=w.heap.setIfInBounds g o }:=by intro o;simp[setObj,Sem.run,h1]
  have a1:∀o,Fr [g] w { w with heap:=w.heap.setIfInBounds g o }:=λo=>⟨rfl,rfl,rfl,by simp,λi _ hn=>by
    simp only
    rw[Array.getElem?_setIfInBounds_ne (by intro e;subst e;simp at hn)]⟩
  have I:∀o,({ w with heap:=w.heap.setIfInBounds g o }:World).heap[g]?=some o:=by intro o;simp[a4]
  have a5:J.toList.length=m.length:=by have:=congrArg List.length h2;simpa using this
  cases hf:(m.map (·.1)).findIdx? (λx=>decide (k=x)) with
  | none=>
    have ea:z5f m k=m:=by unfold z5f;rw[hf]
    rw[ea]
    refine⟨_,?_,⟨_,_,I (.map J c),h2,a3,a0,Z⟩,a1 _,by simp⟩
    rw[hf]at D
    simp[Builtin.delete_,run_underlying hu,z2l h1,hk.check,D,M]
  | some i=>
    have ea:z5f m k=m.eraseIdx i:=by unfold z5f;rw[hf]
    rw[ea]
    have hi:i<m.length:=by
      have:=List.findIdx?_eq_some_iff_findIdx_eq.1 hf
      simpa using this.1
    have a2:i<J.toList.length:=by omega
    have el:(J.eraseIdxIfInBounds i).toList=J.toList.eraseIdx i:=by
      unfold Array.eraseIdxIfInBounds
      rw[dif_pos (by simpa using a2),Array.toList_eraseIdx]
    refine⟨_,?_,⟨_,_,I (.map (J.eraseIdxIfInBounds i) c),?_,?_,?_,?_⟩,a1 _,by simp⟩
    · rw[hf]at D
      simp only[Option.bind_some,List.getElem?_eq_getElem a2,Option.map_some]at D
      simp[Builtin.delete_,run_underlying hu,z2l h1,hk.check,D,M]
    · rw[el,y0t,y0t,h2]
    · rw[y0t];exact List.Nodup.sublist (List.eraseIdx_sublist _ _) a3
    · rw[el,y0t];exact List.Nodup.sublist (List.eraseIdx_sublist _ _) a0
    · intro e he
      rw[el]at he
      exact Z e ((List.eraseIdx_sublist _ _).mem he)
variable {a:Act} {n:Nat} {L:List (Nat×Value)} {ds:List Nat} {Q:Exit->Act->World->Prop} {C:World->Prop} {Qa:Act->Prop} {ops:Array Oper} {rest:List Oper}
variable {d:Nat} {ty:TypeId} {pos:String} {after:Array Edge} {x y z:Operand} {t E:TypeId} {k:κ} {v zv:Value}
theorem y7b (h:AgM ds a n L)(hx:ev L x=some (.map (some g)))(hy:ev L y=some (V k))(hz:ev L z=some v)(O:MapL V w g m)(M:KeyLaw P K V)(hu:P.underlying t=some (.map K E))
    (q:∀w',MapL V w' g (z3u m k v)->Fr [g] w w'->w'.heap.size=w.heap.size->∀a,AgM ds a n L->wpList P ops Q rest a w'):wpList P ops Q (⟨none,.mapUpdate t x y z,ty,pos,after,none⟩::rest) a w:=by
  obtain⟨w',Z,D,I,J⟩:=y6f O M hu k v
  exact z9e h U U (w':=w') (by simp[execOp,h.eval hx,h.eval hy,h.eval hz,Z]) (q w' D I J)
theorem u5h {J:TypeId}(h:AgM ds a n L)(hx:ev L x=some (.map (some g)))(hy:ev L y=some (V k))(hm:MapL V w g m)(hk:KeyLaw P K V)(hu:P.underlying t=some (.map K E))(he:J=K)
    (q:∀w',MapL V w' g (z5f m k)->Fr [g] w w'->w'.heap.size=w.heap.size->∀a,AgM ds a n L->wpList P ops Q rest a w'):wpList P ops Q (⟨none,.call ⟨.builtin .delete,#[x,y],#[t,J]⟩,ty,pos,after,none⟩::rest) a w:=by
  subst he
  obtain⟨w',hr,M,O,Z⟩:=x4m (ty:=ty) hm hk hu k
  refine j4o h U U (w':=w') (v:=.tuple #[]) ?_ (q w' M O Z)
  have D:=h.eval hx
  have I:=h.eval hy
  rw[z1z];unfold builtin
  simp[D,I,hr]
theorem MapIt.fr {gi:Nat}{rem:List (κ×Value)}{cur:Option (κ×Value)}(h:MapIt V w gi g m rem cur)(hf:Fr S w w')(h1:g∉S)(O:gi∉S):MapIt V w' gi g m rem cur:=by
 obtain⟨M,c,D,I,Z,k3,k4,J,k6⟩:=h;exact⟨M,c,D,(hf.block g (Array.getElem?_eq_some_iff.1 I).1 h1).trans I,Z,k3,k4,(hf.block gi (Array.getElem?_eq_some_iff.1 J).1 O).trans J,k6⟩
theorem MapIt.ext {gi:Nat}{rem:List (κ×Value)}{cur:Option (κ×Value)}(h:MapIt V w gi g m rem cur)(hf:Fr [] w w'):MapIt V w' gi g m rem cur:=h.fr hf (by simp) (by simp)
theorem MapIt.lt {gi:Nat}{rem:List (κ×Value)}{cur:Option (κ×Value)}(h:MapIt V w gi g m rem cur):gi<w.heap.size:=let ⟨_,_,_,_,_,_,_,k5,_⟩:=h;(Array.getElem?_eq_some_iff.1 k5).1
theorem MapIt.ne {gi:Nat}{rem:List (κ×Value)}{cur:Option (κ×Value)}(h:MapIt V w gi g m rem cur):g≠gi:=λe=>by
 obtain⟨M,c,I,J,_,_,_,D,_⟩:=h
 rw[<-e,J]at D;cases D
theorem v4i {I:Array MapEntry}{D:Array Nat}{e:MapEntry}{J M:List MapEntry}(hn:(I.toList.map (·.born)).Nodup)(h:(leftOf I D).toList=J++e::M):(leftOf I (D.push e.born)).toList=J++M:=by
 have h2:(leftOf I (D.push e.born)).toList=(leftOf I D).toList.filter λx=>decide (x.born≠e.born):=by
  unfold leftOf;rw[Array.toList_filter,Array.toList_filter,List.filter_filter];congr 1;funext x;by_cases c1:x.born=e.born;simp[c1];by_cases c2:x.born∈D;simp[c1,c2];simp[c1,c2]
 have O:((leftOf I D).toList.map (·.born)).Nodup:=by
  refine List.Nodup.sublist (List.Sublist.map _ ?_) hn;unfold leftOf;rw[Array.toList_filter];exact List.filter_sublist
 rw[h]at h2 O;rw[h2,List.filter_append,List.filter_cons];rw[List.map_append,List.map_cons]at O;obtain⟨n1,n2,n3⟩:=List.nodup_append.1 O;have n4:=List.nodup_cons.1 n2;have f1:J.filter (λx=>decide (x.born≠e.born))=J:=List.filter_eq_self.2 λx Z=>by
  simpa using n3 _ (List.mem_map_of_mem Z) e.born (List.mem_cons_self ..)
 have f2:M.filter (λx=>decide (x.born≠e.born))=M:=List.filter_eq_self.2 λx Z=>by
  have:x.born≠e.born:=λk=>n4.1 (by rw[<-k];exact List.mem_map_of_mem Z);simpa using this
 rw[f1,f2];simp
theorem u2a (hx:ev L x=some (.map (some g)))(hm:MapL V w g m)(hu:P.underlying t=some (.map K E))(hn:Nat.blt d n=true)
    (q:∀gi w',gi=w.heap.size->MapIt V w' gi g m m none->Fr [] w w'->w'.heap.size=gi+1->WL P ops Q rest n ds w' ((d,.pointer (some ⟨gi,0,none⟩))::L)):WL P ops Q (⟨some d,.range t x,ty,pos,after,none⟩::rest) n ds w L:=λa h=>by
  obtain⟨I,c,J,O,h3,Z,h5⟩:=hm
  have D:=(Array.getElem?_eq_some_iff.1 J).1
  refine z1x h U hn (w':=w.alloc (.mapIter (some g) c #[] c)) (v:=.pointer (some ⟨w.heap.size,0,none⟩)) ?_ (q _ _ U ⟨I,c,#[],?_,O,Z,h5,heap_alloc_new w _,?_,λp hp=>by cases hp⟩ (Fr.alloc [] w _) (by simp) )
  · have M:=h.eval hx
    simp only[execOp,M,Sem.run_bind,run_range_map w t K E g I c hu J,Result.andThen_ok,Sem.run_pure]
  · first|exact(heap_alloc_old w _ D).trans J|exact(heap_alloc_old w _ _ D).trans J
  · rw[<-O]
    have:(leftOf I #[]).toList=I.toList:=by unfold leftOf;rw[Array.toList_filter];simp
    rw[this]
theorem u9l {gi:Nat}{rem:List (κ×Value)}{cur:Option (κ×Value)}(hx:ev L x=some (.pointer (some ⟨gi,0,none⟩)))(hi:MapIt V w gi g m rem cur)(hn:Nat.blt d n=true)
    (qt:∀(r1:List (κ×Value)) (p:κ×Value) (r2:List (κ×Value)),rem=r1++p::r2->∀w',MapIt V w' gi g m (r1++r2) (some p)->Fr [gi] w w'->w'.heap.size=w.heap.size->WL P ops Q rest n ds w' ((d,.tuple #[.bool true,V p.1,p.2])::L))
    (qf:rem=[]->WL P ops Q rest n ds w ((d,.tuple #[.bool false])::L)):WL P ops Q (⟨some d,.next x false,ty,pos,after,none⟩::rest) n ds w L:=λa h=>by
  have a3:=hi.ne
  obtain⟨I,c,D,h1,h2,h3,h4,h5,h6,h7⟩:=hi
  have a2:=(Array.getElem?_eq_some_iff.1 h5).1
  have Z:=h.eval hx
  rcases run_next_at (P:=P) w ty gi g c c D I c h5 h1 h4 (Nat.le_refl _) with ⟨e0,hr⟩|⟨e,he,w1,hw,hr⟩
  · refine z1x h U hn (w':=w) (v:=.tuple #[.bool false]) (by simp only[execOp,Z,Sem.run_bind,hr,Result.andThen_ok,Sem.run_pure]) (qf ?_)
    have:(leftOf I D).toList=[]:=List.length_eq_zero_iff.1 (by rw[Array.length_toList];exact e0)
    rw[this]at h6
    exact List.map_eq_nil_iff.1 h6.symm
  · obtain⟨l1,l2,hl⟩:=List.append_of_mem he
    rw[hl,List.map_append,List.map_cons]at h6
    obtain⟨r1,r',a5,e1,e2⟩:=List.map_eq_append_iff.1 h6.symm
    obtain⟨p,r2,a6,e3,e4⟩:=List.map_eq_cons_iff.1 e2
    obtain⟨ek,J⟩:=Prod.mk.inj e3
    have a0:e∈I.toList:=by
      have:e∈(leftOf I D).toList:=he
      unfold leftOf at this;rw[Array.toList_filter]at this;exact(List.mem_filter.1 this).1
    have a1:Fr [] w w1:=by rcases hw with rfl|rfl;exact Fr.refl _ _;exact Fr.drew _ _
    have O:w1.heap.size=w.heap.size:=by rcases hw with rfl|rfl<;>rfl
    have M:Fr [gi] w (ChangeMaps.setBlock w1 gi (.mapIter (some g) c (D.push e.born) c)):=
      (a1.weak (by simp)).step (S':=[gi]) ⟨rfl,rfl,rfl,by simp[ChangeMaps.setBlock],λk _ hk=>by
        simp only[ChangeMaps.setBlock]
        rw[Array.getElem?_setIfInBounds_ne (by intro e;subst e;simp at hk)]⟩ (by intro k hk _;exact hk)
    refine z1x h U hn (w':=ChangeMaps.setBlock w1 gi (.mapIter (some g) c (D.push e.born) c)) (v:=.tuple #[.bool true,e.key,e.val]) (by simp only[execOp,Z,Sem.run_bind,hr,Result.andThen_ok,Sem.run_pure]) ?_
    rw[<-ek,<-J]
    refine qt r1 p r2 (by rw[a5,a6]) _ ⟨I,c,D.push e.born,?_,h2,h3,h4,?_,?_,λp' a4=>?_⟩ M (by simp[ChangeMaps.setBlock,O])
    · exact(M.block g (Array.getElem?_eq_some_iff.1 h1).1 (by simpa using a3)).trans h1
    · simp[ChangeMaps.setBlock,O,a2]
    · rw[v4i h3 hl,List.map_append,List.map_append,<-e1,<-e4]
    · cases a4
      exact⟨e,a0,D,rfl,ek.symm,J.symm⟩
theorem u2b {gi:Nat}{rem:List (κ×Value)}{p:κ×Value}(hx:ev L x=some (.pointer (some ⟨gi,0,none⟩)))(hi:MapIt V w gi g m rem (some p))(hn:Nat.blt d n=true)
    (q:WL P ops Q rest n ds w ((d,.tuple #[V p.1,p.2])::L)):WL P ops Q (⟨some d,.entry x,ty,pos,after,none⟩::rest) n ds w L:=λa h=>by
  obtain⟨O,c,J,Z,h2,h3,h4,h5,h6,h7⟩:=hi
  obtain⟨e,he,s',rfl,M,D⟩:=h7 p U
  have I:=h.eval hx
  refine z1x h U hn (w':=w) (v:=.tuple #[V p.1,p.2]) ?_ q
  rw[<-M,<-D]
  simp only[execOp,I,Sem.run_bind,run_entry_at (P:=P) w gi g c s' O c e h5 Z he h3,Result.andThen_ok,Sem.run_pure]
end
end Go.Lw
namespace Go.G08
open Go.Lw Go.G21
section
variable {κ:Type} [DecidableEq κ] {V:κ->Value} {w w':World} {g:Nat} {m:List (κ×Value)} {S:List Nat}
theorem _root_.Go.Lw.MapL.tf {T:Nat}(h:MapL V w g m)(hf:Fr S w w')(I:OffT w T S):MapL V w' g m:=h.fr hf λJ=>by
 obtain⟨T',cs,D,_⟩:=I g J
 exact h.f.ne_blk D U
end
theorem BdO.tf {D I base:Nat}{w w':World}{q:BdQ}{S:List Nat}(h:BdO D I base w q)(hf:Fr S w w')(O:OffT w D S)(M:OffT w I S):BdO D I base w' q:=
 ⟨⟨z1l h.f.1 hf O,λp J=>z1l (h.f.2 p J) hf M⟩,⟨z1l h.b.1 hf O,λp J=>z1l (h.b.2 p J) hf M⟩⟩
structure KpM (Ts:List Nat) (g:Nat) (w w':World):Prop where
  size:w.heap.size<=w'.heap.size
  block:∀k,k<w.heap.size->k≠g->(∀(T:Nat) (cs:List Value),Blk w k T cs->T∉Ts)->w'.heap[k]?=w.heap[k]?
theorem KpM.refl (D:List Nat)(g:Nat)(w:World):KpM D g w w:=⟨Nat.le_refl _,λ_ _ _ _=>rfl⟩
theorem KpM.trans {D:List Nat}{g:Nat}{a b c:World}(h:KpM D g a b)(I:KpM D g b c):KpM D g a c:=
 ⟨Nat.le_trans h.size I.size,λk O M J=>by
  have e:=h.block k O M J
  rw[<-e]
  exact I.block k (Nat.lt_of_lt_of_le O h.size) M λT cs Z=>J T cs (e.symm.trans Z)⟩
theorem KpM.of {D:List Nat}{g:Nat}{w w':World}{S:List Nat}(hf:Fr S w w')(I:∀k∈S,k=g\/∃(T:Nat) (cs:List Value),Blk w k T cs/\T∈D):KpM D g w w':=
 ⟨hf.size,λk hk O J=>hf.block k hk λhm=>by
  rcases I k hm with e|⟨T,cs,M,Z⟩
  ·exact O e
  exact J T cs M Z⟩
theorem j4a {w:World}{k T T':Nat}{cs cs':List Value}(h:Blk w k T cs)(D:Blk w k T' cs'):T=T':=by
 have e:=(show w.heap[k]?=some (.cells cs.toArray T (0,0)) from h).symm.trans (show w.heap[k]?=some (.cells cs'.toArray T' (0,0)) from D);simp only[Option.some.injEq,Obj.cells.injEq]at e;exact e.2.1
theorem KpM.blk {D:List Nat}{g:Nat}{w w':World}(h:KpM D g w w'){k T:Nat}{cs:List Value}(hb:Blk w k T cs)(O:k≠g)(M:T∉D):Blk w' k T cs:=
 (h.block k hb.lt O λT' I J=>by rw[<-j4a hb J];exact M).trans hb
theorem KpM.map {κ:Type}[DecidableEq κ]{V:κ->Value}{em:List (κ×Value)}{I:List Nat}{g k:Nat}{w w':World}(h:KpM I g w w')(hb:MapL V w k em)(O:k≠g):MapL V w' k em:=by
 obtain⟨J,c,D,M⟩:=hb;refine⟨J,c,(h.block k (Array.getElem?_eq_some_iff.1 D).1 O λT cs hb=>?_).trans D,M⟩;have e:=(show w.heap[k]?=some (.cells cs.toArray T (0,0)) from hb).symm.trans D;cases e
theorem KpM.mapF {κ:Type}[DecidableEq κ]{V:κ->Value}{f:κ->Option Value}{I:List Nat}{g k:Nat}{w w':World}(h:KpM I g w w')(hb:MapF V w k f)(O:k≠g):MapF V w' k f:=by
 obtain⟨J,c,m,D,M⟩:=hb;refine⟨J,c,m,(h.block k (Array.getElem?_eq_some_iff.1 D).1 O λT cs hb=>?_).trans D,M⟩;have e:=(show w.heap[k]?=some (.cells cs.toArray T (0,0)) from hb).symm.trans D;cases e
theorem y6y {α:Type}{E:Enc α}{T base g:Nat}{w:World}{v:Value}{ys:List α}{D:List Nat}(h:Lw.Own E T base w v ys)(I:T∈D):∀k∈z0v v,k=g\/∃(T:Nat) (cs:List Value),Blk w k T cs/\T∈D:=λk M=>by
 obtain⟨cs,J⟩:=y4j h k M
 exact .inr ⟨T,cs,J,I⟩
theorem u4a {g k T:Nat}{w:World}{cs:List Value}{D:List Nat}(h:Blk w k T cs)(J:T∈D):∀k'∈[k],k'=g\/∃(T:Nat) (cs:List Value),Blk w k' T cs/\T∈D:=λk' I=>by
 rw[List.mem_singleton]at I;subst I
 exact .inr ⟨T,cs,h,J⟩
structure MA where
  gk:Nat
  gy:Nat
  cy:Nat
  gt:Nat
  ct:Nat
  gc:Nat
  wk:World
abbrev MA.YV (a:MA):Value:=.slice (some ⟨a.gy,0,none⟩) 6 a.cy
abbrev MA.TV (a:MA):Value:=.slice (some ⟨a.gt,0,none⟩) 6 a.ct
structure MQ where
  rk:Int
  q:BdQ
  ys:List YQ
  ts:List TQ
  cr:List Cx
  fa:SV
  fl:List LId
abbrev MQ.p (m:MQ):MSt:=⟨m.rk,m.q.p,m.ys.map YQ.p,z1w m.ts,m.cr,m.fl⟩
abbrev u3x (a:MA)(m:MQ):List Value:=[.int .i64 m.rk,.slice m.q.f.1 m.q.f.2.1 m.q.f.2.2,.slice m.q.b.1 m.q.b.2.1 m.q.b.2.2,a.YV,a.TV,.map (some a.gc),.slice m.fa.1 m.fa.2.1 m.fa.2.2]
def crK (p:LId×LId):Value:=.agg #[.int .u8 p.1.y,.int .i64 p.1.n,.int .u8 p.2.y,.int .i64 p.2.n]
def crM (l:List Cx):List ((LId×LId)×Value):=l.map λc=>((c.a,c.b),.int .i64 c.n)
structure MtOk (τ:TyK) (Mt:Nat):Prop where
  o:τ.Ok
  y:Mt≠τ.Y
  t:Mt≠τ.T
  l:Mt≠τ.L
  i:Mt≠τ.I
  p:Mt≠τ.P
  s:Mt≠τ.S
abbrev v7j (τ:TyK)(Mt:Nat):List Nat:=[Mt,τ.Y,τ.T,τ.L,τ.I]
structure FrM (τ:TyK) (Mt:Nat) (wS:World) (a:MA) (w:World):Prop where
  fr:Fr [] wS w
  kp:KpM (v7j τ Mt) a.gc a.wk w
theorem FrM.size {τ:TyK}{Mt:Nat}{wS w:World}{a:MA}(h:FrM τ Mt wS a w):wS.heap.size<=w.heap.size:=h.fr.size
theorem FrM.next {τ:TyK}{Mt:Nat}{wS w w':World}{a:MA}(h:FrM τ Mt wS a w)(hf:Fr [] w w'):FrM τ Mt wS a w':=⟨h.fr.next hf,h.kp.trans (KpM.of hf (by simp))⟩
theorem FrM.step {τ:TyK}{Mt:Nat}{wS w w':World}{a:MA}{S:List Nat}(h:FrM τ Mt wS a w)(hf:Fr S w w')(I:∀k∈S,k=a.gc\/∃(T:Nat) (cs:List Value),Blk w k T cs/\T∈v7j τ Mt)(D:∀k∈S,k<wS.heap.size->k∈([]:List Nat)):FrM τ Mt wS a w':=⟨h.fr.step hf D,h.kp.trans (KpM.of hf I)⟩
structure MkM (τ:TyK) (Mt:Nat) (wS:World) (a:MA) (w:World) (m:MQ):Prop where
  k:Blk w a.gk Mt (u3x a m)
  b:BdO τ.S τ.I wS.heap.size w m.q
  y:YsO τ wS.heap.size w a.YV m.ys
  t:TbO τ wS.heap.size w a.TV m.ts
  c:MapL crK w a.gc (crM m.cr)
  f:Lw.Own z1h τ.I wS.heap.size w (slv m.fa) m.fl
  fb:∀s∈m.q.fs++m.q.bs,∀k∈z0v (slv s.1),k∉z0v (slv m.fa)
  ft:∀i,i<6->∀q∈(m.ts.getD i tq0).2,∀k∈z0v (slv q.th),k∉z0v (slv m.fa)
  ly:m.ys.length=6
  lt:m.ts.length=6
  gk:wS.heap.size<=a.gk
  gc:wS.heap.size<=a.gc
  fr:FrM τ Mt wS a w
def MRet (τ:TyK)(Mt:Nat)(wS:World)(a:MA)(x:MR)(r:Value)(w':World):Prop:=
  FrM τ Mt wS a w'/\match x with
    | .error e=>r=.int .i64 e/\e≠0
    | .ok p=>r=.int .i64 0/\∃m,MkM τ Mt wS a w' m/\m.p=p
section
variable {τ:TyK} {Mt:Nat} {wS w w':World} {a:MA} {m:MQ} {j:Nat} {y:YQ}
theorem MRet.err {x:MR}{e:Int}{w':World}(I:x=.error e)(D:e≠0)(hf:FrM τ Mt wS a w'):MRet τ Mt wS a x (.int .i64 e) w':=by subst I;exact⟨hf,rfl,D⟩
theorem MRet.ok {x:MR}{m:MQ}{w':World}(D:x=.ok m.p)(h:MkM τ Mt wS a w' m):MRet τ Mt wS a x (.int .i64 0) w':=by subst D;exact⟨h.fr,rfl,m,h,rfl⟩
theorem MkM.ext (h:MkM τ Mt wS a w m)(hf:Fr [] w w'):MkM τ Mt wS a w' m:=
 ⟨h.k.ext hf,h.b.ext hf,h.y.ext hf,h.t.ext hf,h.c.fr hf (by simp),h.f.ext hf,h.fb,h.ft,h.ly,h.lt,h.gk,h.gc,h.fr.next hf⟩
theorem MkM.yarn (h:MkM τ Mt wS a w m)(D:MtOk τ Mt)(J:j<6)(Z:Lw.Own z2j τ.Y wS.heap.size w' a.YV (m.ys.set j y))(hf:Fr [a.gy] w w')(hp:Lw.Own z1s τ.P wS.heap.size w (slv y.pe) y.pes):MkM τ Mt wS a w' { m with ys:=m.ys.set j y }:=by
 have o:∀T,T≠τ.Y->OffT w T [a.gy]:=λT I=>z2p h.y.out (Ne.symm I);refine⟨y7d h.k hf (o _ D.y),BdO.tf h.b hf (o _ (Ne.symm D.o.ys)) (o _ (Ne.symm D.o.yi)),h.y.put (by rw[h.ly];exact J) D.o Z hf hp,h.t.tf hf (o _ (Ne.symm D.o.yt)) (o _ (Ne.symm D.o.yl)) (o _ (Ne.symm D.o.yi)) (o _ (Ne.symm D.o.yp)),h.c.tf hf (o _ D.y),z1l h.f hf (o _ (Ne.symm D.o.yi)),h.fb,h.ft,by rw[List.length_set];exact h.ly,h.lt,h.gk,h.gc,h.fr.step hf (y6y h.y.out (by simp[v7j])) λk M O=>?_⟩;have:=(h.y.out.blk k M).1;omega
theorem MkM.beds {q:BdQ}{r:Int}(h:MkM τ Mt wS a w m)(D:MtOk τ Mt)(Z:BdO τ.S τ.I wS.heap.size w q)(J:Blk w' a.gk Mt (u3x a { m with q:=q,rk:=r }))(hf:Fr [a.gk] w w')(I:∀s∈q.fs++q.bs,∀k∈z0v (slv s.1),k∉z0v (slv m.fa)):MkM τ Mt wS a w' { m with q:=q,rk:=r }:=by
 have o:∀T,T≠Mt->OffT w T [a.gk]:=λT M=>OffT.one h.k (Ne.symm M);refine⟨J,BdO.tf Z hf (o _ (Ne.symm D.s)) (o _ (Ne.symm D.i)),h.y.tf hf (o _ (Ne.symm D.y)) (o _ (Ne.symm D.p)),h.t.tf hf (o _ (Ne.symm D.t)) (o _ (Ne.symm D.l)) (o _ (Ne.symm D.i)) (o _ (Ne.symm D.p)),h.c.tf hf (o _ (Ne.symm D.y)),z1l h.f hf (o _ (Ne.symm D.i)),I,h.ft,h.ly,h.lt,h.gk,h.gc,h.fr.step hf (u4a h.k (by simp[v7j])) λk J O=>?_⟩;rw[List.mem_singleton]at J;have:=h.gk;omega
theorem x1l {M I:Nat}{q:BdQ}{v:Value}{ys:List LId}{T base b:Nat}(J:BdO M I b w' q)(Z:Lw.Own z1h T base w v ys)(hb:w.heap.size<=b):∀s∈q.fs++q.bs,∀k∈z0v (slv s.1),k∉z0v v:=λs O k D hb=>by
 have:=(Z.blk k hb).2
 rcases List.mem_append.1 O with e|e
 ·have:=((J.f.2 s e).blk k D).1;omega
 have:=((J.b.2 s e).blk k D).1;omega
theorem MkM.fall {w2:World}{u:SV}{l:List LId}(h:MkM τ Mt wS a w m)(D:MtOk τ Mt)(a0:τ.I≠τ.P)(h1:Lw.Own z1h τ.I wS.heap.size w' (slv u) l)(I:Fr (z0v (slv m.fa)) w w')(hx:∀k∈z0v (slv u),k∈z0v (slv m.fa)\/w.heap.size<=k)
    (J:Blk w2 a.gk Mt (u3x a { m with fa:=u,fl:=l })) (f2:Fr [a.gk] w' w2):MkM τ Mt wS a w2 { m with fa:=u,fl:=l }:=by
  have Z:∀T,T≠τ.I->OffT w T (z0v (slv m.fa)):=λT hT=>z2p h.f (Ne.symm hT)
  have k1:=y7d h.k I (Z _ D.i)
  have M:∀T,T≠Mt->OffT w' T [a.gk]:=λT hT=>OffT.one k1 (Ne.symm hT)
  have dx:∀ {v:Value} {xs:List LId},Lw.Own z1h τ.I wS.heap.size w v xs->(∀k∈z0v v,k∉z0v (slv m.fa))->∀k∈z0v v,k∉z0v (slv u):=λho hd k J hb=>by
    rcases hx k hb with e|e
    · exact hd k J e
    · have:=(ho.blk k J).2;omega
  have fi:∀ {v:Value} {xs:List LId},Lw.Own z1h τ.I wS.heap.size w v xs->(∀k∈z0v v,k∉z0v (slv m.fa))->Lw.Own z1h τ.I wS.heap.size w2 v xs:=λho hd=>z1l (ho.fr I λk J hb=>hd k hb J) f2 (M _ (Ne.symm D.i))
  have a2:∀s∈m.q.fs,Lw.Own z1h τ.I wS.heap.size w2 (slv s.1) s.2:=λs O=>fi (h.b.f.2 s O) (h.fb s (List.mem_append.2 (.inl O)))
  have a1:∀s∈m.q.bs,Lw.Own z1h τ.I wS.heap.size w2 (slv s.1) s.2:=λs O=>fi (h.b.b.2 s O) (h.fb s (List.mem_append.2 (.inr O)))
  refine⟨J,⟨⟨z1l (z1l h.b.f.1 I (Z _ D.o.si)) f2 (M _ (Ne.symm D.s)),a2⟩,⟨z1l (z1l h.b.b.1 I (Z _ D.o.si)) f2 (M _ (Ne.symm D.s)),a1⟩⟩,
    (h.y.tf I (Z _ D.o.yi) (Z _ (Ne.symm a0))).tf f2 (M _ (Ne.symm D.y)) (M _ (Ne.symm D.p)),
    ⟨z1l (z1l h.t.out I (Z _ D.o.ti)) f2 (M _ (Ne.symm D.t)),λi hi=>z1l (z1l (h.t.ins i hi) I (Z _ D.o.li)) f2 (M _ (Ne.symm D.l)),h.t.off,λi hi q hq=>⟨fi (h.t.lps i hi q hq).1 (h.ft i (by rw[<-h.lt];exact hi) q hq),z1l (z1l (h.t.lps i hi q hq).2 I (Z _ (Ne.symm a0))) f2 (M _ (Ne.symm D.p))⟩⟩,
    (h.c.tf I (Z _ D.i)).tf f2 (M _ (Ne.symm D.y)),z1l h1 f2 (M _ (Ne.symm D.i)),λs O=>?_,λi hi q hq=>dx (h.t.lps i (by rw[h.lt];exact hi) q hq).1 (h.ft i hi q hq),h.ly,h.lt,h.gk,h.gc,(h.fr.step I (y6y h.f (by simp[v7j])) λk J a3=>?_).step f2 (u4a k1 (by simp[v7j])) λk J a3=>?_⟩
  · rcases List.mem_append.1 O with e|e
    · exact dx (h.b.f.2 s e) (h.fb s O)
    · exact dx (h.b.b.2 s e) (h.fb s O)
  · have:=(h.f.blk k J).1;omega
  · rw[List.mem_singleton]at J;have:=h.gk;omega
theorem MkM.mark (h:MkM τ Mt wS a w m):MkM τ Mt wS { a with wk:=w } w m:=⟨h.k,h.b,h.y,h.t,h.c,h.f,h.fb,h.ft,h.ly,h.lt,h.gk,h.gc,⟨h.fr.fr,KpM.refl _ _ _⟩⟩
theorem MkM.unmark (h:MkM τ Mt wS { a with wk:=w } w' m)(D:FrM τ Mt wS a w):MkM τ Mt wS a w' m:=⟨h.k,h.b,h.y,h.t,h.c,h.f,h.fb,h.ft,h.ly,h.lt,h.gk,h.gc,⟨h.fr.fr,D.kp.trans h.fr.kp⟩⟩
def u3b (x:MR):Int:=match x with
  | .error e=>e
  | .ok _=>0
theorem MRet.split {x:MR}{r:Value}(h:MRet τ Mt wS a x r w'):r=.int .i64 (u3b x)/\FrM τ Mt wS a w'/\∃J,u3b x=0->MkM τ Mt wS a w' J/\x=.ok J.p:=by
 obtain⟨I,D⟩:=h;cases x with
 | error e=>exact⟨D.1,I,⟨0,⟨sv0,sv0,[],[]⟩,[],[],[],sv0,[]⟩,λM=>absurd M D.2⟩
 | ok p=>exact⟨D.1,I,D.2.choose,λ_=>⟨D.2.choose_spec.1,congrArg Except.ok D.2.choose_spec.2.symm⟩⟩
theorem z5x {x:MR}(h:u3b x≠0):x=.error (u3b x):=by cases x with
 | error e=>rfl
 | ok p=>exact absurd U h
theorem y4g (b n r:Int):-400<=z4t b n r/\z4t b n r<=400:=by
 unfold z4t;split;omega;rename_i h;have D:z4v b n=0:=Classical.not_not.1 λe=>h (.inl e);have I:-4<=r/\r<=4:=Classical.not_not.1 λe=>h (.inr e);have:=z3m D;split<;>omega
def OwnIf {α:Type}(c:Prop)(E:Enc α)(T base:Nat)(w:World)(v:Value)(ys:List α):Prop:=c->Lw.Own E T base w v ys
theorem OwnIf.fr {α:Type}{c:Prop}{E:Enc α}{T base:Nat}{w w':World}{v:Value}{ys:List α}{S:List Nat}(h:OwnIf c E T base w v ys)(hf:Fr S w w')(hn:c->∀k∈S,k∉z0v v:=by simp[z0v]<;>omega):OwnIf c E T base w' v ys:=λD=>(h D).fr hf (hn D)
theorem OwnIf.ext {α:Type}{c:Prop}{E:Enc α}{T base:Nat}{w w':World}{v:Value}{ys:List α}(h:OwnIf c E T base w v ys)(hf:Fr [] w w'):OwnIf c E T base w' v ys:=λD=>(h D).ext hf
theorem j4u (m:MQ)(y:Int):m.p.y y=(m.ys.getD (y-1).toNat yq0).p:=by
 unfold MSt.y;rw[List.getD,List.getD,List.getElem?_map];cases m.ys[(y-1).toNat]?<;>rfl
theorem y0c {y:Int}(m:MQ)(q:YQ)(D:(y-1).toNat=j):{ m with ys:=m.ys.set j q }.p=m.p.setY y q.p:=by
 subst D;unfold MSt.setY MQ.p;simp only[List.map_set]
end
end Go.G08
namespace Go.Proofs.YtpgdchkdlgkmgaaGreatDoor
open Go.Lw Go.G21 Go.G08 _root_.Go.Proofs.Tryz
set_option maxHeartbeats 1000000 in
theorem x2g (q:YQ)(w0:World)(hp:Sl z1s w0 (slv q.pe) q.pes):Rets prog 110 #[.agg #[.bool q.inn,.int .i64 q.pl,.int .i64 q.ct,.bool q.nw,.slice q.pe.1 q.pe.2.1 q.pe.2.2]] w0 λr w'=>∃J:YQ,r=.tuple #[.agg #[.bool J.inn,.int .i64 J.pl,.int .i64 J.ct,.bool J.nw,.slice J.pe.1 J.pe.2.1 J.pe.2.2],.int .i64 (lvE q.p)]/\(lvE q.p=0->J=⟨false,0,q.ct,false,sv0,[]⟩)/\Fr [] w0 w':=by
 have a4:=z1u hp;have a1:=hp.len_le;unfold maxLen at a1;refine we [(0,.agg #[.bool q.inn,.int .i64 q.pl,.int .i64 q.ct,.bool q.nw,.slice q.pe.1 q.pe.2.1 q.pe.2.2])] func110 U ntmps110 U (.cons U .nil) ?_;have a0:=hp;refine sr (bx U (λg1 w1 a2 I q1 z1=>(al y1j U (λg2 w2 a3 D q2 z2=>(asg U (nn (sq (sr ?_))))))));replace I:=I.ext q2;refine z0l U I z6d ?_;replace hp:=a0.ext (q1.n1 q2);refine cl (ev1 U) j0l (z9c q _ hp) U ?_;rintro _ w3 ⟨rfl,O⟩;refine asg U (nn (sr (mv U (ne' U (nn (cd U (λZ=>?_) (λZ=>?_)))))));refine sr (z1t (cs:=[_,_,_,_,_]) z0f x0z z0q U ?_);refine mv U ?_;replace D:=D.ext O;refine z0j (vs:=[_,_,_,_,_]) U D z6u (λw4 D q4 z4=>(asg U (nn (rt (tr (rCT results110 U D z6d U ?_))))));have M:lvE q.p=ynE q.p:=by unfold lvE;rw[if_pos Z]
 exact⟨_,rfl,yq0,by rw[M];rfl,(λh=>absurd h (by rw[M];exact Z)),(q1.z3 q2 O q4)⟩;refine sk (tn (sq (sr (fad U z9g ?_))));replace I:=I.ext O;refine z0g U I U na4 (nt' U (nn (cd U (λc1=>?_) (λc1=>?_))));refine sr (z1t (cs:=[_,_,_,_,_]) z0f x0z z0q U ?_);replace D:=D.ext O;refine z0j (vs:=[_,_,_,_,_]) U D z6u (λw5 D q5 z5=>(asg U (nn (rt (tr (rCT results110 U D z6d U ?_))))));have M:lvE q.p=12:=by unfold lvE;rw[if_neg Z,if_pos (by simpa using c1)]
 exact⟨_,rfl,yq0,by rw[M];rfl,(λh=>absurd h (by rw[M];decide)),(q1.z3 q2 O q5)⟩;refine sk (tn (sr (fad U z6y (z0g U I U na3 (z1t (cs:=[_,_,_,_,_]) (ev1 U) x0z (z0h U z0q) U ?_)))));replace D:=D.ext O;refine z0j (vs:=[_,_,_,_,_]) U D z6u (λw6 D q6 z6=>(asg U (nn (rt (rCT results110 U D z6d U ?_)))));have M:lvE q.p=0:=by unfold lvE;rw[if_neg Z,if_neg (by simpa using c1)]
 exact⟨_,rfl,⟨false,0,q.ct,false,sv0,[]⟩,by rw[M];rfl,(λ_=>rfl),(q1.z3 q2 O q6)⟩
theorem j1l (v:Value)(l:List Int)(w0:World)(I:Sl Enc.i64 w0 v l)(hl:l.length<=1000):Rets prog 121 #[v] w0 λr w'=>r=.int .i64 (orZ l)/\Fr [] w0 w':=by
 obtain⟨A,c,rfl,a0,hM,hA⟩:=id I;clear hA;unfold maxLen at hM;refine we [(0,.slice A l.length c)] func121 U ntmps121 U (.cons U .nil) ?_;have M:=I;refine sr (asg U (nn (sr (asg U (nn (sq (sr (mv U (lnS U underlying85 (mv U (nn (bl ?_))))))))))));refine lpK (ι:=Nat) [(3,_),(6,_),(7,_)] (λi=>[(8,.int .i64 (i:Int))]) (λi w'=>Fr [] w0 w'/\i<=l.length/\∀j,j<i->l.getD j 0=0) (λi=>l.length-i) 0 (.c4 U U U U) ⟨Fr.refl _ _,⟨Nat.zero_le _,λj h=>absurd h (by omega)⟩⟩ ?_;rintro i w1 ⟨J,⟨hi,O⟩⟩;refine kpC [(3,_),(6,_),(7,_),(8,_)] (.c4 U U U U) (sr (lt' U (nn (sq (cd U (λc0=>?_) (λc0=>?_))))));refine sk (tn (sq (bl (sr ?_))));replace I:=M.ext J;refine z0y (0) U I U y6a z1e (λZ D=>?_);refine z1g U (D _ I) na3 (asg U (nn (sr (mv U (mv U (ne' U (nn (cd U (λc1=>?_) (λc1=>?_)))))))));refine sr (mv U (asg U (kpL [(2,_)] (.cons U .nil) (nn (rt (rb (tr (tr (rb (tr (r1 results121 U ?_)))))))))));exact⟨_,rfl,congrArg (Value.int .i64) (v4o (by omega) O (by omega)).symm,J⟩;refine sk (bn' (tn (rg (z0w U (wi6 (by omega)) (mv U (nl ?_))))));exact lpE (i+1) (.c4 U U U U) ⟨J,⟨by omega,λj h=>by
  by_cases e:j=i;subst e;omega;exact O j (by omega)⟩⟩ (by omega)
 obtain rfl:i=l.length:=by omega
 refine ex (te (te (xh (tn (sr (mv U (asg U (kpL [(2,_)] (.cons U .nil) (nn (rt (r1 results121 U ?_)))))))))));exact⟨_,rfl,congrArg (Value.int .i64) (y9m O).symm,J⟩
theorem y0k (O Z:LId)(w0:World):Rets prog 74 #[.agg #[.int .u8 O.y,.int .i64 O.n],.agg #[.int .u8 Z.y,.int .i64 Z.n]] w0 λr w'=>r=.int .i64 (z6o O Z)/\Fr [] w0 w':=by
 refine we [(0,.agg #[.int .u8 O.y,.int .i64 O.n]),(1,.agg #[.int .u8 Z.y,.int .i64 Z.n])] func74 U ntmps74 U (.c2 U U) (sr (bx U (λg2 w1 a3 J q1 z1=>(bx U (λg3 w2 a4 M q2 z2=>(asg U (nn (sq ?_))))))));intro a h;refine z0i none (λwb w'=>Fr [] wb w') z2r ?_;intro w3 q3;replace J:=J.ext (q2.n1 q3);replace M:=M.ext q3;have hC:Fr [] w3 w3:=Fr.refl _ _;have D:=J;have I:=M;refine z0c 0 h U z7s U λa h=>z0k 1 h U (λ_ hw=>D.ext hw) U na5 U λa h=>z0c 2 h U z7s U λa h=>z0k 3 h U (λ_ hw=>I.ext hw) U na5 U λa h=>z0c 5 h U z9f U λa h=>z0k 6 h U (λ_ hw=>D.ext hw) U na3 U λa h=>z0c 7 h U z9f U λa h=>z0k 8 h U (λ_ hw=>I.ext hw) U na3 U λa h=>z0d 4 U ?_;refine z0m h (z0a U (z0a U z0f)) (mkC func122) (j3i _ _ _) ?_;rintro _ w4 ⟨rfl,q4⟩ a h;replace hC:=hC.next q4;refine z0b ?_;refine z0d 9 U ?_;refine z0m h (z0a U (z0a U z0f)) (mkC func123) (v2k _ _ _) ?_;rintro _ w5 ⟨rfl,q5⟩ a h;replace J:=J.ext (q4.n1 q5);replace M:=M.ext (q4.n1 q5);replace hC:=hC.next q5;refine z0b ?_;refine z0d 10 U ?_;refine z2w ([z9w O.y Z.y,z9w O.n Z.n]) h (z0a U (z0a U z0f)) U y6a λa1 w6 hg a2 q6 hz a h=>?_;have a0:g2<a1:=by have:=J.lt;omega
 have a0:g3<a1:=by have:=M.lt;omega
 replace hC:=hC.next q6;refine z0b ?_;refine z0d 11 U ?_;refine z0m h (z0a U z0f) (mkC func121) (j1l _ [z9w O.y Z.y,z9w O.n Z.n] _ a2.sl (by simp)) ?_;rintro _ w7 ⟨rfl,q7⟩ a h;replace hC:=hC.next q7;refine z0b ?_;refine z0d 12 U ?_;refine z0s h U λa h=>?_;refine z0b ?_;refine z0r ?_;clear hC D I;refine bk (h.sub (L':=[(4,_)]) (.cons U .nil)) (tn (rt (r1 results74 U ?_)));exact⟨_,rfl,congrArg (Value.int .i64) (x5v O Z),(q1.n6 q2 q3 q4 q5 q6 q7)⟩
theorem z9u:ElemOf prog 33 82 z2j 56:=ElemOf.mk' (z:=(.agg #[.bool false,.int .i64 0,.int .i64 0,.bool false,.slice none 0 0])) underlying33 (by kernel_rfl) U
theorem z3a:z1a prog 137 2 3:=λ_ _=>by kernel_rfl
theorem z9x:z2a prog 33:=λ_=>by kernel_rfl
abbrev τd:TyK:=⟨82,46,89,87,100,37,39⟩
theorem τd_ok:τd.Ok:=by constructor<;>decide
theorem mtd:MtOk τd 137:=⟨τd_ok,by decide,by decide,by decide,by decide,by decide,by decide⟩
set_option maxHeartbeats 1000000 in
theorem j3x (wS:World)(ka:MA)(m:MQ)(o:MOp)(w0:World)(hM:MkM τd 137 wS ka w0 m)(hy:1<=o.y/\o.y<=6):Rets prog 64 #[.pointer (some ⟨ka.gk,0,none⟩),opV o] w0 λr w'=>MRet τd 137 wS ka (inM m.p o) r w':=by
 have d1:=hM.fr.size;have O:=hM.k;have b9:=O.lt;have c9:=hM.ly;have c1:=hM.lt;have b7:=(hM.y.out.blk ka.gy (by simp[z0v])).2;obtain⟨j,hj,d0⟩:∃j:Nat,j<6/\o.y=(j:Int)+1:=⟨(o.y-1).toNat,by omega,by omega⟩;have b0:(o.y-1).toNat=j:=by omega
 have a8:m.p.y o.y=(m.ys.getD j yq0).p:=by rw[j4u,b0]
 refine we [(0,.pointer (some ⟨ka.gk,0,none⟩)),(1,opV o)] func64 U ntmps64 U (.c2 U U) ?_;have a3:=hM;refine sr (bx U (λg3 w1 b8 D q1 z1=>(asg U (nn (sq ?_)))));replace hM:=a3.ext q1;intro a h;refine z0i none (λwb w'=>Fr [] wb w') z2r ?_;intro w2 q2;have z2:=q2.size;replace hM:=hM.ext q2;replace O:=O.ext (q1.n1 q2);replace D:=D.ext q2;have hC:Fr [] w2 w2:=Fr.refl _ _;have Z:=hM;have M:=O;have I:=D;refine z0e 0 h U λa h=>z0o 1 h U λa h=>z0c 2 h U z3a U λa h=>z0k 3 h U (λ_ hw=>M.ext hw) U z9x U λa h=>z0c 4 h U z3g U λa h=>z0k 5 h U (λ_ hw=>I.ext hw) U na5 U λa h=>z3b 6 h wn U (by first|exact IntWalk.u8_in _ (by omega)|rfl) U λa h=>z1f (p:=j) (yq0) 7 h U hM.y.out.sl U z9u U λb6 b2 a h=>z2c (cs:=z2j.enc (m.ys.getD j yq0)) 8 h wn U (λ_ hw=>b2 _ (Z.ext hw).y.out.sl) z6d U λa h=>z0c 9 h U z6x U λa h=>z0k 10 h U (λ_ hw=>I.ext hw) U y9s U λa h=>?_;refine z2d 11 15 (by kernel_rfl) U ?_ ?_;refine z0m h (z0a U (z0a U z0f)) (mkC func109) (x1o (m.ys.getD j yq0) o.d _ (hM.y.ins j (by omega)).sl) ?_;rintro _ w3 ⟨qn,rfl,a6,q3⟩ a h;have z3:=q3.size;replace O:=O.ext q3;replace D:=D.ext q3;replace hC:=hC.next q3;refine z0b ?_;refine z0e 12 h U λa h=>z0n 13 h U λa h=>z0n 14 h U λa h=>z0d 15 U ?_;refine z1c h y1j U λw4 J q4 hz a h=>?_;obtain⟨a2,hg⟩:∃g,g=w3.heap.size:=⟨_,rfl⟩;rw[<-hg]at J h hz;have b4.gk_5:ka.gk<a2:=by have:=O.lt;omega
 have b1:g3<a2:=by have:=D.lt;omega
 have z4:=q4.size;replace hM:=hM.ext (q3.n1 q4);replace O:=O.ext q4;replace D:=D.ext q4;replace hC:=hC.next q4;refine z0b ?_;refine z0d 16 U ?_;refine z0u h U J U z6u ?_ (h1:=(by first|(simp[Value.oneCell',S];done)|exact z2j.one (m.ys.getD j yq0)));clear h a;intro w5 a5 q5 hz a h;have z5:=q5.size;replace O:=O.fr q5;replace D:=D.fr q5;replace hC:=hC.sp q5;clear J hz;have J:Blk w5 a2 _ [_,_,_,_,_]:=a5;clear a5;refine z0b ?_;refine z0d 17 U ?_;refine z0s h U λa h=>?_;refine z0b ?_;refine z0r ?_;clear hC Z M I;refine bk (h.sub (L':=[(0,_),(3,_),(5,_),(6,_)]) (.c4 U U U U)) (tn (sq (sr (mv U (eq' U (nn (cd U (λc0=>?_) (λc0=>?_))))))));obtain rfl:=a6 c0;replace hM:=a3.ext (q1.z4 q2 q3 q4 q5);intro a h;refine z0i (some 9) (λwb w'=>Fr [] wb w') z2r ?_;intro w6 q6;have z6:=q6.size;replace hM:=hM.ext q6;replace O:=O.ext q6;replace D:=D.ext q6;replace J:=J.ext q6;have hC:Fr [] w6 w6:=Fr.refl _ _;have Z:=hM;have M:=O;have I:=D;have a0:=J;refine z0e 0 h U λa h=>z0o 1 h U λa h=>z0c 2 h U z3a U λa h=>z0k 3 h U (λ_ hw=>M.ext hw) U z9x U λa h=>z0c 4 h U z3g U λa h=>z0k 5 h U (λ_ hw=>I.ext hw) U na5 U λa h=>z3b 6 h wn U (by first|exact IntWalk.u8_in _ (by omega)|rfl) U λa h=>z0z 7 h U (λ_ hw=>a0.ext hw) z6d U λa h=>z1m 8 (by kernel_rfl) (by kernel_rfl) (by kernel_rfl) hC (p:=j) h wn U z9u (by omega) (by omega) (by omega) U U λa h=>z0d 9 U ?_;refine z1b (i:=j) (⟨true,if o.d=1 then 179 else -13,(m.ys.getD j yq0).ct,true,sv0,[]⟩:YQ) h U hM.y.out (by rw[hM.ly];exact hj) U z6u λw7 a1 q7 _hz a h=>?_;replace hM:=hM.yarn mtd hj a1 q7 (Own.nil _);have a3:=hM;clear a1;have z7:=q7.size;replace D:=D.fr q7;replace J:=J.fr q7;have O:=hM.k;clear _hz;refine z1p ?_;refine z0r ?_;clear hC Z M I a0;refine bk (h.sub (L':=[(6,_)]) (.cons U .nil)) (tn (sr (mv U (asg U (nn (rt (r1 results64 U ?_)))))));exact⟨_,rfl,by rw[c0];exact MRet.ok (by unfold inM;rw[a8,if_neg (λe=>e c0)];exact congrArg Except.ok (y0c m (⟨true,if o.d=1 then 179 else -13,(m.ys.getD j yq0).ct,true,sv0,[]⟩:YQ) b0).symm) hM⟩;refine sk (tn (sr (mv U (asg U (kpL [(4,_)] (.cons U .nil) (nn (rt (r1 results64 U ?_))))))));replace hM:=a3.ext (q1.z4 q2 q3 q4 q5);exact⟨_,rfl,MRet.err (by unfold inM;rw[a8,if_pos c0]) c0 hM.fr⟩;refine z1c h y1j U λw8 J q8 hz a h=>?_;obtain⟨a2,hg⟩:∃g,g=w2.heap.size:=⟨_,rfl⟩;rw[<-hg]at J h hz;have b4.gk_5:ka.gk<a2:=by have:=O.lt;omega
 have b1:g3<a2:=by have:=D.lt;omega
 have z8:=q8.size;replace hM:=hM.ext q8;replace hC:=hC.next q8;refine z0b ?_;refine z0d 11 U ?_;refine z0m h (z0a U (z0a U z0f)) (mkC func109) (x1o (m.ys.getD j yq0) o.d _ (hM.y.ins j (by omega)).sl) ?_;rintro _ w9 ⟨qn,rfl,a6,q9⟩ a h;have z9:=q9.size;replace hM:=hM.ext q9;replace O:=O.ext (q8.n1 q9);replace D:=D.ext (q8.n1 q9);replace J:=J.ext q9;replace hC:=hC.next q9;refine z0b ?_;refine z0e 12 h U λa h=>z0n 13 h U λa h=>z0n 14 h U λa h=>z0d 16 U ?_;refine z0u h U J U z6u ?_ (h1:=(by first|(simp[Value.oneCell',S];done)|exact z2j.one (m.ys.getD j yq0)));clear h a;intro b5 a5 a4 hz a h;have d4:=a4.size;replace O:=O.fr a4;replace D:=D.fr a4;replace hC:=hC.sp a4;clear J hz;have J:Blk b5 a2 _ [_,_,_,_,_]:=a5;clear a5;refine z0b ?_;refine z0d 17 U ?_;refine z0s h U λa h=>?_;refine z0b ?_;refine z0r ?_;clear hC Z M I;refine bk (h.sub (L':=[(0,_),(3,_),(5,_),(6,_)]) (.c4 U U U U)) (tn (sq (sr (mv U (eq' U (nn (cd U (λc0=>?_) (λc0=>?_))))))));obtain rfl:=a6 c0;replace hM:=a3.ext (q1.z4 q2 q8 q9 a4);intro a h;refine z0i (some 9) (λwb w'=>Fr [] wb w') z2r ?_;intro b3 a7;have d5:=a7.size;replace hM:=hM.ext a7;replace O:=O.ext a7;replace D:=D.ext a7;replace J:=J.ext a7;have hC:Fr [] b3 b3:=Fr.refl _ _;have Z:=hM;have M:=O;have I:=D;have a0:=J;refine z0e 0 h U λa h=>z0o 1 h U λa h=>z0c 2 h U z3a U λa h=>z0k 3 h U (λ_ hw=>M.ext hw) U z9x U λa h=>z0c 4 h U z3g U λa h=>z0k 5 h U (λ_ hw=>I.ext hw) U na5 U λa h=>z3b 6 h wn U (by first|exact IntWalk.u8_in _ (by omega)|rfl) U λa h=>z0z 7 h U (λ_ hw=>a0.ext hw) z6d U λa h=>z1m 8 (by kernel_rfl) (by kernel_rfl) (by kernel_rfl) hC (p:=j) h wn U z9u (by omega) (by omega) (by omega) U U λa h=>z0d 9 U ?_;refine z1b (i:=j) (⟨true,if o.d=1 then 179 else -13,(m.ys.getD j yq0).ct,true,sv0,[]⟩:YQ) h U hM.y.out (by rw[hM.ly];exact hj) U z6u λd3 a1 a9 _hz a h=>?_;replace hM:=hM.yarn mtd hj a1 a9 (Own.nil _);have a3:=hM;clear a1;have d6:=a9.size;replace D:=D.fr a9;replace J:=J.fr a9;have O:=hM.k;clear _hz;refine z1p ?_;refine z0r ?_;clear hC Z M I a0;refine bk (h.sub (L':=[(6,_)]) (.cons U .nil)) (tn (sr (mv U (asg U (nn (rt (r1 results64 U ?_)))))));exact⟨_,rfl,by rw[c0];exact MRet.ok (by unfold inM;rw[a8,if_neg (λe=>e c0)];exact congrArg Except.ok (y0c m (⟨true,if o.d=1 then 179 else -13,(m.ys.getD j yq0).ct,true,sv0,[]⟩:YQ) b0).symm) hM⟩;refine sk (tn (sr (mv U (asg U (kpL [(4,_)] (.cons U .nil) (nn (rt (r1 results64 U ?_))))))));replace hM:=a3.ext (q1.z4 q2 q8 q9 a4);exact⟨_,rfl,MRet.err (by unfold inM;rw[a8,if_pos c0]) c0 hM.fr⟩
set_option maxHeartbeats 1000000 in
theorem u9z (wS:World)(ka:MA)(m:MQ)(o:MOp)(w0:World)(hM:MkM τd 137 wS ka w0 m)(hy:1<=o.y/\o.y<=6):Rets prog 65 #[.pointer (some ⟨ka.gk,0,none⟩),opV o] w0 λr w'=>MRet τd 137 wS ka (v0g m.p o) r w':=by
 have d1:=hM.fr.size;have O:=hM.k;have b9:=O.lt;have c9:=hM.ly;have c1:=hM.lt;have b7:=(hM.y.out.blk ka.gy (by simp[z0v])).2;obtain⟨j,hj,d0⟩:∃j:Nat,j<6/\o.y=(j:Int)+1:=⟨(o.y-1).toNat,by omega,by omega⟩;have b0:(o.y-1).toNat=j:=by omega
 have a8:m.p.y o.y=(m.ys.getD j yq0).p:=by rw[j4u,b0]
 refine we [(0,.pointer (some ⟨ka.gk,0,none⟩)),(1,opV o)] func65 U ntmps65 U (.c2 U U) ?_;have a3:=hM;refine sr (bx U (λg3 w1 b8 D q1 z1=>(asg U (nn (sq ?_)))));replace hM:=a3.ext q1;intro a h;refine z0i none (λwb w'=>Fr [] wb w') z2r ?_;intro w2 q2;have z2:=q2.size;replace hM:=hM.ext q2;replace O:=O.ext (q1.n1 q2);replace D:=D.ext q2;have hC:Fr [] w2 w2:=Fr.refl _ _;have Z:=hM;have M:=O;have J:=D;refine z0e 0 h U λa h=>z0o 1 h U λa h=>z0c 2 h U z3a U λa h=>z0k 3 h U (λ_ hw=>M.ext hw) U z9x U λa h=>z0c 4 h U z3g U λa h=>z0k 5 h U (λ_ hw=>J.ext hw) U na5 U λa h=>z3b 6 h wn U (by first|exact IntWalk.u8_in _ (by omega)|rfl) U λa h=>z1f (p:=j) (yq0) 7 h U hM.y.out.sl U z9u U λb6 b2 a h=>z2c (cs:=z2j.enc (m.ys.getD j yq0)) 8 h wn U (λ_ hw=>b2 _ (Z.ext hw).y.out.sl) z6d U λa h=>z2d 9 13 (by kernel_rfl) U ?_ ?_;refine z0m h (z0a U z0f) (mkC func110) (x2g (m.ys.getD j yq0) _ (hM.y.ins j (by omega)).sl) ?_;rintro _ w3 ⟨qn,rfl,a6,q3⟩ a h;have z3:=q3.size;replace O:=O.ext q3;replace D:=D.ext q3;replace hC:=hC.next q3;refine z0b ?_;refine z0e 10 h U λa h=>z0n 11 h U λa h=>z0n 12 h U λa h=>z0d 13 U ?_;refine z1c h y1j U λw4 I q4 hz a h=>?_;obtain⟨a2,hg⟩:∃g,g=w3.heap.size:=⟨_,rfl⟩;rw[<-hg]at I h hz;have b4.gk_5:ka.gk<a2:=by have:=O.lt;omega
 have b1:g3<a2:=by have:=D.lt;omega
 have z4:=q4.size;replace hM:=hM.ext (q3.n1 q4);replace O:=O.ext q4;replace D:=D.ext q4;replace hC:=hC.next q4;refine z0b ?_;refine z0d 14 U ?_;refine z0u h U I U z6u ?_ (h1:=(by first|(simp[Value.oneCell',S];done)|exact z2j.one (m.ys.getD j yq0)));clear h a;intro w5 a5 q5 hz a h;have z5:=q5.size;replace O:=O.fr q5;replace D:=D.fr q5;replace hC:=hC.sp q5;clear I hz;have I:Blk w5 a2 _ [_,_,_,_,_]:=a5;clear a5;refine z0b ?_;refine z0d 15 U ?_;refine z0s h U λa h=>?_;refine z0b ?_;refine z0r ?_;clear hC Z M J;refine bk (h.sub (L':=[(0,_),(3,_),(5,_),(6,_)]) (.c4 U U U U)) (tn (sq (sr (mv U (eq' U (nn (cd U (λc0=>?_) (λc0=>?_))))))));obtain rfl:=a6 c0;replace hM:=a3.ext (q1.z4 q2 q3 q4 q5);intro a h;refine z0i (some 9) (λwb w'=>Fr [] wb w') z2r ?_;intro w6 q6;have z6:=q6.size;replace hM:=hM.ext q6;replace O:=O.ext q6;replace D:=D.ext q6;replace I:=I.ext q6;have hC:Fr [] w6 w6:=Fr.refl _ _;have Z:=hM;have M:=O;have J:=D;have a0:=I;refine z0e 0 h U λa h=>z0o 1 h U λa h=>z0c 2 h U z3a U λa h=>z0k 3 h U (λ_ hw=>M.ext hw) U z9x U λa h=>z0c 4 h U z3g U λa h=>z0k 5 h U (λ_ hw=>J.ext hw) U na5 U λa h=>z3b 6 h wn U (by first|exact IntWalk.u8_in _ (by omega)|rfl) U λa h=>z0z 7 h U (λ_ hw=>a0.ext hw) z6d U λa h=>z1m 8 (by kernel_rfl) (by kernel_rfl) (by kernel_rfl) hC (p:=j) h wn U z9u (by omega) (by omega) (by omega) U U λa h=>z0d 9 U ?_;refine z1b (i:=j) (⟨false,0,(m.ys.getD j yq0).ct,false,sv0,[]⟩:YQ) h U hM.y.out (by rw[hM.ly];exact hj) U z6u λw7 a1 q7 _hz a h=>?_;replace hM:=hM.yarn mtd hj a1 q7 (Own.nil _);have a3:=hM;clear a1;have z7:=q7.size;replace D:=D.fr q7;replace I:=I.fr q7;have O:=hM.k;clear _hz;refine z1p ?_;refine z0r ?_;clear hC Z M J a0;refine bk (h.sub (L':=[(6,_)]) (.cons U .nil)) (tn (sr (mv U (asg U (nn (rt (r1 results65 U ?_)))))));exact⟨_,rfl,by rw[c0];exact MRet.ok (by unfold v0g;rw[a8,if_neg (λe=>e c0)];exact congrArg Except.ok (y0c m (⟨false,0,(m.ys.getD j yq0).ct,false,sv0,[]⟩:YQ) b0).symm) hM⟩;refine sk (tn (sr (mv U (asg U (kpL [(4,_)] (.cons U .nil) (nn (rt (r1 results65 U ?_))))))));replace hM:=a3.ext (q1.z4 q2 q3 q4 q5);exact⟨_,rfl,MRet.err (by unfold v0g;rw[a8,if_pos c0]) c0 hM.fr⟩;refine z1c h y1j U λw8 I q8 hz a h=>?_;obtain⟨a2,hg⟩:∃g,g=w2.heap.size:=⟨_,rfl⟩;rw[<-hg]at I h hz;have b4.gk_5:ka.gk<a2:=by have:=O.lt;omega
 have b1:g3<a2:=by have:=D.lt;omega
 have z8:=q8.size;replace hM:=hM.ext q8;replace hC:=hC.next q8;refine z0b ?_;refine z0d 9 U ?_;refine z0m h (z0a U z0f) (mkC func110) (x2g (m.ys.getD j yq0) _ (hM.y.ins j (by omega)).sl) ?_;rintro _ w9 ⟨qn,rfl,a6,q9⟩ a h;have z9:=q9.size;replace hM:=hM.ext q9;replace O:=O.ext (q8.n1 q9);replace D:=D.ext (q8.n1 q9);replace I:=I.ext q9;replace hC:=hC.next q9;refine z0b ?_;refine z0e 10 h U λa h=>z0n 11 h U λa h=>z0n 12 h U λa h=>z0d 14 U ?_;refine z0u h U I U z6u ?_ (h1:=(by first|(simp[Value.oneCell',S];done)|exact z2j.one (m.ys.getD j yq0)));clear h a;intro b5 a5 a4 hz a h;have d4:=a4.size;replace O:=O.fr a4;replace D:=D.fr a4;replace hC:=hC.sp a4;clear I hz;have I:Blk b5 a2 _ [_,_,_,_,_]:=a5;clear a5;refine z0b ?_;refine z0d 15 U ?_;refine z0s h U λa h=>?_;refine z0b ?_;refine z0r ?_;clear hC Z M J;refine bk (h.sub (L':=[(0,_),(3,_),(5,_),(6,_)]) (.c4 U U U U)) (tn (sq (sr (mv U (eq' U (nn (cd U (λc0=>?_) (λc0=>?_))))))));obtain rfl:=a6 c0;replace hM:=a3.ext (q1.z4 q2 q8 q9 a4);intro a h;refine z0i (some 9) (λwb w'=>Fr [] wb w') z2r ?_;intro b3 a7;have d5:=a7.size;replace hM:=hM.ext a7;replace O:=O.ext a7;replace D:=D.ext a7;replace I:=I.ext a7;have hC:Fr [] b3 b3:=Fr.refl _ _;have Z:=hM;have M:=O;have J:=D;have a0:=I;refine z0e 0 h U λa h=>z0o 1 h U λa h=>z0c 2 h U z3a U λa h=>z0k 3 h U (λ_ hw=>M.ext hw) U z9x U λa h=>z0c 4 h U z3g U λa h=>z0k 5 h U (λ_ hw=>J.ext hw) U na5 U λa h=>z3b 6 h wn U (by first|exact IntWalk.u8_in _ (by omega)|rfl) U λa h=>z0z 7 h U (λ_ hw=>a0.ext hw) z6d U λa h=>z1m 8 (by kernel_rfl) (by kernel_rfl) (by kernel_rfl) hC (p:=j) h wn U z9u (by omega) (by omega) (by omega) U U λa h=>z0d 9 U ?_;refine z1b (i:=j) (⟨false,0,(m.ys.getD j yq0).ct,false,sv0,[]⟩:YQ) h U hM.y.out (by rw[hM.ly];exact hj) U z6u λd3 a1 a9 _hz a h=>?_;replace hM:=hM.yarn mtd hj a1 a9 (Own.nil _);have a3:=hM;clear a1;have d6:=a9.size;replace D:=D.fr a9;replace I:=I.fr a9;have O:=hM.k;clear _hz;refine z1p ?_;refine z0r ?_;clear hC Z M J a0;refine bk (h.sub (L':=[(6,_)]) (.cons U .nil)) (tn (sr (mv U (asg U (nn (rt (r1 results65 U ?_)))))));exact⟨_,rfl,by rw[c0];exact MRet.ok (by unfold v0g;rw[a8,if_neg (λe=>e c0)];exact congrArg Except.ok (y0c m (⟨false,0,(m.ys.getD j yq0).ct,false,sv0,[]⟩:YQ) b0).symm) hM⟩;refine sk (tn (sr (mv U (asg U (kpL [(4,_)] (.cons U .nil) (nn (rt (r1 results65 U ?_))))))));replace hM:=a3.ext (q1.z4 q2 q8 q9 a4);exact⟨_,rfl,MRet.err (by unfold v0g;rw[a8,if_pos c0]) c0 hM.fr⟩
theorem z3r:z1a prog 137 0 0:=λ_ _=>by kernel_rfl
set_option maxHeartbeats 1000000 in
theorem x5e (wS:World)(ka:MA)(m:MQ)(o:MOp)(w0:World)(hM:MkM τd 137 wS ka w0 m)(hi:MInv m.p)(hy:1<=o.y/\o.y<=6)(hn:z4v o.b o.p=0):Rets prog 112 #[.pointer (some ⟨ka.gk,0,none⟩),opV o] w0 λr w'=>r=.tuple #[.int .i64 (if z8k m.p o=0 then x8w m.p o else 0),.int .i64 (if z8k m.p o=0 then (z4t o.b o.p m.rk) else 0),.int .i64 (z8k m.p o)]/\Fr [] w0 w':=by
 have b8:=hM.fr.size;have Z:=hM.k;have b2:=Z.lt;have b4:=hM.ly;have b3:=hM.lt;have b0:=(hM.y.out.blk ka.gy (by simp[z0v])).2;obtain⟨j,hj,b6⟩:∃j:Nat,j<6/\o.y=(j:Int)+1:=⟨(o.y-1).toNat,by omega,by omega⟩;have a7:(o.y-1).toNat=j:=by omega
 have J:m.p.y o.y=(m.ys.getD j yq0).p:=by rw[j4u,a7]
 have b7:=y4g o.b o.p m.rk;have b5:=z3m hn;refine we [(0,.pointer (some ⟨ka.gk,0,none⟩)),(1,opV o)] func112 U ntmps112 U (.c2 U U) ?_;have a6:=hM;refine sr (bx U (λg3 w1 b1 D q1 z1=>(asg U (asg U (asg U (nn (sq ?_)))))));replace hM:=a6.ext q1;intro a h;refine z0i none (λwb w'=>Fr [] wb w') z2r ?_;intro w2 q2;have z2:=q2.size;replace hM:=hM.ext q2;replace Z:=Z.ext (q1.n1 q2);replace D:=D.ext q2;have hC:Fr [] w2 w2:=Fr.refl _ _;have a2:=hM;have a1:=Z;have M:=D;refine z0e 0 h U λa h=>z0o 1 h U λa h=>z0c 2 h U z3a U λa h=>z0k 3 h U (λ_ hw=>a1.ext hw) U z9x U λa h=>z0c 4 h U z3g U λa h=>z0k 5 h U (λ_ hw=>M.ext hw) U na5 U λa h=>z3b 6 h wn U (by first|exact IntWalk.u8_in _ (by omega)|rfl) U λa h=>z1f (p:=j) (yq0) 7 h U hM.y.out.sl U z9u U λa9 a5 a h=>z2c (cs:=z2j.enc (m.ys.getD j yq0)) 8 h wn U (λ_ hw=>a5 _ (a2.ext hw).y.out.sl) z6d U λa h=>z0c 9 h U z4j U λa h=>z1d (vs:=[_,_]) 10 h U (λ_ hw=>(M.ext hw)) z5z U U λa h=>?_;refine z0e 11 h U λa h=>z0o 12 h U λa h=>z0c 13 h U z3r U λa h=>z0k 14 h U (λ_ hw=>a1.ext hw) U na3 U λa h=>z2d 15 16 (by kernel_rfl) U ?_ ?_;refine z0m h (z0a U (z0a U z0f)) x9j (y2j _ _ _ _ (by have:=hi.rk;omega)) ?_;rintro _ w3 ⟨rfl,q3⟩ a h;have z3:=q3.size;replace Z:=Z.ext q3;replace D:=D.ext q3;replace hC:=hC.next q3;refine z0b ?_;refine z0d 16 U ?_;refine z1c h y1j U λw4 I q4 hz a h=>?_;obtain⟨a0,hg⟩:∃g,g=w3.heap.size:=⟨_,rfl⟩;rw[<-hg]at I h hz;have a8.gk_7:ka.gk<a0:=by have:=Z.lt;omega
 have a4:g3<a0:=by have:=D.lt;omega
 have z4:=q4.size;replace hM:=hM.ext (q3.n1 q4);replace Z:=Z.ext q4;replace D:=D.ext q4;replace hC:=hC.next q4;refine z0b ?_;refine z0d 17 U ?_;refine z0u h U I U z6u ?_ (h1:=(by first|(simp[Value.oneCell',S];done)|exact z2j.one (m.ys.getD j yq0)));clear h a;intro w5 a3 q5 hz a h;have z5:=q5.size;replace Z:=Z.fr q5;replace D:=D.fr q5;replace hC:=hC.sp q5;clear I hz;have I:Blk w5 a0 _ [_,_,_,_,_]:=a3;clear a3;refine z0b ?_;refine z0d 18 U ?_;refine z0s h U λa h=>?_;refine z0b ?_;refine z0r ?_;clear hC a2 a1 M;refine bk (h.sub (L':=[(3,_),(5,_),(7,_)]) (.c3 U U U)) (tn (sq (sr (fad U z9g (z0g U I U na4 (nt' U (nn (cd U (λc0=>?_) (λc0=>?_)))))))));refine sr (asg U (asg U (asg U (nn (rt (tr (r3 results112 U U U ?_)))))));have O:z8k m.p o=12:=by unfold z8k;rw[J,if_pos (by simpa using c0)]
 exact⟨_,rfl,by rw[O];rfl,(q1.z4 q2 q3 q4 q5)⟩;refine sk (tn (sq (sr (fad U z6x (z0g U D U y9s (eq' U (nn (cd U (λc1=>?_) (λc1=>?_)))))))));refine sq (sr (fad U z5s (z0g U I U na3 (mv U (gt' U (nn (cd U (λc2=>?_) (λc2=>?_))))))));refine sr (asg U (asg U (asg U (nn (rt (tr (tr (r3 results112 U U U ?_))))))));have O:z8k m.p o=12:=by unfold z8k;rw[J,if_neg (by simpa using c0),if_pos c1,if_pos c2]
 exact⟨_,rfl,by rw[O];rfl,(q1.z4 q2 q3 q4 q5)⟩;refine sk (tn (sr (mv U (z0w U (wi6 (by omega)) (mv U (asg U (asg U (asg U (nn (rt (tr (r3 results112 U U U ?_))))))))))));have O:z8k m.p o=0:=by unfold z8k;rw[J,if_neg (by simpa using c0),if_pos c1,if_neg c2]
 exact⟨_,rfl,by rw[O];rw[if_pos U,if_pos U,x8w,if_pos c1],(q1.z4 q2 q3 q4 q5)⟩;refine sk (tn (sq (sr (fad U z5s (z0g U I U na3 (mv U (lt' U (nn (cd U (λc3=>?_) (λc3=>?_))))))))));refine sr (asg U (asg U (asg U (nn (rt (tr (r3 results112 U U U ?_)))))));have O:z8k m.p o=12:=by unfold z8k;rw[J,if_neg (by simpa using c0),if_neg c1,if_pos c3]
 exact⟨_,rfl,by rw[O];rfl,(q1.z4 q2 q3 q4 q5)⟩;refine sk (tn (sr (mv U (z2u U (wi6 (by omega)) (mv U (asg U (asg U (asg U (nn (rt (r3 results112 U U U ?_)))))))))));have O:z8k m.p o=0:=by unfold z8k;rw[J,if_neg (by simpa using c0),if_neg c1,if_neg c3]
 exact⟨_,rfl,by rw[O];rw[if_pos U,if_pos U,x8w,if_neg c1],(q1.z4 q2 q3 q4 q5)⟩;refine z1c h y1j U λw6 I q6 hz a h=>?_;obtain⟨a0,hg⟩:∃g,g=w2.heap.size:=⟨_,rfl⟩;rw[<-hg]at I h hz;have a8.gk_7:ka.gk<a0:=by have:=Z.lt;omega
 have a4:g3<a0:=by have:=D.lt;omega
 have z6:=q6.size;replace hC:=hC.next q6;refine z0b ?_;refine z0d 15 U ?_;refine z0m h (z0a U (z0a U z0f)) x9j (y2j _ _ _ _ (by have:=hi.rk;omega)) ?_;rintro _ w7 ⟨rfl,q7⟩ a h;have z7:=q7.size;replace hM:=hM.ext (q6.n1 q7);replace Z:=Z.ext (q6.n1 q7);replace D:=D.ext (q6.n1 q7);replace I:=I.ext q7;replace hC:=hC.next q7;refine z0b ?_;refine z0d 17 U ?_;refine z0u h U I U z6u ?_ (h1:=(by first|(simp[Value.oneCell',S];done)|exact z2j.one (m.ys.getD j yq0)));clear h a;intro w8 a3 q8 hz a h;have z8:=q8.size;replace Z:=Z.fr q8;replace D:=D.fr q8;replace hC:=hC.sp q8;clear I hz;have I:Blk w8 a0 _ [_,_,_,_,_]:=a3;clear a3;refine z0b ?_;refine z0d 18 U ?_;refine z0s h U λa h=>?_;refine z0b ?_;refine z0r ?_;clear hC a2 a1 M;refine bk (h.sub (L':=[(3,_),(5,_),(7,_)]) (.c3 U U U)) (tn (sq (sr (fad U z9g (z0g U I U na4 (nt' U (nn (cd U (λc0=>?_) (λc0=>?_)))))))));refine sr (asg U (asg U (asg U (nn (rt (tr (r3 results112 U U U ?_)))))));have O:z8k m.p o=12:=by unfold z8k;rw[J,if_pos (by simpa using c0)]
 exact⟨_,rfl,by rw[O];rfl,(q1.z4 q2 q6 q7 q8)⟩;refine sk (tn (sq (sr (fad U z6x (z0g U D U y9s (eq' U (nn (cd U (λc1=>?_) (λc1=>?_)))))))));refine sq (sr (fad U z5s (z0g U I U na3 (mv U (gt' U (nn (cd U (λc2=>?_) (λc2=>?_))))))));refine sr (asg U (asg U (asg U (nn (rt (tr (tr (r3 results112 U U U ?_))))))));have O:z8k m.p o=12:=by unfold z8k;rw[J,if_neg (by simpa using c0),if_pos c1,if_pos c2]
 exact⟨_,rfl,by rw[O];rfl,(q1.z4 q2 q6 q7 q8)⟩;refine sk (tn (sr (mv U (z0w U (wi6 (by omega)) (mv U (asg U (asg U (asg U (nn (rt (tr (r3 results112 U U U ?_))))))))))));have O:z8k m.p o=0:=by unfold z8k;rw[J,if_neg (by simpa using c0),if_pos c1,if_neg c2]
 exact⟨_,rfl,by rw[O];rw[if_pos U,if_pos U,x8w,if_pos c1],(q1.z4 q2 q6 q7 q8)⟩;refine sk (tn (sq (sr (fad U z5s (z0g U I U na3 (mv U (lt' U (nn (cd U (λc3=>?_) (λc3=>?_))))))))));refine sr (asg U (asg U (asg U (nn (rt (tr (r3 results112 U U U ?_)))))));have O:z8k m.p o=12:=by unfold z8k;rw[J,if_neg (by simpa using c0),if_neg c1,if_pos c3]
 exact⟨_,rfl,by rw[O];rfl,(q1.z4 q2 q6 q7 q8)⟩;refine sk (tn (sr (mv U (z2u U (wi6 (by omega)) (mv U (asg U (asg U (asg U (nn (rt (r3 results112 U U U ?_)))))))))));have O:z8k m.p o=0:=by unfold z8k;rw[J,if_neg (by simpa using c0),if_neg c1,if_neg c3]
 exact⟨_,rfl,by rw[O];rw[if_pos U,if_pos U,x8w,if_neg c1],(q1.z4 q2 q6 q7 q8)⟩
theorem z3e:z1a prog 137 1 1:=λ_ _=>by kernel_rfl
set_option maxHeartbeats 2000000 in
theorem x4c (wS:World)(ka:MA)(m:MQ)(yy pl en:Int)(w0:World)(hM:MkM τd 137 wS ka w0 m)(hi:MInv m.p)(hy:1<=yy/\yy<=6):Rets prog 113 #[.pointer (some ⟨ka.gk,0,none⟩),.int .u8 yy,.int .i64 pl,.int .i64 en] w0 λr w'=>MRet τd 137 wS ka (y6k m.p yy pl en) r w':=by
 have g3:=hM.fr.size;have J:=hM.k;have f8:=J.lt;have g0:=hM.ly;have f9:=hM.lt;have f3:=(hM.y.out.blk ka.gy (by simp[z0v])).2;obtain⟨j,hj,g1⟩:∃j:Nat,j<6/\yy=(j:Int)+1:=⟨(yy-1).toNat,by omega,by omega⟩;have d9:(yy-1).toNat=j:=by omega
 have b8:m.p.y yy=(m.ys.getD j yq0).p:=by rw[j4u,d9]
 have f5:=v1g (z2q m.q.p m.rk) (m.ys.getD j yq0).pl en;have hN:=y5k hi.B;have f7:(z2q m.q.p m.rk).length<=320:=by unfold z2q;rw[z4e,y3g];exact hN
 refine we [(0,.pointer (some ⟨ka.gk,0,none⟩)),(1,.int .u8 yy),(2,.int .i64 pl),(3,.int .i64 en)] func113 U ntmps113 U (.c4 U U U U) ?_;have a7:=hM;refine sr (asg U (nn (sq ?_)));intro a h;refine z0i none (λwb w'=>Fr [] wb w') z2r ?_;intro w1 q1;have z1:=q1.size;replace hM:=hM.ext q1;replace J:=J.ext q1;have hC:Fr [] w1 w1:=Fr.refl _ _;have a2:=hM;have Z:=J;refine z0e 0 h U λa h=>z0o 1 h U λa h=>z0c 2 h U z3e U λa h=>z1d (vs:=[_,_]) 3 h U (λ_ hw=>(Z.ext hw)) z5q U U λa h=>z0e 4 h U λa h=>z0o 5 h U λa h=>z0c 6 h U z3r U λa h=>z0k 7 h U (λ_ hw=>Z.ext hw) U na3 U λa h=>z0d 8 U ?_;refine z0m h (z0a U (z0a U z0f)) (mkC func102) (v6x m.q m.rk _ hM.b.at hi.B hi.rk) ?_;rintro _ w2 ⟨⟨g9,rfl,f6,hL⟩,hq⟩ a h;have z2:=hq.size;replace hM:=hM.ext hq;replace J:=J.ext hq;replace hC:=hC.next hq;have q2:=hq;have f4:=(hL.blk g9 (by simp[z0v])).2;refine z0b ?_;refine z0e 9 h U λa h=>z0n 10 h U λa h=>z0n 11 h U λa h=>z0d 12 U ?_;refine z0s h U λa h=>?_;refine z0b ?_;refine z0d 13 U ?_;refine z0s h U λa h=>?_;refine z0b ?_;refine z0r ?_;clear hC a2 Z;refine bk (h.sub (L':=[(0,_),(1,_),(2,_),(3,_),(9,_),(10,_)]) (.c6 U U U U U U)) (tn (sq (sr (mv U (ne' U (nn (cd U (λc0=>?_) (λc0=>?_))))))));exact absurd U c0;refine sk (tn (sr (mv U (nlc U (fad U z3a (z0g U J U z9x (mv U (z2u U (wi8 (by omega)) (z0y (p:=j) (yq0) U hM.y.out.sl U z9u (by omega) (λf1 e2=>(z1k U (e2 _ hM.y.out.sl) z6d (al y1j U (λe0 w3 f2 D q3 z3=>?_)))))))))))));refine z0j (vs:=[_,_,_,_,_]) U D z6u (λw4 D q4 z4=>?_) (h1:=(by first|(simp[Value.oneCell',S];done)|exact z2j.one (m.ys.getD j yq0)));refine kpL [(0,_),(1,_),(2,_),(3,_),(9,_),(11,_)] (.c6 U U U U U U) (nn (sq ?_));replace hM:=a7.ext (q1.z3 q2 q3 q4);replace J:=(J.ext q3).fr q4;replace hL:=(hL.ext q3).fr q4 (by first|exact z8y hL (by omega)|simp[z0v]<;>omega);intro a h;refine z0i none (λwb w'=>Fr [] wb w') z2r ?_;intro w5 q5;have z5:=q5.size;replace hM:=hM.ext q5;replace J:=J.ext q5;replace hL:=hL.ext q5;replace D:=D.ext q5;have hC:Fr [] w5 w5:=Fr.refl _ _;have a2:=hM;have Z:=J;have d4:=hL;have O:=D;refine z0z 0 h U (λ_ hw=>O.ext hw) z6d U λa h=>z0e 1 h U λa h=>z0e 2 h U λa h=>z0c 3 h U z5s U λa h=>z0k 4 h U (λ_ hw=>O.ext hw) U na3 U λa h=>z0e 5 h U λa h=>z2d 6 11 (by kernel_rfl) U ?_ ?_;refine z0m h (z0a U (z0a U (z0a U z0f))) (mkC func149) (u4f _ (z2q m.q.p m.rk) (m.ys.getD j yq0).pl en _ hL.sl (by omega)) ?_;rintro _ w6 ⟨⟨e1,rfl,e3,hW⟩,q6⟩ a h;have z6:=q6.size;replace hM:=hM.ext q6;replace J:=J.ext q6;replace hL:=hL.ext q6;replace D:=D.ext q6;replace hC:=hC.next q6;have e8:=(hW.blk e1 (by simp[z0v])).2;refine z0b ?_;refine z2d 7 11 (by kernel_rfl) U ?_ ?_;refine z0m h (z0a U (z0a U (z0a U z0f))) (mkC func146) (x7c (m.ys.getD j yq0) pl _ (btw (z2q m.q.p m.rk) (m.ys.getD j yq0).pl en) _ (hM.y.ins j (by omega)).sl hW.sl (λk J=>(hW.blk k J).2) (by omega)) ?_;rintro _ w7 ⟨qn,rfl,b5,q7⟩ a h;have z7:=q7.size;replace J:=J.ext q7;replace D:=D.ext q7;replace hC:=hC.next q7;have M:OwnIf ((goE (m.ys.getD j yq0).p pl (btw (z2q m.q.p m.rk) (m.ys.getD j yq0).pl en))=0) z1s 100 _ _ (slv qn.pe) qn.pes:=λhc=>(b5 hc).2;have b3:=λhc k J=>((M hc).blk k J).2;refine z0b ?_;refine z0e 8 h U λa h=>z0n 9 h U λa h=>z0n 10 h U λa h=>z0d 11 U ?_;refine z1c h y1j U λw8 I q8 hz a h=>?_;obtain⟨a1,hg⟩:∃g,g=w7.heap.size:=⟨_,rfl⟩;rw[<-hg]at I h hz;have e4.gk_12:ka.gk<a1:=by have:=J.lt;omega
 have b6:e0<a1:=by have:=D.lt;omega
 have z8:=q8.size;replace hM:=hM.ext (q7.n1 q8);replace J:=J.ext q8;replace hL:=hL.ext (q7.n1 q8);replace D:=D.ext q8;replace hW:=hW.ext (q7.n1 q8);replace M:=M.ext q8;replace hC:=hC.next q8;refine z0b ?_;refine z0d 12 U ?_;refine z0u h U I U z6u ?_ (h1:=(by first|(simp[Value.oneCell',S];done)|exact z2j.one (m.ys.getD j yq0)));clear h a;intro w9 b4 q9 hz a h;have z9:=q9.size;replace J:=J.fr q9;replace hL:=hL.fr q9 (by simp[z0v]<;>omega);replace D:=D.fr q9;replace hW:=hW.fr q9 (by simp[z0v]<;>omega);replace M:=M.fr q9 (by intro a4 k J a3;simp at J;subst J;have d1:=b3 a4 _ a3;have d3:=(M a4).blk _ a3;omega);replace hC:=hC.sp q9;clear I hz;have I:Blk w9 a1 _ [_,_,_,_,_]:=b4;clear b4;refine z0b ?_;refine z0d 13 U ?_;refine z0s h U λa h=>?_;refine z0b ?_;refine z0r ?_;clear hC a2 Z d4 O;refine bk (h.sub (L':=[(0,_),(1,_),(10,_),(12,_)]) (.c4 U U U U)) (tn (sq (sr (mv U (eq' U (nn (cd U (λc1=>?_) (λc1=>?_))))))));replace hM:=a7.ext (((q1.z6 q2 q3 q4 q5 q6 q7).n1 q8).z1 q9);intro a h;refine z0i (some 8) (λwb w'=>Fr [] wb w') z2r ?_;intro e5 b9;have h4:=b9.size;replace hM:=hM.ext b9;replace J:=J.ext b9;replace D:=D.ext b9;replace M:=M.ext b9;replace I:=I.ext b9;have hC:Fr [] e5 e5:=Fr.refl _ _;have a2:=hM;have Z:=J;have O:=D;have a6:=M;have a0:=I;refine z0e 0 h U λa h=>z0o 1 h U λa h=>z0c 2 h U z3a U λa h=>z0k 3 h U (λ_ hw=>Z.ext hw) U z9x U λa h=>z0e 4 h U λa h=>z3b 5 h wn U (by first|exact IntWalk.u8_in _ (by omega)|rfl) U λa h=>z0z 6 h U (λ_ hw=>a0.ext hw) z6d U λa h=>z1m 7 (by kernel_rfl) (by kernel_rfl) (by kernel_rfl) hC (p:=j) h wn U z9u (by omega) (by omega) (by omega) U U λa h=>z0d 8 U ?_;refine z1b (i:=j) (qn:YQ) h U hM.y.out (by rw[hM.ly];exact hj) U z6u λg4 a5 d5 _hz a h=>?_;replace hM:=hM.yarn mtd hj a5 d5 ((M c1).low (by omega));have a7:=hM;clear a5;have h5:=d5.size;replace D:=D.fr d5;replace M:=M.fr d5 (by intro a4 k J a3;simp at J;subst J;have d1:=b3 a4 _ a3;have d3:=(M a4).blk _ a3;omega);replace I:=I.fr d5;have J:=hM.k;clear _hz;refine z1p ?_;refine z0r ?_;clear hC a2 Z O a6 a0;refine bk (h.sub (L':=[(10,_)]) (.cons U .nil)) (tn (sr (mv U (asg U (nn (rt (r1 results113 U ?_)))))));exact⟨_,rfl,by rw[c1];exact MRet.ok (by unfold y6k v1m;rw[b8,if_neg (λe=>e c1)];exact congrArg Except.ok (by rw[y0c m qn d9,(b5 c1).1])) hM⟩;refine sk (tn (sr (mv U (asg U (kpL [(8,_)] (.cons U .nil) (nn (rt (r1 results113 U ?_))))))));replace hM:=a7.ext (((q1.z6 q2 q3 q4 q5 q6 q7).n1 q8).z1 q9);exact⟨_,rfl,MRet.err (by unfold y6k v1m;rw[b8,if_pos c1]) c1 hM.fr⟩;refine z1c h y1j U λg5 I b0 hz a h=>?_;obtain⟨a1,hg⟩:∃g,g=w6.heap.size:=⟨_,rfl⟩;rw[<-hg]at I h hz;have e4.gk_12:ka.gk<a1:=by have:=J.lt;omega
 have b6:e0<a1:=by have:=D.lt;omega
 have h6:=b0.size;replace hM:=hM.ext b0;replace J:=J.ext b0;replace hW:=hW.ext b0;replace hC:=hC.next b0;refine z0b ?_;refine z0d 7 U ?_;refine z0m h (z0a U (z0a U (z0a U z0f))) (mkC func146) (x7c (m.ys.getD j yq0) pl _ (btw (z2q m.q.p m.rk) (m.ys.getD j yq0).pl en) _ (hM.y.ins j (by omega)).sl hW.sl (λk J=>(hW.blk k J).2) (by omega)) ?_;rintro _ g6 ⟨qn,rfl,b5,a8⟩ a h;have h7:=a8.size;replace hM:=hM.ext a8;replace J:=J.ext a8;replace hL:=hL.ext (b0.n1 a8);replace D:=D.ext (b0.n1 a8);replace hW:=hW.ext a8;replace I:=I.ext a8;replace hC:=hC.next a8;have M:OwnIf ((goE (m.ys.getD j yq0).p pl (btw (z2q m.q.p m.rk) (m.ys.getD j yq0).pl en))=0) z1s 100 _ _ (slv qn.pe) qn.pes:=λhc=>(b5 hc).2;have b3:=λhc k J=>((M hc).blk k J).2;refine z0b ?_;refine z0e 8 h U λa h=>z0n 9 h U λa h=>z0n 10 h U λa h=>z0d 12 U ?_;refine z0u h U I U z6u ?_ (h1:=(by first|(simp[Value.oneCell',S];done)|exact z2j.one (m.ys.getD j yq0)));clear h a;intro e9 b4 b1 hz a h;have h8:=b1.size;replace J:=J.fr b1;replace hL:=hL.fr b1 (by simp[z0v]<;>omega);replace D:=D.fr b1;replace hW:=hW.fr b1 (by simp[z0v]<;>omega);replace M:=M.fr b1 (by intro a4 k J a3;simp at J;subst J;have d1:=b3 a4 _ a3;have d3:=(M a4).blk _ a3;omega);replace hC:=hC.sp b1;clear I hz;have I:Blk e9 a1 _ [_,_,_,_,_]:=b4;clear b4;refine z0b ?_;refine z0d 13 U ?_;refine z0s h U λa h=>?_;refine z0b ?_;refine z0r ?_;clear hC a2 Z d4 O;refine bk (h.sub (L':=[(0,_),(1,_),(10,_),(12,_)]) (.c4 U U U U)) (tn (sq (sr (mv U (eq' U (nn (cd U (λc1=>?_) (λc1=>?_))))))));replace hM:=a7.ext (((q1.z6 q2 q3 q4 q5 q6 b0).n1 a8).z1 b1);intro a h;refine z0i (some 8) (λwb w'=>Fr [] wb w') z2r ?_;intro e6 c9;have h9:=c9.size;replace hM:=hM.ext c9;replace J:=J.ext c9;replace D:=D.ext c9;replace I:=I.ext c9;replace M:=M.ext c9;have hC:Fr [] e6 e6:=Fr.refl _ _;have a2:=hM;have Z:=J;have O:=D;have a0:=I;have a6:=M;refine z0e 0 h U λa h=>z0o 1 h U λa h=>z0c 2 h U z3a U λa h=>z0k 3 h U (λ_ hw=>Z.ext hw) U z9x U λa h=>z0e 4 h U λa h=>z3b 5 h wn U (by first|exact IntWalk.u8_in _ (by omega)|rfl) U λa h=>z0z 6 h U (λ_ hw=>a0.ext hw) z6d U λa h=>z1m 7 (by kernel_rfl) (by kernel_rfl) (by kernel_rfl) hC (p:=j) h wn U z9u (by omega) (by omega) (by omega) U U λa h=>z0d 8 U ?_;refine z1b (i:=j) (qn:YQ) h U hM.y.out (by rw[hM.ly];exact hj) U z6u λg7 a5 d6 _hz a h=>?_;replace hM:=hM.yarn mtd hj a5 d6 ((M c1).low (by omega));have a7:=hM;clear a5;have i0:=d6.size;replace D:=D.fr d6;replace I:=I.fr d6;replace M:=M.fr d6 (by intro a4 k J a3;simp at J;subst J;have d1:=b3 a4 _ a3;have d3:=(M a4).blk _ a3;omega);have J:=hM.k;clear _hz;refine z1p ?_;refine z0r ?_;clear hC a2 Z O a0 a6;refine bk (h.sub (L':=[(10,_)]) (.cons U .nil)) (tn (sr (mv U (asg U (nn (rt (r1 results113 U ?_)))))));exact⟨_,rfl,by rw[c1];exact MRet.ok (by unfold y6k v1m;rw[b8,if_neg (λe=>e c1)];exact congrArg Except.ok (by rw[y0c m qn d9,(b5 c1).1])) hM⟩;refine sk (tn (sr (mv U (asg U (kpL [(8,_)] (.cons U .nil) (nn (rt (r1 results113 U ?_))))))));replace hM:=a7.ext (((q1.z6 q2 q3 q4 q5 q6 b0).n1 a8).z1 b1);exact⟨_,rfl,MRet.err (by unfold y6k v1m;rw[b8,if_pos c1]) c1 hM.fr⟩;refine z1c h y1j U λg8 I b7 hz a h=>?_;obtain⟨a1,hg⟩:∃g,g=w5.heap.size:=⟨_,rfl⟩;rw[<-hg]at I h hz;have e4.gk_12:ka.gk<a1:=by have:=J.lt;omega
 have b6:e0<a1:=by have:=D.lt;omega
 have i1:=b7.size;replace hL:=hL.ext b7;replace hC:=hC.next b7;refine z0b ?_;refine z0d 6 U ?_;refine z0m h (z0a U (z0a U (z0a U z0f))) (mkC func149) (u4f _ (z2q m.q.p m.rk) (m.ys.getD j yq0).pl en _ hL.sl (by omega)) ?_;rintro _ h0 ⟨⟨e1,rfl,e3,hW⟩,q18⟩ a h;have i2:=q18.size;replace hM:=hM.ext (b7.n1 q18);replace J:=J.ext (b7.n1 q18);replace hC:=hC.next q18;have e8:=(hW.blk e1 (by simp[z0v])).2;refine z0b ?_;refine z0d 7 U ?_;refine z0m h (z0a U (z0a U (z0a U z0f))) (mkC func146) (x7c (m.ys.getD j yq0) pl _ (btw (z2q m.q.p m.rk) (m.ys.getD j yq0).pl en) _ (hM.y.ins j (by omega)).sl hW.sl (λk J=>(hW.blk k J).2) (by omega)) ?_;rintro _ h2 ⟨qn,rfl,b5,a9⟩ a h;have i3:=a9.size;replace hM:=hM.ext a9;replace J:=J.ext a9;replace hL:=hL.ext (q18.n1 a9);replace D:=D.ext (b7.n2 q18 a9);replace I:=I.ext (q18.n1 a9);replace hW:=hW.ext a9;replace hC:=hC.next a9;have M:OwnIf ((goE (m.ys.getD j yq0).p pl (btw (z2q m.q.p m.rk) (m.ys.getD j yq0).pl en))=0) z1s 100 _ _ (slv qn.pe) qn.pes:=λhc=>(b5 hc).2;have b3:=λhc k J=>((M hc).blk k J).2;refine z0b ?_;refine z0e 8 h U λa h=>z0n 9 h U λa h=>z0n 10 h U λa h=>z0d 12 U ?_;refine z0u h U I U z6u ?_ (h1:=(by first|(simp[Value.oneCell',S];done)|exact z2j.one (m.ys.getD j yq0)));clear h a;intro f0 b4 b2 hz a h;have i4:=b2.size;replace J:=J.fr b2;replace hL:=hL.fr b2 (by simp[z0v]<;>omega);replace D:=D.fr b2;replace hW:=hW.fr b2 (by simp[z0v]<;>omega);replace M:=M.fr b2 (by intro a4 k J a3;simp at J;subst J;have d1:=b3 a4 _ a3;have d3:=(M a4).blk _ a3;omega);replace hC:=hC.sp b2;clear I hz;have I:Blk f0 a1 _ [_,_,_,_,_]:=b4;clear b4;refine z0b ?_;refine z0d 13 U ?_;refine z0s h U λa h=>?_;refine z0b ?_;refine z0r ?_;clear hC a2 Z d4 O;refine bk (h.sub (L':=[(0,_),(1,_),(10,_),(12,_)]) (.c4 U U U U)) (tn (sq (sr (mv U (eq' U (nn (cd U (λc1=>?_) (λc1=>?_))))))));replace hM:=a7.ext (((q1.z6 q2 q3 q4 q5 b7 q18).n1 a9).z1 b2);intro a h;refine z0i (some 8) (λwb w'=>Fr [] wb w') z2r ?_;intro e7 d0;have i5:=d0.size;replace hM:=hM.ext d0;replace J:=J.ext d0;replace D:=D.ext d0;replace I:=I.ext d0;replace M:=M.ext d0;have hC:Fr [] e7 e7:=Fr.refl _ _;have a2:=hM;have Z:=J;have O:=D;have a0:=I;have a6:=M;refine z0e 0 h U λa h=>z0o 1 h U λa h=>z0c 2 h U z3a U λa h=>z0k 3 h U (λ_ hw=>Z.ext hw) U z9x U λa h=>z0e 4 h U λa h=>z3b 5 h wn U (by first|exact IntWalk.u8_in _ (by omega)|rfl) U λa h=>z0z 6 h U (λ_ hw=>a0.ext hw) z6d U λa h=>z1m 7 (by kernel_rfl) (by kernel_rfl) (by kernel_rfl) hC (p:=j) h wn U z9u (by omega) (by omega) (by omega) U U λa h=>z0d 8 U ?_;refine z1b (i:=j) (qn:YQ) h U hM.y.out (by rw[hM.ly];exact hj) U z6u λh3 a5 d7 _hz a h=>?_;replace hM:=hM.yarn mtd hj a5 d7 ((M c1).low (by omega));have a7:=hM;clear a5;have i7:=d7.size;replace D:=D.fr d7;replace I:=I.fr d7;replace M:=M.fr d7 (by intro a4 k J a3;simp at J;subst J;have d1:=b3 a4 _ a3;have d3:=(M a4).blk _ a3;omega);have J:=hM.k;clear _hz;refine z1p ?_;refine z0r ?_;clear hC a2 Z O a0 a6;refine bk (h.sub (L':=[(10,_)]) (.cons U .nil)) (tn (sr (mv U (asg U (nn (rt (r1 results113 U ?_)))))));exact⟨_,rfl,by rw[c1];exact MRet.ok (by unfold y6k v1m;rw[b8,if_neg (λe=>e c1)];exact congrArg Except.ok (by rw[y0c m qn d9,(b5 c1).1])) hM⟩;refine sk (tn (sr (mv U (asg U (kpL [(8,_)] (.cons U .nil) (nn (rt (r1 results113 U ?_))))))));replace hM:=a7.ext (((q1.z6 q2 q3 q4 q5 b7 q18).n1 a9).z1 b2);exact⟨_,rfl,MRet.err (by unfold y6k v1m;rw[b8,if_pos c1]) c1 hM.fr⟩
theorem u5f (wS:World)(J:MA)(m:MQ)(o:MOp)(w0:World)(hM:MkM τd 137 wS J w0 m)(hi:MInv m.p)(hy:1<=o.y/\o.y<=6)(hn:z4v o.b o.p=0):Rets prog 69 #[.pointer (some ⟨J.gk,0,none⟩),opV o] w0 λr w'=>MRet τd 137 wS J (y6n m.p o) r w':=by
 refine we [(0,.pointer (some ⟨J.gk,0,none⟩)),(1,opV o)] func69 U ntmps69 U (.c2 U U) ?_;have I:=hM;refine sr (bx U (λg3 w1 a0 D Z z1=>(asg U (nn (sr (mv U (z0l U D y6b ?_)))))));replace hM:=I.ext Z;refine cl (ev2 U) (mkC func112) (x5e wS J m o _ hM hi hy hn) U ?_;rintro _ w2 ⟨rfl,q2⟩;refine mv U (xt U (xt U (xt U (asg U (asg U (asg U (kpL [(0,_),(3,_),(5,_),(7,_)] (.c4 U U U U) (nn (sq (sr (mv U (ne' U (nn (cd U (λM=>?_) (λM=>?_)))))))))))))));refine sr (mv U (asg U (kpL [(4,_)] (.cons U .nil) (nn (rt (tr (r1 results69 U ?_)))))));replace hM:=I.ext (Z.n1 q2);exact⟨_,rfl,MRet.err (by unfold y6n;rw[if_pos M]) M hM.fr⟩;refine sk (tn (sr (mv U (fad U z3g ?_))));replace D:=D.ext q2;refine z0g U D U na5 (mv U (mv U ?_));replace hM:=I.ext (Z.n1 q2);refine cl (z0a U (z0a U (z0a U (z0a U z0f)))) (mkC func113) (x4c wS J m o.y (if z8k m.p o=0 then x8w m.p o else 0) (if z8k m.p o=0 then x8w m.p o else 0) _ hM hi hy) U ?_;rintro a1 w3 hR;refine asg U (kpL [(4,_)] (.cons U .nil) (nn (rt (r1 results69 U ?_))));have O:z8k m.p o=0:=Classical.not_not.1 M;rw[if_pos O]at hR;exact⟨_,rfl,by rw[show y6n m.p o=_ from if_neg M];exact hR⟩
theorem v4t:CallOf prog 118:=mkC func118
theorem y2f:z1a prog 137 5 6:=λ_ _=>by kernel_rfl
set_option maxHeartbeats 1000000 in
theorem u9m (wS:World)(ka:MA)(m:MQ)(o:MOp)(w0:World)(hM:MkM τd 137 wS ka w0 m)(hi:MInv m.p)(hn:z4v o.b o.p=0):Rets prog 71 #[.pointer (some ⟨ka.gk,0,none⟩),opV o] w0 λr w'=>MRet τd 137 wS ka (y5x m.p o) r w':=by
 have f5:=hM.fr.size;have D:=hM.k;have f1:=D.lt;have f3:=hM.ly;have f2:=hM.lt;have e5:=(hM.y.out.blk ka.gy (by simp[z0v])).2;have f4:=z3m hn;obtain⟨n,b5⟩:∃n:Nat,o.p=(n:Int):=⟨o.p.toNat,by omega⟩;obtain⟨⟨hf,hb⟩,h4,d7⟩:=z3x hi.B;have hfl:m.q.p.flat.length+m.fl.length<=z3t (z1w m.ts):=hi.cnt;have e9:z3t (z1w m.ts)<=2048:=hi.all;have hv:BdOk m.q.p:=hi.B;have e8:=y5a hv o.b o.p;refine we [(0,.pointer (some ⟨ka.gk,0,none⟩)),(1,opV o)] func71 U ntmps71 U (.c2 U U) ?_;have a4:=hM;refine sr (bx U (λg3 w1 f0 J q1 z1=>(asg U (nn (sq ?_)))));replace hM:=a4.ext q1;intro a h;refine z0i none (λwb w'=>Fr [] wb w') z2r ?_;intro w2 q2;have z2:=q2.size;replace hM:=hM.ext q2;replace D:=D.ext (q1.n1 q2);replace J:=J.ext q2;have hC:Fr [] w2 w2:=Fr.refl _ _;have a8:=hM;have a0:=D;have O:=J;refine z0e 0 h U λa h=>z0o 1 h U λa h=>z0c 2 h U z3e U λa h=>z1d (vs:=[_,_]) 3 h U (λ_ hw=>(a0.ext hw)) z5q U U λa h=>z0c 4 h U z4j U λa h=>z1d (vs:=[_,_]) 5 h U (λ_ hw=>(O.ext hw)) z5z U U λa h=>z0d 6 U ?_;refine z0m h (z0a U (z0a U z0f)) u2x (x2i m.q o.b o.p _ hM.b.at (by omega) hf hb h4 d7) ?_;rintro f6 w3 ⟨I,hq⟩ a h;have z3:=hq.size;replace hM:=hM.ext hq;replace D:=D.ext hq;replace J:=J.ext hq;replace hC:=hC.next hq;have q3:=hq;rw[y7g hn]at I;obtain⟨e6,e7,rfl,e4⟩:=I.sl.form;have b4:=λk hb=>(I.blk k hb).2;refine z0b ?_;refine z0d 7 U ?_;refine z0s h U λa h=>?_;refine z0b ?_;refine z0r ?_;clear hC a8 a0 O;refine bk (h.sub (L':=[(0,_),(3,_),(5,_)]) (.c3 U U U)) (tn (sq (sr (mv U (lnS U underlying37 (eq' U (nn (cd U (λc0=>?_) (λc0=>?_)))))))));refine sr (asg U (nn (rt (tr (r1 results71 U ?_)))));exact⟨_,rfl,MRet.err (if_pos (List.length_eq_zero_iff.1 (show (m.q.p.at o.b o.p).length=0 by omega))) (by decide) hM.fr⟩;refine sk (tn (sq ?_));intro a h;refine z0i none (λwb w'=>Fr [] wb w') z2r ?_;intro w4 q4;have z4:=q4.size;replace hM:=hM.ext q4;replace D:=D.ext q4;replace J:=J.ext q4;replace I:=I.ext q4;have hC:Fr [] w4 w4:=Fr.refl _ _;have a8:=hM;have a0:=D;have O:=J;have b2:=I;refine z0e 0 h U λa h=>z0o 1 h U λa h=>z0c 2 h U z3e U λa h=>z1d (vs:=[_,_]) 3 h U (λ_ hw=>(a0.ext hw)) z5q U U λa h=>z0c 4 h U z4j U λa h=>z1d (vs:=[_,_]) 5 h U (λ_ hw=>(O.ext hw)) z5z U U λa h=>z2d 6 10 (by kernel_rfl) U ?_ ?_;refine z0m h (z0a U (z0a U (z0a U z0f))) v4t (by have x:=x0q m.q o.b n (.slice none 0 0) [] _ hM.b.at (Sl.nil _) hv (by rw[<-b5];exact hn) (by simp) (by simp) (λi=>by have:=List.nodup_iff_count.1 hv.nd i;simp only[List.count_nil];omega);rw[<-b5]at x;exact x) ?_;rintro _ w5 ⟨⟨q',rfl,hQ,d1⟩,q5⟩ a h;have z5:=q5.size;replace D:=D.ext q5;replace J:=J.ext q5;replace hC:=hC.next q5;have b9:=x1l hQ a4.f (by omega);refine z0b ?_;refine z0e 7 h U λa h=>z0n 8 h U λa h=>z0n 9 h U λa h=>z0d 10 U ?_;refine z1c h x9t U λw6 M q6 hz a h=>?_;obtain⟨a3,hg⟩:∃g,g=w5.heap.size:=⟨_,rfl⟩;rw[<-hg]at M h hz;have d9.gk_6:ka.gk<a3:=by have:=D.lt;omega
 have d0:g3<a3:=by have:=J.lt;omega
 have z6:=q6.size;replace hM:=hM.ext (q5.n1 q6);replace D:=D.ext q6;replace J:=J.ext q6;replace I:=I.ext (q5.n1 q6);first|replace hQ:=BdO.ext hQ q6|replace hQ:=BdO.tf hQ q6 (OffT.one M (by decide)) (OffT.one M (by decide))
 replace hC:=hC.next q6;refine z0b ?_;refine z0d 11 U ?_;refine z0u h U M U x1f λw7 b1 q7 hz a h=>?_;have z7:=q7.size;replace D:=D.fr q7;replace J:=J.fr q7;replace I:=I.fr q7 (by intro k D Z;simp at D;subst D;have:=b4 _ Z;have b6:=(I.blk _ Z).1;omega);first|replace hQ:=BdO.ext hQ q7|replace hQ:=BdO.tf hQ q7 (OffT.one M (by decide)) (OffT.one M (by decide))
 replace hC:=hC.sp q7;clear M hz;have M:Blk w7 a3 _ [_,_]:=b1;clear b1;refine z0b ?_;refine z0d 12 U ?_;refine z0s h U λa h=>?_;refine z0b ?_;refine z0r ?_;clear hC a8 a0 O b2;refine bk (h.sub (L':=[(0,_),(5,_),(6,_),(7,_)]) (.c4 U U U U)) (tn (sq (sr (mv U (ne' U (nn (cd U (λc1=>?_) (λc1=>?_))))))));exact absurd U c1;refine sk (tn (sr (mv U (z0l U M z5q (nlc U (fad U z3e ?_))))));replace hM:=a4.ext (q1.z6 q2 q3 q4 q5 q6 q7);refine z4b (cs':=u3x ka { m with q:=q' }) U U hM.k (by intro u hu;simp at hu;rcases hu with rfl|rfl<;>rfl) x1f U (λw8 a1 q8 z8=>?_);replace hM:=hM.beds mtd (hQ.low (by omega)) a1 q8 b9;have D:=hM.k;have a4:=hM;have b8:=hM;have hF:Lw.Own z1h 87 wS.heap.size _ (slv m.fa) m.fl:=hM.f;clear a1;refine kpL [(0,_),(5,_)] (.c2 U U) (nn (sr (mv U (mv U (nlc U (fad U y2f (z0g U D U z4x (mv U ?_))))))));replace I:=I.fr q8 (by intro k D Z;simp at D;subst D;have:=b4 _ Z;have b6:=(I.blk _ Z).1;omega);have a5:=hF;refine z2g U hF I.sl z5d (by unfold maxLen;omega) (by omega) (λe2 w9 hF q9 a6=>?_);have d4:=q9;obtain⟨a9,b0,rfl,d5⟩:=hF.sl.form;have b3:∀k∈z0v (.slice a9 (m.fl++(m.q.p.at o.b o.p)).length b0),k∈z0v (slv m.fa)\/_<=k:=λk D=>by
  rcases a6 with e|e|e
  exact .inl (congrArg z0v e▸D);exact .inl (e▸D);rw[e,List.mem_singleton]at D;exact .inr (Nat.le_of_eq D.symm)
 have z9:=q9.size;replace D:=D.fr q9 (λc9=>a5.neB D (by decide) c9);refine nlc U (fad U y2f (z2x U D U u8w (λf7 a1 e0 g5=>?_)));have b7:=b8.fall mtd (by decide) (u:=(a9,(m.fl++(m.q.p.at o.b o.p)).length,b0)) hF d4 b3 a1 e0;refine kpL [] .nil (nn (sr (asg U (nn (rt (r1 results71 U ?_))))));exact⟨_,rfl,MRet.ok (by rw[show y5x m.p o=_ from if_neg (λe=>c0 (by rw[show (m.q.p.at o.b o.p)=[] from e];rfl))];exact congrArg Except.ok (by unfold MQ.p;simp only[d1])) b7⟩;refine z1c h x9t U λf8 M a7 hz a h=>?_;obtain⟨a3,hg⟩:∃g,g=w4.heap.size:=⟨_,rfl⟩;rw[<-hg]at M h hz;have d9.gk_6:ka.gk<a3:=by have:=D.lt;omega
 have d0:g3<a3:=by have:=J.lt;omega
 have g6:=a7.size;replace hM:=hM.ext a7;replace hC:=hC.next a7;refine z0b ?_;refine z0d 6 U ?_;refine z0m h (z0a U (z0a U (z0a U z0f))) v4t (by have x:=x0q m.q o.b n (.slice none 0 0) [] _ hM.b.at (Sl.nil _) hv (by rw[<-b5];exact hn) (by simp) (by simp) (λi=>by have:=List.nodup_iff_count.1 hv.nd i;simp only[List.count_nil];omega);rw[<-b5]at x;exact x) ?_;rintro _ f9 ⟨⟨q',rfl,hQ,d1⟩,q12⟩ a h;have g7:=q12.size;replace hM:=hM.ext q12;replace D:=D.ext (a7.n1 q12);replace J:=J.ext (a7.n1 q12);replace I:=I.ext (a7.n1 q12);replace M:=M.ext q12;replace hC:=hC.next q12;have b9:=x1l hQ a4.f (by omega);refine z0b ?_;refine z0e 7 h U λa h=>z0n 8 h U λa h=>z0n 9 h U λa h=>z0d 11 U ?_;refine z0u h U M U x1f λe3 b1 a2 hz a h=>?_;have g8:=a2.size;replace D:=D.fr a2;replace J:=J.fr a2;replace I:=I.fr a2 (by intro k D Z;simp at D;subst D;have:=b4 _ Z;have b6:=(I.blk _ Z).1;omega);first|replace hQ:=BdO.ext hQ a2|replace hQ:=BdO.tf hQ a2 (OffT.one M (by decide)) (OffT.one M (by decide))
 replace hC:=hC.sp a2;clear M hz;have M:Blk e3 a3 _ [_,_]:=b1;clear b1;refine z0b ?_;refine z0d 12 U ?_;refine z0s h U λa h=>?_;refine z0b ?_;refine z0r ?_;clear hC a8 a0 O b2;refine bk (h.sub (L':=[(0,_),(5,_),(6,_),(7,_)]) (.c4 U U U U)) (tn (sq (sr (mv U (ne' U (nn (cd U (λc1=>?_) (λc1=>?_))))))));exact absurd U c1;refine sk (tn (sr (mv U (z0l U M z5q (nlc U (fad U z3e ?_))))));replace hM:=a4.ext (q1.z6 q2 q3 q4 a7 q12 a2);refine z4b (cs':=u3x ka { m with q:=q' }) U U hM.k (by intro u hu;simp at hu;rcases hu with rfl|rfl<;>rfl) x1f U (λg0 a1 d6 g9=>?_);replace hM:=hM.beds mtd (hQ.low (by omega)) a1 d6 b9;have D:=hM.k;have a4:=hM;have b8:=hM;have hF:Lw.Own z1h 87 wS.heap.size _ (slv m.fa) m.fl:=hM.f;clear a1;refine kpL [(0,_),(5,_)] (.c2 U U) (nn (sr (mv U (mv U (nlc U (fad U y2f (z0g U D U z4x (mv U ?_))))))));replace I:=I.fr d6 (by intro k D Z;simp at D;subst D;have:=b4 _ Z;have b6:=(I.blk _ Z).1;omega);have a5:=hF;refine z2g U hF I.sl z5d (by unfold maxLen;omega) (by omega) (λe2 g1 hF d3 a6=>?_);have d4:=d3;obtain⟨a9,b0,rfl,d5⟩:=hF.sl.form;have b3:∀k∈z0v (.slice a9 (m.fl++(m.q.p.at o.b o.p)).length b0),k∈z0v (slv m.fa)\/_<=k:=λk D=>by
  rcases a6 with e|e|e
  exact .inl (congrArg z0v e▸D);exact .inl (e▸D);rw[e,List.mem_singleton]at D;exact .inr (Nat.le_of_eq D.symm)
 have h0:=d3.size;replace D:=D.fr d3 (λc9=>a5.neB D (by decide) c9);refine nlc U (fad U y2f (z2x U D U u8w (λg4 a1 e1 h1=>?_)));have b7:=b8.fall mtd (by decide) (u:=(a9,(m.fl++(m.q.p.at o.b o.p)).length,b0)) hF d4 b3 a1 e1;refine kpL [] .nil (nn (sr (asg U (nn (rt (r1 results71 U ?_))))));exact⟨_,rfl,MRet.ok (by rw[show y5x m.p o=_ from if_neg (λe=>c0 (by rw[show (m.q.p.at o.b o.p)=[] from e];rfl))];exact congrArg Except.ok (by unfold MQ.p;simp only[d1])) b7⟩
theorem v3f (b p r:Int)(w0:World)(hn:z4v b p=0)(hr:-4<=r/\r<=4):Rets prog 115 #[.agg #[.int .u8 b,.int .i64 p],.int .i64 r] w0 λv w'=>(∃b' p':Int,v=.tuple #[.agg #[.int .u8 b',.int .i64 p'],.int .i64 (if z4v (1-b) (z8l b p r)≠0 then 11 else 0)]/\(z4v (1-b) (z8l b p r)=0->b'=1-b/\p'=z8l b p r))/\Fr [] w0 w':=by
 have a3:=z3m hn;refine we [(0,.agg #[.int .u8 b,.int .i64 p]),(1,.int .i64 r)] func115 U ntmps115 U (.c2 U U) (sr (bx U (λg2 w1 a4 J q1 z1=>(al v9b U (λg4 w2 a5 D q2 z2=>(asg U (nn (sq (sr ?_)))))))));replace J:=J.ext q2;refine z0l U J z5z (cl (ev1 U) u1h (z4r _ _ _) U ?_);rintro _ w3 ⟨rfl,Z⟩;have z3:=Z.size;refine ne' U (nn (cd U (λc0=>?_) (λc0=>?_)));refine sr (z1t (cs:=[_,_]) z0f x0l z0q U ?_);replace D:=D.ext Z;refine z0j (vs:=[_,_]) U D y6g (λw4 D q4 z4=>(asg U (nn (rt (tr (rCT results115 U D z5z U ?_))))));exact absurd hn c0;refine sk (tn (sq (sr (mv U (cl (ev1 U) (mkC func152) (x2w _ _) U ?_)))));rintro _ w5 ⟨rfl,q5⟩;have z5:=q5.size;refine nt' U (nn (cd U (λc1=>?_) (λc1=>?_)));refine sr (z1t (cs:=[_,_]) z0f x0l z0q U ?_);replace D:=D.ext (Z.n1 q5);refine z0j (vs:=[_,_]) U D y6g (λw6 D q6 z6=>(asg U (nn (rt (tr (rCT results115 U D z5z U ?_))))));exact absurd hr c1;refine sk (tn (sr (fad U z6t ?_)));replace J:=J.ext (Z.n1 q5);refine z0g U J U na3 (mv U (z2u U (wi6 (by omega)) (z1t (cs:=[_,_]) (ev2 U) x0l (z0h U (z0h U z0q)) U ?_)));refine al v9b U (λg6 w7 a6 I q7 z7=>(z0j (vs:=[_,_]) U I y6g (λw8 I q8 z8=>(kpL [(1,_),(2,_),(4,_),(6,_)] (.c4 U U U U) (nn ?_)))));refine jn (ι:=Unit) [(4,_),(6,_)] (λ_j=>[]) (λ_j w'=>Fr [g6] w8 w'/\Blk w' g6 24 [.int .u8 (1-b),.int .i64 (z8l b p r)]) (.c2 U U) ?_ ?_;refine sr (fad U z6q ?_);replace J:=(J.ext q7).fr q8;refine z0g U J U x1a (eq' U (nn (cd U (λc2=>?_) (λc2=>?_))));refine rg (fad U z6t (z0g U J U na3 (mv U (z0w U (wi6 (by omega)) (z1t (cs:=[_,_]) (ev2 U) x0l (z0h U (z0h U z0q)) U ?_)))));refine z0j (vs:=[_,_]) U I y6g (λw9 I q9 z9=>(kpL [(4,_),(6,_)] (.c2 U U) (nl ?_)));exact jE (()) (.c2 U U) ⟨((Fr.refl [g6] _).z1 q9),(by rw[show z8l b p r=p+r from if_pos c2,show 1-b=0 by omega];exact I)⟩;refine sk ?_;exact jE (()) (.c2 U U) ⟨(Fr.refl _ _),(by rw[show z8l b p r=p-r from if_neg c2,show 1-b=1 by omega];exact I)⟩;rintro _j a7 ⟨O,I⟩;have b1:=O.size;have a0:=I.lt;refine kpC [(4,_),(6,_)] (.c2 U U) (sq (sr (z0l U I z5z (cl (ev1 U) u1h (z4r _ _ _) U ?_))));rintro _ a8 ⟨rfl,M⟩;have b2:=M.size;refine ne' U (nn (cd U (λc3=>?_) (λc3=>?_)));refine sr (z1t (cs:=[_,_]) z0f x0l z0q U ?_);replace D:=(((D.ext (Z.n2 q5 q7)).fr q8).fr O).ext M;refine z0j (vs:=[_,_]) U D y6g (λa9 D a1 b3=>(asg U (nn (rt (tr (rCT results115 U D z5z U ?_))))));exact⟨_,rfl,⟨0,0,by rw[if_pos c3],λe=>absurd e c3⟩,(((q1.z6 q2 Z q5 q7 q8 O).n1 M).z1 a1)⟩;refine sk (tn (sr ?_));replace I:=I.ext M;refine z0l U I z5z ?_;replace D:=(((D.ext (Z.n2 q5 q7)).fr q8).fr O).ext M;refine z0j (vs:=[_,_]) U D y6g (λb0 D a2 b4=>(asg U (nn (rt (rCT results115 U D z5z U ?_)))));exact⟨_,rfl,⟨_,_,by rw[if_neg c3],λ_=>⟨rfl,rfl⟩⟩,(((q1.z6 q2 Z q5 q7 q8 O).n1 M).z1 a2)⟩
def BdOIf (c:Prop)(Sτ I base:Nat)(w:World)(q:BdQ):Prop:=c->BdO Sτ I base w q
theorem BdOIf.ext {c:Prop}{D I base:Nat}{w w':World}{q:BdQ}(h:BdOIf c D I base w q)(hf:Fr [] w w'):BdOIf c D I base w' q:=λJ=>(h J).ext hf
theorem BdOIf.tf {c:Prop}{D I base:Nat}{w w':World}{q:BdQ}{S:List Nat}(h:BdOIf c D I base w q)(hf:Fr S w w')(M:OffT w D S)(J:OffT w I S):BdOIf c D I base w' q:=λO=>BdO.tf (h O) hf M J
theorem x3m {p:MSt}{o:MOp}(h:o.b=0\/o.b=1):y4s p.B o.b o.p (z8l o.b o.p p.rk)=y0q p o:=by
 unfold y4s y0q;rcases h with e|e<;>rw[e]<;>rfl
set_option maxHeartbeats 2000000 in
theorem u9o (wS:World)(ka:MA)(m:MQ)(o:MOp)(w0:World)(hM:MkM τd 137 wS ka w0 m)(hi:MInv m.p)(hn:z4v o.b o.p=0):Rets prog 70 #[.pointer (some ⟨ka.gk,0,none⟩),opV o] w0 λr w'=>MRet τd 137 wS ka (y0h m.p o) r w':=by
 have i5:=hM.fr.size;have O:=hM.k;have i0:=O.lt;have i2:=hM.ly;have i1:=hM.lt;have h0:=(hM.y.out.blk ka.gy (by simp[z0v])).2;have e5:=z3m hn;obtain⟨n,d3⟩:∃n:Nat,o.p=(n:Int):=⟨o.p.toNat,by omega⟩;obtain⟨⟨hf,hb⟩,h4,f1⟩:=z3x hi.B;have hv:BdOk m.q.p:=hi.B;have h7:=y5a hv o.b o.p;have e6:-4<=m.rk/\m.rk<=4:=hi.rk;have i3:=y4g o.b o.p m.rk;have i4:=y4g (1-o.b) (z8l o.b o.p m.rk) m.rk;refine we [(0,.pointer (some ⟨ka.gk,0,none⟩)),(1,opV o)] func70 U ntmps70 U (.c2 U U) ?_;have a2:=hM;refine sr (bx U (λg3 w1 h8 D q1 z1=>(asg U (nn (sq (sq ?_))))));replace hM:=a2.ext q1;intro a h;refine z0i none (λwb w'=>Fr [] wb w') z2r ?_;intro w2 q2;have z2:=q2.size;replace hM:=hM.ext q2;replace O:=O.ext (q1.n1 q2);replace D:=D.ext q2;have hC:Fr [] w2 w2:=Fr.refl _ _;have a3:=hM;have Z:=O;have M:=D;refine z0e 0 h U λa h=>z0o 1 h U λa h=>z0c 2 h U z3e U λa h=>z1d (vs:=[_,_]) 3 h U (λ_ hw=>(Z.ext hw)) z5q U U λa h=>z0c 4 h U z4j U λa h=>z1d (vs:=[_,_]) 5 h U (λ_ hw=>(M.ext hw)) z5z U U λa h=>z0d 6 U ?_;refine z0m h (z0a U (z0a U z0f)) u2x (x2i m.q o.b o.p _ hM.b.at (by omega) hf hb h4 f1) ?_;rintro i7 w3 ⟨d9,hq⟩ a h;have z3:=hq.size;replace hM:=hM.ext hq;replace O:=O.ext hq;replace D:=D.ext hq;replace hC:=hC.next hq;have q3:=hq;rw[y7g hn]at d9;obtain⟨h5,h6,rfl,g8⟩:=d9.sl.form;refine z0b ?_;refine z8g 7 hC h wn U underlying37 U λa h=>v8j 8 hC h wn U U U U λa h=>z0r ?_;clear hC a3 Z M;refine bk (h.sub (L':=[(0,_),(3,_),(19,_)]) (.c3 U U U)) (tn (cd U (λc0=>?_) (λc0=>?_)));refine sr (asg U (nn (rt (tr (r1 results70 U ?_)))));exact⟨_,rfl,MRet.err (if_pos (List.length_eq_zero_iff.1 (show (m.q.p.at o.b o.p).length=0 by omega))) (by decide) hM.fr⟩;have b9:(m.q.p.at o.b o.p)≠[]:=λe=>c0 (by rw[e];rfl);refine sk (tn ?_);refine jn (ι:=Nat×Int×Int) [(0,_),(3,_)] (λz_=>[(5,.pointer (some ⟨z_.1,0,none⟩)),(6,.int .i64 (if z4v (1-o.b) (z8l o.b o.p m.rk)≠0 then 11 else 0))]) (λz_ w'=>Fr [] w3 w'/\(w3.heap.size<=z_.1/\Blk w' z_.1 24 [.int .u8 z_.2.1,.int .i64 z_.2.2])/\(z4v (1-o.b) (z8l o.b o.p m.rk)=0->z_.2.1=1-o.b/\z_.2.2=z8l o.b o.p m.rk)) (.c2 U U) ?_ ?_;intro a h;refine z0i none (λwb w'=>Fr [] wb w') z2r ?_;intro w4 q4;have z4:=q4.size;replace hM:=hM.ext q4;replace O:=O.ext q4;replace D:=D.ext q4;have hC:Fr [] w4 w4:=Fr.refl _ _;have a3:=hM;have Z:=O;have M:=D;refine z0c 0 h U z4j U λa h=>z1d (vs:=[_,_]) 1 h U (λ_ hw=>(M.ext hw)) z5z U U λa h=>z0e 2 h U λa h=>z0o 3 h U λa h=>z0c 4 h U z3r U λa h=>z0k 5 h U (λ_ hw=>Z.ext hw) U na3 U λa h=>z2d 6 10 (by kernel_rfl) U ?_ ?_;refine z0m h (z0a U (z0a U z0f)) (mkC func115) (v3f o.b o.p m.rk _ hn e6) ?_;rintro _ w5 ⟨⟨bn,pn,rfl,a0⟩,q5⟩ a h;have z5:=q5.size;replace O:=O.ext q5;replace D:=D.ext q5;replace hC:=hC.next q5;refine z0b ?_;refine z0e 7 h U λa h=>z0n 8 h U λa h=>z0n 9 h U λa h=>z0d 10 U ?_;refine z1c h v9b U λw6 I q6 hz a h=>?_;obtain⟨b2,hg⟩:∃g,g=w5.heap.size:=⟨_,rfl⟩;rw[<-hg]at I h hz;have e0.gk_5:ka.gk<b2:=by have:=O.lt;omega
 have e1:g3<b2:=by have:=D.lt;omega
 have z6:=q6.size;replace O:=O.ext q6;replace D:=D.ext q6;replace hC:=hC.next q6;refine z0b ?_;refine z0d 11 U ?_;refine z0u h U I U y6g ?_ (h1:=(by first|(simp[Value.oneCell',S];done)|exact z2j.one (m.ys.getD i yq0)));clear h a;intro w7 a0 q7 hz a h;have z7:=q7.size;replace O:=O.fr q7;replace D:=D.fr q7;replace hC:=hC.sp q7;clear I hz;have I:Blk w7 b2 _ [_,_]:=a0;clear a0;refine z0b ?_;refine z0d 12 U ?_;refine z0s h U λa h=>?_;refine z0b ?_;refine z0r ?_;clear hC a3 Z M;refine bk (h.sub (L':=[(0,_),(3,_),(5,_),(6,_)]) (.c4 U U U U)) ?_;exact jE ((b2,bn,pn)) (.c4 U U U U) ⟨(q4.z3 q5 q6 q7),⟨⟨by simp only;omega,I⟩,a0⟩⟩;refine z1c h v9b U λw8 I q8 hz a h=>?_;obtain⟨b2,hg⟩:∃g,g=w4.heap.size:=⟨_,rfl⟩;rw[<-hg]at I h hz;have e0.gk_5:ka.gk<b2:=by have:=O.lt;omega
 have e1:g3<b2:=by have:=D.lt;omega
 have z8:=q8.size;replace hC:=hC.next q8;refine z0b ?_;refine z0d 6 U ?_;refine z0m h (z0a U (z0a U z0f)) (mkC func115) (v3f o.b o.p m.rk _ hn e6) ?_;rintro _ w9 ⟨⟨bn,pn,rfl,a0⟩,q9⟩ a h;have z9:=q9.size;replace O:=O.ext (q8.n1 q9);replace D:=D.ext (q8.n1 q9);replace I:=I.ext q9;replace hC:=hC.next q9;refine z0b ?_;refine z0e 7 h U λa h=>z0n 8 h U λa h=>z0n 9 h U λa h=>z0d 11 U ?_;refine z0u h U I U y6g ?_ (h1:=(by first|(simp[Value.oneCell',S];done)|exact z2j.one (m.ys.getD i yq0)));clear h a;intro f8 a0 d6 hz a h;have j8:=d6.size;replace O:=O.fr d6;replace D:=D.fr d6;replace hC:=hC.sp d6;clear I hz;have I:Blk f8 b2 _ [_,_]:=a0;clear a0;refine z0b ?_;refine z0d 12 U ?_;refine z0s h U λa h=>?_;refine z0b ?_;refine z0r ?_;clear hC a3 Z M;refine bk (h.sub (L':=[(0,_),(3,_),(5,_),(6,_)]) (.c4 U U U U)) ?_;exact jE ((b2,bn,pn)) (.c4 U U U U) ⟨(q4.z3 q8 q9 d6),⟨⟨by simp only;omega,I⟩,a0⟩⟩;rintro⟨g5,bn,pn⟩ i8 ⟨a8,⟨⟨f5,I⟩,a0⟩⟩;have j9:=a8.size;have f0:=I.lt;simp only at f5 I a0;refine kpC [(0,_),(3,_),(5,.pointer (some ⟨g5,0,none⟩)),(6,_)] (.c4 U U U U) (sq (sr (mv U (ne' U (nn (cd U (λc1=>?_) (λc1=>?_)))))));refine sr (mv U (asg U (kpL [(4,_)] (.cons U .nil) (nn (rt (tr (r1 results70 U ?_)))))));replace hM:=a2.ext (q1.n3 q2 q3 a8);have a7:z4v (1-o.b) (z8l o.b o.p m.rk)≠0:=λe=>c1 (by rw[if_neg (λh=>h e)]);exact⟨_,rfl,by rw[if_pos a7];exact MRet.err (by rw[y0h,if_neg b9,if_pos a7]) (by decide) hM.fr⟩;have a7:z4v (1-o.b) (z8l o.b o.p m.rk)=0:=Classical.not_not.1 λe=>c1 (by rw[if_pos e];decide);obtain⟨rfl,rfl⟩:=a0 a7;have h3:=z3m a7;obtain⟨n2,d1⟩:∃n2:Nat,z8l o.b o.p m.rk=(n2:Int):=⟨(z8l o.b o.p m.rk).toNat,by omega⟩;refine sk (tn (sq ?_));replace hM:=a2.ext (q1.n3 q2 q3 a8);intro a h;refine z0i none (λwb w'=>Fr [] wb w') z2r ?_;intro e9 a9;have k0:=a9.size;replace hM:=hM.ext a9;replace O:=O.ext (a8.n1 a9);replace D:=D.ext (a8.n1 a9);replace I:=I.ext a9;have hC:Fr [] e9 e9:=Fr.refl _ _;have a3:=hM;have Z:=O;have M:=D;have a4:=I;refine z0c 0 h U z4j U λa h=>z1d (vs:=[_,_]) 1 h U (λ_ hw=>(M.ext hw)) z5z U U λa h=>z0e 2 h U λa h=>z0o 3 h U λa h=>z0c 4 h U z3r U λa h=>z0k 5 h U (λ_ hw=>Z.ext hw) U na3 U λa h=>z0z 7 h U (λ_ hw=>a4.ext hw) z5z U λa h=>z0e 8 h U λa h=>z0o 9 h U λa h=>z0c 10 h U z3r U λa h=>z0k 11 h U (λ_ hw=>Z.ext hw) U na3 U λa h=>?_;refine z0d 6 U ?_;refine z0m h (z0a U (z0a U z0f)) x9j (y2j _ _ _ _ (by omega)) ?_;rintro _ i9 ⟨rfl,a5⟩ a h;have k1:=a5.size;replace hC:=hC.next a5;refine z0b ?_;refine z0d 12 U ?_;refine z0m h (z0a U (z0a U z0f)) x9j (y2j _ _ _ _ (by omega)) ?_;rintro _ f9 ⟨rfl,a6⟩ a h;have k2:=a6.size;replace hM:=hM.ext (a5.n1 a6);replace O:=O.ext (a5.n1 a6);replace D:=D.ext (a5.n1 a6);replace I:=I.ext (a5.n1 a6);replace hC:=hC.next a6;refine z0b ?_;refine j0z 13 (by kernel_rfl) (by kernel_rfl) (by kernel_rfl) hC h wn U U U U λa h=>z4y 14 h U (by first|exact i6 (by omega)|rfl) U λa h=>z0d 15 U ?_;refine z0s h U λa h=>?_;refine z0b ?_;refine z0r ?_;clear hC a3 Z M a4;refine bk (h.sub (L':=[(0,_),(3,_),(5,_),(7,_)]) (.c4 U U U U)) (tn (sq (sr (mv U (nlc U (fad U z3a (z0g U O U z9x (lnS U underlying33 (mv U (nn (bl ?_)))))))))));refine lpK (ι:=Nat) [(0,_),(3,_),(5,_),(7,_),(51,_),(52,_)] (λi=>[(53,.int .i64 (i:Int))]) (λi w'=>Fr [] f9 w'/\i<=6/\∀k,k<i->¬((m.ys.getD k yq0).inn=true/\(m.ys.getD k yq0).pl=(u2j m.p o))) (λi=>6-i) 0 (.c7 U U U U U U U) ⟨Fr.refl _ _,⟨Nat.zero_le _,λj h=>absurd h (by omega)⟩⟩ ?_;rintro i j0 ⟨b0,⟨hi,hz⟩⟩;have k3:=b0.size;refine kpC [(0,_),(3,_),(5,_),(7,_),(51,_),(52,_),(53,_)] (.c7 U U U U U U U) (sr (lt' U (nn (sq (cd U (λc2=>?_) (λc2=>?_))))));refine sk (tn (sq (bl (sr ?_))));replace hM:=a2.ext ((q1.n6 q2 q3 a8 a9 a5 a6).n1 b0);refine z0y (yq0) U hM.y.out.sl U z9u z1e (λg7 e4=>?_);refine z1k U (e4 _ hM.y.out.sl) z6d (al y1j U (λg9 j1 h9 d7 e7 k4=>?_));refine z0j (vs:=[_,_,_,_,_]) U d7 z6u (λj2 d7 e8 k5=>?_) (h1:=(by first|(simp[Value.oneCell',S];done)|exact z2j.one (m.ys.getD i yq0)));refine nn (sq ?_);refine rbo (r:=64) (L':=[(0,_),(3,_),(5,_),(7,_),(51,_),(52,_),(53,_)]) (((m.ys.getD i yq0).inn=true/\((m.ys.getD i yq0).pl=((min (z4t o.b o.p m.rk) (z4t (1-o.b) (z8l o.b o.p m.rk) m.rk))+1)))) (.c7 U U U U U U U) ?_ ?_;refine fad U z9g (z0g U d7 U na4 (mv U (gs 59 U (λg0=>?_) (λg0=>?_))));exact gY U (fad U z5s (gY U (z0g U d7 U na3 (gY U (mv U (gY U (eq' U (pkt U (rbe U (.c7 U U U U U U U))))))))));exact gN U (gN U (gN U (gN U (pkf U (rbe U (.c7 U U U U U U U))))));refine tn (cd U (λc3=>?_) (λc3=>?_));refine sr (asg U (kpL [(4,_)] (.cons U .nil) (nn (rt (rb (tr (tr (rb (tr (r1 results70 U ?_))))))))));replace hM:=a2.ext ((((q1.n6 q2 q3 a8 a9 a5 a6).n1 b0).n1 e7).z1 e8);exact⟨_,rfl,MRet.err (by rw[y0h,if_neg b9,if_neg (λh=>h a7),if_pos (⟨_,List.mem_map.2 ⟨m.ys.getD i yq0,z0t (by omega),rfl⟩,c3⟩:∃y∈m.p.ys,y.inn=true/\y.pl=u2j m.p o)]) (by decide) hM.fr⟩;refine sk (bn' (tn (rg (z0w U (wi6 (by omega)) (mv U (nl ?_))))));exact lpE (i+1) (.c7 U U U U U U U) ⟨(b0.z2 e7 e8),⟨by omega,λk h=>by
  by_cases e:k=i;subst e;exact c3;exact hz k (by omega)⟩⟩ (by omega)
 have b5:¬ ∃y∈m.p.ys,y.inn=true/\y.pl=u2j m.p o:=by
  rintro⟨y,hy,h1,h2⟩;obtain⟨z,f4,rfl⟩:=List.mem_map.1 hy;obtain⟨k,f3,rfl⟩:=List.getElem_of_mem f4;refine hz k (by omega) ?_;rw[List.getD,List.getElem?_eq_getElem f3];exact⟨h1,h2⟩
 refine ex (te (te (xh (tn (sq ?_)))));replace hM:=a2.ext ((q1.n6 q2 q3 a8 a9 a5 a6).n1 b0);intro a h;refine z0i none (λwb w'=>Fr [] wb w') z2r ?_;intro e3 b6;have k6:=b6.size;replace hM:=hM.ext b6;replace O:=O.ext (b0.n1 b6);replace D:=D.ext (b0.n1 b6);replace I:=I.ext (b0.n1 b6);have hC:Fr [] e3 e3:=Fr.refl _ _;have a3:=hM;have Z:=O;have M:=D;have a4:=I;refine z0e 0 h U λa h=>z0o 1 h U λa h=>z0c 2 h U z3e U λa h=>z1d (vs:=[_,_]) 3 h U (λ_ hw=>(Z.ext hw)) z5q U U λa h=>z0c 4 h U z4j U λa h=>z1d (vs:=[_,_]) 5 h U (λ_ hw=>(M.ext hw)) z5z U U λa h=>z0z 6 h U (λ_ hw=>a4.ext hw) z5z U λa h=>z2d 7 11 (by kernel_rfl) U ?_ ?_;refine z0m h (z0a U (z0a U (z0a U z0f))) (mkC func117) (by have x:=v6m m.q o.b n n2 _ hM.b.at hv (by rw[<-d3];exact hn) (by rw[<-d1];exact a7) (by rw[<-d3];exact b9);rw[<-d3,<-d1]at x;exact x) ?_;rintro _ g1 ⟨⟨q',rfl,d4⟩,q19⟩ a h;have k7:=q19.size;replace O:=O.ext q19;replace D:=D.ext q19;replace I:=I.ext q19;replace hC:=hC.next q19;have hQ:BdOIf (¬4<(m.q.p.at o.b o.p).length+(m.q.p.at (1-o.b) (z8l o.b o.p m.rk)).length) 37 87 _ _ q':=λhc=>(d4 hc).1;have e2:=λhc=>(d4 hc).2;have d0:=λhc=>x1l (hQ hc) a2.f (by omega);refine z0b ?_;refine z0e 8 h U λa h=>z0n 9 h U λa h=>z0n 10 h U λa h=>z0d 11 U ?_;refine z1c h x9t U λj3 J b1 hz a h=>?_;obtain⟨a1,hg⟩:∃g,g=g1.heap.size:=⟨_,rfl⟩;rw[<-hg]at J h hz;have e0.gk_10:ka.gk<a1:=by have:=O.lt;omega
 have b3:g3<a1:=by have:=D.lt;omega
 have b3:g5<a1:=by have:=I.lt;omega
 have k8:=b1.size;replace hM:=hM.ext (q19.n1 b1);replace O:=O.ext b1;replace D:=D.ext b1;replace I:=I.ext b1;first|replace hQ:=BdOIf.ext hQ b1|replace hQ:=BdOIf.tf hQ b1 (OffT.one J (by decide)) (OffT.one J (by decide))
 replace hC:=hC.next b1;refine z0b ?_;refine z0d 12 U ?_;refine z0u h U J U x1f ?_ (h1:=(by first|(simp[Value.oneCell',S];done)|exact z2j.one (m.ys.getD i yq0)));clear h a;intro g4 a0 b7 hz a h;have k9:=b7.size;replace O:=O.fr b7;replace D:=D.fr b7;replace I:=I.fr b7;first|replace hQ:=BdOIf.ext hQ b7|replace hQ:=BdOIf.tf hQ b7 (OffT.one J (by decide)) (OffT.one J (by decide))
 replace hC:=hC.sp b7;clear J hz;have J:Blk g4 a1 _ [_,_]:=a0;clear a0;refine z0b ?_;refine z0d 13 U ?_;refine z0s h U λa h=>?_;refine z0b ?_;refine z0r ?_;clear hC a3 Z M a4;refine bk (h.sub (L':=[(0,_),(6,_),(10,_)]) (.c3 U U U)) (tn (sq (sr (mv U (eq' U (nn (cd U (λc4=>?_) (λc4=>?_))))))));have b4:¬4<(m.q.p.at o.b o.p).length+(m.q.p.at (1-o.b) (z8l o.b o.p m.rk)).length:=λe=>by rw[if_pos e]at c4;exact absurd c4 (by decide)
 replace hQ:=hQ b4;replace d0:=d0 b4;refine rg (mv U (z0l U J z5q (nlc U (fad U z3e ?_))));replace hM:=a2.ext ((((q1.n6 q2 q3 a8 a9 a5 a6).n1 b0).n1 b6).z3 q19 b1 b7);refine z4b (cs':=u3x ka { m with q:=q' }) U U hM.k (by intro u hu;simp at hu;rcases hu with rfl|rfl<;>rfl) x1f U (λj4 d5 f6 l0=>?_);replace hM:=hM.beds mtd (hQ.low (by omega)) d5 f6 d0;have O:=hM.k;have a2:=hM;have f2:=hM;have hF:Lw.Own z1h 87 wS.heap.size _ (slv m.fa) m.fl:=hM.f;clear d5;refine kpL [(6,_)] (.cons U .nil) (nl (tn (sr (mv U (asg U (nn (rt (r1 results70 U ?_))))))));exact⟨_,rfl,by rw[c4];exact MRet.ok (by rw[y0h,if_neg b9,if_neg (λh=>h a7),if_neg b5,if_neg b4];exact congrArg Except.ok (by have hj:y4s m.q.p o.b o.p (z8l o.b o.p m.rk)=y0q m.p o:=x3m (p:=m.p) e5.1;unfold MQ.p;simp only[e2 b4];rw[hj])) hM⟩;refine sk (tn (sr (mv U (asg U (nn (rt (r1 results70 U ?_)))))));replace hM:=a2.ext ((((q1.n6 q2 q3 a8 a9 a5 a6).n1 b0).n1 b6).z3 q19 b1 b7);exact⟨_,rfl,MRet.err (by rw[y0h,if_neg b9,if_neg (λh=>h a7),if_neg b5,if_pos (Classical.not_not.1 λe=>c4 (if_neg e))];rw[if_pos (Classical.not_not.1 λe=>c4 (if_neg e))]) c4 hM.fr⟩;refine z1c h x9t U λj5 J c9 hz a h=>?_;obtain⟨a1,hg⟩:∃g,g=e3.heap.size:=⟨_,rfl⟩;rw[<-hg]at J h hz;have e0.gk_10:ka.gk<a1:=by have:=O.lt;omega
 have b3:g3<a1:=by have:=D.lt;omega
 have b3:g5<a1:=by have:=I.lt;omega
 have l1:=c9.size;replace hM:=hM.ext c9;replace hC:=hC.next c9;refine z0b ?_;refine z0d 7 U ?_;refine z0m h (z0a U (z0a U (z0a U z0f))) (mkC func117) (by have x:=v6m m.q o.b n n2 _ hM.b.at hv (by rw[<-d3];exact hn) (by rw[<-d1];exact a7) (by rw[<-d3];exact b9);rw[<-d3,<-d1]at x;exact x) ?_;rintro _ j6 ⟨⟨q',rfl,d4⟩,q24⟩ a h;have l2:=q24.size;replace hM:=hM.ext q24;replace O:=O.ext (c9.n1 q24);replace D:=D.ext (c9.n1 q24);replace I:=I.ext (c9.n1 q24);replace J:=J.ext q24;replace hC:=hC.next q24;have hQ:BdOIf (¬4<(m.q.p.at o.b o.p).length+(m.q.p.at (1-o.b) (z8l o.b o.p m.rk)).length) 37 87 _ _ q':=λhc=>(d4 hc).1;have e2:=λhc=>(d4 hc).2;have d0:=λhc=>x1l (hQ hc) a2.f (by omega);refine z0b ?_;refine z0e 8 h U λa h=>z0n 9 h U λa h=>z0n 10 h U λa h=>z0d 12 U ?_;refine z0u h U J U x1f ?_ (h1:=(by first|(simp[Value.oneCell',S];done)|exact z2j.one (m.ys.getD i yq0)));clear h a;intro g6 a0 b8 hz a h;have l3:=b8.size;replace O:=O.fr b8;replace D:=D.fr b8;replace I:=I.fr b8;first|replace hQ:=BdOIf.ext hQ b8|replace hQ:=BdOIf.tf hQ b8 (OffT.one J (by decide)) (OffT.one J (by decide))
 replace hC:=hC.sp b8;clear J hz;have J:Blk g6 a1 _ [_,_]:=a0;clear a0;refine z0b ?_;refine z0d 13 U ?_;refine z0s h U λa h=>?_;refine z0b ?_;refine z0r ?_;clear hC a3 Z M a4;refine bk (h.sub (L':=[(0,_),(6,_),(10,_)]) (.c3 U U U)) (tn (sq (sr (mv U (eq' U (nn (cd U (λc4=>?_) (λc4=>?_))))))));have b4:¬4<(m.q.p.at o.b o.p).length+(m.q.p.at (1-o.b) (z8l o.b o.p m.rk)).length:=λe=>by rw[if_pos e]at c4;exact absurd c4 (by decide)
 replace hQ:=hQ b4;replace d0:=d0 b4;refine rg (mv U (z0l U J z5q (nlc U (fad U z3e ?_))));replace hM:=a2.ext ((((q1.n6 q2 q3 a8 a9 a5 a6).n1 b0).n1 b6).z3 c9 q24 b8);refine z4b (cs':=u3x ka { m with q:=q' }) U U hM.k (by intro u hu;simp at hu;rcases hu with rfl|rfl<;>rfl) x1f U (λj7 d5 f7 l4=>?_);replace hM:=hM.beds mtd (hQ.low (by omega)) d5 f7 d0;have O:=hM.k;have a2:=hM;have f2:=hM;have hF:Lw.Own z1h 87 wS.heap.size _ (slv m.fa) m.fl:=hM.f;clear d5;refine kpL [(6,_)] (.cons U .nil) (nl (tn (sr (mv U (asg U (nn (rt (r1 results70 U ?_))))))));exact⟨_,rfl,by rw[c4];exact MRet.ok (by rw[y0h,if_neg b9,if_neg (λh=>h a7),if_neg b5,if_neg b4];exact congrArg Except.ok (by have hj:y4s m.q.p o.b o.p (z8l o.b o.p m.rk)=y0q m.p o:=x3m (p:=m.p) e5.1;unfold MQ.p;simp only[e2 b4];rw[hj])) hM⟩;refine sk (tn (sr (mv U (asg U (nn (rt (r1 results70 U ?_)))))));replace hM:=a2.ext ((((q1.n6 q2 q3 a8 a9 a5 a6).n1 b0).n1 b6).z3 c9 q24 b8);exact⟨_,rfl,MRet.err (by rw[y0h,if_neg b9,if_neg (λh=>h a7),if_neg b5,if_pos (Classical.not_not.1 λe=>c4 (if_neg e))];rw[if_pos (Classical.not_not.1 λe=>c4 (if_neg e))]) c4 hM.fr⟩
end Go.Proofs.YtpgdchkdlgkmgaaGreatDoor
namespace Go.G08
open Go.Lw Go.G21
theorem x0e {p:MSt}{y:Int}{q:Yn}(h:MInv p)(M:1<=y/\y<=6)(J:y0p q)(I:q.ct=(p.y y).ct):MInv (p.setY y q):=by
 have hl:(y-1).toNat<p.ys.length:=by rw[h.ly];omega
 refine⟨h.rk,h.B,by show (p.ys.set _ q).length=6;rw[List.length_set];exact h.ly,h.lt,λk D=>?_,h.has,h.cnt,h.all,h.cv⟩;show y0p ((p.ys.set (y-1).toNat q).getD k yn0)/\((p.ys.set (y-1).toNat q).getD k yn0).ct=z2o p.tb k;rw[z1j hl];split;rename_i e;refine⟨J,I.trans ?_⟩;have:=(h.yn k D).2;rw[<-e]at this ⊢;exact this;exact h.yn k D
theorem v4y {st:List Pa}{p:Pa}(h:y6e st)(hp:y1g p):y6e (y0f st p):=by
 unfold y0f;split;intro i M;rw[List.length_take]at M;have e:∀k,k<st.length-1->(st.take (st.length-1)).getD k pa0=st.getD k pa0:=λk O=>by
  rw[List.getD,List.getElem?_take,if_pos O,List.getD]
 obtain⟨I,J⟩:=h i (by omega);refine⟨by rw[e i (by omega)];exact I,λD=>?_⟩;rw[e i (by omega),e (i-1) (by omega)];exact J D;rename_i hc;intro i M;rw[List.length_append,List.length_singleton]at M;have e:∀k,k<st.length->(st++[p]).getD k pa0=st.getD k pa0:=λk O=>by
  rw[List.getD,List.getElem?_append_left O,List.getD]
 by_cases hl:i<st.length;obtain⟨I,J⟩:=h i hl;refine⟨by rw[e i hl];exact I,λD=>?_⟩;rw[e i hl,e (i-1) (by omega)];exact J D;obtain rfl:i=st.length:=by omega
 have Z:(st++[p]).getD st.length pa0=p:=by simp[List.getD]
 refine⟨by rw[Z];exact hp,λD=>?_⟩;rw[Z,e (st.length-1) (by omega)];exact λhh=>hc ⟨D,hh⟩
theorem x2t:∀ {l st:List Pa},y6e st->j1q l->y6e (z4u st l)
 | [],_,h,_=>h
 | p::l,st,h,hv=>x2t (l:=l) (v4y h (hv p (by simp))) (λq D=>hv q (List.mem_cons_of_mem _ D))
theorem j1w {y:Yn}{M:Int}{l:List Pa}(h:goE y M l=0):y0p (goS y M l):=by
 unfold goE at h;split at h;exact absurd h (by assumption);rename_i I;have I:=v0x (Classical.not_not.1 I);split at h;omega;rename_i O;split at h;omega;rename_i Z;split at h;omega;rename_i D;have D:y.inn=true:=by simpa using D
 split at h;omega;have J:=I.2;rw[if_pos D]at J;refine⟨I.1,?_⟩;show if y.inn=true then _ else _
 rw[if_pos D];exact⟨Classical.not_not.1 O,by show (z4u y.pe l).length<=4096;omega,x2t J.2.2 (Classical.not_not.1 Z)⟩
theorem y3t (B:Bd){b n:Int}(h:z4v b n=0)(s:List LId):(B.put b n s).flat.length+(B.at b n).length=B.flat.length+s.length:=by
 have:=(List.perm_iff_count.2 (λi=>by rw[List.count_append,List.count_append];exact z4i B h s i):((B.put b n s).flat++B.at b n).Perm (B.flat++s)).length_eq;simpa using this
theorem u2w {B:Bd}(h:BdOk B){b n:Int}(hn:z4v b n=0):BdOk (B.put b n []):=h.put hn (by simp) (by simp) λi=>by
 have:=List.nodup_iff_count.1 h.nd i
 simp only[List.count_nil];omega
theorem u1w {p q:MSt}{o:MOp}(h:MInv p)(hn:z4v o.b o.p=0)(e:y5x p o=.ok q):MInv q:=by
 unfold y5x at e;split at e;cases e;cases e;refine⟨h.rk,u2w h.B hn,h.ly,h.lt,h.yn,λi I=>?_,?_,h.all,h.cv⟩;rcases y0v hn I with k|k
 cases k;exact h.has i k;have D:=y3t p.B hn [];have J:=h.cnt;show (p.B.put o.b o.p []).flat.length+(p.fa++p.B.at o.b o.p).length<=z3t p.tb;rw[List.length_append];simp only[List.length_nil]at D;omega
theorem y5m {p:MSt}{o:MOp}(h:o.b=0\/o.b=1)(i:LId):(y0q p o).count i=(p.B.at o.b o.p).count i+(p.B.at (1-o.b) (z8l o.b o.p p.rk)).count i:=by
 unfold y0q;rcases h with e|e
 rw[e,if_neg (by decide),List.count_append,show (1:Int)-0=1 from U];omega;rw[e,if_pos U,List.count_append,show (1:Int)-1=0 from U]
theorem v7u {p q:MSt}{o:MOp}(h:MInv p)(hn:z4v o.b o.p=0)(e:y0h p o=.ok q):MInv q:=by
 unfold y0h at e;split at e;cases e;split at e;cases e;rename_i D;have D:=Classical.not_not.1 D;split at e;cases e;split at e;cases e;rename_i h4;cases e;have hb:=(z3m hn).1;have hc:=y5m (p:=p) (o:=o) hb;have Z:(y0q p o).length=(p.B.at o.b o.p).length+(p.B.at (1-o.b) (z8l o.b o.p p.rk)).length:=by
  have:=(List.perm_iff_count.2 (λi=>by rw[List.count_append];exact hc i):(y0q p o).Perm (p.B.at o.b o.p++p.B.at (1-o.b) (z8l o.b o.p p.rk))).length_eq;simpa using this
 have I:∀i∈y0q p o,i∈p.B.flat:=λi O=>by
  have J:=List.count_pos_iff.2 O;rw[hc i]at J;by_cases k:0<(p.B.at o.b o.p).count i;exact y0e (List.count_pos_iff.1 k);exact y0e (List.count_pos_iff.1 (show 0<(p.B.at (1-o.b) (z8l o.b o.p p.rk)).count i by omega))
 have M:(p.B.put o.b o.p []).at (1-o.b) (z8l o.b o.p p.rk)=p.B.at (1-o.b) (z8l o.b o.p p.rk):=by
  rw[v5q p.B hn D,if_neg (by omega)]
 have a0:=u2w h.B hn;refine⟨h.rk,a0.put D (by omega) (λi O=>h.B.nm i (I i O)) (λi=>?_),h.ly,h.lt,h.yn,λi O=>?_,?_,h.all,h.cv⟩;have J:=z4i p.B hn [] i;have h2:=List.nodup_iff_count.1 h.B.nd i;rw[M,hc i];simp only[List.count_nil]at J;omega;rcases y0v D O with k|k
 exact h.has i (I i k);rcases y0v hn k with k|k
 cases k;exact h.has i k;have J:=y3t p.B hn [];have h2:=y3t (p.B.put o.b o.p []) D (y0q p o);have h3:=h.cnt;rw[M,Z]at h2;simp only[List.length_nil]at J;show ((p.B.put o.b o.p []).put (1-o.b) (z8l o.b o.p p.rk) (y0q p o)).flat.length+p.fa.length<=z3t p.tb;omega
theorem v2i {p q:MSt}{o:MOp}{th st:List LId}(h:MInv p)(hy:1<=o.y/\o.y<=6)(hn:z4v o.b o.p=0)(hs:st=[]\/(st=p.B.at o.b o.p/\st.length<4))(e:x1m p o th st=.ok q):MInv q:=by
 unfold x1m at e;split at e;cases e;rename_i hm;split at e;cases e;rename_i hc;cases e;have hm:=Classical.not_not.1 hm;obtain⟨j,hj,a5⟩:∃j:Nat,j<6/\o.y=(j:Int)+1:=⟨(o.y-1).toNat,by omega,by omega⟩;have M:(o.y-1).toNat=j:=by omega
 have J:=h.yn j hj;have a6:p.y o.y=p.ys.getD j yn0:=by unfold MSt.y;rw[M]
 rw[<-a6]at J;have a4:j<p.ys.length:=by rw[h.ly];exact hj
 have I:j<p.tb.length:=by rw[h.lt];exact hj
 have Z:(p.y o.y).inn=true/\(p.y o.y).ct≠2048:=by
  unfold mkE at hm;split at hm;exact absurd hm (by assumption);split at hm;omega;rename_i D;split at hm;omega;rename_i hk;exact⟨by simpa using D,hk⟩
 have a7:=J.1.1;have O:∀i∈p.B.flat,i≠⟨o.y,(p.y o.y).ct⟩:=λi D e=>by
  have:=h.has i D;rw[e]at this;obtain⟨_,_,_,h4⟩:=this;simp only at h4;rw[M,J.2]at h4;omega
 have a0:∀i∈st,i∈p.B.flat:=λi D=>by
  rcases hs with e|⟨e,_⟩
  rw[e]at D;cases D;rw[e]at D;exact y0e D
 have a1:p.row o.y=p.tb.getD j []:=by unfold MSt.row;rw[M]
 simp only[M,a1];have a3:(st++[(⟨o.y,(p.y o.y).ct⟩:LId)]).length<=4:=by
  rw[List.length_append,List.length_singleton];rcases hs with e|⟨_,e⟩
  rw[e];simp;omega
 have a2:=y1z p.tb j (p.tb.getD j []++[(⟨o.b,(p.y o.y).nw,th,(p.y o.y).pe⟩:Lp)]) I;rw[List.length_append,List.length_singleton,show (p.tb.getD j []).length=z2o p.tb j from U]at a2;refine⟨h.rk,h.B.put hn a3 (λi D=>?_) (λi=>?_),by show (p.ys.set _ _).length=6;rw[List.length_set];exact h.ly,by show (p.tb.set _ _).length=6;rw[List.length_set];exact h.lt,λk hk=>?_,λi D=>?_,?_,?_,h.cv⟩;rcases List.mem_append.1 D with k|k
 exact h.B.nm i (a0 i k);rw[List.mem_singleton.1 k];unfold y1b;simp only;omega;have hd:=List.nodup_iff_count.1 h.B.nd i;rw[List.count_append,List.count_singleton];by_cases e:(⟨o.y,(p.y o.y).ct⟩:LId)=i;have h0:p.B.flat.count i=0:=List.count_eq_zero.2 λk=>O i k e.symm;have h1:st.count i=0:=List.count_eq_zero.2 λk=>O i (a0 i k) e.symm;rw[h0,h1];split<;>omega
 rw[if_neg (by simpa using e)];rcases hs with e|⟨e,_⟩
 rw[e];simp only[List.count_nil];omega;rw[e];omega;show y0p ((p.ys.set j (mkS (p.y o.y))).getD k yn0)/\((p.ys.set j (mkS (p.y o.y))).getD k yn0).ct=z2o (p.tb.set j _) k;rw[z1j a4,z8j I];by_cases e:j=k;rw[if_pos e,if_pos e];refine⟨⟨⟨by show 0<=(p.y o.y).ct+1;omega,by show (p.y o.y).ct+1<=2048;omega⟩,?_⟩,?_⟩;have h2:=J.1.2;rw[if_pos Z.1]at h2;show if true=true then _ else _
 rw[if_pos U];exact⟨h2.1,by show ([]:List Pa).length<=4096;simp,λi D=>by simp[mkS]at D⟩;show (p.y o.y).ct+1=_;rw[J.2,List.length_append,List.length_singleton];rfl;rw[if_neg e,if_neg e];exact h.yn k hk;rcases y0v hn D with k|k
 rcases List.mem_append.1 k with k|k
 exact y8n I (h.has i (a0 i k));rw[List.mem_singleton.1 k];have:=z8h (T:=p.tb.set j (p.tb.getD j []++[(⟨o.b,(p.y o.y).nw,th,(p.y o.y).pe⟩:Lp)])) (y:=j) (n:=z2o p.tb j) (by rw[List.length_set];exact I) (by rw[z8j I,if_pos U,List.length_append,List.length_singleton];exact Nat.lt_succ_self _);rwa [<-a5,<-J.2]at this;exact y8n I (h.has i k);have h1:=y3t p.B hn (st++[(⟨o.y,(p.y o.y).ct⟩:LId)]);have h2:=h.cnt;have h3:st.length<=(p.B.at o.b o.p).length:=by
  rcases hs with e|⟨e,_⟩
  rw[e];simp;rw[e];exact Nat.le_refl _
 rw[List.length_append,List.length_singleton]at h1;show (p.B.put o.b o.p _).flat.length+p.fa.length<=z3t (p.tb.set j _);omega;have:=h.all;show z3t (p.tb.set j _)<=2048;omega
theorem j0t {p q:MSt}{o:MOp}(h:MInv p)(O:1<=o.y/\o.y<=6)(Z:z5y o.d)(e:inM p o=.ok q):MInv q:=by
 unfold inM at e;split at e;cases e;rename_i D;cases e;have D:=Classical.not_not.1 D;refine x0e h O ?_ U;have I:y0p (p.y o.y):=by
  unfold enE at D;split at D;exact absurd D (by assumption);rename_i J;exact v0x (Classical.not_not.1 J)
 refine⟨I.1,?_⟩;show if true=true then _ else _
 rw[if_pos U];refine⟨?_,by show ([]:List Pa).length<=4096;simp,λi M=>by simp[enS]at M⟩;show v0f (if o.d=1 then 179 else -13);split<;>decide
theorem u9v {p q:MSt}{o:MOp}(h:MInv p)(M:1<=o.y/\o.y<=6)(e:v0g p o=.ok q):MInv q:=by
 unfold v0g at e;split at e;cases e;rename_i D;cases e;have D:=Classical.not_not.1 D;refine x0e h M ?_ U;have I:y0p (p.y o.y):=by
  unfold lvE at D;split at D;exact absurd D (by assumption);rename_i J;exact v0x (Classical.not_not.1 J)
 refine⟨I.1,?_⟩;show if false=true then _ else _
 rw[if_neg (by decide)];exact⟨rfl,rfl,rfl⟩
theorem y1u {p q:MSt}{y J en:Int}(h:MInv p)(I:1<=y/\y<=6)(e:y6k p y J en=.ok q):MInv q/\q.B=p.B/\q.rk=p.rk:=by
 unfold y6k at e;split at e;cases e;rename_i D;cases e;exact⟨x0e h I (j1w (Classical.not_not.1 D)) U,rfl,rfl⟩
theorem v9j {p q:MSt}{o:MOp}(h:MInv p)(D:1<=o.y/\o.y<=6)(e:y6n p o=.ok q):MInv q:=by
 unfold y6n at e;split at e;cases e;exact(y1u h D e).1
theorem v9u {p q:MSt}{o:MOp}(h:MInv p)(D:1<=o.y/\o.y<=6)(hn:z4v o.b o.p=0)(e:y3f p o=.ok q):MInv q:=by
 unfold y3f at e;split at e;cases e;split at e;cases e;rename_i r I;exact v2i (y1u h D I).1 D hn (.inl U) e
theorem u1o {p q:MSt}{o:MOp}(h:MInv p)(D:1<=o.y/\o.y<=6)(hn:z4v o.b o.p=0)(e:y2m p o=.ok q):MInv q:=by
 unfold y2m at e;split at e;cases e;split at e;cases e;rename_i r I;split at e;cases e;exact v2i (y1u h D I).1 D hn (.inr ⟨rfl,by omega⟩) e
theorem u0n {p:MSt}{d:Int}{y D:Yn}(e:z9k p d y=.ok D):(y0p y->y0p D)/\D.ct=y.ct:=by
 unfold z9k at e;split at e;cases e;exact⟨id,rfl⟩;split at e;cases e;rename_i I;cases e;exact⟨λ_=>j1w (Classical.not_not.1 I),rfl⟩
theorem x1c {p:MSt}{d:Int}:∀ {l l':List Yn},z6s p d l=.ok l'->l'.length=l.length/\∀k,(y0p (l.getD k yn0)->y0p (l'.getD k yn0))/\(l'.getD k yn0).ct=(l.getD k yn0).ct
 | [],l',e=>by cases e;exact⟨rfl,λk=>⟨id,rfl⟩⟩
 | y::l,l',e=>by
  unfold z6s at e
  split at e
  ·cases e
  rename_i O J
  split at e
  ·cases e
  rename_i M hl
  cases e
  obtain⟨D,I⟩:=x1c hl
  refine⟨by simp[D],λk=>?_⟩
  cases k with
  | zero=>exact u0n J
  | succ k=>simpa only[List.getD_cons_succ] using I k
def j5l (l:List Cx):Prop:=∀c∈l,-1048576<=c.n/\c.n<=1048576
theorem u8y {l l':List Cx}{c:Cx}(h:j5l l)(e:x3n l c=.ok l'):j5l l':=by
 unfold x3n at e;dsimp only at e;generalize (if 0<z6o c.a c.b then (c.b,c.a) else (c.a,c.b))=kk at e;split at e;cases e;rename_i J;split at e;cases e;intro x D;exact h x (List.mem_filter.1 D).1;cases e;intro x D;unfold x0n at D;split at D;obtain⟨z,I,rfl⟩:=List.mem_map.1 D;split;simp only;omega;exact h z I;rcases List.mem_append.1 D with k|k
 exact h x k;rw[List.mem_singleton.1 k];simp only;omega
theorem y7x:∀ {r l l':List Cx},j5l l->z6m l r=.ok l'->j5l l'
 | [],l,l',h,e=>by cases e;exact h
 | c::r,l,l',h,e=>by
  unfold z6m at e
  split at e
  ·cases e
  rename_i I D
  exact y7x (u8y h D) e
theorem y9w {p q:MSt}{d:Int}(h:MInv p)(Z:-4<=p.rk+stI d/\p.rk+stI d<=4)(e:y2h p d=.ok q):MInv q/\q.rk=p.rk+stI d:=by
 unfold y2h at e;split at e;cases e;rename_i ys I;split at e;cases e;rename_i cr D;cases e;obtain⟨O,J⟩:=x1c I;exact⟨⟨Z,h.B,O.trans h.ly,h.lt,λk M=>⟨(J k).1 (h.yn k M).1,(J k).2.trans (h.yn k M).2⟩,h.has,h.cnt,h.all,y7x h.cv D⟩,rfl⟩
theorem x8p {r:Int}(J:-4<=r/\r<=4):∀ {n:Nat} {p q:MSt},MInv p->z6z n p r=.ok q->MInv q
 | 0,p,q,h,e=>by cases e;exact h
 | n+1,p,q,h,e=>by
  unfold z6z at e
  split at e
  ·cases e;exact h
  rename_i I
  split at e
  ·cases e
  rename_i O D
  have M:=h.rk
  refine x8p J (y9w h ?_ D).1 e
  unfold stI
  split<;>split<;>omega
theorem x7n {p q:MSt}{o:MOp}(h:MInv p)(e:doM p o=.ok q):MInv q:=by
 unfold doM at e;split at e;cases e;rename_i O;obtain⟨_,J,D,Z,I,M⟩:=y5n (Classical.not_not.1 O);unfold opM at e;split at e;exact j0t h (D (by omega)) (J (by omega)) e;split at e;exact u9v h (D (by omega)) e;split at e;exact x8p (M (by omega)) h e;split at e;exact v9u h (D (by omega)) (I (by omega)) e;split at e;exact u1o h (D (by omega)) (I (by omega)) e;split at e;exact v9j h (D (by omega)) e;split at e;exact v7u h (I (by omega)) e;exact u1w h (I (by omega)) e
end Go.G08
namespace Go.G08
open Go.Lw Go.G21
section
variable {τ:TyK} {Mt:Nat} {wS w w' w2:World} {a:MA} {m:MQ} {j:Nat} {u:SV} {q:LpQ}
theorem MkM.row (h:MkM τ Mt wS a w m)(D:MtOk τ Mt)(hj:j<6)(hq:LpO τ wS.heap.size w q)(a1:∀k∈z0v (slv q.th),k∉z0v (slv m.fa))
    (h1:Lw.Own z4k τ.L wS.heap.size w' (slv u) ((m.ts.getD j tq0).2++[q])) (f1:Fr (z0v (slv (m.ts.getD j tq0).1)) w w') (hx:slv u=slv (m.ts.getD j tq0).1\/z0v (slv u)=z0v (slv (m.ts.getD j tq0).1)\/z0v (slv u)=[w.heap.size])
    (h2:Lw.Own z3l τ.T wS.heap.size w2 a.TV (m.ts.set j (u,(m.ts.getD j tq0).2++[q]))) (f2:Fr [a.gt] w' w2):MkM τ Mt wS a w2 { m with ts:=m.ts.set j (u,(m.ts.getD j tq0).2++[q]) }:=by
  have hl:j<m.ts.length:=by rw[h.lt];exact hj
  have I:∀T,T≠τ.L->OffT w T (z0v (slv (m.ts.getD j tq0).1)):=λT Z=>z2p (h.t.ins j hl) (Ne.symm Z)
  have J:=z1l h.t.out f1 (I _ D.o.tl)
  have M:∀T,T≠τ.T->OffT w' T [a.gt]:=λT Z=>z2p J (Ne.symm Z)
  refine⟨y7d (y7d h.k f1 (I _ D.l)) f2 (M _ D.t),BdO.tf (BdO.tf h.b f1 (I _ (Ne.symm D.o.ls)) (I _ (Ne.symm D.o.li))) f2 (M _ (Ne.symm D.o.ts)) (M _ (Ne.symm D.o.ti)),
    (h.y.tf f1 (I _ D.o.yl) (I _ (Ne.symm D.o.lp))).tf f2 (M _ D.o.yt) (M _ (Ne.symm D.o.tp)),h.t.put D.o hl hq h1 f1 hx h2 f2,(h.c.tf f1 (I _ D.l)).tf f2 (M _ D.t),z1l (z1l h.f f1 (I _ (Ne.symm D.o.li))) f2 (M _ (Ne.symm D.o.ti)),h.fb,λi hi p O=>?_,h.ly,by rw[List.length_set];exact h.lt,h.gk,h.gc,(h.fr.step f1 (y6y (h.t.ins j hl) (by simp[v7j])) λk hk a0=>?_).step f2 (y6y J (by simp[v7j])) λk hk a0=>?_⟩
  · simp only at O
    rw[z1j hl]at O
    split at O
    · rcases List.mem_append.1 O with k|k
      · exact h.ft j hj p k
      · rw[List.mem_singleton.1 k];exact a1
    · exact h.ft i hi p O
  · have:=((h.t.ins j hl).blk k hk).1;omega
  · have:=(h.t.out.blk k hk).1;omega
theorem u8n {p:MSt}{o:MOp}{st:List LId}(h:MInv p)(hy:1<=o.y/\o.y<=6)(hs:st=[]\/(st=p.B.at o.b o.p/\st.length<4))(O:mkE (p.y o.y)=0) :
    (st++[(⟨o.y,(p.y o.y).ct⟩:LId)]).length<=4/\(∀i∈st++[(⟨o.y,(p.y o.y).ct⟩:LId)],y1b i)/\∀i,p.B.flat.count i+(st++[(⟨o.y,(p.y o.y).ct⟩:LId)]).count i<=(p.B.at o.b o.p).count i+1:=by
  obtain⟨j,hj,a3⟩:∃j:Nat,j<6/\o.y=(j:Int)+1:=⟨(o.y-1).toNat,by omega,by omega⟩
  have M:(o.y-1).toNat=j:=by omega
  have J:=h.yn j hj
  have a1:p.y o.y=p.ys.getD j yn0:=by unfold MSt.y;rw[M]
  rw[<-a1]at J
  have a0:(p.y o.y).inn=true/\(p.y o.y).ct≠2048:=by
    unfold mkE at O
    split at O
    · exact absurd O (by assumption)
    · split at O
      · omega
      · rename_i D
        split at O
        · omega
        · rename_i hk;exact⟨by simpa using D,hk⟩
  have a2:=J.1.1
  have I:∀i∈p.B.flat,i≠⟨o.y,(p.y o.y).ct⟩:=λi D e=>by
    have:=h.has i D
    rw[e]at this
    obtain⟨_,_,_,h4⟩:=this
    simp only at h4
    rw[M,J.2]at h4
    omega
  have Z:∀i∈st,i∈p.B.flat:=λi D=>by
    rcases hs with e|⟨e,_⟩
    · rw[e]at D;cases D
    · rw[e]at D;exact y0e D
  refine⟨?_,λi D=>?_,λi=>?_⟩
  · rw[List.length_append,List.length_singleton]
    rcases hs with e|⟨_,e⟩
    · rw[e];simp
    · omega
  · rcases List.mem_append.1 D with k|k
    · exact h.B.nm i (Z i k)
    · rw[List.mem_singleton.1 k];unfold y1b;simp only;omega
  · have hd:=List.nodup_iff_count.1 h.B.nd i
    rw[List.count_append,List.count_singleton]
    by_cases e:(⟨o.y,(p.y o.y).ct⟩:LId)=i
    · have h0:p.B.flat.count i=0:=List.count_eq_zero.2 λk=>I i k e.symm
      have h1:st.count i=0:=List.count_eq_zero.2 λk=>I i (Z i k) e.symm
      rw[h0,h1];split<;>omega
    · rw[if_neg (by simpa using e)]
      rcases hs with e|⟨e,_⟩
      · rw[e];simp only[List.count_nil];omega
      · rw[e];omega
end
end Go.G08
namespace Go.Lw
theorem y3p {ι:Type}{pq:Option Nat}{P:Program}{ops:Array Oper}{K:Act->World->Prop}{C:World->Prop}{fu:Nat}{listed:Array Bool}{a:Act}{w:World}{ds:List Nat}{n:Nat}{L:List (Nat×Value)}(h:AgM ds a n L)(O:List (Nat×Value))(_hs:Sub O L)(D:Array Bool)(J:Nat)(M:ι->List (Nat×Value))(R:ι->World->Prop)
    (main:(∀(i:ι) Z I w',Z=D->AgM ds I n (O++M i)->R i w'->z0x pq P ops (z0p K) C J Z I w')->z0x pq P ops (z0p K) C fu listed a w)
    (tail:∀i I w',R i w'->AgM ds I n (O++M i)->z0x pq P ops (z0p K) C J D I w'):z0x pq P ops (z0p K) C fu listed a w:=
  main λi Z I w' e ha hr=>by subst e;exact tail i I w' hr ha
end Go.Lw
