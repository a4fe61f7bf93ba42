/- Texts of the proof, joined. -/
import Derived.Test.YtlfdhllfmoplgaaGreatDoorRows
import Derived.Test.YtlfdhllfmoplgaaGreatDoorRE7
set_option linter.unusedVariables false
set_option linter.unusedSimpArgs false
set_option maxHeartbeats 4000000
namespace Go.Proofs.YtlfdhllfmoplgaaGreatDoor
open Go.Lw Go.G21 Go.G08 Go.G09 Go.G26 _root_.Go.Proofs.Tryz
theorem sz4:z1r prog 4 1:=λ_=>kr
theorem k5c (w:World):(zeroValue 306).run prog w=.ok (.agg #[(.bool false),(.bool false),(.bool false),(.bool false),(.bool false),(.bool false),(.bool false),(.bool false),(.bool false)]) w:=kr
theorem u1k {f:List UInt8}{i:Nat}(s:UInt8->UInt8)(h:i<f.length):((f.take i).map s++f.drop i).set i (s<|f.getD i 0)=(f.take<|i+1).map s++f.drop (i+1):=by
 rw[l52 _ _ so,show i-((f.take i).map s).length=0 by simp;omega,l31 h,l128,l53,l10 h,l33,l14,List.getD,l10 h];rfl
theorem u9o {f:List UInt8}{i:Nat}(s:UInt8->UInt8)(h:i<f.length):((f.take i).map s++f.drop i).getD i 0=f.getD i 0:=by
 rw[List.getD,l28 so,show i-((f.take i).map s).length=0 by simp;omega,l94];rfl
theorem v6x {f:List UInt8}{i:Nat}(s:UInt8->UInt8):((f.take i).map s++f.drop i).length=f.length:=so
theorem j5u {f:List UInt8}{i:Nat}(s:UInt8->UInt8)(h:i<f.length)(e:s (f.getD i 0)=f.getD i 0):(f.take i).map s++f.drop i=(f.take<|i+1).map s++f.drop (i+1):=by
 rw[<-u1k s h,e];refine l73 sp0 λj D I=>?_;rw[List.getElem_set];split;rename_i e2;subst e2;have:=u9o s h;rw[List.getD,l10 D]at this;exact this;rfl
theorem x7l (f:List UInt8)(D k base:Nat)(w0:World)(ho:Lw.Own Enc.b 5 base w0 (.slice (saa D) f.length f.length) f)(hk:k<200)(hn:f.length<=8):Rets prog 102 #[.slice (saa D) f.length f.length,.int .i64 (k:Int)] w0 λr w'=>r=.slice (saa D) f.length f.length/\Lw.Own Enc.b 5 base w' (.slice (saa D) f.length f.length) (f.map<|swK k)/\Fr [D] w0 w':=by
 have a0:((UInt8.ofNat<|k+1).toNat:Int)=(k:Int)+1:=by rw[l40];omega
 have a1:((UInt8.ofNat k).toNat:Int)=(k:Int):=by rw[l40];omega
 refine we [(0,.slice (saa D) f.length f.length),(1,.int .i64 (k:Int))] func102 U ntmps102 U (.c2 U U)<|sr<|asg U<|nn<|sq<|sr<|mv U U<|lnS U underlying51<|mv U U<|nn<|bl<|lpK (ι:=Nat) (ll4 0 1 7 8) (λi=>[(9,.int .i64 (i:Int))]) (λi w'=>Fr [D] w0 w'/\i<=f.length/\Lw.Own Enc.b 5 base w' (.slice (saa D) f.length f.length) ((f.take i).map (swK k)++f.drop i)) (λi=>f.length-i) 0 (csu U) ⟨l12 _ _,⟨l17 _,by simpa using ho⟩⟩ ?_;rintro i w1 ⟨Z,⟨hi,ho⟩⟩;refine kpC (ll5 0 1 7 8 9) (csu U)<|sr<|lt' U<|nn<|sq<|cd U (λc0=>?_)<|λc0=>?_;have O:=u9o (swK k) (show i<f.length by omega);have a2:=(f.getD i 0).toNat_lt;rw[<-O]at a2;have a5:=congrArg UInt8.toNat O;have a4:=v6x (f:=f) (i:=i)<|swK k;refine sk<|tn<|sq<|bl<|sr<|mv U U<|z1b (0) U ho.sl U y4i z1j<|λa3 I=>?_;refine z1c U (I _ ho.sl) na5<|asg U<|asg U<|nn<|sr<|mv U U<|z3v U (us underlying5) underlying3 (wi6 oo)<|nn<|bl<|sr<|mv U U<|eq' U<|asg U<|nn<|cd U (λc1=>?_)<|λc1=>?_;refine rg<|mv U U<|mv U U<|mv U U<|z0v U (wi6 oo)<|z3v U (us underlying3) underlying5 ((wi8 oo).trans a0.symm)<|z5p (p:=i) (E:=Enc.b) U y4i<|z3i (i:=i) ((UInt8.ofNat<|k+1)) U ho (by rw[v6x];omega) U sz5<|λw2 ho q2 z2=>?_;exact kpL (ll5 0 1 7 8 9) (csu U)<|nl<|bn'<|bn'<|tn<|rg<|z0v U (wi6 oo)<|mv U U<|nl<|lpE (i+1) (csu U) ⟨((l12 [D] _).z2 Z q2),⟨oo,by rw[<-u1k (swK k) (show i<f.length by omega),show swK k (f.getD i 0)=UInt8.ofNat (k+1) from if_pos oo];exact ho⟩⟩ oo;refine sr<|mv U U<|z0v U (wi6 oo)<|eq' U<|asg U<|nn<|cd U (λc2=>?_)<|λc2=>?_;refine rg<|mv U U<|mv U U<|mv U U<|z3v U (us underlying3) underlying5 ((wi8 oo).trans a1.symm)<|z5p (p:=i) (E:=Enc.b) U y4i<|z3i (i:=i) ((UInt8.ofNat k)) U ho (by rw[v6x];omega) U sz5<|λw3 ho q3 z3=>?_;exact kpL (ll5 0 1 7 8 9) (csu U)<|nl<|bn'<|bn'<|tn<|rg<|z0v U (wi6 oo)<|mv U U<|nl<|lpE (i+1) (csu U) ⟨((l12 [D] _).z2 Z q3),⟨oo,by rw[<-u1k (swK k) (show i<f.length by omega),show swK k (f.getD i 0)=UInt8.ofNat k from (if_neg oo).trans<|if_pos oo];exact ho⟩⟩ oo;exact sk<|bn'<|bn'<|tn<|rg<|z0v U (wi6 oo)<|mv U U<|nl<|lpE (i+1) (csu U) ⟨((l12 [D] _).z1 Z),⟨oo,by rw[<-j5u (swK k) (show i<f.length by omega) ((if_neg oo).trans<|if_neg oo)];exact ho⟩⟩ oo;obtain rfl:i=f.length:=by omega
 rw[l39,List.drop_length,l27]at ho;exact ex<|te<|te<|xh<|tn<|sr<|mv U U<|asg U<|kpL (ll1 4) (csu U)<|nn<|rt<|r1 results102 U ⟨_,rfl,rfl,ho,((l12 [D] _).z1 Z)⟩
theorem k0r {T:List Bool}{i j:Nat}(h:i<T.length):(T.set i true).getD j false=if i=j then true else T.getD j false:=by
 rw[List.getD,l112];split;rename_i e;subst e;simp[h];rfl
theorem j6d (v:Value)(f:List UInt8)(w0:World)(hs:Sl Enc.b w0 v f)(hp:v6e f.length f)(hn:1<=f.length/\f.length<=8):Rets prog 196 #[v] w0 λr w'=>r=.int .i64 0/\Fr [] w0 w':=by
 obtain⟨A,c,rfl,a7⟩:=id hs.form;refine we [(0,.slice A f.length c)] func196 U ntmps196 U (.cons U .nil) ?_;have a5:=hs;refine sr<|asg U<|nn<|sq<|sr<|mv U U<|lnS U underlying51<|gt' U<|nn<|cd U (λc0=>?_)<|λc0=>?_;exfalso;omega;refine sk<|tn<|sq<|sr<|mv U U<|lnS U underlying51<|eq' U<|nn<|cd U (λc1=>?_)<|λc1=>?_;exfalso;omega;refine sk<|tn<|sr<|al k5c U<|λg3 w1 a8 D q1 z1=>(nn<|sq<|sr<|mv U U<|lnS U underlying51<|mv U U<|nn<|bl ?_);refine lpK (ι:=Nat×List Bool) (ll4 0 3 12 13) (λI=>[(14,.int .i64 (I.1:Int))]) (λI w'=>Fr [g3] w1 w'/\I.1<=f.length/\I.2.length=9/\(∀x,I.2.getD x false=true->∃j,j<I.1/\(f.getD j 0).toNat=x)/\Blk w' g3 306 (bls I.2)) (λI=>f.length-I.1) (0,List.replicate 9 false) (csu U) ⟨l12 _ _,⟨l17 _,rfl,λx O=>by rw[List.getD,l65]at O;split at O<;>simp at O,D⟩⟩ ?_;rintro⟨i,T⟩ w2 ⟨q2,⟨hi,a1,Z,D⟩⟩;simp only at hi a1 Z D;have a3:=D.lt;refine kpC [(0,_),(3,_),(12,_),(13,_),(14,.int .i64 (i:Int))] (csu U)<|sr<|lt' U<|nn<|sq<|cd U (λc2=>?_)<|λc2=>?_;have a0:i<f.length:=by omega
 have a9:=hp.2.2 _<|z0z (d:=0) a0;have a4:¬T.getD (f.getD i 0).toNat false=true:=λe=>by
  obtain⟨j,hj,e2⟩:=Z _ e;have e3:=UInt8.toNat.inj e2;rw[List.getD,List.getD,l10 a0,l10 (show j<f.length by omega)]at e3;exact absurd ((List.getElem_inj (h₀:=by omega) (h₁:=a0) hp.2.1).1 e3) oo
 refine sk<|tn<|sq<|bl<|sr ?_;have hs:=a5.ext<|q1.z1 q2;refine z1b (p:=i) (0) U hs U y4i oo<|λa6 a2=>(z1c U (a2 _ hs) na5<|asg U<|nn<|sq<|sq<|rbo (r:=31) (L':=ll6 0 3 5 12 13 14) ((((((f.getD i 0).toNat:Int)<1)\/((f.length:Int)<((f.getD i 0).toNat:Int)))\/(T.getD (f.getD i 0).toNat false=true))) (csu U) ?_ ?_);refine mv U U<|lt' U<|mv U U<|gs 20 U (λhh=>absurd hh oo)<|λg0=>(gY U<|mv U U<|gY U<|z3v U (us underlying5) underlying3 (wi6 oo)<|gY U<|mv U U<|gY U<|lnS U underlying51<|gY U<|gt' U<|pkf U<|mv U U<|gs 27 U (λhh=>absurd hh oo)<|λg1=>?_);exact gY U<|mv U U<|gY U<|z9y U U underlying306 sz4<|gY U<|z0j U D (k5o (j:=(f.getD i 0).toNat) oo oo) na4<|pkf U<|rbe U<|csu U;refine tn<|cd U (λc3=>?_)<|λc3=>?_;exact absurd (c3.resolve_left<|λh=>oo) a4;refine sk<|tn<|rg<|mv U U<|z9y U U underlying306 sz4<|z3j U D U sz4 (λw3 D q3 z3=>?_) (ho:=(by rw[Nat.blt_eq,bls,l18];omega));replace D:Blk w3 g3 306 (bls<|T.set (f.getD i 0).toNat true):=by rw[bls,l124];rw[bls]at D;simpa using D
 refine nl<|bn'<|tn<|rg<|z0v U (wi6 oo)<|mv U U<|nl ?_;exact lpE ((i+1,T.set (f.getD i 0).toNat true)) (csu U) ⟨((l12 [g3] _).z2 q2 q3),⟨sm,by rw[l19];exact a1,λx O=>by
  simp only at O;rw[k0r oo]at O;split at O;rename_i e;exact⟨i,Nat.lt_succ_self _,e⟩;obtain⟨j,hj,e⟩:=Z x O;exact⟨j,Nat.lt_succ_of_lt hj,e⟩,D⟩⟩ sm
 exact ex<|te<|te<|xh<|tn<|sr<|asg U<|kpL (ll1 2) (csu U)<|nn<|rt<|r1 results196 U ⟨_,rfl,rfl,(q1.z1 q2)⟩
theorem v2z:CallOf prog 150:=mkC func150
theorem k6p (w:World):(zeroValue 307).run prog w=.ok (.agg #[(.int .u8 0),(.int .u8 0),(.int .u8 0),(.int .u8 0),(.int .u8 0),(.int .u8 0),(.int .u8 0),(.int .u8 0)]) w:=kr
theorem k2s {f:List UInt8}{i n:Nat}(s:UInt8->UInt8)(h:i<f.length)(hn:n=f.length):(List.replicate (n-i) 0++((f.take i).map s).reverse).set (n-1-i) (s<|f.getD i 0)=List.replicate (n-(i+1)) 0++((f.take<|i+1).map s).reverse:=by
 subst hn;rw[show f.length-i=f.length-(i+1)+1 by omega,List.replicate_succ',l14,l52 _ _ so,l22,show f.length-1-i-(f.length-(i+1))=0 by omega,l53,l10 h,l33,List.reverse_append,List.getD,l10 h];rfl
theorem k0e {f:List UInt8}{i n:Nat}(s:UInt8->UInt8)(h:i<=f.length)(hn:n=f.length):(List.replicate (n-i) 0++((f.take i).map s).reverse).length=n:=by subst hn;simp;omega
theorem k1o {n:Nat}{x:UInt8}(D:1<=x.toNat/\x.toNat<=n)(hn:n<=8):((UInt8.ofNat (n+1)-x).toNat:Int)=(n:Int)+1-(x.toNat:Int):=by
 rw[UInt8.toNat_sub_of_le _ _ (by rw[UInt8.le_iff_toNat_le,l40];omega),l40];omega
theorem u5f (v:Value)(f:List UInt8)(w0:World)(O:Sl Enc.b w0 v f)(hp:v6e f.length f)(hn:1<=f.length/\f.length<=8):Rets prog 145 #[v] w0 λr w'=>(∃g,r=.tuple #[.slice (saa g) f.length f.length,.int .i64 0]/\Lw.Own Enc.b 5 w0.heap.size w' (.slice (saa g) f.length f.length) (flF f.length f))/\Fr [] w0 w':=by
 obtain⟨A,c,rfl,a7⟩:=id O.form;have a0:((UInt8.ofNat<|f.length+1).toNat:Int)=(f.length:Int)+1:=by rw[l40];omega
 refine we [(0,.slice A f.length c)] func145 U ntmps145 U (.cons U .nil) ?_;have a4:=O;refine sr<|asg U<|asg U<|nn<|sq<|sr<|mv U U<|cl (ev1 U) (mkC func196) (j6d _ f _ O hp hn) U ?_;rintro _ w1 ⟨rfl,q1⟩;have z1:=q1.size;refine asg U<|nn<|sr<|mv U U<|ne' U<|nn<|cd U (λc0=>?_)<|λc0=>?_;exact absurd U c0;refine sk<|tn<|sr<|mv U U<|lnS U underlying51<|asg U<|nn<|sr<|mv U U<|z1f (m:=f.length) (c:=f.length) ((0:UInt8)) U y4i zv5 U<|λD w2 a6 I q2 z2=>(asg U<|nn<|sq<|sr<|mv U U<|lnS U underlying51<|mv U U<|nn<|bl<|lpK (ι:=Nat) (ll4 5 6 18 19) (λi=>[(20,.int .i64 (i:Int))]) (λi w'=>Fr [D] w2 w'/\i<=f.length/\Lw.Own Enc.b 5 D w' (.slice (saa D) f.length f.length) (List.replicate (f.length-i) 0++((f.take i).map<|λx=>UInt8.ofNat (f.length+1)-x).reverse)) (λi=>f.length-i) 0 (csu U) ⟨l12 _ _,⟨l17 _,by simpa using I⟩⟩ ?_);rintro i w3 ⟨q3,⟨hi,I⟩⟩;have z3:=q3.size;refine kpC (ll5 5 6 18 19 20) (csu U)<|sr<|lt' U<|nn<|sq<|cd U (λc1=>?_)<|λc1=>?_;have a2:i<f.length:=by omega
 have a3:=hp.2.2 _<|z0z (d:=0) a2;have a1:=k1o a3 hn.2;refine sk<|tn<|sq<|bl<|sr<|mv U U ?_;have O:=a4.ext<|q1.z2 q2 q3;refine z1b (0) U O U y4i z1j<|λa5 Z=>?_;refine z1c U (Z _ O) na5<|asg U<|asg U<|nn<|rg<|mv U U<|mv U U<|z2j U (wi6 oo)<|mv U U<|z2j U (wi6 oo)<|mv U U<|z0v U (wi6 oo)<|z3v U (us underlying3) underlying5 ((wi8 oo).trans a0.symm)<|mv U U<|z2j U ((wi8 oo).trans (by rw[a1];omega):IntKind.u8.wrap (((UInt8.ofNat<|f.length+1).toNat:Int)-((f.getD i 0).toNat:Int))=((UInt8.ofNat (f.length+1)-f.getD i 0).toNat:Int))<|z5p (p:=(f.length-1-i)) (E:=Enc.b) U y4i<|z3i (i:=(f.length-1-i)) ((UInt8.ofNat (f.length+1)-f.getD i 0)) U I (by rw[k0e _ oo U];omega) U sz5<|λw4 I q4 z4=>?_;rw[k2s (λx=>UInt8.ofNat (f.length+1)-x) oo U]at I;exact kpL (ll5 5 6 18 19 20) (csu U)<|nl<|bn'<|tn<|rg<|z0v U (wi6 oo)<|mv U U<|nl<|lpE (i+1) (csu U) ⟨((l12 [D] _).z2 q3 q4),⟨oo,I⟩⟩ oo;obtain rfl:i=f.length:=by omega
 rw[l95,List.replicate_zero,l46,l39]at I;exact ex<|te<|te<|xh<|tn<|sr<|mv U U<|asg U<|asg U<|kpL (ll2 2 3) (csu U)<|nn<|rt<|r2 results145 U U ⟨_,rfl,⟨D,rfl,I.low oo⟩,(q1.z2 q2 q3)⟩
theorem v5t (v:Value)(f:List UInt8)(d:Int)(w0:World)(Z:Sl Enc.b w0 v f)(hp:v6e f.length f)(hn:1<=f.length/\f.length<=8):Rets prog 101 #[v,.int .i64 d] w0 λr w'=>(∃g,r=.slice (saa g) f.length f.length/\Lw.Own Enc.b 5 w0.heap.size w' r (if d % 2=0 then f else flF f.length f))/\Fr [] w0 w':=by
 obtain⟨A,c,rfl,a2⟩:=id Z.form;refine we [(0,.slice A f.length c),(1,.int .i64 d)] func101 U ntmps101 U (.c2 U U) ?_;have a3:=Z;refine sr<|asg U<|nn<|sq<|sr<|mv U U<|k5p U U U<|eq' U<|nn<|cd U (λD=>?_)<|λD=>?_;rw[v0o]at D;refine sr<|mv U U<|cl (ev1 U) (mkC func144) (j8j _ f _ Z hn.2) U ?_;rintro _ w1 ⟨⟨a0,rfl,I⟩,q1⟩;exact asg U<|nn<|rt<|tr<|r1 results101 U ⟨_,rfl,⟨a0,rfl,by rw[if_pos D];exact I.low oo⟩,q1⟩;rw[v0o]at D;refine sk<|tn<|sr<|mv U U<|cl (ev1 U) (mkC func145) (u5f _ f _ Z hp hn) U ?_;rintro _ w2 ⟨⟨a1,rfl,O⟩,q2⟩;exact mv U U<|xt U<|xt U<|asg U<|asg U<|kpL (ll1 5) (csu U)<|nn<|sr<|mv U U<|asg U<|nn<|rt<|r1 results101 U ⟨_,rfl,⟨a1,rfl,by rw[if_neg D];exact O.low oo⟩,q2⟩
theorem k1y {n:Nat}(hn:n<=8){p:Pm n}{B:List UInt8}(hl:B.length=8)(h:∀j:Nat,(hj:j<n)->B.getD (p.f ⟨j,hj⟩).1 0=UInt8.ofNat j):B.take n=p.bl:=by
 refine y8o (n:=n) t18 (x3z p) λi hi=>?_;rw[v9h p hi,<-h _ (p.b ⟨i,hi⟩).2,show (⟨(p.b ⟨i,hi⟩).1,(p.b ⟨i,hi⟩).2⟩:Fin n)=p.b ⟨i,hi⟩ from U,p.fb,List.getD,List.getD,l51,if_pos hi]
theorem v7e {n:Nat}(hn:n<=8)(p:Pm n){i:Nat}(h:i<n):(p.l.getD i 0).toNat=(p.f ⟨i,h⟩).1+1:=by
 rw[y6s p h,l40];have:=(p.f ⟨i,h⟩).2;omega
theorem j7o {B:List UInt8}{i k:Nat}{z:UInt8}(h:i<B.length):(B.set i z).getD k 0=if i=k then z else B.getD k 0:=j4w h
theorem x7t (n:Nat)(p:Pm n)(v:Value)(w0:World)(hs:Sl Enc.b w0 v p.l)(hn:n<=8):Rets prog 198 #[v] w0 λr w'=>(∃s:Nat,r=.int .u8 (s:Int)/\StB p.bl n s)/\Fr [] w0 w':=by
 obtain⟨A,c,rfl,a8⟩:=id hs.form;have b1:=z3a p;refine we [(0,.slice A p.l.length c)] func198 U ntmps198 U (.cons U .nil) ?_;have a5:=hs;refine sr<|asg U<|nn<|sr<|al k6p U<|λg3 w1 a9 D q1 z1=>(nn<|sq<|sr<|mv U U<|lnS U underlying51<|mv U U<|nn<|bl<|lpK (ι:=Nat×List UInt8) (ll4 0 3 6 7) (λZ=>[(8,.int .i64 (Z.1:Int))]) (λZ w'=>Fr [g3] w1 w'/\Z.1<=n/\Z.2.length=8/\(∀j:Nat,(hj:j<n)->j<Z.1->Z.2.getD (p.f ⟨j,hj⟩).1 0=UInt8.ofNat j)/\Blk w' g3 307 (Z.2.map λz=>Value.int .u8 (z.toNat:Int))) (λZ=>n-Z.1) (0,List.replicate 8 0) (csu U) ⟨l12 _ _,⟨l17 _,rfl,λj _ h=>absurd h sp0,D⟩⟩ ?_);rintro⟨i,B⟩ w2 ⟨q2,⟨hi,O,a0,D⟩⟩;simp only at hi O a0 D;have a2:=D.lt;refine kpC [(0,_),(3,_),(6,_),(7,_),(8,.int .i64 (i:Int))] (csu U)<|sr<|lt' U<|nn<|sq<|cd U (λc0=>?_)<|λc0=>?_;have I:i<n:=by omega
 have b0:=v7e hn p I;have hfl:=(p.f ⟨i,I⟩).2;have a3:((UInt8.ofNat i).toNat:Int)=(i:Int):=by rw[l40];omega
 refine sk<|tn<|sq<|bl<|sr<|mv U U ?_;have hs:=a5.ext<|q1.z1 q2;refine z1b (p:=i) (0) U hs U y4i oo<|λa7 a1=>(z1c U (a1 _ hs) na5<|asg U<|asg U<|nn<|rg<|mv U U<|z2j U ((wi8 oo).trans oo:IntKind.u8.wrap (((p.l.getD i 0).toNat:Int)-1)=((p.f ⟨i,I⟩).1:Int))<|mv U U<|z3v U (us underlying3) underlying5 (wi8 oo)<|z9y U U underlying307 sz5<|z3j U D U sz5 (λw3 D q3 z3=>?_) (ho:=(by rw[Nat.blt_eq,l18];omega)));replace D:Blk w3 g3 307 ((B.set (p.f ⟨i,I⟩).1<|UInt8.ofNat i).map λz=>Value.int .u8 (z.toNat:Int)):=by rw[l124,a3];simpa using D
 refine kpL (ll5 0 3 6 7 8) (csu U)<|nl<|bn'<|tn<|rg<|z0v U (wi6 oo)<|mv U U<|nl ?_;exact lpE ((i+1,B.set (p.f ⟨i,I⟩).1<|UInt8.ofNat i)) (csu U) ⟨((l12 [g3] _).z2 q2 q3),⟨sm,by rw[l19];exact O,λj hj a4=>by
  simp only at a4 ⊢;rw[j7o oo];split;rename_i e;exact congrArg UInt8.ofNat (show i=j from congrArg Fin.val<|p.f_inj<|Fin.ext e);rename_i e;refine a0 j hj<|Nat.lt_of_le_of_ne oo<|λe2=>e ?_;subst e2;rfl,D⟩⟩ sm
 obtain rfl:n=i:=by omega
 refine ex<|te<|te<|xh<|tn<|sr<|mv U U<|lnS U underlying51<|j9i (m:=n) U U oo hn underlying307 sz5 U<|cl (ev1 U) v2z (by have x:=x2o _ p.bl _ (by have y:=j4g (m:=n) D O dd hn;rw[k1y hn O (λj hj=>a0 j hj oo)]at y;exact y) (by rw[x3z];exact hn);rw[x3z]at x;exact x) U ?_;rintro _ w4 ⟨⟨s,rfl,a6⟩,q4⟩;exact asg U<|kpL (ll1 2) (csu U)<|nn<|rt<|r1 results198 U ⟨_,rfl,⟨s,rfl,a6⟩,(q1.z2 q2 q4)⟩
open Go.Lw Go.G21 Go.G08 Go.G09 Go.G26 _root_.Go.Proofs.Tryz
variable {n:Nat}
def k3v (p q:Pm n)(s:Nat):Prop:=s<256/\∀j,s.testBit j=true↔∃h:j+1<n,Pm.Sb q ⟨j,h⟩/\¬Pm.Eb p ⟨j,h⟩
theorem x6z {p q:Pm n}{O D:Nat}(hn:n<=8)(h1:StB q.l n O)(I:StB p.bl n D):k3v p q (O &&& (255-D)):=by
 refine⟨Nat.lt_of_le_of_lt Nat.and_le_left h1.1,λj=>?_⟩;have Z:(255-D).testBit j=(decide (j<8) && !D.testBit j):=by rw[show 255-D=2 ^ 8-(D+1) by omega];exact Nat.testBit_two_pow_sub_succ (n:=8) I.1 j
 rw[Nat.testBit_and,Z,h1.2,I.2,z3a,x3z];constructor;intro h;simp only[l107,decide_eq_true_eq,Bool.not_eq_true',decide_eq_false_iff_not]at h;exact⟨h.1.2.1,(j3i hn h.1.2.1).2 h.1.2.2,λe=>h.2.2 ⟨oo,h.1.2.1,(En_l hn h.1.2.1).1 e⟩⟩;rintro⟨h,a,b⟩;simp only[l107,decide_eq_true_eq,Bool.not_eq_true',decide_eq_false_iff_not];exact⟨⟨oo,h,(j3i hn h).1 a⟩,oo,λe=>b<|(En_l hn h).2 e.2.2⟩
theorem k1t {p q:Pm n}(h:k3v p q 0)(k:Lt n)(I:Pm.Sb q k):Pm.Eb p k:=Classical.byContradiction λD=>by
 have:=(h.2 k.1).2 ⟨k.2,I,D⟩
 rw[Nat.zero_testBit]at this;cases this
structure MvS (F G:Nat->Pm n) (a b:Nat) (t:Bool):Prop where
  o:∀g,g≠a->g≠b->G g=F g
  y:t=true->Mvp [F a,F b] [G a,G b]
  no:t=false->G=F
theorem MvS.start (F:Nat->Pm n)(a b:Nat):MvS F F a b false:=⟨λ_ _ _=>rfl,λh=>(by cases h),λ_=>rfl⟩
theorem MvS.mvs {F G:Nat->Pm n}{a b:Nat}{t:Bool}(h:MvS F G a b t):Mvs [F a,F b] [G a,G b]:=by
 cases t with
 | true=>exact(h.y U).mvs
 | false=>rw[h.no U];exact .refl
theorem MvS.step {F G:Nat->Pm n}{a b:Nat}{t:Bool}(h:MvS F G a b t)(D:a≠b){k:Lt n}(hs:Pm.Sb (G b) k)(Z:¬Pm.Eb (G a) k):MvS F (upF (upF G a<|Pm.sR k<|G a) b<|Pm.sL k<|G b) a b true:=by
 have e1:upF (upF G a<|Pm.sR k<|G a) b (Pm.sL k<|G b) a=Pm.sR k (G a):=(y5u D).trans<|y8l _ _ _;have e2:upF (upF G a<|Pm.sR k<|G a) b (Pm.sL k<|G b) b=Pm.sL k (G b):=y8l _ _ _;refine⟨λg I O=>by rw[y5u O,y5u I];exact h.o g I O,λ_=>?_,λh=>by cases h⟩;rw[e1,e2];have st:Mv [G a,G b] [Pm.sR k (G a),Pm.sL k (G b)]:=.here k hs Z;cases t with
 | true=>
  obtain⟨m,m1,m2⟩:=h.y U;exact⟨m,m1,m2.trans<|.one st⟩
 | false=>rw[h.no U]at st ⊢;exact⟨_,st,.refl⟩
theorem z7n {G:Nat->Pm n}{a b:Nat}(hn:n<=8){k:Lt n}(D:Pm.Sb (G b) k):y3b (upF (upF G a<|Pm.sR k<|G a) b (Pm.sL k<|G b) b).l<y3b (G b).l:=by
 rw[y8l];have:=v6q hn D;omega
theorem j1m (n:Nat)(wS w0:World)(A:List Nat)(F:Nat->Pm n)(I D:Nat)(hF:FacT 5 n wS w0 A F)(ha:I∈A)(hb:D∈A)(a6:I≠D)(hn:n<=8):Rets prog 197 #[.slice (saa I) n n,.slice (saa D) n n] w0 λr w'=>∃(t:Bool) (G:Nat->Pm n),r=.bool t/\FacT 5 n wS w' A G/\MvS F G I D t/\(∀k:Lt n,Pm.Sb (G D) k->Pm.Eb (G I) k)/\Fr [I,D] w0 w':=by
 refine we [(0,.slice (saa I) n n),(1,.slice (saa D) n n)] func197 U ntmps197 U (.c2 U U)<|sr<|asg U<|nn<|sr<|asg U<|nn<|sq<|sr<|mv U U<|cl (ev1 U) v2z (by have x:=x2o _ (F D).l _ (hF.r D hb).sl (by rw[z3a];exact hn);rw[z3a]at x;exact x) U ?_;rintro _ w1 ⟨⟨s1,rfl,a0⟩,q1⟩;refine mv U U ?_;have hF:=hF.ext q1;refine cl (ev1 U) (mkC func198) (x7t n (F I) _ _ (hF.r I ha).sl hn) U ?_;rintro _ w2 ⟨⟨s2,rfl,a1⟩,q2⟩;refine x6m U U a0.1 a1.1 U<|asg U<|nn<|bl ?_;have hF:=hF.ext q2;refine lpK (ι:=Bool×Nat×(Nat->Pm n)) (ll2 0 1) (λp_=>[(5,.bool p_.1),(6,.int .u8 (p_.2.1:Int))]) (λp_ w'=>Fr [I,D] w2 w'/\MvS F p_.2.2 I D p_.1/\k3v (p_.2.2 I) (p_.2.2 D) p_.2.1/\FacT 5 n wS w' A p_.2.2) (λp_=>y3b (p_.2.2 D).l) (false,s1 &&& (255-s2),F) (csu U) ⟨l12 _ _,⟨MvS.start F I D,x6z hn a0 a1,hF⟩⟩ ?_;rintro⟨t,s,G⟩ w3 ⟨q3,⟨hM,hS,hF⟩⟩;simp only at hM hS hF;refine kpC [(0,_),(1,_),(5,.bool t),(6,.int .u8 (s:Int))] (csu U)<|sq<|sr<|mv U U<|ne' U<|nn<|cd U (λc0=>?_)<|λc0=>?_;have a7:s≠0:=λe=>c0 (by rw[e];rfl);refine sk<|tn<|sq<|bl<|sr<|mv U U<|cl (ev1 U) (mkC func199) (k4r s _ a7 hS.1) U ?_;rintro _ w4 ⟨⟨k,rfl,b3,b7⟩,q4⟩;obtain⟨O,a2,b0⟩:=(hS.2 k).1 b3;have b8:=z3a<|G D;refine z0v U (wi6 oo)<|asg U<|kpL (ll3 0 1 7) (csu U)<|nn<|sr<|mv U U<|mv U U ?_;have hF:=hF.ext q4;refine cl (ev2 U) (mkC func102) (by have x:=x7l (G I).l I (k+1) 0 _ (by have y:=hF.r I ha;rw[z3a];exact y) oo (by rw[z3a];exact hn);rw[z3a]at x;exact x) U ?_;rintro _ w5 ⟨rfl,b1,q5⟩;replace hF:FacT 5 n wS w5 A (upF G I<|Pm.sR (⟨k,O⟩:Lt n)<|G I):=hF.upd ha q5 (by rw[k3l hn];exact b1);clear b1;have a9:=hF;have ho:Lw.Own Enc.b 5 0 w5 (.slice (saa D) n n) (G D).l:=by have y:=hF.r D hb;rw[y5u a6.symm]at y;exact y
 refine nn<|sq ?_;intro a h;refine z0h (some 17) (λwb w'=>Fr [D] wb w') z2r ?_;intro w6 q6;have ho:=ho.ext q6;have hC:Fr [D] w6 w6:=l12 _ _;have a5:=ho;refine z0e 0 h U λa h=>z0e 1 h U λa h=>z2v 2 h U t13 U λa h=>z0e 3 h U λa h=>z0e 4 h U λa h=>z0e 5 h U λa h=>z0e 6 h U λa h=>z1e (p:=(k+1)) (0) 7 h U ho.sl U y4i U λb5 a3 a h=>z0e 9 h U λa h=>z0e 10 h U λa h=>z2v 11 h U t13 U λa h=>z1e (p:=k) (0) 12 h U ho.sl U y4i U λb6 a4 a h=>z1w 8 13 kr U ?_ ?_;refine y0c h U (a3 _ ho.sl) na5 U λa h=>z0b<|z0d 13 U<|y0c h U (a4 _ ho.sl) na5 U λa h=>?_;refine z0b<|z1l 14 kr kr kr hC (p:=k) h wn U y4i oo oo oo U U λa h=>z0d 15 U<|z1a (i:=k) (((G D).l.getD (k+1) 0)) h U ho t48 U sz5 λw7 Z q7 _hz a h=>?_;have hC:=hC.sp q7;have ho:=Z;clear Z;refine z0b<|z1l 16 kr kr kr hC (p:=(k+1)) h wn U y4i oo oo oo U U λa h=>z0d 17 U<|z1a (i:=(k+1)) (((G D).l.getD k 0)) h U ho (by rw[l19,z3a];omega) U sz5 λw8 Z q8 _hz a h=>?_;have ho:=Z;clear Z;refine z1m<|z0p ?_;clear hC a5;have hF:FacT 5 n wS w8 A (upF (upF G I<|Pm.sR (⟨k,O⟩:Lt n)<|G I) D<|Pm.sL (⟨k,O⟩:Lt n)<|G D):=a9.upd hb ((l12 [D] _).z3 q6 q7 q8) (by rw[k4v];exact ho);refine bk (h.sub (L':=ll2 0 1)<|csu U)<|tn<|rg<|asg U<|nl<|bn'<|tn<|rg<|mv U U<|cl (ev1 U) v2z (by have x:=x2o _ ((upF (upF G I<|Pm.sR (⟨k,O⟩:Lt n)<|G I) D<|Pm.sL (⟨k,O⟩:Lt n)<|G D) D).l _ (hF.r D hb).sl (by rw[z3a];exact hn);rw[z3a]at x;exact x) U ?_;rintro _ w9 ⟨⟨s1,rfl,a0⟩,q9⟩;refine mv U U ?_;have hF:=hF.ext q9;refine cl (ev1 U) (mkC func198) (x7t n ((upF (upF G I<|Pm.sR (⟨k,O⟩:Lt n)<|G I) D<|Pm.sL (⟨k,O⟩:Lt n)<|G D) I) _ _ (hF.r I ha).sl hn) U ?_;rintro _ b9 ⟨⟨s2,rfl,a1⟩,q10⟩;refine x6m U U a0.1 a1.1 U<|asg U<|nl ?_;have hF:=hF.ext q10;exact lpE ((true,s1 &&& (255-s2),(upF (upF G I<|Pm.sR (⟨k,O⟩:Lt n)<|G I) D<|Pm.sL (⟨k,O⟩:Lt n)<|G D))) (csu U) ⟨((((l12 [I,D] _).z6 q3 q4 q5 q6 q7 q8).n1 q9).n1 q10),⟨hM.step a6 a2 b0,x6z hn a0 a1,hF⟩⟩<|z7n hn a2;refine y0c h U (a4 _ ho.sl) na5 U λa h=>z0b<|z0d 8 U<|y0c h U (a3 _ ho.sl) na5 U λa h=>?_;refine z0b<|z1l 14 kr kr kr hC (p:=k) h wn U y4i oo oo oo U U λa h=>z0d 15 U<|z1a (i:=k) (((G D).l.getD (k+1) 0)) h U ho t48 U sz5 λc1 Z a8 _hz a h=>?_;have hC:=hC.sp a8;have ho:=Z;clear Z;refine z0b<|z1l 16 kr kr kr hC (p:=(k+1)) h wn U y4i oo oo oo U U λa h=>z0d 17 U<|z1a (i:=(k+1)) (((G D).l.getD k 0)) h U ho (by rw[l19,z3a];omega) U sz5 λb4 Z b2 _hz a h=>?_;have ho:=Z;clear Z;refine z1m<|z0p ?_;clear hC a5;have hF:FacT 5 n wS b4 A (upF (upF G I<|Pm.sR (⟨k,O⟩:Lt n)<|G I) D<|Pm.sL (⟨k,O⟩:Lt n)<|G D):=a9.upd hb ((l12 [D] _).z3 q6 a8 b2) (by rw[k4v];exact ho);refine bk (h.sub (L':=ll2 0 1)<|csu U)<|tn<|rg<|asg U<|nl<|bn'<|tn<|rg<|mv U U<|cl (ev1 U) v2z (by have x:=x2o _ ((upF (upF G I<|Pm.sR (⟨k,O⟩:Lt n)<|G I) D<|Pm.sL (⟨k,O⟩:Lt n)<|G D) D).l _ (hF.r D hb).sl (by rw[z3a];exact hn);rw[z3a]at x;exact x) U ?_;rintro _ c9 ⟨⟨s1,rfl,a0⟩,q13⟩;refine mv U U ?_;have hF:=hF.ext q13;refine cl (ev1 U) (mkC func198) (x7t n ((upF (upF G I<|Pm.sR (⟨k,O⟩:Lt n)<|G I) D<|Pm.sL (⟨k,O⟩:Lt n)<|G D) I) _ _ (hF.r I ha).sl hn) U ?_;rintro _ d0 ⟨⟨s2,rfl,a1⟩,q14⟩;refine x6m U U a0.1 a1.1 U<|asg U<|nl ?_;have hF:=hF.ext q14;exact lpE ((true,s1 &&& (255-s2),(upF (upF G I<|Pm.sR (⟨k,O⟩:Lt n)<|G I) D<|Pm.sL (⟨k,O⟩:Lt n)<|G D))) (csu U) ⟨((((l12 [I,D] _).z6 q3 q4 q5 q6 a8 b2).n1 q13).n1 q14),⟨hM.step a6 a2 b0,x6z hn a0 a1,hF⟩⟩<|z7n hn a2;have a7:s=0:=by omega
 subst a7;refine ex<|te<|te<|xh<|tn<|sr<|mv U U<|asg U<|kpL (ll1 4) (csu U)<|nn<|rt<|r1 results197 U ?_;exact⟨_,rfl,t,G,rfl,hF,hM,λk hk=>k1t hS k hk,((l12 [I,D] _).z3 q1 q2 q3)⟩
open Go.Lw Go.G21 Go.G08 Go.G09 Go.G26 _root_.Go.Proofs.Tryz
theorem x3h:ElemOf prog 70 51 Enc.sl 24:=ElemOf.mk' (z:=(.slice none 0 0)) underlying70 kr U
variable {n:Nat}
theorem j7n {p:Pm n}(hn:n<=8):stN p.l=0↔p=Pm.one:=by
 have I:=j1b (l:=p.l) (by rw[z3a];exact hn);constructor;intro h;rw[h]at I;refine u9l λk O=>?_;have:=I.2 k.1;rw[Nat.zero_testBit,z3a]at this;have D:=k.2;exact absurd this.symm (by simp only[decide_eq_false_iff_not];exact λh=>h ⟨oo,D,(j3i hn D).1 O⟩);intro h;subst h;refine Nat.eq_of_testBit_eq λj=>?_;rw[I.2,Nat.zero_testBit,z3a];exact decide_eq_false λh=>j8l ⟨j,h.2.1⟩<|(j3i hn h.2.1).2 h.2.2
theorem k1w {p:Pm n}(hn:n<=8)(h1:1<=n):stN p.l=2 ^ (n-1)-1↔p=Pm.half:=by
 have D:=j1b (l:=p.l) (by rw[z3a];exact hn);constructor;intro h;rw[h]at D;refine u2o λk=>?_;have:=D.2 k.1;have I:=k.2;rw[Nat.testBit_two_pow_sub_one,z3a,decide_eq_true oo]at this;exact(j3i hn I).2 (of_decide_eq_true this.symm).2.2;intro h;subst h;refine Nat.eq_of_testBit_eq λj=>?_;rw[D.2,Nat.testBit_two_pow_sub_one,z3a];exact decide_eq_decide.2 ⟨λh=>oo,λh=>⟨oo,oo,(j3i hn (by omega:j+1<n)).1<|j5x _⟩⟩
structure PutP (F H G:Nat->Pm n) (L:List Nat) (i:Nat) (ag:Bool):Prop where
  o:∀x,x∉L->G x=F x
  m:Mvs (L.map F) (L.map G)
  y:ag=true->ms 0 (L.map G)<ms 0 (L.map H)
  no:ag=false->G=H/\∀j,i<j->j<L.length->∀k,Pm.Sb (G<|L.getD j 0) k->Pm.Eb (G<|L.getD (j-1) 0) k
theorem PutP.step {F H G D:Nat->Pm n}{L:List Nat}{i:Nat}{O t:Bool}(hn:n<=8)(h:PutP F H G L i O)(hd:L.Nodup)(h0:0<i)(hi:i<L.length)(hM:MvS G D (L.getD (i-1) 0) (L.getD i 0) t)(he:∀k,Pm.Sb (D<|L.getD i 0) k->Pm.Eb (D<|L.getD (i-1) 0) k):PutP F H D L (i-1) (O || t):=by
 have Z:=u5z (i:=i-1) hM.o hd oo U (by rw[Nat.sub_add_cancel h0]);have hG:Mvs (L.map G) (L.map D):=by rw[Z.1,Z.2];exact((hM.mvs).app _).pre _
 have a1:=hG.less hn;refine⟨λx hx=>by rw[hM.o x (λe=>hx (e▸z6d oo)) (λe=>hx (e▸z6d hi))];exact h.o x hx,h.m.trans hG,λha=>?_,λha=>?_⟩;cases O with
 | true=>have:=h.y U;omega
 | false=>
  obtain⟨m,m1,m2⟩:=hM.y (by simpa using ha);have e:ms 0 (L.map D)<ms 0 (L.map G):=by rw[Z.1,Z.2];exact Mvp.less hn ⟨_,(m1.app _).pre _,(m2.app _).pre _⟩
  rw[(h.no U).1]at e;exact e
 have I:O=false/\t=false:=by simpa using ha
 obtain⟨e1,e2⟩:=h.no I.1;have e3:=hM.no I.2;refine⟨e3.trans e1,λj hj a0=>?_⟩;by_cases e:j=i;subst e;exact he;rw[e3];exact e2 j oo a0
theorem PutP.fin {F H G:Nat->Pm n}{L:List Nat}(h:PutP F H G L 0 false):Ir (L.map G):=k2c λi f g hf D k=>by
 rw[l24]at hf D
 have hl:i+1<L.length:=by
  cases e:L[i+1]? with
  | none=>rw[e]at D;cases D
  | some x=>exact(l49.1 e).1
 have:=(h.no U).2 (i+1) oo hl k
 rw[l83,List.getD,List.getD]at this
 rw[l10 hl]at D this
 rw[l10 oo]at hf this
 cases hf;cases D
 exact this
structure PutS (F G:Nat->Pm n) (L:List Nat) (m:Nat):Prop where
  o:∀x,x∉L->G x=F x
  mv:Mvs (L.map F) (L.map G)
  ir:Ir (L.map G)
  z:∀x∈L.drop m,G x=Pm.one
  l:0<m->G (L.getD (m-1) 0)≠Pm.one
theorem y1t {L:List Nat}{i:Nat}(h:i<L.length):(Value.slice (some ⟨L.getD i 0,0,none⟩) n n:Value)=.slice ((L.map<|hdr n).getD i sv0).1 ((L.map<|hdr n).getD i sv0).2.1 ((L.map<|hdr n).getD i sv0).2.2:=by rw[j0o h]
theorem u6b {G:Nat->Pm n}{L:List Nat}{m:Nat}(I:0<m)(O:m<=L.length)(h:∀x∈L.drop m,G x=Pm.one)(e:G (L.getD (m-1) 0)=Pm.one):∀x∈L.drop (m-1),G x=Pm.one:=λx D=>by
 rw[l31 (show m-1<L.length by omega),Nat.sub_add_cancel I]at D
 rcases l55.1 D with rfl|D
 ·rw[List.getD,l10 (show m-1<L.length by omega)]at e;exact e
 exact h x D
theorem j5o {T b m c:Nat}{w:World}{A:Option Addr}{L:List Nat}(h:Lw.Own Enc.sl T b w (.slice A m c) ((L.take m).map<|hdr n))(D:0<m)(O:m<=L.length)(I:m<=c):Lw.Own Enc.sl T b w (.slice A (m-1) c) ((L.take<|m-1).map<|hdr n):=by
 have x:=h.take U (m:=m-1) (by rw[l18,l25];omega) (l20 c) oo;rwa [<-List.map_take,List.take_take,Nat.min_eq_left oo]at x
theorem y6x {L:List Nat}{m i:Nat}(h:i<m):(L.take m).getD i 0=L.getD i 0:=by rw[List.getD,List.getD,l51,if_pos h]
theorem j0j (n:Nat)(wS w0:World)(A:List Nat)(F:Nat->Pm n)(hs:List Nat)(gx:Nat)(v:Value)(I:FacT 5 n wS w0 A F)(hd:(hs++[gx]).Nodup)(hA:∀x∈hs++[gx],x∈A)(hv:Lw.Own Enc.sl 51 wS.heap.size w0 (v) (hs.map<|hdr n))(hl:hs.length<=100)(hn:n<=8):Rets prog 149 #[v,.slice (saa gx) n n] w0 λr w'=>∃(G:Nat->Pm n) (m:Nat),FacT 5 n wS w' A G/\m<=(hs++[gx]).length/\Lw.Own Enc.sl 51 wS.heap.size w' (r) (((hs++[gx]).take m).map<|hdr n)/\PutS F G (hs++[gx]) m/\Fr (z0u v++(hs++[gx])) w0 w':=by
 obtain⟨AV,cV,rfl,e7⟩:=id hv.sl.form;obtain⟨L,hL⟩:∃L,L=hs++[gx]:=⟨_,rfl⟩;have e6:L.length=hs.length+1:=by rw[hL,l13];rfl
 rw[<-hL]at hd hA ⊢;have b8:(hs.map<|hdr n).length=hs.length:=l18 ..;have f0:=I.f.size;refine we [(0,.slice AV (hs.map<|hdr n).length cV),(1,.slice (saa gx) n n)] func149 U ntmps149 U (.c2 U U)<|sr<|asg U<|nn<|sr<|mv U U<|mv U U<|z1i ([hdr n gx]) (ev1 U) U x3h<|λe5 w1 e4 c9 q1 z1=>?_;have I:=I.ext q1;have hv:=hv.ext q1;have a3:=hv;refine z2k U hv c9.sl x3h (λf1 w2 O q2 d7=>?_) (hM:=(by unfold maxLen;rw[b8];simp only[l34,l64];omega)) (hb:=(by rw[b8];simp only[l34,l64];omega));have I:=I.fr q2<|λk hk=>⟨I.ne a3 dd k hk,(a3.blk k hk).1⟩;refine asg U ?_;have d1:hs.map (hdr n)++[hdr n gx]=L.map (hdr n):=by rw[hL,l33];rfl
 rw[d1]at O;obtain⟨a4,a5,rfl,b4⟩:=O.sl.form;have a8:(L.map<|hdr n).length=L.length:=l18 ..;rw[a8]at b4;refine nn<|sr<|asg U<|nn<|sq<|sr<|asg U<|nn<|bl<|lpK (ι:=Bool×(Nat->Pm n)) (ll2 0 5) (λZ=>[(6,.bool Z.1)]) (λZ w'=>Fr L w2 w'/\FacT 5 n wS w' A Z.2/\Lw.Own Enc.sl 51 wS.heap.size w' (.slice a4 (L.map<|hdr n).length a5) (L.map<|hdr n)/\(∀x,x∉L->Z.2 x=F x)/\Mvs (L.map F) (L.map Z.2)/\(Z.1=false->Ir (L.map Z.2))) (λZ=>2*ms 0 (L.map Z.2)+(if Z.1=true then 1 else 0)) (true,F) (csu U) ⟨l12 _ _,I,O,λ_ _=>rfl,.refl,λh=>by cases h⟩ ?_;rintro⟨d0,H⟩ w3 ⟨D,I,O,a6,a7,b3⟩;simp only at I O a6 a7 b3 D;refine kpC [(0,_),(5,_),(6,.bool d0)] (csu U)<|sq<|sr<|mv U U<|nn<|cd U (λc0=>?_)<|λc0=>?_;refine sk<|tn<|bl<|sr<|asg U<|nn<|sr<|mv U U<|lnS U underlying70<|z2j U (show IntKind.i64.wrap (((L.map<|hdr n).length:Int)-1)=((L.length-1:Nat):Int) from (wi6 oo).trans oo)<|asg U<|nn<|bl<|lpK (ι:=Nat×Bool×(Nat->Pm n)) (ll2 0 5) (λZ=>[(7,.int .i64 (Z.1:Int)),(6,.bool Z.2.1)]) (λZ w'=>Fr L w2 w'/\Z.1<L.length/\PutP F H Z.2.2 L Z.1 Z.2.1/\FacT 5 n wS w' A Z.2.2/\Lw.Own Enc.sl 51 wS.heap.size w' (.slice a4 (L.map<|hdr n).length a5) (L.map<|hdr n)) (λZ=>Z.1) (L.length-1,false,H) (csu U) ⟨D,sm,⟨a6,a7,λh=>(by cases h),λ_=>⟨rfl,λj hj e8=>by simp only at hj;omega⟩⟩,I,O⟩ ?_;rintro⟨i,ag,G⟩ w4 ⟨D,a1,hP,I,O⟩;simp only at a1 hP I O D;refine kpC [(0,_),(5,_),(7,.int .i64 (i:Int)),(6,.bool ag)] (csu U)<|sq<|sr<|mv U U<|gt' U<|nn<|cd U (λc1=>?_)<|λc1=>?_;have d3:=hA _<|z6d (A:=L) (i:=i-1) oo;have d4:=hA _<|z6d a1;have d5:=v9c hd (i:=i-1) (j:=i) oo a1 oo;refine sk<|tn<|sq<|bl<|sq ?_;intro a h;refine z0h (some 10) (λwb w'=>Fr [(L.getD (i-1) 0),(L.getD i 0)] wb w') z2r ?_;intro w5 q5;have D:=D.ext q5;have I:=I.ext q5;have O:=O.ext q5;have hC:Fr [(L.getD (i-1) 0),(L.getD i 0)] w5 w5:=l12 _ _;have a9:=D;have b2:=I;have a2:=O;refine z0e 0 h U λa h=>z0e 1 h U λa h=>z0e 2 h U λa h=>z2v 3 h U t13 U λa h=>z1e (p:=(i-1)) (sv0) 4 h U O.sl U x3h U λd9 b5 a h=>z2g 5 h U (λ_ hw=>b5 _<|a2.sl.fr hw (by intro k hk hb;exact I.ne O dd k hb (by simp only[l55,l120,or_false]at hk;rcases hk with rfl|rfl<;>assumption))) v3l U λa h=>z0e 6 h U λa h=>z0e 7 h U λa h=>z1e (p:=i) (sv0) 8 h U O.sl U x3h U λe0 b6 a h=>z2g 9 h U (λ_ hw=>b6 _<|a2.sl.fr hw (by intro k hk hb;exact I.ne O dd k hb (by simp only[l55,l120,or_false]at hk;rcases hk with rfl|rfl<;>assumption))) v3l U λa h=>z0d 10 U ?_;refine y0t (us:=[]) (ws:=[]) h U (z0a U<|z0a U z0f) (mkC func197) (by have x:=j1m n wS _ A G (L.getD (i-1) 0) (L.getD i 0) I d3 d4 d5 hn;rw[y1t (n:=n) (show i-1<L.length by omega),y1t (n:=n) (show i<L.length by omega)]at x;exact x) U t14 ?_;rintro _ w6 ⟨t,G1,rfl,b1,hM,hE,hq⟩ a h;have D:=D.fr hq (λk hk _=>by simp only[l55,l120,or_false]at hk;rcases hk with rfl|rfl;exact z6d oo;exact z6d a1);have O:=O.fr hq (by intro k hk hb;exact I.ne O dd k hb (by simp only[l55,l120,or_false]at hk;rcases hk with rfl|rfl<;>assumption));have q6:=hq;have I:=b1;clear b1;refine z1m<|z0p ?_;clear hC a9 b2 a2;refine bk (h.sub (L':=ll5 0 5 6 7 30)<|csu U)<|tn<|cd U (λc2=>?_)<|λc2=>?_;exact rg<|asg U<|nl<|bn'<|tn<|rg<|mv U U<|z2j U (show IntKind.i64.wrap ((i:Int)-1)=((i-1:Nat):Int) from (wi6 oo).trans oo)<|asg U<|nl<|lpE ((i-1,true,G1)) (csu U) ⟨D,sm,by have x:=hP.step hn hd oo a1 hM hE;rw[c2,Bool.or_true]at x;exact x,I,O⟩ sm;exact sk<|bn'<|tn<|rg<|mv U U<|z2j U (show IntKind.i64.wrap ((i:Int)-1)=((i-1:Nat):Int) from (wi6 oo).trans oo)<|asg U<|nl<|lpE ((i-1,ag,G1)) (csu U) ⟨D,sm,by have x:=hP.step hn hd oo a1 hM hE;rw[show t=false by simpa using c2,Bool.or_false]at x;exact x,I,O⟩ sm;obtain rfl:i=0:=by omega
 refine ex<|te<|te<|xh<|bn' ?_;exact lpE ((ag,G)) (csu U) ⟨D,I,O,hP.o,hP.m,λe=>by simp only at e;subst e;exact hP.fin⟩ (by
  have hy:=hP.y;have d6:=hP.no;simp only[c0,if_true];by_cases e:ag=true;have:=hy e;rw[if_pos e];omega;rw[if_neg e,(d6 (by simpa using e)).1];omega)
 have b9:=b3 (by simpa using c0);refine ex<|te<|te<|xh<|tn<|sq<|bl<|lpK (ι:=Nat) [] (λm=>[(0,.slice a4 m a5)]) (λm w'=>Fr L w2 w'/\m<=L.length/\(∀x∈L.drop m,H x=Pm.one)/\FacT 5 n wS w' A H/\Lw.Own Enc.sl 51 wS.heap.size w' (.slice a4 m a5) ((L.take m).map<|hdr n)) (λm=>m) (L.map<|hdr n).length (csu U) ⟨D,by rw[a8];exact l20 _,λx hx=>(by rw[a8,List.drop_length]at hx;cases hx),I,by have y:=O;rw[a8]at y ⊢;rw[l39];exact y⟩ ?_;rintro m w7 ⟨D,hm,b0,I,a0⟩;refine kpC (ll1 0) (csu U) ?_;have e9:((L.take m).map<|hdr n).length=m:=by rw[l18,l25];omega
 refine sq<|sr<|mv U U<|lnS U underlying70<|gt' U<|mv U U<|gs 34 U (λg0=>?_)<|λg0=>?_;refine gY U<|mv U U<|gY U<|mv U U<|gY U<|lnS U underlying70<|gY U<|z2j U (wi6 oo)<|gY U<|z1b (p:=(m-1)) (sv0) U a0.sl U x3h oo<|λe3 b7=>(gY U<|z1c U (b7 _ a0.sl) v3l<|gY U<|cl (ev1 U) v2z (by have x:=u8a (.slice (some ⟨((L.take m).getD (m-1) 0),0,none⟩) n n) (H<|(L.take m).getD (m-1) 0).l _ (I.r _ (by rw[y6x oo];exact hA _<|z6d oo)).sl (by rw[z3a];exact hn);rw[y1t (n:=n) (L:=L.take m) t18]at x;exact x) U ?_);rintro _ w8 ⟨rfl,q8⟩;refine gY U<|eq' U<|pkt U<|kpL (ll2 0 43) (csu U)<|nn<|cd U (λc3=>?_)<|λc3=>?_;refine sk<|tn<|bl<|rg<|mv U U<|mv U U<|lnS U underlying70<|z2j U (wi6 oo)<|v1i (p:=(m-1)) U U x3h U<|asg U<|kpL (ll1 0) (csu U)<|nl<|bn' ?_;have D:=D.ext q8;have I:=I.ext q8;have a0:=a0.ext q8;exact lpE (m-1) (csu U) ⟨D,oo,u6b oo hm b0<|(j7n hn).1 (by rw[y6x oo]at c3;omega),I,j5o a0 oo hm oo⟩ oo;refine ex<|te<|te<|xh<|tn<|sr<|mv U U<|asg U<|nn<|rt<|r1 results149 U ?_;have I:=I.ext q8;have a0:=a0.ext q8;have D:=D.ext q8;exact⟨_,rfl,H,m,I,hm,a0,⟨a6,a7,b9,b0,λh0 e=>c3 (by rw[y6x oo,(j7n hn).2 e];rfl)⟩,(q1.trans q2).trans D⟩;exact gN U<|gN U<|gN U<|gN U<|gN U<|gN U<|gN U<|gN U<|pkf U<|kpL (ll2 0 43) (csu U)<|nn<|cf U<|ex<|te<|te<|xh<|tn<|sr<|mv U U<|asg U<|nn<|rt<|r1 results149 U ⟨_,rfl,H,m,I,hm,a0,⟨a6,a7,b9,b0,λh0 _=>absurd h0 oo⟩,(q1.trans q2).trans D⟩
open Go.Lw Go.G21 Go.G08 Go.G09 Go.G26 _root_.Go.Proofs.Tryz
variable {n:Nat}
structure GatS (F G:Nat->Pm n) (gs:List Nat) (i:Nat) (hs:List Nat):Prop where
  sub:∀x∈hs,x∈gs.take i
  nd:hs.Nodup
  le:hs.length<=i
  keep:∀x∈gs.drop i,G x=F x
  mv:Mvs ((gs.take i).map F) (hs.map G++List.replicate (i-hs.length) Pm.one)
  ir:Ir (hs.map G)
  ls:∀x r,hs.map G=r++[x]->x≠Pm.one
theorem GatS.start (F:Nat->Pm n)(gs:List Nat):GatS F F gs 0 []:=⟨λx I=>(by cases I),List.nodup_nil,l20 _,λ_ _=>rfl,Mvs.refl,λm D=>(by cases D),λx r h=>(by simp at h)⟩
theorem v7u {G:Nat->Pm n}:∀ {l:List Nat},(∀x∈l,G x=Pm.one)->l.map G=List.replicate l.length Pm.one
 | [],_=>rfl
 | x::l,h=>by rw[l32,h x l43,v7u λy D=>h y<|l38 _ D];rfl
theorem z6j {gs:List Nat}{i:Nat}(h:i<gs.length):gs.take (i+1)=gs.take i++[gs.getD i 0]:=by
 rw[l53,l10 h,List.getD,l10 h];rfl
theorem u2z {gs:List Nat}{i:Nat}(D:gs.Nodup)(h:i<gs.length):gs.getD i 0∉gs.take i:=λO=>by
 obtain⟨j,I,e⟩:=List.mem_iff_getElem.1 O
 rw[l25]at I
 rw[List.getElem_take]at e
 exact v9c D (i:=j) (j:=i) oo h oo (by rw[List.getD,l10 oo];exact e)
theorem GatS.nd1 {F G:Nat->Pm n}{gs D:List Nat}{i:Nat}(h:GatS F G gs i D)(I:gs.Nodup)(hi:i<gs.length):(D++[gs.getD i 0]).Nodup:=by
 rw[l61];refine⟨h.nd,sp0,λx O y Z e=>?_⟩;rw[l11.1 Z]at e;exact u2z I hi (e▸h.sub x O)
theorem GatS.sub1 {F G:Nat->Pm n}{gs I:List Nat}{i:Nat}(h:GatS F G gs i I)(hi:i<gs.length):∀x∈I++[gs.getD i 0],x∈gs.take (i+1):=λx D=>by
 rw[z6j hi]
 rcases l23.1 D with D|D
 ·exact l56 _<|h.sub x D
 exact l66 _ D
theorem GatS.step {F G O:Nat->Pm n}{gs D:List Nat}{i m:Nat}(hn:n<=8)(h:GatS F G gs i D)(hd:gs.Nodup)(hi:i<gs.length)(Z:PutS G O (D++[gs.getD i 0]) m)(hm:m<=(D++[gs.getD i 0]).length):GatS F O gs (i+1) ((D++[gs.getD i 0]).take m):=by
 have a1:=h.sub1 hi;have a2:=h.nd1 hd hi;have a4:=h.le;have a0:gs.getD i 0∈gs.drop i:=by rw[l31 hi,List.getD,l10 hi];exact l43
 rw[l13,l47]at hm;have I:((D++[gs.getD i 0]).take m).length=m:=by rw[l25,l13,l47];omega
 refine⟨λx hx=>a1 x<|l92 hx,(List.take_sublist _ _).nodup a2,by rw[I];omega,λx hx=>?_,?_,?_,λx r e=>?_⟩;have a3:x∉D++[gs.getD i 0]:=λhh=>by
  have h2:=a1 x hh;have h3:=hd;rw[<-l26 (i+1) gs,l61]at h3;exact h3.2.2 x h2 x hx U
 rw[Z.o x a3];refine h.keep x ?_;rw[l31 hi];exact l38 _ hx;rw[z6j hi,l33];have e0:[gs.getD i 0].map F=[G (gs.getD i 0)]:=by rw[List.map_singleton,h.keep _ a0]
 rw[e0];refine(h.mv.app _).trans ?_;rw[l14];refine((y8x hn _ _).pre _).trans ?_;have e1:D.map G++G (gs.getD i 0)::List.replicate (i-D.length) Pm.one=(D++[gs.getD i 0]).map G++List.replicate (i-D.length) Pm.one:=by rw[l33,l14];rfl
 rw[e1];refine(Z.mv.app _).trans ?_;have e2:(D++[gs.getD i 0]).map O=((D++[gs.getD i 0]).take m).map O++List.replicate (D.length+1-m) Pm.one:=by
  have e3:=v7u Z.z;rw[l35,l13,l47]at e3;rw[<-e3,<-l33,l26]
 rw[e2,l14,List.replicate_append_replicate,I,show D.length+1-m+(i-D.length)=i+1-m by omega];exact .refl;have:=Z.ir;rw[<-l26 m (D++[gs.getD i 0]),l33]at this;exact k2p this;have e4:=congrArg List.length e;rw[l18,I,l13,l47]at e4;have e5:(((D++[gs.getD i 0]).take m).map O)[m-1]?=(r++[x])[m-1]?:=by rw[e]
 rw[l28 oo,show m-1-r.length=0 by omega,l24,l51,if_pos oo,l10 (by rw[l13,l47];omega)]at e5;have e6:=Z.l oo;rw[List.getD,l10 (by rw[l13,l47];omega)]at e6;simp only[l58,List.getElem?_cons_zero,l67]at e5;rw[<-e5];exact e6
theorem GatS.fin {F G:Nat->Pm n}{gs D:List Nat}{f:Nat}{pw:Int}(h:GatS F G gs gs.length D)(hf:f<=D.length)(h1:∀j,j<f->G (D.getD j 0)=Pm.half)(h2:f<D.length->G (D.getD f 0)≠Pm.half):Cn (pw,gs.map F) (pw+(f:Int),(D.drop f).map G):=by
 have e:D.map G=List.replicate f Pm.half++(D.drop f).map G:=by
  rw[<-l26 f D,l33,l26];congr 1;refine l73 so λj a b=>?_;rw[List.getElem_map,List.getElem_replicate,List.getElem_take];have:=h1 j (by simpa using b);rwa [List.getD,l10 (by simp at a;omega)]at this
 have Z:=h.mv;rw[l39,e,l14]at Z;refine⟨f,gs.length-D.length,Z,?_,rfl,λx r ex=>?_,λx r ex=>?_⟩;have:=v0w h.ir<|gs.length-D.length;rwa [e,l14]at this;simp only at ex;match hh:D.drop f,ex with
 | y::l,ex=>
  rw[l32]at ex;have I:f<D.length:=by
   refine Nat.lt_of_not_le λO=>?_;rw[l97 O]at hh;cases hh
  rw[l31 I]at hh;have:=h2 I;rw[List.getD,l10 I,l63,(List.cons.inj hh).1]at this;rw[<-(List.cons.inj ex).1];exact this
 | [],ex=>cases ex
 simp only at ex;exact h.ls x (List.replicate f Pm.half++r) (by rw[e,ex,l14])
theorem x5z {α:Type}{E:Enc α}{w:World}{A:Option Addr}{m c:Nat}{ys:List α}(h:Sl E w (.slice A m c) ys):c<=maxLen:=by
 obtain⟨I,O,e,Z,D,h3⟩:=h;cases e;exact D
structure RwsB (T n:Nat) (w:World) (hs:List Nat) (F:Nat->Pm n):Prop where
  r:∀g∈hs,Lw.Own Enc.b T 0 w (.slice (some ⟨g,0,none⟩) n n) (F g).l
theorem RwsB.fr {T:Nat}{w w':World}{D S:List Nat}{F:Nat->Pm n}(h:RwsB T n w D F)(hf:Fr S w w')(Z:∀k∈S,k∉D):RwsB T n w' D F:=⟨λg O=>(h.r g O).fr hf λk hk I=>by simp[z0u]at I;subst I;exact Z _ hk O⟩
theorem RwsB.ext {T:Nat}{w w':World}{D:List Nat}{F:Nat->Pm n}(h:RwsB T n w D F)(hf:Fr [] w w'):RwsB T n w' D F:=h.fr hf sp0
def NrmS (n:Nat)(b:Nat)(w:World)(v:Value)(c:BrN n):Prop:=∃(out:Value) (hs:List Nat) (F:Nat->Pm n),v=.agg #[.int .i64 (n:Int),.int .i64 c.1,out]/\Lw.Own Enc.sl 51 b w out (hs.map<|hdr n)/\RwsB 5 n w hs F/\hs.map F=c.2/\∀x∈hs,b<=x
theorem NrmS.ext {b:Nat}{w w':World}{v:Value}{c:BrN n}(h:NrmS n b w v c)(hf:Fr [] w w'):NrmS n b w' v c:=by
 obtain⟨D,hs,F,e,I,O,Z,h4⟩:=h;exact⟨D,hs,F,e,I.ext hf,O.ext hf,Z,h4⟩
theorem NrmS.fr {b:Nat}{w w':World}{v:Value}{c:BrN n}{S:List Nat}(h:NrmS n b w v c)(hf:Fr S w w')(hS:∀k∈S,k<b):NrmS n b w' v c:=by
 obtain⟨O,hs,F,e,Z,h2,h3,h4⟩:=h;exact⟨O,hs,F,e,Z.fr hf (λk I D=>by have:=(Z.blk k D).1;have:=hS k I;omega),h2.fr hf (λk I D=>by have:=h4 k D;have:=hS k I;omega),h3,h4⟩
theorem NrmS.low {b b':Nat}{w:World}{v:Value}{c:BrN n}(h:NrmS n b w v c)(hb:b'<=b):NrmS n b' w v c:=by
 obtain⟨D,hs,F,e,I,O,Z,h4⟩:=h;exact⟨D,hs,F,e,I.low hb,O,Z,λx hx=>l37 hb<|h4 x hx⟩
open Go.Lw Go.G21 Go.G08 Go.G09 Go.G26 _root_.Go.Proofs.Tryz
theorem u8p:z2d prog 70:=λ_=>kr
theorem k5z:z1r prog 51 1:=λ_=>kr
theorem zv51 (w:World):(zeroValue 51).run prog w=.ok (.slice none 0 0) w:=kr
theorem j4j (n f:Nat)(ws:List Value)(u:Nat->SV)(w0:World)(hn:n<=1000)(hf:CallOf prog f)(I:∀i w,i<n->Fr [] w0 w->Rets prog f (Value.int .i64 (i:Int)::ws).toArray w λr w'=>r=.slice (u i).1 (u i).2.1 (u i).2.2/\Fr [] w w'):Rets prog 152 #[.int .i64 (n:Int),.func (.func f) #[] ws.toArray] w0 λr w'=>(∃g,r=.slice (saa g) n n/\Lw.Own Enc.sl 51 w0.heap.size w' r ((List.range n).map u))/\Fr [] w0 w':=by
 refine we [(0,.int .i64 (n:Int)),(1,.func (.func f) #[] ws.toArray)] func152 U ntmps152 U (.c2 U U)<|sr<|asg U<|nn<|sr<|mv U U<|z1f (m:=n) (c:=n) (sv0) U x3h zv51 U<|λO w1 a0 D q1 z1=>(asg U<|nn<|sq<|sr<|mv U U<|lnS U underlying70<|mv U U<|nn<|bl<|lpK (ι:=Nat) (ll3 1 5 10) (λi=>[(11,.int .i64 (i:Int))]) (λi w'=>Fr [O] w1 w'/\i<=n/\Lw.Own Enc.sl 51 O w' (.slice (saa O) n n) ((List.range i).map u++List.replicate (n-i) sv0)) (λi=>n-i) 0 (csu U) ⟨l12 _ _,⟨l17 _,by simpa using D⟩⟩ ?_);rintro i w2 ⟨Z,⟨hi,D⟩⟩;refine kpC (ll4 1 5 10 11) (csu U)<|sr<|lt' U<|nn<|sq<|cd U (λc0=>?_)<|λc0=>?_;refine sk<|tn<|sq<|bl<|sr<|mv U U<|asg U<|nn<|rg<|mv U U<|mv U U<|mv U U<|mv U U<|clv (us:=[]) (ws:=ws) U (ev1 U) hf (I i _ oo<|q1.z1 Z) U t14 ?_;rintro _ w3 ⟨rfl,q3⟩;have D:=D.ext q3;refine z5p (p:=i) (E:=Enc.sl) U x3h<|z3i (i:=i) ((u i)) U D so U k5z<|λw4 D q4 z4=>?_;rw[v6l oo]at D;exact kpL (ll4 1 5 10 11) (csu U)<|nl<|bn'<|tn<|rg<|z0v U (wi6 oo)<|mv U U<|nl<|lpE (i+1) (csu U) ⟨((l12 [O] _).z3 Z q3 q4),⟨oo,D⟩⟩ oo;obtain rfl:i=n:=by omega
 rw[l95,List.replicate_zero,l27]at D;exact ex<|te<|te<|xh<|tn<|sr<|mv U U<|asg U<|kpL (ll1 4) (csu U)<|nn<|rt<|r1 results152 U ⟨_,rfl,⟨O,rfl,D.low oo⟩,(q1.z1 Z)⟩
theorem k2l (i I:Nat)(v:Value)(l:List SV)(w0:World)(D:Sl Enc.sl w0 v l)(hb:Blk w0 I 70 [v])(hi:i<l.length):Rets prog 153 #[.int .i64 (i:Int),pta I] w0 λr w'=>r=.slice (l.getD i sv0).1 (l.getD i sv0).2.1 (l.getD i sv0).2.2/\Fr [] w0 w':=by
 obtain⟨A,c,rfl,a0⟩:=id D.form;refine we [(0,.int .i64 (i:Int)),(1,pta I)] func153 U ntmps153 U (.c2 U U) ?_;have a1:=D;exact sr<|asg U<|nn<|sr<|z1x U hb u8p<|mv U U<|z1b (p:=i) (sv0) U D U x3h oo<|λZ O=>(z1c U (O _ D) v3l<|asg U<|kpL (ll1 3) (csu U)<|nn<|rt<|r1 results153 U ⟨_,rfl,rfl,(l12 _ _)⟩)
theorem j3f:z3y prog 72 3:=⟨λ_=>kr,λ_=>kr⟩
theorem k5w:BuildAt prog 72 [(0,1),(1,1),(2,1)] [(.int .i64 0),(.int .i64 0),(.slice none 0 0)]:=BuildAt.struct underlying72 (λ_=>kr)<|λ_=>kr
theorem sz70:z1r prog 70 1:=λ_=>kr
theorem u8l:z1r prog 72 3:=λ_=>kr
theorem zv70 (w:World):(zeroValue 70).run prog w=.ok (.slice none 0 0) w:=kr
theorem j6w (w:World):(zeroValue 72).run prog w=.ok (.agg #[(.int .i64 0),(.int .i64 0),(.slice none 0 0)]) w:=kr
theorem j2j (n:Nat)(pw:Int)(v:Value)(O:List Nat)(F:Nat->Pm n)(w0:World)(hv:Sl Enc.sl w0 v (O.map<|hdr n))(hF:FacT 5 n w0 w0 O F)(hd:O.Nodup)(b2:∀k∈O,k∉z0u v)(hl:O.length<=100)(hn:1<=n/\n<=8)(f1:-10000<=pw/\pw<=10000)(b:Nat)(e3:b<=w0.heap.size)(b7:∀x∈O,b<=x):Rets prog 105 #[.int .i64 (n:Int),.int .i64 pw,v] w0 λr w'=>(∃c:BrN n,NrmS n b w' r c/\Cn (pw,O.map F) c/\c.2.length<=O.length/\pw<=c.1/\c.1<=pw+O.length)/\Fr O w0 w':=by
 obtain⟨AV,cV,rfl,e6⟩:=id hv.form;have a3:∀x∈O,x<w0.heap.size:=λx hx=>hF.lt hx;have e9:(O.map<|hdr n).length=O.length:=l18 ..;refine we [(0,.int .i64 (n:Int)),(1,.int .i64 pw),(2,.slice AV (O.map<|hdr n).length cV)] func105 U ntmps105 U (.c3 U U U) ?_;have d0:=hv;refine sr<|al j6w U<|λg6 w1 e7 I q1 z1=>(nn<|sr<|al zv70 U<|λg7 w2 e8 D q2 z2=>(nn<|sq<|sr<|mv U U<|lnS U underlying70<|mv U U<|nn<|bl ?_));have hF:=hF.ext<|q1.n1 q2;have I:=I.ext q2;refine lpK (ι:=Nat×Value×List Nat×(Nat->Pm n)) (ll6 0 1 6 7 11 12) (λp_=>[(13,.int .i64 (p_.1:Int))]) (λp_ w'=>p_.1<=O.length/\GatS F p_.2.2.2 O p_.1 p_.2.2.1/\FacT 5 n w0 w' O p_.2.2.2/\Lw.Own Enc.sl 51 w0.heap.size w' (p_.2.1) (p_.2.2.1.map<|hdr n)/\Blk w' g7 70 [p_.2.1]/\Blk w' g6 72 [.int .i64 0,.int .i64 0,.slice none 0 0]) (λp_=>O.length-p_.1) (0,.slice none 0 0,[],F) (csu U) ⟨l17 _,GatS.start F O,hF,Own.nil _,D,I⟩ ?_;rintro⟨i,vL,hs,G⟩ w3 ⟨hi,hG,hF,ho,D,I⟩;simp only at hi hG hF ho D I;obtain⟨AL,cL,rfl,e4⟩:=ho.sl.form;have b6:=D.lt;have b5:=I.lt;refine kpC [(0,_),(1,_),(6,_),(7,_),(11,_),(12,_),(13,.int .i64 (i:Int))] (csu U)<|sr<|lt' U<|nn<|sq<|cd U (λc0=>?_)<|λc0=>?_;have b3:Sl Enc.sl w3 (.slice AV (O.map<|hdr n).length cV) (O.map<|hdr n):=d0.fr hF.f b2;have a2:i<O.length:=by omega
 have b9:=hG.nd1 hd a2;have hA:∀x∈hs++[O.getD i 0],x∈O:=λx hx=>l92<|hG.sub1 a2 x hx;have f0:=hG.le;refine sk<|tn<|sq<|bl<|sr<|z1b (p:=i) (sv0) U b3 U x3h oo<|λd3 a8=>(z1c U (a8 _ b3) v3l<|asg U<|nn<|rg<|z1x U D u8p<|mv U U<|cl (ev2 U) (mkC func149) (by have x:=j0j n w0 _ O G hs (O.getD i 0) _ hF b9 hA ho oo hn.2;rw[y1t (n:=n) (L:=O) a2]at x;exact x) U ?_);rintro f3 w4 ⟨G1,m,a7,hm,b1,hP,q4⟩;have z4:=q4.size;have a1:∀ {T:Nat} {cs:List Value} {k:Nat},Blk w3 k T cs->51≠T->5≠T->k∉z0u (.slice AL (hs.map<|hdr n).length cL)++(hs++[O.getD i 0]):=λhb h1 h2 hk=>(l23.1 hk).elim (Own.neB ho hb h1)<|λhk=>Own.neB (hF.r _<|hA _ hk) hb h2 t10;have D:=D.fr q4<|a1 D dd dd;have I:=I.fr q4<|a1 I dd dd;clear a1 hF ho;have hF:=a7;have ho:=b1;clear a7 b1;obtain⟨d7,d9,rfl,d5⟩:=ho.sl.form;have a4:=Own.neB ho D dd;refine z3g U D U sz70<|λw5 D q5 z5=>(nl<|bn'<|tn<|rg<|z0v U (wi6 oo)<|mv U U<|nl ?_);have hF:=hF.fr q5 (by intro k hk;rw[l11.1 hk];exact⟨λhg=>(by have:=a3 _ hg;omega),oo⟩);have ho:=ho.fr q5 (by intro k hk;rw[l11.1 hk];exact a4);have I:=I.fr q5;exact lpE ((i+1,_,(hs++[O.getD i 0]).take m,G1)) (csu U) ⟨sm,hG.step hn.2 hd a2 hP hm,hF,ho,D,I⟩ sm;obtain rfl:i=O.length:=by omega
 have a5:∀x∈hs,x∈O:=λx hx=>l92<|hG.sub x hx;have f2:(hs.map<|hdr n).length=hs.length:=l18 ..;have d6:=hG.le;have a4:=Own.neB ho D dd;refine ex<|te<|te<|xh<|tn<|sr<|asg U<|nn<|sq<|bl<|lpK (ι:=Nat) (ll4 0 1 6 7) (λZ=>[(10,.int .i64 (Z:Int))]) (λZ w'=>Fr [] w3 w'/\Z<=hs.length/\∀j,j<Z->G (hs.getD j 0)=Pm.half) (λZ=>hs.length-Z) 0 (csu U) ⟨l12 _ _,⟨l17 _,λj h=>absurd h oo⟩⟩ ?_;rintro Z w6 ⟨q6,⟨hf,b0⟩⟩;have z6:=q6.size;refine kpC (ll5 0 1 6 7 10) (csu U)<|sq<|sq<|v4b (r:=34) (L':=ll5 0 1 6 7 10) ((((Z:Int)<((hs.map<|hdr n).length:Int))/\((stN (G<|hs.getD Z 0).l:Int)=((2 ^ (n-1)-1:Nat):Int)))) (csu U) ?_ ?_;refine mv U U ?_;have D:=D.ext q6;refine z1x U D u8p<|lnS U underlying70<|lt' U<|mv U U<|gs 25 U (λg0=>?_)<|λg0=>?_;refine gY U<|z1x U D u8p<|gY U<|mv U U<|gY U ?_;have ho:=ho.ext q6;refine z1b (p:=Z) (sv0) U ho.sl U x3h oo<|λd4 a9=>(gY U<|z1c U (a9 _ ho.sl) v3l<|gY U ?_);have hF:=hF.ext q6;refine cl (ev1 U) v2z (by have x:=u8a (.slice (some ⟨(hs.getD Z 0),0,none⟩) n n) (G<|hs.getD Z 0).l _ (hF.r _<|a5 _<|z6d oo).sl (by rw[z3a];exact hn.2);rw[y1t (n:=n) (L:=hs) oo]at x;exact x) U ?_;rintro _ w7 ⟨rfl,q7⟩;have z7:=q7.size;refine gY U<|mv U U<|gY U<|cl (ev1 U) (mkC func151) (k0q n _ hn) U ?_;rintro _ w8 ⟨rfl,q8⟩;have z8:=q8.size;exact gY U<|eq' U<|pkt U<|y1y U (csu U)<|q7.n1 q8;exact gN U<|gN U<|gN U<|gN U<|gN U<|gN U<|gN U<|gN U<|pkf U<|y1y U (csu U)<|l12 _ _;intro w9 q9;have z9:=q9.size;refine tn<|cd U (λc1=>?_)<|λc1=>?_;refine sk<|tn<|bl<|rg<|mv U U<|z0v U (wi6 oo)<|asg U<|nl<|bn' ?_;exact lpE ((Z+1)) (csu U) ⟨(q6.n1 q9),⟨oo,λj hj=>by
  by_cases e:j=Z;subst e;exact(k1w hn.2 hn.1).1 oo;exact b0 j oo⟩⟩ oo
 have b8:Z<hs.length->G (hs.getD Z 0)≠Pm.half:=λh e=>c1 ⟨oo,by rw[(k1w hn.2 hn.1).2 e]⟩;refine ex<|te<|te<|xh<|tn<|sr ?_;have D:=D.ext<|q6.n1 q9;refine z1x U D u8p<|mv U U<|j6y (p:=Z) U U x3h oo oo oo U<|z3g U D U sz70<|λd1 D a6 f6=>?_;have ho:=(ho.ext<|q6.n1 q9).fr a6 (by intro k hk;rw[l11.1 hk];exact a4);have e5:=x5z ho.sl;have c9:Sl Enc.sl d1 (.slice (if cL=Z then AL else AL.map (·.add (Z*Enc.sl.sz))) ((hs.map<|hdr n).length-Z)<|cL-Z) ((hs.map<|hdr n).drop Z):=ho.sl.drop U oo oo oo<|λh=>if_neg oo;refine nn<|sr<|mv U U<|mv U U<|mv U U<|z0v U (wi6 oo)<|z1x U D u8p<|lnS U underlying70<|z5b z0f (ev1 U)<|cl (ev2 U) (mkC func152) (j4j ((hs.map<|hdr n).length-Z) 153 [pta g7] (λi=>((hs.map<|hdr n).drop Z).getD i sv0) _ oo (CallOf.mk' func153 kr kr)<|λi w hi hw=>k2l i g7 _ _ w (c9.ext hw) (D.fr hw sp0) (by rw[l35];exact hi)) U ?_;rintro _ f4 ⟨⟨e0,rfl,a0⟩,q11⟩;have f7:=q11.size;rw[<-l35,v0j]at a0;refine z1u (cs:=[_,_,_]) (ev3 U) k5w (z0g U<|z0g U<|z0g U z0r) U ?_;have I:=((I.ext<|q6.n1 q9).fr a6).ext q11;refine z0i (vs:=[_,_,_]) U I u8l<|λf5 I b4 f8=>(kpL (ll1 6) (csu U)<|nn<|rt<|rC results105 U I j3f  ?_);have a0:=a0.fr b4 (by first|exact z9l a0 oo|simp[z0u]<;>omega);have hF:=(((hF.ext<|q6.n1 q9).fr a6 (by intro k hk;rw[l11.1 hk];exact⟨λhg=>(by have:=a3 _ hg;omega),oo⟩)).ext q11).fr b4 (by intro k hk;rw[l11.1 hk];exact⟨λhg=>(by have:=a3 _ hg;omega),oo⟩);exact⟨_,rfl,⟨(pw+(Z:Int),(hs.drop Z).map G),⟨_,hs.drop Z,G,rfl,by have y:=a0.low (b':=b) oo;rw[l35]at y;rw[List.map_drop];exact y,⟨λg hg=>hF.r g<|a5 g<|List.mem_of_mem_drop hg⟩,rfl,λx hx=>b7 x<|a5 x<|List.mem_of_mem_drop hx⟩,hG.fin hf b0 b8,by rw[l18,l35];omega,sm,sm⟩,hF.f⟩
open Go.Lw Go.G21 Go.G08 Go.G09 Go.G26 _root_.Go.Proofs.Tryz
variable {n:Nat}
theorem x6n (n:Nat):(idN n).length=n:=by simp[idN]
theorem x7k (n:Nat):(hfN n).length=n:=by simp[hfN]
theorem k1g (hn:n<=8)(d:Int)(p:Pm n):(flB d p).l=if d % 2=0 then p.l else flF n p.l:=by
 unfold flB;split;rfl;exact j7a hn p
theorem u0x (d:Int):(flB (-d):Pm n->Pm n)=flB d:=by
 funext p;unfold flB;by_cases h:d % 2=0;rw[if_pos h,if_pos oo];rw[if_neg h,if_neg oo]
theorem j4i (hn:n<=8){k:Int}{K:Nat}(I:k=(K:Int))(h1:1<=K)(D:K<n):(plF n k).l=(idN n).map (swK K):=by
 have h:k.natAbs-1+1<n:=by omega
 have e:plF n k=sg ⟨k.natAbs-1,h⟩:=(dif_pos h).trans<|if_pos oo;rw[e];show (Pm.sR _ Pm.one).l=_;rw[k3l hn,k4l];show (idN n).map (swK<|k.natAbs-1+1)=_;rw[show k.natAbs-1+1=K by omega]
theorem j3e (hn:n<=8){k:Int}{K:Nat}(I:0-k=(K:Int))(h1:1<=K)(D:K<n):(plF n k).l=(hfN n).map (swK K):=by
 have h:k.natAbs-1+1<n:=by omega
 have e:plF n k=Pm.sR ⟨k.natAbs-1,h⟩ Pm.half:=(dif_pos h).trans<|if_neg oo;rw[e,k3l hn,k3f];show (hfN n).map (swK<|k.natAbs-1+1)=_;rw[show k.natAbs-1+1=K by omega]
structure OfS (F:Nat->Pm n) (A:List Nat) (u:List Int) (r b:Nat):Prop where
  l:A.length+r=u.length
  nd:A.Nodup
  lo:∀x∈A,b<=x
  e:A.map F=(fac n<|u.drop r).2
theorem j7v (u:List Int):-(u.length:Int)<=(fac n u).1/\(fac n u).1<=0:=by
 induction u with
 | nil=>simp[fac]
 | cons k u ih=>simp only[fac,l34];split<;>omega
theorem OfS.step {F:Nat->Pm n}{A:List Nat}{u:List Int}{r b g:Nat}(h:OfS F A u r b)(Z:0<r)(O:g∉A)(hb:b<=g):OfS (upF F g<|flB (fac n<|u.drop r).1<|plF n<|u.getD (r-1) 0) (g::A) u (r-1) b:=by
 have hl:=h.l;have D:r-1<u.length:=by omega
 refine⟨by rw[l34];omega,l104.2 ⟨O,h.nd⟩,λx I=>(l55.1 I).elim (λe=>by rw[e];exact hb)<|h.lo x,?_⟩;rw[l31 D,Nat.sub_add_cancel Z,List.getD,l10 D];simp only[fac,l32,y8l,l63];rw[<-h.e];congr 1;exact l114 λx I=>y5u<|λe=>O (e▸I)
theorem u4o {u:List Int}{r:Nat}(I:0<r)(hl:r<=u.length):(fac n<|u.drop<|r-1).1=(fac n<|u.drop r).1-(if 0<u.getD (r-1) 0 then 0 else 1):=by
 have D:r-1<u.length:=by omega
 rw[l31 D,Nat.sub_add_cancel I,List.getD,l10 D];rfl
theorem x7w (n:Nat)(v:Value)(u:List Int)(w0:World)(hu:Sl Enc.i64 w0 v u)(hn:1<=n/\n<=8)(hl:u.length<=64)(D:k3g n u):Rets prog 48 #[.int .i64 (n:Int),v] w0 λr w'=>(∃(nv:Value) (c:BrN n),r=.tuple #[nv,.int .i64 0]/\NrmS n w0.heap.size w' nv c/\Cn (fac n u) c/\c.2.length<=64/\-64<=c.1/\c.1<=64)/\Fr [] w0 w':=by
 obtain⟨AU,cU,rfl,f5⟩:=id hu.form;refine we [(0,.int .i64 (n:Int)),(1,.slice AU u.length cU)] func48 U ntmps48 U (.c2 U U) ?_;have d9:=hu;refine sr<|al j6w U<|λg4 w1 f6 I q1 z1=>(asg U<|nn<|sq<|sr<|mv U U<|mv U U ?_);have hu:=d9.ext q1;refine cl (ev2 U) (mkC func42) (j5c n _ u _ hu hn hl D) U ?_;rintro _ w2 ⟨rfl,q2⟩;have z2:=q2.size;refine asg U<|nn<|sr<|mv U U<|ne' U<|nn<|cd U (λc0=>?_)<|λc0=>?_;exact absurd U c0;refine sk<|tn<|sr<|asg U<|nn<|sr<|mv U U<|lnS U underlying22<|z1f (m:=u.length) (c:=u.length) (sv0) U x3h zv51 U<|λa7 w3 f0 Z q3 z3=>(asg U<|nn<|sq<|sr<|mv U U<|lnS U underlying22<|z2j U (wi6 oo)<|asg U<|nn<|bl<|lpK (ι:=Nat×Int×List Nat×(Nat->Pm n)) (ll4 0 1 4 8) (λp_=>[(9,.int .i64<|(p_.1:Int)-1),(7,.int .i64 p_.2.1)]) (λp_ w'=>Fr [a7] w3 w'/\(p_.1<=u.length/\p_.2.1 = -(fac n<|u.drop p_.1).1)/\OfS p_.2.2.2 p_.2.2.1 u p_.1 w0.heap.size/\FacT 5 n w0 w' p_.2.2.1 p_.2.2.2/\Lw.Own Enc.sl 51 w0.heap.size w' (.slice (saa a7) u.length u.length) (List.replicate p_.1 sv0++p_.2.2.1.map (hdr n))) (λp_=>p_.1) (u.length,0,[],λ_=>Pm.one) (csu U) ⟨l12 _ _,⟨⟨l20 _,by simp only;rw[List.drop_length];rfl⟩,⟨sp0,List.nodup_nil,λx hx=>(by cases hx),by simp only;rw[List.drop_length];rfl⟩,⟨(q1.n2 q2 q3),λx hx=>(by cases hx)⟩,by simpa using Z.low oo⟩⟩ ?_);rintro⟨r,b_,A,F⟩ w4 ⟨q4,⟨⟨d7,a3⟩,hO,hF,Z⟩⟩;simp only at d7 a3 hO hF Z;have z4:=q4.size;refine kpC [(0,_),(1,_),(4,_),(8,_),(9,.int .i64<|(r:Int)-1),(7,.int .i64 b_)] (csu U)<|sq<|sr<|mv U U<|ge' U<|nn<|cd U (λc1=>?_)<|λc1=>?_;have b3:0<r:=by omega
 have f7:=D (u.getD (r-1) 0)<|z0z (d:=0) oo;have a0:=λx (hx:x∈A)=>hF.lt hx;have a4:a7∉A:=hF.ne Z dd _ t10;have d3:=u4o (n:=n) b3 d7;have d1:=j7v (n:=n)<|u.drop r;rw[l35]at d1;have d6:List.replicate r sv0=List.replicate (r-1+1) sv0:=by rw[Nat.sub_add_cancel b3]
 have d4:(List.replicate r sv0++A.map (hdr n)).length=u.length:=by rw[l13,l22,l18];have:=hO.l;omega
 refine sk<|tn<|sq<|bl<|sr<|mv U U<|mv U U ?_;have hu:=d9.ext<|q1.z3 q2 q3 q4;refine z1b (p:=(r-1)) (0) U hu U y0j oo<|λe9 b9=>(z1c U (b9 _ hu) na3<|asg U<|nn<|sr<|mv U U<|gt' U<|nn<|cd U (λc2=>?_)<|λc2=>?_);obtain⟨K,a9⟩:∃K:Nat,(u.getD (r-1) 0)=(K:Int):=⟨(u.getD (r-1) 0).toNat,oo⟩;have hK:1<=K/\K<n:=⟨oo,oo⟩;refine rg<|mv U U<|mv U U<|mv U U<|cl (ev1 U) (mkC func103) (j8q n _ hn.2) U ?_;rintro _ w5 ⟨⟨b7,rfl,a1⟩,q5⟩;have z5:=q5.size;refine mv U U ?_;have e0:=a1.blk b7 t10;refine cl (ev2 U) (mkC func102) (by have x:=x7l (idN n) b7 K _ _ (by have y:=a1;rw[x6n];exact y) oo (by rw[x6n];exact hn.2);rw[x6n,<-a9]at x;exact x) U ?_;rintro _ w6 ⟨rfl,a1,q6⟩;have z6:=q6.size;rw[<-j4i hn.2 a9 hK.1 hK.2]at a1;refine mv U U<|cl (ev2 U) (mkC func101) (by have x:=v5t _ (plF n<|u.getD (r-1) 0).l b_ _ a1.sl (by rw[z3a];exact v7a hn.2 _) (by rw[z3a];exact hn);rw[z3a,<-k1g hn.2,a3,show (flB (-(fac n<|u.drop r).1):Pm n->Pm n)=flB (fac n<|u.drop r).1 from u0x _]at x;rw[a3];exact x) U ?_;rintro _ w7 ⟨⟨b0,rfl,a5⟩,q7⟩;have z7:=q7.size;have f1:=a5.blk b0 t10;have Z:=((Z.ext q5).fr q6 t11).ext q7;refine z5p (p:=(r-1)) (E:=Enc.sl) U x3h<|z3i (i:=(r-1)) ((hdr n b0)) U Z (by rw[d4];omega) U k5z<|λw8 Z q8 z8=>?_;rw[d6,v9n]at Z;refine kpL (ll6 0 1 4 7 8 9) (csu U)<|nl<|bn'<|tn<|rg<|mv U U<|z2j U (show IntKind.i64.wrap ((r:Int)-1-1)=((r-1:Nat):Int)-1 from (wi6 oo).trans oo)<|asg U<|nl ?_;have hF:=(((hF.ext q5).fr q6 (by intro k D;rw[l11.1 D];first|exact⟨a4,oo⟩|exact⟨λO=>(by have:=a0 _ O;omega),oo⟩)).ext q7).fr q8 (by intro k D;rw[l11.1 D];first|exact⟨a4,oo⟩|exact⟨λO=>(by have:=a0 _ O;omega),oo⟩);have a5:=a5.fr q8 t11;exact lpE ((r-1,b_,b0::A,upF F b0<|flB (fac n<|u.drop r).1<|plF n<|u.getD (r-1) 0)) (csu U) ⟨((l12 [a7] _).z5 q4 q5 q6 q7 q8),⟨⟨sm,by simp only;rw[d3,if_pos c2];omega⟩,hO.step b3 (λO=>by have:=a0 _ O;omega) oo,hF.add (a5.low<|l17 _) (λO=>by have:=a0 _ O;omega),Z⟩⟩ sm;obtain⟨K,a9⟩:∃K:Nat,0-(u.getD (r-1) 0)=(K:Int):=⟨(0-(u.getD (r-1) 0)).toNat,oo⟩;have hK:1<=K/\K<n:=⟨oo,oo⟩;refine sr<|mv U U<|mv U U<|mv U U<|cl (ev1 U) (mkC func104) (k0h n _ hn.2) U ?_;rintro _ w9 ⟨⟨b8,rfl,a2⟩,q9⟩;have z9:=q9.size;refine mv U U<|j9g U (wi6 oo) U ?_;have e3:=a2.blk b8 t10;refine cl (ev2 U) (mkC func102) (by have x:=x7l (hfN n) b8 K _ _ (by have y:=a2;rw[x7k];exact y) oo (by rw[x7k];exact hn.2);rw[x7k,<-a9]at x;exact x) U ?_;rintro _ g0 ⟨rfl,a2,b4⟩;have g6:=b4.size;rw[<-j3e hn.2 a9 hK.1 hK.2]at a2;refine mv U U<|cl (ev2 U) (mkC func101) (by have x:=v5t _ (plF n<|u.getD (r-1) 0).l b_ _ a2.sl (by rw[z3a];exact v7a hn.2 _) (by rw[z3a];exact hn);rw[z3a,<-k1g hn.2,a3,show (flB (-(fac n<|u.drop r).1):Pm n->Pm n)=flB (fac n<|u.drop r).1 from u0x _]at x;rw[a3];exact x) U ?_;rintro _ g1 ⟨⟨b1,rfl,a6⟩,q11⟩;have g7:=q11.size;have f2:=a6.blk b1 t10;have Z:=((Z.ext q9).fr b4 t11).ext q11;refine z5p (p:=(r-1)) (E:=Enc.sl) U x3h<|z3i (i:=(r-1)) ((hdr n b1)) U Z (by rw[d4];omega) U k5z<|λg3 Z b5 g8=>?_;rw[d6,v9n]at Z;refine kpL (ll6 0 1 4 7 8 9) (csu U)<|nn<|rg<|mv U U<|z0v U (wi6 oo)<|asg U<|nl<|bn'<|tn<|rg<|mv U U<|z2j U (show IntKind.i64.wrap ((r:Int)-1-1)=((r-1:Nat):Int)-1 from (wi6 oo).trans oo)<|asg U<|nl ?_;have hF:=(((hF.ext q9).fr b4 (by intro k D;rw[l11.1 D];first|exact⟨a4,oo⟩|exact⟨λO=>(by have:=a0 _ O;omega),oo⟩)).ext q11).fr b5 (by intro k D;rw[l11.1 D];first|exact⟨a4,oo⟩|exact⟨λO=>(by have:=a0 _ O;omega),oo⟩);have a6:=a6.fr b5 t11;exact lpE ((r-1,b_+1,b1::A,upF F b1<|flB (fac n<|u.drop r).1<|plF n<|u.getD (r-1) 0)) (csu U) ⟨((l12 [a7] _).z5 q4 q9 b4 q11 b5),⟨⟨sm,by simp only;rw[d3,if_neg c2];omega⟩,hO.step b3 (λO=>by have:=a0 _ O;omega) oo,hF.add (a6.low<|l17 _) (λO=>by have:=a0 _ O;omega),Z⟩⟩ sm;obtain rfl:r=0:=by omega
 rw[List.replicate_zero,l46]at Z;rw[List.drop_zero]at a3;have d1:=j7v (n:=n) u;have f3:=hO.l;refine ex<|te<|te<|xh<|tn<|sr<|mv U U<|mv U U<|j9g U (wi6 oo) U<|mv U U ?_;have I:=(I.ext<|q2.n1 q3).fr q4;refine cl (ev3 U) (mkC func105) (j2j n _ _ A F _ Z.sl hF.start hO.nd (λk D hb=>hF.ne Z dd k hb D) oo hn oo w0.heap.size oo hO.lo) U ?_;rintro _ e8 ⟨⟨c,⟨f9,hs,G,rfl,a8,b2,e4,e5⟩,hC,hc1,hc2,hc3⟩,qA⟩;have e7:Fr [] w0 e8:=(q1.z3 q2 q3 q4).step qA<|λk D f8=>absurd (hO.lo k D) oo;have g9:=qA.size;have I:=I.fr qA<|λD=>Own.neB (hF.r _ D) I dd t10;obtain⟨A9,c9,rfl,f4⟩:=a8.sl.form;clear hF Z;have e6:=Own.neB a8 I dd;have d5:g4∉hs:=λO=>Own.neB (b2.r _ O) I dd t10;refine z0i (vs:=[_,_,_]) U I u8l<|λg5 I b6 h0=>(asg U<|kpL (ll2 4 5) (csu U)<|nn<|rt<|rCT results48 U I j3f U ?_);have a8:=a8.fr b6 (by intro k D;rw[l11.1 D];exact e6);have b2:=b2.fr b6 (by intro k D O;rw[l11.1 D]at O;exact d5 O);have d0:=hO.e;rw[List.drop_zero]at d0;rw[a3,show (0 - -(fac n u).1:Int)=(fac n u).1 by omega,d0]at hC;exact⟨_,rfl,⟨_,c,rfl,⟨_,hs,G,rfl,a8,b2,e4,e5⟩,hC,oo,oo,oo⟩,(e7.z1 b6)⟩
open Go.Lw Go.G21 Go.G08 Go.G09 Go.G26 _root_.Go.Proofs.Tryz
theorem u9e:z1d prog 72 0 0:=λ_ _=>kr
theorem u8j:z1d prog 72 1 1:=λ_ _=>kr
theorem u9p:z1d prog 72 2 2:=λ_ _=>kr
theorem j9b (v1 v2:Value)(Z l2:List UInt8)(w0:World)(h1:Sl Enc.b w0 v1 Z)(h2:Sl Enc.b w0 v2 l2)(hl:Z.length<=100000):Rets prog 107 #[v1,v2] w0 λr w'=>r=.bool (decide (Z=l2))/\Fr [] w0 w':=by
 obtain⟨A1,k1,rfl,a6⟩:=id h1.form;obtain⟨A2,k2,rfl,a7⟩:=id h2.form;refine we [(0,.slice A1 Z.length k1),(1,.slice A2 l2.length k2)] func107 U ntmps107 U (.c2 U U) ?_;have a2:=h1;have a3:=h2;refine sr<|asg U<|nn<|sq<|sr<|mv U U<|lnS U underlying51<|mv U U<|lnS U underlying51<|ne' U<|nn<|cd U (λc0=>?_)<|λc0=>?_;refine sr<|asg U<|nn<|rt<|tr<|r1 results107 U ?_;exact⟨_,rfl,congrArg Value.bool (decide_eq_false<|λe=>c0 t30).symm,(l12 _ _)⟩;refine sk<|tn<|sq<|sr<|mv U U<|lnS U underlying51<|mv U U<|nn<|bl<|lpK (ι:=Nat) (ll3 0 1 12) (λi=>[(13,.int .i64 (i:Int))]) (λi w'=>Fr [] w0 w'/\i<=Z.length/\∀j,j<i->Z.getD j 0=l2.getD j 0) (λi=>Z.length-i) 0 (csu U) ⟨l12 _ _,⟨l17 _,λj h=>absurd h oo⟩⟩ ?_;rintro i w1 ⟨q1,⟨hi,hz⟩⟩;refine kpC (ll4 0 1 12 13) (csu U)<|sr<|lt' U<|nn<|sq<|cd U (λc1=>?_)<|λc1=>?_;refine sk<|tn<|sq<|bl<|sr<|mv U U<|asg U<|nn<|sq ?_;have h1:=a2.ext q1;have h2:=a3.ext q1;intro a h;have D:=l12 [] w1;refine z2y (λwb w'=>Fr [] wb w') z2r ?_;intro w2 hq;have h1:=h1.ext hq;have h2:=h2.ext hq;have D:=D.next hq;have a8:=hq.size;have hC:Fr [] w2 w2:=l12 _ _;have I:=h1;have O:=h2;refine z0e 0 h U λa h=>z0e 1 h U λa h=>z1e (p:=i) (0) 2 h U h1 U y4i U λa4 a0 a h=>z2g 3 h U (λ_ hw=>a0 _<|I.ext hw) na5 U λa h=>z0e 4 h U λa h=>z0e 5 h U λa h=>z1e (p:=i) (0) 6 h U h2 U y4i U λa5 a1 a h=>z2g 7 h U (λ_ hw=>a1 _<|O.ext hw) na5 U λa h=>u0n 8 hC h wn U U U U λa h=>z0p ?_;clear hC I O;refine bk (h.sub (L':=ll5 0 1 12 13 24)<|csu U)<|tn<|cd U (λc2=>?_)<|λc2=>?_;refine sr<|asg U<|nn<|rt<|rb<|tr<|tr<|rb<|tr<|r1 results107 U ?_;exact⟨_,rfl,congrArg Value.bool (decide_eq_false<|λe=>c2 t30).symm,(q1.n1 D)⟩;refine sk<|bn'<|tn<|rg<|z0v U (wi6 oo)<|mv U U<|nl ?_;exact lpE (i+1) (csu U) ⟨(q1.n1 D),⟨oo,λj h=>by
  by_cases e:j=i;subst e;exact UInt8.toNat.inj oo;exact hz j oo⟩⟩ oo
 obtain rfl:i=Z.length:=by omega
 refine ex<|te<|te<|xh<|tn<|sr<|asg U<|nn<|rt<|r1 results107 U ?_;exact⟨_,rfl,congrArg Value.bool (decide_eq_true<|y5l 0 oo<|λj hj=>hz j oo).symm,q1⟩
variable {n:Nat}
def z3e (F:Nat->Pm n)(hs:List Nat):List (List UInt8):=hs.map λg=>(F g).l
theorem k6i (hn:n<=8){p q:Pm n}(h:p.l=q.l):p=q:=Pm.ext λx=>by
 have D:=v7e hn p x.2
 rw[h,v7e hn q x.2]at D
 have I:(q.f x).1+1=(p.f x).1+1:=D
 exact Fin.ext oo
theorem x0u (hn:n<=8){F G:Nat->Pm n}:∀ {a b:List Nat},z3e F a=z3e G b↔a.map F=b.map G
 | [],[]=>⟨λ_=>rfl,λ_=>rfl⟩
 | [],_::_=>⟨λh=>(by cases h),λh=>(by cases h)⟩
 | _::_,[]=>⟨λh=>(by cases h),λh=>(by cases h)⟩
 | x::a,y::b=>by
  have D:=x0u hn (F:=F) (G:=G) (a:=a) (b:=b)
  unfold z3e at D ⊢
  rw[l32,l32,l32,l32,List.cons.injEq,List.cons.injEq,D]
  exact⟨λh=>⟨k6i hn h.1,h.2⟩,λh=>⟨by rw[h.1],h.2⟩⟩
theorem y5h {F:Nat->Pm n}{a:List Nat}{i:Nat}(h:i<a.length):(z3e F a).getD i []=(F<|a.getD i 0).l:=by
 unfold z3e;rw[List.getD,l24,l10 h,List.getD,l10 h];rfl
theorem j9f (n a7 a8:Nat)(D I:List Nat)(F1 F2:Nat->Pm n)(v1 v2:Value)(w0:World)(h1:Lw.Own Enc.sl 51 a7 w0 v1 (D.map<|hdr n))(h2:Lw.Own Enc.sl 51 a8 w0 v2 (I.map<|hdr n))(Z:RwsB 5 n w0 D F1)(a0:RwsB 5 n w0 I F2)(hn:n<=8)(hl:D.length<=1000):Rets prog 106 #[v1,v2,.func (.func 107) #[] #[]] w0 λr w'=>r=.bool (decide (z3e F1 D=z3e F2 I))/\Fr [] w0 w':=by
 obtain⟨A1,k1,rfl,b3⟩:=id h1.sl.form;obtain⟨A2,k2,rfl,b4⟩:=id h2.sl.form;have e1:(D.map<|hdr n).length=D.length:=l18 ..;have e2:(I.map<|hdr n).length=I.length:=l18 ..;refine we [(0,.slice A1 (D.map<|hdr n).length k1),(1,.slice A2 (I.map<|hdr n).length k2),(2,.func (.func 107) #[] #[])] func106 U ntmps106 U (.c3 U U U) ?_;have a9:=h1;have b0:=h2;have a5:=Z;have a6:=a0;refine sr<|asg U<|nn<|sq<|sr<|mv U U<|lnS U underlying70<|mv U U<|lnS U underlying70<|ne' U<|nn<|cd U (λc0=>?_)<|λc0=>?_;refine sr<|asg U<|nn<|rt<|tr<|r1 results106 U ?_;exact⟨_,rfl,congrArg Value.bool (decide_eq_false<|λe=>c0 (by have y:=congrArg List.length e;simp only[z3e,l18]at y;rw[e1,e2,y])).symm,(l12 _ _)⟩;refine sk<|tn<|sq<|sr<|mv U U<|lnS U underlying70<|mv U U<|nn<|bl<|lpK (ι:=Nat) (ll4 1 2 15 16) (λi=>[(17,.int .i64 (i:Int))]) (λi w'=>Fr [] w0 w'/\i<=(D.map<|hdr n).length/\∀j,j<i->(F1<|D.getD j 0).l=(F2<|I.getD j 0).l) (λi=>(D.map<|hdr n).length-i) 0 (csu U) ⟨l12 _ _,⟨l17 _,λj h=>absurd h oo⟩⟩ ?_;rintro i w1 ⟨O,⟨hi,hz⟩⟩;refine kpC (ll5 1 2 15 16 17) (csu U)<|sr<|lt' U<|nn<|sq<|cd U (λc1=>?_)<|λc1=>?_;refine sk<|tn<|sq<|bl<|sr<|mv U U ?_;have h1:=a9.ext O;refine z1b (p:=i) (sv0) U h1.sl U x3h oo<|λb1 a3=>(z1c U (a3 _ h1.sl) v3l<|asg U<|asg U<|nn<|sr<|mv U U<|mv U U ?_);have h2:=b0.ext O;refine z1b (p:=i) (sv0) U h2.sl U x3h oo<|λb2 a4=>(z1c U (a4 _ h2.sl) v3l<|asg U<|nn<|sr<|mv U U<|mv U U<|mv U U ?_);have Z:=a5.ext O;have a0:=a6.ext O;refine clv (us:=[]) (ws:=[]) U (ev2 U) (mkC func107) (by have x:=j9b (.slice (some ⟨(D.getD i 0),0,none⟩) n n) (.slice (some ⟨(I.getD i 0),0,none⟩) n n) (F1<|D.getD i 0).l (F2<|I.getD i 0).l _ (Z.r _<|z6d oo).sl (a0.r _<|z6d oo).sl t48;rw[y1t (n:=n) (L:=D) oo,y1t (n:=n) (L:=I) oo]at x;exact x) U t14 ?_;rintro _ w2 ⟨rfl,q2⟩;refine nt' U<|kpL (ll6 1 2 15 16 17 30) (csu U)<|nn<|cd U (λc2=>?_)<|λc2=>?_;refine sr<|asg U<|kpL (ll1 6) (csu U)<|nn<|rt<|rb<|tr<|tr<|rb<|tr<|r1 results106 U ?_;exact⟨_,rfl,congrArg Value.bool (decide_eq_false<|λe=>c2 (by rw[<-y5h (F:=F1) oo,<-y5h (F:=F2) oo,e])).symm,(O.n1 q2)⟩;refine sk<|bn'<|tn<|rg<|z0v U (wi6 oo)<|mv U U<|nl ?_;exact lpE (i+1) (csu U) ⟨(O.n1 q2),⟨oo,λj h=>by
  by_cases e:j=i;subst e;exact l16.1 c2;exact hz j oo⟩⟩ oo
 obtain rfl:i=(D.map<|hdr n).length:=by omega
 refine ex<|te<|te<|xh<|tn<|sr<|asg U<|kpL (ll1 6) (csu U)<|nn<|rt<|r1 results106 U ?_;exact⟨_,rfl,congrArg Value.bool (decide_eq_true<|y5l [] (by simp only[z3e,l18];omega) (λj hj=>by rw[z3e,l18]at hj;rw[y5h oo,y5h oo];exact hz j oo)).symm,O⟩
theorem u4c (n b1 b2:Nat)(v1 v2:Value)(c d:BrN n)(w0:World)(hc:NrmS n b1 w0 v1 c)(hd:NrmS n b2 w0 v2 d)(hn:n<=8)(hl:c.2.length<=1000):Rets prog 49 #[v1,v2] w0 λr w'=>(∃b:Bool,r=.bool b/\(c=d->b=true))/\Fr [] w0 w':=by
 obtain⟨o1,a1,F1,rfl,h1,a0,e1,-⟩:=hc;obtain⟨o2,a2,F2,rfl,h2,a3,e2,-⟩:=hd;obtain⟨A1,k1,rfl,b3⟩:=id h1.sl.form;obtain⟨A2,k2,rfl,b4⟩:=id h2.sl.form;have a8:a1.length<=1000:=by have:=congrArg List.length e1;rw[l18]at this;omega
 refine we [(0,.agg #[.int .i64 (n:Int),.int .i64 c.1,.slice A1 (a1.map<|hdr n).length k1]),(1,.agg #[.int .i64 (n:Int),.int .i64 d.1,.slice A2 (a2.map<|hdr n).length k2])] func49 U ntmps49 U (.c2 U U) ?_;have a6:=h1;have a7:=h2;have a4:=a0;have a5:=a3;refine sr<|bx U<|λg2 w1 a9 D Z z1=>(bx U<|λg3 w2 b0 O I z2=>(asg U<|nn<|sr<|fad U u9e ?_));have D:=D.ext I;refine z0j U D U na3<|fad U u9e<|z0j U O U na3<|eq' U<|mv U U<|gs 10 U (λg0=>?_)<|λg0=>?_;refine gY U<|fad U u8j<|gY U<|z0j U D U na3<|gY U<|fad U u8j<|gY U<|z0j U O U na3<|gY U<|eq' U<|pkt U<|mv U U<|gs 17 U (λg1=>?_)<|λg1=>?_;refine gY U<|fad U u9p<|gY U<|z0j U D U u8p<|gY U<|fad U u9p<|gY U<|z0j U O U u8p<|gY U ?_;have h1:=a6.ext<|Z.n1 I;have h2:=a7.ext<|Z.n1 I;have a0:=a4.ext<|Z.n1 I;have a3:=a5.ext<|Z.n1 I;refine cl (ev3 U) (mkC func106) (j9f n b1 b2 a1 a2 F1 F2 _ _ _ h1 h2 a0 a3 hn a8) U ?_;rintro _ w3 ⟨rfl,q3⟩;refine pkt U<|asg U<|kpL (ll1 4) (csu U)<|nn<|rt<|r1 results49 U ?_;exact⟨_,rfl,⟨_,rfl,λe=>by first|exact decide_eq_true<|(x0u hn).2 (by rw[e1,e2,e])|exact absurd (congrArg Prod.fst e) g1|exact absurd U g0⟩,(Z.n2 I q3)⟩;refine gN U<|gN U<|gN U<|gN U<|gN U<|pkf U<|asg U<|kpL (ll1 4) (csu U)<|nn<|rt<|r1 results49 U ?_;exact⟨_,rfl,⟨_,rfl,λe=>by first|exact decide_eq_true<|(x0u hn).2 (by rw[e1,e2,e])|exact absurd (congrArg Prod.fst e) g1|exact absurd U g0⟩,(Z.n1 I)⟩;refine gN U<|gN U<|gN U<|gN U<|gN U<|pkf U<|mv U U<|gN U<|gN U<|gN U<|gN U<|gN U<|pkf U<|asg U<|kpL (ll1 4) (csu U)<|nn<|rt<|r1 results49 U ?_;exact⟨_,rfl,⟨_,rfl,λe=>by first|exact decide_eq_true<|(x0u hn).2 (by rw[e1,e2,e])|exact absurd (congrArg Prod.fst e) g1|exact absurd U g0⟩,(Z.n1 I)⟩
open Go.Lw Go.G21 Go.G08 Go.G09 Go.G26 _root_.Go.Proofs.Tryz
theorem v4f (v1 v2:Value)(D l2:List IQ)(w0:World)(h1:Sl z6q w0 v1 D)(h2:Sl z6q w0 v2 l2)(I:IqAt w0 D)(O:IqAt w0 l2)(h4:∀i,(D.getD i iq0).2.length<=100000):Rets prog 90 #[v1,v2,.func (.func 53) #[] #[]] w0 λr w'=>(∃b:Bool,r=.bool b/\((D.length=l2.length/\∀i,(D.getD i iq0).2=(l2.getD i iq0).2)->b=true))/\Fr [] w0 w':=by
 obtain⟨A1,k1,rfl,a9⟩:=id h1.form;obtain⟨A2,k2,rfl,b0⟩:=id h2.form;have a6:=h1.len_le;unfold maxLen at a6;refine we [(0,.slice A1 D.length k1),(1,.slice A2 l2.length k2),(2,.func (.func 53) #[] #[])] func90 U ntmps90 U (.c3 U U U) ?_;have a4:=h1;have a5:=h2;have a2:=I;have a3:=O;refine sr<|asg U<|nn<|sq<|sr<|mv U U<|lnS U underlying23<|mv U U<|lnS U underlying23<|ne' U<|nn<|cd U (λc0=>?_)<|λc0=>?_;refine sr<|asg U<|nn<|rt<|tr<|r1 results90 U ?_;exact⟨_,rfl,⟨_,rfl,λe=>absurd (congrArg (λx:Nat=>(x:Int)) e.1) c0⟩,(l12 _ _)⟩;refine sk<|tn<|sq<|sr<|mv U U<|lnS U underlying23<|mv U U<|nn<|bl<|lpK (ι:=Nat) (ll4 1 2 15 16) (λi=>[(17,.int .i64 (i:Int))]) (λi w'=>Fr [] w0 w'/\i<=D.length/\True) (λi=>D.length-i) 0 (csu U) ⟨l12 _ _,⟨l17 _,trivial⟩⟩ ?_;rintro i w1 ⟨Z,⟨hi,_⟩⟩;refine kpC (ll5 1 2 15 16 17) (csu U)<|sr<|lt' U<|nn<|sq<|cd U (λc1=>?_)<|λc1=>?_;refine sk<|tn<|sq<|bl<|sr<|mv U U ?_;have h1:=a4.ext Z;refine z1b (p:=i) (iq0) U h1 U y3e oo<|λa7 a0=>(z1c U (a0 _ h1) z6f<|asg U<|asg U<|nn<|sr<|mv U U<|mv U U ?_);have h2:=a5.ext Z;refine z1b (p:=i) (iq0) U h2 U y3e oo<|λa8 a1=>(z1c U (a1 _ h2) z6f<|asg U<|nn<|sr<|mv U U<|mv U U<|mv U U ?_);have I:=a2.ext Z;have O:=a3.ext Z;refine clv (us:=[]) (ws:=[]) U (ev2 U) (mkC func53) (v5q _ _ (D.getD i iq0).2 (l2.getD i iq0).2 _ (z1y I i) (z1y O i)<|h4 i) U t14 ?_;rintro _ w2 ⟨rfl,q2⟩;refine nt' U<|kpL (ll6 1 2 15 16 17 30) (csu U)<|nn<|cd U (λc2=>?_)<|λc2=>?_;exact sr<|asg U<|kpL (ll1 6) (csu U)<|nn<|rt<|rb<|tr<|tr<|rb<|tr<|r1 results90 U ⟨_,rfl,⟨_,rfl,λe=>absurd (e.2 i) c2⟩,(Z.n1 q2)⟩;exact sk<|bn'<|tn<|rg<|z0v U (wi6 oo)<|mv U U<|nl<|lpE (i+1) (csu U) ⟨(Z.n1 q2),⟨oo,trivial⟩⟩ oo;obtain rfl:i=D.length:=by omega
 exact ex<|te<|te<|xh<|tn<|sr<|asg U<|kpL (ll1 6) (csu U)<|nn<|rt<|r1 results90 U ⟨_,rfl,⟨_,rfl,λ_=>rfl⟩,Z⟩
theorem y6q (v1 v2:Value)(Z l2:List IQ)(w0:World)(h1:Sl z6q w0 v1 Z)(D:Sl z6q w0 v2 l2)(O:IqAt w0 Z)(I:IqAt w0 l2)(b5:Z.length<=40)(b6:l2.length<=40)(h4:z9j Z):Rets prog 89 #[v1,v2] w0 λr w'=>(∃b:Bool,r=.bool b/\(trimB (plB Z)=trimB (plB l2)->b=true))/\Fr [] w0 w':=by
 obtain⟨A1,c1,rfl,b7,b0,a8⟩:=id h1;obtain⟨A2,c2,rfl,b8,b1,a9⟩:=id D;clear a8 a9;unfold maxLen at b0 b1;refine we [(0,.slice A1 Z.length c1),(1,.slice A2 l2.length c2)] func89 U ntmps89 U (.c2 U U) ?_;have b3:=h1;have b4:=D;have b9:=O;have c0:=I;refine sr<|asg U<|nn<|sq ?_;intro a h;refine z0h none (λwb w'=>Fr [] wb w') z2r ?_;intro w1 q1;have h1:=h1.ext q1;have D:=D.ext q1;have O:=O.ext q1;have I:=I.ext q1;have hC:Fr [] w1 w1:=l12 _ _;have a2:=h1;have a3:=D;have a6:=O;have a7:=I;refine z0e 0 h U λa h=>z0e 1 h U λa h=>z0e 4 h U λa h=>z0e 5 h U λa h=>z0d 2 U<|z0n h (z0a U z0f) (mkC func91) (x0p _ Z _ h1 O) ?_;rintro _ w2 ⟨m1,rfl,a0,a4,q2⟩ a h;have D:=D.ext q2;have I:=I.ext q2;have hC:=hC.next q2;refine z0b<|x7q (p:=m1) 3 hC h wn U U y3e U U λa h=>z0d 6 U<|z0n h (z0a U z0f) (mkC func91) (x0p _ l2 _ D I) ?_;rintro _ w3 ⟨m2,rfl,a1,a5,q3⟩ a h;have h1:=h1.ext<|q2.n1 q3;have D:=D.ext q3;have O:=O.ext<|q2.n1 q3;have I:=I.ext q3;have hC:=hC.next q3;refine z0b<|x7q (p:=m2) 7 hC h wn U U y3e U U λa h=>z0d 8 U<|z0n h (z0a U<|z0a U<|z0a U z0f) (mkC func90) (v4f _ _ (Z.take m1) (l2.take m2) _ (h1.take U a0 oo t42<|λ_=>rfl) (D.take U a1 oo t42<|λ_=>rfl) (y6n U O) (y6n U I)<|λi=>l37 (z3n (λq q4=>h4 q<|l92 q4) i) oo) ?_;rintro _ w4 ⟨⟨be,rfl,b2⟩,q4⟩ a h;have hC:=hC.next q4;refine z0b<|z0d 9 U<|z0q h U λa h=>?_;refine z0b<|z0p ?_;clear hC a2 a3 a6 a7;exact bk (h.sub (L':=ll1 4)<|csu U)<|tn<|rt<|r1 results89 U ⟨_,rfl,⟨be,rfl,λhe=>b2 ⟨(v0h a0 a1 a4 a5 he).1,(v0h a0 a1 a4 a5 he).2⟩⟩,(q1.n3 q2 q3 q4)⟩
theorem v3t (D I:BdQ)(w0:World)(h1:BdAt w0 D)(h2:BdAt w0 I)(a7:D.fs.length<=40)(a8:I.fs.length<=40)(a9:z9j D.fs)(a4:D.bs.length<=40)(a5:I.bs.length<=40)(a6:z9j D.bs):Rets prog 39 #[bvv D,bvv I] w0 λr w'=>(∃b:Bool,r=.bool b/\(trimB (plB D.fs)=trimB (plB I.fs)->trimB (plB D.bs)=trimB (plB I.bs)->b=true))/\Fr [] w0 w':=by
 refine we [(0,bvv D),(1,bvv I)] func39 U ntmps39 U (.c2 U U) ?_;have a2:=h1;have a3:=h2;refine sr<|bx U<|λg2 w1 b2 a0 q1 z1=>(bx U<|λg3 w2 b3 a1 q2 z2=>(asg U<|nn<|sr<|asg U<|nn<|sr<|mv U U<|fad U y4k ?_));have a0:=a0.ext q2;refine z0j U a0 U x2c<|fad U y4k<|z0j U a1 U x2c ?_;have h1:=a2.ext<|q1.n1 q2;have h2:=a3.ext<|q1.n1 q2;refine clv (us:=[]) (ws:=[]) U (ev2 U) (mkC func89) (y6q _ _ D.fs I.fs _ h1.f h2.f h1.fi h2.fi a7 a8 a9) U t14 ?_;rintro _ w3 ⟨⟨b1,rfl,Z⟩,q3⟩;refine mv U U<|gs 12 U (λg0=>?_)<|λg0=>?_;refine gY U<|mv U U<|gY U<|fad U y1d<|gY U ?_;have a0:=a0.ext q3;refine z0j U a0 U x2c<|gY U<|fad U y1d<|gY U ?_;have a1:=a1.ext q3;refine z0j U a1 U x2c<|gY U ?_;have h1:=a2.ext<|q1.n2 q2 q3;have h2:=a3.ext<|q1.n2 q2 q3;refine clv (us:=[]) (ws:=[]) U (ev2 U) (mkC func89) (y6q _ _ D.bs I.bs _ h1.b h2.b h1.bi h2.bi a4 a5 a6) U t14 ?_;rintro _ w4 ⟨⟨b0,rfl,O⟩,q4⟩;refine pkt U<|asg U<|kpL (ll1 4) (csu U)<|nn<|rt<|r1 results39 U ?_;exact(by exact⟨_,rfl,⟨_,rfl,λe1 e2=>by first|(exact O e2)|exact absurd (Z e1) g0|(rw[Z e1,O e2];done)⟩,(q1.n3 q2 q3 q4)⟩);refine gN U<|gN U<|gN U<|gN U<|gN U<|gN U<|pkf U<|asg U<|kpL (ll1 4) (csu U)<|nn<|rt<|r1 results39 U ?_;exact(by exact⟨_,rfl,⟨_,rfl,λe1 e2=>by first|(exact O e2)|exact absurd (Z e1) g0|(rw[Z e1,O e2];done)⟩,(q1.n2 q2 q3)⟩)
end Go.Proofs.YtlfdhllfmoplgaaGreatDoor
namespace Go.Lw
theorem v4n {c:UInt8}:∀ {l:List UInt8},c∉l->Lib.index l [c] = -1
 | [],_=>by simp[Lib.index]
 | b::l,h=>by
  have D:¬c=b:=λe=>h (by rw[e];simp)
  have hl:c∉l:=λe=>h (by simp[e])
  rw[Lib.index,v4n hl]
  simp[List.isPrefixOf,D]
theorem u9c {c:UInt8}(y:List UInt8):∀ {x:List UInt8},c∉x->Lib.index (x++c::y) [c]=x.length
 | [],_=>by simp[Lib.index,List.isPrefixOf]
 | b::x,h=>by
  have D:¬c=b:=λe=>h (by rw[e];simp)
  have hl:c∉x:=λe=>h (by simp[e])
  rw[l72,Lib.index,u9c y hl]
  simp only[List.isPrefixOf,beq_eq_false_iff_ne.2 D,Bool.false_and,Bool.false_eq_true,if_false]
  rw[if_neg se];simp
theorem cnt {c:UInt8}:∀(f:Nat) (s:List UInt8),s.length<f->Lib.countFrom [c] f s=s.count c
 | 0,s,h=>by omega
 | f+1,s,h=>by
  rw[Lib.countFrom]
  by_cases hm:c∈s
  ·obtain⟨x,y,rfl,D⟩:=List.eq_append_cons_of_mem hm
   rw[u9c y D,if_neg se]
   have e:(x++c::y).drop ((x.length:Int).toNat + [c].length)=y:=by
    rw[l90,show x++c::y=(x++[c])++y by simp,show x.length + [c].length=(x++[c]).length by simp,List.drop_left]
   rw[e,cnt f y (by simp at h;omega)]
   simp[l69.2 D];omega
  rw[v4n hm,if_pos dd,l69.2 hm]
end Go.Lw
namespace Go.G08
open Go.Lw Go.G21
theorem x2t {p:MSt}{o:MOp}(h:z9i o=0):doM p o=opM p o:=by unfold doM;rw[if_neg (by rw[h];simp)]
end Go.G08
namespace Go.G09
open Go.Lw Go.G21 Go.G08
theorem j4p {B:Bd}{r d x:Int}(Z:BdOk B)(hd:d=0\/d=1):u7z (z7h B r d x):=λq D=>by
 refine⟨Z.nm _<|x3y D,?_⟩
 have I:q∈y4q B r d x B.b.length:=by
  unfold z7h at D
  split at D
  ·exact l121.1 D
  exact D
 unfold y4q at I
 obtain⟨k,_,O⟩:=l68.1 I
 unfold x0e at O
 split at O
 ·cases O
 obtain⟨y,_,rfl⟩:=l54.1 O
 show z6k (1-d)
 unfold z6k;omega
end Go.G09
namespace Go.G26
open Go.Lw Go.G21 Go.G08 Go.G09
theorem z8h {p:MSt}{d x:Int}(hB:BdOk p.B)(hd:d=0\/d=1):∀ {l:List Yn},(∀y∈l,y1s y)->z4c p d l=.error x->x=3
 | [],_,e=>by cases e
 | y::l,hl,e=>by
  unfold z4c at e
  split at e
  ·rename_i z O
   cases e
   unfold z7i at O
   split at O
   ·cases O
   rename_i a0
   split at O
   ·cases O
    have Z:=hl y l43
    rename_i D
    unfold goE at D ⊢
    have I:y.inn=true:=by simpa using a0
    have a1:x5h y.pl:=by
     have h2:=Z.2
     rw[if_pos I]at h2
     exact h2.1
    rw[u9g Z,if_neg dd,if_neg (λh=>h a1),if_neg (λh=>h<|j4p hB hd),if_neg (by rw[I];decide)]at D ⊢
    split
    ·rfl
    rename_i h4;rw[if_neg h4]at D;exact absurd U D
   cases O
  split at e
  ·rename_i z O
   cases e
   exact z8h hB hd (λy Z=>hl y<|l38 _ Z) O
  cases e
theorem y0b {x:Int}:∀ {r l:List Cx},z4e l r=.error x->x=3
 | [],l,e=>by cases e
 | c::r,l,e=>by
  unfold z4e at e
  split at e
  ·rename_i z D
   cases e
   unfold y3z at D
   simp only at D
   split at D
   ·split at D
    ·cases D;rfl
    split at D<;>cases D
   split at D
   ·cases D;rfl
   split at D<;>cases D
  exact y0b e
theorem x3c {r x:Int}(hr:-4<=r/\r<=4):∀ {n:Nat} {p:MSt},MInv p->z4l n p r=.error x->x=3
 | 0,p,_,e=>by cases e
 | n+1,p,h,e=>by
  unfold z4l at e
  split at e
  ·cases e
  rename_i Z
  split at e
  ·rename_i z I
   cases e
   unfold z5x at I
   split at I
   ·rename_i z2 D
    cases I
    refine z8h h.B (by split<;>simp) (λy hy=>?_) D
    obtain⟨i,hi,rfl⟩:=List.mem_iff_getElem.1 hy
    have:=(h.yn i (by rw[<-h.ly];exact hi)).1
    rwa [List.getD,l10 hi]at this
   split at I
   ·rename_i z2 D;cases I;exact y0b D
   cases I
  rename_i p2 O
  have hk:=h.rk
  refine x3c hr (z7n h ?_ O).1 e
  unfold stI
  split<;>split<;>omega
theorem u2w {p:MSt}{o:MOp}{x:Int}(h:MInv p)(I:z9i o=0)(D:o.k=3\/o.k=7)(e:doM p o=.error x):x≠1:=by
 unfold doM at e
 rw[if_neg (by rw[I];decide)]at e
 unfold opM at e
 rcases D with D|D
 ·rw[if_neg oo,if_neg oo,if_pos D]at e
  have:=x3c ((z3s I).2.2.2.2.2 D) h e
  omega
 rw[if_neg oo,if_neg oo,if_neg oo,if_neg oo,if_neg oo,if_neg oo,if_pos D]at e
 unfold z8i at e
 repeat' split at e
 all_goals first|(cases e;decide)|cases e
theorem y6h:∀ {l:List MOp} {i:Nat} {p:MSt} {x:Int×Nat},MInv p->isP l=true->z3u i p l=.error x->x.1≠1
 | [],_,_,_,_,_,e=>by cases e
 | o::l,i,p,x,h,hs,e=>by
  unfold z3u at e
  have D:=x6f hs (i:=0) sp0
  split at e
  ·rename_i z Z
   cases e
   exact u2w h D.2 D.1 Z
  rename_i q I
  exact y6h (z7l h I) (l89.2 λy O=>l89.1 hs y<|l38 _ O) e
theorem u5l {p:MSt}{l:List MOp}(h:MInv p)(D:isP l=true):z1t p l≠.error 1:=λe=>by
 unfold z1t at e
 rw[if_neg (by rw[D];decide)]at e
 split at e
 ·cases e
 split at e
 ·cases e
 split at e
 ·rename_i x I
  split at e
  ·cases e
  exact y6h h D I<|Except.error.inj e
 split at e<;>cases e
theorem u4b {p:MSt}{l:List MOp}{x:Int}(e:z1t p l=.error x):x≠0:=λD=>by
 subst D
 unfold z1t at e
 split at e
 ·cases e
 split at e
 ·cases e
 split at e
 ·cases e
 split at e
 ·rename_i y I
  split at e
  ·cases e
  exact x9i (n:=y.2) (e:=y.1) I<|Except.error.inj e
 split at e<;>cases e
theorem y6y {p q:MSt}{l:List MOp}{u:List Int}(e:z1t p l=.ok (u,q)):isP l=true/\l.length<=4096/\p.B.flat.length<=8/\z3u 0 p l=.ok q:=by
 unfold z1t at e;split at e;cases e;rename_i D;split at e;cases e;split at e;cases e;split at e;split at e<;>cases e
 rename_i q' I;split at e;cases e;cases e;exact⟨by simpa using D,oo,oo,I⟩
theorem y0k {p q:MSt}{l:List MOp}{u:List Int}(hv:MVal p)(e:z1t p l=.ok (u,q)):u.length<=64/\(y4g p (z4u p,[]) l).2=u/\(∀k∈u,1<=k.natAbs/\k.natAbs<(z4u p).length)/\(z4u p=[]->u=[])/\(z4u q).length=(z4u p).length:=by
 obtain⟨h1,h2,h3,h4⟩:=y6y e;obtain⟨w,I,O,Z,a4,a5,a6,-⟩:=v1s hv h1 h4 h2 h3 U;have hl:w.length<=64:=Nat.le_of_not_lt λD=>by rw[O D]at e;cases e
 rw[Z hl]at e;cases e;exact⟨hl,I,a4,λD=>a5 (by rw[D];rfl),a6⟩
theorem u0z {p q:MSt}{l:List MOp}(hv:MVal p)(hs:isP l=true)(O:l.length<=4096)(Z:p.B.flat.length<=8)(hr:z3u 0 p l=.ok q):z1t p l=.error 3\/∃u,z1t p l=.ok (u,q):=by
 obtain⟨w,-,D,I,-⟩:=v1s hv hs hr O Z U;by_cases c:64<w.length;exact .inl<|D c;exact .inr ⟨w,I oo⟩
theorem v9j {p:MSt}(D:MVal p)(I:p.B.flat.length<=8):z1t p []=.ok ([],p):=by
 rcases u0z (q:=p) D (l:=[]) U sp0 I U with h|⟨u,h⟩
 unfold z1t at h;rw[if_neg dd,if_neg sp0,if_neg oo]at h;simp only[z3u]at h;unfold y0v at h;split at h;rename_i e;split at e<;>cases e
 cases h;have O:=y0k D h;rw[show u=[] from O.2.1.symm]at h;exact h
theorem x7x (p:MSt):(z4u p).length=p.B.flat.length:=by unfold z4u;rw[l18,(z8g _ _).length_eq,z8o]
end Go.G26
namespace Go.Proofs.YtlfdhllfmoplgaaGreatDoor
open Go.Lw Go.G21 Go.G08 Go.G09 Go.G26 _root_.Go.Proofs.Tryz
theorem x0l {w':World}{p:MSt}{l:List MOp}{N base:Nat}{A:Option Addr}{ws:List Int}{s':StQ}{e:Int}(D:BrR w' p l N base A ws s' e):(∃x,z1t p l=.error x/\e=x/\x≠0/\ws=[]/\s'=stZ)\/(∃q,z1t p l=.ok (ws,q)/\e=0/\StP s' q N):=by
 cases hX:z1t p l with
 | error x=>
  obtain⟨a,b,c⟩:=D.er x hX;exact .inl ⟨x,rfl,a,u4b hX,b,c⟩
 | ok r=>
  obtain⟨u,q⟩:=r;obtain⟨a,b,c⟩:=D.ok u q hX;subst b;exact .inr ⟨q,rfl,a,c⟩
theorem x8p {w':World}{p:MSt}{l:List MOp}{N base:Nat}{A:Option Addr}{ws:List Int}{s':StQ}{e:Int}(Z:BrR w' p l N base A ws s' e)(he:e≠0):z1t p l=.error e/\ws=[]/\s'=stZ:=by
 rcases x0l Z with ⟨x,I,D,-,O⟩|⟨q,-,D,-⟩
 subst D;exact⟨I,O⟩;exact absurd D he
theorem x1i {w':World}{p:MSt}{l:List MOp}{N base:Nat}{A:Option Addr}{ws:List Int}{s':StQ}{e:Int}(Z:BrR w' p l N base A ws s' e)(he:e=0):∃q,z1t p l=.ok (ws,q)/\StP s' q N:=by
 rcases x0l Z with ⟨x,-,D,O,-⟩|⟨q,I,-,D⟩
 exact absurd (D▸he) O;exact⟨q,I,D⟩
theorem j4f (s:StQ)(p q:MSt)(N:Nat)(A:Option Addr)(c:Nat)(l:List MOp)(mo:Int)(w0:World)(hS:StAt w0 s)(hP:StP s p N)(hv:Sl z3d w0 (.slice A l.length c) l)(I:StT w0)(hN:N+l.length<=1000)(h8:p.B.flat.length<=8)(a4:0<=mo):Rets prog 18 #[svv s,.slice A l.length c,.int .i64 mo] w0 λr w'=>(∃(m:Nat) (u:List Int) (q':MSt),m<=l.length/\r=.slice A m c/\z1t (nrm p) (l.take m)=.ok (u,q')/\(u.length:Int)<=mo)/\Fr [] w0 w':=by
 have a2:=x5z hv;obtain⟨_,c_,a3,a9⟩:=id hv.form;cases a3;refine we [(0,svv s),(1,.slice A l.length c),(2,.int .i64 mo)] func18 U ntmps18 U (.c3 U U U) ?_;have a1:=hS;have a6:=hv;have Z:=I;refine sr<|bx U<|λg3 w1 b0 O q1 z1=>(asg U<|nn<|sq<|bl<|lpK (ι:=Nat) (ll2 2 3) (λm=>[(1,.slice A m c)]) (λm w'=>Fr [] w1 w'/\m<=l.length) (λm=>m) l.length (csu U) ⟨l12 _ _,l20 _⟩ ?_);rintro m w2 ⟨D,hm⟩;have z2:=D.size;refine kpC (ll3 2 3 1) (csu U)<|sq<|sr<|mv U U<|lnS U underlying45<|gt' U<|nn<|cd U (λc0=>?_)<|λc0=>?_;refine sk<|tn<|bl<|sr ?_;have O:=O.ext D;refine z0k U O z7r<|mv U U ?_;have hv:=a6.ext<|q1.n1 D;have a7:=hv.take U (m:=m) hm (B:=A) (c':=c) oo a2<|λ_=>rfl;have hS:=a1.ext<|q1.n1 D;have I:=Z.ext<|q1.n1 D;refine cl (ev2 U) co6 (z4t s p N _ (l.take m) _ hS hP t18 a7 I) U ?_;rintro _ w3 ⟨⟨A7,ws,t8,e9,rfl,hB⟩,q3⟩;have z3:=q3.size;have a8:=hB.o.sl.len_le;unfold maxLen at a8;refine mv U U<|xt U<|xt U<|xt U<|al y6l U<|λg8 w4 b1 a0 q4 z4=>(asg U<|z0i (vs:=[_,_,_,_,_,_,_,_]) U a0 z9m<|λw5 a0 q5 z5=>(asg U<|kpL (ll5 1 2 3 7 9) (csu U)<|nn<|sq<|sq<|rbo (r:=27) (L':=ll3 1 2 3) (((e9=0)/\((ws.length:Int)<=mo))) (csu U) ?_ ?_));refine mv U U<|eq' U<|mv U U<|gs 22 U (λg0=>?_)<|λg0=>?_;exact gY U<|mv U U<|gY U<|lnS U underlying22<|gY U<|mv U U<|gY U<|le' U U<|pkt U<|rbe U<|csu U;exact gN U<|gN U<|gN U<|gN U<|pkf U<|rbe U<|csu U;refine tn<|cd U (λc1=>?_)<|λc1=>?_;obtain⟨q',a5,-⟩:=x1i hB c1.1;exact ex<|te<|xo U<|te<|xh<|tn<|sr<|mv U U<|asg U<|nn<|rt<|r1 results18 U ⟨_,rfl,⟨m,ws,q',hm,rfl,a5,c1.2⟩,(q1.z4 D q3 q4 q5)⟩;exact sk<|tn<|rg<|mv U U<|mv U U<|lnS U underlying45<|z2j U (wi6 oo)<|v1i (p:=(m-1)) U U y0y U<|asg U<|kpL (ll3 1 2 3) (csu U)<|nl<|bn'<|lpE ((m-1)) (csu U) ⟨(D.z3 q3 q4 q5),oo⟩ oo;obtain rfl:m=0:=by omega
 exact ex<|te<|te<|xh<|tn<|sr<|mv U U<|asg U<|nn<|rt<|r1 results18 U ⟨_,rfl,⟨0,[],nrm p,l17 _,rfl,by rw[l98];exact v9j (z4x hP.v) h8,by simpa using a4⟩,(q1.n1 D)⟩
def NmlR (b:Nat)(w':World)(p:MSt)(l:List MOp)(n:Nat)(nv:Value)(f:Int):Prop:=(∀x,z1t (nrm p) l=.error x->f=x)/\∀u q,z1t (nrm p) l=.ok (u,q)->(n=0->f=13)/\(n≠0->f=0/\∃c:BrN n,NrmS n b w' nv c/\Cn (fac n u) c/\c.2.length<=64/\-64<=c.1/\c.1<=64)
theorem k3e (s:StQ)(p:MSt)(N:Nat)(v:Value)(l:List MOp)(w0:World)(hS:StAt w0 s)(hP:StP s p N)(hn:N+l.length<=1000)(hv:Sl z3d w0 v l)(a4:StT w0)(h8:p.B.flat.length<=8):Rets prog 21 #[svv s,v] w0 λr w'=>(∃(x1 x2:Int) (X:SV) (f:Int),r=.tuple #[.agg #[.int .i64 x1,.int .i64 x2,.slice X.1 X.2.1 X.2.2],.int .i64 f]/\NmlR w0.heap.size w' p l s.q.p.flat.length (.agg #[.int .i64 x1,.int .i64 x2,.slice X.1 X.2.1 X.2.2]) f)/\Fr [] w0 w':=by
 obtain⟨A,c,rfl,f0⟩:=id hv.form;have a2:s.q.p=p.B:=hP.BE;have d1:BdOk s.q.p:=a2▸hP.v.inv.B;obtain⟨⟨hf,hb⟩,h4,d0⟩:=z3b d1;have d9:(z4u<|nrm p).length=s.q.p.flat.length:=by rw[x7x,a2];rfl
 refine we [(0,svv s),(1,.slice A l.length c)] func21 U ntmps21 U (.c2 U U) ?_;have b1:=hS;have e3:=hv;have b3:=a4;refine sr<|bx U<|λg2 w1 f1 O q1 z1=>(al j6w U<|λg4 w2 f2 D q2 z2=>(asg U<|nn<|sr ?_));have O:=O.ext q2;refine z0k U O z7r<|mv U U ?_;have hS:=b1.ext<|q1.n1 q2;have hv:=e3.ext<|q1.n1 q2;have a4:=b3.ext<|q1.n1 q2;refine cl (ev2 U) co6 (z4t s p N _ l _ hS hP hn hv a4) U ?_;rintro _ w3 ⟨⟨A7,ws,t8,e9,rfl,hB⟩,q3⟩;have a3:=hB.o.sl;have z3:=q3.size;have b2:=a3;refine mv U U<|xt U<|xt U<|xt U<|al y6l U<|λg7 w4 f3 b5 q4 z4=>(asg U<|z0i (vs:=[_,_,_,_,_,_,_,_]) U b5 z9m<|λw5 b5 q5 z5=>(asg U<|kpL (ll4 2 4 6 8) (csu U)<|nn<|sq<|sr<|mv U U<|ne' U<|nn<|cd U (λc0=>?_)<|λc0=>?_));obtain⟨b4,-⟩:=x8p hB c0;refine sr<|z1u (cs:=[_,_,_]) z0f k5w z0r U ?_;refine mv U U ?_;have D:=(D.ext<|q3.n1 q4).fr q5;exact z0i (vs:=[_,_,_]) U D u8l<|λw6 D q6 z6=>(asg U<|kpL (ll2 4 5) (csu U)<|nn<|rt<|tr<|rCT results21 U D j3f U ⟨_,rfl,⟨_,_,(_,_,_),_,rfl,λx Z=>(by rw[b4]at Z;cases Z;rfl),λu q hX=>(by rw[b4]at hX;cases hX)⟩,(q1.z5 q2 q3 q4 q5 q6)⟩);obtain⟨q',hX,-⟩:=x1i hB<|l16.1 c0;obtain⟨b7,-,a1,e5,-⟩:=y0k (z4x hP.v) hX;rw[d9]at a1;refine sk<|tn<|sr<|fad U z7m ?_;have O:=(O.ext<|q3.n1 q4).fr q5;refine z1v (vs:=[_,_]) U O z5a U ?_;have hS:=b1.ext<|q1.z4 q2 q3 q4 q5;refine cl (ev1 U) j9u (z9u s.q _ hS.b hf hb h4 d0) U ?_;rintro _ w7 ⟨rfl,q7⟩;have z7:=q7.size;refine asg U<|kpL (ll3 4 6 9) (csu U)<|nn<|sq<|sr<|mv U U<|eq' U<|nn<|cd U (λc1=>?_)<|λc1=>?_;refine sr<|z1u (cs:=[_,_,_]) z0f k5w z0r U ?_;have D:=((D.ext<|q3.n1 q4).fr q5).ext q7;exact z0i (vs:=[_,_,_]) U D u8l<|λw8 D q8 z8=>(asg U<|nn<|rt<|tr<|rCT results21 U D j3f U ⟨_,rfl,⟨_,_,(_,_,_),_,rfl,λx Z=>(by rw[hX]at Z;cases Z),λu q hq=>⟨λ_=>rfl,λh=>absurd oo h⟩⟩,(q1.z6 q2 q3 q4 q5 q7 q8)⟩);have d7:1<=s.q.p.flat.length/\s.q.p.flat.length<=8:=⟨oo,by rw[a2];exact h8⟩;refine sk<|tn<|sr<|mv U U<|mv U U ?_;have a3:=b2.ext<|q4.z2 q5 q7;refine cl (ev2 U) (mkC func48) (x7w s.q.p.flat.length _ ws _ a3 d7 b7 a1) U ?_;rintro _ w9 ⟨⟨f4,b8,rfl,d5,d3,a5,a6,a7⟩,q9⟩;have z9:=q9.size;obtain⟨e6,b6,G1,rfl,I,a0,d4,b0⟩:=d5;obtain⟨e7,e8,rfl,e4⟩:=I.sl.form;have e0:=λk (hk:k∈z0u _)=>(I.blk k hk).2;have d6:=λx (Z:x∈b6)=>((a0.r x Z).blk x t10).2;refine xt U<|xt U ?_;have D:=((D.ext<|q3.n1 q4).fr q5).ext<|q7.n1 q9;refine z0i (vs:=[_,_,_]) U D u8l<|λf5 D a9 f6=>(asg U<|kpL (ll2 4 5) (csu U)<|nn<|rt<|rCT results21 U D j3f U ?_);have I:=I.fr a9 (by intro k hk a8;rw[l11.1 hk]at a8;have b9:=(I.blk _ a8).1;have c9:=e0 _ a8;omega);have a0:=a0.fr a9 (λk hk hh=>by rw[l11.1 hk]at hh;have b9:=b0 _ hh;have c9:=d6 _ hh;omega);exact⟨_,rfl,⟨_,_,(_,_,_),_,rfl,λx Z=>(by rw[hX]at Z;cases Z),λu q hq=>(by rw[hX]at hq;cases hq;exact⟨λh=>absurd h oo,λ_=>⟨rfl,b8,⟨_,b6,G1,rfl,I.low oo,a0,d4,λx Z=>by have:=b0 x Z;omega⟩,d3,a5,a6,a7⟩⟩)⟩,((q1.z6 q2 q3 q4 q5 q7 q9).z1 a9)⟩
def SamR (K:List Int->List Int->Prop)(p:MSt)(l1 l2:List MOp)(b:Bool)(f:Int):Prop:=(∀x,z1t (nrm p) l1=.error x->f=x)/\∀u q,z1t (nrm p) l1=.ok (u,q)->(∀x,z1t (nrm p) l2=.error x->f=x)/\∀v r,z1t (nrm p) l2=.ok (v,r)->f=0/\(q.rk=r.rk->trimB q.B.f=trimB r.B.f->trimB q.B.b=trimB r.B.b->K u v->b=true)
theorem SamR.e1 {K:List Int->List Int->Prop}{p:MSt}{O Z:List MOp}{b:Bool}{f:Int}(h:z1t (nrm p) O=.error f):SamR K p O Z b f:=⟨λx I=>(by rw[h]at I;cases I;rfl),λu q D=>(by rw[h]at D;cases D)⟩
theorem SamR.e2 {K:List Int->List Int->Prop}{p q:MSt}{O Z:List MOp}{b:Bool}{u:List Int}{f:Int}(h1:z1t (nrm p) O=.ok (u,q))(h:z1t (nrm p) Z=.error f):SamR K p O Z b f:=
 ⟨λx D=>(by rw[h1]at D;cases D),λ_ _ _=>⟨λx D=>(by rw[h]at D;cases D;rfl),λv r I=>(by rw[h]at I;cases I)⟩⟩
theorem SamR.ok {K:List Int->List Int->Prop}{p q r:MSt}{l1 l2:List MOp}{b:Bool}{u v:List Int}(h1:z1t (nrm p) l1=.ok (u,q))(I:z1t (nrm p) l2=.ok (v,r))(h:q.rk=r.rk->trimB q.B.f=trimB r.B.f->trimB q.B.b=trimB r.B.b->K u v->b=true):SamR K p l1 l2 b 0:=
 ⟨λx D=>(by rw[h1]at D;cases D),λu' q' O=>⟨λx D=>(by rw[I]at D;cases D),λv' r' Z=>(by rw[h1]at O;rw[I]at Z;cases O;cases Z;exact⟨rfl,h⟩)⟩⟩
theorem x4l {s:StQ}{p:MSt}{N:Nat}(h:StP s p N):plB s.q.fs=p.B.f/\plB s.q.bs=p.B.b:=⟨congrArg Bd.f h.BE,congrArg Bd.b h.BE⟩
theorem x8r (s:StQ)(p:MSt)(N:Nat)(v v2:Value)(l l2:List MOp)(w0:World)(hS:StAt w0 s)(hP:StP s p N)(hn:N+l.length<=1000)(j6:N+l2.length<=1000)(hv:Sl z3d w0 v l)(b9:Sl z3d w0 v2 l2)(b1:StT w0)(h8:p.B.flat.length<=8)(K:List Int->List Int->Prop)(h7:∀u v (c d:BrN s.q.p.flat.length),(1<=s.q.p.flat.length/\s.q.p.flat.length<=8)->k3g s.q.p.flat.length u->k3g s.q.p.flat.length v->K u v->Cn (fac s.q.p.flat.length u) c->Cn (fac s.q.p.flat.length v) d->c=d):Rets prog 22 #[svv s,v,v2] w0 λr w'=>(∃(b:Bool) (f:Int),r=.tuple #[.bool b,.int .i64 f]/\SamR K p l l2 b f)/\Fr [] w0 w':=by
 obtain⟨A,c,rfl,m3⟩:=id hv.form;obtain⟨A2,e3,rfl,k2⟩:=id b9.form;have d4:s.q.p=p.B:=hP.BE;have g5:BdOk s.q.p:=d4▸hP.v.inv.B;obtain⟨⟨hf,hb⟩,h4,g1⟩:=z3b g5;have f0:(z4u<|nrm p).length=s.q.p.flat.length:=by rw[x7x,d4];rfl
 refine we [(0,svv s),(1,.slice A l.length c),(2,.slice A2 l2.length e3)] func22 U ntmps22 U (.c3 U U U) ?_;have d5:=hS;have j8:=hv;have f4:=b9;have d1:=b1;refine sr<|bx U<|λg3 w1 m4 a1 q1 z1=>(asg U<|asg U<|nn<|sr<|z0k U a1 z7r<|mv U U ?_);have hS:=d5.ext q1;have hv:=j8.ext q1;have b1:=d1.ext q1;refine cl (ev2 U) co6 (z4t s p N _ l _ hS hP hn hv b1) U ?_;rintro _ w2 ⟨⟨A8,ws,t9,l8,rfl,hB⟩,q2⟩;have e0:=hB.o.sl;have d7:=hB.k.at;have z2:=q2.size;have e7:=e0;have e6:=d7;refine mv U U<|xt U<|xt U<|xt U<|al y6l U<|λg9 w3 m5 a4 q3 z3=>(asg U<|z0i (vs:=[_,_,_,_,_,_,_,_]) U a4 z9m<|λw4 a4 q4 z4=>(asg U<|kpL (ll5 2 3 8 9 10) (csu U)<|nn<|sq<|sr<|mv U U<|ne' U<|nn<|cd U (λc0=>?_)<|λc0=>?_));obtain⟨i2,-⟩:=x8p hB c0;exact sr<|mv U U<|asg U<|asg U<|kpL (ll2 6 7) (csu U)<|nn<|rt<|tr<|r2 results22 U U ⟨_,rfl,⟨_,_,rfl,SamR.e1 i2⟩,(q1.z3 q2 q3 q4)⟩;obtain⟨qx,hX,I⟩:=x1i hB<|l16.1 c0;obtain⟨f5,-,b3,k7,-⟩:=y0k (z4x hP.v) hX;rw[f0]at b3;refine sk<|tn<|sr ?_;have a1:=(a1.ext<|q2.n1 q3).fr q4;refine z0k U a1 z7r<|mv U U ?_;have hS:=d5.ext<|q1.z3 q2 q3 q4;have b9:=f4.ext<|q1.z3 q2 q3 q4;have b1:=d1.ext<|q1.z3 q2 q3 q4;refine cl (ev2 U) co6 (z4t s p N _ l2 _ hS hP j6 b9 b1) U ?_;rintro _ w5 ⟨⟨l1,j9,f7,l9,rfl,b5⟩,q5⟩;have b0:=b5.o.sl;have a9:=b5.k.at;have z5:=q5.size;have d9:=b0;have d6:=a9;refine mv U U<|xt U<|xt U<|xt U<|al y6l U<|λm0 w6 k4 a2 q6 z6=>(asg U<|z0i (vs:=[_,_,_,_,_,_,_,_]) U a2 z9m<|λw7 a2 q7 z7=>(asg U<|kpL (ll6 3 8 9 10 11 12) (csu U)<|nn<|sq<|sr<|mv U U<|ne' U<|nn<|cd U (λc1=>?_)<|λc1=>?_));obtain⟨i3,-⟩:=x8p b5 c1;exact sr<|mv U U<|asg U<|asg U<|kpL (ll2 6 7) (csu U)<|nn<|rt<|tr<|r2 results22 U U ⟨_,rfl,⟨_,_,rfl,SamR.e2 hX i3⟩,(q1.z6 q2 q3 q4 q5 q6 q7)⟩;obtain⟨qy,hY,O⟩:=x1i b5<|l16.1 c1;obtain⟨f6,-,b4,k8,-⟩:=y0k (z4x hP.v) hY;rw[f0]at b4;have g6:BdOk t9.q.p:=I.BE▸I.v.inv.B;have g7:BdOk f7.q.p:=O.BE▸O.v.inv.B;obtain⟨⟨j4,j2⟩,g4,e4⟩:=z3b g6;obtain⟨⟨j5,j3⟩,-,-⟩:=z3b g7;refine sk<|tn<|sq<|sr<|fad U y2i ?_;have a4:=(a4.ext<|q5.n1 q6).fr q7;refine z0j U a4 U na3<|fad U y2i<|z0j U a2 U na3<|ne' U<|mv U U<|gs 41 U (λg0=>?_)<|λg0=>?_;exact gN U<|gN U<|gN U<|gN U<|gN U<|gN U<|pkt U<|kpL (ll4 3 8 11 48) (csu U)<|nn<|ct U<|sr<|asg U<|asg U<|nn<|rt<|tr<|r2 results22 U U ⟨_,rfl,⟨_,_,rfl,SamR.ok hX hY (λh1 h2 h3 _=>by first|exact absurd (I.rkE.trans<|h1.trans O.rkE.symm) g0|exact absurd (e9 (by rw[(x4l I).1,(x4l O).1];exact h2) (by rw[(x4l I).2,(x4l O).2];exact h3)) (by simpa using c2))⟩,(q1.z6 q2 q3 q4 q5 q6 q7)⟩;refine gY U<|fad U z7m<|gY U<|z1v (vs:=[_,_]) U a4 z5a U<|gY U<|fad U z7m<|gY U<|z1v (vs:=[_,_]) U a2 z5a U<|gY U ?_;have d7:=e6.ext<|q3.z4 q4 q5 q6 q7;have a9:=d6.ext<|q6.z1 q7;refine cl (ev2 U) (mkC func39) (v3t t9.q f7.q _ d7.b a9.b j4 j5 g4 j2 j3 e4) U ?_;rintro _ w8 ⟨⟨l6,rfl,e9⟩,q8⟩;have z8:=q8.size;refine gY U<|nt' U<|pkf U<|kpL (ll4 3 8 11 48) (csu U)<|nn<|cd U (λc2=>?_)<|λc2=>?_;exact sr<|asg U<|asg U<|nn<|rt<|tr<|r2 results22 U U ⟨_,rfl,⟨_,_,rfl,SamR.ok hX hY (λh1 h2 h3 _=>by first|exact absurd (I.rkE.trans<|h1.trans O.rkE.symm) g0|exact absurd (e9 (by rw[(x4l I).1,(x4l O).1];exact h2) (by rw[(x4l I).2,(x4l O).2];exact h3)) (by simpa using c2))⟩,((q1.z6 q2 q3 q4 q5 q6 q7).n1 q8)⟩;refine sk<|tn<|sr<|fad U z7m ?_;have a1:=((a1.ext<|q5.n1 q6).fr q7).ext q8;refine z1v (vs:=[_,_]) U a1 z5a U ?_;have hS:=d5.ext<|(q1.z6 q2 q3 q4 q5 q6 q7).n1 q8;refine cl (ev1 U) j9u (z9u s.q _ hS.b hf hb h4 g1) U ?_;rintro _ w9 ⟨rfl,q9⟩;have z9:=q9.size;refine asg U<|nn<|sq<|sr<|mv U U<|eq' U<|nn<|cd U (λc3=>?_)<|λc3=>?_;exact sr<|asg U<|asg U<|nn<|rt<|tr<|r2 results22 U U ⟨_,rfl,⟨_,_,rfl,SamR.ok hX hY<|λ_ _ _ _=>rfl⟩,(((q1.z6 q2 q3 q4 q5 q6 q7).n1 q8).n1 q9)⟩;have b8:1<=s.q.p.flat.length/\s.q.p.flat.length<=8:=⟨oo,by rw[d4];exact h8⟩;refine sk<|tn<|sr<|mv U U<|mv U U ?_;have e0:=e7.ext<|q3.z6 q4 q5 q6 q7 q8 q9;refine cl (ev2 U) (mkC func48) (x7w s.q.p.flat.length _ ws _ e0 b8 f5 b3) U ?_;rintro _ m8 ⟨⟨m6,f8,rfl,h9,g8,i4,i7,i9⟩,q10⟩;have o2:=q10.size;obtain⟨k9,f1,G1,rfl,a0,b6,h5,d3⟩:=h9;obtain⟨l3,l7,rfl,k0⟩:=a0.sl.form;have f3:=λk (hk:k∈z0u _)=>(a0.blk k hk).2;have e8:=λx (hx:x∈f1)=>((b6.r x hx).blk x t10).2;refine mv U U<|xt U<|xt U<|al j6w U<|λm1 m9 k5 Z c9 o3=>(z0i (vs:=[_,_,_]) U Z u8l<|λn7 Z d0 o4=>(asg U<|kpL (ll4 10 11 13 14) (csu U)<|nn<|sq<|sr<|mv U U<|ne' U<|nn<|cd U (λc4=>?_)<|λc4=>?_));exact absurd U c4;refine sk<|tn<|sr<|mv U U<|mv U U ?_;have b0:=d9.ext<|q6.z6 q7 q8 q9 q10 c9 d0;refine cl (ev2 U) (mkC func48) (x7w s.q.p.flat.length _ j9 _ b0 b8 f6 b4) U ?_;rintro _ n8 ⟨⟨m7,f9,rfl,i0,h0,i5,i8,j0⟩,q13⟩;have o5:=q13.size;obtain⟨l0,f2,G2,rfl,a3,b7,h6,e5⟩:=i0;obtain⟨l4,e3,rfl,k1⟩:=a3.sl.form;have j7:=λk (hk:k∈z0u _)=>(a3.blk k hk).2;have i1:=λx (hx:x∈f2)=>((b7.r x hx).blk x t10).2;refine mv U U<|xt U<|xt U<|al j6w U<|λm2 n9 k6 b2 a5 o6=>(z0i (vs:=[_,_,_]) U b2 u8l<|λo0 b2 a6 o7=>(asg U<|kpL (ll3 10 14 15) (csu U)<|nn<|sq<|sr<|mv U U<|ne' U<|nn<|cd U (λc5=>?_)<|λc5=>?_));exact absurd U c5;refine sk<|tn<|sr ?_;have Z:=(Z.ext<|q13.n1 a5).fr a6;refine z0k U Z j3f<|z0k U b2 j3f ?_;have a0:=(((a0.ext c9).fr d0 (by intro k hk D;rw[l11.1 hk]at D;have a7:=(a0.blk _ D).1;have a8:=f3 _ D;omega)).ext<|q13.n1 a5).fr a6 (by intro k hk D;rw[l11.1 hk]at D;have a7:=(a0.blk _ D).1;have a8:=f3 _ D;omega);have b6:=(((b6.ext c9).fr d0 (λk hk hh=>by rw[l11.1 hk]at hh;have a7:=d3 _ hh;have a8:=e8 _ hh;omega)).ext<|q13.n1 a5).fr a6 (λk hk hh=>by rw[l11.1 hk]at hh;have a7:=d3 _ hh;have a8:=e8 _ hh;omega);have a3:=(a3.ext a5).fr a6 (by intro k hk D;rw[l11.1 hk]at D;have a7:=(a3.blk _ D).1;have a8:=j7 _ D;omega);have b7:=(b7.ext a5).fr a6 (λk hk hh=>by rw[l11.1 hk]at hh;have a7:=e5 _ hh;have a8:=i1 _ hh;omega);refine cl (ev2 U) (mkC func49) (u4c s.q.p.flat.length _ _ _ _ f8 f9 _ ⟨_,f1,G1,rfl,a0,b6,h5,d3⟩ ⟨_,f2,G2,rfl,a3,b7,h6,e5⟩ b8.2 oo) U ?_;rintro _ o1 ⟨⟨l5,rfl,j1⟩,q16⟩;have o8:=q16.size;exact asg U<|asg U<|kpL (ll2 6 7) (csu U)<|nn<|rt<|r2 results22 U U ⟨_,rfl,⟨_,_,rfl,SamR.ok hX hY<|λ_ _ _ hE=>j1<|h7 _ _ _ _ b8 b3 b4 hE g8 h0⟩,(((((q1.z6 q2 q3 q4 q5 q6 q7).n1 q8).n1 q9).z6 q10 c9 d0 q13 a5 a6).next q16)⟩
end Go.Proofs.YtlfdhllfmoplgaaGreatDoor
namespace Go.G09
open Go.Lw Go.G21 Go.G08
theorem j6a {b n r:Int}(hn:z4d b n=0)(D:-4<=r/\r<=4):(z2f b n r=if b=0 then 4*n+2 else 4*(n+r))/\-12<=z2f b n r/\z2f b n r<=176/\z2f b n r % 2=0:=by
 obtain⟨Z,I,O⟩:=z2t hn;have e:z2f b n r=if b=0 then 4*n+2 else 4*(n+r):=by
  unfold z2f;rw[if_neg (by rintro(h|h);exact h hn;exact h D)]
 refine⟨e,?_⟩;rw[e];split<;>omega
theorem y5f {p:MSt}{o:MOp}(hn:z4d o.b o.p=0)(D:-4<=p.rk/\p.rk<=4):x5h (z6n p o):=by
 obtain⟨_,I,O,Z⟩:=j6a hn D;unfold z6n x5h;split<;>refine⟨?_,oo,oo⟩<;>intro e<;>have:=Int.dvd_of_tmod_eq_zero e<;>omega
theorem k3x {B:Bd}(I:BdOk B){r f t:Int}:u7z (btw (z2l B r) f t):=λq D=>by
 refine⟨I.nm _<|v7m D,?_⟩
 unfold btw at D
 split at D
 ·obtain⟨h,_,rfl⟩:=l54.1 D;exact .inr U
 obtain⟨h,_,rfl⟩:=l54.1<|l121.1 D;exact .inl U
theorem y4x {p:MSt}{y pl en:Int}(h:MInv p)(hy:1<=y/\y<=6)(I:x5h pl)(D:(p.y y).inn=true)(O:(p.y y).pe.length+p.B.flat.length<=4096) :
    z8v p y pl en=.ok (p.setY y<|goS (p.y y) pl<|y2h p y en):=by
  refine j4d<|k3y (h.yn (y-1).toNat oo).1 I (k3x h.B) D ?_
  have Z:=z7z (y2h p y en) (p.y y).pe
  have h2:(y2h p y en).length<=p.B.flat.length:=v1o
  omega
structure Mk (p q:MSt) (o:MOp) (st:List LId):Prop where
  rk:q.rk=p.rk
  B:q.B=p.B.put o.b o.p (st++[⟨o.y,(p.y o.y).ct⟩])
  tb:∃th pe,q.tb=p.tb.set (o.y-1).toNat (p.row o.y++[⟨o.b,(p.y o.y).nw,th,pe⟩])
  ys:q.ys=p.ys.set (o.y-1).toNat ⟨true,z6n p o,(p.y o.y).ct+1,false,[]⟩
  cr:q.cr=p.cr
  fa:q.fa=p.fa
theorem u8o {p:MSt}(h:MInv p){o:MOp}(hy:1<=o.y/\o.y<=6)(hn:z4d o.b o.p=0)(D:(p.y o.y).inn=true)(a1:(p.y o.y).ct<2048)(a0:z4o p.tb<2048)(Z:(p.y o.y).pe.length+p.B.flat.length<=4096)(th st:List LId) :
    ∃q,y1z (p.setY o.y<|goS (p.y o.y) (z6n p o)<|y2h p o.y<|z2f o.b o.p p.rk) o th st=.ok q/\Mk p q o st:=by
  have hl:(o.y-1).toNat<p.ys.length:=by rw[h.ly];omega
  have hc:=y4x (en:=z2f o.b o.p p.rk) h hy (y5f hn h.rk) D Z
  have hi:=(y1x h hy hc).1
  have I:(p.setY o.y<|goS (p.y o.y) (z6n p o)<|y2h p o.y<|z2f o.b o.p p.rk).y o.y=goS (p.y o.y) (z6n p o) (y2h p o.y<|z2f o.b o.p p.rk):=v6k hl
  have O:y1s ((p.setY o.y<|goS (p.y o.y) (z6n p o)<|y2h p o.y<|z2f o.b o.p p.rk).y o.y):=(hi.yn (o.y-1).toNat oo).1
  have hm:mkE (goS (p.y o.y) (z6n p o)<|y2h p o.y<|z2f o.b o.p p.rk)=0:=by
    unfold mkE
    rw[<-I,if_neg (by rw[u9g O];decide),I]
    rw[if_neg (by show ¬(p.y o.y).inn=false;rw[D];decide),if_neg (by show ¬(p.y o.y).ct=2048;omega)]
  unfold y1z
  rw[I,if_neg (by rw[hm];decide),if_neg (by show ¬2048<=z4o p.tb;omega)]
  refine⟨_,rfl,rfl,rfl,⟨th,_,rfl⟩,?_,rfl,rfl⟩
  show (p.ys.set _ _).set _ _=_
  rw[List.set_set]
  rfl
theorem x2n {p:MSt}(h:MInv p){o:MOp}(hc:z9i o=0)(hk:o.k=4)(hb:z5o p o=0)(D:(p.y o.y).inn=true)(Z:(p.y o.y).ct<2048)(O:z4o p.tb<2048)(I:(p.y o.y).pe.length+p.B.flat.length<=4096) :
    ∃q,doM p o=.ok q/\Mk p q o []:=by
  obtain⟨_,_,f3,_,f5,_⟩:=z3s hc
  have hy:=f3 oo;have hn:=f5 oo
  rw[x2t hc]
  unfold opM
  rw[if_neg oo,if_neg oo,if_neg oo,if_pos hk]
  unfold y1i
  rw[if_neg (by rw[hb];decide),y4x h hy (y5f hn h.rk) D I]
  exact u8o h hy hn D Z O I _ _
theorem v6j {p:MSt}(h:MInv p){o:MOp}(hc:z9i o=0)(hk:o.k=5)(hb:z5o p o=0)(D:(p.y o.y).inn=true)(Z:(p.y o.y).ct<2048)(O:z4o p.tb<2048)(I:(p.y o.y).pe.length+p.B.flat.length<=4096)(a0:(p.B.at o.b o.p).length<4) :
    ∃q,doM p o=.ok q/\Mk p q o (p.B.at o.b o.p):=by
  obtain⟨_,_,f3,_,f5,_⟩:=z3s hc
  have hy:=f3 oo;have hn:=f5 oo
  rw[x2t hc]
  unfold opM
  rw[if_neg oo,if_neg oo,if_neg oo,if_neg oo,if_pos hk]
  unfold y0x
  rw[if_neg (by rw[hb];decide),y4x h hy (y5f hn h.rk) D I]
  simp only
  rw[if_neg (by show ¬4<=(p.B.at o.b o.p).length;omega)]
  exact u8o h hy hn D Z O I _ _
theorem u9y {p:MSt}(h:MInv p){o:MOp}(O:z9i o=0)(Z:o.k=1)(D:(p.y o.y).inn=false):doM p o=.ok (p.setY o.y<|enS (p.y o.y) o.d):=by
 obtain⟨_,f2,f3,_,_,_⟩:=z3s O;have hy:=f3 oo;rw[x2t O];unfold opM inM;have he:enE (p.y o.y) o.d=0:=by
  have I:y1s (p.y o.y):=(h.yn (o.y-1).toNat oo).1;unfold enE;rw[if_neg (by rw[u9g I];decide),if_neg (λx=>x<|f2 Z),if_neg (by rw[D];decide)]
 rw[if_pos Z,if_neg (by rw[he];decide)]
theorem u4q {p:MSt}(h:MInv p){o:MOp}(O:z9i o=0)(hk:o.k=2)(D:(p.y o.y).inn=true):doM p o=.ok (p.setY o.y<|lvS<|p.y o.y):=by
 obtain⟨_,_,Z,_,_,_⟩:=z3s O;have hy:=Z oo;rw[x2t O];unfold opM x6h;have he:lvE (p.y o.y)=0:=by
  have I:y1s (p.y o.y):=(h.yn (o.y-1).toNat oo).1;unfold lvE;rw[if_neg (by rw[u9g I];decide),if_neg (by rw[D];decide)]
 rw[if_neg oo,if_pos hk,if_neg (by rw[he];decide)]
end Go.G09
namespace Go.G26
open Go.Lw Go.G21 Go.G08 Go.G09
theorem y6k {D p q:MSt}{o:MOp}:∀ {l:List MOp} {i:Nat},z3u i D l=.ok p->doM p o=.ok q->z3u i D (l++[o])=.ok q
 | [],i,h,e=>by cases h;show z3u i D [o]=_;unfold z3u;rw[e];rfl
 | x::l,i,h,e=>by
  rw[l72]
  unfold z3u at h ⊢
  split at h
  ·cases h
  rename_i O I
  exact y6k h e
structure RI (p:MSt) (b:Int) (m:Nat):Prop where
  v:MInv p
  rk:p.rk=0
  inn:(p.y 1).inn=true
  pl:(p.y 1).pl<=b
  pe:(p.y 1).pe.length<=6
  cnt:z4o p.tb<=m
theorem x8w:∀n:Nat,n<16->z9i (opS 4 1 n)=0/\z9i (opS 6 0 n)=0/\z9i (opS 5 1 n)=0/\z2f (bdS n) (10+((n / 2:Nat):Int)) 0=40+2*(n:Int)/\z4d (bdS n) (10+((n / 2:Nat):Int))=0:=by decide +kernel
theorem RI.fl {p:MSt}{b:Int}{m:Nat}(h:RI p b m):p.B.flat.length<=m:=by have:=h.v.cnt;have:=h.cnt;omega
theorem RI.ct {p:MSt}{b:Int}{m:Nat}(h:RI p b m):(p.y 1).ct<=m:=by
 have e:(p.y 1).ct=z3e p.tb 0:=(h.v.yn 0 oo).2;have D:=x7e p.tb 0;have:=h.cnt;rw[e];omega
theorem j0p {p q:MSt}{z:Yn}(h:MInv p)(e:q.ys=p.ys.set 0 z):q.y 1=z:=by
 unfold MSt.y;rw[e,List.getD,show ((1:Int)-1).toNat=0 from U,l111 (by rw[h.ly];omega)];rfl
theorem j6k {p:MSt}{n m:Nat}(h:RI p (40+2*(n:Int)) m)(hn:n<16)(hm:m<6) :
    ∃q,doM p (opS 4 1 n)=.ok q/\RI q (41+2*(n:Int)) (m+1)/\(q.y 1).pl=41+2*(n:Int)/\(q.B.at (bdS n)<|10+((n / 2:Nat):Int)).length=1:=by
  obtain⟨Z,_,_,h4,I⟩:=x8w n hn
  have O:z2f (opS 4 1 n).b (opS 4 1 n).p p.rk=40+2*(n:Int):=by rw[h.rk];exact h4
  have a1:=h.ct;have hfl:=h.fl;have a2:=h.pe;have a0:=h.cnt;have a3:=h.pl
  have hb:z5o p (opS 4 1 n)=0:=by
    unfold z5o
    rw[show (opS 4 1 n).y=1 from U,if_neg (by rw[h.inn];decide),if_pos (show (opS 4 1 n).d=1 from U),O,if_neg oo]
  obtain⟨q,e,k⟩:=x2n h.v Z U hb h.inn (show (p.y 1).ct<2048 by omega) oo (show (p.y 1).pe.length+_<=4096 by omega)
  have D:=j0p h.v k.ys
  have hp:z6n p (opS 4 1 n)=41+2*(n:Int):=by unfold z6n;rw[if_pos (show (opS 4 1 n).d=1 from U),O];omega
  refine⟨q,e,⟨z7l h.v e,k.rk.trans h.rk,by rw[D],by rw[D];show z6n p (opS 4 1 n)<=_;omega,by rw[D];exact l17 _,l37 (u7v e) oo⟩,by rw[D];exact hp,?_⟩
  rw[k.B]
  show ((p.B.put (bdS n) (10+((n / 2:Nat):Int)) _).at _ _).length=1
  rw[y6i _ I I,if_pos ⟨rfl,rfl⟩];rfl
theorem j3j {p:MSt}{n m:Nat}(h:RI p (41+2*(n:Int)) m)(hn:n<16)(hm:m<=6)(a1:(p.y 1).pl=41+2*(n:Int))(a0:(p.y 1).pe.length=0) :
    ∃q,doM p (opS 6 0 n)=.ok q/\RI q (40+2*(n:Int)) m/\q.B=p.B:=by
  obtain⟨_,O,_,Z,h5⟩:=x8w n hn
  have I:z2f (opS 6 0 n).b (opS 6 0 n).p p.rk=40+2*(n:Int):=by rw[h.rk];exact Z
  have hfl:=h.fl
  have hb:z5o p (opS 6 0 n)=0:=by
    unfold z5o
    rw[show (opS 6 0 n).y=1 from U,if_neg (by rw[h.inn];decide),if_neg (show ¬(opS 6 0 n).d=1 from (by decide:¬(0:Int)=1)),I,if_neg oo]
  have hp:z6n p (opS 6 0 n)=39+2*(n:Int):=by unfold z6n;rw[if_neg (show ¬(opS 6 0 n).d=1 from (by decide:¬(0:Int)=1)),I];omega
  have hc:=y4x (y:=1) (pl:=z6n p<|opS 6 0 n) (en:=z6n p<|opS 6 0 n) h.v oo (y5f h5 h.v.rk) h.inn oo
  have e:doM p (opS 6 0 n)=.ok (p.setY 1<|goS (p.y 1) (z6n p<|opS 6 0 n)<|y2h p 1<|z6n p<|opS 6 0 n):=by
    rw[x2t O]
    unfold opM
    rw[if_neg (show ¬(opS 6 0 n).k=1 from (by decide:¬(6:Int)=1)),if_neg (show ¬(opS 6 0 n).k=2 from (by decide:¬(6:Int)=2)),if_neg (show ¬(opS 6 0 n).k=3 from (by decide:¬(6:Int)=3)),if_neg (show ¬(opS 6 0 n).k=4 from (by decide:¬(6:Int)=4)),if_neg (show ¬(opS 6 0 n).k=5 from (by decide:¬(6:Int)=5)),if_pos (show (opS 6 0 n).k=6 from U)]
    unfold y3h
    rw[if_neg (by rw[hb];decide)]
    exact hc
  have D:(p.setY 1<|goS (p.y 1) (z6n p<|opS 6 0 n)<|y2h p 1<|z6n p<|opS 6 0 n).y 1=goS (p.y 1) (z6n p<|opS 6 0 n) (y2h p 1<|z6n p<|opS 6 0 n):=v6k (by rw[h.v.ly];decide)
  refine⟨_,e,⟨z7l h.v e,h.rk,by rw[D];exact h.inn,by rw[D];show z6n p (opS 6 0 n)<=_;omega,?_,h.cnt⟩,rfl⟩
  rw[D]
  have h6:=z7z (y2h p 1<|z6n p<|opS 6 0 n) (p.y 1).pe
  have h7:(y2h p 1<|z6n p<|opS 6 0 n).length<=p.B.flat.length:=v1o
  show (z5f _ _).length<=6
  omega
theorem j5r {p:MSt}{n m:Nat}(h:RI p (40+2*(n:Int)) m)(hn:n<16)(hm:m<6)(hl:(p.B.at (bdS n)<|10+((n / 2:Nat):Int)).length=1) :
    ∃q,doM p (opS 5 1 n)=.ok q/\RI q (41+2*(n:Int)) (m+1):=by
  obtain⟨_,_,O,Z,h5⟩:=x8w n hn
  have I:z2f (opS 5 1 n).b (opS 5 1 n).p p.rk=40+2*(n:Int):=by rw[h.rk];exact Z
  have a1:=h.ct;have hfl:=h.fl;have a2:=h.pe;have a0:=h.cnt;have a3:=h.pl
  have hb:z5o p (opS 5 1 n)=0:=by
    unfold z5o
    rw[show (opS 5 1 n).y=1 from U,if_neg (by rw[h.inn];decide),if_pos (show (opS 5 1 n).d=1 from U),I,if_neg oo]
  obtain⟨q,e,k⟩:=v6j h.v O U hb h.inn (show (p.y 1).ct<2048 by omega) oo (show (p.y 1).pe.length+_<=4096 by omega) (by show (p.B.at (bdS n)<|10+((n / 2:Nat):Int)).length<4;omega)
  have D:=j0p h.v k.ys
  have hp:z6n p (opS 5 1 n)=41+2*(n:Int):=by unfold z6n;rw[if_pos (show (opS 5 1 n).d=1 from U),I];omega
  exact⟨q,e,⟨z7l h.v e,k.rk.trans h.rk,by rw[D],by rw[D];show z6n p (opS 5 1 n)<=_;omega,by rw[D];exact l17 _,l37 (u7v e) oo⟩⟩
theorem v9f (n:Nat):∀(l:List Int) (s:List MOp×Nat),x2a n l s=s\/∃p,u1m n s.2 p/\x2a n l s=v4c n p s
 | [],s=>.inl U
 | p::r,s=>by
  unfold x2a
  split
  ·rename_i h;exact .inr ⟨p,h,rfl⟩
  exact v9f n r s
theorem RI.more {p:MSt}{b b':Int}{m:Nat}(h:RI p b m)(hb:b<=b'):RI p b' m:=⟨h.v,h.rk,h.inn,by have:=h.pl;omega,h.pe,h.cnt⟩
theorem u2n {n:Nat}{x:Int}{s:List MOp×Nat}(hn:n<16)(hm:s.2<6)(h:∃p,z3u 0 G08.start s.1=.ok p/\RI p (40+2*(n:Int)) s.2):∃p,z3u 0 G08.start (v4c n x s).1=.ok p/\RI p (42+2*(n:Int)) (v4c n x s).2:=by
 obtain⟨p,hp,D⟩:=h;obtain⟨q,e1,Z,I,O⟩:=j6k D hn hm;have r1:z3u 0 G08.start (s.1++[opS 4 1 n])=.ok q:=y6k hp e1;unfold v4c;split;rename_i c;obtain⟨q2,e2,a0,hB⟩:=j3j Z hn oo I (by
  have hy:=Z.pe;obtain⟨h1,_,_,h4,h5⟩:=x8w n hn;have hs:z2f (opS 4 1 n).b (opS 4 1 n).p p.rk=40+2*(n:Int):=by rw[D.rk];exact h4
  have a3:=D.ct;have hfl:=D.fl;have a4:=D.pe;have a2:=D.cnt;have I:=D.pl;have hb:z5o p (opS 4 1 n)=0:=by
   unfold z5o;rw[show (opS 4 1 n).y=1 from U,if_neg (by rw[D.inn];decide),if_pos (show (opS 4 1 n).d=1 from U),hs,if_neg oo]
  obtain⟨q',e',k⟩:=x2n D.v h1 U hb D.inn (show (p.y 1).ct<2048 by omega) oo (show (p.y 1).pe.length+_<=4096 by omega);rw[e1]at e';cases e';rw[j0p D.v k.ys];rfl)
 obtain⟨q3,e3,a1⟩:=j5r a0 hn oo (by rw[hB];exact O);refine⟨q3,?_,a1.more oo⟩;have r2:=y6k r1 e2;have r3:=y6k r2 e3;simpa[l14] using r3;exact⟨q,r1,Z.more oo⟩
theorem x2r (xs:List Int):∀n,n<=16->∃p,z3u 0 G08.start (z9n xs n).1=.ok p/\RI p (40+2*(n:Int)) (z9n xs n).2
 | 0,_=>by
  have e:∃p,doM G08.start ⟨1,0,0,0,1,0⟩=.ok p/\p=G08.start.setY 1 (enS (G08.start.y 1) 0):=⟨_,u9y y5s dd U dd,rfl⟩
  obtain⟨p,e,rfl⟩:=e
  have I:(G08.start.setY 1<|enS (G08.start.y 1) 0).y 1=enS (G08.start.y 1) 0:=v6k dd
  refine⟨_,by show z3u 0 G08.start [_]=_;unfold z3u;rw[e];rfl,z7l y5s e,rfl,by rw[I];rfl,by rw[I];show (if (0:Int)=1 then (179:Int) else -13)<=_;rw[if_neg dd];omega,by rw[I];exact l17 _,(by decide:z4o G08.start.tb<=0)⟩
 | n+1,h=>by
  obtain⟨p,Z,O⟩:=x2r xs n oo
  rcases v9f n (xs.take 6) (z9n xs n) with e|⟨x,hx,e⟩
  ·refine⟨p,by show z3u 0 G08.start (x2a n (xs.take 6)<|z9n xs n).1=_;rw[e];exact Z,?_⟩
   show RI p _ (x2a n (xs.take 6)<|z9n xs n).2
   rw[e];exact O.more oo
  obtain⟨q,hq,D⟩:=u2n (x:=x) (s:=z9n xs n) oo hx.2 ⟨p,Z,O⟩
  refine⟨q,by show z3u 0 G08.start (x2a n (xs.take 6)<|z9n xs n).1=_;rw[e];exact hq,?_⟩
  show RI q _ (x2a n (xs.take 6)<|z9n xs n).2
  rw[e];exact D.more oo
theorem u5p (xs:List Int):∃p,z3u 0 G08.start (j6u xs)=.ok p/\p.B.flat.length<=6/\p.rk=0:=by
 obtain⟨p,O,D⟩:=x2r xs 16<|l20 _;have I:=(x1t xs 16).2;have e:=u4q (o:=⟨2,0,0,0,1,0⟩) D.v dd U D.inn;exact⟨_,y6k O e,l37 D.fl I,D.rk⟩
end Go.G26
namespace Go.Proofs.YtlfdhllfmoplgaaGreatDoor
open Go.Lw Go.G21 Go.G08 Go.G09 Go.G26 _root_.Go.Proofs.Tryz
theorem ag53:z3y prog 53 2:=⟨λ_=>kr,λ_=>kr⟩
theorem j8a:z1d prog 53 1 1:=λ_ _=>kr
theorem k2r {A:Option Addr}{q:Prop}[Decidable q]{n m c I c':Nat}:∀k∈z0u (.slice (if q then A else A.map (·.add n)) m c),k∈z0u (.slice A I c'):=λk D=>by
 cases A with
 | none=>split at D<;>exact D
 | some a=>
  split at D
  ·exact D
  simp[z0u,z7b]at D ⊢;exact D
theorem j5s {o:MOp}{l:List MOp}{j:Nat}(h:j<=l.length):([]:List MOp).length=0/\[o].length=1/\(l.take j).length=j/\(l.drop j).length=l.length-j/\(([]:List MOp)++l.take j).length=j/\((([]:List MOp)++l.take j)++[o]).length=j+1:=
 ⟨rfl,rfl,t18,l35 ..,by rw[l46,l25];omega,by rw[l46,l13,l25];show min j l.length+1=_;omega⟩
theorem j0v {l:List MOp}{o:MOp}{j:Nat}(h:isP l=true):isP ((([]++l.take j)++[o])++l.drop j)=true↔(z9i o=0/\(o.k=3\/o.k=7)):=by
 have D:=x8n h j;have I:isP (l.drop j)=true:=l89.2 λx O=>l89.1 h x<|List.mem_of_mem_drop O;unfold isP at *
 rw[l46,List.all_append,List.all_append,D,I];simp only[Bool.true_and,Bool.and_true,List.all_cons,List.all_nil,decide_eq_true_eq];exact⟨λh=>⟨h.2,h.1⟩,λh=>⟨h.2,h.1⟩⟩
theorem k4s {p q:MSt}{D I:List MOp}{K:List Int->List Int->Prop}{b:Bool}{f e:Int}{u:List Int}(h:SamR K p D I b f)(O:z1t (nrm p) I=.ok (u,q))(h1:(e=0/\∃v r,z1t (nrm p) D=.ok (v,r))\/z1t (nrm p) D=.error e):f=e:=by
 rcases h1 with ⟨rfl,v,r,h1⟩|h1
 exact((h.2 _ _ h1).2 _ _ O).1;exact h.1 _ h1
theorem k5e {p q:MSt}{O I:List MOp}{K:List Int->List Int->Prop}{b:Bool}{f e:Int}{u:List Int}(h:SamR K p O I b f)(h1:z1t (nrm p) O=.ok (u,q))(D:(e=0/\∃v r,z1t (nrm p) I=.ok (v,r))\/z1t (nrm p) I=.error e):f=e:=by
 rcases D with ⟨rfl,v,r,D⟩|D
 exact((h.2 _ _ h1).2 _ _ D).1;exact(h.2 _ _ h1).1 _ D
theorem j5v (A M:Option Addr)(c cM:Nat)(bs ms:List UInt8)(o:MOp)(d3:Int)(w0:World)(r5:0<=d3/\d3<=255)(hG:Glob w0)(I:StT w0)(hs:Sl Enc.b w0 (.slice A bs.length c) bs)(hm:Sl Enc.b w0 (.slice M ms.length cM) ms):Rets prog 5 #[.agg #[.slice A bs.length c,.slice M ms.length cM],opV o,.int .u8 d3] w0 λr w'=>r=.bool true/\Fr [] w0 w':=by
 have q0:=hG.sz;refine we [(0,.agg #[.slice A bs.length c,.slice M ms.length cM]),(1,opV o),(2,.int .u8 d3)] func5 U ntmps5 U (.c3 U U U) ?_;have b4:=hG;have a3:=I;have l1:=hs;have m0:=hm;refine sr<|bx U<|λg3 w1 r6 b6 q1 z1=>(bx U<|λg4 w2 r7 D q2 z2=>(asg U<|nn<|sr ?_));have b6:=b6.ext q2;refine z0k U b6 ag53 ?_;have hs:=l1.ext<|q1.n1 q2;have I:=a3.ext<|q1.n1 q2;refine cl (ev1 U) (mkC func10) (y8k A c bs M ms.length cM _ hs I) U ?_;rintro _ w3 ⟨⟨s,rfl,hK,l8⟩,q3⟩;have hS:=hK.at;have z3:=q3.size;have l5:=hK;have b5:=hS;have hs:=l1.ext<|q1.n2 q2 q3;obtain⟨p,hp,h6,-⟩:=u5p<|bs.map λb=>(b.toNat:Int);have hP:=l8 p hp;have s9:=z2c hS.f.h;have l0:s.fb.hs=z4u (nrm p):=hP.hsE;have h8:p.B.flat.length<=8:=by omega
 have p9:s.fb.hs.length=s.q.p.flat.length:=by rw[l0,x7x,show s.q.p=p.B from hP.BE];rfl
 refine al y6l U<|λg7 w4 r8 O q4 z4=>?_;refine z0i (vs:=[_,_,_,_,_,_,_,_]) U O z9m (λw5 O q5 z5=>?_) (h1:=t33);refine nn<|sq ?_;have I:=a3.ext<|q1.z4 q2 q3 q4 q5;have hm:=m0.ext<|q1.z4 q2 q3 q4 q5;have b6:=(b6.ext<|q3.n1 q4).fr q5;have hK:=l5.ext<|q4.z1 q5;have hS:=b5.ext<|q4.z1 q5;intro a h;refine z0h none (λwb w'=>Fr [] wb w') z2r ?_;intro w6 q6;have z6:=q6.size;have I:=I.ext q6;have hm:=hm.ext q6;have b6:=b6.ext q6;have hK:=hK.ext q6;have hS:=hS.ext q6;have O:=O.ext q6;have hC:Fr [] w6 w6:=l12 _ _;have j0:=I;have k7:=hm;have f0:=b6;have k4:=hK;have k5:=hS;have d5:=O;refine z0x 0 h U (λ_ hw=>d5.ext hw) z7r U λa h=>z0x 1 h U (λ_ hw=>d5.ext hw) z7r U λa h=>z0c 2 h U j8a U λa h=>z0m 3 h U (λ_ hw=>f0.ext hw) U v3l U λa h=>z0d 4 U<|z0n h (z0a U<|z0a U z0f) (mkC func11) (j5l s p 50 M cM ms _ hK hP oo hm I) ?_;rintro _ w7 ⟨⟨A4,l,c4,rfl,d6,r9,o4,q,t8⟩,q7⟩ a h;have z7:=q7.size;have I:=I.ext q7;have hS:=hS.ext q7;have hC:=hC.next q7;refine z0b<|z0d 5 U<|z0n h (z0a U<|z0a U<|z0a U z0f) (mkC func18) (j4f s p q 50 A4 c4 l 64 _ hS hP d6.sl I oo h8 dd) ?_;rintro _ w8 ⟨⟨m,ul,qs,m1,rfl,h5,t9⟩,q8⟩ a h;have z8:=q8.size;have I:=I.ext q8;have hm:=hm.ext<|q7.n1 q8;have b6:=b6.ext<|q7.n1 q8;have hK:=hK.ext<|q7.n1 q8;have hS:=hS.ext q8;have O:=O.ext<|q7.n1 q8;have d6:=d6.ext q8;have hC:=hC.next q8;refine z0b<|z0d 6 U<|z0q h U λa h=>?_;refine z0b<|z0p ?_;clear hC j0 k7 f0 k4 k5 d5;have k6:=x5z d6.sl;obtain⟨_,_,m6,o1⟩:=id d6.sl.form;cases m6;obtain⟨lm,j3⟩:∃lm,lm=l.take m:=⟨_,rfl⟩;have m2:lm.length=m:=by rw[j3,l25];omega
 rw[<-j3]at h5;have a7:Sl z3d w8 (.slice A4 m c4) lm:=by rw[j3];exact d6.sl.take U m1 oo k6<|λ_=>rfl
 have a9:=a7;subst m2;have l9:=λk (hk:k∈z0u (.slice A4 l.length c4))=>(d6.blk k hk).2;obtain⟨i3,-⟩:=y6y h5;refine bk (h.sub (L':=ll4 2 4 7 8)<|csu U)<|tn<|sq<|sr<|mv U U<|cl (ev1 U) (mkC func19) (v7h _ lm _ a7 oo) U ?_;rintro _ w9 ⟨rfl,q9⟩;have z9:=q9.size;refine nt' U<|nn<|cd U (λc0=>?_)<|λc0=>?_;rw[i3]at c0;cases c0;refine sk<|tn<|sr<|mv U U<|z3v U (us underlying5) underlying3 (wi6 oo)<|mv U U<|lnS U underlying45<|z0v U (wi6 oo)<|y7v U U t38<|asg U ?_;have a7:=a9.ext q9;obtain⟨jj,s1⟩:∃jj:Nat,(jj:Int)=d3 % ((lm.length:Int)+1):=⟨(d3 % ((lm.length:Int)+1)).toNat,Int.toNat_of_nonneg<|Int.emod_nonneg _ oo⟩;have s2:=Int.emod_lt_of_pos d3 (show (0:Int)<(lm.length:Int)+1 by omega);have b1:Sl z3d w9 (.slice A4 jj c4) (lm.take jj):=a7.take U oo oo k6<|λ_=>rfl;have a0:Sl z3d w9 (.slice (if c4=jj then A4 else A4.map (·.add (jj*z3d.sz))) (lm.length-jj)<|c4-jj) (lm.drop jj):=a7.drop U oo oo oo<|λh=>if_neg oo;have f2:∀k∈z0u (.slice (if c4=jj then A4 else A4.map (·.add (jj*z3d.sz))) (lm.length-jj)<|c4-jj),k<w8.heap.size:=λk hk=>l9 k<|k2r k hk;have n9:=b1;have o0:=a0;obtain⟨s3,s4,s5,s6,s7,s8⟩:=j5s (o:=o) (l:=lm) (j:=jj) oo;have r4:((([]++lm.take jj)++[o])++lm.drop jj).length=lm.length+1:=by rw[l13];omega
 refine kpL (ll4 4 7 8 9) (csu U)<|nn<|jn (ι:=Value) (ll3 4 7 8) (λv_=>[(10,v_)]) (λv_ w'=>Fr [] w9 w'/\Sl z3d w' v_ ((([]++lm.take jj)++[o])++lm.drop jj)) (csu U) ?_ ?_;have D:=((D.ext<|q3.n1 q4).fr q5).ext<|q6.n3 q7 q8 q9;intro a h;refine z0h none (λwb w'=>Fr [] wb w') z2r ?_;intro h4 f4;have y4:=f4.size;have D:=D.ext f4;have b1:=b1.ext f4;have a0:=a0.ext f4;have hC:Fr [] h4 h4:=l12 _ _;have f1:=D;have j1:=b1;have j2:=a0;refine y0o (ι:=Value×Nat) h (ll4 4 7 8 9) (csu U) #[true,true,true,true,true,true,true,false,true,true,true,false,false] 3 (λp_=>[(42,p_.1),(44,.slice (saa p_.2) 1 1),(48,.slice (if c4=jj then A4 else A4.map (·.add (jj*z3d.sz))) (lm.length-jj)<|c4-jj)]) (λp_ w'=>Fr [] h4 w'/\Lw.Own z3d 44 h4.heap.size w' p_.1 ([]++lm.take jj)/\Lw.Own z3d 44 h4.heap.size w' (.slice (saa p_.2) 1 1) [o]) (λd4=>?_) ?_;refine z0e 1 h U λa h=>z0e 2 h U λa h=>x7q (p:=jj) 3 hC h wn U U y0y U U λa h=>z0x 5 h U (λ_ hw=>f1.ext hw) y2a U λa h=>z0e 8 h U λa h=>z0e 9 h U λa h=>j6j (p:=jj) 10 kr kr kr hC h wn U U y0y oo oo oo U U λa h=>z1w 0 6 kr U ?_ ?_;refine z2b ([]) h z0f U y0y λe7 u2 hg b0 f5 hz a h=>?_;have h7:g4<e7:=by have:=D.lt;omega
 have y5:=f5.size;have D:=D.ext f5;have b1:=b1.ext f5;have a0:=a0.ext f5;have hC:=hC.next f5;refine z0b<|z1w 4 6 kr U ?_ ?_;have a1:=b0;refine z4h h U U b0 b1 y0y oo λe6 u3 a5 h9 f3 a h=>?_;have y6:=h9.size;have D:=D.fr h9<|λhk=>absurd (a1.blk _ hk).1 oo;have a0:=a0.fr h9<|λk hk hb=>absurd (f2 k hb) (by have:=(a1.blk k hk).1;omega);have hC:=hC.step h9<|λk hk e3=>absurd (a1.blk k hk).1 oo;refine z0b<|z0d 6 U<|z2b ([o]) h (z0a U z0f) U y0y λa8 u4 hg a2 j4 hz a h=>?_;have e0:g4<a8:=by have:=D.lt;omega
 have y7:=j4.size;have a5:=a5.ext j4;have hC:=hC.next j4;exact z0b<|d4 (e6,a8) _ _ _ kr (h.sub<|csu U) ⟨hC,a5.low oo,a2.low oo⟩;refine z2b ([o]) h (z0a U z0f) U y0y λa8 u5 hg a2 e4 hz a h=>?_;have e0:g4<a8:=by have:=D.lt;omega
 have y8:=e4.size;have D:=D.ext e4;have b1:=b1.ext e4;have a0:=a0.ext e4;have b0:=b0.ext e4;have hC:=hC.next e4;refine z0b<|z0d 4 U ?_;have a1:=b0;refine z4h h U U b0 b1 y0y oo λe6 u6 a5 f6 f3 a h=>?_;have y9:=f6.size;have D:=D.fr f6<|λhk=>absurd (a1.blk _ hk).1 oo;have a0:=a0.fr f6<|λk hk hb=>absurd (f2 k hb) (by have:=(a1.blk k hk).1;omega);have a2:=a2.fr f6 t11;have hC:=hC.step f6<|λk hk e3=>absurd (a1.blk k hk).1 oo;exact z0b<|d4 (e6,a8) _ _ _ kr (h.sub<|csu U) ⟨hC,a5.low oo,a2.low oo⟩;refine z2b ([o]) h (z0a U z0f) U y0y λa8 u7 hg a2 f7 hz a h=>?_;have e0:g4<a8:=by have:=D.lt;omega
 have z0:=f7.size;have D:=D.ext f7;have hC:=hC.next f7;refine z0b<|z0d 0 U<|z2b ([]) h z0f U y0y λe7 u9 hg b0 e5 hz a h=>?_;have h7:g4<e7:=by have:=D.lt;omega
 have A0:=e5.size;have D:=D.ext e5;have b1:=b1.ext<|f7.n1 e5;have a0:=a0.ext<|f7.n1 e5;have a2:=a2.ext e5;have hC:=hC.next e5;refine z0b<|z0d 4 U ?_;have a1:=b0;refine z4h h U U b0 b1 y0y oo λe6 v8 a5 f8 f3 a h=>?_;have A1:=f8.size;have D:=D.fr f8<|λhk=>absurd (a1.blk _ hk).1 oo;have a0:=a0.fr f8<|λk hk hb=>absurd (f2 k hb) (by have:=(a1.blk k hk).1;omega);have a2:=a2.fr f8 t11;have hC:=hC.step f8<|λk hk e3=>absurd (a1.blk k hk).1 oo;exact z0b<|d4 (e6,a8) _ _ _ kr (h.sub<|csu U) ⟨hC,a5.low oo,a2.low oo⟩;rintro⟨e6,a8⟩ a v9 ⟨hC,a5,a2⟩ h;simp only at a5 a2;have j5:=hC;have A2:=j5.size;have a0:=a0.ext j5;refine z0d 7 U ?_;have d7:=a5;refine z4h h U U a5 a2.sl y0y oo λu0 x0 i4 i0 m4 a h=>?_;have A3:=i0.size;have a0:=a0.fr i0<|λk hk hb=>absurd (f2 k hb) (by have:=(d7.blk k hk).1;omega);have hC:=hC.step i0<|λk hk e3=>absurd (d7.blk k hk).1 oo;refine z0b<|z0d 11 U ?_;have d9:=i4;refine z4h h U U i4 a0 y0y oo λu1 x1 k9 i1 m5 a h=>?_;have A5:=i1.size;have a0:=a0.fr i1<|λk hk hb=>absurd (f2 k hb) (by have:=(d9.blk k hk).1;omega);have hC:=hC.step i1<|λk hk e3=>absurd (d9.blk k hk).1 oo;refine z0b<|z0d 12 U<|z0q h U λa h=>?_;refine z0b<|z0p ?_;clear hC f1 j1 j2;exact bk (h.sub (L':=ll4 4 7 8 10)<|csu U)<|jE (_) (csu U) ⟨(((f4.n1 j5).step i0<|λk hk e3=>absurd (d7.blk k hk).1 oo).step i1<|λk hk e3=>absurd (d9.blk k hk).1 oo),k9.sl⟩;rintro vA x2 ⟨b3,Z⟩;have A6:=b3.size;have a4:=Z;refine kpC (ll4 4 7 8 10) (csu U)<|sq<|v4b (r:=11) (L':=ll3 7 8 10) ((z9i o=0/\(o.k=3\/o.k=7))) (csu U) ?_ ?_;have D:=((D.ext<|q3.n1 q4).fr q5).ext<|q6.n4 q7 q8 q9 b3;refine z0k U D y2a<|cl (ev1 U) j6q (y0u o _) U ?_;rintro _ x3 ⟨rfl,f9⟩;have A7:=f9.size;refine eq' U<|mv U U<|gs 53 U (λg0=>?_)<|λg0=>?_;refine gY U<|fad U z7e<|gY U ?_;have D:=D.ext f9;refine z0j U D U x9e<|gY U<|eq' U<|gY U<|mv U U<|gs 57 U (λg1=>?_)<|λg1=>?_;exact gN U<|gN U<|gN U<|gY U<|pkt U<|pkt U<|asg U<|y1y U (csu U) f9;exact gY U<|fad U z7e<|gY U<|z0j U D U x9e<|gY U<|eq' U<|gY U<|pkf U<|pkt U<|asg U<|y1y U (csu U) f9;exact gN U<|gN U<|gN U<|gN U<|gS U<|gS U<|gS U<|gN U<|pkf U<|asg U<|y1y U (csu U) f9;intro x4 b2;have A8:=b2.size;refine tn<|sr ?_;have O:=O.ext<|q9.n2 b3 b2;refine z0k U O z7r<|mv U U ?_;have hS:=b5.ext<|(q4.z6 q5 q6 q7 q8 q9 b3).n1 b2;have Z:=a4.ext b2;have I:=a3.ext<|(((q1.z6 q2 q3 q4 q5 q6 q7).n1 q8).n1 q9).n2 b3 b2;refine cl (ev2 U) co6 (z4t s p 50 _ ((([]++lm.take jj)++[o])++lm.drop jj) _ hS hP oo Z I) U ?_;rintro _ x5 ⟨⟨o9,ws,l4,c9,rfl,hB⟩,q25⟩;have A9:=q25.size;have m7:=hB.o.sl.len_le;unfold maxLen at m7;refine mv U U<|xt U<|xt U<|xt U<|al y6l U<|λp7 x6 o2 a6 d0 B0=>?_;refine asg U<|z0i (vs:=[_,_,_,_,_,_,_,_]) U a6 z9m (λm8 a6 d1 B1=>?_) (h1:=t33);refine asg U ?_;have hG:=b4.ext<|(((q1.z6 q2 q3 q4 q5 q6 q7).n1 q8).n1 q9).z5 b3 b2 q25 d0 d1;have I:=a3.ext<|(((q1.z6 q2 q3 q4 q5 q6 q7).n1 q8).n1 q9).z5 b3 b2 q25 d0 d1;have D:=(((D.ext<|q3.n1 q4).fr q5).ext<|(q6.n6 q7 q8 q9 b3 b2 q25).n1 d0).fr d1;have hS:=b5.ext<|(((q4.z6 q5 q6 q7 q8 q9 b3).n1 b2).n1 q25).z2 d0 d1;have O:=(O.ext<|q25.n1 d0).fr d1;have a7:=a9.ext<|q9.z5 b3 b2 q25 d0 d1;have Z:=a4.ext<|b2.z3 q25 d0 d1;have i5:Fr [] w0 m8:=((((q1.z6 q2 q3 q4 q5 q6 q7).n1 q8).n1 q9).z5 b3 b2 q25 d0 d1);have b4:=hG;have a3:=I;have b5:=hS;have a9:=a7;have a4:=Z;have o5:=i5.size;refine kpL (ll7 7 8 10 11 12 13 14) (csu U)<|nn<|sr<|z0k U O z7r<|mv U U<|cl (ev2 U) (mkC func21) (k3e s p 50 _ ((([]++lm.take jj)++[o])++lm.drop jj) _ hS hP oo Z I h8) U ?_;rintro _ x7 ⟨⟨y2,y3,X_,j6,rfl,hN⟩,q28⟩;have B2:=q28.size;refine mv U U<|xt U<|xt U<|al j6w U<|λp8 x8 o3 i2 b7 B3=>?_;refine z0i (vs:=[_,_,_]) U i2 u8l (λm9 i2 b8 B4=>?_) (h1:=t33);refine asg U ?_;have hG:=b4.ext<|q28.z2 b7 b8;have I:=a3.ext<|q28.z2 b7 b8;have D:=(D.ext<|q28.n1 b7).fr b8;have hS:=b5.ext<|q28.z2 b7 b8;have O:=(O.ext<|q28.n1 b7).fr b8;have a7:=a9.ext<|q28.z2 b7 b8;have Z:=a4.ext<|q28.z2 b7 b8;have a6:=(a6.ext<|q28.n1 b7).fr b8;have i7:Fr [] w0 m9:=(i5.z3 q28 b7 b8);have b4:=hG;have a3:=I;have b5:=hS;have a9:=a7;have a4:=Z;have o6:=i7.size;refine kpL (ll8 7 8 10 11 12 13 14 16) (csu U)<|nn<|sr<|z0k U O z7r<|mv U U<|mv U U<|cl (ev3 U) (mkC func22) (x8r s p 50 _ _ ((([]++lm.take jj)++[o])++lm.drop jj) lm _ hS hP oo oo Z a7 I h8 (λ_ _=>False)<|λ_ _ _ _ _ _ _ h=>h.elim) U ?_;rintro _ n7 ⟨⟨p0,p3,rfl,l6⟩,q31⟩;have B5:=q31.size;refine mv U U<|xt U<|xt U<|asg U<|asg U ?_;have hG:=b4.ext q31;have I:=a3.ext q31;have hS:=b5.ext q31;have O:=O.ext q31;have a7:=a9.ext q31;have Z:=a4.ext q31;have i8:Fr [] w0 n7:=(i7.n1 q31);have b4:=hG;have a3:=I;have b5:=hS;have a9:=a7;have a4:=Z;have o7:=i8.size;refine kpL (ll9 7 8 10 11 12 13 14 16 18) (csu U)<|nn<|sr<|z0k U O z7r<|mv U U<|mv U U<|cl (ev3 U) (mkC func22) (x8r s p 50 _ _ lm ((([]++lm.take jj)++[o])++lm.drop jj) _ hS hP oo oo a7 Z I h8 (λ_ _=>False)<|λ_ _ _ _ _ _ _ h=>h.elim) U ?_;rintro _ n8 ⟨⟨p1,p4,rfl,l7⟩,q32⟩;have B6:=q32.size;refine mv U U<|xt U<|xt U<|asg U<|asg U ?_;have hG:=b4.ext q32;have I:=a3.ext q32;have D:=D.ext<|q31.n1 q32;have hS:=b5.ext q32;have O:=O.ext q32;have a7:=a9.ext q32;have Z:=a4.ext q32;have a6:=a6.ext<|q31.n1 q32;have h3:Fr [] w0 n8:=(i8.n1 q32);have b4:=hG;have a3:=I;have b5:=hS;have a9:=a7;have a4:=Z;have o8:=h3.size;have e8:(c9=0/\∃v r,z1t (nrm p) ((([]++lm.take jj)++[o])++lm.drop jj)=.ok (v,r))\/z1t (nrm p) ((([]++lm.take jj)++[o])++lm.drop jj)=.error c9:=(x0l hB).elim (λ⟨x,h1,h2,_⟩=>.inr (by rw[h2];exact h1))<|λ⟨q',h1,h2,_⟩=>.inl ⟨h2,ws,q',h1⟩;have j8:=k4s l6 h5 e8;have j9:=k5e l7 h5 e8;have i9:=j0v (j:=jj) (o:=o) i3;have j7:c9=1↔¬isP ((([]++lm.take jj)++[o])++lm.drop jj)=true:=by
  constructor;intro h hh;rcases e8 with ⟨h0,-⟩|h0
  omega;rw[h]at h0;exact u5l (z4x hP.v).inv hh h0;intro h;have h0:=x0o (p:=nrm p)<|Bool.eq_false_iff.2 h;rcases e8 with ⟨-,v,r,h1⟩|h1
  rw[h0]at h1;cases h1;rw[h0]at h1;cases h1;rfl
 have m3:¬((z9i o=0/\(o.k=3\/o.k=7))↔c9=1):=λh=>by
  by_cases k:isP ((([]++lm.take jj)++[o])++lm.drop jj)=true;exact j7.1 (h.1<|i9.1 k) k;exact k<|i9.2<|h.2<|j7.2 k
 have k0:isP ((([]++lm.take jj)++[o])++lm.drop jj)=decide (z9i o=0/\(o.k=3\/o.k=7)):=Bool.eq_iff_iff.2<|i9.trans decide_eq_true_iff.symm;have k8:¬(decide (z9i o=0/\(o.k=3\/o.k=7))=decide (c9=1)):=λh=>m3<|decide_eq_decide.1 h;have e9:j6=c9\/((c9=0/\j6=13)/\(s.fb.h.2.1:Int)=0):=by
  rcases e8 with ⟨h0,v,r,h1⟩|h1
  obtain⟨k1,k2⟩:=hN.2 _ _ h1;by_cases k:s.q.p.flat.length=0;exact .inr ⟨⟨h0,k1 k⟩,oo⟩;exact .inl<|(k2 k).1.trans h0.symm;exact .inl<|hN.1 _ h1
 refine kpL (ll9 7 10 11 12 13 14 16 18 20) (csu U)<|nn<|sq<|sr<|mv U U<|cl (ev1 U) (mkC func19) (v7h _ ((([]++lm.take jj)++[o])++lm.drop jj) _ Z oo) U ?_;rintro _ x9 ⟨rfl,b9⟩;have B7:=b9.size;refine mv U U<|j8d U U underlying4 U<|mv U U<|gs 94 U (λhh=>absurd hh (by exact λh=>h k0))<|λg2=>(gY U<|mv U U<|gY U<|mv U U<|gY U<|eq' U<|gY U<|k4q U U underlying4 U<|pkf U<|mv U U<|gs 100 U (λhh=>absurd hh (by exact k8))<|λg3=>(gY U<|mv U U<|gY U<|mv U U<|gY U<|ne' U<|pkf U<|mv U U<|gs 105 U (λhh=>absurd hh (by exact λh=>h j8))<|λg4=>?_));refine gY U<|mv U U<|gY U<|mv U U<|gY U<|ne' U<|pkf U<|kpL (ll6 7 12 13 14 16 109) (csu U)<|nn<|cd U (λc1=>?_)<|λc1=>?_;exact absurd j9 c1;refine sk<|tn<|sq<|sq<|rbo (r:=127) (L':=ll3 7 14 16) (((c9≠0)/\((((ws.length:Int)≠0)\/(l4.rk≠0))\/((l4.yv.2.1:Int)≠0)))) (csu U) ?_ ?_;refine mv U U<|ne' U<|mv U U<|gs 112 U (λg5=>?_)<|λg5=>?_;refine gY U<|mv U U<|gY U<|lnS U underlying22<|gY U<|ne' U<|gY U<|mv U U<|gs 116 U (λg6=>?_)<|λg6=>?_;exact gN U<|gN U<|gN U<|gY U<|pkt U<|gY U<|mv U U<|gN U<|gN U<|gN U<|gN U<|gY U<|pkt U<|pkt U<|rbe U<|csu U;refine gY U<|fad U y2i<|gY U ?_;have a6:=a6.ext b9;refine z0j U a6 U na3<|gY U<|ne' U<|gY U<|pkf U<|gY U<|mv U U<|gs 121 U (λg7=>?_)<|λg7=>?_;exact gN U<|gN U<|gN U<|gN U<|gY U<|pkt U<|pkt U<|rbe U<|csu U;exact gY U<|fad U x3b<|gY U<|z0j U a6 U y4s<|gY U<|lnS U underlying26<|gY U<|ne' U<|gY U<|pkf U<|pkt U<|rbe U<|csu U;exact gN U<|gN U<|gN U<|gN U<|gS U<|gS U<|gS U<|gN U<|gN U<|gS U<|gS U<|gS U<|gS U<|gN U<|pkf U<|rbe U<|csu U;refine tn<|cd U (λc2=>?_)<|λc2=>?_;exfalso;obtain⟨h1,h2⟩:=c2;obtain⟨-,hw,ht⟩:=x8p hB h1;subst hw ht;exact h2.elim (λh=>h.elim (λh=>h U)<|λh=>h U)<|λh=>h U;refine sk<|tn<|sr<|mv U U<|mv U U<|eq' U<|mv U U<|gs 131 U (λg8=>?_)<|λg8=>?_;refine gN U<|gN U<|gN U<|gS U<|gS U<|gN U<|gN U<|gS U<|gS U<|gS U<|gS U<|gS U<|gN U<|pkt U<|mv U U<|gY U ?_;have hG:=b4.ext b9;have I:=a3.ext b9;refine cl z0f (mkC func9) (y8i _ hG I) U ?_;rintro _ y0 ⟨rfl,l2⟩;have B8:=l2.size;refine pkt U<|asg U<|kpL (ll1 6) (csu U)<|nn<|rt<|r1 results5 U ?_;exact⟨_,rfl,by first|rfl|exact congrArg Value.bool<|decide_eq_true sp0,(h3.n2 b9 l2)⟩;refine gY U<|mv U U<|gY U<|eq' U<|gY U<|mv U U<|gs 134 U (λg9=>?_)<|λhh=>absurd (by exact(e9.resolve_left t12).1.1) hh;refine gY U<|mv U U<|gY U<|eq' U<|gY U<|pkt U<|gY U<|mv U U<|gs 138 U (λp5=>?_)<|λhh=>absurd (by exact(e9.resolve_left t12).1.2) hh;refine gY U<|fad U z6t<|gY U<|y6p U z9f U<|gY U ?_;have O:=O.ext b9;refine z0j U O U z6f<|gY U<|lnS U underlying30<|gY U<|eq' U<|gY U<|pkt U<|pkf U<|mv U U<|gs 146 U (λp6=>?_)<|λhh=>absurd (by exact(e9.resolve_left t12).2) hh;refine gY U ?_;have hG:=b4.ext b9;have I:=a3.ext b9;refine cl z0f (mkC func9) (y8i _ hG I) U ?_;rintro _ y1 ⟨rfl,l3⟩;have B9:=l3.size;refine pkt U<|asg U<|kpL (ll1 6) (csu U)<|nn<|rt<|r1 results5 U ?_;exact⟨_,rfl,by first|rfl|exact congrArg Value.bool<|decide_eq_true sp0,(h3.n2 b9 l3)⟩
theorem k0j (x:SV×SV)(bs ms:List UInt8)(o:MOp)(D:Int)(w0:World)(O:0<=D/\D<=255)(hG:Glob w0)(I:StT w0)(hs:Sl Enc.b w0 (slv x.1) bs)(Z:Sl Enc.b w0 (slv x.2) ms):Rets prog 5 #[.agg #[slv x.1,slv x.2],opV o,.int .u8 D] w0 λr w'=>r=.bool true/\Fr [] w0 w':=by
 obtain⟨⟨A,n,c⟩,M,m,d⟩:=x;have e1:n=bs.length:=z2c hs;have e2:m=ms.length:=z2c Z;subst e1 e2;exact j5v A M c d bs ms o D w0 O hG I hs Z
end Go.Proofs.YtlfdhllfmoplgaaGreatDoor
