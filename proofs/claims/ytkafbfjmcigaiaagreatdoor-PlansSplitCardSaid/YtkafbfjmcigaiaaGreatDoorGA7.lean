/- Texts of the proof, joined. -/
import Derived.Test.YtkafbfjmcigaiaaGreatDoorRows
import Derived.Laws.BitsAllLaws
import Derived.Laws.BitsLemmas
import Derived.Test.YtkafbfjmcigaiaaGreatDoorGA6
set_option linter.unusedVariables false
set_option linter.unusedSimpArgs false
set_option maxHeartbeats 4000000
namespace Go.Proofs.YtkafbfjmcigaiaaGreatDoor
open Go.Lw Go.G21 Go.G08 Go.G09 Go.G26 _root_.Go.Proofs.Tryz
theorem bo24:BuildAt prog 24 [(0,1),(1,1)] [(.slice none 0 0),(.slice none 0 0)]:=BuildAt.struct underlying24 (λ_=>kr)<|λ_=>kr
theorem u2g:CallOf prog 12:=mkC func12
theorem k0j:CallOf prog 33:=mkC func33
theorem k8c:ElemOf prog 90 89 k7d 24:=ElemOf.mk' (z:=(.slice none 0 0)) underlying90 kr U
theorem el91:ElemOf prog 91 58 k9f 24:=ElemOf.mk' (z:=(.slice none 0 0)) underlying91 kr U
theorem na89:z2a prog 89:=λ_=>kr
set_option maxRecDepth 10000 in
theorem y8f (w0:World)(hG:Glob w0)(a4:StT w0):Rets prog 13 #[] w0 λr w'=>r=.bool true/\Fr [] w0 w':=by
 have R6:=hG.sz;refine we [] func13 U ntmps13 U .nil ?_;have r5:=hG;have i3:=a4;refine sr<|asg U<|nn<|sr<|z1i ([0,1,2]) (ev3 U) U y4n<|λR2 w1 D5 G0 q1 z1=>?_;refine z1t (cs:=[_,_]) (ev1 U) bo24 (z0g U z0r) U ?_;have a4:=i3.ext q1;refine cl (ev1 U) (mkC func5) (y8l _ _ [0,1,2] none 0 0 _ G0.sl a4) U ?_;rintro _ w2 ⟨⟨s,rfl,C4,I4⟩,q2⟩;have a3:=C4.at;clear C4;have z2:=q2.size;have i2:=a3;obtain⟨p,hp,J4,I8,l3,I9⟩:=k2k;have hP:=I4 p (by rw[show (([0,1,2]:List UInt8).map λb=>(b.toNat:Int))=[0,1,2] from by decide,k3u];exact hp);have hh:s.fb.hs=[xa,xb,xc]:=hP.hsE.trans J4;have T9:s.fb.h.2.1=3:=by rw[z2e a3.f.h,hh];rfl
 have Q0:s.fb.hs.length=3:=by rw[hh];rfl
 have k4:(s.fb.hs.getD 0 id0)=xa:=by rw[hh];rfl
 have x4:(s.fb.hs.getD 1 id0)=xb:=by rw[hh];rfl
 have m9:(s.fb.hs.getD 2 id0)=xc:=by rw[hh];rfl
 refine al y7t U<|λg1 w3 J0 d1 q3 z3=>?_;refine z0j (vs:=[_,_,_,_,_,_,_,_]) U d1 z9z (λw4 d1 q4 z4=>?_) (h1:=t40);have j8:=d1;refine nn<|sq<|sr<|fad U z6t<|y7i U z9h U<|z0i U d1 U z6q<|lnS U underlying32<|ne' U<|nn<|cd U (λc0=>?_)<|λc0=>?_;exfalso;omega;refine sk<|tn<|jn (ι:=Nat×Nat×Nat) (ll1 1) (λz_=>[(2,pta z_.1),(3,pta z_.2.1),(4,pta z_.2.2)]) (λz_ w'=>Fr [] w4 w'/\Blk w' z_.1 54 [.int .u8 (s.fb.hs.getD 0 id0).y,.int .i64 (s.fb.hs.getD 0 id0).n]/\Blk w' z_.2.1 54 [.int .u8 (s.fb.hs.getD 1 id0).y,.int .i64 (s.fb.hs.getD 1 id0).n]/\Blk w' z_.2.2 54 [.int .u8 (s.fb.hs.getD 2 id0).y,.int .i64 (s.fb.hs.getD 2 id0).n]) (csu U) ?_ ?_;have a3:=i2.ext<|q3.z1 q4;intro a h;refine z0h none (λwb w'=>Fr [] wb w') z2s ?_;intro w5 q5;have z5:=q5.size;have a3:=a3.ext q5;have d1:=d1.ext q5;have hC:Fr [] w5 w5:=l12 _ _;have b6:=a3;have b2:=d1;refine y2p (ι:=Nat×Nat×Nat) h (ll2 1 27) (csu U) #[true,true,true,true,true,true,true,true,true,true,true,true,true,true,true,true,true,true,false,false,false] 3 (λp_=>[(2,pta p_.1),(3,pta p_.2.1),(4,pta p_.2.2),(32,ivv<|s.fb.hs.getD 0 id0),(37,ivv<|s.fb.hs.getD 1 id0),(42,ivv<|s.fb.hs.getD 2 id0)]) (λp_ w'=>Fr [] w5 w'/\(w5.heap.size<=p_.1/\w5.heap.size<=p_.2.1/\w5.heap.size<=p_.2.2/\p_.1≠p_.2.1/\p_.1≠p_.2.2/\p_.2.1≠p_.2.2)/\Blk w' p_.1 54 [.int .u8 0,.int .i64 0]/\Blk w' p_.2.1 54 [.int .u8 0,.int .i64 0]/\Blk w' p_.2.2 54 [.int .u8 0,.int .i64 0]) (λe6=>?_) ?_;refine z0c 0 h U z6t U λa h=>z5a 1 h U z9h U λa h=>z0m 2 h U (λ_ hw=>b2.ext hw) U z6q U λa h=>z1e (p:=0) (id0) 3 h U a3.f.h U z4l U ?_ (hp:=rfl);intro P0 C8 a h;refine z2d 4 h wn U (λ_ hw=>C8 _<|b6.f.h.ext hw) z3b U λa h=>z0c 5 h U z6t U λa h=>z5a 6 h U z9h U λa h=>z0m 7 h U (λ_ hw=>b2.ext hw) U z6q U λa h=>z1e (p:=1) (id0) 8 h U a3.f.h U z4l U ?_ (hp:=rfl);intro P1 C9 a h;refine z2d 9 h wn U (λ_ hw=>C9 _<|b6.f.h.ext hw) z3b U λa h=>z0c 10 h U z6t U λa h=>z5a 11 h U z9h U λa h=>z0m 12 h U (λ_ hw=>b2.ext hw) U z6q U λa h=>z1e (p:=2) (id0) 13 h U a3.f.h U z4l U ?_ (hp:=rfl);intro P2 D0 a h;refine z2d 14 h wn U (λ_ hw=>D0 _<|b6.f.h.ext hw) z3b U λa h=>x0z 15 16 17 kr U U U ?_ ?_ ?_;refine z0u h z8v U λw6 I q6 hz a h=>?_;obtain⟨a8,hg⟩:∃g,g=w5.heap.size:=⟨_,rfl⟩;rw[<-hg]at I h hz;have z6:=q6.size;have hC:=hC.next q6;refine z0b<|z1u 16 17 kr U ?_ ?_;refine z0u h z8v U λw7 O q7 hz a h=>?_;obtain⟨a9,hg⟩:∃g,g=w6.heap.size:=⟨_,rfl⟩;rw[<-hg]at O h hz;have i7:a8<a9:=by have:=I.lt;omega
 have z7:=q7.size;have I:=I.ext q7;have hC:=hC.next q7;refine z0b<|z0d 17 U<|z0u h z8v U λw8 Z q8 hz a h=>?_;obtain⟨b0,hg⟩:∃g,g=w7.heap.size:=⟨_,rfl⟩;rw[<-hg]at Z h hz;have i8:a8<b0:=by have:=I.lt;omega
 have j0:a9<b0:=by have:=O.lt;omega
 have z8:=q8.size;have I:=I.ext q8;have O:=O.ext q8;have hC:=hC.next q8;exact z0b<|e6 (a8,a9,b0) _ _ _ kr (h.sub<|csu U) ⟨hC,⟨sm,sm,sm,sm,sm,sm⟩,I,O,Z⟩;refine z0u h z8v U λw9 Z q9 hz a h=>?_;obtain⟨b0,hg⟩:∃g,g=w6.heap.size:=⟨_,rfl⟩;rw[<-hg]at Z h hz;have i8:a8<b0:=by have:=I.lt;omega
 have z9:=q9.size;have I:=I.ext q9;have hC:=hC.next q9;refine z0b<|z0d 16 U<|z0u h z8v U λU3 O r8 hz a h=>?_;obtain⟨a9,hg⟩:∃g,g=w9.heap.size:=⟨_,rfl⟩;rw[<-hg]at O h hz;have i7:a8<a9:=by have:=I.lt;omega
 have j2:b0<a9:=by have:=Z.lt;omega
 have L6:=r8.size;have I:=I.ext r8;have Z:=Z.ext r8;have hC:=hC.next r8;exact z0b<|e6 (a8,a9,b0) _ _ _ kr (h.sub<|csu U) ⟨hC,⟨sm,sm,sm,sm,sm,sm⟩,I,O,Z⟩;refine z0u h z8v U λH3 O G5 hz a h=>?_;obtain⟨a9,hg⟩:∃g,g=w5.heap.size:=⟨_,rfl⟩;rw[<-hg]at O h hz;have L7:=G5.size;have hC:=hC.next G5;refine z0b<|z1u 15 17 kr U ?_ ?_;refine z0u h z8v U λJ9 I y3 hz a h=>?_;obtain⟨a8,hg⟩:∃g,g=H3.heap.size:=⟨_,rfl⟩;rw[<-hg]at I h hz;have i9:a9<a8:=by have:=O.lt;omega
 have L8:=y3.size;have O:=O.ext y3;have hC:=hC.next y3;refine z0b<|z0d 17 U<|z0u h z8v U λU4 Z r9 hz a h=>?_;obtain⟨b0,hg⟩:∃g,g=J9.heap.size:=⟨_,rfl⟩;rw[<-hg]at Z h hz;have j0:a9<b0:=by have:=O.lt;omega
 have i8:a8<b0:=by have:=I.lt;omega
 have L9:=r9.size;have O:=O.ext r9;have I:=I.ext r9;have hC:=hC.next r9;exact z0b<|e6 (a8,a9,b0) _ _ _ kr (h.sub<|csu U) ⟨hC,⟨sm,sm,sm,sm,sm,sm⟩,I,O,Z⟩;refine z0u h z8v U λK0 Z y4 hz a h=>?_;obtain⟨b0,hg⟩:∃g,g=H3.heap.size:=⟨_,rfl⟩;rw[<-hg]at Z h hz;have j0:a9<b0:=by have:=O.lt;omega
 have M0:=y4.size;have O:=O.ext y4;have hC:=hC.next y4;refine z0b<|z0d 15 U<|z0u h z8v U λU5 I s1 hz a h=>?_;obtain⟨a8,hg⟩:∃g,g=K0.heap.size:=⟨_,rfl⟩;rw[<-hg]at I h hz;have i9:a9<a8:=by have:=O.lt;omega
 have j1:b0<a8:=by have:=Z.lt;omega
 have M1:=s1.size;have O:=O.ext s1;have Z:=Z.ext s1;have hC:=hC.next s1;exact z0b<|e6 (a8,a9,b0) _ _ _ kr (h.sub<|csu U) ⟨hC,⟨sm,sm,sm,sm,sm,sm⟩,I,O,Z⟩;refine z0u h z8v U λH4 Z G6 hz a h=>?_;obtain⟨b0,hg⟩:∃g,g=w5.heap.size:=⟨_,rfl⟩;rw[<-hg]at Z h hz;have M2:=G6.size;have hC:=hC.next G6;refine z0b<|z1u 15 16 kr U ?_ ?_;refine z0u h z8v U λK1 I y5 hz a h=>?_;obtain⟨a8,hg⟩:∃g,g=H4.heap.size:=⟨_,rfl⟩;rw[<-hg]at I h hz;have j1:b0<a8:=by have:=Z.lt;omega
 have M3:=y5.size;have Z:=Z.ext y5;have hC:=hC.next y5;refine z0b<|z0d 16 U<|z0u h z8v U λU6 O s2 hz a h=>?_;obtain⟨a9,hg⟩:∃g,g=K1.heap.size:=⟨_,rfl⟩;rw[<-hg]at O h hz;have j2:b0<a9:=by have:=Z.lt;omega
 have i7:a8<a9:=by have:=I.lt;omega
 have M4:=s2.size;have Z:=Z.ext s2;have I:=I.ext s2;have hC:=hC.next s2;exact z0b<|e6 (a8,a9,b0) _ _ _ kr (h.sub<|csu U) ⟨hC,⟨sm,sm,sm,sm,sm,sm⟩,I,O,Z⟩;refine z0u h z8v U λK2 O y6 hz a h=>?_;obtain⟨a9,hg⟩:∃g,g=H4.heap.size:=⟨_,rfl⟩;rw[<-hg]at O h hz;have j2:b0<a9:=by have:=Z.lt;omega
 have M5:=y6.size;have Z:=Z.ext y6;have hC:=hC.next y6;refine z0b<|z0d 15 U<|z0u h z8v U λU7 I s3 hz a h=>?_;obtain⟨a8,hg⟩:∃g,g=K2.heap.size:=⟨_,rfl⟩;rw[<-hg]at I h hz;have j1:b0<a8:=by have:=Z.lt;omega
 have i9:a9<a8:=by have:=O.lt;omega
 have M6:=s3.size;have Z:=Z.ext s3;have O:=O.ext s3;have hC:=hC.next s3;exact z0b<|e6 (a8,a9,b0) _ _ _ kr (h.sub<|csu U) ⟨hC,⟨sm,sm,sm,sm,sm,sm⟩,I,O,Z⟩;rintro⟨a8,a9,b0⟩ a U8 ⟨hC,⟨J6,J7,J8,G2,G3,G4⟩,I,O,Z⟩ h;simp only at J6 J7 J8 G2 G3 G4 I O Z;have G7:=hC;have M7:=G7.size;have R9:=I.lt;have S0:=O.lt;have S7:=Z.lt;refine z0d 18 U<|z0t h U I U y0i ?_ (h1:=t40);intro K3 b3 p3 hz a h;have M8:=p3.size;have O:=O.fr p3;have Z:=Z.fr p3;have hC:=hC.sp p3;have I:Blk K3 a8 _ [_,_]:=b3;clear b3;refine z0b<|z0d 19 U<|z0t h U O U y0i ?_ (h1:=t40);intro K4 b3 p4 hz a h;have M9:=p4.size;have I:=I.fr p4;have Z:=Z.fr p4;have hC:=hC.sp p4;have O:Blk K4 a9 _ [_,_]:=b3;clear b3;refine z0b<|z0d 20 U<|z0t h U Z U y0i ?_ (h1:=t40);intro K5 b3 p5 hz a h;have N0:=p5.size;have I:=I.fr p5;have O:=O.fr p5;have hC:=hC.sp p5;have Z:Blk K5 b0 _ [_,_]:=b3;clear b3;refine z0b<|z0q ?_;clear hC b6 b2;exact bk (h.sub (L':=ll4 1 2 3 4)<|csu U)<|jE ((a8,a9,b0)) (csu U) ⟨(q5.z4 G7 p3 p4 p5),⟨I,O,Z⟩⟩;rintro⟨g2,g3,g4⟩ U9 ⟨l5,⟨I,O,Z⟩⟩;have N1:=l5.size;have H9:=I.lt;have I0:=O.lt;have I1:=Z.lt;simp only at I O Z;refine kpC [(1,_),(2,pta g2),(3,pta g3),(4,pta g4)] (csu U)<|sr<|z1i ([[120,102,101,114,32,102,49,48],[114,97,99,107,32,49],[114,97,99,107,32,48],[120,102,101,114,32,98,49,48]]) (ev4 U) U y4c<|λA7 V0 D6 n7 j9 N2=>(z1i ([[120,102,101,114,32,102,49,48],[114,97,99,107,32,50],[120,102,101,114,32,98,49,48],[114,97,99,107,32,48]]) (ev4 U) U y4c<|λA8 V1 D7 n8 j3 N3=>(z1i ([[120,102,101,114,32,102,49,48],[114,97,99,107,32,51],[120,102,101,114,32,98,49,48],[114,97,99,107,32,48]]) (ev4 U) U y4c<|λB0 V2 D8 n9 h8 N4=>(z1i ([[120,102,101,114,32,102,49,49],[114,97,99,107,32,45,49],[120,102,101,114,32,98,49,49],[114,97,99,107,32,48]]) (ev4 U) U y4c<|λB1 V3 D9 o0 h0 N5=>(z1i ([[120,102,101,114,32,102,49,49],[114,97,99,107,32,45,49],[114,97,99,107,32,48],[120,102,101,114,32,98,49,49]]) (ev4 U) U y4c<|λB2 V4 E0 o1 f4 N6=>?_))));refine z1i ([((some ⟨A7,0,none⟩,4,4),[[120,102,101,114,32,102,49,48],[114,97,99,107,32,49],[114,97,99,107,32,48],[120,102,101,114,32,98,49,48]]),((some ⟨A8,0,none⟩,4,4),[[120,102,101,114,32,102,49,48],[114,97,99,107,32,50],[120,102,101,114,32,98,49,48],[114,97,99,107,32,48]]),((some ⟨B0,0,none⟩,4,4),[[120,102,101,114,32,102,49,48],[114,97,99,107,32,51],[120,102,101,114,32,98,49,48],[114,97,99,107,32,48]]),((some ⟨B1,0,none⟩,4,4),[[120,102,101,114,32,102,49,49],[114,97,99,107,32,45,49],[120,102,101,114,32,98,49,49],[114,97,99,107,32,48]]),((some ⟨B2,0,none⟩,4,4),[[120,102,101,114,32,102,49,49],[114,97,99,107,32,45,49],[114,97,99,107,32,48],[120,102,101,114,32,98,49,49]])]) (z0a U<|z0a U<|z0a U<|z0a U<|z0a U z0f) U k8c<|λR3 K6 E1 u3 e9 N7=>(asg U ?_);have n7:=n7.ext<|j3.n4 h8 h0 f4 e9;have n8:=n8.ext<|h8.n3 h0 f4 e9;have n9:=n9.ext<|h0.n2 f4 e9;have o0:=o0.ext<|f4.n1 e9;have o1:=o1.ext e9;obtain⟨m1,l0⟩:∃L:List (SQ<|List UInt8),L=[((some ⟨A7,0,none⟩,4,4),[[120,102,101,114,32,102,49,48],[114,97,99,107,32,49],[114,97,99,107,32,48],[120,102,101,114,32,98,49,48]]),((some ⟨A8,0,none⟩,4,4),[[120,102,101,114,32,102,49,48],[114,97,99,107,32,50],[120,102,101,114,32,98,49,48],[114,97,99,107,32,48]]),((some ⟨B0,0,none⟩,4,4),[[120,102,101,114,32,102,49,48],[114,97,99,107,32,51],[120,102,101,114,32,98,49,48],[114,97,99,107,32,48]]),((some ⟨B1,0,none⟩,4,4),[[120,102,101,114,32,102,49,49],[114,97,99,107,32,45,49],[120,102,101,114,32,98,49,49],[114,97,99,107,32,48]]),((some ⟨B2,0,none⟩,4,4),[[120,102,101,114,32,102,49,49],[114,97,99,107,32,45,49],[114,97,99,107,32,48],[120,102,101,114,32,98,49,49]])]:=⟨_,rfl⟩;rw[<-l0]at u3;have l4:QAt Enc.str K6 m1:=by rw[l0];exact QAt.five n7.sl n8.sl n9.sl o0.sl o1.sl
 have j7:=u3.sl;have S8:m1.length=5:=by rw[l0];rfl
 have I7:∀i,i<5->(m1.getD i sqs).2=exT.getD i []/\(m1.getD i sqs).1.2.1=4:=by
  rw[l0];intro i hi;rcases(show i=0\/i=1\/i=2\/i=3\/i=4 by omega) with rfl|rfl|rfl|rfl|rfl<;>exact⟨rfl,rfl⟩
 have m3:=l4;have m5:=j7;refine kpL (ll5 1 2 3 4 5) (csu U)<|nn<|sr<|z1i ([]) z0f U y0l<|λB3 V5 E2 o2 h9 N8=>(z1i ([-1]) (ev1 U) U y0l<|λB4 V6 E3 o3 h2 N9=>(z1i ([-1,-2]) (ev2 U) U y0l<|λB5 V7 E4 o4 f5 O0=>(z1i ([1]) (ev1 U) U y0l<|λB6 V8 E5 o5 f0 O1=>(z1i ([1,-1]) (ev2 U) U y0l<|λB7 V9 E6 o6 e2 O2=>(z1i ([((some ⟨B3,0,none⟩,0,0),[]),((some ⟨B4,0,none⟩,1,1),[-1]),((some ⟨B5,0,none⟩,2,2),[-1,-2]),((some ⟨B6,0,none⟩,1,1),[1]),((some ⟨B7,0,none⟩,2,2),[1,-1])]) (z0a U<|z0a U<|z0a U<|z0a U<|z0a U z0f) U el91<|λR4 K7 E7 u4 e0 O3=>?_)))));refine asg U ?_;have o2:=o2.ext<|h2.n4 f5 f0 e2 e0;have o3:=o3.ext<|f5.n3 f0 e2 e0;have o4:=o4.ext<|f0.n2 e2 e0;have o5:=o5.ext<|e2.n1 e0;have o6:=o6.ext e0;obtain⟨q0,l1⟩:∃L:List (SQ Int),L=[((some ⟨B3,0,none⟩,0,0),[]),((some ⟨B4,0,none⟩,1,1),[-1]),((some ⟨B5,0,none⟩,2,2),[-1,-2]),((some ⟨B6,0,none⟩,1,1),[1]),((some ⟨B7,0,none⟩,2,2),[1,-1])]:=⟨_,rfl⟩;rw[<-l1]at u4;have h6:QAt Enc.i64 K7 q0:=by rw[l1];exact QAt.five o2.sl o3.sl o4.sl o5.sl o6.sl
 have h7:=u4.sl;have S9:q0.length=5:=by rw[l1];rfl
 have x9:∀i,i<5->(q0.getD i sqi).2=exW.getD i []:=by
  rw[l1];intro i hi;rcases(show i=0\/i=1\/i=2\/i=3\/i=4 by omega) with rfl|rfl|rfl|rfl|rfl<;>rfl
 have m4:=h6;have m6:=h7;refine kpL (ll6 1 2 3 4 5 6) (csu U)<|nn<|sr ?_;have I:=I.ext<|(((j9.n6 j3 h8 h0 f4 e9 h9).n1 h2).n1 f5).n3 f0 e2 e0;refine z0l U I z3b ?_;have O:=O.ext<|(((j9.n6 j3 h8 h0 f4 e9 h9).n1 h2).n1 f5).n3 f0 e2 e0;refine z0l U O z3b ?_;have Z:=Z.ext<|(((j9.n6 j3 h8 h0 f4 e9 h9).n1 h2).n1 f5).n3 f0 e2 e0;refine z0l U Z z3b<|z1i ([(s.fb.hs.getD 0 id0),(s.fb.hs.getD 1 id0),(s.fb.hs.getD 2 id0)]) (ev3 U) U z4l<|λB8 W0 E8 o7 f6 O4=>?_;have O:=O.ext f6;refine z0l U O z3b ?_;have I:=I.ext f6;refine z0l U I z3b ?_;have Z:=Z.ext f6;refine z0l U Z z3b<|z1i ([(s.fb.hs.getD 1 id0),(s.fb.hs.getD 0 id0),(s.fb.hs.getD 2 id0)]) (ev3 U) U z4l<|λB9 W1 E9 o8 f1 O5=>?_;have O:=O.ext f1;refine z0l U O z3b ?_;have Z:=Z.ext f1;refine z0l U Z z3b ?_;have I:=I.ext f1;refine z0l U I z3b<|z1i ([(s.fb.hs.getD 1 id0),(s.fb.hs.getD 2 id0),(s.fb.hs.getD 0 id0)]) (ev3 U) U z4l<|λC0 W2 F0 o9 e3 O6=>?_;have O:=O.ext e3;refine z0l U O z3b ?_;have I:=I.ext e3;refine z0l U I z3b ?_;have Z:=Z.ext e3;refine z0l U Z z3b<|z1i ([(s.fb.hs.getD 1 id0),(s.fb.hs.getD 0 id0),(s.fb.hs.getD 2 id0)]) (ev3 U) U z4l<|λC1 W3 F1 p0 e1 O7=>?_;have I:=I.ext e1;refine z0l U I z3b ?_;have O:=O.ext e1;refine z0l U O z3b ?_;have Z:=Z.ext e1;refine z0l U Z z3b<|z1i ([(s.fb.hs.getD 0 id0),(s.fb.hs.getD 1 id0),(s.fb.hs.getD 2 id0)]) (ev3 U) U z4l<|λC2 W4 F2 p1 d6 O8=>(z1i ([((some ⟨B8,0,none⟩,3,3),[(s.fb.hs.getD 0 id0),(s.fb.hs.getD 1 id0),(s.fb.hs.getD 2 id0)]),((some ⟨B9,0,none⟩,3,3),[(s.fb.hs.getD 1 id0),(s.fb.hs.getD 0 id0),(s.fb.hs.getD 2 id0)]),((some ⟨C0,0,none⟩,3,3),[(s.fb.hs.getD 1 id0),(s.fb.hs.getD 2 id0),(s.fb.hs.getD 0 id0)]),((some ⟨C1,0,none⟩,3,3),[(s.fb.hs.getD 1 id0),(s.fb.hs.getD 0 id0),(s.fb.hs.getD 2 id0)]),((some ⟨C2,0,none⟩,3,3),[(s.fb.hs.getD 0 id0),(s.fb.hs.getD 1 id0),(s.fb.hs.getD 2 id0)])]) (z0a U<|z0a U<|z0a U<|z0a U<|z0a U z0f) U y6c<|λR5 A1 F3 u5 d3 O9=>(asg U ?_));have o7:=o7.ext<|f1.n4 e3 e1 d6 d3;have o8:=o8.ext<|e3.n3 e1 d6 d3;have o9:=o9.ext<|e1.n2 d6 d3;have p0:=p0.ext<|d6.n1 d3;have p1:=p1.ext d3;obtain⟨m2,l2⟩:∃L:List IQ,L=[((some ⟨B8,0,none⟩,3,3),[(s.fb.hs.getD 0 id0),(s.fb.hs.getD 1 id0),(s.fb.hs.getD 2 id0)]),((some ⟨B9,0,none⟩,3,3),[(s.fb.hs.getD 1 id0),(s.fb.hs.getD 0 id0),(s.fb.hs.getD 2 id0)]),((some ⟨C0,0,none⟩,3,3),[(s.fb.hs.getD 1 id0),(s.fb.hs.getD 2 id0),(s.fb.hs.getD 0 id0)]),((some ⟨C1,0,none⟩,3,3),[(s.fb.hs.getD 1 id0),(s.fb.hs.getD 0 id0),(s.fb.hs.getD 2 id0)]),((some ⟨C2,0,none⟩,3,3),[(s.fb.hs.getD 0 id0),(s.fb.hs.getD 1 id0),(s.fb.hs.getD 2 id0)])]:=⟨_,rfl⟩;rw[<-l2]at u5;have f8:QAt z1g A1 m2:=by rw[l2];exact QAt.five o7.sl o8.sl o9.sl p0.sl p1.sl
 have f9:=u5.sl;have T3:m2.length=5:=by rw[l2];rfl
 have D1:∀i,i<5->(m2.getD i iq0).2=exH.getD i []:=by
  rw[l2];intro i hi;rcases(show i=0\/i=1\/i=2\/i=3\/i=4 by omega) with rfl|rfl|rfl|rfl|rfl<;>(rw[k4,x4,m9];rfl)
 have u0:=f8;have u1:=f9;refine kpL (ll7 1 2 3 4 5 6 7) (csu U)<|nn<|sq<|sr<|asg U ?_;have hG:=r5.ext<|(((((((((((q1.z6 q2 q3 q4 l5 j9 j3).n1 h8).n1 h0).n6 f4 e9 h9 h2 f5 f0).next e2).next e0).next f6).next f1).next e3).next e1).next d6).next d3;have a4:=i3.ext<|(((((((((((q1.z6 q2 q3 q4 l5 j9 j3).n1 h8).n1 h0).n6 f4 e9 h9 h2 f5 f0).next e2).next e0).next f6).next f1).next e3).next e1).next d6).next d3;have a3:=i2.ext<|(((((((((q3.z6 q4 l5 j9 j3 h8 h0).n1 f4).n1 e9).n6 h9 h2 f5 f0 e2 e0).next f6).next f1).next e3).next e1).next d6).next d3;have d1:=j8.ext<|(((((((l5.n6 j9 j3 h8 h0 f4 e9).n1 h9).n1 h2).n6 f5 f0 e2 e0 f6 f1).next e3).next e1).next d6).next d3;have I:=I.ext<|d6.n1 d3;have O:=O.ext<|d6.n1 d3;have Z:=Z.ext<|d6.n1 d3;have l4:=m3.ext<|(((h9.n6 h2 f5 f0 e2 e0 f6).n1 f1).n1 e3).n3 e1 d6 d3;have j7:=m5.ext<|(((h9.n6 h2 f5 f0 e2 e0 f6).n1 f1).n1 e3).n3 e1 d6 d3;have h6:=m4.ext<|f6.n5 f1 e3 e1 d6 d3;have h7:=m6.ext<|f6.n5 f1 e3 e1 d6 d3;have u6:Fr [] w0 A1:=((((((((((((q1.z6 q2 q3 q4 l5 j9 j3).n1 h8).n1 h0).n6 f4 e9 h9 h2 f5 f0).next e2).next e0).next f6).next f1).next e3).next e1).next d6).next d3);have r5:=hG;have i3:=a4;have i2:=a3;have j8:=d1;have C5:=I;have C6:=O;have C7:=Z;have m3:=l4;have m5:=j7;have m4:=h6;have m6:=h7;have u0:=f8;have u1:=f9;have Q5:=u6.size;refine nn<|bl<|lpK (ι:=Nat) (ll7 1 2 3 4 5 6 7) (λi=>[(8,.int .i64 (i:Int))]) (λi w'=>Fr [] A1 w'/\i<=5) (λi=>5-i) 0 (csu U) ⟨l12 _ _,l17 _⟩ ?_;rintro i H5 ⟨a6,Q1⟩;have z44:=a6.size;refine kpC (ll8 1 2 3 4 5 6 7 8) (csu U)<|sq<|sr<|mv U U<|mv U U<|lnS U underlying90<|lt' U<|nn<|cd U (λc1=>?_)<|λc1=>?_;have i5:i<5:=by omega
 obtain⟨J5,U1,G1⟩:=k4s i i5;obtain⟨y2,T5⟩:=I7 i i5;have T6:(m1.getD i sqs).2.length=4:=by rw[y2];exact J5
 have T7:=x9 i i5;have T8:=D1 i i5;refine sk<|tn<|sq<|bl<|sr<|asg U<|nn<|sq<|sr<|asg U ?_;obtain⟨bK,R7⟩:∃b:Nat,b=H5.heap.size:=⟨_,rfl⟩;refine nn<|bl<|lpK (ι:=Nat×Value) (ll8 1 2 3 4 5 6 7 8) (λp_=>[(10,.int .i64 (p_.1:Int)),(9,p_.2)]) (λp_ w'=>Fr [] H5 w'/\p_.1<=4/\Lw.Own z3i 50 bK w' p_.2 ((exP.getD i []).take p_.1)) (λp_=>4-p_.1) (0,_) (csu U) ⟨l12 _ _,⟨l17 _,by rw[l93];exact Own.nil _⟩⟩ ?_;rintro⟨k,vP⟩ W5 ⟨b4,⟨F9,ho⟩⟩;simp only at F9 ho;have z45:=b4.size;refine kpC [(1,_),(2,_),(3,_),(4,_),(5,_),(6,_),(7,_),(8,_),(10,.int .i64 (k:Int)),(9,vP)] (csu U)<|sq<|sr<|mv U U<|mv U U<|mv U U ?_;have j7:=m5.ext<|a6.n1 b4;refine z0z (p:=i) (sqs) U j7 U k8c oo<|λP3 D2=>(z1b U (D2 _ j7) na89<|lnS U underlying89<|lt' U<|kpL (ll11 1 2 3 4 5 6 7 8 9 10 88) (csu U)<|nn<|cd U (λc2=>?_)<|λc2=>?_);have F8:k<4:=by omega
 refine sk<|tn<|sq<|bl<|rg<|mv U U<|mv U U<|mv U U<|z0z (p:=i) (sqs) U j7 U k8c oo<|λP4 D3=>(z1b U (D3 _ j7) na89<|mv U U ?_);have l4:=m3.ext<|a6.n1 b4;refine z0z (p:=k) ([]) U (l4.get (d:=sqs) oo) U y4c oo<|λP5 D4=>(z1b U (D4 _<|l4.get (d:=sqs) oo) na9 ?_);have hG:=r5.ext<|a6.n1 b4;refine cl (ev1 U) (mkC func31) (x9b _ ((exP.getD i []).getD k op0) 0 _ hG (by rw[y2];exact(G1 k F8).1) (by rw[y2];have:=(G1 k F8).2;omega)) U ?_;rintro _ W6 ⟨rfl,y7⟩;have z46:=y7.size;refine z1i ([(exP.getD i []).getD k op0]) (ev1 U) U y5d<|λP6 W7 J1 y0 G8 z47=>?_;have ho:=ho.ext<|y7.n1 G8;have r7:=ho;refine z2h U ho y0.sl y5d (λQ3 W8 ho G9 H8=>?_) (hM:=(by unfold maxLen;simp only[l27,l33,l57];omega)) (hb:=(by simp only[l27,l33,l57];omega));have z48:=G9.size;exact asg U<|kpL (ll10 1 2 3 4 5 6 7 8 9 10) (csu U)<|nl<|bn'<|tn<|rg<|mv U U<|z0w U (wi6 oo)<|asg U<|nl<|lpE ((k+1,_)) (csu U) ⟨((b4.n2 y7 G8).step G9<|λk hk T4=>absurd (r7.blk k hk).1 oo),⟨sm,by rw[z5f op0 oo];exact ho⟩⟩ sm;obtain rfl:k=4:=by omega
 rw[l86 oo]at ho;obtain⟨A9,c9,rfl,R8⟩:=ho.sl.form;refine ex<|te<|te<|xh<|tn<|sr ?_;have d1:=j8.ext<|a6.n1 b4;refine z0l U d1 z8f<|mv U U ?_;have a3:=i2.ext<|a6.n1 b4;have a4:=i3.ext<|a6.n1 b4;refine cl (ev2 U) u2g (z5k s p 50 _ (exP.getD i []) _ a3 hP oo ho.sl a4) U ?_;rintro _ W9 ⟨⟨Q6,ws,h5,Q8,rfl,hB⟩,q49⟩;obtain⟨qi,I6,J3,F6,F7⟩:=I9 i i5;obtain⟨rfl,rfl,f2⟩:=hB.ok _ _ I6;have a2:=hB.k.at;have f3:=hB.o.sl;obtain⟨⟨hf,hb⟩,h4,r4⟩:=z3o (show BdOk h5.q.p from f2.BE▸f2.v.inv.B);have F5:h5.fb.hs=(m2.getD i iq0).2:=by rw[D1 i i5,<-J3];exact f2.hsE
 have Q2:=f2.hl;have U0:=k3d i i5;have z49:=q49.size;have x2:=a2;have x3:=f3;refine mv U U<|xt U<|xt U<|xt U<|al y7t U<|λR0 X0 P8 b1 e4 z50=>?_;refine asg U<|z0j (vs:=[_,_,_,_,_,_,_,_]) U b1 z9z (λX1 b1 e5 z51=>?_) (h1:=t40);refine asg U ?_;have I5:=b1;refine kpL (ll11 1 2 3 4 5 6 7 8 11 12 13) (csu U)<|nn<|sq<|sq ?_;have h6:=m4.ext<|a6.z4 b4 q49 e4 e5;have h7:=m6.ext<|a6.z4 b4 q49 e4 e5;have f8:=u0.ext<|a6.z4 b4 q49 e4 e5;have f9:=u1.ext<|a6.z4 b4 q49 e4 e5;have a2:=x2.ext<|e4.z1 e5;have f3:=x3.ext<|e4.z1 e5;intro a h;refine z0h none (λwb w'=>Fr [] wb w') z2s ?_;intro H6 d7;have z52:=d7.size;have h6:=h6.ext d7;have h7:=h7.ext d7;have f8:=f8.ext d7;have f9:=f9.ext d7;have a2:=a2.ext d7;have f3:=f3.ext d7;have b1:=b1.ext d7;have hC:Fr [] H6 H6:=l12 _ _;have x0:=h6;have m7:=h7;have x1:=f8;have m8:=f9;have b5:=a2;have r6:=f3;have a7:=b1;refine z0e 0 h U λa h=>u0x 1 hC h wn U U U U λa h=>z0e 2 h U λa h=>?_;first|refine z8d (D:=111) h U (λhh=>absurd hh (by exact λh=>h U)) ?_|refine z7b (D:=111) h U (λhh=>absurd hh (by exact λh=>h U)) ?_
 clear h;intro g0 h;refine z0e 3 h U ?_ (hG:=(wy U));intro a h;refine z0e 4 h U ?_ (hG:=(wy U));intro a h;refine z0e 5 h U ?_ (hG:=(wy U));intro a h;refine z1e (p:=i) (sqi) 6 h U h7 U el91 U ?_ (hG:=(wy U));intro I2 x5 a h;refine z1z 7 h U (λ_ hw=>x5 _<|m7.ext hw) k3f U ?_ (hG:=(wy U));intro a h;refine z0d 8 U<|z4u h U U U U<|z0n h (z0a U<|z0a U z0f) (mkC func32) (v6a _ _ (exW.getD i []) (q0.getD i sqi).2 _ f3 (h6.get (d:=sqi) oo) oo) ?_;rintro _ X2 ⟨rfl,d4⟩ a h;have z53:=d4.size;have f8:=f8.ext d4;have f9:=f9.ext d4;have a2:=a2.ext d4;have hC:=hC.next d4;refine z0b<|y0z 9 hC h (wy U) U U λa h=>z0d 10 U<|z2v h U λa h=>?_;refine z0b<|z0e 11 h U λa h=>?_;first|refine z8d (D:=120) h U (λhh=>absurd hh (by exact λh=>h (x9 i i5).symm)) ?_|refine z7b (D:=120) h U (λhh=>absurd hh (by exact λh=>h (x9 i i5).symm)) ?_
 clear h;intro g1 h;refine z0c 12 h U z6t U ?_ (hG:=(wy U));intro a h;refine z5a 13 h U z9h U ?_ (hG:=(wy U));intro a h;refine z0m 14 h U (λ_ hw=>a7.ext hw) U z6q U ?_ (hG:=(wy U));intro a h;refine z0e 15 h U ?_ (hG:=(wy U));intro a h;refine z0e 16 h U ?_ (hG:=(wy U));intro a h;refine z1e (p:=i) (iq0) 17 h U f9 U y6c U ?_ (hG:=(wy U));intro I3 x6 a h;refine z1z 18 h U (λ_ hw=>x6 _<|m8.ext hw) z6q U ?_ (hG:=(wy U));intro a h;refine z0d 19 U<|z4u h U U U U<|z0n h (z0a U<|z0a U z0f) k0j (z9y _ _ h5.fb.hs (m2.getD i iq0).2 _ a2.f.h (QAt.get f8 (d:=iq0) oo) oo) ?_;rintro _ X3 ⟨rfl,d5⟩ a h;have z54:=d5.size;have h6:=h6.ext<|d4.n1 d5;have h7:=h7.ext<|d4.n1 d5;have f8:=f8.ext d5;have f9:=f9.ext d5;have a2:=a2.ext d5;have f3:=f3.ext<|d4.n1 d5;have b1:=b1.ext<|d4.n1 d5;have hC:=hC.next d5;refine z0b<|y0z 20 hC h (wy U) U U λa h=>z0d 21 U<|z2v h U λa h=>?_;refine z0b<|z0q ?_;clear hC x0 m7 x1 m8 b5 r6 a7;refine bk (h.sub (L':=ll10 1 2 3 4 5 6 7 8 12 130)<|csu U)<|tn<|cd U (λc3=>?_)<|λc3=>?_;exact absurd F5 c3;refine sk<|tn<|sq ?_;have I:=C5.ext<|(a6.z6 b4 q49 e4 e5 d7 d4).n1 d5;have O:=C6.ext<|(a6.z6 b4 q49 e4 e5 d7 d4).n1 d5;have Z:=C7.ext<|(a6.z6 b4 q49 e4 e5 d7 d4).n1 d5;intro a h;refine z0h none (λwb w'=>Fr [] wb w') z2s ?_;intro H7 h3;have z55:=h3.size;have I:=I.ext h3;have O:=O.ext h3;have Z:=Z.ext h3;have a2:=a2.ext h3;have b1:=b1.ext h3;have hC:Fr [] H7 H7:=l12 _ _;have d9:=I;have e7:=O;have e8:=Z;have b5:=a2;have a7:=b1;refine z0e 0 h U λa h=>x4i 1 hC h wn U λa h=>z0e 2 h U λa h=>gSp (D:=133) h U ?_ ?_;intro g2 h;refine z0c 3 h U z9s U ?_ (hG:=(wy U));intro a h;refine z1h (vs:=[_,_]) 4 h U (λ_ hw=>(a7.ext hw)) z5e U U ?_ (hG:=(wy U));intro a h;refine z3e (cs:=[_,_]) 5 h (z0a U z0f) y7r (z0g U z0r) U U ?_ (hG:=(wy U));intro a h;refine z0x 7 h U (λ_ hw=>d9.ext hw) z3b U ?_ (hG:=(wy U));intro a h;refine z0x 8 h U (λ_ hw=>e8.ext hw) z3b U ?_ (hG:=(wy U));intro a h;refine z1u 6 9 kr U ?_ ?_;refine z4u h U U U U<|z0n h (z0a U<|z0a U z0f) u1w (y7f h5.q 0 12 _ a2.b oo hf hb h4 r4) ?_;rintro H1 X4 ⟨b7,y8⟩ a h;have z56:=y8.size;have hC:=hC.next y8;rw[show h5.q.p.atC 0 12=[xa,xc] from by rw[f2.BE,y1d (show z4a 0 12=0 by decide)];exact F6 t64]at b7;obtain⟨A3,A5,rfl,x7⟩:=b7.sl.form;refine z0b<|z0d 9 U<|z4u h U U U U<|z2r ([(s.fb.hs.getD 0 id0),(s.fb.hs.getD 2 id0)]) h (z0a U<|z0a U z0f) U z4l λv8 X5 hg g9 s4 hz a h=>?_;have z57:=s4.size;have b7:=b7.ext s4;have hC:=hC.next s4;refine z0b<|z0d 10 U<|z4u h U U U U<|z0n h (z0a U<|z0a U z0f) k0j (z9y _ _ [xa,xc] [(s.fb.hs.getD 0 id0),(s.fb.hs.getD 2 id0)] _ b7.sl g9.sl dd) ?_;rintro _ X6 ⟨rfl,y9⟩ a h;have z58:=y9.size;have hC:=hC.next y9;refine z0b<|y0z 11 hC h (wy U) U U λa h=>z0d 12 U<|z4v h U λa h=>?_;refine z0b<|z0e 13 h U λa h=>?_;first|refine z8d (D:=144) h U (λhh=>absurd hh (by exact λh=>h (by rw[k4,m9]))) ?_|refine z7b (D:=144) h U (λhh=>absurd hh (by exact λh=>h (by rw[k4,m9]))) ?_
 clear h;intro g3 h;refine z0e 14 h U ?_ (hG:=(wy U));intro a h;refine x4i 15 hC h (wy U) U λa h=>z0e 16 h U ?_ (hG:=(wy U));intro a h;first|refine z8d (D:=147) h U (λhh=>absurd hh oo) ?_|refine z7b (D:=147) h U (λhh=>absurd hh oo) ?_
 clear h;intro g4 h;refine z1n 17 h U U λa h=>z1n 18 h U U λa h=>z1n 19 h U U λa h=>z1n 20 h U U λa h=>z1n 21 h U U λa h=>z1n 22 h U U λa h=>z1n 23 h U U λa h=>z1n 24 h U U λa h=>z1n 25 h U U λa h=>z0d 26 U<|tW h<|kY U<|pkf U ?_;intro a h;refine z0b<|z0d 27 U<|z2v h U λa h=>?_;refine z0b<|z0q ?_;clear hC d9 e7 e8 b5 a7;exact bk (h.sub (L':=ll9 1 2 3 4 5 6 7 8 158)<|csu U)<|tn<|cf U<|sk<|bn'<|tn<|rg<|mv U U<|z0w U (wi6 oo)<|asg U<|nl<|lpE ((i+1)) (csu U) ⟨((((a6.z6 b4 q49 e4 e5 d7 d4).n1 d5).n1 h3).n3 y8 s4 y9),oo⟩ oo;refine z4u h U U U U<|z2r ([(s.fb.hs.getD 0 id0),(s.fb.hs.getD 2 id0)]) h (z0a U<|z0a U z0f) U z4l λv8 X7 hg g9 s5 hz a h=>?_;have z59:=s5.size;have a2:=a2.ext s5;have hC:=hC.next s5;refine z0b<|z0d 6 U<|z4u h U U U U<|z0n h (z0a U<|z0a U z0f) u1w (y7f h5.q 0 12 _ a2.b oo hf hb h4 r4) ?_;rintro H1 X8 ⟨b7,s6⟩ a h;have z60:=s6.size;have g9:=g9.ext s6;have hC:=hC.next s6;rw[show h5.q.p.atC 0 12=[xa,xc] from by rw[f2.BE,y1d (show z4a 0 12=0 by decide)];exact F6 t64]at b7;obtain⟨A3,A5,rfl,x7⟩:=b7.sl.form;refine z0b<|z0d 10 U<|z4u h U U U U<|z0n h (z0a U<|z0a U z0f) k0j (z9y _ _ [xa,xc] [(s.fb.hs.getD 0 id0),(s.fb.hs.getD 2 id0)] _ b7.sl g9.sl dd) ?_;rintro _ X9 ⟨rfl,z0⟩ a h;have z61:=z0.size;have hC:=hC.next z0;refine z0b<|y0z 11 hC h (wy U) U U λa h=>z0d 12 U<|z4v h U λa h=>?_;refine z0b<|z0e 13 h U λa h=>?_;first|refine z8d (D:=144) h U (λhh=>absurd hh (by exact λh=>h (by rw[k4,m9]))) ?_|refine z7b (D:=144) h U (λhh=>absurd hh (by exact λh=>h (by rw[k4,m9]))) ?_
 clear h;intro g5 h;refine z0e 14 h U ?_ (hG:=(wy U));intro a h;refine x4i 15 hC h (wy U) U λa h=>z0e 16 h U ?_ (hG:=(wy U));intro a h;first|refine z8d (D:=147) h U (λhh=>absurd hh oo) ?_|refine z7b (D:=147) h U (λhh=>absurd hh oo) ?_
 clear h;intro g6 h;refine z1n 17 h U U λa h=>z1n 18 h U U λa h=>z1n 19 h U U λa h=>z1n 20 h U U λa h=>z1n 21 h U U λa h=>z1n 22 h U U λa h=>z1n 23 h U U λa h=>z1n 24 h U U λa h=>z1n 25 h U U λa h=>z0d 26 U<|tW h<|kY U<|pkf U ?_;intro a h;refine z0b<|z0d 27 U<|z2v h U λa h=>?_;refine z0b<|z0q ?_;clear hC d9 e7 e8 b5 a7;exact bk (h.sub (L':=ll9 1 2 3 4 5 6 7 8 158)<|csu U)<|tn<|cf U<|sk<|bn'<|tn<|rg<|mv U U<|z0w U (wi6 oo)<|asg U<|nl<|lpE ((i+1)) (csu U) ⟨((((a6.z6 b4 q49 e4 e5 d7 d4).n1 d5).n1 h3).n3 s5 s6 z0),oo⟩ oo;intro g2 h;refine z1n 3 h U U λa h=>z1n 4 h U U λa h=>z1n 5 h U U λa h=>z1n 6 h U U λa h=>z1n 7 h U U λa h=>z1n 8 h U U λa h=>z1n 9 h U U λa h=>z1n 10 h U U λa h=>z1n 11 h U U λa h=>z0d 12 U<|z2v h U λa h=>?_;refine z0b<|z0e 13 h U λa h=>z0e 14 h U ?_ (hG:=(wy U));intro a h;refine x4i 15 hC h (wy U) U λa h=>z0e 16 h U ?_ (hG:=(wy U));intro a h;refine gSp (D:=147) h U ?_ ?_;intro g7 h;refine z0c 17 h U z9s U ?_ (hG:=(wy U));intro a h;refine z1h (vs:=[_,_]) 18 h U (λ_ hw=>(a7.ext hw)) z5e U U ?_ (hG:=(wy U));intro a h;refine z3e (cs:=[_,_]) 19 h (z0a U z0f) y7r (z0g U z0r) U U ?_ (hG:=(wy U));intro a h;refine z0x 21 h U (λ_ hw=>e7.ext hw) z3b U ?_ (hG:=(wy U));intro a h;refine z0x 22 h U (λ_ hw=>d9.ext hw) z3b U ?_ (hG:=(wy U));intro a h;refine z1u 20 23 kr U ?_ ?_;refine z4u h U U U U<|z0n h (z0a U<|z0a U z0f) u1w (y7f h5.q 0 10 _ a2.b oo hf hb h4 r4) ?_;rintro H2 Y0 ⟨a5,k0⟩ a h;have z62:=k0.size;have hC:=hC.next k0;rw[show h5.q.p.atC 0 10=[xb,xa] from by rw[f2.BE,y1d (show z4a 0 10=0 by decide)];exact F7 t64]at a5;obtain⟨A4,A6,rfl,x8⟩:=a5.sl.form;refine z0b<|z0d 23 U<|z4u h U U U U<|z2r ([(s.fb.hs.getD 1 id0),(s.fb.hs.getD 0 id0)]) h (z0a U<|z0a U z0f) U z4l λv9 Y1 hg b8 j4 hz a h=>?_;have z63:=j4.size;have a5:=a5.ext j4;have hC:=hC.next j4;refine z0b<|z0d 24 U<|z4u h U U U U<|z0n h (z0a U<|z0a U z0f) k0j (z9y _ _ [xb,xa] [(s.fb.hs.getD 1 id0),(s.fb.hs.getD 0 id0)] _ a5.sl b8.sl dd) ?_;rintro _ Y2 ⟨rfl,i0⟩ a h;have z64:=i0.size;have I:=I.ext<|k0.n2 j4 i0;have O:=O.ext<|k0.n2 j4 i0;have Z:=Z.ext<|k0.n2 j4 i0;have a2:=a2.ext<|k0.n2 j4 i0;have b1:=b1.ext<|k0.n2 j4 i0;have a5:=a5.ext i0;have b8:=b8.ext i0;have hC:=hC.next i0;refine z0b<|y0z 25 hC h (wy U) U U λa h=>z0d 26 U<|tW h<|kY U<|pkt U ?_;intro a h;refine z0b<|z0d 27 U<|z2v h U λa h=>?_;refine z0b<|z0q ?_;clear hC d9 e7 e8 b5 a7;refine bk (h.sub (L':=ll9 1 2 3 4 5 6 7 8 158)<|csu U)<|tn<|cd U (λc4=>?_)<|λc4=>?_;exact absurd (by rw[x4,k4]) c4;exact sk<|bn'<|tn<|rg<|mv U U<|z0w U (wi6 oo)<|asg U<|nl<|lpE ((i+1)) (csu U) ⟨((((a6.z6 b4 q49 e4 e5 d7 d4).n1 d5).n1 h3).n3 k0 j4 i0),oo⟩ oo;refine z4u h U U U U<|z2r ([(s.fb.hs.getD 1 id0),(s.fb.hs.getD 0 id0)]) h (z0a U<|z0a U z0f) U z4l λv9 Y3 hg b8 k1 hz a h=>?_;have z65:=k1.size;have a2:=a2.ext k1;have hC:=hC.next k1;refine z0b<|z0d 20 U<|z4u h U U U U<|z0n h (z0a U<|z0a U z0f) u1w (y7f h5.q 0 10 _ a2.b oo hf hb h4 r4) ?_;rintro H2 Y4 ⟨a5,j5⟩ a h;have z66:=j5.size;have b8:=b8.ext j5;have hC:=hC.next j5;rw[show h5.q.p.atC 0 10=[xb,xa] from by rw[f2.BE,y1d (show z4a 0 10=0 by decide)];exact F7 t64]at a5;obtain⟨A4,A6,rfl,x8⟩:=a5.sl.form;refine z0b<|z0d 24 U<|z4u h U U U U<|z0n h (z0a U<|z0a U z0f) k0j (z9y _ _ [xb,xa] [(s.fb.hs.getD 1 id0),(s.fb.hs.getD 0 id0)] _ a5.sl b8.sl dd) ?_;rintro _ Y5 ⟨rfl,i1⟩ a h;have z67:=i1.size;have I:=I.ext<|k1.n2 j5 i1;have O:=O.ext<|k1.n2 j5 i1;have Z:=Z.ext<|k1.n2 j5 i1;have a2:=a2.ext<|j5.n1 i1;have b1:=b1.ext<|k1.n2 j5 i1;have b8:=b8.ext i1;have a5:=a5.ext i1;have hC:=hC.next i1;refine z0b<|y0z 25 hC h (wy U) U U λa h=>z0d 26 U<|tW h<|kY U<|pkt U ?_;intro a h;refine z0b<|z0d 27 U<|z2v h U λa h=>?_;refine z0b<|z0q ?_;clear hC d9 e7 e8 b5 a7;refine bk (h.sub (L':=ll9 1 2 3 4 5 6 7 8 158)<|csu U)<|tn<|cd U (λc4=>?_)<|λc4=>?_;exact absurd (by rw[x4,k4]) c4;exact sk<|bn'<|tn<|rg<|mv U U<|z0w U (wi6 oo)<|asg U<|nl<|lpE ((i+1)) (csu U) ⟨((((a6.z6 b4 q49 e4 e5 d7 d4).n1 d5).n1 h3).n3 k1 j5 i1),oo⟩ oo;intro g7 h;refine z1n 17 h U U λa h=>z1n 18 h U U λa h=>z1n 19 h U U λa h=>z1n 20 h U U λa h=>z1n 21 h U U λa h=>z1n 22 h U U λa h=>z1n 23 h U U λa h=>z1n 24 h U U λa h=>z1n 25 h U U λa h=>z0d 26 U<|tW h<|kY U<|pkf U ?_;intro a h;refine z0b<|z0d 27 U<|z2v h U λa h=>?_;refine z0b<|z0q ?_;clear hC d9 e7 e8 b5 a7;exact bk (h.sub (L':=ll9 1 2 3 4 5 6 7 8 158)<|csu U)<|tn<|cf U<|sk<|bn'<|tn<|rg<|mv U U<|z0w U (wi6 oo)<|asg U<|nl<|lpE ((i+1)) (csu U) ⟨(((a6.z6 b4 q49 e4 e5 d7 d4).n1 d5).n1 h3),oo⟩ oo;refine ex<|te<|te<|xh<|tn<|sr ?_;have d1:=j8.ext a6;refine z0l U d1 z8f<|z1t (cs:=[_,_,_,_,_,_]) (ev2 U) u2s (z0g U<|z0g U z0r) U ?_;refine z1i ([rkP 5]) (ev1 U) U y5d<|λP7 Y6 J2 y1 k7 z68=>?_;have a3:=i2.ext<|a6.n1 k7;have a4:=i3.ext<|a6.n1 k7;refine cl (ev2 U) u2g (z5k s p 50 _ [rkP 5] _ a3 hP t44 y1.sl a4) U ?_;rintro _ Y7 ⟨⟨Q7,Q4,U2,Q9,rfl,C3⟩,q69⟩;have z69:=q69.size;obtain⟨rfl,rfl,rfl⟩:=C3.er _<|y2m I8 dd;refine mv U U<|xt U<|xt U<|xt U<|al y7t U<|λR1 Y8 P9 u2 p6 z70=>?_;refine asg U<|z0j (vs:=[_,_,_,_,_,_,_,_]) U u2 z9z (λK8 u2 p7 z71=>?_) (h1:=t40);refine asg U<|kpL (ll2 1 16) (csu U)<|nn<|jn (ι:=Unit) (ll1 16) (λ_j=>[(19,.int .i64 13)]) (λ_j w'=>Fr [] K8 w'/\True) (csu U) ?_ ?_;have hG:=r5.ext<|a6.z4 k7 q69 p6 p7;have a4:=i3.ext<|a6.z4 k7 q69 p6 p7;have a3:=i2.ext<|a6.z4 k7 q69 p6 p7;have d1:=j8.ext<|a6.z4 k7 q69 p6 p7;intro a h;refine z0h none (λwb w'=>Fr [] wb w') z2s ?_;intro A2 j6;have z72:=j6.size;have hG:=hG.ext j6;have a4:=a4.ext j6;have a3:=a3.ext j6;have d1:=d1.ext j6;have hC:Fr [] A2 A2:=l12 _ _;have k9:=hG;have i4:=a4;have b6:=a3;have b2:=d1;refine z0x 0 h U (λ_ hw=>b2.ext hw) z8f U λa h=>z1u 1 8 kr U ?_ ?_;refine z0n h (z0a U z0f) (mkC func31) (x9b _ (xfP 0 13) 0 _ hG j1z dd) ?_;rintro _ K9 ⟨rfl,k2⟩ a h;have z73:=k2.size;have hG:=hG.ext k2;have a4:=a4.ext k2;have a3:=a3.ext k2;have hC:=hC.next k2;refine z0b<|z1u 2 8 kr U ?_ ?_;refine z2r ([xfP 0 13]) h (z0a U z0f) U y5d λb9 L0 hg a0 k8 hz a h=>?_;have z74:=k8.size;have hG:=hG.ext k8;have a4:=a4.ext k8;have a3:=a3.ext k8;have hC:=hC.next k8;refine z0b<|z1u 3 8 kr U ?_ ?_;refine z0n h (z0a U<|z0a U z0f) u2g (z5k s p 50 _ [xfP 0 13] _ a3 hP t44 a0.sl a4) ?_;rintro _ L1 ⟨⟨u7,p9,A0,u9,rfl,f7⟩,q75⟩ a h;have z75:=q75.size;have a0:=a0.ext q75;have hC:=hC.next q75;obtain⟨rfl,rfl,rfl⟩:=f7.er _<|y2m l3 dd;refine z0b<|z0e 4 h U λa h=>z0k 5 h U λa h=>z0k 6 h U λa h=>z0k 7 h U λa h=>z0d 8 U<|z0u h y7t U λY9 a1 s7 hz a h=>?_;obtain⟨d0,hg⟩:∃g,g=L1.heap.size:=⟨_,rfl⟩;rw[<-hg]at a1 h hz;have k5:b9<d0:=by have:=(a0.blk b9 t10).2;omega
 have z76:=s7.size;have a0:=a0.ext s7;have hC:=hC.next s7;refine z0b<|z0d 9 U<|z0o h U λa h=>?_;refine z0b<|z0d 10 U<|z0t h U a1 U z9z ?_ (h1:=t40);intro L2 b3 s8 hz a h;have z77:=s8.size;have a0:=a0.fr s8 t28;have hC:=hC.sp s8;have a1:Blk L2 d0 _ [_,_,_,_,_,_,_,_]:=b3;clear b3;refine z0b<|z0d 11 U<|z0o h U λa h=>?_;refine z0b<|z0q ?_;clear hC k9 i4 b6 b2;exact bk (h.sub (L':=ll2 16 19)<|csu U)<|jE (()) (csu U) ⟨(j6.z5 k2 k8 q75 s7 s8),trivial⟩;refine z0u h y7t U λZ0 a1 l6 hz a h=>?_;obtain⟨d0,hg⟩:∃g,g=L0.heap.size:=⟨_,rfl⟩;rw[<-hg]at a1 h hz;have k5:b9<d0:=by have:=(a0.blk b9 t10).2;omega
 have z78:=l6.size;have a4:=a4.ext l6;have a3:=a3.ext l6;have a0:=a0.ext l6;have hC:=hC.next l6;refine z0b<|z0d 3 U<|z0n h (z0a U<|z0a U z0f) u2g (z5k s p 50 _ [xfP 0 13] _ a3 hP t44 a0.sl a4) ?_;rintro _ Z1 ⟨⟨u7,p9,A0,u9,rfl,f7⟩,q79⟩ a h;have z79:=q79.size;have a0:=a0.ext q79;have a1:=a1.ext q79;have hC:=hC.next q79;obtain⟨rfl,rfl,rfl⟩:=f7.er _<|y2m l3 dd;refine z0b<|z0e 4 h U λa h=>z0k 5 h U λa h=>z0k 6 h U λa h=>z0k 7 h U λa h=>z0d 9 U<|z0o h U λa h=>?_;refine z0b<|z0d 10 U<|z0t h U a1 U z9z ?_ (h1:=t40);intro L3 b3 s9 hz a h;have z80:=s9.size;have a0:=a0.fr s9 t28;have hC:=hC.sp s9;have a1:Blk L3 d0 _ [_,_,_,_,_,_,_,_]:=b3;clear b3;refine z0b<|z0d 11 U<|z0o h U λa h=>?_;refine z0b<|z0q ?_;clear hC k9 i4 b6 b2;exact bk (h.sub (L':=ll2 16 19)<|csu U)<|jE (()) (csu U) ⟨(j6.z5 k2 k8 l6 q79 s9),trivial⟩;refine z0u h y7t U λZ2 a1 p8 hz a h=>?_;obtain⟨d0,hg⟩:∃g,g=K9.heap.size:=⟨_,rfl⟩;rw[<-hg]at a1 h hz;have z81:=p8.size;have hC:=hC.next p8;refine z0b<|z0d 2 U<|z2r ([xfP 0 13]) h (z0a U z0f) U y5d λb9 Z3 hg a0 l7 hz a h=>?_;have k6:d0<b9:=by have:=a1.lt;omega
 have z82:=l7.size;have a4:=a4.ext<|p8.n1 l7;have a3:=a3.ext<|p8.n1 l7;have hC:=hC.next l7;refine z0b<|z0d 3 U<|z0n h (z0a U<|z0a U z0f) u2g (z5k s p 50 _ [xfP 0 13] _ a3 hP t44 a0.sl a4) ?_;rintro _ Z4 ⟨⟨u7,p9,A0,u9,rfl,f7⟩,q83⟩ a h;have z83:=q83.size;have a1:=a1.ext<|l7.n1 q83;have a0:=a0.ext q83;have hC:=hC.next q83;obtain⟨rfl,rfl,rfl⟩:=f7.er _<|y2m l3 dd;refine z0b<|z0e 4 h U λa h=>z0k 5 h U λa h=>z0k 6 h U λa h=>z0k 7 h U λa h=>z0d 9 U<|z0o h U λa h=>?_;refine z0b<|z0d 10 U<|z0t h U a1 U z9z ?_ (h1:=t40);intro L4 b3 t8 hz a h;have z84:=t8.size;have a0:=a0.fr t8 t28;have hC:=hC.sp t8;have a1:Blk L4 d0 _ [_,_,_,_,_,_,_,_]:=b3;clear b3;refine z0b<|z0d 11 U<|z0o h U λa h=>?_;refine z0b<|z0q ?_;clear hC k9 i4 b6 b2;exact bk (h.sub (L':=ll2 16 19)<|csu U)<|jE (()) (csu U) ⟨(j6.z5 k2 p8 l7 q83 t8),trivial⟩;refine z0u h y7t U λZ5 a1 l8 hz a h=>?_;obtain⟨d0,hg⟩:∃g,g=A2.heap.size:=⟨_,rfl⟩;rw[<-hg]at a1 h hz;have z85:=l8.size;have hG:=hG.ext l8;have hC:=hC.next l8;refine z0b<|z0d 1 U<|z0n h (z0a U z0f) (mkC func31) (x9b _ (xfP 0 13) 0 _ hG j1z dd) ?_;rintro _ Z6 ⟨rfl,l9⟩ a h;have z86:=l9.size;have a1:=a1.ext l9;have hC:=hC.next l9;refine z0b<|z0d 2 U<|z2r ([xfP 0 13]) h (z0a U z0f) U y5d λb9 Z7 hg a0 m0 hz a h=>?_;have k6:d0<b9:=by have:=a1.lt;omega
 have z87:=m0.size;have a4:=a4.ext<|l8.n2 l9 m0;have a3:=a3.ext<|l8.n2 l9 m0;have hC:=hC.next m0;refine z0b<|z0d 3 U<|z0n h (z0a U<|z0a U z0f) u2g (z5k s p 50 _ [xfP 0 13] _ a3 hP t44 a0.sl a4) ?_;rintro _ Z8 ⟨⟨u7,p9,A0,u9,rfl,f7⟩,q88⟩ a h;have z88:=q88.size;have a1:=a1.ext<|m0.n1 q88;have a0:=a0.ext q88;have hC:=hC.next q88;obtain⟨rfl,rfl,rfl⟩:=f7.er _<|y2m l3 dd;refine z0b<|z0e 4 h U λa h=>z0k 5 h U λa h=>z0k 6 h U λa h=>z0k 7 h U λa h=>z0d 9 U<|z0o h U λa h=>?_;refine z0b<|z0d 10 U<|z0t h U a1 U z9z ?_ (h1:=t40);intro L5 b3 t9 hz a h;have z89:=t9.size;have a0:=a0.fr t9 t28;have hC:=hC.sp t9;have a1:Blk L5 d0 _ [_,_,_,_,_,_,_,_]:=b3;clear b3;refine z0b<|z0d 11 U<|z0o h U λa h=>?_;refine z0b<|z0q ?_;clear hC k9 i4 b6 b2;exact bk (h.sub (L':=ll2 16 19)<|csu U)<|jE (()) (csu U) ⟨(j6.z5 l8 l9 m0 q88 t9),trivial⟩;rintro _u Z9 ⟨H0,_⟩;have z90:=H0.size;refine kpC (ll2 16 19) (csu U)<|sq<|rbo (r:=0) (L':=[]) (((1=1)/\(13=13))) .nil ?_ ?_;refine mv U U<|eq' U<|mv U U<|gs 177 U (λg8=>?_)<|λg8=>?_;exact gY U<|mv U U<|gY U<|eq' U<|pkt U<|asg U<|rbe U .nil;exact gN U<|gN U<|pkf U<|asg U<|rbe U .nil;refine tn<|rt<|r1 results13 U ?_;exact⟨_,rfl,by first|rfl|exact congrArg Value.bool<|decide_eq_true sp0,(u6.z6 a6 k7 q69 p6 p7 H0)⟩
end Go.Proofs.YtkafbfjmcigaiaaGreatDoor
namespace Go.G26
open Go.Lw Go.G21 Go.G08
abbrev Asc (l:List Hd):Prop:=l.Pairwise λx y=>x.s<=y.s
theorem v0e {h x:Hd}:∀ {l:List Hd},x∈z9f h l↔x=h\/x∈l
 | []=>by simp[z9f]
 | y::l=>by
  unfold z9f
  split
  ·simp
  simp only[l56,v0e]
  constructor
  ·rintro(e|e|e)
   ·exact .inr<|.inl e
   ·exact .inl e
   exact .inr<|.inr e
  rintro(e|e|e)
  ·exact .inr<|.inl e
  ·exact .inl e
  exact .inr<|.inr e
theorem x9l {h:Hd}:∀ {l:List Hd},Asc l->Asc (z9f h l)
 | [],_=>by simp[z9f,Asc]
 | y::l,a=>by
  unfold z9f
  have I:=l78.1 a
  split
  ·rename_i c
   refine l78.2 ⟨λz D=>?_,a⟩
   rcases l56.1 D with rfl|D
   ·omega
   have:=I.1 z D;omega
  rename_i c
  refine l78.2 ⟨λz D=>?_,x9l I.2⟩
  rcases v0e.1 D with rfl|D
  ·omega
  exact I.1 z D
theorem x9r {h:Hd}{v:Int}:∀ {l:List Hd},Asc l->(z9f h l).filter (λx=>decide (x.s=v))=l.filter (λx=>decide (x.s=v))++(if h.s=v then [h] else [])
 | [],_=>by simp only[z9f,l59,List.filter_nil,l45,decide_eq_true_eq]
 | y::l,a=>by
  have I:=l78.1 a
  unfold z9f
  split
  ·rename_i c
   by_cases e:h.s=v
   ·have n:(y::l).filter (λx=>decide (x.s=v))=[]:=List.filter_eq_nil_iff.2 λz D=>by
     have:h.s<z.s:=by
      rcases l56.1 D with rfl|D
      ·exact c
      have:=I.1 z D;omega
     simp only[decide_eq_true_eq];omega
    rw[l59,n,if_pos (by simpa using e),if_pos e,l45]
   rw[l59 (x:=h),if_neg (by simpa using e),if_neg e,l26]
  rw[l59,l59,x9r I.2]
  split<;>simp
theorem x0t {v:Int}:∀ {l a:List Hd},Asc a->Asc (l.foldl (λa h=>z9f h a) a)/\(l.foldl (λa h=>z9f h a) a).filter (λx=>decide (x.s=v))=a.filter (λx=>decide (x.s=v))++l.filter (λx=>decide (x.s=v))
 | [],a,h=>⟨h,sp0⟩
 | x::l,a,h=>by
  obtain⟨D,I⟩:=x0t (v:=v) (l:=l)<|x9l (h:=x) h
  refine⟨D,?_⟩
  rw[l136,I,x9r h,l59,l14]
  congr 1
  by_cases e:x.s=v
  ·rw[if_pos e,if_pos (by simpa using e)];rfl
  rw[if_neg e,if_neg (by simpa using e)];rfl
theorem u5x (B:Bd)(r:Int):Asc (z2k B r):=(x0t (v:=0) (l:=x9e B r) (a:=[]) List.Pairwise.nil).1
theorem v2o (B:Bd)(r v:Int):(z2k B r).filter (λx=>decide (x.s=v))=(x9e B r).filter (λx=>decide (x.s=v)):=by
 have:=(x0t (v:=v) (l:=x9e B r) (a:=[]) List.Pairwise.nil).2;unfold z2k z5x;simpa using this
theorem u2c:∀ {l:List Hd} {a:Int},Asc l->(∀x∈l,a<=x.s)->l=l.filter (λx=>decide (x.s=a))++l.filter (λx=>decide (x.s≠a))
 | [],_,_,_=>by simp
 | x::l,a,h,hb=>by
  have I:=l78.1 h
  have D:=u2c I.2 λy O=>hb y<|l41 _ O
  by_cases e:x.s=a
  ·rw[l59,if_pos (by simpa using e),l59 (p:=λx:Hd=>decide (x.s≠a)),if_neg (by simpa using e),l48,<-D]
  have n:l.filter (λx=>decide (x.s=a))=[]:=List.filter_eq_nil_iff.2 λz Z=>by
   have h2:=I.1 z Z
   have h3:=hb x l39
   simp only[decide_eq_true_eq];omega
  rw[n,l45]at D
  rw[l59,if_neg (by simpa using e),n,l45,l59,if_pos (by simpa using e),<-D]
theorem v2m:∀ {n:Nat} {l:List Hd} {a:Int},Asc l->(∀x∈l,a<=x.s/\x.s<a+n)->l=(List.range n).flatMap λ(i:Nat)=>l.filter (λx=>decide (x.s=a+(i:Int)))
 | 0,l,a,_,hb=>by
  cases l with
  | nil=>rfl
  | cons x l=>have:=hb x l39;omega
 | n+1,l,a,h,hb=>by
  have I:=u2c h λx D=>(hb x D).1
  have ih:=v2m (n:=n) (l:=l.filter (λx=>decide (x.s≠a))) (a:=a+1) (h.filter _) λx D=>by
   obtain⟨O,Z⟩:=l103.1 D
   have:=hb x O
   have:x.s≠a:=by simpa using Z
   omega
  rw[List.range_succ_eq_map,l36,l106]
  show l=l.filter (λx=>decide (x.s=a+((0:Nat):Int)))++_
  rw[show a+((0:Nat):Int)=a by omega]
  refine I.trans ?_
  congr 1
  refine ih.trans ?_
  congr 1
  funext i
  rw[List.filter_filter]
  congr 1
  funext x
  rw[show a+((i+1:Nat):Int)=a+1+(i:Int) by omega]
  by_cases e:x.s=a+1+(i:Int)
  ·have:x.s≠a:=by omega
   simp[e];omega
  simp[e]
theorem flat_one {α:Type}{X:List α}:∀ {n k:Nat},((List.range n).flatMap λi=>if i=k then X else [])=if k<n then X else []
 | 0,k=>by simp
 | n+1,k=>by
  rw[l70,l42,flat_one (n:=n) (k:=k)]
  simp only[l36,l118,l26]
  by_cases e:n=k
  ·subst e;simp
  rw[if_neg e,l26]
  by_cases h:k<n
  ·rw[if_pos h,if_pos oo]
  rw[if_neg h,if_neg oo]
theorem j4i (b r v:Int)(l:Bed)(i:Nat):(hds b r l i).filter (λx=>decide (x.s=v))=(List.range i).flatMap λ(k:Nat)=>if z2c b ((k:Int)+1) r=v then (l.getD k []).map (hdS b r k) else []:=by
 unfold hds;rw[List.filter_flatMap];congr 1;funext k;by_cases e:z2c b ((k:Int)+1) r=v;rw[if_pos e];refine List.filter_eq_self.2 λx D=>?_;obtain⟨y,_,rfl⟩:=l55.1 D;exact decide_eq_true e;rw[if_neg e];refine List.filter_eq_nil_iff.2 λx D=>?_;obtain⟨y,_,rfl⟩:=l55.1 D;exact λh=>e<|of_decide_eq_true h
theorem z5v {α β:Type}{f g:α->List β}:∀ {l:List α},(∀x∈l,f x=g x)->l.flatMap f=l.flatMap g
 | [],_=>rfl
 | x::l,h=>by rw[l36,l36,h x l39,z5v λy D=>h y<|l41 _ D]
theorem y9y (b r v:Int)(l:Bed)(i:Nat):((hds b r l i).filter (λx=>decide (x.s=v))).map Hd.id=(List.range i).flatMap λ(k:Nat)=>if z2c b ((k:Int)+1) r=v then l.getD k [] else []:=by
 rw[j4i,List.map_flatMap];congr 1;funext k;split;rw[l81];exact(l107 λx _=>rfl).trans<|List.map_id _;rfl
def stk (l:Bed)(n:Int):List LId:=if 1<=n/\n<=40 then l.getD (n-1).toNat [] else []
theorem x4j {n r:Int}(hn:1<=n/\n<=40)(D:-4<=r/\r<=4):z2c 0 n r=4*n+2:=by
 unfold z2c;rw[if_neg,if_pos U];intro h;rcases h with h|h
 exact h<|y6t ⟨.inl U,hn.1,hn.2⟩;exact h D
theorem x5t {n r:Int}(hn:1<=n/\n<=40)(D:-4<=r/\r<=4):z2c 1 n r=4*(n+r):=by
 unfold z2c;rw[if_neg,if_neg dd];intro h;rcases h with h|h
 exact h<|y6t ⟨.inr U,hn.1,hn.2⟩;exact h D
theorem y0c {b r v n:Int}{l:Bed}(hl:l.length<=40)(hs:∀m:Int,1<=m->m<=40->(z2c b m r=v↔m=n)):((hds b r l l.length).filter (λx=>decide (x.s=v))).map Hd.id=stk l n:=by
 rw[y9y];unfold stk;by_cases hn:1<=n/\n<=40;rw[if_pos hn,z5v (g:=λ(k:Nat)=>if k=(n-1).toNat then l.getD (n-1).toNat [] else []) (λk I=>by
  have O:=l94.1 I;have h:=hs ((k:Int)+1) oo oo;by_cases e:z2c b ((k:Int)+1) r=v;have D:k=(n-1).toNat:=by have:=h.1 e;omega
  rw[if_pos e,if_pos D,<-D];rw[if_neg e,if_neg (λD=>e<|h.2 oo)]),flat_one]
 split;rfl;rw[List.getD,l34 oo];rfl;rw[if_neg hn];refine List.flatMap_eq_nil_iff.2 λk I=>?_;have O:=l94.1 I;rw[if_neg];intro h;have:=(hs ((k:Int)+1) oo oo).1 h;omega
theorem z5u {l:Bed}{n:Int}(h:¬(1<=n/\n<=40):=by omega):stk l n=[]:=if_neg h
theorem x6h {α:Type}{f:Nat->List α}:∀n:Nat,(List.range<|4*n).flatMap f=(List.range n).flatMap λj=>f (4*j)++f (4*j+1)++f (4*j+2)++f (4*j+3)
 | 0=>rfl
 | n+1=>by
  rw[show 4*(n+1)=4*n+1+1+1+1 by omega,l70,l70,l70,l70,l70 (n:=n)]
  simp only[l42,x6h n,l36,l118,l26,l14]
theorem y5i {B:Bd}{r:Int}(hf:B.f.length<=40)(hb:B.b.length<=40)(O:-4<=r/\r<=4):(z2k B r).map Hd.id=(List.range 50).flatMap λ(j:Nat)=>stk B.b ((j:Int)-3-r)++stk B.f ((j:Int)-3):=by
 have a0:∀x∈z2k B r,-12<=x.s/\x.s < -12+((4*50:Nat):Int):=λx hx=>by
  have D:x∈(z2k B r).filter (λy=>decide (y.s=x.s)):=l103.2 ⟨hx,sp0⟩;rw[v2o]at D;have I:=(l103.1 D).1;unfold x9e hds at I;rcases l22.1 I with h|h
  obtain⟨k,hk,Z⟩:=l74.1 h;obtain⟨y,_,rfl⟩:=l55.1 Z;have a1:=l94.1 hk;show -12<=z2c 0 ((k:Int)+1) r/\z2c 0 ((k:Int)+1) r<_;rw[x4j oo O];omega;obtain⟨k,hk,Z⟩:=l74.1 h;obtain⟨y,_,rfl⟩:=l55.1 Z;have a1:=l94.1 hk;show -12<=z2c 1 ((k:Int)+1) r/\z2c 1 ((k:Int)+1) r<_;rw[x5t oo O];omega
 have e:=v2m (u5x B r) a0;rw[e,List.map_flatMap,x6h];refine z5v λj _=>?_;have a2:∀v:Int,((z2k B r).filter (λx=>decide (x.s=v))).map Hd.id=((hds 0 r B.f B.f.length).filter (λx=>decide (x.s=v))).map Hd.id++((hds 1 r B.b B.b.length).filter (λx=>decide (x.s=v))).map Hd.id:=λv=>by
  rw[v2o];unfold x9e;rw[List.filter_append,l30]
 simp only[a2];rw[y0c (n:=0) hf (λm D I=>by rw[x4j ⟨D,I⟩ O];omega),y0c (n:=(j:Int)-3-r) hb (λm D I=>by rw[x5t ⟨D,I⟩ O];omega),
  y0c (n:=0) hf (λm D I=>by rw[x4j ⟨D,I⟩ O];omega),y0c (n:=0) hb (λm D I=>by rw[x5t ⟨D,I⟩ O];omega),
  y0c (n:=(j:Int)-3) hf (λm D I=>by rw[x4j ⟨D,I⟩ O];omega),y0c (n:=0) hb (λm D I=>by rw[x5t ⟨D,I⟩ O];omega),
  y0c (n:=0) hf (λm D I=>by rw[x4j ⟨D,I⟩ O];omega),y0c (n:=0) hb (λm D I=>by rw[x5t ⟨D,I⟩ O];omega)]
 simp only[z5u (h:=(show ¬(1<=(0:Int)/\(0:Int)<=40) by omega)),l26,l45]
def Adj:List LId->List Cx->List LId->Prop
  | o,[],o'=>o=o'
  | o,c::cs,o'=>∃P S,o=P++c.a::c.b::S/\Adj (P++c.b::c.a::S) cs o'
theorem Adj.app:∀ {cs ds:List Cx} {o o1 D:List LId},Adj o cs o1->Adj o1 ds D->Adj o (cs++ds) D
 | [],_,_,_,_,h1,h2=>by cases h1;exact h2
 | _::_,_,_,_,_,⟨P,S,e,h1⟩,h2=>⟨P,S,e,h1.app h2⟩
theorem k2j {n:Int}{x:LId}:∀ {t P S:List LId},Adj (P++x::(t++S)) (t.map λo=>⟨x,o,n⟩) (P++(t++x::S))
 | [],_,_=>rfl
 | o::t,P,S=>⟨P,t++S,rfl,by
  have:=k2j (n:=n) (x:=x) (t:=t) (P:=P++[o]) (S:=S)
  simpa using this⟩
theorem x3s {n:Int}{t:List LId}:∀ {xs P S:List LId},Adj (P++(xs++(t++S))) ((xs.flatMap λx=>t.reverse.map λo=>(⟨x,o,n⟩:Cx)).reverse) (P++(t++(xs++S)))
 | [],_,_=>rfl
 | x::xs,P,S=>by
  have D:=x3s (n:=n) (t:=t) (xs:=xs) (P:=P++[x]) (S:=S)
  have I:=k2j (n:=n) (x:=x) (t:=t) (P:=P) (S:=xs++S)
  rw[l36,List.reverse_append]
  have e:(t.reverse.map λo=>(⟨x,o,n⟩:Cx)).reverse=t.map λo=>⟨x,o,n⟩:=by rw[<-List.map_reverse,List.reverse_reverse]
  rw[e]
  refine Adj.app (o1:=P++x::(t++(xs++S))) ?_ (by simpa using I)
  simpa using D
theorem j9x {n:Int}{x:LId}:∀ {t P S:List LId},Adj (P++(t++x::S)) (t.reverse.map λo=>⟨o,x,n⟩) (P++x::(t++S))
 | [],_,_=>rfl
 | o::t,P,S=>by
  have D:=j9x (n:=n) (x:=x) (t:=t) (P:=P++[o]) (S:=S)
  rw[List.reverse_cons,l30]
  refine Adj.app (o1:=P++o::x::(t++S)) (by simpa using D) ⟨P,t++S,rfl,?_⟩
  exact U
theorem x4o {n:Int}{t:List LId}:∀ {xs P S:List LId},Adj (P++(t++(xs++S))) (xs.flatMap λx=>t.reverse.map λo=>(⟨o,x,n⟩:Cx)) (P++(xs++(t++S)))
 | [],_,_=>rfl
 | x::xs,P,S=>by
  have D:=j9x (n:=n) (x:=x) (t:=t) (P:=P) (S:=xs++S)
  have I:=x4o (n:=n) (t:=t) (xs:=xs) (P:=P++[x]) (S:=S)
  rw[l36]
  refine Adj.app (o1:=P++x::(t++(xs++S))) (by simpa using D) ?_
  simpa using I
abbrev Bk:=List LId×List LId
theorem k0b {n:Int}:∀ {bs:List Bk} {P:List LId},Adj (P++bs.flatMap λb=>b.1++b.2) ((bs.flatMap λb=>b.1.flatMap λx=>b.2.reverse.map λo=>(⟨x,o,n⟩:Cx)).reverse) (P++bs.flatMap λb=>b.2++b.1)
 | [],_=>rfl
 | b::bs,P=>by
  have D:=k0b (n:=n) (bs:=bs) (P:=P++b.1++b.2)
  have I:=x3s (n:=n) (t:=b.2) (xs:=b.1) (P:=P) (S:=bs.flatMap λb=>b.2++b.1)
  rw[l36,l36,l36,List.reverse_append]
  refine Adj.app (o1:=P++(b.1++(b.2++bs.flatMap λb=>b.2++b.1))) ?_ (by simpa using I)
  simpa using D
theorem k2s {n:Int}:∀ {bs:List Bk} {P:List LId},Adj (P++bs.flatMap λb=>b.2++b.1) (bs.flatMap λb=>b.1.flatMap λx=>b.2.reverse.map λo=>(⟨o,x,n⟩:Cx)) (P++bs.flatMap λb=>b.1++b.2)
 | [],_=>rfl
 | b::bs,P=>by
  have D:=x4o (n:=n) (t:=b.2) (xs:=b.1) (P:=P) (S:=bs.flatMap λb=>b.2++b.1)
  have I:=k2s (n:=n) (bs:=bs) (P:=P++b.1++b.2)
  rw[l36,l36,l36]
  refine Adj.app (o1:=P++(b.1++(b.2++bs.flatMap λb=>b.2++b.1))) (by simpa using D) ?_
  simpa using I
theorem y6y {α:Type}{F:Nat->List α}{n c m:Nat}(hm:n+c<=m)(h1:∀j,j<c->F j=[])(O:∀j,n+c<=j->j<m->F j=[]):(List.range m).flatMap F=(List.range n).flatMap λk=>F (k+c):=by
 obtain⟨e,rfl⟩:∃e,m=n+c+e:=⟨m-(n+c),oo⟩;have D:∀ {k:Nat},k<=e->(List.range<|n+c+k).flatMap F=(List.range<|n+c).flatMap F:=by
  intro k;induction k with
  | zero=>intro _;rfl
  | succ k ih=>
   intro hk;rw[show n+c+(k+1)=(n+c+k)+1 by omega,l70,l42,ih oo];simp only[l36,l118,O (n+c+k) oo oo,l26]
 have I:∀ {k:Nat},(List.range<|k+c).flatMap F=(List.range k).flatMap λk=>F (k+c):=by
  intro k;induction k with
  | zero=>
   rw[l72];exact List.flatMap_eq_nil_iff.2 λj Z=>h1 j<|l94.1 Z
  | succ k ih=>
   rw[show k+1+c=(k+c)+1 by omega,l70,l70,l42,l42,ih];rfl
 rw[D (l20 _),I]
theorem v2x {l:Bed}{k:Nat}(D:k<40):stk l ((k:Int)+1)=l.getD k []:=by
 unfold stk;rw[if_pos oo,show ((k:Int)+1-1).toNat=k by omega]
theorem v5o (B:Bd)(n:Int):B.atC 0 n=stk B.f n:=by
 unfold Bd.atC stk;by_cases h:1<=n/\n<=40;rw[if_pos (y6t ⟨.inl U,h.1,h.2⟩),if_pos h];rfl;rw[if_neg h,if_neg (λe=>h ⟨(z2w e).2.1,(z2w e).2.2⟩)]
theorem u5z {B:Bd}{r d:Int}(hf:B.f.length<=40)(hb:B.b.length<=40)(hr:-4<=r/\r<=4)(hd:d=0\/d=1)(I:-4<=r+stI d/\r+stI d<=4):Adj ((z2k B r).map Hd.id) (z2n B r d) ((z2k B<|r+stI d).map Hd.id):=by
 rw[y5i hf hb hr,y5i hf hb I];rcases hd with rfl|rfl
 have hs:stI 0 = -1:=rfl;rw[hs]at I ⊢;let bs:List Bk:=(List.range 50).map λ(j:Nat)=>(stk B.b<|(j:Int)-2-r,stk B.f<|(j:Int)-3);have O:((List.range 50).flatMap λ(j:Nat)=>stk B.b ((j:Int)-3-r)++stk B.f ((j:Int)-3))=[]++bs.flatMap λb=>b.2++b.1:=by
  have k:∀n:Nat,((List.range n).flatMap λ(j:Nat)=>stk B.b ((j:Int)-3-r)++stk B.f ((j:Int)-3))++stk B.b ((n:Int)-3-r)=(List.range n).flatMap λ(j:Nat)=>stk B.f ((j:Int)-3)++stk B.b ((j:Int)-2-r):=by
   intro n;induction n with
   | zero=>simp only[List.range_zero,l118,l45];exact z5u
   | succ n ih=>
    rw[l70,l42,l42,<-ih];simp only[l36,l118,l26,l14];rw[show ((n+1:Nat):Int)-3-r=(n:Int)-2-r by omega]
  have D:=k 50;rw[z5u (l:=B.b) (n:=((50:Nat):Int)-3-r),l26]at D;rw[D,l45,l106]
 have Z:((List.range 50).flatMap λ(j:Nat)=>stk B.b ((j:Int)-3-(r + -1))++stk B.f ((j:Int)-3))=[]++bs.flatMap λb=>b.1++b.2:=by
  rw[l45,l106];refine z5v λj _=>?_;rw[show (j:Int)-3-(r + -1)=(j:Int)-2-r by omega]
 have e3:z2n B r 0=bs.flatMap λb=>b.1.flatMap λx=>b.2.reverse.map λo=>(⟨o,x,1⟩:Cx):=by
  rw[l106,y6y (n:=B.b.length) (c:=(3+r).toNat) oo (λj hj=>by rw[z5u (l:=B.b)];rfl) (λj h1 h2=>by
   by_cases h:(j:Int)-2-r<=40;have:stk B.b ((j:Int)-2-r)=[]:=by
    unfold stk;rw[if_pos oo,List.getD,l34 oo];rfl
   rw[this];rfl;rw[z5u (l:=B.b)];rfl)]
  unfold z2n x6n;rw[if_neg dd];refine z5v λk hk=>?_;have a0:=l94.1 hk;unfold u3j y1c;rw[if_pos U,v5o,show (((k+(3+r).toNat:Nat):Int)-2-r)=(k:Int)+1 by omega,v2x oo,show (((k+(3+r).toNat:Nat):Int)-3)=(k:Int)+1+r-1 by omega];rfl
 rw[O,Z,e3];exact k2s;have hs:stI 1=1:=rfl;rw[hs]at I ⊢;let bs:List Bk:=(List.range 50).map λ(j:Nat)=>(stk B.b<|(j:Int)-3-r,stk B.f<|(j:Int)-3);have O:((List.range 50).flatMap λ(j:Nat)=>stk B.b ((j:Int)-3-r)++stk B.f ((j:Int)-3))=[]++bs.flatMap λb=>b.1++b.2:=by
  rw[l45,l106]
 have Z:((List.range 50).flatMap λ(j:Nat)=>stk B.b ((j:Int)-3-(r+1))++stk B.f ((j:Int)-3))=[]++bs.flatMap λb=>b.2++b.1:=by
  have k:∀n:Nat,(List.range n).flatMap (λ(j:Nat)=>stk B.f ((j:Int)-3)++stk B.b ((j:Int)-3-r))=((List.range n).flatMap λ(j:Nat)=>stk B.b ((j:Int)-3-(r+1))++stk B.f ((j:Int)-3))++stk B.b ((n:Int)-3-(r+1)):=by
   intro n;induction n with
   | zero=>simp only[List.range_zero,l118,l45];exact(z5u).symm
   | succ n ih=>
    rw[l70,l42,l42,ih];simp only[l36,l118,l26,l14];rw[show ((n+1:Nat):Int)-3-(r+1)=(n:Int)-3-r by omega]
  have D:=k 50;rw[z5u (l:=B.b) (n:=((50:Nat):Int)-3-(r+1)),l26]at D;rw[l45,l106];exact D.symm
 have e3:z2n B r 1=(bs.flatMap λb=>b.1.flatMap λx=>b.2.reverse.map λo=>(⟨x,o,-1⟩:Cx)).reverse:=by
  rw[l106,y6y (n:=B.b.length) (c:=(4+r).toNat) oo (λj hj=>by rw[z5u (l:=B.b)];rfl) (λj h1 h2=>by
   by_cases h:(j:Int)-3-r<=40;have:stk B.b ((j:Int)-3-r)=[]:=by
    unfold stk;rw[if_pos oo,List.getD,l34 oo];rfl
   rw[this];rfl;rw[z5u (l:=B.b)];rfl)]
  unfold z2n x6n;rw[if_pos U];congr 1;refine z5v λk hk=>?_;have a0:=l94.1 hk;unfold u3j y1c;rw[if_neg dd,v5o,show (((k+(4+r).toNat:Nat):Int)-3-r)=(k:Int)+1 by omega,v2x oo,show (((k+(4+r).toNat:Nat):Int)-3)=(k:Int)+1+r by omega];rfl
 rw[O,Z,e3];exact k0b
theorem k0t {P S:List LId}{a:LId}(h:a∉P):y1n (P++a::S) a=(P.length:Int):=by
 unfold y1n;rw[if_pos sp0,List.idxOf_append,if_neg h,List.idxOf_cons_self,l72]
theorem x7a {P S:List LId}{a b:LId}:x5x (P++a::b::S) (P.length+1)=P++b::a::S:=by
 unfold x5x;have D:(P++a::b::S).getD (P.length+1) id0=b:=by
  rw[List.getD,l29 oo,l131];rfl
 have I:(P++a::b::S).getD P.length id0=a:=by
  rw[List.getD,l29 oo,l80];rfl
 rw[l87,D,I,l52 _ _ oo,l80,l52 _ _ oo,l131];rfl
theorem j3n {P S:List LId}{w:List Int}{c:Cx}(h:c.a∉P):y2o (P++c.a::c.b::S,w) c=(P++c.b::c.a::S,w++[((P.length:Int)+1)*c.n]):=by
 unfold y2o;simp only[k0t h];rw[if_pos ⟨oo,by simp only[l13,l33];omega⟩,show ((P.length:Int)+1).toNat=P.length+1 by omega,x7a]
theorem v4h {P S:List LId}{a b:LId}(h:(P++a::b::S).Nodup):(P++b::a::S).Nodup:=by
 have p:(P++b::a::S).Perm (P++a::b::S):=List.Perm.append_left P<|List.Perm.swap a b S;exact p.nodup_iff.2 h
theorem u8h {P S:List LId}{a:LId}(h:(P++a::S).Nodup):a∉P:=λD=>by
 have:=(l58.1 h).2.2 a D a sp0
 exact this U
def nbr (o:List LId)(a b:LId):Option Nat:=(List.range<|o.length-1).find? λn=>decide (o.getD n id0=a/\o.getD (n+1) id0=b)
def v4e (st:St)(c:Cx):St:=match nbr st.1 c.a c.b with
  | some n=>(x5x st.1<|n+1,st.2++[c.n*((n:Int)+1)])
  | none=>st
theorem v1p {P S:List LId}{a:LId}:(P++a::S).getD P.length id0=a:=by
 rw[List.getD,l29 oo,l80];rfl
theorem x2x {P S:List LId}{a b:LId}:(P++a::b::S).getD (P.length+1) id0=b:=by
 rw[List.getD,l29 oo,l131];rfl
theorem k5a {P S:List LId}{a b:LId}(h:a∉P):nbr (P++a::b::S) a b=some P.length:=by
 unfold nbr;rw[List.find?_range_eq_some];refine⟨by simp only[v1p,x2x];simp,l94.2 (by simp only[l13,l33];omega),λj D=>?_⟩;have I:(P++a::b::S).getD j id0≠a:=λe=>h (by
  rw[List.getD,l40 D,l10 D]at e;exact e▸l117 D)
 rw[decide_eq_false λe=>I e.1];rfl
def y6m (l:List Nat)(k:Nat):List Nat:=(l.set (k-1)<|l.getD k 0).set k<|l.getD (k-1) 0
def flw (l:List Nat)(w:List Int):List Nat:=w.foldl (λl k=>y6m l k.natAbs) l
theorem u7q {f:Nat->LId}{l:List Nat}{k:Nat}(I:1<=k/\k<l.length):x5x (l.map f) k=(y6m l k).map f:=by
 unfold x5x y6m;have e:∀j,j<l.length->(l.map f).getD j id0=f (l.getD j 0):=λj D=>by
  rw[List.getD,List.getD,l24,l10 D];rfl
 rw[e k I.2,e (k-1) oo,l133,l133]
theorem y5c (l:List Nat)(k:Nat):(y6m l k).length=l.length:=by unfold y6m;simp
def sgn (k:Int):Int:=if k<0 then -1 else 1
def lnk:List Nat->List Int->Nat->Nat->Int
  | _,[],_,_=>0
  | l,x::u,i,k=>(if (l.getD (x.natAbs-1) 0=i/\l.getD x.natAbs 0=k)\/(l.getD (x.natAbs-1) 0=k/\l.getD x.natAbs 0=i) then sgn x else 0)+lnk (y6m l x.natAbs) u i k
def crS (cs:List Cx)(a b:LId):Int:=(cs.map λc=>if (c.a=a/\c.b=b)\/(c.a=b/\c.b=a) then c.n else 0).sum
abbrev Sg (cs:List Cx):Prop:=∀c∈cs,c.n=1\/c.n = -1
theorem x3a {f:Nat->LId}:∀ {cs:List Cx} {o o':List LId} {l:List Nat} {w:List Int},o=l.map f->o.Nodup->Adj o cs o'->Sg cs->
    ∃u,z3j (o,w) cs=(o',w++u)/\cs.foldl v4e (o,w)=(o',w++u)/\o'=(flw l u).map f/\(flw l u).length=l.length/\u.length=cs.length/\(∀k∈u,1<=k.natAbs/\k.natAbs<o.length)/\o'.Nodup/\o'.Perm o/\
      ∀i k,i∈l->k∈l->lnk l u i k=crS cs (f i) (f k)
  | [],o,o',l,w,e,hn,h,_=>by
    cases h
    exact⟨[],by simp[z3j],sp0,e,rfl,rfl,λk D=>(by cases D),hn,.refl _,λ_ _ _ _=>rfl⟩
  | c::cs,o,o',l,w,e,hn,⟨P,S,e1,h⟩,hs=>by
    have a0:=hs c l39
    have b3:c.a∉P:=u8h (e1▸hn)
    have h1:=j3n (w:=w) (S:=S) b3
    have b0:o.length=l.length:=by rw[e,l15]
    have b1:P.length+1<l.length:=by rw[<-b0,e1];simp only[l13,l33];omega
    have O:(((P.length:Int)+1)*c.n).natAbs=P.length+1:=by
      rcases a0 with h|h<;>rw[h]<;>omega
    have b4:sgn (((P.length:Int)+1)*c.n)=c.n:=by
      unfold sgn
      rcases a0 with h|h<;>rw[h]
      · rw[if_neg oo]
      · rw[if_pos oo]
    have e2:P++c.b::c.a::S=(y6m l<|P.length+1).map f:=by
      rw[<-u7q ⟨oo,b1⟩,<-e,e1,x7a]
    obtain⟨u,a1,a2,a3,a4,a5,a6,a7,a8,a9⟩:=x3a (w:=w++[((P.length:Int)+1)*c.n]) e2 (v4h (e1▸hn)) h λx O=>hs x<|l41 _ O
    have hf:∀j,j<l.length->f (l.getD j 0)=o.getD j id0:=λj Z=>by
      rw[e,List.getD,List.getD,l24,l10 Z];rfl
    have fa:f (l.getD P.length 0)=c.a:=by rw[hf _ oo,e1,v1p]
    have fb:f (l.getD (P.length+1) 0)=c.b:=by rw[hf _ b1,e1,x2x]
    refine⟨(((P.length:Int)+1)*c.n)::u,?_,?_,?_,?_,?_,?_,a7,?_,?_⟩
    · rw[e1]
      show z3j (y2o (P++c.a::c.b::S,w) c) cs=_
      rw[h1,a1,l14];rfl
    · rw[e1,l136]
      have:v4e (P++c.a::c.b::S,w) c=(P++c.b::c.a::S,w++[((P.length:Int)+1)*c.n]):=by
        unfold v4e
        simp only[k5a b3,x7a,Int.mul_comm]
      rw[this,a2,l14];rfl
    · show o'=(flw (y6m l (((P.length:Int)+1)*c.n).natAbs) u).map f
      rw[O];exact a3
    · show (flw (y6m l (((P.length:Int)+1)*c.n).natAbs) u).length=_
      rw[O,a4,y5c]
    · rw[l33,a5,l33]
    · intro k D
      rcases l56.1 D with rfl|D
      · rw[O];omega
      · have:=a6 k D
        rw[e1];simp only[l13,l33]at this ⊢;omega
    · exact e1▸a8.trans (List.Perm.append_left P (List.Perm.swap ..))
    · intro i k hi D
      have hm:∀ {z},z∈l->z∈y6m l (P.length+1):=λ{z} hz=>by
        obtain⟨j,Z,rfl⟩:=l31 hz
        have g:∀m,m<l.length->l.getD m 0=l[m]!:=λm hm=>by rw[List.getD,l10 hm,List.getElem!_eq_getElem?_getD,l10 hm];rfl
        unfold y6m
        by_cases j1:j=P.length+1
        · refine l124.2 ⟨P.length,?_⟩
          subst j1
          rw[l130 oo,l87,l120 oo,List.getD,l10 Z];rfl
        · by_cases j2:j=P.length
          · refine l124.2 ⟨P.length+1,?_⟩
            subst j2
            rw[l120 t33,l87,List.getD,l10 Z];rfl
          · refine l124.2 ⟨j,?_⟩
            rw[l130 oo,l130 oo,l10 Z]
      have I:∀ {x z},x∈l->z∈l->(f x=f z↔x=z):=λ{x z} O hz=>⟨λhe=>by
        obtain⟨j,Z,rfl⟩:=l31 O
        obtain⟨m,hm,rfl⟩:=l31 hz
        have b2:=hn
        rw[e]at b2
        have:=(List.getElem_inj (h₀:=by rw[l15];exact Z) (h₁:=by rw[l15];exact hm) b2).1 (by rw[l76,l76];exact he)
        subst this;rfl,λhe=>he▸rfl⟩
      have ga:l.getD P.length 0∈l:=by rw[List.getD,l10 oo];exact l117 oo
      have gb:l.getD (P.length+1) 0∈l:=by rw[List.getD,l10 oo];exact l117 oo
      show (if _ then sgn _ else 0)+lnk (y6m l (((P.length:Int)+1)*c.n).natAbs) u i k=(_::_:List Int).sum
      rw[O,b4,a9 i k (hm hi) (hm D),List.sum_cons,l87]
      congr 1
      have q1:(l.getD P.length 0=i↔c.a=f i):=by rw[<-fa];exact(I ga hi).symm
      have q2:(l.getD P.length 0=k↔c.a=f k):=by rw[<-fa];exact(I ga D).symm
      have q3:(l.getD (P.length+1) 0=i↔c.b=f i):=by rw[<-fb];exact(I gb hi).symm
      have q4:(l.getD (P.length+1) 0=k↔c.b=f k):=by rw[<-fb];exact(I gb D).symm
      simp only[q1,q2,q3,q4]
end Go.G26
namespace Go.G26
open Go.Lw Go.G21 Go.G08 Go.G09
def lkC (l:List Cx)(a b:LId):Int:=z6x l (z5c ⟨a,b,0⟩).1 (z5c ⟨a,b,0⟩).2
theorem v1z {c:Cx}{a b:LId}(h:a≠b):z5c c=z5c ⟨a,b,0⟩↔(c.a=a/\c.b=b)\/(c.a=b/\c.b=a):=by
 have O:=x5a h;have Z:=x5a<|l51 h;unfold z5c;by_cases k:0<z6h a b;rw[if_pos (c:=0<z6h (⟨a,b,0⟩:Cx).a (⟨a,b,0⟩:Cx).b) k];by_cases k2:0<z6h c.a c.b;rw[if_pos k2];simp only[l105];constructor;rintro⟨D,I⟩;exact .inl ⟨I,D⟩;rintro(⟨D,I⟩|⟨D,I⟩);exact⟨I,D⟩;rw[D,I]at k2;exact absurd k2<|O.1 k;rw[if_neg k2];simp only[l105];constructor;rintro⟨D,I⟩;exact .inr ⟨D,I⟩;rintro(⟨D,I⟩|⟨D,I⟩);rw[D,I]at k2;exact absurd k k2;exact⟨D,I⟩;rw[if_neg (c:=0<z6h (⟨a,b,0⟩:Cx).a (⟨a,b,0⟩:Cx).b) k];by_cases k2:0<z6h c.a c.b;rw[if_pos k2];simp only[l105];constructor;rintro⟨D,I⟩;exact .inr ⟨I,D⟩;rintro(⟨D,I⟩|⟨D,I⟩);rw[D,I]at k2;exact absurd k2 k;exact⟨I,D⟩;rw[if_neg k2];simp only[l105];constructor;rintro⟨D,I⟩;exact .inl ⟨D,I⟩;rintro(⟨D,I⟩|⟨D,I⟩);exact⟨D,I⟩;rw[D,I]at k2;exact absurd (Z.2 k) k2
theorem u2f {a b:LId}(h:a≠b):∀ {cs l l':List Cx},z4o l cs=.ok l'->lkC l' a b=lkC l a b+crS cs a b
 | [],l,l',e=>by cases e;simp[crS]
 | c::cs,l,l',e=>by
  rw[v3k]at e
  cases e1:y4p l c with
  | error x=>rw[e1]at e;cases e
  | ok l1=>
   rw[e1]at e
   have D:=u6n e1 (z5c ⟨a,b,0⟩).1 (z5c ⟨a,b,0⟩).2
   rw[u2f h e]
   unfold lkC crS at *
   rw[D,l28,List.sum_cons]
   by_cases k:(c.a=a/\c.b=b)\/(c.a=b/\c.b=a)
   ·rw[if_pos k,if_pos ((v1z h).2 k)];omega
   rw[if_neg k,if_neg (λe=>k<|(v1z h).1 e)];omega
theorem j2f (B:Bd)(r d:Int):Sg (z2n B r d):=by
 have h:∀c∈x6n B r d B.b.length,c.n=1\/c.n = -1:=λc D=>by
  obtain⟨k,_,I⟩:=l74.1 D;obtain⟨x,_,O⟩:=l74.1 I;obtain⟨o,_,rfl⟩:=l55.1 O;unfold x7b;split;exact .inl U;exact .inr U
 intro c D;unfold z2n at D;split at D;exact h c<|l126.1 D;exact h c D
def v4d (B:Bd)(d:Int):Nat->Int->St->St
  | 0,_,st=>st
  | n+1,r,st=>v4d B d n (r+stI d)<|(z2n B r d).foldl v4e st
def y4q (B:Bd)(r ro:Int)(st:St):St:=v4d B (if ro<r then 0 else 1) (if ro<r then r-ro else ro-r).toNat r st
def z4f:MSt->St->List MOp->St
  | _,st,[]=>st
  | p,st,o::l=>
    let st':=if o.k=3 then y4q p.B p.rk o.r st else st
    match doM p o with
      | .error _=>z4f p st' l
      | .ok q=>z4f q st' l
theorem x5e {p:MSt}(h:MInv p):(z3v p).Nodup:=(y4v p.B p.rk).nodup_iff.2 h.B.nd
theorem u0f:∀ {u v:List Int} {l:List Nat} {i k:Nat},lnk l (u++v) i k=lnk l u i k+lnk (flw l u) v i k
 | [],v,l,i,k=>by simp[lnk,flw]
 | x::u,v,l,i,k=>by
  show (if _ then sgn x else 0)+lnk (y6m l x.natAbs) (u++v) i k=(if _ then sgn x else 0)+lnk (y6m l x.natAbs) u i k+lnk (flw (y6m l x.natAbs) u) v i k
  rw[u0f,Int.add_assoc]
theorem j7r (l:List Nat)(u v:List Int):flw l (u++v)=flw (flw l u) v:=by unfold flw;rw[List.foldl_append]
theorem x6s:∀ {u:List Int} {l:List Nat},(flw l u).length=l.length
 | [],_=>rfl
 | x::u,l=>by show (flw (y6m l x.natAbs) u).length=_;rw[x6s,y5c]
theorem v8r {l:List Nat}{i:Nat}{u:List Int}(hb:∀k∈u,1<=k.natAbs/\k.natAbs<l.length)(hi:i∈l):i∈flw l u:=by
 induction u generalizing l with
 | nil=>exact hi
 | cons x u ih=>
  have O:=hb x l39;refine ih (l:=y6m l x.natAbs) (λk I=>by rw[y5c];exact hb k<|l41 _ I) ?_;obtain⟨j,D,rfl⟩:=l31 hi;unfold y6m;by_cases j1:j=x.natAbs;refine l124.2 ⟨x.natAbs-1,?_⟩;subst j1;rw[l130 oo,l120 oo,List.getD,l10 D];rfl;by_cases j2:j=x.natAbs-1;refine l124.2 ⟨x.natAbs,?_⟩;subst j2;rw[l120 t33,List.getD,l10 D];rfl;refine l124.2 ⟨j,?_⟩;rw[l130 oo,l130 oo,l10 D]
structure Wd (f:Nat->LId) (l:List Nat) (u:List Int) (p q:MSt):Prop where
  ord:z3v q=(flw l u).map f
  bd:∀k∈u,1<=k.natAbs/\k.natAbs<l.length
  lk:∀i k,i∈l->k∈l->f i≠f k->lkC q.cr (f i) (f k)=lkC p.cr (f i) (f k)+lnk l u i k
theorem Wd.app {f:Nat->LId}{l:List Nat}{u v:List Int}{p q r:MSt}(h1:Wd f l u p q)(O:Wd f (flw l u) v q r):Wd f l (u++v) p r:=
 ⟨by rw[O.ord,j7r],λk I=>by
  rcases l22.1 I with h|h
  ·exact h1.bd k h
  ·have:=O.bd k h;rw[x6s]at this;exact this,λi k hi I D=>by
  rw[O.lk i k (v8r h1.bd hi) (v8r h1.bd I) D,h1.lk i k hi I D,u0f];omega⟩
theorem Wd.nil {f:Nat->LId}{l:List Nat}{p q:MSt}(h:z3v q=l.map f)(D:q.cr=p.cr):Wd f l [] p q:=⟨h,λk I=>(by cases I),λi k _ _ _=>by rw[D];show _=_+(0:Int);omega⟩
theorem v3y {f:Nat->LId}{p q:MSt}{d:Int}{l:List Nat}{w:List Int}(h:MInv p)(hd:d=0\/d=1)(hr:-4<=p.rk+stI d/\p.rk+stI d<=4)(e:z6l p d=.ok q)(ho:z3v p=l.map f) :
    ∃u,z3j (z3v p,w) (z2n p.B p.rk d)=(z3v q,w++u)/\(z2n p.B p.rk d).foldl v4e (z3v p,w)=(z3v q,w++u)/\Wd f l u p q:=by
  have Z:q.rk=p.rk+stI d/\q.B=p.B/\z4o p.cr (z2n p.B p.rk d)=.ok q.cr:=by
    unfold z6l at e
    split at e
    · cases e
    · split at e
      · cases e
      · rename_i hh;cases e;exact⟨rfl,rfl,hh⟩
  have ha:=u5z h.B.lf h.B.lb h.rk hd hr
  have O:z3v q=(z2k p.B<|p.rk+stI d).map Hd.id:=by unfold z3v;rw[Z.1,Z.2.1]
  obtain⟨u,h1,h2,h3,_,_,h6,_,_,h9⟩:=x3a (f:=f) (w:=w) (l:=l) ho (x5e h) ha<|j2f _ _ _
  rw[<-O]at h1 h2 h3
  refine⟨u,h1,h2,h3,λk D=>by have:=h6 k D;rw[ho,l15]at this;exact this,λi k hi D I=>?_⟩
  rw[u2f I Z.2.2,h9 i k hi D]
theorem v4g {B:Bd}{r ro:Int}(h:r≠ro)(st:St):z7j B r ro st=z7j B (r+stI (if ro<r then 0 else 1)) ro (z3j st<|z2n B r (if ro<r then 0 else 1)):=by
 unfold z7j;by_cases c:ro<r;simp only[if_pos c];obtain⟨m,D⟩:∃m:Nat,(r-ro).toNat=m+1:=⟨(r-ro).toNat-1,oo⟩;rw[D];have hs:stI 0 = -1:=rfl;by_cases c2:ro<r+stI 0;rw[if_pos c2,if_pos c2,show (r+stI 0-ro).toNat=m by rw[hs] at *;omega];rfl;rw[if_neg c2,if_neg c2,show (ro-(r+stI 0)).toNat=0 by rw[hs] at *;omega,show m=0 by rw[hs] at *;omega];rfl;simp only[if_neg c];obtain⟨m,D⟩:∃m:Nat,(ro-r).toNat=m+1:=⟨(ro-r).toNat-1,oo⟩;rw[D];have hs:stI 1=1:=rfl;have c2:¬ro<r+stI 1:=by rw[hs];omega
 rw[if_neg c2,if_neg c2,show (ro-(r+stI 1)).toNat=m by rw[hs] at *;omega];rfl
theorem x9i {B:Bd}{r:Int}{st:St}:z7j B r r st=st:=by
 unfold z7j;rw[if_neg oo,if_neg oo,show (r-r).toNat=0 by omega];rfl
theorem v4s {B:Bd}{r ro:Int}(h:r≠ro)(st:St):y4q B r ro st=y4q B (r+stI (if ro<r then 0 else 1)) ro ((z2n B r (if ro<r then 0 else 1)).foldl v4e st):=by
 unfold y4q;by_cases c:ro<r;simp only[if_pos c];obtain⟨m,D⟩:∃m:Nat,(r-ro).toNat=m+1:=⟨(r-ro).toNat-1,oo⟩;rw[D];have hs:stI 0 = -1:=rfl;by_cases c2:ro<r+stI 0;rw[if_pos c2,if_pos c2,show (r+stI 0-ro).toNat=m by rw[hs] at *;omega];rfl;rw[if_neg c2,if_neg c2,show (ro-(r+stI 0)).toNat=0 by rw[hs] at *;omega,show m=0 by rw[hs] at *;omega];rfl;simp only[if_neg c];obtain⟨m,D⟩:∃m:Nat,(ro-r).toNat=m+1:=⟨(ro-r).toNat-1,oo⟩;rw[D];have hs:stI 1=1:=rfl;have c2:¬ro<r+stI 1:=by rw[hs];omega
 rw[if_neg c2,if_neg c2,show (ro-(r+stI 1)).toNat=m by rw[hs] at *;omega];rfl
theorem x9u {B:Bd}{r:Int}{st:St}:y4q B r r st=st:=by
 unfold y4q;rw[if_neg oo,if_neg oo,show (r-r).toNat=0 by omega];rfl
theorem x4w {f:Nat->LId}{r:Int}(hr:-4<=r/\r<=4):∀ {n:Nat} {p q:MSt} {l:List Nat} {w:List Int},MInv p->p.rk-r<=n->r-p.rk<=n->z4t n p r=.ok q->z3v p=l.map f->
    ∃u,z7j p.B p.rk r (z3v p,w)=(z3v q,w++u)/\y4q p.B p.rk r (z3v p,w)=(z3v q,w++u)/\Wd f l u p q
  | 0,p,q,l,w,h,h1,h2,e,ho=>by
    cases e
    have:p.rk=r:=by omega
    rw[<-this,x9i,x9u]
    exact⟨[],t47,t47,Wd.nil ho U⟩
  | n+1,p,q,l,w,h,h1,h2,e,ho=>by
    unfold z4t at e
    by_cases e0:p.rk=r
    · rw[if_pos e0]at e
      cases e
      rw[<-e0,x9i,x9u]
      exact⟨[],t47,t47,Wd.nil ho U⟩
    · rw[if_neg e0]at e
      obtain⟨d,D⟩:∃d:Int,d=if r<p.rk then 0 else 1:=⟨_,rfl⟩
      rw[<-D]at e
      have hd:d=0\/d=1:=by rw[D];split<;>simp
      have a0:-4<=p.rk+stI d/\p.rk+stI d<=4:=by
        have:=h.rk
        rw[D];unfold stI
        split
        · rw[if_pos U];omega
        · rw[if_neg dd];omega
      have I:p.rk+stI d-r<=n/\r-(p.rk+stI d)<=n:=by
        rw[D];unfold stI
        split
        · rw[if_pos U];omega
        · rw[if_neg dd];omega
      split at e
      · cases e
      · rename_i p1 O
        obtain⟨hi,Z⟩:=z8x h a0 O
        have hB:p1.B=p.B:=by
          unfold z6l at O
          split at O
          · cases O
          · split at O
            · cases O
            · cases O;rfl
        obtain⟨u,a1,a2,a3⟩:=v3y (w:=w) h hd a0 O ho
        obtain⟨v,b1,b2,b3⟩:=x4w (f:=f) hr (w:=w++u) hi (by rw[Z];exact I.1) (by rw[Z];exact I.2) e a3.ord
        rw[Z,hB]at b1 b2
        rw[v4g e0,v4s e0,<-D,a1,a2,b1,b2,l14]
        exact⟨u++v,rfl,rfl,a3.app b3⟩
theorem u3w (B:Bd){n:Int}(h:1<=n/\n<=40):stk B.f n=B.at 0 n:=by unfold stk;rw[if_pos h];rfl
theorem u5t (B:Bd){n:Int}(h:1<=n/\n<=40):stk B.b n=B.at 1 n:=by unfold stk;rw[if_pos h];rfl
theorem v2r (B:Bd){b n:Int}(h:z4a b n=0)(s:List LId){m:Int}:stk (B.put b n s).f m=if 0=b/\m=n then s else stk B.f m:=by
 by_cases hm:1<=m/\m<=40;rw[u3w _ hm,u3w _ hm,y6k B h (y6t ⟨.inl U,hm.1,hm.2⟩)];have D:¬(0=b/\m=n):=λe=>hm (by have:=z2w h;omega);rw[if_neg D,z5u (h:=hm),z5u (h:=hm)]
theorem v2t (B:Bd){b n:Int}(h:z4a b n=0)(s:List LId){m:Int}:stk (B.put b n s).b m=if 1=b/\m=n then s else stk B.b m:=by
 by_cases hm:1<=m/\m<=40;rw[u5t _ hm,u5t _ hm,y6k B h (y6t ⟨.inr U,hm.1,hm.2⟩)];have D:¬(1=b/\m=n):=λe=>hm (by have:=z2w h;omega);rw[if_neg D,z5u (h:=hm),z5u (h:=hm)]
theorem u8i {p q:MSt}{o:MOp}(h:MInv p)(hq:MInv q)(e:doM p o=.ok q)(hk:o.k=7):z3v q=z3v p/\q.cr=p.cr:=by
 have a3:q.cr=p.cr:=by
  obtain⟨hc,e⟩:=x6c e;unfold opM at e;rw[if_neg oo,if_neg oo,if_neg oo,if_neg oo,if_neg oo,if_neg oo,if_pos hk]at e;unfold z8w at e;split at e;cases e;split at e;cases e;split at e;cases e;split at e;cases e;cases e;rfl
 refine⟨?_,a3⟩;have hc:=(x6c e).1;have hn:=(z4c hc).2.2.2.2.1 oo;obtain⟨h1,_,h3,h4,_,h6⟩:=u0s e hk;obtain⟨O,Z,a2⟩:=z2w hn;obtain⟨_,D,I⟩:=z2w h4;unfold z3v;rw[h1,y5i h.B.lf h.B.lb h.rk,y5i hq.B.lf hq.B.lb h.rk,h6];refine z5v λj _=>?_;rw[v2r _ h4,v2r _ hn,v2t _ h4,v2t _ hn];unfold y1o;rcases O with O|O
 rw[O];rw[O]at D I;have ho:z5s 0 o.p p.rk=o.p-p.rk:=rfl;rw[ho]at D I ⊢;have a0:=u3w p.B ⟨Z,a2⟩;have a1:=u5t p.B ⟨D,I⟩;by_cases c:(j:Int)-3=o.p;rw[if_neg (c:=(0:Int)=1-0/\_) oo,if_pos (c:=(0:Int)=0/\_) ⟨rfl,c⟩,if_pos (c:=(1:Int)=1-0/\_) ⟨oo,oo⟩,if_neg (c:=(0:Int)=1) oo,show (1:Int)-0=1 from U,<-a0,<-a1,l26,c];rw[if_neg (c:=(0:Int)=1-0/\_) oo,if_neg (c:=(0:Int)=0/\_) (λx=>c x.2),if_neg (c:=(1:Int)=1-0/\_) (λx=>c oo),if_neg (c:=(1:Int)=0/\_) oo];rw[O];rw[O]at D I;have ho:z5s 1 o.p p.rk=o.p+p.rk:=rfl;rw[ho]at D I ⊢;have a0:=u5t p.B ⟨Z,a2⟩;have a1:=u3w p.B ⟨D,I⟩;by_cases c:(j:Int)-3-p.rk=o.p;rw[if_pos (c:=(0:Int)=1-1/\_) ⟨oo,oo⟩,if_neg (c:=(1:Int)=1-1/\_) oo,if_pos (c:=(1:Int)=1/\_) ⟨rfl,c⟩,if_pos (c:=(1:Int)=1) U,show (1:Int)-1=0 from U,<-a0,<-a1,l45,c,show o.p+p.rk=(j:Int)-3 by omega];rw[if_neg (c:=(0:Int)=1-1/\_) (λx=>c oo),if_neg (c:=(0:Int)=1/\_) oo,if_neg (c:=(1:Int)=1-1/\_) oo,if_neg (c:=(1:Int)=1/\_) (λx=>c x.2)]
theorem v5s {f:Nat->LId}{p q:MSt}{o:MOp}{l:List Nat}{w:List Int}(h:MInv p)(e:doM p o=.ok q)(D:o.k=3\/o.k=7)(ho:z3v p=l.map f) :
    ∃u,(if o.k=3 then z7j p.B p.rk o.r (z3v p,w) else (z3v p,w))=(z3v q,w++u)/\(if o.k=3 then y4q p.B p.rk o.r (z3v p,w) else (z3v p,w))=(z3v q,w++u)/\Wd f l u p q:=by
  rcases D with D|D
  · obtain⟨hc,e⟩:=x6c e
    have Z:=(z4c hc).2.2.2.2.2 D
    unfold opM at e
    rw[if_neg oo,if_neg oo,if_pos D]at e
    have:=h.rk
    rw[if_pos D,if_pos D]
    exact x4w Z (n:=8) h oo oo e ho
  · obtain⟨I,O⟩:=u8i h (z8h h e) e D
    rw[if_neg oo,if_neg oo,I]
    exact⟨[],t47,t47,Wd.nil (I.trans ho) O⟩
theorem x0m {f:Nat->LId}:∀ {m:List MOp} {i:Nat} {p q:MSt} {l:List Nat} {w:List Int},MInv p->(∀o∈m,o.k=3\/o.k=7)->z3d i p m=.ok q->z3v p=l.map f->w.length<=64->
    ∃u,z9b p (z3v p,w) m=(if (w++u).length<=64 then some (z3v q,w++u) else none)/\z4f p (z3v p,w) m=(z3v q,w++u)/\Wd f l u p q
  | [],i,p,q,l,w,h,_,e,O,hw=>by
    cases e
    exact⟨[],by rw[l26,if_pos hw];rfl,by rw[l26];rfl,Wd.nil O U⟩
  | o::m,i,p,q,l,w,h,Z,e,O,hw=>by
    unfold z3d at e
    split at e
    · cases e
    · rename_i p1 D
      obtain⟨u,a1,a2,I⟩:=v5s (w:=w) h D (Z o l39) O
      unfold z9b z4f
      simp only[a1,a2,D]
      by_cases c:64<(w++u).length
      · have a0:∀ {m:List MOp} {i:Nat} {p q:MSt} {l:List Nat} {w:List Int},MInv p->(∀o∈m,o.k=3\/o.k=7)->z3d i p m=.ok q->z3v p=l.map f->∃u,z4f p (z3v p,w) m=(z3v q,w++u)/\Wd f l u p q:=by
          intro m
          induction m with
          | nil=>intro i p q l w h _ e O;cases e;exact⟨[],by rw[l26];rfl,Wd.nil O U⟩
          | cons o m ih=>
            intro i p q l w h Z e O
            unfold z3d at e
            split at e
            · cases e
            · rename_i p1 D
              obtain⟨u,_,a2,I⟩:=v5s (w:=w) h D (Z o l39) O
              unfold z4f
              simp only[a2,D]
              obtain⟨v,b2,b3⟩:=ih (w:=w++u) (z8h h D) (λx hx=>Z x<|l41 _ hx) e I.ord
              exact⟨u++v,by rw[b2,l14],I.app b3⟩
        obtain⟨v,b2,b3⟩:=a0 (w:=w++u) (z8h h D) (λx hx=>Z x<|l41 _ hx) e I.ord
        refine⟨u++v,?_,by rw[b2,l14],I.app b3⟩
        rw[if_pos c,if_neg]
        rw[<-l14,l13];omega
      · rw[if_neg c]
        obtain⟨v,b1,b2,b3⟩:=x0m (w:=w++u) (z8h h D) (λx hx=>Z x<|l41 _ hx) e I.ord oo
        exact⟨u++v,by rw[b1,l14],by rw[b2,l14],I.app b3⟩
end Go.G26
namespace Go.G26
open Go.Lw Go.G21 Go.G08
theorem u7c {l:List Nat}{k:Nat}(h:1<=k/\k<l.length):∃P a b S,l=P++a::b::S/\P.length=k-1/\y6m l k=P++b::a::S:=by
 obtain⟨m,rfl⟩:∃m,k=m+1:=⟨k-1,oo⟩;have D:m<l.length:=by omega
 refine⟨l.take m,l[m],l[m+1],l.drop<|m+2,?_,t19,?_⟩;rw[<-l32 h.2,<-l32 D,l25];have e:l=l.take m++l[m]::l[m+1]::l.drop (m+2):=by
  rw[<-l32 h.2,<-l32 D,l25]
 have hl:(l.take m).length=m:=by rw[l27];omega
 unfold y6m;have I:l.getD (m+1) 0=l[m+1]:=by rw[List.getD,l10 h.2];rfl
 have O:l.getD (m+1-1) 0=l[m]:=by rw[l87,List.getD,l10 D];rfl
 rw[I,O,l87];clear I O;generalize l[m]=x,l[m+1]=y at e ⊢;generalize l.take m=P,l.drop (m+2)=S at e hl ⊢;subst e;rw[l52 _ _ oo,hl,l80,l52 _ _ oo,hl,l131];rfl
theorem u3b {l:List Nat}{k:Nat}(h:1<=k/\k<l.length):(y6m l k).Perm l:=by
 obtain⟨P,a,b,S,e,_,D⟩:=u7c h;rw[D,e];exact List.Perm.append_left P (List.Perm.swap ..)
theorem v1s:∀ {u:List Int} {l:List Nat},(∀k∈u,1<=k.natAbs/\k.natAbs<l.length)->(flw l u).Perm l
 | [],_,_=>.refl _
 | x::u,l,h=>by
  have I:=h x l39
  show (flw (y6m l x.natAbs) u).Perm l
  exact(v1s (l:=y6m l x.natAbs) λk D=>by rw[y5c];exact h k<|l41 _ D).trans<|u3b I
def prmJ (l:List Nat)(j:Nat):List Nat:=(List.range l.length).map λi=>if l.idxOf i<j then l.idxOf i+1 else 0
def j1m (l:List Nat):List Nat:=prmJ l l.length
theorem z7r {l:List Nat}(hp:l.Perm (List.range l.length)){f:Nat->LId}{i:Nat}(hi:i<l.length):1<=(j1m l).getD i 0/\(j1m l).getD i 0<=l.length/\(l.map f).getD ((j1m l).getD i 0-1) id0=f i:=by
 have D:i∈l:=hp.mem_iff.2<|l94.2 hi;have I:l.idxOf i<l.length:=List.idxOf_lt_length_iff.2 D;have e:(j1m l).getD i 0=l.idxOf i+1:=by
  unfold j1m prmJ;rw[List.getD,l24,List.getElem?_range hi];show (if _ then _ else _)=_;rw[if_pos I]
 rw[e];refine⟨oo,oo,?_⟩;rw[l87,List.getD,l24,l10 I];show f l[l.idxOf i]=f i;rw[List.getElem_idxOf I]
end Go.G26
namespace Go.Proofs.YtkafbfjmcigaiaaGreatDoor
open Go.Lw Go.G21 Go.G08 Go.G09 Go.G26 _root_.Go.Proofs.Tryz
def WdOk (n:Nat)(u:List Int):Prop:=∀k∈u,1<=k.natAbs/\k.natAbs<n
theorem j5d (n:Nat)(v:Value)(u:List Int)(w0:World)(I:Sl Enc.i64 w0 v u)(hn:1<=n/\n<=8)(hl:u.length<=64)(hk:WdOk n u):Rets prog 82 #[.int .i64 (n:Int),v] w0 λr w'=>r=.int .i64 0/\Fr [] w0 w':=by
 obtain⟨A,c,rfl,a1⟩:=id I.form;refine we [(0,.int .i64 (n:Int)),(1,.slice A u.length c)] func82 U ntmps82 U (.c2 U U) ?_;have O:=I;refine sr<|asg U<|nn<|sq<|sq<|rbo (r:=12) (L':=ll2 0 1) ((((n:Int)<1)\/(8<(n:Int)))) (csu U) ?_ ?_;refine mv U U<|lt' U<|mv U U<|gs 9 U (λg0=>?_)<|λg0=>?_;exact gN U<|gN U<|pkt U<|rbe U<|csu U;exact gY U<|mv U U<|gY U<|gt' U<|pkf U<|rbe U<|csu U;refine tn<|cd U (λc0=>?_)<|λc0=>?_;exfalso;omega;refine sk<|tn<|sq<|sr<|mv U U<|lnS U underlying58<|gt' U<|nn<|cd U (λc1=>?_)<|λc1=>?_;exfalso;omega;refine sk<|tn<|sq<|sr<|mv U U<|lnS U underlying58<|mv U U<|nn<|bl<|lpK (ι:=Nat) (ll3 0 16 17) (λi=>[(18,.int .i64 (i:Int))]) (λi w'=>Fr [] w0 w'/\i<=u.length/\True) (λi=>u.length-i) 0 (csu U) ⟨l12 _ _,⟨l17 _,trivial⟩⟩ ?_;rintro i w1 ⟨Z,⟨hi,_⟩⟩;refine kpC (ll4 0 16 17 18) (csu U)<|sr<|lt' U<|nn<|sq<|cd U (λc2=>?_)<|λc2=>?_;have a2:=hk (u.getD i 0)<|z1c (d:=0) oo;refine sk<|tn<|sq<|bl<|sr ?_;have I:=O.ext Z;refine z0z (0) U I U y0l z1j<|λa0 D=>?_;refine z1b U (D _ I) na3<|asg U<|nn<|sq<|rbo (r:=35) (L':=ll4 0 16 17 18) (((((u.getD i 0)=0)\/((u.getD i 0)<(1-(n:Int))))\/(((n:Int)-1)<(u.getD i 0)))) (csu U) ?_ ?_;refine mv U U<|eq' U<|mv U U<|gs 24 U (λg1=>?_)<|λg1=>?_;exact gN U<|gN U<|gN U<|gN U<|pkt U<|mv U U<|gN U<|gN U<|gN U<|gN U<|pkt U<|rbe U<|csu U;refine gY U<|mv U U<|gY U<|mv U U<|gY U<|z2f U (wi6 oo)<|gY U<|lt' U<|pkf U<|mv U U<|gs 30 U (λg2=>?_)<|λg2=>?_;exact gN U<|gN U<|gN U<|gN U<|pkt U<|rbe U<|csu U;exact gY U<|mv U U<|gY U<|mv U U<|gY U<|z2f U (wi6 oo)<|gY U<|gt' U<|pkf U<|rbe U<|csu U;refine tn<|cd U (λc3=>?_)<|λc3=>?_;exfalso;omega;exact sk<|bn'<|tn<|rg<|z0w U (wi6 oo)<|mv U U<|nl<|lpE (i+1) (csu U) ⟨Z,⟨oo,trivial⟩⟩ oo;obtain rfl:i=u.length:=by omega
 exact ex<|te<|te<|xh<|tn<|sr<|asg U<|nn<|rt<|r1 results82 U ⟨_,rfl,rfl,Z⟩
end Go.Proofs.YtkafbfjmcigaiaaGreatDoor
namespace Go.G26
open Go.Lw Go.G21 Go.G08
structure LkA where
  gb:Nat
  gT:Nat
  n:Nat
  b0:Nat
  HS:List SV
  G:Nat->Nat
section
variable {T2 T1 T0:Nat} {a:LkA} {w w':World} {M M':Nat->Nat->Int} {S:List Nat}
end
section
variable {T0 base n m:Nat} {w w':World} {G:Nat->Nat} {S:List Nat}
end
def lkM (n:Nat)(u:List Int)(i:Nat):Nat->Nat->Int:=λa b=>lnk (List.range n) (u.take i) a b
end Go.G26
namespace Go.Proofs.YtkafbfjmcigaiaaGreatDoor
open Go.Lw Go.G21 Go.G08 Go.G09 Go.G26 _root_.Go.Proofs.Tryz
theorem y5r {l:List Cx}{a b:LId}(hn:∀j,j<l.length->isC a b (l.getD j cx0)=false):z6x l a b=0:=by
 unfold z6x;rw[List.find?_eq_none.2 λc I=>?_];rfl;obtain⟨j,D,rfl⟩:=l31 I;have:=hn j D;rw[List.getD,l10 D,l64]at this;rw[this];decide
end Go.Proofs.YtkafbfjmcigaiaaGreatDoor
namespace Go.G26
open Go.Lw Go.G21 Go.G08
theorem x8e {l:List LId}{x:LId}:0<=y1n l x↔x∈l:=by
 unfold y1n;split;rename_i h;exact⟨λ_=>h,λ_=>oo⟩;rename_i h;exact⟨λD=>oo,λD=>absurd D h⟩
theorem k0e {q:BdQ}(O:BdOk q.p){x:Bool×Nat}{y:LId}(h:y∈((q.r x.1).getD x.2 iq0).2):z4a (y1t x.1) ((x.2:Int)+1)=0/\y∈q.p.at (y1t x.1) ((x.2:Int)+1):=by
 have I:x.2<(q.r x.1).length:=l104 λhn=>by rw[x5n oo]at h;cases h
 have D:(q.r x.1).length<=40:=by
  have Z:=O.lf;have h2:=O.lb;simp only[plB,l15]at Z h2;cases x.1<;>assumption
 have e:((x.2:Int)+1-1).toNat=x.2:=by omega
 obtain⟨a,k⟩:=x;cases a;refine⟨by unfold z4a;rw[if_neg sp0,if_neg (by simp only at I D ⊢;omega)],?_⟩;show y∈(plB q.fs).getD ((k:Int)+1-1).toNat [];rw[e,z3w];exact h;refine⟨by unfold z4a;rw[if_neg sp0,if_neg (by simp only at I D ⊢;omega)],?_⟩;show y∈(plB q.bs).getD ((k:Int)+1-1).toNat [];rw[e,z3w];exact h
theorem v7c {l:List IQ}{y:LId}(h:y∈(plB l).flatten):∃k,k<l.length/\y∈(l.getD k iq0).2:=by
 obtain⟨s,hs,I⟩:=List.mem_flatten.1 h;obtain⟨k,D,rfl⟩:=l31 hs;rw[show (plB l).length=l.length from l15 ..]at D;refine⟨k,D,?_⟩;rw[<-z3w,List.getD,l10 (by rw[show (plB l).length=l.length from l15 ..];exact D)];exact I
theorem j2b {q:BdQ}{y:LId}(h:∀x∈ndP q [false,true],¬0<=y1n ((q.r x.1).getD x.2 iq0).2 y):y∉q.p.flat:=λhy=>by
 have Z:∀a k,k<(q.r a).length->(a,k)∈ndP q [false,true]:=λa k D=>by
  unfold ndP
  refine l74.2 ⟨a,by cases a<;>simp,?_⟩
  unfold ndR
  exact l55.2 ⟨k,l94.2 D,rfl⟩
 rcases l22.1 hy with I|I
 ·obtain⟨k,D,O⟩:=v7c I
  exact h (false,k) (Z _ _ D)<|x8e.2 O
 obtain⟨k,D,O⟩:=v7c I
 exact h (true,k) (Z _ _ D)<|x8e.2 O
end Go.G26
namespace Go.Lw
open Go.RowKit
section
variable {P:Program} {n N:Nat} {L:List (Nat×Value)} {ds:List Nat} {w:World} {R:Ending->World->Prop} {fn:Func} {p pt p2 pt2 g g2:Nat} {T T2:TypeId} {cs:List Value} {z:Value}
theorem rMCN (hr:fn.results=#[.cell p pt,.cell p2 pt2])(hp:look L p=some (pta g))(hb:Blk w g T cs)(hg:z3z P pt cs.length)(a1:look L p2=some (pta g2))(O:Blk w g2 T2 [z])(Z:z2a P pt2)(I:∀D∈ds,w.heap[D]?=some (.deferred<|some []))(a0:ds.Nodup)(k:∀w',Fr ds w w'->R (.returned<|.tuple #[.agg cs.toArray,z]) w'):EW (bodyPostM (Fo none) N P fn R) .ret n ds w L:=λa h=>by
 show LeavesInM _ _ _ _ _ _ a.defers _ _
 rw[h.dfr]
 refine z6w ds w I a0 (λw' hf=>?_) k
 have h1:=h.at_ p _ hp
 have h2:=h.at_ p2 _ a1
 simp only[l47]at h1 h2
 have hc:w'.cell? ⟨g2,0,none⟩=some z:=(y2j O I hf).cells 0 z U
 simp[results,hr,h1,h2,asAddr,loadVar,hg.1 w',hg.2 w',Z w',hc,run_loadCells_list w' _ cs (y2j hb I hf).cells]
end
end Go.Lw
namespace Go.Proofs.YtkafbfjmcigaiaaGreatDoor
open Go.Lw Go.G21 Go.G08 Go.G09 Go.G26 _root_.Go.Proofs.Tryz
theorem j2k (v:Value)(l:List LId)(x:LId)(w0:World)(hs:Sl z1g w0 v l)(hl:l.length<=100000):Rets prog 25 #[v,ivv x] w0 λr w'=>r=.bool (decide (0<=y1n l x))/\Fr [] w0 w':=by
 obtain⟨A,k,rfl,hk⟩:=id hs.form;refine we [(0,.slice A l.length k),(1,ivv x)] func25 U ntmps25 U (.c2 U U) ?_;have I:=hs;refine sr<|bx U<|λg3 w1 Z D O z1=>(asg U<|nn<|sr<|mv U U<|z0l U D z3b ?_);have hs:=I.ext O;refine cl (ev2 U) (mkC func72) (u9z _ l x _ hs hl) U ?_;rintro _ w2 ⟨rfl,q2⟩;exact ge' U<|asg U<|kpL (ll1 4) (csu U)<|nn<|rt<|r1 results25 U ⟨_,rfl,rfl,(O.n1 q2)⟩
theorem u0h (q:BdQ)(y:LId)(w0:World)(hB:BdAt w0 q)(hv:BdOk q.p):Rets prog 9 #[bvv q,ivv y] w0 λr w'=>(∃b p e:Int,r=.tuple #[.agg #[.int .u8 b,.int .i64 p],.int .i64 e]/\(y∈q.p.flat->z4a b p=0/\y∈q.p.at b p))/\Fr [] w0 w':=by
 obtain⟨⟨hf,hb⟩,h4,d3⟩:=z3o hv;refine weM [(0,bvv q),(1,ivv y)] func9 U ntmps9 U (.c2 U U) ?_;have a5:=hB;refine isq<|irg U<|bx U<|λg2 w1 d4 a8 q1 z1=>(bx U<|λg3 w2 d5 a9 q2 z2=>(al v0f U<|λg4 w3 d6 D q3 z3=>(al zv41 U<|λg5 w4 d7 I q4 z4=>(inl<|itn<|isq<|isq<|irg U ?_))));have a8:=a8.ext<|q2.n2 q3 q4;refine z0l U a8 z5e<|cl (ev1 U) (mkC func24) (y3p q _) U ?_;rintro _ w5 ⟨g9,rfl,d1,b3,q5⟩;have z5:=q5.size;refine inl<|itn<|ibl ?_;have c1:∀b∈bdB q,b<w0.heap.size:=BdS.lt a5.s;have hB:=a5.ext<|q1.n4 q2 q3 q4 q5;refine k3l (α:=Bool×Nat) U (mkC func70) dd (y1u 8 g9 q w5 dd b3 hB.s hf hb) (BdS.lt hB.s) (λ_=>rfl) (λx=>[(11,.slice ((q.r x.1).getD x.2 iq0).1.1 ((q.r x.1).getD x.2 iq0).1.2.1 ((q.r x.1).getD x.2 iq0).1.2.2),(10,.agg #[.int .u8 (y1t x.1),.int .i64 ((x.2:Int)+1)])]) (λx=>by simp[ndE,slv]) (λ_=>rfl) (λ(s:List (Bool×Nat)) (W:World)=>Fr [] w5 W/\∀z∈s,¬0<=y1n ((q.r z.1).getD z.2 iq0).2 y) (λ(_:List (Bool×Nat)) (W:World)=>Fr [g4,g5] w5 W/\(∃b p:Int,(z4a b p=0/\y∈q.p.at b p)/\Blk W g4 48 [.int .u8 b,.int .i64 p])/\Blk W g5 41 [.int .i64 0]) (λs W W' ht h=>⟨h.1.turn ht<|l20 _,h.2⟩) (λs W W' ht h=>⟨h.1.turn ht<|l20 _,⟨⟨h.2.1.choose,h.2.1.choose_spec.choose,h.2.1.choose_spec.choose_spec.1,h.2.1.choose_spec.choose_spec.2.turn ht⟩,h.2.2.turn ht⟩⟩) (λs W h=>h.1.size) ⟨l12 _ _,(λz hz=>by cases hz)⟩ 48 (λx=>[.int .u8 (y1t x.1),.int .i64 ((x.2:Int)+1)]) (λg x=>[(6,pta g),(7,.slice ((q.r x.1).getD x.2 iq0).1.1 ((q.r x.1).getD x.2 iq0).1.2.1 ((q.r x.1).getD x.2 iq0).1.2.2)]) (ll3 3 4 5) (csu U) ?_ ?_ ?_ ?_;rintro lN pre x w6 ⟨q6,a2⟩ e3;refine x2y [(10,.agg #[.int .u8 (y1t x.1),.int .i64 ((x.2:Int)+1)]),(11,.slice ((q.r x.1).getD x.2 iq0).1.1 ((q.r x.1).getD x.2 iq0).1.2.1 ((q.r x.1).getD x.2 iq0).1.2.2),(3,_),(4,_),(5,_)] (csu U)<|isq<|irg U<|al v0f U<|λg6 w7 d0 Z q7 z7=>?_;refine z0j (vs:=[_,_]) U Z y3z (λw8 Z q8 z8=>?_) (h1:=t26);exact inl<|itn<|irg U<|asg U<|inl<|asE g6 oo (csu U) Z<|q7.z1 q8;rintro lN pre x g6 w9 d9 d0 Z ⟨q9,a2⟩ e0 e1;have z9:=q9.size;have b9:=Z.lt;have e2:(q.r x.1).length<=40:=by cases x.1<;>assumption
 have e4:=z3y (show y0q (q.r x.1) by cases x.1<;>assumption) x.2;have e5:((q.r x.1).getD x.2 iq0).1.2.1=((q.r x.1).getD x.2 iq0).2.length:=z2e<|z2b (a5.iq x.1) x.2;refine ibl<|isq<|irg U<|mv U U ?_;have a9:=a9.ext<|q3.n3 q4 q5 q9;refine z0l U a9 z3b ?_;have hB:=a5.ext<|q1.n5 q2 q3 q4 q5 q9;refine cl (ev2 U) (mkC func25) (j2k _ ((q.r x.1).getD x.2 iq0).2 y _ (z2b (hB.iq x.1) x.2) oo) U ?_;rintro _ e6 ⟨rfl,a0⟩;have f6:=a0.size;refine inl<|itn<|icd U (λc0=>?_)<|λc0=>?_;refine isq<|irg U ?_;have Z:=Z.ext a0;refine z0l U Z z5o ?_;have D:=D.ext<|q4.n3 q5 q9 a0;refine z0j (vs:=[_,_]) U D y3z (λe7 D b0 f7=>?_) (h1:=t26);have I:=(I.ext<|q5.n2 q9 a0).fr b0;refine z3f U I U k6b<|λe8 I b1 f8=>(inl<|itn<|irt<|rb ?_);have D:=D.fr b1;exact rndR (S:=[g4,g5]) ((l12 [g4,g5] _).z3 a0 b0 b1) (by intro k hk _;right;simp at hk;omega) ⟨((l12 [g4,g5] _).z4 q9 a0 b0 b1),⟨⟨_,_,k0e hv<|x8e.1 c0,D⟩,I⟩⟩;exact isk<|bn'<|j3y (S:=[]) a0 sp0 (λb hb=>l99 (c1 b hb) oo) (λb hb e=>by simp at e) ⟨(q9.n1 a0),(λz hz=>(l22.1 hz).elim (a2 z) (λhz=>by cases l11.1 hz;exact c0))⟩;rintro D1 f5 e9 c9 hS ⟨a4,a2⟩ O;have f9:=a4.size;have a1:=O;have a3:=O.lt;subst hS;refine bn'<|itn<|isq<|irg U<|z1t (cs:=[_,_]) z0f y7r z0r U ?_;have D:=D.ext<|q4.n2 q5 a4;refine z0j (vs:=[_,_]) U D y3z (λf0 D a6 g0=>?_) (h1:=t26);have I:=(I.ext<|q5.n1 a4).fr a6;refine z3f U I U k6b<|λf1 I a7 g1=>(inl<|itn<|irt ?_);have D:=D.fr a7;have O:=a1.fr ((l12 [g4,g5] _).z2 a6 a7) so;refine rMCN results9 U D z5o U I k5y (y9j O) sp0 ?_;intro f2 b5;first|exact⟨_,rfl,⟨b_,p_,_,rfl,λ_=>b4⟩,(((q1.z6 q2 q3 q4 q5 a4 a6).z1 a7).z1 b5)⟩|exact⟨_,rfl,⟨_,_,_,rfl,λh=>absurd h<|j2b a2⟩,(((q1.z6 q2 q3 q4 q5 a4 a6).z1 a7).z1 b5)⟩
 rintro D1 _ f3 c9 _ ⟨b2,⟨⟨b_,p_,b4,D⟩,I⟩⟩ O;have g7:=b2.size;have a1:=O;have a3:=O.lt;have b7:=D.lt;have b8:=I.lt;refine rb<|tr<|rMCN results9 U D z5o U I k5y (y9j O) sp0 ?_;intro f4 b6;first|exact⟨_,rfl,⟨b_,p_,_,rfl,λ_=>b4⟩,(q1.z6 q2 q3 q4 q5 b2 b6)⟩|exact⟨_,rfl,⟨_,_,_,rfl,λh=>absurd h<|j2b a2⟩,(q1.z6 q2 q3 q4 q5 b2 b6)⟩
open Go.Lw Go.G21 Go.G08 _root_.Go.Proofs.Tryz
open Go.Lw Go.G21 Go.G08 Go.G09 Go.G26 _root_.Go.Proofs.Tryz
theorem u5u {l:List MOp}{o:MOp}(h:isP l=true)(ho:isP [o]=true):isP (l++[o])=true:=by
 unfold isP at *;rw[List.all_append,h,ho];rfl
theorem k5u {w':World}{p:MSt}{o:MOp}{N base:Nat}{A:Option Addr}{ws:List Int}{s':StQ}(h:BrR w' p [o] N base A ws s' 0):isP [o]=true:=by
 cases e:isP [o] with
 | true=>rfl
 | false=>exact absurd (h.er 1<|x9m e).1 dd
theorem j8i (s:StQ)(p:MSt)(N:Nat)(M:Option Addr)(cM:Nat)(bs:List UInt8)(w0:World)(Z:StK UK w0 s)(hP:StP s p N)(hN:N<=100)(hs:Sl Enc.b w0 (.slice M bs.length cM) bs)(b3:StT w0):Rets prog 7 #[svv s,.slice M bs.length cM] w0 λr w'=>(∃(A:Option Addr) (l:List MOp) (c:Nat),r=.slice A l.length c/\Lw.Own z3i 50 w0.heap.size w' (.slice A l.length c) l/\isP l=true/\l.length<=24/\∃m,z3d 0 (nrm p) l=.ok m)/\Fr [] w0 w':=by
 have f2:=hs.len_le;unfold maxLen at f2;refine we [(0,svv s),(1,.slice M bs.length cM)] func7 U ntmps7 U (.c2 U U) ?_;have e6:=hs;have d0:=b3;refine sr<|bx U<|λg2 w1 i5 D q1 z1=>(asg U<|nn<|sr<|asg U<|nn<|sq<|sr<|asg U<|nn<|bl ?_);have Z:=Z.ext q1;refine lpK (ι:=Nat×StQ×Value) (ll2 1 2) (λp_=>[(6,.int .i64 (p_.1:Int)),(5,p_.2.2)]) (λp_ w'=>Fr [] w0 w'/\(p_.1<=bs.length/\p_.1<=24)/\Blk w' g2 36 (stL p_.2.1)/\StK UK w' p_.2.1/\∃(l:List MOp) (qi m:MSt),(isP l=true/\l.length<=p_.1/\z3d 0 (nrm p) l=.ok m/\Eqv m qi/\StP p_.2.1 qi (N+p_.1))/\Lw.Own z3i 50 w0.heap.size w' p_.2.2 l) (λp_=>24-p_.1) (0,s,_) (csu U) ⟨q1,⟨⟨l17 _,l17 _⟩,D,Z,[],p,nrm p,⟨rfl,l20 _,rfl,(x8j hP.v).symm,hP⟩,Own.nil _⟩⟩ ?_;rintro⟨i,si,vP⟩ w2 ⟨q2,⟨⟨e1,e2⟩,D,Z,l,qi,m,⟨hil,hll,hru,hE,hPi⟩,ho⟩⟩;simp only at e1 e2 D Z hll hPi ho;have z2:=q2.size;have e7:=D.lt;refine kpC [(1,_),(2,_),(6,.int .i64 (i:Int)),(5,vP)] (csu U)<|sq<|sq<|rbo (r:=23) (L':=ll4 1 2 5 6) ((((i:Int)<(bs.length:Int))/\((i:Int)<24))) (csu U) ?_ ?_;refine mv U U<|mv U U<|lnS U underlying22<|lt' U<|mv U U<|gs 20 U (λg0=>?_)<|λg0=>?_;exact gY U<|mv U U<|gY U<|lt' U<|pkt U<|rbe U<|csu U;exact gN U<|gN U<|pkf U<|rbe U<|csu U;refine tn<|cd U (λc0=>?_)<|λc0=>?_;have a5:g2∉z0v vP:=ho.neB D dd;have f4:=(bs.getD i 0).toNat_lt;refine sk<|tn<|sq<|bl<|sr<|mv U U<|mv U U ?_;have hs:=e6.ext q2;refine z0z (0) U hs U y4n z1j<|λg9 d6=>?_;refine z1b U (d6 _ hs) na5<|u2q U U t69 U<|z3u U (us underlying5) underlying3 (wi6 oo)<|asg U<|kpL (ll5 1 2 5 6 7) (csu U)<|nn<|sr<|mv U U<|y8b U U t38<|z2f U (wi6 oo)<|z1t (cs:=[_,_,_,_,_,_]) (ev2 U) u2s (z0g U<|z0g U z0r) U ?_;refine al u3k U<|λg8 w3 i7 O q3 z3=>?_;refine z0j (vs:=[_,_,_,_,_,_]) U O v3a (λw4 O q4 z4=>?_) (h1:=t24);refine nn<|jn (ι:=MOp) (ll5 1 2 5 6 8) (λo_=>[]) (λo_ w'=>Fr [g8] w4 w'/\Blk w' g8 50 [.int .u8 o_.k,.int .u8 o_.d,.int .u8 o_.b,.int .i64 o_.p,.int .u8 o_.y,.int .i64 o_.r]) (csu U) ?_ ?_;refine sq<|rbo (r:=48) (L':=ll6 1 2 5 6 7 8) ((((((bs.getD i 0).toNat:Int) % 2)=1)/\(0<(si.fb.h.2.1:Int)))) (csu U) ?_ ?_;refine mv U U<|mv U U ?_;have hs:=e6.ext<|q2.z2 q3 q4;refine z0z (0) U hs U y4n z1j<|λh0 d7=>?_;refine z1b U (d7 _ hs) na5<|y8b U U t38<|eq' U<|mv U U<|gs 42 U (λg1=>?_)<|λg1=>?_;refine gY U<|fad U z6t<|gY U<|y7i U z9h U<|gY U ?_;have D:=(D.ext q3).fr q4;exact z0i U D U z6q<|gY U<|lnS U underlying32<|gY U<|gt' U<|pkt U<|rbe U<|csu U;exact gN U<|gN U<|gN U<|gN U<|gN U<|pkf U<|rbe U<|csu U;refine tn<|cd U (λc1=>?_)<|λc1=>?_;have Z:=(Z.ext q3).fr q4 t30;have i8:=z2e Z.at.f.h;have f4:=(bs.getD i 0).toNat_lt;obtain⟨jj,i9⟩:∃jj:Nat,(jj:Int)=((bs.getD i 0).toNat:Int) / 2 % (si.fb.h.2.1:Int):=⟨(((bs.getD i 0).toNat:Int) / 2 % (si.fb.h.2.1:Int)).toNat,Int.toNat_of_nonneg<|Int.emod_nonneg _ oo⟩;have j0:=Int.emod_lt_of_pos (((bs.getD i 0).toNat:Int) / 2) (show (0:Int)<(si.fb.h.2.1:Int) by omega);refine sq ?_;have D:=(D.ext q3).fr q4;intro a h;refine z0h none (λwb w'=>Fr [] wb w') z2s ?_;intro w5 q5;have z5:=q5.size;have D:=D.ext q5;have Z:=Z.ext q5;have hC:Fr [] w5 w5:=l12 _ _;have a1:=D;have b2:=Z;refine z0c 0 h U z9s U λa h=>z1h (vs:=[_,_]) 1 h U (λ_ hw=>(a1.ext hw)) z5e U U λa h=>z0c 2 h U z6t U λa h=>z5a 3 h U z9h U λa h=>z0m 4 h U (λ_ hw=>a1.ext hw) U z6q U λa h=>z0e 5 h U λa h=>z0c 6 h U z6t U λa h=>z5a 7 h U z9h U λa h=>z0m 8 h U (λ_ hw=>a1.ext hw) U z6q U λa h=>z7n 9 hC h wn U underlying32 U λa h=>k1q 10 kr hC h wn U U oo t38 U U λa h=>z1e (p:=jj) (id0) 11 h U Z.at.f.h U z4l U λh2 d9 a h=>z2d 12 h wn U (λ_ hw=>d9 _<|b2.at.f.h.ext hw) z3b U λa h=>z1u 13 17 kr U ?_ ?_;refine z0n h (z0a U<|z0a U z0f) (mkC func9) (u0h si.q (si.fb.hs.getD jj id0) _ Z.at.b (hPi.BE▸hPi.v.inv.B)) ?_;rintro _ w6 ⟨⟨b_,p_,e_,rfl,-⟩,q6⟩ a h;have z6:=q6.size;have hC:=hC.next q6;refine z0b<|z0e 14 h U λa h=>z0k 15 h U λa h=>z0k 16 h U λa h=>z0d 17 U<|z0u h v0f U λw7 a0 q7 hz a h=>?_;obtain⟨d3,hg⟩:∃g,g=w6.heap.size:=⟨_,rfl⟩;rw[<-hg]at a0 h hz;have z7:=q7.size;have Z:=Z.ext<|q6.n1 q7;have hC:=hC.next q7;refine z0b<|z0d 18 U<|z0t h U a0 U y3z ?_ (h1:=t24);intro w8 b4 q8 hz a h;have z8:=q8.size;have Z:=Z.fr q8 t30;have hC:=hC.sp q8;have a0:Blk w8 d3 _ [_,_]:=b4;clear b4;refine z0b<|z0d 19 U<|z0o h U λa h=>?_;refine z0b<|z0q ?_;clear hC a1 b2;refine bk (h.sub (L':=ll6 1 2 5 6 8 9)<|csu U)<|tn<|rg<|z0l U a0 z5o<|z1t (cs:=[_,_,_,_,_,_]) (ev2 U) u2s (z0g U<|z0g U z0r) U ?_;have O:=(O.ext<|q5.n2 q6 q7).fr q8;refine z0j (vs:=[_,_,_,_,_,_]) U O v3a (λw9 O q9 z9=>?_) (h1:=t24);exact nl<|jE (_) (csu U) ⟨((l12 [g8] _).z5 q5 q6 q7 q8 q9),(show Blk _ g8 _ [.int .u8 (⟨7,0,b_,p_,0,0⟩:MOp).k,.int .u8 (⟨7,0,b_,p_,0,0⟩:MOp).d,.int .u8 (⟨7,0,b_,p_,0,0⟩:MOp).b,.int .i64 (⟨7,0,b_,p_,0,0⟩:MOp).p,.int .u8 (⟨7,0,b_,p_,0,0⟩:MOp).y,.int .i64 (⟨7,0,b_,p_,0,0⟩:MOp).r] from O)⟩;refine z0u h v0f U λj5 a0 b5 hz a h=>?_;obtain⟨d3,hg⟩:∃g,g=w5.heap.size:=⟨_,rfl⟩;rw[<-hg]at a0 h hz;have l0:=b5.size;have Z:=Z.ext b5;have hC:=hC.next b5;refine z0b<|z0d 13 U<|z0n h (z0a U<|z0a U z0f) (mkC func9) (u0h si.q (si.fb.hs.getD jj id0) _ Z.at.b (hPi.BE▸hPi.v.inv.B)) ?_;rintro _ j6 ⟨⟨b_,p_,e_,rfl,-⟩,q11⟩ a h;have l1:=q11.size;have Z:=Z.ext q11;have a0:=a0.ext q11;have hC:=hC.next q11;refine z0b<|z0e 14 h U λa h=>z0k 15 h U λa h=>z0k 16 h U λa h=>z0d 18 U<|z0t h U a0 U y3z ?_ (h1:=t24);intro g7 b4 b6 hz a h;have l2:=b6.size;have Z:=Z.fr b6 t30;have hC:=hC.sp b6;have a0:Blk g7 d3 _ [_,_]:=b4;clear b4;refine z0b<|z0d 19 U<|z0o h U λa h=>?_;refine z0b<|z0q ?_;clear hC a1 b2;refine bk (h.sub (L':=ll6 1 2 5 6 8 9)<|csu U)<|tn<|rg<|z0l U a0 z5o<|z1t (cs:=[_,_,_,_,_,_]) (ev2 U) u2s (z0g U<|z0g U z0r) U ?_;have O:=(O.ext<|q5.n2 b5 q11).fr b6;refine z0j (vs:=[_,_,_,_,_,_]) U O v3a (λj7 O g5 l3=>?_) (h1:=t24);exact nl<|jE (_) (csu U) ⟨((l12 [g8] _).z5 q5 b5 q11 b6 g5),(show Blk _ g8 _ [.int .u8 (⟨7,0,b_,p_,0,0⟩:MOp).k,.int .u8 (⟨7,0,b_,p_,0,0⟩:MOp).d,.int .u8 (⟨7,0,b_,p_,0,0⟩:MOp).b,.int .i64 (⟨7,0,b_,p_,0,0⟩:MOp).p,.int .u8 (⟨7,0,b_,p_,0,0⟩:MOp).y,.int .i64 (⟨7,0,b_,p_,0,0⟩:MOp).r] from O)⟩;exact sk<|jE (_) (csu U) ⟨(l12 _ _),(show Blk _ g8 _ [.int .u8 (⟨3,0,0,0,0,((bs.getD i 0).toNat:Int) / 2 % 9-4⟩:MOp).k,.int .u8 (⟨3,0,0,0,0,((bs.getD i 0).toNat:Int) / 2 % 9-4⟩:MOp).d,.int .u8 (⟨3,0,0,0,0,((bs.getD i 0).toNat:Int) / 2 % 9-4⟩:MOp).b,.int .i64 (⟨3,0,0,0,0,((bs.getD i 0).toNat:Int) / 2 % 9-4⟩:MOp).p,.int .u8 (⟨3,0,0,0,0,((bs.getD i 0).toNat:Int) / 2 % 9-4⟩:MOp).y,.int .i64 (⟨3,0,0,0,0,((bs.getD i 0).toNat:Int) / 2 % 9-4⟩:MOp).r] from O)⟩;rintro o j8 ⟨a6,O⟩;have l4:=a6.size;have e8:=O.lt;refine kpC (ll5 1 2 5 6 8) (csu U)<|sr ?_;have D:=((D.ext q3).fr q4).fr a6;refine z0l U D z8f<|z0l U O y3b ?_;have Z:=((Z.ext q3).fr q4 t30).fr a6 t30;have b3:=d0.ext<|q2.z3 q3 q4 a6;refine cl (ev2 U) (mkC func10) (u7t si qi (N+i) o _ Z.at hPi oo b3) U ?_;rintro _ j9 ⟨⟨g6,rfl,c9,d5,h7,e0⟩,q15⟩;have l5:=q15.size;have a9:=c9.k;clear c9;refine mv U U<|xt U<|xt U<|al y7t U<|λi0 k0 h3 b0 a7 l6=>?_;refine z0j (vs:=[_,_,_,_,_,_,_,_]) U b0 z9z (λk1 b0 a8 l7=>?_) (h1:=t24);refine asg U<|kpL (ll7 1 2 5 6 8 11 12) (csu U)<|nn<|sr ?_;have D:=(D.ext<|q15.n1 a7).fr a8;refine z0l U D z8f ?_;have O:=(O.ext<|q15.n1 a7).fr a8;refine z0l U O y3b<|z1i ([o]) (ev1 U) U y5d<|λi2 k2 h5 e3 a2 l8=>?_;have Z:=((Z.ext<|q15.n1 a7).fr a8 t30).ext a2;have b3:=d0.ext<|(q2.z6 q3 q4 a6 q15 a7 a8).n1 a2;refine cl (ev2 U) u2g (z5k si qi (N+i) _ [o] _ Z.at hPi t44 e3.sl b3) U ?_;rintro _ k4 ⟨⟨h8,ws,j3,e9,rfl,hB⟩,q19⟩;have l9:=q19.size;have f8:=hB.o.sl.len_le;unfold maxLen at f8;refine mv U U<|xt U<|xt U<|xt U<|al y7t U<|λi1 k5 h4 d1 a3 m0=>?_;refine asg U<|z0j (vs:=[_,_,_,_,_,_,_,_]) U d1 z9z (λk6 d1 a4 m1=>?_) (h1:=t24);refine asg U<|kpL (ll9 1 2 5 6 8 11 12 13 15) (csu U)<|nn<|sq<|rbo (r:=92) (L':=ll6 1 2 5 6 8 11) (((((u7d<|doM (nrm qi) o)=0)/\(e9=0))/\((ws.length:Int)<=12))) (csu U) ?_ ?_;refine mv U U<|eq' U<|mv U U<|gs 84 U (λg2=>?_)<|λg2=>?_;refine gY U<|mv U U<|gY U<|eq' U<|pkt U<|mv U U<|gs 88 U (λg3=>?_)<|λg3=>?_;exact gY U<|mv U U<|gY U<|lnS U underlying58<|gY U<|le' U U<|pkt U<|rbe U<|csu U;exact gN U<|gN U<|gN U<|pkf U<|rbe U<|csu U;exact gN U<|gN U<|pkf U<|mv U U<|gN U<|gN U<|gN U<|pkf U<|rbe U<|csu U;refine tn<|cd U (λc2=>?_)<|λc2=>?_;obtain⟨⟨f9,g4⟩,j2⟩:=c2;obtain⟨r',e5⟩:=e0 f9;have d4:=d5 r' e5;obtain⟨m',f6,f1⟩:=u0m (hE.trans<|x8j hPi.v).symm e5;rw[g4]at hB;have f5:=k5u hB;refine sr ?_;have b0:=(b0.ext<|a2.n2 q19 a3).fr a4;refine z0l U b0 z8f ?_;have D:=(D.ext<|a2.n2 q19 a3).fr a4;refine z0j (vs:=[_,_,_,_,_,_,_,_]) U D z9z (λk7 D b7 m2=>?_) (h1:=t24);refine nn<|rg<|mv U U ?_;have O:=((O.ext<|a2.n2 q19 a3).fr a4).fr b7;refine z0l U O y3b<|z1i ([o]) (ev1 U) U y5d<|λi3 k8 h6 e4 b8 m3=>?_;have D:=D.ext b8;have a9:=(((((a9.ext a7).fr a8 t30).ext<|a2.n2 q19 a3).fr a4 t30).fr b7 t30).ext b8;have ho:=((((((((ho.ext q3).fr q4 (by intro k I hb;rw[l11]at I;subst I;first|exact a5 hb|(have:=ho.blk _ hb;omega))).fr a6 (by intro k I hb;rw[l11]at I;subst I;first|exact a5 hb|(have:=ho.blk _ hb;omega))).ext<|q15.n1 a7).fr a8 (by intro k I hb;rw[l11]at I;subst I;first|exact a5 hb|(have:=ho.blk _ hb;omega))).ext<|a2.n2 q19 a3).fr a4 (by intro k I hb;rw[l11]at I;subst I;first|exact a5 hb|(have:=ho.blk _ hb;omega))).fr b7 (by intro k I hb;rw[l11]at I;subst I;first|exact a5 hb|(have:=ho.blk _ hb;omega))).ext b8;have b1:=ho;refine z2h U ho e4.sl y5d<|λj4 k9 ho b9 f7=>?_;have m4:=b9.size;have D:=D.fr b9<|λI=>b1.neB D dd I;have a9:=a9.fr b9 (λk_ f0 _=>by obtain⟨h9,f3⟩:=y0d b1 k_ f0;exact⟨_,_,f3,dd⟩);exact asg U<|nl<|bn'<|tn<|rg<|mv U U<|z0w U (wi6 oo)<|asg U<|nl<|lpE ((i+1,g6,_)) (csu U) ⟨(((((q2.z6 q3 q4 a6 q15 a7 a8).n1 a2).n1 q19).z4 a3 a4 b7 b8).step b9<|λk I j1=>absurd (b1.blk k I).1 oo),⟨⟨sm,sm⟩,D,a9,l++[o],r',m',⟨u5u hil f5,t71,x1y hru f6,f1.symm,by rw[<-Nat.add_assoc];exact d4⟩,ho⟩⟩ sm;refine sk<|bn'<|tn<|rg<|mv U U<|z0w U (wi6 oo)<|asg U<|nl ?_;have D:=(D.ext<|a2.n2 q19 a3).fr a4;have Z:=(Z.ext<|q19.n1 a3).fr a4 t30;have ho:=((((((ho.ext q3).fr q4 (by intro k I hb;rw[l11]at I;subst I;first|exact a5 hb|(have:=ho.blk _ hb;omega))).fr a6 (by intro k I hb;rw[l11]at I;subst I;first|exact a5 hb|(have:=ho.blk _ hb;omega))).ext<|q15.n1 a7).fr a8 (by intro k I hb;rw[l11]at I;subst I;first|exact a5 hb|(have:=ho.blk _ hb;omega))).ext<|a2.n2 q19 a3).fr a4 (by intro k I hb;rw[l11]at I;subst I;first|exact a5 hb|(have:=ho.blk _ hb;omega));exact lpE ((i+1,si,_)) (csu U) ⟨((((q2.z6 q3 q4 a6 q15 a7 a8).n1 a2).n1 q19).z2 a3 a4),⟨⟨sm,sm⟩,D,Z,l,qi,m,⟨hil,sm,hru,hE,hPi.mono sm⟩,ho⟩⟩ sm;obtain⟨A5,c5,rfl,i4⟩:=ho.sl.form;exact ex<|te<|te<|xh<|tn<|sr<|mv U U<|asg U<|kpL (ll1 4) (csu U)<|nn<|rt<|r1 results7 U ⟨_,rfl,⟨A5,l,c5,rfl,ho,hil,oo,m,hru⟩,q2⟩
end Go.Proofs.YtkafbfjmcigaiaaGreatDoor
namespace Go.G26
open Go.Lw Go.G21 Go.G08 Go.G09
theorem x0d {p q:MSt}{l:List MOp}(hv:MVal p)(hs:isP l=true)(hr:z3d 0 p l=.ok q)(h4:l.length<=4096)(h8:p.B.flat.length<=8){n:Nat}(hn:(z3v p).length=n) :
    ∃u:List Int,(z4f p (z3v p,[]) l).2=u/\(64<u.length->z2j p l=.error 3)/\(u.length<=64->z2j p l=.ok (u,q))/\(∀k∈u,1<=k.natAbs/\k.natAbs<n)/\(n=0->u=[])/\(z3v q).length=n/\
      (∀i,i<n->1<=(j1m<|flw (List.range n) u).getD i 0/\(j1m<|flw (List.range n) u).getD i 0<=n/\(z3v q).getD ((j1m<|flw (List.range n) u).getD i 0-1) id0=(z3v p).getD i id0)/\
      ∀i k,i<n->k<n->i≠k->lkC q.cr ((z3v p).getD i id0) ((z3v p).getD k id0)=lkC p.cr ((z3v p).getD i id0) ((z3v p).getD k id0)+lkM n u u.length i k:=by
  have ho:z3v p=(List.range n).map λi=>(z3v p).getD i id0:=by
    refine l65 (by simp[hn]) λi h1 h2=>?_
    rw[l76,l139,List.getD,l10 h1];rfl
  have hk:∀o∈l,o.k=3\/o.k=7:=λo ho=>by
    have:=l127.1 hs o ho
    simp only[decide_eq_true_eq]at this
    exact this.1
  obtain⟨u,a1,a2,Z⟩:=x0m (w:=[]) hv.inv hk hr ho sp0
  simp only[l45]at a1 a2
  have D:=Z.bd
  rw[l135]at D
  have O:n=0->u=[]:=λe=>by
    cases u with
    | nil=>rfl
    | cons x u=>have:=D x l39;omega
  have I:y0v p l=if u.length<=64 then some u else none:=by
    unfold y0v
    by_cases c:z2k p.B p.rk=[]
    · have e:n=0:=by rw[<-hn];unfold z3v;rw[c];rfl
      rw[if_pos c,O e];rfl
    · rw[if_neg c,a1]
      by_cases k:u.length<=64
      · rw[if_pos k,if_pos k];rfl
      · rw[if_neg k,if_neg k];rfl
  have hb:∀x,y0v p l=x->z2j p l=match x with
      | none=>.error 3
      | some w=>.ok (w,q):=λx hx=>by
    unfold z2j
    rw[if_neg (by rw[hs];decide),if_neg oo,if_neg oo,hr]
    show (match y0v p l with
      | none=>_
      | some w=>_)=_
    rw[hx]
    all_goals (cases x<;>rfl)
  have hfl:(flw (List.range n) u).length=n:=by rw[x6s,l135]
  have a0:(flw (List.range n) u).Perm (List.range (flw (List.range n) u).length):=by
    rw[hfl]
    exact v1s λk hm=>by rw[l135];exact D k hm
  refine⟨u,by rw[a2],λh=>?_,λh=>?_,D,O,by rw[Z.ord,l15,hfl],λi hi=>?_,λi k hi hk a4=>?_⟩
  · rw[if_neg oo]at I;exact hb _ I
  · rw[if_pos h]at I;exact hb _ I
  · have:=z7r a0 (f:=λi=>(z3v p).getD i id0) (i:=i) (by rw[hfl];exact hi)
    rw[hfl]at this
    rw[Z.ord];exact this
  · rw[Z.lk i k (l94.2 hi) (l94.2 hk) λe=>?_]
    · show _=_+lnk (List.range n) (u.take u.length) i k
      rw[l38]
    · have hd:=x5e hv.inv
      rw[List.getD,l10 oo,List.getD,l10 oo]at e
      exact a4<|(List.getElem_inj (h₀:=by omega) (h₁:=by omega) hd).1 e
end Go.G26
namespace Go.G26
def v9n (n:Nat)(f:List UInt8):Prop:=f.length=n/\f.Nodup/\∀x∈f,1<=x.toNat/\x.toNat<=n
def y3c:List UInt8->Nat
  | []=>0
  | x::l=>l.countP (λy=>decide (y<x))+y3c l
def swK (k:Nat)(x:UInt8):UInt8:=if x.toNat=k then UInt8.ofNat (k+1) else if x.toNat=k+1 then UInt8.ofNat k else x
def swA (f:List UInt8)(k:Nat):List UInt8:=(f.set (k-1)<|f.getD k 0).set k<|f.getD (k-1) 0
def flF (n:Nat)(f:List UInt8):List UInt8:=(f.map λx=>UInt8.ofNat (n+1)-x).reverse
theorem y7b {k:Nat}(D:k<200)(x:UInt8):(swK k x).toNat=if x.toNat=k then k+1 else if x.toNat=k+1 then k else x.toNat:=by
 unfold swK;split;rw[l37];omega;split;rw[l37];omega;rfl
theorem x3d {l:List UInt8}{p q:UInt8->Bool}(h:∀x∈l,p x=true->q x=true):l.countP p<=l.countP q:=List.countP_mono_left h
theorem j1l {k:Nat}(D:k<200)(x y:UInt8):swK k y<swK k x↔(swK k y).toNat<(swK k x).toNat:=l90
theorem j7t {l:List UInt8}(h:l.Nodup)(k:Nat)(hk:k<200)(p:UInt8->Bool)(x:UInt8)(hx:x.toNat=k)(hp:∀y∈l,p (swK k y)=true->y<x\/y.toNat=k+1):(l.map<|swK k).countP p<=l.countP (λy=>decide (y<x))+1:=by
 induction l with
 | nil=>simp
 | cons a l ih=>
  have Z:=l112.1 h;rw[l28,List.countP_cons,List.countP_cons];by_cases ha:a.toNat=k+1;have:(l.map<|swK k).countP p<=l.countP (λy=>decide (y<x)):=by
   rw[List.countP_map];refine x3d λy I O=>?_;rcases hp y (l41 _ I) O with D|D
   exact decide_eq_true D;exact absurd (UInt8.toNat.inj (D.trans ha.symm)▸I) Z.1
  split<;>omega
  have:=ih Z.2<|λy I=>hp y<|l41 _ I;have h3:p (swK k a)=true->decide (a<x)=true:=λO=>by
   rcases hp a l39 O with D|D
   exact decide_eq_true D;exact absurd D ha
  by_cases h4:p (swK k a)=true;rw[if_pos h4,if_pos (h3 h4)];omega;rw[if_neg h4];omega
theorem v6d {k:Nat}(D:k<200):∀ {l:List UInt8},l.Nodup->y3c (l.map<|swK k)<=y3c l+(if ∃x∈l,x.toNat=k then 1 else 0)
 | [],_=>by simp[y3c]
 | x::l,h=>by
  have hd:=l112.1 h
  have ih:=v6d D hd.2
  simp only[l28,y3c]
  by_cases hx:x.toNat=k
  ·have a1:¬ ∃y∈l,y.toNat=k:=λ⟨y,O,e⟩=>hd.1 (UInt8.toNat.inj (hx.trans e.symm)▸O)
   rw[if_neg a1]at ih
   rw[if_pos ⟨x,l39,hx⟩]
   have:=j7t hd.2 k D (λy=>decide (y<swK k x)) x hx (λy O Z=>by
    have I:=of_decide_eq_true Z
    rw[j1l D,y7b D,y7b D,if_pos hx]at I
    rw[l90]
    have a0:y.toNat≠k:=λe=>a1 ⟨y,O,e⟩
    rw[if_neg a0]at I
    split at I<;>omega)
   omega
  have I:(l.map<|swK k).countP (λy=>decide (y<swK k x))<=l.countP (λy=>decide (y<x)):=by
   rw[List.countP_map]
   refine x3d λy O Z=>?_
   have I:=of_decide_eq_true Z
   rw[j1l D,y7b D,y7b D,if_neg hx]at I
   refine decide_eq_true<|l90.2 ?_
   have a0:y.toNat≠x.toNat:=λe=>hd.1 (UInt8.toNat.inj e▸O)
   repeat' split at I
   all_goals omega
  have h2:(if ∃y∈l,y.toNat=k then 1 else 0)<=(if ∃y∈x::l,y.toNat=k then 1 else 0:Nat):=by
   split
   ·rename_i Z
    rw[if_pos (by obtain⟨y,O,e⟩:=Z;exact⟨y,l41 _ O,e⟩)];exact l20 _
   omega
  omega
theorem k2y {n k:Nat}{f:List UInt8}(h:v9n n f)(D:k<n)(hn:n<=8):y3c (f.map<|swK k)<=y3c f+1:=by
 have:=v6d (k:=k) oo h.2.1;split at this<;>omega
theorem v8f {f:List UInt8}{k:Nat}(Z:1<=k/\k<f.length):∃(u v:List UInt8) (x y:UInt8),f=u++x::y::v/\u.length=k-1/\swA f k=u++y::x::v/\f.getD (k-1) 0=x/\f.getD k 0=y:=by
 have O:k-1<f.length:=by omega
 have e:f=f.take (k-1)++f[k-1]::f[k]::f.drop (k+1):=by
  have D:f.drop (k-1)=f[k-1]::f.drop (k-1+1):=(l32 O);rw[show k-1+1=k by omega,l32 Z.2]at D;rw[<-D,l25]
 have hl:(f.take<|k-1).length=k-1:=by rw[l27];omega
 have I:f.getD (k-1) 0=f[k-1]:=by rw[List.getD,l10 O];rfl
 have g2:f.getD k 0=f[k]:=by rw[List.getD,l10 Z.2];rfl
 refine⟨f.take<|k-1,f.drop<|k+1,f[k-1],f[k],e,hl,?_,I,g2⟩;unfold swA;rw[I,g2];generalize hx:f[k-1]=x at e;generalize hy:f[k]=y at e;generalize f.take (k-1)=u at e hl;generalize f.drop (k+1)=v at e;subst e;rw[l52 _ _ oo,hl,l80,l138,l52 _ _ oo,hl,show k-(k-1)=1 by omega,List.set_cons_succ,l138]
theorem j5e (u:List UInt8):∀ {a b:List UInt8},a.Perm b->y3c b<=y3c a->∀ {t:Nat},y3c b+t<=y3c a->y3c (u++b)+t<=y3c (u++a):=by
 induction u with
 | nil=>intro a b _ _ t h;exact h
 | cons x u ih=>
  intro a b p h t D;simp only[l48,y3c];have:=ih p h D;rw[((p.append_left u).countP_eq (λy=>decide (y<x)))];omega
theorem j6o {f:List UInt8}{k:Nat}(hk:1<=k/\k<f.length)(D:f.getD k 0<f.getD (k-1) 0):y3c (swA f k)+1<=y3c f:=by
 obtain⟨u,v,x,y,I,-,O,Z,e4⟩:=v8f hk;rw[Z,e4]at D;rw[O,I];have hx:¬x<y:=by rw[l90]at D ⊢;omega
 have:y3c (y::x::v)+1<=y3c (x::y::v):=by
  simp only[y3c,List.countP_cons];rw[if_pos (decide_eq_true D),if_neg (by simpa using hx)];omega
 exact j5e u (List.Perm.swap y x v) oo this
def idN (n:Nat):List UInt8:=(List.range n).map λi=>UInt8.ofNat<|i+1
def hfN (n:Nat):List UInt8:=(List.range n).map λi=>UInt8.ofNat<|n-i
end Go.G26
namespace Go.G26
structure Pm (n:Nat) where
  f:Fin n->Fin n
  b:Fin n->Fin n
  fb:∀x,f (b x)=x
  bf:∀x,b (f x)=x
abbrev Lt (n:Nat):={k:Nat // k+1<n}
abbrev Lt.lo {n:Nat}(k:Lt n):Fin n:=⟨k.1,by have:=k.2;omega⟩
abbrev Lt.hi {n:Nat}(k:Lt n):Fin n:=⟨k.1+1,k.2⟩
def swL {n:Nat}(k:Lt n)(x:Fin n):Fin n:=if x=k.lo then k.hi else if x=k.hi then k.lo else x
section
variable {n:Nat}
theorem k8o (k:Lt n):k.hi≠k.lo:=λe=>by have:=congrArg Fin.val e;simp at this
theorem y8a (k:Lt n):swL k k.lo=k.hi:=if_pos U
theorem y7u (k:Lt n):swL k k.hi=k.lo:=by unfold swL;rw[if_neg (k8o k),if_pos U]
theorem z5r {k:Lt n}{x:Fin n}(h1:x≠k.lo)(D:x≠k.hi):swL k x=x:=by unfold swL;rw[if_neg h1,if_neg D]
theorem v8j (k:Lt n)(x:Fin n):swL k (swL k x)=x:=by
 by_cases h1:x=k.lo;rw[h1,y8a,y7u];by_cases h2:x=k.hi;rw[h2,y7u,y8a];rw[z5r h1 h2,z5r h1 h2]
namespace Pm
theorem ext {p q:Pm n}(h:∀x,p.f x=q.f x):p=q:=by
 obtain⟨f,b,fb,bf⟩:=p;obtain⟨f',I,D,O⟩:=q;have e:f=f':=funext h;subst e;have Z:b=I:=funext λx=>by rw[<-D x,bf,D]
 subst Z;rfl
def one:Pm n:=⟨λx=>x,λx=>x,λ_=>rfl,λ_=>rfl⟩
def half:Pm n:=⟨Fin.rev,Fin.rev,Fin.rev_rev,Fin.rev_rev⟩
def sL (k:Lt n)(p:Pm n):Pm n:=⟨λx=>p.f<|swL k x,λx=>swL k<|p.b x,λx=>by rw [v8j,p.fb],λx=>by rw [p.bf,v8j]⟩
def sR (k:Lt n)(p:Pm n):Pm n:=⟨λx=>swL k<|p.f x,λx=>p.b<|swL k x,λx=>by rw [p.fb,v8j],λx=>by rw [v8j,p.bf]⟩
def flip (p:Pm n):Pm n:=⟨λx=>(p.f x.rev).rev,λx=>(p.b x.rev).rev,λx=>by rw [Fin.rev_rev,p.fb,Fin.rev_rev],λx=>by rw [Fin.rev_rev,p.bf,Fin.rev_rev]⟩
def mul (p q:Pm n):Pm n:=⟨λx=>q.f<|p.f x,λx=>p.b<|q.b x,λx=>by rw [p.fb,q.fb],λx=>by rw [q.bf,p.bf]⟩
def Sb (p:Pm n)(k:Lt n):Prop:=p.f k.hi<p.f k.lo
def Eb (p:Pm n)(k:Lt n):Prop:=p.b k.hi<p.b k.lo
theorem flip_flip (p:Pm n):p.flip.flip=p:=ext λx=>by show (p.f x.rev.rev).rev.rev=_;rw[Fin.rev_rev,Fin.rev_rev]
theorem u8l (k:Lt n)(p q:Pm n):(sR k p).mul (sL k q)=p.mul q:=ext λx=>by show q.f (swL k<|swL k<|p.f x)=_;rw[v8j];rfl
theorem f_inj (p:Pm n){x y:Fin n}(h:p.f x=p.f y):x=y:=by rw[<-p.bf x,h,p.bf]
theorem b_inj (p:Pm n){x y:Fin n}(h:p.b x=p.b y):x=y:=by rw[<-p.fb x,h,p.fb]
end Pm
open Pm
inductive Mv:List (Pm n)->List (Pm n)->Prop
  | here {f g:Pm n} {r:List (Pm n)} (k:Lt n) (hs:Sb g k) (he:¬Eb f k):Mv (f::g::r) (sR k f::sL k g::r)
  | next {f:Pm n} {l m:List (Pm n)}:Mv l m->Mv (f::l) (f::m)
inductive Mvs:List (Pm n)->List (Pm n)->Prop
  | refl {l:List (Pm n)}:Mvs l l
  | cons {l m r:List (Pm n)}:Mv l m->Mvs m r->Mvs l r
theorem Mvs.one {l m:List (Pm n)}(h:Mv l m):Mvs l m:=.cons h .refl
theorem Mvs.trans {l m r:List (Pm n)}(h:Mvs l m)(D:Mvs m r):Mvs l r:=by
 induction h with
 | refl=>exact D
 | cons a _ ih=>exact .cons a<|ih D
theorem Mvs.next {f:Pm n}{l m:List (Pm n)}(h:Mvs l m):Mvs (f::l) (f::m):=by
 induction h with
 | refl=>exact .refl
 | cons a _ ih=>exact .cons (.next a) ih
theorem Mv.app {l m:List (Pm n)}(h:Mv l m)(r:List (Pm n)):Mv (l++r) (m++r):=by
 induction h with
 | here k hs he=>exact .here k hs he
 | next _ ih=>exact .next ih
theorem Mvs.app {l m:List (Pm n)}(h:Mvs l m)(r:List (Pm n)):Mvs (l++r) (m++r):=by
 induction h with
 | refl=>exact .refl
 | cons a _ ih=>exact .cons (a.app r) ih
theorem Mvs.pre {l m:List (Pm n)}(h:Mvs l m):∀u:List (Pm n),Mvs (u++l) (u++m)
 | []=>h
 | _::u=>(Mvs.pre h u).next
theorem Mvs.len {l m:List (Pm n)}(h:Mvs l m):m.length=l.length:=by
 have one:∀ {l m:List (Pm n)},Mv l m->m.length=l.length:=λh=>by induction h with
  | here=>rfl
  | next _ ih=>simp[ih]
 induction h with
 | refl=>rfl
 | cons a _ ih=>rw[ih,one a]
theorem y5z {p:Pm n}{k:Lt n}:¬Eb p k↔p.b k.lo<p.b k.hi:=by
 unfold Eb;have:p.b k.hi≠p.b k.lo:=λe=>k8o k<|p.b_inj e;have D:(p.b k.hi).1≠(p.b k.lo).1:=λe=>this<|l108 e;rw[l115,l115];omega
theorem j9w {p:Pm n}{k:Lt n}:¬Sb p k↔p.f k.lo<p.f k.hi:=by
 unfold Sb;have:p.f k.hi≠p.f k.lo:=λe=>k8o k<|p.f_inj e;have D:(p.f k.hi).1≠(p.f k.lo).1:=λe=>this<|l108 e;rw[l115,l115];omega
theorem x5o {f g:Pm n}{r:List (Pm n)}{j k:Lt n}(hk:Sb g k)(ek:¬Eb f k)(hj:Sb g j)(ej:¬Eb f j)(a5:j.1<k.1) :
    ∃d,Mvs (sR k f::sL k g::r) d/\Mvs (sR j f::sL j g::r) d:=by
  by_cases hc:k.1=j.1+1
  · have O:k.lo=j.hi:=l108 hc
    have n1:j.lo≠k.lo:=λe=>by have:=congrArg Fin.val e;simp at this;omega
    have n2:j.lo≠k.hi:=λe=>by have:=congrArg Fin.val e;simp at this;omega
    have n3:k.hi≠j.lo:=n2.symm
    have n4:k.hi≠j.hi:=λe=>by have:=congrArg Fin.val e;simp at this;omega
    have a1:swL j j.lo=k.lo:=by rw[y8a,O]
    have Z:swL j k.lo=j.lo:=by rw[O,y7u]
    have D:swL j k.hi=k.hi:=z5r n3 n4
    have I:swL k j.lo=j.lo:=z5r n1 n2
    have b2:swL k k.lo=k.hi:=y8a k
    have b3:swL k k.hi=k.lo:=y7u k
    rw[y5z]at ek ej
    unfold Sb at hk hj
    rw[<-O]at hj ej
    have a4:∀x:Fin n,swL k (swL j<|swL k x)=swL j (swL k<|swL j x):=λx=>by
      by_cases x1:x=j.lo
      · subst x1;rw[I,a1,b2,D]
      · by_cases x2:x=k.lo
        · subst x2;rw[b2,D,b3,Z,I,a1]
        · by_cases x3:x=k.hi
          · subst x3;rw[b3,Z,I,D,b3,Z]
          · rw[z5r x2 x3,z5r x1 (by rw[<-O];exact x2),z5r x2 x3,z5r x1 (by rw[<-O];exact x2)]
    refine⟨sR k (sR j<|sR k f)::sL k (sL j<|sL k g)::r,?_,?_⟩
    · refine .cons (.here j ?_ ?_) (.one<|.here k ?_ ?_)
      · show g.f (swL k j.hi)<g.f (swL k j.lo)
        rw[<-O,b2,I];exact Fin.lt_trans hk hj
      · rw[y5z];show f.b (swL k j.lo)<f.b (swL k j.hi)
        rw[<-O,b2,I];exact Fin.lt_trans ej ek
      · show g.f (swL k<|swL j k.hi)<g.f (swL k<|swL j k.lo)
        rw[D,Z,b3,I];exact hj
      · rw[y5z];show f.b (swL k<|swL j k.lo)<f.b (swL k<|swL j k.hi)
        rw[D,Z,b3,I];exact ej
    · have e2:sR k (sR j<|sR k f)=sR j (sR k<|sR j f):=ext λx=>a4 (f.f x)
      have e3:sL k (sL j<|sL k g)=sL j (sL k<|sL j g):=ext λx=>congrArg g.f<|a4 x
      rw[e2,e3]
      refine .cons (.here k ?_ ?_)<|.one<|.here j ?_ ?_
      · show g.f (swL j k.hi)<g.f (swL j k.lo)
        rw[D,Z];exact Fin.lt_trans hk hj
      · rw[y5z];show f.b (swL j k.lo)<f.b (swL j k.hi)
        rw[D,Z];exact Fin.lt_trans ej ek
      · show g.f (swL j<|swL k j.hi)<g.f (swL j<|swL k j.lo)
        rw[<-O,b2,I,D,a1];exact hk
      · rw[y5z];show f.b (swL j<|swL k j.lo)<f.b (swL j<|swL k j.hi)
        rw[<-O,b2,I,D,a1];exact ek
  · have n1:j.lo≠k.lo:=λe=>by have:=congrArg Fin.val e;simp at this;omega
    have n2:j.lo≠k.hi:=λe=>by have:=congrArg Fin.val e;simp at this;omega
    have n3:j.hi≠k.lo:=λe=>by have:=congrArg Fin.val e;simp at this;omega
    have n4:j.hi≠k.hi:=λe=>by have:=congrArg Fin.val e;simp at this;omega
    have a0:∀x:Fin n,swL j (swL k x)=swL k (swL j x):=λx=>by
      by_cases x1:x=j.lo
      · subst x1;rw[z5r n1 n2,y8a,z5r n3 n4]
      · by_cases x2:x=j.hi
        · subst x2;rw[z5r n3 n4,y7u,z5r n1 n2]
        · by_cases x3:x=k.lo
          · subst x3;rw[y8a,z5r n2.symm n4.symm,z5r n1.symm n3.symm,y8a]
          · by_cases x4:x=k.hi
            · subst x4;rw[y7u,z5r n1.symm n3.symm,z5r n2.symm n4.symm,y7u]
            · rw[z5r x3 x4,z5r x1 x2,z5r x3 x4]
    have e2:sR k (sR j f)=sR j (sR k f):=ext λx=>(a0<|f.f x).symm
    have e3:sL k (sL j g)=sL j (sL k g):=ext λx=>congrArg g.f<|a0 x
    refine⟨sR j (sR k f)::sL j (sL k g)::r,.one<|.here j ?_ ?_,?_⟩
    · show g.f (swL k j.hi)<g.f (swL k j.lo)
      rw[z5r n3 n4,z5r n1 n2];exact hj
    · rw[y5z]at ej ⊢;show f.b (swL k j.lo)<f.b (swL k j.hi)
      rw[z5r n3 n4,z5r n1 n2];exact ej
    · rw[<-e2,<-e3]
      refine .one<|.here k ?_ ?_
      · show g.f (swL j k.hi)<g.f (swL j k.lo)
        rw[z5r n2.symm n4.symm,z5r n1.symm n3.symm];exact hk
      · rw[y5z]at ek ⊢;show f.b (swL j k.lo)<f.b (swL j k.hi)
        rw[z5r n2.symm n4.symm,z5r n1.symm n3.symm];exact ek
theorem k3w {g:Pm n}{j k:Lt n}(hk:Sb g k)(D:¬Eb g j):Sb (sR j g) k:=by
 rw[y5z]at D
 unfold Sb at hk ⊢
 show swL j (g.f k.hi)<swL j (g.f k.lo)
 have I:¬(g.f k.hi=j.lo/\g.f k.lo=j.hi):=λ⟨h1,h2⟩=>by
  rw[<-h1,<-h2,g.bf,g.bf]at D
  have:k.1+1<k.1:=D
  omega
 have a0:(g.f k.hi).1<(g.f k.lo).1:=hk
 generalize g.f k.hi=x at *
 generalize g.f k.lo=y at *
 rw[l115]
 unfold swL
 have hx:(x=j.lo)=(x.1=j.1):=propext ⟨λe=>t18,λe=>l108 e⟩
 have O:(x=j.hi)=(x.1=j.1+1):=propext ⟨λe=>t18,λe=>l108 e⟩
 have hy:(y=j.lo)=(y.1=j.1):=propext ⟨λe=>t18,λe=>l108 e⟩
 have Z:(y=j.hi)=(y.1=j.1+1):=propext ⟨λe=>t18,λe=>l108 e⟩
 simp only[hx,O,hy,Z]at I ⊢
 repeat' split
 all_goals first|omega|(simp only;omega)
theorem k3h {g:Pm n}{j k:Lt n}(D:Sb g k)(ej:¬Eb g j):¬Eb (sL k g) j:=by
 rw[y5z]at ej ⊢
 show swL k (g.b j.lo)<swL k (g.b j.hi)
 have I:¬(g.b j.lo=k.lo/\g.b j.hi=k.hi):=λ⟨h1,h2⟩=>by
  unfold Sb at D
  rw[<-h1,<-h2,g.fb,g.fb]at D
  have:j.1+1<j.1:=D
  omega
 have a0:(g.b j.lo).1<(g.b j.hi).1:=ej
 generalize g.b j.lo=x at *
 generalize g.b j.hi=y at *
 rw[l115]
 unfold swL
 have hx:(x=k.lo)=(x.1=k.1):=propext ⟨λe=>t18,λe=>l108 e⟩
 have O:(x=k.hi)=(x.1=k.1+1):=propext ⟨λe=>t18,λe=>l108 e⟩
 have hy:(y=k.lo)=(y.1=k.1):=propext ⟨λe=>t18,λe=>l108 e⟩
 have Z:(y=k.hi)=(y.1=k.1+1):=propext ⟨λe=>t18,λe=>l108 e⟩
 simp only[hx,O,hy,Z]at I ⊢
 repeat' split
 all_goals first|omega|(simp only;omega)
theorem conf {a b c:List (Pm n)}(h:Mv a b)(O:Mv a c):∃d,Mvs b d/\Mvs c d:=by
 induction h generalizing c with
 | @here f g r k hs he=>
  match O with
  | .here j hj ej=>
   rcases Nat.lt_trichotomy j.1 k.1 with hl|hl|hl
   ·exact x5o hs he hj ej hl
   ·obtain rfl:j=k:=Subtype.ext hl
    exact⟨_,.refl,.refl⟩
   obtain⟨d,D,I⟩:=x5o (r:=r) hj ej hs he hl
   exact⟨d,I,D⟩
  | .next (.here j hj ej)=>exact⟨_,.one<|.next<|.here j hj<|k3h hs ej,.one<|.here k (k3w hs ej) he⟩
  | .next (.next hn)=>exact⟨_,.one<|.next<|.next hn,.one<|.here k hs he⟩
 | @next f l m hm ih=>
  cases O with
  | next hn=>
   obtain⟨d,D,I⟩:=ih hn
   exact⟨_,D.next,I.next⟩
  | here k hs he=>
   cases hm with
   | here j hj ej=>exact⟨_,.one<|.here k (k3w hs ej) he,.one<|.next<|.here j hj<|k3h hs ej⟩
   | next hn=>exact⟨_,.one<|.here k hs he,.one<|.next<|.next hn⟩
def Pm.l (p:Pm n):List UInt8:=List.ofFn λx=>UInt8.ofNat<|(p.f x).1+1
def Pm.bl (p:Pm n):List UInt8:=List.ofFn λx=>UInt8.ofNat (p.b x).1
theorem z2m (p:Pm n):p.l.length=n:=List.length_ofFn
theorem x4g (p:Pm n):p.bl.length=n:=List.length_ofFn
theorem y5q (p:Pm n){i:Nat}(h:i<n):p.l.getD i 0=UInt8.ofNat ((p.f ⟨i,h⟩).1+1):=by
 rw[List.getD,l10 (by rw[z2m];exact h)];exact List.getElem_ofFn ..
theorem u1g (p:Pm n){i:Nat}(h:i<n):p.bl.getD i 0=UInt8.ofNat (p.b ⟨i,h⟩).1:=by
 rw[List.getD,l10 (by rw[x4g];exact h)];exact List.getElem_ofFn ..
theorem v1l (p:Pm n){i:Nat}(h:i<n){D:i<p.l.length}:p.l[i]=UInt8.ofNat ((p.f ⟨i,h⟩).1+1):=List.getElem_ofFn ..
theorem y8o {n:Nat}{a b:List UInt8}(O:a.length=n)(hb:b.length=n)(h:∀i,i<n->a.getD i 0=b.getD i 0):a=b:=by
 refine l65 (O.trans hb.symm) λi D I=>?_;have:=h i oo;rw[List.getD,List.getD,l10 D,l10 I]at this;exact this
theorem x5v (hn:n<=8)(p:Pm n):v9n n p.l:=by
 refine⟨z2m p,l83.2 λi j D I Z e=>?_,λx hx=>?_⟩;rw[z2m]at D I;have O:=congrArg UInt8.toNat<|(v1l p D).symm.trans<|e.trans<|v1l p I;rw[l37,l37]at O;have:=(p.f ⟨i,D⟩).2;have:=(p.f ⟨j,I⟩).2;have:=congrArg Fin.val<|p.f_inj (l108 oo:p.f ⟨i,D⟩=p.f ⟨j,I⟩);simp only at this;omega;obtain⟨i,rfl⟩:=List.mem_ofFn.1 hx;have:=(p.f i).2;simp only[l37];omega
theorem k5w (hn:n<=8)(k:Lt n)(p:Pm n):(sR k p).l=p.l.map (swK<|k.1+1):=by
 refine y8o (z2m _) (by rw[l15,z2m]) λi hi=>?_
 rw[y5q _ hi,List.getD,l24,l10 (by rw[z2m];exact hi)]
 refine UInt8.toNat.inj ?_
 have Z:=k.2
 have O:=(p.f ⟨i,hi⟩).2
 show _=(swK (k.1+1)<|p.l[i]'(by rw[z2m];exact hi)).toNat
 rw[y7b oo,v1l p hi,l37,l37]
 show ((swL k<|p.f ⟨i,hi⟩).1+1) % 256=_
 generalize p.f ⟨i,hi⟩=x at *
 have I:(x=k.lo)=(x.1=k.1):=propext ⟨λe=>t18,λe=>l108 e⟩
 have D:(x=k.hi)=(x.1=k.1+1):=propext ⟨λe=>t18,λe=>l108 e⟩
 unfold swL
 simp only[I,D]
 repeat' split
 all_goals first|omega|(simp only;omega)
theorem j5r {α:Type}{l:List α}{i j:Nat}{a d:α}(h:i<l.length):(l.set i a).getD j d=if i=j then a else l.getD j d:=by
 rw[List.getD,l123];split;rename_i e;subst e;simp;rfl
theorem k8m (k:Lt n)(p:Pm n):(sL k p).l=swA p.l (k.1+1):=by
 have O:=k.2;refine y8o (z2m _) (by unfold swA;rw[l19,l19,z2m]) λi hi=>?_;unfold swA;rw[j5r (by rw[l19,z2m];omega),j5r t48,l87,y5q p hi,y5q p k.2,y5q p (show k.1<n by omega),y5q _ hi];show UInt8.ofNat ((p.f<|swL k ⟨i,hi⟩).1+1)=_;split;rename_i e;rw[show (⟨i,hi⟩:Fin n)=k.hi from l108 e.symm,y7u];split;rename_i e;rw[show (⟨i,hi⟩:Fin n)=k.lo from l108 e.symm,y8a];rename_i D I;rw[z5r (λe=>I (congrArg Fin.val e).symm) (λe=>D (congrArg Fin.val e).symm)]
theorem k2x (hn:n<=8)(p:Pm n):p.flip.l=flF n p.l:=by
 refine y8o (z2m _) (by unfold flF;rw[l122,l15,z2m]) λi hi=>?_;rw[y5q _ hi];unfold flF;rw[List.getD,List.getElem?_reverse (by rw[l15,z2m];exact hi),l15,z2m,l24,l10 t48];show _=UInt8.ofNat (n+1)-(p.l[n-1-i]' t48);rw[v1l p (show n-1-i<n by omega)];show UInt8.ofNat (((p.f (⟨i,hi⟩:Fin n).rev).rev).1+1)=_;rw[show (⟨i,hi⟩:Fin n).rev=⟨n-1-i,oo⟩ from l108 (by simp[Fin.rev];omega)];generalize p.f ⟨n-1-i,oo⟩=x;have D:=x.2;refine UInt8.toNat.inj ?_;rw[UInt8.toNat_sub_of_le _ _ (by rw[UInt8.le_iff_toNat_le,l37,l37];omega),l37,l37,l37,l141];omega
theorem k6p:(one:Pm n).l=idN n:=by
 refine y8o (z2m _) (by simp[idN]) λi hi=>?_;rw[y5q _ hi];simp[idN,one,hi]
theorem k5s:(half:Pm n).l=hfN n:=by
 refine y8o (z2m _) (by simp[hfN]) λi hi=>?_;rw[y5q _ hi,show (hfN n).getD i 0=UInt8.ofNat (n-i) by simp[hfN,hi]];show UInt8.ofNat ((Fin.rev ⟨i,hi⟩).1+1)=_;rw[l141];show UInt8.ofNat (n-(i+1)+1)=_;rw[show n-(i+1)+1=n-i by omega]
theorem j8n (hn:n<=8){p:Pm n}{k:Nat}(h:k+1<n):Sb p ⟨k,h⟩↔p.l.getD (k+1) 0<p.l.getD k 0:=by
 rw[y5q p h,y5q p (show k<n by omega),l90,l37,l37];unfold Sb;rw[l115];have:=(p.f<|Lt.hi ⟨k,h⟩).2;have:=(p.f<|Lt.lo ⟨k,h⟩).2;show _↔((p.f<|Lt.hi ⟨k,h⟩).1+1) % 2 ^ 8<((p.f<|Lt.lo ⟨k,h⟩).1+1) % 2 ^ 8;omega
theorem En_l (hn:n<=8){p:Pm n}{k:Nat}(h:k+1<n):Eb p ⟨k,h⟩↔p.bl.getD (k+1) 0<p.bl.getD k 0:=by
 rw[u1g p h,u1g p (show k<n by omega),l90,l37,l37];unfold Eb;rw[l115];have:=(p.b<|Lt.hi ⟨k,h⟩).2;have:=(p.b<|Lt.lo ⟨k,h⟩).2;show _↔(p.b<|Lt.hi ⟨k,h⟩).1 % 2 ^ 8<(p.b<|Lt.lo ⟨k,h⟩).1 % 2 ^ 8;omega
theorem u2i (hn:n<=8){p:Pm n}{k:Lt n}(h:Sb p k):y3c (sL k p).l+1<=y3c p.l:=by
 rw[k8m];exact j6o (by rw[z2m];have:=k.2;omega) (by rw[l87];exact(j8n hn k.2).1 h)
theorem k1z (hn:n<=8)(p:Pm n)(k:Lt n):y3c (sR k p).l<=y3c p.l+1:=by
 rw[k5w hn];exact k2y (x5v hn p) k.2 hn
def ms:Nat->List (Pm n)->Nat
  | _,[]=>0
  | s,p::l=>s*y3c p.l+ms (s+1) l
theorem Mv.less (hn:n<=8){a b:List (Pm n)}(h:Mv a b):∀s,ms s b<ms s a:=by
 induction h with
 | @here f g r k hs he=>
  intro s
  have D:=Nat.mul_le_mul_left s<|k1z hn f k
  have I:=Nat.mul_le_mul_left (s+1)<|u2i hn hs
  rw[Nat.mul_add]at D I
  simp only[ms]
  omega
 | next _ ih=>intro s;simp only[ms];have:=ih<|s+1;omega
def Ir (l:List (Pm n)):Prop:=∀m,¬Mv l m
theorem j7j (hn:n<=8):∀(k:Nat) (l:List (Pm n)),ms 0 l<k->∃d,Mvs l d/\Ir d
 | 0,_,h=>by omega
 | k+1,l,h=>by
  by_cases hi:∃m,Mv l m
  ·obtain⟨m,D⟩:=hi
   obtain⟨d,I,O⟩:=j7j hn k m (by have:=D.less hn 0;omega)
   exact⟨d,.cons D I,O⟩
  exact⟨l,.refl,λm D=>hi ⟨m,D⟩⟩
theorem Mvs.ir {l d:List (Pm n)}(h:Mvs l d)(hi:Ir l):d=l:=by
 cases h with
 | refl=>rfl
 | cons a _=>exact absurd a<|hi _
theorem x8d (hn:n<=8):∀(k:Nat) (l:List (Pm n)),ms 0 l<k->∀d e,Mvs l d->Ir d->Mvs l e->Ir e->d=e
 | 0,_,h,_,_,_,_,_,_=>by omega
 | k+1,l,h,d,e,hd,id,he,ie=>by
  cases hd with
  | refl=>exact(he.ir id).symm
  | @cons _ b _ hb hbd=>
   cases he with
   | refl=>exact absurd hb<|ie _
   | @cons _ c _ hc hce=>
    obtain⟨x,O,Z⟩:=conf hb hc
    obtain⟨y,D,I⟩:=j7j hn (ms 0 x+1) x oo
    have kb:=hb.less hn 0
    have kc:=hc.less hn 0
    rw[x8d hn k b oo d y hbd id (O.trans D) I,x8d hn k c oo e y hce ie (Z.trans D) I]
end
end Go.G26
namespace Go.G26
open Go.Lw Go.G21 Go.G08
end Go.G26
namespace Go.Lw
theorem Fr.ext {S:List Nat}{a b c:World}(h:Fr S a b)(D:Fr [] b c):Fr S a c:=h.next D
theorem Fr.fr {S S':List Nat}{a b c:World}(h:Fr S a b)(D:Fr S' b c)(I:∀k∈S',k<a.heap.size->k∈S):Fr S a c:=h.step D I
end Go.Lw
namespace Go.G26
open Go.Lw Go.G21 Go.G08
structure FacT (T n:Nat) (wS w:World) (A:List Nat) (F:Nat->Pm n):Prop where
  f:Fr A wS w
  r:∀g∈A,Lw.Own Enc.b T 0 w (.slice (some ⟨g,0,none⟩) n n) (F g).l
def hdr (n g:Nat):SV:=(some ⟨g,0,none⟩,n,n)
def upF {α:Type}(F:Nat->α)(g:Nat)(f:α):Nat->α:=λx=>if x=g then f else F x
theorem y8u {α:Type}(F:Nat->α)(g:Nat)(f:α):upF F g f g=f:=if_pos U
theorem y7j {α:Type}{F:Nat->α}{g x:Nat}{f:α}(h:x≠g):upF F g f x=F x:=if_neg h
section
variable {T n:Nat} {wS w w':World} {A:List Nat} {F:Nat->Pm n} {S:List Nat} {g:Nat} {f:Pm n}
theorem FacT.fr (h:FacT T n wS w A F)(hf:Fr S w w')(I:∀k∈S,k∉A/\wS.heap.size<=k):FacT T n wS w' A F:=
 ⟨h.f.step hf λk D a0=>by have:=(I k D).2;omega,λg Z=>(h.r g Z).fr hf λk D O=>by
  simp[z0v]at O;subst O;exact(I _ D).1 Z⟩
theorem FacT.ext (h:FacT T n wS w A F)(hf:Fr [] w w'):FacT T n wS w' A F:=h.fr hf sp0
theorem FacT.upd (h:FacT T n wS w A F)(O:g∈A)(hf:Fr [g] w w')(ho:Lw.Own Enc.b T 0 w' (.slice (saa g) n n) f.l):FacT T n wS w' A (upF F g f):=
 ⟨h.f.step hf λk D _=>by rw[l11]at D;rw[D];exact O,λx Z=>by
  by_cases e:x=g
  ·subst e;rw[y8u];exact ho
  rw[y7j e];exact(h.r x Z).fr hf λk D I=>by
   simp[z0v]at I;subst I;rw[l11]at D;exact e D⟩
theorem FacT.lt (h:FacT T n wS w A F)(D:g∈A):g<w.heap.size:=((h.r g D).blk g t10).2
theorem FacT.add (h:FacT T n wS w A F)(ho:Lw.Own Enc.b T 0 w (.slice (saa g) n n) f.l)(O:g∉A):FacT T n wS w (g::A) (upF F g f):=
 ⟨h.f.weak λk D _=>l41 _ D,λx I=>by
  by_cases e:x=g
  ·subst e;rw[y8u];exact ho
  rw[y7j e];exact h.r x<|(l56.1 I).resolve_left e⟩
theorem FacT.ne {T' base:Nat}{α:Type}{E:Enc α}{v:Value}{ys:List α}(h:FacT T n wS w A F)(ho:Lw.Own E T' base w v ys)(D:T'≠T):∀k∈z0v v,k∉A:=λk O I=>
 Own.neO (h.r k I) ho (l51 D) k t10 O
theorem FacT.start (h:FacT T n wS w A F):FacT T n w w A F:=⟨l12 _ _,h.r⟩
end
theorem v7a {n g r:Nat}{A:List Nat}:(List.replicate (r+1) sv0++A.map (hdr n)).set r (hdr n g)=List.replicate r sv0++(g::A).map (hdr n):=by
 rw[l73,l14,l52 _ _ sp0,l23,l80];rfl
theorem v7h {n i:Nat}{A:List Nat}(h:i<A.length):(A.map<|hdr n).getD i sv0=(some ⟨A.getD i 0,0,none⟩,n,n):=by
 rw[List.getD,l24,l10 h,List.getD,l10 h];rfl
theorem z3q {A:List Nat}{i:Nat}(h:i<A.length):A.getD i 0∈A:=by
 rw[List.getD,l10 h];exact l117 _
theorem v8z {A:List Nat}(I:A.Nodup){i j:Nat}(hi:i<A.length)(D:j<A.length)(h:i≠j):A.getD i 0≠A.getD j 0:=λe=>by
 rw[List.getD,l10 hi,List.getD,l10 D]at e
 exact h<|(List.getElem_inj (h₀:=hi) (h₁:=D) I).1 e
end Go.G26
namespace Go.Lw
open Go.RowKit
section
variable {P:Program} {n:Nat} {L:List (Nat×Value)} {ds:List Nat} {w w':World} {Q:Exit->Act->World->Prop} {ops:Array Oper} {rest:List Oper} {d:Nat} {ty T:TypeId} {pos:String} {after:Array Edge} {v:Value} {x y:Operand} {t t':TypeId}
theorem j1o {k':IntKind}{m:Nat}(O:ev L x=some (.int .u8 1))(Z:ev L y=some (.int k' (m:Int)))(I:m<8)(hn:lbt d n)(q:WL P ops Q rest n ds w ((d,.int .u8 ((2 ^ m:Nat):Int))::L)):WL P ops Q (⟨some d,.binOp .shl t x y t',ty,pos,after,none⟩::rest) n ds w L:=
 λa h=>z1x h U hn (by
  have D:¬((m:Nat):Int)<0:=by omega
  have e:IntKind.u8.wrap ((1:Int)*2 ^ m)=((2 ^ m:Nat):Int):=by
   match m,I with
   | 0,_=>rfl
   | 1,_=>rfl
   | 2,_=>rfl
   | 3,_=>rfl
   | 4,_=>rfl
   | 5,_=>rfl
   | 6,_=>rfl
   | 7,_=>rfl
  simp only[execOp,h.eval O,h.eval Z,eqGuard_shl,binOp_shl,shift_shl .u8 k' 1 (m:Int) oo (show ((m:Nat):Int)<=8 by omega),l96,e]
  rfl) q
theorem k9h {p q':Nat}(I:ev L x=some (.int .u8 (p:Int)))(O:ev L y=some (.int .u8 (q':Int)))(hp:p<256)(D:q'<256)(hn:lbt d n)(q:WL P ops Q rest n ds w ((d,.int .u8 ((p ||| q':Nat):Int))::L)):WL P ops Q (⟨some d,.binOp .or t x y t',ty,pos,after,none⟩::rest) n ds w L:=
 λa h=>z1x h U hn (by simp[execOp,h.eval I,h.eval O,eqGuard_or,binOp_or,intBits_or,Go.u8_or_nat p q' hp D]) q
theorem x1o {p q':Nat}(I:ev L x=some (.int .u8 (p:Int)))(O:ev L y=some (.int .u8 (q':Int)))(hp:p<256)(D:q'<256)(hn:lbt d n)(q:WL P ops Q rest n ds w ((d,.int .u8 ((p &&& (255-q'):Nat):Int))::L)):WL P ops Q (⟨some d,.binOp .andNot t x y t',ty,pos,after,none⟩::rest) n ds w L:=
 λa h=>z1x h U hn (by simp[execOp,h.eval I,h.eval O,eqGuard_andNot,binOp_andNot,intBits_andNot,Go.u8_andNot_nat p q' hp D]) q
theorem k8j {k:IntKind}{i j:Int}(D:ev L x=some (.int k i))(I:ev L y=some (.int k j))(hn:lbt d n)(q:WL P ops Q rest n ds w ((d,.int k<|bits .and k i j)::L)):WL P ops Q (⟨some d,.binOp .and t x y t',ty,pos,after,none⟩::rest) n ds w L:=
 λa h=>z1x h U hn (by simp[execOp,h.eval D,h.eval I,eqGuard_and,binOp_and,intBits_and]) q
theorem v0h (i:Int):bits .and .i64 i 1=i % 2:=by
 have I:(BitVec.ofInt 64 1).toNat=2 ^ 1-1:=by decide
 have D:(BitVec.ofInt 64 i &&& BitVec.ofInt 64 1).toNat=(i % ((2 ^ 64:Nat):Int)).toNat % 2 ^ 1:=by
  rw[BitVec.toNat_and,BitVec.toNat_ofInt,I,Nat.and_two_pow_sub_one_eq_mod]
 show IntKind.i64.wrap ((BitVec.ofInt 64 i &&& BitVec.ofInt 64 1).toNat:Nat)=i % 2;rw[D,IntKind.wrap_i64];omega
theorem k1k {ad:Addr}{N sz m:Nat}{k:IntKind}{i:Int}(Z:ev L x=some (.pointer<|some ad))(hy:ev L y=some (.int k i))(hi:i=(m:Int))(I:m<=N)(O:P.underlying t=some (.array N T))(hs:z1r P T sz)(hn:lbt d n)(q:WL P ops Q rest n ds w ((d,.slice (some ad) m N)::L)):WL P ops Q (⟨some d,.slice t x none (some y) none,ty,pos,after,none⟩::rest) n ds w L:=λa h=>
 z1x h U hn (by
  subst hi
  have D:ad.add 0=ad:=by simp[Addr.add]
  simp[execOp,h.eval Z,h.eval hy,Instr.sliceAt,run_underlying O,Instr.sureAddr,Instr.sliceBounds,Instr.sliceBound,asIntOf,hs w,D,I]
  ) (λa h=>q a h)
theorem j2l {g N m:Nat}{zs:List UInt8}(hb:Blk w g T (zs.map λz=>Value.int .u8 (z.toNat:Int)))(Z:zs.length=N)(hM:N<=maxLen)(O:m<=N):Sl Enc.b w (.slice (saa g) m N) (zs.take m):=by
 have hl:(zs.take m).length=m:=by rw[l27];omega
 refine⟨some ⟨g,0,none⟩,N,by rw[hl],by rw[hl];exact O,hM,λi y I=>⟨_,rfl,λj u D=>?_⟩⟩;have hi:i<(zs.take m).length:=(l50.1 I).1;rw[l53,if_pos oo]at I;match j,D with
 | 0,D=>
  cases D;rw[z8u];refine hb.cellAdd ?_;show (zs.map _)[i*1+0]?=_;rw[Nat.mul_one,Nat.add_zero,l24,I];rfl
 | j+1,D=>simp[Enc.b]at D
def bls (T:List Bool):List Value:=T.map Value.bool
theorem k7a {zs:List Bool}{j off:Nat}(D:j<zs.length)(ho:off=j):(bls zs)[off]?=some (.bool<|zs.getD j false):=by
 subst ho;rw[bls,l24,l10 D,List.getD,l10 D];rfl
end
end Go.Lw
namespace Go.G26
open Pm
section
variable {n:Nat}
theorem k7x (k:Lt n){x y:Fin n}(h:x<y)(D:¬(x=k.lo/\y=k.hi)):swL k x<swL k y:=by
 rw[l115]at h ⊢
 have Z:(x=k.lo)=(x.1=k.1):=propext ⟨λe=>t18,λe=>l108 e⟩
 have I:(x=k.hi)=(x.1=k.1+1):=propext ⟨λe=>t18,λe=>l108 e⟩
 have hy:(y=k.lo)=(y.1=k.1):=propext ⟨λe=>t18,λe=>l108 e⟩
 have O:(y=k.hi)=(y.1=k.1+1):=propext ⟨λe=>t18,λe=>l108 e⟩
 unfold swL
 simp only[Z,I,hy,O]at D ⊢
 repeat' split
 all_goals first|omega|(simp only;omega)
theorem x0s (hn:n<=8)(R:Bool):∀(c:Nat) (f g:Pm n),y3c g.l<c->(∀x y:Fin n,x<y->if R then f.b x<f.b y->g.f y<g.f x else g.f y<g.f x->f.b x<f.b y)->
    ∃D I,Mvs [f,g] [D,I]/\D.mul I=f.mul g/\(∀k:Lt n,Sb I k->Eb D k)/\∀x y:Fin n,x<y->if R then D.b x<D.b y->I.f y<I.f x else I.f y<I.f x->D.b x<D.b y
  | 0,_,_,h,_=>by omega
  | c+1,f,g,h,hJ=>by
    by_cases hk:∃k:Lt n,Sb g k/\¬Eb f k
    · obtain⟨k,hs,O⟩:=hk
      have hi:=u2i hn hs
      obtain⟨D,I,a1,a2,a3,a4⟩:=x0s hn R c (sR k f) (sL k g) oo (λx y a0=>by
        by_cases hq:x=k.lo/\y=k.hi
        · obtain⟨rfl,rfl⟩:=hq
          rw[y5z]at O
          have e1:(sR k f).b k.lo=f.b k.hi:=congrArg f.b<|y8a k
          have e2:(sR k f).b k.hi=f.b k.lo:=congrArg f.b<|y7u k
          have e3:(sL k g).f k.lo=g.f k.hi:=congrArg g.f<|y8a k
          have e4:(sL k g).f k.hi=g.f k.lo:=congrArg g.f<|y7u k
          rw[e1,e2,e3,e4]
          unfold Sb at hs
          split
          · intro Z;exact absurd Z<|Fin.lt_asymm O
          · intro Z;exact absurd Z<|Fin.lt_asymm hs
        · exact hJ (swL k x) (swL k y)<|k7x k a0 hq)
      exact⟨D,I,.cons (.here k hs O) a1,a2.trans<|u8l k f g,a3,a4⟩
    · exact⟨f,g,.refl,rfl,λk hs=>l104 λO=>hk ⟨k,hs,O⟩,hJ⟩
theorem x7k {u:Fin n->Fin n}(h:∀k:Lt n,u k.lo<u k.hi):∀x:Fin n,u x=x:=by
 have up:∀(d:Nat) (x:Fin n),x.1=d->d<=(u x).1:=by
  intro d;induction d with
  | zero=>intros;omega
  | succ d ih=>
   intro x I;have O:=ih ⟨d,oo⟩ U;have D:=h ⟨d,oo⟩;rw[l115]at D;rw[show x=(Lt.hi ⟨d,oo⟩:Fin n) from l108 I];exact Nat.lt_of_le_of_lt O D
 have Z:∀(d:Nat) (x:Fin n),x.1+d+1=n->(u x).1+d+1<=n:=by
  intro d;induction d with
  | zero=>intro x I;have:=(u x).2;omega
  | succ d ih=>
   intro x I;have O:=ih ⟨x.1+1,oo⟩ sm;have D:=h ⟨x.1,oo⟩;rw[l115]at D;have h3:(u x).1<(u ⟨x.1+1,oo⟩).1:=D;omega
 intro x;have a:=up x.1 x U;have b:=Z (n-1-x.1) x oo;exact l108 oo
theorem v9z {p:Pm n}(h:∀k:Lt n,¬Sb p k):p=one:=Pm.ext λx=>x7k (λk=>j9w.1<|h k) x
theorem v5q {p:Pm n}(h:∀k:Lt n,Eb p k):p=half:=by
 have D:=x7k (u:=λx=>(p.b x).rev)<|λk=>Fin.rev_lt_rev.2<|h k;refine Pm.ext λx=>?_;show p.f x=x.rev;have:=D<|p.f x;simp only[p.bf]at this;exact this.symm
theorem mul_one (p:Pm n):p.mul one=p:=rfl
theorem one_mul (p:Pm n):one.mul p=p:=rfl
theorem u6h (p:Pm n):half.mul p.flip=p.mul half:=Pm.ext λx=>by show (p.f (Fin.rev x).rev).rev=(p.f x).rev;rw[Fin.rev_rev]
theorem v4p {a p q:Pm n}(h:a.mul p=a.mul q):p=q:=Pm.ext λx=>by
 have:=congrArg (λr:Pm n=>r.f<|a.b x) h
 simpa[Pm.mul,a.fb] using this
theorem v6k (hn:n<=8)(f:Pm n):Mvs [one,f] [f,one]:=by
 obtain⟨f',g',D,I,a3,a4⟩:=x0s hn false _ one f (l116 _) (λx y h=>by simpa[one] using λ_=>h);have Z:g'=one:=v9z λk hk=>by
  have O:=a4 k.lo k.hi (by rw[l115];simp);rw[if_neg dd]at O;exact absurd (O hk)<|Fin.lt_asymm<|a3 k hk
 rw[Z,mul_one,one_mul]at I;rw[Z,I]at D;exact D
theorem u4e (hn:n<=8)(f g r:Pm n)(h:∀x y:Fin n,x<y->f.b x<f.b y->g.f y<g.f x)(hr:f.mul g=half.mul r):Mvs [f,g] [half,r]:=by
 obtain⟨f',g',I,O,a3,a4⟩:=x0s hn true _ f g (l116 _) (λx y D=>by simpa using h x y D);have hf:f'=half:=v5q λk=>l104 λhe=>by
  have Z:=a4 k.lo k.hi (by rw[l115];simp);rw[if_pos U]at Z;exact he<|a3 k<|Z<|y5z.1 he
 rw[hf,hr]at O;rw[hf,v4p O]at I;exact I
theorem v4c (hn:n<=8)(f:Pm n):Mvs [f,half] [half,f.flip]:=u4e hn f half _ (λx y h _=>Fin.rev_lt_rev.2 h) (u6h f).symm
def Lt.rev (k:Lt n):Lt n:=⟨n-2-k.1,by have:=k.2;omega⟩
theorem j1y (k:Lt n)(x:Fin n):swL k.rev x=(swL k x.rev).rev:=by
 have hk:=k.2
 have Z:=x.2
 refine l108 ?_
 have O:(x.rev=k.lo)=(x.1=k.rev.1+1):=propext ⟨λe=>by have:=congrArg Fin.val e;simp[Lt.rev,l141]at this ⊢;omega,λe=>l108 (by simp[Lt.rev,l141]at e ⊢;omega)⟩
 have D:(x.rev=k.hi)=(x.1=k.rev.1):=propext ⟨λe=>by have:=congrArg Fin.val e;simp[Lt.rev,l141]at this ⊢;omega,λe=>l108 (by simp[Lt.rev,l141]at e ⊢;omega)⟩
 have hy:(x=k.rev.lo)=(x.1=k.rev.1):=propext ⟨λe=>t18,λe=>l108 e⟩
 have I:(x=k.rev.hi)=(x.1=k.rev.1+1):=propext ⟨λe=>t18,λe=>l108 e⟩
 unfold swL
 simp only[O,D,hy,I,l141]
 repeat' split
 all_goals simp only[Lt.rev,l141] at *
 all_goals omega
def sg (k:Lt n):Pm n:=sR k one
theorem x3j (hn:n<=8):∀r:List (Pm n),Mvs (one::r) (r++[one])
 | []=>.refl
 | f::r=>((v6k hn f).app r).trans (x3j hn r).next
theorem y8e (hn:n<=8)(l:List (Pm n)):∀u:List (Pm n),Mvs (u++half::l) (half::(u.map Pm.flip++l))
 | []=>.refl
 | f::u=>(y8e hn l u).next.trans<|(v4c hn f).app _
abbrev BrN (n:Nat):=Int×List (Pm n)
inductive BrE:BrN n->BrN n->Prop
  | refl {a:BrN n}:BrE a a
  | symm {a b:BrN n}:BrE a b->BrE b a
  | trans {a b c:BrN n}:BrE a b->BrE b c->BrE a c
  | mv {p:Int} {l m:List (Pm n)}:Mv l m->BrE (p,l) (p,m)
  | id {p:Int} {l:List (Pm n)}:BrE (p,l++[one]) (p,l)
  | tw {p:Int} {l:List (Pm n)}:BrE (p,half::l) (p+1,l)
theorem x0o {p:Int}{l m:List (Pm n)}(h:Mvs l m):BrE (p,l) (p,m):=by
 induction h with
 | refl=>exact .refl
 | cons a _ ih=>exact .trans (.mv a) ih
theorem v5i (hn:n<=8){a b:BrN n}(h:BrE a b)(r:List (Pm n)):BrE (a.1,a.2++r) (b.1,b.2++r):=by
 induction h with
 | refl=>exact .refl
 | symm _ ih=>exact .symm ih
 | trans _ _ ih ih'=>exact .trans ih ih'
 | mv h=>exact .mv<|h.app r
 | @id p l=>
  refine .trans (x0o (m:=l++(r++[one])) ?_) ?_;simp only[l14];exact(x3j hn r).pre l;rw[<-l14];exact .id
 | tw=>exact .tw
theorem x5u {a b:BrN n}(h:BrE a b)(d:Int):BrE (a.1+d,a.2) (b.1+d,b.2):=by
 induction h with
 | refl=>exact .refl
 | symm _ ih=>exact .symm ih
 | trans _ _ ih ih'=>exact .trans ih ih'
 | mv h=>exact .mv h
 | id=>exact .id
 | @tw p l=>rw[show p+1+d=p+d+1 by omega];exact .tw
theorem j5g (k:Lt n)(p:Pm n):(sR k p).flip=sR k.rev p.flip:=Pm.ext λx=>by
 show (swL k<|p.f x.rev).rev=swL k.rev (p.f x.rev).rev
 rw[j1y,Fin.rev_rev]
theorem j4p (k:Lt n)(p:Pm n):(sL k p).flip=sL k.rev p.flip:=Pm.ext λx=>by
 show (p.f<|swL k x.rev).rev=(p.f (swL k.rev x).rev).rev
 rw[j1y,Fin.rev_rev]
theorem j1u (k:Lt n):(k.rev.lo).rev=k.hi:=l108 (by have:=k.2;simp[Lt.rev,l141];omega)
theorem j0e (k:Lt n):(k.rev.hi).rev=k.lo:=l108 (by have:=k.2;simp[Lt.rev,l141];omega)
theorem j8x {l m:List (Pm n)}(h:Mv l m):Mv (l.map Pm.flip) (m.map Pm.flip):=by
 induction h with
 | @here f g r k hs he=>
  simp only[l28,j5g,j4p]
  refine .here k.rev ?_ ?_
  ·show (g.f (k.rev.hi).rev).rev<(g.f (k.rev.lo).rev).rev
   rw[j1u,j0e];exact Fin.rev_lt_rev.2 hs
  show ¬(f.b (k.rev.hi).rev).rev<(f.b (k.rev.lo).rev).rev
  rw[j1u,j0e];exact λh=>he<|Fin.rev_lt_rev.1 h
 | next _ ih=>exact .next ih
theorem u7i:(one:Pm n).flip=one:=Pm.ext λx=>Fin.rev_rev x
theorem v9e:(half:Pm n).flip=half:=Pm.ext λx=>by show (x.rev.rev).rev=x.rev;rw[Fin.rev_rev]
theorem j8w {a b:BrN n}(h:BrE a b):BrE (a.1,a.2.map Pm.flip) (b.1,b.2.map Pm.flip):=by
 induction h with
 | refl=>exact .refl
 | symm _ ih=>exact .symm ih
 | trans _ _ ih ih'=>exact .trans ih ih'
 | mv h=>exact .mv<|j8x h
 | id=>simp only[l30,l28,l140,u7i];exact .id
 | tw=>simp only[l28,v9e];exact .tw
def flB (d:Int)(p:Pm n):Pm n:=if d % 2=0 then p else p.flip
theorem u1r (d e:Int)(p:Pm n):flB d (flB e p)=flB (d+e) p:=by
 unfold flB;by_cases h1:d % 2=0<;>by_cases h2:e % 2=0
 rw[if_pos h1,if_pos h2,if_pos oo];rw[if_pos h1,if_neg h2,if_neg oo];rw[if_neg h1,if_pos h2,if_neg oo];rw[if_neg h1,if_neg h2,if_pos oo,Pm.flip_flip]
theorem flM (d e:Int)(u:List (Pm n)):(u.map<|flB e).map (flB d)=u.map (flB<|d+e):=by
 rw[l81];exact l107 λx _=>u1r d e x
theorem j9o {d:Int}(h:d % 2=0)(u:List (Pm n)):u.map (flB d)=u:=by
 rw[show flB d=(id:Pm n->Pm n) from funext λp=>if_pos h];exact List.map_id u
theorem k4v {a b:BrN n}(h:BrE a b)(d:Int):BrE (a.1,a.2.map<|flB d) (b.1,b.2.map<|flB d):=by
 by_cases e:d % 2=0;rw[j9o e,j9o e];exact h;rw[show flB d=(Pm.flip:Pm n->Pm n) from funext λp=>if_neg e];exact j8w h
theorem u4z (hn:n<=8){a b:BrN n}(h:BrE a b):∀u:List (Pm n),BrE (a.1,u++a.2) (b.1,u.map (flB<|b.1-a.1)++b.2):=by
 induction h with
 | refl=>intro u;rw[j9o oo];exact .refl
 | @symm a b _ ih=>
  intro u;have:=(ih<|u.map<|flB<|a.1-b.1).symm;rw[flM,j9o oo]at this;exact this
 | @trans a b c _ _ ih ih'=>
  intro u;have:=(ih u).trans<|ih' _;rw[flM,show c.1-b.1+(b.1-a.1)=c.1-a.1 by omega]at this;exact this
 | mv h=>intro u;rw[j9o oo];exact x0o<|(Mvs.one h).pre u
 | id=>intro u;rw[j9o oo,<-l14];exact .id
 | @tw p l=>
  intro u;rw[show flB (p+1-p)=(Pm.flip:Pm n->Pm n) from funext λD=>if_neg oo];exact .trans (x0o<|y8e hn l u) .tw
def Cn (a c:BrN n):Prop:=∃s t:Nat,Mvs a.2 (List.replicate s half++(c.2++List.replicate t one))/\Ir (List.replicate s half++(c.2++List.replicate t one))/\c.1=a.1+s/\(∀x r,c.2=x::r->x≠half)/\∀x r,c.2=r++[x]->x≠one
theorem v5w (l:List (Pm n)):∀(s:Nat) (p:Int),BrE (p,List.replicate s half++l) (p+s,l)
 | 0,p=>by simp only[List.replicate,l45];rw[show p+((0:Nat):Int)=p by omega];exact .refl
 | s+1,p=>by
  rw[l71,l48,show p+((s+1:Nat):Int)=(p+1)+s by omega]
  exact .trans .tw<|v5w l s<|p+1
theorem j0n (l:List (Pm n))(p:Int):∀t:Nat,BrE (p,l++List.replicate t one) (p,l)
 | 0=>by simp only[List.replicate,l26];exact .refl
 | t+1=>by rw[l73,<-l14];exact .trans .id<|j0n l p t
theorem cn_e {a c:BrN n}(h:Cn a c):BrE a c:=by
 obtain⟨s,t,I,-,O,-,-⟩:=h;have D:BrE a (a.1,List.replicate s half++(c.2++List.replicate t one)):=x0o I;refine D.trans<|(v5w _ s a.1).trans ?_;rw[<-O];exact j0n _ _ t
theorem x7g:∀ {l:List (Pm n)},Ir l->Ir (l++[one])
 | [],_=>λm D=>by cases D with|next h=>cases h
 | [f],_=>λm D=>by
  cases D with
  | here k hs he=>exact Fin.lt_asymm hs (by show k.lo<k.hi;rw[l115];simp)
  | next h=>cases h with|next h=>cases h
 | f::g::l,h=>λm D=>by
  cases D with
  | here k hs he=>exact h _<|.here k hs he
  | next h'=>exact x7g (l:=g::l) (λm D=>h _<|.next D) _ h'
theorem j4q {l:List (Pm n)}(h:Ir l):Ir (half::l):=λm D=>by
 cases D with
 | here k hs he=>exact he (by show Fin.rev k.hi<Fin.rev k.lo;rw[Fin.rev_lt_rev,l115];simp)
 | next h'=>exact h _ h'
theorem u4o {p:Int}{l:List (Pm n)}{c:BrN n}(h:Cn (p,l) c):Cn (p,l++[one]) c:=by
 obtain⟨s,t,D,I,O,Z⟩:=h;refine⟨s,t+1,?_,?_,O,Z⟩;rw[l73,<-l14,<-l14];simpa[l14] using D.app [one];rw[l73,<-l14,<-l14];have:=x7g I;simpa[l14] using this
theorem j7b {p:Int}{l:List (Pm n)}{c:BrN n}(h:Cn (p+1,l) c):Cn (p,half::l) c:=by
 obtain⟨s,t,D,I,O,Z⟩:=h;refine⟨s+1,t,?_,?_,by rw[O];simp only;omega,Z⟩;rw[l71,l48];exact D.next;rw[l71,l48];exact j4q I
theorem y5s:∀l:List (Pm n),∃s m,l=List.replicate s half++m/\∀x r,m=x::r->x≠half
 | []=>⟨0,[],rfl,λx r h=>by cases h⟩
 | x::l=>by
  by_cases hx:x=half
  ·obtain⟨s,m,e,h⟩:=y5s l
   exact⟨s+1,m,by rw[hx,e];rfl,h⟩
  exact⟨0,x::l,rfl,λy r e=>by cases e;exact hx⟩
theorem y9o:∀(k:Nat) (l:List (Pm n)),l.length=k->∃t m,l=m++List.replicate t one/\∀x r,m=r++[x]->x≠one
 | 0,l,h=>⟨0,[],by simpa using h,λx r h=>by simp at h⟩
 | k+1,l,h=>by
  obtain⟨l',x,rfl⟩:∃l' x,l=l'++[x]:=⟨l.dropLast,l.getLast (by intro e;simp[e]at h),(List.dropLast_concat_getLast _).symm⟩
  by_cases hx:x=one
  ·obtain⟨t,m,e,D⟩:=y9o k l' (by simpa using h)
   exact⟨t+1,m,by rw[hx,e,l73,l14],D⟩
  exact⟨0,l'++[x],sp0,λy r e=>by have:=(List.append_inj' e U).2;cases this;exact hx⟩
theorem k8s (hn:n<=8)(a:BrN n):∃c,Cn a c:=by
 obtain⟨d,I,O⟩:=j7j hn _ a.2<|l116 _;obtain⟨s,m,e,Z⟩:=y5s d;obtain⟨t,m',D,h4⟩:=y9o _ m U;subst D;subst e;refine⟨(a.1+s,m'),s,t,I,O,rfl,λx r e=>?_,h4⟩;refine Z x (r++List.replicate t one) ?_;simp only at e;rw[e];rfl
theorem v5j (D:2<=n):(half:Pm n)≠one:=λe=>by
 have:=congrArg (λp:Pm n=>(p.f ⟨0,oo⟩).1) e
 simp[half,one,l141]at this
 omega
theorem x6e:∀(t t':Nat) {m m':List (Pm n)},m++List.replicate t one=m'++List.replicate t' one->(∀x r,m=r++[x]->x≠one)->(∀x r,m'=r++[x]->x≠one)->m=m'
 | 0,0,m,m',e,_,_=>by simpa using e
 | t+1,t'+1,m,m',e,h,h'=>by
  rw[l73,l73,<-l14,<-l14]at e
  exact x6e t t' (List.append_inj' e U).1 h h'
 | 0,t'+1,m,m',e,h,_=>by
  rw[l73,<-l14]at e
  rw[l91,l26]at e
  exact absurd U<|h one _ e
 | t+1,0,m,m',e,_,h'=>by
  rw[l73,<-l14]at e
  rw[l91,l26]at e
  exact absurd U<|h' one _ e.symm
theorem y9g (D:2<=n):∀(s s':Nat) {t t':Nat} {m m':List (Pm n)},List.replicate s half++(m++List.replicate t one)=List.replicate s' half++(m'++List.replicate t' one)->(∀x r,m=x::r->x≠half)->(∀x r,m'=x::r->x≠half)->s=s'/\m++List.replicate t one=m'++List.replicate t' one
 | 0,0,t,t',m,m',e,_,_=>⟨rfl,by simpa using e⟩
 | s+1,s'+1,t,t',m,m',e,h,h'=>by
  rw[l71,l71,l48,l48]at e
  have:=y9g D s s' (l137 e).2 h h'
  exact⟨oo,this.2⟩
 | 0,s'+1,t,t',m,m',e,h,_=>by
  rw[l71,l48,l91,l45]at e
  match m,t with
  | x::r,_=>exact absurd (l137 e).1<|h x r U
  | [],0=>simp at e
  | [],t+1=>
   rw[l45,l71]at e
   exact absurd (l137 e).1.symm<|v5j D
 | s+1,0,t,t',m,m',e,_,h=>by
  rw[l71,l48,l91,l45]at e
  match m',t' with
  | x::r,_=>exact absurd (l137 e).1.symm<|h x r U
  | [],0=>simp at e
  | [],t'+1=>
   rw[l45,l71]at e
   exact absurd (l137 e).1<|v5j D
theorem j1w (h2:2<=n)(hn:n<=8){a c d:BrN n}(h:Cn a c)(h':Cn a d):c=d:=by
 obtain⟨s,t,D,I,O,Z,a5⟩:=h;obtain⟨s',t',b1,b2,b3,b4,b5⟩:=h';have e:=x8d hn _ _ (l116 _) _ _ D I b1 b2;obtain⟨e1,e2⟩:=y9g h2 s s' e Z b4;exact Prod.ext (by rw[O,b3,e1])<|x6e t t' e2 a5 b5
theorem Cn_E (h2:2<=n)(hn:n<=8){a b:BrN n}(h:BrE a b):∀c,Cn a c↔Cn b c:=by
 have D:∀ {a b:BrN n},(∀c,Cn a c->Cn b c)->∀c,Cn a c↔Cn b c:=λ{a b} h c=>⟨h c,λhb=>by
  obtain⟨d,O⟩:=k8s hn a;rw[j1w h2 hn hb (h d O)];exact O⟩
 induction h with
 | refl=>exact λc=>Iff.rfl
 | symm _ ih=>exact λc=>(ih c).symm
 | trans _ _ ih ih'=>exact λc=>(ih c).trans<|ih' c
 | mv h=>
  refine λc=>(D (λc I=>?_) c).symm;obtain⟨s,t,Z,a2,a3⟩:=I;exact⟨s,t,.cons h Z,a2,a3⟩
 | id=>exact λc=>(D (λc I=>u4o I) c).symm
 | tw=>exact λc=>(D (λc I=>j7b I) c).symm
theorem j5b (D:2<=n)(hn:n<=8){a b c d:BrN n}(h:BrE a b)(I:Cn a c)(O:Cn b d):c=d:=j1w D hn ((Cn_E D hn h c).1 I) O
def plF (n:Nat)(k:Int):Pm n:=if h:k.natAbs-1+1<n then (if 0<k then sg ⟨k.natAbs-1,h⟩ else sR ⟨k.natAbs-1,h⟩ half) else one
def fac (n:Nat):List Int->Int×List (Pm n)
  | []=>(0,[])
  | k::w=>((fac n w).1-(if 0<k then 0 else 1),flB (fac n w).1 (plF n k)::(fac n w).2)
theorem j7o (u v:List Int):fac n (u++v)=((fac n u).1+(fac n v).1,(fac n u).2.map (flB (fac n v).1)++(fac n v).2):=by
 induction u with
 | nil=>simp[fac]
 | cons k u ih=>
  rw[l48];simp only[fac,ih,l28,l48,u1r];rw[show (fac n u).1+(fac n v).1-(if 0<k then 0 else 1)=(fac n u).1-(if 0<k then 0 else 1)+(fac n v).1 by omega,Int.add_comm (fac n v).1 (fac n u).1]
theorem j3a (hn:n<=8){u v:List Int}{a b:BrN n}(O:BrE (fac n u) a)(hb:BrE (fac n v) b):BrE (fac n<|u++v) (a.1+b.1,a.2.map (flB b.1)++b.2):=by
 rw[j7o];have I:=v5i hn (x5u (k4v O (fac n v).1) (fac n v).1) (fac n v).2;have D:=x5u (u4z hn hb<|a.2.map<|flB (fac n v).1) a.1;rw[flM,show b.1-(fac n v).1+(fac n v).1=b.1 by omega,Int.add_comm (fac n v).1,Int.add_comm b.1]at D;exact I.trans D
theorem Mvs.less (hn:n<=8){a b:List (Pm n)}(h:Mvs a b):ms 0 b<=ms 0 a:=by
 induction h with
 | refl=>exact l20 _
 | cons h _ ih=>have:=h.less hn 0;omega
def Mvp (a b:List (Pm n)):Prop:=∃m,Mv a m/\Mvs m b
theorem Mvp.less (hn:n<=8){a b:List (Pm n)}(h:Mvp a b):ms 0 b<ms 0 a:=by
 obtain⟨m,D,I⟩:=h;have:=D.less hn 0;have:=I.less hn;omega
theorem Mvp.mvs {a b:List (Pm n)}(h:Mvp a b):Mvs a b:=let ⟨_,h1,h2⟩:=h;.cons h1 h2
theorem Mv.pre {l m:List (Pm n)}(h:Mv l m):∀u:List (Pm n),Mv (u++l) (u++m)
 | []=>h
 | _::u=>.next<|Mv.pre h u
theorem u6l {p:Pm n}(h:∀k:Lt n,Sb p k):p=half:=by
 have D:=x7k (u:=λx=>(p.f x).rev)<|λk=>Fin.rev_lt_rev.2<|h k;refine Pm.ext λx=>?_;have:=congrArg Fin.rev<|D x;rwa [Fin.rev_rev]at this
theorem v6u (k:Lt n):Sb (half:Pm n) k:=by show Fin.rev k.hi<Fin.rev k.lo;rw[Fin.rev_lt_rev,l115];simp
theorem u9r (k:Lt n):¬Sb (one:Pm n) k:=by rw[j9w];show k.lo<k.hi;rw[l115];simp
theorem k3i {l:List (Pm n)}(h:∀i f g,l[i]?=some f->l[i+1]?=some g->∀k,Sb g k->Eb f k):Ir l:=by
 intro m O
 induction O with
 | @here f g r k hs he=>exact he<|h 0 f g U U k hs
 | next _ ih=>exact ih λi f g D I=>h (i+1) f g D I
theorem u9v {a b:List (Pm n)}(h:Ir (a++b)):Ir a:=λm D=>h _<|D.app b
theorem v2w {l:List (Pm n)}(h:Ir l):∀t:Nat,Ir (l++List.replicate t one)
 | 0=>by simpa using h
 | t+1=>by rw[l73,<-l14];exact x7g<|v2w h t
theorem y8k (hn:n<=8)(f:Pm n):∀t:Nat,Mvs (List.replicate t one++[f]) (f::List.replicate t one)
 | 0=>.refl
 | t+1=>by
  rw[l71,l48]
  exact(y8k hn f t).next.trans<|(v6k hn f).app<|List.replicate t one
theorem u3v {F F':Nat->Pm n}{a b:Nat}(ho:∀g,g≠a->g≠b->F' g=F g){l:List Nat}{i:Nat}(hd:l.Nodup)(h:i+1<l.length)(e1:l.getD i 0=a)(e2:l.getD (i+1) 0=b) :
    l.map F=(l.take i).map F++([F a,F b]++(l.drop<|i+2).map F)/\l.map F'=(l.take i).map F++([F' a,F' b]++(l.drop<|i+2).map F):=by
  rw[List.getD,l10 oo]at e1
  rw[List.getD,l10 h]at e2
  have e:l=l.take i++([a,b]++l.drop (i+2)):=by
    have a1:l.drop i=l[i]::l.drop (i+1):=l32 oo
    rw[l32 h]at a1
    rw[<-e1,<-e2]
    show l=l.take i++l[i]::l[i+1]::l.drop (i+1+1)
    rw[<-a1,l25]
  have D:=hd
  rw[e]at D
  obtain⟨-,a0,I⟩:=l58.1 D
  have d1:∀g∈l.take i,F' g=F g:=λg Z=>ho g (λe=>I g Z a sp0 e)<|λe=>I g Z b sp0 e
  obtain⟨-,-,O⟩:=l58.1 a0
  have d2:∀g∈l.drop (i+2),F' g=F g:=λg Z=>ho g (λe=>O a sp0 g Z e.symm)<|λe=>O b sp0 g Z e.symm
  have c1:=congrArg (List.map F) e
  have c2:=congrArg (List.map F') e
  simp only[l30,l28,l140]at c1 c2
  rw[l107 d1,l107 d2]at c2
  exact⟨c1,c2⟩
theorem u9s {p:Int}{c:BrN n}(h:Cn (p,[]) c):c=(p,[]):=by
 obtain⟨s,t,D,-,I,-⟩:=h;have:=D.len;simp only[l13,l23,l57]at this;refine Prod.ext (by rw[I];simp only;omega)<|l82 oo
end
end Go.G26
namespace Go.Proofs.YtkafbfjmcigaiaaGreatDoor
open Go.Lw Go.G21 Go.G08 Go.G09 Go.G26 _root_.Go.Proofs.Tryz
def StB (l:List UInt8)(k s:Nat):Prop:=s<256/\∀j,s.testBit j=decide (j<k/\j+1<l.length/\l.getD (j+1) 0<l.getD j 0)
theorem k0p (l:List UInt8):StB l 0 0:=⟨dd,λj=>by rw[Nat.zero_testBit];exact(decide_eq_false<|λh=>oo).symm⟩
theorem v7u {l:List UInt8}{k s:Nat}(h:StB l k s)(I:k<8)(hl:k+1<l.length)(O:((l.getD (k+1) 0).toNat:Int)<((l.getD k 0).toNat:Int)):StB l (k+1) (s ||| 2 ^ k):=by
 refine⟨Nat.or_lt_two_pow (n:=8) h.1<|Nat.pow_lt_pow_right dd I,λj=>?_⟩;rw[Nat.testBit_or,h.2 j,Nat.testBit_two_pow];have D:l.getD (k+1) 0<l.getD k 0:=by rw[l90];omega
 by_cases e:k=j;subst e;rw[decide_eq_false (λh=>absurd h.1<|Nat.lt_irrefl _),decide_eq_true U,decide_eq_true ⟨l116 _,hl,D⟩];rfl;rw[decide_eq_false e,Bool.or_false];exact decide_eq_decide.2 ⟨λh=>⟨oo,h.2⟩,λh=>⟨oo,h.2⟩⟩
theorem j1q {l:List UInt8}{k s:Nat}(h:StB l k s)(I:¬((l.getD (k+1) 0).toNat:Int)<((l.getD k 0).toNat:Int)):StB l (k+1) s:=by
 refine⟨h.1,λj=>?_⟩;rw[h.2 j];have D:¬l.getD (k+1) 0<l.getD k 0:=by rw[l90];omega
 by_cases e:k=j;subst e;rw[decide_eq_false (λh=>absurd h.1<|Nat.lt_irrefl _),decide_eq_false (λh=>D h.2.2)];exact decide_eq_decide.2 ⟨λh=>⟨oo,h.2⟩,λh=>⟨oo,h.2⟩⟩
theorem u1v {l:List UInt8}{k s:Nat}(h:StB l k s)(D:¬k+1<l.length):StB l l.length s:=⟨h.1,λj=>by
 rw[h.2 j]
 exact decide_eq_decide.2 ⟨λh=>⟨oo,h.2⟩,λh=>⟨oo,h.2⟩⟩⟩
theorem x4a (v:Value)(l:List UInt8)(w0:World)(hs:Sl Enc.b w0 v l)(hl:l.length<=8):Rets prog 88 #[v] w0 λr w'=>(∃s:Nat,r=.int .u8 (s:Int)/\StB l l.length s)/\Fr [] w0 w':=by
 obtain⟨A,c,rfl,a7⟩:=id hs.form;refine we [(0,.slice A l.length c)] func88 U ntmps88 U (.cons U .nil) ?_;have a3:=hs;refine sr<|asg U<|nn<|sr<|asg U<|nn<|sq<|sr<|asg U<|nn<|bl<|lpK (ι:=Nat×Nat) (ll1 0) (λO=>[(3,.int .u8 (O.2:Int)),(4,.int .i64<|(O.1:Int)+1)]) (λO w'=>Fr [] w0 w'/\(O.1=0\/O.1<l.length)/\StB l O.1 O.2) (λO=>l.length-O.1) (0,0) (csu U) ⟨l12 _ _,⟨.inl U,k0p l⟩⟩ ?_;rintro⟨k,s⟩ w1 ⟨q1,⟨a2,I⟩⟩;simp only at a2 I;refine kpC [(0,_),(3,.int .u8 (s:Int)),(4,.int .i64<|(k:Int)+1)] (csu U)<|sq<|sr<|mv U U<|mv U U<|lnS U underlying22<|lt' U<|nn<|cd U (λc0=>?_)<|λc0=>?_;refine sk<|tn<|sq<|bl<|sq ?_;have hs:=a3.ext q1;intro a h;have Z:=l12 [] w1;refine z2t (λwb w'=>Fr [] wb w') z2s ?_;intro w2 hq;have hs:=hs.ext hq;have Z:=Z.next hq;have a8:=hq.size;have hC:Fr [] w2 w2:=l12 _ _;have D:=hs;refine z0e 0 h U λa h=>z0e 1 h U λa h=>z3a 2 h U t13 U λa h=>z1e (p:=k) (0) 3 h U hs U y4n U λa5 a0 a h=>z1z 4 h U (λ_ hw=>a0 _<|D.ext hw) na5 U λa h=>z0e 5 h U λa h=>z0e 6 h U λa h=>z1e (p:=(k+1)) (0) 7 h U hs U y4n U λa6 a1 a h=>z1z 8 h U (λ_ hw=>a1 _<|D.ext hw) na5 U λa h=>v4m 9 hC h wn U U λa h=>z0q ?_;clear hC D;refine bk (h.sub (L':=ll4 0 3 4 20)<|csu U)<|tn<|cd U (λc1=>?_)<|λc1=>?_;exact rg<|mv U U<|mv U U<|z2f U (show IntKind.i64.wrap ((k:Int)+1-1)=(k:Int) from (wi6 oo).trans oo)<|j1o (m:=k) U U oo U<|k9h U U I.1 (Nat.pow_lt_pow_right dd (show k<8 by omega)) U<|asg U<|kpL (ll3 0 3 4) (csu U)<|nl<|bn'<|tn<|rg<|mv U U<|z0w U (wi6 oo)<|asg U<|nl<|lpE ((k+1,s ||| 2 ^ k)) (csu U) ⟨(q1.n1 Z),⟨sm,v7u I oo oo c1⟩⟩ sm;exact sk<|bn'<|tn<|rg<|mv U U<|z0w U (wi6 oo)<|asg U<|nl<|lpE ((k+1,s)) (csu U) ⟨(q1.n1 Z),⟨sm,j1q I c1⟩⟩ sm;have a4:=u1v I oo;exact ex<|te<|te<|xh<|tn<|sr<|mv U U<|asg U<|nn<|rt<|r1 results88 U ⟨_,rfl,⟨s,rfl,a4⟩,q1⟩
theorem j0g {l:List UInt8}(hl:l.length<=8):∀k,k=0\/k<l.length->∃s,StB l k s
 | 0,_=>⟨0,k0p l⟩
 | k+1,h=>by
  obtain⟨s,hs⟩:=j0g hl k oo
  by_cases c:((l.getD (k+1) 0).toNat:Int)<((l.getD k 0).toNat:Int)
  ·exact⟨_,v7u hs oo oo c⟩
  exact⟨s,j1q hs c⟩
noncomputable def stN (l:List UInt8):Nat:=Classical.epsilon<|StB l l.length
theorem u4w {l:List UInt8}(hl:l.length<=8):StB l l.length (stN l):=Classical.epsilon_spec (by
 obtain⟨s,hs⟩:=j0g hl (l.length-1) oo
 exact⟨s,u1v hs oo⟩)
theorem k1f {l:List UInt8}{s:Nat}(hl:l.length<=8)(h:StB l l.length s):s=stN l:=Nat.eq_of_testBit_eq λj=>by rw[h.2,(u4w hl).2]
theorem v7v (v:Value)(l:List UInt8)(w0:World)(hs:Sl Enc.b w0 v l)(hl:l.length<=8):Rets prog 88 #[v] w0 λr w'=>r=.int .u8 (stN l:Int)/\Fr [] w0 w':=
 Rets.mono (x4a v l w0 hs hl) (by
  rintro r w' ⟨⟨s,rfl,h⟩,hf⟩
  rw[k1f hl h]
  exact⟨rfl,hf⟩)
theorem j0r (n:Nat)(w0:World)(hn:1<=n/\n<=8):Rets prog 89 #[.int .i64 (n:Int)] w0 λr w'=>r=.int .u8 ((2 ^ (n-1)-1:Nat):Int)/\Fr [] w0 w':=by
 have D:1<=2 ^ (n-1)/\2 ^ (n-1)<256:=⟨Nat.one_le_two_pow,Nat.pow_lt_pow_right (n:=8) dd oo⟩;exact we [(0,.int .i64 (n:Int))] func89 U ntmps89 U (.cons U .nil)<|sr<|asg U<|nn<|sr<|mv U U<|z2f U (show IntKind.i64.wrap ((n:Int)-1)=((n-1:Nat):Int) from (wi6 oo).trans oo)<|j1o (m:=n-1) U U oo U<|z2f U (show IntKind.u8.wrap (((2 ^ (n-1):Nat):Int)-1)=((2 ^ (n-1)-1:Nat):Int) from (wi8 oo).trans oo)<|asg U<|nn<|rt<|r1 results89 U ⟨_,rfl,rfl,(l12 _ _)⟩
def tz8:List UInt8:=[8,0,1,0,2,0,1,0,3,0,1,0,2,0,1,0,4,0,1,0,2,0,1,0,3,0,1,0,2,0,1,0,5,0,1,0,2,0,1,0,3,0,1,0,2,0,1,0,4,0,1,0,2,0,1,0,3,0,1,0,2,0,1,0,6,0,1,0,2,0,1,0,3,0,1,0,2,0,1,0,4,0,1,0,2,0,1,0,3,0,1,0,2,0,1,0,5,0,1,0,2,0,1,0,3,0,1,0,2,0,1,0,4,0,1,0,2,0,1,0,3,0,1,0,2,0,1,0,7,0,1,0,2,0,1,0,3,0,1,0,2,0,1,0,4,0,1,0,2,0,1,0,3,0,1,0,2,0,1,0,5,0,1,0,2,0,1,0,3,0,1,0,2,0,1,0,4,0,1,0,2,0,1,0,3,0,1,0,2,0,1,0,6,0,1,0,2,0,1,0,3,0,1,0,2,0,1,0,4,0,1,0,2,0,1,0,3,0,1,0,2,0,1,0,5,0,1,0,2,0,1,0,3,0,1,0,2,0,1,0,4,0,1,0,2,0,1,0,3,0,1,0,2,0,1,0]
theorem k4n:∀s:Fin 256,s.1≠0->s.1.testBit (tz8.getD s.1 0).toNat=true/\(tz8.getD s.1 0).toNat<8:=by decide +kernel
set_option maxRecDepth 10000 in
theorem k8k (s:Nat)(w0:World)(O:s≠0)(h:s<256):Rets prog 136 #[.int .u8 (s:Int)] w0 λr w'=>(∃k:Nat,r=.int .i64 (k:Int)/\s.testBit k=true/\k<8)/\Fr [] w0 w':=by
 obtain⟨D,I⟩:=k4n ⟨s,h⟩ O;simp only at D I;exact we [(0,.int .u8 (s:Int))] func136 U ntmps136 U (.cons U .nil)<|sr<|asg U<|nn<|sr<|mv U U<|v5u (l:=tz8) (p:=s) U U underlying9 oo (show (s:Int)<((256:Nat):Int) by omega) U U<|λZ=>(z3u U (us underlying5) underlying3 (wi6 oo)<|asg U<|nn<|rt<|r1 results136 U ⟨_,rfl,⟨(tz8.getD s 0).toNat,rfl,D,I⟩,(l12 _ _)⟩)
theorem zv5 (w:World):(zeroValue 5).run prog w=.ok (.int .u8 0) w:=kr
theorem u1u {α:Type}{e:α}{n i:Nat}{u:Nat->α}(h:i<n):((List.range i).map u++List.replicate (n-i) e).set i (u i)=(List.range<|i+1).map u++List.replicate (n-(i+1)) e:=by
 rw[l52 _ _ sp0,l15,l135,l80,show n-i=n-(i+1)+1 by omega,l71,l138,l70,l30,l14];rfl
theorem v1q {α:Type}{d:α}(l:List α):(List.range l.length).map (λi=>l.getD i d)=l:=by
 refine l65 sp0 λi I D=>?_;rw[l76,l139,List.getD,l10 D];rfl
theorem k4f (i:Nat)(w0:World)(hi:i<8):Rets prog 133 #[.int .i64 (i:Int)] w0 λr w'=>r=.int .u8 ((UInt8.ofNat<|i+1).toNat:Int)/\Fr [] w0 w':=by
 have D:((UInt8.ofNat<|i+1).toNat:Int)=(i:Int)+1:=by rw[l37];omega
 exact we [(0,.int .i64 (i:Int))] func133 U ntmps133 U (.cons U .nil)<|sr<|asg U<|nn<|sr<|mv U U<|z0w U (wi6 oo)<|z3u U (us underlying3) underlying5 ((wi8 oo).trans D.symm)<|asg U<|nn<|rt<|r1 results133 U ⟨_,rfl,rfl,(l12 _ _)⟩
theorem k2l (i n D:Nat)(w0:World)(hb:Blk w0 D 3 [.int .i64 (n:Int)])(hi:i<n)(hn:n<=8):Rets prog 134 #[.int .i64 (i:Int),pta D] w0 λr w'=>r=.int .u8 ((UInt8.ofNat<|n-i).toNat:Int)/\Fr [] w0 w':=by
 have I:((UInt8.ofNat<|n-i).toNat:Int)=(n:Int)-i:=by rw[l37];omega
 exact we [(0,.int .i64 (i:Int)),(1,pta D)] func134 U ntmps134 U (.c2 U U)<|sr<|asg U<|nn<|sr<|z1v U hb na3<|mv U U<|z2f U (wi6 oo)<|z3u U (us underlying3) underlying5 ((wi8 oo).trans I.symm)<|asg U<|kpL (ll1 3) (csu U)<|nn<|rt<|r1 results134 U ⟨_,rfl,rfl,(l12 _ _)⟩
theorem k0v (i D:Nat)(v:Value)(l:List UInt8)(w0:World)(hs:Sl Enc.b w0 v l)(hb:Blk w0 D 22 [v])(hi:i<l.length):Rets prog 93 #[.int .i64 (i:Int),pta D] w0 λr w'=>r=.int .u8 ((l.getD i 0).toNat:Int)/\Fr [] w0 w':=by
 obtain⟨A,c,rfl,Z⟩:=id hs.form;refine we [(0,.int .i64 (i:Int)),(1,pta D)] func93 U ntmps93 U (.c2 U U) ?_;have a0:=hs;exact sr<|asg U<|nn<|sr<|z1v U hb x2s<|mv U U<|z0z (p:=i) (0) U hs U y4n oo<|λO I=>(z1b U (I _ hs) na5<|asg U<|kpL (ll1 3) (csu U)<|nn<|rt<|r1 results93 U ⟨_,rfl,rfl,(l12 _ _)⟩)
theorem x8b (n f:Nat)(ws:List Value)(u:Nat->UInt8)(w0:World)(hn:n<=8)(hf:CallOf prog f)(I:∀i w,i<n->Fr [] w0 w->Rets prog f (Value.int .i64 (i:Int)::ws).toArray w λr w'=>r=.int .u8 ((u i).toNat:Int)/\Fr [] w w'):Rets prog 92 #[.int .i64 (n:Int),.func (.func f) #[] ws.toArray] w0 λr w'=>(∃g,r=.slice (saa g) n n/\Lw.Own Enc.b 5 w0.heap.size w' r ((List.range n).map u))/\Fr [] w0 w':=by
 refine we [(0,.int .i64 (n:Int)),(1,.func (.func f) #[] ws.toArray)] func92 U ntmps92 U (.c2 U U)<|sr<|asg U<|nn<|sr<|mv U U<|z1f (m:=n) (c:=n) ((0:UInt8)) U y4n zv5 U<|λO w1 a0 D q1 z1=>(asg U<|nn<|sq<|sr<|mv U U<|lnS U underlying22<|mv U U<|nn<|bl<|lpK (ι:=Nat) (ll3 1 5 10) (λi=>[(11,.int .i64 (i:Int))]) (λi w'=>Fr [O] w1 w'/\i<=n/\Lw.Own Enc.b 5 O w' (.slice (saa O) n n) ((List.range i).map u++List.replicate (n-i) 0)) (λi=>n-i) 0 (csu U) ⟨l12 _ _,⟨l17 _,by simpa using D⟩⟩ ?_);rintro i w2 ⟨Z,⟨hi,D⟩⟩;refine kpC (ll4 1 5 10 11) (csu U)<|sr<|lt' U<|nn<|sq<|cd U (λc0=>?_)<|λc0=>?_;refine sk<|tn<|sq<|bl<|sr<|mv U U<|asg U<|nn<|rg<|mv U U<|mv U U<|mv U U<|mv U U<|clv (us:=[]) (ws:=ws) U (ev1 U) hf (I i _ oo<|q1.z1 Z) U t14 ?_;rintro _ w3 ⟨rfl,q3⟩;have D:=D.ext q3;refine z5h (p:=i) (E:=Enc.b) U y4n<|z3g (i:=i) ((u i)) U D so U sz5<|λw4 D q4 z4=>?_;rw[u1u oo]at D;exact kpL (ll4 1 5 10 11) (csu U)<|nl<|bn'<|tn<|rg<|z0w U (wi6 oo)<|mv U U<|nl<|lpE (i+1) (csu U) ⟨((l12 [O] _).z3 Z q3 q4),⟨oo,D⟩⟩ oo;obtain rfl:i=n:=by omega
 rw[l80,l91,l26]at D;exact ex<|te<|te<|xh<|tn<|sr<|mv U U<|asg U<|kpL (ll1 4) (csu U)<|nn<|rt<|r1 results92 U ⟨_,rfl,⟨O,rfl,D.low oo⟩,(q1.z1 Z)⟩
theorem j0d (v:Value)(l:List UInt8)(w0:World)(hs:Sl Enc.b w0 v l)(hl:l.length<=8):Rets prog 40 #[v] w0 λr w'=>(∃g,r=.slice (saa g) l.length l.length/\Lw.Own Enc.b 5 w0.heap.size w' r l)/\Fr [] w0 w':=by
 obtain⟨A,c,rfl,a0⟩:=id hs.form;refine we [(0,.slice A l.length c)] func40 U ntmps40 U (.cons U .nil) ?_;have O:=hs;refine sr<|bx U<|λZ w1 a1 D q1 z1=>(asg U<|nn<|sr<|z1v U D x2s<|lnS U underlying22<|z4m z0f (ev1 U) ?_);have hs:=O.ext q1;refine cl (ev2 U) (mkC func92) (x8b l.length 93 [pta Z] (λi=>l.getD i 0) _ hl (CallOf.mk' func93 kr kr)<|λi w hi hw=>k0v i Z _ l w (hs.ext hw) (D.fr hw sp0) hi) U ?_;rintro _ w2 ⟨⟨g6,rfl,I⟩,q2⟩;rw[v1q]at I;exact asg U<|nn<|rt<|r1 results40 U ⟨_,rfl,⟨g6,rfl,I.low oo⟩,(q1.n1 q2)⟩
theorem j9q (n:Nat)(w0:World)(hn:n<=8):Rets prog 84 #[.int .i64 (n:Int)] w0 λr w'=>(∃g,r=.slice (saa g) n n/\Lw.Own Enc.b 5 w0.heap.size w' r (idN n))/\Fr [] w0 w':=by
 refine we [(0,.int .i64 (n:Int))] func84 U ntmps84 U (.cons U .nil)<|sr<|asg U<|nn<|sr<|mv U U<|cl (ev2 U) (mkC func92) (x8b n 133 [] (λi=>UInt8.ofNat<|i+1) _ hn (CallOf.mk' func133 kr kr)<|λi w hi O=>k4f i w oo) U ?_;rintro _ w1 ⟨⟨I,rfl,D⟩,q1⟩;exact asg U<|nn<|rt<|r1 results84 U ⟨_,rfl,⟨I,rfl,D.low oo⟩,q1⟩
theorem k3a (n:Nat)(w0:World)(hn:n<=8):Rets prog 85 #[.int .i64 (n:Int)] w0 λr w'=>(∃g,r=.slice (saa g) n n/\Lw.Own Enc.b 5 w0.heap.size w' r (hfN n))/\Fr [] w0 w':=by
 refine we [(0,.int .i64 (n:Int))] func85 U ntmps85 U (.cons U .nil)<|sr<|bx U<|λO w1 a0 D q1 z1=>(asg U<|nn<|sr<|z1v U D na3<|z4m z0f (ev1 U)<|cl (ev2 U) (mkC func92) (x8b n 134 [pta O] (λi=>UInt8.ofNat<|n-i) _ hn (CallOf.mk' func134 kr kr)<|λi w hi hw=>k2l i n O w (D.fr hw sp0) hi hn) U ?_);rintro _ w2 ⟨⟨Z,rfl,I⟩,q2⟩;exact asg U<|nn<|rt<|r1 results85 U ⟨_,rfl,⟨Z,rfl,I.low oo⟩,(q1.n1 q2)⟩
theorem sz4:z1r prog 4 1:=λ_=>kr
theorem k7j (w:World):(zeroValue 210).run prog w=.ok (.agg #[(.bool false),(.bool false),(.bool false),(.bool false),(.bool false),(.bool false),(.bool false),(.bool false),(.bool false)]) w:=kr
theorem v5v {f:List UInt8}{i:Nat}(s:UInt8->UInt8)(h:i<f.length):((f.take i).map s++f.drop i).set i (s<|f.getD i 0)=(f.take<|i+1).map s++f.drop (i+1):=by
 rw[l52 _ _ so,show i-((f.take i).map s).length=0 by simp;omega,l32 h,l138,l54,l10 h,l30,l14,List.getD,l10 h];rfl
theorem j1h {f:List UInt8}{i:Nat}(s:UInt8->UInt8)(h:i<f.length):((f.take i).map s++f.drop i).getD i 0=f.getD i 0:=by
 rw[List.getD,l29 so,show i-((f.take i).map s).length=0 by simp;omega,l100];rfl
theorem u2d {f:List UInt8}{i:Nat}(s:UInt8->UInt8):((f.take i).map s++f.drop i).length=f.length:=so
theorem j2r {f:List UInt8}{i:Nat}(s:UInt8->UInt8)(h:i<f.length)(e:s (f.getD i 0)=f.getD i 0):(f.take i).map s++f.drop i=(f.take<|i+1).map s++f.drop (i+1):=by
 rw[<-v5v s h,e];refine l65 sp0 λj I O=>?_;rw[List.getElem_set];split;rename_i D;subst D;have:=j1h s h;rw[List.getD,l10 I]at this;exact this;rfl
theorem x8v (f:List UInt8)(D k base:Nat)(w0:World)(ho:Lw.Own Enc.b 5 base w0 (.slice (saa D) f.length f.length) f)(hk:k<200)(hn:f.length<=8):Rets prog 83 #[.slice (saa D) f.length f.length,.int .i64 (k:Int)] w0 λr w'=>r=.slice (saa D) f.length f.length/\Lw.Own Enc.b 5 base w' (.slice (saa D) f.length f.length) (f.map<|swK k)/\Fr [D] w0 w':=by
 have a0:((UInt8.ofNat<|k+1).toNat:Int)=(k:Int)+1:=by rw[l37];omega
 have a1:((UInt8.ofNat k).toNat:Int)=(k:Int):=by rw[l37];omega
 refine we [(0,.slice (saa D) f.length f.length),(1,.int .i64 (k:Int))] func83 U ntmps83 U (.c2 U U)<|sr<|asg U<|nn<|sq<|sr<|mv U U<|lnS U underlying22<|mv U U<|nn<|bl<|lpK (ι:=Nat) (ll4 0 1 7 8) (λi=>[(9,.int .i64 (i:Int))]) (λi w'=>Fr [D] w0 w'/\i<=f.length/\Lw.Own Enc.b 5 base w' (.slice (saa D) f.length f.length) ((f.take i).map (swK k)++f.drop i)) (λi=>f.length-i) 0 (csu U) ⟨l12 _ _,⟨l17 _,by simpa using ho⟩⟩ ?_;rintro i w1 ⟨Z,⟨hi,ho⟩⟩;refine kpC (ll5 0 1 7 8 9) (csu U)<|sr<|lt' U<|nn<|sq<|cd U (λc0=>?_)<|λc0=>?_;have O:=j1h (swK k) (show i<f.length by omega);have a2:=(f.getD i 0).toNat_lt;rw[<-O]at a2;have a5:=congrArg UInt8.toNat O;have a4:=u2d (f:=f) (i:=i)<|swK k;refine sk<|tn<|sq<|bl<|sr<|mv U U<|z0z (0) U ho.sl U y4n z1j<|λa3 I=>?_;refine z1b U (I _ ho.sl) na5<|asg U<|asg U<|nn<|sr<|mv U U<|z3u U (us underlying5) underlying3 (wi6 oo)<|nn<|bl<|sr<|mv U U<|eq' U<|asg U<|nn<|cd U (λc1=>?_)<|λc1=>?_;refine rg<|mv U U<|mv U U<|mv U U<|z0w U (wi6 oo)<|z3u U (us underlying3) underlying5 ((wi8 oo).trans a0.symm)<|z5h (p:=i) (E:=Enc.b) U y4n<|z3g (i:=i) ((UInt8.ofNat<|k+1)) U ho (by rw[u2d];omega) U sz5<|λw2 ho q2 z2=>?_;exact kpL (ll5 0 1 7 8 9) (csu U)<|nl<|bn'<|bn'<|tn<|rg<|z0w U (wi6 oo)<|mv U U<|nl<|lpE (i+1) (csu U) ⟨((l12 [D] _).z2 Z q2),⟨oo,by rw[<-v5v (swK k) (show i<f.length by omega),show swK k (f.getD i 0)=UInt8.ofNat (k+1) from if_pos oo];exact ho⟩⟩ oo;refine sr<|mv U U<|z0w U (wi6 oo)<|eq' U<|asg U<|nn<|cd U (λc2=>?_)<|λc2=>?_;refine rg<|mv U U<|mv U U<|mv U U<|z3u U (us underlying3) underlying5 ((wi8 oo).trans a1.symm)<|z5h (p:=i) (E:=Enc.b) U y4n<|z3g (i:=i) ((UInt8.ofNat k)) U ho (by rw[u2d];omega) U sz5<|λw3 ho q3 z3=>?_;exact kpL (ll5 0 1 7 8 9) (csu U)<|nl<|bn'<|bn'<|tn<|rg<|z0w U (wi6 oo)<|mv U U<|nl<|lpE (i+1) (csu U) ⟨((l12 [D] _).z2 Z q3),⟨oo,by rw[<-v5v (swK k) (show i<f.length by omega),show swK k (f.getD i 0)=UInt8.ofNat k from (if_neg oo).trans<|if_pos oo];exact ho⟩⟩ oo;exact sk<|bn'<|bn'<|tn<|rg<|z0w U (wi6 oo)<|mv U U<|nl<|lpE (i+1) (csu U) ⟨((l12 [D] _).z1 Z),⟨oo,by rw[<-j2r (swK k) (show i<f.length by omega) ((if_neg oo).trans<|if_neg oo)];exact ho⟩⟩ oo;obtain rfl:i=f.length:=by omega
 rw[l38,List.drop_length,l26]at ho;exact ex<|te<|te<|xh<|tn<|sr<|mv U U<|asg U<|kpL (ll1 4) (csu U)<|nn<|rt<|r1 results83 U ⟨_,rfl,rfl,ho,((l12 [D] _).z1 Z)⟩
theorem k0k {T:List Bool}{i j:Nat}(h:i<T.length):(T.set i true).getD j false=if i=j then true else T.getD j false:=by
 rw[List.getD,l123];split;rename_i e;subst e;simp[h];rfl
theorem v5k (v:Value)(f:List UInt8)(w0:World)(hs:Sl Enc.b w0 v f)(hp:v9n f.length f)(hn:1<=f.length/\f.length<=8):Rets prog 87 #[v] w0 λr w'=>r=.int .i64 0/\Fr [] w0 w':=by
 obtain⟨A,c,rfl,a7⟩:=id hs.form;refine we [(0,.slice A f.length c)] func87 U ntmps87 U (.cons U .nil) ?_;have a5:=hs;refine sr<|asg U<|nn<|sq<|sr<|mv U U<|lnS U underlying22<|gt' U<|nn<|cd U (λc0=>?_)<|λc0=>?_;exfalso;omega;refine sk<|tn<|sq<|sr<|mv U U<|lnS U underlying22<|eq' U<|nn<|cd U (λc1=>?_)<|λc1=>?_;exfalso;omega;refine sk<|tn<|sr<|al k7j U<|λg3 w1 a8 D q1 z1=>(nn<|sq<|sr<|mv U U<|lnS U underlying22<|mv U U<|nn<|bl ?_);refine lpK (ι:=Nat×List Bool) (ll4 0 3 12 13) (λI=>[(14,.int .i64 (I.1:Int))]) (λI w'=>Fr [g3] w1 w'/\I.1<=f.length/\I.2.length=9/\(∀x,I.2.getD x false=true->∃j,j<I.1/\(f.getD j 0).toNat=x)/\Blk w' g3 210 (bls I.2)) (λI=>f.length-I.1) (0,List.replicate 9 false) (csu U) ⟨l12 _ _,⟨l17 _,rfl,λx O=>by rw[List.getD,l67]at O;split at O<;>simp at O,D⟩⟩ ?_;rintro⟨i,T⟩ w2 ⟨q2,⟨hi,a1,Z,D⟩⟩;simp only at hi a1 Z D;have a3:=D.lt;refine kpC [(0,_),(3,_),(12,_),(13,_),(14,.int .i64 (i:Int))] (csu U)<|sr<|lt' U<|nn<|sq<|cd U (λc2=>?_)<|λc2=>?_;have a0:i<f.length:=by omega
 have a9:=hp.2.2 _<|z1c (d:=0) a0;have a4:¬T.getD (f.getD i 0).toNat false=true:=λe=>by
  obtain⟨j,hj,e2⟩:=Z _ e;have e3:=UInt8.toNat.inj e2;rw[List.getD,List.getD,l10 a0,l10 (show j<f.length by omega)]at e3;exact absurd ((List.getElem_inj (h₀:=by omega) (h₁:=a0) hp.2.1).1 e3) oo
 refine sk<|tn<|sq<|bl<|sr ?_;have hs:=a5.ext<|q1.z1 q2;refine z0z (p:=i) (0) U hs U y4n oo<|λa6 a2=>(z1b U (a2 _ hs) na5<|asg U<|nn<|sq<|sq<|rbo (r:=31) (L':=ll6 0 3 5 12 13 14) ((((((f.getD i 0).toNat:Int)<1)\/((f.length:Int)<((f.getD i 0).toNat:Int)))\/(T.getD (f.getD i 0).toNat false=true))) (csu U) ?_ ?_);refine mv U U<|lt' U<|mv U U<|gs 20 U (λhh=>absurd hh oo)<|λg0=>(gY U<|mv U U<|gY U<|z3u U (us underlying5) underlying3 (wi6 oo)<|gY U<|mv U U<|gY U<|lnS U underlying22<|gY U<|gt' U<|pkf U<|mv U U<|gs 27 U (λhh=>absurd hh oo)<|λg1=>?_);exact gY U<|mv U U<|gY U<|z9x U U underlying210 sz4<|gY U<|z0i U D (k7a (j:=(f.getD i 0).toNat) oo oo) na4<|pkf U<|rbe U<|csu U;refine tn<|cd U (λc3=>?_)<|λc3=>?_;exact absurd (c3.resolve_left<|λh=>oo) a4;refine sk<|tn<|rg<|mv U U<|z9x U U underlying210 sz4<|z3k U D U sz4 (λw3 D q3 z3=>?_) (ho:=(by rw[Nat.blt_eq,bls,l15];omega));replace D:Blk w3 g3 210 (bls<|T.set (f.getD i 0).toNat true):=by rw[bls,l133];rw[bls]at D;simpa using D
 refine nl<|bn'<|tn<|rg<|z0w U (wi6 oo)<|mv U U<|nl ?_;exact lpE ((i+1,T.set (f.getD i 0).toNat true)) (csu U) ⟨((l12 [g3] _).z2 q2 q3),⟨sm,by rw[l19];exact a1,λx O=>by
  simp only at O;rw[k0k oo]at O;split at O;rename_i e;exact⟨i,l116 _,e⟩;obtain⟨j,hj,e⟩:=Z x O;exact⟨j,Nat.lt_succ_of_lt hj,e⟩,D⟩⟩ sm
 exact ex<|te<|te<|xh<|tn<|sr<|asg U<|kpL (ll1 2) (csu U)<|nn<|rt<|r1 results87 U ⟨_,rfl,rfl,(q1.z1 q2)⟩
theorem j6h:CallOf prog 88:=mkC func88
theorem k8t (w:World):(zeroValue 211).run prog w=.ok (.agg #[(.int .u8 0),(.int .u8 0),(.int .u8 0),(.int .u8 0),(.int .u8 0),(.int .u8 0),(.int .u8 0),(.int .u8 0)]) w:=kr
theorem k5k {f:List UInt8}{i n:Nat}(s:UInt8->UInt8)(h:i<f.length)(hn:n=f.length):(List.replicate (n-i) 0++((f.take i).map s).reverse).set (n-1-i) (s<|f.getD i 0)=List.replicate (n-(i+1)) 0++((f.take<|i+1).map s).reverse:=by
 subst hn;rw[show f.length-i=f.length-(i+1)+1 by omega,l73,l14,l52 _ _ so,l23,show f.length-1-i-(f.length-(i+1))=0 by omega,l54,l10 h,l30,List.reverse_append,List.getD,l10 h];rfl
theorem k1n {f:List UInt8}{i n:Nat}(s:UInt8->UInt8)(h:i<=f.length)(hn:n=f.length):(List.replicate (n-i) 0++((f.take i).map s).reverse).length=n:=by subst hn;simp;omega
theorem k2u {n:Nat}{x:UInt8}(D:1<=x.toNat/\x.toNat<=n)(hn:n<=8):((UInt8.ofNat (n+1)-x).toNat:Int)=(n:Int)+1-(x.toNat:Int):=by
 rw[UInt8.toNat_sub_of_le _ _ (by rw[UInt8.le_iff_toNat_le,l37];omega),l37];omega
theorem u7b (v:Value)(f:List UInt8)(w0:World)(hs:Sl Enc.b w0 v f)(hp:v9n f.length f)(hn:1<=f.length/\f.length<=8):Rets prog 91 #[v] w0 λr w'=>(∃g,r=.tuple #[.slice (saa g) f.length f.length,.int .i64 0]/\Lw.Own Enc.b 5 w0.heap.size w' (.slice (saa g) f.length f.length) (flF f.length f))/\Fr [] w0 w':=by
 obtain⟨A,c,rfl,a7⟩:=id hs.form;have a0:((UInt8.ofNat<|f.length+1).toNat:Int)=(f.length:Int)+1:=by rw[l37];omega
 refine we [(0,.slice A f.length c)] func91 U ntmps91 U (.cons U .nil) ?_;have a4:=hs;refine sr<|asg U<|asg U<|nn<|sq<|sr<|mv U U<|cl (ev1 U) (mkC func87) (v5k _ f _ hs hp hn) U ?_;rintro _ w1 ⟨rfl,q1⟩;have z1:=q1.size;refine asg U<|nn<|sr<|mv U U<|ne' U<|nn<|cd U (λc0=>?_)<|λc0=>?_;exact absurd U c0;refine sk<|tn<|sr<|mv U U<|lnS U underlying22<|asg U<|nn<|sr<|mv U U<|z1f (m:=f.length) (c:=f.length) ((0:UInt8)) U y4n zv5 U<|λD w2 a6 I q2 z2=>(asg U<|nn<|sq<|sr<|mv U U<|lnS U underlying22<|mv U U<|nn<|bl<|lpK (ι:=Nat) (ll4 5 6 18 19) (λi=>[(20,.int .i64 (i:Int))]) (λi w'=>Fr [D] w2 w'/\i<=f.length/\Lw.Own Enc.b 5 D w' (.slice (saa D) f.length f.length) (List.replicate (f.length-i) 0++((f.take i).map<|λx=>UInt8.ofNat (f.length+1)-x).reverse)) (λi=>f.length-i) 0 (csu U) ⟨l12 _ _,⟨l17 _,by simpa using I⟩⟩ ?_);rintro i w3 ⟨Z,⟨hi,I⟩⟩;have z3:=Z.size;refine kpC (ll5 5 6 18 19 20) (csu U)<|sr<|lt' U<|nn<|sq<|cd U (λc1=>?_)<|λc1=>?_;have a2:i<f.length:=by omega
 have a3:=hp.2.2 _<|z1c (d:=0) a2;have a1:=k2u a3 hn.2;refine sk<|tn<|sq<|bl<|sr<|mv U U ?_;have hs:=a4.ext<|q1.z2 q2 Z;refine z0z (0) U hs U y4n z1j<|λa5 O=>?_;refine z1b U (O _ hs) na5<|asg U<|asg U<|nn<|rg<|mv U U<|mv U U<|z2f U (wi6 oo)<|mv U U<|z2f U (wi6 oo)<|mv U U<|z0w U (wi6 oo)<|z3u U (us underlying3) underlying5 ((wi8 oo).trans a0.symm)<|mv U U<|z2f U ((wi8 oo).trans (by rw[a1];omega):IntKind.u8.wrap (((UInt8.ofNat<|f.length+1).toNat:Int)-((f.getD i 0).toNat:Int))=((UInt8.ofNat (f.length+1)-f.getD i 0).toNat:Int))<|z5h (p:=(f.length-1-i)) (E:=Enc.b) U y4n<|z3g (i:=(f.length-1-i)) ((UInt8.ofNat (f.length+1)-f.getD i 0)) U I (by rw[k1n _ oo U];omega) U sz5<|λw4 I q4 z4=>?_;rw[k5k (λx=>UInt8.ofNat (f.length+1)-x) oo U]at I;exact kpL (ll5 5 6 18 19 20) (csu U)<|nl<|bn'<|tn<|rg<|z0w U (wi6 oo)<|mv U U<|nl<|lpE (i+1) (csu U) ⟨((l12 [D] _).z2 Z q4),⟨oo,I⟩⟩ oo;obtain rfl:i=f.length:=by omega
 rw[l80,l91,l45,l38]at I;exact ex<|te<|te<|xh<|tn<|sr<|mv U U<|asg U<|asg U<|kpL (ll2 2 3) (csu U)<|nn<|rt<|r2 results91 U U ⟨_,rfl,⟨D,rfl,I.low oo⟩,(q1.z2 q2 Z)⟩
theorem x7y (v:Value)(f:List UInt8)(d:Int)(w0:World)(hs:Sl Enc.b w0 v f)(hp:v9n f.length f)(hn:1<=f.length/\f.length<=8):Rets prog 39 #[v,.int .i64 d] w0 λr w'=>(∃g,r=.slice (saa g) f.length f.length/\Lw.Own Enc.b 5 w0.heap.size w' r (if d % 2=0 then f else flF f.length f))/\Fr [] w0 w':=by
 obtain⟨A,c,rfl,a1⟩:=id hs.form;refine we [(0,.slice A f.length c),(1,.int .i64 d)] func39 U ntmps39 U (.c2 U U) ?_;have a2:=hs;refine sr<|asg U<|nn<|sq<|sr<|mv U U<|k8j U U U<|eq' U<|nn<|cd U (λD=>?_)<|λD=>?_;rw[v0h]at D;refine sr<|mv U U<|cl (ev1 U) (mkC func40) (j0d _ f _ hs hn.2) U ?_;rintro _ w1 ⟨⟨Z,rfl,I⟩,q1⟩;exact asg U<|nn<|rt<|tr<|r1 results39 U ⟨_,rfl,⟨Z,rfl,by rw[if_pos D];exact I.low oo⟩,q1⟩;rw[v0h]at D;refine sk<|tn<|sr<|mv U U<|cl (ev1 U) (mkC func91) (u7b _ f _ hs hp hn) U ?_;rintro _ w2 ⟨⟨a0,rfl,O⟩,q2⟩;exact mv U U<|xt U<|xt U<|asg U<|asg U<|kpL (ll1 5) (csu U)<|nn<|sr<|mv U U<|asg U<|nn<|rt<|r1 results39 U ⟨_,rfl,⟨a0,rfl,by rw[if_neg D];exact O.low oo⟩,q2⟩
theorem k0q {n:Nat}(hn:n<=8){p:Pm n}{B:List UInt8}(hl:B.length=8)(h:∀j:Nat,(hj:j<n)->B.getD (p.f ⟨j,hj⟩).1 0=UInt8.ofNat j):B.take n=p.bl:=by
 refine y8o (n:=n) t19 (x4g p) λi hi=>?_;rw[u1g p hi,<-h _ (p.b ⟨i,hi⟩).2,show (⟨(p.b ⟨i,hi⟩).1,(p.b ⟨i,hi⟩).2⟩:Fin n)=p.b ⟨i,hi⟩ from U,p.fb,List.getD,List.getD,l53,if_pos hi]
theorem v9g {n:Nat}(hn:n<=8)(p:Pm n){i:Nat}(h:i<n):(p.l.getD i 0).toNat=(p.f ⟨i,h⟩).1+1:=by
 rw[y5q p h,l37];have:=(p.f ⟨i,h⟩).2;omega
theorem k5o {B:List UInt8}{i k:Nat}{z:UInt8}(h:i<B.length):(B.set i z).getD k 0=if i=k then z else B.getD k 0:=j5r h
theorem x1x (n:Nat)(p:Pm n)(v:Value)(w0:World)(hs:Sl Enc.b w0 v p.l)(hn:n<=8):Rets prog 90 #[v] w0 λr w'=>(∃s:Nat,r=.int .u8 (s:Int)/\StB p.bl n s)/\Fr [] w0 w':=by
 obtain⟨A,c,rfl,a8⟩:=id hs.form;have b1:=z2m p;refine we [(0,.slice A p.l.length c)] func90 U ntmps90 U (.cons U .nil) ?_;have a5:=hs;refine sr<|asg U<|nn<|sr<|al k8t U<|λg3 w1 a9 D q1 z1=>(nn<|sq<|sr<|mv U U<|lnS U underlying22<|mv U U<|nn<|bl<|lpK (ι:=Nat×List UInt8) (ll4 0 3 6 7) (λZ=>[(8,.int .i64 (Z.1:Int))]) (λZ w'=>Fr [g3] w1 w'/\Z.1<=n/\Z.2.length=8/\(∀j:Nat,(hj:j<n)->j<Z.1->Z.2.getD (p.f ⟨j,hj⟩).1 0=UInt8.ofNat j)/\Blk w' g3 211 (Z.2.map λz=>Value.int .u8 (z.toNat:Int))) (λZ=>n-Z.1) (0,List.replicate 8 0) (csu U) ⟨l12 _ _,⟨l17 _,rfl,λj _ h=>absurd h sp0,D⟩⟩ ?_);rintro⟨i,B⟩ w2 ⟨q2,⟨hi,O,a0,D⟩⟩;simp only at hi O a0 D;have a2:=D.lt;refine kpC [(0,_),(3,_),(6,_),(7,_),(8,.int .i64 (i:Int))] (csu U)<|sr<|lt' U<|nn<|sq<|cd U (λc0=>?_)<|λc0=>?_;have I:i<n:=by omega
 have b0:=v9g hn p I;have hfl:=(p.f ⟨i,I⟩).2;have a3:((UInt8.ofNat i).toNat:Int)=(i:Int):=by rw[l37];omega
 refine sk<|tn<|sq<|bl<|sr<|mv U U ?_;have hs:=a5.ext<|q1.z1 q2;refine z0z (p:=i) (0) U hs U y4n oo<|λa7 a1=>(z1b U (a1 _ hs) na5<|asg U<|asg U<|nn<|rg<|mv U U<|z2f U ((wi8 oo).trans oo:IntKind.u8.wrap (((p.l.getD i 0).toNat:Int)-1)=((p.f ⟨i,I⟩).1:Int))<|mv U U<|z3u U (us underlying3) underlying5 (wi8 oo)<|z9x U U underlying211 sz5<|z3k U D U sz5 (λw3 D q3 z3=>?_) (ho:=(by rw[Nat.blt_eq,l15];omega)));replace D:Blk w3 g3 211 ((B.set (p.f ⟨i,I⟩).1<|UInt8.ofNat i).map λz=>Value.int .u8 (z.toNat:Int)):=by rw[l133,a3];simpa using D
 refine kpL (ll5 0 3 6 7 8) (csu U)<|nl<|bn'<|tn<|rg<|z0w U (wi6 oo)<|mv U U<|nl ?_;exact lpE ((i+1,B.set (p.f ⟨i,I⟩).1<|UInt8.ofNat i)) (csu U) ⟨((l12 [g3] _).z2 q2 q3),⟨sm,by rw[l19];exact O,λj hj a4=>by
  simp only at a4 ⊢;rw[k5o oo];split;rename_i e;exact congrArg UInt8.ofNat (show i=j from congrArg Fin.val<|p.f_inj<|l108 e);rename_i e;refine a0 j hj<|Nat.lt_of_le_of_ne oo<|λe2=>e ?_;subst e2;rfl,D⟩⟩ sm
 obtain rfl:n=i:=by omega
 refine ex<|te<|te<|xh<|tn<|sr<|mv U U<|lnS U underlying22<|k1k (m:=n) U U oo hn underlying211 sz5 U<|cl (ev1 U) j6h (by have x:=x4a _ p.bl _ (by have y:=j2l (m:=n) D O dd hn;rw[k0q hn O (λj hj=>a0 j hj oo)]at y;exact y) (by rw[x4g];exact hn);rw[x4g]at x;exact x) U ?_;rintro _ w4 ⟨⟨s,rfl,a6⟩,q4⟩;exact asg U<|kpL (ll1 2) (csu U)<|nn<|rt<|r1 results90 U ⟨_,rfl,⟨s,rfl,a6⟩,(q1.z2 q2 q4)⟩
open Go.Lw Go.G21 Go.G08 Go.G09 Go.G26 _root_.Go.Proofs.Tryz
variable {n:Nat}
def k6f (p q:Pm n)(s:Nat):Prop:=s<256/\∀j,s.testBit j=true↔∃h:j+1<n,Pm.Sb q ⟨j,h⟩/\¬Pm.Eb p ⟨j,h⟩
theorem y9s {p q:Pm n}{O D:Nat}(hn:n<=8)(h1:StB q.l n O)(I:StB p.bl n D):k6f p q (O &&& (255-D)):=by
 refine⟨Nat.lt_of_le_of_lt Nat.and_le_left h1.1,λj=>?_⟩;have Z:(255-D).testBit j=(decide (j<8) && ! D.testBit j):=by rw[show 255-D=2 ^ 8-(D+1) by omega];exact Nat.testBit_two_pow_sub_succ (n:=8) I.1 j
 rw[Nat.testBit_and,Z,h1.2,I.2,z2m,x4g];constructor;intro h;simp only[l92,decide_eq_true_eq,Bool.not_eq_true',decide_eq_false_iff_not]at h;exact⟨h.1.2.1,(j8n hn h.1.2.1).2 h.1.2.2,λe=>h.2.2 ⟨oo,h.1.2.1,(En_l hn h.1.2.1).1 e⟩⟩;rintro⟨h,a,b⟩;simp only[l92,decide_eq_true_eq,Bool.not_eq_true',decide_eq_false_iff_not];exact⟨⟨oo,h,(j8n hn h).1 a⟩,oo,λe=>b<|(En_l hn h).2 e.2.2⟩
theorem k3s {p q:Pm n}(h:k6f p q 0)(k:Lt n)(I:Pm.Sb q k):Pm.Eb p k:=l104 λD=>by
 have:=(h.2 k.1).2 ⟨k.2,I,D⟩
 rw[Nat.zero_testBit]at this;cases this
structure MvS (F G:Nat->Pm n) (a b:Nat) (t:Bool):Prop where
  o:∀g,g≠a->g≠b->G g=F g
  y:t=true->Mvp [F a,F b] [G a,G b]
  no:t=false->G=F
theorem MvS.start (F:Nat->Pm n)(a b:Nat):MvS F F a b false:=⟨λ_ _ _=>rfl,λh=>(by cases h),λ_=>rfl⟩
theorem MvS.mvs {F G:Nat->Pm n}{a b:Nat}{t:Bool}(h:MvS F G a b t):Mvs [F a,F b] [G a,G b]:=by
 cases t with
 | true=>exact(h.y U).mvs
 | false=>rw[h.no U];exact .refl
theorem MvS.step {F G:Nat->Pm n}{a b:Nat}{t:Bool}(h:MvS F G a b t)(D:a≠b){k:Lt n}(hs:Pm.Sb (G b) k)(he:¬Pm.Eb (G a) k):MvS F (upF (upF G a<|Pm.sR k<|G a) b<|Pm.sL k<|G b) a b true:=by
 have Z:upF (upF G a<|Pm.sR k<|G a) b (Pm.sL k<|G b) a=Pm.sR k (G a):=(y7j D).trans<|y8u _ _ _;have e2:upF (upF G a<|Pm.sR k<|G a) b (Pm.sL k<|G b) b=Pm.sL k (G b):=y8u _ _ _;refine⟨λg I O=>by rw[y7j O,y7j I];exact h.o g I O,λ_=>?_,λh=>by cases h⟩;rw[Z,e2];have st:Mv [G a,G b] [Pm.sR k (G a),Pm.sL k (G b)]:=.here k hs he;cases t with
 | true=>
  obtain⟨m,m1,m2⟩:=h.y U;exact⟨m,m1,m2.trans<|.one st⟩
 | false=>rw[h.no U]at st ⊢;exact⟨_,st,.refl⟩
theorem z8x {G:Nat->Pm n}{a b:Nat}(hn:n<=8){k:Lt n}(hs:Pm.Sb (G b) k):y3c (upF (upF G a<|Pm.sR k<|G a) b (Pm.sL k<|G b) b).l<y3c (G b).l:=by
 rw[y8u];have:=u2i hn hs;omega
theorem j9e (n:Nat)(wS w0:World)(A:List Nat)(F:Nat->Pm n)(I D:Nat)(hF:FacT 5 n wS w0 A F)(ha:I∈A)(hb:D∈A)(a6:I≠D)(hn:n<=8):Rets prog 135 #[.slice (saa I) n n,.slice (saa D) n n] w0 λr w'=>∃(t:Bool) (G:Nat->Pm n),r=.bool t/\FacT 5 n wS w' A G/\MvS F G I D t/\(∀k:Lt n,Pm.Sb (G D) k->Pm.Eb (G I) k)/\Fr [I,D] w0 w':=by
 refine we [(0,.slice (saa I) n n),(1,.slice (saa D) n n)] func135 U ntmps135 U (.c2 U U)<|sr<|asg U<|nn<|sr<|asg U<|nn<|sq<|sr<|mv U U<|cl (ev1 U) j6h (by have x:=x4a _ (F D).l _ (hF.r D hb).sl (by rw[z2m];exact hn);rw[z2m]at x;exact x) U ?_;rintro _ w1 ⟨⟨s1,rfl,a0⟩,q1⟩;refine mv U U ?_;have hF:=hF.ext q1;refine cl (ev1 U) (mkC func90) (x1x n (F I) _ _ (hF.r I ha).sl hn) U ?_;rintro _ w2 ⟨⟨s2,rfl,a1⟩,q2⟩;refine x1o U U a0.1 a1.1 U<|asg U<|nn<|bl ?_;have hF:=hF.ext q2;refine lpK (ι:=Bool×Nat×(Nat->Pm n)) (ll2 0 1) (λp_=>[(5,.bool p_.1),(6,.int .u8 (p_.2.1:Int))]) (λp_ w'=>Fr [I,D] w2 w'/\MvS F p_.2.2 I D p_.1/\k6f (p_.2.2 I) (p_.2.2 D) p_.2.1/\FacT 5 n wS w' A p_.2.2) (λp_=>y3c (p_.2.2 D).l) (false,s1 &&& (255-s2),F) (csu U) ⟨l12 _ _,⟨MvS.start F I D,y9s hn a0 a1,hF⟩⟩ ?_;rintro⟨t,s,G⟩ w3 ⟨q3,⟨hM,hS,hF⟩⟩;simp only at hM hS hF;refine kpC [(0,_),(1,_),(5,.bool t),(6,.int .u8 (s:Int))] (csu U)<|sq<|sr<|mv U U<|ne' U<|nn<|cd U (λc0=>?_)<|λc0=>?_;have a7:s≠0:=λe=>c0 (by rw[e];rfl);refine sk<|tn<|sq<|bl<|sr<|mv U U<|cl (ev1 U) (mkC func136) (k8k s _ a7 hS.1) U ?_;rintro _ w4 ⟨⟨k,rfl,b3,b7⟩,q4⟩;obtain⟨O,a2,b0⟩:=(hS.2 k).1 b3;have b8:=z2m<|G D;refine z0w U (wi6 oo)<|asg U<|kpL (ll3 0 1 7) (csu U)<|nn<|sr<|mv U U<|mv U U ?_;have hF:=hF.ext q4;refine cl (ev2 U) (mkC func83) (by have x:=x8v (G I).l I (k+1) 0 _ (by have y:=hF.r I ha;rw[z2m];exact y) oo (by rw[z2m];exact hn);rw[z2m]at x;exact x) U ?_;rintro _ w5 ⟨rfl,b1,q5⟩;replace hF:FacT 5 n wS w5 A (upF G I<|Pm.sR (⟨k,O⟩:Lt n)<|G I):=hF.upd ha q5 (by rw[k5w hn];exact b1);clear b1;have a9:=hF;have ho:Lw.Own Enc.b 5 0 w5 (.slice (saa D) n n) (G D).l:=by have y:=hF.r D hb;rw[y7j a6.symm]at y;exact y
 refine nn<|sq ?_;intro a h;refine z0h (some 17) (λwb w'=>Fr [D] wb w') z2s ?_;intro w6 q6;have ho:=ho.ext q6;have hC:Fr [D] w6 w6:=l12 _ _;have a5:=ho;refine z0e 0 h U λa h=>z0e 1 h U λa h=>z3a 2 h U t13 U λa h=>z0e 3 h U λa h=>z0e 4 h U λa h=>z0e 5 h U λa h=>z0e 6 h U λa h=>z1e (p:=(k+1)) (0) 7 h U ho.sl U y4n U λb5 a3 a h=>z0e 9 h U λa h=>z0e 10 h U λa h=>z3a 11 h U t13 U λa h=>z1e (p:=k) (0) 12 h U ho.sl U y4n U λb6 a4 a h=>z1u 8 13 kr U ?_ ?_;refine z9q h U (a3 _ ho.sl) na5 U λa h=>z0b<|z0d 13 U<|z9q h U (a4 _ ho.sl) na5 U λa h=>?_;refine z0b<|z1m 14 kr hC (p:=k) h wn U y4n oo oo oo U U λa h=>z0d 15 U<|z1a (i:=k) (((G D).l.getD (k+1) 0)) h U ho t48 U sz5 λw7 Z q7 _hz a h=>?_;have hC:=hC.sp q7;have ho:=Z;clear Z;refine z0b<|z1m 16 kr hC (p:=(k+1)) h wn U y4n oo oo oo U U λa h=>z0d 17 U<|z1a (i:=(k+1)) (((G D).l.getD k 0)) h U ho (by rw[l19,z2m];omega) U sz5 λw8 Z q8 _hz a h=>?_;have ho:=Z;clear Z;refine z1l<|z0q ?_;clear hC a5;have hF:FacT 5 n wS w8 A (upF (upF G I<|Pm.sR (⟨k,O⟩:Lt n)<|G I) D<|Pm.sL (⟨k,O⟩:Lt n)<|G D):=a9.upd hb ((l12 [D] _).z3 q6 q7 q8) (by rw[k8m];exact ho);refine bk (h.sub (L':=ll2 0 1)<|csu U)<|tn<|rg<|asg U<|nl<|bn'<|tn<|rg<|mv U U<|cl (ev1 U) j6h (by have x:=x4a _ ((upF (upF G I<|Pm.sR (⟨k,O⟩:Lt n)<|G I) D<|Pm.sL (⟨k,O⟩:Lt n)<|G D) D).l _ (hF.r D hb).sl (by rw[z2m];exact hn);rw[z2m]at x;exact x) U ?_;rintro _ w9 ⟨⟨s1,rfl,a0⟩,q9⟩;refine mv U U ?_;have hF:=hF.ext q9;refine cl (ev1 U) (mkC func90) (x1x n ((upF (upF G I<|Pm.sR (⟨k,O⟩:Lt n)<|G I) D<|Pm.sL (⟨k,O⟩:Lt n)<|G D) I) _ _ (hF.r I ha).sl hn) U ?_;rintro _ b9 ⟨⟨s2,rfl,a1⟩,q10⟩;refine x1o U U a0.1 a1.1 U<|asg U<|nl ?_;have hF:=hF.ext q10;exact lpE ((true,s1 &&& (255-s2),(upF (upF G I<|Pm.sR (⟨k,O⟩:Lt n)<|G I) D<|Pm.sL (⟨k,O⟩:Lt n)<|G D))) (csu U) ⟨((((l12 [I,D] _).z6 q3 q4 q5 q6 q7 q8).n1 q9).n1 q10),⟨hM.step a6 a2 b0,y9s hn a0 a1,hF⟩⟩<|z8x hn a2;refine z9q h U (a4 _ ho.sl) na5 U λa h=>z0b<|z0d 8 U<|z9q h U (a3 _ ho.sl) na5 U λa h=>?_;refine z0b<|z1m 14 kr hC (p:=k) h wn U y4n oo oo oo U U λa h=>z0d 15 U<|z1a (i:=k) (((G D).l.getD (k+1) 0)) h U ho t48 U sz5 λc1 Z a8 _hz a h=>?_;have hC:=hC.sp a8;have ho:=Z;clear Z;refine z0b<|z1m 16 kr hC (p:=(k+1)) h wn U y4n oo oo oo U U λa h=>z0d 17 U<|z1a (i:=(k+1)) (((G D).l.getD k 0)) h U ho (by rw[l19,z2m];omega) U sz5 λb4 Z b2 _hz a h=>?_;have ho:=Z;clear Z;refine z1l<|z0q ?_;clear hC a5;have hF:FacT 5 n wS b4 A (upF (upF G I<|Pm.sR (⟨k,O⟩:Lt n)<|G I) D<|Pm.sL (⟨k,O⟩:Lt n)<|G D):=a9.upd hb ((l12 [D] _).z3 q6 a8 b2) (by rw[k8m];exact ho);refine bk (h.sub (L':=ll2 0 1)<|csu U)<|tn<|rg<|asg U<|nl<|bn'<|tn<|rg<|mv U U<|cl (ev1 U) j6h (by have x:=x4a _ ((upF (upF G I<|Pm.sR (⟨k,O⟩:Lt n)<|G I) D<|Pm.sL (⟨k,O⟩:Lt n)<|G D) D).l _ (hF.r D hb).sl (by rw[z2m];exact hn);rw[z2m]at x;exact x) U ?_;rintro _ c9 ⟨⟨s1,rfl,a0⟩,q13⟩;refine mv U U ?_;have hF:=hF.ext q13;refine cl (ev1 U) (mkC func90) (x1x n ((upF (upF G I<|Pm.sR (⟨k,O⟩:Lt n)<|G I) D<|Pm.sL (⟨k,O⟩:Lt n)<|G D) I) _ _ (hF.r I ha).sl hn) U ?_;rintro _ d0 ⟨⟨s2,rfl,a1⟩,q14⟩;refine x1o U U a0.1 a1.1 U<|asg U<|nl ?_;have hF:=hF.ext q14;exact lpE ((true,s1 &&& (255-s2),(upF (upF G I<|Pm.sR (⟨k,O⟩:Lt n)<|G I) D<|Pm.sL (⟨k,O⟩:Lt n)<|G D))) (csu U) ⟨((((l12 [I,D] _).z6 q3 q4 q5 q6 a8 b2).n1 q13).n1 q14),⟨hM.step a6 a2 b0,y9s hn a0 a1,hF⟩⟩<|z8x hn a2;have a7:s=0:=by omega
 subst a7;refine ex<|te<|te<|xh<|tn<|sr<|mv U U<|asg U<|kpL (ll1 4) (csu U)<|nn<|rt<|r1 results135 U ?_;exact⟨_,rfl,t,G,rfl,hF,hM,λk hk=>k3s hS k hk,((l12 [I,D] _).z3 q1 q2 q3)⟩
open Go.Lw Go.G21 Go.G08 Go.G09 Go.G26 _root_.Go.Proofs.Tryz
theorem y5f:ElemOf prog 65 22 Enc.sl 24:=ElemOf.mk' (z:=(.slice none 0 0)) underlying65 kr U
variable {n:Nat}
theorem j5n {p:Pm n}(hn:n<=8):stN p.l=0↔p=Pm.one:=by
 have I:=u4w (l:=p.l) (by rw[z2m];exact hn);constructor;intro h;rw[h]at I;refine v9z λk O=>?_;have:=I.2 k.1;rw[Nat.zero_testBit,z2m]at this;have D:=k.2;exact absurd this.symm (by simp only[decide_eq_false_iff_not];exact λh=>h ⟨oo,D,(j8n hn D).1 O⟩);intro h;subst h;refine Nat.eq_of_testBit_eq λj=>?_;rw[I.2,Nat.zero_testBit,z2m];exact decide_eq_false λh=>u9r ⟨j,h.2.1⟩<|(j8n hn h.2.1).2 h.2.2
theorem j3s {p:Pm n}(hn:n<=8)(h1:1<=n):stN p.l=2 ^ (n-1)-1↔p=Pm.half:=by
 have D:=u4w (l:=p.l) (by rw[z2m];exact hn);constructor;intro h;rw[h]at D;refine u6l λk=>?_;have:=D.2 k.1;have I:=k.2;rw[Nat.testBit_two_pow_sub_one,z2m,decide_eq_true oo]at this;exact(j8n hn I).2 (of_decide_eq_true this.symm).2.2;intro h;subst h;refine Nat.eq_of_testBit_eq λj=>?_;rw[D.2,Nat.testBit_two_pow_sub_one,z2m];exact decide_eq_decide.2 ⟨λh=>oo,λh=>⟨oo,oo,(j8n hn (by omega:j+1<n)).1<|v6u _⟩⟩
structure PutP (F H G:Nat->Pm n) (L:List Nat) (i:Nat) (ag:Bool):Prop where
  o:∀x,x∉L->G x=F x
  m:Mvs (L.map F) (L.map G)
  y:ag=true->ms 0 (L.map G)<ms 0 (L.map H)
  no:ag=false->G=H/\∀j,i<j->j<L.length->∀k,Pm.Sb (G<|L.getD j 0) k->Pm.Eb (G<|L.getD (j-1) 0) k
theorem PutP.step {F H G D:Nat->Pm n}{L:List Nat}{i:Nat}{O t:Bool}(hn:n<=8)(h:PutP F H G L i O)(hd:L.Nodup)(h0:0<i)(hi:i<L.length)(hM:MvS G D (L.getD (i-1) 0) (L.getD i 0) t)(he:∀k,Pm.Sb (D<|L.getD i 0) k->Pm.Eb (D<|L.getD (i-1) 0) k):PutP F H D L (i-1) (O || t):=by
 have Z:=u3v (i:=i-1) hM.o hd oo U (by rw[Nat.sub_add_cancel h0]);have hG:Mvs (L.map G) (L.map D):=by rw[Z.1,Z.2];exact((hM.mvs).app _).pre _
 have a1:=hG.less hn;refine⟨λx hx=>by rw[hM.o x (λe=>hx (e▸z3q oo)) (λe=>hx (e▸z3q hi))];exact h.o x hx,h.m.trans hG,λha=>?_,λha=>?_⟩;cases O with
 | true=>have:=h.y U;omega
 | false=>
  obtain⟨m,m1,m2⟩:=hM.y (by simpa using ha);have e:ms 0 (L.map D)<ms 0 (L.map G):=by rw[Z.1,Z.2];exact Mvp.less hn ⟨_,(m1.app _).pre _,(m2.app _).pre _⟩
  rw[(h.no U).1]at e;exact e
 have I:O=false/\t=false:=by simpa using ha
 obtain⟨e1,e2⟩:=h.no I.1;have e3:=hM.no I.2;refine⟨e3.trans e1,λj hj a0=>?_⟩;by_cases e:j=i;subst e;exact he;rw[e3];exact e2 j oo a0
theorem PutP.fin {F H G:Nat->Pm n}{L:List Nat}(h:PutP F H G L 0 false):Ir (L.map G):=k3i λi f g hf D k=>by
 rw[l24]at hf D
 have hl:i+1<L.length:=by
  cases e:L[i+1]? with
  | none=>rw[e]at D;cases D
  | some x=>exact(l50.1 e).1
 have:=(h.no U).2 (i+1) oo hl k
 rw[l87,List.getD,List.getD]at this
 rw[l10 hl]at D this
 rw[l10 oo]at hf this
 cases hf;cases D
 exact this
structure PutS (F G:Nat->Pm n) (L:List Nat) (m:Nat):Prop where
  o:∀x,x∉L->G x=F x
  mv:Mvs (L.map F) (L.map G)
  ir:Ir (L.map G)
  z:∀x∈L.drop m,G x=Pm.one
  l:0<m->G (L.getD (m-1) 0)≠Pm.one
theorem z6r {L:List Nat}{i:Nat}(h:i<L.length):(Value.slice (some ⟨L.getD i 0,0,none⟩) n n:Value)=.slice ((L.map<|hdr n).getD i sv0).1 ((L.map<|hdr n).getD i sv0).2.1 ((L.map<|hdr n).getD i sv0).2.2:=by rw[v7h h]
theorem u5p {G:Nat->Pm n}{L:List Nat}{m:Nat}(I:0<m)(O:m<=L.length)(h:∀x∈L.drop m,G x=Pm.one)(e:G (L.getD (m-1) 0)=Pm.one):∀x∈L.drop (m-1),G x=Pm.one:=λx D=>by
 rw[l32 (show m-1<L.length by omega),Nat.sub_add_cancel I]at D
 rcases l56.1 D with rfl|D
 ·rw[List.getD,l10 (show m-1<L.length by omega)]at e;exact e
 exact h x D
theorem j7s {T b m c:Nat}{w:World}{A:Option Addr}{L:List Nat}(h:Lw.Own Enc.sl T b w (.slice A m c) ((L.take m).map<|hdr n))(D:0<m)(O:m<=L.length)(I:m<=c):Lw.Own Enc.sl T b w (.slice A (m-1) c) ((L.take<|m-1).map<|hdr n):=by
 have x:=h.take U (m:=m-1) (by rw[l15,l27];omega) (l20 c) oo;rwa [<-List.map_take,List.take_take,Nat.min_eq_left oo]at x
theorem y6b {L:List Nat}{m i:Nat}(h:i<m):(L.take m).getD i 0=L.getD i 0:=by rw[List.getD,List.getD,l53,if_pos h]
theorem j5t (n:Nat)(wS w0:World)(A:List Nat)(F:Nat->Pm n)(hs:List Nat)(gx:Nat)(v:Value)(I:FacT 5 n wS w0 A F)(hd:(hs++[gx]).Nodup)(hA:∀x∈hs++[gx],x∈A)(hv:Lw.Own Enc.sl 22 wS.heap.size w0 (v) (hs.map<|hdr n))(hl:hs.length<=200)(hn:n<=8):Rets prog 94 #[v,.slice (saa gx) n n] w0 λr w'=>∃(G:Nat->Pm n) (m:Nat),FacT 5 n wS w' A G/\m<=(hs++[gx]).length/\Lw.Own Enc.sl 22 wS.heap.size w' (r) (((hs++[gx]).take m).map<|hdr n)/\PutS F G (hs++[gx]) m/\Fr (z0v v++(hs++[gx])) w0 w':=by
 obtain⟨AV,cV,rfl,e5⟩:=id hv.sl.form;obtain⟨L,hL⟩:∃L,L=hs++[gx]:=⟨_,rfl⟩;have e4:L.length=hs.length+1:=by rw[hL,l13];rfl
 rw[<-hL]at hd hA ⊢;have b8:(hs.map<|hdr n).length=hs.length:=l15 ..;have e8:=I.f.size;refine we [(0,.slice AV (hs.map<|hdr n).length cV),(1,.slice (saa gx) n n)] func94 U ntmps94 U (.c2 U U)<|sr<|asg U<|nn<|sr<|mv U U<|mv U U<|z1i ([hdr n gx]) (ev1 U) U y5f<|λe3 w1 e2 c9 q1 z1=>?_;have I:=I.ext q1;have hv:=hv.ext q1;have a3:=hv;refine z2h U hv c9.sl y5f (λe9 w2 O q2 d7=>?_) (hM:=(by unfold maxLen;rw[b8];simp only[l33,l57];omega)) (hb:=(by rw[b8];simp only[l33,l57];omega));have I:=I.fr q2<|λk hk=>⟨I.ne a3 dd k hk,(a3.blk k hk).1⟩;refine asg U ?_;have d1:hs.map (hdr n)++[hdr n gx]=L.map (hdr n):=by rw[hL,l30];rfl
 rw[d1]at O;obtain⟨a4,a5,rfl,b4⟩:=O.sl.form;have a8:(L.map<|hdr n).length=L.length:=l15 ..;rw[a8]at b4;refine nn<|sr<|asg U<|nn<|sq<|sr<|asg U<|nn<|bl<|lpK (ι:=Bool×(Nat->Pm n)) (ll2 0 5) (λZ=>[(6,.bool Z.1)]) (λZ w'=>Fr L w2 w'/\FacT 5 n wS w' A Z.2/\Lw.Own Enc.sl 22 wS.heap.size w' (.slice a4 (L.map<|hdr n).length a5) (L.map<|hdr n)/\(∀x,x∉L->Z.2 x=F x)/\Mvs (L.map F) (L.map Z.2)/\(Z.1=false->Ir (L.map Z.2))) (λZ=>2*ms 0 (L.map Z.2)+(if Z.1=true then 1 else 0)) (true,F) (csu U) ⟨l12 _ _,I,O,λ_ _=>rfl,.refl,λh=>by cases h⟩ ?_;rintro⟨d0,H⟩ w3 ⟨D,I,O,a6,a7,b3⟩;simp only at I O a6 a7 b3 D;refine kpC [(0,_),(5,_),(6,.bool d0)] (csu U)<|sq<|sr<|mv U U<|nn<|cd U (λc0=>?_)<|λc0=>?_;refine sk<|tn<|bl<|sr<|asg U<|nn<|sr<|mv U U<|lnS U underlying65<|z2f U (show IntKind.i64.wrap (((L.map<|hdr n).length:Int)-1)=((L.length-1:Nat):Int) from (wi6 oo).trans oo)<|asg U<|nn<|bl<|lpK (ι:=Nat×Bool×(Nat->Pm n)) (ll2 0 5) (λZ=>[(7,.int .i64 (Z.1:Int)),(6,.bool Z.2.1)]) (λZ w'=>Fr L w2 w'/\Z.1<L.length/\PutP F H Z.2.2 L Z.1 Z.2.1/\FacT 5 n wS w' A Z.2.2/\Lw.Own Enc.sl 22 wS.heap.size w' (.slice a4 (L.map<|hdr n).length a5) (L.map<|hdr n)) (λZ=>Z.1) (L.length-1,false,H) (csu U) ⟨D,sm,⟨a6,a7,λh=>(by cases h),λ_=>⟨rfl,λj hj e6=>by simp only at hj;omega⟩⟩,I,O⟩ ?_;rintro⟨i,ag,G⟩ w4 ⟨D,a1,hP,I,O⟩;simp only at a1 hP I O D;refine kpC [(0,_),(5,_),(7,.int .i64 (i:Int)),(6,.bool ag)] (csu U)<|sq<|sr<|mv U U<|gt' U<|nn<|cd U (λc1=>?_)<|λc1=>?_;have d3:=hA _<|z3q (A:=L) (i:=i-1) oo;have d4:=hA _<|z3q a1;have d5:=v8z hd (i:=i-1) (j:=i) oo a1 oo;refine sk<|tn<|sq<|bl<|sq ?_;intro a h;refine z0h (some 10) (λwb w'=>Fr [(L.getD (i-1) 0),(L.getD i 0)] wb w') z2s ?_;intro w5 q5;have D:=D.ext q5;have I:=I.ext q5;have O:=O.ext q5;have hC:Fr [(L.getD (i-1) 0),(L.getD i 0)] w5 w5:=l12 _ _;have a9:=D;have b2:=I;have a2:=O;refine z0e 0 h U λa h=>z0e 1 h U λa h=>z0e 2 h U λa h=>z3a 3 h U t13 U λa h=>z1e (p:=(i-1)) (sv0) 4 h U O.sl U y5f U λd9 b5 a h=>z1z 5 h U (λ_ hw=>b5 _<|a2.sl.fr hw (by intro k hk hb;exact I.ne O dd k hb (by simp only[l56,l128,or_false]at hk;rcases hk with rfl|rfl<;>assumption))) x2s U λa h=>z0e 6 h U λa h=>z0e 7 h U λa h=>z1e (p:=i) (sv0) 8 h U O.sl U y5f U λe0 b6 a h=>z1z 9 h U (λ_ hw=>b6 _<|a2.sl.fr hw (by intro k hk hb;exact I.ne O dd k hb (by simp only[l56,l128,or_false]at hk;rcases hk with rfl|rfl<;>assumption))) x2s U λa h=>z0d 10 U ?_;refine y0n (us:=[]) (ws:=[]) h U (z0a U<|z0a U z0f) (mkC func135) (by have x:=j9e n wS _ A G (L.getD (i-1) 0) (L.getD i 0) I d3 d4 d5 hn;rw[z6r (n:=n) (show i-1<L.length by omega),z6r (n:=n) (show i<L.length by omega)]at x;exact x) U t14 ?_;rintro _ w6 ⟨t,G1,rfl,b1,hM,hE,hq⟩ a h;have D:=D.fr hq (λk hk _=>by simp only[l56,l128,or_false]at hk;rcases hk with rfl|rfl;exact z3q oo;exact z3q a1);have O:=O.fr hq (by intro k hk hb;exact I.ne O dd k hb (by simp only[l56,l128,or_false]at hk;rcases hk with rfl|rfl<;>assumption));have q6:=hq;have I:=b1;clear b1;refine z1l<|z0q ?_;clear hC a9 b2 a2;refine bk (h.sub (L':=ll5 0 5 6 7 30)<|csu U)<|tn<|cd U (λc2=>?_)<|λc2=>?_;exact rg<|asg U<|nl<|bn'<|tn<|rg<|mv U U<|z2f U (show IntKind.i64.wrap ((i:Int)-1)=((i-1:Nat):Int) from (wi6 oo).trans oo)<|asg U<|nl<|lpE ((i-1,true,G1)) (csu U) ⟨D,sm,by have x:=hP.step hn hd oo a1 hM hE;rw[c2,Bool.or_true]at x;exact x,I,O⟩ sm;exact sk<|bn'<|tn<|rg<|mv U U<|z2f U (show IntKind.i64.wrap ((i:Int)-1)=((i-1:Nat):Int) from (wi6 oo).trans oo)<|asg U<|nl<|lpE ((i-1,ag,G1)) (csu U) ⟨D,sm,by have x:=hP.step hn hd oo a1 hM hE;rw[show t=false by simpa using c2,Bool.or_false]at x;exact x,I,O⟩ sm;obtain rfl:i=0:=by omega
 refine ex<|te<|te<|xh<|bn' ?_;exact lpE ((ag,G)) (csu U) ⟨D,I,O,hP.o,hP.m,λe=>by simp only at e;subst e;exact hP.fin⟩ (by
  have hy:=hP.y;have d6:=hP.no;simp only[c0,if_true];by_cases e:ag=true;have:=hy e;rw[if_pos e];omega;rw[if_neg e,(d6 (by simpa using e)).1];omega)
 have b9:=b3 (by simpa using c0);refine ex<|te<|te<|xh<|tn<|sq<|bl<|lpK (ι:=Nat) [] (λm=>[(0,.slice a4 m a5)]) (λm w'=>Fr L w2 w'/\m<=L.length/\(∀x∈L.drop m,H x=Pm.one)/\FacT 5 n wS w' A H/\Lw.Own Enc.sl 22 wS.heap.size w' (.slice a4 m a5) ((L.take m).map<|hdr n)) (λm=>m) (L.map<|hdr n).length (csu U) ⟨D,by rw[a8];exact l20 _,λx hx=>(by rw[a8,List.drop_length]at hx;cases hx),I,by have y:=O;rw[a8]at y ⊢;rw[l38];exact y⟩ ?_;rintro m w7 ⟨D,hm,b0,I,a0⟩;refine kpC (ll1 0) (csu U) ?_;have e7:((L.take m).map<|hdr n).length=m:=by rw[l15,l27];omega
 refine sq<|sr<|mv U U<|lnS U underlying65<|gt' U<|mv U U<|gs 34 U (λg0=>?_)<|λg0=>?_;refine gY U<|mv U U<|gY U<|mv U U<|gY U<|lnS U underlying65<|gY U<|z2f U (wi6 oo)<|gY U<|z0z (p:=(m-1)) (sv0) U a0.sl U y5f oo<|λe1 b7=>(gY U<|z1b U (b7 _ a0.sl) x2s<|gY U<|cl (ev1 U) j6h (by have x:=v7v (.slice (some ⟨((L.take m).getD (m-1) 0),0,none⟩) n n) (H<|(L.take m).getD (m-1) 0).l _ (I.r _ (by rw[y6b oo];exact hA _<|z3q oo)).sl (by rw[z2m];exact hn);rw[z6r (n:=n) (L:=L.take m) t19]at x;exact x) U ?_);rintro _ w8 ⟨rfl,q8⟩;refine gY U<|eq' U<|pkt U<|kpL (ll2 0 43) (csu U)<|nn<|cd U (λc3=>?_)<|λc3=>?_;refine sk<|tn<|bl<|rg<|mv U U<|mv U U<|lnS U underlying65<|z2f U (wi6 oo)<|v0s (p:=(m-1)) U U y5f U<|asg U<|kpL (ll1 0) (csu U)<|nl<|bn' ?_;have D:=D.ext q8;have I:=I.ext q8;have a0:=a0.ext q8;exact lpE (m-1) (csu U) ⟨D,oo,u5p oo hm b0<|(j5n hn).1 (by rw[y6b oo]at c3;omega),I,j7s a0 oo hm oo⟩ oo;refine ex<|te<|te<|xh<|tn<|sr<|mv U U<|asg U<|nn<|rt<|r1 results94 U ?_;have I:=I.ext q8;have a0:=a0.ext q8;have D:=D.ext q8;exact⟨_,rfl,H,m,I,hm,a0,⟨a6,a7,b9,b0,λh0 e=>c3 (by rw[y6b oo,(j5n hn).2 e];rfl)⟩,(q1.trans q2).trans D⟩;exact gN U<|gN U<|gN U<|gN U<|gN U<|gN U<|gN U<|gN U<|pkf U<|kpL (ll2 0 43) (csu U)<|nn<|cf U<|ex<|te<|te<|xh<|tn<|sr<|mv U U<|asg U<|nn<|rt<|r1 results94 U ⟨_,rfl,H,m,I,hm,a0,⟨a6,a7,b9,b0,λh0 _=>absurd h0 oo⟩,(q1.trans q2).trans D⟩
end Go.Proofs.YtkafbfjmcigaiaaGreatDoor
