/- Texts of the proof, joined. -/
import Derived.Test.YtpgdchkdlgkmgaaGreatDoorRows
import Derived.Maps.RangeRun
import Derived.Test.YtpgdchkdlgkmgaaGreatDoorJS3
set_option linter.unusedVariables false
set_option linter.unusedSimpArgs false
namespace Go.Proofs.YtpgdchkdlgkmgaaGreatDoor
open Go.Lw Go.G21 Go.G08 _root_.Go.Proofs.Tryz
theorem j6c:BuildAt prog 183 [(0,2),(2,2),(4,1)] [(.int .u8 0),(.int .i64 0),(.int .u8 0),(.int .i64 0),(.int .i64 0)]:=BuildAt.struct underlying183 (λ_=>by kernel_rfl) (λ_=>by kernel_rfl)
theorem v0i:CallOf prog 116:=mkC func116
theorem u7e:z2c prog 179:=λ_=>by kernel_rfl
theorem j2g:z1p prog 179 1:=λ_=>by kernel_rfl
set_option maxHeartbeats 2000000 in
theorem v5b (gr gk base:Nat)(b r:Int)(v u:Value)(l:List IQ)(a3:List Hd)(wS w0:World)(hF:Fr [] wS w0)(hs:Sl z5p wS v l)(U:IqAt wS l)(a5:Blk wS gk 3 [.int .i64 r])(f0:wS.heap.size<=gr)(e5:wS.heap.size<=base)(e6:base<=w0.heap.size)(D:Blk w0 gr 179 [u])(J:Lw.Own z3p 183 base w0 u a3)(hb:b=0\/b=1)(hl:l.length<=40)(h4:z9j l)(ha:a3.length<=1000)(hu:IsB u):Rets prog 141 #[.int .u8 b,v,.pointer (some ⟨gr,0,none⟩),.pointer (some ⟨gk,0,none⟩)] w0 λr' w'=>r'=.tuple #[]/\(∃u',Blk w' gr 179 [u']/\Lw.Own z3p 183 base w' u' (a3++hds b r (plB l) l.length)/\IsB u')/\w0.heap.size<=w'.heap.size/\Fr [] wS w':=by
 obtain⟨A,c,rfl,e7,hM,hA⟩:=id hs;clear hA;unfold maxLen at hM;have f4:=hF.size;have e2:=D.lt;refine we [(0,.int .u8 b),(1,.slice A l.length c),(2,.pointer (some ⟨gr,0,none⟩)),(3,.pointer (some ⟨gk,0,none⟩))] func141 rfl ntmps141 rfl (.c4 rfl rfl rfl rfl) ?_;have c9:=hs;have b2:=U;have b1:=a5;refine sr (mv rfl (lnS rfl underlying30 (mv rfl (nn (bl ?_)))));refine lpK (ι:=Nat×Value) [(0,_),(2,_),(3,_),(11,_),(12,_)] (λp=>[(13,.int .i64 (p.1:Int))]) (λp w'=>Fr [] wS w'/\(p.1<=l.length/\w0.heap.size<=w'.heap.size/\IsB p.2)/\Blk w' gr 179 [p.2]/\Lw.Own z3p 183 base w' p.2 (a3++hds b r (plB l) p.1)) (λp=>l.length-p.1) (0,u) (.c6 rfl rfl rfl rfl rfl rfl) ⟨hF,⟨⟨Nat.zero_le _,by omega,hu⟩,D,by simpa[hds] using J⟩⟩ ?_;rintro⟨i,uI⟩ w1 ⟨q1,⟨hi,D,J⟩⟩;simp only at hi D J;have z1:=q1.size;have a8:=D.lt;refine kpC [(0,_),(2,_),(3,_),(11,_),(12,_),(13,.int .i64 (i:Int))] (.c6 rfl rfl rfl rfl rfl rfl) ?_;have e8:=x5m b r l h4 i;have f2:=z3g h4 i;have f3:=z1x (z1u b2 i);have b3:=b1.lt;refine sr (lt' rfl rfl (nn (sq (cd rfl (λc0=>?_) (λc0=>?_)))));refine sk (tn (sq (bl (sr (mv rfl ?_)))));replace hs:=c9.ext q1;refine z1a (iq0) rfl hs rfl y2z z1d (λd7 b5=>?_);refine z1g rfl (b5 _ hs) z5t (asg rfl (asg rfl (nn (sr (mv rfl (mv rfl (z0v rfl rfl (wi6 (by omega)) (z1v (cs:=[_,_]) (ev2 rfl rfl) x1a (z0h rfl rfl rfl (z0h rfl rfl rfl z0s)) rfl ?_))))))));refine al u0x rfl rfl (λg8 w2 e9 I q2 z2=>?_);refine z0j (vs:=[_,_]) rfl rfl I y6i (λw3 I q3 z3=>?_) (h1:=(by first|(simp[Value.oneCell',S];done)|exact z1k.one _));refine nn (sr (mv rfl (lnS rfl underlying37 (mv rfl (nn (bl ?_))))));replace D:=(D.ext q2).fr q3;replace J:=(J.ext q2).fr q3 (by first|(intro k U hb;rw[List.mem_singleton.1 U]at hb;first|exact J.neB D (by decide) hb|(have:=(J.blk _ hb).2;omega))|(simp;done));refine lpK (ι:=Nat×Value) [(0,_),(2,_),(3,_),(8,_),(11,_),(12,_),(13,_),(22,_),(23,_)] (λp=>[(24,.int .i64 (p.1:Int))]) (λp w'=>Fr [] wS w'/\(p.1<=(l.getD i iq0).2.length/\w0.heap.size<=w'.heap.size/\Blk w' g8 24 [.int .u8 b,.int .i64 ((i:Int)+1)]/\IsB p.2)/\Blk w' gr 179 [p.2]/\Lw.Own z3p 183 base w' p.2 ((a3++hds b r (plB l) i)++((l.getD i iq0).2.take p.1).map (hdS b r i))) (λp=>(l.getD i iq0).2.length-p.1) (0,uI) (.d8 rfl rfl rfl rfl rfl rfl rfl rfl (.c2 rfl rfl)) ⟨(q1.z2 q2 q3),⟨⟨Nat.zero_le _,by omega,I,hi.2.2⟩,D,by simpa using J⟩⟩ ?_;rintro⟨j,uJ⟩ w4 ⟨q4,⟨⟨hj,f5,I,d5⟩,D,J⟩⟩;simp only at hj D J;have z4:=q4.size;have a8:=D.lt;have d1:=I.lt;refine kpC [(0,_),(2,_),(3,_),(8,_),(11,_),(12,_),(13,_),(22,_),(23,_),(24,.int .i64 (j:Int))] (.d8 rfl rfl rfl rfl rfl rfl rfl rfl (.c2 rfl rfl)) (sr (lt' rfl rfl (nn (sq (cd rfl (λc1=>?_) (λc1=>?_))))));refine sk (tn (sq (bl (sr ?_))));replace U:=b2.ext q4;refine z1a (id0) rfl (z1u U i) rfl z6j z1d (λd9 b6=>?_);refine z1i rfl (b6 _ (z1u U i)) z3o (al y3v rfl rfl (λd3 w5 e1 M q5 z5=>?_));refine z0j (vs:=[_,_]) rfl rfl M y1u (λw6 M q6 z6=>?_) (h1:=(by first|(simp[Value.oneCell',S];done)|exact z1k.one _));refine nn ?_;replace hs:=c9.ext (q4.z2 q5 q6);replace U:=b2.ext (q4.z2 q5 q6);replace a5:=b1.ext (q4.z2 q5 q6);replace D:=(D.ext q5).fr q6;replace J:=(J.ext q5).fr q6 (by first|(intro k U hb;rw[List.mem_singleton.1 U]at hb;first|exact J.neB D (by decide) hb|(have:=(J.blk _ hb).2;omega))|(simp;done));replace I:=(I.ext q5).fr q6;intro a h;refine z0i (some 8) (λwb w'=>Fr (z0x uJ) wb w') z2o ?_;intro w7 q7;have z7:=q7.size;replace hs:=hs.ext q7;replace U:=U.ext q7;replace a5:=a5.ext q7;replace D:=D.ext q7;replace J:=J.ext q7;replace I:=I.ext q7;replace M:=M.ext q7;have hC:Fr (z0x uJ) w7 w7:=Fr.refl _ _;have d0:=hs;have b7:=U;have a6:=a5;have a1:=D;have Z:=J;have O:=I;have a0:=M;refine y5t 0 hC h wn rfl (λ_ hw=>a1.fr hw (λk_=>Own.neB Z a1 (by decide) k_)) u7e rfl rfl λa h=>z0y 1 h rfl (λ_ hw=>a0.fr hw (λk_=>Own.neB Z a0 (by decide) k_)) z3o rfl λa h=>z0y 2 h rfl (λ_ hw=>O.fr hw (λk_=>Own.neB Z O (by decide) k_)) z5z rfl λa h=>z0y 3 h rfl (λ_ hw=>O.fr hw (λk_=>Own.neB Z O (by decide) k_)) z5z rfl λa h=>y5t 4 hC h wn rfl (λ_ hw=>a6.fr hw (λk_=>by have:=(Z.blk _ k_).1;have:=b3;omega)) na3 rfl rfl λa h=>z0d 5 rfl ?_;refine z0n h (z0a rfl (z0a rfl z0f)) v0i (y1q _ _ _ _ (by omega)) ?_;rintro _ w8 ⟨rfl,q8⟩ a h;have z8:=q8.size;replace D:=D.ext q8;replace I:=I.ext q8;replace M:=M.ext q8;replace hC:=hC.next q8;refine z0b ?_;refine z2y (cs:=[_,_,_,_,_]) 6 h (z0a rfl (z0a rfl (z0a rfl z0f))) j6c (z0h rfl rfl rfl (z0h rfl rfl rfl (z0h rfl rfl rfl z0s))) rfl rfl λa h=>z0d 7 rfl ?_;refine z3c ([(hdS b r i ((l.getD i iq0).2.getD j id0))]) h (z0a rfl z0f) rfl rfl rfl z3f λa4 w9 hg b9 q9 hz a h=>?_;have a7:gr<a4:=by have:=D.lt;omega
 have a7:g8<a4:=by have:=I.lt;omega
 have b8:d3<a4:=by have:=M.lt;omega
 have z9:=q9.size;replace U:=U.ext (q8.n1 q9);replace D:=D.ext q9;replace J:=J.ext (q8.n1 q9);replace I:=I.ext q9;replace hC:=hC.next q9;refine z0b ?_;refine z0d 8 rfl ?_;have a2:=J;refine z7p h rfl rfl J b9.sl z3f rfl ?_ (hM:=(by unfold maxLen;simp only[List.length_append,List.length_map,List.length_take,List.length_cons,List.length_nil];omega)) (hb:=(by simp only[List.length_append,List.length_map,List.length_take,List.length_cons,List.length_nil];omega));clear h a;intro f6 f7 J a9 d4 a h;obtain⟨e3,e4,rfl,e0⟩:=J.sl.form;have f8:=a9.size;replace D:=D.fr a9 (λU=>a2.neB D (by decide) U);replace I:=I.fr a9 (λU=>a2.neB I (by decide) U);refine z1n ?_;refine z0d 9 rfl ?_;refine y7k h rfl rfl D rfl rfl j2g λd6 b4 b0 hz a h=>?_;have f9:=b0.size;replace I:=I.fr b0;replace J:=J.fr b0 (by first|(intro k U hb;rw[List.mem_singleton.1 U]at hb;first|exact J.neB D (by decide) hb|(have:=(J.blk _ hb).2;omega))|(simp;done));clear D hz;have D:Blk d6 gr _ [_]:=b4;clear b4;refine z1n ?_;refine z0q ?_;clear hC d0 b7 a6 a1 Z O a0;refine bk (h.sub (L':=[(0,_),(2,_),(3,_),(8,_),(11,_),(12,_),(13,_),(22,_),(23,_),(24,_)]) (.d8 rfl rfl rfl rfl rfl rfl rfl rfl (.c2 rfl rfl))) (bn' (tn (rg (z0v rfl rfl (wi6 (by omega)) (mv rfl (nl ?_))))));exact lpE ((j+1,_)) (.d8 rfl rfl rfl rfl rfl rfl rfl rfl (.c2 rfl rfl)) ⟨(((q4.z5 q5 q6 q7 q8 q9).step a9 (λk U f1=>absurd (a2.blk k U).1 (by omega))).z1 b0),⟨⟨by simp only;omega,by omega,I,u9c J (by simp)⟩,D,by rw[y3t (hdS b r i) id0 (by omega),<-List.append_assoc];exact J⟩⟩ (by simp only;omega);obtain rfl:j=(l.getD i iq0).2.length:=by omega
 rw[List.take_length]at J;refine ex (te (te (xh (bn' (tn (rg (z0v rfl rfl (wi6 (by omega)) (mv rfl (kpL [(0,_),(2,_),(3,_),(11,_),(12,_),(13,_)] (.c6 rfl rfl rfl rfl rfl rfl) (nl ?_))))))))));exact lpE ((i+1,_)) (.c6 rfl rfl rfl rfl rfl rfl) ⟨q4,⟨⟨by simp only;omega,by omega,d5⟩,D,by rw[y8s,z3m,<-List.append_assoc];exact J⟩⟩ (by simp only;omega);obtain rfl:i=l.length:=by omega
 refine ex (te (te (xh (r0n results141  ?_))));exact⟨_,rfl,rfl,⟨_,D,J,hi.2.2⟩,by omega,q1⟩
theorem j6l (w:World):(zeroValue 179).run prog w=.ok (.slice none 0 0) w:=by kernel_rfl
set_option maxHeartbeats 2000000 in
theorem v1x (q:BdQ)(r:Int)(w0:World)(hB:BdAt w0 q)(hv:BdOk q.p)(hr:-4<=r/\r<=4):Rets prog 102 #[.agg #[.slice q.f.1 q.f.2.1 q.f.2.2,.slice q.b.1 q.b.2.1 q.b.2.2],.int .i64 r] w0 λv w'=>(∃g,v=.tuple #[.slice (some ⟨g,0,none⟩) (z2w q.p r).length (z2w q.p r).length,.int .i64 0]/\w0.heap.size<=g/\Lw.Own z3p 183 w0.heap.size w' (.slice (some ⟨g,0,none⟩) (z2w q.p r).length (z2w q.p r).length) (z2w q.p r))/\Fr [] w0 w':=by
 obtain⟨⟨hf,hb⟩,h4,a3⟩:=z3n hv;have hN:=y5n hv;have b5:=y3r q.p r;have b9:(z2w q.p r).length=(v7k q.p r).length:=z4d _;refine we [(0,.agg #[.slice q.f.1 q.f.2.1 q.f.2.2,.slice q.b.1 q.b.2.1 q.b.2.2]),(1,.int .i64 r)] func102 rfl ntmps102 rfl (.c2 rfl rfl) ?_;have a1:=hB;refine sr (bx rfl rfl rfl (λg2 w1 b6 D q1 z1=>(bx rfl rfl rfl (λg3 w2 b7 U q2 z2=>(asg rfl (asg rfl (nn (sq (sr ?_)))))))));replace D:=D.ext q2;refine z0k rfl D z5s (z3v rfl U na3 ?_);replace hB:=a1.ext (q1.n1 q2);refine cl (ev2 rfl rfl) (mkC func140) (x3i q _ _ hB hv (by omega)) rfl ?_;rintro _ w3 ⟨rfl,q3⟩;have z3:=q3.size;replace U:=U.ext q3;replace D:=D.ext q3;have O:BdAt w3 q:=a1.ext (q1.n2 q2 q3);have M:=U;have b4:=M.lt;have a5:=D;refine asg rfl (nn (sr (mv rfl (ne' rfl rfl (nn (cd rfl (λc0=>?_) (λc0=>?_)))))));exact absurd rfl c0;refine sk (tn (sr (z0k rfl D z5s ?_)));replace hB:=a1.ext (q1.n2 q2 q3);refine cl (ev1 rfl) (mkC func95) (x3j q _ hB hf hb h4 a3) rfl ?_;rintro _ w4 ⟨rfl,q4⟩;have z4:=q4.size;refine z1f (m:=0) (c:=q.p.flat.length) (hd0) rfl rfl z3f u2c rfl (λZ w5 b0 J q5 z5=>(al j6l rfl rfl (λg7 w6 b8 I q6 z6=>(z5i rfl rfl I rfl j2g (λw7 I q7 z7=>(nn (sr (z6b z0f (ev2 rfl rfl) rfl (asg rfl (nn (sr (mv rfl (fad rfl y2y ?_)))))))))))));replace D:=(D.ext (q4.n2 q5 q6)).fr q7;refine z0g rfl D rfl x0z ?_;replace J:=(J.ext q6).fr q7 (by first|(intro k hk hb;rw[List.mem_singleton.1 hk]at hb;first|exact J.neB I (by decide) hb|(have:=(J.blk _ hb).2;omega))|(simp;done));refine clv (us:=[]) (ws:=[.pointer (some ⟨g7,0,none⟩),.pointer (some ⟨g3,0,none⟩)]) rfl (ev2 rfl rfl) (mkC func141) (v5b g7 g3 Z 0 r _ _ q.fs [] w3 _ (q4.z3 q5 q6 q7) O.f O.fi M (by omega) (by omega) (by omega) I J (by decide) (by omega) h4 (by first|(simp;done)|(have:=x5m 0 r q.fs h4 q.fs.length;simp;omega)) ⟨_,_,_,rfl⟩) rfl (by intro g e;cases e) ?_;rintro _ w8 ⟨rfl,⟨c1,I,J,a6⟩,hz22,q8⟩;have z8:=q8.size;refine nn (sr (mv rfl (fad rfl z9u ?_)));replace D:=a5.ext q8;refine z0g rfl D rfl x0z ?_;refine clv (us:=[]) (ws:=[.pointer (some ⟨g7,0,none⟩),.pointer (some ⟨g3,0,none⟩)]) rfl (ev2 rfl rfl) (mkC func141) (v5b g7 g3 Z 1 r _ _ q.bs ([]++hds 0 r (plB q.fs) q.fs.length) w3 _ q8 O.b O.bi M (by omega) (by omega) (by omega) I J (by decide) (by omega) a3 (by first|(simp;done)|(have:=x5m 0 r q.fs h4 q.fs.length;simp;omega)) a6) rfl (by intro g e;cases e) ?_;rintro _ w9 ⟨rfl,⟨c9,I,J,a7⟩,hz26,q9⟩;have z9:=q9.size;rw[List.nil_append,show hds 0 r (plB q.fs) q.fs.length++hds 1 r (plB q.bs) q.bs.length=v7k q.p r by unfold v7k;simp only[List.length_map]]at J;obtain⟨a0,b2,rfl⟩:=v8z a7 J;have b3:=(J.blk a0 (by simp[z0x])).1;have a4:g7∉[a0]:=λhk=>(J.neB I (by decide)) (by simpa[z0x] using hk);refine kpL [(7,_)] (.cons rfl .nil) (nn (sr (z3v rfl I u7e (cl (ev2 rfl rfl) (mkC func142) (u0r a0 _ Z (v7k q.p r) _ J (by omega)) rfl ?_))));rintro _ d0 ⟨rfl,J,a2⟩;have d3:=a2.size;refine nn (sr ?_);replace I:=I.fr a2 (by first|exact a4|(simp;omega));refine z3v rfl I u7e ?_;refine cl (ev1 rfl) (mkC func144) (v0d _ (z2w q.p r) _ (by unfold z2w;exact J.sl) (by omega)) rfl ?_;rintro _ d1 ⟨a9,rfl,b1,hX,a8⟩;have d4:=a8.size;refine asg rfl (asg rfl (nn (rt (r2 results102 rfl rfl ?_))));exact⟨_,rfl,⟨a9,rfl,by omega,hX.low (by omega)⟩,(q1.z5 q2 q3 q9 a2 a8)⟩
end Go.Proofs.YtpgdchkdlgkmgaaGreatDoor
namespace Go.G08
open Go.Lw Go.G21
def btL (fr to:Int):Int:=if fr<to then fr else to
def btH (fr to:Int):Int:=if fr<to then to else fr
def btD (fr to:Int):Int:=if fr<to then 1 else 0
def btA (l:List Hd)(fr to:Int)(k:Nat):List Pa:=((l.take k).filter λh=>decide (btL fr to<h.s/\h.s<btH fr to)).map λh=>⟨h.id,decide (h.b=1),btD fr to⟩
theorem j7i {l:List Hd}{fr D:Int}{k:Nat}(I:k<l.length)(h:btL fr D<(l.getD k hd0).s/\(l.getD k hd0).s<btH fr D):btA l fr D (k+1)=btA l fr D k++[⟨(l.getD k hd0).id,decide ((l.getD k hd0).b=1),btD fr D⟩]:=by
 unfold btA;rw[z5j hd0 I,List.filter_append,List.map_append,List.filter_cons,if_pos (decide_eq_true h)];rfl
theorem j7h {l:List Hd}{fr D:Int}{k:Nat}(I:k<l.length)(h:¬(btL fr D<(l.getD k hd0).s/\(l.getD k hd0).s<btH fr D)):btA l fr D (k+1)=btA l fr D k:=by
 unfold btA;rw[z5j hd0 I,List.filter_append,List.filter_cons,if_neg (by simpa using h)];simp
theorem x4p (l:List Hd)(fr D:Int)(k:Nat):(btA l fr D k).length<=l.length:=by
 unfold btA;rw[List.length_map];refine Nat.le_trans (List.length_filter_le _ _) ?_;rw[List.length_take];omega
theorem j4z {l:List Hd}{fr D:Int}(h:¬btD fr D=0):btw l fr D=btA l fr D l.length:=by
 unfold btD at h;by_cases c:fr<D;unfold btw btA btL btH btD;rw[List.take_length];simp only[if_pos c];rw[if_neg c]at h;exact absurd rfl h
theorem j5e {l:List Hd}{fr D:Int}(h:btD fr D=0):btw l fr D=(btA l fr D l.length).reverse:=by
 unfold btD at h;by_cases c:fr<D;rw[if_pos c]at h;exact absurd h (by decide);unfold btw btA btL btH btD;rw[List.take_length];simp only[if_neg c]
theorem v5k (l:List Hd)(fr D:Int):(btw l fr D).length<=l.length:=by
 by_cases h:btD fr D=0;rw[j5e h,List.length_reverse];exact x4p l fr D _;rw[j4z h];exact x4p l fr D _
end Go.G08
namespace Go.Proofs.YtpgdchkdlgkmgaaGreatDoor
open Go.Lw Go.G21 Go.G08 _root_.Go.Proofs.Tryz
theorem u5m:BuildAt prog 100 [(0,2),(2,1),(3,1)] [(.int .u8 0),(.int .i64 0),(.bool false),(.int .u8 0)]:=BuildAt.struct underlying100 (λ_=>by kernel_rfl) (λ_=>by kernel_rfl)
theorem v6y:z0z prog 183 0 0:=λ_ _=>by kernel_rfl
theorem u5v:z0z prog 183 1 2:=λ_ _=>by kernel_rfl
set_option maxHeartbeats 1000000 in
theorem u4n (v:Value)(l:List Hd)(fr D:Int)(w0:World)(hs:Sl z3p w0 v l)(hl:l.length<=1000):Rets prog 149 #[v,.int .i64 fr,.int .i64 D] w0 λr w'=>(∃g,r=.slice (some ⟨g,0,none⟩) (btw l fr D).length (btw l fr D).length/\w0.heap.size<=g/\Lw.Own z1r 100 w0.heap.size w' r (btw l fr D))/\Fr [] w0 w':=by
 obtain⟨A,c,rfl,b4,hM,hA⟩:=id hs;clear hA;unfold maxLen at hM;refine we [(0,.slice A l.length c),(1,.int .i64 fr),(2,.int .i64 D)] func149 rfl ntmps149 rfl (.c3 rfl rfl rfl) ?_;have a5:=hs;refine sr (asg rfl (nn (sr (mv rfl (mv rfl (asg rfl (asg rfl (asg rfl (nn ?_)))))))));refine jn (ι:=Unit) [(0,_)] (λ_j=>[(7,.int .i64 (btL fr D)),(8,.int .i64 (btH fr D)),(9,.int .u8 (btD fr D))]) (λ_j w'=>Fr [] w0 w') (.cons rfl .nil) ?_ ?_;refine sr (mv rfl (mv rfl (gt' rfl rfl (nn (cd rfl (λM=>?_) (λM=>?_))))));refine rg (mv rfl (mv rfl (asg rfl (asg rfl (asg rfl (nl ?_))))));exact jE (()) (.c4 rfl (by first|(rw[show btL fr D=_ from if_pos M];rfl)|(rw[show btL fr D=_ from if_neg M];rfl)) (by first|(rw[show btH fr D=_ from if_pos M];rfl)|(rw[show btH fr D=_ from if_neg M];rfl)) (by first|(rw[show btD fr D=_ from if_pos M];rfl)|(rw[show btD fr D=_ from if_neg M];rfl))) (Fr.refl _ _);refine sk ?_;exact jE (()) (.c4 rfl (by first|(rw[show btL fr D=_ from if_pos M];rfl)|(rw[show btL fr D=_ from if_neg M];rfl)) (by first|(rw[show btH fr D=_ from if_pos M];rfl)|(rw[show btH fr D=_ from if_neg M];rfl)) (by first|(rw[show btD fr D=_ from if_pos M];rfl)|(rw[show btD fr D=_ from if_neg M];rfl))) (Fr.refl _ _);rintro _j w1 q1;have z1:=q1.size;refine kpC [(0,_),(7,_),(8,_),(9,_)] (.c4 rfl rfl rfl rfl) (sr (asg rfl (nn (sq (sr (mv rfl (lnS rfl underlying179 (mv rfl (nn (bl ?_))))))))));refine lpK (ι:=Nat×Value) [(7,_),(8,_),(9,_),(20,_),(21,_)] (λp=>[(22,.int .i64 (p.1:Int)),(10,p.2)]) (λp w'=>Fr [] w0 w'/\p.1<=l.length/\Lw.Own z1r 100 w0.heap.size w' p.2 (btA l fr D p.1)) (λp=>l.length-p.1) (0,_) (.c7 rfl rfl rfl rfl rfl rfl rfl) ⟨q1,⟨Nat.zero_le _,Own.nil _⟩⟩ ?_;rintro⟨k,vP⟩ w2 ⟨U,⟨hk,J⟩⟩;simp only at hk J;have z2:=U.size;refine kpC [(7,_),(8,_),(9,_),(20,_),(21,_),(22,.int .i64 (k:Int)),(10,vP)] (.c7 rfl rfl rfl rfl rfl rfl rfl) ?_;have b2:=x4p l fr D k;refine sr (lt' rfl rfl (nn (sq (cd rfl (λc1=>?_) (λc1=>?_)))));refine sk (tn (sq (bl (sr ?_))));replace hs:=a5.ext U;refine z1a (hd0) rfl hs rfl z3f z1d (λa6 Z=>?_);refine z1i rfl (Z _ hs) z5g (al u2c rfl rfl (λb0 w3 a7 I q3 z3=>?_));refine z0j (vs:=[_,_,_,_,_]) rfl rfl I z8i (λw4 I q4 z4=>?_) (h1:=(by first|(simp[Value.oneCell',S];done)|exact z3p.one _));refine nn (sq ?_);refine rbo (r:=35) (L':=[(7,_),(8,_),(9,_),(10,_),(12,_),(20,_),(21,_),(22,_)]) ((((btL fr D)<(l.getD k hd0).s)/\((l.getD k hd0).s<(btH fr D)))) (.c8 rfl rfl rfl rfl rfl rfl rfl rfl) ?_ ?_;refine fad rfl y8m (z0g rfl I rfl na3 (mv rfl (gt' rfl rfl (mv rfl (gs 30 rfl (λg0=>?_) (λg0=>?_))))));exact gY rfl (fad rfl y8m (gY rfl (z0g rfl I rfl na3 (gY rfl (mv rfl (gY rfl (lt' rfl rfl (pkt rfl rfl (rbe rfl (.c8 rfl rfl rfl rfl rfl rfl rfl rfl))))))))));exact gN rfl rfl (gN rfl rfl (gN rfl rfl (gN rfl rfl (pkf rfl rfl (rbe rfl (.c8 rfl rfl rfl rfl rfl rfl rfl rfl))))));refine tn (cd rfl (λc2=>?_) (λc2=>?_));refine rg (mv rfl (fad rfl v6y (z1s (vs:=[_,_]) rfl I z3o rfl (fad rfl u5v (x3p rfl z6t rfl (z0g rfl I rfl x1z (eq' rfl rfl (mv rfl (z1v (cs:=[_,_,_,_]) (ev3 rfl rfl rfl) u5m (z0h rfl rfl rfl (z0h rfl rfl rfl (z0h rfl rfl rfl z0s))) rfl ?_)))))))));refine z2h ([(⟨(l.getD k hd0).id,decide ((l.getD k hd0).b=1),btD fr D⟩:Pa)]) (ev1 rfl) rfl rfl rfl z8x (λb1 w5 a8 a0 q5 z5=>?_);replace J:=((J.ext q3).fr q4 (by first|exact z9k J (by omega)|simp[z0x]<;>omega)).ext q5;have O:=J;refine z2e rfl rfl J a0.sl z8x (by unfold maxLen;simp only[List.length_cons,List.length_nil];omega) (by simp only[List.length_cons,List.length_nil];omega) (λb5 w6 J q6 a4=>?_);have z6:=q6.size;refine asg rfl (kpL [(7,_),(8,_),(9,_),(10,_),(20,_),(21,_),(22,_)] (.c7 rfl rfl rfl rfl rfl rfl rfl) (nl (bn' (tn (rg (z0v rfl rfl (wi6 (by omega)) (mv rfl (nl ?_))))))));exact lpE ((k+1,_)) (.c7 rfl rfl rfl rfl rfl rfl rfl) ⟨((U.z3 q3 q4 q5).step q6 (λk hk a2=>absurd (O.blk k hk).1 (by omega))),⟨by simp only;omega,by rw[j7i (by omega) c2];exact J⟩⟩ (by simp only;omega);refine sk (bn' (tn (rg (z0v rfl rfl (wi6 (by omega)) (mv rfl (nl ?_))))));replace J:=(J.ext q3).fr q4 (by first|exact z9k J (by omega)|simp[z0x]<;>omega);exact lpE ((k+1,_)) (.c7 rfl rfl rfl rfl rfl rfl rfl) ⟨(U.z2 q3 q4),⟨by simp only;omega,by rw[j7h (by omega) c2];exact J⟩⟩ (by simp only;omega);obtain rfl:k=l.length:=by omega
 have b3:=v5k l fr D;refine ex (te (te (xh (tn ?_))));refine jn (ι:=Unit) [(10,_)] (λ_j=>[]) (λ_j w'=>Fr [] w0 w'/\Lw.Own z1r 100 w0.heap.size w' vP (btw l fr D)) (.cons rfl .nil) ?_ ?_;refine sr (mv rfl (eq' rfl rfl (kpL [(10,_),(49,_)] (.c2 rfl rfl) (nn (cd rfl (λc3=>?_) (λc3=>?_))))));refine rg (mv rfl ?_);have a3:=J;refine cl (ev1 rfl) (mkC func196) (x3h w0.heap.size _ _ _ J (by omega)) rfl ?_;rintro _ w7 ⟨J,q7⟩;have z7:=q7.size;refine nl ?_;exact jE (()) (.cons rfl .nil) ⟨(U.step q7 (λk hk a2=>absurd (a3.blk k hk).1 (by omega))),(by rw[j5e c3];exact J)⟩;refine sk ?_;exact jE (()) (.cons rfl .nil) ⟨U,(by rw[j4z c3];exact J)⟩;rintro _j w8 ⟨q8,J⟩;have z8:=q8.size;refine kpC [(10,_)] (.cons rfl .nil) (sr (mv rfl (cl (ev1 rfl) (mkC func197) (y5j _ (btw l fr D) _ J.sl (by omega)) rfl ?_)));rintro _ w9 ⟨a1,rfl,a9,hX,q9⟩;have z9:=q9.size;refine asg rfl (nn (rt (r1 results149 rfl ?_)));exact⟨_,rfl,⟨a1,rfl,by omega,hX.low (by omega)⟩,(q8.n1 q9)⟩
end Go.Proofs.YtpgdchkdlgkmgaaGreatDoor
namespace Go.G08
open Go.Lw Go.G21
theorem Own.neO {α β:Type}{E:Enc α}{J:Enc β}{T T' b M:Nat}{w:World}{v I:Value}{ys:List α}{zs:List β}(h:Lw.Own E T b w v ys)(O:Lw.Own J T' M w I zs)(U:T≠T'):∀k∈z0x v,k∉z0x I:=by
 intro k D;rcases h with ⟨rfl,rfl⟩|⟨g,cap,cur,rfl,_,Z,_⟩
 cases D;obtain rfl:k=g:=by simpa[z0x] using D
 exact O.neB Z (Ne.symm U)
theorem v1v (B:Bd)(r d:Int)(i:Nat):x9t B r d (i+1)=x9t B r d i++u2x B r d i:=by unfold x9t;rw[List.range_succ,List.flatMap_append];simp
theorem y7m (B:Bd)(r d p:Int)(i:Nat):y6o B r d p (i+1)=y6o B r d p i++x3y B r d p i:=by unfold y6o;rw[List.range_succ,List.flatMap_append];simp
theorem v6l {α β:Type}(f:α->List β){l:List α}{j:Nat}(d:α)(h:j<l.length):(l.take (j+1)).flatMap f=(l.take j).flatMap f++f (l.getD j d):=by
 rw[z5j d h,List.flatMap_append];simp
theorem v1a {B:Bd}(h:BdOk B)(k:Nat):(B.b.getD k []).length<=4:=by
 have:=y4o h 1 ((k:Int)+1);unfold Bd.at atB at this;rwa [if_neg (by decide),show ((k:Int)+1-1).toNat=k by omega]at this
theorem x6c {B:Bd}(h:BdOk B)(b n:Int):(B.atC b n).length<=4:=by
 unfold Bd.atC;split;exact y4o h b n;simp
theorem flat_len {α β:Type}(f:α->List β)(m:Nat)(hf:∀x,(f x).length<=m):∀l:List α,(l.flatMap f).length<=m*l.length
 | []=>by simp
 | x::l=>by have:=flat_len f m hf l;have:=hf x;rw[List.flatMap_cons,List.length_append,List.length_cons];rw[Nat.mul_succ];omega
theorem u1s {B:Bd}(h:BdOk B)(r d:Int)(k:Nat):(u2x B r d k).length<=16:=by
 unfold u2x;have D:=flat_len (λx=>(B.atC 0 (y0h r d k)).reverse.map (x7q d x)) 4 (λx=>by rw[List.length_map,List.length_reverse];exact x6c h _ _) (B.b.getD k []);have:=v1a h k;omega
theorem x6w {B:Bd}(h:BdOk B)(r d:Int)(i:Nat):(x9t B r d i).length<=16*i:=by
 have:=flat_len (u2x B r d) 16 (u1s h r d) (List.range i);rw[List.length_range]at this;exact this
theorem v6s {B:Bd}(h:BdOk B)(r d p:Int)(k:Nat):(x3y B r d p k).length<=4:=by
 unfold x3y;split;simp;rw[List.length_map];exact v1a h k
theorem x1r {B:Bd}(h:BdOk B)(r d p:Int)(i:Nat):(y6o B r d p i).length<=4*i:=by
 have:=flat_len (x3y B r d p) 4 (v6s h r d p) (List.range i);rw[List.length_range]at this;exact this
theorem x1p {B:Bd}(h:BdOk B)(r d p:Int):(z7d B r d p).length<=4*B.b.length:=by
 have:=x1r h r d p B.b.length;unfold z7d;split;rw[List.length_reverse];exact this;exact this
theorem y4a {B:Bd}(h:BdOk B)(r d:Int):(z3r B r d).length<=16*B.b.length:=by
 have:=x6w h r d B.b.length;unfold z3r;split;rw[List.length_reverse];exact this;exact this
end Go.G08
namespace Go.Proofs.YtpgdchkdlgkmgaaGreatDoor
open Go.Lw Go.G21 Go.G08 _root_.Go.Proofs.Tryz
set_option maxHeartbeats 2000000 in
theorem v9e (q:BdQ)(r d I:Int)(w0:World)(O:BdAt w0 q)(hv:BdOk q.p)(hT:StT w0)(hr:-4<=r/\r<=4)(hd:d=0\/d=1)(d5:-4<=r+stI d/\r+stI d<=4)(hp:¬Int.tmod I 2=0)(d3:-9223372036854775808<=I/\I<=9223372036854775807):Rets prog 145 #[.agg #[.slice q.f.1 q.f.2.1 q.f.2.2,.slice q.b.1 q.b.2.1 q.b.2.2],.int .i64 r,.int .u8 d,.int .i64 I] w0 λv w'=>(∃g,v=.tuple #[.slice (some ⟨g,0,none⟩) (z7d q.p r d I).length (z7d q.p r d I).length,.int .i64 0]/\w0.heap.size<=g/\Lw.Own z1r 100 w0.heap.size w' (.slice (some ⟨g,0,none⟩) (z7d q.p r d I).length (z7d q.p r d I).length) (z7d q.p r d I))/\Fr [] w0 w':=by
 obtain⟨⟨hf,hb⟩,h4,a9⟩:=z3n hv;have b1:=x1p hv r d I;rw[List.length_map]at b1;refine we [(0,.agg #[.slice q.f.1 q.f.2.1 q.f.2.2,.slice q.b.1 q.b.2.1 q.b.2.2]),(1,.int .i64 r),(2,.int .u8 d),(3,.int .i64 I)] func145 rfl ntmps145 rfl (.c4 rfl rfl rfl rfl) ?_;have J:=O;have a0:=hT;refine sr (bx rfl rfl rfl (λg4 w1 d1 U q1 z1=>(asg rfl (asg rfl (nn (sq (sr (z0k rfl U z5s (mv rfl (mv rfl ?_))))))))));replace O:=J.ext q1;replace hT:=a0.ext q1;refine cl (ev3 rfl rfl rfl) (mkC func195) (x2w q _ _ _ O hv hT (by omega) hd (by omega)) rfl ?_;rintro _ w2 ⟨rfl,q2⟩;have z2:=q2.size;refine asg rfl (nn (sr (mv rfl (ne' rfl rfl (nn (cd rfl (λc0=>?_) (λc0=>?_)))))));exact absurd rfl c0;refine sk (tn (sq (sr (mv rfl (x5g rfl rfl (by first|exact IntWalk.rem_in _ _ (by omega)|rfl) rfl (eq' rfl rfl (nn ?_)))))));refine cd rfl (λc1=>?_) (λc1=>?_);exact absurd c1 hp;refine sk (tn (sr (asg rfl (nn ?_))));refine jn (ι:=Unit) [(1,_),(2,_),(3,_),(4,_)] (λ_j=>[(11,.int .u8 (1-d))]) (λ_j w'=>Fr [] w2 w') (.c4 rfl rfl rfl rfl) ?_ ?_;refine sr (mv rfl (eq' rfl rfl (nn (cd rfl (λc2=>?_) (λc2=>?_)))));refine rg (asg rfl (nl ?_));exact jE (()) (.c5 rfl rfl rfl rfl (congrArg (λz=>some (Value.int .u8 z)) (by omega))) (Fr.refl _ _);refine sk ?_;exact jE (()) (.c5 rfl rfl rfl rfl (congrArg (λz=>some (Value.int .u8 z)) (by omega))) (Fr.refl _ _);rintro _j w3 q3;have z3:=q3.size;refine kpC [(1,_),(2,_),(3,_),(4,_),(11,_)] (.c5 rfl rfl rfl rfl rfl) (sr (asg rfl (nn (sq (sr (fad rfl z9u ?_))))));replace U:=U.ext (q2.n1 q3);refine z0g rfl U rfl x0z (lnS rfl underlying30 (mv rfl (nn (bl ?_))));refine lpK (ι:=Nat×Value) [(1,_),(2,_),(3,_),(11,_),(31,_),(32,_)] (λp=>[(33,.int .i64 (p.1:Int)),(12,p.2)]) (λp w'=>Fr [] w0 w'/\p.1<=q.bs.length/\Lw.Own z1r 100 w0.heap.size w' p.2 (y6o q.p r d I p.1)) (λp=>q.bs.length-p.1) (0,_) (.c8 rfl rfl rfl rfl rfl rfl rfl rfl) ⟨(q1.n2 q2 q3),⟨Nat.zero_le _,Own.nil _⟩⟩ ?_;rintro⟨i,uI⟩ w4 ⟨q4,⟨hi,D⟩⟩;simp only at hi D;have z4:=q4.size;refine kpC [(1,_),(2,_),(3,_),(11,_),(31,_),(32,_),(33,.int .i64 (i:Int)),(12,uI)] (.c8 rfl rfl rfl rfl rfl rfl rfl rfl) ?_;have d4:=z1x J.b;have d0:=x1r hv r d I i;have d6:=z3g a9 i;have d7:=z1x (z1u J.bi i);have d9:-300<=z3h 1 ((i:Int)+1) r/\z3h 1 ((i:Int)+1) r<=300:=by
  unfold z3h;split;omega;split<;>omega
 have e0:stI d = -1\/stI d=1:=by unfold stI;split<;>simp
 refine sr (lt' rfl rfl (nn (sq (cd rfl (λc3=>?_) (λc3=>?_)))));refine sk (tn (sq (bl (sr (mv rfl ?_)))));replace O:=J.ext q4;refine z1a (iq0) rfl O.b rfl y2z z1d (λb4 a1=>?_);refine z1g rfl (a1 _ O.b) z5t (asg rfl (asg rfl (nn (sr (mv rfl (z0v rfl rfl (wi6 (by omega)) (z1v (cs:=[_,_]) (ev2 rfl rfl) x1a (z0h rfl rfl rfl (z0h rfl rfl rfl z0s)) rfl ?_)))))));refine mv rfl (cl (ev2 rfl rfl) v0i (y1q _ _ _ _ (by omega)) rfl ?_);rintro _ w5 ⟨rfl,q5⟩;have z5:=q5.size;refine asg rfl (kpL [(1,_),(2,_),(3,_),(11,_),(12,_),(14,_),(15,_),(31,_),(32,_),(33,_)] (.d8 rfl rfl rfl rfl rfl rfl rfl rfl (.c2 rfl rfl)) (nn (sq (sq ?_))));refine rbo (r:=59) (L':=[(1,_),(2,_),(3,_),(11,_),(12,_),(14,_),(31,_),(32,_),(33,_)]) (((I≠((z3h 1 ((i:Int)+1) r)+(stI d)))/\(I≠((z3h 1 ((i:Int)+1) r)+(3*(stI d)))))) (.d8 rfl rfl rfl rfl rfl rfl rfl rfl (.cons rfl .nil)) ?_ ?_;refine mv rfl (mv rfl (mv rfl (y2u rfl rfl underlying290 sz3 ?_)));replace hT:=a0.ext (q4.n1 q5);refine z8b rfl hT.c (y4h hd) na3 (z0v rfl rfl (wi6 (by omega)) (ne' rfl rfl (mv rfl (gs 50 rfl (λg0=>?_) (λg0=>?_)))));refine gY rfl (mv rfl (gY rfl (mv rfl (gY rfl (mv rfl (gY rfl (y2u rfl rfl underlying290 sz3 (gY rfl (z8b rfl hT.c (y4h hd) na3 (gY rfl (x5q rfl rfl (wi6 (by omega)) rfl ?_)))))))))));exact gY rfl (z0v rfl rfl (wi6 (by omega)) (gY rfl (ne' rfl rfl (pkt rfl rfl (rbe rfl (.d8 rfl rfl rfl rfl rfl rfl rfl rfl (.cons rfl .nil)))))));exact gN rfl rfl (gN rfl rfl (gN rfl rfl (gN rfl rfl (gN rfl rfl (gN rfl rfl (gN rfl rfl (gN rfl rfl (pkf rfl rfl (rbe rfl (.d8 rfl rfl rfl rfl rfl rfl rfl rfl (.cons rfl .nil)))))))))));refine tn (cd rfl (λc4=>?_) (λc4=>?_));refine ex (te (xh (tn (rg (z0v rfl rfl (wi6 (by omega)) (mv rfl (nl ?_)))))));replace D:=D.ext q5;exact lpE ((i+1,_)) (.c8 rfl rfl rfl rfl rfl rfl rfl rfl) ⟨(q4.n1 q5),⟨by simp only;omega,by rw[y7m,show x3y q.p r d I i=[] from if_pos c4,List.append_nil];exact D⟩⟩ (by simp only;omega);refine sk (tn (sr (mv rfl (lnS rfl underlying37 (mv rfl (nn (bl ?_)))))));replace D:=D.ext q5;refine lpK (ι:=Nat×Value) [(1,_),(2,_),(3,_),(11,_),(31,_),(32,_),(33,_),(60,_),(61,_)] (λp=>[(62,.int .i64 (p.1:Int)),(12,p.2)]) (λp w'=>Fr [] w0 w'/\p.1<=(q.bs.getD i iq0).2.length/\Lw.Own z1r 100 w0.heap.size w' p.2 ((y6o q.p r d I i)++((q.bs.getD i iq0).2.take p.1).map (λx=>(⟨x,true,1-d⟩:Pa)))) (λp=>(q.bs.getD i iq0).2.length-p.1) (0,uI) (.d8 rfl rfl rfl rfl rfl rfl rfl rfl (.c3 rfl rfl rfl)) ⟨(q4.n1 q5),⟨Nat.zero_le _,by simpa using D⟩⟩ ?_;rintro⟨j,uJ⟩ w6 ⟨q6,⟨hj,D⟩⟩;simp only at hj D;have z6:=q6.size;refine kpC [(1,_),(2,_),(3,_),(11,_),(31,_),(32,_),(33,_),(60,_),(61,_),(62,.int .i64 (j:Int)),(12,uJ)] (.d8 rfl rfl rfl rfl rfl rfl rfl rfl (.c3 rfl rfl rfl)) (sr (lt' rfl rfl (nn (sq (cd rfl (λc5=>?_) (λc5=>?_))))));refine sk (tn (sq (bl (sr ?_))));replace O:=J.ext q6;refine z1a (id0) rfl (z1u O.bi i) rfl z6j z1d (λb5 a2=>?_);refine z1i rfl (a2 _ (z1u O.bi i)) z3o (al y3v rfl rfl (λb9 w7 b6 M q7 z7=>?_));refine z0j (vs:=[_,_]) rfl rfl M y1u (λw8 M q8 z8=>?_) (h1:=(by first|(simp[Value.oneCell',S];done)|exact z1k.one _));refine nn (rg (mv rfl (z0k rfl M z3o (mv rfl (z1v (cs:=[_,_,_,_]) (ev3 rfl rfl rfl) u5m (z0h rfl rfl rfl (z0h rfl rfl rfl (z0h rfl rfl rfl z0s))) rfl ?_)))));refine z2h ([(⟨((q.bs.getD i iq0).2.getD j id0),true,1-d⟩:Pa)]) (ev1 rfl) rfl rfl rfl z8x (λc9 w9 b7 a3 q9 z9=>?_);replace D:=((D.ext q7).fr q8 (by first|exact z9k D (by omega)|simp[z0x]<;>omega)).ext q9;have Z:=D;refine z2e rfl rfl D a3.sl z8x (by unfold maxLen;simp only[List.length_append,List.length_map,List.length_take,List.length_cons,List.length_nil];omega) (by simp only[List.length_append,List.length_map,List.length_take,List.length_cons,List.length_nil];omega) (λe1 e2 D a4 b3=>?_);have e6:=a4.size;refine asg rfl (kpL [(1,_),(2,_),(3,_),(11,_),(12,_),(31,_),(32,_),(33,_),(60,_),(61,_),(62,_)] (.d8 rfl rfl rfl rfl rfl rfl rfl rfl (.c3 rfl rfl rfl)) (nl (bn' (tn (rg (z0v rfl rfl (wi6 (by omega)) (mv rfl (nl ?_))))))));exact lpE ((j+1,_)) (.d8 rfl rfl rfl rfl rfl rfl rfl rfl (.c3 rfl rfl rfl)) ⟨((q6.z3 q7 q8 q9).step a4 (λk hk b0=>absurd (Z.blk k hk).1 (by omega))),⟨by simp only;omega,by rw[y3t (λx=>(⟨x,true,1-d⟩:Pa)) id0 (by omega),<-List.append_assoc];exact D⟩⟩ (by simp only;omega);obtain rfl:j=(q.bs.getD i iq0).2.length:=by omega
 rw[List.take_length]at D;refine ex (te (te (xh (bn' (tn (rg (z0v rfl rfl (wi6 (by omega)) (mv rfl (nl ?_)))))))));exact lpE ((i+1,_)) (.c8 rfl rfl rfl rfl rfl rfl rfl rfl) ⟨q6,⟨by simp only;omega,by rw[y7m,show x3y q.p r d I i=_ from if_neg c4,z3m];exact D⟩⟩ (by simp only;omega);obtain rfl:i=q.bs.length:=by omega
 refine ex (te (te (xh (tn ?_))));refine jn (ι:=Unit) [(12,_)] (λ_j=>[]) (λ_j w'=>Fr [] w0 w'/\Lw.Own z1r 100 w0.heap.size w' uI (z7d q.p r d I)) (.cons rfl .nil) ?_ ?_;refine sr (mv rfl (eq' rfl rfl (kpL [(12,_),(75,_)] (.c2 rfl rfl) (nn (cd rfl (λc6=>?_) (λc6=>?_))))));refine rg (mv rfl ?_);have b2:=D;refine cl (ev1 rfl) (mkC func196) (x3h w0.heap.size _ _ _ D (by omega)) rfl ?_;rintro _ e3 ⟨D,a5⟩;have e7:=a5.size;refine nl ?_;exact jE (()) (.cons rfl .nil) ⟨(q4.step a5 (λk hk b0=>absurd (b2.blk k hk).1 (by omega))),(by rw[show z7d q.p r d I=_ from if_pos (by omega),List.length_map];exact D)⟩;refine sk ?_;exact jE (()) (.cons rfl .nil) ⟨q4,(by rw[show z7d q.p r d I=_ from if_neg (by omega),List.length_map];exact D)⟩;rintro _j e4 ⟨a6,D⟩;have e8:=a6.size;refine kpC [(12,_)] (.cons rfl .nil) (sr (mv rfl (cl (ev1 rfl) (mkC func197) (y5j _ (z7d q.p r d I) _ D.sl (by omega)) rfl ?_)));rintro _ e5 ⟨a8,rfl,b8,hX,a7⟩;have e9:=a7.size;refine asg rfl (asg rfl (nn (rt (r2 results145 rfl rfl ?_))));exact⟨_,rfl,⟨a8,rfl,by omega,hX.low (by omega)⟩,(a6.n1 a7)⟩
theorem j1d:BuildAt prog 246 [(0,2),(2,2),(4,1)] [(.int .u8 0),(.int .i64 0),(.int .u8 0),(.int .i64 0),(.int .i64 0)]:=BuildAt.struct underlying246 (λ_=>by kernel_rfl) (λ_=>by kernel_rfl)
set_option maxHeartbeats 4000000 in
theorem u8p (q:BdQ)(r d:Int)(w0:World)(hB:BdAt w0 q)(hv:BdOk q.p)(hT:StT w0)(hr:-4<=r/\r<=4)(hd:d=0\/d=1)(f8:-4<=r+stI d/\r+stI d<=4):Rets prog 147 #[.agg #[.slice q.f.1 q.f.2.1 q.f.2.2,.slice q.b.1 q.b.2.1 q.b.2.2],.int .i64 r,.int .u8 d] w0 λv w'=>(∃g,v=.tuple #[.slice (some ⟨g,0,none⟩) (z3r q.p r d).length (z3r q.p r d).length,.int .i64 0]/\w0.heap.size<=g/\Lw.Own z4o 246 w0.heap.size w' (.slice (some ⟨g,0,none⟩) (z3r q.p r d).length (z3r q.p r d).length) (z3r q.p r d))/\Fr [] w0 w':=by
 obtain⟨⟨hf,hb⟩,h4,b2⟩:=z3n hv;have f7:=z1x hB.b;have d9:=y4a hv r d;rw[List.length_map]at d9;refine we [(0,.agg #[.slice q.f.1 q.f.2.1 q.f.2.2,.slice q.b.1 q.b.2.1 q.b.2.2]),(1,.int .i64 r),(2,.int .u8 d)] func147 rfl ntmps147 rfl (.c3 rfl rfl rfl) ?_;have a2:=hB;have d5:=hT;refine sr (bx rfl rfl rfl (λg3 w1 f6 U q1 z1=>(asg rfl (asg rfl (nn (sq (sr (z0k rfl U z5s (mv rfl (mv rfl ?_))))))))));replace hB:=a2.ext q1;replace hT:=d5.ext q1;refine cl (ev3 rfl rfl rfl) (mkC func195) (x2w q _ _ _ hB hv hT (by omega) hd (by omega)) rfl ?_;rintro _ w2 ⟨rfl,q2⟩;have z2:=q2.size;replace U:=U.ext q2;have b3:=U;refine asg rfl (nn (sr (mv rfl (ne' rfl rfl (nn (cd rfl (λc0=>?_) (λc0=>?_)))))));exact absurd rfl c0;refine sk (tn (sr (asg rfl (nn (sq (sr (fad rfl z9u (z0g rfl U rfl x0z (lnS rfl underlying30 (mv rfl (nn (bl ?_))))))))))));refine lpK (ι:=Nat×Value) [(1,_),(2,_),(3,_),(26,_),(27,_)] (λp=>[(28,.int .i64 (p.1:Int)),(9,p.2)]) (λp w'=>Fr [] w2 w'/\p.1<=q.bs.length/\Lw.Own z4o 246 w2.heap.size w' p.2 (x9t q.p r d p.1)) (λp=>q.bs.length-p.1) (0,_) (.c7 rfl rfl rfl rfl rfl rfl rfl) ⟨(Fr.refl _ _),⟨Nat.zero_le _,Own.nil _⟩⟩ ?_;rintro⟨i,uI⟩ w3 ⟨q3,⟨hi,I⟩⟩;simp only at hi I;have z3:=q3.size;refine kpC [(1,_),(2,_),(3,_),(26,_),(27,_),(28,.int .i64 (i:Int)),(9,uI)] (.c7 rfl rfl rfl rfl rfl rfl rfl) ?_;have f4:=x6w hv r d i;have f9:=z3g b2 i;have g0:=z1x (z1u a2.bi i);have f5:-10<=y0h r d i/\y0h r d i<=50:=by unfold y0h;split<;>omega
 have d6:((q.p.atC 0 (y0h r d i)).reverse).length<=4:=by rw[List.length_reverse];exact x6c hv _ _
 refine sr (lt' rfl rfl (nn (sq (cd rfl (λc1=>?_) (λc1=>?_)))));refine sk (tn (sq (bl (sr (mv rfl ?_)))));replace hB:=a2.ext (q1.n2 q2 q3);refine z1a (iq0) rfl hB.b rfl y2z z1d (λe2 b4=>?_);refine z1g rfl (b4 _ hB.b) z5t (asg rfl (asg rfl (nn (sr (mv rfl (z0v rfl rfl (wi6 (by omega)) (mv rfl (z0v rfl rfl (wi6 (by omega)) (asg rfl (nn ?_))))))))));refine jn (ι:=Unit) [(1,_),(2,_),(3,_),(9,_),(11,_),(26,_),(27,_),(28,_)] (λ_j=>[(12,.int .i64 (y0h r d i))]) (λ_j w'=>Fr [] w2 w'/\Lw.Own z4o 246 w2.heap.size w' uI (x9t q.p r d i)) (.c8 rfl rfl rfl rfl rfl rfl rfl rfl) ?_ ?_;refine sr (mv rfl (eq' rfl rfl (nn (cd rfl (λc2=>?_) (λc2=>?_)))));refine rg (mv rfl (z2u rfl rfl (wi6 (by omega)) (asg rfl (nl ?_))));exact jE (()) (.d8 rfl rfl rfl rfl rfl rfl rfl rfl (.cons (by first|(rw[show y0h r d i=_ from if_pos c2];rfl)|(rw[show y0h r d i=_ from if_neg c2];rfl)) .nil)) ⟨q3,I⟩;refine sk ?_;exact jE (()) (.d8 rfl rfl rfl rfl rfl rfl rfl rfl (.cons (by first|(rw[show y0h r d i=_ from if_pos c2];rfl)|(rw[show y0h r d i=_ from if_neg c2];rfl)) .nil)) ⟨q3,I⟩;rintro _j w4 ⟨q4,I⟩;have z4:=q4.size;refine kpC [(1,_),(2,_),(3,_),(9,_),(11,_),(26,_),(27,_),(28,_),(12,_)] (.d8 rfl rfl rfl rfl rfl rfl rfl rfl (.cons rfl .nil)) (sr ?_);replace U:=b3.ext q4;refine z0k rfl U z5s (mv rfl (z1v (cs:=[_,_]) (ev2 rfl rfl) x1a (z0h rfl rfl rfl (z0h rfl rfl rfl z0s)) rfl ?_));replace hB:=a2.ext (q1.n2 q2 q4);refine cl (ev2 rfl rfl) u3q (x1j q 0 (y0h r d i) _ hB (by omega) hf hb h4 b2) rfl ?_;rintro g1 w5 ⟨J,q5⟩;replace J:=J.low (show w2.heap.size<=_ by omega);have z5:=q5.size;refine asg rfl (nn (sr (mv rfl ?_)));have a3:=J;replace I:=I.ext q5;refine cl (ev1 rfl) (mkC func200) (v2u w2.heap.size _ _ _ J (by have:=x6c hv 0 (y0h r d i);omega)) rfl ?_;rintro _ w6 ⟨J,q6⟩;replace I:=I.fr q6 (Own.neO a3 I (by decide));have z6:=q6.size;obtain⟨b0,b1,rfl,e5⟩:=J.sl.form;refine nn (sr (mv rfl (lnS rfl underlying37 (mv rfl (nn (bl ?_))))));refine lpK (ι:=Nat×Value) [(1,_),(2,_),(3,_),(13,_),(26,_),(27,_),(28,_),(47,_),(48,_)] (λp=>[(49,.int .i64 (p.1:Int)),(9,p.2)]) (λp w'=>Fr [] w2 w'/\p.1<=(q.bs.getD i iq0).2.length/\Lw.Own z4o 246 w2.heap.size w' p.2 ((x9t q.p r d i)++((q.bs.getD i iq0).2.take p.1).flatMap (λx=>((q.p.atC 0 (y0h r d i)).reverse).map (x7q d x)))/\Lw.Own z1k 87 w2.heap.size w' (.slice b0 ((q.p.atC 0 (y0h r d i)).reverse).length b1) ((q.p.atC 0 (y0h r d i)).reverse)) (λp=>(q.bs.getD i iq0).2.length-p.1) (0,_) (.d8 rfl rfl rfl rfl rfl rfl rfl rfl (.c3 rfl rfl rfl)) ⟨((q4.n1 q5).step q6 (λk hk a9=>absurd (a3.blk k hk).1 (by omega))),⟨Nat.zero_le _,by simpa using I,J⟩⟩ ?_;rintro⟨j,uJ⟩ w7 ⟨q7,⟨hj,I,J⟩⟩;simp only at hj I;have z7:=q7.size;refine kpC [(1,_),(2,_),(3,_),(13,_),(26,_),(27,_),(28,_),(47,_),(48,_),(49,.int .i64 (j:Int)),(9,uJ)] (.d8 rfl rfl rfl rfl rfl rfl rfl rfl (.c3 rfl rfl rfl)) ?_;have d7:=flat_len (λx=>((q.p.atC 0 (y0h r d i)).reverse).map (x7q d x)) 4 (λx=>by rw[List.length_map];exact d6) ((q.bs.getD i iq0).2.take j);rw[List.length_take]at d7;refine sr (lt' rfl rfl (nn (sq (cd rfl (λc3=>?_) (λc3=>?_)))));refine sk (tn (sq (bl (sr ?_))));replace hB:=a2.ext (q1.n2 q2 q7);refine z1a (id0) rfl (z1u hB.bi i) rfl z6j z1d (λe3 b5=>?_);refine z1i rfl (b5 _ (z1u hB.bi i)) z3o (al y3v rfl rfl (λd3 w8 e6 D q8 z8=>?_));refine z0j (vs:=[_,_]) rfl rfl D y1u (λw9 D q9 z9=>?_) (h1:=(by first|(simp[Value.oneCell',S];done)|exact z1k.one _));refine nn (sr (mv rfl (lnS rfl underlying37 (mv rfl (nn (bl ?_))))));replace I:=(I.ext q8).fr q9 (by first|exact z9k I (by omega)|simp[z0x]<;>omega);replace J:=(J.ext q8).fr q9 (by first|exact z9k J (by omega)|simp[z0x]<;>omega);refine lpK (ι:=Nat×Value) [(1,_),(2,_),(3,_),(13,_),(15,_),(26,_),(27,_),(28,_),(47,_),(48,_),(49,_),(53,_),(54,_)] (λp=>[(55,.int .i64 (p.1:Int)),(9,p.2)]) (λp w'=>Fr [] w2 w'/\p.1<=((q.p.atC 0 (y0h r d i)).reverse).length/\Lw.Own z4o 246 w2.heap.size w' p.2 (((x9t q.p r d i)++((q.bs.getD i iq0).2.take j).flatMap (λx=>((q.p.atC 0 (y0h r d i)).reverse).map (x7q d x)))++(((q.p.atC 0 (y0h r d i)).reverse).take p.1).map (x7q d ((q.bs.getD i iq0).2.getD j id0)))/\Lw.Own z1k 87 w2.heap.size w' (.slice b0 ((q.p.atC 0 (y0h r d i)).reverse).length b1) ((q.p.atC 0 (y0h r d i)).reverse)/\Blk w' d3 87 (z1k.enc ((q.bs.getD i iq0).2.getD j id0))) (λp=>((q.p.atC 0 (y0h r d i)).reverse).length-p.1) (0,_) (.d8 rfl rfl rfl rfl rfl rfl rfl rfl (.c7 rfl rfl rfl rfl rfl rfl rfl)) ⟨(q7.z2 q8 q9),⟨Nat.zero_le _,by simpa using I,J,D⟩⟩ ?_;rintro⟨k,uK⟩ g6 ⟨a4,⟨hk,I,J,D⟩⟩;simp only at hk I;have h8:=a4.size;have b9:=D.lt;refine kpC [(1,_),(2,_),(3,_),(13,_),(15,_),(26,_),(27,_),(28,_),(47,_),(48,_),(49,_),(53,_),(54,_),(55,.int .i64 (k:Int)),(9,uK)] (.d8 rfl rfl rfl rfl rfl rfl rfl rfl (.c7 rfl rfl rfl rfl rfl rfl rfl)) (sr (lt' rfl rfl (nn (sq (cd rfl (λc4=>?_) (λc4=>?_))))));refine sk (tn (sq (bl (sr (z1a (id0) rfl J.sl rfl z6j z1d (λe4 b6=>?_))))));refine z1i rfl (b6 _ J.sl) z3o (al y3v rfl rfl (λf1 g7 e7 a1 M h9=>?_));refine z0j (vs:=[_,_]) rfl rfl a1 y1u (λg8 a1 O i0=>?_) (h1:=(by first|(simp[Value.oneCell',S];done)|exact z1k.one _));refine nn (sr (mv rfl (eq' rfl rfl (nn (cd rfl (λc5=>?_) (λc5=>?_))))));refine rg (mv rfl (z0k rfl a1 z3o ?_));replace D:=(D.ext M).fr O;refine z0k rfl D z3o (z1v (cs:=[_,_,_,_,_]) (ev3 rfl rfl rfl) j1d (z0h rfl rfl rfl (z0h rfl rfl rfl (z0h rfl rfl rfl z0s))) rfl ?_);refine z2h ([(⟨(((q.p.atC 0 (y0h r d i)).reverse).getD k id0),((q.bs.getD i iq0).2.getD j id0),1⟩:Cx)]) (ev1 rfl) rfl rfl rfl y1z (λf2 g9 e8 b7 a5 i1=>?_);replace J:=((J.ext M).fr O (by first|exact z9k J (by omega)|simp[z0x]<;>omega)).ext a5;replace D:=D.ext a5;replace I:=((I.ext M).fr O (by first|exact z9k I (by omega)|simp[z0x]<;>omega)).ext a5;have Z:=I;refine z2e rfl rfl I b7.sl y1z (by unfold maxLen;simp only[List.length_append,List.length_map,List.length_take,List.length_cons,List.length_nil];omega) (by simp only[List.length_append,List.length_map,List.length_take,List.length_cons,List.length_nil];omega) (λg4 h0 I a6 e0=>?_);have i2:=a6.size;replace J:=J.fr a6 ((Own.neO Z J (by decide)));replace D:=D.fr a6 (λhk=>Z.neB D (by decide) hk);refine asg rfl (kpL [(1,_),(2,_),(3,_),(9,_),(13,_),(15,_),(26,_),(27,_),(28,_),(47,_),(48,_),(49,_),(53,_),(54,_),(55,_)] (.d8 rfl rfl rfl rfl rfl rfl rfl rfl (.c7 rfl rfl rfl rfl rfl rfl rfl)) (nl (bn' (tn (rg (z0v rfl rfl (wi6 (by omega)) (mv rfl (nl ?_))))))));exact lpE ((k+1,_)) (.d8 rfl rfl rfl rfl rfl rfl rfl rfl (.c7 rfl rfl rfl rfl rfl rfl rfl)) ⟨((a4.z3 M O a5).step a6 (λk hk a9=>absurd (Z.blk k hk).1 (by omega))),⟨by simp only;omega,by rw[y3t (x7q d ((q.bs.getD i iq0).2.getD j id0)) id0 (by omega),<-List.append_assoc,show x7q d ((q.bs.getD i iq0).2.getD j id0) (((q.p.atC 0 (y0h r d i)).reverse).getD k id0)=_ from if_pos c5];exact I,J,D⟩⟩ (by simp only;omega);refine rg (mv rfl ?_);replace D:=(D.ext M).fr O;refine z0k rfl D z3o (z0k rfl a1 z3o (z1v (cs:=[_,_,_,_,_]) (ev3 rfl rfl rfl) j1d (z0h rfl rfl rfl (z0h rfl rfl rfl (z0h rfl rfl rfl z0s))) rfl ?_));refine z2h ([(⟨((q.bs.getD i iq0).2.getD j id0),(((q.p.atC 0 (y0h r d i)).reverse).getD k id0),-1⟩:Cx)]) (ev1 rfl) rfl rfl rfl y1z (λf3 h2 e9 b8 a7 i3=>?_);replace J:=((J.ext M).fr O (by first|exact z9k J (by omega)|simp[z0x]<;>omega)).ext a7;replace D:=D.ext a7;replace I:=((I.ext M).fr O (by first|exact z9k I (by omega)|simp[z0x]<;>omega)).ext a7;have a0:=I;refine z2e rfl rfl I b8.sl y1z (by unfold maxLen;simp only[List.length_append,List.length_map,List.length_take,List.length_cons,List.length_nil];omega) (by simp only[List.length_append,List.length_map,List.length_take,List.length_cons,List.length_nil];omega) (λg5 h3 I a8 e1=>?_);have i4:=a8.size;replace J:=J.fr a8 ((Own.neO a0 J (by decide)));replace D:=D.fr a8 (λhk=>a0.neB D (by decide) hk);refine asg rfl (kpL [(1,_),(2,_),(3,_),(9,_),(13,_),(15,_),(26,_),(27,_),(28,_),(47,_),(48,_),(49,_),(53,_),(54,_),(55,_)] (.d8 rfl rfl rfl rfl rfl rfl rfl rfl (.c7 rfl rfl rfl rfl rfl rfl rfl)) (nl (bn' (tn (rg (z0v rfl rfl (wi6 (by omega)) (mv rfl (nl ?_))))))));exact lpE ((k+1,_)) (.d8 rfl rfl rfl rfl rfl rfl rfl rfl (.c7 rfl rfl rfl rfl rfl rfl rfl)) ⟨((a4.z3 M O a7).step a8 (λk hk a9=>absurd (a0.blk k hk).1 (by omega))),⟨by simp only;omega,by rw[y3t (x7q d ((q.bs.getD i iq0).2.getD j id0)) id0 (by omega),<-List.append_assoc,show x7q d ((q.bs.getD i iq0).2.getD j id0) (((q.p.atC 0 (y0h r d i)).reverse).getD k id0)=_ from if_neg c5];exact I,J,D⟩⟩ (by simp only;omega);obtain rfl:k=((q.p.atC 0 (y0h r d i)).reverse).length:=by omega
 rw[List.take_length]at I;refine ex (te (te (xh (bn' (tn (rg (z0v rfl rfl (wi6 (by omega)) (mv rfl (kpL [(1,_),(2,_),(3,_),(9,_),(13,_),(26,_),(27,_),(28,_),(47,_),(48,_),(49,_)] (.d8 rfl rfl rfl rfl rfl rfl rfl rfl (.c3 rfl rfl rfl)) (nl ?_))))))))));exact lpE ((j+1,_)) (.d8 rfl rfl rfl rfl rfl rfl rfl rfl (.c3 rfl rfl rfl)) ⟨a4,⟨by simp only;omega,by rw[v6l (λx=>((q.p.atC 0 (y0h r d i)).reverse).map (x7q d x)) id0 (by omega),<-List.append_assoc];exact I,J⟩⟩ (by simp only;omega);obtain rfl:j=(q.bs.getD i iq0).2.length:=by omega
 rw[List.take_length]at I;refine ex (te (te (xh (bn' (tn (rg (z0v rfl rfl (wi6 (by omega)) (mv rfl (kpL [(1,_),(2,_),(3,_),(9,_),(26,_),(27,_),(28,_)] (.c7 rfl rfl rfl rfl rfl rfl rfl) (nl ?_))))))))));exact lpE ((i+1,_)) (.c7 rfl rfl rfl rfl rfl rfl rfl) ⟨q7,⟨by simp only;omega,by rw[v1v,show u2x q.p r d i=(q.bs.getD i iq0).2.flatMap (λx=>((q.p.atC 0 (y0h r d i)).reverse).map (x7q d x)) from by unfold u2x;rw[z3m]];exact I⟩⟩ (by simp only;omega);obtain rfl:i=q.bs.length:=by omega
 refine ex (te (te (xh (tn ?_))));refine jn (ι:=Unit) [(9,_)] (λ_j=>[]) (λ_j w'=>Fr [] w0 w'/\Lw.Own z4o 246 w0.heap.size w' uI (z3r q.p r d)) (.cons rfl .nil) ?_ ?_;refine sr (mv rfl (eq' rfl rfl (kpL [(9,_),(77,_)] (.c2 rfl rfl) (nn (cd rfl (λc6=>?_) (λc6=>?_))))));refine rg (mv rfl ?_);have a3:=I;refine cl (ev1 rfl) (mkC func201) (v3u w2.heap.size _ _ _ I (by omega)) rfl ?_;rintro _ h5 ⟨I,c9⟩;have i5:=c9.size;refine nl ?_;exact jE (()) (.cons rfl .nil) ⟨((q1.n2 q2 q3).step c9 (λk hk a9=>absurd (a3.blk k hk).1 (by omega))),(by rw[show z3r q.p r d=_ from if_pos (by omega),List.length_map];exact I.low (by omega))⟩;refine sk ?_;exact jE (()) (.cons rfl .nil) ⟨(q1.n2 q2 q3),(by rw[show z3r q.p r d=_ from if_neg (by omega),List.length_map];exact I.low (by omega))⟩;rintro _j h6 ⟨d0,I⟩;have i7:=d0.size;refine kpC [(9,_)] (.cons rfl .nil) (sr (mv rfl (cl (ev1 rfl) (mkC func202) (x5l _ (z3r q.p r d) _ I.sl (by omega)) rfl ?_)));rintro _ h7 ⟨d4,rfl,f0,hY,d1⟩;have i8:=d1.size;refine asg rfl (asg rfl (nn (rt (r2 results147 rfl rfl ?_))));exact⟨_,rfl,⟨d4,rfl,by omega,hY.low (by omega)⟩,(d0.n1 d1)⟩
end Go.Proofs.YtpgdchkdlgkmgaaGreatDoor
namespace Go.G08
open Go.Lw Go.G21
def orZ:List Int->Int
  | []=>0
  | x::l=>if x≠0 then x else orZ l
theorem v4a:∀ {l:List Int} {i:Nat},i<l.length->(∀j,j<i->l.getD j 0=0)->l.getD i 0≠0->orZ l=l.getD i 0
 | x::l,0,_,_,h=>by simp only[List.getD_cons_zero]at h ⊢;exact if_pos h
 | x::l,i+1,hi,hj,h=>by
  have D:=hj 0 (by omega)
  simp only[List.getD_cons_zero]at D
  rw[show orZ (x::l)=if x≠0 then x else orZ l from rfl,if_neg (by omega)]
  simp only[List.getD_cons_succ]at h ⊢
  exact v4a (by simpa using hi) (λj hl=>by have:=hj (j+1) (by omega);simpa only[List.getD_cons_succ] using this) h
theorem x0g:∀ {l:List Int},(∀j,j<l.length->l.getD j 0=0)->orZ l=0
 | [],_=>rfl
 | x::l,hj=>by
  have D:=hj 0 (by simp)
  simp only[List.getD_cons_zero]at D
  rw[show orZ (x::l)=if x≠0 then x else orZ l from rfl,if_neg (by omega)]
  exact x0g (λj hl=>by have:=hj (j+1) (by simpa using hl);simpa only[List.getD_cons_succ] using this)
theorem x8a (a b:LId):orZ [z9v a.y b.y,z9v a.n b.n]=z7c a b:=by
 unfold orZ orZ orZ z9v z7c
 repeat' split
 all_goals first|rfl|omega
end Go.G08
namespace Go.Lw
open Go.RowKit
def MapL {κ:Type}[DecidableEq κ](V:κ->Value)(w:World)(g:Nat)(m:List (κ×Value)):Prop:=
  ∃(es:Array MapEntry) (c:Nat),w.heap[g]?=some (.map es c)/\es.toList.map (λe=>(e.key,e.val))=m.map (λp=>(V p.1,p.2))/\(m.map (·.1)).Nodup/\(es.toList.map (·.born)).Nodup/\∀e∈es.toList,e.born<c
def z5d {κ:Type}[DecidableEq κ](m:List (κ×Value))(k:κ):List (κ×Value):=
  match (m.map (·.1)).findIdx? (λx=>decide (k=x)) with
  | some i=>m.eraseIdx i
  | none=>m
def MapIt {κ:Type}[DecidableEq κ](V:κ->Value)(w:World)(gi g:Nat)(m rem:List (κ×Value))(cur:Option (κ×Value)):Prop:=
  ∃(es:Array MapEntry) (c:Nat) (seen:Array Nat),w.heap[g]?=some (.map es c)/\es.toList.map (λe=>(e.key,e.val))=m.map (λp=>(V p.1,p.2))/\(es.toList.map (·.born)).Nodup/\(∀e∈es.toList,e.born<c)/\
    w.heap[gi]?=some (.mapIter (some g) c seen c)/\(leftOf es seen).toList.map (λe=>(e.key,e.val))=rem.map (λp=>(V p.1,p.2))/\∀p,cur=some p->∃e∈es.toList,∃s':Array Nat,seen=s'.push e.born/\e.key=V p.1/\e.val=p.2
theorem j4y {P:Program}{ops:Array Oper}{Q:Exit->Act->World->Prop}{o:Oper}{rest:List Oper}{a:Act}{n:Nat}{ds:List Nat}{L:List (Nat×Value)}{w w':World}{v:Value}(h:AgM ds a n L)(J:o.guard=none)(I:o.dst=none)(M:(execOp a.eval o).run P w=.ok (.value v) w')
    (k:∀a,AgM ds a n L->wpList P ops Q rest a w'):wpList P ops Q (o::rest) a w:=
  wpList_plain J λK D=>by
    unfold Oper.wp
    rw[M]
    show K (a.put o.dst v) w'
    rw[I]
    exact D _ _ (k _ h)
theorem y6m {D:Type}(m:List (D×Value))(i:Nat)(v:Value):(m.modify i λp=>(p.1,v)).map (·.1)=m.map (·.1):=by
 apply List.ext_getElem?;intro j;simp only[List.getElem?_map,List.getElem?_modify];by_cases h:i=j;subst h;cases m[i]?<;>simp
 simp[h]
theorem y0u {α β:Type}(f:α->β)(i:Nat)(l:List α):(l.eraseIdx i).map f=(l.map f).eraseIdx i:=by
 apply List.ext_getElem?;intro j;simp only[List.getElem?_map,List.getElem?_eraseIdx];split<;>rfl
section
variable {κ:Type} [DecidableEq κ] {V:κ->Value} {P:Program} {K:TypeId} {w w':World} {g:Nat} {m:List (κ×Value)} {S:List Nat}
theorem MapL.fr (h:MapL V w g m)(hf:Fr S w w')(hn:g∉S:=by simp[z0x]<;>omega):MapL V w' g m:=by
 obtain⟨I,c,D,J⟩:=h;exact⟨I,c,(hf.block g (Array.getElem?_eq_some_iff.1 D).1 hn).trans D,J⟩
theorem MapL.ext (h:MapL V w g m)(hf:Fr [] w w'):MapL V w' g m:=h.fr hf (by simp)
theorem MapL.f (h:MapL V w g m):MapF V w g (z2k m):=let ⟨es,c,h1,h2,_⟩:=h;⟨es,c,m,h1,h2,λ_=>rfl⟩
theorem MapL.lt (h:MapL V w g m):g<w.heap.size:=h.f.lt
theorem MapL.nodup (h:MapL V w g m):(m.map (·.1)).Nodup:=let ⟨_,_,_,_,h,_⟩:=h;h
theorem v2a {k:κ}(h:(m.map (·.1)).findIdx? (λx=>decide (k=x))=none):k∉m.map (·.1):=λD=>by
 rw[List.findIdx?_eq_none_iff]at h
 have:=h k D
 simp at this
theorem y6h {t E:TypeId}(h:MapL V w g m)(hk:KeyLaw P K V)(hu:P.underlying t=some (.map K E))(k:κ)(v:Value) :
    ∃w',(Instr.mapUpdate t (.map (some g)) (V k) v).run P w=.ok () w'/\MapL V w' g (z3x m k v)/\Fr [g] w w'/\w'.heap.size=w.heap.size:=by
  obtain⟨D,c,h1,h2,a6,a3,a0⟩:=h
  have a8:=(Array.getElem?_eq_some_iff.1 h1).1
  have O:D.toList.map (·.key)=(m.map (·.1)).map V:=by
    have:=congrArg (List.map Prod.fst) h2
    simpa[List.map_map,Function.comp_def] using this
  have J:=hk.find k D.toList (m.map (·.1)) w O
  have Z:∀o,(setObj g o).run P w=.ok () { w with heap:=w.heap.setIfInBounds g o }:=by intro o;simp[setObj,Sem.run,h1]
  have a4:∀o,Fr [g] w { w with heap:=w.heap.setIfInBounds g o }:=λo=>⟨rfl,rfl,rfl,by simp,λi _ hn=>by
    simp only
    rw[Array.getElem?_setIfInBounds_ne (by intro e;subst e;simp at hn)]⟩
  have M:∀o,({ w with heap:=w.heap.setIfInBounds g o }:World).heap[g]?=some o:=by intro o;simp[a8]
  have b0:D.toList.length=m.length:=by have:=congrArg List.length h2;simpa using this
  cases hf:(m.map (·.1)).findIdx? (λx=>decide (k=x)) with
  | none=>
    have ea:z3x m k v=m++[(k,v)]:=by unfold z3x;rw[hf]
    rw[ea]
    refine⟨_,?_,⟨_,_,M (.map (D.push { key:=V k,val:=v,born:=c }) (c+1)),?_,?_,?_,?_⟩,a4 _,by simp⟩
    · rw[hf]at J
      simp only[Instr.mapUpdate,Sem.run_bind,run_underlying hu,Result.andThen_ok,z2l h1,hk.check,J,Option.bind_none,Z]
    · simp[h2]
    · rw[List.map_append]
      exact List.nodup_append.2 ⟨a6,by simp,λx hx y hy=>by
        simp at hy;subst hy;intro e;subst e;exact v2a hf hx⟩
    · rw[Array.toList_push,List.map_append]
      exact List.nodup_append.2 ⟨a3,by simp,λx hx y hy=>by
        simp at hy;subst hy
        obtain⟨e,he,rfl⟩:=List.mem_map.1 hx
        have:=a0 e he;omega⟩
    · intro e he
      rw[Array.toList_push]at he
      rcases List.mem_append.1 he with h|h
      · have:=a0 e h;omega
      · simp at h;subst h;exact Nat.lt_succ_self _
  | some i=>
    have hi:i<m.length:=by
      have:=List.findIdx?_eq_some_iff_findIdx_eq.1 hf
      simpa using this.1
    have U:i<D.toList.length:=by omega
    have a5:V k=(D.toList[i]).key:=by
      have a7:=List.findIdx?_eq_some_iff_getElem.1 hf
      obtain⟨b1,hp,_⟩:=a7
      have a9:k=(m.map (·.1))[i]:=by simpa using hp
      have e1:(D.toList.map (·.key))[i]?=((m.map (·.1)).map V)[i]?:=by rw[O]
      simp only[List.getElem?_map,List.getElem?_eq_getElem U,List.getElem?_eq_getElem hi,Option.map_some,Option.some.injEq]at e1
      rw[e1,a9];simp
    have ea:z3x m k v=m.modify i λp=>(p.1,v):=by unfold z3x;rw[hf]
    rw[ea]
    have I:(D.modify i λe=>{ e with key:=V k,val:=v }).toList.map (·.born)=D.toList.map (·.born):=by
      apply List.ext_getElem?
      intro j
      simp only[List.getElem?_map]
      rw[Array.getElem?_toList,Array.getElem?_modify,Array.getElem?_toList]
      by_cases hj:i=j
      · subst hj;simp only[if_true];cases D[i]?<;>rfl
      · simp only[hj,if_false]
    refine⟨_,?_,⟨_,_,M (.map (D.modify i λe=>{ e with key:=V k,val:=v }) c),?_,by rw[y6m m];exact a6,by rw[I];exact a3,?_⟩,a4 _,by simp⟩
    · rw[hf]at J
      have a1:D[i]?=some D.toList[i]:=by rw[<-Array.getElem?_toList,List.getElem?_eq_getElem U]
      simp only[Option.bind_some,List.getElem?_eq_getElem U,Option.map_some]at J
      have a2:(Instr.keyThatStays (((D[i]?).map (·.key)).getD (V k)) (V k)).run P w=.ok (V k) w:=by
        rw[a1]
        simp only[Option.map_some,Option.getD_some,<-a5,Instr.keyThatStays,hk.bits,if_true,Sem.run_pure]
      simp only[Instr.mapUpdate,Sem.run_bind,run_underlying hu,Result.andThen_ok,z2l h1,hk.check,J,a2,Z]
    · apply List.ext_getElem?
      intro j
      have e2:=congrArg (·[j]?) h2
      simp only[List.getElem?_map]at e2 ⊢
      rw[Array.getElem?_toList,Array.getElem?_modify,List.getElem?_modify]
      rw[Array.getElem?_toList]at e2
      by_cases hj:i=j
      · subst hj
        have e3:=List.getElem?_eq_getElem hi
        have a1:D[i]?=some D.toList[i]:=by rw[<-Array.getElem?_toList,List.getElem?_eq_getElem U]
        rw[a1,e3]at e2 ⊢
        simp only[Option.map_some,Option.some.injEq,Prod.mk.injEq]at e2
        simp only[if_true,Option.map_some]
        rw[a5,e2.1];rfl
      · simp only[hj,if_false]
        rw[e2];simp
    · intro e he
      have:e.born∈D.toList.map (·.born):=by rw[<-I];exact List.mem_map_of_mem he
      obtain⟨x,hx,hb⟩:=List.mem_map.1 this
      rw[<-hb];exact a0 x hx
theorem x4s {t E:TypeId}{ty:TypeId}(h:MapL V w g m)(hk:KeyLaw P K V)(hu:P.underlying t=some (.map K E))(k:κ) :
    ∃w',(Builtin.delete_ #[t,K] ty #[.map (some g),V k]).run P w=.ok (.tuple #[]) w'/\MapL V w' g (z5d m k)/\Fr [g] w w'/\w'.heap.size=w.heap.size:=by
  obtain⟨J,c,h1,h2,a2,Z,U⟩:=h
  have a3:=(Array.getElem?_eq_some_iff.1 h1).1
  have O:J.toList.map (·.key)=(m.map (·.1)).map V:=by
    have:=congrArg (List.map Prod.fst) h2
    simpa[List.map_map,Function.comp_def] using this
  have D:=hk.find k J.toList (m.map (·.1)) w O
  have M:∀o,(setObj g o).run P w=.ok () { w with heap:=w.heap.setIfInBounds g o }:=by intro o;simp[setObj,Sem.run,h1]
  have a0:∀o,Fr [g] w { w with heap:=w.heap.setIfInBounds g o }:=λo=>⟨rfl,rfl,rfl,by simp,λi _ hn=>by
    simp only
    rw[Array.getElem?_setIfInBounds_ne (by intro e;subst e;simp at hn)]⟩
  have I:∀o,({ w with heap:=w.heap.setIfInBounds g o }:World).heap[g]?=some o:=by intro o;simp[a3]
  have a4:J.toList.length=m.length:=by have:=congrArg List.length h2;simpa using this
  cases hf:(m.map (·.1)).findIdx? (λx=>decide (k=x)) with
  | none=>
    have ea:z5d m k=m:=by unfold z5d;rw[hf]
    rw[ea]
    refine⟨_,?_,⟨_,_,I (.map J c),h2,a2,Z,U⟩,a0 _,by simp⟩
    rw[hf]at D
    simp[Builtin.delete_,run_underlying hu,z2l h1,hk.check,D,M]
  | some i=>
    have ea:z5d m k=m.eraseIdx i:=by unfold z5d;rw[hf]
    rw[ea]
    have hi:i<m.length:=by
      have:=List.findIdx?_eq_some_iff_findIdx_eq.1 hf
      simpa using this.1
    have a1:i<J.toList.length:=by omega
    have el:(J.eraseIdxIfInBounds i).toList=J.toList.eraseIdx i:=by
      unfold Array.eraseIdxIfInBounds
      rw[dif_pos (by simpa using a1),Array.toList_eraseIdx]
    refine⟨_,?_,⟨_,_,I (.map (J.eraseIdxIfInBounds i) c),?_,?_,?_,?_⟩,a0 _,by simp⟩
    · rw[hf]at D
      simp only[Option.bind_some,List.getElem?_eq_getElem a1,Option.map_some]at D
      simp[Builtin.delete_,run_underlying hu,z2l h1,hk.check,D,M]
    · rw[el,y0u,y0u,h2]
    · rw[y0u];exact List.Nodup.sublist (List.eraseIdx_sublist _ _) a2
    · rw[el,y0u];exact List.Nodup.sublist (List.eraseIdx_sublist _ _) Z
    · intro e he
      rw[el]at he
      exact U e ((List.eraseIdx_sublist _ _).mem he)
variable {a:Act} {n:Nat} {L:List (Nat×Value)} {ds:List Nat} {Q:Exit->Act->World->Prop} {C:World->Prop} {Qa:Act->Prop} {ops:Array Oper} {rest:List Oper}
variable {d:Nat} {ty:TypeId} {pos:String} {after:Array Edge} {x y z:Operand} {t E:TypeId} {k:κ} {v zv:Value}
theorem y7e (h:AgM ds a n L)(hx:ev L x=some (.map (some g)))(hy:ev L y=some (V k))(hz:ev L z=some v)(O:MapL V w g m)(M:KeyLaw P K V)(Z:P.underlying t=some (.map K E))
    (q:∀w',MapL V w' g (z3x m k v)->Fr [g] w w'->w'.heap.size=w.heap.size->∀a,AgM ds a n L->wpList P ops Q rest a w'):wpList P ops Q (⟨none,.mapUpdate t x y z,ty,pos,after,none⟩::rest) a w:=by
  obtain⟨w',U,D,I,J⟩:=y6h O M Z k v
  exact z9g h rfl rfl (w':=w') (by simp[execOp,h.eval hx,h.eval hy,h.eval hz,U]) (q w' D I J)
theorem u6t {J:TypeId}(h:AgM ds a n L)(hx:ev L x=some (.map (some g)))(hy:ev L y=some (V k))(hm:MapL V w g m)(hk:KeyLaw P K V)(hu:P.underlying t=some (.map K E))(Z:J=K)
    (q:∀w',MapL V w' g (z5d m k)->Fr [g] w w'->w'.heap.size=w.heap.size->∀a,AgM ds a n L->wpList P ops Q rest a w'):wpList P ops Q (⟨none,.call ⟨.builtin .delete,#[x,y],#[t,J]⟩,ty,pos,after,none⟩::rest) a w:=by
  subst Z
  obtain⟨w',hr,M,O,U⟩:=x4s (ty:=ty) hm hk hu k
  refine j4y h rfl rfl (w':=w') (v:=.tuple #[]) ?_ (q w' M O U)
  have D:=h.eval hx
  have I:=h.eval hy
  rw[z1z];unfold builtin
  simp[D,I,hr]
theorem MapIt.fr {gi:Nat}{rem:List (κ×Value)}{cur:Option (κ×Value)}(h:MapIt V w gi g m rem cur)(hf:Fr S w w')(h1:g∉S)(O:gi∉S):MapIt V w' gi g m rem cur:=by
 obtain⟨M,c,D,I,U,Z,k4,J,k6⟩:=h;exact⟨M,c,D,(hf.block g (Array.getElem?_eq_some_iff.1 I).1 h1).trans I,U,Z,k4,(hf.block gi (Array.getElem?_eq_some_iff.1 J).1 O).trans J,k6⟩
theorem MapIt.ext {gi:Nat}{rem:List (κ×Value)}{cur:Option (κ×Value)}(h:MapIt V w gi g m rem cur)(hf:Fr [] w w'):MapIt V w' gi g m rem cur:=h.fr hf (by simp) (by simp)
theorem MapIt.lt {gi:Nat}{rem:List (κ×Value)}{cur:Option (κ×Value)}(h:MapIt V w gi g m rem cur):gi<w.heap.size:=let ⟨_,_,_,_,_,_,_,k5,_⟩:=h;(Array.getElem?_eq_some_iff.1 k5).1
theorem MapIt.ne {gi:Nat}{rem:List (κ×Value)}{cur:Option (κ×Value)}(h:MapIt V w gi g m rem cur):g≠gi:=λe=>by
 obtain⟨M,c,I,J,_,_,_,D,_⟩:=h
 rw[<-e,J]at D;cases D
theorem v2d {I:Array MapEntry}{D:Array Nat}{e:MapEntry}{J M:List MapEntry}(hn:(I.toList.map (·.born)).Nodup)(h:(leftOf I D).toList=J++e::M):(leftOf I (D.push e.born)).toList=J++M:=by
 have Z:(leftOf I (D.push e.born)).toList=(leftOf I D).toList.filter λx=>decide (x.born≠e.born):=by
  unfold leftOf;rw[Array.toList_filter,Array.toList_filter,List.filter_filter];congr 1;funext x;by_cases c1:x.born=e.born;simp[c1];by_cases c2:x.born∈D;simp[c1,c2];simp[c1,c2]
 have O:((leftOf I D).toList.map (·.born)).Nodup:=by
  refine List.Nodup.sublist (List.Sublist.map _ ?_) hn;unfold leftOf;rw[Array.toList_filter];exact List.filter_sublist
 rw[h]at Z O;rw[Z,List.filter_append,List.filter_cons];rw[List.map_append,List.map_cons]at O;obtain⟨n1,n2,n3⟩:=List.nodup_append.1 O;have n4:=List.nodup_cons.1 n2;have f1:J.filter (λx=>decide (x.born≠e.born))=J:=List.filter_eq_self.2 λx U=>by
  simpa using n3 _ (List.mem_map_of_mem U) e.born (List.mem_cons_self ..)
 have f2:M.filter (λx=>decide (x.born≠e.born))=M:=List.filter_eq_self.2 λx U=>by
  have:x.born≠e.born:=λk=>n4.1 (by rw[<-k];exact List.mem_map_of_mem U);simpa using this
 rw[f1,f2];simp
theorem v8m (hx:ev L x=some (.map (some g)))(hm:MapL V w g m)(hu:P.underlying t=some (.map K E))(hn:Nat.blt d n=true)
    (q:∀gi w',gi=w.heap.size->MapIt V w' gi g m m none->Fr [] w w'->w'.heap.size=gi+1->WL P ops Q rest n ds w' ((d,.pointer (some ⟨gi,0,none⟩))::L)):WL P ops Q (⟨some d,.range t x,ty,pos,after,none⟩::rest) n ds w L:=λa h=>by
  obtain⟨I,c,J,O,h3,U,Z⟩:=hm
  have D:=(Array.getElem?_eq_some_iff.1 J).1
  refine z1t h rfl rfl hn (w':=w.alloc (.mapIter (some g) c #[] c)) (v:=.pointer (some ⟨w.heap.size,0,none⟩)) ?_ (q _ _ rfl ⟨I,c,#[],?_,O,U,Z,heap_alloc_new w _,?_,λp hp=>by cases hp⟩ (Fr.alloc [] w _) (by simp) )
  · have M:=h.eval hx
    simp only[execOp,M,Sem.run_bind,run_range_map w t K E g I c hu J,Result.andThen_ok,Sem.run_pure]
  · first|exact(heap_alloc_old w _ D).trans J|exact(heap_alloc_old w _ _ D).trans J
  · rw[<-O]
    have:(leftOf I #[]).toList=I.toList:=by unfold leftOf;rw[Array.toList_filter];simp
    rw[this]
theorem u9i {gi:Nat}{rem:List (κ×Value)}{cur:Option (κ×Value)}(hx:ev L x=some (.pointer (some ⟨gi,0,none⟩)))(hi:MapIt V w gi g m rem cur)(hn:Nat.blt d n=true)
    (qt:∀(r1:List (κ×Value)) (p:κ×Value) (r2:List (κ×Value)),rem=r1++p::r2->∀w',MapIt V w' gi g m (r1++r2) (some p)->Fr [gi] w w'->w'.heap.size=w.heap.size->WL P ops Q rest n ds w' ((d,.tuple #[.bool true,V p.1,p.2])::L))
    (qf:rem=[]->WL P ops Q rest n ds w ((d,.tuple #[.bool false])::L)):WL P ops Q (⟨some d,.next x false,ty,pos,after,none⟩::rest) n ds w L:=λa h=>by
  have a3:=hi.ne
  obtain⟨I,c,D,h1,h2,h3,h4,h5,Z,h7⟩:=hi
  have a2:=(Array.getElem?_eq_some_iff.1 h5).1
  have U:=h.eval hx
  rcases run_next_at (P:=P) w ty gi g c c D I c h5 h1 h4 (Nat.le_refl _) with ⟨e0,hr⟩|⟨e,he,w1,hw,hr⟩
  · refine z1t h rfl rfl hn (w':=w) (v:=.tuple #[.bool false]) (by simp only[execOp,U,Sem.run_bind,hr,Result.andThen_ok,Sem.run_pure]) (qf ?_)
    have:(leftOf I D).toList=[]:=List.length_eq_zero_iff.1 (by rw[Array.length_toList];exact e0)
    rw[this]at Z
    exact List.map_eq_nil_iff.1 Z.symm
  · obtain⟨l1,l2,hl⟩:=List.append_of_mem he
    rw[hl,List.map_append,List.map_cons]at Z
    obtain⟨r1,r',a5,e1,e2⟩:=List.map_eq_append_iff.1 Z.symm
    obtain⟨p,r2,a6,e3,e4⟩:=List.map_eq_cons_iff.1 e2
    obtain⟨ek,J⟩:=Prod.mk.inj e3
    have a0:e∈I.toList:=by
      have:e∈(leftOf I D).toList:=he
      unfold leftOf at this;rw[Array.toList_filter]at this;exact(List.mem_filter.1 this).1
    have a1:Fr [] w w1:=by rcases hw with rfl|rfl;exact Fr.refl _ _;exact Fr.drew _ _
    have O:w1.heap.size=w.heap.size:=by rcases hw with rfl|rfl<;>rfl
    have M:Fr [gi] w (ChangeMaps.setBlock w1 gi (.mapIter (some g) c (D.push e.born) c)):=
      (a1.weak (by simp)).step (S':=[gi]) ⟨rfl,rfl,rfl,by simp[ChangeMaps.setBlock],λk _ hk=>by
        simp only[ChangeMaps.setBlock]
        rw[Array.getElem?_setIfInBounds_ne (by intro e;subst e;simp at hk)]⟩ (by intro k hk _;exact hk)
    refine z1t h rfl rfl hn (w':=ChangeMaps.setBlock w1 gi (.mapIter (some g) c (D.push e.born) c)) (v:=.tuple #[.bool true,e.key,e.val]) (by simp only[execOp,U,Sem.run_bind,hr,Result.andThen_ok,Sem.run_pure]) ?_
    rw[<-ek,<-J]
    refine qt r1 p r2 (by rw[a5,a6]) _ ⟨I,c,D.push e.born,?_,h2,h3,h4,?_,?_,λp' a4=>?_⟩ M (by simp[ChangeMaps.setBlock,O])
    · exact(M.block g (Array.getElem?_eq_some_iff.1 h1).1 (by simpa using a3)).trans h1
    · simp[ChangeMaps.setBlock,O,a2]
    · rw[v2d h3 hl,List.map_append,List.map_append,<-e1,<-e4]
    · cases a4
      exact⟨e,a0,D,rfl,ek.symm,J.symm⟩
theorem v8d {gi:Nat}{rem:List (κ×Value)}{p:κ×Value}(hx:ev L x=some (.pointer (some ⟨gi,0,none⟩)))(hi:MapIt V w gi g m rem (some p))(hn:Nat.blt d n=true)
    (q:WL P ops Q rest n ds w ((d,.tuple #[V p.1,p.2])::L)):WL P ops Q (⟨some d,.entry x,ty,pos,after,none⟩::rest) n ds w L:=λa h=>by
  obtain⟨O,c,J,U,h2,Z,h4,h5,h6,h7⟩:=hi
  obtain⟨e,he,s',rfl,M,D⟩:=h7 p rfl
  have I:=h.eval hx
  refine z1t h rfl rfl hn (w':=w) (v:=.tuple #[V p.1,p.2]) ?_ q
  rw[<-M,<-D]
  simp only[execOp,I,Sem.run_bind,run_entry_at (P:=P) w gi g c s' O c e h5 U he Z,Result.andThen_ok,Sem.run_pure]
end
end Go.Lw
namespace Go.G08
open Go.Lw Go.G21
section
variable {κ:Type} [DecidableEq κ] {V:κ->Value} {w w':World} {g:Nat} {m:List (κ×Value)} {S:List Nat}
theorem _root_.Go.Lw.MapL.tf {T:Nat}(h:MapL V w g m)(hf:Fr S w w')(I:OffT w T S):MapL V w' g m:=h.fr hf λJ=>by
 obtain⟨T',cs,D,_⟩:=I g J
 exact h.f.ne_blk D rfl
end
theorem BdO.tf {D I base:Nat}{w w':World}{q:BdQ}{S:List Nat}(h:BdO D I base w q)(hf:Fr S w w')(O:OffT w D S)(M:OffT w I S):BdO D I base w' q:=
 ⟨⟨z1w h.f.1 hf O,λp J=>z1w (h.f.2 p J) hf M⟩,⟨z1w h.b.1 hf O,λp J=>z1w (h.b.2 p J) hf M⟩⟩
structure KpM (Ts:List Nat) (g:Nat) (w w':World):Prop where
  size:w.heap.size<=w'.heap.size
  block:∀k,k<w.heap.size->k≠g->(∀(T:Nat) (cs:List Value),Blk w k T cs->T∉Ts)->w'.heap[k]?=w.heap[k]?
theorem KpM.refl (D:List Nat)(g:Nat)(w:World):KpM D g w w:=⟨Nat.le_refl _,λ_ _ _ _=>rfl⟩
theorem KpM.trans {D:List Nat}{g:Nat}{a b c:World}(h:KpM D g a b)(I:KpM D g b c):KpM D g a c:=
 ⟨Nat.le_trans h.size I.size,λk O M J=>by
  have e:=h.block k O M J
  rw[<-e]
  exact I.block k (Nat.lt_of_lt_of_le O h.size) M λT cs U=>J T cs (e.symm.trans U)⟩
theorem KpM.of {D:List Nat}{g:Nat}{w w':World}{S:List Nat}(hf:Fr S w w')(I:∀k∈S,k=g\/∃(T:Nat) (cs:List Value),Blk w k T cs/\T∈D):KpM D g w w':=
 ⟨hf.size,λk Z O J=>hf.block k Z λhm=>by
  rcases I k hm with e|⟨T,cs,M,U⟩
  ·exact O e
  exact J T cs M U⟩
theorem j4a {w:World}{k T T':Nat}{cs cs':List Value}(h:Blk w k T cs)(D:Blk w k T' cs'):T=T':=by
 have e:=(show w.heap[k]?=some (.cells cs.toArray T (0,0)) from h).symm.trans (show w.heap[k]?=some (.cells cs'.toArray T' (0,0)) from D);simp only[Option.some.injEq,Obj.cells.injEq]at e;exact e.2.1
theorem KpM.blk {D:List Nat}{g:Nat}{w w':World}(h:KpM D g w w'){k T:Nat}{cs:List Value}(hb:Blk w k T cs)(O:k≠g)(M:T∉D):Blk w' k T cs:=
 (h.block k hb.lt O λT' I J=>by rw[<-j4a hb J];exact M).trans hb
theorem KpM.map {κ:Type}[DecidableEq κ]{V:κ->Value}{em:List (κ×Value)}{I:List Nat}{g k:Nat}{w w':World}(h:KpM I g w w')(hb:MapL V w k em)(O:k≠g):MapL V w' k em:=by
 obtain⟨J,c,D,M⟩:=hb;refine⟨J,c,(h.block k (Array.getElem?_eq_some_iff.1 D).1 O λT cs hb=>?_).trans D,M⟩;have e:=(show w.heap[k]?=some (.cells cs.toArray T (0,0)) from hb).symm.trans D;cases e
theorem KpM.mapF {κ:Type}[DecidableEq κ]{V:κ->Value}{f:κ->Option Value}{I:List Nat}{g k:Nat}{w w':World}(h:KpM I g w w')(hb:MapF V w k f)(O:k≠g):MapF V w' k f:=by
 obtain⟨J,c,m,D,M⟩:=hb;refine⟨J,c,m,(h.block k (Array.getElem?_eq_some_iff.1 D).1 O λT cs hb=>?_).trans D,M⟩;have e:=(show w.heap[k]?=some (.cells cs.toArray T (0,0)) from hb).symm.trans D;cases e
theorem y7w {α:Type}{E:Enc α}{T base g:Nat}{w:World}{v:Value}{ys:List α}{D:List Nat}(h:Lw.Own E T base w v ys)(I:T∈D):∀k∈z0x v,k=g\/∃(T:Nat) (cs:List Value),Blk w k T cs/\T∈D:=λk M=>by
 obtain⟨cs,J⟩:=y5w h k M
 exact .inr ⟨T,cs,J,I⟩
theorem u3r {g k T:Nat}{w:World}{cs:List Value}{D:List Nat}(h:Blk w k T cs)(J:T∈D):∀k'∈[k],k'=g\/∃(T:Nat) (cs:List Value),Blk w k' T cs/\T∈D:=λk' I=>by
 rw[List.mem_singleton]at I;subst I
 exact .inr ⟨T,cs,h,J⟩
structure MA where
  gk:Nat
  gy:Nat
  cy:Nat
  gt:Nat
  ct:Nat
  gc:Nat
  wk:World
abbrev MA.YV (a:MA):Value:=.slice (some ⟨a.gy,0,none⟩) 6 a.cy
abbrev MA.TV (a:MA):Value:=.slice (some ⟨a.gt,0,none⟩) 6 a.ct
structure MQ where
  rk:Int
  q:BdQ
  ys:List YQ
  ts:List TQ
  cr:List Cx
  fa:SV
  fl:List LId
abbrev MQ.p (m:MQ):MSt:=⟨m.rk,m.q.p,m.ys.map YQ.p,z2a m.ts,m.cr,m.fl⟩
abbrev u3a (a:MA)(m:MQ):List Value:=[.int .i64 m.rk,.slice m.q.f.1 m.q.f.2.1 m.q.f.2.2,.slice m.q.b.1 m.q.b.2.1 m.q.b.2.2,a.YV,a.TV,.map (some a.gc),.slice m.fa.1 m.fa.2.1 m.fa.2.2]
def crK (p:LId×LId):Value:=.agg #[.int .u8 p.1.y,.int .i64 p.1.n,.int .u8 p.2.y,.int .i64 p.2.n]
def crM (l:List Cx):List ((LId×LId)×Value):=l.map λc=>((c.a,c.b),.int .i64 c.n)
structure MtOk (τ:TyK) (Mt:Nat):Prop where
  o:τ.Ok
  y:Mt≠τ.Y
  t:Mt≠τ.T
  l:Mt≠τ.L
  i:Mt≠τ.I
  p:Mt≠τ.P
  s:Mt≠τ.S
abbrev v7q (τ:TyK)(Mt:Nat):List Nat:=[Mt,τ.Y,τ.T,τ.L,τ.I]
structure FrM (τ:TyK) (Mt:Nat) (wS:World) (a:MA) (w:World):Prop where
  fr:Fr [] wS w
  kp:KpM (v7q τ Mt) a.gc a.wk w
theorem FrM.size {τ:TyK}{Mt:Nat}{wS w:World}{a:MA}(h:FrM τ Mt wS a w):wS.heap.size<=w.heap.size:=h.fr.size
theorem FrM.next {τ:TyK}{Mt:Nat}{wS w w':World}{a:MA}(h:FrM τ Mt wS a w)(hf:Fr [] w w'):FrM τ Mt wS a w':=⟨h.fr.next hf,h.kp.trans (KpM.of hf (by simp))⟩
theorem FrM.step {τ:TyK}{Mt:Nat}{wS w w':World}{a:MA}{S:List Nat}(h:FrM τ Mt wS a w)(hf:Fr S w w')(I:∀k∈S,k=a.gc\/∃(T:Nat) (cs:List Value),Blk w k T cs/\T∈v7q τ Mt)(D:∀k∈S,k<wS.heap.size->k∈([]:List Nat)):FrM τ Mt wS a w':=⟨h.fr.step hf D,h.kp.trans (KpM.of hf I)⟩
structure MkM (τ:TyK) (Mt:Nat) (wS:World) (a:MA) (w:World) (m:MQ):Prop where
  k:Blk w a.gk Mt (u3a a m)
  b:BdO τ.S τ.I wS.heap.size w m.q
  y:YsO τ wS.heap.size w a.YV m.ys
  t:TbO τ wS.heap.size w a.TV m.ts
  c:MapL crK w a.gc (crM m.cr)
  f:Lw.Own z1k τ.I wS.heap.size w (slv m.fa) m.fl
  fb:∀s∈m.q.fs++m.q.bs,∀k∈z0x (slv s.1),k∉z0x (slv m.fa)
  ft:∀i,i<6->∀q∈(m.ts.getD i tq0).2,∀k∈z0x (slv q.th),k∉z0x (slv m.fa)
  ly:m.ys.length=6
  lt:m.ts.length=6
  gk:wS.heap.size<=a.gk
  gc:wS.heap.size<=a.gc
  fr:FrM τ Mt wS a w
def MRet (τ:TyK)(Mt:Nat)(wS:World)(a:MA)(x:MR)(r:Value)(w':World):Prop:=
  FrM τ Mt wS a w'/\match x with
    | .error e=>r=.int .i64 e/\e≠0
    | .ok p=>r=.int .i64 0/\∃m,MkM τ Mt wS a w' m/\m.p=p
section
variable {τ:TyK} {Mt:Nat} {wS w w':World} {a:MA} {m:MQ} {j:Nat} {y:YQ}
theorem MRet.err {x:MR}{e:Int}{w':World}(I:x=.error e)(D:e≠0)(hf:FrM τ Mt wS a w'):MRet τ Mt wS a x (.int .i64 e) w':=by subst I;exact⟨hf,rfl,D⟩
theorem MRet.ok {x:MR}{m:MQ}{w':World}(D:x=.ok m.p)(h:MkM τ Mt wS a w' m):MRet τ Mt wS a x (.int .i64 0) w':=by subst D;exact⟨h.fr,rfl,m,h,rfl⟩
theorem MkM.ext (h:MkM τ Mt wS a w m)(hf:Fr [] w w'):MkM τ Mt wS a w' m:=
 ⟨h.k.ext hf,h.b.ext hf,h.y.ext hf,h.t.ext hf,h.c.fr hf (by simp),h.f.ext hf,h.fb,h.ft,h.ly,h.lt,h.gk,h.gc,h.fr.next hf⟩
theorem MkM.yarn (h:MkM τ Mt wS a w m)(D:MtOk τ Mt)(J:j<6)(U:Lw.Own z2r τ.Y wS.heap.size w' a.YV (m.ys.set j y))(hf:Fr [a.gy] w w')(hp:Lw.Own z1r τ.P wS.heap.size w (slv y.pe) y.pes):MkM τ Mt wS a w' { m with ys:=m.ys.set j y }:=by
 have o:∀T,T≠τ.Y->OffT w T [a.gy]:=λT I=>z6d h.y.out (Ne.symm I);refine⟨y7v h.k hf (o _ D.y),BdO.tf h.b hf (o _ (Ne.symm D.o.ys)) (o _ (Ne.symm D.o.yi)),h.y.put (by rw[h.ly];exact J) D.o U hf hp,h.t.tf hf (o _ (Ne.symm D.o.yt)) (o _ (Ne.symm D.o.yl)) (o _ (Ne.symm D.o.yi)) (o _ (Ne.symm D.o.yp)),h.c.tf hf (o _ D.y),z1w h.f hf (o _ (Ne.symm D.o.yi)),h.fb,h.ft,by rw[List.length_set];exact h.ly,h.lt,h.gk,h.gc,h.fr.step hf (y7w h.y.out (by simp[v7q])) λk M O=>?_⟩;have:=(h.y.out.blk k M).1;omega
theorem MkM.beds {q:BdQ}{r:Int}(h:MkM τ Mt wS a w m)(D:MtOk τ Mt)(U:BdO τ.S τ.I wS.heap.size w q)(J:Blk w' a.gk Mt (u3a a { m with q:=q,rk:=r }))(hf:Fr [a.gk] w w')(I:∀s∈q.fs++q.bs,∀k∈z0x (slv s.1),k∉z0x (slv m.fa)):MkM τ Mt wS a w' { m with q:=q,rk:=r }:=by
 have o:∀T,T≠Mt->OffT w T [a.gk]:=λT M=>OffT.one h.k (Ne.symm M);refine⟨J,BdO.tf U hf (o _ (Ne.symm D.s)) (o _ (Ne.symm D.i)),h.y.tf hf (o _ (Ne.symm D.y)) (o _ (Ne.symm D.p)),h.t.tf hf (o _ (Ne.symm D.t)) (o _ (Ne.symm D.l)) (o _ (Ne.symm D.i)) (o _ (Ne.symm D.p)),h.c.tf hf (o _ (Ne.symm D.y)),z1w h.f hf (o _ (Ne.symm D.i)),I,h.ft,h.ly,h.lt,h.gk,h.gc,h.fr.step hf (u3r h.k (by simp[v7q])) λk J O=>?_⟩;rw[List.mem_singleton]at J;have:=h.gk;omega
theorem x2m {M I:Nat}{q:BdQ}{v:Value}{ys:List LId}{T base b:Nat}(J:BdO M I b w' q)(U:Lw.Own z1k T base w v ys)(hb:w.heap.size<=b):∀s∈q.fs++q.bs,∀k∈z0x (slv s.1),k∉z0x v:=λs O k D hb=>by
 have:=(U.blk k hb).2
 rcases List.mem_append.1 O with e|e
 ·have:=((J.f.2 s e).blk k D).1;omega
 have:=((J.b.2 s e).blk k D).1;omega
theorem MkM.fall {w2:World}{u:SV}{l:List LId}(h:MkM τ Mt wS a w m)(D:MtOk τ Mt)(a0:τ.I≠τ.P)(h1:Lw.Own z1k τ.I wS.heap.size w' (slv u) l)(I:Fr (z0x (slv m.fa)) w w')(hx:∀k∈z0x (slv u),k∈z0x (slv m.fa)\/w.heap.size<=k)
    (J:Blk w2 a.gk Mt (u3a a { m with fa:=u,fl:=l })) (f2:Fr [a.gk] w' w2):MkM τ Mt wS a w2 { m with fa:=u,fl:=l }:=by
  have U:∀T,T≠τ.I->OffT w T (z0x (slv m.fa)):=λT hT=>z6d h.f (Ne.symm hT)
  have k1:=y7v h.k I (U _ D.i)
  have M:∀T,T≠Mt->OffT w' T [a.gk]:=λT hT=>OffT.one k1 (Ne.symm hT)
  have dx:∀ {v:Value} {xs:List LId},Lw.Own z1k τ.I wS.heap.size w v xs->(∀k∈z0x v,k∉z0x (slv m.fa))->∀k∈z0x v,k∉z0x (slv u):=λho hd k J hb=>by
    rcases hx k hb with e|e
    · exact hd k J e
    · have:=(ho.blk k J).2;omega
  have fi:∀ {v:Value} {xs:List LId},Lw.Own z1k τ.I wS.heap.size w v xs->(∀k∈z0x v,k∉z0x (slv m.fa))->Lw.Own z1k τ.I wS.heap.size w2 v xs:=λho hd=>z1w (ho.fr I λk J hb=>hd k hb J) f2 (M _ (Ne.symm D.i))
  have a2:∀s∈m.q.fs,Lw.Own z1k τ.I wS.heap.size w2 (slv s.1) s.2:=λs O=>fi (h.b.f.2 s O) (h.fb s (List.mem_append.2 (.inl O)))
  have a1:∀s∈m.q.bs,Lw.Own z1k τ.I wS.heap.size w2 (slv s.1) s.2:=λs O=>fi (h.b.b.2 s O) (h.fb s (List.mem_append.2 (.inr O)))
  refine⟨J,⟨⟨z1w (z1w h.b.f.1 I (U _ D.o.si)) f2 (M _ (Ne.symm D.s)),a2⟩,⟨z1w (z1w h.b.b.1 I (U _ D.o.si)) f2 (M _ (Ne.symm D.s)),a1⟩⟩,
    (h.y.tf I (U _ D.o.yi) (U _ (Ne.symm a0))).tf f2 (M _ (Ne.symm D.y)) (M _ (Ne.symm D.p)),
    ⟨z1w (z1w h.t.out I (U _ D.o.ti)) f2 (M _ (Ne.symm D.t)),λi Z=>z1w (z1w (h.t.ins i Z) I (U _ D.o.li)) f2 (M _ (Ne.symm D.l)),h.t.off,λi Z q hq=>⟨fi (h.t.lps i Z q hq).1 (h.ft i (by rw[<-h.lt];exact Z) q hq),z1w (z1w (h.t.lps i Z q hq).2 I (U _ (Ne.symm a0))) f2 (M _ (Ne.symm D.p))⟩⟩,
    (h.c.tf I (U _ D.i)).tf f2 (M _ (Ne.symm D.y)),z1w h1 f2 (M _ (Ne.symm D.i)),λs O=>?_,λi Z q hq=>dx (h.t.lps i (by rw[h.lt];exact Z) q hq).1 (h.ft i Z q hq),h.ly,h.lt,h.gk,h.gc,(h.fr.step I (y7w h.f (by simp[v7q])) λk J a3=>?_).step f2 (u3r k1 (by simp[v7q])) λk J a3=>?_⟩
  · rcases List.mem_append.1 O with e|e
    · exact dx (h.b.f.2 s e) (h.fb s O)
    · exact dx (h.b.b.2 s e) (h.fb s O)
  · have:=(h.f.blk k J).1;omega
  · rw[List.mem_singleton]at J;have:=h.gk;omega
theorem MkM.mark (h:MkM τ Mt wS a w m):MkM τ Mt wS { a with wk:=w } w m:=⟨h.k,h.b,h.y,h.t,h.c,h.f,h.fb,h.ft,h.ly,h.lt,h.gk,h.gc,⟨h.fr.fr,KpM.refl _ _ _⟩⟩
theorem MkM.unmark (h:MkM τ Mt wS { a with wk:=w } w' m)(D:FrM τ Mt wS a w):MkM τ Mt wS a w' m:=⟨h.k,h.b,h.y,h.t,h.c,h.f,h.fb,h.ft,h.ly,h.lt,h.gk,h.gc,⟨h.fr.fr,D.kp.trans h.fr.kp⟩⟩
def x4a (x:MR):Int:=match x with
  | .error e=>e
  | .ok _=>0
theorem MRet.split {x:MR}{r:Value}(h:MRet τ Mt wS a x r w'):r=.int .i64 (x4a x)/\FrM τ Mt wS a w'/\∃J,x4a x=0->MkM τ Mt wS a w' J/\x=.ok J.p:=by
 obtain⟨I,D⟩:=h;cases x with
 | error e=>exact⟨D.1,I,⟨0,⟨sv0,sv0,[],[]⟩,[],[],[],sv0,[]⟩,λM=>absurd M D.2⟩
 | ok p=>exact⟨D.1,I,D.2.choose,λ_=>⟨D.2.choose_spec.1,congrArg Except.ok D.2.choose_spec.2.symm⟩⟩
theorem z4j {x:MR}(h:x4a x≠0):x=.error (x4a x):=by cases x with
 | error e=>rfl
 | ok p=>exact absurd rfl h
theorem y4q (b n r:Int):-400<=z3h b n r/\z3h b n r<=400:=by
 unfold z3h;split;omega;rename_i h;have D:z4q b n=0:=Classical.not_not.1 λe=>h (.inl e);have I:-4<=r/\r<=4:=Classical.not_not.1 λe=>h (.inr e);have:=z3k D;split<;>omega
def OwnIf {α:Type}(c:Prop)(E:Enc α)(T base:Nat)(w:World)(v:Value)(ys:List α):Prop:=c->Lw.Own E T base w v ys
theorem OwnIf.fr {α:Type}{c:Prop}{E:Enc α}{T base:Nat}{w w':World}{v:Value}{ys:List α}{S:List Nat}(h:OwnIf c E T base w v ys)(hf:Fr S w w')(hn:c->∀k∈S,k∉z0x v:=by simp[z0x]<;>omega):OwnIf c E T base w' v ys:=λD=>(h D).fr hf (hn D)
theorem OwnIf.ext {α:Type}{c:Prop}{E:Enc α}{T base:Nat}{w w':World}{v:Value}{ys:List α}(h:OwnIf c E T base w v ys)(hf:Fr [] w w'):OwnIf c E T base w' v ys:=λD=>(h D).ext hf
theorem j2d (m:MQ)(y:Int):m.p.y y=(m.ys.getD (y-1).toNat yq0).p:=by
 unfold MSt.y;rw[List.getD,List.getD,List.getElem?_map];cases m.ys[(y-1).toNat]?<;>rfl
theorem z9x {y:Int}(m:MQ)(q:YQ)(D:(y-1).toNat=j):{ m with ys:=m.ys.set j q }.p=m.p.setY y q.p:=by
 subst D;unfold MSt.setY MQ.p;simp only[List.map_set]
end
end Go.G08
namespace Go.Proofs.YtpgdchkdlgkmgaaGreatDoor
open Go.Lw Go.G21 Go.G08 _root_.Go.Proofs.Tryz
set_option maxHeartbeats 1000000 in
theorem x2d (q:YQ)(w0:World)(hp:Sl z1r w0 (slv q.pe) q.pes):Rets prog 110 #[.agg #[.bool q.inn,.int .i64 q.pl,.int .i64 q.ct,.bool q.nw,.slice q.pe.1 q.pe.2.1 q.pe.2.2]] w0 λr w'=>∃J:YQ,r=.tuple #[.agg #[.bool J.inn,.int .i64 J.pl,.int .i64 J.ct,.bool J.nw,.slice J.pe.1 J.pe.2.1 J.pe.2.2],.int .i64 (lvE q.p)]/\(lvE q.p=0->J=⟨false,0,q.ct,false,sv0,[]⟩)/\Fr [] w0 w':=by
 have a4:=z1x hp;have a1:=hp.len_le;unfold maxLen at a1;refine we [(0,.agg #[.bool q.inn,.int .i64 q.pl,.int .i64 q.ct,.bool q.nw,.slice q.pe.1 q.pe.2.1 q.pe.2.2])] func110 rfl ntmps110 rfl (.cons rfl .nil) ?_;have a0:=hp;refine sr (bx rfl rfl rfl (λg1 w1 a2 I q1 z1=>(al y1g rfl rfl (λg2 w2 a3 D Z z2=>(asg rfl (nn (sq (sr ?_))))))));replace I:=I.ext Z;refine z0k rfl I z6f ?_;replace hp:=a0.ext (q1.n1 Z);refine cl (ev1 rfl) j3o (z8q q _ hp) rfl ?_;rintro _ w3 ⟨rfl,O⟩;refine asg rfl (nn (sr (mv rfl (ne' rfl rfl (nn (cd rfl (λU=>?_) (λU=>?_)))))));refine sr (z1v (cs:=[_,_,_,_,_]) z0f x2h z0s rfl ?_);refine mv rfl ?_;replace D:=D.ext O;refine z0j (vs:=[_,_,_,_,_]) rfl rfl D z6s (λw4 D q4 z4=>(asg rfl (nn (rt (tr (rCT results110 rfl D z6f rfl ?_))))));have M:lvE q.p=ynE q.p:=by unfold lvE;rw[if_pos U]
 exact⟨_,rfl,yq0,by rw[M];rfl,(λh=>absurd h (by rw[M];exact U)),(q1.z3 Z O q4)⟩;refine sk (tn (sq (sr (fad rfl z9d ?_))));replace I:=I.ext O;refine z0g rfl I rfl na4 (nt' rfl (nn (cd rfl (λc1=>?_) (λc1=>?_))));refine sr (z1v (cs:=[_,_,_,_,_]) z0f x2h z0s rfl ?_);replace D:=D.ext O;refine z0j (vs:=[_,_,_,_,_]) rfl rfl D z6s (λw5 D q5 z5=>(asg rfl (nn (rt (tr (rCT results110 rfl D z6f rfl ?_))))));have M:lvE q.p=12:=by unfold lvE;rw[if_neg U,if_pos (by simpa using c1)]
 exact⟨_,rfl,yq0,by rw[M];rfl,(λh=>absurd h (by rw[M];decide)),(q1.z3 Z O q5)⟩;refine sk (tn (sr (fad rfl z9f (z0g rfl I rfl na3 (z1v (cs:=[_,_,_,_,_]) (ev1 rfl) x2h (z0h rfl rfl rfl z0s) rfl ?_)))));replace D:=D.ext O;refine z0j (vs:=[_,_,_,_,_]) rfl rfl D z6s (λw6 D q6 z6=>(asg rfl (nn (rt (rCT results110 rfl D z6f rfl ?_)))));have M:lvE q.p=0:=by unfold lvE;rw[if_neg U,if_neg (by simpa using c1)]
 exact⟨_,rfl,⟨false,0,q.ct,false,sv0,[]⟩,by rw[M];rfl,(λ_=>rfl),(q1.z3 Z O q6)⟩
theorem j1b (v:Value)(l:List Int)(w0:World)(I:Sl Enc.i64 w0 v l)(hl:l.length<=1000):Rets prog 121 #[v] w0 λr w'=>r=.int .i64 (orZ l)/\Fr [] w0 w':=by
 obtain⟨A,c,rfl,a0,hM,hA⟩:=id I;clear hA;unfold maxLen at hM;refine we [(0,.slice A l.length c)] func121 rfl ntmps121 rfl (.cons rfl .nil) ?_;have M:=I;refine sr (asg rfl (nn (sr (asg rfl (nn (sq (sr (mv rfl (lnS rfl underlying85 (mv rfl (nn (bl ?_))))))))))));refine lpK (ι:=Nat) [(3,_),(6,_),(7,_)] (λi=>[(8,.int .i64 (i:Int))]) (λi w'=>Fr [] w0 w'/\i<=l.length/\∀j,j<i->l.getD j 0=0) (λi=>l.length-i) 0 (.c4 rfl rfl rfl rfl) ⟨Fr.refl _ _,⟨Nat.zero_le _,λj h=>absurd h (by omega)⟩⟩ ?_;rintro i w1 ⟨J,⟨hi,O⟩⟩;refine kpC [(3,_),(6,_),(7,_),(8,_)] (.c4 rfl rfl rfl rfl) (sr (lt' rfl rfl (nn (sq (cd rfl (λZ=>?_) (λZ=>?_))))));refine sk (tn (sq (bl (sr ?_))));replace I:=M.ext J;refine z1a (0) rfl I rfl y8a z1d (λU D=>?_);refine z1g rfl (D _ I) na3 (asg rfl (nn (sr (mv rfl (mv rfl (ne' rfl rfl (nn (cd rfl (λc1=>?_) (λc1=>?_)))))))));refine sr (mv rfl (asg rfl (kpL [(2,_)] (.cons rfl .nil) (nn (rt (rb (tr (tr (rb (tr (r1 results121 rfl ?_)))))))))));exact⟨_,rfl,congrArg (Value.int .i64) (v4a (by omega) O (by omega)).symm,J⟩;refine sk (bn' (tn (rg (z0v rfl rfl (wi6 (by omega)) (mv rfl (nl ?_))))));exact lpE (i+1) (.c4 rfl rfl rfl rfl) ⟨J,⟨by omega,λj h=>by
  by_cases e:j=i;subst e;omega;exact O j (by omega)⟩⟩ (by omega)
 obtain rfl:i=l.length:=by omega
 refine ex (te (te (xh (tn (sr (mv rfl (asg rfl (kpL [(2,_)] (.cons rfl .nil) (nn (rt (r1 results121 rfl ?_)))))))))));exact⟨_,rfl,congrArg (Value.int .i64) (x0g O).symm,J⟩
theorem y0v (O U:LId)(w0:World):Rets prog 74 #[.agg #[.int .u8 O.y,.int .i64 O.n],.agg #[.int .u8 U.y,.int .i64 U.n]] w0 λr w'=>r=.int .i64 (z7c O U)/\Fr [] w0 w':=by
 refine we [(0,.agg #[.int .u8 O.y,.int .i64 O.n]),(1,.agg #[.int .u8 U.y,.int .i64 U.n])] func74 rfl ntmps74 rfl (.c2 rfl rfl) (sr (bx rfl rfl rfl (λg2 w1 a2 J q1 z1=>(bx rfl rfl rfl (λg3 w2 a3 M q2 z2=>(asg rfl (nn (sq ?_))))))));intro a h;refine z0i none (λwb w'=>Fr [] wb w') z2o ?_;intro w3 q3;replace J:=J.ext (q2.n1 q3);replace M:=M.ext q3;have hC:Fr [] w3 w3:=Fr.refl _ _;have D:=J;have I:=M;refine z0c 0 h rfl z7o rfl λa h=>z0l 1 h rfl (λ_ hw=>D.ext hw) rfl na5 rfl λa h=>z0c 2 h rfl z7o rfl λa h=>z0l 3 h rfl (λ_ hw=>I.ext hw) rfl na5 rfl λa h=>z0c 5 h rfl z8y rfl λa h=>z0l 6 h rfl (λ_ hw=>D.ext hw) rfl na3 rfl λa h=>z0c 7 h rfl z8y rfl λa h=>z0l 8 h rfl (λ_ hw=>I.ext hw) rfl na3 rfl λa h=>z0d 4 rfl ?_;refine z0n h (z0a rfl (z0a rfl z0f)) (mkC func122) (j4t _ _ _) ?_;rintro _ w4 ⟨rfl,q4⟩ a h;replace hC:=hC.next q4;refine z0b ?_;refine z0d 9 rfl ?_;refine z0n h (z0a rfl (z0a rfl z0f)) (mkC func123) (v6f _ _ _) ?_;rintro _ w5 ⟨rfl,q5⟩ a h;replace J:=J.ext (q4.n1 q5);replace M:=M.ext (q4.n1 q5);replace hC:=hC.next q5;refine z0b ?_;refine z0d 10 rfl ?_;refine z3c ([z9v O.y U.y,z9v O.n U.n]) h (z0a rfl (z0a rfl z0f)) rfl rfl rfl y8a λa0 w6 hg a1 q6 hz a h=>?_;have Z:g2<a0:=by have:=J.lt;omega
 have Z:g3<a0:=by have:=M.lt;omega
 replace hC:=hC.next q6;refine z0b ?_;refine z0d 11 rfl ?_;refine z0n h (z0a rfl z0f) (mkC func121) (j1b _ [z9v O.y U.y,z9v O.n U.n] _ a1.sl (by simp)) ?_;rintro _ w7 ⟨rfl,q7⟩ a h;replace hC:=hC.next q7;refine z0b ?_;refine z0d 12 rfl ?_;refine z0r h rfl λa h=>?_;refine z0b ?_;refine z0q ?_;clear hC D I;refine bk (h.sub (L':=[(4,_)]) (.cons rfl .nil)) (tn (rt (r1 results74 rfl ?_)));exact⟨_,rfl,congrArg (Value.int .i64) (x8a O U),(q1.n6 q2 q3 q4 q5 q6 q7)⟩
theorem y1f:ElemOf prog 33 82 z2r 56:=ElemOf.mk' (z:=(.agg #[.bool false,.int .i64 0,.int .i64 0,.bool false,.slice none 0 0])) underlying33 (by kernel_rfl) rfl
theorem z2z:z0z prog 137 2 3:=λ_ _=>by kernel_rfl
theorem y0i:z2c prog 33:=λ_=>by kernel_rfl
abbrev τd:TyK:=⟨82,46,89,87,100,37,39⟩
theorem τd_ok:τd.Ok:=by constructor<;>decide
theorem mtd:MtOk τd 137:=⟨τd_ok,by decide,by decide,by decide,by decide,by decide,by decide⟩
set_option maxHeartbeats 1000000 in
theorem j3v (wS:World)(ka:MA)(m:MQ)(o:MOp)(w0:World)(hM:MkM τd 137 wS ka w0 m)(hy:1<=o.y/\o.y<=6):Rets prog 64 #[.pointer (some ⟨ka.gk,0,none⟩),opV o] w0 λr w'=>MRet τd 137 wS ka (inM m.p o) r w':=by
 have d0:=hM.fr.size;have O:=hM.k;have b8:=O.lt;have c1:=hM.ly;have b9:=hM.lt;have b6:=(hM.y.out.blk ka.gy (by simp[z0x])).2;obtain⟨j,hj,c9⟩:∃j:Nat,j<6/\o.y=(j:Int)+1:=⟨(o.y-1).toNat,by omega,by omega⟩;have a9:(o.y-1).toNat=j:=by omega
 have a7:m.p.y o.y=(m.ys.getD j yq0).p:=by rw[j2d,a9]
 refine we [(0,.pointer (some ⟨ka.gk,0,none⟩)),(1,opV o)] func64 rfl ntmps64 rfl (.c2 rfl rfl) ?_;have a2:=hM;refine sr (bx rfl rfl rfl (λg3 w1 b7 D q1 z1=>(asg rfl (nn (sq ?_)))));replace hM:=a2.ext q1;intro a h;refine z0i none (λwb w'=>Fr [] wb w') z2o ?_;intro w2 q2;have z2:=q2.size;replace hM:=hM.ext q2;replace O:=O.ext (q1.n1 q2);replace D:=D.ext q2;have hC:Fr [] w2 w2:=Fr.refl _ _;have U:=hM;have M:=O;have I:=D;refine z0e 0 h rfl rfl λa h=>z0o 1 h rfl rfl λa h=>z0c 2 h rfl z2z rfl λa h=>z0l 3 h rfl (λ_ hw=>M.ext hw) rfl y0i rfl λa h=>z0c 4 h rfl z3e rfl λa h=>z0l 5 h rfl (λ_ hw=>I.ext hw) rfl na5 rfl λa h=>z3b 6 h wn rfl rfl (by first|exact IntWalk.u8_in _ (by omega)|rfl) rfl λa h=>z1h (p:=j) (yq0) 7 h rfl hM.y.out.sl rfl y1f rfl λb5 b1 a h=>z1y (cs:=z2r.enc (m.ys.getD j yq0)) 8 h wn rfl (λ_ hw=>b1 _ (U.ext hw).y.out.sl) z6f rfl λa h=>z0c 9 h rfl z6p rfl λa h=>z0l 10 h rfl (λ_ hw=>I.ext hw) rfl y9j rfl λa h=>?_;refine z2d 11 15 (by kernel_rfl) rfl rfl ?_ ?_;refine z0n h (z0a rfl (z0a rfl z0f)) (mkC func109) (x3a (m.ys.getD j yq0) o.d _ (hM.y.ins j (by omega)).sl) ?_;rintro _ w3 ⟨qn,rfl,a5,q3⟩ a h;have z3:=q3.size;replace O:=O.ext q3;replace D:=D.ext q3;replace hC:=hC.next q3;refine z0b ?_;refine z0e 12 h rfl rfl λa h=>z0m 13 h rfl rfl rfl λa h=>z0m 14 h rfl rfl rfl λa h=>z0d 15 rfl ?_;refine z1c h y1g rfl λw4 J q4 hz a h=>?_;obtain⟨a1,hg⟩:∃g,g=w3.heap.size:=⟨_,rfl⟩;rw[<-hg]at J h hz;have b3.gk_5:ka.gk<a1:=by have:=O.lt;omega
 have b0:g3<a1:=by have:=D.lt;omega
 have z4:=q4.size;replace hM:=hM.ext (q3.n1 q4);replace O:=O.ext q4;replace D:=D.ext q4;replace hC:=hC.next q4;refine z0b ?_;refine z0d 16 rfl ?_;refine z0t h rfl rfl J rfl z6s ?_ (h1:=(by first|(simp[Value.oneCell',S];done)|exact z2r.one (m.ys.getD j yq0)));clear h a;intro w5 a4 q5 hz a h;have z5:=q5.size;replace O:=O.fr q5;replace D:=D.fr q5;replace hC:=hC.sp q5;clear J hz;have J:Blk w5 a1 _ [_,_,_,_,_]:=a4;clear a4;refine z0b ?_;refine z0d 17 rfl ?_;refine z0r h rfl λa h=>?_;refine z0b ?_;refine z0q ?_;clear hC U M I;refine bk (h.sub (L':=[(0,_),(3,_),(5,_),(6,_)]) (.c4 rfl rfl rfl rfl)) (tn (sq (sr (mv rfl (eq' rfl rfl (nn (cd rfl (λc0=>?_) (λc0=>?_))))))));obtain rfl:=a5 c0;replace hM:=a2.ext (q1.z4 q2 q3 q4 q5);intro a h;refine z0i (some 9) (λwb w'=>Fr [] wb w') z2o ?_;intro w6 q6;have z6:=q6.size;replace hM:=hM.ext q6;replace O:=O.ext q6;replace D:=D.ext q6;replace J:=J.ext q6;have hC:Fr [] w6 w6:=Fr.refl _ _;have U:=hM;have M:=O;have I:=D;have Z:=J;refine z0e 0 h rfl rfl λa h=>z0o 1 h rfl rfl λa h=>z0c 2 h rfl z2z rfl λa h=>z0l 3 h rfl (λ_ hw=>M.ext hw) rfl y0i rfl λa h=>z0c 4 h rfl z3e rfl λa h=>z0l 5 h rfl (λ_ hw=>I.ext hw) rfl na5 rfl λa h=>z3b 6 h wn rfl rfl (by first|exact IntWalk.u8_in _ (by omega)|rfl) rfl λa h=>z0y 7 h rfl (λ_ hw=>Z.ext hw) z6f rfl λa h=>z1o 8 (by kernel_rfl) (by kernel_rfl) (by kernel_rfl) hC (p:=j) h wn rfl rfl y1f (by omega) (by omega) (by omega) rfl rfl λa h=>z0d 9 rfl ?_;refine z1b (i:=j) (⟨true,if o.d=1 then 179 else -13,(m.ys.getD j yq0).ct,true,sv0,[]⟩:YQ) h rfl rfl hM.y.out (by rw[hM.ly];exact hj) rfl z6s λw7 a0 q7 _hz a h=>?_;replace hM:=hM.yarn mtd hj a0 q7 (Own.nil _);have a2:=hM;clear a0;have z7:=q7.size;replace D:=D.fr q7;replace J:=J.fr q7;have O:=hM.k;clear _hz;refine z1n ?_;refine z0q ?_;clear hC U M I Z;refine bk (h.sub (L':=[(6,_)]) (.cons rfl .nil)) (tn (sr (mv rfl (asg rfl (nn (rt (r1 results64 rfl ?_)))))));exact⟨_,rfl,by rw[c0];exact MRet.ok (by unfold inM;rw[a7,if_neg (λe=>e c0)];exact congrArg Except.ok (z9x m (⟨true,if o.d=1 then 179 else -13,(m.ys.getD j yq0).ct,true,sv0,[]⟩:YQ) a9).symm) hM⟩;refine sk (tn (sr (mv rfl (asg rfl (kpL [(4,_)] (.cons rfl .nil) (nn (rt (r1 results64 rfl ?_))))))));replace hM:=a2.ext (q1.z4 q2 q3 q4 q5);exact⟨_,rfl,MRet.err (by unfold inM;rw[a7,if_pos c0]) c0 hM.fr⟩;refine z1c h y1g rfl λw8 J q8 hz a h=>?_;obtain⟨a1,hg⟩:∃g,g=w2.heap.size:=⟨_,rfl⟩;rw[<-hg]at J h hz;have b3.gk_5:ka.gk<a1:=by have:=O.lt;omega
 have b0:g3<a1:=by have:=D.lt;omega
 have z8:=q8.size;replace hM:=hM.ext q8;replace hC:=hC.next q8;refine z0b ?_;refine z0d 11 rfl ?_;refine z0n h (z0a rfl (z0a rfl z0f)) (mkC func109) (x3a (m.ys.getD j yq0) o.d _ (hM.y.ins j (by omega)).sl) ?_;rintro _ w9 ⟨qn,rfl,a5,q9⟩ a h;have z9:=q9.size;replace hM:=hM.ext q9;replace O:=O.ext (q8.n1 q9);replace D:=D.ext (q8.n1 q9);replace J:=J.ext q9;replace hC:=hC.next q9;refine z0b ?_;refine z0e 12 h rfl rfl λa h=>z0m 13 h rfl rfl rfl λa h=>z0m 14 h rfl rfl rfl λa h=>z0d 16 rfl ?_;refine z0t h rfl rfl J rfl z6s ?_ (h1:=(by first|(simp[Value.oneCell',S];done)|exact z2r.one (m.ys.getD j yq0)));clear h a;intro b4 a4 a3 hz a h;have d3:=a3.size;replace O:=O.fr a3;replace D:=D.fr a3;replace hC:=hC.sp a3;clear J hz;have J:Blk b4 a1 _ [_,_,_,_,_]:=a4;clear a4;refine z0b ?_;refine z0d 17 rfl ?_;refine z0r h rfl λa h=>?_;refine z0b ?_;refine z0q ?_;clear hC U M I;refine bk (h.sub (L':=[(0,_),(3,_),(5,_),(6,_)]) (.c4 rfl rfl rfl rfl)) (tn (sq (sr (mv rfl (eq' rfl rfl (nn (cd rfl (λc0=>?_) (λc0=>?_))))))));obtain rfl:=a5 c0;replace hM:=a2.ext (q1.z4 q2 q8 q9 a3);intro a h;refine z0i (some 9) (λwb w'=>Fr [] wb w') z2o ?_;intro b2 a6;have d4:=a6.size;replace hM:=hM.ext a6;replace O:=O.ext a6;replace D:=D.ext a6;replace J:=J.ext a6;have hC:Fr [] b2 b2:=Fr.refl _ _;have U:=hM;have M:=O;have I:=D;have Z:=J;refine z0e 0 h rfl rfl λa h=>z0o 1 h rfl rfl λa h=>z0c 2 h rfl z2z rfl λa h=>z0l 3 h rfl (λ_ hw=>M.ext hw) rfl y0i rfl λa h=>z0c 4 h rfl z3e rfl λa h=>z0l 5 h rfl (λ_ hw=>I.ext hw) rfl na5 rfl λa h=>z3b 6 h wn rfl rfl (by first|exact IntWalk.u8_in _ (by omega)|rfl) rfl λa h=>z0y 7 h rfl (λ_ hw=>Z.ext hw) z6f rfl λa h=>z1o 8 (by kernel_rfl) (by kernel_rfl) (by kernel_rfl) hC (p:=j) h wn rfl rfl y1f (by omega) (by omega) (by omega) rfl rfl λa h=>z0d 9 rfl ?_;refine z1b (i:=j) (⟨true,if o.d=1 then 179 else -13,(m.ys.getD j yq0).ct,true,sv0,[]⟩:YQ) h rfl rfl hM.y.out (by rw[hM.ly];exact hj) rfl z6s λd1 a0 a8 _hz a h=>?_;replace hM:=hM.yarn mtd hj a0 a8 (Own.nil _);have a2:=hM;clear a0;have d5:=a8.size;replace D:=D.fr a8;replace J:=J.fr a8;have O:=hM.k;clear _hz;refine z1n ?_;refine z0q ?_;clear hC U M I Z;refine bk (h.sub (L':=[(6,_)]) (.cons rfl .nil)) (tn (sr (mv rfl (asg rfl (nn (rt (r1 results64 rfl ?_)))))));exact⟨_,rfl,by rw[c0];exact MRet.ok (by unfold inM;rw[a7,if_neg (λe=>e c0)];exact congrArg Except.ok (z9x m (⟨true,if o.d=1 then 179 else -13,(m.ys.getD j yq0).ct,true,sv0,[]⟩:YQ) a9).symm) hM⟩;refine sk (tn (sr (mv rfl (asg rfl (kpL [(4,_)] (.cons rfl .nil) (nn (rt (r1 results64 rfl ?_))))))));replace hM:=a2.ext (q1.z4 q2 q8 q9 a3);exact⟨_,rfl,MRet.err (by unfold inM;rw[a7,if_pos c0]) c0 hM.fr⟩
set_option maxHeartbeats 1000000 in
theorem u4p (wS:World)(ka:MA)(m:MQ)(o:MOp)(w0:World)(hM:MkM τd 137 wS ka w0 m)(hy:1<=o.y/\o.y<=6):Rets prog 65 #[.pointer (some ⟨ka.gk,0,none⟩),opV o] w0 λr w'=>MRet τd 137 wS ka (v0s m.p o) r w':=by
 have d0:=hM.fr.size;have O:=hM.k;have b8:=O.lt;have c1:=hM.ly;have b9:=hM.lt;have b6:=(hM.y.out.blk ka.gy (by simp[z0x])).2;obtain⟨j,hj,c9⟩:∃j:Nat,j<6/\o.y=(j:Int)+1:=⟨(o.y-1).toNat,by omega,by omega⟩;have a9:(o.y-1).toNat=j:=by omega
 have a7:m.p.y o.y=(m.ys.getD j yq0).p:=by rw[j2d,a9]
 refine we [(0,.pointer (some ⟨ka.gk,0,none⟩)),(1,opV o)] func65 rfl ntmps65 rfl (.c2 rfl rfl) ?_;have a2:=hM;refine sr (bx rfl rfl rfl (λg3 w1 b7 D q1 z1=>(asg rfl (nn (sq ?_)))));replace hM:=a2.ext q1;intro a h;refine z0i none (λwb w'=>Fr [] wb w') z2o ?_;intro w2 q2;have z2:=q2.size;replace hM:=hM.ext q2;replace O:=O.ext (q1.n1 q2);replace D:=D.ext q2;have hC:Fr [] w2 w2:=Fr.refl _ _;have U:=hM;have M:=O;have J:=D;refine z0e 0 h rfl rfl λa h=>z0o 1 h rfl rfl λa h=>z0c 2 h rfl z2z rfl λa h=>z0l 3 h rfl (λ_ hw=>M.ext hw) rfl y0i rfl λa h=>z0c 4 h rfl z3e rfl λa h=>z0l 5 h rfl (λ_ hw=>J.ext hw) rfl na5 rfl λa h=>z3b 6 h wn rfl rfl (by first|exact IntWalk.u8_in _ (by omega)|rfl) rfl λa h=>z1h (p:=j) (yq0) 7 h rfl hM.y.out.sl rfl y1f rfl λb5 b1 a h=>z1y (cs:=z2r.enc (m.ys.getD j yq0)) 8 h wn rfl (λ_ hw=>b1 _ (U.ext hw).y.out.sl) z6f rfl λa h=>z2d 9 13 (by kernel_rfl) rfl rfl ?_ ?_;refine z0n h (z0a rfl z0f) (mkC func110) (x2d (m.ys.getD j yq0) _ (hM.y.ins j (by omega)).sl) ?_;rintro _ w3 ⟨qn,rfl,a5,q3⟩ a h;have z3:=q3.size;replace O:=O.ext q3;replace D:=D.ext q3;replace hC:=hC.next q3;refine z0b ?_;refine z0e 10 h rfl rfl λa h=>z0m 11 h rfl rfl rfl λa h=>z0m 12 h rfl rfl rfl λa h=>z0d 13 rfl ?_;refine z1c h y1g rfl λw4 I q4 hz a h=>?_;obtain⟨a1,hg⟩:∃g,g=w3.heap.size:=⟨_,rfl⟩;rw[<-hg]at I h hz;have b3.gk_5:ka.gk<a1:=by have:=O.lt;omega
 have b0:g3<a1:=by have:=D.lt;omega
 have z4:=q4.size;replace hM:=hM.ext (q3.n1 q4);replace O:=O.ext q4;replace D:=D.ext q4;replace hC:=hC.next q4;refine z0b ?_;refine z0d 14 rfl ?_;refine z0t h rfl rfl I rfl z6s ?_ (h1:=(by first|(simp[Value.oneCell',S];done)|exact z2r.one (m.ys.getD j yq0)));clear h a;intro w5 a4 q5 hz a h;have z5:=q5.size;replace O:=O.fr q5;replace D:=D.fr q5;replace hC:=hC.sp q5;clear I hz;have I:Blk w5 a1 _ [_,_,_,_,_]:=a4;clear a4;refine z0b ?_;refine z0d 15 rfl ?_;refine z0r h rfl λa h=>?_;refine z0b ?_;refine z0q ?_;clear hC U M J;refine bk (h.sub (L':=[(0,_),(3,_),(5,_),(6,_)]) (.c4 rfl rfl rfl rfl)) (tn (sq (sr (mv rfl (eq' rfl rfl (nn (cd rfl (λc0=>?_) (λc0=>?_))))))));obtain rfl:=a5 c0;replace hM:=a2.ext (q1.z4 q2 q3 q4 q5);intro a h;refine z0i (some 9) (λwb w'=>Fr [] wb w') z2o ?_;intro w6 q6;have z6:=q6.size;replace hM:=hM.ext q6;replace O:=O.ext q6;replace D:=D.ext q6;replace I:=I.ext q6;have hC:Fr [] w6 w6:=Fr.refl _ _;have U:=hM;have M:=O;have J:=D;have Z:=I;refine z0e 0 h rfl rfl λa h=>z0o 1 h rfl rfl λa h=>z0c 2 h rfl z2z rfl λa h=>z0l 3 h rfl (λ_ hw=>M.ext hw) rfl y0i rfl λa h=>z0c 4 h rfl z3e rfl λa h=>z0l 5 h rfl (λ_ hw=>J.ext hw) rfl na5 rfl λa h=>z3b 6 h wn rfl rfl (by first|exact IntWalk.u8_in _ (by omega)|rfl) rfl λa h=>z0y 7 h rfl (λ_ hw=>Z.ext hw) z6f rfl λa h=>z1o 8 (by kernel_rfl) (by kernel_rfl) (by kernel_rfl) hC (p:=j) h wn rfl rfl y1f (by omega) (by omega) (by omega) rfl rfl λa h=>z0d 9 rfl ?_;refine z1b (i:=j) (⟨false,0,(m.ys.getD j yq0).ct,false,sv0,[]⟩:YQ) h rfl rfl hM.y.out (by rw[hM.ly];exact hj) rfl z6s λw7 a0 q7 _hz a h=>?_;replace hM:=hM.yarn mtd hj a0 q7 (Own.nil _);have a2:=hM;clear a0;have z7:=q7.size;replace D:=D.fr q7;replace I:=I.fr q7;have O:=hM.k;clear _hz;refine z1n ?_;refine z0q ?_;clear hC U M J Z;refine bk (h.sub (L':=[(6,_)]) (.cons rfl .nil)) (tn (sr (mv rfl (asg rfl (nn (rt (r1 results65 rfl ?_)))))));exact⟨_,rfl,by rw[c0];exact MRet.ok (by unfold v0s;rw[a7,if_neg (λe=>e c0)];exact congrArg Except.ok (z9x m (⟨false,0,(m.ys.getD j yq0).ct,false,sv0,[]⟩:YQ) a9).symm) hM⟩;refine sk (tn (sr (mv rfl (asg rfl (kpL [(4,_)] (.cons rfl .nil) (nn (rt (r1 results65 rfl ?_))))))));replace hM:=a2.ext (q1.z4 q2 q3 q4 q5);exact⟨_,rfl,MRet.err (by unfold v0s;rw[a7,if_pos c0]) c0 hM.fr⟩;refine z1c h y1g rfl λw8 I q8 hz a h=>?_;obtain⟨a1,hg⟩:∃g,g=w2.heap.size:=⟨_,rfl⟩;rw[<-hg]at I h hz;have b3.gk_5:ka.gk<a1:=by have:=O.lt;omega
 have b0:g3<a1:=by have:=D.lt;omega
 have z8:=q8.size;replace hM:=hM.ext q8;replace hC:=hC.next q8;refine z0b ?_;refine z0d 9 rfl ?_;refine z0n h (z0a rfl z0f) (mkC func110) (x2d (m.ys.getD j yq0) _ (hM.y.ins j (by omega)).sl) ?_;rintro _ w9 ⟨qn,rfl,a5,q9⟩ a h;have z9:=q9.size;replace hM:=hM.ext q9;replace O:=O.ext (q8.n1 q9);replace D:=D.ext (q8.n1 q9);replace I:=I.ext q9;replace hC:=hC.next q9;refine z0b ?_;refine z0e 10 h rfl rfl λa h=>z0m 11 h rfl rfl rfl λa h=>z0m 12 h rfl rfl rfl λa h=>z0d 14 rfl ?_;refine z0t h rfl rfl I rfl z6s ?_ (h1:=(by first|(simp[Value.oneCell',S];done)|exact z2r.one (m.ys.getD j yq0)));clear h a;intro b4 a4 a3 hz a h;have d3:=a3.size;replace O:=O.fr a3;replace D:=D.fr a3;replace hC:=hC.sp a3;clear I hz;have I:Blk b4 a1 _ [_,_,_,_,_]:=a4;clear a4;refine z0b ?_;refine z0d 15 rfl ?_;refine z0r h rfl λa h=>?_;refine z0b ?_;refine z0q ?_;clear hC U M J;refine bk (h.sub (L':=[(0,_),(3,_),(5,_),(6,_)]) (.c4 rfl rfl rfl rfl)) (tn (sq (sr (mv rfl (eq' rfl rfl (nn (cd rfl (λc0=>?_) (λc0=>?_))))))));obtain rfl:=a5 c0;replace hM:=a2.ext (q1.z4 q2 q8 q9 a3);intro a h;refine z0i (some 9) (λwb w'=>Fr [] wb w') z2o ?_;intro b2 a6;have d4:=a6.size;replace hM:=hM.ext a6;replace O:=O.ext a6;replace D:=D.ext a6;replace I:=I.ext a6;have hC:Fr [] b2 b2:=Fr.refl _ _;have U:=hM;have M:=O;have J:=D;have Z:=I;refine z0e 0 h rfl rfl λa h=>z0o 1 h rfl rfl λa h=>z0c 2 h rfl z2z rfl λa h=>z0l 3 h rfl (λ_ hw=>M.ext hw) rfl y0i rfl λa h=>z0c 4 h rfl z3e rfl λa h=>z0l 5 h rfl (λ_ hw=>J.ext hw) rfl na5 rfl λa h=>z3b 6 h wn rfl rfl (by first|exact IntWalk.u8_in _ (by omega)|rfl) rfl λa h=>z0y 7 h rfl (λ_ hw=>Z.ext hw) z6f rfl λa h=>z1o 8 (by kernel_rfl) (by kernel_rfl) (by kernel_rfl) hC (p:=j) h wn rfl rfl y1f (by omega) (by omega) (by omega) rfl rfl λa h=>z0d 9 rfl ?_;refine z1b (i:=j) (⟨false,0,(m.ys.getD j yq0).ct,false,sv0,[]⟩:YQ) h rfl rfl hM.y.out (by rw[hM.ly];exact hj) rfl z6s λd1 a0 a8 _hz a h=>?_;replace hM:=hM.yarn mtd hj a0 a8 (Own.nil _);have a2:=hM;clear a0;have d5:=a8.size;replace D:=D.fr a8;replace I:=I.fr a8;have O:=hM.k;clear _hz;refine z1n ?_;refine z0q ?_;clear hC U M J Z;refine bk (h.sub (L':=[(6,_)]) (.cons rfl .nil)) (tn (sr (mv rfl (asg rfl (nn (rt (r1 results65 rfl ?_)))))));exact⟨_,rfl,by rw[c0];exact MRet.ok (by unfold v0s;rw[a7,if_neg (λe=>e c0)];exact congrArg Except.ok (z9x m (⟨false,0,(m.ys.getD j yq0).ct,false,sv0,[]⟩:YQ) a9).symm) hM⟩;refine sk (tn (sr (mv rfl (asg rfl (kpL [(4,_)] (.cons rfl .nil) (nn (rt (r1 results65 rfl ?_))))))));replace hM:=a2.ext (q1.z4 q2 q8 q9 a3);exact⟨_,rfl,MRet.err (by unfold v0s;rw[a7,if_pos c0]) c0 hM.fr⟩
theorem z3t:z0z prog 137 0 0:=λ_ _=>by kernel_rfl
set_option maxHeartbeats 1000000 in
theorem x4n (wS:World)(ka:MA)(m:MQ)(o:MOp)(w0:World)(hM:MkM τd 137 wS ka w0 m)(hi:MInv m.p)(hy:1<=o.y/\o.y<=6)(hn:z4q o.b o.p=0):Rets prog 112 #[.pointer (some ⟨ka.gk,0,none⟩),opV o] w0 λr w'=>r=.tuple #[.int .i64 (if z6l m.p o=0 then y3x m.p o else 0),.int .i64 (if z6l m.p o=0 then (z3h o.b o.p m.rk) else 0),.int .i64 (z6l m.p o)]/\Fr [] w0 w':=by
 have b8:=hM.fr.size;have U:=hM.k;have b2:=U.lt;have b4:=hM.ly;have b3:=hM.lt;have b0:=(hM.y.out.blk ka.gy (by simp[z0x])).2;obtain⟨j,hj,b6⟩:∃j:Nat,j<6/\o.y=(j:Int)+1:=⟨(o.y-1).toNat,by omega,by omega⟩;have a7:(o.y-1).toNat=j:=by omega
 have J:m.p.y o.y=(m.ys.getD j yq0).p:=by rw[j2d,a7]
 have b7:=y4q o.b o.p m.rk;have b5:=z3k hn;refine we [(0,.pointer (some ⟨ka.gk,0,none⟩)),(1,opV o)] func112 rfl ntmps112 rfl (.c2 rfl rfl) ?_;have a6:=hM;refine sr (bx rfl rfl rfl (λg3 w1 b1 D q1 z1=>(asg rfl (asg rfl (asg rfl (nn (sq ?_)))))));replace hM:=a6.ext q1;intro a h;refine z0i none (λwb w'=>Fr [] wb w') z2o ?_;intro w2 q2;have z2:=q2.size;replace hM:=hM.ext q2;replace U:=U.ext (q1.n1 q2);replace D:=D.ext q2;have hC:Fr [] w2 w2:=Fr.refl _ _;have a2:=hM;have a1:=U;have M:=D;refine z0e 0 h rfl rfl λa h=>z0o 1 h rfl rfl λa h=>z0c 2 h rfl z2z rfl λa h=>z0l 3 h rfl (λ_ hw=>a1.ext hw) rfl y0i rfl λa h=>z0c 4 h rfl z3e rfl λa h=>z0l 5 h rfl (λ_ hw=>M.ext hw) rfl na5 rfl λa h=>z3b 6 h wn rfl rfl (by first|exact IntWalk.u8_in _ (by omega)|rfl) rfl λa h=>z1h (p:=j) (yq0) 7 h rfl hM.y.out.sl rfl y1f rfl λa9 a5 a h=>z1y (cs:=z2r.enc (m.ys.getD j yq0)) 8 h wn rfl (λ_ hw=>a5 _ (a2.ext hw).y.out.sl) z6f rfl λa h=>z0c 9 h rfl z4h rfl λa h=>z1e (vs:=[_,_]) 10 h rfl (λ_ hw=>(M.ext hw)) z5z rfl rfl λa h=>?_;refine z0e 11 h rfl rfl λa h=>z0o 12 h rfl rfl λa h=>z0c 13 h rfl z3t rfl λa h=>z0l 14 h rfl (λ_ hw=>a1.ext hw) rfl na3 rfl λa h=>z2d 15 16 (by kernel_rfl) rfl rfl ?_ ?_;refine z0n h (z0a rfl (z0a rfl z0f)) v0i (y1q _ _ _ _ (by have:=hi.rk;omega)) ?_;rintro _ w3 ⟨rfl,q3⟩ a h;have z3:=q3.size;replace U:=U.ext q3;replace D:=D.ext q3;replace hC:=hC.next q3;refine z0b ?_;refine z0d 16 rfl ?_;refine z1c h y1g rfl λw4 I q4 hz a h=>?_;obtain⟨a0,hg⟩:∃g,g=w3.heap.size:=⟨_,rfl⟩;rw[<-hg]at I h hz;have a8.gk_7:ka.gk<a0:=by have:=U.lt;omega
 have a4:g3<a0:=by have:=D.lt;omega
 have z4:=q4.size;replace hM:=hM.ext (q3.n1 q4);replace U:=U.ext q4;replace D:=D.ext q4;replace hC:=hC.next q4;refine z0b ?_;refine z0d 17 rfl ?_;refine z0t h rfl rfl I rfl z6s ?_ (h1:=(by first|(simp[Value.oneCell',S];done)|exact z2r.one (m.ys.getD j yq0)));clear h a;intro w5 a3 q5 hz a h;have z5:=q5.size;replace U:=U.fr q5;replace D:=D.fr q5;replace hC:=hC.sp q5;clear I hz;have I:Blk w5 a0 _ [_,_,_,_,_]:=a3;clear a3;refine z0b ?_;refine z0d 18 rfl ?_;refine z0r h rfl λa h=>?_;refine z0b ?_;refine z0q ?_;clear hC a2 a1 M;refine bk (h.sub (L':=[(3,_),(5,_),(7,_)]) (.c3 rfl rfl rfl)) (tn (sq (sr (fad rfl z9d (z0g rfl I rfl na4 (nt' rfl (nn (cd rfl (λc0=>?_) (λc0=>?_)))))))));refine sr (asg rfl (asg rfl (asg rfl (nn (rt (tr (r3 results112 rfl rfl rfl ?_)))))));have O:z6l m.p o=12:=by unfold z6l;rw[J,if_pos (by simpa using c0)]
 exact⟨_,rfl,by rw[O];rfl,(q1.z4 q2 q3 q4 q5)⟩;refine sk (tn (sq (sr (fad rfl z6p (z0g rfl D rfl y9j (eq' rfl rfl (nn (cd rfl (λZ=>?_) (λZ=>?_)))))))));refine sq (sr (fad rfl z6c (z0g rfl I rfl na3 (mv rfl (gt' rfl rfl (nn (cd rfl (λc2=>?_) (λc2=>?_))))))));refine sr (asg rfl (asg rfl (asg rfl (nn (rt (tr (tr (r3 results112 rfl rfl rfl ?_))))))));have O:z6l m.p o=12:=by unfold z6l;rw[J,if_neg (by simpa using c0),if_pos Z,if_pos c2]
 exact⟨_,rfl,by rw[O];rfl,(q1.z4 q2 q3 q4 q5)⟩;refine sk (tn (sr (mv rfl (z0v rfl rfl (wi6 (by omega)) (mv rfl (asg rfl (asg rfl (asg rfl (nn (rt (tr (r3 results112 rfl rfl rfl ?_))))))))))));have O:z6l m.p o=0:=by unfold z6l;rw[J,if_neg (by simpa using c0),if_pos Z,if_neg c2]
 exact⟨_,rfl,by rw[O];rw[if_pos rfl,if_pos rfl,y3x,if_pos Z],(q1.z4 q2 q3 q4 q5)⟩;refine sk (tn (sq (sr (fad rfl z6c (z0g rfl I rfl na3 (mv rfl (lt' rfl rfl (nn (cd rfl (λc3=>?_) (λc3=>?_))))))))));refine sr (asg rfl (asg rfl (asg rfl (nn (rt (tr (r3 results112 rfl rfl rfl ?_)))))));have O:z6l m.p o=12:=by unfold z6l;rw[J,if_neg (by simpa using c0),if_neg Z,if_pos c3]
 exact⟨_,rfl,by rw[O];rfl,(q1.z4 q2 q3 q4 q5)⟩;refine sk (tn (sr (mv rfl (z2u rfl rfl (wi6 (by omega)) (mv rfl (asg rfl (asg rfl (asg rfl (nn (rt (r3 results112 rfl rfl rfl ?_)))))))))));have O:z6l m.p o=0:=by unfold z6l;rw[J,if_neg (by simpa using c0),if_neg Z,if_neg c3]
 exact⟨_,rfl,by rw[O];rw[if_pos rfl,if_pos rfl,y3x,if_neg Z],(q1.z4 q2 q3 q4 q5)⟩;refine z1c h y1g rfl λw6 I q6 hz a h=>?_;obtain⟨a0,hg⟩:∃g,g=w2.heap.size:=⟨_,rfl⟩;rw[<-hg]at I h hz;have a8.gk_7:ka.gk<a0:=by have:=U.lt;omega
 have a4:g3<a0:=by have:=D.lt;omega
 have z6:=q6.size;replace hC:=hC.next q6;refine z0b ?_;refine z0d 15 rfl ?_;refine z0n h (z0a rfl (z0a rfl z0f)) v0i (y1q _ _ _ _ (by have:=hi.rk;omega)) ?_;rintro _ w7 ⟨rfl,q7⟩ a h;have z7:=q7.size;replace hM:=hM.ext (q6.n1 q7);replace U:=U.ext (q6.n1 q7);replace D:=D.ext (q6.n1 q7);replace I:=I.ext q7;replace hC:=hC.next q7;refine z0b ?_;refine z0d 17 rfl ?_;refine z0t h rfl rfl I rfl z6s ?_ (h1:=(by first|(simp[Value.oneCell',S];done)|exact z2r.one (m.ys.getD j yq0)));clear h a;intro w8 a3 q8 hz a h;have z8:=q8.size;replace U:=U.fr q8;replace D:=D.fr q8;replace hC:=hC.sp q8;clear I hz;have I:Blk w8 a0 _ [_,_,_,_,_]:=a3;clear a3;refine z0b ?_;refine z0d 18 rfl ?_;refine z0r h rfl λa h=>?_;refine z0b ?_;refine z0q ?_;clear hC a2 a1 M;refine bk (h.sub (L':=[(3,_),(5,_),(7,_)]) (.c3 rfl rfl rfl)) (tn (sq (sr (fad rfl z9d (z0g rfl I rfl na4 (nt' rfl (nn (cd rfl (λc0=>?_) (λc0=>?_)))))))));refine sr (asg rfl (asg rfl (asg rfl (nn (rt (tr (r3 results112 rfl rfl rfl ?_)))))));have O:z6l m.p o=12:=by unfold z6l;rw[J,if_pos (by simpa using c0)]
 exact⟨_,rfl,by rw[O];rfl,(q1.z4 q2 q6 q7 q8)⟩;refine sk (tn (sq (sr (fad rfl z6p (z0g rfl D rfl y9j (eq' rfl rfl (nn (cd rfl (λZ=>?_) (λZ=>?_)))))))));refine sq (sr (fad rfl z6c (z0g rfl I rfl na3 (mv rfl (gt' rfl rfl (nn (cd rfl (λc2=>?_) (λc2=>?_))))))));refine sr (asg rfl (asg rfl (asg rfl (nn (rt (tr (tr (r3 results112 rfl rfl rfl ?_))))))));have O:z6l m.p o=12:=by unfold z6l;rw[J,if_neg (by simpa using c0),if_pos Z,if_pos c2]
 exact⟨_,rfl,by rw[O];rfl,(q1.z4 q2 q6 q7 q8)⟩;refine sk (tn (sr (mv rfl (z0v rfl rfl (wi6 (by omega)) (mv rfl (asg rfl (asg rfl (asg rfl (nn (rt (tr (r3 results112 rfl rfl rfl ?_))))))))))));have O:z6l m.p o=0:=by unfold z6l;rw[J,if_neg (by simpa using c0),if_pos Z,if_neg c2]
 exact⟨_,rfl,by rw[O];rw[if_pos rfl,if_pos rfl,y3x,if_pos Z],(q1.z4 q2 q6 q7 q8)⟩;refine sk (tn (sq (sr (fad rfl z6c (z0g rfl I rfl na3 (mv rfl (lt' rfl rfl (nn (cd rfl (λc3=>?_) (λc3=>?_))))))))));refine sr (asg rfl (asg rfl (asg rfl (nn (rt (tr (r3 results112 rfl rfl rfl ?_)))))));have O:z6l m.p o=12:=by unfold z6l;rw[J,if_neg (by simpa using c0),if_neg Z,if_pos c3]
 exact⟨_,rfl,by rw[O];rfl,(q1.z4 q2 q6 q7 q8)⟩;refine sk (tn (sr (mv rfl (z2u rfl rfl (wi6 (by omega)) (mv rfl (asg rfl (asg rfl (asg rfl (nn (rt (r3 results112 rfl rfl rfl ?_)))))))))));have O:z6l m.p o=0:=by unfold z6l;rw[J,if_neg (by simpa using c0),if_neg Z,if_neg c3]
 exact⟨_,rfl,by rw[O];rw[if_pos rfl,if_pos rfl,y3x,if_neg Z],(q1.z4 q2 q6 q7 q8)⟩
theorem z3a:z0z prog 137 1 1:=λ_ _=>by kernel_rfl
set_option maxHeartbeats 2000000 in
theorem x5h (wS:World)(ka:MA)(m:MQ)(yy pl en:Int)(w0:World)(hM:MkM τd 137 wS ka w0 m)(hi:MInv m.p)(hy:1<=yy/\yy<=6):Rets prog 113 #[.pointer (some ⟨ka.gk,0,none⟩),.int .u8 yy,.int .i64 pl,.int .i64 en] w0 λr w'=>MRet τd 137 wS ka (y0g m.p yy pl en) r w':=by
 have g1:=hM.fr.size;have J:=hM.k;have f7:=J.lt;have f9:=hM.ly;have f8:=hM.lt;have f2:=(hM.y.out.blk ka.gy (by simp[z0x])).2;obtain⟨j,hj,g0⟩:∃j:Nat,j<6/\yy=(j:Int)+1:=⟨(yy-1).toNat,by omega,by omega⟩;have d7:(yy-1).toNat=j:=by omega
 have b7:m.p.y yy=(m.ys.getD j yq0).p:=by rw[j2d,d7]
 have f4:=v5k (z2w m.q.p m.rk) (m.ys.getD j yq0).pl en;have hN:=y5n hi.B;have f6:(z2w m.q.p m.rk).length<=320:=by unfold z2w;rw[z4d,y3r];exact hN
 refine we [(0,.pointer (some ⟨ka.gk,0,none⟩)),(1,.int .u8 yy),(2,.int .i64 pl),(3,.int .i64 en)] func113 rfl ntmps113 rfl (.c4 rfl rfl rfl rfl) ?_;have a6:=hM;refine sr (asg rfl (nn (sq ?_)));intro a h;refine z0i none (λwb w'=>Fr [] wb w') z2o ?_;intro w1 q1;have z1:=q1.size;replace hM:=hM.ext q1;replace J:=J.ext q1;have hC:Fr [] w1 w1:=Fr.refl _ _;have a1:=hM;have U:=J;refine z0e 0 h rfl rfl λa h=>z0o 1 h rfl rfl λa h=>z0c 2 h rfl z3a rfl λa h=>z1e (vs:=[_,_]) 3 h rfl (λ_ hw=>(U.ext hw)) z5s rfl rfl λa h=>z0e 4 h rfl rfl λa h=>z0o 5 h rfl rfl λa h=>z0c 6 h rfl z3t rfl λa h=>z0l 7 h rfl (λ_ hw=>U.ext hw) rfl na3 rfl λa h=>z0d 8 rfl ?_;refine z0n h (z0a rfl (z0a rfl z0f)) (mkC func102) (v1x m.q m.rk _ hM.b.at hi.B hi.rk) ?_;rintro _ w2 ⟨⟨g9,rfl,f5,hL⟩,hq⟩ a h;have z2:=hq.size;replace hM:=hM.ext hq;replace J:=J.ext hq;replace hC:=hC.next hq;have q2:=hq;have f3:=(hL.blk g9 (by simp[z0x])).2;refine z0b ?_;refine z0e 9 h rfl rfl λa h=>z0m 10 h rfl rfl rfl λa h=>z0m 11 h rfl rfl rfl λa h=>z0d 12 rfl ?_;refine z0r h rfl λa h=>?_;refine z0b ?_;refine z0d 13 rfl ?_;refine z0r h rfl λa h=>?_;refine z0b ?_;refine z0q ?_;clear hC a1 U;refine bk (h.sub (L':=[(0,_),(1,_),(2,_),(3,_),(9,_),(10,_)]) (.c6 rfl rfl rfl rfl rfl rfl)) (tn (sq (sr (mv rfl (ne' rfl rfl (nn (cd rfl (λc0=>?_) (λc0=>?_))))))));exact absurd rfl c0;refine sk (tn (sr (mv rfl (nlc rfl (fad rfl z2z (z0g rfl J rfl y0i (mv rfl (z2u rfl rfl (wi8 (by omega)) (z1a (p:=j) (yq0) rfl hM.y.out.sl rfl y1f (by omega) (λf0 e1=>(z1i rfl (e1 _ hM.y.out.sl) z6f (al y1g rfl rfl (λd9 w3 f1 D q3 z3=>?_)))))))))))));refine z0j (vs:=[_,_,_,_,_]) rfl rfl D z6s (λw4 D q4 z4=>?_) (h1:=(by first|(simp[Value.oneCell',S];done)|exact z2r.one (m.ys.getD j yq0)));refine kpL [(0,_),(1,_),(2,_),(3,_),(9,_),(11,_)] (.c6 rfl rfl rfl rfl rfl rfl) (nn (sq ?_));replace hM:=a6.ext (q1.z3 q2 q3 q4);replace J:=(J.ext q3).fr q4;replace hL:=(hL.ext q3).fr q4 (by first|exact z9k hL (by omega)|simp[z0x]<;>omega);intro a h;refine z0i none (λwb w'=>Fr [] wb w') z2o ?_;intro w5 q5;have z5:=q5.size;replace hM:=hM.ext q5;replace J:=J.ext q5;replace hL:=hL.ext q5;replace D:=D.ext q5;have hC:Fr [] w5 w5:=Fr.refl _ _;have a1:=hM;have U:=J;have d3:=hL;have O:=D;refine z0y 0 h rfl (λ_ hw=>O.ext hw) z6f rfl λa h=>z0e 1 h rfl rfl λa h=>z0e 2 h rfl rfl λa h=>z0c 3 h rfl z6c rfl λa h=>z0l 4 h rfl (λ_ hw=>O.ext hw) rfl na3 rfl λa h=>z0e 5 h rfl rfl λa h=>z2d 6 11 (by kernel_rfl) rfl rfl ?_ ?_;refine z0n h (z0a rfl (z0a rfl (z0a rfl z0f))) (mkC func149) (u4n _ (z2w m.q.p m.rk) (m.ys.getD j yq0).pl en _ hL.sl (by omega)) ?_;rintro _ w6 ⟨⟨e0,rfl,e2,hW⟩,q6⟩ a h;have z6:=q6.size;replace hM:=hM.ext q6;replace J:=J.ext q6;replace hL:=hL.ext q6;replace D:=D.ext q6;replace hC:=hC.next q6;have e7:=(hW.blk e0 (by simp[z0x])).2;refine z0b ?_;refine z2d 7 11 (by kernel_rfl) rfl rfl ?_ ?_;refine z0n h (z0a rfl (z0a rfl (z0a rfl z0f))) (mkC func146) (x9d (m.ys.getD j yq0) pl _ (btw (z2w m.q.p m.rk) (m.ys.getD j yq0).pl en) _ (hM.y.ins j (by omega)).sl hW.sl (λk J=>(hW.blk k J).2) (by omega)) ?_;rintro _ w7 ⟨qn,rfl,b4,q7⟩ a h;have z7:=q7.size;replace J:=J.ext q7;replace D:=D.ext q7;replace hC:=hC.next q7;have M:OwnIf ((goE (m.ys.getD j yq0).p pl (btw (z2w m.q.p m.rk) (m.ys.getD j yq0).pl en))=0) z1r 100 _ _ (slv qn.pe) qn.pes:=λhc=>(b4 hc).2;have b2:=λhc k J=>((M hc).blk k J).2;refine z0b ?_;refine z0e 8 h rfl rfl λa h=>z0m 9 h rfl rfl rfl λa h=>z0m 10 h rfl rfl rfl λa h=>z0d 11 rfl ?_;refine z1c h y1g rfl λw8 I q8 hz a h=>?_;obtain⟨a0,hg⟩:∃g,g=w7.heap.size:=⟨_,rfl⟩;rw[<-hg]at I h hz;have e3.gk_12:ka.gk<a0:=by have:=J.lt;omega
 have b5:d9<a0:=by have:=D.lt;omega
 have z8:=q8.size;replace hM:=hM.ext (q7.n1 q8);replace J:=J.ext q8;replace hL:=hL.ext (q7.n1 q8);replace D:=D.ext q8;replace hW:=hW.ext (q7.n1 q8);replace M:=M.ext q8;replace hC:=hC.next q8;refine z0b ?_;refine z0d 12 rfl ?_;refine z0t h rfl rfl I rfl z6s ?_ (h1:=(by first|(simp[Value.oneCell',S];done)|exact z2r.one (m.ys.getD j yq0)));clear h a;intro w9 b3 q9 hz a h;have z9:=q9.size;replace J:=J.fr q9;replace hL:=hL.fr q9 (by simp[z0x]<;>omega);replace D:=D.fr q9;replace hW:=hW.fr q9 (by simp[z0x]<;>omega);replace M:=M.fr q9 (by intro a3 k J a2;simp at J;subst J;have d0:=b2 a3 _ a2;have d1:=(M a3).blk _ a2;omega);replace hC:=hC.sp q9;clear I hz;have I:Blk w9 a0 _ [_,_,_,_,_]:=b3;clear b3;refine z0b ?_;refine z0d 13 rfl ?_;refine z0r h rfl λa h=>?_;refine z0b ?_;refine z0q ?_;clear hC a1 U d3 O;refine bk (h.sub (L':=[(0,_),(1,_),(10,_),(12,_)]) (.c4 rfl rfl rfl rfl)) (tn (sq (sr (mv rfl (eq' rfl rfl (nn (cd rfl (λc1=>?_) (λc1=>?_))))))));replace hM:=a6.ext (((q1.z6 q2 q3 q4 q5 q6 q7).n1 q8).z1 q9);intro a h;refine z0i (some 8) (λwb w'=>Fr [] wb w') z2o ?_;intro e4 b8;have h3:=b8.size;replace hM:=hM.ext b8;replace J:=J.ext b8;replace D:=D.ext b8;replace M:=M.ext b8;replace I:=I.ext b8;have hC:Fr [] e4 e4:=Fr.refl _ _;have a1:=hM;have U:=J;have O:=D;have a5:=M;have Z:=I;refine z0e 0 h rfl rfl λa h=>z0o 1 h rfl rfl λa h=>z0c 2 h rfl z2z rfl λa h=>z0l 3 h rfl (λ_ hw=>U.ext hw) rfl y0i rfl λa h=>z0e 4 h rfl rfl λa h=>z3b 5 h wn rfl rfl (by first|exact IntWalk.u8_in _ (by omega)|rfl) rfl λa h=>z0y 6 h rfl (λ_ hw=>Z.ext hw) z6f rfl λa h=>z1o 7 (by kernel_rfl) (by kernel_rfl) (by kernel_rfl) hC (p:=j) h wn rfl rfl y1f (by omega) (by omega) (by omega) rfl rfl λa h=>z0d 8 rfl ?_;refine z1b (i:=j) (qn:YQ) h rfl rfl hM.y.out (by rw[hM.ly];exact hj) rfl z6s λg3 a4 d4 _hz a h=>?_;replace hM:=hM.yarn mtd hj a4 d4 ((M c1).low (by omega));have a6:=hM;clear a4;have h4:=d4.size;replace D:=D.fr d4;replace M:=M.fr d4 (by intro a3 k J a2;simp at J;subst J;have d0:=b2 a3 _ a2;have d1:=(M a3).blk _ a2;omega);replace I:=I.fr d4;have J:=hM.k;clear _hz;refine z1n ?_;refine z0q ?_;clear hC a1 U O a5 Z;refine bk (h.sub (L':=[(10,_)]) (.cons rfl .nil)) (tn (sr (mv rfl (asg rfl (nn (rt (r1 results113 rfl ?_)))))));exact⟨_,rfl,by rw[c1];exact MRet.ok (by unfold y0g v0t;rw[b7,if_neg (λe=>e c1)];exact congrArg Except.ok (by rw[z9x m qn d7,(b4 c1).1])) hM⟩;refine sk (tn (sr (mv rfl (asg rfl (kpL [(8,_)] (.cons rfl .nil) (nn (rt (r1 results113 rfl ?_))))))));replace hM:=a6.ext (((q1.z6 q2 q3 q4 q5 q6 q7).n1 q8).z1 q9);exact⟨_,rfl,MRet.err (by unfold y0g v0t;rw[b7,if_pos c1]) c1 hM.fr⟩;refine z1c h y1g rfl λg4 I a9 hz a h=>?_;obtain⟨a0,hg⟩:∃g,g=w6.heap.size:=⟨_,rfl⟩;rw[<-hg]at I h hz;have e3.gk_12:ka.gk<a0:=by have:=J.lt;omega
 have b5:d9<a0:=by have:=D.lt;omega
 have h5:=a9.size;replace hM:=hM.ext a9;replace J:=J.ext a9;replace hW:=hW.ext a9;replace hC:=hC.next a9;refine z0b ?_;refine z0d 7 rfl ?_;refine z0n h (z0a rfl (z0a rfl (z0a rfl z0f))) (mkC func146) (x9d (m.ys.getD j yq0) pl _ (btw (z2w m.q.p m.rk) (m.ys.getD j yq0).pl en) _ (hM.y.ins j (by omega)).sl hW.sl (λk J=>(hW.blk k J).2) (by omega)) ?_;rintro _ g5 ⟨qn,rfl,b4,a7⟩ a h;have h6:=a7.size;replace hM:=hM.ext a7;replace J:=J.ext a7;replace hL:=hL.ext (a9.n1 a7);replace D:=D.ext (a9.n1 a7);replace hW:=hW.ext a7;replace I:=I.ext a7;replace hC:=hC.next a7;have M:OwnIf ((goE (m.ys.getD j yq0).p pl (btw (z2w m.q.p m.rk) (m.ys.getD j yq0).pl en))=0) z1r 100 _ _ (slv qn.pe) qn.pes:=λhc=>(b4 hc).2;have b2:=λhc k J=>((M hc).blk k J).2;refine z0b ?_;refine z0e 8 h rfl rfl λa h=>z0m 9 h rfl rfl rfl λa h=>z0m 10 h rfl rfl rfl λa h=>z0d 12 rfl ?_;refine z0t h rfl rfl I rfl z6s ?_ (h1:=(by first|(simp[Value.oneCell',S];done)|exact z2r.one (m.ys.getD j yq0)));clear h a;intro e8 b3 b0 hz a h;have h7:=b0.size;replace J:=J.fr b0;replace hL:=hL.fr b0 (by simp[z0x]<;>omega);replace D:=D.fr b0;replace hW:=hW.fr b0 (by simp[z0x]<;>omega);replace M:=M.fr b0 (by intro a3 k J a2;simp at J;subst J;have d0:=b2 a3 _ a2;have d1:=(M a3).blk _ a2;omega);replace hC:=hC.sp b0;clear I hz;have I:Blk e8 a0 _ [_,_,_,_,_]:=b3;clear b3;refine z0b ?_;refine z0d 13 rfl ?_;refine z0r h rfl λa h=>?_;refine z0b ?_;refine z0q ?_;clear hC a1 U d3 O;refine bk (h.sub (L':=[(0,_),(1,_),(10,_),(12,_)]) (.c4 rfl rfl rfl rfl)) (tn (sq (sr (mv rfl (eq' rfl rfl (nn (cd rfl (λc1=>?_) (λc1=>?_))))))));replace hM:=a6.ext (((q1.z6 q2 q3 q4 q5 q6 a9).n1 a7).z1 b0);intro a h;refine z0i (some 8) (λwb w'=>Fr [] wb w') z2o ?_;intro e5 b9;have h8:=b9.size;replace hM:=hM.ext b9;replace J:=J.ext b9;replace D:=D.ext b9;replace I:=I.ext b9;replace M:=M.ext b9;have hC:Fr [] e5 e5:=Fr.refl _ _;have a1:=hM;have U:=J;have O:=D;have Z:=I;have a5:=M;refine z0e 0 h rfl rfl λa h=>z0o 1 h rfl rfl λa h=>z0c 2 h rfl z2z rfl λa h=>z0l 3 h rfl (λ_ hw=>U.ext hw) rfl y0i rfl λa h=>z0e 4 h rfl rfl λa h=>z3b 5 h wn rfl rfl (by first|exact IntWalk.u8_in _ (by omega)|rfl) rfl λa h=>z0y 6 h rfl (λ_ hw=>Z.ext hw) z6f rfl λa h=>z1o 7 (by kernel_rfl) (by kernel_rfl) (by kernel_rfl) hC (p:=j) h wn rfl rfl y1f (by omega) (by omega) (by omega) rfl rfl λa h=>z0d 8 rfl ?_;refine z1b (i:=j) (qn:YQ) h rfl rfl hM.y.out (by rw[hM.ly];exact hj) rfl z6s λg6 a4 d5 _hz a h=>?_;replace hM:=hM.yarn mtd hj a4 d5 ((M c1).low (by omega));have a6:=hM;clear a4;have h9:=d5.size;replace D:=D.fr d5;replace I:=I.fr d5;replace M:=M.fr d5 (by intro a3 k J a2;simp at J;subst J;have d0:=b2 a3 _ a2;have d1:=(M a3).blk _ a2;omega);have J:=hM.k;clear _hz;refine z1n ?_;refine z0q ?_;clear hC a1 U O Z a5;refine bk (h.sub (L':=[(10,_)]) (.cons rfl .nil)) (tn (sr (mv rfl (asg rfl (nn (rt (r1 results113 rfl ?_)))))));exact⟨_,rfl,by rw[c1];exact MRet.ok (by unfold y0g v0t;rw[b7,if_neg (λe=>e c1)];exact congrArg Except.ok (by rw[z9x m qn d7,(b4 c1).1])) hM⟩;refine sk (tn (sr (mv rfl (asg rfl (kpL [(8,_)] (.cons rfl .nil) (nn (rt (r1 results113 rfl ?_))))))));replace hM:=a6.ext (((q1.z6 q2 q3 q4 q5 q6 a9).n1 a7).z1 b0);exact⟨_,rfl,MRet.err (by unfold y0g v0t;rw[b7,if_pos c1]) c1 hM.fr⟩;refine z1c h y1g rfl λg7 I b6 hz a h=>?_;obtain⟨a0,hg⟩:∃g,g=w5.heap.size:=⟨_,rfl⟩;rw[<-hg]at I h hz;have e3.gk_12:ka.gk<a0:=by have:=J.lt;omega
 have b5:d9<a0:=by have:=D.lt;omega
 have i0:=b6.size;replace hL:=hL.ext b6;replace hC:=hC.next b6;refine z0b ?_;refine z0d 6 rfl ?_;refine z0n h (z0a rfl (z0a rfl (z0a rfl z0f))) (mkC func149) (u4n _ (z2w m.q.p m.rk) (m.ys.getD j yq0).pl en _ hL.sl (by omega)) ?_;rintro _ g8 ⟨⟨e0,rfl,e2,hW⟩,q18⟩ a h;have i1:=q18.size;replace hM:=hM.ext (b6.n1 q18);replace J:=J.ext (b6.n1 q18);replace hC:=hC.next q18;have e7:=(hW.blk e0 (by simp[z0x])).2;refine z0b ?_;refine z0d 7 rfl ?_;refine z0n h (z0a rfl (z0a rfl (z0a rfl z0f))) (mkC func146) (x9d (m.ys.getD j yq0) pl _ (btw (z2w m.q.p m.rk) (m.ys.getD j yq0).pl en) _ (hM.y.ins j (by omega)).sl hW.sl (λk J=>(hW.blk k J).2) (by omega)) ?_;rintro _ h0 ⟨qn,rfl,b4,a8⟩ a h;have i2:=a8.size;replace hM:=hM.ext a8;replace J:=J.ext a8;replace hL:=hL.ext (q18.n1 a8);replace D:=D.ext (b6.n2 q18 a8);replace I:=I.ext (q18.n1 a8);replace hW:=hW.ext a8;replace hC:=hC.next a8;have M:OwnIf ((goE (m.ys.getD j yq0).p pl (btw (z2w m.q.p m.rk) (m.ys.getD j yq0).pl en))=0) z1r 100 _ _ (slv qn.pe) qn.pes:=λhc=>(b4 hc).2;have b2:=λhc k J=>((M hc).blk k J).2;refine z0b ?_;refine z0e 8 h rfl rfl λa h=>z0m 9 h rfl rfl rfl λa h=>z0m 10 h rfl rfl rfl λa h=>z0d 12 rfl ?_;refine z0t h rfl rfl I rfl z6s ?_ (h1:=(by first|(simp[Value.oneCell',S];done)|exact z2r.one (m.ys.getD j yq0)));clear h a;intro e9 b3 b1 hz a h;have i3:=b1.size;replace J:=J.fr b1;replace hL:=hL.fr b1 (by simp[z0x]<;>omega);replace D:=D.fr b1;replace hW:=hW.fr b1 (by simp[z0x]<;>omega);replace M:=M.fr b1 (by intro a3 k J a2;simp at J;subst J;have d0:=b2 a3 _ a2;have d1:=(M a3).blk _ a2;omega);replace hC:=hC.sp b1;clear I hz;have I:Blk e9 a0 _ [_,_,_,_,_]:=b3;clear b3;refine z0b ?_;refine z0d 13 rfl ?_;refine z0r h rfl λa h=>?_;refine z0b ?_;refine z0q ?_;clear hC a1 U d3 O;refine bk (h.sub (L':=[(0,_),(1,_),(10,_),(12,_)]) (.c4 rfl rfl rfl rfl)) (tn (sq (sr (mv rfl (eq' rfl rfl (nn (cd rfl (λc1=>?_) (λc1=>?_))))))));replace hM:=a6.ext (((q1.z6 q2 q3 q4 q5 b6 q18).n1 a8).z1 b1);intro a h;refine z0i (some 8) (λwb w'=>Fr [] wb w') z2o ?_;intro e6 c9;have i4:=c9.size;replace hM:=hM.ext c9;replace J:=J.ext c9;replace D:=D.ext c9;replace I:=I.ext c9;replace M:=M.ext c9;have hC:Fr [] e6 e6:=Fr.refl _ _;have a1:=hM;have U:=J;have O:=D;have Z:=I;have a5:=M;refine z0e 0 h rfl rfl λa h=>z0o 1 h rfl rfl λa h=>z0c 2 h rfl z2z rfl λa h=>z0l 3 h rfl (λ_ hw=>U.ext hw) rfl y0i rfl λa h=>z0e 4 h rfl rfl λa h=>z3b 5 h wn rfl rfl (by first|exact IntWalk.u8_in _ (by omega)|rfl) rfl λa h=>z0y 6 h rfl (λ_ hw=>Z.ext hw) z6f rfl λa h=>z1o 7 (by kernel_rfl) (by kernel_rfl) (by kernel_rfl) hC (p:=j) h wn rfl rfl y1f (by omega) (by omega) (by omega) rfl rfl λa h=>z0d 8 rfl ?_;refine z1b (i:=j) (qn:YQ) h rfl rfl hM.y.out (by rw[hM.ly];exact hj) rfl z6s λh2 a4 d6 _hz a h=>?_;replace hM:=hM.yarn mtd hj a4 d6 ((M c1).low (by omega));have a6:=hM;clear a4;have i5:=d6.size;replace D:=D.fr d6;replace I:=I.fr d6;replace M:=M.fr d6 (by intro a3 k J a2;simp at J;subst J;have d0:=b2 a3 _ a2;have d1:=(M a3).blk _ a2;omega);have J:=hM.k;clear _hz;refine z1n ?_;refine z0q ?_;clear hC a1 U O Z a5;refine bk (h.sub (L':=[(10,_)]) (.cons rfl .nil)) (tn (sr (mv rfl (asg rfl (nn (rt (r1 results113 rfl ?_)))))));exact⟨_,rfl,by rw[c1];exact MRet.ok (by unfold y0g v0t;rw[b7,if_neg (λe=>e c1)];exact congrArg Except.ok (by rw[z9x m qn d7,(b4 c1).1])) hM⟩;refine sk (tn (sr (mv rfl (asg rfl (kpL [(8,_)] (.cons rfl .nil) (nn (rt (r1 results113 rfl ?_))))))));replace hM:=a6.ext (((q1.z6 q2 q3 q4 q5 b6 q18).n1 a8).z1 b1);exact⟨_,rfl,MRet.err (by unfold y0g v0t;rw[b7,if_pos c1]) c1 hM.fr⟩
theorem u9h (wS:World)(J:MA)(m:MQ)(o:MOp)(w0:World)(hM:MkM τd 137 wS J w0 m)(hi:MInv m.p)(hy:1<=o.y/\o.y<=6)(hn:z4q o.b o.p=0):Rets prog 69 #[.pointer (some ⟨J.gk,0,none⟩),opV o] w0 λr w'=>MRet τd 137 wS J (y6n m.p o) r w':=by
 refine we [(0,.pointer (some ⟨J.gk,0,none⟩)),(1,opV o)] func69 rfl ntmps69 rfl (.c2 rfl rfl) ?_;have I:=hM;refine sr (bx rfl rfl rfl (λg3 w1 a0 D U z1=>(asg rfl (nn (sr (mv rfl (z0k rfl D y1k ?_)))))));replace hM:=I.ext U;refine cl (ev2 rfl rfl) (mkC func112) (x4n wS J m o _ hM hi hy hn) rfl ?_;rintro _ w2 ⟨rfl,Z⟩;refine mv rfl (xt rfl rfl (xt rfl rfl (xt rfl rfl (asg rfl (asg rfl (asg rfl (kpL [(0,_),(3,_),(5,_),(7,_)] (.c4 rfl rfl rfl rfl) (nn (sq (sr (mv rfl (ne' rfl rfl (nn (cd rfl (λM=>?_) (λM=>?_)))))))))))))));refine sr (mv rfl (asg rfl (kpL [(4,_)] (.cons rfl .nil) (nn (rt (tr (r1 results69 rfl ?_)))))));replace hM:=I.ext (U.n1 Z);exact⟨_,rfl,MRet.err (by unfold y6n;rw[if_pos M]) M hM.fr⟩;refine sk (tn (sr (mv rfl (fad rfl z3e ?_))));replace D:=D.ext Z;refine z0g rfl D rfl na5 (mv rfl (mv rfl ?_));replace hM:=I.ext (U.n1 Z);refine cl (z0a rfl (z0a rfl (z0a rfl (z0a rfl z0f)))) (mkC func113) (x5h wS J m o.y (if z6l m.p o=0 then y3x m.p o else 0) (if z6l m.p o=0 then y3x m.p o else 0) _ hM hi hy) rfl ?_;rintro a1 w3 hR;refine asg rfl (kpL [(4,_)] (.cons rfl .nil) (nn (rt (r1 results69 rfl ?_))));have O:z6l m.p o=0:=Classical.not_not.1 M;rw[if_pos O]at hR;exact⟨_,rfl,by rw[show y6n m.p o=_ from if_neg M];exact hR⟩
theorem v1u:CallOf prog 118:=mkC func118
theorem y2i:z0z prog 137 5 6:=λ_ _=>by kernel_rfl
set_option maxHeartbeats 1000000 in
theorem u6b (wS:World)(ka:MA)(m:MQ)(o:MOp)(w0:World)(hM:MkM τd 137 wS ka w0 m)(hi:MInv m.p)(hn:z4q o.b o.p=0):Rets prog 71 #[.pointer (some ⟨ka.gk,0,none⟩),opV o] w0 λr w'=>MRet τd 137 wS ka (y5p m.p o) r w':=by
 have f4:=hM.fr.size;have D:=hM.k;have f0:=D.lt;have f2:=hM.ly;have f1:=hM.lt;have e4:=(hM.y.out.blk ka.gy (by simp[z0x])).2;have f3:=z3k hn;obtain⟨n,b4⟩:∃n:Nat,o.p=(n:Int):=⟨o.p.toNat,by omega⟩;obtain⟨⟨hf,hb⟩,h4,d6⟩:=z3n hi.B;have hfl:m.q.p.flat.length+m.fl.length<=z4v (z2a m.ts):=hi.cnt;have e8:z4v (z2a m.ts)<=2048:=hi.all;have hv:BdOk m.q.p:=hi.B;have e7:=y4o hv o.b o.p;refine we [(0,.pointer (some ⟨ka.gk,0,none⟩)),(1,opV o)] func71 rfl ntmps71 rfl (.c2 rfl rfl) ?_;have a3:=hM;refine sr (bx rfl rfl rfl (λg3 w1 e9 J q1 z1=>(asg rfl (nn (sq ?_)))));replace hM:=a3.ext q1;intro a h;refine z0i none (λwb w'=>Fr [] wb w') z2o ?_;intro w2 q2;have z2:=q2.size;replace hM:=hM.ext q2;replace D:=D.ext (q1.n1 q2);replace J:=J.ext q2;have hC:Fr [] w2 w2:=Fr.refl _ _;have a7:=hM;have Z:=D;have O:=J;refine z0e 0 h rfl rfl λa h=>z0o 1 h rfl rfl λa h=>z0c 2 h rfl z3a rfl λa h=>z1e (vs:=[_,_]) 3 h rfl (λ_ hw=>(Z.ext hw)) z5s rfl rfl λa h=>z0c 4 h rfl z4h rfl λa h=>z1e (vs:=[_,_]) 5 h rfl (λ_ hw=>(O.ext hw)) z5z rfl rfl λa h=>z0d 6 rfl ?_;refine z0n h (z0a rfl (z0a rfl z0f)) u3q (x1j m.q o.b o.p _ hM.b.at (by omega) hf hb h4 d6) ?_;rintro f5 w3 ⟨I,hq⟩ a h;have z3:=hq.size;replace hM:=hM.ext hq;replace D:=D.ext hq;replace J:=J.ext hq;replace hC:=hC.next hq;have q3:=hq;rw[y7h hn]at I;obtain⟨e5,e6,rfl,e3⟩:=I.sl.form;have b3:=λk hb=>(I.blk k hb).2;refine z0b ?_;refine z0d 7 rfl ?_;refine z0r h rfl λa h=>?_;refine z0b ?_;refine z0q ?_;clear hC a7 Z O;refine bk (h.sub (L':=[(0,_),(3,_),(5,_)]) (.c3 rfl rfl rfl)) (tn (sq (sr (mv rfl (lnS rfl underlying37 (eq' rfl rfl (nn (cd rfl (λc0=>?_) (λc0=>?_)))))))));refine sr (asg rfl (nn (rt (tr (r1 results71 rfl ?_)))));exact⟨_,rfl,MRet.err (if_pos (List.length_eq_zero_iff.1 (show (m.q.p.at o.b o.p).length=0 by omega))) (by decide) hM.fr⟩;refine sk (tn (sq ?_));intro a h;refine z0i none (λwb w'=>Fr [] wb w') z2o ?_;intro w4 q4;have z4:=q4.size;replace hM:=hM.ext q4;replace D:=D.ext q4;replace J:=J.ext q4;replace I:=I.ext q4;have hC:Fr [] w4 w4:=Fr.refl _ _;have a7:=hM;have Z:=D;have O:=J;have b1:=I;refine z0e 0 h rfl rfl λa h=>z0o 1 h rfl rfl λa h=>z0c 2 h rfl z3a rfl λa h=>z1e (vs:=[_,_]) 3 h rfl (λ_ hw=>(Z.ext hw)) z5s rfl rfl λa h=>z0c 4 h rfl z4h rfl λa h=>z1e (vs:=[_,_]) 5 h rfl (λ_ hw=>(O.ext hw)) z5z rfl rfl λa h=>z2d 6 10 (by kernel_rfl) rfl rfl ?_ ?_;refine z0n h (z0a rfl (z0a rfl (z0a rfl z0f))) v1u (by have x:=x2g m.q o.b n (.slice none 0 0) [] _ hM.b.at (Sl.nil _) hv (by rw[<-b4];exact hn) (by simp) (by simp) (λi=>by have:=List.nodup_iff_count.1 hv.nd i;simp only[List.count_nil];omega);rw[<-b4]at x;exact x) ?_;rintro _ w5 ⟨⟨q',rfl,hQ,d0⟩,q5⟩ a h;have z5:=q5.size;replace D:=D.ext q5;replace J:=J.ext q5;replace hC:=hC.next q5;have b8:=x2m hQ a3.f (by omega);refine z0b ?_;refine z0e 7 h rfl rfl λa h=>z0m 8 h rfl rfl rfl λa h=>z0m 9 h rfl rfl rfl λa h=>z0d 10 rfl ?_;refine z1c h x9f rfl λw6 M q6 hz a h=>?_;obtain⟨a2,hg⟩:∃g,g=w5.heap.size:=⟨_,rfl⟩;rw[<-hg]at M h hz;have d7.gk_6:ka.gk<a2:=by have:=D.lt;omega
 have c9:g3<a2:=by have:=J.lt;omega
 have z6:=q6.size;replace hM:=hM.ext (q5.n1 q6);replace D:=D.ext q6;replace J:=J.ext q6;replace I:=I.ext (q5.n1 q6);first|replace hQ:=BdO.ext hQ q6|replace hQ:=BdO.tf hQ q6 (OffT.one M (by decide)) (OffT.one M (by decide))
 replace hC:=hC.next q6;refine z0b ?_;refine z0d 11 rfl ?_;refine z0t h rfl rfl M rfl x5e λw7 b0 q7 hz a h=>?_;have z7:=q7.size;replace D:=D.fr q7;replace J:=J.fr q7;replace I:=I.fr q7 (by intro k D U;simp at D;subst D;have:=b3 _ U;have b5:=(I.blk _ U).1;omega);first|replace hQ:=BdO.ext hQ q7|replace hQ:=BdO.tf hQ q7 (OffT.one M (by decide)) (OffT.one M (by decide))
 replace hC:=hC.sp q7;clear M hz;have M:Blk w7 a2 _ [_,_]:=b0;clear b0;refine z0b ?_;refine z0d 12 rfl ?_;refine z0r h rfl λa h=>?_;refine z0b ?_;refine z0q ?_;clear hC a7 Z O b1;refine bk (h.sub (L':=[(0,_),(5,_),(6,_),(7,_)]) (.c4 rfl rfl rfl rfl)) (tn (sq (sr (mv rfl (ne' rfl rfl (nn (cd rfl (λc1=>?_) (λc1=>?_))))))));exact absurd rfl c1;refine sk (tn (sr (mv rfl (z0k rfl M z5s (nlc rfl (fad rfl z3a ?_))))));replace hM:=a3.ext (q1.z6 q2 q3 q4 q5 q6 q7);refine z5h (cs':=u3a ka { m with q:=q' }) rfl rfl hM.k (by intro u hu;simp at hu;rcases hu with rfl|rfl<;>rfl) x5e rfl (λw8 a0 q8 z8=>?_);replace hM:=hM.beds mtd (hQ.low (by omega)) a0 q8 b8;have D:=hM.k;have a3:=hM;have b7:=hM;have hF:Lw.Own z1k 87 wS.heap.size _ (slv m.fa) m.fl:=hM.f;clear a0;refine kpL [(0,_),(5,_)] (.c2 rfl rfl) (nn (sr (mv rfl (mv rfl (nlc rfl (fad rfl y2i (z0g rfl D rfl z5t (mv rfl ?_))))))));replace I:=I.fr q8 (by intro k D U;simp at D;subst D;have:=b3 _ U;have b5:=(I.blk _ U).1;omega);have a4:=hF;refine z2e rfl rfl hF I.sl z6j (by unfold maxLen;omega) (by omega) (λe1 w9 hF q9 a5=>?_);have d3:=q9;obtain⟨a8,a9,rfl,d4⟩:=hF.sl.form;have b2:∀k∈z0x (.slice a8 (m.fl++(m.q.p.at o.b o.p)).length a9),k∈z0x (slv m.fa)\/_<=k:=λk D=>by
  rcases a5 with e|e|e
  exact .inl (congrArg z0x e▸D);exact .inl (e▸D);rw[e,List.mem_singleton]at D;exact .inr (Nat.le_of_eq D.symm)
 have z9:=q9.size;replace D:=D.fr q9 (λb9=>a4.neB D (by decide) b9);refine nlc rfl (fad rfl y2i (z3l rfl rfl D rfl u5b (λf6 a0 d9 g4=>?_)));have b6:=b7.fall mtd (by decide) (u:=(a8,(m.fl++(m.q.p.at o.b o.p)).length,a9)) hF d3 b2 a0 d9;refine kpL [] .nil (nn (sr (asg rfl (nn (rt (r1 results71 rfl ?_))))));exact⟨_,rfl,MRet.ok (by rw[show y5p m.p o=_ from if_neg (λe=>c0 (by rw[show (m.q.p.at o.b o.p)=[] from e];rfl))];exact congrArg Except.ok (by unfold MQ.p;simp only[d0])) b6⟩;refine z1c h x9f rfl λf7 M a6 hz a h=>?_;obtain⟨a2,hg⟩:∃g,g=w4.heap.size:=⟨_,rfl⟩;rw[<-hg]at M h hz;have d7.gk_6:ka.gk<a2:=by have:=D.lt;omega
 have c9:g3<a2:=by have:=J.lt;omega
 have g5:=a6.size;replace hM:=hM.ext a6;replace hC:=hC.next a6;refine z0b ?_;refine z0d 6 rfl ?_;refine z0n h (z0a rfl (z0a rfl (z0a rfl z0f))) v1u (by have x:=x2g m.q o.b n (.slice none 0 0) [] _ hM.b.at (Sl.nil _) hv (by rw[<-b4];exact hn) (by simp) (by simp) (λi=>by have:=List.nodup_iff_count.1 hv.nd i;simp only[List.count_nil];omega);rw[<-b4]at x;exact x) ?_;rintro _ f8 ⟨⟨q',rfl,hQ,d0⟩,q12⟩ a h;have g6:=q12.size;replace hM:=hM.ext q12;replace D:=D.ext (a6.n1 q12);replace J:=J.ext (a6.n1 q12);replace I:=I.ext (a6.n1 q12);replace M:=M.ext q12;replace hC:=hC.next q12;have b8:=x2m hQ a3.f (by omega);refine z0b ?_;refine z0e 7 h rfl rfl λa h=>z0m 8 h rfl rfl rfl λa h=>z0m 9 h rfl rfl rfl λa h=>z0d 11 rfl ?_;refine z0t h rfl rfl M rfl x5e λe2 b0 a1 hz a h=>?_;have g7:=a1.size;replace D:=D.fr a1;replace J:=J.fr a1;replace I:=I.fr a1 (by intro k D U;simp at D;subst D;have:=b3 _ U;have b5:=(I.blk _ U).1;omega);first|replace hQ:=BdO.ext hQ a1|replace hQ:=BdO.tf hQ a1 (OffT.one M (by decide)) (OffT.one M (by decide))
 replace hC:=hC.sp a1;clear M hz;have M:Blk e2 a2 _ [_,_]:=b0;clear b0;refine z0b ?_;refine z0d 12 rfl ?_;refine z0r h rfl λa h=>?_;refine z0b ?_;refine z0q ?_;clear hC a7 Z O b1;refine bk (h.sub (L':=[(0,_),(5,_),(6,_),(7,_)]) (.c4 rfl rfl rfl rfl)) (tn (sq (sr (mv rfl (ne' rfl rfl (nn (cd rfl (λc1=>?_) (λc1=>?_))))))));exact absurd rfl c1;refine sk (tn (sr (mv rfl (z0k rfl M z5s (nlc rfl (fad rfl z3a ?_))))));replace hM:=a3.ext (q1.z6 q2 q3 q4 a6 q12 a1);refine z5h (cs':=u3a ka { m with q:=q' }) rfl rfl hM.k (by intro u hu;simp at hu;rcases hu with rfl|rfl<;>rfl) x5e rfl (λf9 a0 d5 g8=>?_);replace hM:=hM.beds mtd (hQ.low (by omega)) a0 d5 b8;have D:=hM.k;have a3:=hM;have b7:=hM;have hF:Lw.Own z1k 87 wS.heap.size _ (slv m.fa) m.fl:=hM.f;clear a0;refine kpL [(0,_),(5,_)] (.c2 rfl rfl) (nn (sr (mv rfl (mv rfl (nlc rfl (fad rfl y2i (z0g rfl D rfl z5t (mv rfl ?_))))))));replace I:=I.fr d5 (by intro k D U;simp at D;subst D;have:=b3 _ U;have b5:=(I.blk _ U).1;omega);have a4:=hF;refine z2e rfl rfl hF I.sl z6j (by unfold maxLen;omega) (by omega) (λe1 g0 hF d1 a5=>?_);have d3:=d1;obtain⟨a8,a9,rfl,d4⟩:=hF.sl.form;have b2:∀k∈z0x (.slice a8 (m.fl++(m.q.p.at o.b o.p)).length a9),k∈z0x (slv m.fa)\/_<=k:=λk D=>by
  rcases a5 with e|e|e
  exact .inl (congrArg z0x e▸D);exact .inl (e▸D);rw[e,List.mem_singleton]at D;exact .inr (Nat.le_of_eq D.symm)
 have g9:=d1.size;replace D:=D.fr d1 (λb9=>a4.neB D (by decide) b9);refine nlc rfl (fad rfl y2i (z3l rfl rfl D rfl u5b (λg1 a0 e0 h0=>?_)));have b6:=b7.fall mtd (by decide) (u:=(a8,(m.fl++(m.q.p.at o.b o.p)).length,a9)) hF d3 b2 a0 e0;refine kpL [] .nil (nn (sr (asg rfl (nn (rt (r1 results71 rfl ?_))))));exact⟨_,rfl,MRet.ok (by rw[show y5p m.p o=_ from if_neg (λe=>c0 (by rw[show (m.q.p.at o.b o.p)=[] from e];rfl))];exact congrArg Except.ok (by unfold MQ.p;simp only[d0])) b6⟩
theorem v4g (b p r:Int)(w0:World)(hn:z4q b p=0)(hr:-4<=r/\r<=4):Rets prog 115 #[.agg #[.int .u8 b,.int .i64 p],.int .i64 r] w0 λv w'=>(∃b' p':Int,v=.tuple #[.agg #[.int .u8 b',.int .i64 p'],.int .i64 (if z4q (1-b) (z7t b p r)≠0 then 11 else 0)]/\(z4q (1-b) (z7t b p r)=0->b'=1-b/\p'=z7t b p r))/\Fr [] w0 w':=by
 have a3:=z3k hn;refine we [(0,.agg #[.int .u8 b,.int .i64 p]),(1,.int .i64 r)] func115 rfl ntmps115 rfl (.c2 rfl rfl) (sr (bx rfl rfl rfl (λg2 w1 a4 J q1 z1=>(al u0x rfl rfl (λg4 w2 a5 D q2 z2=>(asg rfl (nn (sq (sr ?_)))))))));replace J:=J.ext q2;refine z0k rfl J z5z (cl (ev1 rfl) u0o (z4p _ _ _) rfl ?_);rintro _ w3 ⟨rfl,U⟩;have z3:=U.size;refine ne' rfl rfl (nn (cd rfl (λc0=>?_) (λc0=>?_)));refine sr (z1v (cs:=[_,_]) z0f x1a z0s rfl ?_);replace D:=D.ext U;refine z0j (vs:=[_,_]) rfl rfl D y6i (λw4 D q4 z4=>(asg rfl (nn (rt (tr (rCT results115 rfl D z5z rfl ?_))))));exact absurd hn c0;refine sk (tn (sq (sr (mv rfl (cl (ev1 rfl) (mkC func152) (x3t _ _) rfl ?_)))));rintro _ w5 ⟨rfl,Z⟩;have z5:=Z.size;refine nt' rfl (nn (cd rfl (λc1=>?_) (λc1=>?_)));refine sr (z1v (cs:=[_,_]) z0f x1a z0s rfl ?_);replace D:=D.ext (U.n1 Z);refine z0j (vs:=[_,_]) rfl rfl D y6i (λw6 D q6 z6=>(asg rfl (nn (rt (tr (rCT results115 rfl D z5z rfl ?_))))));exact absurd hr c1;refine sk (tn (sr (fad rfl z6v ?_)));replace J:=J.ext (U.n1 Z);refine z0g rfl J rfl na3 (mv rfl (z2u rfl rfl (wi6 (by omega)) (z1v (cs:=[_,_]) (ev2 rfl rfl) x1a (z0h rfl rfl rfl (z0h rfl rfl rfl z0s)) rfl ?_)));refine al u0x rfl rfl (λg6 w7 a6 I q7 z7=>(z0j (vs:=[_,_]) rfl rfl I y6i (λw8 I q8 z8=>(kpL [(1,_),(2,_),(4,_),(6,_)] (.c4 rfl rfl rfl rfl) (nn ?_)))));refine jn (ι:=Unit) [(4,_),(6,_)] (λ_j=>[]) (λ_j w'=>Fr [g6] w8 w'/\Blk w' g6 24 [.int .u8 (1-b),.int .i64 (z7t b p r)]) (.c2 rfl rfl) ?_ ?_;refine sr (fad rfl z6t ?_);replace J:=(J.ext q7).fr q8;refine z0g rfl J rfl x1z (eq' rfl rfl (nn (cd rfl (λc2=>?_) (λc2=>?_))));refine rg (fad rfl z6v (z0g rfl J rfl na3 (mv rfl (z0v rfl rfl (wi6 (by omega)) (z1v (cs:=[_,_]) (ev2 rfl rfl) x1a (z0h rfl rfl rfl (z0h rfl rfl rfl z0s)) rfl ?_)))));refine z0j (vs:=[_,_]) rfl rfl I y6i (λw9 I q9 z9=>(kpL [(4,_),(6,_)] (.c2 rfl rfl) (nl ?_)));exact jE (()) (.c2 rfl rfl) ⟨((Fr.refl [g6] _).z1 q9),(by rw[show z7t b p r=p+r from if_pos c2,show 1-b=0 by omega];exact I)⟩;refine sk ?_;exact jE (()) (.c2 rfl rfl) ⟨(Fr.refl _ _),(by rw[show z7t b p r=p-r from if_neg c2,show 1-b=1 by omega];exact I)⟩;rintro _j a7 ⟨O,I⟩;have b1:=O.size;have a0:=I.lt;refine kpC [(4,_),(6,_)] (.c2 rfl rfl) (sq (sr (z0k rfl I z5z (cl (ev1 rfl) u0o (z4p _ _ _) rfl ?_))));rintro _ a8 ⟨rfl,M⟩;have b2:=M.size;refine ne' rfl rfl (nn (cd rfl (λc3=>?_) (λc3=>?_)));refine sr (z1v (cs:=[_,_]) z0f x1a z0s rfl ?_);replace D:=(((D.ext (U.n2 Z q7)).fr q8).fr O).ext M;refine z0j (vs:=[_,_]) rfl rfl D y6i (λa9 D a1 b3=>(asg rfl (nn (rt (tr (rCT results115 rfl D z5z rfl ?_))))));exact⟨_,rfl,⟨0,0,by rw[if_pos c3],λe=>absurd e c3⟩,(((q1.z6 q2 U Z q7 q8 O).n1 M).z1 a1)⟩;refine sk (tn (sr ?_));replace I:=I.ext M;refine z0k rfl I z5z ?_;replace D:=(((D.ext (U.n2 Z q7)).fr q8).fr O).ext M;refine z0j (vs:=[_,_]) rfl rfl D y6i (λb0 D a2 b4=>(asg rfl (nn (rt (rCT results115 rfl D z5z rfl ?_)))));exact⟨_,rfl,⟨_,_,by rw[if_neg c3],λ_=>⟨rfl,rfl⟩⟩,(((q1.z6 q2 U Z q7 q8 O).n1 M).z1 a2)⟩
def BdOIf (c:Prop)(Sτ I base:Nat)(w:World)(q:BdQ):Prop:=c->BdO Sτ I base w q
theorem BdOIf.ext {c:Prop}{D I base:Nat}{w w':World}{q:BdQ}(h:BdOIf c D I base w q)(hf:Fr [] w w'):BdOIf c D I base w' q:=λJ=>(h J).ext hf
theorem BdOIf.tf {c:Prop}{D I base:Nat}{w w':World}{q:BdQ}{S:List Nat}(h:BdOIf c D I base w q)(hf:Fr S w w')(M:OffT w D S)(J:OffT w I S):BdOIf c D I base w' q:=λO=>BdO.tf (h O) hf M J
theorem x2t {p:MSt}{o:MOp}(h:o.b=0\/o.b=1):y4p p.B o.b o.p (z7t o.b o.p p.rk)=y0t p o:=by
 unfold y4p y0t;rcases h with e|e<;>rw[e]<;>rfl
set_option maxHeartbeats 2000000 in
theorem u6z (wS:World)(ka:MA)(m:MQ)(o:MOp)(w0:World)(hM:MkM τd 137 wS ka w0 m)(hi:MInv m.p)(hn:z4q o.b o.p=0):Rets prog 70 #[.pointer (some ⟨ka.gk,0,none⟩),opV o] w0 λr w'=>MRet τd 137 wS ka (z9y m.p o) r w':=by
 have i4:=hM.fr.size;have O:=hM.k;have h9:=O.lt;have i1:=hM.ly;have i0:=hM.lt;have g8:=(hM.y.out.blk ka.gy (by simp[z0x])).2;have e4:=z3k hn;obtain⟨n,d1⟩:∃n:Nat,o.p=(n:Int):=⟨o.p.toNat,by omega⟩;obtain⟨⟨hf,hb⟩,h4,f0⟩:=z3n hi.B;have hv:BdOk m.q.p:=hi.B;have h6:=y4o hv o.b o.p;have e5:-4<=m.rk/\m.rk<=4:=hi.rk;have i2:=y4q o.b o.p m.rk;have i3:=y4q (1-o.b) (z7t o.b o.p m.rk) m.rk;refine we [(0,.pointer (some ⟨ka.gk,0,none⟩)),(1,opV o)] func70 rfl ntmps70 rfl (.c2 rfl rfl) ?_;have a1:=hM;refine sr (bx rfl rfl rfl (λg3 w1 h7 D q1 z1=>(asg rfl (nn (sq (sq ?_))))));replace hM:=a1.ext q1;intro a h;refine z0i none (λwb w'=>Fr [] wb w') z2o ?_;intro w2 q2;have z2:=q2.size;replace hM:=hM.ext q2;replace O:=O.ext (q1.n1 q2);replace D:=D.ext q2;have hC:Fr [] w2 w2:=Fr.refl _ _;have a2:=hM;have U:=O;have M:=D;refine z0e 0 h rfl rfl λa h=>z0o 1 h rfl rfl λa h=>z0c 2 h rfl z3a rfl λa h=>z1e (vs:=[_,_]) 3 h rfl (λ_ hw=>(U.ext hw)) z5s rfl rfl λa h=>z0c 4 h rfl z4h rfl λa h=>z1e (vs:=[_,_]) 5 h rfl (λ_ hw=>(M.ext hw)) z5z rfl rfl λa h=>z0d 6 rfl ?_;refine z0n h (z0a rfl (z0a rfl z0f)) u3q (x1j m.q o.b o.p _ hM.b.at (by omega) hf hb h4 f0) ?_;rintro i5 w3 ⟨d7,hq⟩ a h;have z3:=hq.size;replace hM:=hM.ext hq;replace O:=O.ext hq;replace D:=D.ext hq;replace hC:=hC.next hq;have q3:=hq;rw[y7h hn]at d7;obtain⟨h3,h5,rfl,g7⟩:=d7.sl.form;refine z0b ?_;refine z8f 7 hC h wn rfl underlying37 rfl λa h=>v8k 8 hC h wn rfl rfl rfl rfl λa h=>z0q ?_;clear hC a2 U M;refine bk (h.sub (L':=[(0,_),(3,_),(19,_)]) (.c3 rfl rfl rfl)) (tn (cd rfl (λc0=>?_) (λc0=>?_)));refine sr (asg rfl (nn (rt (tr (r1 results70 rfl ?_)))));exact⟨_,rfl,MRet.err (if_pos (List.length_eq_zero_iff.1 (show (m.q.p.at o.b o.p).length=0 by omega))) (by decide) hM.fr⟩;have b8:(m.q.p.at o.b o.p)≠[]:=λe=>c0 (by rw[e];rfl);refine sk (tn ?_);refine jn (ι:=Nat×Int×Int) [(0,_),(3,_)] (λz_=>[(5,.pointer (some ⟨z_.1,0,none⟩)),(6,.int .i64 (if z4q (1-o.b) (z7t o.b o.p m.rk)≠0 then 11 else 0))]) (λz_ w'=>Fr [] w3 w'/\(w3.heap.size<=z_.1/\Blk w' z_.1 24 [.int .u8 z_.2.1,.int .i64 z_.2.2])/\(z4q (1-o.b) (z7t o.b o.p m.rk)=0->z_.2.1=1-o.b/\z_.2.2=z7t o.b o.p m.rk)) (.c2 rfl rfl) ?_ ?_;intro a h;refine z0i none (λwb w'=>Fr [] wb w') z2o ?_;intro w4 q4;have z4:=q4.size;replace hM:=hM.ext q4;replace O:=O.ext q4;replace D:=D.ext q4;have hC:Fr [] w4 w4:=Fr.refl _ _;have a2:=hM;have U:=O;have M:=D;refine z0c 0 h rfl z4h rfl λa h=>z1e (vs:=[_,_]) 1 h rfl (λ_ hw=>(M.ext hw)) z5z rfl rfl λa h=>z0e 2 h rfl rfl λa h=>z0o 3 h rfl rfl λa h=>z0c 4 h rfl z3t rfl λa h=>z0l 5 h rfl (λ_ hw=>U.ext hw) rfl na3 rfl λa h=>z2d 6 10 (by kernel_rfl) rfl rfl ?_ ?_;refine z0n h (z0a rfl (z0a rfl z0f)) (mkC func115) (v4g o.b o.p m.rk _ hn e5) ?_;rintro _ w5 ⟨⟨bn,pn,rfl,Z⟩,q5⟩ a h;have z5:=q5.size;replace O:=O.ext q5;replace D:=D.ext q5;replace hC:=hC.next q5;refine z0b ?_;refine z0e 7 h rfl rfl λa h=>z0m 8 h rfl rfl rfl λa h=>z0m 9 h rfl rfl rfl λa h=>z0d 10 rfl ?_;refine z1c h u0x rfl λw6 I q6 hz a h=>?_;obtain⟨b1,hg⟩:∃g,g=w5.heap.size:=⟨_,rfl⟩;rw[<-hg]at I h hz;have d9.gk_5:ka.gk<b1:=by have:=O.lt;omega
 have e0:g3<b1:=by have:=D.lt;omega
 have z6:=q6.size;replace O:=O.ext q6;replace D:=D.ext q6;replace hC:=hC.next q6;refine z0b ?_;refine z0d 11 rfl ?_;refine z0t h rfl rfl I rfl y6i ?_ (h1:=(by first|(simp[Value.oneCell',S];done)|exact z2r.one (m.ys.getD i yq0)));clear h a;intro w7 Z q7 hz a h;have z7:=q7.size;replace O:=O.fr q7;replace D:=D.fr q7;replace hC:=hC.sp q7;clear I hz;have I:Blk w7 b1 _ [_,_]:=Z;clear Z;refine z0b ?_;refine z0d 12 rfl ?_;refine z0r h rfl λa h=>?_;refine z0b ?_;refine z0q ?_;clear hC a2 U M;refine bk (h.sub (L':=[(0,_),(3,_),(5,_),(6,_)]) (.c4 rfl rfl rfl rfl)) ?_;exact jE ((b1,bn,pn)) (.c4 rfl rfl rfl rfl) ⟨(q4.z3 q5 q6 q7),⟨⟨by simp only;omega,I⟩,Z⟩⟩;refine z1c h u0x rfl λw8 I q8 hz a h=>?_;obtain⟨b1,hg⟩:∃g,g=w4.heap.size:=⟨_,rfl⟩;rw[<-hg]at I h hz;have d9.gk_5:ka.gk<b1:=by have:=O.lt;omega
 have e0:g3<b1:=by have:=D.lt;omega
 have z8:=q8.size;replace hC:=hC.next q8;refine z0b ?_;refine z0d 6 rfl ?_;refine z0n h (z0a rfl (z0a rfl z0f)) (mkC func115) (v4g o.b o.p m.rk _ hn e5) ?_;rintro _ w9 ⟨⟨bn,pn,rfl,Z⟩,q9⟩ a h;have z9:=q9.size;replace O:=O.ext (q8.n1 q9);replace D:=D.ext (q8.n1 q9);replace I:=I.ext q9;replace hC:=hC.next q9;refine z0b ?_;refine z0e 7 h rfl rfl λa h=>z0m 8 h rfl rfl rfl λa h=>z0m 9 h rfl rfl rfl λa h=>z0d 11 rfl ?_;refine z0t h rfl rfl I rfl y6i ?_ (h1:=(by first|(simp[Value.oneCell',S];done)|exact z2r.one (m.ys.getD i yq0)));clear h a;intro f7 Z d5 hz a h;have j7:=d5.size;replace O:=O.fr d5;replace D:=D.fr d5;replace hC:=hC.sp d5;clear I hz;have I:Blk f7 b1 _ [_,_]:=Z;clear Z;refine z0b ?_;refine z0d 12 rfl ?_;refine z0r h rfl λa h=>?_;refine z0b ?_;refine z0q ?_;clear hC a2 U M;refine bk (h.sub (L':=[(0,_),(3,_),(5,_),(6,_)]) (.c4 rfl rfl rfl rfl)) ?_;exact jE ((b1,bn,pn)) (.c4 rfl rfl rfl rfl) ⟨(q4.z3 q8 q9 d5),⟨⟨by simp only;omega,I⟩,Z⟩⟩;rintro⟨g5,bn,pn⟩ i7 ⟨a7,⟨⟨f4,I⟩,Z⟩⟩;have j8:=a7.size;have e9:=I.lt;simp only at f4 I Z;refine kpC [(0,_),(3,_),(5,.pointer (some ⟨g5,0,none⟩)),(6,_)] (.c4 rfl rfl rfl rfl) (sq (sr (mv rfl (ne' rfl rfl (nn (cd rfl (λc1=>?_) (λc1=>?_)))))));refine sr (mv rfl (asg rfl (kpL [(4,_)] (.cons rfl .nil) (nn (rt (tr (r1 results70 rfl ?_)))))));replace hM:=a1.ext (q1.n3 q2 q3 a7);have a6:z4q (1-o.b) (z7t o.b o.p m.rk)≠0:=λe=>c1 (by rw[if_neg (λh=>h e)]);exact⟨_,rfl,by rw[if_pos a6];exact MRet.err (by rw[z9y,if_neg b8,if_pos a6]) (by decide) hM.fr⟩;have a6:z4q (1-o.b) (z7t o.b o.p m.rk)=0:=Classical.not_not.1 λe=>c1 (by rw[if_pos e];decide);obtain⟨rfl,rfl⟩:=Z a6;have h0:=z3k a6;obtain⟨n2,d0⟩:∃n2:Nat,z7t o.b o.p m.rk=(n2:Int):=⟨(z7t o.b o.p m.rk).toNat,by omega⟩;refine sk (tn (sq ?_));replace hM:=a1.ext (q1.n3 q2 q3 a7);intro a h;refine z0i none (λwb w'=>Fr [] wb w') z2o ?_;intro e8 a8;have j9:=a8.size;replace hM:=hM.ext a8;replace O:=O.ext (a7.n1 a8);replace D:=D.ext (a7.n1 a8);replace I:=I.ext a8;have hC:Fr [] e8 e8:=Fr.refl _ _;have a2:=hM;have U:=O;have M:=D;have a3:=I;refine z0c 0 h rfl z4h rfl λa h=>z1e (vs:=[_,_]) 1 h rfl (λ_ hw=>(M.ext hw)) z5z rfl rfl λa h=>z0e 2 h rfl rfl λa h=>z0o 3 h rfl rfl λa h=>z0c 4 h rfl z3t rfl λa h=>z0l 5 h rfl (λ_ hw=>U.ext hw) rfl na3 rfl λa h=>z0y 7 h rfl (λ_ hw=>a3.ext hw) z5z rfl λa h=>z0e 8 h rfl rfl λa h=>z0o 9 h rfl rfl λa h=>z0c 10 h rfl z3t rfl λa h=>z0l 11 h rfl (λ_ hw=>U.ext hw) rfl na3 rfl λa h=>?_;refine z0d 6 rfl ?_;refine z0n h (z0a rfl (z0a rfl z0f)) v0i (y1q _ _ _ _ (by omega)) ?_;rintro _ i8 ⟨rfl,a4⟩ a h;have k0:=a4.size;replace hC:=hC.next a4;refine z0b ?_;refine z0d 12 rfl ?_;refine z0n h (z0a rfl (z0a rfl z0f)) v0i (y1q _ _ _ _ (by omega)) ?_;rintro _ f8 ⟨rfl,a5⟩ a h;have k1:=a5.size;replace hM:=hM.ext (a4.n1 a5);replace O:=O.ext (a4.n1 a5);replace D:=D.ext (a4.n1 a5);replace I:=I.ext (a4.n1 a5);replace hC:=hC.next a5;refine z0b ?_;refine j4g 13 (by kernel_rfl) (by kernel_rfl) (by kernel_rfl) hC h wn rfl rfl rfl rfl λa h=>z4u 14 h rfl rfl (by first|exact i6 (by omega)|rfl) rfl λa h=>z0d 15 rfl ?_;refine z0r h rfl λa h=>?_;refine z0b ?_;refine z0q ?_;clear hC a2 U M a3;refine bk (h.sub (L':=[(0,_),(3,_),(5,_),(7,_)]) (.c4 rfl rfl rfl rfl)) (tn (sq (sr (mv rfl (nlc rfl (fad rfl z2z (z0g rfl O rfl y0i (lnS rfl underlying33 (mv rfl (nn (bl ?_)))))))))));refine lpK (ι:=Nat) [(0,_),(3,_),(5,_),(7,_),(51,_),(52,_)] (λi=>[(53,.int .i64 (i:Int))]) (λi w'=>Fr [] f8 w'/\i<=6/\∀k,k<i->¬((m.ys.getD k yq0).inn=true/\(m.ys.getD k yq0).pl=(x5s m.p o))) (λi=>6-i) 0 (.c7 rfl rfl rfl rfl rfl rfl rfl) ⟨Fr.refl _ _,⟨Nat.zero_le _,λj h=>absurd h (by omega)⟩⟩ ?_;rintro i i9 ⟨a9,⟨hi,hz⟩⟩;have k2:=a9.size;refine kpC [(0,_),(3,_),(5,_),(7,_),(51,_),(52,_),(53,_)] (.c7 rfl rfl rfl rfl rfl rfl rfl) (sr (lt' rfl rfl (nn (sq (cd rfl (λc2=>?_) (λc2=>?_))))));refine sk (tn (sq (bl (sr ?_))));replace hM:=a1.ext ((q1.n6 q2 q3 a7 a8 a4 a5).n1 a9);refine z1a (yq0) rfl hM.y.out.sl rfl y1f z1d (λg6 e3=>?_);refine z1i rfl (e3 _ hM.y.out.sl) z6f (al y1g rfl rfl (λg9 j0 h8 d6 e6 k3=>?_));refine z0j (vs:=[_,_,_,_,_]) rfl rfl d6 z6s (λj1 d6 e7 k4=>?_) (h1:=(by first|(simp[Value.oneCell',S];done)|exact z2r.one (m.ys.getD i yq0)));refine nn (sq ?_);refine rbo (r:=64) (L':=[(0,_),(3,_),(5,_),(7,_),(51,_),(52,_),(53,_)]) (((m.ys.getD i yq0).inn=true/\((m.ys.getD i yq0).pl=((min (z3h o.b o.p m.rk) (z3h (1-o.b) (z7t o.b o.p m.rk) m.rk))+1)))) (.c7 rfl rfl rfl rfl rfl rfl rfl) ?_ ?_;refine fad rfl z9d (z0g rfl d6 rfl na4 (mv rfl (gs 59 rfl (λg0=>?_) (λg0=>?_))));exact gY rfl (fad rfl z6c (gY rfl (z0g rfl d6 rfl na3 (gY rfl (mv rfl (gY rfl (eq' rfl rfl (pkt rfl rfl (rbe rfl (.c7 rfl rfl rfl rfl rfl rfl rfl))))))))));exact gN rfl rfl (gN rfl rfl (gN rfl rfl (gN rfl rfl (pkf rfl rfl (rbe rfl (.c7 rfl rfl rfl rfl rfl rfl rfl))))));refine tn (cd rfl (λc3=>?_) (λc3=>?_));refine sr (asg rfl (kpL [(4,_)] (.cons rfl .nil) (nn (rt (rb (tr (tr (rb (tr (r1 results70 rfl ?_))))))))));replace hM:=a1.ext ((((q1.n6 q2 q3 a7 a8 a4 a5).n1 a9).n1 e6).z1 e7);exact⟨_,rfl,MRet.err (by rw[z9y,if_neg b8,if_neg (λh=>h a6),if_pos (⟨_,List.mem_map.2 ⟨m.ys.getD i yq0,z0u (by omega),rfl⟩,c3⟩:∃y∈m.p.ys,y.inn=true/\y.pl=x5s m.p o)]) (by decide) hM.fr⟩;refine sk (bn' (tn (rg (z0v rfl rfl (wi6 (by omega)) (mv rfl (nl ?_))))));exact lpE (i+1) (.c7 rfl rfl rfl rfl rfl rfl rfl) ⟨(a9.z2 e6 e7),⟨by omega,λk h=>by
  by_cases e:k=i;subst e;exact c3;exact hz k (by omega)⟩⟩ (by omega)
 have b4:¬ ∃y∈m.p.ys,y.inn=true/\y.pl=x5s m.p o:=by
  rintro⟨y,hy,h1,h2⟩;obtain⟨z,f3,rfl⟩:=List.mem_map.1 hy;obtain⟨k,f2,rfl⟩:=List.getElem_of_mem f3;refine hz k (by omega) ?_;rw[List.getD,List.getElem?_eq_getElem f2];exact⟨h1,h2⟩
 refine ex (te (te (xh (tn (sq ?_)))));replace hM:=a1.ext ((q1.n6 q2 q3 a7 a8 a4 a5).n1 a9);intro a h;refine z0i none (λwb w'=>Fr [] wb w') z2o ?_;intro e2 b5;have k5:=b5.size;replace hM:=hM.ext b5;replace O:=O.ext (a9.n1 b5);replace D:=D.ext (a9.n1 b5);replace I:=I.ext (a9.n1 b5);have hC:Fr [] e2 e2:=Fr.refl _ _;have a2:=hM;have U:=O;have M:=D;have a3:=I;refine z0e 0 h rfl rfl λa h=>z0o 1 h rfl rfl λa h=>z0c 2 h rfl z3a rfl λa h=>z1e (vs:=[_,_]) 3 h rfl (λ_ hw=>(U.ext hw)) z5s rfl rfl λa h=>z0c 4 h rfl z4h rfl λa h=>z1e (vs:=[_,_]) 5 h rfl (λ_ hw=>(M.ext hw)) z5z rfl rfl λa h=>z0y 6 h rfl (λ_ hw=>a3.ext hw) z5z rfl λa h=>z2d 7 11 (by kernel_rfl) rfl rfl ?_ ?_;refine z0n h (z0a rfl (z0a rfl (z0a rfl z0f))) (mkC func117) (by have x:=v3n m.q o.b n n2 _ hM.b.at hv (by rw[<-d1];exact hn) (by rw[<-d0];exact a6) (by rw[<-d1];exact b8);rw[<-d1,<-d0]at x;exact x) ?_;rintro _ f9 ⟨⟨q',rfl,d3⟩,q19⟩ a h;have k6:=q19.size;replace O:=O.ext q19;replace D:=D.ext q19;replace I:=I.ext q19;replace hC:=hC.next q19;have hQ:BdOIf (¬4<(m.q.p.at o.b o.p).length+(m.q.p.at (1-o.b) (z7t o.b o.p m.rk)).length) 37 87 _ _ q':=λhc=>(d3 hc).1;have e1:=λhc=>(d3 hc).2;have c9:=λhc=>x2m (hQ hc) a1.f (by omega);refine z0b ?_;refine z0e 8 h rfl rfl λa h=>z0m 9 h rfl rfl rfl λa h=>z0m 10 h rfl rfl rfl λa h=>z0d 11 rfl ?_;refine z1c h x9f rfl λj2 J b0 hz a h=>?_;obtain⟨a0,hg⟩:∃g,g=f9.heap.size:=⟨_,rfl⟩;rw[<-hg]at J h hz;have d9.gk_10:ka.gk<a0:=by have:=O.lt;omega
 have b2:g3<a0:=by have:=D.lt;omega
 have b2:g5<a0:=by have:=I.lt;omega
 have k7:=b0.size;replace hM:=hM.ext (q19.n1 b0);replace O:=O.ext b0;replace D:=D.ext b0;replace I:=I.ext b0;first|replace hQ:=BdOIf.ext hQ b0|replace hQ:=BdOIf.tf hQ b0 (OffT.one J (by decide)) (OffT.one J (by decide))
 replace hC:=hC.next b0;refine z0b ?_;refine z0d 12 rfl ?_;refine z0t h rfl rfl J rfl x5e ?_ (h1:=(by first|(simp[Value.oneCell',S];done)|exact z2r.one (m.ys.getD i yq0)));clear h a;intro g1 Z b6 hz a h;have k8:=b6.size;replace O:=O.fr b6;replace D:=D.fr b6;replace I:=I.fr b6;first|replace hQ:=BdOIf.ext hQ b6|replace hQ:=BdOIf.tf hQ b6 (OffT.one J (by decide)) (OffT.one J (by decide))
 replace hC:=hC.sp b6;clear J hz;have J:Blk g1 a0 _ [_,_]:=Z;clear Z;refine z0b ?_;refine z0d 13 rfl ?_;refine z0r h rfl λa h=>?_;refine z0b ?_;refine z0q ?_;clear hC a2 U M a3;refine bk (h.sub (L':=[(0,_),(6,_),(10,_)]) (.c3 rfl rfl rfl)) (tn (sq (sr (mv rfl (eq' rfl rfl (nn (cd rfl (λc4=>?_) (λc4=>?_))))))));have b3:¬4<(m.q.p.at o.b o.p).length+(m.q.p.at (1-o.b) (z7t o.b o.p m.rk)).length:=λe=>by rw[if_pos e]at c4;exact absurd c4 (by decide)
 replace hQ:=hQ b3;replace c9:=c9 b3;refine rg (mv rfl (z0k rfl J z5s (nlc rfl (fad rfl z3a ?_))));replace hM:=a1.ext ((((q1.n6 q2 q3 a7 a8 a4 a5).n1 a9).n1 b5).z3 q19 b0 b6);refine z5h (cs':=u3a ka { m with q:=q' }) rfl rfl hM.k (by intro u hu;simp at hu;rcases hu with rfl|rfl<;>rfl) x5e rfl (λj3 d4 f5 k9=>?_);replace hM:=hM.beds mtd (hQ.low (by omega)) d4 f5 c9;have O:=hM.k;have a1:=hM;have f1:=hM;have hF:Lw.Own z1k 87 wS.heap.size _ (slv m.fa) m.fl:=hM.f;clear d4;refine kpL [(6,_)] (.cons rfl .nil) (nl (tn (sr (mv rfl (asg rfl (nn (rt (r1 results70 rfl ?_))))))));exact⟨_,rfl,by rw[c4];exact MRet.ok (by rw[z9y,if_neg b8,if_neg (λh=>h a6),if_neg b4,if_neg b3];exact congrArg Except.ok (by have hj:y4p m.q.p o.b o.p (z7t o.b o.p m.rk)=y0t m.p o:=x2t (p:=m.p) e4.1;unfold MQ.p;simp only[e1 b3];rw[hj])) hM⟩;refine sk (tn (sr (mv rfl (asg rfl (nn (rt (r1 results70 rfl ?_)))))));replace hM:=a1.ext ((((q1.n6 q2 q3 a7 a8 a4 a5).n1 a9).n1 b5).z3 q19 b0 b6);exact⟨_,rfl,MRet.err (by rw[z9y,if_neg b8,if_neg (λh=>h a6),if_neg b4,if_pos (Classical.not_not.1 λe=>c4 (if_neg e))];rw[if_pos (Classical.not_not.1 λe=>c4 (if_neg e))]) c4 hM.fr⟩;refine z1c h x9f rfl λj4 J b9 hz a h=>?_;obtain⟨a0,hg⟩:∃g,g=e2.heap.size:=⟨_,rfl⟩;rw[<-hg]at J h hz;have d9.gk_10:ka.gk<a0:=by have:=O.lt;omega
 have b2:g3<a0:=by have:=D.lt;omega
 have b2:g5<a0:=by have:=I.lt;omega
 have l0:=b9.size;replace hM:=hM.ext b9;replace hC:=hC.next b9;refine z0b ?_;refine z0d 7 rfl ?_;refine z0n h (z0a rfl (z0a rfl (z0a rfl z0f))) (mkC func117) (by have x:=v3n m.q o.b n n2 _ hM.b.at hv (by rw[<-d1];exact hn) (by rw[<-d0];exact a6) (by rw[<-d1];exact b8);rw[<-d1,<-d0]at x;exact x) ?_;rintro _ j5 ⟨⟨q',rfl,d3⟩,q24⟩ a h;have l1:=q24.size;replace hM:=hM.ext q24;replace O:=O.ext (b9.n1 q24);replace D:=D.ext (b9.n1 q24);replace I:=I.ext (b9.n1 q24);replace J:=J.ext q24;replace hC:=hC.next q24;have hQ:BdOIf (¬4<(m.q.p.at o.b o.p).length+(m.q.p.at (1-o.b) (z7t o.b o.p m.rk)).length) 37 87 _ _ q':=λhc=>(d3 hc).1;have e1:=λhc=>(d3 hc).2;have c9:=λhc=>x2m (hQ hc) a1.f (by omega);refine z0b ?_;refine z0e 8 h rfl rfl λa h=>z0m 9 h rfl rfl rfl λa h=>z0m 10 h rfl rfl rfl λa h=>z0d 12 rfl ?_;refine z0t h rfl rfl J rfl x5e ?_ (h1:=(by first|(simp[Value.oneCell',S];done)|exact z2r.one (m.ys.getD i yq0)));clear h a;intro g4 Z b7 hz a h;have l2:=b7.size;replace O:=O.fr b7;replace D:=D.fr b7;replace I:=I.fr b7;first|replace hQ:=BdOIf.ext hQ b7|replace hQ:=BdOIf.tf hQ b7 (OffT.one J (by decide)) (OffT.one J (by decide))
 replace hC:=hC.sp b7;clear J hz;have J:Blk g4 a0 _ [_,_]:=Z;clear Z;refine z0b ?_;refine z0d 13 rfl ?_;refine z0r h rfl λa h=>?_;refine z0b ?_;refine z0q ?_;clear hC a2 U M a3;refine bk (h.sub (L':=[(0,_),(6,_),(10,_)]) (.c3 rfl rfl rfl)) (tn (sq (sr (mv rfl (eq' rfl rfl (nn (cd rfl (λc4=>?_) (λc4=>?_))))))));have b3:¬4<(m.q.p.at o.b o.p).length+(m.q.p.at (1-o.b) (z7t o.b o.p m.rk)).length:=λe=>by rw[if_pos e]at c4;exact absurd c4 (by decide)
 replace hQ:=hQ b3;replace c9:=c9 b3;refine rg (mv rfl (z0k rfl J z5s (nlc rfl (fad rfl z3a ?_))));replace hM:=a1.ext ((((q1.n6 q2 q3 a7 a8 a4 a5).n1 a9).n1 b5).z3 b9 q24 b7);refine z5h (cs':=u3a ka { m with q:=q' }) rfl rfl hM.k (by intro u hu;simp at hu;rcases hu with rfl|rfl<;>rfl) x5e rfl (λj6 d4 f6 l3=>?_);replace hM:=hM.beds mtd (hQ.low (by omega)) d4 f6 c9;have O:=hM.k;have a1:=hM;have f1:=hM;have hF:Lw.Own z1k 87 wS.heap.size _ (slv m.fa) m.fl:=hM.f;clear d4;refine kpL [(6,_)] (.cons rfl .nil) (nl (tn (sr (mv rfl (asg rfl (nn (rt (r1 results70 rfl ?_))))))));exact⟨_,rfl,by rw[c4];exact MRet.ok (by rw[z9y,if_neg b8,if_neg (λh=>h a6),if_neg b4,if_neg b3];exact congrArg Except.ok (by have hj:y4p m.q.p o.b o.p (z7t o.b o.p m.rk)=y0t m.p o:=x2t (p:=m.p) e4.1;unfold MQ.p;simp only[e1 b3];rw[hj])) hM⟩;refine sk (tn (sr (mv rfl (asg rfl (nn (rt (r1 results70 rfl ?_)))))));replace hM:=a1.ext ((((q1.n6 q2 q3 a7 a8 a4 a5).n1 a9).n1 b5).z3 b9 q24 b7);exact⟨_,rfl,MRet.err (by rw[z9y,if_neg b8,if_neg (λh=>h a6),if_neg b4,if_pos (Classical.not_not.1 λe=>c4 (if_neg e))];rw[if_pos (Classical.not_not.1 λe=>c4 (if_neg e))]) c4 hM.fr⟩
end Go.Proofs.YtpgdchkdlgkmgaaGreatDoor
namespace Go.G08
open Go.Lw Go.G21
theorem y9q {p:MSt}{y:Int}{q:Yn}(h:MInv p)(M:1<=y/\y<=6)(J:x0y q)(I:q.ct=(p.y y).ct):MInv (p.setY y q):=by
 have hl:(y-1).toNat<p.ys.length:=by rw[h.ly];omega
 refine⟨h.rk,h.B,by show (p.ys.set _ q).length=6;rw[List.length_set];exact h.ly,h.lt,λk D=>?_,h.has,h.cnt,h.all,h.cv⟩;show x0y ((p.ys.set (y-1).toNat q).getD k yn0)/\((p.ys.set (y-1).toNat q).getD k yn0).ct=z2t p.tb k;rw[z1j hl];split;rename_i e;refine⟨J,I.trans ?_⟩;have:=(h.yn k D).2;rw[<-e]at this ⊢;exact this;exact h.yn k D
theorem v5w {st:List Pa}{p:Pa}(h:y6l st)(hp:y1d p):y6l (y0b st p):=by
 unfold y0b;split;intro i M;rw[List.length_take]at M;have e:∀k,k<st.length-1->(st.take (st.length-1)).getD k pa0=st.getD k pa0:=λk O=>by
  rw[List.getD,List.getElem?_take,if_pos O,List.getD]
 obtain⟨I,J⟩:=h i (by omega);refine⟨by rw[e i (by omega)];exact I,λD=>?_⟩;rw[e i (by omega),e (i-1) (by omega)];exact J D;rename_i Z;intro i M;rw[List.length_append,List.length_singleton]at M;have e:∀k,k<st.length->(st++[p]).getD k pa0=st.getD k pa0:=λk O=>by
  rw[List.getD,List.getElem?_append_left O,List.getD]
 by_cases hl:i<st.length;obtain⟨I,J⟩:=h i hl;refine⟨by rw[e i hl];exact I,λD=>?_⟩;rw[e i hl,e (i-1) (by omega)];exact J D;obtain rfl:i=st.length:=by omega
 have U:(st++[p]).getD st.length pa0=p:=by simp[List.getD]
 refine⟨by rw[U];exact hp,λD=>?_⟩;rw[U,e (st.length-1) (by omega)];exact λhh=>Z ⟨D,hh⟩
theorem x2y:∀ {l st:List Pa},y6l st->j4k l->y6l (z4s st l)
 | [],_,h,_=>h
 | p::l,st,h,hv=>x2y (l:=l) (v5w h (hv p (by simp))) (λq D=>hv q (List.mem_cons_of_mem _ D))
theorem j5d {y:Yn}{M:Int}{l:List Pa}(h:goE y M l=0):x0y (goS y M l):=by
 unfold goE at h;split at h;exact absurd h (by assumption);rename_i I;have I:=v6h (Classical.not_not.1 I);split at h;omega;rename_i O;split at h;omega;rename_i U;split at h;omega;rename_i D;have D:y.inn=true:=by simpa using D
 split at h;omega;have J:=I.2;rw[if_pos D]at J;refine⟨I.1,?_⟩;show if y.inn=true then _ else _
 rw[if_pos D];exact⟨Classical.not_not.1 O,by show (z4s y.pe l).length<=4096;omega,x2y J.2.2 (Classical.not_not.1 U)⟩
theorem y3l (B:Bd){b n:Int}(h:z4q b n=0)(s:List LId):(B.put b n s).flat.length+(B.at b n).length=B.flat.length+s.length:=by
 have:=(List.perm_iff_count.2 (λi=>by rw[List.count_append,List.count_append];exact z4g B h s i):((B.put b n s).flat++B.at b n).Perm (B.flat++s)).length_eq;simpa using this
theorem u4i {B:Bd}(h:BdOk B){b n:Int}(hn:z4q b n=0):BdOk (B.put b n []):=h.put hn (by simp) (by simp) λi=>by
 have:=List.nodup_iff_count.1 h.nd i
 simp only[List.count_nil];omega
theorem u2d {p q:MSt}{o:MOp}(h:MInv p)(hn:z4q o.b o.p=0)(e:y5p p o=.ok q):MInv q:=by
 unfold y5p at e;split at e;cases e;cases e;refine⟨h.rk,u4i h.B hn,h.ly,h.lt,h.yn,λi I=>?_,?_,h.all,h.cv⟩;rcases y0o hn I with k|k
 cases k;exact h.has i k;have D:=y3l p.B hn [];have J:=h.cnt;show (p.B.put o.b o.p []).flat.length+(p.fa++p.B.at o.b o.p).length<=z4v p.tb;rw[List.length_append];simp only[List.length_nil]at D;omega
theorem y5v {p:MSt}{o:MOp}(h:o.b=0\/o.b=1)(i:LId):(y0t p o).count i=(p.B.at o.b o.p).count i+(p.B.at (1-o.b) (z7t o.b o.p p.rk)).count i:=by
 unfold y0t;rcases h with e|e
 rw[e,if_neg (by decide),List.count_append,show (1:Int)-0=1 from rfl];omega;rw[e,if_pos rfl,List.count_append,show (1:Int)-1=0 from rfl]
theorem u2k {p q:MSt}{o:MOp}(h:MInv p)(hn:z4q o.b o.p=0)(e:z9y p o=.ok q):MInv q:=by
 unfold z9y at e;split at e;cases e;split at e;cases e;rename_i D;have D:=Classical.not_not.1 D;split at e;cases e;split at e;cases e;rename_i h4;cases e;have hb:=(z3k hn).1;have hc:=y5v (p:=p) (o:=o) hb;have U:(y0t p o).length=(p.B.at o.b o.p).length+(p.B.at (1-o.b) (z7t o.b o.p p.rk)).length:=by
  have:=(List.perm_iff_count.2 (λi=>by rw[List.count_append];exact hc i):(y0t p o).Perm (p.B.at o.b o.p++p.B.at (1-o.b) (z7t o.b o.p p.rk))).length_eq;simpa using this
 have I:∀i∈y0t p o,i∈p.B.flat:=λi O=>by
  have J:=List.count_pos_iff.2 O;rw[hc i]at J;by_cases k:0<(p.B.at o.b o.p).count i;exact y0f (List.count_pos_iff.1 k);exact y0f (List.count_pos_iff.1 (show 0<(p.B.at (1-o.b) (z7t o.b o.p p.rk)).count i by omega))
 have M:(p.B.put o.b o.p []).at (1-o.b) (z7t o.b o.p p.rk)=p.B.at (1-o.b) (z7t o.b o.p p.rk):=by
  rw[v1y p.B hn D,if_neg (by omega)]
 have Z:=u4i h.B hn;refine⟨h.rk,Z.put D (by omega) (λi O=>h.B.nm i (I i O)) (λi=>?_),h.ly,h.lt,h.yn,λi O=>?_,?_,h.all,h.cv⟩;have J:=z4g p.B hn [] i;have h2:=List.nodup_iff_count.1 h.B.nd i;rw[M,hc i];simp only[List.count_nil]at J;omega;rcases y0o D O with k|k
 exact h.has i (I i k);rcases y0o hn k with k|k
 cases k;exact h.has i k;have J:=y3l p.B hn [];have h2:=y3l (p.B.put o.b o.p []) D (y0t p o);have h3:=h.cnt;rw[M,U]at h2;simp only[List.length_nil]at J;show ((p.B.put o.b o.p []).put (1-o.b) (z7t o.b o.p p.rk) (y0t p o)).flat.length+p.fa.length<=z4v p.tb;omega
theorem v7f {p q:MSt}{o:MOp}{th st:List LId}(h:MInv p)(hy:1<=o.y/\o.y<=6)(hn:z4q o.b o.p=0)(hs:st=[]\/(st=p.B.at o.b o.p/\st.length<4))(e:y3w p o th st=.ok q):MInv q:=by
 unfold y3w at e;split at e;cases e;rename_i Z;split at e;cases e;rename_i hc;cases e;have Z:=Classical.not_not.1 Z;obtain⟨j,hj,a5⟩:∃j:Nat,j<6/\o.y=(j:Int)+1:=⟨(o.y-1).toNat,by omega,by omega⟩;have M:(o.y-1).toNat=j:=by omega
 have J:=h.yn j hj;have a6:p.y o.y=p.ys.getD j yn0:=by unfold MSt.y;rw[M]
 rw[<-a6]at J;have a4:j<p.ys.length:=by rw[h.ly];exact hj
 have I:j<p.tb.length:=by rw[h.lt];exact hj
 have U:(p.y o.y).inn=true/\(p.y o.y).ct≠2048:=by
  unfold mkE at Z;split at Z;exact absurd Z (by assumption);split at Z;omega;rename_i D;split at Z;omega;rename_i hk;exact⟨by simpa using D,hk⟩
 have a7:=J.1.1;have O:∀i∈p.B.flat,i≠⟨o.y,(p.y o.y).ct⟩:=λi D e=>by
  have:=h.has i D;rw[e]at this;obtain⟨_,_,_,h4⟩:=this;simp only at h4;rw[M,J.2]at h4;omega
 have a0:∀i∈st,i∈p.B.flat:=λi D=>by
  rcases hs with e|⟨e,_⟩
  rw[e]at D;cases D;rw[e]at D;exact y0f D
 have a1:p.row o.y=p.tb.getD j []:=by unfold MSt.row;rw[M]
 simp only[M,a1];have a3:(st++[(⟨o.y,(p.y o.y).ct⟩:LId)]).length<=4:=by
  rw[List.length_append,List.length_singleton];rcases hs with e|⟨_,e⟩
  rw[e];simp;omega
 have a2:=y9a p.tb j (p.tb.getD j []++[(⟨o.b,(p.y o.y).nw,th,(p.y o.y).pe⟩:Lp)]) I;rw[List.length_append,List.length_singleton,show (p.tb.getD j []).length=z2t p.tb j from rfl]at a2;refine⟨h.rk,h.B.put hn a3 (λi D=>?_) (λi=>?_),by show (p.ys.set _ _).length=6;rw[List.length_set];exact h.ly,by show (p.tb.set _ _).length=6;rw[List.length_set];exact h.lt,λk hk=>?_,λi D=>?_,?_,?_,h.cv⟩;rcases List.mem_append.1 D with k|k
 exact h.B.nm i (a0 i k);rw[List.mem_singleton.1 k];unfold y2k;simp only;omega;have hd:=List.nodup_iff_count.1 h.B.nd i;rw[List.count_append,List.count_singleton];by_cases e:(⟨o.y,(p.y o.y).ct⟩:LId)=i;have h0:p.B.flat.count i=0:=List.count_eq_zero.2 λk=>O i k e.symm;have h1:st.count i=0:=List.count_eq_zero.2 λk=>O i (a0 i k) e.symm;rw[h0,h1];split<;>omega
 rw[if_neg (by simpa using e)];rcases hs with e|⟨e,_⟩
 rw[e];simp only[List.count_nil];omega;rw[e];omega;show x0y ((p.ys.set j (mkS (p.y o.y))).getD k yn0)/\((p.ys.set j (mkS (p.y o.y))).getD k yn0).ct=z2t (p.tb.set j _) k;rw[z1j a4,z9n I];by_cases e:j=k;rw[if_pos e,if_pos e];refine⟨⟨⟨by show 0<=(p.y o.y).ct+1;omega,by show (p.y o.y).ct+1<=2048;omega⟩,?_⟩,?_⟩;have h2:=J.1.2;rw[if_pos U.1]at h2;show if true=true then _ else _
 rw[if_pos rfl];exact⟨h2.1,by show ([]:List Pa).length<=4096;simp,λi D=>by simp[mkS]at D⟩;show (p.y o.y).ct+1=_;rw[J.2,List.length_append,List.length_singleton];rfl;rw[if_neg e,if_neg e];exact h.yn k hk;rcases y0o hn D with k|k
 rcases List.mem_append.1 k with k|k
 exact y9x I (h.has i (a0 i k));rw[List.mem_singleton.1 k];have:=z7y (T:=p.tb.set j (p.tb.getD j []++[(⟨o.b,(p.y o.y).nw,th,(p.y o.y).pe⟩:Lp)])) (y:=j) (n:=z2t p.tb j) (by rw[List.length_set];exact I) (by rw[z9n I,if_pos rfl,List.length_append,List.length_singleton];exact Nat.lt_succ_self _);rwa [<-a5,<-J.2]at this;exact y9x I (h.has i k);have h1:=y3l p.B hn (st++[(⟨o.y,(p.y o.y).ct⟩:LId)]);have h2:=h.cnt;have h3:st.length<=(p.B.at o.b o.p).length:=by
  rcases hs with e|⟨e,_⟩
  rw[e];simp;rw[e];exact Nat.le_refl _
 rw[List.length_append,List.length_singleton]at h1;show (p.B.put o.b o.p _).flat.length+p.fa.length<=z4v (p.tb.set j _);omega;have:=h.all;show z4v (p.tb.set j _)<=2048;omega
theorem j4r {p q:MSt}{o:MOp}(h:MInv p)(O:1<=o.y/\o.y<=6)(U:z5x o.d)(e:inM p o=.ok q):MInv q:=by
 unfold inM at e;split at e;cases e;rename_i D;cases e;have D:=Classical.not_not.1 D;refine y9q h O ?_ rfl;have I:x0y (p.y o.y):=by
  unfold enE at D;split at D;exact absurd D (by assumption);rename_i J;exact v6h (Classical.not_not.1 J)
 refine⟨I.1,?_⟩;show if true=true then _ else _
 rw[if_pos rfl];refine⟨?_,by show ([]:List Pa).length<=4096;simp,λi M=>by simp[enS]at M⟩;show v0u (if o.d=1 then 179 else -13);split<;>decide
theorem u5a {p q:MSt}{o:MOp}(h:MInv p)(M:1<=o.y/\o.y<=6)(e:v0s p o=.ok q):MInv q:=by
 unfold v0s at e;split at e;cases e;rename_i D;cases e;have D:=Classical.not_not.1 D;refine y9q h M ?_ rfl;have I:x0y (p.y o.y):=by
  unfold lvE at D;split at D;exact absurd D (by assumption);rename_i J;exact v6h (Classical.not_not.1 J)
 refine⟨I.1,?_⟩;show if false=true then _ else _
 rw[if_neg (by decide)];exact⟨rfl,rfl,rfl⟩
theorem y1m {p q:MSt}{y J en:Int}(h:MInv p)(I:1<=y/\y<=6)(e:y0g p y J en=.ok q):MInv q/\q.B=p.B/\q.rk=p.rk:=by
 unfold y0g at e;split at e;cases e;rename_i D;cases e;exact⟨y9q h I (j5d (Classical.not_not.1 D)) rfl,rfl,rfl⟩
theorem v8o {p q:MSt}{o:MOp}(h:MInv p)(D:1<=o.y/\o.y<=6)(e:y6n p o=.ok q):MInv q:=by
 unfold y6n at e;split at e;cases e;exact(y1m h D e).1
theorem v8n {p q:MSt}{o:MOp}(h:MInv p)(D:1<=o.y/\o.y<=6)(hn:z4q o.b o.p=0)(e:y3c p o=.ok q):MInv q:=by
 unfold y3c at e;split at e;cases e;split at e;cases e;rename_i r I;exact v7f (y1m h D I).1 D hn (.inl rfl) e
theorem v8q {p q:MSt}{o:MOp}(h:MInv p)(D:1<=o.y/\o.y<=6)(hn:z4q o.b o.p=0)(e:y2e p o=.ok q):MInv q:=by
 unfold y2e at e;split at e;cases e;split at e;cases e;rename_i r I;split at e;cases e;exact v7f (y1m h D I).1 D hn (.inr ⟨rfl,by omega⟩) e
theorem v7t {p:MSt}{d:Int}{y D:Yn}(e:z7g p d y=.ok D):(x0y y->x0y D)/\D.ct=y.ct:=by
 unfold z7g at e;split at e;cases e;exact⟨id,rfl⟩;split at e;cases e;rename_i I;cases e;exact⟨λ_=>j5d (Classical.not_not.1 I),rfl⟩
theorem x2z {p:MSt}{d:Int}:∀ {l l':List Yn},z4t p d l=.ok l'->l'.length=l.length/\∀k,(x0y (l.getD k yn0)->x0y (l'.getD k yn0))/\(l'.getD k yn0).ct=(l.getD k yn0).ct
 | [],l',e=>by cases e;exact⟨rfl,λk=>⟨id,rfl⟩⟩
 | y::l,l',e=>by
  unfold z4t at e
  split at e
  ·cases e
  rename_i O J
  split at e
  ·cases e
  rename_i M hl
  cases e
  obtain⟨D,I⟩:=x2z hl
  refine⟨by simp[D],λk=>?_⟩
  cases k with
  | zero=>exact v7t J
  | succ k=>simpa only[List.getD_cons_succ] using I k
def j5s (l:List Cx):Prop:=∀c∈l,-1048576<=c.n/\c.n<=1048576
theorem u5n {l l':List Cx}{c:Cx}(h:j5s l)(e:y6j l c=.ok l'):j5s l':=by
 unfold y6j at e;dsimp only at e;generalize (if 0<z7c c.a c.b then (c.b,c.a) else (c.a,c.b))=kk at e;split at e;cases e;rename_i J;split at e;cases e;intro x D;exact h x (List.mem_filter.1 D).1;cases e;intro x D;unfold y4g at D;split at D;obtain⟨z,I,rfl⟩:=List.mem_map.1 D;split;simp only;omega;exact h z I;rcases List.mem_append.1 D with k|k
 exact h x k;rw[List.mem_singleton.1 k];simp only;omega
theorem y8h:∀ {r l l':List Cx},j5s l->z4r l r=.ok l'->j5s l'
 | [],l,l',h,e=>by cases e;exact h
 | c::r,l,l',h,e=>by
  unfold z4r at e
  split at e
  ·cases e
  rename_i I D
  exact y8h (u5n h D) e
theorem x0c {p q:MSt}{d:Int}(h:MInv p)(U:-4<=p.rk+stI d/\p.rk+stI d<=4)(e:z8j p d=.ok q):MInv q/\q.rk=p.rk+stI d:=by
 unfold z8j at e;split at e;cases e;rename_i ys I;split at e;cases e;rename_i Z D;cases e;obtain⟨O,J⟩:=x2z I;exact⟨⟨U,h.B,O.trans h.ly,h.lt,λk M=>⟨(J k).1 (h.yn k M).1,(J k).2.trans (h.yn k M).2⟩,h.has,h.cnt,h.all,y8h h.cv D⟩,rfl⟩
theorem x6q {r:Int}(J:-4<=r/\r<=4):∀ {n:Nat} {p q:MSt},MInv p->z6m n p r=.ok q->MInv q
 | 0,p,q,h,e=>by cases e;exact h
 | n+1,p,q,h,e=>by
  unfold z6m at e
  split at e
  ·cases e;exact h
  rename_i I
  split at e
  ·cases e
  rename_i O D
  have M:=h.rk
  refine x6q J (x0c h ?_ D).1 e
  unfold stI
  split<;>split<;>omega
theorem x8f {p q:MSt}{o:MOp}(h:MInv p)(e:doM p o=.ok q):MInv q:=by
 unfold doM at e;split at e;cases e;rename_i O;obtain⟨_,J,D,U,I,M⟩:=y5e (Classical.not_not.1 O);unfold opM at e;split at e;exact j4r h (D (by omega)) (J (by omega)) e;split at e;exact u5a h (D (by omega)) e;split at e;exact x6q (M (by omega)) h e;split at e;exact v8n h (D (by omega)) (I (by omega)) e;split at e;exact v8q h (D (by omega)) (I (by omega)) e;split at e;exact v8o h (D (by omega)) e;split at e;exact u2k h (I (by omega)) e;exact u2d h (I (by omega)) e
end Go.G08
namespace Go.G08
open Go.Lw Go.G21
section
variable {τ:TyK} {Mt:Nat} {wS w w' w2:World} {a:MA} {m:MQ} {j:Nat} {u:SV} {q:LpQ}
theorem MkM.row (h:MkM τ Mt wS a w m)(D:MtOk τ Mt)(hj:j<6)(hq:LpO τ wS.heap.size w q)(a1:∀k∈z0x (slv q.th),k∉z0x (slv m.fa))
    (h1:Lw.Own z4i τ.L wS.heap.size w' (slv u) ((m.ts.getD j tq0).2++[q])) (f1:Fr (z0x (slv (m.ts.getD j tq0).1)) w w') (hx:slv u=slv (m.ts.getD j tq0).1\/z0x (slv u)=z0x (slv (m.ts.getD j tq0).1)\/z0x (slv u)=[w.heap.size])
    (h2:Lw.Own z3y τ.T wS.heap.size w2 a.TV (m.ts.set j (u,(m.ts.getD j tq0).2++[q]))) (f2:Fr [a.gt] w' w2):MkM τ Mt wS a w2 { m with ts:=m.ts.set j (u,(m.ts.getD j tq0).2++[q]) }:=by
  have hl:j<m.ts.length:=by rw[h.lt];exact hj
  have I:∀T,T≠τ.L->OffT w T (z0x (slv (m.ts.getD j tq0).1)):=λT U=>z6d (h.t.ins j hl) (Ne.symm U)
  have J:=z1w h.t.out f1 (I _ D.o.tl)
  have M:∀T,T≠τ.T->OffT w' T [a.gt]:=λT U=>z6d J (Ne.symm U)
  refine⟨y7v (y7v h.k f1 (I _ D.l)) f2 (M _ D.t),BdO.tf (BdO.tf h.b f1 (I _ (Ne.symm D.o.ls)) (I _ (Ne.symm D.o.li))) f2 (M _ (Ne.symm D.o.ts)) (M _ (Ne.symm D.o.ti)),
    (h.y.tf f1 (I _ D.o.yl) (I _ (Ne.symm D.o.lp))).tf f2 (M _ D.o.yt) (M _ (Ne.symm D.o.tp)),h.t.put D.o hl hq h1 f1 hx h2 f2,(h.c.tf f1 (I _ D.l)).tf f2 (M _ D.t),z1w (z1w h.f f1 (I _ (Ne.symm D.o.li))) f2 (M _ (Ne.symm D.o.ti)),h.fb,λi hi p O=>?_,h.ly,by rw[List.length_set];exact h.lt,h.gk,h.gc,(h.fr.step f1 (y7w (h.t.ins j hl) (by simp[v7q])) λk Z a0=>?_).step f2 (y7w J (by simp[v7q])) λk Z a0=>?_⟩
  · simp only at O
    rw[z1j hl]at O
    split at O
    · rcases List.mem_append.1 O with k|k
      · exact h.ft j hj p k
      · rw[List.mem_singleton.1 k];exact a1
    · exact h.ft i hi p O
  · have:=((h.t.ins j hl).blk k Z).1;omega
  · have:=(h.t.out.blk k Z).1;omega
theorem u5k {p:MSt}{o:MOp}{st:List LId}(h:MInv p)(hy:1<=o.y/\o.y<=6)(hs:st=[]\/(st=p.B.at o.b o.p/\st.length<4))(O:mkE (p.y o.y)=0) :
    (st++[(⟨o.y,(p.y o.y).ct⟩:LId)]).length<=4/\(∀i∈st++[(⟨o.y,(p.y o.y).ct⟩:LId)],y2k i)/\∀i,p.B.flat.count i+(st++[(⟨o.y,(p.y o.y).ct⟩:LId)]).count i<=(p.B.at o.b o.p).count i+1:=by
  obtain⟨j,hj,a2⟩:∃j:Nat,j<6/\o.y=(j:Int)+1:=⟨(o.y-1).toNat,by omega,by omega⟩
  have M:(o.y-1).toNat=j:=by omega
  have J:=h.yn j hj
  have a0:p.y o.y=p.ys.getD j yn0:=by unfold MSt.y;rw[M]
  rw[<-a0]at J
  have Z:(p.y o.y).inn=true/\(p.y o.y).ct≠2048:=by
    unfold mkE at O
    split at O
    · exact absurd O (by assumption)
    · split at O
      · omega
      · rename_i D
        split at O
        · omega
        · rename_i hk;exact⟨by simpa using D,hk⟩
  have a1:=J.1.1
  have I:∀i∈p.B.flat,i≠⟨o.y,(p.y o.y).ct⟩:=λi D e=>by
    have:=h.has i D
    rw[e]at this
    obtain⟨_,_,_,h4⟩:=this
    simp only at h4
    rw[M,J.2]at h4
    omega
  have U:∀i∈st,i∈p.B.flat:=λi D=>by
    rcases hs with e|⟨e,_⟩
    · rw[e]at D;cases D
    · rw[e]at D;exact y0f D
  refine⟨?_,λi D=>?_,λi=>?_⟩
  · rw[List.length_append,List.length_singleton]
    rcases hs with e|⟨_,e⟩
    · rw[e];simp
    · omega
  · rcases List.mem_append.1 D with k|k
    · exact h.B.nm i (U i k)
    · rw[List.mem_singleton.1 k];unfold y2k;simp only;omega
  · have hd:=List.nodup_iff_count.1 h.B.nd i
    rw[List.count_append,List.count_singleton]
    by_cases e:(⟨o.y,(p.y o.y).ct⟩:LId)=i
    · have h0:p.B.flat.count i=0:=List.count_eq_zero.2 λk=>I i k e.symm
      have h1:st.count i=0:=List.count_eq_zero.2 λk=>I i (U i k) e.symm
      rw[h0,h1];split<;>omega
    · rw[if_neg (by simpa using e)]
      rcases hs with e|⟨e,_⟩
      · rw[e];simp only[List.count_nil];omega
      · rw[e];omega
end
end Go.G08
namespace Go.Lw
theorem y3m {ι:Type}{pq:Option Nat}{P:Program}{ops:Array Oper}{K:Act->World->Prop}{C:World->Prop}{fu:Nat}{listed:Array Bool}{a:Act}{w:World}{ds:List Nat}{n:Nat}{L:List (Nat×Value)}(h:AgM ds a n L)(O:List (Nat×Value))(_hs:Sub O L)(D:Array Bool)(J:Nat)(M:ι->List (Nat×Value))(R:ι->World->Prop)
    (main:(∀(i:ι) U I w',U=D->AgM ds I n (O++M i)->R i w'->z0w pq P ops (z0p K) C J U I w')->z0w pq P ops (z0p K) C fu listed a w)
    (tail:∀i I w',R i w'->AgM ds I n (O++M i)->z0w pq P ops (z0p K) C J D I w'):z0w pq P ops (z0p K) C fu listed a w:=
  main λi U I w' e Z hr=>by subst e;exact tail i I w' hr Z
end Go.Lw
namespace Go.Proofs.YtpgdchkdlgkmgaaGreatDoor
open Go.Lw Go.G21 Go.G08 _root_.Go.Proofs.Tryz
theorem bo89:BuildAt prog 89 [(0,1),(1,1),(2,1),(3,1)] [(.int .u8 0),(.bool false),(.slice none 0 0),(.slice none 0 0)]:=BuildAt.struct underlying89 (λ_=>by kernel_rfl) (λ_=>by kernel_rfl)
theorem x2f:CallOf prog 63:=mkC func63
theorem v1p:CallOf prog 150:=mkC func150
theorem y2b:z0z prog 137 3 4:=λ_ _=>by kernel_rfl
theorem u8r:z0z prog 250 0 0:=λ_ _=>by kernel_rfl
theorem u9k:z0z prog 250 1 1:=λ_ _=>by kernel_rfl
theorem u5u:z0z prog 250 2 2:=λ_ _=>by kernel_rfl
theorem j7w:z1p prog 46 1:=λ_=>by kernel_rfl
theorem z3q (v:Value)(l:List LId)(w0:World)(I:Sl z1k w0 v l)(hl:l.length<=100000):Rets prog 63 #[v] w0 λr w'=>∃g,r=.slice (some ⟨g,0,none⟩) l.length l.length/\w0.heap.size<=g/\Lw.Own z1k 87 w0.heap.size w' r l/\Fr [] w0 w':=by
 obtain⟨A,c,rfl,a0,Z,U⟩:=id I;clear U;unfold maxLen at Z;refine we [(0,.slice A l.length c)] func63 rfl ntmps63 rfl (.cons rfl .nil) ?_;have J:=I;refine sr (asg rfl (nn (sr (mv rfl (lnS rfl underlying37 (z1f (m:=l.length) (c:=l.length) (id0) rfl rfl z6j y3v rfl (λO w1 a1 D M z1=>(asg rfl (nn (sr (mv rfl (mv rfl ?_))))))))))));replace I:=J.ext M;refine z7k (zs:=List.replicate l.length id0) (by rw[List.length_replicate];rfl) rfl (by rw[List.length_replicate];exact D) I (by rw[List.length_replicate]) z6j (λw2 D q2 z2=>?_);rw[List.length_replicate]at D;refine nn (sr (mv rfl (asg rfl (nn (rt (r1 results63 rfl ?_))))));exact⟨_,rfl,O,rfl,by omega,D.low (by omega),(M.z1 q2)⟩
theorem u4f (ts:List TQ)(j:Nat):(ts.getD j tq0).2.length<=z4v (z2a ts):=by
 by_cases h:j<ts.length;have k:=y9a (z2a ts) j [] (by rw[List.length_map];exact h);have e:z2t (z2a ts) j=(ts.getD j tq0).2.length:=by
  unfold z2t;rw[List.getD,List.getD,List.getElem?_map,List.getElem?_eq_getElem h];exact List.length_map ..
 rw[List.length_nil,e]at k;omega;rw[List.getD,List.getElem?_eq_none (by omega)];exact Nat.zero_le _
theorem j0x {o:MOp}{ths st:List LId}{th sn u:SV}{D:BdQ}(m:MQ)(j:Nat)(I:(o.y-1).toNat=j)(J:D.p=m.q.p.put o.b o.p (st++[(⟨o.y,(m.ys.getD j yq0).ct⟩:LId)])) :
    { m with q:=D,ys:=m.ys.set j ⟨true,(m.ys.getD j yq0).pl,(m.ys.getD j yq0).ct+1,false,sv0,[]⟩,ts:=m.ts.set j (u,(m.ts.getD j tq0).2++[(⟨o.b,(m.ys.getD j yq0).nw,th,sn,ths,(m.ys.getD j yq0).pes⟩:LpQ)]) }.p =
      { m.p with B:=m.p.B.put o.b o.p (st++[(⟨o.y,(m.ys.getD j yq0).p.ct⟩:LId)]),ys:=m.p.ys.set (o.y-1).toNat (mkS (m.ys.getD j yq0).p),tb:=m.p.tb.set (o.y-1).toNat (m.p.row o.y++[(⟨o.b,(m.ys.getD j yq0).p.nw,ths,(m.ys.getD j yq0).p.pe⟩:Lp)]) }:=by
  unfold MSt.row
  rw[I]
  have M:(z2a m.ts).getD j []=(m.ts.getD j tq0).2.map LpQ.p:=by
    rw[List.getD,List.getD,List.getElem?_map]
    cases m.ts[j]?<;>rfl
  simp only[MQ.p,J,List.map_set,M,List.map_append,List.map_cons,List.map_nil,mkS]
set_option maxHeartbeats 4000000 in
theorem v5v (wS:World)(ka:MA)(m:MQ)(o:MOp)(th:SV)(ths:List LId)(r9:Value)(st:List LId)(w0:World)(hM:MkM τd 137 wS ka w0 m)(hi:MInv m.p)(hy:1<=o.y/\o.y<=6)(hn:z4q o.b o.p=0)(g0:Lw.Own z1k 87 wS.heap.size w0 (slv th) ths)(r5:∀k∈z0x (slv th),k∉z0x (slv m.fa))(b3:Sl z1k w0 r9 st)(hs:st=[]\/(st=m.q.p.at o.b o.p/\st.length<4)):Rets prog 114 #[.pointer (some ⟨ka.gk,0,none⟩),opV o,.slice th.1 th.2.1 th.2.2,r9] w0 λr w'=>MRet τd 137 wS ka (y3w m.p o ths st) r w':=by
 have y8:=hM.fr.size;have J:=hM.k;have y2:=J.lt;have y3:=hM.ly;have o2:=hM.lt;have x7:=(hM.y.out.blk ka.gy (by simp[z0x])).2;obtain⟨j,hj,y5⟩:∃j:Nat,j<6/\o.y=(j:Int)+1:=⟨(o.y-1).toNat,by omega,by omega⟩;have p7:(o.y-1).toNat=j:=by omega
 have k9:m.p.y o.y=(m.ys.getD j yq0).p:=by rw[j2d,p7]
 obtain⟨AS,cS,rfl,y0⟩:=b3.form;have y4:=z3k hn;obtain⟨n,h7⟩:∃n:Nat,o.p=(n:Int):=⟨o.p.toNat,by omega⟩;have hv:BdOk m.q.p:=hi.B;have y7:st.length<=3:=by rcases hs with e|⟨_,e⟩;rw[e];simp;omega
 have x4:z4v (z2a m.ts)<=2048:=hi.all;have x8:=hM.gk;have q0:∀k∈z0x (slv (m.ts.getD j tq0).1),k<w0.heap.size:=λk J=>((hM.t.ins j (by rw[o2];exact hj)).blk k J).2;have j8:ka.gk∉z0x (slv th):=λhb=>g0.neB hM.k (by decide) hb;have j9:ka.gy∉z0x (slv th):=λhb=>Own.neO hM.y.out g0 (by decide) ka.gy (by simp[z0x]) hb;have k0:∀k∈z0x (slv th),k<w0.heap.size:=λk J=>(g0.blk k J).2;refine we [(0,.pointer (some ⟨ka.gk,0,none⟩)),(1,opV o),(2,.slice th.1 th.2.1 th.2.2),(3,.slice AS st.length cS)] func114 rfl ntmps114 rfl (.c4 rfl rfl rfl rfl) ?_;have h4:=hM;have r4:=b3;refine sr (bx rfl rfl rfl (λg5 w1 y1 I q1 z1=>(asg rfl (nn ?_))));refine jn (ι:=Nat×Nat) [(0,_),(2,_),(3,_),(5,_)] (λp=>[(9,.pointer (some ⟨p.1,0,none⟩)),(10,.pointer (some ⟨p.2,0,none⟩)),(11,.int .i64 (mkE (m.ys.getD j yq0).p))]) (λp w'=>Fr [] w1 w'/\∃(qn:YQ) (d9:Int) (e0:Bool) (sn:SV) (b8:List Pa),(w1.heap.size<=p.1/\w1.heap.size<=p.2/\((mkE (m.ys.getD j yq0).p)=0->qn=(⟨true,(m.ys.getD j yq0).pl,(m.ys.getD j yq0).ct+1,false,sv0,[]⟩:YQ)/\d9=(m.ys.getD j yq0).ct/\e0=(m.ys.getD j yq0).nw/\b8=(m.ys.getD j yq0).pes))/\Blk w' p.1 82 (z2r.enc qn)/\Blk w' p.2 250 [.int .i64 d9,.bool e0,.slice sn.1 sn.2.1 sn.2.2]/\OwnIf ((mkE (m.ys.getD j yq0).p)=0) z1r 100 (max wS.heap.size w1.heap.size) w' (slv sn) b8) (.c4 rfl rfl rfl rfl) ?_ ?_;replace hM:=h4.ext q1;intro a h;refine z0i none (λwb w'=>Fr [] wb w') z2o ?_;intro w2 q2;have z2:=q2.size;replace hM:=hM.ext q2;replace J:=J.ext (q1.n1 q2);replace I:=I.ext q2;have hC:Fr [] w2 w2:=Fr.refl _ _;have b9:=hM;have b6:=J;have b0:=I;refine y3m (ι:=(Nat×Nat)×YQ×(Int×Bool)×SV×List Pa) h [(0,_),(2,_),(3,_),(5,_)] (.c4 rfl rfl rfl rfl) #[true,true,true,true,true,true,true,true,true,true,true,true,true,true,true,true,false,false,false] 3 (λp=>[(9,.pointer (some ⟨p.1.1,0,none⟩)),(10,.pointer (some ⟨p.1.2,0,none⟩)),(26,.agg #[.bool p.2.1.inn,.int .i64 p.2.1.pl,.int .i64 p.2.1.ct,.bool p.2.1.nw,.slice p.2.1.pe.1 p.2.1.pe.2.1 p.2.1.pe.2.2]),(27,.agg #[.int .i64 p.2.2.1.1,.bool p.2.2.1.2,.slice p.2.2.2.1.1 p.2.2.2.1.2.1 p.2.2.2.1.2.2]),(28,.int .i64 (mkE (m.ys.getD j yq0).p))]) (λp w'=>Fr [] w2 w'/\(w2.heap.size<=p.1.1/\w2.heap.size<=p.1.2/\p.1.1≠p.1.2)/\((mkE (m.ys.getD j yq0).p)=0->p.2.1=(⟨true,(m.ys.getD j yq0).pl,(m.ys.getD j yq0).ct+1,false,sv0,[]⟩:YQ)/\p.2.2.1.1=(m.ys.getD j yq0).ct/\p.2.2.1.2=(m.ys.getD j yq0).nw/\p.2.2.2.2=(m.ys.getD j yq0).pes/\p.1.1∉z0x (slv p.2.2.2.1)/\p.1.2∉z0x (slv p.2.2.2.1))/\Blk w' p.1.1 82 [.bool false,.int .i64 0,.int .i64 0,.bool false,.slice none 0 0]/\Blk w' p.1.2 250 [.int .i64 0,.bool false,.slice none 0 0]/\OwnIf ((mkE (m.ys.getD j yq0).p)=0) z1r 100 (max wS.heap.size w2.heap.size) w' (slv p.2.2.2.1) p.2.2.2.2) (λe8=>?_) ?_;refine z0e 0 h rfl rfl λa h=>z0o 1 h rfl rfl λa h=>z0c 2 h rfl z2z rfl λa h=>z0l 3 h rfl (λ_ hw=>b6.ext hw) rfl y0i rfl λa h=>z0c 4 h rfl z3e rfl λa h=>z0l 5 h rfl (λ_ hw=>b0.ext hw) rfl na5 rfl λa h=>z3b 6 h wn rfl rfl (by first|exact IntWalk.u8_in _ (by omega)|rfl) rfl λa h=>z1h (p:=j) (yq0) 7 h rfl hM.y.out.sl rfl y1f rfl λx2 p4 a h=>z1y (cs:=z2r.enc (m.ys.getD j yq0)) 8 h wn rfl (λ_ hw=>p4 _ (b9.ext hw).y.out.sl) z6f rfl λa h=>x7t 9 14 15 (by kernel_rfl) rfl rfl rfl ?_ ?_ ?_;refine z0n h (z0a rfl z0f) v1p (y0w (m.ys.getD j yq0) _ (hM.y.ins j (by omega)).sl (λk J=>((hM.y.ins j (by omega)).blk k J).2)) ?_;rintro _ w3 ⟨qn,d9,e0,sn,b8,rfl,a4,q3⟩ a h;have z3:=q3.size;replace hM:=hM.ext q3;replace J:=J.ext q3;replace I:=I.ext q3;replace hC:=hC.next q3;have M:OwnIf ((mkE (m.ys.getD j yq0).p)=0) z1r 100 _ _ (slv sn) b8:=λhc=>(a4 hc).2.2.2.2;have d7:=λhc k J=>((M hc).blk k J).2;refine z0b ?_;refine z0e 10 h rfl rfl λa h=>z0m 11 h rfl rfl rfl λa h=>z0m 12 h rfl rfl rfl λa h=>z0m 13 h rfl rfl rfl λa h=>z2d 14 15 (by kernel_rfl) rfl rfl ?_ ?_;refine z1c h y1g rfl λw4 O q4 hz a h=>?_;obtain⟨a9,hg⟩:∃g,g=w3.heap.size:=⟨_,rfl⟩;rw[<-hg]at O h hz;have b7.gk_9:ka.gk<a9:=by have:=J.lt;omega
 have h6:g5<a9:=by have:=I.lt;omega
 have z4:=q4.size;replace J:=J.ext q4;replace I:=I.ext q4;replace hC:=hC.next q4;refine z0b ?_;refine z0d 15 rfl ?_;refine z1c h x2n rfl λw5 D q5 hz a h=>?_;obtain⟨a5,hg⟩:∃g,g=w4.heap.size:=⟨_,rfl⟩;rw[<-hg]at D h hz;have b7.gk_10:ka.gk<a5:=by have:=J.lt;omega
 have f5:g5<a5:=by have:=I.lt;omega
 have i5:a9<a5:=by have:=O.lt;omega
 have z5:=q5.size;replace M:=M.ext (q4.n1 q5);replace O:=O.ext q5;replace hC:=hC.next q5;refine z0b ?_;exact e8 ((a9,a5),qn,(d9,e0),sn,b8) _ _ _ (by kernel_rfl) (h.sub (.d8 rfl rfl rfl rfl rfl rfl rfl rfl (.cons rfl .nil))) ⟨hC,⟨by simp only;omega,by simp only;omega,by simp only;omega⟩,(λe=>⟨(a4 e).1,(a4 e).2.1,(a4 e).2.2.1,(a4 e).2.2.2.1,(λa1=>by have b5:=d7 e _ a1;have a8:=(M e).blk _ a1;simp only at b5 a8;omega),(λa1=>by have b5:=d7 e _ a1;have a8:=(M e).blk _ a1;simp only at b5 a8;omega)⟩),O,D,(λe=>(M e).low (by omega))⟩;refine z1c h x2n rfl λw6 D q6 hz a h=>?_;obtain⟨a5,hg⟩:∃g,g=w3.heap.size:=⟨_,rfl⟩;rw[<-hg]at D h hz;have b7.gk_10:ka.gk<a5:=by have:=J.lt;omega
 have f5:g5<a5:=by have:=I.lt;omega
 have z6:=q6.size;replace J:=J.ext q6;replace I:=I.ext q6;replace hC:=hC.next q6;refine z0b ?_;refine z0d 14 rfl ?_;refine z1c h y1g rfl λw7 O q7 hz a h=>?_;obtain⟨a9,hg⟩:∃g,g=w6.heap.size:=⟨_,rfl⟩;rw[<-hg]at O h hz;have b7.gk_9:ka.gk<a9:=by have:=J.lt;omega
 have h6:g5<a9:=by have:=I.lt;omega
 have i4:a5<a9:=by have:=D.lt;omega
 have z7:=q7.size;replace M:=M.ext (q6.n1 q7);replace D:=D.ext q7;replace hC:=hC.next q7;refine z0b ?_;exact e8 ((a9,a5),qn,(d9,e0),sn,b8) _ _ _ (by kernel_rfl) (h.sub (.d8 rfl rfl rfl rfl rfl rfl rfl rfl (.cons rfl .nil))) ⟨hC,⟨by simp only;omega,by simp only;omega,by simp only;omega⟩,(λe=>⟨(a4 e).1,(a4 e).2.1,(a4 e).2.2.1,(a4 e).2.2.2.1,(λa1=>by have b5:=d7 e _ a1;have a8:=(M e).blk _ a1;simp only at b5 a8;omega),(λa1=>by have b5:=d7 e _ a1;have a8:=(M e).blk _ a1;simp only at b5 a8;omega)⟩),O,D,(λe=>(M e).low (by omega))⟩;refine z1c h y1g rfl λw8 O q8 hz a h=>?_;obtain⟨a9,hg⟩:∃g,g=w2.heap.size:=⟨_,rfl⟩;rw[<-hg]at O h hz;have b7.gk_9:ka.gk<a9:=by have:=J.lt;omega
 have h6:g5<a9:=by have:=I.lt;omega
 have z8:=q8.size;replace hM:=hM.ext q8;replace J:=J.ext q8;replace I:=I.ext q8;replace hC:=hC.next q8;refine z0b ?_;refine z2d 9 15 (by kernel_rfl) rfl rfl ?_ ?_;refine z0n h (z0a rfl z0f) v1p (y0w (m.ys.getD j yq0) _ (hM.y.ins j (by omega)).sl (λk J=>((hM.y.ins j (by omega)).blk k J).2)) ?_;rintro _ w9 ⟨qn,d9,e0,sn,b8,rfl,a4,q9⟩ a h;have z9:=q9.size;replace J:=J.ext q9;replace I:=I.ext q9;replace O:=O.ext q9;replace hC:=hC.next q9;have M:OwnIf ((mkE (m.ys.getD j yq0).p)=0) z1r 100 _ _ (slv sn) b8:=λhc=>(a4 hc).2.2.2.2;have d7:=λhc k J=>((M hc).blk k J).2;refine z0b ?_;refine z0e 10 h rfl rfl λa h=>z0m 11 h rfl rfl rfl λa h=>z0m 12 h rfl rfl rfl λa h=>z0m 13 h rfl rfl rfl λa h=>z0d 15 rfl ?_;refine z1c h x2n rfl λA0 D m5 hz a h=>?_;obtain⟨a5,hg⟩:∃g,g=w9.heap.size:=⟨_,rfl⟩;rw[<-hg]at D h hz;have b7.gk_10:ka.gk<a5:=by have:=J.lt;omega
 have f5:g5<a5:=by have:=I.lt;omega
 have i5:a9<a5:=by have:=O.lt;omega
 have D4:=m5.size;replace O:=O.ext m5;replace M:=M.ext m5;replace hC:=hC.next m5;refine z0b ?_;exact e8 ((a9,a5),qn,(d9,e0),sn,b8) _ _ _ (by kernel_rfl) (h.sub (.d8 rfl rfl rfl rfl rfl rfl rfl rfl (.cons rfl .nil))) ⟨hC,⟨by simp only;omega,by simp only;omega,by simp only;omega⟩,(λe=>⟨(a4 e).1,(a4 e).2.1,(a4 e).2.2.1,(a4 e).2.2.2.1,(λa1=>by have b5:=d7 e _ a1;have a8:=(M e).blk _ a1;simp only at b5 a8;omega),(λa1=>by have b5:=d7 e _ a1;have a8:=(M e).blk _ a1;simp only at b5 a8;omega)⟩),O,D,(λe=>(M e).low (by omega))⟩;refine z1c h x2n rfl λA1 D l3 hz a h=>?_;obtain⟨a5,hg⟩:∃g,g=w8.heap.size:=⟨_,rfl⟩;rw[<-hg]at D h hz;have b7.gk_10:ka.gk<a5:=by have:=J.lt;omega
 have f5:g5<a5:=by have:=I.lt;omega
 have i5:a9<a5:=by have:=O.lt;omega
 have D5:=l3.size;replace hM:=hM.ext l3;replace J:=J.ext l3;replace hC:=hC.next l3;refine z0b ?_;refine z0d 9 rfl ?_;refine z0n h (z0a rfl z0f) v1p (y0w (m.ys.getD j yq0) _ (hM.y.ins j (by omega)).sl (λk J=>((hM.y.ins j (by omega)).blk k J).2)) ?_;rintro _ A2 ⟨qn,d9,e0,sn,b8,rfl,a4,l4⟩ a h;have D6:=l4.size;replace J:=J.ext l4;replace O:=O.ext (l3.n1 l4);replace D:=D.ext l4;replace hC:=hC.next l4;have M:OwnIf ((mkE (m.ys.getD j yq0).p)=0) z1r 100 _ _ (slv sn) b8:=λhc=>(a4 hc).2.2.2.2;have d7:=λhc k J=>((M hc).blk k J).2;refine z0b ?_;refine z0e 10 h rfl rfl λa h=>z0m 11 h rfl rfl rfl λa h=>z0m 12 h rfl rfl rfl λa h=>z0m 13 h rfl rfl rfl λa h=>?_;exact e8 ((a9,a5),qn,(d9,e0),sn,b8) _ _ _ (by kernel_rfl) (h.sub (.d8 rfl rfl rfl rfl rfl rfl rfl rfl (.cons rfl .nil))) ⟨hC,⟨by simp only;omega,by simp only;omega,by simp only;omega⟩,(λe=>⟨(a4 e).1,(a4 e).2.1,(a4 e).2.2.1,(a4 e).2.2.2.1,(λa1=>by have b5:=d7 e _ a1;have a8:=(M e).blk _ a1;simp only at b5 a8;omega),(λa1=>by have b5:=d7 e _ a1;have a8:=(M e).blk _ a1;simp only at b5 a8;omega)⟩),O,D,(λe=>(M e).low (by omega))⟩;refine z1c h x2n rfl λu2 D l5 hz a h=>?_;obtain⟨a5,hg⟩:∃g,g=w2.heap.size:=⟨_,rfl⟩;rw[<-hg]at D h hz;have b7.gk_10:ka.gk<a5:=by have:=J.lt;omega
 have f5:g5<a5:=by have:=I.lt;omega
 have D7:=l5.size;replace hM:=hM.ext l5;replace J:=J.ext l5;replace I:=I.ext l5;replace hC:=hC.next l5;refine z0b ?_;refine z2d 9 14 (by kernel_rfl) rfl rfl ?_ ?_;refine z0n h (z0a rfl z0f) v1p (y0w (m.ys.getD j yq0) _ (hM.y.ins j (by omega)).sl (λk J=>((hM.y.ins j (by omega)).blk k J).2)) ?_;rintro _ u3 ⟨qn,d9,e0,sn,b8,rfl,a4,l6⟩ a h;have D8:=l6.size;replace J:=J.ext l6;replace I:=I.ext l6;replace D:=D.ext l6;replace hC:=hC.next l6;have M:OwnIf ((mkE (m.ys.getD j yq0).p)=0) z1r 100 _ _ (slv sn) b8:=λhc=>(a4 hc).2.2.2.2;have d7:=λhc k J=>((M hc).blk k J).2;refine z0b ?_;refine z0e 10 h rfl rfl λa h=>z0m 11 h rfl rfl rfl λa h=>z0m 12 h rfl rfl rfl λa h=>z0m 13 h rfl rfl rfl λa h=>z0d 14 rfl ?_;refine z1c h y1g rfl λA3 O m6 hz a h=>?_;obtain⟨a9,hg⟩:∃g,g=u3.heap.size:=⟨_,rfl⟩;rw[<-hg]at O h hz;have b7.gk_9:ka.gk<a9:=by have:=J.lt;omega
 have h6:g5<a9:=by have:=I.lt;omega
 have i4:a5<a9:=by have:=D.lt;omega
 have D9:=m6.size;replace D:=D.ext m6;replace M:=M.ext m6;replace hC:=hC.next m6;refine z0b ?_;exact e8 ((a9,a5),qn,(d9,e0),sn,b8) _ _ _ (by kernel_rfl) (h.sub (.d8 rfl rfl rfl rfl rfl rfl rfl rfl (.cons rfl .nil))) ⟨hC,⟨by simp only;omega,by simp only;omega,by simp only;omega⟩,(λe=>⟨(a4 e).1,(a4 e).2.1,(a4 e).2.2.1,(a4 e).2.2.2.1,(λa1=>by have b5:=d7 e _ a1;have a8:=(M e).blk _ a1;simp only at b5 a8;omega),(λa1=>by have b5:=d7 e _ a1;have a8:=(M e).blk _ a1;simp only at b5 a8;omega)⟩),O,D,(λe=>(M e).low (by omega))⟩;refine z1c h y1g rfl λA4 O k3 hz a h=>?_;obtain⟨a9,hg⟩:∃g,g=u2.heap.size:=⟨_,rfl⟩;rw[<-hg]at O h hz;have b7.gk_9:ka.gk<a9:=by have:=J.lt;omega
 have h6:g5<a9:=by have:=I.lt;omega
 have i4:a5<a9:=by have:=D.lt;omega
 have E0:=k3.size;replace hM:=hM.ext k3;replace J:=J.ext k3;replace I:=I.ext k3;replace D:=D.ext k3;replace hC:=hC.next k3;refine z0b ?_;refine z0d 9 rfl ?_;refine z0n h (z0a rfl z0f) v1p (y0w (m.ys.getD j yq0) _ (hM.y.ins j (by omega)).sl (λk J=>((hM.y.ins j (by omega)).blk k J).2)) ?_;rintro _ A5 ⟨qn,d9,e0,sn,b8,rfl,a4,hq⟩ a h;have E1:=hq.size;replace hM:=hM.ext hq;replace J:=J.ext hq;replace I:=I.ext hq;replace D:=D.ext hq;replace O:=O.ext hq;replace hC:=hC.next hq;have y9:=hq;have M:OwnIf ((mkE (m.ys.getD j yq0).p)=0) z1r 100 _ _ (slv sn) b8:=λhc=>(a4 hc).2.2.2.2;have d7:=λhc k J=>((M hc).blk k J).2;refine z0b ?_;refine z0e 10 h rfl rfl λa h=>z0m 11 h rfl rfl rfl λa h=>z0m 12 h rfl rfl rfl λa h=>z0m 13 h rfl rfl rfl λa h=>?_;exact e8 ((a9,a5),qn,(d9,e0),sn,b8) _ _ _ (by kernel_rfl) (h.sub (.d8 rfl rfl rfl rfl rfl rfl rfl rfl (.cons rfl .nil))) ⟨hC,⟨by simp only;omega,by simp only;omega,by simp only;omega⟩,(λe=>⟨(a4 e).1,(a4 e).2.1,(a4 e).2.2.1,(a4 e).2.2.2.1,(λa1=>by have b5:=d7 e _ a1;have a8:=(M e).blk _ a1;simp only at b5 a8;omega),(λa1=>by have b5:=d7 e _ a1;have a8:=(M e).blk _ a1;simp only at b5 a8;omega)⟩),O,D,(λe=>(M e).low (by omega))⟩;rintro⟨⟨a9,a5⟩,qn,⟨d9,e0⟩,sn,b8⟩ a w18 ⟨hC,⟨o7,l0,hz910⟩,a4,O,D,M⟩ h;simp only at o7 l0 hz910 a4 O D M;have m7:=hC;have E2:=m7.size;replace J:=J.ext m7;replace I:=I.ext m7;refine z0d 16 rfl ?_;refine z0t h rfl rfl O rfl z6s ?_ (h1:=(by first|(simp[Value.oneCell',S];done)|exact z2r.one (m.ys.getD j yq0)));clear h a;intro u4 i3 j3 hz a h;have E3:=j3.size;replace J:=J.fr j3;replace I:=I.fr j3;replace D:=D.fr j3;replace M:=M.fr j3 (by intro k7 k J a1;simp at J;subst J;first|exact(a4 k7).2.2.2.2.1 a1|exact(a4 k7).2.2.2.2.2 a1);replace hC:=hC.sp j3;clear O hz;have O:Blk u4 a9 _ [_,_,_,_,_]:=i3;clear i3;refine z0b ?_;refine z0d 17 rfl ?_;refine z0t h rfl rfl D rfl x1t ?_ (h1:=(by first|(simp[Value.oneCell',S];done)|exact z2r.one (m.ys.getD j yq0)));clear h a;intro u5 i3 j4 hz a h;have E4:=j4.size;replace J:=J.fr j4;replace I:=I.fr j4;replace O:=O.fr j4;replace M:=M.fr j4 (by intro k7 k J a1;simp at J;subst J;first|exact(a4 k7).2.2.2.2.1 a1|exact(a4 k7).2.2.2.2.2 a1);replace hC:=hC.sp j4;clear D hz;have D:Blk u5 a5 _ [_,_,_]:=i3;clear i3;refine z0b ?_;refine z0d 18 rfl ?_;refine z0r h rfl λa h=>?_;refine z0b ?_;refine z0q ?_;clear hC b9 b6 b0;refine bk (h.sub (L':=[(0,_),(2,_),(3,_),(5,_),(9,_),(10,_),(11,_)]) (.c7 rfl rfl rfl rfl rfl rfl rfl)) ?_;exact jE ((a9,a5)) (.c7 rfl rfl rfl rfl rfl rfl rfl) ⟨(q2.z3 m7 j3 j4),⟨qn,d9,e0,sn,b8,⟨by simp only;omega,by simp only;omega,λe=>⟨(a4 e).1,(a4 e).2.1,(a4 e).2.2.1,(a4 e).2.2.2.1⟩⟩,O,D,λe=>(M e).low (by omega)⟩⟩;rintro⟨g9,e9⟩ A6 ⟨g8,⟨qn,d9,e0,sn,b8,⟨o7,l0,a4⟩,O,D,M⟩⟩;have E5:=g8.size;have s3:=O.lt;have r7:=D.lt;simp only at o7 l0 O D;refine kpC [(0,_),(2,_),(3,_),(5,_),(9,.pointer (some ⟨g9,0,none⟩)),(10,.pointer (some ⟨e9,0,none⟩)),(11,.int .i64 (mkE (m.ys.getD j yq0).p))] (.c7 rfl rfl rfl rfl rfl rfl rfl) (sq (sr (mv rfl (ne' rfl rfl (nn (cd rfl (λc0=>?_) (λc0=>?_)))))));refine sr (mv rfl (asg rfl (kpL [(8,_)] (.cons rfl .nil) (nn (rt (tr (r1 results114 rfl ?_)))))));replace hM:=h4.ext (q1.n1 g8);exact⟨_,rfl,MRet.err (by unfold y3w;rw[k9,if_pos c0]) c0 hM.fr⟩;replace J:=J.ext (q1.n1 g8);have k8:(mkE (m.ys.getD j yq0).p)=0:=Classical.not_not.1 c0;obtain⟨rfl,rfl,rfl,rfl⟩:=a4 k8;replace M:=M k8;have f7:=λk J=>(M.blk k J).2;obtain⟨m0,m2,m1⟩:=u5k hi hy hs (by rw[k9];exact k8);rw[k9]at m0 m2 m1;refine sk (tn (sq (sr (mv rfl (nlc rfl (fad rfl y2b (z0g rfl J rfl x3m ?_)))))));replace hM:=h4.ext (q1.n1 g8);refine cl (ev1 rfl) (mkC func151) (y3e _ m.ts _ hM.t.at.1 hM.t.at.2 (by omega)) rfl ?_;rintro _ A7 ⟨rfl,e4⟩;have E6:=e4.size;refine ge' rfl rfl (kpL [(0,_),(2,_),(3,_),(5,_),(9,_),(10,_),(37,_)] (.c7 rfl rfl rfl rfl rfl rfl rfl) (nn (cd rfl (λc1=>?_) (λc1=>?_))));refine sr (asg rfl (kpL [(8,_)] (.cons rfl .nil) (nn (rt (tr (r1 results114 rfl ?_))))));replace hM:=h4.ext (q1.n2 g8 e4);exact⟨_,rfl,MRet.err (by unfold y3w;rw[k9,if_neg (λe=>e k8),if_pos (show 2048<=z4v m.p.tb by have:m.p.tb=z2a m.ts:=rfl;rw[this];omega)]) (by decide) hM.fr⟩;refine sk (tn (sr (fad rfl z3e ?_)));replace I:=I.ext (g8.n1 e4);refine z0g rfl I rfl na5 (fad rfl u8r ?_);replace D:=D.ext e4;refine z0g rfl D rfl na3 (z1v (cs:=[_,_]) (ev2 rfl rfl) j1p (z0h rfl rfl rfl (z0h rfl rfl rfl z0s)) rfl ?_);refine al y3v rfl rfl (λf6 A8 x5 a3 f1 E7=>?_);refine z0j (vs:=[_,_]) rfl rfl a3 y1u (λA9 a3 f2 E8=>?_) (h1:=(by first|(simp[Value.oneCell',S];done)|exact z2r.one (m.ys.getD j yq0)));refine kpL [(0,_),(2,_),(3,_),(5,_),(9,_),(10,_),(12,_)] (.c7 rfl rfl rfl rfl rfl rfl rfl) (nn (sr (fad rfl z4h (x3p rfl z6t rfl ?_))));replace I:=(I.ext f1).fr f2;refine z0g rfl I rfl x1z (fad rfl u9k ?_);replace D:=(D.ext f1).fr f2;refine z0g rfl D rfl na4 (mv rfl (fad rfl u5u (z0g rfl D rfl y3f (z1v (cs:=[_,_,_,_]) (ev4 rfl rfl rfl rfl) bo89 (z0h rfl rfl rfl (z0h rfl rfl rfl (z0h rfl rfl rfl (z0h rfl rfl rfl z0s)))) rfl ?_))));refine al v7p rfl rfl (λf0 B0 x6 Z e5 E9=>?_);refine z0j (vs:=[_,_,_,_]) rfl rfl Z v8x (λp0 Z e6 F0=>?_) (h1:=(by first|(simp[Value.oneCell',S];done)|exact z2r.one (m.ys.getD j yq0)));refine kpL [(0,_),(3,_),(5,_),(9,_),(12,_),(13,_)] (.c6 rfl rfl rfl rfl rfl rfl) (nn ?_);refine jn (ι:=Nat) [(0,_),(5,_),(9,_),(13,_)] (λg_=>[(14,.pointer (some ⟨g_,0,none⟩)),(11,.int .i64 0)]) (λg_ w'=>Fr [] p0 w'/\∃q':BdQ,(p0.heap.size<=g_/\q'.p=m.q.p.put o.b o.p (st++[(⟨o.y,(m.ys.getD j yq0).ct⟩:LId)]))/\Blk w' g_ 32 (bdL q')/\BdO 37 87 (max wS.heap.size p0.heap.size) w' q') (.c4 rfl rfl rfl rfl) ?_ ?_;replace hM:=h4.ext (q1.z6 g8 e4 f1 f2 e5 e6);replace J:=(((J.ext (e4.n1 f1)).fr f2).ext e5).fr e6;replace b3:=r4.ext (q1.z6 g8 e4 f1 f2 e5 e6);replace I:=(I.ext e5).fr e6;replace O:=(((O.ext (e4.n1 f1)).fr f2).ext e5).fr e6;replace D:=(D.ext e5).fr e6;replace M:=(((M.ext (e4.n1 f1)).fr f2 (by intro k J a1;simp at J;subst J;have a8:=M.blk _ a1;have k2:=f7 _ a1;omega)).ext e5).fr e6 (by intro k J a1;simp at J;subst J;have a8:=M.blk _ a1;have k2:=f7 _ a1;omega);replace a3:=(a3.ext e5).fr e6;intro a h;refine z0i none (λwb w'=>Fr [] wb w') z2o ?_;intro d4 g1;have F1:=g1.size;replace hM:=hM.ext g1;replace J:=J.ext g1;replace b3:=b3.ext g1;replace I:=I.ext g1;replace O:=O.ext g1;replace D:=D.ext g1;replace M:=M.ext g1;replace a3:=a3.ext g1;replace Z:=Z.ext g1;have hC:Fr [] d4 d4:=Fr.refl _ _;have b9:=hM;have b6:=J;have o5:=b3;have b0:=I;have h5:=O;have l9:=D;have f9:=M;have j6:=a3;have d5:=Z;refine y3m (ι:=Nat×BdQ) h [(0,_),(3,_),(5,_),(9,_),(12,_),(13,_)] (.c6 rfl rfl rfl rfl rfl rfl) #[true,true,true,true,true,true,true,true,true,true,true,true,true,true,true,true,false,false] 2 (λp=>[(14,.pointer (some ⟨p.1,0,none⟩)),(65,.agg #[.slice p.2.f.1 p.2.f.2.1 p.2.f.2.2,.slice p.2.b.1 p.2.b.2.1 p.2.b.2.2]),(66,.int .i64 0)]) (λp w'=>Fr [] d4 w'/\(d4.heap.size<=p.1/\p.2.p=m.q.p.put o.b o.p (st++[(⟨o.y,(m.ys.getD j yq0).ct⟩:LId)]))/\Blk w' p.1 32 [.slice none 0 0,.slice none 0 0]/\BdO 37 87 (max wS.heap.size d4.heap.size) w' p.2) (λj2=>?_) ?_;refine y3m (ι:=(Nat×Nat)×Nat) h [(0,_),(3,_),(5,_),(9,_),(12,_),(13,_)] (.c6 rfl rfl rfl rfl rfl rfl) #[true,true,true,true,true,true,true,true,true,true,false,false,false,false,false,true,false,false] 7 (λp=>[(56,.agg #[.slice m.q.f.1 m.q.f.2.1 m.q.f.2.2,.slice m.q.b.1 m.q.b.2.1 m.q.b.2.2]),(58,.agg #[.int .u8 o.b,.int .i64 o.p]),(60,.slice (some ⟨p.1.1,0,none⟩) st.length st.length),(62,.slice (some ⟨p.1.2,0,none⟩) 1 1),(14,.pointer (some ⟨p.2,0,none⟩))]) (λp w'=>Fr [] d4 w'/\(d4.heap.size<=p.1.1/\d4.heap.size<=p.1.2)/\Lw.Own z1k 87 d4.heap.size w' (.slice (some ⟨p.1.1,0,none⟩) st.length st.length) st/\Lw.Own z1k 87 d4.heap.size w' (.slice (some ⟨p.1.2,0,none⟩) 1 1) [(⟨o.y,(m.ys.getD j yq0).ct⟩:LId)]/\d4.heap.size<=p.2/\Blk w' p.2 32 [.slice none 0 0,.slice none 0 0]) (λf8=>?_) ?_;refine y3m (ι:=Nat×Nat) h [(0,_),(3,_),(5,_),(9,_),(12,_),(13,_)] (.c6 rfl rfl rfl rfl rfl rfl) #[true,true,true,true,true,true,true,true,true,true,false,false,false,false,false,false,false,false] 8 (λp=>[(56,.agg #[.slice m.q.f.1 m.q.f.2.1 m.q.f.2.2,.slice m.q.b.1 m.q.b.2.1 m.q.b.2.2]),(58,.agg #[.int .u8 o.b,.int .i64 o.p]),(60,.slice (some ⟨p.1,0,none⟩) st.length st.length),(62,.slice (some ⟨p.2,0,none⟩) 1 1)]) (λp w'=>Fr [] d4 w'/\(d4.heap.size<=p.1/\d4.heap.size<=p.2)/\Lw.Own z1k 87 d4.heap.size w' (.slice (some ⟨p.1,0,none⟩) st.length st.length) st/\Lw.Own z1k 87 d4.heap.size w' (.slice (some ⟨p.2,0,none⟩) 1 1) [(⟨o.y,(m.ys.getD j yq0).ct⟩:LId)]) (λk6=>?_) ?_;refine z0e 0 h rfl rfl λa h=>z0o 1 h rfl rfl λa h=>z0c 2 h rfl z3a rfl λa h=>z1e (vs:=[_,_]) 3 h rfl (λ_ hw=>(b6.ext hw)) z5s rfl rfl λa h=>z0c 4 h rfl z4h rfl λa h=>z1e (vs:=[_,_]) 5 h rfl (λ_ hw=>(b0.ext hw)) z5z rfl rfl λa h=>z0e 6 h rfl rfl λa h=>z0y 8 h rfl (λ_ hw=>j6.ext hw) z3o rfl λa h=>x7t 7 9 15 (by kernel_rfl) rfl rfl rfl ?_ ?_ ?_;refine z0n h (z0a rfl z0f) x2f (z3q _ st _ b3 (by omega)) ?_;rintro _ u6 ⟨e7,rfl,j7,hX,g3⟩ a h;have F2:=g3.size;replace hM:=hM.ext g3;replace J:=J.ext g3;replace b3:=b3.ext g3;replace I:=I.ext g3;replace O:=O.ext g3;replace D:=D.ext g3;replace M:=M.ext g3;replace a3:=a3.ext g3;replace Z:=Z.ext g3;replace hC:=hC.next g3;have i2:=λk J=>(hX.blk k J).2;refine z0b ?_;refine z2d 9 15 (by kernel_rfl) rfl rfl ?_ ?_;refine z3c ([(⟨o.y,(m.ys.getD j yq0).ct⟩:LId)]) h (z0a rfl z0f) rfl rfl rfl z6j λa2 B1 hg a6 o8 hz a h=>?_;have b7.gk_62:ka.gk<a2:=by have:=J.lt;omega
 have b4:g5<a2:=by have:=I.lt;omega
 have b4:g9<a2:=by have:=O.lt;omega
 have e1:e9<a2:=by have:=D.lt;omega
 have e2:f6<a2:=by have:=a3.lt;omega
 have e3:f0<a2:=by have:=Z.lt;omega
 have F3:=o8.size;replace hX:=hX.ext o8;replace hC:=hC.next o8;refine z0b ?_;exact k6 (e7,a2) _ _ _ (by kernel_rfl) (h.sub (.d8 rfl rfl rfl rfl rfl rfl rfl rfl (.c2 rfl rfl))) ⟨hC,⟨by simp only;omega,by simp only;omega⟩,hX.low (by omega),a6.low (by omega)⟩;refine z1c h x9f rfl λB2 a0 h8 hz a h=>?_;obtain⟨U,hg⟩:∃g,g=u6.heap.size:=⟨_,rfl⟩;rw[<-hg]at a0 h hz;have b7.gk_14:ka.gk<U:=by have:=J.lt;omega
 have b1:g5<U:=by have:=I.lt;omega
 have b1:g9<U:=by have:=O.lt;omega
 have d0:e9<U:=by have:=D.lt;omega
 have d1:f6<U:=by have:=a3.lt;omega
 have d3:f0<U:=by have:=Z.lt;omega
 have F5:=h8.size;replace J:=J.ext h8;replace I:=I.ext h8;replace O:=O.ext h8;replace D:=D.ext h8;replace a3:=a3.ext h8;replace Z:=Z.ext h8;replace hC:=hC.next h8;refine z0b ?_;refine z0d 9 rfl ?_;refine z3c ([(⟨o.y,(m.ys.getD j yq0).ct⟩:LId)]) h (z0a rfl z0f) rfl rfl rfl z6j λa2 B3 hg a6 m8 hz a h=>?_;have b7.gk_62:ka.gk<a2:=by have:=J.lt;omega
 have b4:g5<a2:=by have:=I.lt;omega
 have b4:g9<a2:=by have:=O.lt;omega
 have e1:e9<a2:=by have:=D.lt;omega
 have e2:f6<a2:=by have:=a3.lt;omega
 have e3:f0<a2:=by have:=Z.lt;omega
 have h3:U<a2:=by have:=a0.lt;omega
 have F6:=m8.size;replace hX:=hX.ext (h8.n1 m8);replace a0:=a0.ext m8;replace hC:=hC.next m8;refine z0b ?_;exact f8 ((e7,a2),U) _ _ _ (by kernel_rfl) (h.sub (.d8 rfl rfl rfl rfl rfl rfl rfl rfl (.c3 rfl rfl rfl))) ⟨hC,⟨by simp only;omega,by simp only;omega⟩,hX.low (by omega),a6.low (by omega),by simp only;omega,a0⟩;refine z3c ([(⟨o.y,(m.ys.getD j yq0).ct⟩:LId)]) h (z0a rfl z0f) rfl rfl rfl z6j λa2 u7 hg a6 g4 hz a h=>?_;have b7.gk_62:ka.gk<a2:=by have:=J.lt;omega
 have b4:g5<a2:=by have:=I.lt;omega
 have b4:g9<a2:=by have:=O.lt;omega
 have e1:e9<a2:=by have:=D.lt;omega
 have e2:f6<a2:=by have:=a3.lt;omega
 have e3:f0<a2:=by have:=Z.lt;omega
 have F7:=g4.size;replace hM:=hM.ext g4;replace J:=J.ext g4;replace b3:=b3.ext g4;replace I:=I.ext g4;replace O:=O.ext g4;replace D:=D.ext g4;replace M:=M.ext g4;replace a3:=a3.ext g4;replace Z:=Z.ext g4;replace hC:=hC.next g4;refine z0b ?_;refine z2d 7 15 (by kernel_rfl) rfl rfl ?_ ?_;refine z0n h (z0a rfl z0f) x2f (z3q _ st _ b3 (by omega)) ?_;rintro _ B4 ⟨e7,rfl,j7,hX,m9⟩ a h;have F8:=m9.size;replace J:=J.ext m9;replace a6:=a6.ext m9;replace hC:=hC.next m9;have i2:=λk J=>(hX.blk k J).2;refine z0b ?_;exact k6 (e7,a2) _ _ _ (by kernel_rfl) (h.sub (.d8 rfl rfl rfl rfl rfl rfl rfl rfl (.c2 rfl rfl))) ⟨hC,⟨by simp only;omega,by simp only;omega⟩,hX.low (by omega),a6.low (by omega)⟩;refine z1c h x9f rfl λB5 a0 l7 hz a h=>?_;obtain⟨U,hg⟩:∃g,g=u7.heap.size:=⟨_,rfl⟩;rw[<-hg]at a0 h hz;have b7.gk_14:ka.gk<U:=by have:=J.lt;omega
 have b1:g5<U:=by have:=I.lt;omega
 have b1:g9<U:=by have:=O.lt;omega
 have d0:e9<U:=by have:=D.lt;omega
 have d1:f6<U:=by have:=a3.lt;omega
 have d3:f0<U:=by have:=Z.lt;omega
 have p2:a2<U:=by have:=(a6.blk a2 (by simp[z0x])).2;omega
 have F9:=l7.size;replace b3:=b3.ext l7;replace hC:=hC.next l7;refine z0b ?_;refine z0d 7 rfl ?_;refine z0n h (z0a rfl z0f) x2f (z3q _ st _ b3 (by omega)) ?_;rintro _ B6 ⟨e7,rfl,j7,hX,l8⟩ a h;have G0:=l8.size;replace J:=J.ext (l7.n1 l8);replace a6:=a6.ext (l7.n1 l8);replace a0:=a0.ext l8;replace hC:=hC.next l8;have i2:=λk J=>(hX.blk k J).2;refine z0b ?_;exact f8 ((e7,a2),U) _ _ _ (by kernel_rfl) (h.sub (.d8 rfl rfl rfl rfl rfl rfl rfl rfl (.c3 rfl rfl rfl))) ⟨hC,⟨by simp only;omega,by simp only;omega⟩,hX.low (by omega),a6.low (by omega),by simp only;omega,a0⟩;refine z1c h x9f rfl λB7 a0 g6 hz a h=>?_;obtain⟨U,hg⟩:∃g,g=d4.heap.size:=⟨_,rfl⟩;rw[<-hg]at a0 h hz;have b7.gk_14:ka.gk<U:=by have:=J.lt;omega
 have b1:g5<U:=by have:=I.lt;omega
 have b1:g9<U:=by have:=O.lt;omega
 have d0:e9<U:=by have:=D.lt;omega
 have d1:f6<U:=by have:=a3.lt;omega
 have d3:f0<U:=by have:=Z.lt;omega
 have G1:=g6.size;replace hM:=hM.ext g6;replace J:=J.ext g6;replace b3:=b3.ext g6;replace I:=I.ext g6;replace O:=O.ext g6;replace D:=D.ext g6;replace M:=M.ext g6;replace a3:=a3.ext g6;replace Z:=Z.ext g6;replace hC:=hC.next g6;refine z0b ?_;refine z2d 7 9 (by kernel_rfl) rfl rfl ?_ ?_;refine z0n h (z0a rfl z0f) x2f (z3q _ st _ b3 (by omega)) ?_;rintro _ B8 ⟨e7,rfl,j7,hX,h9⟩ a h;have G2:=h9.size;replace J:=J.ext h9;replace I:=I.ext h9;replace O:=O.ext h9;replace D:=D.ext h9;replace a3:=a3.ext h9;replace Z:=Z.ext h9;replace a0:=a0.ext h9;replace hC:=hC.next h9;have i2:=λk J=>(hX.blk k J).2;refine z0b ?_;refine z0d 9 rfl ?_;refine z3c ([(⟨o.y,(m.ys.getD j yq0).ct⟩:LId)]) h (z0a rfl z0f) rfl rfl rfl z6j λa2 B9 hg a6 n7 hz a h=>?_;have b7.gk_62:ka.gk<a2:=by have:=J.lt;omega
 have b4:g5<a2:=by have:=I.lt;omega
 have b4:g9<a2:=by have:=O.lt;omega
 have e1:e9<a2:=by have:=D.lt;omega
 have e2:f6<a2:=by have:=a3.lt;omega
 have e3:f0<a2:=by have:=Z.lt;omega
 have h3:U<a2:=by have:=a0.lt;omega
 have G3:=n7.size;replace a0:=a0.ext n7;replace hX:=hX.ext n7;replace hC:=hC.next n7;refine z0b ?_;exact f8 ((e7,a2),U) _ _ _ (by kernel_rfl) (h.sub (.d8 rfl rfl rfl rfl rfl rfl rfl rfl (.c3 rfl rfl rfl))) ⟨hC,⟨by simp only;omega,by simp only;omega⟩,hX.low (by omega),a6.low (by omega),by simp only;omega,a0⟩;refine z3c ([(⟨o.y,(m.ys.getD j yq0).ct⟩:LId)]) h (z0a rfl z0f) rfl rfl rfl z6j λa2 C0 hg a6 f3 hz a h=>?_;have b7.gk_62:ka.gk<a2:=by have:=J.lt;omega
 have b4:g5<a2:=by have:=I.lt;omega
 have b4:g9<a2:=by have:=O.lt;omega
 have e1:e9<a2:=by have:=D.lt;omega
 have e2:f6<a2:=by have:=a3.lt;omega
 have e3:f0<a2:=by have:=Z.lt;omega
 have h3:U<a2:=by have:=a0.lt;omega
 have G4:=f3.size;replace hM:=hM.ext f3;replace J:=J.ext f3;replace b3:=b3.ext f3;replace I:=I.ext f3;replace O:=O.ext f3;replace D:=D.ext f3;replace M:=M.ext f3;replace a3:=a3.ext f3;replace Z:=Z.ext f3;replace a0:=a0.ext f3;replace hC:=hC.next f3;refine z0b ?_;refine z0d 7 rfl ?_;refine z0n h (z0a rfl z0f) x2f (z3q _ st _ b3 (by omega)) ?_;rintro _ C1 ⟨e7,rfl,j7,hX,hq⟩ a h;have G5:=hq.size;replace hM:=hM.ext hq;replace J:=J.ext hq;replace b3:=b3.ext hq;replace I:=I.ext hq;replace O:=O.ext hq;replace D:=D.ext hq;replace M:=M.ext hq;replace a3:=a3.ext hq;replace Z:=Z.ext hq;replace a0:=a0.ext hq;replace a6:=a6.ext hq;replace hC:=hC.next hq;have z0:=hq;have i2:=λk J=>(hX.blk k J).2;refine z0b ?_;exact f8 ((e7,a2),U) _ _ _ (by kernel_rfl) (h.sub (.d8 rfl rfl rfl rfl rfl rfl rfl rfl (.c3 rfl rfl rfl))) ⟨hC,⟨by simp only;omega,by simp only;omega⟩,hX.low (by omega),a6.low (by omega),by simp only;omega,a0⟩;rintro⟨e7,a2⟩ a u9 ⟨hC,⟨l1,l2⟩,hX,a6⟩ h;simp only at l1 l2 hX a6;have h0:=hC;have G6:=h0.size;replace hM:=hM.ext h0;replace J:=J.ext h0;replace b3:=b3.ext h0;replace I:=I.ext h0;replace O:=O.ext h0;replace D:=D.ext h0;replace M:=M.ext h0;replace a3:=a3.ext h0;replace Z:=Z.ext h0;have i2:=λk h_=>(hX.blk k h_).2;refine z2d 10 15 (by kernel_rfl) rfl rfl ?_ ?_;have a7:=hX;refine z7p h rfl rfl hX a6.sl z6j rfl λu1 v8 hX i0 o4 a h=>?_;obtain⟨s4,s5,rfl,p5⟩:=hX.sl.form;have i2:=λk J=>(hX.blk k J).2;have G7:=i0.size;replace J:=J.fr i0 (λb2=>a7.neB J (by decide) b2);replace I:=I.fr i0 (λb2=>a7.neB I (by decide) b2);replace O:=O.fr i0 (λb2=>a7.neB O (by decide) b2);replace D:=D.fr i0 (λb2=>a7.neB D (by decide) b2);replace M:=M.fr i0 (Own.neO a7 M (by decide));replace a3:=a3.fr i0 (λb2=>by have:=(a7.blk _ b2).1;omega);replace Z:=Z.fr i0 (λb2=>a7.neB Z (by decide) b2);replace hC:=hC.step i0 (λk J o2=>absurd (a7.blk k J).1 (by omega));refine z0b ?_;refine z2d 11 15 (by kernel_rfl) rfl rfl ?_ ?_;refine z0n h (z0a rfl (z0a rfl (z0a rfl z0f))) v1u (by have x:=x2g m.q o.b n _ (st++[(⟨o.y,(m.ys.getD j yq0).ct⟩:LId)]) _ (b9.ext hC).b.at hX.sl hv (by rw[<-h7];exact hn) m0 m2 (by rw[<-h7];exact m1);rw[<-h7]at x;exact x) ?_;rintro _ v9 ⟨⟨q',rfl,hQ,g7⟩,q43⟩ a h;have G8:=q43.size;replace J:=J.ext q43;replace I:=I.ext q43;replace O:=O.ext q43;replace D:=D.ext q43;replace a3:=a3.ext q43;replace Z:=Z.ext q43;replace hC:=hC.next q43;refine z0b ?_;refine z0e 12 h rfl rfl λa h=>z0m 13 h rfl rfl rfl λa h=>z0m 14 h rfl rfl rfl λa h=>z0d 15 rfl ?_;refine z1c h x9f rfl λC2 a0 n8 hz a h=>?_;obtain⟨U,hg⟩:∃g,g=v9.heap.size:=⟨_,rfl⟩;rw[<-hg]at a0 h hz;have b7.gk_14:ka.gk<U:=by have:=J.lt;omega
 have b1:g5<U:=by have:=I.lt;omega
 have b1:g9<U:=by have:=O.lt;omega
 have d0:e9<U:=by have:=D.lt;omega
 have d1:f6<U:=by have:=a3.lt;omega
 have d3:f0<U:=by have:=Z.lt;omega
 have G9:=n8.size;first|replace hQ:=BdO.ext hQ n8|replace hQ:=BdO.tf hQ n8 (OffT.one a0 (by decide)) (OffT.one a0 (by decide))
 replace hC:=hC.next n8;refine z0b ?_;exact j2 (U,q') _ _ _ (by kernel_rfl) (h.sub (.d8 rfl rfl rfl rfl rfl rfl rfl rfl (.cons rfl .nil))) ⟨hC,⟨by simp only;omega,g7⟩,a0,BdO.low hQ (by omega)⟩;refine z1c h x9f rfl λC3 a0 o9 hz a h=>?_;obtain⟨U,hg⟩:∃g,g=v8.heap.size:=⟨_,rfl⟩;rw[<-hg]at a0 h hz;have b7.gk_14:ka.gk<U:=by have:=J.lt;omega
 have b1:g5<U:=by have:=I.lt;omega
 have b1:g9<U:=by have:=O.lt;omega
 have d0:e9<U:=by have:=D.lt;omega
 have d1:f6<U:=by have:=a3.lt;omega
 have d3:f0<U:=by have:=Z.lt;omega
 have H0:=o9.size;replace hX:=hX.ext o9;replace hC:=hC.next o9;refine z0b ?_;refine z0d 11 rfl ?_;refine z0n h (z0a rfl (z0a rfl (z0a rfl z0f))) v1u (by have x:=x2g m.q o.b n _ (st++[(⟨o.y,(m.ys.getD j yq0).ct⟩:LId)]) _ (b9.ext hC).b.at hX.sl hv (by rw[<-h7];exact hn) m0 m2 (by rw[<-h7];exact m1);rw[<-h7]at x;exact x) ?_;rintro _ C4 ⟨⟨q',rfl,hQ,g7⟩,q46⟩ a h;have H1:=q46.size;replace a0:=a0.ext q46;replace hC:=hC.next q46;refine z0b ?_;refine z0e 12 h rfl rfl λa h=>z0m 13 h rfl rfl rfl λa h=>z0m 14 h rfl rfl rfl λa h=>?_;exact j2 (U,q') _ _ _ (by kernel_rfl) (h.sub (.d8 rfl rfl rfl rfl rfl rfl rfl rfl (.cons rfl .nil))) ⟨hC,⟨by simp only;omega,g7⟩,a0,BdO.low hQ (by omega)⟩;refine z1c h x9f rfl λC5 a0 n9 hz a h=>?_;obtain⟨U,hg⟩:∃g,g=u9.heap.size:=⟨_,rfl⟩;rw[<-hg]at a0 h hz;have b7.gk_14:ka.gk<U:=by have:=J.lt;omega
 have b1:g5<U:=by have:=I.lt;omega
 have b1:g9<U:=by have:=O.lt;omega
 have d0:e9<U:=by have:=D.lt;omega
 have d1:f6<U:=by have:=a3.lt;omega
 have d3:f0<U:=by have:=Z.lt;omega
 have H2:=n9.size;replace hX:=hX.ext n9;replace a6:=a6.ext n9;replace hC:=hC.next n9;refine z0b ?_;exact f8 ((e7,a2),U) _ _ _ (by kernel_rfl) (h.sub (.d8 rfl rfl rfl rfl rfl rfl rfl rfl (.c3 rfl rfl rfl))) ⟨hC,⟨by simp only;omega,by simp only;omega⟩,hX.low (by omega),a6.low (by omega),by simp only;omega,a0⟩;rintro⟨⟨e7,a2⟩,U⟩ a w48 ⟨hC,⟨l1,l2⟩,hX,a6,k1,a0⟩ h;simp only at l1 l2 hX a6 k1 a0;have i7:=hC;have H3:=i7.size;replace J:=J.ext i7;replace I:=I.ext i7;replace O:=O.ext i7;replace D:=D.ext i7;replace M:=M.ext i7;replace a3:=a3.ext i7;replace Z:=Z.ext i7;have i2:=λk h_=>(hX.blk k h_).2;refine z0d 10 rfl ?_;have a7:=hX;refine z7p h rfl rfl hX a6.sl z6j rfl λu1 C6 hX h2 o4 a h=>?_;obtain⟨s4,s5,rfl,p5⟩:=hX.sl.form;have i2:=λk J=>(hX.blk k J).2;have H4:=h2.size;replace J:=J.fr h2 (λb2=>a7.neB J (by decide) b2);replace I:=I.fr h2 (λb2=>a7.neB I (by decide) b2);replace O:=O.fr h2 (λb2=>a7.neB O (by decide) b2);replace D:=D.fr h2 (λb2=>a7.neB D (by decide) b2);replace M:=M.fr h2 (Own.neO a7 M (by decide));replace a3:=a3.fr h2 (λb2=>by have:=(a7.blk _ b2).1;omega);replace Z:=Z.fr h2 (λb2=>a7.neB Z (by decide) b2);replace a0:=a0.fr h2 (λb2=>a7.neB a0 (by decide) b2);replace hC:=hC.step h2 (λk J o2=>absurd (a7.blk k J).1 (by omega));refine z0b ?_;refine z0d 11 rfl ?_;refine z0n h (z0a rfl (z0a rfl (z0a rfl z0f))) v1u (by have x:=x2g m.q o.b n _ (st++[(⟨o.y,(m.ys.getD j yq0).ct⟩:LId)]) _ (b9.ext hC).b.at hX.sl hv (by rw[<-h7];exact hn) m0 m2 (by rw[<-h7];exact m1);rw[<-h7]at x;exact x) ?_;rintro _ C7 ⟨⟨q',rfl,hQ,g7⟩,q50⟩ a h;have H5:=q50.size;replace a0:=a0.ext q50;replace hC:=hC.next q50;refine z0b ?_;refine z0e 12 h rfl rfl λa h=>z0m 13 h rfl rfl rfl λa h=>z0m 14 h rfl rfl rfl λa h=>?_;exact j2 (U,q') _ _ _ (by kernel_rfl) (h.sub (.d8 rfl rfl rfl rfl rfl rfl rfl rfl (.cons rfl .nil))) ⟨hC,⟨by simp only;omega,g7⟩,a0,BdO.low hQ (by omega)⟩;rintro⟨U,q'⟩ a C8 ⟨hC,⟨k1,g7⟩,a0,hQ⟩ h;simp only at k1 g7 a0 hQ;have i1:=hC;have H6:=i1.size;replace J:=J.ext i1;replace I:=I.ext i1;replace O:=O.ext i1;replace D:=D.ext i1;replace M:=M.ext i1;replace a3:=a3.ext i1;replace Z:=Z.ext i1;refine z0d 16 rfl ?_;refine z0t h rfl rfl a0 rfl x5e ?_ (h1:=(by first|(simp[Value.oneCell',S];done)|exact z2r.one (m.ys.getD j yq0)));clear h a;intro x0 i3 f4 hz a h;have H7:=f4.size;replace J:=J.fr f4;replace I:=I.fr f4;replace O:=O.fr f4;replace D:=D.fr f4;replace M:=M.fr f4 (by intro k J a1;simp at J;subst J;have a8:=M.blk _ a1;have k2:=f7 _ a1;omega);replace a3:=a3.fr f4;replace Z:=Z.fr f4;first|replace hQ:=BdO.ext hQ f4|replace hQ:=BdO.tf hQ f4 (OffT.one a0 (by decide)) (OffT.one a0 (by decide))
 replace hC:=hC.sp f4;clear a0 hz;have a0:Blk x0 U _ [_,_]:=i3;clear i3;refine z0b ?_;refine z0d 17 rfl ?_;refine z0r h rfl λa h=>?_;refine z0b ?_;refine z0q ?_;clear hC b9 b6 o5 b0 h5 l9 f9 j6 d5;refine bk (h.sub (L':=[(0,_),(5,_),(9,_),(11,_),(13,_),(14,_)]) (.c6 rfl rfl rfl rfl rfl rfl)) ?_;exact jE (U) (.c6 rfl rfl rfl rfl rfl rfl) ⟨(g1.z2 i1 f4),⟨q',⟨by omega,g7⟩,a0,BdO.low hQ (by omega)⟩⟩;rintro s6 C9 ⟨i8,⟨q',⟨k1,g7⟩,a0,hQ⟩⟩;have H8:=i8.size;have r8:=a0.lt;refine kpC [(0,_),(5,_),(9,_),(13,_),(14,.pointer (some ⟨s6,0,none⟩)),(11,.int .i64 0)] (.c6 rfl rfl rfl rfl rfl rfl) ?_;have s7:=x2m hQ h4.f (by omega);refine sq (sr (mv rfl (ne' rfl rfl (nn (cd rfl (λc2=>?_) (λc2=>?_))))));exact absurd rfl c2;refine sk (tn (sr (mv rfl (z0k rfl a0 z5s (nlc rfl (fad rfl z3a ?_))))));replace hM:=h4.ext ((q1.z6 g8 e4 f1 f2 e5 e6).n1 i8);replace J:=((((J.ext (e4.n1 f1)).fr f2).ext e5).fr e6).ext i8;refine z5h (cs':=u3a ka { m with q:=q' }) rfl rfl hM.k (by intro u hu;simp at hu;rcases hu with rfl|rfl<;>rfl) x5e rfl (λD0 p8 k4 H9=>?_);replace hM:=hM.beds mtd (hQ.low (by omega)) p8 k4 s7;have J:=hM.k;have h4:=hM;have p3:=hM;have hF:Lw.Own z1k 87 wS.heap.size _ (slv m.fa) m.fl:=hM.f;clear p8;refine kpL [(0,_),(5,_),(9,_),(13,_)] (.c4 rfl rfl rfl rfl) (nn (sq ?_));replace I:=(((I.ext e5).fr e6).ext i8).fr k4;replace O:=(((((O.ext (e4.n1 f1)).fr f2).ext e5).fr e6).ext i8).fr k4;replace M:=(((((M.ext (e4.n1 f1)).fr f2 (by intro k J a1;simp at J;subst J;have a8:=M.blk _ a1;have k2:=f7 _ a1;omega)).ext e5).fr e6 (by intro k J a1;simp at J;subst J;have a8:=M.blk _ a1;have k2:=f7 _ a1;omega)).ext i8).fr k4 (by intro k J a1;simp at J;subst J;have a8:=M.blk _ a1;have k2:=f7 _ a1;omega);replace Z:=(Z.ext i8).fr k4;intro a h;refine z0i (some 9) (λwb w'=>Fr [] wb w') z2o ?_;intro s1 i9;have I0:=i9.size;replace hM:=hM.ext i9;replace J:=J.ext i9;replace I:=I.ext i9;replace O:=O.ext i9;replace M:=M.ext i9;replace Z:=Z.ext i9;have hC:Fr [] s1 s1:=Fr.refl _ _;have b9:=hM;have b6:=J;have b0:=I;have h5:=O;have f9:=M;have d5:=Z;refine z0e 0 h rfl rfl λa h=>z0o 1 h rfl rfl λa h=>z0c 2 h rfl z2z rfl λa h=>z0l 3 h rfl (λ_ hw=>b6.ext hw) rfl y0i rfl λa h=>z0c 4 h rfl z3e rfl λa h=>z0l 5 h rfl (λ_ hw=>b0.ext hw) rfl na5 rfl λa h=>z3b 6 h wn rfl rfl (by first|exact IntWalk.u8_in _ (by omega)|rfl) rfl λa h=>z0y 7 h rfl (λ_ hw=>h5.ext hw) z6f rfl λa h=>z1o 8 (by kernel_rfl) (by kernel_rfl) (by kernel_rfl) hC (p:=j) h wn rfl rfl y1f (by omega) (by omega) (by omega) rfl rfl λa h=>z0d 9 rfl ?_;refine z1b (i:=j) ((⟨true,(m.ys.getD j yq0).pl,(m.ys.getD j yq0).ct+1,false,sv0,[]⟩:YQ):YQ) h rfl rfl hM.y.out (by rw[hM.ly];exact hj) rfl z6s λx1 o1 j5 _hz a h=>?_;replace hM:=hM.yarn mtd hj o1 j5 (Own.nil _);have h4:=hM;clear o1;have I1:=j5.size;replace I:=I.fr j5;replace O:=O.fr j5;replace M:=M.fr j5 (by intro k J a1;simp at J;subst J;have a8:=M.blk _ a1;have k2:=f7 _ a1;omega);replace Z:=Z.fr j5;have J:=hM.k;clear _hz;refine z1n ?_;refine z0q ?_;clear hC b9 b6 b0 h5 f9 d5;replace g0:=(((((((g0.ext (q1.n3 g8 e4 f1)).fr f2 (by intro k J a1;simp at J;subst J;first|exact j8 a1|exact j9 a1|(have:=k0 _ a1;omega))).ext e5).fr e6 (by intro k J a1;simp at J;subst J;first|exact j8 a1|exact j9 a1|(have:=k0 _ a1;omega))).ext i8).fr k4 (by intro k J a1;simp at J;subst J;first|exact j8 a1|exact j9 a1|(have:=k0 _ a1;omega))).ext i9).fr j5 (by intro k J a1;simp at J;subst J;first|exact j8 a1|exact j9 a1|(have:=k0 _ a1;omega));have c9:=hM.t.ins j (by rw[hM.lt];exact hj);have s9:=c9;have t8:∀k∈z0x (slv (m.ts.getD j tq0).1),k<x1.heap.size:=λk J=>(c9.blk k J).2;have y6:(m.ts.getD j tq0).2.length<=2048:=by have:=u4f m.ts j;omega
 refine bk (h.sub (L':=[(0,_),(5,_),(13,_)]) (.c3 rfl rfl rfl)) (tn (sq ?_));intro a h;refine z0i (some 20) (λwb w'=>Fr (z0x (slv (m.ts.getD j tq0).1)) wb w') z2o ?_;intro s2 j0;have I2:=j0.size;replace hM:=hM.ext j0;replace J:=J.ext j0;replace g0:=g0.ext j0;replace I:=I.ext j0;replace M:=M.ext j0;replace Z:=Z.ext j0;replace c9:=c9.ext j0;have hC:Fr (z0x (slv (m.ts.getD j tq0).1)) s2 s2:=Fr.refl _ _;have b9:=hM;have b6:=J;have o6:=g0;have b0:=I;have f9:=M;have d5:=Z;have d6:=c9;refine z0e 0 h rfl rfl λa h=>z0o 1 h rfl rfl λa h=>z0c 2 h rfl y2b rfl λa h=>z0l 3 h rfl (λ_ hw=>b6.fr hw (λk_=>Own.neB d6 b6 (by decide) k_)) rfl x3m rfl λa h=>z0c 4 h rfl z3e rfl λa h=>z0l 5 h rfl (λ_ hw=>b0.fr hw (λk_=>Own.neB d6 b0 (by decide) k_)) rfl na5 rfl λa h=>z3b 6 h wn rfl rfl (by first|exact IntWalk.u8_in _ (by omega)|rfl) rfl λa h=>z0e 7 h rfl rfl λa h=>z0o 8 h rfl rfl λa h=>z0c 9 h rfl y2b rfl λa h=>z0l 10 h rfl (λ_ hw=>b6.fr hw (λk_=>Own.neB d6 b6 (by decide) k_)) rfl x3m rfl λa h=>?_;refine z0c 11 h rfl z3e rfl λa h=>z0l 12 h rfl (λ_ hw=>b0.fr hw (λk_=>Own.neB d6 b0 (by decide) k_)) rfl na5 rfl λa h=>z3b 13 h wn rfl rfl (by first|exact IntWalk.u8_in _ (by omega)|rfl) rfl λa h=>z1h (p:=j) (tq0) 14 h rfl (show Sl z3y _ ka.TV m.ts from hM.t.out.sl) rfl y6e rfl λx3 p6 a h=>z3j 15 h rfl (λ_ hw=>p6 _ (z1w b9.t.out hw (z6d d6 (by decide))).sl) x2c rfl λa h=>z0y 16 h rfl (λ_ hw=>d5.fr hw (λk_=>by have:=q0 _ k_;omega)) x7p rfl λa h=>z0d 17 rfl ?_;refine z3c ([(⟨o.b,(m.ys.getD j yq0).nw,th,sn,ths,(m.ys.getD j yq0).pes⟩:LpQ)]) h (z0a rfl z0f) rfl rfl rfl x8g λj1 D1 hg o3 k5 hz a h=>?_;have b7.gk_100:ka.gk<j1:=by have:=J.lt;omega
 have p9:g5<j1:=by have:=I.lt;omega
 have p1:f0<j1:=by have:=Z.lt;omega
 have I3:=k5.size;replace hM:=hM.ext k5;replace g0:=g0.ext k5;replace M:=M.ext k5;replace c9:=c9.ext k5;replace hC:=hC.next k5;refine z0b ?_;refine z0d 18 rfl ?_;have m3:=c9;refine z7p h rfl rfl c9 o3.sl x8g rfl λx9 D2 c9 o0 m4 a h=>?_;have p3:=hM;have s8:LpO τd wS.heap.size _ (⟨o.b,(m.ys.getD j yq0).nw,th,sn,ths,(m.ys.getD j yq0).pes⟩:LpQ):=⟨g0,M.low (by omega)⟩;have t9:=z1w hM.t.out o0 (z6d m3 (by decide));have u0:=o0;obtain⟨AR,cR,rfl,_⟩:=c9.sl.form;have u6v:=c9;have I4:=o0.size;replace hC:=hC.step o0 (λk_ h_ _=>h_);refine z0b ?_;refine z0d 19 rfl ?_;refine y9c (p:=j) (E:=z3y) h rfl rfl y6e (by omega) (by omega) (by omega) rfl λa h=>?_;refine z0b ?_;refine z0d 20 rfl ?_;refine z1b (i:=j) (((AR,((m.ts.getD j tq0).2++[(⟨o.b,(m.ys.getD j yq0).nw,th,sn,ths,(m.ys.getD j yq0).pes⟩:LpQ)]).length,cR),((m.ts.getD j tq0).2++[(⟨o.b,(m.ys.getD j yq0).nw,th,sn,ths,(m.ys.getD j yq0).pes⟩:LpQ)])):TQ) h rfl rfl t9 (by rw[hM.lt];exact hj) rfl j7w λD3 r6 hq _hz a h=>?_;replace hM:=p3.row mtd (u:=(AR,((m.ts.getD j tq0).2++[(⟨o.b,(m.ys.getD j yq0).nw,th,sn,ths,(m.ys.getD j yq0).pes⟩:LpQ)]).length,cR)) hj s8 r5 u6v u0 m4 r6 hq;clear hq _hz;refine z1n ?_;refine z0q ?_;clear hC b9 b6 o6 b0 f9 d5 d6;refine bk (h.sub (L':=[]) .nil) (tn (sr (asg rfl (nn (rt (r1 results114 rfl ?_))))));exact⟨_,rfl,MRet.ok (by unfold y3w;rw[k9,if_neg (λe=>e k8),if_neg (show ¬2048<=z4v m.p.tb by have:m.p.tb=z2a m.ts:=rfl;rw[this];omega)];exact congrArg Except.ok (j0x m j p7 g7).symm) hM⟩
end Go.Proofs.YtpgdchkdlgkmgaaGreatDoor
namespace Go.G08
open Go.Lw Go.G21
theorem z5b (c:Cx)(l:List Cx):crM (c::l)=((c.a,c.b),.int .i64 c.n)::crM l:=rfl
theorem z8e {a b:LId}{c:Cx}:isC a b c=true↔c.a=a/\c.b=b:=by unfold isC;simp
theorem v5m (a b:LId):∀l:List Cx,(z2k (crM l) (a,b)).getD (.int .i64 0)=.int .i64 (y4i l a b)
 | []=>rfl
 | c::l=>by
  rw[z5b]
  unfold z2k y4i
  rw[List.find?_cons]
  by_cases h:c.a=a/\c.b=b
  ·rw[if_pos (by rw[<-h.1,<-h.2]),z8e.2 h];rfl
  have D:isC a b c=false:=by cases e:isC a b c;rfl;exact absurd (z8e.1 e) h
  rw[if_neg (λe=>h ⟨(Prod.mk.inj e).1.symm,(Prod.mk.inj e).2.symm⟩),D]
  exact v5m a b l
theorem v3s {a b:LId}{l:List Cx}(h:(a,b)∉(crM l).map (·.1)):∀c∈l,isC a b c=false:=λc J=>by
 cases e:isC a b c
 ·rfl
 obtain⟨D,I⟩:=z8e.1 e
 refine absurd ?_ h
 unfold crM
 rw[List.map_map]
 exact List.mem_map.2 ⟨c,J,by simp[D,I]⟩
theorem v7b (a b:LId)(n:Int):∀l:List Cx,((crM l).map (·.1)).Nodup->crM (y4g l a b n)=z3x (crM l) (a,b) (.int .i64 n)
 | [],_=>rfl
 | c::l,hn=>by
  rw[z5b,List.map_cons]at hn
  obtain⟨n1,n2⟩:=List.nodup_cons.1 hn
  have ih:=v7b a b n l n2
  by_cases h:c.a=a/\c.b=b
  ·obtain⟨D,I⟩:=h
   subst D;subst I
   have hl:l.map (λx=>if isC c.a c.b x then (⟨c.a,c.b,n⟩:Cx) else x)=l:=by
    have:=v3s (l:=l) n1
    conv=>rhs;rw[<-List.map_id l]
    refine List.map_congr_left λx Z=>?_
    rw[this x Z];rfl
   have J:isC c.a c.b c=true:=z8e.2 ⟨rfl,rfl⟩
   have O:y4g (c::l) c.a c.b n=⟨c.a,c.b,n⟩::l:=by
    unfold y4g
    rw[List.any_cons,J,Bool.true_or,if_pos rfl,List.map_cons,J,if_pos rfl,hl]
   have M:z3x (((c.a,c.b),Value.int .i64 c.n)::crM l) (c.a,c.b) (.int .i64 n)=((c.a,c.b),.int .i64 n)::crM l:=by
    unfold z3x;simp[List.findIdx?_cons]
   rw[O,z5b,z5b,M]
  have D:isC a b c=false:=by cases e:isC a b c;rfl;exact absurd (z8e.1 e) h
  have I:¬((a,b):LId×LId)=(c.a,c.b):=λe=>h ⟨(Prod.mk.inj e).1.symm,(Prod.mk.inj e).2.symm⟩
  have U:y4g (c::l) a b n=c::y4g l a b n:=by
   unfold y4g
   rw[List.any_cons,D,Bool.false_or]
   split
   ·rw[List.map_cons,D];rfl
   rfl
  rw[U,z5b,ih]
  unfold z3x
  rw[z5b,List.map_cons,List.findIdx?_cons,if_neg (by simpa using I)]
  cases hf:((crM l).map (·.1)).findIdx? (λx=>decide ((a,b)=x)) with
  | none=>rfl
  | some i=>rfl
theorem v2m (a b:LId):∀l:List Cx,((crM l).map (·.1)).Nodup->crM (v0r l a b)=z5d (crM l) (a,b)
 | [],_=>rfl
 | c::l,hn=>by
  rw[z5b,List.map_cons]at hn
  obtain⟨n1,n2⟩:=List.nodup_cons.1 hn
  have ih:=v2m a b l n2
  by_cases h:c.a=a/\c.b=b
  ·obtain⟨D,I⟩:=h
   subst D;subst I
   have hl:l.filter (λx=>!isC c.a c.b x)=l:=List.filter_eq_self.2 λx Z=>by
    rw[v3s (l:=l) n1 x Z];rfl
   have U:isC c.a c.b c=true:=z8e.2 ⟨rfl,rfl⟩
   have M:v0r (c::l) c.a c.b=l:=by
    unfold v0r
    rw[List.filter_cons,U,hl];rfl
   have J:z5d (((c.a,c.b),Value.int .i64 c.n)::crM l) (c.a,c.b)=crM l:=by
    unfold z5d;simp[List.findIdx?_cons]
   rw[M,z5b,J]
  have D:isC a b c=false:=by cases e:isC a b c;rfl;exact absurd (z8e.1 e) h
  have I:¬((a,b):LId×LId)=(c.a,c.b):=λe=>h ⟨(Prod.mk.inj e).1.symm,(Prod.mk.inj e).2.symm⟩
  have O:v0r (c::l) a b=c::v0r l a b:=by
   unfold v0r
   rw[List.filter_cons,D];rfl
  rw[O,z5b,ih]
  unfold z5d
  rw[z5b,List.map_cons,List.findIdx?_cons,if_neg (by simpa using I)]
  cases hf:((crM l).map (·.1)).findIdx? (λx=>decide ((a,b)=x)) with
  | none=>rfl
  | some i=>rfl
section
variable {α κ:Type} [DecidableEq κ] {E:Enc α} {T base g:Nat} {w w':World} {v:Value} {ys:List α} {V:κ->Value} {em:List (κ×Value)}
theorem j1s (h:Lw.Own E T base w v ys)(M:MapL V w g em)(hf:Fr [g] w w'):Lw.Own E T base w' v ys:=h.fr hf λk D J=>by
 rw[List.mem_singleton]at D;subst D
 obtain⟨cs,I⟩:=y5w h _ J
 exact M.f.ne_blk I rfl
theorem j2m {k:Nat}{cs:List Value}(h:Blk w k T cs)(I:MapL V w g em)(hf:Fr [g] w w'):Blk w' k T cs:=h.fr hf λD=>by
 rw[List.mem_singleton]at D;subst D
 exact I.f.ne_blk h rfl
end
theorem FrM.un {τ:TyK}{Mt:Nat}{wS w w':World}{a:MA}(h:FrM τ Mt wS { a with wk:=w } w')(D:FrM τ Mt wS a w):FrM τ Mt wS a w':=⟨h.fr,D.kp.trans h.kp⟩
theorem MkM.gcne {τ:TyK}{Mt:Nat}{wS w:World}{a:MA}{m:MQ}(h:MkM τ Mt wS a w m){k T:Nat}{cs:List Value}(hb:Blk w k T cs):k≠a.gc:=λe=>by
 subst e;exact h.c.f.ne_blk hb rfl
theorem KpM.own {α:Type}{E:Enc α}{I:List Nat}{g T base:Nat}{w w':World}{v:Value}{ys:List α}(h:KpM I g w w')(D:Lw.Own E T base w v ys)(hg:∀k∈z0x v,k≠g)(U:T∉I):Lw.Own E T base w' v ys:=by
 rcases D with D|⟨k,cap,cur,rfl,J,M,O⟩
 exact .inl D;have Z:Blk w k T cur.toList:=M;exact .inr ⟨k,cap,cur,rfl,J,h.blk Z (hg k (by simp[z0x])) U,O⟩
theorem MkM.gcneO {τ:TyK}{Mt:Nat}{wS w:World}{a:MA}{m:MQ}{α:Type}{E:Enc α}{T base:Nat}{v:Value}{ys:List α}(h:MkM τ Mt wS a w m)(J:Lw.Own E T base w v ys):∀k∈z0x v,k≠a.gc:=λk I=>by
 obtain⟨cs,D⟩:=y5w J k I
 exact h.gcne D
theorem y7c {p:MSt}{d:Int}:∀ {l l':List Yn},l'.length=l.length->(∀j,j<l.length->z7g p d (l.getD j yn0)=.ok (l'.getD j yn0))->z4t p d l=.ok l'
 | [],[],_,_=>rfl
 | [],_::_,h,_=>by simp at h
 | _::_,[],h,_=>by simp at h
 | y::l,y'::l',hl,h=>by
  have D:=h 0 (by simp)
  simp only[List.getD_cons_zero]at D
  have I:=y7c (p:=p) (d:=d) (l:=l) (l':=l') (by simpa using hl) λj J=>by
   have:=h (j+1) (by simp;omega)
   simpa only[List.getD_cons_succ] using this
  unfold z4t
  rw[D,I]
theorem y7f {p:MSt}{d e:Int}:∀ {l:List Yn} {i:Nat},i<l.length->(∀j,j<i->∃I,z7g p d (l.getD j yn0)=.ok I)->z7g p d (l.getD i yn0)=.error e->z4t p d l=.error e
 | y::l,0,_,_,h=>by
  simp only[List.getD_cons_zero]at h
  unfold z4t;rw[h]
 | y::l,i+1,hi,hj,h=>by
  obtain⟨I,D⟩:=hj 0 (by omega)
  simp only[List.getD_cons_zero]at D
  have J:=y7f (p:=p) (d:=d) (e:=e) (l:=l) (i:=i) (by simpa using hi) (λj hl=>by
   have:=hj (j+1) (by omega)
   simpa only[List.getD_cons_succ] using this) (by simpa only[List.getD_cons_succ] using h)
  unfold z4t
  rw[D,J]
theorem y1j {c:Cx}:∀ {r l l':List Cx},z4r l r=.ok l'->z4r l (r++[c])=y6j l' c
 | [],l,l',h=>by
  cases h
  show z4r l [c]=y6j l c
  unfold z4r
  cases y6j l c<;>rfl
 | x::r,l,l',h=>by
  rw[List.cons_append]
  unfold z4r at h ⊢
  cases e:y6j l x with
  | error e'=>rw[e]at h;cases h
  | ok l1=>rw[e]at h;simp only at h ⊢;exact y1j h
theorem x1q {e:Int}:∀ {r l:List Cx} (s:List Cx),z4r l r=.error e->z4r l (r++s)=.error e
 | [],l,s,h=>by cases h
 | x::r,l,s,h=>by
  rw[List.cons_append]
  unfold z4r at h ⊢
  cases e1:y6j l x with
  | error e'=>rw[e1]at h;exact h
  | ok l1=>rw[e1]at h;simp only at h ⊢;exact x1q s h
theorem j7y {B:Bd}{r d:Int}:∀c∈z3r B r d,-1<=c.n/\c.n<=1:=by
 have I:∀i,∀c∈x9t B r d i,-1<=c.n/\c.n<=1:=λi c D=>by
  obtain⟨k,_,J⟩:=List.mem_flatMap.1 D;obtain⟨x,_,M⟩:=List.mem_flatMap.1 J;obtain⟨o,_,rfl⟩:=List.mem_map.1 M;unfold x7q;split<;>(simp only;omega)
 intro c D;unfold z3r at D;split at D;exact I _ c (List.mem_reverse.1 D);exact I _ c D
theorem j1m {D:Int}(h:v0u D):¬Int.tmod D 2=0/\-9223372036854775808<=D/\D<=9223372036854775807:=by
 unfold v0u at h;omega
def y2n (p:MSt)(d:Int):MR:=match z4t p d p.ys with
  | .error e=>.error e
  | .ok ys=>match z4r p.cr (z3r p.B p.rk d) with
    | .error e=>.error e
    | .ok cr=>.ok { p with ys:=ys,cr:=cr }
def u5f (p:MSt)(c:Cx):MR:=match y6j p.cr c with
  | .error e=>.error e
  | .ok l=>.ok { p with cr:=l }
abbrev z5l (c:Cx):LId×LId:=if 0<z7c c.a c.b then (c.b,c.a) else (c.a,c.b)
section
variable {τ:TyK} {Mt:Nat} {wS w w':World} {a:MA} {m:MQ} {l:List Cx}
theorem MkM.cross (h:MkM τ Mt wS a w m)(U:MapL crK w' a.gc (crM l))(hf:Fr [a.gc] w w'):MkM τ Mt wS a w' { m with cr:=l }:=by
 have o:∀ {α:Type} {E:Enc α} {T b:Nat} {v:Value} {ys:List α},Lw.Own E T b w v ys->Lw.Own E T b w' v ys:=λO=>j1s O h.c hf;refine⟨j2m h.k h.c hf,⟨⟨o h.b.f.1,λp J=>o (h.b.f.2 p J)⟩,⟨o h.b.b.1,λp J=>o (h.b.b.2 p J)⟩⟩,⟨o h.y.out,λi D=>o (h.y.ins i D)⟩,⟨o h.t.out,λi D=>o (h.t.ins i D),h.t.off,λi D q M=>⟨o (h.t.lps i D q M).1,o (h.t.lps i D q M).2⟩⟩,U,o h.f,h.fb,h.ft,h.ly,h.lt,h.gk,h.gc,h.fr.step hf (λk I=>.inl (List.mem_singleton.1 I)) λk I Z=>?_⟩;rw[List.mem_singleton]at I;have:=h.gc;omega
end
theorem v9w {a b:LId}{l:List Cx}(h:∀c∈l,-1048576<=c.n/\c.n<=1048576):-1048576<=y4i l a b/\y4i l a b<=1048576:=by
 unfold y4i;cases e:l.find? (isC a b) with
 | none=>simp
 | some c=>exact h c (List.mem_of_find?_eq_some e)
theorem x0d (l:List Cx)(c:Cx):y6j l c=if y4i l (z5l c).1 (z5l c).2+c.n < -1048576\/1048576<y4i l (z5l c).1 (z5l c).2+c.n then .error 3 else if y4i l (z5l c).1 (z5l c).2+c.n=0 then .ok (v0r l (z5l c).1 (z5l c).2) else .ok (y4g l (z5l c).1 (z5l c).2 (y4i l (z5l c).1 (z5l c).2+c.n)):=rfl
theorem x4k (p:MSt)(c:Cx):u5f p c=if y4i p.cr (z5l c).1 (z5l c).2+c.n < -1048576\/1048576<y4i p.cr (z5l c).1 (z5l c).2+c.n then .error 3 else if y4i p.cr (z5l c).1 (z5l c).2+c.n=0 then .ok { p with cr:=v0r p.cr (z5l c).1 (z5l c).2 } else .ok { p with cr:=y4g p.cr (z5l c).1 (z5l c).2 (y4i p.cr (z5l c).1 (z5l c).2+c.n) }:=by
 unfold u5f;rw[x0d];generalize y4i p.cr (z5l c).1 (z5l c).2+c.n=n;by_cases h1:n < -1048576\/1048576<n;rw[if_pos h1,if_pos h1];rw[if_neg h1,if_neg h1];by_cases h2:n=0;rw[if_pos h2,if_pos h2];rw[if_neg h2,if_neg h2]
end Go.G08
namespace Go.Proofs.YtpgdchkdlgkmgaaGreatDoor
open Go.Lw Go.G21 Go.G08 _root_.Go.Proofs.Tryz
set_option maxHeartbeats 1000000 in
theorem u6l (wS:World)(ka:MA)(m:MQ)(o:MOp)(w0:World)(hM:MkM τd 137 wS ka w0 m)(hi:MInv m.p)(hy:1<=o.y/\o.y<=6)(hn:z4q o.b o.p=0):Rets prog 67 #[.pointer (some ⟨ka.gk,0,none⟩),opV o] w0 λr w'=>MRet τd 137 wS ka (y3c m.p o) r w':=by
 have b9:=hM.fr.size;have b1:=hM.gk;have b3:=hM.k.lt;refine we [(0,.pointer (some ⟨ka.gk,0,none⟩)),(1,opV o)] func67 rfl ntmps67 rfl (.c2 rfl rfl) ?_;have M:=hM;refine sr (bx rfl rfl rfl (λg3 w1 b7 D q1 z1=>(asg rfl (nn (sr (mv rfl (z0k rfl D y1k ?_)))))));replace hM:=M.ext q1;refine cl (ev2 rfl rfl) (mkC func112) (x4n wS ka m o _ hM hi hy hn) rfl ?_;rintro _ w2 ⟨rfl,q2⟩;have z2:=q2.size;refine mv rfl (xt rfl rfl (xt rfl rfl (xt rfl rfl (asg rfl (asg rfl (asg rfl (kpL [(0,_),(3,_),(5,_),(6,_),(7,_)] (.c5 rfl rfl rfl rfl rfl) (nn (sq (sr (mv rfl (ne' rfl rfl (nn (cd rfl (λc0=>?_) (λc0=>?_)))))))))))))));refine sr (mv rfl (asg rfl (kpL [(4,_)] (.cons rfl .nil) (nn (rt (tr (r1 results67 rfl ?_)))))));replace hM:=M.ext (q1.n1 q2);exact⟨_,rfl,MRet.err (by unfold y3c;rw[if_pos c0]) c0 hM.fr⟩;have J:z6l m.p o=0:=Classical.not_not.1 c0;refine sk (tn (sq (sr (mv rfl (fad rfl z3e ?_)))));replace D:=D.ext q2;refine z0g rfl D rfl na5 (mv rfl (mv rfl ?_));replace hM:=M.ext (q1.n1 q2);have a3:=hM.fr;refine cl (z0a rfl (z0a rfl (z0a rfl (z0a rfl z0f)))) (mkC func113) (x5h wS { ka with wk:=w2 } m o.y (if z6l m.p o=0 then y3x m.p o else 0) (if z6l m.p o=0 then (z3h o.b o.p m.rk) else 0) _ hM.mark hi hy) rfl ?_;intro _ w3 hR;obtain⟨rfl,a1,m1,a9⟩:=hR.split;have z3:=a1.kp.size;simp only at z3;replace D:=a1.kp.blk D (by have:=hM.gcne D;exact this) (by decide);refine asg rfl (kpL [(0,_),(3,_),(8,_)] (.c3 rfl rfl rfl) (nn (sr (mv rfl (ne' rfl rfl (nn (cd rfl (λc1=>?_) (λc1=>?_))))))));refine sr (mv rfl (asg rfl (nn (rt (tr (r1 results67 rfl ?_))))));exact⟨_,rfl,MRet.err (by have hx:=z4j c1;unfold y3c;rw[if_neg c0];rw[if_pos J,if_pos J]at hx;rw[hx,if_pos J,if_pos J]) c1 (a1.un a3)⟩;obtain⟨a8,a2⟩:=a9 (Classical.not_not.1 c1);rw[if_pos J,if_pos J]at a2;obtain⟨a4,b6,b8⟩:=y1m hi hy a2;obtain⟨⟨hf,hb⟩,h4,a7⟩:=z3n a4.B;replace hM:=a8.unmark a3;have M:=hM;have Z:=hM.k;have b2:=Z.lt;refine sk (tn (sq ?_));intro a h;refine z0i (some 9) (λwb w'=>Fr [] wb w') z2o ?_;intro w4 q4;have z4:=q4.size;replace D:=D.ext q4;replace hM:=hM.ext q4;replace Z:=Z.ext q4;have hC:Fr [] w4 w4:=Fr.refl _ _;have I:=D;have U:=hM;have a0:=Z;refine z0e 0 h rfl rfl λa h=>z0y 1 h rfl (λ_ hw=>I.ext hw) y1k rfl λa h=>z0e 2 h rfl rfl λa h=>z0o 3 h rfl rfl λa h=>z0c 4 h rfl z3a rfl λa h=>z1e (vs:=[_,_]) 5 h rfl (λ_ hw=>(a0.ext hw)) z5s rfl rfl λa h=>z0c 6 h rfl z4h rfl λa h=>z1e (vs:=[_,_]) 7 h rfl (λ_ hw=>(I.ext hw)) z5z rfl rfl λa h=>z0d 8 rfl ?_;refine z0n h (z0a rfl (z0a rfl z0f)) u3q (x1j m1.q o.b o.p _ hM.b.at (by have:=z3k hn;omega) hf hb h4 a7) ?_;rintro c9 w5 ⟨O,hq⟩ a h;have z5:=hq.size;replace D:=D.ext hq;replace hM:=hM.ext hq;replace Z:=Z.ext hq;replace hC:=hC.next hq;have q5:=hq;rw[y7h hn]at O;obtain⟨a5,a6,rfl,b0⟩:=O.sl.form;refine z0b ?_;refine z0d 9 rfl ?_;refine z0n h (z0a rfl (z0a rfl (z0a rfl (z0a rfl z0f)))) (mkC func114) (v5v wS ka m1 o (a5,(m1.q.p.at o.b o.p).length,a6) (m1.q.p.at o.b o.p) (.slice none 0 0) [] _ hM a4 hy hn (O.low (by omega)) (λk Z hb=>by have b4:=(O.blk k Z).1;have b5:=(U.f.blk k hb).2;omega) (Sl.nil _) (.inl rfl)) ?_;rintro d0 w6 hR a h;refine z1n ?_;refine z0d 10 rfl ?_;refine z0r h rfl λa h=>?_;refine z1n ?_;refine z0q ?_;clear hC I U a0;refine bk (h.sub (L':=[(4,_)]) (.cons rfl .nil)) (tn (rt (r1 results67 rfl ?_)));exact⟨_,rfl,by rw[show y3c m.p o=_ from by unfold y3c;rw[if_neg c0,a2]];exact hR⟩
end Go.Proofs.YtpgdchkdlgkmgaaGreatDoor
