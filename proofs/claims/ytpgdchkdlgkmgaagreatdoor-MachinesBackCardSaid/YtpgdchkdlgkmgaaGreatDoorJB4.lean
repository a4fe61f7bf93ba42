/- Texts of the proof, joined. -/
import Derived.Test.YtpgdchkdlgkmgaaGreatDoorRows
import Derived.Maps.RangeRun
import Derived.Test.YtpgdchkdlgkmgaaGreatDoorJB3
set_option linter.unusedVariables false
set_option linter.unusedSimpArgs false
namespace Go.Proofs.YtpgdchkdlgkmgaaGreatDoor
open Go.Lw Go.G21 Go.G08 _root_.Go.Proofs.Tryz
theorem j9q:BuildAt prog 183 [(0,2),(2,2),(4,1)] [(.int .u8 0),(.int .i64 0),(.int .u8 0),(.int .i64 0),(.int .i64 0)]:=BuildAt.struct underlying183 (λ_=>by kernel_rfl) (λ_=>by kernel_rfl)
theorem v0x:CallOf prog 116:=mkC func116
theorem u8z:z2b prog 179:=λ_=>by kernel_rfl
theorem j7b:z1p prog 179 1:=λ_=>by kernel_rfl
set_option maxHeartbeats 2000000 in
theorem v5y (gr gk base:Nat)(b r:Int)(v u:Value)(l:List IQ)(a4:List Hd)(wS w0:World)(hF:Fr [] wS w0)(hs:Sl z6b wS v l)(Z:IqAt wS l)(a6:Blk wS gk 3 [.int .i64 r])(f1:wS.heap.size<=gr)(e6:wS.heap.size<=base)(e7:base<=w0.heap.size)(D:Blk w0 gr 179 [u])(J:Lw.Own z3w 183 base w0 u a4)(hb:b=0\/b=1)(hl:l.length<=40)(h4:y0b l)(ha:a4.length<=1000)(hu:IsB u):Rets prog 141 #[.int .u8 b,v,.pointer (some ⟨gr,0,none⟩),.pointer (some ⟨gk,0,none⟩)] w0 λr' w'=>r'=.tuple #[]/\(∃u',Blk w' gr 179 [u']/\Lw.Own z3w 183 base w' u' (a4++hds b r (plB l) l.length)/\IsB u')/\w0.heap.size<=w'.heap.size/\Fr [] wS w':=by
 obtain⟨A,c,rfl,e8,hM,hA⟩:=id hs;clear hA;unfold maxLen at hM;have f5:=hF.size;have e3:=D.lt;refine we [(0,.int .u8 b),(1,.slice A l.length c),(2,.pointer (some ⟨gr,0,none⟩)),(3,.pointer (some ⟨gk,0,none⟩))] func141 U ntmps141 U (.c4 U U U U) ?_;have d0:=hs;have b3:=Z;have b2:=a6;refine sr (mv U (lnS U underlying30 (mv U (nn (bl ?_)))));refine lpK (ι:=Nat×Value) [(0,_),(2,_),(3,_),(11,_),(12,_)] (λp=>[(13,.int .i64 (p.1:Int))]) (λp w'=>Fr [] wS w'/\(p.1<=l.length/\w0.heap.size<=w'.heap.size/\IsB p.2)/\Blk w' gr 179 [p.2]/\Lw.Own z3w 183 base w' p.2 (a4++hds b r (plB l) p.1)) (λp=>l.length-p.1) (0,u) (.c6 U U U U U U) ⟨hF,⟨⟨Nat.zero_le _,by omega,hu⟩,D,by simpa[hds] using J⟩⟩ ?_;rintro⟨i,uI⟩ w1 ⟨q1,⟨hi,D,J⟩⟩;simp only at hi D J;have z1:=q1.size;have a9:=D.lt;refine kpC [(0,_),(2,_),(3,_),(11,_),(12,_),(13,.int .i64 (i:Int))] (.c6 U U U U U U) ?_;have e9:=x5y b r l h4 i;have f3:=z3n h4 i;have f4:=z1u (z1x b3 i);have b4:=b2.lt;refine sr (lt' U (nn (sq (cd U (λc0=>?_) (λc0=>?_)))));refine sk (tn (sq (bl (sr (mv U ?_)))));replace hs:=d0.ext q1;refine z1a (iq0) U hs U y4f z1d (λd9 b6=>?_);refine z1g U (b6 _ hs) z6c (asg U (asg U (nn (sr (mv U (mv U (z0v U (wi6 (by omega)) (z1s (cs:=[_,_]) (ev2 U) y7w (z0h U (z0h U z0q)) U ?_))))))));refine al v1n U (λg8 w2 f0 I q2 z2=>?_);refine z0i (vs:=[_,_]) U I y3v (λw3 I q3 z3=>?_) (h1:=(by first|(simp[Value.oneCell',S];done)|exact z1k.one _));refine nn (sr (mv U (lnS U underlying37 (mv U (nn (bl ?_))))));replace D:=(D.ext q2).fr q3;replace J:=(J.ext q2).fr q3 (by first|(intro k Z hb;rw[List.mem_singleton.1 Z]at hb;first|exact J.neB D (by decide) hb|(have:=(J.blk _ hb).2;omega))|(simp;done));refine lpK (ι:=Nat×Value) [(0,_),(2,_),(3,_),(8,_),(11,_),(12,_),(13,_),(22,_),(23,_)] (λp=>[(24,.int .i64 (p.1:Int))]) (λp w'=>Fr [] wS w'/\(p.1<=(l.getD i iq0).2.length/\w0.heap.size<=w'.heap.size/\Blk w' g8 24 [.int .u8 b,.int .i64 ((i:Int)+1)]/\IsB p.2)/\Blk w' gr 179 [p.2]/\Lw.Own z3w 183 base w' p.2 ((a4++hds b r (plB l) i)++((l.getD i iq0).2.take p.1).map (hdS b r i))) (λp=>(l.getD i iq0).2.length-p.1) (0,uI) (.d8 U U U U U U U U (.c2 U U)) ⟨(q1.z2 q2 q3),⟨⟨Nat.zero_le _,by omega,I,hi.2.2⟩,D,by simpa using J⟩⟩ ?_;rintro⟨j,uJ⟩ w4 ⟨q4,⟨⟨hj,f6,I,d6⟩,D,J⟩⟩;simp only at hj D J;have z4:=q4.size;have a9:=D.lt;have d3:=I.lt;refine kpC [(0,_),(2,_),(3,_),(8,_),(11,_),(12,_),(13,_),(22,_),(23,_),(24,.int .i64 (j:Int))] (.d8 U U U U U U U U (.c2 U U)) (sr (lt' U (nn (sq (cd U (λc1=>?_) (λc1=>?_))))));refine sk (tn (sq (bl (sr ?_))));replace Z:=b3.ext q4;refine z1a (id0) U (z1x Z i) U z6o z1d (λe0 b7=>?_);refine z1j U (b7 _ (z1x Z i)) z3t (al y4p U (λd4 w5 e2 M q5 z5=>?_));refine z0i (vs:=[_,_]) U M y3i (λw6 M q6 z6=>?_) (h1:=(by first|(simp[Value.oneCell',S];done)|exact z1k.one _));refine nn ?_;replace hs:=d0.ext (q4.z2 q5 q6);replace Z:=b3.ext (q4.z2 q5 q6);replace a6:=b2.ext (q4.z2 q5 q6);replace D:=(D.ext q5).fr q6;replace J:=(J.ext q5).fr q6 (by first|(intro k Z hb;rw[List.mem_singleton.1 Z]at hb;first|exact J.neB D (by decide) hb|(have:=(J.blk _ hb).2;omega))|(simp;done));replace I:=(I.ext q5).fr q6;intro a h;refine z0j (some 8) (λwb w'=>Fr (z0x uJ) wb w') z2s ?_;intro w7 q7;have z7:=q7.size;replace hs:=hs.ext q7;replace Z:=Z.ext q7;replace a6:=a6.ext q7;replace D:=D.ext q7;replace J:=J.ext q7;replace I:=I.ext q7;replace M:=M.ext q7;have hC:Fr (z0x uJ) w7 w7:=Fr.refl _ _;have d1:=hs;have b8:=Z;have a7:=a6;have a2:=D;have a0:=J;have O:=I;have a1:=M;refine y6f 0 hC h wn U (λ_ hw=>a2.fr hw (λk_=>Own.neB a0 a2 (by decide) k_)) u8z U U λa h=>z0z 1 h U (λ_ hw=>a1.fr hw (λk_=>Own.neB a0 a1 (by decide) k_)) z3t U λa h=>z0z 2 h U (λ_ hw=>O.fr hw (λk_=>Own.neB a0 O (by decide) k_)) z5b U λa h=>z0z 3 h U (λ_ hw=>O.fr hw (λk_=>Own.neB a0 O (by decide) k_)) z5b U λa h=>y6f 4 hC h wn U (λ_ hw=>a7.fr hw (λk_=>by have:=(a0.blk _ k_).1;have:=b4;omega)) na3 U U λa h=>z0d 5 U ?_;refine z0m h (z0a U (z0a U z0f)) v0x (y2h _ _ _ _ (by omega)) ?_;rintro _ w8 ⟨rfl,q8⟩ a h;have z8:=q8.size;replace D:=D.ext q8;replace I:=I.ext q8;replace M:=M.ext q8;replace hC:=hC.next q8;refine z0b ?_;refine z3c (cs:=[_,_,_,_,_]) 6 h (z0a U (z0a U (z0a U z0f))) j9q (z0h U (z0h U (z0h U z0q))) U U λa h=>z0d 7 U ?_;refine z3g ([(hdS b r i ((l.getD i iq0).2.getD j id0))]) h (z0a U z0f) U z3j λa5 w9 hg c9 q9 hz a h=>?_;have a8:gr<a5:=by have:=D.lt;omega
 have a8:g8<a5:=by have:=I.lt;omega
 have b9:d4<a5:=by have:=M.lt;omega
 have z9:=q9.size;replace Z:=Z.ext (q8.n1 q9);replace D:=D.ext q9;replace J:=J.ext (q8.n1 q9);replace I:=I.ext q9;replace hC:=hC.next q9;refine z0b ?_;refine z0d 8 U ?_;have a3:=J;refine z7w h U U J c9.sl z3j U ?_ (hM:=(by unfold maxLen;simp only[List.length_append,List.length_map,List.length_take,List.length_cons,List.length_nil];omega)) (hb:=(by simp only[List.length_append,List.length_map,List.length_take,List.length_cons,List.length_nil];omega));clear h a;intro f7 f8 J b0 d5 a h;obtain⟨e4,e5,rfl,e1⟩:=J.sl.form;have f9:=b0.size;replace D:=D.fr b0 (λZ=>a3.neB D (by decide) Z);replace I:=I.fr b0 (λZ=>a3.neB I (by decide) Z);refine z1n ?_;refine z0d 9 U ?_;refine y7p h U U D U U j7b λd7 b5 b1 hz a h=>?_;have g0:=b1.size;replace I:=I.fr b1;replace J:=J.fr b1 (by first|(intro k Z hb;rw[List.mem_singleton.1 Z]at hb;first|exact J.neB D (by decide) hb|(have:=(J.blk _ hb).2;omega))|(simp;done));clear D hz;have D:Blk d7 gr _ [_]:=b5;clear b5;refine z1n ?_;refine z0r ?_;clear hC d1 b8 a7 a2 a0 O a1;refine bk (h.sub (L':=[(0,_),(2,_),(3,_),(8,_),(11,_),(12,_),(13,_),(22,_),(23,_),(24,_)]) (.d8 U U U U U U U U (.c2 U U))) (bn' (tn (rg (z0v U (wi6 (by omega)) (mv U (nl ?_))))));exact lpE ((j+1,_)) (.d8 U U U U U U U U (.c2 U U)) ⟨(((q4.z5 q5 q6 q7 q8 q9).step b0 (λk Z f2=>absurd (a3.blk k Z).1 (by omega))).z1 b1),⟨⟨by simp only;omega,by omega,I,u7l J (by simp)⟩,D,by rw[y4s (hdS b r i) id0 (by omega),<-List.append_assoc];exact J⟩⟩ (by simp only;omega);obtain rfl:j=(l.getD i iq0).2.length:=by omega
 rw[List.take_length]at J;refine ex (te (te (xh (bn' (tn (rg (z0v U (wi6 (by omega)) (mv U (kpL [(0,_),(2,_),(3,_),(11,_),(12,_),(13,_)] (.c6 U U U U U U) (nl ?_))))))))));exact lpE ((i+1,_)) (.c6 U U U U U U) ⟨q4,⟨⟨by simp only;omega,by omega,d6⟩,D,by rw[x0z,z3r,<-List.append_assoc];exact J⟩⟩ (by simp only;omega);obtain rfl:i=l.length:=by omega
 refine ex (te (te (xh (r0n results141  ?_))));exact⟨_,rfl,rfl,⟨_,D,J,hi.2.2⟩,by omega,q1⟩
theorem j8s (w:World):(zeroValue 179).run prog w=.ok (.slice none 0 0) w:=by kernel_rfl
set_option maxHeartbeats 2000000 in
theorem v6c (q:BdQ)(r:Int)(w0:World)(hB:BdAt w0 q)(hv:BdOk q.p)(hr:-4<=r/\r<=4):Rets prog 102 #[.agg #[.slice q.f.1 q.f.2.1 q.f.2.2,.slice q.b.1 q.b.2.1 q.b.2.2],.int .i64 r] w0 λv w'=>(∃g,v=.tuple #[.slice (some ⟨g,0,none⟩) (z2f q.p r).length (z2f q.p r).length,.int .i64 0]/\w0.heap.size<=g/\Lw.Own z3w 183 w0.heap.size w' (.slice (some ⟨g,0,none⟩) (z2f q.p r).length (z2f q.p r).length) (z2f q.p r))/\Fr [] w0 w':=by
 obtain⟨⟨hf,hb⟩,h4,a4⟩:=z3k hv;have hN:=y5f hv;have b6:=y0e q.p r;have c1:(z2f q.p r).length=(v7o q.p r).length:=z4k _;refine we [(0,.agg #[.slice q.f.1 q.f.2.1 q.f.2.2,.slice q.b.1 q.b.2.1 q.b.2.2]),(1,.int .i64 r)] func102 U ntmps102 U (.c2 U U) ?_;have a2:=hB;refine sr (bx U (λg2 w1 b7 D q1 z1=>(bx U (λg3 w2 b8 Z q2 z2=>(asg U (asg U (nn (sq (sr ?_)))))))));replace D:=D.ext q2;refine z0k U D z5x (z4a U Z na3 ?_);replace hB:=a2.ext (q1.n1 q2);refine cl (ev2 U) (mkC func140) (x4k q _ _ hB hv (by omega)) U ?_;rintro _ w3 ⟨rfl,q3⟩;have z3:=q3.size;replace Z:=Z.ext q3;replace D:=D.ext q3;have O:BdAt w3 q:=a2.ext (q1.n2 q2 q3);have M:=Z;have b5:=M.lt;have a6:=D;refine asg U (nn (sr (mv U (ne' U (nn (cd U (λc0=>?_) (λc0=>?_)))))));exact absurd U c0;refine sk (tn (sr (z0k U D z5x ?_)));replace hB:=a2.ext (q1.n2 q2 q3);refine cl (ev1 U) (mkC func95) (x2a q _ hB hf hb h4 a4) U ?_;rintro _ w4 ⟨rfl,q4⟩;have z4:=q4.size;refine z1f (m:=0) (c:=q.p.flat.length) (hd0) U z3j u4b U (λa0 w5 b1 J q5 z5=>(al j8s U (λg7 w6 b9 I q6 z6=>(z5s U U I U j7b (λw7 I q7 z7=>(nn (sr (z6n z0f (ev2 U) U (asg U (nn (sr (mv U (fad U y3k ?_)))))))))))));replace D:=(D.ext (q4.n2 q5 q6)).fr q7;refine z0g U D U x1w ?_;replace J:=(J.ext q6).fr q7 (by first|(intro k hk hb;rw[List.mem_singleton.1 hk]at hb;first|exact J.neB I (by decide) hb|(have:=(J.blk _ hb).2;omega))|(simp;done));refine clv (us:=[]) (ws:=[.pointer (some ⟨g7,0,none⟩),.pointer (some ⟨g3,0,none⟩)]) U (ev2 U) (mkC func141) (v5y g7 g3 a0 0 r _ _ q.fs [] w3 _ (q4.z3 q5 q6 q7) O.f O.fi M (by omega) (by omega) (by omega) I J (by decide) (by omega) h4 (by first|(simp;done)|(have:=x5y 0 r q.fs h4 q.fs.length;simp;omega)) ⟨_,_,_,rfl⟩) U (by intro g e;cases e) ?_;rintro _ w8 ⟨rfl,⟨c9,I,J,a7⟩,hz22,q8⟩;have z8:=q8.size;refine nn (sr (mv U (fad U y0o ?_)));replace D:=a6.ext q8;refine z0g U D U x1w ?_;refine clv (us:=[]) (ws:=[.pointer (some ⟨g7,0,none⟩),.pointer (some ⟨g3,0,none⟩)]) U (ev2 U) (mkC func141) (v5y g7 g3 a0 1 r _ _ q.bs ([]++hds 0 r (plB q.fs) q.fs.length) w3 _ q8 O.b O.bi M (by omega) (by omega) (by omega) I J (by decide) (by omega) a4 (by first|(simp;done)|(have:=x5y 0 r q.fs h4 q.fs.length;simp;omega)) a7) U (by intro g e;cases e) ?_;rintro _ w9 ⟨rfl,⟨d0,I,J,a8⟩,hz26,q9⟩;have z9:=q9.size;rw[List.nil_append,show hds 0 r (plB q.fs) q.fs.length++hds 1 r (plB q.bs) q.bs.length=v7o q.p r by unfold v7o;simp only[List.length_map]]at J;obtain⟨a1,b3,rfl⟩:=u3v a8 J;have b4:=(J.blk a1 (by simp[z0x])).1;have a5:g7∉[a1]:=λhk=>(J.neB I (by decide)) (by simpa[z0x] using hk);refine kpL [(7,_)] (.cons U .nil) (nn (sr (z4a U I u8z (cl (ev2 U) (mkC func142) (u2k a1 _ a0 (v7o q.p r) _ J (by omega)) U ?_))));rintro _ d1 ⟨rfl,J,a3⟩;have d4:=a3.size;refine nn (sr ?_);replace I:=I.fr a3 (by first|exact a5|(simp;omega));refine z4a U I u8z ?_;refine cl (ev1 U) (mkC func144) (v0t _ (z2f q.p r) _ (by unfold z2f;exact J.sl) (by omega)) U ?_;rintro _ d3 ⟨b0,rfl,b2,hX,a9⟩;have d5:=a9.size;refine asg U (asg U (nn (rt (r2 results102 U U ?_))));exact⟨_,rfl,⟨b0,rfl,by omega,hX.low (by omega)⟩,(q1.z5 q2 q3 q9 a3 a9)⟩
end Go.Proofs.YtpgdchkdlgkmgaaGreatDoor
namespace Go.G08
open Go.Lw Go.G21
def btL (fr to:Int):Int:=if fr<to then fr else to
def btH (fr to:Int):Int:=if fr<to then to else fr
def btD (fr to:Int):Int:=if fr<to then 1 else 0
def btA (l:List Hd)(fr to:Int)(k:Nat):List Pa:=((l.take k).filter λh=>decide (btL fr to<h.s/\h.s<btH fr to)).map λh=>⟨h.id,decide (h.b=1),btD fr to⟩
theorem j9i {l:List Hd}{fr D:Int}{k:Nat}(I:k<l.length)(h:btL fr D<(l.getD k hd0).s/\(l.getD k hd0).s<btH fr D):btA l fr D (k+1)=btA l fr D k++[⟨(l.getD k hd0).id,decide ((l.getD k hd0).b=1),btD fr D⟩]:=by
 unfold btA;rw[z5q hd0 I,List.filter_append,List.map_append,List.filter_cons,if_pos (decide_eq_true h)];rfl
theorem j8w {l:List Hd}{fr D:Int}{k:Nat}(I:k<l.length)(h:¬(btL fr D<(l.getD k hd0).s/\(l.getD k hd0).s<btH fr D)):btA l fr D (k+1)=btA l fr D k:=by
 unfold btA;rw[z5q hd0 I,List.filter_append,List.filter_cons,if_neg (by simpa using h)];simp
theorem x6b (l:List Hd)(fr D:Int)(k:Nat):(btA l fr D k).length<=l.length:=by
 unfold btA;rw[List.length_map];refine Nat.le_trans (List.length_filter_le _ _) ?_;rw[List.length_take];omega
theorem j6t {l:List Hd}{fr D:Int}(h:¬btD fr D=0):btw l fr D=btA l fr D l.length:=by
 unfold btD at h;by_cases c:fr<D;unfold btw btA btL btH btD;rw[List.take_length];simp only[if_pos c];rw[if_neg c]at h;exact absurd U h
theorem j3h {l:List Hd}{fr D:Int}(h:btD fr D=0):btw l fr D=(btA l fr D l.length).reverse:=by
 unfold btD at h;by_cases c:fr<D;rw[if_pos c]at h;exact absurd h (by decide);unfold btw btA btL btH btD;rw[List.take_length];simp only[if_neg c]
theorem v3q (l:List Hd)(fr D:Int):(btw l fr D).length<=l.length:=by
 by_cases h:btD fr D=0;rw[j3h h,List.length_reverse];exact x6b l fr D _;rw[j6t h];exact x6b l fr D _
end Go.G08
namespace Go.Proofs.YtpgdchkdlgkmgaaGreatDoor
open Go.Lw Go.G21 Go.G08 _root_.Go.Proofs.Tryz
theorem u7o:BuildAt prog 100 [(0,2),(2,1),(3,1)] [(.int .u8 0),(.int .i64 0),(.bool false),(.int .u8 0)]:=BuildAt.struct underlying100 (λ_=>by kernel_rfl) (λ_=>by kernel_rfl)
theorem v3j:z0y prog 183 0 0:=λ_ _=>by kernel_rfl
theorem j2n:z0y prog 183 1 2:=λ_ _=>by kernel_rfl
set_option maxHeartbeats 1000000 in
theorem u6l (v:Value)(l:List Hd)(fr D:Int)(w0:World)(hs:Sl z3w w0 v l)(hl:l.length<=1000):Rets prog 149 #[v,.int .i64 fr,.int .i64 D] w0 λr w'=>(∃g,r=.slice (some ⟨g,0,none⟩) (btw l fr D).length (btw l fr D).length/\w0.heap.size<=g/\Lw.Own z1t 100 w0.heap.size w' r (btw l fr D))/\Fr [] w0 w':=by
 obtain⟨A,c,rfl,b5,hM,hA⟩:=id hs;clear hA;unfold maxLen at hM;refine we [(0,.slice A l.length c),(1,.int .i64 fr),(2,.int .i64 D)] func149 U ntmps149 U (.c3 U U U) ?_;have a6:=hs;refine sr (asg U (nn (sr (mv U (mv U (asg U (asg U (asg U (nn ?_)))))))));refine jn (ι:=Unit) [(0,_)] (λ_j=>[(7,.int .i64 (btL fr D)),(8,.int .i64 (btH fr D)),(9,.int .u8 (btD fr D))]) (λ_j w'=>Fr [] w0 w') (.cons U .nil) ?_ ?_;refine sr (mv U (mv U (gt' U (nn (cd U (λM=>?_) (λM=>?_))))));refine rg (mv U (mv U (asg U (asg U (asg U (nl ?_))))));exact jE (()) (.c4 U (by first|(rw[show btL fr D=_ from if_pos M];rfl)|(rw[show btL fr D=_ from if_neg M];rfl)) (by first|(rw[show btH fr D=_ from if_pos M];rfl)|(rw[show btH fr D=_ from if_neg M];rfl)) (by first|(rw[show btD fr D=_ from if_pos M];rfl)|(rw[show btD fr D=_ from if_neg M];rfl))) (Fr.refl _ _);refine sk ?_;exact jE (()) (.c4 U (by first|(rw[show btL fr D=_ from if_pos M];rfl)|(rw[show btL fr D=_ from if_neg M];rfl)) (by first|(rw[show btH fr D=_ from if_pos M];rfl)|(rw[show btH fr D=_ from if_neg M];rfl)) (by first|(rw[show btD fr D=_ from if_pos M];rfl)|(rw[show btD fr D=_ from if_neg M];rfl))) (Fr.refl _ _);rintro _j w1 q1;have z1:=q1.size;refine kpC [(0,_),(7,_),(8,_),(9,_)] (.c4 U U U U) (sr (asg U (nn (sq (sr (mv U (lnS U underlying179 (mv U (nn (bl ?_))))))))));refine lpK (ι:=Nat×Value) [(7,_),(8,_),(9,_),(20,_),(21,_)] (λp=>[(22,.int .i64 (p.1:Int)),(10,p.2)]) (λp w'=>Fr [] w0 w'/\p.1<=l.length/\Lw.Own z1t 100 w0.heap.size w' p.2 (btA l fr D p.1)) (λp=>l.length-p.1) (0,_) (.c7 U U U U U U U) ⟨q1,⟨Nat.zero_le _,Own.nil _⟩⟩ ?_;rintro⟨k,vP⟩ w2 ⟨Z,⟨hk,J⟩⟩;simp only at hk J;have z2:=Z.size;refine kpC [(7,_),(8,_),(9,_),(20,_),(21,_),(22,.int .i64 (k:Int)),(10,vP)] (.c7 U U U U U U U) ?_;have b3:=x6b l fr D k;refine sr (lt' U (nn (sq (cd U (λc1=>?_) (λc1=>?_)))));refine sk (tn (sq (bl (sr ?_))));replace hs:=a6.ext Z;refine z1a (hd0) U hs U z3j z1d (λa7 a0=>?_);refine z1j U (a0 _ hs) z5v (al u4b U (λb1 w3 a8 I q3 z3=>?_));refine z0i (vs:=[_,_,_,_,_]) U I z8y (λw4 I q4 z4=>?_) (h1:=(by first|(simp[Value.oneCell',S];done)|exact z3w.one _));refine nn (sq ?_);refine rbo (r:=35) (L':=[(7,_),(8,_),(9,_),(10,_),(12,_),(20,_),(21,_),(22,_)]) ((((btL fr D)<(l.getD k hd0).s)/\((l.getD k hd0).s<(btH fr D)))) (.c8 U U U U U U U U) ?_ ?_;refine fad U x0b (z0g U I U na3 (mv U (gt' U (mv U (gs 30 U (λg0=>?_) (λg0=>?_))))));exact gY U (fad U x0b (gY U (z0g U I U na3 (gY U (mv U (gY U (lt' U (pkt U (rbe U (.c8 U U U U U U U U))))))))));exact gN U (gN U (gN U (gN U (pkf U (rbe U (.c8 U U U U U U U U))))));refine tn (cd U (λc2=>?_) (λc2=>?_));refine rg (mv U (fad U v3j (z1q (vs:=[_,_]) U I z3t U (fad U j2n (x2b U z6d U (z0g U I U x1e (eq' U (mv U (z1s (cs:=[_,_,_,_]) (ev3 U) u7o (z0h U (z0h U (z0h U z0q))) U ?_)))))))));refine z2l ([(⟨(l.getD k hd0).id,decide ((l.getD k hd0).b=1),btD fr D⟩:Pa)]) (ev1 U) U z9h (λb2 w5 a9 a1 q5 z5=>?_);replace J:=((J.ext q3).fr q4 (by first|exact y0m J (by omega)|simp[z0x]<;>omega)).ext q5;have O:=J;refine z2g U J a1.sl z9h (by unfold maxLen;simp only[List.length_cons,List.length_nil];omega) (by simp only[List.length_cons,List.length_nil];omega) (λb6 w6 J q6 a5=>?_);have z6:=q6.size;refine asg U (kpL [(7,_),(8,_),(9,_),(10,_),(20,_),(21,_),(22,_)] (.c7 U U U U U U U) (nl (bn' (tn (rg (z0v U (wi6 (by omega)) (mv U (nl ?_))))))));exact lpE ((k+1,_)) (.c7 U U U U U U U) ⟨((Z.z3 q3 q4 q5).step q6 (λk hk a3=>absurd (O.blk k hk).1 (by omega))),⟨by simp only;omega,by rw[j9i (by omega) c2];exact J⟩⟩ (by simp only;omega);refine sk (bn' (tn (rg (z0v U (wi6 (by omega)) (mv U (nl ?_))))));replace J:=(J.ext q3).fr q4 (by first|exact y0m J (by omega)|simp[z0x]<;>omega);exact lpE ((k+1,_)) (.c7 U U U U U U U) ⟨(Z.z2 q3 q4),⟨by simp only;omega,by rw[j8w (by omega) c2];exact J⟩⟩ (by simp only;omega);obtain rfl:k=l.length:=by omega
 have b4:=v3q l fr D;refine ex (te (te (xh (tn ?_))));refine jn (ι:=Unit) [(10,_)] (λ_j=>[]) (λ_j w'=>Fr [] w0 w'/\Lw.Own z1t 100 w0.heap.size w' vP (btw l fr D)) (.cons U .nil) ?_ ?_;refine sr (mv U (eq' U (kpL [(10,_),(49,_)] (.c2 U U) (nn (cd U (λc3=>?_) (λc3=>?_))))));refine rg (mv U ?_);have a4:=J;refine cl (ev1 U) (mkC func196) (x3t w0.heap.size _ _ _ J (by omega)) U ?_;rintro _ w7 ⟨J,q7⟩;have z7:=q7.size;refine nl ?_;exact jE (()) (.cons U .nil) ⟨(Z.step q7 (λk hk a3=>absurd (a4.blk k hk).1 (by omega))),(by rw[j3h c3];exact J)⟩;refine sk ?_;exact jE (()) (.cons U .nil) ⟨Z,(by rw[j6t c3];exact J)⟩;rintro _j w8 ⟨q8,J⟩;have z8:=q8.size;refine kpC [(10,_)] (.cons U .nil) (sr (mv U (cl (ev1 U) (mkC func197) (y5u _ (btw l fr D) _ J.sl (by omega)) U ?_)));rintro _ w9 ⟨a2,rfl,b0,hX,q9⟩;have z9:=q9.size;refine asg U (nn (rt (r1 results149 U ?_)));exact⟨_,rfl,⟨a2,rfl,by omega,hX.low (by omega)⟩,(q8.n1 q9)⟩
end Go.Proofs.YtpgdchkdlgkmgaaGreatDoor
namespace Go.G08
open Go.Lw Go.G21
theorem Own.neO {α β:Type}{E:Enc α}{J:Enc β}{T T' b b':Nat}{w:World}{v I:Value}{ys:List α}{zs:List β}(h:Lw.Own E T b w v ys)(M:Lw.Own J T' b' w I zs)(O:T≠T'):∀k∈z0x v,k∉z0x I:=by
 intro k D;rcases h with ⟨rfl,rfl⟩|⟨g,cap,cur,rfl,_,Z,_⟩
 cases D;obtain rfl:k=g:=by simpa[z0x] using D
 exact M.neB Z (Ne.symm O)
theorem v5o (B:Bd)(r d:Int)(i:Nat):x4x B r d (i+1)=x4x B r d i++v3h B r d i:=by unfold x4x;rw[List.range_succ,List.flatMap_append];simp
theorem y8y (B:Bd)(r d p:Int)(i:Nat):z7u B r d p (i+1)=z7u B r d p i++y2y B r d p i:=by unfold z7u;rw[List.range_succ,List.flatMap_append];simp
theorem v4k {α β:Type}(f:α->List β){l:List α}{j:Nat}(d:α)(h:j<l.length):(l.take (j+1)).flatMap f=(l.take j).flatMap f++f (l.getD j d):=by
 rw[z5q d h,List.flatMap_append];simp
theorem v7c {B:Bd}(h:BdOk B)(k:Nat):(B.b.getD k []).length<=4:=by
 have:=y6k h 1 ((k:Int)+1);unfold Bd.at atB at this;rwa [if_neg (by decide),show ((k:Int)+1-1).toNat=k by omega]at this
theorem x6a {B:Bd}(h:BdOk B)(b n:Int):(B.atC b n).length<=4:=by
 unfold Bd.atC;split;exact y6k h b n;simp
theorem flat_len {α β:Type}(f:α->List β)(m:Nat)(hf:∀x,(f x).length<=m):∀l:List α,(l.flatMap f).length<=m*l.length
 | []=>by simp
 | x::l=>by have:=flat_len f m hf l;have:=hf x;rw[List.flatMap_cons,List.length_append,List.length_cons];rw[Nat.mul_succ];omega
theorem u3m {B:Bd}(h:BdOk B)(r d:Int)(k:Nat):(v3h B r d k).length<=16:=by
 unfold v3h;have D:=flat_len (λx=>(B.atC 0 (y0l r d k)).reverse.map (x7k d x)) 4 (λx=>by rw[List.length_map,List.length_reverse];exact x6a h _ _) (B.b.getD k []);have:=v7c h k;omega
theorem v0h {B:Bd}(h:BdOk B)(r d:Int)(i:Nat):(x4x B r d i).length<=16*i:=by
 have:=flat_len (v3h B r d) 16 (u3m h r d) (List.range i);rw[List.length_range]at this;exact this
theorem v2q {B:Bd}(h:BdOk B)(r d p:Int)(k:Nat):(y2y B r d p k).length<=4:=by
 unfold y2y;split;simp;rw[List.length_map];exact v7c h k
theorem x4o {B:Bd}(h:BdOk B)(r d p:Int)(i:Nat):(z7u B r d p i).length<=4*i:=by
 have:=flat_len (y2y B r d p) 4 (v2q h r d p) (List.range i);rw[List.length_range]at this;exact this
theorem x3p {B:Bd}(h:BdOk B)(r d p:Int):(z4j B r d p).length<=4*B.b.length:=by
 have:=x4o h r d p B.b.length;unfold z4j;split;rw[List.length_reverse];exact this;exact this
theorem y5s {B:Bd}(h:BdOk B)(r d:Int):(z3m B r d).length<=16*B.b.length:=by
 have:=v0h h r d B.b.length;unfold z3m;split;rw[List.length_reverse];exact this;exact this
end Go.G08
namespace Go.Proofs.YtpgdchkdlgkmgaaGreatDoor
open Go.Lw Go.G21 Go.G08 _root_.Go.Proofs.Tryz
set_option maxHeartbeats 2000000 in
theorem u0k (q:BdQ)(r d I:Int)(w0:World)(O:BdAt w0 q)(hv:BdOk q.p)(hT:StT w0)(hr:-4<=r/\r<=4)(hd:d=0\/d=1)(d6:-4<=r+stI d/\r+stI d<=4)(hp:¬Int.tmod I 2=0)(d4:-9223372036854775808<=I/\I<=9223372036854775807):Rets prog 145 #[.agg #[.slice q.f.1 q.f.2.1 q.f.2.2,.slice q.b.1 q.b.2.1 q.b.2.2],.int .i64 r,.int .u8 d,.int .i64 I] w0 λv w'=>(∃g,v=.tuple #[.slice (some ⟨g,0,none⟩) (z4j q.p r d I).length (z4j q.p r d I).length,.int .i64 0]/\w0.heap.size<=g/\Lw.Own z1t 100 w0.heap.size w' (.slice (some ⟨g,0,none⟩) (z4j q.p r d I).length (z4j q.p r d I).length) (z4j q.p r d I))/\Fr [] w0 w':=by
 obtain⟨⟨hf,hb⟩,h4,b0⟩:=z3k hv;have b2:=x3p hv r d I;rw[List.length_map]at b2;refine we [(0,.agg #[.slice q.f.1 q.f.2.1 q.f.2.2,.slice q.b.1 q.b.2.1 q.b.2.2]),(1,.int .i64 r),(2,.int .u8 d),(3,.int .i64 I)] func145 U ntmps145 U (.c4 U U U U) ?_;have J:=O;have a1:=hT;refine sr (bx U (λg4 w1 d3 Z q1 z1=>(asg U (asg U (nn (sq (sr (z0k U Z z5x (mv U (mv U ?_))))))))));replace O:=J.ext q1;replace hT:=a1.ext q1;refine cl (ev3 U) (mkC func195) (x2m q _ _ _ O hv hT (by omega) hd (by omega)) U ?_;rintro _ w2 ⟨rfl,q2⟩;have z2:=q2.size;refine asg U (nn (sr (mv U (ne' U (nn (cd U (λc0=>?_) (λc0=>?_)))))));exact absurd U c0;refine sk (tn (sq (sr (mv U (y1g U (by first|exact IntWalk.rem_in _ _ (by omega)|rfl) (eq' U (nn ?_)))))));refine cd U (λc1=>?_) (λc1=>?_);exact absurd c1 hp;refine sk (tn (sr (asg U (nn ?_))));refine jn (ι:=Unit) [(1,_),(2,_),(3,_),(4,_)] (λ_j=>[(11,.int .u8 (1-d))]) (λ_j w'=>Fr [] w2 w') (.c4 U U U U) ?_ ?_;refine sr (mv U (eq' U (nn (cd U (λc2=>?_) (λc2=>?_)))));refine rg (asg U (nl ?_));exact jE (()) (.c5 U U U U (congrArg (λz=>some (Value.int .u8 z)) (by omega))) (Fr.refl _ _);refine sk ?_;exact jE (()) (.c5 U U U U (congrArg (λz=>some (Value.int .u8 z)) (by omega))) (Fr.refl _ _);rintro _j w3 q3;have z3:=q3.size;refine kpC [(1,_),(2,_),(3,_),(4,_),(11,_)] (.c5 U U U U U) (sr (asg U (nn (sq (sr (fad U y0o ?_))))));replace Z:=Z.ext (q2.n1 q3);refine z0g U Z U x1w (lnS U underlying30 (mv U (nn (bl ?_))));refine lpK (ι:=Nat×Value) [(1,_),(2,_),(3,_),(11,_),(31,_),(32,_)] (λp=>[(33,.int .i64 (p.1:Int)),(12,p.2)]) (λp w'=>Fr [] w0 w'/\p.1<=q.bs.length/\Lw.Own z1t 100 w0.heap.size w' p.2 (z7u q.p r d I p.1)) (λp=>q.bs.length-p.1) (0,_) (.c8 U U U U U U U U) ⟨(q1.n2 q2 q3),⟨Nat.zero_le _,Own.nil _⟩⟩ ?_;rintro⟨i,uI⟩ w4 ⟨q4,⟨hi,D⟩⟩;simp only at hi D;have z4:=q4.size;refine kpC [(1,_),(2,_),(3,_),(11,_),(31,_),(32,_),(33,.int .i64 (i:Int)),(12,uI)] (.c8 U U U U U U U U) ?_;have d5:=z1u J.b;have d1:=x4o hv r d I i;have d7:=z3n b0 i;have d9:=z1u (z1x J.bi i);have e0:-300<=z2r 1 ((i:Int)+1) r/\z2r 1 ((i:Int)+1) r<=300:=by
  unfold z2r;split;omega;split<;>omega
 have e1:stI d = -1\/stI d=1:=by unfold stI;split<;>simp
 refine sr (lt' U (nn (sq (cd U (λc3=>?_) (λc3=>?_)))));refine sk (tn (sq (bl (sr (mv U ?_)))));replace O:=J.ext q4;refine z1a (iq0) U O.b U y4f z1d (λb5 a2=>?_);refine z1g U (a2 _ O.b) z6c (asg U (asg U (nn (sr (mv U (z0v U (wi6 (by omega)) (z1s (cs:=[_,_]) (ev2 U) y7w (z0h U (z0h U z0q)) U ?_)))))));refine mv U (cl (ev2 U) v0x (y2h _ _ _ _ (by omega)) U ?_);rintro _ w5 ⟨rfl,q5⟩;have z5:=q5.size;refine asg U (kpL [(1,_),(2,_),(3,_),(11,_),(12,_),(14,_),(15,_),(31,_),(32,_),(33,_)] (.d8 U U U U U U U U (.c2 U U)) (nn (sq (sq ?_))));refine rbo (r:=59) (L':=[(1,_),(2,_),(3,_),(11,_),(12,_),(14,_),(31,_),(32,_),(33,_)]) (((I≠((z2r 1 ((i:Int)+1) r)+(stI d)))/\(I≠((z2r 1 ((i:Int)+1) r)+(3*(stI d)))))) (.d8 U U U U U U U U (.cons U .nil)) ?_ ?_;refine mv U (mv U (mv U (y4c U U underlying290 sz3 ?_)));replace hT:=a1.ext (q4.n1 q5);refine z6x U hT.c (y5j hd) na3 (z0v U (wi6 (by omega)) (ne' U (mv U (gs 50 U (λg0=>?_) (λg0=>?_)))));refine gY U (mv U (gY U (mv U (gY U (mv U (gY U (y4c U U underlying290 sz3 (gY U (z6x U hT.c (y5j hd) na3 (gY U (x5u U U (wi6 (by omega)) U ?_)))))))))));exact gY U (z0v U (wi6 (by omega)) (gY U (ne' U (pkt U (rbe U (.d8 U U U U U U U U (.cons U .nil)))))));exact gN U (gN U (gN U (gN U (gN U (gN U (gN U (gN U (pkf U (rbe U (.d8 U U U U U U U U (.cons U .nil)))))))))));refine tn (cd U (λc4=>?_) (λc4=>?_));refine ex (te (xh (tn (rg (z0v U (wi6 (by omega)) (mv U (nl ?_)))))));replace D:=D.ext q5;exact lpE ((i+1,_)) (.c8 U U U U U U U U) ⟨(q4.n1 q5),⟨by simp only;omega,by rw[y8y,show y2y q.p r d I i=[] from if_pos c4,List.append_nil];exact D⟩⟩ (by simp only;omega);refine sk (tn (sr (mv U (lnS U underlying37 (mv U (nn (bl ?_)))))));replace D:=D.ext q5;refine lpK (ι:=Nat×Value) [(1,_),(2,_),(3,_),(11,_),(31,_),(32,_),(33,_),(60,_),(61,_)] (λp=>[(62,.int .i64 (p.1:Int)),(12,p.2)]) (λp w'=>Fr [] w0 w'/\p.1<=(q.bs.getD i iq0).2.length/\Lw.Own z1t 100 w0.heap.size w' p.2 ((z7u q.p r d I i)++((q.bs.getD i iq0).2.take p.1).map (λx=>(⟨x,true,1-d⟩:Pa)))) (λp=>(q.bs.getD i iq0).2.length-p.1) (0,uI) (.d8 U U U U U U U U (.c3 U U U)) ⟨(q4.n1 q5),⟨Nat.zero_le _,by simpa using D⟩⟩ ?_;rintro⟨j,uJ⟩ w6 ⟨q6,⟨hj,D⟩⟩;simp only at hj D;have z6:=q6.size;refine kpC [(1,_),(2,_),(3,_),(11,_),(31,_),(32,_),(33,_),(60,_),(61,_),(62,.int .i64 (j:Int)),(12,uJ)] (.d8 U U U U U U U U (.c3 U U U)) (sr (lt' U (nn (sq (cd U (λc5=>?_) (λc5=>?_))))));refine sk (tn (sq (bl (sr ?_))));replace O:=J.ext q6;refine z1a (id0) U (z1x O.bi i) U z6o z1d (λb6 a3=>?_);refine z1j U (a3 _ (z1x O.bi i)) z3t (al y4p U (λc9 w7 b7 M q7 z7=>?_));refine z0i (vs:=[_,_]) U M y3i (λw8 M q8 z8=>?_) (h1:=(by first|(simp[Value.oneCell',S];done)|exact z1k.one _));refine nn (rg (mv U (z0k U M z3t (mv U (z1s (cs:=[_,_,_,_]) (ev3 U) u7o (z0h U (z0h U (z0h U z0q))) U ?_)))));refine z2l ([(⟨((q.bs.getD i iq0).2.getD j id0),true,1-d⟩:Pa)]) (ev1 U) U z9h (λd0 w9 b8 a4 q9 z9=>?_);replace D:=((D.ext q7).fr q8 (by first|exact y0m D (by omega)|simp[z0x]<;>omega)).ext q9;have a0:=D;refine z2g U D a4.sl z9h (by unfold maxLen;simp only[List.length_append,List.length_map,List.length_take,List.length_cons,List.length_nil];omega) (by simp only[List.length_append,List.length_map,List.length_take,List.length_cons,List.length_nil];omega) (λe2 e3 D a5 b4=>?_);have e7:=a5.size;refine asg U (kpL [(1,_),(2,_),(3,_),(11,_),(12,_),(31,_),(32,_),(33,_),(60,_),(61,_),(62,_)] (.d8 U U U U U U U U (.c3 U U U)) (nl (bn' (tn (rg (z0v U (wi6 (by omega)) (mv U (nl ?_))))))));exact lpE ((j+1,_)) (.d8 U U U U U U U U (.c3 U U U)) ⟨((q6.z3 q7 q8 q9).step a5 (λk hk b1=>absurd (a0.blk k hk).1 (by omega))),⟨by simp only;omega,by rw[y4s (λx=>(⟨x,true,1-d⟩:Pa)) id0 (by omega),<-List.append_assoc];exact D⟩⟩ (by simp only;omega);obtain rfl:j=(q.bs.getD i iq0).2.length:=by omega
 rw[List.take_length]at D;refine ex (te (te (xh (bn' (tn (rg (z0v U (wi6 (by omega)) (mv U (nl ?_)))))))));exact lpE ((i+1,_)) (.c8 U U U U U U U U) ⟨q6,⟨by simp only;omega,by rw[y8y,show y2y q.p r d I i=_ from if_neg c4,z3r];exact D⟩⟩ (by simp only;omega);obtain rfl:i=q.bs.length:=by omega
 refine ex (te (te (xh (tn ?_))));refine jn (ι:=Unit) [(12,_)] (λ_j=>[]) (λ_j w'=>Fr [] w0 w'/\Lw.Own z1t 100 w0.heap.size w' uI (z4j q.p r d I)) (.cons U .nil) ?_ ?_;refine sr (mv U (eq' U (kpL [(12,_),(75,_)] (.c2 U U) (nn (cd U (λc6=>?_) (λc6=>?_))))));refine rg (mv U ?_);have b3:=D;refine cl (ev1 U) (mkC func196) (x3t w0.heap.size _ _ _ D (by omega)) U ?_;rintro _ e4 ⟨D,a6⟩;have e8:=a6.size;refine nl ?_;exact jE (()) (.cons U .nil) ⟨(q4.step a6 (λk hk b1=>absurd (b3.blk k hk).1 (by omega))),(by rw[show z4j q.p r d I=_ from if_pos (by omega),List.length_map];exact D)⟩;refine sk ?_;exact jE (()) (.cons U .nil) ⟨q4,(by rw[show z4j q.p r d I=_ from if_neg (by omega),List.length_map];exact D)⟩;rintro _j e5 ⟨a7,D⟩;have e9:=a7.size;refine kpC [(12,_)] (.cons U .nil) (sr (mv U (cl (ev1 U) (mkC func197) (y5u _ (z4j q.p r d I) _ D.sl (by omega)) U ?_)));rintro _ e6 ⟨a9,rfl,b9,hX,a8⟩;have f0:=a8.size;refine asg U (asg U (nn (rt (r2 results145 U U ?_))));exact⟨_,rfl,⟨a9,rfl,by omega,hX.low (by omega)⟩,(a7.n1 a8)⟩
theorem j4x:BuildAt prog 246 [(0,2),(2,2),(4,1)] [(.int .u8 0),(.int .i64 0),(.int .u8 0),(.int .i64 0),(.int .i64 0)]:=BuildAt.struct underlying246 (λ_=>by kernel_rfl) (λ_=>by kernel_rfl)
set_option maxHeartbeats 4000000 in
theorem j0v (q:BdQ)(r d:Int)(w0:World)(hB:BdAt w0 q)(hv:BdOk q.p)(hT:StT w0)(hr:-4<=r/\r<=4)(hd:d=0\/d=1)(f9:-4<=r+stI d/\r+stI d<=4):Rets prog 147 #[.agg #[.slice q.f.1 q.f.2.1 q.f.2.2,.slice q.b.1 q.b.2.1 q.b.2.2],.int .i64 r,.int .u8 d] w0 λv w'=>(∃g,v=.tuple #[.slice (some ⟨g,0,none⟩) (z3m q.p r d).length (z3m q.p r d).length,.int .i64 0]/\w0.heap.size<=g/\Lw.Own z4v 246 w0.heap.size w' (.slice (some ⟨g,0,none⟩) (z3m q.p r d).length (z3m q.p r d).length) (z3m q.p r d))/\Fr [] w0 w':=by
 obtain⟨⟨hf,hb⟩,h4,b3⟩:=z3k hv;have f8:=z1u hB.b;have e0:=y5s hv r d;rw[List.length_map]at e0;refine we [(0,.agg #[.slice q.f.1 q.f.2.1 q.f.2.2,.slice q.b.1 q.b.2.1 q.b.2.2]),(1,.int .i64 r),(2,.int .u8 d)] func147 U ntmps147 U (.c3 U U U) ?_;have a3:=hB;have d6:=hT;refine sr (bx U (λg3 w1 f7 Z q1 z1=>(asg U (asg U (nn (sq (sr (z0k U Z z5x (mv U (mv U ?_))))))))));replace hB:=a3.ext q1;replace hT:=d6.ext q1;refine cl (ev3 U) (mkC func195) (x2m q _ _ _ hB hv hT (by omega) hd (by omega)) U ?_;rintro _ w2 ⟨rfl,q2⟩;have z2:=q2.size;replace Z:=Z.ext q2;have b4:=Z;refine asg U (nn (sr (mv U (ne' U (nn (cd U (λc0=>?_) (λc0=>?_)))))));exact absurd U c0;refine sk (tn (sr (asg U (nn (sq (sr (fad U y0o (z0g U Z U x1w (lnS U underlying30 (mv U (nn (bl ?_))))))))))));refine lpK (ι:=Nat×Value) [(1,_),(2,_),(3,_),(26,_),(27,_)] (λp=>[(28,.int .i64 (p.1:Int)),(9,p.2)]) (λp w'=>Fr [] w2 w'/\p.1<=q.bs.length/\Lw.Own z4v 246 w2.heap.size w' p.2 (x4x q.p r d p.1)) (λp=>q.bs.length-p.1) (0,_) (.c7 U U U U U U U) ⟨(Fr.refl _ _),⟨Nat.zero_le _,Own.nil _⟩⟩ ?_;rintro⟨i,uI⟩ w3 ⟨q3,⟨hi,I⟩⟩;simp only at hi I;have z3:=q3.size;refine kpC [(1,_),(2,_),(3,_),(26,_),(27,_),(28,.int .i64 (i:Int)),(9,uI)] (.c7 U U U U U U U) ?_;have f5:=v0h hv r d i;have g0:=z3n b3 i;have g1:=z1u (z1x a3.bi i);have f6:-10<=y0l r d i/\y0l r d i<=50:=by unfold y0l;split<;>omega
 have d7:((q.p.atC 0 (y0l r d i)).reverse).length<=4:=by rw[List.length_reverse];exact x6a hv _ _
 refine sr (lt' U (nn (sq (cd U (λc1=>?_) (λc1=>?_)))));refine sk (tn (sq (bl (sr (mv U ?_)))));replace hB:=a3.ext (q1.n2 q2 q3);refine z1a (iq0) U hB.b U y4f z1d (λe3 b5=>?_);refine z1g U (b5 _ hB.b) z6c (asg U (asg U (nn (sr (mv U (z0v U (wi6 (by omega)) (mv U (z0v U (wi6 (by omega)) (asg U (nn ?_))))))))));refine jn (ι:=Unit) [(1,_),(2,_),(3,_),(9,_),(11,_),(26,_),(27,_),(28,_)] (λ_j=>[(12,.int .i64 (y0l r d i))]) (λ_j w'=>Fr [] w2 w'/\Lw.Own z4v 246 w2.heap.size w' uI (x4x q.p r d i)) (.c8 U U U U U U U U) ?_ ?_;refine sr (mv U (eq' U (nn (cd U (λc2=>?_) (λc2=>?_)))));refine rg (mv U (z2o U (wi6 (by omega)) (asg U (nl ?_))));exact jE (()) (.d8 U U U U U U U U (.cons (by first|(rw[show y0l r d i=_ from if_pos c2];rfl)|(rw[show y0l r d i=_ from if_neg c2];rfl)) .nil)) ⟨q3,I⟩;refine sk ?_;exact jE (()) (.d8 U U U U U U U U (.cons (by first|(rw[show y0l r d i=_ from if_pos c2];rfl)|(rw[show y0l r d i=_ from if_neg c2];rfl)) .nil)) ⟨q3,I⟩;rintro _j w4 ⟨q4,I⟩;have z4:=q4.size;refine kpC [(1,_),(2,_),(3,_),(9,_),(11,_),(26,_),(27,_),(28,_),(12,_)] (.d8 U U U U U U U U (.cons U .nil)) (sr ?_);replace Z:=b4.ext q4;refine z0k U Z z5x (mv U (z1s (cs:=[_,_]) (ev2 U) y7w (z0h U (z0h U z0q)) U ?_));replace hB:=a3.ext (q1.n2 q2 q4);refine cl (ev2 U) u2q (y9k q 0 (y0l r d i) _ hB (by omega) hf hb h4 b3) U ?_;rintro g4 w5 ⟨J,q5⟩;replace J:=J.low (show w2.heap.size<=_ by omega);have z5:=q5.size;refine asg U (nn (sr (mv U ?_)));have a4:=J;replace I:=I.ext q5;refine cl (ev1 U) (mkC func200) (v3z w2.heap.size _ _ _ J (by have:=x6a hv 0 (y0l r d i);omega)) U ?_;rintro _ w6 ⟨J,q6⟩;replace I:=I.fr q6 (Own.neO a4 I (by decide));have z6:=q6.size;obtain⟨b1,b2,rfl,e6⟩:=J.sl.form;refine nn (sr (mv U (lnS U underlying37 (mv U (nn (bl ?_))))));refine lpK (ι:=Nat×Value) [(1,_),(2,_),(3,_),(13,_),(26,_),(27,_),(28,_),(47,_),(48,_)] (λp=>[(49,.int .i64 (p.1:Int)),(9,p.2)]) (λp w'=>Fr [] w2 w'/\p.1<=(q.bs.getD i iq0).2.length/\Lw.Own z4v 246 w2.heap.size w' p.2 ((x4x q.p r d i)++((q.bs.getD i iq0).2.take p.1).flatMap (λx=>((q.p.atC 0 (y0l r d i)).reverse).map (x7k d x)))/\Lw.Own z1k 87 w2.heap.size w' (.slice b1 ((q.p.atC 0 (y0l r d i)).reverse).length b2) ((q.p.atC 0 (y0l r d i)).reverse)) (λp=>(q.bs.getD i iq0).2.length-p.1) (0,_) (.d8 U U U U U U U U (.c3 U U U)) ⟨((q4.n1 q5).step q6 (λk hk b0=>absurd (a4.blk k hk).1 (by omega))),⟨Nat.zero_le _,by simpa using I,J⟩⟩ ?_;rintro⟨j,uJ⟩ w7 ⟨q7,⟨hj,I,J⟩⟩;simp only at hj I;have z7:=q7.size;refine kpC [(1,_),(2,_),(3,_),(13,_),(26,_),(27,_),(28,_),(47,_),(48,_),(49,.int .i64 (j:Int)),(9,uJ)] (.d8 U U U U U U U U (.c3 U U U)) ?_;have d9:=flat_len (λx=>((q.p.atC 0 (y0l r d i)).reverse).map (x7k d x)) 4 (λx=>by rw[List.length_map];exact d7) ((q.bs.getD i iq0).2.take j);rw[List.length_take]at d9;refine sr (lt' U (nn (sq (cd U (λc3=>?_) (λc3=>?_)))));refine sk (tn (sq (bl (sr ?_))));replace hB:=a3.ext (q1.n2 q2 q7);refine z1a (id0) U (z1x hB.bi i) U z6o z1d (λe4 b6=>?_);refine z1j U (b6 _ (z1x hB.bi i)) z3t (al y4p U (λd4 w8 e7 D q8 z8=>?_));refine z0i (vs:=[_,_]) U D y3i (λw9 D q9 z9=>?_) (h1:=(by first|(simp[Value.oneCell',S];done)|exact z1k.one _));refine nn (sr (mv U (lnS U underlying37 (mv U (nn (bl ?_))))));replace I:=(I.ext q8).fr q9 (by first|exact y0m I (by omega)|simp[z0x]<;>omega);replace J:=(J.ext q8).fr q9 (by first|exact y0m J (by omega)|simp[z0x]<;>omega);refine lpK (ι:=Nat×Value) [(1,_),(2,_),(3,_),(13,_),(15,_),(26,_),(27,_),(28,_),(47,_),(48,_),(49,_),(53,_),(54,_)] (λp=>[(55,.int .i64 (p.1:Int)),(9,p.2)]) (λp w'=>Fr [] w2 w'/\p.1<=((q.p.atC 0 (y0l r d i)).reverse).length/\Lw.Own z4v 246 w2.heap.size w' p.2 (((x4x q.p r d i)++((q.bs.getD i iq0).2.take j).flatMap (λx=>((q.p.atC 0 (y0l r d i)).reverse).map (x7k d x)))++(((q.p.atC 0 (y0l r d i)).reverse).take p.1).map (x7k d ((q.bs.getD i iq0).2.getD j id0)))/\Lw.Own z1k 87 w2.heap.size w' (.slice b1 ((q.p.atC 0 (y0l r d i)).reverse).length b2) ((q.p.atC 0 (y0l r d i)).reverse)/\Blk w' d4 87 (z1k.enc ((q.bs.getD i iq0).2.getD j id0))) (λp=>((q.p.atC 0 (y0l r d i)).reverse).length-p.1) (0,_) (.d8 U U U U U U U U (.c7 U U U U U U U)) ⟨(q7.z2 q8 q9),⟨Nat.zero_le _,by simpa using I,J,D⟩⟩ ?_;rintro⟨k,uK⟩ g7 ⟨a5,⟨hk,I,J,D⟩⟩;simp only at hk I;have h9:=a5.size;have c9:=D.lt;refine kpC [(1,_),(2,_),(3,_),(13,_),(15,_),(26,_),(27,_),(28,_),(47,_),(48,_),(49,_),(53,_),(54,_),(55,.int .i64 (k:Int)),(9,uK)] (.d8 U U U U U U U U (.c7 U U U U U U U)) (sr (lt' U (nn (sq (cd U (λc4=>?_) (λc4=>?_))))));refine sk (tn (sq (bl (sr (z1a (id0) U J.sl U z6o z1d (λe5 b7=>?_))))));refine z1j U (b7 _ J.sl) z3t (al y4p U (λf2 g8 e8 a2 M i0=>?_));refine z0i (vs:=[_,_]) U a2 y3i (λg9 a2 O i1=>?_) (h1:=(by first|(simp[Value.oneCell',S];done)|exact z1k.one _));refine nn (sr (mv U (eq' U (nn (cd U (λc5=>?_) (λc5=>?_))))));refine rg (mv U (z0k U a2 z3t ?_));replace D:=(D.ext M).fr O;refine z0k U D z3t (z1s (cs:=[_,_,_,_,_]) (ev3 U) j4x (z0h U (z0h U (z0h U z0q))) U ?_);refine z2l ([(⟨(((q.p.atC 0 (y0l r d i)).reverse).getD k id0),((q.bs.getD i iq0).2.getD j id0),1⟩:Cx)]) (ev1 U) U y3e (λf3 h0 e9 b8 a6 i2=>?_);replace J:=((J.ext M).fr O (by first|exact y0m J (by omega)|simp[z0x]<;>omega)).ext a6;replace D:=D.ext a6;replace I:=((I.ext M).fr O (by first|exact y0m I (by omega)|simp[z0x]<;>omega)).ext a6;have a0:=I;refine z2g U I b8.sl y3e (by unfold maxLen;simp only[List.length_append,List.length_map,List.length_take,List.length_cons,List.length_nil];omega) (by simp only[List.length_append,List.length_map,List.length_take,List.length_cons,List.length_nil];omega) (λg5 h2 I a7 e1=>?_);have i3:=a7.size;replace J:=J.fr a7 ((Own.neO a0 J (by decide)));replace D:=D.fr a7 (λhk=>a0.neB D (by decide) hk);refine asg U (kpL [(1,_),(2,_),(3,_),(9,_),(13,_),(15,_),(26,_),(27,_),(28,_),(47,_),(48,_),(49,_),(53,_),(54,_),(55,_)] (.d8 U U U U U U U U (.c7 U U U U U U U)) (nl (bn' (tn (rg (z0v U (wi6 (by omega)) (mv U (nl ?_))))))));exact lpE ((k+1,_)) (.d8 U U U U U U U U (.c7 U U U U U U U)) ⟨((a5.z3 M O a6).step a7 (λk hk b0=>absurd (a0.blk k hk).1 (by omega))),⟨by simp only;omega,by rw[y4s (x7k d ((q.bs.getD i iq0).2.getD j id0)) id0 (by omega),<-List.append_assoc,show x7k d ((q.bs.getD i iq0).2.getD j id0) (((q.p.atC 0 (y0l r d i)).reverse).getD k id0)=_ from if_pos c5];exact I,J,D⟩⟩ (by simp only;omega);refine rg (mv U ?_);replace D:=(D.ext M).fr O;refine z0k U D z3t (z0k U a2 z3t (z1s (cs:=[_,_,_,_,_]) (ev3 U) j4x (z0h U (z0h U (z0h U z0q))) U ?_));refine z2l ([(⟨((q.bs.getD i iq0).2.getD j id0),(((q.p.atC 0 (y0l r d i)).reverse).getD k id0),-1⟩:Cx)]) (ev1 U) U y3e (λf4 h3 f0 b9 a8 i4=>?_);replace J:=((J.ext M).fr O (by first|exact y0m J (by omega)|simp[z0x]<;>omega)).ext a8;replace D:=D.ext a8;replace I:=((I.ext M).fr O (by first|exact y0m I (by omega)|simp[z0x]<;>omega)).ext a8;have a1:=I;refine z2g U I b9.sl y3e (by unfold maxLen;simp only[List.length_append,List.length_map,List.length_take,List.length_cons,List.length_nil];omega) (by simp only[List.length_append,List.length_map,List.length_take,List.length_cons,List.length_nil];omega) (λg6 h5 I a9 e2=>?_);have i5:=a9.size;replace J:=J.fr a9 ((Own.neO a1 J (by decide)));replace D:=D.fr a9 (λhk=>a1.neB D (by decide) hk);refine asg U (kpL [(1,_),(2,_),(3,_),(9,_),(13,_),(15,_),(26,_),(27,_),(28,_),(47,_),(48,_),(49,_),(53,_),(54,_),(55,_)] (.d8 U U U U U U U U (.c7 U U U U U U U)) (nl (bn' (tn (rg (z0v U (wi6 (by omega)) (mv U (nl ?_))))))));exact lpE ((k+1,_)) (.d8 U U U U U U U U (.c7 U U U U U U U)) ⟨((a5.z3 M O a8).step a9 (λk hk b0=>absurd (a1.blk k hk).1 (by omega))),⟨by simp only;omega,by rw[y4s (x7k d ((q.bs.getD i iq0).2.getD j id0)) id0 (by omega),<-List.append_assoc,show x7k d ((q.bs.getD i iq0).2.getD j id0) (((q.p.atC 0 (y0l r d i)).reverse).getD k id0)=_ from if_neg c5];exact I,J,D⟩⟩ (by simp only;omega);obtain rfl:k=((q.p.atC 0 (y0l r d i)).reverse).length:=by omega
 rw[List.take_length]at I;refine ex (te (te (xh (bn' (tn (rg (z0v U (wi6 (by omega)) (mv U (kpL [(1,_),(2,_),(3,_),(9,_),(13,_),(26,_),(27,_),(28,_),(47,_),(48,_),(49,_)] (.d8 U U U U U U U U (.c3 U U U)) (nl ?_))))))))));exact lpE ((j+1,_)) (.d8 U U U U U U U U (.c3 U U U)) ⟨a5,⟨by simp only;omega,by rw[v4k (λx=>((q.p.atC 0 (y0l r d i)).reverse).map (x7k d x)) id0 (by omega),<-List.append_assoc];exact I,J⟩⟩ (by simp only;omega);obtain rfl:j=(q.bs.getD i iq0).2.length:=by omega
 rw[List.take_length]at I;refine ex (te (te (xh (bn' (tn (rg (z0v U (wi6 (by omega)) (mv U (kpL [(1,_),(2,_),(3,_),(9,_),(26,_),(27,_),(28,_)] (.c7 U U U U U U U) (nl ?_))))))))));exact lpE ((i+1,_)) (.c7 U U U U U U U) ⟨q7,⟨by simp only;omega,by rw[v5o,show v3h q.p r d i=(q.bs.getD i iq0).2.flatMap (λx=>((q.p.atC 0 (y0l r d i)).reverse).map (x7k d x)) from by unfold v3h;rw[z3r]];exact I⟩⟩ (by simp only;omega);obtain rfl:i=q.bs.length:=by omega
 refine ex (te (te (xh (tn ?_))));refine jn (ι:=Unit) [(9,_)] (λ_j=>[]) (λ_j w'=>Fr [] w0 w'/\Lw.Own z4v 246 w0.heap.size w' uI (z3m q.p r d)) (.cons U .nil) ?_ ?_;refine sr (mv U (eq' U (kpL [(9,_),(77,_)] (.c2 U U) (nn (cd U (λc6=>?_) (λc6=>?_))))));refine rg (mv U ?_);have a4:=I;refine cl (ev1 U) (mkC func201) (v5m w2.heap.size _ _ _ I (by omega)) U ?_;rintro _ h6 ⟨I,d0⟩;have i7:=d0.size;refine nl ?_;exact jE (()) (.cons U .nil) ⟨((q1.n2 q2 q3).step d0 (λk hk b0=>absurd (a4.blk k hk).1 (by omega))),(by rw[show z3m q.p r d=_ from if_pos (by omega),List.length_map];exact I.low (by omega))⟩;refine sk ?_;exact jE (()) (.cons U .nil) ⟨(q1.n2 q2 q3),(by rw[show z3m q.p r d=_ from if_neg (by omega),List.length_map];exact I.low (by omega))⟩;rintro _j h7 ⟨d1,I⟩;have i8:=d1.size;refine kpC [(9,_)] (.cons U .nil) (sr (mv U (cl (ev1 U) (mkC func202) (x7c _ (z3m q.p r d) _ I.sl (by omega)) U ?_)));rintro _ h8 ⟨d5,rfl,f1,hY,d3⟩;have i9:=d3.size;refine asg U (asg U (nn (rt (r2 results147 U U ?_))));exact⟨_,rfl,⟨d5,rfl,by omega,hY.low (by omega)⟩,(d1.n1 d3)⟩
end Go.Proofs.YtpgdchkdlgkmgaaGreatDoor
namespace Go.G08
open Go.Lw Go.G21
def orZ:List Int->Int
  | []=>0
  | x::l=>if x≠0 then x else orZ l
theorem v3l:∀ {l:List Int} {i:Nat},i<l.length->(∀j,j<i->l.getD j 0=0)->l.getD i 0≠0->orZ l=l.getD i 0
 | x::l,0,_,_,h=>by simp only[List.getD_cons_zero]at h ⊢;exact if_pos h
 | x::l,i+1,hi,hj,h=>by
  have D:=hj 0 (by omega)
  simp only[List.getD_cons_zero]at D
  rw[show orZ (x::l)=if x≠0 then x else orZ l from U,if_neg (by omega)]
  simp only[List.getD_cons_succ]at h ⊢
  exact v3l (by simpa using hi) (λj hl=>by have:=hj (j+1) (by omega);simpa only[List.getD_cons_succ] using this) h
theorem x0e:∀ {l:List Int},(∀j,j<l.length->l.getD j 0=0)->orZ l=0
 | [],_=>rfl
 | x::l,hj=>by
  have D:=hj 0 (by simp)
  simp only[List.getD_cons_zero]at D
  rw[show orZ (x::l)=if x≠0 then x else orZ l from U,if_neg (by omega)]
  exact x0e (λj hl=>by have:=hj (j+1) (by simpa using hl);simpa only[List.getD_cons_succ] using this)
theorem x9d (a b:LId):orZ [y0p a.y b.y,y0p a.n b.n]=z6k a b:=by
 unfold orZ orZ orZ y0p z6k
 repeat' split
 all_goals first|rfl|omega
end Go.G08
namespace Go.Lw
open Go.RowKit
def MapL {κ:Type}[DecidableEq κ](V:κ->Value)(w:World)(g:Nat)(m:List (κ×Value)):Prop:=
  ∃(es:Array MapEntry) (c:Nat),w.heap[g]?=some (.map es c)/\es.toList.map (λe=>(e.key,e.val))=m.map (λp=>(V p.1,p.2))/\(m.map (·.1)).Nodup/\(es.toList.map (·.born)).Nodup/\∀e∈es.toList,e.born<c
def z5h {κ:Type}[DecidableEq κ](m:List (κ×Value))(k:κ):List (κ×Value):=
  match (m.map (·.1)).findIdx? (λx=>decide (k=x)) with
  | some i=>m.eraseIdx i
  | none=>m
def MapIt {κ:Type}[DecidableEq κ](V:κ->Value)(w:World)(gi g:Nat)(m rem:List (κ×Value))(cur:Option (κ×Value)):Prop:=
  ∃(es:Array MapEntry) (c:Nat) (seen:Array Nat),w.heap[g]?=some (.map es c)/\es.toList.map (λe=>(e.key,e.val))=m.map (λp=>(V p.1,p.2))/\(es.toList.map (·.born)).Nodup/\(∀e∈es.toList,e.born<c)/\
    w.heap[gi]?=some (.mapIter (some g) c seen c)/\(leftOf es seen).toList.map (λe=>(e.key,e.val))=rem.map (λp=>(V p.1,p.2))/\∀p,cur=some p->∃e∈es.toList,∃s':Array Nat,seen=s'.push e.born/\e.key=V p.1/\e.val=p.2
theorem j5r {P:Program}{ops:Array Oper}{Q:Exit->Act->World->Prop}{o:Oper}{rest:List Oper}{a:Act}{n:Nat}{ds:List Nat}{L:List (Nat×Value)}{w w':World}{v:Value}(h:AgM ds a n L)(J:o.guard=none)(I:o.dst=none)(M:(execOp a.eval o).run P w=.ok (.value v) w')
    (k:∀a,AgM ds a n L->wpList P ops Q rest a w'):wpList P ops Q (o::rest) a w:=
  wpList_plain J λK D=>by
    unfold Oper.wp
    rw[M]
    show K (a.put o.dst v) w'
    rw[I]
    exact D _ _ (k _ h)
theorem y7j {D:Type}(m:List (D×Value))(i:Nat)(v:Value):(m.modify i λp=>(p.1,v)).map (·.1)=m.map (·.1):=by
 apply List.ext_getElem?;intro j;simp only[List.getElem?_map,List.getElem?_modify];by_cases h:i=j;subst h;cases m[i]?<;>simp
 simp[h]
theorem y0z {α β:Type}(f:α->β)(i:Nat)(l:List α):(l.eraseIdx i).map f=(l.map f).eraseIdx i:=by
 apply List.ext_getElem?;intro j;simp only[List.getElem?_map,List.getElem?_eraseIdx];split<;>rfl
section
variable {κ:Type} [DecidableEq κ] {V:κ->Value} {P:Program} {K:TypeId} {w w':World} {g:Nat} {m:List (κ×Value)} {S:List Nat}
theorem MapL.fr (h:MapL V w g m)(hf:Fr S w w')(hn:g∉S:=by simp[z0x]<;>omega):MapL V w' g m:=by
 obtain⟨I,c,D,J⟩:=h;exact⟨I,c,(hf.block g (Array.getElem?_eq_some_iff.1 D).1 hn).trans D,J⟩
theorem MapL.ext (h:MapL V w g m)(hf:Fr [] w w'):MapL V w' g m:=h.fr hf (by simp)
theorem MapL.f (h:MapL V w g m):MapF V w g (z2j m):=let ⟨es,c,h1,h2,_⟩:=h;⟨es,c,m,h1,h2,λ_=>rfl⟩
theorem MapL.lt (h:MapL V w g m):g<w.heap.size:=h.f.lt
theorem MapL.nodup (h:MapL V w g m):(m.map (·.1)).Nodup:=let ⟨_,_,_,_,h,_⟩:=h;h
theorem v3t {k:κ}(h:(m.map (·.1)).findIdx? (λx=>decide (k=x))=none):k∉m.map (·.1):=λD=>by
 rw[List.findIdx?_eq_none_iff]at h
 have:=h k D
 simp at this
theorem y7f {t E:TypeId}(h:MapL V w g m)(hk:KeyLaw P K V)(hu:P.underlying t=some (.map K E))(k:κ)(v:Value) :
    ∃w',(Instr.mapUpdate t (.map (some g)) (V k) v).run P w=.ok () w'/\MapL V w' g (z4b m k v)/\Fr [g] w w'/\w'.heap.size=w.heap.size:=by
  obtain⟨D,c,h1,h2,a7,a4,a1⟩:=h
  have a9:=(Array.getElem?_eq_some_iff.1 h1).1
  have O:D.toList.map (·.key)=(m.map (·.1)).map V:=by
    have:=congrArg (List.map Prod.fst) h2
    simpa[List.map_map,Function.comp_def] using this
  have J:=hk.find k D.toList (m.map (·.1)) w O
  have a0:∀o,(setObj g o).run P w=.ok () { w with heap:=w.heap.setIfInBounds g o }:=by intro o;simp[setObj,Sem.run,h1]
  have a5:∀o,Fr [g] w { w with heap:=w.heap.setIfInBounds g o }:=λo=>⟨rfl,rfl,rfl,by simp,λi _ hn=>by
    simp only
    rw[Array.getElem?_setIfInBounds_ne (by intro e;subst e;simp at hn)]⟩
  have M:∀o,({ w with heap:=w.heap.setIfInBounds g o }:World).heap[g]?=some o:=by intro o;simp[a9]
  have b1:D.toList.length=m.length:=by have:=congrArg List.length h2;simpa using this
  cases hf:(m.map (·.1)).findIdx? (λx=>decide (k=x)) with
  | none=>
    have ea:z4b m k v=m++[(k,v)]:=by unfold z4b;rw[hf]
    rw[ea]
    refine⟨_,?_,⟨_,_,M (.map (D.push { key:=V k,val:=v,born:=c }) (c+1)),?_,?_,?_,?_⟩,a5 _,by simp⟩
    · rw[hf]at J
      simp only[Instr.mapUpdate,Sem.run_bind,run_underlying hu,Result.andThen_ok,z2n h1,hk.check,J,Option.bind_none,a0]
    · simp[h2]
    · rw[List.map_append]
      exact List.nodup_append.2 ⟨a7,by simp,λx hx y hy=>by
        simp at hy;subst hy;intro e;subst e;exact v3t hf hx⟩
    · rw[Array.toList_push,List.map_append]
      exact List.nodup_append.2 ⟨a4,by simp,λx hx y hy=>by
        simp at hy;subst hy
        obtain⟨e,he,rfl⟩:=List.mem_map.1 hx
        have:=a1 e he;omega⟩
    · intro e he
      rw[Array.toList_push]at he
      rcases List.mem_append.1 he with h|h
      · have:=a1 e h;omega
      · simp at h;subst h;exact Nat.lt_succ_self _
  | some i=>
    have hi:i<m.length:=by
      have:=List.findIdx?_eq_some_iff_findIdx_eq.1 hf
      simpa using this.1
    have Z:i<D.toList.length:=by omega
    have a6:V k=(D.toList[i]).key:=by
      have a8:=List.findIdx?_eq_some_iff_getElem.1 hf
      obtain⟨b2,hp,_⟩:=a8
      have b0:k=(m.map (·.1))[i]:=by simpa using hp
      have e1:(D.toList.map (·.key))[i]?=((m.map (·.1)).map V)[i]?:=by rw[O]
      simp only[List.getElem?_map,List.getElem?_eq_getElem Z,List.getElem?_eq_getElem hi,Option.map_some,Option.some.injEq]at e1
      rw[e1,b0];simp
    have ea:z4b m k v=m.modify i λp=>(p.1,v):=by unfold z4b;rw[hf]
    rw[ea]
    have I:(D.modify i λe=>{ e with key:=V k,val:=v }).toList.map (·.born)=D.toList.map (·.born):=by
      apply List.ext_getElem?
      intro j
      simp only[List.getElem?_map]
      rw[Array.getElem?_toList,Array.getElem?_modify,Array.getElem?_toList]
      by_cases hj:i=j
      · subst hj;simp only[if_true];cases D[i]?<;>rfl
      · simp only[hj,if_false]
    refine⟨_,?_,⟨_,_,M (.map (D.modify i λe=>{ e with key:=V k,val:=v }) c),?_,by rw[y7j m];exact a7,by rw[I];exact a4,?_⟩,a5 _,by simp⟩
    · rw[hf]at J
      have a2:D[i]?=some D.toList[i]:=by rw[<-Array.getElem?_toList,List.getElem?_eq_getElem Z]
      simp only[Option.bind_some,List.getElem?_eq_getElem Z,Option.map_some]at J
      have a3:(Instr.keyThatStays (((D[i]?).map (·.key)).getD (V k)) (V k)).run P w=.ok (V k) w:=by
        rw[a2]
        simp only[Option.map_some,Option.getD_some,<-a6,Instr.keyThatStays,hk.bits,if_true,Sem.run_pure]
      simp only[Instr.mapUpdate,Sem.run_bind,run_underlying hu,Result.andThen_ok,z2n h1,hk.check,J,a3,a0]
    · apply List.ext_getElem?
      intro j
      have e2:=congrArg (·[j]?) h2
      simp only[List.getElem?_map]at e2 ⊢
      rw[Array.getElem?_toList,Array.getElem?_modify,List.getElem?_modify]
      rw[Array.getElem?_toList]at e2
      by_cases hj:i=j
      · subst hj
        have e3:=List.getElem?_eq_getElem hi
        have a2:D[i]?=some D.toList[i]:=by rw[<-Array.getElem?_toList,List.getElem?_eq_getElem Z]
        rw[a2,e3]at e2 ⊢
        simp only[Option.map_some,Option.some.injEq,Prod.mk.injEq]at e2
        simp only[if_true,Option.map_some]
        rw[a6,e2.1];rfl
      · simp only[hj,if_false]
        rw[e2];simp
    · intro e he
      have:e.born∈D.toList.map (·.born):=by rw[<-I];exact List.mem_map_of_mem he
      obtain⟨x,hx,hb⟩:=List.mem_map.1 this
      rw[<-hb];exact a1 x hx
theorem x5t {t E:TypeId}{ty:TypeId}(h:MapL V w g m)(hk:KeyLaw P K V)(hu:P.underlying t=some (.map K E))(k:κ) :
    ∃w',(Builtin.delete_ #[t,K] ty #[.map (some g),V k]).run P w=.ok (.tuple #[]) w'/\MapL V w' g (z5h m k)/\Fr [g] w w'/\w'.heap.size=w.heap.size:=by
  obtain⟨J,c,h1,h2,a3,a0,Z⟩:=h
  have a4:=(Array.getElem?_eq_some_iff.1 h1).1
  have O:J.toList.map (·.key)=(m.map (·.1)).map V:=by
    have:=congrArg (List.map Prod.fst) h2
    simpa[List.map_map,Function.comp_def] using this
  have D:=hk.find k J.toList (m.map (·.1)) w O
  have M:∀o,(setObj g o).run P w=.ok () { w with heap:=w.heap.setIfInBounds g o }:=by intro o;simp[setObj,Sem.run,h1]
  have a1:∀o,Fr [g] w { w with heap:=w.heap.setIfInBounds g o }:=λo=>⟨rfl,rfl,rfl,by simp,λi _ hn=>by
    simp only
    rw[Array.getElem?_setIfInBounds_ne (by intro e;subst e;simp at hn)]⟩
  have I:∀o,({ w with heap:=w.heap.setIfInBounds g o }:World).heap[g]?=some o:=by intro o;simp[a4]
  have a5:J.toList.length=m.length:=by have:=congrArg List.length h2;simpa using this
  cases hf:(m.map (·.1)).findIdx? (λx=>decide (k=x)) with
  | none=>
    have ea:z5h m k=m:=by unfold z5h;rw[hf]
    rw[ea]
    refine⟨_,?_,⟨_,_,I (.map J c),h2,a3,a0,Z⟩,a1 _,by simp⟩
    rw[hf]at D
    simp[Builtin.delete_,run_underlying hu,z2n h1,hk.check,D,M]
  | some i=>
    have ea:z5h m k=m.eraseIdx i:=by unfold z5h;rw[hf]
    rw[ea]
    have hi:i<m.length:=by
      have:=List.findIdx?_eq_some_iff_findIdx_eq.1 hf
      simpa using this.1
    have a2:i<J.toList.length:=by omega
    have el:(J.eraseIdxIfInBounds i).toList=J.toList.eraseIdx i:=by
      unfold Array.eraseIdxIfInBounds
      rw[dif_pos (by simpa using a2),Array.toList_eraseIdx]
    refine⟨_,?_,⟨_,_,I (.map (J.eraseIdxIfInBounds i) c),?_,?_,?_,?_⟩,a1 _,by simp⟩
    · rw[hf]at D
      simp only[Option.bind_some,List.getElem?_eq_getElem a2,Option.map_some]at D
      simp[Builtin.delete_,run_underlying hu,z2n h1,hk.check,D,M]
    · rw[el,y0z,y0z,h2]
    · rw[y0z];exact List.Nodup.sublist (List.eraseIdx_sublist _ _) a3
    · rw[el,y0z];exact List.Nodup.sublist (List.eraseIdx_sublist _ _) a0
    · intro e he
      rw[el]at he
      exact Z e ((List.eraseIdx_sublist _ _).mem he)
variable {a:Act} {n:Nat} {L:List (Nat×Value)} {ds:List Nat} {Q:Exit->Act->World->Prop} {C:World->Prop} {Qa:Act->Prop} {ops:Array Oper} {rest:List Oper}
variable {d:Nat} {ty:TypeId} {pos:String} {after:Array Edge} {x y z:Operand} {t E:TypeId} {k:κ} {v zv:Value}
theorem y8d (h:AgM ds a n L)(hx:ev L x=some (.map (some g)))(hy:ev L y=some (V k))(hz:ev L z=some v)(O:MapL V w g m)(M:KeyLaw P K V)(hu:P.underlying t=some (.map K E))
    (q:∀w',MapL V w' g (z4b m k v)->Fr [g] w w'->w'.heap.size=w.heap.size->∀a,AgM ds a n L->wpList P ops Q rest a w'):wpList P ops Q (⟨none,.mapUpdate t x y z,ty,pos,after,none⟩::rest) a w:=by
  obtain⟨w',Z,D,I,J⟩:=y7f O M hu k v
  exact z9p h U U (w':=w') (by simp[execOp,h.eval hx,h.eval hy,h.eval hz,Z]) (q w' D I J)
theorem j1h {J:TypeId}(h:AgM ds a n L)(hx:ev L x=some (.map (some g)))(hy:ev L y=some (V k))(hm:MapL V w g m)(hk:KeyLaw P K V)(hu:P.underlying t=some (.map K E))(he:J=K)
    (q:∀w',MapL V w' g (z5h m k)->Fr [g] w w'->w'.heap.size=w.heap.size->∀a,AgM ds a n L->wpList P ops Q rest a w'):wpList P ops Q (⟨none,.call ⟨.builtin .delete,#[x,y],#[t,J]⟩,ty,pos,after,none⟩::rest) a w:=by
  subst he
  obtain⟨w',hr,M,O,Z⟩:=x5t (ty:=ty) hm hk hu k
  refine j5r h U U (w':=w') (v:=.tuple #[]) ?_ (q w' M O Z)
  have D:=h.eval hx
  have I:=h.eval hy
  rw[z1z];unfold builtin
  simp[D,I,hr]
theorem MapIt.fr {gi:Nat}{rem:List (κ×Value)}{cur:Option (κ×Value)}(h:MapIt V w gi g m rem cur)(hf:Fr S w w')(h1:g∉S)(O:gi∉S):MapIt V w' gi g m rem cur:=by
 obtain⟨M,c,D,I,Z,k3,k4,J,k6⟩:=h;exact⟨M,c,D,(hf.block g (Array.getElem?_eq_some_iff.1 I).1 h1).trans I,Z,k3,k4,(hf.block gi (Array.getElem?_eq_some_iff.1 J).1 O).trans J,k6⟩
theorem MapIt.ext {gi:Nat}{rem:List (κ×Value)}{cur:Option (κ×Value)}(h:MapIt V w gi g m rem cur)(hf:Fr [] w w'):MapIt V w' gi g m rem cur:=h.fr hf (by simp) (by simp)
theorem MapIt.lt {gi:Nat}{rem:List (κ×Value)}{cur:Option (κ×Value)}(h:MapIt V w gi g m rem cur):gi<w.heap.size:=let ⟨_,_,_,_,_,_,_,k5,_⟩:=h;(Array.getElem?_eq_some_iff.1 k5).1
theorem MapIt.ne {gi:Nat}{rem:List (κ×Value)}{cur:Option (κ×Value)}(h:MapIt V w gi g m rem cur):g≠gi:=λe=>by
 obtain⟨M,c,I,J,_,_,_,D,_⟩:=h
 rw[<-e,J]at D;cases D
theorem v6d {I:Array MapEntry}{D:Array Nat}{e:MapEntry}{J M:List MapEntry}(hn:(I.toList.map (·.born)).Nodup)(h:(leftOf I D).toList=J++e::M):(leftOf I (D.push e.born)).toList=J++M:=by
 have h2:(leftOf I (D.push e.born)).toList=(leftOf I D).toList.filter λx=>decide (x.born≠e.born):=by
  unfold leftOf;rw[Array.toList_filter,Array.toList_filter,List.filter_filter];congr 1;funext x;by_cases c1:x.born=e.born;simp[c1];by_cases c2:x.born∈D;simp[c1,c2];simp[c1,c2]
 have O:((leftOf I D).toList.map (·.born)).Nodup:=by
  refine List.Nodup.sublist (List.Sublist.map _ ?_) hn;unfold leftOf;rw[Array.toList_filter];exact List.filter_sublist
 rw[h]at h2 O;rw[h2,List.filter_append,List.filter_cons];rw[List.map_append,List.map_cons]at O;obtain⟨n1,n2,n3⟩:=List.nodup_append.1 O;have n4:=List.nodup_cons.1 n2;have f1:J.filter (λx=>decide (x.born≠e.born))=J:=List.filter_eq_self.2 λx Z=>by
  simpa using n3 _ (List.mem_map_of_mem Z) e.born (List.mem_cons_self ..)
 have f2:M.filter (λx=>decide (x.born≠e.born))=M:=List.filter_eq_self.2 λx Z=>by
  have:x.born≠e.born:=λk=>n4.1 (by rw[<-k];exact List.mem_map_of_mem Z);simpa using this
 rw[f1,f2];simp
theorem u3t (hx:ev L x=some (.map (some g)))(hm:MapL V w g m)(hu:P.underlying t=some (.map K E))(hn:Nat.blt d n=true)
    (q:∀gi w',gi=w.heap.size->MapIt V w' gi g m m none->Fr [] w w'->w'.heap.size=gi+1->WL P ops Q rest n ds w' ((d,.pointer (some ⟨gi,0,none⟩))::L)):WL P ops Q (⟨some d,.range t x,ty,pos,after,none⟩::rest) n ds w L:=λa h=>by
  obtain⟨I,c,J,O,h3,Z,h5⟩:=hm
  have D:=(Array.getElem?_eq_some_iff.1 J).1
  refine z1w h U hn (w':=w.alloc (.mapIter (some g) c #[] c)) (v:=.pointer (some ⟨w.heap.size,0,none⟩)) ?_ (q _ _ U ⟨I,c,#[],?_,O,Z,h5,heap_alloc_new w _,?_,λp hp=>by cases hp⟩ (Fr.alloc [] w _) (by simp) )
  · have M:=h.eval hx
    simp only[execOp,M,Sem.run_bind,run_range_map w t K E g I c hu J,Result.andThen_ok,Sem.run_pure]
  · first|exact(heap_alloc_old w _ D).trans J|exact(heap_alloc_old w _ _ D).trans J
  · rw[<-O]
    have:(leftOf I #[]).toList=I.toList:=by unfold leftOf;rw[Array.toList_filter];simp
    rw[this]
theorem u8y {gi:Nat}{rem:List (κ×Value)}{cur:Option (κ×Value)}(hx:ev L x=some (.pointer (some ⟨gi,0,none⟩)))(hi:MapIt V w gi g m rem cur)(hn:Nat.blt d n=true)
    (qt:∀(r1:List (κ×Value)) (p:κ×Value) (r2:List (κ×Value)),rem=r1++p::r2->∀w',MapIt V w' gi g m (r1++r2) (some p)->Fr [gi] w w'->w'.heap.size=w.heap.size->WL P ops Q rest n ds w' ((d,.tuple #[.bool true,V p.1,p.2])::L))
    (qf:rem=[]->WL P ops Q rest n ds w ((d,.tuple #[.bool false])::L)):WL P ops Q (⟨some d,.next x false,ty,pos,after,none⟩::rest) n ds w L:=λa h=>by
  have a3:=hi.ne
  obtain⟨I,c,D,h1,h2,h3,h4,h5,h6,h7⟩:=hi
  have a2:=(Array.getElem?_eq_some_iff.1 h5).1
  have Z:=h.eval hx
  rcases run_next_at (P:=P) w ty gi g c c D I c h5 h1 h4 (Nat.le_refl _) with ⟨e0,hr⟩|⟨e,he,w1,hw,hr⟩
  · refine z1w h U hn (w':=w) (v:=.tuple #[.bool false]) (by simp only[execOp,Z,Sem.run_bind,hr,Result.andThen_ok,Sem.run_pure]) (qf ?_)
    have:(leftOf I D).toList=[]:=List.length_eq_zero_iff.1 (by rw[Array.length_toList];exact e0)
    rw[this]at h6
    exact List.map_eq_nil_iff.1 h6.symm
  · obtain⟨l1,l2,hl⟩:=List.append_of_mem he
    rw[hl,List.map_append,List.map_cons]at h6
    obtain⟨r1,r',a5,e1,e2⟩:=List.map_eq_append_iff.1 h6.symm
    obtain⟨p,r2,a6,e3,e4⟩:=List.map_eq_cons_iff.1 e2
    obtain⟨ek,J⟩:=Prod.mk.inj e3
    have a0:e∈I.toList:=by
      have:e∈(leftOf I D).toList:=he
      unfold leftOf at this;rw[Array.toList_filter]at this;exact(List.mem_filter.1 this).1
    have a1:Fr [] w w1:=by rcases hw with rfl|rfl;exact Fr.refl _ _;exact Fr.drew _ _
    have O:w1.heap.size=w.heap.size:=by rcases hw with rfl|rfl<;>rfl
    have M:Fr [gi] w (ChangeMaps.setBlock w1 gi (.mapIter (some g) c (D.push e.born) c)):=
      (a1.weak (by simp)).step (S':=[gi]) ⟨rfl,rfl,rfl,by simp[ChangeMaps.setBlock],λk _ hk=>by
        simp only[ChangeMaps.setBlock]
        rw[Array.getElem?_setIfInBounds_ne (by intro e;subst e;simp at hk)]⟩ (by intro k hk _;exact hk)
    refine z1w h U hn (w':=ChangeMaps.setBlock w1 gi (.mapIter (some g) c (D.push e.born) c)) (v:=.tuple #[.bool true,e.key,e.val]) (by simp only[execOp,Z,Sem.run_bind,hr,Result.andThen_ok,Sem.run_pure]) ?_
    rw[<-ek,<-J]
    refine qt r1 p r2 (by rw[a5,a6]) _ ⟨I,c,D.push e.born,?_,h2,h3,h4,?_,?_,λp' a4=>?_⟩ M (by simp[ChangeMaps.setBlock,O])
    · exact(M.block g (Array.getElem?_eq_some_iff.1 h1).1 (by simpa using a3)).trans h1
    · simp[ChangeMaps.setBlock,O,a2]
    · rw[v6d h3 hl,List.map_append,List.map_append,<-e1,<-e4]
    · cases a4
      exact⟨e,a0,D,rfl,ek.symm,J.symm⟩
theorem u1l {gi:Nat}{rem:List (κ×Value)}{p:κ×Value}(hx:ev L x=some (.pointer (some ⟨gi,0,none⟩)))(hi:MapIt V w gi g m rem (some p))(hn:Nat.blt d n=true)
    (q:WL P ops Q rest n ds w ((d,.tuple #[V p.1,p.2])::L)):WL P ops Q (⟨some d,.entry x,ty,pos,after,none⟩::rest) n ds w L:=λa h=>by
  obtain⟨O,c,J,Z,h2,h3,h4,h5,h6,h7⟩:=hi
  obtain⟨e,he,s',rfl,M,D⟩:=h7 p U
  have I:=h.eval hx
  refine z1w h U hn (w':=w) (v:=.tuple #[V p.1,p.2]) ?_ q
  rw[<-M,<-D]
  simp only[execOp,I,Sem.run_bind,run_entry_at (P:=P) w gi g c s' O c e h5 Z he h3,Result.andThen_ok,Sem.run_pure]
end
end Go.Lw
namespace Go.G08
open Go.Lw Go.G21
section
variable {κ:Type} [DecidableEq κ] {V:κ->Value} {w w':World} {g:Nat} {m:List (κ×Value)} {S:List Nat}
theorem _root_.Go.Lw.MapL.tf {T:Nat}(h:MapL V w g m)(hf:Fr S w w')(I:OffT w T S):MapL V w' g m:=h.fr hf λJ=>by
 obtain⟨T',cs,D,_⟩:=I g J
 exact h.f.ne_blk D U
end
theorem BdO.tf {D I base:Nat}{w w':World}{q:BdQ}{S:List Nat}(h:BdO D I base w q)(hf:Fr S w w')(O:OffT w D S)(M:OffT w I S):BdO D I base w' q:=
 ⟨⟨z1y h.f.1 hf O,λp J=>z1y (h.f.2 p J) hf M⟩,⟨z1y h.b.1 hf O,λp J=>z1y (h.b.2 p J) hf M⟩⟩
structure KpM (Ts:List Nat) (g:Nat) (w w':World):Prop where
  size:w.heap.size<=w'.heap.size
  block:∀k,k<w.heap.size->k≠g->(∀(T:Nat) (cs:List Value),Blk w k T cs->T∉Ts)->w'.heap[k]?=w.heap[k]?
theorem KpM.refl (D:List Nat)(g:Nat)(w:World):KpM D g w w:=⟨Nat.le_refl _,λ_ _ _ _=>rfl⟩
theorem KpM.trans {D:List Nat}{g:Nat}{a b c:World}(h:KpM D g a b)(I:KpM D g b c):KpM D g a c:=
 ⟨Nat.le_trans h.size I.size,λk O M J=>by
  have e:=h.block k O M J
  rw[<-e]
  exact I.block k (Nat.lt_of_lt_of_le O h.size) M λT cs Z=>J T cs (e.symm.trans Z)⟩
theorem KpM.of {D:List Nat}{g:Nat}{w w':World}{S:List Nat}(hf:Fr S w w')(I:∀k∈S,k=g\/∃(T:Nat) (cs:List Value),Blk w k T cs/\T∈D):KpM D g w w':=
 ⟨hf.size,λk hk O J=>hf.block k hk λhm=>by
  rcases I k hm with e|⟨T,cs,M,Z⟩
  ·exact O e
  exact J T cs M Z⟩
theorem j3x {w:World}{k T T':Nat}{cs cs':List Value}(h:Blk w k T cs)(D:Blk w k T' cs'):T=T':=by
 have e:=(show w.heap[k]?=some (.cells cs.toArray T (0,0)) from h).symm.trans (show w.heap[k]?=some (.cells cs'.toArray T' (0,0)) from D);simp only[Option.some.injEq,Obj.cells.injEq]at e;exact e.2.1
theorem KpM.blk {D:List Nat}{g:Nat}{w w':World}(h:KpM D g w w'){k T:Nat}{cs:List Value}(hb:Blk w k T cs)(O:k≠g)(M:T∉D):Blk w' k T cs:=
 (h.block k hb.lt O λT' I J=>by rw[<-j3x hb J];exact M).trans hb
theorem KpM.map {κ:Type}[DecidableEq κ]{V:κ->Value}{em:List (κ×Value)}{I:List Nat}{g k:Nat}{w w':World}(h:KpM I g w w')(hb:MapL V w k em)(O:k≠g):MapL V w' k em:=by
 obtain⟨J,c,D,M⟩:=hb;refine⟨J,c,(h.block k (Array.getElem?_eq_some_iff.1 D).1 O λT cs hb=>?_).trans D,M⟩;have e:=(show w.heap[k]?=some (.cells cs.toArray T (0,0)) from hb).symm.trans D;cases e
theorem KpM.mapF {κ:Type}[DecidableEq κ]{V:κ->Value}{f:κ->Option Value}{I:List Nat}{g k:Nat}{w w':World}(h:KpM I g w w')(hb:MapF V w k f)(O:k≠g):MapF V w' k f:=by
 obtain⟨J,c,m,D,M⟩:=hb;refine⟨J,c,m,(h.block k (Array.getElem?_eq_some_iff.1 D).1 O λT cs hb=>?_).trans D,M⟩;have e:=(show w.heap[k]?=some (.cells cs.toArray T (0,0)) from hb).symm.trans D;cases e
theorem y7s {α:Type}{E:Enc α}{T base g:Nat}{w:World}{v:Value}{ys:List α}{D:List Nat}(h:Lw.Own E T base w v ys)(I:T∈D):∀k∈z0x v,k=g\/∃(T:Nat) (cs:List Value),Blk w k T cs/\T∈D:=λk M=>by
 obtain⟨cs,J⟩:=y7b h k M
 exact .inr ⟨T,cs,J,I⟩
theorem u5t {g k T:Nat}{w:World}{cs:List Value}{D:List Nat}(h:Blk w k T cs)(J:T∈D):∀k'∈[k],k'=g\/∃(T:Nat) (cs:List Value),Blk w k' T cs/\T∈D:=λk' I=>by
 rw[List.mem_singleton]at I;subst I
 exact .inr ⟨T,cs,h,J⟩
structure MA where
  gk:Nat
  gy:Nat
  cy:Nat
  gt:Nat
  ct:Nat
  gc:Nat
  wk:World
abbrev MA.YV (a:MA):Value:=.slice (some ⟨a.gy,0,none⟩) 6 a.cy
abbrev MA.TV (a:MA):Value:=.slice (some ⟨a.gt,0,none⟩) 6 a.ct
structure MQ where
  rk:Int
  q:BdQ
  ys:List YQ
  ts:List TQ
  cr:List Cx
  fa:SV
  fl:List LId
abbrev MQ.p (m:MQ):MSt:=⟨m.rk,m.q.p,m.ys.map YQ.p,z1v m.ts,m.cr,m.fl⟩
abbrev u5m (a:MA)(m:MQ):List Value:=[.int .i64 m.rk,.slice m.q.f.1 m.q.f.2.1 m.q.f.2.2,.slice m.q.b.1 m.q.b.2.1 m.q.b.2.2,a.YV,a.TV,.map (some a.gc),.slice m.fa.1 m.fa.2.1 m.fa.2.2]
def crK (p:LId×LId):Value:=.agg #[.int .u8 p.1.y,.int .i64 p.1.n,.int .u8 p.2.y,.int .i64 p.2.n]
def crM (l:List Cx):List ((LId×LId)×Value):=l.map λc=>((c.a,c.b),.int .i64 c.n)
structure MtOk (τ:TyK) (Mt:Nat):Prop where
  o:τ.Ok
  y:Mt≠τ.Y
  t:Mt≠τ.T
  l:Mt≠τ.L
  i:Mt≠τ.I
  p:Mt≠τ.P
  s:Mt≠τ.S
abbrev v9h (τ:TyK)(Mt:Nat):List Nat:=[Mt,τ.Y,τ.T,τ.L,τ.I]
structure FrM (τ:TyK) (Mt:Nat) (wS:World) (a:MA) (w:World):Prop where
  fr:Fr [] wS w
  kp:KpM (v9h τ Mt) a.gc a.wk w
theorem FrM.size {τ:TyK}{Mt:Nat}{wS w:World}{a:MA}(h:FrM τ Mt wS a w):wS.heap.size<=w.heap.size:=h.fr.size
theorem FrM.next {τ:TyK}{Mt:Nat}{wS w w':World}{a:MA}(h:FrM τ Mt wS a w)(hf:Fr [] w w'):FrM τ Mt wS a w':=⟨h.fr.next hf,h.kp.trans (KpM.of hf (by simp))⟩
theorem FrM.step {τ:TyK}{Mt:Nat}{wS w w':World}{a:MA}{S:List Nat}(h:FrM τ Mt wS a w)(hf:Fr S w w')(I:∀k∈S,k=a.gc\/∃(T:Nat) (cs:List Value),Blk w k T cs/\T∈v9h τ Mt)(D:∀k∈S,k<wS.heap.size->k∈([]:List Nat)):FrM τ Mt wS a w':=⟨h.fr.step hf D,h.kp.trans (KpM.of hf I)⟩
structure MkM (τ:TyK) (Mt:Nat) (wS:World) (a:MA) (w:World) (m:MQ):Prop where
  k:Blk w a.gk Mt (u5m a m)
  b:BdO τ.S τ.I wS.heap.size w m.q
  y:YsO τ wS.heap.size w a.YV m.ys
  t:TbO τ wS.heap.size w a.TV m.ts
  c:MapL crK w a.gc (crM m.cr)
  f:Lw.Own z1k τ.I wS.heap.size w (slv m.fa) m.fl
  fb:∀s∈m.q.fs++m.q.bs,∀k∈z0x (slv s.1),k∉z0x (slv m.fa)
  ft:∀i,i<6->∀q∈(m.ts.getD i tq0).2,∀k∈z0x (slv q.th),k∉z0x (slv m.fa)
  ly:m.ys.length=6
  lt:m.ts.length=6
  gk:wS.heap.size<=a.gk
  gc:wS.heap.size<=a.gc
  fr:FrM τ Mt wS a w
def MRet (τ:TyK)(Mt:Nat)(wS:World)(a:MA)(x:MR)(r:Value)(w':World):Prop:=
  FrM τ Mt wS a w'/\match x with
    | .error e=>r=.int .i64 e/\e≠0
    | .ok p=>r=.int .i64 0/\∃m,MkM τ Mt wS a w' m/\m.p=p
section
variable {τ:TyK} {Mt:Nat} {wS w w':World} {a:MA} {m:MQ} {j:Nat} {y:YQ}
theorem MRet.err {x:MR}{e:Int}{w':World}(I:x=.error e)(D:e≠0)(hf:FrM τ Mt wS a w'):MRet τ Mt wS a x (.int .i64 e) w':=by subst I;exact⟨hf,rfl,D⟩
theorem MRet.ok {x:MR}{m:MQ}{w':World}(D:x=.ok m.p)(h:MkM τ Mt wS a w' m):MRet τ Mt wS a x (.int .i64 0) w':=by subst D;exact⟨h.fr,rfl,m,h,rfl⟩
theorem MkM.ext (h:MkM τ Mt wS a w m)(hf:Fr [] w w'):MkM τ Mt wS a w' m:=
 ⟨h.k.ext hf,h.b.ext hf,h.y.ext hf,h.t.ext hf,h.c.fr hf (by simp),h.f.ext hf,h.fb,h.ft,h.ly,h.lt,h.gk,h.gc,h.fr.next hf⟩
theorem MkM.yarn (h:MkM τ Mt wS a w m)(D:MtOk τ Mt)(J:j<6)(Z:Lw.Own z2v τ.Y wS.heap.size w' a.YV (m.ys.set j y))(hf:Fr [a.gy] w w')(hp:Lw.Own z1t τ.P wS.heap.size w (slv y.pe) y.pes):MkM τ Mt wS a w' { m with ys:=m.ys.set j y }:=by
 have o:∀T,T≠τ.Y->OffT w T [a.gy]:=λT I=>z6v h.y.out (Ne.symm I);refine⟨y7y h.k hf (o _ D.y),BdO.tf h.b hf (o _ (Ne.symm D.o.ys)) (o _ (Ne.symm D.o.yi)),h.y.put (by rw[h.ly];exact J) D.o Z hf hp,h.t.tf hf (o _ (Ne.symm D.o.yt)) (o _ (Ne.symm D.o.yl)) (o _ (Ne.symm D.o.yi)) (o _ (Ne.symm D.o.yp)),h.c.tf hf (o _ D.y),z1y h.f hf (o _ (Ne.symm D.o.yi)),h.fb,h.ft,by rw[List.length_set];exact h.ly,h.lt,h.gk,h.gc,h.fr.step hf (y7s h.y.out (by simp[v9h])) λk M O=>?_⟩;have:=(h.y.out.blk k M).1;omega
theorem MkM.beds {q:BdQ}{r:Int}(h:MkM τ Mt wS a w m)(D:MtOk τ Mt)(Z:BdO τ.S τ.I wS.heap.size w q)(J:Blk w' a.gk Mt (u5m a { m with q:=q,rk:=r }))(hf:Fr [a.gk] w w')(I:∀s∈q.fs++q.bs,∀k∈z0x (slv s.1),k∉z0x (slv m.fa)):MkM τ Mt wS a w' { m with q:=q,rk:=r }:=by
 have o:∀T,T≠Mt->OffT w T [a.gk]:=λT M=>OffT.one h.k (Ne.symm M);refine⟨J,BdO.tf Z hf (o _ (Ne.symm D.s)) (o _ (Ne.symm D.i)),h.y.tf hf (o _ (Ne.symm D.y)) (o _ (Ne.symm D.p)),h.t.tf hf (o _ (Ne.symm D.t)) (o _ (Ne.symm D.l)) (o _ (Ne.symm D.i)) (o _ (Ne.symm D.p)),h.c.tf hf (o _ (Ne.symm D.y)),z1y h.f hf (o _ (Ne.symm D.i)),I,h.ft,h.ly,h.lt,h.gk,h.gc,h.fr.step hf (u5t h.k (by simp[v9h])) λk J O=>?_⟩;rw[List.mem_singleton]at J;have:=h.gk;omega
theorem x3i {M I:Nat}{q:BdQ}{v:Value}{ys:List LId}{T base b:Nat}(J:BdO M I b w' q)(Z:Lw.Own z1k T base w v ys)(hb:w.heap.size<=b):∀s∈q.fs++q.bs,∀k∈z0x (slv s.1),k∉z0x v:=λs O k D hb=>by
 have:=(Z.blk k hb).2
 rcases List.mem_append.1 O with e|e
 ·have:=((J.f.2 s e).blk k D).1;omega
 have:=((J.b.2 s e).blk k D).1;omega
theorem MkM.fall {w2:World}{u:SV}{l:List LId}(h:MkM τ Mt wS a w m)(D:MtOk τ Mt)(a0:τ.I≠τ.P)(h1:Lw.Own z1k τ.I wS.heap.size w' (slv u) l)(I:Fr (z0x (slv m.fa)) w w')(hx:∀k∈z0x (slv u),k∈z0x (slv m.fa)\/w.heap.size<=k)
    (J:Blk w2 a.gk Mt (u5m a { m with fa:=u,fl:=l })) (f2:Fr [a.gk] w' w2):MkM τ Mt wS a w2 { m with fa:=u,fl:=l }:=by
  have Z:∀T,T≠τ.I->OffT w T (z0x (slv m.fa)):=λT hT=>z6v h.f (Ne.symm hT)
  have k1:=y7y h.k I (Z _ D.i)
  have M:∀T,T≠Mt->OffT w' T [a.gk]:=λT hT=>OffT.one k1 (Ne.symm hT)
  have dx:∀ {v:Value} {xs:List LId},Lw.Own z1k τ.I wS.heap.size w v xs->(∀k∈z0x v,k∉z0x (slv m.fa))->∀k∈z0x v,k∉z0x (slv u):=λho hd k J hb=>by
    rcases hx k hb with e|e
    · exact hd k J e
    · have:=(ho.blk k J).2;omega
  have fi:∀ {v:Value} {xs:List LId},Lw.Own z1k τ.I wS.heap.size w v xs->(∀k∈z0x v,k∉z0x (slv m.fa))->Lw.Own z1k τ.I wS.heap.size w2 v xs:=λho hd=>z1y (ho.fr I λk J hb=>hd k hb J) f2 (M _ (Ne.symm D.i))
  have a2:∀s∈m.q.fs,Lw.Own z1k τ.I wS.heap.size w2 (slv s.1) s.2:=λs O=>fi (h.b.f.2 s O) (h.fb s (List.mem_append.2 (.inl O)))
  have a1:∀s∈m.q.bs,Lw.Own z1k τ.I wS.heap.size w2 (slv s.1) s.2:=λs O=>fi (h.b.b.2 s O) (h.fb s (List.mem_append.2 (.inr O)))
  refine⟨J,⟨⟨z1y (z1y h.b.f.1 I (Z _ D.o.si)) f2 (M _ (Ne.symm D.s)),a2⟩,⟨z1y (z1y h.b.b.1 I (Z _ D.o.si)) f2 (M _ (Ne.symm D.s)),a1⟩⟩,
    (h.y.tf I (Z _ D.o.yi) (Z _ (Ne.symm a0))).tf f2 (M _ (Ne.symm D.y)) (M _ (Ne.symm D.p)),
    ⟨z1y (z1y h.t.out I (Z _ D.o.ti)) f2 (M _ (Ne.symm D.t)),λi hi=>z1y (z1y (h.t.ins i hi) I (Z _ D.o.li)) f2 (M _ (Ne.symm D.l)),h.t.off,λi hi q hq=>⟨fi (h.t.lps i hi q hq).1 (h.ft i (by rw[<-h.lt];exact hi) q hq),z1y (z1y (h.t.lps i hi q hq).2 I (Z _ (Ne.symm a0))) f2 (M _ (Ne.symm D.p))⟩⟩,
    (h.c.tf I (Z _ D.i)).tf f2 (M _ (Ne.symm D.y)),z1y h1 f2 (M _ (Ne.symm D.i)),λs O=>?_,λi hi q hq=>dx (h.t.lps i (by rw[h.lt];exact hi) q hq).1 (h.ft i hi q hq),h.ly,h.lt,h.gk,h.gc,(h.fr.step I (y7s h.f (by simp[v9h])) λk J a3=>?_).step f2 (u5t k1 (by simp[v9h])) λk J a3=>?_⟩
  · rcases List.mem_append.1 O with e|e
    · exact dx (h.b.f.2 s e) (h.fb s O)
    · exact dx (h.b.b.2 s e) (h.fb s O)
  · have:=(h.f.blk k J).1;omega
  · rw[List.mem_singleton]at J;have:=h.gk;omega
theorem MkM.mark (h:MkM τ Mt wS a w m):MkM τ Mt wS { a with wk:=w } w m:=⟨h.k,h.b,h.y,h.t,h.c,h.f,h.fb,h.ft,h.ly,h.lt,h.gk,h.gc,⟨h.fr.fr,KpM.refl _ _ _⟩⟩
theorem MkM.unmark (h:MkM τ Mt wS { a with wk:=w } w' m)(D:FrM τ Mt wS a w):MkM τ Mt wS a w' m:=⟨h.k,h.b,h.y,h.t,h.c,h.f,h.fb,h.ft,h.ly,h.lt,h.gk,h.gc,⟨h.fr.fr,D.kp.trans h.fr.kp⟩⟩
def v2a (x:MR):Int:=match x with
  | .error e=>e
  | .ok _=>0
theorem MRet.split {x:MR}{r:Value}(h:MRet τ Mt wS a x r w'):r=.int .i64 (v2a x)/\FrM τ Mt wS a w'/\∃J,v2a x=0->MkM τ Mt wS a w' J/\x=.ok J.p:=by
 obtain⟨I,D⟩:=h;cases x with
 | error e=>exact⟨D.1,I,⟨0,⟨sv0,sv0,[],[]⟩,[],[],[],sv0,[]⟩,λM=>absurd M D.2⟩
 | ok p=>exact⟨D.1,I,D.2.choose,λ_=>⟨D.2.choose_spec.1,congrArg Except.ok D.2.choose_spec.2.symm⟩⟩
theorem z6i {x:MR}(h:v2a x≠0):x=.error (v2a x):=by cases x with
 | error e=>rfl
 | ok p=>exact absurd U h
theorem y6d (b n r:Int):-400<=z2r b n r/\z2r b n r<=400:=by
 unfold z2r;split;omega;rename_i h;have D:z3z b n=0:=Classical.not_not.1 λe=>h (.inl e);have I:-4<=r/\r<=4:=Classical.not_not.1 λe=>h (.inr e);have:=z2y D;split<;>omega
def OwnIf {α:Type}(c:Prop)(E:Enc α)(T base:Nat)(w:World)(v:Value)(ys:List α):Prop:=c->Lw.Own E T base w v ys
theorem OwnIf.fr {α:Type}{c:Prop}{E:Enc α}{T base:Nat}{w w':World}{v:Value}{ys:List α}{S:List Nat}(h:OwnIf c E T base w v ys)(hf:Fr S w w')(hn:c->∀k∈S,k∉z0x v:=by simp[z0x]<;>omega):OwnIf c E T base w' v ys:=λD=>(h D).fr hf (hn D)
theorem OwnIf.ext {α:Type}{c:Prop}{E:Enc α}{T base:Nat}{w w':World}{v:Value}{ys:List α}(h:OwnIf c E T base w v ys)(hf:Fr [] w w'):OwnIf c E T base w' v ys:=λD=>(h D).ext hf
theorem j5o (m:MQ)(y:Int):m.p.y y=(m.ys.getD (y-1).toNat yq0).p:=by
 unfold MSt.y;rw[List.getD,List.getD,List.getElem?_map];cases m.ys[(y-1).toNat]?<;>rfl
theorem y0s {y:Int}(m:MQ)(q:YQ)(D:(y-1).toNat=j):{ m with ys:=m.ys.set j q }.p=m.p.setY y q.p:=by
 subst D;unfold MSt.setY MQ.p;simp only[List.map_set]
end
end Go.G08
namespace Go.Proofs.YtpgdchkdlgkmgaaGreatDoor
open Go.Lw Go.G21 Go.G08 _root_.Go.Proofs.Tryz
set_option maxHeartbeats 1000000 in
theorem x2f (q:YQ)(w0:World)(hp:Sl z1t w0 (slv q.pe) q.pes):Rets prog 110 #[.agg #[.bool q.inn,.int .i64 q.pl,.int .i64 q.ct,.bool q.nw,.slice q.pe.1 q.pe.2.1 q.pe.2.2]] w0 λr w'=>∃J:YQ,r=.tuple #[.agg #[.bool J.inn,.int .i64 J.pl,.int .i64 J.ct,.bool J.nw,.slice J.pe.1 J.pe.2.1 J.pe.2.2],.int .i64 (lvE q.p)]/\(lvE q.p=0->J=⟨false,0,q.ct,false,sv0,[]⟩)/\Fr [] w0 w':=by
 have a4:=z1u hp;have a1:=hp.len_le;unfold maxLen at a1;refine we [(0,.agg #[.bool q.inn,.int .i64 q.pl,.int .i64 q.ct,.bool q.nw,.slice q.pe.1 q.pe.2.1 q.pe.2.2])] func110 U ntmps110 U (.cons U .nil) ?_;have a0:=hp;refine sr (bx U (λg1 w1 a2 I q1 z1=>(al y1y U (λg2 w2 a3 D q2 z2=>(asg U (nn (sq (sr ?_))))))));replace I:=I.ext q2;refine z0k U I z6u ?_;replace hp:=a0.ext (q1.n1 q2);refine cl (ev1 U) j6s (z9l q _ hp) U ?_;rintro _ w3 ⟨rfl,O⟩;refine asg U (nn (sr (mv U (ne' U (nn (cd U (λZ=>?_) (λZ=>?_)))))));refine sr (z1s (cs:=[_,_,_,_,_]) z0f x4n z0q U ?_);refine mv U ?_;replace D:=D.ext O;refine z0i (vs:=[_,_,_,_,_]) U D z7k (λw4 D q4 z4=>(asg U (nn (rt (tr (rCT results110 U D z6u U ?_))))));have M:lvE q.p=ynE q.p:=by unfold lvE;rw[if_pos Z]
 exact⟨_,rfl,yq0,by rw[M];rfl,(λh=>absurd h (by rw[M];exact Z)),(q1.z3 q2 O q4)⟩;refine sk (tn (sq (sr (fad U z9d ?_))));replace I:=I.ext O;refine z0g U I U na4 (nt' U (nn (cd U (λc1=>?_) (λc1=>?_))));refine sr (z1s (cs:=[_,_,_,_,_]) z0f x4n z0q U ?_);replace D:=D.ext O;refine z0i (vs:=[_,_,_,_,_]) U D z7k (λw5 D q5 z5=>(asg U (nn (rt (tr (rCT results110 U D z6u U ?_))))));have M:lvE q.p=12:=by unfold lvE;rw[if_neg Z,if_pos (by simpa using c1)]
 exact⟨_,rfl,yq0,by rw[M];rfl,(λh=>absurd h (by rw[M];decide)),(q1.z3 q2 O q5)⟩;refine sk (tn (sr (fad U z9v (z0g U I U na3 (z1s (cs:=[_,_,_,_,_]) (ev1 U) x4n (z0h U z0q) U ?_)))));replace D:=D.ext O;refine z0i (vs:=[_,_,_,_,_]) U D z7k (λw6 D q6 z6=>(asg U (nn (rt (rCT results110 U D z6u U ?_)))));have M:lvE q.p=0:=by unfold lvE;rw[if_neg Z,if_neg (by simpa using c1)]
 exact⟨_,rfl,⟨false,0,q.ct,false,sv0,[]⟩,by rw[M];rfl,(λ_=>rfl),(q1.z3 q2 O q6)⟩
theorem j5z (v:Value)(l:List Int)(w0:World)(I:Sl Enc.i64 w0 v l)(hl:l.length<=1000):Rets prog 121 #[v] w0 λr w'=>r=.int .i64 (orZ l)/\Fr [] w0 w':=by
 obtain⟨A,c,rfl,a0,hM,hA⟩:=id I;clear hA;unfold maxLen at hM;refine we [(0,.slice A l.length c)] func121 U ntmps121 U (.cons U .nil) ?_;have M:=I;refine sr (asg U (nn (sr (asg U (nn (sq (sr (mv U (lnS U underlying85 (mv U (nn (bl ?_))))))))))));refine lpK (ι:=Nat) [(3,_),(6,_),(7,_)] (λi=>[(8,.int .i64 (i:Int))]) (λi w'=>Fr [] w0 w'/\i<=l.length/\∀j,j<i->l.getD j 0=0) (λi=>l.length-i) 0 (.c4 U U U U) ⟨Fr.refl _ _,⟨Nat.zero_le _,λj h=>absurd h (by omega)⟩⟩ ?_;rintro i w1 ⟨J,⟨hi,O⟩⟩;refine kpC [(3,_),(6,_),(7,_),(8,_)] (.c4 U U U U) (sr (lt' U (nn (sq (cd U (λc0=>?_) (λc0=>?_))))));refine sk (tn (sq (bl (sr ?_))));replace I:=M.ext J;refine z1a (0) U I U y8v z1d (λZ D=>?_);refine z1g U (D _ I) na3 (asg U (nn (sr (mv U (mv U (ne' U (nn (cd U (λc1=>?_) (λc1=>?_)))))))));refine sr (mv U (asg U (kpL [(2,_)] (.cons U .nil) (nn (rt (rb (tr (tr (rb (tr (r1 results121 U ?_)))))))))));exact⟨_,rfl,congrArg (Value.int .i64) (v3l (by omega) O (by omega)).symm,J⟩;refine sk (bn' (tn (rg (z0v U (wi6 (by omega)) (mv U (nl ?_))))));exact lpE (i+1) (.c4 U U U U) ⟨J,⟨by omega,λj h=>by
  by_cases e:j=i;subst e;omega;exact O j (by omega)⟩⟩ (by omega)
 obtain rfl:i=l.length:=by omega
 refine ex (te (te (xh (tn (sr (mv U (asg U (kpL [(2,_)] (.cons U .nil) (nn (rt (r1 results121 U ?_)))))))))));exact⟨_,rfl,congrArg (Value.int .i64) (x0e O).symm,J⟩
theorem y1s (O Z:LId)(w0:World):Rets prog 74 #[.agg #[.int .u8 O.y,.int .i64 O.n],.agg #[.int .u8 Z.y,.int .i64 Z.n]] w0 λr w'=>r=.int .i64 (z6k O Z)/\Fr [] w0 w':=by
 refine we [(0,.agg #[.int .u8 O.y,.int .i64 O.n]),(1,.agg #[.int .u8 Z.y,.int .i64 Z.n])] func74 U ntmps74 U (.c2 U U) (sr (bx U (λg2 w1 a3 J q1 z1=>(bx U (λg3 w2 a4 M q2 z2=>(asg U (nn (sq ?_))))))));intro a h;refine z0j none (λwb w'=>Fr [] wb w') z2s ?_;intro w3 q3;replace J:=J.ext (q2.n1 q3);replace M:=M.ext q3;have hC:Fr [] w3 w3:=Fr.refl _ _;have D:=J;have I:=M;refine z0c 0 h U z7v U λa h=>z0l 1 h U (λ_ hw=>D.ext hw) U na5 U λa h=>z0c 2 h U z7v U λa h=>z0l 3 h U (λ_ hw=>I.ext hw) U na5 U λa h=>z0c 5 h U z9r U λa h=>z0l 6 h U (λ_ hw=>D.ext hw) U na3 U λa h=>z0c 7 h U z9r U λa h=>z0l 8 h U (λ_ hw=>I.ext hw) U na3 U λa h=>z0d 4 U ?_;refine z0m h (z0a U (z0a U z0f)) (mkC func122) (j7f _ _ _) ?_;rintro _ w4 ⟨rfl,q4⟩ a h;replace hC:=hC.next q4;refine z0b ?_;refine z0d 9 U ?_;refine z0m h (z0a U (z0a U z0f)) (mkC func123) (v3i _ _ _) ?_;rintro _ w5 ⟨rfl,q5⟩ a h;replace J:=J.ext (q4.n1 q5);replace M:=M.ext (q4.n1 q5);replace hC:=hC.next q5;refine z0b ?_;refine z0d 10 U ?_;refine z3g ([y0p O.y Z.y,y0p O.n Z.n]) h (z0a U (z0a U z0f)) U y8v λa1 w6 hg a2 q6 hz a h=>?_;have a0:g2<a1:=by have:=J.lt;omega
 have a0:g3<a1:=by have:=M.lt;omega
 replace hC:=hC.next q6;refine z0b ?_;refine z0d 11 U ?_;refine z0m h (z0a U z0f) (mkC func121) (j5z _ [y0p O.y Z.y,y0p O.n Z.n] _ a2.sl (by simp)) ?_;rintro _ w7 ⟨rfl,q7⟩ a h;replace hC:=hC.next q7;refine z0b ?_;refine z0d 12 U ?_;refine z0s h U λa h=>?_;refine z0b ?_;refine z0r ?_;clear hC D I;refine bk (h.sub (L':=[(4,_)]) (.cons U .nil)) (tn (rt (r1 results74 U ?_)));exact⟨_,rfl,congrArg (Value.int .i64) (x9d O Z),(q1.n6 q2 q3 q4 q5 q6 q7)⟩
theorem y0y:ElemOf prog 33 82 z2v 56:=ElemOf.mk' (z:=(.agg #[.bool false,.int .i64 0,.int .i64 0,.bool false,.slice none 0 0])) underlying33 (by kernel_rfl) U
theorem z3d:z0y prog 137 2 3:=λ_ _=>by kernel_rfl
theorem y0q:z2b prog 33:=λ_=>by kernel_rfl
abbrev τd:TyK:=⟨82,46,89,87,100,37,39⟩
theorem τd_ok:τd.Ok:=by constructor<;>decide
theorem mtd:MtOk τd 137:=⟨τd_ok,by decide,by decide,by decide,by decide,by decide,by decide⟩
set_option maxHeartbeats 1000000 in
theorem j7r (wS:World)(ka:MA)(m:MQ)(o:MOp)(w0:World)(hM:MkM τd 137 wS ka w0 m)(hy:1<=o.y/\o.y<=6):Rets prog 64 #[.pointer (some ⟨ka.gk,0,none⟩),opV o] w0 λr w'=>MRet τd 137 wS ka (inM m.p o) r w':=by
 have d1:=hM.fr.size;have O:=hM.k;have b9:=O.lt;have c9:=hM.ly;have c1:=hM.lt;have b7:=(hM.y.out.blk ka.gy (by simp[z0x])).2;obtain⟨j,hj,d0⟩:∃j:Nat,j<6/\o.y=(j:Int)+1:=⟨(o.y-1).toNat,by omega,by omega⟩;have b0:(o.y-1).toNat=j:=by omega
 have a8:m.p.y o.y=(m.ys.getD j yq0).p:=by rw[j5o,b0]
 refine we [(0,.pointer (some ⟨ka.gk,0,none⟩)),(1,opV o)] func64 U ntmps64 U (.c2 U U) ?_;have a3:=hM;refine sr (bx U (λg3 w1 b8 D q1 z1=>(asg U (nn (sq ?_)))));replace hM:=a3.ext q1;intro a h;refine z0j none (λwb w'=>Fr [] wb w') z2s ?_;intro w2 q2;have z2:=q2.size;replace hM:=hM.ext q2;replace O:=O.ext (q1.n1 q2);replace D:=D.ext q2;have hC:Fr [] w2 w2:=Fr.refl _ _;have Z:=hM;have M:=O;have I:=D;refine z0e 0 h U λa h=>z0o 1 h U λa h=>z0c 2 h U z3d U λa h=>z0l 3 h U (λ_ hw=>M.ext hw) U y0q U λa h=>z0c 4 h U z2z U λa h=>z0l 5 h U (λ_ hw=>I.ext hw) U na5 U λa h=>z3e 6 h wn U (by first|exact IntWalk.u8_in _ (by omega)|rfl) U λa h=>z1h (p:=j) (yq0) 7 h U hM.y.out.sl U y0y U λb6 b2 a h=>z2c (cs:=z2v.enc (m.ys.getD j yq0)) 8 h wn U (λ_ hw=>b2 _ (Z.ext hw).y.out.sl) z6u U λa h=>z0c 9 h U z6e U λa h=>z0l 10 h U (λ_ hw=>I.ext hw) U y7t U λa h=>?_;refine z2e 11 15 (by kernel_rfl) U ?_ ?_;refine z0m h (z0a U (z0a U z0f)) (mkC func109) (x2s (m.ys.getD j yq0) o.d _ (hM.y.ins j (by omega)).sl) ?_;rintro _ w3 ⟨qn,rfl,a6,q3⟩ a h;have z3:=q3.size;replace O:=O.ext q3;replace D:=D.ext q3;replace hC:=hC.next q3;refine z0b ?_;refine z0e 12 h U λa h=>z0n 13 h U λa h=>z0n 14 h U λa h=>z0d 15 U ?_;refine z1c h y1y U λw4 J q4 hz a h=>?_;obtain⟨a2,hg⟩:∃g,g=w3.heap.size:=⟨_,rfl⟩;rw[<-hg]at J h hz;have b4.gk_5:ka.gk<a2:=by have:=O.lt;omega
 have b1:g3<a2:=by have:=D.lt;omega
 have z4:=q4.size;replace hM:=hM.ext (q3.n1 q4);replace O:=O.ext q4;replace D:=D.ext q4;replace hC:=hC.next q4;refine z0b ?_;refine z0d 16 U ?_;refine z0u h U J U z7k ?_ (h1:=(by first|(simp[Value.oneCell',S];done)|exact z2v.one (m.ys.getD j yq0)));clear h a;intro w5 a5 q5 hz a h;have z5:=q5.size;replace O:=O.fr q5;replace D:=D.fr q5;replace hC:=hC.sp q5;clear J hz;have J:Blk w5 a2 _ [_,_,_,_,_]:=a5;clear a5;refine z0b ?_;refine z0d 17 U ?_;refine z0s h U λa h=>?_;refine z0b ?_;refine z0r ?_;clear hC Z M I;refine bk (h.sub (L':=[(0,_),(3,_),(5,_),(6,_)]) (.c4 U U U U)) (tn (sq (sr (mv U (eq' U (nn (cd U (λc0=>?_) (λc0=>?_))))))));obtain rfl:=a6 c0;replace hM:=a3.ext (q1.z4 q2 q3 q4 q5);intro a h;refine z0j (some 9) (λwb w'=>Fr [] wb w') z2s ?_;intro w6 q6;have z6:=q6.size;replace hM:=hM.ext q6;replace O:=O.ext q6;replace D:=D.ext q6;replace J:=J.ext q6;have hC:Fr [] w6 w6:=Fr.refl _ _;have Z:=hM;have M:=O;have I:=D;have a0:=J;refine z0e 0 h U λa h=>z0o 1 h U λa h=>z0c 2 h U z3d U λa h=>z0l 3 h U (λ_ hw=>M.ext hw) U y0q U λa h=>z0c 4 h U z2z U λa h=>z0l 5 h U (λ_ hw=>I.ext hw) U na5 U λa h=>z3e 6 h wn U (by first|exact IntWalk.u8_in _ (by omega)|rfl) U λa h=>z0z 7 h U (λ_ hw=>a0.ext hw) z6u U λa h=>z1o 8 (by kernel_rfl) (by kernel_rfl) (by kernel_rfl) hC (p:=j) h wn U y0y (by omega) (by omega) (by omega) U U λa h=>z0d 9 U ?_;refine z1b (i:=j) (⟨true,if o.d=1 then 179 else -13,(m.ys.getD j yq0).ct,true,sv0,[]⟩:YQ) h U hM.y.out (by rw[hM.ly];exact hj) U z7k λw7 a1 q7 _hz a h=>?_;replace hM:=hM.yarn mtd hj a1 q7 (Own.nil _);have a3:=hM;clear a1;have z7:=q7.size;replace D:=D.fr q7;replace J:=J.fr q7;have O:=hM.k;clear _hz;refine z1n ?_;refine z0r ?_;clear hC Z M I a0;refine bk (h.sub (L':=[(6,_)]) (.cons U .nil)) (tn (sr (mv U (asg U (nn (rt (r1 results64 U ?_)))))));exact⟨_,rfl,by rw[c0];exact MRet.ok (by unfold inM;rw[a8,if_neg (λe=>e c0)];exact congrArg Except.ok (y0s m (⟨true,if o.d=1 then 179 else -13,(m.ys.getD j yq0).ct,true,sv0,[]⟩:YQ) b0).symm) hM⟩;refine sk (tn (sr (mv U (asg U (kpL [(4,_)] (.cons U .nil) (nn (rt (r1 results64 U ?_))))))));replace hM:=a3.ext (q1.z4 q2 q3 q4 q5);exact⟨_,rfl,MRet.err (by unfold inM;rw[a8,if_pos c0]) c0 hM.fr⟩;refine z1c h y1y U λw8 J q8 hz a h=>?_;obtain⟨a2,hg⟩:∃g,g=w2.heap.size:=⟨_,rfl⟩;rw[<-hg]at J h hz;have b4.gk_5:ka.gk<a2:=by have:=O.lt;omega
 have b1:g3<a2:=by have:=D.lt;omega
 have z8:=q8.size;replace hM:=hM.ext q8;replace hC:=hC.next q8;refine z0b ?_;refine z0d 11 U ?_;refine z0m h (z0a U (z0a U z0f)) (mkC func109) (x2s (m.ys.getD j yq0) o.d _ (hM.y.ins j (by omega)).sl) ?_;rintro _ w9 ⟨qn,rfl,a6,q9⟩ a h;have z9:=q9.size;replace hM:=hM.ext q9;replace O:=O.ext (q8.n1 q9);replace D:=D.ext (q8.n1 q9);replace J:=J.ext q9;replace hC:=hC.next q9;refine z0b ?_;refine z0e 12 h U λa h=>z0n 13 h U λa h=>z0n 14 h U λa h=>z0d 16 U ?_;refine z0u h U J U z7k ?_ (h1:=(by first|(simp[Value.oneCell',S];done)|exact z2v.one (m.ys.getD j yq0)));clear h a;intro b5 a5 a4 hz a h;have d4:=a4.size;replace O:=O.fr a4;replace D:=D.fr a4;replace hC:=hC.sp a4;clear J hz;have J:Blk b5 a2 _ [_,_,_,_,_]:=a5;clear a5;refine z0b ?_;refine z0d 17 U ?_;refine z0s h U λa h=>?_;refine z0b ?_;refine z0r ?_;clear hC Z M I;refine bk (h.sub (L':=[(0,_),(3,_),(5,_),(6,_)]) (.c4 U U U U)) (tn (sq (sr (mv U (eq' U (nn (cd U (λc0=>?_) (λc0=>?_))))))));obtain rfl:=a6 c0;replace hM:=a3.ext (q1.z4 q2 q8 q9 a4);intro a h;refine z0j (some 9) (λwb w'=>Fr [] wb w') z2s ?_;intro b3 a7;have d5:=a7.size;replace hM:=hM.ext a7;replace O:=O.ext a7;replace D:=D.ext a7;replace J:=J.ext a7;have hC:Fr [] b3 b3:=Fr.refl _ _;have Z:=hM;have M:=O;have I:=D;have a0:=J;refine z0e 0 h U λa h=>z0o 1 h U λa h=>z0c 2 h U z3d U λa h=>z0l 3 h U (λ_ hw=>M.ext hw) U y0q U λa h=>z0c 4 h U z2z U λa h=>z0l 5 h U (λ_ hw=>I.ext hw) U na5 U λa h=>z3e 6 h wn U (by first|exact IntWalk.u8_in _ (by omega)|rfl) U λa h=>z0z 7 h U (λ_ hw=>a0.ext hw) z6u U λa h=>z1o 8 (by kernel_rfl) (by kernel_rfl) (by kernel_rfl) hC (p:=j) h wn U y0y (by omega) (by omega) (by omega) U U λa h=>z0d 9 U ?_;refine z1b (i:=j) (⟨true,if o.d=1 then 179 else -13,(m.ys.getD j yq0).ct,true,sv0,[]⟩:YQ) h U hM.y.out (by rw[hM.ly];exact hj) U z7k λd3 a1 a9 _hz a h=>?_;replace hM:=hM.yarn mtd hj a1 a9 (Own.nil _);have a3:=hM;clear a1;have d6:=a9.size;replace D:=D.fr a9;replace J:=J.fr a9;have O:=hM.k;clear _hz;refine z1n ?_;refine z0r ?_;clear hC Z M I a0;refine bk (h.sub (L':=[(6,_)]) (.cons U .nil)) (tn (sr (mv U (asg U (nn (rt (r1 results64 U ?_)))))));exact⟨_,rfl,by rw[c0];exact MRet.ok (by unfold inM;rw[a8,if_neg (λe=>e c0)];exact congrArg Except.ok (y0s m (⟨true,if o.d=1 then 179 else -13,(m.ys.getD j yq0).ct,true,sv0,[]⟩:YQ) b0).symm) hM⟩;refine sk (tn (sr (mv U (asg U (kpL [(4,_)] (.cons U .nil) (nn (rt (r1 results64 U ?_))))))));replace hM:=a3.ext (q1.z4 q2 q8 q9 a4);exact⟨_,rfl,MRet.err (by unfold inM;rw[a8,if_pos c0]) c0 hM.fr⟩
set_option maxHeartbeats 1000000 in
theorem j0w (wS:World)(ka:MA)(m:MQ)(o:MOp)(w0:World)(hM:MkM τd 137 wS ka w0 m)(hy:1<=o.y/\o.y<=6):Rets prog 65 #[.pointer (some ⟨ka.gk,0,none⟩),opV o] w0 λr w'=>MRet τd 137 wS ka (v1h m.p o) r w':=by
 have d1:=hM.fr.size;have O:=hM.k;have b9:=O.lt;have c9:=hM.ly;have c1:=hM.lt;have b7:=(hM.y.out.blk ka.gy (by simp[z0x])).2;obtain⟨j,hj,d0⟩:∃j:Nat,j<6/\o.y=(j:Int)+1:=⟨(o.y-1).toNat,by omega,by omega⟩;have b0:(o.y-1).toNat=j:=by omega
 have a8:m.p.y o.y=(m.ys.getD j yq0).p:=by rw[j5o,b0]
 refine we [(0,.pointer (some ⟨ka.gk,0,none⟩)),(1,opV o)] func65 U ntmps65 U (.c2 U U) ?_;have a3:=hM;refine sr (bx U (λg3 w1 b8 D q1 z1=>(asg U (nn (sq ?_)))));replace hM:=a3.ext q1;intro a h;refine z0j none (λwb w'=>Fr [] wb w') z2s ?_;intro w2 q2;have z2:=q2.size;replace hM:=hM.ext q2;replace O:=O.ext (q1.n1 q2);replace D:=D.ext q2;have hC:Fr [] w2 w2:=Fr.refl _ _;have Z:=hM;have M:=O;have J:=D;refine z0e 0 h U λa h=>z0o 1 h U λa h=>z0c 2 h U z3d U λa h=>z0l 3 h U (λ_ hw=>M.ext hw) U y0q U λa h=>z0c 4 h U z2z U λa h=>z0l 5 h U (λ_ hw=>J.ext hw) U na5 U λa h=>z3e 6 h wn U (by first|exact IntWalk.u8_in _ (by omega)|rfl) U λa h=>z1h (p:=j) (yq0) 7 h U hM.y.out.sl U y0y U λb6 b2 a h=>z2c (cs:=z2v.enc (m.ys.getD j yq0)) 8 h wn U (λ_ hw=>b2 _ (Z.ext hw).y.out.sl) z6u U λa h=>z2e 9 13 (by kernel_rfl) U ?_ ?_;refine z0m h (z0a U z0f) (mkC func110) (x2f (m.ys.getD j yq0) _ (hM.y.ins j (by omega)).sl) ?_;rintro _ w3 ⟨qn,rfl,a6,q3⟩ a h;have z3:=q3.size;replace O:=O.ext q3;replace D:=D.ext q3;replace hC:=hC.next q3;refine z0b ?_;refine z0e 10 h U λa h=>z0n 11 h U λa h=>z0n 12 h U λa h=>z0d 13 U ?_;refine z1c h y1y U λw4 I q4 hz a h=>?_;obtain⟨a2,hg⟩:∃g,g=w3.heap.size:=⟨_,rfl⟩;rw[<-hg]at I h hz;have b4.gk_5:ka.gk<a2:=by have:=O.lt;omega
 have b1:g3<a2:=by have:=D.lt;omega
 have z4:=q4.size;replace hM:=hM.ext (q3.n1 q4);replace O:=O.ext q4;replace D:=D.ext q4;replace hC:=hC.next q4;refine z0b ?_;refine z0d 14 U ?_;refine z0u h U I U z7k ?_ (h1:=(by first|(simp[Value.oneCell',S];done)|exact z2v.one (m.ys.getD j yq0)));clear h a;intro w5 a5 q5 hz a h;have z5:=q5.size;replace O:=O.fr q5;replace D:=D.fr q5;replace hC:=hC.sp q5;clear I hz;have I:Blk w5 a2 _ [_,_,_,_,_]:=a5;clear a5;refine z0b ?_;refine z0d 15 U ?_;refine z0s h U λa h=>?_;refine z0b ?_;refine z0r ?_;clear hC Z M J;refine bk (h.sub (L':=[(0,_),(3,_),(5,_),(6,_)]) (.c4 U U U U)) (tn (sq (sr (mv U (eq' U (nn (cd U (λc0=>?_) (λc0=>?_))))))));obtain rfl:=a6 c0;replace hM:=a3.ext (q1.z4 q2 q3 q4 q5);intro a h;refine z0j (some 9) (λwb w'=>Fr [] wb w') z2s ?_;intro w6 q6;have z6:=q6.size;replace hM:=hM.ext q6;replace O:=O.ext q6;replace D:=D.ext q6;replace I:=I.ext q6;have hC:Fr [] w6 w6:=Fr.refl _ _;have Z:=hM;have M:=O;have J:=D;have a0:=I;refine z0e 0 h U λa h=>z0o 1 h U λa h=>z0c 2 h U z3d U λa h=>z0l 3 h U (λ_ hw=>M.ext hw) U y0q U λa h=>z0c 4 h U z2z U λa h=>z0l 5 h U (λ_ hw=>J.ext hw) U na5 U λa h=>z3e 6 h wn U (by first|exact IntWalk.u8_in _ (by omega)|rfl) U λa h=>z0z 7 h U (λ_ hw=>a0.ext hw) z6u U λa h=>z1o 8 (by kernel_rfl) (by kernel_rfl) (by kernel_rfl) hC (p:=j) h wn U y0y (by omega) (by omega) (by omega) U U λa h=>z0d 9 U ?_;refine z1b (i:=j) (⟨false,0,(m.ys.getD j yq0).ct,false,sv0,[]⟩:YQ) h U hM.y.out (by rw[hM.ly];exact hj) U z7k λw7 a1 q7 _hz a h=>?_;replace hM:=hM.yarn mtd hj a1 q7 (Own.nil _);have a3:=hM;clear a1;have z7:=q7.size;replace D:=D.fr q7;replace I:=I.fr q7;have O:=hM.k;clear _hz;refine z1n ?_;refine z0r ?_;clear hC Z M J a0;refine bk (h.sub (L':=[(6,_)]) (.cons U .nil)) (tn (sr (mv U (asg U (nn (rt (r1 results65 U ?_)))))));exact⟨_,rfl,by rw[c0];exact MRet.ok (by unfold v1h;rw[a8,if_neg (λe=>e c0)];exact congrArg Except.ok (y0s m (⟨false,0,(m.ys.getD j yq0).ct,false,sv0,[]⟩:YQ) b0).symm) hM⟩;refine sk (tn (sr (mv U (asg U (kpL [(4,_)] (.cons U .nil) (nn (rt (r1 results65 U ?_))))))));replace hM:=a3.ext (q1.z4 q2 q3 q4 q5);exact⟨_,rfl,MRet.err (by unfold v1h;rw[a8,if_pos c0]) c0 hM.fr⟩;refine z1c h y1y U λw8 I q8 hz a h=>?_;obtain⟨a2,hg⟩:∃g,g=w2.heap.size:=⟨_,rfl⟩;rw[<-hg]at I h hz;have b4.gk_5:ka.gk<a2:=by have:=O.lt;omega
 have b1:g3<a2:=by have:=D.lt;omega
 have z8:=q8.size;replace hM:=hM.ext q8;replace hC:=hC.next q8;refine z0b ?_;refine z0d 9 U ?_;refine z0m h (z0a U z0f) (mkC func110) (x2f (m.ys.getD j yq0) _ (hM.y.ins j (by omega)).sl) ?_;rintro _ w9 ⟨qn,rfl,a6,q9⟩ a h;have z9:=q9.size;replace hM:=hM.ext q9;replace O:=O.ext (q8.n1 q9);replace D:=D.ext (q8.n1 q9);replace I:=I.ext q9;replace hC:=hC.next q9;refine z0b ?_;refine z0e 10 h U λa h=>z0n 11 h U λa h=>z0n 12 h U λa h=>z0d 14 U ?_;refine z0u h U I U z7k ?_ (h1:=(by first|(simp[Value.oneCell',S];done)|exact z2v.one (m.ys.getD j yq0)));clear h a;intro b5 a5 a4 hz a h;have d4:=a4.size;replace O:=O.fr a4;replace D:=D.fr a4;replace hC:=hC.sp a4;clear I hz;have I:Blk b5 a2 _ [_,_,_,_,_]:=a5;clear a5;refine z0b ?_;refine z0d 15 U ?_;refine z0s h U λa h=>?_;refine z0b ?_;refine z0r ?_;clear hC Z M J;refine bk (h.sub (L':=[(0,_),(3,_),(5,_),(6,_)]) (.c4 U U U U)) (tn (sq (sr (mv U (eq' U (nn (cd U (λc0=>?_) (λc0=>?_))))))));obtain rfl:=a6 c0;replace hM:=a3.ext (q1.z4 q2 q8 q9 a4);intro a h;refine z0j (some 9) (λwb w'=>Fr [] wb w') z2s ?_;intro b3 a7;have d5:=a7.size;replace hM:=hM.ext a7;replace O:=O.ext a7;replace D:=D.ext a7;replace I:=I.ext a7;have hC:Fr [] b3 b3:=Fr.refl _ _;have Z:=hM;have M:=O;have J:=D;have a0:=I;refine z0e 0 h U λa h=>z0o 1 h U λa h=>z0c 2 h U z3d U λa h=>z0l 3 h U (λ_ hw=>M.ext hw) U y0q U λa h=>z0c 4 h U z2z U λa h=>z0l 5 h U (λ_ hw=>J.ext hw) U na5 U λa h=>z3e 6 h wn U (by first|exact IntWalk.u8_in _ (by omega)|rfl) U λa h=>z0z 7 h U (λ_ hw=>a0.ext hw) z6u U λa h=>z1o 8 (by kernel_rfl) (by kernel_rfl) (by kernel_rfl) hC (p:=j) h wn U y0y (by omega) (by omega) (by omega) U U λa h=>z0d 9 U ?_;refine z1b (i:=j) (⟨false,0,(m.ys.getD j yq0).ct,false,sv0,[]⟩:YQ) h U hM.y.out (by rw[hM.ly];exact hj) U z7k λd3 a1 a9 _hz a h=>?_;replace hM:=hM.yarn mtd hj a1 a9 (Own.nil _);have a3:=hM;clear a1;have d6:=a9.size;replace D:=D.fr a9;replace I:=I.fr a9;have O:=hM.k;clear _hz;refine z1n ?_;refine z0r ?_;clear hC Z M J a0;refine bk (h.sub (L':=[(6,_)]) (.cons U .nil)) (tn (sr (mv U (asg U (nn (rt (r1 results65 U ?_)))))));exact⟨_,rfl,by rw[c0];exact MRet.ok (by unfold v1h;rw[a8,if_neg (λe=>e c0)];exact congrArg Except.ok (y0s m (⟨false,0,(m.ys.getD j yq0).ct,false,sv0,[]⟩:YQ) b0).symm) hM⟩;refine sk (tn (sr (mv U (asg U (kpL [(4,_)] (.cons U .nil) (nn (rt (r1 results65 U ?_))))))));replace hM:=a3.ext (q1.z4 q2 q8 q9 a4);exact⟨_,rfl,MRet.err (by unfold v1h;rw[a8,if_pos c0]) c0 hM.fr⟩
theorem z3v:z0y prog 137 0 0:=λ_ _=>by kernel_rfl
set_option maxHeartbeats 1000000 in
theorem x5f (wS:World)(ka:MA)(m:MQ)(o:MOp)(w0:World)(hM:MkM τd 137 wS ka w0 m)(hi:MInv m.p)(hy:1<=o.y/\o.y<=6)(hn:z3z o.b o.p=0):Rets prog 112 #[.pointer (some ⟨ka.gk,0,none⟩),opV o] w0 λr w'=>r=.tuple #[.int .i64 (if z6a m.p o=0 then z9b m.p o else 0),.int .i64 (if z6a m.p o=0 then (z2r o.b o.p m.rk) else 0),.int .i64 (z6a m.p o)]/\Fr [] w0 w':=by
 have b8:=hM.fr.size;have Z:=hM.k;have b2:=Z.lt;have b4:=hM.ly;have b3:=hM.lt;have b0:=(hM.y.out.blk ka.gy (by simp[z0x])).2;obtain⟨j,hj,b6⟩:∃j:Nat,j<6/\o.y=(j:Int)+1:=⟨(o.y-1).toNat,by omega,by omega⟩;have a7:(o.y-1).toNat=j:=by omega
 have J:m.p.y o.y=(m.ys.getD j yq0).p:=by rw[j5o,a7]
 have b7:=y6d o.b o.p m.rk;have b5:=z2y hn;refine we [(0,.pointer (some ⟨ka.gk,0,none⟩)),(1,opV o)] func112 U ntmps112 U (.c2 U U) ?_;have a6:=hM;refine sr (bx U (λg3 w1 b1 D q1 z1=>(asg U (asg U (asg U (nn (sq ?_)))))));replace hM:=a6.ext q1;intro a h;refine z0j none (λwb w'=>Fr [] wb w') z2s ?_;intro w2 q2;have z2:=q2.size;replace hM:=hM.ext q2;replace Z:=Z.ext (q1.n1 q2);replace D:=D.ext q2;have hC:Fr [] w2 w2:=Fr.refl _ _;have a2:=hM;have a1:=Z;have M:=D;refine z0e 0 h U λa h=>z0o 1 h U λa h=>z0c 2 h U z3d U λa h=>z0l 3 h U (λ_ hw=>a1.ext hw) U y0q U λa h=>z0c 4 h U z2z U λa h=>z0l 5 h U (λ_ hw=>M.ext hw) U na5 U λa h=>z3e 6 h wn U (by first|exact IntWalk.u8_in _ (by omega)|rfl) U λa h=>z1h (p:=j) (yq0) 7 h U hM.y.out.sl U y0y U λa9 a5 a h=>z2c (cs:=z2v.enc (m.ys.getD j yq0)) 8 h wn U (λ_ hw=>a5 _ (a2.ext hw).y.out.sl) z6u U λa h=>z0c 9 h U z4q U λa h=>z1e (vs:=[_,_]) 10 h U (λ_ hw=>(M.ext hw)) z5b U U λa h=>?_;refine z0e 11 h U λa h=>z0o 12 h U λa h=>z0c 13 h U z3v U λa h=>z0l 14 h U (λ_ hw=>a1.ext hw) U na3 U λa h=>z2e 15 16 (by kernel_rfl) U ?_ ?_;refine z0m h (z0a U (z0a U z0f)) v0x (y2h _ _ _ _ (by have:=hi.rk;omega)) ?_;rintro _ w3 ⟨rfl,q3⟩ a h;have z3:=q3.size;replace Z:=Z.ext q3;replace D:=D.ext q3;replace hC:=hC.next q3;refine z0b ?_;refine z0d 16 U ?_;refine z1c h y1y U λw4 I q4 hz a h=>?_;obtain⟨a0,hg⟩:∃g,g=w3.heap.size:=⟨_,rfl⟩;rw[<-hg]at I h hz;have a8.gk_7:ka.gk<a0:=by have:=Z.lt;omega
 have a4:g3<a0:=by have:=D.lt;omega
 have z4:=q4.size;replace hM:=hM.ext (q3.n1 q4);replace Z:=Z.ext q4;replace D:=D.ext q4;replace hC:=hC.next q4;refine z0b ?_;refine z0d 17 U ?_;refine z0u h U I U z7k ?_ (h1:=(by first|(simp[Value.oneCell',S];done)|exact z2v.one (m.ys.getD j yq0)));clear h a;intro w5 a3 q5 hz a h;have z5:=q5.size;replace Z:=Z.fr q5;replace D:=D.fr q5;replace hC:=hC.sp q5;clear I hz;have I:Blk w5 a0 _ [_,_,_,_,_]:=a3;clear a3;refine z0b ?_;refine z0d 18 U ?_;refine z0s h U λa h=>?_;refine z0b ?_;refine z0r ?_;clear hC a2 a1 M;refine bk (h.sub (L':=[(3,_),(5,_),(7,_)]) (.c3 U U U)) (tn (sq (sr (fad U z9d (z0g U I U na4 (nt' U (nn (cd U (λc0=>?_) (λc0=>?_)))))))));refine sr (asg U (asg U (asg U (nn (rt (tr (r3 results112 U U U ?_)))))));have O:z6a m.p o=12:=by unfold z6a;rw[J,if_pos (by simpa using c0)]
 exact⟨_,rfl,by rw[O];rfl,(q1.z4 q2 q3 q4 q5)⟩;refine sk (tn (sq (sr (fad U z6e (z0g U D U y7t (eq' U (nn (cd U (λc1=>?_) (λc1=>?_)))))))));refine sq (sr (fad U z5w (z0g U I U na3 (mv U (gt' U (nn (cd U (λc2=>?_) (λc2=>?_))))))));refine sr (asg U (asg U (asg U (nn (rt (tr (tr (r3 results112 U U U ?_))))))));have O:z6a m.p o=12:=by unfold z6a;rw[J,if_neg (by simpa using c0),if_pos c1,if_pos c2]
 exact⟨_,rfl,by rw[O];rfl,(q1.z4 q2 q3 q4 q5)⟩;refine sk (tn (sr (mv U (z0v U (wi6 (by omega)) (mv U (asg U (asg U (asg U (nn (rt (tr (r3 results112 U U U ?_))))))))))));have O:z6a m.p o=0:=by unfold z6a;rw[J,if_neg (by simpa using c0),if_pos c1,if_neg c2]
 exact⟨_,rfl,by rw[O];rw[if_pos U,if_pos U,z9b,if_pos c1],(q1.z4 q2 q3 q4 q5)⟩;refine sk (tn (sq (sr (fad U z5w (z0g U I U na3 (mv U (lt' U (nn (cd U (λc3=>?_) (λc3=>?_))))))))));refine sr (asg U (asg U (asg U (nn (rt (tr (r3 results112 U U U ?_)))))));have O:z6a m.p o=12:=by unfold z6a;rw[J,if_neg (by simpa using c0),if_neg c1,if_pos c3]
 exact⟨_,rfl,by rw[O];rfl,(q1.z4 q2 q3 q4 q5)⟩;refine sk (tn (sr (mv U (z2o U (wi6 (by omega)) (mv U (asg U (asg U (asg U (nn (rt (r3 results112 U U U ?_)))))))))));have O:z6a m.p o=0:=by unfold z6a;rw[J,if_neg (by simpa using c0),if_neg c1,if_neg c3]
 exact⟨_,rfl,by rw[O];rw[if_pos U,if_pos U,z9b,if_neg c1],(q1.z4 q2 q3 q4 q5)⟩;refine z1c h y1y U λw6 I q6 hz a h=>?_;obtain⟨a0,hg⟩:∃g,g=w2.heap.size:=⟨_,rfl⟩;rw[<-hg]at I h hz;have a8.gk_7:ka.gk<a0:=by have:=Z.lt;omega
 have a4:g3<a0:=by have:=D.lt;omega
 have z6:=q6.size;replace hC:=hC.next q6;refine z0b ?_;refine z0d 15 U ?_;refine z0m h (z0a U (z0a U z0f)) v0x (y2h _ _ _ _ (by have:=hi.rk;omega)) ?_;rintro _ w7 ⟨rfl,q7⟩ a h;have z7:=q7.size;replace hM:=hM.ext (q6.n1 q7);replace Z:=Z.ext (q6.n1 q7);replace D:=D.ext (q6.n1 q7);replace I:=I.ext q7;replace hC:=hC.next q7;refine z0b ?_;refine z0d 17 U ?_;refine z0u h U I U z7k ?_ (h1:=(by first|(simp[Value.oneCell',S];done)|exact z2v.one (m.ys.getD j yq0)));clear h a;intro w8 a3 q8 hz a h;have z8:=q8.size;replace Z:=Z.fr q8;replace D:=D.fr q8;replace hC:=hC.sp q8;clear I hz;have I:Blk w8 a0 _ [_,_,_,_,_]:=a3;clear a3;refine z0b ?_;refine z0d 18 U ?_;refine z0s h U λa h=>?_;refine z0b ?_;refine z0r ?_;clear hC a2 a1 M;refine bk (h.sub (L':=[(3,_),(5,_),(7,_)]) (.c3 U U U)) (tn (sq (sr (fad U z9d (z0g U I U na4 (nt' U (nn (cd U (λc0=>?_) (λc0=>?_)))))))));refine sr (asg U (asg U (asg U (nn (rt (tr (r3 results112 U U U ?_)))))));have O:z6a m.p o=12:=by unfold z6a;rw[J,if_pos (by simpa using c0)]
 exact⟨_,rfl,by rw[O];rfl,(q1.z4 q2 q6 q7 q8)⟩;refine sk (tn (sq (sr (fad U z6e (z0g U D U y7t (eq' U (nn (cd U (λc1=>?_) (λc1=>?_)))))))));refine sq (sr (fad U z5w (z0g U I U na3 (mv U (gt' U (nn (cd U (λc2=>?_) (λc2=>?_))))))));refine sr (asg U (asg U (asg U (nn (rt (tr (tr (r3 results112 U U U ?_))))))));have O:z6a m.p o=12:=by unfold z6a;rw[J,if_neg (by simpa using c0),if_pos c1,if_pos c2]
 exact⟨_,rfl,by rw[O];rfl,(q1.z4 q2 q6 q7 q8)⟩;refine sk (tn (sr (mv U (z0v U (wi6 (by omega)) (mv U (asg U (asg U (asg U (nn (rt (tr (r3 results112 U U U ?_))))))))))));have O:z6a m.p o=0:=by unfold z6a;rw[J,if_neg (by simpa using c0),if_pos c1,if_neg c2]
 exact⟨_,rfl,by rw[O];rw[if_pos U,if_pos U,z9b,if_pos c1],(q1.z4 q2 q6 q7 q8)⟩;refine sk (tn (sq (sr (fad U z5w (z0g U I U na3 (mv U (lt' U (nn (cd U (λc3=>?_) (λc3=>?_))))))))));refine sr (asg U (asg U (asg U (nn (rt (tr (r3 results112 U U U ?_)))))));have O:z6a m.p o=12:=by unfold z6a;rw[J,if_neg (by simpa using c0),if_neg c1,if_pos c3]
 exact⟨_,rfl,by rw[O];rfl,(q1.z4 q2 q6 q7 q8)⟩;refine sk (tn (sr (mv U (z2o U (wi6 (by omega)) (mv U (asg U (asg U (asg U (nn (rt (r3 results112 U U U ?_)))))))))));have O:z6a m.p o=0:=by unfold z6a;rw[J,if_neg (by simpa using c0),if_neg c1,if_neg c3]
 exact⟨_,rfl,by rw[O];rw[if_pos U,if_pos U,z9b,if_neg c1],(q1.z4 q2 q6 q7 q8)⟩
theorem z3f:z0y prog 137 1 1:=λ_ _=>by kernel_rfl
set_option maxHeartbeats 2000000 in
theorem x5v (wS:World)(ka:MA)(m:MQ)(yy pl en:Int)(w0:World)(hM:MkM τd 137 wS ka w0 m)(hi:MInv m.p)(hy:1<=yy/\yy<=6):Rets prog 113 #[.pointer (some ⟨ka.gk,0,none⟩),.int .u8 yy,.int .i64 pl,.int .i64 en] w0 λr w'=>MRet τd 137 wS ka (z8z m.p yy pl en) r w':=by
 have g3:=hM.fr.size;have J:=hM.k;have f8:=J.lt;have g0:=hM.ly;have f9:=hM.lt;have f3:=(hM.y.out.blk ka.gy (by simp[z0x])).2;obtain⟨j,hj,g1⟩:∃j:Nat,j<6/\yy=(j:Int)+1:=⟨(yy-1).toNat,by omega,by omega⟩;have d9:(yy-1).toNat=j:=by omega
 have b8:m.p.y yy=(m.ys.getD j yq0).p:=by rw[j5o,d9]
 have f5:=v3q (z2f m.q.p m.rk) (m.ys.getD j yq0).pl en;have hN:=y5f hi.B;have f7:(z2f m.q.p m.rk).length<=320:=by unfold z2f;rw[z4k,y0e];exact hN
 refine we [(0,.pointer (some ⟨ka.gk,0,none⟩)),(1,.int .u8 yy),(2,.int .i64 pl),(3,.int .i64 en)] func113 U ntmps113 U (.c4 U U U U) ?_;have a7:=hM;refine sr (asg U (nn (sq ?_)));intro a h;refine z0j none (λwb w'=>Fr [] wb w') z2s ?_;intro w1 q1;have z1:=q1.size;replace hM:=hM.ext q1;replace J:=J.ext q1;have hC:Fr [] w1 w1:=Fr.refl _ _;have a2:=hM;have Z:=J;refine z0e 0 h U λa h=>z0o 1 h U λa h=>z0c 2 h U z3f U λa h=>z1e (vs:=[_,_]) 3 h U (λ_ hw=>(Z.ext hw)) z5x U U λa h=>z0e 4 h U λa h=>z0o 5 h U λa h=>z0c 6 h U z3v U λa h=>z0l 7 h U (λ_ hw=>Z.ext hw) U na3 U λa h=>z0d 8 U ?_;refine z0m h (z0a U (z0a U z0f)) (mkC func102) (v6c m.q m.rk _ hM.b.at hi.B hi.rk) ?_;rintro _ w2 ⟨⟨g9,rfl,f6,hL⟩,hq⟩ a h;have z2:=hq.size;replace hM:=hM.ext hq;replace J:=J.ext hq;replace hC:=hC.next hq;have q2:=hq;have f4:=(hL.blk g9 (by simp[z0x])).2;refine z0b ?_;refine z0e 9 h U λa h=>z0n 10 h U λa h=>z0n 11 h U λa h=>z0d 12 U ?_;refine z0s h U λa h=>?_;refine z0b ?_;refine z0d 13 U ?_;refine z0s h U λa h=>?_;refine z0b ?_;refine z0r ?_;clear hC a2 Z;refine bk (h.sub (L':=[(0,_),(1,_),(2,_),(3,_),(9,_),(10,_)]) (.c6 U U U U U U)) (tn (sq (sr (mv U (ne' U (nn (cd U (λc0=>?_) (λc0=>?_))))))));exact absurd U c0;refine sk (tn (sr (mv U (nlc U (fad U z3d (z0g U J U y0q (mv U (z2o U (wi8 (by omega)) (z1a (p:=j) (yq0) U hM.y.out.sl U y0y (by omega) (λf1 e2=>(z1j U (e2 _ hM.y.out.sl) z6u (al y1y U (λe0 w3 f2 D q3 z3=>?_)))))))))))));refine z0i (vs:=[_,_,_,_,_]) U D z7k (λw4 D q4 z4=>?_) (h1:=(by first|(simp[Value.oneCell',S];done)|exact z2v.one (m.ys.getD j yq0)));refine kpL [(0,_),(1,_),(2,_),(3,_),(9,_),(11,_)] (.c6 U U U U U U) (nn (sq ?_));replace hM:=a7.ext (q1.z3 q2 q3 q4);replace J:=(J.ext q3).fr q4;replace hL:=(hL.ext q3).fr q4 (by first|exact y0m hL (by omega)|simp[z0x]<;>omega);intro a h;refine z0j none (λwb w'=>Fr [] wb w') z2s ?_;intro w5 q5;have z5:=q5.size;replace hM:=hM.ext q5;replace J:=J.ext q5;replace hL:=hL.ext q5;replace D:=D.ext q5;have hC:Fr [] w5 w5:=Fr.refl _ _;have a2:=hM;have Z:=J;have d4:=hL;have O:=D;refine z0z 0 h U (λ_ hw=>O.ext hw) z6u U λa h=>z0e 1 h U λa h=>z0e 2 h U λa h=>z0c 3 h U z5w U λa h=>z0l 4 h U (λ_ hw=>O.ext hw) U na3 U λa h=>z0e 5 h U λa h=>z2e 6 11 (by kernel_rfl) U ?_ ?_;refine z0m h (z0a U (z0a U (z0a U z0f))) (mkC func149) (u6l _ (z2f m.q.p m.rk) (m.ys.getD j yq0).pl en _ hL.sl (by omega)) ?_;rintro _ w6 ⟨⟨e1,rfl,e3,hW⟩,q6⟩ a h;have z6:=q6.size;replace hM:=hM.ext q6;replace J:=J.ext q6;replace hL:=hL.ext q6;replace D:=D.ext q6;replace hC:=hC.next q6;have e8:=(hW.blk e1 (by simp[z0x])).2;refine z0b ?_;refine z2e 7 11 (by kernel_rfl) U ?_ ?_;refine z0m h (z0a U (z0a U (z0a U z0f))) (mkC func146) (v0g (m.ys.getD j yq0) pl _ (btw (z2f m.q.p m.rk) (m.ys.getD j yq0).pl en) _ (hM.y.ins j (by omega)).sl hW.sl (λk J=>(hW.blk k J).2) (by omega)) ?_;rintro _ w7 ⟨qn,rfl,b5,q7⟩ a h;have z7:=q7.size;replace J:=J.ext q7;replace D:=D.ext q7;replace hC:=hC.next q7;have M:OwnIf ((goE (m.ys.getD j yq0).p pl (btw (z2f m.q.p m.rk) (m.ys.getD j yq0).pl en))=0) z1t 100 _ _ (slv qn.pe) qn.pes:=λhc=>(b5 hc).2;have b3:=λhc k J=>((M hc).blk k J).2;refine z0b ?_;refine z0e 8 h U λa h=>z0n 9 h U λa h=>z0n 10 h U λa h=>z0d 11 U ?_;refine z1c h y1y U λw8 I q8 hz a h=>?_;obtain⟨a1,hg⟩:∃g,g=w7.heap.size:=⟨_,rfl⟩;rw[<-hg]at I h hz;have e4.gk_12:ka.gk<a1:=by have:=J.lt;omega
 have b6:e0<a1:=by have:=D.lt;omega
 have z8:=q8.size;replace hM:=hM.ext (q7.n1 q8);replace J:=J.ext q8;replace hL:=hL.ext (q7.n1 q8);replace D:=D.ext q8;replace hW:=hW.ext (q7.n1 q8);replace M:=M.ext q8;replace hC:=hC.next q8;refine z0b ?_;refine z0d 12 U ?_;refine z0u h U I U z7k ?_ (h1:=(by first|(simp[Value.oneCell',S];done)|exact z2v.one (m.ys.getD j yq0)));clear h a;intro w9 b4 q9 hz a h;have z9:=q9.size;replace J:=J.fr q9;replace hL:=hL.fr q9 (by simp[z0x]<;>omega);replace D:=D.fr q9;replace hW:=hW.fr q9 (by simp[z0x]<;>omega);replace M:=M.fr q9 (by intro a4 k J a3;simp at J;subst J;have d1:=b3 a4 _ a3;have d3:=(M a4).blk _ a3;omega);replace hC:=hC.sp q9;clear I hz;have I:Blk w9 a1 _ [_,_,_,_,_]:=b4;clear b4;refine z0b ?_;refine z0d 13 U ?_;refine z0s h U λa h=>?_;refine z0b ?_;refine z0r ?_;clear hC a2 Z d4 O;refine bk (h.sub (L':=[(0,_),(1,_),(10,_),(12,_)]) (.c4 U U U U)) (tn (sq (sr (mv U (eq' U (nn (cd U (λc1=>?_) (λc1=>?_))))))));replace hM:=a7.ext (((q1.z6 q2 q3 q4 q5 q6 q7).n1 q8).z1 q9);intro a h;refine z0j (some 8) (λwb w'=>Fr [] wb w') z2s ?_;intro e5 b9;have h4:=b9.size;replace hM:=hM.ext b9;replace J:=J.ext b9;replace D:=D.ext b9;replace M:=M.ext b9;replace I:=I.ext b9;have hC:Fr [] e5 e5:=Fr.refl _ _;have a2:=hM;have Z:=J;have O:=D;have a6:=M;have a0:=I;refine z0e 0 h U λa h=>z0o 1 h U λa h=>z0c 2 h U z3d U λa h=>z0l 3 h U (λ_ hw=>Z.ext hw) U y0q U λa h=>z0e 4 h U λa h=>z3e 5 h wn U (by first|exact IntWalk.u8_in _ (by omega)|rfl) U λa h=>z0z 6 h U (λ_ hw=>a0.ext hw) z6u U λa h=>z1o 7 (by kernel_rfl) (by kernel_rfl) (by kernel_rfl) hC (p:=j) h wn U y0y (by omega) (by omega) (by omega) U U λa h=>z0d 8 U ?_;refine z1b (i:=j) (qn:YQ) h U hM.y.out (by rw[hM.ly];exact hj) U z7k λg4 a5 d5 _hz a h=>?_;replace hM:=hM.yarn mtd hj a5 d5 ((M c1).low (by omega));have a7:=hM;clear a5;have h5:=d5.size;replace D:=D.fr d5;replace M:=M.fr d5 (by intro a4 k J a3;simp at J;subst J;have d1:=b3 a4 _ a3;have d3:=(M a4).blk _ a3;omega);replace I:=I.fr d5;have J:=hM.k;clear _hz;refine z1n ?_;refine z0r ?_;clear hC a2 Z O a6 a0;refine bk (h.sub (L':=[(10,_)]) (.cons U .nil)) (tn (sr (mv U (asg U (nn (rt (r1 results113 U ?_)))))));exact⟨_,rfl,by rw[c1];exact MRet.ok (by unfold z8z y3l;rw[b8,if_neg (λe=>e c1)];exact congrArg Except.ok (by rw[y0s m qn d9,(b5 c1).1])) hM⟩;refine sk (tn (sr (mv U (asg U (kpL [(8,_)] (.cons U .nil) (nn (rt (r1 results113 U ?_))))))));replace hM:=a7.ext (((q1.z6 q2 q3 q4 q5 q6 q7).n1 q8).z1 q9);exact⟨_,rfl,MRet.err (by unfold z8z y3l;rw[b8,if_pos c1]) c1 hM.fr⟩;refine z1c h y1y U λg5 I b0 hz a h=>?_;obtain⟨a1,hg⟩:∃g,g=w6.heap.size:=⟨_,rfl⟩;rw[<-hg]at I h hz;have e4.gk_12:ka.gk<a1:=by have:=J.lt;omega
 have b6:e0<a1:=by have:=D.lt;omega
 have h6:=b0.size;replace hM:=hM.ext b0;replace J:=J.ext b0;replace hW:=hW.ext b0;replace hC:=hC.next b0;refine z0b ?_;refine z0d 7 U ?_;refine z0m h (z0a U (z0a U (z0a U z0f))) (mkC func146) (v0g (m.ys.getD j yq0) pl _ (btw (z2f m.q.p m.rk) (m.ys.getD j yq0).pl en) _ (hM.y.ins j (by omega)).sl hW.sl (λk J=>(hW.blk k J).2) (by omega)) ?_;rintro _ g6 ⟨qn,rfl,b5,a8⟩ a h;have h7:=a8.size;replace hM:=hM.ext a8;replace J:=J.ext a8;replace hL:=hL.ext (b0.n1 a8);replace D:=D.ext (b0.n1 a8);replace hW:=hW.ext a8;replace I:=I.ext a8;replace hC:=hC.next a8;have M:OwnIf ((goE (m.ys.getD j yq0).p pl (btw (z2f m.q.p m.rk) (m.ys.getD j yq0).pl en))=0) z1t 100 _ _ (slv qn.pe) qn.pes:=λhc=>(b5 hc).2;have b3:=λhc k J=>((M hc).blk k J).2;refine z0b ?_;refine z0e 8 h U λa h=>z0n 9 h U λa h=>z0n 10 h U λa h=>z0d 12 U ?_;refine z0u h U I U z7k ?_ (h1:=(by first|(simp[Value.oneCell',S];done)|exact z2v.one (m.ys.getD j yq0)));clear h a;intro e9 b4 b1 hz a h;have h8:=b1.size;replace J:=J.fr b1;replace hL:=hL.fr b1 (by simp[z0x]<;>omega);replace D:=D.fr b1;replace hW:=hW.fr b1 (by simp[z0x]<;>omega);replace M:=M.fr b1 (by intro a4 k J a3;simp at J;subst J;have d1:=b3 a4 _ a3;have d3:=(M a4).blk _ a3;omega);replace hC:=hC.sp b1;clear I hz;have I:Blk e9 a1 _ [_,_,_,_,_]:=b4;clear b4;refine z0b ?_;refine z0d 13 U ?_;refine z0s h U λa h=>?_;refine z0b ?_;refine z0r ?_;clear hC a2 Z d4 O;refine bk (h.sub (L':=[(0,_),(1,_),(10,_),(12,_)]) (.c4 U U U U)) (tn (sq (sr (mv U (eq' U (nn (cd U (λc1=>?_) (λc1=>?_))))))));replace hM:=a7.ext (((q1.z6 q2 q3 q4 q5 q6 b0).n1 a8).z1 b1);intro a h;refine z0j (some 8) (λwb w'=>Fr [] wb w') z2s ?_;intro e6 c9;have h9:=c9.size;replace hM:=hM.ext c9;replace J:=J.ext c9;replace D:=D.ext c9;replace I:=I.ext c9;replace M:=M.ext c9;have hC:Fr [] e6 e6:=Fr.refl _ _;have a2:=hM;have Z:=J;have O:=D;have a0:=I;have a6:=M;refine z0e 0 h U λa h=>z0o 1 h U λa h=>z0c 2 h U z3d U λa h=>z0l 3 h U (λ_ hw=>Z.ext hw) U y0q U λa h=>z0e 4 h U λa h=>z3e 5 h wn U (by first|exact IntWalk.u8_in _ (by omega)|rfl) U λa h=>z0z 6 h U (λ_ hw=>a0.ext hw) z6u U λa h=>z1o 7 (by kernel_rfl) (by kernel_rfl) (by kernel_rfl) hC (p:=j) h wn U y0y (by omega) (by omega) (by omega) U U λa h=>z0d 8 U ?_;refine z1b (i:=j) (qn:YQ) h U hM.y.out (by rw[hM.ly];exact hj) U z7k λg7 a5 d6 _hz a h=>?_;replace hM:=hM.yarn mtd hj a5 d6 ((M c1).low (by omega));have a7:=hM;clear a5;have i0:=d6.size;replace D:=D.fr d6;replace I:=I.fr d6;replace M:=M.fr d6 (by intro a4 k J a3;simp at J;subst J;have d1:=b3 a4 _ a3;have d3:=(M a4).blk _ a3;omega);have J:=hM.k;clear _hz;refine z1n ?_;refine z0r ?_;clear hC a2 Z O a0 a6;refine bk (h.sub (L':=[(10,_)]) (.cons U .nil)) (tn (sr (mv U (asg U (nn (rt (r1 results113 U ?_)))))));exact⟨_,rfl,by rw[c1];exact MRet.ok (by unfold z8z y3l;rw[b8,if_neg (λe=>e c1)];exact congrArg Except.ok (by rw[y0s m qn d9,(b5 c1).1])) hM⟩;refine sk (tn (sr (mv U (asg U (kpL [(8,_)] (.cons U .nil) (nn (rt (r1 results113 U ?_))))))));replace hM:=a7.ext (((q1.z6 q2 q3 q4 q5 q6 b0).n1 a8).z1 b1);exact⟨_,rfl,MRet.err (by unfold z8z y3l;rw[b8,if_pos c1]) c1 hM.fr⟩;refine z1c h y1y U λg8 I b7 hz a h=>?_;obtain⟨a1,hg⟩:∃g,g=w5.heap.size:=⟨_,rfl⟩;rw[<-hg]at I h hz;have e4.gk_12:ka.gk<a1:=by have:=J.lt;omega
 have b6:e0<a1:=by have:=D.lt;omega
 have i1:=b7.size;replace hL:=hL.ext b7;replace hC:=hC.next b7;refine z0b ?_;refine z0d 6 U ?_;refine z0m h (z0a U (z0a U (z0a U z0f))) (mkC func149) (u6l _ (z2f m.q.p m.rk) (m.ys.getD j yq0).pl en _ hL.sl (by omega)) ?_;rintro _ h0 ⟨⟨e1,rfl,e3,hW⟩,q18⟩ a h;have i2:=q18.size;replace hM:=hM.ext (b7.n1 q18);replace J:=J.ext (b7.n1 q18);replace hC:=hC.next q18;have e8:=(hW.blk e1 (by simp[z0x])).2;refine z0b ?_;refine z0d 7 U ?_;refine z0m h (z0a U (z0a U (z0a U z0f))) (mkC func146) (v0g (m.ys.getD j yq0) pl _ (btw (z2f m.q.p m.rk) (m.ys.getD j yq0).pl en) _ (hM.y.ins j (by omega)).sl hW.sl (λk J=>(hW.blk k J).2) (by omega)) ?_;rintro _ h2 ⟨qn,rfl,b5,a9⟩ a h;have i3:=a9.size;replace hM:=hM.ext a9;replace J:=J.ext a9;replace hL:=hL.ext (q18.n1 a9);replace D:=D.ext (b7.n2 q18 a9);replace I:=I.ext (q18.n1 a9);replace hW:=hW.ext a9;replace hC:=hC.next a9;have M:OwnIf ((goE (m.ys.getD j yq0).p pl (btw (z2f m.q.p m.rk) (m.ys.getD j yq0).pl en))=0) z1t 100 _ _ (slv qn.pe) qn.pes:=λhc=>(b5 hc).2;have b3:=λhc k J=>((M hc).blk k J).2;refine z0b ?_;refine z0e 8 h U λa h=>z0n 9 h U λa h=>z0n 10 h U λa h=>z0d 12 U ?_;refine z0u h U I U z7k ?_ (h1:=(by first|(simp[Value.oneCell',S];done)|exact z2v.one (m.ys.getD j yq0)));clear h a;intro f0 b4 b2 hz a h;have i4:=b2.size;replace J:=J.fr b2;replace hL:=hL.fr b2 (by simp[z0x]<;>omega);replace D:=D.fr b2;replace hW:=hW.fr b2 (by simp[z0x]<;>omega);replace M:=M.fr b2 (by intro a4 k J a3;simp at J;subst J;have d1:=b3 a4 _ a3;have d3:=(M a4).blk _ a3;omega);replace hC:=hC.sp b2;clear I hz;have I:Blk f0 a1 _ [_,_,_,_,_]:=b4;clear b4;refine z0b ?_;refine z0d 13 U ?_;refine z0s h U λa h=>?_;refine z0b ?_;refine z0r ?_;clear hC a2 Z d4 O;refine bk (h.sub (L':=[(0,_),(1,_),(10,_),(12,_)]) (.c4 U U U U)) (tn (sq (sr (mv U (eq' U (nn (cd U (λc1=>?_) (λc1=>?_))))))));replace hM:=a7.ext (((q1.z6 q2 q3 q4 q5 b7 q18).n1 a9).z1 b2);intro a h;refine z0j (some 8) (λwb w'=>Fr [] wb w') z2s ?_;intro e7 d0;have i5:=d0.size;replace hM:=hM.ext d0;replace J:=J.ext d0;replace D:=D.ext d0;replace I:=I.ext d0;replace M:=M.ext d0;have hC:Fr [] e7 e7:=Fr.refl _ _;have a2:=hM;have Z:=J;have O:=D;have a0:=I;have a6:=M;refine z0e 0 h U λa h=>z0o 1 h U λa h=>z0c 2 h U z3d U λa h=>z0l 3 h U (λ_ hw=>Z.ext hw) U y0q U λa h=>z0e 4 h U λa h=>z3e 5 h wn U (by first|exact IntWalk.u8_in _ (by omega)|rfl) U λa h=>z0z 6 h U (λ_ hw=>a0.ext hw) z6u U λa h=>z1o 7 (by kernel_rfl) (by kernel_rfl) (by kernel_rfl) hC (p:=j) h wn U y0y (by omega) (by omega) (by omega) U U λa h=>z0d 8 U ?_;refine z1b (i:=j) (qn:YQ) h U hM.y.out (by rw[hM.ly];exact hj) U z7k λh3 a5 d7 _hz a h=>?_;replace hM:=hM.yarn mtd hj a5 d7 ((M c1).low (by omega));have a7:=hM;clear a5;have i7:=d7.size;replace D:=D.fr d7;replace I:=I.fr d7;replace M:=M.fr d7 (by intro a4 k J a3;simp at J;subst J;have d1:=b3 a4 _ a3;have d3:=(M a4).blk _ a3;omega);have J:=hM.k;clear _hz;refine z1n ?_;refine z0r ?_;clear hC a2 Z O a0 a6;refine bk (h.sub (L':=[(10,_)]) (.cons U .nil)) (tn (sr (mv U (asg U (nn (rt (r1 results113 U ?_)))))));exact⟨_,rfl,by rw[c1];exact MRet.ok (by unfold z8z y3l;rw[b8,if_neg (λe=>e c1)];exact congrArg Except.ok (by rw[y0s m qn d9,(b5 c1).1])) hM⟩;refine sk (tn (sr (mv U (asg U (kpL [(8,_)] (.cons U .nil) (nn (rt (r1 results113 U ?_))))))));replace hM:=a7.ext (((q1.z6 q2 q3 q4 q5 b7 q18).n1 a9).z1 b2);exact⟨_,rfl,MRet.err (by unfold z8z y3l;rw[b8,if_pos c1]) c1 hM.fr⟩
theorem j0c (wS:World)(J:MA)(m:MQ)(o:MOp)(w0:World)(hM:MkM τd 137 wS J w0 m)(hi:MInv m.p)(hy:1<=o.y/\o.y<=6)(hn:z3z o.b o.p=0):Rets prog 69 #[.pointer (some ⟨J.gk,0,none⟩),opV o] w0 λr w'=>MRet τd 137 wS J (z7x m.p o) r w':=by
 refine we [(0,.pointer (some ⟨J.gk,0,none⟩)),(1,opV o)] func69 U ntmps69 U (.c2 U U) ?_;have I:=hM;refine sr (bx U (λg3 w1 a0 D Z z1=>(asg U (nn (sr (mv U (z0k U D y2a ?_)))))));replace hM:=I.ext Z;refine cl (ev2 U) (mkC func112) (x5f wS J m o _ hM hi hy hn) U ?_;rintro _ w2 ⟨rfl,q2⟩;refine mv U (xt U (xt U (xt U (asg U (asg U (asg U (kpL [(0,_),(3,_),(5,_),(7,_)] (.c4 U U U U) (nn (sq (sr (mv U (ne' U (nn (cd U (λM=>?_) (λM=>?_)))))))))))))));refine sr (mv U (asg U (kpL [(4,_)] (.cons U .nil) (nn (rt (tr (r1 results69 U ?_)))))));replace hM:=I.ext (Z.n1 q2);exact⟨_,rfl,MRet.err (by unfold z7x;rw[if_pos M]) M hM.fr⟩;refine sk (tn (sr (mv U (fad U z2z ?_))));replace D:=D.ext q2;refine z0g U D U na5 (mv U (mv U ?_));replace hM:=I.ext (Z.n1 q2);refine cl (z0a U (z0a U (z0a U (z0a U z0f)))) (mkC func113) (x5v wS J m o.y (if z6a m.p o=0 then z9b m.p o else 0) (if z6a m.p o=0 then z9b m.p o else 0) _ hM hi hy) U ?_;rintro a1 w3 hR;refine asg U (kpL [(4,_)] (.cons U .nil) (nn (rt (r1 results69 U ?_))));have O:z6a m.p o=0:=Classical.not_not.1 M;rw[if_pos O]at hR;exact⟨_,rfl,by rw[show z7x m.p o=_ from if_neg M];exact hR⟩
theorem v5c:CallOf prog 118:=mkC func118
theorem y3f:z0y prog 137 5 6:=λ_ _=>by kernel_rfl
set_option maxHeartbeats 1000000 in
theorem u8r (wS:World)(ka:MA)(m:MQ)(o:MOp)(w0:World)(hM:MkM τd 137 wS ka w0 m)(hi:MInv m.p)(hn:z3z o.b o.p=0):Rets prog 71 #[.pointer (some ⟨ka.gk,0,none⟩),opV o] w0 λr w'=>MRet τd 137 wS ka (y4i m.p o) r w':=by
 have f5:=hM.fr.size;have D:=hM.k;have f1:=D.lt;have f3:=hM.ly;have f2:=hM.lt;have e5:=(hM.y.out.blk ka.gy (by simp[z0x])).2;have f4:=z2y hn;obtain⟨n,b5⟩:∃n:Nat,o.p=(n:Int):=⟨o.p.toNat,by omega⟩;obtain⟨⟨hf,hb⟩,h4,d7⟩:=z3k hi.B;have hfl:m.q.p.flat.length+m.fl.length<=z5d (z1v m.ts):=hi.cnt;have e9:z5d (z1v m.ts)<=2048:=hi.all;have hv:BdOk m.q.p:=hi.B;have e8:=y6k hv o.b o.p;refine we [(0,.pointer (some ⟨ka.gk,0,none⟩)),(1,opV o)] func71 U ntmps71 U (.c2 U U) ?_;have a4:=hM;refine sr (bx U (λg3 w1 f0 J q1 z1=>(asg U (nn (sq ?_)))));replace hM:=a4.ext q1;intro a h;refine z0j none (λwb w'=>Fr [] wb w') z2s ?_;intro w2 q2;have z2:=q2.size;replace hM:=hM.ext q2;replace D:=D.ext (q1.n1 q2);replace J:=J.ext q2;have hC:Fr [] w2 w2:=Fr.refl _ _;have a8:=hM;have a0:=D;have O:=J;refine z0e 0 h U λa h=>z0o 1 h U λa h=>z0c 2 h U z3f U λa h=>z1e (vs:=[_,_]) 3 h U (λ_ hw=>(a0.ext hw)) z5x U U λa h=>z0c 4 h U z4q U λa h=>z1e (vs:=[_,_]) 5 h U (λ_ hw=>(O.ext hw)) z5b U U λa h=>z0d 6 U ?_;refine z0m h (z0a U (z0a U z0f)) u2q (y9k m.q o.b o.p _ hM.b.at (by omega) hf hb h4 d7) ?_;rintro f6 w3 ⟨I,hq⟩ a h;have z3:=hq.size;replace hM:=hM.ext hq;replace D:=D.ext hq;replace J:=J.ext hq;replace hC:=hC.next hq;have q3:=hq;rw[y7n hn]at I;obtain⟨e6,e7,rfl,e4⟩:=I.sl.form;have b4:=λk hb=>(I.blk k hb).2;refine z0b ?_;refine z0d 7 U ?_;refine z0s h U λa h=>?_;refine z0b ?_;refine z0r ?_;clear hC a8 a0 O;refine bk (h.sub (L':=[(0,_),(3,_),(5,_)]) (.c3 U U U)) (tn (sq (sr (mv U (lnS U underlying37 (eq' U (nn (cd U (λc0=>?_) (λc0=>?_)))))))));refine sr (asg U (nn (rt (tr (r1 results71 U ?_)))));exact⟨_,rfl,MRet.err (if_pos (List.length_eq_zero_iff.1 (show (m.q.p.at o.b o.p).length=0 by omega))) (by decide) hM.fr⟩;refine sk (tn (sq ?_));intro a h;refine z0j none (λwb w'=>Fr [] wb w') z2s ?_;intro w4 q4;have z4:=q4.size;replace hM:=hM.ext q4;replace D:=D.ext q4;replace J:=J.ext q4;replace I:=I.ext q4;have hC:Fr [] w4 w4:=Fr.refl _ _;have a8:=hM;have a0:=D;have O:=J;have b2:=I;refine z0e 0 h U λa h=>z0o 1 h U λa h=>z0c 2 h U z3f U λa h=>z1e (vs:=[_,_]) 3 h U (λ_ hw=>(a0.ext hw)) z5x U U λa h=>z0c 4 h U z4q U λa h=>z1e (vs:=[_,_]) 5 h U (λ_ hw=>(O.ext hw)) z5b U U λa h=>z2e 6 10 (by kernel_rfl) U ?_ ?_;refine z0m h (z0a U (z0a U (z0a U z0f))) v5c (by have x:=x2i m.q o.b n (.slice none 0 0) [] _ hM.b.at (Sl.nil _) hv (by rw[<-b5];exact hn) (by simp) (by simp) (λi=>by have:=List.nodup_iff_count.1 hv.nd i;simp only[List.count_nil];omega);rw[<-b5]at x;exact x) ?_;rintro _ w5 ⟨⟨q',rfl,hQ,d1⟩,q5⟩ a h;have z5:=q5.size;replace D:=D.ext q5;replace J:=J.ext q5;replace hC:=hC.next q5;have b9:=x3i hQ a4.f (by omega);refine z0b ?_;refine z0e 7 h U λa h=>z0n 8 h U λa h=>z0n 9 h U λa h=>z0d 10 U ?_;refine z1c h v1e U λw6 M q6 hz a h=>?_;obtain⟨a3,hg⟩:∃g,g=w5.heap.size:=⟨_,rfl⟩;rw[<-hg]at M h hz;have d9.gk_6:ka.gk<a3:=by have:=D.lt;omega
 have d0:g3<a3:=by have:=J.lt;omega
 have z6:=q6.size;replace hM:=hM.ext (q5.n1 q6);replace D:=D.ext q6;replace J:=J.ext q6;replace I:=I.ext (q5.n1 q6);first|replace hQ:=BdO.ext hQ q6|replace hQ:=BdO.tf hQ q6 (OffT.one M (by decide)) (OffT.one M (by decide))
 replace hC:=hC.next q6;refine z0b ?_;refine z0d 11 U ?_;refine z0u h U M U x6k λw7 b1 q7 hz a h=>?_;have z7:=q7.size;replace D:=D.fr q7;replace J:=J.fr q7;replace I:=I.fr q7 (by intro k D Z;simp at D;subst D;have:=b4 _ Z;have b6:=(I.blk _ Z).1;omega);first|replace hQ:=BdO.ext hQ q7|replace hQ:=BdO.tf hQ q7 (OffT.one M (by decide)) (OffT.one M (by decide))
 replace hC:=hC.sp q7;clear M hz;have M:Blk w7 a3 _ [_,_]:=b1;clear b1;refine z0b ?_;refine z0d 12 U ?_;refine z0s h U λa h=>?_;refine z0b ?_;refine z0r ?_;clear hC a8 a0 O b2;refine bk (h.sub (L':=[(0,_),(5,_),(6,_),(7,_)]) (.c4 U U U U)) (tn (sq (sr (mv U (ne' U (nn (cd U (λc1=>?_) (λc1=>?_))))))));exact absurd U c1;refine sk (tn (sr (mv U (z0k U M z5x (nlc U (fad U z3f ?_))))));replace hM:=a4.ext (q1.z6 q2 q3 q4 q5 q6 q7);refine z5r (cs':=u5m ka { m with q:=q' }) U U hM.k (by intro u hu;simp at hu;rcases hu with rfl|rfl<;>rfl) x6k U (λw8 a1 q8 z8=>?_);replace hM:=hM.beds mtd (hQ.low (by omega)) a1 q8 b9;have D:=hM.k;have a4:=hM;have b8:=hM;have hF:Lw.Own z1k 87 wS.heap.size _ (slv m.fa) m.fl:=hM.f;clear a1;refine kpL [(0,_),(5,_)] (.c2 U U) (nn (sr (mv U (mv U (nlc U (fad U y3f (z0g U D U z6c (mv U ?_))))))));replace I:=I.fr q8 (by intro k D Z;simp at D;subst D;have:=b4 _ Z;have b6:=(I.blk _ Z).1;omega);have a5:=hF;refine z2g U hF I.sl z6o (by unfold maxLen;omega) (by omega) (λe2 w9 hF q9 a6=>?_);have d4:=q9;obtain⟨a9,b0,rfl,d5⟩:=hF.sl.form;have b3:∀k∈z0x (.slice a9 (m.fl++(m.q.p.at o.b o.p)).length b0),k∈z0x (slv m.fa)\/_<=k:=λk D=>by
  rcases a6 with e|e|e
  exact .inl (congrArg z0x e▸D);exact .inl (e▸D);rw[e,List.mem_singleton]at D;exact .inr (Nat.le_of_eq D.symm)
 have z9:=q9.size;replace D:=D.fr q9 (λc9=>a5.neB D (by decide) c9);refine nlc U (fad U y3f (z3b U D U j2l (λf7 a1 e0 g5=>?_)));have b7:=b8.fall mtd (by decide) (u:=(a9,(m.fl++(m.q.p.at o.b o.p)).length,b0)) hF d4 b3 a1 e0;refine kpL [] .nil (nn (sr (asg U (nn (rt (r1 results71 U ?_))))));exact⟨_,rfl,MRet.ok (by rw[show y4i m.p o=_ from if_neg (λe=>c0 (by rw[show (m.q.p.at o.b o.p)=[] from e];rfl))];exact congrArg Except.ok (by unfold MQ.p;simp only[d1])) b7⟩;refine z1c h v1e U λf8 M a7 hz a h=>?_;obtain⟨a3,hg⟩:∃g,g=w4.heap.size:=⟨_,rfl⟩;rw[<-hg]at M h hz;have d9.gk_6:ka.gk<a3:=by have:=D.lt;omega
 have d0:g3<a3:=by have:=J.lt;omega
 have g6:=a7.size;replace hM:=hM.ext a7;replace hC:=hC.next a7;refine z0b ?_;refine z0d 6 U ?_;refine z0m h (z0a U (z0a U (z0a U z0f))) v5c (by have x:=x2i m.q o.b n (.slice none 0 0) [] _ hM.b.at (Sl.nil _) hv (by rw[<-b5];exact hn) (by simp) (by simp) (λi=>by have:=List.nodup_iff_count.1 hv.nd i;simp only[List.count_nil];omega);rw[<-b5]at x;exact x) ?_;rintro _ f9 ⟨⟨q',rfl,hQ,d1⟩,q12⟩ a h;have g7:=q12.size;replace hM:=hM.ext q12;replace D:=D.ext (a7.n1 q12);replace J:=J.ext (a7.n1 q12);replace I:=I.ext (a7.n1 q12);replace M:=M.ext q12;replace hC:=hC.next q12;have b9:=x3i hQ a4.f (by omega);refine z0b ?_;refine z0e 7 h U λa h=>z0n 8 h U λa h=>z0n 9 h U λa h=>z0d 11 U ?_;refine z0u h U M U x6k λe3 b1 a2 hz a h=>?_;have g8:=a2.size;replace D:=D.fr a2;replace J:=J.fr a2;replace I:=I.fr a2 (by intro k D Z;simp at D;subst D;have:=b4 _ Z;have b6:=(I.blk _ Z).1;omega);first|replace hQ:=BdO.ext hQ a2|replace hQ:=BdO.tf hQ a2 (OffT.one M (by decide)) (OffT.one M (by decide))
 replace hC:=hC.sp a2;clear M hz;have M:Blk e3 a3 _ [_,_]:=b1;clear b1;refine z0b ?_;refine z0d 12 U ?_;refine z0s h U λa h=>?_;refine z0b ?_;refine z0r ?_;clear hC a8 a0 O b2;refine bk (h.sub (L':=[(0,_),(5,_),(6,_),(7,_)]) (.c4 U U U U)) (tn (sq (sr (mv U (ne' U (nn (cd U (λc1=>?_) (λc1=>?_))))))));exact absurd U c1;refine sk (tn (sr (mv U (z0k U M z5x (nlc U (fad U z3f ?_))))));replace hM:=a4.ext (q1.z6 q2 q3 q4 a7 q12 a2);refine z5r (cs':=u5m ka { m with q:=q' }) U U hM.k (by intro u hu;simp at hu;rcases hu with rfl|rfl<;>rfl) x6k U (λg0 a1 d6 g9=>?_);replace hM:=hM.beds mtd (hQ.low (by omega)) a1 d6 b9;have D:=hM.k;have a4:=hM;have b8:=hM;have hF:Lw.Own z1k 87 wS.heap.size _ (slv m.fa) m.fl:=hM.f;clear a1;refine kpL [(0,_),(5,_)] (.c2 U U) (nn (sr (mv U (mv U (nlc U (fad U y3f (z0g U D U z6c (mv U ?_))))))));replace I:=I.fr d6 (by intro k D Z;simp at D;subst D;have:=b4 _ Z;have b6:=(I.blk _ Z).1;omega);have a5:=hF;refine z2g U hF I.sl z6o (by unfold maxLen;omega) (by omega) (λe2 g1 hF d3 a6=>?_);have d4:=d3;obtain⟨a9,b0,rfl,d5⟩:=hF.sl.form;have b3:∀k∈z0x (.slice a9 (m.fl++(m.q.p.at o.b o.p)).length b0),k∈z0x (slv m.fa)\/_<=k:=λk D=>by
  rcases a6 with e|e|e
  exact .inl (congrArg z0x e▸D);exact .inl (e▸D);rw[e,List.mem_singleton]at D;exact .inr (Nat.le_of_eq D.symm)
 have h0:=d3.size;replace D:=D.fr d3 (λc9=>a5.neB D (by decide) c9);refine nlc U (fad U y3f (z3b U D U j2l (λg4 a1 e1 h1=>?_)));have b7:=b8.fall mtd (by decide) (u:=(a9,(m.fl++(m.q.p.at o.b o.p)).length,b0)) hF d4 b3 a1 e1;refine kpL [] .nil (nn (sr (asg U (nn (rt (r1 results71 U ?_))))));exact⟨_,rfl,MRet.ok (by rw[show y4i m.p o=_ from if_neg (λe=>c0 (by rw[show (m.q.p.at o.b o.p)=[] from e];rfl))];exact congrArg Except.ok (by unfold MQ.p;simp only[d1])) b7⟩
theorem v6h (b p r:Int)(w0:World)(hn:z3z b p=0)(hr:-4<=r/\r<=4):Rets prog 115 #[.agg #[.int .u8 b,.int .i64 p],.int .i64 r] w0 λv w'=>(∃b' p':Int,v=.tuple #[.agg #[.int .u8 b',.int .i64 p'],.int .i64 (if z3z (1-b) (z3i b p r)≠0 then 11 else 0)]/\(z3z (1-b) (z3i b p r)=0->b'=1-b/\p'=z3i b p r))/\Fr [] w0 w':=by
 have a3:=z2y hn;refine we [(0,.agg #[.int .u8 b,.int .i64 p]),(1,.int .i64 r)] func115 U ntmps115 U (.c2 U U) (sr (bx U (λg2 w1 a4 J q1 z1=>(al v1n U (λg4 w2 a5 D q2 z2=>(asg U (nn (sq (sr ?_)))))))));replace J:=J.ext q2;refine z0k U J z5b (cl (ev1 U) u1m (z4y _ _ _) U ?_);rintro _ w3 ⟨rfl,Z⟩;have z3:=Z.size;refine ne' U (nn (cd U (λc0=>?_) (λc0=>?_)));refine sr (z1s (cs:=[_,_]) z0f y7w z0q U ?_);replace D:=D.ext Z;refine z0i (vs:=[_,_]) U D y3v (λw4 D q4 z4=>(asg U (nn (rt (tr (rCT results115 U D z5b U ?_))))));exact absurd hn c0;refine sk (tn (sq (sr (mv U (cl (ev1 U) (mkC func152) (x3v _ _) U ?_)))));rintro _ w5 ⟨rfl,q5⟩;have z5:=q5.size;refine nt' U (nn (cd U (λc1=>?_) (λc1=>?_)));refine sr (z1s (cs:=[_,_]) z0f y7w z0q U ?_);replace D:=D.ext (Z.n1 q5);refine z0i (vs:=[_,_]) U D y3v (λw6 D q6 z6=>(asg U (nn (rt (tr (rCT results115 U D z5b U ?_))))));exact absurd hr c1;refine sk (tn (sr (fad U z4s ?_)));replace J:=J.ext (Z.n1 q5);refine z0g U J U na3 (mv U (z2o U (wi6 (by omega)) (z1s (cs:=[_,_]) (ev2 U) y7w (z0h U (z0h U z0q)) U ?_)));refine al v1n U (λg6 w7 a6 I q7 z7=>(z0i (vs:=[_,_]) U I y3v (λw8 I q8 z8=>(kpL [(1,_),(2,_),(4,_),(6,_)] (.c4 U U U U) (nn ?_)))));refine jn (ι:=Unit) [(4,_),(6,_)] (λ_j=>[]) (λ_j w'=>Fr [g6] w8 w'/\Blk w' g6 24 [.int .u8 (1-b),.int .i64 (z3i b p r)]) (.c2 U U) ?_ ?_;refine sr (fad U z6d ?_);replace J:=(J.ext q7).fr q8;refine z0g U J U x1e (eq' U (nn (cd U (λc2=>?_) (λc2=>?_))));refine rg (fad U z4s (z0g U J U na3 (mv U (z0v U (wi6 (by omega)) (z1s (cs:=[_,_]) (ev2 U) y7w (z0h U (z0h U z0q)) U ?_)))));refine z0i (vs:=[_,_]) U I y3v (λw9 I q9 z9=>(kpL [(4,_),(6,_)] (.c2 U U) (nl ?_)));exact jE (()) (.c2 U U) ⟨((Fr.refl [g6] _).z1 q9),(by rw[show z3i b p r=p+r from if_pos c2,show 1-b=0 by omega];exact I)⟩;refine sk ?_;exact jE (()) (.c2 U U) ⟨(Fr.refl _ _),(by rw[show z3i b p r=p-r from if_neg c2,show 1-b=1 by omega];exact I)⟩;rintro _j a7 ⟨O,I⟩;have b1:=O.size;have a0:=I.lt;refine kpC [(4,_),(6,_)] (.c2 U U) (sq (sr (z0k U I z5b (cl (ev1 U) u1m (z4y _ _ _) U ?_))));rintro _ a8 ⟨rfl,M⟩;have b2:=M.size;refine ne' U (nn (cd U (λc3=>?_) (λc3=>?_)));refine sr (z1s (cs:=[_,_]) z0f y7w z0q U ?_);replace D:=(((D.ext (Z.n2 q5 q7)).fr q8).fr O).ext M;refine z0i (vs:=[_,_]) U D y3v (λa9 D a1 b3=>(asg U (nn (rt (tr (rCT results115 U D z5b U ?_))))));exact⟨_,rfl,⟨0,0,by rw[if_pos c3],λe=>absurd e c3⟩,(((q1.z6 q2 Z q5 q7 q8 O).n1 M).z1 a1)⟩;refine sk (tn (sr ?_));replace I:=I.ext M;refine z0k U I z5b ?_;replace D:=(((D.ext (Z.n2 q5 q7)).fr q8).fr O).ext M;refine z0i (vs:=[_,_]) U D y3v (λb0 D a2 b4=>(asg U (nn (rt (rCT results115 U D z5b U ?_)))));exact⟨_,rfl,⟨_,_,by rw[if_neg c3],λ_=>⟨rfl,rfl⟩⟩,(((q1.z6 q2 Z q5 q7 q8 O).n1 M).z1 a2)⟩
def BdOIf (c:Prop)(Sτ I base:Nat)(w:World)(q:BdQ):Prop:=c->BdO Sτ I base w q
theorem BdOIf.ext {c:Prop}{D I base:Nat}{w w':World}{q:BdQ}(h:BdOIf c D I base w q)(hf:Fr [] w w'):BdOIf c D I base w' q:=λJ=>(h J).ext hf
theorem BdOIf.tf {c:Prop}{D I base:Nat}{w w':World}{q:BdQ}{S:List Nat}(h:BdOIf c D I base w q)(hf:Fr S w w')(M:OffT w D S)(J:OffT w I S):BdOIf c D I base w' q:=λO=>BdO.tf (h O) hf M J
theorem x3k {p:MSt}{o:MOp}(h:o.b=0\/o.b=1):y5l p.B o.b o.p (z3i o.b o.p p.rk)=z7c p o:=by
 unfold y5l z7c;rcases h with e|e<;>rw[e]<;>rfl
set_option maxHeartbeats 2000000 in
theorem j1n (wS:World)(ka:MA)(m:MQ)(o:MOp)(w0:World)(hM:MkM τd 137 wS ka w0 m)(hi:MInv m.p)(hn:z3z o.b o.p=0):Rets prog 70 #[.pointer (some ⟨ka.gk,0,none⟩),opV o] w0 λr w'=>MRet τd 137 wS ka (z7b m.p o) r w':=by
 have i5:=hM.fr.size;have O:=hM.k;have i0:=O.lt;have i2:=hM.ly;have i1:=hM.lt;have h0:=(hM.y.out.blk ka.gy (by simp[z0x])).2;have e5:=z2y hn;obtain⟨n,d3⟩:∃n:Nat,o.p=(n:Int):=⟨o.p.toNat,by omega⟩;obtain⟨⟨hf,hb⟩,h4,f1⟩:=z3k hi.B;have hv:BdOk m.q.p:=hi.B;have h7:=y6k hv o.b o.p;have e6:-4<=m.rk/\m.rk<=4:=hi.rk;have i3:=y6d o.b o.p m.rk;have i4:=y6d (1-o.b) (z3i o.b o.p m.rk) m.rk;refine we [(0,.pointer (some ⟨ka.gk,0,none⟩)),(1,opV o)] func70 U ntmps70 U (.c2 U U) ?_;have a2:=hM;refine sr (bx U (λg3 w1 h8 D q1 z1=>(asg U (nn (sq (sq ?_))))));replace hM:=a2.ext q1;intro a h;refine z0j none (λwb w'=>Fr [] wb w') z2s ?_;intro w2 q2;have z2:=q2.size;replace hM:=hM.ext q2;replace O:=O.ext (q1.n1 q2);replace D:=D.ext q2;have hC:Fr [] w2 w2:=Fr.refl _ _;have a3:=hM;have Z:=O;have M:=D;refine z0e 0 h U λa h=>z0o 1 h U λa h=>z0c 2 h U z3f U λa h=>z1e (vs:=[_,_]) 3 h U (λ_ hw=>(Z.ext hw)) z5x U U λa h=>z0c 4 h U z4q U λa h=>z1e (vs:=[_,_]) 5 h U (λ_ hw=>(M.ext hw)) z5b U U λa h=>z0d 6 U ?_;refine z0m h (z0a U (z0a U z0f)) u2q (y9k m.q o.b o.p _ hM.b.at (by omega) hf hb h4 f1) ?_;rintro i7 w3 ⟨d9,hq⟩ a h;have z3:=hq.size;replace hM:=hM.ext hq;replace O:=O.ext hq;replace D:=D.ext hq;replace hC:=hC.next hq;have q3:=hq;rw[y7n hn]at d9;obtain⟨h5,h6,rfl,g8⟩:=d9.sl.form;refine z0b ?_;refine z8r 7 hC h wn U underlying37 U λa h=>v9n 8 hC h wn U U U U λa h=>z0r ?_;clear hC a3 Z M;refine bk (h.sub (L':=[(0,_),(3,_),(19,_)]) (.c3 U U U)) (tn (cd U (λc0=>?_) (λc0=>?_)));refine sr (asg U (nn (rt (tr (r1 results70 U ?_)))));exact⟨_,rfl,MRet.err (if_pos (List.length_eq_zero_iff.1 (show (m.q.p.at o.b o.p).length=0 by omega))) (by decide) hM.fr⟩;have b9:(m.q.p.at o.b o.p)≠[]:=λe=>c0 (by rw[e];rfl);refine sk (tn ?_);refine jn (ι:=Nat×Int×Int) [(0,_),(3,_)] (λz_=>[(5,.pointer (some ⟨z_.1,0,none⟩)),(6,.int .i64 (if z3z (1-o.b) (z3i o.b o.p m.rk)≠0 then 11 else 0))]) (λz_ w'=>Fr [] w3 w'/\(w3.heap.size<=z_.1/\Blk w' z_.1 24 [.int .u8 z_.2.1,.int .i64 z_.2.2])/\(z3z (1-o.b) (z3i o.b o.p m.rk)=0->z_.2.1=1-o.b/\z_.2.2=z3i o.b o.p m.rk)) (.c2 U U) ?_ ?_;intro a h;refine z0j none (λwb w'=>Fr [] wb w') z2s ?_;intro w4 q4;have z4:=q4.size;replace hM:=hM.ext q4;replace O:=O.ext q4;replace D:=D.ext q4;have hC:Fr [] w4 w4:=Fr.refl _ _;have a3:=hM;have Z:=O;have M:=D;refine z0c 0 h U z4q U λa h=>z1e (vs:=[_,_]) 1 h U (λ_ hw=>(M.ext hw)) z5b U U λa h=>z0e 2 h U λa h=>z0o 3 h U λa h=>z0c 4 h U z3v U λa h=>z0l 5 h U (λ_ hw=>Z.ext hw) U na3 U λa h=>z2e 6 10 (by kernel_rfl) U ?_ ?_;refine z0m h (z0a U (z0a U z0f)) (mkC func115) (v6h o.b o.p m.rk _ hn e6) ?_;rintro _ w5 ⟨⟨bn,pn,rfl,a0⟩,q5⟩ a h;have z5:=q5.size;replace O:=O.ext q5;replace D:=D.ext q5;replace hC:=hC.next q5;refine z0b ?_;refine z0e 7 h U λa h=>z0n 8 h U λa h=>z0n 9 h U λa h=>z0d 10 U ?_;refine z1c h v1n U λw6 I q6 hz a h=>?_;obtain⟨b2,hg⟩:∃g,g=w5.heap.size:=⟨_,rfl⟩;rw[<-hg]at I h hz;have e0.gk_5:ka.gk<b2:=by have:=O.lt;omega
 have e1:g3<b2:=by have:=D.lt;omega
 have z6:=q6.size;replace O:=O.ext q6;replace D:=D.ext q6;replace hC:=hC.next q6;refine z0b ?_;refine z0d 11 U ?_;refine z0u h U I U y3v ?_ (h1:=(by first|(simp[Value.oneCell',S];done)|exact z2v.one (m.ys.getD i yq0)));clear h a;intro w7 a0 q7 hz a h;have z7:=q7.size;replace O:=O.fr q7;replace D:=D.fr q7;replace hC:=hC.sp q7;clear I hz;have I:Blk w7 b2 _ [_,_]:=a0;clear a0;refine z0b ?_;refine z0d 12 U ?_;refine z0s h U λa h=>?_;refine z0b ?_;refine z0r ?_;clear hC a3 Z M;refine bk (h.sub (L':=[(0,_),(3,_),(5,_),(6,_)]) (.c4 U U U U)) ?_;exact jE ((b2,bn,pn)) (.c4 U U U U) ⟨(q4.z3 q5 q6 q7),⟨⟨by simp only;omega,I⟩,a0⟩⟩;refine z1c h v1n U λw8 I q8 hz a h=>?_;obtain⟨b2,hg⟩:∃g,g=w4.heap.size:=⟨_,rfl⟩;rw[<-hg]at I h hz;have e0.gk_5:ka.gk<b2:=by have:=O.lt;omega
 have e1:g3<b2:=by have:=D.lt;omega
 have z8:=q8.size;replace hC:=hC.next q8;refine z0b ?_;refine z0d 6 U ?_;refine z0m h (z0a U (z0a U z0f)) (mkC func115) (v6h o.b o.p m.rk _ hn e6) ?_;rintro _ w9 ⟨⟨bn,pn,rfl,a0⟩,q9⟩ a h;have z9:=q9.size;replace O:=O.ext (q8.n1 q9);replace D:=D.ext (q8.n1 q9);replace I:=I.ext q9;replace hC:=hC.next q9;refine z0b ?_;refine z0e 7 h U λa h=>z0n 8 h U λa h=>z0n 9 h U λa h=>z0d 11 U ?_;refine z0u h U I U y3v ?_ (h1:=(by first|(simp[Value.oneCell',S];done)|exact z2v.one (m.ys.getD i yq0)));clear h a;intro f8 a0 d6 hz a h;have j8:=d6.size;replace O:=O.fr d6;replace D:=D.fr d6;replace hC:=hC.sp d6;clear I hz;have I:Blk f8 b2 _ [_,_]:=a0;clear a0;refine z0b ?_;refine z0d 12 U ?_;refine z0s h U λa h=>?_;refine z0b ?_;refine z0r ?_;clear hC a3 Z M;refine bk (h.sub (L':=[(0,_),(3,_),(5,_),(6,_)]) (.c4 U U U U)) ?_;exact jE ((b2,bn,pn)) (.c4 U U U U) ⟨(q4.z3 q8 q9 d6),⟨⟨by simp only;omega,I⟩,a0⟩⟩;rintro⟨g5,bn,pn⟩ i8 ⟨a8,⟨⟨f5,I⟩,a0⟩⟩;have j9:=a8.size;have f0:=I.lt;simp only at f5 I a0;refine kpC [(0,_),(3,_),(5,.pointer (some ⟨g5,0,none⟩)),(6,_)] (.c4 U U U U) (sq (sr (mv U (ne' U (nn (cd U (λc1=>?_) (λc1=>?_)))))));refine sr (mv U (asg U (kpL [(4,_)] (.cons U .nil) (nn (rt (tr (r1 results70 U ?_)))))));replace hM:=a2.ext (q1.n3 q2 q3 a8);have a7:z3z (1-o.b) (z3i o.b o.p m.rk)≠0:=λe=>c1 (by rw[if_neg (λh=>h e)]);exact⟨_,rfl,by rw[if_pos a7];exact MRet.err (by rw[z7b,if_neg b9,if_pos a7]) (by decide) hM.fr⟩;have a7:z3z (1-o.b) (z3i o.b o.p m.rk)=0:=Classical.not_not.1 λe=>c1 (by rw[if_pos e];decide);obtain⟨rfl,rfl⟩:=a0 a7;have h3:=z2y a7;obtain⟨n2,d1⟩:∃n2:Nat,z3i o.b o.p m.rk=(n2:Int):=⟨(z3i o.b o.p m.rk).toNat,by omega⟩;refine sk (tn (sq ?_));replace hM:=a2.ext (q1.n3 q2 q3 a8);intro a h;refine z0j none (λwb w'=>Fr [] wb w') z2s ?_;intro e9 a9;have k0:=a9.size;replace hM:=hM.ext a9;replace O:=O.ext (a8.n1 a9);replace D:=D.ext (a8.n1 a9);replace I:=I.ext a9;have hC:Fr [] e9 e9:=Fr.refl _ _;have a3:=hM;have Z:=O;have M:=D;have a4:=I;refine z0c 0 h U z4q U λa h=>z1e (vs:=[_,_]) 1 h U (λ_ hw=>(M.ext hw)) z5b U U λa h=>z0e 2 h U λa h=>z0o 3 h U λa h=>z0c 4 h U z3v U λa h=>z0l 5 h U (λ_ hw=>Z.ext hw) U na3 U λa h=>z0z 7 h U (λ_ hw=>a4.ext hw) z5b U λa h=>z0e 8 h U λa h=>z0o 9 h U λa h=>z0c 10 h U z3v U λa h=>z0l 11 h U (λ_ hw=>Z.ext hw) U na3 U λa h=>?_;refine z0d 6 U ?_;refine z0m h (z0a U (z0a U z0f)) v0x (y2h _ _ _ _ (by omega)) ?_;rintro _ i9 ⟨rfl,a5⟩ a h;have k1:=a5.size;replace hC:=hC.next a5;refine z0b ?_;refine z0d 12 U ?_;refine z0m h (z0a U (z0a U z0f)) v0x (y2h _ _ _ _ (by omega)) ?_;rintro _ f9 ⟨rfl,a6⟩ a h;have k2:=a6.size;replace hM:=hM.ext (a5.n1 a6);replace O:=O.ext (a5.n1 a6);replace D:=D.ext (a5.n1 a6);replace I:=I.ext (a5.n1 a6);replace hC:=hC.next a6;refine z0b ?_;refine j7p 13 (by kernel_rfl) (by kernel_rfl) (by kernel_rfl) hC h wn U U U U λa h=>z5c 14 h U (by first|exact i6 (by omega)|rfl) U λa h=>z0d 15 U ?_;refine z0s h U λa h=>?_;refine z0b ?_;refine z0r ?_;clear hC a3 Z M a4;refine bk (h.sub (L':=[(0,_),(3,_),(5,_),(7,_)]) (.c4 U U U U)) (tn (sq (sr (mv U (nlc U (fad U z3d (z0g U O U y0q (lnS U underlying33 (mv U (nn (bl ?_)))))))))));refine lpK (ι:=Nat) [(0,_),(3,_),(5,_),(7,_),(51,_),(52,_)] (λi=>[(53,.int .i64 (i:Int))]) (λi w'=>Fr [] f9 w'/\i<=6/\∀k,k<i->¬((m.ys.getD k yq0).inn=true/\(m.ys.getD k yq0).pl=(y7g m.p o))) (λi=>6-i) 0 (.c7 U U U U U U U) ⟨Fr.refl _ _,⟨Nat.zero_le _,λj h=>absurd h (by omega)⟩⟩ ?_;rintro i j0 ⟨b0,⟨hi,hz⟩⟩;have k3:=b0.size;refine kpC [(0,_),(3,_),(5,_),(7,_),(51,_),(52,_),(53,_)] (.c7 U U U U U U U) (sr (lt' U (nn (sq (cd U (λc2=>?_) (λc2=>?_))))));refine sk (tn (sq (bl (sr ?_))));replace hM:=a2.ext ((q1.n6 q2 q3 a8 a9 a5 a6).n1 b0);refine z1a (yq0) U hM.y.out.sl U y0y z1d (λg7 e4=>?_);refine z1j U (e4 _ hM.y.out.sl) z6u (al y1y U (λg9 j1 h9 d7 e7 k4=>?_));refine z0i (vs:=[_,_,_,_,_]) U d7 z7k (λj2 d7 e8 k5=>?_) (h1:=(by first|(simp[Value.oneCell',S];done)|exact z2v.one (m.ys.getD i yq0)));refine nn (sq ?_);refine rbo (r:=64) (L':=[(0,_),(3,_),(5,_),(7,_),(51,_),(52,_),(53,_)]) (((m.ys.getD i yq0).inn=true/\((m.ys.getD i yq0).pl=((min (z2r o.b o.p m.rk) (z2r (1-o.b) (z3i o.b o.p m.rk) m.rk))+1)))) (.c7 U U U U U U U) ?_ ?_;refine fad U z9d (z0g U d7 U na4 (mv U (gs 59 U (λg0=>?_) (λg0=>?_))));exact gY U (fad U z5w (gY U (z0g U d7 U na3 (gY U (mv U (gY U (eq' U (pkt U (rbe U (.c7 U U U U U U U))))))))));exact gN U (gN U (gN U (gN U (pkf U (rbe U (.c7 U U U U U U U))))));refine tn (cd U (λc3=>?_) (λc3=>?_));refine sr (asg U (kpL [(4,_)] (.cons U .nil) (nn (rt (rb (tr (tr (rb (tr (r1 results70 U ?_))))))))));replace hM:=a2.ext ((((q1.n6 q2 q3 a8 a9 a5 a6).n1 b0).n1 e7).z1 e8);exact⟨_,rfl,MRet.err (by rw[z7b,if_neg b9,if_neg (λh=>h a7),if_pos (⟨_,List.mem_map.2 ⟨m.ys.getD i yq0,z0t (by omega),rfl⟩,c3⟩:∃y∈m.p.ys,y.inn=true/\y.pl=y7g m.p o)]) (by decide) hM.fr⟩;refine sk (bn' (tn (rg (z0v U (wi6 (by omega)) (mv U (nl ?_))))));exact lpE (i+1) (.c7 U U U U U U U) ⟨(b0.z2 e7 e8),⟨by omega,λk h=>by
  by_cases e:k=i;subst e;exact c3;exact hz k (by omega)⟩⟩ (by omega)
 have b5:¬ ∃y∈m.p.ys,y.inn=true/\y.pl=y7g m.p o:=by
  rintro⟨y,hy,h1,h2⟩;obtain⟨z,f4,rfl⟩:=List.mem_map.1 hy;obtain⟨k,f3,rfl⟩:=List.getElem_of_mem f4;refine hz k (by omega) ?_;rw[List.getD,List.getElem?_eq_getElem f3];exact⟨h1,h2⟩
 refine ex (te (te (xh (tn (sq ?_)))));replace hM:=a2.ext ((q1.n6 q2 q3 a8 a9 a5 a6).n1 b0);intro a h;refine z0j none (λwb w'=>Fr [] wb w') z2s ?_;intro e3 b6;have k6:=b6.size;replace hM:=hM.ext b6;replace O:=O.ext (b0.n1 b6);replace D:=D.ext (b0.n1 b6);replace I:=I.ext (b0.n1 b6);have hC:Fr [] e3 e3:=Fr.refl _ _;have a3:=hM;have Z:=O;have M:=D;have a4:=I;refine z0e 0 h U λa h=>z0o 1 h U λa h=>z0c 2 h U z3f U λa h=>z1e (vs:=[_,_]) 3 h U (λ_ hw=>(Z.ext hw)) z5x U U λa h=>z0c 4 h U z4q U λa h=>z1e (vs:=[_,_]) 5 h U (λ_ hw=>(M.ext hw)) z5b U U λa h=>z0z 6 h U (λ_ hw=>a4.ext hw) z5b U λa h=>z2e 7 11 (by kernel_rfl) U ?_ ?_;refine z0m h (z0a U (z0a U (z0a U z0f))) (mkC func117) (by have x:=v7b m.q o.b n n2 _ hM.b.at hv (by rw[<-d3];exact hn) (by rw[<-d1];exact a7) (by rw[<-d3];exact b9);rw[<-d3,<-d1]at x;exact x) ?_;rintro _ g1 ⟨⟨q',rfl,d4⟩,q19⟩ a h;have k7:=q19.size;replace O:=O.ext q19;replace D:=D.ext q19;replace I:=I.ext q19;replace hC:=hC.next q19;have hQ:BdOIf (¬4<(m.q.p.at o.b o.p).length+(m.q.p.at (1-o.b) (z3i o.b o.p m.rk)).length) 37 87 _ _ q':=λhc=>(d4 hc).1;have e2:=λhc=>(d4 hc).2;have d0:=λhc=>x3i (hQ hc) a2.f (by omega);refine z0b ?_;refine z0e 8 h U λa h=>z0n 9 h U λa h=>z0n 10 h U λa h=>z0d 11 U ?_;refine z1c h v1e U λj3 J b1 hz a h=>?_;obtain⟨a1,hg⟩:∃g,g=g1.heap.size:=⟨_,rfl⟩;rw[<-hg]at J h hz;have e0.gk_10:ka.gk<a1:=by have:=O.lt;omega
 have b3:g3<a1:=by have:=D.lt;omega
 have b3:g5<a1:=by have:=I.lt;omega
 have k8:=b1.size;replace hM:=hM.ext (q19.n1 b1);replace O:=O.ext b1;replace D:=D.ext b1;replace I:=I.ext b1;first|replace hQ:=BdOIf.ext hQ b1|replace hQ:=BdOIf.tf hQ b1 (OffT.one J (by decide)) (OffT.one J (by decide))
 replace hC:=hC.next b1;refine z0b ?_;refine z0d 12 U ?_;refine z0u h U J U x6k ?_ (h1:=(by first|(simp[Value.oneCell',S];done)|exact z2v.one (m.ys.getD i yq0)));clear h a;intro g4 a0 b7 hz a h;have k9:=b7.size;replace O:=O.fr b7;replace D:=D.fr b7;replace I:=I.fr b7;first|replace hQ:=BdOIf.ext hQ b7|replace hQ:=BdOIf.tf hQ b7 (OffT.one J (by decide)) (OffT.one J (by decide))
 replace hC:=hC.sp b7;clear J hz;have J:Blk g4 a1 _ [_,_]:=a0;clear a0;refine z0b ?_;refine z0d 13 U ?_;refine z0s h U λa h=>?_;refine z0b ?_;refine z0r ?_;clear hC a3 Z M a4;refine bk (h.sub (L':=[(0,_),(6,_),(10,_)]) (.c3 U U U)) (tn (sq (sr (mv U (eq' U (nn (cd U (λc4=>?_) (λc4=>?_))))))));have b4:¬4<(m.q.p.at o.b o.p).length+(m.q.p.at (1-o.b) (z3i o.b o.p m.rk)).length:=λe=>by rw[if_pos e]at c4;exact absurd c4 (by decide)
 replace hQ:=hQ b4;replace d0:=d0 b4;refine rg (mv U (z0k U J z5x (nlc U (fad U z3f ?_))));replace hM:=a2.ext ((((q1.n6 q2 q3 a8 a9 a5 a6).n1 b0).n1 b6).z3 q19 b1 b7);refine z5r (cs':=u5m ka { m with q:=q' }) U U hM.k (by intro u hu;simp at hu;rcases hu with rfl|rfl<;>rfl) x6k U (λj4 d5 f6 l0=>?_);replace hM:=hM.beds mtd (hQ.low (by omega)) d5 f6 d0;have O:=hM.k;have a2:=hM;have f2:=hM;have hF:Lw.Own z1k 87 wS.heap.size _ (slv m.fa) m.fl:=hM.f;clear d5;refine kpL [(6,_)] (.cons U .nil) (nl (tn (sr (mv U (asg U (nn (rt (r1 results70 U ?_))))))));exact⟨_,rfl,by rw[c4];exact MRet.ok (by rw[z7b,if_neg b9,if_neg (λh=>h a7),if_neg b5,if_neg b4];exact congrArg Except.ok (by have hj:y5l m.q.p o.b o.p (z3i o.b o.p m.rk)=z7c m.p o:=x3k (p:=m.p) e5.1;unfold MQ.p;simp only[e2 b4];rw[hj])) hM⟩;refine sk (tn (sr (mv U (asg U (nn (rt (r1 results70 U ?_)))))));replace hM:=a2.ext ((((q1.n6 q2 q3 a8 a9 a5 a6).n1 b0).n1 b6).z3 q19 b1 b7);exact⟨_,rfl,MRet.err (by rw[z7b,if_neg b9,if_neg (λh=>h a7),if_neg b5,if_pos (Classical.not_not.1 λe=>c4 (if_neg e))];rw[if_pos (Classical.not_not.1 λe=>c4 (if_neg e))]) c4 hM.fr⟩;refine z1c h v1e U λj5 J c9 hz a h=>?_;obtain⟨a1,hg⟩:∃g,g=e3.heap.size:=⟨_,rfl⟩;rw[<-hg]at J h hz;have e0.gk_10:ka.gk<a1:=by have:=O.lt;omega
 have b3:g3<a1:=by have:=D.lt;omega
 have b3:g5<a1:=by have:=I.lt;omega
 have l1:=c9.size;replace hM:=hM.ext c9;replace hC:=hC.next c9;refine z0b ?_;refine z0d 7 U ?_;refine z0m h (z0a U (z0a U (z0a U z0f))) (mkC func117) (by have x:=v7b m.q o.b n n2 _ hM.b.at hv (by rw[<-d3];exact hn) (by rw[<-d1];exact a7) (by rw[<-d3];exact b9);rw[<-d3,<-d1]at x;exact x) ?_;rintro _ j6 ⟨⟨q',rfl,d4⟩,q24⟩ a h;have l2:=q24.size;replace hM:=hM.ext q24;replace O:=O.ext (c9.n1 q24);replace D:=D.ext (c9.n1 q24);replace I:=I.ext (c9.n1 q24);replace J:=J.ext q24;replace hC:=hC.next q24;have hQ:BdOIf (¬4<(m.q.p.at o.b o.p).length+(m.q.p.at (1-o.b) (z3i o.b o.p m.rk)).length) 37 87 _ _ q':=λhc=>(d4 hc).1;have e2:=λhc=>(d4 hc).2;have d0:=λhc=>x3i (hQ hc) a2.f (by omega);refine z0b ?_;refine z0e 8 h U λa h=>z0n 9 h U λa h=>z0n 10 h U λa h=>z0d 12 U ?_;refine z0u h U J U x6k ?_ (h1:=(by first|(simp[Value.oneCell',S];done)|exact z2v.one (m.ys.getD i yq0)));clear h a;intro g6 a0 b8 hz a h;have l3:=b8.size;replace O:=O.fr b8;replace D:=D.fr b8;replace I:=I.fr b8;first|replace hQ:=BdOIf.ext hQ b8|replace hQ:=BdOIf.tf hQ b8 (OffT.one J (by decide)) (OffT.one J (by decide))
 replace hC:=hC.sp b8;clear J hz;have J:Blk g6 a1 _ [_,_]:=a0;clear a0;refine z0b ?_;refine z0d 13 U ?_;refine z0s h U λa h=>?_;refine z0b ?_;refine z0r ?_;clear hC a3 Z M a4;refine bk (h.sub (L':=[(0,_),(6,_),(10,_)]) (.c3 U U U)) (tn (sq (sr (mv U (eq' U (nn (cd U (λc4=>?_) (λc4=>?_))))))));have b4:¬4<(m.q.p.at o.b o.p).length+(m.q.p.at (1-o.b) (z3i o.b o.p m.rk)).length:=λe=>by rw[if_pos e]at c4;exact absurd c4 (by decide)
 replace hQ:=hQ b4;replace d0:=d0 b4;refine rg (mv U (z0k U J z5x (nlc U (fad U z3f ?_))));replace hM:=a2.ext ((((q1.n6 q2 q3 a8 a9 a5 a6).n1 b0).n1 b6).z3 c9 q24 b8);refine z5r (cs':=u5m ka { m with q:=q' }) U U hM.k (by intro u hu;simp at hu;rcases hu with rfl|rfl<;>rfl) x6k U (λj7 d5 f7 l4=>?_);replace hM:=hM.beds mtd (hQ.low (by omega)) d5 f7 d0;have O:=hM.k;have a2:=hM;have f2:=hM;have hF:Lw.Own z1k 87 wS.heap.size _ (slv m.fa) m.fl:=hM.f;clear d5;refine kpL [(6,_)] (.cons U .nil) (nl (tn (sr (mv U (asg U (nn (rt (r1 results70 U ?_))))))));exact⟨_,rfl,by rw[c4];exact MRet.ok (by rw[z7b,if_neg b9,if_neg (λh=>h a7),if_neg b5,if_neg b4];exact congrArg Except.ok (by have hj:y5l m.q.p o.b o.p (z3i o.b o.p m.rk)=z7c m.p o:=x3k (p:=m.p) e5.1;unfold MQ.p;simp only[e2 b4];rw[hj])) hM⟩;refine sk (tn (sr (mv U (asg U (nn (rt (r1 results70 U ?_)))))));replace hM:=a2.ext ((((q1.n6 q2 q3 a8 a9 a5 a6).n1 b0).n1 b6).z3 c9 q24 b8);exact⟨_,rfl,MRet.err (by rw[z7b,if_neg b9,if_neg (λh=>h a7),if_neg b5,if_pos (Classical.not_not.1 λe=>c4 (if_neg e))];rw[if_pos (Classical.not_not.1 λe=>c4 (if_neg e))]) c4 hM.fr⟩
end Go.Proofs.YtpgdchkdlgkmgaaGreatDoor
namespace Go.G08
open Go.Lw Go.G21
theorem x1s {p:MSt}{y:Int}{q:Yn}(h:MInv p)(M:1<=y/\y<=6)(J:y1q q)(I:q.ct=(p.y y).ct):MInv (p.setY y q):=by
 have hl:(y-1).toNat<p.ys.length:=by rw[h.ly];omega
 refine⟨h.rk,h.B,by show (p.ys.set _ q).length=6;rw[List.length_set];exact h.ly,h.lt,λk D=>?_,h.has,h.cnt,h.all,h.cv⟩;show y1q ((p.ys.set (y-1).toNat q).getD k yn0)/\((p.ys.set (y-1).toNat q).getD k yn0).ct=z2t p.tb k;rw[z1i hl];split;rename_i e;refine⟨J,I.trans ?_⟩;have:=(h.yn k D).2;rw[<-e]at this ⊢;exact this;exact h.yn k D
theorem x1z {st:List Pa}{p:Pa}(h:y3d st)(hp:y1i p):y3d (z7a st p):=by
 unfold z7a;split;intro i M;rw[List.length_take]at M;have e:∀k,k<st.length-1->(st.take (st.length-1)).getD k pa0=st.getD k pa0:=λk O=>by
  rw[List.getD,List.getElem?_take,if_pos O,List.getD]
 obtain⟨I,J⟩:=h i (by omega);refine⟨by rw[e i (by omega)];exact I,λD=>?_⟩;rw[e i (by omega),e (i-1) (by omega)];exact J D;rename_i hc;intro i M;rw[List.length_append,List.length_singleton]at M;have e:∀k,k<st.length->(st++[p]).getD k pa0=st.getD k pa0:=λk O=>by
  rw[List.getD,List.getElem?_append_left O,List.getD]
 by_cases hl:i<st.length;obtain⟨I,J⟩:=h i hl;refine⟨by rw[e i hl];exact I,λD=>?_⟩;rw[e i hl,e (i-1) (by omega)];exact J D;obtain rfl:i=st.length:=by omega
 have Z:(st++[p]).getD st.length pa0=p:=by simp[List.getD]
 refine⟨by rw[Z];exact hp,λD=>?_⟩;rw[Z,e (st.length-1) (by omega)];exact λhh=>hc ⟨D,hh⟩
theorem y6m:∀ {l st:List Pa},y3d st->v2b l->y3d (z2k st l)
 | [],_,h,_=>h
 | p::l,st,h,hv=>y6m (l:=l) (x1z h (hv p (by simp))) (λq D=>hv q (List.mem_cons_of_mem _ D))
theorem v8f {y:Yn}{M:Int}{l:List Pa}(h:goE y M l=0):y1q (goS y M l):=by
 unfold goE at h;split at h;exact absurd h (by assumption);rename_i I;have I:=v3x (Classical.not_not.1 I);split at h;omega;rename_i O;split at h;omega;rename_i Z;split at h;omega;rename_i D;have D:y.inn=true:=by simpa using D
 split at h;omega;have J:=I.2;rw[if_pos D]at J;refine⟨I.1,?_⟩;show if y.inn=true then _ else _
 rw[if_pos D];exact⟨Classical.not_not.1 O,by show (z2k y.pe l).length<=4096;omega,y6m J.2.2 (Classical.not_not.1 Z)⟩
theorem z7i (B:Bd){b n:Int}(h:z3z b n=0)(s:List LId):(B.put b n s).flat.length+(B.at b n).length=B.flat.length+s.length:=by
 have:=(List.perm_iff_count.2 (λi=>by rw[List.count_append,List.count_append];exact z4p B h s i):((B.put b n s).flat++B.at b n).Perm (B.flat++s)).length_eq;simpa using this
theorem u4w {B:Bd}(h:BdOk B){b n:Int}(hn:z3z b n=0):BdOk (B.put b n []):=h.put hn (by simp) (by simp) λi=>by
 have:=List.nodup_iff_count.1 h.nd i
 simp only[List.count_nil];omega
theorem u1p {p q:MSt}{o:MOp}(h:MInv p)(hn:z3z o.b o.p=0)(e:y4i p o=.ok q):MInv q:=by
 unfold y4i at e;split at e;cases e;cases e;refine⟨h.rk,u4w h.B hn,h.ly,h.lt,h.yn,λi I=>?_,?_,h.all,h.cv⟩;rcases y1x hn I with k|k
 cases k;exact h.has i k;have D:=z7i p.B hn [];have J:=h.cnt;show (p.B.put o.b o.p []).flat.length+(p.fa++p.B.at o.b o.p).length<=z5d p.tb;rw[List.length_append];simp only[List.length_nil]at D;omega
theorem y5e {p:MSt}{o:MOp}(h:o.b=0\/o.b=1)(i:LId):(z7c p o).count i=(p.B.at o.b o.p).count i+(p.B.at (1-o.b) (z3i o.b o.p p.rk)).count i:=by
 unfold z7c;rcases h with e|e
 rw[e,if_neg (by decide),List.count_append,show (1:Int)-0=1 from U];omega;rw[e,if_pos U,List.count_append,show (1:Int)-1=0 from U]
theorem x0v {p q:MSt}{o:MOp}(h:MInv p)(hn:z3z o.b o.p=0)(e:z7b p o=.ok q):MInv q:=by
 unfold z7b at e;split at e;cases e;split at e;cases e;rename_i D;have D:=Classical.not_not.1 D;split at e;cases e;split at e;cases e;rename_i h4;cases e;have hb:=(z2y hn).1;have hc:=y5e (p:=p) (o:=o) hb;have Z:(z7c p o).length=(p.B.at o.b o.p).length+(p.B.at (1-o.b) (z3i o.b o.p p.rk)).length:=by
  have:=(List.perm_iff_count.2 (λi=>by rw[List.count_append];exact hc i):(z7c p o).Perm (p.B.at o.b o.p++p.B.at (1-o.b) (z3i o.b o.p p.rk))).length_eq;simpa using this
 have I:∀i∈z7c p o,i∈p.B.flat:=λi O=>by
  have J:=List.count_pos_iff.2 O;rw[hc i]at J;by_cases k:0<(p.B.at o.b o.p).count i;exact y0u (List.count_pos_iff.1 k);exact y0u (List.count_pos_iff.1 (show 0<(p.B.at (1-o.b) (z3i o.b o.p p.rk)).count i by omega))
 have M:(p.B.put o.b o.p []).at (1-o.b) (z3i o.b o.p p.rk)=p.B.at (1-o.b) (z3i o.b o.p p.rk):=by
  rw[z7p p.B hn D,if_neg (by omega)]
 have a0:=u4w h.B hn;refine⟨h.rk,a0.put D (by omega) (λi O=>h.B.nm i (I i O)) (λi=>?_),h.ly,h.lt,h.yn,λi O=>?_,?_,h.all,h.cv⟩;have J:=z4p p.B hn [] i;have h2:=List.nodup_iff_count.1 h.B.nd i;rw[M,hc i];simp only[List.count_nil]at J;omega;rcases y1x D O with k|k
 exact h.has i (I i k);rcases y1x hn k with k|k
 cases k;exact h.has i k;have J:=z7i p.B hn [];have h2:=z7i (p.B.put o.b o.p []) D (z7c p o);have h3:=h.cnt;rw[M,Z]at h2;simp only[List.length_nil]at J;show ((p.B.put o.b o.p []).put (1-o.b) (z3i o.b o.p p.rk) (z7c p o)).flat.length+p.fa.length<=z5d p.tb;omega
theorem v5n {p q:MSt}{o:MOp}{th st:List LId}(h:MInv p)(hy:1<=o.y/\o.y<=6)(hn:z3z o.b o.p=0)(hs:st=[]\/(st=p.B.at o.b o.p/\st.length<4))(e:y3x p o th st=.ok q):MInv q:=by
 unfold y3x at e;split at e;cases e;rename_i hm;split at e;cases e;rename_i hc;cases e;have hm:=Classical.not_not.1 hm;obtain⟨j,hj,a5⟩:∃j:Nat,j<6/\o.y=(j:Int)+1:=⟨(o.y-1).toNat,by omega,by omega⟩;have M:(o.y-1).toNat=j:=by omega
 have J:=h.yn j hj;have a6:p.y o.y=p.ys.getD j yn0:=by unfold MSt.y;rw[M]
 rw[<-a6]at J;have a4:j<p.ys.length:=by rw[h.ly];exact hj
 have I:j<p.tb.length:=by rw[h.lt];exact hj
 have Z:(p.y o.y).inn=true/\(p.y o.y).ct≠2048:=by
  unfold mkE at hm;split at hm;exact absurd hm (by assumption);split at hm;omega;rename_i D;split at hm;omega;rename_i hk;exact⟨by simpa using D,hk⟩
 have a7:=J.1.1;have O:∀i∈p.B.flat,i≠⟨o.y,(p.y o.y).ct⟩:=λi D e=>by
  have:=h.has i D;rw[e]at this;obtain⟨_,_,_,h4⟩:=this;simp only at h4;rw[M,J.2]at h4;omega
 have a0:∀i∈st,i∈p.B.flat:=λi D=>by
  rcases hs with e|⟨e,_⟩
  rw[e]at D;cases D;rw[e]at D;exact y0u D
 have a1:p.row o.y=p.tb.getD j []:=by unfold MSt.row;rw[M]
 simp only[M,a1];have a3:(st++[(⟨o.y,(p.y o.y).ct⟩:LId)]).length<=4:=by
  rw[List.length_append,List.length_singleton];rcases hs with e|⟨_,e⟩
  rw[e];simp;omega
 have a2:=x0g p.tb j (p.tb.getD j []++[(⟨o.b,(p.y o.y).nw,th,(p.y o.y).pe⟩:Lp)]) I;rw[List.length_append,List.length_singleton,show (p.tb.getD j []).length=z2t p.tb j from U]at a2;refine⟨h.rk,h.B.put hn a3 (λi D=>?_) (λi=>?_),by show (p.ys.set _ _).length=6;rw[List.length_set];exact h.ly,by show (p.tb.set _ _).length=6;rw[List.length_set];exact h.lt,λk hk=>?_,λi D=>?_,?_,?_,h.cv⟩;rcases List.mem_append.1 D with k|k
 exact h.B.nm i (a0 i k);rw[List.mem_singleton.1 k];unfold y3h;simp only;omega;have hd:=List.nodup_iff_count.1 h.B.nd i;rw[List.count_append,List.count_singleton];by_cases e:(⟨o.y,(p.y o.y).ct⟩:LId)=i;have h0:p.B.flat.count i=0:=List.count_eq_zero.2 λk=>O i k e.symm;have h1:st.count i=0:=List.count_eq_zero.2 λk=>O i (a0 i k) e.symm;rw[h0,h1];split<;>omega
 rw[if_neg (by simpa using e)];rcases hs with e|⟨e,_⟩
 rw[e];simp only[List.count_nil];omega;rw[e];omega;show y1q ((p.ys.set j (mkS (p.y o.y))).getD k yn0)/\((p.ys.set j (mkS (p.y o.y))).getD k yn0).ct=z2t (p.tb.set j _) k;rw[z1i a4,y0j I];by_cases e:j=k;rw[if_pos e,if_pos e];refine⟨⟨⟨by show 0<=(p.y o.y).ct+1;omega,by show (p.y o.y).ct+1<=2048;omega⟩,?_⟩,?_⟩;have h2:=J.1.2;rw[if_pos Z.1]at h2;show if true=true then _ else _
 rw[if_pos U];exact⟨h2.1,by show ([]:List Pa).length<=4096;simp,λi D=>by simp[mkS]at D⟩;show (p.y o.y).ct+1=_;rw[J.2,List.length_append,List.length_singleton];rfl;rw[if_neg e,if_neg e];exact h.yn k hk;rcases y1x hn D with k|k
 rcases List.mem_append.1 k with k|k
 exact y9a I (h.has i (a0 i k));rw[List.mem_singleton.1 k];have:=z8u (T:=p.tb.set j (p.tb.getD j []++[(⟨o.b,(p.y o.y).nw,th,(p.y o.y).pe⟩:Lp)])) (y:=j) (n:=z2t p.tb j) (by rw[List.length_set];exact I) (by rw[y0j I,if_pos U,List.length_append,List.length_singleton];exact Nat.lt_succ_self _);rwa [<-a5,<-J.2]at this;exact y9a I (h.has i k);have h1:=z7i p.B hn (st++[(⟨o.y,(p.y o.y).ct⟩:LId)]);have h2:=h.cnt;have h3:st.length<=(p.B.at o.b o.p).length:=by
  rcases hs with e|⟨e,_⟩
  rw[e];simp;rw[e];exact Nat.le_refl _
 rw[List.length_append,List.length_singleton]at h1;show (p.B.put o.b o.p _).flat.length+p.fa.length<=z5d (p.tb.set j _);omega;have:=h.all;show z5d (p.tb.set j _)<=2048;omega
theorem j3m {p q:MSt}{o:MOp}(h:MInv p)(O:1<=o.y/\o.y<=6)(Z:z4e o.d)(e:inM p o=.ok q):MInv q:=by
 unfold inM at e;split at e;cases e;rename_i D;cases e;have D:=Classical.not_not.1 D;refine x1s h O ?_ U;have I:y1q (p.y o.y):=by
  unfold enE at D;split at D;exact absurd D (by assumption);rename_i J;exact v3x (Classical.not_not.1 J)
 refine⟨I.1,?_⟩;show if true=true then _ else _
 rw[if_pos U];refine⟨?_,by show ([]:List Pa).length<=4096;simp,λi M=>by simp[enS]at M⟩;show x1v (if o.d=1 then 179 else -13);split<;>decide
theorem u6o {p q:MSt}{o:MOp}(h:MInv p)(M:1<=o.y/\o.y<=6)(e:v1h p o=.ok q):MInv q:=by
 unfold v1h at e;split at e;cases e;rename_i D;cases e;have D:=Classical.not_not.1 D;refine x1s h M ?_ U;have I:y1q (p.y o.y):=by
  unfold lvE at D;split at D;exact absurd D (by assumption);rename_i J;exact v3x (Classical.not_not.1 J)
 refine⟨I.1,?_⟩;show if false=true then _ else _
 rw[if_neg (by decide)];exact⟨rfl,rfl,rfl⟩
theorem y2w {p q:MSt}{y J en:Int}(h:MInv p)(I:1<=y/\y<=6)(e:z8z p y J en=.ok q):MInv q/\q.B=p.B/\q.rk=p.rk:=by
 unfold z8z at e;split at e;cases e;rename_i D;cases e;exact⟨x1s h I (v8f (Classical.not_not.1 D)) U,rfl,rfl⟩
theorem u1g {p q:MSt}{o:MOp}(h:MInv p)(D:1<=o.y/\o.y<=6)(e:z7x p o=.ok q):MInv q:=by
 unfold z7x at e;split at e;cases e;exact(y2w h D e).1
theorem v9q {p q:MSt}{o:MOp}(h:MInv p)(D:1<=o.y/\o.y<=6)(hn:z3z o.b o.p=0)(e:y2r p o=.ok q):MInv q:=by
 unfold y2r at e;split at e;cases e;split at e;cases e;rename_i r I;exact v5n (y2w h D I).1 D hn (.inl U) e
theorem u3k {p q:MSt}{o:MOp}(h:MInv p)(D:1<=o.y/\o.y<=6)(hn:z3z o.b o.p=0)(e:y1l p o=.ok q):MInv q:=by
 unfold y1l at e;split at e;cases e;split at e;cases e;rename_i r I;split at e;cases e;exact v5n (y2w h D I).1 D hn (.inr ⟨rfl,by omega⟩) e
theorem u3l {p:MSt}{d:Int}{y D:Yn}(e:z6t p d y=.ok D):(y1q y->y1q D)/\D.ct=y.ct:=by
 unfold z6t at e;split at e;cases e;exact⟨id,rfl⟩;split at e;cases e;rename_i I;cases e;exact⟨λ_=>v8f (Classical.not_not.1 I),rfl⟩
theorem x4v {p:MSt}{d:Int}:∀ {l l':List Yn},z3s p d l=.ok l'->l'.length=l.length/\∀k,(y1q (l.getD k yn0)->y1q (l'.getD k yn0))/\(l'.getD k yn0).ct=(l.getD k yn0).ct
 | [],l',e=>by cases e;exact⟨rfl,λk=>⟨id,rfl⟩⟩
 | y::l,l',e=>by
  unfold z3s at e
  split at e
  ·cases e
  rename_i O J
  split at e
  ·cases e
  rename_i M hl
  cases e
  obtain⟨D,I⟩:=x4v hl
  refine⟨by simp[D],λk=>?_⟩
  cases k with
  | zero=>exact u3l J
  | succ k=>simpa only[List.getD_cons_succ] using I k
def j3t (l:List Cx):Prop:=∀c∈l,-1048576<=c.n/\c.n<=1048576
theorem v2k {l l':List Cx}{c:Cx}(h:j3t l)(e:y4g l c=.ok l'):j3t l':=by
 unfold y4g at e;dsimp only at e;generalize (if 0<z6k c.a c.b then (c.b,c.a) else (c.a,c.b))=kk at e;split at e;cases e;rename_i J;split at e;cases e;intro x D;exact h x (List.mem_filter.1 D).1;cases e;intro x D;unfold y4h at D;split at D;obtain⟨z,I,rfl⟩:=List.mem_map.1 D;split;simp only;omega;exact h z I;rcases List.mem_append.1 D with k|k
 exact h x k;rw[List.mem_singleton.1 k];simp only;omega
theorem y9j:∀ {r l l':List Cx},j3t l->z3l l r=.ok l'->j3t l'
 | [],l,l',h,e=>by cases e;exact h
 | c::r,l,l',h,e=>by
  unfold z3l at e
  split at e
  ·cases e
  rename_i I D
  exact y9j (v2k h D) e
theorem y4o {p q:MSt}{d:Int}(h:MInv p)(Z:-4<=p.rk+stI d/\p.rk+stI d<=4)(e:z3q p d=.ok q):MInv q/\q.rk=p.rk+stI d:=by
 unfold z3q at e;split at e;cases e;rename_i ys I;split at e;cases e;rename_i cr D;cases e;obtain⟨O,J⟩:=x4v I;exact⟨⟨Z,h.B,O.trans h.ly,h.lt,λk M=>⟨(J k).1 (h.yn k M).1,(J k).2.trans (h.yn k M).2⟩,h.has,h.cnt,h.all,y9j h.cv D⟩,rfl⟩
theorem x9t {r:Int}(J:-4<=r/\r<=4):∀ {n:Nat} {p q:MSt},MInv p->z4m n p r=.ok q->MInv q
 | 0,p,q,h,e=>by cases e;exact h
 | n+1,p,q,h,e=>by
  unfold z4m at e
  split at e
  ·cases e;exact h
  rename_i I
  split at e
  ·cases e
  rename_i O D
  have M:=h.rk
  refine x9t J (y4o h ?_ D).1 e
  unfold stI
  split<;>split<;>omega
theorem x7r {p q:MSt}{o:MOp}(h:MInv p)(e:doM p o=.ok q):MInv q:=by
 unfold doM at e;split at e;cases e;rename_i O;obtain⟨_,J,D,Z,I,M⟩:=y0a (Classical.not_not.1 O);unfold opM at e;split at e;exact j3m h (D (by omega)) (J (by omega)) e;split at e;exact u6o h (D (by omega)) e;split at e;exact x9t (M (by omega)) h e;split at e;exact v9q h (D (by omega)) (I (by omega)) e;split at e;exact u3k h (D (by omega)) (I (by omega)) e;split at e;exact u1g h (D (by omega)) e;split at e;exact x0v h (I (by omega)) e;exact u1p h (I (by omega)) e
end Go.G08
namespace Go.G08
open Go.Lw Go.G21
section
variable {τ:TyK} {Mt:Nat} {wS w w' w2:World} {a:MA} {m:MQ} {j:Nat} {u:SV} {q:LpQ}
theorem MkM.row (h:MkM τ Mt wS a w m)(D:MtOk τ Mt)(hj:j<6)(hq:LpO τ wS.heap.size w q)(a1:∀k∈z0x (slv q.th),k∉z0x (slv m.fa))
    (h1:Lw.Own z4r τ.L wS.heap.size w' (slv u) ((m.ts.getD j tq0).2++[q])) (f1:Fr (z0x (slv (m.ts.getD j tq0).1)) w w') (hx:slv u=slv (m.ts.getD j tq0).1\/z0x (slv u)=z0x (slv (m.ts.getD j tq0).1)\/z0x (slv u)=[w.heap.size])
    (h2:Lw.Own z4d τ.T wS.heap.size w2 a.TV (m.ts.set j (u,(m.ts.getD j tq0).2++[q]))) (f2:Fr [a.gt] w' w2):MkM τ Mt wS a w2 { m with ts:=m.ts.set j (u,(m.ts.getD j tq0).2++[q]) }:=by
  have hl:j<m.ts.length:=by rw[h.lt];exact hj
  have I:∀T,T≠τ.L->OffT w T (z0x (slv (m.ts.getD j tq0).1)):=λT Z=>z6v (h.t.ins j hl) (Ne.symm Z)
  have J:=z1y h.t.out f1 (I _ D.o.tl)
  have M:∀T,T≠τ.T->OffT w' T [a.gt]:=λT Z=>z6v J (Ne.symm Z)
  refine⟨y7y (y7y h.k f1 (I _ D.l)) f2 (M _ D.t),BdO.tf (BdO.tf h.b f1 (I _ (Ne.symm D.o.ls)) (I _ (Ne.symm D.o.li))) f2 (M _ (Ne.symm D.o.ts)) (M _ (Ne.symm D.o.ti)),
    (h.y.tf f1 (I _ D.o.yl) (I _ (Ne.symm D.o.lp))).tf f2 (M _ D.o.yt) (M _ (Ne.symm D.o.tp)),h.t.put D.o hl hq h1 f1 hx h2 f2,(h.c.tf f1 (I _ D.l)).tf f2 (M _ D.t),z1y (z1y h.f f1 (I _ (Ne.symm D.o.li))) f2 (M _ (Ne.symm D.o.ti)),h.fb,λi hi p O=>?_,h.ly,by rw[List.length_set];exact h.lt,h.gk,h.gc,(h.fr.step f1 (y7s (h.t.ins j hl) (by simp[v9h])) λk hk a0=>?_).step f2 (y7s J (by simp[v9h])) λk hk a0=>?_⟩
  · simp only at O
    rw[z1i hl]at O
    split at O
    · rcases List.mem_append.1 O with k|k
      · exact h.ft j hj p k
      · rw[List.mem_singleton.1 k];exact a1
    · exact h.ft i hi p O
  · have:=((h.t.ins j hl).blk k hk).1;omega
  · have:=(h.t.out.blk k hk).1;omega
theorem u8s {p:MSt}{o:MOp}{st:List LId}(h:MInv p)(hy:1<=o.y/\o.y<=6)(hs:st=[]\/(st=p.B.at o.b o.p/\st.length<4))(O:mkE (p.y o.y)=0) :
    (st++[(⟨o.y,(p.y o.y).ct⟩:LId)]).length<=4/\(∀i∈st++[(⟨o.y,(p.y o.y).ct⟩:LId)],y3h i)/\∀i,p.B.flat.count i+(st++[(⟨o.y,(p.y o.y).ct⟩:LId)]).count i<=(p.B.at o.b o.p).count i+1:=by
  obtain⟨j,hj,a3⟩:∃j:Nat,j<6/\o.y=(j:Int)+1:=⟨(o.y-1).toNat,by omega,by omega⟩
  have M:(o.y-1).toNat=j:=by omega
  have J:=h.yn j hj
  have a1:p.y o.y=p.ys.getD j yn0:=by unfold MSt.y;rw[M]
  rw[<-a1]at J
  have a0:(p.y o.y).inn=true/\(p.y o.y).ct≠2048:=by
    unfold mkE at O
    split at O
    · exact absurd O (by assumption)
    · split at O
      · omega
      · rename_i D
        split at O
        · omega
        · rename_i hk;exact⟨by simpa using D,hk⟩
  have a2:=J.1.1
  have I:∀i∈p.B.flat,i≠⟨o.y,(p.y o.y).ct⟩:=λi D e=>by
    have:=h.has i D
    rw[e]at this
    obtain⟨_,_,_,h4⟩:=this
    simp only at h4
    rw[M,J.2]at h4
    omega
  have Z:∀i∈st,i∈p.B.flat:=λi D=>by
    rcases hs with e|⟨e,_⟩
    · rw[e]at D;cases D
    · rw[e]at D;exact y0u D
  refine⟨?_,λi D=>?_,λi=>?_⟩
  · rw[List.length_append,List.length_singleton]
    rcases hs with e|⟨_,e⟩
    · rw[e];simp
    · omega
  · rcases List.mem_append.1 D with k|k
    · exact h.B.nm i (Z i k)
    · rw[List.mem_singleton.1 k];unfold y3h;simp only;omega
  · have hd:=List.nodup_iff_count.1 h.B.nd i
    rw[List.count_append,List.count_singleton]
    by_cases e:(⟨o.y,(p.y o.y).ct⟩:LId)=i
    · have h0:p.B.flat.count i=0:=List.count_eq_zero.2 λk=>I i k e.symm
      have h1:st.count i=0:=List.count_eq_zero.2 λk=>I i (Z i k) e.symm
      rw[h0,h1];split<;>omega
    · rw[if_neg (by simpa using e)]
      rcases hs with e|⟨e,_⟩
      · rw[e];simp only[List.count_nil];omega
      · rw[e];omega
end
end Go.G08
namespace Go.Lw
theorem y4l {ι:Type}{pq:Option Nat}{P:Program}{ops:Array Oper}{K:Act->World->Prop}{C:World->Prop}{fu:Nat}{listed:Array Bool}{a:Act}{w:World}{ds:List Nat}{n:Nat}{L:List (Nat×Value)}(h:AgM ds a n L)(O:List (Nat×Value))(_hs:Sub O L)(D:Array Bool)(J:Nat)(M:ι->List (Nat×Value))(R:ι->World->Prop)
    (main:(∀(i:ι) Z I w',Z=D->AgM ds I n (O++M i)->R i w'->z0w pq P ops (z0p K) C J Z I w')->z0w pq P ops (z0p K) C fu listed a w)
    (tail:∀i I w',R i w'->AgM ds I n (O++M i)->z0w pq P ops (z0p K) C J D I w'):z0w pq P ops (z0p K) C fu listed a w:=
  main λi Z I w' e ha hr=>by subst e;exact tail i I w' hr ha
end Go.Lw
namespace Go.Proofs.YtpgdchkdlgkmgaaGreatDoor
open Go.Lw Go.G21 Go.G08 _root_.Go.Proofs.Tryz
theorem bo89:BuildAt prog 89 [(0,1),(1,1),(2,1),(3,1)] [(.int .u8 0),(.bool false),(.slice none 0 0),(.slice none 0 0)]:=BuildAt.struct underlying89 (λ_=>by kernel_rfl) (λ_=>by kernel_rfl)
theorem x2y:CallOf prog 63:=mkC func63
theorem v2x:CallOf prog 150:=mkC func150
theorem y2b:z0y prog 137 3 4:=λ_ _=>by kernel_rfl
theorem j1s:z0y prog 250 0 0:=λ_ _=>by kernel_rfl
theorem j2t:z0y prog 250 1 1:=λ_ _=>by kernel_rfl
theorem j1v:z0y prog 250 2 2:=λ_ _=>by kernel_rfl
theorem j9w:z1p prog 46 1:=λ_=>by kernel_rfl
theorem z3x (v:Value)(l:List LId)(w0:World)(I:Sl z1k w0 v l)(hl:l.length<=100000):Rets prog 63 #[v] w0 λr w'=>∃g,r=.slice (some ⟨g,0,none⟩) l.length l.length/\w0.heap.size<=g/\Lw.Own z1k 87 w0.heap.size w' r l/\Fr [] w0 w':=by
 obtain⟨A,c,rfl,a0,hM,Z⟩:=id I;clear Z;unfold maxLen at hM;refine we [(0,.slice A l.length c)] func63 U ntmps63 U (.cons U .nil) ?_;have J:=I;refine sr (asg U (nn (sr (mv U (lnS U underlying37 (z1f (m:=l.length) (c:=l.length) (id0) U z6o y4p U (λO w1 a1 D M z1=>(asg U (nn (sr (mv U (mv U ?_))))))))))));replace I:=J.ext M;refine z8b (zs:=List.replicate l.length id0) (by rw[List.length_replicate];rfl) U (by rw[List.length_replicate];exact D) I (by rw[List.length_replicate]) z6o (λw2 D q2 z2=>?_);rw[List.length_replicate]at D;refine nn (sr (mv U (asg U (nn (rt (r1 results63 U ?_))))));exact⟨_,rfl,O,rfl,by omega,D.low (by omega),(M.z1 q2)⟩
theorem u4z (ts:List TQ)(j:Nat):(ts.getD j tq0).2.length<=z5d (z1v ts):=by
 by_cases h:j<ts.length;have k:=x0g (z1v ts) j [] (by rw[List.length_map];exact h);have e:z2t (z1v ts) j=(ts.getD j tq0).2.length:=by
  unfold z2t;rw[List.getD,List.getD,List.getElem?_map,List.getElem?_eq_getElem h];exact List.length_map ..
 rw[List.length_nil,e]at k;omega;rw[List.getD,List.getElem?_eq_none (by omega)];exact Nat.zero_le _
theorem j3l {o:MOp}{ths st:List LId}{th sn u:SV}{D:BdQ}(m:MQ)(j:Nat)(I:(o.y-1).toNat=j)(J:D.p=m.q.p.put o.b o.p (st++[(⟨o.y,(m.ys.getD j yq0).ct⟩:LId)])) :
    { m with q:=D,ys:=m.ys.set j ⟨true,(m.ys.getD j yq0).pl,(m.ys.getD j yq0).ct+1,false,sv0,[]⟩,ts:=m.ts.set j (u,(m.ts.getD j tq0).2++[(⟨o.b,(m.ys.getD j yq0).nw,th,sn,ths,(m.ys.getD j yq0).pes⟩:LpQ)]) }.p =
      { m.p with B:=m.p.B.put o.b o.p (st++[(⟨o.y,(m.ys.getD j yq0).p.ct⟩:LId)]),ys:=m.p.ys.set (o.y-1).toNat (mkS (m.ys.getD j yq0).p),tb:=m.p.tb.set (o.y-1).toNat (m.p.row o.y++[(⟨o.b,(m.ys.getD j yq0).p.nw,ths,(m.ys.getD j yq0).p.pe⟩:Lp)]) }:=by
  unfold MSt.row
  rw[I]
  have M:(z1v m.ts).getD j []=(m.ts.getD j tq0).2.map LpQ.p:=by
    rw[List.getD,List.getD,List.getElem?_map]
    cases m.ts[j]?<;>rfl
  simp only[MQ.p,J,List.map_set,M,List.map_append,List.map_cons,List.map_nil,mkS]
set_option maxHeartbeats 4000000 in
theorem v7q (wS:World)(ka:MA)(m:MQ)(o:MOp)(th:SV)(ths:List LId)(s1:Value)(st:List LId)(w0:World)(hM:MkM τd 137 wS ka w0 m)(hi:MInv m.p)(hy:1<=o.y/\o.y<=6)(hn:z3z o.b o.p=0)(g1:Lw.Own z1k 87 wS.heap.size w0 (slv th) ths)(r6:∀k∈z0x (slv th),k∉z0x (slv m.fa))(b4:Sl z1k w0 s1 st)(hs:st=[]\/(st=m.q.p.at o.b o.p/\st.length<4)):Rets prog 114 #[.pointer (some ⟨ka.gk,0,none⟩),opV o,.slice th.1 th.2.1 th.2.2,s1] w0 λr w'=>MRet τd 137 wS ka (y3x m.p o ths st) r w':=by
 have y9:=hM.fr.size;have J:=hM.k;have y3:=J.lt;have y4:=hM.ly;have o3:=hM.lt;have x8:=(hM.y.out.blk ka.gy (by simp[z0x])).2;obtain⟨j,hj,y6⟩:∃j:Nat,j<6/\o.y=(j:Int)+1:=⟨(o.y-1).toNat,by omega,by omega⟩;have p8:(o.y-1).toNat=j:=by omega
 have l0:m.p.y o.y=(m.ys.getD j yq0).p:=by rw[j5o,p8]
 obtain⟨AS,cS,rfl,y1⟩:=b4.form;have y5:=z2y hn;obtain⟨n,h8⟩:∃n:Nat,o.p=(n:Int):=⟨o.p.toNat,by omega⟩;have hv:BdOk m.q.p:=hi.B;have y8:st.length<=3:=by rcases hs with e|⟨_,e⟩;rw[e];simp;omega
 have x5:z5d (z1v m.ts)<=2048:=hi.all;have x9:=hM.gk;have r4:∀k∈z0x (slv (m.ts.getD j tq0).1),k<w0.heap.size:=λk J=>((hM.t.ins j (by rw[o3];exact hj)).blk k J).2;have j9:ka.gk∉z0x (slv th):=λhb=>g1.neB hM.k (by decide) hb;have k0:ka.gy∉z0x (slv th):=λhb=>Own.neO hM.y.out g1 (by decide) ka.gy (by simp[z0x]) hb;have k1:∀k∈z0x (slv th),k<w0.heap.size:=λk J=>(g1.blk k J).2;refine we [(0,.pointer (some ⟨ka.gk,0,none⟩)),(1,opV o),(2,.slice th.1 th.2.1 th.2.2),(3,.slice AS st.length cS)] func114 U ntmps114 U (.c4 U U U U) ?_;have h5:=hM;have r5:=b4;refine sr (bx U (λg5 w1 y2 I q1 z1=>(asg U (nn ?_))));refine jn (ι:=Nat×Nat) [(0,_),(2,_),(3,_),(5,_)] (λp=>[(9,.pointer (some ⟨p.1,0,none⟩)),(10,.pointer (some ⟨p.2,0,none⟩)),(11,.int .i64 (mkE (m.ys.getD j yq0).p))]) (λp w'=>Fr [] w1 w'/\∃(qn:YQ) (e0:Int) (e1:Bool) (sn:SV) (b9:List Pa),(w1.heap.size<=p.1/\w1.heap.size<=p.2/\((mkE (m.ys.getD j yq0).p)=0->qn=(⟨true,(m.ys.getD j yq0).pl,(m.ys.getD j yq0).ct+1,false,sv0,[]⟩:YQ)/\e0=(m.ys.getD j yq0).ct/\e1=(m.ys.getD j yq0).nw/\b9=(m.ys.getD j yq0).pes))/\Blk w' p.1 82 (z2v.enc qn)/\Blk w' p.2 250 [.int .i64 e0,.bool e1,.slice sn.1 sn.2.1 sn.2.2]/\OwnIf ((mkE (m.ys.getD j yq0).p)=0) z1t 100 (max wS.heap.size w1.heap.size) w' (slv sn) b9) (.c4 U U U U) ?_ ?_;replace hM:=h5.ext q1;intro a h;refine z0j none (λwb w'=>Fr [] wb w') z2s ?_;intro w2 q2;have z2:=q2.size;replace hM:=hM.ext q2;replace J:=J.ext (q1.n1 q2);replace I:=I.ext q2;have hC:Fr [] w2 w2:=Fr.refl _ _;have c9:=hM;have b7:=J;have b1:=I;refine y4l (ι:=(Nat×Nat)×YQ×(Int×Bool)×SV×List Pa) h [(0,_),(2,_),(3,_),(5,_)] (.c4 U U U U) #[true,true,true,true,true,true,true,true,true,true,true,true,true,true,true,true,false,false,false] 3 (λp=>[(9,.pointer (some ⟨p.1.1,0,none⟩)),(10,.pointer (some ⟨p.1.2,0,none⟩)),(26,.agg #[.bool p.2.1.inn,.int .i64 p.2.1.pl,.int .i64 p.2.1.ct,.bool p.2.1.nw,.slice p.2.1.pe.1 p.2.1.pe.2.1 p.2.1.pe.2.2]),(27,.agg #[.int .i64 p.2.2.1.1,.bool p.2.2.1.2,.slice p.2.2.2.1.1 p.2.2.2.1.2.1 p.2.2.2.1.2.2]),(28,.int .i64 (mkE (m.ys.getD j yq0).p))]) (λp w'=>Fr [] w2 w'/\(w2.heap.size<=p.1.1/\w2.heap.size<=p.1.2/\p.1.1≠p.1.2)/\((mkE (m.ys.getD j yq0).p)=0->p.2.1=(⟨true,(m.ys.getD j yq0).pl,(m.ys.getD j yq0).ct+1,false,sv0,[]⟩:YQ)/\p.2.2.1.1=(m.ys.getD j yq0).ct/\p.2.2.1.2=(m.ys.getD j yq0).nw/\p.2.2.2.2=(m.ys.getD j yq0).pes/\p.1.1∉z0x (slv p.2.2.2.1)/\p.1.2∉z0x (slv p.2.2.2.1))/\Blk w' p.1.1 82 [.bool false,.int .i64 0,.int .i64 0,.bool false,.slice none 0 0]/\Blk w' p.1.2 250 [.int .i64 0,.bool false,.slice none 0 0]/\OwnIf ((mkE (m.ys.getD j yq0).p)=0) z1t 100 (max wS.heap.size w2.heap.size) w' (slv p.2.2.2.1) p.2.2.2.2) (λe9=>?_) ?_;refine z0e 0 h U λa h=>z0o 1 h U λa h=>z0c 2 h U z3d U λa h=>z0l 3 h U (λ_ hw=>b7.ext hw) U y0q U λa h=>z0c 4 h U z2z U λa h=>z0l 5 h U (λ_ hw=>b1.ext hw) U na5 U λa h=>z3e 6 h wn U (by first|exact IntWalk.u8_in _ (by omega)|rfl) U λa h=>z1h (p:=j) (yq0) 7 h U hM.y.out.sl U y0y U λx3 p5 a h=>z2c (cs:=z2v.enc (m.ys.getD j yq0)) 8 h wn U (λ_ hw=>p5 _ (c9.ext hw).y.out.sl) z6u U λa h=>x7y 9 14 15 (by kernel_rfl) U U U ?_ ?_ ?_;refine z0m h (z0a U z0f) v2x (y1k (m.ys.getD j yq0) _ (hM.y.ins j (by omega)).sl (λk J=>((hM.y.ins j (by omega)).blk k J).2)) ?_;rintro _ w3 ⟨qn,e0,e1,sn,b9,rfl,a5,q3⟩ a h;have z3:=q3.size;replace hM:=hM.ext q3;replace J:=J.ext q3;replace I:=I.ext q3;replace hC:=hC.next q3;have M:OwnIf ((mkE (m.ys.getD j yq0).p)=0) z1t 100 _ _ (slv sn) b9:=λhc=>(a5 hc).2.2.2.2;have d9:=λhc k J=>((M hc).blk k J).2;refine z0b ?_;refine z0e 10 h U λa h=>z0n 11 h U λa h=>z0n 12 h U λa h=>z0n 13 h U λa h=>z2e 14 15 (by kernel_rfl) U ?_ ?_;refine z1c h y1y U λw4 O q4 hz a h=>?_;obtain⟨b0,hg⟩:∃g,g=w3.heap.size:=⟨_,rfl⟩;rw[<-hg]at O h hz;have b8.gk_9:ka.gk<b0:=by have:=J.lt;omega
 have h7:g5<b0:=by have:=I.lt;omega
 have z4:=q4.size;replace J:=J.ext q4;replace I:=I.ext q4;replace hC:=hC.next q4;refine z0b ?_;refine z0d 15 U ?_;refine z1c h x3w U λw5 D q5 hz a h=>?_;obtain⟨a6,hg⟩:∃g,g=w4.heap.size:=⟨_,rfl⟩;rw[<-hg]at D h hz;have b8.gk_10:ka.gk<a6:=by have:=J.lt;omega
 have f6:g5<a6:=by have:=I.lt;omega
 have i7:b0<a6:=by have:=O.lt;omega
 have z5:=q5.size;replace M:=M.ext (q4.n1 q5);replace O:=O.ext q5;replace hC:=hC.next q5;refine z0b ?_;exact e9 ((b0,a6),qn,(e0,e1),sn,b9) _ _ _ (by kernel_rfl) (h.sub (.d8 U U U U U U U U (.cons U .nil))) ⟨hC,⟨by simp only;omega,by simp only;omega,by simp only;omega⟩,(λe=>⟨(a5 e).1,(a5 e).2.1,(a5 e).2.2.1,(a5 e).2.2.2.1,(λa2=>by have b6:=d9 e _ a2;have a9:=(M e).blk _ a2;simp only at b6 a9;omega),(λa2=>by have b6:=d9 e _ a2;have a9:=(M e).blk _ a2;simp only at b6 a9;omega)⟩),O,D,(λe=>(M e).low (by omega))⟩;refine z1c h x3w U λw6 D q6 hz a h=>?_;obtain⟨a6,hg⟩:∃g,g=w3.heap.size:=⟨_,rfl⟩;rw[<-hg]at D h hz;have b8.gk_10:ka.gk<a6:=by have:=J.lt;omega
 have f6:g5<a6:=by have:=I.lt;omega
 have z6:=q6.size;replace J:=J.ext q6;replace I:=I.ext q6;replace hC:=hC.next q6;refine z0b ?_;refine z0d 14 U ?_;refine z1c h y1y U λw7 O q7 hz a h=>?_;obtain⟨b0,hg⟩:∃g,g=w6.heap.size:=⟨_,rfl⟩;rw[<-hg]at O h hz;have b8.gk_9:ka.gk<b0:=by have:=J.lt;omega
 have h7:g5<b0:=by have:=I.lt;omega
 have i5:a6<b0:=by have:=D.lt;omega
 have z7:=q7.size;replace M:=M.ext (q6.n1 q7);replace D:=D.ext q7;replace hC:=hC.next q7;refine z0b ?_;exact e9 ((b0,a6),qn,(e0,e1),sn,b9) _ _ _ (by kernel_rfl) (h.sub (.d8 U U U U U U U U (.cons U .nil))) ⟨hC,⟨by simp only;omega,by simp only;omega,by simp only;omega⟩,(λe=>⟨(a5 e).1,(a5 e).2.1,(a5 e).2.2.1,(a5 e).2.2.2.1,(λa2=>by have b6:=d9 e _ a2;have a9:=(M e).blk _ a2;simp only at b6 a9;omega),(λa2=>by have b6:=d9 e _ a2;have a9:=(M e).blk _ a2;simp only at b6 a9;omega)⟩),O,D,(λe=>(M e).low (by omega))⟩;refine z1c h y1y U λw8 O q8 hz a h=>?_;obtain⟨b0,hg⟩:∃g,g=w2.heap.size:=⟨_,rfl⟩;rw[<-hg]at O h hz;have b8.gk_9:ka.gk<b0:=by have:=J.lt;omega
 have h7:g5<b0:=by have:=I.lt;omega
 have z8:=q8.size;replace hM:=hM.ext q8;replace J:=J.ext q8;replace I:=I.ext q8;replace hC:=hC.next q8;refine z0b ?_;refine z2e 9 15 (by kernel_rfl) U ?_ ?_;refine z0m h (z0a U z0f) v2x (y1k (m.ys.getD j yq0) _ (hM.y.ins j (by omega)).sl (λk J=>((hM.y.ins j (by omega)).blk k J).2)) ?_;rintro _ w9 ⟨qn,e0,e1,sn,b9,rfl,a5,q9⟩ a h;have z9:=q9.size;replace J:=J.ext q9;replace I:=I.ext q9;replace O:=O.ext q9;replace hC:=hC.next q9;have M:OwnIf ((mkE (m.ys.getD j yq0).p)=0) z1t 100 _ _ (slv sn) b9:=λhc=>(a5 hc).2.2.2.2;have d9:=λhc k J=>((M hc).blk k J).2;refine z0b ?_;refine z0e 10 h U λa h=>z0n 11 h U λa h=>z0n 12 h U λa h=>z0n 13 h U λa h=>z0d 15 U ?_;refine z1c h x3w U λA1 D m6 hz a h=>?_;obtain⟨a6,hg⟩:∃g,g=w9.heap.size:=⟨_,rfl⟩;rw[<-hg]at D h hz;have b8.gk_10:ka.gk<a6:=by have:=J.lt;omega
 have f6:g5<a6:=by have:=I.lt;omega
 have i7:b0<a6:=by have:=O.lt;omega
 have D5:=m6.size;replace O:=O.ext m6;replace M:=M.ext m6;replace hC:=hC.next m6;refine z0b ?_;exact e9 ((b0,a6),qn,(e0,e1),sn,b9) _ _ _ (by kernel_rfl) (h.sub (.d8 U U U U U U U U (.cons U .nil))) ⟨hC,⟨by simp only;omega,by simp only;omega,by simp only;omega⟩,(λe=>⟨(a5 e).1,(a5 e).2.1,(a5 e).2.2.1,(a5 e).2.2.2.1,(λa2=>by have b6:=d9 e _ a2;have a9:=(M e).blk _ a2;simp only at b6 a9;omega),(λa2=>by have b6:=d9 e _ a2;have a9:=(M e).blk _ a2;simp only at b6 a9;omega)⟩),O,D,(λe=>(M e).low (by omega))⟩;refine z1c h x3w U λA2 D l4 hz a h=>?_;obtain⟨a6,hg⟩:∃g,g=w8.heap.size:=⟨_,rfl⟩;rw[<-hg]at D h hz;have b8.gk_10:ka.gk<a6:=by have:=J.lt;omega
 have f6:g5<a6:=by have:=I.lt;omega
 have i7:b0<a6:=by have:=O.lt;omega
 have D6:=l4.size;replace hM:=hM.ext l4;replace J:=J.ext l4;replace hC:=hC.next l4;refine z0b ?_;refine z0d 9 U ?_;refine z0m h (z0a U z0f) v2x (y1k (m.ys.getD j yq0) _ (hM.y.ins j (by omega)).sl (λk J=>((hM.y.ins j (by omega)).blk k J).2)) ?_;rintro _ A3 ⟨qn,e0,e1,sn,b9,rfl,a5,l5⟩ a h;have D7:=l5.size;replace J:=J.ext l5;replace O:=O.ext (l4.n1 l5);replace D:=D.ext l5;replace hC:=hC.next l5;have M:OwnIf ((mkE (m.ys.getD j yq0).p)=0) z1t 100 _ _ (slv sn) b9:=λhc=>(a5 hc).2.2.2.2;have d9:=λhc k J=>((M hc).blk k J).2;refine z0b ?_;refine z0e 10 h U λa h=>z0n 11 h U λa h=>z0n 12 h U λa h=>z0n 13 h U λa h=>?_;exact e9 ((b0,a6),qn,(e0,e1),sn,b9) _ _ _ (by kernel_rfl) (h.sub (.d8 U U U U U U U U (.cons U .nil))) ⟨hC,⟨by simp only;omega,by simp only;omega,by simp only;omega⟩,(λe=>⟨(a5 e).1,(a5 e).2.1,(a5 e).2.2.1,(a5 e).2.2.2.1,(λa2=>by have b6:=d9 e _ a2;have a9:=(M e).blk _ a2;simp only at b6 a9;omega),(λa2=>by have b6:=d9 e _ a2;have a9:=(M e).blk _ a2;simp only at b6 a9;omega)⟩),O,D,(λe=>(M e).low (by omega))⟩;refine z1c h x3w U λu3 D l6 hz a h=>?_;obtain⟨a6,hg⟩:∃g,g=w2.heap.size:=⟨_,rfl⟩;rw[<-hg]at D h hz;have b8.gk_10:ka.gk<a6:=by have:=J.lt;omega
 have f6:g5<a6:=by have:=I.lt;omega
 have D8:=l6.size;replace hM:=hM.ext l6;replace J:=J.ext l6;replace I:=I.ext l6;replace hC:=hC.next l6;refine z0b ?_;refine z2e 9 14 (by kernel_rfl) U ?_ ?_;refine z0m h (z0a U z0f) v2x (y1k (m.ys.getD j yq0) _ (hM.y.ins j (by omega)).sl (λk J=>((hM.y.ins j (by omega)).blk k J).2)) ?_;rintro _ u4 ⟨qn,e0,e1,sn,b9,rfl,a5,l7⟩ a h;have D9:=l7.size;replace J:=J.ext l7;replace I:=I.ext l7;replace D:=D.ext l7;replace hC:=hC.next l7;have M:OwnIf ((mkE (m.ys.getD j yq0).p)=0) z1t 100 _ _ (slv sn) b9:=λhc=>(a5 hc).2.2.2.2;have d9:=λhc k J=>((M hc).blk k J).2;refine z0b ?_;refine z0e 10 h U λa h=>z0n 11 h U λa h=>z0n 12 h U λa h=>z0n 13 h U λa h=>z0d 14 U ?_;refine z1c h y1y U λA4 O m7 hz a h=>?_;obtain⟨b0,hg⟩:∃g,g=u4.heap.size:=⟨_,rfl⟩;rw[<-hg]at O h hz;have b8.gk_9:ka.gk<b0:=by have:=J.lt;omega
 have h7:g5<b0:=by have:=I.lt;omega
 have i5:a6<b0:=by have:=D.lt;omega
 have E0:=m7.size;replace D:=D.ext m7;replace M:=M.ext m7;replace hC:=hC.next m7;refine z0b ?_;exact e9 ((b0,a6),qn,(e0,e1),sn,b9) _ _ _ (by kernel_rfl) (h.sub (.d8 U U U U U U U U (.cons U .nil))) ⟨hC,⟨by simp only;omega,by simp only;omega,by simp only;omega⟩,(λe=>⟨(a5 e).1,(a5 e).2.1,(a5 e).2.2.1,(a5 e).2.2.2.1,(λa2=>by have b6:=d9 e _ a2;have a9:=(M e).blk _ a2;simp only at b6 a9;omega),(λa2=>by have b6:=d9 e _ a2;have a9:=(M e).blk _ a2;simp only at b6 a9;omega)⟩),O,D,(λe=>(M e).low (by omega))⟩;refine z1c h y1y U λA5 O k4 hz a h=>?_;obtain⟨b0,hg⟩:∃g,g=u3.heap.size:=⟨_,rfl⟩;rw[<-hg]at O h hz;have b8.gk_9:ka.gk<b0:=by have:=J.lt;omega
 have h7:g5<b0:=by have:=I.lt;omega
 have i5:a6<b0:=by have:=D.lt;omega
 have E1:=k4.size;replace hM:=hM.ext k4;replace J:=J.ext k4;replace I:=I.ext k4;replace D:=D.ext k4;replace hC:=hC.next k4;refine z0b ?_;refine z0d 9 U ?_;refine z0m h (z0a U z0f) v2x (y1k (m.ys.getD j yq0) _ (hM.y.ins j (by omega)).sl (λk J=>((hM.y.ins j (by omega)).blk k J).2)) ?_;rintro _ A6 ⟨qn,e0,e1,sn,b9,rfl,a5,hq⟩ a h;have E2:=hq.size;replace hM:=hM.ext hq;replace J:=J.ext hq;replace I:=I.ext hq;replace D:=D.ext hq;replace O:=O.ext hq;replace hC:=hC.next hq;have z0:=hq;have M:OwnIf ((mkE (m.ys.getD j yq0).p)=0) z1t 100 _ _ (slv sn) b9:=λhc=>(a5 hc).2.2.2.2;have d9:=λhc k J=>((M hc).blk k J).2;refine z0b ?_;refine z0e 10 h U λa h=>z0n 11 h U λa h=>z0n 12 h U λa h=>z0n 13 h U λa h=>?_;exact e9 ((b0,a6),qn,(e0,e1),sn,b9) _ _ _ (by kernel_rfl) (h.sub (.d8 U U U U U U U U (.cons U .nil))) ⟨hC,⟨by simp only;omega,by simp only;omega,by simp only;omega⟩,(λe=>⟨(a5 e).1,(a5 e).2.1,(a5 e).2.2.1,(a5 e).2.2.2.1,(λa2=>by have b6:=d9 e _ a2;have a9:=(M e).blk _ a2;simp only at b6 a9;omega),(λa2=>by have b6:=d9 e _ a2;have a9:=(M e).blk _ a2;simp only at b6 a9;omega)⟩),O,D,(λe=>(M e).low (by omega))⟩;rintro⟨⟨b0,a6⟩,qn,⟨e0,e1⟩,sn,b9⟩ a w18 ⟨hC,⟨o8,l1,hz910⟩,a5,O,D,M⟩ h;simp only at o8 l1 hz910 a5 O D M;have m8:=hC;have E3:=m8.size;replace J:=J.ext m8;replace I:=I.ext m8;refine z0d 16 U ?_;refine z0u h U O U z7k ?_ (h1:=(by first|(simp[Value.oneCell',S];done)|exact z2v.one (m.ys.getD j yq0)));clear h a;intro u5 i4 j4 hz a h;have E4:=j4.size;replace J:=J.fr j4;replace I:=I.fr j4;replace D:=D.fr j4;replace M:=M.fr j4 (by intro k8 k J a2;simp at J;subst J;first|exact(a5 k8).2.2.2.2.1 a2|exact(a5 k8).2.2.2.2.2 a2);replace hC:=hC.sp j4;clear O hz;have O:Blk u5 b0 _ [_,_,_,_,_]:=i4;clear i4;refine z0b ?_;refine z0d 17 U ?_;refine z0u h U D U x2n ?_ (h1:=(by first|(simp[Value.oneCell',S];done)|exact z2v.one (m.ys.getD j yq0)));clear h a;intro u6 i4 j5 hz a h;have E5:=j5.size;replace J:=J.fr j5;replace I:=I.fr j5;replace O:=O.fr j5;replace M:=M.fr j5 (by intro k8 k J a2;simp at J;subst J;first|exact(a5 k8).2.2.2.2.1 a2|exact(a5 k8).2.2.2.2.2 a2);replace hC:=hC.sp j5;clear D hz;have D:Blk u6 a6 _ [_,_,_]:=i4;clear i4;refine z0b ?_;refine z0d 18 U ?_;refine z0s h U λa h=>?_;refine z0b ?_;refine z0r ?_;clear hC c9 b7 b1;refine bk (h.sub (L':=[(0,_),(2,_),(3,_),(5,_),(9,_),(10,_),(11,_)]) (.c7 U U U U U U U)) ?_;exact jE ((b0,a6)) (.c7 U U U U U U U) ⟨(q2.z3 m8 j4 j5),⟨qn,e0,e1,sn,b9,⟨by simp only;omega,by simp only;omega,λe=>⟨(a5 e).1,(a5 e).2.1,(a5 e).2.2.1,(a5 e).2.2.2.1⟩⟩,O,D,λe=>(M e).low (by omega)⟩⟩;rintro⟨g9,f0⟩ A7 ⟨h0,⟨qn,e0,e1,sn,b9,⟨o8,l1,a5⟩,O,D,M⟩⟩;have E6:=h0.size;have s4:=O.lt;have r8:=D.lt;simp only at o8 l1 O D;refine kpC [(0,_),(2,_),(3,_),(5,_),(9,.pointer (some ⟨g9,0,none⟩)),(10,.pointer (some ⟨f0,0,none⟩)),(11,.int .i64 (mkE (m.ys.getD j yq0).p))] (.c7 U U U U U U U) (sq (sr (mv U (ne' U (nn (cd U (λc0=>?_) (λc0=>?_)))))));refine sr (mv U (asg U (kpL [(8,_)] (.cons U .nil) (nn (rt (tr (r1 results114 U ?_)))))));replace hM:=h5.ext (q1.n1 h0);exact⟨_,rfl,MRet.err (by unfold y3x;rw[l0,if_pos c0]) c0 hM.fr⟩;replace J:=J.ext (q1.n1 h0);have k9:(mkE (m.ys.getD j yq0).p)=0:=Classical.not_not.1 c0;obtain⟨rfl,rfl,rfl,rfl⟩:=a5 k9;replace M:=M k9;have f8:=λk J=>(M.blk k J).2;obtain⟨m1,m3,m2⟩:=u8s hi hy hs (by rw[l0];exact k9);rw[l0]at m1 m3 m2;refine sk (tn (sq (sr (mv U (nlc U (fad U y2b (z0g U J U x3c ?_)))))));replace hM:=h5.ext (q1.n1 h0);refine cl (ev1 U) (mkC func151) (y4x _ m.ts _ hM.t.at.1 hM.t.at.2 (by omega)) U ?_;rintro _ A8 ⟨rfl,e5⟩;have E7:=e5.size;refine ge' U U (kpL [(0,_),(2,_),(3,_),(5,_),(9,_),(10,_),(37,_)] (.c7 U U U U U U U) (nn (cd U (λc1=>?_) (λc1=>?_))));refine sr (asg U (kpL [(8,_)] (.cons U .nil) (nn (rt (tr (r1 results114 U ?_))))));replace hM:=h5.ext (q1.n2 h0 e5);exact⟨_,rfl,MRet.err (by unfold y3x;rw[l0,if_neg (λe=>e k9),if_pos (show 2048<=z5d m.p.tb by have:m.p.tb=z1v m.ts:=rfl;rw[this];omega)]) (by decide) hM.fr⟩;refine sk (tn (sr (fad U z2z ?_)));replace I:=I.ext (h0.n1 e5);refine z0g U I U na5 (fad U j1s ?_);replace D:=D.ext e5;refine z0g U D U na3 (z1s (cs:=[_,_]) (ev2 U) j6h (z0h U (z0h U z0q)) U ?_);refine al y4p U (λf7 A9 x6 a4 f2 E8=>?_);refine z0i (vs:=[_,_]) U a4 y3i (λB0 a4 f3 E9=>?_) (h1:=(by first|(simp[Value.oneCell',S];done)|exact z2v.one (m.ys.getD j yq0)));refine kpL [(0,_),(2,_),(3,_),(5,_),(9,_),(10,_),(12,_)] (.c7 U U U U U U U) (nn (sr (fad U z4q (x2b U z6d U ?_))));replace I:=(I.ext f2).fr f3;refine z0g U I U x1e (fad U j2t ?_);replace D:=(D.ext f2).fr f3;refine z0g U D U na4 (mv U (fad U j1v (z0g U D U y4n (z1s (cs:=[_,_,_,_]) (ev4 U) bo89 (z0h U (z0h U (z0h U (z0h U z0q)))) U ?_))));refine al v9i U (λf1 B1 x7 a0 e6 F0=>?_);refine z0i (vs:=[_,_,_,_]) U a0 u2v (λp1 a0 e7 F1=>?_) (h1:=(by first|(simp[Value.oneCell',S];done)|exact z2v.one (m.ys.getD j yq0)));refine kpL [(0,_),(3,_),(5,_),(9,_),(12,_),(13,_)] (.c6 U U U U U U) (nn ?_);refine jn (ι:=Nat) [(0,_),(5,_),(9,_),(13,_)] (λg_=>[(14,.pointer (some ⟨g_,0,none⟩)),(11,.int .i64 0)]) (λg_ w'=>Fr [] p1 w'/\∃q':BdQ,(p1.heap.size<=g_/\q'.p=m.q.p.put o.b o.p (st++[(⟨o.y,(m.ys.getD j yq0).ct⟩:LId)]))/\Blk w' g_ 32 (bdL q')/\BdO 37 87 (max wS.heap.size p1.heap.size) w' q') (.c4 U U U U) ?_ ?_;replace hM:=h5.ext (q1.z6 h0 e5 f2 f3 e6 e7);replace J:=(((J.ext (e5.n1 f2)).fr f3).ext e6).fr e7;replace b4:=r5.ext (q1.z6 h0 e5 f2 f3 e6 e7);replace I:=(I.ext e6).fr e7;replace O:=(((O.ext (e5.n1 f2)).fr f3).ext e6).fr e7;replace D:=(D.ext e6).fr e7;replace M:=(((M.ext (e5.n1 f2)).fr f3 (by intro k J a2;simp at J;subst J;have a9:=M.blk _ a2;have k3:=f8 _ a2;omega)).ext e6).fr e7 (by intro k J a2;simp at J;subst J;have a9:=M.blk _ a2;have k3:=f8 _ a2;omega);replace a4:=(a4.ext e6).fr e7;intro a h;refine z0j none (λwb w'=>Fr [] wb w') z2s ?_;intro d5 g3;have F2:=g3.size;replace hM:=hM.ext g3;replace J:=J.ext g3;replace b4:=b4.ext g3;replace I:=I.ext g3;replace O:=O.ext g3;replace D:=D.ext g3;replace M:=M.ext g3;replace a4:=a4.ext g3;replace a0:=a0.ext g3;have hC:Fr [] d5 d5:=Fr.refl _ _;have c9:=hM;have b7:=J;have o6:=b4;have b1:=I;have h6:=O;have m0:=D;have g0:=M;have j7:=a4;have d6:=a0;refine y4l (ι:=Nat×BdQ) h [(0,_),(3,_),(5,_),(9,_),(12,_),(13,_)] (.c6 U U U U U U) #[true,true,true,true,true,true,true,true,true,true,true,true,true,true,true,true,false,false] 2 (λp=>[(14,.pointer (some ⟨p.1,0,none⟩)),(65,.agg #[.slice p.2.f.1 p.2.f.2.1 p.2.f.2.2,.slice p.2.b.1 p.2.b.2.1 p.2.b.2.2]),(66,.int .i64 0)]) (λp w'=>Fr [] d5 w'/\(d5.heap.size<=p.1/\p.2.p=m.q.p.put o.b o.p (st++[(⟨o.y,(m.ys.getD j yq0).ct⟩:LId)]))/\Blk w' p.1 32 [.slice none 0 0,.slice none 0 0]/\BdO 37 87 (max wS.heap.size d5.heap.size) w' p.2) (λj3=>?_) ?_;refine y4l (ι:=(Nat×Nat)×Nat) h [(0,_),(3,_),(5,_),(9,_),(12,_),(13,_)] (.c6 U U U U U U) #[true,true,true,true,true,true,true,true,true,true,false,false,false,false,false,true,false,false] 7 (λp=>[(56,.agg #[.slice m.q.f.1 m.q.f.2.1 m.q.f.2.2,.slice m.q.b.1 m.q.b.2.1 m.q.b.2.2]),(58,.agg #[.int .u8 o.b,.int .i64 o.p]),(60,.slice (some ⟨p.1.1,0,none⟩) st.length st.length),(62,.slice (some ⟨p.1.2,0,none⟩) 1 1),(14,.pointer (some ⟨p.2,0,none⟩))]) (λp w'=>Fr [] d5 w'/\(d5.heap.size<=p.1.1/\d5.heap.size<=p.1.2)/\Lw.Own z1k 87 d5.heap.size w' (.slice (some ⟨p.1.1,0,none⟩) st.length st.length) st/\Lw.Own z1k 87 d5.heap.size w' (.slice (some ⟨p.1.2,0,none⟩) 1 1) [(⟨o.y,(m.ys.getD j yq0).ct⟩:LId)]/\d5.heap.size<=p.2/\Blk w' p.2 32 [.slice none 0 0,.slice none 0 0]) (λf9=>?_) ?_;refine y4l (ι:=Nat×Nat) h [(0,_),(3,_),(5,_),(9,_),(12,_),(13,_)] (.c6 U U U U U U) #[true,true,true,true,true,true,true,true,true,true,false,false,false,false,false,false,false,false] 8 (λp=>[(56,.agg #[.slice m.q.f.1 m.q.f.2.1 m.q.f.2.2,.slice m.q.b.1 m.q.b.2.1 m.q.b.2.2]),(58,.agg #[.int .u8 o.b,.int .i64 o.p]),(60,.slice (some ⟨p.1,0,none⟩) st.length st.length),(62,.slice (some ⟨p.2,0,none⟩) 1 1)]) (λp w'=>Fr [] d5 w'/\(d5.heap.size<=p.1/\d5.heap.size<=p.2)/\Lw.Own z1k 87 d5.heap.size w' (.slice (some ⟨p.1,0,none⟩) st.length st.length) st/\Lw.Own z1k 87 d5.heap.size w' (.slice (some ⟨p.2,0,none⟩) 1 1) [(⟨o.y,(m.ys.getD j yq0).ct⟩:LId)]) (λk7=>?_) ?_;refine z0e 0 h U λa h=>z0o 1 h U λa h=>z0c 2 h U z3f U λa h=>z1e (vs:=[_,_]) 3 h U (λ_ hw=>(b7.ext hw)) z5x U U λa h=>z0c 4 h U z4q U λa h=>z1e (vs:=[_,_]) 5 h U (λ_ hw=>(b1.ext hw)) z5b U U λa h=>z0e 6 h U λa h=>z0z 8 h U (λ_ hw=>j7.ext hw) z3t U λa h=>x7y 7 9 15 (by kernel_rfl) U U U ?_ ?_ ?_;refine z0m h (z0a U z0f) x2y (z3x _ st _ b4 (by omega)) ?_;rintro _ u7 ⟨e8,rfl,j8,hX,g4⟩ a h;have F3:=g4.size;replace hM:=hM.ext g4;replace J:=J.ext g4;replace b4:=b4.ext g4;replace I:=I.ext g4;replace O:=O.ext g4;replace D:=D.ext g4;replace M:=M.ext g4;replace a4:=a4.ext g4;replace a0:=a0.ext g4;replace hC:=hC.next g4;have i3:=λk J=>(hX.blk k J).2;refine z0b ?_;refine z2e 9 15 (by kernel_rfl) U ?_ ?_;refine z3g ([(⟨o.y,(m.ys.getD j yq0).ct⟩:LId)]) h (z0a U z0f) U z6o λa3 B2 hg a7 o9 hz a h=>?_;have b8.gk_62:ka.gk<a3:=by have:=J.lt;omega
 have b5:g5<a3:=by have:=I.lt;omega
 have b5:g9<a3:=by have:=O.lt;omega
 have e2:f0<a3:=by have:=D.lt;omega
 have e3:f7<a3:=by have:=a4.lt;omega
 have e4:f1<a3:=by have:=a0.lt;omega
 have F5:=o9.size;replace hX:=hX.ext o9;replace hC:=hC.next o9;refine z0b ?_;exact k7 (e8,a3) _ _ _ (by kernel_rfl) (h.sub (.d8 U U U U U U U U (.c2 U U))) ⟨hC,⟨by simp only;omega,by simp only;omega⟩,hX.low (by omega),a7.low (by omega)⟩;refine z1c h v1e U λB3 a1 h9 hz a h=>?_;obtain⟨Z,hg⟩:∃g,g=u7.heap.size:=⟨_,rfl⟩;rw[<-hg]at a1 h hz;have b8.gk_14:ka.gk<Z:=by have:=J.lt;omega
 have b2:g5<Z:=by have:=I.lt;omega
 have b2:g9<Z:=by have:=O.lt;omega
 have d1:f0<Z:=by have:=D.lt;omega
 have d3:f7<Z:=by have:=a4.lt;omega
 have d4:f1<Z:=by have:=a0.lt;omega
 have F6:=h9.size;replace J:=J.ext h9;replace I:=I.ext h9;replace O:=O.ext h9;replace D:=D.ext h9;replace a4:=a4.ext h9;replace a0:=a0.ext h9;replace hC:=hC.next h9;refine z0b ?_;refine z0d 9 U ?_;refine z3g ([(⟨o.y,(m.ys.getD j yq0).ct⟩:LId)]) h (z0a U z0f) U z6o λa3 B4 hg a7 m9 hz a h=>?_;have b8.gk_62:ka.gk<a3:=by have:=J.lt;omega
 have b5:g5<a3:=by have:=I.lt;omega
 have b5:g9<a3:=by have:=O.lt;omega
 have e2:f0<a3:=by have:=D.lt;omega
 have e3:f7<a3:=by have:=a4.lt;omega
 have e4:f1<a3:=by have:=a0.lt;omega
 have h4:Z<a3:=by have:=a1.lt;omega
 have F7:=m9.size;replace hX:=hX.ext (h9.n1 m9);replace a1:=a1.ext m9;replace hC:=hC.next m9;refine z0b ?_;exact f9 ((e8,a3),Z) _ _ _ (by kernel_rfl) (h.sub (.d8 U U U U U U U U (.c3 U U U))) ⟨hC,⟨by simp only;omega,by simp only;omega⟩,hX.low (by omega),a7.low (by omega),by simp only;omega,a1⟩;refine z3g ([(⟨o.y,(m.ys.getD j yq0).ct⟩:LId)]) h (z0a U z0f) U z6o λa3 u9 hg a7 g6 hz a h=>?_;have b8.gk_62:ka.gk<a3:=by have:=J.lt;omega
 have b5:g5<a3:=by have:=I.lt;omega
 have b5:g9<a3:=by have:=O.lt;omega
 have e2:f0<a3:=by have:=D.lt;omega
 have e3:f7<a3:=by have:=a4.lt;omega
 have e4:f1<a3:=by have:=a0.lt;omega
 have F8:=g6.size;replace hM:=hM.ext g6;replace J:=J.ext g6;replace b4:=b4.ext g6;replace I:=I.ext g6;replace O:=O.ext g6;replace D:=D.ext g6;replace M:=M.ext g6;replace a4:=a4.ext g6;replace a0:=a0.ext g6;replace hC:=hC.next g6;refine z0b ?_;refine z2e 7 15 (by kernel_rfl) U ?_ ?_;refine z0m h (z0a U z0f) x2y (z3x _ st _ b4 (by omega)) ?_;rintro _ B5 ⟨e8,rfl,j8,hX,n7⟩ a h;have F9:=n7.size;replace J:=J.ext n7;replace a7:=a7.ext n7;replace hC:=hC.next n7;have i3:=λk J=>(hX.blk k J).2;refine z0b ?_;exact k7 (e8,a3) _ _ _ (by kernel_rfl) (h.sub (.d8 U U U U U U U U (.c2 U U))) ⟨hC,⟨by simp only;omega,by simp only;omega⟩,hX.low (by omega),a7.low (by omega)⟩;refine z1c h v1e U λB6 a1 l8 hz a h=>?_;obtain⟨Z,hg⟩:∃g,g=u9.heap.size:=⟨_,rfl⟩;rw[<-hg]at a1 h hz;have b8.gk_14:ka.gk<Z:=by have:=J.lt;omega
 have b2:g5<Z:=by have:=I.lt;omega
 have b2:g9<Z:=by have:=O.lt;omega
 have d1:f0<Z:=by have:=D.lt;omega
 have d3:f7<Z:=by have:=a4.lt;omega
 have d4:f1<Z:=by have:=a0.lt;omega
 have p3:a3<Z:=by have:=(a7.blk a3 (by simp[z0x])).2;omega
 have G0:=l8.size;replace b4:=b4.ext l8;replace hC:=hC.next l8;refine z0b ?_;refine z0d 7 U ?_;refine z0m h (z0a U z0f) x2y (z3x _ st _ b4 (by omega)) ?_;rintro _ B7 ⟨e8,rfl,j8,hX,l9⟩ a h;have G1:=l9.size;replace J:=J.ext (l8.n1 l9);replace a7:=a7.ext (l8.n1 l9);replace a1:=a1.ext l9;replace hC:=hC.next l9;have i3:=λk J=>(hX.blk k J).2;refine z0b ?_;exact f9 ((e8,a3),Z) _ _ _ (by kernel_rfl) (h.sub (.d8 U U U U U U U U (.c3 U U U))) ⟨hC,⟨by simp only;omega,by simp only;omega⟩,hX.low (by omega),a7.low (by omega),by simp only;omega,a1⟩;refine z1c h v1e U λB8 a1 g7 hz a h=>?_;obtain⟨Z,hg⟩:∃g,g=d5.heap.size:=⟨_,rfl⟩;rw[<-hg]at a1 h hz;have b8.gk_14:ka.gk<Z:=by have:=J.lt;omega
 have b2:g5<Z:=by have:=I.lt;omega
 have b2:g9<Z:=by have:=O.lt;omega
 have d1:f0<Z:=by have:=D.lt;omega
 have d3:f7<Z:=by have:=a4.lt;omega
 have d4:f1<Z:=by have:=a0.lt;omega
 have G2:=g7.size;replace hM:=hM.ext g7;replace J:=J.ext g7;replace b4:=b4.ext g7;replace I:=I.ext g7;replace O:=O.ext g7;replace D:=D.ext g7;replace M:=M.ext g7;replace a4:=a4.ext g7;replace a0:=a0.ext g7;replace hC:=hC.next g7;refine z0b ?_;refine z2e 7 9 (by kernel_rfl) U ?_ ?_;refine z0m h (z0a U z0f) x2y (z3x _ st _ b4 (by omega)) ?_;rintro _ B9 ⟨e8,rfl,j8,hX,i0⟩ a h;have G3:=i0.size;replace J:=J.ext i0;replace I:=I.ext i0;replace O:=O.ext i0;replace D:=D.ext i0;replace a4:=a4.ext i0;replace a0:=a0.ext i0;replace a1:=a1.ext i0;replace hC:=hC.next i0;have i3:=λk J=>(hX.blk k J).2;refine z0b ?_;refine z0d 9 U ?_;refine z3g ([(⟨o.y,(m.ys.getD j yq0).ct⟩:LId)]) h (z0a U z0f) U z6o λa3 C0 hg a7 n8 hz a h=>?_;have b8.gk_62:ka.gk<a3:=by have:=J.lt;omega
 have b5:g5<a3:=by have:=I.lt;omega
 have b5:g9<a3:=by have:=O.lt;omega
 have e2:f0<a3:=by have:=D.lt;omega
 have e3:f7<a3:=by have:=a4.lt;omega
 have e4:f1<a3:=by have:=a0.lt;omega
 have h4:Z<a3:=by have:=a1.lt;omega
 have G4:=n8.size;replace a1:=a1.ext n8;replace hX:=hX.ext n8;replace hC:=hC.next n8;refine z0b ?_;exact f9 ((e8,a3),Z) _ _ _ (by kernel_rfl) (h.sub (.d8 U U U U U U U U (.c3 U U U))) ⟨hC,⟨by simp only;omega,by simp only;omega⟩,hX.low (by omega),a7.low (by omega),by simp only;omega,a1⟩;refine z3g ([(⟨o.y,(m.ys.getD j yq0).ct⟩:LId)]) h (z0a U z0f) U z6o λa3 C1 hg a7 f4 hz a h=>?_;have b8.gk_62:ka.gk<a3:=by have:=J.lt;omega
 have b5:g5<a3:=by have:=I.lt;omega
 have b5:g9<a3:=by have:=O.lt;omega
 have e2:f0<a3:=by have:=D.lt;omega
 have e3:f7<a3:=by have:=a4.lt;omega
 have e4:f1<a3:=by have:=a0.lt;omega
 have h4:Z<a3:=by have:=a1.lt;omega
 have G5:=f4.size;replace hM:=hM.ext f4;replace J:=J.ext f4;replace b4:=b4.ext f4;replace I:=I.ext f4;replace O:=O.ext f4;replace D:=D.ext f4;replace M:=M.ext f4;replace a4:=a4.ext f4;replace a0:=a0.ext f4;replace a1:=a1.ext f4;replace hC:=hC.next f4;refine z0b ?_;refine z0d 7 U ?_;refine z0m h (z0a U z0f) x2y (z3x _ st _ b4 (by omega)) ?_;rintro _ C2 ⟨e8,rfl,j8,hX,hq⟩ a h;have G6:=hq.size;replace hM:=hM.ext hq;replace J:=J.ext hq;replace b4:=b4.ext hq;replace I:=I.ext hq;replace O:=O.ext hq;replace D:=D.ext hq;replace M:=M.ext hq;replace a4:=a4.ext hq;replace a0:=a0.ext hq;replace a1:=a1.ext hq;replace a7:=a7.ext hq;replace hC:=hC.next hq;have A0:=hq;have i3:=λk J=>(hX.blk k J).2;refine z0b ?_;exact f9 ((e8,a3),Z) _ _ _ (by kernel_rfl) (h.sub (.d8 U U U U U U U U (.c3 U U U))) ⟨hC,⟨by simp only;omega,by simp only;omega⟩,hX.low (by omega),a7.low (by omega),by simp only;omega,a1⟩;rintro⟨e8,a3⟩ a v8 ⟨hC,⟨l2,l3⟩,hX,a7⟩ h;simp only at l2 l3 hX a7;have h2:=hC;have G7:=h2.size;replace hM:=hM.ext h2;replace J:=J.ext h2;replace b4:=b4.ext h2;replace I:=I.ext h2;replace O:=O.ext h2;replace D:=D.ext h2;replace M:=M.ext h2;replace a4:=a4.ext h2;replace a0:=a0.ext h2;have i3:=λk h_=>(hX.blk k h_).2;refine z2e 10 15 (by kernel_rfl) U ?_ ?_;have a8:=hX;refine z7w h U U hX a7.sl z6o U λu2 v9 hX i1 o5 a h=>?_;obtain⟨s5,s6,rfl,p6⟩:=hX.sl.form;have i3:=λk J=>(hX.blk k J).2;have G8:=i1.size;replace J:=J.fr i1 (λb3=>a8.neB J (by decide) b3);replace I:=I.fr i1 (λb3=>a8.neB I (by decide) b3);replace O:=O.fr i1 (λb3=>a8.neB O (by decide) b3);replace D:=D.fr i1 (λb3=>a8.neB D (by decide) b3);replace M:=M.fr i1 (Own.neO a8 M (by decide));replace a4:=a4.fr i1 (λb3=>by have:=(a8.blk _ b3).1;omega);replace a0:=a0.fr i1 (λb3=>a8.neB a0 (by decide) b3);replace hC:=hC.step i1 (λk J o3=>absurd (a8.blk k J).1 (by omega));refine z0b ?_;refine z2e 11 15 (by kernel_rfl) U ?_ ?_;refine z0m h (z0a U (z0a U (z0a U z0f))) v5c (by have x:=x2i m.q o.b n _ (st++[(⟨o.y,(m.ys.getD j yq0).ct⟩:LId)]) _ (c9.ext hC).b.at hX.sl hv (by rw[<-h8];exact hn) m1 m3 (by rw[<-h8];exact m2);rw[<-h8]at x;exact x) ?_;rintro _ x0 ⟨⟨q',rfl,hQ,g8⟩,q43⟩ a h;have G9:=q43.size;replace J:=J.ext q43;replace I:=I.ext q43;replace O:=O.ext q43;replace D:=D.ext q43;replace a4:=a4.ext q43;replace a0:=a0.ext q43;replace hC:=hC.next q43;refine z0b ?_;refine z0e 12 h U λa h=>z0n 13 h U λa h=>z0n 14 h U λa h=>z0d 15 U ?_;refine z1c h v1e U λC3 a1 n9 hz a h=>?_;obtain⟨Z,hg⟩:∃g,g=x0.heap.size:=⟨_,rfl⟩;rw[<-hg]at a1 h hz;have b8.gk_14:ka.gk<Z:=by have:=J.lt;omega
 have b2:g5<Z:=by have:=I.lt;omega
 have b2:g9<Z:=by have:=O.lt;omega
 have d1:f0<Z:=by have:=D.lt;omega
 have d3:f7<Z:=by have:=a4.lt;omega
 have d4:f1<Z:=by have:=a0.lt;omega
 have H0:=n9.size;first|replace hQ:=BdO.ext hQ n9|replace hQ:=BdO.tf hQ n9 (OffT.one a1 (by decide)) (OffT.one a1 (by decide))
 replace hC:=hC.next n9;refine z0b ?_;exact j3 (Z,q') _ _ _ (by kernel_rfl) (h.sub (.d8 U U U U U U U U (.cons U .nil))) ⟨hC,⟨by simp only;omega,g8⟩,a1,BdO.low hQ (by omega)⟩;refine z1c h v1e U λC4 a1 p0 hz a h=>?_;obtain⟨Z,hg⟩:∃g,g=v9.heap.size:=⟨_,rfl⟩;rw[<-hg]at a1 h hz;have b8.gk_14:ka.gk<Z:=by have:=J.lt;omega
 have b2:g5<Z:=by have:=I.lt;omega
 have b2:g9<Z:=by have:=O.lt;omega
 have d1:f0<Z:=by have:=D.lt;omega
 have d3:f7<Z:=by have:=a4.lt;omega
 have d4:f1<Z:=by have:=a0.lt;omega
 have H1:=p0.size;replace hX:=hX.ext p0;replace hC:=hC.next p0;refine z0b ?_;refine z0d 11 U ?_;refine z0m h (z0a U (z0a U (z0a U z0f))) v5c (by have x:=x2i m.q o.b n _ (st++[(⟨o.y,(m.ys.getD j yq0).ct⟩:LId)]) _ (c9.ext hC).b.at hX.sl hv (by rw[<-h8];exact hn) m1 m3 (by rw[<-h8];exact m2);rw[<-h8]at x;exact x) ?_;rintro _ C5 ⟨⟨q',rfl,hQ,g8⟩,q46⟩ a h;have H2:=q46.size;replace a1:=a1.ext q46;replace hC:=hC.next q46;refine z0b ?_;refine z0e 12 h U λa h=>z0n 13 h U λa h=>z0n 14 h U λa h=>?_;exact j3 (Z,q') _ _ _ (by kernel_rfl) (h.sub (.d8 U U U U U U U U (.cons U .nil))) ⟨hC,⟨by simp only;omega,g8⟩,a1,BdO.low hQ (by omega)⟩;refine z1c h v1e U λC6 a1 o0 hz a h=>?_;obtain⟨Z,hg⟩:∃g,g=v8.heap.size:=⟨_,rfl⟩;rw[<-hg]at a1 h hz;have b8.gk_14:ka.gk<Z:=by have:=J.lt;omega
 have b2:g5<Z:=by have:=I.lt;omega
 have b2:g9<Z:=by have:=O.lt;omega
 have d1:f0<Z:=by have:=D.lt;omega
 have d3:f7<Z:=by have:=a4.lt;omega
 have d4:f1<Z:=by have:=a0.lt;omega
 have H3:=o0.size;replace hX:=hX.ext o0;replace a7:=a7.ext o0;replace hC:=hC.next o0;refine z0b ?_;exact f9 ((e8,a3),Z) _ _ _ (by kernel_rfl) (h.sub (.d8 U U U U U U U U (.c3 U U U))) ⟨hC,⟨by simp only;omega,by simp only;omega⟩,hX.low (by omega),a7.low (by omega),by simp only;omega,a1⟩;rintro⟨⟨e8,a3⟩,Z⟩ a w48 ⟨hC,⟨l2,l3⟩,hX,a7,k2,a1⟩ h;simp only at l2 l3 hX a7 k2 a1;have i8:=hC;have H4:=i8.size;replace J:=J.ext i8;replace I:=I.ext i8;replace O:=O.ext i8;replace D:=D.ext i8;replace M:=M.ext i8;replace a4:=a4.ext i8;replace a0:=a0.ext i8;have i3:=λk h_=>(hX.blk k h_).2;refine z0d 10 U ?_;have a8:=hX;refine z7w h U U hX a7.sl z6o U λu2 C7 hX h3 o5 a h=>?_;obtain⟨s5,s6,rfl,p6⟩:=hX.sl.form;have i3:=λk J=>(hX.blk k J).2;have H5:=h3.size;replace J:=J.fr h3 (λb3=>a8.neB J (by decide) b3);replace I:=I.fr h3 (λb3=>a8.neB I (by decide) b3);replace O:=O.fr h3 (λb3=>a8.neB O (by decide) b3);replace D:=D.fr h3 (λb3=>a8.neB D (by decide) b3);replace M:=M.fr h3 (Own.neO a8 M (by decide));replace a4:=a4.fr h3 (λb3=>by have:=(a8.blk _ b3).1;omega);replace a0:=a0.fr h3 (λb3=>a8.neB a0 (by decide) b3);replace a1:=a1.fr h3 (λb3=>a8.neB a1 (by decide) b3);replace hC:=hC.step h3 (λk J o3=>absurd (a8.blk k J).1 (by omega));refine z0b ?_;refine z0d 11 U ?_;refine z0m h (z0a U (z0a U (z0a U z0f))) v5c (by have x:=x2i m.q o.b n _ (st++[(⟨o.y,(m.ys.getD j yq0).ct⟩:LId)]) _ (c9.ext hC).b.at hX.sl hv (by rw[<-h8];exact hn) m1 m3 (by rw[<-h8];exact m2);rw[<-h8]at x;exact x) ?_;rintro _ C8 ⟨⟨q',rfl,hQ,g8⟩,q50⟩ a h;have H6:=q50.size;replace a1:=a1.ext q50;replace hC:=hC.next q50;refine z0b ?_;refine z0e 12 h U λa h=>z0n 13 h U λa h=>z0n 14 h U λa h=>?_;exact j3 (Z,q') _ _ _ (by kernel_rfl) (h.sub (.d8 U U U U U U U U (.cons U .nil))) ⟨hC,⟨by simp only;omega,g8⟩,a1,BdO.low hQ (by omega)⟩;rintro⟨Z,q'⟩ a C9 ⟨hC,⟨k2,g8⟩,a1,hQ⟩ h;simp only at k2 g8 a1 hQ;have i2:=hC;have H7:=i2.size;replace J:=J.ext i2;replace I:=I.ext i2;replace O:=O.ext i2;replace D:=D.ext i2;replace M:=M.ext i2;replace a4:=a4.ext i2;replace a0:=a0.ext i2;refine z0d 16 U ?_;refine z0u h U a1 U x6k ?_ (h1:=(by first|(simp[Value.oneCell',S];done)|exact z2v.one (m.ys.getD j yq0)));clear h a;intro x1 i4 f5 hz a h;have H8:=f5.size;replace J:=J.fr f5;replace I:=I.fr f5;replace O:=O.fr f5;replace D:=D.fr f5;replace M:=M.fr f5 (by intro k J a2;simp at J;subst J;have a9:=M.blk _ a2;have k3:=f8 _ a2;omega);replace a4:=a4.fr f5;replace a0:=a0.fr f5;first|replace hQ:=BdO.ext hQ f5|replace hQ:=BdO.tf hQ f5 (OffT.one a1 (by decide)) (OffT.one a1 (by decide))
 replace hC:=hC.sp f5;clear a1 hz;have a1:Blk x1 Z _ [_,_]:=i4;clear i4;refine z0b ?_;refine z0d 17 U ?_;refine z0s h U λa h=>?_;refine z0b ?_;refine z0r ?_;clear hC c9 b7 o6 b1 h6 m0 g0 j7 d6;refine bk (h.sub (L':=[(0,_),(5,_),(9,_),(11,_),(13,_),(14,_)]) (.c6 U U U U U U)) ?_;exact jE (Z) (.c6 U U U U U U) ⟨(g3.z2 i2 f5),⟨q',⟨by omega,g8⟩,a1,BdO.low hQ (by omega)⟩⟩;rintro s7 D0 ⟨i9,⟨q',⟨k2,g8⟩,a1,hQ⟩⟩;have H9:=i9.size;have r9:=a1.lt;refine kpC [(0,_),(5,_),(9,_),(13,_),(14,.pointer (some ⟨s7,0,none⟩)),(11,.int .i64 0)] (.c6 U U U U U U) ?_;have s8:=x3i hQ h5.f (by omega);refine sq (sr (mv U (ne' U (nn (cd U (λc2=>?_) (λc2=>?_))))));exact absurd U c2;refine sk (tn (sr (mv U (z0k U a1 z5x (nlc U (fad U z3f ?_))))));replace hM:=h5.ext ((q1.z6 h0 e5 f2 f3 e6 e7).n1 i9);replace J:=((((J.ext (e5.n1 f2)).fr f3).ext e6).fr e7).ext i9;refine z5r (cs':=u5m ka { m with q:=q' }) U U hM.k (by intro u hu;simp at hu;rcases hu with rfl|rfl<;>rfl) x6k U (λD1 p9 k5 I0=>?_);replace hM:=hM.beds mtd (hQ.low (by omega)) p9 k5 s8;have J:=hM.k;have h5:=hM;have p4:=hM;have hF:Lw.Own z1k 87 wS.heap.size _ (slv m.fa) m.fl:=hM.f;clear p9;refine kpL [(0,_),(5,_),(9,_),(13,_)] (.c4 U U U U) (nn (sq ?_));replace I:=(((I.ext e6).fr e7).ext i9).fr k5;replace O:=(((((O.ext (e5.n1 f2)).fr f3).ext e6).fr e7).ext i9).fr k5;replace M:=(((((M.ext (e5.n1 f2)).fr f3 (by intro k J a2;simp at J;subst J;have a9:=M.blk _ a2;have k3:=f8 _ a2;omega)).ext e6).fr e7 (by intro k J a2;simp at J;subst J;have a9:=M.blk _ a2;have k3:=f8 _ a2;omega)).ext i9).fr k5 (by intro k J a2;simp at J;subst J;have a9:=M.blk _ a2;have k3:=f8 _ a2;omega);replace a0:=(a0.ext i9).fr k5;intro a h;refine z0j (some 9) (λwb w'=>Fr [] wb w') z2s ?_;intro s2 j0;have I1:=j0.size;replace hM:=hM.ext j0;replace J:=J.ext j0;replace I:=I.ext j0;replace O:=O.ext j0;replace M:=M.ext j0;replace a0:=a0.ext j0;have hC:Fr [] s2 s2:=Fr.refl _ _;have c9:=hM;have b7:=J;have b1:=I;have h6:=O;have g0:=M;have d6:=a0;refine z0e 0 h U λa h=>z0o 1 h U λa h=>z0c 2 h U z3d U λa h=>z0l 3 h U (λ_ hw=>b7.ext hw) U y0q U λa h=>z0c 4 h U z2z U λa h=>z0l 5 h U (λ_ hw=>b1.ext hw) U na5 U λa h=>z3e 6 h wn U (by first|exact IntWalk.u8_in _ (by omega)|rfl) U λa h=>z0z 7 h U (λ_ hw=>h6.ext hw) z6u U λa h=>z1o 8 (by kernel_rfl) (by kernel_rfl) (by kernel_rfl) hC (p:=j) h wn U y0y (by omega) (by omega) (by omega) U U λa h=>z0d 9 U ?_;refine z1b (i:=j) ((⟨true,(m.ys.getD j yq0).pl,(m.ys.getD j yq0).ct+1,false,sv0,[]⟩:YQ):YQ) h U hM.y.out (by rw[hM.ly];exact hj) U z7k λx2 o2 j6 _hz a h=>?_;replace hM:=hM.yarn mtd hj o2 j6 (Own.nil _);have h5:=hM;clear o2;have I2:=j6.size;replace I:=I.fr j6;replace O:=O.fr j6;replace M:=M.fr j6 (by intro k J a2;simp at J;subst J;have a9:=M.blk _ a2;have k3:=f8 _ a2;omega);replace a0:=a0.fr j6;have J:=hM.k;clear _hz;refine z1n ?_;refine z0r ?_;clear hC c9 b7 b1 h6 g0 d6;replace g1:=(((((((g1.ext (q1.n3 h0 e5 f2)).fr f3 (by intro k J a2;simp at J;subst J;first|exact j9 a2|exact k0 a2|(have:=k1 _ a2;omega))).ext e6).fr e7 (by intro k J a2;simp at J;subst J;first|exact j9 a2|exact k0 a2|(have:=k1 _ a2;omega))).ext i9).fr k5 (by intro k J a2;simp at J;subst J;first|exact j9 a2|exact k0 a2|(have:=k1 _ a2;omega))).ext j0).fr j6 (by intro k J a2;simp at J;subst J;first|exact j9 a2|exact k0 a2|(have:=k1 _ a2;omega));have d0:=hM.t.ins j (by rw[hM.lt];exact hj);have t8:=d0;have t9:∀k∈z0x (slv (m.ts.getD j tq0).1),k<x2.heap.size:=λk J=>(d0.blk k J).2;have y7:(m.ts.getD j tq0).2.length<=2048:=by have:=u4z m.ts j;omega
 refine bk (h.sub (L':=[(0,_),(5,_),(13,_)]) (.c3 U U U)) (tn (sq ?_));intro a h;refine z0j (some 20) (λwb w'=>Fr (z0x (slv (m.ts.getD j tq0).1)) wb w') z2s ?_;intro s3 j1;have I3:=j1.size;replace hM:=hM.ext j1;replace J:=J.ext j1;replace g1:=g1.ext j1;replace I:=I.ext j1;replace M:=M.ext j1;replace a0:=a0.ext j1;replace d0:=d0.ext j1;have hC:Fr (z0x (slv (m.ts.getD j tq0).1)) s3 s3:=Fr.refl _ _;have c9:=hM;have b7:=J;have o7:=g1;have b1:=I;have g0:=M;have d6:=a0;have d7:=d0;refine z0e 0 h U λa h=>z0o 1 h U λa h=>z0c 2 h U y2b U λa h=>z0l 3 h U (λ_ hw=>b7.fr hw (λk_=>Own.neB d7 b7 (by decide) k_)) U x3c U λa h=>z0c 4 h U z2z U λa h=>z0l 5 h U (λ_ hw=>b1.fr hw (λk_=>Own.neB d7 b1 (by decide) k_)) U na5 U λa h=>z3e 6 h wn U (by first|exact IntWalk.u8_in _ (by omega)|rfl) U λa h=>z0e 7 h U λa h=>z0o 8 h U λa h=>z0c 9 h U y2b U λa h=>z0l 10 h U (λ_ hw=>b7.fr hw (λk_=>Own.neB d7 b7 (by decide) k_)) U x3c U λa h=>?_;refine z0c 11 h U z2z U λa h=>z0l 12 h U (λ_ hw=>b1.fr hw (λk_=>Own.neB d7 b1 (by decide) k_)) U na5 U λa h=>z3e 13 h wn U (by first|exact IntWalk.u8_in _ (by omega)|rfl) U λa h=>z1h (p:=j) (tq0) 14 h U (show Sl z4d _ ka.TV m.ts from hM.t.out.sl) U y7d U λx4 p7 a h=>z3p 15 h U (λ_ hw=>p7 _ (z1y c9.t.out hw (z6v d7 (by decide))).sl) x4i U λa h=>z0z 16 h U (λ_ hw=>d6.fr hw (λk_=>by have:=r4 _ k_;omega)) x8z U λa h=>z0d 17 U ?_;refine z3g ([(⟨o.b,(m.ys.getD j yq0).nw,th,sn,ths,(m.ys.getD j yq0).pes⟩:LpQ)]) h (z0a U z0f) U x8h λj2 D2 hg o4 k6 hz a h=>?_;have b8.gk_100:ka.gk<j2:=by have:=J.lt;omega
 have q0:g5<j2:=by have:=I.lt;omega
 have p2:f1<j2:=by have:=a0.lt;omega
 have I4:=k6.size;replace hM:=hM.ext k6;replace g1:=g1.ext k6;replace M:=M.ext k6;replace d0:=d0.ext k6;replace hC:=hC.next k6;refine z0b ?_;refine z0d 18 U ?_;have m4:=d0;refine z7w h U U d0 o4.sl x8h U λy0 D3 d0 o1 m5 a h=>?_;have p4:=hM;have s9:LpO τd wS.heap.size _ (⟨o.b,(m.ys.getD j yq0).nw,th,sn,ths,(m.ys.getD j yq0).pes⟩:LpQ):=⟨g1,M.low (by omega)⟩;have u0:=z1y hM.t.out o1 (z6v m4 (by decide));have u1:=o1;obtain⟨AR,cR,rfl,_⟩:=d0.sl.form;have j0a:=d0;have I5:=o1.size;replace hC:=hC.step o1 (λk_ h_ _=>h_);refine z0b ?_;refine z0d 19 U ?_;refine x0r (p:=j) (E:=z4d) h U U y7d (by omega) (by omega) (by omega) U λa h=>?_;refine z0b ?_;refine z0d 20 U ?_;refine z1b (i:=j) (((AR,((m.ts.getD j tq0).2++[(⟨o.b,(m.ys.getD j yq0).nw,th,sn,ths,(m.ys.getD j yq0).pes⟩:LpQ)]).length,cR),((m.ts.getD j tq0).2++[(⟨o.b,(m.ys.getD j yq0).nw,th,sn,ths,(m.ys.getD j yq0).pes⟩:LpQ)])):TQ) h U u0 (by rw[hM.lt];exact hj) U j9w λD4 r7 hq _hz a h=>?_;replace hM:=p4.row mtd (u:=(AR,((m.ts.getD j tq0).2++[(⟨o.b,(m.ys.getD j yq0).nw,th,sn,ths,(m.ys.getD j yq0).pes⟩:LpQ)]).length,cR)) hj s9 r6 j0a u1 m5 r7 hq;clear hq _hz;refine z1n ?_;refine z0r ?_;clear hC c9 b7 o7 b1 g0 d6 d7;refine bk (h.sub (L':=[]) .nil) (tn (sr (asg U (nn (rt (r1 results114 U ?_))))));exact⟨_,rfl,MRet.ok (by unfold y3x;rw[l0,if_neg (λe=>e k9),if_neg (show ¬2048<=z5d m.p.tb by have:m.p.tb=z1v m.ts:=rfl;rw[this];omega)];exact congrArg Except.ok (j3l m j p8 g8).symm) hM⟩
end Go.Proofs.YtpgdchkdlgkmgaaGreatDoor
namespace Go.G08
open Go.Lw Go.G21
theorem z5m (c:Cx)(l:List Cx):crM (c::l)=((c.a,c.b),.int .i64 c.n)::crM l:=rfl
theorem z8t {a b:LId}{c:Cx}:isC a b c=true↔c.a=a/\c.b=b:=by unfold isC;simp
theorem v8g (a b:LId):∀l:List Cx,(z2j (crM l) (a,b)).getD (.int .i64 0)=.int .i64 (z5o l a b)
 | []=>rfl
 | c::l=>by
  rw[z5m]
  unfold z2j z5o
  rw[List.find?_cons]
  by_cases h:c.a=a/\c.b=b
  ·rw[if_pos (by rw[<-h.1,<-h.2]),z8t.2 h];rfl
  have D:isC a b c=false:=by cases e:isC a b c;rfl;exact absurd (z8t.1 e) h
  rw[if_neg (λe=>h ⟨(Prod.mk.inj e).1.symm,(Prod.mk.inj e).2.symm⟩),D]
  exact v8g a b l
theorem v2o {a b:LId}{l:List Cx}(h:(a,b)∉(crM l).map (·.1)):∀c∈l,isC a b c=false:=λc J=>by
 cases e:isC a b c
 ·rfl
 obtain⟨D,I⟩:=z8t.1 e
 refine absurd ?_ h
 unfold crM
 rw[List.map_map]
 exact List.mem_map.2 ⟨c,J,by simp[D,I]⟩
theorem v6e (a b:LId)(n:Int):∀l:List Cx,((crM l).map (·.1)).Nodup->crM (y4h l a b n)=z4b (crM l) (a,b) (.int .i64 n)
 | [],_=>rfl
 | c::l,hn=>by
  rw[z5m,List.map_cons]at hn
  obtain⟨n1,n2⟩:=List.nodup_cons.1 hn
  have ih:=v6e a b n l n2
  by_cases h:c.a=a/\c.b=b
  ·obtain⟨D,I⟩:=h
   subst D;subst I
   have hl:l.map (λx=>if isC c.a c.b x then (⟨c.a,c.b,n⟩:Cx) else x)=l:=by
    have:=v2o (l:=l) n1
    conv=>rhs;rw[<-List.map_id l]
    refine List.map_congr_left λx hx=>?_
    rw[this x hx];rfl
   have J:isC c.a c.b c=true:=z8t.2 ⟨rfl,rfl⟩
   have O:y4h (c::l) c.a c.b n=⟨c.a,c.b,n⟩::l:=by
    unfold y4h
    rw[List.any_cons,J,Bool.true_or,if_pos U,List.map_cons,J,if_pos U,hl]
   have M:z4b (((c.a,c.b),Value.int .i64 c.n)::crM l) (c.a,c.b) (.int .i64 n)=((c.a,c.b),.int .i64 n)::crM l:=by
    unfold z4b;simp[List.findIdx?_cons]
   rw[O,z5m,z5m,M]
  have D:isC a b c=false:=by cases e:isC a b c;rfl;exact absurd (z8t.1 e) h
  have I:¬((a,b):LId×LId)=(c.a,c.b):=λe=>h ⟨(Prod.mk.inj e).1.symm,(Prod.mk.inj e).2.symm⟩
  have Z:y4h (c::l) a b n=c::y4h l a b n:=by
   unfold y4h
   rw[List.any_cons,D,Bool.false_or]
   split
   ·rw[List.map_cons,D];rfl
   rfl
  rw[Z,z5m,ih]
  unfold z4b
  rw[z5m,List.map_cons,List.findIdx?_cons,if_neg (by simpa using I)]
  cases hf:((crM l).map (·.1)).findIdx? (λx=>decide ((a,b)=x)) with
  | none=>rfl
  | some i=>rfl
theorem v6x (a b:LId):∀l:List Cx,((crM l).map (·.1)).Nodup->crM (x6i l a b)=z5h (crM l) (a,b)
 | [],_=>rfl
 | c::l,hn=>by
  rw[z5m,List.map_cons]at hn
  obtain⟨n1,n2⟩:=List.nodup_cons.1 hn
  have ih:=v6x a b l n2
  by_cases h:c.a=a/\c.b=b
  ·obtain⟨D,I⟩:=h
   subst D;subst I
   have hl:l.filter (λx=>!isC c.a c.b x)=l:=List.filter_eq_self.2 λx hx=>by
    rw[v2o (l:=l) n1 x hx];rfl
   have Z:isC c.a c.b c=true:=z8t.2 ⟨rfl,rfl⟩
   have M:x6i (c::l) c.a c.b=l:=by
    unfold x6i
    rw[List.filter_cons,Z,hl];rfl
   have J:z5h (((c.a,c.b),Value.int .i64 c.n)::crM l) (c.a,c.b)=crM l:=by
    unfold z5h;simp[List.findIdx?_cons]
   rw[M,z5m,J]
  have D:isC a b c=false:=by cases e:isC a b c;rfl;exact absurd (z8t.1 e) h
  have I:¬((a,b):LId×LId)=(c.a,c.b):=λe=>h ⟨(Prod.mk.inj e).1.symm,(Prod.mk.inj e).2.symm⟩
  have O:x6i (c::l) a b=c::x6i l a b:=by
   unfold x6i
   rw[List.filter_cons,D];rfl
  rw[O,z5m,ih]
  unfold z5h
  rw[z5m,List.map_cons,List.findIdx?_cons,if_neg (by simpa using I)]
  cases hf:((crM l).map (·.1)).findIdx? (λx=>decide ((a,b)=x)) with
  | none=>rfl
  | some i=>rfl
section
variable {α κ:Type} [DecidableEq κ] {E:Enc α} {T base g:Nat} {w w':World} {v:Value} {ys:List α} {V:κ->Value} {em:List (κ×Value)}
theorem j3q (h:Lw.Own E T base w v ys)(M:MapL V w g em)(hf:Fr [g] w w'):Lw.Own E T base w' v ys:=h.fr hf λk D J=>by
 rw[List.mem_singleton]at D;subst D
 obtain⟨cs,I⟩:=y7b h _ J
 exact M.f.ne_blk I U
theorem j3k {k:Nat}{cs:List Value}(h:Blk w k T cs)(I:MapL V w g em)(hf:Fr [g] w w'):Blk w' k T cs:=h.fr hf λD=>by
 rw[List.mem_singleton]at D;subst D
 exact I.f.ne_blk h U
end
theorem FrM.un {τ:TyK}{Mt:Nat}{wS w w':World}{a:MA}(h:FrM τ Mt wS { a with wk:=w } w')(D:FrM τ Mt wS a w):FrM τ Mt wS a w':=⟨h.fr,D.kp.trans h.kp⟩
theorem MkM.gcne {τ:TyK}{Mt:Nat}{wS w:World}{a:MA}{m:MQ}(h:MkM τ Mt wS a w m){k T:Nat}{cs:List Value}(hb:Blk w k T cs):k≠a.gc:=λe=>by
 subst e;exact h.c.f.ne_blk hb U
theorem KpM.own {α:Type}{E:Enc α}{I:List Nat}{g T base:Nat}{w w':World}{v:Value}{ys:List α}(h:KpM I g w w')(D:Lw.Own E T base w v ys)(hg:∀k∈z0x v,k≠g)(Z:T∉I):Lw.Own E T base w' v ys:=by
 rcases D with D|⟨k,cap,cur,rfl,J,M,O⟩
 exact .inl D;have hb:Blk w k T cur.toList:=M;exact .inr ⟨k,cap,cur,rfl,J,h.blk hb (hg k (by simp[z0x])) Z,O⟩
theorem MkM.gcneO {τ:TyK}{Mt:Nat}{wS w:World}{a:MA}{m:MQ}{α:Type}{E:Enc α}{T base:Nat}{v:Value}{ys:List α}(h:MkM τ Mt wS a w m)(J:Lw.Own E T base w v ys):∀k∈z0x v,k≠a.gc:=λk I=>by
 obtain⟨cs,D⟩:=y7b J k I
 exact h.gcne D
theorem y7m {p:MSt}{d:Int}:∀ {l l':List Yn},l'.length=l.length->(∀j,j<l.length->z6t p d (l.getD j yn0)=.ok (l'.getD j yn0))->z3s p d l=.ok l'
 | [],[],_,_=>rfl
 | [],_::_,h,_=>by simp at h
 | _::_,[],h,_=>by simp at h
 | y::l,y'::l',hl,h=>by
  have D:=h 0 (by simp)
  simp only[List.getD_cons_zero]at D
  have I:=y7m (p:=p) (d:=d) (l:=l) (l':=l') (by simpa using hl) λj J=>by
   have:=h (j+1) (by simp;omega)
   simpa only[List.getD_cons_succ] using this
  unfold z3s
  rw[D,I]
theorem y8s {p:MSt}{d e:Int}:∀ {l:List Yn} {i:Nat},i<l.length->(∀j,j<i->∃I,z6t p d (l.getD j yn0)=.ok I)->z6t p d (l.getD i yn0)=.error e->z3s p d l=.error e
 | y::l,0,_,_,h=>by
  simp only[List.getD_cons_zero]at h
  unfold z3s;rw[h]
 | y::l,i+1,hi,hj,h=>by
  obtain⟨I,D⟩:=hj 0 (by omega)
  simp only[List.getD_cons_zero]at D
  have J:=y8s (p:=p) (d:=d) (e:=e) (l:=l) (i:=i) (by simpa using hi) (λj hl=>by
   have:=hj (j+1) (by omega)
   simpa only[List.getD_cons_succ] using this) (by simpa only[List.getD_cons_succ] using h)
  unfold z3s
  rw[D,J]
theorem y2t {c:Cx}:∀ {r l l':List Cx},z3l l r=.ok l'->z3l l (r++[c])=y4g l' c
 | [],l,l',h=>by
  cases h
  show z3l l [c]=y4g l c
  unfold z3l
  cases y4g l c<;>rfl
 | x::r,l,l',h=>by
  rw[List.cons_append]
  unfold z3l at h ⊢
  cases e:y4g l x with
  | error e'=>rw[e]at h;cases h
  | ok l1=>rw[e]at h;simp only at h ⊢;exact y2t h
theorem x3g {e:Int}:∀ {r l:List Cx} (s:List Cx),z3l l r=.error e->z3l l (r++s)=.error e
 | [],l,s,h=>by cases h
 | x::r,l,s,h=>by
  rw[List.cons_append]
  unfold z3l at h ⊢
  cases e1:y4g l x with
  | error e'=>rw[e1]at h;exact h
  | ok l1=>rw[e1]at h;simp only at h ⊢;exact x3g s h
theorem j8n {B:Bd}{r d:Int}:∀c∈z3m B r d,-1<=c.n/\c.n<=1:=by
 have I:∀i,∀c∈x4x B r d i,-1<=c.n/\c.n<=1:=λi c D=>by
  obtain⟨k,_,J⟩:=List.mem_flatMap.1 D;obtain⟨x,_,M⟩:=List.mem_flatMap.1 J;obtain⟨o,_,rfl⟩:=List.mem_map.1 M;unfold x7k;split<;>(simp only;omega)
 intro c D;unfold z3m at D;split at D;exact I _ c (List.mem_reverse.1 D);exact I _ c D
theorem j6p {D:Int}(h:x1v D):¬Int.tmod D 2=0/\-9223372036854775808<=D/\D<=9223372036854775807:=by
 unfold x1v at h;omega
def y4b (p:MSt)(d:Int):MR:=match z3s p d p.ys with
  | .error e=>.error e
  | .ok ys=>match z3l p.cr (z3m p.B p.rk d) with
    | .error e=>.error e
    | .ok cr=>.ok { p with ys:=ys,cr:=cr }
def u8j (p:MSt)(c:Cx):MR:=match y4g p.cr c with
  | .error e=>.error e
  | .ok l=>.ok { p with cr:=l }
abbrev z4g (c:Cx):LId×LId:=if 0<z6k c.a c.b then (c.b,c.a) else (c.a,c.b)
section
variable {τ:TyK} {Mt:Nat} {wS w w':World} {a:MA} {m:MQ} {l:List Cx}
theorem MkM.cross (h:MkM τ Mt wS a w m)(Z:MapL crK w' a.gc (crM l))(hf:Fr [a.gc] w w'):MkM τ Mt wS a w' { m with cr:=l }:=by
 have o:∀ {α:Type} {E:Enc α} {T b:Nat} {v:Value} {ys:List α},Lw.Own E T b w v ys->Lw.Own E T b w' v ys:=λO=>j3q O h.c hf;refine⟨j3k h.k h.c hf,⟨⟨o h.b.f.1,λp J=>o (h.b.f.2 p J)⟩,⟨o h.b.b.1,λp J=>o (h.b.b.2 p J)⟩⟩,⟨o h.y.out,λi D=>o (h.y.ins i D)⟩,⟨o h.t.out,λi D=>o (h.t.ins i D),h.t.off,λi D q M=>⟨o (h.t.lps i D q M).1,o (h.t.lps i D q M).2⟩⟩,Z,o h.f,h.fb,h.ft,h.ly,h.lt,h.gk,h.gc,h.fr.step hf (λk I=>.inl (List.mem_singleton.1 I)) λk I a0=>?_⟩;rw[List.mem_singleton]at I;have:=h.gc;omega
end
theorem x7q {a b:LId}{l:List Cx}(h:∀c∈l,-1048576<=c.n/\c.n<=1048576):-1048576<=z5o l a b/\z5o l a b<=1048576:=by
 unfold z5o;cases e:l.find? (isC a b) with
 | none=>simp
 | some c=>exact h c (List.mem_of_find?_eq_some e)
theorem y2o (l:List Cx)(c:Cx):y4g l c=if z5o l (z4g c).1 (z4g c).2+c.n < -1048576\/1048576<z5o l (z4g c).1 (z4g c).2+c.n then .error 3 else if z5o l (z4g c).1 (z4g c).2+c.n=0 then .ok (x6i l (z4g c).1 (z4g c).2) else .ok (y4h l (z4g c).1 (z4g c).2 (z5o l (z4g c).1 (z4g c).2+c.n)):=rfl
theorem x5k (p:MSt)(c:Cx):u8j p c=if z5o p.cr (z4g c).1 (z4g c).2+c.n < -1048576\/1048576<z5o p.cr (z4g c).1 (z4g c).2+c.n then .error 3 else if z5o p.cr (z4g c).1 (z4g c).2+c.n=0 then .ok { p with cr:=x6i p.cr (z4g c).1 (z4g c).2 } else .ok { p with cr:=y4h p.cr (z4g c).1 (z4g c).2 (z5o p.cr (z4g c).1 (z4g c).2+c.n) }:=by
 unfold u8j;rw[y2o];generalize z5o p.cr (z4g c).1 (z4g c).2+c.n=n;by_cases h1:n < -1048576\/1048576<n;rw[if_pos h1,if_pos h1];rw[if_neg h1,if_neg h1];by_cases h2:n=0;rw[if_pos h2,if_pos h2];rw[if_neg h2,if_neg h2]
end Go.G08
namespace Go.Proofs.YtpgdchkdlgkmgaaGreatDoor
open Go.Lw Go.G21 Go.G08 _root_.Go.Proofs.Tryz
set_option maxHeartbeats 1000000 in
theorem u9b (wS:World)(ka:MA)(m:MQ)(o:MOp)(w0:World)(hM:MkM τd 137 wS ka w0 m)(hi:MInv m.p)(hy:1<=o.y/\o.y<=6)(hn:z3z o.b o.p=0):Rets prog 67 #[.pointer (some ⟨ka.gk,0,none⟩),opV o] w0 λr w'=>MRet τd 137 wS ka (y2r m.p o) r w':=by
 have b9:=hM.fr.size;have b1:=hM.gk;have b3:=hM.k.lt;refine we [(0,.pointer (some ⟨ka.gk,0,none⟩)),(1,opV o)] func67 U ntmps67 U (.c2 U U) ?_;have M:=hM;refine sr (bx U (λg3 w1 b7 D q1 z1=>(asg U (nn (sr (mv U (z0k U D y2a ?_)))))));replace hM:=M.ext q1;refine cl (ev2 U) (mkC func112) (x5f wS ka m o _ hM hi hy hn) U ?_;rintro _ w2 ⟨rfl,q2⟩;have z2:=q2.size;refine mv U (xt U (xt U (xt U (asg U (asg U (asg U (kpL [(0,_),(3,_),(5,_),(6,_),(7,_)] (.c5 U U U U U) (nn (sq (sr (mv U (ne' U (nn (cd U (λc0=>?_) (λc0=>?_)))))))))))))));refine sr (mv U (asg U (kpL [(4,_)] (.cons U .nil) (nn (rt (tr (r1 results67 U ?_)))))));replace hM:=M.ext (q1.n1 q2);exact⟨_,rfl,MRet.err (by unfold y2r;rw[if_pos c0]) c0 hM.fr⟩;have J:z6a m.p o=0:=Classical.not_not.1 c0;refine sk (tn (sq (sr (mv U (fad U z2z ?_)))));replace D:=D.ext q2;refine z0g U D U na5 (mv U (mv U ?_));replace hM:=M.ext (q1.n1 q2);have a3:=hM.fr;refine cl (z0a U (z0a U (z0a U (z0a U z0f)))) (mkC func113) (x5v wS { ka with wk:=w2 } m o.y (if z6a m.p o=0 then z9b m.p o else 0) (if z6a m.p o=0 then (z2r o.b o.p m.rk) else 0) _ hM.mark hi hy) U ?_;intro _ w3 hR;obtain⟨rfl,a1,m1,a9⟩:=hR.split;have z3:=a1.kp.size;simp only at z3;replace D:=a1.kp.blk D (by have:=hM.gcne D;exact this) (by decide);refine asg U (kpL [(0,_),(3,_),(8,_)] (.c3 U U U) (nn (sr (mv U (ne' U (nn (cd U (λc1=>?_) (λc1=>?_))))))));refine sr (mv U (asg U (nn (rt (tr (r1 results67 U ?_))))));exact⟨_,rfl,MRet.err (by have hx:=z6i c1;unfold y2r;rw[if_neg c0];rw[if_pos J,if_pos J]at hx;rw[hx,if_pos J,if_pos J]) c1 (a1.un a3)⟩;obtain⟨a8,a2⟩:=a9 (Classical.not_not.1 c1);rw[if_pos J,if_pos J]at a2;obtain⟨a4,b6,b8⟩:=y2w hi hy a2;obtain⟨⟨hf,hb⟩,h4,a7⟩:=z3k a4.B;replace hM:=a8.unmark a3;have M:=hM;have hk:=hM.k;have b2:=hk.lt;refine sk (tn (sq ?_));intro a h;refine z0j (some 9) (λwb w'=>Fr [] wb w') z2s ?_;intro w4 q4;have z4:=q4.size;replace D:=D.ext q4;replace hM:=hM.ext q4;replace hk:=hk.ext q4;have hC:Fr [] w4 w4:=Fr.refl _ _;have I:=D;have Z:=hM;have a0:=hk;refine z0e 0 h U λa h=>z0z 1 h U (λ_ hw=>I.ext hw) y2a U λa h=>z0e 2 h U λa h=>z0o 3 h U λa h=>z0c 4 h U z3f U λa h=>z1e (vs:=[_,_]) 5 h U (λ_ hw=>(a0.ext hw)) z5x U U λa h=>z0c 6 h U z4q U λa h=>z1e (vs:=[_,_]) 7 h U (λ_ hw=>(I.ext hw)) z5b U U λa h=>z0d 8 U ?_;refine z0m h (z0a U (z0a U z0f)) u2q (y9k m1.q o.b o.p _ hM.b.at (by have:=z2y hn;omega) hf hb h4 a7) ?_;rintro c9 w5 ⟨O,hq⟩ a h;have z5:=hq.size;replace D:=D.ext hq;replace hM:=hM.ext hq;replace hk:=hk.ext hq;replace hC:=hC.next hq;have q5:=hq;rw[y7n hn]at O;obtain⟨a5,a6,rfl,b0⟩:=O.sl.form;refine z0b ?_;refine z0d 9 U ?_;refine z0m h (z0a U (z0a U (z0a U (z0a U z0f)))) (mkC func114) (v7q wS ka m1 o (a5,(m1.q.p.at o.b o.p).length,a6) (m1.q.p.at o.b o.p) (.slice none 0 0) [] _ hM a4 hy hn (O.low (by omega)) (λk hk hb=>by have b4:=(O.blk k hk).1;have b5:=(Z.f.blk k hb).2;omega) (Sl.nil _) (.inl U)) ?_;rintro d0 w6 hR a h;refine z1n ?_;refine z0d 10 U ?_;refine z0s h U λa h=>?_;refine z1n ?_;refine z0r ?_;clear hC I Z a0;refine bk (h.sub (L':=[(4,_)]) (.cons U .nil)) (tn (rt (r1 results67 U ?_)));exact⟨_,rfl,by rw[show y2r m.p o=_ from by unfold y2r;rw[if_neg c0,a2]];exact hR⟩
end Go.Proofs.YtpgdchkdlgkmgaaGreatDoor
