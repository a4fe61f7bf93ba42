/- Texts of the proof, joined. -/
import Derived.Test.YtpgdchkdlgkmgaaGreatDoorRows
import Derived.Maps.RangeRun
import Derived.Test.YtpgdchkdlgkmgaaGreatDoorV3
set_option linter.unusedVariables false
set_option linter.unusedSimpArgs false
namespace Go.Proofs.YtpgdchkdlgkmgaaGreatDoor
open Go.Lw Go.G21 Go.G08 _root_.Go.Proofs.Tryz
theorem j3q:BuildAt prog 183 [(0,2),(2,2),(4,1)] [(.int .u8 0),(.int .i64 0),(.int .u8 0),(.int .i64 0),(.int .i64 0)]:=BuildAt.struct underlying183 (λ_=>by kernel_rfl) (λ_=>by kernel_rfl)
theorem x2d:CallOf prog 116:=mkC func116
theorem u7w:z2b prog 179:=λ_=>by kernel_rfl
theorem u9g:z1q prog 179 1:=λ_=>by kernel_rfl
set_option maxHeartbeats 2000000 in
theorem v4m (gr gk base:Nat) (b r:Int) (v u:Value) (l:List IQ) (acc:List Hd) (wS w0:World) (hF:Fr [] wS w0) (hs:Sl z6r wS v l) (hk:IqAt wS l) (hbk:Blk wS gk 3 [.int .i64 r]) (hgr:wS.heap.size<=gr) (hbs:wS.heap.size<=base) (hbw:base<=w0.heap.size) (hbr:Blk w0 gr 179 [u]) (ho:Lw.Own z3j 183 base w0 u acc) (hb:b=0\/b=1) (hl:l.length<=40) (h4:z9q l) (ha:acc.length<=1000) (hu:IsB u):Rets prog 141 #[.int .u8 b,v,.pointer (some ⟨gr,0,none⟩),.pointer (some ⟨gk,0,none⟩)] w0 λr' w'=>r'=.tuple #[]/\(∃u',Blk w' gr 179 [u']/\Lw.Own z3j 183 base w' u' (acc++hds b r (plB l) l.length)/\IsB u')/\w0.heap.size<=w'.heap.size/\Fr [] wS w':=by
 obtain ⟨A,c,rfl,hcc,hM,hA⟩:=id hs
 clear hA
 unfold maxLen at hM
 have hzF:=hF.size
 have hgrl:=hbr.lt
 refine we [(0,.int .u8 b),(1,.slice A l.length c),(2,.pointer (some ⟨gr,0,none⟩)),(3,.pointer (some ⟨gk,0,none⟩))] func141 rfl ntmps141 rfl (.c4 rfl rfl rfl rfl) ?_
 have hs0:=hs
 have hk0:=hk
 have hbk0:=hbk
 refine sr (mv rfl (lnS rfl underlying30 (mv rfl (nn (bl ?_)))))
 refine lpK (ι:=Nat×Value) [(0,_),(2,_),(3,_),(11,_),(12,_)] (λp=>[(13,.int .i64 (p.1:Int))]) (λp w'=>Fr [] wS w'/\(p.1<=l.length/\w0.heap.size<=w'.heap.size/\IsB p.2)/\Blk w' gr 179 [p.2]/\Lw.Own z3j 183 base w' p.2 (acc++hds b r (plB l) p.1)) (λp=>l.length-p.1) (0,u) (.c6 rfl rfl rfl rfl rfl rfl) ⟨hF,⟨⟨Nat.zero_le _,by omega,hu⟩,hbr,by simpa [hds] using ho⟩⟩ ?_
 rintro ⟨i,uI⟩ w1 ⟨q1,⟨hi,hbr,ho⟩⟩
 simp only at hi hbr ho
 have z1:=q1.size
 have lt_hbr:=hbr.lt
 refine kpC [(0,_),(2,_),(3,_),(11,_),(12,_),(13,.int .i64 (i:Int))] (.c6 rfl rfl rfl rfl rfl rfl) ?_
 have hdl:=x3v b r l h4 i
 have hs4:=z3h h4 i
 have hsl:=z1s (z1z hk0 i)
 have hbkl:=hbk0.lt
 refine sr (lt' rfl rfl (nn (sq (cd rfl (λc0=>?_) (λc0=>?_)))))
 ·refine sk (tn (sq (bl (sr (mv rfl ?_)))))
  replace hs:=hs0.ext q1
  refine z1a (iq0) rfl hs rfl y5b z1f (λad16 hc16=>?_)
  refine z1i rfl (hc16 _ hs) z6t (asg rfl (asg rfl (nn (sr (mv rfl (mv rfl (z0y rfl rfl (wi6 (by omega)) (z1r (cs:=[_,_]) (ev2 rfl rfl) y9u (z0f rfl rfl rfl (z0f rfl rfl rfl z0s)) rfl ?_))))))))
  refine al v6o rfl rfl (λg8 w2 hg8 hb8 q2 z2=>?_)
  refine z0j (vs:=[_,_]) rfl rfl hb8 y9k (λw3 hb8 q3 z3=>?_) (h1:=(by first|(simp [Value.oneCell',S];done)|exact z1h.one _))
  refine nn (sr (mv rfl (lnS rfl underlying37 (mv rfl (nn (bl ?_))))))
  replace hbr:=(hbr.ext q2).fr q3
  replace ho:=(ho.ext q2).fr q3 (by first|(intro k hk hb;rw [List.mem_singleton.1 hk] at hb;first|exact ho.neB hbr (by decide) hb|(have:=(ho.blk _ hb).2;omega))|(simp;done))
  refine lpK (ι:=Nat×Value) [(0,_),(2,_),(3,_),(8,_),(11,_),(12,_),(13,_),(22,_),(23,_)] (λp=>[(24,.int .i64 (p.1:Int))]) (λp w'=>Fr [] wS w'/\(p.1<=(l.getD i iq0).2.length/\w0.heap.size<=w'.heap.size/\Blk w' g8 24 [.int .u8 b,.int .i64 ((i:Int)+1)]/\IsB p.2)/\Blk w' gr 179 [p.2]/\Lw.Own z3j 183 base w' p.2 ((acc++hds b r (plB l) i)++((l.getD i iq0).2.take p.1).map (hdS b r i))) (λp=>(l.getD i iq0).2.length-p.1) (0,uI) (.d8 rfl rfl rfl rfl rfl rfl rfl rfl (.c2 rfl rfl)) ⟨(q1.z2 q2 q3),⟨⟨Nat.zero_le _,by omega,hb8,hi.2.2⟩,hbr,by simpa using ho⟩⟩ ?_
  rintro ⟨j,uJ⟩ w4 ⟨q4,⟨⟨hj,hzj,hb8,huj⟩,hbr,ho⟩⟩
  simp only at hj hbr ho
  have z4:=q4.size
  have lt_hbr:=hbr.lt
  have lt_hb8:=hb8.lt
  refine kpC [(0,_),(2,_),(3,_),(8,_),(11,_),(12,_),(13,_),(22,_),(23,_),(24,.int .i64 (j:Int))] (.d8 rfl rfl rfl rfl rfl rfl rfl rfl (.c2 rfl rfl)) (sr (lt' rfl rfl (nn (sq (cd rfl (λc1=>?_) (λc1=>?_))))))
  ·refine sk (tn (sq (bl (sr ?_))))
   replace hk:=hk0.ext q4
   refine z1a (id0) rfl (z1z hk i) rfl z5v z1f (λad26 hc26=>?_)
   refine z1j rfl (hc26 _ (z1z hk i)) z3g (al y2s rfl rfl (λg10 w5 hg10 hb10 q5 z5=>?_))
   refine z0j (vs:=[_,_]) rfl rfl hb10 y1n (λw6 hb10 q6 z6=>?_) (h1:=(by first|(simp [Value.oneCell',S];done)|exact z1h.one _))
   refine nn ?_
   replace hs:=hs0.ext (q4.z2 q5 q6)
   replace hk:=hk0.ext (q4.z2 q5 q6)
   replace hbk:=hbk0.ext (q4.z2 q5 q6)
   replace hbr:=(hbr.ext q5).fr q6
   replace ho:=(ho.ext q5).fr q6 (by first|(intro k hk hb;rw [List.mem_singleton.1 hk] at hb;first|exact ho.neB hbr (by decide) hb|(have:=(ho.blk _ hb).2;omega))|(simp;done))
   replace hb8:=(hb8.ext q5).fr q6
   intro a h
   refine z0h (some 8) (λwb w'=>Fr (z0v uJ) wb w') z2r ?_;intro w7 q7
   have z7:=q7.size
   replace hs:=hs.ext q7
   replace hk:=hk.ext q7
   replace hbk:=hbk.ext q7
   replace hbr:=hbr.ext q7
   replace ho:=ho.ext q7
   replace hb8:=hb8.ext q7
   replace hb10:=hb10.ext q7
   have hC:Fr (z0v uJ) w7 w7:=Fr.refl _ _
   have hs_b:=hs
   have hk_b:=hk
   have hbk_b:=hbk
   have hbr_b:=hbr
   have ho_b:=ho
   have hb8_b:=hb8
   have hb10_b:=hb10
   refine y4x 0 hC h wn rfl (λ_ hw=>hbr_b.fr hw (λk_=>Own.neB ho_b hbr_b (by decide) k_)) u7w rfl rfl λa h=>z0t 1 h rfl (λ_ hw=>hb10_b.fr hw (λk_=>Own.neB ho_b hb10_b (by decide) k_)) z3g rfl λa h=>z0t 2 h rfl (λ_ hw=>hb8_b.fr hw (λk_=>Own.neB ho_b hb8_b (by decide) k_)) z4v rfl λa h=>z0t 3 h rfl (λ_ hw=>hb8_b.fr hw (λk_=>Own.neB ho_b hb8_b (by decide) k_)) z4v rfl λa h=>y4x 4 hC h wn rfl (λ_ hw=>hbk_b.fr hw (λk_=>by have:=(ho_b.blk _ k_).1;have:=hbkl;omega)) na3 rfl rfl λa h=>z0d 5 rfl ?_
   refine z0m h (z0a rfl (z0a rfl z0g)) x2d (z8s _ _ _ _ (by omega)) ?_;rintro _ w8 ⟨rfl,q8⟩ a h
   have z8:=q8.size
   replace hbr:=hbr.ext q8
   replace hb8:=hb8.ext q8
   replace hb10:=hb10.ext q8
   replace hC:=hC.next q8
   refine z0b ?_
   refine z2z (cs:=[_,_,_,_,_]) 6 h (z0a rfl (z0a rfl (z0a rfl z0g))) j3q (z0f rfl rfl rfl (z0f rfl rfl rfl (z0f rfl rfl rfl z0s))) rfl rfl λa h=>z0d 7 rfl ?_
   refine z2o ([(hdS b r i ((l.getD i iq0).2.getD j id0))]) h (z0a rfl z0g) rfl rfl rfl z3a λg_35 w9 hg ho35 q9 hz a h=>?_
   have hn__35:gr<g_35:=by have:=hbr.lt;omega
   have hn__35:g8<g_35:=by have:=hb8.lt;omega
   have hn_0_35:g10<g_35:=by have:=hb10.lt;omega
   have z9:=q9.size
   replace hk:=hk.ext (q8.n1 q9)
   replace hbr:=hbr.ext q9
   replace ho:=ho.ext (q8.n1 q9)
   replace hb8:=hb8.ext q9
   replace hC:=hC.next q9
   refine z0b ?_
   refine z0d 8 rfl ?_
   have hoo36:=ho
   refine z7b h rfl rfl ho ho35.sl z3a rfl ?_ (hM:=(by unfold maxLen;simp only [List.length_append,List.length_map,List.length_take,List.length_cons,List.length_nil];omega)) (hb:=(by simp only [List.length_append,List.length_map,List.length_take,List.length_cons,List.length_nil];omega));clear h a;intro v36 w10 ho q10 hor36 a h
   obtain ⟨A36,c36,rfl,hc36⟩:=ho.sl.form
   have z10:=q10.size
   replace hbr:=hbr.fr q10 (λhk=>hoo36.neB hbr (by decide) hk)
   replace hb8:=hb8.fr q10 (λhk=>hoo36.neB hb8 (by decide) hk)
   refine z1o ?_
   refine z0d 9 rfl ?_
   refine y5s h rfl rfl hbr rfl rfl u9g λw11 hbn q11 hz a h=>?_
   have z11:=q11.size
   replace hb8:=hb8.fr q11
   replace ho:=ho.fr q11 (by first|(intro k hk hb;rw [List.mem_singleton.1 hk] at hb;first|exact ho.neB hbr (by decide) hb|(have:=(ho.blk _ hb).2;omega))|(simp;done))
   clear hbr hz;have hbr:Blk w11 gr _ [_]:=hbn;clear hbn
   refine z1o ?_
   refine z0r ?_
   clear hC hs_b hk_b hbk_b hbr_b ho_b hb8_b hb10_b
   refine bk (h.sub (L':=[(0,_),(2,_),(3,_),(8,_),(11,_),(12,_),(13,_),(22,_),(23,_),(24,_)]) (.d8 rfl rfl rfl rfl rfl rfl rfl rfl (.c2 rfl rfl))) (bn' (tn (rg (z0y rfl rfl (wi6 (by omega)) (mv rfl (nl ?_))))))
   exact lpE ((j+1,_)) (.d8 rfl rfl rfl rfl rfl rfl rfl rfl (.c2 rfl rfl)) ⟨(((q4.z5 q5 q6 q7 q8 q9).step q10 (λk hk hlt=>absurd (hoo36.blk k hk).1 (by omega))).z1 q11),⟨⟨by simp only;omega,by omega,hb8,u5g ho (by simp)⟩,hbr,by rw [y2z (hdS b r i) id0 (by omega),<-List.append_assoc];exact ho⟩⟩ (by simp only;omega)
  obtain rfl:j=(l.getD i iq0).2.length:=by omega
  rw [List.take_length] at ho
  refine ex (te (te (xh (bn' (tn (rg (z0y rfl rfl (wi6 (by omega)) (mv rfl (kpL [(0,_),(2,_),(3,_),(11,_),(12,_),(13,_)] (.c6 rfl rfl rfl rfl rfl rfl) (nl ?_))))))))))
  exact lpE ((i+1,_)) (.c6 rfl rfl rfl rfl rfl rfl) ⟨q4,⟨⟨by simp only;omega,by omega,huj⟩,hbr,by rw [y7x,z3x,<-List.append_assoc];exact ho⟩⟩ (by simp only;omega)
 obtain rfl:i=l.length:=by omega
 refine ex (te (te (xh (r0n results141  ?_))))
 exact ⟨_,rfl,rfl,⟨_,hbr,ho,hi.2.2⟩,by omega,q1⟩
theorem j4i (w:World):(zeroValue 179).run prog w=.ok (.slice none 0 0) w:=by kernel_rfl
set_option maxHeartbeats 2000000 in
theorem v2k (q:BdQ) (r:Int) (w0:World) (hB:BdAt w0 q) (hv:BdOk q.p) (hr:-4<=r/\r<=4):Rets prog 102 #[.agg #[.slice q.f.1 q.f.2.1 q.f.2.2,.slice q.b.1 q.b.2.1 q.b.2.2],.int .i64 r] w0 λv w'=>(∃g,v=.tuple #[.slice (some ⟨g,0,none⟩) (z2n q.p r).length (z2n q.p r).length,.int .i64 0]/\w0.heap.size<=g/\Lw.Own z3j 183 w0.heap.size w' (.slice (some ⟨g,0,none⟩) (z2n q.p r).length (z2n q.p r).length) (z2n q.p r))/\Fr [] w0 w':=by
 obtain ⟨⟨hf,hb⟩,h4,h4b⟩:=z3m hv
 have hN:=y7f hv
 have hal:=y9q q.p r
 have hhl:(z2n q.p r).length=(v3j q.p r).length:=z3v _
 refine we [(0,.agg #[.slice q.f.1 q.f.2.1 q.f.2.2,.slice q.b.1 q.b.2.1 q.b.2.2]),(1,.int .i64 r)] func102 rfl ntmps102 rfl (.c2 rfl rfl) ?_
 have hB0:=hB
 refine sr (bx rfl rfl rfl (λg2 w1 hg2 hb2 q1 z1=>(bx rfl rfl rfl (λg3 w2 hg3 hb3 q2 z2=>(asg rfl (asg rfl (nn (sq (sr ?_)))))))))
 replace hb2:=hb2.ext q2
 refine z0n rfl hb2 z5k (z3w rfl hb3 na3 ?_)
 replace hB:=hB0.ext (q1.n1 q2)
 refine cl (ev2 rfl rfl) (mkC func140) (x0x q _ _ hB hv (by omega)) rfl ?_
 rintro _ w3 ⟨rfl,q3⟩
 have z3:=q3.size
 replace hb3:=hb3.ext q3
 replace hb2:=hb2.ext q3
 have hBK:BdAt w3 q:=hB0.ext (q1.n2 q2 q3)
 have hb3K:=hb3
 have hK3:=hb3K.lt
 have hb20:=hb2
 refine asg rfl (nn (sr (mv rfl (ne' rfl rfl (nn (cd rfl (λc0=>?_) (λc0=>?_)))))))
 ·exact absurd rfl c0
 refine sk (tn (sr (z0n rfl hb2 z5k ?_)))
 replace hB:=hB0.ext (q1.n2 q2 q3)
 refine cl (ev1 rfl) (mkC func95) (x0r q _ hB hf hb h4 h4b) rfl ?_
 rintro _ w4 ⟨rfl,q4⟩
 have z4:=q4.size
 refine z1e (m:=0) (c:=q.p.flat.length) (hd0) rfl rfl z3a v6n rfl (λg17 w5 hg17 ho q5 z5=>(al j4i rfl rfl (λg7 w6 hg7 hb7 q6 z6=>(z5u rfl rfl hb7 rfl u9g (λw7 hb7 q7 z7=>(nn (sr (z7l z0g (ev2 rfl rfl) rfl (asg rfl (nn (sr (mv rfl (fad rfl y6o ?_)))))))))))))
 replace hb2:=(hb2.ext (q4.n2 q5 q6)).fr q7
 refine z0i rfl hb2 rfl x5f ?_
 replace ho:=(ho.ext q6).fr q7 (by first|(intro k hk hb;rw [List.mem_singleton.1 hk] at hb;first|exact ho.neB hb7 (by decide) hb|(have:=(ho.blk _ hb).2;omega))|(simp;done))
 refine clv (us:=[]) (ws:=[.pointer (some ⟨g7,0,none⟩),.pointer (some ⟨g3,0,none⟩)]) rfl (ev2 rfl rfl) (mkC func141) (v4m g7 g3 g17 0 r _ _ q.fs [] w3 _ (q4.z3 q5 q6 q7) hBK.f hBK.fi hb3K (by omega) (by omega) (by omega) hb7 ho (by decide) (by omega) h4 (by first|(simp;done)|(have:=x3v 0 r q.fs h4 q.fs.length;simp;omega)) ⟨_,_,_,rfl⟩) rfl (by intro g e;cases e) ?_
 rintro _ w8 ⟨rfl,⟨u22,hb7,ho,hu22⟩,hz22,q8⟩
 have z8:=q8.size
 refine nn (sr (mv rfl (fad rfl y2k ?_)))
 replace hb2:=hb20.ext q8
 refine z0i rfl hb2 rfl x5f ?_
 refine clv (us:=[]) (ws:=[.pointer (some ⟨g7,0,none⟩),.pointer (some ⟨g3,0,none⟩)]) rfl (ev2 rfl rfl) (mkC func141) (v4m g7 g3 g17 1 r _ _ q.bs ([]++hds 0 r (plB q.fs) q.fs.length) w3 _ q8 hBK.b hBK.bi hb3K (by omega) (by omega) (by omega) hb7 ho (by decide) (by omega) h4b (by first|(simp;done)|(have:=x3v 0 r q.fs h4 q.fs.length;simp;omega)) hu22) rfl (by intro g e;cases e) ?_
 rintro _ w9 ⟨rfl,⟨u26,hb7,ho,hu26⟩,hz26,q9⟩
 have z9:=q9.size
 rw [List.nil_append,show hds 0 r (plB q.fs) q.fs.length++hds 1 r (plB q.bs) q.bs.length=v3j q.p r by unfold v3j;simp only [List.length_map]] at ho
 obtain ⟨g26,c26,rfl⟩:=v8o hu26 ho
 have h26:=(ho.blk g26 (by simp [z0v])).1
 have h726:g7∉[g26]:=λhk=>(ho.neB hb7 (by decide)) (by simpa [z0v] using hk)
 refine kpL [(7,_)] (.cons rfl .nil) (nn (sr (z3w rfl hb7 u7w (cl (ev2 rfl rfl) (mkC func142) (v9r g26 _ g17 (v3j q.p r) _ ho (by omega)) rfl ?_))))
 rintro _ w10 ⟨rfl,ho,q10⟩
 have z10:=q10.size
 refine nn (sr ?_)
 replace hb7:=hb7.fr q10 (by first|exact h726|(simp;omega))
 refine z3w rfl hb7 u7w ?_
 refine cl (ev1 rfl) (mkC func144) (x8b _ (z2n q.p r) _ (by unfold z2n;exact ho.sl) (by omega)) rfl ?_
 rintro _ w11 ⟨g30,rfl,hg30,hX,q11⟩
 have z11:=q11.size
 refine asg rfl (asg rfl (nn (rt (r2 results102 rfl rfl ?_))))
 exact ⟨_,rfl,⟨g30,rfl,by omega,hX.low (by omega)⟩,(q1.z5 q2 q3 q9 q10 q11)⟩
end Go.Proofs.YtpgdchkdlgkmgaaGreatDoor
namespace Go.G08
open Go.Lw Go.G21
def btL (fr to:Int):Int:=if fr<to then fr else to
def btH (fr to:Int):Int:=if fr<to then to else fr
def btD (fr to:Int):Int:=if fr<to then 1 else 0
def btA (l:List Hd) (fr to:Int) (k:Nat):List Pa:=((l.take k).filter λh=>decide (btL fr to<h.s/\h.s<btH fr to)).map λh=>⟨h.id,decide (h.b=1),btD fr to⟩
theorem j5a {l:List Hd} {fr to:Int} {k:Nat} (hk:k<l.length) (h:btL fr to<(l.getD k hd0).s/\(l.getD k hd0).s<btH fr to):btA l fr to (k+1)=btA l fr to k++[⟨(l.getD k hd0).id,decide ((l.getD k hd0).b=1),btD fr to⟩]:=by
 unfold btA
 rw [z5g hd0 hk,List.filter_append,List.map_append,List.filter_cons,if_pos (decide_eq_true h)];rfl
theorem j4e {l:List Hd} {fr to:Int} {k:Nat} (hk:k<l.length) (h:¬(btL fr to<(l.getD k hd0).s/\(l.getD k hd0).s<btH fr to)):btA l fr to (k+1)=btA l fr to k:=by
 unfold btA
 rw [z5g hd0 hk,List.filter_append,List.filter_cons,if_neg (by simpa using h)];simp
theorem x4u (l:List Hd) (fr to:Int) (k:Nat):(btA l fr to k).length<=l.length:=by
 unfold btA
 rw [List.length_map]
 refine Nat.le_trans (List.length_filter_le _ _) ?_
 rw [List.length_take];omega
theorem j2x {l:List Hd} {fr to:Int} (h:¬btD fr to=0):btw l fr to=btA l fr to l.length:=by
 unfold btD at h
 by_cases c:fr<to
 ·unfold btw btA btL btH btD
  rw [List.take_length]
  simp only [if_pos c]
 rw [if_neg c] at h;exact absurd rfl h
theorem u9v {l:List Hd} {fr to:Int} (h:btD fr to=0):btw l fr to=(btA l fr to l.length).reverse:=by
 unfold btD at h
 by_cases c:fr<to
 ·rw [if_pos c] at h;exact absurd h (by decide)
 unfold btw btA btL btH btD
 rw [List.take_length]
 simp only [if_neg c]
theorem x9z (l:List Hd) (fr to:Int):(btw l fr to).length<=l.length:=by
 by_cases h:btD fr to=0
 ·rw [u9v h,List.length_reverse];exact x4u l fr to _
 rw [j2x h];exact x4u l fr to _
end Go.G08
namespace Go.Proofs.YtpgdchkdlgkmgaaGreatDoor
open Go.Lw Go.G21 Go.G08 _root_.Go.Proofs.Tryz
theorem u6c:BuildAt prog 100 [(0,2),(2,1),(3,1)] [(.int .u8 0),(.int .i64 0),(.bool false),(.int .u8 0)]:=BuildAt.struct underlying100 (λ_=>by kernel_rfl) (λ_=>by kernel_rfl)
theorem v1l:z0z prog 183 0 0:=λ_ _=>by kernel_rfl
theorem u6e:z0z prog 183 1 2:=λ_ _=>by kernel_rfl
set_option maxHeartbeats 1000000 in
theorem u1q (v:Value) (l:List Hd) (fr to:Int) (w0:World) (hs:Sl z3j w0 v l) (hl:l.length<=1000):Rets prog 149 #[v,.int .i64 fr,.int .i64 to] w0 λr w'=>(∃g,r=.slice (some ⟨g,0,none⟩) (btw l fr to).length (btw l fr to).length/\w0.heap.size<=g/\Lw.Own z1t 100 w0.heap.size w' r (btw l fr to))/\Fr [] w0 w':=by
 obtain ⟨A,c,rfl,hcc,hM,hA⟩:=id hs
 clear hA
 unfold maxLen at hM
 refine we [(0,.slice A l.length c),(1,.int .i64 fr),(2,.int .i64 to)] func149 rfl ntmps149 rfl (.c3 rfl rfl rfl) ?_
 have hs0:=hs
 refine sr (asg rfl (nn (sr (mv rfl (mv rfl (asg rfl (asg rfl (asg rfl (nn ?_)))))))))
 refine jn (ι:=Unit) [(0,_)] (λ_j=>[(7,.int .i64 (btL fr to)),(8,.int .i64 (btH fr to)),(9,.int .u8 (btD fr to))]) (λ_j w'=>Fr [] w0 w') (.cons rfl .nil) ?_ ?_
 ·refine sr (mv rfl (mv rfl (gt' rfl rfl (nn (cd rfl (λc0=>?_) (λc0=>?_))))))
  ·refine rg (mv rfl (mv rfl (asg rfl (asg rfl (asg rfl (nl ?_))))))
   exact jE (()) (.c4 rfl (by first|(rw [show btL fr to=_ from if_pos c0];rfl)|(rw [show btL fr to=_ from if_neg c0];rfl)) (by first|(rw [show btH fr to=_ from if_pos c0];rfl)|(rw [show btH fr to=_ from if_neg c0];rfl)) (by first|(rw [show btD fr to=_ from if_pos c0];rfl)|(rw [show btD fr to=_ from if_neg c0];rfl))) (Fr.refl _ _)
  refine sk ?_
  exact jE (()) (.c4 rfl (by first|(rw [show btL fr to=_ from if_pos c0];rfl)|(rw [show btL fr to=_ from if_neg c0];rfl)) (by first|(rw [show btH fr to=_ from if_pos c0];rfl)|(rw [show btH fr to=_ from if_neg c0];rfl)) (by first|(rw [show btD fr to=_ from if_pos c0];rfl)|(rw [show btD fr to=_ from if_neg c0];rfl))) (Fr.refl _ _)
 rintro _j w1 q1
 have z1:=q1.size
 refine kpC [(0,_),(7,_),(8,_),(9,_)] (.c4 rfl rfl rfl rfl) (sr (asg rfl (nn (sq (sr (mv rfl (lnS rfl underlying179 (mv rfl (nn (bl ?_))))))))))
 refine lpK (ι:=Nat×Value) [(7,_),(8,_),(9,_),(20,_),(21,_)] (λp=>[(22,.int .i64 (p.1:Int)),(10,p.2)]) (λp w'=>Fr [] w0 w'/\p.1<=l.length/\Lw.Own z1t 100 w0.heap.size w' p.2 (btA l fr to p.1)) (λp=>l.length-p.1) (0,_) (.c7 rfl rfl rfl rfl rfl rfl rfl) ⟨q1,⟨Nat.zero_le _,Own.nil _⟩⟩ ?_
 rintro ⟨k,vP⟩ w2 ⟨q2,⟨hk,ho⟩⟩
 simp only at hk ho
 have z2:=q2.size
 refine kpC [(7,_),(8,_),(9,_),(20,_),(21,_),(22,.int .i64 (k:Int)),(10,vP)] (.c7 rfl rfl rfl rfl rfl rfl rfl) ?_
 have hbl:=x4u l fr to k
 refine sr (lt' rfl rfl (nn (sq (cd rfl (λc1=>?_) (λc1=>?_)))))
 ·refine sk (tn (sq (bl (sr ?_))))
  replace hs:=hs0.ext q2
  refine z1a (hd0) rfl hs rfl z3a z1f (λad24 hc24=>?_)
  refine z1j rfl (hc24 _ hs) z5e (al v6n rfl rfl (λg12 w3 hg12 hb12 q3 z3=>?_))
  refine z0j (vs:=[_,_,_,_,_]) rfl rfl hb12 z8d (λw4 hb12 q4 z4=>?_) (h1:=(by first|(simp [Value.oneCell',S];done)|exact z3j.one _))
  refine nn (sq ?_)
  refine rbo (r:=35) (L':=[(7,_),(8,_),(9,_),(10,_),(12,_),(20,_),(21,_),(22,_)]) ((((btL fr to)<(l.getD k hd0).s)/\((l.getD k hd0).s<(btH fr to)))) (.c8 rfl rfl rfl rfl rfl rfl rfl rfl) ?_ ?_
  ·refine fad rfl y8i (z0i rfl hb12 rfl na3 (mv rfl (gt' rfl rfl (mv rfl (gs 30 rfl (λg0=>?_) (λg0=>?_))))))
   ·exact gY rfl (fad rfl y8i (gY rfl (z0i rfl hb12 rfl na3 (gY rfl (mv rfl (gY rfl (lt' rfl rfl (pkt rfl rfl (rbe rfl (.c8 rfl rfl rfl rfl rfl rfl rfl rfl))))))))))
   exact gN rfl rfl (gN rfl rfl (gN rfl rfl (gN rfl rfl (pkf rfl rfl (rbe rfl (.c8 rfl rfl rfl rfl rfl rfl rfl rfl))))))
  refine tn (cd rfl (λc2=>?_) (λc2=>?_))
  ·refine rg (mv rfl (fad rfl v1l (z1y (vs:=[_,_]) rfl hb12 z3g rfl (fad rfl u6e (y2g rfl z6e (z0i rfl hb12 rfl x4n (eq' rfl rfl (mv rfl (z1r (cs:=[_,_,_,_]) (ev3 rfl rfl rfl) u6c (z0f rfl rfl rfl (z0f rfl rfl rfl (z0f rfl rfl rfl z0s))) rfl ?_)))))))))
   refine z2f ([(⟨(l.getD k hd0).id,decide ((l.getD k hd0).b=1),btD fr to⟩:Pa)]) (ev1 rfl) rfl rfl rfl z9c (λg45 w5 hg45 ho45 q5 z5=>?_)
   replace ho:=((ho.ext q3).fr q4 (by first|exact z9e ho (by omega)|simp[z0v]<;>omega)).ext q5
   have hoo46:=ho
   refine z1x rfl rfl ho ho45.sl z9c (by unfold maxLen;simp only [List.length_cons,List.length_nil];omega) (by simp only [List.length_cons,List.length_nil];omega) (λv46 w6 ho q6 hor46=>?_)
   have z6:=q6.size
   refine asg rfl (kpL [(7,_),(8,_),(9,_),(10,_),(20,_),(21,_),(22,_)] (.c7 rfl rfl rfl rfl rfl rfl rfl) (nl (bn' (tn (rg (z0y rfl rfl (wi6 (by omega)) (mv rfl (nl ?_))))))))
   exact lpE ((k+1,_)) (.c7 rfl rfl rfl rfl rfl rfl rfl) ⟨((q2.z3 q3 q4 q5).step q6 (λk hk hlt=>absurd (hoo46.blk k hk).1 (by omega))),⟨by simp only;omega,by rw [j5a (by omega) c2];exact ho⟩⟩ (by simp only;omega)
  refine sk (bn' (tn (rg (z0y rfl rfl (wi6 (by omega)) (mv rfl (nl ?_))))))
  replace ho:=(ho.ext q3).fr q4 (by first|exact z9e ho (by omega)|simp[z0v]<;>omega)
  exact lpE ((k+1,_)) (.c7 rfl rfl rfl rfl rfl rfl rfl) ⟨(q2.z2 q3 q4),⟨by simp only;omega,by rw [j4e (by omega) c2];exact ho⟩⟩ (by simp only;omega)
 obtain rfl:k=l.length:=by omega
 have hbw:=x9z l fr to
 refine ex (te (te (xh (tn ?_))))
 refine jn (ι:=Unit) [(10,_)] (λ_j=>[]) (λ_j w'=>Fr [] w0 w'/\Lw.Own z1t 100 w0.heap.size w' vP (btw l fr to)) (.cons rfl .nil) ?_ ?_
 ·refine sr (mv rfl (eq' rfl rfl (kpL [(10,_),(49,_)] (.c2 rfl rfl) (nn (cd rfl (λc3=>?_) (λc3=>?_))))))
  ·refine rg (mv rfl ?_)
   have hoB:=ho
   refine cl (ev1 rfl) (mkC func196) (x2m w0.heap.size _ _ _ ho (by omega)) rfl ?_
   rintro _ w7 ⟨ho,q7⟩
   have z7:=q7.size
   refine nl ?_
   exact jE (()) (.cons rfl .nil) ⟨(q2.step q7 (λk hk hlt=>absurd (hoB.blk k hk).1 (by omega))),(by rw [u9v c3];exact ho)⟩
  refine sk ?_
  exact jE (()) (.cons rfl .nil) ⟨q2,(by rw [j2x c3];exact ho)⟩
 rintro _j w8 ⟨q8,ho⟩
 have z8:=q8.size
 refine kpC [(10,_)] (.cons rfl .nil) (sr (mv rfl (cl (ev1 rfl) (mkC func197) (y3y _ (btw l fr to) _ ho.sl (by omega)) rfl ?_)))
 rintro _ w9 ⟨g53,rfl,hg53,hX,q9⟩
 have z9:=q9.size
 refine asg rfl (nn (rt (r1 results149 rfl ?_)))
 exact ⟨_,rfl,⟨g53,rfl,by omega,hX.low (by omega)⟩,(q8.n1 q9)⟩
end Go.Proofs.YtpgdchkdlgkmgaaGreatDoor
namespace Go.G08
open Go.Lw Go.G21
theorem Own.neO {α β:Type} {E:Enc α} {E':Enc β} {T T' b b':Nat} {w:World} {v v':Value} {ys:List α} {zs:List β} (h:Lw.Own E T b w v ys) (h':Lw.Own E' T' b' w v' zs) (hT:T≠T'):∀k∈z0v v,k∉z0v v':=by
 intro k hk
 rcases h with ⟨rfl,rfl⟩|⟨g,cap,cur,rfl,_,hg,_⟩
 ·cases hk
 obtain rfl:k=g:=by simpa [z0v] using hk
 exact h'.neB hg (Ne.symm hT)
theorem v3t (B:Bd) (r d:Int) (i:Nat):x8f B r d (i+1)=x8f B r d i++u1l B r d i:=by unfold x8f;rw [List.range_succ,List.flatMap_append];simp
theorem y6s (B:Bd) (r d p:Int) (i:Nat):y4z B r d p (i+1)=y4z B r d p i++x2n B r d p i:=by unfold y4z;rw [List.range_succ,List.flatMap_append];simp
theorem v1i {α β:Type} (f:α->List β) {l:List α} {j:Nat} (d:α) (h:j<l.length):(l.take (j+1)).flatMap f=(l.take j).flatMap f++f (l.getD j d):=by
 rw [z5g d h,List.flatMap_append];simp
theorem v1g {B:Bd} (h:BdOk B) (k:Nat):(B.b.getD k []).length<=4:=by
 have:=y4t h 1 ((k:Int)+1)
 unfold Bd.at atB at this
 rwa [if_neg (by decide),show ((k:Int)+1-1).toNat=k by omega] at this
theorem x4h {B:Bd} (h:BdOk B) (b n:Int):(B.atC b n).length<=4:=by
 unfold Bd.atC;split
 ·exact y4t h b n
 simp
theorem flat_len {α β:Type} (f:α->List β) (m:Nat) (hf:∀x,(f x).length<=m):∀l:List α,(l.flatMap f).length<=m*l.length
 | []=>by simp
 | x::l=>by have:=flat_len f m hf l;have:=hf x;rw [List.flatMap_cons,List.length_append,List.length_cons];rw [Nat.mul_succ];omega
theorem v9n {B:Bd} (h:BdOk B) (r d:Int) (k:Nat):(u1l B r d k).length<=16:=by
 unfold u1l
 have h1:=flat_len (λx=>(B.atC 0 (z9u r d k)).reverse.map (x4w d x)) 4 (λx=>by rw [List.length_map,List.length_reverse];exact x4h h _ _) (B.b.getD k [])
 have:=v1g h k
 omega
theorem x7f {B:Bd} (h:BdOk B) (r d:Int) (i:Nat):(x8f B r d i).length<=16*i:=by
 have:=flat_len (u1l B r d) 16 (v9n h r d) (List.range i)
 rw [List.length_range] at this;exact this
theorem v4j {B:Bd} (h:BdOk B) (r d p:Int) (k:Nat):(x2n B r d p k).length<=4:=by
 unfold x2n;split
 ·simp
 rw [List.length_map];exact v1g h k
theorem x1q {B:Bd} (h:BdOk B) (r d p:Int) (i:Nat):(y4z B r d p i).length<=4*i:=by
 have:=flat_len (x2n B r d p) 4 (v4j h r d p) (List.range i)
 rw [List.length_range] at this;exact this
theorem y9y {B:Bd} (h:BdOk B) (r d p:Int):(z6o B r d p).length<=4*B.b.length:=by
 have:=x1q h r d p B.b.length
 unfold z6o;split
 ·rw [List.length_reverse];exact this
 exact this
theorem y3q {B:Bd} (h:BdOk B) (r d:Int):(z4a B r d).length<=16*B.b.length:=by
 have:=x7f h r d B.b.length
 unfold z4a;split
 ·rw [List.length_reverse];exact this
 exact this
end Go.G08
namespace Go.Proofs.YtpgdchkdlgkmgaaGreatDoor
open Go.Lw Go.G21 Go.G08 _root_.Go.Proofs.Tryz
set_option maxHeartbeats 2000000 in
theorem v9x (q:BdQ) (r d pl:Int) (w0:World) (hB:BdAt w0 q) (hv:BdOk q.p) (hT:StT w0) (hr:-4<=r/\r<=4) (hd:d=0\/d=1) (hr2:-4<=r+stI d/\r+stI d<=4) (hp:¬Int.tmod pl 2=0) (hpr:-9223372036854775808<=pl/\pl<=9223372036854775807):Rets prog 145 #[.agg #[.slice q.f.1 q.f.2.1 q.f.2.2,.slice q.b.1 q.b.2.1 q.b.2.2],.int .i64 r,.int .u8 d,.int .i64 pl] w0 λv w'=>(∃g,v=.tuple #[.slice (some ⟨g,0,none⟩) (z6o q.p r d pl).length (z6o q.p r d pl).length,.int .i64 0]/\w0.heap.size<=g/\Lw.Own z1t 100 w0.heap.size w' (.slice (some ⟨g,0,none⟩) (z6o q.p r d pl).length (z6o q.p r d pl).length) (z6o q.p r d pl))/\Fr [] w0 w':=by
 obtain ⟨⟨hf,hb⟩,h4,h4b⟩:=z3m hv
 have hml:=y9y hv r d pl
 rw [List.length_map] at hml
 refine we [(0,.agg #[.slice q.f.1 q.f.2.1 q.f.2.2,.slice q.b.1 q.b.2.1 q.b.2.2]),(1,.int .i64 r),(2,.int .u8 d),(3,.int .i64 pl)] func145 rfl ntmps145 rfl (.c4 rfl rfl rfl rfl) ?_
 have hB0:=hB
 have hT0:=hT
 refine sr (bx rfl rfl rfl (λg4 w1 hg4 hb4 q1 z1=>(asg rfl (asg rfl (nn (sq (sr (z0n rfl hb4 z5k (mv rfl (mv rfl ?_))))))))))
 replace hB:=hB0.ext q1
 replace hT:=hT0.ext q1
 refine cl (ev3 rfl rfl rfl) (mkC func195) (x1c q _ _ _ hB hv hT (by omega) hd (by omega)) rfl ?_
 rintro _ w2 ⟨rfl,q2⟩
 have z2:=q2.size
 refine asg rfl (nn (sr (mv rfl (ne' rfl rfl (nn (cd rfl (λc0=>?_) (λc0=>?_)))))))
 ·exact absurd rfl c0
 refine sk (tn (sq (sr (mv rfl (x8w rfl rfl (by first|exact IntWalk.rem_in _ _ (by omega)|rfl) (eq' rfl rfl (nn ?_)))))))
 refine cd rfl (λc1=>?_) (λc1=>?_)
 ·exact absurd c1 hp
 refine sk (tn (sr (asg rfl (nn ?_))))
 refine jn (ι:=Unit) [(1,_),(2,_),(3,_),(4,_)] (λ_j=>[(11,.int .u8 (1-d))]) (λ_j w'=>Fr [] w2 w') (.c4 rfl rfl rfl rfl) ?_ ?_
 ·refine sr (mv rfl (eq' rfl rfl (nn (cd rfl (λc2=>?_) (λc2=>?_)))))
  ·refine rg (asg rfl (nl ?_))
   exact jE (()) (.c5 rfl rfl rfl rfl (congrArg (λz=>some (Value.int .u8 z)) (by omega))) (Fr.refl _ _)
  refine sk ?_
  exact jE (()) (.c5 rfl rfl rfl rfl (congrArg (λz=>some (Value.int .u8 z)) (by omega))) (Fr.refl _ _)
 rintro _j w3 q3
 have z3:=q3.size
 refine kpC [(1,_),(2,_),(3,_),(4,_),(11,_)] (.c5 rfl rfl rfl rfl rfl) (sr (asg rfl (nn (sq (sr (fad rfl y2k ?_))))))
 replace hb4:=hb4.ext (q2.n1 q3)
 refine z0i rfl hb4 rfl x5f (lnS rfl underlying30 (mv rfl (nn (bl ?_))))
 refine lpK (ι:=Nat×Value) [(1,_),(2,_),(3,_),(11,_),(31,_),(32,_)] (λp=>[(33,.int .i64 (p.1:Int)),(12,p.2)]) (λp w'=>Fr [] w0 w'/\p.1<=q.bs.length/\Lw.Own z1t 100 w0.heap.size w' p.2 (y4z q.p r d pl p.1)) (λp=>q.bs.length-p.1) (0,_) (.c8 rfl rfl rfl rfl rfl rfl rfl rfl) ⟨(q1.n2 q2 q3),⟨Nat.zero_le _,Own.nil _⟩⟩ ?_
 rintro ⟨i,uI⟩ w4 ⟨q4,⟨hi,ho⟩⟩
 simp only at hi ho
 have z4:=q4.size
 refine kpC [(1,_),(2,_),(3,_),(11,_),(31,_),(32,_),(33,.int .i64 (i:Int)),(12,uI)] (.c8 rfl rfl rfl rfl rfl rfl rfl rfl) ?_
 have hql:=z1s hB0.b
 have hbl:=x1q hv r d pl i
 have hs4:=z3h h4b i
 have hsl:=z1s (z1z hB0.bi i)
 have hsp:-300<=z2q 1 ((i:Int)+1) r/\z2q 1 ((i:Int)+1) r<=300:=by
  unfold z2q;split
  ·omega
  split<;>omega
 have hst:stI d = -1\/stI d=1:=by unfold stI;split<;>simp
 refine sr (lt' rfl rfl (nn (sq (cd rfl (λc3=>?_) (λc3=>?_)))))
 ·refine sk (tn (sq (bl (sr (mv rfl ?_)))))
  replace hB:=hB0.ext q4
  refine z1a (iq0) rfl hB.b rfl y5b z1f (λad36 hc36=>?_)
  refine z1i rfl (hc36 _ hB.b) z6t (asg rfl (asg rfl (nn (sr (mv rfl (z0y rfl rfl (wi6 (by omega)) (z1r (cs:=[_,_]) (ev2 rfl rfl) y9u (z0f rfl rfl rfl (z0f rfl rfl rfl z0s)) rfl ?_)))))))
  refine mv rfl (cl (ev2 rfl rfl) x2d (z8s _ _ _ _ (by omega)) rfl ?_)
  rintro _ w5 ⟨rfl,q5⟩
  have z5:=q5.size
  refine asg rfl (kpL [(1,_),(2,_),(3,_),(11,_),(12,_),(14,_),(15,_),(31,_),(32,_),(33,_)] (.d8 rfl rfl rfl rfl rfl rfl rfl rfl (.c2 rfl rfl)) (nn (sq (sq ?_))))
  refine rbo (r:=59) (L':=[(1,_),(2,_),(3,_),(11,_),(12,_),(14,_),(31,_),(32,_),(33,_)]) (((pl≠((z2q 1 ((i:Int)+1) r)+(stI d)))/\(pl≠((z2q 1 ((i:Int)+1) r)+(3*(stI d)))))) (.d8 rfl rfl rfl rfl rfl rfl rfl rfl (.cons rfl .nil)) ?_ ?_
  ·refine mv rfl (mv rfl (mv rfl (y2l rfl rfl underlying290 sz3 ?_)))
   replace hT:=hT0.ext (q4.n1 q5)
   refine z7s rfl hT.c (y4n hd) na3 (z0y rfl rfl (wi6 (by omega)) (ne' rfl rfl (mv rfl (gs 50 rfl (λg0=>?_) (λg0=>?_)))))
   ·refine gY rfl (mv rfl (gY rfl (mv rfl (gY rfl (mv rfl (gY rfl (y2l rfl rfl underlying290 sz3 (gY rfl (z7s rfl hT.c (y4n hd) na3 (gY rfl (x4g rfl rfl (wi6 (by omega)) rfl ?_)))))))))))
    exact gY rfl (z0y rfl rfl (wi6 (by omega)) (gY rfl (ne' rfl rfl (pkt rfl rfl (rbe rfl (.d8 rfl rfl rfl rfl rfl rfl rfl rfl (.cons rfl .nil)))))))
   exact gN rfl rfl (gN rfl rfl (gN rfl rfl (gN rfl rfl (gN rfl rfl (gN rfl rfl (gN rfl rfl (gN rfl rfl (pkf rfl rfl (rbe rfl (.d8 rfl rfl rfl rfl rfl rfl rfl rfl (.cons rfl .nil)))))))))))
  refine tn (cd rfl (λc4=>?_) (λc4=>?_))
  ·refine ex (te (xh (tn (rg (z0y rfl rfl (wi6 (by omega)) (mv rfl (nl ?_)))))))
   replace ho:=ho.ext q5
   exact lpE ((i+1,_)) (.c8 rfl rfl rfl rfl rfl rfl rfl rfl) ⟨(q4.n1 q5),⟨by simp only;omega,by rw [y6s,show x2n q.p r d pl i=[] from if_pos c4,List.append_nil];exact ho⟩⟩ (by simp only;omega)
  refine sk (tn (sr (mv rfl (lnS rfl underlying37 (mv rfl (nn (bl ?_)))))))
  replace ho:=ho.ext q5
  refine lpK (ι:=Nat×Value) [(1,_),(2,_),(3,_),(11,_),(31,_),(32,_),(33,_),(60,_),(61,_)] (λp=>[(62,.int .i64 (p.1:Int)),(12,p.2)]) (λp w'=>Fr [] w0 w'/\p.1<=(q.bs.getD i iq0).2.length/\Lw.Own z1t 100 w0.heap.size w' p.2 ((y4z q.p r d pl i)++((q.bs.getD i iq0).2.take p.1).map (λx=>(⟨x,true,1-d⟩:Pa)))) (λp=>(q.bs.getD i iq0).2.length-p.1) (0,uI) (.d8 rfl rfl rfl rfl rfl rfl rfl rfl (.c3 rfl rfl rfl)) ⟨(q4.n1 q5),⟨Nat.zero_le _,by simpa using ho⟩⟩ ?_
  rintro ⟨j,uJ⟩ w6 ⟨q6,⟨hj,ho⟩⟩
  simp only at hj ho
  have z6:=q6.size
  refine kpC [(1,_),(2,_),(3,_),(11,_),(31,_),(32,_),(33,_),(60,_),(61,_),(62,.int .i64 (j:Int)),(12,uJ)] (.d8 rfl rfl rfl rfl rfl rfl rfl rfl (.c3 rfl rfl rfl)) (sr (lt' rfl rfl (nn (sq (cd rfl (λc5=>?_) (λc5=>?_))))))
  ·refine sk (tn (sq (bl (sr ?_))))
   replace hB:=hB0.ext q6
   refine z1a (id0) rfl (z1z hB.bi i) rfl z5v z1f (λad64 hc64=>?_)
   refine z1j rfl (hc64 _ (z1z hB.bi i)) z3g (al y2s rfl rfl (λg17 w7 hg17 hb17 q7 z7=>?_))
   refine z0j (vs:=[_,_]) rfl rfl hb17 y1n (λw8 hb17 q8 z8=>?_) (h1:=(by first|(simp [Value.oneCell',S];done)|exact z1h.one _))
   refine nn (rg (mv rfl (z0n rfl hb17 z3g (mv rfl (z1r (cs:=[_,_,_,_]) (ev3 rfl rfl rfl) u6c (z0f rfl rfl rfl (z0f rfl rfl rfl (z0f rfl rfl rfl z0s))) rfl ?_)))))
   refine z2f ([(⟨((q.bs.getD i iq0).2.getD j id0),true,1-d⟩:Pa)]) (ev1 rfl) rfl rfl rfl z9c (λg70 w9 hg70 ho70 q9 z9=>?_)
   replace ho:=((ho.ext q7).fr q8 (by first|exact z9e ho (by omega)|simp[z0v]<;>omega)).ext q9
   have hoo71:=ho
   refine z1x rfl rfl ho ho70.sl z9c (by unfold maxLen;simp only [List.length_append,List.length_map,List.length_take,List.length_cons,List.length_nil];omega) (by simp only [List.length_append,List.length_map,List.length_take,List.length_cons,List.length_nil];omega) (λv71 w10 ho q10 hor71=>?_)
   have z10:=q10.size
   refine asg rfl (kpL [(1,_),(2,_),(3,_),(11,_),(12,_),(31,_),(32,_),(33,_),(60,_),(61,_),(62,_)] (.d8 rfl rfl rfl rfl rfl rfl rfl rfl (.c3 rfl rfl rfl)) (nl (bn' (tn (rg (z0y rfl rfl (wi6 (by omega)) (mv rfl (nl ?_))))))))
   exact lpE ((j+1,_)) (.d8 rfl rfl rfl rfl rfl rfl rfl rfl (.c3 rfl rfl rfl)) ⟨((q6.z3 q7 q8 q9).step q10 (λk hk hlt=>absurd (hoo71.blk k hk).1 (by omega))),⟨by simp only;omega,by rw [y2z (λx=>(⟨x,true,1-d⟩:Pa)) id0 (by omega),<-List.append_assoc];exact ho⟩⟩ (by simp only;omega)
  obtain rfl:j=(q.bs.getD i iq0).2.length:=by omega
  rw [List.take_length] at ho
  refine ex (te (te (xh (bn' (tn (rg (z0y rfl rfl (wi6 (by omega)) (mv rfl (nl ?_)))))))))
  exact lpE ((i+1,_)) (.c8 rfl rfl rfl rfl rfl rfl rfl rfl) ⟨q6,⟨by simp only;omega,by rw [y6s,show x2n q.p r d pl i=_ from if_neg c4,z3x];exact ho⟩⟩ (by simp only;omega)
 obtain rfl:i=q.bs.length:=by omega
 refine ex (te (te (xh (tn ?_))))
 refine jn (ι:=Unit) [(12,_)] (λ_j=>[]) (λ_j w'=>Fr [] w0 w'/\Lw.Own z1t 100 w0.heap.size w' uI (z6o q.p r d pl)) (.cons rfl .nil) ?_ ?_
 ·refine sr (mv rfl (eq' rfl rfl (kpL [(12,_),(75,_)] (.c2 rfl rfl) (nn (cd rfl (λc6=>?_) (λc6=>?_))))))
  ·refine rg (mv rfl ?_)
   have hoB:=ho
   refine cl (ev1 rfl) (mkC func196) (x2m w0.heap.size _ _ _ ho (by omega)) rfl ?_
   rintro _ w11 ⟨ho,q11⟩
   have z11:=q11.size
   refine nl ?_
   exact jE (()) (.cons rfl .nil) ⟨(q4.step q11 (λk hk hlt=>absurd (hoB.blk k hk).1 (by omega))),(by rw [show z6o q.p r d pl=_ from if_pos (by omega),List.length_map];exact ho)⟩
  refine sk ?_
  exact jE (()) (.cons rfl .nil) ⟨q4,(by rw [show z6o q.p r d pl=_ from if_neg (by omega),List.length_map];exact ho)⟩
 rintro _j w12 ⟨q12,ho⟩
 have z12:=q12.size
 refine kpC [(12,_)] (.cons rfl .nil) (sr (mv rfl (cl (ev1 rfl) (mkC func197) (y3y _ (z6o q.p r d pl) _ ho.sl (by omega)) rfl ?_)))
 rintro _ w13 ⟨g79,rfl,hg79,hX,q13⟩
 have z13:=q13.size
 refine asg rfl (asg rfl (nn (rt (r2 results145 rfl rfl ?_))))
 exact ⟨_,rfl,⟨g79,rfl,by omega,hX.low (by omega)⟩,(q12.n1 q13)⟩
theorem j2g:BuildAt prog 246 [(0,2),(2,2),(4,1)] [(.int .u8 0),(.int .i64 0),(.int .u8 0),(.int .i64 0),(.int .i64 0)]:=BuildAt.struct underlying246 (λ_=>by kernel_rfl) (λ_=>by kernel_rfl)
set_option maxHeartbeats 4000000 in
theorem u7n (q:BdQ) (r d:Int) (w0:World) (hB:BdAt w0 q) (hv:BdOk q.p) (hT:StT w0) (hr:-4<=r/\r<=4) (hd:d=0\/d=1) (hr2:-4<=r+stI d/\r+stI d<=4):Rets prog 147 #[.agg #[.slice q.f.1 q.f.2.1 q.f.2.2,.slice q.b.1 q.b.2.1 q.b.2.2],.int .i64 r,.int .u8 d] w0 λv w'=>(∃g,v=.tuple #[.slice (some ⟨g,0,none⟩) (z4a q.p r d).length (z4a q.p r d).length,.int .i64 0]/\w0.heap.size<=g/\Lw.Own z4t 246 w0.heap.size w' (.slice (some ⟨g,0,none⟩) (z4a q.p r d).length (z4a q.p r d).length) (z4a q.p r d))/\Fr [] w0 w':=by
 obtain ⟨⟨hf,hb⟩,h4,h4b⟩:=z3m hv
 have hql:=z1s hB.b
 have hml:=y3q hv r d
 rw [List.length_map] at hml
 refine we [(0,.agg #[.slice q.f.1 q.f.2.1 q.f.2.2,.slice q.b.1 q.b.2.1 q.b.2.2]),(1,.int .i64 r),(2,.int .u8 d)] func147 rfl ntmps147 rfl (.c3 rfl rfl rfl) ?_
 have hB0:=hB
 have hT0:=hT
 refine sr (bx rfl rfl rfl (λg3 w1 hg3 hb3 q1 z1=>(asg rfl (asg rfl (nn (sq (sr (z0n rfl hb3 z5k (mv rfl (mv rfl ?_))))))))))
 replace hB:=hB0.ext q1
 replace hT:=hT0.ext q1
 refine cl (ev3 rfl rfl rfl) (mkC func195) (x1c q _ _ _ hB hv hT (by omega) hd (by omega)) rfl ?_
 rintro _ w2 ⟨rfl,q2⟩
 have z2:=q2.size
 replace hb3:=hb3.ext q2
 have hb30:=hb3
 refine asg rfl (nn (sr (mv rfl (ne' rfl rfl (nn (cd rfl (λc0=>?_) (λc0=>?_)))))))
 ·exact absurd rfl c0
 refine sk (tn (sr (asg rfl (nn (sq (sr (fad rfl y2k (z0i rfl hb3 rfl x5f (lnS rfl underlying30 (mv rfl (nn (bl ?_))))))))))))
 refine lpK (ι:=Nat×Value) [(1,_),(2,_),(3,_),(26,_),(27,_)] (λp=>[(28,.int .i64 (p.1:Int)),(9,p.2)]) (λp w'=>Fr [] w2 w'/\p.1<=q.bs.length/\Lw.Own z4t 246 w2.heap.size w' p.2 (x8f q.p r d p.1)) (λp=>q.bs.length-p.1) (0,_) (.c7 rfl rfl rfl rfl rfl rfl rfl) ⟨(Fr.refl _ _),⟨Nat.zero_le _,Own.nil _⟩⟩ ?_
 rintro ⟨i,uI⟩ w3 ⟨q3,⟨hi,ho⟩⟩
 simp only at hi ho
 have z3:=q3.size
 refine kpC [(1,_),(2,_),(3,_),(26,_),(27,_),(28,.int .i64 (i:Int)),(9,uI)] (.c7 rfl rfl rfl rfl rfl rfl rfl) ?_
 have hbl:=x7f hv r d i
 have hs4:=z3h h4b i
 have hsl:=z1s (z1z hB0.bi i)
 have hca:-10<=z9u r d i/\z9u r d i<=50:=by unfold z9u;split<;>omega
 have har:((q.p.atC 0 (z9u r d i)).reverse).length<=4:=by rw [List.length_reverse];exact x4h hv _ _
 refine sr (lt' rfl rfl (nn (sq (cd rfl (λc1=>?_) (λc1=>?_)))))
 ·refine sk (tn (sq (bl (sr (mv rfl ?_)))))
  replace hB:=hB0.ext (q1.n2 q2 q3)
  refine z1a (iq0) rfl hB.b rfl y5b z1f (λad31 hc31=>?_)
  refine z1i rfl (hc31 _ hB.b) z6t (asg rfl (asg rfl (nn (sr (mv rfl (z0y rfl rfl (wi6 (by omega)) (mv rfl (z0y rfl rfl (wi6 (by omega)) (asg rfl (nn ?_))))))))))
  refine jn (ι:=Unit) [(1,_),(2,_),(3,_),(9,_),(11,_),(26,_),(27,_),(28,_)] (λ_j=>[(12,.int .i64 (z9u r d i))]) (λ_j w'=>Fr [] w2 w'/\Lw.Own z4t 246 w2.heap.size w' uI (x8f q.p r d i)) (.c8 rfl rfl rfl rfl rfl rfl rfl rfl) ?_ ?_
  ·refine sr (mv rfl (eq' rfl rfl (nn (cd rfl (λc2=>?_) (λc2=>?_)))))
   ·refine rg (mv rfl (z2u rfl rfl (wi6 (by omega)) (asg rfl (nl ?_))))
    exact jE (()) (.d8 rfl rfl rfl rfl rfl rfl rfl rfl (.cons (by first|(rw [show z9u r d i=_ from if_pos c2];rfl)|(rw [show z9u r d i=_ from if_neg c2];rfl)) .nil)) ⟨q3,ho⟩
   refine sk ?_
   exact jE (()) (.d8 rfl rfl rfl rfl rfl rfl rfl rfl (.cons (by first|(rw [show z9u r d i=_ from if_pos c2];rfl)|(rw [show z9u r d i=_ from if_neg c2];rfl)) .nil)) ⟨q3,ho⟩
  rintro _j w4 ⟨q4,ho⟩
  have z4:=q4.size
  refine kpC [(1,_),(2,_),(3,_),(9,_),(11,_),(26,_),(27,_),(28,_),(12,_)] (.d8 rfl rfl rfl rfl rfl rfl rfl rfl (.cons rfl .nil)) (sr ?_)
  replace hb3:=hb30.ext q4
  refine z0n rfl hb3 z5k (mv rfl (z1r (cs:=[_,_]) (ev2 rfl rfl) y9u (z0f rfl rfl rfl (z0f rfl rfl rfl z0s)) rfl ?_))
  replace hB:=hB0.ext (q1.n2 q2 q4)
  refine cl (ev2 rfl rfl) u1d (x1b q 0 (z9u r d i) _ hB (by omega) hf hb h4 h4b) rfl ?_
  rintro v44 w5 ⟨hX,q5⟩
  replace hX:=hX.low (show w2.heap.size<=_ by omega)
  have z5:=q5.size
  refine asg rfl (nn (sr (mv rfl ?_)))
  have hoB:=hX
  replace ho:=ho.ext q5
  refine cl (ev1 rfl) (mkC func200) (v1h w2.heap.size _ _ _ hX (by have:=x4h hv 0 (z9u r d i);omega)) rfl ?_
  rintro _ w6 ⟨hX,q6⟩
  replace ho:=ho.fr q6 (Own.neO hoB ho (by decide))
  have z6:=q6.size
  obtain ⟨A44,c44,rfl,hc44⟩:=hX.sl.form
  refine nn (sr (mv rfl (lnS rfl underlying37 (mv rfl (nn (bl ?_))))))
  refine lpK (ι:=Nat×Value) [(1,_),(2,_),(3,_),(13,_),(26,_),(27,_),(28,_),(47,_),(48,_)] (λp=>[(49,.int .i64 (p.1:Int)),(9,p.2)]) (λp w'=>Fr [] w2 w'/\p.1<=(q.bs.getD i iq0).2.length/\Lw.Own z4t 246 w2.heap.size w' p.2 ((x8f q.p r d i)++((q.bs.getD i iq0).2.take p.1).flatMap (λx=>((q.p.atC 0 (z9u r d i)).reverse).map (x4w d x)))/\Lw.Own z1h 87 w2.heap.size w' (.slice A44 ((q.p.atC 0 (z9u r d i)).reverse).length c44) ((q.p.atC 0 (z9u r d i)).reverse)) (λp=>(q.bs.getD i iq0).2.length-p.1) (0,_) (.d8 rfl rfl rfl rfl rfl rfl rfl rfl (.c3 rfl rfl rfl)) ⟨((q4.n1 q5).step q6 (λk hk hlt=>absurd (hoB.blk k hk).1 (by omega))),⟨Nat.zero_le _,by simpa using ho,hX⟩⟩ ?_
  rintro ⟨j,uJ⟩ w7 ⟨q7,⟨hj,ho,hX⟩⟩
  simp only at hj ho
  have z7:=q7.size
  refine kpC [(1,_),(2,_),(3,_),(13,_),(26,_),(27,_),(28,_),(47,_),(48,_),(49,.int .i64 (j:Int)),(9,uJ)] (.d8 rfl rfl rfl rfl rfl rfl rfl rfl (.c3 rfl rfl rfl)) ?_
  have hfj:=flat_len (λx=>((q.p.atC 0 (z9u r d i)).reverse).map (x4w d x)) 4 (λx=>by rw [List.length_map];exact har) ((q.bs.getD i iq0).2.take j)
  rw [List.length_take] at hfj
  refine sr (lt' rfl rfl (nn (sq (cd rfl (λc3=>?_) (λc3=>?_)))))
  ·refine sk (tn (sq (bl (sr ?_))))
   replace hB:=hB0.ext (q1.n2 q2 q7)
   refine z1a (id0) rfl (z1z hB.bi i) rfl z5v z1f (λad51 hc51=>?_)
   refine z1j rfl (hc51 _ (z1z hB.bi i)) z3g (al y2s rfl rfl (λg15 w8 hg15 hb15 q8 z8=>?_))
   refine z0j (vs:=[_,_]) rfl rfl hb15 y1n (λw9 hb15 q9 z9=>?_) (h1:=(by first|(simp [Value.oneCell',S];done)|exact z1h.one _))
   refine nn (sr (mv rfl (lnS rfl underlying37 (mv rfl (nn (bl ?_))))))
   replace ho:=(ho.ext q8).fr q9 (by first|exact z9e ho (by omega)|simp[z0v]<;>omega)
   replace hX:=(hX.ext q8).fr q9 (by first|exact z9e hX (by omega)|simp[z0v]<;>omega)
   refine lpK (ι:=Nat×Value) [(1,_),(2,_),(3,_),(13,_),(15,_),(26,_),(27,_),(28,_),(47,_),(48,_),(49,_),(53,_),(54,_)] (λp=>[(55,.int .i64 (p.1:Int)),(9,p.2)]) (λp w'=>Fr [] w2 w'/\p.1<=((q.p.atC 0 (z9u r d i)).reverse).length/\Lw.Own z4t 246 w2.heap.size w' p.2 (((x8f q.p r d i)++((q.bs.getD i iq0).2.take j).flatMap (λx=>((q.p.atC 0 (z9u r d i)).reverse).map (x4w d x)))++(((q.p.atC 0 (z9u r d i)).reverse).take p.1).map (x4w d ((q.bs.getD i iq0).2.getD j id0)))/\Lw.Own z1h 87 w2.heap.size w' (.slice A44 ((q.p.atC 0 (z9u r d i)).reverse).length c44) ((q.p.atC 0 (z9u r d i)).reverse)/\Blk w' g15 87 (z1h.enc ((q.bs.getD i iq0).2.getD j id0))) (λp=>((q.p.atC 0 (z9u r d i)).reverse).length-p.1) (0,_) (.d8 rfl rfl rfl rfl rfl rfl rfl rfl (.c7 rfl rfl rfl rfl rfl rfl rfl)) ⟨(q7.z2 q8 q9),⟨Nat.zero_le _,by simpa using ho,hX,hb15⟩⟩ ?_
   rintro ⟨k,uK⟩ w10 ⟨q10,⟨hk,ho,hX,hb15⟩⟩
   simp only at hk ho
   have z10:=q10.size
   have lt_hb15:=hb15.lt
   refine kpC [(1,_),(2,_),(3,_),(13,_),(15,_),(26,_),(27,_),(28,_),(47,_),(48,_),(49,_),(53,_),(54,_),(55,.int .i64 (k:Int)),(9,uK)] (.d8 rfl rfl rfl rfl rfl rfl rfl rfl (.c7 rfl rfl rfl rfl rfl rfl rfl)) (sr (lt' rfl rfl (nn (sq (cd rfl (λc4=>?_) (λc4=>?_))))))
   ·refine sk (tn (sq (bl (sr (z1a (id0) rfl hX.sl rfl z5v z1f (λad57 hc57=>?_))))))
    refine z1j rfl (hc57 _ hX.sl) z3g (al y2s rfl rfl (λg17 w11 hg17 hb17 q11 z11=>?_))
    refine z0j (vs:=[_,_]) rfl rfl hb17 y1n (λw12 hb17 q12 z12=>?_) (h1:=(by first|(simp [Value.oneCell',S];done)|exact z1h.one _))
    refine nn (sr (mv rfl (eq' rfl rfl (nn (cd rfl (λc5=>?_) (λc5=>?_))))))
    ·refine rg (mv rfl (z0n rfl hb17 z3g ?_))
     replace hb15:=(hb15.ext q11).fr q12
     refine z0n rfl hb15 z3g (z1r (cs:=[_,_,_,_,_]) (ev3 rfl rfl rfl) j2g (z0f rfl rfl rfl (z0f rfl rfl rfl (z0f rfl rfl rfl z0s))) rfl ?_)
     refine z2f ([(⟨(((q.p.atC 0 (z9u r d i)).reverse).getD k id0),((q.bs.getD i iq0).2.getD j id0),1⟩:Cx)]) (ev1 rfl) rfl rfl rfl y0z (λg65 w13 hg65 ho65 q13 z13=>?_)
     replace hX:=((hX.ext q11).fr q12 (by first|exact z9e hX (by omega)|simp[z0v]<;>omega)).ext q13
     replace hb15:=hb15.ext q13
     replace ho:=((ho.ext q11).fr q12 (by first|exact z9e ho (by omega)|simp[z0v]<;>omega)).ext q13
     have hoo66:=ho
     refine z1x rfl rfl ho ho65.sl y0z (by unfold maxLen;simp only [List.length_append,List.length_map,List.length_take,List.length_cons,List.length_nil];omega) (by simp only [List.length_append,List.length_map,List.length_take,List.length_cons,List.length_nil];omega) (λv66 w14 ho q14 hor66=>?_)
     have z14:=q14.size
     replace hX:=hX.fr q14 ((Own.neO hoo66 hX (by decide)))
     replace hb15:=hb15.fr q14 (λhk=>hoo66.neB hb15 (by decide) hk)
     refine asg rfl (kpL [(1,_),(2,_),(3,_),(9,_),(13,_),(15,_),(26,_),(27,_),(28,_),(47,_),(48,_),(49,_),(53,_),(54,_),(55,_)] (.d8 rfl rfl rfl rfl rfl rfl rfl rfl (.c7 rfl rfl rfl rfl rfl rfl rfl)) (nl (bn' (tn (rg (z0y rfl rfl (wi6 (by omega)) (mv rfl (nl ?_))))))))
     exact lpE ((k+1,_)) (.d8 rfl rfl rfl rfl rfl rfl rfl rfl (.c7 rfl rfl rfl rfl rfl rfl rfl)) ⟨((q10.z3 q11 q12 q13).step q14 (λk hk hlt=>absurd (hoo66.blk k hk).1 (by omega))),⟨by simp only;omega,by rw [y2z (x4w d ((q.bs.getD i iq0).2.getD j id0)) id0 (by omega),<-List.append_assoc,show x4w d ((q.bs.getD i iq0).2.getD j id0) (((q.p.atC 0 (z9u r d i)).reverse).getD k id0)=_ from if_pos c5];exact ho,hX,hb15⟩⟩ (by simp only;omega)
    refine rg (mv rfl ?_)
    replace hb15:=(hb15.ext q11).fr q12
    refine z0n rfl hb15 z3g (z0n rfl hb17 z3g (z1r (cs:=[_,_,_,_,_]) (ev3 rfl rfl rfl) j2g (z0f rfl rfl rfl (z0f rfl rfl rfl (z0f rfl rfl rfl z0s))) rfl ?_))
    refine z2f ([(⟨((q.bs.getD i iq0).2.getD j id0),(((q.p.atC 0 (z9u r d i)).reverse).getD k id0),-1⟩:Cx)]) (ev1 rfl) rfl rfl rfl y0z (λg71 w15 hg71 ho71 q15 z15=>?_)
    replace hX:=((hX.ext q11).fr q12 (by first|exact z9e hX (by omega)|simp[z0v]<;>omega)).ext q15
    replace hb15:=hb15.ext q15
    replace ho:=((ho.ext q11).fr q12 (by first|exact z9e ho (by omega)|simp[z0v]<;>omega)).ext q15
    have hoo72:=ho
    refine z1x rfl rfl ho ho71.sl y0z (by unfold maxLen;simp only [List.length_append,List.length_map,List.length_take,List.length_cons,List.length_nil];omega) (by simp only [List.length_append,List.length_map,List.length_take,List.length_cons,List.length_nil];omega) (λv72 w16 ho q16 hor72=>?_)
    have z16:=q16.size
    replace hX:=hX.fr q16 ((Own.neO hoo72 hX (by decide)))
    replace hb15:=hb15.fr q16 (λhk=>hoo72.neB hb15 (by decide) hk)
    refine asg rfl (kpL [(1,_),(2,_),(3,_),(9,_),(13,_),(15,_),(26,_),(27,_),(28,_),(47,_),(48,_),(49,_),(53,_),(54,_),(55,_)] (.d8 rfl rfl rfl rfl rfl rfl rfl rfl (.c7 rfl rfl rfl rfl rfl rfl rfl)) (nl (bn' (tn (rg (z0y rfl rfl (wi6 (by omega)) (mv rfl (nl ?_))))))))
    exact lpE ((k+1,_)) (.d8 rfl rfl rfl rfl rfl rfl rfl rfl (.c7 rfl rfl rfl rfl rfl rfl rfl)) ⟨((q10.z3 q11 q12 q15).step q16 (λk hk hlt=>absurd (hoo72.blk k hk).1 (by omega))),⟨by simp only;omega,by rw [y2z (x4w d ((q.bs.getD i iq0).2.getD j id0)) id0 (by omega),<-List.append_assoc,show x4w d ((q.bs.getD i iq0).2.getD j id0) (((q.p.atC 0 (z9u r d i)).reverse).getD k id0)=_ from if_neg c5];exact ho,hX,hb15⟩⟩ (by simp only;omega)
   obtain rfl:k=((q.p.atC 0 (z9u r d i)).reverse).length:=by omega
   rw [List.take_length] at ho
   refine ex (te (te (xh (bn' (tn (rg (z0y rfl rfl (wi6 (by omega)) (mv rfl (kpL [(1,_),(2,_),(3,_),(9,_),(13,_),(26,_),(27,_),(28,_),(47,_),(48,_),(49,_)] (.d8 rfl rfl rfl rfl rfl rfl rfl rfl (.c3 rfl rfl rfl)) (nl ?_))))))))))
   exact lpE ((j+1,_)) (.d8 rfl rfl rfl rfl rfl rfl rfl rfl (.c3 rfl rfl rfl)) ⟨q10,⟨by simp only;omega,by rw [v1i (λx=>((q.p.atC 0 (z9u r d i)).reverse).map (x4w d x)) id0 (by omega),<-List.append_assoc];exact ho,hX⟩⟩ (by simp only;omega)
  obtain rfl:j=(q.bs.getD i iq0).2.length:=by omega
  rw [List.take_length] at ho
  refine ex (te (te (xh (bn' (tn (rg (z0y rfl rfl (wi6 (by omega)) (mv rfl (kpL [(1,_),(2,_),(3,_),(9,_),(26,_),(27,_),(28,_)] (.c7 rfl rfl rfl rfl rfl rfl rfl) (nl ?_))))))))))
  exact lpE ((i+1,_)) (.c7 rfl rfl rfl rfl rfl rfl rfl) ⟨q7,⟨by simp only;omega,by rw [v3t,show u1l q.p r d i=(q.bs.getD i iq0).2.flatMap (λx=>((q.p.atC 0 (z9u r d i)).reverse).map (x4w d x)) from by unfold u1l;rw [z3x]];exact ho⟩⟩ (by simp only;omega)
 obtain rfl:i=q.bs.length:=by omega
 refine ex (te (te (xh (tn ?_))))
 refine jn (ι:=Unit) [(9,_)] (λ_j=>[]) (λ_j w'=>Fr [] w0 w'/\Lw.Own z4t 246 w0.heap.size w' uI (z4a q.p r d)) (.cons rfl .nil) ?_ ?_
 ·refine sr (mv rfl (eq' rfl rfl (kpL [(9,_),(77,_)] (.c2 rfl rfl) (nn (cd rfl (λc6=>?_) (λc6=>?_))))))
  ·refine rg (mv rfl ?_)
   have hoB:=ho
   refine cl (ev1 rfl) (mkC func201) (v2j w2.heap.size _ _ _ ho (by omega)) rfl ?_
   rintro _ w17 ⟨ho,q17⟩
   have z17:=q17.size
   refine nl ?_
   exact jE (()) (.cons rfl .nil) ⟨((q1.n2 q2 q3).step q17 (λk hk hlt=>absurd (hoB.blk k hk).1 (by omega))),(by rw [show z4a q.p r d=_ from if_pos (by omega),List.length_map];exact ho.low (by omega))⟩
  refine sk ?_
  exact jE (()) (.cons rfl .nil) ⟨(q1.n2 q2 q3),(by rw [show z4a q.p r d=_ from if_neg (by omega),List.length_map];exact ho.low (by omega))⟩
 rintro _j w18 ⟨q18,ho⟩
 have z18:=q18.size
 refine kpC [(9,_)] (.cons rfl .nil) (sr (mv rfl (cl (ev1 rfl) (mkC func202) (x4b _ (z4a q.p r d) _ ho.sl (by omega)) rfl ?_)))
 rintro _ w19 ⟨g81,rfl,hg81,hY,q19⟩
 have z19:=q19.size
 refine asg rfl (asg rfl (nn (rt (r2 results147 rfl rfl ?_))))
 exact ⟨_,rfl,⟨g81,rfl,by omega,hY.low (by omega)⟩,(q18.n1 q19)⟩
end Go.Proofs.YtpgdchkdlgkmgaaGreatDoor
namespace Go.G08
open Go.Lw Go.G21
def orZ:List Int->Int
  | []=>0
  | x::l=>if x≠0 then x else orZ l
theorem x9n:∀ {l:List Int} {i:Nat},i<l.length->(∀j,j<i->l.getD j 0=0)->l.getD i 0≠0->orZ l=l.getD i 0
 | x::l,0,_,_,h=>by simp only [List.getD_cons_zero] at h ⊢;exact if_pos h
 | x::l,i+1,hi,hj,h=>by
  have h0:=hj 0 (by omega)
  simp only [List.getD_cons_zero] at h0
  rw [show orZ (x::l)=if x≠0 then x else orZ l from rfl,if_neg (by omega)]
  simp only [List.getD_cons_succ] at h ⊢
  exact x9n (by simpa using hi) (λj hl=>by have:=hj (j+1) (by omega);simpa only [List.getD_cons_succ] using this) h
theorem y9g:∀ {l:List Int},(∀j,j<l.length->l.getD j 0=0)->orZ l=0
 | [],_=>rfl
 | x::l,hj=>by
  have h0:=hj 0 (by simp)
  simp only [List.getD_cons_zero] at h0
  rw [show orZ (x::l)=if x≠0 then x else orZ l from rfl,if_neg (by omega)]
  exact y9g (λj hl=>by have:=hj (j+1) (by simpa using hl);simpa only [List.getD_cons_succ] using this)
theorem x6p (a b:LId):orZ [z9i a.y b.y,z9i a.n b.n]=z6m a b:=by
 unfold orZ orZ orZ z9i z6m
 repeat' split
 all_goals first|rfl|omega
end Go.G08
namespace Go.Lw
open Go.RowKit
def MapL {κ:Type} [DecidableEq κ] (V:κ->Value) (w:World) (g:Nat) (m:List (κ×Value)):Prop:=
  ∃(es:Array MapEntry) (c:Nat),w.heap[g]?=some (.map es c)/\es.toList.map (λe=>(e.key,e.val))=m.map (λp=>(V p.1,p.2))/\(m.map (·.1)).Nodup/\(es.toList.map (·.born)).Nodup/\∀e∈es.toList,e.born<c
def z5a {κ:Type} [DecidableEq κ] (m:List (κ×Value)) (k:κ):List (κ×Value):=
  match (m.map (·.1)).findIdx? (λx=>decide (k=x)) with
  | some i=>m.eraseIdx i
  | none=>m
def MapIt {κ:Type} [DecidableEq κ] (V:κ->Value) (w:World) (gi g:Nat) (m rem:List (κ×Value)) (cur:Option (κ×Value)):Prop:=
  ∃(es:Array MapEntry) (c:Nat) (seen:Array Nat),w.heap[g]?=some (.map es c)/\es.toList.map (λe=>(e.key,e.val))=m.map (λp=>(V p.1,p.2))/\(es.toList.map (·.born)).Nodup/\(∀e∈es.toList,e.born<c)/\
    w.heap[gi]?=some (.mapIter (some g) c seen c)/\(leftOf es seen).toList.map (λe=>(e.key,e.val))=rem.map (λp=>(V p.1,p.2))/\∀p,cur=some p->∃e∈es.toList,∃s':Array Nat,seen=s'.push e.born/\e.key=V p.1/\e.val=p.2
theorem j2j {P:Program} {ops:Array Oper} {Q:Exit->Act->World->Prop} {o:Oper} {rest:List Oper} {a:Act} {n:Nat} {ds:List Nat} {L:List (Nat×Value)} {w w':World} {v:Value} (h:AgM ds a n L) (hg:o.guard=none) (hd:o.dst=none) (hr:(execOp a.eval o).run P w=.ok (.value v) w')
    (k:∀a,AgM ds a n L->wpList P ops Q rest a w'):wpList P ops Q (o::rest) a w:=
  wpList_plain hg λK hK=>by
    unfold Oper.wp
    rw [hr]
    show K (a.put o.dst v) w'
    rw [hd]
    exact hK _ _ (k _ h)
theorem y5f {κ':Type} (m:List (κ'×Value)) (i:Nat) (v:Value):(m.modify i λp=>(p.1,v)).map (·.1)=m.map (·.1):=by
 apply List.ext_getElem?
 intro j
 simp only [List.getElem?_map,List.getElem?_modify]
 by_cases h:i=j
 ·subst h;cases m[i]?<;>simp
 simp [h]
theorem y0t {α β:Type} (f:α->β) (i:Nat) (l:List α):(l.eraseIdx i).map f=(l.map f).eraseIdx i:=by
 apply List.ext_getElem?
 intro j
 simp only [List.getElem?_map,List.getElem?_eraseIdx]
 split<;>rfl
section
variable {κ:Type} [DecidableEq κ] {V:κ->Value} {P:Program} {K:TypeId} {w w':World} {g:Nat} {m:List (κ×Value)} {S:List Nat}
theorem MapL.fr (h:MapL V w g m) (hf:Fr S w w') (hn:g∉S:=by simp[z0v]<;>omega):MapL V w' g m:=by
 obtain ⟨es,c,h1,h2⟩:=h
 exact ⟨es,c,(hf.block g (Array.getElem?_eq_some_iff.1 h1).1 hn).trans h1,h2⟩
theorem MapL.ext (h:MapL V w g m) (hf:Fr [] w w'):MapL V w' g m:=h.fr hf (by simp)
theorem MapL.f (h:MapL V w g m):MapF V w g (z2i m):=let ⟨es,c,h1,h2,_⟩:=h;⟨es,c,m,h1,h2,λ_=>rfl⟩
theorem MapL.lt (h:MapL V w g m):g<w.heap.size:=h.f.lt
theorem MapL.nodup (h:MapL V w g m):(m.map (·.1)).Nodup:=let ⟨_,_,_,_,h,_⟩:=h;h
theorem v3e {k:κ} (h:(m.map (·.1)).findIdx? (λx=>decide (k=x))=none):k∉m.map (·.1):=λhm=>by
 rw [List.findIdx?_eq_none_iff] at h
 have:=h k hm
 simp at this
theorem y5h {t E:TypeId} (h:MapL V w g m) (hk:KeyLaw P K V) (hu:P.underlying t=some (.map K E)) (k:κ) (v:Value) :
    ∃w',(Instr.mapUpdate t (.map (some g)) (V k) v).run P w=.ok () w'/\MapL V w' g (z3n m k v)/\Fr [g] w w'/\w'.heap.size=w.heap.size:=by
  obtain ⟨es,c,h1,h2,hkn,hbn,hbc⟩:=h
  have hlt:=(Array.getElem?_eq_some_iff.1 h1).1
  have hkeys:es.toList.map (·.key)=(m.map (·.1)).map V:=by
    have:=congrArg (List.map Prod.fst) h2
    simpa [List.map_map,Function.comp_def] using this
  have hfi:=hk.find k es.toList (m.map (·.1)) w hkeys
  have hset:∀o,(setObj g o).run P w=.ok () { w with heap:=w.heap.setIfInBounds g o }:=by intro o;simp [setObj,Sem.run,h1]
  have hfr:∀o,Fr [g] w { w with heap:=w.heap.setIfInBounds g o }:=λo=>⟨rfl,rfl,rfl,by simp,λi _ hn=>by
    simp only
    rw [Array.getElem?_setIfInBounds_ne (by intro e;subst e;simp at hn)]⟩
  have hheap:∀o,({ w with heap:=w.heap.setIfInBounds g o }:World).heap[g]?=some o:=by intro o;simp [hlt]
  have hlen:es.toList.length=m.length:=by have:=congrArg List.length h2;simpa using this
  cases hf:(m.map (·.1)).findIdx? (λx=>decide (k=x)) with
  | none=>
    have ea:z3n m k v=m++[(k,v)]:=by unfold z3n;rw [hf]
    rw [ea]
    refine ⟨_,?_,⟨_,_,hheap (.map (es.push { key:=V k,val:=v,born:=c }) (c+1)),?_,?_,?_,?_⟩,hfr _,by simp⟩
    · rw [hf] at hfi
      simp only [Instr.mapUpdate,Sem.run_bind,run_underlying hu,Result.andThen_ok,z2k h1,hk.check,hfi,Option.bind_none,hset]
    · simp [h2]
    · rw [List.map_append]
      exact List.nodup_append.2 ⟨hkn,by simp,λx hx y hy=>by
        simp at hy;subst hy;intro e;subst e;exact v3e hf hx⟩
    · rw [Array.toList_push,List.map_append]
      exact List.nodup_append.2 ⟨hbn,by simp,λx hx y hy=>by
        simp at hy;subst hy
        obtain ⟨e,he,rfl⟩:=List.mem_map.1 hx
        have:=hbc e he;omega⟩
    · intro e he
      rw [Array.toList_push] at he
      rcases List.mem_append.1 he with h|h
      · have:=hbc e h;omega
      · simp at h;subst h;exact Nat.lt_succ_self _
  | some i=>
    have hi:i<m.length:=by
      have:=List.findIdx?_eq_some_iff_findIdx_eq.1 hf
      simpa using this.1
    have hi':i<es.toList.length:=by omega
    have hki:V k=(es.toList[i]).key:=by
      have hmem:=List.findIdx?_eq_some_iff_getElem.1 hf
      obtain ⟨hlt',hp,_⟩:=hmem
      have hp':k=(m.map (·.1))[i]:=by simpa using hp
      have e1:(es.toList.map (·.key))[i]?=((m.map (·.1)).map V)[i]?:=by rw [hkeys]
      simp only [List.getElem?_map,List.getElem?_eq_getElem hi',List.getElem?_eq_getElem hi,Option.map_some,Option.some.injEq] at e1
      rw [e1,hp'];simp
    have ea:z3n m k v=m.modify i λp=>(p.1,v):=by unfold z3n;rw [hf]
    rw [ea]
    have hborn:(es.modify i λe=>{ e with key:=V k,val:=v }).toList.map (·.born)=es.toList.map (·.born):=by
      apply List.ext_getElem?
      intro j
      simp only [List.getElem?_map]
      rw [Array.getElem?_toList,Array.getElem?_modify,Array.getElem?_toList]
      by_cases hj:i=j
      · subst hj;simp only [if_true];cases es[i]?<;>rfl
      · simp only [hj,if_false]
    refine ⟨_,?_,⟨_,_,hheap (.map (es.modify i λe=>{ e with key:=V k,val:=v }) c),?_,by rw [y5f m];exact hkn,by rw [hborn];exact hbn,?_⟩,hfr _,by simp⟩
    · rw [hf] at hfi
      have hes:es[i]?=some es.toList[i]:=by rw [<-Array.getElem?_toList,List.getElem?_eq_getElem hi']
      simp only [Option.bind_some,List.getElem?_eq_getElem hi',Option.map_some] at hfi
      have hstay:(Instr.keyThatStays (((es[i]?).map (·.key)).getD (V k)) (V k)).run P w=.ok (V k) w:=by
        rw [hes]
        simp only [Option.map_some,Option.getD_some,<-hki,Instr.keyThatStays,hk.bits,if_true,Sem.run_pure]
      simp only [Instr.mapUpdate,Sem.run_bind,run_underlying hu,Result.andThen_ok,z2k h1,hk.check,hfi,hstay,hset]
    · apply List.ext_getElem?
      intro j
      have e2:=congrArg (·[j]?) h2
      simp only [List.getElem?_map] at e2 ⊢
      rw [Array.getElem?_toList,Array.getElem?_modify,List.getElem?_modify]
      rw [Array.getElem?_toList] at e2
      by_cases hj:i=j
      · subst hj
        have e3:=List.getElem?_eq_getElem hi
        have hes:es[i]?=some es.toList[i]:=by rw [<-Array.getElem?_toList,List.getElem?_eq_getElem hi']
        rw [hes,e3] at e2 ⊢
        simp only [Option.map_some,Option.some.injEq,Prod.mk.injEq] at e2
        simp only [if_true,Option.map_some]
        rw [hki,e2.1];rfl
      · simp only [hj,if_false]
        rw [e2];simp
    · intro e he
      have:e.born∈es.toList.map (·.born):=by rw [<-hborn];exact List.mem_map_of_mem he
      obtain ⟨x,hx,hb⟩:=List.mem_map.1 this
      rw [<-hb];exact hbc x hx
theorem x4e {t E:TypeId} {ty:TypeId} (h:MapL V w g m) (hk:KeyLaw P K V) (hu:P.underlying t=some (.map K E)) (k:κ) :
    ∃w',(Builtin.delete_ #[t,K] ty #[.map (some g),V k]).run P w=.ok (.tuple #[]) w'/\MapL V w' g (z5a m k)/\Fr [g] w w'/\w'.heap.size=w.heap.size:=by
  obtain ⟨es,c,h1,h2,hkn,hbn,hbc⟩:=h
  have hlt:=(Array.getElem?_eq_some_iff.1 h1).1
  have hkeys:es.toList.map (·.key)=(m.map (·.1)).map V:=by
    have:=congrArg (List.map Prod.fst) h2
    simpa [List.map_map,Function.comp_def] using this
  have hfi:=hk.find k es.toList (m.map (·.1)) w hkeys
  have hset:∀o,(setObj g o).run P w=.ok () { w with heap:=w.heap.setIfInBounds g o }:=by intro o;simp [setObj,Sem.run,h1]
  have hfr:∀o,Fr [g] w { w with heap:=w.heap.setIfInBounds g o }:=λo=>⟨rfl,rfl,rfl,by simp,λi _ hn=>by
    simp only
    rw [Array.getElem?_setIfInBounds_ne (by intro e;subst e;simp at hn)]⟩
  have hheap:∀o,({ w with heap:=w.heap.setIfInBounds g o }:World).heap[g]?=some o:=by intro o;simp [hlt]
  have hlen:es.toList.length=m.length:=by have:=congrArg List.length h2;simpa using this
  cases hf:(m.map (·.1)).findIdx? (λx=>decide (k=x)) with
  | none=>
    have ea:z5a m k=m:=by unfold z5a;rw [hf]
    rw [ea]
    refine ⟨_,?_,⟨_,_,hheap (.map es c),h2,hkn,hbn,hbc⟩,hfr _,by simp⟩
    rw [hf] at hfi
    simp [Builtin.delete_,run_underlying hu,z2k h1,hk.check,hfi,hset]
  | some i=>
    have ea:z5a m k=m.eraseIdx i:=by unfold z5a;rw [hf]
    rw [ea]
    have hi:i<m.length:=by
      have:=List.findIdx?_eq_some_iff_findIdx_eq.1 hf
      simpa using this.1
    have hi':i<es.toList.length:=by omega
    have el:(es.eraseIdxIfInBounds i).toList=es.toList.eraseIdx i:=by
      unfold Array.eraseIdxIfInBounds
      rw [dif_pos (by simpa using hi'),Array.toList_eraseIdx]
    refine ⟨_,?_,⟨_,_,hheap (.map (es.eraseIdxIfInBounds i) c),?_,?_,?_,?_⟩,hfr _,by simp⟩
    · rw [hf] at hfi
      simp only [Option.bind_some,List.getElem?_eq_getElem hi',Option.map_some] at hfi
      simp [Builtin.delete_,run_underlying hu,z2k h1,hk.check,hfi,hset]
    · rw [el,y0t,y0t,h2]
    · rw [y0t];exact List.Nodup.sublist (List.eraseIdx_sublist _ _) hkn
    · rw [el,y0t];exact List.Nodup.sublist (List.eraseIdx_sublist _ _) hbn
    · intro e he
      rw [el] at he
      exact hbc e ((List.eraseIdx_sublist _ _).mem he)
variable {a:Act} {n:Nat} {L:List (Nat×Value)} {ds:List Nat} {Q:Exit->Act->World->Prop} {C:World->Prop} {Qa:Act->Prop} {ops:Array Oper} {rest:List Oper}
variable {d:Nat} {ty:TypeId} {pos:String} {after:Array Edge} {x y z:Operand} {t E:TypeId} {k:κ} {v zv:Value}
theorem y6c (h:AgM ds a n L) (hx:ev L x=some (.map (some g))) (hy:ev L y=some (V k)) (hz:ev L z=some v) (hm:MapL V w g m) (hk:KeyLaw P K V) (hu:P.underlying t=some (.map K E))
    (q:∀w',MapL V w' g (z3n m k v)->Fr [g] w w'->w'.heap.size=w.heap.size->∀a,AgM ds a n L->wpList P ops Q rest a w'):wpList P ops Q (⟨none,.mapUpdate t x y z,ty,pos,after,none⟩::rest) a w:=by
  obtain ⟨w',hr,h1,h2,h3⟩:=y5h hm hk hu k v
  exact z8i h rfl rfl (w':=w') (by simp [execOp,h.eval hx,h.eval hy,h.eval hz,hr]) (q w' h1 h2 h3)
theorem u6o {kt:TypeId} (h:AgM ds a n L) (hx:ev L x=some (.map (some g))) (hy:ev L y=some (V k)) (hm:MapL V w g m) (hk:KeyLaw P K V) (hu:P.underlying t=some (.map K E)) (he:kt=K)
    (q:∀w',MapL V w' g (z5a m k)->Fr [g] w w'->w'.heap.size=w.heap.size->∀a,AgM ds a n L->wpList P ops Q rest a w'):wpList P ops Q (⟨none,.call ⟨.builtin .delete,#[x,y],#[t,kt]⟩,ty,pos,after,none⟩::rest) a w:=by
  subst he
  obtain ⟨w',hr,h1,h2,h3⟩:=x4e (ty:=ty) hm hk hu k
  refine j2j h rfl rfl (w':=w') (v:=.tuple #[]) ?_ (q w' h1 h2 h3)
  have hx':=h.eval hx
  have hy':=h.eval hy
  rw [z1v];unfold builtin
  simp [hx',hy',hr]
theorem MapIt.fr {gi:Nat} {rem:List (κ×Value)} {cur:Option (κ×Value)} (h:MapIt V w gi g m rem cur) (hf:Fr S w w') (h1:g∉S) (h2:gi∉S):MapIt V w' gi g m rem cur:=by
 obtain ⟨es,c,seen,k1,k2,k3,k4,k5,k6⟩:=h
 exact ⟨es,c,seen,(hf.block g (Array.getElem?_eq_some_iff.1 k1).1 h1).trans k1,k2,k3,k4,(hf.block gi (Array.getElem?_eq_some_iff.1 k5).1 h2).trans k5,k6⟩
theorem MapIt.ext {gi:Nat} {rem:List (κ×Value)} {cur:Option (κ×Value)} (h:MapIt V w gi g m rem cur) (hf:Fr [] w w'):MapIt V w' gi g m rem cur:=h.fr hf (by simp) (by simp)
theorem MapIt.lt {gi:Nat} {rem:List (κ×Value)} {cur:Option (κ×Value)} (h:MapIt V w gi g m rem cur):gi<w.heap.size:=let ⟨_,_,_,_,_,_,_,k5,_⟩:=h;(Array.getElem?_eq_some_iff.1 k5).1
theorem MapIt.ne {gi:Nat} {rem:List (κ×Value)} {cur:Option (κ×Value)} (h:MapIt V w gi g m rem cur):g≠gi:=λe=>by
 obtain ⟨es,c,seen,k1,_,_,_,k5,_⟩:=h
 rw [<-e,k1] at k5;cases k5
theorem v0p {es:Array MapEntry} {seen:Array Nat} {e:MapEntry} {l1 l2:List MapEntry} (hn:(es.toList.map (·.born)).Nodup) (h:(leftOf es seen).toList=l1++e::l2):(leftOf es (seen.push e.born)).toList=l1++l2:=by
 have h2:(leftOf es (seen.push e.born)).toList=(leftOf es seen).toList.filter λx=>decide (x.born≠e.born):=by
  unfold leftOf
  rw [Array.toList_filter,Array.toList_filter,List.filter_filter]
  congr 1
  funext x
  by_cases c1:x.born=e.born
  ·simp [c1]
  by_cases c2:x.born∈seen
  ·simp [c1,c2]
  simp [c1,c2]
 have hs:((leftOf es seen).toList.map (·.born)).Nodup:=by
  refine List.Nodup.sublist (List.Sublist.map _ ?_) hn
  unfold leftOf;rw [Array.toList_filter];exact List.filter_sublist
 rw [h] at h2 hs
 rw [h2,List.filter_append,List.filter_cons]
 rw [List.map_append,List.map_cons] at hs
 obtain ⟨n1,n2,n3⟩:=List.nodup_append.1 hs
 have n4:=List.nodup_cons.1 n2
 have f1:l1.filter (λx=>decide (x.born≠e.born))=l1:=List.filter_eq_self.2 λx hx=>by
  simpa using n3 _ (List.mem_map_of_mem hx) e.born (List.mem_cons_self ..)
 have f2:l2.filter (λx=>decide (x.born≠e.born))=l2:=List.filter_eq_self.2 λx hx=>by
  have:x.born≠e.born:=λk=>n4.1 (by rw [<-k];exact List.mem_map_of_mem hx)
  simpa using this
 rw [f1,f2];simp
theorem v5r (hx:ev L x=some (.map (some g))) (hm:MapL V w g m) (hu:P.underlying t=some (.map K E)) (hn:Nat.blt d n=true)
    (q:∀gi w',gi=w.heap.size->MapIt V w' gi g m m none->Fr [] w w'->w'.heap.size=gi+1->WL P ops Q rest n ds w' ((d,.pointer (some ⟨gi,0,none⟩))::L)):WL P ops Q (⟨some d,.range t x,ty,pos,after,none⟩::rest) n ds w L:=λa h=>by
  obtain ⟨es,c,h1,h2,h3,h4,h5⟩:=hm
  have hlt:=(Array.getElem?_eq_some_iff.1 h1).1
  refine z1u h rfl rfl hn (w':=w.alloc (.mapIter (some g) c #[] c)) (v:=.pointer (some ⟨w.heap.size,0,none⟩)) ?_ (q _ _ rfl ⟨es,c,#[],?_,h2,h4,h5,heap_alloc_new w _,?_,λp hp=>by cases hp⟩ (Fr.alloc [] w _) (by simp) )
  · have hx':=h.eval hx
    simp only [execOp,hx',Sem.run_bind,run_range_map w t K E g es c hu h1,Result.andThen_ok,Sem.run_pure]
  · first|exact (heap_alloc_old w _ hlt).trans h1|exact (heap_alloc_old w _ _ hlt).trans h1
  · rw [<-h2]
    have:(leftOf es #[]).toList=es.toList:=by unfold leftOf;rw [Array.toList_filter];simp
    rw [this]
theorem u6h {gi:Nat} {rem:List (κ×Value)} {cur:Option (κ×Value)} (hx:ev L x=some (.pointer (some ⟨gi,0,none⟩))) (hi:MapIt V w gi g m rem cur) (hn:Nat.blt d n=true)
    (qt:∀(r1:List (κ×Value)) (p:κ×Value) (r2:List (κ×Value)),rem=r1++p::r2->∀w',MapIt V w' gi g m (r1++r2) (some p)->Fr [gi] w w'->w'.heap.size=w.heap.size->WL P ops Q rest n ds w' ((d,.tuple #[.bool true,V p.1,p.2])::L))
    (qf:rem=[]->WL P ops Q rest n ds w ((d,.tuple #[.bool false])::L)):WL P ops Q (⟨some d,.next x false,ty,pos,after,none⟩::rest) n ds w L:=λa h=>by
  have hne:=hi.ne
  obtain ⟨es,c,seen,h1,h2,h3,h4,h5,h6,h7⟩:=hi
  have hlt:=(Array.getElem?_eq_some_iff.1 h5).1
  have hx':=h.eval hx
  rcases run_next_at (P:=P) w ty gi g c c seen es c h5 h1 h4 (Nat.le_refl _) with ⟨e0,hr⟩|⟨e,he,w1,hw,hr⟩
  · refine z1u h rfl rfl hn (w':=w) (v:=.tuple #[.bool false]) (by simp only [execOp,hx',Sem.run_bind,hr,Result.andThen_ok,Sem.run_pure]) (qf ?_)
    have:(leftOf es seen).toList=[]:=List.length_eq_zero_iff.1 (by rw [Array.length_toList];exact e0)
    rw [this] at h6
    exact List.map_eq_nil_iff.1 h6.symm
  · obtain ⟨l1,l2,hl⟩:=List.append_of_mem he
    rw [hl,List.map_append,List.map_cons] at h6
    obtain ⟨r1,r',hr1,e1,e2⟩:=List.map_eq_append_iff.1 h6.symm
    obtain ⟨p,r2,hr2,e3,e4⟩:=List.map_eq_cons_iff.1 e2
    obtain ⟨ek,ev'⟩:=Prod.mk.inj e3
    have hee:e∈es.toList:=by
      have:e∈(leftOf es seen).toList:=he
      unfold leftOf at this;rw [Array.toList_filter] at this;exact (List.mem_filter.1 this).1
    have hf1:Fr [] w w1:=by rcases hw with rfl|rfl;exact Fr.refl _ _;exact Fr.drew _ _
    have hsz:w1.heap.size=w.heap.size:=by rcases hw with rfl|rfl<;>rfl
    have hf2:Fr [gi] w (ChangeMaps.setBlock w1 gi (.mapIter (some g) c (seen.push e.born) c)):=
      (hf1.weak (by simp)).step (S':=[gi]) ⟨rfl,rfl,rfl,by simp [ChangeMaps.setBlock],λk _ hk=>by
        simp only [ChangeMaps.setBlock]
        rw [Array.getElem?_setIfInBounds_ne (by intro e;subst e;simp at hk)]⟩ (by intro k hk _;exact hk)
    refine z1u h rfl rfl hn (w':=ChangeMaps.setBlock w1 gi (.mapIter (some g) c (seen.push e.born) c)) (v:=.tuple #[.bool true,e.key,e.val]) (by simp only [execOp,hx',Sem.run_bind,hr,Result.andThen_ok,Sem.run_pure]) ?_
    rw [<-ek,<-ev']
    refine qt r1 p r2 (by rw [hr1,hr2]) _ ⟨es,c,seen.push e.born,?_,h2,h3,h4,?_,?_,λp' hp'=>?_⟩ hf2 (by simp [ChangeMaps.setBlock,hsz])
    · exact (hf2.block g (Array.getElem?_eq_some_iff.1 h1).1 (by simpa using hne)).trans h1
    · simp [ChangeMaps.setBlock,hsz,hlt]
    · rw [v0p h3 hl,List.map_append,List.map_append,<-e1,<-e4]
    · cases hp'
      exact ⟨e,hee,seen,rfl,ek.symm,ev'.symm⟩
theorem v8d {gi:Nat} {rem:List (κ×Value)} {p:κ×Value} (hx:ev L x=some (.pointer (some ⟨gi,0,none⟩))) (hi:MapIt V w gi g m rem (some p)) (hn:Nat.blt d n=true)
    (q:WL P ops Q rest n ds w ((d,.tuple #[V p.1,p.2])::L)):WL P ops Q (⟨some d,.entry x,ty,pos,after,none⟩::rest) n ds w L:=λa h=>by
  obtain ⟨es,c,seen,h1,h2,h3,h4,h5,h6,h7⟩:=hi
  obtain ⟨e,he,s',rfl,ek,ev'⟩:=h7 p rfl
  have hx':=h.eval hx
  refine z1u h rfl rfl hn (w':=w) (v:=.tuple #[V p.1,p.2]) ?_ q
  rw [<-ek,<-ev']
  simp only [execOp,hx',Sem.run_bind,run_entry_at (P:=P) w gi g c s' es c e h5 h1 he h3,Result.andThen_ok,Sem.run_pure]
end
end Go.Lw
namespace Go.G08
open Go.Lw Go.G21
section
variable {κ:Type} [DecidableEq κ] {V:κ->Value} {w w':World} {g:Nat} {m:List (κ×Value)} {S:List Nat}
theorem _root_.Go.Lw.MapL.tf {T:Nat} (h:MapL V w g m) (hf:Fr S w w') (hS:OffT w T S):MapL V w' g m:=h.fr hf λhk=>by
 obtain ⟨T',cs,h1,_⟩:=hS g hk
 exact h.f.ne_blk h1 rfl
end
theorem BdO.tf {Sτ I base:Nat} {w w':World} {q:BdQ} {S:List Nat} (h:BdO Sτ I base w q) (hf:Fr S w w') (hS:OffT w Sτ S) (hI:OffT w I S):BdO Sτ I base w' q:=
 ⟨⟨z2a h.f.1 hf hS,λp hp=>z2a (h.f.2 p hp) hf hI⟩,⟨z2a h.b.1 hf hS,λp hp=>z2a (h.b.2 p hp) hf hI⟩⟩
structure KpM (Ts:List Nat) (g:Nat) (w w':World):Prop where
  size:w.heap.size<=w'.heap.size
  block:∀k,k<w.heap.size->k≠g->(∀(T:Nat) (cs:List Value),Blk w k T cs->T∉Ts)->w'.heap[k]?=w.heap[k]?
theorem KpM.refl (Ts:List Nat) (g:Nat) (w:World):KpM Ts g w w:=⟨Nat.le_refl _,λ_ _ _ _=>rfl⟩
theorem KpM.trans {Ts:List Nat} {g:Nat} {a b c:World} (h:KpM Ts g a b) (h':KpM Ts g b c):KpM Ts g a c:=
 ⟨Nat.le_trans h.size h'.size,λk hk hg hT=>by
  have e:=h.block k hk hg hT
  rw [<-e]
  exact h'.block k (Nat.lt_of_lt_of_le hk h.size) hg λT cs hb=>hT T cs (e.symm.trans hb)⟩
theorem KpM.of {Ts:List Nat} {g:Nat} {w w':World} {S:List Nat} (hf:Fr S w w') (hS:∀k∈S,k=g\/∃(T:Nat) (cs:List Value),Blk w k T cs/\T∈Ts):KpM Ts g w w':=
 ⟨hf.size,λk hk hg hT=>hf.block k hk λhm=>by
  rcases hS k hm with e|⟨T,cs,hb,hi⟩
  ·exact hg e
  exact hT T cs hb hi⟩
theorem j0g {w:World} {k T T':Nat} {cs cs':List Value} (h:Blk w k T cs) (h':Blk w k T' cs'):T=T':=by
 have e:=(show w.heap[k]?=some (.cells cs.toArray T (0,0)) from h).symm.trans (show w.heap[k]?=some (.cells cs'.toArray T' (0,0)) from h')
 simp only [Option.some.injEq,Obj.cells.injEq] at e
 exact e.2.1
theorem KpM.blk {Ts:List Nat} {g:Nat} {w w':World} (h:KpM Ts g w w') {k T:Nat} {cs:List Value} (hb:Blk w k T cs) (hg:k≠g) (hT:T∉Ts):Blk w' k T cs:=
 (h.block k hb.lt hg λT' cs' h'=>by rw [<-j0g hb h'];exact hT).trans hb
theorem KpM.map {κ:Type} [DecidableEq κ] {V:κ->Value} {em:List (κ×Value)} {Ts:List Nat} {g k:Nat} {w w':World} (h:KpM Ts g w w') (hb:MapL V w k em) (hg:k≠g):MapL V w' k em:=by
 obtain ⟨es,c,h1,h2⟩:=hb
 refine ⟨es,c,(h.block k (Array.getElem?_eq_some_iff.1 h1).1 hg λT cs hb=>?_).trans h1,h2⟩
 have e:=(show w.heap[k]?=some (.cells cs.toArray T (0,0)) from hb).symm.trans h1
 cases e
theorem KpM.mapF {κ:Type} [DecidableEq κ] {V:κ->Value} {f:κ->Option Value} {Ts:List Nat} {g k:Nat} {w w':World} (h:KpM Ts g w w') (hb:MapF V w k f) (hg:k≠g):MapF V w' k f:=by
 obtain ⟨es,c,m,h1,h2⟩:=hb
 refine ⟨es,c,m,(h.block k (Array.getElem?_eq_some_iff.1 h1).1 hg λT cs hb=>?_).trans h1,h2⟩
 have e:=(show w.heap[k]?=some (.cells cs.toArray T (0,0)) from hb).symm.trans h1
 cases e
theorem y5o {α:Type} {E:Enc α} {T base g:Nat} {w:World} {v:Value} {ys:List α} {Ts:List Nat} (h:Lw.Own E T base w v ys) (hT:T∈Ts):∀k∈z0v v,k=g\/∃(T:Nat) (cs:List Value),Blk w k T cs/\T∈Ts:=λk hk=>by
 obtain ⟨cs,hb⟩:=y4u h k hk
 exact .inr ⟨T,cs,hb,hT⟩
theorem u0y {g k T:Nat} {w:World} {cs:List Value} {Ts:List Nat} (h:Blk w k T cs) (hT:T∈Ts):∀k'∈[k],k'=g\/∃(T:Nat) (cs:List Value),Blk w k' T cs/\T∈Ts:=λk' hk=>by
 rw [List.mem_singleton] at hk;subst hk
 exact .inr ⟨T,cs,h,hT⟩
structure MA where
  gk:Nat
  gy:Nat
  cy:Nat
  gt:Nat
  ct:Nat
  gc:Nat
  wk:World
abbrev MA.YV (a:MA):Value:=.slice (some ⟨a.gy,0,none⟩) 6 a.cy
abbrev MA.TV (a:MA):Value:=.slice (some ⟨a.gt,0,none⟩) 6 a.ct
structure MQ where
  rk:Int
  q:BdQ
  ys:List YQ
  ts:List TQ
  cr:List Cx
  fa:SV
  fl:List LId
abbrev MQ.p (m:MQ):MSt:=⟨m.rk,m.q.p,m.ys.map YQ.p,z2c m.ts,m.cr,m.fl⟩
abbrev v5m (a:MA) (m:MQ):List Value:=[.int .i64 m.rk,.slice m.q.f.1 m.q.f.2.1 m.q.f.2.2,.slice m.q.b.1 m.q.b.2.1 m.q.b.2.2,a.YV,a.TV,.map (some a.gc),.slice m.fa.1 m.fa.2.1 m.fa.2.2]
def crK (p:LId×LId):Value:=.agg #[.int .u8 p.1.y,.int .i64 p.1.n,.int .u8 p.2.y,.int .i64 p.2.n]
def crM (l:List Cx):List ((LId×LId)×Value):=l.map λc=>((c.a,c.b),.int .i64 c.n)
structure MtOk (τ:TyK) (Mt:Nat):Prop where
  o:τ.Ok
  y:Mt≠τ.Y
  t:Mt≠τ.T
  l:Mt≠τ.L
  i:Mt≠τ.I
  p:Mt≠τ.P
  s:Mt≠τ.S
abbrev v5h (τ:TyK) (Mt:Nat):List Nat:=[Mt,τ.Y,τ.T,τ.L,τ.I]
structure FrM (τ:TyK) (Mt:Nat) (wS:World) (a:MA) (w:World):Prop where
  fr:Fr [] wS w
  kp:KpM (v5h τ Mt) a.gc a.wk w
theorem FrM.size {τ:TyK} {Mt:Nat} {wS w:World} {a:MA} (h:FrM τ Mt wS a w):wS.heap.size<=w.heap.size:=h.fr.size
theorem FrM.next {τ:TyK} {Mt:Nat} {wS w w':World} {a:MA} (h:FrM τ Mt wS a w) (hf:Fr [] w w'):FrM τ Mt wS a w':=⟨h.fr.next hf,h.kp.trans (KpM.of hf (by simp))⟩
theorem FrM.step {τ:TyK} {Mt:Nat} {wS w w':World} {a:MA} {S:List Nat} (h:FrM τ Mt wS a w) (hf:Fr S w w') (hS:∀k∈S,k=a.gc\/∃(T:Nat) (cs:List Value),Blk w k T cs/\T∈v5h τ Mt) (hlt:∀k∈S,k<wS.heap.size->k∈([]:List Nat)):FrM τ Mt wS a w':=⟨h.fr.step hf hlt,h.kp.trans (KpM.of hf hS)⟩
structure MkM (τ:TyK) (Mt:Nat) (wS:World) (a:MA) (w:World) (m:MQ):Prop where
  k:Blk w a.gk Mt (v5m a m)
  b:BdO τ.S τ.I wS.heap.size w m.q
  y:YsO τ wS.heap.size w a.YV m.ys
  t:TbO τ wS.heap.size w a.TV m.ts
  c:MapL crK w a.gc (crM m.cr)
  f:Lw.Own z1h τ.I wS.heap.size w (slv m.fa) m.fl
  fb:∀s∈m.q.fs++m.q.bs,∀k∈z0v (slv s.1),k∉z0v (slv m.fa)
  ft:∀i,i<6->∀q∈(m.ts.getD i tq0).2,∀k∈z0v (slv q.th),k∉z0v (slv m.fa)
  ly:m.ys.length=6
  lt:m.ts.length=6
  gk:wS.heap.size<=a.gk
  gc:wS.heap.size<=a.gc
  fr:FrM τ Mt wS a w
def MRet (τ:TyK) (Mt:Nat) (wS:World) (a:MA) (x:MR) (r:Value) (w':World):Prop:=
  FrM τ Mt wS a w'/\match x with
    | .error e=>r=.int .i64 e/\e≠0
    | .ok p=>r=.int .i64 0/\∃m,MkM τ Mt wS a w' m/\m.p=p
section
variable {τ:TyK} {Mt:Nat} {wS w w':World} {a:MA} {m:MQ} {j:Nat} {y:YQ}
theorem MRet.err {x:MR} {e:Int} {w':World} (hx:x=.error e) (he:e≠0) (hf:FrM τ Mt wS a w'):MRet τ Mt wS a x (.int .i64 e) w':=by subst hx;exact ⟨hf,rfl,he⟩
theorem MRet.ok {x:MR} {m:MQ} {w':World} (hx:x=.ok m.p) (h:MkM τ Mt wS a w' m):MRet τ Mt wS a x (.int .i64 0) w':=by subst hx;exact ⟨h.fr,rfl,m,h,rfl⟩
theorem MkM.ext (h:MkM τ Mt wS a w m) (hf:Fr [] w w'):MkM τ Mt wS a w' m:=
 ⟨h.k.ext hf,h.b.ext hf,h.y.ext hf,h.t.ext hf,h.c.fr hf (by simp),h.f.ext hf,h.fb,h.ft,h.ly,h.lt,h.gk,h.gc,h.fr.next hf⟩
theorem MkM.yarn (h:MkM τ Mt wS a w m) (hK:MtOk τ Mt) (hj:j<6) (ho:Lw.Own z2s τ.Y wS.heap.size w' a.YV (m.ys.set j y)) (hf:Fr [a.gy] w w') (hp:Lw.Own z1t τ.P wS.heap.size w (slv y.pe) y.pes):MkM τ Mt wS a w' { m with ys:=m.ys.set j y }:=by
 have o:∀T,T≠τ.Y->OffT w T [a.gy]:=λT hT=>z5t h.y.out (Ne.symm hT)
 refine ⟨y5t h.k hf (o _ hK.y),BdO.tf h.b hf (o _ (Ne.symm hK.o.ys)) (o _ (Ne.symm hK.o.yi)),h.y.put (by rw [h.ly];exact hj) hK.o ho hf hp,h.t.tf hf (o _ (Ne.symm hK.o.yt)) (o _ (Ne.symm hK.o.yl)) (o _ (Ne.symm hK.o.yi)) (o _ (Ne.symm hK.o.yp)),h.c.tf hf (o _ hK.y),z2a h.f hf (o _ (Ne.symm hK.o.yi)),h.fb,h.ft,by rw [List.length_set];exact h.ly,h.lt,h.gk,h.gc,h.fr.step hf (y5o h.y.out (by simp [v5h])) λk hk hlt=>?_⟩
 have:=(h.y.out.blk k hk).1;omega
theorem MkM.beds {q:BdQ} {r:Int} (h:MkM τ Mt wS a w m) (hK:MtOk τ Mt) (hq:BdO τ.S τ.I wS.heap.size w q) (hk:Blk w' a.gk Mt (v5m a { m with q:=q,rk:=r })) (hf:Fr [a.gk] w w') (hfb:∀s∈q.fs++q.bs,∀k∈z0v (slv s.1),k∉z0v (slv m.fa)):MkM τ Mt wS a w' { m with q:=q,rk:=r }:=by
 have o:∀T,T≠Mt->OffT w T [a.gk]:=λT hT=>OffT.one h.k (Ne.symm hT)
 refine ⟨hk,BdO.tf hq hf (o _ (Ne.symm hK.s)) (o _ (Ne.symm hK.i)),h.y.tf hf (o _ (Ne.symm hK.y)) (o _ (Ne.symm hK.p)),h.t.tf hf (o _ (Ne.symm hK.t)) (o _ (Ne.symm hK.l)) (o _ (Ne.symm hK.i)) (o _ (Ne.symm hK.p)),h.c.tf hf (o _ (Ne.symm hK.y)),z2a h.f hf (o _ (Ne.symm hK.i)),hfb,h.ft,h.ly,h.lt,h.gk,h.gc,h.fr.step hf (u0y h.k (by simp [v5h])) λk hk hlt=>?_⟩
 rw [List.mem_singleton] at hk;have:=h.gk;omega
theorem y3i {Sτ I:Nat} {q:BdQ} {v:Value} {ys:List LId} {T base b:Nat} (hq:BdO Sτ I b w' q) (hv:Lw.Own z1h T base w v ys) (hb:w.heap.size<=b):∀s∈q.fs++q.bs,∀k∈z0v (slv s.1),k∉z0v v:=λs hs k hk hb=>by
 have:=(hv.blk k hb).2
 rcases List.mem_append.1 hs with e|e
 ·have:=((hq.f.2 s e).blk k hk).1;omega
 have:=((hq.b.2 s e).blk k hk).1;omega
theorem MkM.fall {w2:World} {u:SV} {l:List LId} (h:MkM τ Mt wS a w m) (hK:MtOk τ Mt) (hip:τ.I≠τ.P) (h1:Lw.Own z1h τ.I wS.heap.size w' (slv u) l) (f1:Fr (z0v (slv m.fa)) w w') (hx:∀k∈z0v (slv u),k∈z0v (slv m.fa)\/w.heap.size<=k)
    (hk:Blk w2 a.gk Mt (v5m a { m with fa:=u,fl:=l })) (f2:Fr [a.gk] w' w2):MkM τ Mt wS a w2 { m with fa:=u,fl:=l }:=by
  have o1:∀T,T≠τ.I->OffT w T (z0v (slv m.fa)):=λT hT=>z5t h.f (Ne.symm hT)
  have k1:=y5t h.k f1 (o1 _ hK.i)
  have o2:∀T,T≠Mt->OffT w' T [a.gk]:=λT hT=>OffT.one k1 (Ne.symm hT)
  have dx:∀ {v:Value} {xs:List LId},Lw.Own z1h τ.I wS.heap.size w v xs->(∀k∈z0v v,k∉z0v (slv m.fa))->∀k∈z0v v,k∉z0v (slv u):=λho hd k hk hb=>by
    rcases hx k hb with e|e
    · exact hd k hk e
    · have:=(ho.blk k hk).2;omega
  have fi:∀ {v:Value} {xs:List LId},Lw.Own z1h τ.I wS.heap.size w v xs->(∀k∈z0v v,k∉z0v (slv m.fa))->Lw.Own z1h τ.I wS.heap.size w2 v xs:=λho hd=>z2a (ho.fr f1 λk hk hb=>hd k hb hk) f2 (o2 _ (Ne.symm hK.i))
  have hfs:∀s∈m.q.fs,Lw.Own z1h τ.I wS.heap.size w2 (slv s.1) s.2:=λs hs=>fi (h.b.f.2 s hs) (h.fb s (List.mem_append.2 (.inl hs)))
  have hbs:∀s∈m.q.bs,Lw.Own z1h τ.I wS.heap.size w2 (slv s.1) s.2:=λs hs=>fi (h.b.b.2 s hs) (h.fb s (List.mem_append.2 (.inr hs)))
  refine ⟨hk,⟨⟨z2a (z2a h.b.f.1 f1 (o1 _ hK.o.si)) f2 (o2 _ (Ne.symm hK.s)),hfs⟩,⟨z2a (z2a h.b.b.1 f1 (o1 _ hK.o.si)) f2 (o2 _ (Ne.symm hK.s)),hbs⟩⟩,
    (h.y.tf f1 (o1 _ hK.o.yi) (o1 _ (Ne.symm hip))).tf f2 (o2 _ (Ne.symm hK.y)) (o2 _ (Ne.symm hK.p)),
    ⟨z2a (z2a h.t.out f1 (o1 _ hK.o.ti)) f2 (o2 _ (Ne.symm hK.t)),λi hi=>z2a (z2a (h.t.ins i hi) f1 (o1 _ hK.o.li)) f2 (o2 _ (Ne.symm hK.l)),h.t.off,λi hi q hq=>⟨fi (h.t.lps i hi q hq).1 (h.ft i (by rw [<-h.lt];exact hi) q hq),z2a (z2a (h.t.lps i hi q hq).2 f1 (o1 _ (Ne.symm hip))) f2 (o2 _ (Ne.symm hK.p))⟩⟩,
    (h.c.tf f1 (o1 _ hK.i)).tf f2 (o2 _ (Ne.symm hK.y)),z2a h1 f2 (o2 _ (Ne.symm hK.i)),λs hs=>?_,λi hi q hq=>dx (h.t.lps i (by rw [h.lt];exact hi) q hq).1 (h.ft i hi q hq),h.ly,h.lt,h.gk,h.gc,(h.fr.step f1 (y5o h.f (by simp [v5h])) λk hk hlt=>?_).step f2 (u0y k1 (by simp [v5h])) λk hk hlt=>?_⟩
  · rcases List.mem_append.1 hs with e|e
    · exact dx (h.b.f.2 s e) (h.fb s hs)
    · exact dx (h.b.b.2 s e) (h.fb s hs)
  · have:=(h.f.blk k hk).1;omega
  · rw [List.mem_singleton] at hk;have:=h.gk;omega
theorem MkM.mark (h:MkM τ Mt wS a w m):MkM τ Mt wS { a with wk:=w } w m:=⟨h.k,h.b,h.y,h.t,h.c,h.f,h.fb,h.ft,h.ly,h.lt,h.gk,h.gc,⟨h.fr.fr,KpM.refl _ _ _⟩⟩
theorem MkM.unmark (h:MkM τ Mt wS { a with wk:=w } w' m) (h0:FrM τ Mt wS a w):MkM τ Mt wS a w' m:=⟨h.k,h.b,h.y,h.t,h.c,h.f,h.fb,h.ft,h.ly,h.lt,h.gk,h.gc,⟨h.fr.fr,h0.kp.trans h.fr.kp⟩⟩
def u8g (x:MR):Int:=match x with
  | .error e=>e
  | .ok _=>0
theorem MRet.split {x:MR} {r:Value} (h:MRet τ Mt wS a x r w'):r=.int .i64 (u8g x)/\FrM τ Mt wS a w'/\∃m',u8g x=0->MkM τ Mt wS a w' m'/\x=.ok m'.p:=by
 obtain ⟨h1,h2⟩:=h
 cases x with
 | error e=>exact ⟨h2.1,h1,⟨0,⟨sv0,sv0,[],[]⟩,[],[],[],sv0,[]⟩,λe0=>absurd e0 h2.2⟩
 | ok p=>exact ⟨h2.1,h1,h2.2.choose,λ_=>⟨h2.2.choose_spec.1,congrArg Except.ok h2.2.choose_spec.2.symm⟩⟩
theorem y0o {x:MR} (h:u8g x≠0):x=.error (u8g x):=by cases x with
 | error e=>rfl
 | ok p=>exact absurd rfl h
theorem y3r (b n r:Int):-400<=z2q b n r/\z2q b n r<=400:=by
 unfold z2q;split
 ·omega
 rename_i h
 have h1:z3d b n=0:=Classical.not_not.1 λe=>h (.inl e)
 have h2:-4<=r/\r<=4:=Classical.not_not.1 λe=>h (.inr e)
 have:=z2v h1
 split<;>omega
def OwnIf {α:Type} (c:Prop) (E:Enc α) (T base:Nat) (w:World) (v:Value) (ys:List α):Prop:=c->Lw.Own E T base w v ys
theorem OwnIf.fr {α:Type} {c:Prop} {E:Enc α} {T base:Nat} {w w':World} {v:Value} {ys:List α} {S:List Nat} (h:OwnIf c E T base w v ys) (hf:Fr S w w') (hn:c->∀k∈S,k∉z0v v:=by simp[z0v]<;>omega):OwnIf c E T base w' v ys:=λhc=>(h hc).fr hf (hn hc)
theorem OwnIf.ext {α:Type} {c:Prop} {E:Enc α} {T base:Nat} {w w':World} {v:Value} {ys:List α} (h:OwnIf c E T base w v ys) (hf:Fr [] w w'):OwnIf c E T base w' v ys:=λhc=>(h hc).ext hf
theorem j1a (m:MQ) (y:Int):m.p.y y=(m.ys.getD (y-1).toNat yq0).p:=by
 unfold MSt.y
 rw [List.getD,List.getD,List.getElem?_map]
 cases m.ys[(y-1).toNat]?<;>rfl
theorem z9r {y:Int} (m:MQ) (q:YQ) (hj:(y-1).toNat=j):{ m with ys:=m.ys.set j q }.p=m.p.setY y q.p:=by
 subst hj;unfold MSt.setY MQ.p;simp only [List.map_set]
end
end Go.G08
namespace Go.Proofs.YtpgdchkdlgkmgaaGreatDoor
open Go.Lw Go.G21 Go.G08 _root_.Go.Proofs.Tryz
set_option maxHeartbeats 1000000 in
theorem x0u (q:YQ) (w0:World) (hp:Sl z1t w0 (slv q.pe) q.pes):Rets prog 110 #[.agg #[.bool q.inn,.int .i64 q.pl,.int .i64 q.ct,.bool q.nw,.slice q.pe.1 q.pe.2.1 q.pe.2.2]] w0 λr w'=>∃q':YQ,r=.tuple #[.agg #[.bool q'.inn,.int .i64 q'.pl,.int .i64 q'.ct,.bool q'.nw,.slice q'.pe.1 q'.pe.2.1 q'.pe.2.2],.int .i64 (lvE q.p)]/\(lvE q.p=0->q'=⟨false,0,q.ct,false,sv0,[]⟩)/\Fr [] w0 w':=by
 have hpl:=z1s hp
 have hpM:=hp.len_le
 unfold maxLen at hpM
 refine we [(0,.agg #[.bool q.inn,.int .i64 q.pl,.int .i64 q.ct,.bool q.nw,.slice q.pe.1 q.pe.2.1 q.pe.2.2])] func110 rfl ntmps110 rfl (.cons rfl .nil) ?_
 have hp0:=hp
 refine sr (bx rfl rfl rfl (λg1 w1 hg1 hb1 q1 z1=>(al y1j rfl rfl (λg2 w2 hg2 hb2 q2 z2=>(asg rfl (nn (sq (sr ?_))))))))
 replace hb1:=hb1.ext q2
 refine z0n rfl hb1 z6h ?_
 replace hp:=hp0.ext (q1.n1 q2)
 refine cl (ev1 rfl) j1s (z8o q _ hp) rfl ?_
 rintro _ w3 ⟨rfl,q3⟩
 refine asg rfl (nn (sr (mv rfl (ne' rfl rfl (nn (cd rfl (λc0=>?_) (λc0=>?_)))))))
 ·refine sr (z1r (cs:=[_,_,_,_,_]) z0g x0g z0s rfl ?_)
  refine mv rfl ?_
  replace hb2:=hb2.ext q3
  refine z0j (vs:=[_,_,_,_,_]) rfl rfl hb2 z6k (λw4 hb2 q4 z4=>(asg rfl (nn (rt (tr (rCT results110 rfl hb2 z6h rfl ?_))))))
  have he:lvE q.p=ynE q.p:=by unfold lvE;rw [if_pos c0]
  exact ⟨_,rfl,yq0,by rw [he];rfl,(λh=>absurd h (by rw [he];exact c0)),(q1.z3 q2 q3 q4)⟩
 refine sk (tn (sq (sr (fad rfl z9k ?_))))
 replace hb1:=hb1.ext q3
 refine z0i rfl hb1 rfl na4 (nt' rfl (nn (cd rfl (λc1=>?_) (λc1=>?_))))
 ·refine sr (z1r (cs:=[_,_,_,_,_]) z0g x0g z0s rfl ?_)
  replace hb2:=hb2.ext q3
  refine z0j (vs:=[_,_,_,_,_]) rfl rfl hb2 z6k (λw5 hb2 q5 z5=>(asg rfl (nn (rt (tr (rCT results110 rfl hb2 z6h rfl ?_))))))
  have he:lvE q.p=12:=by unfold lvE;rw [if_neg c0,if_pos (by simpa using c1)]
  exact ⟨_,rfl,yq0,by rw [he];rfl,(λh=>absurd h (by rw [he];decide)),(q1.z3 q2 q3 q5)⟩
 refine sk (tn (sr (fad rfl y0b (z0i rfl hb1 rfl na3 (z1r (cs:=[_,_,_,_,_]) (ev1 rfl) x0g (z0f rfl rfl rfl z0s) rfl ?_)))))
 replace hb2:=hb2.ext q3
 refine z0j (vs:=[_,_,_,_,_]) rfl rfl hb2 z6k (λw6 hb2 q6 z6=>(asg rfl (nn (rt (rCT results110 rfl hb2 z6h rfl ?_)))))
 have he:lvE q.p=0:=by unfold lvE;rw [if_neg c0,if_neg (by simpa using c1)]
 exact ⟨_,rfl,⟨false,0,q.ct,false,sv0,[]⟩,by rw [he];rfl,(λ_=>rfl),(q1.z3 q2 q3 q6)⟩
theorem j0y (v:Value) (l:List Int) (w0:World) (hs:Sl Enc.i64 w0 v l) (hl:l.length<=1000):Rets prog 121 #[v] w0 λr w'=>r=.int .i64 (orZ l)/\Fr [] w0 w':=by
 obtain ⟨A,c,rfl,hcc,hM,hA⟩:=id hs
 clear hA
 unfold maxLen at hM
 refine we [(0,.slice A l.length c)] func121 rfl ntmps121 rfl (.cons rfl .nil) ?_
 have hs0:=hs
 refine sr (asg rfl (nn (sr (asg rfl (nn (sq (sr (mv rfl (lnS rfl underlying85 (mv rfl (nn (bl ?_))))))))))))
 refine lpK (ι:=Nat) [(3,_),(6,_),(7,_)] (λi=>[(8,.int .i64 (i:Int))]) (λi w'=>Fr [] w0 w'/\i<=l.length/\∀j,j<i->l.getD j 0=0) (λi=>l.length-i) 0 (.c4 rfl rfl rfl rfl) ⟨Fr.refl _ _,⟨Nat.zero_le _,λj h=>absurd h (by omega)⟩⟩ ?_
 rintro i w1 ⟨q1,⟨hi,hz⟩⟩
 refine kpC [(3,_),(6,_),(7,_),(8,_)] (.c4 rfl rfl rfl rfl) (sr (lt' rfl rfl (nn (sq (cd rfl (λc0=>?_) (λc0=>?_))))))
 ·refine sk (tn (sq (bl (sr ?_))))
  replace hs:=hs0.ext q1
  refine z1a (0) rfl hs rfl y5k z1f (λad10 hc10=>?_)
  refine z1i rfl (hc10 _ hs) na3 (asg rfl (nn (sr (mv rfl (mv rfl (ne' rfl rfl (nn (cd rfl (λc1=>?_) (λc1=>?_)))))))))
  ·refine sr (mv rfl (asg rfl (kpL [(2,_)] (.cons rfl .nil) (nn (rt (rb (tr (tr (rb (tr (r1 results121 rfl ?_)))))))))))
   exact ⟨_,rfl,congrArg (Value.int .i64) (x9n (by omega) hz (by omega)).symm,q1⟩
  refine sk (bn' (tn (rg (z0y rfl rfl (wi6 (by omega)) (mv rfl (nl ?_))))))
  exact lpE (i+1) (.c4 rfl rfl rfl rfl) ⟨q1,⟨by omega,λj h=>by
   by_cases e:j=i
   ·subst e;omega
   exact hz j (by omega)⟩⟩ (by omega)
 obtain rfl:i=l.length:=by omega
 refine ex (te (te (xh (tn (sr (mv rfl (asg rfl (kpL [(2,_)] (.cons rfl .nil) (nn (rt (r1 results121 rfl ?_)))))))))))
 exact ⟨_,rfl,congrArg (Value.int .i64) (y9g hz).symm,q1⟩
theorem y0c (x1 x2:LId) (w0:World):Rets prog 74 #[.agg #[.int .u8 x1.y,.int .i64 x1.n],.agg #[.int .u8 x2.y,.int .i64 x2.n]] w0 λr w'=>r=.int .i64 (z6m x1 x2)/\Fr [] w0 w':=by
 refine we [(0,.agg #[.int .u8 x1.y,.int .i64 x1.n]),(1,.agg #[.int .u8 x2.y,.int .i64 x2.n])] func74 rfl ntmps74 rfl (.c2 rfl rfl) (sr (bx rfl rfl rfl (λg2 w1 hg2 hb2 q1 z1=>(bx rfl rfl rfl (λg3 w2 hg3 hb3 q2 z2=>(asg rfl (nn (sq ?_))))))))
 intro a h
 refine z0h none (λwb w'=>Fr [] wb w') z2r ?_;intro w3 q3
 replace hb2:=hb2.ext (q2.n1 q3)
 replace hb3:=hb3.ext q3
 have hC:Fr [] w3 w3:=Fr.refl _ _
 have hb2_b:=hb2
 have hb3_b:=hb3
 refine z0c 0 h rfl z7e rfl λa h=>z0l 1 h rfl (λ_ hw=>hb2_b.ext hw) rfl na5 rfl λa h=>z0c 2 h rfl z7e rfl λa h=>z0l 3 h rfl (λ_ hw=>hb3_b.ext hw) rfl na5 rfl λa h=>z0c 5 h rfl z8j rfl λa h=>z0l 6 h rfl (λ_ hw=>hb2_b.ext hw) rfl na3 rfl λa h=>z0c 7 h rfl z8j rfl λa h=>z0l 8 h rfl (λ_ hw=>hb3_b.ext hw) rfl na3 rfl λa h=>z0d 4 rfl ?_
 refine z0m h (z0a rfl (z0a rfl z0g)) (mkC func122) (j2a _ _ _) ?_;rintro _ w4 ⟨rfl,q4⟩ a h
 replace hC:=hC.next q4
 refine z0b ?_
 refine z0d 9 rfl ?_
 refine z0m h (z0a rfl (z0a rfl z0g)) (mkC func123) (v3k _ _ _) ?_;rintro _ w5 ⟨rfl,q5⟩ a h
 replace hb2:=hb2.ext (q4.n1 q5)
 replace hb3:=hb3.ext (q4.n1 q5)
 replace hC:=hC.next q5
 refine z0b ?_
 refine z0d 10 rfl ?_
 refine z2o ([z9i x1.y x2.y,z9i x1.n x2.n]) h (z0a rfl (z0a rfl z0g)) rfl rfl rfl y5k λg_15 w6 hg ho15 q6 hz a h=>?_
 have hn__15:g2<g_15:=by have:=hb2.lt;omega
 have hn__15:g3<g_15:=by have:=hb3.lt;omega
 replace hC:=hC.next q6
 refine z0b ?_
 refine z0d 11 rfl ?_
 refine z0m h (z0a rfl z0g) (mkC func121) (j0y _ [z9i x1.y x2.y,z9i x1.n x2.n] _ ho15.sl (by simp)) ?_;rintro _ w7 ⟨rfl,q7⟩ a h
 replace hC:=hC.next q7
 refine z0b ?_
 refine z0d 12 rfl ?_
 refine z0q h rfl λa h=>?_
 refine z0b ?_
 refine z0r ?_
 clear hC hb2_b hb3_b
 refine bk (h.sub (L':=[(4,_)]) (.cons rfl .nil)) (tn (rt (r1 results74 rfl ?_)))
 exact ⟨_,rfl,congrArg (Value.int .i64) (x6p x1 x2),(q1.n6 q2 q3 q4 q5 q6 q7)⟩
theorem y1r:ElemOf prog 33 82 z2s 56:=ElemOf.mk' (z:=(.agg #[.bool false,.int .i64 0,.int .i64 0,.bool false,.slice none 0 0])) underlying33 (by kernel_rfl) rfl
theorem z2w:z0z prog 137 2 3:=λ_ _=>by kernel_rfl
theorem y1w:z2b prog 33:=λ_=>by kernel_rfl
abbrev τd:TyK:=⟨82,46,89,87,100,37,39⟩
theorem τd_ok:τd.Ok:=by constructor<;>decide
theorem mtd:MtOk τd 137:=⟨τd_ok,by decide,by decide,by decide,by decide,by decide,by decide⟩
set_option maxHeartbeats 1000000 in
theorem j2v (wS:World) (ka:MA) (m:MQ) (o:MOp) (w0:World) (hM:MkM τd 137 wS ka w0 m) (hy:1<=o.y/\o.y<=6):Rets prog 64 #[.pointer (some ⟨ka.gk,0,none⟩),opV o] w0 λr w'=>MRet τd 137 wS ka (inM m.p o) r w':=by
 have hzS:=hM.fr.size
 have hk:=hM.k
 have hkz:=hk.lt
 have hly:=hM.ly
 have hlt:=hM.lt
 have hgyz:=(hM.y.out.blk ka.gy (by simp [z0v])).2
 obtain ⟨j,hj,hoy⟩:∃j:Nat,j<6/\o.y=(j:Int)+1:=⟨(o.y-1).toNat,by omega,by omega⟩
 have hjy:(o.y-1).toNat=j:=by omega
 have hyp:m.p.y o.y=(m.ys.getD j yq0).p:=by rw [j1a,hjy]
 refine we [(0,.pointer (some ⟨ka.gk,0,none⟩)),(1,opV o)] func64 rfl ntmps64 rfl (.c2 rfl rfl) ?_
 have hM0:=hM
 refine sr (bx rfl rfl rfl (λg3 w1 hg3 hb3 q1 z1=>(asg rfl (nn (sq ?_)))))
 replace hM:=hM0.ext q1
 intro a h
 refine z0h none (λwb w'=>Fr [] wb w') z2r ?_;intro w2 q2
 have z2:=q2.size
 replace hM:=hM.ext q2
 replace hk:=hk.ext (q1.n1 q2)
 replace hb3:=hb3.ext q2
 have hC:Fr [] w2 w2:=Fr.refl _ _
 have hM_b:=hM
 have hk_b:=hk
 have hb3_b:=hb3
 refine z0e 0 h rfl rfl λa h=>z0o 1 h rfl rfl λa h=>z0c 2 h rfl z2w rfl λa h=>z0l 3 h rfl (λ_ hw=>hk_b.ext hw) rfl y1w rfl λa h=>z0c 4 h rfl z3i rfl λa h=>z0l 5 h rfl (λ_ hw=>hb3_b.ext hw) rfl na5 rfl λa h=>z2y 6 h wn rfl rfl (by first|exact IntWalk.u8_in _ (by omega)|rfl) rfl λa h=>z1k (p:=j) (yq0) 7 h rfl hM.y.out.sl rfl y1r rfl λad15 hc15 a h=>z2l (cs:=z2s.enc (m.ys.getD j yq0)) 8 h wn rfl (λ_ hw=>hc15 _ (hM_b.ext hw).y.out.sl) z6h rfl λa h=>z0c 9 h rfl z8a rfl λa h=>z0l 10 h rfl (λ_ hw=>hb3_b.ext hw) rfl y7e rfl λa h=>?_
 refine z2d 11 15 (by kernel_rfl) rfl rfl ?_ ?_
 ·refine z0m h (z0a rfl (z0a rfl z0g)) (mkC func109) (x0w (m.ys.getD j yq0) o.d _ (hM.y.ins j (by omega)).sl) ?_;rintro _ w3 ⟨qn,rfl,hen1,q3⟩ a h
  have z3:=q3.size
  replace hk:=hk.ext q3
  replace hb3:=hb3.ext q3
  replace hC:=hC.next q3
  refine z0b ?_
  refine z0e 12 h rfl rfl λa h=>z0k 13 h rfl rfl rfl λa h=>z0k 14 h rfl rfl rfl λa h=>z0d 15 rfl ?_
  refine z1d h y1j rfl λw4 hb5 q4 hz a h=>?_
  obtain ⟨g_5,hg⟩:∃g,g=w3.heap.size:=⟨_,rfl⟩;rw [<-hg] at hb5 h hz
  have hn_.gk_5:ka.gk<g_5:=by have:=hk.lt;omega
  have hn__5:g3<g_5:=by have:=hb3.lt;omega
  have z4:=q4.size
  replace hM:=hM.ext (q3.n1 q4)
  replace hk:=hk.ext q4
  replace hb3:=hb3.ext q4
  replace hC:=hC.next q4
  refine z0b ?_
  refine z0d 16 rfl ?_
  refine z0u h rfl rfl hb5 rfl z6k ?_ (h1:=(by first|(simp [Value.oneCell',S];done)|exact z2s.one (m.ys.getD j yq0)));clear h a;intro w5 hbn q5 hz a h
  have z5:=q5.size
  replace hk:=hk.fr q5
  replace hb3:=hb3.fr q5
  replace hC:=hC.sp q5
  clear hb5 hz;have hb5:Blk w5 g_5 _ [_,_,_,_,_]:=hbn;clear hbn
  refine z0b ?_
  refine z0d 17 rfl ?_
  refine z0q h rfl λa h=>?_
  refine z0b ?_
  refine z0r ?_
  clear hC hM_b hk_b hb3_b
  refine bk (h.sub (L':=[(0,_),(3,_),(5,_),(6,_)]) (.c4 rfl rfl rfl rfl)) (tn (sq (sr (mv rfl (eq' rfl rfl (nn (cd rfl (λc0=>?_) (λc0=>?_))))))))
  ·obtain rfl:=hen1 c0
   replace hM:=hM0.ext (q1.z4 q2 q3 q4 q5)
   intro a h
   refine z0h (some 9) (λwb w'=>Fr [] wb w') z2r ?_;intro w6 q6
   have z6:=q6.size
   replace hM:=hM.ext q6
   replace hk:=hk.ext q6
   replace hb3:=hb3.ext q6
   replace hb5:=hb5.ext q6
   have hC:Fr [] w6 w6:=Fr.refl _ _
   have hM_b:=hM
   have hk_b:=hk
   have hb3_b:=hb3
   have hb5_b:=hb5
   refine z0e 0 h rfl rfl λa h=>z0o 1 h rfl rfl λa h=>z0c 2 h rfl z2w rfl λa h=>z0l 3 h rfl (λ_ hw=>hk_b.ext hw) rfl y1w rfl λa h=>z0c 4 h rfl z3i rfl λa h=>z0l 5 h rfl (λ_ hw=>hb3_b.ext hw) rfl na5 rfl λa h=>z2y 6 h wn rfl rfl (by first|exact IntWalk.u8_in _ (by omega)|rfl) rfl λa h=>z0t 7 h rfl (λ_ hw=>hb5_b.ext hw) z6h rfl λa h=>z1n 8 (by kernel_rfl) (by kernel_rfl) (by kernel_rfl) hC (p:=j) h wn rfl rfl y1r (by omega) (by omega) (by omega) rfl rfl λa h=>z0d 9 rfl ?_
   refine z1b (i:=j) (⟨true,if o.d=1 then 179 else -13,(m.ys.getD j yq0).ct,true,sv0,[]⟩:YQ) h rfl rfl hM.y.out (by rw [hM.ly];exact hj) rfl z6k λw7 ho_2 q7 _hz a h=>?_
   replace hM:=hM.yarn mtd hj ho_2 q7 (Own.nil _)
   have hM0:=hM
   clear ho_2
   have z7:=q7.size
   replace hb3:=hb3.fr q7
   replace hb5:=hb5.fr q7
   have hk:=hM.k
   clear _hz
   refine z1o ?_
   refine z0r ?_
   clear hC hM_b hk_b hb3_b hb5_b
   refine bk (h.sub (L':=[(6,_)]) (.cons rfl .nil)) (tn (sr (mv rfl (asg rfl (nn (rt (r1 results64 rfl ?_)))))))
   exact ⟨_,rfl,by rw [c0];exact MRet.ok (by unfold inM;rw [hyp,if_neg (λe=>e c0)];exact congrArg Except.ok (z9r m (⟨true,if o.d=1 then 179 else -13,(m.ys.getD j yq0).ct,true,sv0,[]⟩:YQ) hjy).symm) hM⟩
  refine sk (tn (sr (mv rfl (asg rfl (kpL [(4,_)] (.cons rfl .nil) (nn (rt (r1 results64 rfl ?_))))))))
  replace hM:=hM0.ext (q1.z4 q2 q3 q4 q5)
  exact ⟨_,rfl,MRet.err (by unfold inM;rw [hyp,if_pos c0]) c0 hM.fr⟩
 refine z1d h y1j rfl λw8 hb5 q8 hz a h=>?_
 obtain ⟨g_5,hg⟩:∃g,g=w2.heap.size:=⟨_,rfl⟩;rw [<-hg] at hb5 h hz
 have hn_.gk_5:ka.gk<g_5:=by have:=hk.lt;omega
 have hn__5:g3<g_5:=by have:=hb3.lt;omega
 have z8:=q8.size
 replace hM:=hM.ext q8
 replace hC:=hC.next q8
 refine z0b ?_
 refine z0d 11 rfl ?_
 refine z0m h (z0a rfl (z0a rfl z0g)) (mkC func109) (x0w (m.ys.getD j yq0) o.d _ (hM.y.ins j (by omega)).sl) ?_;rintro _ w9 ⟨qn,rfl,hen1,q9⟩ a h
 have z9:=q9.size
 replace hM:=hM.ext q9
 replace hk:=hk.ext (q8.n1 q9)
 replace hb3:=hb3.ext (q8.n1 q9)
 replace hb5:=hb5.ext q9
 replace hC:=hC.next q9
 refine z0b ?_
 refine z0e 12 h rfl rfl λa h=>z0k 13 h rfl rfl rfl λa h=>z0k 14 h rfl rfl rfl λa h=>z0d 16 rfl ?_
 refine z0u h rfl rfl hb5 rfl z6k ?_ (h1:=(by first|(simp [Value.oneCell',S];done)|exact z2s.one (m.ys.getD j yq0)));clear h a;intro w10 hbn q10 hz a h
 have z10:=q10.size
 replace hk:=hk.fr q10
 replace hb3:=hb3.fr q10
 replace hC:=hC.sp q10
 clear hb5 hz;have hb5:Blk w10 g_5 _ [_,_,_,_,_]:=hbn;clear hbn
 refine z0b ?_
 refine z0d 17 rfl ?_
 refine z0q h rfl λa h=>?_
 refine z0b ?_
 refine z0r ?_
 clear hC hM_b hk_b hb3_b
 refine bk (h.sub (L':=[(0,_),(3,_),(5,_),(6,_)]) (.c4 rfl rfl rfl rfl)) (tn (sq (sr (mv rfl (eq' rfl rfl (nn (cd rfl (λc0=>?_) (λc0=>?_))))))))
 ·obtain rfl:=hen1 c0
  replace hM:=hM0.ext (q1.z4 q2 q8 q9 q10)
  intro a h
  refine z0h (some 9) (λwb w'=>Fr [] wb w') z2r ?_;intro w11 q11
  have z11:=q11.size
  replace hM:=hM.ext q11
  replace hk:=hk.ext q11
  replace hb3:=hb3.ext q11
  replace hb5:=hb5.ext q11
  have hC:Fr [] w11 w11:=Fr.refl _ _
  have hM_b:=hM
  have hk_b:=hk
  have hb3_b:=hb3
  have hb5_b:=hb5
  refine z0e 0 h rfl rfl λa h=>z0o 1 h rfl rfl λa h=>z0c 2 h rfl z2w rfl λa h=>z0l 3 h rfl (λ_ hw=>hk_b.ext hw) rfl y1w rfl λa h=>z0c 4 h rfl z3i rfl λa h=>z0l 5 h rfl (λ_ hw=>hb3_b.ext hw) rfl na5 rfl λa h=>z2y 6 h wn rfl rfl (by first|exact IntWalk.u8_in _ (by omega)|rfl) rfl λa h=>z0t 7 h rfl (λ_ hw=>hb5_b.ext hw) z6h rfl λa h=>z1n 8 (by kernel_rfl) (by kernel_rfl) (by kernel_rfl) hC (p:=j) h wn rfl rfl y1r (by omega) (by omega) (by omega) rfl rfl λa h=>z0d 9 rfl ?_
  refine z1b (i:=j) (⟨true,if o.d=1 then 179 else -13,(m.ys.getD j yq0).ct,true,sv0,[]⟩:YQ) h rfl rfl hM.y.out (by rw [hM.ly];exact hj) rfl z6k λw12 ho_2 q12 _hz a h=>?_
  replace hM:=hM.yarn mtd hj ho_2 q12 (Own.nil _)
  have hM0:=hM
  clear ho_2
  have z12:=q12.size
  replace hb3:=hb3.fr q12
  replace hb5:=hb5.fr q12
  have hk:=hM.k
  clear _hz
  refine z1o ?_
  refine z0r ?_
  clear hC hM_b hk_b hb3_b hb5_b
  refine bk (h.sub (L':=[(6,_)]) (.cons rfl .nil)) (tn (sr (mv rfl (asg rfl (nn (rt (r1 results64 rfl ?_)))))))
  exact ⟨_,rfl,by rw [c0];exact MRet.ok (by unfold inM;rw [hyp,if_neg (λe=>e c0)];exact congrArg Except.ok (z9r m (⟨true,if o.d=1 then 179 else -13,(m.ys.getD j yq0).ct,true,sv0,[]⟩:YQ) hjy).symm) hM⟩
 refine sk (tn (sr (mv rfl (asg rfl (kpL [(4,_)] (.cons rfl .nil) (nn (rt (r1 results64 rfl ?_))))))))
 replace hM:=hM0.ext (q1.z4 q2 q8 q9 q10)
 exact ⟨_,rfl,MRet.err (by unfold inM;rw [hyp,if_pos c0]) c0 hM.fr⟩
set_option maxHeartbeats 1000000 in
theorem u6d (wS:World) (ka:MA) (m:MQ) (o:MOp) (w0:World) (hM:MkM τd 137 wS ka w0 m) (hy:1<=o.y/\o.y<=6):Rets prog 65 #[.pointer (some ⟨ka.gk,0,none⟩),opV o] w0 λr w'=>MRet τd 137 wS ka (v5i m.p o) r w':=by
 have hzS:=hM.fr.size
 have hk:=hM.k
 have hkz:=hk.lt
 have hly:=hM.ly
 have hlt:=hM.lt
 have hgyz:=(hM.y.out.blk ka.gy (by simp [z0v])).2
 obtain ⟨j,hj,hoy⟩:∃j:Nat,j<6/\o.y=(j:Int)+1:=⟨(o.y-1).toNat,by omega,by omega⟩
 have hjy:(o.y-1).toNat=j:=by omega
 have hyp:m.p.y o.y=(m.ys.getD j yq0).p:=by rw [j1a,hjy]
 refine we [(0,.pointer (some ⟨ka.gk,0,none⟩)),(1,opV o)] func65 rfl ntmps65 rfl (.c2 rfl rfl) ?_
 have hM0:=hM
 refine sr (bx rfl rfl rfl (λg3 w1 hg3 hb3 q1 z1=>(asg rfl (nn (sq ?_)))))
 replace hM:=hM0.ext q1
 intro a h
 refine z0h none (λwb w'=>Fr [] wb w') z2r ?_;intro w2 q2
 have z2:=q2.size
 replace hM:=hM.ext q2
 replace hk:=hk.ext (q1.n1 q2)
 replace hb3:=hb3.ext q2
 have hC:Fr [] w2 w2:=Fr.refl _ _
 have hM_b:=hM
 have hk_b:=hk
 have hb3_b:=hb3
 refine z0e 0 h rfl rfl λa h=>z0o 1 h rfl rfl λa h=>z0c 2 h rfl z2w rfl λa h=>z0l 3 h rfl (λ_ hw=>hk_b.ext hw) rfl y1w rfl λa h=>z0c 4 h rfl z3i rfl λa h=>z0l 5 h rfl (λ_ hw=>hb3_b.ext hw) rfl na5 rfl λa h=>z2y 6 h wn rfl rfl (by first|exact IntWalk.u8_in _ (by omega)|rfl) rfl λa h=>z1k (p:=j) (yq0) 7 h rfl hM.y.out.sl rfl y1r rfl λad15 hc15 a h=>z2l (cs:=z2s.enc (m.ys.getD j yq0)) 8 h wn rfl (λ_ hw=>hc15 _ (hM_b.ext hw).y.out.sl) z6h rfl λa h=>z2d 9 13 (by kernel_rfl) rfl rfl ?_ ?_
 ·refine z0m h (z0a rfl z0g) (mkC func110) (x0u (m.ys.getD j yq0) _ (hM.y.ins j (by omega)).sl) ?_;rintro _ w3 ⟨qn,rfl,hen1,q3⟩ a h
  have z3:=q3.size
  replace hk:=hk.ext q3
  replace hb3:=hb3.ext q3
  replace hC:=hC.next q3
  refine z0b ?_
  refine z0e 10 h rfl rfl λa h=>z0k 11 h rfl rfl rfl λa h=>z0k 12 h rfl rfl rfl λa h=>z0d 13 rfl ?_
  refine z1d h y1j rfl λw4 hb5 q4 hz a h=>?_
  obtain ⟨g_5,hg⟩:∃g,g=w3.heap.size:=⟨_,rfl⟩;rw [<-hg] at hb5 h hz
  have hn_.gk_5:ka.gk<g_5:=by have:=hk.lt;omega
  have hn__5:g3<g_5:=by have:=hb3.lt;omega
  have z4:=q4.size
  replace hM:=hM.ext (q3.n1 q4)
  replace hk:=hk.ext q4
  replace hb3:=hb3.ext q4
  replace hC:=hC.next q4
  refine z0b ?_
  refine z0d 14 rfl ?_
  refine z0u h rfl rfl hb5 rfl z6k ?_ (h1:=(by first|(simp [Value.oneCell',S];done)|exact z2s.one (m.ys.getD j yq0)));clear h a;intro w5 hbn q5 hz a h
  have z5:=q5.size
  replace hk:=hk.fr q5
  replace hb3:=hb3.fr q5
  replace hC:=hC.sp q5
  clear hb5 hz;have hb5:Blk w5 g_5 _ [_,_,_,_,_]:=hbn;clear hbn
  refine z0b ?_
  refine z0d 15 rfl ?_
  refine z0q h rfl λa h=>?_
  refine z0b ?_
  refine z0r ?_
  clear hC hM_b hk_b hb3_b
  refine bk (h.sub (L':=[(0,_),(3,_),(5,_),(6,_)]) (.c4 rfl rfl rfl rfl)) (tn (sq (sr (mv rfl (eq' rfl rfl (nn (cd rfl (λc0=>?_) (λc0=>?_))))))))
  ·obtain rfl:=hen1 c0
   replace hM:=hM0.ext (q1.z4 q2 q3 q4 q5)
   intro a h
   refine z0h (some 9) (λwb w'=>Fr [] wb w') z2r ?_;intro w6 q6
   have z6:=q6.size
   replace hM:=hM.ext q6
   replace hk:=hk.ext q6
   replace hb3:=hb3.ext q6
   replace hb5:=hb5.ext q6
   have hC:Fr [] w6 w6:=Fr.refl _ _
   have hM_b:=hM
   have hk_b:=hk
   have hb3_b:=hb3
   have hb5_b:=hb5
   refine z0e 0 h rfl rfl λa h=>z0o 1 h rfl rfl λa h=>z0c 2 h rfl z2w rfl λa h=>z0l 3 h rfl (λ_ hw=>hk_b.ext hw) rfl y1w rfl λa h=>z0c 4 h rfl z3i rfl λa h=>z0l 5 h rfl (λ_ hw=>hb3_b.ext hw) rfl na5 rfl λa h=>z2y 6 h wn rfl rfl (by first|exact IntWalk.u8_in _ (by omega)|rfl) rfl λa h=>z0t 7 h rfl (λ_ hw=>hb5_b.ext hw) z6h rfl λa h=>z1n 8 (by kernel_rfl) (by kernel_rfl) (by kernel_rfl) hC (p:=j) h wn rfl rfl y1r (by omega) (by omega) (by omega) rfl rfl λa h=>z0d 9 rfl ?_
   refine z1b (i:=j) (⟨false,0,(m.ys.getD j yq0).ct,false,sv0,[]⟩:YQ) h rfl rfl hM.y.out (by rw [hM.ly];exact hj) rfl z6k λw7 ho_2 q7 _hz a h=>?_
   replace hM:=hM.yarn mtd hj ho_2 q7 (Own.nil _)
   have hM0:=hM
   clear ho_2
   have z7:=q7.size
   replace hb3:=hb3.fr q7
   replace hb5:=hb5.fr q7
   have hk:=hM.k
   clear _hz
   refine z1o ?_
   refine z0r ?_
   clear hC hM_b hk_b hb3_b hb5_b
   refine bk (h.sub (L':=[(6,_)]) (.cons rfl .nil)) (tn (sr (mv rfl (asg rfl (nn (rt (r1 results65 rfl ?_)))))))
   exact ⟨_,rfl,by rw [c0];exact MRet.ok (by unfold v5i;rw [hyp,if_neg (λe=>e c0)];exact congrArg Except.ok (z9r m (⟨false,0,(m.ys.getD j yq0).ct,false,sv0,[]⟩:YQ) hjy).symm) hM⟩
  refine sk (tn (sr (mv rfl (asg rfl (kpL [(4,_)] (.cons rfl .nil) (nn (rt (r1 results65 rfl ?_))))))))
  replace hM:=hM0.ext (q1.z4 q2 q3 q4 q5)
  exact ⟨_,rfl,MRet.err (by unfold v5i;rw [hyp,if_pos c0]) c0 hM.fr⟩
 refine z1d h y1j rfl λw8 hb5 q8 hz a h=>?_
 obtain ⟨g_5,hg⟩:∃g,g=w2.heap.size:=⟨_,rfl⟩;rw [<-hg] at hb5 h hz
 have hn_.gk_5:ka.gk<g_5:=by have:=hk.lt;omega
 have hn__5:g3<g_5:=by have:=hb3.lt;omega
 have z8:=q8.size
 replace hM:=hM.ext q8
 replace hC:=hC.next q8
 refine z0b ?_
 refine z0d 9 rfl ?_
 refine z0m h (z0a rfl z0g) (mkC func110) (x0u (m.ys.getD j yq0) _ (hM.y.ins j (by omega)).sl) ?_;rintro _ w9 ⟨qn,rfl,hen1,q9⟩ a h
 have z9:=q9.size
 replace hM:=hM.ext q9
 replace hk:=hk.ext (q8.n1 q9)
 replace hb3:=hb3.ext (q8.n1 q9)
 replace hb5:=hb5.ext q9
 replace hC:=hC.next q9
 refine z0b ?_
 refine z0e 10 h rfl rfl λa h=>z0k 11 h rfl rfl rfl λa h=>z0k 12 h rfl rfl rfl λa h=>z0d 14 rfl ?_
 refine z0u h rfl rfl hb5 rfl z6k ?_ (h1:=(by first|(simp [Value.oneCell',S];done)|exact z2s.one (m.ys.getD j yq0)));clear h a;intro w10 hbn q10 hz a h
 have z10:=q10.size
 replace hk:=hk.fr q10
 replace hb3:=hb3.fr q10
 replace hC:=hC.sp q10
 clear hb5 hz;have hb5:Blk w10 g_5 _ [_,_,_,_,_]:=hbn;clear hbn
 refine z0b ?_
 refine z0d 15 rfl ?_
 refine z0q h rfl λa h=>?_
 refine z0b ?_
 refine z0r ?_
 clear hC hM_b hk_b hb3_b
 refine bk (h.sub (L':=[(0,_),(3,_),(5,_),(6,_)]) (.c4 rfl rfl rfl rfl)) (tn (sq (sr (mv rfl (eq' rfl rfl (nn (cd rfl (λc0=>?_) (λc0=>?_))))))))
 ·obtain rfl:=hen1 c0
  replace hM:=hM0.ext (q1.z4 q2 q8 q9 q10)
  intro a h
  refine z0h (some 9) (λwb w'=>Fr [] wb w') z2r ?_;intro w11 q11
  have z11:=q11.size
  replace hM:=hM.ext q11
  replace hk:=hk.ext q11
  replace hb3:=hb3.ext q11
  replace hb5:=hb5.ext q11
  have hC:Fr [] w11 w11:=Fr.refl _ _
  have hM_b:=hM
  have hk_b:=hk
  have hb3_b:=hb3
  have hb5_b:=hb5
  refine z0e 0 h rfl rfl λa h=>z0o 1 h rfl rfl λa h=>z0c 2 h rfl z2w rfl λa h=>z0l 3 h rfl (λ_ hw=>hk_b.ext hw) rfl y1w rfl λa h=>z0c 4 h rfl z3i rfl λa h=>z0l 5 h rfl (λ_ hw=>hb3_b.ext hw) rfl na5 rfl λa h=>z2y 6 h wn rfl rfl (by first|exact IntWalk.u8_in _ (by omega)|rfl) rfl λa h=>z0t 7 h rfl (λ_ hw=>hb5_b.ext hw) z6h rfl λa h=>z1n 8 (by kernel_rfl) (by kernel_rfl) (by kernel_rfl) hC (p:=j) h wn rfl rfl y1r (by omega) (by omega) (by omega) rfl rfl λa h=>z0d 9 rfl ?_
  refine z1b (i:=j) (⟨false,0,(m.ys.getD j yq0).ct,false,sv0,[]⟩:YQ) h rfl rfl hM.y.out (by rw [hM.ly];exact hj) rfl z6k λw12 ho_2 q12 _hz a h=>?_
  replace hM:=hM.yarn mtd hj ho_2 q12 (Own.nil _)
  have hM0:=hM
  clear ho_2
  have z12:=q12.size
  replace hb3:=hb3.fr q12
  replace hb5:=hb5.fr q12
  have hk:=hM.k
  clear _hz
  refine z1o ?_
  refine z0r ?_
  clear hC hM_b hk_b hb3_b hb5_b
  refine bk (h.sub (L':=[(6,_)]) (.cons rfl .nil)) (tn (sr (mv rfl (asg rfl (nn (rt (r1 results65 rfl ?_)))))))
  exact ⟨_,rfl,by rw [c0];exact MRet.ok (by unfold v5i;rw [hyp,if_neg (λe=>e c0)];exact congrArg Except.ok (z9r m (⟨false,0,(m.ys.getD j yq0).ct,false,sv0,[]⟩:YQ) hjy).symm) hM⟩
 refine sk (tn (sr (mv rfl (asg rfl (kpL [(4,_)] (.cons rfl .nil) (nn (rt (r1 results65 rfl ?_))))))))
 replace hM:=hM0.ext (q1.z4 q2 q8 q9 q10)
 exact ⟨_,rfl,MRet.err (by unfold v5i;rw [hyp,if_pos c0]) c0 hM.fr⟩
theorem z3b:z0z prog 137 0 0:=λ_ _=>by kernel_rfl
set_option maxHeartbeats 1000000 in
theorem x2u (wS:World) (ka:MA) (m:MQ) (o:MOp) (w0:World) (hM:MkM τd 137 wS ka w0 m) (hi:MInv m.p) (hy:1<=o.y/\o.y<=6) (hn:z3d o.b o.p=0):Rets prog 112 #[.pointer (some ⟨ka.gk,0,none⟩),opV o] w0 λr w'=>r=.tuple #[.int .i64 (if z7n m.p o=0 then x3t m.p o else 0),.int .i64 (if z7n m.p o=0 then (z2q o.b o.p m.rk) else 0),.int .i64 (z7n m.p o)]/\Fr [] w0 w':=by
 have hzS:=hM.fr.size
 have hk:=hM.k
 have hkz:=hk.lt
 have hly:=hM.ly
 have hlt:=hM.lt
 have hgyz:=(hM.y.out.blk ka.gy (by simp [z0v])).2
 obtain ⟨j,hj,hoy⟩:∃j:Nat,j<6/\o.y=(j:Int)+1:=⟨(o.y-1).toNat,by omega,by omega⟩
 have hjy:(o.y-1).toNat=j:=by omega
 have hyp:m.p.y o.y=(m.ys.getD j yq0).p:=by rw [j1a,hjy]
 have hsr:=y3r o.b o.p m.rk
 have hnr:=z2v hn
 refine we [(0,.pointer (some ⟨ka.gk,0,none⟩)),(1,opV o)] func112 rfl ntmps112 rfl (.c2 rfl rfl) ?_
 have hM0:=hM
 refine sr (bx rfl rfl rfl (λg3 w1 hg3 hb3 q1 z1=>(asg rfl (asg rfl (asg rfl (nn (sq ?_)))))))
 replace hM:=hM0.ext q1
 intro a h
 refine z0h none (λwb w'=>Fr [] wb w') z2r ?_;intro w2 q2
 have z2:=q2.size
 replace hM:=hM.ext q2
 replace hk:=hk.ext (q1.n1 q2)
 replace hb3:=hb3.ext q2
 have hC:Fr [] w2 w2:=Fr.refl _ _
 have hM_b:=hM
 have hk_b:=hk
 have hb3_b:=hb3
 refine z0e 0 h rfl rfl λa h=>z0o 1 h rfl rfl λa h=>z0c 2 h rfl z2w rfl λa h=>z0l 3 h rfl (λ_ hw=>hk_b.ext hw) rfl y1w rfl λa h=>z0c 4 h rfl z3i rfl λa h=>z0l 5 h rfl (λ_ hw=>hb3_b.ext hw) rfl na5 rfl λa h=>z2y 6 h wn rfl rfl (by first|exact IntWalk.u8_in _ (by omega)|rfl) rfl λa h=>z1k (p:=j) (yq0) 7 h rfl hM.y.out.sl rfl y1r rfl λad15 hc15 a h=>z2l (cs:=z2s.enc (m.ys.getD j yq0)) 8 h wn rfl (λ_ hw=>hc15 _ (hM_b.ext hw).y.out.sl) z6h rfl λa h=>z0c 9 h rfl z4e rfl λa h=>z1c (vs:=[_,_]) 10 h rfl (λ_ hw=>(hb3_b.ext hw)) z4v rfl rfl λa h=>?_
 refine z0e 11 h rfl rfl λa h=>z0o 12 h rfl rfl λa h=>z0c 13 h rfl z3b rfl λa h=>z0l 14 h rfl (λ_ hw=>hk_b.ext hw) rfl na3 rfl λa h=>z2d 15 16 (by kernel_rfl) rfl rfl ?_ ?_
 ·refine z0m h (z0a rfl (z0a rfl z0g)) x2d (z8s _ _ _ _ (by have:=hi.rk;omega)) ?_;rintro _ w3 ⟨rfl,q3⟩ a h
  have z3:=q3.size
  replace hk:=hk.ext q3
  replace hb3:=hb3.ext q3
  replace hC:=hC.next q3
  refine z0b ?_
  refine z0d 16 rfl ?_
  refine z1d h y1j rfl λw4 hb7 q4 hz a h=>?_
  obtain ⟨g_7,hg⟩:∃g,g=w3.heap.size:=⟨_,rfl⟩;rw [<-hg] at hb7 h hz
  have hn_.gk_7:ka.gk<g_7:=by have:=hk.lt;omega
  have hn__7:g3<g_7:=by have:=hb3.lt;omega
  have z4:=q4.size
  replace hM:=hM.ext (q3.n1 q4)
  replace hk:=hk.ext q4
  replace hb3:=hb3.ext q4
  replace hC:=hC.next q4
  refine z0b ?_
  refine z0d 17 rfl ?_
  refine z0u h rfl rfl hb7 rfl z6k ?_ (h1:=(by first|(simp [Value.oneCell',S];done)|exact z2s.one (m.ys.getD j yq0)));clear h a;intro w5 hbn q5 hz a h
  have z5:=q5.size
  replace hk:=hk.fr q5
  replace hb3:=hb3.fr q5
  replace hC:=hC.sp q5
  clear hb7 hz;have hb7:Blk w5 g_7 _ [_,_,_,_,_]:=hbn;clear hbn
  refine z0b ?_
  refine z0d 18 rfl ?_
  refine z0q h rfl λa h=>?_
  refine z0b ?_
  refine z0r ?_
  clear hC hM_b hk_b hb3_b
  refine bk (h.sub (L':=[(3,_),(5,_),(7,_)]) (.c3 rfl rfl rfl)) (tn (sq (sr (fad rfl z9k (z0i rfl hb7 rfl na4 (nt' rfl (nn (cd rfl (λc0=>?_) (λc0=>?_)))))))))
  ·refine sr (asg rfl (asg rfl (asg rfl (nn (rt (tr (r3 results112 rfl rfl rfl ?_)))))))
   have he:z7n m.p o=12:=by unfold z7n;rw [hyp,if_pos (by simpa using c0)]
   exact ⟨_,rfl,by rw [he];rfl,(q1.z4 q2 q3 q4 q5)⟩
  refine sk (tn (sq (sr (fad rfl z8a (z0i rfl hb3 rfl y7e (eq' rfl rfl (nn (cd rfl (λc1=>?_) (λc1=>?_)))))))))
  ·refine sq (sr (fad rfl z6j (z0i rfl hb7 rfl na3 (mv rfl (gt' rfl rfl (nn (cd rfl (λc2=>?_) (λc2=>?_))))))))
   ·refine sr (asg rfl (asg rfl (asg rfl (nn (rt (tr (tr (r3 results112 rfl rfl rfl ?_))))))))
    have he:z7n m.p o=12:=by unfold z7n;rw [hyp,if_neg (by simpa using c0),if_pos c1,if_pos c2]
    exact ⟨_,rfl,by rw [he];rfl,(q1.z4 q2 q3 q4 q5)⟩
   refine sk (tn (sr (mv rfl (z0y rfl rfl (wi6 (by omega)) (mv rfl (asg rfl (asg rfl (asg rfl (nn (rt (tr (r3 results112 rfl rfl rfl ?_))))))))))))
   have he:z7n m.p o=0:=by unfold z7n;rw [hyp,if_neg (by simpa using c0),if_pos c1,if_neg c2]
   exact ⟨_,rfl,by rw [he];rw [if_pos rfl,if_pos rfl,x3t,if_pos c1],(q1.z4 q2 q3 q4 q5)⟩
  refine sk (tn (sq (sr (fad rfl z6j (z0i rfl hb7 rfl na3 (mv rfl (lt' rfl rfl (nn (cd rfl (λc3=>?_) (λc3=>?_))))))))))
  ·refine sr (asg rfl (asg rfl (asg rfl (nn (rt (tr (r3 results112 rfl rfl rfl ?_)))))))
   have he:z7n m.p o=12:=by unfold z7n;rw [hyp,if_neg (by simpa using c0),if_neg c1,if_pos c3]
   exact ⟨_,rfl,by rw [he];rfl,(q1.z4 q2 q3 q4 q5)⟩
  refine sk (tn (sr (mv rfl (z2u rfl rfl (wi6 (by omega)) (mv rfl (asg rfl (asg rfl (asg rfl (nn (rt (r3 results112 rfl rfl rfl ?_)))))))))))
  have he:z7n m.p o=0:=by unfold z7n;rw [hyp,if_neg (by simpa using c0),if_neg c1,if_neg c3]
  exact ⟨_,rfl,by rw [he];rw [if_pos rfl,if_pos rfl,x3t,if_neg c1],(q1.z4 q2 q3 q4 q5)⟩
 refine z1d h y1j rfl λw6 hb7 q6 hz a h=>?_
 obtain ⟨g_7,hg⟩:∃g,g=w2.heap.size:=⟨_,rfl⟩;rw [<-hg] at hb7 h hz
 have hn_.gk_7:ka.gk<g_7:=by have:=hk.lt;omega
 have hn__7:g3<g_7:=by have:=hb3.lt;omega
 have z6:=q6.size
 replace hC:=hC.next q6
 refine z0b ?_
 refine z0d 15 rfl ?_
 refine z0m h (z0a rfl (z0a rfl z0g)) x2d (z8s _ _ _ _ (by have:=hi.rk;omega)) ?_;rintro _ w7 ⟨rfl,q7⟩ a h
 have z7:=q7.size
 replace hM:=hM.ext (q6.n1 q7)
 replace hk:=hk.ext (q6.n1 q7)
 replace hb3:=hb3.ext (q6.n1 q7)
 replace hb7:=hb7.ext q7
 replace hC:=hC.next q7
 refine z0b ?_
 refine z0d 17 rfl ?_
 refine z0u h rfl rfl hb7 rfl z6k ?_ (h1:=(by first|(simp [Value.oneCell',S];done)|exact z2s.one (m.ys.getD j yq0)));clear h a;intro w8 hbn q8 hz a h
 have z8:=q8.size
 replace hk:=hk.fr q8
 replace hb3:=hb3.fr q8
 replace hC:=hC.sp q8
 clear hb7 hz;have hb7:Blk w8 g_7 _ [_,_,_,_,_]:=hbn;clear hbn
 refine z0b ?_
 refine z0d 18 rfl ?_
 refine z0q h rfl λa h=>?_
 refine z0b ?_
 refine z0r ?_
 clear hC hM_b hk_b hb3_b
 refine bk (h.sub (L':=[(3,_),(5,_),(7,_)]) (.c3 rfl rfl rfl)) (tn (sq (sr (fad rfl z9k (z0i rfl hb7 rfl na4 (nt' rfl (nn (cd rfl (λc0=>?_) (λc0=>?_)))))))))
 ·refine sr (asg rfl (asg rfl (asg rfl (nn (rt (tr (r3 results112 rfl rfl rfl ?_)))))))
  have he:z7n m.p o=12:=by unfold z7n;rw [hyp,if_pos (by simpa using c0)]
  exact ⟨_,rfl,by rw [he];rfl,(q1.z4 q2 q6 q7 q8)⟩
 refine sk (tn (sq (sr (fad rfl z8a (z0i rfl hb3 rfl y7e (eq' rfl rfl (nn (cd rfl (λc1=>?_) (λc1=>?_)))))))))
 ·refine sq (sr (fad rfl z6j (z0i rfl hb7 rfl na3 (mv rfl (gt' rfl rfl (nn (cd rfl (λc2=>?_) (λc2=>?_))))))))
  ·refine sr (asg rfl (asg rfl (asg rfl (nn (rt (tr (tr (r3 results112 rfl rfl rfl ?_))))))))
   have he:z7n m.p o=12:=by unfold z7n;rw [hyp,if_neg (by simpa using c0),if_pos c1,if_pos c2]
   exact ⟨_,rfl,by rw [he];rfl,(q1.z4 q2 q6 q7 q8)⟩
  refine sk (tn (sr (mv rfl (z0y rfl rfl (wi6 (by omega)) (mv rfl (asg rfl (asg rfl (asg rfl (nn (rt (tr (r3 results112 rfl rfl rfl ?_))))))))))))
  have he:z7n m.p o=0:=by unfold z7n;rw [hyp,if_neg (by simpa using c0),if_pos c1,if_neg c2]
  exact ⟨_,rfl,by rw [he];rw [if_pos rfl,if_pos rfl,x3t,if_pos c1],(q1.z4 q2 q6 q7 q8)⟩
 refine sk (tn (sq (sr (fad rfl z6j (z0i rfl hb7 rfl na3 (mv rfl (lt' rfl rfl (nn (cd rfl (λc3=>?_) (λc3=>?_))))))))))
 ·refine sr (asg rfl (asg rfl (asg rfl (nn (rt (tr (r3 results112 rfl rfl rfl ?_)))))))
  have he:z7n m.p o=12:=by unfold z7n;rw [hyp,if_neg (by simpa using c0),if_neg c1,if_pos c3]
  exact ⟨_,rfl,by rw [he];rfl,(q1.z4 q2 q6 q7 q8)⟩
 refine sk (tn (sr (mv rfl (z2u rfl rfl (wi6 (by omega)) (mv rfl (asg rfl (asg rfl (asg rfl (nn (rt (r3 results112 rfl rfl rfl ?_)))))))))))
 have he:z7n m.p o=0:=by unfold z7n;rw [hyp,if_neg (by simpa using c0),if_neg c1,if_neg c3]
 exact ⟨_,rfl,by rw [he];rw [if_pos rfl,if_pos rfl,x3t,if_neg c1],(q1.z4 q2 q6 q7 q8)⟩
theorem z2p:z0z prog 137 1 1:=λ_ _=>by kernel_rfl
set_option maxHeartbeats 2000000 in
theorem x3k (wS:World) (ka:MA) (m:MQ) (yy pl en:Int) (w0:World) (hM:MkM τd 137 wS ka w0 m) (hi:MInv m.p) (hy:1<=yy/\yy<=6):Rets prog 113 #[.pointer (some ⟨ka.gk,0,none⟩),.int .u8 yy,.int .i64 pl,.int .i64 en] w0 λr w'=>MRet τd 137 wS ka (y6i m.p yy pl en) r w':=by
 have hzS:=hM.fr.size
 have hk:=hM.k
 have hkz:=hk.lt
 have hly:=hM.ly
 have hlt:=hM.lt
 have hgyz:=(hM.y.out.blk ka.gy (by simp [z0v])).2
 obtain ⟨j,hj,hoy⟩:∃j:Nat,j<6/\yy=(j:Int)+1:=⟨(yy-1).toNat,by omega,by omega⟩
 have hjy:(yy-1).toNat=j:=by omega
 have hyp:m.p.y yy=(m.ys.getD j yq0).p:=by rw [j1a,hjy]
 have hbl:=x9z (z2n m.q.p m.rk) (m.ys.getD j yq0).pl en
 have hN:=y7f hi.B
 have hhl:(z2n m.q.p m.rk).length<=320:=by unfold z2n;rw [z3v,y9q];exact hN
 refine we [(0,.pointer (some ⟨ka.gk,0,none⟩)),(1,.int .u8 yy),(2,.int .i64 pl),(3,.int .i64 en)] func113 rfl ntmps113 rfl (.c4 rfl rfl rfl rfl) ?_
 have hM0:=hM
 refine sr (asg rfl (nn (sq ?_)))
 intro a h
 refine z0h none (λwb w'=>Fr [] wb w') z2r ?_;intro w1 q1
 have z1:=q1.size
 replace hM:=hM.ext q1
 replace hk:=hk.ext q1
 have hC:Fr [] w1 w1:=Fr.refl _ _
 have hM_b:=hM
 have hk_b:=hk
 refine z0e 0 h rfl rfl λa h=>z0o 1 h rfl rfl λa h=>z0c 2 h rfl z2p rfl λa h=>z1c (vs:=[_,_]) 3 h rfl (λ_ hw=>(hk_b.ext hw)) z5k rfl rfl λa h=>z0e 4 h rfl rfl λa h=>z0o 5 h rfl rfl λa h=>z0c 6 h rfl z3b rfl λa h=>z0l 7 h rfl (λ_ hw=>hk_b.ext hw) rfl na3 rfl λa h=>z0d 8 rfl ?_
 refine z0m h (z0a rfl (z0a rfl z0g)) (mkC func102) (v2k m.q m.rk _ hM.b.at hi.B hi.rk) ?_;rintro _ w2 ⟨⟨g9,rfl,hg9,hL⟩,hq⟩ a h
 have z2:=hq.size
 replace hM:=hM.ext hq
 replace hk:=hk.ext hq
 replace hC:=hC.next hq
 have q2:=hq
 have hLn:=(hL.blk g9 (by simp [z0v])).2
 refine z0b ?_
 refine z0e 9 h rfl rfl λa h=>z0k 10 h rfl rfl rfl λa h=>z0k 11 h rfl rfl rfl λa h=>z0d 12 rfl ?_
 refine z0q h rfl λa h=>?_
 refine z0b ?_
 refine z0d 13 rfl ?_
 refine z0q h rfl λa h=>?_
 refine z0b ?_
 refine z0r ?_
 clear hC hM_b hk_b
 refine bk (h.sub (L':=[(0,_),(1,_),(2,_),(3,_),(9,_),(10,_)]) (.c6 rfl rfl rfl rfl rfl rfl)) (tn (sq (sr (mv rfl (ne' rfl rfl (nn (cd rfl (λc0=>?_) (λc0=>?_))))))))
 ·exact absurd rfl c0
 refine sk (tn (sr (mv rfl (nlc rfl (fad rfl z2w (z0i rfl hk rfl y1w (mv rfl (z2u rfl rfl (wi8 (by omega)) (z1a (p:=j) (yq0) rfl hM.y.out.sl rfl y1r (by omega) (λad34 hc34=>(z1j rfl (hc34 _ hM.y.out.sl) z6h (al y1j rfl rfl (λg11 w3 hg11 hb11 q3 z3=>?_)))))))))))))
 refine z0j (vs:=[_,_,_,_,_]) rfl rfl hb11 z6k (λw4 hb11 q4 z4=>?_) (h1:=(by first|(simp [Value.oneCell',S];done)|exact z2s.one (m.ys.getD j yq0)))
 refine kpL [(0,_),(1,_),(2,_),(3,_),(9,_),(11,_)] (.c6 rfl rfl rfl rfl rfl rfl) (nn (sq ?_))
 replace hM:=hM0.ext (q1.z3 q2 q3 q4)
 replace hk:=(hk.ext q3).fr q4
 replace hL:=(hL.ext q3).fr q4 (by first|exact z9e hL (by omega)|simp[z0v]<;>omega)
 intro a h
 refine z0h none (λwb w'=>Fr [] wb w') z2r ?_;intro w5 q5
 have z5:=q5.size
 replace hM:=hM.ext q5
 replace hk:=hk.ext q5
 replace hL:=hL.ext q5
 replace hb11:=hb11.ext q5
 have hC:Fr [] w5 w5:=Fr.refl _ _
 have hM_b:=hM
 have hk_b:=hk
 have hL_b:=hL
 have hb11_b:=hb11
 refine z0t 0 h rfl (λ_ hw=>hb11_b.ext hw) z6h rfl λa h=>z0e 1 h rfl rfl λa h=>z0e 2 h rfl rfl λa h=>z0c 3 h rfl z6j rfl λa h=>z0l 4 h rfl (λ_ hw=>hb11_b.ext hw) rfl na3 rfl λa h=>z0e 5 h rfl rfl λa h=>z2d 6 11 (by kernel_rfl) rfl rfl ?_ ?_
 ·refine z0m h (z0a rfl (z0a rfl (z0a rfl z0g))) (mkC func149) (u1q _ (z2n m.q.p m.rk) (m.ys.getD j yq0).pl en _ hL.sl (by omega)) ?_;rintro _ w6 ⟨⟨g43,rfl,hg43,hW⟩,q6⟩ a h
  have z6:=q6.size
  replace hM:=hM.ext q6
  replace hk:=hk.ext q6
  replace hL:=hL.ext q6
  replace hb11:=hb11.ext q6
  replace hC:=hC.next q6
  have hWn:=(hW.blk g43 (by simp [z0v])).2
  refine z0b ?_
  refine z2d 7 11 (by kernel_rfl) rfl rfl ?_ ?_
  ·refine z0m h (z0a rfl (z0a rfl (z0a rfl z0g))) (mkC func146) (x6t (m.ys.getD j yq0) pl _ (btw (z2n m.q.p m.rk) (m.ys.getD j yq0).pl en) _ (hM.y.ins j (by omega)).sl hW.sl (λk hk=>(hW.blk k hk).2) (by omega)) ?_;rintro _ w7 ⟨qn,rfl,hgo,q7⟩ a h
   have z7:=q7.size
   replace hk:=hk.ext q7
   replace hb11:=hb11.ext q7
   replace hC:=hC.next q7
   have hoP:OwnIf ((goE (m.ys.getD j yq0).p pl (btw (z2n m.q.p m.rk) (m.ys.getD j yq0).pl en))=0) z1t 100 _ _ (slv qn.pe) qn.pes:=λhc=>(hgo hc).2
   have hLb:=λhc k hk=>((hoP hc).blk k hk).2
   refine z0b ?_
   refine z0e 8 h rfl rfl λa h=>z0k 9 h rfl rfl rfl λa h=>z0k 10 h rfl rfl rfl λa h=>z0d 11 rfl ?_
   refine z1d h y1j rfl λw8 hb12 q8 hz a h=>?_
   obtain ⟨g_12,hg⟩:∃g,g=w7.heap.size:=⟨_,rfl⟩;rw [<-hg] at hb12 h hz
   have hn_.gk_12:ka.gk<g_12:=by have:=hk.lt;omega
   have hn_1_12:g11<g_12:=by have:=hb11.lt;omega
   have z8:=q8.size
   replace hM:=hM.ext (q7.n1 q8)
   replace hk:=hk.ext q8
   replace hL:=hL.ext (q7.n1 q8)
   replace hb11:=hb11.ext q8
   replace hW:=hW.ext (q7.n1 q8)
   replace hoP:=hoP.ext q8
   replace hC:=hC.next q8
   refine z0b ?_
   refine z0d 12 rfl ?_
   refine z0u h rfl rfl hb12 rfl z6k ?_ (h1:=(by first|(simp [Value.oneCell',S];done)|exact z2s.one (m.ys.getD j yq0)));clear h a;intro w9 hbn q9 hz a h
   have z9:=q9.size
   replace hk:=hk.fr q9
   replace hL:=hL.fr q9 (by simp[z0v]<;>omega)
   replace hb11:=hb11.fr q9
   replace hW:=hW.fr q9 (by simp[z0v]<;>omega)
   replace hoP:=hoP.fr q9 (by intro hc_ k hk hb_;simp at hk;subst hk;have h1_:=hLb hc_ _ hb_;have h2_:=(hoP hc_).blk _ hb_;omega)
   replace hC:=hC.sp q9
   clear hb12 hz;have hb12:Blk w9 g_12 _ [_,_,_,_,_]:=hbn;clear hbn
   refine z0b ?_
   refine z0d 13 rfl ?_
   refine z0q h rfl λa h=>?_
   refine z0b ?_
   refine z0r ?_
   clear hC hM_b hk_b hL_b hb11_b
   refine bk (h.sub (L':=[(0,_),(1,_),(10,_),(12,_)]) (.c4 rfl rfl rfl rfl)) (tn (sq (sr (mv rfl (eq' rfl rfl (nn (cd rfl (λc1=>?_) (λc1=>?_))))))))
   ·replace hM:=hM0.ext (((q1.z6 q2 q3 q4 q5 q6 q7).n1 q8).z1 q9)
    intro a h
    refine z0h (some 8) (λwb w'=>Fr [] wb w') z2r ?_;intro w10 q10
    have z10:=q10.size
    replace hM:=hM.ext q10
    replace hk:=hk.ext q10
    replace hb11:=hb11.ext q10
    replace hoP:=hoP.ext q10
    replace hb12:=hb12.ext q10
    have hC:Fr [] w10 w10:=Fr.refl _ _
    have hM_b:=hM
    have hk_b:=hk
    have hb11_b:=hb11
    have hoP_b:=hoP
    have hb12_b:=hb12
    refine z0e 0 h rfl rfl λa h=>z0o 1 h rfl rfl λa h=>z0c 2 h rfl z2w rfl λa h=>z0l 3 h rfl (λ_ hw=>hk_b.ext hw) rfl y1w rfl λa h=>z0e 4 h rfl rfl λa h=>z2y 5 h wn rfl rfl (by first|exact IntWalk.u8_in _ (by omega)|rfl) rfl λa h=>z0t 6 h rfl (λ_ hw=>hb12_b.ext hw) z6h rfl λa h=>z1n 7 (by kernel_rfl) (by kernel_rfl) (by kernel_rfl) hC (p:=j) h wn rfl rfl y1r (by omega) (by omega) (by omega) rfl rfl λa h=>z0d 8 rfl ?_
    refine z1b (i:=j) (qn:YQ) h rfl rfl hM.y.out (by rw [hM.ly];exact hj) rfl z6k λw11 ho_2 q11 _hz a h=>?_
    replace hM:=hM.yarn mtd hj ho_2 q11 ((hoP c1).low (by omega))
    have hM0:=hM
    clear ho_2
    have z11:=q11.size
    replace hb11:=hb11.fr q11
    replace hoP:=hoP.fr q11 (by intro hc_ k hk hb_;simp at hk;subst hk;have h1_:=hLb hc_ _ hb_;have h2_:=(hoP hc_).blk _ hb_;omega)
    replace hb12:=hb12.fr q11
    have hk:=hM.k
    clear _hz
    refine z1o ?_
    refine z0r ?_
    clear hC hM_b hk_b hb11_b hoP_b hb12_b
    refine bk (h.sub (L':=[(10,_)]) (.cons rfl .nil)) (tn (sr (mv rfl (asg rfl (nn (rt (r1 results113 rfl ?_)))))))
    exact ⟨_,rfl,by rw [c1];exact MRet.ok (by unfold y6i v0h;rw [hyp,if_neg (λe=>e c1)];exact congrArg Except.ok (by rw [z9r m qn hjy,(hgo c1).1])) hM⟩
   refine sk (tn (sr (mv rfl (asg rfl (kpL [(8,_)] (.cons rfl .nil) (nn (rt (r1 results113 rfl ?_))))))))
   replace hM:=hM0.ext (((q1.z6 q2 q3 q4 q5 q6 q7).n1 q8).z1 q9)
   exact ⟨_,rfl,MRet.err (by unfold y6i v0h;rw [hyp,if_pos c1]) c1 hM.fr⟩
  refine z1d h y1j rfl λw12 hb12 q12 hz a h=>?_
  obtain ⟨g_12,hg⟩:∃g,g=w6.heap.size:=⟨_,rfl⟩;rw [<-hg] at hb12 h hz
  have hn_.gk_12:ka.gk<g_12:=by have:=hk.lt;omega
  have hn_1_12:g11<g_12:=by have:=hb11.lt;omega
  have z12:=q12.size
  replace hM:=hM.ext q12
  replace hk:=hk.ext q12
  replace hW:=hW.ext q12
  replace hC:=hC.next q12
  refine z0b ?_
  refine z0d 7 rfl ?_
  refine z0m h (z0a rfl (z0a rfl (z0a rfl z0g))) (mkC func146) (x6t (m.ys.getD j yq0) pl _ (btw (z2n m.q.p m.rk) (m.ys.getD j yq0).pl en) _ (hM.y.ins j (by omega)).sl hW.sl (λk hk=>(hW.blk k hk).2) (by omega)) ?_;rintro _ w13 ⟨qn,rfl,hgo,q13⟩ a h
  have z13:=q13.size
  replace hM:=hM.ext q13
  replace hk:=hk.ext q13
  replace hL:=hL.ext (q12.n1 q13)
  replace hb11:=hb11.ext (q12.n1 q13)
  replace hW:=hW.ext q13
  replace hb12:=hb12.ext q13
  replace hC:=hC.next q13
  have hoP:OwnIf ((goE (m.ys.getD j yq0).p pl (btw (z2n m.q.p m.rk) (m.ys.getD j yq0).pl en))=0) z1t 100 _ _ (slv qn.pe) qn.pes:=λhc=>(hgo hc).2
  have hLb:=λhc k hk=>((hoP hc).blk k hk).2
  refine z0b ?_
  refine z0e 8 h rfl rfl λa h=>z0k 9 h rfl rfl rfl λa h=>z0k 10 h rfl rfl rfl λa h=>z0d 12 rfl ?_
  refine z0u h rfl rfl hb12 rfl z6k ?_ (h1:=(by first|(simp [Value.oneCell',S];done)|exact z2s.one (m.ys.getD j yq0)));clear h a;intro w14 hbn q14 hz a h
  have z14:=q14.size
  replace hk:=hk.fr q14
  replace hL:=hL.fr q14 (by simp[z0v]<;>omega)
  replace hb11:=hb11.fr q14
  replace hW:=hW.fr q14 (by simp[z0v]<;>omega)
  replace hoP:=hoP.fr q14 (by intro hc_ k hk hb_;simp at hk;subst hk;have h1_:=hLb hc_ _ hb_;have h2_:=(hoP hc_).blk _ hb_;omega)
  replace hC:=hC.sp q14
  clear hb12 hz;have hb12:Blk w14 g_12 _ [_,_,_,_,_]:=hbn;clear hbn
  refine z0b ?_
  refine z0d 13 rfl ?_
  refine z0q h rfl λa h=>?_
  refine z0b ?_
  refine z0r ?_
  clear hC hM_b hk_b hL_b hb11_b
  refine bk (h.sub (L':=[(0,_),(1,_),(10,_),(12,_)]) (.c4 rfl rfl rfl rfl)) (tn (sq (sr (mv rfl (eq' rfl rfl (nn (cd rfl (λc1=>?_) (λc1=>?_))))))))
  ·replace hM:=hM0.ext (((q1.z6 q2 q3 q4 q5 q6 q12).n1 q13).z1 q14)
   intro a h
   refine z0h (some 8) (λwb w'=>Fr [] wb w') z2r ?_;intro w15 q15
   have z15:=q15.size
   replace hM:=hM.ext q15
   replace hk:=hk.ext q15
   replace hb11:=hb11.ext q15
   replace hb12:=hb12.ext q15
   replace hoP:=hoP.ext q15
   have hC:Fr [] w15 w15:=Fr.refl _ _
   have hM_b:=hM
   have hk_b:=hk
   have hb11_b:=hb11
   have hb12_b:=hb12
   have hoP_b:=hoP
   refine z0e 0 h rfl rfl λa h=>z0o 1 h rfl rfl λa h=>z0c 2 h rfl z2w rfl λa h=>z0l 3 h rfl (λ_ hw=>hk_b.ext hw) rfl y1w rfl λa h=>z0e 4 h rfl rfl λa h=>z2y 5 h wn rfl rfl (by first|exact IntWalk.u8_in _ (by omega)|rfl) rfl λa h=>z0t 6 h rfl (λ_ hw=>hb12_b.ext hw) z6h rfl λa h=>z1n 7 (by kernel_rfl) (by kernel_rfl) (by kernel_rfl) hC (p:=j) h wn rfl rfl y1r (by omega) (by omega) (by omega) rfl rfl λa h=>z0d 8 rfl ?_
   refine z1b (i:=j) (qn:YQ) h rfl rfl hM.y.out (by rw [hM.ly];exact hj) rfl z6k λw16 ho_2 q16 _hz a h=>?_
   replace hM:=hM.yarn mtd hj ho_2 q16 ((hoP c1).low (by omega))
   have hM0:=hM
   clear ho_2
   have z16:=q16.size
   replace hb11:=hb11.fr q16
   replace hb12:=hb12.fr q16
   replace hoP:=hoP.fr q16 (by intro hc_ k hk hb_;simp at hk;subst hk;have h1_:=hLb hc_ _ hb_;have h2_:=(hoP hc_).blk _ hb_;omega)
   have hk:=hM.k
   clear _hz
   refine z1o ?_
   refine z0r ?_
   clear hC hM_b hk_b hb11_b hb12_b hoP_b
   refine bk (h.sub (L':=[(10,_)]) (.cons rfl .nil)) (tn (sr (mv rfl (asg rfl (nn (rt (r1 results113 rfl ?_)))))))
   exact ⟨_,rfl,by rw [c1];exact MRet.ok (by unfold y6i v0h;rw [hyp,if_neg (λe=>e c1)];exact congrArg Except.ok (by rw [z9r m qn hjy,(hgo c1).1])) hM⟩
  refine sk (tn (sr (mv rfl (asg rfl (kpL [(8,_)] (.cons rfl .nil) (nn (rt (r1 results113 rfl ?_))))))))
  replace hM:=hM0.ext (((q1.z6 q2 q3 q4 q5 q6 q12).n1 q13).z1 q14)
  exact ⟨_,rfl,MRet.err (by unfold y6i v0h;rw [hyp,if_pos c1]) c1 hM.fr⟩
 refine z1d h y1j rfl λw17 hb12 q17 hz a h=>?_
 obtain ⟨g_12,hg⟩:∃g,g=w5.heap.size:=⟨_,rfl⟩;rw [<-hg] at hb12 h hz
 have hn_.gk_12:ka.gk<g_12:=by have:=hk.lt;omega
 have hn_1_12:g11<g_12:=by have:=hb11.lt;omega
 have z17:=q17.size
 replace hL:=hL.ext q17
 replace hC:=hC.next q17
 refine z0b ?_
 refine z0d 6 rfl ?_
 refine z0m h (z0a rfl (z0a rfl (z0a rfl z0g))) (mkC func149) (u1q _ (z2n m.q.p m.rk) (m.ys.getD j yq0).pl en _ hL.sl (by omega)) ?_;rintro _ w18 ⟨⟨g43,rfl,hg43,hW⟩,q18⟩ a h
 have z18:=q18.size
 replace hM:=hM.ext (q17.n1 q18)
 replace hk:=hk.ext (q17.n1 q18)
 replace hC:=hC.next q18
 have hWn:=(hW.blk g43 (by simp [z0v])).2
 refine z0b ?_
 refine z0d 7 rfl ?_
 refine z0m h (z0a rfl (z0a rfl (z0a rfl z0g))) (mkC func146) (x6t (m.ys.getD j yq0) pl _ (btw (z2n m.q.p m.rk) (m.ys.getD j yq0).pl en) _ (hM.y.ins j (by omega)).sl hW.sl (λk hk=>(hW.blk k hk).2) (by omega)) ?_;rintro _ w19 ⟨qn,rfl,hgo,q19⟩ a h
 have z19:=q19.size
 replace hM:=hM.ext q19
 replace hk:=hk.ext q19
 replace hL:=hL.ext (q18.n1 q19)
 replace hb11:=hb11.ext (q17.n2 q18 q19)
 replace hb12:=hb12.ext (q18.n1 q19)
 replace hW:=hW.ext q19
 replace hC:=hC.next q19
 have hoP:OwnIf ((goE (m.ys.getD j yq0).p pl (btw (z2n m.q.p m.rk) (m.ys.getD j yq0).pl en))=0) z1t 100 _ _ (slv qn.pe) qn.pes:=λhc=>(hgo hc).2
 have hLb:=λhc k hk=>((hoP hc).blk k hk).2
 refine z0b ?_
 refine z0e 8 h rfl rfl λa h=>z0k 9 h rfl rfl rfl λa h=>z0k 10 h rfl rfl rfl λa h=>z0d 12 rfl ?_
 refine z0u h rfl rfl hb12 rfl z6k ?_ (h1:=(by first|(simp [Value.oneCell',S];done)|exact z2s.one (m.ys.getD j yq0)));clear h a;intro w20 hbn q20 hz a h
 have z20:=q20.size
 replace hk:=hk.fr q20
 replace hL:=hL.fr q20 (by simp[z0v]<;>omega)
 replace hb11:=hb11.fr q20
 replace hW:=hW.fr q20 (by simp[z0v]<;>omega)
 replace hoP:=hoP.fr q20 (by intro hc_ k hk hb_;simp at hk;subst hk;have h1_:=hLb hc_ _ hb_;have h2_:=(hoP hc_).blk _ hb_;omega)
 replace hC:=hC.sp q20
 clear hb12 hz;have hb12:Blk w20 g_12 _ [_,_,_,_,_]:=hbn;clear hbn
 refine z0b ?_
 refine z0d 13 rfl ?_
 refine z0q h rfl λa h=>?_
 refine z0b ?_
 refine z0r ?_
 clear hC hM_b hk_b hL_b hb11_b
 refine bk (h.sub (L':=[(0,_),(1,_),(10,_),(12,_)]) (.c4 rfl rfl rfl rfl)) (tn (sq (sr (mv rfl (eq' rfl rfl (nn (cd rfl (λc1=>?_) (λc1=>?_))))))))
 ·replace hM:=hM0.ext (((q1.z6 q2 q3 q4 q5 q17 q18).n1 q19).z1 q20)
  intro a h
  refine z0h (some 8) (λwb w'=>Fr [] wb w') z2r ?_;intro w21 q21
  have z21:=q21.size
  replace hM:=hM.ext q21
  replace hk:=hk.ext q21
  replace hb11:=hb11.ext q21
  replace hb12:=hb12.ext q21
  replace hoP:=hoP.ext q21
  have hC:Fr [] w21 w21:=Fr.refl _ _
  have hM_b:=hM
  have hk_b:=hk
  have hb11_b:=hb11
  have hb12_b:=hb12
  have hoP_b:=hoP
  refine z0e 0 h rfl rfl λa h=>z0o 1 h rfl rfl λa h=>z0c 2 h rfl z2w rfl λa h=>z0l 3 h rfl (λ_ hw=>hk_b.ext hw) rfl y1w rfl λa h=>z0e 4 h rfl rfl λa h=>z2y 5 h wn rfl rfl (by first|exact IntWalk.u8_in _ (by omega)|rfl) rfl λa h=>z0t 6 h rfl (λ_ hw=>hb12_b.ext hw) z6h rfl λa h=>z1n 7 (by kernel_rfl) (by kernel_rfl) (by kernel_rfl) hC (p:=j) h wn rfl rfl y1r (by omega) (by omega) (by omega) rfl rfl λa h=>z0d 8 rfl ?_
  refine z1b (i:=j) (qn:YQ) h rfl rfl hM.y.out (by rw [hM.ly];exact hj) rfl z6k λw22 ho_2 q22 _hz a h=>?_
  replace hM:=hM.yarn mtd hj ho_2 q22 ((hoP c1).low (by omega))
  have hM0:=hM
  clear ho_2
  have z22:=q22.size
  replace hb11:=hb11.fr q22
  replace hb12:=hb12.fr q22
  replace hoP:=hoP.fr q22 (by intro hc_ k hk hb_;simp at hk;subst hk;have h1_:=hLb hc_ _ hb_;have h2_:=(hoP hc_).blk _ hb_;omega)
  have hk:=hM.k
  clear _hz
  refine z1o ?_
  refine z0r ?_
  clear hC hM_b hk_b hb11_b hb12_b hoP_b
  refine bk (h.sub (L':=[(10,_)]) (.cons rfl .nil)) (tn (sr (mv rfl (asg rfl (nn (rt (r1 results113 rfl ?_)))))))
  exact ⟨_,rfl,by rw [c1];exact MRet.ok (by unfold y6i v0h;rw [hyp,if_neg (λe=>e c1)];exact congrArg Except.ok (by rw [z9r m qn hjy,(hgo c1).1])) hM⟩
 refine sk (tn (sr (mv rfl (asg rfl (kpL [(8,_)] (.cons rfl .nil) (nn (rt (r1 results113 rfl ?_))))))))
 replace hM:=hM0.ext (((q1.z6 q2 q3 q4 q5 q17 q18).n1 q19).z1 q20)
 exact ⟨_,rfl,MRet.err (by unfold y6i v0h;rw [hyp,if_pos c1]) c1 hM.fr⟩
theorem u3e (wS:World) (ka:MA) (m:MQ) (o:MOp) (w0:World) (hM:MkM τd 137 wS ka w0 m) (hi:MInv m.p) (hy:1<=o.y/\o.y<=6) (hn:z3d o.b o.p=0):Rets prog 69 #[.pointer (some ⟨ka.gk,0,none⟩),opV o] w0 λr w'=>MRet τd 137 wS ka (x0y m.p o) r w':=by
 refine we [(0,.pointer (some ⟨ka.gk,0,none⟩)),(1,opV o)] func69 rfl ntmps69 rfl (.c2 rfl rfl) ?_
 have hM0:=hM
 refine sr (bx rfl rfl rfl (λg3 w1 hg3 hb3 q1 z1=>(asg rfl (nn (sr (mv rfl (z0n rfl hb3 z9j ?_)))))))
 replace hM:=hM0.ext q1
 refine cl (ev2 rfl rfl) (mkC func112) (x2u wS ka m o _ hM hi hy hn) rfl ?_
 rintro _ w2 ⟨rfl,q2⟩
 refine mv rfl (xt rfl rfl (xt rfl rfl (xt rfl rfl (asg rfl (asg rfl (asg rfl (kpL [(0,_),(3,_),(5,_),(7,_)] (.c4 rfl rfl rfl rfl) (nn (sq (sr (mv rfl (ne' rfl rfl (nn (cd rfl (λc0=>?_) (λc0=>?_)))))))))))))))
 ·refine sr (mv rfl (asg rfl (kpL [(4,_)] (.cons rfl .nil) (nn (rt (tr (r1 results69 rfl ?_)))))))
  replace hM:=hM0.ext (q1.n1 q2)
  exact ⟨_,rfl,MRet.err (by unfold x0y;rw [if_pos c0]) c0 hM.fr⟩
 refine sk (tn (sr (mv rfl (fad rfl z3i ?_))))
 replace hb3:=hb3.ext q2
 refine z0i rfl hb3 rfl na5 (mv rfl (mv rfl ?_))
 replace hM:=hM0.ext (q1.n1 q2)
 refine cl (z0a rfl (z0a rfl (z0a rfl (z0a rfl z0g)))) (mkC func113) (x3k wS ka m o.y (if z7n m.p o=0 then x3t m.p o else 0) (if z7n m.p o=0 then x3t m.p o else 0) _ hM hi hy) rfl ?_
 rintro v23 w3 hR
 refine asg rfl (kpL [(4,_)] (.cons rfl .nil) (nn (rt (r1 results69 rfl ?_))))
 have hb0:z7n m.p o=0:=Classical.not_not.1 c0
 rw [if_pos hb0] at hR
 exact ⟨_,rfl,by rw [show x0y m.p o=_ from if_neg c0];exact hR⟩
theorem v2a:CallOf prog 118:=mkC func118
theorem y1p:z0z prog 137 5 6:=λ_ _=>by kernel_rfl
set_option maxHeartbeats 1000000 in
theorem u5o (wS:World) (ka:MA) (m:MQ) (o:MOp) (w0:World) (hM:MkM τd 137 wS ka w0 m) (hi:MInv m.p) (hn:z3d o.b o.p=0):Rets prog 71 #[.pointer (some ⟨ka.gk,0,none⟩),opV o] w0 λr w'=>MRet τd 137 wS ka (y8m m.p o) r w':=by
 have hzS:=hM.fr.size
 have hk:=hM.k
 have hkz:=hk.lt
 have hly:=hM.ly
 have hlt:=hM.lt
 have hgyz:=(hM.y.out.blk ka.gy (by simp [z0v])).2
 have hnr:=z2v hn
 obtain ⟨n,hpn⟩:∃n:Nat,o.p=(n:Int):=⟨o.p.toNat,by omega⟩
 obtain ⟨⟨hf,hb⟩,h4,h4b⟩:=z3m hi.B
 have hfl:m.q.p.flat.length+m.fl.length<=z4o (z2c m.ts):=hi.cnt
 have hfc:z4o (z2c m.ts)<=2048:=hi.all
 have hv:BdOk m.q.p:=hi.B
 have hal:=y4t hv o.b o.p
 refine we [(0,.pointer (some ⟨ka.gk,0,none⟩)),(1,opV o)] func71 rfl ntmps71 rfl (.c2 rfl rfl) ?_
 have hM0:=hM
 refine sr (bx rfl rfl rfl (λg3 w1 hg3 hb3 q1 z1=>(asg rfl (nn (sq ?_)))))
 replace hM:=hM0.ext q1
 intro a h
 refine z0h none (λwb w'=>Fr [] wb w') z2r ?_;intro w2 q2
 have z2:=q2.size
 replace hM:=hM.ext q2
 replace hk:=hk.ext (q1.n1 q2)
 replace hb3:=hb3.ext q2
 have hC:Fr [] w2 w2:=Fr.refl _ _
 have hM_b:=hM
 have hk_b:=hk
 have hb3_b:=hb3
 refine z0e 0 h rfl rfl λa h=>z0o 1 h rfl rfl λa h=>z0c 2 h rfl z2p rfl λa h=>z1c (vs:=[_,_]) 3 h rfl (λ_ hw=>(hk_b.ext hw)) z5k rfl rfl λa h=>z0c 4 h rfl z4e rfl λa h=>z1c (vs:=[_,_]) 5 h rfl (λ_ hw=>(hb3_b.ext hw)) z4v rfl rfl λa h=>z0d 6 rfl ?_
 refine z0m h (z0a rfl (z0a rfl z0g)) u1d (x1b m.q o.b o.p _ hM.b.at (by omega) hf hb h4 h4b) ?_;rintro v14 w3 ⟨ho5,hq⟩ a h
 have z3:=hq.size
 replace hM:=hM.ext hq
 replace hk:=hk.ext hq
 replace hb3:=hb3.ext hq
 replace hC:=hC.next hq
 have q3:=hq
 rw [y5u hn] at ho5
 obtain ⟨A14,c14,rfl,hc14⟩:=ho5.sl.form
 have hk5:=λk hb=>(ho5.blk k hb).2
 refine z0b ?_
 refine z0d 7 rfl ?_
 refine z0q h rfl λa h=>?_
 refine z0b ?_
 refine z0r ?_
 clear hC hM_b hk_b hb3_b
 refine bk (h.sub (L':=[(0,_),(3,_),(5,_)]) (.c3 rfl rfl rfl)) (tn (sq (sr (mv rfl (lnS rfl underlying37 (eq' rfl rfl (nn (cd rfl (λc0=>?_) (λc0=>?_)))))))))
 ·refine sr (asg rfl (nn (rt (tr (r1 results71 rfl ?_)))))
  exact ⟨_,rfl,MRet.err (if_pos (List.length_eq_zero_iff.1 (show (m.q.p.at o.b o.p).length=0 by omega))) (by decide) hM.fr⟩
 refine sk (tn (sq ?_))
 intro a h
 refine z0h none (λwb w'=>Fr [] wb w') z2r ?_;intro w4 q4
 have z4:=q4.size
 replace hM:=hM.ext q4
 replace hk:=hk.ext q4
 replace hb3:=hb3.ext q4
 replace ho5:=ho5.ext q4
 have hC:Fr [] w4 w4:=Fr.refl _ _
 have hM_b:=hM
 have hk_b:=hk
 have hb3_b:=hb3
 have ho5_b:=ho5
 refine z0e 0 h rfl rfl λa h=>z0o 1 h rfl rfl λa h=>z0c 2 h rfl z2p rfl λa h=>z1c (vs:=[_,_]) 3 h rfl (λ_ hw=>(hk_b.ext hw)) z5k rfl rfl λa h=>z0c 4 h rfl z4e rfl λa h=>z1c (vs:=[_,_]) 5 h rfl (λ_ hw=>(hb3_b.ext hw)) z4v rfl rfl λa h=>z2d 6 10 (by kernel_rfl) rfl rfl ?_ ?_
 ·refine z0m h (z0a rfl (z0a rfl (z0a rfl z0g))) v2a (by have x:=x0l m.q o.b n (.slice none 0 0) [] _ hM.b.at (Sl.nil _) hv (by rw [<-hpn];exact hn) (by simp) (by simp) (λi=>by have:=List.nodup_iff_count.1 hv.nd i;simp only [List.count_nil];omega);rw [<-hpn] at x;exact x) ?_;rintro _ w5 ⟨⟨q',rfl,hQ,hqp⟩,q5⟩ a h
  have z5:=q5.size
  replace hk:=hk.ext q5
  replace hb3:=hb3.ext q5
  replace hC:=hC.next q5
  have hfb:=y3i hQ hM0.f (by omega)
  refine z0b ?_
  refine z0e 7 h rfl rfl λa h=>z0k 8 h rfl rfl rfl λa h=>z0k 9 h rfl rfl rfl λa h=>z0d 10 rfl ?_
  refine z1d h x4m rfl λw6 hb6 q6 hz a h=>?_
  obtain ⟨g_6,hg⟩:∃g,g=w5.heap.size:=⟨_,rfl⟩;rw [<-hg] at hb6 h hz
  have hn_.gk_6:ka.gk<g_6:=by have:=hk.lt;omega
  have hn__6:g3<g_6:=by have:=hb3.lt;omega
  have z6:=q6.size
  replace hM:=hM.ext (q5.n1 q6)
  replace hk:=hk.ext q6
  replace hb3:=hb3.ext q6
  replace ho5:=ho5.ext (q5.n1 q6)
  first|replace hQ:=BdO.ext hQ q6|replace hQ:=BdO.tf hQ q6 (OffT.one hb6 (by decide)) (OffT.one hb6 (by decide))
  replace hC:=hC.next q6
  refine z0b ?_
  refine z0d 11 rfl ?_
  refine z0u h rfl rfl hb6 rfl y9r λw7 hbn q7 hz a h=>?_
  have z7:=q7.size
  replace hk:=hk.fr q7
  replace hb3:=hb3.fr q7
  replace ho5:=ho5.fr q7 (by intro k hk hb_;simp at hk;subst hk;have:=hk5 _ hb_;have h2_:=(ho5.blk _ hb_).1;omega)
  first|replace hQ:=BdO.ext hQ q7|replace hQ:=BdO.tf hQ q7 (OffT.one hb6 (by decide)) (OffT.one hb6 (by decide))
  replace hC:=hC.sp q7
  clear hb6 hz;have hb6:Blk w7 g_6 _ [_,_]:=hbn;clear hbn
  refine z0b ?_
  refine z0d 12 rfl ?_
  refine z0q h rfl λa h=>?_
  refine z0b ?_
  refine z0r ?_
  clear hC hM_b hk_b hb3_b ho5_b
  refine bk (h.sub (L':=[(0,_),(5,_),(6,_),(7,_)]) (.c4 rfl rfl rfl rfl)) (tn (sq (sr (mv rfl (ne' rfl rfl (nn (cd rfl (λc1=>?_) (λc1=>?_))))))))
  ·exact absurd rfl c1
  refine sk (tn (sr (mv rfl (z0n rfl hb6 z5k (nlc rfl (fad rfl z2p ?_))))))
  replace hM:=hM0.ext (q1.z6 q2 q3 q4 q5 q6 q7)
  refine z4l (cs':=v5m ka { m with q:=q' }) rfl rfl hM.k (by intro u hu;simp at hu;rcases hu with rfl|rfl<;>rfl) y9r rfl (λw8 hkn q8 z8=>?_)
  replace hM:=hM.beds mtd (hQ.low (by omega)) hkn q8 hfb
  have hk:=hM.k
  have hM0:=hM
  have hMB:=hM
  have hF:Lw.Own z1h 87 wS.heap.size _ (slv m.fa) m.fl:=hM.f
  clear hkn
  refine kpL [(0,_),(5,_)] (.c2 rfl rfl) (nn (sr (mv rfl (mv rfl (nlc rfl (fad rfl y1p (z0i rfl hk rfl z6t (mv rfl ?_))))))))
  replace ho5:=ho5.fr q8 (by intro k hk hb_;simp at hk;subst hk;have:=hk5 _ hb_;have h2_:=(ho5.blk _ hb_).1;omega)
  have hoo41:=hF
  refine z1x rfl rfl hF ho5.sl z5v (by unfold maxLen;omega) (by omega) (λv41 w9 hF q9 hor41=>?_)
  have qAp:=q9
  obtain ⟨A41,c41,rfl,hc41⟩:=hF.sl.form
  have hx41:∀k∈z0v (.slice A41 (m.fl++(m.q.p.at o.b o.p)).length c41),k∈z0v (slv m.fa)\/_<=k:=λk hk=>by
   rcases hor41 with e|e|e
   ·exact .inl (congrArg z0v e▸hk)
   ·exact .inl (e▸hk)
   rw [e,List.mem_singleton] at hk;exact .inr (Nat.le_of_eq hk.symm)
  have z9:=q9.size
  replace hk:=hk.fr q9 (λhk_=>hoo41.neB hk (by decide) hk_)
  refine nlc rfl (fad rfl y1p (z3u rfl rfl hk rfl u2g (λw10 hkn q10 z10=>?_)))
  have hM1:=hMB.fall mtd (by decide) (u:=(A41,(m.fl++(m.q.p.at o.b o.p)).length,c41)) hF qAp hx41 hkn q10
  refine kpL [] .nil (nn (sr (asg rfl (nn (rt (r1 results71 rfl ?_))))))
  exact ⟨_,rfl,MRet.ok (by rw [show y8m m.p o=_ from if_neg (λe=>c0 (by rw [show (m.q.p.at o.b o.p)=[] from e];rfl))];exact congrArg Except.ok (by unfold MQ.p;simp only [hqp])) hM1⟩
 refine z1d h x4m rfl λw11 hb6 q11 hz a h=>?_
 obtain ⟨g_6,hg⟩:∃g,g=w4.heap.size:=⟨_,rfl⟩;rw [<-hg] at hb6 h hz
 have hn_.gk_6:ka.gk<g_6:=by have:=hk.lt;omega
 have hn__6:g3<g_6:=by have:=hb3.lt;omega
 have z11:=q11.size
 replace hM:=hM.ext q11
 replace hC:=hC.next q11
 refine z0b ?_
 refine z0d 6 rfl ?_
 refine z0m h (z0a rfl (z0a rfl (z0a rfl z0g))) v2a (by have x:=x0l m.q o.b n (.slice none 0 0) [] _ hM.b.at (Sl.nil _) hv (by rw [<-hpn];exact hn) (by simp) (by simp) (λi=>by have:=List.nodup_iff_count.1 hv.nd i;simp only [List.count_nil];omega);rw [<-hpn] at x;exact x) ?_;rintro _ w12 ⟨⟨q',rfl,hQ,hqp⟩,q12⟩ a h
 have z12:=q12.size
 replace hM:=hM.ext q12
 replace hk:=hk.ext (q11.n1 q12)
 replace hb3:=hb3.ext (q11.n1 q12)
 replace ho5:=ho5.ext (q11.n1 q12)
 replace hb6:=hb6.ext q12
 replace hC:=hC.next q12
 have hfb:=y3i hQ hM0.f (by omega)
 refine z0b ?_
 refine z0e 7 h rfl rfl λa h=>z0k 8 h rfl rfl rfl λa h=>z0k 9 h rfl rfl rfl λa h=>z0d 11 rfl ?_
 refine z0u h rfl rfl hb6 rfl y9r λw13 hbn q13 hz a h=>?_
 have z13:=q13.size
 replace hk:=hk.fr q13
 replace hb3:=hb3.fr q13
 replace ho5:=ho5.fr q13 (by intro k hk hb_;simp at hk;subst hk;have:=hk5 _ hb_;have h2_:=(ho5.blk _ hb_).1;omega)
 first|replace hQ:=BdO.ext hQ q13|replace hQ:=BdO.tf hQ q13 (OffT.one hb6 (by decide)) (OffT.one hb6 (by decide))
 replace hC:=hC.sp q13
 clear hb6 hz;have hb6:Blk w13 g_6 _ [_,_]:=hbn;clear hbn
 refine z0b ?_
 refine z0d 12 rfl ?_
 refine z0q h rfl λa h=>?_
 refine z0b ?_
 refine z0r ?_
 clear hC hM_b hk_b hb3_b ho5_b
 refine bk (h.sub (L':=[(0,_),(5,_),(6,_),(7,_)]) (.c4 rfl rfl rfl rfl)) (tn (sq (sr (mv rfl (ne' rfl rfl (nn (cd rfl (λc1=>?_) (λc1=>?_))))))))
 ·exact absurd rfl c1
 refine sk (tn (sr (mv rfl (z0n rfl hb6 z5k (nlc rfl (fad rfl z2p ?_))))))
 replace hM:=hM0.ext (q1.z6 q2 q3 q4 q11 q12 q13)
 refine z4l (cs':=v5m ka { m with q:=q' }) rfl rfl hM.k (by intro u hu;simp at hu;rcases hu with rfl|rfl<;>rfl) y9r rfl (λw14 hkn q14 z14=>?_)
 replace hM:=hM.beds mtd (hQ.low (by omega)) hkn q14 hfb
 have hk:=hM.k
 have hM0:=hM
 have hMB:=hM
 have hF:Lw.Own z1h 87 wS.heap.size _ (slv m.fa) m.fl:=hM.f
 clear hkn
 refine kpL [(0,_),(5,_)] (.c2 rfl rfl) (nn (sr (mv rfl (mv rfl (nlc rfl (fad rfl y1p (z0i rfl hk rfl z6t (mv rfl ?_))))))))
 replace ho5:=ho5.fr q14 (by intro k hk hb_;simp at hk;subst hk;have:=hk5 _ hb_;have h2_:=(ho5.blk _ hb_).1;omega)
 have hoo41:=hF
 refine z1x rfl rfl hF ho5.sl z5v (by unfold maxLen;omega) (by omega) (λv41 w15 hF q15 hor41=>?_)
 have qAp:=q15
 obtain ⟨A41,c41,rfl,hc41⟩:=hF.sl.form
 have hx41:∀k∈z0v (.slice A41 (m.fl++(m.q.p.at o.b o.p)).length c41),k∈z0v (slv m.fa)\/_<=k:=λk hk=>by
  rcases hor41 with e|e|e
  ·exact .inl (congrArg z0v e▸hk)
  ·exact .inl (e▸hk)
  rw [e,List.mem_singleton] at hk;exact .inr (Nat.le_of_eq hk.symm)
 have z15:=q15.size
 replace hk:=hk.fr q15 (λhk_=>hoo41.neB hk (by decide) hk_)
 refine nlc rfl (fad rfl y1p (z3u rfl rfl hk rfl u2g (λw16 hkn q16 z16=>?_)))
 have hM1:=hMB.fall mtd (by decide) (u:=(A41,(m.fl++(m.q.p.at o.b o.p)).length,c41)) hF qAp hx41 hkn q16
 refine kpL [] .nil (nn (sr (asg rfl (nn (rt (r1 results71 rfl ?_))))))
 exact ⟨_,rfl,MRet.ok (by rw [show y8m m.p o=_ from if_neg (λe=>c0 (by rw [show (m.q.p.at o.b o.p)=[] from e];rfl))];exact congrArg Except.ok (by unfold MQ.p;simp only [hqp])) hM1⟩
theorem v0d (b p r:Int) (w0:World) (hn:z3d b p=0) (hr:-4<=r/\r<=4):Rets prog 115 #[.agg #[.int .u8 b,.int .i64 p],.int .i64 r] w0 λv w'=>(∃b' p':Int,v=.tuple #[.agg #[.int .u8 b',.int .i64 p'],.int .i64 (if z3d (1-b) (z5z b p r)≠0 then 11 else 0)]/\(z3d (1-b) (z5z b p r)=0->b'=1-b/\p'=z5z b p r))/\Fr [] w0 w':=by
 have hbp:=z2v hn
 refine we [(0,.agg #[.int .u8 b,.int .i64 p]),(1,.int .i64 r)] func115 rfl ntmps115 rfl (.c2 rfl rfl) (sr (bx rfl rfl rfl (λg2 w1 hg2 hb2 q1 z1=>(al v6o rfl rfl (λg4 w2 hg4 hb4 q2 z2=>(asg rfl (nn (sq (sr ?_)))))))))
 replace hb2:=hb2.ext q2
 refine z0n rfl hb2 z4v (cl (ev1 rfl) v9e (z4k _ _ _) rfl ?_)
 rintro _ w3 ⟨rfl,q3⟩
 have z3:=q3.size
 refine ne' rfl rfl (nn (cd rfl (λc0=>?_) (λc0=>?_)))
 ·refine sr (z1r (cs:=[_,_]) z0g y9u z0s rfl ?_)
  replace hb4:=hb4.ext q3
  refine z0j (vs:=[_,_]) rfl rfl hb4 y9k (λw4 hb4 q4 z4=>(asg rfl (nn (rt (tr (rCT results115 rfl hb4 z4v rfl ?_))))))
  exact absurd hn c0
 refine sk (tn (sq (sr (mv rfl (cl (ev1 rfl) (mkC func152) (x1g _ _) rfl ?_)))))
 rintro _ w5 ⟨rfl,q5⟩
 have z5:=q5.size
 refine nt' rfl (nn (cd rfl (λc1=>?_) (λc1=>?_)))
 ·refine sr (z1r (cs:=[_,_]) z0g y9u z0s rfl ?_)
  replace hb4:=hb4.ext (q3.n1 q5)
  refine z0j (vs:=[_,_]) rfl rfl hb4 y9k (λw6 hb4 q6 z6=>(asg rfl (nn (rt (tr (rCT results115 rfl hb4 z4v rfl ?_))))))
  exact absurd hr c1
 refine sk (tn (sr (fad rfl z6i ?_)))
 replace hb2:=hb2.ext (q3.n1 q5)
 refine z0i rfl hb2 rfl na3 (mv rfl (z2u rfl rfl (wi6 (by omega)) (z1r (cs:=[_,_]) (ev2 rfl rfl) y9u (z0f rfl rfl rfl (z0f rfl rfl rfl z0s)) rfl ?_)))
 refine al v6o rfl rfl (λg6 w7 hg6 hb6 q7 z7=>(z0j (vs:=[_,_]) rfl rfl hb6 y9k (λw8 hb6 q8 z8=>(kpL [(1,_),(2,_),(4,_),(6,_)] (.c4 rfl rfl rfl rfl) (nn ?_)))))
 refine jn (ι:=Unit) [(4,_),(6,_)] (λ_j=>[]) (λ_j w'=>Fr [g6] w8 w'/\Blk w' g6 24 [.int .u8 (1-b),.int .i64 (z5z b p r)]) (.c2 rfl rfl) ?_ ?_
 ·refine sr (fad rfl z6e ?_)
  replace hb2:=(hb2.ext q7).fr q8
  refine z0i rfl hb2 rfl x4n (eq' rfl rfl (nn (cd rfl (λc2=>?_) (λc2=>?_))))
  ·refine rg (fad rfl z6i (z0i rfl hb2 rfl na3 (mv rfl (z0y rfl rfl (wi6 (by omega)) (z1r (cs:=[_,_]) (ev2 rfl rfl) y9u (z0f rfl rfl rfl (z0f rfl rfl rfl z0s)) rfl ?_)))))
   refine z0j (vs:=[_,_]) rfl rfl hb6 y9k (λw9 hb6 q9 z9=>(kpL [(4,_),(6,_)] (.c2 rfl rfl) (nl ?_)))
   exact jE (()) (.c2 rfl rfl) ⟨((Fr.refl [g6] _).z1 q9),(by rw [show z5z b p r=p+r from if_pos c2,show 1-b=0 by omega];exact hb6)⟩
  refine sk ?_
  exact jE (()) (.c2 rfl rfl) ⟨(Fr.refl _ _),(by rw [show z5z b p r=p-r from if_neg c2,show 1-b=1 by omega];exact hb6)⟩
 rintro _j w10 ⟨q10,hb6⟩
 have z10:=q10.size
 have lt_hb6:=hb6.lt
 refine kpC [(4,_),(6,_)] (.c2 rfl rfl) (sq (sr (z0n rfl hb6 z4v (cl (ev1 rfl) v9e (z4k _ _ _) rfl ?_))))
 rintro _ w11 ⟨rfl,q11⟩
 have z11:=q11.size
 refine ne' rfl rfl (nn (cd rfl (λc3=>?_) (λc3=>?_)))
 ·refine sr (z1r (cs:=[_,_]) z0g y9u z0s rfl ?_)
  replace hb4:=(((hb4.ext (q3.n2 q5 q7)).fr q8).fr q10).ext q11
  refine z0j (vs:=[_,_]) rfl rfl hb4 y9k (λw12 hb4 q12 z12=>(asg rfl (nn (rt (tr (rCT results115 rfl hb4 z4v rfl ?_))))))
  exact ⟨_,rfl,⟨0,0,by rw [if_pos c3],λe=>absurd e c3⟩,(((q1.z6 q2 q3 q5 q7 q8 q10).n1 q11).z1 q12)⟩
 refine sk (tn (sr ?_))
 replace hb6:=hb6.ext q11
 refine z0n rfl hb6 z4v ?_
 replace hb4:=(((hb4.ext (q3.n2 q5 q7)).fr q8).fr q10).ext q11
 refine z0j (vs:=[_,_]) rfl rfl hb4 y9k (λw13 hb4 q13 z13=>(asg rfl (nn (rt (rCT results115 rfl hb4 z4v rfl ?_)))))
 exact ⟨_,rfl,⟨_,_,by rw [if_neg c3],λ_=>⟨rfl,rfl⟩⟩,(((q1.z6 q2 q3 q5 q7 q8 q10).n1 q11).z1 q13)⟩
def BdOIf (c:Prop) (Sτ I base:Nat) (w:World) (q:BdQ):Prop:=c->BdO Sτ I base w q
theorem BdOIf.ext {c:Prop} {Sτ I base:Nat} {w w':World} {q:BdQ} (h:BdOIf c Sτ I base w q) (hf:Fr [] w w'):BdOIf c Sτ I base w' q:=λhc=>(h hc).ext hf
theorem BdOIf.tf {c:Prop} {Sτ I base:Nat} {w w':World} {q:BdQ} {S:List Nat} (h:BdOIf c Sτ I base w q) (hf:Fr S w w') (hS:OffT w Sτ S) (hI:OffT w I S):BdOIf c Sτ I base w' q:=λhc=>BdO.tf (h hc) hf hS hI
theorem y0d {p:MSt} {o:MOp} (h:o.b=0\/o.b=1):y1h p.B o.b o.p (z5z o.b o.p p.rk)=z9f p o:=by
 unfold y1h z9f
 rcases h with e|e<;>rw [e]<;>rfl
set_option maxHeartbeats 2000000 in
theorem u6z (wS:World) (ka:MA) (m:MQ) (o:MOp) (w0:World) (hM:MkM τd 137 wS ka w0 m) (hi:MInv m.p) (hn:z3d o.b o.p=0):Rets prog 70 #[.pointer (some ⟨ka.gk,0,none⟩),opV o] w0 λr w'=>MRet τd 137 wS ka (z7t m.p o) r w':=by
 have hzS:=hM.fr.size
 have hk:=hM.k
 have hkz:=hk.lt
 have hly:=hM.ly
 have hlt:=hM.lt
 have hgyz:=(hM.y.out.blk ka.gy (by simp [z0v])).2
 have hnr:=z2v hn
 obtain ⟨n,hpn⟩:∃n:Nat,o.p=(n:Int):=⟨o.p.toNat,by omega⟩
 obtain ⟨⟨hf,hb⟩,h4,h4b⟩:=z3m hi.B
 have hv:BdOk m.q.p:=hi.B
 have hal:=y4t hv o.b o.p
 have hrk:-4<=m.rk/\m.rk<=4:=hi.rk
 have hs1:=y3r o.b o.p m.rk
 have hs2:=y3r (1-o.b) (z5z o.b o.p m.rk) m.rk
 refine we [(0,.pointer (some ⟨ka.gk,0,none⟩)),(1,opV o)] func70 rfl ntmps70 rfl (.c2 rfl rfl) ?_
 have hM0:=hM
 refine sr (bx rfl rfl rfl (λg3 w1 hg3 hb3 q1 z1=>(asg rfl (nn (sq (sq ?_))))))
 replace hM:=hM0.ext q1
 intro a h
 refine z0h none (λwb w'=>Fr [] wb w') z2r ?_;intro w2 q2
 have z2:=q2.size
 replace hM:=hM.ext q2
 replace hk:=hk.ext (q1.n1 q2)
 replace hb3:=hb3.ext q2
 have hC:Fr [] w2 w2:=Fr.refl _ _
 have hM_b:=hM
 have hk_b:=hk
 have hb3_b:=hb3
 refine z0e 0 h rfl rfl λa h=>z0o 1 h rfl rfl λa h=>z0c 2 h rfl z2p rfl λa h=>z1c (vs:=[_,_]) 3 h rfl (λ_ hw=>(hk_b.ext hw)) z5k rfl rfl λa h=>z0c 4 h rfl z4e rfl λa h=>z1c (vs:=[_,_]) 5 h rfl (λ_ hw=>(hb3_b.ext hw)) z4v rfl rfl λa h=>z0d 6 rfl ?_
 refine z0m h (z0a rfl (z0a rfl z0g)) u1d (x1b m.q o.b o.p _ hM.b.at (by omega) hf hb h4 h4b) ?_;rintro v17 w3 ⟨ho17,hq⟩ a h
 have z3:=hq.size
 replace hM:=hM.ext hq
 replace hk:=hk.ext hq
 replace hb3:=hb3.ext hq
 replace hC:=hC.next hq
 have q3:=hq
 rw [y5u hn] at ho17
 obtain ⟨A17,c17,rfl,hc17⟩:=ho17.sl.form
 refine z0b ?_
 refine z7v 7 hC h wn rfl underlying37 rfl λa h=>v9j 8 hC h wn rfl rfl rfl rfl λa h=>z0r ?_
 clear hC hM_b hk_b hb3_b
 refine bk (h.sub (L':=[(0,_),(3,_),(19,_)]) (.c3 rfl rfl rfl)) (tn (cd rfl (λc0=>?_) (λc0=>?_)))
 ·refine sr (asg rfl (nn (rt (tr (r1 results70 rfl ?_)))))
  exact ⟨_,rfl,MRet.err (if_pos (List.length_eq_zero_iff.1 (show (m.q.p.at o.b o.p).length=0 by omega))) (by decide) hM.fr⟩
 have hne:(m.q.p.at o.b o.p)≠[]:=λe=>c0 (by rw [e];rfl)
 refine sk (tn (sq ?_))
 intro a h
 refine z0h none (λwb w'=>Fr [] wb w') z2r ?_;intro w4 q4
 have z4:=q4.size
 replace hM:=hM.ext q4
 replace hk:=hk.ext q4
 replace hb3:=hb3.ext q4
 have hC:Fr [] w4 w4:=Fr.refl _ _
 have hM_b:=hM
 have hk_b:=hk
 have hb3_b:=hb3
 refine z0c 0 h rfl z4e rfl λa h=>z1c (vs:=[_,_]) 1 h rfl (λ_ hw=>(hb3_b.ext hw)) z4v rfl rfl λa h=>z0e 2 h rfl rfl λa h=>z0o 3 h rfl rfl λa h=>z0c 4 h rfl z3b rfl λa h=>z0l 5 h rfl (λ_ hw=>hk_b.ext hw) rfl na3 rfl λa h=>z2d 6 10 (by kernel_rfl) rfl rfl ?_ ?_
 ·refine z0m h (z0a rfl (z0a rfl z0g)) (mkC func115) (v0d o.b o.p m.rk _ hn hrk) ?_;rintro _ w5 ⟨⟨bn,pn,rfl,hbn⟩,q5⟩ a h
  have z5:=q5.size
  replace hk:=hk.ext q5
  replace hb3:=hb3.ext q5
  replace hC:=hC.next q5
  refine z0b ?_
  refine z0e 7 h rfl rfl λa h=>z0k 8 h rfl rfl rfl λa h=>z0k 9 h rfl rfl rfl λa h=>z0d 10 rfl ?_
  refine z1d h v6o rfl λw6 hb5 q6 hz a h=>?_
  obtain ⟨g_5,hg⟩:∃g,g=w5.heap.size:=⟨_,rfl⟩;rw [<-hg] at hb5 h hz
  have hn_.gk_5:ka.gk<g_5:=by have:=hk.lt;omega
  have hn__5:g3<g_5:=by have:=hb3.lt;omega
  have z6:=q6.size
  replace hM:=hM.ext (q5.n1 q6)
  replace hk:=hk.ext q6
  replace hb3:=hb3.ext q6
  replace hC:=hC.next q6
  refine z0b ?_
  refine z0d 11 rfl ?_
  refine z0u h rfl rfl hb5 rfl y9k ?_ (h1:=(by first|(simp [Value.oneCell',S];done)|exact z2s.one (m.ys.getD i yq0)));clear h a;intro w7 hbn q7 hz a h
  have z7:=q7.size
  replace hk:=hk.fr q7
  replace hb3:=hb3.fr q7
  replace hC:=hC.sp q7
  clear hb5 hz;have hb5:Blk w7 g_5 _ [_,_]:=hbn;clear hbn
  refine z0b ?_
  refine z0d 12 rfl ?_
  refine z0q h rfl λa h=>?_
  refine z0b ?_
  refine z0r ?_
  clear hC hM_b hk_b hb3_b
  refine bk (h.sub (L':=[(0,_),(3,_),(5,_),(6,_)]) (.c4 rfl rfl rfl rfl)) (tn (sq (sr (mv rfl (ne' rfl rfl (nn (cd rfl (λc1=>?_) (λc1=>?_))))))))
  ·refine sr (mv rfl (asg rfl (kpL [(4,_)] (.cons rfl .nil) (nn (rt (tr (r1 results70 rfl ?_)))))))
   replace hM:=hM0.ext (q1.z6 q2 q3 q4 q5 q6 q7)
   have hno:z3d (1-o.b) (z5z o.b o.p m.rk)≠0:=λe=>c1 (by rw [if_neg (λh=>h e)])
   exact ⟨_,rfl,by rw [if_pos hno];exact MRet.err (by rw [z7t,if_neg hne,if_pos hno]) (by decide) hM.fr⟩
  have hno:z3d (1-o.b) (z5z o.b o.p m.rk)=0:=Classical.not_not.1 λe=>c1 (by rw [if_pos e];decide)
  obtain ⟨rfl,rfl⟩:=hbn hno
  have hnr2:=z2v hno
  obtain ⟨n2,hpn2⟩:∃n2:Nat,z5z o.b o.p m.rk=(n2:Int):=⟨(z5z o.b o.p m.rk).toNat,by omega⟩
  refine sk (tn (sq ?_))
  replace hM:=hM0.ext (q1.z6 q2 q3 q4 q5 q6 q7)
  intro a h
  refine z0h none (λwb w'=>Fr [] wb w') z2r ?_;intro w8 q8
  have z8:=q8.size
  replace hM:=hM.ext q8
  replace hk:=hk.ext q8
  replace hb3:=hb3.ext q8
  replace hb5:=hb5.ext q8
  have hC:Fr [] w8 w8:=Fr.refl _ _
  have hM_b:=hM
  have hk_b:=hk
  have hb3_b:=hb3
  have hb5_b:=hb5
  refine z0c 0 h rfl z4e rfl λa h=>z1c (vs:=[_,_]) 1 h rfl (λ_ hw=>(hb3_b.ext hw)) z4v rfl rfl λa h=>z0e 2 h rfl rfl λa h=>z0o 3 h rfl rfl λa h=>z0c 4 h rfl z3b rfl λa h=>z0l 5 h rfl (λ_ hw=>hk_b.ext hw) rfl na3 rfl λa h=>z0t 7 h rfl (λ_ hw=>hb5_b.ext hw) z4v rfl λa h=>z0e 8 h rfl rfl λa h=>z0o 9 h rfl rfl λa h=>z0c 10 h rfl z3b rfl λa h=>z0l 11 h rfl (λ_ hw=>hk_b.ext hw) rfl na3 rfl λa h=>?_
  refine z0d 6 rfl ?_
  refine z0m h (z0a rfl (z0a rfl z0g)) x2d (z8s _ _ _ _ (by omega)) ?_;rintro _ w9 ⟨rfl,q9⟩ a h
  have z9:=q9.size
  replace hC:=hC.next q9
  refine z0b ?_
  refine z0d 12 rfl ?_
  refine z0m h (z0a rfl (z0a rfl z0g)) x2d (z8s _ _ _ _ (by omega)) ?_;rintro _ w10 ⟨rfl,q10⟩ a h
  have z10:=q10.size
  replace hM:=hM.ext (q9.n1 q10)
  replace hk:=hk.ext (q9.n1 q10)
  replace hb3:=hb3.ext (q9.n1 q10)
  replace hb5:=hb5.ext (q9.n1 q10)
  replace hC:=hC.next q10
  refine z0b ?_
  refine u1t 13 hC h wn rfl rfl rfl rfl λa h=>z5i 14 h rfl rfl (by first|exact i6 (by omega)|rfl) rfl λa h=>z0d 15 rfl ?_
  refine z0q h rfl λa h=>?_
  refine z0b ?_
  refine z0r ?_
  clear hC hM_b hk_b hb3_b hb5_b
  refine bk (h.sub (L':=[(0,_),(3,_),(5,_),(7,_)]) (.c4 rfl rfl rfl rfl)) (tn (sq (sr (mv rfl (nlc rfl (fad rfl z2w (z0i rfl hk rfl y1w (lnS rfl underlying33 (mv rfl (nn (bl ?_)))))))))))
  refine lpK (ι:=Nat) [(0,_),(3,_),(5,_),(7,_),(51,_),(52,_)] (λi=>[(53,.int .i64 (i:Int))]) (λi w'=>Fr [] w10 w'/\i<=6/\∀k,k<i->¬((m.ys.getD k yq0).inn=true/\(m.ys.getD k yq0).pl=(x2v m.p o))) (λi=>6-i) 0 (.c7 rfl rfl rfl rfl rfl rfl rfl) ⟨Fr.refl _ _,⟨Nat.zero_le _,λj h=>absurd h (by omega)⟩⟩ ?_
  rintro i w11 ⟨q11,⟨hi,hz⟩⟩
  have z11:=q11.size
  refine kpC [(0,_),(3,_),(5,_),(7,_),(51,_),(52,_),(53,_)] (.c7 rfl rfl rfl rfl rfl rfl rfl) (sr (lt' rfl rfl (nn (sq (cd rfl (λc2=>?_) (λc2=>?_))))))
  ·refine sk (tn (sq (bl (sr ?_))))
   replace hM:=hM0.ext ((((q1.z6 q2 q3 q4 q5 q6 q7).n1 q8).n1 q9).n2 q10 q11)
   refine z1a (yq0) rfl hM.y.out.sl rfl y1r z1f (λad55 hc55=>?_)
   refine z1j rfl (hc55 _ hM.y.out.sl) z6h (al y1j rfl rfl (λg9 w12 hg9 hb9 q12 z12=>?_))
   refine z0j (vs:=[_,_,_,_,_]) rfl rfl hb9 z6k (λw13 hb9 q13 z13=>?_) (h1:=(by first|(simp [Value.oneCell',S];done)|exact z2s.one (m.ys.getD i yq0)))
   refine nn (sq ?_)
   refine rbo (r:=64) (L':=[(0,_),(3,_),(5,_),(7,_),(51,_),(52,_),(53,_)]) (((m.ys.getD i yq0).inn=true/\((m.ys.getD i yq0).pl=((min (z2q o.b o.p m.rk) (z2q (1-o.b) (z5z o.b o.p m.rk) m.rk))+1)))) (.c7 rfl rfl rfl rfl rfl rfl rfl) ?_ ?_
   ·refine fad rfl z9k (z0i rfl hb9 rfl na4 (mv rfl (gs 59 rfl (λg0=>?_) (λg0=>?_))))
    ·exact gY rfl (fad rfl z6j (gY rfl (z0i rfl hb9 rfl na3 (gY rfl (mv rfl (gY rfl (eq' rfl rfl (pkt rfl rfl (rbe rfl (.c7 rfl rfl rfl rfl rfl rfl rfl))))))))))
    exact gN rfl rfl (gN rfl rfl (gN rfl rfl (gN rfl rfl (pkf rfl rfl (rbe rfl (.c7 rfl rfl rfl rfl rfl rfl rfl))))))
   refine tn (cd rfl (λc3=>?_) (λc3=>?_))
   ·refine sr (asg rfl (kpL [(4,_)] (.cons rfl .nil) (nn (rt (rb (tr (tr (rb (tr (r1 results70 rfl ?_))))))))))
    replace hM:=hM0.ext ((((q1.z6 q2 q3 q4 q5 q6 q7).n1 q8).n1 q9).z4 q10 q11 q12 q13)
    exact ⟨_,rfl,MRet.err (by rw [z7t,if_neg hne,if_neg (λh=>h hno),if_pos (⟨_,List.mem_map.2 ⟨m.ys.getD i yq0,z0x (by omega),rfl⟩,c3⟩:∃y∈m.p.ys,y.inn=true/\y.pl=x2v m.p o)]) (by decide) hM.fr⟩
   refine sk (bn' (tn (rg (z0y rfl rfl (wi6 (by omega)) (mv rfl (nl ?_))))))
   exact lpE (i+1) (.c7 rfl rfl rfl rfl rfl rfl rfl) ⟨(q11.z2 q12 q13),⟨by omega,λk h=>by
    by_cases e:k=i
    ·subst e;exact c3
    exact hz k (by omega)⟩⟩ (by omega)
  have hnone:¬ ∃y∈m.p.ys,y.inn=true/\y.pl=x2v m.p o:=by
   rintro ⟨y,hy,h1,h2⟩
   obtain ⟨z,hz1,rfl⟩:=List.mem_map.1 hy
   obtain ⟨k,hk1,rfl⟩:=List.getElem_of_mem hz1
   refine hz k (by omega) ?_
   rw [List.getD,List.getElem?_eq_getElem hk1];exact ⟨h1,h2⟩
  refine ex (te (te (xh (tn (sq ?_)))))
  replace hM:=hM0.ext ((((q1.z6 q2 q3 q4 q5 q6 q7).n1 q8).n1 q9).n2 q10 q11)
  intro a h
  refine z0h none (λwb w'=>Fr [] wb w') z2r ?_;intro w14 q14
  have z14:=q14.size
  replace hM:=hM.ext q14
  replace hk:=hk.ext (q11.n1 q14)
  replace hb3:=hb3.ext (q11.n1 q14)
  replace hb5:=hb5.ext (q11.n1 q14)
  have hC:Fr [] w14 w14:=Fr.refl _ _
  have hM_b:=hM
  have hk_b:=hk
  have hb3_b:=hb3
  have hb5_b:=hb5
  refine z0e 0 h rfl rfl λa h=>z0o 1 h rfl rfl λa h=>z0c 2 h rfl z2p rfl λa h=>z1c (vs:=[_,_]) 3 h rfl (λ_ hw=>(hk_b.ext hw)) z5k rfl rfl λa h=>z0c 4 h rfl z4e rfl λa h=>z1c (vs:=[_,_]) 5 h rfl (λ_ hw=>(hb3_b.ext hw)) z4v rfl rfl λa h=>z0t 6 h rfl (λ_ hw=>hb5_b.ext hw) z4v rfl λa h=>z2d 7 11 (by kernel_rfl) rfl rfl ?_ ?_
  ·refine z0m h (z0a rfl (z0a rfl (z0a rfl z0g))) (mkC func117) (by have x:=y9s m.q o.b n n2 _ hM.b.at hv (by rw [<-hpn];exact hn) (by rw [<-hpn2];exact hno) (by rw [<-hpn];exact hne);rw [<-hpn,<-hpn2] at x;exact x) ?_;rintro _ w15 ⟨⟨q',rfl,hjq⟩,q15⟩ a h
   have z15:=q15.size
   replace hk:=hk.ext q15
   replace hb3:=hb3.ext q15
   replace hb5:=hb5.ext q15
   replace hC:=hC.next q15
   have hQ:BdOIf (¬4<(m.q.p.at o.b o.p).length+(m.q.p.at (1-o.b) (z5z o.b o.p m.rk)).length) 37 87 _ _ q':=λhc=>(hjq hc).1
   have hqp:=λhc=>(hjq hc).2
   have hfb:=λhc=>y3i (hQ hc) hM0.f (by omega)
   refine z0b ?_
   refine z0e 8 h rfl rfl λa h=>z0k 9 h rfl rfl rfl λa h=>z0k 10 h rfl rfl rfl λa h=>z0d 11 rfl ?_
   refine z1d h x4m rfl λw16 hb10 q16 hz a h=>?_
   obtain ⟨g_10,hg⟩:∃g,g=w15.heap.size:=⟨_,rfl⟩;rw [<-hg] at hb10 h hz
   have hn_.gk_10:ka.gk<g_10:=by have:=hk.lt;omega
   have hn__10:g3<g_10:=by have:=hb3.lt;omega
   have hn_5_10:g_5<g_10:=by have:=hb5.lt;omega
   have z16:=q16.size
   replace hM:=hM.ext (q15.n1 q16)
   replace hk:=hk.ext q16
   replace hb3:=hb3.ext q16
   replace hb5:=hb5.ext q16
   first|replace hQ:=BdOIf.ext hQ q16|replace hQ:=BdOIf.tf hQ q16 (OffT.one hb10 (by decide)) (OffT.one hb10 (by decide))
   replace hC:=hC.next q16
   refine z0b ?_
   refine z0d 12 rfl ?_
   refine z0u h rfl rfl hb10 rfl y9r ?_ (h1:=(by first|(simp [Value.oneCell',S];done)|exact z2s.one (m.ys.getD i yq0)));clear h a;intro w17 hbn q17 hz a h
   have z17:=q17.size
   replace hk:=hk.fr q17
   replace hb3:=hb3.fr q17
   replace hb5:=hb5.fr q17
   first|replace hQ:=BdOIf.ext hQ q17|replace hQ:=BdOIf.tf hQ q17 (OffT.one hb10 (by decide)) (OffT.one hb10 (by decide))
   replace hC:=hC.sp q17
   clear hb10 hz;have hb10:Blk w17 g_10 _ [_,_]:=hbn;clear hbn
   refine z0b ?_
   refine z0d 13 rfl ?_
   refine z0q h rfl λa h=>?_
   refine z0b ?_
   refine z0r ?_
   clear hC hM_b hk_b hb3_b hb5_b
   refine bk (h.sub (L':=[(0,_),(6,_),(10,_)]) (.c3 rfl rfl rfl)) (tn (sq (sr (mv rfl (eq' rfl rfl (nn (cd rfl (λc4=>?_) (λc4=>?_))))))))
   ·have hnc:¬4<(m.q.p.at o.b o.p).length+(m.q.p.at (1-o.b) (z5z o.b o.p m.rk)).length:=λe=>by rw [if_pos e] at c4;exact absurd c4 (by decide)
    replace hQ:=hQ hnc
    replace hfb:=hfb hnc
    refine rg (mv rfl (z0n rfl hb10 z5k (nlc rfl (fad rfl z2p ?_))))
    replace hM:=hM0.ext ((((q1.z6 q2 q3 q4 q5 q6 q7).n1 q8).n1 q9).z6 q10 q11 q14 q15 q16 q17)
    refine z4l (cs':=v5m ka { m with q:=q' }) rfl rfl hM.k (by intro u hu;simp at hu;rcases hu with rfl|rfl<;>rfl) y9r rfl (λw18 hkn q18 z18=>?_)
    replace hM:=hM.beds mtd (hQ.low (by omega)) hkn q18 hfb
    have hk:=hM.k
    have hM0:=hM
    have hMB:=hM
    have hF:Lw.Own z1h 87 wS.heap.size _ (slv m.fa) m.fl:=hM.f
    clear hkn
    refine kpL [(6,_)] (.cons rfl .nil) (nl (tn (sr (mv rfl (asg rfl (nn (rt (r1 results70 rfl ?_))))))))
    exact ⟨_,rfl,by rw [c4];exact MRet.ok (by rw [z7t,if_neg hne,if_neg (λh=>h hno),if_neg hnone,if_neg hnc];exact congrArg Except.ok (by have hj:y1h m.q.p o.b o.p (z5z o.b o.p m.rk)=z9f m.p o:=y0d (p:=m.p) hnr.1;unfold MQ.p;simp only [hqp hnc];rw [hj])) hM⟩
   refine sk (tn (sr (mv rfl (asg rfl (nn (rt (r1 results70 rfl ?_)))))))
   replace hM:=hM0.ext ((((q1.z6 q2 q3 q4 q5 q6 q7).n1 q8).n1 q9).z6 q10 q11 q14 q15 q16 q17)
   exact ⟨_,rfl,MRet.err (by rw [z7t,if_neg hne,if_neg (λh=>h hno),if_neg hnone,if_pos (Classical.not_not.1 λe=>c4 (if_neg e))];rw [if_pos (Classical.not_not.1 λe=>c4 (if_neg e))]) c4 hM.fr⟩
  refine z1d h x4m rfl λw19 hb10 q19 hz a h=>?_
  obtain ⟨g_10,hg⟩:∃g,g=w14.heap.size:=⟨_,rfl⟩;rw [<-hg] at hb10 h hz
  have hn_.gk_10:ka.gk<g_10:=by have:=hk.lt;omega
  have hn__10:g3<g_10:=by have:=hb3.lt;omega
  have hn_5_10:g_5<g_10:=by have:=hb5.lt;omega
  have z19:=q19.size
  replace hM:=hM.ext q19
  replace hC:=hC.next q19
  refine z0b ?_
  refine z0d 7 rfl ?_
  refine z0m h (z0a rfl (z0a rfl (z0a rfl z0g))) (mkC func117) (by have x:=y9s m.q o.b n n2 _ hM.b.at hv (by rw [<-hpn];exact hn) (by rw [<-hpn2];exact hno) (by rw [<-hpn];exact hne);rw [<-hpn,<-hpn2] at x;exact x) ?_;rintro _ w20 ⟨⟨q',rfl,hjq⟩,q20⟩ a h
  have z20:=q20.size
  replace hM:=hM.ext q20
  replace hk:=hk.ext (q19.n1 q20)
  replace hb3:=hb3.ext (q19.n1 q20)
  replace hb5:=hb5.ext (q19.n1 q20)
  replace hb10:=hb10.ext q20
  replace hC:=hC.next q20
  have hQ:BdOIf (¬4<(m.q.p.at o.b o.p).length+(m.q.p.at (1-o.b) (z5z o.b o.p m.rk)).length) 37 87 _ _ q':=λhc=>(hjq hc).1
  have hqp:=λhc=>(hjq hc).2
  have hfb:=λhc=>y3i (hQ hc) hM0.f (by omega)
  refine z0b ?_
  refine z0e 8 h rfl rfl λa h=>z0k 9 h rfl rfl rfl λa h=>z0k 10 h rfl rfl rfl λa h=>z0d 12 rfl ?_
  refine z0u h rfl rfl hb10 rfl y9r ?_ (h1:=(by first|(simp [Value.oneCell',S];done)|exact z2s.one (m.ys.getD i yq0)));clear h a;intro w21 hbn q21 hz a h
  have z21:=q21.size
  replace hk:=hk.fr q21
  replace hb3:=hb3.fr q21
  replace hb5:=hb5.fr q21
  first|replace hQ:=BdOIf.ext hQ q21|replace hQ:=BdOIf.tf hQ q21 (OffT.one hb10 (by decide)) (OffT.one hb10 (by decide))
  replace hC:=hC.sp q21
  clear hb10 hz;have hb10:Blk w21 g_10 _ [_,_]:=hbn;clear hbn
  refine z0b ?_
  refine z0d 13 rfl ?_
  refine z0q h rfl λa h=>?_
  refine z0b ?_
  refine z0r ?_
  clear hC hM_b hk_b hb3_b hb5_b
  refine bk (h.sub (L':=[(0,_),(6,_),(10,_)]) (.c3 rfl rfl rfl)) (tn (sq (sr (mv rfl (eq' rfl rfl (nn (cd rfl (λc4=>?_) (λc4=>?_))))))))
  ·have hnc:¬4<(m.q.p.at o.b o.p).length+(m.q.p.at (1-o.b) (z5z o.b o.p m.rk)).length:=λe=>by rw [if_pos e] at c4;exact absurd c4 (by decide)
   replace hQ:=hQ hnc
   replace hfb:=hfb hnc
   refine rg (mv rfl (z0n rfl hb10 z5k (nlc rfl (fad rfl z2p ?_))))
   replace hM:=hM0.ext ((((q1.z6 q2 q3 q4 q5 q6 q7).n1 q8).n1 q9).z6 q10 q11 q14 q19 q20 q21)
   refine z4l (cs':=v5m ka { m with q:=q' }) rfl rfl hM.k (by intro u hu;simp at hu;rcases hu with rfl|rfl<;>rfl) y9r rfl (λw22 hkn q22 z22=>?_)
   replace hM:=hM.beds mtd (hQ.low (by omega)) hkn q22 hfb
   have hk:=hM.k
   have hM0:=hM
   have hMB:=hM
   have hF:Lw.Own z1h 87 wS.heap.size _ (slv m.fa) m.fl:=hM.f
   clear hkn
   refine kpL [(6,_)] (.cons rfl .nil) (nl (tn (sr (mv rfl (asg rfl (nn (rt (r1 results70 rfl ?_))))))))
   exact ⟨_,rfl,by rw [c4];exact MRet.ok (by rw [z7t,if_neg hne,if_neg (λh=>h hno),if_neg hnone,if_neg hnc];exact congrArg Except.ok (by have hj:y1h m.q.p o.b o.p (z5z o.b o.p m.rk)=z9f m.p o:=y0d (p:=m.p) hnr.1;unfold MQ.p;simp only [hqp hnc];rw [hj])) hM⟩
  refine sk (tn (sr (mv rfl (asg rfl (nn (rt (r1 results70 rfl ?_)))))))
  replace hM:=hM0.ext ((((q1.z6 q2 q3 q4 q5 q6 q7).n1 q8).n1 q9).z6 q10 q11 q14 q19 q20 q21)
  exact ⟨_,rfl,MRet.err (by rw [z7t,if_neg hne,if_neg (λh=>h hno),if_neg hnone,if_pos (Classical.not_not.1 λe=>c4 (if_neg e))];rw [if_pos (Classical.not_not.1 λe=>c4 (if_neg e))]) c4 hM.fr⟩
 refine z1d h v6o rfl λw23 hb5 q23 hz a h=>?_
 obtain ⟨g_5,hg⟩:∃g,g=w4.heap.size:=⟨_,rfl⟩;rw [<-hg] at hb5 h hz
 have hn_.gk_5:ka.gk<g_5:=by have:=hk.lt;omega
 have hn__5:g3<g_5:=by have:=hb3.lt;omega
 have z23:=q23.size
 replace hC:=hC.next q23
 refine z0b ?_
 refine z0d 6 rfl ?_
 refine z0m h (z0a rfl (z0a rfl z0g)) (mkC func115) (v0d o.b o.p m.rk _ hn hrk) ?_;rintro _ w24 ⟨⟨bn,pn,rfl,hbn⟩,q24⟩ a h
 have z24:=q24.size
 replace hM:=hM.ext (q23.n1 q24)
 replace hk:=hk.ext (q23.n1 q24)
 replace hb3:=hb3.ext (q23.n1 q24)
 replace hb5:=hb5.ext q24
 replace hC:=hC.next q24
 refine z0b ?_
 refine z0e 7 h rfl rfl λa h=>z0k 8 h rfl rfl rfl λa h=>z0k 9 h rfl rfl rfl λa h=>z0d 11 rfl ?_
 refine z0u h rfl rfl hb5 rfl y9k ?_ (h1:=(by first|(simp [Value.oneCell',S];done)|exact z2s.one (m.ys.getD i yq0)));clear h a;intro w25 hbn q25 hz a h
 have z25:=q25.size
 replace hk:=hk.fr q25
 replace hb3:=hb3.fr q25
 replace hC:=hC.sp q25
 clear hb5 hz;have hb5:Blk w25 g_5 _ [_,_]:=hbn;clear hbn
 refine z0b ?_
 refine z0d 12 rfl ?_
 refine z0q h rfl λa h=>?_
 refine z0b ?_
 refine z0r ?_
 clear hC hM_b hk_b hb3_b
 refine bk (h.sub (L':=[(0,_),(3,_),(5,_),(6,_)]) (.c4 rfl rfl rfl rfl)) (tn (sq (sr (mv rfl (ne' rfl rfl (nn (cd rfl (λc1=>?_) (λc1=>?_))))))))
 ·refine sr (mv rfl (asg rfl (kpL [(4,_)] (.cons rfl .nil) (nn (rt (tr (r1 results70 rfl ?_)))))))
  replace hM:=hM0.ext (q1.z6 q2 q3 q4 q23 q24 q25)
  have hno:z3d (1-o.b) (z5z o.b o.p m.rk)≠0:=λe=>c1 (by rw [if_neg (λh=>h e)])
  exact ⟨_,rfl,by rw [if_pos hno];exact MRet.err (by rw [z7t,if_neg hne,if_pos hno]) (by decide) hM.fr⟩
 have hno:z3d (1-o.b) (z5z o.b o.p m.rk)=0:=Classical.not_not.1 λe=>c1 (by rw [if_pos e];decide)
 obtain ⟨rfl,rfl⟩:=hbn hno
 have hnr2:=z2v hno
 obtain ⟨n2,hpn2⟩:∃n2:Nat,z5z o.b o.p m.rk=(n2:Int):=⟨(z5z o.b o.p m.rk).toNat,by omega⟩
 refine sk (tn (sq ?_))
 replace hM:=hM0.ext (q1.z6 q2 q3 q4 q23 q24 q25)
 intro a h
 refine z0h none (λwb w'=>Fr [] wb w') z2r ?_;intro w26 q26
 have z26:=q26.size
 replace hM:=hM.ext q26
 replace hk:=hk.ext q26
 replace hb3:=hb3.ext q26
 replace hb5:=hb5.ext q26
 have hC:Fr [] w26 w26:=Fr.refl _ _
 have hM_b:=hM
 have hk_b:=hk
 have hb3_b:=hb3
 have hb5_b:=hb5
 refine z0c 0 h rfl z4e rfl λa h=>z1c (vs:=[_,_]) 1 h rfl (λ_ hw=>(hb3_b.ext hw)) z4v rfl rfl λa h=>z0e 2 h rfl rfl λa h=>z0o 3 h rfl rfl λa h=>z0c 4 h rfl z3b rfl λa h=>z0l 5 h rfl (λ_ hw=>hk_b.ext hw) rfl na3 rfl λa h=>z0t 7 h rfl (λ_ hw=>hb5_b.ext hw) z4v rfl λa h=>z0e 8 h rfl rfl λa h=>z0o 9 h rfl rfl λa h=>z0c 10 h rfl z3b rfl λa h=>z0l 11 h rfl (λ_ hw=>hk_b.ext hw) rfl na3 rfl λa h=>?_
 refine z0d 6 rfl ?_
 refine z0m h (z0a rfl (z0a rfl z0g)) x2d (z8s _ _ _ _ (by omega)) ?_;rintro _ w27 ⟨rfl,q27⟩ a h
 have z27:=q27.size
 replace hC:=hC.next q27
 refine z0b ?_
 refine z0d 12 rfl ?_
 refine z0m h (z0a rfl (z0a rfl z0g)) x2d (z8s _ _ _ _ (by omega)) ?_;rintro _ w28 ⟨rfl,q28⟩ a h
 have z28:=q28.size
 replace hM:=hM.ext (q27.n1 q28)
 replace hk:=hk.ext (q27.n1 q28)
 replace hb3:=hb3.ext (q27.n1 q28)
 replace hb5:=hb5.ext (q27.n1 q28)
 replace hC:=hC.next q28
 refine z0b ?_
 refine u1t 13 hC h wn rfl rfl rfl rfl λa h=>z5i 14 h rfl rfl (by first|exact i6 (by omega)|rfl) rfl λa h=>z0d 15 rfl ?_
 refine z0q h rfl λa h=>?_
 refine z0b ?_
 refine z0r ?_
 clear hC hM_b hk_b hb3_b hb5_b
 refine bk (h.sub (L':=[(0,_),(3,_),(5,_),(7,_)]) (.c4 rfl rfl rfl rfl)) (tn (sq (sr (mv rfl (nlc rfl (fad rfl z2w (z0i rfl hk rfl y1w (lnS rfl underlying33 (mv rfl (nn (bl ?_)))))))))))
 refine lpK (ι:=Nat) [(0,_),(3,_),(5,_),(7,_),(51,_),(52,_)] (λi=>[(53,.int .i64 (i:Int))]) (λi w'=>Fr [] w28 w'/\i<=6/\∀k,k<i->¬((m.ys.getD k yq0).inn=true/\(m.ys.getD k yq0).pl=(x2v m.p o))) (λi=>6-i) 0 (.c7 rfl rfl rfl rfl rfl rfl rfl) ⟨Fr.refl _ _,⟨Nat.zero_le _,λj h=>absurd h (by omega)⟩⟩ ?_
 rintro i w29 ⟨q29,⟨hi,hz⟩⟩
 have z29:=q29.size
 refine kpC [(0,_),(3,_),(5,_),(7,_),(51,_),(52,_),(53,_)] (.c7 rfl rfl rfl rfl rfl rfl rfl) (sr (lt' rfl rfl (nn (sq (cd rfl (λc2=>?_) (λc2=>?_))))))
 ·refine sk (tn (sq (bl (sr ?_))))
  replace hM:=hM0.ext ((((q1.z6 q2 q3 q4 q23 q24 q25).n1 q26).n1 q27).n2 q28 q29)
  refine z1a (yq0) rfl hM.y.out.sl rfl y1r z1f (λad55 hc55=>?_)
  refine z1j rfl (hc55 _ hM.y.out.sl) z6h (al y1j rfl rfl (λg9 w30 hg9 hb9 q30 z30=>?_))
  refine z0j (vs:=[_,_,_,_,_]) rfl rfl hb9 z6k (λw31 hb9 q31 z31=>?_) (h1:=(by first|(simp [Value.oneCell',S];done)|exact z2s.one (m.ys.getD i yq0)))
  refine nn (sq ?_)
  refine rbo (r:=64) (L':=[(0,_),(3,_),(5,_),(7,_),(51,_),(52,_),(53,_)]) (((m.ys.getD i yq0).inn=true/\((m.ys.getD i yq0).pl=((min (z2q o.b o.p m.rk) (z2q (1-o.b) (z5z o.b o.p m.rk) m.rk))+1)))) (.c7 rfl rfl rfl rfl rfl rfl rfl) ?_ ?_
  ·refine fad rfl z9k (z0i rfl hb9 rfl na4 (mv rfl (gs 59 rfl (λg1=>?_) (λg1=>?_))))
   ·exact gY rfl (fad rfl z6j (gY rfl (z0i rfl hb9 rfl na3 (gY rfl (mv rfl (gY rfl (eq' rfl rfl (pkt rfl rfl (rbe rfl (.c7 rfl rfl rfl rfl rfl rfl rfl))))))))))
   exact gN rfl rfl (gN rfl rfl (gN rfl rfl (gN rfl rfl (pkf rfl rfl (rbe rfl (.c7 rfl rfl rfl rfl rfl rfl rfl))))))
  refine tn (cd rfl (λc3=>?_) (λc3=>?_))
  ·refine sr (asg rfl (kpL [(4,_)] (.cons rfl .nil) (nn (rt (rb (tr (tr (rb (tr (r1 results70 rfl ?_))))))))))
   replace hM:=hM0.ext ((((q1.z6 q2 q3 q4 q23 q24 q25).n1 q26).n1 q27).z4 q28 q29 q30 q31)
   exact ⟨_,rfl,MRet.err (by rw [z7t,if_neg hne,if_neg (λh=>h hno),if_pos (⟨_,List.mem_map.2 ⟨m.ys.getD i yq0,z0x (by omega),rfl⟩,c3⟩:∃y∈m.p.ys,y.inn=true/\y.pl=x2v m.p o)]) (by decide) hM.fr⟩
  refine sk (bn' (tn (rg (z0y rfl rfl (wi6 (by omega)) (mv rfl (nl ?_))))))
  exact lpE (i+1) (.c7 rfl rfl rfl rfl rfl rfl rfl) ⟨(q29.z2 q30 q31),⟨by omega,λk h=>by
   by_cases e:k=i
   ·subst e;exact c3
   exact hz k (by omega)⟩⟩ (by omega)
 have hnone:¬ ∃y∈m.p.ys,y.inn=true/\y.pl=x2v m.p o:=by
  rintro ⟨y,hy,h1,h2⟩
  obtain ⟨z,hz1,rfl⟩:=List.mem_map.1 hy
  obtain ⟨k,hk1,rfl⟩:=List.getElem_of_mem hz1
  refine hz k (by omega) ?_
  rw [List.getD,List.getElem?_eq_getElem hk1];exact ⟨h1,h2⟩
 refine ex (te (te (xh (tn (sq ?_)))))
 replace hM:=hM0.ext ((((q1.z6 q2 q3 q4 q23 q24 q25).n1 q26).n1 q27).n2 q28 q29)
 intro a h
 refine z0h none (λwb w'=>Fr [] wb w') z2r ?_;intro w32 q32
 have z32:=q32.size
 replace hM:=hM.ext q32
 replace hk:=hk.ext (q29.n1 q32)
 replace hb3:=hb3.ext (q29.n1 q32)
 replace hb5:=hb5.ext (q29.n1 q32)
 have hC:Fr [] w32 w32:=Fr.refl _ _
 have hM_b:=hM
 have hk_b:=hk
 have hb3_b:=hb3
 have hb5_b:=hb5
 refine z0e 0 h rfl rfl λa h=>z0o 1 h rfl rfl λa h=>z0c 2 h rfl z2p rfl λa h=>z1c (vs:=[_,_]) 3 h rfl (λ_ hw=>(hk_b.ext hw)) z5k rfl rfl λa h=>z0c 4 h rfl z4e rfl λa h=>z1c (vs:=[_,_]) 5 h rfl (λ_ hw=>(hb3_b.ext hw)) z4v rfl rfl λa h=>z0t 6 h rfl (λ_ hw=>hb5_b.ext hw) z4v rfl λa h=>z2d 7 11 (by kernel_rfl) rfl rfl ?_ ?_
 ·refine z0m h (z0a rfl (z0a rfl (z0a rfl z0g))) (mkC func117) (by have x:=y9s m.q o.b n n2 _ hM.b.at hv (by rw [<-hpn];exact hn) (by rw [<-hpn2];exact hno) (by rw [<-hpn];exact hne);rw [<-hpn,<-hpn2] at x;exact x) ?_;rintro _ w33 ⟨⟨q',rfl,hjq⟩,q33⟩ a h
  have z33:=q33.size
  replace hk:=hk.ext q33
  replace hb3:=hb3.ext q33
  replace hb5:=hb5.ext q33
  replace hC:=hC.next q33
  have hQ:BdOIf (¬4<(m.q.p.at o.b o.p).length+(m.q.p.at (1-o.b) (z5z o.b o.p m.rk)).length) 37 87 _ _ q':=λhc=>(hjq hc).1
  have hqp:=λhc=>(hjq hc).2
  have hfb:=λhc=>y3i (hQ hc) hM0.f (by omega)
  refine z0b ?_
  refine z0e 8 h rfl rfl λa h=>z0k 9 h rfl rfl rfl λa h=>z0k 10 h rfl rfl rfl λa h=>z0d 11 rfl ?_
  refine z1d h x4m rfl λw34 hb10 q34 hz a h=>?_
  obtain ⟨g_10,hg⟩:∃g,g=w33.heap.size:=⟨_,rfl⟩;rw [<-hg] at hb10 h hz
  have hn_.gk_10:ka.gk<g_10:=by have:=hk.lt;omega
  have hn__10:g3<g_10:=by have:=hb3.lt;omega
  have hn_5_10:g_5<g_10:=by have:=hb5.lt;omega
  have z34:=q34.size
  replace hM:=hM.ext (q33.n1 q34)
  replace hk:=hk.ext q34
  replace hb3:=hb3.ext q34
  replace hb5:=hb5.ext q34
  first|replace hQ:=BdOIf.ext hQ q34|replace hQ:=BdOIf.tf hQ q34 (OffT.one hb10 (by decide)) (OffT.one hb10 (by decide))
  replace hC:=hC.next q34
  refine z0b ?_
  refine z0d 12 rfl ?_
  refine z0u h rfl rfl hb10 rfl y9r ?_ (h1:=(by first|(simp [Value.oneCell',S];done)|exact z2s.one (m.ys.getD i yq0)));clear h a;intro w35 hbn q35 hz a h
  have z35:=q35.size
  replace hk:=hk.fr q35
  replace hb3:=hb3.fr q35
  replace hb5:=hb5.fr q35
  first|replace hQ:=BdOIf.ext hQ q35|replace hQ:=BdOIf.tf hQ q35 (OffT.one hb10 (by decide)) (OffT.one hb10 (by decide))
  replace hC:=hC.sp q35
  clear hb10 hz;have hb10:Blk w35 g_10 _ [_,_]:=hbn;clear hbn
  refine z0b ?_
  refine z0d 13 rfl ?_
  refine z0q h rfl λa h=>?_
  refine z0b ?_
  refine z0r ?_
  clear hC hM_b hk_b hb3_b hb5_b
  refine bk (h.sub (L':=[(0,_),(6,_),(10,_)]) (.c3 rfl rfl rfl)) (tn (sq (sr (mv rfl (eq' rfl rfl (nn (cd rfl (λc4=>?_) (λc4=>?_))))))))
  ·have hnc:¬4<(m.q.p.at o.b o.p).length+(m.q.p.at (1-o.b) (z5z o.b o.p m.rk)).length:=λe=>by rw [if_pos e] at c4;exact absurd c4 (by decide)
   replace hQ:=hQ hnc
   replace hfb:=hfb hnc
   refine rg (mv rfl (z0n rfl hb10 z5k (nlc rfl (fad rfl z2p ?_))))
   replace hM:=hM0.ext ((((q1.z6 q2 q3 q4 q23 q24 q25).n1 q26).n1 q27).z6 q28 q29 q32 q33 q34 q35)
   refine z4l (cs':=v5m ka { m with q:=q' }) rfl rfl hM.k (by intro u hu;simp at hu;rcases hu with rfl|rfl<;>rfl) y9r rfl (λw36 hkn q36 z36=>?_)
   replace hM:=hM.beds mtd (hQ.low (by omega)) hkn q36 hfb
   have hk:=hM.k
   have hM0:=hM
   have hMB:=hM
   have hF:Lw.Own z1h 87 wS.heap.size _ (slv m.fa) m.fl:=hM.f
   clear hkn
   refine kpL [(6,_)] (.cons rfl .nil) (nl (tn (sr (mv rfl (asg rfl (nn (rt (r1 results70 rfl ?_))))))))
   exact ⟨_,rfl,by rw [c4];exact MRet.ok (by rw [z7t,if_neg hne,if_neg (λh=>h hno),if_neg hnone,if_neg hnc];exact congrArg Except.ok (by have hj:y1h m.q.p o.b o.p (z5z o.b o.p m.rk)=z9f m.p o:=y0d (p:=m.p) hnr.1;unfold MQ.p;simp only [hqp hnc];rw [hj])) hM⟩
  refine sk (tn (sr (mv rfl (asg rfl (nn (rt (r1 results70 rfl ?_)))))))
  replace hM:=hM0.ext ((((q1.z6 q2 q3 q4 q23 q24 q25).n1 q26).n1 q27).z6 q28 q29 q32 q33 q34 q35)
  exact ⟨_,rfl,MRet.err (by rw [z7t,if_neg hne,if_neg (λh=>h hno),if_neg hnone,if_pos (Classical.not_not.1 λe=>c4 (if_neg e))];rw [if_pos (Classical.not_not.1 λe=>c4 (if_neg e))]) c4 hM.fr⟩
 refine z1d h x4m rfl λw37 hb10 q37 hz a h=>?_
 obtain ⟨g_10,hg⟩:∃g,g=w32.heap.size:=⟨_,rfl⟩;rw [<-hg] at hb10 h hz
 have hn_.gk_10:ka.gk<g_10:=by have:=hk.lt;omega
 have hn__10:g3<g_10:=by have:=hb3.lt;omega
 have hn_5_10:g_5<g_10:=by have:=hb5.lt;omega
 have z37:=q37.size
 replace hM:=hM.ext q37
 replace hC:=hC.next q37
 refine z0b ?_
 refine z0d 7 rfl ?_
 refine z0m h (z0a rfl (z0a rfl (z0a rfl z0g))) (mkC func117) (by have x:=y9s m.q o.b n n2 _ hM.b.at hv (by rw [<-hpn];exact hn) (by rw [<-hpn2];exact hno) (by rw [<-hpn];exact hne);rw [<-hpn,<-hpn2] at x;exact x) ?_;rintro _ w38 ⟨⟨q',rfl,hjq⟩,q38⟩ a h
 have z38:=q38.size
 replace hM:=hM.ext q38
 replace hk:=hk.ext (q37.n1 q38)
 replace hb3:=hb3.ext (q37.n1 q38)
 replace hb5:=hb5.ext (q37.n1 q38)
 replace hb10:=hb10.ext q38
 replace hC:=hC.next q38
 have hQ:BdOIf (¬4<(m.q.p.at o.b o.p).length+(m.q.p.at (1-o.b) (z5z o.b o.p m.rk)).length) 37 87 _ _ q':=λhc=>(hjq hc).1
 have hqp:=λhc=>(hjq hc).2
 have hfb:=λhc=>y3i (hQ hc) hM0.f (by omega)
 refine z0b ?_
 refine z0e 8 h rfl rfl λa h=>z0k 9 h rfl rfl rfl λa h=>z0k 10 h rfl rfl rfl λa h=>z0d 12 rfl ?_
 refine z0u h rfl rfl hb10 rfl y9r ?_ (h1:=(by first|(simp [Value.oneCell',S];done)|exact z2s.one (m.ys.getD i yq0)));clear h a;intro w39 hbn q39 hz a h
 have z39:=q39.size
 replace hk:=hk.fr q39
 replace hb3:=hb3.fr q39
 replace hb5:=hb5.fr q39
 first|replace hQ:=BdOIf.ext hQ q39|replace hQ:=BdOIf.tf hQ q39 (OffT.one hb10 (by decide)) (OffT.one hb10 (by decide))
 replace hC:=hC.sp q39
 clear hb10 hz;have hb10:Blk w39 g_10 _ [_,_]:=hbn;clear hbn
 refine z0b ?_
 refine z0d 13 rfl ?_
 refine z0q h rfl λa h=>?_
 refine z0b ?_
 refine z0r ?_
 clear hC hM_b hk_b hb3_b hb5_b
 refine bk (h.sub (L':=[(0,_),(6,_),(10,_)]) (.c3 rfl rfl rfl)) (tn (sq (sr (mv rfl (eq' rfl rfl (nn (cd rfl (λc4=>?_) (λc4=>?_))))))))
 ·have hnc:¬4<(m.q.p.at o.b o.p).length+(m.q.p.at (1-o.b) (z5z o.b o.p m.rk)).length:=λe=>by rw [if_pos e] at c4;exact absurd c4 (by decide)
  replace hQ:=hQ hnc
  replace hfb:=hfb hnc
  refine rg (mv rfl (z0n rfl hb10 z5k (nlc rfl (fad rfl z2p ?_))))
  replace hM:=hM0.ext ((((q1.z6 q2 q3 q4 q23 q24 q25).n1 q26).n1 q27).z6 q28 q29 q32 q37 q38 q39)
  refine z4l (cs':=v5m ka { m with q:=q' }) rfl rfl hM.k (by intro u hu;simp at hu;rcases hu with rfl|rfl<;>rfl) y9r rfl (λw40 hkn q40 z40=>?_)
  replace hM:=hM.beds mtd (hQ.low (by omega)) hkn q40 hfb
  have hk:=hM.k
  have hM0:=hM
  have hMB:=hM
  have hF:Lw.Own z1h 87 wS.heap.size _ (slv m.fa) m.fl:=hM.f
  clear hkn
  refine kpL [(6,_)] (.cons rfl .nil) (nl (tn (sr (mv rfl (asg rfl (nn (rt (r1 results70 rfl ?_))))))))
  exact ⟨_,rfl,by rw [c4];exact MRet.ok (by rw [z7t,if_neg hne,if_neg (λh=>h hno),if_neg hnone,if_neg hnc];exact congrArg Except.ok (by have hj:y1h m.q.p o.b o.p (z5z o.b o.p m.rk)=z9f m.p o:=y0d (p:=m.p) hnr.1;unfold MQ.p;simp only [hqp hnc];rw [hj])) hM⟩
 refine sk (tn (sr (mv rfl (asg rfl (nn (rt (r1 results70 rfl ?_)))))))
 replace hM:=hM0.ext ((((q1.z6 q2 q3 q4 q23 q24 q25).n1 q26).n1 q27).z6 q28 q29 q32 q37 q38 q39)
 exact ⟨_,rfl,MRet.err (by rw [z7t,if_neg hne,if_neg (λh=>h hno),if_neg hnone,if_pos (Classical.not_not.1 λe=>c4 (if_neg e))];rw [if_pos (Classical.not_not.1 λe=>c4 (if_neg e))]) c4 hM.fr⟩
end Go.Proofs.YtpgdchkdlgkmgaaGreatDoor
namespace Go.G08
open Go.Lw Go.G21
theorem y8u {p:MSt} {y:Int} {q:Yn} (h:MInv p) (hy:1<=y/\y<=6) (hq:y8o q) (hc:q.ct=(p.y y).ct):MInv (p.setY y q):=by
 have hl:(y-1).toNat<p.ys.length:=by rw [h.ly];omega
 refine ⟨h.rk,h.B,by show (p.ys.set _ q).length=6;rw [List.length_set];exact h.ly,h.lt,λk hk=>?_,h.has,h.cnt,h.all,h.cv⟩
 show y8o ((p.ys.set (y-1).toNat q).getD k yn0)/\((p.ys.set (y-1).toNat q).getD k yn0).ct=z2t p.tb k
 rw [z1g hl]
 split
 ·rename_i e
  refine ⟨hq,hc.trans ?_⟩
  have:=(h.yn k hk).2
  rw [<-e] at this ⊢
  exact this
 exact h.yn k hk
theorem x9i {st:List Pa} {p:Pa} (h:y5g st) (hp:y0f p):y5g (z9t st p):=by
 unfold z9t
 split
 ·intro i hi
  rw [List.length_take] at hi
  have e:∀k,k<st.length-1->(st.take (st.length-1)).getD k pa0=st.getD k pa0:=λk hk=>by
   rw [List.getD,List.getElem?_take,if_pos hk,List.getD]
  obtain ⟨h1,h2⟩:=h i (by omega)
  refine ⟨by rw [e i (by omega)];exact h1,λh0=>?_⟩
  rw [e i (by omega),e (i-1) (by omega)];exact h2 h0
 rename_i hc
 intro i hi
 rw [List.length_append,List.length_singleton] at hi
 have e:∀k,k<st.length->(st++[p]).getD k pa0=st.getD k pa0:=λk hk=>by
  rw [List.getD,List.getElem?_append_left hk,List.getD]
 by_cases hl:i<st.length
 ·obtain ⟨h1,h2⟩:=h i hl
  refine ⟨by rw [e i hl];exact h1,λh0=>?_⟩
  rw [e i hl,e (i-1) (by omega)];exact h2 h0
 obtain rfl:i=st.length:=by omega
 have ep:(st++[p]).getD st.length pa0=p:=by simp [List.getD]
 refine ⟨by rw [ep];exact hp,λh0=>?_⟩
 rw [ep,e (st.length-1) (by omega)]
 exact λhh=>hc ⟨h0,hh⟩
theorem x1o:∀ {l st:List Pa},y5g st->u8u l->y5g (z4n st l)
 | [],_,h,_=>h
 | p::l,st,h,hv=>x1o (l:=l) (x9i h (hv p (by simp))) (λq hq=>hv q (List.mem_cons_of_mem _ hq))
theorem u8l {y:Yn} {pl:Int} {l:List Pa} (h:goE y pl l=0):y8o (goS y pl l):=by
 unfold goE at h
 split at h
 ·exact absurd h (by assumption)
 rename_i hy
 have hy:=x9w (Classical.not_not.1 hy)
 split at h
 ·omega
 rename_i hp
 split at h
 ·omega
 rename_i hv
 split at h
 ·omega
 rename_i hi
 have hi:y.inn=true:=by simpa using hi
 split at h
 ·omega
 have h2:=hy.2
 rw [if_pos hi] at h2
 refine ⟨hy.1,?_⟩
 show if y.inn=true then _ else _
 rw [if_pos hi]
 exact ⟨Classical.not_not.1 hp,by show (z4n y.pe l).length<=4096;omega,x1o h2.2.2 (Classical.not_not.1 hv)⟩
theorem y0n (B:Bd) {b n:Int} (h:z3d b n=0) (s:List LId):(B.put b n s).flat.length+(B.at b n).length=B.flat.length+s.length:=by
 have:=(List.perm_iff_count.2 (λi=>by rw [List.count_append,List.count_append];exact z4d B h s i):((B.put b n s).flat++B.at b n).Perm (B.flat++s)).length_eq
 simpa using this
theorem u0v {B:Bd} (h:BdOk B) {b n:Int} (hn:z3d b n=0):BdOk (B.put b n []):=h.put hn (by simp) (by simp) λi=>by
 have:=List.nodup_iff_count.1 h.nd i
 simp only [List.count_nil];omega
theorem v6b {p q:MSt} {o:MOp} (h:MInv p) (hn:z3d o.b o.p=0) (e:y8m p o=.ok q):MInv q:=by
 unfold y8m at e
 split at e
 ·cases e
 cases e
 refine ⟨h.rk,u0v h.B hn,h.ly,h.lt,h.yn,λi hi=>?_,?_,h.all,h.cv⟩
 ·rcases y0s hn hi with k|k
  ·cases k
  exact h.has i k
 have h1:=y0n p.B hn []
 have h2:=h.cnt
 show (p.B.put o.b o.p []).flat.length+(p.fa++p.B.at o.b o.p).length<=z4o p.tb
 rw [List.length_append]
 simp only [List.length_nil] at h1
 omega
theorem y4b {p:MSt} {o:MOp} (h:o.b=0\/o.b=1) (i:LId):(z9f p o).count i=(p.B.at o.b o.p).count i+(p.B.at (1-o.b) (z5z o.b o.p p.rk)).count i:=by
 unfold z9f
 rcases h with e|e
 ·rw [e,if_neg (by decide),List.count_append,show (1:Int)-0=1 from rfl];omega
 rw [e,if_pos rfl,List.count_append,show (1:Int)-1=0 from rfl]
theorem v7l {p q:MSt} {o:MOp} (h:MInv p) (hn:z3d o.b o.p=0) (e:z7t p o=.ok q):MInv q:=by
 unfold z7t at e
 split at e
 ·cases e
 split at e
 ·cases e
 rename_i hno
 have hno:=Classical.not_not.1 hno
 split at e
 ·cases e
 split at e
 ·cases e
 rename_i h4
 cases e
 have hb:=(z2v hn).1
 have hc:=y4b (p:=p) (o:=o) hb
 have hlen:(z9f p o).length=(p.B.at o.b o.p).length+(p.B.at (1-o.b) (z5z o.b o.p p.rk)).length:=by
  have:=(List.perm_iff_count.2 (λi=>by rw [List.count_append];exact hc i):(z9f p o).Perm (p.B.at o.b o.p++p.B.at (1-o.b) (z5z o.b o.p p.rk))).length_eq
  simpa using this
 have hmem:∀i∈z9f p o,i∈p.B.flat:=λi hi=>by
  have h1:=List.count_pos_iff.2 hi
  rw [hc i] at h1
  by_cases k:0<(p.B.at o.b o.p).count i
  ·exact z9l (List.count_pos_iff.1 k)
  exact z9l (List.count_pos_iff.1 (show 0<(p.B.at (1-o.b) (z5z o.b o.p p.rk)).count i by omega))
 have hat:(p.B.put o.b o.p []).at (1-o.b) (z5z o.b o.p p.rk)=p.B.at (1-o.b) (z5z o.b o.p p.rk):=by
  rw [x4q p.B hn hno,if_neg (by omega)]
 have hB1:=u0v h.B hn
 refine ⟨h.rk,hB1.put hno (by omega) (λi hi=>h.B.nm i (hmem i hi)) (λi=>?_),h.ly,h.lt,h.yn,λi hi=>?_,?_,h.all,h.cv⟩
 ·have h1:=z4d p.B hn [] i
  have h2:=List.nodup_iff_count.1 h.B.nd i
  rw [hat,hc i]
  simp only [List.count_nil] at h1
  omega
 ·rcases y0s hno hi with k|k
  ·exact h.has i (hmem i k)
  rcases y0s hn k with k|k
  ·cases k
  exact h.has i k
 have h1:=y0n p.B hn []
 have h2:=y0n (p.B.put o.b o.p []) hno (z9f p o)
 have h3:=h.cnt
 rw [hat,hlen] at h2
 simp only [List.length_nil] at h1
 show ((p.B.put o.b o.p []).put (1-o.b) (z5z o.b o.p p.rk) (z9f p o)).flat.length+p.fa.length<=z4o p.tb
 omega
theorem v4g {p q:MSt} {o:MOp} {th st:List LId} (h:MInv p) (hy:1<=o.y/\o.y<=6) (hn:z3d o.b o.p=0) (hs:st=[]\/(st=p.B.at o.b o.p/\st.length<4)) (e:x4p p o th st=.ok q):MInv q:=by
 unfold x4p at e
 split at e
 ·cases e
 rename_i hm
 split at e
 ·cases e
 rename_i hc
 cases e
 have hm:=Classical.not_not.1 hm
 obtain ⟨j,hj,hoy⟩:∃j:Nat,j<6/\o.y=(j:Int)+1:=⟨(o.y-1).toNat,by omega,by omega⟩
 have hjy:(o.y-1).toNat=j:=by omega
 have hyn:=h.yn j hj
 have hyp:p.y o.y=p.ys.getD j yn0:=by unfold MSt.y;rw [hjy]
 rw [<-hyp] at hyn
 have hly:j<p.ys.length:=by rw [h.ly];exact hj
 have hlt:j<p.tb.length:=by rw [h.lt];exact hj
 have h2048:(p.y o.y).inn=true/\(p.y o.y).ct≠2048:=by
  unfold mkE at hm
  split at hm
  ·exact absurd hm (by assumption)
  split at hm
  ·omega
  rename_i hi
  split at hm
  ·omega
  rename_i hk;exact ⟨by simpa using hi,hk⟩
 have hct:=hyn.1.1
 have hnew:∀i∈p.B.flat,i≠⟨o.y,(p.y o.y).ct⟩:=λi hi e=>by
  have:=h.has i hi
  rw [e] at this
  obtain ⟨_,_,_,h4⟩:=this
  simp only at h4
  rw [hjy,hyn.2] at h4
  omega
 have hsm:∀i∈st,i∈p.B.flat:=λi hi=>by
  rcases hs with e|⟨e,_⟩
  ·rw [e] at hi;cases hi
  rw [e] at hi;exact z9l hi
 have hrow:p.row o.y=p.tb.getD j []:=by unfold MSt.row;rw [hjy]
 simp only [hjy,hrow]
 have hl4:(st++[(⟨o.y,(p.y o.y).ct⟩:LId)]).length<=4:=by
  rw [List.length_append,List.length_singleton]
  rcases hs with e|⟨_,e⟩
  ·rw [e];simp
  omega
 have hsum:=y9d p.tb j (p.tb.getD j []++[(⟨o.b,(p.y o.y).nw,th,(p.y o.y).pe⟩:Lp)]) hlt
 rw [List.length_append,List.length_singleton,show (p.tb.getD j []).length=z2t p.tb j from rfl] at hsum
 refine ⟨h.rk,h.B.put hn hl4 (λi hi=>?_) (λi=>?_),by show (p.ys.set _ _).length=6;rw [List.length_set];exact h.ly,by show (p.tb.set _ _).length=6;rw [List.length_set];exact h.lt,λk hk=>?_,λi hi=>?_,?_,?_,h.cv⟩
 ·rcases List.mem_append.1 hi with k|k
  ·exact h.B.nm i (hsm i k)
  rw [List.mem_singleton.1 k];unfold y1z;simp only;omega
 ·have hd:=List.nodup_iff_count.1 h.B.nd i
  rw [List.count_append,List.count_singleton]
  by_cases e:(⟨o.y,(p.y o.y).ct⟩:LId)=i
  ·have h0:p.B.flat.count i=0:=List.count_eq_zero.2 λk=>hnew i k e.symm
   have h1:st.count i=0:=List.count_eq_zero.2 λk=>hnew i (hsm i k) e.symm
   rw [h0,h1];split<;>omega
  rw [if_neg (by simpa using e)]
  rcases hs with e|⟨e,_⟩
  ·rw [e];simp only [List.count_nil];omega
  rw [e];omega
 ·show y8o ((p.ys.set j (mkS (p.y o.y))).getD k yn0)/\((p.ys.set j (mkS (p.y o.y))).getD k yn0).ct=z2t (p.tb.set j _) k
  rw [z1g hly,z8z hlt]
  by_cases e:j=k
  ·rw [if_pos e,if_pos e]
   refine ⟨⟨⟨by show 0<=(p.y o.y).ct+1;omega,by show (p.y o.y).ct+1<=2048;omega⟩,?_⟩,?_⟩
   ·have h2:=hyn.1.2
    rw [if_pos h2048.1] at h2
    show if true=true then _ else _
    rw [if_pos rfl]
    exact ⟨h2.1,by show ([]:List Pa).length<=4096;simp,λi hi=>by simp [mkS] at hi⟩
   show (p.y o.y).ct+1=_
   rw [hyn.2,List.length_append,List.length_singleton];rfl
  rw [if_neg e,if_neg e];exact h.yn k hk
 ·rcases y0s hn hi with k|k
  ·rcases List.mem_append.1 k with k|k
   ·exact y8x hlt (h.has i (hsm i k))
   rw [List.mem_singleton.1 k]
   have:=z7p (T:=p.tb.set j (p.tb.getD j []++[(⟨o.b,(p.y o.y).nw,th,(p.y o.y).pe⟩:Lp)])) (y:=j) (n:=z2t p.tb j) (by rw [List.length_set];exact hlt) (by rw [z8z hlt,if_pos rfl,List.length_append,List.length_singleton];exact Nat.lt_succ_self _)
   rwa [<-hoy,<-hyn.2] at this
  exact y8x hlt (h.has i k)
 ·have h1:=y0n p.B hn (st++[(⟨o.y,(p.y o.y).ct⟩:LId)])
  have h2:=h.cnt
  have h3:st.length<=(p.B.at o.b o.p).length:=by
   rcases hs with e|⟨e,_⟩
   ·rw [e];simp
   rw [e];exact Nat.le_refl _
  rw [List.length_append,List.length_singleton] at h1
  show (p.B.put o.b o.p _).flat.length+p.fa.length<=z4o (p.tb.set j _)
  omega
 have:=h.all
 show z4o (p.tb.set j _)<=2048
 omega
theorem j2n {p q:MSt} {o:MOp} (h:MInv p) (hy:1<=o.y/\o.y<=6) (hd:z5q o.d) (e:inM p o=.ok q):MInv q:=by
 unfold inM at e
 split at e
 ·cases e
 rename_i hg
 cases e
 have hg:=Classical.not_not.1 hg
 refine y8u h hy ?_ rfl
 have hok:y8o (p.y o.y):=by
  unfold enE at hg
  split at hg
  ·exact absurd hg (by assumption)
  rename_i hh;exact x9w (Classical.not_not.1 hh)
 refine ⟨hok.1,?_⟩
 show if true=true then _ else _
 rw [if_pos rfl]
 refine ⟨?_,by show ([]:List Pa).length<=4096;simp,λi hi=>by simp [enS] at hi⟩
 show x3r (if o.d=1 then 179 else -13)
 split<;>decide
theorem u6k {p q:MSt} {o:MOp} (h:MInv p) (hy:1<=o.y/\o.y<=6) (e:v5i p o=.ok q):MInv q:=by
 unfold v5i at e
 split at e
 ·cases e
 rename_i hg
 cases e
 have hg:=Classical.not_not.1 hg
 refine y8u h hy ?_ rfl
 have hok:y8o (p.y o.y):=by
  unfold lvE at hg
  split at hg
  ·exact absurd hg (by assumption)
  rename_i hh;exact x9w (Classical.not_not.1 hh)
 refine ⟨hok.1,?_⟩
 show if false=true then _ else _
 rw [if_neg (by decide)]
 exact ⟨rfl,rfl,rfl⟩
theorem y1k {p q:MSt} {y pl en:Int} (h:MInv p) (hy:1<=y/\y<=6) (e:y6i p y pl en=.ok q):MInv q/\q.B=p.B/\q.rk=p.rk:=by
 unfold y6i at e
 split at e
 ·cases e
 rename_i hg
 cases e
 exact ⟨y8u h hy (u8l (Classical.not_not.1 hg)) rfl,rfl,rfl⟩
theorem v8m {p q:MSt} {o:MOp} (h:MInv p) (hy:1<=o.y/\o.y<=6) (e:x0y p o=.ok q):MInv q:=by
 unfold x0y at e
 split at e
 ·cases e
 exact (y1k h hy e).1
theorem v9m {p q:MSt} {o:MOp} (h:MInv p) (hy:1<=o.y/\o.y<=6) (hn:z3d o.b o.p=0) (e:y0u p o=.ok q):MInv q:=by
 unfold y0u at e
 split at e
 ·cases e
 split at e
 ·cases e
 rename_i r hr
 exact v4g (y1k h hy hr).1 hy hn (.inl rfl) e
theorem v8v {p q:MSt} {o:MOp} (h:MInv p) (hy:1<=o.y/\o.y<=6) (hn:z3d o.b o.p=0) (e:y4o p o=.ok q):MInv q:=by
 unfold y4o at e
 split at e
 ·cases e
 split at e
 ·cases e
 rename_i r hr
 split at e
 ·cases e
 exact v4g (y1k h hy hr).1 hy hn (.inr ⟨rfl,by omega⟩) e
theorem v8g {p:MSt} {d:Int} {y y':Yn} (e:z8k p d y=.ok y'):(y8o y->y8o y')/\y'.ct=y.ct:=by
 unfold z8k at e
 split at e
 ·cases e;exact ⟨id,rfl⟩
 split at e
 ·cases e
 rename_i hg
 cases e
 exact ⟨λ_=>u8l (Classical.not_not.1 hg),rfl⟩
theorem x2o {p:MSt} {d:Int}:∀ {l l':List Yn},z6c p d l=.ok l'->l'.length=l.length/\∀k,(y8o (l.getD k yn0)->y8o (l'.getD k yn0))/\(l'.getD k yn0).ct=(l.getD k yn0).ct
 | [],l',e=>by cases e;exact ⟨rfl,λk=>⟨id,rfl⟩⟩
 | y::l,l',e=>by
  unfold z6c at e
  split at e
  ·cases e
  rename_i y' hy
  split at e
  ·cases e
  rename_i l2 hl
  cases e
  obtain ⟨h1,h2⟩:=x2o hl
  refine ⟨by simp [h1],λk=>?_⟩
  cases k with
  | zero=>exact v8g hy
  | succ k=>simpa only [List.getD_cons_succ] using h2 k
def j2z (l:List Cx):Prop:=∀c∈l,-1048576<=c.n/\c.n<=1048576
theorem u4h {l l':List Cx} {c:Cx} (h:j2z l) (e:x2s l c=.ok l'):j2z l':=by
 unfold x2s at e
 dsimp only at e
 generalize (if 0<z6m c.a c.b then (c.b,c.a) else (c.a,c.b))=kk at e
 split at e
 ·cases e
 rename_i hr
 split at e
 ·cases e
  intro x hx
  exact h x (List.mem_filter.1 hx).1
 cases e
 intro x hx
 unfold y9v at hx
 split at hx
 ·obtain ⟨z,hz,rfl⟩:=List.mem_map.1 hx
  split
  ·simp only;omega
  exact h z hz
 rcases List.mem_append.1 hx with k|k
 ·exact h x k
 rw [List.mem_singleton.1 k];simp only;omega
theorem y7k:∀ {r l l':List Cx},j2z l->z6a l r=.ok l'->j2z l'
 | [],l,l',h,e=>by cases e;exact h
 | c::r,l,l',h,e=>by
  unfold z6a at e
  split at e
  ·cases e
  rename_i l2 h2
  exact y7k (u4h h h2) e
theorem y7o {p q:MSt} {d:Int} (h:MInv p) (hd:-4<=p.rk+stI d/\p.rk+stI d<=4) (e:y5c p d=.ok q):MInv q/\q.rk=p.rk+stI d:=by
 unfold y5c at e
 split at e
 ·cases e
 rename_i ys hys
 split at e
 ·cases e
 rename_i cr hcr
 cases e
 obtain ⟨h1,h2⟩:=x2o hys
 exact ⟨⟨hd,h.B,h1.trans h.ly,h.lt,λk hk=>⟨(h2 k).1 (h.yn k hk).1,(h2 k).2.trans (h.yn k hk).2⟩,h.has,h.cnt,h.all,y7k h.cv hcr⟩,rfl⟩
theorem x6v {r:Int} (hr:-4<=r/\r<=4):∀ {n:Nat} {p q:MSt},MInv p->z8e n p r=.ok q->MInv q
 | 0,p,q,h,e=>by cases e;exact h
 | n+1,p,q,h,e=>by
  unfold z8e at e
  split at e
  ·cases e;exact h
  rename_i hne
  split at e
  ·cases e
  rename_i p2 h2
  have hk:=h.rk
  refine x6v hr (y7o h ?_ h2).1 e
  unfold stI
  split<;>split<;>omega
theorem v4v {p q:MSt} {o:MOp} (h:MInv p) (e:doM p o=.ok q):MInv q:=by
 unfold doM at e
 split at e
 ·cases e
 rename_i hc
 obtain ⟨_,h1,h2,h3,h4,h5⟩:=y3l (Classical.not_not.1 hc)
 unfold opM at e
 split at e
 ·exact j2n h (h2 (by omega)) (h1 (by omega)) e
 split at e
 ·exact u6k h (h2 (by omega)) e
 split at e
 ·exact x6v (h5 (by omega)) h e
 split at e
 ·exact v9m h (h2 (by omega)) (h4 (by omega)) e
 split at e
 ·exact v8v h (h2 (by omega)) (h4 (by omega)) e
 split at e
 ·exact v8m h (h2 (by omega)) e
 split at e
 ·exact v7l h (h4 (by omega)) e
 exact v6b h (h4 (by omega)) e
end Go.G08
namespace Go.G08
open Go.Lw Go.G21
section
variable {τ:TyK} {Mt:Nat} {wS w w' w2:World} {a:MA} {m:MQ} {j:Nat} {u:SV} {q:LpQ}
theorem MkM.row (h:MkM τ Mt wS a w m) (hK:MtOk τ Mt) (hj:j<6) (hq:LpO τ wS.heap.size w q) (hqf:∀k∈z0v (slv q.th),k∉z0v (slv m.fa))
    (h1:Lw.Own z5o τ.L wS.heap.size w' (slv u) ((m.ts.getD j tq0).2++[q])) (f1:Fr (z0v (slv (m.ts.getD j tq0).1)) w w') (hx:slv u=slv (m.ts.getD j tq0).1\/z0v (slv u)=z0v (slv (m.ts.getD j tq0).1)\/z0v (slv u)=[w.heap.size])
    (h2:Lw.Own z4c τ.T wS.heap.size w2 a.TV (m.ts.set j (u,(m.ts.getD j tq0).2++[q]))) (f2:Fr [a.gt] w' w2):MkM τ Mt wS a w2 { m with ts:=m.ts.set j (u,(m.ts.getD j tq0).2++[q]) }:=by
  have hl:j<m.ts.length:=by rw [h.lt];exact hj
  have o1:∀T,T≠τ.L->OffT w T (z0v (slv (m.ts.getD j tq0).1)):=λT hT=>z5t (h.t.ins j hl) (Ne.symm hT)
  have out1:=z2a h.t.out f1 (o1 _ hK.o.tl)
  have o2:∀T,T≠τ.T->OffT w' T [a.gt]:=λT hT=>z5t out1 (Ne.symm hT)
  refine ⟨y5t (y5t h.k f1 (o1 _ hK.l)) f2 (o2 _ hK.t),BdO.tf (BdO.tf h.b f1 (o1 _ (Ne.symm hK.o.ls)) (o1 _ (Ne.symm hK.o.li))) f2 (o2 _ (Ne.symm hK.o.ts)) (o2 _ (Ne.symm hK.o.ti)),
    (h.y.tf f1 (o1 _ hK.o.yl) (o1 _ (Ne.symm hK.o.lp))).tf f2 (o2 _ hK.o.yt) (o2 _ (Ne.symm hK.o.tp)),h.t.put hK.o hl hq h1 f1 hx h2 f2,(h.c.tf f1 (o1 _ hK.l)).tf f2 (o2 _ hK.t),z2a (z2a h.f f1 (o1 _ (Ne.symm hK.o.li))) f2 (o2 _ (Ne.symm hK.o.ti)),h.fb,λi hi p hp=>?_,h.ly,by rw [List.length_set];exact h.lt,h.gk,h.gc,(h.fr.step f1 (y5o (h.t.ins j hl) (by simp [v5h])) λk hk hlt=>?_).step f2 (y5o out1 (by simp [v5h])) λk hk hlt=>?_⟩
  · simp only at hp
    rw [z1g hl] at hp
    split at hp
    · rcases List.mem_append.1 hp with k|k
      · exact h.ft j hj p k
      · rw [List.mem_singleton.1 k];exact hqf
    · exact h.ft i hi p hp
  · have:=((h.t.ins j hl).blk k hk).1;omega
  · have:=(h.t.out.blk k hk).1;omega
theorem u4l {p:MSt} {o:MOp} {st:List LId} (h:MInv p) (hy:1<=o.y/\o.y<=6) (hs:st=[]\/(st=p.B.at o.b o.p/\st.length<4)) (hm:mkE (p.y o.y)=0) :
    (st++[(⟨o.y,(p.y o.y).ct⟩:LId)]).length<=4/\(∀i∈st++[(⟨o.y,(p.y o.y).ct⟩:LId)],y1z i)/\∀i,p.B.flat.count i+(st++[(⟨o.y,(p.y o.y).ct⟩:LId)]).count i<=(p.B.at o.b o.p).count i+1:=by
  obtain ⟨j,hj,hoy⟩:∃j:Nat,j<6/\o.y=(j:Int)+1:=⟨(o.y-1).toNat,by omega,by omega⟩
  have hjy:(o.y-1).toNat=j:=by omega
  have hyn:=h.yn j hj
  have hyp:p.y o.y=p.ys.getD j yn0:=by unfold MSt.y;rw [hjy]
  rw [<-hyp] at hyn
  have h2048:(p.y o.y).inn=true/\(p.y o.y).ct≠2048:=by
    unfold mkE at hm
    split at hm
    · exact absurd hm (by assumption)
    · split at hm
      · omega
      · rename_i hi
        split at hm
        · omega
        · rename_i hk;exact ⟨by simpa using hi,hk⟩
  have hct:=hyn.1.1
  have hnew:∀i∈p.B.flat,i≠⟨o.y,(p.y o.y).ct⟩:=λi hi e=>by
    have:=h.has i hi
    rw [e] at this
    obtain ⟨_,_,_,h4⟩:=this
    simp only at h4
    rw [hjy,hyn.2] at h4
    omega
  have hsm:∀i∈st,i∈p.B.flat:=λi hi=>by
    rcases hs with e|⟨e,_⟩
    · rw [e] at hi;cases hi
    · rw [e] at hi;exact z9l hi
  refine ⟨?_,λi hi=>?_,λi=>?_⟩
  · rw [List.length_append,List.length_singleton]
    rcases hs with e|⟨_,e⟩
    · rw [e];simp
    · omega
  · rcases List.mem_append.1 hi with k|k
    · exact h.B.nm i (hsm i k)
    · rw [List.mem_singleton.1 k];unfold y1z;simp only;omega
  · have hd:=List.nodup_iff_count.1 h.B.nd i
    rw [List.count_append,List.count_singleton]
    by_cases e:(⟨o.y,(p.y o.y).ct⟩:LId)=i
    · have h0:p.B.flat.count i=0:=List.count_eq_zero.2 λk=>hnew i k e.symm
      have h1:st.count i=0:=List.count_eq_zero.2 λk=>hnew i (hsm i k) e.symm
      rw [h0,h1];split<;>omega
    · rw [if_neg (by simpa using e)]
      rcases hs with e|⟨e,_⟩
      · rw [e];simp only [List.count_nil];omega
      · rw [e];omega
end
end Go.G08
namespace Go.Lw
theorem y3b {ι:Type} {pq:Option Nat} {P:Program} {ops:Array Oper} {K:Act->World->Prop} {C:World->Prop} {fu:Nat} {listed:Array Bool} {a:Act} {w:World} {ds:List Nat} {n:Nat} {L:List (Nat×Value)} (h:AgM ds a n L) (Kp:List (Nat×Value)) (_hs:Sub Kp L) (listed':Array Bool) (fu':Nat) (M:ι->List (Nat×Value)) (R:ι->World->Prop)
    (main:(∀(i:ι) l2 a' w',l2=listed'->AgM ds a' n (Kp++M i)->R i w'->z0w pq P ops (z0p K) C fu' l2 a' w')->z0w pq P ops (z0p K) C fu listed a w)
    (tail:∀i a' w',R i w'->AgM ds a' n (Kp++M i)->z0w pq P ops (z0p K) C fu' listed' a' w'):z0w pq P ops (z0p K) C fu listed a w:=
  main λi l2 a' w' e ha hr=>by subst e;exact tail i a' w' hr ha
end Go.Lw
namespace Go.Proofs.YtpgdchkdlgkmgaaGreatDoor
open Go.Lw Go.G21 Go.G08 _root_.Go.Proofs.Tryz
theorem bo89:BuildAt prog 89 [(0,1),(1,1),(2,1),(3,1)] [(.int .u8 0),(.bool false),(.slice none 0 0),(.slice none 0 0)]:=BuildAt.struct underlying89 (λ_=>by kernel_rfl) (λ_=>by kernel_rfl)
theorem x0t:CallOf prog 63:=mkC func63
theorem v2y:CallOf prog 150:=mkC func150
theorem y1g:z0z prog 137 3 4:=λ_ _=>by kernel_rfl
theorem u7d:z0z prog 250 0 0:=λ_ _=>by kernel_rfl
theorem u5r:z0z prog 250 1 1:=λ_ _=>by kernel_rfl
theorem u3y:z0z prog 250 2 2:=λ_ _=>by kernel_rfl
theorem j3r:z1q prog 46 1:=λ_=>by kernel_rfl
theorem z3k (v:Value) (l:List LId) (w0:World) (hs:Sl z1h w0 v l) (hl:l.length<=100000):Rets prog 63 #[v] w0 λr w'=>∃g,r=.slice (some ⟨g,0,none⟩) l.length l.length/\w0.heap.size<=g/\Lw.Own z1h 87 w0.heap.size w' r l/\Fr [] w0 w':=by
 obtain ⟨A,c,rfl,hcc,hM,hA⟩:=id hs
 clear hA
 unfold maxLen at hM
 refine we [(0,.slice A l.length c)] func63 rfl ntmps63 rfl (.cons rfl .nil) ?_
 have hs0:=hs
 refine sr (asg rfl (nn (sr (mv rfl (lnS rfl underlying37 (z1e (m:=l.length) (c:=l.length) (id0) rfl rfl z5v y2s rfl (λg6 w1 hg6 ho q1 z1=>(asg rfl (nn (sr (mv rfl (mv rfl ?_))))))))))))
 replace hs:=hs0.ext q1
 refine z6z (zs:=List.replicate l.length id0) (by rw [List.length_replicate];rfl) rfl (by rw [List.length_replicate];exact ho) hs (by rw [List.length_replicate]) z5v (λw2 ho q2 z2=>?_)
 rw [List.length_replicate] at ho
 refine nn (sr (mv rfl (asg rfl (nn (rt (r1 results63 rfl ?_))))))
 exact ⟨_,rfl,g6,rfl,by omega,ho.low (by omega),(q1.z1 q2)⟩
theorem u0o (ts:List TQ) (j:Nat):(ts.getD j tq0).2.length<=z4o (z2c ts):=by
 by_cases h:j<ts.length
 ·have k:=y9d (z2c ts) j [] (by rw [List.length_map];exact h)
  have e:z2t (z2c ts) j=(ts.getD j tq0).2.length:=by
   unfold z2t
   rw [List.getD,List.getD,List.getElem?_map,List.getElem?_eq_getElem h]
   exact List.length_map ..
  rw [List.length_nil,e] at k
  omega
 rw [List.getD,List.getElem?_eq_none (by omega)];exact Nat.zero_le _
theorem j0n {o:MOp} {ths st:List LId} {th sn u:SV} {q':BdQ} (m:MQ) (j:Nat) (hj:(o.y-1).toNat=j) (hq:q'.p=m.q.p.put o.b o.p (st++[(⟨o.y,(m.ys.getD j yq0).ct⟩:LId)])) :
    { m with q:=q',ys:=m.ys.set j ⟨true,(m.ys.getD j yq0).pl,(m.ys.getD j yq0).ct+1,false,sv0,[]⟩,ts:=m.ts.set j (u,(m.ts.getD j tq0).2++[(⟨o.b,(m.ys.getD j yq0).nw,th,sn,ths,(m.ys.getD j yq0).pes⟩:LpQ)]) }.p =
      { m.p with B:=m.p.B.put o.b o.p (st++[(⟨o.y,(m.ys.getD j yq0).p.ct⟩:LId)]),ys:=m.p.ys.set (o.y-1).toNat (mkS (m.ys.getD j yq0).p),tb:=m.p.tb.set (o.y-1).toNat (m.p.row o.y++[(⟨o.b,(m.ys.getD j yq0).p.nw,ths,(m.ys.getD j yq0).p.pe⟩:Lp)]) }:=by
  unfold MSt.row
  rw [hj]
  have hr:(z2c m.ts).getD j []=(m.ts.getD j tq0).2.map LpQ.p:=by
    rw [List.getD,List.getD,List.getElem?_map]
    cases m.ts[j]?<;>rfl
  simp only [MQ.p,hq,List.map_set,hr,List.map_append,List.map_cons,List.map_nil,mkS]
set_option maxHeartbeats 4000000 in
theorem v4w (wS:World) (ka:MA) (m:MQ) (o:MOp) (th:SV) (ths:List LId) (stv:Value) (st:List LId) (w0:World) (hM:MkM τd 137 wS ka w0 m) (hi:MInv m.p) (hy:1<=o.y/\o.y<=6) (hn:z3d o.b o.p=0) (hth:Lw.Own z1h 87 wS.heap.size w0 (slv th) ths) (hthf:∀k∈z0v (slv th),k∉z0v (slv m.fa)) (hst:Sl z1h w0 stv st) (hs:st=[]\/(st=m.q.p.at o.b o.p/\st.length<4)):Rets prog 114 #[.pointer (some ⟨ka.gk,0,none⟩),opV o,.slice th.1 th.2.1 th.2.2,stv] w0 λr w'=>MRet τd 137 wS ka (x4p m.p o ths st) r w':=by
 have hzS:=hM.fr.size
 have hk:=hM.k
 have hkz:=hk.lt
 have hly:=hM.ly
 have hlt:=hM.lt
 have hgyz:=(hM.y.out.blk ka.gy (by simp [z0v])).2
 obtain ⟨j,hj,hoy⟩:∃j:Nat,j<6/\o.y=(j:Int)+1:=⟨(o.y-1).toNat,by omega,by omega⟩
 have hjy:(o.y-1).toNat=j:=by omega
 have hyp:m.p.y o.y=(m.ys.getD j yq0).p:=by rw [j1a,hjy]
 obtain ⟨AS,cS,rfl,hcS⟩:=hst.form
 have hnr:=z2v hn
 obtain ⟨n,hpn⟩:∃n:Nat,o.p=(n:Int):=⟨o.p.toNat,by omega⟩
 have hv:BdOk m.q.p:=hi.B
 have hs3:st.length<=3:=by rcases hs with e|⟨_,e⟩;rw [e];simp;omega
 have hall:z4o (z2c m.ts)<=2048:=hi.all
 have hzS2:=hM.gk
 have hrw0:∀k∈z0v (slv (m.ts.getD j tq0).1),k<w0.heap.size:=λk hk=>((hM.t.ins j (by rw [hlt];exact hj)).blk k hk).2
 have hthk:ka.gk∉z0v (slv th):=λhb=>hth.neB hM.k (by decide) hb
 have hthy:ka.gy∉z0v (slv th):=λhb=>Own.neO hM.y.out hth (by decide) ka.gy (by simp [z0v]) hb
 have hthz:∀k∈z0v (slv th),k<w0.heap.size:=λk hk=>(hth.blk k hk).2
 refine we [(0,.pointer (some ⟨ka.gk,0,none⟩)),(1,opV o),(2,.slice th.1 th.2.1 th.2.2),(3,.slice AS st.length cS)] func114 rfl ntmps114 rfl (.c4 rfl rfl rfl rfl) ?_
 have hM0:=hM
 have hst0:=hst
 refine sr (bx rfl rfl rfl (λg5 w1 hg5 hb5 q1 z1=>(asg rfl (nn ?_))))
 refine jn (ι:=Nat×Nat) [(0,_),(2,_),(3,_),(5,_)] (λp=>[(9,.pointer (some ⟨p.1,0,none⟩)),(10,.pointer (some ⟨p.2,0,none⟩)),(11,.int .i64 (mkE (m.ys.getD j yq0).p))]) (λp w'=>Fr [] w1 w'/\∃(qn:YQ) (ncn:Int) (nwn:Bool) (sn:SV) (psn:List Pa),(w1.heap.size<=p.1/\w1.heap.size<=p.2/\((mkE (m.ys.getD j yq0).p)=0->qn=(⟨true,(m.ys.getD j yq0).pl,(m.ys.getD j yq0).ct+1,false,sv0,[]⟩:YQ)/\ncn=(m.ys.getD j yq0).ct/\nwn=(m.ys.getD j yq0).nw/\psn=(m.ys.getD j yq0).pes))/\Blk w' p.1 82 (z2s.enc qn)/\Blk w' p.2 250 [.int .i64 ncn,.bool nwn,.slice sn.1 sn.2.1 sn.2.2]/\OwnIf ((mkE (m.ys.getD j yq0).p)=0) z1t 100 (max wS.heap.size w1.heap.size) w' (slv sn) psn) (.c4 rfl rfl rfl rfl) ?_ ?_
 ·replace hM:=hM0.ext q1
  intro a h
  refine z0h none (λwb w'=>Fr [] wb w') z2r ?_;intro w2 q2
  have z2:=q2.size
  replace hM:=hM.ext q2
  replace hk:=hk.ext (q1.n1 q2)
  replace hb5:=hb5.ext q2
  have hC:Fr [] w2 w2:=Fr.refl _ _
  have hM_b:=hM
  have hk_b:=hk
  have hb5_b:=hb5
  refine y3b (ι:=(Nat×Nat)×YQ×(Int×Bool)×SV×List Pa) h [(0,_),(2,_),(3,_),(5,_)] (.c4 rfl rfl rfl rfl) #[true,true,true,true,true,true,true,true,true,true,true,true,true,true,true,true,false,false,false] 3 (λp=>[(9,.pointer (some ⟨p.1.1,0,none⟩)),(10,.pointer (some ⟨p.1.2,0,none⟩)),(26,.agg #[.bool p.2.1.inn,.int .i64 p.2.1.pl,.int .i64 p.2.1.ct,.bool p.2.1.nw,.slice p.2.1.pe.1 p.2.1.pe.2.1 p.2.1.pe.2.2]),(27,.agg #[.int .i64 p.2.2.1.1,.bool p.2.2.1.2,.slice p.2.2.2.1.1 p.2.2.2.1.2.1 p.2.2.2.1.2.2]),(28,.int .i64 (mkE (m.ys.getD j yq0).p))]) (λp w'=>Fr [] w2 w'/\(w2.heap.size<=p.1.1/\w2.heap.size<=p.1.2/\p.1.1≠p.1.2)/\((mkE (m.ys.getD j yq0).p)=0->p.2.1=(⟨true,(m.ys.getD j yq0).pl,(m.ys.getD j yq0).ct+1,false,sv0,[]⟩:YQ)/\p.2.2.1.1=(m.ys.getD j yq0).ct/\p.2.2.1.2=(m.ys.getD j yq0).nw/\p.2.2.2.2=(m.ys.getD j yq0).pes/\p.1.1∉z0v (slv p.2.2.2.1)/\p.1.2∉z0v (slv p.2.2.2.1))/\Blk w' p.1.1 82 [.bool false,.int .i64 0,.int .i64 0,.bool false,.slice none 0 0]/\Blk w' p.1.2 250 [.int .i64 0,.bool false,.slice none 0 0]/\OwnIf ((mkE (m.ys.getD j yq0).p)=0) z1t 100 (max wS.heap.size w2.heap.size) w' (slv p.2.2.2.1) p.2.2.2.2) (λhT1_0=>?_) ?_
  ·refine z0e 0 h rfl rfl λa h=>z0o 1 h rfl rfl λa h=>z0c 2 h rfl z2w rfl λa h=>z0l 3 h rfl (λ_ hw=>hk_b.ext hw) rfl y1w rfl λa h=>z0c 4 h rfl z3i rfl λa h=>z0l 5 h rfl (λ_ hw=>hb5_b.ext hw) rfl na5 rfl λa h=>z2y 6 h wn rfl rfl (by first|exact IntWalk.u8_in _ (by omega)|rfl) rfl λa h=>z1k (p:=j) (yq0) 7 h rfl hM.y.out.sl rfl y1r rfl λad23 hc23 a h=>z2l (cs:=z2s.enc (m.ys.getD j yq0)) 8 h wn rfl (λ_ hw=>hc23 _ (hM_b.ext hw).y.out.sl) z6h rfl λa h=>x5g 9 14 15 (by kernel_rfl) rfl rfl rfl ?_ ?_ ?_
   ·refine z0m h (z0a rfl z0g) v2y (y0q (m.ys.getD j yq0) _ (hM.y.ins j (by omega)).sl (λk hk=>((hM.y.ins j (by omega)).blk k hk).2)) ?_;rintro _ w3 ⟨qn,ncn,nwn,sn,psn,rfl,hmk,q3⟩ a h
    have z3:=q3.size
    replace hM:=hM.ext q3
    replace hk:=hk.ext q3
    replace hb5:=hb5.ext q3
    replace hC:=hC.next q3
    have hoM:OwnIf ((mkE (m.ys.getD j yq0).p)=0) z1t 100 _ _ (slv sn) psn:=λhc=>(hmk hc).2.2.2.2
    have hLb:=λhc k hk=>((hoM hc).blk k hk).2
    refine z0b ?_
    refine z0e 10 h rfl rfl λa h=>z0k 11 h rfl rfl rfl λa h=>z0k 12 h rfl rfl rfl λa h=>z0k 13 h rfl rfl rfl λa h=>z2d 14 15 (by kernel_rfl) rfl rfl ?_ ?_
    ·refine z1d h y1j rfl λw4 hb9 q4 hz a h=>?_
     obtain ⟨g_9,hg⟩:∃g,g=w3.heap.size:=⟨_,rfl⟩;rw [<-hg] at hb9 h hz
     have hn_.gk_9:ka.gk<g_9:=by have:=hk.lt;omega
     have hn__9:g5<g_9:=by have:=hb5.lt;omega
     have z4:=q4.size
     replace hk:=hk.ext q4
     replace hb5:=hb5.ext q4
     replace hC:=hC.next q4
     refine z0b ?_
     refine z0d 15 rfl ?_
     refine z1d h x1d rfl λw5 hb10 q5 hz a h=>?_
     obtain ⟨g_10,hg⟩:∃g,g=w4.heap.size:=⟨_,rfl⟩;rw [<-hg] at hb10 h hz
     have hn_.gk_10:ka.gk<g_10:=by have:=hk.lt;omega
     have hn__10:g5<g_10:=by have:=hb5.lt;omega
     have hn_9_10:g_9<g_10:=by have:=hb9.lt;omega
     have z5:=q5.size
     replace hoM:=hoM.ext (q4.n1 q5)
     replace hb9:=hb9.ext q5
     replace hC:=hC.next q5
     refine z0b ?_
     exact hT1_0 ((g_9,g_10),qn,(ncn,nwn),sn,psn) _ _ _ (by kernel_rfl) (h.sub (.d8 rfl rfl rfl rfl rfl rfl rfl rfl (.cons rfl .nil))) ⟨hC,⟨by simp only;omega,by simp only;omega,by simp only;omega⟩,(λe=>⟨(hmk e).1,(hmk e).2.1,(hmk e).2.2.1,(hmk e).2.2.2.1,(λhb_=>by have h1_:=hLb e _ hb_;have h2_:=(hoM e).blk _ hb_;simp only at h1_ h2_;omega),(λhb_=>by have h1_:=hLb e _ hb_;have h2_:=(hoM e).blk _ hb_;simp only at h1_ h2_;omega)⟩),hb9,hb10,(λe=>(hoM e).low (by omega))⟩
    refine z1d h x1d rfl λw6 hb10 q6 hz a h=>?_
    obtain ⟨g_10,hg⟩:∃g,g=w3.heap.size:=⟨_,rfl⟩;rw [<-hg] at hb10 h hz
    have hn_.gk_10:ka.gk<g_10:=by have:=hk.lt;omega
    have hn__10:g5<g_10:=by have:=hb5.lt;omega
    have z6:=q6.size
    replace hk:=hk.ext q6
    replace hb5:=hb5.ext q6
    replace hC:=hC.next q6
    refine z0b ?_
    refine z0d 14 rfl ?_
    refine z1d h y1j rfl λw7 hb9 q7 hz a h=>?_
    obtain ⟨g_9,hg⟩:∃g,g=w6.heap.size:=⟨_,rfl⟩;rw [<-hg] at hb9 h hz
    have hn_.gk_9:ka.gk<g_9:=by have:=hk.lt;omega
    have hn__9:g5<g_9:=by have:=hb5.lt;omega
    have hn_10_9:g_10<g_9:=by have:=hb10.lt;omega
    have z7:=q7.size
    replace hoM:=hoM.ext (q6.n1 q7)
    replace hb10:=hb10.ext q7
    replace hC:=hC.next q7
    refine z0b ?_
    exact hT1_0 ((g_9,g_10),qn,(ncn,nwn),sn,psn) _ _ _ (by kernel_rfl) (h.sub (.d8 rfl rfl rfl rfl rfl rfl rfl rfl (.cons rfl .nil))) ⟨hC,⟨by simp only;omega,by simp only;omega,by simp only;omega⟩,(λe=>⟨(hmk e).1,(hmk e).2.1,(hmk e).2.2.1,(hmk e).2.2.2.1,(λhb_=>by have h1_:=hLb e _ hb_;have h2_:=(hoM e).blk _ hb_;simp only at h1_ h2_;omega),(λhb_=>by have h1_:=hLb e _ hb_;have h2_:=(hoM e).blk _ hb_;simp only at h1_ h2_;omega)⟩),hb9,hb10,(λe=>(hoM e).low (by omega))⟩
   ·refine z1d h y1j rfl λw8 hb9 q8 hz a h=>?_
    obtain ⟨g_9,hg⟩:∃g,g=w2.heap.size:=⟨_,rfl⟩;rw [<-hg] at hb9 h hz
    have hn_.gk_9:ka.gk<g_9:=by have:=hk.lt;omega
    have hn__9:g5<g_9:=by have:=hb5.lt;omega
    have z8:=q8.size
    replace hM:=hM.ext q8
    replace hk:=hk.ext q8
    replace hb5:=hb5.ext q8
    replace hC:=hC.next q8
    refine z0b ?_
    refine z2d 9 15 (by kernel_rfl) rfl rfl ?_ ?_
    ·refine z0m h (z0a rfl z0g) v2y (y0q (m.ys.getD j yq0) _ (hM.y.ins j (by omega)).sl (λk hk=>((hM.y.ins j (by omega)).blk k hk).2)) ?_;rintro _ w9 ⟨qn,ncn,nwn,sn,psn,rfl,hmk,q9⟩ a h
     have z9:=q9.size
     replace hk:=hk.ext q9
     replace hb5:=hb5.ext q9
     replace hb9:=hb9.ext q9
     replace hC:=hC.next q9
     have hoM:OwnIf ((mkE (m.ys.getD j yq0).p)=0) z1t 100 _ _ (slv sn) psn:=λhc=>(hmk hc).2.2.2.2
     have hLb:=λhc k hk=>((hoM hc).blk k hk).2
     refine z0b ?_
     refine z0e 10 h rfl rfl λa h=>z0k 11 h rfl rfl rfl λa h=>z0k 12 h rfl rfl rfl λa h=>z0k 13 h rfl rfl rfl λa h=>z0d 15 rfl ?_
     refine z1d h x1d rfl λw10 hb10 q10 hz a h=>?_
     obtain ⟨g_10,hg⟩:∃g,g=w9.heap.size:=⟨_,rfl⟩;rw [<-hg] at hb10 h hz
     have hn_.gk_10:ka.gk<g_10:=by have:=hk.lt;omega
     have hn__10:g5<g_10:=by have:=hb5.lt;omega
     have hn_9_10:g_9<g_10:=by have:=hb9.lt;omega
     have z10:=q10.size
     replace hb9:=hb9.ext q10
     replace hoM:=hoM.ext q10
     replace hC:=hC.next q10
     refine z0b ?_
     exact hT1_0 ((g_9,g_10),qn,(ncn,nwn),sn,psn) _ _ _ (by kernel_rfl) (h.sub (.d8 rfl rfl rfl rfl rfl rfl rfl rfl (.cons rfl .nil))) ⟨hC,⟨by simp only;omega,by simp only;omega,by simp only;omega⟩,(λe=>⟨(hmk e).1,(hmk e).2.1,(hmk e).2.2.1,(hmk e).2.2.2.1,(λhb_=>by have h1_:=hLb e _ hb_;have h2_:=(hoM e).blk _ hb_;simp only at h1_ h2_;omega),(λhb_=>by have h1_:=hLb e _ hb_;have h2_:=(hoM e).blk _ hb_;simp only at h1_ h2_;omega)⟩),hb9,hb10,(λe=>(hoM e).low (by omega))⟩
    refine z1d h x1d rfl λw11 hb10 q11 hz a h=>?_
    obtain ⟨g_10,hg⟩:∃g,g=w8.heap.size:=⟨_,rfl⟩;rw [<-hg] at hb10 h hz
    have hn_.gk_10:ka.gk<g_10:=by have:=hk.lt;omega
    have hn__10:g5<g_10:=by have:=hb5.lt;omega
    have hn_9_10:g_9<g_10:=by have:=hb9.lt;omega
    have z11:=q11.size
    replace hM:=hM.ext q11
    replace hk:=hk.ext q11
    replace hC:=hC.next q11
    refine z0b ?_
    refine z0d 9 rfl ?_
    refine z0m h (z0a rfl z0g) v2y (y0q (m.ys.getD j yq0) _ (hM.y.ins j (by omega)).sl (λk hk=>((hM.y.ins j (by omega)).blk k hk).2)) ?_;rintro _ w12 ⟨qn,ncn,nwn,sn,psn,rfl,hmk,q12⟩ a h
    have z12:=q12.size
    replace hk:=hk.ext q12
    replace hb9:=hb9.ext (q11.n1 q12)
    replace hb10:=hb10.ext q12
    replace hC:=hC.next q12
    have hoM:OwnIf ((mkE (m.ys.getD j yq0).p)=0) z1t 100 _ _ (slv sn) psn:=λhc=>(hmk hc).2.2.2.2
    have hLb:=λhc k hk=>((hoM hc).blk k hk).2
    refine z0b ?_
    refine z0e 10 h rfl rfl λa h=>z0k 11 h rfl rfl rfl λa h=>z0k 12 h rfl rfl rfl λa h=>z0k 13 h rfl rfl rfl λa h=>?_
    exact hT1_0 ((g_9,g_10),qn,(ncn,nwn),sn,psn) _ _ _ (by kernel_rfl) (h.sub (.d8 rfl rfl rfl rfl rfl rfl rfl rfl (.cons rfl .nil))) ⟨hC,⟨by simp only;omega,by simp only;omega,by simp only;omega⟩,(λe=>⟨(hmk e).1,(hmk e).2.1,(hmk e).2.2.1,(hmk e).2.2.2.1,(λhb_=>by have h1_:=hLb e _ hb_;have h2_:=(hoM e).blk _ hb_;simp only at h1_ h2_;omega),(λhb_=>by have h1_:=hLb e _ hb_;have h2_:=(hoM e).blk _ hb_;simp only at h1_ h2_;omega)⟩),hb9,hb10,(λe=>(hoM e).low (by omega))⟩
   refine z1d h x1d rfl λw13 hb10 q13 hz a h=>?_
   obtain ⟨g_10,hg⟩:∃g,g=w2.heap.size:=⟨_,rfl⟩;rw [<-hg] at hb10 h hz
   have hn_.gk_10:ka.gk<g_10:=by have:=hk.lt;omega
   have hn__10:g5<g_10:=by have:=hb5.lt;omega
   have z13:=q13.size
   replace hM:=hM.ext q13
   replace hk:=hk.ext q13
   replace hb5:=hb5.ext q13
   replace hC:=hC.next q13
   refine z0b ?_
   refine z2d 9 14 (by kernel_rfl) rfl rfl ?_ ?_
   ·refine z0m h (z0a rfl z0g) v2y (y0q (m.ys.getD j yq0) _ (hM.y.ins j (by omega)).sl (λk hk=>((hM.y.ins j (by omega)).blk k hk).2)) ?_;rintro _ w14 ⟨qn,ncn,nwn,sn,psn,rfl,hmk,q14⟩ a h
    have z14:=q14.size
    replace hk:=hk.ext q14
    replace hb5:=hb5.ext q14
    replace hb10:=hb10.ext q14
    replace hC:=hC.next q14
    have hoM:OwnIf ((mkE (m.ys.getD j yq0).p)=0) z1t 100 _ _ (slv sn) psn:=λhc=>(hmk hc).2.2.2.2
    have hLb:=λhc k hk=>((hoM hc).blk k hk).2
    refine z0b ?_
    refine z0e 10 h rfl rfl λa h=>z0k 11 h rfl rfl rfl λa h=>z0k 12 h rfl rfl rfl λa h=>z0k 13 h rfl rfl rfl λa h=>z0d 14 rfl ?_
    refine z1d h y1j rfl λw15 hb9 q15 hz a h=>?_
    obtain ⟨g_9,hg⟩:∃g,g=w14.heap.size:=⟨_,rfl⟩;rw [<-hg] at hb9 h hz
    have hn_.gk_9:ka.gk<g_9:=by have:=hk.lt;omega
    have hn__9:g5<g_9:=by have:=hb5.lt;omega
    have hn_10_9:g_10<g_9:=by have:=hb10.lt;omega
    have z15:=q15.size
    replace hb10:=hb10.ext q15
    replace hoM:=hoM.ext q15
    replace hC:=hC.next q15
    refine z0b ?_
    exact hT1_0 ((g_9,g_10),qn,(ncn,nwn),sn,psn) _ _ _ (by kernel_rfl) (h.sub (.d8 rfl rfl rfl rfl rfl rfl rfl rfl (.cons rfl .nil))) ⟨hC,⟨by simp only;omega,by simp only;omega,by simp only;omega⟩,(λe=>⟨(hmk e).1,(hmk e).2.1,(hmk e).2.2.1,(hmk e).2.2.2.1,(λhb_=>by have h1_:=hLb e _ hb_;have h2_:=(hoM e).blk _ hb_;simp only at h1_ h2_;omega),(λhb_=>by have h1_:=hLb e _ hb_;have h2_:=(hoM e).blk _ hb_;simp only at h1_ h2_;omega)⟩),hb9,hb10,(λe=>(hoM e).low (by omega))⟩
   refine z1d h y1j rfl λw16 hb9 q16 hz a h=>?_
   obtain ⟨g_9,hg⟩:∃g,g=w13.heap.size:=⟨_,rfl⟩;rw [<-hg] at hb9 h hz
   have hn_.gk_9:ka.gk<g_9:=by have:=hk.lt;omega
   have hn__9:g5<g_9:=by have:=hb5.lt;omega
   have hn_10_9:g_10<g_9:=by have:=hb10.lt;omega
   have z16:=q16.size
   replace hM:=hM.ext q16
   replace hk:=hk.ext q16
   replace hb5:=hb5.ext q16
   replace hb10:=hb10.ext q16
   replace hC:=hC.next q16
   refine z0b ?_
   refine z0d 9 rfl ?_
   refine z0m h (z0a rfl z0g) v2y (y0q (m.ys.getD j yq0) _ (hM.y.ins j (by omega)).sl (λk hk=>((hM.y.ins j (by omega)).blk k hk).2)) ?_;rintro _ w17 ⟨qn,ncn,nwn,sn,psn,rfl,hmk,hq⟩ a h
   have z17:=hq.size
   replace hM:=hM.ext hq
   replace hk:=hk.ext hq
   replace hb5:=hb5.ext hq
   replace hb10:=hb10.ext hq
   replace hb9:=hb9.ext hq
   replace hC:=hC.next hq
   have q17:=hq
   have hoM:OwnIf ((mkE (m.ys.getD j yq0).p)=0) z1t 100 _ _ (slv sn) psn:=λhc=>(hmk hc).2.2.2.2
   have hLb:=λhc k hk=>((hoM hc).blk k hk).2
   refine z0b ?_
   refine z0e 10 h rfl rfl λa h=>z0k 11 h rfl rfl rfl λa h=>z0k 12 h rfl rfl rfl λa h=>z0k 13 h rfl rfl rfl λa h=>?_
   exact hT1_0 ((g_9,g_10),qn,(ncn,nwn),sn,psn) _ _ _ (by kernel_rfl) (h.sub (.d8 rfl rfl rfl rfl rfl rfl rfl rfl (.cons rfl .nil))) ⟨hC,⟨by simp only;omega,by simp only;omega,by simp only;omega⟩,(λe=>⟨(hmk e).1,(hmk e).2.1,(hmk e).2.2.1,(hmk e).2.2.2.1,(λhb_=>by have h1_:=hLb e _ hb_;have h2_:=(hoM e).blk _ hb_;simp only at h1_ h2_;omega),(λhb_=>by have h1_:=hLb e _ hb_;have h2_:=(hoM e).blk _ hb_;simp only at h1_ h2_;omega)⟩),hb9,hb10,(λe=>(hoM e).low (by omega))⟩
  rintro ⟨⟨g_9,g_10⟩,qn,⟨ncn,nwn⟩,sn,psn⟩ a w18 ⟨hC,⟨hz9,hz10,hz910⟩,hmk,hb9,hb10,hoM⟩ h
  simp only at hz9 hz10 hz910 hmk hb9 hb10 hoM
  have q18:=hC
  have z18:=q18.size
  replace hk:=hk.ext q18
  replace hb5:=hb5.ext q18
  refine z0d 16 rfl ?_
  refine z0u h rfl rfl hb9 rfl z6k ?_ (h1:=(by first|(simp [Value.oneCell',S];done)|exact z2s.one (m.ys.getD j yq0)));clear h a;intro w19 hbn q19 hz a h
  have z19:=q19.size
  replace hk:=hk.fr q19
  replace hb5:=hb5.fr q19
  replace hb10:=hb10.fr q19
  replace hoM:=hoM.fr q19 (by intro hc_ k hk hb_;simp at hk;subst hk;first|exact (hmk hc_).2.2.2.2.1 hb_|exact (hmk hc_).2.2.2.2.2 hb_)
  replace hC:=hC.sp q19
  clear hb9 hz;have hb9:Blk w19 g_9 _ [_,_,_,_,_]:=hbn;clear hbn
  refine z0b ?_
  refine z0d 17 rfl ?_
  refine z0u h rfl rfl hb10 rfl x1z ?_ (h1:=(by first|(simp [Value.oneCell',S];done)|exact z2s.one (m.ys.getD j yq0)));clear h a;intro w20 hbn q20 hz a h
  have z20:=q20.size
  replace hk:=hk.fr q20
  replace hb5:=hb5.fr q20
  replace hb9:=hb9.fr q20
  replace hoM:=hoM.fr q20 (by intro hc_ k hk hb_;simp at hk;subst hk;first|exact (hmk hc_).2.2.2.2.1 hb_|exact (hmk hc_).2.2.2.2.2 hb_)
  replace hC:=hC.sp q20
  clear hb10 hz;have hb10:Blk w20 g_10 _ [_,_,_]:=hbn;clear hbn
  refine z0b ?_
  refine z0d 18 rfl ?_
  refine z0q h rfl λa h=>?_
  refine z0b ?_
  refine z0r ?_
  clear hC hM_b hk_b hb5_b
  refine bk (h.sub (L':=[(0,_),(2,_),(3,_),(5,_),(9,_),(10,_),(11,_)]) (.c7 rfl rfl rfl rfl rfl rfl rfl)) ?_
  exact jE ((g_9,g_10)) (.c7 rfl rfl rfl rfl rfl rfl rfl) ⟨(q2.z3 q18 q19 q20),⟨qn,ncn,nwn,sn,psn,⟨by simp only;omega,by simp only;omega,λe=>⟨(hmk e).1,(hmk e).2.1,(hmk e).2.2.1,(hmk e).2.2.2.1⟩⟩,hb9,hb10,λe=>(hoM e).low (by omega)⟩⟩
 rintro ⟨g9,g10⟩ w21 ⟨q21,⟨qn,ncn,nwn,sn,psn,⟨hz9,hz10,hmk⟩,hb9,hb10,hoM⟩⟩
 have z21:=q21.size
 have lt_hb9:=hb9.lt
 have lt_hb10:=hb10.lt
 simp only at hz9 hz10 hb9 hb10
 refine kpC [(0,_),(2,_),(3,_),(5,_),(9,.pointer (some ⟨g9,0,none⟩)),(10,.pointer (some ⟨g10,0,none⟩)),(11,.int .i64 (mkE (m.ys.getD j yq0).p))] (.c7 rfl rfl rfl rfl rfl rfl rfl) (sq (sr (mv rfl (ne' rfl rfl (nn (cd rfl (λc0=>?_) (λc0=>?_)))))))
 ·refine sr (mv rfl (asg rfl (kpL [(8,_)] (.cons rfl .nil) (nn (rt (tr (r1 results114 rfl ?_)))))))
  replace hM:=hM0.ext (q1.n1 q21)
  exact ⟨_,rfl,MRet.err (by unfold x4p;rw [hyp,if_pos c0]) c0 hM.fr⟩
 replace hk:=hk.ext (q1.n1 q21)
 have hm0:(mkE (m.ys.getD j yq0).p)=0:=Classical.not_not.1 c0
 obtain ⟨rfl,rfl,rfl,rfl⟩:=hmk hm0
 replace hoM:=hoM hm0
 have hLb2:=λk hk=>(hoM.blk k hk).2
 obtain ⟨hl4,hnm,hnd⟩:=u4l hi hy hs (by rw [hyp];exact hm0)
 rw [hyp] at hl4 hnm hnd
 refine sk (tn (sq (sr (mv rfl (nlc rfl (fad rfl y1g (z0i rfl hk rfl x1r ?_)))))))
 replace hM:=hM0.ext (q1.n1 q21)
 refine cl (ev1 rfl) (mkC func151) (y2q _ m.ts _ hM.t.at.1 hM.t.at.2 (by omega)) rfl ?_
 rintro _ w22 ⟨rfl,q22⟩
 have z22:=q22.size
 refine ge' rfl rfl (kpL [(0,_),(2,_),(3,_),(5,_),(9,_),(10,_),(37,_)] (.c7 rfl rfl rfl rfl rfl rfl rfl) (nn (cd rfl (λc1=>?_) (λc1=>?_))))
 ·refine sr (asg rfl (kpL [(8,_)] (.cons rfl .nil) (nn (rt (tr (r1 results114 rfl ?_))))))
  replace hM:=hM0.ext (q1.n2 q21 q22)
  exact ⟨_,rfl,MRet.err (by unfold x4p;rw [hyp,if_neg (λe=>e hm0),if_pos (show 2048<=z4o m.p.tb by have:m.p.tb=z2c m.ts:=rfl;rw [this];omega)]) (by decide) hM.fr⟩
 refine sk (tn (sr (fad rfl z3i ?_)))
 replace hb5:=hb5.ext (q21.n1 q22)
 refine z0i rfl hb5 rfl na5 (fad rfl u7d ?_)
 replace hb10:=hb10.ext q22
 refine z0i rfl hb10 rfl na3 (z1r (cs:=[_,_]) (ev2 rfl rfl) u8j (z0f rfl rfl rfl (z0f rfl rfl rfl z0s)) rfl ?_)
 refine al y2s rfl rfl (λg12 w23 hg12 hb12 q23 z23=>?_)
 refine z0j (vs:=[_,_]) rfl rfl hb12 y1n (λw24 hb12 q24 z24=>?_) (h1:=(by first|(simp [Value.oneCell',S];done)|exact z2s.one (m.ys.getD j yq0)))
 refine kpL [(0,_),(2,_),(3,_),(5,_),(9,_),(10,_),(12,_)] (.c7 rfl rfl rfl rfl rfl rfl rfl) (nn (sr (fad rfl z4e (y2g rfl z6e ?_))))
 replace hb5:=(hb5.ext q23).fr q24
 refine z0i rfl hb5 rfl x4n (fad rfl u5r ?_)
 replace hb10:=(hb10.ext q23).fr q24
 refine z0i rfl hb10 rfl na4 (mv rfl (fad rfl u3y (z0i rfl hb10 rfl y6u (z1r (cs:=[_,_,_,_]) (ev4 rfl rfl rfl rfl) bo89 (z0f rfl rfl rfl (z0f rfl rfl rfl (z0f rfl rfl rfl (z0f rfl rfl rfl z0s)))) rfl ?_))))
 refine al u1m rfl rfl (λg13 w25 hg13 hb13 q25 z25=>?_)
 refine z0j (vs:=[_,_,_,_]) rfl rfl hb13 u6t (λw26 hb13 q26 z26=>?_) (h1:=(by first|(simp [Value.oneCell',S];done)|exact z2s.one (m.ys.getD j yq0)))
 refine kpL [(0,_),(3,_),(5,_),(9,_),(12,_),(13,_)] (.c6 rfl rfl rfl rfl rfl rfl) (nn ?_)
 refine jn (ι:=Nat) [(0,_),(5,_),(9,_),(13,_)] (λg_=>[(14,.pointer (some ⟨g_,0,none⟩)),(11,.int .i64 0)]) (λg_ w'=>Fr [] w26 w'/\∃q':BdQ,(w26.heap.size<=g_/\q'.p=m.q.p.put o.b o.p (st++[(⟨o.y,(m.ys.getD j yq0).ct⟩:LId)]))/\Blk w' g_ 32 (bdL q')/\BdO 37 87 (max wS.heap.size w26.heap.size) w' q') (.c4 rfl rfl rfl rfl) ?_ ?_
 ·replace hM:=hM0.ext (q1.z6 q21 q22 q23 q24 q25 q26)
  replace hk:=(((hk.ext (q22.n1 q23)).fr q24).ext q25).fr q26
  replace hst:=hst0.ext (q1.z6 q21 q22 q23 q24 q25 q26)
  replace hb5:=(hb5.ext q25).fr q26
  replace hb9:=(((hb9.ext (q22.n1 q23)).fr q24).ext q25).fr q26
  replace hb10:=(hb10.ext q25).fr q26
  replace hoM:=(((hoM.ext (q22.n1 q23)).fr q24 (by intro k hk hb_;simp at hk;subst hk;have h2_:=hoM.blk _ hb_;have h3_:=hLb2 _ hb_;omega)).ext q25).fr q26 (by intro k hk hb_;simp at hk;subst hk;have h2_:=hoM.blk _ hb_;have h3_:=hLb2 _ hb_;omega)
  replace hb12:=(hb12.ext q25).fr q26
  intro a h
  refine z0h none (λwb w'=>Fr [] wb w') z2r ?_;intro w27 q27
  have z27:=q27.size
  replace hM:=hM.ext q27
  replace hk:=hk.ext q27
  replace hst:=hst.ext q27
  replace hb5:=hb5.ext q27
  replace hb9:=hb9.ext q27
  replace hb10:=hb10.ext q27
  replace hoM:=hoM.ext q27
  replace hb12:=hb12.ext q27
  replace hb13:=hb13.ext q27
  have hC:Fr [] w27 w27:=Fr.refl _ _
  have hM_b:=hM
  have hk_b:=hk
  have hst_b:=hst
  have hb5_b:=hb5
  have hb9_b:=hb9
  have hb10_b:=hb10
  have hoM_b:=hoM
  have hb12_b:=hb12
  have hb13_b:=hb13
  refine y3b (ι:=Nat×BdQ) h [(0,_),(3,_),(5,_),(9,_),(12,_),(13,_)] (.c6 rfl rfl rfl rfl rfl rfl) #[true,true,true,true,true,true,true,true,true,true,true,true,true,true,true,true,false,false] 2 (λp=>[(14,.pointer (some ⟨p.1,0,none⟩)),(65,.agg #[.slice p.2.f.1 p.2.f.2.1 p.2.f.2.2,.slice p.2.b.1 p.2.b.2.1 p.2.b.2.2]),(66,.int .i64 0)]) (λp w'=>Fr [] w27 w'/\(w27.heap.size<=p.1/\p.2.p=m.q.p.put o.b o.p (st++[(⟨o.y,(m.ys.getD j yq0).ct⟩:LId)]))/\Blk w' p.1 32 [.slice none 0 0,.slice none 0 0]/\BdO 37 87 (max wS.heap.size w27.heap.size) w' p.2) (λhT8_0=>?_) ?_
  ·refine y3b (ι:=(Nat×Nat)×Nat) h [(0,_),(3,_),(5,_),(9,_),(12,_),(13,_)] (.c6 rfl rfl rfl rfl rfl rfl) #[true,true,true,true,true,true,true,true,true,true,false,false,false,false,false,true,false,false] 7 (λp=>[(56,.agg #[.slice m.q.f.1 m.q.f.2.1 m.q.f.2.2,.slice m.q.b.1 m.q.b.2.1 m.q.b.2.2]),(58,.agg #[.int .u8 o.b,.int .i64 o.p]),(60,.slice (some ⟨p.1.1,0,none⟩) st.length st.length),(62,.slice (some ⟨p.1.2,0,none⟩) 1 1),(14,.pointer (some ⟨p.2,0,none⟩))]) (λp w'=>Fr [] w27 w'/\(w27.heap.size<=p.1.1/\w27.heap.size<=p.1.2)/\Lw.Own z1h 87 w27.heap.size w' (.slice (some ⟨p.1.1,0,none⟩) st.length st.length) st/\Lw.Own z1h 87 w27.heap.size w' (.slice (some ⟨p.1.2,0,none⟩) 1 1) [(⟨o.y,(m.ys.getD j yq0).ct⟩:LId)]/\w27.heap.size<=p.2/\Blk w' p.2 32 [.slice none 0 0,.slice none 0 0]) (λhT8_1=>?_) ?_
   ·refine y3b (ι:=Nat×Nat) h [(0,_),(3,_),(5,_),(9,_),(12,_),(13,_)] (.c6 rfl rfl rfl rfl rfl rfl) #[true,true,true,true,true,true,true,true,true,true,false,false,false,false,false,false,false,false] 8 (λp=>[(56,.agg #[.slice m.q.f.1 m.q.f.2.1 m.q.f.2.2,.slice m.q.b.1 m.q.b.2.1 m.q.b.2.2]),(58,.agg #[.int .u8 o.b,.int .i64 o.p]),(60,.slice (some ⟨p.1,0,none⟩) st.length st.length),(62,.slice (some ⟨p.2,0,none⟩) 1 1)]) (λp w'=>Fr [] w27 w'/\(w27.heap.size<=p.1/\w27.heap.size<=p.2)/\Lw.Own z1h 87 w27.heap.size w' (.slice (some ⟨p.1,0,none⟩) st.length st.length) st/\Lw.Own z1h 87 w27.heap.size w' (.slice (some ⟨p.2,0,none⟩) 1 1) [(⟨o.y,(m.ys.getD j yq0).ct⟩:LId)]) (λhT8_2=>?_) ?_
    ·refine z0e 0 h rfl rfl λa h=>z0o 1 h rfl rfl λa h=>z0c 2 h rfl z2p rfl λa h=>z1c (vs:=[_,_]) 3 h rfl (λ_ hw=>(hk_b.ext hw)) z5k rfl rfl λa h=>z0c 4 h rfl z4e rfl λa h=>z1c (vs:=[_,_]) 5 h rfl (λ_ hw=>(hb5_b.ext hw)) z4v rfl rfl λa h=>z0e 6 h rfl rfl λa h=>z0t 8 h rfl (λ_ hw=>hb12_b.ext hw) z3g rfl λa h=>x5g 7 9 15 (by kernel_rfl) rfl rfl rfl ?_ ?_ ?_
     ·refine z0m h (z0a rfl z0g) x0t (z3k _ st _ hst (by omega)) ?_;rintro _ w28 ⟨g60,rfl,hg60,hX,q28⟩ a h
      have z28:=q28.size
      replace hM:=hM.ext q28
      replace hk:=hk.ext q28
      replace hst:=hst.ext q28
      replace hb5:=hb5.ext q28
      replace hb9:=hb9.ext q28
      replace hb10:=hb10.ext q28
      replace hoM:=hoM.ext q28
      replace hb12:=hb12.ext q28
      replace hb13:=hb13.ext q28
      replace hC:=hC.next q28
      have hLx:=λk hk=>(hX.blk k hk).2
      refine z0b ?_
      refine z2d 9 15 (by kernel_rfl) rfl rfl ?_ ?_
      ·refine z2o ([(⟨o.y,(m.ys.getD j yq0).ct⟩:LId)]) h (z0a rfl z0g) rfl rfl rfl z5v λg_62 w29 hg ho62 q29 hz a h=>?_
       have hn_.gk_62:ka.gk<g_62:=by have:=hk.lt;omega
       have hn__62:g5<g_62:=by have:=hb5.lt;omega
       have hn__62:g9<g_62:=by have:=hb9.lt;omega
       have hn_0_62:g10<g_62:=by have:=hb10.lt;omega
       have hn_2_62:g12<g_62:=by have:=hb12.lt;omega
       have hn_3_62:g13<g_62:=by have:=hb13.lt;omega
       have z29:=q29.size
       replace hX:=hX.ext q29
       replace hC:=hC.next q29
       refine z0b ?_
       exact hT8_2 (g60,g_62) _ _ _ (by kernel_rfl) (h.sub (.d8 rfl rfl rfl rfl rfl rfl rfl rfl (.c2 rfl rfl))) ⟨hC,⟨by simp only;omega,by simp only;omega⟩,hX.low (by omega),ho62.low (by omega)⟩
      refine z1d h x4m rfl λw30 hb14 q30 hz a h=>?_
      obtain ⟨g_14,hg⟩:∃g,g=w28.heap.size:=⟨_,rfl⟩;rw [<-hg] at hb14 h hz
      have hn_.gk_14:ka.gk<g_14:=by have:=hk.lt;omega
      have hn__14:g5<g_14:=by have:=hb5.lt;omega
      have hn__14:g9<g_14:=by have:=hb9.lt;omega
      have hn_0_14:g10<g_14:=by have:=hb10.lt;omega
      have hn_2_14:g12<g_14:=by have:=hb12.lt;omega
      have hn_3_14:g13<g_14:=by have:=hb13.lt;omega
      have z30:=q30.size
      replace hk:=hk.ext q30
      replace hb5:=hb5.ext q30
      replace hb9:=hb9.ext q30
      replace hb10:=hb10.ext q30
      replace hb12:=hb12.ext q30
      replace hb13:=hb13.ext q30
      replace hC:=hC.next q30
      refine z0b ?_
      refine z0d 9 rfl ?_
      refine z2o ([(⟨o.y,(m.ys.getD j yq0).ct⟩:LId)]) h (z0a rfl z0g) rfl rfl rfl z5v λg_62 w31 hg ho62 q31 hz a h=>?_
      have hn_.gk_62:ka.gk<g_62:=by have:=hk.lt;omega
      have hn__62:g5<g_62:=by have:=hb5.lt;omega
      have hn__62:g9<g_62:=by have:=hb9.lt;omega
      have hn_0_62:g10<g_62:=by have:=hb10.lt;omega
      have hn_2_62:g12<g_62:=by have:=hb12.lt;omega
      have hn_3_62:g13<g_62:=by have:=hb13.lt;omega
      have hn_14_62:g_14<g_62:=by have:=hb14.lt;omega
      have z31:=q31.size
      replace hX:=hX.ext (q30.n1 q31)
      replace hb14:=hb14.ext q31
      replace hC:=hC.next q31
      refine z0b ?_
      exact hT8_1 ((g60,g_62),g_14) _ _ _ (by kernel_rfl) (h.sub (.d8 rfl rfl rfl rfl rfl rfl rfl rfl (.c3 rfl rfl rfl))) ⟨hC,⟨by simp only;omega,by simp only;omega⟩,hX.low (by omega),ho62.low (by omega),by simp only;omega,hb14⟩
     ·refine z2o ([(⟨o.y,(m.ys.getD j yq0).ct⟩:LId)]) h (z0a rfl z0g) rfl rfl rfl z5v λg_62 w32 hg ho62 q32 hz a h=>?_
      have hn_.gk_62:ka.gk<g_62:=by have:=hk.lt;omega
      have hn__62:g5<g_62:=by have:=hb5.lt;omega
      have hn__62:g9<g_62:=by have:=hb9.lt;omega
      have hn_0_62:g10<g_62:=by have:=hb10.lt;omega
      have hn_2_62:g12<g_62:=by have:=hb12.lt;omega
      have hn_3_62:g13<g_62:=by have:=hb13.lt;omega
      have z32:=q32.size
      replace hM:=hM.ext q32
      replace hk:=hk.ext q32
      replace hst:=hst.ext q32
      replace hb5:=hb5.ext q32
      replace hb9:=hb9.ext q32
      replace hb10:=hb10.ext q32
      replace hoM:=hoM.ext q32
      replace hb12:=hb12.ext q32
      replace hb13:=hb13.ext q32
      replace hC:=hC.next q32
      refine z0b ?_
      refine z2d 7 15 (by kernel_rfl) rfl rfl ?_ ?_
      ·refine z0m h (z0a rfl z0g) x0t (z3k _ st _ hst (by omega)) ?_;rintro _ w33 ⟨g60,rfl,hg60,hX,q33⟩ a h
       have z33:=q33.size
       replace hk:=hk.ext q33
       replace ho62:=ho62.ext q33
       replace hC:=hC.next q33
       have hLx:=λk hk=>(hX.blk k hk).2
       refine z0b ?_
       exact hT8_2 (g60,g_62) _ _ _ (by kernel_rfl) (h.sub (.d8 rfl rfl rfl rfl rfl rfl rfl rfl (.c2 rfl rfl))) ⟨hC,⟨by simp only;omega,by simp only;omega⟩,hX.low (by omega),ho62.low (by omega)⟩
      refine z1d h x4m rfl λw34 hb14 q34 hz a h=>?_
      obtain ⟨g_14,hg⟩:∃g,g=w32.heap.size:=⟨_,rfl⟩;rw [<-hg] at hb14 h hz
      have hn_.gk_14:ka.gk<g_14:=by have:=hk.lt;omega
      have hn__14:g5<g_14:=by have:=hb5.lt;omega
      have hn__14:g9<g_14:=by have:=hb9.lt;omega
      have hn_0_14:g10<g_14:=by have:=hb10.lt;omega
      have hn_2_14:g12<g_14:=by have:=hb12.lt;omega
      have hn_3_14:g13<g_14:=by have:=hb13.lt;omega
      have hn_62_14:g_62<g_14:=by have:=(ho62.blk g_62 (by simp [z0v])).2;omega
      have z34:=q34.size
      replace hst:=hst.ext q34
      replace hC:=hC.next q34
      refine z0b ?_
      refine z0d 7 rfl ?_
      refine z0m h (z0a rfl z0g) x0t (z3k _ st _ hst (by omega)) ?_;rintro _ w35 ⟨g60,rfl,hg60,hX,q35⟩ a h
      have z35:=q35.size
      replace hk:=hk.ext (q34.n1 q35)
      replace ho62:=ho62.ext (q34.n1 q35)
      replace hb14:=hb14.ext q35
      replace hC:=hC.next q35
      have hLx:=λk hk=>(hX.blk k hk).2
      refine z0b ?_
      exact hT8_1 ((g60,g_62),g_14) _ _ _ (by kernel_rfl) (h.sub (.d8 rfl rfl rfl rfl rfl rfl rfl rfl (.c3 rfl rfl rfl))) ⟨hC,⟨by simp only;omega,by simp only;omega⟩,hX.low (by omega),ho62.low (by omega),by simp only;omega,hb14⟩
     refine z1d h x4m rfl λw36 hb14 q36 hz a h=>?_
     obtain ⟨g_14,hg⟩:∃g,g=w27.heap.size:=⟨_,rfl⟩;rw [<-hg] at hb14 h hz
     have hn_.gk_14:ka.gk<g_14:=by have:=hk.lt;omega
     have hn__14:g5<g_14:=by have:=hb5.lt;omega
     have hn__14:g9<g_14:=by have:=hb9.lt;omega
     have hn_0_14:g10<g_14:=by have:=hb10.lt;omega
     have hn_2_14:g12<g_14:=by have:=hb12.lt;omega
     have hn_3_14:g13<g_14:=by have:=hb13.lt;omega
     have z36:=q36.size
     replace hM:=hM.ext q36
     replace hk:=hk.ext q36
     replace hst:=hst.ext q36
     replace hb5:=hb5.ext q36
     replace hb9:=hb9.ext q36
     replace hb10:=hb10.ext q36
     replace hoM:=hoM.ext q36
     replace hb12:=hb12.ext q36
     replace hb13:=hb13.ext q36
     replace hC:=hC.next q36
     refine z0b ?_
     refine z2d 7 9 (by kernel_rfl) rfl rfl ?_ ?_
     ·refine z0m h (z0a rfl z0g) x0t (z3k _ st _ hst (by omega)) ?_;rintro _ w37 ⟨g60,rfl,hg60,hX,q37⟩ a h
      have z37:=q37.size
      replace hk:=hk.ext q37
      replace hb5:=hb5.ext q37
      replace hb9:=hb9.ext q37
      replace hb10:=hb10.ext q37
      replace hb12:=hb12.ext q37
      replace hb13:=hb13.ext q37
      replace hb14:=hb14.ext q37
      replace hC:=hC.next q37
      have hLx:=λk hk=>(hX.blk k hk).2
      refine z0b ?_
      refine z0d 9 rfl ?_
      refine z2o ([(⟨o.y,(m.ys.getD j yq0).ct⟩:LId)]) h (z0a rfl z0g) rfl rfl rfl z5v λg_62 w38 hg ho62 q38 hz a h=>?_
      have hn_.gk_62:ka.gk<g_62:=by have:=hk.lt;omega
      have hn__62:g5<g_62:=by have:=hb5.lt;omega
      have hn__62:g9<g_62:=by have:=hb9.lt;omega
      have hn_0_62:g10<g_62:=by have:=hb10.lt;omega
      have hn_2_62:g12<g_62:=by have:=hb12.lt;omega
      have hn_3_62:g13<g_62:=by have:=hb13.lt;omega
      have hn_14_62:g_14<g_62:=by have:=hb14.lt;omega
      have z38:=q38.size
      replace hb14:=hb14.ext q38
      replace hX:=hX.ext q38
      replace hC:=hC.next q38
      refine z0b ?_
      exact hT8_1 ((g60,g_62),g_14) _ _ _ (by kernel_rfl) (h.sub (.d8 rfl rfl rfl rfl rfl rfl rfl rfl (.c3 rfl rfl rfl))) ⟨hC,⟨by simp only;omega,by simp only;omega⟩,hX.low (by omega),ho62.low (by omega),by simp only;omega,hb14⟩
     refine z2o ([(⟨o.y,(m.ys.getD j yq0).ct⟩:LId)]) h (z0a rfl z0g) rfl rfl rfl z5v λg_62 w39 hg ho62 q39 hz a h=>?_
     have hn_.gk_62:ka.gk<g_62:=by have:=hk.lt;omega
     have hn__62:g5<g_62:=by have:=hb5.lt;omega
     have hn__62:g9<g_62:=by have:=hb9.lt;omega
     have hn_0_62:g10<g_62:=by have:=hb10.lt;omega
     have hn_2_62:g12<g_62:=by have:=hb12.lt;omega
     have hn_3_62:g13<g_62:=by have:=hb13.lt;omega
     have hn_14_62:g_14<g_62:=by have:=hb14.lt;omega
     have z39:=q39.size
     replace hM:=hM.ext q39
     replace hk:=hk.ext q39
     replace hst:=hst.ext q39
     replace hb5:=hb5.ext q39
     replace hb9:=hb9.ext q39
     replace hb10:=hb10.ext q39
     replace hoM:=hoM.ext q39
     replace hb12:=hb12.ext q39
     replace hb13:=hb13.ext q39
     replace hb14:=hb14.ext q39
     replace hC:=hC.next q39
     refine z0b ?_
     refine z0d 7 rfl ?_
     refine z0m h (z0a rfl z0g) x0t (z3k _ st _ hst (by omega)) ?_;rintro _ w40 ⟨g60,rfl,hg60,hX,hq⟩ a h
     have z40:=hq.size
     replace hM:=hM.ext hq
     replace hk:=hk.ext hq
     replace hst:=hst.ext hq
     replace hb5:=hb5.ext hq
     replace hb9:=hb9.ext hq
     replace hb10:=hb10.ext hq
     replace hoM:=hoM.ext hq
     replace hb12:=hb12.ext hq
     replace hb13:=hb13.ext hq
     replace hb14:=hb14.ext hq
     replace ho62:=ho62.ext hq
     replace hC:=hC.next hq
     have q40:=hq
     have hLx:=λk hk=>(hX.blk k hk).2
     refine z0b ?_
     exact hT8_1 ((g60,g_62),g_14) _ _ _ (by kernel_rfl) (h.sub (.d8 rfl rfl rfl rfl rfl rfl rfl rfl (.c3 rfl rfl rfl))) ⟨hC,⟨by simp only;omega,by simp only;omega⟩,hX.low (by omega),ho62.low (by omega),by simp only;omega,hb14⟩
    rintro ⟨g60,g_62⟩ a w41 ⟨hC,⟨hz60,hz62⟩,hX,ho62⟩ h
    simp only at hz60 hz62 hX ho62
    have q41:=hC
    have z41:=q41.size
    replace hM:=hM.ext q41
    replace hk:=hk.ext q41
    replace hst:=hst.ext q41
    replace hb5:=hb5.ext q41
    replace hb9:=hb9.ext q41
    replace hb10:=hb10.ext q41
    replace hoM:=hoM.ext q41
    replace hb12:=hb12.ext q41
    replace hb13:=hb13.ext q41
    have hLx:=λk h_=>(hX.blk k h_).2
    refine z2d 10 15 (by kernel_rfl) rfl rfl ?_ ?_
    ·have hoo63:=hX
     refine z7b h rfl rfl hX ho62.sl z5v rfl λv63 w42 hX q42 hor63 a h=>?_
     obtain ⟨A63,c63,rfl,hc63⟩:=hX.sl.form
     have hLx:=λk hk=>(hX.blk k hk).2
     have z42:=q42.size
     replace hk:=hk.fr q42 (λhk_=>hoo63.neB hk (by decide) hk_)
     replace hb5:=hb5.fr q42 (λhk_=>hoo63.neB hb5 (by decide) hk_)
     replace hb9:=hb9.fr q42 (λhk_=>hoo63.neB hb9 (by decide) hk_)
     replace hb10:=hb10.fr q42 (λhk_=>hoo63.neB hb10 (by decide) hk_)
     replace hoM:=hoM.fr q42 (Own.neO hoo63 hoM (by decide))
     replace hb12:=hb12.fr q42 (λhk_=>by have:=(hoo63.blk _ hk_).1;omega)
     replace hb13:=hb13.fr q42 (λhk_=>hoo63.neB hb13 (by decide) hk_)
     replace hC:=hC.step q42 (λk hk hlt=>absurd (hoo63.blk k hk).1 (by omega))
     refine z0b ?_
     refine z2d 11 15 (by kernel_rfl) rfl rfl ?_ ?_
     ·refine z0m h (z0a rfl (z0a rfl (z0a rfl z0g))) v2a (by have x:=x0l m.q o.b n _ (st++[(⟨o.y,(m.ys.getD j yq0).ct⟩:LId)]) _ (hM_b.ext hC).b.at hX.sl hv (by rw [<-hpn];exact hn) hl4 hnm (by rw [<-hpn];exact hnd);rw [<-hpn] at x;exact x) ?_;rintro _ w43 ⟨⟨q',rfl,hQ,hqp⟩,q43⟩ a h
      have z43:=q43.size
      replace hk:=hk.ext q43
      replace hb5:=hb5.ext q43
      replace hb9:=hb9.ext q43
      replace hb10:=hb10.ext q43
      replace hb12:=hb12.ext q43
      replace hb13:=hb13.ext q43
      replace hC:=hC.next q43
      refine z0b ?_
      refine z0e 12 h rfl rfl λa h=>z0k 13 h rfl rfl rfl λa h=>z0k 14 h rfl rfl rfl λa h=>z0d 15 rfl ?_
      refine z1d h x4m rfl λw44 hb14 q44 hz a h=>?_
      obtain ⟨g_14,hg⟩:∃g,g=w43.heap.size:=⟨_,rfl⟩;rw [<-hg] at hb14 h hz
      have hn_.gk_14:ka.gk<g_14:=by have:=hk.lt;omega
      have hn__14:g5<g_14:=by have:=hb5.lt;omega
      have hn__14:g9<g_14:=by have:=hb9.lt;omega
      have hn_0_14:g10<g_14:=by have:=hb10.lt;omega
      have hn_2_14:g12<g_14:=by have:=hb12.lt;omega
      have hn_3_14:g13<g_14:=by have:=hb13.lt;omega
      have z44:=q44.size
      first|replace hQ:=BdO.ext hQ q44|replace hQ:=BdO.tf hQ q44 (OffT.one hb14 (by decide)) (OffT.one hb14 (by decide))
      replace hC:=hC.next q44
      refine z0b ?_
      exact hT8_0 (g_14,q') _ _ _ (by kernel_rfl) (h.sub (.d8 rfl rfl rfl rfl rfl rfl rfl rfl (.cons rfl .nil))) ⟨hC,⟨by simp only;omega,hqp⟩,hb14,BdO.low hQ (by omega)⟩
     refine z1d h x4m rfl λw45 hb14 q45 hz a h=>?_
     obtain ⟨g_14,hg⟩:∃g,g=w42.heap.size:=⟨_,rfl⟩;rw [<-hg] at hb14 h hz
     have hn_.gk_14:ka.gk<g_14:=by have:=hk.lt;omega
     have hn__14:g5<g_14:=by have:=hb5.lt;omega
     have hn__14:g9<g_14:=by have:=hb9.lt;omega
     have hn_0_14:g10<g_14:=by have:=hb10.lt;omega
     have hn_2_14:g12<g_14:=by have:=hb12.lt;omega
     have hn_3_14:g13<g_14:=by have:=hb13.lt;omega
     have z45:=q45.size
     replace hX:=hX.ext q45
     replace hC:=hC.next q45
     refine z0b ?_
     refine z0d 11 rfl ?_
     refine z0m h (z0a rfl (z0a rfl (z0a rfl z0g))) v2a (by have x:=x0l m.q o.b n _ (st++[(⟨o.y,(m.ys.getD j yq0).ct⟩:LId)]) _ (hM_b.ext hC).b.at hX.sl hv (by rw [<-hpn];exact hn) hl4 hnm (by rw [<-hpn];exact hnd);rw [<-hpn] at x;exact x) ?_;rintro _ w46 ⟨⟨q',rfl,hQ,hqp⟩,q46⟩ a h
     have z46:=q46.size
     replace hb14:=hb14.ext q46
     replace hC:=hC.next q46
     refine z0b ?_
     refine z0e 12 h rfl rfl λa h=>z0k 13 h rfl rfl rfl λa h=>z0k 14 h rfl rfl rfl λa h=>?_
     exact hT8_0 (g_14,q') _ _ _ (by kernel_rfl) (h.sub (.d8 rfl rfl rfl rfl rfl rfl rfl rfl (.cons rfl .nil))) ⟨hC,⟨by simp only;omega,hqp⟩,hb14,BdO.low hQ (by omega)⟩
    refine z1d h x4m rfl λw47 hb14 q47 hz a h=>?_
    obtain ⟨g_14,hg⟩:∃g,g=w41.heap.size:=⟨_,rfl⟩;rw [<-hg] at hb14 h hz
    have hn_.gk_14:ka.gk<g_14:=by have:=hk.lt;omega
    have hn__14:g5<g_14:=by have:=hb5.lt;omega
    have hn__14:g9<g_14:=by have:=hb9.lt;omega
    have hn_0_14:g10<g_14:=by have:=hb10.lt;omega
    have hn_2_14:g12<g_14:=by have:=hb12.lt;omega
    have hn_3_14:g13<g_14:=by have:=hb13.lt;omega
    have z47:=q47.size
    replace hX:=hX.ext q47
    replace ho62:=ho62.ext q47
    replace hC:=hC.next q47
    refine z0b ?_
    exact hT8_1 ((g60,g_62),g_14) _ _ _ (by kernel_rfl) (h.sub (.d8 rfl rfl rfl rfl rfl rfl rfl rfl (.c3 rfl rfl rfl))) ⟨hC,⟨by simp only;omega,by simp only;omega⟩,hX.low (by omega),ho62.low (by omega),by simp only;omega,hb14⟩
   rintro ⟨⟨g60,g_62⟩,g_14⟩ a w48 ⟨hC,⟨hz60,hz62⟩,hX,ho62,hz14,hb14⟩ h
   simp only at hz60 hz62 hX ho62 hz14 hb14
   have q48:=hC
   have z48:=q48.size
   replace hk:=hk.ext q48
   replace hb5:=hb5.ext q48
   replace hb9:=hb9.ext q48
   replace hb10:=hb10.ext q48
   replace hoM:=hoM.ext q48
   replace hb12:=hb12.ext q48
   replace hb13:=hb13.ext q48
   have hLx:=λk h_=>(hX.blk k h_).2
   refine z0d 10 rfl ?_
   have hoo63:=hX
   refine z7b h rfl rfl hX ho62.sl z5v rfl λv63 w49 hX q49 hor63 a h=>?_
   obtain ⟨A63,c63,rfl,hc63⟩:=hX.sl.form
   have hLx:=λk hk=>(hX.blk k hk).2
   have z49:=q49.size
   replace hk:=hk.fr q49 (λhk_=>hoo63.neB hk (by decide) hk_)
   replace hb5:=hb5.fr q49 (λhk_=>hoo63.neB hb5 (by decide) hk_)
   replace hb9:=hb9.fr q49 (λhk_=>hoo63.neB hb9 (by decide) hk_)
   replace hb10:=hb10.fr q49 (λhk_=>hoo63.neB hb10 (by decide) hk_)
   replace hoM:=hoM.fr q49 (Own.neO hoo63 hoM (by decide))
   replace hb12:=hb12.fr q49 (λhk_=>by have:=(hoo63.blk _ hk_).1;omega)
   replace hb13:=hb13.fr q49 (λhk_=>hoo63.neB hb13 (by decide) hk_)
   replace hb14:=hb14.fr q49 (λhk_=>hoo63.neB hb14 (by decide) hk_)
   replace hC:=hC.step q49 (λk hk hlt=>absurd (hoo63.blk k hk).1 (by omega))
   refine z0b ?_
   refine z0d 11 rfl ?_
   refine z0m h (z0a rfl (z0a rfl (z0a rfl z0g))) v2a (by have x:=x0l m.q o.b n _ (st++[(⟨o.y,(m.ys.getD j yq0).ct⟩:LId)]) _ (hM_b.ext hC).b.at hX.sl hv (by rw [<-hpn];exact hn) hl4 hnm (by rw [<-hpn];exact hnd);rw [<-hpn] at x;exact x) ?_;rintro _ w50 ⟨⟨q',rfl,hQ,hqp⟩,q50⟩ a h
   have z50:=q50.size
   replace hb14:=hb14.ext q50
   replace hC:=hC.next q50
   refine z0b ?_
   refine z0e 12 h rfl rfl λa h=>z0k 13 h rfl rfl rfl λa h=>z0k 14 h rfl rfl rfl λa h=>?_
   exact hT8_0 (g_14,q') _ _ _ (by kernel_rfl) (h.sub (.d8 rfl rfl rfl rfl rfl rfl rfl rfl (.cons rfl .nil))) ⟨hC,⟨by simp only;omega,hqp⟩,hb14,BdO.low hQ (by omega)⟩
  rintro ⟨g_14,q'⟩ a w51 ⟨hC,⟨hz14,hqp⟩,hb14,hQ⟩ h
  simp only at hz14 hqp hb14 hQ
  have q51:=hC
  have z51:=q51.size
  replace hk:=hk.ext q51
  replace hb5:=hb5.ext q51
  replace hb9:=hb9.ext q51
  replace hb10:=hb10.ext q51
  replace hoM:=hoM.ext q51
  replace hb12:=hb12.ext q51
  replace hb13:=hb13.ext q51
  refine z0d 16 rfl ?_
  refine z0u h rfl rfl hb14 rfl y9r ?_ (h1:=(by first|(simp [Value.oneCell',S];done)|exact z2s.one (m.ys.getD j yq0)));clear h a;intro w52 hbn q52 hz a h
  have z52:=q52.size
  replace hk:=hk.fr q52
  replace hb5:=hb5.fr q52
  replace hb9:=hb9.fr q52
  replace hb10:=hb10.fr q52
  replace hoM:=hoM.fr q52 (by intro k hk hb_;simp at hk;subst hk;have h2_:=hoM.blk _ hb_;have h3_:=hLb2 _ hb_;omega)
  replace hb12:=hb12.fr q52
  replace hb13:=hb13.fr q52
  first|replace hQ:=BdO.ext hQ q52|replace hQ:=BdO.tf hQ q52 (OffT.one hb14 (by decide)) (OffT.one hb14 (by decide))
  replace hC:=hC.sp q52
  clear hb14 hz;have hb14:Blk w52 g_14 _ [_,_]:=hbn;clear hbn
  refine z0b ?_
  refine z0d 17 rfl ?_
  refine z0q h rfl λa h=>?_
  refine z0b ?_
  refine z0r ?_
  clear hC hM_b hk_b hst_b hb5_b hb9_b hb10_b hoM_b hb12_b hb13_b
  refine bk (h.sub (L':=[(0,_),(5,_),(9,_),(11,_),(13,_),(14,_)]) (.c6 rfl rfl rfl rfl rfl rfl)) ?_
  exact jE (g_14) (.c6 rfl rfl rfl rfl rfl rfl) ⟨(q27.z2 q51 q52),⟨q',⟨by omega,hqp⟩,hb14,BdO.low hQ (by omega)⟩⟩
 rintro g14 w53 ⟨q53,⟨q',⟨hz14,hqp⟩,hb14,hQ⟩⟩
 have z53:=q53.size
 have lt_hb14:=hb14.lt
 refine kpC [(0,_),(5,_),(9,_),(13,_),(14,.pointer (some ⟨g14,0,none⟩)),(11,.int .i64 0)] (.c6 rfl rfl rfl rfl rfl rfl) ?_
 have hfb:=y3i hQ hM0.f (by omega)
 refine sq (sr (mv rfl (ne' rfl rfl (nn (cd rfl (λc2=>?_) (λc2=>?_))))))
 ·exact absurd rfl c2
 refine sk (tn (sr (mv rfl (z0n rfl hb14 z5k (nlc rfl (fad rfl z2p ?_))))))
 replace hM:=hM0.ext ((q1.z6 q21 q22 q23 q24 q25 q26).n1 q53)
 replace hk:=((((hk.ext (q22.n1 q23)).fr q24).ext q25).fr q26).ext q53
 refine z4l (cs':=v5m ka { m with q:=q' }) rfl rfl hM.k (by intro u hu;simp at hu;rcases hu with rfl|rfl<;>rfl) y9r rfl (λw54 hkn q54 z54=>?_)
 replace hM:=hM.beds mtd (hQ.low (by omega)) hkn q54 hfb
 have hk:=hM.k
 have hM0:=hM
 have hMB:=hM
 have hF:Lw.Own z1h 87 wS.heap.size _ (slv m.fa) m.fl:=hM.f
 clear hkn
 refine kpL [(0,_),(5,_),(9,_),(13,_)] (.c4 rfl rfl rfl rfl) (nn (sq ?_))
 replace hb5:=(((hb5.ext q25).fr q26).ext q53).fr q54
 replace hb9:=(((((hb9.ext (q22.n1 q23)).fr q24).ext q25).fr q26).ext q53).fr q54
 replace hoM:=(((((hoM.ext (q22.n1 q23)).fr q24 (by intro k hk hb_;simp at hk;subst hk;have h2_:=hoM.blk _ hb_;have h3_:=hLb2 _ hb_;omega)).ext q25).fr q26 (by intro k hk hb_;simp at hk;subst hk;have h2_:=hoM.blk _ hb_;have h3_:=hLb2 _ hb_;omega)).ext q53).fr q54 (by intro k hk hb_;simp at hk;subst hk;have h2_:=hoM.blk _ hb_;have h3_:=hLb2 _ hb_;omega)
 replace hb13:=(hb13.ext q53).fr q54
 intro a h
 refine z0h (some 9) (λwb w'=>Fr [] wb w') z2r ?_;intro w55 q55
 have z55:=q55.size
 replace hM:=hM.ext q55
 replace hk:=hk.ext q55
 replace hb5:=hb5.ext q55
 replace hb9:=hb9.ext q55
 replace hoM:=hoM.ext q55
 replace hb13:=hb13.ext q55
 have hC:Fr [] w55 w55:=Fr.refl _ _
 have hM_b:=hM
 have hk_b:=hk
 have hb5_b:=hb5
 have hb9_b:=hb9
 have hoM_b:=hoM
 have hb13_b:=hb13
 refine z0e 0 h rfl rfl λa h=>z0o 1 h rfl rfl λa h=>z0c 2 h rfl z2w rfl λa h=>z0l 3 h rfl (λ_ hw=>hk_b.ext hw) rfl y1w rfl λa h=>z0c 4 h rfl z3i rfl λa h=>z0l 5 h rfl (λ_ hw=>hb5_b.ext hw) rfl na5 rfl λa h=>z2y 6 h wn rfl rfl (by first|exact IntWalk.u8_in _ (by omega)|rfl) rfl λa h=>z0t 7 h rfl (λ_ hw=>hb9_b.ext hw) z6h rfl λa h=>z1n 8 (by kernel_rfl) (by kernel_rfl) (by kernel_rfl) hC (p:=j) h wn rfl rfl y1r (by omega) (by omega) (by omega) rfl rfl λa h=>z0d 9 rfl ?_
 refine z1b (i:=j) ((⟨true,(m.ys.getD j yq0).pl,(m.ys.getD j yq0).ct+1,false,sv0,[]⟩:YQ):YQ) h rfl rfl hM.y.out (by rw [hM.ly];exact hj) rfl z6k λw56 ho_2 q56 _hz a h=>?_
 replace hM:=hM.yarn mtd hj ho_2 q56 (Own.nil _)
 have hM0:=hM
 clear ho_2
 have z56:=q56.size
 replace hb5:=hb5.fr q56
 replace hb9:=hb9.fr q56
 replace hoM:=hoM.fr q56 (by intro k hk hb_;simp at hk;subst hk;have h2_:=hoM.blk _ hb_;have h3_:=hLb2 _ hb_;omega)
 replace hb13:=hb13.fr q56
 have hk:=hM.k
 clear _hz
 refine z1o ?_
 refine z0r ?_
 clear hC hM_b hk_b hb5_b hb9_b hoM_b hb13_b
 replace hth:=(((((((hth.ext (q1.n3 q21 q22 q23)).fr q24 (by intro k hk hb_;simp at hk;subst hk;first|exact hthk hb_|exact hthy hb_|(have:=hthz _ hb_;omega))).ext q25).fr q26 (by intro k hk hb_;simp at hk;subst hk;first|exact hthk hb_|exact hthy hb_|(have:=hthz _ hb_;omega))).ext q53).fr q54 (by intro k hk hb_;simp at hk;subst hk;first|exact hthk hb_|exact hthy hb_|(have:=hthz _ hb_;omega))).ext q55).fr q56 (by intro k hk hb_;simp at hk;subst hk;first|exact hthk hb_|exact hthy hb_|(have:=hthz _ hb_;omega))
 have hrow:=hM.t.ins j (by rw [hM.lt];exact hj)
 have hrow0:=hrow
 have hrowz:∀k∈z0v (slv (m.ts.getD j tq0).1),k<w56.heap.size:=λk hk=>(hrow.blk k hk).2
 have hrl:(m.ts.getD j tq0).2.length<=2048:=by have:=u0o m.ts j;omega
 refine bk (h.sub (L':=[(0,_),(5,_),(13,_)]) (.c3 rfl rfl rfl)) (tn (sq ?_))
 intro a h
 refine z0h (some 20) (λwb w'=>Fr (z0v (slv (m.ts.getD j tq0).1)) wb w') z2r ?_;intro w57 q57
 have z57:=q57.size
 replace hM:=hM.ext q57
 replace hk:=hk.ext q57
 replace hth:=hth.ext q57
 replace hb5:=hb5.ext q57
 replace hoM:=hoM.ext q57
 replace hb13:=hb13.ext q57
 replace hrow:=hrow.ext q57
 have hC:Fr (z0v (slv (m.ts.getD j tq0).1)) w57 w57:=Fr.refl _ _
 have hM_b:=hM
 have hk_b:=hk
 have hth_b:=hth
 have hb5_b:=hb5
 have hoM_b:=hoM
 have hb13_b:=hb13
 have hrow_b:=hrow
 refine z0e 0 h rfl rfl λa h=>z0o 1 h rfl rfl λa h=>z0c 2 h rfl y1g rfl λa h=>z0l 3 h rfl (λ_ hw=>hk_b.fr hw (λk_=>Own.neB hrow_b hk_b (by decide) k_)) rfl x1r rfl λa h=>z0c 4 h rfl z3i rfl λa h=>z0l 5 h rfl (λ_ hw=>hb5_b.fr hw (λk_=>Own.neB hrow_b hb5_b (by decide) k_)) rfl na5 rfl λa h=>z2y 6 h wn rfl rfl (by first|exact IntWalk.u8_in _ (by omega)|rfl) rfl λa h=>z0e 7 h rfl rfl λa h=>z0o 8 h rfl rfl λa h=>z0c 9 h rfl y1g rfl λa h=>z0l 10 h rfl (λ_ hw=>hk_b.fr hw (λk_=>Own.neB hrow_b hk_b (by decide) k_)) rfl x1r rfl λa h=>?_
 refine z0c 11 h rfl z3i rfl λa h=>z0l 12 h rfl (λ_ hw=>hb5_b.fr hw (λk_=>Own.neB hrow_b hb5_b (by decide) k_)) rfl na5 rfl λa h=>z2y 13 h wn rfl rfl (by first|exact IntWalk.u8_in _ (by omega)|rfl) rfl λa h=>z1k (p:=j) (tq0) 14 h rfl (show Sl z4c _ ka.TV m.ts from hM.t.out.sl) rfl y5d rfl λad97 hc97 a h=>z3e 15 h rfl (λ_ hw=>hc97 _ (z2a hM_b.t.out hw (z5t hrow_b (by decide))).sl) x2r rfl λa h=>z0t 16 h rfl (λ_ hw=>hb13_b.fr hw (λk_=>by have:=hrw0 _ k_;omega)) v5g rfl λa h=>z0d 17 rfl ?_
 refine z2o ([(⟨o.b,(m.ys.getD j yq0).nw,th,sn,ths,(m.ys.getD j yq0).pes⟩:LpQ)]) h (z0a rfl z0g) rfl rfl rfl x9b λg_100 w58 hg ho100 q58 hz a h=>?_
 have hn_.gk_100:ka.gk<g_100:=by have:=hk.lt;omega
 have hn__100:g5<g_100:=by have:=hb5.lt;omega
 have hn_3_100:g13<g_100:=by have:=hb13.lt;omega
 have z58:=q58.size
 replace hM:=hM.ext q58
 replace hth:=hth.ext q58
 replace hoM:=hoM.ext q58
 replace hrow:=hrow.ext q58
 replace hC:=hC.next q58
 refine z0b ?_
 refine z0d 18 rfl ?_
 have hoo101:=hrow
 refine z7b h rfl rfl hrow ho100.sl x9b rfl λv101 w59 hrow q59 hor101 a h=>?_
 have hMB:=hM
 have hlp:LpO τd wS.heap.size _ (⟨o.b,(m.ys.getD j yq0).nw,th,sn,ths,(m.ys.getD j yq0).pes⟩:LpQ):=⟨hth,hoM.low (by omega)⟩
 have hto:=z2a hM.t.out q59 (z5t hoo101 (by decide))
 have qap:=q59
 obtain ⟨AR,cR,rfl,_⟩:=hrow.sl.form
 have u3g:=hrow
 have z59:=q59.size
 replace hC:=hC.step q59 (λk_ h_ _=>h_)
 refine z0b ?_
 refine z0d 19 rfl ?_
 refine y9i (p:=j) (E:=z4c) h rfl rfl y5d (by omega) (by omega) (by omega) rfl λa h=>?_
 refine z0b ?_
 refine z0d 20 rfl ?_
 refine z1b (i:=j) (((AR,((m.ts.getD j tq0).2++[(⟨o.b,(m.ys.getD j yq0).nw,th,sn,ths,(m.ys.getD j yq0).pes⟩:LpQ)]).length,cR),((m.ts.getD j tq0).2++[(⟨o.b,(m.ys.getD j yq0).nw,th,sn,ths,(m.ys.getD j yq0).pes⟩:LpQ)])):TQ) h rfl rfl hto (by rw [hM.lt];exact hj) rfl j3r λw60 hto2 hq _hz a h=>?_
 replace hM:=hMB.row mtd (u:=(AR,((m.ts.getD j tq0).2++[(⟨o.b,(m.ys.getD j yq0).nw,th,sn,ths,(m.ys.getD j yq0).pes⟩:LpQ)]).length,cR)) hj hlp hthf u3g qap hor101 hto2 hq
 clear hq _hz
 refine z1o ?_
 refine z0r ?_
 clear hC hM_b hk_b hth_b hb5_b hoM_b hb13_b hrow_b
 refine bk (h.sub (L':=[]) .nil) (tn (sr (asg rfl (nn (rt (r1 results114 rfl ?_))))))
 exact ⟨_,rfl,MRet.ok (by unfold x4p;rw [hyp,if_neg (λe=>e hm0),if_neg (show ¬2048<=z4o m.p.tb by have:m.p.tb=z2c m.ts:=rfl;rw [this];omega)];exact congrArg Except.ok (j0n m j hjy hqp).symm) hM⟩
end Go.Proofs.YtpgdchkdlgkmgaaGreatDoor
