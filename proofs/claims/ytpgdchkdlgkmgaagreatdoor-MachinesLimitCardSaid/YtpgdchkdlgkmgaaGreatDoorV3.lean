/- Texts of the proof, joined. -/
import Derived.Test.YtpgdchkdlgkmgaaGreatDoorRows
import Derived.WalkSmall
import Derived.Test.YtpgdchkdlgkmgaaGreatDoorV2
set_option linter.unusedVariables false
set_option linter.unusedSimpArgs false
namespace Go.Proofs.YtpgdchkdlgkmgaaGreatDoor
open Go.Lw Go.G21 Go.G08 _root_.Go.Proofs.Tryz
theorem y6r:z0z prog 39 1 1:=λ_ _=>by kernel_rfl
theorem u8e:z2b prog 36:=λ_=>by kernel_rfl
theorem u8v:z2b prog 232:=λ_=>by kernel_rfl
theorem x7p (v:Value) (l:List LId) (w0:World) (hs:Sl z1h w0 v l) (hl:l.length<=100000):Rets prog 192 #[v] w0 λr w'=>∃A,r=.slice A l.length l.length/\Lw.Own z1h 87 w0.heap.size w' r l/\Fr [] w0 w':=by
 obtain ⟨A,c,rfl,hcc,hM,hA⟩:=id hs
 clear hA
 unfold maxLen at hM
 refine we [(0,.slice A l.length c)] func192 rfl ntmps192 rfl (.cons rfl .nil) ?_
 have hs0:=hs
 refine sr (asg rfl (nn (sr (mv rfl (lnS rfl underlying37 (z1e (m:=l.length) (c:=l.length) (id0) rfl rfl z5v y2s rfl (λg6 w1 hg6 ho q1 z1=>(asg rfl (nn (sr (mv rfl (mv rfl ?_))))))))))))
 replace hs:=hs0.ext q1
 refine z6z (zs:=List.replicate l.length id0) (by rw [List.length_replicate];rfl) rfl (by rw [List.length_replicate];exact ho) hs (by rw [List.length_replicate]) z5v (λw2 ho q2 z2=>?_)
 rw [List.length_replicate] at ho
 refine nn (sr (mv rfl (asg rfl (nn (rt (r1 results192 rfl ?_))))))
 exact ⟨_,rfl,some ⟨g6,0,none⟩,rfl,ho.low (by omega),(q1.z1 q2)⟩
theorem v4x (v:Value) (ts:List TQ) (w0:World) (hs:Sl z4c w0 v ts) (hk:TabAt w0 ts) (hl:ts.length=6) (hv:TabV (z2c ts)):Rets prog 137 #[v] w0 λr w'=>∃u,r=.tuple #[u,.int .i64 0]/\Fr [] w0 w':=by
 obtain ⟨A,c,rfl,hcc,hM,hA⟩:=id hs
 clear hA
 unfold maxLen at hM
 have hrl:=z4s hk
 have hcn:z4o (z2c ts)<=2048:=hv.ok.cnt
 refine we [(0,.slice A ts.length c)] func137 rfl ntmps137 rfl (.cons rfl .nil) ?_
 have hs0:=hs
 have hk0:=hk
 refine sr (asg rfl (asg rfl (nn (sq (sr (mv rfl (lnS rfl underlying35 (ne' rfl rfl (nn (cd rfl (λc0=>?_) (λc0=>?_)))))))))))
 ·refine sr (asg rfl (asg rfl (nn (rt (tr (r2 results137 rfl rfl ?_))))))
  exfalso;first|omega|exact absurd rfl (by assumption)|(simp_all;done)|(simp_all;omega)
 refine sk (tn (sq (sr (mv rfl (cl (ev1 rfl) (mkC func151) (y2q _ _ _ hs hk (by omega)) rfl ?_)))))
 rintro _ w1 ⟨rfl,q1⟩
 refine gt' rfl rfl (nn (cd rfl (λc1=>?_) (λc1=>?_)))
 ·refine sr (asg rfl (asg rfl (nn (rt (tr (r2 results137 rfl rfl ?_))))))
  exfalso;first|omega|exact absurd rfl (by assumption)|(simp_all;done)|(simp_all;omega)
 refine sk (tn (sq (sr (mv rfl ?_))))
 replace hs:=hs0.ext q1
 replace hk:=hk0.ext q1
 refine cl (ev1 rfl) (mkC func189) (v2f _ _ _ hs hk hl hv.ok) rfl ?_
 rintro _ w2 ⟨rfl,q2⟩
 refine asg rfl (nn (sr (mv rfl (ne' rfl rfl (nn (cd rfl (λc2=>?_) (λc2=>?_)))))))
 ·refine sr (mv rfl (asg rfl (asg rfl (nn (rt (tr (r2 results137 rfl rfl ?_)))))))
  exfalso;first|omega|exact absurd rfl (by assumption)|(simp_all;done)|(simp_all;omega)
 refine sk (tn (sq (sr (mv rfl ?_))))
 replace hs:=hs0.ext (q1.n1 q2)
 replace hk:=hk0.ext (q1.n1 q2)
 refine cl (ev1 rfl) (mkC func190) (u5t _ _ _ hs hk hl hv) rfl ?_
 rintro _ w3 ⟨rfl,q3⟩
 refine asg rfl (nn (sr (mv rfl (ne' rfl rfl (nn (cd rfl (λc3=>?_) (λc3=>?_)))))))
 ·refine sr (mv rfl (asg rfl (asg rfl (nn (rt (tr (r2 results137 rfl rfl ?_)))))))
  exfalso;first|omega|exact absurd rfl (by assumption)|(simp_all;done)|(simp_all;omega)
 refine sk (tn (sr (mv rfl ?_)))
 replace hs:=hs0.ext (q1.n2 q2 q3)
 replace hk:=hk0.ext (q1.n2 q2 q3)
 refine cl (ev1 rfl) (mkC func191) (v5w _ _ _ hs hk hl hv) rfl ?_
 rintro V24 w4 ⟨l,ho,hln,q4⟩
 obtain ⟨A24,c24,rfl,hc24⟩:=ho.sl.form
 refine asg rfl (nn (sq (sr (mv rfl (lnS rfl underlying37 (mv rfl ?_))))))
 replace hs:=hs0.ext (q1.n3 q2 q3 q4)
 replace hk:=hk0.ext (q1.n3 q2 q3 q4)
 refine cl (ev1 rfl) (mkC func151) (y2q _ _ _ hs hk (by omega)) rfl ?_
 rintro _ w5 ⟨rfl,q5⟩
 refine lt' rfl rfl (nn (cd rfl (λc4=>?_) (λc4=>?_)))
 ·refine sr (asg rfl (asg rfl (nn (rt (tr (r2 results137 rfl rfl ?_))))))
  exfalso;first|omega|exact absurd rfl (by assumption)|(simp_all;done)|(simp_all;omega)
 refine sk (tn (sr (mv rfl ?_)))
 replace ho:=ho.ext q5
 refine cl (ev1 rfl) (mkC func192) (x7p _ _ _ ho.sl (by omega)) rfl ?_
 rintro _ w6 ⟨A31,rfl,ho31,q6⟩
 refine asg rfl (asg rfl (nn (rt (r2 results137 rfl rfl ?_))))
 exact ⟨_,rfl,_,rfl,(q1.n5 q2 q3 q4 q5 q6)⟩
theorem u2r (v:Value) (ts:List TQ) (w0:World) (hs:Sl z4c w0 v ts) (hk:TabAt w0 ts) (hl:ts.length=6) (hv:TabV (z2c ts)):Rets prog 99 #[v] w0 λr w'=>r=.int .i64 0/\Fr [] w0 w':=by
 obtain ⟨A,c,rfl,hcc,hM,hA⟩:=id hs
 clear hA
 unfold maxLen at hM
 have hrl:=z4s hk
 refine we [(0,.slice A ts.length c)] func99 rfl ntmps99 rfl (.cons rfl .nil) ?_
 have hs0:=hs
 have hk0:=hk
 refine sr (asg rfl (nn (sr (mv rfl (cl (ev1 rfl) (mkC func137) (v4x _ _ _ hs hk hl hv) rfl ?_)))))
 rintro _ w1 ⟨v7,rfl,q1⟩
 refine mv rfl (xt rfl rfl (xt rfl rfl (asg rfl (asg rfl (kpL [(4,_)] (.cons rfl .nil) (nn (sr (mv rfl (asg rfl (nn (rt (r1 results99 rfl ?_))))))))))))
 exact ⟨_,rfl,rfl,q1⟩
theorem u5v (gp g:Nat) (p:List LId) (A:Option Addr) (m c:Nat) (w0:World) (hm0:m=0) (hbp:Blk w0 gp 232 [.map (some g)]) (hm:MapZ idV w0 g (.int .i64 0) (y7b p)):Rets prog 139 #[.slice A m c,.pointer (some ⟨gp,0,none⟩)] w0 λr w'=>MapZ idV w' g (.int .i64 0) (y7b p)/\Fr [g] w0 w':=by
 refine we [(0,.slice A m c),(1,.pointer (some ⟨gp,0,none⟩))] func139 rfl ntmps139 rfl (.c2 rfl rfl) (sr (mv rfl (lnS rfl underlying37 (mv rfl (nn (bl ?_))))))
 refine lpK (ι:=Nat) [(1,_),(5,_),(6,_)] (λk=>[(7,.int .i64 (k:Int))]) (λk w'=>Fr [] w0 w'/\k<=m) (λk=>m-k) 0 (.c4 rfl rfl rfl rfl) ⟨Fr.refl _ _,Nat.zero_le _⟩ ?_
 rintro k w1 ⟨q1,hi⟩
 refine kpC [(1,_),(5,_),(6,_),(7,_)] (.c4 rfl rfl rfl rfl) (sr (lt' rfl rfl ?_))
 rw [show decide ((k:Int)<(m:Int))=false from decide_eq_false (by omega)]
 refine nn (sq (cf rfl (ex (te (te (xh (r0n results139  ?_)))))))
 exact ⟨_,rfl,hm.ext q1,(Fr.refl [g] _).next q1⟩
theorem u3s (gp g:Nat) (p:List LId) (v:Value) (l:List LId) (w0:World) (hs:Sl z1h w0 v l) (hbp:Blk w0 gp 232 [.map (some g)]) (hm:MapZ idV w0 g (.int .i64 0) (y7b p)) (hgv:g∉z0v v) (hcb:∀k,k<l.length->(p++l.take k).count (l.getD k id0)<=100000):Rets prog 139 #[v,.pointer (some ⟨gp,0,none⟩)] w0 λr w'=>MapZ idV w' g (.int .i64 0) (y7b (p++l))/\Fr [g] w0 w':=by
 obtain ⟨A,c,rfl,hcc,hM,hA⟩:=id hs
 clear hA
 unfold maxLen at hM
 have hne0:=hm.ne_blk hbp
 have hgl:=hbp.lt
 have hgl2:=hm.lt
 refine we [(0,.slice A l.length c),(1,.pointer (some ⟨gp,0,none⟩))] func139 rfl ntmps139 rfl (.c2 rfl rfl) ?_
 have hs0:=hs
 refine sr (mv rfl (lnS rfl underlying37 (mv rfl (nn (bl ?_)))))
 refine lpK (ι:=Nat) [(1,_),(5,_),(6,_)] (λk=>[(7,.int .i64 (k:Int))]) (λk w'=>Fr [g] w0 w'/\k<=l.length/\MapZ idV w' g (.int .i64 0) (y7b (p++l.take k))) (λk=>l.length-k) 0 (.c4 rfl rfl rfl rfl) ⟨Fr.refl _ _,⟨Nat.zero_le _,by rw [List.take_zero,List.append_nil];exact hm⟩⟩ ?_
 rintro k w1 ⟨q1,⟨hk,hm⟩⟩
 have z1:=q1.size
 refine kpC [(1,_),(5,_),(6,_),(7,_)] (.c4 rfl rfl rfl rfl) (sr (lt' rfl rfl (nn (sq (cd rfl (λc0=>?_) (λc0=>?_))))))
 ·have hcb1:=hcb k (by omega)
  refine sk (tn (sq (bl (sr ?_))))
  replace hs:=hs0.fr ((Fr.refl [g] _).z1 q1) (by intro k_ hk_ hb_;rw [List.mem_singleton.1 hk_] at hb_;exact hgv hb_)
  refine z1a (id0) rfl hs rfl z5v z1f (λad9 hc9=>?_)
  refine z1j rfl (hc9 _ hs) z3g (al y2s rfl rfl (λg4 w2 hg4 hb4 q2 z2=>?_))
  refine z0j (vs:=[_,_]) rfl rfl hb4 y1n (λw3 hb4 q3 z3=>?_) (h1:=(by first|(simp [Value.oneCell',S];done)|exact z1h.one _))
  refine nn ?_
  replace hbp:=((hbp.fr q1 (by intro e;simp at e;omega)).ext q2).fr q3 (by intro e;simp at e;omega)
  replace hm:=(hm.ext q2).fr q3 (by intro k hk hb;simp at hk hb;omega)
  intro a h
  refine z0h none (λwb w'=>Fr [g] wb w') z2r ?_;intro w4 q4
  have z4:=q4.size
  replace hbp:=hbp.ext q4
  replace hm:=hm.ext q4
  replace hb4:=hb4.ext q4
  have hC:Fr [g] w4 w4:=Fr.refl _ _
  have hbp_b:=hbp
  have hm_b:=hm
  have hb4_b:=hb4
  refine y4x 0 hC h wn rfl (λ_ hw=>hbp_b.fr hw (by intro e;simp at e;omega)) u8v rfl rfl λa h=>z0t 1 h rfl (λ_ hw=>hb4_b.fr hw (by intro e;simp at e;omega)) z3g rfl λa h=>z2d 2 4 (by kernel_rfl) rfl rfl ?_ ?_
  ·refine z7c (V:=idV) (z:=(.int .i64 0)) (k:=(l.getD k id0)) (v:=.int .i64 ((((p++l.take k)).count (l.getD k id0):Nat):Int)) h rfl rfl hm z5n underlying232 zvI rfl rfl λa h=>?_
   refine z0b ?_
   refine z5i 3 h rfl rfl (by first|exact i6 (by omega)|rfl) rfl λa h=>z0d 4 rfl ?_
   have hne:=hm.ne_blk hb4
   refine z6f (V:=idV) (z:=(.int .i64 0)) (k:=(l.getD k id0)) h rfl rfl hm z5n underlying232 zvI rfl λw5 st5 he q5 z5 a h=>?_
   replace hm:=he.map
   replace hb4:=hb4.fr q5 (by intro e;simp at e;omega)
   replace hbp:=hbp.fr q5 (by intro e;simp at e;omega)
   replace hC:=hC.step q5 (by simp)
   refine z0b ?_
   refine z0k 5 h rfl rfl rfl λa h=>z0d 6 rfl ?_
   refine z4w (V:=idV) (z:=(.int .i64 0)) (k:=(l.getD k id0)) h rfl rfl rfl he ?_;clear h a he hm;intro w6 hm q6 z6 a h
   replace hm:MapZ idV w6 g (.int .i64 0) (y7b ((p++l.take k)++[(l.getD k id0)])):=by rw [<-y7z];exact hm
   replace hb4:=hb4.fr q6 (by intro e;simp at e;omega)
   replace hbp:=hbp.fr q6 (by intro e;simp at e;omega)
   replace hC:=hC.step q6 (by simp)
   refine z0b ?_
   refine z0r ?_
   clear hC hbp_b hm_b hb4_b
   refine bk (h.sub (L':=[(1,_),(5,_),(6,_),(7,_)]) (.c4 rfl rfl rfl rfl)) (bn' (tn (rg (z0y rfl rfl (wi6 (by omega)) (mv rfl (nl ?_))))))
   exact lpE (k+1) (.c4 rfl rfl rfl rfl) ⟨((Fr.refl [g] _).z6 q1 q2 q3 q4 q5 q6),⟨by omega,by rw [z5x id0 (by omega),<-List.append_assoc];exact hm⟩⟩ (by omega)
  have hne:=hm.ne_blk hb4
  refine z6f (V:=idV) (z:=(.int .i64 0)) (k:=(l.getD k id0)) h rfl rfl hm z5n underlying232 zvI rfl λw7 st7 he q7 z7 a h=>?_
  replace hm:=he.map
  replace hb4:=hb4.fr q7 (by intro e;simp at e;omega)
  replace hbp:=hbp.fr q7 (by intro e;simp at e;omega)
  replace hC:=hC.step q7 (by simp)
  refine z0b ?_
  refine z0k 5 h rfl rfl rfl λa h=>z0d 2 rfl ?_
  refine z7c (V:=idV) (z:=(.int .i64 0)) (k:=(l.getD k id0)) (v:=.int .i64 ((((p++l.take k)).count (l.getD k id0):Nat):Int)) h rfl rfl hm z5n underlying232 zvI rfl rfl λa h=>?_
  refine z0b ?_
  refine z5i 3 h rfl rfl (by first|exact i6 (by omega)|rfl) rfl λa h=>z0d 6 rfl ?_
  refine z4w (V:=idV) (z:=(.int .i64 0)) (k:=(l.getD k id0)) h rfl rfl rfl he ?_;clear h a he hm;intro w8 hm q8 z8 a h
  replace hm:MapZ idV w8 g (.int .i64 0) (y7b ((p++l.take k)++[(l.getD k id0)])):=by rw [<-y7z];exact hm
  replace hb4:=hb4.fr q8 (by intro e;simp at e;omega)
  replace hbp:=hbp.fr q8 (by intro e;simp at e;omega)
  replace hC:=hC.step q8 (by simp)
  refine z0b ?_
  refine z0r ?_
  clear hC hbp_b hm_b hb4_b
  refine bk (h.sub (L':=[(1,_),(5,_),(6,_),(7,_)]) (.c4 rfl rfl rfl rfl)) (bn' (tn (rg (z0y rfl rfl (wi6 (by omega)) (mv rfl (nl ?_))))))
  exact lpE (k+1) (.c4 rfl rfl rfl rfl) ⟨((Fr.refl [g] _).z6 q1 q2 q3 q4 q7 q8),⟨by omega,by rw [z5x id0 (by omega),<-List.append_assoc];exact hm⟩⟩ (by omega)
 obtain rfl:k=l.length:=by omega
 rw [List.take_length] at hm
 refine ex (te (te (xh (r0n results139  ?_))))
 exact ⟨_,rfl,hm,((Fr.refl [g] _).z1 q1)⟩
theorem x4c (gp g:Nat) (p:List LId) (v:Value) (l:List LId) (wS w0:World) (hS:Sl z1h wS v l) (hg:wS.heap.size<=g) (hs:Sl z1h w0 v l) (hbp:Blk w0 gp 232 [.map (some g)]) (hm:MapZ idV w0 g (.int .i64 0) (y7b p)) (hcb:∀k,k<l.length->(p++l.take k).count (l.getD k id0)<=100000):Rets prog 139 #[v,.pointer (some ⟨gp,0,none⟩)] w0 λr w'=>MapZ idV w' g (.int .i64 0) (y7b (p++l))/\Fr [g] w0 w':=by
 by_cases e:l=[]
 ·subst e
  obtain ⟨A,c,rfl,_⟩:=hs.form
  rw [List.append_nil]
  exact u5v gp g p A _ c w0 rfl hbp hm
 exact u3s gp g p v l w0 hs hbp hm (λh=>by have:=hS.blk e g h;omega) hcb
def hfv (q:FbQ) (z:Nat):SV:=if z=0 then q.h else q.f
def hfl (q:FbQ) (z:Nat):List LId:=if z=0 then q.hs else q.fs
theorem v7o {q:FbQ} {w:World} (h:FbAt w q) (z:Nat):Sl z1h w (slv (hfv q z)) (hfl q z):=by
 unfold hfv hfl;split
 ·exact h.h
 exact h.f
theorem j1r {q:FbQ} (z:Nat) {i:LId} (h:i∈hfl q z):i∈q.hs++q.fs:=by
 unfold hfl at h;split at h
 ·exact List.mem_append_left _ h
 exact List.mem_append_right _ h
theorem j5c {q:FbQ} {z:Nat} (h:z<2):[Value.slice q.h.1 q.h.2.1 q.h.2.2,.slice q.f.1 q.f.2.1 q.f.2.2][(z:Int).toNat]?=some (.slice (hfv q z).1 (hfv q z).2.1 (hfv q z).2.2):=by
 obtain rfl|rfl:z=0\/z=1:=by omega
 ·rfl
 rfl
theorem x9a:z3p prog 39 4:=⟨λ_=>by kernel_rfl,λ_=>by kernel_rfl⟩
theorem j4d:BuildAt prog 231 [(0,1),(1,1)] [(.slice none 0 0),(.slice none 0 0)]:=BuildAt.array (sz:=1) underlying231 (λ_=>by kernel_rfl) (λ_=>by kernel_rfl) (λi q h=>by match i,h with|0,h=>simpa using h.symm|1,h=>simpa using h.symm|(k+2),h=>simp at h)
theorem z8l:z0z prog 39 0 0:=λ_ _=>by kernel_rfl
theorem y6b:z0z prog 39 2 2:=λ_ _=>by kernel_rfl
theorem z9v:z0z prog 39 3 3:=λ_ _=>by kernel_rfl
theorem x1r:z2b prog 35:=λ_=>by kernel_rfl
theorem u2g:z1q prog 37 1:=λ_=>by kernel_rfl
theorem j3z:z1q prog 232 1:=λ_=>by kernel_rfl
theorem j3m (w:World):(zeroValue 232).run prog w=.ok (.map none) w:=by kernel_rfl
theorem y9k:z1q prog 24 2:=λ_=>by kernel_rfl
theorem v6o (w:World):(zeroValue 24).run prog w=.ok (.agg #[(.int .u8 0),(.int .i64 0)]) w:=by kernel_rfl
theorem x1g (r:Int) (w0:World):Rets prog 152 #[.int .i64 r] w0 λv w'=>v=.bool (decide (-4<=r/\r<=4))/\Fr [] w0 w':=by
 refine we [(0,.int .i64 r)] func152 rfl ntmps152 rfl (.cons rfl .nil) (sr (asg rfl (nn (sq ?_))))
 refine rbo (r:=2) (L':=[]) (((-4<=r)/\(r<=4))) .nil ?_ ?_
 ·refine mv rfl (ge' rfl rfl (mv rfl (gs 5 rfl (λg0=>?_) (λg0=>?_))))
  ·exact gY rfl (mv rfl (gY rfl (le' rfl rfl rfl (pkt rfl rfl (asg rfl (rbe rfl .nil))))))
  exact gN rfl rfl (gN rfl rfl (pkf rfl rfl (asg rfl (rbe rfl .nil))))
 refine tn (rt (r1 results152 rfl ?_))
 exact ⟨_,rfl,rfl,(Fr.refl _ _)⟩
theorem z8s (b p r:Int) (w0:World) (hp:-9223372036854775808<=p/\p<=9223372036854775807):Rets prog 116 #[.agg #[.int .u8 b,.int .i64 p],.int .i64 r] w0 λv w'=>v=.int .i64 (z2q b p r)/\Fr [] w0 w':=by
 refine we [(0,.agg #[.int .u8 b,.int .i64 p]),(1,.int .i64 r)] func116 rfl ntmps116 rfl (.c2 rfl rfl) (sr (bx rfl rfl rfl (λg2 w1 hg2 hb2 q1 z1=>(asg rfl (nn (sq (sq ?_)))))))
 refine x8z (r:=12) (L':=[(1,_),(2,_)]) ((((z3d b p)≠0)\/(¬(-4<=r/\r<=4)))) (.c2 rfl rfl) ?_ ?_
 ·refine z0n rfl hb2 z4v (cl (ev1 rfl) v9e (z4k _ _ _) rfl ?_)
  rintro _ w2 ⟨rfl,q2⟩
  refine ne' rfl rfl (mv rfl (gs 8 rfl (λg0=>?_) (λg0=>?_)))
  ·exact gN rfl rfl (gN rfl rfl (gN rfl rfl (pkt rfl rfl (y0k rfl (.c2 rfl rfl) q2))))
  refine gY rfl (mv rfl (gY rfl (cl (ev1 rfl) (mkC func152) (x1g _ _) rfl ?_)))
  rintro _ w3 ⟨rfl,q3⟩
  exact gY rfl (nt' rfl (pkf rfl rfl (y0k rfl (.c2 rfl rfl) (q2.n1 q3))))
 intro w4 q4;have z4:=q4.size
 refine tn (cd rfl (λc0=>?_) (λc0=>?_))
 ·refine sr (asg rfl (nn (rt (tr (r1 results116 rfl ?_)))))
  exact ⟨_,rfl,by rw [z2q,if_pos c0],(q1.n1 q4)⟩
 have hnc:z3d b p=0:=Classical.not_not.1 (λe=>c0 (.inl e))
 have hrr:-4<=r/\r<=4:=Classical.not_not.1 (λe=>c0 (.inr e))
 have hbp:=z2v hnc
 refine sk (tn (sq (sr (fad rfl z6e ?_))))
 replace hb2:=hb2.ext q4
 refine z0i rfl hb2 rfl x4n (eq' rfl rfl (nn (cd rfl (λc1=>?_) (λc1=>?_))))
 ·refine sr (fad rfl z6i (z0i rfl hb2 rfl na3 (x4g rfl rfl (wi6 (by omega)) rfl (z0y rfl rfl (wi6 (by omega)) (asg rfl (kpL [(4,_)] (.cons rfl .nil) (nn (rt (tr (r1 results116 rfl ?_))))))))))
  exact ⟨_,rfl,by rw [z2q,if_neg c0,if_pos c1],(q1.n1 q4)⟩
 refine sk (tn (sr (fad rfl z6i (z0i rfl hb2 rfl na3 (mv rfl (z0y rfl rfl (wi6 (by omega)) (x4g rfl rfl (wi6 (by omega)) rfl (asg rfl (kpL [(4,_)] (.cons rfl .nil) (nn (rt (r1 results116 rfl ?_))))))))))))
 exact ⟨_,rfl,by rw [z2q,if_neg c0,if_neg c1],(q1.n1 q4)⟩
theorem y5b:ElemOf prog 30 37 z6r 24:=ElemOf.mk' (z:=(.slice none 0 0)) underlying30 (by kernel_rfl) rfl
theorem j3u (w:World):(zeroValue 37).run prog w=.ok (.slice none 0 0) w:=by kernel_rfl
theorem y7y (v:Value) (l:List LId) (w0:World) (hs:Sl z1h w0 v l) (hl:l.length<=100000):Rets prog 59 #[v] w0 λr w'=>∃g,r=.slice (some ⟨g,0,none⟩) l.length l.length/\w0.heap.size<=g/\Lw.Own z1h 87 w0.heap.size w' r l/\Fr [] w0 w':=by
 obtain ⟨A,c,rfl,hcc,hM,hA⟩:=id hs
 clear hA
 unfold maxLen at hM
 refine we [(0,.slice A l.length c)] func59 rfl ntmps59 rfl (.cons rfl .nil) ?_
 have hs0:=hs
 refine sr (asg rfl (nn (sr (mv rfl (lnS rfl underlying37 (z1e (m:=l.length) (c:=l.length) (id0) rfl rfl z5v y2s rfl (λg6 w1 hg6 ho q1 z1=>(asg rfl (nn (sr (mv rfl (mv rfl ?_))))))))))))
 replace hs:=hs0.ext q1
 refine z6z (zs:=List.replicate l.length id0) (by rw [List.length_replicate];rfl) rfl (by rw [List.length_replicate];exact ho) hs (by rw [List.length_replicate]) z5v (λw2 ho q2 z2=>?_)
 rw [List.length_replicate] at ho
 refine nn (sr (mv rfl (asg rfl (nn (rt (r1 results59 rfl ?_))))))
 exact ⟨_,rfl,g6,rfl,by omega,ho.low (by omega),(q1.z1 q2)⟩
theorem u2o (v:Value) (l:List IQ) (w0:World) (hs:Sl z6r w0 v l) (hl:l.length<=100000):Rets prog 233 #[v] w0 λr w'=>∃g,r=.slice (some ⟨g,0,none⟩) l.length l.length/\w0.heap.size<=g/\Lw.Own z6r 37 w0.heap.size w' r l/\Fr [] w0 w':=by
 obtain ⟨A,c,rfl,hcc,hM,hA⟩:=id hs
 clear hA
 unfold maxLen at hM
 refine we [(0,.slice A l.length c)] func233 rfl ntmps233 rfl (.cons rfl .nil) ?_
 have hs0:=hs
 refine sr (asg rfl (nn (sr (mv rfl (lnS rfl underlying30 (z1e (m:=l.length) (c:=l.length) (iq0) rfl rfl y5b j3u rfl (λg6 w1 hg6 ho q1 z1=>(asg rfl (nn (sr (mv rfl (mv rfl ?_))))))))))))
 replace hs:=hs0.ext q1
 refine z6z (zs:=List.replicate l.length iq0) (by rw [List.length_replicate];rfl) rfl (by rw [List.length_replicate];exact ho) hs (by rw [List.length_replicate]) y5b (λw2 ho q2 z2=>?_)
 rw [List.length_replicate] at ho
 refine nn (sr (mv rfl (asg rfl (nn (rt (r1 results233 rfl ?_))))))
 exact ⟨_,rfl,g6,rfl,by omega,ho.low (by omega),(q1.z1 q2)⟩
theorem v6l (v:Value) (qs:List IQ) (w0:World) (hs:Sl z6r w0 v qs) (hk:IqAt w0 qs):Rets prog 105 #[v] w0 λr w'=>∃n:Nat,r=.int .i64 (n:Int)/\n<=qs.length/\(plB qs).take n=trimB (plB qs)/\Fr [] w0 w':=by
 obtain ⟨A,c,rfl,hcc,hM,hA⟩:=id hs
 clear hA
 unfold maxLen at hM
 refine we [(0,.slice A qs.length c)] func105 rfl ntmps105 rfl (.cons rfl .nil) ?_
 have hs0:=hs
 have hk0:=hk
 refine sr (asg rfl (nn (sr (mv rfl (lnS rfl underlying30 (asg rfl (nn (sq (bl ?_)))))))))
 refine lpK (ι:=Nat) [(0,_)] (λn=>[(3,.int .i64 (n:Int))]) (λn w'=>Fr [] w0 w'/\n<=qs.length/\∀j,n<=j->(qs.getD j iq0).2=[]) (λn=>n) qs.length (.c2 rfl rfl) ⟨Fr.refl _ _,⟨Nat.le_refl _,λj hj=>x7g hj⟩⟩ ?_
 rintro n w1 ⟨q1,⟨hn,hem⟩⟩
 refine kpC [(0,_),(3,_)] (.c2 rfl rfl) ?_
 have hql:=z1s (z1z hk0 (n-1))
 refine sq (sq ?_)
 refine rbo (r:=16) (L':=[(0,_),(3,_)]) (((0<(n:Int))/\(((qs.getD (n-1) iq0).1.2.1:Int)=0))) (.c2 rfl rfl) ?_ ?_
 ·refine mv rfl (gt' rfl rfl (mv rfl (gs 8 rfl (λg0=>?_) (λg0=>?_))))
  ·refine gY rfl (mv rfl (gY rfl (mv rfl (gY rfl (z2u rfl rfl (wi6 (by omega)) (gY rfl ?_))))))
   replace hs:=hs0.ext q1
   refine z1a (p:=n-1) (iq0) rfl hs rfl y5b (by omega) (λad12 hc12=>?_)
   exact gY rfl (z1i rfl (hc12 _ hs) z6t (gY rfl (lnS rfl underlying37 (gY rfl (eq' rfl rfl (pkt rfl rfl (rbe rfl (.c2 rfl rfl))))))))
  exact gN rfl rfl (gN rfl rfl (gN rfl rfl (gN rfl rfl (gN rfl rfl (gN rfl rfl (gN rfl rfl (pkf rfl rfl (rbe rfl (.c2 rfl rfl)))))))))
 refine tn (cd rfl (λc0=>?_) (λc0=>?_))
 ·refine sk (tn (bl (rg (mv rfl (z2u rfl rfl (wi6 (by omega)) (asg rfl (nl (bn' ?_))))))))
  exact lpE (n-1) (.c2 rfl (congrArg (λz=>some (Value.int .i64 z)) (show (n:Int)-1=((n-1:Nat):Int) by omega))) ⟨q1,⟨by omega,λj hj=>by
   by_cases e:n<=j
   ·exact hem j e
   obtain rfl:j=n-1:=by omega
   exact List.eq_nil_of_length_eq_zero (by omega)⟩⟩ (by omega)
 refine ex (te (te (xh (tn (sr (mv rfl (asg rfl (nn (rt (r1 results105 rfl ?_))))))))))
 exact ⟨_,rfl,n,rfl,hn,y1m _ _ (by rw [List.length_map];exact hn) (λj hj=>by rw [z3x];exact hem j hj) (by
  by_cases e:n=0
  ·exact .inl e
  refine .inr λh=>c0 ⟨by omega,?_⟩
  rw [z3x] at h
  rw [h] at hql
  rw [hql];rfl),q1⟩
set_option maxHeartbeats 2000000 in
theorem x6g (v u:Value) (qs:List IQ) (n:Nat) (s:List LId) (w0:World) (hs:Sl z6r w0 v qs) (hk:IqAt w0 qs) (hu:Sl z1h w0 u s) (hl:qs.length<=40) (hn:n<=40) (h4:z9q qs) (hs4:s.length<=4):Rets prog 203 #[v,.int .i64 (n:Int),u] w0 λr w'=>(∃fs,RwO 37 87 w0.heap.size w' r fs/\plB fs=y2j (plB qs) n s/\∃g,r=.slice (some ⟨g,0,none⟩) fs.length fs.length)/\Fr [] w0 w':=by
 obtain ⟨A,c,rfl,hcc,hM,hA⟩:=id hs
 clear hA
 unfold maxLen at hM
 obtain ⟨B,e,rfl,heB⟩:=id hu.form
 obtain ⟨M,hMx⟩:∃M,M=max qs.length n:=⟨_,rfl⟩
 have hm1:max (qs.length:Int) (n:Int)=(M:Int):=by omega
 refine we [(0,.slice A qs.length c),(1,.int .i64 (n:Int)),(2,.slice B s.length e)] func203 rfl ntmps203 rfl (.c3 rfl rfl rfl) ?_
 have hs0:=hs
 have hk0:=hk
 have hu0:=hu
 refine sr (asg rfl (nn (sr (mv rfl (lnS rfl underlying30 (mv rfl (j3w rfl rfl rfl ?_)))))))
 rw [hm1]
 refine z1e (m:=M) (c:=M) (iq0) rfl rfl y5b j3u rfl (λg14 w1 hg14 ho q1 z1=>(asg rfl (nn (sr (mv rfl (mv rfl ?_))))))
 replace hs:=hs0.ext q1
 refine u7e (p:=0) (k:=qs.length) (m:=M) (cap:=M) (by rw [Nat.zero_mul,z3l];rfl) rfl ho hs (Nat.zero_le _) (by omega) y5b rfl (λw2 ho q2 z2=>?_)
 replace ho:Lw.Own z6r 37 g14 w2 (.slice (some ⟨g14,0,none⟩) M M) (qs++List.replicate (M-qs.length) iq0):=by simpa using ho
 refine nn ?_
 refine jn (ι:=List IQ) [(7,_)] (λp=>[]) (λp w'=>Fr [g14] w2 w'/\Lw.Own z6r 37 w0.heap.size w' (.slice (some ⟨g14,0,none⟩) M M) p/\plB p=(if n=0 then plB qs else (y9x (plB qs) n).set (n-1) s)/\IqAt w' p/\z9q p) (.cons rfl .nil) ?_ ?_
 ·refine sr (mv rfl (gt' rfl rfl (nn (cd rfl (λc0=>?_) (λc0=>?_)))))
  ·refine rg (mv rfl (mv rfl (z2u rfl rfl (wi6 (by omega)) (mv rfl (z8r (p:=n-1) (E:=z6r) rfl rfl y5b ?_)))))
   refine z5b (i:=n-1) ((((B,s.length,e),s):IQ)) rfl rfl ho (by rw [List.length_append,List.length_replicate];omega) rfl u2g (λw3 ho q3 z3=>?_)
   refine kpL [(7,_)] (.cons rfl .nil) (nl ?_)
   replace hk:=hk0.ext (q1.z2 q2 q3)
   replace hu:=hu0.ext (q1.z2 q2 q3)
   exact jE (_) (.cons rfl .nil) ⟨((Fr.refl [g14] _).z1 q3),⟨ho.low (by omega),u6m (by omega) hMx,v6t (x7l hk) hu,v7s (x5q h4) hs4⟩⟩
  refine sk ?_
  replace hk:=hk0.ext (q1.z1 q2)
  exact jE (_) (.cons rfl .nil) ⟨(Fr.refl _ _),⟨ho.low (by omega),v7i (by omega) hMx,x7l hk,x5q h4⟩⟩
 rintro rs w4 ⟨q4,⟨ho,hpl,hrk,hr4⟩⟩
 have z4:=q4.size
 have hrk0:=hrk
 refine kpC [(7,_)] (.cons rfl .nil) ?_
 have hrl:rs.length=M:=by have:=congrArg List.length hpl;split at this<;>simp only [plB,List.length_map,List.length_set,y7w] at this<;>omega
 refine sr (mv rfl (mv rfl (cl (ev1 rfl) (mkC func105) (v6l _ rs _ ho.sl hrk) rfl ?_)))
 rintro _ w5 ⟨m,rfl,hmr,hmt,q5⟩
 have z5:=q5.size
 obtain ⟨ls,hls⟩:∃x,x=rs.take m:=⟨_,rfl⟩
 refine j0t (p:=m) rfl rfl y5b (by omega) (by omega) (by omega) rfl ?_
 replace ho:=ho.ext q5
 refine cl (ev1 rfl) (mkC func233) (u2o _ ls _ (by rw [hls];exact ho.sl.take rfl hmr (by omega) (by unfold maxLen;omega) (λ_=>rfl)) (by rw [hls,List.length_take];omega)) rfl ?_
 rintro _ w6 ⟨g29,rfl,hg29,hN,q6⟩
 have z6:=q6.size
 have hll:ls.length<=40:=by rw [hls,List.length_take];omega
 have hl4:z9q ls:=λq hq=>hr4 q (List.mem_of_mem_take (hls▸hq))
 have hgN:=(hN.blk g29 (by simp [z0v])).2
 refine asg rfl (nn (sq (sr (mv rfl (lnS rfl underlying30 (mv rfl (nn (bl ?_))))))))
 refine lpK (ι:=Nat×List IQ) [(7,_),(30,_),(31,_)] (λp=>[(32,.int .i64 (p.1:Int))]) (λp w'=>Fr [g29] w6 w'/\p.1<=ls.length/\Lw.Own z6r 37 w0.heap.size w' (.slice (some ⟨g29,0,none⟩) ls.length ls.length) p.2/\plB p.2=plB ls/\(∀j,p.1<=j->p.2.getD j iq0=ls.getD j iq0)/\PreO 87 (g29+1) w' p.2 p.1) (λp=>ls.length-p.1) (0,ls) (.c4 rfl rfl rfl rfl) ⟨Fr.refl _ _,⟨Nat.zero_le _,hN.low (by omega),rfl,λ_ _=>rfl,PreO.zero⟩⟩ ?_
 rintro ⟨i,ps⟩ w7 ⟨q7,⟨hi,hN,hpp,hpe,hpo⟩⟩
 simp only at hi hN hpp hpe hpo
 have z7:=q7.size
 refine kpC [(7,_),(30,_),(31,_),(32,.int .i64 (i:Int))] (.c4 rfl rfl rfl rfl) ?_
 have hpl2:ps.length=ls.length:=by have:=congrArg List.length hpp;simpa using this
 refine sr (lt' rfl rfl (nn (sq (cd rfl (λc1=>?_) (λc1=>?_)))))
 ·refine sk (tn (sq (bl (sr (mv rfl (z1a (iq0) rfl hN.sl rfl y5b z1f (λad35 hc35=>?_)))))))
  refine z1i rfl (hc35 _ hN.sl) z6t (asg rfl (asg rfl (nn (rg (mv rfl (mv rfl (mv rfl ?_)))))))
  replace hrk:=hrk0.ext (q5.z2 q6 q7)
  refine cl (ev1 rfl) (mkC func59) (y7y _ (ps.getD i iq0).2 _ (by rw [hpe i (Nat.le_refl _)];exact z1z (v1q hls hrk) i) (by have:=z3h (u2e hl4 hpp) i;omega)) rfl ?_
  rintro _ w8 ⟨g40,rfl,hg40,hX,q8⟩
  have z8:=q8.size
  replace hN:=hN.ext q8
  refine z8r (p:=i) (E:=z6r) rfl rfl y5b (z5b (i:=i) ((((some ⟨g40,0,none⟩,(ps.getD i iq0).2.length,(ps.getD i iq0).2.length),(ps.getD i iq0).2):IQ)) rfl rfl hN (by omega) rfl u2g (λw9 hN q9 z9=>(kpL [(7,_),(30,_),(31,_),(32,_)] (.c4 rfl rfl rfl rfl) (nl (bn' (tn (rg (z0y rfl rfl (wi6 (by omega)) (mv rfl (nl ?_))))))))))
  replace hpo:=(hpo.ext q8).fr q9 (by intro k hk;simp at hk;omega)
  replace hX:=hX.fr q9 (by intro k hk hb;simp [z0v] at hk hb;omega)
  exact lpE ((i+1,_)) (.c4 rfl rfl rfl rfl) ⟨((Fr.refl [g29] _).z3 q7 q8 q9),⟨by simp only;omega,hN,(u2j (by rfl)).trans hpp,v6z hpe (by omega),hpo.put (by omega) (hX.low (by omega))⟩⟩ (by simp only;omega)
 obtain rfl:i=ls.length:=by omega
 refine ex (te (te (xh (tn (sr (mv rfl (asg rfl (kpL [(6,_)] (.cons rfl .nil) (nn (rt (r1 results203 rfl ?_)))))))))))
 exact ⟨_,rfl,⟨ps,⟨hN,(hpl2▸hpo).all (by omega)⟩,hpp.trans (u2z hls hmt hpl),g29,by rw [hpl2]⟩,(q1.z5 q2 q4 q5 q6 q7)⟩
theorem z5k:z3p prog 32 2:=⟨λ_=>by kernel_rfl,λ_=>by kernel_rfl⟩
theorem u8b:BuildAt prog 32 [(0,1),(1,1)] [(.slice none 0 0),(.slice none 0 0)]:=BuildAt.struct underlying32 (λ_=>by kernel_rfl) (λ_=>by kernel_rfl)
theorem y6o:z0z prog 32 0 0:=λ_ _=>by kernel_rfl
theorem y2k:z0z prog 32 1 1:=λ_ _=>by kernel_rfl
theorem x5f:z2b prog 30:=λ_=>by kernel_rfl
theorem y9r:z1q prog 32 2:=λ_=>by kernel_rfl
theorem x4m (w:World):(zeroValue 32).run prog w=.ok (.agg #[(.slice none 0 0),(.slice none 0 0)]) w:=by kernel_rfl
set_option maxHeartbeats 1000000 in
theorem y4s (q:BdQ) (b:Int) (n:Nat) (u:Value) (s:List LId) (w0:World) (hB:BdAt w0 q) (hu:Sl z1h w0 u s) (hn:z3d b (n:Int)=0) (hf:q.fs.length<=40) (hb:q.bs.length<=40) (h4:z9q q.fs) (h4b:z9q q.bs) (hs4:s.length<=4):Rets prog 153 #[.agg #[.slice q.f.1 q.f.2.1 q.f.2.2,.slice q.b.1 q.b.2.1 q.b.2.2],.agg #[.int .u8 b,.int .i64 (n:Int)],u] w0 λr w'=>(∃q':BdQ,r=.agg (bdL q').toArray/\BdO 37 87 w0.heap.size w' q'/\q'.p=q.p.put b (n:Int) s)/\Fr [] w0 w':=by
 have hbp:=z2v hn
 obtain ⟨U,e,rfl,heB⟩:=id hu.form
 refine we [(0,.agg #[.slice q.f.1 q.f.2.1 q.f.2.2,.slice q.b.1 q.b.2.1 q.b.2.2]),(1,.agg #[.int .u8 b,.int .i64 (n:Int)]),(2,.slice U s.length e)] func153 rfl ntmps153 rfl (.c3 rfl rfl rfl) ?_
 have hB0:=hB
 have hu0:=hu
 refine sr (bx rfl rfl rfl (λg3 w1 hg3 hb3 q1 z1=>(bx rfl rfl rfl (λg4 w2 hg4 hb4 q2 z2=>(al x4m rfl rfl (λg6 w3 hg6 hb6 q3 z3=>(nn (sq (sr (fad rfl z6e ?_))))))))))
 replace hb4:=hb4.ext q3
 refine z0i rfl hb4 rfl x4n (eq' rfl rfl (nn (cd rfl (λc0=>?_) (λc0=>?_))))
 ·refine sq ?_
  replace hB:=hB0.ext (q1.n2 q2 q3)
  replace hu:=hu0.ext (q1.n2 q2 q3)
  intro a h
  refine z0h (some 10) (λwb w'=>Fr [] wb w') z2r ?_;intro w4 q4
  have z4:=q4.size
  replace hB:=hB.ext q4
  replace hu:=hu.ext q4
  replace hb3:=hb3.ext (q2.n2 q3 q4)
  replace hb4:=hb4.ext q4
  replace hb6:=hb6.ext q4
  have hC:Fr [] w4 w4:=Fr.refl _ _
  have hB_b:=hB
  have hu_b:=hu
  have hb3_b:=hb3
  have hb4_b:=hb4
  have hb6_b:=hb6
  refine z0c 0 h rfl y6o rfl λa h=>z0l 1 h rfl (λ_ hw=>hb3_b.ext hw) rfl x5f rfl λa h=>z0c 2 h rfl z6i rfl λa h=>z0l 3 h rfl (λ_ hw=>hb4_b.ext hw) rfl na3 rfl λa h=>z0e 4 h rfl rfl λa h=>z0c 6 h rfl y2k rfl λa h=>z0l 7 h rfl (λ_ hw=>hb3_b.ext hw) rfl x5f rfl λa h=>z0d 5 rfl ?_
  refine z0m h (z0a rfl (z0a rfl (z0a rfl z0g))) (mkC func203) (x6g _ _ q.fs n s _ hB.f hB.fi hu (by omega) (by omega) h4 hs4) ?_;rintro _ w5 ⟨⟨fs15,hR15,hP15,g15,rfl⟩,q5⟩ a h
  have z5:=q5.size
  replace hB:=hB.ext q5
  replace hC:=hC.next q5
  refine z0b ?_
  refine z0d 8 rfl ?_
  refine z0m h (z0a rfl (z0a rfl (z0a rfl z0g))) (mkC func203) (x6g _ _ q.bs 0 [] _ hB.b hB.bi (Sl.nil _) (by omega) (by omega) h4b (Nat.zero_le _)) ?_;rintro _ w6 ⟨⟨fs18,hR18,hP18,g18,rfl⟩,q6⟩ a h
  have z6:=q6.size
  replace hb3:=hb3.ext (q5.n1 q6)
  replace hb4:=hb4.ext (q5.n1 q6)
  replace hb6:=hb6.ext (q5.n1 q6)
  replace hR15:=hR15.ext q6
  replace hC:=hC.next q6
  refine z0b ?_
  refine z2z (cs:=[_,_]) 9 h (z0a rfl (z0a rfl z0g)) u8b (z0f rfl rfl rfl (z0f rfl rfl rfl z0s)) rfl rfl λa h=>z0d 10 rfl ?_
  refine z0u h rfl rfl hb6 rfl y9r λw7 hbn q7 hz a h=>?_
  have z7:=q7.size
  replace hb3:=hb3.fr q7
  replace hb4:=hb4.fr q7
  replace hR15:=hR15.fr q7 (by intro k hk;simp at hk;omega)
  replace hR18:=hR18.fr q7 (by intro k hk;simp at hk;omega)
  clear hb6 hz;have hb6:Blk w7 g6 _ [_,_]:=hbn;clear hbn
  refine z1o ?_
  refine z0r ?_
  clear hC hB_b hu_b hb3_b hb4_b hb6_b
  refine bk (h.sub (L':=[(6,_)]) (.cons rfl .nil)) (tn (rt (tr (rC results153 rfl hb6 z5k  ?_))))
  exact ⟨_,rfl,⟨⟨(some ⟨g15,0,none⟩,fs15.length,fs15.length),(some ⟨g18,0,none⟩,fs18.length,fs18.length),fs15,fs18⟩,rfl,⟨hR15.low (by omega),hR18.low (by omega)⟩,by rw [<-j4f q.p n s (by omega),<-hP15,<-hP18]⟩,(q1.z6 q2 q3 q4 q5 q6 q7)⟩
 refine sk (tn (sq ?_))
 replace hB:=hB0.ext (q1.n2 q2 q3)
 replace hu:=hu0.ext (q1.n2 q2 q3)
 intro a h
 refine z0h (some 10) (λwb w'=>Fr [] wb w') z2r ?_;intro w8 q8
 have z8:=q8.size
 replace hB:=hB.ext q8
 replace hu:=hu.ext q8
 replace hb3:=hb3.ext (q2.n2 q3 q8)
 replace hb4:=hb4.ext q8
 replace hb6:=hb6.ext q8
 have hC:Fr [] w8 w8:=Fr.refl _ _
 have hB_b:=hB
 have hu_b:=hu
 have hb3_b:=hb3
 have hb4_b:=hb4
 have hb6_b:=hb6
 refine z0c 0 h rfl y6o rfl λa h=>z0l 1 h rfl (λ_ hw=>hb3_b.ext hw) rfl x5f rfl λa h=>z0c 3 h rfl y2k rfl λa h=>z0l 4 h rfl (λ_ hw=>hb3_b.ext hw) rfl x5f rfl λa h=>z0c 5 h rfl z6i rfl λa h=>z0l 6 h rfl (λ_ hw=>hb4_b.ext hw) rfl na3 rfl λa h=>z0e 7 h rfl rfl λa h=>z0d 2 rfl ?_
 refine z0m h (z0a rfl (z0a rfl (z0a rfl z0g))) (mkC func203) (x6g _ _ q.fs 0 [] _ hB.f hB.fi (Sl.nil _) (by omega) (by omega) h4 (Nat.zero_le _)) ?_;rintro _ w9 ⟨⟨fs22,hR22,hP22,g22,rfl⟩,q9⟩ a h
 have z9:=q9.size
 replace hB:=hB.ext q9
 replace hu:=hu.ext q9
 replace hC:=hC.next q9
 refine z0b ?_
 refine z0d 8 rfl ?_
 refine z0m h (z0a rfl (z0a rfl (z0a rfl z0g))) (mkC func203) (x6g _ _ q.bs n s _ hB.b hB.bi hu (by omega) (by omega) h4b hs4) ?_;rintro _ w10 ⟨⟨fs28,hR28,hP28,g28,rfl⟩,q10⟩ a h
 have z10:=q10.size
 replace hb3:=hb3.ext (q9.n1 q10)
 replace hb4:=hb4.ext (q9.n1 q10)
 replace hb6:=hb6.ext (q9.n1 q10)
 replace hR22:=hR22.ext q10
 replace hC:=hC.next q10
 refine z0b ?_
 refine z2z (cs:=[_,_]) 9 h (z0a rfl (z0a rfl z0g)) u8b (z0f rfl rfl rfl (z0f rfl rfl rfl z0s)) rfl rfl λa h=>z0d 10 rfl ?_
 refine z0u h rfl rfl hb6 rfl y9r λw11 hbn q11 hz a h=>?_
 have z11:=q11.size
 replace hb3:=hb3.fr q11
 replace hb4:=hb4.fr q11
 replace hR22:=hR22.fr q11 (by intro k hk;simp at hk;omega)
 replace hR28:=hR28.fr q11 (by intro k hk;simp at hk;omega)
 clear hb6 hz;have hb6:Blk w11 g6 _ [_,_]:=hbn;clear hbn
 refine z1o ?_
 refine z0r ?_
 clear hC hB_b hu_b hb3_b hb4_b hb6_b
 refine bk (h.sub (L':=[(6,_)]) (.cons rfl .nil)) (tn (rt (rC results153 rfl hb6 z5k  ?_)))
 exact ⟨_,rfl,⟨⟨(some ⟨g22,0,none⟩,fs22.length,fs22.length),(some ⟨g28,0,none⟩,fs28.length,fs28.length),fs22,fs28⟩,rfl,⟨hR22.low (by omega),hR28.low (by omega)⟩,by rw [<-j4h q.p n s (by omega),<-hP22,<-hP28]⟩,(q1.z6 q2 q3 q8 q9 q10 q11)⟩
theorem x1b (q:BdQ) (b p:Int) (w0:World) (hB:BdAt w0 q) (hp:-9223372036854775808<=p/\p<=9223372036854775807) (hf:q.fs.length<=40) (hb:q.bs.length<=40) (h4:z9q q.fs) (h4b:z9q q.bs):Rets prog 24 #[.agg #[.slice q.f.1 q.f.2.1 q.f.2.2,.slice q.b.1 q.b.2.1 q.b.2.2],.agg #[.int .u8 b,.int .i64 p]] w0 λr w'=>Lw.Own z1h 87 w0.heap.size w' r (q.p.atC b p)/\Fr [] w0 w':=by
 refine we [(0,.agg #[.slice q.f.1 q.f.2.1 q.f.2.2,.slice q.b.1 q.b.2.1 q.b.2.2]),(1,.agg #[.int .u8 b,.int .i64 p])] func24 rfl ntmps24 rfl (.c2 rfl rfl) ?_
 have hB0:=hB
 refine sr (bx rfl rfl rfl (λg2 w1 hg2 hb2 q1 z1=>(bx rfl rfl rfl (λg3 w2 hg3 hb3 q2 z2=>(asg rfl (nn (sq (sr (z0n rfl hb3 z4v (cl (ev1 rfl) v9e (z4k _ _ _) rfl ?_))))))))))
 rintro _ w3 ⟨rfl,q3⟩
 have z3:=q3.size
 refine ne' rfl rfl (nn (cd rfl (λc0=>?_) (λc0=>?_)))
 ·refine sr (asg rfl (nn (rt (tr (r1 results24 rfl ?_)))))
  exact ⟨_,rfl,by unfold Bd.atC;rw [if_neg c0];exact Own.nil _,(q1.n2 q2 q3)⟩
 refine sk (tn (sr (fad rfl y6o ?_)))
 replace hb2:=hb2.ext (q2.n1 q3)
 refine z0i rfl hb2 rfl x5f (asg rfl (nn ?_))
 refine jn (ι:=Unit) [(3,_)] (λ_j=>[(5,.slice (q.sv b).1 (q.sv b).2.1 (q.sv b).2.2)]) (λ_j w'=>Fr [] w3 w') (.cons rfl .nil) ?_ ?_
 ·refine sr (fad rfl z6e ?_)
  replace hb3:=hb3.ext q3
  refine z0i rfl hb3 rfl x4n (eq' rfl rfl (nn (cd rfl (λc1=>?_) (λc1=>?_))))
  ·refine rg (fad rfl y2k (z0i rfl hb2 rfl x5f (asg rfl (nl ?_))))
   exact jE (()) (.c2 rfl (by first|(rw [show q.sv b=q.b from if_pos c1];rfl)|(rw [show q.sv b=q.f from if_neg c1];rfl))) (Fr.refl _ _)
  refine sk ?_
  exact jE (()) (.c2 rfl (by first|(rw [show q.sv b=q.b from if_pos c1];rfl)|(rw [show q.sv b=q.f from if_neg c1];rfl))) (Fr.refl _ _)
 rintro _j w4 q4
 have z4:=q4.size
 refine kpC [(3,_),(5,_)] (.c2 rfl rfl) ?_
 have hsl:=z1s (hB0.sel b).1
 have hsb:(q.l b).length<=40:=by unfold BdQ.l;split<;>assumption
 have hs4:z9q (q.l b):=by unfold BdQ.l;split<;>assumption
 have hnc:z3d b p=0:=Classical.not_not.1 c0
 have hbp:=z2v hnc
 refine sq (sr (fad rfl z6i ?_))
 replace hb3:=hb3.ext (q3.n1 q4)
 refine z0i rfl hb3 rfl na3 (mv rfl (lnS rfl underlying30 (gt' rfl rfl (nn (cd rfl (λc2=>?_) (λc2=>?_))))))
 ·refine sr (asg rfl (nn (rt (tr (r1 results24 rfl ?_)))))
  exact ⟨_,rfl,by unfold Bd.atC;rw [if_pos hnc,<-q.at_l hnc,x7g (by omega)];exact Own.nil _,(q1.n3 q2 q3 q4)⟩
 refine sk (tn (sr (mv rfl (fad rfl z6i (z0i rfl hb3 rfl na3 (z2u rfl rfl (wi6 (by omega)) ?_))))))
 replace hB:=hB0.ext (q1.n3 q2 q3 q4)
 refine z1a (iq0) rfl (hB.sel b).1 rfl y5b z1f (λad25 hc25=>?_)
 refine z1i rfl (hc25 _ (hB.sel b).1) z6t ?_
 refine cl (ev1 rfl) (mkC func59) (y7y _ ((q.l b).getD (p-1).toNat iq0).2 _ (z1z (hB.sel b).2 _) (by have:=z3h hs4 (p-1).toNat;omega)) rfl ?_
 rintro _ w5 ⟨g27,rfl,hg27,hX,q5⟩
 have z5:=q5.size
 refine asg rfl (kpL [(4,_)] (.cons rfl .nil) (nn (rt (r1 results24 rfl ?_))))
 exact ⟨_,rfl,by unfold Bd.atC;rw [if_pos hnc,<-q.at_l hnc];exact hX.low (by omega),(q1.n4 q2 q3 q4 q5)⟩
end Go.Proofs.YtpgdchkdlgkmgaaGreatDoor
namespace Go.Lw
open Go.RowKit
section
variable {P:Program} {n N:Nat} {ro:Option Nat} {L:List (Nat×Value)} {ds:List Nat} {w w':World} {Q:Exit->Act->World->Prop}
def KeepN (Ts B:List Nat) (b:Nat) (W W':World):Prop:=KeepT Ts B W W'/\KeepsFrom b W W'
theorem KeepsFrom.low {b b':Nat} (h:KeepsFrom b w w') (hb:b<=b'):KeepsFrom b' w w':=⟨h.size,λk o hk=>h.same k o (Nat.le_trans hb hk)⟩
theorem KeepN.trans {Ts B:List Nat} {b:Nat} {w'':World} (h:KeepN Ts B b w w') (k:KeepN Ts B b w' w''):KeepN Ts B b w w'':=⟨h.1.trans k.1,h.2.trans k.2⟩
theorem KeepN.low {Ts B:List Nat} {b b':Nat} (h:KeepN Ts B b w w') (hb:b<=b'):KeepN Ts B b' w w':=⟨h.1,KeepsFrom.low h.2 hb⟩
theorem KeepN.refl {Ts B:List Nat} {b:Nat}:KeepN Ts B b w w:=⟨⟨λ_ _=>rfl,λ_ _ _ _ _ hc=>hc⟩,⟨Nat.le_refl _,λ_ _ _ h _=>h⟩⟩
def u9p {α:Type} (n:Nat) (P:Program) (g:Nat) (lb:Array Value) (encs:α->Array Value) (Kp:World->World->Prop) (S Sp Pf:List α->Prop) (M:Nat) (w:World):Prop:=
  ∀(l:Nat) (J Jx:List α->World->Prop) (W:World),Below w.heap.size w W->w.heap.size+2<=W.heap.size->(∀s A B,Turn W.heap.size A B->J s A->J s B)->(∀s A B,Turn W.heap.size A B->Jx s A->Jx s B)->
    (∀pre x W1,J pre W1->pre.length<M->Pf (pre++[x])->YieldAt (Fo none) (n-1) P l (encs x) W1 λe W'=>(e=.returned (.bool true)/\J (pre++[x]) W'/\Kp W1 W')\/(e=.returned (.bool false)/\Jx (pre++[x]) W'/\KeepsFrom (w.heap.size+2) W1 W'))->J [] W->
    CallsIn (Fo none) n P g (#[.func (.yield l) #[] #[]]++lb) W λe W'=>(∃v,e=.returned v)/\((∃xs,S xs/\J xs W')\/(∃pre,Sp pre/\Jx pre W'))
theorem Turn.of_fr {n0:Nat} (hf:Fr [] w w'):Turn n0 w w':=⟨none,⟨hf.os,hf.tape,hf.output,hf.size,λk hk _=>hf.block k hk (by simp)⟩,λr e=>by cases e⟩
theorem Turn.low {n0 n1:Nat} (h:Turn n0 w w') (hn:n1<=n0):Turn n1 w w':=let ⟨row,hg,hr⟩:=h;⟨row,hg,λr e=>let ⟨a,b⟩:=hr r e;⟨Nat.le_trans hn a,b⟩⟩
theorem Turn.put {n0 l:Nat} {o:Obj} (o':Obj) (hn:n0<=l) (hl:w.heap[l]?=some o) (ho:o.isCells=false):Turn n0 w (w.putObj l o'):=⟨some l,grownBy_putObj' w l o',λr e=>by cases e;exact ⟨hn,o,hl,ho⟩⟩
theorem weIM {f:FuncId} {fn:Func} {c:Code} {args:Array Value} {R:Ending->World->Prop} (L:List (Nat×Value)) (hf:P.funcs[f]?=some fn) (hb:fn.body=some c) (hn:fn.ntmps=n) (hk:Nat.ble args.size n=true) (hL:argsOk args L)
    (h:CWi none N P (bodyPostM (Fo none) N P fn R) c n [] w L):CallsIn (Fo none) N P f args w R:=by
  have hk':args.size<=n:=by simpa [Nat.ble_eq] using hk
  refine callsIn_of_wp_marks hf hb trivial (h _ ⟨rfl,by simp [hn];omega,λt v hv=>?_⟩)
  have:=argsOk.look hL hv
  simp only [Array.getD_eq_getD_getElem?,Array.getElem?_append]
  have ht:t<args.size:=by
    rcases Nat.lt_or_ge t args.size with h|h
    · exact h
    · rw [Array.getElem?_eq_none h] at this;cases this
  rw [if_pos ht,this];rfl
theorem j2h {α:Type} {g:Operand} {ps:Array Tmp} {assign body:Code} {gf:Nat} {lb:Array Value} (hg:ev L g=some (.func (.func gf) #[] lb)) (eg:CallOf P gf)
    {encs:α->Array Value} {Ts B:List Nat} {S Sp Pf:List α->Prop} {M:Nat} (hN:1<=N) (hseq:u9p (N-1) P gf lb encs (KeepN Ts B (w.heap.size+2)) S Sp Pf M w) (hB:∀b∈B,b<w.heap.size)
    (hps:∀x,(encs x).size=ps.size) (Lq:α->List (Nat×Value)) (hLq:∀x,(ps.zip (encs x)).toList.reverse=Lq x) (hpn:∀x,(Lq x).all (λp=>Nat.blt p.1 n)=true)
    (I Ir:List α->World->Prop) (hI:∀s W W',Turn w.heap.size W W'->I s W->I s W') (hIr:∀s W W',Turn w.heap.size W W'->Ir s W->Ir s W') (h0:I [] w)
    (Ax:α->Act->World->Prop) (hAx:∀x a' W W',Turn w.heap.size W W'->Ax x a' W->Ax x a' W')
    (hassign:∀(l:Nat) (pre:List α) (x:α) (W:World),I pre W->CWi (some l) (N-1-1) P (Exit.then (λa' W'=>Ax x a' W'/\Fr [] W W') (λ_ _ _=>False)) assign n [] W (Lq x++L))
    (hbody:∀(l:Nat) (pre:List α) (x:α) (a':Act) (W:World),w.heap.size<=l->Ax x a' W->I pre W->pre.length<M->Pf (pre++[x])->body.wpIn (Fo (some l)) (N-1-1) P (ownPostG w.heap.size (KeepT Ts B) I (λc s W=>c=.ret/\Ir s W) (pre++[x]) W) a' W)
    (hdone:∀(D:Nat) (xs:List α) (W:World),w.heap.size<=D->S xs->I xs W->DefAt D W->EW Q .normal n (D::ds) W L)
    (hstop:∀(D:Nat) (pre:List α) (W:World),w.heap.size<=D->Sp pre->Ir pre W->DefAt D W->EW Q .ret n (D::ds) W L):CWi none N P Q (.rangeFunc g ps assign body) n ds w L:=by
  intro a h
  obtain ⟨D,hD⟩:∃D,D=w.heap.size:=⟨_,rfl⟩
  have hmk:AgM (D::ds) { a with defers:={ target:=.collected D,args:=#[] }::a.defers } n L:=⟨by simp [h.dfr,mark],h.size,h.at_⟩
  refine wpIn_rangeFunc λfn hfn=>?_
  obtain ⟨rec,hrec⟩:∃rec:LoopState->Option Code->Loop,rec=λst pe=>{ state:=st,pending:=pe,fn,tmps:=a.tmps,params:=ps,assign,body,defers:=D }:=⟨_,rfl⟩
  obtain ⟨W1,hW1⟩:∃W1,W1=(w.alloc (.deferred (some []))).alloc (.loop (rec .ready none)):=⟨_,rfl⟩
  -- the two blocks of the book-keeping,in a world
  let Bk:LoopState->Option Code->World->Prop:=λst pe W=>W.heap[D+1]?=some (.loop (rec st pe))/\DefAt D W
  have z1:W1.heap.size=D+2:=by rw [hW1,World.size_alloc,World.size_alloc,hD]
  have hbk1:Bk .ready none W1:=by
    refine ⟨?_,?_⟩
    · rw [hW1];have:=World.alloc_heap_new (w.alloc (.deferred (some []))) (.loop (rec .ready none));rwa [World.size_alloc,<-hD] at this
    · rw [hW1,hD];exact (Below.heap_alloc _ _ _ (by simp)).trans (World.alloc_heap_new w _)
  have hbe:Below w.heap.size w W1:=by rw [hW1];exact ((Below.refl _ w).alloc (Nat.le_refl _) _).alloc (by simp) _
  have hf1:Fr [] w W1:=Fr.of_below' hbe (Nat.le_refl _)
  have bkT:∀ {st pe A B},Turn (D+2) A B->Bk st pe A->Bk st pe B:=λht hb=>⟨ht.at hb.1 (.inr (by omega)),ht.at hb.2 (.inr (by omega))⟩
  have bkP:∀ {st pe st' pe' A},Bk st pe A->Bk st' pe' (A.putObj (D+1) (.loop (rec st' pe'))):=λhb=>⟨World.putObj_heap_same (Array.getElem?_eq_some_iff.1 hb.1).1,(World.putObj_heap_other (by omega)).trans hb.2⟩
  have tuP:∀ {st pe A} (o':Obj),Bk st pe A->Turn w.heap.size A (A.putObj (D+1) o'):=λo' hb=>Turn.put o' (by omega) hb.1 rfl
  have keP:∀ {st pe A} (o':Obj),Bk st pe A->KeepN Ts B (w.heap.size+2) A (A.putObj (D+1) o'):=λo' hb=>⟨KeepT.put hb.1 rfl (λb hb=>by have:=hB b hb;omega),⟨(grownBy_putObj' _ _ _).size,λk o hk ho _=>(World.putObj_heap_other (by omega)).trans ho⟩⟩
  refine ⟨D+1,[{ target:=.collected D,args:=#[] }],W1,{ target:=.fn (.func gf) lb,args:=#[.func (.yield (D+1)) #[] #[]] },W1,gf,#[.func (.yield (D+1)) #[] #[]]++lb,W1,?_,?_,?_,?_,λ_=>hN,?_⟩
  · rw [hW1,hrec,hD];exact run_enterLoop_outer _ _ _ _ _
  · simp only [resolve,h.eval hg];simp [go_sem]
  · intro f' _;trivial
  · have he:=eg (#[.func (.yield (D+1)) #[] #[]]++lb) W1
    simpa [invoke,go_sem] using he
  refine (hseq (D+1) (λs W=>I s W/\Bk .ready none W) (λs W=>Ir s W/\Bk .done (some .ret) W) W1 hbe (by omega) (λs A B ht hs=>⟨hI s A B (ht.low (by omega)) hs.1,bkT (z1▸ht) hs.2⟩) (λs A B ht hs=>⟨hIr s A B (ht.low (by omega)) hs.1,bkT (z1▸ht) hs.2⟩) ?_ ⟨hI _ _ _ (Turn.of_fr hf1) h0,hbk1⟩).mono ?_
  · rintro pre x W ⟨hi,hb⟩ hlen hpf
    have hy:=run_yield (P:=P) (args:=encs x) hb.1 (by rw [hrec];exact hps x)
    rw [hrec] at hy
    refine ⟨fn,_,assign,body,hy,roundIn_of_wpIn hfn (wpIn_mono (Q:=Exit.then (λa' W'=>Ax x a' W'/\Fr [] W W') (λ_ _ _=>False)) ?_ ?_)⟩
    · have hp:=v1z h (ps.zip (encs x)).toList (by have:=hpn x;rw [<-hLq,List.all_reverse] at this;exact this)
      rw [hLq] at hp
      have e:({ tmps:=(ps.zip (encs x)).foldl (λt (p:Nat×Value)=>t.setIfInBounds p.1 p.2) a.tmps,defers:=[] }:Act)={ tmps:=(ps.zip (encs x)).toList.foldl (λt p=>t.setIfInBounds p.1 p.2) a.tmps,defers:=[] }:=by
        rw [<-Array.foldl_toList]
      exact hassign _ pre x W hi _ (by rw [<-e] at hp;exact hp)
    · clear hy
      rintro e a' W2 he
      cases e with
      | normal=>
        obtain ⟨hax,hf⟩:=he
        have hi2:=hI _ _ _ (Turn.of_fr hf) hi
        have hb2:Bk .ready none W2:=⟨(hf.block _ (Array.getElem?_eq_some_iff.1 hb.1).1 (by simp)).trans hb.1,hb.2.ext hf⟩
        have hk2:KeepN Ts B (w.heap.size+2) W W2:=⟨KeepT.ext hf (λb h=>by
          have:=hB b h
          have:=(Array.getElem?_eq_some_iff.1 hb.1).1;omega),⟨hf.size,λk o _ ho _=>(hf.block k (Array.getElem?_eq_some_iff.1 ho).1 (by simp)).trans ho⟩⟩
        have hbr:(Instr.beginRound (D+1)).run P W2=.ok () (W2.putObj (D+1) (.loop (rec .busy none))):=by
          have:=run_beginRound (P:=P) hb2.1 (by rw [hrec])
          rw [hrec] at this ⊢;exact this
        refine ⟨_,hbr,wpIn_mono (hbody (D+1) pre x a' _ (by omega) (hAx _ _ _ _ (tuP _ hb2) hax) (hI _ _ _ (tuP _ hb2) hi2) hlen hpf) ?_⟩
        have hb3:Bk .busy none (W2.putObj (D+1) (.loop (rec .busy none))):=bkP hb2
        have keep:∀ {W3:World},KeepsFrom w.heap.size (W2.putObj (D+1) (.loop (rec .busy none))) W3->Bk .busy none W3:=λhk=>⟨hk.same _ _ (by omega) hb3.1 rfl,hk.same _ _ (by omega) hb3.2 rfl⟩
        rintro e a3 W3 hp
        cases e with
        | normal=>
          obtain ⟨hk3,hkp,hi3⟩:=hp
          have hb4:=keep hk3
          have hr:(Instr.endRound (D+1) none).run P W3=.ok (.bool true) (W3.putObj (D+1) (.loop (rec .ready none))):=by
            have:=run_endRound (P:=P) none hb4.1
            rw [hrec] at this ⊢;exact this
          exact ⟨_,_,hr,.inl ⟨rfl,⟨hI _ _ _ (tuP _ hb4) hi3,bkP hb4⟩,(hk2.trans (keP _ hb2)).trans (KeepN.trans ⟨hkp,KeepsFrom.low hk3 (by omega)⟩ (keP _ hb4))⟩⟩
        | ret=>
          obtain ⟨hk3,_,hi3⟩:=hp
          have hb4:=keep hk3
          have hr:(Instr.endRound (D+1) (some .ret)).run P W3=.ok (.bool false) (W3.putObj (D+1) (.loop (rec .done (some .ret)))):=by
            have:=run_endRound (P:=P) (some .ret) hb4.1
            rw [hrec] at this ⊢;exact this
          exact ⟨_,_,hr,.inr ⟨rfl,⟨hIr _ _ _ (tuP _ hb4) hi3,bkP hb4⟩,(hk2.2.trans (keP _ hb2).2).trans ((KeepsFrom.low hk3 (by omega)).trans (keP _ hb4).2)⟩⟩
        | exit id=>exact absurd hp.2.1 (by simp)
        | goto t=>exact absurd hp.2.1 (by simp)
        | panic ch=>exact hp.elim
        | outgrown=>exact hp.elim
      | _=>exact he.elim
  · rintro e W2 ⟨⟨v,rfl⟩,(⟨xs,hS,hi,hb⟩|⟨pre,hS,hi,hb⟩)⟩
    · have hr:=run_endLoop (P:=P) hb.1 (by rw [hrec];simp)
      rw [hrec] at hr
      exact ⟨none,_,hr,hdone D xs _ (by omega) hS (hI _ _ _ (tuP _ hb) hi) ((World.putObj_heap_other (by omega)).trans hb.2) _ hmk⟩
    · have hr:=run_endLoop (P:=P) hb.1 (by rw [hrec];simp)
      rw [hrec] at hr
      exact ⟨some .ret,_,hr,wpIn_ret (hstop D pre _ (by omega) hS (hIr _ _ _ (tuP _ hb) hi) ((World.putObj_heap_other (by omega)).trans hb.2) _ hmk)⟩
theorem x9y {α:Type} {g:Operand} {ps:Array Tmp} {assign body:Code} {gf:Nat} {lb:Array Value} (hg:ev L g=some (.func (.func gf) #[] lb)) (eg:CallOf P gf)
    {encs:α->Array Value} {Ts B:List Nat} {S Sp Pf:List α->Prop} {M:Nat} (hN:1<=N) (hseq:u9p (N-1) P gf lb encs (KeepN Ts B (w.heap.size+2)) S Sp Pf M w) (hB:∀b∈B,b<w.heap.size)
    (hps:∀x,(encs x).size=ps.size) (Lq:α->List (Nat×Value)) (hLq:∀x,(ps.zip (encs x)).toList.reverse=Lq x) (hpn:∀x,(Lq x).all (λp=>Nat.blt p.1 n)=true)
    (I Ir:List α->World->Prop) (hI:∀s W W',Turn w.heap.size W W'->I s W->I s W') (hIr:∀s W W',Turn w.heap.size W W'->Ir s W->Ir s W') (h0:I [] w)
    (Lx:α->List (Nat×Value)) (K:List (Nat×Value)) (_hK:Sub K L)
    (hassign:∀(l:Nat) (pre:List α) (x:α) (W:World),I pre W->CWi (some l) (N-1-1) P (Exit.then (AsU n W (Lx x++K)) (λ_ _ _=>False)) assign n [] W (Lq x++L))
    (hbody:∀(l:Nat) (pre:List α) (x:α) (W:World),w.heap.size<=l->I pre W->pre.length<M->Pf (pre++[x])->CWi (some l) (N-1-1) P (ownPostG w.heap.size (KeepT Ts B) I (λc s W=>c=.ret/\Ir s W) (pre++[x]) W) body n [] W (Lx x++K))
    (hdone:∀(D:Nat) (xs:List α) (W:World),w.heap.size<=D->S xs->I xs W->DefAt D W->EW Q .normal n (D::ds) W L)
    (hstop:∀(D:Nat) (pre:List α) (W:World),w.heap.size<=D->Sp pre->Ir pre W->DefAt D W->EW Q .ret n (D::ds) W L):CWi none N P Q (.rangeFunc g ps assign body) n ds w L:=
  j2h hg eg hN hseq hB hps Lq hLq hpn I Ir hI hIr h0 (λx a' _=>AgM [] a' n (Lx x++K)) (λ_ _ _ _ _ h=>h)
    (λl pre x W hi a ha=>wpIn_mono (hassign l pre x W hi a ha) (λe a' W' he=>by
      cases e with
      | normal=>obtain ⟨h1,rfl⟩:=he;exact ⟨h1,Fr.refl _ _⟩
      | _=>exact he.elim)) (λl pre x a' W hl hx hi hm hp=>hbody l pre x W hl hi hm hp a' hx) hdone hstop
theorem j3p {α:Type} {g:Operand} {ps:Array Tmp} {assign body:Code} {gf:Nat} {lb:Array Value} (hg:ev L g=some (.func (.func gf) #[] lb)) (eg:CallOf P gf)
    {encs:α->Array Value} {Ts B:List Nat} {S Sp Pf:List α->Prop} {M:Nat} (hN:1<=N) (hseq:u9p (N-1) P gf lb encs (KeepN Ts B (w.heap.size+2)) S Sp Pf M w) (hB:∀b∈B,b<w.heap.size)
    (hps:∀x,(encs x).size=ps.size) (Lq:α->List (Nat×Value)) (hLq:∀x,(ps.zip (encs x)).toList.reverse=Lq x) (hpn:∀x,(Lq x).all (λp=>Nat.blt p.1 n)=true)
    (I Ir:List α->World->Prop) (hI:∀s W W',Turn w.heap.size W W'->I s W->I s W') (hIr:∀s W W',Turn w.heap.size W W'->Ir s W->Ir s W') (hBI:∀s W,I s W->w.heap.size<=W.heap.size) (h0:I [] w)
    (T:TypeId) (E1:α->List Value) (Lx:Nat->α->List (Nat×Value)) (K:List (Nat×Value)) (_hK:Sub K L)
    (hassign:∀(l:Nat) (pre:List α) (x:α) (W:World),I pre W->w.heap.size<=W.heap.size->CWi (some l) (N-1-1) P (Exit.then (AsK n w.heap.size W T (E1 x) (λg=>Lx g x++K)) (λ_ _ _=>False)) assign n [] W (Lq x++L))
    (hbody:∀(l:Nat) (pre:List α) (x:α) (g:Nat) (W:World),w.heap.size<=l->w.heap.size<=g->Blk W g T (E1 x)->I pre W->pre.length<M->Pf (pre++[x])->CWi (some l) (N-1-1) P (ownPostG w.heap.size (KeepT Ts B) I (λc s W=>c=.ret/\Ir s W) (pre++[x]) W) body n [] W (Lx g x++K))
    (hdone:∀(D:Nat) (xs:List α) (W:World),w.heap.size<=D->S xs->I xs W->DefAt D W->EW Q .normal n (D::ds) W L)
    (hstop:∀(D:Nat) (pre:List α) (W:World),w.heap.size<=D->Sp pre->Ir pre W->DefAt D W->EW Q .ret n (D::ds) W L):CWi none N P Q (.rangeFunc g ps assign body) n ds w L:=
  j2h hg eg hN hseq hB hps Lq hLq hpn I Ir hI hIr h0 (λx a' W=>∃g,w.heap.size<=g/\AgM [] a' n (Lx g x++K)/\Blk W g T (E1 x)) (λx a' W W' ht ⟨g,h1,h2,h3⟩=>⟨g,h1,h2,h3.turn ht⟩)
    (λl pre x W hi a ha=>wpIn_mono (hassign l pre x W hi (hBI _ _ hi) a ha) (λe a' W' he=>by
      cases e with
      | normal=>obtain ⟨g,h1,h2,h3,hf⟩:=he;exact ⟨⟨g,h1,h2,h3⟩,hf⟩
      | _=>exact he.elim)) (λl pre x a' W hl ⟨g,h1,h2,h3⟩ hi hm hp=>hbody l pre x g W hl h1 h3 hi hm hp a' h2) hdone hstop
theorem u8a {α:Type} {B0:Nat} {Ts B S:List Nat} {I:List α->World->Prop} {Ix:Code->List α->World->Prop} {xs:List α} {W:World} (hf:Fr S W w) (hS:∀k∈S,k<W.heap.size->(∃cs T f,W.heap[k]?=some (.cells cs T f)/\T∉Ts)\/(k<B0/\x6f W k)) (hB:∀b∈B,b<W.heap.size) (hd:∀b∈B,b∉S) (hI:I xs w):EW (ownPostG B0 (KeepT Ts B) I Ix xs W) .normal n ds w L:=
 λ_ _=>⟨⟨hf.size,λk o hk ho hc=>(hf.block k (Array.getElem?_eq_some_iff.1 ho).1 (λe=>by
  rcases hS k e (Array.getElem?_eq_some_iff.1 ho).1 with ⟨cs,T,f,h1,_⟩|⟨h1,_⟩
  ·rw [ho] at h1;cases h1;cases hc
  ·omega)).trans ho⟩,⟨Keep.fr hf hB hd,λb cs T f hT hc=>(hf.block b (Array.getElem?_eq_some_iff.1 hc).1 (λe=>by
  rcases hS b e (Array.getElem?_eq_some_iff.1 hc).1 with ⟨cs',T',f',h1,h2⟩|⟨_,o,h1,h2⟩
  ·rw [hc] at h1;cases h1;exact h2 hT
  rw [hc] at h1;cases h1;cases h2)).trans hc⟩,hI⟩
theorem rndK {α:Type} {B0:Nat} {Kp:World->World->Prop} {I:List α->World->Prop} {Ix:Code->List α->World->Prop} {xs:List α} {W:World} (h1:KeepsFrom B0 W w) (h2:Kp W w) (h3:I xs w):EW (ownPostG B0 Kp I Ix xs W) .normal n ds w L:=λ_ _=>⟨h1,h2,h3⟩
theorem rndX {α:Type} {B0:Nat} {Kp:World->World->Prop} {I Ir:List α->World->Prop} {xs:List α} {W:World} (h1:KeepsFrom B0 W w) (h3:Ir xs w):EW (ownPostG B0 Kp I (λc s W=>c=.ret/\Ir s W) xs W) .ret n ds w L:=λ_ _=>⟨h1,rfl,h3⟩
theorem Turn.of_mark {n0 D:Nat} (hf:Fr [D] w w') (hd:DefAt D w) (hn:n0<=D):Turn n0 w w':=⟨some D,⟨hf.os,hf.tape,hf.output,hf.size,λk hk hn=>hf.block k hk (by simpa using hn)⟩,λr e=>by cases e;exact ⟨hn,_,hd,rfl⟩⟩
def YKr (r:Option Nat) (P:Program) (n:Nat) (ds:List Nat) (ops:Array Oper) (rest:List Oper) (Q:Exit->Act->World->Prop) (d:Nat) (y:Operand) (xs:List Operand):Act->World->Prop:=λa w=>
  ∃(L:List (Nat×Value)) (vs:List Value) (y1:Nat) (Φ:Value->World->Prop),AgM ds a n L/\ev L y=some (.func (.yield y1) #[] #[])/\evs L xs vs/\YieldAt (Fo r) 0 P y1 vs.toArray w (λe w'=>∃v,e=.returned v/\Φ v w')/\Nat.blt d n=true/\
    ∀v w',Φ v w'->WL P ops (z0p (Q .normal)) rest n ds w' ((d,v)::L)
theorem j4z {id:Nat} {l:List Oper} (k:Nat) {d:Nat} {y:Operand} {xs:List Operand} {ts:Array TypeId} {ty:TypeId} {pos:String} {after:Array Edge}
    (hl:l=l.take k++⟨some d,.call ⟨.value y,xs.toArray,ts⟩,ty,pos,after,none⟩::l.drop (k+1)) (hd1:(l.take k).all Oper.noDefer=true) (hd2:(l.drop (k+1)).all Oper.noDefer=true) (hnf:∀g,y≠.func g)
    (h1:WL P l.toArray (z0p (YKr ro P n ds l.toArray (l.drop (k+1)) Q d y xs)) (l.take k) n ds w L):CWi ro N P Q (.region id l.toArray false) n ds w L:=by
  intro a ha
  refine wpIn_region_lit ?_
  have key:wpListIn (Fo ro) N P l.toArray Q (l.take k++⟨some d,.call ⟨.value y,xs.toArray,ts⟩,ty,pos,after,none⟩::l.drop (k+1)) a w:=by
    refine y4p _ ?_ _ a w hd1 (h1 a ha)
    rintro a w ⟨L,vs,y1,Φ,h,hy,hx,⟨fn,tm,as_,bd,hrun,hR1,hR2⟩,hn,hk⟩
    have hR:RoundIn (Fo ro) (N-1) P y1 fn tm as_ bd w (λe w'=>∃v,e=.returned v/\Φ v w'):=⟨hR1,λc cs _=>hR2 c cs (λd hd=>by cases hd)⟩
    unfold wpListIn
    rw [if_pos (by simp [Region.wanted])]
    refine ⟨λ_ _=>trivial,?_⟩
    have e:(Oper.semAt (Fo ro).round a.eval ⟨some d,.call ⟨.value y,xs.toArray,ts⟩,ty,pos,after,none⟩).run P w=.ok (.round y1 fn tm as_ bd) w:=by
      rw [u0k (by rfl)]
      simp only [execOp,resolve,h.eval hy,Deferred.ofValue,Sem.run_bind,Sem.run_pure,Result.andThen_ok,invoke,List.map_toArray,h.evals hx,List.append_toArray]
      simpa using hrun
    rw [e]
    refine ⟨λe=>by simp [Fo,Fence.wide] at e,hR.mono ?_⟩
    rintro e w' ⟨v,rfl,hv⟩
    have:=y4p (r:=ro) (N:=N) (Q:=Q) (ops:=l.toArray) [] (λa w h=>wpListIn_nil h) (l.drop (k+1)) (a.put (some d) v) w' hd2 (hk v w' hv _ (h.put hn v))
    rwa [List.append_nil] at this
  rwa [<-hl] at key
theorem j4m {d:Nat} {y:Operand} {xs:List Operand} {vs:List Value} {y1:Nat} {Φ:Value->World->Prop} {ops:Array Oper} {rest:List Oper} (hy:ev L y=some (.func (.yield y1) #[] #[])) (hx:evs L xs vs) (hY:YieldAt (Fo ro) 0 P y1 vs.toArray w (λe w'=>∃v,e=.returned v/\Φ v w')) (hn:Nat.blt d n=true)
    (k:∀v w',Φ v w'->WL P ops (z0p (Q .normal)) rest n ds w' ((d,v)::L)) {ops':Array Oper}:WL P ops' (z0p (YKr ro P n ds ops rest Q d y xs)) [] n ds w L:=
  λ_ h=>u0n (Q:=λ_=>YKr ro P n ds ops rest Q d y xs) ⟨L,vs,y1,Φ,h,hy,hx,hY,hn,k⟩
theorem j4q {α:Type} {l m:Nat} {J Jx:List α->World->Prop} {encs:α->Array Value} {Kp Kx:World->World->Prop} {Pf:List α->Prop} {M:Nat} {pre:List α} {x:α} {vs:List Value} (hyp:∀pre x W1,J pre W1->pre.length<M->Pf (pre++[x])->YieldAt (Fo none) m P l (encs x) W1 λe W'=>(e=.returned (.bool true)/\J (pre++[x]) W'/\Kp W1 W')\/(e=.returned (.bool false)/\Jx (pre++[x]) W'/\Kx W1 W'))
    (hJ:J pre w) (hM:pre.length<M) (hp:Pf (pre++[x])) (he:vs.toArray=encs x):YieldAt (Fo ro) 0 P l vs.toArray w (λe w'=>∃v,e=.returned v/\(v=.bool true/\J (pre++[x]) w'/\Kp w w'\/v=.bool false/\Jx (pre++[x]) w'/\Kx w w')):=by
  rw [he]
  obtain ⟨fn,tm,as_,bd,h1,h2,h3⟩:=hyp pre x w hJ hM hp
  refine ⟨fn,tm,as_,bd,h1,h2,λc cs _=>?_⟩
  obtain ⟨e,w',hr,hc⟩:=h3 c cs (λd hd=>by cases hd)
  refine ⟨e,w',?_,hc⟩
  rcases hr with ⟨rfl,h⟩|⟨rfl,h⟩
  · exact ⟨_,rfl,.inl ⟨rfl,h⟩⟩
  · exact ⟨_,rfl,.inr ⟨rfl,h⟩⟩
theorem j1g {A B C:Nat} (h1:DefAt A w) (h2:DefAt B w) (h3:DefAt C w):∀D∈[A,B,C],w.heap[D]?=some (.deferred (some [])):=λD h=>by
 simp only [List.mem_cons,List.not_mem_nil,or_false] at h
 rcases h with rfl|rfl|rfl
 ·exact h1
 ·exact h2
 exact h3
theorem z7w {fn:Func} {R:Ending->World->Prop} {tmps:Array Value} {v:Value}:∀(ds:List Nat) (w:World),(∀D∈ds,w.heap[D]?=some (.deferred (some [])))->ds.Nodup->(∀w',Fr ds w w'->(results fn tmps).run P w'=.ok v w')->
    (∀w',Fr ds w w'->R (.returned v) w')->LeavesInM (Fo none) N P fn tmps R (ds.map mark) .returning w
  | [],w,_,_,hv,k=>⟨v,hv w (Fr.refl _ _),k w (Fr.refl _ _)⟩
  | D::ds,w,hD,hnd,hv,k=>by
    refine ⟨by simp,.inl ⟨D,_,rfl,run_takeDeferred (hD D (by simp)),?_⟩⟩
    rw [List.nodup_cons] at hnd
    have hf:Fr [D] w (w.putObj D (.deferred none)):=⟨rfl,rfl,rfl,by simp,λk _ hk=>World.putObj_heap_other (by simpa using hk)⟩
    refine z7w ds _ (λD' h'=>?_) hnd.2 (λw' hw=>hv w' (hf.trans hw)) (λw' hw=>k w' (hf.trans hw))
    rw [World.putObj_heap_other (by rintro rfl;exact hnd.1 h')];exact hD D' (by simp [h'])
variable {R:Ending->World->Prop} {fn:Func} {p pt q g:Nat} {T:TypeId} {cs:List Value} {v z:Value}
theorem v6s {D:Nat} (hb:Blk w g T cs) (hD:w.heap[D]?=some (.deferred (some []))):g≠D:=by
 rintro rfl;rw [show w.heap[g]?=_ from hb] at hD;cases hD
theorem x0b (hb:Blk w g T cs) (hD:∀D∈ds,w.heap[D]?=some (.deferred (some []))) (hf:Fr ds w w'):Blk w' g T cs:=hb.fr hf λh=>v6s hb (hD g h) rfl
theorem rM1c (hr:fn.results=#[.cell p pt]) (hp:look L p=some (.pointer (some ⟨g,0,none⟩))) (hb:Blk w g T [v]) (hg:z2b P pt) (hD:∀D∈ds,w.heap[D]?=some (.deferred (some []))) (hnd:ds.Nodup) (k:∀w',Fr ds w w'->R (.returned v) w'):EW (bodyPostM (Fo none) N P fn R) .ret n ds w L:=λa h=>by
 show LeavesInM _ _ _ _ _ _ a.defers _ _
 rw [h.dfr]
 refine z7w ds w hD hnd (λw' hf=>?_) k
 have h1:=h.at_ p _ hp
 simp only [Array.getD_eq_getD_getElem?] at h1
 have hc:w'.cell? ⟨g,0,none⟩=some v:=(x0b hb hD hf).cells 0 v rfl
 simp [results,hr,h1,asAddr,loadVar,hg w',hc]
theorem rMCT (hr:fn.results=#[.cell p pt,.tmp q]) (hp:look L p=some (.pointer (some ⟨g,0,none⟩))) (hb:Blk w g T cs) (hg:z3p P pt cs.length) (hv:look L q=some v) (hD:∀D∈ds,w.heap[D]?=some (.deferred (some []))) (hnd:ds.Nodup) (k:∀w',Fr ds w w'->R (.returned (.tuple #[.agg cs.toArray,v])) w'):EW (bodyPostM (Fo none) N P fn R) .ret n ds w L:=λa h=>by
 show LeavesInM _ _ _ _ _ _ a.defers _ _
 rw [h.dfr]
 refine z7w ds w hD hnd (λw' hf=>?_) k
 have h1:=h.at_ p _ hp
 have h2:=h.at_ q _ hv
 simp only [Array.getD_eq_getD_getElem?] at h1 h2
 simp [results,hr,h1,h2,asAddr,loadVar,hg.1 w',hg.2 w',run_loadCells_list w' _ cs (x0b hb hD hf).cells]
end
end Go.Lw
namespace Go.G08
open Go.Lw Go.G21
def bdE (q:BdQ) (x:Bool):Array Value:=#[.int .u8 (if x then 1 else 0),slv (if x then q.b else q.f)]
abbrev BdQ.h (q:BdQ) (x:Bool):SV:=if x then q.b else q.f
abbrev BdQ.r (q:BdQ) (x:Bool):List IQ:=if x then q.bs else q.fs
abbrev y2a (x:Bool):Int:=if x then 1 else 0
def ndE (q:BdQ) (x:Bool×Nat):Array Value:=#[.agg #[.int .u8 (y2a x.1),.int .i64 ((x.2:Int)+1)],slv ((q.r x.1).getD x.2 iq0).1]
def ndR (q:BdQ) (x:Bool) (i:Nat):List (Bool×Nat):=(List.range i).map λk=>(x,k)
def ndP (q:BdQ) (l:List Bool):List (Bool×Nat):=l.flatMap λx=>ndR q x (q.r x).length
theorem x5o (q:BdQ) (x:Bool) (i:Nat):ndR q x (i+1)=ndR q x i++[(x,i)]:=by unfold ndR;rw [List.range_succ,List.map_append];rfl
theorem v2d (q:BdQ) (x:Bool) (i:Nat):(ndR q x i).length=i:=by simp [ndR]
theorem v8j (q:BdQ) (l:List Bool) (x:Bool):ndP q (l++[x])=ndP q l++ndR q x (q.r x).length:=by unfold ndP;simp
theorem v2h (q:BdQ) (hf:q.fs.length<=40) (hb:q.bs.length<=40):∀l:List Bool,(ndP q l).length<=40*l.length
 | []=>by simp [ndP]
 | x::l=>by
  have ih:=v2h q hf hb l
  have:(q.r x).length<=40:=by cases x<;>assumption
  have e:ndP q (x::l)=ndR q x (q.r x).length++ndP q l:=rfl
  rw [e,List.length_append,v2d,List.length_cons];omega
theorem j1f {q:BdQ} {l:List Bool} {x:Bool} {i:Nat} (h:l++[x] <+: [false,true]) (hi:i<(q.r x).length):(ndP q l++ndR q x i)++[(x,i)] <+: ndP q [false,true]:=by
 obtain ⟨r,hr⟩:=h
 have e:ndP q [false,true]=ndP q l++(ndR q x (q.r x).length++ndP q r):=by
  rw [<-hr];unfold ndP;simp [List.flatMap_append]
 have e2:ndR q x (q.r x).length=ndR q x (i+1)++((List.range' (i+1) ((q.r x).length-(i+1))).map λk=>(x,k)):=by
  unfold ndR
  rw [<-List.map_append,List.range_eq_range',List.range_eq_range']
  congr 1
  have:=List.range'_append (s:=0) (m:=i+1) (n:=(q.r x).length-(i+1)) (step:=1)
  rw [show i+1+((q.r x).length-(i+1))=(q.r x).length by omega] at this
  simpa using this.symm
 rw [e,e2,x5o,List.append_assoc,List.append_assoc,List.append_assoc]
 exact List.prefix_append_right_inj _ |>.2 (by simp)
def bdB (q:BdQ):List Nat:=slB q.fs.length (slv q.f)++slB q.bs.length (slv q.b)
structure BdS (w:World) (q:BdQ):Prop where
  f:Sl z6r w (slv q.f) q.fs
  b:Sl z6r w (slv q.b) q.bs
theorem BdAt.s {w:World} {q:BdQ} (h:BdAt w q):BdS w q:=⟨h.f,h.b⟩
theorem BdS.ext {w w':World} {q:BdQ} (h:BdS w q) (hf:Fr [] w w'):BdS w' q:=⟨h.f.ext hf,h.b.ext hf⟩
theorem BdS.turn {n:Nat} {w w':World} {q:BdQ} (h:BdS w q) (ht:Turn n w w'):BdS w' q:=⟨h.f.turn ht,h.b.turn ht⟩
theorem BdS.keep {Ts:List Nat} {n:Nat} {w w':World} {q:BdQ} (h:BdS w q) (hk:KeepN Ts (bdB q) n w w'):BdS w' q:=
 ⟨h.f.keep hk.1.1 λhne k hb=>List.mem_append_left _ (u1g hne k hb),h.b.keep hk.1.1 λhne k hb=>List.mem_append_right _ (u1g hne k hb)⟩
theorem BdS.lt {w:World} {q:BdQ} (h:BdS w q):∀b∈bdB q,b<w.heap.size:=λb hb=>(List.mem_append.1 hb).elim (u0q h.f b) (u0q h.b b)
theorem BdS.sel {w:World} {q:BdQ} (h:BdS w q) (x:Bool):Sl z6r w (slv (q.h x)) (q.r x):=by
 cases x
 ·exact h.f
 exact h.b
theorem BdS.len {w:World} {q:BdQ} (h:BdS w q) (x:Bool):(q.h x).2.1=(q.r x).length:=z1s (h.sel x)
def ndN (q:BdQ) (s:List (Bool×Nat)):Nat:=(s.map λx=>((q.r x.1).getD x.2 iq0).2.length).sum
theorem u0b (q:BdQ) (s:List (Bool×Nat)) (x:Bool×Nat):ndN q (s++[x])=ndN q s+((q.r x.1).getD x.2 iq0).2.length:=by
 unfold ndN;rw [List.map_append,List.sum_append];simp
theorem u1o (q:BdQ) (hf:z9q q.fs) (hb:z9q q.bs):∀s:List (Bool×Nat),ndN q s<=4*s.length
 | []=>by simp [ndN]
 | x::s=>by
  have ih:=u1o q hf hb s
  have:((q.r x.1).getD x.2 iq0).2.length<=4:=by
   cases x.1
   ·exact z3h hf _
   exact z3h hb _
  unfold ndN at *
  simp only [List.map_cons,List.sum_cons,List.length_cons];omega
theorem x2x:∀(l:List IQ),((List.range l.length).map λk=>(l.getD k iq0).2.length).sum=(plB l).flatten.length
 | []=>rfl
 | x::l=>by
  have ih:=x2x l
  rw [List.length_cons,List.range_succ_eq_map,List.map_cons,List.map_map,List.sum_cons,plB,List.map_cons,List.flatten_cons,List.length_append,<-ih]
  rfl
theorem u1x (q:BdQ):ndN q (ndP q [false,true])=q.p.flat.length:=by
 have e:ndP q [false,true]=ndR q false q.fs.length++ndR q true q.bs.length:=by unfold ndP;simp;rfl
 rw [e]
 unfold ndN ndR
 rw [List.map_append,List.sum_append,List.map_map,List.map_map]
 have h1:=x2x q.fs
 have h2:=x2x q.bs
 unfold Bd.flat
 rw [List.length_append,<-h1,<-h2]
 rfl
def x4v (q:BdQ) (x:Bool) (i:Nat):List LId:=(plB ((q.r x).take i)).flatten
theorem x0q (q:BdQ) (x:Bool) {i:Nat} (h:i<(q.r x).length):x4v q x (i+1)=x4v q x i++((q.r x).getD i iq0).2:=by
 unfold x4v plB
 rw [List.take_add_one,List.getElem?_eq_getElem h,List.map_append,List.flatten_append,List.getD,List.getElem?_eq_getElem h];simp
theorem v9v (q:BdQ) (x:Bool):x4v q x (q.r x).length=(plB (q.r x)).flatten:=by unfold x4v;rw [List.take_length]
def y9m (q:BdQ) (l:List Bool):List LId:=l.flatMap λx=>(plB (q.r x)).flatten
theorem v1u (q:BdQ) (l:List Bool) (x:Bool):y9m q (l++[x])=y9m q l++(plB (q.r x)).flatten:=by unfold y9m;simp
theorem BdAt.iq {w:World} {q:BdQ} (h:BdAt w q) (x:Bool):IqAt w (q.r x):=by cases x;exact h.fi;exact h.bi
theorem v8t (q:BdQ):y9m q [false,true]=q.p.flat:=by unfold y9m Bd.flat;simp;rfl
theorem u9w {q:BdQ} {l:List Bool} {x:Bool} {i j:Nat} (h:l++[x] <+: [false,true]) (hi:i<(q.r x).length) (hj:j<((q.r x).getD i iq0).2.length):(y9m q l++x4v q x i++((q.r x).getD i iq0).2.take j)++[((q.r x).getD i iq0).2.getD j id0] <+: q.p.flat:=by
 obtain ⟨r,hr⟩:=h
 have e:q.p.flat=y9m q l++(x4v q x i++(((q.r x).getD i iq0).2++((plB ((q.r x).drop (i+1))).flatten++y9m q r))):=by
  rw [<-v8t,<-hr]
  have e1:y9m q (l++[x]++r)=y9m q l++((plB (q.r x)).flatten++y9m q r):=by unfold y9m;simp [List.flatMap_append]
  have e2:(plB (q.r x)).flatten=x4v q x (i+1)++(plB ((q.r x).drop (i+1))).flatten:=by
   unfold x4v plB
   rw [<-List.flatten_append,<-List.map_append,List.take_append_drop]
  rw [e1,e2,x0q q x hi];simp
 have e3:((q.r x).getD i iq0).2=((q.r x).getD i iq0).2.take j++[((q.r x).getD i iq0).2.getD j id0]++((q.r x).getD i iq0).2.drop (j+1):=by
  generalize ((q.r x).getD i iq0).2=s at hj
  conv=>lhs;rw [<-List.take_append_drop (j+1) s]
  rw [List.take_add_one,List.getD,List.getElem?_eq_getElem hj];simp
 rw [e]
 refine ⟨((q.r x).getD i iq0).2.drop (j+1)++((plB ((q.r x).drop (i+1))).flatten++y9m q r),?_⟩
 conv=>rhs;rw [e3]
 simp
theorem u5f {q:BdQ} {l:List Bool} {x:Bool} {i j:Nat} (hv:q.p.flat.Nodup) (h:l++[x] <+: [false,true]) (hi:i<(q.r x).length) (hj:j<((q.r x).getD i iq0).2.length):((q.r x).getD i iq0).2.getD j id0∉y9m q l++x4v q x i++((q.r x).getD i iq0).2.take j:=λhm=>by
 have hn:((y9m q l++x4v q x i++((q.r x).getD i iq0).2.take j)++[((q.r x).getD i iq0).2.getD j id0]).Nodup:=List.Nodup.sublist (u9w h hi hj).sublist hv
 exact (List.nodup_append.1 hn).2.2 _ hm _ (List.mem_singleton.2 rfl) rfl
theorem z5g {α:Type} {l:List α} {j:Nat} (d:α) (h:j<l.length):l.take (j+1)=l.take j++[l.getD j d]:=by
 rw [List.take_add_one,List.getD,List.getElem?_eq_getElem h];rfl
theorem x8i {q:BdQ} (hv:BdOk q.p) (x:Bool) {i j:Nat} (hi:i<(q.r x).length) (hj:j<((q.r x).getD i iq0).2.length):y1z (((q.r x).getD i iq0).2.getD j id0):=by
 refine hv.nm _ ?_
 unfold Bd.flat
 have:((q.r x).getD i iq0).2.getD j id0∈(plB (q.r x)).flatten:=List.mem_flatten.2 ⟨_,List.mem_map_of_mem (z0x hi),z0x hj⟩
 cases x
 ·exact List.mem_append_left _ this
 exact List.mem_append_right _ this
theorem z3m {q:BdQ} (hv:BdOk q.p):(q.fs.length<=40/\q.bs.length<=40)/\z9q q.fs/\z9q q.bs:=by
 refine ⟨⟨by simpa using hv.lf,by simpa using hv.lb⟩,λs hs=>hv.ss _ (List.mem_append_left _ (List.mem_map_of_mem hs)),λs hs=>hv.ss _ (List.mem_append_right _ (List.mem_map_of_mem hs))⟩
def oth (q:BdQ) (b n:Int) (x:Bool×Nat):List LId:=if (y2a x.1,(x.2:Int)+1)=(b,n) then [] else ((q.r x.1).getD x.2 iq0).2
def x4f (q:BdQ) (b n:Int) (s:List (Bool×Nat)):List LId:=s.flatMap (oth q b n)
theorem x2i (q:BdQ) (b n:Int) (s:List (Bool×Nat)) (x:Bool×Nat):x4f q b n (s++[x])=x4f q b n s++oth q b n x:=by unfold x4f;simp
theorem y7l:∀(l:List IQ) (m:Nat) (i:LId),((List.range l.length).flatMap λk=>if k=m then [] else (l.getD k iq0).2).count i+(l.getD m iq0).2.count i=(plB l).flatten.count i
 | [],m,i=>by simp [iq0]
 | x::l,m,i=>by
  rw [List.length_cons,List.range_succ_eq_map,List.flatMap_cons,List.count_append,List.flatMap_map]
  have e:(plB (x::l)).flatten=x.2++(plB l).flatten:=rfl
  rw [e,List.count_append]
  cases m with
  | zero=>
   have h:((List.range l.length).flatMap λk=>if k+1=0 then [] else ((x::l).getD (k+1) iq0).2)=(plB l).flatten:=by
    have:=y7l l l.length i
    simp only [Nat.succ_ne_zero,if_false]
    unfold plB
    clear this
    have e2:l.map Prod.snd=(List.range l.length).map λk=>(l.getD k iq0).2:=by
     apply List.ext_getElem (by simp)
     intro j h1 h2
     simp only [List.length_map] at h1
     simp [List.getD,List.getElem?_eq_getElem h1]
    rw [e2,List.flatMap_def];rfl
   rw [h];simp;omega
  | succ m=>
   have ih:=y7l l m i
   have h:((List.range l.length).flatMap λk=>if k+1=m+1 then [] else ((x::l).getD (k+1) iq0).2)=((List.range l.length).flatMap λk=>if k=m then [] else (l.getD k iq0).2):=by
    congr 1
    funext k
    simp
   rw [h]
   simp only [Nat.zero_ne_add_one,if_false,List.getD_cons_succ,List.getD_cons_zero]
   omega
theorem x9m (q:BdQ) (x:Bool) (b n:Int) (hn:1<=n):x4f q b n (ndR q x (q.r x).length)=if y2a x=b then ((List.range (q.r x).length).flatMap λk=>if k=(n-1).toNat then [] else ((q.r x).getD k iq0).2) else (plB (q.r x)).flatten:=by
 unfold x4f ndR
 rw [List.flatMap_map]
 unfold oth
 simp only [Prod.mk.injEq]
 by_cases h:y2a x=b
 ·rw [if_pos h]
  congr 1
  funext k
  simp only [h,true_and]
  by_cases e:(k:Int)+1=n
  ·rw [if_pos e,if_pos (by omega)]
  rw [if_neg e,if_neg (by omega)]
 rw [if_neg h]
 simp only [h,false_and,if_false]
 have e2:plB (q.r x)=(List.range (q.r x).length).map λk=>((q.r x).getD k iq0).2:=by
  unfold plB
  apply List.ext_getElem (by simp)
  intro j h1 h2
  simp only [List.length_map] at h1
  simp [List.getD,List.getElem?_eq_getElem h1]
 rw [e2,List.flatMap_def]
theorem u5k (q:BdQ) {b n:Int} (h:z3d b n=0) (i:LId):(x4f q b n (ndP q [false,true])).count i+(q.p.at b n).count i=q.p.flat.count i:=by
 obtain ⟨h1,h2,h3⟩:=z2v h
 have e:ndP q [false,true]=ndR q false (q.r false).length++ndR q true (q.r true).length:=by unfold ndP;simp
 have e2:x4f q b n (ndP q [false,true])=x4f q b n (ndR q false (q.r false).length)++x4f q b n (ndR q true (q.r true).length):=by rw [e];unfold x4f;simp
 rw [e2,x9m q false b n h2,x9m q true b n h2,List.count_append]
 have r1:((List.range (q.r false).length).flatMap λk=>if k=(n-1).toNat then [] else ((q.r false).getD k iq0).2).count i+((q.fs).getD (n-1).toNat iq0).2.count i=(plB (q.r false)).flatten.count i:=y7l q.fs (n-1).toNat i
 have r2:((List.range (q.r true).length).flatMap λk=>if k=(n-1).toNat then [] else ((q.r true).getD k iq0).2).count i+((q.bs).getD (n-1).toNat iq0).2.count i=(plB (q.r true)).flatten.count i:=y7l q.bs (n-1).toNat i
 have hfl:q.p.flat.count i=(plB (q.r false)).flatten.count i+(plB (q.r true)).flatten.count i:=by unfold Bd.flat;rw [List.count_append];rfl
 have ha:q.p.at b n=if b=0 then (q.fs.getD (n-1).toNat iq0).2 else (q.bs.getD (n-1).toNat iq0).2:=by unfold Bd.at atB;rw [z3x,z3x]
 rw [hfl,ha]
 rcases h1 with rfl|rfl
 ·rw [if_pos (show y2a false=0 from rfl),if_neg (show ¬y2a true=0 by decide),if_pos rfl];omega
 rw [if_neg (show ¬y2a false=1 by decide),if_pos (show y2a true=1 from rfl),if_neg (by decide)];omega
theorem u7l {q:BdQ} {b n:Int} {l:List LId} {j:Nat} (h:z3d b n=0) (hd:∀i,q.p.flat.count i+l.count i<=(q.p.at b n).count i+1) (hj:j<l.length):l.getD j id0∉x4f q b n (ndP q [false,true])++l.take j:=λhm=>by
 have h1:=u5k q h (l.getD j id0)
 have h2:=hd (l.getD j id0)
 have h3:l.count (l.getD j id0)=(l.take j).count (l.getD j id0)+1+(l.drop (j+1)).count (l.getD j id0):=by
  have e:l=l.take j++[l.getD j id0]++l.drop (j+1):=by rw [<-z5g id0 hj,List.take_append_drop]
  generalize l.getD j id0=y at e ⊢
  conv=>lhs;rw [e]
  rw [List.count_append,List.count_append,List.count_singleton];simp
 have h4:=List.count_pos_iff.2 hm
 rw [List.count_append] at h4
 omega
theorem BdO.fr {S I base:Nat} {w w':World} {q:BdQ} {T:List Nat} (h:BdO S I base w q) (hf:Fr T w w') (hT:∀k∈T,k<base):BdO S I base w' q:=⟨h.f.fr hf hT,h.b.fr hf hT⟩
theorem y5u {B:Bd} {b n:Int} (h:z3d b n=0):B.atC b n=B.at b n:=if_pos h
def bdq0:BdQ:=⟨sv0,sv0,[],[]⟩
def y1h (B:Bd) (b n m:Int):List LId:=if b=1 then B.at b n++B.at (1-b) m else B.at (1-b) m++B.at b n
theorem v0q (B:Bd) (b n m:Int):(y1h B b n m).length=(B.at b n).length+(B.at (1-b) m).length:=by
 unfold y1h;split<;>rw [List.length_append];omega
theorem x7y {B:Bd} (h:BdOk B) {b n:Int} (hn:z3d b n=0):BdOk (B.put b n []):=h.put hn (Nat.zero_le _) (λi hi=>by cases hi) (λi=>by
 have h1:=List.nodup_iff_count.1 h.nd i
 simp only [List.count_nil];omega)
end Go.G08
namespace Go.Lw
open Go.RowKit
section
variable {κ:Type} [DecidableEq κ] {V:κ->Value} {P:Program} {K:TypeId}
variable {a:Act} {n:Nat} {L:List (Nat×Value)} {ds:List Nat} {w w':World} {Q:Exit->Act->World->Prop} {ops:Array Oper} {rest:List Oper}
variable {d:Nat} {ty:TypeId} {pos:String} {after:Array Edge} {x y z' r:Operand} {t E:TypeId}
theorem z3z (V:κ->Value) {k:IntKind} {i:Int} (h:AgM ds a n L) (hr:ev L r=some (.int k i)) (hu:P.underlying t=some (.map K E)) (hn:Nat.blt d n=true)
    (q:∀g w',g=w.heap.size->MapF V w' g (λ_=>none)->Fr [] w w'->w'.heap.size=g+1->∀a,AgM ds a n ((d,.map (some g))::L)->wpList P ops Q rest a w'):wpList P ops Q (⟨some d,.makeMap t (some r),ty,pos,after,none⟩::rest) a w:=
  z1u h rfl rfl hn (w':=w.alloc (.map #[] 0)) (by simp [execOp,Instr.makeMap,h.eval hr,run_underlying hu,asInt,asIntOf]) (q _ _ rfl ⟨_,_,[],heap_alloc_new w _,by simp,λ_=>rfl⟩ (Fr.alloc [] w _) (by simp))
theorem x8u (V:κ->Value) {k:IntKind} {i:Int} (hr:ev L r=some (.int k i)) (hu:P.underlying t=some (.map K E)) (hn:Nat.blt d n=true) (q:∀g w',g=w.heap.size->MapF V w' g (λ_=>none)->Fr [] w w'->w'.heap.size=g+1->WL P ops Q rest n ds w' ((d,.map (some g))::L)):WL P ops Q (⟨some d,.makeMap t (some r),ty,pos,after,none⟩::rest) n ds w L:=λa h=>z3z V h hr hu hn q
def z9n (l:List κ) (k:κ):Option Value:=if k∈l then some (.bool true) else none
theorem x7b:z9n ([]:List κ)=λ_=>none:=by funext k;simp [z9n]
theorem y8g (l:List κ) (k:κ):(λk'=>if k'=k then some (Value.bool true) else z9n l k')=z9n (l++[k]):=by
 funext k'
 unfold z9n
 by_cases h:k'=k
 ·subst h;simp
 simp [h]
theorem x6x (l:List κ) (k:κ):(z9n l k).getD (.bool false)=.bool (decide (k∈l)):=by
 unfold z9n
 by_cases h:k∈l
 ·rw [if_pos h,decide_eq_true h];rfl
 rw [if_neg h,decide_eq_false h];rfl
theorem MapF.turn {g n0:Nat} {f:κ->Option Value} (h:MapF V w g f) (ht:Turn n0 w w') (hg:g<n0):MapF V w' g f:=by
 obtain ⟨es,c,m,h1,h2⟩:=h
 exact ⟨es,c,m,ht.at h1 (.inr hg),h2⟩
theorem MapF.noncells {g:Nat} {f:κ->Option Value} (h:MapF V w g f):x6f w g:=let ⟨_,_,_,h1,_⟩:=h;⟨_,h1,rfl⟩
end
end Go.Lw
namespace Go.Proofs.YtpgdchkdlgkmgaaGreatDoor
open Go.Lw Go.G21 Go.G08 _root_.Go.Proofs.Tryz
theorem y9h (q:BdQ) (w0:World):Rets prog 93 #[.agg #[.slice q.f.1 q.f.2.1 q.f.2.2,.slice q.b.1 q.b.2.1 q.b.2.2]] w0 λr w'=>∃g,r=.func (.func 134) #[] #[.pointer (some ⟨g,0,none⟩)]/\w0.heap.size<=g/\Blk w' g 32 (bdL q)/\Fr [] w0 w':=by
 refine we [(0,.agg #[.slice q.f.1 q.f.2.1 q.f.2.2,.slice q.b.1 q.b.2.1 q.b.2.2])] func93 rfl ntmps93 rfl (.cons rfl .nil) (sr (bx rfl rfl rfl (λg1 w1 hg1 hb1 q1 z1=>(asg rfl (nn (sr (z7l z0g (ev1 rfl) rfl (asg rfl (nn (rt (r1 results93 rfl ?_)))))))))))
 exact ⟨_,rfl,g1,rfl,by omega,hb1,q1⟩
theorem y6n (q:BdQ) (w0:World):Rets prog 135 #[.agg #[.slice q.f.1 q.f.2.1 q.f.2.2,.slice q.b.1 q.b.2.1 q.b.2.2]] w0 λr w'=>∃g,r=.func (.func 188) #[] #[.pointer (some ⟨g,0,none⟩)]/\w0.heap.size<=g/\Blk w' g 32 (bdL q)/\Fr [] w0 w':=by
 refine we [(0,.agg #[.slice q.f.1 q.f.2.1 q.f.2.2,.slice q.b.1 q.b.2.1 q.b.2.2])] func135 rfl ntmps135 rfl (.cons rfl .nil) (sr (bx rfl rfl rfl (λg1 w1 hg1 hb1 q1 z1=>(asg rfl (nn (sr (z7l z0g (ev1 rfl) rfl (asg rfl (nn (rt (r1 results135 rfl ?_)))))))))))
 exact ⟨_,rfl,g1,rfl,by omega,hb1,q1⟩
theorem y2y (N gD:Nat) (q:BdQ) (wS:World) (hbS:Blk wS gD 32 (bdL q)):u9p N prog 134 #[.pointer (some ⟨gD,0,none⟩)] (bdE q) (KeepN [] [gD] (wS.heap.size+2)) (λxs:List Bool=>xs=[false,true]) (λ_=>True) (λs=>s <+: [false,true]) 2 wS:=by
 intro ly J Jx w0 hbel hz0 hJt hJxt hyp hJ0
 have hb1:=hbS.ext (Fr.of_below' hbel (Nat.le_refl _))
 refine weI [(0,.func (.yield ly) #[] #[]),(1,.pointer (some ⟨gD,0,none⟩))] func134 rfl ntmps134 rfl (.c2 rfl rfl) ?_
 refine isq (j4z 3 rfl rfl rfl (by intro g e;cases e) (mv rfl (fad rfl y6o (z0i rfl hb1 rfl x5f ?_))))
 refine j4m rfl (ev2 rfl rfl) (j4q (Pf:=λs=>s <+: [false,true]) (x:=false) hyp hJ0 (by decide) (by simp) (by rfl)) rfl ?_
 rintro _ w1 (⟨rfl,hJ1,hK1⟩|⟨rfl,hJ1,_⟩)
 ·have hb2:=hb1.keep hK1.1.1 (List.mem_singleton.2 rfl)
  refine inl (itn (ict rfl (j4z 3 rfl rfl rfl (by intro g e;cases e) (mv rfl (fad rfl y2k (z0i rfl hb2 rfl x5f ?_))))))
  refine j4m rfl (ev2 rfl rfl) (j4q (Pf:=λs=>s <+: [false,true]) (x:=true) hyp hJ1 (by decide) (by simp) (by rfl)) rfl ?_
  rintro _ w2 (⟨rfl,hJ2,_⟩|⟨rfl,hJ2,_⟩)
  ·refine kpL [] .nil (inl (r0n results134 ?_))
   exact ⟨⟨_,rfl⟩,.inl ⟨[false,true],rfl,hJ2⟩⟩
  refine kpL [] .nil (inl (r0n results134 ?_))
  exact ⟨⟨_,rfl⟩,.inr ⟨_,trivial,hJ2⟩⟩
 refine inl (itn (icf rfl (isk (r0n results134 ?_))))
 exact ⟨⟨_,rfl⟩,.inr ⟨_,trivial,hJ1⟩⟩
theorem j3g:z2b prog 286:=λ_=>by kernel_rfl
set_option maxHeartbeats 1000000 in
theorem y3h (N gD:Nat) (q:BdQ) (wS:World) (hN:1<=N) (hbS:Blk wS gD 32 (bdL q)) (hS:BdS wS q) (hf:q.fs.length<=40) (hb:q.bs.length<=40):u9p N prog 188 #[.pointer (some ⟨gD,0,none⟩)] (ndE q) (KeepN [286,32] (bdB q) (wS.heap.size+2)) (λxs:List (Bool×Nat)=>xs=ndP q [false,true]) (λ_=>True) (λs=>s <+: ndP q [false,true]) 81 wS:=by
 intro ly J Jx w0 hbel hz0 hJt hJxt hyp hJ0
 have hF:Fr [] wS w0:=Fr.of_below' hbel (Nat.le_refl _)
 refine weIM [(0,.func (.yield ly) #[] #[]),(1,.pointer (some ⟨gD,0,none⟩))] func188 rfl ntmps188 rfl (.c2 rfl rfl) (isq (irg rfl (bx rfl rfl rfl (λg2 w1 hg2 hb2 q1 z1=>(inl (itn (isq (irg rfl ?_))))))))
 have hb1:=(hbS.ext hF).ext q1
 refine z0n rfl hb1 z5k (cl (ev1 rfl) (mkC func93) (y9h q _) rfl ?_)
 rintro _ w2 ⟨g8,rfl,hg8,hb8,q2⟩
 refine inl (itn (ibl ?_))
 replace hb2:=hb2.ext q2
 have hS2:=hS.ext (hF.next (q1.n1 q2))
 have hlt2:=hb2.lt
 have hlt8:=hb8.lt
 have hJ2:=hJt _ _ _ (Turn.of_fr (q1.n1 q2)) hJ0
 refine x2q [(2,_),(8,_)] (.c2 rfl rfl) ?_
 refine x9y (α:=Bool) rfl (mkC func134) hN (y2y (N-1) g8 q w2 hb8) (λb hb=>by rw [List.mem_singleton.1 hb];exact hlt8) (λ_=>rfl)
  (λx=>[(10,slv (q.h x)),(9,.int .u8 (y2a x))]) (λx=>by simp [bdE,y2a]) (λx=>rfl)
  (λs W=>J (ndP q s) W/\Blk W g2 286 [.func (.yield ly) #[] #[]]/\Blk W g8 32 (bdL q)/\BdS W q/\w2.heap.size<=W.heap.size) (λ_ W=>∃pre,Jx pre W)
  (λs W W' ht h=>⟨hJt _ _ _ (ht.low (by omega)) h.1,h.2.1.turn ht,h.2.2.1.turn ht,h.2.2.2.1.turn ht,let ⟨_,hg,_⟩:=ht;Nat.le_trans h.2.2.2.2 hg.size⟩) (λs W W' ht h=>let ⟨p,hp⟩:=h;⟨p,hJxt _ _ _ (ht.low (by omega)) hp⟩)
  ⟨hJ2,hb2,hb8,hS2,Nat.le_refl _⟩ (λx=>[(4,slv (q.h x)),(3,.int .u8 (y2a x))]) [(2,.pointer (some ⟨g2,0,none⟩))] (.cons rfl .nil) ?_ ?_ ?_ ?_
 ·intro lN pre x w3 hi
  refine x2q [(9,_),(10,_),(2,_)] (.c3 rfl rfl rfl) (isq (irg rfl (asg rfl (inl (itn (irg rfl (asg rfl (inl ?_))))))))
  exact asU (.c3 rfl rfl rfl)
 ·rintro lN pre x w3 hlN ⟨hJ3,hb23,hb83,hS3,hz3⟩ hlt hpf
  have hpl:=v2h q hf hb pre
  have hrl:(q.r x).length<=40:=by cases x<;>assumption
  have hhl:=hS3.len x
  refine ibl (isq (irg rfl (mv rfl (lnS rfl underlying30 (mv rfl (inl (itn (ibl (v5n (ι:=Nat) [(2,_),(3,_),(11,_),(12,_)] (λi=>[(13,.int .i64 (i:Int))]) (λi w'=>J (ndP q pre++ndR q x i) w'/\i<=(q.r x).length/\KeepN [286,32] (bdB q) w2.heap.size w3 w') (λi=>(q.r x).length-i) 0 (.c5 rfl rfl rfl rfl rfl) ⟨by simpa [ndR] using hJ3,Nat.zero_le _,KeepN.refl⟩ ?_)))))))))
  rintro i w4 ⟨hJ4,hi,hK4⟩
  have hb24:=hb23.keepT hK4.1 (by decide)
  have hS4:=hS3.keep hK4
  refine x2q [(2,_),(3,_),(11,_),(12,_),(13,.int .i64 (i:Int))] (.c5 rfl rfl rfl rfl rfl) (isq (irg rfl (lt' rfl rfl (inl (itn (isq (icd rfl (λc0=>?_) (λc0=>?_))))))))
  ·refine isk (itn (isq (ibl (isq (irg rfl (mv rfl (z1a (p:=i) (iq0) rfl (hS4.sel x) rfl y5b (by omega) (λad hc=>(z1i rfl (hc _ (hS4.sel x)) z6t (asg rfl (asg rfl (inl (itn (isq (isq (irg rfl (mv rfl (ge' rfl rfl (inl (itn (icd rfl (λc1=>absurd c1 (by omega)) (λc1=>(isk (itn ?_))))))))))))))))))))))))
   refine isq (j4z 6 rfl rfl rfl (by intro g e;cases e) ?_)
   refine z3w rfl hb24 j3g (mv rfl (mv rfl ?_))
   refine z0y rfl rfl (wi6 (by omega)) (z1r (cs:=[_,_]) (ev2 rfl rfl) y9u (z0f rfl rfl rfl (z0f rfl rfl rfl z0s)) rfl ?_)
   refine mv rfl ?_
   refine j4m rfl (ev2 rfl rfl) (j4q (Pf:=λs=>s <+: ndP q [false,true]) (x:=(x,i)) hyp hJ4 (by rw [List.length_append,v2d];omega) (j1f hpf (by omega)) (by rfl)) rfl ?_
   rintro _ w5 (⟨rfl,hJ5,hK5⟩|⟨rfl,hJ5,hK5⟩)
   ·refine nt' rfl (inl (itn (icf rfl (isk (bn' (itn (irg rfl (z0y rfl rfl (wi6 (by omega)) (mv rfl (inl ?_))))))))))
    exact v6a (i+1) (.c5 rfl rfl rfl rfl rfl) ⟨by rw [x5o,<-List.append_assoc];exact hJ5,by omega,hK4.trans (hK5.low (by omega))⟩ (by omega)
   refine nt' rfl (inl (itn (ict rfl (irt ?_))))
   exact rb (tr (tr (rb (rb (rndX (hK4.2.trans (KeepsFrom.low hK5 (by omega))) ⟨_,hJ5⟩)))))
  obtain rfl:i=(q.r x).length:=by omega
  refine iex (te (te (xh (bn' ?_))))
  exact rndK hK4.2 ⟨λb hb=>by rw [List.mem_singleton.1 hb];exact (show w4.heap[g8]?=_ from hb83.keepT hK4.1 (by decide)).trans (show w3.heap[g8]?=_ from hb83).symm,λ_ _ _ _ h=>by cases h⟩ ⟨by rw [v8j];exact hJ4,hb24,hb83.keepT hK4.1 (by decide),hS4,Nat.le_trans hz3 hK4.2.size⟩
 ·rintro D xs W hD rfl ⟨hJ5,_⟩ hm
  refine bn' (rM0n results188 (x5v hm) (by simp) ?_)
  intro w6 q6
  exact ⟨⟨_,rfl⟩,.inl ⟨_,rfl,hJt _ _ _ (Turn.of_mark q6 hm (by omega)) hJ5⟩⟩
 rintro D pre W hD _ ⟨p,hp⟩ hm
 refine rb (rM0 results188 (x5v hm) (by simp) ?_)
 intro w6 q6
 exact ⟨⟨_,rfl⟩,.inr ⟨_,trivial,hJxt _ _ _ (Turn.of_mark q6 hm (by omega)) hp⟩⟩
theorem x0r (q:BdQ) (w0:World) (hB:BdAt w0 q) (hf:q.fs.length<=40) (hb:q.bs.length<=40) (h4:z9q q.fs) (h4b:z9q q.bs):Rets prog 95 #[.agg #[.slice q.f.1 q.f.2.1 q.f.2.2,.slice q.b.1 q.b.2.1 q.b.2.2]] w0 λr w'=>r=.int .i64 (q.p.flat.length:Int)/\Fr [] w0 w':=by
 refine weM [(0,.agg #[.slice q.f.1 q.f.2.1 q.f.2.2,.slice q.b.1 q.b.2.1 q.b.2.2])] func95 rfl ntmps95 rfl (.cons rfl .nil) ?_
 have hB0:=hB
 refine isq (irg rfl (bx rfl rfl rfl (λg1 w1 hg1 hb1 q1 z1=>(asg rfl (inl (itn (isq (irg rfl (al zv3 rfl rfl (λg3 w2 hg3 hb3 q2 z2=>(z5u rfl rfl hb3 rfl sz3 (λw3 hb3 q3 z3=>(inl (itn (isq (isq (irg rfl ?_)))))))))))))))))
 replace hb1:=(hb1.ext q2).fr q3
 refine z0n rfl hb1 z5k (cl (ev1 rfl) (mkC func135) (y6n q _) rfl ?_)
 rintro _ w4 ⟨g7,rfl,hgg7,hbg7,q4⟩
 have z4:=q4.size
 refine inl (itn (ibl ?_))
 have hBo:∀b∈bdB q,b<w0.heap.size:=BdS.lt hB0.s
 replace hb3:=hb3.ext q4
 replace hB:=hB0.ext (q1.z3 q2 q3 q4)
 refine x9y (α:=Bool×Nat) rfl (mkC func188) (by decide) (y3h 8 g7 q w4 (by decide) hbg7 hB.s hf hb) (BdS.lt hB.s) (λ_=>rfl) (λx=>[(9,.slice ((q.r x.1).getD x.2 iq0).1.1 ((q.r x.1).getD x.2 iq0).1.2.1 ((q.r x.1).getD x.2 iq0).1.2.2),(8,.agg #[.int .u8 (y2a x.1),.int .i64 ((x.2:Int)+1)])]) (λx=>by simp [ndE,slv]) (λ_=>rfl) (λ(s:List (Bool×Nat)) (W:World)=>Fr [g3] w4 W/\Blk W g3 3 [.int .i64 (ndN q s:Int)]/\s.length<=81) (λ_ _=>False) (λs W W' ht h=>⟨h.1.turn ht (Nat.le_refl _),h.2.1.turn ht,h.2.2⟩) (λ_ _ _ _ h=>h.elim) ⟨Fr.refl _ _,hb3,Nat.zero_le _⟩ (λx=>[(5,.slice ((q.r x.1).getD x.2 iq0).1.1 ((q.r x.1).getD x.2 iq0).1.2.1 ((q.r x.1).getD x.2 iq0).1.2.2)]) [(3,_)] (.cons rfl .nil) ?_ ?_ ?_ (λ_ _ _ _ _ h _=>h.elim)
 ·rintro lN pre x w5 ⟨q5,hb3,hsl⟩
  refine x2q [(8,.agg #[.int .u8 (y2a x.1),.int .i64 ((x.2:Int)+1)]),(9,.slice ((q.r x.1).getD x.2 iq0).1.1 ((q.r x.1).getD x.2 iq0).1.2.1 ((q.r x.1).getD x.2 iq0).1.2.2),(3,_)] (.c3 rfl rfl rfl) (irg rfl (asg rfl (inl ?_)))
  exact asU (.c2 rfl rfl)
 ·rintro lN pre x w6 hlN ⟨q6,hb3,hsl⟩ hlt hpf
  have z6:=q6.size
  have lt_hb3:=hb3.lt
  have hb3S:=hb3
  have hnl:=u1o q h4 h4b pre
  have hx4:=z3h (show z9q (q.r x.1) by cases x.1<;>assumption) x.2
  have hxl:((q.r x.1).getD x.2 iq0).1.2.1=((q.r x.1).getD x.2 iq0).2.length:=z1s (z1z (show IqAt w0 (q.r x.1) by cases x.1;exact hB0.fi;exact hB0.bi) x.2)
  refine ibl (irg rfl (z3w rfl hb3 na3 (mv rfl (lnS rfl underlying37 (z0y rfl rfl (wi6 (by omega)) (z5u rfl rfl hb3 rfl sz3 (λw7 hb3 q7 z7=>(kpL [] .nil (inl (bn' ?_))))))))))
  exact u8a (S:=[g3]) ((Fr.refl [g3] _).z1 q7) (λk hk _=>by cases List.mem_singleton.1 hk;exact .inl (hb3S.tyC (by decide))) (λb hb=>Nat.lt_of_lt_of_le (hBo b hb) (by omega)) (λb hb e=>by simp at e;have:=hBo b hb;omega) ⟨((Fr.refl [g3] _).z2 q6 q7),by rw [u0b,<-hxl];exact hb3,by rw [List.length_append];simp;omega⟩
 rintro D1 xs' w8 hD1 hS ⟨q8,hb3,hsl⟩ hmk0
 have z8:=q8.size
 have hmk00:=hmk0
 have lt_hmk0:=hmk0.lt
 have lt_hb3:=hb3.lt
 subst hS
 rw [u1x] at hb3
 refine bn' (itn (isq (irg rfl (z3w rfl hb3 na3 (asg rfl (inl (itn (irt (rM1 results95 rfl (x5v hmk0) (by simp) ?_)))))))))
 intro w9 q9
 exact ⟨_,rfl,rfl,(q1.z5 q2 q3 q4 q8 q9)⟩
theorem na42:z2b prog 42:=λ_=>by kernel_rfl
theorem v1s:z2b prog 173:=λ_=>by kernel_rfl
theorem sz42:z1q prog 42 1:=λ_=>by kernel_rfl
theorem j1v:z1q prog 173 1:=λ_=>by kernel_rfl
theorem zv4 (w:World):(zeroValue 4).run prog w=.ok (.bool false) w:=by kernel_rfl
theorem zv42 (w:World):(zeroValue 42).run prog w=.ok (.int .i64 0) w:=by kernel_rfl
theorem u9f (w:World):(zeroValue 173).run prog w=.ok (.map none) w:=by kernel_rfl
set_option maxHeartbeats 2000000 in
theorem y9e (q:BdQ) (w0:World) (hB:BdAt w0 q) (hv:BdOk q.p):Rets prog 43 #[.agg #[.slice q.f.1 q.f.2.1 q.f.2.2,.slice q.b.1 q.b.2.1 q.b.2.2]] w0 λr w'=>r=.int .i64 0/\Fr [] w0 w':=by
 obtain ⟨⟨hf,hb⟩,h4,h4b⟩:=z3m hv
 refine weM [(0,.agg #[.slice q.f.1 q.f.2.1 q.f.2.2,.slice q.b.1 q.b.2.1 q.b.2.2])] func43 rfl ntmps43 rfl (.cons rfl .nil) ?_
 have hB0:=hB
 refine isq (irg rfl (bx rfl rfl rfl (λg1 w1 hg1 hb1 q1 z1=>(al zv42 rfl rfl (λg2 w2 hg2 hb2 q2 z2=>(inl (itn (isq (isq (irg rfl ?_))))))))))
 replace hb1:=hb1.ext q2
 refine z0n rfl hb1 z5k (cl (ev1 rfl) (mkC func93) (y9h q _) rfl ?_)
 rintro _ w3 ⟨g21,rfl,hgg21,hbg21,q3⟩
 have z3:=q3.size
 refine inl (itn (ibl ?_))
 have ltg21:=hbg21.lt
 refine x9y (α:=Bool) rfl (mkC func134) (by decide) (y2y 8 g21 q w3 hbg21) (λb hb_=>by rw [List.mem_singleton.1 hb_];exact hbg21.lt) (λ_=>rfl) (λx=>[(23,.slice (q.h x).1 (q.h x).2.1 (q.h x).2.2),(22,.int .u8 (y2a x))]) (λx=>by simp [bdE,y2a,slv]) (λ_=>rfl) (λ(s:List (Bool)) (W:World)=>Fr [] w3 W/\True) (λ_ _=>False) (λs W W' ht h=>⟨h.1.turn ht (Nat.le_refl _),h.2⟩) (λ_ _ _ _ h=>h.elim) ⟨Fr.refl _ _,trivial⟩ (λx=>[(4,.slice (q.h x).1 (q.h x).2.1 (q.h x).2.2)]) [(1,_),(2,_)] (.c2 rfl rfl) ?_ ?_ ?_ (λ_ _ _ _ _ h _=>h.elim)
 ·rintro lN pre x w4 ⟨q4,-⟩
  refine x2q [(22,.int .u8 (y2a x)),(23,.slice (q.h x).1 (q.h x).2.1 (q.h x).2.2),(1,_),(2,_)] (.c4 rfl rfl rfl rfl) (irg rfl (asg rfl (inl ?_)))
  exact asU (.c3 rfl rfl rfl)
 ·rintro lN pre x w5 hlN ⟨q5,-⟩ hlt hpf
  have z5:=q5.size
  have hhl:=(BdS.len hB0.s x)
  have hrl:(q.r x).length<=40:=by cases x<;>assumption
  have hr4:z9q (q.r x):=by cases x<;>assumption
  refine ibl (isq (isq (irg rfl (mv rfl (lnS rfl underlying30 (gt' rfl rfl (inl (itn (icd rfl (λc0=>?_) (λc0=>?_))))))))))
  ·exfalso;omega
  refine isk (itn (isq (irg rfl (mv rfl (lnS rfl underlying30 (mv rfl (inl (itn (ibl (v5n (ι:=Nat) [(2,_),(27,_),(28,_)] (λi=>[(29,.int .i64 (i:Int))]) (λi w'=>Fr [] w5 w'/\i<=(q.r x).length) (λi=>(q.r x).length-i) 0 (.c4 rfl rfl rfl rfl) ⟨Fr.refl _ _,Nat.zero_le _⟩ ?_))))))))))
  rintro i w6 ⟨q6,hi⟩
  have z6:=q6.size
  refine x2q [(2,_),(27,_),(28,_),(29,_)] (.c4 rfl rfl rfl rfl) (isq (irg rfl (lt' rfl rfl (inl (itn (isq (icd rfl (λc1=>?_) (λc1=>?_))))))))
  ·have hsl:=z1s (z1z (hB0.iq x) i)
   have hs4:=z3h hr4 i
   refine isk (itn (isq (ibl (isq (irg rfl ?_)))))
   replace hB:=hB0.ext (q1.n4 q2 q3 q5 q6)
   refine z1a (iq0) rfl (hB.s.sel x) rfl y5b z1f (λad31 hc31=>?_)
   refine z1i rfl (hc31 _ (hB.s.sel x)) z6t (asg rfl (inl (itn (isq (irg rfl (mv rfl (lnS rfl underlying37 (gt' rfl rfl (inl (itn (icd rfl (λc2=>?_) (λc2=>?_))))))))))))
   ·exfalso;omega
   refine isk (bn' (itn (irg rfl (z0y rfl rfl (wi6 (by omega)) (mv rfl (inl ?_))))))
   exact v6a (i+1) (.c4 rfl rfl rfl rfl) ⟨q6,by omega⟩ (by omega)
  obtain rfl:i=(q.r x).length:=by omega
  refine iex (te (te (xh (bn' ?_))))
  exact u8a (S:=[]) q6 (by simp) (λb hb_=>by rw [List.mem_singleton.1 hb_];omega) (by simp) ⟨(q5.n1 q6),trivial⟩
 rintro D1 xs' w7 hD1 hS ⟨q7,-⟩ hmk0
 have z7:=q7.size
 have hmk00:=hmk0
 have lt_hmk0:=hmk0.lt
 refine bn' (itn (isq (isq (irg rfl ?_))))
 replace hb1:=hb1.ext (q3.n1 q7)
 refine z0n rfl hb1 z5k (cl (ev1 rfl) (mkC func93) (y9h q _) rfl ?_)
 rintro _ w8 ⟨g38,rfl,hgg38,hbg38,q8⟩
 have z8:=q8.size
 refine inl (itn (ibl ?_))
 have ltg38:=hbg38.lt
 refine x9y (α:=Bool) rfl (mkC func134) (by decide) (y2y 8 g38 q w8 hbg38) (λb hb_=>by rw [List.mem_singleton.1 hb_];exact hbg38.lt) (λ_=>rfl) (λx=>[(40,.slice (q.h x).1 (q.h x).2.1 (q.h x).2.2),(39,.int .u8 (y2a x))]) (λx=>by simp [bdE,y2a,slv]) (λ_=>rfl) (λ(s:List (Bool)) (W:World)=>Fr [] w8 W/\True) (λ_ _=>False) (λs W W' ht h=>⟨h.1.turn ht (Nat.le_refl _),h.2⟩) (λ_ _ _ _ h=>h.elim) ⟨Fr.refl _ _,trivial⟩ (λx=>[(8,.slice (q.h x).1 (q.h x).2.1 (q.h x).2.2)]) [(1,_),(2,_)] (.c2 rfl rfl) ?_ ?_ ?_ (λ_ _ _ _ _ h _=>h.elim)
 ·rintro lN pre x w9 ⟨q9,-⟩
  refine x2q [(39,.int .u8 (y2a x)),(40,.slice (q.h x).1 (q.h x).2.1 (q.h x).2.2),(1,_),(2,_)] (.c4 rfl rfl rfl rfl) (irg rfl (asg rfl (inl ?_)))
  exact asU (.c3 rfl rfl rfl)
 ·rintro lN pre x w10 hlN ⟨q10,-⟩ hlt hpf
  have z10:=q10.size
  have hhl:=(BdS.len hB0.s x)
  have hrl:(q.r x).length<=40:=by cases x<;>assumption
  have hr4:z9q (q.r x):=by cases x<;>assumption
  refine ibl (isq (irg rfl (mv rfl (lnS rfl underlying30 (mv rfl (inl (itn (ibl (v5n (ι:=Nat) [(2,_),(41,_),(42,_)] (λi=>[(43,.int .i64 (i:Int))]) (λi w'=>Fr [] w10 w'/\i<=(q.r x).length) (λi=>(q.r x).length-i) 0 (.c4 rfl rfl rfl rfl) ⟨Fr.refl _ _,Nat.zero_le _⟩ ?_)))))))))
  rintro i w11 ⟨q11,hi⟩
  have z11:=q11.size
  refine x2q [(2,_),(41,_),(42,_),(43,_)] (.c4 rfl rfl rfl rfl) (isq (irg rfl (lt' rfl rfl (inl (itn (isq (icd rfl (λc3=>?_) (λc3=>?_))))))))
  ·have hsl:=z1s (z1z (hB0.iq x) i)
   have hs4:=z3h hr4 i
   refine isk (itn (isq (ibl (isq (irg rfl ?_)))))
   replace hB:=hB0.ext (q1.n6 q2 q3 q7 q8 q10 q11)
   refine z1a (iq0) rfl (hB.s.sel x) rfl y5b z1f (λad45 hc45=>?_)
   refine z1i rfl (hc45 _ (hB.s.sel x)) z6t (asg rfl (inl (itn (isq (irg rfl (mv rfl (lnS rfl underlying37 (mv rfl (inl (itn (ibl (v5n (ι:=Nat) [(2,_),(41,_),(42,_),(43,_),(47,_),(48,_)] (λj=>[(49,.int .i64 (j:Int))]) (λj w'=>Fr [] w11 w'/\j<=((q.r x).getD i iq0).2.length) (λj=>((q.r x).getD i iq0).2.length-j) 0 (.c7 rfl rfl rfl rfl rfl rfl rfl) ⟨Fr.refl _ _,Nat.zero_le _⟩ ?_))))))))))))
   rintro j w12 ⟨q12,hj⟩
   have z12:=q12.size
   refine x2q [(2,_),(41,_),(42,_),(43,_),(47,_),(48,_),(49,_)] (.c7 rfl rfl rfl rfl rfl rfl rfl) (isq (irg rfl (lt' rfl rfl (inl (itn (isq (icd rfl (λc4=>?_) (λc4=>?_))))))))
   ·have hnm:=x8i hv x (i:=i) (j:=j) (by omega) (by omega)
    refine isk (itn (isq (ibl (isq (irg rfl ?_)))))
    replace hB:=hB0.ext ((q1.n6 q2 q3 q7 q8 q10 q11).n1 q12)
    refine z1a (id0) rfl (z1z (hB.iq x) i) rfl z5v z1f (λad51 hc51=>?_)
    refine z1j rfl (hc51 _ (z1z (hB.iq x) i)) z3g (al y2s rfl rfl (λg12 w13 hg12 hb12 q13 z13=>?_))
    refine z0j (vs:=[_,_]) rfl rfl hb12 y1n (λw14 hb12 q14 z14=>?_) (h1:=(by first|(simp [Value.oneCell',S];done)|exact z1h.one (((q.r x).getD i iq0).2.getD j id0)))
    refine inl (itn (isq (irg rfl (z0n rfl hb12 z3g (cl (ev1 rfl) (mkC func94) (y8z (((q.r x).getD i iq0).2.getD j id0) _) rfl ?_)))))
    rintro _ w15 ⟨rfl,q15⟩
    have z15:=q15.size
    refine nt' rfl (inl (itn (icd rfl (λc5=>?_) (λc5=>?_))))
    ·exact absurd hnm c5
    refine isk (bn' (itn (irg rfl (z0y rfl rfl (wi6 (by omega)) (mv rfl (inl ?_))))))
    exact v6a (j+1) (.c7 rfl rfl rfl rfl rfl rfl rfl) ⟨(q12.z3 q13 q14 q15),by omega⟩ (by omega)
   obtain rfl:j=((q.r x).getD i iq0).2.length:=by omega
   refine iex (te (te (xh (bn' (itn (irg rfl (z0y rfl rfl (wi6 (by omega)) (mv rfl (inl ?_)))))))))
   exact v6a (i+1) (.c4 rfl rfl rfl rfl) ⟨(q11.n1 q12),by omega⟩ (by omega)
  obtain rfl:i=(q.r x).length:=by omega
  refine iex (te (te (xh (bn' ?_))))
  exact u8a (S:=[]) q11 (by simp) (λb hb_=>by rw [List.mem_singleton.1 hb_];omega) (by simp) ⟨(q10.n1 q11),trivial⟩
 rintro D2 xs' w16 hD2 hS ⟨q16,-⟩ hmk1
 have z16:=q16.size
 have hmk10:=hmk1
 have lt_hmk1:=hmk1.lt
 refine bn' (itn (isq (irg rfl ?_)))
 replace hb1:=hb1.ext (q8.n1 q16)
 refine z0n rfl hb1 z5k ?_
 replace hB:=hB0.ext (q1.n5 q2 q3 q7 q8 q16)
 refine cl (ev1 rfl) (mkC func95) (x0r q _ hB (by omega) (by omega) (by assumption) (by assumption)) rfl ?_
 rintro _ w17 ⟨rfl,q17⟩
 have z17:=q17.size
 refine x8u idV rfl underlying173 rfl (λg60 w18 hg60 hm q18 z18=>?_)
 rw [<-x7b] at hm
 refine al u9f rfl rfl (λg13 w19 hg13 hb13 q19 z19=>(z5u rfl rfl hb13 rfl j1v (λw20 hb13 q20 z20=>(inl (itn (isq (isq (irg rfl ?_))))))))
 replace hb1:=(hb1.ext (q17.n2 q18 q19)).fr q20
 refine z0n rfl hb1 z5k (cl (ev1 rfl) (mkC func93) (y9h q _) rfl ?_)
 rintro _ w21 ⟨g62,rfl,hgg62,hbg62,q21⟩
 have z21:=q21.size
 refine inl (itn (ibl ?_))
 have ltg62:=hbg62.lt
 replace hm:=((hm.ext q19).fr q20 (by simp;omega)).ext q21
 refine x9y (α:=Bool) rfl (mkC func134) (by decide) (y2y 8 g62 q w21 hbg62) (λb hb_=>by rw [List.mem_singleton.1 hb_];exact hbg62.lt) (λ_=>rfl) (λx=>[(64,.slice (q.h x).1 (q.h x).2.1 (q.h x).2.2),(63,.int .u8 (y2a x))]) (λx=>by simp [bdE,y2a,slv]) (λ_=>rfl) (λ(s:List (Bool)) (W:World)=>Fr [g60] w21 W/\MapF idV W g60 (z9n (y9m q s))) (λ_ _=>False) (λs W W' ht h=>⟨h.1.turn ht (Nat.le_refl _),h.2.turn ht (by omega)⟩) (λ_ _ _ _ h=>h.elim) ⟨Fr.refl _ _,hm⟩ (λx=>[(15,.slice (q.h x).1 (q.h x).2.1 (q.h x).2.2)]) [(1,_),(2,_),(13,_)] (.c3 rfl rfl rfl) ?_ ?_ ?_ (λ_ _ _ _ _ h _=>h.elim)
 ·rintro lN pre x w22 ⟨q22,hm⟩
  refine x2q [(63,.int .u8 (y2a x)),(64,.slice (q.h x).1 (q.h x).2.1 (q.h x).2.2),(1,_),(2,_),(13,_)] (.c5 rfl rfl rfl rfl rfl) (irg rfl (asg rfl (inl ?_)))
  exact asU (.c4 rfl rfl rfl rfl)
 ·rintro lN pre x w23 hlN ⟨q23,hm⟩ hlt hpf
  have z23:=q23.size
  have hhl:=(BdS.len hB0.s x)
  have hrl:(q.r x).length<=40:=by cases x<;>assumption
  have hr4:z9q (q.r x):=by cases x<;>assumption
  have hmS:=hm
  refine ibl (isq (irg rfl (mv rfl (lnS rfl underlying30 (mv rfl (inl (itn (ibl (v5n (ι:=Nat) [(2,_),(13,_),(65,_),(66,_)] (λi=>[(67,.int .i64 (i:Int))]) (λi w'=>Fr [g60] w23 w'/\i<=(q.r x).length/\MapF idV w' g60 (z9n (y9m q pre++x4v q x i))) (λi=>(q.r x).length-i) 0 (.c5 rfl rfl rfl rfl rfl) ⟨Fr.refl _ _,⟨Nat.zero_le _,by simpa [x4v] using hm⟩⟩ ?_)))))))))
  rintro i w24 ⟨q24,⟨hi,hm⟩⟩
  have z24:=q24.size
  refine x2q [(2,_),(13,_),(65,_),(66,_),(67,_)] (.c5 rfl rfl rfl rfl rfl) (isq (irg rfl (lt' rfl rfl (inl (itn (isq (icd rfl (λc6=>?_) (λc6=>?_))))))))
  ·have hsl:=z1s (z1z (hB0.iq x) i)
   have hs4:=z3h hr4 i
   refine isk (itn (isq (ibl (isq (irg rfl ?_)))))
   replace hB:=hB0.ext ((((q1.n6 q2 q3 q7 q8 q16 q17).n1 q18).n1 q19).z4 q20 q21 q23 q24)
   refine z1a (iq0) rfl (hB.s.sel x) rfl y5b z1f (λad69 hc69=>?_)
   refine z1i rfl (hc69 _ (hB.s.sel x)) z6t (asg rfl (inl (itn (isq (irg rfl (mv rfl (lnS rfl underlying37 (mv rfl (inl (itn (ibl ?_)))))))))))
   refine v5n (ι:=Nat) [(2,_),(13,_),(65,_),(66,_),(67,_),(71,_),(72,_)] (λj=>[(73,.int .i64 (j:Int))]) (λj w'=>Fr [g60] w24 w'/\j<=((q.r x).getD i iq0).2.length/\MapF idV w' g60 (z9n (y9m q pre++x4v q x i++((q.r x).getD i iq0).2.take j))) (λj=>((q.r x).getD i iq0).2.length-j) 0 (.c8 rfl rfl rfl rfl rfl rfl rfl rfl) ⟨Fr.refl _ _,⟨Nat.zero_le _,by rw [List.take_zero,List.append_nil];exact hm⟩⟩ ?_
   rintro j w25 ⟨q25,⟨hj,hm⟩⟩
   have z25:=q25.size
   refine x2q [(2,_),(13,_),(65,_),(66,_),(67,_),(71,_),(72,_),(73,_)] (.c8 rfl rfl rfl rfl rfl rfl rfl rfl) (isq (irg rfl (lt' rfl rfl (inl (itn (isq (icd rfl (λc7=>?_) (λc7=>?_))))))))
   ·have hns:=u5f (j:=j) hv.nd hpf (i:=i) (by omega) (by omega)
    refine isk (itn (isq (ibl (isq (irg rfl ?_)))))
    replace hB:=hB0.ext ((((q1.n6 q2 q3 q7 q8 q16 q17).n1 q18).n1 q19).z5 q20 q21 q23 q24 q25)
    refine z1a (id0) rfl (z1z (hB.iq x) i) rfl z5v z1f (λad75 hc75=>?_)
    refine z1j rfl (hc75 _ (z1z (hB.iq x) i)) z3g (al y2s rfl rfl (λg19 w26 hg19 hb19 q26 z26=>?_))
    refine z0j (vs:=[_,_]) rfl rfl hb19 y1n (λw27 hb19 q27 z27=>?_) (h1:=(by first|(simp [Value.oneCell',S];done)|exact z1h.one (((q.r x).getD i iq0).2.getD j id0)))
    refine inl (itn (isq (isq (irg rfl ?_))))
    replace hb13:=(((((hb13.ext q21).fr q23).fr q24).fr q25).ext q26).fr q27
    refine z3w rfl hb13 v1s (z0n rfl hb19 z3g ?_)
    replace hm:=(hm.ext q26).fr q27 (by simp;omega)
    refine y7j (V:=idV) (k:=(((q.r x).getD i iq0).2.getD j id0)) (f:=z9n (y9m q pre++x4v q x i++((q.r x).getD i iq0).2.take j)) rfl rfl hm z5n underlying173 zv4 (x6x _ _) rfl (inl (itn (icd rfl (λc8=>?_) (λc8=>?_))))
    ·exact absurd c8 hns
    refine isk (itn (irg rfl (z3w rfl hb13 v1s (z0n rfl hb19 z3g (y8a (V:=idV) (k:=(((q.r x).getD i iq0).2.getD j id0)) rfl rfl rfl hm z5n underlying173 (λw28 hm q28 z28=>?_))))))
    rw [y8g] at hm
    refine inl (bn' (itn (irg rfl (z0y rfl rfl (wi6 (by omega)) (mv rfl (inl ?_))))))
    exact v6a (j+1) (.c8 rfl rfl rfl rfl rfl rfl rfl rfl) ⟨((Fr.refl [g60] _).z4 q25 q26 q27 q28),⟨by omega,by rw [z5g id0 (by omega),<-List.append_assoc];exact hm⟩⟩ (by omega)
   obtain rfl:j=((q.r x).getD i iq0).2.length:=by omega
   rw [List.take_length] at hm
   refine iex (te (te (xh (bn' (itn (irg rfl (z0y rfl rfl (wi6 (by omega)) (mv rfl (inl ?_)))))))))
   exact v6a (i+1) (.c5 rfl rfl rfl rfl rfl) ⟨((Fr.refl [g60] _).z2 q24 q25),⟨by omega,by rw [x0q q x (by omega),<-List.append_assoc];exact hm⟩⟩ (by omega)
  obtain rfl:i=(q.r x).length:=by omega
  rw [v9v] at hm
  refine iex (te (te (xh (bn' ?_))))
  exact u8a (S:=[g60]) ((Fr.refl [g60] _).z1 q24) (λk hk _=>.inr (by cases List.mem_singleton.1 hk;exact ⟨by omega,hmS.noncells⟩)) (λb hb_=>by rw [List.mem_singleton.1 hb_];omega) (λb hb_ e=>by rw [List.mem_singleton.1 hb_] at e;simp at e;omega) ⟨((Fr.refl [g60] _).z2 q23 q24),by rw [v1u];exact hm⟩
 rintro D3 xs' w29 hD3 hS ⟨q29,hm⟩ hmk2
 have z29:=q29.size
 have hmk20:=hmk2
 have lt_hmk2:=hmk2.lt
 refine bn' (itn (isq (irg rfl ?_)))
 replace hb2:=(((hb2.ext (q3.n6 q7 q8 q16 q17 q18 q19)).fr q20).ext q21).fr q29
 refine z5u rfl rfl hb2 rfl sz42 (λw30 hb2 q30 z30=>(inl (itn (irt ?_))))
 replace hmk2:=hmk20.fr ((Fr.refl [g2] _).z1 q30) (by simp;omega)
 replace hmk1:=hmk10.fr (((Fr.refl [g2] _).z6 q17 q18 q19 q20 q21 q29).z1 q30) (by simp;omega)
 replace hmk0:=hmk00.fr ((((Fr.refl [g2] _).z6 q8 q16 q17 q18 q19 q20).n1 q21).z2 q29 q30) (by simp;omega)
 refine rM1c results43 rfl hb2 na42 (j1g hmk2 hmk1 hmk0) (by simp;omega) ?_
 intro w31 q31
 exact ⟨_,rfl,rfl,((((q1.n6 q2 q3 q7 q8 q16 q17).n1 q18).n1 q19).z5 q20 q21 q29 q30 q31)⟩
set_option maxHeartbeats 2000000 in
theorem x0l (q:BdQ) (b:Int) (n:Nat) (v:Value) (l:List LId) (w0:World) (hB:BdAt w0 q) (hs:Sl z1h w0 v l) (hv:BdOk q.p) (hn:z3d b (n:Int)=0) (hl4:l.length<=4) (hnm:∀i∈l,y1z i) (hd:∀i,q.p.flat.count i+l.count i<=(q.p.at b (n:Int)).count i+1):Rets prog 118 #[.agg #[.slice q.f.1 q.f.2.1 q.f.2.2,.slice q.b.1 q.b.2.1 q.b.2.2],.agg #[.int .u8 b,.int .i64 (n:Int)],v] w0 λr w'=>(∃q':BdQ,r=.tuple #[.agg (bdL q').toArray,.int .i64 0]/\BdO 37 87 w0.heap.size w' q'/\q'.p=q.p.put b (n:Int) l)/\Fr [] w0 w':=by
 obtain ⟨⟨hf,hb⟩,h4,h4b⟩:=z3m hv
 have hnr:=z2v hn
 obtain ⟨A,c,rfl,hcA⟩:=id hs.form
 refine weM [(0,.agg #[.slice q.f.1 q.f.2.1 q.f.2.2,.slice q.b.1 q.b.2.1 q.b.2.2]),(1,.agg #[.int .u8 b,.int .i64 (n:Int)]),(2,.slice A l.length c)] func118 rfl ntmps118 rfl (.c3 rfl rfl rfl) ?_
 have hB0:=hB
 have hs0:=hs
 refine isq (irg rfl (bx rfl rfl rfl (λg3 w1 hg3 hb3 q1 z1=>(bx rfl rfl rfl (λg4 w2 hg4 hb4 q2 z2=>(al x4m rfl rfl (λg6 w3 hg6 hb6 q3 z3=>(asg rfl (inl (itn (isq (isq (irg rfl ?_)))))))))))))
 replace hb3:=hb3.ext (q2.n1 q3)
 refine z0n rfl hb3 z5k ?_
 replace hB:=hB0.ext (q1.n2 q2 q3)
 refine cl (ev1 rfl) (mkC func43) (y9e q _ hB hv) rfl ?_
 rintro _ w4 ⟨rfl,q4⟩
 have z4:=q4.size
 refine asg rfl (inl (itn (isq (irg rfl (mv rfl (ne' rfl rfl (inl (itn (icd rfl (λc0=>?_) (λc0=>?_))))))))))
 ·exact absurd rfl c0
 refine isk (itn (isq (isq (irg rfl ?_))))
 replace hb4:=hb4.ext (q3.n1 q4)
 refine z0n rfl hb4 z4v (cl (ev1 rfl) v9e (z4k _ _ _) rfl ?_)
 rintro _ w5 ⟨rfl,q5⟩
 have z5:=q5.size
 refine ne' rfl rfl (inl (itn (icd rfl (λc1=>?_) (λc1=>?_))))
 ·exact absurd hn (by simpa using c1)
 refine isk (itn (isq (isq (irg rfl (mv rfl (lnS rfl underlying37 (mv rfl (inl (itn (ibl (v5n (ι:=Nat) [(2,_),(3,_),(4,_),(6,_),(28,_),(29,_)] (λj=>[(30,.int .i64 (j:Int))]) (λj w'=>Fr [] w5 w'/\j<=l.length) (λj=>l.length-j) 0 (.c7 rfl rfl rfl rfl rfl rfl rfl) ⟨Fr.refl _ _,Nat.zero_le _⟩ ?_)))))))))))
 rintro j w6 ⟨q6,hj⟩
 have z6:=q6.size
 refine x2q [(2,_),(3,_),(4,_),(6,_),(28,_),(29,_),(30,_)] (.c7 rfl rfl rfl rfl rfl rfl rfl) (isq (irg rfl (lt' rfl rfl (inl (itn (isq (icd rfl (λc2=>?_) (λc2=>?_))))))))
 ·have hnj:=hnm _ (z0x (d:=id0) (i:=j) (l:=l) (by omega))
  refine isk (itn (isq (ibl (isq (irg rfl ?_)))))
  replace hs:=hs0.ext (q1.n5 q2 q3 q4 q5 q6)
  refine z1a (id0) rfl hs rfl z5v z1f (λad32 hc32=>?_)
  refine z1j rfl (hc32 _ hs) z3g (al y2s rfl rfl (λg10 w7 hg10 hb10 q7 z7=>?_))
  refine z0j (vs:=[_,_]) rfl rfl hb10 y1n (λw8 hb10 q8 z8=>?_) (h1:=(by first|(simp [Value.oneCell',S];done)|exact z1h.one _))
  refine inl (itn (isq (irg rfl (z0n rfl hb10 z3g (cl (ev1 rfl) (mkC func94) (y8z (l.getD j id0) _) rfl ?_)))))
  rintro _ w9 ⟨rfl,q9⟩
  have z9:=q9.size
  refine nt' rfl (inl (itn (icd rfl (λc3=>?_) (λc3=>?_))))
  ·exact absurd hnj c3
  refine isk (bn' (itn (irg rfl (z0y rfl rfl (wi6 (by omega)) (mv rfl (inl ?_))))))
  exact v6a (j+1) (.c7 rfl rfl rfl rfl rfl rfl rfl) ⟨(q6.z3 q7 q8 q9),by omega⟩ (by omega)
 obtain rfl:j=l.length:=by omega
 refine iex (te (te (xh (itn (isq (isq (irg rfl (mv rfl (lnS rfl underlying37 (gt' rfl rfl (kpL [(2,_),(3,_),(4,_),(6,_),(41,_)] (.c5 rfl rfl rfl rfl rfl) (inl (itn (icd rfl (λc4=>?_) (λc4=>?_)))))))))))))))
 ·exfalso;omega
 refine isk (itn (isq (irg rfl (y4q idV rfl (λg43 w10 hg43 hm q10 z10=>?_)))))
 rw [<-x7b] at hm
 refine al u9f rfl rfl (λg11 w11 hg11 hb11 q11 z11=>(z5u rfl rfl hb11 rfl j1v (λw12 hb11 q12 z12=>(inl (itn (isq (isq (irg rfl ?_))))))))
 replace hb3:=(hb3.ext (q4.n4 q5 q6 q10 q11)).fr q12
 refine z0n rfl hb3 z5k (cl (ev1 rfl) (mkC func135) (y6n q _) rfl ?_)
 rintro _ w13 ⟨g45,rfl,hgg45,hbg45,q13⟩
 have z13:=q13.size
 refine inl (itn (ibl ?_))
 have hBo:∀b∈bdB q,b<w0.heap.size:=BdS.lt hB0.s
 replace hm:=((hm.ext q11).fr q12 (by simp;omega)).ext q13
 replace hB:=hB0.ext ((((q1.n6 q2 q3 q4 q5 q6 q10).n1 q11).z1 q12).n1 q13)
 refine j3p (α:=Bool×Nat) rfl (mkC func188) (by decide) (y3h 8 g45 q w13 (by decide) hbg45 hB.s hf hb) (BdS.lt hB.s) (λ_=>rfl) (λx=>[(47,.slice ((q.r x.1).getD x.2 iq0).1.1 ((q.r x.1).getD x.2 iq0).1.2.1 ((q.r x.1).getD x.2 iq0).1.2.2),(46,.agg #[.int .u8 (y2a x.1),.int .i64 ((x.2:Int)+1)])]) (λx=>by simp [ndE,slv]) (λ_=>rfl) (λ(s:List (Bool×Nat)) (W:World)=>Fr [g43] w13 W/\MapF idV W g43 (z9n (x4f q b (n:Int) s))) (λ_ _=>False) (λs W W' ht h=>⟨h.1.turn ht (Nat.le_refl _),h.2.turn ht (by omega)⟩) (λ_ _ _ _ h=>h.elim) (λs W h=>h.1.size) ⟨Fr.refl _ _,hm⟩ 24 (λx=>[.int .u8 (y2a x.1),.int .i64 ((x.2:Int)+1)]) (λg x=>[(12,.pointer (some ⟨g,0,none⟩)),(13,.slice ((q.r x.1).getD x.2 iq0).1.1 ((q.r x.1).getD x.2 iq0).1.2.1 ((q.r x.1).getD x.2 iq0).1.2.2)]) [(4,_),(11,_)] (.c2 rfl rfl) ?_ ?_ ?_ (λ_ _ _ _ _ h _=>h.elim)
 ·rintro lN pre x w14 ⟨q14,hm⟩ hsz
  refine x2q [(46,.agg #[.int .u8 (y2a x.1),.int .i64 ((x.2:Int)+1)]),(47,.slice ((q.r x.1).getD x.2 iq0).1.1 ((q.r x.1).getD x.2 iq0).1.2.1 ((q.r x.1).getD x.2 iq0).1.2.2),(4,_),(11,_)] (.c4 rfl rfl rfl rfl) (isq (irg rfl (al v6o rfl rfl (λg12 w15 hg12 hb12 q15 z15=>?_))))
  refine z0j (vs:=[_,_]) rfl rfl hb12 y9k (λw16 hb12 q16 z16=>?_) (h1:=(by first|(simp [Value.oneCell',S];done)|exact z1h.one _))
  refine inl (itn (irg rfl (asg rfl (inl ?_))))
  exact asE g12 (by omega) (.c4 rfl rfl rfl rfl) hb12 (q15.z1 q16)
 ·rintro lN pre x g12 w17 hlN hg12 hb12 ⟨q17,hm⟩ hlt hpf
  have z17:=q17.size
  have lt_hb12:=hb12.lt
  have hmS:=hm
  have hrq:(q.r x.1).length<=40:=by cases x.1<;>assumption
  have hx4:=z3h (show z9q (q.r x.1) by cases x.1<;>assumption) x.2
  have hxl:((q.r x.1).getD x.2 iq0).1.2.1=((q.r x.1).getD x.2 iq0).2.length:=z1s (z1z (hB0.iq x.1) x.2)
  refine ibl (isq (irg rfl (z0n rfl hb12 z4v ?_)))
  replace hb4:=(((hb4.ext (q5.n3 q6 q10 q11)).fr q12).ext q13).fr q17
  refine z0n rfl hb4 z4v (v8c (V:=ndV) (e:=(y2a x.1,(x.2:Int)+1)) (f:=(b,(n:Int))) rfl rfl j4u rfl (inl (itn (icd rfl (λc5=>?_) (λc5=>?_)))))
  ·refine isq (irg rfl (mv rfl (lnS rfl underlying37 (mv rfl (inl (itn (ibl ?_)))))))
   refine v5n (ι:=Nat) [(11,_),(51,_),(52,_)] (λj=>[(53,.int .i64 (j:Int))]) (λj w'=>Fr [g43] w17 w'/\j<=((q.r x.1).getD x.2 iq0).2.length/\MapF idV w' g43 (z9n (x4f q b (n:Int) pre++((q.r x.1).getD x.2 iq0).2.take j))) (λj=>((q.r x.1).getD x.2 iq0).2.length-j) 0 (.c4 rfl rfl rfl rfl) ⟨Fr.refl _ _,⟨Nat.zero_le _,by rw [List.take_zero,List.append_nil];exact hm⟩⟩ ?_
   rintro j w18 ⟨q18,⟨hj,hm⟩⟩
   have z18:=q18.size
   refine x2q [(11,_),(51,_),(52,_),(53,_)] (.c4 rfl rfl rfl rfl) (isq (irg rfl (lt' rfl rfl (inl (itn (isq (icd rfl (λc6=>?_) (λc6=>?_))))))))
   ·refine isk (itn (isq (ibl (isq (irg rfl ?_)))))
    replace hB:=hB0.ext ((((q1.n6 q2 q3 q4 q5 q6 q10).n1 q11).z1 q12).z3 q13 q17 q18)
    refine z1a (id0) rfl (z1z (hB.iq x.1) x.2) rfl z5v z1f (λad55 hc55=>?_)
    refine z1j rfl (hc55 _ (z1z (hB.iq x.1) x.2)) z3g (al y2s rfl rfl (λg15 w19 hg15 hb15 q19 z19=>?_))
    refine z0j (vs:=[_,_]) rfl rfl hb15 y1n (λw20 hb15 q20 z20=>?_) (h1:=(by first|(simp [Value.oneCell',S];done)|exact z1h.one _))
    refine inl (itn (irg rfl ?_))
    replace hb11:=((((hb11.ext q13).fr q17).fr q18).ext q19).fr q20
    refine z3w rfl hb11 v1s (z0n rfl hb15 z3g ?_)
    replace hm:=(hm.ext q19).fr q20 (by simp;omega)
    refine y8a (V:=idV) (k:=(((q.r x.1).getD x.2 iq0).2.getD j id0)) rfl rfl rfl hm z5n underlying173 (λw21 hm q21 z21=>?_)
    rw [y8g] at hm
    refine inl (bn' (itn (irg rfl (z0y rfl rfl (wi6 (by omega)) (mv rfl (inl ?_))))))
    exact v6a (j+1) (.c4 rfl rfl rfl rfl) ⟨((Fr.refl [g43] _).z4 q18 q19 q20 q21),⟨by omega,by rw [z5g id0 (by omega),<-List.append_assoc];exact hm⟩⟩ (by omega)
   obtain rfl:j=((q.r x.1).getD x.2 iq0).2.length:=by omega
   rw [List.take_length] at hm
   refine iex (te (te (xh (bn' ?_))))
   exact u8a (S:=[g43]) ((Fr.refl [g43] _).z1 q18) (λk hk _=>.inr (by cases List.mem_singleton.1 hk;exact ⟨by omega,hmS.noncells⟩)) (λb hb=>Nat.lt_of_lt_of_le (hBo b hb) (by omega)) (λb hb e=>by simp at e;have:=hBo b hb;omega) ⟨((Fr.refl [g43] _).z2 q17 q18),by rw [x2i,oth,if_neg c5];exact hm⟩
  refine isk (bn' ?_)
  exact u8a (S:=[g43]) (Fr.refl _ _) (λk hk _=>.inr (by cases List.mem_singleton.1 hk;exact ⟨by omega,hmS.noncells⟩)) (λb hb=>Nat.lt_of_lt_of_le (hBo b hb) (by omega)) (λb hb e=>by simp at e;have:=hBo b hb;omega) ⟨((Fr.refl [g43] _).z1 q17),by rw [x2i,oth,if_pos (Classical.not_not.1 c5),List.append_nil];exact hm⟩
 rintro D1 xs' w22 hD1 hS ⟨q22,hm⟩ hmk0
 have z22:=q22.size
 have hmk00:=hmk0
 have lt_hmk0:=hmk0.lt
 subst hS
 refine bn' (itn (isq (isq (irg rfl (mv rfl (lnS rfl underlying37 (mv rfl (inl (itn (ibl ?_))))))))))
 refine v5n (ι:=Nat) [(2,_),(3,_),(4,_),(6,_),(11,_),(60,_),(61,_)] (λj=>[(62,.int .i64 (j:Int))]) (λj w'=>Fr [g43] w22 w'/\j<=l.length/\MapF idV w' g43 (z9n (x4f q b (n:Int) (ndP q [false,true])++l.take j))) (λj=>l.length-j) 0 (.c8 rfl rfl rfl rfl rfl rfl rfl rfl) ⟨Fr.refl _ _,⟨Nat.zero_le _,by rw [List.take_zero,List.append_nil];exact hm⟩⟩ ?_
 rintro j w23 ⟨q23,⟨hj,hm⟩⟩
 have z23:=q23.size
 refine x2q [(2,_),(3,_),(4,_),(6,_),(11,_),(60,_),(61,_),(62,_)] (.c8 rfl rfl rfl rfl rfl rfl rfl rfl) (isq (irg rfl (lt' rfl rfl (inl (itn (isq (icd rfl (λc7=>?_) (λc7=>?_))))))))
 ·have hns:=u7l (j:=j) hn hd (by omega)
  refine isk (itn (isq (ibl (isq (irg rfl ?_)))))
  replace hs:=hs0.ext ((((q1.n6 q2 q3 q4 q5 q6 q10).n1 q11).z1 q12).z3 q13 q22 q23)
  refine z1a (id0) rfl hs rfl z5v z1f (λad64 hc64=>?_)
  refine z1j rfl (hc64 _ hs) z3g (al y2s rfl rfl (λg17 w24 hg17 hb17 q24 z24=>?_))
  refine z0j (vs:=[_,_]) rfl rfl hb17 y1n (λw25 hb17 q25 z25=>?_) (h1:=(by first|(simp [Value.oneCell',S];done)|exact z1h.one _))
  refine inl (itn (isq (isq (irg rfl ?_))))
  replace hb11:=((((hb11.ext q13).fr q22).fr q23).ext q24).fr q25
  refine z3w rfl hb11 v1s (z0n rfl hb17 z3g ?_)
  replace hm:=(hm.ext q24).fr q25 (by simp;omega)
  refine y7j (V:=idV) (k:=(l.getD j id0)) (f:=z9n (x4f q b (n:Int) (ndP q [false,true])++l.take j)) rfl rfl hm z5n underlying173 zv4 (x6x _ _) rfl (inl (itn (icd rfl (λc8=>?_) (λc8=>?_))))
  ·exact absurd c8 hns
  refine isk (itn (irg rfl (z3w rfl hb11 v1s (z0n rfl hb17 z3g (y8a (V:=idV) (k:=(l.getD j id0)) rfl rfl rfl hm z5n underlying173 (λw26 hm q26 z26=>?_))))))
  rw [y8g] at hm
  refine inl (bn' (itn (irg rfl (z0y rfl rfl (wi6 (by omega)) (mv rfl (inl ?_))))))
  exact v6a (j+1) (.c8 rfl rfl rfl rfl rfl rfl rfl rfl) ⟨((Fr.refl [g43] _).z4 q23 q24 q25 q26),⟨by omega,by rw [z5g id0 (by omega),<-List.append_assoc];exact hm⟩⟩ (by omega)
 obtain rfl:j=l.length:=by omega
 refine iex (te (te (xh (itn (isq (irg rfl ?_))))))
 replace hb3:=((hb3.ext q13).fr q22).fr q23
 refine z0n rfl hb3 z5k ?_
 replace hb4:=((((hb4.ext (q5.n3 q6 q10 q11)).fr q12).ext q13).fr q22).fr q23
 refine z0n rfl hb4 z4v (mv rfl ?_)
 replace hB:=hB0.ext ((((q1.n6 q2 q3 q4 q5 q6 q10).n1 q11).z1 q12).z3 q13 q22 q23)
 replace hs:=hs0.ext ((((q1.n6 q2 q3 q4 q5 q6 q10).n1 q11).z1 q12).z3 q13 q22 q23)
 refine cl (ev3 rfl rfl rfl) (mkC func153) (y4s q b n _ l _ hB hs hn hf hb h4 h4b hl4) rfl ?_
 rintro _ w27 ⟨⟨q',rfl,hBo,hqp⟩,q27⟩
 have z27:=q27.size
 replace hb6:=(((((hb6.ext (q4.n4 q5 q6 q10 q11)).fr q12).ext q13).fr q22).fr q23).ext q27
 refine z0j (vs:=[_,_]) rfl rfl hb6 y9r (λw28 hb6 q28 z28=>?_) (h1:=(by first|(simp [Value.oneCell',S];done)|exact z1h.one _))
 refine asg rfl (kpL [(6,_),(7,_)] (.c2 rfl rfl) (inl (itn (irt ?_))))
 replace hmk0:=hmk00.fr ((Fr.refl [g6,g43] _).z3 q23 q27 q28) (by simp;omega)
 refine rMCT results118 rfl hb6 z5k rfl (x5v hmk0) (by simp) ?_
 intro w29 q29
 replace hBo:=(hBo.fr q28 (by intro k hk;simp at hk;omega)).fr q29 (by intro k hk;simp at hk;omega)
 exact ⟨_,rfl,⟨q',rfl,hBo.low (by omega),hqp⟩,((((q1.n6 q2 q3 q4 q5 q6 q10).n1 q11).z1 q12).z6 q13 q22 q23 q27 q28 q29)⟩
theorem u1d:CallOf prog 24:=mkC func24
set_option maxHeartbeats 2000000 in
theorem y9s (q:BdQ) (b:Int) (n m:Nat) (w0:World) (hB:BdAt w0 q) (hv:BdOk q.p) (hn:z3d b (n:Int)=0) (hm:z3d (1-b) (m:Int)=0) (hne:(q.p.at b (n:Int))≠[]):Rets prog 117 #[.agg #[.slice q.f.1 q.f.2.1 q.f.2.2,.slice q.b.1 q.b.2.1 q.b.2.2],.agg #[.int .u8 b,.int .i64 (n:Int)],.agg #[.int .u8 (1-b),.int .i64 (m:Int)]] w0 λr w'=>(∃q':BdQ,r=.tuple #[.agg (bdL q').toArray,.int .i64 (if 4<(q.p.at b (n:Int)).length+(q.p.at (1-b) (m:Int)).length then 9 else 0)]/\(¬4<(q.p.at b (n:Int)).length+(q.p.at (1-b) (m:Int)).length->BdO 37 87 w0.heap.size w' q'/\q'.p=(q.p.put b (n:Int) []).put (1-b) (m:Int) (y1h q.p b (n:Int) (m:Int))))/\Fr [] w0 w':=by
 obtain ⟨⟨hf,hb⟩,h4,h4b⟩:=z3m hv
 have hnr:=z2v hn
 have hmr:=z2v hm
 have hl1:=y4t hv b (n:Int)
 have hl2:=y4t hv (1-b) (m:Int)
 have hjl:=v0q q.p b (n:Int) (m:Int)
 have hok:=x7y hv hn
 have hne1:0<(q.p.at b (n:Int)).length:=List.length_pos_iff.2 hne
 refine we [(0,.agg #[.slice q.f.1 q.f.2.1 q.f.2.2,.slice q.b.1 q.b.2.1 q.b.2.2]),(1,.agg #[.int .u8 b,.int .i64 (n:Int)]),(2,.agg #[.int .u8 (1-b),.int .i64 (m:Int)])] func117 rfl ntmps117 rfl (.c3 rfl rfl rfl) ?_
 have hB0:=hB
 refine sr (bx rfl rfl rfl (λg3 w1 hg3 hb3 q1 z1=>(bx rfl rfl rfl (λg4 w2 hg4 hb4 q2 z2=>(bx rfl rfl rfl (λg5 w3 hg5 hb5 q3 z3=>(al x4m rfl rfl (λg6 w4 hg6 hb6 q4 z4=>(asg rfl (nn (sq (sr ?_))))))))))))
 replace hb3:=hb3.ext (q2.n2 q3 q4)
 refine z0n rfl hb3 z5k ?_
 replace hB:=hB0.ext (q1.n3 q2 q3 q4)
 refine cl (ev1 rfl) (mkC func43) (y9e q _ hB hv) rfl ?_
 rintro _ w5 ⟨rfl,q5⟩
 have z5:=q5.size
 refine asg rfl (nn (sr (mv rfl (ne' rfl rfl (nn (cd rfl (λc0=>?_) (λc0=>?_)))))))
 ·exact absurd rfl c0
 refine sk (tn (sq (sq ?_)))
 refine x8z (r:=32) (L':=[(3,_),(4,_),(5,_),(6,_)]) ((((0≠0)\/(0≠0))\/(b=(1-b)))) (.c4 rfl rfl rfl rfl) ?_ ?_
 ·replace hb4:=hb4.ext (q3.n2 q4 q5)
  refine z0n rfl hb4 z4v (cl (ev1 rfl) v9e (z4k _ _ _) rfl ?_)
  rintro _ w6 ⟨rfl,q6⟩
  have z6:=q6.size
  refine ne' rfl rfl (mv rfl (gs 21 rfl (λg0=>?_) (λg0=>?_)))
  ·exact gN rfl rfl (gN rfl rfl (gN rfl rfl (pkt rfl rfl (mv rfl (gN rfl rfl (gN rfl rfl (gN rfl rfl (gN rfl rfl (gN rfl rfl (pkt rfl rfl (y0k rfl (.c4 rfl rfl rfl rfl) q6)))))))))))
  refine gY rfl ?_
  replace hb5:=hb5.ext (q4.n2 q5 q6)
  refine z0n rfl hb5 z4v (gY rfl (cl (ev1 rfl) v9e (z4k _ _ _) rfl ?_))
  rintro _ w7 ⟨rfl,q7⟩
  have z7:=q7.size
  refine gY rfl (ne' rfl rfl (pkf rfl rfl (mv rfl (gs 26 rfl (λg1=>?_) (λg1=>?_)))))
  ·exact gN rfl rfl (gN rfl rfl (gN rfl rfl (gN rfl rfl (gN rfl rfl (pkt rfl rfl (y0k rfl (.c4 rfl rfl rfl rfl) (q6.n1 q7)))))))
  refine gY rfl (fad rfl z6e (gY rfl ?_))
  replace hb4:=hb4.ext (q6.n1 q7)
  refine z0i rfl hb4 rfl x4n (gY rfl (fad rfl z6e (gY rfl ?_)))
  replace hb5:=hb5.ext q7
  exact z0i rfl hb5 rfl x4n (gY rfl (eq' rfl rfl (pkf rfl rfl (y0k rfl (.c4 rfl rfl rfl rfl) (q6.n1 q7)))))
 intro w8 q8;have z8:=q8.size
 refine tn (cd rfl (λc1=>?_) (λc1=>?_))
 ·exfalso;omega
 refine sk (tn (sq ?_))
 replace hB:=hB0.ext (q1.n5 q2 q3 q4 q5 q8)
 intro a h
 refine z0h none (λwb w'=>Fr [] wb w') z2r ?_;intro w9 q9
 have z9:=q9.size
 replace hB:=hB.ext q9
 replace hb3:=hb3.ext (q5.n2 q8 q9)
 replace hb4:=hb4.ext (q3.n4 q4 q5 q8 q9)
 replace hb5:=hb5.ext (q4.n3 q5 q8 q9)
 have hC:Fr [] w9 w9:=Fr.refl _ _
 have hB_b:=hB
 have hb3_b:=hb3
 have hb4_b:=hb4
 have hb5_b:=hb5
 refine z0t 0 h rfl (λ_ hw=>hb3_b.ext hw) z5k rfl λa h=>z0t 1 h rfl (λ_ hw=>hb4_b.ext hw) z4v rfl λa h=>z0t 3 h rfl (λ_ hw=>hb3_b.ext hw) z5k rfl λa h=>z0t 4 h rfl (λ_ hw=>hb5_b.ext hw) z4v rfl λa h=>z0d 2 rfl ?_
 refine z0m h (z0a rfl (z0a rfl z0g)) u1d (x1b q b (n:Int) _ hB (by omega) hf hb h4 h4b) ?_;rintro v36 w10 ⟨ho36,q10⟩ a h
 have z10:=q10.size
 replace hB:=hB.ext q10
 replace hb3:=hb3.ext q10
 replace hb4:=hb4.ext q10
 replace hb5:=hb5.ext q10
 replace hC:=hC.next q10
 rw [y5u hn] at ho36
 obtain ⟨A36,c36,rfl,hc36⟩:=ho36.sl.form
 have hk36:=λk hb=>(ho36.blk k hb).2
 refine z0b ?_
 refine z0d 5 rfl ?_
 refine z0m h (z0a rfl (z0a rfl z0g)) u1d (x1b q (1-b) (m:Int) _ hB (by omega) hf hb h4 h4b) ?_;rintro v39 w11 ⟨ho39,hq⟩ a h
 have z11:=hq.size
 replace hB:=hB.ext hq
 replace hb3:=hb3.ext hq
 replace hb4:=hb4.ext hq
 replace hb5:=hb5.ext hq
 replace ho36:=ho36.ext hq
 replace hC:=hC.next hq
 have q11:=hq
 rw [y5u hm] at ho39
 obtain ⟨A39,c39,rfl,hc39⟩:=ho39.sl.form
 have hk39:=λk hb=>(ho39.blk k hb).2
 refine z0b ?_
 refine z0d 6 rfl ?_
 refine z0q h rfl λa h=>?_
 refine z0b ?_
 refine z0d 7 rfl ?_
 refine z0q h rfl λa h=>?_
 refine z0b ?_
 refine z0r ?_
 clear hC hB_b hb3_b hb4_b hb5_b
 refine bk (h.sub (L':=[(3,_),(4,_),(5,_),(6,_),(9,_),(10,_)]) (.c6 rfl rfl rfl rfl rfl rfl)) (tn (sq (sr (mv rfl (lnS rfl underlying37 (eq' rfl rfl (nn (cd rfl (λc2=>?_) (λc2=>?_)))))))))
 ·exfalso;omega
 refine sk (tn (sq (sr (mv rfl (lnS rfl underlying37 (mv rfl (lnS rfl underlying37 (z0y rfl rfl (wi6 (by omega)) (gt' rfl rfl (kpL [(3,_),(4,_),(5,_),(6,_),(9,_),(10,_),(49,_)] (.c7 rfl rfl rfl rfl rfl rfl rfl) (nn (cd rfl (λc3=>?_) (λc3=>?_)))))))))))))
 ·refine sr (z1r (cs:=[_,_]) z0g u8b z0s rfl ?_)
  replace hb6:=hb6.ext (q5.n4 q8 q9 q10 q11)
  refine z0j (vs:=[_,_]) rfl rfl hb6 y9r (λw12 hb6 q12 z12=>(asg rfl (kpL [(6,_),(7,_)] (.c2 rfl rfl) (nn (rt (tr (rCT results117 rfl hb6 z5k rfl ?_)))))))
  exact ⟨_,rfl,⟨bdq0,by rw [if_pos (by omega)];rfl,λh=>absurd (by omega) h⟩,((((q1.n6 q2 q3 q4 q5 q8 q9).n1 q10).n1 q11).z1 q12)⟩
 refine sk (tn (sr (mv rfl (cl (ev1 rfl) (mkC func59) (y7y _ (q.p.at (1-b) (m:Int)) _ ho39.sl (by omega)) rfl ?_))))
 rintro _ w13 ⟨g52,rfl,hg52,hX,q13⟩
 have z13:=q13.size
 refine mv rfl ?_
 replace ho36:=ho36.ext q13
 replace ho39:=ho39.ext q13
 replace hb3:=hb3.ext q13
 replace hb4:=hb4.ext q13
 replace hb5:=hb5.ext q13
 replace hb6:=hb6.ext (q5.n5 q8 q9 q10 q11 q13)
 have hoo54:=hX
 refine z1x rfl rfl hX ho36.sl z5v (by unfold maxLen;omega) (by omega) (λv54 w14 hX q14 hor54=>?_)
 have z14:=q14.size
 replace ho36:=ho36.fr q14 (λk hk hb=>by have:=(hoo54.blk k hk).1;have:=hk36 k hb;omega)
 replace ho39:=ho39.fr q14 (λk hk hb=>by have:=(hoo54.blk k hk).1;have:=hk39 k hb;omega)
 replace hb3:=hb3.fr q14 (λhk=>by have:=(hoo54.blk _ hk).1;omega)
 replace hb4:=hb4.fr q14 (λhk=>by have:=(hoo54.blk _ hk).1;omega)
 replace hb5:=hb5.fr q14 (λhk=>by have:=(hoo54.blk _ hk).1;omega)
 replace hb6:=hb6.fr q14 (λhk=>by have:=(hoo54.blk _ hk).1;omega)
 refine asg rfl (nn ?_)
 refine jn (ι:=Value) [(3,_),(4,_),(5,_),(6,_)] (λp=>[(11,p)]) (λp w'=>Fr [] w14 w'/\Lw.Own z1h 87 w0.heap.size w' p (y1h q.p b (n:Int) (m:Int))) (.c4 rfl rfl rfl rfl) ?_ ?_
 ·refine sr (fad rfl z6e (z0i rfl hb4 rfl x4n (eq' rfl rfl (nn (cd rfl (λc4=>?_) (λc4=>?_))))))
  ·refine rg (mv rfl (cl (ev1 rfl) (mkC func59) (y7y _ (q.p.at b (n:Int)) _ ho36.sl (by omega)) rfl ?_))
   rintro _ w15 ⟨g59,rfl,hg59,hY,q15⟩
   have z15:=q15.size
   refine mv rfl ?_
   replace ho36:=ho36.ext q15
   replace ho39:=ho39.ext q15
   replace hb3:=hb3.ext q15
   replace hb4:=hb4.ext q15
   replace hb5:=hb5.ext q15
   replace hb6:=hb6.ext q15
   have hoo61:=hY
   refine z1x rfl rfl hY ho39.sl z5v (by unfold maxLen;omega) (by omega) (λv61 w16 hY q16 hor61=>?_)
   have z16:=q16.size
   replace ho36:=ho36.fr q16 (λk hk hb=>by have:=(hoo61.blk k hk).1;have:=hk36 k hb;omega)
   replace ho39:=ho39.fr q16 (λk hk hb=>by have:=(hoo61.blk k hk).1;have:=hk39 k hb;omega)
   replace hb3:=hb3.fr q16 (λhk=>by have:=(hoo61.blk _ hk).1;omega)
   replace hb4:=hb4.fr q16 (λhk=>by have:=(hoo61.blk _ hk).1;omega)
   replace hb5:=hb5.fr q16 (λhk=>by have:=(hoo61.blk _ hk).1;omega)
   replace hb6:=hb6.fr q16 (λhk=>by have:=(hoo61.blk _ hk).1;omega)
   refine asg rfl (kpL [(3,_),(4,_),(5,_),(6,_),(11,_)] (.c5 rfl rfl rfl rfl rfl) (nl ?_))
   exact jE (_) (.c5 rfl rfl rfl rfl rfl) ⟨(q15.step q16 (λk hk hlt=>absurd (hoo61.blk k hk).1 (by omega))),(by unfold y1h;rw [if_pos (by omega)];exact hY.low (by omega))⟩
  refine sk ?_
  exact jE (_) (.c5 rfl rfl rfl rfl rfl) ⟨(Fr.refl _ _),(by unfold y1h;rw [if_neg (by omega)];exact hX.low (by omega))⟩
 rintro vS w17 ⟨q17,hS⟩
 have z17:=q17.size
 refine kpC [(3,_),(4,_),(5,_),(6,_),(11,vS)] (.c5 rfl rfl rfl rfl rfl) ?_
 obtain ⟨AS,cS,rfl,hcS⟩:=hS.sl.form
 refine sq ?_
 replace hB:=hB0.ext ((((((q1.n6 q2 q3 q4 q5 q8 q9).n1 q10).n1 q11).n1 q13).step q14 (λk hk hlt=>absurd (hoo54.blk k hk).1 (by omega))).next q17)
 intro a h
 refine z0h (some 6) (λwb w'=>Fr [] wb w') z2r ?_;intro w18 q18
 have z18:=q18.size
 replace hB:=hB.ext q18
 replace hb3:=hb3.ext (q17.n1 q18)
 replace hb4:=hb4.ext (q17.n1 q18)
 replace hb5:=hb5.ext (q17.n1 q18)
 replace hb6:=hb6.ext (q17.n1 q18)
 replace hS:=hS.ext q18
 have hC:Fr [] w18 w18:=Fr.refl _ _
 have hB_b:=hB
 have hb3_b:=hb3
 have hb4_b:=hb4
 have hb5_b:=hb5
 have hb6_b:=hb6
 have hS_b:=hS
 refine z0t 0 h rfl (λ_ hw=>hb3_b.ext hw) z5k rfl λa h=>z0t 1 h rfl (λ_ hw=>hb4_b.ext hw) z4v rfl λa h=>z0t 3 h rfl (λ_ hw=>hb5_b.ext hw) z4v rfl λa h=>z0e 4 h rfl rfl λa h=>z0d 2 rfl ?_
 refine z0m h (z0a rfl (z0a rfl (z0a rfl z0g))) (mkC func153) (y4s q b n _ [] _ hB (Sl.nil _) hn hf hb h4 h4b (Nat.zero_le _)) ?_;rintro _ w19 ⟨⟨qa,rfl,hQ1,hp1⟩,q19⟩ a h
 have z19:=q19.size
 replace hS:=hS.ext q19
 replace hC:=hC.next q19
 rw [<-hp1] at hok
 obtain ⟨⟨hf1,hb1⟩,h41,h41b⟩:=z3m hok
 refine z0b ?_
 refine z0d 5 rfl ?_
 refine z0m h (z0a rfl (z0a rfl (z0a rfl z0g))) (mkC func153) (y4s qa (1-b) m _ (y1h q.p b (n:Int) (m:Int)) _ hQ1.at hS.sl hm hf1 hb1 h41 h41b (by omega)) ?_;rintro _ w20 ⟨⟨qb,rfl,hQ2,hp2⟩,q20⟩ a h
 have z20:=q20.size
 replace hb3:=hb3.ext (q19.n1 q20)
 replace hb4:=hb4.ext (q19.n1 q20)
 replace hb5:=hb5.ext (q19.n1 q20)
 replace hb6:=hb6.ext (q19.n1 q20)
 replace hC:=hC.next q20
 refine z0b ?_
 refine z0d 6 rfl ?_
 refine z0u h rfl rfl hb6 rfl y9r λw21 hbn q21 hz a h=>?_
 have z21:=q21.size
 replace hb3:=hb3.fr q21
 replace hb4:=hb4.fr q21
 replace hb5:=hb5.fr q21
 replace hQ2:=hQ2.fr q21 (by intro k hk;simp at hk;omega)
 clear hb6 hz;have hb6:Blk w21 g6 _ [_,_]:=hbn;clear hbn
 refine z1o ?_
 refine z0d 7 rfl ?_
 refine z0q h rfl λa h=>?_
 refine z1o ?_
 refine z0r ?_
 clear hC hB_b hb3_b hb4_b hb5_b hb6_b hS_b
 refine bk (h.sub (L':=[(6,_),(7,_)]) (.c2 rfl rfl)) (tn (rt (rCT results117 rfl hb6 z5k rfl ?_)))
 exact ⟨_,rfl,⟨qb,by rw [if_neg (by omega)],λ_=>⟨hQ2.low (by omega),by rw [hp2,hp1]⟩⟩,((((((((((q1.n6 q2 q3 q4 q5 q8 q9).n1 q10).n1 q11).n1 q13).step q14 (λk hk hlt=>absurd (hoo54.blk k hk).1 (by omega))).next q17).next q18).next q19).next q20).sp q21)⟩
end Go.Proofs.YtpgdchkdlgkmgaaGreatDoor
namespace Go.G08
open Go.Lw Go.G21
abbrev u0z:List Value:=[.int .i64 (-1),.int .i64 1]
theorem y4n {d:Int} (h:d=0\/d=1):u0z[d.toNat*1]?=some (.int .i64 (stI d)):=by
 rcases h with rfl|rfl<;>rfl
def z9i (x y:Int):Int:=if x<y then -1 else if y<x then 1 else 0
theorem z8h {x y:Int}:z9i x y<0↔x<y:=by
 unfold z9i;split
 ·simp [*]
 split<;>simp [*]
abbrev hdL (h:Hd):List Value:=[.int .u8 h.id.y,.int .i64 h.id.n,.int .u8 h.b,.int .i64 h.n,.int .i64 h.s]
def z3j:Enc Hd:=⟨hdL,5,λ_=>rfl,λ_ u h=>by simp at h;rcases h with rfl|rfl|rfl|rfl|rfl<;>rfl,by decide⟩
def x2l (l:List Hd):Prop:=l.Pairwise λa b=>a.s<=b.s
theorem x5i {h x:Hd}:∀ {l:List Hd},x∈y0y h l↔x=h\/x∈l
 | []=>by simp [y0y]
 | y::l=>by
  unfold y0y
  split
  ·simp
  simp only [List.mem_cons,x5i (l:=l)]
  constructor
  ·rintro (h|h|h)<;>simp [h]
  rintro (h|h|h)<;>simp [h]
theorem x6z (h:Hd):∀l:List Hd,(y0y h l).length=l.length+1
 | []=>rfl
 | y::l=>by
  unfold y0y;split
  ·rfl
  simp [x6z h l]
theorem y7q (h:Hd):∀l:List Hd,x2l l->x2l (y0y h l)
 | [],_=>List.pairwise_singleton ..
 | y::l,hs=>by
  obtain ⟨h1,h2⟩:=List.pairwise_cons.1 hs
  unfold y0y
  split
  ·rename_i hlt
   refine List.pairwise_cons.2 ⟨λz hz=>?_,hs⟩
   rcases List.mem_cons.1 hz with rfl|hz
   ·omega
   have:=h1 z hz;omega
  rename_i hlt
  refine List.pairwise_cons.2 ⟨λz hz=>?_,y7q h l h2⟩
  rcases x5i.1 hz with rfl|hz
  ·omega
  exact h1 z hz
theorem v4o (l:List Hd) (h:Hd):z4z (l++[h])=y0y h (z4z l):=by unfold z4z;rw [List.foldl_append];rfl
theorem x5w:∀(l a:List Hd),x2l a->x2l (l.foldl (λa h=>y0y h a) a)
 | [],a,h=>h
 | x::l,a,h=>x5w l _ (y7q x a h)
theorem z7o (l:List Hd):x2l (z4z l):=x5w l [] List.Pairwise.nil
theorem x0m:∀(l a:List Hd),(l.foldl (λa h=>y0y h a) a).length=a.length+l.length
 | [],a=>rfl
 | x::l,a=>by simp only [List.foldl_cons,x0m l,x6z,List.length_cons];omega
theorem z3v (l:List Hd):(z4z l).length=l.length:=by unfold z4z;rw [x0m];simp
theorem v0s {x:Hd}:∀ {A B:List Hd},(∀y∈A,¬x.s<y.s)->(∀y∈B,x.s<y.s)->y0y x (A++B)=A++x::B
 | [],[],_,_=>rfl
 | [],y::B,_,h=>by
  show y0y x (y::B)=x::y::B
  unfold y0y;rw [if_pos (h y (List.mem_cons_self ..))]
 | z::A,B,h1,h2=>by
  show y0y x (z::(A++B))=z::(A++x::B)
  unfold y0y
  rw [if_neg (h1 z (List.mem_cons_self ..)),v0s (λy hy=>h1 y (List.mem_cons_of_mem _ hy)) h2]
def y1b (P s:List Hd) (k:Nat) (x:Hd) (R:List Hd):List Hd:=P++(s.take k++(x::(s.drop k++R)))
theorem v7a {P s R:List Hd} {k:Nat} {x:Hd}:(y1b P s k x R).length=P.length+s.length+1+R.length:=by
 unfold y1b
 have h:(s.take k).length+(s.drop k).length=s.length:=by rw [<-List.length_append,List.take_append_drop]
 simp only [List.length_append,List.length_cons];omega
theorem j0b {P s R:List Hd} {k:Nat} {x d:Hd} (hk:k<=s.length):(y1b P s k x R).getD (P.length+k) d=x:=by
 unfold y1b
 rw [List.getD,List.getElem?_append_right (by omega),show P.length+k-P.length=(s.take k).length+0 by rw [List.length_take];omega,List.getElem?_append_right (by omega)]
 simp
theorem u0p {P s R:List Hd} {k:Nat} {x d:Hd} (hk:k+1<=s.length):(y1b P s (k+1) x R).getD (P.length+k) d=s.getD k d:=by
 unfold y1b
 rw [List.getD,List.getD,List.getElem?_append_right (by omega),show P.length+k-P.length=k by omega,List.getElem?_append_left (by rw [List.length_take];omega),List.getElem?_take,if_pos (by omega)]
theorem x0f {P s R:List Hd} {k:Nat} {x d:Hd} (hk:k+1<=s.length):((y1b P s (k+1) x R).set (P.length+k+1) (s.getD k d)).set (P.length+k) x=y1b P s k x R:=by
 have h1:y1b P s (k+1) x R=(P++s.take k)++(s.getD k d::x::(s.drop (k+1)++R)):=by
  unfold y1b
  have e:s.take (k+1)=s.take k++[s.getD k d]:=by rw [List.take_add_one,List.getD,List.getElem?_eq_getElem (by omega)];rfl
  rw [e];simp only [List.append_assoc,List.cons_append,List.nil_append]
 have h2:y1b P s k x R=(P++s.take k)++(x::s.getD k d::(s.drop (k+1)++R)):=by
  unfold y1b
  have e:s.drop k=s.getD k d::s.drop (k+1):=by rw [List.drop_eq_getElem_cons (show k<s.length by omega),List.getD,List.getElem?_eq_getElem (by omega)];rfl
  rw [e];simp only [List.append_assoc,List.cons_append]
 have hl:(P++s.take k).length=P.length+k:=by rw [List.length_append,List.length_take];omega
 rw [h1,h2,List.set_append_right _ _ (by omega),show P.length+k+1-(P++s.take k).length=1 by omega,List.set_append_right _ _ (by omega),show P.length+k-(P++s.take k).length=0 by omega]
 rfl
theorem x0n {P s R:List Hd} {k:Nat} {x:Hd} (hs:x2l s) (hk:k<=s.length) (h1:k=0\/¬x.s<(s.getD (k-1) hd0).s) (h2:∀j,k<=j->j<s.length->x.s<(s.getD j hd0).s):y1b P s k x R=P++(y0y x s++R):=by
 have e:y0y x s=s.take k++x::s.drop k:=by
  conv=>lhs;rw [<-List.take_append_drop k s]
  refine v0s (λy hy=>?_) (λy hy=>?_)
  ·obtain ⟨j,hj,rfl⟩:=List.getElem_of_mem hy
   rw [List.length_take] at hj
   rw [List.getElem_take]
   rcases h1 with rfl|h1
   ·omega
   rw [List.getD,List.getElem?_eq_getElem (by omega)] at h1
   simp only [Option.getD_some] at h1
   by_cases e:j=k-1
   ·subst e;exact h1
   have:=List.pairwise_iff_getElem.1 hs j (k-1) (by omega) (by omega) (by omega)
   omega
  obtain ⟨j,hj,rfl⟩:=List.getElem_of_mem hy
  rw [List.length_drop] at hj
  rw [List.getElem_drop]
  have:=h2 (k+j) (by omega) (by omega)
  rwa [List.getD,List.getElem?_eq_getElem (by omega)] at this
 unfold y1b
 rw [e];simp
theorem x8x {P s R:List Hd} {x:Hd}:y1b P s s.length x R=P++(s++x::R):=by
 unfold y1b;rw [List.take_length,List.drop_length];rfl
def z7m (l:List Hd) (lo up i:Nat):List Hd:=l.take lo++(z4z ((l.take (min i up)).drop lo)++l.drop (min i up))
theorem z5y {l:List Hd} {lo i:Nat} (h:lo<=i) (hi:i<=l.length):(z4z ((l.take i).drop lo)).length=i-lo:=by
 rw [z3v,List.length_drop,List.length_take];omega
theorem u9d {l:List Hd} {lo up:Nat} (h:lo<=up) (hu:up<=l.length):z7m l lo up (lo+1)=l:=by
 unfold z7m
 by_cases e:lo<up
 ·rw [show min (lo+1) up=lo+1 by omega]
  have h1:(l.take (lo+1)).drop lo=[l.getD lo hd0]:=by
   rw [List.take_add_one,List.drop_append,List.drop_eq_nil_of_le (by rw [List.length_take];omega),List.length_take,show lo-min lo l.length=0 by omega,List.getD,List.getElem?_eq_getElem (by omega)];rfl
  rw [h1]
  have h2:z4z [l.getD lo hd0]=[l.getD lo hd0]:=rfl
  rw [h2,<-List.append_assoc]
  have h3:l.take lo++[l.getD lo hd0]=l.take (lo+1):=by rw [List.take_add_one,List.getD,List.getElem?_eq_getElem (by omega)];rfl
  rw [h3,List.take_append_drop]
 rw [show min (lo+1) up=lo by omega]
 have h1:(l.take lo).drop lo=[]:=List.drop_eq_nil_of_le (by rw [List.length_take];omega)
 rw [h1]
 exact List.take_append_drop lo l
theorem u2f {l:List Hd} {lo up i:Nat} (h:lo<=i) (hi:i<up) (hu:up<=l.length):z7m l lo up i=y1b (l.take lo) (z4z ((l.take i).drop lo)) (i-lo) (l.getD i hd0) (l.drop (i+1)):=by
 have hl:=z5y (l:=l) h (by omega)
 rw [<-hl,x8x]
 unfold z7m
 rw [show min i up=i by omega]
 congr 2
 rw [List.drop_eq_getElem_cons (show i<l.length by omega),List.getD,List.getElem?_eq_getElem (by omega)];rfl
theorem x0z {l:List Hd} {lo up i:Nat} (h:lo<=i) (hi:i<up) (hu:up<=l.length):l.take lo++(y0y (l.getD i hd0) (z4z ((l.take i).drop lo))++l.drop (i+1))=z7m l lo up (i+1):=by
 unfold z7m
 rw [show min (i+1) up=i+1 by omega]
 have h1:(l.take (i+1)).drop lo=(l.take i).drop lo++[l.getD i hd0]:=by
  rw [List.take_add_one,List.drop_append,List.length_take,show lo-min i l.length=0 by omega,List.getD,List.getElem?_eq_getElem (by omega)];rfl
 rw [h1,v4o]
theorem v6k {l:List Hd} {lo up i:Nat} (h:up<=i):z7m l lo up i=z7m l lo up up:=by
 unfold z7m;rw [show min i up=min up up by omega]
theorem y7x (b r:Int) (l:Bed) (i:Nat):hds b r l (i+1)=hds b r l i++(l.getD i []).map (hdS b r i):=by
 unfold hds;rw [List.range_succ,List.flatMap_append];simp
theorem x3v (b r:Int) (l:List IQ) (h:z9q l) (i:Nat):(hds b r (plB l) i).length<=4*i:=by
 induction i with
 | zero=>simp [hds]
 | succ i ih=>
  rw [y7x,List.length_append,List.length_map,z3x]
  have:=z3h h i;omega
theorem y2z {α β:Type} (f:α->β) {l:List α} {j:Nat} (d:α) (h:j<l.length):(l.take (j+1)).map f=(l.take j).map f++[f (l.getD j d)]:=by
 rw [z5g d h,List.map_append];rfl
theorem x9f (b r:Int) (l:Bed):(hds b r l l.length).length=l.flatten.length:=by
 induction l with
 | nil=>rfl
 | cons s l ih=>
  unfold hds at *
  rw [List.length_cons,List.range_succ_eq_map,List.flatMap_cons,List.length_append,List.flatMap_map,List.flatten_cons,List.length_append,<-ih]
  simp [List.length_flatMap,Function.comp_def]
theorem y9q (B:Bd) (r:Int):(v3j B r).length=B.flat.length:=by
 unfold v3j Bd.flat;rw [List.length_append,List.length_append,x9f,x9f]
def IsB (v:Value):Prop:=∃g n c,v=Value.slice (some ⟨g,0,none⟩) n c
theorem u5g {α:Type} {E:Enc α} {T base:Nat} {w:World} {v:Value} {ys:List α} (h:Lw.Own E T base w v ys) (hne:ys≠[]):IsB v:=by
 rcases h with ⟨rfl,rfl⟩|⟨g,cap,cur,rfl,_⟩
 ·exact absurd rfl hne
 exact ⟨_,_,_,rfl⟩
theorem v8o {α:Type} {E:Enc α} {T base:Nat} {w:World} {v:Value} {ys:List α} (h:IsB v) (ho:Lw.Own E T base w v ys):∃g c,v=.slice (some ⟨g,0,none⟩) ys.length c:=by
 obtain ⟨g,n,c,rfl⟩:=h
 obtain ⟨A,c',e,_⟩:=ho.sl.form
 cases e;exact ⟨_,_,rfl⟩
def u4b {α:Type} (d:α) (ys zs:List α) (k:Nat):Prop:=zs.length=ys.length/\∀p,p<ys.length->zs.getD p d=if p<k\/ys.length-1-p<k then ys.getD (ys.length-1-p) d else ys.getD p d
theorem z7a {α:Type} {d:α} {ys zs:List α} {k:Nat} (hk:k<ys.length-1-k) (h:u4b d ys zs k):u4b d ys ((zs.set k (zs.getD (ys.length-1-k) d)).set (ys.length-1-k) (zs.getD k d)) (k+1):=by
 obtain ⟨hl,h⟩:=h
 refine ⟨by rw [List.length_set,List.length_set];exact hl,λp hp=>?_⟩
 rw [z1g (by rw [List.length_set];omega),z1g (by omega),h k (by omega),h (ys.length-1-k) (by omega),h p hp]
 rw [if_neg (show ¬(k<k\/ys.length-1-k<k) by omega),if_neg (show ¬(ys.length-1-k<k\/ys.length-1-(ys.length-1-k)<k) by omega)]
 by_cases e1:ys.length-1-k=p
 ·subst e1
  rw [if_pos rfl,if_pos (by omega)]
  congr 1;omega
 rw [if_neg e1]
 by_cases e2:k=p
 ·subst e2;rw [if_pos rfl,if_pos (by omega)]
 rw [if_neg e2]
 by_cases e3:p<k\/ys.length-1-p<k
 ·rw [if_pos e3,if_pos (by omega)]
 rw [if_neg e3,if_neg (by omega)]
theorem y8r {α:Type} {d:α} {ys zs:List α} {k:Nat} (hk:¬(k:Int)<(ys.length:Int)-1-k) (h:u4b d ys zs k):zs=ys.reverse:=by
 obtain ⟨hl,h⟩:=h
 refine List.ext_getElem (by simpa using hl) λp h1 h2=>?_
 have hp:p<ys.length:=by rw [<-hl];exact h1
 have:=h p hp
 rw [List.getElem_reverse]
 rw [List.getD,List.getElem?_eq_getElem h1,Option.getD_some] at this
 rw [this]
 split
 ·rw [List.getD,List.getElem?_eq_getElem (by omega)];rfl
 have e:p=ys.length-1-p:=by omega
 rw [List.getD,List.getElem?_eq_getElem hp,Option.getD_some]
 congr 1
theorem v3w {α:Type} (d:α) (ys:List α):u4b d ys ys 0:=⟨rfl,λp hp=>by rw [if_neg (by omega)]⟩
end Go.G08
namespace Go.Proofs.YtpgdchkdlgkmgaaGreatDoor
open Go.Lw Go.G21 Go.G08 _root_.Go.Proofs.Tryz
theorem y8i:z0z prog 183 2 4:=λ_ _=>by kernel_rfl
structure StT (w:World):Prop where
  c:Cells w ⟨0,0,none⟩ u0z
theorem StT.ext {w w':World} (h:StT w) (hf:Fr [] w w'):StT w':=⟨h.c.fr hf (by simp)⟩
theorem v0o (x:Int) (w0:World):Rets prog 165 #[.int .i64 x] w0 λr w'=>r=.bool false/\Fr [] w0 w':=by
 refine we [(0,.int .i64 x)] func165 rfl ntmps165 rfl (.cons rfl .nil) (sr (asg rfl (nn (sr (mv rfl (mv rfl (ne' rfl rfl (asg rfl (nn (rt (r1 results165 rfl ?_)))))))))))
 exact ⟨_,rfl,congrArg Value.bool (decide_eq_false (λh=>h rfl)),(Fr.refl _ _)⟩
theorem v3k (x y:Int) (w0:World):Rets prog 123 #[.int .i64 x,.int .i64 y] w0 λr w'=>r=.int .i64 (z9i x y)/\Fr [] w0 w':=by
 refine we [(0,.int .i64 x),(1,.int .i64 y)] func123 rfl ntmps123 rfl (.c2 rfl rfl) (sr (asg rfl (nn (sr (mv rfl (cl (ev1 rfl) (mkC func165) (v0o _ _) rfl ?_))))))
 rintro _ w1 ⟨rfl,q1⟩
 refine asg rfl (nn (sr (mv rfl (cl (ev1 rfl) (mkC func165) (v0o _ _) rfl ?_))))
 rintro _ w2 ⟨rfl,q2⟩
 refine asg rfl (nn (sq (sr (mv rfl (nn (cf rfl (sk (tn (sq (sr (mv rfl (nn (cf rfl (sk (tn (sq (sr (mv rfl (mv rfl (lt' rfl rfl (nn (cd rfl (λc3=>?_) (λc3=>?_)))))))))))))))))))))))
 ·refine sr (asg rfl (nn (rt (tr (r1 results123 rfl ?_)))))
  exact ⟨_,rfl,by first|(rw [z9i,if_pos c3])|(unfold z9i;(repeat' split)<;>first|rfl|omega),(q1.n1 q2)⟩
 refine sk (tn (sq (sr (mv rfl (mv rfl (gt' rfl rfl (nn (cd rfl (λc4=>?_) (λc4=>?_)))))))))
 ·refine sr (asg rfl (nn (rt (tr (r1 results123 rfl ?_)))))
  exact ⟨_,rfl,by first|(rw [z9i,if_neg c3,if_pos c4])|(unfold z9i;(repeat' split)<;>first|rfl|omega),(q1.n1 q2)⟩
 refine sk (tn (sr (asg rfl (nn (rt (r1 results123 rfl ?_))))))
 exact ⟨_,rfl,by first|(rw [z9i,if_neg c3,if_neg c4])|(unfold z9i;(repeat' split)<;>first|rfl|omega),(q1.n1 q2)⟩
theorem u0t (x:Int) (w0:World):Rets prog 164 #[.int .u8 x] w0 λr w'=>r=.bool false/\Fr [] w0 w':=by
 refine we [(0,.int .u8 x)] func164 rfl ntmps164 rfl (.cons rfl .nil) (sr (asg rfl (nn (sr (mv rfl (mv rfl (ne' rfl rfl (asg rfl (nn (rt (r1 results164 rfl ?_)))))))))))
 exact ⟨_,rfl,congrArg Value.bool (decide_eq_false (λh=>h rfl)),(Fr.refl _ _)⟩
theorem j2a (x y:Int) (w0:World):Rets prog 122 #[.int .u8 x,.int .u8 y] w0 λr w'=>r=.int .i64 (z9i x y)/\Fr [] w0 w':=by
 refine we [(0,.int .u8 x),(1,.int .u8 y)] func122 rfl ntmps122 rfl (.c2 rfl rfl) (sr (asg rfl (nn (sr (mv rfl (cl (ev1 rfl) (mkC func164) (u0t _ _) rfl ?_))))))
 rintro _ w1 ⟨rfl,q1⟩
 refine asg rfl (nn (sr (mv rfl (cl (ev1 rfl) (mkC func164) (u0t _ _) rfl ?_))))
 rintro _ w2 ⟨rfl,q2⟩
 refine asg rfl (nn (sq (sr (mv rfl (nn (cf rfl (sk (tn (sq (sr (mv rfl (nn (cf rfl (sk (tn (sq (sr (mv rfl (mv rfl (lt' rfl rfl (nn (cd rfl (λc3=>?_) (λc3=>?_)))))))))))))))))))))))
 ·refine sr (asg rfl (nn (rt (tr (r1 results122 rfl ?_)))))
  exact ⟨_,rfl,by first|(rw [z9i,if_pos c3])|(unfold z9i;(repeat' split)<;>first|rfl|omega),(q1.n1 q2)⟩
 refine sk (tn (sq (sr (mv rfl (mv rfl (gt' rfl rfl (nn (cd rfl (λc4=>?_) (λc4=>?_)))))))))
 ·refine sr (asg rfl (nn (rt (tr (r1 results122 rfl ?_)))))
  exact ⟨_,rfl,by first|(rw [z9i,if_neg c3,if_pos c4])|(unfold z9i;(repeat' split)<;>first|rfl|omega),(q1.n1 q2)⟩
 refine sk (tn (sr (asg rfl (nn (rt (r1 results122 rfl ?_))))))
 exact ⟨_,rfl,by first|(rw [z9i,if_neg c3,if_neg c4])|(unfold z9i;(repeat' split)<;>first|rfl|omega),(q1.n1 q2)⟩
theorem y7i (x y:Hd) (w0:World):Rets prog 143 #[.agg #[.int .u8 x.id.y,.int .i64 x.id.n,.int .u8 x.b,.int .i64 x.n,.int .i64 x.s],.agg #[.int .u8 y.id.y,.int .i64 y.id.n,.int .u8 y.b,.int .i64 y.n,.int .i64 y.s]] w0 λr w'=>r=.int .i64 (z9i x.s y.s)/\Fr [] w0 w':=by
 refine we [(0,.agg #[.int .u8 x.id.y,.int .i64 x.id.n,.int .u8 x.b,.int .i64 x.n,.int .i64 x.s]),(1,.agg #[.int .u8 y.id.y,.int .i64 y.id.n,.int .u8 y.b,.int .i64 y.n,.int .i64 y.s])] func143 rfl ntmps143 rfl (.c2 rfl rfl) (sr (bx rfl rfl rfl (λg2 w1 hg2 hb2 q1 z1=>(bx rfl rfl rfl (λg3 w2 hg3 hb3 q2 z2=>(asg rfl (nn (sr (fad rfl y8i ?_)))))))))
 replace hb2:=hb2.ext q2
 refine z0i rfl hb2 rfl na3 (fad rfl y8i (z0i rfl hb3 rfl na3 (cl (ev2 rfl rfl) (mkC func123) (v3k _ _ _) rfl ?_)))
 rintro _ w3 ⟨rfl,q3⟩
 refine asg rfl (kpL [(4,_)] (.cons rfl .nil) (nn (rt (r1 results143 rfl ?_))))
 exact ⟨_,rfl,rfl,(q1.n2 q2 q3)⟩
theorem y6g (r:Int) (w0:World):Rets prog 193 #[.int .i64 r] w0 λv w'=>v=.bool (decide (-4<=r/\r<=4))/\Fr [] w0 w':=by
 refine we [(0,.int .i64 r)] func193 rfl ntmps193 rfl (.cons rfl .nil) (sr (asg rfl (nn (sq ?_))))
 refine rbo (r:=2) (L':=[]) (((-4<=r)/\(r<=4))) .nil ?_ ?_
 ·refine mv rfl (ge' rfl rfl (mv rfl (gs 5 rfl (λg0=>?_) (λg0=>?_))))
  ·exact gY rfl (mv rfl (gY rfl (le' rfl rfl rfl (pkt rfl rfl (asg rfl (rbe rfl .nil))))))
  exact gN rfl rfl (gN rfl rfl (pkf rfl rfl (asg rfl (rbe rfl .nil))))
 refine tn (rt (r1 results193 rfl ?_))
 exact ⟨_,rfl,rfl,(Fr.refl _ _)⟩
theorem x0x (q:BdQ) (r:Int) (w0:World) (hB:BdAt w0 q) (hv:BdOk q.p) (hr:-4<=r/\r<=4):Rets prog 140 #[.agg #[.slice q.f.1 q.f.2.1 q.f.2.2,.slice q.b.1 q.b.2.1 q.b.2.2],.int .i64 r] w0 λv w'=>v=.int .i64 0/\Fr [] w0 w':=by
 refine we [(0,.agg #[.slice q.f.1 q.f.2.1 q.f.2.2,.slice q.b.1 q.b.2.1 q.b.2.2]),(1,.int .i64 r)] func140 rfl ntmps140 rfl (.c2 rfl rfl) ?_
 have hB0:=hB
 refine sr (bx rfl rfl rfl (λg2 w1 hg2 hb2 q1 z1=>(asg rfl (nn (sq (sr (z0n rfl hb2 z5k ?_)))))))
 replace hB:=hB0.ext q1
 refine cl (ev1 rfl) (mkC func43) (y9e q _ hB hv) rfl ?_
 rintro _ w2 ⟨rfl,q2⟩
 refine asg rfl (nn (sr (mv rfl (ne' rfl rfl (nn (cd rfl (λc0=>?_) (λc0=>?_)))))))
 ·exact absurd rfl c0
 refine sk (tn (sq (sr (mv rfl (cl (ev1 rfl) (mkC func193) (y6g _ _) rfl ?_)))))
 rintro _ w3 ⟨rfl,q3⟩
 refine nt' rfl (nn (cd rfl (λc1=>?_) (λc1=>?_)))
 ·exact absurd hr c1
 refine sk (tn (sr (asg rfl (nn (rt (r1 results140 rfl ?_))))))
 exact ⟨_,rfl,rfl,(q1.n2 q2 q3)⟩
theorem x1c (q:BdQ) (r d:Int) (w0:World) (hB:BdAt w0 q) (hv:BdOk q.p) (hT:StT w0) (hr:-4<=r/\r<=4) (hd:d=0\/d=1) (hr2:-4<=r+stI d/\r+stI d<=4):Rets prog 195 #[.agg #[.slice q.f.1 q.f.2.1 q.f.2.2,.slice q.b.1 q.b.2.1 q.b.2.2],.int .i64 r,.int .u8 d] w0 λv w'=>v=.int .i64 0/\Fr [] w0 w':=by
 refine we [(0,.agg #[.slice q.f.1 q.f.2.1 q.f.2.2,.slice q.b.1 q.b.2.1 q.b.2.2]),(1,.int .i64 r),(2,.int .u8 d)] func195 rfl ntmps195 rfl (.c3 rfl rfl rfl) ?_
 have hB0:=hB
 have hT0:=hT
 refine sr (bx rfl rfl rfl (λg3 w1 hg3 hb3 q1 z1=>(asg rfl (nn (sq (sr (z0n rfl hb3 z5k (mv rfl ?_))))))))
 replace hB:=hB0.ext q1
 refine cl (ev2 rfl rfl) (mkC func140) (x0x q _ _ hB hv (by omega)) rfl ?_
 rintro _ w2 ⟨rfl,q2⟩
 refine asg rfl (nn (sr (mv rfl (ne' rfl rfl (nn (cd rfl (λc0=>?_) (λc0=>?_)))))))
 ·exact absurd rfl c0
 refine sk (tn (sq (sq ?_)))
 refine rbo (r:=19) (L':=[(1,_),(2,_)]) (((d≠0)/\(d≠1))) (.c2 rfl rfl) ?_ ?_
 ·refine mv rfl (ne' rfl rfl (mv rfl (gs 16 rfl (λg0=>?_) (λg0=>?_))))
  ·exact gY rfl (mv rfl (gY rfl (ne' rfl rfl (pkt rfl rfl (rbe rfl (.c2 rfl rfl))))))
  exact gN rfl rfl (gN rfl rfl (pkf rfl rfl (rbe rfl (.c2 rfl rfl))))
 refine tn (cd rfl (λc1=>?_) (λc1=>?_))
 ·exfalso;omega
 refine sk (tn (sq (sr (mv rfl (mv rfl (y2l rfl rfl underlying290 sz3 ?_))))))
 replace hT:=hT0.ext (q1.n1 q2)
 refine z7s rfl hT.c (y4n hd) na3 (z0y rfl rfl (wi6 (by omega)) (cl (ev1 rfl) (mkC func193) (y6g _ _) rfl ?_))
 rintro _ w3 ⟨rfl,q3⟩
 refine nt' rfl (kpL [(26,_)] (.cons rfl .nil) (nn (cd rfl (λc2=>?_) (λc2=>?_))))
 ·exact absurd hr2 c2
 refine sk (tn (sr (asg rfl (nn (rt (r1 results195 rfl ?_))))))
 exact ⟨_,rfl,rfl,(q1.n2 q2 q3)⟩
theorem z5e:z3p prog 183 5:=⟨λ_=>by kernel_rfl,λ_=>by kernel_rfl⟩
theorem z3a:ElemOf prog 179 183 z3j 40:=ElemOf.mk' (z:=(.agg #[.int .u8 0,.int .i64 0,.int .u8 0,.int .i64 0,.int .i64 0])) underlying179 (by kernel_rfl) rfl
theorem z8d:z1q prog 183 5:=λ_=>by kernel_rfl
set_option maxHeartbeats 2000000 in
theorem u0j (g c base lo up:Nat) (l:List Hd) (w0:World) (ho:Lw.Own z3j 183 base w0 (.slice (some ⟨g,0,none⟩) l.length c) l) (hl:l.length<=1000000) (hab:lo<=up/\up<=l.length):Rets prog 231 #[.slice (some ⟨g,0,none⟩) l.length c,.int .i64 (lo:Int),.int .i64 (up:Int),.func (.func 143) #[] #[]] w0 λr w'=>r=.tuple #[]/\Lw.Own z3j 183 base w' (.slice (some ⟨g,0,none⟩) l.length c) (z7m l lo up up)/\Fr [g] w0 w':=by
 refine we [(0,.slice (some ⟨g,0,none⟩) l.length c),(1,.int .i64 (lo:Int)),(2,.int .i64 (up:Int)),(3,.func (.func 143) #[] #[])] func231 rfl ntmps231 rfl (.c4 rfl rfl rfl rfl) (sr (mv rfl (z0y rfl rfl (wi6 (by omega)) (asg rfl (nn (bl ?_))))))
 refine lpK (ι:=Nat) [(0,_),(1,_),(2,_),(3,_)] (λi=>[(8,.int .i64 (i:Int))]) (λi w'=>Fr [g] w0 w'/\(lo+1<=i/\(i<=up\/i=lo+1))/\Lw.Own z3j 183 base w' (.slice (some ⟨g,0,none⟩) l.length c) (z7m l lo up i)) (λi=>up-i) (lo+1) (.c5 rfl rfl rfl rfl (congrArg (λz=>some (Value.int .i64 z)) (show (lo:Int)+1=((lo+1:Nat):Int) by omega))) ⟨Fr.refl _ _,⟨⟨Nat.le_refl _,.inr rfl⟩,by rw [u9d hab.1 hab.2];exact ho⟩⟩ ?_
 rintro i w1 ⟨q1,⟨hi,ho⟩⟩
 refine kpC [(0,_),(1,_),(2,_),(3,_),(8,_)] (.c5 rfl rfl rfl rfl rfl) (sq (sr (mv rfl (mv rfl (lt' rfl rfl (nn (cd rfl (λc0=>?_) (λc0=>?_))))))))
 ·have hiu:i<up:=by omega
  obtain ⟨s,hs⟩:∃s,s=z4z ((l.take i).drop lo):=⟨_,rfl⟩
  obtain ⟨x,hx⟩:∃x,x=l.getD i hd0:=⟨_,rfl⟩
  have hsl:s.length=i-lo:=by rw [hs];exact z5y (by omega) (by omega)
  have hss:x2l s:=by rw [hs];exact z7o _
  rw [u2f (by omega) hiu hab.2,<-hs,<-hx,<-hsl] at ho
  refine sk (tn (sq (bl (sr (mv rfl (asg rfl (nn (bl ?_))))))))
  refine lpK (ι:=Nat) [(0,_),(1,_),(2,_),(3,_),(8,_)] (λk=>[(9,.int .i64 ((lo+k:Nat):Int))]) (λk w'=>Fr [g] w1 w'/\k<=s.length/\Lw.Own z3j 183 base w' (.slice (some ⟨g,0,none⟩) l.length c) (y1b (l.take lo) s k x (l.drop (i+1)))/\∀j,k<=j->j<s.length->x.s<(s.getD j hd0).s) (λk=>k) s.length (.c6 rfl rfl rfl rfl rfl (congrArg (λz=>some (Value.int .i64 z)) (show (i:Int)=((lo+s.length:Nat):Int) by omega))) ⟨Fr.refl _ _,⟨Nat.le_refl _,ho,λj h1 h2=>by omega⟩⟩ ?_
  rintro k w2 ⟨q2,⟨hk,ho,hgt⟩⟩
  refine kpC [(0,_),(1,_),(2,_),(3,_),(8,_),(9,_)] (.c6 rfl rfl rfl rfl rfl rfl) ?_
  have hLl:(y1b (l.take lo) s k x (l.drop (i+1))).length=l.length:=by rw [v7a,List.length_take,List.length_drop];omega
  have hLx:(y1b (l.take lo) s k x (l.drop (i+1))).getD (lo+k) hd0=x:=by have:=j0b (P:=l.take lo) (R:=l.drop (i+1)) (x:=x) (d:=hd0) hk;rwa [List.length_take,show min lo l.length=lo by omega] at this
  refine sq (sq ?_)
  intro a h
  refine z0h none (λwb w'=>Fr [] wb w') z2r ?_;intro w3 q3
  replace ho:=ho.ext q3
  have hC:Fr [] w3 w3:=Fr.refl _ _
  have ho_b:=ho
  refine z0e 0 h rfl rfl λa h=>z0e 1 h rfl rfl λa h=>v0a 2 hC h wn rfl rfl rfl rfl λa h=>z0e 3 h rfl rfl λa h=>?_
  refine gSp (D:=21) h rfl ?_ ?_
  ·clear h;intro g0 h
   refine z0e 4 h rfl rfl ?_ (hG:=(wy rfl));clear h a;intro a h
   refine z0e 5 h rfl rfl ?_ (hG:=(wy rfl));clear h a;intro a h
   refine z0e 6 h rfl rfl ?_ (hG:=(wy rfl));clear h a;intro a h
   refine z1k (p:=lo+k) (hd0) 7 h rfl ho.sl rfl z3a rfl ?_ (hG:=(wy rfl));clear h a;intro ad25 hc25 a h
   refine z2l 8 h (wy rfl) rfl (λ_ hw=>hc25 _ (ho_b.sl.ext hw)) z5e rfl λa h=>z0e 9 h rfl rfl ?_ (hG:=(wy rfl));clear h a;intro a h
   refine z0e 10 h rfl rfl ?_ (hG:=(wy rfl));clear h a;intro a h
   refine z2y 11 h (wy rfl) rfl rfl (by first|exact i6 (by omega)|rfl) rfl λa h=>z1k (p:=lo+k-1) (hd0) 12 h rfl ho.sl rfl z3a rfl ?_ (hG:=(wy rfl));clear h a;intro ad30 hc30 a h
   refine z2l 13 h (wy rfl) rfl (λ_ hw=>hc30 _ (ho_b.sl.ext hw)) z5e rfl λa h=>z0d 14 rfl ?_
   refine y3n h rfl rfl rfl rfl rfl rfl ?_
   refine z9b (us:=[]) (ws:=[]) h rfl (z0a rfl (z0a rfl z0g)) (mkC func143) (y7i ((y1b (l.take lo) s k x (l.drop (i+1))).getD (lo+k) hd0) ((y1b (l.take lo) s k x (l.drop (i+1))).getD (lo+k-1) hd0) _) rfl (by intro g e;cases e) ?_;rintro _ w4 ⟨rfl,q4⟩ a h
   replace ho:=ho.ext q4
   replace hC:=hC.next q4
   refine z0b ?_
   refine x8h 15 hC h (wy rfl) rfl rfl rfl rfl λa h=>z0d 16 rfl ?_
   refine z5j h rfl rfl rfl rfl λa h=>?_
   refine z0b ?_
   refine z0r ?_
   clear hC ho_b
   refine bk (h.sub (L':=[(0,_),(1,_),(2,_),(3,_),(8,_),(9,_),(34,_)]) (.c7 rfl rfl rfl rfl rfl rfl rfl)) (tn (cd rfl (λc1=>?_) (λc1=>?_)))
   ·have hk0:0<k:=by omega
    have hLy:(y1b (l.take lo) s k x (l.drop (i+1))).getD (lo+k-1) hd0=s.getD (k-1) hd0:=by have:=u0p (P:=l.take lo) (s:=s) (R:=l.drop (i+1)) (x:=x) (d:=hd0) (k:=k-1) (by omega);rwa [List.length_take,show min lo l.length=lo by omega,show k-1+1=k by omega,show lo+(k-1)=lo+k-1 by omega] at this
    have hlt:x.s<(s.getD (k-1) hd0).s:=by rw [hLx,hLy] at c1;exact z8h.1 c1
    refine sk (tn (sq (bl ?_)))
    intro a h
    refine z0h (some 17) (λwb w'=>Fr [g] wb w') z2r ?_;intro w5 q5
    replace ho:=ho.ext q5
    have hC:Fr [g] w5 w5:=Fr.refl _ _
    have ho_b:=ho
    refine z0e 0 h rfl rfl λa h=>z0e 1 h rfl rfl λa h=>z0e 2 h rfl rfl λa h=>z0e 3 h rfl rfl λa h=>z2y 4 h wn rfl rfl (by first|exact i6 (by omega)|rfl) rfl λa h=>z0e 5 h rfl rfl λa h=>z0e 6 h rfl rfl λa h=>z2y 7 h wn rfl rfl (by first|exact i6 (by omega)|rfl) rfl λa h=>z1k (p:=lo+k-1) (hd0) 8 h rfl ho.sl rfl z3a rfl λad45 hc45 a h=>z0e 10 h rfl rfl λa h=>z0e 11 h rfl rfl λa h=>?_
    refine z1k (p:=lo+k) (hd0) 12 h rfl ho.sl rfl z3a rfl λad49 hc49 a h=>z2d 9 13 (by kernel_rfl) rfl rfl ?_ ?_
    ·refine z1p h rfl (hc45 _ ho.sl) z5e rfl λa h=>?_
     refine z0b ?_
     refine z0d 13 rfl ?_
     refine z1p h rfl (hc49 _ ho.sl) z5e rfl λa h=>?_
     refine z0b ?_
     refine z1n 14 (by kernel_rfl) (by kernel_rfl) (by kernel_rfl) hC (p:=lo+k) h wn rfl rfl z3a (by omega) (by omega) (by omega) rfl rfl λa h=>z0d 15 rfl ?_
     refine z1b (i:=lo+k) ((y1b (l.take lo) s k x (l.drop (i+1))).getD (lo+k-1) hd0) h rfl rfl ho (by omega) rfl z8d λw6 ho_2 q6 _hz a h=>?_
     replace hC:=hC.sp q6
     clear _hz ho
     have ho:=ho_2
     clear ho_2
     refine z0b ?_
     refine z1n 16 (by kernel_rfl) (by kernel_rfl) (by kernel_rfl) hC (p:=lo+k-1) h wn rfl rfl z3a (by omega) (by omega) (by omega) rfl rfl λa h=>z0d 17 rfl ?_
     refine z1b (i:=lo+k-1) ((y1b (l.take lo) s k x (l.drop (i+1))).getD (lo+k) hd0) h rfl rfl ho (by rw [List.length_set];omega) rfl z8d λw7 ho_2 q7 _hz a h=>?_
     clear _hz ho
     have ho:=ho_2
     clear ho_2
     refine z1o ?_
     refine z0r ?_
     clear hC ho_b
     refine bk (h.sub (L':=[(0,_),(1,_),(2,_),(3,_),(8,_),(9,_)]) (.c6 rfl rfl rfl rfl rfl rfl)) (bn' (tn (rg (mv rfl (z2u rfl rfl (wi6 (by omega)) (asg rfl (nl ?_)))))))
     exact lpE (k-1) (.c6 rfl rfl rfl rfl rfl (congrArg (λz=>some (Value.int .i64 z)) (show ((lo+k:Nat):Int)-1=((lo+(k-1):Nat):Int) by omega))) ⟨((Fr.refl [g] _).z6 q2 q3 q4 q5 q6 q7),⟨by omega,by rw [hLx,hLy] at ho;have e:=x0f (P:=l.take lo) (s:=s) (R:=l.drop (i+1)) (x:=x) (d:=hd0) (k:=k-1) (by omega);rw [List.length_take,show min lo l.length=lo by omega,show k-1+1=k by omega,show lo+(k-1)+1=lo+k by omega] at e;rw [<-e,show lo+(k-1)=lo+k-1 by omega];exact ho,λj h1 h2=>by
      by_cases e:k<=j
      ·exact hgt j e h2
      obtain rfl:j=k-1:=by omega
      exact hlt⟩⟩ (by omega)
    refine z1p h rfl (hc49 _ ho.sl) z5e rfl λa h=>?_
    refine z0b ?_
    refine z0d 9 rfl ?_
    refine z1p h rfl (hc45 _ ho.sl) z5e rfl λa h=>?_
    refine z0b ?_
    refine z1n 14 (by kernel_rfl) (by kernel_rfl) (by kernel_rfl) hC (p:=lo+k) h wn rfl rfl z3a (by omega) (by omega) (by omega) rfl rfl λa h=>z0d 15 rfl ?_
    refine z1b (i:=lo+k) ((y1b (l.take lo) s k x (l.drop (i+1))).getD (lo+k-1) hd0) h rfl rfl ho (by omega) rfl z8d λw8 ho_2 q8 _hz a h=>?_
    replace hC:=hC.sp q8
    clear _hz ho
    have ho:=ho_2
    clear ho_2
    refine z0b ?_
    refine z1n 16 (by kernel_rfl) (by kernel_rfl) (by kernel_rfl) hC (p:=lo+k-1) h wn rfl rfl z3a (by omega) (by omega) (by omega) rfl rfl λa h=>z0d 17 rfl ?_
    refine z1b (i:=lo+k-1) ((y1b (l.take lo) s k x (l.drop (i+1))).getD (lo+k) hd0) h rfl rfl ho (by rw [List.length_set];omega) rfl z8d λw9 ho_2 q9 _hz a h=>?_
    clear _hz ho
    have ho:=ho_2
    clear ho_2
    refine z1o ?_
    refine z0r ?_
    clear hC ho_b
    refine bk (h.sub (L':=[(0,_),(1,_),(2,_),(3,_),(8,_),(9,_)]) (.c6 rfl rfl rfl rfl rfl rfl)) (bn' (tn (rg (mv rfl (z2u rfl rfl (wi6 (by omega)) (asg rfl (nl ?_)))))))
    exact lpE (k-1) (.c6 rfl rfl rfl rfl rfl (congrArg (λz=>some (Value.int .i64 z)) (show ((lo+k:Nat):Int)-1=((lo+(k-1):Nat):Int) by omega))) ⟨((Fr.refl [g] _).z6 q2 q3 q4 q5 q8 q9),⟨by omega,by rw [hLx,hLy] at ho;have e:=x0f (P:=l.take lo) (s:=s) (R:=l.drop (i+1)) (x:=x) (d:=hd0) (k:=k-1) (by omega);rw [List.length_take,show min lo l.length=lo by omega,show k-1+1=k by omega,show lo+(k-1)+1=lo+k by omega] at e;rw [<-e,show lo+(k-1)=lo+k-1 by omega];exact ho,λj h1 h2=>by
     by_cases e:k<=j
     ·exact hgt j e h2
     obtain rfl:j=k-1:=by omega
     exact hlt⟩⟩ (by omega)
   have hnl:k=0\/¬x.s<(s.getD (k-1) hd0).s:=by
    first
    | exact .inl (by omega)
    | (refine .inr λe=>c1 ?_;have:=u0p (P:=l.take lo) (s:=s) (R:=l.drop (i+1)) (x:=x) (d:=hd0) (k:=k-1) (by omega);rw [List.length_take,show min lo l.length=lo by omega,show k-1+1=k by omega,show lo+(k-1)=lo+k-1 by omega] at this;rw [hLx,this];exact z8h.2 e)
   refine ex (te (te (xh (bn' (tn (rg (mv rfl (z0y rfl rfl (wi6 (by omega)) (asg rfl (nl ?_))))))))))
   exact lpE (i+1) (.c5 rfl rfl rfl rfl rfl) ⟨((Fr.refl [g] _).z4 q1 q2 q3 q4),⟨by omega,by rw [<-x0z (by omega) (by omega) hab.2,<-hs,<-hx,<-x0n (k:=k) hss hk (by first|exact hnl|exact .inl (by omega)) hgt];exact ho⟩⟩ (by omega)
  clear h;intro g0 h
  refine z2h 4 h rfl rfl rfl λa h=>z2h 5 h rfl rfl rfl λa h=>z2h 6 h rfl rfl rfl λa h=>z2h 7 h rfl rfl rfl λa h=>z2h 8 h rfl rfl rfl λa h=>z2h 9 h rfl rfl rfl λa h=>z2h 10 h rfl rfl rfl λa h=>z2h 11 h rfl rfl rfl λa h=>z2h 12 h rfl rfl rfl λa h=>z2h 13 h rfl rfl rfl λa h=>z2h 14 h rfl rfl rfl λa h=>?_
  refine z2h 15 h rfl rfl rfl λa h=>z0d 16 rfl ?_
  refine z4j h rfl rfl rfl rfl λa h=>?_
  refine z0b ?_
  refine z0r ?_
  clear hC ho_b
  refine bk (h.sub (L':=[(0,_),(1,_),(2,_),(3,_),(8,_),(9,_),(34,_)]) (.c7 rfl rfl rfl rfl rfl rfl rfl)) (tn (cf rfl (ex (te (te (xh (bn' (tn (rg (mv rfl (z0y rfl rfl (wi6 (by omega)) (asg rfl (nl ?_)))))))))))))
  exact lpE (i+1) (.c5 rfl rfl rfl rfl rfl) ⟨((Fr.refl [g] _).z3 q1 q2 q3),⟨by omega,by rw [<-x0z (by omega) (by omega) hab.2,<-hs,<-hx,<-x0n (k:=k) hss hk (by first|exact hnl|exact .inl (by omega)) hgt];exact ho⟩⟩ (by omega)
 rw [v6k (by omega)] at ho
 refine ex (te (te (xh (r0n results231  ?_))))
 exact ⟨_,rfl,rfl,ho,(q1.weak (by simp<;>omega))⟩
end Go.Proofs.YtpgdchkdlgkmgaaGreatDoor
namespace Go.G08
open Go.Lw Go.G21
def flK (k:Int) (l:List Hd):List Hd:=l.filter λh=>decide (h.s=k)
theorem z7r (k:Int) (a b:List Hd):flK k (a++b)=flK k a++flK k b:=List.filter_append ..
theorem x4d {k:Int} {l:List Hd} (h:∀x∈l,x.s≠k):flK k l=[]:=by
 unfold flK;rw [List.filter_eq_nil_iff];intro x hx;simpa using h x hx
theorem z5p (k:Int) (x:Hd) (l:List Hd):flK k (x::l)=if x.s=k then x::flK k l else flK k l:=by
 unfold flK;rw [List.filter_cons];by_cases e:x.s=k<;>simp [e]
theorem v1w (k:Int) (h:Hd):∀l:List Hd,x2l l->flK k (y0y h l)=flK k (l++[h])
 | [],_=>rfl
 | y::l,hs=>by
  obtain ⟨h1,h2⟩:=List.pairwise_cons.1 hs
  unfold y0y
  split
  ·rename_i hlt
   rw [z7r,z5p]
   by_cases e:h.s=k
   ·have:flK k (y::l)=[]:=x4d λx hx=>by
     rcases List.mem_cons.1 hx with rfl|hx
     ·omega
     have:=h1 x hx;omega
    rw [if_pos e,this,z5p,if_pos e];rfl
   rw [if_neg e,z5p k h [],if_neg e];simp [flK]
  rw [List.cons_append,z5p,z5p,v1w k h l h2]
theorem x6i (k:Int):∀(l a:List Hd),x2l a->flK k (l.foldl (λa h=>y0y h a) a)=flK k (a++l)
 | [],a,_=>by simp
 | x::l,a,h=>by
  rw [List.foldl_cons,x6i k l _ (y7q x a h),z7r,v1w k x a h,<-z7r,List.append_assoc];rfl
theorem z8n (k:Int) (l:List Hd):flK k (z4z l)=flK k l:=by unfold z4z;rw [x6i k l [] List.Pairwise.nil];rfl
theorem x9t {k:Int} {x:Hd} {l:List Hd}:x∈flK k l↔x∈l/\x.s=k:=by unfold flK;rw [List.mem_filter];simp
theorem y6q {a b:List Hd} (h:∀k,flK k a=flK k b) (x:Hd) (hx:x∈a):x∈b:=(x9t.1 (h x.s▸x9t.2 ⟨hx,rfl⟩)).1
theorem x5z {x:Hd} {l:List Hd}:x∈z4z l↔x∈l:=⟨y6q (λk=>z8n k l) x,y6q (λk=>(z8n k l).symm) x⟩
theorem x5k:∀(a b:List Hd),x2l a->x2l b->(∀k,flK k a=flK k b)->a=b
 | [],[],_,_,_=>rfl
 | [],y::b,_,_,h=>by have:=y6q (λk=>(h k).symm) y (List.mem_cons_self ..);cases this
 | x::a,[],_,_,h=>by have:=y6q h x (List.mem_cons_self ..);cases this
 | x::a,y::b,ha,hb,h=>by
  obtain ⟨a1,a2⟩:=List.pairwise_cons.1 ha
  obtain ⟨b1,b2⟩:=List.pairwise_cons.1 hb
  have hx:=y6q h x (List.mem_cons_self ..)
  have hy:=y6q (λk=>(h k).symm) y (List.mem_cons_self ..)
  have e1:y.s<=x.s:=by
   rcases List.mem_cons.1 hx with e|e
   ·rw [e];exact Int.le_refl _
   exact b1 x e
  have e2:x.s<=y.s:=by
   rcases List.mem_cons.1 hy with e|e
   ·rw [e];exact Int.le_refl _
   exact a1 y e
  have es:y.s=x.s:=by omega
  have h0:=h x.s
  rw [z5p,z5p,if_pos rfl,if_pos es] at h0
  obtain ⟨exy,_⟩:=List.cons.inj h0
  subst exy
  rw [x5k a b a2 b2 λk=>?_]
  have hk:=h k
  rw [z5p,z5p] at hk
  by_cases e:x.s=k
  ·rw [if_pos e,if_pos e] at hk;exact (List.cons.inj hk).2
  rw [if_neg e,if_neg e] at hk;exact hk
theorem x3g {l l':List Hd} (h:x2l l') (hf:∀k,flK k l'=flK k l):l'=z4z l:=x5k _ _ h (z7o l) λk=>(hf k).trans (z8n k l).symm
theorem u7b {l:List Hd} (h:x2l l):z4z l=l:=(x3g h λ_=>rfl).symm
theorem v9c (a b:List Hd):z4z (z4z a++z4z b)=z4z (a++b):=by
 refine x3g (z7o _) λk=>?_
 rw [z8n,z7r,z8n,z8n,z7r]
theorem j1d {X Y:List Hd} (k:Int) (h:∀x∈X,∀y∈Y,y.s<x.s):flK k (Y++X)=flK k (X++Y):=by
 rw [z7r,z7r]
 by_cases e:∃x∈X,x.s=k
 ·obtain ⟨x,hx,rfl⟩:=e
  rw [x4d (l:=Y) λy hy=>by have:=h x hx y hy;omega];simp
 rw [x4d (l:=X) λx hx hk=>e ⟨x,hx,hk⟩];simp
theorem u6y {L1 L2 R1 R2:List Hd} (hL:x2l (L1++L2)) (hR:x2l (R1++R2)) (hx:∀x∈L2,∀y∈R1,y.s<x.s) (h1:∀x∈L1,∀y∈R2,x.s<=y.s):z4z (L1++R1)++z4z (L2++R2)=z4z ((L1++L2)++(R1++R2)):=by
 obtain ⟨_,_,l3⟩:=List.pairwise_append.1 hL
 obtain ⟨_,_,r3⟩:=List.pairwise_append.1 hR
 refine x3g (List.pairwise_append.2 ⟨z7o _,z7o _,λa ha b hb=>?_⟩) λk=>?_
 ·rcases List.mem_append.1 (x5z.1 ha) with ha|ha<;>rcases List.mem_append.1 (x5z.1 hb) with hb|hb
  ·exact l3 a ha b hb
  ·exact h1 a ha b hb
  ·have:=hx b hb a ha;omega
  exact r3 a ha b hb
 rw [z7r,z8n,z8n]
 have:=j1d k hx
 simp only [z7r,List.append_assoc] at this ⊢
 rw [<-List.append_assoc (flK k R1),this,List.append_assoc]
-- ---- lists whose elements are taken in another order
def prm (l:List Hd) (f:Nat->Nat):List Hd:=(List.range l.length).map λi=>l.getD (f i) hd0
theorem z4r (l:List Hd) (f:Nat->Nat):(prm l f).length=l.length:=by unfold prm;simp
theorem z8g {l:List Hd} {f:Nat->Nat} {i:Nat} (h:i<l.length):(prm l f).getD i hd0=l.getD (f i) hd0:=by
 unfold prm
 rw [List.getD,List.getElem?_eq_getElem (by simpa using h),List.getElem_map,List.getElem_range];rfl
theorem z6d {a b:List Hd} (hl:a.length=b.length) (h:∀i,i<a.length->a.getD i hd0=b.getD i hd0):a=b:=by
 refine List.ext_getElem hl λi h1 h2=>?_
 have:=h i h1
 rw [List.getD,List.getD,List.getElem?_eq_getElem h1,List.getElem?_eq_getElem h2] at this
 exact this
theorem x9r {l:List Hd} {f g:Nat->Nat} (h:∀i,i<l.length->f i=g i):prm l f=prm l g:=by
 refine z6d (by rw [z4r,z4r]) λi hi=>?_
 rw [z4r] at hi
 rw [z8g hi,z8g hi,h i hi]
theorem v3o {l:List Hd} {f:Nat->Nat} (h:∀i,i<l.length->f i=i):prm l f=l:=by
 refine z6d (z4r _ _) λi hi=>?_
 rw [z4r] at hi
 rw [z8g hi,h i hi]
theorem v1y {l:List Hd} {f g h:Nat->Nat} (hg:∀i,i<l.length->g i<l.length) (he:∀i,i<l.length->f (g i)=h i):prm (prm l f) g=prm l h:=by
 refine z6d (by rw [z4r,z4r,z4r]) λi hi=>?_
 rw [z4r,z4r] at hi
 rw [z8g (by rw [z4r];exact hi),z8g (hg i hi),z8g hi,he i hi]
def z8q (s m e x:Nat):Nat:=if x<s\/e<=x then x else if x<s+(e-m) then x-s+m else x-(e-m)
def z4x (l:List Hd) (s m e:Nat):List Hd:=prm l (z8q s m e)
def swF (a b n x:Nat):Nat:=if a<=x/\x<a+n then x-a+b else if b<=x/\x<b+n then x-b+a else x
def swL (l:List Hd) (a b n:Nat):List Hd:=prm l (swF a b n)
theorem z1l (l:List Hd) (s m e:Nat):(z4x l s m e).length=l.length:=z4r _ _
theorem z5w (l:List Hd) (a b n:Nat):(swL l a b n).length=l.length:=z4r _ _
theorem z2j {l:List Hd} {s m e i:Nat} (h:i<l.length):(z4x l s m e).getD i hd0=l.getD (z8q s m e i) hd0:=z8g h
theorem y8y {l:List Hd} {a b n i:Nat} (h:i<l.length):(swL l a b n).getD i hd0=l.getD (swF a b n i) hd0:=z8g h
theorem v0y {s m e n i:Nat} (h1:s<=m) (h2:m<=e) (h3:e<=n) (hi:i<n):z8q s m e i<n:=by
 unfold z8q;split
 ·exact hi
 split<;>omega
theorem u1j {l:List Hd} {s e:Nat} (h:s<=e):z4x l s s e=l:=v3o λi _=>by
 unfold z8q;split
 ·rfl
 split<;>omega
theorem u0g {l:List Hd} {s m:Nat} (h:s<=m):z4x l s m m=l:=v3o λi _=>by
 unfold z8q;split
 ·rfl
 split<;>omega
theorem sw_0 {l:List Hd} {a b:Nat}:swL l a b 0=l:=v3o λi _=>by
 unfold swF;split
 ·omega
 split<;>omega
theorem j1h {l:List Hd} {i m:Nat} (h:i<=m):swL l (m-i) m i=z4x l (m-i) m (m+i):=x9r λx _=>by
 unfold swF z8q;repeat' split
 all_goals omega
theorem j2m {l:List Hd} {i j m:Nat} (h:i<=m) (hij:j<i) (he:m+j<=l.length):z4x (swL l (m-i) m j) (m-(i-j)) m (m+j)=z4x l (m-i) m (m+j):=by
 refine v1y (λx hx=>v0y (by omega) (by omega) he hx) λx hx=>?_
 unfold swF z8q;repeat' split
 all_goals omega
theorem u9u {l:List Hd} {i j m:Nat} (h:i<=m) (hij:i<j) (he:m+j<=l.length):z4x (swL l (m-i) (m+j-i) i) (m-i) m (m+(j-i))=z4x l (m-i) m (m+j):=by
 refine v1y (λx hx=>v0y (by omega) (by omega) (by omega) hx) λx hx=>?_
 unfold swF z8q;repeat' split
 all_goals omega
theorem z6y {l:List Hd} {i j:Nat} {x:Hd} (hi:i<l.length):(l.set i x).getD j hd0=if j=i then x else l.getD j hd0:=by
 rw [List.getD,List.getElem?_set]
 by_cases e:i=j
 ·subst e;rw [if_pos rfl,if_pos hi,if_pos rfl];rfl
 rw [if_neg e,if_neg (λh=>e h.symm)];rfl
theorem x9e {l:List Hd} {a b i:Nat} (h:a+i+1<=b) (he:b+i<l.length):((swL l a b i).set (a+i) ((swL l a b i).getD (b+i) hd0)).set (b+i) ((swL l a b i).getD (a+i) hd0)=swL l a b (i+1):=by
 refine z6d (by simp [z5w]) λx hx=>?_
 simp only [List.length_set,z5w] at hx
 rw [z6y (by rw [List.length_set,z5w];exact he),z6y (by rw [z5w];omega),y8y (by omega),y8y (by omega),y8y hx,y8y hx]
 unfold swF
 repeat' split
 all_goals first|rfl|(congr 1;omega)|omega
theorem u0f {l:List Hd} {a k:Nat} (h:a<=k) (he:k+1<l.length):((z4x l a (a+1) (k+1)).set k ((z4x l a (a+1) (k+1)).getD (k+1) hd0)).set (k+1) ((z4x l a (a+1) (k+1)).getD k hd0)=z4x l a (a+1) (k+2):=by
 refine z6d (by simp [z1l]) λx hx=>?_
 simp only [List.length_set,z1l] at hx
 rw [z6y (by rw [List.length_set,z1l];exact he),z6y (by rw [z1l];omega),z2j (by omega),z2j (by omega),z2j hx,z2j hx]
 unfold z8q
 repeat' split
 all_goals first|rfl|(congr 1;omega)|omega
theorem x6h {l:List Hd} {m k:Nat} (h:k<m) (he:m<l.length):((z4x l (k+1) m (m+1)).set (k+1) ((z4x l (k+1) m (m+1)).getD k hd0)).set k ((z4x l (k+1) m (m+1)).getD (k+1) hd0)=z4x l k m (m+1):=by
 refine z6d (by simp [z1l]) λx hx=>?_
 simp only [List.length_set,z1l] at hx
 rw [z6y (by rw [List.length_set,z1l];omega),z6y (by rw [z1l];omega),z2j (by omega),z2j (by omega),z2j hx,z2j hx]
 unfold z8q
 repeat' split
 all_goals first|rfl|(congr 1;omega)|omega
abbrev seg (l:List Hd) (a b:Nat):List Hd:=(l.take b).drop a
theorem z1w {l:List Hd} {a b:Nat} (hb:b<=l.length):(seg l a b).length=b-a:=by
 unfold seg;rw [List.length_drop,List.length_take];omega
theorem z6v {l:List Hd} {a b i:Nat} (h:i<b-a):(seg l a b).getD i hd0=l.getD (a+i) hd0:=by
 unfold seg;rw [List.getD,List.getElem?_drop,List.getElem?_take,if_pos (by omega)];rfl
theorem y1x {l:List Hd} {a m b:Nat} (h1:a<=m) (h2:m<=b) (hb:b<=l.length):seg l a b=seg l a m++seg l m b:=by
 refine z6d (by rw [List.length_append,z1w hb,z1w (by omega),z1w hb];omega) λi hi=>?_
 rw [z1w hb] at hi
 rw [z6v hi]
 by_cases e:i<m-a
 ·rw [List.getD,List.getD,List.getElem?_append_left (by rw [z1w (by omega)];exact e)]
  have:=z6v (l:=l) (a:=a) (b:=m) e
  rw [List.getD,List.getD] at this;exact this.symm
 rw [List.getD,List.getD,List.getElem?_append_right (by rw [z1w (by omega)];omega),z1w (by omega)]
 have:=z6v (l:=l) (a:=m) (b:=b) (i:=i-(m-a)) (by omega)
 rw [List.getD,List.getD,show m+(i-(m-a))=a+i by omega] at this;exact this.symm
theorem y7m {l:List Hd} {a b:Nat} (h:a<=b) (hb:b<=l.length):l.take a++(seg l a b++l.drop b)=l:=by
 have h1:l.take a++seg l a b=l.take b:=by
  unfold seg
  conv=>rhs;rw [<-List.take_append_drop a (l.take b)]
  rw [List.take_take,show min a b=a by omega]
 rw [<-List.append_assoc,h1,List.take_append_drop]
theorem y8p {l:List Hd} {a b:Nat} {x:Hd} (hb:b<=l.length) (hx:x∈seg l a b):∃i,a<=i/\i<b/\x=l.getD i hd0:=by
 obtain ⟨i,hi,rfl⟩:=List.getElem_of_mem hx
 rw [z1w hb] at hi
 refine ⟨a+i,by omega,by omega,?_⟩
 rw [<-z6v hi,List.getD,List.getElem?_eq_getElem (by rw [z1w hb];exact hi)];rfl
def z8w (l:List Hd) (a b:Nat):Prop:=∀i j,a<=i->i<j->j<b->(l.getD i hd0).s<=(l.getD j hd0).s
theorem y9n {l:List Hd} {a b:Nat} (hb:b<=l.length) (h:z8w l a b):x2l (seg l a b):=by
 refine List.pairwise_iff_getElem.2 λi j hi hj hij=>?_
 have l1:=hi;have l2:=hj
 rw [z1w hb] at hi hj
 have e1:=z6v (l:=l) hi;have e2:=z6v (l:=l) hj
 rw [List.getD,List.getElem?_eq_getElem l1,Option.getD_some] at e1
 rw [List.getD,List.getElem?_eq_getElem l2,Option.getD_some] at e2
 rw [e1,e2];exact h _ _ (by omega) (by omega) (by omega)
theorem x5y {l:List Hd} {a b:Nat} (hb:b<=l.length) (h:x2l (seg l a b)):z8w l a b:=λi j h1 h2 h3=>by
 have:=List.pairwise_iff_getElem.1 h (i-a) (j-a) (by rw [z1w hb];omega) (by rw [z1w hb];omega) (by omega)
 have e1:=z6v (l:=l) (a:=a) (b:=b) (i:=i-a) (by omega)
 have e2:=z6v (l:=l) (a:=a) (b:=b) (i:=j-a) (by omega)
 rw [List.getD,List.getElem?_eq_getElem (by rw [z1w hb];omega),Option.getD_some,show a+(i-a)=i by omega] at e1
 rw [List.getD,List.getElem?_eq_getElem (by rw [z1w hb];omega),Option.getD_some,show a+(j-a)=j by omega] at e2
 rw [e1,e2] at this;exact this
theorem v8y {l:List Hd} {a b i:Nat} (h:a<=b) (hb:b<=l.length) (hi:i<a\/b<=i):(z7m l a b b).getD i hd0=l.getD i hd0:=by
 unfold z7m
 rw [show min b b=b by omega]
 rcases hi with e|e
 ·rw [List.getD,List.getD,List.getElem?_append_left (by rw [List.length_take];omega),List.getElem?_take,if_pos e]
 rw [List.getD,List.getD,List.getElem?_append_right (by rw [List.length_take];omega),List.length_take,List.getElem?_append_right (by rw [z5y h hb];omega),z5y h hb,List.getElem?_drop]
 congr 2;omega
theorem x1e {l:List Hd} {a b:Nat} (h:a<=b) (hb:b<=l.length):(z7m l a b b).length=l.length:=by
 unfold z7m
 rw [show min b b=b by omega,List.length_append,List.length_append,z5y h hb,List.length_take,List.length_drop];omega
theorem z7j {l:List Hd} {a b:Nat} (h:a<=b) (hb:b<=l.length) (hs:z8w l a b):z7m l a b b=l:=by
 unfold z7m
 rw [show min b b=b by omega,u7b (y9n hb hs)]
 exact y7m h hb
theorem y8c {l:List Hd} {P M S:List Hd} (h:l=P++(M++S)):seg l P.length (P.length+M.length)=M:=by
 subst h
 unfold seg
 rw [<-List.append_assoc,List.take_append_of_le_length (by rw [List.length_append];exact Nat.le_refl _),show P.length+M.length=(P++M).length by rw [List.length_append],List.take_length]
 simp
theorem z7i {P M S:List Hd}:z7m (P++(M++S)) P.length (P.length+M.length) (P.length+M.length)=P++(z4z M++S):=by
 unfold z7m
 rw [Nat.min_self]
 have:=y8c (l:=P++(M++S)) rfl
 unfold seg at this
 rw [this]
 congr 1
 ·simp
 congr 1
 rw [<-List.append_assoc,show P.length+M.length=(P++M).length by rw [List.length_append],List.drop_append_of_le_length (Nat.le_refl _)];simp
theorem x7x {l:List Hd} {s m e:Nat} (h1:s<=m) (h2:m<=e) (he:e<=l.length):z4x l s m e=l.take s++(seg l m e++(seg l s m++l.drop e)):=by
 refine z6d (by simp only [z1l,List.length_append,z1w he,z1w (show m<=l.length by omega),List.length_take,List.length_drop];omega) λi hi=>?_
 rw [z1l] at hi
 rw [z2j hi]
 unfold z8q
 by_cases c1:i<s
 ·rw [if_pos (.inl c1),List.getD,List.getD,List.getElem?_append_left (by rw [List.length_take];omega),List.getElem?_take,if_pos c1]
 rw [List.getD,List.getD,List.getElem?_append_right (by rw [List.length_take];omega),List.length_take,show min s l.length=s by omega]
 by_cases c2:i<s+(e-m)
 ·rw [if_neg (by omega),if_pos c2,List.getElem?_append_left (by rw [z1w he];omega)]
  have:=z6v (l:=l) (a:=m) (b:=e) (i:=i-s) (by omega)
  rw [List.getD,List.getD] at this;rw [this];congr 2;omega
 rw [List.getElem?_append_right (by rw [z1w he];omega),z1w he]
 by_cases c3:i<e
 ·rw [if_neg (by omega),if_neg c2,List.getElem?_append_left (by rw [z1w (by omega)];omega)]
  have:=z6v (l:=l) (a:=s) (b:=m) (i:=i-s-(e-m)) (by omega)
  rw [List.getD,List.getD] at this;rw [this];congr 2;omega
 rw [if_pos (by omega),List.getElem?_append_right (by rw [z1w (by omega)];omega),z1w (by omega),List.getElem?_drop];congr 2;omega
theorem u2a {l:List Hd} {a b:Nat} (h:a<=b) (hb:b<=l.length):z7m l a b b=l.take a++(z4z (seg l a b)++l.drop b):=by unfold z7m;rw [Nat.min_self]
theorem y0a {l:List Hd} {a s m e b mid:Nat} (h1:a<=s) (h2:s<=m) (h3:m<=e) (h4:e<=b) (hb:b<=l.length) (hm:mid=s+(e-m)) (hl:z8w l a m) (hr:z8w l m b)
    (hx:∀i j,s<=i->i<m->m<=j->j<e->(l.getD j hd0).s<(l.getD i hd0).s) (hy:∀i j,a<=i->i<s->e<=j->j<b->(l.getD i hd0).s<=(l.getD j hd0).s):z7m (z7m (z4x l s m e) a mid mid) mid b b=z7m l a b b:=by
  have el:z4x l s m e=l.take a++((seg l a s++seg l m e)++((seg l s m++seg l e b)++l.drop b)):=by
    rw [x7x h2 h3 (by omega)]
    have t1:l.take s=l.take a++seg l a s:=by
      unfold seg
      conv=>lhs;rw [<-List.take_append_drop a (l.take s)]
      rw [List.take_take,show min a s=a by omega]
    have t2:l.drop e=seg l e b++l.drop b:=by
      have:=y7m (l:=l) h4 hb
      have h:=congrArg (List.drop e) this
      rw [List.drop_append_of_le_length (by rw [List.length_take];omega),List.drop_eq_nil_of_le (by rw [List.length_take];omega)] at h
      exact h.symm
    rw [t1,t2];simp only [List.append_assoc]
  have lA:(l.take a).length=a:=by rw [List.length_take];omega
  have lM:(seg l a s++seg l m e).length=mid-a:=by rw [List.length_append,z1w (by omega),z1w (by omega)];omega
  have lN:(seg l s m++seg l e b).length=b-mid:=by rw [List.length_append,z1w (by omega),z1w (by omega)];omega
  have i1:=z7i (P:=l.take a) (M:=seg l a s++seg l m e) (S:=(seg l s m++seg l e b)++l.drop b)
  rw [lA,lM,show a+(mid-a)=mid by omega,<-el] at i1
  rw [i1]
  have i2:=z7i (P:=l.take a++z4z (seg l a s++seg l m e)) (M:=seg l s m++seg l e b) (S:=l.drop b)
  rw [List.length_append,lA,z3v,lM,lN,show a+(mid-a)+(b-mid)=b by omega,show a+(mid-a)=mid by omega] at i2
  rw [<-List.append_assoc (l.take a),i2,u2a (by omega) hb,List.append_assoc (l.take a),<-List.append_assoc (z4z (seg l a s++seg l m e))]
  congr 2
  rw [y1x (a:=a) (m:=m) (b:=b) (by omega) (by omega) hb,y1x (a:=a) (m:=s) (b:=m) h1 h2 (by omega),y1x (a:=m) (m:=e) (b:=b) h3 h4 hb]
  refine u6y ?_ ?_ (λx hx1 y hy1=>?_) (λx hx1 y hy1=>?_)
  · rw [<-y1x h1 h2 (by omega)];exact y9n (by omega) hl
  · rw [<-y1x h3 h4 hb];exact y9n hb hr
  · obtain ⟨i,k1,k2,rfl⟩:=y8p (by omega) hx1
    obtain ⟨j,k3,k4,rfl⟩:=y8p (by omega) hy1
    exact hx i j k1 k2 k3 k4
  · obtain ⟨i,k1,k2,rfl⟩:=y8p (by omega) hx1
    obtain ⟨j,k3,k4,rfl⟩:=y8p hb hy1
    exact hy i j k1 k2 k3 k4
theorem y9l {l:List Hd} {a s m e mid:Nat} (h1:a<=s) (h2:s<=m) (h3:m<=e) (he:e<=l.length) (hm:mid=s+(e-m)) (hl:z8w l a m) (b:Nat) (hr:z8w l m b) (hb:e<=b):z8w (z4x l s m e) a s/\z8w (z4x l s m e) s mid:=by
 constructor
 ·intro i j k1 k2 k3
  rw [z2j (by omega),z2j (by omega)]
  unfold z8q;rw [if_pos (by omega),if_pos (by omega)];exact hl i j k1 k2 (by omega)
 intro i j k1 k2 k3
 rw [z2j (by omega),z2j (by omega)]
 unfold z8q;rw [if_neg (by omega),if_pos (by omega),if_neg (by omega),if_pos (by omega)];exact hr _ _ (by omega) (by omega) (by omega)
theorem x6n {l:List Hd} {a s m e b mid:Nat} (h1:a<=s) (h2:s<=m) (h3:m<=e) (he:e<=b) (hb:b<=l.length) (hm:mid=s+(e-m)) (hl:z8w l a m) (hr:z8w l m b):z8w (z7m (z4x l s m e) a mid mid) mid e/\z8w (z7m (z4x l s m e) a mid mid) e b:=by
 have g:∀i,mid<=i->i<b->(z7m (z4x l s m e) a mid mid).getD i hd0=l.getD (z8q s m e i) hd0:=λi k1 k2=>by
  rw [v8y (by omega) (by rw [z1l];omega) (.inr k1),z2j (by omega)]
 constructor
 ·intro i j k1 k2 k3
  rw [g i (by omega) (by omega),g j (by omega) (by omega)]
  unfold z8q;rw [if_neg (by omega),if_neg (by omega),if_neg (by omega),if_neg (by omega)];exact hl _ _ (by omega) (by omega) (by omega)
 intro i j k1 k2 k3
 rw [g i (by omega) (by omega),g j (by omega) (by omega)]
 unfold z8q;rw [if_pos (by omega),if_pos (by omega)];exact hr _ _ (by omega) k2 k3
theorem u5h {l:List Hd} {a i b:Nat} (h1:a+1<=i) (h2:i<=b) (hb:b<=l.length) (hr:z8w l (a+1) b) (hx:∀j,a+1<=j->j<i->(l.getD j hd0).s<(l.getD a hd0).s) (hy:∀j,i<=j->j<b->(l.getD a hd0).s<=(l.getD j hd0).s):z4x l a (a+1) i=z7m l a b b:=by
 have k:=y0a (l:=l) (a:=a) (s:=a) (m:=a+1) (e:=i) (b:=b) (mid:=a+(i-(a+1))) (Nat.le_refl _) (by omega) h1 h2 hb rfl (λi' j' k1 k2 k3=>by omega) hr
  (λi' j' k1 k2 k3 k4=>by obtain rfl:i'=a:=(by omega);exact hx j' k3 k4) (λi' j' k1 k2=>by omega)
 have r1:=y9l (l:=l) (a:=a) (s:=a) (m:=a+1) (e:=i) (mid:=a+(i-(a+1))) (Nat.le_refl _) (by omega) h1 (by omega) rfl (λi' j' k1 k2 k3=>by omega) b hr h2
 rw [<-k]
 have s1:z8w (z4x l a (a+1) i) a (a+(i-(a+1))):=r1.2
 rw [z7j (by omega) (by rw [z1l];omega) s1]
 have s2:z8w (z4x l a (a+1) i) (a+(i-(a+1))) b:=λx y k1 k2 k3=>by
  rw [z2j (by omega),z2j (by omega)]
  by_cases e1:x=i-1
  ·have f1:z8q a (a+1) i x=a:=by unfold z8q;rw [if_neg (by omega),if_neg (by omega)];omega
   have f2:z8q a (a+1) i y=y:=by unfold z8q;rw [if_pos (by omega)]
   rw [f1,f2];exact hy y (by omega) k3
  have f1:z8q a (a+1) i x=x:=by unfold z8q;rw [if_pos (by omega)]
  have f2:z8q a (a+1) i y=y:=by unfold z8q;rw [if_pos (by omega)]
  rw [f1,f2];exact hr x y (by omega) k2 k3
 exact (z7j (by omega) (by rw [z1l];omega) s2).symm
theorem u2q {l:List Hd} {a i m:Nat} (h1:a<=i) (h2:i<=m) (hb:m+1<=l.length) (hl:z8w l a m) (hx:∀j,i<=j->j<m->(l.getD m hd0).s<(l.getD j hd0).s) (hy:∀j,a<=j->j<i->(l.getD j hd0).s<=(l.getD m hd0).s):z4x l i m (m+1)=z7m l a (m+1) (m+1):=by
 have k:=y0a (l:=l) (a:=a) (s:=i) (m:=m) (e:=m+1) (b:=m+1) (mid:=i+1) h1 h2 (by omega) (Nat.le_refl _) hb (by omega) hl (λi' j' k1 k2 k3=>by omega)
  (λi' j' k1 k2 k3 k4=>by obtain rfl:j'=m:=(by omega);exact hx i' k1 k2) (λi' j' k1 k2 k3 k4=>by omega)
 rw [<-k]
 have s1:z8w (z4x l i m (m+1)) a (i+1):=λx y k1 k2 k3=>by
  rw [z2j (by omega),z2j (by omega)]
  have f1:z8q i m (m+1) x=x:=by unfold z8q;rw [if_pos (by omega)]
  by_cases e1:y=i
  ·have f2:z8q i m (m+1) y=m:=by unfold z8q;rw [if_neg (by omega),if_pos (by omega)];omega
   rw [f1,f2];exact hy x k1 (by omega)
  have f2:z8q i m (m+1) y=y:=by unfold z8q;rw [if_pos (by omega)]
  rw [f1,f2];exact hl x y k1 k2 (by omega)
 rw [z7j (by omega) (by rw [z1l];omega) s1]
 have s2:z8w (z4x l i m (m+1)) (i+1) (m+1):=λx y k1 k2 k3=>by
  rw [z2j (by omega),z2j (by omega)]
  have f1:z8q i m (m+1) x=x-1:=by unfold z8q;rw [if_neg (by omega),if_neg (by omega)];omega
  have f2:z8q i m (m+1) y=y-1:=by unfold z8q;rw [if_neg (by omega),if_neg (by omega)];omega
  rw [f1,f2];exact hl _ _ (by omega) (by omega) (by omega)
 exact (z7j (by omega) (by rw [z1l];omega) s2).symm
theorem j0l {l:List Hd} {s m e:Nat} (h:¬(s<m/\m<e)) (h1:s<=m) (h2:m<=e):z4x l s m e=l:=by
 by_cases k:s<m
 ·obtain rfl:e=m:=by omega
  exact u0g h1
 obtain rfl:s=m:=by omega
 exact u1j h2
theorem skip1 {l:List Hd} {a s m e mid:Nat} (hn:¬(a<s/\s<mid)) (h1:a<=s) (h2:s<=m) (h3:m<=e) (he:e<=l.length) (hm:mid=s+(e-m)) (hl:z8w l a m) (b:Nat) (hr:z8w l m b) (hb:e<=b):z7m (z4x l s m e) a mid mid=z4x l s m e:=by
 obtain ⟨k1,k2⟩:=y9l h1 h2 h3 he hm hl b hr hb
 refine z7j (by omega) (by rw [z1l];omega) ?_
 by_cases k:a<s
 ·obtain rfl:mid=s:=by omega
  exact k1
 obtain rfl:s=a:=by omega
 exact k2
theorem j5g {l:List Hd} {a s m e b mid:Nat} (hn:¬(mid<e/\e<b)) (h1:a<=s) (h2:s<=m) (h3:m<=e) (he:e<=b) (hb:b<=l.length) (hm:mid=s+(e-m)) (hl:z8w l a m) (hr:z8w l m b):z7m (z7m (z4x l s m e) a mid mid) mid b b=z7m (z4x l s m e) a mid mid:=by
 obtain ⟨k1,k2⟩:=x6n h1 h2 h3 he hb hm hl hr
 refine z7j (by omega) (by rw [x1e (by omega) (by rw [z1l];omega),z1l];omega) ?_
 by_cases k:mid<e
 ·obtain rfl:e=b:=by omega
  exact k1
 obtain rfl:e=mid:=by omega
 exact k2
structure Sch (l:List Hd) (p s0 r0 s r:Nat):Prop where
  lo:s0<=s
  le:s<=r
  hi:r<=r0
  f1:∀x,s0<=x->x<s->(l.getD x hd0).s<=(l.getD (p-x) hd0).s
  f2:∀x,r<=x->x<r0->(l.getD (p-x) hd0).s<(l.getD x hd0).s
theorem j4c {l:List Hd} {p s0 r0:Nat} (h:s0<=r0):Sch l p s0 r0 s0 r0:=⟨Nat.le_refl _,h,Nat.le_refl _,λx _ _=>by omega,λx _ _=>by omega⟩
theorem z5m {l:List Hd} {a b i j:Nat} (h:z8w l a b) (hi:a<=i) (hij:i<=j) (hj:j<b):(l.getD i hd0).s<=(l.getD j hd0).s:=by
 by_cases e:i=j
 ·subst e;exact Int.le_refl _
 exact h i j hi (by omega) hj
section
variable {l:List Hd} {a m b mid p s0 r0 s r c:Nat}
theorem u9x (h:Sch l p s0 r0 s r) (hc:s<=c/\c<r) (hl:z8w l a m) (hr:z8w l m b) (ha:a<=s0) (hm:r0<=m) (hi:r0<=mid) (hp:p=mid+m-1) (hb:mid+m<=b+s0) (hx:¬(l.getD (p-c) hd0).s<(l.getD c hd0).s):Sch l p s0 r0 (c+1) r:=by
 obtain ⟨k1,k2,k3,k4,k5⟩:=h
 refine ⟨by omega,by omega,k3,λx h1 h2=>?_,k5⟩
 have e1:=z5m hl (show a<=x by omega) (show x<=c by omega) (show c<m by omega)
 have e2:=z5m hr (show m<=p-c by omega) (show p-c<=p-x by omega) (show p-x<b by omega)
 omega
theorem v8z (h:Sch l p s0 r0 s r) (hc:s<=c/\c<r) (hl:z8w l a m) (hr:z8w l m b) (ha:a<=s0) (hm:r0<=m) (hi:r0<=mid) (hp:p=mid+m-1) (hb:mid+m<=b+s0) (hx:(l.getD (p-c) hd0).s<(l.getD c hd0).s):Sch l p s0 r0 s c:=by
 obtain ⟨k1,k2,k3,k4,k5⟩:=h
 refine ⟨k1,by omega,by omega,k4,λx h1 h2=>?_⟩
 have e1:=z5m hl (show a<=c by omega) (show c<=x by omega) (show x<m by omega)
 have e2:=z5m hr (show m<=p-x by omega) (show p-x<=p-c by omega) (show p-c<b by omega)
 omega
theorem v9g (h:Sch l p s0 r0 s s) (hl:z8w l a m) (hr:z8w l m b) (ha:a<=s0) (hm:r0=min m mid) (hp:p=mid+m-1) (hb:mid+m<=b+s0) (h0:s0=a\/s0=mid+m-b) (hbm:b<=mid+m\/s0=a) :
    (∀i j,s<=i->i<m->m<=j->j<mid+m-s->(l.getD j hd0).s<(l.getD i hd0).s)/\(∀i j,a<=i->i<s->mid+m-s<=j->j<b->(l.getD i hd0).s<=(l.getD j hd0).s):=by
  obtain ⟨k1,k2,k3,k4,k5⟩:=h
  constructor
  · intro i j h1 h2 h3 h4
    have e0:=k5 s (Nat.le_refl _) (by omega)
    have e1:=z5m hl (show a<=s by omega) h1 h2
    have e2:=z5m hr h3 (show j<=p-s by omega) (show p-s<b by omega)
    omega
  · intro i j h1 h2 h3 h4
    by_cases e:s0<s
    · have e0:=k4 (s-1) (by omega) (by omega)
      have e1:=z5m hl h1 (show i<=s-1 by omega) (show s-1<m by omega)
      have e2:=z5m hr (show m<=p-(s-1) by omega) (show p-(s-1)<=j by omega) h4
      omega
    · omega
end
def chk (B:Nat) (l:List Hd):List Hd:=if h:B=0\/l.length<=B then z4z l else z4z (l.take B)++chk B (l.drop B)
termination_by l.length
decreasing_by rw [List.length_drop];omega
theorem z9o {B:Nat} {l:List Hd} (h:l.length<=B):chk B l=z4z l:=by rw [chk,dif_pos (.inr h)]
theorem v7x {B:Nat} {X Y:List Hd} (hB:0<B) (h:X.length=B):chk B (X++Y)=z4z X++chk B Y:=by
 rw [chk]
 split
 ·rename_i k
  rw [List.length_append] at k
  have:Y=[]:=List.length_eq_zero_iff.1 (by omega)
  subst this
  rw [List.append_nil,z9o (l:=[]) (by simp)]
  exact (List.append_nil _).symm
 rw [<-h];simp
theorem v3z (B:Nat):∀(n:Nat) (l:List Hd),l.length<=n->(chk B l).length=l.length
 | 0,l,h=>by rw [chk,dif_pos (.inr (by omega)),z3v]
 | n+1,l,h=>by
  rw [chk]
  split
  ·exact z3v l
  rename_i k
  rw [List.length_append,z3v,v3z B n _ (by rw [List.length_drop];omega),List.length_take,List.length_drop];omega
theorem z9x {B a:Nat} {l:List Hd} (hB:0<B) (h:a+B<=l.length):chk B (l.drop a)=z4z (seg l a (a+B))++chk B (l.drop (a+B)):=by
 have e:l.drop a=seg l a (a+B)++l.drop (a+B):=by
  have:=y7m (l:=l) (a:=a) (b:=a+B) (by omega) h
  have h':=congrArg (List.drop a) this
  rw [List.drop_append_of_le_length (by rw [List.length_take];omega),List.drop_eq_nil_of_le (by rw [List.length_take];omega)] at h'
  exact h'.symm
 conv=>lhs;rw [e]
 exact v7x hB (by rw [z1w h];omega)
theorem v7n {l D:List Hd} {a B:Nat} (hD:D.length=a) (h:a+B<=l.length):z7m (D++l.drop a) a (a+B) (a+B)=(D++z4z (seg l a (a+B)))++l.drop (a+B):=by
 have e:l.drop a=seg l a (a+B)++l.drop (a+B):=by
  have:=y7m (l:=l) (a:=a) (b:=a+B) (by omega) h
  have h':=congrArg (List.drop a) this
  rw [List.drop_append_of_le_length (by rw [List.length_take];omega),List.drop_eq_nil_of_le (by rw [List.length_take];omega)] at h'
  exact h'.symm
 rw [e]
 have:=z7i (P:=D) (M:=seg l a (a+B)) (S:=l.drop (a+B))
 rw [hD,z1w h,show a+(a+B-a)=a+B by omega] at this
 rw [this,List.append_assoc]
theorem v6h {l D:List Hd} {a B:Nat} (hD:D.length=a) (h:a<=l.length) (hl:l.length<=a+B):z7m (D++l.drop a) a l.length l.length=D++chk B (l.drop a):=by
 have:=z7i (P:=D) (M:=l.drop a) (S:=[])
 rw [hD,List.length_drop,show a+(l.length-a)=l.length by omega,List.append_nil,List.append_nil] at this
 rw [this,z9o (by rw [List.length_drop];omega)]
theorem x1y {l D:List Hd} {a B C:Nat} (hD:D.length=a) (hB:0<B) (hC:C<=B) (h:a+(B+C)<=l.length) (R:List Hd) (hR:chk B (l.drop (a+B))=z4z (seg l (a+B) (a+(B+C)))++R) :
    z7m (D++chk B (l.drop a)) a (a+(B+C)) (a+(B+C))=(D++z4z (seg l a (a+(B+C))))++R/\z8w (D++chk B (l.drop a)) a (a+B)/\z8w (D++chk B (l.drop a)) (a+B) (a+(B+C)):=by
  have e:D++chk B (l.drop a)=D++((z4z (seg l a (a+B))++z4z (seg l (a+B) (a+(B+C))))++R):=by
    rw [z9x hB (by omega),hR,List.append_assoc]
  have l1:(z4z (seg l a (a+B))).length=B:=by rw [z3v,z1w (by omega)];omega
  have l2:(z4z (seg l (a+B) (a+(B+C)))).length=C:=by rw [z3v,z1w (by omega)];omega
  have s:=z7i (P:=D) (M:=z4z (seg l a (a+B))++z4z (seg l (a+B) (a+(B+C)))) (S:=R)
  rw [hD,List.length_append,l1,l2] at s
  refine ⟨?_,?_,?_⟩
  · rw [e,s,v9c,<-y1x (by omega) (by omega) h,List.append_assoc]
  · refine x5y ?_ ?_
    · rw [e];simp only [List.length_append,hD,l1,l2];omega
    · rw [e]
      have:=y8c (l:=D++(z4z (seg l a (a+B))++(z4z (seg l (a+B) (a+(B+C)))++R))) rfl
      rw [hD,l1] at this
      rw [List.append_assoc (z4z (seg l a (a+B))),this];exact z7o _
  · refine x5y ?_ ?_
    · rw [e];simp only [List.length_append,hD,l1,l2];omega
    · rw [e]
      have:=y8c (l:=(D++z4z (seg l a (a+B)))++(z4z (seg l (a+B) (a+(B+C)))++R)) rfl
      rw [List.length_append,hD,l1,l2,List.append_assoc,show a+B+C=a+(B+C) by omega] at this
      rw [List.append_assoc (z4z (seg l a (a+B))),this];exact z7o _
theorem u5q:∀l:Bed,(∀s∈l,s.length<=4)->l.flatten.length<=4*l.length
 | [],_=>by simp
 | s::l,h=>by
  have h1:=h s (List.mem_cons_self ..)
  have h2:=u5q l λt ht=>h t (List.mem_cons_of_mem _ ht)
  rw [List.flatten_cons,List.length_append,List.length_cons];omega
theorem y7f {B:Bd} (h:BdOk B):B.flat.length<=320:=by
 have h1:=u5q B.f λs hs=>h.ss s (List.mem_append.2 (.inl hs))
 have h2:=u5q B.b λs hs=>h.ss s (List.mem_append.2 (.inr hs))
 have h3:=h.lf
 have h4:=h.lb
 unfold Bd.flat;rw [List.length_append];omega
end Go.G08
namespace Go.Lw
open Go.RowKit
section
variable {P:Program} {n:Nat} {L:List (Nat×Value)} {ds:List Nat} {w w':World} {Q:Exit->Act->World->Prop} {ops:Array Oper} {rest:List Oper} {d:Nat} {ty T:TypeId} {pos:String} {after:Array Edge} {v:Value} {x:Operand}
theorem v7d {t t':TypeId} {k k':IntKind} {i:Int} {m:Nat} {z:Int} {y:Operand} (hx:ev L x=some (.int k i)) (hy:ev L y=some (.int k' (m:Int))) (hm:m<=k.bits) (hz:i / ((2 ^ m:Nat):Int)=z) (hn:Nat.blt d n=true) (q:WL P ops Q rest n ds w ((d,.int k z)::L)):WL P ops Q (⟨some d,.binOp .shr t x y t',ty,pos,after,none⟩::rest) n ds w L:=
 λa h=>z1u h rfl rfl hn (by
  have e:i.fdiv (2 ^ m)=z:=by
   rw [Int.fdiv_eq_ediv_of_nonneg _ (by exact_mod_cast Nat.zero_le (2 ^ m)),<-hz]
   congr 1
  have hneg:¬((m:Nat):Int)<0:=by omega
  simp [execOp,h.eval hx,h.eval hy,eqGuard_shr,binOp_shr,Op.shift,Nat.min_eq_left hm,e,hneg]) q
end
end Go.Lw
namespace Go.Proofs.YtpgdchkdlgkmgaaGreatDoor
open Go.Lw Go.G21 Go.G08 _root_.Go.Proofs.Tryz
set_option maxHeartbeats 1000000 in
theorem v0f (g c base:Nat) (la b k:Nat) (A B K:Int) (l:List Hd) (w0:World) (hA:A=(la:Int)) (hB:B=(b:Int)) (hK:K=(k:Int)) (ho:Lw.Own z3j 183 base w0 (.slice (some ⟨g,0,none⟩) l.length c) l) (hl:l.length<=1000000) (hab:la+k<=b/\b+k<=l.length):Rets prog 261 #[.slice (some ⟨g,0,none⟩) l.length c,.int .i64 A,.int .i64 B,.int .i64 K,.func (.func 143) #[] #[]] w0 λr w'=>r=.tuple #[]/\Lw.Own z3j 183 base w' (.slice (some ⟨g,0,none⟩) l.length c) (swL l la b k)/\Fr [g] w0 w':=by
 subst hA hB hK
 refine we [(0,.slice (some ⟨g,0,none⟩) l.length c),(1,.int .i64 (la:Int)),(2,.int .i64 (b:Int)),(3,.int .i64 (k:Int)),(4,.func (.func 143) #[] #[])] func261 rfl ntmps261 rfl (.c5 rfl rfl rfl rfl rfl) (sr (asg rfl (nn (bl ?_))))
 refine lpK (ι:=Nat) [(0,_),(1,_),(2,_),(3,_)] (λi=>[(10,.int .i64 (i:Int))]) (λi w'=>Fr [g] w0 w'/\i<=k/\Lw.Own z3j 183 base w' (.slice (some ⟨g,0,none⟩) l.length c) (swL l la b i)) (λi=>k-i) 0 (.c5 rfl rfl rfl rfl rfl) ⟨Fr.refl _ _,⟨Nat.zero_le _,(by rw [sw_0];exact ho)⟩⟩ ?_
 rintro i w1 ⟨q1,⟨hi,ho⟩⟩
 refine kpC [(0,_),(1,_),(2,_),(3,_),(10,_)] (.c5 rfl rfl rfl rfl rfl) ?_
 have hsl:=z5w l la b i
 refine sq (sr (mv rfl (mv rfl (lt' rfl rfl (nn (cd rfl (λc0=>?_) (λc0=>?_)))))))
 ·refine sk (tn (sq (bl ?_)))
  intro a h
  refine z0h (some 23) (λwb w'=>Fr [g] wb w') z2r ?_;intro w2 q2
  replace ho:=ho.ext q2
  have hC:Fr [g] w2 w2:=Fr.refl _ _
  have ho_b:=ho
  refine z0e 0 h rfl rfl λa h=>z0e 1 h rfl rfl λa h=>z0e 2 h rfl rfl λa h=>z5i 3 h rfl rfl (by first|exact i6 (by omega)|rfl) rfl λa h=>z0e 4 h rfl rfl λa h=>z0e 5 h rfl rfl λa h=>z0e 6 h rfl rfl λa h=>z5i 7 h rfl rfl (by first|exact i6 (by omega)|rfl) rfl λa h=>z0e 8 h rfl rfl λa h=>z0e 9 h rfl rfl λa h=>z0e 10 h rfl rfl λa h=>?_
  refine z5i 11 h rfl rfl (by first|exact i6 (by omega)|rfl) rfl λa h=>z1k (p:=(b+i)) (hd0) 12 h rfl ho.sl rfl z3a rfl λad28 hc28 a h=>z0e 14 h rfl rfl λa h=>z0e 15 h rfl rfl λa h=>z0e 16 h rfl rfl λa h=>z5i 17 h rfl rfl (by first|exact i6 (by omega)|rfl) rfl λa h=>z1k (p:=(la+i)) (hd0) 18 h rfl ho.sl rfl z3a rfl λad34 hc34 a h=>z2d 13 19 (by kernel_rfl) rfl rfl ?_ ?_
  ·refine z1p h rfl (hc28 _ ho.sl) z5e rfl λa h=>?_
   refine z0b ?_
   refine z0d 19 rfl ?_
   refine z1p h rfl (hc34 _ ho.sl) z5e rfl λa h=>?_
   refine z0b ?_
   refine z1n 20 (by kernel_rfl) (by kernel_rfl) (by kernel_rfl) hC (p:=(la+i)) h wn rfl rfl z3a (by omega) (by omega) (by omega) rfl rfl λa h=>z0d 21 rfl ?_
   refine z1b (i:=(la+i)) (((swL l la b i).getD (b+i) hd0)) h rfl rfl ho (by rw [z5w];omega) rfl z8d λw3 ho_2 q3 _hz a h=>?_
   replace hC:=hC.sp q3
   clear _hz ho
   have ho:=ho_2
   clear ho_2
   refine z0b ?_
   refine z1n 22 (by kernel_rfl) (by kernel_rfl) (by kernel_rfl) hC (p:=(b+i)) h wn rfl rfl z3a (by omega) (by omega) (by omega) rfl rfl λa h=>z0d 23 rfl ?_
   refine z1b (i:=(b+i)) (((swL l la b i).getD (la+i) hd0)) h rfl rfl ho (by rw [List.length_set,z5w];omega) rfl z8d λw4 ho_2 q4 _hz a h=>?_
   clear _hz ho
   have ho:=ho_2
   clear ho_2
   refine z1o ?_
   refine z0r ?_
   clear hC ho_b
   refine bk (h.sub (L':=[(0,_),(1,_),(2,_),(3,_),(10,_)]) (.c5 rfl rfl rfl rfl rfl)) (bn' (tn (rg (mv rfl (z0y rfl rfl (wi6 (by omega)) (asg rfl (nl ?_)))))))
   exact lpE (i+1) (.c5 rfl rfl rfl rfl rfl) ⟨((Fr.refl [g] _).z4 q1 q2 q3 q4),⟨by omega,(by rw [x9e (by omega) (by omega)] at ho;exact ho)⟩⟩ (by omega)
  refine z1p h rfl (hc34 _ ho.sl) z5e rfl λa h=>?_
  refine z0b ?_
  refine z0d 13 rfl ?_
  refine z1p h rfl (hc28 _ ho.sl) z5e rfl λa h=>?_
  refine z0b ?_
  refine z1n 20 (by kernel_rfl) (by kernel_rfl) (by kernel_rfl) hC (p:=(la+i)) h wn rfl rfl z3a (by omega) (by omega) (by omega) rfl rfl λa h=>z0d 21 rfl ?_
  refine z1b (i:=(la+i)) (((swL l la b i).getD (b+i) hd0)) h rfl rfl ho (by rw [z5w];omega) rfl z8d λw5 ho_2 q5 _hz a h=>?_
  replace hC:=hC.sp q5
  clear _hz ho
  have ho:=ho_2
  clear ho_2
  refine z0b ?_
  refine z1n 22 (by kernel_rfl) (by kernel_rfl) (by kernel_rfl) hC (p:=(b+i)) h wn rfl rfl z3a (by omega) (by omega) (by omega) rfl rfl λa h=>z0d 23 rfl ?_
  refine z1b (i:=(b+i)) (((swL l la b i).getD (la+i) hd0)) h rfl rfl ho (by rw [List.length_set,z5w];omega) rfl z8d λw6 ho_2 q6 _hz a h=>?_
  clear _hz ho
  have ho:=ho_2
  clear ho_2
  refine z1o ?_
  refine z0r ?_
  clear hC ho_b
  refine bk (h.sub (L':=[(0,_),(1,_),(2,_),(3,_),(10,_)]) (.c5 rfl rfl rfl rfl rfl)) (bn' (tn (rg (mv rfl (z0y rfl rfl (wi6 (by omega)) (asg rfl (nl ?_)))))))
  exact lpE (i+1) (.c5 rfl rfl rfl rfl rfl) ⟨((Fr.refl [g] _).z4 q1 q2 q5 q6),⟨by omega,(by rw [x9e (by omega) (by omega)] at ho;exact ho)⟩⟩ (by omega)
 obtain rfl:i=k:=by omega
 refine ex (te (te (xh (r0n results261  ?_))))
 exact ⟨_,rfl,rfl,ho,((Fr.refl [g] _).z1 q1)⟩
set_option maxHeartbeats 1000000 in
theorem u8z (g c base:Nat) (la m b:Nat) (A M B:Int) (l:List Hd) (w0:World) (hA:A=(la:Int)) (hM:M=(m:Int)) (hB:B=(b:Int)) (ho:Lw.Own z3j 183 base w0 (.slice (some ⟨g,0,none⟩) l.length c) l) (hl:l.length<=1000000) (hab:la<m/\m<b/\b<=l.length):Rets prog 252 #[.slice (some ⟨g,0,none⟩) l.length c,.int .i64 A,.int .i64 M,.int .i64 B,.func (.func 143) #[] #[]] w0 λr w'=>r=.tuple #[]/\Lw.Own z3j 183 base w' (.slice (some ⟨g,0,none⟩) l.length c) (z4x l la m b)/\Fr [g] w0 w':=by
 subst hA hM hB
 refine we [(0,.slice (some ⟨g,0,none⟩) l.length c),(1,.int .i64 (la:Int)),(2,.int .i64 (m:Int)),(3,.int .i64 (b:Int)),(4,.func (.func 143) #[] #[])] func252 rfl ntmps252 rfl (.c5 rfl rfl rfl rfl rfl) (sr (mv rfl (mv rfl (z2u rfl rfl (wi6 (by omega)) (asg rfl (nn (sr (mv rfl (mv rfl (z2u rfl rfl (wi6 (by omega)) (asg rfl (nn (sq (bl ?_))))))))))))))
 refine lpK (ι:=Nat×Nat) [(0,_),(2,_),(4,_)] (λp=>[(10,.int .i64 (p.1:Int)),(11,.int .i64 (p.2:Int))]) (λp w'=>Fr [g] w0 w'/\(1<=p.1/\1<=p.2/\p.1<=m/\m+p.2<=l.length)/\∃cur:List Hd,cur.length=l.length/\z4x cur (m-p.1) m (m+p.2)=z4x l la m b/\Lw.Own z3j 183 base w' (.slice (some ⟨g,0,none⟩) l.length c) cur) (λp=>p.1+p.2) (m-la,b-m) (.c5 rfl rfl rfl (by first|rfl|exact congrArg (λz=>some (Value.int .i64 z)) (by first|omega|(simp only;omega))) (by first|rfl|exact congrArg (λz=>some (Value.int .i64 z)) (by first|omega|(simp only;omega)))) ⟨Fr.refl _ _,⟨⟨by simp only;omega,by simp only;omega,by simp only;omega,by simp only;omega⟩,l,rfl,by simp only;rw [show m-(m-la)=la by omega,show m+(b-m)=b by omega],ho⟩⟩ ?_
 rintro ⟨i,j⟩ w1 ⟨q1,⟨hij,cur,hcl,hrt,ho⟩⟩
 simp only at hij hrt
 refine kpC [(0,_),(2,_),(4,_),(10,.int .i64 (i:Int)),(11,.int .i64 (j:Int))] (.c5 rfl rfl rfl rfl rfl) (sq (sr (mv rfl (mv rfl (ne' rfl rfl (nn (cd rfl (λc0=>?_) (λc0=>?_))))))))
 ·refine sk (tn (bl (sr (mv rfl (mv rfl (gt' rfl rfl (nn (cd rfl (λc1=>?_) (λc1=>?_)))))))))
  ·refine sr (mv rfl (mv rfl (mv rfl (z2u rfl rfl (wi6 (by omega)) (mv rfl (mv rfl (mv rfl ?_)))))))
   refine cl (z0a rfl (z0a rfl (z0a rfl (z0a rfl (z0a rfl z0g))))) (mkC func261) (by have x:=v0f g c base (m-i) m j (↑m - ↑i) ↑m ↑j cur _ (by omega) rfl rfl (by rw [hcl];exact ho) (by omega) (by omega);rw [hcl] at x;exact x) rfl ?_
   rintro _ w2 ⟨rfl,ho,q2⟩
   refine kpL [(0,_),(2,_),(4,_),(10,_),(11,_)] (.c5 rfl rfl rfl rfl rfl) (nn (rg (mv rfl (mv rfl (z2u rfl rfl (wi6 (by omega)) (asg rfl (nl (bn' ?_))))))))
   exact lpE ((i-j,j)) (.c5 rfl rfl rfl (by first|rfl|exact congrArg (λz=>some (Value.int .i64 z)) (by first|omega|(simp only;omega))) (by first|rfl|exact congrArg (λz=>some (Value.int .i64 z)) (by first|omega|(simp only;omega)))) ⟨((Fr.refl [g] _).z2 q1 q2),⟨⟨by simp only;omega,by simp only;omega,by simp only;omega,by simp only;omega⟩,_,by rw [z5w];exact hcl,by simp only;rw [<-hrt];exact j2m (by omega) (by omega) (by omega),ho⟩⟩ (by simp only;omega)
  refine sr (mv rfl (mv rfl (mv rfl (z2u rfl rfl (wi6 (by omega)) (mv rfl (mv rfl (z0y rfl rfl (wi6 (by omega)) (mv rfl (z2u rfl rfl (wi6 (by omega)) (mv rfl (mv rfl ?_)))))))))))
  refine cl (z0a rfl (z0a rfl (z0a rfl (z0a rfl (z0a rfl z0g))))) (mkC func261) (by have x:=v0f g c base (m-i) (m+j-i) i (↑m - ↑i) (↑m + ↑j - ↑i) ↑i cur _ (by omega) (by omega) rfl (by rw [hcl];exact ho) (by omega) (by omega);rw [hcl] at x;exact x) rfl ?_
  rintro _ w3 ⟨rfl,ho,q3⟩
  refine kpL [(0,_),(2,_),(4,_),(10,_),(11,_)] (.c5 rfl rfl rfl rfl rfl) (nn (rg (mv rfl (mv rfl (z2u rfl rfl (wi6 (by omega)) (asg rfl (nl (bn' ?_))))))))
  exact lpE ((i,j-i)) (.c5 rfl rfl rfl (by first|rfl|exact congrArg (λz=>some (Value.int .i64 z)) (by first|omega|(simp only;omega))) (by first|rfl|exact congrArg (λz=>some (Value.int .i64 z)) (by first|omega|(simp only;omega)))) ⟨((Fr.refl [g] _).z2 q1 q3),⟨⟨by simp only;omega,by simp only;omega,by simp only;omega,by simp only;omega⟩,_,by rw [z5w];exact hcl,by simp only;rw [<-hrt];exact u9u (by omega) (by omega) (by omega),ho⟩⟩ (by simp only;omega)
 obtain rfl:i=j:=by omega
 refine ex (te (te (xh (tn (rg (mv rfl (mv rfl (mv rfl (z2u rfl rfl (wi6 (by omega)) (mv rfl (mv rfl (mv rfl ?_))))))))))))
 refine cl (z0a rfl (z0a rfl (z0a rfl (z0a rfl (z0a rfl z0g))))) (mkC func261) (by have x:=v0f g c base (m-i) m i (↑m - ↑i) ↑m ↑i cur _ (by omega) rfl rfl (by rw [hcl];exact ho) (by omega) (by omega);rw [hcl] at x;exact x) rfl ?_
 rintro _ w4 ⟨rfl,ho,q4⟩
 refine kpL [] .nil (nl (r0n results252  ?_))
 exact ⟨_,rfl,rfl,by rw [<-hrt,<-j1h (by omega)];exact ho,((Fr.refl [g] _).z2 q1 q4)⟩
set_option maxHeartbeats 4000000 in
theorem u1k (g c base:Nat) (n:Nat):∀(la m b:Nat) (A M B:Int) (l:List Hd) (w0:World),b-la<=n->A=(la:Int)->M=(m:Int)->B=(b:Int)->Lw.Own z3j 183 base w0 (.slice (some ⟨g,0,none⟩) l.length c) l->l.length<=1000000->la<m->m<b->b<=l.length->z8w l la m->z8w l m b->Rets prog 232 #[.slice (some ⟨g,0,none⟩) l.length c,.int .i64 A,.int .i64 M,.int .i64 B,.func (.func 143) #[] #[]] w0 λr w'=>r=.tuple #[]/\Lw.Own z3j 183 base w' (.slice (some ⟨g,0,none⟩) l.length c) (z7m l la b b)/\Fr [g] w0 w':=by
 induction n
 ·intros;omega
 rename_i n ih
 intro la m b A M B l w0 hn hA hM hB ho hl h1 h2 h3 hs1 hs2
 subst hA hM hB
 obtain ⟨mid,hmid⟩:∃mid,mid=(la+b) / 2:=⟨_,rfl⟩
 refine we [(0,.slice (some ⟨g,0,none⟩) l.length c),(1,.int .i64 (la:Int)),(2,.int .i64 (m:Int)),(3,.int .i64 (b:Int)),(4,.func (.func 143) #[] #[])] func232 rfl ntmps232 rfl (.c5 rfl rfl rfl rfl rfl) (sq (sr (mv rfl (mv rfl (z2u rfl rfl (wi6 (by omega)) (eq' rfl rfl (nn (cd rfl (λc0=>?_) (λc0=>?_)))))))))
 ·obtain rfl:m=la+1:=by omega
  refine sr (mv rfl (asg rfl (nn (sr (mv rfl (asg rfl (nn (sq (bl ?_)))))))))
  refine lpK (ι:=Nat×Nat) [(0,_),(1,_),(4,_)] (λp=>[(10,.int .i64 (p.1:Int)),(11,.int .i64 (p.2:Int))]) (λp w'=>Fr [] w0 w'/\(la+1<=p.1/\p.1<=p.2/\p.2<=b)/\(∀x,la+1<=x->x<p.1->(l.getD x hd0).s<(l.getD la hd0).s)/\(∀x,p.2<=x->x<b->(l.getD la hd0).s<=(l.getD x hd0).s)) (λp=>p.2-p.1) (la+1,b) (.c5 rfl rfl rfl (by first|rfl|exact congrArg (λz=>some (Value.int .i64 z)) (by first|omega|(simp only;omega))) rfl) ⟨Fr.refl _ _,⟨⟨by simp only;omega,by simp only;omega,by simp only;omega⟩,λx h h'=>by simp only at h';omega,λx h h'=>by simp only at h;omega⟩⟩ ?_
  rintro ⟨i,j⟩ w1 ⟨q1,hI⟩
  simp only at hI
  refine kpC [(0,_),(1,_),(4,_),(10,.int .i64 (i:Int)),(11,.int .i64 (j:Int))] (.c5 rfl rfl rfl rfl rfl) (sq (sr (mv rfl (mv rfl (lt' rfl rfl (nn (cd rfl (λc1=>?_) (λc1=>?_))))))))
  ·refine sk (tn (bl (sr (mv rfl (mv rfl (z0y rfl rfl (wi6 (by omega)) (z5h rfl (us underlying3) underlying208 (IntWalk.u64_in _ (by omega)) (v7d (m:=1) (z:=(((i+j) / 2:Nat):Int)) rfl rfl (by decide) (show _ / (2:Int)=_ by omega) rfl (z5h rfl (us underlying208) underlying3 (wi6 (by omega)) (asg rfl (kpL [(0,_),(1,_),(4,_),(10,_),(11,_),(12,_)] (.c6 rfl rfl rfl rfl rfl rfl) (nn (sq ?_)))))))))))))
   intro a h
   refine z0h none (λwb w'=>Fr [] wb w') z2r ?_;intro w2 q2
   replace ho:=ho.ext (q1.n1 q2)
   have hC:Fr [] w2 w2:=Fr.refl _ _
   have ho_b:=ho
   refine z0e 0 h rfl rfl λa h=>z0e 1 h rfl rfl λa h=>z0e 2 h rfl rfl λa h=>z1k (p:=((i+j) / 2)) (hd0) 3 h rfl ho.sl rfl z3a rfl λad43 hc43 a h=>z2l 4 h wn rfl (λ_ hw=>hc43 _ (ho_b.sl.ext hw)) z5e rfl λa h=>z0e 5 h rfl rfl λa h=>z0e 6 h rfl rfl λa h=>z1k (p:=la) (hd0) 7 h rfl ho.sl rfl z3a rfl λad47 hc47 a h=>z2l 8 h wn rfl (λ_ hw=>hc47 _ (ho_b.sl.ext hw)) z5e rfl λa h=>z0d 9 rfl ?_
   refine z9b (us:=[]) (ws:=[]) h rfl (z0a rfl (z0a rfl z0g)) (mkC func143) (y7i ((l).getD (((i+j) / 2)) hd0) ((l).getD (la) hd0) _) rfl (by intro g e;cases e) ?_;rintro _ w3 ⟨rfl,q3⟩ a h
   replace ho:=ho.ext q3
   replace hC:=hC.next q3
   refine z0b ?_
   refine x8h 10 hC h wn rfl rfl rfl rfl λa h=>z0r ?_
   clear hC ho_b
   refine bk (h.sub (L':=[(0,_),(1,_),(4,_),(10,_),(11,_),(12,_),(50,_)]) (.c7 rfl rfl rfl rfl rfl rfl rfl)) (tn (cd rfl (λc2=>?_) (λc2=>?_)))
   ·have hx:=z8h.1 c2
    refine rg (mv rfl (z0y rfl rfl (wi6 (by omega)) (asg rfl (nl (bn' ?_)))))
    exact lpE (((i+j) / 2+1,j)) (.c5 rfl rfl rfl (by first|rfl|exact congrArg (λz=>some (Value.int .i64 z)) (by first|omega|(simp only;omega))) (by first|rfl|exact congrArg (λz=>some (Value.int .i64 z)) (by first|omega|(simp only;omega)))) ⟨(q1.n2 q2 q3),⟨⟨by simp only;omega,by simp only;omega,by simp only;omega⟩,λx h h'=>by
     have:=z5m hs2 (show la+1<=x by omega) (show x<=(i+j) / 2 by simp only at h';omega) (by omega)
     omega,hI.2.2⟩⟩ (by simp only;omega)
   have hx:¬((l).getD (((i+j) / 2)) hd0).s<((l).getD (la) hd0).s:=λe=>c2 (z8h.2 e)
   refine rg (mv rfl (asg rfl (nl (bn' ?_))))
   exact lpE ((i,(i+j) / 2)) (.c5 rfl rfl rfl (by first|rfl|exact congrArg (λz=>some (Value.int .i64 z)) (by first|omega|(simp only;omega))) (by first|rfl|exact congrArg (λz=>some (Value.int .i64 z)) (by first|omega|(simp only;omega)))) ⟨(q1.n2 q2 q3),⟨⟨by simp only;omega,by simp only;omega,by simp only;omega⟩,hI.2.1,λx h h'=>by
    have:=z5m hs2 (show la+1<=(i+j) / 2 by omega) (show (i+j) / 2<=x by simp only at h;omega) h'
    omega⟩⟩ (by simp only;omega)
  obtain rfl:i=j:=by omega
  refine ex (te (te (xh (tn (sq (sr (mv rfl (asg rfl (nn (bl ?_))))))))))
  replace ho:=ho.ext q1
  refine lpK (ι:=Nat) [(0,_),(10,_)] (λk=>[(13,.int .i64 (k:Int))]) (λk w'=>Fr [g] w1 w'/\(la<=k/\k+1<=i)/\Lw.Own z3j 183 base w' (.slice (some ⟨g,0,none⟩) l.length c) (z4x l la (la+1) (k+1))) (λk=>i-k) la (.c3 rfl rfl rfl) ⟨Fr.refl _ _,⟨⟨Nat.le_refl _,by omega⟩,by rw [u0g (by omega)];exact ho⟩⟩ ?_
  rintro k w4 ⟨q4,⟨hk,ho⟩⟩
  refine kpC [(0,_),(10,_),(13,_)] (.c3 rfl rfl rfl) ?_
  have hrl:=z1l l la (la+1) (k+1)
  refine sq (sr (mv rfl (mv rfl (z2u rfl rfl (wi6 (by omega)) (lt' rfl rfl (nn (cd rfl (λc3=>?_) (λc3=>?_))))))))
  ·refine sk (tn (sq (bl ?_)))
   intro a h
   refine z0h (some 17) (λwb w'=>Fr [g] wb w') z2r ?_;intro w5 q5
   replace ho:=ho.ext q5
   have hC:Fr [g] w5 w5:=Fr.refl _ _
   have ho_b:=ho
   refine z0e 0 h rfl rfl λa h=>z0e 1 h rfl rfl λa h=>z0e 2 h rfl rfl λa h=>z0e 3 h rfl rfl λa h=>z5i 4 h rfl rfl (by first|exact i6 (by omega)|rfl) rfl λa h=>z0e 5 h rfl rfl λa h=>z0e 6 h rfl rfl λa h=>z5i 7 h rfl rfl (by first|exact i6 (by omega)|rfl) rfl λa h=>z1k (p:=(k+1)) (hd0) 8 h rfl ho.sl rfl z3a rfl λad69 hc69 a h=>z0e 10 h rfl rfl λa h=>z0e 11 h rfl rfl λa h=>?_
   refine z1k (p:=k) (hd0) 12 h rfl ho.sl rfl z3a rfl λad73 hc73 a h=>z2d 9 13 (by kernel_rfl) rfl rfl ?_ ?_
   ·refine z1p h rfl (hc69 _ ho.sl) z5e rfl λa h=>?_
    refine z0b ?_
    refine z0d 13 rfl ?_
    refine z1p h rfl (hc73 _ ho.sl) z5e rfl λa h=>?_
    refine z0b ?_
    refine z1n 14 (by kernel_rfl) (by kernel_rfl) (by kernel_rfl) hC (p:=k) h wn rfl rfl z3a (by omega) (by omega) (by omega) rfl rfl λa h=>z0d 15 rfl ?_
    refine z1b (i:=k) (((z4x l la (la+1) (k+1)).getD (k+1) hd0)) h rfl rfl ho (by rw [z1l];omega) rfl z8d λw6 ho_2 q6 _hz a h=>?_
    replace hC:=hC.sp q6
    clear _hz ho
    have ho:=ho_2
    clear ho_2
    refine z0b ?_
    refine z1n 16 (by kernel_rfl) (by kernel_rfl) (by kernel_rfl) hC (p:=(k+1)) h wn rfl rfl z3a (by omega) (by omega) (by omega) rfl rfl λa h=>z0d 17 rfl ?_
    refine z1b (i:=(k+1)) (((z4x l la (la+1) (k+1)).getD (k) hd0)) h rfl rfl ho (by rw [List.length_set,z1l];omega) rfl z8d λw7 ho_2 q7 _hz a h=>?_
    clear _hz ho
    have ho:=ho_2
    clear ho_2
    refine z1o ?_
    refine z0r ?_
    clear hC ho_b
    refine bk (h.sub (L':=[(0,_),(10,_),(13,_)]) (.c3 rfl rfl rfl)) (bn' (tn (rg (mv rfl (z0y rfl rfl (wi6 (by omega)) (asg rfl (nl ?_)))))))
    exact lpE (k+1) (.c3 rfl rfl (congrArg (λz=>some (Value.int .i64 z)) (by omega))) ⟨((Fr.refl [g] _).z4 q4 q5 q6 q7),⟨by omega,by rw [u0f (by omega) (by omega)] at ho;exact ho⟩⟩ (by omega)
   refine z1p h rfl (hc73 _ ho.sl) z5e rfl λa h=>?_
   refine z0b ?_
   refine z0d 9 rfl ?_
   refine z1p h rfl (hc69 _ ho.sl) z5e rfl λa h=>?_
   refine z0b ?_
   refine z1n 14 (by kernel_rfl) (by kernel_rfl) (by kernel_rfl) hC (p:=k) h wn rfl rfl z3a (by omega) (by omega) (by omega) rfl rfl λa h=>z0d 15 rfl ?_
   refine z1b (i:=k) (((z4x l la (la+1) (k+1)).getD (k+1) hd0)) h rfl rfl ho (by rw [z1l];omega) rfl z8d λw8 ho_2 q8 _hz a h=>?_
   replace hC:=hC.sp q8
   clear _hz ho
   have ho:=ho_2
   clear ho_2
   refine z0b ?_
   refine z1n 16 (by kernel_rfl) (by kernel_rfl) (by kernel_rfl) hC (p:=(k+1)) h wn rfl rfl z3a (by omega) (by omega) (by omega) rfl rfl λa h=>z0d 17 rfl ?_
   refine z1b (i:=(k+1)) (((z4x l la (la+1) (k+1)).getD (k) hd0)) h rfl rfl ho (by rw [List.length_set,z1l];omega) rfl z8d λw9 ho_2 q9 _hz a h=>?_
   clear _hz ho
   have ho:=ho_2
   clear ho_2
   refine z1o ?_
   refine z0r ?_
   clear hC ho_b
   refine bk (h.sub (L':=[(0,_),(10,_),(13,_)]) (.c3 rfl rfl rfl)) (bn' (tn (rg (mv rfl (z0y rfl rfl (wi6 (by omega)) (asg rfl (nl ?_)))))))
   exact lpE (k+1) (.c3 rfl rfl (congrArg (λz=>some (Value.int .i64 z)) (by omega))) ⟨((Fr.refl [g] _).z4 q4 q5 q8 q9),⟨by omega,by rw [u0f (by omega) (by omega)] at ho;exact ho⟩⟩ (by omega)
  obtain rfl:k+1=i:=by omega
  refine ex (te (te (xh (tn (rt (tr (r0 results232  ?_)))))))
  exact ⟨_,rfl,rfl,by rw [<-u5h (by omega) (by omega) h3 hs2 hI.2.1 hI.2.2];exact ho,((Fr.refl [g] _).z2 q1 q4)⟩
 refine sk (tn (sq (sr (mv rfl (mv rfl (z2u rfl rfl (wi6 (by omega)) (eq' rfl rfl (nn (cd rfl (λc4=>?_) (λc4=>?_))))))))))
 ·obtain rfl:b=m+1:=by omega
  refine sr (mv rfl (asg rfl (nn (sr (mv rfl (asg rfl (nn (sq (bl ?_)))))))))
  refine lpK (ι:=Nat×Nat) [(0,_),(2,_),(4,_)] (λp=>[(14,.int .i64 (p.1:Int)),(15,.int .i64 (p.2:Int))]) (λp w'=>Fr [] w0 w'/\(la<=p.1/\p.1<=p.2/\p.2<=m)/\(∀x,la<=x->x<p.1->(l.getD x hd0).s<=(l.getD m hd0).s)/\(∀x,p.2<=x->x<m->(l.getD m hd0).s<(l.getD x hd0).s)) (λp=>p.2-p.1) (la,m) (.c5 rfl rfl rfl rfl rfl) ⟨Fr.refl _ _,⟨⟨by simp only;omega,by simp only;omega,by simp only;omega⟩,λx h h'=>by simp only at h';omega,λx h h'=>by simp only at h;omega⟩⟩ ?_
  rintro ⟨i,j⟩ w10 ⟨q10,hI⟩
  simp only at hI
  refine kpC [(0,_),(2,_),(4,_),(14,.int .i64 (i:Int)),(15,.int .i64 (j:Int))] (.c5 rfl rfl rfl rfl rfl) (sq (sr (mv rfl (mv rfl (lt' rfl rfl (nn (cd rfl (λc5=>?_) (λc5=>?_))))))))
  ·refine sk (tn (bl (sr (mv rfl (mv rfl (z0y rfl rfl (wi6 (by omega)) (z5h rfl (us underlying3) underlying208 (IntWalk.u64_in _ (by omega)) (v7d (m:=1) (z:=(((i+j) / 2:Nat):Int)) rfl rfl (by decide) (show _ / (2:Int)=_ by omega) rfl (z5h rfl (us underlying208) underlying3 (wi6 (by omega)) (asg rfl (kpL [(0,_),(2,_),(4,_),(14,_),(15,_),(16,_)] (.c6 rfl rfl rfl rfl rfl rfl) (nn (sq ?_)))))))))))))
   intro a h
   refine z0h none (λwb w'=>Fr [] wb w') z2r ?_;intro w11 q11
   replace ho:=ho.ext (q10.n1 q11)
   have hC:Fr [] w11 w11:=Fr.refl _ _
   have ho_b:=ho
   refine z0e 0 h rfl rfl λa h=>z0e 1 h rfl rfl λa h=>z0e 2 h rfl rfl λa h=>z1k (p:=m) (hd0) 3 h rfl ho.sl rfl z3a rfl λad95 hc95 a h=>z2l 4 h wn rfl (λ_ hw=>hc95 _ (ho_b.sl.ext hw)) z5e rfl λa h=>z0e 5 h rfl rfl λa h=>z0e 6 h rfl rfl λa h=>z1k (p:=((i+j) / 2)) (hd0) 7 h rfl ho.sl rfl z3a rfl λad99 hc99 a h=>z2l 8 h wn rfl (λ_ hw=>hc99 _ (ho_b.sl.ext hw)) z5e rfl λa h=>z0d 9 rfl ?_
   refine z9b (us:=[]) (ws:=[]) h rfl (z0a rfl (z0a rfl z0g)) (mkC func143) (y7i ((l).getD (m) hd0) ((l).getD (((i+j) / 2)) hd0) _) rfl (by intro g e;cases e) ?_;rintro _ w12 ⟨rfl,q12⟩ a h
   replace ho:=ho.ext q12
   replace hC:=hC.next q12
   refine z0b ?_
   refine x8h 10 hC h wn rfl rfl rfl rfl λa h=>x5m 11 hC h wn rfl rfl rfl λa h=>z0r ?_
   clear hC ho_b
   refine bk (h.sub (L':=[(0,_),(2,_),(4,_),(14,_),(15,_),(16,_),(103,_)]) (.c7 rfl rfl rfl rfl rfl rfl rfl)) (tn (cd rfl (λc6=>?_) (λc6=>?_)))
   ·have hx:¬((l).getD (m) hd0).s<((l).getD (((i+j) / 2)) hd0).s:=λe=>c6 (z8h.2 e)
    refine rg (mv rfl (z0y rfl rfl (wi6 (by omega)) (asg rfl (nl (bn' ?_)))))
    exact lpE (((i+j) / 2+1,j)) (.c5 rfl rfl rfl (by first|rfl|exact congrArg (λz=>some (Value.int .i64 z)) (by first|omega|(simp only;omega))) (by first|rfl|exact congrArg (λz=>some (Value.int .i64 z)) (by first|omega|(simp only;omega)))) ⟨(q10.n2 q11 q12),⟨⟨by simp only;omega,by simp only;omega,by simp only;omega⟩,λx h h'=>by
     have:=z5m hs1 (show la<=x by omega) (show x<=(i+j) / 2 by simp only at h';omega) (by omega)
     omega,hI.2.2⟩⟩ (by simp only;omega)
   have hx:=z8h.1 (Classical.not_not.1 c6)
   refine rg (mv rfl (asg rfl (nl (bn' ?_))))
   exact lpE ((i,(i+j) / 2)) (.c5 rfl rfl rfl (by first|rfl|exact congrArg (λz=>some (Value.int .i64 z)) (by first|omega|(simp only;omega))) (by first|rfl|exact congrArg (λz=>some (Value.int .i64 z)) (by first|omega|(simp only;omega)))) ⟨(q10.n2 q11 q12),⟨⟨by simp only;omega,by simp only;omega,by simp only;omega⟩,hI.2.1,λx h h'=>by
    have:=z5m hs1 (show la<=(i+j) / 2 by omega) (show (i+j) / 2<=x by simp only at h;omega) h'
    omega⟩⟩ (by simp only;omega)
  obtain rfl:i=j:=by omega
  refine ex (te (te (xh (tn (sq (sr (mv rfl (asg rfl (nn (bl ?_))))))))))
  replace ho:=ho.ext q10
  refine lpK (ι:=Nat) [(0,_),(14,_)] (λk=>[(17,.int .i64 (k:Int))]) (λk w'=>Fr [g] w10 w'/\(i<=k/\k<=m)/\Lw.Own z3j 183 base w' (.slice (some ⟨g,0,none⟩) l.length c) (z4x l k m (m+1))) (λk=>k) m (.c3 rfl rfl rfl) ⟨Fr.refl _ _,⟨by omega,by rw [u1j (by omega)];exact ho⟩⟩ ?_
  rintro k w13 ⟨q13,⟨hk,ho⟩⟩
  refine kpC [(0,_),(14,_),(17,_)] (.c3 rfl rfl rfl) ?_
  have hrl:=z1l l k m (m+1)
  refine sq (sr (mv rfl (mv rfl (gt' rfl rfl (nn (cd rfl (λc7=>?_) (λc7=>?_)))))))
  ·refine sk (tn (sq (bl ?_)))
   intro a h
   refine z0h (some 17) (λwb w'=>Fr [g] wb w') z2r ?_;intro w14 q14
   replace ho:=ho.ext q14
   have hC:Fr [g] w14 w14:=Fr.refl _ _
   have ho_b:=ho
   refine z0e 0 h rfl rfl λa h=>z0e 1 h rfl rfl λa h=>z0e 2 h rfl rfl λa h=>z0e 3 h rfl rfl λa h=>z2y 4 h wn rfl rfl (by first|exact i6 (by omega)|rfl) rfl λa h=>z0e 5 h rfl rfl λa h=>z0e 6 h rfl rfl λa h=>z2y 7 h wn rfl rfl (by first|exact i6 (by omega)|rfl) rfl λa h=>z1k (p:=(k-1)) (hd0) 8 h rfl ho.sl rfl z3a rfl λad121 hc121 a h=>z0e 10 h rfl rfl λa h=>z0e 11 h rfl rfl λa h=>?_
   refine z1k (p:=k) (hd0) 12 h rfl ho.sl rfl z3a rfl λad125 hc125 a h=>z2d 9 13 (by kernel_rfl) rfl rfl ?_ ?_
   ·refine z1p h rfl (hc121 _ ho.sl) z5e rfl λa h=>?_
    refine z0b ?_
    refine z0d 13 rfl ?_
    refine z1p h rfl (hc125 _ ho.sl) z5e rfl λa h=>?_
    refine z0b ?_
    refine z1n 14 (by kernel_rfl) (by kernel_rfl) (by kernel_rfl) hC (p:=k) h wn rfl rfl z3a (by omega) (by omega) (by omega) rfl rfl λa h=>z0d 15 rfl ?_
    refine z1b (i:=k) (((z4x l k m (m+1)).getD (k-1) hd0)) h rfl rfl ho (by rw [z1l];omega) rfl z8d λw15 ho_2 q15 _hz a h=>?_
    replace hC:=hC.sp q15
    clear _hz ho
    have ho:=ho_2
    clear ho_2
    refine z0b ?_
    refine z1n 16 (by kernel_rfl) (by kernel_rfl) (by kernel_rfl) hC (p:=(k-1)) h wn rfl rfl z3a (by omega) (by omega) (by omega) rfl rfl λa h=>z0d 17 rfl ?_
    refine z1b (i:=(k-1)) (((z4x l k m (m+1)).getD (k) hd0)) h rfl rfl ho (by rw [List.length_set,z1l];omega) rfl z8d λw16 ho_2 q16 _hz a h=>?_
    clear _hz ho
    have ho:=ho_2
    clear ho_2
    refine z1o ?_
    refine z0r ?_
    clear hC ho_b
    refine bk (h.sub (L':=[(0,_),(14,_),(17,_)]) (.c3 rfl rfl rfl)) (bn' (tn (rg (mv rfl (z2u rfl rfl (wi6 (by omega)) (asg rfl (nl ?_)))))))
    exact lpE ((k-1)) (.c3 rfl rfl (congrArg (λz=>some (Value.int .i64 z)) (by omega))) ⟨((Fr.refl [g] _).z4 q13 q14 q15 q16),⟨by omega,by have e:=x6h (l:=l) (m:=m) (k:=k-1) (by omega) (by omega);rw [show k-1+1=k by omega] at e;rw [e] at ho;exact ho⟩⟩ (by omega)
   refine z1p h rfl (hc125 _ ho.sl) z5e rfl λa h=>?_
   refine z0b ?_
   refine z0d 9 rfl ?_
   refine z1p h rfl (hc121 _ ho.sl) z5e rfl λa h=>?_
   refine z0b ?_
   refine z1n 14 (by kernel_rfl) (by kernel_rfl) (by kernel_rfl) hC (p:=k) h wn rfl rfl z3a (by omega) (by omega) (by omega) rfl rfl λa h=>z0d 15 rfl ?_
   refine z1b (i:=k) (((z4x l k m (m+1)).getD (k-1) hd0)) h rfl rfl ho (by rw [z1l];omega) rfl z8d λw17 ho_2 q17 _hz a h=>?_
   replace hC:=hC.sp q17
   clear _hz ho
   have ho:=ho_2
   clear ho_2
   refine z0b ?_
   refine z1n 16 (by kernel_rfl) (by kernel_rfl) (by kernel_rfl) hC (p:=(k-1)) h wn rfl rfl z3a (by omega) (by omega) (by omega) rfl rfl λa h=>z0d 17 rfl ?_
   refine z1b (i:=(k-1)) (((z4x l k m (m+1)).getD (k) hd0)) h rfl rfl ho (by rw [List.length_set,z1l];omega) rfl z8d λw18 ho_2 q18 _hz a h=>?_
   clear _hz ho
   have ho:=ho_2
   clear ho_2
   refine z1o ?_
   refine z0r ?_
   clear hC ho_b
   refine bk (h.sub (L':=[(0,_),(14,_),(17,_)]) (.c3 rfl rfl rfl)) (bn' (tn (rg (mv rfl (z2u rfl rfl (wi6 (by omega)) (asg rfl (nl ?_)))))))
   exact lpE ((k-1)) (.c3 rfl rfl (congrArg (λz=>some (Value.int .i64 z)) (by omega))) ⟨((Fr.refl [g] _).z4 q13 q14 q17 q18),⟨by omega,by have e:=x6h (l:=l) (m:=m) (k:=k-1) (by omega) (by omega);rw [show k-1+1=k by omega] at e;rw [e] at ho;exact ho⟩⟩ (by omega)
  obtain rfl:k=i:=by omega
  refine ex (te (te (xh (tn (rt (tr (r0 results232  ?_)))))))
  exact ⟨_,rfl,rfl,by rw [<-u2q (by omega) (by omega) h3 hs1 (λx h h'=>hI.2.2 x h h') (λx h h'=>hI.2.1 x h h')];exact ho,((Fr.refl [g] _).z2 q10 q13)⟩
 refine sk (tn (sr (mv rfl (mv rfl (z0y rfl rfl (wi6 (by omega)) (z5h rfl (us underlying3) underlying208 (IntWalk.u64_in _ (by omega)) (v7d (m:=1) (z:=(mid:Int)) rfl rfl (by decide) (show _ / (2:Int)=_ by omega) rfl (z5h rfl (us underlying208) underlying3 (wi6 (by omega)) (asg rfl (kpL [(0,_),(1,_),(2,_),(3,_),(4,_),(18,_)] (.c6 rfl rfl rfl rfl rfl rfl) (nn (sr (mv rfl (mv rfl (z0y rfl rfl (wi6 (by omega)) (asg rfl (nn (sr (asg rfl (asg rfl (nn ?_)))))))))))))))))))))
 refine jn (ι:=Unit) [(0,_),(1,_),(2,_),(3,_),(4,_),(18,_),(19,_)] (λ_j=>[(20,.int .i64 ((((if mid<m then mid+m-b else la):Nat)):Int)),(21,.int .i64 ((((if mid<m then mid else m):Nat)):Int))]) (λ_j w'=>Fr [] w0 w') (.c7 rfl rfl rfl rfl rfl rfl rfl) ?_ ?_
 ·refine sr (mv rfl (mv rfl (gt' rfl rfl (nn (cd rfl (λc8=>?_) (λc8=>?_))))))
  ·refine sr (mv rfl (mv rfl (z2u rfl rfl (wi6 (by omega)) (asg rfl (nn (rg (mv rfl (asg rfl (nl ?_)))))))))
   exact jE (()) (.d8 rfl rfl rfl rfl rfl rfl rfl (congrArg (λz=>some (Value.int .i64 z)) (by split<;>omega)) (.cons (congrArg (λz=>some (Value.int .i64 z)) (by split<;>omega)) .nil)) (Fr.refl _ _)
  refine sr (mv rfl (asg rfl (nn (rg (mv rfl (asg rfl (nl ?_)))))))
  exact jE (()) (.d8 rfl rfl rfl rfl rfl rfl rfl (congrArg (λz=>some (Value.int .i64 z)) (by split<;>omega)) (.cons (congrArg (λz=>some (Value.int .i64 z)) (by split<;>omega)) .nil)) (Fr.refl _ _)
 rintro _j w19 q19
 refine kpC [(0,_),(1,_),(2,_),(3,_),(4,_),(18,_),(19,_),(20,_),(21,_)] (.d8 rfl rfl rfl rfl rfl rfl rfl rfl (.cons rfl .nil)) (sr (mv rfl (z2u rfl rfl (wi6 (by omega)) (asg rfl (nn (sq (bl ?_)))))))
 refine lpK (ι:=Nat×Nat) [(0,_),(1,_),(2,_),(3,_),(4,_),(18,_),(19,_),(22,_)] (λp=>[(20,.int .i64 (p.1:Int)),(21,.int .i64 (p.2:Int))]) (λp w'=>Fr [] w19 w'/\Sch l (mid+m-1) (if mid<m then mid+m-b else la) (if mid<m then mid else m) p.1 p.2) (λp=>p.2-p.1) ((if mid<m then mid+m-b else la),(if mid<m then mid else m)) (.d8 rfl rfl rfl rfl rfl rfl rfl rfl (.c2 rfl rfl)) ⟨Fr.refl _ _,j4c (by split<;>omega)⟩ ?_
 rintro ⟨s,r⟩ w20 ⟨q20,hI⟩
 simp only at hI
 refine kpC [(0,_),(1,_),(2,_),(3,_),(4,_),(18,_),(19,_),(22,_),(20,.int .i64 (s:Int)),(21,.int .i64 (r:Int))] (.d8 rfl rfl rfl rfl rfl rfl rfl rfl (.c2 rfl rfl)) ?_
 have hIl:=hI.lo
 have hIe:=hI.le
 have hIh:=hI.hi
 have hIa:la<=s:=by split at hIl<;>omega
 have hIm:r<=m/\r<=mid:=by split at hIh<;>omega
 have hIb:mid+m<=b+s:=by split at hIl<;>omega
 refine sq (sr (mv rfl (mv rfl (lt' rfl rfl (nn (cd rfl (λc9=>?_) (λc9=>?_)))))))
 ·refine sk (tn (bl (sr (mv rfl (mv rfl (z0y rfl rfl (wi6 (by omega)) (z5h rfl (us underlying3) underlying208 (IntWalk.u64_in _ (by omega)) (v7d (m:=1) (z:=(((s+r) / 2:Nat):Int)) rfl rfl (by decide) (show _ / (2:Int)=_ by omega) rfl (z5h rfl (us underlying208) underlying3 (wi6 (by omega)) (asg rfl (kpL [(0,_),(1,_),(2,_),(3,_),(4,_),(18,_),(19,_),(20,_),(21,_),(22,_),(23,_)] (.d8 rfl rfl rfl rfl rfl rfl rfl rfl (.c3 rfl rfl rfl)) (nn (sq ?_)))))))))))))
  intro a h
  refine z0h none (λwb w'=>Fr [] wb w') z2r ?_;intro w21 q21
  replace ho:=ho.ext (q19.n2 q20 q21)
  have hC:Fr [] w21 w21:=Fr.refl _ _
  have ho_b:=ho
  refine z0e 0 h rfl rfl λa h=>z0e 1 h rfl rfl λa h=>z0e 2 h rfl rfl λa h=>z0e 3 h rfl rfl λa h=>z2y 4 h wn rfl rfl (by first|exact i6 (by omega)|rfl) rfl λa h=>z1k (p:=((mid+m-1)-((s+r) / 2))) (hd0) 5 h rfl ho.sl rfl z3a rfl λad163 hc163 a h=>z2l 6 h wn rfl (λ_ hw=>hc163 _ (ho_b.sl.ext hw)) z5e rfl λa h=>z0e 7 h rfl rfl λa h=>z0e 8 h rfl rfl λa h=>z1k (p:=((s+r) / 2)) (hd0) 9 h rfl ho.sl rfl z3a rfl λad167 hc167 a h=>z2l 10 h wn rfl (λ_ hw=>hc167 _ (ho_b.sl.ext hw)) z5e rfl λa h=>?_
  refine z0d 11 rfl ?_
  refine z9b (us:=[]) (ws:=[]) h rfl (z0a rfl (z0a rfl z0g)) (mkC func143) (y7i ((l).getD ((mid+m-1)-((s+r) / 2)) hd0) ((l).getD (((s+r) / 2)) hd0) _) rfl (by intro g e;cases e) ?_;rintro _ w22 ⟨rfl,q22⟩ a h
  replace ho:=ho.ext q22
  replace hC:=hC.next q22
  refine z0b ?_
  refine x8h 12 hC h wn rfl rfl rfl rfl λa h=>x5m 13 hC h wn rfl rfl rfl λa h=>z0r ?_
  clear hC ho_b
  refine bk (h.sub (L':=[(0,_),(1,_),(2,_),(3,_),(4,_),(18,_),(19,_),(20,_),(21,_),(22,_),(23,_),(171,_)]) (.d8 rfl rfl rfl rfl rfl rfl rfl rfl (.c4 rfl rfl rfl rfl))) (tn (cd rfl (λc10=>?_) (λc10=>?_)))
  ·have hx:¬((l).getD ((mid+m-1)-((s+r) / 2)) hd0).s<((l).getD (((s+r) / 2)) hd0).s:=λe=>c10 (z8h.2 e)
   refine rg (mv rfl (z0y rfl rfl (wi6 (by omega)) (asg rfl (nl (bn' ?_)))))
   exact lpE (((s+r) / 2+1,r)) (.d8 rfl rfl rfl rfl rfl rfl rfl rfl (.c2 (by first|rfl|exact congrArg (λz=>some (Value.int .i64 z)) (by first|omega|(simp only;omega))) (by first|rfl|exact congrArg (λz=>some (Value.int .i64 z)) (by first|omega|(simp only;omega))))) ⟨(q20.n2 q21 q22),u9x hI (by omega) hs1 hs2 (by split<;>omega) (by split<;>omega) (by split<;>omega) rfl (by split<;>omega) hx⟩ (by simp only;omega)
  have hx:=z8h.1 (Classical.not_not.1 c10)
  refine rg (mv rfl (asg rfl (nl (bn' ?_))))
  exact lpE ((s,(s+r) / 2)) (.d8 rfl rfl rfl rfl rfl rfl rfl rfl (.c2 (by first|rfl|exact congrArg (λz=>some (Value.int .i64 z)) (by first|omega|(simp only;omega))) (by first|rfl|exact congrArg (λz=>some (Value.int .i64 z)) (by first|omega|(simp only;omega))))) ⟨(q20.n2 q21 q22),v8z hI (by omega) hs1 hs2 (by split<;>omega) (by split<;>omega) (by split<;>omega) rfl (by split<;>omega) hx⟩ (by simp only;omega)
 obtain rfl:s=r:=by have:=hI.le;omega
 obtain ⟨hX,hY⟩:=v9g hI hs1 hs2 (by split<;>omega) (by split<;>omega) rfl (by split<;>omega) (by split<;>omega) (by split<;>omega)
 have hsl:=hI.lo
 have hsh:=hI.hi
 have hsa:la<=s:=by split at hsl<;>omega
 have hsm:s<=m/\s<=mid:=by split at hsh<;>omega
 have hse:mid+m<=b+s:=by split at hsl<;>omega
 have hR1:=y9l hsa hsm.1 (show m<=mid+m-s by omega) (show mid+m-s<=l.length by omega) (show mid=s+(mid+m-s-m) by omega) hs1 b hs2 (by omega)
 have hR2:=x6n hsa hsm.1 (show m<=mid+m-s by omega) (show mid+m-s<=b by omega) h3 (show mid=s+(mid+m-s-m) by omega) hs1 hs2
 have hIL:(z7m (z4x l s m (mid+m-s)) la mid mid).length=l.length:=by rw [x1e (by omega) (by rw [z1l];omega),z1l]
 refine ex (te (te (xh (tn (sr (mv rfl (mv rfl (z2u rfl rfl (wi6 (by omega)) (asg rfl (kpL [(0,_),(1,_),(2,_),(3,_),(4,_),(18,_),(20,_),(24,_)] (.c8 rfl rfl rfl rfl rfl rfl rfl rfl) (nn ?_)))))))))))
 refine jn (ι:=Unit) [(0,_),(1,_),(3,_),(4,_),(18,_),(20,_),(24,_)] (λ_j=>[]) (λ_j w'=>Fr [g] w20 w'/\Lw.Own z3j 183 base w' (.slice (some ⟨g,0,none⟩) l.length c) (z4x l s m (mid+m-s))) (.c7 rfl rfl rfl rfl rfl rfl rfl) ?_ ?_
 ·refine sq ?_
  refine rbo (r:=185) (L':=[(0,_),(1,_),(2,_),(3,_),(4,_),(18,_),(20,_),(24,_)]) ((((s:Int)<(m:Int))/\((m:Int)<(((mid:Int)+(m:Int))-(s:Int))))) (.c8 rfl rfl rfl rfl rfl rfl rfl rfl) ?_ ?_
  ·refine mv rfl (mv rfl (lt' rfl rfl (mv rfl (gs 181 rfl (λg0=>?_) (λg0=>?_)))))
   ·exact gY rfl (mv rfl (gY rfl (mv rfl (gY rfl (lt' rfl rfl (pkt rfl rfl (rbe rfl (.c8 rfl rfl rfl rfl rfl rfl rfl rfl))))))))
   exact gN rfl rfl (gN rfl rfl (gN rfl rfl (pkf rfl rfl (rbe rfl (.c8 rfl rfl rfl rfl rfl rfl rfl rfl)))))
  refine tn (cd rfl (λc11=>?_) (λc11=>?_))
  ·refine rg (mv rfl (mv rfl (mv rfl (mv rfl (mv rfl ?_)))))
   replace ho:=ho.ext (q19.n1 q20)
   refine cl (z0a rfl (z0a rfl (z0a rfl (z0a rfl (z0a rfl z0g))))) (mkC func252) (u8z g c base s m (mid+m-s) _ _ _ l _ rfl rfl (by omega) ho hl (by omega)) rfl ?_
   rintro _ w23 ⟨rfl,ho,q23⟩
   refine kpL [(0,_),(1,_),(3,_),(4,_),(18,_),(20,_),(24,_)] (.c7 rfl rfl rfl rfl rfl rfl rfl) (nl ?_)
   exact jE (()) (.c7 rfl rfl rfl rfl rfl rfl rfl) ⟨((Fr.refl [g] _).z1 q23),ho⟩
  refine sk ?_
  replace ho:=ho.ext (q19.n1 q20)
  exact jE (()) (.c7 rfl rfl rfl rfl rfl rfl rfl) ⟨(Fr.refl _ _),(by rw [j0l (by omega) hsm.1 (by omega)];exact ho)⟩
 rintro _j w24 ⟨q24,ho⟩
 refine kpC [(0,_),(1,_),(3,_),(4,_),(18,_),(20,_),(24,_)] (.c7 rfl rfl rfl rfl rfl rfl rfl) ?_
 refine jn (ι:=Unit) [(0,_),(3,_),(4,_),(18,_),(24,_)] (λ_j=>[]) (λ_j w'=>Fr [g] w24 w'/\Lw.Own z3j 183 base w' (.slice (some ⟨g,0,none⟩) l.length c) (z7m (z4x l s m (mid+m-s)) la mid mid)) (.c5 rfl rfl rfl rfl rfl) ?_ ?_
 ·refine sq ?_
  refine rbo (r:=199) (L':=[(0,_),(1,_),(3,_),(4,_),(18,_),(20,_),(24,_)]) ((((la:Int)<(s:Int))/\((s:Int)<(mid:Int)))) (.c7 rfl rfl rfl rfl rfl rfl rfl) ?_ ?_
  ·refine mv rfl (mv rfl (lt' rfl rfl (mv rfl (gs 195 rfl (λg1=>?_) (λg1=>?_)))))
   ·exact gY rfl (mv rfl (gY rfl (mv rfl (gY rfl (lt' rfl rfl (pkt rfl rfl (rbe rfl (.c7 rfl rfl rfl rfl rfl rfl rfl))))))))
   exact gN rfl rfl (gN rfl rfl (gN rfl rfl (pkf rfl rfl (rbe rfl (.c7 rfl rfl rfl rfl rfl rfl rfl)))))
  refine tn (cd rfl (λc12=>?_) (λc12=>?_))
  ·refine rg (mv rfl (mv rfl (mv rfl (mv rfl (mv rfl ?_)))))
   refine cl (z0a rfl (z0a rfl (z0a rfl (z0a rfl (z0a rfl z0g))))) (mkC func232) (by have x:=ih la s mid ↑la ↑s ↑mid (z4x l s m (mid+m-s)) _ (by omega) rfl rfl rfl (by rw [z1l];exact ho) (by rw [z1l];exact hl) (by omega) (by omega) (by rw [z1l];omega) hR1.1 hR1.2;rw [z1l] at x;exact x) rfl ?_
   rintro _ w25 ⟨rfl,ho,q25⟩
   refine kpL [(0,_),(3,_),(4,_),(18,_),(24,_)] (.c5 rfl rfl rfl rfl rfl) (nl ?_)
   exact jE (()) (.c5 rfl rfl rfl rfl rfl) ⟨((Fr.refl [g] _).z1 q25),ho⟩
  refine sk ?_
  exact jE (()) (.c5 rfl rfl rfl rfl rfl) ⟨(Fr.refl _ _),(by rw [skip1 (by omega) hsa hsm.1 (by omega) (by omega) (by omega) hs1 b hs2 (by omega)];exact ho)⟩
 rintro _j w26 ⟨q26,ho⟩
 refine kpC [(0,_),(3,_),(4,_),(18,_),(24,_)] (.c5 rfl rfl rfl rfl rfl) (sq ?_)
 refine rbo (r:=213) (L':=[(0,_),(3,_),(4,_),(18,_),(24,_)]) ((((mid:Int)<(((mid:Int)+(m:Int))-(s:Int)))/\((((mid:Int)+(m:Int))-(s:Int))<(b:Int)))) (.c5 rfl rfl rfl rfl rfl) ?_ ?_
 ·refine mv rfl (mv rfl (lt' rfl rfl (mv rfl (gs 209 rfl (λg2=>?_) (λg2=>?_)))))
  ·exact gY rfl (mv rfl (gY rfl (mv rfl (gY rfl (lt' rfl rfl (pkt rfl rfl (rbe rfl (.c5 rfl rfl rfl rfl rfl))))))))
  exact gN rfl rfl (gN rfl rfl (gN rfl rfl (pkf rfl rfl (rbe rfl (.c5 rfl rfl rfl rfl rfl)))))
 refine tn (cd rfl (λc13=>?_) (λc13=>?_))
 ·refine rg (mv rfl (mv rfl (mv rfl (mv rfl (mv rfl ?_)))))
  refine cl (z0a rfl (z0a rfl (z0a rfl (z0a rfl (z0a rfl z0g))))) (mkC func232) (by have x:=ih mid (mid+m-s) b ↑mid (↑mid + ↑m - ↑s) ↑b (z7m (z4x l s m (mid+m-s)) la mid mid) _ (by omega) rfl (by omega) rfl (by rw [hIL];exact ho) (by rw [hIL];exact hl) (by omega) (by omega) (by rw [hIL];omega) hR2.1 hR2.2;rw [hIL] at x;exact x) rfl ?_
  rintro _ w27 ⟨rfl,ho,q27⟩
  refine kpL [] .nil (nl (r0n results232  ?_))
  exact ⟨_,rfl,rfl,by rw [<-y0a hsa hsm.1 (show m<=mid+m-s by omega) (show mid+m-s<=b by omega) h3 (show mid=s+(mid+m-s-m) by omega) hs1 hs2 hX hY];exact ho,((Fr.refl [g] _).z5 q19 q20 q24 q26 q27)⟩
 refine sk (r0n results232  ?_)
 exact ⟨_,rfl,rfl,by rw [<-y0a hsa hsm.1 (show m<=mid+m-s by omega) (show mid+m-s<=b by omega) h3 (show mid=s+(mid+m-s-m) by omega) hs1 hs2 hX hY];rw [j5g (by omega) hsa hsm.1 (by omega) (by omega) h3 (by omega) hs1 hs2];exact ho,((Fr.refl [g] _).z4 q19 q20 q24 q26)⟩
set_option maxHeartbeats 2000000 in
theorem u3l (g c base:Nat) (l:List Hd) (w0:World) (ho:Lw.Own z3j 183 base w0 (.slice (some ⟨g,0,none⟩) l.length c) l) (hl:l.length<=1000000):Rets prog 194 #[.slice (some ⟨g,0,none⟩) l.length c,.int .i64 (l.length:Int),.func (.func 143) #[] #[]] w0 λr w'=>r=.tuple #[]/\Lw.Own z3j 183 base w' (.slice (some ⟨g,0,none⟩) l.length c) (z4z l)/\Fr [g] w0 w':=by
 refine we [(0,.slice (some ⟨g,0,none⟩) l.length c),(1,.int .i64 (l.length:Int)),(2,.func (.func 143) #[] #[])] func194 rfl ntmps194 rfl (.c3 rfl rfl rfl) (sr (asg rfl (nn (sr (mv rfl (asg rfl (asg rfl (nn (sq (bl ?_))))))))))
 refine lpK (ι:=Nat×List Hd) [(0,_),(1,_),(2,_),(6,_)] (λp=>[(7,.int .i64 (p.1:Int)),(8,.int .i64 ((p.1+20:Nat):Int))]) (λp w'=>Fr [g] w0 w'/\(p.2.length=p.1/\p.1<=l.length/\chk 20 l=p.2++chk 20 (l.drop p.1))/\Lw.Own z3j 183 base w' (.slice (some ⟨g,0,none⟩) l.length c) (p.2++l.drop p.1)) (λp=>l.length-p.1) (0,[]) (.c6 rfl rfl rfl rfl rfl rfl) ⟨Fr.refl _ _,⟨⟨rfl,Nat.zero_le _,rfl⟩,by simpa using ho⟩⟩ ?_
 rintro ⟨la,D⟩ w1 ⟨q1,⟨hD,ho⟩⟩
 simp only at hD ho
 refine kpC [(0,_),(1,_),(2,_),(6,_),(7,.int .i64 (la:Int)),(8,.int .i64 ((la+20:Nat):Int))] (.c6 rfl rfl rfl rfl rfl rfl) ?_
 have hDl:(D++l.drop la).length=l.length:=by rw [List.length_append,List.length_drop];omega
 refine sq (sr (mv rfl (mv rfl (le' rfl rfl rfl (nn (cd rfl (λc0=>?_) (λc0=>?_)))))))
 ·refine sk (tn (bl (sr (mv rfl (mv rfl (mv rfl (mv rfl ?_)))))))
  refine cl (ev4 rfl rfl rfl rfl) (mkC func231) (by have x:=u0j g c base la (la+20) (D++l.drop la) _ (by rw [hDl];exact ho) (by omega) (by omega);rw [hDl] at x;exact x) rfl ?_
  rintro _ w2 ⟨rfl,ho,q2⟩
  refine kpL [(0,_),(1,_),(2,_),(6,_),(8,_)] (.c5 rfl rfl rfl rfl rfl) (nn (sr (mv rfl (asg rfl (nn (rg (mv rfl (mv rfl (z0y rfl rfl (wi6 (by omega)) (asg rfl (nl (bn' ?_))))))))))))
  exact lpE ((la+20,D++z4z (seg l la (la+20)))) (.c6 rfl rfl rfl rfl (by first|rfl|exact congrArg (λz=>some (Value.int .i64 z)) (by first|omega|(simp only;omega))) (by first|rfl|exact congrArg (λz=>some (Value.int .i64 z)) (by first|omega|(simp only;omega)))) ⟨((Fr.refl [g] _).z2 q1 q2),⟨⟨by simp only;rw [List.length_append,z3v,z1w (by omega)];omega,by simp only;omega,by simp only;rw [hD.2.2,z9x (by decide) (by omega),List.append_assoc]⟩,by simp only;rw [<-v7n hD.1 (by omega)];exact ho⟩⟩ (by simp only;omega)
 refine ex (te (te (xh (tn (sr (mv rfl (mv rfl (mv rfl (mv rfl ?_)))))))))
 refine cl (ev4 rfl rfl rfl rfl) (mkC func231) (by have x:=u0j g c base la l.length (D++l.drop la) _ (by rw [hDl];exact ho) (by omega) (by omega);rw [hDl] at x;exact x) rfl ?_
 rintro _ w3 ⟨rfl,ho,q3⟩
 rw [v6h (B:=20) hD.1 hD.2.1 (by omega),<-hD.2.2] at ho
 refine kpL [(0,_),(1,_),(2,_),(6,_)] (.c4 rfl rfl rfl rfl) (nn (bl ?_))
 refine lpK (ι:=Nat) [(0,_),(1,_),(2,_)] (λB=>[(6,.int .i64 (B:Int))]) (λB w'=>Fr [g] w3 w'/\(20<=B/\B<=4000000)/\Lw.Own z3j 183 base w' (.slice (some ⟨g,0,none⟩) l.length c) (chk B l)) (λB=>l.length-B) 20 (.c4 rfl rfl rfl rfl) ⟨Fr.refl _ _,⟨by omega,ho⟩⟩ ?_
 rintro B w4 ⟨q4,⟨hB,ho⟩⟩
 refine kpC [(0,_),(1,_),(2,_),(6,_)] (.c4 rfl rfl rfl rfl) (sq (sr (mv rfl (mv rfl (lt' rfl rfl (nn (cd rfl (λc1=>?_) (λc1=>?_))))))))
 ·refine sk (tn (bl (sr (mv rfl (x4g rfl rfl (wi6 (by omega)) rfl (asg rfl (asg rfl (nn (sq (bl ?_))))))))))
  refine lpK (ι:=Nat×List Hd) [(0,_),(1,_),(2,_),(6,_)] (λp=>[(7,.int .i64 (p.1:Int)),(8,.int .i64 ((p.1+2*B:Nat):Int))]) (λp w'=>Fr [g] w4 w'/\(p.2.length=p.1/\p.1<=l.length/\chk (2*B) l=p.2++chk (2*B) (l.drop p.1))/\Lw.Own z3j 183 base w' (.slice (some ⟨g,0,none⟩) l.length c) (p.2++chk B (l.drop p.1))) (λp=>l.length-p.1) (0,[]) (.c6 rfl rfl rfl rfl rfl (by first|rfl|exact congrArg (λz=>some (Value.int .i64 z)) (by first|omega|(simp only;omega)))) ⟨Fr.refl _ _,⟨⟨rfl,Nat.zero_le _,rfl⟩,by simpa using ho⟩⟩ ?_
  rintro ⟨la,D⟩ w5 ⟨q5,⟨hD,ho⟩⟩
  simp only at hD ho
  refine kpC [(0,_),(1,_),(2,_),(6,_),(7,.int .i64 (la:Int)),(8,.int .i64 ((la+2*B:Nat):Int))] (.c6 rfl rfl rfl rfl rfl rfl) ?_
  have hDl:(D++chk B (l.drop la)).length=l.length:=by rw [List.length_append,v3z B _ _ (Nat.le_refl _),List.length_drop];omega
  refine sq (sr (mv rfl (mv rfl (le' rfl rfl rfl (nn (cd rfl (λc2=>?_) (λc2=>?_)))))))
  ·have hM:=x1y (l:=l) (D:=D) (a:=la) (B:=B) (C:=B) hD.1 (by omega) (Nat.le_refl _) (by omega) (chk B (l.drop (la+(B+B)))) (by rw [show la+(B+B)=la+B+B by omega];exact z9x (by omega) (by omega))
   refine sk (tn (bl (sr (mv rfl (mv rfl (mv rfl (mv rfl (z0y rfl rfl (wi6 (by omega)) (mv rfl (mv rfl ?_))))))))))
   refine cl (z0a rfl (z0a rfl (z0a rfl (z0a rfl (z0a rfl z0g))))) (mkC func232) (by have x:=u1k g c base (2*B) la (la+B) (la+2*B) ↑la (↑la + ↑B) ↑(la+2*B) (D++chk B (l.drop la)) _ (by omega) rfl (by omega) rfl (by rw [hDl];exact ho) (by omega) (by omega) (by omega) (by omega) hM.2.1 (by rw [show la+2*B=la+(B+B) by omega];exact hM.2.2);rw [hDl] at x;exact x) rfl ?_
   rintro _ w6 ⟨rfl,ho,q6⟩
   refine kpL [(0,_),(1,_),(2,_),(6,_),(8,_)] (.c5 rfl rfl rfl rfl rfl) (nn (sr (mv rfl (asg rfl (nn (rg (mv rfl (mv rfl (x4g rfl rfl (wi6 (by omega)) rfl (z0y rfl rfl (wi6 (by omega)) (asg rfl (nl (bn' ?_)))))))))))))
   exact lpE ((la+2*B,D++z4z (seg l la (la+2*B)))) (.c6 rfl rfl rfl rfl (by first|rfl|exact congrArg (λz=>some (Value.int .i64 z)) (by first|omega|(simp only;omega))) (by first|rfl|exact congrArg (λz=>some (Value.int .i64 z)) (by first|omega|(simp only;omega)))) ⟨((Fr.refl [g] _).z2 q5 q6),⟨⟨by simp only;rw [List.length_append,z3v,z1w (by omega)];omega,by simp only;omega,by simp only;rw [hD.2.2,z9x (by omega) (by omega),List.append_assoc]⟩,by simp only;rw [show la+2*B=la+(B+B) by omega,hM.1] at ho;rw [show la+2*B=la+(B+B) by omega];exact ho⟩⟩ (by simp only;omega)
  refine ex (te (te (xh (tn ?_))))
  refine jn (ι:=Unit) [(0,_),(1,_),(2,_),(6,_)] (λ_j=>[]) (λ_j w'=>Fr [g] w5 w'/\Lw.Own z3j 183 base w' (.slice (some ⟨g,0,none⟩) l.length c) (chk (2*B) l)) (.c4 rfl rfl rfl rfl) ?_ ?_
  ·refine sr (mv rfl (mv rfl (z0y rfl rfl (wi6 (by omega)) (asg rfl (nn (sr (mv rfl (mv rfl (lt' rfl rfl (nn (cd rfl (λc3=>?_) (λc3=>?_))))))))))))
   ·have hM:=x1y (l:=l) (D:=D) (a:=la) (B:=B) (C:=l.length-(la+B)) hD.1 (by omega) (by omega) (by omega) [] (by rw [List.append_nil,z9o (by rw [List.length_drop];omega),show la+(B+(l.length-(la+B)))=l.length by omega];unfold seg;rw [List.take_length])
    rw [show la+(B+(l.length-(la+B)))=l.length by omega,List.append_nil] at hM
    refine rg (mv rfl (mv rfl (mv rfl (mv rfl (mv rfl ?_)))))
    refine cl (z0a rfl (z0a rfl (z0a rfl (z0a rfl (z0a rfl z0g))))) (mkC func232) (by have x:=u1k g c base (2*B) la (la+B) l.length ↑la (↑la + ↑B) ↑l.length (D++chk B (l.drop la)) _ (by omega) rfl (by omega) rfl (by rw [hDl];exact ho) (by omega) (by omega) (by omega) (by omega) hM.2.1 hM.2.2;rw [hDl] at x;exact x) rfl ?_
    rintro _ w7 ⟨rfl,ho,q7⟩
    refine kpL [(0,_),(1,_),(2,_),(6,_)] (.c4 rfl rfl rfl rfl) (nl ?_)
    exact jE (()) (.c4 rfl rfl rfl rfl) ⟨((Fr.refl [g] _).z1 q7),(by rw [hM.1] at ho;rw [hD.2.2,z9o (show (l.drop la).length<=2*B by rw [List.length_drop];omega),show l.drop la=seg l la l.length by unfold seg;rw [List.take_length]];exact ho)⟩
   refine sk ?_
   exact jE (()) (.c4 rfl rfl rfl rfl) ⟨(Fr.refl _ _),(by rw [z9o (show (l.drop la).length<=B by rw [List.length_drop];omega)] at ho;rw [hD.2.2,z9o (show (l.drop la).length<=2*B by rw [List.length_drop];omega)];exact ho)⟩
  rintro _j w8 ⟨q8,ho⟩
  refine kpC [(0,_),(1,_),(2,_),(6,_)] (.c4 rfl rfl rfl rfl) (rg (mv rfl (x4g rfl rfl (wi6 (by omega)) rfl (asg rfl (nl (bn' ?_))))))
  exact lpE (2*B) (.c4 rfl rfl rfl (congrArg (λz=>some (Value.int .i64 z)) (by omega))) ⟨((Fr.refl [g] _).z3 q4 q5 q8),⟨by omega,ho⟩⟩ (by omega)
 refine ex (te (te (xh (r0n results194  ?_))))
 exact ⟨_,rfl,rfl,by rw [z9o (by omega)] at ho;exact ho,((Fr.refl [g] _).z3 q1 q3 q4)⟩
theorem x7r:z3p prog 246 5:=⟨λ_=>by kernel_rfl,λ_=>by kernel_rfl⟩
theorem y0z:ElemOf prog 242 246 z4t 40:=ElemOf.mk' (z:=(.agg #[.int .u8 0,.int .i64 0,.int .u8 0,.int .i64 0,.int .i64 0])) underlying242 (by kernel_rfl) rfl
theorem v1a:z1q prog 246 5:=λ_=>by kernel_rfl
theorem v6n (w:World):(zeroValue 183).run prog w=.ok (.agg #[(.int .u8 0),(.int .i64 0),(.int .u8 0),(.int .i64 0),(.int .i64 0)]) w:=by kernel_rfl
theorem j2r (w:World):(zeroValue 246).run prog w=.ok (.agg #[(.int .u8 0),(.int .i64 0),(.int .u8 0),(.int .i64 0),(.int .i64 0)]) w:=by kernel_rfl
theorem v9r (g c base:Nat) (l:List Hd) (w0:World) (ho:Lw.Own z3j 183 base w0 (.slice (some ⟨g,0,none⟩) l.length c) l) (hl:l.length<=1000000):Rets prog 142 #[.slice (some ⟨g,0,none⟩) l.length c,.func (.func 143) #[] #[]] w0 λr w'=>r=.tuple #[]/\Lw.Own z3j 183 base w' (.slice (some ⟨g,0,none⟩) l.length c) (z4z l)/\Fr [g] w0 w':=by
 refine we [(0,.slice (some ⟨g,0,none⟩) l.length c),(1,.func (.func 143) #[] #[])] func142 rfl ntmps142 rfl (.c2 rfl rfl) (rg (mv rfl (mv rfl (lnS rfl underlying179 (mv rfl (cl (ev3 rfl rfl rfl) (mkC func194) (u3l g c base l _ ho hl) rfl ?_))))))
 rintro _ w1 ⟨rfl,ho,q1⟩
 refine kpL [] .nil (nl (r0n results142  ?_))
 exact ⟨_,rfl,rfl,ho,((Fr.refl [g] _).z1 q1)⟩
theorem x8b (v:Value) (l:List Hd) (w0:World) (hs:Sl z3j w0 v l) (hl:l.length<=100000):Rets prog 144 #[v] w0 λr w'=>∃g,r=.slice (some ⟨g,0,none⟩) l.length l.length/\w0.heap.size<=g/\Lw.Own z3j 183 w0.heap.size w' r l/\Fr [] w0 w':=by
 obtain ⟨A,c,rfl,hcc,hM,hA⟩:=id hs
 clear hA
 unfold maxLen at hM
 refine we [(0,.slice A l.length c)] func144 rfl ntmps144 rfl (.cons rfl .nil) ?_
 have hs0:=hs
 refine sr (asg rfl (nn (sr (mv rfl (lnS rfl underlying179 (z1e (m:=l.length) (c:=l.length) (hd0) rfl rfl z3a v6n rfl (λg6 w1 hg6 ho q1 z1=>(asg rfl (nn (sr (mv rfl (mv rfl ?_))))))))))))
 replace hs:=hs0.ext q1
 refine z6z (zs:=List.replicate l.length hd0) (by rw [List.length_replicate];rfl) rfl (by rw [List.length_replicate];exact ho) hs (by rw [List.length_replicate]) z3a (λw2 ho q2 z2=>?_)
 rw [List.length_replicate] at ho
 refine nn (sr (mv rfl (asg rfl (nn (rt (r1 results144 rfl ?_))))))
 exact ⟨_,rfl,g6,rfl,by omega,ho.low (by omega),(q1.z1 q2)⟩
theorem v7m (g c base:Nat) (ys:List LId) (w0:World) (ho:Lw.Own z1h 87 base w0 (.slice (some ⟨g,0,none⟩) ys.length c) ys) (hl:ys.length<=1000000):Rets prog 200 #[.slice (some ⟨g,0,none⟩) ys.length c] w0 λr w'=>Lw.Own z1h 87 base w' (.slice (some ⟨g,0,none⟩) ys.length c) ys.reverse/\Fr [g] w0 w':=by
 refine we [(0,.slice (some ⟨g,0,none⟩) ys.length c)] func200 rfl ntmps200 rfl (.cons rfl .nil) (sr (mv rfl (lnS rfl underlying37 (z2u rfl rfl (wi6 (by omega)) (asg rfl (asg rfl (nn (bl ?_))))))))
 refine lpK (ι:=Nat) [(0,_)] (λk=>[(2,.int .i64 (k:Int)),(3,.int .i64 ((ys.length:Int)-1-(k:Int)))]) (λk w'=>Fr [g] w0 w'/\k<=ys.length/\∃zs,u4b id0 ys zs k/\Lw.Own z1h 87 base w' (.slice (some ⟨g,0,none⟩) ys.length c) zs) (λk=>ys.length-k) 0 (.c3 rfl rfl (congrArg (λz=>some (Value.int .i64 z)) (by omega))) ⟨Fr.refl _ _,⟨Nat.zero_le _,_,v3w _ _,ho⟩⟩ ?_
 rintro k w1 ⟨q1,⟨hk,zs,hR,ho⟩⟩
 refine kpC [(0,_),(2,_),(3,_)] (.c3 rfl rfl rfl) (sq (sr (mv rfl (mv rfl (lt' rfl rfl (nn (cd rfl (λc0=>?_) (λc0=>?_))))))))
 ·obtain ⟨hzl,-⟩:=id hR
  have hkk:k<ys.length-1-k:=by omega
  refine sk (tn (sq (bl ?_)))
  intro a h
  refine z0h (some 15) (λwb w'=>Fr [g] wb w') z2r ?_;intro w2 q2
  replace ho:=ho.ext q2
  have hC:Fr [g] w2 w2:=Fr.refl _ _
  have ho_b:=ho
  refine z0e 0 h rfl rfl λa h=>z0e 1 h rfl rfl λa h=>z0e 2 h rfl rfl λa h=>z0e 3 h rfl rfl λa h=>z0e 4 h rfl rfl λa h=>z0e 5 h rfl rfl λa h=>z1k (p:=(ys.length-1-k)) (id0) 6 h rfl ho.sl rfl z5v rfl λad20 hc20 a h=>z0e 8 h rfl rfl λa h=>z0e 9 h rfl rfl λa h=>z1k (p:=k) (id0) 10 h rfl ho.sl rfl z5v rfl λad24 hc24 a h=>z2d 7 11 (by kernel_rfl) rfl rfl ?_ ?_
  ·refine z1p h rfl (hc20 _ ho.sl) z3g rfl λa h=>?_
   refine z0b ?_
   refine z0d 11 rfl ?_
   refine z1p h rfl (hc24 _ ho.sl) z3g rfl λa h=>?_
   refine z0b ?_
   refine z1n 12 (by kernel_rfl) (by kernel_rfl) (by kernel_rfl) hC (p:=k) h wn rfl rfl z5v (by omega) (by omega) (by omega) rfl rfl λa h=>z0d 13 rfl ?_
   refine z1b (i:=k) (zs.getD (ys.length-1-k) id0) h rfl rfl ho (by omega) rfl y1n λw3 ho_2 q3 _hz a h=>?_
   replace hC:=hC.sp q3
   clear _hz ho
   have ho:=ho_2
   clear ho_2
   refine z0b ?_
   refine z1n 14 (by kernel_rfl) (by kernel_rfl) (by kernel_rfl) hC (p:=(ys.length-1-k)) h wn rfl rfl z5v (by omega) (by omega) (by omega) rfl rfl λa h=>z0d 15 rfl ?_
   refine z1b (i:=(ys.length-1-k)) (zs.getD k id0) h rfl rfl ho (by rw [List.length_set];omega) rfl y1n λw4 ho_2 q4 _hz a h=>?_
   clear _hz ho
   have ho:=ho_2
   clear ho_2
   refine z1o ?_
   refine z0r ?_
   clear hC ho_b
   refine bk (h.sub (L':=[(0,_),(2,_),(3,_)]) (.c3 rfl rfl rfl)) (bn' (tn (rg (mv rfl (z0y rfl rfl (wi6 (by omega)) (mv rfl (z2u rfl rfl (wi6 (by omega)) (asg rfl (asg rfl (nl ?_))))))))))
   exact lpE (k+1) (.c3 rfl rfl (congrArg (λz=>some (Value.int .i64 z)) (by omega))) ⟨((Fr.refl [g] _).z4 q1 q2 q3 q4),⟨by omega,_,z7a hkk hR,ho⟩⟩ (by omega)
  refine z1p h rfl (hc24 _ ho.sl) z3g rfl λa h=>?_
  refine z0b ?_
  refine z0d 7 rfl ?_
  refine z1p h rfl (hc20 _ ho.sl) z3g rfl λa h=>?_
  refine z0b ?_
  refine z1n 12 (by kernel_rfl) (by kernel_rfl) (by kernel_rfl) hC (p:=k) h wn rfl rfl z5v (by omega) (by omega) (by omega) rfl rfl λa h=>z0d 13 rfl ?_
  refine z1b (i:=k) (zs.getD (ys.length-1-k) id0) h rfl rfl ho (by omega) rfl y1n λw5 ho_2 q5 _hz a h=>?_
  replace hC:=hC.sp q5
  clear _hz ho
  have ho:=ho_2
  clear ho_2
  refine z0b ?_
  refine z1n 14 (by kernel_rfl) (by kernel_rfl) (by kernel_rfl) hC (p:=(ys.length-1-k)) h wn rfl rfl z5v (by omega) (by omega) (by omega) rfl rfl λa h=>z0d 15 rfl ?_
  refine z1b (i:=(ys.length-1-k)) (zs.getD k id0) h rfl rfl ho (by rw [List.length_set];omega) rfl y1n λw6 ho_2 q6 _hz a h=>?_
  clear _hz ho
  have ho:=ho_2
  clear ho_2
  refine z1o ?_
  refine z0r ?_
  clear hC ho_b
  refine bk (h.sub (L':=[(0,_),(2,_),(3,_)]) (.c3 rfl rfl rfl)) (bn' (tn (rg (mv rfl (z0y rfl rfl (wi6 (by omega)) (mv rfl (z2u rfl rfl (wi6 (by omega)) (asg rfl (asg rfl (nl ?_))))))))))
  exact lpE (k+1) (.c3 rfl rfl (congrArg (λz=>some (Value.int .i64 z)) (by omega))) ⟨((Fr.refl [g] _).z4 q1 q2 q5 q6),⟨by omega,_,z7a hkk hR,ho⟩⟩ (by omega)
 refine ex (te (te (xh (r0n results200  ?_))))
 exact ⟨_,rfl,by rw [<-y8r (by omega) hR];exact ho,(q1.weak (by simp<;>omega))⟩
theorem u6l (w0:World):Rets prog 200 #[.slice none 0 0] w0 λr w'=>Fr [] w0 w':=by
 refine we [(0,.slice none 0 0)] func200 rfl ntmps200 rfl (.cons rfl .nil) (sr (mv rfl (lnS rfl underlying37 (z2u rfl rfl (wi6 (by omega)) (asg rfl (asg rfl (nn (bl ?_))))))))
 refine lpK (ι:=Unit) [(0,_),(2,_),(3,_)] (λ_u=>[]) (λ_u w'=>Fr [] w0 w'/\True) (λ_u=>0) () (.c3 rfl rfl rfl) ⟨Fr.refl _ _,trivial⟩ ?_
 rintro _u w1 ⟨q1,-⟩
 refine kpC [(0,_),(2,_),(3,_)] (.c3 rfl rfl rfl) (sq (sr (mv rfl (mv rfl (lt' rfl rfl (nn (cd rfl (λc0=>?_) (λc0=>?_))))))))
 ·exfalso;omega
 refine ex (te (te (xh (r0n results200  ?_))))
 exact ⟨_,rfl,q1⟩
theorem v1h (base:Nat) (v:Value) (ys:List LId) (w0:World) (ho:Lw.Own z1h 87 base w0 v ys) (hl:ys.length<=1000000):Rets prog 200 #[v] w0 λr w'=>Lw.Own z1h 87 base w' v ys.reverse/\Fr (z0v v) w0 w':=by
 rcases id ho with ⟨rfl,rfl⟩|⟨g,cap,cur,rfl,_⟩
 ·refine Rets.mono (u6l w0) ?_
  intro r w' hf
  exact ⟨Own.nil _,hf⟩
 exact v7m g cap base ys w0 ho hl
theorem v7z (g c base:Nat) (ys:List Pa) (w0:World) (ho:Lw.Own z1t 100 base w0 (.slice (some ⟨g,0,none⟩) ys.length c) ys) (hl:ys.length<=1000000):Rets prog 196 #[.slice (some ⟨g,0,none⟩) ys.length c] w0 λr w'=>Lw.Own z1t 100 base w' (.slice (some ⟨g,0,none⟩) ys.length c) ys.reverse/\Fr [g] w0 w':=by
 refine we [(0,.slice (some ⟨g,0,none⟩) ys.length c)] func196 rfl ntmps196 rfl (.cons rfl .nil) (sr (mv rfl (lnS rfl underlying54 (z2u rfl rfl (wi6 (by omega)) (asg rfl (asg rfl (nn (bl ?_))))))))
 refine lpK (ι:=Nat) [(0,_)] (λk=>[(2,.int .i64 (k:Int)),(3,.int .i64 ((ys.length:Int)-1-(k:Int)))]) (λk w'=>Fr [g] w0 w'/\k<=ys.length/\∃zs,u4b pa0 ys zs k/\Lw.Own z1t 100 base w' (.slice (some ⟨g,0,none⟩) ys.length c) zs) (λk=>ys.length-k) 0 (.c3 rfl rfl (congrArg (λz=>some (Value.int .i64 z)) (by omega))) ⟨Fr.refl _ _,⟨Nat.zero_le _,_,v3w _ _,ho⟩⟩ ?_
 rintro k w1 ⟨q1,⟨hk,zs,hR,ho⟩⟩
 refine kpC [(0,_),(2,_),(3,_)] (.c3 rfl rfl rfl) (sq (sr (mv rfl (mv rfl (lt' rfl rfl (nn (cd rfl (λc0=>?_) (λc0=>?_))))))))
 ·obtain ⟨hzl,-⟩:=id hR
  have hkk:k<ys.length-1-k:=by omega
  refine sk (tn (sq (bl ?_)))
  intro a h
  refine z0h (some 15) (λwb w'=>Fr [g] wb w') z2r ?_;intro w2 q2
  replace ho:=ho.ext q2
  have hC:Fr [g] w2 w2:=Fr.refl _ _
  have ho_b:=ho
  refine z0e 0 h rfl rfl λa h=>z0e 1 h rfl rfl λa h=>z0e 2 h rfl rfl λa h=>z0e 3 h rfl rfl λa h=>z0e 4 h rfl rfl λa h=>z0e 5 h rfl rfl λa h=>z1k (p:=(ys.length-1-k)) (pa0) 6 h rfl ho.sl rfl z9c rfl λad20 hc20 a h=>z0e 8 h rfl rfl λa h=>z0e 9 h rfl rfl λa h=>z1k (p:=k) (pa0) 10 h rfl ho.sl rfl z9c rfl λad24 hc24 a h=>z2d 7 11 (by kernel_rfl) rfl rfl ?_ ?_
  ·refine z1p h rfl (hc20 _ ho.sl) z6w rfl λa h=>?_
   refine z0b ?_
   refine z0d 11 rfl ?_
   refine z1p h rfl (hc24 _ ho.sl) z6w rfl λa h=>?_
   refine z0b ?_
   refine z1n 12 (by kernel_rfl) (by kernel_rfl) (by kernel_rfl) hC (p:=k) h wn rfl rfl z9c (by omega) (by omega) (by omega) rfl rfl λa h=>z0d 13 rfl ?_
   refine z1b (i:=k) (zs.getD (ys.length-1-k) pa0) h rfl rfl ho (by omega) rfl y7g λw3 ho_2 q3 _hz a h=>?_
   replace hC:=hC.sp q3
   clear _hz ho
   have ho:=ho_2
   clear ho_2
   refine z0b ?_
   refine z1n 14 (by kernel_rfl) (by kernel_rfl) (by kernel_rfl) hC (p:=(ys.length-1-k)) h wn rfl rfl z9c (by omega) (by omega) (by omega) rfl rfl λa h=>z0d 15 rfl ?_
   refine z1b (i:=(ys.length-1-k)) (zs.getD k pa0) h rfl rfl ho (by rw [List.length_set];omega) rfl y7g λw4 ho_2 q4 _hz a h=>?_
   clear _hz ho
   have ho:=ho_2
   clear ho_2
   refine z1o ?_
   refine z0r ?_
   clear hC ho_b
   refine bk (h.sub (L':=[(0,_),(2,_),(3,_)]) (.c3 rfl rfl rfl)) (bn' (tn (rg (mv rfl (z0y rfl rfl (wi6 (by omega)) (mv rfl (z2u rfl rfl (wi6 (by omega)) (asg rfl (asg rfl (nl ?_))))))))))
   exact lpE (k+1) (.c3 rfl rfl (congrArg (λz=>some (Value.int .i64 z)) (by omega))) ⟨((Fr.refl [g] _).z4 q1 q2 q3 q4),⟨by omega,_,z7a hkk hR,ho⟩⟩ (by omega)
  refine z1p h rfl (hc24 _ ho.sl) z6w rfl λa h=>?_
  refine z0b ?_
  refine z0d 7 rfl ?_
  refine z1p h rfl (hc20 _ ho.sl) z6w rfl λa h=>?_
  refine z0b ?_
  refine z1n 12 (by kernel_rfl) (by kernel_rfl) (by kernel_rfl) hC (p:=k) h wn rfl rfl z9c (by omega) (by omega) (by omega) rfl rfl λa h=>z0d 13 rfl ?_
  refine z1b (i:=k) (zs.getD (ys.length-1-k) pa0) h rfl rfl ho (by omega) rfl y7g λw5 ho_2 q5 _hz a h=>?_
  replace hC:=hC.sp q5
  clear _hz ho
  have ho:=ho_2
  clear ho_2
  refine z0b ?_
  refine z1n 14 (by kernel_rfl) (by kernel_rfl) (by kernel_rfl) hC (p:=(ys.length-1-k)) h wn rfl rfl z9c (by omega) (by omega) (by omega) rfl rfl λa h=>z0d 15 rfl ?_
  refine z1b (i:=(ys.length-1-k)) (zs.getD k pa0) h rfl rfl ho (by rw [List.length_set];omega) rfl y7g λw6 ho_2 q6 _hz a h=>?_
  clear _hz ho
  have ho:=ho_2
  clear ho_2
  refine z1o ?_
  refine z0r ?_
  clear hC ho_b
  refine bk (h.sub (L':=[(0,_),(2,_),(3,_)]) (.c3 rfl rfl rfl)) (bn' (tn (rg (mv rfl (z0y rfl rfl (wi6 (by omega)) (mv rfl (z2u rfl rfl (wi6 (by omega)) (asg rfl (asg rfl (nl ?_))))))))))
  exact lpE (k+1) (.c3 rfl rfl (congrArg (λz=>some (Value.int .i64 z)) (by omega))) ⟨((Fr.refl [g] _).z4 q1 q2 q5 q6),⟨by omega,_,z7a hkk hR,ho⟩⟩ (by omega)
 refine ex (te (te (xh (r0n results196  ?_))))
 exact ⟨_,rfl,by rw [<-y8r (by omega) hR];exact ho,(q1.weak (by simp<;>omega))⟩
theorem u4e (w0:World):Rets prog 196 #[.slice none 0 0] w0 λr w'=>Fr [] w0 w':=by
 refine we [(0,.slice none 0 0)] func196 rfl ntmps196 rfl (.cons rfl .nil) (sr (mv rfl (lnS rfl underlying54 (z2u rfl rfl (wi6 (by omega)) (asg rfl (asg rfl (nn (bl ?_))))))))
 refine lpK (ι:=Unit) [(0,_),(2,_),(3,_)] (λ_u=>[]) (λ_u w'=>Fr [] w0 w'/\True) (λ_u=>0) () (.c3 rfl rfl rfl) ⟨Fr.refl _ _,trivial⟩ ?_
 rintro _u w1 ⟨q1,-⟩
 refine kpC [(0,_),(2,_),(3,_)] (.c3 rfl rfl rfl) (sq (sr (mv rfl (mv rfl (lt' rfl rfl (nn (cd rfl (λc0=>?_) (λc0=>?_))))))))
 ·exfalso;omega
 refine ex (te (te (xh (r0n results196  ?_))))
 exact ⟨_,rfl,q1⟩
theorem x2m (base:Nat) (v:Value) (ys:List Pa) (w0:World) (ho:Lw.Own z1t 100 base w0 v ys) (hl:ys.length<=1000000):Rets prog 196 #[v] w0 λr w'=>Lw.Own z1t 100 base w' v ys.reverse/\Fr (z0v v) w0 w':=by
 rcases id ho with ⟨rfl,rfl⟩|⟨g,cap,cur,rfl,_⟩
 ·refine Rets.mono (u4e w0) ?_
  intro r w' hf
  exact ⟨Own.nil _,hf⟩
 exact v7z g cap base ys w0 ho hl
theorem v5t (g c base:Nat) (ys:List Cx) (w0:World) (ho:Lw.Own z4t 246 base w0 (.slice (some ⟨g,0,none⟩) ys.length c) ys) (hl:ys.length<=1000000):Rets prog 201 #[.slice (some ⟨g,0,none⟩) ys.length c] w0 λr w'=>Lw.Own z4t 246 base w' (.slice (some ⟨g,0,none⟩) ys.length c) ys.reverse/\Fr [g] w0 w':=by
 refine we [(0,.slice (some ⟨g,0,none⟩) ys.length c)] func201 rfl ntmps201 rfl (.cons rfl .nil) (sr (mv rfl (lnS rfl underlying242 (z2u rfl rfl (wi6 (by omega)) (asg rfl (asg rfl (nn (bl ?_))))))))
 refine lpK (ι:=Nat) [(0,_)] (λk=>[(2,.int .i64 (k:Int)),(3,.int .i64 ((ys.length:Int)-1-(k:Int)))]) (λk w'=>Fr [g] w0 w'/\k<=ys.length/\∃zs,u4b cx0 ys zs k/\Lw.Own z4t 246 base w' (.slice (some ⟨g,0,none⟩) ys.length c) zs) (λk=>ys.length-k) 0 (.c3 rfl rfl (congrArg (λz=>some (Value.int .i64 z)) (by omega))) ⟨Fr.refl _ _,⟨Nat.zero_le _,_,v3w _ _,ho⟩⟩ ?_
 rintro k w1 ⟨q1,⟨hk,zs,hR,ho⟩⟩
 refine kpC [(0,_),(2,_),(3,_)] (.c3 rfl rfl rfl) (sq (sr (mv rfl (mv rfl (lt' rfl rfl (nn (cd rfl (λc0=>?_) (λc0=>?_))))))))
 ·obtain ⟨hzl,-⟩:=id hR
  have hkk:k<ys.length-1-k:=by omega
  refine sk (tn (sq (bl ?_)))
  intro a h
  refine z0h (some 15) (λwb w'=>Fr [g] wb w') z2r ?_;intro w2 q2
  replace ho:=ho.ext q2
  have hC:Fr [g] w2 w2:=Fr.refl _ _
  have ho_b:=ho
  refine z0e 0 h rfl rfl λa h=>z0e 1 h rfl rfl λa h=>z0e 2 h rfl rfl λa h=>z0e 3 h rfl rfl λa h=>z0e 4 h rfl rfl λa h=>z0e 5 h rfl rfl λa h=>z1k (p:=(ys.length-1-k)) (cx0) 6 h rfl ho.sl rfl y0z rfl λad20 hc20 a h=>z0e 8 h rfl rfl λa h=>z0e 9 h rfl rfl λa h=>z1k (p:=k) (cx0) 10 h rfl ho.sl rfl y0z rfl λad24 hc24 a h=>z2d 7 11 (by kernel_rfl) rfl rfl ?_ ?_
  ·refine z1p h rfl (hc20 _ ho.sl) x7r rfl λa h=>?_
   refine z0b ?_
   refine z0d 11 rfl ?_
   refine z1p h rfl (hc24 _ ho.sl) x7r rfl λa h=>?_
   refine z0b ?_
   refine z1n 12 (by kernel_rfl) (by kernel_rfl) (by kernel_rfl) hC (p:=k) h wn rfl rfl y0z (by omega) (by omega) (by omega) rfl rfl λa h=>z0d 13 rfl ?_
   refine z1b (i:=k) (zs.getD (ys.length-1-k) cx0) h rfl rfl ho (by omega) rfl v1a λw3 ho_2 q3 _hz a h=>?_
   replace hC:=hC.sp q3
   clear _hz ho
   have ho:=ho_2
   clear ho_2
   refine z0b ?_
   refine z1n 14 (by kernel_rfl) (by kernel_rfl) (by kernel_rfl) hC (p:=(ys.length-1-k)) h wn rfl rfl y0z (by omega) (by omega) (by omega) rfl rfl λa h=>z0d 15 rfl ?_
   refine z1b (i:=(ys.length-1-k)) (zs.getD k cx0) h rfl rfl ho (by rw [List.length_set];omega) rfl v1a λw4 ho_2 q4 _hz a h=>?_
   clear _hz ho
   have ho:=ho_2
   clear ho_2
   refine z1o ?_
   refine z0r ?_
   clear hC ho_b
   refine bk (h.sub (L':=[(0,_),(2,_),(3,_)]) (.c3 rfl rfl rfl)) (bn' (tn (rg (mv rfl (z0y rfl rfl (wi6 (by omega)) (mv rfl (z2u rfl rfl (wi6 (by omega)) (asg rfl (asg rfl (nl ?_))))))))))
   exact lpE (k+1) (.c3 rfl rfl (congrArg (λz=>some (Value.int .i64 z)) (by omega))) ⟨((Fr.refl [g] _).z4 q1 q2 q3 q4),⟨by omega,_,z7a hkk hR,ho⟩⟩ (by omega)
  refine z1p h rfl (hc24 _ ho.sl) x7r rfl λa h=>?_
  refine z0b ?_
  refine z0d 7 rfl ?_
  refine z1p h rfl (hc20 _ ho.sl) x7r rfl λa h=>?_
  refine z0b ?_
  refine z1n 12 (by kernel_rfl) (by kernel_rfl) (by kernel_rfl) hC (p:=k) h wn rfl rfl y0z (by omega) (by omega) (by omega) rfl rfl λa h=>z0d 13 rfl ?_
  refine z1b (i:=k) (zs.getD (ys.length-1-k) cx0) h rfl rfl ho (by omega) rfl v1a λw5 ho_2 q5 _hz a h=>?_
  replace hC:=hC.sp q5
  clear _hz ho
  have ho:=ho_2
  clear ho_2
  refine z0b ?_
  refine z1n 14 (by kernel_rfl) (by kernel_rfl) (by kernel_rfl) hC (p:=(ys.length-1-k)) h wn rfl rfl y0z (by omega) (by omega) (by omega) rfl rfl λa h=>z0d 15 rfl ?_
  refine z1b (i:=(ys.length-1-k)) (zs.getD k cx0) h rfl rfl ho (by rw [List.length_set];omega) rfl v1a λw6 ho_2 q6 _hz a h=>?_
  clear _hz ho
  have ho:=ho_2
  clear ho_2
  refine z1o ?_
  refine z0r ?_
  clear hC ho_b
  refine bk (h.sub (L':=[(0,_),(2,_),(3,_)]) (.c3 rfl rfl rfl)) (bn' (tn (rg (mv rfl (z0y rfl rfl (wi6 (by omega)) (mv rfl (z2u rfl rfl (wi6 (by omega)) (asg rfl (asg rfl (nl ?_))))))))))
  exact lpE (k+1) (.c3 rfl rfl (congrArg (λz=>some (Value.int .i64 z)) (by omega))) ⟨((Fr.refl [g] _).z4 q1 q2 q5 q6),⟨by omega,_,z7a hkk hR,ho⟩⟩ (by omega)
 refine ex (te (te (xh (r0n results201  ?_))))
 exact ⟨_,rfl,by rw [<-y8r (by omega) hR];exact ho,(q1.weak (by simp<;>omega))⟩
theorem u7u (w0:World):Rets prog 201 #[.slice none 0 0] w0 λr w'=>Fr [] w0 w':=by
 refine we [(0,.slice none 0 0)] func201 rfl ntmps201 rfl (.cons rfl .nil) (sr (mv rfl (lnS rfl underlying242 (z2u rfl rfl (wi6 (by omega)) (asg rfl (asg rfl (nn (bl ?_))))))))
 refine lpK (ι:=Unit) [(0,_),(2,_),(3,_)] (λ_u=>[]) (λ_u w'=>Fr [] w0 w'/\True) (λ_u=>0) () (.c3 rfl rfl rfl) ⟨Fr.refl _ _,trivial⟩ ?_
 rintro _u w1 ⟨q1,-⟩
 refine kpC [(0,_),(2,_),(3,_)] (.c3 rfl rfl rfl) (sq (sr (mv rfl (mv rfl (lt' rfl rfl (nn (cd rfl (λc0=>?_) (λc0=>?_))))))))
 ·exfalso;omega
 refine ex (te (te (xh (r0n results201  ?_))))
 exact ⟨_,rfl,q1⟩
theorem v2j (base:Nat) (v:Value) (ys:List Cx) (w0:World) (ho:Lw.Own z4t 246 base w0 v ys) (hl:ys.length<=1000000):Rets prog 201 #[v] w0 λr w'=>Lw.Own z4t 246 base w' v ys.reverse/\Fr (z0v v) w0 w':=by
 rcases id ho with ⟨rfl,rfl⟩|⟨g,cap,cur,rfl,_⟩
 ·refine Rets.mono (u7u w0) ?_
  intro r w' hf
  exact ⟨Own.nil _,hf⟩
 exact v5t g cap base ys w0 ho hl
theorem y3y (v:Value) (l:List Pa) (w0:World) (hs:Sl z1t w0 v l) (hl:l.length<=100000):Rets prog 197 #[v] w0 λr w'=>∃g,r=.slice (some ⟨g,0,none⟩) l.length l.length/\w0.heap.size<=g/\Lw.Own z1t 100 w0.heap.size w' r l/\Fr [] w0 w':=by
 obtain ⟨A,c,rfl,hcc,hM,hA⟩:=id hs
 clear hA
 unfold maxLen at hM
 refine we [(0,.slice A l.length c)] func197 rfl ntmps197 rfl (.cons rfl .nil) ?_
 have hs0:=hs
 refine sr (asg rfl (nn (sr (mv rfl (lnS rfl underlying54 (z1e (m:=l.length) (c:=l.length) (pa0) rfl rfl z9c y5e rfl (λg6 w1 hg6 ho q1 z1=>(asg rfl (nn (sr (mv rfl (mv rfl ?_))))))))))))
 replace hs:=hs0.ext q1
 refine z6z (zs:=List.replicate l.length pa0) (by rw [List.length_replicate];rfl) rfl (by rw [List.length_replicate];exact ho) hs (by rw [List.length_replicate]) z9c (λw2 ho q2 z2=>?_)
 rw [List.length_replicate] at ho
 refine nn (sr (mv rfl (asg rfl (nn (rt (r1 results197 rfl ?_))))))
 exact ⟨_,rfl,g6,rfl,by omega,ho.low (by omega),(q1.z1 q2)⟩
theorem x4b (v:Value) (l:List Cx) (w0:World) (hs:Sl z4t w0 v l) (hl:l.length<=100000):Rets prog 202 #[v] w0 λr w'=>∃g,r=.slice (some ⟨g,0,none⟩) l.length l.length/\w0.heap.size<=g/\Lw.Own z4t 246 w0.heap.size w' r l/\Fr [] w0 w':=by
 obtain ⟨A,c,rfl,hcc,hM,hA⟩:=id hs
 clear hA
 unfold maxLen at hM
 refine we [(0,.slice A l.length c)] func202 rfl ntmps202 rfl (.cons rfl .nil) ?_
 have hs0:=hs
 refine sr (asg rfl (nn (sr (mv rfl (lnS rfl underlying242 (z1e (m:=l.length) (c:=l.length) (cx0) rfl rfl y0z j2r rfl (λg6 w1 hg6 ho q1 z1=>(asg rfl (nn (sr (mv rfl (mv rfl ?_))))))))))))
 replace hs:=hs0.ext q1
 refine z6z (zs:=List.replicate l.length cx0) (by rw [List.length_replicate];rfl) rfl (by rw [List.length_replicate];exact ho) hs (by rw [List.length_replicate]) y0z (λw2 ho q2 z2=>?_)
 rw [List.length_replicate] at ho
 refine nn (sr (mv rfl (asg rfl (nn (rt (r1 results202 rfl ?_))))))
 exact ⟨_,rfl,g6,rfl,by omega,ho.low (by omega),(q1.z1 q2)⟩
end Go.Proofs.YtpgdchkdlgkmgaaGreatDoor
