/- Texts of the proof, joined. -/
import Derived.Test.YtpgdchkdlgkmgaaGreatDoorRows
import Derived.Shelf.Strings.Builder1
import Derived.Shelf.Strings.Builder2
import Derived.Shelf.Strings.OnBuilder
import Derived.Shelf.Strings.Trim
import Derived.Shelf.Small.Utf8
import Derived.Shelf.Small.Bits
import Derived.Shelf.Small.Strs
import Derived.Shelf.Strconv.Atoi
import Derived.Shelf.Strconv.Itoa0
import Derived.Shelf.Strconv.Itoa1
import Derived.Shelf.LaysM
import Derived.Shelf.Strconv.Itoa2
import Derived.Shelf.Strconv.Itoa3
import Derived.Shelf.Strconv.AtoiErrFast
import Derived.Shelf.Strconv.ParseIntEmpty
import Derived.Shelf.Strconv.AtoiFail
import Derived.Shelf.Strconv.Clone
import Derived.Shelf.Strconv.SyntaxError
import Derived.Shelf.LaysC
import Derived.Shelf.Strconv.ToError
import Derived.Shelf.Strconv.AtoiErr
import Derived.Shelf.Strconv.ErrVar
import Derived.Shelf.Strconv.Lower
import Derived.Shelf.Strconv.ParseUint10
import Derived.Shelf.Strconv.ParseUint10Empty
import Derived.Shelf.Strconv.ParseUint10Any
import Derived.Shelf.Strconv.ParseInt10
import Derived.Shelf.Strconv.AtoiLong
import Derived.Shelf.Strconv.AtoiInnerAll
import Derived.Shelf.Strconv.RangeError
import Derived.Shelf.Strconv.ToErrorRange
import Derived.Shelf.Strconv.AtoiAll
import Derived.Shelf.Strconv.ErrVarAll
import Derived.Shelf.Strings.Search1
import Derived.Shelf.Strings.Search2
import Derived.Shelf.Strings.Search3
import Derived.Shelf.Strings.Cut
import Derived.Shelf.Strings.Count
import Derived.Shelf.Strings.Shaped
import Derived.Shelf.Strings.Split
import Derived.Shelf.Strings.SplitShaped
import Derived.Shelf.Strings.Runes
import Derived.Shelf.Strings.AsciiSet
import Derived.Shelf.Unicode.DecodeSlow
import Derived.Test.YtpgdchkdlgkmgaaGreatDoorProg
import Derived.Lib.LaidTab
import Derived.LaidSub
import Derived.Test.YtpgdchkdlgkmgaaGreatDoorCards
import Derived.Test.YtpgdchkdlgkmgaaGreatDoorTie
import Derived.ChangeMaps5
import Derived.Test.YtpgdchkdlgkmgaaGreatDoorV5
set_option linter.unusedVariables false
set_option linter.unusedSimpArgs false
namespace Go.Proofs.YtpgdchkdlgkmgaaGreatDoor
open Go.Lw Go.G21 Go.G08 _root_.Go.Proofs.Tryz
set_option maxHeartbeats 2000000 in
theorem u4c (s:StQ) (w0:World) (hS:StAt w0 s) (hr:-4<=s.rk/\s.rk<=4) (hB:BdOk s.q.p) (hly:s.ys.length=6) (hlt:s.fb.ts.length=6) (hyn:∀i,i<6->y8o (s.ys.getD i yq0).p/\(s.ys.getD i yq0).ct=((s.fb.ts.getD i tq0).2.length:Int)) (hFC:∀w,FbAt w s.fb->Rets prog 45 #[.agg #[.slice s.fb.t.1 s.fb.t.2.1 s.fb.t.2.2,.slice s.fb.c.1 s.fb.c.2.1 s.fb.c.2.2,.slice s.fb.h.1 s.fb.h.2.1 s.fb.h.2.2,.slice s.fb.f.1 s.fb.f.2.1 s.fb.f.2.2]] w λr w'=>r=.int .i64 0/\Fr [] w w') (hh:s.fb.hs=(z2n s.q.p s.rk).map Hd.id) (hhl:s.fb.hs.length<=100000):Rets prog 16 #[.agg #[.int .i64 s.rk,.slice s.q.f.1 s.q.f.2.1 s.q.f.2.2,.slice s.q.b.1 s.q.b.2.1 s.q.b.2.2,.slice s.yv.1 s.yv.2.1 s.yv.2.2,.slice s.fb.t.1 s.fb.t.2.1 s.fb.t.2.2,.slice s.fb.c.1 s.fb.c.2.1 s.fb.c.2.2,.slice s.fb.h.1 s.fb.h.2.1 s.fb.h.2.2,.slice s.fb.f.1 s.fb.f.2.1 s.fb.f.2.2]] w0 λr w'=>r=.int .i64 0/\Fr [] w0 w':=by
 have hyl:=z1s hS.y
 have htl:=z1s hS.f.t
 refine we [(0,.agg #[.int .i64 s.rk,.slice s.q.f.1 s.q.f.2.1 s.q.f.2.2,.slice s.q.b.1 s.q.b.2.1 s.q.b.2.2,.slice s.yv.1 s.yv.2.1 s.yv.2.2,.slice s.fb.t.1 s.fb.t.2.1 s.fb.t.2.2,.slice s.fb.c.1 s.fb.c.2.1 s.fb.c.2.2,.slice s.fb.h.1 s.fb.h.2.1 s.fb.h.2.2,.slice s.fb.f.1 s.fb.f.2.1 s.fb.f.2.2])] func16 rfl ntmps16 rfl (.cons rfl .nil) ?_
 have hS0:=hS
 refine sr (bx rfl rfl rfl (λg1 w1 hg1 hb1 q1 z1=>(asg rfl (nn (sq (sq ?_))))))
 refine rbo (r:=17) (L':=[(1,_)]) (((s.rk < -4)\/(4<s.rk))) (.cons rfl .nil) ?_ ?_
 ·refine fad rfl x6k (z0i rfl hb1 rfl na3 (lt' rfl rfl (mv rfl (gs 13 rfl (λg0=>?_) (λg0=>?_)))))
  ·exact gN rfl rfl (gN rfl rfl (gN rfl rfl (pkt rfl rfl (rbe rfl (.cons rfl .nil)))))
  exact gY rfl (fad rfl x6k (gY rfl (z0i rfl hb1 rfl na3 (gY rfl (gt' rfl rfl (pkf rfl rfl (rbe rfl (.cons rfl .nil))))))))
 refine tn (cd rfl (λc0=>?_) (λc0=>?_))
 ·refine sr (asg rfl (nn (rt (tr (r1 results16 rfl ?_)))))
  exfalso;omega
 refine sk (tn (sq (sr (fad rfl x0a (z1y (vs:=[_,_]) rfl hb1 z5k rfl ?_)))))
 replace hS:=hS0.ext q1
 refine cl (ev1 rfl) (mkC func43) (y9e s.q _ hS.b hB) rfl ?_
 rintro _ w2 ⟨rfl,q2⟩
 have z2:=q2.size
 refine asg rfl (nn (sr (mv rfl (ne' rfl rfl (nn (cd rfl (λc1=>?_) (λc1=>?_)))))))
 ·refine sr (mv rfl (asg rfl (nn (rt (tr (r1 results16 rfl ?_))))))
  exact absurd rfl (by assumption)
 refine sk (tn (sq (sr (fad rfl y5j ?_))))
 replace hb1:=hb1.ext q2
 refine z0i rfl hb1 rfl y1w (lnS rfl underlying33 (ne' rfl rfl (nn (cd rfl (λc2=>?_) (λc2=>?_)))))
 ·refine sr (asg rfl (nn (rt (tr (r1 results16 rfl ?_)))))
  exfalso;omega
 refine sk (tn (sq (sr (fad rfl y5j (z0i rfl hb1 rfl y1w (lnS rfl underlying33 (mv rfl (nn (bl ?_)))))))))
 refine lpK (ι:=Nat) [(1,_),(29,_),(30,_)] (λi=>[(31,.int .i64 (i:Int))]) (λi w'=>Fr [] w2 w'/\i<=6) (λi=>6-i) 0 (.c4 rfl rfl rfl rfl) ⟨Fr.refl _ _,Nat.zero_le _⟩ ?_
 rintro i w3 ⟨q3,hi⟩
 have z3:=q3.size
 refine kpC [(1,_),(29,_),(30,_),(31,_)] (.c4 rfl rfl rfl rfl) (sr (lt' rfl rfl (nn (sq (cd rfl (λc3=>?_) (λc3=>?_))))))
 ·refine sk (tn (sq (bl (sr ?_))))
  replace hS:=hS0.ext (q1.n2 q2 q3)
  refine z1a (yq0) rfl hS.y rfl y1r z1f (λad33 hc33=>?_)
  refine z1j rfl (hc33 _ hS.y) z6h (al y1j rfl rfl (λg5 w4 hg5 hb5 q4 z4=>?_))
  refine z0j (vs:=[_,_,_,_,_]) rfl rfl hb5 z6k (λw5 hb5 q5 z5=>?_) (h1:=(by first|(simp [Value.oneCell',S];done)|exact z2s.one _))
  refine nn (sr (z0n rfl hb5 z6h ?_))
  replace hS:=hS0.ext (q1.z4 q2 q3 q4 q5)
  refine cl (ev1 rfl) j1s (z8o (s.ys.getD i yq0) _ (hS.ya i)) rfl ?_
  rintro _ w6 ⟨rfl,q6⟩
  have z6:=q6.size
  refine asg rfl (nn (sr (mv rfl (ne' rfl rfl (nn (cd rfl (λc4=>?_) (λc4=>?_)))))))
  ·refine sr (mv rfl (asg rfl (kpL [(2,_)] (.cons rfl .nil) (nn (rt (rb (tr (tr (rb (tr (r1 results16 rfl ?_)))))))))))
   exact absurd (by unfold ynE;rw [if_pos (hyn i (by omega)).1]) c4
  refine sk (bn' (tn (rg (z0y rfl rfl (wi6 (by omega)) (mv rfl (nl ?_))))))
  exact lpE (i+1) (.c4 rfl rfl rfl rfl) ⟨(q3.z3 q4 q5 q6),by omega⟩ (by omega)
 obtain rfl:i=6:=by omega
 refine ex (te (te (xh (tn (sq (sr (fad rfl z8b ?_)))))))
 replace hb1:=hb1.ext q3
 refine z1y (vs:=[_,_,_,_]) rfl hb1 x9a rfl ?_
 replace hS:=hS0.ext (q1.n2 q2 q3)
 refine cl (ev1 rfl) (mkC func45) (hFC _ hS.f) rfl ?_
 rintro _ w7 ⟨rfl,q7⟩
 have z7:=q7.size
 refine asg rfl (kpL [(1,_),(7,_)] (.c2 rfl rfl) (nn (sr (mv rfl (ne' rfl rfl (nn (cd rfl (λc5=>?_) (λc5=>?_))))))))
 ·refine sr (mv rfl (asg rfl (nn (rt (tr (r1 results16 rfl ?_))))))
  exact absurd rfl (by assumption)
 refine sk (tn (sq (sq ?_)))
 replace hS:=hS0.ext (q1.n3 q2 q3 q7)
 intro a h
 refine z0h none (λwb w'=>Fr [] wb w') z2r ?_;intro w8 q8
 have z8:=q8.size
 replace hS:=hS.ext q8
 replace hb1:=hb1.ext (q7.n1 q8)
 have hC:Fr [] w8 w8:=Fr.refl _ _
 have hS_b:=hS
 have hb1_b:=hb1
 refine z0c 0 h rfl z8b rfl λa h=>z7u 1 hC h wn rfl y6b rfl λa h=>z0l 2 h rfl (λ_ hw=>hb1_b.ext hw) rfl z6t rfl λa h=>z0c 3 h rfl x0a rfl λa h=>z1c (vs:=[_,_]) 4 h rfl (λ_ hw=>(hb1_b.ext hw)) z5k rfl rfl λa h=>z0c 5 h rfl x6k rfl λa h=>z0l 6 h rfl (λ_ hw=>hb1_b.ext hw) rfl na3 rfl λa h=>z0d 7 rfl ?_
 refine z0m h (z0a rfl (z0a rfl z0g)) (mkC func47) (y2u s.q s.rk _ hS.b hB hr) ?_;rintro _ w9 ⟨⟨g54,n54,hn54,rfl,hg54,hH⟩,q9⟩ a h
 have z9:=q9.size
 replace hS:=hS.ext q9
 replace hC:=hC.next q9
 refine z0b ?_
 refine z0d 8 rfl ?_
 refine z0m h (z0a rfl (z0a rfl z0g)) (mkC func46) (u6f _ _ s.fb.hs ((z2n s.q.p s.rk).map Hd.id) _ hS.f.h hH.sl hhl) ?_;rintro _ w10 ⟨rfl,q10⟩ a h
 have z10:=q10.size
 replace hS:=hS.ext q10
 replace hb1:=hb1.ext (q9.n1 q10)
 replace hH:=hH.ext q10
 replace hC:=hC.next q10
 refine z0b ?_
 refine x5m 9 hC h wn rfl rfl rfl λa h=>z0r ?_
 clear hC hS_b hb1_b
 refine bk (h.sub (L':=[(1,_),(56,_)]) (.c2 rfl rfl)) (tn (cd rfl (λc6=>?_) (λc6=>?_)))
 ·refine sr (asg rfl (nn (rt (tr (r1 results16 rfl ?_)))))
  exact absurd hh c6
 refine sk (tn (sq (sr (fad rfl y5j (z0i rfl hb1 rfl y1w (lnS rfl underlying33 (mv rfl (nn (bl ?_)))))))))
 refine lpK (ι:=Nat) [(1,_),(58,_),(59,_)] (λi=>[(60,.int .i64 (i:Int))]) (λi w'=>Fr [] w10 w'/\i<=6) (λi=>6-i) 0 (.c4 rfl rfl rfl rfl) ⟨Fr.refl _ _,Nat.zero_le _⟩ ?_
 rintro i w11 ⟨q11,hi⟩
 have z11:=q11.size
 refine kpC [(1,_),(58,_),(59,_),(60,_)] (.c4 rfl rfl rfl rfl) (sr (lt' rfl rfl (nn (sq (cd rfl (λc7=>?_) (λc7=>?_))))))
 ·refine sk (tn (sq (bl (sr (mv rfl ?_)))))
  replace hS:=hS0.ext ((q1.n6 q2 q3 q7 q8 q9 q10).n1 q11)
  refine z1a (yq0) rfl hS.y rfl y1r z1f (λad63 hc63=>?_)
  refine z1j rfl (hc63 _ hS.y) z6h (al y1j rfl rfl (λg9 w12 hg9 hb9 q12 z12=>?_))
  refine asg rfl (z0j (vs:=[_,_,_,_,_]) rfl rfl hb9 z6k (λw13 hb9 q13 z13=>?_) (h1:=(by first|(simp [Value.oneCell',S];done)|exact z2s.one _)))
  refine nn (sq ?_)
  replace hS:=hS0.ext ((((q1.n6 q2 q3 q7 q8 q9 q10).n1 q11).n1 q12).z1 q13)
  replace hb1:=(hb1.ext (q11.n1 q12)).fr q13
  intro a h
  refine z0h none (λwb w'=>Fr [] wb w') z2r ?_;intro w14 q14
  have z14:=q14.size
  replace hS:=hS.ext q14
  replace hb1:=hb1.ext q14
  replace hb9:=hb9.ext q14
  have hC:Fr [] w14 w14:=Fr.refl _ _
  have hS_b:=hS
  have hb1_b:=hb1
  have hb9_b:=hb9
  refine z0c 0 h rfl y0b rfl λa h=>z0l 1 h rfl (λ_ hw=>hb9_b.ext hw) rfl na3 rfl λa h=>z0c 2 h rfl z8b rfl λa h=>z7u 3 hC h wn rfl z8l rfl λa h=>z0l 4 h rfl (λ_ hw=>hb1_b.ext hw) rfl x1r rfl λa h=>z0e 5 h rfl rfl λa h=>z1k (tq0) 6 h rfl hS.f.t rfl y5d rfl ?_ (hp:=rfl);clear h a;intro ad71 hc71 a h
  refine z3e 7 h rfl (λ_ hw=>hc71 _ (hS_b.f.t.ext hw)) x2r rfl λa h=>z7v 8 hC h wn rfl underlying46 rfl λa h=>j0x 9 hC h wn rfl rfl rfl rfl λa h=>z0r ?_
  clear hC hS_b hb1_b hb9_b
  refine bk (h.sub (L':=[(1,_),(58,_),(59,_),(60,_),(74,_)]) (.c5 rfl rfl rfl rfl rfl)) (tn (cd rfl (λc8=>?_) (λc8=>?_)))
  ·refine sr (asg rfl (nn (rt (rb (tr (tr (rb (tr (r1 results16 rfl ?_)))))))))
   exfalso;simp only [Int.toNat_natCast] at c8;have:=(hyn i (by omega)).2;have hz_:=z1s (hS0.f.tt _ (z0x (d:=tq0) (i:=i) (by omega))).1;omega
  refine sk (bn' (tn (rg (z0y rfl rfl (wi6 (by omega)) (mv rfl (nl ?_))))))
  exact lpE (i+1) (.c4 rfl rfl rfl rfl) ⟨(q11.z3 q12 q13 q14),by omega⟩ (by omega)
 obtain rfl:i=6:=by omega
 refine ex (te (te (xh (tn (sr (asg rfl (nn (rt (r1 results16 rfl ?_)))))))))
 exact ⟨_,rfl,rfl,((q1.n6 q2 q3 q7 q8 q9 q10).n1 q11)⟩
theorem x4z:ElemOf prog 29 28 z6s 40:=ElemOf.mk' (z:=(.agg #[.int .u8 0,.int .u8 0,.int .u8 0,.int .i64 0,.int .u8 0,.int .i64 0])) underlying29 (by kernel_rfl) rfl
theorem x9c:z1q prog 28 6:=λ_=>by kernel_rfl
theorem x7e (w:World):(zeroValue 28).run prog w=.ok (.agg #[(.int .u8 0),(.int .u8 0),(.int .u8 0),(.int .i64 0),(.int .u8 0),(.int .i64 0)]) w:=by kernel_rfl
theorem x5s {p0 p q:MSt} {o:MOp}:∀ {l:List MOp} {i:Nat},z4p i p0 l=.ok p->doM p o=.ok q->z4p i p0 (l++[o])=.ok q
 | [],i,h,h2=>by cases h;show z4p i p0 [o]=_;unfold z4p;rw [h2];rfl
 | x::l,i,h,h2=>by
  unfold z4p at h
  show z4p i p0 (x::(l++[o]))=_
  unfold z4p
  split at h
  ·cases h
  rename_i q' hq
  exact x5s h h2
theorem x9v {p0 p:MSt} {e:Int} {o:MOp}:∀ {l r:List MOp} {i:Nat},z4p i p0 l=.ok p->doM p o=.error e->z4p i p0 (l++o::r)=.error (e,i+l.length)
 | [],r,i,h,h2=>by cases h;show z4p i p0 (o::r)=_;unfold z4p;rw [h2];rfl
 | x::l,r,i,h,h2=>by
  unfold z4p at h
  show z4p i p0 (x::(l++o::r))=_
  unfold z4p
  split at h
  ·cases h
  rename_i q' hq
  have:=x9v (r:=r) h h2
  simp only [this,List.length_cons]
  congr 2;omega
set_option maxHeartbeats 2000000 in
theorem u3n (s:StQ) (v:Value) (l:List MOp) (p0:MSt) (w0:World) (hS:StAt w0 s) (hSz:StSz s) (hcn:(s.fb.cs.map cxK).Nodup) (hp0:p0=(⟨s.rk,⟨trimB (plB s.q.fs),trimB (plB s.q.bs)⟩,s.ys.map YQ.p,z2c s.fb.ts,s.fb.cs,s.fb.fs⟩:MSt)) (hi0:MInv p0) (hv:Sl z6s w0 v l) (hTS:StT w0) (hl4:l.length<=4096) (hchk:∀w,StAt w s->Rets prog 16 #[.agg #[.int .i64 s.rk,.slice s.q.f.1 s.q.f.2.1 s.q.f.2.2,.slice s.q.b.1 s.q.b.2.1 s.q.b.2.2,.slice s.yv.1 s.yv.2.1 s.yv.2.2,.slice s.fb.t.1 s.fb.t.2.1 s.fb.t.2.2,.slice s.fb.c.1 s.fb.c.2.1 s.fb.c.2.2,.slice s.fb.h.1 s.fb.h.2.1 s.fb.h.2.2,.slice s.fb.f.1 s.fb.f.2.1 s.fb.f.2.2]] w λr w'=>r=.int .i64 0/\Fr [] w w') (hcb:∀p,z4p 0 p0 l=.ok p->p.cr.length<=100000000):Rets prog 9 #[.agg #[.int .i64 s.rk,.slice s.q.f.1 s.q.f.2.1 s.q.f.2.2,.slice s.q.b.1 s.q.b.2.1 s.q.b.2.2,.slice s.yv.1 s.yv.2.1 s.yv.2.2,.slice s.fb.t.1 s.fb.t.2.1 s.fb.t.2.2,.slice s.fb.c.1 s.fb.c.2.1 s.fb.c.2.2,.slice s.fb.h.1 s.fb.h.2.1 s.fb.h.2.2,.slice s.fb.f.1 s.fb.f.2.1 s.fb.f.2.2],v] w0 λr w'=>(match z4p 0 p0 l with|.error (e,n)=>r=.tuple #[.agg #[.int .i64 0,.slice none 0 0,.slice none 0 0,.slice none 0 0,.slice none 0 0,.slice none 0 0,.slice none 0 0,.slice none 0 0],.int .i64 (n:Int),.int .i64 e]|.ok p=>∃s':StQ,r=.tuple #[.agg #[.int .i64 s'.rk,.slice s'.q.f.1 s'.q.f.2.1 s'.q.f.2.2,.slice s'.q.b.1 s'.q.b.2.1 s'.q.b.2.2,.slice s'.yv.1 s'.yv.2.1 s'.yv.2.2,.slice s'.fb.t.1 s'.fb.t.2.1 s'.fb.t.2.2,.slice s'.fb.c.1 s'.fb.c.2.1 s'.fb.c.2.2,.slice s'.fb.h.1 s'.fb.h.2.1 s'.fb.h.2.2,.slice s'.fb.f.1 s'.fb.f.2.1 s'.fb.f.2.2],.int .i64 (l.length:Int),.int .i64 0]/\StO τd 109 w0.heap.size w' s'/\s'.p=stM p)/\Fr [] w0 w':=by
 obtain ⟨A,c,rfl,hcc,hMl,hA⟩:=id hv
 clear hA
 unfold maxLen at hMl
 refine we [(0,.agg #[.int .i64 s.rk,.slice s.q.f.1 s.q.f.2.1 s.q.f.2.2,.slice s.q.b.1 s.q.b.2.1 s.q.b.2.2,.slice s.yv.1 s.yv.2.1 s.yv.2.2,.slice s.fb.t.1 s.fb.t.2.1 s.fb.t.2.2,.slice s.fb.c.1 s.fb.c.2.1 s.fb.c.2.2,.slice s.fb.h.1 s.fb.h.2.1 s.fb.h.2.2,.slice s.fb.f.1 s.fb.f.2.1 s.fb.f.2.2]),(1,.slice A l.length c)] func9 rfl ntmps9 rfl (.c2 rfl rfl) ?_
 have hS0:=hS
 have hv0:=hv
 refine sr (bx rfl rfl rfl (λg2 w1 hg2 hb2 q1 z1=>(al u1h rfl rfl (λg4 w2 hg4 hb4 q2 z2=>(asg rfl (asg rfl (nn (sq (sr (mv rfl (lnS rfl underlying29 (gt' rfl rfl (nn (cd rfl (λc0=>?_) (λc0=>?_)))))))))))))))
 ·refine sr (z1r (cs:=[_,_,_,_,_,_,_,_]) z0g v5f z0s rfl ?_)
  refine z0j (vs:=[_,_,_,_,_,_,_,_]) rfl rfl hb4 x4l (λw3 hb4 q3 z3=>(asg rfl (asg rfl (nn (rt (tr (j1q results9 rfl hb4 x8m rfl rfl ?_)))))))
  exfalso;omega
 refine sk (tn (sq (sr ?_)))
 replace hb2:=hb2.ext q2
 refine z0n rfl hb2 x8m ?_
 replace hS:=hS0.ext (q1.n1 q2)
 refine cl (ev1 rfl) (mkC func16) (hchk _ hS) rfl ?_
 rintro _ w4 ⟨rfl,q4⟩
 have z4:=q4.size
 refine asg rfl (nn (sr (mv rfl (ne' rfl rfl (nn (cd rfl (λc1=>?_) (λc1=>?_)))))))
 ·refine sr (z1r (cs:=[_,_,_,_,_,_,_,_]) z0g v5f z0s rfl ?_)
  refine mv rfl ?_
  replace hb4:=hb4.ext q4
  refine z0j (vs:=[_,_,_,_,_,_,_,_]) rfl rfl hb4 x4l (λw5 hb4 q5 z5=>(asg rfl (asg rfl (kpL [(4,_),(5,_),(6,_)] (.c3 rfl rfl rfl) (nn (rt (tr (j1q results9 rfl hb4 x8m rfl rfl ?_))))))))
  exact absurd rfl (by assumption)
 refine sk (tn (sr ?_))
 replace hb2:=hb2.ext q4
 refine z0n rfl hb2 x8m ?_
 replace hS:=hS0.ext (q1.n2 q2 q4)
 replace hb4:=hb4.ext q4
 refine cl (z0a rfl z0g) (mkC func25) (u6q s _ hS hSz hcn) rfl ?_
 rintro _ w6 ⟨ka,m,rfl,hM,hmp⟩
 have q6:=hM.fr.fr
 have z6:=q6.size
 have hb4w:=hb4
 have hgcl:=hM.c.lt
 have hM0:=hM
 refine cl z0g (mkC func26) (u2t _) rfl ?_
 rintro _ w7 ⟨⟨gl,rfl,hgl,hl⟩,q7⟩
 have z7:=q7.size
 refine asg rfl (asg rfl (kpL [(1,_),(4,_),(8,_),(9,_)] (.c4 rfl rfl rfl rfl) (nn (sq (sr (mv rfl (lnS rfl underlying29 (mv rfl (nn (bl ?_))))))))))
 replace hM:=hM0.ext q7
 refine lpK (ι:=Nat) [(1,_),(4,_),(8,_),(9,_),(26,_),(27,_)] (λi=>[(28,.int .i64 (i:Int))]) (λi w'=>Fr [] w4 w'/\i<=l.length/\∃m:MQ,MkM τd 137 w4 ka w' m/\z4p 0 p0 (l.take i)=.ok m.p/\MInv m.p/\MapF kV w' gl u9h) (λi=>l.length-i) 0 (.c7 rfl rfl rfl rfl rfl rfl rfl) ⟨(q6.n1 q7),⟨Nat.zero_le _,m,hM,by rw [hmp,<-hp0];rfl,by rw [hmp,<-hp0];exact hi0,hl⟩⟩ ?_
 rintro i w8 ⟨q8,⟨hil,m,hM,hru,hMi,hl⟩⟩
 have z8:=q8.size
 have hM0:=hM
 refine kpC [(1,_),(4,_),(8,_),(9,_),(26,_),(27,_),(28,_)] (.c7 rfl rfl rfl rfl rfl rfl rfl) ?_
 have hgll:gl<w8.heap.size:=by obtain ⟨_,_,_,h1_,_⟩:=hl;exact (Array.getElem?_eq_some_iff.1 h1_).1
 refine sr (lt' rfl rfl (nn (sq (cd rfl (λc2=>?_) (λc2=>?_)))))
 ·have hlt:i<l.length:=by omega
  refine sk (tn (sq (bl (sr (mv rfl ?_)))))
  replace hv:=hv0.ext (q1.n3 q2 q4 q8)
  refine z1a (op0) rfl hv rfl x4z z1f (λad31 hc31=>?_)
  refine z1j rfl (hc31 _ hv) z9j (al x7e rfl rfl (λg11 w9 hg11 hb11 q9 z9=>(asg rfl (z0j (vs:=[_,_,_,_,_,_]) rfl rfl hb11 x9c (λw10 hb11 q10 z10=>(nn (sr (mv rfl (mv rfl (z0n rfl hb11 z9j ?_))))))))))
  replace hM:=hM0.ext (q9.z1 q10)
  replace hl:=(hl.ext q9).fr q10 (by simp only [List.mem_singleton];omega)
  have hMf:=hM.fr
  refine cl (z0a rfl (z0a rfl (z0a rfl z0g))) (mkC func27) (j1z w4 { ka with wk:=w10 } m (l.getD i op0) gl _ hM.mark hMi (hTS.ext (q1.n2 q2 q4)) hl) rfl ?_
  intro _ w11 hR
  obtain ⟨rfl,hfR,m1,hm1⟩:=hR.split
  have z11:=hfR.kp.size
  simp only at z11
  have q11:=hfR.fr
  replace hl:=hfR.kp.mapF hl (by simp only;omega)
  refine asg rfl (nn (sr (mv rfl (ne' rfl rfl (nn (cd rfl (λc3=>?_) (λc3=>?_)))))))
  ·have hb4:=hb4w.ext hfR.fr
   refine sr (z1r (cs:=[_,_,_,_,_,_,_,_]) z0g v5f z0s rfl ?_)
   refine mv rfl (mv rfl (z0j (vs:=[_,_,_,_,_,_,_,_]) rfl rfl hb4 x4l (λw12 hb4 q12 z12=>(asg rfl (asg rfl (kpL [(4,_),(5,_),(6,_)] (.c3 rfl rfl rfl) (nn (rt (rb (tr (tr (rb (tr (j1q results9 rfl hb4 x8m rfl rfl ?_))))))))))))))
   have hre:z4p 0 p0 l=.error (u8g (doM m.p (l.getD i op0)),i):=by
    have x:=x9v (r:=l.drop (i+1)) hru (y0o c3)
    have e:l.take i++l.getD i op0::l.drop (i+1)=l:=by
     rw [List.getD,List.getElem?_eq_getElem hlt,Option.getD_some,<-List.drop_eq_getElem_cons hlt,List.take_append_drop]
    rw [e,List.length_take,Nat.min_eq_left (by omega),Nat.zero_add] at x
    exact x
   exact ⟨_,rfl,by rw [hre],(q1.z4 q2 q4 q11 q12)⟩
  obtain ⟨hM1,hdo⟩:=hm1 (Classical.not_not.1 c3)
  have hM2:=hM1.unmark hMf
  obtain ⟨m2,hm2⟩:∃m2,m2=m1:=⟨_,rfl⟩
  rw [<-hm2] at hM2 hdo
  refine sk (bn' (tn (rg (z0y rfl rfl (wi6 (by omega)) (mv rfl (nl ?_))))))
  exact lpE ((i+1)) (.c7 rfl rfl rfl rfl rfl rfl rfl) ⟨q11,⟨by omega,m2,hM2,by rw [show l.take (i+1)=l.take i++[l.getD i op0] by rw [List.take_add_one,List.getD,List.getElem?_eq_getElem hlt];rfl];exact x5s hru hdo,v4v hMi hdo,hl⟩⟩ (by omega)
 obtain rfl:i=l.length:=by omega
 rw [List.take_length] at hru
 refine ex (te (te (xh (tn (sr (mv rfl (cl (z0a rfl z0g) (mkC func28) (v4t w4 ka m _ hM hMi (hcb _ hru)) rfl ?_)))))))
 rintro _ w13 ⟨s',rfl,hSt,hsp,q13⟩
 have z13:=q13.size
 have hb4:=hb4w.ext q13
 have hb4t:=hb4
 refine mv rfl (lnS rfl underlying29 (z0j (vs:=[_,_,_,_,_,_,_,_]) rfl rfl hb4 x4l (λw14 hb4 q14 z14=>(asg rfl (asg rfl (kpL [(4,_),(5,_),(6,_)] (.c3 rfl rfl rfl) (nn (rt (j1q results9 rfl hb4 x8m rfl rfl ?_)))))))))
 have hF2:Fr [] _ w14:=(Fr.refl _ _)
 exact ⟨_,rfl,by rw [hru];exact ⟨s',rfl,((hSt.off hb4t (by decide) q14).ext hF2).low (by omega),hsp⟩,(q1.z4 q2 q4 q13 q14)⟩
theorem y3a (y:Nat):z2t (z2c (List.replicate 6 tq0)) y=0:=by
 unfold z2t
 show ((List.replicate 6 ([]:List Lp)).getD y []).length=0
 rw [List.getD,List.getElem?_replicate];split<;>rfl
theorem u1e:TabV (z2c (List.replicate 6 tq0)):=by
 refine ⟨⟨rfl,by decide,λy _ n hn=>(by rw [y3a y] at hn;omega),⟨λ_=>0,?_⟩⟩,λi=>?_⟩
 ·exact ⟨λy _ n hn=>(by rw [y3a y] at hn;omega),λy _ n m _ hm=>(by rw [y3a y] at hm;omega)⟩
 have e:y0v (z2c (List.replicate 6 tq0))=[]:=by rfl
 rw [e];exact Nat.zero_le _
theorem u4q (gy gt:Nat) (w:World) (h:StAt w (st0 gy gt)):Rets prog 16 #[.agg #[.int .i64 (st0 gy gt).rk,.slice (st0 gy gt).q.f.1 (st0 gy gt).q.f.2.1 (st0 gy gt).q.f.2.2,.slice (st0 gy gt).q.b.1 (st0 gy gt).q.b.2.1 (st0 gy gt).q.b.2.2,.slice (st0 gy gt).yv.1 (st0 gy gt).yv.2.1 (st0 gy gt).yv.2.2,.slice (st0 gy gt).fb.t.1 (st0 gy gt).fb.t.2.1 (st0 gy gt).fb.t.2.2,.slice (st0 gy gt).fb.c.1 (st0 gy gt).fb.c.2.1 (st0 gy gt).fb.c.2.2,.slice (st0 gy gt).fb.h.1 (st0 gy gt).fb.h.2.1 (st0 gy gt).fb.h.2.2,.slice (st0 gy gt).fb.f.1 (st0 gy gt).fb.f.2.1 (st0 gy gt).fb.f.2.2]] w λr w'=>r=.int .i64 0/\Fr [] w w':=
 u4c (st0 gy gt) w h (by show (-4:Int)<=0/\(0:Int)<=4;omega) y0p.B rfl rfl (λi _=>by
  have e1:(st0 gy gt).ys.getD i yq0=yq0:=by
   show (List.replicate 6 yq0).getD i yq0=yq0
   rw [List.getD,List.getElem?_replicate];split<;>rfl
  have e2:(st0 gy gt).fb.ts.getD i tq0=tq0:=by
   show (List.replicate 6 tq0).getD i tq0=tq0
   rw [List.getD,List.getElem?_replicate];split<;>rfl
  rw [e1,e2];exact ⟨by decide,rfl⟩) (λw hF=>x5p (st0 gy gt).fb w hF rfl u1e ⟨λi hi=>absurd hi (Nat.not_lt_zero i),λi _ hi=>absurd hi (Nat.not_lt_zero i)⟩ ⟨λi hi=>(by cases hi),λi _ hi=>absurd hi (Nat.not_lt_zero i),λy _ n hn=>(by rw [show z2t (z2c (st0 gy gt).fb.ts) y=0 from y3a y] at hn;omega),u1e.thr⟩) rfl (Nat.zero_le _)
theorem v4c (gy gt:Nat) (v:Value) (l:List MOp) (w0:World) (hS:StAt w0 (st0 gy gt)) (hv:Sl z6s w0 v l) (hTS:StT w0) (hl4:l.length<=4096):Rets prog 9 #[.agg #[.int .i64 (st0 gy gt).rk,.slice (st0 gy gt).q.f.1 (st0 gy gt).q.f.2.1 (st0 gy gt).q.f.2.2,.slice (st0 gy gt).q.b.1 (st0 gy gt).q.b.2.1 (st0 gy gt).q.b.2.2,.slice (st0 gy gt).yv.1 (st0 gy gt).yv.2.1 (st0 gy gt).yv.2.2,.slice (st0 gy gt).fb.t.1 (st0 gy gt).fb.t.2.1 (st0 gy gt).fb.t.2.2,.slice (st0 gy gt).fb.c.1 (st0 gy gt).fb.c.2.1 (st0 gy gt).fb.c.2.2,.slice (st0 gy gt).fb.h.1 (st0 gy gt).fb.h.2.1 (st0 gy gt).fb.h.2.2,.slice (st0 gy gt).fb.f.1 (st0 gy gt).fb.f.2.1 (st0 gy gt).fb.f.2.2],v] w0 λr w'=>(match z4p 0 G08.start l with|.error (e,n)=>r=.tuple #[.agg #[.int .i64 0,.slice none 0 0,.slice none 0 0,.slice none 0 0,.slice none 0 0,.slice none 0 0,.slice none 0 0,.slice none 0 0],.int .i64 (n:Int),.int .i64 e]|.ok p=>∃s':StQ,r=.tuple #[.agg #[.int .i64 s'.rk,.slice s'.q.f.1 s'.q.f.2.1 s'.q.f.2.2,.slice s'.q.b.1 s'.q.b.2.1 s'.q.b.2.2,.slice s'.yv.1 s'.yv.2.1 s'.yv.2.2,.slice s'.fb.t.1 s'.fb.t.2.1 s'.fb.t.2.2,.slice s'.fb.c.1 s'.fb.c.2.1 s'.fb.c.2.2,.slice s'.fb.h.1 s'.fb.h.2.1 s'.fb.h.2.2,.slice s'.fb.f.1 s'.fb.f.2.1 s'.fb.f.2.2],.int .i64 (l.length:Int),.int .i64 0]/\StO τd 109 w0.heap.size w' s'/\s'.p=stM p)/\Fr [] w0 w':=
 u3n (st0 gy gt) v l G08.start w0 hS (j0z gy gt) List.nodup_nil rfl y0p hv hTS hl4 (u4q gy gt) (λp e=>by
  have x:=x6d y0p e
  have y:(G08.start).cr.length=0:=rfl
  omega)
theorem x5h (s:StQ) (A:Option Addr) (n c:Nat) (w0:World) (hn:4096<n):Rets prog 9 #[.agg #[.int .i64 s.rk,.slice s.q.f.1 s.q.f.2.1 s.q.f.2.2,.slice s.q.b.1 s.q.b.2.1 s.q.b.2.2,.slice s.yv.1 s.yv.2.1 s.yv.2.2,.slice s.fb.t.1 s.fb.t.2.1 s.fb.t.2.2,.slice s.fb.c.1 s.fb.c.2.1 s.fb.c.2.2,.slice s.fb.h.1 s.fb.h.2.1 s.fb.h.2.2,.slice s.fb.f.1 s.fb.f.2.1 s.fb.f.2.2],.slice A n c] w0 λr w'=>r=.tuple #[.agg #[.int .i64 0,.slice none 0 0,.slice none 0 0,.slice none 0 0,.slice none 0 0,.slice none 0 0,.slice none 0 0,.slice none 0 0],.int .i64 0,.int .i64 3]/\Fr [] w0 w':=by
 refine we [(0,.agg #[.int .i64 s.rk,.slice s.q.f.1 s.q.f.2.1 s.q.f.2.2,.slice s.q.b.1 s.q.b.2.1 s.q.b.2.2,.slice s.yv.1 s.yv.2.1 s.yv.2.2,.slice s.fb.t.1 s.fb.t.2.1 s.fb.t.2.2,.slice s.fb.c.1 s.fb.c.2.1 s.fb.c.2.2,.slice s.fb.h.1 s.fb.h.2.1 s.fb.h.2.2,.slice s.fb.f.1 s.fb.f.2.1 s.fb.f.2.2]),(1,.slice A n c)] func9 rfl ntmps9 rfl (.c2 rfl rfl) (sr (bx rfl rfl rfl (λg2 w1 hg2 hb2 q1 z1=>(al u1h rfl rfl (λg4 w2 hg4 hb4 q2 z2=>(asg rfl (asg rfl (nn (sq (sr (mv rfl (lnS rfl underlying29 (gt' rfl rfl (nn (cd rfl (λc0=>?_) (λc0=>?_))))))))))))))))
 ·refine sr (z1r (cs:=[_,_,_,_,_,_,_,_]) z0g v5f z0s rfl ?_)
  refine z0j (vs:=[_,_,_,_,_,_,_,_]) rfl rfl hb4 x4l (λw3 hb4 q3 z3=>(asg rfl (asg rfl (nn (rt (tr (j1q results9 rfl hb4 x8m rfl rfl ?_)))))))
  exact ⟨_,rfl,rfl,(q1.z2 q2 q3)⟩
 exfalso;omega
def v3a (l:List MOp):Int:=match z4p 0 G08.start l with
  | .error (e,_)=>e
  | .ok _=>0
abbrev stZ:StQ:=⟨0,⟨sv0,sv0,[],[]⟩,sv0,[],⟨sv0,sv0,sv0,sv0,[],[],[],[]⟩⟩
theorem u9z (base:Nat) (w:World):StO τd 109 base w stZ:=
 ⟨⟨⟨Own.nil w,λq hq=>(by cases hq)⟩,⟨Own.nil w,λq hq=>(by cases hq)⟩⟩,⟨Own.nil w,λi hi=>(by cases hi)⟩,⟨Own.nil w,λi hi=>(by cases hi),λi j hi=>(by cases hi),λi hi=>(by cases hi)⟩,Own.nil w,Own.nil w,Own.nil w⟩
theorem u2k (gy gt:Nat) (v:Value) (l:List MOp) (w0:World) (hS:StAt w0 (st0 gy gt)) (hv:Sl z6s w0 v l) (hTS:StT w0) (hl4:l.length<=4096):Rets prog 9 #[.agg #[.int .i64 (st0 gy gt).rk,.slice (st0 gy gt).q.f.1 (st0 gy gt).q.f.2.1 (st0 gy gt).q.f.2.2,.slice (st0 gy gt).q.b.1 (st0 gy gt).q.b.2.1 (st0 gy gt).q.b.2.2,.slice (st0 gy gt).yv.1 (st0 gy gt).yv.2.1 (st0 gy gt).yv.2.2,.slice (st0 gy gt).fb.t.1 (st0 gy gt).fb.t.2.1 (st0 gy gt).fb.t.2.2,.slice (st0 gy gt).fb.c.1 (st0 gy gt).fb.c.2.1 (st0 gy gt).fb.c.2.2,.slice (st0 gy gt).fb.h.1 (st0 gy gt).fb.h.2.1 (st0 gy gt).fb.h.2.2,.slice (st0 gy gt).fb.f.1 (st0 gy gt).fb.f.2.1 (st0 gy gt).fb.f.2.2],v] w0 λr w'=>(∃(s':StQ) (n:Nat),r=.tuple #[.agg #[.int .i64 s'.rk,.slice s'.q.f.1 s'.q.f.2.1 s'.q.f.2.2,.slice s'.q.b.1 s'.q.b.2.1 s'.q.b.2.2,.slice s'.yv.1 s'.yv.2.1 s'.yv.2.2,.slice s'.fb.t.1 s'.fb.t.2.1 s'.fb.t.2.2,.slice s'.fb.c.1 s'.fb.c.2.1 s'.fb.c.2.2,.slice s'.fb.h.1 s'.fb.h.2.1 s'.fb.h.2.2,.slice s'.fb.f.1 s'.fb.f.2.1 s'.fb.f.2.2],.int .i64 (n:Int),.int .i64 (v3a l)]/\StO τd 109 w0.heap.size w' s'/\∀p,z4p 0 G08.start l=.ok p->s'.p=stM p)/\Fr [] w0 w':=
 Rets.mono (v4c gy gt v l w0 hS hv hTS hl4) (by
  rintro r w' ⟨h,hf⟩
  refine ⟨?_,hf⟩
  unfold v3a
  cases e:z4p 0 G08.start l with
  | error x=>
   obtain ⟨e1,n⟩:=x
   rw [e] at h
   exact ⟨stZ,n,h,u9z _ _,λp hp=>by cases hp⟩
  | ok p=>
   rw [e] at h
   obtain ⟨s',h1,h2,h3⟩:=h
   exact ⟨s',l.length,h1,h2,λq hq=>by cases hq;exact h3⟩)
theorem co9:CallOf prog 9:=mkC func9
theorem u1r:CallOf prog 10:=mkC func10
theorem x7a (v:Value) (l:List MOp) (w0:World) (hv:Sl z6s w0 v l) (hTS:StT w0) (hl4:l.length<=4096):Rets prog 14 #[v] w0 λr w'=>(∃s':StQ,r=.tuple #[.agg #[.slice s'.fb.t.1 s'.fb.t.2.1 s'.fb.t.2.2,.slice s'.fb.c.1 s'.fb.c.2.1 s'.fb.c.2.2,.slice s'.fb.h.1 s'.fb.h.2.1 s'.fb.h.2.2,.slice s'.fb.f.1 s'.fb.f.2.1 s'.fb.f.2.2],.int .i64 (v3a l)]/\StO τd 109 w0.heap.size w' s'/\∀p,z4p 0 G08.start l=.ok p->s'.p=stM p)/\Fr [] w0 w':=by
 obtain ⟨A,c,rfl,hcc,hMl,hA⟩:=id hv
 clear hA
 unfold maxLen at hMl
 refine we [(0,.slice A l.length c)] func14 rfl ntmps14 rfl (.cons rfl .nil) ?_
 have hv0:=hv
 refine sr (al v5k rfl rfl (λg2 w1 hg2 hb2 q1 z1=>(asg rfl (nn (sr (cl z0g u1r (z5f _) rfl ?_))))))
 rintro _ w2 ⟨⟨gy,gt,rfl,hS⟩,q2⟩
 have z2:=q2.size
 have hS0:=hS
 refine mv rfl ?_
 replace hv:=hv0.ext (q1.n1 q2)
 refine cl (ev2 rfl rfl) co9 (u2k gy gt _ l _ hS hv (hTS.ext (q1.n1 q2)) hl4) rfl ?_
 rintro _ w3 ⟨⟨s',n,rfl,hO,hsp⟩,q3⟩
 have z3:=q3.size
 replace hb2:=hb2.ext (q2.n1 q3)
 have hb2s:=hb2
 have hO0:=hO
 refine mv rfl (xt rfl rfl (xt rfl rfl (xt rfl rfl (al u1h rfl rfl (λg4 w4 hg4 hb4 q4 z4=>(z0j (vs:=[_,_,_,_,_,_,_,_]) rfl rfl hb4 x4l (λw5 hb4 q5 z5=>(asg rfl (asg rfl (kpL [(2,_),(4,_),(6,_)] (.c3 rfl rfl rfl) (nn (sr (fad rfl z8b (z1y (vs:=[_,_,_,_]) rfl hb4 x9a rfl (mv rfl ?_)))))))))))))))
 replace hb2:=(hb2.ext q4).fr q5
 refine z0j (vs:=[_,_,_,_]) rfl rfl hb2 v5j (λw6 hb2 q6 z6=>(asg rfl (nn (rt (rCT results14 rfl hb2 x9a rfl ?_)))))
 have hF1:Fr [] _ _:=(q4.z1 q5)
 have hF2:Fr [] _ w6:=(Fr.refl _ _)
 exact ⟨_,rfl,⟨s',rfl,(((hO0.ext hF1).off (hb2s.ext hF1) (by decide) q6).ext hF2).low (by omega),hsp⟩,(q1.z5 q2 q3 q4 q5 q6)⟩
end Go.Proofs.YtpgdchkdlgkmgaaGreatDoor
namespace Go.Proofs
open Go.Shelf
def Tryz.lays169_ren:Go.Shelf.Ren:=⟨fun|169=>88|n=>n,fun|70=>149|9=>9|0=>0|72=>152|37=>150|127=>221|3=>3|5=>5|n=>n,fun|n=>n⟩
theorem Tryz.lays169:Go.Proofs.Lays.n169 Tryz.prog Tryz.lays169_ren:={
 mixed:=by kernel_rfl
 f169:=Tryz.func88.trans (congrArg some (by kernel_rfl))
 t0:=Tryz.underlying0
 a0:=Tryz.isAgg0
 z0:=Tryz.sizeOf0
 v0:=Tryz.zeroValue0
 t3:=Tryz.underlying3
 a3:=Tryz.isAgg3
 z3:=Tryz.sizeOf3
 v3:=Tryz.zeroValue3
 t9:=Tryz.underlying9
 a9:=Tryz.isAgg9
 z9:=Tryz.sizeOf9
 v9:=Tryz.zeroValue9
 t37:=Tryz.underlying150
 a37:=Tryz.isAgg150
 z37:=Tryz.sizeOf150
 v37:=Tryz.zeroValue150
 t70:=Tryz.underlying149
 a70:=Tryz.isAgg149
 z70:=Tryz.sizeOf149
 v70:=Tryz.zeroValue149
 t72:=Tryz.underlying152
 a72:=Tryz.isAgg152
 z72:=Tryz.sizeOf152
 v72:=Tryz.zeroValue152
 t127:=Tryz.underlying221
 a127:=Tryz.isAgg221
 z127:=Tryz.sizeOf221
 v127:=Tryz.zeroValue221 }
theorem Tryz.Builder_Extra_169:Builder.Extra Tryz.prog Tryz.lays169_ren:={
 sizeBuilder:=by kernel_rfl
 liesBuilder:=by kernel_rfl
 t5:=Tryz.underlying5
 a5:=Tryz.isAgg5
 z5:=Tryz.sizeOf5
 v5:=Tryz.zeroValue5
 infoByte:=by kernel_rfl
 cellsByte:=by kernel_rfl
 sizeByte:=by kernel_rfl
 neB5:=by decide }
open Go.RowKit in
theorem Tryz.Builder_String_any (B b:Nat) (l:List UInt8) (w:World) (h:Lib.IsBuilder 152 5 B b (Lib.byteCells l) w) (hBw:B<=w.heap.size) :
 Calls Tryz.prog 88 #[.pointer (some ⟨b,0,none⟩)] w λe w'=>e=.returned (.string ⟨l.toArray⟩)/\Below B w w':=Any.Builder_String_any Tryz.lays169 Tryz.Builder_Extra_169 B b l w h hBw
def Tryz.lays156_ren:Go.Shelf.Ren:=⟨fun|156=>82|165=>130|166=>81|169=>88|240=>129|241=>186|276=>185|277=>224|n=>n,fun|31=>153|9=>9|3=>3|4=>4|0=>0|20=>20|72=>152|76=>156|70=>149|37=>150|75=>155|127=>221|164=>283|5=>5|80=>165|n=>n,fun|n=>n⟩
theorem Tryz.lays156:Go.Proofs.Lays.n156 Tryz.prog Tryz.lays156_ren:={
 mixed:=by kernel_rfl
 f156:=Tryz.func82.trans (congrArg some (by kernel_rfl))
 f165:=Tryz.func130.trans (congrArg some (by kernel_rfl))
 f166:=Tryz.func81.trans (congrArg some (by kernel_rfl))
 f169:=Tryz.func88.trans (congrArg some (by kernel_rfl))
 f240:=Tryz.func129.trans (congrArg some (by kernel_rfl))
 f241:=Tryz.func186.trans (congrArg some (by kernel_rfl))
 f276:=Tryz.func185.trans (congrArg some (by kernel_rfl))
 f277:=Tryz.func224.trans (congrArg some (by kernel_rfl))
 t0:=Tryz.underlying0
 a0:=Tryz.isAgg0
 z0:=Tryz.sizeOf0
 v0:=Tryz.zeroValue0
 t3:=Tryz.underlying3
 a3:=Tryz.isAgg3
 z3:=Tryz.sizeOf3
 v3:=Tryz.zeroValue3
 t4:=Tryz.underlying4
 a4:=Tryz.isAgg4
 z4:=Tryz.sizeOf4
 v4:=Tryz.zeroValue4
 t9:=Tryz.underlying9
 a9:=Tryz.isAgg9
 z9:=Tryz.sizeOf9
 v9:=Tryz.zeroValue9
 t20:=Tryz.underlying20
 a20:=Tryz.isAgg20
 z20:=Tryz.sizeOf20
 v20:=Tryz.zeroValue20
 t31:=Tryz.underlying153
 a31:=Tryz.isAgg153
 z31:=Tryz.sizeOf153
 v31:=Tryz.zeroValue153
 t37:=Tryz.underlying150
 a37:=Tryz.isAgg150
 z37:=Tryz.sizeOf150
 v37:=Tryz.zeroValue150
 t70:=Tryz.underlying149
 a70:=Tryz.isAgg149
 z70:=Tryz.sizeOf149
 v70:=Tryz.zeroValue149
 t72:=Tryz.underlying152
 a72:=Tryz.isAgg152
 z72:=Tryz.sizeOf152
 v72:=Tryz.zeroValue152
 t75:=Tryz.underlying155
 a75:=Tryz.isAgg155
 z75:=Tryz.sizeOf155
 v75:=Tryz.zeroValue155
 t76:=Tryz.underlying156
 a76:=Tryz.isAgg156
 z76:=Tryz.sizeOf156
 v76:=Tryz.zeroValue156
 t127:=Tryz.underlying221
 a127:=Tryz.isAgg221
 z127:=Tryz.sizeOf221
 v127:=Tryz.zeroValue221
 t164:=Tryz.underlying283
 a164:=Tryz.isAgg283
 z164:=Tryz.sizeOf283
 v164:=Tryz.zeroValue283 }
theorem Tryz.Builder_Extra_156:Builder.Extra Tryz.prog Tryz.lays156_ren:={
 sizeBuilder:=by kernel_rfl
 liesBuilder:=by kernel_rfl
 t5:=Tryz.underlying5
 a5:=Tryz.isAgg5
 z5:=Tryz.sizeOf5
 v5:=Tryz.zeroValue5
 infoByte:=by kernel_rfl
 cellsByte:=by kernel_rfl
 sizeByte:=by kernel_rfl
 neB5:=by decide }
open Go.RowKit in
theorem Tryz.strings_Join (bk o c:Nat) (xs:List ByteArray) (sep:ByteArray) (w:World) (hcells:∀(j:Nat) x,xs[j]?=some x->w.cell? ⟨bk,o+j,none⟩=some (.string x)) (hbk:bk<w.heap.size) (hN:xs.length<=140737488355328) (hcap:xs.length<=c) (hlen:(Lib.join (xs.map (·.data.toList)) sep.data.toList).length<=140737488355328) :
 Calls Tryz.prog 82 #[.slice (some ⟨bk,o,none⟩) xs.length c,.string sep] w λe w'=>e=.returned (.string ⟨(Lib.join (xs.map (·.data.toList)) sep.data.toList).toArray⟩)/\Below w.heap.size w w':=Any.strings_Join Tryz.lays156 Tryz.Builder_Extra_156 bk o c xs sep w hcells hbk hN hcap hlen
def Tryz.lays160_ren:Go.Shelf.Ren:=⟨fun|160=>127|232=>177|231=>176|227=>178|234=>180|233=>179|236=>182|235=>181|228=>216|271=>219|151=>218|197=>217|120=>244|152=>243|260=>242|137=>255|119=>256|224=>240|225=>239|217=>238|266=>253|n=>n,fun|9=>9|4=>4|3=>3|5=>5|117=>277|116=>276|0=>0|124=>280|21=>21|105=>306|46=>208|119=>336|139=>339|138=>338|n=>n,fun|3=>5|4=>6|n=>n⟩
theorem Tryz.lays160:Go.Proofs.Lays.n160 Tryz.prog Tryz.lays160_ren:={
 mixed:=by kernel_rfl
 f119:=Tryz.func256.trans (congrArg some (by kernel_rfl))
 f120:=Tryz.func244.trans (congrArg some (by kernel_rfl))
 f137:=Tryz.func255.trans (congrArg some (by kernel_rfl))
 f151:=Tryz.func218.trans (congrArg some (by kernel_rfl))
 f152:=Tryz.func243.trans (congrArg some (by kernel_rfl))
 f160:=Tryz.func127.trans (congrArg some (by kernel_rfl))
 f197:=Tryz.func217.trans (congrArg some (by kernel_rfl))
 f217:=Tryz.func238.trans (congrArg some (by kernel_rfl))
 f224:=Tryz.func240.trans (congrArg some (by kernel_rfl))
 f225:=Tryz.func239.trans (congrArg some (by kernel_rfl))
 f227:=Tryz.func178.trans (congrArg some (by kernel_rfl))
 f228:=Tryz.func216.trans (congrArg some (by kernel_rfl))
 f231:=Tryz.func176.trans (congrArg some (by kernel_rfl))
 f232:=Tryz.func177.trans (congrArg some (by kernel_rfl))
 f233:=Tryz.func179.trans (congrArg some (by kernel_rfl))
 f234:=Tryz.func180.trans (congrArg some (by kernel_rfl))
 f235:=Tryz.func181.trans (congrArg some (by kernel_rfl))
 f236:=Tryz.func182.trans (congrArg some (by kernel_rfl))
 f260:=Tryz.func242.trans (congrArg some (by kernel_rfl))
 f266:=Tryz.func253.trans (congrArg some (by kernel_rfl))
 f271:=Tryz.func219.trans (congrArg some (by kernel_rfl))
 t0:=Tryz.underlying0
 a0:=Tryz.isAgg0
 z0:=Tryz.sizeOf0
 v0:=Tryz.zeroValue0
 t3:=Tryz.underlying3
 a3:=Tryz.isAgg3
 z3:=Tryz.sizeOf3
 v3:=Tryz.zeroValue3
 t4:=Tryz.underlying4
 a4:=Tryz.isAgg4
 z4:=Tryz.sizeOf4
 v4:=Tryz.zeroValue4
 t5:=Tryz.underlying5
 a5:=Tryz.isAgg5
 z5:=Tryz.sizeOf5
 v5:=Tryz.zeroValue5
 t9:=Tryz.underlying9
 a9:=Tryz.isAgg9
 z9:=Tryz.sizeOf9
 v9:=Tryz.zeroValue9
 t21:=Tryz.underlying21
 a21:=Tryz.isAgg21
 z21:=Tryz.sizeOf21
 v21:=Tryz.zeroValue21
 t46:=Tryz.underlying208
 a46:=Tryz.isAgg208
 z46:=Tryz.sizeOf208
 v46:=Tryz.zeroValue208
 t105:=Tryz.underlying306
 a105:=Tryz.isAgg306
 z105:=Tryz.sizeOf306
 v105:=Tryz.zeroValue306
 t116:=Tryz.underlying276
 a116:=Tryz.isAgg276
 z116:=Tryz.sizeOf276
 t117:=Tryz.underlying277
 a117:=Tryz.isAgg277
 z117:=Tryz.sizeOf277
 v117:=Tryz.zeroValue277
 t119:=Tryz.underlying336
 a119:=Tryz.isAgg336
 z119:=Tryz.sizeOf336
 t124:=Tryz.underlying280
 a124:=Tryz.isAgg280
 z124:=Tryz.sizeOf280
 v124:=Tryz.zeroValue280
 t138:=Tryz.underlying338
 a138:=Tryz.isAgg338
 z138:=Tryz.sizeOf338
 v138:=Tryz.zeroValue338
 t139:=Tryz.underlying339
 a139:=Tryz.isAgg339
 z139:=Tryz.sizeOf339
 v139:=Tryz.zeroValue339
 g3:=by kernel_rfl
 g4:=by kernel_rfl }
open Go.RowKit in
theorem Tryz.strings_Trim_one (s:ByteArray) (c:UInt8) (hc:c.toNat<128) (w:World) (hs:s.size<=9223372036854775807) :
 Calls Tryz.prog 127 #[.string s,.string ⟨#[c]⟩] w λe w'=>e=.returned (.string ⟨(Lib.trimB s.data.toList c).toArray⟩)/\(w'=w\/w'=w.drew):=Any.strings_Trim_one Tryz.lays160 s c hc w hs
def Tryz.lays125_ren:Go.Shelf.Ren:=⟨fun|125=>120|128=>162|129=>163|n=>n,fun|46=>208|3=>3|51=>264|53=>266|4=>4|5=>5|9=>9|n=>n,fun|n=>n⟩
theorem Tryz.lays125:Go.Proofs.Lays.n125 Tryz.prog Tryz.lays125_ren:={
 mixed:=by kernel_rfl
 f125:=Tryz.func120.trans (congrArg some (by kernel_rfl))
 f128:=Tryz.func162.trans (congrArg some (by kernel_rfl))
 f129:=Tryz.func163.trans (congrArg some (by kernel_rfl))
 t3:=Tryz.underlying3
 a3:=Tryz.isAgg3
 z3:=Tryz.sizeOf3
 v3:=Tryz.zeroValue3
 t4:=Tryz.underlying4
 a4:=Tryz.isAgg4
 z4:=Tryz.sizeOf4
 v4:=Tryz.zeroValue4
 t5:=Tryz.underlying5
 a5:=Tryz.isAgg5
 z5:=Tryz.sizeOf5
 v5:=Tryz.zeroValue5
 t9:=Tryz.underlying9
 a9:=Tryz.isAgg9
 z9:=Tryz.sizeOf9
 v9:=Tryz.zeroValue9
 t46:=Tryz.underlying208
 a46:=Tryz.isAgg208
 z46:=Tryz.sizeOf208
 v46:=Tryz.zeroValue208
 t51:=Tryz.underlying264
 a51:=Tryz.isAgg264
 z51:=Tryz.sizeOf264
 v51:=Tryz.zeroValue264
 t53:=Tryz.underlying266
 a53:=Tryz.isAgg266
 z53:=Tryz.sizeOf266
 v53:=Tryz.zeroValue266 }
theorem Tryz.bits_Len (x:Int) (w:World) (h0:0<=x) (h1:x<=18446744073709551615) :
 Calls Tryz.prog 120 #[.int .u64 x] w λe w'=>e=.returned (.int .i64 (Lib.bitLen x.toNat))/\w'=w:=Any.bits_Len Tryz.lays125 x w h0 h1
def Tryz.laysM171_ren:Go.Shelf.Ren:=⟨fun|171=>86|243=>132|246=>187|283=>225|284=>226|285=>227|286=>228|129=>163|317=>246|318=>247|319=>248|320=>249|337=>259|338=>260|n=>n,fun|3=>3|9=>9|2=>2|4=>4|171=>316|0=>0|53=>266|37=>150|5=>5|173=>318|212=>332|51=>264|20=>20|213=>333|46=>208|232=>348|233=>349|n=>n,fun|17=>4|18=>7|19=>8|n=>n⟩
theorem Tryz.laysM171:Go.Proofs.LaysM.n171 Tryz.prog Tryz.laysM171_ren:={
 mixed:=by kernel_rfl
 f129:=Tryz.func163.trans (congrArg some (by kernel_rfl))
 f171:=Tryz.func86.trans (congrArg some (by kernel_rfl))
 f243:=Tryz.func132.trans (congrArg some (by kernel_rfl))
 f246:=Tryz.func187.trans (congrArg some (by kernel_rfl))
 f283:=Tryz.func225.trans (congrArg some (by kernel_rfl))
 f284:=Tryz.func226.trans (congrArg some (by kernel_rfl))
 f285:=Tryz.func227.trans (congrArg some (by kernel_rfl))
 f286:=Tryz.func228.trans (congrArg some (by kernel_rfl))
 f317:=Tryz.func246.trans (congrArg some (by kernel_rfl))
 f318:=Tryz.func247.trans (congrArg some (by kernel_rfl))
 f319:=Tryz.func248.trans (congrArg some (by kernel_rfl))
 f320:=Tryz.func249.trans (congrArg some (by kernel_rfl))
 f337:=Tryz.func259.trans (congrArg some (by kernel_rfl))
 f338:=Tryz.func260.trans (congrArg some (by kernel_rfl))
 t0:=Tryz.underlying0
 a0:=Tryz.isAgg0
 z0:=Tryz.sizeOf0
 v0:=Tryz.zeroValue0
 t2:=Tryz.underlying2
 a2:=Tryz.isAgg2
 z2:=Tryz.sizeOf2
 v2:=Tryz.zeroValue2
 t3:=Tryz.underlying3
 a3:=Tryz.isAgg3
 z3:=Tryz.sizeOf3
 v3:=Tryz.zeroValue3
 t4:=Tryz.underlying4
 a4:=Tryz.isAgg4
 z4:=Tryz.sizeOf4
 v4:=Tryz.zeroValue4
 t5:=Tryz.underlying5
 a5:=Tryz.isAgg5
 z5:=Tryz.sizeOf5
 v5:=Tryz.zeroValue5
 t9:=Tryz.underlying9
 a9:=Tryz.isAgg9
 z9:=Tryz.sizeOf9
 v9:=Tryz.zeroValue9
 t20:=Tryz.underlying20
 a20:=Tryz.isAgg20
 z20:=Tryz.sizeOf20
 v20:=Tryz.zeroValue20
 t37:=Tryz.underlying150
 a37:=Tryz.isAgg150
 z37:=Tryz.sizeOf150
 v37:=Tryz.zeroValue150
 t46:=Tryz.underlying208
 a46:=Tryz.isAgg208
 z46:=Tryz.sizeOf208
 v46:=Tryz.zeroValue208
 t51:=Tryz.underlying264
 a51:=Tryz.isAgg264
 z51:=Tryz.sizeOf264
 v51:=Tryz.zeroValue264
 t53:=Tryz.underlying266
 a53:=Tryz.isAgg266
 z53:=Tryz.sizeOf266
 v53:=Tryz.zeroValue266
 t171:=Tryz.underlying316
 a171:=Tryz.isAgg316
 z171:=Tryz.sizeOf316
 v171:=Tryz.zeroValue316
 t173:=Tryz.underlying318
 a173:=Tryz.isAgg318
 z173:=Tryz.sizeOf318
 v173:=Tryz.zeroValue318
 t212:=Tryz.underlying332
 a212:=Tryz.isAgg332
 z212:=Tryz.sizeOf332
 v212:=Tryz.zeroValue332
 t213:=Tryz.underlying333
 a213:=Tryz.isAgg333
 z213:=Tryz.sizeOf333
 t232:=Tryz.underlying348
 a232:=Tryz.isAgg348
 z232:=Tryz.sizeOf348
 v232:=Tryz.zeroValue348
 t233:=Tryz.underlying349
 a233:=Tryz.isAgg349
 z233:=Tryz.sizeOf349
 v233:=Tryz.zeroValue349
 g17:=by kernel_rfl
 g18:=by kernel_rfl
 g19:=by kernel_rfl
 i0:=by kernel_rfl
 i2:=by kernel_rfl
 i3:=by kernel_rfl
 i4:=by kernel_rfl
 i5:=by kernel_rfl
 i9:=by kernel_rfl
 i20:=by kernel_rfl
 i37:=by kernel_rfl
 i46:=by kernel_rfl
 i51:=by kernel_rfl
 i53:=by kernel_rfl
 i171:=by kernel_rfl
 i173:=by kernel_rfl
 i212:=by kernel_rfl
 i232:=by kernel_rfl
 i233:=by kernel_rfl
 m17:=by kernel_rfl
 m18:=by kernel_rfl
 m19:=by kernel_rfl }
open Go.RowKit Go.Sort Go.Lib in
theorem Tryz.strconv_Itoa (n:Int) (h0:-9223372036854775808<=n) (h1:n<=9223372036854775807) (w:World) (htab:Lib.TabIs Tryz.prog w "internal/strconv.uint64pow10" .u64 Lib.pow10Tab) :
 Calls Tryz.prog 86 #[.int .i64 n] w λe w'=>e=.returned (.string ⟨(Lib.itoa n).toArray⟩)/\∃k os,w'=grow (w.drewN k) os:=Any.strconv_Itoa Tryz.laysM171 n h0 h1 w htab
def Tryz.laysC172_ren:Go.Shelf.Ren:=⟨fun|172=>245|244=>257|245=>258|247=>262|279=>263|280=>264|281=>265|282=>266|287=>267|316=>268|171=>86|205=>269|321=>270|322=>271|243=>132|246=>187|283=>225|284=>226|285=>227|286=>228|129=>163|317=>246|318=>247|319=>248|320=>249|337=>259|338=>260|n=>n,fun|9=>9|3=>3|75=>155|76=>156|4=>4|5=>5|167=>342|37=>150|0=>0|85=>343|2=>2|168=>345|53=>266|175=>350|46=>208|210=>354|127=>221|145=>360|143=>358|21=>21|171=>316|173=>318|212=>332|51=>264|20=>20|213=>333|232=>348|233=>349|80=>165|n=>n,fun|15=>9|16=>10|17=>4|18=>7|19=>8|n=>n⟩
theorem Tryz.laysC172:Go.Proofs.LaysC.n172 Tryz.prog Tryz.laysC172_ren:={
 mixed:=by kernel_rfl
 f129:=Tryz.func163.trans (congrArg some (by kernel_rfl))
 f171:=Tryz.func86.trans (congrArg some (by kernel_rfl))
 f172:=Tryz.func245.trans (congrArg some (by kernel_rfl))
 f205:=Tryz.func269.trans (congrArg some (by kernel_rfl))
 f243:=Tryz.func132.trans (congrArg some (by kernel_rfl))
 f244:=Tryz.func257.trans (congrArg some (by kernel_rfl))
 f245:=Tryz.func258.trans (congrArg some (by kernel_rfl))
 f246:=Tryz.func187.trans (congrArg some (by kernel_rfl))
 f247:=Tryz.func262.trans (congrArg some (by kernel_rfl))
 f279:=Tryz.func263.trans (congrArg some (by kernel_rfl))
 f280:=Tryz.func264.trans (congrArg some (by kernel_rfl))
 f281:=Tryz.func265.trans (congrArg some (by kernel_rfl))
 f282:=Tryz.func266.trans (congrArg some (by kernel_rfl))
 f283:=Tryz.func225.trans (congrArg some (by kernel_rfl))
 f284:=Tryz.func226.trans (congrArg some (by kernel_rfl))
 f285:=Tryz.func227.trans (congrArg some (by kernel_rfl))
 f286:=Tryz.func228.trans (congrArg some (by kernel_rfl))
 f287:=Tryz.func267.trans (congrArg some (by kernel_rfl))
 f316:=Tryz.func268.trans (congrArg some (by kernel_rfl))
 f317:=Tryz.func246.trans (congrArg some (by kernel_rfl))
 f318:=Tryz.func247.trans (congrArg some (by kernel_rfl))
 f319:=Tryz.func248.trans (congrArg some (by kernel_rfl))
 f320:=Tryz.func249.trans (congrArg some (by kernel_rfl))
 f321:=Tryz.func270.trans (congrArg some (by kernel_rfl))
 f322:=Tryz.func271.trans (congrArg some (by kernel_rfl))
 f337:=Tryz.func259.trans (congrArg some (by kernel_rfl))
 f338:=Tryz.func260.trans (congrArg some (by kernel_rfl))
 t0:=Tryz.underlying0
 a0:=Tryz.isAgg0
 z0:=Tryz.sizeOf0
 v0:=Tryz.zeroValue0
 t2:=Tryz.underlying2
 a2:=Tryz.isAgg2
 z2:=Tryz.sizeOf2
 v2:=Tryz.zeroValue2
 t3:=Tryz.underlying3
 a3:=Tryz.isAgg3
 z3:=Tryz.sizeOf3
 v3:=Tryz.zeroValue3
 t4:=Tryz.underlying4
 a4:=Tryz.isAgg4
 z4:=Tryz.sizeOf4
 v4:=Tryz.zeroValue4
 t5:=Tryz.underlying5
 a5:=Tryz.isAgg5
 z5:=Tryz.sizeOf5
 v5:=Tryz.zeroValue5
 t9:=Tryz.underlying9
 a9:=Tryz.isAgg9
 z9:=Tryz.sizeOf9
 v9:=Tryz.zeroValue9
 t20:=Tryz.underlying20
 a20:=Tryz.isAgg20
 z20:=Tryz.sizeOf20
 v20:=Tryz.zeroValue20
 t21:=Tryz.underlying21
 a21:=Tryz.isAgg21
 z21:=Tryz.sizeOf21
 v21:=Tryz.zeroValue21
 t37:=Tryz.underlying150
 a37:=Tryz.isAgg150
 z37:=Tryz.sizeOf150
 v37:=Tryz.zeroValue150
 t46:=Tryz.underlying208
 a46:=Tryz.isAgg208
 z46:=Tryz.sizeOf208
 v46:=Tryz.zeroValue208
 t51:=Tryz.underlying264
 a51:=Tryz.isAgg264
 z51:=Tryz.sizeOf264
 v51:=Tryz.zeroValue264
 t53:=Tryz.underlying266
 a53:=Tryz.isAgg266
 z53:=Tryz.sizeOf266
 v53:=Tryz.zeroValue266
 t75:=Tryz.underlying155
 a75:=Tryz.isAgg155
 z75:=Tryz.sizeOf155
 v75:=Tryz.zeroValue155
 t76:=Tryz.underlying156
 a76:=Tryz.isAgg156
 z76:=Tryz.sizeOf156
 v76:=Tryz.zeroValue156
 t85:=Tryz.underlying343
 a85:=Tryz.isAgg343
 z85:=Tryz.sizeOf343
 v85:=Tryz.zeroValue343
 t127:=Tryz.underlying221
 a127:=Tryz.isAgg221
 z127:=Tryz.sizeOf221
 v127:=Tryz.zeroValue221
 t143:=Tryz.underlying358
 a143:=Tryz.isAgg358
 z143:=Tryz.sizeOf358
 v143:=Tryz.zeroValue358
 t145:=Tryz.underlying360
 a145:=Tryz.isAgg360
 z145:=Tryz.sizeOf360
 v145:=Tryz.zeroValue360
 t167:=Tryz.underlying342
 a167:=Tryz.isAgg342
 z167:=Tryz.sizeOf342
 v167:=Tryz.zeroValue342
 t168:=Tryz.underlying345
 a168:=Tryz.isAgg345
 z168:=Tryz.sizeOf345
 v168:=Tryz.zeroValue345
 t171:=Tryz.underlying316
 a171:=Tryz.isAgg316
 z171:=Tryz.sizeOf316
 v171:=Tryz.zeroValue316
 t173:=Tryz.underlying318
 a173:=Tryz.isAgg318
 z173:=Tryz.sizeOf318
 v173:=Tryz.zeroValue318
 t175:=Tryz.underlying350
 a175:=Tryz.isAgg350
 z175:=Tryz.sizeOf350
 v175:=Tryz.zeroValue350
 t210:=Tryz.underlying354
 a210:=Tryz.isAgg354
 z210:=Tryz.sizeOf354
 v210:=Tryz.zeroValue354
 t212:=Tryz.underlying332
 a212:=Tryz.isAgg332
 z212:=Tryz.sizeOf332
 v212:=Tryz.zeroValue332
 t213:=Tryz.underlying333
 a213:=Tryz.isAgg333
 z213:=Tryz.sizeOf333
 t232:=Tryz.underlying348
 a232:=Tryz.isAgg348
 z232:=Tryz.sizeOf348
 v232:=Tryz.zeroValue348
 t233:=Tryz.underlying349
 a233:=Tryz.isAgg349
 z233:=Tryz.sizeOf349
 v233:=Tryz.zeroValue349
 g15:=by kernel_rfl
 g16:=by kernel_rfl
 g17:=by kernel_rfl
 g18:=by kernel_rfl
 g19:=by kernel_rfl
 t80:=Tryz.underlying165
 a80:=Tryz.isAgg165
 z80:=Tryz.sizeOf165
 v80:=Tryz.zeroValue165
 i0:=by kernel_rfl
 i2:=by kernel_rfl
 i3:=by kernel_rfl
 i4:=by kernel_rfl
 i5:=by kernel_rfl
 i9:=by kernel_rfl
 i20:=by kernel_rfl
 i21:=by kernel_rfl
 i37:=by kernel_rfl
 i46:=by kernel_rfl
 i51:=by kernel_rfl
 i53:=by kernel_rfl
 i75:=by kernel_rfl
 i76:=by kernel_rfl
 i80:=by kernel_rfl
 i85:=by kernel_rfl
 i127:=by kernel_rfl
 i143:=by kernel_rfl
 i145:=by kernel_rfl
 i167:=by kernel_rfl
 i168:=by kernel_rfl
 i171:=by kernel_rfl
 i173:=by kernel_rfl
 i175:=by kernel_rfl
 i210:=by kernel_rfl
 i212:=by kernel_rfl
 i232:=by kernel_rfl
 i233:=by kernel_rfl
 m15:=by kernel_rfl
 m16:=by kernel_rfl
 m17:=by kernel_rfl
 m18:=by kernel_rfl
 m19:=by kernel_rfl
 c0:=by kernel_rfl
 c2:=by kernel_rfl
 c3:=by kernel_rfl
 c4:=by kernel_rfl
 c5:=by kernel_rfl
 c9:=by kernel_rfl
 c20:=by kernel_rfl
 c21:=by kernel_rfl
 c37:=by kernel_rfl
 c46:=by kernel_rfl
 c51:=by kernel_rfl
 c53:=by kernel_rfl
 c75:=by kernel_rfl
 c76:=by kernel_rfl
 c80:=by kernel_rfl
 c85:=by kernel_rfl
 c127:=by kernel_rfl
 c143:=by kernel_rfl
 c145:=by kernel_rfl
 c167:=by kernel_rfl
 c168:=by kernel_rfl
 c171:=by kernel_rfl
 c173:=by kernel_rfl
 c175:=by kernel_rfl
 c210:=by kernel_rfl
 c212:=by kernel_rfl
 c213:=by kernel_rfl
 c232:=by kernel_rfl
 c233:=by kernel_rfl }
open Go.RowKit in
theorem Tryz.strconv_Atoi_ok (s:ByteArray) (hmax:s.size<=9223372036854775806) (v:Int) (h:Lib.atoiAll s.data.toList=.ok v) (w:World) :
 Calls Tryz.prog 245 #[.string s] w λe w'=>e=.returned (.tuple #[.int .i64 v,.nilIface])/\(w'=w\/∃t,w'=Lib.bytesWorld w 5 t):=Any.strconv_Atoi_ok Tryz.laysC172 s hmax v h w
open Go.RowKit in
theorem Tryz.strconv_Atoi_syntax (s:ByteArray) (hlim:s.size<=281474976710656) (h:Lib.atoiAll s.data.toList=Lib.atoiAll []) (ev:Value) (w:World) (hv:w.cell? ⟨9,0,none⟩=some ev) (hev:ev=.nilIface\/∃te pe,ev=.iface te pe) :
 Calls Tryz.prog 245 #[.string s] w λe w'=>∃N,e=.returned (.tuple #[.int .i64 (0),.iface 345 (.pointer (some ⟨N,0,none⟩))])/\w.heap.size<=N/\w'.heap[N]?=some (.cells #[.string ⟨#[65,116,111,105]⟩,.string s,ev] 354 (0,0))/\Below w.heap.size w w':=Any.strconv_Atoi_syntax Tryz.laysC172 s hlim h ev w hv hev
open Go.RowKit in
theorem Tryz.strconv_Atoi_range (s:ByteArray) (hlim:s.size<=281474976710656) (h:Lib.atoiAll s.data.toList=.range) (ev:Value) (w:World) (hv:w.cell? ⟨10,0,none⟩=some ev) (hev:ev=.nilIface\/∃te pe,ev=.iface te pe) :
 Calls Tryz.prog 245 #[.string s] w λe w'=>∃N,e=.returned (.tuple #[.int .i64 (Lib.atoiSat s.data.toList),.iface 345 (.pointer (some ⟨N,0,none⟩))])/\w.heap.size<=N/\w'.heap[N]?=some (.cells #[.string ⟨#[65,116,111,105]⟩,.string s,ev] 354 (0,0))/\Below w.heap.size w w':=Any.strconv_Atoi_range Tryz.laysC172 s hlim h ev w hv hev
def Tryz.lays145_ren:Go.Shelf.Ren:=⟨fun|145=>126|220=>175|219=>215|217=>238|225=>239|224=>240|267=>241|266=>253|314=>254|n=>n,fun|9=>9|4=>4|59=>214|3=>3|5=>5|46=>208|146=>334|51=>264|n=>n,fun|1=>3|n=>n⟩
theorem Tryz.lays145:Go.Proofs.Lays.n145 Tryz.prog Tryz.lays145_ren:={
 mixed:=by kernel_rfl
 f145:=Tryz.func126.trans (congrArg some (by kernel_rfl))
 f217:=Tryz.func238.trans (congrArg some (by kernel_rfl))
 f219:=Tryz.func215.trans (congrArg some (by kernel_rfl))
 f220:=Tryz.func175.trans (congrArg some (by kernel_rfl))
 f224:=Tryz.func240.trans (congrArg some (by kernel_rfl))
 f225:=Tryz.func239.trans (congrArg some (by kernel_rfl))
 f266:=Tryz.func253.trans (congrArg some (by kernel_rfl))
 f267:=Tryz.func241.trans (congrArg some (by kernel_rfl))
 f314:=Tryz.func254.trans (congrArg some (by kernel_rfl))
 t3:=Tryz.underlying3
 a3:=Tryz.isAgg3
 z3:=Tryz.sizeOf3
 v3:=Tryz.zeroValue3
 t4:=Tryz.underlying4
 a4:=Tryz.isAgg4
 z4:=Tryz.sizeOf4
 v4:=Tryz.zeroValue4
 t5:=Tryz.underlying5
 a5:=Tryz.isAgg5
 z5:=Tryz.sizeOf5
 v5:=Tryz.zeroValue5
 t9:=Tryz.underlying9
 a9:=Tryz.isAgg9
 z9:=Tryz.sizeOf9
 v9:=Tryz.zeroValue9
 t46:=Tryz.underlying208
 a46:=Tryz.isAgg208
 z46:=Tryz.sizeOf208
 v46:=Tryz.zeroValue208
 t51:=Tryz.underlying264
 a51:=Tryz.isAgg264
 z51:=Tryz.sizeOf264
 v51:=Tryz.zeroValue264
 t59:=Tryz.underlying214
 a59:=Tryz.isAgg214
 z59:=Tryz.sizeOf214
 v59:=Tryz.zeroValue214
 t146:=Tryz.underlying334
 a146:=Tryz.isAgg334
 z146:=Tryz.sizeOf334
 v146:=Tryz.zeroValue334
 g1:=by kernel_rfl }
open Go.RowKit Go.Lib in
theorem Tryz.strings_Cut (s sep:ByteArray) (m:Int) (w:World) (hs:s.size<4294967281) (hm:w.cell? ⟨3,0,none⟩=some (.int .i64 m)) :
 Calls Tryz.prog 126 #[.string s,.string sep] w λe w'=>e=.returned (.tuple #[.string ⟨(Lib.cut s.data.toList sep.data.toList).1.toArray⟩,.string ⟨(Lib.cut s.data.toList sep.data.toList).2.1.toArray⟩,.bool (Lib.cut s.data.toList sep.data.toList).2.2])/\∃n,w'=w.drewN n:=Any.strings_Cut Tryz.lays145 s sep m w hs hm
def Tryz.lays146_ren:Go.Shelf.Ren:=⟨fun|146=>125|221=>174|268=>212|138=>213|143=>214|195=>236|197=>217|218=>237|219=>215|260=>242|217=>238|225=>239|224=>240|267=>241|266=>253|314=>254|n=>n,fun|9=>9|31=>153|3=>3|4=>4|0=>0|105=>306|21=>21|5=>5|46=>208|119=>336|139=>339|138=>338|146=>334|51=>264|n=>n,fun|1=>3|3=>5|4=>6|n=>n⟩
theorem Tryz.lays146:Go.Proofs.Lays.n146 Tryz.prog Tryz.lays146_ren:={
 mixed:=by kernel_rfl
 f138:=Tryz.func213.trans (congrArg some (by kernel_rfl))
 f143:=Tryz.func214.trans (congrArg some (by kernel_rfl))
 f146:=Tryz.func125.trans (congrArg some (by kernel_rfl))
 f195:=Tryz.func236.trans (congrArg some (by kernel_rfl))
 f197:=Tryz.func217.trans (congrArg some (by kernel_rfl))
 f217:=Tryz.func238.trans (congrArg some (by kernel_rfl))
 f218:=Tryz.func237.trans (congrArg some (by kernel_rfl))
 f219:=Tryz.func215.trans (congrArg some (by kernel_rfl))
 f221:=Tryz.func174.trans (congrArg some (by kernel_rfl))
 f224:=Tryz.func240.trans (congrArg some (by kernel_rfl))
 f225:=Tryz.func239.trans (congrArg some (by kernel_rfl))
 f260:=Tryz.func242.trans (congrArg some (by kernel_rfl))
 f266:=Tryz.func253.trans (congrArg some (by kernel_rfl))
 f267:=Tryz.func241.trans (congrArg some (by kernel_rfl))
 f268:=Tryz.func212.trans (congrArg some (by kernel_rfl))
 f314:=Tryz.func254.trans (congrArg some (by kernel_rfl))
 t0:=Tryz.underlying0
 a0:=Tryz.isAgg0
 z0:=Tryz.sizeOf0
 v0:=Tryz.zeroValue0
 t3:=Tryz.underlying3
 a3:=Tryz.isAgg3
 z3:=Tryz.sizeOf3
 v3:=Tryz.zeroValue3
 t4:=Tryz.underlying4
 a4:=Tryz.isAgg4
 z4:=Tryz.sizeOf4
 v4:=Tryz.zeroValue4
 t5:=Tryz.underlying5
 a5:=Tryz.isAgg5
 z5:=Tryz.sizeOf5
 v5:=Tryz.zeroValue5
 t9:=Tryz.underlying9
 a9:=Tryz.isAgg9
 z9:=Tryz.sizeOf9
 v9:=Tryz.zeroValue9
 t21:=Tryz.underlying21
 a21:=Tryz.isAgg21
 z21:=Tryz.sizeOf21
 v21:=Tryz.zeroValue21
 t31:=Tryz.underlying153
 a31:=Tryz.isAgg153
 z31:=Tryz.sizeOf153
 v31:=Tryz.zeroValue153
 t46:=Tryz.underlying208
 a46:=Tryz.isAgg208
 z46:=Tryz.sizeOf208
 v46:=Tryz.zeroValue208
 t51:=Tryz.underlying264
 a51:=Tryz.isAgg264
 z51:=Tryz.sizeOf264
 v51:=Tryz.zeroValue264
 t105:=Tryz.underlying306
 a105:=Tryz.isAgg306
 z105:=Tryz.sizeOf306
 v105:=Tryz.zeroValue306
 t119:=Tryz.underlying336
 a119:=Tryz.isAgg336
 z119:=Tryz.sizeOf336
 t138:=Tryz.underlying338
 a138:=Tryz.isAgg338
 z138:=Tryz.sizeOf338
 v138:=Tryz.zeroValue338
 t139:=Tryz.underlying339
 a139:=Tryz.isAgg339
 z139:=Tryz.sizeOf339
 v139:=Tryz.zeroValue339
 t146:=Tryz.underlying334
 a146:=Tryz.isAgg334
 z146:=Tryz.sizeOf334
 v146:=Tryz.zeroValue334
 g1:=by kernel_rfl
 g3:=by kernel_rfl
 g4:=by kernel_rfl }
open Go.RowKit Go.Lib in
theorem Tryz.strings_Split (s sep:ByteArray) (m:Int) (w:World) (hs:s.size<4294967281) (hm:w.cell? ⟨3,0,none⟩=some (.int .i64 m)) (h1:1<=sep.size) :
 Calls Tryz.prog 125 #[.string s,.string sep] w λe w'=>
  e=.returned (.slice (some ⟨w.heap.size,0,none⟩) (Lib.countB s sep+1) (Lib.countB s sep+1))/\w'=w.alloc (.cells ((Lib.splitB sep 0 (Lib.countB s sep) s).map Value.string).toArray 9):=Any.strings_Split Tryz.lays146 (by kernel_rfl) s sep m w hs hm h1
end Go.Proofs
namespace Go.Proofs.YtpgdchkdlgkmgaaGreatDoor
open Go.Lw _root_.Go.Proofs.Tryz
theorem u7o:CallOf prog 86:=mkC func86
theorem j2k {w w':World} {name:String} {k:IntKind} {zs:List Int} {S:List Nat} (h:Lib.TabIs prog w name k zs) (hf:Fr S w w') (hS:∀g,prog.globalNamed name=some g->g∉S):Lib.TabIs prog w' name k zs:=by
 unfold Lib.TabIs World.var? at *
 cases hg:prog.globalNamed name with
 | none=>simp [hg] at h
 | some g=>
  simp only [hg,Option.bind_some] at h ⊢
  have hlt:g<w.heap.size:=by
   rcases Nat.lt_or_ge g w.heap.size with h'|h'
   ·exact h'
   rw [Array.getElem?_eq_none h'] at h;simp at h
  rw [hf.block g hlt (hS g hg)]
  exact h
theorem gPow:prog.globalNamed "internal/strconv.uint64pow10" =some 4:=by kernel_rfl
structure Glob (w:World):Prop where
  wd:Cells w ⟨1,0,none⟩ (z7z.map S)
  dr:Cells w ⟨2,0,none⟩ (x0c.map S)
  ml:IntAt 3 w
  tab:Lib.TabIs prog w "internal/strconv.uint64pow10" .u64 Lib.pow10Tab
  es:∃te pe,w.cell? ⟨9,0,none⟩=some (.iface te pe)
  er:∃te pe,w.cell? ⟨10,0,none⟩=some (.iface te pe)
  sz:11<=w.heap.size
theorem Glob.fr {w w':World} {S:List Nat} (h:Glob w) (hf:Fr S w w') (hS:∀k∈S,11<=k):Glob w':=by
 have hn:∀g,g<11->g∉S:=λg hg e=>by have:=hS g e;omega
 exact ⟨h.wd.fr hf (hn _ (by decide)),h.dr.fr hf (hn _ (by decide)),h.ml.fr hf (hn _ (by decide)),j2k h.tab hf (λg hg=>by rw [gPow] at hg;cases hg;exact hn _ (by decide)),let ⟨a,b,e⟩:=h.es;⟨a,b,hf.cell e (hn _ (by decide))⟩,let ⟨a,b,e⟩:=h.er;⟨a,b,hf.cell e (hn _ (by decide))⟩,Nat.le_trans h.sz hf.size⟩
theorem Glob.ext {w w':World} (h:Glob w) (hf:Fr [] w w'):Glob w':=h.fr hf (by simp)
theorem v1j (w:World) (k:Nat) (l:Array Obj):Fr [] w (Sort.grow (w.drewN k) l):=
 (Fr.drewN [] w k).next ⟨rfl,rfl,rfl,by simp [Sort.grow],λk hk _=>by simp only [Sort.grow];exact Array.getElem?_append_left hk⟩
theorem y6y (n:Int) (w0:World) (hG:Glob w0) (h:-99<=n/\n<=99):Rets prog 86 #[.int .i64 n] w0 λv w'=>v=S (x2y n)/\Fr [] w0 w':=by
 refine Calls.mono (strconv_Itoa n (by omega) (by omega) w0 hG.tab) ?_
 rintro e w' ⟨rfl,k,os,rfl⟩
 exact ⟨_,rfl,by rw [u7f h];rfl,v1j _ _ _⟩
theorem y7u (b p:Int) (w0:World) (hG:Glob w0):Rets prog 223 #[.agg #[.int .u8 b,.int .i64 p]] w0 λv w'=>v=S (v2w b p)/\Fr [] w0 w':=by
 have hGs:=hG.sz
 refine we [(0,.agg #[.int .u8 b,.int .i64 p])] func223 rfl ntmps223 rfl (.cons rfl .nil) (sr (bx rfl rfl rfl (λg1 w1 hg1 hb1 q1 z1=>(asg rfl (nn (sq (sr (z0n rfl hb1 z4v (cl (ev1 rfl) v9e (z4k _ _ _) rfl ?_)))))))))
 rintro _ w2 ⟨rfl,q2⟩
 refine ne' rfl rfl (nn (cd rfl (λc0=>?_) (λc0=>?_)))
 ·refine sr (asg rfl (nn (rt (tr (r1 results223 rfl ?_)))))
  exact ⟨_,rfl,by rw [v2w,if_pos c0]<;>rfl,(q1.n1 q2)⟩
 have hr:=x5j.1 (Classical.not_not.1 c0)
 refine sk (tn (sq (sr (fad rfl z6e ?_))))
 replace hb1:=hb1.ext q2
 refine z0i rfl hb1 rfl x4n (eq' rfl rfl (nn (cd rfl (λc1=>?_) (λc1=>?_))))
 ·refine sr (fad rfl z6i (z0i rfl hb1 rfl na3 ?_))
  replace hG:=hG.ext (q1.n1 q2)
  refine cl (ev1 rfl) u7o (y6y _ _ hG (by omega)) rfl ?_
  rintro _ w3 ⟨rfl,q3⟩
  refine y5z rfl rfl (by have:=y4f p;simp;omega) rfl (asg rfl (kpL [(2,_)] (.cons rfl .nil) (nn (rt (tr (r1 results223 rfl ?_))))))
  exact ⟨_,rfl,by rw [v2w,if_neg c0,if_pos c1]<;>rfl,(q1.n2 q2 q3)⟩
 refine sk (tn (sr (fad rfl z6i (z0i rfl hb1 rfl na3 ?_))))
 replace hG:=hG.ext (q1.n1 q2)
 refine cl (ev1 rfl) u7o (y6y _ _ hG (by omega)) rfl ?_
 rintro _ w4 ⟨rfl,q4⟩
 refine y5z rfl rfl (by have:=y4f p;simp;omega) rfl (asg rfl (kpL [(2,_)] (.cons rfl .nil) (nn (rt (r1 results223 rfl ?_)))))
 exact ⟨_,rfl,by rw [v2w,if_neg c0,if_neg c1]<;>rfl,(q1.n2 q2 q4)⟩
theorem x5u (v:Value) (ys:List (List UInt8)) (sep:List UInt8) (base T:Nat) (w0:World) (hO:Lw.Own Enc.str T base w0 v ys) (hne:ys≠[]) (hl:(Lib.join ys sep).length<=1000000) (hl2:ys.length<=1000000):Rets prog 82 #[v,S sep] w0 λr w'=>r=S (Lib.join ys sep)/\Fr [] w0 w':=by
 rcases hO with ⟨_,e⟩|⟨g,cap,cur,rfl,hb,hg,h1,h2,h3,h4⟩
 ·exact absurd e hne
 have hm:(ys.map (λy=>(⟨y.toArray⟩:ByteArray))).map (·.data.toList)=ys:=by rw [List.map_map];simp [Function.comp_def]
 have hO:Lw.Own Enc.str T base w0 (.slice (some ⟨g,0,none⟩) ys.length cap) ys:=.inr ⟨g,cap,cur,rfl,hb,hg,h1,h2,h3,h4⟩
 have hj:=strings_Join g 0 cap (ys.map (λy=>(⟨y.toArray⟩:ByteArray))) ⟨sep.toArray⟩ w0 (λj x hx=>by
  rw [List.getElem?_map,Option.map_eq_some_iff] at hx
  obtain ⟨y,hy,rfl⟩:=hx
  obtain ⟨A,c,e,_,_,hA⟩:=hO.sl
  cases e
  obtain ⟨ad,e1,hc⟩:=hA j y hy
  cases e1
  have:=hc 0 (S y) rfl
  rw [z3l,z3l,Nat.add_zero,show Enc.str.sz=1 from rfl,Nat.mul_one] at this
  exact this) ((Array.getElem?_eq_some_iff.1 hg).1) (by simp;omega) (by simp;omega) (by rw [hm];simp;omega)
 rw [hm,List.length_map] at hj
 refine Calls.mono hj ?_
 rintro e w' ⟨rfl,hb⟩
 exact ⟨_,rfl,by simp [S],Fr.of_below hb⟩
theorem v8k (w:World) (t:ByteArray):Fr [] w (Lib.bytesWorld w 5 t):=Fr.of_below (Lib.bytesWorld_below w 5 t)
theorem u4v (l:List UInt8) (w0:World) (hG:Glob w0) (hl:l.length<=1000000):Rets prog 245 #[S l] w0 λr w'=>∃n e,∃b:Bool,r=.tuple #[.int .i64 n,e]/\(e=.nilIface/\b=false\/(∃t p,e=.iface t p)/\b=true)/\v6g l=(if b=true then 0 else n)/\Fr [] w0 w':=by
 have hs:(⟨l.toArray⟩:ByteArray).size=l.length:=by simp [ByteArray.size]
 rcases h:Lib.atoiAll l with v|_|_
 ·refine Calls.mono (strconv_Atoi_ok ⟨l.toArray⟩ (by omega) v (by simpa using h) w0) ?_
  rintro e w' ⟨rfl,hw⟩
  refine ⟨_,rfl,v,.nilIface,false,rfl,.inl ⟨rfl,rfl⟩,by simp [v6g,h],?_⟩
  rcases hw with rfl|⟨t,rfl⟩
  ·exact Fr.refl _ _
  exact v8k w0 t
 ·obtain ⟨te,pe,he⟩:=hG.es
  refine Calls.mono (strconv_Atoi_syntax ⟨l.toArray⟩ (by omega) (show Lib.atoiAll l=Lib.atoiAll [] from h) _ w0 he (.inr ⟨_,_,rfl⟩)) ?_
  rintro e w' ⟨N,rfl,_,_,hb⟩
  exact ⟨_,rfl,_,_,true,rfl,.inr ⟨⟨_,_,rfl⟩,rfl⟩,by simp [v6g,h],Fr.of_below hb⟩
 obtain ⟨te,pe,he⟩:=hG.er
 refine Calls.mono (strconv_Atoi_range ⟨l.toArray⟩ (by omega) (by simpa using h) _ w0 he (.inr ⟨_,_,rfl⟩)) ?_
 rintro e w' ⟨N,rfl,_,_,hb⟩
 exact ⟨_,rfl,_,_,true,rfl,.inr ⟨⟨_,_,rfl⟩,rfl⟩,by simp [v6g,h],Fr.of_below hb⟩
theorem x6w (l sep:List UInt8) (w0:World) (hG:Glob w0) (hl:l.length<4294967281) (h1:1<=sep.length):Rets prog 125 #[S l,S sep] w0 λr w'=>Lw.Own Enc.str 9 w0.heap.size w' r (Lib.split l sep)/\Fr [] w0 w':=by
 obtain ⟨k,hk⟩:=hG.ml
 have hs:(⟨l.toArray⟩:ByteArray).size=l.length:=by simp [ByteArray.size]
 have hs2:(⟨sep.toArray⟩:ByteArray).size=sep.length:=by simp [ByteArray.size]
 refine Calls.mono (strings_Split ⟨l.toArray⟩ ⟨sep.toArray⟩ k w0 (by omega) hk (by omega)) ?_
 rintro e w' ⟨rfl,rfl⟩
 have hd:=Lib.splitB_data ⟨sep.toArray⟩ 0 (Lib.countB ⟨l.toArray⟩ ⟨sep.toArray⟩) ⟨l.toArray⟩
 have hc:Lib.countB ⟨l.toArray⟩ ⟨sep.toArray⟩=Lib.count l sep:=by simp [Lib.countB]
 have hn:=Lib.splitB_all ⟨sep.toArray⟩ (by omega) 0 _ ⟨l.toArray⟩ rfl
 have hcl:=Lib.countB_le ⟨sep.toArray⟩ (by omega) _ ⟨l.toArray⟩ (Nat.le_refl _)
 rw [hs] at hcl
 have he:Lib.split l sep=(Lib.splitB ⟨sep.toArray⟩ 0 (Lib.countB ⟨l.toArray⟩ ⟨sep.toArray⟩) ⟨l.toArray⟩).map (·.data.toList):=by rw [hd,hc];rfl
 have hz:∀zs:List ByteArray,zs.map Value.string=(zs.map (·.data.toList)).flatMap Enc.str.enc:=λzs=>by
  induction zs with
  | nil=>rfl
  | cons z zs ih=>rw [List.map_cons,List.map_cons,List.flatMap_cons,<-ih];rfl
 refine ⟨_,rfl,.inr ⟨w0.heap.size,Lib.countB ⟨l.toArray⟩ ⟨sep.toArray⟩+1,_,by rw [he,List.length_map,hn],Nat.le_refl _,heap_alloc_new w0 _,by rw [he,List.length_map,hn];exact Nat.le_refl _,by unfold maxLen;omega,?_,?_⟩,Fr.alloc [] w0 _⟩
 ·rw [show Enc.str.sz=1 from rfl,Nat.mul_one,List.size_toArray,List.length_map,hn];exact Nat.le_refl _
 rw [he,List.length_map,hn,show Enc.str.sz=1 from rfl,Nat.mul_one,<-hz]
 exact List.take_of_length_le (by rw [List.length_map,hn];exact Nat.le_refl _)
theorem u6g (l:List UInt8) (w0:World) (hl:l.length<=1000000000):Rets prog 127 #[S l,S [32]] w0 λr w'=>r=S (Lib.trimB l 32)/\Fr [] w0 w':=by
 refine Calls.mono (strings_Trim_one ⟨l.toArray⟩ 32 (by decide) w0 (by simp [ByteArray.size];omega)) ?_
 rintro e w' ⟨rfl,rfl|rfl⟩
 ·exact ⟨_,rfl,by simp [S],Fr.refl _ _⟩
 exact ⟨_,rfl,by simp [S],Fr.drew _ _⟩
theorem u6w (l m:List UInt8) (w0:World) (hG:Glob w0) (hl:l.length<4294967281):Rets prog 126 #[S l,S m] w0 λv w'=>v=.tuple #[S (Lib.cut l m).1,S (Lib.cut l m).2.1,.bool (Lib.cut l m).2.2]/\Fr [] w0 w':=by
 obtain ⟨k,hk⟩:=hG.ml
 refine Calls.mono (strings_Cut ⟨l.toArray⟩ ⟨m.toArray⟩ k w0 (by simpa [ByteArray.size] using hl) hk) ?_
 rintro e w' ⟨rfl,n,rfl⟩
 exact ⟨_,rfl,rfl,Fr.drewN _ _ _⟩
end Go.Proofs.YtpgdchkdlgkmgaaGreatDoor
namespace Go.Lw
theorem y1v {P:Program} {W:World} {n:String} {d:DataW Unit}:∀ {l:List (String×DataW Unit)} {ps:List MemPlace},DataW.LaidVars P W l ps->(n,d)∈l->
    ∃g t cs fuel p,P.globalNamed n=some g/\(P.globals[g]?).map (·.type)=some t/\W.var? P n=some cs/\DataW.trod (λ_=>()) P W 0 (λ_=>true) false fuel t cs.toList=some (d,p)
  | [],_,_,hm=>by simp at hm
  | (m,e)::r,ps,h,hm=>by
    obtain ⟨g,t,cs,fuel,p,q,e1,e2,e3,e4,hr,_⟩:=h
    rcases List.mem_cons.1 hm with e|hm
    · cases e;exact ⟨g,t,cs,fuel,p,e1,e2,e3,e4⟩
    · exact y1v hr hm
theorem y8h {H:Type} {enc:TypeId×Value->H} {P:Program} {w:World} {base:Nat} {sp:Nat->Bool} {held:Bool} {fuel:Nat} {t e:TypeId} {n:Nat} {cs:List Value} {zs:List (List UInt8)} {p:List MemPlace}
    (ht:P.underlying t=some (.array n e)) (he:P.underlying e=some .string) (hce:P.cellsOf e=1) (hct:P.cellsOf t=n)
    (h:DataW.trod enc P w base sp held fuel t cs=some (.agg (zs.map λz=>.lit (.string z)),p)):cs=zs.map S:=by
  cases fuel with
  | zero=>simp [DataW.trod] at h
  | succ fuel=>
    simp only [DataW.trod,ht,hce,hct,Nat.mul_one] at h
    split at h
    · rename_i hl
      obtain ⟨xs,hm,hx⟩:=Option.map_eq_some_iff.1 h
      have hxs:xs.map (·.1)=zs.map λz=>(DataW.lit (.string z):DataW H):=by
        have:=congrArg Prod.fst hx
        simpa using this
      have hxl:xs.length=n:=by simpa using Lib.mapM_length hm
      have hzl:zs.length=n:=by
        have:=congrArg List.length hxs
        simp at this
        omega
      apply List.ext_getElem?
      intro i
      by_cases hi:i<n
      · obtain ⟨b,hb,hf⟩:=Lib.mapM_at hm i i (by simp [hi])
        obtain ⟨s,hc,h2,_⟩:=DataW.trod_string he hf
        have h1:cs[i]?=some (.string s):=by
          have:=congrArg (·[0]?) hc
          simpa [List.getElem?_take,List.getElem?_drop] using this
        have h3:(xs.map (·.1))[i]?=some b.1:=by simp [hb]
        rw [hxs,List.getElem?_map,Option.map_eq_some_iff] at h3
        obtain ⟨z,hz,hz2⟩:=h3
        rw [h2] at hz2
        simp only [DataW.lit.injEq,Lit.string.injEq] at hz2
        rw [h1,List.getElem?_map,hz,hz2]
        simp [S]
      · rw [List.getElem?_eq_none (by omega),List.getElem?_eq_none (by simp;omega)]
    · cases h
theorem v6d {H:Type} {enc:TypeId×Value->H} {P:Program} {w:World} {base:Nat} {sp:Nat->Bool} {held:Bool} {fuel:Nat} {t:TypeId} {ms} {cs:List Value} {nm:String} {d:DataW H} {p:List MemPlace}
    (ht:P.underlying t=some (.interface ms)) (h:DataW.trod enc P w base sp held fuel t cs=some (.iface nm d,p)):∃u v,cs=[.iface u v]:=by
  cases fuel with
  | zero=>simp [DataW.trod] at h
  | succ fuel=>
    simp only [DataW.trod,ht] at h
    split at h<;>simp_all
theorem u8o {P:Program} {W:World} {n:String} {g:Nat} {cs:Array Value} (hg:P.globalNamed n=some g) (h:W.var? P n=some cs):g<W.heap.size:=by
 unfold World.var? at h
 simp only [hg,Option.bind_some] at h
 rcases Nat.lt_or_ge g W.heap.size with h'|h'
 ·exact h'
 rw [Array.getElem?_eq_none h'] at h;simp at h
end Go.Lw
namespace Go.Proofs.YtpgdchkdlgkmgaaGreatDoor
open Go.ChangeShapes Go.WideShapes Go.ChangeAt Go.RowKit Go.Lw
theorem own:ownKnob Tryz.prog.godebug=none:=by kernel_rfl
theorem u3i:laidOutB Tryz.prog=true:=by kernel_rfl
def y2o:List (String×DataW Unit):=[("math/bits.deBruijn32tab",Rows.laid_math_bits_deBruijn32tab),("math/bits.deBruijn64tab",Rows.laid_math_bits_deBruijn64tab),("internal/strconv.uint64pow10",Rows.laid_internal_strconv_uint64pow10),("unicode/utf8.acceptRanges",Rows.laid_unicode_utf8_acceptRanges),("strconv.ErrRange",Rows.laid_strconv_ErrRange),("strconv.ErrSyntax",Rows.laid_strconv_ErrSyntax),("gansey/orders.steps",Rows.laid_gansey_orders_steps),("gansey/operations.words",Rows.laid_gansey_operations_words),("gansey/operations.dirs",Rows.laid_gansey_operations_dirs),("unicode/utf8.first",Rows.laid_unicode_utf8_first)]
theorem v2i {n:String} {zs:List (List UInt8)} {W:World} {l:List (String×DataW Unit)} {ps:List MemPlace} {g t m:Nat} (hL:DataW.LaidVars Tryz.prog W l ps) (hm:(n,.agg (zs.map λz=>.lit (.string z)))∈l) (ht:Tryz.prog.underlying t=some (.array m 9)) (hg:Tryz.prog.globalNamed n=some g:=by kernel_rfl) (hty:(Tryz.prog.globals[g]?).map (·.type)=some t:=by kernel_rfl) (hct:Tryz.prog.cellsOf t=m:=by kernel_rfl):Cells W ⟨g,0,none⟩ (zs.map S):=by
  obtain ⟨g',t',cs,fuel,p,e1,e2,e3,e4⟩:=y1v hL hm
  cases hg.symm.trans e1
  cases hty.symm.trans e2
  have hc:=y8h ht Tryz.underlying9 (by kernel_rfl) hct e4
  intro j u hu
  rw [z3l,Nat.zero_add,World.var?_cell hg e3 j,<-Array.getElem?_toList,hc];exact hu
theorem u0m {n nm:String} {d:DataW Unit} {W:World} {l:List (String×DataW Unit)} {ps:List MemPlace} {g:Nat} (hL:DataW.LaidVars Tryz.prog W l ps) (hm:(n,.iface nm d)∈l) (hg:Tryz.prog.globalNamed n=some g) (hty:(Tryz.prog.globals[g]?).map (·.type)=some 155):∃te pe,W.cell? ⟨g,0,none⟩=some (.iface te pe):=by
 obtain ⟨g',t',cs,fuel,p,e1,e2,e3,e4⟩:=y1v hL hm
 cases hg.symm.trans e1
 cases hty.symm.trans e2
 obtain ⟨u,v,hc⟩:=v6d Tryz.underlying155 e4
 exact ⟨u,v,by rw [World.var?_cell hg e3 0,<-Array.getElem?_toList,hc];rfl⟩
theorem u2l {W:World} (h:laidMetH Tryz.prog y2o W) (hSh:W.ShapedOpen Tryz.prog):Glob W:=by
 have h':laidMet Tryz.prog y2o W:=h
 obtain ⟨ps,hL,_,_⟩:=h'
 refine ⟨?_,?_,(Go.Proofs.cell_of_shapedOpen_int (zero:=#[.int .i64 0]) (t:=3) hSh (of_decide_eq_true (by kernel_rfl)) (by kernel_rfl) rfl (by kernel_rfl) (by kernel_rfl) Tryz.underlying3),?_,?_,?_,?_⟩
 ·exact v2i (zs:=z7z) (n:= "gansey/operations.words") (t:=309) (m:=9) hL (by simp [y2o];rfl) Tryz.underlying309
 ·exact v2i (zs:=x0c) (n:= "gansey/operations.dirs") (t:=313) (m:=2) hL (by simp [y2o];rfl) Tryz.underlying313
 ·obtain ⟨g',t',cs,fuel,p,e1,e2,e3,e4⟩:=y1v (n:= "internal/strconv.uint64pow10") (d:=Rows.laid_internal_strconv_uint64pow10) hL (by simp [y2o])
  cases gPow.symm.trans e1
  cases (show (Tryz.prog.globals[4]?).map (·.type)=some 332 by kernel_rfl).symm.trans e2
  unfold Lib.TabIs
  rw [e3]
  have:=Lib.cells_of_tab (zs:=Lib.pow10Tab) Tryz.underlying332 Tryz.underlying266 (by kernel_rfl) (by kernel_rfl) e4
  rw [<-this]
 ·exact u0m (n:= "strconv.ErrSyntax") hL (by unfold y2o;simp only [Rows.laid_strconv_ErrSyntax];simp;exact ⟨rfl,rfl⟩) (by kernel_rfl) (by kernel_rfl)
 ·exact u0m (n:= "strconv.ErrRange") hL (by unfold y2o;simp only [Rows.laid_strconv_ErrRange];simp;exact ⟨rfl,rfl⟩) (by kernel_rfl) (by kernel_rfl)
 obtain ⟨g',t',cs,fuel,p,e1,e2,e3,e4⟩:=y1v (n:= "strconv.ErrRange") (d:=Rows.laid_strconv_ErrRange) hL (by simp [y2o])
 have:=u8o (show Tryz.prog.globalNamed "strconv.ErrRange" =some 10 by kernel_rfl) e3
 omega
theorem j2e {W:World} (h:laidMetH Tryz.prog y2o W):StT W:=by
 have h':laidMet Tryz.prog y2o W:=h
 obtain ⟨ps,hL,_,_⟩:=h'
 obtain ⟨g',t',cs,fuel,p,e1,e2,e3,e4⟩:=y1v (n:= "gansey/orders.steps") (d:=Rows.laid_gansey_orders_steps) hL (by simp [y2o])
 have hg:Tryz.prog.globalNamed "gansey/orders.steps" =some 0:=by kernel_rfl
 cases hg.symm.trans e1
 cases (show (Tryz.prog.globals[0]?).map (·.type)=some 290 by kernel_rfl).symm.trans e2
 have hc:=Lib.cells_of_tab (zs:=[-1,1]) Tryz.underlying290 Tryz.underlying3 (by kernel_rfl) (by kernel_rfl) e4
 constructor
 intro j u hu
 rw [z3l,Nat.zero_add,World.var?_cell hg e3 j,<-Array.getElem?_toList,hc];exact hu
def j0r:List (String×DataW Unit):=y2o.filter λp=>match p.2 with|.iface _ _=>false|_=>true
noncomputable def witP (os:Os):World:=j5n Tryz.prog os j0r
theorem u8y {n:Int} (h:(Lit.int .u8 n).wf=true):0<=n/\n<=255:=by
 have h':IntKind.u8.min<=n/\n<=IntKind.u8.max:=by simpa [Lit.wf] using h
 exact h'
noncomputable def u0d (w:World) (g:Nat) (s:List UInt8):World:=layW (w.alloc (.cells #[.string ⟨s.toArray⟩] 360)) g #[.iface 358 (.pointer (some ⟨w.heap.size,0,none⟩))]
noncomputable def j3x (os:Os):World:=u0d (u0d (witP os) 10 [118,97,108,117,101,32,111,117,116,32,111,102,32,114,97,110,103,101]) 9 [105,110,118,97,108,105,100,32,115,121,110,116,97,120]
end Go.Proofs.YtpgdchkdlgkmgaaGreatDoor
namespace Go.Proofs.YtpgdchkdlgkmgaaGreatDoor
open Go.Lw
end Go.Proofs.YtpgdchkdlgkmgaaGreatDoor
namespace Go.Proofs.YtpgdchkdlgkmgaaGreatDoor
open Go.Lw _root_.Go.Proofs.Tryz
theorem z3o:ElemOf prog 153 9 Enc.str 16:=ElemOf.mk' (z:=(.string ⟨#[]⟩)) underlying153 (by kernel_rfl) rfl
theorem na9:z2b prog 9:=λ_=>by kernel_rfl
theorem sz9:z1q prog 9 1:=λ_=>by kernel_rfl
theorem z9y (l:List UInt8) (w0:World) (hG:Glob w0) (hl:l.length<=1000000):Rets prog 220 #[S l] w0 λv w'=>v=.int .i64 (v6g l)/\Fr [] w0 w':=by
 have hGs:=hG.sz
 refine we [(0,S l)] func220 rfl ntmps220 rfl (.cons rfl .nil) (sr (asg rfl (nn (sr (mv rfl (cl (ev1 rfl) (mkC func245) (u4v _ _ hG (by omega)) rfl ?_))))))
 rintro _ w1 ⟨n,e,b,rfl,hb,hn,q1⟩
 refine mv rfl (xt rfl rfl (xt rfl rfl (asg rfl (asg rfl (kpL [(3,_),(4,_)] (.c2 rfl rfl) (nn (sq (sr (mv rfl (u3k rfl underlying155 hb rfl (nn (cd rfl (λc0=>?_) (λc0=>?_)))))))))))))
 ·refine sr (asg rfl (nn (rt (tr (r1 results220 rfl ?_)))))
  exact ⟨_,rfl,by simp [hn,c0],q1⟩
 refine sk (tn (sr (mv rfl (asg rfl (nn (rt (r1 results220 rfl ?_)))))))
 exact ⟨_,rfl,by simp [hn,c0],q1⟩
theorem u0s (l:List UInt8) (w0:World) (hG:Glob w0):Rets prog 221 #[S l] w0 λv w'=>v=.int .u8 (u9e l)/\Fr [] w0 w':=by
 have hGs:=hG.sz
 refine we [(0,S l)] func221 rfl ntmps221 rfl (.cons rfl .nil) (sr (asg rfl (nn (sq (sr (mv rfl (y2l rfl rfl underlying313 sz9 (z7s rfl hG.dr rfl na9 (v8a rfl rfl rfl (nn (cd rfl (λc0=>?_) (λc0=>?_))))))))))))
 ·refine sr (asg rfl (nn (rt (tr (r1 results221 rfl ?_)))))
  exact ⟨_,rfl,by rw [u9e,if_pos c0],(Fr.refl _ _)⟩
 refine sk (tn (sr (asg rfl (nn (rt (r1 results221 rfl ?_))))))
 exact ⟨_,rfl,by rw [u9e,if_neg c0],(Fr.refl _ _)⟩
theorem u3h (o:MOp) (w0:World) (hG:Glob w0):Rets prog 184 #[opV o] w0 λv w'=>v=S (u9o o)/\Fr [] w0 w':=by
 have hGs:=hG.sz
 refine we [(0,opV o)] func184 rfl ntmps184 rfl (.cons rfl .nil) (sr (bx rfl rfl rfl (λg1 w1 hg1 hb1 q1 z1=>(asg rfl (nn (sq (sr (z0n rfl hb1 z9j (cl (ev1 rfl) (mkC func21) (y6x o _) rfl ?_)))))))))
 rintro _ w2 ⟨rfl,q2⟩
 have z2:=q2.size
 refine ne' rfl rfl (nn (cd rfl (λc0=>?_) (λc0=>?_)))
 ·refine sr (asg rfl (nn (rt (tr (r1 results184 rfl ?_)))))
  exact ⟨_,rfl,by rw [u9o,if_pos c0]<;>rfl,(q1.n1 q2)⟩
 have hr:=v1n (Classical.not_not.1 c0)
 refine sk (tn (sr (fad rfl z3i ?_)))
 replace hb1:=hb1.ext q2
 refine z0i rfl hb1 rfl na5 (z5h rfl (us underlying5) underlying3 (wi6 (by omega)) ?_)
 replace hG:=hG.ext (q1.n1 q2)
 refine cl (ev1 rfl) u7o (y6y _ _ hG (by omega)) rfl ?_
 rintro _ w3 ⟨rfl,q3⟩
 have z3:=q3.size
 refine asg rfl (nn (sr (fad rfl z9g ?_)))
 replace hb1:=hb1.ext q3
 refine z0i rfl hb1 rfl v7t (y2l rfl rfl underlying309 sz9 ?_)
 replace hG:=hG.ext q3
 refine z7s rfl hG.wd (v0j (by omega)) na9 (z2f ([x4t o.k]) (ev1 rfl) rfl rfl rfl z3o (λg16 w4 hg16 ho16 q4 z4=>(asg rfl ?_)))
 replace ho16:=ho16.low (show w0.heap.size<=g16 by omega)
 refine nn ?_
 refine jn (ι:=Value) [] (λv4=>[(4,v4)]) (λv4 w'=>Fr [g16] w4 w'/\Lw.Own Enc.str 9 w0.heap.size w' v4 (x4t o.k::y2n o)) .nil ?_ ?_
 ·refine sr (fad rfl z9g ?_)
  replace hb1:=hb1.ext q4
  refine z0i rfl hb1 rfl v7t (nn (bl (sr (eq' rfl rfl (asg rfl (nn (cd rfl (λc1=>?_) (λc1=>?_))))))))
  ·refine rg (mv rfl (mv rfl (fad rfl z8a (z0i rfl hb1 rfl y7e (y2l rfl rfl underlying313 sz9 ?_)))))
   replace hG:=hG.ext q4
   refine z7s rfl hG.dr (x7c (by omega)) na9 (z2f ([x2y o.y,u2s o.d]) (ev2 rfl rfl) rfl rfl rfl z3o (λg27 w5 hg27 ho27 q5 z5=>?_))
   replace ho16:=ho16.ext q5
   refine z1x (base:=w0.heap.size) rfl rfl ho16 ho27.sl z3o (by unfold maxLen;first|(simp;done)|(simp;omega)) (by simp<;>omega) (λv28 w6 ho4 q6 hor28=>?_)
   replace q6:Fr [g16] _ _:=q6
   have z6:=q6.size
   refine asg rfl (kpL [(4,_)] (.cons rfl .nil) (nl (bn' ?_)))
   exact jE (_) (.cons rfl .nil) ⟨((Fr.refl [g16] _).z2 q5 q6),by first|(rw [y2n,if_pos c1];exact ho4)|(exfalso;omega)⟩
  refine sr (eq' rfl rfl (asg rfl (nn (cd rfl (λc2=>?_) (λc2=>?_)))))
  ·refine rg (mv rfl (mv rfl (z2f ([x2y o.y]) (ev1 rfl) rfl rfl rfl z3o (λg33 w7 hg33 ho33 q7 z7=>?_))))
   replace ho16:=ho16.ext q7
   refine z1x (base:=w0.heap.size) rfl rfl ho16 ho33.sl z3o (by unfold maxLen;first|(simp;done)|(simp;omega)) (by simp<;>omega) (λv34 w8 ho4 q8 hor34=>?_)
   replace q8:Fr [g16] _ _:=q8
   have z8:=q8.size
   refine asg rfl (kpL [(4,_)] (.cons rfl .nil) (nl (bn' ?_)))
   exact jE (_) (.cons rfl .nil) ⟨((Fr.refl [g16] _).z2 q7 q8),by first|(rw [y2n,if_neg c1,if_pos c2];exact ho4)|(exfalso;omega)⟩
  refine sr (eq' rfl rfl (asg rfl (nn (cd rfl (λc3=>?_) (λc3=>?_)))))
  ·refine rg (mv rfl (fad rfl y3e (z0i rfl hb1 rfl na3 ?_)))
   replace hG:=hG.ext q4
   refine cl (ev1 rfl) u7o (y6y _ _ hG (by omega)) rfl ?_
   rintro _ w9 ⟨rfl,q9⟩
   have z9:=q9.size
   refine z2f ([x2y o.r]) (ev1 rfl) rfl rfl rfl z3o (λg41 w10 hg41 ho41 q10 z10=>?_)
   replace ho16:=ho16.ext (q9.n1 q10)
   refine z1x (base:=w0.heap.size) rfl rfl ho16 ho41.sl z3o (by unfold maxLen;first|(simp;done)|(simp;omega)) (by simp<;>omega) (λv42 w11 ho4 q11 hor42=>?_)
   replace q11:Fr [g16] _ _:=q11
   have z11:=q11.size
   refine asg rfl (kpL [(4,_)] (.cons rfl .nil) (nl (bn' ?_)))
   exact jE (_) (.cons rfl .nil) ⟨((Fr.refl [g16] _).z3 q9 q10 q11),by first|(rw [y2n,if_neg c1,if_neg c2,if_pos c3];exact ho4)|(exfalso;omega)⟩
  refine jn (ι:=Bool) [(1,_),(3,_),(4,_),(18,_)] (λb4=>[(43,.bool b4)]) (λb4 w'=>Fr [] w4 w'/\b4=decide ((o.k=4\/o.k=5)\/o.k=6)) (.c4 rfl rfl rfl rfl) ?_ ?_
  ·refine sr (eq' rfl rfl (asg rfl (nn (cd rfl (λc4=>?_) (λc4=>?_)))))
   ·refine sk ?_
    exact jE (_) (.c5 rfl rfl rfl rfl rfl) ⟨(Fr.refl _ _),by first|exact bi (by omega)|exact bt (by omega)|exact bf (by omega)⟩
   refine sr (eq' rfl rfl (asg rfl (nn (cd rfl (λc5=>?_) (λc5=>?_)))))
   ·refine sk ?_
    exact jE (_) (.c5 rfl rfl rfl rfl rfl) ⟨(Fr.refl _ _),by first|exact bi (by omega)|exact bt (by omega)|exact bf (by omega)⟩
   refine rg (eq' rfl rfl (asg rfl (nl ?_)))
   exact jE (_) (.c5 rfl rfl rfl rfl rfl) ⟨(Fr.refl _ _),by first|exact bi (by omega)|exact bt (by omega)|exact bf (by omega)⟩
  rintro b4 w12 ⟨q12,rfl⟩
  have z12:=q12.size
  refine kpC [(1,_),(3,_),(4,_),(18,_),(43,_)] (.c5 rfl rfl rfl rfl rfl) (cd rfl (λc6=>?_) (λc6=>?_))
  ·replace hG:=hG.ext (q4.n1 q12)
   replace hb1:=hb1.ext q12
   replace ho16:=ho16.ext q12
   intro a h
   have qh15:=Fr.refl [g16] w12
   refine z3y (λwb w'=>Fr [g16] wb w') z2r ?_;intro w13 hq
   have z13:=hq.size
   replace hG:=hG.ext hq
   replace hb1:=hb1.ext hq
   replace ho16:=ho16.ext hq
   replace qh15:=qh15.next hq
   have hsz:=hq.size;clear hq;have hC:Fr [g16] w13 w13:=Fr.refl _ _
   have hG_b:=hG
   have hb1_b:=hb1
   have ho16_b:=ho16
   refine z0e 0 h rfl rfl λa h=>z0c 1 h rfl z8a rfl λa h=>z0l 2 h rfl (λ_ hw=>hb1_b.fr hw (by simp<;>omega)) rfl y7e rfl λa h=>u7s 3 (by kernel_rfl) (by kernel_rfl) (by kernel_rfl) hC h wn rfl rfl underlying313 sz9 (by omega) (by omega) rfl rfl λa h=>v7h 4 (by kernel_rfl) (by kernel_rfl) (by kernel_rfl) hC h wn rfl (λ_ hw=>(hG_b.fr hw (by simp<;>omega)).dr) (x7c (by omega)) na9 rfl rfl λa h=>z0c 5 h rfl z4e rfl λa h=>z1c (vs:=[_,_]) 6 h rfl (λ_ hw=>(hb1_b.fr hw (by simp<;>omega))) z4v rfl rfl λa h=>z0e 8 h rfl rfl λa h=>z0d 7 rfl ?_
   refine z0m h (z0a rfl z0g) (mkC func223) (y7u _ _ _ hG) ?_;rintro _ w14 ⟨rfl,hq⟩ a h
   have z14:=hq.size
   replace hG:=hG.ext hq
   replace hb1:=hb1.ext hq
   replace ho16:=ho16.ext hq
   replace qh15:=qh15.next hq
   replace hC:=hC.next hq
   clear hq
   refine z0b ?_
   refine z0d 9 rfl ?_
   refine z2o ([u2s o.d,v2w o.b o.p,x2y o.y]) h (z0a rfl (z0a rfl (z0a rfl z0g))) rfl rfl rfl z3o λg_56 w15 hg ho56 hq hz a h=>?_
   have hn__56:g1<g_56:=by have:=hb1.lt;omega
   have z15:=hq.size
   replace hG:=hG.ext hq
   replace hb1:=hb1.ext hq
   replace ho16:=ho16.ext hq
   replace qh15:=qh15.next hq
   replace hC:=hC.next hq
   clear hq
   refine z0b ?_
   refine z0d 10 rfl ?_
   refine z7b (base:=w0.heap.size) h rfl rfl ho16 ho56.sl z3o rfl ?_ (hM:=(by unfold maxLen;first|(simp;done)|(simp;omega))) (hb:=(by simp<;>omega));clear h a;intro v57 w16 ho4 hq hor57 a h
   replace hq:Fr [g16] _ _:=hq
   have z16:=hq.size
   replace hG:=hG.fr hq (by simp[z0v]<;>omega)
   replace hb1:=hb1.fr hq
   replace qh15:=qh15.sp hq
   replace hC:=hC.sp hq
   replace ho56:=ho56.fr hq (by simp[z0v]<;>omega)
   clear hq
   refine z0b ?_
   refine z0d 11 rfl ?_
   refine z0q h rfl λa h=>?_
   refine z0b ?_
   refine z0r ?_
   clear hC hG_b hb1_b ho16_b
   have z16:=qh15.size
   refine bk (h.sub (L':=[(4,_)]) (.cons rfl .nil)) (bn' ?_)
   exact jE (_) (.cons rfl .nil) ⟨((Fr.refl [g16] _).z2 q12 qh15),by first|(rw [y2n,if_neg c1,if_neg c2,if_neg c3,if_pos c6];exact ho4)|(exfalso;omega)⟩
  refine jn (ι:=Bool) [(1,_),(4,_)] (λb7=>[(58,.bool b7)]) (λb7 w'=>Fr [] w12 w'/\b7=decide (o.k=7\/o.k=8)) (.c2 rfl rfl) ?_ ?_
  ·refine sr (eq' rfl rfl (asg rfl (nn (cd rfl (λc7=>?_) (λc7=>?_)))))
   ·refine sk ?_
    exact jE (_) (.c3 rfl rfl rfl) ⟨(Fr.refl _ _),by first|exact bi (by omega)|exact bt (by omega)|exact bf (by omega)⟩
   refine rg (eq' rfl rfl (asg rfl (nl ?_)))
   exact jE (_) (.c3 rfl rfl rfl) ⟨(Fr.refl _ _),by first|exact bi (by omega)|exact bt (by omega)|exact bf (by omega)⟩
  rintro b7 w17 ⟨q17,rfl⟩
  have z17:=q17.size
  refine kpC [(1,_),(4,_),(58,_)] (.c3 rfl rfl rfl) (cd rfl (λc8=>?_) (λc8=>?_))
  ·refine rg (mv rfl (fad rfl z4e ?_))
   replace hb1:=hb1.ext (q12.n1 q17)
   refine z1y (vs:=[_,_]) rfl hb1 z4v rfl ?_
   replace hG:=hG.ext (q4.n2 q12 q17)
   refine cl (ev1 rfl) (mkC func223) (y7u _ _ _ hG) rfl ?_
   rintro _ w18 ⟨rfl,q18⟩
   have z18:=q18.size
   refine z2f ([v2w o.b o.p]) (ev1 rfl) rfl rfl rfl z3o (λg65 w19 hg65 ho65 q19 z19=>?_)
   replace ho16:=ho16.ext (q12.n3 q17 q18 q19)
   refine z1x (base:=w0.heap.size) rfl rfl ho16 ho65.sl z3o (by unfold maxLen;first|(simp;done)|(simp;omega)) (by simp<;>omega) (λv66 w20 ho4 q20 hor66=>?_)
   replace q20:Fr [g16] _ _:=q20
   have z20:=q20.size
   refine asg rfl (kpL [(4,_)] (.cons rfl .nil) (nl (bn' ?_)))
   exact jE (_) (.cons rfl .nil) ⟨((Fr.refl [g16] _).z5 q12 q17 q18 q19 q20),by first|(rw [y2n,if_neg c1,if_neg c2,if_neg c3,if_neg c6,if_pos c8];exact ho4)|(exfalso;omega)⟩
  refine sk (bn' ?_)
  exact jE (_) (.cons rfl .nil) ⟨((Fr.refl [g16] _).n2 q12 q17),by first|(rw [y2n,if_neg c1,if_neg c2,if_neg c3,if_neg c6,if_neg c8];exact ho4)|(exfalso;omega)⟩
 rintro v4 w21 ⟨q21,ho4⟩
 have z21:=q21.size
 refine kpC [(4,_)] (.cons rfl .nil) (sr (mv rfl ?_))
 refine cl (ev2 rfl rfl) (mkC func82) (x5u _ _ _ _ _ _ ho4 (by simp) (by have:=v9f o (Classical.not_not.1 c0);omega) (by have:=j2t o;simp;omega)) rfl ?_
 rintro _ w22 ⟨rfl,q22⟩
 have z22:=q22.size
 refine asg rfl (nn (rt (r1 results184 rfl ?_)))
 exact ⟨_,rfl,by rw [u9o,if_neg c0],(q1.z5 q2 q3 q4 q21 q22)⟩
theorem u3u:BuildAt prog 28 [(0,1),(1,1),(2,2),(4,1),(5,1)] [(.int .u8 0),(.int .u8 0),(.int .u8 0),(.int .i64 0),(.int .u8 0),(.int .i64 0)]:=BuildAt.struct underlying28 (λ_=>by kernel_rfl) (λ_=>by kernel_rfl)
theorem sz5:z1q prog 5 1:=λ_=>by kernel_rfl
theorem j0c:ElemOf prog 150 5 Enc.b 1:=ElemOf.mk' (z:=(.int .u8 0)) underlying150 (by kernel_rfl) rfl
theorem sz22:z1q prog 22 1:=λ_=>by kernel_rfl
theorem x0j (l:List UInt8) (w0:World) (hG:Glob w0) (hl:l.length<=1000000):Rets prog 222 #[S l] w0 λv w'=>∃e,v=.tuple #[.agg #[.int .u8 (x2t l).1,.int .i64 (x2t l).2],e]/\Fr [] w0 w':=by
 have hGs:=hG.sz
 refine we [(0,S l)] func222 rfl ntmps222 rfl (.cons rfl .nil) (sr (al v6o rfl rfl (λg2 w1 hg2 hb2 q1 z1=>(asg rfl (nn (sq (sq ?_)))))))
 refine rbo (r:=14) (L':=[(0,_),(2,_)]) ((((l.length:Int)<2)\/(3<(l.length:Int)))) (.c2 rfl rfl) ?_ ?_
 ·refine mv rfl (ln rfl underlying9 rfl (lt' rfl rfl (mv rfl (gs 10 rfl (λg0=>?_) (λg0=>?_)))))
  ·exact gN rfl rfl (gN rfl rfl (gN rfl rfl (pkt rfl rfl (rbe rfl (.c2 rfl rfl)))))
  exact gY rfl (mv rfl (gY rfl (ln rfl underlying9 rfl (gY rfl (gt' rfl rfl (pkf rfl rfl (rbe rfl (.c2 rfl rfl))))))))
 refine tn (cd rfl (λc0=>?_) (λc0=>?_))
 ·refine sr (z1r (cs:=[_,_]) z0g y9u z0s rfl (z0j rfl rfl hb2 y9k (λw2 hb2 q2 z2=>?_) (hl:=rfl)))
  refine asg rfl (nn (rt (tr (rCT results222 rfl hb2 z4v rfl ?_))))
  exact ⟨_,rfl,_,by rw [show x2t l=(0,0) from by rw [x2t,if_pos c0]],(q1.z1 q2)⟩
 refine sk (tn (sr (z1r (cs:=[_,_]) z0g y9u z0s rfl (al v6o rfl rfl (λg4 w3 hg4 hb4 q3 z3=>?_)))))
 refine z0j rfl rfl hb4 y9k (λw4 hb4 q4 z4=>?_) (hl:=rfl)
 refine nn ?_
 refine jn (ι:=Int) [(0,_),(2,_),(4,_)] (λb=>[]) (λb w'=>Fr [g4] w4 w'/\u7y l=some b/\(b=0\/b=1)/\Blk w' g4 24 [.int .u8 b,.int .i64 0]) (.c3 rfl rfl rfl) ?_ ?_
 ·refine sr (mv rfl (u3j (p:=0) rfl rfl underlying9 (by omega) (by omega) rfl rfl (λhy18=>(nn (bl (sr (eq' rfl rfl (asg rfl (nn (cd rfl (λc1=>?_) (λc1=>?_)))))))))))
  ·refine rg (fad rfl z6e (z3u rfl rfl hb4 rfl sz22 (λw5 hb4 q5 z5=>?_)))
   replace hb4:Blk w5 g4 _ [_,_]:=hb4
   refine nl (bn' ?_)
   exact jE (_) (.c3 rfl rfl rfl) ⟨((Fr.refl [g4] _).z1 q5),⟨by rw [u7y,if_pos c1],by omega,hb4⟩⟩
  skip
  refine sr (eq' rfl rfl (asg rfl (nn (cd rfl (λc2=>?_) (λc2=>?_)))))
  ·refine rg (fad rfl z6e (z3u rfl rfl hb4 rfl sz22 (λw6 hb4 q6 z6=>?_)))
   replace hb4:Blk w6 g4 _ [_,_]:=hb4
   refine nl (bn' ?_)
   exact jE (_) (.c3 rfl rfl rfl) ⟨((Fr.refl [g4] _).z1 q6),⟨by rw [u7y,if_neg c1,if_pos c2],by omega,hb4⟩⟩
  refine sr (z1r (cs:=[_,_]) z0g y9u z0s rfl ?_)
  replace hb2:=(hb2.ext q3).fr q4
  refine z0j rfl rfl hb2 y9k (λw7 hb2 q7 z7=>?_) (hl:=rfl)
  refine asg rfl (nn (rt (rb (tr (rCT results222 rfl hb2 z4v rfl ?_)))))
  exact ⟨_,rfl,_,by rw [show x2t l=(0,0) from by rw [x2t,if_neg c0,show u7y l=none from by rw [u7y,if_neg c1,if_neg c2]]],(q1.z3 q3 q4 q7)⟩
 rintro b w8 ⟨q8,⟨hpb,hb01,hb4⟩⟩
 have lt_hb4:=hb4.lt
 refine kpC [(0,_),(2,_),(4,_)] (.c3 rfl rfl rfl) ?_
 have hdl:(l.drop 1).length=l.length-1:=List.length_drop
 refine sq (sr (mv rfl (u8i (p:=1) rfl rfl underlying9 (by omega) (by omega) rfl rfl (j5k rfl underlying9 underlying150 underlying5 (by unfold maxLen;simp;omega) rfl (λg28 c28 w9 hg28 hs28 q9 z9=>?_)))))
 refine lnS rfl underlying150 (mv rfl (nn (bl ?_)))
 replace hb4:=hb4.ext q9
 refine lpK (ι:=Nat) [(0,_),(2,_),(4,_),(28,_),(29,_)] (λi=>[(30,.int .i64 (i:Int))]) (λi w'=>Fr [g4] w9 w'/\i<=(l.drop 1).length/\((l.drop 1).take i).all v5e=true/\Blk w' g4 24 [.int .u8 b,.int .i64 (y4d ((l.drop 1).take i))]) (λi=>(l.drop 1).length-i) 0 (.c6 rfl rfl rfl rfl rfl rfl) ⟨Fr.refl _ _,⟨by omega,rfl,hb4⟩⟩ ?_
 rintro i w10 ⟨q10,⟨hi,hall,hb4⟩⟩
 have lt_hb4:=hb4.lt
 refine kpC [(0,_),(2,_),(4,_),(28,_),(29,_),(30,_)] (.c6 rfl rfl rfl rfl rfl rfl) (sr (lt' rfl rfl (nn (sq (cd rfl (λc3=>?_) (λc3=>?_))))))
 ·have hy6:=x5x ((l.drop 1).getD i 0)
  refine sk (tn (sq (bl (sr ?_))))
  replace hs28:=hs28.fr q10 (by simp[z0v]<;>omega)
  refine z1a (p:=i) (0) rfl hs28 rfl j0c (by omega) (λad32 hc32=>(z1i rfl (hc32 _ hs28) na5 (asg rfl (nn (sq (sq ?_))))))
  refine rbo (r:=39) (L':=[(0,_),(2,_),(4,_),(6,_),(28,_),(29,_),(30,_)]) ((((((l.drop 1).getD i 0).toNat:Int)<48)\/(57<(((l.drop 1).getD i 0).toNat:Int)))) (.c7 rfl rfl rfl rfl rfl rfl rfl) ?_ ?_
  ·refine mv rfl (lt' rfl rfl (mv rfl (gs 36 rfl (λg1=>?_) (λg1=>?_))))
   ·exact gN rfl rfl (gN rfl rfl (pkt rfl rfl (rbe rfl (.c7 rfl rfl rfl rfl rfl rfl rfl))))
   exact gY rfl (mv rfl (gY rfl (gt' rfl rfl (pkf rfl rfl (rbe rfl (.c7 rfl rfl rfl rfl rfl rfl rfl))))))
  refine tn (cd rfl (λc4=>?_) (λc4=>?_))
  ·refine sr (z1r (cs:=[_,_]) z0g y9u z0s rfl ?_)
   replace hb2:=((((hb2.ext q3).fr q4).fr q8).ext q9).fr q10
   refine z0j rfl rfl hb2 y9k (λw11 hb2 q11 z11=>?_) (hl:=rfl)
   refine asg rfl (kpL [(2,_),(3,_)] (.c2 rfl rfl) (nn (rt (tr (rb (tr (tr (rb (tr (rCT results222 rfl hb2 z4v rfl ?_))))))))))
   exact ⟨_,rfl,_,by rw [show x2t l=(0,0) from by rw [x2t,if_neg c0,hpb];simp only;rw [if_pos (u4x _ i (by omega) (by omega))]],(q1.z6 q3 q4 q8 q9 q10 q11)⟩
  have hdv:=x2b hall (by simp;omega)
  refine sk (tn (rg (fad rfl z6i (z0i rfl hb4 rfl na3 (x4g rfl rfl (wi6 (by omega)) rfl (mv rfl (z2u rfl rfl (wi8 (by omega)) (z5h rfl (us underlying5) underlying3 (wi6 (by omega)) (z0y rfl rfl (wi6 (by omega)) (fad rfl z6i (z3u rfl rfl hb4 rfl sz3 (λw12 hb4 q12 z12=>?_))))))))))))
  replace hb4:Blk w12 g4 _ [_,_]:=hb4
  refine kpL [(0,_),(2,_),(4,_),(28,_),(29,_),(30,_)] (.c6 rfl rfl rfl rfl rfl rfl) (nl (bn' (tn (rg (z0y rfl rfl (wi6 (by omega)) (mv rfl (nl ?_)))))))
  exact lpE (i+1) (.c6 rfl rfl rfl rfl rfl rfl) ⟨((Fr.refl [g4] _).z2 q10 q12),⟨by omega,v8f _ _ (by omega) hall (by omega),by rw [x7s _ _ (by omega)];exact hb4⟩⟩ (by omega)
 obtain rfl:i=(l.drop 1).length:=by omega
 rw [List.take_length] at hall hb4
 have hdv:=x2b hall (by omega)
 refine ex (te (te (xh (tn (sq (sr (z0n rfl hb4 z4v ?_)))))))
 replace hG:=((((hG.ext (q1.n1 q3)).fr q4 (by first|exact z9e hG (by omega)|simp[z0v]<;>omega)).fr q8 (by first|exact z9e hG (by omega)|simp[z0v]<;>omega)).ext q9).fr q10 (by first|exact z9e hG (by omega)|simp[z0v]<;>omega)
 refine cl (ev1 rfl) (mkC func223) (y7u _ _ _ hG) rfl ?_
 rintro _ w13 ⟨rfl,q13⟩
 refine mv rfl (u6a rfl rfl rfl (kpL [(2,_),(4,_),(53,_)] (.c3 rfl rfl rfl) (nn (cd rfl (λc5=>?_) (λc5=>?_)))))
 ·refine sr (z1r (cs:=[_,_]) z0g y9u z0s rfl ?_)
  replace hb2:=(((((hb2.ext q3).fr q4).fr q8).ext q9).fr q10).ext q13
  refine z0j rfl rfl hb2 y9k (λw14 hb2 q14 z14=>?_) (hl:=rfl)
  refine asg rfl (nn (rt (tr (rCT results222 rfl hb2 z4v rfl ?_))))
  exact ⟨_,rfl,_,by rw [show x2t l=(0,0) from by rw [x2t,if_neg c0,hpb];simp only;rw [if_neg (by rw [hall];exact λe=>Bool.noConfusion e),if_pos c5]],((q1.z6 q3 q4 q8 q9 q10 q13).z1 q14)⟩
 refine sk (tn (sr ?_))
 replace hb4:=hb4.ext q13
 refine z0n rfl hb4 z4v ?_
 replace hb2:=(((((hb2.ext q3).fr q4).fr q8).ext q9).fr q10).ext q13
 refine z0j rfl rfl hb2 y9k (λw15 hb2 q15 z15=>?_) (hl:=rfl)
 refine asg rfl (nn (rt (rCT results222 rfl hb2 z4v rfl ?_)))
 exact ⟨_,rfl,_,by rw [show x2t l=(b,y4d (l.drop 1)) from by rw [x2t,if_neg c0,hpb];simp only;rw [if_neg (by rw [hall];exact λe=>Bool.noConfusion e),if_neg c5]],((q1.z6 q3 q4 q8 q9 q10 q13).z1 q15)⟩
theorem j4s:z3p prog 309 9:=⟨λ_=>by kernel_rfl,λ_=>by kernel_rfl⟩
theorem sz25:z1q prog 25 1:=λ_=>by kernel_rfl
theorem fld0 (f:F4) (w:World):(Instr.field 188 (.agg (f4L f).toArray) 0).run prog w=.ok (.bool f.1) w:=by kernel_rfl
theorem fld1 (f:F4) (w:World):(Instr.field 188 (.agg (f4L f).toArray) 1).run prog w=.ok (.bool f.2.1) w:=by kernel_rfl
set_option maxHeartbeats 1000000 in
theorem v6x (v:Value) (ws:List (List UInt8)) (w0:World) (hG:Glob w0) (hs:Sl Enc.str w0 v ws) (hne:1<=ws.length) (hlw:∀i,(ws.getD i []).length<=1000000):Rets prog 183 #[v] w0 λr w'=>r=opV (z3r ws)/\Fr [] w0 w':=by
 obtain ⟨A,c,rfl,hc,hM,hA⟩:=id hs
 clear hA
 have hsb:=hs.blk (by intro e;simp [e] at hne)
 have hGs:=hG.sz
 refine we [(0,.slice A ws.length c)] func183 rfl ntmps183 rfl (.cons rfl .nil) (sr (al x7e rfl rfl (λg2 w1 hg2 hb2 q1 z1=>?_)))
 refine nn (sr (z1r (cs:=[_,_,_,_,_,_]) z0g u3u z0s rfl (al x7e rfl rfl (λg3 w2 hg3 hb3 q2 z2=>?_))))
 refine z0j rfl rfl hb3 x9c (λw3 hb3 q3 z3=>?_) (hl:=rfl)
 refine nn (sq (sr ?_))
 replace hG:=(hG.ext (q1.n1 q2)).fr q3 (by first|exact z9e hG (by omega)|simp[z0v]<;>omega)
 refine z1j rfl hG.wd j4s (mv rfl (nn (bl ?_)))
 refine lpK (ι:=Nat) [(0,_),(2,_),(3,_),(7,_)] (λi=>[(8,.int .i64 (i:Int))]) (λi w'=>Fr [g3] w3 w'/\i<=9/\Blk w' g3 28 [.int .u8 (y3f (ws.getD 0 []) i),.int .u8 0,.int .u8 0,.int .i64 0,.int .u8 0,.int .i64 0]) (λi=>9-i) 0 (.c5 rfl rfl rfl rfl rfl) ⟨Fr.refl _ _,⟨by omega,hb3⟩⟩ ?_
 rintro i w4 ⟨q4,⟨hi,hb3⟩⟩
 have lt_hb3:=hb3.lt
 refine kpC [(0,_),(2,_),(3,_),(7,_),(8,_)] (.c5 rfl rfl rfl rfl rfl) (sr (lt' rfl rfl (nn (sq (cd rfl (λc0=>?_) (λc0=>?_))))))
 ·refine sk (tn (sq (bl (sr (mv rfl (u0e rfl rfl underlying309 sz9 na9 (v9o (by omega)) rfl (asg rfl (asg rfl (nn (sr (mv rfl (mv rfl ?_))))))))))))
  replace hs:=((hs.ext (q1.n1 q2)).fr q3 (by intro k hk hb;simp at hk;subst hk;have:=hsb _ hb;omega)).fr q4 (by intro k hk hb;simp at hk;subst hk;have:=hsb _ hb;omega)
  refine z1a (p:=0) ([]) rfl hs rfl z3o rfl (λad14 hc14=>(z1i rfl (hc14 _ hs) na9 (v8a rfl rfl rfl (nn (cd rfl (λc1=>?_) (λc1=>?_))))))
  ·refine rg (mv rfl (z5h rfl (us underlying3) underlying25 (wi8 (by omega)) (fad rfl z9g (z3u rfl rfl hb3 rfl sz25 (λw5 hb3 q5 z5=>?_)))))
   replace hb3:Blk w5 g3 _ [_,_,_,_,_,_]:=hb3
   refine nl (bn' (tn (rg (z0y rfl rfl (wi6 (by omega)) (mv rfl (nl ?_))))))
   exact lpE (i+1) (.c5 rfl rfl rfl rfl rfl) ⟨((Fr.refl [g3] _).z2 q4 q5),⟨by omega,by first|(rw [y3f,if_pos c1];exact hb3)|(rw [y3f,if_neg c1];exact hb3)⟩⟩ (by omega)
  refine sk (bn' (tn (rg (z0y rfl rfl (wi6 (by omega)) (mv rfl (nl ?_))))))
  exact lpE (i+1) (.c5 rfl rfl rfl rfl rfl) ⟨((Fr.refl [g3] _).z1 q4),⟨by omega,by first|(rw [y3f,if_pos c1];exact hb3)|(rw [y3f,if_neg c1];exact hb3)⟩⟩ (by omega)
 obtain rfl:i=9:=by omega
 have hkr:=x0p (ws.getD 0 []) 9
 replace hb3:Blk w4 g3 28 [.int .u8 (y7v (ws.getD 0 [])),.int .u8 0,.int .u8 0,.int .i64 0,.int .u8 0,.int .i64 0]:=hb3
 refine ex (te (te (xh (tn ?_))))
 refine jn (ι:=Unit) [(2,_),(3,_)] (λ_j=>[]) (λ_j w'=>Fr [g3] w4 w'/\Blk w' g3 28 [.int .u8 (z3r ws).k,.int .u8 (z3r ws).d,.int .u8 (z3r ws).b,.int .i64 (z3r ws).p,.int .u8 (z3r ws).y,.int .i64 (z3r ws).r]) (.c2 rfl rfl) ?_ ?_
 ·refine bl (sq ?_)
  refine rbo (r:=21) (L':=[(0,_),(2,_),(3,_)]) ((((y7v (ws.getD 0 []))=1)/\((ws.length:Int)=3))) (.c3 rfl rfl rfl) ?_ ?_
  ·refine fad rfl z9g (z0i rfl hb3 rfl v7t (eq' rfl rfl (mv rfl (gs 25 rfl (λg0=>?_) (λg0=>?_)))))
   ·exact gY rfl (mv rfl (gY rfl (lnS rfl underlying153 (gY rfl (eq' rfl rfl (pkt rfl rfl (asg rfl (rbe rfl (.c3 rfl rfl rfl)))))))))
   exact gN rfl rfl (gN rfl rfl (gN rfl rfl (pkf rfl rfl (asg rfl (rbe rfl (.c3 rfl rfl rfl))))))
  refine tn (cd rfl (λc2=>?_) (λc2=>?_))
  ·replace hG:=hG.fr q4 (by first|exact z9e hG (by omega)|simp[z0v]<;>omega)
   replace hs:=((hs.ext (q1.n1 q2)).fr q3 (by intro k hk hb;simp at hk;subst hk;have:=hsb _ hb;omega)).fr q4 (by intro k hk hb;simp at hk;subst hk;have:=hsb _ hb;omega)
   replace hb2:=((hb2.ext q2).fr q3).fr q4
   intro a h
   have qh9:=Fr.refl [g3] w4
   refine z3y (λwb w'=>Fr [g3] wb w') z2r ?_;intro w6 hq
   replace hG:=hG.ext hq
   replace hs:=hs.ext hq
   replace hb2:=hb2.ext hq
   replace hb3:=hb3.ext hq
   replace qh9:=qh9.next hq
   have hsz:=hq.size;clear hq;have hC:Fr [g3] w6 w6:=Fr.refl _ _
   have hG_b:=hG
   have hs_b:=hs
   have hb2_b:=hb2
   have hb3_b:=hb3
   refine z0e 0 h rfl rfl λa h=>z1k (p:=1) ([]) 1 h rfl hs rfl z3o rfl ?_ (hp:=rfl);clear h a;intro ad31 hc31 a h
   refine z3e 2 h rfl (λ_ hw=>hc31 _ (hs_b.fr hw (by intro k hk hb;simp at hk;subst hk;have:=hsb _ hb;omega))) na9 rfl λa h=>z0e 5 h rfl rfl λa h=>z1k (p:=2) ([]) 6 h rfl hs rfl z3o rfl ?_ (hp:=rfl);clear h a;intro ad36 hc36 a h
   refine z3e 7 h rfl (λ_ hw=>hc36 _ (hs_b.fr hw (by intro k hk hb;simp at hk;subst hk;have:=hsb _ hb;omega))) na9 rfl λa h=>z0d 3 rfl ?_
   refine z0m h (z0a rfl z0g) (mkC func220) (z9y _ _ hG (hlw _)) ?_;rintro _ w7 ⟨rfl,hq⟩ a h
   replace hG:=hG.ext hq
   replace hs:=hs.ext hq
   replace hb2:=hb2.ext hq
   replace hb3:=hb3.ext hq
   replace qh9:=qh9.next hq
   replace hC:=hC.next hq
   clear hq
   refine z0b ?_
   refine x4r 4 hC h wn rfl (by rw [underlying3];rfl) underlying5 (by first|exact IntWalk.u8_in _ (by omega)|rfl) rfl rfl λa h=>z0c 9 h rfl z3i rfl λa h=>z0d 8 rfl ?_
   refine z0m h (z0a rfl z0g) (mkC func221) (u0s _ _ hG) ?_;rintro _ w8 ⟨rfl,hq⟩ a h
   replace hG:=hG.ext hq
   replace hs:=hs.ext hq
   replace hb2:=hb2.ext hq
   replace hb3:=hb3.ext hq
   replace qh9:=qh9.next hq
   replace hC:=hC.next hq
   clear hq
   refine z0b ?_
   refine z0d 10 rfl ?_
   refine z4h h rfl rfl hb3 rfl rfl rfl sz5 λw9 hbn hq hz a h=>?_
   replace hG:=hG.fr hq (by simp[z0v]<;>omega)
   replace hs:=hs.fr hq (by intro k hk hb;simp at hk;subst hk;have:=hsb _ hb;omega)
   replace hb2:=hb2.fr hq
   replace qh9:=qh9.sp hq
   replace hC:=hC.sp hq
   clear hb3 hq hz;have hb3:Blk w9 g3 _ [_,_,_,_,_,_]:=hbn;clear hbn
   refine z0b ?_
   refine z0c 11 h rfl z8a rfl λa h=>z0d 12 rfl ?_
   refine z4h h rfl rfl hb3 rfl rfl rfl j4b λw10 hbn hq hz a h=>?_
   replace hG:=hG.fr hq (by simp[z0v]<;>omega)
   replace hs:=hs.fr hq (by intro k hk hb;simp at hk;subst hk;have:=hsb _ hb;omega)
   replace hb2:=hb2.fr hq
   replace qh9:=qh9.sp hq
   replace hC:=hC.sp hq
   clear hb3 hq hz;have hb3:Blk w10 g3 _ [_,_,_,_,_,_]:=hbn;clear hbn
   refine z0b ?_
   refine z0r ?_
   clear hC hG_b hs_b hb2_b hb3_b
   refine bk (h.sub (L':=[(2,_),(3,_)]) (.c2 rfl rfl)) (bn' ?_)
   exact jE (()) (.c2 rfl rfl) ⟨((Fr.refl [g3] _).z1 qh9),by rw [z3r,y4c,if_pos c2];exact hb3⟩
  refine sq ?_
  refine rbo (r:=41) (L':=[(0,_),(2,_),(3,_)]) ((((y7v (ws.getD 0 []))=2)/\((ws.length:Int)=2))) (.c3 rfl rfl rfl) ?_ ?_
  ·refine fad rfl z9g (z0i rfl hb3 rfl v7t (eq' rfl rfl (mv rfl (gs 45 rfl (λg1=>?_) (λg1=>?_)))))
   ·exact gY rfl (mv rfl (gY rfl (lnS rfl underlying153 (gY rfl (eq' rfl rfl (pkt rfl rfl (asg rfl (rbe rfl (.c3 rfl rfl rfl)))))))))
   exact gN rfl rfl (gN rfl rfl (gN rfl rfl (pkf rfl rfl (asg rfl (rbe rfl (.c3 rfl rfl rfl))))))
  refine tn (cd rfl (λc3=>?_) (λc3=>?_))
  ·refine rg (mv rfl ?_)
   replace hs:=((hs.ext (q1.n1 q2)).fr q3 (by intro k hk hb;simp at hk;subst hk;have:=hsb _ hb;omega)).fr q4 (by intro k hk hb;simp at hk;subst hk;have:=hsb _ hb;omega)
   refine z1a (p:=1) ([]) rfl hs rfl z3o rfl (λad51 hc51=>(z1i rfl (hc51 _ hs) na9 ?_))
   replace hG:=hG.fr q4 (by first|exact z9e hG (by omega)|simp[z0v]<;>omega)
   refine cl (ev1 rfl) (mkC func220) (z9y _ _ hG (hlw _)) rfl ?_
   rintro _ w11 ⟨rfl,q11⟩
   refine z5h rfl (us underlying3) underlying5 (IntKind.wrap_u8 _) (fad rfl z3i ?_)
   replace hb3:=hb3.ext q11
   refine z3u rfl rfl hb3 rfl sz5 (λw12 hb3 q12 z12=>?_)
   replace hb3:Blk w12 g3 _ [_,_,_,_,_,_]:=hb3
   refine kpL [(2,_),(3,_)] (.c2 rfl rfl) (nl (bn' ?_))
   exact jE (()) (.c2 rfl rfl) ⟨((Fr.refl [g3] _).z2 q11 q12),by rw [z3r,y4c,if_neg c2,if_pos c3];exact hb3⟩
  refine sq ?_
  refine rbo (r:=56) (L':=[(0,_),(2,_),(3,_)]) ((((y7v (ws.getD 0 []))=3)/\((ws.length:Int)=2))) (.c3 rfl rfl rfl) ?_ ?_
  ·refine fad rfl z9g (z0i rfl hb3 rfl v7t (eq' rfl rfl (mv rfl (gs 60 rfl (λg2=>?_) (λg2=>?_)))))
   ·exact gY rfl (mv rfl (gY rfl (lnS rfl underlying153 (gY rfl (eq' rfl rfl (pkt rfl rfl (asg rfl (rbe rfl (.c3 rfl rfl rfl)))))))))
   exact gN rfl rfl (gN rfl rfl (gN rfl rfl (pkf rfl rfl (asg rfl (rbe rfl (.c3 rfl rfl rfl))))))
  refine tn (cd rfl (λc4=>?_) (λc4=>?_))
  ·refine rg (mv rfl ?_)
   replace hs:=((hs.ext (q1.n1 q2)).fr q3 (by intro k hk hb;simp at hk;subst hk;have:=hsb _ hb;omega)).fr q4 (by intro k hk hb;simp at hk;subst hk;have:=hsb _ hb;omega)
   refine z1a (p:=1) ([]) rfl hs rfl z3o rfl (λad66 hc66=>(z1i rfl (hc66 _ hs) na9 ?_))
   replace hG:=hG.fr q4 (by first|exact z9e hG (by omega)|simp[z0v]<;>omega)
   refine cl (ev1 rfl) (mkC func220) (z9y _ _ hG (hlw _)) rfl ?_
   rintro _ w13 ⟨rfl,q13⟩
   refine fad rfl y3e ?_
   replace hb3:=hb3.ext q13
   refine z3u rfl rfl hb3 rfl sz3 (λw14 hb3 q14 z14=>?_)
   replace hb3:Blk w14 g3 _ [_,_,_,_,_,_]:=hb3
   refine kpL [(2,_),(3,_)] (.c2 rfl rfl) (nl (bn' ?_))
   exact jE (()) (.c2 rfl rfl) ⟨((Fr.refl [g3] _).z2 q13 q14),by rw [z3r,y4c,if_neg c2,if_neg c3,if_pos c4];exact hb3⟩
  refine jn (ι:=Bool) [(0,_),(2,_),(3,_)] (λb70=>[(70,.bool b70)]) (λb70 w'=>Fr [] w4 w'/\b70=decide (fD (y7v (ws.getD 0 []))=true/\(ws.length:Int)=4)) (.c3 rfl rfl rfl) ?_ ?_
  ·replace hG:=hG.fr q4 (by first|exact z9e hG (by omega)|simp[z0v]<;>omega)
   replace hs:=((hs.ext (q1.n1 q2)).fr q3 (by intro k hk hb;simp at hk;subst hk;have:=hsb _ hb;omega)).fr q4 (by intro k hk hb;simp at hk;subst hk;have:=hsb _ hb;omega)
   replace hb2:=((hb2.ext q2).fr q3).fr q4
   intro a h
   have qh14:=Fr.refl [] w4
   refine z3y (λwb w'=>Fr [] wb w') z2r ?_;intro w15 hq
   replace hG:=hG.ext hq
   replace hs:=hs.ext hq
   replace hb2:=hb2.ext hq
   replace hb3:=hb3.ext hq
   replace qh14:=qh14.next hq
   have hsz:=hq.size;clear hq;have hC:Fr [] w15 w15:=Fr.refl _ _
   have hG_b:=hG
   have hs_b:=hs
   have hb2_b:=hb2
   have hb3_b:=hb3
   refine z0c 1 h rfl z9g rfl λa h=>z0l 2 h rfl (λ_ hw=>hb3_b.ext hw) rfl v7t rfl λa h=>z0d 0 rfl ?_
   refine z0m h z0g (mkC func106) (y8j _) ?_;rintro _ w16 ⟨gm,rfl,hgm1,hgm2,hm,hq⟩ a h
   replace hG:=hG.ext hq
   replace hs:=hs.ext hq
   replace hb2:=hb2.ext hq
   replace hb3:=hb3.ext hq
   replace qh14:=qh14.next hq
   replace hC:=hC.next hq
   clear hq
   refine z0b ?_
   refine z0d 3 rfl ?_
   refine y0m (V:=kV) (k:=(y7v (ws.getD 0 []))) h rfl rfl hm y4y underlying190 x1w (z7k _) rfl λa h=>?_
   refine z0b ?_
   refine z0d 4 rfl ?_
   refine x6r h rfl (λw=>fld0 _ w) rfl λa h=>?_
   refine z0b ?_
   refine z0e 5 h rfl rfl λa h=>?_
   refine gSp (D:=76) h rfl ?_ ?_
   ·clear h;intro g3 h
    refine z0e 6 h rfl rfl ?_ (hG:=(wy rfl));clear h a;intro a h
    refine z7v 7 hC h (wy rfl) rfl underlying153 rfl λa h=>v9j 8 hC h (wy rfl) rfl rfl rfl rfl λa h=>z0d 9 rfl ?_
    refine z5j h rfl rfl rfl rfl λa h=>?_
    refine z0b ?_
    refine z0d 10 rfl ?_
    refine z0q h rfl λa h=>?_
    refine z0b ?_
    refine z0r ?_
    clear hC hG_b hs_b hb2_b hb3_b
    refine bk (h.sub (L':=[(0,_),(2,_),(3,_),(70,_)]) (.c4 rfl rfl rfl rfl)) ?_
    exact jE (_) (.c4 rfl rfl rfl rfl) ⟨qh14,by simp_all [fD]⟩
   clear h;intro g3 h
   refine z2h 6 h rfl rfl rfl λa h=>z2h 7 h rfl rfl rfl λa h=>z2h 8 h rfl rfl rfl λa h=>z0d 9 rfl ?_
   refine z4j h rfl rfl rfl rfl λa h=>?_
   refine z0b ?_
   refine z0d 10 rfl ?_
   refine z0q h rfl λa h=>?_
   refine z0b ?_
   refine z0r ?_
   clear hC hG_b hs_b hb2_b hb3_b
   refine bk (h.sub (L':=[(0,_),(2,_),(3,_),(70,_)]) (.c4 rfl rfl rfl rfl)) ?_
   exact jE (_) (.c4 rfl rfl rfl rfl) ⟨qh14,by simp_all [fD]⟩
  rintro b70 w17 ⟨q17,rfl⟩
  refine kpC [(0,_),(2,_),(3,_),(70,_)] (.c4 rfl rfl rfl rfl) (cd rfl (λc5=>?_) (λc5=>?_))
  ·refine sr (mv rfl ?_)
   replace hs:=(((hs.ext (q1.n1 q2)).fr q3 (by intro k hk hb;simp at hk;subst hk;have:=hsb _ hb;omega)).fr q4 (by intro k hk hb;simp at hk;subst hk;have:=hsb _ hb;omega)).ext q17
   refine z1a (p:=2) ([]) rfl hs rfl z3o rfl (λad83 hc83=>(z1i rfl (hc83 _ hs) na9 ?_))
   replace hG:=(hG.fr q4 (by first|exact z9e hG (by omega)|simp[z0v]<;>omega)).ext q17
   refine cl (ev1 rfl) (mkC func222) (x0j _ _ hG (hlw _)) rfl ?_
   rintro _ w18 ⟨e,rfl,q18⟩
   refine mv rfl (xt rfl rfl (xt rfl rfl (fad rfl z4e ?_)))
   replace hb3:=hb3.ext (q17.n1 q18)
   refine z4l (cs':=[_,_,_,_,_,_]) rfl rfl hb3 (by first|(simp [Value.oneCell',S];done)|exact Enc.one _ _) y9k rfl (λw19 hb3 q19 z19=>?_)
   refine kpL [(0,_),(2,_),(3,_)] (.c3 rfl rfl rfl) (nn ?_)
   replace hG:=(hG.ext q18).fr q19 (by first|exact z9e hG (by omega)|simp[z0v]<;>omega)
   replace hs:=(hs.ext q18).fr q19 (by intro k hk hb;simp at hk;subst hk;have:=hsb _ hb;omega)
   replace hb2:=((((hb2.ext q2).fr q3).fr q4).ext (q17.n1 q18)).fr q19
   intro a h
   have qh16:=Fr.refl [g3] w19
   refine z3y (λwb w'=>Fr [g3] wb w') z2r ?_;intro w20 hq
   replace hG:=hG.ext hq
   replace hs:=hs.ext hq
   replace hb2:=hb2.ext hq
   replace hb3:=hb3.ext hq
   replace qh16:=qh16.next hq
   have hsz:=hq.size;clear hq;have hC:Fr [g3] w20 w20:=Fr.refl _ _
   have hG_b:=hG
   have hs_b:=hs
   have hb2_b:=hb2
   have hb3_b:=hb3
   refine z0e 0 h rfl rfl λa h=>z1k (p:=1) ([]) 1 h rfl hs rfl z3o rfl ?_ (hp:=rfl);clear h a;intro ad90 hc90 a h
   refine z3e 2 h rfl (λ_ hw=>hc90 _ (hs_b.fr hw (by intro k hk hb;simp at hk;subst hk;have:=hsb _ hb;omega))) na9 rfl λa h=>z0e 4 h rfl rfl λa h=>z1k (p:=3) ([]) 5 h rfl hs rfl z3o rfl ?_ (hp:=rfl);clear h a;intro ad94 hc94 a h
   refine z3e 6 h rfl (λ_ hw=>hc94 _ (hs_b.fr hw (by intro k hk hb;simp at hk;subst hk;have:=hsb _ hb;omega))) na9 rfl λa h=>z0d 3 rfl ?_
   refine z0m h (z0a rfl z0g) (mkC func221) (u0s _ _ hG) ?_;rintro _ w21 ⟨rfl,hq⟩ a h
   replace hG:=hG.ext hq
   replace hs:=hs.ext hq
   replace hb2:=hb2.ext hq
   replace hb3:=hb3.ext hq
   replace qh16:=qh16.next hq
   replace hC:=hC.next hq
   clear hq
   refine z0b ?_
   refine z0c 9 h rfl z8a rfl λa h=>z0d 7 rfl ?_
   refine z0m h (z0a rfl z0g) (mkC func220) (z9y _ _ hG (hlw _)) ?_;rintro _ w22 ⟨rfl,hq⟩ a h
   replace hG:=hG.ext hq
   replace hs:=hs.ext hq
   replace hb2:=hb2.ext hq
   replace hb3:=hb3.ext hq
   replace qh16:=qh16.next hq
   replace hC:=hC.next hq
   clear hq
   refine z0b ?_
   refine x4r 8 hC h wn rfl (by rw [underlying3];rfl) underlying5 (by first|exact IntWalk.u8_in _ (by omega)|rfl) rfl rfl λa h=>z0d 10 rfl ?_
   refine z4h h rfl rfl hb3 rfl rfl rfl j4b λw23 hbn hq hz a h=>?_
   replace hG:=hG.fr hq (by simp[z0v]<;>omega)
   replace hs:=hs.fr hq (by intro k hk hb;simp at hk;subst hk;have:=hsb _ hb;omega)
   replace hb2:=hb2.fr hq
   replace qh16:=qh16.sp hq
   replace hC:=hC.sp hq
   clear hb3 hq hz;have hb3:Blk w23 g3 _ [_,_,_,_,_,_]:=hbn;clear hbn
   refine z0b ?_
   refine z0c 11 h rfl z3i rfl λa h=>z0d 12 rfl ?_
   refine z4h h rfl rfl hb3 rfl rfl rfl sz5 λw24 hbn hq hz a h=>?_
   replace hG:=hG.fr hq (by simp[z0v]<;>omega)
   replace hs:=hs.fr hq (by intro k hk hb;simp at hk;subst hk;have:=hsb _ hb;omega)
   replace hb2:=hb2.fr hq
   replace qh16:=qh16.sp hq
   replace hC:=hC.sp hq
   clear hb3 hq hz;have hb3:Blk w24 g3 _ [_,_,_,_,_,_]:=hbn;clear hbn
   refine z0b ?_
   refine z0r ?_
   clear hC hG_b hs_b hb2_b hb3_b
   refine bk (h.sub (L':=[(2,_),(3,_)]) (.c2 rfl rfl)) (bn' ?_)
   exact jE (()) (.c2 rfl rfl) ⟨((Fr.refl [g3] _).z4 q17 q18 q19 qh16),by rw [z3r,y4c,if_neg c2,if_neg c3,if_neg c4,if_pos c5];exact hb3⟩
  refine jn (ι:=Bool) [(0,_),(2,_),(3,_)] (λb17=>[(100,.bool b17)]) (λb17 w'=>Fr [] w17 w'/\b17=decide (fN (y7v (ws.getD 0 []))=true/\(ws.length:Int)=2)) (.c3 rfl rfl rfl) ?_ ?_
  ·replace hG:=(hG.fr q4 (by first|exact z9e hG (by omega)|simp[z0v]<;>omega)).ext q17
   replace hs:=(((hs.ext (q1.n1 q2)).fr q3 (by intro k hk hb;simp at hk;subst hk;have:=hsb _ hb;omega)).fr q4 (by intro k hk hb;simp at hk;subst hk;have:=hsb _ hb;omega)).ext q17
   replace hb2:=(((hb2.ext q2).fr q3).fr q4).ext q17
   replace hb3:=hb3.ext q17
   intro a h
   have qh17:=Fr.refl [] w17
   refine z3y (λwb w'=>Fr [] wb w') z2r ?_;intro w25 hq
   replace hG:=hG.ext hq
   replace hs:=hs.ext hq
   replace hb2:=hb2.ext hq
   replace hb3:=hb3.ext hq
   replace qh17:=qh17.next hq
   have hsz:=hq.size;clear hq;have hC:Fr [] w25 w25:=Fr.refl _ _
   have hG_b:=hG
   have hs_b:=hs
   have hb2_b:=hb2
   have hb3_b:=hb3
   refine z0c 1 h rfl z9g rfl λa h=>z0l 2 h rfl (λ_ hw=>hb3_b.ext hw) rfl v7t rfl λa h=>z0d 0 rfl ?_
   refine z0m h z0g (mkC func106) (y8j _) ?_;rintro _ w26 ⟨gm,rfl,hgm1,hgm2,hm,hq⟩ a h
   replace hG:=hG.ext hq
   replace hs:=hs.ext hq
   replace hb2:=hb2.ext hq
   replace hb3:=hb3.ext hq
   replace qh17:=qh17.next hq
   replace hC:=hC.next hq
   clear hq
   refine z0b ?_
   refine z0d 3 rfl ?_
   refine y0m (V:=kV) (k:=(y7v (ws.getD 0 []))) h rfl rfl hm y4y underlying190 x1w (z7k _) rfl λa h=>?_
   refine z0b ?_
   refine z0d 4 rfl ?_
   refine x6r h rfl (λw=>fld1 _ w) rfl λa h=>?_
   refine z0b ?_
   refine z0e 5 h rfl rfl λa h=>?_
   refine gSp (D:=106) h rfl ?_ ?_
   ·clear h;intro g4 h
    refine z0e 6 h rfl rfl ?_ (hG:=(wy rfl));clear h a;intro a h
    refine z7v 7 hC h (wy rfl) rfl underlying153 rfl λa h=>v9j 8 hC h (wy rfl) rfl rfl rfl rfl λa h=>z0d 9 rfl ?_
    refine z5j h rfl rfl rfl rfl λa h=>?_
    refine z0b ?_
    refine z0d 10 rfl ?_
    refine z0q h rfl λa h=>?_
    refine z0b ?_
    refine z0r ?_
    clear hC hG_b hs_b hb2_b hb3_b
    refine bk (h.sub (L':=[(0,_),(2,_),(3,_),(100,_)]) (.c4 rfl rfl rfl rfl)) ?_
    exact jE (_) (.c4 rfl rfl rfl rfl) ⟨qh17,by simp_all [fN]⟩
   clear h;intro g4 h
   refine z2h 6 h rfl rfl rfl λa h=>z2h 7 h rfl rfl rfl λa h=>z2h 8 h rfl rfl rfl λa h=>z0d 9 rfl ?_
   refine z4j h rfl rfl rfl rfl λa h=>?_
   refine z0b ?_
   refine z0d 10 rfl ?_
   refine z0q h rfl λa h=>?_
   refine z0b ?_
   refine z0r ?_
   clear hC hG_b hs_b hb2_b hb3_b
   refine bk (h.sub (L':=[(0,_),(2,_),(3,_),(100,_)]) (.c4 rfl rfl rfl rfl)) ?_
   exact jE (_) (.c4 rfl rfl rfl rfl) ⟨qh17,by simp_all [fN]⟩
  rintro b17 w27 ⟨q27,rfl⟩
  refine kpC [(0,_),(2,_),(3,_),(100,_)] (.c4 rfl rfl rfl rfl) (cd rfl (λc6=>?_) (λc6=>?_))
  ·refine rg (mv rfl ?_)
   replace hs:=(((hs.ext (q1.n1 q2)).fr q3 (by intro k hk hb;simp at hk;subst hk;have:=hsb _ hb;omega)).fr q4 (by intro k hk hb;simp at hk;subst hk;have:=hsb _ hb;omega)).ext (q17.n1 q27)
   refine z1a (p:=1) ([]) rfl hs rfl z3o rfl (λad113 hc113=>(z1i rfl (hc113 _ hs) na9 ?_))
   replace hG:=(hG.fr q4 (by first|exact z9e hG (by omega)|simp[z0v]<;>omega)).ext (q17.n1 q27)
   refine cl (ev1 rfl) (mkC func222) (x0j _ _ hG (hlw _)) rfl ?_
   rintro _ w28 ⟨e,rfl,q28⟩
   refine mv rfl (xt rfl rfl (xt rfl rfl (fad rfl z4e ?_)))
   replace hb3:=hb3.ext (q17.n2 q27 q28)
   refine z4l (cs':=[_,_,_,_,_,_]) rfl rfl hb3 (by first|(simp [Value.oneCell',S];done)|exact Enc.one _ _) y9k rfl (λw29 hb3 q29 z29=>?_)
   refine kpL [(2,_),(3,_)] (.c2 rfl rfl) (nl (bn' ?_))
   exact jE (()) (.c2 rfl rfl) ⟨((Fr.refl [g3] _).z4 q17 q27 q28 q29),by rw [z3r,y4c,if_neg c2,if_neg c3,if_neg c4,if_neg c5,if_pos c6];exact hb3⟩
  refine sk (bn' ?_)
  replace hb3:=hb3.ext (q17.n1 q27)
  exact jE (()) (.c2 rfl rfl) ⟨((Fr.refl [g3] _).n2 q17 q27),by rw [z3r,y4c,if_neg c2,if_neg c3,if_neg c4,if_neg c5,if_neg c6];exact hb3⟩
 rintro _j w30 ⟨q30,hb3⟩
 have lt_hb3:=hb3.lt
 refine kpC [(2,_),(3,_)] (.c2 rfl rfl) (sr (z0n rfl hb3 z9j ?_))
 replace hb2:=(((hb2.ext q2).fr q3).fr q4).fr q30
 refine z0j rfl rfl hb2 x9c (λw31 hb2 q31 z31=>?_) (hl:=rfl)
 refine nn (rt (rC results183 rfl hb2 z9j  ?_))
 exact ⟨_,rfl,rfl,(q1.z5 q2 q3 q4 q30 q31)⟩
theorem v8u (l:List UInt8) (w0:World) (hG:Glob w0) (hl:l.length<=1000000):Rets prog 128 #[S l] w0 λr w'=>∃o e,y3o l=(o,e)/\r=.tuple #[opV o,.int .i64 e]/\Fr [] w0 w':=by
 have hGs:=hG.sz
 refine we [(0,S l)] func128 rfl ntmps128 rfl (.cons rfl .nil) (sr (al x7e rfl rfl (λg2 w1 hg2 hb2 q1 z1=>(asg rfl (nn (sr (mv rfl ?_)))))))
 replace hG:=hG.ext q1
 refine cl (ev2 rfl rfl) (mkC func125) (x6w _ _ _ hG (by omega) (by decide)) rfl ?_
 rintro v6 w2 ⟨ho6,q2⟩
 have z2:=q2.size
 replace hG:=hG.ext q2
 refine cl (ev1 rfl) (mkC func183) (v6x _ _ _ hG ho6.sl (v2v _ _) (λi=>Nat.le_trans (x0v _ _ i) hl)) rfl ?_
 rintro _ w3 ⟨rfl,q3⟩
 have z3:=q3.size
 refine al x7e rfl rfl (λg4 w4 hg4 hb4 q4 z4=>(z0j rfl rfl hb4 x9c (λw5 hb4 q5 z5=>?_) (hl:=rfl)))
 refine nn (sq (sq ?_))
 refine x8z (r:=16) (L':=[(2,_),(4,_)]) ((((y9j (z3r (Lib.split l [32])))≠0)\/((u9o (z3r (Lib.split l [32])))≠l))) (.c2 rfl rfl) ?_ ?_
 ·refine z0n rfl hb4 z9j (cl (ev1 rfl) (mkC func21) (y6x (z3r (Lib.split l [32])) _) rfl ?_)
  rintro _ w6 ⟨rfl,q6⟩
  have z6:=q6.size
  refine ne' rfl rfl (mv rfl (gs 11 rfl (λg0=>?_) (λg0=>?_)))
  ·exact gN rfl rfl (gN rfl rfl (gN rfl rfl (gN rfl rfl (pkt rfl rfl (y0k rfl (.c2 rfl rfl) q6)))))
  refine gY rfl ?_
  replace hb4:=hb4.ext q6
  refine z0n rfl hb4 z9j (gY rfl ?_)
  replace hG:=((hG.ext (q3.n1 q4)).fr q5 (by first|exact z9e hG (by omega)|simp[z0v]<;>omega)).ext q6
  refine cl (ev1 rfl) (mkC func184) (u3h (z3r (Lib.split l [32])) _ hG) rfl ?_
  rintro _ w7 ⟨rfl,q7⟩
  have z7:=q7.size
  exact gY rfl (mv rfl (gY rfl (u6a rfl rfl rfl (pkf rfl rfl (y0k rfl (.c2 rfl rfl) (q6.n1 q7))))))
 intro w8 q8;have z8:=q8.size
 refine tn (cd rfl (λc0=>?_) (λc0=>?_))
 ·refine sr (z1r (cs:=[_,_,_,_,_,_]) z0g u3u z0s rfl ?_)
  replace hb2:=((hb2.ext (q2.n2 q3 q4)).fr q5).ext q8
  refine z0j rfl rfl hb2 x9c (λw9 hb2 q9 z9=>?_) (hl:=rfl)
  refine asg rfl (nn (rt (tr (rCT results128 rfl hb2 z9j rfl ?_))))
  exact ⟨_,rfl,op0,4,by rw [y3o,if_pos c0],rfl,(q1.z6 q2 q3 q4 q5 q8 q9)⟩
 refine sk (tn (sr ?_))
 replace hb4:=hb4.ext q8
 refine z0n rfl hb4 z9j ?_
 replace hb2:=((hb2.ext (q2.n2 q3 q4)).fr q5).ext q8
 refine z0j rfl rfl hb2 x9c (λw10 hb2 q10 z10=>?_) (hl:=rfl)
 refine asg rfl (nn (rt (rCT results128 rfl hb2 z9j rfl ?_)))
 exact ⟨_,rfl,(z3r (Lib.split l [32])),0,by rw [y3o,if_neg c0],rfl,(q1.z6 q2 q3 q4 q5 q8 q10)⟩
theorem x8q (l:List UInt8) (w0:World) (hG:Glob w0) (hl:l.length<=1000000):Rets prog 79 #[S l] w0 λr w'=>∃A os n e,y6w l=(os,n,e)/\r=.tuple #[.slice A os.length os.length,.int .i64 n,.int .i64 e]/\Lw.Own z6s 28 w0.heap.size w' (.slice A os.length os.length) os/\Fr [] w0 w':=by
 have hsl:=λi=>x0v l [10] i
 have hGs:=hG.sz
 refine we [(0,S l)] func79 rfl ntmps79 rfl (.cons rfl .nil) (sr (asg rfl (asg rfl (asg rfl (nn (sr (asg rfl (nn (sq (sr (mv rfl (cl (ev2 rfl rfl) (mkC func125) (x6w _ _ _ hG (by omega) (by decide)) rfl ?_))))))))))))
 rintro v12 w1 ⟨ho12,q1⟩
 have z1:=q1.size
 obtain ⟨A12,c12,rfl,hc12⟩:=ho12.sl.form
 have hLb:=λk hk=>(ho12.blk k hk).2
 have hnl:=ho12.sl.len_le
 unfold maxLen at hnl
 refine lnS rfl underlying153 (mv rfl (nn (bl ?_)))
 refine lpK (ι:=Nat×List MOp×Option Addr×Nat) [(12,_),(13,_)] (λp=>[(5,.slice p.2.2.1 p.2.1.length p.2.2.2),(14,.int .i64 (p.1:Int))]) (λp w'=>Fr [] w1 w'/\p.1<=(Lib.split l [10]).length/\Lw.Own z6s 28 w1.heap.size w' (.slice p.2.2.1 p.2.1.length p.2.2.2) p.2.1/\x8a ((Lib.split l [10]).drop p.1) p.1 p.2.1=y6w l/\p.2.1.length<=4096) (λp=>(Lib.split l [10]).length-p.1) (0,[],none,0) (.c4 rfl rfl rfl rfl) ⟨Fr.refl _ _,⟨Nat.zero_le _,Own.nil _,rfl,by decide⟩⟩ ?_
 rintro ⟨i,acc,A5,c5⟩ w2 ⟨q2,⟨hi,ho5,hpr,hal⟩⟩
 simp only at hi ho5 hpr hal
 have z2:=q2.size
 refine kpC [(12,_),(13,_),(5,.slice A5 acc.length c5),(14,.int .i64 (i:Int))] (.c4 rfl rfl rfl rfl) (sr (lt' rfl rfl (nn (sq (cd rfl (λc0=>?_) (λc0=>?_))))))
 ·rw [v1r (Lib.split l [10]) i [] (by omega),x8a] at hpr
  have hdx:=hsl i
  refine sk (tn (sq (bl (sr (mv rfl ?_)))))
  replace ho12:=ho12.ext q2
  refine z1a (p:=i) ([]) rfl ho12.sl rfl z3o (by omega) (λad17 hc17=>(z1i rfl (hc17 _ ho12.sl) na9 (asg rfl (asg rfl (nn (sr (mv rfl ?_)))))))
  replace hG:=hG.ext (q1.n1 q2)
  refine cl (ev2 rfl rfl) (mkC func126) (u6w _ _ _ hG (by have:=hsl i;omega)) rfl ?_
  rintro _ w3 ⟨rfl,q3⟩
  have z3:=q3.size
  refine mv rfl (xt rfl rfl (xt rfl rfl (xt rfl rfl (asg rfl (kpL [(5,_),(6,_),(7,_),(12,_),(13,_),(14,_)] (.c6 rfl rfl rfl rfl rfl rfl) (nn (sr (mv rfl ?_))))))))
  refine cl (ev2 rfl rfl) (mkC func127) (u6g _ _ (by have:=hsl i;have:=v0i ((Lib.split l [10]).getD i []) [35];omega)) rfl ?_
  rintro _ w4 ⟨rfl,q4⟩
  have z4:=q4.size
  refine asg rfl (nn (sq (sr (mv rfl (v8a rfl rfl rfl (nn (cd rfl (λc1=>?_) (λc1=>?_))))))))
  ·rw [if_pos (show y6z ((Lib.split l [10]).getD i [])=[] from c1)] at hpr
   refine ex (te (xh (tn (rg (z0y rfl rfl (wi6 (by omega)) (mv rfl (nl ?_)))))))
   replace ho5:=ho5.ext (q3.n1 q4)
   exact lpE ((i+1,acc,A5,c5)) (.c4 rfl rfl rfl rfl) ⟨(q2.n2 q3 q4),⟨by omega,ho5,by simpa using hpr,hal⟩⟩ (by omega)
  rw [if_neg (show ¬y6z ((Lib.split l [10]).getD i [])=[] from c1)] at hpr
  refine sk (tn (sr (mv rfl ?_)))
  replace hG:=hG.ext (q3.n1 q4)
  refine cl (ev1 rfl) (mkC func128) (v8u _ _ hG (by have:=hsl i;have:=v9p ((Lib.split l [10]).getD i []);unfold y6z at this;omega)) rfl ?_
  rintro _ w5 ⟨o,e,hpe,rfl,q5⟩
  have z5:=q5.size
  rw [show y3o (y6z ((Lib.split l [10]).getD i []))=(o,e) from hpe] at hpr
  simp only at hpr
  refine mv rfl (xt rfl rfl (xt rfl rfl (al x7e rfl rfl (λg8 w6 hg8 hb8 q6 z6=>(z0j rfl rfl hb8 x9c (λw7 hb8 q7 z7=>?_) (hl:=rfl))))))
  refine asg rfl (kpL [(5,_),(6,_),(8,_),(9,_),(12,_),(13,_),(14,_)] (.c7 rfl rfl rfl rfl rfl rfl rfl) (nn (sq (sr (mv rfl (ne' rfl rfl (nn (cd rfl (λc2=>?_) (λc2=>?_)))))))))
  ·rw [if_pos c2] at hpr
   refine sr (mv rfl (z0y rfl rfl (wi6 (by omega)) (mv rfl (asg rfl (asg rfl (asg rfl (kpL [(2,_),(3,_),(4,_)] (.c3 rfl rfl rfl) (nn (rt (tr (rb (tr (tr (rb (tr (r3 results79 rfl rfl rfl ?_))))))))))))))))
   exact ⟨_,rfl,none,[],_,_,hpr.symm,rfl,Own.nil _,(q1.z6 q2 q3 q4 q5 q6 q7)⟩
  rw [if_neg c2] at hpr
  refine sk (tn (sq (sr (mv rfl (lnS rfl underlying29 (eq' rfl rfl (nn (cd rfl (λc3=>?_) (λc3=>?_)))))))))
  ·rw [if_pos c3] at hpr
   refine sr (mv rfl (z0y rfl rfl (wi6 (by omega)) (asg rfl (asg rfl (asg rfl (kpL [(2,_),(3,_),(4,_)] (.c3 rfl rfl rfl) (nn (rt (tr (rb (tr (tr (rb (tr (r3 results79 rfl rfl rfl ?_)))))))))))))))
   exact ⟨_,rfl,none,[],_,_,hpr.symm,rfl,Own.nil _,(q1.z6 q2 q3 q4 q5 q6 q7)⟩
  rw [if_neg c3] at hpr
  refine sk (tn (rg (mv rfl (z0n rfl hb8 z9j (z2f ([o]) (ev1 rfl) rfl rfl rfl x4z (λg46 w8 hg46 ho46 q8 z8=>?_))))))
  replace hG:=((hG.ext (q5.n1 q6)).fr q7 (by first|exact z9e hG (by omega)|simp[z0v]<;>omega)).ext q8
  replace ho12:=((ho12.ext (q3.n3 q4 q5 q6)).fr q7 (by first|exact z9e ho12 (by omega)|simp[z0v]<;>omega)).ext q8
  replace ho5:=((ho5.ext (q3.n3 q4 q5 q6)).fr q7 (by first|exact z9e ho5 (by omega)|simp[z0v]<;>omega)).ext q8
  have hoo47:=ho5
  refine z1x rfl rfl ho5 ho46.sl x4z (by unfold maxLen;simp;omega) (by simp;omega) (λv47 w9 ho5 q9 hor47=>?_)
  have z9:=q9.size
  replace hG:=hG.fr q9 (λk hk=>by have:=(hoo47.blk k hk).1;omega)
  replace ho12:=ho12.fr q9 (λk hk hb=>by have:=(hoo47.blk k hk).1;have:=hLb k hb;omega)
  obtain ⟨A7,c7,rfl,hc7⟩:=ho5.sl.form
  refine asg rfl (kpL [(5,_),(12,_),(13,_),(14,_)] (.c4 rfl rfl rfl rfl) (nl (bn' (tn (rg (z0y rfl rfl (wi6 (by omega)) (mv rfl (nl ?_))))))))
  exact lpE ((i+1,acc++[o],A7,c7)) (.c4 rfl rfl rfl rfl) ⟨((q2.z6 q3 q4 q5 q6 q7 q8).step q9 (λk hk hlt=>absurd (hoo47.blk k hk).1 (by omega))),⟨by omega,ho5,by simpa using hpr,by simp;omega⟩⟩ (by omega)
 obtain rfl:i=(Lib.split l [10]).length:=by omega
 rw [List.drop_length,x8a] at hpr
 refine ex (te (te (xh (tn (sr (mv rfl (lnS rfl underlying29 (z1e (m:=acc.length) (c:=acc.length) op0 rfl rfl x4z x7e rfl (λg51 w10 hg51 ho10 q10 z10=>?_) (hmc:=(Nat.le_refl _))))))))))
 refine asg rfl (kpL [(5,_),(10,_)] (.c2 rfl rfl) (nn (sr (mv rfl (mv rfl ?_)))))
 replace ho5:=ho5.ext q10
 refine z6z (zs:=List.replicate acc.length op0) (by rw [List.length_replicate];rfl) rfl (by rw [List.length_replicate];exact ho10) ho5.sl (by rw [List.length_replicate]) x4z (λw11 ho10 q11 z11=>?_)
 rw [List.length_replicate] at ho10
 refine nn (sr (mv rfl (asg rfl (asg rfl (asg rfl (nn (rt (r3 results79 rfl rfl rfl ?_))))))))
 exact ⟨_,rfl,some ⟨g51,0,none⟩,acc,0,0,hpr.symm,rfl,ho10.low (by omega),(q1.z3 q2 q10 q11)⟩
end Go.Proofs.YtpgdchkdlgkmgaaGreatDoor
namespace Go.G08
open Go.Lw Go.G21
def u0w:Nat->Nat->List UInt8
  | 0,_=>[]
  | f+1,u=>if u<10 then [UInt8.ofNat (48+u)] else u0w f (u / 10)++[UInt8.ofNat (48+u % 10)]
theorem x9j:∀f u,u<10 ^ (f+1)->Lib.decDigits u=u0w (f+1) u
 | f,u,h=>by
  rw [Lib.decDigits,u0w]
  by_cases k:u<10
  ·rw [dif_pos k,if_pos k]
  rw [dif_neg k,if_neg k]
  cases f with
  | zero=>omega
  | succ f=>rw [x9j f (u / 10) (by rw [Nat.pow_succ] at h;omega)]
theorem y9b:∀f u,(u0w f u).length<=f
 | 0,_=>by simp [u0w]
 | f+1,u=>by
  rw [u0w];split
  ·simp
  have:=y9b f (u / 10);simp;omega
def v4l (n:Int):List UInt8:=if n<0 then 45::u0w 8 n.natAbs else u0w 8 n.toNat
theorem u5j {n:Int} (h:-99999999<=n/\n<=99999999):Lib.itoa n=v4l n:=by
 unfold Lib.itoa v4l
 split<;>rw [x9j 7 _ (by omega)]
theorem z8y (n:Int):(v4l n).length<=9:=by
 unfold v4l;split
 ·have:=y9b 8 n.natAbs;simp;omega
 have:=y9b 8 n.toNat;omega
def z6l (i:LId):List UInt8:=v4l i.y++[46]++v4l i.n
theorem y0j (i:LId):(z6l i).length<=19:=by
 unfold z6l
 have h1:=z8y i.y;have h2:=z8y i.n
 simp;omega
def z4g (wd:List UInt8) (l:List LId):List (List UInt8):=wd::l.map z6l
def y9p (p:Pa):List UInt8:=if p.f=true then (z6l p.id++(if p.d=1 then [62] else [60]))++[43] else z6l p.id++(if p.d=1 then [62] else [60])
def x1l:List UInt8:=[102,114,111,110,116]
def v0l:List UInt8:=[98,97,99,107]
def j3t:List UInt8:=[110,101,119]
def j3a:List UInt8:=[116,104,114,111,117,103,104]
def u5x:List UInt8:=[112,97,115,116]
def x6j:List UInt8:=[99,114,111,115,115]
def v8r:List UInt8:=[104,101,108,100]
def y1f:List UInt8:=[102,97,108,108,101,110]
def y4i (i:LId) (l:Lp):List (List UInt8):=[z6l i,if l.b=1 then v0l else x1l]++(if l.nw=true then [j3t] else [])
def y4a (i:LId) (l:Lp):List (List UInt8):=y4i i l++(if l.th=[] then [] else z4g j3a l.th)
def y5a (i:LId) (l:Lp):List (List UInt8):=y4a i l++(if l.pa=[] then [] else [u5x])
def y8q (i:LId) (l:Lp):List (List UInt8):=y5a i l++l.pa.map y9p
def y1c (ws:List (List UInt8)):List UInt8:=Lib.join ws [32]++[10]
def x3h (y:Nat):Nat->List Lp->List UInt8
  | _,[]=>[]
  | n,l::r=>y1c (y8q ⟨(y:Int)+1,(n:Int)⟩ l)++x3h y (n+1) r
def y8w:Nat->Tb->List UInt8
  | _,[]=>[]
  | y,r::T=>x3h y 0 r++y8w (y+1) T
def y3w:List Cx->List UInt8
  | []=>[]
  | c::l=>y1c [x6j,z6l c.a,z6l c.b,v4l c.n]++y3w l
def y3x (h:List LId):List UInt8:=if h=[] then [] else y1c (z4g v8r h)
def y3m (f:List LId):List UInt8:=if f=[] then [] else y1c (z4g y1f f)
def u8c (T:Tb) (c:List Cx) (h f:List LId):List UInt8:=y8w 0 T++(y3w c++(y3x h++y3m f))
theorem x8v {y n:Nat} {r:List Lp} (h:n<r.length):x3h y n (r.drop n)=y1c (y8q ⟨(y:Int)+1,(n:Int)⟩ (r.getD n lq0.p))++x3h y (n+1) (r.drop (n+1)):=by
 rw [List.drop_eq_getElem_cons h,x3h,List.getD,List.getElem?_eq_getElem h];rfl
theorem x8n {y:Nat} {T:Tb} (h:y<T.length):y8w y (T.drop y)=x3h y 0 (T.getD y [])++y8w (y+1) (T.drop (y+1)):=by
 rw [List.drop_eq_getElem_cons h,y8w,List.getD,List.getElem?_eq_getElem h];rfl
theorem x7t {i:Nat} {l:List Cx} (h:i<l.length):y3w (l.drop i)=y1c [x6j,z6l (l.getD i cx0).a,z6l (l.getD i cx0).b,v4l (l.getD i cx0).n]++y3w (l.drop (i+1)):=by
 rw [List.drop_eq_getElem_cons h,y3w,List.getD,List.getElem?_eq_getElem h];rfl
end Go.G08
namespace Go.G08
open Go.Lw Go.G21
def IdS (x:LId):Prop:=(-99999999<=x.y/\x.y<=99999999)/\(-99999999<=x.n/\x.n<=99999999)
theorem z5s (wd:List UInt8) (l:List LId):(z4g wd l).length=l.length+1:=by unfold z4g;simp
theorem x3s {wd:List UInt8} {l:List LId} {i:Nat} (h:i<l.length):z4g wd (l.take (i+1))=z4g wd (l.take i)++[z6l (l.getD i id0)]:=by
 unfold z4g;rw [z5x id0 h];simp
theorem u5a {x:LId} {l:Lp} (h:l.nw=true):y4i x l=[z6l x,if l.b=1 then v0l else x1l]++[j3t]:=by unfold y4i;rw [if_pos h]
theorem u6j {x:LId} {l:Lp} (h:¬l.nw=true):y4i x l=[z6l x,if l.b=1 then v0l else x1l]:=by unfold y4i;rw [if_neg h,List.append_nil]
theorem u6b {x:LId} {l:Lp} (h:0<l.th.length):y4a x l=y4i x l++z4g j3a l.th:=by
 unfold y4a;rw [if_neg];intro e;rw [e] at h;cases h
theorem u3m {x:LId} {l:Lp} (h:¬0<l.th.length):y4a x l=y4i x l:=by
 unfold y4a;rw [if_pos (List.length_eq_zero_iff.1 (by omega)),List.append_nil]
theorem u4t {x:LId} {l:Lp} (h:0<l.pa.length):y5a x l=y4a x l++[u5x]:=by
 unfold y5a;rw [if_neg];intro e;rw [e] at h;cases h
theorem u2x {x:LId} {l:Lp} (h:¬0<l.pa.length):y5a x l=y4a x l:=by
 unfold y5a;rw [if_pos (List.length_eq_zero_iff.1 (by omega)),List.append_nil]
theorem x0o (x:LId) (l:Lp):(y4i x l).length<=3:=by unfold y4i;(repeat' split)<;>simp
theorem x2f (x:LId) (l:Lp):(y4a x l).length<=4+l.th.length:=by
 have:=x0o x l
 unfold y4a;split
 ·simp;omega
 rw [List.length_append,z5s];omega
theorem x1k (x:LId) (l:Lp):(y5a x l).length<=5+l.th.length:=by
 have:=x2f x l
 unfold y5a;split
 ·simp;omega
 rw [List.length_append,List.length_singleton];omega
theorem v4z (x:LId) (l:Lp):(y8q x l).length<=5+l.th.length+l.pa.length:=by
 have:=x1k x l
 unfold y8q;rw [List.length_append,List.length_map];omega
theorem v5x (x:LId) (l:Lp):y8q x l≠[]:=by
 intro e
 have:=congrArg List.length e
 unfold y8q y5a y4a y4i at this
 simp at this
end Go.G08
namespace Go.G08
open Go.Lw Go.G21
theorem z8m:∀(T:Tb) (y:Nat),z2t T y<=z4o T
 | [],y=>by simp [z2t]
 | r::T,0=>by simp [z2t,z4o]
 | r::T,y+1=>by
  have:=z8m T y
  simp only [z2t,z4o,List.getD_cons_succ,List.map_cons,List.sum_cons] at this ⊢;omega
theorem z6g {T:Tb} (h:TabOk T) {x:LId} (hx:z4b T x):IdS x:=by
 obtain ⟨h1,h2,h3,h4⟩:=hx
 have:=z8m T (x.y-1).toNat
 have h6:=h.six
 have hc:=h.cnt
 exact ⟨by omega,by omega⟩
theorem u3x {h:List LId} (k:0<h.length):y3x h=y1c (z4g v8r h):=by
 unfold y3x;rw [if_neg];intro e;rw [e] at k;cases k
theorem u4u {h:List LId} (k:¬0<h.length):y3x h=[]:=if_pos (List.length_eq_zero_iff.1 (by omega))
theorem v4a {h:List LId} (k:0<h.length):y3m h=y1c (z4g y1f h):=by
 unfold y3m;rw [if_neg];intro e;rw [e] at k;cases k
theorem v5c {h:List LId} (k:¬0<h.length):y3m h=[]:=if_pos (List.length_eq_zero_iff.1 (by omega))
def j4r (T:Tb):List LId:=(List.range 6).flatMap λy=>(List.range (z2t T y)).map λ(n:Nat)=>(⟨(y:Int)+1,(n:Int)⟩:LId)
theorem x2a:∀ {l m:List LId},l.Nodup->(∀x∈l,x∈m)->l.length<=m.length
 | [],_,_,_=>Nat.zero_le _
 | x::l,m,hn,hs=>by
  have hx:=hs x (by simp)
  have h2:=List.nodup_cons.1 hn
  have:=x2a (l:=l) (m:=m.erase x) h2.2 (λy hy=>(List.mem_erase_of_ne (λe=>h2.1 (by rw [<-e];exact hy))).2 (hs y (List.mem_cons_of_mem _ hy)))
  rw [List.length_erase_of_mem hx] at this
  have h3:=List.length_pos_of_mem hx
  rw [List.length_cons];omega
theorem y4e {T:Tb} (h:TabOk T) {l:List LId} (hh:∀x∈l,z4b T x) (hn:∀x,l.count x<=1):l.length<=100000:=by
 have hs:∀x∈l,x∈j4r T:=λx hx=>by
  obtain ⟨y,n,hy,hn,rfl⟩:=y8f h.six (hh x hx)
  exact List.mem_flatMap.2 ⟨y,List.mem_range.2 hy,List.mem_map.2 ⟨n,List.mem_range.2 hn,rfl⟩⟩
 have hd:l.Nodup:=List.nodup_iff_count.2 hn
 have hle:=x2a hd hs
 have e:(j4r T).length=z2t T 0+(z2t T 1+(z2t T 2+(z2t T 3+(z2t T 4+z2t T 5)))):=by
  unfold j4r
  rw [show List.range 6=[0,1,2,3,4,5] from rfl]
  simp
 have h0:=z8m T 0;have h1:=z8m T 1;have h2:=z8m T 2;have h3:=z8m T 3;have h4:=z8m T 4;have h5:=z8m T 5
 have:=h.cnt
 omega
end Go.G08
namespace Go.Proofs.YtpgdchkdlgkmgaaGreatDoor
open Go.Lw Go.G21 Go.G08 _root_.Go.Proofs.Tryz
theorem x4i (n:Int) (w0:World) (hG:Glob w0) (h:-99999999<=n/\n<=99999999):Rets prog 86 #[.int .i64 n] w0 λv w'=>v=S (v4l n)/\Fr [] w0 w':=by
 refine Calls.mono (strconv_Itoa n (by omega) (by omega) w0 hG.tab) ?_
 rintro e w' ⟨rfl,k,os,rfl⟩
 exact ⟨_,rfl,by rw [u5j h];rfl,v1j _ _ _⟩
theorem y4v (x:LId) (w0:World) (hG:Glob w0) (hx:IdS x):Rets prog 85 #[.agg #[.int .u8 x.y,.int .i64 x.n]] w0 λr w'=>r=S (z6l x)/\Fr [] w0 w':=by
 have hx1:=hx.1
 have hx2:=hx.2
 have hGs:=hG.sz
 refine we [(0,.agg #[.int .u8 x.y,.int .i64 x.n])] func85 rfl ntmps85 rfl (.cons rfl .nil) ?_
 have hG0:=hG
 refine sr (bx rfl rfl rfl (λg1 w1 hg1 hb1 q1 z1=>(asg rfl (nn (sq ?_)))))
 replace hG:=hG0.ext q1
 intro a h
 refine z0h none (λwb w'=>Fr [] wb w') z2r ?_;intro w2 q2
 replace hG:=hG.ext q2
 replace hb1:=hb1.ext q2
 have hC:Fr [] w2 w2:=Fr.refl _ _
 have hG_b:=hG
 have hb1_b:=hb1
 refine z0c 0 h rfl z7e rfl λa h=>z0l 1 h rfl (λ_ hw=>hb1_b.ext hw) rfl na5 rfl λa h=>x4r 2 hC h wn rfl (by rw [underlying5];rfl) underlying3 (by first|exact i6 (by omega)|rfl) rfl rfl λa h=>z0c 5 h rfl z8j rfl λa h=>z0l 6 h rfl (λ_ hw=>hb1_b.ext hw) rfl na3 rfl λa h=>z0d 3 rfl ?_
 refine z0m h (z0a rfl z0g) u7o (x4i x.y _ hG hx.1) ?_;rintro _ w3 ⟨rfl,q3⟩ a h
 replace hG:=hG.ext q3
 replace hC:=hC.next q3
 refine z0b ?_
 refine v3c 4 hC h wn rfl rfl (by have h1_:=z8y x.y;have h2_:=z8y x.n;simp;omega) rfl rfl λa h=>z0d 7 rfl ?_
 refine z0m h (z0a rfl z0g) u7o (x4i x.n _ hG hx.2) ?_;rintro _ w4 ⟨rfl,q4⟩ a h
 replace hC:=hC.next q4
 refine z0b ?_
 refine v3c 8 hC h wn rfl rfl (by have h1_:=z8y x.y;have h2_:=z8y x.n;simp;omega) rfl rfl λa h=>z0d 9 rfl ?_
 refine z0q h rfl λa h=>?_
 refine z0b ?_
 refine z0r ?_
 clear hC hG_b hb1_b
 refine bk (h.sub (L':=[(2,_)]) (.cons rfl .nil)) (tn (rt (r1 results85 rfl ?_)))
 exact ⟨_,rfl,rfl,(q1.n3 q2 q3 q4)⟩
theorem j0w:CallOf prog 85:=mkC func85
theorem v3n:z0z prog 100 1 2:=λ_ _=>by kernel_rfl
theorem y2w (wd:List UInt8) (v:Value) (l:List LId) (w0:World) (hG:Glob w0) (hs:Sl z1h w0 v l) (hb:∀x∈l,IdS x) (hl:l.length<=100000):Rets prog 87 #[S wd,v] w0 λr w'=>Lw.Own Enc.str 9 w0.heap.size w' r (z4g wd l)/\Fr [] w0 w':=by
 obtain ⟨A,c,rfl,hcc,hM,hA⟩:=id hs
 clear hA
 unfold maxLen at hM
 have hGs:=hG.sz
 refine we [(0,S wd),(1,.slice A l.length c)] func87 rfl ntmps87 rfl (.c2 rfl rfl) ?_
 have hs0:=hs
 have hG0:=hG
 refine sr (asg rfl (nn (sr (mv rfl (z2f ([wd]) (ev1 rfl) rfl rfl rfl z3o (λg9 w1 hg9 ho9 q1 z1=>(asg rfl (nn (sq (sr (mv rfl (lnS rfl underlying37 (mv rfl (nn (bl ?_)))))))))))))))
 refine lpK (ι:=Nat×Value) [(10,_),(11,_)] (λp=>[(12,.int .i64 (p.1:Int)),(5,p.2)]) (λp w'=>Fr [] w0 w'/\p.1<=l.length/\Lw.Own Enc.str 9 w0.heap.size w' p.2 (z4g wd (l.take p.1))) (λp=>l.length-p.1) (0,_) (.c4 rfl rfl rfl rfl) ⟨q1,⟨Nat.zero_le _,by rw [List.take_zero];exact ho9.low (by omega)⟩⟩ ?_
 rintro ⟨i,vP⟩ w2 ⟨q2,⟨hip,ho⟩⟩
 simp only at hip ho
 have z2:=q2.size
 refine kpC [(10,_),(11,_),(12,.int .i64 (i:Int)),(5,vP)] (.c4 rfl rfl rfl rfl) ?_
 have hnl:=z5s wd (l.take i)
 have htl:(l.take i).length<=i:=by rw [List.length_take];omega
 refine sr (lt' rfl rfl (nn (sq (cd rfl (λc0=>?_) (λc0=>?_)))))
 ·refine sk (tn (sq (bl (sr ?_))))
  replace hs:=hs0.ext q2
  refine z1a (id0) rfl hs rfl z5v z1f (λad14 hc14=>?_)
  refine z1j rfl (hc14 _ hs) z3g (al y2s rfl rfl (λg7 w3 hg7 hb7 q3 z3=>?_))
  refine z0j (vs:=[_,_]) rfl rfl hb7 y1n (λw4 hb7 q4 z4=>?_) (h1:=(by first|(simp [Value.oneCell',S];done)|exact z1h.one _))
  refine nn (rg (mv rfl (z0n rfl hb7 z3g ?_)))
  replace hG:=hG0.ext (q2.z2 q3 q4)
  refine cl (ev1 rfl) j0w (y4v (l.getD i id0) _ hG (hb _ (z0x (by omega)))) rfl ?_
  rintro _ w5 ⟨rfl,q5⟩
  have z5:=q5.size
  refine z2f ([z6l (l.getD i id0)]) (ev1 rfl) rfl rfl rfl z3o (λg19 w6 hg19 ho19 q6 z6=>?_)
  replace ho:=((ho.ext q3).fr q4 (by first|exact z9e ho (by omega)|simp[z0v]<;>omega)).ext (q5.n1 q6)
  have hoo20:=ho
  refine z1x rfl rfl ho ho19.sl z3o (by unfold maxLen;first|(simp only [List.length_append,List.length_cons,List.length_nil];omega)|omega) (by first|(simp only [List.length_append,List.length_cons,List.length_nil];omega)|omega) (λv20 w7 ho q7 hor20=>?_)
  have z7:=q7.size
  refine asg rfl (kpL [(5,_),(10,_),(11,_),(12,_)] (.c4 rfl rfl rfl rfl) (nl (bn' (tn (rg (z0y rfl rfl (wi6 (by omega)) (mv rfl (nl ?_))))))))
  exact lpE ((i+1,_)) (.c4 rfl rfl rfl rfl) ⟨((q2.z4 q3 q4 q5 q6).step q7 (λk hk hlt=>absurd (hoo20.blk k hk).1 (by omega))),⟨by simp only;omega,by rw [x3s (by omega)];exact ho⟩⟩ (by simp only;omega)
 obtain rfl:i=l.length:=by omega
 rw [List.take_length] at ho
 refine ex (te (te (xh (tn (sr (mv rfl (asg rfl (kpL [(4,_)] (.cons rfl .nil) (nn (rt (r1 results87 rfl ?_)))))))))))
 exact ⟨_,rfl,ho,q2⟩
theorem u5n (p:Pa) (w0:World) (hG:Glob w0) (hx:IdS p.id):Rets prog 131 #[.agg #[.int .u8 p.id.y,.int .i64 p.id.n,.bool p.f,.int .u8 p.d]] w0 λr w'=>r=S (y9p p)/\Fr [] w0 w':=by
 have hGs:=hG.sz
 refine we [(0,.agg #[.int .u8 p.id.y,.int .i64 p.id.n,.bool p.f,.int .u8 p.d])] func131 rfl ntmps131 rfl (.cons rfl .nil) ?_
 have hG0:=hG
 refine sr (bx rfl rfl rfl (λg1 w1 hg1 hb1 q1 z1=>(asg rfl (nn (sr (fad rfl y8n (z1y (vs:=[_,_]) rfl hb1 z3g rfl ?_)))))))
 replace hG:=hG0.ext q1
 refine cl (ev1 rfl) j0w (y4v p.id _ hG hx) rfl ?_
 rintro _ w2 ⟨rfl,q2⟩
 refine asg rfl (nn (sq (sr (fad rfl z6x ?_))))
 replace hb1:=hb1.ext q2
 refine z0i rfl hb1 rfl y7e (eq' rfl rfl (nn (cd rfl (λc0=>?_) (λc0=>?_))))
 ·refine rg (mv rfl (y5z rfl rfl (by have h1_:=y0j p.id;simp;omega) rfl (asg rfl (nl (tn (sq (sr (fad rfl v3n (z0i rfl hb1 rfl na4 (nn ?_))))))))))
  refine cd rfl (λc1=>?_) (λc1=>?_)
  ·refine rg (mv rfl (y5z rfl rfl (by have h1_:=y0j p.id;simp;omega) rfl (asg rfl (nl (tn (sr (mv rfl (asg rfl (nn (rt (r1 results131 rfl ?_)))))))))))
   exact ⟨_,rfl,by unfold y9p;first|rw [if_pos c1,if_pos c0]|rw [if_pos c1,if_neg c0]|rw [if_neg c1,if_pos c0]|rw [if_neg c1,if_neg c0],(q1.n1 q2)⟩
  refine sk (tn (sr (mv rfl (asg rfl (nn (rt (r1 results131 rfl ?_)))))))
  exact ⟨_,rfl,by unfold y9p;first|rw [if_pos c1,if_pos c0]|rw [if_pos c1,if_neg c0]|rw [if_neg c1,if_pos c0]|rw [if_neg c1,if_neg c0],(q1.n1 q2)⟩
 refine rg (mv rfl (y5z rfl rfl (by have h1_:=y0j p.id;simp;omega) rfl (asg rfl (nl (tn (sq (sr (fad rfl v3n (z0i rfl hb1 rfl na4 (nn ?_))))))))))
 refine cd rfl (λc1=>?_) (λc1=>?_)
 ·refine rg (mv rfl (y5z rfl rfl (by have h1_:=y0j p.id;simp;omega) rfl (asg rfl (nl (tn (sr (mv rfl (asg rfl (nn (rt (r1 results131 rfl ?_)))))))))))
  exact ⟨_,rfl,by unfold y9p;first|rw [if_pos c1,if_pos c0]|rw [if_pos c1,if_neg c0]|rw [if_neg c1,if_pos c0]|rw [if_neg c1,if_neg c0],(q1.n1 q2)⟩
 refine sk (tn (sr (mv rfl (asg rfl (nn (rt (r1 results131 rfl ?_)))))))
 exact ⟨_,rfl,by unfold y9p;first|rw [if_pos c1,if_pos c0]|rw [if_pos c1,if_neg c0]|rw [if_neg c1,if_pos c0]|rw [if_neg c1,if_neg c0],(q1.n1 q2)⟩
set_option maxHeartbeats 1000000 in
theorem u4i (x:LId) (q:LpQ) (w0:World) (hG:Glob w0) (hL:LpAt w0 q) (hx:IdS x) (hbt:∀y∈q.ths,IdS y) (hbp:∀y∈q.pas,IdS y.id) (hl:q.ths.length<=100000/\q.pas.length<=100000):Rets prog 84 #[.agg #[.int .u8 x.y,.int .i64 x.n],.agg #[.int .u8 q.b,.bool q.nw,.slice q.th.1 q.th.2.1 q.th.2.2,.slice q.pa.1 q.pa.2.1 q.pa.2.2]] w0 λr w'=>Lw.Own Enc.str 9 w0.heap.size w' r (y8q x q.p)/\Fr [] w0 w':=by
 have hl1:=z1s hL.1
 have hl2:=z1s hL.2
 have hdl:=x1k x q.p
 have hd2_:=x2f x q.p
 have hd1_:=x0o x q.p
 have hqt:q.p.th.length=q.ths.length:=rfl
 have hM2:=hL.2.len_le
 unfold maxLen at hM2
 have hGs:=hG.sz
 refine we [(0,.agg #[.int .u8 x.y,.int .i64 x.n]),(1,.agg #[.int .u8 q.b,.bool q.nw,.slice q.th.1 q.th.2.1 q.th.2.2,.slice q.pa.1 q.pa.2.1 q.pa.2.2])] func84 rfl ntmps84 rfl (.c2 rfl rfl) ?_
 have hL0:=hL
 have hG0:=hG
 refine sr (bx rfl rfl rfl (λg2 w1 hg2 hb2 q1 z1=>(bx rfl rfl rfl (λg3 w2 hg3 hb3 q2 z2=>(asg rfl ?_)))))
 replace hb2:=hb2.ext q2
 have hb20:=hb2
 have hb30:=hb3
 refine nn (sr (z0n rfl hb2 z3g ?_))
 replace hG:=hG0.ext (q1.n1 q2)
 refine cl (ev1 rfl) j0w (y4v x _ hG hx) rfl ?_
 rintro _ w3 ⟨rfl,q3⟩
 have z3:=q3.size
 refine z2f ([z6l x,x1l]) (ev2 rfl rfl) rfl rfl rfl z3o (λg10 w4 hg10 ho10 q4 z4=>(asg rfl (nn ?_)))
 refine jn (ι:=Unit) [(3,_),(5,_)] (λ_j=>[]) (λ_j w'=>Fr [] w2 w'/\Lw.Own Enc.str 9 w2.heap.size w' (.slice (some ⟨g10,0,none⟩) 2 2) ([z6l x,if q.b=1 then v0l else x1l])) (.c2 rfl rfl) ?_ ?_
 ·refine sr (fad rfl v2n ?_)
  replace hb3:=hb30.ext (q3.n1 q4)
  refine z0i rfl hb3 rfl x4n (eq' rfl rfl (nn (cd rfl (λc0=>?_) (λc0=>?_))))
  ·refine rg (mv rfl (z8r (p:=1) (E:=Enc.str) rfl rfl z3o (z5b (i:=1) (v0l) rfl rfl ho10 (by simp) rfl sz9 (λw5 ho10 q5 z5=>(nl ?_)))))
   exact jE (()) (.c2 rfl rfl) ⟨(q3.z2 q4 q5),by rw [if_pos c0];exact ho10.low (by omega)⟩
  refine sk ?_
  exact jE (()) (.c2 rfl rfl) ⟨(q3.n1 q4),by rw [if_neg c0];exact ho10.low (by omega)⟩
 rintro _j w6 ⟨q6,ho⟩
 have z6:=q6.size
 refine kpC [(3,_),(5,_)] (.c2 rfl rfl) ?_
 refine jn (ι:=Value) [(3,_)] (λv51=>[(5,v51)]) (λv51 w'=>Fr [] w2 w'/\Lw.Own Enc.str 9 w2.heap.size w' v51 (y4i x q.p)) (.cons rfl .nil) ?_ ?_
 ·refine sr (fad rfl u0x ?_)
  replace hb3:=hb30.ext q6
  refine z0i rfl hb3 rfl na4 (nn (cd rfl (λc1=>?_) (λc1=>?_)))
  ·refine rg (mv rfl (z2f ([j3t]) (ev1 rfl) rfl rfl rfl z3o (λg19 w7 hg19 ho19 q7 z7=>?_)))
   replace ho:=ho.ext q7
   have hoo20:=ho
   refine z1x rfl rfl ho ho19.sl z3o (by unfold maxLen;first|(simp only [List.length_append,List.length_cons,List.length_nil];omega)|omega) (by first|(simp only [List.length_append,List.length_cons,List.length_nil];omega)|omega) (λv20 w8 ho q8 hor20=>?_)
   have z8:=q8.size
   refine asg rfl (nl ?_)
   exact jE (_) (.c2 rfl rfl) ⟨((q6.n1 q7).step q8 (λk hk hlt=>absurd (hoo20.blk k hk).1 (by omega))),by rw [u5a c1];exact ho⟩
  refine sk ?_
  exact jE (_) (.c2 rfl rfl) ⟨q6,by rw [u6j c1];exact ho⟩
 rintro v51 w9 ⟨q9,ho⟩
 have z9:=q9.size
 refine kpC [(3,_),(5,_)] (.c2 rfl rfl) ?_
 refine jn (ι:=Value) [(3,_)] (λv52=>[(5,v52)]) (λv52 w'=>Fr [] w2 w'/\Lw.Own Enc.str 9 w2.heap.size w' v52 (y4a x q.p)) (.cons rfl .nil) ?_ ?_
 ·refine sr (fad rfl z7y ?_)
  replace hb3:=hb30.ext q9
  refine z0i rfl hb3 rfl z6t (lnS rfl underlying37 (gt' rfl rfl (nn (cd rfl (λc2=>?_) (λc2=>?_)))))
  ·refine rg (mv rfl (fad rfl z7y (z0i rfl hb3 rfl z6t ?_)))
   replace hG:=hG0.ext (q1.n2 q2 q9)
   replace hL:=hL0.ext (q1.n2 q2 q9)
   refine cl (ev2 rfl rfl) (mkC func87) (y2w j3a _ q.ths _ hG hL.1 hbt hl.1) rfl ?_
   rintro v28 w10 ⟨ho28,q10⟩
   have z10:=q10.size
   have hnl28:=z5s j3a q.ths
   replace ho:=ho.ext q10
   have hoo29:=ho
   refine z1x rfl rfl ho ho28.sl z3o (by unfold maxLen;first|(simp only [List.length_append,List.length_cons,List.length_nil];omega)|omega) (by first|(simp only [List.length_append,List.length_cons,List.length_nil];omega)|omega) (λv29 w11 ho q11 hor29=>?_)
   have z11:=q11.size
   refine asg rfl (kpL [(3,_),(5,_)] (.c2 rfl rfl) (nl ?_))
   exact jE (_) (.c2 rfl rfl) ⟨((q9.n1 q10).step q11 (λk hk hlt=>absurd (hoo29.blk k hk).1 (by omega))),by rw [u6b (show 0<q.ths.length by omega)];exact ho⟩
  refine sk ?_
  exact jE (_) (.c2 rfl rfl) ⟨q9,by rw [u3m (show ¬0<q.ths.length by omega)];exact ho⟩
 rintro v52 w12 ⟨q12,ho⟩
 have z12:=q12.size
 refine kpC [(3,_),(5,_)] (.c2 rfl rfl) ?_
 refine jn (ι:=Value) [(3,_)] (λv53=>[(5,v53)]) (λv53 w'=>Fr [] w2 w'/\Lw.Own Enc.str 9 w2.heap.size w' v53 (y5a x q.p)) (.cons rfl .nil) ?_ ?_
 ·refine sr (fad rfl z9h ?_)
  replace hb3:=hb30.ext q12
  refine z0i rfl hb3 rfl y6u (lnS rfl underlying54 (gt' rfl rfl (nn (cd rfl (λc3=>?_) (λc3=>?_)))))
  ·refine rg (mv rfl (z2f ([u5x]) (ev1 rfl) rfl rfl rfl z3o (λg35 w13 hg35 ho35 q13 z13=>?_)))
   replace ho:=ho.ext q13
   have hoo36:=ho
   refine z1x rfl rfl ho ho35.sl z3o (by unfold maxLen;first|(simp only [List.length_append,List.length_cons,List.length_nil];omega)|omega) (by first|(simp only [List.length_append,List.length_cons,List.length_nil];omega)|omega) (λv36 w14 ho q14 hor36=>?_)
   have z14:=q14.size
   refine asg rfl (nl ?_)
   exact jE (_) (.c2 rfl rfl) ⟨((q12.n1 q13).step q14 (λk hk hlt=>absurd (hoo36.blk k hk).1 (by omega))),by rw [u4t (show 0<q.pas.length by omega)];exact ho⟩
  refine sk ?_
  exact jE (_) (.c2 rfl rfl) ⟨q12,by rw [u2x (show ¬0<q.pas.length by omega)];exact ho⟩
 rintro v53 w15 ⟨q15,ho⟩
 have z15:=q15.size
 refine kpC [(3,_),(5,_)] (.c2 rfl rfl) (sq (sr (fad rfl z9h ?_)))
 replace hb3:=hb30.ext q15
 refine z0i rfl hb3 rfl y6u (lnS rfl underlying54 (mv rfl (nn (bl ?_))))
 refine lpK (ι:=Nat×Value) [(38,_),(39,_)] (λp=>[(40,.int .i64 (p.1:Int)),(5,p.2)]) (λp w'=>Fr [] w2 w'/\p.1<=q.pas.length/\Lw.Own Enc.str 9 w2.heap.size w' p.2 (y5a x q.p++(q.pas.take p.1).map y9p)) (λp=>q.pas.length-p.1) (0,_) (.c4 rfl rfl rfl rfl) ⟨q15,⟨Nat.zero_le _,by rw [List.take_zero,List.map_nil,List.append_nil];exact ho⟩⟩ ?_
 rintro ⟨i,vP⟩ w16 ⟨q16,⟨hip,ho⟩⟩
 simp only at hip ho
 have z16:=q16.size
 refine kpC [(38,_),(39,_),(40,.int .i64 (i:Int)),(5,vP)] (.c4 rfl rfl rfl rfl) ?_
 have htl:(q.pas.take i).length<=i:=by rw [List.length_take];omega
 have hml:((q.pas.take i).map y9p).length=(q.pas.take i).length:=List.length_map ..
 refine sr (lt' rfl rfl (nn (sq (cd rfl (λc4=>?_) (λc4=>?_)))))
 ·refine sk (tn (sq (bl (sr ?_))))
  replace hL:=hL0.ext (q1.n2 q2 q16)
  refine z1a (pa0) rfl hL.2 rfl z9c z1f (λad42 hc42=>?_)
  refine z1j rfl (hc42 _ hL.2) z6w (al y5e rfl rfl (λg7 w17 hg7 hb7 q17 z17=>?_))
  refine z0j (vs:=[_,_,_,_]) rfl rfl hb7 y7g (λw18 hb7 q18 z18=>?_) (h1:=(by first|(simp [Value.oneCell',S];done)|exact z1t.one _))
  refine nn (rg (mv rfl (z0n rfl hb7 z6w ?_)))
  replace hG:=hG0.ext (q1.z4 q2 q16 q17 q18)
  refine cl (ev1 rfl) (mkC func131) (u5n (q.pas.getD i pa0) _ hG (hbp _ (z0x (by omega)))) rfl ?_
  rintro _ w19 ⟨rfl,q19⟩
  have z19:=q19.size
  refine z2f ([y9p (q.pas.getD i pa0)]) (ev1 rfl) rfl rfl rfl z3o (λg47 w20 hg47 ho47 q20 z20=>?_)
  replace ho:=((ho.ext q17).fr q18 (by first|exact z9e ho (by omega)|simp[z0v]<;>omega)).ext (q19.n1 q20)
  have hoo48:=ho
  refine z1x rfl rfl ho ho47.sl z3o (by unfold maxLen;first|(simp only [List.length_append,List.length_cons,List.length_nil];omega)|omega) (by first|(simp only [List.length_append,List.length_cons,List.length_nil];omega)|omega) (λv48 w21 ho q21 hor48=>?_)
  have z21:=q21.size
  refine asg rfl (kpL [(5,_),(38,_),(39,_),(40,_)] (.c4 rfl rfl rfl rfl) (nl (bn' (tn (rg (z0y rfl rfl (wi6 (by omega)) (mv rfl (nl ?_))))))))
  exact lpE ((i+1,_)) (.c4 rfl rfl rfl rfl) ⟨((q16.z4 q17 q18 q19 q20).step q21 (λk hk hlt=>absurd (hoo48.blk k hk).1 (by omega))),⟨by simp only;omega,by rw [z5x pa0 (by omega),List.map_append,<-List.append_assoc];exact ho⟩⟩ (by simp only;omega)
 obtain rfl:i=q.pas.length:=by omega
 rw [List.take_length] at ho
 refine ex (te (te (xh (tn (sr (mv rfl (asg rfl (kpL [(4,_)] (.cons rfl .nil) (nn (rt (r1 results84 rfl ?_)))))))))))
 exact ⟨_,rfl,ho.low (by omega),(q1.n2 q2 q16)⟩
end Go.Proofs.YtpgdchkdlgkmgaaGreatDoor
namespace Go.Lw
open Go.RowKit
def Bld (T e b:Nat) (l:List UInt8) (w:World):Prop:=Lib.IsBuilder T e b b (Lib.byteCells l) w
theorem Bld.ext {T e b:Nat} {l:List UInt8} {w w':World} (h:Bld T e b l w) (hf:Fr [] w w'):Bld T e b l w':=u9y h hf
theorem Bld.lt {T e b:Nat} {l:List UInt8} {w:World} (h:Bld T e b l w):b<w.heap.size:=h.elim Lib.BuilderAt.lt Lib.BuilderAt.lt
theorem Bld.new {T e b:Nat} {w:World} (h:Blk w b T [.pointer none,.slice none 0 0]):Bld T e b [] w:=.inl ⟨Nat.le_refl _,.slice none 0 0,h,⟨rfl,.inl ⟨rfl,rfl⟩⟩,by simp [Value.ownBlock]⟩
theorem y3j {w w':World} {B:Nat} (h:Below B w w'):∃S:List Nat,(∀k∈S,B<=k)/\Fr S w w':=
 ⟨(List.range w.heap.size).filter (λk=>decide (B<=k)),λk hk=>by simpa using (List.mem_filter.1 hk).2,⟨h.os,h.tape,h.output,h.size,λk hk hn=>h.block k (by
  rcases Nat.lt_or_ge k B with h'|h'
  ·exact h'
  exact absurd (List.mem_filter.2 ⟨List.mem_range.2 hk,by simpa using h'⟩) hn)⟩⟩
end Go.Lw
namespace Go.Proofs.YtpgdchkdlgkmgaaGreatDoor
open Go.Lw Go.G21 Go.G08 _root_.Go.Proofs.Tryz
theorem x3i:z0z prog 152 0 0:=λ_ _=>by kernel_rfl
theorem y7h:z0z prog 152 1 1:=λ_ _=>by kernel_rfl
theorem j1u:z2b prog 149:=λ_=>by kernel_rfl
theorem j0f:z2b prog 150:=λ_=>by kernel_rfl
theorem j3s:z1q prog 149 1:=λ_=>by kernel_rfl
theorem j2w:z1q prog 150 1:=λ_=>by kernel_rfl
theorem u8m:∃j,prog.info? 152=some j/\j.size=2:=Option.map_eq_some_iff.1 (show (prog.info? 152).map (·.size)=some 2 by kernel_rfl)
theorem u1b:(prog.info? 5).map (λi=>(i.zero,i.size,i.bytes))=some (some (.int .u8 0),1,1):=by kernel_rfl
theorem u9l:liesAt prog prog.depth 152 (2 / prog.cellsOf 152) 0 152 1=true:=by kernel_rfl
theorem v7f (u:Value) (w:World):(callFunc 185 #[u]).run prog w=.ok (.value u) w:=by
 rw [run_callFunc_extern func185 (by kernel_rfl) (by kernel_rfl) (by kernel_rfl) (e:=Extern.AbiNoEscape.same) (by kernel_rfl),Lib.run_noEscape];rfl
theorem y2h (B b:Nat) (bs:List Value) (w0:World) (hI:Lib.IsBuilder 152 5 B b bs w0):Rets prog 129 #[.pointer (some ⟨b,0,none⟩)] w0 λv w'=>Lib.BuilderAt 152 5 B b (.pointer (some ⟨b,0,none⟩)) bs w'/\RowKit.Below B w0 w':=by
 obtain ⟨po,hpo,hAt⟩:∃po,(po=none\/po=some ⟨b,0,none⟩)/\Lib.BuilderAt 152 5 B b (.pointer po) bs w0:=hI.elim (λh=>⟨none,.inl rfl,h⟩) (λh=>⟨_,.inr rfl,h⟩)
 have hsh:=hAt.shape
 obtain ⟨j,hj,hj2⟩:=u8m
 obtain ⟨hB,v,hbk,hown,hne⟩:=hAt
 have hbl:Blk w0 b 152 [.pointer po,v]:=hbk
 refine enter [(0,.pointer (some ⟨b,0,none⟩))] func129 rfl ntmps129 rfl (.cons rfl .nil) ?_
 intro a h
 refine wp_seq (wp_region_lit ?_)
 refine tW h (mv rfl (nlc rfl (fad rfl x3i (z0i rfl hbl rfl j1u (v5y rfl underlying149 rfl (kL [(0,_),(6,_)] (.c2 rfl rfl) ?_))))));clear h a;intro a h
 refine wpList_nil (z3s (cS h rfl (λc0=>?_) (λc0=>?_)))
 ·obtain rfl:po=none:=by cases po with|none=>rfl|some x=>cases c0
  refine wp_region_lit ?_
  refine tW h (mv rfl (mv rfl (x7u rfl underlying149 underlying283 hj (by omega) hsh Nat.zero_lt_two rfl (j0s rfl v7f rfl (x0k rfl underlying283 underlying149 hj hsh u9l rfl (nlc rfl (fad rfl x3i ?_)))))));clear h a;intro a h
  refine z4h h rfl rfl hbl rfl rfl rfl j3s λw1 hbn hq hz a h=>?_
  replace h:Ag a 20 []:=h.sub .nil
  refine wpList_nil (u3z h results129  ?_)
  exact ⟨_,rfl,v2l hB hbn hown hq hne,z4q hq (by simpa using hB) (Nat.le_trans hB (Nat.le_of_lt hbl.lt))⟩
 obtain rfl:po=some ⟨b,0,none⟩:=hpo.resolve_left (λe=>by rw [e] at c0;cases c0)
 refine wp_seq (wp_region_lit ?_)
 refine tW h (mv rfl (nlc rfl (fad rfl x3i (z0i rfl hbl rfl j1u (mv rfl (v4y rfl rfl underlying149 hj rfl (kL [(19,_)] (.cons rfl .nil) ?_)))))));clear h a;intro a h
 refine wpList_nil (z3s (y5v h rfl (wp_skip (u3z h results129  ?_))))
 exact ⟨_,rfl,⟨hB,v,hbk,hown,hne⟩,RowKit.Below.refl _ _⟩
theorem j1y (b:Nat) (l s:List UInt8) (w0:World) (hI:Bld 152 5 b l w0) (hM:l.length+s.length<=16777216):Rets prog 81 #[.pointer (some ⟨b,0,none⟩),S s] w0 λv w'=>Bld 152 5 b (l++s) w'/\∃S,(∀k∈S,b<=k)/\Fr S w0 w':=by
 have hI':=hI
 replace hI:Lib.IsBuilder 152 5 b b (Lib.byteCells l) w0:=hI'
 refine enter [(0,.pointer (some ⟨b,0,none⟩)),(1,S s)] func81 rfl ntmps81 rfl (.c2 rfl rfl) ?_
 intro a h
 refine wp_seq (wp_region_lit ?_)
 refine tW h (asg rfl (asg rfl (kL [(0,_),(1,_)] (.c2 rfl rfl) ?_)));clear h a;intro a h
 refine wpList_nil (z3s (wp_seq (wp_region_lit (x3p h rfl rfl λa h=>?_))))
 refine z0m h (z0a rfl z0g) (mkC func129) (y2h _ _ _ _ hI) ?_;rintro _ w1 ⟨hAt,hq1⟩ a h
 obtain ⟨hB,v,hbk,hown,hne⟩:=hAt
 have hbl:Blk w1 b 152 [.pointer (some ⟨b,0,none⟩),v]:=hbk
 have hbz:=hbl.lt
 rw [Lib.byteCells_length] at hown
 replace h:Ag a 19 [(0,_),(1,_)]:=h.sub (.c2 rfl rfl)
 refine wpList_nil (z3s (wp_seq (wp_region_lit ?_)))
 refine tW h (mv rfl (mv rfl (nlc rfl (fad rfl y7h (z0i rfl hbl rfl j0f (mv rfl ?_))))));clear h a;intro a h
 refine x1f h rfl rfl underlying150 underlying9 u1b hown (by unfold maxLen;omega) (by omega) (by omega) rfl λv2 w2 hown2 hgr a h=>?_
 have hfg:=x7n hgr
 have hbl2:=hbl.fr hfg (by simpa using hne)
 have hgz:=hfg.size
 refine tW h (nlc rfl (fad rfl y7h ?_));clear h a;intro a h
 refine z4h h rfl rfl hbl2 rfl (y9f hown2).1 (y9f hown2).2 j2w λw3 hbn hq hz a h=>?_
 replace h:Ag a 19 [(1,_)]:=h.sub (.cons rfl .nil)
 refine wpList_nil (z3s (wp_seq (wp_region_lit ?_)))
 refine tW h (mv rfl (ln rfl underlying9 rfl (asg rfl (asg rfl (kL [(4,_),(5,_)] (.c2 rfl rfl) ?_)))));clear h a;intro a h
 refine wpList_nil (z3s (wp_ret (ret2 h results81 rfl rfl ?_)))
 exact ⟨_,rfl,.inr (v2l hB hbn (v3u hown2) hq (Lib.ownBlock_ne hown2 hbl2 (by decide))),y3j (hq1.trans ((z4q hfg (u0c hown) (by omega)).trans (z4q hq (by simp) (by omega))))⟩
theorem j1n (b:Nat) (l:List UInt8) (c:UInt8) (w0:World) (hI:Bld 152 5 b l w0) (hM:l.length+1<=16777216):Rets prog 83 #[.pointer (some ⟨b,0,none⟩),.int .u8 (c.toNat:Int)] w0 λv w'=>Bld 152 5 b (l++[c]) w'/\∃S,(∀k∈S,b<=k)/\Fr S w0 w':=by
 have hI':=hI
 replace hI:Lib.IsBuilder 152 5 b b (Lib.byteCells l) w0:=hI'
 refine enter [(0,.pointer (some ⟨b,0,none⟩)),(1,.int .u8 (c.toNat:Int))] func83 rfl ntmps83 rfl (.c2 rfl rfl) ?_
 intro a h
 refine wp_seq (wp_region_lit ?_)
 refine tW h (asg rfl (kL [(0,_),(1,_)] (.c2 rfl rfl) ?_));clear h a;intro a h
 refine wpList_nil (z3s (wp_seq (wp_region_lit (x3p h rfl rfl λa h=>?_))))
 refine z0m h (z0a rfl z0g) (mkC func129) (y2h _ _ _ _ hI) ?_;rintro _ w1 ⟨hAt,hq1⟩ a h
 obtain ⟨hB,v,hbk,hown,hne⟩:=hAt
 have hbl:Blk w1 b 152 [.pointer (some ⟨b,0,none⟩),v]:=hbk
 have hbz:=hbl.lt
 rw [Lib.byteCells_length] at hown
 replace h:Ag a 17 [(0,_),(1,_)]:=h.sub (.c2 rfl rfl)
 refine wpList_nil (z3s (wp_seq (wp_region_lit ?_)))
 refine tW h (mv rfl (mv rfl (nlc rfl (fad rfl y7h (z0i rfl hbl rfl j0f (mv rfl ?_))))));clear h a;intro a h
 refine z2o [c] h (z0a rfl z0g) rfl rfl rfl j0c ?_ (hsm:=(by decide));clear h a;intro gV w2 hg hoV hqb hzb a h
 replace hown:=u0r hown hqb (by simp)
 replace hbl:=hbl.ext hqb
 have hqz:=hqb.size
 refine x2e h rfl rfl underlying150 u1b hown rfl (v9k hoV) (by simp [Lib.strCells,Value.oneCell']) (by unfold maxLen;omega) (by omega) (by omega) rfl λv2 w3 hown2 hgr a h=>?_
 have hfg:=x7n hgr
 have hbl2:=hbl.fr hfg (by simpa using hne)
 have hgz:=hfg.size
 refine tW h (nlc rfl (fad rfl y7h ?_));clear h a;intro a h
 refine z4h h rfl rfl hbl2 rfl (y9f hown2).1 (y9f hown2).2 j2w λw4 hbn hq hz a h=>?_
 replace h:Ag a 17 []:=h.sub .nil
 refine wpList_nil (z3s (wp_seq (wp_region_lit (z0q h rfl λa h=>wpList_nil (z3s (wp_ret (ret1 h results83 rfl ?_)))))))
 exact ⟨_,rfl,.inr (v2l hB hbn (v3u hown2) hq (Lib.ownBlock_ne hown2 hbl2 (by decide))),y3j (hq1.trans ((z4q hqb (by simp) (by omega)).trans ((z4q hfg (u0c hown) (by omega)).trans (z4q hq (by simp) (by omega)))))⟩
theorem x6e (b:Nat) (l:List UInt8) (w0:World) (hI:Bld 152 5 b l w0):Rets prog 88 #[.pointer (some ⟨b,0,none⟩)] w0 λv w'=>v=S l/\∃S,(∀k∈S,b<=k)/\Fr S w0 w':=by
 refine Calls.mono (Builder_String_any b b l w0 hI (Nat.le_of_lt hI.lt)) ?_
 rintro e w' ⟨rfl,hb⟩
 exact ⟨_,rfl,rfl,y3j hb⟩
theorem y4m (v:Value) (ys:List (List UInt8)) (g3 base T:Nat) (cur:List UInt8) (w0:World) (hO:Lw.Own Enc.str T base w0 v ys) (hB:Bld 152 5 g3 cur w0) (hne:ys≠[]) (hl:cur.length+(y1c ys).length<=1000000) (hy:ys.length<=1000000):Rets prog 80 #[v,.pointer (some ⟨g3,0,none⟩)] w0 λr w'=>Bld 152 5 g3 (cur++y1c ys) w'/\∃S,(∀k∈S,g3<=k)/\Fr S w0 w':=by
 have hll:(y1c ys).length=(Lib.join ys [32]).length+1:=by unfold y1c;rw [List.length_append];rfl
 refine we [(0,v),(1,.pointer (some ⟨g3,0,none⟩))] func80 rfl ntmps80 rfl (.c2 rfl rfl) ?_
 have hB0:=hB
 refine sr (mv rfl (cl (ev2 rfl rfl) (mkC func82) (x5u _ ys [32] base T _ hO hne (by omega) hy) rfl ?_))
 rintro _ w1 ⟨rfl,q1⟩
 replace hB:=hB0.ext q1
 refine cl (ev2 rfl rfl) (mkC func81) (j1y _ _ _ _ hB (by omega)) rfl ?_
 rintro _ w2 ⟨hB,Sa_,hSa_,q2⟩
 have hB0:=hB
 refine nn (rg ?_)
 refine cl (ev2 rfl rfl) (mkC func83) (j1n _ _ 10 _ hB (by simp only [List.length_append];omega)) rfl ?_
 rintro _ w3 ⟨hB,Sb_,hSb_,q3⟩
 have hB0:=hB
 refine nl (r0n results80  ?_)
 exact ⟨_,rfl,by unfold y1c;rw [<-List.append_assoc];exact hB,Sa_++Sb_,(λk hk=>(List.mem_append.1 hk).elim (hSa_ k) (hSb_ k)),(((Fr.refl (Sa_++Sb_) w0).n1 q1).step q2 (λk hk _=>List.mem_append_left _ hk)).step q3 (λk hk _=>List.mem_append_right _ hk)⟩
theorem j2p:CallOf prog 80:=mkC func80
theorem j5i (w:World):(zeroValue 152).run prog w=.ok (.agg #[(.pointer none),(.slice none 0 0)]) w:=by kernel_rfl
set_option maxHeartbeats 2000000 in
theorem v6j (q:FbQ) (w0:World) (hF:FbAt w0 q) (hG:Glob w0) (h6:q.ts.length=6) (hv:TabV (z2c q.ts)) (hc:CrsV (z2c q.ts) q.cs) (hp:PlaceV (z2c q.ts) q.hs q.fs) (hlen:(u8c (z2c q.ts) q.cs q.hs q.fs).length<=1000000):Rets prog 31 #[.agg #[.slice q.t.1 q.t.2.1 q.t.2.2,.slice q.c.1 q.c.2.1 q.c.2.2,.slice q.h.1 q.h.2.1 q.h.2.2,.slice q.f.1 q.f.2.1 q.f.2.2]] w0 λr w'=>r=S (u8c (z2c q.ts) q.cs q.hs q.fs)/\Fr [] w0 w':=by
 have hql:=hF.len
 have hly:=z6n q.ts
 obtain ⟨TX,hTX⟩:∃x,x=u8c (z2c q.ts) q.cs q.hs q.fs:=⟨_,rfl⟩
 rw [<-hTX] at hlen ⊢
 have hX:[]++(y8w 0 ((z2c q.ts).drop 0)++(y3w q.cs++(y3x q.hs++y3m q.fs)))=TX:=hTX.symm
 have hMc:=hF.c.len_le
 have hMh:=hF.h.len_le
 have hMf:=hF.f.len_le
 unfold maxLen at hMc hMh hMf
 have hGs:=hG.sz
 refine we [(0,.agg #[.slice q.t.1 q.t.2.1 q.t.2.2,.slice q.c.1 q.c.2.1 q.c.2.2,.slice q.h.1 q.h.2.1 q.h.2.2,.slice q.f.1 q.f.2.1 q.f.2.2])] func31 rfl ntmps31 rfl (.cons rfl .nil) ?_
 have hF0:=hF
 have hG0:=hG
 refine sr (bx rfl rfl rfl (λg1 w1 hg1 hb1 q1 z1=>(asg rfl (nn (sq (sr (z0n rfl hb1 x9a ?_)))))))
 replace hF:=hF0.ext q1
 refine cl (ev1 rfl) (mkC func45) (x5p q _ hF h6 hv hc hp) rfl ?_
 rintro _ w2 ⟨rfl,q2⟩
 have z2:=q2.size
 refine ne' rfl rfl (nn (cd rfl (λc0=>?_) (λc0=>?_)))
 ·exact absurd rfl c0
 refine sk (tn (sr (al j5i rfl rfl (λg3 w3 hg3 hb3 q3 z3=>?_))))
 replace hb1:=hb1.ext (q2.n1 q3)
 have hbf:=hb1
 have hbg:=hb1
 have hB:Bld 152 5 g3 [] w3:=Bld.new hb3
 have hB0:=hB
 refine nn (sr (z7l z0g (ev1 rfl) rfl (asg rfl (nn (sq (sr (fad rfl z8l (z0i rfl hb1 rfl x1r (lnS rfl underlying35 (mv rfl (nn (bl ?_))))))))))))
 refine lpK (ι:=Nat×List UInt8) [(1,_),(3,_),(4,_),(16,_),(17,_)] (λp=>[(18,.int .i64 (p.1:Int))]) (λp w'=>Fr [g3] w3 w'/\p.1<=6/\Bld 152 5 g3 p.2 w'/\p.2++(y8w p.1 ((z2c q.ts).drop p.1)++(y3w q.cs++(y3x q.hs++y3m q.fs)))=TX) (λp=>6-p.1) (0,[]) (.c6 rfl rfl rfl rfl rfl rfl) ⟨(Fr.refl _ _),⟨Nat.zero_le _,hB,hX⟩⟩ ?_
 rintro ⟨y,cur⟩ w4 ⟨q4,⟨hyp,hB,hX⟩⟩
 simp only at hyp hB hX
 have z4:=q4.size
 have hB0:=hB
 refine kpC [(1,_),(3,_),(4,_),(16,_),(17,_),(18,.int .i64 (y:Int))] (.c6 rfl rfl rfl rfl rfl rfl) (sr (lt' rfl rfl (nn (sq (cd rfl (λc1=>?_) (λc1=>?_))))))
 ·rw [x8n (by omega),List.append_assoc] at hX
  have hr1:=z4s hF0.tt y
  have hM1:=(hF0.tt _ (z0x (d:=tq0) (i:=y) (by omega))).1.len_le
  unfold maxLen at hM1
  refine sk (tn (sq (bl (sr (mv rfl ?_)))))
  replace hF:=hF0.ext (q1.z3 q2 q3 q4)
  refine z1a (tq0) rfl hF.t rfl y5d z1f (λad21 hc21=>?_)
  refine z1i rfl (hc21 _ hF.t) x2r (asg rfl (asg rfl (nn (sr (mv rfl (lnS rfl underlying46 (mv rfl (nn (bl ?_)))))))))
  refine lpK (ι:=Nat×List UInt8) [(1,_),(3,_),(4,_),(5,_),(16,_),(17,_),(18,_),(23,_),(24,_)] (λp=>[(25,.int .i64 (p.1:Int))]) (λp w'=>Fr [g3] w3 w'/\p.1<=(q.ts.getD y tq0).2.length/\Bld 152 5 g3 p.2 w'/\p.2++(x3h y p.1 (((z2c q.ts).getD y []).drop p.1)++(y8w (y+1) ((z2c q.ts).drop (y+1))++(y3w q.cs++(y3x q.hs++y3m q.fs))))=TX) (λp=>(q.ts.getD y tq0).2.length-p.1) (0,cur) (.d8 rfl rfl rfl rfl rfl rfl rfl rfl (.c2 rfl rfl)) ⟨((Fr.refl [g3] _).z1 q4),⟨Nat.zero_le _,hB,(by rw [List.drop_zero];exact hX)⟩⟩ ?_
  rintro ⟨n,cur⟩ w5 ⟨q5,⟨hnp,hB,hX⟩⟩
  simp only at hnp hB hX
  have z5:=q5.size
  have hB0:=hB
  refine kpC [(1,_),(3,_),(4,_),(5,_),(16,_),(17,_),(18,_),(23,_),(24,_),(25,.int .i64 (n:Int))] (.d8 rfl rfl rfl rfl rfl rfl rfl rfl (.c2 rfl rfl)) (sr (lt' rfl rfl (nn (sq (cd rfl (λc2=>?_) (λc2=>?_))))))
  ·have hhy:z4b (z2c q.ts) (⟨(y:Int)+1,(n:Int)⟩:LId):=z7p (by omega) (by rw [z3c];omega)
   have hrt:=(hv.ok.rts y (by omega) n (by rw [z3c];omega)).1
   rw [z9p] at hrt
   have hb1_:((q.ts.getD y tq0).2.getD n lq0).ths.length<=4:=hrt.2.1.1
   have hb2_:((q.ts.getD y tq0).2.getD n lq0).pas.length<=4096:=hrt.2.1.2
   have hb3_:(y8q (⟨(y:Int)+1,(n:Int)⟩:LId) ((q.ts.getD y tq0).2.getD n lq0).p).length<=5+((q.ts.getD y tq0).2.getD n lq0).ths.length+((q.ts.getD y tq0).2.getD n lq0).pas.length:=v4z _ _
   rw [x8v (by rw [y7p,List.length_map];omega),show ((z2c q.ts).getD y []).getD n lq0.p=((q.ts.getD y tq0).2.getD n lq0).p from z9p q.ts y n,List.append_assoc] at hX
   refine sk (tn (sq (bl (sr (mv rfl ?_)))))
   replace hF:=hF0.ext (q1.z3 q2 q3 q5)
   refine z1a (lq0) rfl (hF.tt _ (z0x (d:=tq0) (i:=y) (by omega))).1 rfl x9b z1f (λad28 hc28=>?_)
   refine z1j rfl (hc28 _ (hF.tt _ (z0x (d:=tq0) (i:=y) (by omega))).1) v5g (al u1m rfl rfl (λg8 w6 hg8 hb8 q6 z6=>?_))
   refine asg rfl (z0j (vs:=[_,_,_,_]) rfl rfl hb8 u6t (λw7 hb8 q7 z7=>?_) (h1:=(by first|(simp [Value.oneCell',S];done)|exact z5o.one _|exact z4t.one _)))
   refine nn (rg (mv rfl (mv rfl (z0y rfl rfl (wi6 (by omega)) (z5h rfl (us underlying3) underlying5 (wi8 (by omega)) (mv rfl (z1r (cs:=[_,_]) (ev2 rfl rfl) u8j (z0f rfl rfl rfl (z0f rfl rfl rfl z0s)) rfl ?_)))))))
   refine z0n rfl hb8 v5g ?_
   replace hG:=hG0.ext (q1.z5 q2 q3 q5 q6 q7)
   replace hF:=hF0.ext (q1.z5 q2 q3 q5 q6 q7)
   refine cl (ev2 rfl rfl) (mkC func84) (u4i (⟨(y:Int)+1,(n:Int)⟩:LId) ((q.ts.getD y tq0).2.getD n lq0) _ hG (z7h hF.tt (y:=y) (n:=n) (by omega) (by omega)) (z6g hv.ok hhy) (λx hx=>z6g hv.ok (hrt.2.2.1 _ (List.mem_append_left _ hx))) (λx hx=>z6g hv.ok (hrt.2.2.1 _ (List.mem_append_right _ (List.mem_map_of_mem hx)))) ⟨by omega,by omega⟩) rfl ?_
   rintro v37 w8 ⟨ho37,q8⟩
   have z8:=q8.size
   replace hB:=hB0.ext (q6.z2 q7 q8)
   refine clv (us:=[]) (ws:=[.pointer (some ⟨g3,0,none⟩)]) rfl (ev1 rfl) j2p (y4m _ (y8q (⟨(y:Int)+1,(n:Int)⟩:LId) ((q.ts.getD y tq0).2.getD n lq0).p) g3 _ _ cur _ ho37 hB (v5x _ _) (by have hx_:=congrArg List.length hX;simp only [List.length_append] at hx_;omega) (by omega)) rfl (by intro g e;cases e) ?_
   rintro V38 w9 ⟨hB,Sr_,hSr_,q9⟩
   have z9:=q9.size
   have hB0:=hB
   refine kpL [(1,_),(3,_),(4,_),(5,_),(16,_),(17,_),(18,_),(23,_),(24,_),(25,_)] (.d8 rfl rfl rfl rfl rfl rfl rfl rfl (.c2 rfl rfl)) (nl (bn' (tn (rg (z0y rfl rfl (wi6 (by omega)) (mv rfl (nl ?_)))))))
   exact lpE ((n+1,_)) (.d8 rfl rfl rfl rfl rfl rfl rfl rfl (.c2 rfl rfl)) ⟨(((Fr.refl [g3] _).z4 q5 q6 q7 q8).step q9 (λk hk hlt=>by have:=hSr_ k hk;first|(exfalso;omega)|(simp;omega))),⟨by simp only;omega,hB,(by simp only [List.append_assoc] at hX ⊢;exact hX)⟩⟩ (by simp only;omega)
  obtain rfl:n=(q.ts.getD y tq0).2.length:=by omega
  rw [List.drop_of_length_le (by rw [y7p,List.length_map];omega)] at hX
  replace hX:cur++(y8w (y+1) ((z2c q.ts).drop (y+1))++(y3w q.cs++(y3x q.hs++y3m q.fs)))=TX:=hX
  refine ex (te (te (xh (bn' (tn (rg (z0y rfl rfl (wi6 (by omega)) (mv rfl (kpL [(1,_),(3,_),(4,_),(16,_),(17,_),(18,_)] (.c6 rfl rfl rfl rfl rfl rfl) (nl ?_))))))))))
  exact lpE ((y+1,cur)) (.c6 rfl rfl rfl rfl rfl rfl) ⟨((Fr.refl [g3] _).z1 q5),⟨by simp only;omega,hB,hX⟩⟩ (by simp only;omega)
 obtain rfl:y=6:=by omega
 rw [List.drop_of_length_le (by omega)] at hX
 replace hX:cur++(y3w q.cs++(y3x q.hs++y3m q.fs))=TX:=hX
 refine ex (te (te (xh (tn (sq (sr (fad rfl y6r ?_)))))))
 replace hbf:=hbf.fr q4
 refine z0i rfl hbf rfl u8e (lnS rfl underlying36 (mv rfl (nn (bl ?_))))
 refine lpK (ι:=Nat×List UInt8) [(1,_),(3,_),(4,_),(42,_),(43,_)] (λp=>[(44,.int .i64 (p.1:Int))]) (λp w'=>Fr [g3] w3 w'/\p.1<=q.cs.length/\Bld 152 5 g3 p.2 w'/\p.2++(y3w (q.cs.drop p.1)++(y3x q.hs++y3m q.fs))=TX) (λp=>q.cs.length-p.1) (0,cur) (.c6 rfl rfl rfl rfl rfl rfl) ⟨((Fr.refl [g3] _).z1 q4),⟨Nat.zero_le _,hB,(by rw [List.drop_zero];exact hX)⟩⟩ ?_
 rintro ⟨i,cur⟩ w10 ⟨q10,⟨hip,hB,hX⟩⟩
 simp only at hip hB hX
 have z10:=q10.size
 have hB0:=hB
 refine kpC [(1,_),(3,_),(4,_),(42,_),(43,_),(44,.int .i64 (i:Int))] (.c6 rfl rfl rfl rfl rfl rfl) (sr (lt' rfl rfl (nn (sq (cd rfl (λc3=>?_) (λc3=>?_))))))
 ·rw [x7t (by omega),List.append_assoc] at hX
  have hci:=hc.has i (by omega)
  refine sk (tn (sq (bl (sr ?_))))
  replace hF:=hF0.ext (q1.z3 q2 q3 q10)
  refine z1a (cx0) rfl hF.c rfl v9y z1f (λad46 hc46=>?_)
  refine z1j rfl (hc46 _ hF.c) v0r (al v3d rfl rfl (λg10 w11 hg10 hb10 q11 z11=>?_))
  refine z0j (vs:=[_,_,_,_,_]) rfl rfl hb10 u6i (λw12 hb10 q12 z12=>?_) (h1:=(by first|(simp [Value.oneCell',S];done)|exact z5o.one _|exact z4t.one _))
  refine nn ?_
  replace hG:=hG0.ext (q1.z5 q2 q3 q10 q11 q12)
  replace hB:=hB0.ext (q11.z1 q12)
  intro a h
  refine z0h (some 11) (λwb w'=>Fr [] wb w') z2r ?_;intro w13 q13
  have z13:=q13.size
  replace hG:=hG.ext q13
  replace hB:=hB.ext q13
  replace hb10:=hb10.ext q13
  have hC:Fr [] w13 w13:=Fr.refl _ _
  have hG_b:=hG
  have hB_b:=hB
  have hb10_b:=hb10
  refine z0e 0 h rfl rfl λa h=>z0c 1 h rfl y1y rfl λa h=>z1c (vs:=[_,_]) 2 h rfl (λ_ hw=>(hb10_b.ext hw)) z3g rfl rfl λa h=>z0c 4 h rfl y1l rfl λa h=>z1c (vs:=[_,_]) 5 h rfl (λ_ hw=>(hb10_b.ext hw)) z3g rfl rfl λa h=>z0c 7 h rfl y3d rfl λa h=>z0l 8 h rfl (λ_ hw=>hb10_b.ext hw) rfl na3 rfl λa h=>z0d 3 rfl ?_
  refine z0m h (z0a rfl z0g) j0w (y4v (q.cs.getD i cx0).a _ hG (z6g hv.ok hci.1)) ?_;rintro _ w14 ⟨rfl,q14⟩ a h
  have z14:=q14.size
  replace hG:=hG.ext q14
  replace hC:=hC.next q14
  refine z0b ?_
  refine z0d 6 rfl ?_
  refine z0m h (z0a rfl z0g) j0w (y4v (q.cs.getD i cx0).b _ hG (z6g hv.ok hci.2.1)) ?_;rintro _ w15 ⟨rfl,q15⟩ a h
  have z15:=q15.size
  replace hG:=hG.ext q15
  replace hC:=hC.next q15
  refine z0b ?_
  refine z0d 9 rfl ?_
  refine z0m h (z0a rfl z0g) u7o (x4i (q.cs.getD i cx0).n _ hG (by have:=hci.2.2.2.1;omega)) ?_;rintro _ w16 ⟨rfl,q16⟩ a h
  have z16:=q16.size
  replace hb10:=hb10.ext (q14.n2 q15 q16)
  replace hC:=hC.next q16
  refine z0b ?_
  refine z0d 10 rfl ?_
  refine z2o ([x6j,z6l (q.cs.getD i cx0).a,z6l (q.cs.getD i cx0).b,v4l (q.cs.getD i cx0).n]) h (z0a rfl (z0a rfl (z0a rfl (z0a rfl z0g)))) rfl rfl rfl z3o λg_58 w17 hg ho58 q17 hz a h=>?_
  have hn_0_58:g10<g_58:=by have:=hb10.lt;omega
  have z17:=q17.size
  replace hB:=hB.ext (q14.n3 q15 q16 q17)
  replace hC:=hC.next q17
  refine z0b ?_
  refine z0d 11 rfl ?_
  refine z9b (us:=[]) (ws:=[.pointer (some ⟨g3,0,none⟩)]) h rfl (z0a rfl z0g) j2p (y4m _ ([x6j,z6l (q.cs.getD i cx0).a,z6l (q.cs.getD i cx0).b,v4l (q.cs.getD i cx0).n]) g3 _ _ cur _ ho58 hB (by simp) (by have hx_:=congrArg List.length hX;simp only [List.length_append] at hx_;omega) (by simp)) rfl (by intro g e;cases e) ?_;rintro V59 w18 ⟨hB,Sc_,hSc_,q18⟩ a h
  have z18:=q18.size
  refine z1o ?_
  refine z0r ?_
  clear hC hG_b hB_b hb10_b
  have hB0:=hB
  refine bk (h.sub (L':=[(1,_),(3,_),(4,_),(42,_),(43,_),(44,_)]) (.c6 rfl rfl rfl rfl rfl rfl)) (bn' (tn (rg (z0y rfl rfl (wi6 (by omega)) (mv rfl (nl ?_))))))
  exact lpE ((i+1,_)) (.c6 rfl rfl rfl rfl rfl rfl) ⟨(((((Fr.refl [g3] _).z6 q10 q11 q12 q13 q14 q15).n1 q16).n1 q17).step q18 (λk hk hlt=>by have:=hSc_ k hk;first|(exfalso;omega)|(simp;omega))),⟨by simp only;omega,hB,(by simp only [List.append_assoc] at hX ⊢;exact hX)⟩⟩ (by simp only;omega)
 obtain rfl:i=q.cs.length:=by omega
 rw [List.drop_of_length_le (by omega)] at hX
 replace hX:cur++(y3x q.hs++y3m q.fs)=TX:=hX
 refine ex (te (te (xh (tn (sq (sr (fad rfl y6b ?_)))))))
 replace hbg:=hbg.fr q10
 refine z0i rfl hbg rfl z6t (lnS rfl underlying37 (gt' rfl rfl (kpL [(1,_),(3,_),(4,_),(64,_)] (.c4 rfl rfl rfl rfl) (nn (cd rfl (λc4=>?_) (λc4=>?_))))))
 ·have hhl:q.hs.length<=100000:=y4e hv.ok (λx hx=>hp.has x (List.mem_append_left _ hx)) (λx=>by have:=hp.le x;simp only [List.count_append] at this;omega)
  rw [u3x (by omega)] at hX
  refine rg (mv rfl (fad rfl y6b (z0i rfl hbg rfl z6t ?_)))
  replace hG:=hG0.ext (q1.z3 q2 q3 q10)
  replace hF:=hF0.ext (q1.z3 q2 q3 q10)
  refine cl (ev2 rfl rfl) (mkC func87) (y2w v8r _ q.hs _ hG hF.h (λx hx=>z6g hv.ok (hp.has x (List.mem_append_left _ hx))) hhl) rfl ?_
  rintro v68 w19 ⟨ho68,q19⟩
  have z19:=q19.size
  replace hbg:=hbg.ext q19
  replace hB:=hB0.ext q19
  refine clv (us:=[]) (ws:=[.pointer (some ⟨g3,0,none⟩)]) rfl (ev1 rfl) j2p (y4m _ (z4g v8r q.hs) g3 _ _ cur _ ho68 hB (by simp [z4g]) (by have hx_:=congrArg List.length hX;simp only [List.length_append] at hx_;omega) (by rw [z5s];omega)) rfl (by intro g e;cases e) ?_
  rintro V69 w20 ⟨hB,Sh_,hSh_,q20⟩
  replace hbg:=hbg.fr q20 (λhh=>absurd (hSh_ _ hh) (by omega))
  have z20:=q20.size
  have hB0:=hB
  refine kpL [(1,_),(3,_),(4,_)] (.c3 rfl rfl rfl) (nl (tn (sq (sr (fad rfl z9v (z0i rfl hbg rfl z6t (lnS rfl underlying37 (gt' rfl rfl (nn (cd rfl (λc5=>?_) (λc5=>?_)))))))))))
  ·have hfl:q.fs.length<=100000:=y4e hv.ok (λx hx=>hp.has x (List.mem_append_right _ hx)) (λx=>by have:=hp.le x;simp only [List.count_append] at this;omega)
   rw [v4a (by omega)] at hX
   refine rg (mv rfl (fad rfl z9v (z0i rfl hbg rfl z6t ?_)))
   replace hG:=hG0.ext ((q1.z4 q2 q3 q10 q19).step q20 (λk hk hlt=>by have:=hSh_ k hk;first|(exfalso;omega)|(simp;omega)))
   replace hF:=hF0.ext ((q1.z4 q2 q3 q10 q19).step q20 (λk hk hlt=>by have:=hSh_ k hk;first|(exfalso;omega)|(simp;omega)))
   refine cl (ev2 rfl rfl) (mkC func87) (y2w y1f _ q.fs _ hG hF.f (λx hx=>z6g hv.ok (hp.has x (List.mem_append_right _ hx))) hfl) rfl ?_
   rintro v77 w21 ⟨ho77,q21⟩
   have z21:=q21.size
   replace hB:=hB0.ext q21
   refine clv (us:=[]) (ws:=[.pointer (some ⟨g3,0,none⟩)]) rfl (ev1 rfl) j2p (y4m _ (z4g y1f q.fs) g3 _ _ _ _ ho77 hB (by simp [z4g]) (by have hx_:=congrArg List.length hX;simp only [List.length_append] at hx_ ⊢;omega) (by rw [z5s];omega)) rfl (by intro g e;cases e) ?_
   rintro V78 w22 ⟨hB,Sf_,hSf_,q22⟩
   have z22:=q22.size
   have hB0:=hB
   refine kpL [(3,_)] (.cons rfl .nil) (nl (tn (sr (cl (ev1 rfl) (mkC func88) (x6e _ _ _ hB) rfl ?_))))
   rintro _ w23 ⟨rfl,Ss_,hSs_,q23⟩
   have z23:=q23.size
   refine asg rfl (nn (rt (r1 results31 rfl ?_)))
   exact ⟨_,rfl,by rw [<-hX]<;>simp only [List.append_assoc,List.append_nil],(((((q1.z4 q2 q3 q10 q19).step q20 (λk hk hlt=>by have:=hSh_ k hk;first|(exfalso;omega)|(simp;omega))).n1 q21).step q22 (λk hk hlt=>by have:=hSf_ k hk;first|(exfalso;omega)|(simp;omega))).step q23 (λk hk hlt=>by have:=hSs_ k hk;first|(exfalso;omega)|(simp;omega)))⟩
  rw [v5c (by omega)] at hX
  refine sk (tn (sr (cl (ev1 rfl) (mkC func88) (x6e _ _ _ hB) rfl ?_)))
  rintro _ w24 ⟨rfl,Ss_,hSs_,q24⟩
  have z24:=q24.size
  refine asg rfl (nn (rt (r1 results31 rfl ?_)))
  exact ⟨_,rfl,by rw [<-hX]<;>simp only [List.append_assoc,List.append_nil],(((q1.z4 q2 q3 q10 q19).step q20 (λk hk hlt=>by have:=hSh_ k hk;first|(exfalso;omega)|(simp;omega))).step q24 (λk hk hlt=>by have:=hSs_ k hk;first|(exfalso;omega)|(simp;omega)))⟩
 rw [u4u (by omega),List.nil_append] at hX
 refine sk (tn (sq (sr (fad rfl z9v (z0i rfl hbg rfl z6t (lnS rfl underlying37 (gt' rfl rfl (nn (cd rfl (λc5=>?_) (λc5=>?_))))))))))
 ·have hfl:q.fs.length<=100000:=y4e hv.ok (λx hx=>hp.has x (List.mem_append_right _ hx)) (λx=>by have:=hp.le x;simp only [List.count_append] at this;omega)
  rw [v4a (by omega)] at hX
  refine rg (mv rfl (fad rfl z9v (z0i rfl hbg rfl z6t ?_)))
  replace hG:=hG0.ext (q1.z3 q2 q3 q10)
  replace hF:=hF0.ext (q1.z3 q2 q3 q10)
  refine cl (ev2 rfl rfl) (mkC func87) (y2w y1f _ q.fs _ hG hF.f (λx hx=>z6g hv.ok (hp.has x (List.mem_append_right _ hx))) hfl) rfl ?_
  rintro v77 w25 ⟨ho77,q25⟩
  have z25:=q25.size
  replace hB:=hB0.ext q25
  refine clv (us:=[]) (ws:=[.pointer (some ⟨g3,0,none⟩)]) rfl (ev1 rfl) j2p (y4m _ (z4g y1f q.fs) g3 _ _ _ _ ho77 hB (by simp [z4g]) (by have hx_:=congrArg List.length hX;simp only [List.length_append] at hx_ ⊢;omega) (by rw [z5s];omega)) rfl (by intro g e;cases e) ?_
  rintro V78 w26 ⟨hB,Sf_,hSf_,q26⟩
  have z26:=q26.size
  have hB0:=hB
  refine kpL [(3,_)] (.cons rfl .nil) (nl (tn (sr (cl (ev1 rfl) (mkC func88) (x6e _ _ _ hB) rfl ?_))))
  rintro _ w27 ⟨rfl,Ss_,hSs_,q27⟩
  have z27:=q27.size
  refine asg rfl (nn (rt (r1 results31 rfl ?_)))
  exact ⟨_,rfl,by rw [<-hX]<;>simp only [List.append_assoc,List.append_nil],(((q1.z4 q2 q3 q10 q25).step q26 (λk hk hlt=>by have:=hSf_ k hk;first|(exfalso;omega)|(simp;omega))).step q27 (λk hk hlt=>by have:=hSs_ k hk;first|(exfalso;omega)|(simp;omega)))⟩
 rw [v5c (by omega)] at hX
 refine sk (tn (sr (cl (ev1 rfl) (mkC func88) (x6e _ _ _ hB) rfl ?_)))
 rintro _ w28 ⟨rfl,Ss_,hSs_,q28⟩
 have z28:=q28.size
 refine asg rfl (nn (rt (r1 results31 rfl ?_)))
 exact ⟨_,rfl,by rw [<-hX]<;>simp only [List.append_assoc,List.append_nil],((q1.z3 q2 q3 q10).step q28 (λk hk hlt=>by have:=hSs_ k hk;first|(exfalso;omega)|(simp;omega)))⟩
end Go.Proofs.YtpgdchkdlgkmgaaGreatDoor
namespace Go.G08
open Go.Lw Go.G21
theorem u1a {b r:Int} {l:Bed} {i:Nat} {h:Hd} (hh:h∈hds b r l i):∃k:Nat,k<i/\h.id∈l.getD k []/\h.s=z2q b ((k:Int)+1) r:=by
 unfold hds at hh
 obtain ⟨k,hk,hh⟩:=List.mem_flatMap.1 hh
 obtain ⟨x,hx,rfl⟩:=List.mem_map.1 hh
 exact ⟨k,List.mem_range.1 hk,hx,rfl⟩
theorem u5w {B:Bd} {r:Int} {h:Hd} (hh:h∈z2n B r):∃b n:Int,(b=0\/b=1)/\1<=n/\h.id∈B.at b n/\h.s=z2q b n r:=by
 have h2:=(y6t B r).mem_iff.1 hh
 unfold v3j at h2
 rcases List.mem_append.1 h2 with k|k
 ·obtain ⟨i,_,h3,h4⟩:=u1a k
  exact ⟨0,(i:Int)+1,.inl rfl,by omega,by unfold Bd.at atB;rw [if_pos rfl,show ((i:Int)+1-1).toNat=i by omega];exact h3,h4⟩
 obtain ⟨i,_,h3,h4⟩:=u1a k
 exact ⟨1,(i:Int)+1,.inr rfl,by omega,by unfold Bd.at atB;rw [if_neg (by decide),show ((i:Int)+1-1).toNat=i by omega];exact h3,h4⟩
theorem y8e {s:List LId} (hs:s≠[]):∀m,trimB (List.replicate m []++[s])=List.replicate m []++[s]
 | 0=>by simp [trimB,hs]
 | m+1=>by
  rw [List.replicate_succ,List.cons_append,trimB,y8e hs m,if_neg]
  rintro ⟨h,_⟩
  simp at h
theorem v1b (s:List LId):∀m,(List.replicate (m+1) ([]:List LId)).set m s=List.replicate m []++[s]
 | 0=>rfl
 | m+1=>by
  rw [List.replicate_succ,List.set_cons_succ,v1b s m,List.replicate_succ];rfl
theorem y8k {s:List LId} (hs:s≠[]) (m:Nat):y2j [] (m+1) s=List.replicate m []++[s]:=by
 unfold y2j y9x
 rw [if_neg (by omega),List.nil_append,List.length_nil,Nat.sub_zero,show m+1-1=m by omega,v1b,y8e hs]
theorem v0b {s t:List LId} (hs:s≠[]) (m:Nat):y2j (List.replicate m []++[t]) (m+1) s=List.replicate m []++[s]:=by
 unfold y2j y9x
 rw [if_neg (by omega),List.length_append,List.length_replicate,List.length_singleton,Nat.sub_self,List.replicate_zero,List.append_nil,show m+1-1=m by omega]
 rw [List.set_append_right _ _ (by simp)]
 simp only [List.length_replicate,Nat.sub_self,List.set_cons_zero]
 exact y8e hs m
def bd0:Bd:=⟨[],[]⟩
def x9d (b P:Int) (x:LId):Bd:=bd0.put b P [x]
theorem v0k {b P:Int} (hP:1<=P) (x y:LId):(x9d b P x).put b P [y]=x9d b P y:=by
 obtain ⟨m,rfl⟩:∃m:Nat,P=(m:Int)+1:=⟨(P-1).toNat,by omega⟩
 have e:((m:Int)+1).toNat=m+1:=by omega
 have h0:trimB []=[]:=rfl
 unfold x9d Bd.put bd0
 rw [e]
 split
 ·rename_i h
  simp only [y8k (by simp:[x]≠[]),y8k (by simp:[y]≠[]),v0b (by simp:[y]≠[]),h0]
 rename_i h
 simp only [y8k (by simp:[x]≠[]),y8k (by simp:[y]≠[]),v0b (by simp:[y]≠[]),h0]
theorem u1u (b n:Int):bd0.at b n=[]:=by unfold Bd.at atB bd0;split<;>simp
theorem j1j {b P:Int} (h:z3d b P=0) (x:LId):(x9d b P x).at b P=[x]:=by
 unfold x9d;rw [x4q bd0 h h,if_pos ⟨rfl,rfl⟩]
theorem u7a {b P:Int} (h:z3d b P=0) {x i:LId} {b' n':Int} (hb:b'=0\/b'=1) (hn:1<=n') (hi:i∈(x9d b P x).at b' n'):b'=b/\n'=P:=by
 by_cases k:b'=b/\n'=P
 ·exact k
 exfalso
 unfold x9d Bd.at Bd.put at hi
 have h0:=z2v h
 have e0:∀m:Int,atB (bd0.f) m=[]:=λm=>by unfold atB bd0;simp
 have e1:∀m:Int,atB (bd0.b) m=[]:=λm=>by unfold atB bd0;simp
 have hp:∀m:Int,1<=m->m≠P->atB (y2j bd0.f P.toNat [x]) m=[]:=λm hm hne=>by
  rw [x6b h0.2.1 hm,if_neg hne];exact e0 m
 have hq:∀m:Int,1<=m->m≠P->atB (y2j bd0.b P.toNat [x]) m=[]:=λm hm hne=>by
  rw [x6b h0.2.1 hm,if_neg hne];exact e1 m
 by_cases hb0:b=0
 ·rw [if_pos hb0] at hi
  by_cases hb':b'=0
  ·rw [if_pos hb'] at hi
   rw [hp n' hn (λe=>k ⟨by omega,e⟩)] at hi;cases hi
  rw [if_neg hb'] at hi
  rw [y7n,e1] at hi;cases hi
 rw [if_neg hb0] at hi
 by_cases hb':b'=0
 ·rw [if_pos hb'] at hi
  rw [y7n,e0] at hi;cases hi
 rw [if_neg hb'] at hi
 rw [hq n' hn (λe=>k ⟨by omega,e⟩)] at hi;cases hi
theorem u3t {b P:Int} (h:z3d b P=0) (x:LId) (fr:Int):btw (z2n (x9d b P x) 0) fr (z2q b P 0)=[]:=by
 have key:∀z∈z2n (x9d b P x) 0,z.s=z2q b P 0:=λz hz=>by
  obtain ⟨b',n',hb,hn,hi,hs⟩:=u5w hz
  obtain ⟨rfl,rfl⟩:=u7a h hb hn hi
  exact hs
 unfold btw
 split
 ·rw [List.filter_eq_nil_iff.2,List.map_nil]
  intro z hz
  rw [key z hz]
  simp
 rw [List.filter_eq_nil_iff.2,List.map_nil];rfl
 intro z hz
 rw [key z hz]
 simp
theorem u2p (fr t2:Int):btw (z2n bd0 0) fr t2=[]:=by
 have:z2n bd0 0=[]:=by decide
 rw [this];unfold btw;split<;>rfl
def u8x (b:Int):Nat->List Lp
  | 0=>[]
  | k+1=>u8x b k++[⟨b,decide (k=0),if k=0 then [] else [⟨2,(k:Int)-1⟩],[]⟩]
theorem y7t (b:Int):∀k,(u8x b k).length=k
 | 0=>rfl
 | k+1=>by rw [u8x,List.length_append,y7t b k];rfl
def bdK (b P:Int) (k:Nat):Bd:=if k=0 then bd0 else x9d b P ⟨2,(k:Int)-1⟩
def ynK (pl:Int) (k:Nat):Yn:=⟨true,pl,k,decide (k=0),[]⟩
def stK (b P pl:Int) (k:Nat):MSt:=⟨0,bdK b P k,[yn0,ynK pl k,yn0,yn0,yn0,yn0],[[],u8x b k,[],[],[],[]],[],[]⟩
def opK (b P:Int) (i:Nat):MOp:=⟨4,if i % 2=0 then 1 else 0,b,P,2,0⟩
def plK (b P:Int) (i:Nat):Int:=if i=0 then -13 else if i % 2=0 then z2q b P 0-1 else z2q b P 0+1
theorem j0e {b P:Int} (h:z3d b P=0):z2q b P 0=if b=0 then 4*P+2 else 4*P:=by
 unfold z2q
 rw [if_neg (by rw [h];simp)]
 split<;>omega
theorem v0x {pl:Int} {k:Nat} (hp:x3r pl) (hk:k<=2048):y8o (ynK pl k):=by
 refine ⟨by show (0:Int)<=(k:Int)/\(k:Int)<=2048;omega,?_⟩
 show if true=true then _ else _
 rw [if_pos rfl]
 exact ⟨hp,by simp [ynK],λi hi=>by simp [ynK] at hi⟩
theorem chkK {b P:Int} (h:z3d b P=0) (i:Nat):y9j (opK b P i)=0:=by
 have hu:z6q (opK b P i).k=some (true,true,true,false):=by show z6q 4=_;decide
 have hd:(opK b P i).d=1\/(opK b P i).d=0:=by unfold opK;dsimp only;split<;>simp
 unfold y9j
 rw [if_neg,if_neg (by simp [opK])]
 refine not_not_intro ⟨by rw [hu];rfl,?_⟩
 rw [hu]
 refine ⟨?_,?_,?_,.inr rfl⟩
 ·rintro (⟨⟨_,k1⟩,k2⟩|⟨k,_⟩)
  ·omega
  exact k rfl
 ·rintro (⟨_,k⟩|⟨k,_⟩)
  ·exact k h
  exact k rfl
 rintro (⟨_,k⟩|⟨k,_⟩)
 ·simp [opK] at k
 exact k rfl
theorem y2t {x k:Int} (h:x=2*k+1) (h0:0<=x) (h2:x<=179):x3r x:=
 ⟨by rw [Int.tmod_eq_emod_of_nonneg h0];omega,by omega,h2⟩
theorem x4y {b P:Int} (h:z3d b P=0) (i:Nat):x3r (plK b P i):=by
 have h0:=z2v h
 have e:=j0e h
 unfold plK
 split
 ·decide
 by_cases hb:b=0
 ·rw [if_pos hb] at e
  split
  ·exact y2t (k:=2*P) (by omega) (by omega) (by omega)
  exact y2t (k:=2*P+1) (by omega) (by omega) (by omega)
 rw [if_neg hb] at e
 split
 ·exact y2t (k:=2*P-1) (by omega) (by omega) (by omega)
 exact y2t (k:=2*P) (by omega) (by omega) (by omega)
theorem behK {b P:Int} (h:z3d b P=0) (i:Nat):z7n (stK b P (plK b P i) i) (opK b P i)=0/\x3t (stK b P (plK b P i) i) (opK b P i)=plK b P (i+1):=by
 have h0:=z2v h
 have e1:(stK b P (plK b P i) i).y (opK b P i).y=ynK (plK b P i) i:=rfl
 have e2:z2q (opK b P i).b (opK b P i).p (stK b P (plK b P i) i).rk=z2q b P 0:=rfl
 have e3:4<=z2q b P 0:=by
  rw [j0e h];split<;>omega
 have e4:(ynK (plK b P i) i).pl=plK b P i:=rfl
 have e5:plK b P (i+1)=if (i+1) % 2=0 then z2q b P 0-1 else z2q b P 0+1:=by
  unfold plK;rw [if_neg (by omega)]
 unfold z7n x3t
 rw [e1,e2,e4,e5,if_neg (by simp [ynK])]
 by_cases hi:i % 2=0
 ·have hd:(opK b P i).d=1:=if_pos hi
  rw [hd,if_pos rfl,if_pos rfl,if_neg (by omega:¬(i+1) % 2=0)]
  refine ⟨if_neg ?_,rfl⟩
  unfold plK
  rw [if_pos hi]
  split<;>omega
 have hd:(opK b P i).d=0:=if_neg hi
 rw [hd,if_neg (by decide:¬(0:Int)=1),if_neg (by decide:¬(0:Int)=1),if_pos (by omega:(i+1) % 2=0)]
 refine ⟨if_neg ?_,rfl⟩
 unfold plK
 rw [if_neg (by omega:¬i=0),if_neg hi];omega
theorem carK {b P:Int} (h:z3d b P=0) {i:Nat} (hi:i<=2048):y6i (stK b P (plK b P i) i) 2 (plK b P (i+1)) (z2q b P 0)=.ok (stK b P (plK b P (i+1)) i):=by
 have e1:(stK b P (plK b P i) i).y 2=ynK (plK b P i) i:=rfl
 have e2:v0h (stK b P (plK b P i) i) 2 (z2q b P 0)=[]:=by
  unfold v0h stK bdK
  dsimp only
  split
  ·exact u2p _ _
  exact u3t h _ _
 have e3:goE (ynK (plK b P i) i) (plK b P (i+1)) []=0:=by
  unfold goE
  rw [j1k (v0x (x4y h i) hi),if_neg (by decide),if_neg (not_not_intro (x4y h (i+1))),if_neg (not_not_intro (by intro q hq;cases hq)),if_neg (by simp [ynK]),if_neg (by simp [ynK,z4n])]
 unfold y6i
 rw [e2,e1,e3,if_neg (by decide)]
 rfl
theorem atK {b P:Int} (h:z3d b P=0) (i:Nat):(bdK b P i).at b P=if i=0 then [] else [⟨2,(i:Int)-1⟩]:=by
 unfold bdK
 split
 ·exact u1u _ _
 exact j1j h _
theorem putK {b P:Int} (h:z3d b P=0) (i:Nat):(bdK b P i).put b P [⟨2,(i:Int)⟩]=bdK b P (i+1):=by
 have h0:=z2v h
 have e:bdK b P (i+1)=x9d b P ⟨2,(i:Int)⟩:=by
  unfold bdK;rw [if_neg (by omega)]
  rw [show ((i+1:Nat):Int)-1=(i:Int) by omega]
 rw [e]
 unfold bdK
 split
 ·rfl
 exact v0k h0.2.1 _ _
theorem doK {b P:Int} (h:z3d b P=0) {i:Nat} (hi:i<2048):doM (stK b P (plK b P i) i) (opK b P i)=.ok (stK b P (plK b P (i+1)) (i+1)):=by
 obtain ⟨h1,h2⟩:=behK h i
 have e0:opM (stK b P (plK b P i) i) (opK b P i)=y0u (stK b P (plK b P i) i) (opK b P i):=rfl
 unfold doM
 rw [if_neg (by rw [chkK h];decide),e0]
 unfold y0u
 rw [if_neg (by rw [h1];decide),h2]
 rw [show y6i (stK b P (plK b P i) i) (opK b P i).y (plK b P (i+1)) (z2q (opK b P i).b (opK b P i).p (stK b P (plK b P i) i).rk)=.ok (stK b P (plK b P (i+1)) i) from carK h (by omega)]
 dsimp only
 have ey:(stK b P (plK b P (i+1)) i).y (opK b P i).y=ynK (plK b P (i+1)) i:=rfl
 have em:mkE (ynK (plK b P (i+1)) i)=0:=by
  unfold mkE
  rw [j1k (v0x (x4y h (i+1)) (by omega)),if_neg (by decide),if_neg (by simp [ynK]),if_neg (by simp only [ynK];omega)]
 have ec:z4o (stK b P (plK b P (i+1)) i).tb=i:=by
  simp only [stK,z4o,List.map_cons,List.map_nil,List.length_nil,y7t,List.sum_cons,List.sum_nil];omega
 unfold x4p
 rw [ey,em,if_neg (by decide),if_neg (by rw [ec];omega)]
 have eat:(stK b P (plK b P (i+1)) i).B.at (opK b P i).b (opK b P i).p=if i=0 then [] else [⟨2,(i:Int)-1⟩]:=atK h i
 have eput:(stK b P (plK b P (i+1)) i).B.put (opK b P i).b (opK b P i).p ([]++[⟨(opK b P i).y,(ynK (plK b P (i+1)) i).ct⟩])=bdK b P (i+1):=putK h i
 rw [eat,eput]
 have er:(stK b P (plK b P (i+1)) i).row (opK b P i).y=u8x b i:=rfl
 rw [er]
 have ek:mkS (ynK (plK b P (i+1)) i)=ynK (plK b P (i+1)) (i+1):=by
  unfold mkS ynK
  simp
 rw [ek]
 rfl
theorem v8l {b P:Int} (h:z3d b P=0):doM (stK b P (plK b P 2048) 2048) (opK b P 2048)=.error 3:=by
 obtain ⟨h1,h2⟩:=behK h 2048
 have e0:opM (stK b P (plK b P 2048) 2048) (opK b P 2048)=y0u (stK b P (plK b P 2048) 2048) (opK b P 2048):=rfl
 unfold doM
 rw [if_neg (by rw [chkK h];decide),e0]
 unfold y0u
 rw [if_neg (by rw [h1];decide),h2]
 rw [show y6i (stK b P (plK b P 2048) 2048) (opK b P 2048).y (plK b P (2048+1)) (z2q (opK b P 2048).b (opK b P 2048).p (stK b P (plK b P 2048) 2048).rk)=.ok (stK b P (plK b P (2048+1)) 2048) from carK h (by omega)]
 dsimp only
 have ey:(stK b P (plK b P (2048+1)) 2048).y (opK b P 2048).y=ynK (plK b P (2048+1)) 2048:=rfl
 have em:mkE (ynK (plK b P (2048+1)) 2048)=3:=by
  unfold mkE
  rw [j1k (v0x (x4y h (2048+1)) (by omega)),if_neg (by decide),if_neg (by simp [ynK]),if_pos (by simp [ynK])]
 unfold x4p
 rw [ey,em,if_pos (by decide)]
def knL (b P:Int):Nat->Nat->List MOp
  | _,0=>[]
  | i,n+1=>opK b P i::knL b P (i+1) n
theorem v3s (b P:Int):∀i n,(knL b P i n).length=n
 | _,0=>rfl
 | i,n+1=>by rw [knL,List.length_cons,v3s b P (i+1) n]
theorem y8t (b P:Int):∀i n,knL b P i (n+1)=knL b P i n++[opK b P (i+n)]
 | i,0=>rfl
 | i,n+1=>by
  rw [knL,y8t b P (i+1) n,show i+1+n=i+(n+1) by omega];rfl
theorem runK {b P:Int} (h:z3d b P=0):∀n i x:Nat,i+n<=2048->z4p x (stK b P (plK b P i) i) (knL b P i n)=.ok (stK b P (plK b P (i+n)) (i+n))
 | 0,i,x,_=>rfl
 | n+1,i,x,hn=>by
  rw [knL,z4p,doK h (by omega)]
  dsimp only
  rw [runK h n (i+1) (x+1) (by omega),show i+1+n=i+(n+1) by omega]
theorem x1j {b P:Int} (h:z3d b P=0):∀n i x:Nat,i<=2048->2048<i+n->z4p x (stK b P (plK b P i) i) (knL b P i n)=.error (3,x+(2048-i))
 | 0,i,x,h1,h2=>by omega
 | n+1,i,x,h1,h2=>by
  rw [knL,z4p]
  by_cases e:i=2048
  ·subst e
   rw [v8l h];rfl
  rw [doK h (by omega)]
  dsimp only
  rw [x1j h n (i+1) (x+1) (by omega) (by omega),show x+1+(2048-(i+1))=x+(2048-i) by omega]
def inK:MOp:=⟨1,0,0,0,2,0⟩
theorem u1i (b P:Int):doM start inK=.ok (stK b P (plK b P 0) 0):=rfl
theorem j1o {b P:Int} (h:z3d b P=0) {n:Nat} (hn:n<=2048):z4p 0 start (inK::knL b P 0 n)=.ok (stK b P (plK b P n) n):=by
 rw [z4p,u1i b P]
 dsimp only
 rw [runK h n 0 1 (by omega),Nat.zero_add]
theorem u8k {b P:Int} (h:z3d b P=0) {n:Nat} (hn:2048<n):z4p 0 start (inK::knL b P 0 n)=.error (3,2049):=by
 rw [z4p,u1i b P]
 dsimp only
 rw [x1j h n 0 1 (by omega) (by omega)]
theorem v8n {b P:Int} (h:z3d b P=0) (pl:Int) {n:Nat} (hn:1<=n):((z2n (stK b P pl n).B (stK b P pl n).rk).map Hd.id).length=1:=by
 have e:(stK b P pl n).B=x9d b P ⟨2,(n:Int)-1⟩:=by
  show bdK b P n=_
  unfold bdK;rw [if_neg (by omega)]
 rw [(y2r _ _).length_eq,e]
 have:=y0n bd0 h [⟨2,(n:Int)-1⟩]
 rw [u1u] at this
 exact this
def u7z (b P:Int):List MOp:=[inK,⟨5,1,b,P,2,0⟩,⟨6,0,b,P,2,0⟩,⟨5,1,b,P,2,0⟩,⟨6,0,b,P,2,0⟩,⟨5,1,b,P,2,0⟩,⟨6,0,b,P,2,0⟩,⟨5,1,b,P,2,0⟩,⟨6,0,b,P,2,0⟩,⟨5,1,b,P,2,0⟩]
def j4l:Except (Int×Nat) MSt->Int×Nat
  | .error e=>e
  | .ok _=>(0,0)
theorem u7c:∀k:Nat,k<80->j4l (z4p 0 start (u7z ((k % 2:Nat):Int) (1+((k / 2:Nat):Int))))=(9,9):=by decide +kernel
theorem y1i {l:List Cx} (h:l.length<=1):y2b l=l:=by
 match l,h with
 | [],_=>exact List.perm_nil.1 (z4i [])
 | [c],_=>exact List.perm_singleton.1 (z4i [c])
theorem y6f {l:List LId} (h:l.length<=1):y2i l=l:=by
 match l,h with
 | [],_=>exact List.perm_nil.1 (z3t [])
 | [c],_=>exact List.perm_singleton.1 (z3t [c])
def okM:Except (Int×Nat) MSt->MSt
  | .ok p=>p
  | .error _=>start
def isOk:Except (Int×Nat) MSt->Bool
  | .ok _=>true
  | .error _=>false
theorem v1o {x:Except (Int×Nat) MSt} (h:isOk x=true):x=.ok (okM x):=by
 cases x with
 | ok p=>rfl
 | error e=>cases h
theorem u4r {x:Except (Int×Nat) MSt} (h:isOk x=false):x=.error (j4l x):=by
 cases x with
 | ok p=>cases h
 | error e=>rfl
def u8w:List MOp:=[⟨1,0,0,0,1,0⟩,⟨4,1,0,1,1,0⟩,⟨4,1,0,2,1,0⟩,⟨4,0,0,2,1,0⟩,⟨4,0,0,1,1,0⟩]
theorem prgA:y6w [105,110,32,49,32,108,101,102,116,10,107,110,105,116,32,114,105,103,104,116,32,102,49,32,49,10,107,110,105,116,32,114,105,103,104,116,32,102,50,32,49,10,107,110,105,116,32,108,101,102,116,32,102,50,32,49,10,107,110,105,116,32,108,101,102,116,32,102,49,32,49]=(u8w,0,0):=by decide +kernel
def u9j:List MOp:=[⟨1,0,0,0,1,0⟩,⟨4,1,0,1,1,0⟩,⟨7,0,0,1,0,0⟩,⟨3,0,0,0,0,1⟩,⟨7,0,1,1,0,0⟩,⟨3,0,0,0,0,0⟩]
theorem prgB:y6w [105,110,32,49,32,108,101,102,116,10,107,110,105,116,32,114,105,103,104,116,32,102,49,32,49,10,120,102,101,114,32,102,49,10,114,97,99,107,32,49,10,120,102,101,114,32,98,49,10,114,97,99,107,32,48]=(u9j,0,0):=by decide +kernel
def j2c:List MOp:=[⟨1,0,0,0,1,0⟩,⟨4,1,0,1,1,0⟩,⟨4,1,0,2,1,0⟩,⟨6,1,0,40,1,0⟩,⟨7,0,0,1,0,0⟩,⟨3,0,0,0,0,1⟩,⟨3,0,0,0,0,2⟩,⟨7,0,1,1,0,0⟩]
theorem prgC:y6w [105,110,32,49,32,108,101,102,116,10,107,110,105,116,32,114,105,103,104,116,32,102,49,32,49,10,107,110,105,116,32,114,105,103,104,116,32,102,50,32,49,10,109,105,115,115,32,114,105,103,104,116,32,102,52,48,32,49,10,120,102,101,114,32,102,49,10,114,97,99,107,32,49,10,114,97,99,107,32,50,10,120,102,101,114,32,98,49]=(j2c,0,0):=by decide +kernel
def j3c:List MOp:=[⟨4,1,0,1,1,0⟩]
theorem prgD:y6w [107,110,105,116,32,114,105,103,104,116,32,102,49,32,49]=(j3c,0,0):=by decide +kernel
def j3e:List MOp:=[⟨7,0,0,1,0,0⟩]
theorem prgE:y6w [120,102,101,114,32,102,49]=(j3e,0,0):=by decide +kernel
def j3d:List MOp:=[⟨1,0,0,0,1,0⟩,⟨3,0,0,0,0,0⟩,⟨1,1,0,0,1,0⟩]
theorem prgF:y6w [105,110,32,49,32,108,101,102,116,10,114,97,99,107,32,48,10,105,110,32,49,32,114,105,103,104,116]=(j3d,0,0):=by decide +kernel
def msA:MSt:=okM (z4p 0 start u8w)
theorem rnA:z4p 0 start u8w=.ok msA:=v1o (by decide +kernel)
def msB:MSt:=okM (z4p 0 start u9j)
theorem rnB:z4p 0 start u9j=.ok msB:=v1o (by decide +kernel)
def msC:MSt:=okM (z4p 0 start j2c)
theorem rnC:z4p 0 start j2c=.ok msC:=v1o (by decide +kernel)
theorem rnD:z4p 0 start j3c=.error (12,0):=(u4r (by decide +kernel)).trans (congrArg Except.error (by decide +kernel))
theorem rnE:z4p 0 start j3e=.error (13,0):=(u4r (by decide +kernel)).trans (congrArg Except.error (by decide +kernel))
theorem rnF:z4p 0 start j3d=.error (12,2):=(u4r (by decide +kernel)).trans (congrArg Except.error (by decide +kernel))
theorem txA:u8c msA.tb (y2b msA.cr) ((z2n msA.B msA.rk).map Hd.id) (y2i msA.fa)=[49,46,48,32,102,114,111,110,116,32,110,101,119,10,49,46,49,32,102,114,111,110,116,10,49,46,50,32,102,114,111,110,116,32,116,104,114,111,117,103,104,32,49,46,49,10,49,46,51,32,102,114,111,110,116,32,116,104,114,111,117,103,104,32,49,46,48,10,104,101,108,100,32,49,46,51,32,49,46,50,10]:=by
 rw [y1i (by decide +kernel),y6f (by decide +kernel)];decide +kernel
theorem txC:u8c msC.tb (y2b msC.cr) ((z2n msC.B msC.rk).map Hd.id) (y2i msC.fa)=[49,46,48,32,102,114,111,110,116,32,110,101,119,10,49,46,49,32,102,114,111,110,116,10,99,114,111,115,115,32,49,46,48,32,49,46,49,32,45,49,10,104,101,108,100,32,49,46,49,32,49,46,48,10]:=by
 rw [y1i (by decide +kernel),y6f (by decide +kernel)];decide +kernel
theorem at2:(msB.B.atC 0 2).length=1:=by decide +kernel
theorem cr2:msB.cr=[]:=by decide +kernel
theorem pe2:(msB.ys.getD 0 yn0).pe=[⟨⟨1,0⟩,true,0⟩]:=by decide +kernel
theorem st2 {s:StQ} (h:s.p=stM msB):(s.ys.length=6/\s.fb.cs=[])/\(s.ys.getD 0 yq0).pes=[⟨⟨1,0⟩,true,0⟩]/\s.q.p=msB.B:=by
 have h1:s.ys.map YQ.p=msB.ys:=congrArg St.ys h
 have h2:s.fb.cs=y2b msB.cr:=congrArg (λz=>z.fb.c) h
 have h3:s.q.p=msB.B:=congrArg St.B h
 have hv:=y4j z9w rnB
 refine ⟨⟨?_,?_⟩,?_,h3⟩
 ·have:=congrArg List.length h1
  rw [List.length_map,hv.inv.ly] at this;exact this
 ·rw [h2,cr2];exact y1i (by simp)
 have e:=congrArg (λz=>(z.getD 0 yn0).pe) h1
 rw [show (s.ys.map YQ.p).getD 0 yn0=(s.ys.getD 0 yq0).p from x1x YQ.p s.ys 0 yq0 yn0 (by have:=congrArg List.length h1;rw [List.length_map,hv.inv.ly] at this;omega)] at e
 rw [pe2] at e
 exact e
end Go.G08
namespace Go.Proofs.YtpgdchkdlgkmgaaGreatDoor
open Go.Lw Go.G21 Go.G08 _root_.Go.Proofs.Tryz
def u1n (l:List MOp):Nat:=match z4p 0 G08.start l with
  | .error (_,n)=>n
  | .ok _=>l.length
theorem x3w (gy gt:Nat) (v:Value) (l:List MOp) (w0:World) (hS:StAt w0 (st0 gy gt)) (hv:Sl z6s w0 v l) (hTS:StT w0) (hl4:l.length<=4096):Rets prog 9 #[.agg #[.int .i64 (st0 gy gt).rk,.slice (st0 gy gt).q.f.1 (st0 gy gt).q.f.2.1 (st0 gy gt).q.f.2.2,.slice (st0 gy gt).q.b.1 (st0 gy gt).q.b.2.1 (st0 gy gt).q.b.2.2,.slice (st0 gy gt).yv.1 (st0 gy gt).yv.2.1 (st0 gy gt).yv.2.2,.slice (st0 gy gt).fb.t.1 (st0 gy gt).fb.t.2.1 (st0 gy gt).fb.t.2.2,.slice (st0 gy gt).fb.c.1 (st0 gy gt).fb.c.2.1 (st0 gy gt).fb.c.2.2,.slice (st0 gy gt).fb.h.1 (st0 gy gt).fb.h.2.1 (st0 gy gt).fb.h.2.2,.slice (st0 gy gt).fb.f.1 (st0 gy gt).fb.f.2.1 (st0 gy gt).fb.f.2.2],v] w0 λr w'=>(∃s':StQ,r=.tuple #[.agg #[.int .i64 s'.rk,.slice s'.q.f.1 s'.q.f.2.1 s'.q.f.2.2,.slice s'.q.b.1 s'.q.b.2.1 s'.q.b.2.2,.slice s'.yv.1 s'.yv.2.1 s'.yv.2.2,.slice s'.fb.t.1 s'.fb.t.2.1 s'.fb.t.2.2,.slice s'.fb.c.1 s'.fb.c.2.1 s'.fb.c.2.2,.slice s'.fb.h.1 s'.fb.h.2.1 s'.fb.h.2.2,.slice s'.fb.f.1 s'.fb.f.2.1 s'.fb.f.2.2],.int .i64 (u1n l:Int),.int .i64 (v3a l)]/\StO τd 109 w0.heap.size w' s'/\∀p,z4p 0 G08.start l=.ok p->s'.p=stM p)/\Fr [] w0 w':=
 Rets.mono (v4c gy gt v l w0 hS hv hTS hl4) (by
  rintro r w' ⟨h,hf⟩
  refine ⟨?_,hf⟩
  unfold v3a u1n
  cases e:z4p 0 G08.start l with
  | error x=>
   obtain ⟨e1,n⟩:=x
   rw [e] at h
   exact ⟨stZ,h,u9z _ _,λp hp=>by cases hp⟩
  | ok p=>
   rw [e] at h
   obtain ⟨s',h1,h2,h3⟩:=h
   exact ⟨s',h1,h2,λq hq=>by cases hq;exact h3⟩)
theorem x6o {l:List MOp} {p:MSt} (h:z4p 0 G08.start l=.ok p):v3a l=0/\u1n l=l.length:=by
 unfold v3a u1n;rw [h];exact ⟨rfl,rfl⟩
theorem x7j {l:List MOp} {e:Int} {n:Nat} (h:z4p 0 G08.start l=.error (e,n)):v3a l=e/\u1n l=n:=by
 unfold v3a u1n;rw [h];exact ⟨rfl,rfl⟩
theorem j2o {p:MSt} {n:Nat} (gy gt:Nat) (v:Value) (l:List MOp) (w0:World) (hS:StAt w0 (st0 gy gt)) (hv:Sl z6s w0 v l) (hTS:StT w0) (hl4:l.length<=4096) (h:z4p 0 G08.start l=.ok p) (hn:l.length=n):Rets prog 9 #[.agg #[.int .i64 (st0 gy gt).rk,.slice (st0 gy gt).q.f.1 (st0 gy gt).q.f.2.1 (st0 gy gt).q.f.2.2,.slice (st0 gy gt).q.b.1 (st0 gy gt).q.b.2.1 (st0 gy gt).q.b.2.2,.slice (st0 gy gt).yv.1 (st0 gy gt).yv.2.1 (st0 gy gt).yv.2.2,.slice (st0 gy gt).fb.t.1 (st0 gy gt).fb.t.2.1 (st0 gy gt).fb.t.2.2,.slice (st0 gy gt).fb.c.1 (st0 gy gt).fb.c.2.1 (st0 gy gt).fb.c.2.2,.slice (st0 gy gt).fb.h.1 (st0 gy gt).fb.h.2.1 (st0 gy gt).fb.h.2.2,.slice (st0 gy gt).fb.f.1 (st0 gy gt).fb.f.2.1 (st0 gy gt).fb.f.2.2],v] w0 λr w'=>(∃s':StQ,r=.tuple #[.agg #[.int .i64 s'.rk,.slice s'.q.f.1 s'.q.f.2.1 s'.q.f.2.2,.slice s'.q.b.1 s'.q.b.2.1 s'.q.b.2.2,.slice s'.yv.1 s'.yv.2.1 s'.yv.2.2,.slice s'.fb.t.1 s'.fb.t.2.1 s'.fb.t.2.2,.slice s'.fb.c.1 s'.fb.c.2.1 s'.fb.c.2.2,.slice s'.fb.h.1 s'.fb.h.2.1 s'.fb.h.2.2,.slice s'.fb.f.1 s'.fb.f.2.1 s'.fb.f.2.2],.int .i64 (n:Int),.int .i64 0]/\StO τd 109 w0.heap.size w' s'/\s'.p=stM p)/\Fr [] w0 w':=
 Rets.mono (x3w gy gt v l w0 hS hv hTS hl4) (by
  rintro r w' ⟨⟨s',rfl,h1,h2⟩,hf⟩
  rw [(x6o h).1,(x6o h).2,hn]
  exact ⟨⟨s',rfl,h1,h2 p h⟩,hf⟩)
theorem v1k {e:Int} {n:Nat} (gy gt:Nat) (v:Value) (l:List MOp) (w0:World) (hS:StAt w0 (st0 gy gt)) (hv:Sl z6s w0 v l) (hTS:StT w0) (hl4:l.length<=4096) (h:z4p 0 G08.start l=.error (e,n)):Rets prog 9 #[.agg #[.int .i64 (st0 gy gt).rk,.slice (st0 gy gt).q.f.1 (st0 gy gt).q.f.2.1 (st0 gy gt).q.f.2.2,.slice (st0 gy gt).q.b.1 (st0 gy gt).q.b.2.1 (st0 gy gt).q.b.2.2,.slice (st0 gy gt).yv.1 (st0 gy gt).yv.2.1 (st0 gy gt).yv.2.2,.slice (st0 gy gt).fb.t.1 (st0 gy gt).fb.t.2.1 (st0 gy gt).fb.t.2.2,.slice (st0 gy gt).fb.c.1 (st0 gy gt).fb.c.2.1 (st0 gy gt).fb.c.2.2,.slice (st0 gy gt).fb.h.1 (st0 gy gt).fb.h.2.1 (st0 gy gt).fb.h.2.2,.slice (st0 gy gt).fb.f.1 (st0 gy gt).fb.f.2.1 (st0 gy gt).fb.f.2.2],v] w0 λr w'=>(∃s':StQ,r=.tuple #[.agg #[.int .i64 s'.rk,.slice s'.q.f.1 s'.q.f.2.1 s'.q.f.2.2,.slice s'.q.b.1 s'.q.b.2.1 s'.q.b.2.2,.slice s'.yv.1 s'.yv.2.1 s'.yv.2.2,.slice s'.fb.t.1 s'.fb.t.2.1 s'.fb.t.2.2,.slice s'.fb.c.1 s'.fb.c.2.1 s'.fb.c.2.2,.slice s'.fb.h.1 s'.fb.h.2.1 s'.fb.h.2.2,.slice s'.fb.f.1 s'.fb.f.2.1 s'.fb.f.2.2],.int .i64 (n:Int),.int .i64 e]/\StO τd 109 w0.heap.size w' s')/\Fr [] w0 w':=
 Rets.mono (x3w gy gt v l w0 hS hv hTS hl4) (by
  rintro r w' ⟨⟨s',rfl,h1,h2⟩,hf⟩
  rw [(x7j h).1,(x7j h).2]
  exact ⟨⟨s',rfl,h1⟩,hf⟩)
theorem v2q {p:MSt} (v:Value) (l:List MOp) (w0:World) (hv:Sl z6s w0 v l) (hTS:StT w0) (hl4:l.length<=4096) (h:z4p 0 G08.start l=.ok p):Rets prog 14 #[v] w0 λr w'=>(∃s':StQ,r=.tuple #[.agg #[.slice s'.fb.t.1 s'.fb.t.2.1 s'.fb.t.2.2,.slice s'.fb.c.1 s'.fb.c.2.1 s'.fb.c.2.2,.slice s'.fb.h.1 s'.fb.h.2.1 s'.fb.h.2.2,.slice s'.fb.f.1 s'.fb.f.2.1 s'.fb.f.2.2],.int .i64 0]/\StO τd 109 w0.heap.size w' s'/\s'.p=stM p)/\Fr [] w0 w':=
 Rets.mono (x7a v l w0 hv hTS hl4) (by
  rintro r w' ⟨⟨s',rfl,h1,h2⟩,hf⟩
  rw [(x6o h).1]
  exact ⟨⟨s',rfl,h1,h2 p h⟩,hf⟩)
theorem v3i {e:Int} {n:Nat} (v:Value) (l:List MOp) (w0:World) (hv:Sl z6s w0 v l) (hTS:StT w0) (hl4:l.length<=4096) (h:z4p 0 G08.start l=.error (e,n)):Rets prog 14 #[v] w0 λr w'=>(∃s':StQ,r=.tuple #[.agg #[.slice s'.fb.t.1 s'.fb.t.2.1 s'.fb.t.2.2,.slice s'.fb.c.1 s'.fb.c.2.1 s'.fb.c.2.2,.slice s'.fb.h.1 s'.fb.h.2.1 s'.fb.h.2.2,.slice s'.fb.f.1 s'.fb.f.2.1 s'.fb.f.2.2],.int .i64 e]/\StO τd 109 w0.heap.size w' s')/\Fr [] w0 w':=
 Rets.mono (x7a v l w0 hv hTS hl4) (by
  rintro r w' ⟨⟨s',rfl,h1,h2⟩,hf⟩
  rw [(x7j h).1]
  exact ⟨⟨s',rfl,h1⟩,hf⟩)
theorem x9q (q:FbQ) (p:MSt) (B:List UInt8) (w0:World) (hF:FbAt w0 q) (hG:Glob w0) (hv:MVal p) (hq:q.p=(stM p).fb) (hB:u8c p.tb (y2b p.cr) ((z2n p.B p.rk).map Hd.id) (y2i p.fa)=B) (hl:B.length<=1000000):Rets prog 31 #[.agg #[.slice q.t.1 q.t.2.1 q.t.2.2,.slice q.c.1 q.c.2.1 q.c.2.2,.slice q.h.1 q.h.2.1 q.h.2.2,.slice q.f.1 q.f.2.1 q.f.2.2]] w0 λr w'=>r=S B/\Fr [] w0 w':=by
 have e1:z2c q.ts=p.tb:=congrArg Fb.t hq
 have e2:q.cs=y2b p.cr:=congrArg Fb.c hq
 have e3:q.hs=(z2n p.B p.rk).map Hd.id:=congrArg Fb.h hq
 have e4:q.fs=y2i p.fa:=congrArg Fb.f hq
 have h6:q.ts.length=6:=by rw [<-z6n,e1];exact hv.inv.lt
 have x:=v6j q w0 hF hG h6 (by rw [e1];exact hv.tabV) (by rw [e1,e2];exact hv.crs) (by rw [e1,e3,e4];exact hv.place) (by rw [e1,e2,e3,e4,hB];exact hl)
 rw [e1,e2,e3,e4,hB] at x
 exact x
theorem y0w (l:List UInt8) (os:List MOp) (n e:Int) (w0:World) (hG:Glob w0) (h:y6w l=(os,n,e)) (hl:l.length<=1000000):Rets prog 30 #[S l] w0 λr w'=>(∃A,r=.slice A os.length os.length/\Lw.Own z6s 28 w0.heap.size w' r os)/\Fr [] w0 w':=by
 have hGs:=hG.sz
 refine we [(0,S l)] func30 rfl ntmps30 rfl (.cons rfl .nil) ?_
 have hG0:=hG
 refine sr (asg rfl (nn (sr (mv rfl (cl (ev1 rfl) (mkC func79) (x8q l _ hG hl) rfl ?_)))))
 rintro _ w1 ⟨A,os',n',e',hpe,rfl,hos,q1⟩
 cases hpe.symm.trans h
 refine mv rfl (xt rfl rfl (xt rfl rfl (xt rfl rfl (asg rfl (asg rfl (asg rfl (kpL [(3,_)] (.cons rfl .nil) (nn (sr (mv rfl (asg rfl (nn (rt (r1 results30 rfl ?_))))))))))))))
 exact ⟨_,rfl,⟨A,rfl,hos.low (by omega)⟩,q1⟩
theorem u7x:CallOf prog 30:=mkC func30
set_option maxHeartbeats 2000000 in
set_option maxRecDepth 10000 in
theorem v8p (w0:World) (hG:Glob w0) (hTS:StT w0):Rets prog 11 #[] w0 λr w'=>r=.bool true/\Fr [] w0 w':=by
 have hGs:=hG.sz
 refine we [] func11 rfl ntmps11 rfl .nil ?_
 have hG0:=hG
 have hTS0:=hTS
 refine sr (asg rfl (nn (sr (cl (ev1 rfl) u7x (y0w _ u8w 0 0 _ hG prgA (by decide)) rfl ?_))))
 rintro _ w1 ⟨⟨A14,rfl,ho14⟩,q1⟩
 have z1:=q1.size
 replace hTS:=hTS0.ext q1
 refine cl (ev1 rfl) (mkC func14) (v2q _ u8w _ ho14.sl hTS (by decide) rnA) rfl ?_
 rintro _ w2 ⟨⟨s1,rfl,hO1,hp1⟩,q2⟩
 have z2:=q2.size
 have hO10:=hO1
 refine mv rfl (xt rfl rfl (xt rfl rfl (al v5k rfl rfl (λg1 w3 hg1 hb1 q3 z3=>?_))))
 refine z0j (vs:=[_,_,_,_]) rfl rfl hb1 v5j (λw4 hb1 q4 z4=>?_) (h1:=(by first|(simp [Value.oneCell',S];done)|exact z1t.one _))
 refine asg rfl (nn (sq (sq ?_)))
 refine x8z (r:=24) (L':=[]) (((0≠0)\/([49,46,48,32,102,114,111,110,116,32,110,101,119,10,49,46,49,32,102,114,111,110,116,10,49,46,50,32,102,114,111,110,116,32,116,104,114,111,117,103,104,32,49,46,49,10,49,46,51,32,102,114,111,110,116,32,116,104,114,111,117,103,104,32,49,46,48,10,104,101,108,100,32,49,46,51,32,49,46,50,10]≠[49,46,48,32,102,114,111,110,116,32,110,101,119,10,49,46,49,32,102,114,111,110,116,10,49,46,50,32,102,114,111,110,116,32,116,104,114,111,117,103,104,32,49,46,49,10,49,46,51,32,102,114,111,110,116,32,116,104,114,111,117,103,104,32,49,46,48,10,104,101,108,100,32,49,46,51,32,49,46,50,10]))) .nil ?_ ?_
 ·refine mv rfl (ne' rfl rfl (mv rfl (gs 20 rfl (λhh=>absurd hh (by decide)) (λg0=>(gY rfl (z0n rfl hb1 x9a (gY rfl ?_)))))))
  replace hO1:=hO10.ext (q3.z1 q4)
  replace hG:=hG0.ext (q1.z3 q2 q3 q4)
  refine cl (ev1 rfl) (mkC func31) (x9q s1.fb msA _ _ hO1.at.f hG (y4j z9w rnA) (congrArg St.fb hp1) txA (by decide)) rfl ?_
  rintro _ w5 ⟨rfl,q5⟩
  have z5:=q5.size
  exact gY rfl (u6a rfl rfl rfl (pkf rfl rfl (y0k rfl .nil q5)))
 intro w6 q6;have z6:=q6.size
 refine tn (cd rfl (λc0=>?_) (λc0=>?_))
 ·rcases c0 with hh|hh<;>exact absurd rfl hh
 refine sk (tn (sr (cl z0g u1r (z5f _) rfl ?_)))
 rintro _ w7 ⟨⟨gy26,gt26,rfl,hSt26⟩,q7⟩
 have z7:=q7.size
 have hSt260:=hSt26
 replace hG:=hG0.ext (q1.z5 q2 q3 q4 q6 q7)
 refine cl (ev1 rfl) u7x (y0w _ u9j 0 0 _ hG prgB (by decide)) rfl ?_
 rintro _ w8 ⟨⟨A27,rfl,ho27⟩,q8⟩
 have z8:=q8.size
 replace hSt26:=hSt260.ext q8
 replace hTS:=hTS0.ext (q1.z6 q2 q3 q4 q6 q7 q8)
 refine cl (ev2 rfl rfl) co9 (j2o gy26 gt26 _ u9j _ hSt26 ho27.sl hTS (by decide) rnB (n:=6) rfl) rfl ?_
 rintro _ w9 ⟨⟨s2,rfl,hO2,hp2⟩,q9⟩
 have z9:=q9.size
 have hO20:=hO2
 obtain ⟨⟨hy2,hc2⟩,hpe2,hq2⟩:=st2 hp2
 have hbl2:=z3m (q:=s2.q) (by rw [hq2];exact (y4j z9w rnB).inv.B)
 have hyl2:=z1s hO2.at.y
 have hcl2:s2.fb.c.2.1=0:=by rw [z1s hO2.at.f.c,hc2];rfl
 have hpl2:(s2.ys.getD 0 yq0).pe.2.1=1:=by rw [z1s (hO2.at.ya 0),hpe2];rfl
 have hpn2:(s2.ys.getD 0 yq0).pes.length=1:=by rw [hpe2];rfl
 refine mv rfl (xt rfl rfl (xt rfl rfl (xt rfl rfl (al u1h rfl rfl (λg3 w10 hg3 hb3 q10 z10=>?_)))))
 refine z0j (vs:=[_,_,_,_,_,_,_,_]) rfl rfl hb3 x4l (λw11 hb3 q11 z11=>?_) (h1:=(by first|(simp [Value.oneCell',S];done)|exact z1t.one _))
 refine asg rfl (asg rfl (kpL [(2,_),(3,_),(4,_)] (.c3 rfl rfl rfl) (nn (sq (sr (mv rfl (ne' rfl rfl (mv rfl (gs 34 rfl (λhh=>absurd hh (by decide)) (λg1=>(gY rfl (mv rfl (gY rfl (ne' rfl rfl (pkf rfl rfl (mv rfl (gs 38 rfl (λhh=>absurd hh (by decide)) (λg2=>?_))))))))))))))))))
 refine gY rfl (fad rfl x0a (gY rfl (z1y (vs:=[_,_]) rfl hb3 z5k rfl (gY rfl (z1r (cs:=[_,_]) (ev1 rfl) y9u (z0f rfl rfl rfl z0s) rfl ?_)))))
 refine gY rfl ?_
 replace hO2:=hO20.ext (q10.z1 q11)
 refine cl (ev2 rfl rfl) u1d (x1b s2.q 0 2 _ hO2.at.b (by decide) hbl2.1.1 hbl2.1.2 hbl2.2.1 hbl2.2.2) rfl ?_
 rintro v42 w12 ⟨ho42,q12⟩
 have z12:=q12.size
 rw [hq2] at ho42
 obtain ⟨A42,c42,rfl,hc42⟩:=ho42.sl.form
 refine gY rfl (lnS rfl underlying37 (gY rfl (ne' rfl rfl (pkf rfl rfl (mv rfl ?_)))))
 refine gs 46 rfl (λhh=>absurd hh (by rw [at2];decide)) (λg3=>?_)
 refine gY rfl (fad rfl z8b (gY rfl (y2g rfl y6r (gY rfl ?_))))
 replace hb3:=hb3.ext q12
 refine z0i rfl hb3 rfl u8e (gY rfl (lnS rfl underlying36 (gY rfl (ne' rfl rfl (pkf rfl rfl (mv rfl (gs 53 rfl (λhh=>absurd hh (by omega)) (λg4=>(gY rfl (fad rfl y5j (gY rfl (z0i rfl hb3 rfl y1w (gY rfl ?_)))))))))))))
 replace hO2:=hO20.ext (q10.z2 q11 q12)
 refine z1a (p:=0) (yq0) rfl hO2.at.y rfl y1r rfl (λad56 hc56=>(gY rfl (fad rfl z8c (gY rfl (z7s rfl (hc56 _ hO2.at.y) rfl y6u (gY rfl (lnS rfl underlying54 (gY rfl (ne' rfl rfl (pkf rfl rfl (mv rfl (gs 62 rfl (λhh=>absurd hh (by omega)) (λg5=>(gY rfl (fad rfl y5j (gY rfl (z0i rfl hb3 rfl y1w (gY rfl (z1a (p:=0) (yq0) rfl hO2.at.y rfl y1r rfl (λad65 hc65=>(gY rfl (fad rfl z8c (gY rfl (z7s rfl (hc65 _ hO2.at.y) rfl y6u (gY rfl (z1a (p:=0) (pa0) rfl (hO2.at.ya 0) rfl z9c rfl (λad68 hc68=>?_)))))))))))))))))))))))))))
 refine gY rfl (z1j rfl (hc68 _ (hO2.at.ya 0)) z6w (gY rfl (z1r (cs:=[_,_]) (ev1 rfl) u8j (z0f rfl rfl rfl z0s) rfl ?_)))
 refine gY rfl (z1r (cs:=[_,_,_,_]) (ev3 rfl rfl rfl) u6c (z0f rfl rfl rfl (z0f rfl rfl rfl (z0f rfl rfl rfl z0s))) rfl ?_)
 refine gY rfl (v8c (V:=paV) (e:=((s2.ys.getD 0 yq0).pes.getD 0 pa0)) (f:=⟨⟨1,0⟩,true,0⟩) rfl rfl eqPa rfl (pkf rfl rfl (kpL [(73,_)] (.cons rfl .nil) (nn (cd rfl (λc1=>?_) (λc1=>?_))))))
 ·exact absurd (by rw [hpe2];rfl) c1
 refine sk (tn (sr ?_))
 replace hG:=hG0.ext ((((q1.z6 q2 q3 q4 q6 q7 q8).n1 q9).n1 q10).z2 q11 q12)
 refine cl (ev1 rfl) u7x (y0w _ j2c 0 0 _ hG prgC (by decide)) rfl ?_
 rintro _ w13 ⟨⟨A75,rfl,ho75⟩,q13⟩
 have z13:=q13.size
 replace hTS:=hTS0.ext ((((q1.z6 q2 q3 q4 q6 q7 q8).n1 q9).n1 q10).z3 q11 q12 q13)
 refine cl (ev1 rfl) (mkC func14) (v2q _ j2c _ ho75.sl hTS (by decide) rnC) rfl ?_
 rintro _ w14 ⟨⟨s3,rfl,hO3,hp3⟩,q14⟩
 have z14:=q14.size
 have hO30:=hO3
 refine mv rfl (xt rfl rfl (xt rfl rfl (al v5k rfl rfl (λg5 w15 hg5 hb5 q15 z15=>?_))))
 refine z0j (vs:=[_,_,_,_]) rfl rfl hb5 v5j (λw16 hb5 q16 z16=>?_) (h1:=(by first|(simp [Value.oneCell',S];done)|exact z1t.one _))
 refine asg rfl (kpL [(2,_),(5,_)] (.c2 rfl rfl) (nn (sr ?_)))
 replace hG:=hG0.ext ((((q1.z6 q2 q3 q4 q6 q7 q8).n1 q9).n1 q10).z6 q11 q12 q13 q14 q15 q16)
 refine cl (ev1 rfl) u7x (y0w _ j3c 0 0 _ hG prgD (by decide)) rfl ?_
 rintro _ w17 ⟨⟨A80,rfl,ho80⟩,q17⟩
 have z17:=q17.size
 replace hTS:=hTS0.ext (((((q1.z6 q2 q3 q4 q6 q7 q8).n1 q9).n1 q10).z6 q11 q12 q13 q14 q15 q16).next q17)
 refine cl (ev1 rfl) (mkC func14) (v3i _ j3c _ ho80.sl hTS (by decide) rnD) rfl ?_
 rintro _ w18 ⟨⟨s4,rfl,_⟩,q18⟩
 have z18:=q18.size
 refine mv rfl (xt rfl rfl (xt rfl rfl (al v5k rfl rfl (λg6 w19 hg6 hb6 q19 z19=>?_))))
 refine z0j (vs:=[_,_,_,_]) rfl rfl hb6 v5j (λw20 hb6 q20 z20=>?_) (h1:=(by first|(simp [Value.oneCell',S];done)|exact z1t.one _))
 refine asg rfl (kpL [(2,_),(5,_),(7,_)] (.c3 rfl rfl rfl) (nn (sr ?_)))
 replace hG:=hG0.ext ((((((((q1.z6 q2 q3 q4 q6 q7 q8).n1 q9).n1 q10).z6 q11 q12 q13 q14 q15 q16).next q17).next q18).next q19).sp q20)
 refine cl (ev1 rfl) u7x (y0w _ j3e 0 0 _ hG prgE (by decide)) rfl ?_
 rintro _ w21 ⟨⟨A85,rfl,ho85⟩,q21⟩
 have z21:=q21.size
 replace hTS:=hTS0.ext (((((((((q1.z6 q2 q3 q4 q6 q7 q8).n1 q9).n1 q10).z6 q11 q12 q13 q14 q15 q16).next q17).next q18).next q19).sp q20).next q21)
 refine cl (ev1 rfl) (mkC func14) (v3i _ j3e _ ho85.sl hTS (by decide) rnE) rfl ?_
 rintro _ w22 ⟨⟨s5,rfl,_⟩,q22⟩
 have z22:=q22.size
 refine mv rfl (xt rfl rfl (xt rfl rfl (al v5k rfl rfl (λg8 w23 hg8 hb8 q23 z23=>?_))))
 refine z0j (vs:=[_,_,_,_]) rfl rfl hb8 v5j (λw24 hb8 q24 z24=>?_) (h1:=(by first|(simp [Value.oneCell',S];done)|exact z1t.one _))
 refine asg rfl (kpL [(2,_),(5,_),(7,_),(9,_)] (.c4 rfl rfl rfl rfl) (nn (sr (cl z0g u1r (z5f _) rfl ?_))))
 rintro _ w25 ⟨⟨gy90,gt90,rfl,hSt90⟩,q25⟩
 have z25:=q25.size
 have hSt900:=hSt90
 replace hG:=hG0.ext (((((((((((((q1.z6 q2 q3 q4 q6 q7 q8).n1 q9).n1 q10).z6 q11 q12 q13 q14 q15 q16).next q17).next q18).next q19).sp q20).next q21).next q22).next q23).sp q24).next q25)
 refine cl (ev1 rfl) u7x (y0w _ j3d 0 0 _ hG prgF (by decide)) rfl ?_
 rintro _ w26 ⟨⟨A91,rfl,ho91⟩,q26⟩
 have z26:=q26.size
 replace hSt90:=hSt900.ext q26
 replace hTS:=hTS0.ext ((((((((((((((q1.z6 q2 q3 q4 q6 q7 q8).n1 q9).n1 q10).z6 q11 q12 q13 q14 q15 q16).next q17).next q18).next q19).sp q20).next q21).next q22).next q23).sp q24).next q25).next q26)
 refine cl (ev2 rfl rfl) co9 (v1k gy90 gt90 _ j3d _ hSt90 ho91.sl hTS (by decide) rnF) rfl ?_
 rintro _ w27 ⟨⟨s6,rfl,_⟩,q27⟩
 have z27:=q27.size
 refine mv rfl (xt rfl rfl (xt rfl rfl (xt rfl rfl (al u1h rfl rfl (λg10 w28 hg10 hb10 q28 z28=>?_)))))
 refine z0j (vs:=[_,_,_,_,_,_,_,_]) rfl rfl hb10 x4l (λw29 hb10 q29 z29=>?_) (h1:=(by first|(simp [Value.oneCell',S];done)|exact z1t.one _))
 refine asg rfl (asg rfl (kpL [(2,_),(5,_),(7,_),(9,_),(11,_),(12,_)] (.c6 rfl rfl rfl rfl rfl rfl) (nn (sq ?_))))
 refine x8z (r:=0) (L':=[]) (((((((0=0)/\([49,46,48,32,102,114,111,110,116,32,110,101,119,10,49,46,49,32,102,114,111,110,116,10,99,114,111,115,115,32,49,46,48,32,49,46,49,32,45,49,10,104,101,108,100,32,49,46,49,32,49,46,48,10]=[49,46,48,32,102,114,111,110,116,32,110,101,119,10,49,46,49,32,102,114,111,110,116,10,99,114,111,115,115,32,49,46,48,32,49,46,49,32,45,49,10,104,101,108,100,32,49,46,49,32,49,46,48,10]))/\(12=12))/\(13=13))/\(12=12))/\(((2:Nat):Int)=2))) .nil ?_ ?_
 ·refine mv rfl (eq' rfl rfl (mv rfl (gs 98 rfl (λg6=>?_) (λhh=>absurd (by decide) hh))))
  refine gY rfl ?_
  replace hb5:=(((((hb5.ext (q17.n2 q18 q19)).fr q20).ext (q21.n2 q22 q23)).fr q24).ext (q25.n3 q26 q27 q28)).fr q29
  refine z0n rfl hb5 x9a (gY rfl ?_)
  replace hO3:=hO30.ext ((((q15.z6 q16 q17 q18 q19 q20 q21).n1 q22).n1 q23).z6 q24 q25 q26 q27 q28 q29)
  replace hG:=hG0.ext (((((((((((((((((q1.z6 q2 q3 q4 q6 q7 q8).n1 q9).n1 q10).z6 q11 q12 q13 q14 q15 q16).next q17).next q18).next q19).sp q20).next q21).next q22).next q23).sp q24).next q25).next q26).next q27).next q28).sp q29)
  refine cl (ev1 rfl) (mkC func31) (x9q s3.fb msC _ _ hO3.at.f hG (y4j z9w rnC) (congrArg St.fb hp3) txC (by decide)) rfl ?_
  rintro _ w30 ⟨rfl,q30⟩
  have z30:=q30.size
  refine gY rfl (v8a rfl rfl rfl (pkt rfl rfl (mv rfl (gs 103 rfl (λg7=>?_) (λhh=>absurd (by rfl) hh)))))
  refine gY rfl (mv rfl (gY rfl (eq' rfl rfl (pkt rfl rfl (mv rfl (gs 107 rfl (λg8=>?_) (λhh=>absurd (by decide) hh)))))))
  refine gY rfl (mv rfl (gY rfl (eq' rfl rfl (pkt rfl rfl (mv rfl (gs 111 rfl (λg9=>?_) (λhh=>absurd (by decide) hh)))))))
  refine gY rfl (mv rfl (gY rfl (eq' rfl rfl (pkt rfl rfl (mv rfl (gs 115 rfl (λg10=>?_) (λhh=>absurd (by decide) hh)))))))
  exact gY rfl (mv rfl (gY rfl (eq' rfl rfl (pkt rfl rfl (asg rfl (y0k rfl .nil q30))))))
 intro w31 q31;have z31:=q31.size
 refine tn (rt (r1 results11 rfl ?_))
 exact ⟨_,rfl,congrArg Value.bool (decide_eq_true (by decide)),((((((((((((((((((q1.z6 q2 q3 q4 q6 q7 q8).n1 q9).n1 q10).z6 q11 q12 q13 q14 q15 q16).next q17).next q18).next q19).sp q20).next q21).next q22).next q23).sp q24).next q25).next q26).next q27).next q28).sp q29).next q31)⟩
theorem u5d {x:Except (Int×Nat) MSt} {e:Int×Nat} (h:j4l x=e) (h0:e≠(0,0)):x=.error e:=by
 cases x with
 | ok p=>exact absurd h.symm h0
 | error z=>exact congrArg Except.error h
theorem u0l {x:Int} (h:0<=x/\x<=255):z4p 0 G08.start (u7z (x % 2) (1+x / 2 % 40))=.error (9,9):=by
 obtain ⟨k,hk⟩:∃k:Nat,x=(k:Int):=⟨x.toNat,by omega⟩
 have h2:=u7c (k % 80) (Nat.mod_lt _ (by decide))
 have e1:((k % 80 % 2:Nat):Int)=x % 2:=by omega
 have e2:1+((k % 80 / 2:Nat):Int)=1+x / 2 % 40:=by omega
 rw [e1,e2] at h2
 exact u5d h2 (by decide)
theorem j3v {b P:Int} {i:Nat} (h:i % 2=0):opK b P i=⟨4,1,b,P,2,0⟩:=by unfold opK;rw [if_pos h]
theorem j3f {b P:Int} {i:Nat} (h:¬i % 2=0):opK b P i=⟨4,0,b,P,2,0⟩:=by unfold opK;rw [if_neg h]
theorem j5b {b P:Int} {i:Nat} (h:i % 2=0):inK::knL b P 0 (i+1)=(inK::knL b P 0 i)++[⟨4,1,b,P,2,0⟩]:=by
 rw [y8t,Nat.zero_add,j3v h];rfl
theorem j5l {b P:Int} {i:Nat} (h:¬i % 2=0):inK::knL b P 0 (i+1)=(inK::knL b P 0 i)++[⟨4,0,b,P,2,0⟩]:=by
 rw [y8t,Nat.zero_add,j3f h];rfl
theorem j2d {b P:Int} (h:z3d b P=0) {pl:Int} {n:Nat} (hn:1<=n) {s:StQ} (hs:s.p=stM (stK b P pl n)):s.fb.ts.length=6/\(s.fb.ts.getD 1 tq0).2.length=n/\s.fb.hs.length=1:=by
 have h1:z2c s.fb.ts=(stK b P pl n).tb:=congrArg (λz=>z.fb.t) hs
 have h2:s.fb.hs=(z2n (stK b P pl n).B (stK b P pl n).rk).map Hd.id:=congrArg (λz=>z.fb.h) hs
 refine ⟨by rw [<-z6n,h1];rfl,?_,by rw [h2];exact v8n h pl hn⟩
 rw [<-z3c,h1]
 exact y7t b n
set_option maxHeartbeats 4000000 in
theorem v0t (mo at_:Int) (w0:World) (hG:Glob w0) (hTS:StT w0) (hmo:0<=mo/\mo<=255) (hat:0<=at_/\at_<=255):Rets prog 3 #[.int .u8 mo,.int .u8 at_] w0 λr w'=>r=.bool true/\Fr [] w0 w':=by
 obtain ⟨N,hN⟩:∃N:Nat,(N:Int)=2046+mo % 4:=⟨(2046+mo % 4).toNat,by omega⟩
 have hnc:z3d (at_ % 2) (1+at_ / 2 % 40)=0:=u4k ⟨by omega,by omega,by omega⟩
 have hGs:=hG.sz
 refine we [(0,.int .u8 mo),(1,.int .u8 at_)] func3 rfl ntmps3 rfl (.c2 rfl rfl) ?_
 have hG0:=hG
 have hTS0:=hTS
 refine sr (asg rfl (nn (sr (mv rfl (x8w rfl rfl (by first|exact IntWalk.rem_in _ _ (by omega)|rfl) (mv rfl (j5f rfl rfl (by omega) (by first|exact IntWalk.u8_quo _ _ (by omega)|rfl) rfl (x8w rfl rfl (by first|exact IntWalk.rem_in _ _ (by omega)|rfl) (z5h rfl (us underlying5) underlying3 (wi6 (by omega)) (z0y rfl rfl (wi6 (by omega)) (z1r (cs:=[_,_]) (ev2 rfl rfl) y9u (z0f rfl rfl rfl (z0f rfl rfl rfl z0s)) rfl ?_)))))))))))
 refine al v6o rfl rfl (λg5 w1 hg5 hb5 q1 z1=>?_)
 refine z0j (vs:=[_,_]) rfl rfl hb5 y9k (λw2 hb5 q2 z2=>?_) (h1:=(by first|(simp [Value.oneCell',S];done)|exact z6s.one _))
 refine kpL [(0,_),(5,_)] (.c2 rfl rfl) (nn (sr (z1r (cs:=[_,_,_,_,_,_]) (ev3 rfl rfl rfl) u3u (z0f rfl rfl rfl (z0f rfl rfl rfl (z0f rfl rfl rfl z0s))) rfl ?_)))
 refine al x7e rfl rfl (λg6 w3 hg6 hb6 q3 z3=>?_)
 refine z0j (vs:=[_,_,_,_,_,_]) rfl rfl hb6 x9c (λw4 hb6 q4 z4=>?_) (h1:=(by first|(simp [Value.oneCell',S];done)|exact z6s.one _))
 refine nn (sr ?_)
 replace hb5:=(hb5.ext q3).fr q4
 refine z0n rfl hb5 z4v (z1r (cs:=[_,_,_,_,_,_]) (ev4 rfl rfl rfl rfl) u3u (z0f rfl rfl rfl (z0f rfl rfl rfl (z0f rfl rfl rfl (z0f rfl rfl rfl z0s)))) rfl ?_)
 refine al x7e rfl rfl (λg7 w5 hg7 hb7 q5 z5=>?_)
 refine z0j (vs:=[_,_,_,_,_,_]) rfl rfl hb7 x9c (λw6 hb7 q6 z6=>?_) (h1:=(by first|(simp [Value.oneCell',S];done)|exact z6s.one _))
 refine nn (sr ?_)
 replace hb5:=(hb5.ext q5).fr q6
 refine z0n rfl hb5 z4v (z1r (cs:=[_,_,_,_,_,_]) (ev4 rfl rfl rfl rfl) u3u (z0f rfl rfl rfl (z0f rfl rfl rfl (z0f rfl rfl rfl (z0f rfl rfl rfl z0s)))) rfl ?_)
 refine al x7e rfl rfl (λg8 w7 hg8 hb8 q7 z7=>?_)
 refine z0j (vs:=[_,_,_,_,_,_]) rfl rfl hb8 x9c (λw8 hb8 q8 z8=>?_) (h1:=(by first|(simp [Value.oneCell',S];done)|exact z6s.one _))
 replace hb5:=(hb5.ext q7).fr q8
 replace hb6:=(((hb6.ext q5).fr q6).ext q7).fr q8
 replace hb7:=(hb7.ext q7).fr q8
 have hb50:=hb5
 have hb60:=hb6
 have hb70:=hb7
 have hb80:=hb8
 refine nn (sr (z0n rfl hb6 z9j (z2f ([inK]) (ev1 rfl) rfl rfl rfl x4z (λg31 w9 hg31 ho31 q9 z9=>(asg rfl (nn (sr (mv rfl (x8w rfl rfl (by first|exact IntWalk.rem_in _ _ (by omega)|rfl) (z5h rfl (us underlying5) underlying3 (wi6 (by omega)) (z0y rfl rfl (wi6 (by omega)) (asg rfl (nn (sq (sr (asg rfl ?_))))))))))))))))
 refine nn (bl ?_)
 refine lpK (ι:=Nat×Value) [(5,_),(6,_),(7,_),(8,_),(10,_)] (λp=>[(11,.int .i64 (p.1:Int)),(9,p.2)]) (λp w'=>Fr [] w8 w'/\p.1<=N/\Lw.Own z6s 28 w8.heap.size w' p.2 (inK::knL (at_ % 2) (1+at_ / 2 % 40) 0 p.1)) (λp=>N-p.1) (0,_) (.c7 rfl rfl rfl rfl rfl rfl rfl) ⟨q9,⟨Nat.zero_le _,ho31.low (by omega)⟩⟩ ?_
 rintro ⟨i,vP⟩ w10 ⟨q10,⟨hip,ho⟩⟩
 simp only at hip ho
 have z10:=q10.size
 refine kpC [(5,_),(6,_),(7,_),(8,_),(10,_),(11,.int .i64 (i:Int)),(9,vP)] (.c7 rfl rfl rfl rfl rfl rfl rfl) ?_
 have hkl:=v3s (at_ % 2) (1+at_ / 2 % 40) 0 i
 refine sq (sr (mv rfl (mv rfl (lt' rfl rfl (nn (cd rfl (λc0=>?_) (λc0=>?_)))))))
 ·refine sk (tn (sq (bl (sr (mv rfl (x8w rfl rfl (by first|exact IntWalk.rem_in _ _ (by omega)|rfl) (eq' rfl rfl (nn ?_))))))))
  refine cd rfl (λc1=>?_) (λc1=>?_)
  ·refine rg (mv rfl ?_)
   replace hb7:=hb70.ext q10
   refine z0n rfl hb7 z9j (z2f ([(⟨4,1,at_ % 2,1+at_ / 2 % 40,2,0⟩:MOp)]) (ev1 rfl) rfl rfl rfl x4z (λg46 w11 hg46 ho46 q11 z11=>?_))
   replace ho:=ho.ext q11
   have hoo47:=ho
   refine z1x rfl rfl ho ho46.sl x4z (by unfold maxLen;first|(simp only [List.length_append,List.length_cons,List.length_nil];omega)|omega) (by first|(simp only [List.length_append,List.length_cons,List.length_nil];omega)|omega) (λv47 w12 ho q12 hor47=>?_)
   have z12:=q12.size
   refine asg rfl (nl (bn' (tn (rg (mv rfl (z0y rfl rfl (wi6 (by omega)) (asg rfl (nl ?_))))))))
   exact lpE ((i+1,_)) (.c7 rfl rfl rfl rfl rfl rfl rfl) ⟨((q10.n1 q11).step q12 (λk hk hlt=>absurd (hoo47.blk k hk).1 (by omega))),⟨by simp only;omega,by rw [j5b (by omega)];exact ho⟩⟩ (by simp only;omega)
  refine rg (mv rfl ?_)
  replace hb8:=hb80.ext q10
  refine z0n rfl hb8 z9j (z2f ([(⟨4,0,at_ % 2,1+at_ / 2 % 40,2,0⟩:MOp)]) (ev1 rfl) rfl rfl rfl x4z (λg50 w13 hg50 ho50 q13 z13=>?_))
  replace ho:=ho.ext q13
  have hoo51:=ho
  refine z1x rfl rfl ho ho50.sl x4z (by unfold maxLen;first|(simp only [List.length_append,List.length_cons,List.length_nil];omega)|omega) (by first|(simp only [List.length_append,List.length_cons,List.length_nil];omega)|omega) (λv51 w14 ho q14 hor51=>?_)
  have z14:=q14.size
  refine asg rfl (nl (bn' (tn (rg (mv rfl (z0y rfl rfl (wi6 (by omega)) (asg rfl (nl ?_))))))))
  exact lpE ((i+1,_)) (.c7 rfl rfl rfl rfl rfl rfl rfl) ⟨((q10.n1 q13).step q14 (λk hk hlt=>absurd (hoo51.blk k hk).1 (by omega))),⟨by simp only;omega,by rw [j5l (by omega)];exact ho⟩⟩ (by simp only;omega)
 obtain rfl:i=N:=by omega
 obtain ⟨L,hL⟩:∃L,L=inK::knL (at_ % 2) (1+at_ / 2 % 40) 0 i:=⟨_,rfl⟩
 have hLl:L.length=i+1:=by rw [hL,List.length_cons,hkl]
 rw [<-hL] at ho
 obtain ⟨A9,c9,rfl,hc9⟩:=ho.sl.form
 refine ex (te (te (xh (tn (sr (cl z0g u1r (z5f _) rfl ?_))))))
 rintro _ w15 ⟨⟨gy53,gt53,rfl,hSt53⟩,q15⟩
 have z15:=q15.size
 have hSt530:=hSt53
 refine mv rfl ?_
 replace ho:=ho.ext q15
 replace hTS:=hTS0.ext ((((q1.z6 q2 q3 q4 q5 q6 q7).z1 q8).n1 q10).n1 q15)
 refine cl (ev2 rfl rfl) co9 (x3w gy53 gt53 _ L _ hSt53 ho.sl hTS (by omega)) rfl ?_
 rintro _ w16 ⟨⟨s1,rfl,hO1,hp1⟩,q16⟩
 have z16:=q16.size
 have hO10:=hO1
 refine mv rfl (xt rfl rfl (xt rfl rfl (xt rfl rfl (al u1h rfl rfl (λg12 w17 hg12 hb12 q17 z17=>?_)))))
 refine z0j (vs:=[_,_,_,_,_,_,_,_]) rfl rfl hb12 x4l (λw18 hb12 q18 z18=>?_) (h1:=(by first|(simp [Value.oneCell',S];done)|exact z6s.one _))
 refine asg rfl (asg rfl (kpL [(5,_),(6,_),(9,_),(10,_),(12,_),(13,_),(14,_)] (.c7 rfl rfl rfl rfl rfl rfl rfl) (nn ?_)))
 refine jn (ι:=Unit) [(5,_),(6,_)] (λ_j=>[]) (λ_j w'=>Fr [] w8 w'/\True) (.c2 rfl rfl) ?_ ?_
 ·refine sr (mv rfl (gt' rfl rfl (nn (cd rfl (λc2=>?_) (λc2=>?_)))))
  ·have hr:=u8k hnc (n:=i) (by omega)
   rw [<-hL] at hr
   obtain ⟨her,hnr⟩:=x7j hr
   refine sq ?_
   refine rbo (r:=66) (L':=[(5,_),(6,_)]) ((((v3a L)≠3)\/((u1n L:Int)≠2049))) (.c2 rfl rfl) ?_ ?_
   ·refine mv rfl (ne' rfl rfl (mv rfl (gs 63 rfl (λhh=>absurd hh (by exact λh=>h her)) (λg0=>?_))))
    exact gY rfl (mv rfl (gY rfl (ne' rfl rfl (pkf rfl rfl (rbe rfl (.c2 rfl rfl))))))
   refine tn (cd rfl (λc3=>?_) (λc3=>?_))
   ·refine sr (asg rfl (nn (rt (tr (r1 results3 rfl ?_)))))
    rcases c3 with hh|hh
    ·exact absurd her hh
    exact absurd (by rw [hnr];rfl) hh
   refine sk ?_
   exact jE (()) (.c2 rfl rfl) ⟨(q10.z4 q15 q16 q17 q18),trivial⟩
  replace hO1:=hO10.ext (q17.z1 q18)
  have hr:=j1o hnc (n:=i) (by omega)
  rw [<-hL] at hr
  obtain ⟨her,hnr⟩:=x6o hr
  obtain ⟨hl6,hl2,hl3⟩:=j2d hnc (by omega) (hp1 _ hr)
  have ht6:=z1s hO1.at.f.t
  have hrw:=z4s hO1.at.f.tt 1
  have hhl:=z1s hO1.at.f.h
  refine sq ?_
  refine rbo (r:=98) (L':=[(5,_),(6,_)]) (((((((v3a L)≠0)\/((u1n L:Int)≠(L.length:Int)))\/((s1.fb.t.2.1:Int)≠6))\/(((s1.fb.ts.getD 1 tq0).1.2.1:Int)≠(2046+(mo % 4))))\/((s1.fb.h.2.1:Int)≠1))) (.c2 rfl rfl) ?_ ?_
  ·refine mv rfl (ne' rfl rfl (mv rfl (gs 69 rfl (λhh=>absurd hh (by exact λh=>h her)) (λg1=>(gY rfl (mv rfl (gY rfl (mv rfl (gY rfl (lnS rfl underlying29 (gY rfl (ne' rfl rfl (pkf rfl rfl (mv rfl (gs 75 rfl (λhh=>absurd hh (by exact λh=>h (by rw [hnr]))) (λg2=>?_))))))))))))))))
   refine gY rfl (fad rfl z8b (gY rfl (y2g rfl z8l (gY rfl (z0i rfl hb12 rfl x1r (gY rfl (lnS rfl underlying35 (gY rfl (ne' rfl rfl (pkf rfl rfl (mv rfl (gs 82 rfl (λhh=>absurd hh (by omega)) (λg3=>(gY rfl (fad rfl z8b (gY rfl (y2g rfl z8l (gY rfl (z0i rfl hb12 rfl x1r (gY rfl (z1a (p:=1) (tq0) rfl hO1.at.f.t rfl y5d rfl (λad86 hc86=>(gY rfl (z1i rfl (hc86 _ hO1.at.f.t) x2r (gY rfl (lnS rfl underlying46 (gY rfl (mv rfl (gY rfl (ne' rfl rfl (pkf rfl rfl (mv rfl (gs 92 rfl (λhh=>absurd hh (by omega)) (λg4=>?_))))))))))))))))))))))))))))))))))
   exact gY rfl (fad rfl z8b (gY rfl (y2g rfl y6b (gY rfl (z0i rfl hb12 rfl z6t (gY rfl (lnS rfl underlying37 (gY rfl (ne' rfl rfl (pkf rfl rfl (rbe rfl (.c2 rfl rfl))))))))))))
  refine tn (cd rfl (λc4=>?_) (λc4=>?_))
  ·refine sr (asg rfl (nn (rt (tr (r1 results3 rfl ?_)))))
   exfalso;rcases c4 with (((hh|hh)|hh)|hh)|hh<;>first|exact hh her|exact hh (by rw [hnr])|omega
  refine sk ?_
  exact jE (()) (.c2 rfl rfl) ⟨(q10.z4 q15 q16 q17 q18),trivial⟩
 rintro _j w19 ⟨q19,_⟩
 have z19:=q19.size
 refine kpC [(5,_),(6,_)] (.c2 rfl rfl) ?_
 refine jn (ι:=Unit) [(5,_),(6,_)] (λ_j=>[(13,.int .i64 0),(14,.int .i64 3)]) (λ_j w'=>Fr [] w8 w'/\True) (.c2 rfl rfl) ?_ ?_
 ·replace hTS:=hTS0.ext (((q1.z6 q2 q3 q4 q5 q6 q7).z1 q8).n1 q19)
  intro a h
  refine z0h none (λwb w'=>Fr [] wb w') z2r ?_;intro w20 q20
  have z20:=q20.size
  replace hTS:=hTS.ext q20
  have hC:Fr [] w20 w20:=Fr.refl _ _
  have hTS_b:=hTS
  refine z2d 0 1 (by kernel_rfl) rfl rfl ?_ ?_
  ·refine z0m h z0g u1r (z5f _) ?_;rintro _ w21 ⟨⟨gy100,gt100,rfl,hSt100⟩,q21⟩ a h
   have z21:=q21.size
   replace hC:=hC.next q21
   refine z0b ?_
   refine z0d 1 rfl ?_
   refine z5c (m:=4097) (c:=4097) (op0) h rfl rfl x4z x7e rfl rfl λg101 w22 hg101 hy q22 _hz a h=>?_
   have z22:=q22.size
   replace hC:=hC.next q22
   clear hy
   refine z0b ?_
   refine z0d 2 rfl ?_
   refine z0m h (z0a rfl (z0a rfl z0g)) co9 (x5h (st0 gy100 gt100) _ 4097 4097 _ (by decide)) ?_;rintro _ w23 ⟨rfl,q23⟩ a h
   have z23:=q23.size
   replace hC:=hC.next q23
   refine z0b ?_
   refine z0e 3 h rfl rfl λa h=>z0k 4 h rfl rfl rfl λa h=>z0k 5 h rfl rfl rfl λa h=>z0k 6 h rfl rfl rfl λa h=>z0d 7 rfl ?_
   refine z0q h rfl λa h=>?_
   refine z0b ?_
   refine z0d 8 rfl ?_
   refine z0q h rfl λa h=>?_
   refine z0b ?_
   refine z0r ?_
   clear hC hTS_b
   refine bk (h.sub (L':=[(5,_),(6,_),(13,_),(14,_)]) (.c4 rfl rfl rfl rfl)) ?_
   exact jE (()) (.c4 rfl rfl rfl rfl) ⟨(q19.n4 q20 q21 q22 q23),trivial⟩
  refine z5c (m:=4097) (c:=4097) (op0) h rfl rfl x4z x7e rfl rfl λg101 w24 hg101 hy q24 _hz a h=>?_
  have z24:=q24.size
  replace hC:=hC.next q24
  clear hy
  refine z0b ?_
  refine z0d 0 rfl ?_
  refine z0m h z0g u1r (z5f _) ?_;rintro _ w25 ⟨⟨gy100,gt100,rfl,hSt100⟩,q25⟩ a h
  have z25:=q25.size
  replace hC:=hC.next q25
  refine z0b ?_
  refine z0d 2 rfl ?_
  refine z0m h (z0a rfl (z0a rfl z0g)) co9 (x5h (st0 gy100 gt100) _ 4097 4097 _ (by decide)) ?_;rintro _ w26 ⟨rfl,q26⟩ a h
  have z26:=q26.size
  replace hC:=hC.next q26
  refine z0b ?_
  refine z0e 3 h rfl rfl λa h=>z0k 4 h rfl rfl rfl λa h=>z0k 5 h rfl rfl rfl λa h=>z0k 6 h rfl rfl rfl λa h=>z0d 7 rfl ?_
  refine z0q h rfl λa h=>?_
  refine z0b ?_
  refine z0d 8 rfl ?_
  refine z0q h rfl λa h=>?_
  refine z0b ?_
  refine z0r ?_
  clear hC hTS_b
  refine bk (h.sub (L':=[(5,_),(6,_),(13,_),(14,_)]) (.c4 rfl rfl rfl rfl)) ?_
  exact jE (()) (.c4 rfl rfl rfl rfl) ⟨(q19.n4 q20 q24 q25 q26),trivial⟩
 rintro _j w27 ⟨q27,_⟩
 have z27:=q27.size
 refine kpC [(5,_),(6,_),(13,_),(14,_)] (.c4 rfl rfl rfl rfl) (sq (sq ?_))
 refine rbo (r:=111) (L':=[(5,_),(6,_)]) (((3≠3)\/(0≠0))) (.c2 rfl rfl) ?_ ?_
 ·refine mv rfl (ne' rfl rfl (mv rfl (gs 108 rfl (λhh=>absurd hh (by decide)) (λg5=>?_))))
  exact gY rfl (mv rfl (gY rfl (ne' rfl rfl (pkf rfl rfl (rbe rfl (.c2 rfl rfl))))))
 refine tn (cd rfl (λc5=>?_) (λc5=>?_))
 ·refine sr (asg rfl (nn (rt (tr (r1 results3 rfl ?_)))))
  exfalso;rcases c5 with hh|hh<;>exact hh rfl
 refine sk (tn (sr ?_))
 replace hb5:=hb50.ext q27
 refine z0n rfl hb5 z4v (z1r (cs:=[_,_,_,_,_,_]) (ev4 rfl rfl rfl rfl) u3u (z0f rfl rfl rfl (z0f rfl rfl rfl (z0f rfl rfl rfl (z0f rfl rfl rfl z0s)))) rfl ?_)
 refine al x7e rfl rfl (λg15 w28 hg15 hb15 q28 z28=>?_)
 refine z0j (vs:=[_,_,_,_,_,_]) rfl rfl hb15 x9c (λw29 hb15 q29 z29=>?_) (h1:=(by first|(simp [Value.oneCell',S];done)|exact z6s.one _))
 refine nn (sr ?_)
 replace hb5:=hb50.ext (q27.z2 q28 q29)
 refine z0n rfl hb5 z4v (z1r (cs:=[_,_,_,_,_,_]) (ev4 rfl rfl rfl rfl) u3u (z0f rfl rfl rfl (z0f rfl rfl rfl (z0f rfl rfl rfl (z0f rfl rfl rfl z0s)))) rfl ?_)
 refine al x7e rfl rfl (λg16 w30 hg16 hb16 q30 z30=>?_)
 refine z0j (vs:=[_,_,_,_,_,_]) rfl rfl hb16 x9c (λw31 hb16 q31 z31=>?_) (h1:=(by first|(simp [Value.oneCell',S];done)|exact z6s.one _))
 refine nn ?_
 refine jn (ι:=Unit) [] (λ_j=>[(13,.int .i64 ((9:Nat):Int)),(14,.int .i64 9)]) (λ_j w'=>Fr [] w8 w'/\True) .nil ?_ ?_
 ·replace hTS:=hTS0.ext ((((q1.z6 q2 q3 q4 q5 q6 q7).z1 q8).n1 q27).z4 q28 q29 q30 q31)
  replace hb6:=hb60.ext (q27.z4 q28 q29 q30 q31)
  replace hb15:=(hb15.ext q30).fr q31
  intro a h
  refine z0h none (λwb w'=>Fr [] wb w') z2r ?_;intro w32 q32
  have z32:=q32.size
  replace hTS:=hTS.ext q32
  replace hb6:=hb6.ext q32
  replace hb15:=hb15.ext q32
  replace hb16:=hb16.ext q32
  have hC:Fr [] w32 w32:=Fr.refl _ _
  have hTS_b:=hTS
  have hb6_b:=hb6
  have hb15_b:=hb15
  have hb16_b:=hb16
  refine z0t 1 h rfl (λ_ hw=>hb6_b.ext hw) z9j rfl λa h=>z0t 2 h rfl (λ_ hw=>hb15_b.ext hw) z9j rfl λa h=>z0t 3 h rfl (λ_ hw=>hb16_b.ext hw) z9j rfl λa h=>z0t 4 h rfl (λ_ hw=>hb15_b.ext hw) z9j rfl λa h=>z0t 5 h rfl (λ_ hw=>hb16_b.ext hw) z9j rfl λa h=>z0t 6 h rfl (λ_ hw=>hb15_b.ext hw) z9j rfl λa h=>z0t 7 h rfl (λ_ hw=>hb16_b.ext hw) z9j rfl λa h=>z0t 8 h rfl (λ_ hw=>hb15_b.ext hw) z9j rfl λa h=>z0t 9 h rfl (λ_ hw=>hb16_b.ext hw) z9j rfl λa h=>z0t 10 h rfl (λ_ hw=>hb15_b.ext hw) z9j rfl λa h=>z2d 0 11 (by kernel_rfl) rfl rfl ?_ ?_
  ·refine z0m h z0g u1r (z5f _) ?_;rintro _ w33 ⟨⟨gy117,gt117,rfl,hSt117⟩,q33⟩ a h
   have z33:=q33.size
   replace hb15:=hb15.ext q33
   replace hb16:=hb16.ext q33
   replace hC:=hC.next q33
   refine z0b ?_
   refine z0d 11 rfl ?_
   refine z2o ((u7z (at_ % 2) (1+at_ / 2 % 40))) h (z0a rfl (z0a rfl (z0a rfl (z0a rfl (z0a rfl (z0a rfl (z0a rfl (z0a rfl (z0a rfl (z0a rfl z0g)))))))))) rfl rfl rfl x4z λg_128 w34 hg ho128 q34 hz a h=>?_
   have hn_5_128:g15<g_128:=by have:=hb15.lt;omega
   have hn_6_128:g16<g_128:=by have:=hb16.lt;omega
   have z34:=q34.size
   replace hTS:=hTS.ext (q33.n1 q34)
   replace hSt117:=hSt117.ext q34
   replace hC:=hC.next q34
   refine z0b ?_
   refine z0d 12 rfl ?_
   refine z0m h (z0a rfl (z0a rfl z0g)) co9 (v1k gy117 gt117 _ (u7z (at_ % 2) (1+at_ / 2 % 40)) _ hSt117 ho128.sl hTS (by show 10<=4096;decide) (u0l hat)) ?_;rintro _ w35 ⟨⟨s2,rfl,_⟩,q35⟩ a h
   have z35:=q35.size
   replace hC:=hC.next q35
   refine z0b ?_
   refine z0e 13 h rfl rfl λa h=>z0k 14 h rfl rfl rfl λa h=>z0k 15 h rfl rfl rfl λa h=>z0k 16 h rfl rfl rfl λa h=>z0d 17 rfl ?_
   refine z0q h rfl λa h=>?_
   refine z0b ?_
   refine z0d 18 rfl ?_
   refine z0q h rfl λa h=>?_
   refine z0b ?_
   refine z0r ?_
   clear hC hTS_b hb6_b hb15_b hb16_b
   refine bk (h.sub (L':=[(13,_),(14,_)]) (.c2 rfl rfl)) ?_
   exact jE (()) (.c2 rfl rfl) ⟨(((q27.z6 q28 q29 q30 q31 q32 q33).n1 q34).n1 q35),trivial⟩
  refine z2o ((u7z (at_ % 2) (1+at_ / 2 % 40))) h (z0a rfl (z0a rfl (z0a rfl (z0a rfl (z0a rfl (z0a rfl (z0a rfl (z0a rfl (z0a rfl (z0a rfl z0g)))))))))) rfl rfl rfl x4z λg_128 w36 hg ho128 q36 hz a h=>?_
  have hn_5_128:g15<g_128:=by have:=hb15.lt;omega
  have hn_6_128:g16<g_128:=by have:=hb16.lt;omega
  have z36:=q36.size
  replace hC:=hC.next q36
  refine z0b ?_
  refine z0d 0 rfl ?_
  refine z0m h z0g u1r (z5f _) ?_;rintro _ w37 ⟨⟨gy117,gt117,rfl,hSt117⟩,q37⟩ a h
  have z37:=q37.size
  replace hTS:=hTS.ext (q36.n1 q37)
  replace ho128:=ho128.ext q37
  replace hC:=hC.next q37
  refine z0b ?_
  refine z0d 12 rfl ?_
  refine z0m h (z0a rfl (z0a rfl z0g)) co9 (v1k gy117 gt117 _ (u7z (at_ % 2) (1+at_ / 2 % 40)) _ hSt117 ho128.sl hTS (by show 10<=4096;decide) (u0l hat)) ?_;rintro _ w38 ⟨⟨s2,rfl,_⟩,q38⟩ a h
  have z38:=q38.size
  replace hC:=hC.next q38
  refine z0b ?_
  refine z0e 13 h rfl rfl λa h=>z0k 14 h rfl rfl rfl λa h=>z0k 15 h rfl rfl rfl λa h=>z0k 16 h rfl rfl rfl λa h=>z0d 17 rfl ?_
  refine z0q h rfl λa h=>?_
  refine z0b ?_
  refine z0d 18 rfl ?_
  refine z0q h rfl λa h=>?_
  refine z0b ?_
  refine z0r ?_
  clear hC hTS_b hb6_b hb15_b hb16_b
  refine bk (h.sub (L':=[(13,_),(14,_)]) (.c2 rfl rfl)) ?_
  exact jE (()) (.c2 rfl rfl) ⟨(((q27.z6 q28 q29 q30 q31 q32 q36).n1 q37).n1 q38),trivial⟩
 rintro _j w39 ⟨q39,_⟩
 have z39:=q39.size
 refine kpC [(13,_),(14,_)] (.c2 rfl rfl) (sq ?_)
 refine x8z (r:=4) (L':=[]) ((((9=9)/\(((9:Nat):Int)=9))\/False)) .nil ?_ ?_
 ·refine mv rfl (eq' rfl rfl (mv rfl (gs 135 rfl (λg6=>?_) (λhh=>absurd (by decide) hh))))
  refine gY rfl (mv rfl (gY rfl (eq' rfl rfl (pkt rfl rfl (mv rfl (gs 139 rfl (λg7=>?_) (λhh=>absurd (by decide) hh)))))))
  refine gY rfl ?_
  replace hG:=hG0.ext (((q1.z6 q2 q3 q4 q5 q6 q7).z1 q8).n1 q39)
  replace hTS:=hTS0.ext (((q1.z6 q2 q3 q4 q5 q6 q7).z1 q8).n1 q39)
  refine cl z0g (mkC func11) (v8p _ hG hTS) rfl ?_
  rintro _ w40 ⟨rfl,q40⟩
  have z40:=q40.size
  exact pkt rfl rfl (asg rfl (y0k rfl .nil q40))
 intro w41 q41;have z41:=q41.size
 refine tn (rt (r1 results3 rfl ?_))
 exact ⟨_,rfl,by first|rfl|simp,((((q1.z6 q2 q3 q4 q5 q6 q7).z1 q8).n1 q39).n1 q41)⟩
end Go.Proofs.YtpgdchkdlgkmgaaGreatDoor
