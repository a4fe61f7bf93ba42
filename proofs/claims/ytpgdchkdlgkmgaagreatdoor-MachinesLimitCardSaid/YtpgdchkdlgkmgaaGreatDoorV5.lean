/- Texts of the proof, joined. -/
import Derived.Test.YtpgdchkdlgkmgaaGreatDoorRows
import Derived.Shelf.SlSortCmp.WholeK
import Derived.Deep.RegionHeld3
import Derived.WalkKit
import Derived.Shelf.SlGeneric
import Derived.Ground.SlsfProg
import Derived.Test.YtpgdchkdlgkmgaaGreatDoorProg
import Derived.Test.YtpgdchkdlgkmgaaGreatDoorV4
set_option linter.unusedVariables false
set_option linter.unusedSimpArgs false
namespace Go.G08
open Go.Lw Go.G21
theorem z4u (c:Cx) (l:List Cx):crM (c::l)=((c.a,c.b),.int .i64 c.n)::crM l:=rfl
theorem z7q {a b:LId} {c:Cx}:isC a b c=true↔c.a=a/\c.b=b:=by unfold isC;simp
theorem v2p (a b:LId):∀l:List Cx,(z2i (crM l) (a,b)).getD (.int .i64 0)=.int .i64 (y8v l a b)
 | []=>rfl
 | c::l=>by
  rw [z4u]
  unfold z2i y8v
  rw [List.find?_cons]
  by_cases h:c.a=a/\c.b=b
  ·rw [if_pos (by rw [<-h.1,<-h.2]),z7q.2 h];rfl
  have h1:isC a b c=false:=by cases e:isC a b c;rfl;exact absurd (z7q.1 e) h
  rw [if_neg (λe=>h ⟨(Prod.mk.inj e).1.symm,(Prod.mk.inj e).2.symm⟩),h1]
  exact v2p a b l
theorem v0m {a b:LId} {l:List Cx} (h:(a,b)∉(crM l).map (·.1)):∀c∈l,isC a b c=false:=λc hc=>by
 cases e:isC a b c
 ·rfl
 obtain ⟨h1,h2⟩:=z7q.1 e
 refine absurd ?_ h
 unfold crM
 rw [List.map_map]
 exact List.mem_map.2 ⟨c,hc,by simp [h1,h2]⟩
theorem v3l (a b:LId) (n:Int):∀l:List Cx,((crM l).map (·.1)).Nodup->crM (y9v l a b n)=z3n (crM l) (a,b) (.int .i64 n)
 | [],_=>rfl
 | c::l,hn=>by
  rw [z4u,List.map_cons] at hn
  obtain ⟨n1,n2⟩:=List.nodup_cons.1 hn
  have ih:=v3l a b n l n2
  by_cases h:c.a=a/\c.b=b
  ·obtain ⟨h1,h2⟩:=h
   subst h1;subst h2
   have hl:l.map (λx=>if isC c.a c.b x then (⟨c.a,c.b,n⟩:Cx) else x)=l:=by
    have:=v0m (l:=l) n1
    conv=>rhs;rw [<-List.map_id l]
    refine List.map_congr_left λx hx=>?_
    rw [this x hx];rfl
   have hi:isC c.a c.b c=true:=z7q.2 ⟨rfl,rfl⟩
   have e2:y9v (c::l) c.a c.b n=⟨c.a,c.b,n⟩::l:=by
    unfold y9v
    rw [List.any_cons,hi,Bool.true_or,if_pos rfl,List.map_cons,hi,if_pos rfl,hl]
   have e1:z3n (((c.a,c.b),Value.int .i64 c.n)::crM l) (c.a,c.b) (.int .i64 n)=((c.a,c.b),.int .i64 n)::crM l:=by
    unfold z3n;simp [List.findIdx?_cons]
   rw [e2,z4u,z4u,e1]
  have h1:isC a b c=false:=by cases e:isC a b c;rfl;exact absurd (z7q.1 e) h
  have h2:¬((a,b):LId×LId)=(c.a,c.b):=λe=>h ⟨(Prod.mk.inj e).1.symm,(Prod.mk.inj e).2.symm⟩
  have es:y9v (c::l) a b n=c::y9v l a b n:=by
   unfold y9v
   rw [List.any_cons,h1,Bool.false_or]
   split
   ·rw [List.map_cons,h1];rfl
   rfl
  rw [es,z4u,ih]
  unfold z3n
  rw [z4u,List.map_cons,List.findIdx?_cons,if_neg (by simpa using h2)]
  cases hf:((crM l).map (·.1)).findIdx? (λx=>decide ((a,b)=x)) with
  | none=>rfl
  | some i=>rfl
theorem v3g (a b:LId):∀l:List Cx,((crM l).map (·.1)).Nodup->crM (v5a l a b)=z5a (crM l) (a,b)
 | [],_=>rfl
 | c::l,hn=>by
  rw [z4u,List.map_cons] at hn
  obtain ⟨n1,n2⟩:=List.nodup_cons.1 hn
  have ih:=v3g a b l n2
  by_cases h:c.a=a/\c.b=b
  ·obtain ⟨h1,h2⟩:=h
   subst h1;subst h2
   have hl:l.filter (λx=>!isC c.a c.b x)=l:=List.filter_eq_self.2 λx hx=>by
    rw [v0m (l:=l) n1 x hx];rfl
   have hi:isC c.a c.b c=true:=z7q.2 ⟨rfl,rfl⟩
   have e2:v5a (c::l) c.a c.b=l:=by
    unfold v5a
    rw [List.filter_cons,hi,hl];rfl
   have e1:z5a (((c.a,c.b),Value.int .i64 c.n)::crM l) (c.a,c.b)=crM l:=by
    unfold z5a;simp [List.findIdx?_cons]
   rw [e2,z4u,e1]
  have h1:isC a b c=false:=by cases e:isC a b c;rfl;exact absurd (z7q.1 e) h
  have h2:¬((a,b):LId×LId)=(c.a,c.b):=λe=>h ⟨(Prod.mk.inj e).1.symm,(Prod.mk.inj e).2.symm⟩
  have es:v5a (c::l) a b=c::v5a l a b:=by
   unfold v5a
   rw [List.filter_cons,h1];rfl
  rw [es,z4u,ih]
  unfold z5a
  rw [z4u,List.map_cons,List.findIdx?_cons,if_neg (by simpa using h2)]
  cases hf:((crM l).map (·.1)).findIdx? (λx=>decide ((a,b)=x)) with
  | none=>rfl
  | some i=>rfl
section
variable {α κ:Type} [DecidableEq κ] {E:Enc α} {T base g:Nat} {w w':World} {v:Value} {ys:List α} {V:κ->Value} {em:List (κ×Value)}
theorem j1p (h:Lw.Own E T base w v ys) (hm:MapL V w g em) (hf:Fr [g] w w'):Lw.Own E T base w' v ys:=h.fr hf λk hk hb=>by
 rw [List.mem_singleton] at hk;subst hk
 obtain ⟨cs,h1⟩:=y4u h _ hb
 exact hm.f.ne_blk h1 rfl
theorem u9k {k:Nat} {cs:List Value} (h:Blk w k T cs) (hm:MapL V w g em) (hf:Fr [g] w w'):Blk w' k T cs:=h.fr hf λhk=>by
 rw [List.mem_singleton] at hk;subst hk
 exact hm.f.ne_blk h rfl
end
theorem FrM.un {τ:TyK} {Mt:Nat} {wS w w':World} {a:MA} (h:FrM τ Mt wS { a with wk:=w } w') (h0:FrM τ Mt wS a w):FrM τ Mt wS a w':=⟨h.fr,h0.kp.trans h.kp⟩
theorem MkM.gcne {τ:TyK} {Mt:Nat} {wS w:World} {a:MA} {m:MQ} (h:MkM τ Mt wS a w m) {k T:Nat} {cs:List Value} (hb:Blk w k T cs):k≠a.gc:=λe=>by
 subst e;exact h.c.f.ne_blk hb rfl
theorem KpM.own {α:Type} {E:Enc α} {Ts:List Nat} {g T base:Nat} {w w':World} {v:Value} {ys:List α} (h:KpM Ts g w w') (ho:Lw.Own E T base w v ys) (hg:∀k∈z0v v,k≠g) (hT:T∉Ts):Lw.Own E T base w' v ys:=by
 rcases ho with ho|⟨k,cap,cur,rfl,h1,h2,h3⟩
 ·exact .inl ho
 have hb:Blk w k T cur.toList:=h2
 exact .inr ⟨k,cap,cur,rfl,h1,h.blk hb (hg k (by simp [z0v])) hT,h3⟩
theorem MkM.gcneO {τ:TyK} {Mt:Nat} {wS w:World} {a:MA} {m:MQ} {α:Type} {E:Enc α} {T base:Nat} {v:Value} {ys:List α} (h:MkM τ Mt wS a w m) (ho:Lw.Own E T base w v ys):∀k∈z0v v,k≠a.gc:=λk hk=>by
 obtain ⟨cs,hb⟩:=y4u ho k hk
 exact h.gcne hb
theorem y6a {p:MSt} {d:Int}:∀ {l l':List Yn},l'.length=l.length->(∀j,j<l.length->z8k p d (l.getD j yn0)=.ok (l'.getD j yn0))->z6c p d l=.ok l'
 | [],[],_,_=>rfl
 | [],_::_,h,_=>by simp at h
 | _::_,[],h,_=>by simp at h
 | y::l,y'::l',hl,h=>by
  have h0:=h 0 (by simp)
  simp only [List.getD_cons_zero] at h0
  have h1:=y6a (p:=p) (d:=d) (l:=l) (l':=l') (by simpa using hl) λj hj=>by
   have:=h (j+1) (by simp;omega)
   simpa only [List.getD_cons_succ] using this
  unfold z6c
  rw [h0,h1]
theorem y6j {p:MSt} {d e:Int}:∀ {l:List Yn} {i:Nat},i<l.length->(∀j,j<i->∃y',z8k p d (l.getD j yn0)=.ok y')->z8k p d (l.getD i yn0)=.error e->z6c p d l=.error e
 | y::l,0,_,_,h=>by
  simp only [List.getD_cons_zero] at h
  unfold z6c;rw [h]
 | y::l,i+1,hi,hj,h=>by
  obtain ⟨y',h0⟩:=hj 0 (by omega)
  simp only [List.getD_cons_zero] at h0
  have h1:=y6j (p:=p) (d:=d) (e:=e) (l:=l) (i:=i) (by simpa using hi) (λj hl=>by
   have:=hj (j+1) (by omega)
   simpa only [List.getD_cons_succ] using this) (by simpa only [List.getD_cons_succ] using h)
  unfold z6c
  rw [h0,h1]
theorem y1u {c:Cx}:∀ {r l l':List Cx},z6a l r=.ok l'->z6a l (r++[c])=x2s l' c
 | [],l,l',h=>by
  cases h
  show z6a l [c]=x2s l c
  unfold z6a
  cases x2s l c<;>rfl
 | x::r,l,l',h=>by
  rw [List.cons_append]
  unfold z6a at h ⊢
  cases e:x2s l x with
  | error e'=>rw [e] at h;cases h
  | ok l1=>rw [e] at h;simp only at h ⊢;exact y1u h
theorem x2c {e:Int}:∀ {r l:List Cx} (s:List Cx),z6a l r=.error e->z6a l (r++s)=.error e
 | [],l,s,h=>by cases h
 | x::r,l,s,h=>by
  rw [List.cons_append]
  unfold z6a at h ⊢
  cases e1:x2s l x with
  | error e'=>rw [e1] at h;exact h
  | ok l1=>rw [e1] at h;simp only at h ⊢;exact x2c s h
theorem j4t {B:Bd} {r d:Int}:∀c∈z4a B r d,-1<=c.n/\c.n<=1:=by
 have hU:∀i,∀c∈x8f B r d i,-1<=c.n/\c.n<=1:=λi c hc=>by
  obtain ⟨k,_,hk⟩:=List.mem_flatMap.1 hc
  obtain ⟨x,_,hx⟩:=List.mem_flatMap.1 hk
  obtain ⟨o,_,rfl⟩:=List.mem_map.1 hx
  unfold x4w;split<;>(simp only;omega)
 intro c hc
 unfold z4a at hc
 split at hc
 ·exact hU _ c (List.mem_reverse.1 hc)
 exact hU _ c hc
theorem j1t {pl:Int} (h:x3r pl):¬Int.tmod pl 2=0/\-9223372036854775808<=pl/\pl<=9223372036854775807:=by
 unfold x3r at h;omega
def y2m (p:MSt) (d:Int):MR:=match z6c p d p.ys with
  | .error e=>.error e
  | .ok ys=>match z6a p.cr (z4a p.B p.rk d) with
    | .error e=>.error e
    | .ok cr=>.ok { p with ys:=ys,cr:=cr }
def u3o (p:MSt) (c:Cx):MR:=match x2s p.cr c with
  | .error e=>.error e
  | .ok l=>.ok { p with cr:=l }
abbrev z5l (c:Cx):LId×LId:=if 0<z6m c.a c.b then (c.b,c.a) else (c.a,c.b)
section
variable {τ:TyK} {Mt:Nat} {wS w w':World} {a:MA} {m:MQ} {l:List Cx}
theorem MkM.cross (h:MkM τ Mt wS a w m) (hc:MapL crK w' a.gc (crM l)) (hf:Fr [a.gc] w w'):MkM τ Mt wS a w' { m with cr:=l }:=by
 have o:∀ {α:Type} {E:Enc α} {T b:Nat} {v:Value} {ys:List α},Lw.Own E T b w v ys->Lw.Own E T b w' v ys:=λh'=>j1p h' h.c hf
 refine ⟨u9k h.k h.c hf,⟨⟨o h.b.f.1,λp hp=>o (h.b.f.2 p hp)⟩,⟨o h.b.b.1,λp hp=>o (h.b.b.2 p hp)⟩⟩,⟨o h.y.out,λi hi=>o (h.y.ins i hi)⟩,⟨o h.t.out,λi hi=>o (h.t.ins i hi),h.t.off,λi hi q hq=>⟨o (h.t.lps i hi q hq).1,o (h.t.lps i hi q hq).2⟩⟩,hc,o h.f,h.fb,h.ft,h.ly,h.lt,h.gk,h.gc,h.fr.step hf (λk hk=>.inl (List.mem_singleton.1 hk)) λk hk hlt=>?_⟩
 rw [List.mem_singleton] at hk;have:=h.gc;omega
end
theorem v8q {a b:LId} {l:List Cx} (h:∀c∈l,-1048576<=c.n/\c.n<=1048576):-1048576<=y8v l a b/\y8v l a b<=1048576:=by
 unfold y8v
 cases e:l.find? (isC a b) with
 | none=>simp
 | some c=>exact h c (List.mem_of_find?_eq_some e)
theorem v4h (l:List Cx) (c:Cx):x2s l c=if y8v l (z5l c).1 (z5l c).2+c.n < -1048576\/1048576<y8v l (z5l c).1 (z5l c).2+c.n then .error 3 else if y8v l (z5l c).1 (z5l c).2+c.n=0 then .ok (v5a l (z5l c).1 (z5l c).2) else .ok (y9v l (z5l c).1 (z5l c).2 (y8v l (z5l c).1 (z5l c).2+c.n)):=rfl
theorem x2w (p:MSt) (c:Cx):u3o p c=if y8v p.cr (z5l c).1 (z5l c).2+c.n < -1048576\/1048576<y8v p.cr (z5l c).1 (z5l c).2+c.n then .error 3 else if y8v p.cr (z5l c).1 (z5l c).2+c.n=0 then .ok { p with cr:=v5a p.cr (z5l c).1 (z5l c).2 } else .ok { p with cr:=y9v p.cr (z5l c).1 (z5l c).2 (y8v p.cr (z5l c).1 (z5l c).2+c.n) }:=by
 unfold u3o
 rw [v4h]
 generalize y8v p.cr (z5l c).1 (z5l c).2+c.n=n
 by_cases h1:n < -1048576\/1048576<n
 ·rw [if_pos h1,if_pos h1]
 rw [if_neg h1,if_neg h1]
 by_cases h2:n=0
 ·rw [if_pos h2,if_pos h2]
 rw [if_neg h2,if_neg h2]
end Go.G08
namespace Go.Proofs.YtpgdchkdlgkmgaaGreatDoor
open Go.Lw Go.G21 Go.G08 _root_.Go.Proofs.Tryz
set_option maxHeartbeats 1000000 in
theorem u4n (wS:World) (ka:MA) (m:MQ) (o:MOp) (w0:World) (hM:MkM τd 137 wS ka w0 m) (hi:MInv m.p) (hy:1<=o.y/\o.y<=6) (hn:z3d o.b o.p=0):Rets prog 67 #[.pointer (some ⟨ka.gk,0,none⟩),opV o] w0 λr w'=>MRet τd 137 wS ka (y0u m.p o) r w':=by
 have hzS:=hM.fr.size
 have hgkS:=hM.gk
 have hkzz:=hM.k.lt
 refine we [(0,.pointer (some ⟨ka.gk,0,none⟩)),(1,opV o)] func67 rfl ntmps67 rfl (.c2 rfl rfl) ?_
 have hM0:=hM
 refine sr (bx rfl rfl rfl (λg3 w1 hg3 hb3 q1 z1=>(asg rfl (nn (sr (mv rfl (z0n rfl hb3 z9j ?_)))))))
 replace hM:=hM0.ext q1
 refine cl (ev2 rfl rfl) (mkC func112) (x2u wS ka m o _ hM hi hy hn) rfl ?_
 rintro _ w2 ⟨rfl,q2⟩
 have z2:=q2.size
 refine mv rfl (xt rfl rfl (xt rfl rfl (xt rfl rfl (asg rfl (asg rfl (asg rfl (kpL [(0,_),(3,_),(5,_),(6,_),(7,_)] (.c5 rfl rfl rfl rfl rfl) (nn (sq (sr (mv rfl (ne' rfl rfl (nn (cd rfl (λc0=>?_) (λc0=>?_)))))))))))))))
 ·refine sr (mv rfl (asg rfl (kpL [(4,_)] (.cons rfl .nil) (nn (rt (tr (r1 results67 rfl ?_)))))))
  replace hM:=hM0.ext (q1.n1 q2)
  exact ⟨_,rfl,MRet.err (by unfold y0u;rw [if_pos c0]) c0 hM.fr⟩
 have hb0:z7n m.p o=0:=Classical.not_not.1 c0
 refine sk (tn (sq (sr (mv rfl (fad rfl z3i ?_)))))
 replace hb3:=hb3.ext q2
 refine z0i rfl hb3 rfl na5 (mv rfl (mv rfl ?_))
 replace hM:=hM0.ext (q1.n1 q2)
 have hMf:=hM.fr
 refine cl (z0a rfl (z0a rfl (z0a rfl (z0a rfl z0g)))) (mkC func113) (x3k wS { ka with wk:=w2 } m o.y (if z7n m.p o=0 then x3t m.p o else 0) (if z7n m.p o=0 then (z2q o.b o.p m.rk) else 0) _ hM.mark hi hy) rfl ?_
 intro _ w3 hR
 obtain ⟨rfl,hfR,m1,hm1⟩:=hR.split
 have z3:=hfR.kp.size
 simp only at z3
 replace hb3:=hfR.kp.blk hb3 (by have:=hM.gcne hb3;exact this) (by decide)
 refine asg rfl (kpL [(0,_),(3,_),(8,_)] (.c3 rfl rfl rfl) (nn (sr (mv rfl (ne' rfl rfl (nn (cd rfl (λc1=>?_) (λc1=>?_))))))))
 ·refine sr (mv rfl (asg rfl (nn (rt (tr (r1 results67 rfl ?_))))))
  exact ⟨_,rfl,MRet.err (by have hx:=y0o c1;unfold y0u;rw [if_neg c0];rw [if_pos hb0,if_pos hb0] at hx;rw [hx,if_pos hb0,if_pos hb0]) c1 (hfR.un hMf)⟩
 obtain ⟨hM1,hx1⟩:=hm1 (Classical.not_not.1 c1)
 rw [if_pos hb0,if_pos hb0] at hx1
 obtain ⟨hi1,hB1,hr1⟩:=y1k hi hy hx1
 obtain ⟨⟨hf,hb⟩,h4,h4b⟩:=z3m hi1.B
 replace hM:=hM1.unmark hMf
 have hM0:=hM
 have hk:=hM.k
 have hkz1:=hk.lt
 refine sk (tn (sq ?_))
 intro a h
 refine z0h (some 9) (λwb w'=>Fr [] wb w') z2r ?_;intro w4 q4
 have z4:=q4.size
 replace hb3:=hb3.ext q4
 replace hM:=hM.ext q4
 replace hk:=hk.ext q4
 have hC:Fr [] w4 w4:=Fr.refl _ _
 have hb3_b:=hb3
 have hM_b:=hM
 have hk_b:=hk
 refine z0e 0 h rfl rfl λa h=>z0t 1 h rfl (λ_ hw=>hb3_b.ext hw) z9j rfl λa h=>z0e 2 h rfl rfl λa h=>z0o 3 h rfl rfl λa h=>z0c 4 h rfl z2p rfl λa h=>z1c (vs:=[_,_]) 5 h rfl (λ_ hw=>(hk_b.ext hw)) z5k rfl rfl λa h=>z0c 6 h rfl z4e rfl λa h=>z1c (vs:=[_,_]) 7 h rfl (λ_ hw=>(hb3_b.ext hw)) z4v rfl rfl λa h=>z0d 8 rfl ?_
 refine z0m h (z0a rfl (z0a rfl z0g)) u1d (x1b m1.q o.b o.p _ hM.b.at (by have:=z2v hn;omega) hf hb h4 h4b) ?_;rintro v36 w5 ⟨hth,hq⟩ a h
 have z5:=hq.size
 replace hb3:=hb3.ext hq
 replace hM:=hM.ext hq
 replace hk:=hk.ext hq
 replace hC:=hC.next hq
 have q5:=hq
 rw [y5u hn] at hth
 obtain ⟨A36,c36,rfl,hc36⟩:=hth.sl.form
 refine z0b ?_
 refine z0d 9 rfl ?_
 refine z0m h (z0a rfl (z0a rfl (z0a rfl (z0a rfl z0g)))) (mkC func114) (v4w wS ka m1 o (A36,(m1.q.p.at o.b o.p).length,c36) (m1.q.p.at o.b o.p) (.slice none 0 0) [] _ hM hi1 hy hn (hth.low (by omega)) (λk hk hb=>by have h1_:=(hth.blk k hk).1;have h2_:=(hM_b.f.blk k hb).2;omega) (Sl.nil _) (.inl rfl)) ?_;rintro v37 w6 hR a h
 refine z1o ?_
 refine z0d 10 rfl ?_
 refine z0q h rfl λa h=>?_
 refine z1o ?_
 refine z0r ?_
 clear hC hb3_b hM_b hk_b
 refine bk (h.sub (L':=[(4,_)]) (.cons rfl .nil)) (tn (rt (r1 results67 rfl ?_)))
 exact ⟨_,rfl,by rw [show y0u m.p o=_ from by unfold y0u;rw [if_neg c0,hx1]];exact hR⟩
set_option maxHeartbeats 1000000 in
theorem u5p (wS:World) (ka:MA) (m:MQ) (o:MOp) (w0:World) (hM:MkM τd 137 wS ka w0 m) (hi:MInv m.p) (hy:1<=o.y/\o.y<=6) (hn:z3d o.b o.p=0):Rets prog 68 #[.pointer (some ⟨ka.gk,0,none⟩),opV o] w0 λr w'=>MRet τd 137 wS ka (y4o m.p o) r w':=by
 have hzS:=hM.fr.size
 have hgkS:=hM.gk
 have hkzz:=hM.k.lt
 refine we [(0,.pointer (some ⟨ka.gk,0,none⟩)),(1,opV o)] func68 rfl ntmps68 rfl (.c2 rfl rfl) ?_
 have hM0:=hM
 refine sr (bx rfl rfl rfl (λg3 w1 hg3 hb3 q1 z1=>(asg rfl (nn (sr (mv rfl (z0n rfl hb3 z9j ?_)))))))
 replace hM:=hM0.ext q1
 refine cl (ev2 rfl rfl) (mkC func112) (x2u wS ka m o _ hM hi hy hn) rfl ?_
 rintro _ w2 ⟨rfl,q2⟩
 refine mv rfl (xt rfl rfl (xt rfl rfl (xt rfl rfl (asg rfl (asg rfl (asg rfl (kpL [(0,_),(3,_),(5,_),(6,_),(7,_)] (.c5 rfl rfl rfl rfl rfl) (nn (sq (sr (mv rfl (ne' rfl rfl (nn (cd rfl (λc0=>?_) (λc0=>?_)))))))))))))))
 ·refine sr (mv rfl (asg rfl (kpL [(4,_)] (.cons rfl .nil) (nn (rt (tr (r1 results68 rfl ?_)))))))
  replace hM:=hM0.ext (q1.n1 q2)
  exact ⟨_,rfl,MRet.err (by unfold y4o;rw [if_pos c0]) c0 hM.fr⟩
 have hb0:z7n m.p o=0:=Classical.not_not.1 c0
 refine sk (tn (sq (sr (mv rfl (fad rfl z3i ?_)))))
 replace hb3:=hb3.ext q2
 refine z0i rfl hb3 rfl na5 (mv rfl (mv rfl ?_))
 replace hM:=hM0.ext (q1.n1 q2)
 have hMf:=hM.fr
 refine cl (z0a rfl (z0a rfl (z0a rfl (z0a rfl z0g)))) (mkC func113) (x3k wS { ka with wk:=w2 } m o.y (if z7n m.p o=0 then x3t m.p o else 0) (if z7n m.p o=0 then (z2q o.b o.p m.rk) else 0) _ hM.mark hi hy) rfl ?_
 intro _ w3 hR
 obtain ⟨rfl,hfR,m1,hm1⟩:=hR.split
 have z3:=hfR.kp.size
 simp only at z3
 replace hb3:=hfR.kp.blk hb3 (by have:=hM.gcne hb3;exact this) (by decide)
 refine asg rfl (kpL [(0,_),(3,_),(8,_)] (.c3 rfl rfl rfl) (nn (sr (mv rfl (ne' rfl rfl (nn (cd rfl (λc1=>?_) (λc1=>?_))))))))
 ·refine sr (mv rfl (asg rfl (nn (rt (tr (r1 results68 rfl ?_))))))
  exact ⟨_,rfl,MRet.err (by have hx:=y0o c1;unfold y4o;rw [if_neg c0];rw [if_pos hb0,if_pos hb0] at hx;rw [hx,if_pos hb0,if_pos hb0]) c1 (hfR.un hMf)⟩
 obtain ⟨hM1,hx1⟩:=hm1 (Classical.not_not.1 c1)
 rw [if_pos hb0,if_pos hb0] at hx1
 obtain ⟨hi1,hB1,hr1⟩:=y1k hi hy hx1
 obtain ⟨⟨hf,hb⟩,h4,h4b⟩:=z3m hi1.B
 replace hM:=hM1.unmark hMf
 have hM0:=hM
 have hk:=hM.k
 have hkz1:=hk.lt
 refine sk (tn (sq ?_))
 intro a h
 refine z0h none (λwb w'=>Fr [] wb w') z2r ?_;intro w4 q4
 replace hb3:=hb3.ext q4
 replace hM:=hM.ext q4
 replace hk:=hk.ext q4
 have hC:Fr [] w4 w4:=Fr.refl _ _
 have hb3_b:=hb3
 have hM_b:=hM
 have hk_b:=hk
 refine z0e 0 h rfl rfl λa h=>z0o 1 h rfl rfl λa h=>z0c 2 h rfl z2p rfl λa h=>z1c (vs:=[_,_]) 3 h rfl (λ_ hw=>(hk_b.ext hw)) z5k rfl rfl λa h=>z0c 4 h rfl z4e rfl λa h=>z1c (vs:=[_,_]) 5 h rfl (λ_ hw=>(hb3_b.ext hw)) z4v rfl rfl λa h=>z0d 6 rfl ?_
 refine z0m h (z0a rfl (z0a rfl z0g)) u1d (x1b m1.q o.b o.p _ hM.b.at (by have:=z2v hn;omega) hf hb h4 h4b) ?_;rintro v35 w5 ⟨hst,hq⟩ a h
 replace hb3:=hb3.ext hq
 replace hM:=hM.ext hq
 replace hk:=hk.ext hq
 replace hC:=hC.next hq
 have q5:=hq
 rw [y5u hn] at hst
 obtain ⟨A35,c35,rfl,hc35⟩:=hst.sl.form
 refine z0b ?_
 refine z0d 7 rfl ?_
 refine z0q h rfl λa h=>?_
 refine z0b ?_
 refine z0r ?_
 clear hC hb3_b hM_b hk_b
 refine bk (h.sub (L':=[(0,_),(3,_),(9,_)]) (.c3 rfl rfl rfl)) (tn (sq (sr (mv rfl (lnS rfl underlying37 (ge' rfl rfl (nn (cd rfl (λc2=>?_) (λc2=>?_)))))))))
 ·refine sr (asg rfl (nn (rt (tr (r1 results68 rfl ?_)))))
  exact ⟨_,rfl,MRet.err (by unfold y4o;rw [if_neg c0,hx1];simp only;rw [if_pos (show 4<=(m1.q.p.at o.b o.p).length by omega)]) (by decide) hM.fr⟩
 refine sk (tn (sr (mv rfl (z0n rfl hb3 z9j (mv rfl (cl (z0a rfl (z0a rfl (z0a rfl (z0a rfl z0g)))) (mkC func114) (v4w wS ka m1 o sv0 [] _ (m1.q.p.at o.b o.p) _ hM hi1 hy hn (Own.nil _) (λk hk=>by cases hk) hst.sl (.inr ⟨rfl,by omega⟩)) rfl ?_))))))
 rintro v42 w6 hR
 refine asg rfl (kpL [(4,_)] (.cons rfl .nil) (nn (rt (r1 results68 rfl ?_))))
 exact ⟨_,rfl,by rw [show y4o m.p o=x4p m1.p o [] (m1.q.p.at o.b o.p) from by unfold y4o;rw [if_neg c0,hx1];simp only;rw [if_neg (show ¬4<=(m1.q.p.at o.b o.p).length by omega)]];exact hR⟩
theorem u4z:z3p prog 138 4:=⟨λ_=>by kernel_rfl,λ_=>by kernel_rfl⟩
theorem u3b:BuildAt prog 138 [(0,2),(2,2)] [(.int .u8 0),(.int .i64 0),(.int .u8 0),(.int .i64 0)]:=BuildAt.array (sz:=2) underlying138 (λ_=>by kernel_rfl) (λ_=>by kernel_rfl) (λi q h=>by match i,h with|0,h=>simpa using h.symm|1,h=>simpa using h.symm|(k+2),h=>simp at h)
theorem j1w:CallOf prog 74:=mkC func74
theorem y1q:z0z prog 137 4 5:=λ_ _=>by kernel_rfl
theorem x3x:z0z prog 246 0 0:=λ_ _=>by kernel_rfl
theorem x2z:z0z prog 246 1 2:=λ_ _=>by kernel_rfl
theorem u5z:z0z prog 246 2 4:=λ_ _=>by kernel_rfl
theorem x7q:z2b prog 135:=λ_=>by kernel_rfl
theorem u3a:z1q prog 138 4:=λ_=>by kernel_rfl
theorem j0k (w:World):(zeroValue 138).run prog w=.ok (.agg #[(.int .u8 0),(.int .i64 0),(.int .u8 0),(.int .i64 0)]) w:=by kernel_rfl
theorem j3n (p q:LId×LId) (w:World):(Op.equal 138 (crK p) (crK q)).run prog w=.ok (decide (p=q)) w:=by
 obtain ⟨⟨y1,n1⟩,⟨y2,n2⟩⟩:=p
 obtain ⟨⟨y3,n3⟩,⟨y4,n4⟩⟩:=q
 have h1:prog.stoodInHeld 87=false:=by kernel_rfl
 have hs:(sizeOf 87).run prog w=.ok 2 w:=by kernel_rfl
 unfold crK Op.equal Op.maxDepth Op.equalIn
 simp only [Sem.run_bind,run_underlying underlying138,Result.andThen_ok,hs]
 have p1:∀a b c d:Value,(part 87 #[a,b,c,d] (0*2)).run prog w=.ok (.agg #[a,b]) w:=λa b c d=>by kernel_rfl
 have p2:∀a b c d:Value,(part 87 #[a,b,c,d] (1*2)).run prog w=.ok (.agg #[c,d]) w:=λa b c d=>by kernel_rfl
 rw [Std.Legacy.Range.forIn_eq_forIn_range']
 simp [List.range',List.forIn_cons,p1,p2,go_sem,h1,underlying87]
 (repeat' split)<;>simp_all
theorem x5e:KeyLaw prog 138 crK:=KeyLaw.asking underlying138 (λ_ _=>rfl) (λ_ _ _=>by kernel_rfl) j3n (λ_=>by simp [crK,Instr.sameBits])
theorem zvI2 (w:World):(zeroValue 3).run prog w=.ok (.int .i64 0) w:=by kernel_rfl
set_option maxHeartbeats 1000000 in
theorem u2y (wS:World) (ka:MA) (m:MQ) (c:Cx) (w0:World) (hM:MkM τd 137 wS ka w0 m) (hcv:∀x∈m.cr,-1048576<=x.n/\x.n<=1048576) (hcn:-1<=c.n/\c.n<=1):Rets prog 148 #[.pointer (some ⟨ka.gk,0,none⟩),.agg #[.int .u8 c.a.y,.int .i64 c.a.n,.int .u8 c.b.y,.int .i64 c.b.n,.int .i64 c.n]] w0 λr w'=>MRet τd 137 wS ka (u3o m.p c) r w':=by
 have hzS:=hM.fr.size
 have hk:=hM.k
 have hkz:=hk.lt
 have hgr:=v8q (a:=(z5l c).1) (b:=(z5l c).2) hcv
 refine we [(0,.pointer (some ⟨ka.gk,0,none⟩)),(1,.agg #[.int .u8 c.a.y,.int .i64 c.a.n,.int .u8 c.b.y,.int .i64 c.b.n,.int .i64 c.n])] func148 rfl ntmps148 rfl (.c2 rfl rfl) ?_
 have hM0:=hM
 refine sr (bx rfl rfl rfl (λg3 w1 hg3 hb3 q1 z1=>?_))
 refine asg rfl (nn (sr (fad rfl x3x (z1y (vs:=[_,_]) rfl hb3 z3g rfl (fad rfl x2z (z1y (vs:=[_,_]) rfl hb3 z3g rfl (z1r (cs:=[_,_,_,_]) (ev2 rfl rfl) u3b (z0f rfl rfl rfl (z0f rfl rfl rfl z0s)) rfl ?_)))))))
 refine al j0k rfl rfl (λg5 w2 hg5 hb5 q2 z2=>(z0j (vs:=[_,_,_,_]) rfl rfl hb5 u3a (λw3 hb5 q3 z3=>(nn ?_))))
 refine jn (ι:=Unit) [(0,_),(3,_),(5,_)] (λ_j=>[]) (λ_j w'=>Fr [g5] w3 w'/\Blk w' g5 138 [.int .u8 (z5l c).1.y,.int .i64 (z5l c).1.n,.int .u8 (z5l c).2.y,.int .i64 (z5l c).2.n]) (.c3 rfl rfl rfl) ?_ ?_
 ·refine sr (fad rfl x3x ?_)
  replace hb3:=(hb3.ext q2).fr q3
  refine z1y (vs:=[_,_]) rfl hb3 z3g rfl (fad rfl x2z (z1y (vs:=[_,_]) rfl hb3 z3g rfl (cl (ev2 rfl rfl) j1w (y0c ⟨_,_⟩ ⟨_,_⟩ _) rfl ?_)))
  rintro _ w4 ⟨rfl,q4⟩
  refine gt' rfl rfl (nn (cd rfl (λc0=>?_) (λc0=>?_)))
  ·refine rg (fad rfl x2z ?_)
   replace hb3:=hb3.ext q4
   refine z1y (vs:=[_,_]) rfl hb3 z3g rfl (fad rfl x3x (z1y (vs:=[_,_]) rfl hb3 z3g rfl (z1r (cs:=[_,_,_,_]) (ev2 rfl rfl) u3b (z0f rfl rfl rfl (z0f rfl rfl rfl z0s)) rfl ?_)))
   replace hb5:=hb5.ext q4
   refine z0j (vs:=[_,_,_,_]) rfl rfl hb5 u3a (λw5 hb5 q5 z5=>(kpL [(0,_),(3,_),(5,_)] (.c3 rfl rfl rfl) (nl ?_)))
   exact jE (()) (.c3 rfl rfl rfl) ⟨((Fr.refl [g5] _).z2 q4 q5),(by rw [show z5l c=(c.b,c.a) from if_pos c0];exact hb5)⟩
  refine sk ?_
  replace hb5:=hb5.ext q4
  exact jE (()) (.c3 rfl rfl rfl) ⟨((Fr.refl [g5] _).n1 q4),(by rw [show z5l c=(c.a,c.b) from if_neg c0];exact hb5)⟩
 rintro _j w6 ⟨q6,hb5⟩
 have lt_hb5:=hb5.lt
 refine kpC [(0,_),(3,_),(5,_)] (.c3 rfl rfl rfl) (sq ?_)
 replace hM:=hM0.ext (q1.z3 q2 q3 q6)
 replace hk:=((hk.ext (q1.n1 q2)).fr q3).fr q6
 replace hb3:=((hb3.ext q2).fr q3).fr q6
 intro a h
 refine z0h none (λwb w'=>Fr [] wb w') z2r ?_;intro w7 q7
 replace hM:=hM.ext q7
 replace hk:=hk.ext q7
 replace hb3:=hb3.ext q7
 replace hb5:=hb5.ext q7
 have hC:Fr [] w7 w7:=Fr.refl _ _
 have hM_b:=hM
 have hk_b:=hk
 have hb3_b:=hb3
 have hb5_b:=hb5
 refine z0e 0 h rfl rfl λa h=>z0o 1 h rfl rfl λa h=>z0c 2 h rfl y1q rfl λa h=>z0l 3 h rfl (λ_ hw=>hk_b.ext hw) rfl x7q rfl λa h=>z0t 4 h rfl (λ_ hw=>hb5_b.ext hw) u4z rfl λa h=>z0c 6 h rfl u5z rfl λa h=>z0l 7 h rfl (λ_ hw=>hb3_b.ext hw) rfl na3 rfl λa h=>z0d 5 rfl ?_
 refine y0m (V:=crK) (k:=z5l c) (f:=z2i (crM m.cr)) h rfl rfl hM.c.f x5e underlying135 zvI2 (v2p (z5l c).1 (z5l c).2 m.cr) rfl λa h=>?_
 refine z0b ?_
 refine z5i 8 h rfl rfl (by first|exact i6 (by omega)|rfl) rfl λa h=>z0d 9 rfl ?_
 refine z0q h rfl λa h=>?_
 refine z0b ?_
 refine z0r ?_
 clear hC hM_b hk_b hb3_b hb5_b
 refine bk (h.sub (L':=[(0,_),(5,_),(6,_)]) (.c3 rfl rfl rfl)) (tn (sq (sq ?_)))
 refine rbo (r:=37) (L':=[(0,_),(5,_),(6,_)]) (((((y8v m.cr (z5l c).1 (z5l c).2)+c.n) < -1048576)\/(1048576<((y8v m.cr (z5l c).1 (z5l c).2)+c.n)))) (.c3 rfl rfl rfl) ?_ ?_
 ·refine mv rfl (lt' rfl rfl (mv rfl (gs 34 rfl (λg0=>?_) (λg0=>?_))))
  ·exact gN rfl rfl (gN rfl rfl (pkt rfl rfl (rbe rfl (.c3 rfl rfl rfl))))
  exact gY rfl (mv rfl (gY rfl (gt' rfl rfl (pkf rfl rfl (rbe rfl (.c3 rfl rfl rfl))))))
 refine tn (cd rfl (λc1=>?_) (λc1=>?_))
 ·refine sr (asg rfl (nn (rt (tr (r1 results148 rfl ?_)))))
  exact ⟨_,rfl,MRet.err (by rw [x2w,if_pos c1]) (by decide) hM.fr⟩
 refine sk (tn (sq (sr (mv rfl (eq' rfl rfl (nn (cd rfl (λc2=>?_) (λc2=>?_))))))))
 ·intro a h
  refine z0h (some 5) (λwb w'=>Fr [] wb w') z2r ?_;intro w8 q8
  replace hM:=hM.ext q8
  replace hk:=hk.ext q8
  replace hb5:=hb5.ext q8
  have hC:Fr [] w8 w8:=Fr.refl _ _
  have hM_b:=hM
  have hk_b:=hk
  have hb5_b:=hb5
  refine z0e 0 h rfl rfl λa h=>z0o 1 h rfl rfl λa h=>z0c 2 h rfl y1q rfl λa h=>z0l 3 h rfl (λ_ hw=>hk_b.ext hw) rfl x7q rfl λa h=>z0t 4 h rfl (λ_ hw=>hb5_b.ext hw) u4z rfl λa h=>z0d 5 rfl ?_
  refine u6o (V:=crK) (k:=z5l c) h rfl rfl hM.c x5e underlying135 rfl λw9 hcN hq _hz a h=>?_
  replace hM:=hM.cross (l:=v5a m.cr (z5l c).1 (z5l c).2) (by rw [v3g _ _ _ hM.c.nodup];exact hcN) hq
  refine z1o ?_
  refine z0r ?_
  clear hC hM_b hk_b hb5_b
  refine bk (h.sub (L':=[]) .nil) (tn (sr (asg rfl (nn (rt (r1 results148 rfl ?_))))))
  exact ⟨_,rfl,MRet.ok (by rw [x2w,if_neg c1,if_pos c2]) hM⟩
 intro a h
 refine z0h (some 6) (λwb w'=>Fr [] wb w') z2r ?_;intro w10 q10
 replace hM:=hM.ext q10
 replace hk:=hk.ext q10
 replace hb5:=hb5.ext q10
 have hC:Fr [] w10 w10:=Fr.refl _ _
 have hM_b:=hM
 have hk_b:=hk
 have hb5_b:=hb5
 refine z0e 0 h rfl rfl λa h=>z0o 1 h rfl rfl λa h=>z0c 2 h rfl y1q rfl λa h=>z0l 3 h rfl (λ_ hw=>hk_b.ext hw) rfl x7q rfl λa h=>z0t 4 h rfl (λ_ hw=>hb5_b.ext hw) u4z rfl λa h=>z0e 5 h rfl rfl λa h=>z0d 6 rfl ?_
 refine y6c (V:=crK) (k:=z5l c) (v:=.int .i64 ((y8v m.cr (z5l c).1 (z5l c).2)+c.n)) h rfl rfl rfl hM.c x5e underlying135 λw11 hcN hq _hz a h=>?_
 replace hM:=hM.cross (l:=y9v m.cr (z5l c).1 (z5l c).2 (y8v m.cr (z5l c).1 (z5l c).2+c.n)) (by rw [v3l _ _ _ _ hM.c.nodup];exact hcN) hq
 refine z1o ?_
 refine z0r ?_
 clear hC hM_b hk_b hb5_b
 refine bk (h.sub (L':=[]) .nil) (tn (sr (asg rfl (nn (rt (r1 results148 rfl ?_))))))
 exact ⟨_,rfl,MRet.ok (by rw [x2w,if_neg c1,if_neg c2]) hM⟩
theorem v5p (m:MQ) (j:Nat):m.p.ys.getD j yn0=(m.ys.getD j yq0).p:=by
 show (m.ys.map YQ.p).getD j yn0=_
 rw [List.getD,List.getD,List.getElem?_map]
 cases m.ys[j]?<;>rfl
theorem y0r {l:List Cx} {i:Nat} (h:i<l.length):l.take (i+1)=l.take i++[l.getD i cx0]:=by
 rw [List.take_add_one,List.getD,List.getElem?_eq_getElem h];rfl
theorem x8l {l r li:List Cx} {i:Nat} {e:Int} (h:z6a l (r.take i)=.ok li) (hi:i<r.length) (he:x2s li (r.getD i cx0)=.error e):z6a l r=.error e:=by
 have h1:=y1u (c:=r.getD i cx0) h
 rw [<-y0r hi,he] at h1
 have h2:=x2c (r.drop (i+1)) h1
 rwa [List.take_append_drop] at h2
theorem v8e {p:MSt} {c:Cx} {e:Int} (h:u3o p c=.error e):x2s p.cr c=.error e:=by
 unfold u3o at h
 split at h
 ·rename_i h2;cases h;exact h2
 cases h
theorem u5c {p q:MSt} {c:Cx} (h:u3o p c=.ok q):∃l,x2s p.cr c=.ok l/\q={ p with cr:=l }:=by
 unfold u3o at h
 split at h
 ·cases h
 rename_i l h2;cases h;exact ⟨l,h2,rfl⟩
theorem v7r {m:MQ} {d:Int} {ysi:List YQ} (hyl:ysi.length=6) (hly:m.ys.length=6) (hys:∀j,j<6->z8k m.p d (m.ys.getD j yq0).p=.ok (ysi.getD j yq0).p):z6c m.p d m.p.ys=.ok (ysi.map YQ.p):=by
 refine y6a (by simp [hyl,hly]) λj hj=>?_
 have hj':j<6:=by simpa [hly] using hj
 rw [v5p,hys j hj']
 congr 1
 rw [List.getD,List.getD,List.getElem?_map]
 cases ysi[j]?<;>rfl
theorem v9d {m:MQ} {d:Int} {ysi:List YQ} {qn:YQ} {i:Nat} (hyl:ysi.length=6) (hi:i<6) (hys:∀j,j<i->z8k m.p d (m.ys.getD j yq0).p=.ok (ysi.getD j yq0).p) (h:z8k m.p d (m.ys.getD i yq0).p=.ok qn.p):∀j,j<i+1->z8k m.p d (m.ys.getD j yq0).p=.ok ((ysi.set i qn).getD j yq0).p:=λj hj=>by
 rw [z1g (by omega)]
 by_cases e:i=j
 ·subst e;rw [if_pos rfl];exact h
 rw [if_neg e];exact hys j (by omega)
theorem v4b {m:MQ} {d:Int} {ysi:List YQ} {i:Nat} (hyr:∀j,i<=j->ysi.getD j yq0=m.ys.getD j yq0) (hys:∀j,j<i->z8k m.p d (m.ys.getD j yq0).p=.ok (ysi.getD j yq0).p) (h:(m.ys.getD i yq0).inn=false):∀j,j<i+1->z8k m.p d (m.ys.getD j yq0).p=.ok (ysi.getD j yq0).p:=λj hj=>by
 by_cases e:j=i
 ·subst e;rw [hyr j (Nat.le_refl _)];unfold z8k;rw [if_pos h]
 exact hys j (by omega)
theorem v7j {m:MQ} {ysi:List YQ} {qn:YQ} {i:Nat} (hyl:ysi.length=6) (hi:i<6) (hyr:∀j,i<=j->ysi.getD j yq0=m.ys.getD j yq0):∀j,i+1<=j->(ysi.set i qn).getD j yq0=m.ys.getD j yq0:=λj hj=>by
 rw [z1g (by omega),if_neg (by omega)];exact hyr j (by omega)
set_option maxHeartbeats 4000000 in
theorem u5e (wS:World) (ka:MA) (m:MQ) (d:Int) (w0:World) (hM:MkM τd 137 wS ka w0 m) (hi:MInv m.p) (hTS:StT wS) (hd:d=0\/d=1) (hr2:-4<=m.rk+stI d/\m.rk+stI d<=4):Rets prog 111 #[.pointer (some ⟨ka.gk,0,none⟩),.int .u8 d] w0 λr w'=>MRet τd 137 wS ka (y2m m.p d) r w':=by
 have hzS:=hM.fr.size
 have hgkS:=hM.gk
 have hk:=hM.k
 have hkz:=hk.lt
 have hly:=hM.ly
 have hgyz:=(hM.y.out.blk ka.gy (by simp [z0v])).2
 have hI:=hi
 have hgky:ka.gk≠ka.gy:=λe=>Own.neB hM.y.out hM.k (by decide) (by simp [z0v,e])
 have hml:(z4a m.q.p m.rk d).length<=640:=by
  have x:(z4a m.q.p m.rk d).length<=16*m.p.B.b.length:=y3q hI.B m.rk d
  have y:=hI.B.lb
  omega
 refine we [(0,.pointer (some ⟨ka.gk,0,none⟩)),(1,.int .u8 d)] func111 rfl ntmps111 rfl (.c2 rfl rfl) ?_
 have hM0:=hM
 refine sr (asg rfl (nn (sq (sr (mv rfl (nlc rfl (fad rfl z2w (z0i rfl hk rfl y1w (lnS rfl underlying33 (mv rfl (nn (bl ?_))))))))))))
 refine lpK (ι:=Nat) [(0,_),(1,_),(17,_),(18,_)] (λi=>[(19,.int .i64 (i:Int))]) (λi w'=>Fr [ka.gy] w0 w'/\i<=6/\(∃ysi:List YQ,ysi.length=6/\(∀j,j<i->z8k m.p d (m.ys.getD j yq0).p=.ok (ysi.getD j yq0).p)/\(∀j,i<=j->ysi.getD j yq0=m.ys.getD j yq0)/\MkM τd 137 wS ka w' { m with ys:=ysi })) (λi=>6-i) 0 (.c5 rfl rfl rfl rfl rfl) ⟨Fr.refl _ _,⟨Nat.zero_le _,⟨m.ys,hly,λj hj=>by omega,λj _=>rfl,hM⟩⟩⟩ ?_
 rintro i w1 ⟨q1,⟨hi,⟨ysi,hyl,hys,hyr,hM⟩⟩⟩
 have z1:=q1.size
 have hM0:=hM
 refine kpC [(0,_),(1,_),(17,_),(18,_),(19,_)] (.c5 rfl rfl rfl rfl rfl) ?_
 have hk:=hM.k
 refine sr (lt' rfl rfl (nn (sq (cd rfl (λc0=>?_) (λc0=>?_)))))
 ·have hi6:i<6:=by omega
  refine sk (tn (sq (bl (sr (mv rfl (z1a (yq0) rfl (show Sl z2s _ ka.YV ysi from hM.y.out.sl) rfl y1r z1f (λad22 hc22=>?_)))))))
  refine z1j rfl (hc22 _ (show Sl z2s _ ka.YV ysi from hM.y.out.sl)) z6h (al y1j rfl rfl (λg6 w2 hg6 hb6 q2 z2=>?_))
  refine asg rfl (z0j (vs:=[_,_,_,_,_]) rfl rfl hb6 z6k (λw3 hb6 q3 z3=>?_) (h1:=(by first|(simp [Value.oneCell',S];done)|exact z2s.one (m.ys.getD i yq0))))
  rw [hyr i (Nat.le_refl _)] at hb6
  refine nn (sq (sr (fad rfl z9k (z0i rfl hb6 rfl na4 (nt' rfl (nn (cd rfl (λc1=>?_) (λc1=>?_))))))))
  ·refine ex (te (xh (tn (rg (z0y rfl rfl (wi6 (by omega)) (mv rfl (nl ?_)))))))
   replace hM:=hM0.ext (q2.z1 q3)
   exact lpE (i+1) (.c5 rfl rfl rfl rfl rfl) ⟨((Fr.refl [ka.gy] _).z3 q1 q2 q3),⟨by omega,⟨ysi,hyl,v4b hyr hys (by simpa using c1),λj hj=>hyr j (by omega),hM⟩⟩⟩ (by omega)
  have hyo:=(hI.yn i (by omega)).1
  rw [v5p] at hyo
  have hpo:=j1t (by have:=hyo.2;rw [if_pos (by simpa using c1)] at this;exact this.1)
  have hmpl:(z6o m.q.p m.rk d (m.ys.getD i yq0).pl).length<=50000:=by
   have x:(z6o m.q.p m.rk d (m.ys.getD i yq0).pl).length<=4*m.p.B.b.length:=y9y hI.B m.rk d _
   have y:=hI.B.lb
   omega
  refine sk (tn (sq ?_))
  replace hM:=hM0.ext (q2.z1 q3)
  replace hk:=(hk.ext q2).fr q3
  intro a h
  refine z0h none (λwb w'=>Fr [] wb w') z2r ?_;intro w4 q4
  have z4:=q4.size
  replace hM:=hM.ext q4
  replace hk:=hk.ext q4
  replace hb6:=hb6.ext q4
  have hC:Fr [] w4 w4:=Fr.refl _ _
  have hM_b:=hM
  have hk_b:=hk
  have hb6_b:=hb6
  refine z0e 0 h rfl rfl λa h=>z0o 1 h rfl rfl λa h=>z0c 2 h rfl z2p rfl λa h=>z1c (vs:=[_,_]) 3 h rfl (λ_ hw=>(hk_b.ext hw)) z5k rfl rfl λa h=>z0e 4 h rfl rfl λa h=>z0o 5 h rfl rfl λa h=>z0c 6 h rfl z3b rfl λa h=>z0l 7 h rfl (λ_ hw=>hk_b.ext hw) rfl na3 rfl λa h=>z0e 8 h rfl rfl λa h=>z0c 9 h rfl z6j rfl λa h=>z0l 10 h rfl (λ_ hw=>hb6_b.ext hw) rfl na3 rfl λa h=>?_
  refine z0d 11 rfl ?_
  refine z0m h (z0a rfl (z0a rfl (z0a rfl (z0a rfl z0g)))) (mkC func145) (v9x m.q m.rk d (m.ys.getD i yq0).pl _ hM.b.at hI.B (hTS.ext hM.fr.fr) hI.rk hd hr2 hpo.1 hpo.2) ?_;rintro _ w5 ⟨⟨g39,rfl,hg39,hW⟩,q5⟩ a h
  have z5:=q5.size
  replace hM:=hM.ext q5
  replace hk:=hk.ext q5
  replace hb6:=hb6.ext q5
  replace hC:=hC.next q5
  refine z0b ?_
  refine z0e 12 h rfl rfl λa h=>z0k 13 h rfl rfl rfl λa h=>z0k 14 h rfl rfl rfl λa h=>z0d 15 rfl ?_
  refine z0q h rfl λa h=>?_
  refine z0b ?_
  refine z0d 16 rfl ?_
  refine z0q h rfl λa h=>?_
  refine z0b ?_
  refine z0r ?_
  clear hC hM_b hk_b hb6_b
  refine bk (h.sub (L':=[(0,_),(1,_),(5,_),(6,_),(7,_),(8,_),(17,_),(18,_),(19,_)]) (.d8 rfl rfl rfl rfl rfl rfl rfl rfl (.cons rfl .nil))) (tn (sq (sr (mv rfl (ne' rfl rfl (nn (cd rfl (λc2=>?_) (λc2=>?_))))))))
  ·refine sr (mv rfl (asg rfl (kpL [(4,_)] (.cons rfl .nil) (nn (rt (tr (rb (tr (tr (rb (tr (r1 results111 rfl ?_))))))))))))
   exact absurd rfl c2
  refine sk (tn (sq ?_))
  intro a h
  refine z0h (some 15) (λwb w'=>Fr [ka.gy] wb w') z2r ?_;intro w6 q6
  have z6:=q6.size
  replace hM:=hM.ext q6
  replace hk:=hk.ext q6
  replace hb6:=hb6.ext q6
  replace hW:=hW.ext q6
  have hC:Fr [ka.gy] w6 w6:=Fr.refl _ _
  have hM_b:=hM
  have hk_b:=hk
  have hb6_b:=hb6
  have hW_b:=hW
  refine z0e 0 h rfl rfl λa h=>z0o 1 h rfl rfl λa h=>z0c 2 h rfl z2w rfl λa h=>z0l 3 h rfl (λ_ hw=>hk_b.fr hw (by simp<;>omega)) rfl y1w rfl λa h=>z0e 4 h rfl rfl λa h=>z0t 5 h rfl (λ_ hw=>hb6_b.fr hw (by simp<;>omega)) z6h rfl λa h=>z0c 6 h rfl z6j rfl λa h=>z0l 7 h rfl (λ_ hw=>hb6_b.fr hw (by simp<;>omega)) rfl na3 rfl λa h=>z0e 8 h rfl rfl λa h=>z0d 9 rfl ?_
  refine z0m h (z0a rfl (z0a rfl (z0a rfl z0g))) (mkC func146) (x6t (m.ys.getD i yq0) (m.ys.getD i yq0).pl _ (z6o m.q.p m.rk d (m.ys.getD i yq0).pl) _ (by have x:=(hM.y.ins i (by rw [hM.ly];omega)).sl;rw [show ({ m with ys:=ysi }:MQ).ys.getD i yq0=m.ys.getD i yq0 from hyr i (Nat.le_refl _)] at x;exact x) hW.sl (λk hk=>(hW.blk k hk).2) (by omega)) ?_;rintro _ w7 ⟨qn,rfl,hgo,q7⟩ a h
  have z7:=q7.size
  replace hM:=hM.ext q7
  replace hk:=hk.ext q7
  replace hb6:=hb6.ext q7
  replace hW:=hW.ext q7
  replace hC:=hC.next q7
  refine z0b ?_
  refine z0e 10 h rfl rfl λa h=>z0k 11 h rfl rfl rfl λa h=>z0k 12 h rfl rfl rfl λa h=>z1n 13 (by kernel_rfl) (by kernel_rfl) (by kernel_rfl) hC (p:=i) h wn rfl rfl y1r (by omega) (by omega) (by omega) rfl rfl λa h=>z0d 14 rfl ?_
  refine z1b (i:=i) (qn:YQ) h rfl rfl hM.y.out (by rw [hM.ly];omega) rfl z6k λw8 ho_2 q8 _hz a h=>?_
  have hfr2:=hM.fr.step q8 (y5o hM.y.out (by simp [v5h])) (λk hk hlt=>absurd (hM.y.out.blk k hk).1 (by omega))
  have hMs:=λhc:(goE (m.ys.getD i yq0).p (m.ys.getD i yq0).pl (z6o m.q.p m.rk d (m.ys.getD i yq0).pl))=0=>hM.yarn mtd (j:=i) (y:=qn) (by omega) ho_2 q8 ((hgo hc).2.low (by omega))
  clear ho_2 hM
  have z8:=q8.size
  replace hb6:=hb6.fr q8
  replace hW:=hW.fr q8 (by simp[z0v]<;>omega)
  replace hC:=hC.sp q8
  clear _hz
  refine z0b ?_
  refine z0d 15 rfl ?_
  refine z0q h rfl λa h=>?_
  refine z1o ?_
  refine z0r ?_
  clear hC hM_b hk_b hb6_b hW_b
  refine bk (h.sub (L':=[(0,_),(1,_),(8,_),(17,_),(18,_),(19,_)]) (.c6 rfl rfl rfl rfl rfl rfl)) (tn (sr (mv rfl (ne' rfl rfl (nn (cd rfl (λc3=>?_) (λc3=>?_)))))))
  ·refine sr (mv rfl (asg rfl (kpL [(4,_)] (.cons rfl .nil) (nn (rt (rb (tr (tr (rb (tr (r1 results111 rfl ?_)))))))))))
   exact ⟨_,rfl,MRet.err (by unfold y2m;rw [y6j (i:=i) (e:=(goE (m.ys.getD i yq0).p (m.ys.getD i yq0).pl (z6o m.q.p m.rk d (m.ys.getD i yq0).pl))) (by simp only [List.length_map];omega) (λj hj=>⟨_,by rw [v5p];exact hys j hj⟩) (by rw [v5p];unfold z8k;rw [if_neg (by simpa using c1),if_pos c3])]) c3 hfr2⟩
  have hM:=hMs (Classical.not_not.1 c3)
  have hM0:=hM
  refine sk (bn' (tn (rg (z0y rfl rfl (wi6 (by omega)) (mv rfl (nl ?_))))))
  exact lpE (i+1) (.c5 rfl rfl rfl rfl rfl) ⟨((((Fr.refl [ka.gy] _).z6 q1 q2 q3 q4 q5 q6).n1 q7).z1 q8),⟨by omega,⟨ysi.set i qn,by rw [List.length_set];exact hyl,v9d hyl (by omega) hys (by unfold z8k;rw [if_neg (by simpa using c1),if_neg (λe=>e (Classical.not_not.1 c3)),(hgo (Classical.not_not.1 c3)).1]),v7j hyl (by omega) hyr,hM⟩⟩⟩ (by omega)
 obtain rfl:i=6:=by omega
 have hmy:=v7r hyl hly hys
 refine ex (te (te (xh (tn (sq ?_)))))
 intro a h
 refine z0h none (λwb w'=>Fr [] wb w') z2r ?_;intro w9 q9
 have z9:=q9.size
 replace hM:=hM.ext q9
 replace hk:=hk.ext q9
 have hC:Fr [] w9 w9:=Fr.refl _ _
 have hM_b:=hM
 have hk_b:=hk
 refine z0e 0 h rfl rfl λa h=>z0o 1 h rfl rfl λa h=>z0c 2 h rfl z2p rfl λa h=>z1c (vs:=[_,_]) 3 h rfl (λ_ hw=>(hk_b.ext hw)) z5k rfl rfl λa h=>z0e 4 h rfl rfl λa h=>z0o 5 h rfl rfl λa h=>z0c 6 h rfl z3b rfl λa h=>z0l 7 h rfl (λ_ hw=>hk_b.ext hw) rfl na3 rfl λa h=>z0e 8 h rfl rfl λa h=>z0d 9 rfl ?_
 refine z0m h (z0a rfl (z0a rfl (z0a rfl z0g))) (mkC func147) (u7n m.q m.rk d _ hM.b.at hI.B (hTS.ext hM.fr.fr) hI.rk hd hr2) ?_;rintro _ w10 ⟨⟨gl,rfl,hgl,hX⟩,q10⟩ a h
 have z10:=q10.size
 replace hM:=hM.ext q10
 replace hk:=hk.ext q10
 replace hC:=hC.next q10
 refine z0b ?_
 refine z0e 10 h rfl rfl λa h=>z0k 11 h rfl rfl rfl λa h=>z0k 12 h rfl rfl rfl λa h=>z0d 13 rfl ?_
 refine z0q h rfl λa h=>?_
 refine z0b ?_
 refine z0d 14 rfl ?_
 refine z0q h rfl λa h=>?_
 refine z0b ?_
 refine z0r ?_
 clear hC hM_b hk_b
 refine bk (h.sub (L':=[(0,_),(9,_),(10,_)]) (.c3 rfl rfl rfl)) (tn (sq (sr (mv rfl (ne' rfl rfl (nn (cd rfl (λc4=>?_) (λc4=>?_))))))))
 ·refine sr (mv rfl (asg rfl (nn (rt (tr (r1 results111 rfl ?_))))))
  exact absurd rfl c4
 refine sk (tn (sq (sr (mv rfl (lnS rfl underlying242 (mv rfl (nn (bl ?_))))))))
 refine lpK (ι:=Nat) [(0,_),(79,_),(80,_)] (λi=>[(81,.int .i64 (i:Int))]) (λi w'=>i<=(z4a m.q.p m.rk d).length/\(∃(mi:MQ) (li:List Cx),z6a m.cr ((z4a m.q.p m.rk d).take i)=.ok li/\mi.p={ m.p with ys:=ysi.map YQ.p,cr:=li }/\MkM τd 137 wS ka w' mi/\Lw.Own z4t 246 w0.heap.size w' (.slice (some ⟨gl,0,none⟩) (z4a m.q.p m.rk d).length (z4a m.q.p m.rk d).length) (z4a m.q.p m.rk d))) (λi=>(z4a m.q.p m.rk d).length-i) 0 (.c4 rfl rfl rfl rfl) ⟨Nat.zero_le _,⟨{ m with ys:=ysi },m.cr,rfl,rfl,hM,hX.low (by omega)⟩⟩ ?_
 rintro i w11 ⟨hi,⟨mi,li,hli,hmp,hM,hX⟩⟩
 have hM0:=hM
 refine kpC [(0,_),(79,_),(80,_),(81,_)] (.c4 rfl rfl rfl rfl) (sr (lt' rfl rfl (nn (sq (cd rfl (λc5=>?_) (λc5=>?_))))))
 ·have hlt:i<(z4a m.q.p m.rk d).length:=by omega
  refine sk (tn (sq (bl (sr (z1a (cx0) rfl hX.sl rfl y0z z1f (λad83 hc83=>?_))))))
  refine z1j rfl (hc83 _ hX.sl) x7r (al j2r rfl rfl (λg12 w12 hg12 hb12 q12 z12=>?_))
  refine z0j (vs:=[_,_,_,_,_]) rfl rfl hb12 v1a (λw13 hb12 q13 z13=>?_) (h1:=(by first|(simp [Value.oneCell',S];done)|exact z2s.one (m.ys.getD i yq0)))
  refine nn (sr (mv rfl (z0n rfl hb12 x7r ?_)))
  replace hM:=hM0.ext (q12.z1 q13)
  replace hX:=(hX.ext q12).fr q13 (by first|exact z9e hX (by omega)|simp[z0v]<;>omega)
  have hMf:=hM.fr
  have hcr:mi.cr=li:=congrArg MSt.cr hmp
  refine cl (z0a rfl (z0a rfl z0g)) (mkC func148) (u2y wS { ka with wk:=w13 } mi ((z4a m.q.p m.rk d).getD i cx0) _ hM.mark (by rw [hcr];exact y7k hI.cv hli) (j4t _ (z0x (by omega)))) rfl ?_
  intro _ w14 hR
  obtain ⟨rfl,hfR,m2,hm2⟩:=hR.split
  have z14:=hfR.kp.size
  simp only at z14
  replace hX:=hfR.kp.own hX (hM.gcneO hX) (by decide)
  refine asg rfl (nn (sr (mv rfl (ne' rfl rfl (nn (cd rfl (λc6=>?_) (λc6=>?_)))))))
  ·refine sr (mv rfl (asg rfl (kpL [(4,_)] (.cons rfl .nil) (nn (rt (rb (tr (tr (rb (tr (r1 results111 rfl ?_)))))))))))
   exact ⟨_,rfl,MRet.err (by unfold y2m;rw [hmy];simp only;rw [x8l hli hlt (by have x:=v8e (y0o c6);rw [show mi.p.cr=li from congrArg MSt.cr hmp] at x;exact x)]) c6 (hfR.un hMf)⟩
  obtain ⟨hM1,hx1⟩:=hm2 (Classical.not_not.1 c6)
  have hMn:=hM1.unmark hMf
  obtain ⟨l2,hal,hpl⟩:=u5c hx1
  refine sk (bn' (tn (rg (z0y rfl rfl (wi6 (by omega)) (mv rfl (nl ?_))))))
  exact lpE (i+1) (.c4 rfl rfl rfl rfl) ⟨by omega,⟨m2,l2,by rw [y0r hlt,y1u hli,<-(show mi.cr=li from congrArg MSt.cr hmp)];exact hal,by rw [hpl,hmp],hMn,hX⟩⟩ (by omega)
 obtain rfl:i=(z4a m.q.p m.rk d).length:=by omega
 refine ex (te (te (xh (tn (sr (asg rfl (nn (rt (r1 results111 rfl ?_)))))))))
 exact ⟨_,rfl,MRet.ok (by rw [List.take_length] at hli;unfold y2m;rw [hmy,hmp];simp only;rw [show z6a m.p.cr (z4a m.p.B m.p.rk d)=.ok li from hli]) hM⟩
theorem y7r (p:MSt) (d:Int):y5c p d=match y2m p d with
    | .error e=>.error e
    | .ok q=>.ok { q with rk:=p.rk+stI d }:=by
  unfold y5c y2m
  cases z6c p d p.ys with
  | error e=>rfl
  | ok ys=>
    simp only
    cases z6a p.cr (z4a p.B p.rk d) with
    | error e=>rfl
    | ok cr=>rfl
theorem v7k {p:MSt} {r:Int} (n:Nat) (h:p.rk=r):z8e n p r=.ok p:=by
 cases n with
 | zero=>rfl
 | succ n=>unfold z8e;rw [if_pos h]
theorem v7c {p:MSt} {r e:Int} {n:Nat} (h:p.rk≠r) (hn:1<=n) (he:y2m p (if r<p.rk then 0 else 1)=.error e):z8e n p r=.error e:=by
 obtain ⟨k,rfl⟩:∃k,n=k+1:=⟨n-1,by omega⟩
 unfold z8e
 rw [if_neg h,y7r,he]
theorem u6p {p q:MSt} {r:Int} {n:Nat} (h:p.rk≠r) (hn:1<=n) (he:y2m p (if r<p.rk then 0 else 1)=.ok q):z8e n p r=z8e (n-1) { q with rk:=p.rk+stI (if r<p.rk then 0 else 1) } r/\y5c p (if r<p.rk then 0 else 1)=.ok { q with rk:=p.rk+stI (if r<p.rk then 0 else 1) }:=by
 obtain ⟨k,rfl⟩:∃k,n=k+1:=⟨n-1,by omega⟩
 constructor
 ·conv=>lhs;unfold z8e
  rw [if_neg h,y7r,he];rfl
 rw [y7r,he]
set_option maxHeartbeats 2000000 in
theorem u7p (wS:World) (ka:MA) (m:MQ) (o:MOp) (w0:World) (hM:MkM τd 137 wS ka w0 m) (hi:MInv m.p) (hTS:StT wS) (hor:-4<=o.r/\o.r<=4):Rets prog 66 #[.pointer (some ⟨ka.gk,0,none⟩),opV o] w0 λr w'=>MRet τd 137 wS ka (v5q m.p o) r w':=by
 have hzS:=hM.fr.size
 have hgkS:=hM.gk
 have hkz:=hM.k.lt
 have hrk:-4<=m.rk/\m.rk<=4:=hi.rk
 refine we [(0,.pointer (some ⟨ka.gk,0,none⟩)),(1,opV o)] func66 rfl ntmps66 rfl (.c2 rfl rfl) ?_
 have hM0:=hM
 refine sr (bx rfl rfl rfl (λg3 w1 hg3 hb3 q1 z1=>(asg rfl (nn (sq (bl ?_))))))
 replace hM:=hM0.ext q1
 refine lpK (ι:=Nat) [(0,_),(3,_)] (λn=>[]) (λn w'=>∃mi:MQ,(z8e 8 m.p o.r=z8e n mi.p o.r/\MInv mi.p/\-(n:Int)<=o.r-mi.rk/\o.r-mi.rk<=n)/\MkM τd 137 wS ka w' mi/\Blk w' g3 28 [.int .u8 o.k,.int .u8 o.d,.int .u8 o.b,.int .i64 o.p,.int .u8 o.y,.int .i64 o.r]) (λn=>n) 8 (.c2 rfl rfl) ⟨m,⟨rfl,hi,by omega,by omega⟩,hM,hb3⟩ ?_
 rintro n w2 ⟨mi,⟨htu,hIi,hd1,hd2⟩,hM,hb3⟩
 have hM0:=hM
 have lt_hb3:=hb3.lt
 refine kpC [(0,_),(3,_)] (.c2 rfl rfl) ?_
 have hk:=hM.k
 have hrki:-4<=mi.rk/\mi.rk<=4:=hIi.rk
 refine sq (sq ?_)
 intro a h
 refine z0h none (λwb w'=>Fr [] wb w') z2r ?_;intro w3 q3
 replace hb3:=hb3.ext q3
 replace hk:=hk.ext q3
 have hC:Fr [] w3 w3:=Fr.refl _ _
 have hb3_b:=hb3
 have hk_b:=hk
 refine z0e 0 h rfl rfl λa h=>z0o 1 h rfl rfl λa h=>z0c 2 h rfl z3b rfl λa h=>z0l 3 h rfl (λ_ hw=>hk_b.ext hw) rfl na3 rfl λa h=>z0c 4 h rfl y3e rfl λa h=>z0l 5 h rfl (λ_ hw=>hb3_b.ext hw) rfl na3 rfl λa h=>j0x 6 hC h wn rfl rfl rfl rfl λa h=>z0r ?_
 clear hC hb3_b hk_b
 refine bk (h.sub (L':=[(0,_),(3,_),(14,_)]) (.c3 rfl rfl rfl)) (tn (cd rfl (λc0=>?_) (λc0=>?_)))
 ·have hne:mi.p.rk≠o.r:=c0
  refine sk (tn (bl (sq ?_)))
  intro a h
  refine z0h none (λwb w'=>Fr [] wb w') z2r ?_;intro w4 q4
  replace hk:=hk.ext q4
  have hC:Fr [] w4 w4:=Fr.refl _ _
  have hk_b:=hk
  refine z0e 0 h rfl rfl λa h=>z0o 1 h rfl rfl λa h=>z0c 2 h rfl z3b rfl λa h=>z0l 3 h rfl (λ_ hw=>hk_b.ext hw) rfl na3 rfl λa h=>z5i 4 h rfl rfl (by first|exact i6 (by omega)|rfl) rfl λa h=>z0d 5 rfl ?_
  refine z0q h rfl λa h=>?_
  refine z0b ?_
  refine z0d 6 rfl ?_
  refine z0q h rfl λa h=>?_
  refine z0b ?_
  refine z0r ?_
  clear hC hk_b
  refine bk (h.sub (L':=[(0,_),(3,_),(5,_),(6,_)]) (.c4 rfl rfl rfl rfl)) (tn ?_)
  refine jn (ι:=Unit) [(0,_),(3,_)] (λ_j=>[(5,.int .u8 (if o.r<mi.rk then (0:Int) else 1)),(6,.int .i64 (mi.rk+stI (if o.r<mi.rk then (0:Int) else 1)))]) (λ_j w'=>Fr [] w4 w') (.c2 rfl rfl) ?_ ?_
  ·refine sq ?_
   intro a h
   refine z0h none (λwb w'=>Fr [] wb w') z2r ?_;intro w5 q5
   replace hb3:=hb3.ext (q4.n1 q5)
   replace hk:=hk.ext q5
   have hC:Fr [] w5 w5:=Fr.refl _ _
   have hb3_b:=hb3
   have hk_b:=hk
   refine z0c 0 h rfl y3e rfl λa h=>z0l 1 h rfl (λ_ hw=>hb3_b.ext hw) rfl na3 rfl λa h=>z0e 2 h rfl rfl λa h=>z0o 3 h rfl rfl λa h=>z0c 4 h rfl z3b rfl λa h=>z0l 5 h rfl (λ_ hw=>hk_b.ext hw) rfl na3 rfl λa h=>x8h 6 hC h wn rfl rfl rfl rfl λa h=>z0r ?_
   clear hC hb3_b hk_b
   refine bk (h.sub (L':=[(0,_),(3,_),(5,_),(6,_),(26,_)]) (.c5 rfl rfl rfl rfl rfl)) (tn (cd rfl (λc1=>?_) (λc1=>?_)))
   ·intro a h
    refine z0h none (λwb w'=>Fr [] wb w') z2r ?_;intro w6 q6
    replace hk:=hk.ext q6
    have hC:Fr [] w6 w6:=Fr.refl _ _
    have hk_b:=hk
    refine z0e 0 h rfl rfl λa h=>z0o 1 h rfl rfl λa h=>z0c 2 h rfl z3b rfl λa h=>z0l 3 h rfl (λ_ hw=>hk_b.ext hw) rfl na3 rfl λa h=>z2y 4 h wn rfl rfl (by first|exact i6 (by omega)|rfl) rfl λa h=>z0d 5 rfl ?_
    refine z0q h rfl λa h=>?_
    refine z0b ?_
    refine z0d 6 rfl ?_
    refine z0q h rfl λa h=>?_
    refine z0b ?_
    refine z0r ?_
    clear hC hk_b
    refine bk (h.sub (L':=[(0,_),(3,_),(5,_),(6,_)]) (.c4 rfl rfl rfl rfl)) ?_
    exact jE (()) (.c4 rfl rfl (congrArg (λz=>some (Value.int .u8 z)) (by first|exact (if_pos c1).symm|exact (if_neg c1).symm)) (congrArg (λz=>some (Value.int .i64 z)) (by first|(rw [show (if o.r<mi.rk then (0:Int) else 1)=0 from if_pos c1,show stI 0 = -1 from rfl];omega)|(rw [show (if o.r<mi.rk then (0:Int) else 1)=1 from if_neg c1];rfl)))) (q5.n1 q6)
   refine sk ?_
   exact jE (()) (.c4 rfl rfl (congrArg (λz=>some (Value.int .u8 z)) (by first|exact (if_pos c1).symm|exact (if_neg c1).symm)) (congrArg (λz=>some (Value.int .i64 z)) (by first|(rw [show (if o.r<mi.rk then (0:Int) else 1)=0 from if_pos c1,show stI 0 = -1 from rfl];omega)|(rw [show (if o.r<mi.rk then (0:Int) else 1)=1 from if_neg c1];rfl)))) q5
  rintro _j w7 q7
  refine kpC [(0,_),(3,_),(5,_),(6,_)] (.c4 rfl rfl rfl rfl) (sq (sr (mv rfl (mv rfl ?_))))
  replace hM:=hM0.ext (q3.n2 q4 q7)
  replace hb3:=hb3.ext (q4.n1 q7)
  have hMf:=hM.fr
  refine cl (z0a rfl (z0a rfl z0g)) (mkC func111) (u5e wS { ka with wk:=w7 } mi (if o.r<mi.rk then (0:Int) else 1) _ hM.mark hIi hTS (by split<;>simp) (by have hx:-4<=mi.rk/\mi.rk<=4:=hIi.rk;unfold stI;split<;>split at *<;>omega)) rfl ?_
  intro _ w8 hR
  obtain ⟨rfl,hfR,m2,hm2⟩:=hR.split
  have z8:=hfR.kp.size
  simp only at z8
  replace hb3:=hfR.kp.blk hb3 (by have:=hM.gcne hb3;exact this) (by decide)
  refine asg rfl (nn (sr (mv rfl (ne' rfl rfl (nn (cd rfl (λc2=>?_) (λc2=>?_)))))))
  ·refine sr (mv rfl (asg rfl (kpL [(4,_)] (.cons rfl .nil) (nn (rt (tr (rb (tr (rb (tr (r1 results66 rfl ?_)))))))))))
   exact ⟨_,rfl,MRet.err (by unfold v5q;rw [htu];exact v7c hne (by omega) (y0o c2)) c2 (hfR.un hMf)⟩
  obtain ⟨hM1,hx1⟩:=hm2 (Classical.not_not.1 c2)
  replace hM:=hM1.unmark hMf
  have hM0:=hM
  have hk:=hM.k
  have hto:=u6p (p:=mi.p) (r:=o.r) (n:=n) hne (by omega) hx1
  have hIn:=y7o hIi (by have hx:-4<=mi.rk/\mi.rk<=4:=hIi.rk;show -4<=mi.rk+stI (if o.r<mi.rk then (0:Int) else 1)/\mi.rk+stI (if o.r<mi.rk then (0:Int) else 1)<=4;unfold stI;split<;>split at *<;>omega) hto.2
  refine sk (tn (rg (mv rfl (mv rfl (nlc rfl (fad rfl z3b (z3u rfl rfl hk rfl sz3 (λw9 hkn q9 z9=>?_))))))))
  replace hM:=hM.beds mtd (q:=m2.q) (r:=mi.rk+stI (if o.r<mi.rk then (0:Int) else 1)) hM.b hkn q9 hM.fb
  refine kpL [(0,_),(3,_)] (.c2 rfl rfl) (nl (bn' ?_))
  replace hb3:=hb3.fr q9
  exact lpE ((n-1)) (.c2 rfl rfl) ⟨{ m2 with rk:=mi.rk+stI (if o.r<mi.rk then (0:Int) else 1) },⟨by rw [htu,hto.1],hIn.1,by show -((n-1:Nat):Int)<=o.r-(mi.rk+stI (if o.r<mi.rk then (0:Int) else 1));unfold stI;split<;>split at *<;>omega,by show o.r-(mi.rk+stI (if o.r<mi.rk then (0:Int) else 1))<=((n-1:Nat):Int);unfold stI;split<;>split at *<;>omega⟩,hM,hb3⟩ (by omega)
 refine ex (te (te (xh (tn (sr (asg rfl (nn (rt (r1 results66 rfl ?_)))))))))
 replace hM:=hM0.ext q3
 exact ⟨_,rfl,MRet.ok (by unfold v5q;rw [htu];exact v7k n (show mi.rk=o.r by omega)) hM⟩
theorem j4o (w:World):(zeroValue 139).run prog w=.ok .nilFunc w:=by kernel_rfl
abbrev v5l (F:Nat):Value:=.func (.func F) #[] #[]
def u9h:Int->Option Value:=λk'=>if k'=8 then some (v5l 71) else (if k'=7 then some (v5l 70) else (if k'=6 then some (v5l 69) else (if k'=5 then some (v5l 68) else (if k'=4 then some (v5l 67) else (if k'=3 then some (v5l 66) else (if k'=2 then some (v5l 65) else (if k'=1 then some (v5l 64) else (none))))))))
theorem u2t (w0:World):Rets prog 26 #[] w0 λr w'=>(∃g,r=.map (some g)/\w0.heap.size<=g/\MapF kV w' g u9h)/\Fr [] w0 w':=by
 refine we [] func26 rfl ntmps26 rfl .nil (sr (asg rfl (nn (sr (y4q kV rfl (λg1 w1 hg1 hm q1 z1=>(z2x (V:=kV) (k:=1) rfl rfl rfl hm y4y underlying93 (λw2 hm q2 z2=>(z2x (V:=kV) (k:=2) rfl rfl rfl hm y4y underlying93 (λw3 hm q3 z3=>(z2x (V:=kV) (k:=3) rfl rfl rfl hm y4y underlying93 (λw4 hm q4 z4=>?_))))))))))))
 refine z2x (V:=kV) (k:=4) rfl rfl rfl hm y4y underlying93 (λw5 hm q5 z5=>(z2x (V:=kV) (k:=5) rfl rfl rfl hm y4y underlying93 (λw6 hm q6 z6=>(z2x (V:=kV) (k:=6) rfl rfl rfl hm y4y underlying93 (λw7 hm q7 z7=>(z2x (V:=kV) (k:=7) rfl rfl rfl hm y4y underlying93 (λw8 hm q8 z8=>(z2x (V:=kV) (k:=8) rfl rfl rfl hm y4y underlying93 (λw9 hm q9 z9=>(mv rfl (asg rfl (nn (rt (r1 results26 rfl ?_))))))))))))))
 exact ⟨_,rfl,⟨g1,rfl,by omega,hm⟩,(((q1.z6 q2 q3 q4 q5 q6 q7).z1 q8).z1 q9)⟩
theorem j0o (wS:World) (ka:MA) (m:MQ) (o:MOp) (w0:World) (hM:MkM τd 137 wS ka w0 m) (hi:MInv m.p) (hTS:StT wS) (hc:y9j o=0):∃F:Nat,u9h o.k=some (v5l F)/\CallOf prog F/\Rets prog F #[.pointer (some ⟨ka.gk,0,none⟩),opV o] w0 λr w'=>MRet τd 137 wS ka (opM m.p o) r w':=by
 obtain ⟨hk,hd1,hy,hd2,hn,hr⟩:=y3l hc
 unfold opM
 rcases hk with e|e|e|e|e|e|e|e<;>rw [e] at hd1 hy hd2 hn hr ⊢
 ·exact ⟨_,rfl,(mkC func64),j2v wS ka m o w0 hM (hy (by simp))⟩
 ·exact ⟨_,rfl,(mkC func65),u6d wS ka m o w0 hM (hy (by simp))⟩
 ·exact ⟨_,rfl,(mkC func66),u7p wS ka m o w0 hM hi hTS (hr (by simp))⟩
 ·exact ⟨_,rfl,(mkC func67),u4n wS ka m o w0 hM hi (hy (by simp)) (hn (by simp))⟩
 ·exact ⟨_,rfl,(mkC func68),u5p wS ka m o w0 hM hi (hy (by simp)) (hn (by simp))⟩
 ·exact ⟨_,rfl,(mkC func69),u3e wS ka m o w0 hM hi (hy (by simp)) (hn (by simp))⟩
 ·exact ⟨_,rfl,(mkC func70),u6z wS ka m o w0 hM hi (hn (by simp))⟩
 exact ⟨_,rfl,(mkC func71),u5o wS ka m o w0 hM hi (hn (by simp))⟩
theorem j1z (wS:World) (ka:MA) (m:MQ) (o:MOp) (gl:Nat) (w0:World) (hM:MkM τd 137 wS ka w0 m) (hi:MInv m.p) (hTS:StT wS) (hl:MapF kV w0 gl u9h):Rets prog 27 #[.pointer (some ⟨ka.gk,0,none⟩),.map (some gl),opV o] w0 λr w'=>MRet τd 137 wS ka (doM m.p o) r w':=by
 refine we [(0,.pointer (some ⟨ka.gk,0,none⟩)),(1,.map (some gl)),(2,opV o)] func27 rfl ntmps27 rfl (.c3 rfl rfl rfl) ?_
 have hM0:=hM
 have hl0:=hl
 refine sr (bx rfl rfl rfl (λg5 w1 hg5 hb5 q1 z1=>(asg rfl (nn (sq (sr (z0n rfl hb5 z9j (cl (ev1 rfl) (mkC func21) (y6x _ _) rfl ?_))))))))
 rintro _ w2 ⟨rfl,q2⟩
 refine asg rfl (nn (sr (mv rfl (ne' rfl rfl (nn (cd rfl (λc0=>?_) (λc0=>?_)))))))
 ·refine sr (mv rfl (asg rfl (kpL [(6,_)] (.cons rfl .nil) (nn (rt (tr (r1 results27 rfl ?_)))))))
  replace hM:=hM0.ext (q1.n1 q2)
  exact ⟨_,rfl,MRet.err (by unfold doM;rw [if_pos c0]) c0 hM.fr⟩
 replace hM:=hM0.ext (q1.n1 q2)
 have hc:y9j o=0:=Classical.not_not.1 c0
 have hact:=λw hM=>j0o wS ka m o w hM hi hTS hc
 obtain ⟨F,hF,hco,-⟩:=hact _ hM
 have hrets:∀w,MkM τd 137 wS ka w m->Rets prog F #[.pointer (some ⟨ka.gk,0,none⟩),opV o] w λr w'=>MRet τd 137 wS ka (opM m.p o) r w':=λw hM=>by
  obtain ⟨F',hF',-,h'⟩:=hact w hM
  rw [hF] at hF'
  cases hF'
  exact h'
 refine sk (tn (sr (mv rfl (fad rfl z9g ?_))))
 replace hb5:=hb5.ext q2
 refine z0i rfl hb5 rfl v7t ?_
 replace hl:=hl0.ext (q1.n1 q2)
 refine y7j (V:=kV) (k:=o.k) (f:=u9h) (v:=v5l F) rfl rfl hl y4y underlying93 j4o (by rw [hF];rfl) rfl ?_
 refine mv rfl (z0n rfl hb5 z9j ?_)
 refine clv (us:=[]) (ws:=[]) rfl (ev2 rfl rfl) hco (hrets w2 hM) rfl (by intro g e;cases e) ?_
 rintro v19 w3 hR
 refine asg rfl (kpL [(6,_)] (.cons rfl .nil) (nn (rt (r1 results27 rfl ?_))))
 exact ⟨_,rfl,by rw [show doM m.p o=opM m.p o from if_neg c0];exact hR⟩
end Go.Proofs.YtpgdchkdlgkmgaaGreatDoor
namespace Go.G08
open Go.Lw Go.G21
theorem v6c (l:List Cx) (a b:LId) (n:Int):(y9v l a b n).length<=l.length+1:=by
 unfold y9v;split<;>simp
theorem v6i (l:List Cx) (a b:LId):(v5a l a b).length<=l.length+1:=Nat.le_trans (List.length_filter_le _ _) (by omega)
theorem v6q {l l':List Cx} {c:Cx} (h:x2s l c=.ok l'):l'.length<=l.length+1:=by
 rw [v4h] at h
 split at h
 ·cases h
 split at h
 ·cases h;exact v6i ..
 cases h;exact v6c ..
theorem x0e:∀ {r l l':List Cx},z6a l r=.ok l'->l'.length<=l.length+r.length
 | [],l,l',h=>by cases h;exact Nat.le_refl _
 | c::r,l,l',h=>by
  unfold z6a at h
  split at h
  ·cases h
  rename_i l1 h1
  have:=v6q h1
  have:=x0e h
  simp only [List.length_cons];omega
theorem x9s {B:Bd} (h:BdOk B) (r d:Int):(z4a B r d).length<=640:=Nat.le_trans (y3q h r d) (by have:=h.lb;omega)
theorem v3p {p q:MSt} {d:Int} (h:BdOk p.B) (e:y5c p d=.ok q):q.B=p.B/\q.cr.length<=p.cr.length+640:=by
 unfold y5c at e
 split at e
 ·cases e
 split at e
 ·cases e
 rename_i ys hy cr hc
 cases e
 have:=x0e hc
 have:=x9s h p.rk d
 exact ⟨rfl,by simp only;omega⟩
theorem x1m:∀ {n:Nat} {p q:MSt} {r:Int},BdOk p.B->z8e n p r=.ok q->q.cr.length<=p.cr.length+n*640
 | 0,p,q,r,h,e=>by cases e;omega
 | n+1,p,q,r,h,e=>by
  unfold z8e at e
  split at e
  ·cases e;omega
  split at e
  ·cases e
  rename_i p1 h1
  obtain ⟨hB,hl⟩:=v3p h h1
  have:=x1m (hB▸h) e
  rw [Nat.add_mul];omega
theorem x3z {p q:MSt} {y pl en:Int} (e:y6i p y pl en=.ok q):q.cr=p.cr:=by
 unfold y6i at e;split at e
 ·cases e
 cases e;rfl
theorem v2c {p q:MSt} {o:MOp} {th st:List LId} (e:x4p p o th st=.ok q):q.cr=p.cr:=by
 unfold x4p at e;split at e
 ·cases e
 split at e
 ·cases e
 cases e;rfl
theorem u3c {p q:MSt} {o:MOp} (h:BdOk p.B) (e:opM p o=.ok q):q.cr.length<=p.cr.length+5120:=by
 have s:∀ {x:MSt},x.cr=p.cr->x.cr.length<=p.cr.length+5120:=λhx=>by rw [hx];omega
 unfold opM at e
 split at e
 ·unfold inM at e;split at e
  ·cases e
  cases e;exact s rfl
 split at e
 ·unfold v5i at e;split at e
  ·cases e
  cases e;exact s rfl
 split at e
 ·have:=x1m h e;omega
 split at e
 ·unfold y0u at e;split at e
  ·cases e
  split at e
  ·cases e
  rename_i p1 h1
  exact s ((v2c e).trans (x3z h1))
 split at e
 ·unfold y4o at e;split at e
  ·cases e
  split at e
  ·cases e
  rename_i p1 h1
  split at e
  ·cases e
  exact s ((v2c e).trans (x3z h1))
 split at e
 ·unfold x0y at e;split at e
  ·cases e
  exact s (x3z e)
 split at e
 ·unfold z7t at e
  repeat (split at e;· cases e)
  cases e;exact s rfl
 unfold y8m at e;split at e
 ·cases e
 cases e;exact s rfl
theorem x6d:∀ {l:List MOp} {i:Nat} {p q:MSt},MInv p->z4p i p l=.ok q->q.cr.length<=p.cr.length+l.length*5120
 | [],i,p,q,h,e=>by cases e;simp
 | o::l,i,p,q,h,e=>by
  unfold z4p at e
  split at e
  ·cases e
  rename_i p1 h1
  have hi:=v4v h h1
  have h2:=x6d hi e
  have h3:p1.cr.length<=p.cr.length+5120:=by
   unfold doM at h1
   split at h1
   ·cases h1
   exact u3c h.B h1
  rw [List.length_cons,Nat.add_mul];omega
theorem z6u {a b:LId}:z6m a b<0↔a.y<b.y\/a.y=b.y/\a.n<b.n:=by
 unfold z6m;(repeat' split)<;>constructor<;>intro h<;>omega
theorem y4w {a b:LId}:z6m a b=0↔a=b:=by
 obtain ⟨ay,an⟩:=a;obtain ⟨by_,bn⟩:=b
 rw [LId.mk.injEq]
 unfold z6m;dsimp only;(repeat' split)<;>constructor<;>intro h<;>omega
theorem y3t {T T':Tb} {l:Lp} (h:y4r T l) (hs:∀i,z4b T i->z4b T' i):y4r T' l:=⟨h.1,h.2.1,λi hi=>hs i (h.2.2.1 i hi),h.2.2.2⟩
theorem y8f {T:Tb} (h6:T.length=6) {i:LId} (h:z4b T i):∃y n:Nat,y<6/\n<z2t T y/\i=⟨(y:Int)+1,(n:Int)⟩:=by
 obtain ⟨h1,h2,h3,h4⟩:=h
 obtain ⟨iy,ik⟩:=i
 simp only at h1 h2 h3 h4
 exact ⟨(iy-1).toNat,ik.toNat,by omega,by omega,by rw [show (((iy-1).toNat:Nat):Int)+1=iy by omega,show ((ik.toNat:Nat):Int)=ik by omega]⟩
theorem y2p {T:Tb} {j:Nat} (h6:T.length=6) (hj:j<6) {l:Lp} {i:LId}:z4b (T.set j (T.getD j []++[l])) i↔z4b T i\/i=⟨(j:Int)+1,(z2t T j:Int)⟩:=by
 have hjT:j<T.length:=by omega
 constructor
 ·intro h
  obtain ⟨y,n,hy,hn,rfl⟩:=y8f (by rw [List.length_set];exact h6) h
  rw [z8z hjT] at hn
  by_cases e:j=y
  ·subst e
   rw [if_pos rfl,List.length_append,List.length_singleton,show (T.getD j []).length=z2t T j from rfl] at hn
   by_cases e2:n<z2t T j
   ·exact .inl (z7p hjT e2)
   exact .inr (by rw [show n=z2t T j by omega])
  rw [if_neg e] at hn;exact .inl (z7p (by omega) hn)
 rintro (h|rfl)
 ·exact y8x hjT h
 exact z7p (by rw [List.length_set];exact hjT) (by rw [z8z hjT,if_pos rfl,List.length_append,List.length_singleton];exact Nat.lt_succ_self _)
structure TabR (T:Tb) (rk:LId->Nat):Prop where
  six:T.length=6
  rts:∀y,y<6->∀n,n<z2t T y->y4r T (lpA T y n)/\(n=0->(lpA T y n).nw=true)
  rkd:Ranked T rk
  top:∀i,z4b T i->rk i<z4o T
theorem TabR.add {T:Tb} {rk:LId->Nat} (h:TabR T rk) {j:Nat} (hj:j<6) {l:Lp} (hr:y4r T l) (h0:z2t T j=0->l.nw=true) :
    TabR (T.set j (T.getD j []++[l])) (rkX rk j (z2t T j) (z4o T)):=by
  have h6:=h.six
  have hjT:j<T.length:=by omega
  have hcnt:z4o (T.set j (T.getD j []++[l]))=z4o T+1:=by
    have:=y9d T j (T.getD j []++[l]) hjT
    rw [List.length_append,List.length_singleton,show (T.getD j []).length=z2t T j from rfl] at this
    omega
  have hold:∀i,z4b T i->rkX rk j (z2t T j) (z4o T) i=rk i:=λi hi=>by
    obtain ⟨y,n,hy,hn,rfl⟩:=y8f h6 hi
    unfold rkX
    rw [if_neg]
    rintro ⟨e1,e2⟩
    simp only at e1 e2
    have:y=j:=by omega
    subst this;omega
  have hnew:rkX rk j (z2t T j) (z4o T) ⟨(j:Int)+1,(z2t T j:Int)⟩=z4o T:=by
    unfold rkX
    rw [if_pos ⟨rfl,by simp⟩]
    show z4o T+((z2t T j:Int)-(z2t T j:Int)).toNat=z4o T
    omega
  have hm:∀i,z4b T i->z4b (T.set j (T.getD j []++[l])) i:=λi hi=>(y2p h6 hj).2 (.inl hi)
  -- an old loop,or the new one
  have hnm:∀y,y<6->∀n,n<z2t (T.set j (T.getD j []++[l])) y->(n<z2t T y/\lpA (T.set j (T.getD j []++[l])) y n=lpA T y n)\/(y=j/\n=z2t T j/\lpA (T.set j (T.getD j []++[l])) y n=l):=λy hy n hn=>by
    rw [z8z hjT] at hn
    rw [u4f hjT]
    by_cases e:j=y
    · subst e
      rw [if_pos rfl,List.length_append,List.length_singleton,show (T.getD j []).length=z2t T j from rfl] at hn
      rw [if_pos rfl]
      by_cases e2:n<z2t T j
      · exact .inl ⟨e2,if_pos e2⟩
      · obtain rfl:n=z2t T j:=by omega
        exact .inr ⟨rfl,rfl,by rw [if_neg e2,Nat.sub_self];rfl⟩
    · rw [if_neg e] at hn
      exact .inl ⟨hn,by rw [if_neg e]⟩
  have hp:∀ {y n:Nat},y<6->n<z2t T y->z4b T ⟨(y:Int)+1,(n:Int)⟩:=λhy hn=>z7p (by omega) hn
  refine ⟨by rw [List.length_set];exact h6,λy hy n hn=>?_,⟨λy hy n hn i hi=>?_,λy hy n m hnm2 hm2=>?_⟩,λi hi=>?_⟩
  · rcases hnm y hy n hn with ⟨k,e⟩|⟨rfl,rfl,e⟩
    · rw [e];exact ⟨y3t (h.rts y hy n k).1 hm,(h.rts y hy n k).2⟩
    · rw [e];exact ⟨y3t hr hm,h0⟩
  · rcases hnm y hy n hn with ⟨k,e⟩|⟨rfl,rfl,e⟩
    · rw [e] at hi
      rw [hold _ (hp hy k),hold _ ((h.rts y hy n k).1.2.2.1 i hi)]
      exact h.rkd.need y hy n k i hi
    · rw [e] at hi
      rw [hnew,hold _ (hr.2.2.1 i hi)]
      exact h.top i (hr.2.2.1 i hi)
  · rcases hnm y hy m hm2 with ⟨k,_⟩|⟨rfl,rfl,_⟩
    · rw [hold _ (hp hy k),hold _ (hp hy (show n<z2t T y by omega))]
      exact h.rkd.mono y hy n m hnm2 k
    · rw [hnew,hold _ (hp hy hnm2)]
      exact h.top _ (hp hy hnm2)
  · rw [hcnt]
    rcases (y2p h6 hj).1 hi with k|rfl
    · rw [hold _ k];have:=h.top i k;omega
    · rw [hnew];omega
theorem v9i {T:Tb} {j:Nat} (hj:j<T.length) (l:Lp) (i:LId):(y0v (T.set j (T.getD j []++[l]))).count i=(y0v T).count i+l.th.count i:=by
 have h:=z7x x5a T j [] (T.getD j []++[l]) i hj
 have e:x5a (T.getD j []++[l])=x5a (T.getD j [])++l.th:=by unfold x5a;simp
 unfold y0v
 rw [e,List.count_append] at h
 omega
theorem x7d {T:Tb} {rk:LId->Nat} (h:TabR T rk) {i:LId} (hi:i∈y0v T):z4b T i:=by
 unfold y0v at hi
 obtain ⟨r,hr,hi⟩:=List.mem_flatMap.1 hi
 unfold x5a at hi
 obtain ⟨l,hl,hi⟩:=List.mem_flatMap.1 hi
 obtain ⟨y,hy,rfl⟩:=List.getElem_of_mem hr
 obtain ⟨n,hn,rfl⟩:=List.getElem_of_mem hl
 have ey:T.getD y []=T[y]:=by rw [List.getD,List.getElem?_eq_getElem hy];rfl
 have en:lpA T y n=T[y][n]:=by unfold lpA;rw [ey,List.getD,List.getElem?_eq_getElem hn];rfl
 have h6:=h.six
 have:=(h.rts y (by omega) n (by unfold z2t;rw [ey];exact hn)).1.2.2.1 i (by rw [en];exact List.mem_append_left _ hi)
 exact this
theorem v1c {T:Tb} {st:List Pa} {p:Pa} (h:∀q∈st,z4b T q.id) (hp:z4b T p.id):∀q∈z9t st p,z4b T q.id:=by
 unfold z9t
 split
 ·exact λq hq=>h q (List.mem_of_mem_take hq)
 intro q hq
 rcases List.mem_append.1 hq with k|k
 ·exact h q k
 rw [List.mem_singleton.1 k];exact hp
theorem x2h {T:Tb}:∀ {l st:List Pa},(∀q∈st,z4b T q.id)->(∀q∈l,z4b T q.id)->∀q∈z4n st l,z4b T q.id
 | [],_,h,_=>h
 | p::l,st,h,hl=>x2h (l:=l) (v1c h (hl p (by simp))) (λq hq=>hl q (List.mem_cons_of_mem _ hq))
theorem x0s:∀(l st:List Pa),y5g (st++l)->z4n st l=st++l
 | [],st,_=>by simp [z4n]
 | p::l,st,h=>by
  have e1:z9t st p=st++[p]:=by
   unfold z9t
   rw [if_neg]
   rintro ⟨h0,hc⟩
   have h2:=(h st.length (by simp)).2 h0
   have ea:(st++p::l).getD (st.length-1) pa0=st.getD (st.length-1) pa0:=by
    rw [List.getD,List.getElem?_append_left (by omega),List.getD]
   have eb:(st++p::l).getD st.length pa0=p:=by simp [List.getD]
   rw [ea,eb] at h2
   exact h2 hc
  show z4n (z9t st p) l=_
  rw [e1,x0s l (st++[p]) (by simpa using h)]
  simp
theorem u2i {l:List Pa} (h:y5g l):(z4n [] l).length=l.length:=by rw [x0s l [] (by simpa using h)];rfl
theorem v0g {l:List Pa} (h:y5g l):∀p∈l,z5q p.d:=λp hp=>by
 obtain ⟨i,hi,rfl⟩:=List.getElem_of_mem hp
 have:=(h i hi).1.2
 rwa [List.getD,List.getElem?_eq_getElem hi] at this
theorem x1i (h:Hd):∀l:List Hd,(y0y h l).Perm (h::l)
 | []=>.refl _
 | x::l=>by
  unfold y0y
  split
  ·exact .refl _
  exact ((x1i h l).cons x).trans (.swap h x l)
theorem v4p (l:List Hd):(z4z l).Perm l:=by
 have h:∀(l st:List Hd),(l.foldl (λa h=>y0y h a) st).Perm (st++l):=by
  intro l
  induction l with
  | nil=>intro st;simp
  | cons x l ih=>
   intro st
   show (l.foldl _ (y0y x st)).Perm _
   exact (ih _).trans (((x1i x st).append_right l).trans (by simpa using (List.perm_middle (a:=x) (l₁:=st) (l₂:=l)).symm))
 have e:=h l []
 rw [List.nil_append] at e
 exact e
theorem y6t (B:Bd) (r:Int):(z2n B r).Perm (v3j B r):=v4p _
theorem v4r (b r:Int) (l:Bed):(hds b r l l.length).map Hd.id=l.flatten:=by
 have h:∀i,i<=l.length->(hds b r l i).map Hd.id=(l.take i).flatten:=by
  intro i
  induction i with
  | zero=>intro _;simp [hds]
  | succ i ih=>
   intro hi
   rw [y7x,List.map_append,ih (by omega),List.take_add_one,List.flatten_append,List.getElem?_eq_getElem (by omega),List.getD,List.getElem?_eq_getElem (by omega)]
   simp [hdS,Function.comp_def]
 rw [h _ (Nat.le_refl _),List.take_length]
theorem y2r (B:Bd) (r:Int):((z2n B r).map Hd.id).Perm B.flat:=by
 refine ((y6t B r).map _).trans ?_
 unfold v3j Bd.flat
 rw [List.map_append,v4r,v4r]
theorem u2w {B:Bd} {r f t:Int} {q:Pa} (h:q∈btw (z2n B r) f t):q.id∈B.flat:=by
 have key:∀x∈z2n B r,x.id∈B.flat:=λx hx=>(y2r B r).mem_iff.1 (List.mem_map_of_mem hx)
 unfold btw at h
 split at h
 ·obtain ⟨x,hx,rfl⟩:=List.mem_map.1 h
  exact key x (List.mem_filter.1 hx).1
 obtain ⟨x,hx,rfl⟩:=List.mem_map.1 (List.mem_reverse.1 h)
 exact key x (List.mem_filter.1 hx).1
theorem x7k {B:Bd} {k:Nat} {x:LId} (h:x∈B.b.getD k []):x∈B.b.flatten:=by
 by_cases e:k<B.b.length
 ·rw [List.getD,List.getElem?_eq_getElem e] at h
  exact List.mem_flatten.2 ⟨_,List.getElem_mem e,h⟩
 rw [List.getD,List.getElem?_eq_none (by omega)] at h;cases h
theorem x1n {B:Bd} {r d p:Int} {i:Nat} {q:Pa} (h:q∈y4z B r d p i):q.id∈B.flat:=by
 unfold y4z at h
 obtain ⟨k,_,h⟩:=List.mem_flatMap.1 h
 unfold x2n at h
 split at h
 ·cases h
 obtain ⟨x,hx,rfl⟩:=List.mem_map.1 h
 exact List.mem_append_right _ (x7k hx)
theorem v4f {B:Bd} {r d p:Int} {q:Pa} (h:q∈z6o B r d p):q.id∈B.flat:=by
 unfold z6o at h
 split at h
 ·exact x1n (List.mem_reverse.1 h)
 exact x1n h
theorem v4d {B:Bd} {n:Int} {x:LId} (h:x∈B.atC 0 n):x∈B.f.flatten:=by
 unfold Bd.atC at h
 split at h
 ·unfold Bd.at at h
  rw [if_pos rfl] at h
  have hne:atB B.f n≠[]:=λe=>by rw [e] at h;cases h
  exact List.mem_flatten.2 ⟨_,v4k hne,h⟩
 cases h
theorem x6s {B:Bd} {r d:Int} {i:Nat} {c:Cx} (hn:B.flat.Nodup) (h:c∈x8f B r d i):c.a∈B.flat/\c.b∈B.flat/\c.a≠c.b/\(c.n=1\/c.n = -1):=by
 unfold x8f at h
 obtain ⟨k,_,h⟩:=List.mem_flatMap.1 h
 unfold u1l at h
 obtain ⟨x,hx,h⟩:=List.mem_flatMap.1 h
 obtain ⟨o,ho,rfl⟩:=List.mem_map.1 h
 have h1:x∈B.b.flatten:=x7k hx
 have h2:o∈B.f.flatten:=v4d (List.mem_reverse.1 ho)
 have hne:o≠x:=(List.nodup_append.1 hn).2.2 o h2 x h1
 unfold x4w
 split
 ·exact ⟨List.mem_append_left _ h2,List.mem_append_right _ h1,hne,.inl rfl⟩
 exact ⟨List.mem_append_right _ h1,List.mem_append_left _ h2,hne.symm,.inr rfl⟩
theorem v2r {B:Bd} {r d:Int} {c:Cx} (hn:B.flat.Nodup) (h:c∈z4a B r d):c.a∈B.flat/\c.b∈B.flat/\c.a≠c.b/\(c.n=1\/c.n = -1):=by
 unfold z4a at h
 split at h
 ·exact x6s hn (List.mem_reverse.1 h)
 exact x6s hn h
structure CrsOk (T:Tb) (l:List Cx):Prop where
  has:∀c∈l,z4b T c.a/\z4b T c.b/\z6m c.a c.b<0/\(-1048576<=c.n/\c.n<=1048576)/\c.n≠0
  nd:(l.map λc=>(c.a,c.b)).Nodup
theorem CrsOk.mono {T T':Tb} {l:List Cx} (h:CrsOk T l) (hs:∀i,z4b T i->z4b T' i):CrsOk T' l:=⟨λc hc=>⟨hs _ (h.has c hc).1,hs _ (h.has c hc).2.1,(h.has c hc).2.2⟩,h.nd⟩
theorem v8i {l:List Cx} {a b:LId} {n:Int} (h:l.any (isC a b)=true):(y9v l a b n).map (λc=>(c.a,c.b))=l.map λc=>(c.a,c.b):=by
 unfold y9v
 rw [if_pos h,List.map_map]
 refine List.map_congr_left λc _=>?_
 simp only [Function.comp_apply]
 split
 ·rename_i e;obtain ⟨e1,e2⟩:=z7q.1 e;rw [e1,e2]
 rfl
theorem v7b {l:List Cx} {a b:LId} {n:Int} {c:Cx} (h:c∈y9v l a b n):c=⟨a,b,n⟩\/c∈l:=by
 unfold y9v at h
 split at h
 ·obtain ⟨z,hz,rfl⟩:=List.mem_map.1 h
  split
  ·exact .inl rfl
  exact .inr hz
 rcases List.mem_append.1 h with k|k
 ·exact .inr k
 exact .inl (List.mem_singleton.1 k)
theorem v7y {a b:LId} (h:a≠b) (h2:¬0<z6m a b):z6m a b<0:=by
 have:=mt y4w.1 h
 omega
theorem v1v {a b:LId} (h:0<z6m a b):z6m b a<0:=by
 rw [z6u]
 unfold z6m at h
 (repeat' split at h)<;>omega
theorem CrsOk.add {T:Tb} {l l':List Cx} {c:Cx} (h:CrsOk T l) (ha:z4b T c.a) (hb:z4b T c.b) (hne:c.a≠c.b) (e:x2s l c=.ok l'):CrsOk T l':=by
 unfold x2s at e
 dsimp only at e
 obtain ⟨a,b,hk,h1,h2,h3⟩:∃a b,(if 0<z6m c.a c.b then (c.b,c.a) else (c.a,c.b))=(a,b)/\z4b T a/\z4b T b/\z6m a b<0:=by
  split
  ·rename_i k;exact ⟨_,_,rfl,hb,ha,v1v k⟩
  rename_i k;exact ⟨_,_,rfl,ha,hb,v7y hne k⟩
 rw [hk] at e
 split at e
 ·cases e
 rename_i hr
 split at e
 ·cases e
  exact ⟨λx hx=>h.has x (List.mem_filter.1 hx).1,h.nd.sublist (List.filter_sublist.map _)⟩
 rename_i h0
 cases e
 dsimp only at hr h0 ⊢
 refine ⟨λx hx=>?_,?_⟩
 ·rcases v7b hx with rfl|k
  ·exact ⟨h1,h2,h3,by dsimp only;omega,h0⟩
  exact h.has x k
 by_cases k:l.any (isC a b)=true
 ·rw [v8i k];exact h.nd
 unfold y9v
 rw [if_neg k,List.map_append,List.map_singleton,List.nodup_append]
 refine ⟨h.nd,by simp,λx hx y hy=>?_⟩
 obtain ⟨z,hz,rfl⟩:=List.mem_map.1 hx
 rw [List.mem_singleton.1 hy]
 intro ee
 have e1:=congrArg Prod.fst ee
 have e2:=congrArg Prod.snd ee
 exact k (List.any_eq_true.2 ⟨z,hz,z7q.2 ⟨e1,e2⟩⟩)
theorem CrsOk.adds {T:Tb}:∀ {r l l':List Cx},CrsOk T l->(∀c∈r,z4b T c.a/\z4b T c.b/\c.a≠c.b)->z6a l r=.ok l'->CrsOk T l'
 | [],l,l',h,_,e=>by cases e;exact h
 | c::r,l,l',h,hr,e=>by
  unfold z6a at e
  split at e
  ·cases e
  rename_i l2 h2
  have hc:=hr c (by simp)
  exact CrsOk.adds (h.add hc.1 hc.2.1 hc.2.2 h2) (λx hx=>hr x (List.mem_cons_of_mem _ hx)) e
def YnV (T:Tb) (y:Yn):Prop:=(∀q∈y.pe,z4b T q.id)/\(y.inn=true->y.ct=0->y.nw=true)
structure MVal (p:MSt):Prop where
  inv:MInv p
  yv:∀k,k<6->YnV p.tb (p.ys.getD k yn0)
  tab:∃rk,TabR p.tb rk
  once:∀i,z4b p.tb i->(p.B.flat++p.fa++y0v p.tb).count i=1
  fa:∀i∈p.fa,z4b p.tb i
  cr:CrsOk p.tb p.cr
theorem z9w:MVal start:=by
 have hn:∀y,z2t start.tb y=0:=λy=>by
  simp only [start,z2t,List.getD,List.getElem?_replicate];split<;>rfl
 have hh:∀i,¬z4b start.tb i:=λi hi=>by
  obtain ⟨_,_,h3,h4⟩:=hi
  rw [hn] at h4;omega
 refine ⟨y0p,λk hk=>?_,⟨λ_=>0,rfl,λy hy n h=>by rw [hn] at h;omega,⟨λy hy n h=>by rw [hn] at h;omega,λy hy n m h h2=>by rw [hn] at h2;omega⟩,λi hi=>absurd hi (hh i)⟩,λi hi=>absurd hi (hh i),(by intro i hi;cases hi),⟨(by intro c hc;cases hc),by simp [start]⟩⟩
 have:start.ys.getD k yn0=yn0:=by
  simp only [start,List.getD,List.getElem?_replicate];split<;>rfl
 rw [this]
 exact ⟨(by intro q hq;cases hq),(by intro h;cases h)⟩
theorem y8b {p:MSt} {y:Int} {q:Yn} (h:MVal p) (hi:MInv (p.setY y q)) (hy:1<=y/\y<=6) (hq:YnV p.tb q):MVal (p.setY y q):=by
 have hl:(y-1).toNat<p.ys.length:=by rw [h.inv.ly];omega
 refine ⟨hi,λk hk=>?_,h.tab,h.once,h.fa,h.cr⟩
 show YnV p.tb ((p.ys.set (y-1).toNat q).getD k yn0)
 rw [z1g hl]
 split
 ·exact hq
 exact h.yv k hk
theorem u9r {p:MSt} (h:MVal p) {y:Int} (hy:1<=y/\y<=6):YnV p.tb (p.y y):=h.yv (y-1).toNat (by omega)
theorem go_v {T:Tb} {y:Yn} {pl:Int} {l:List Pa} (h:YnV T y) (hl:∀q∈l,z4b T q.id):YnV T (goS y pl l):=⟨x2h h.1 hl,h.2⟩
theorem x4s {p q:MSt} {y pl en:Int} (h:MVal p) (hy:1<=y/\y<=6) (e:y6i p y pl en=.ok q):MVal q/\q.B=p.B/\q.rk=p.rk:=by
 have hi:=y1k h.inv hy e
 refine ⟨?_,hi.2⟩
 unfold y6i at e
 split at e
 ·cases e
 cases e
 exact y8b h hi.1 hy (go_v (u9r h hy) λq hq=>h.inv.has _ (u2w hq))
theorem x9p {p q:MSt} {o:MOp} {th st:List LId} (h:MVal p) (hi:MInv q) (hy:1<=o.y/\o.y<=6) (hn:z3d o.b o.p=0) (hs:th++st=p.B.at o.b o.p) (h4:th.length<=4) (e:x4p p o th st=.ok q):MVal q:=by
 unfold x4p at e
 split at e
 ·cases e
 rename_i hm
 split at e
 ·cases e
 cases e
 have hm:=Classical.not_not.1 hm
 obtain ⟨j,hj,hoy⟩:∃j:Nat,j<6/\o.y=(j:Int)+1:=⟨(o.y-1).toNat,by omega,by omega⟩
 have hjy:(o.y-1).toNat=j:=by omega
 have hyn:=h.inv.yn j hj
 have hyp:p.y o.y=p.ys.getD j yn0:=by unfold MSt.y;rw [hjy]
 rw [<-hyp] at hyn
 have hyv:=u9r h hy
 have hly:j<p.ys.length:=by rw [h.inv.ly];exact hj
 have hlt:j<p.tb.length:=by rw [h.inv.lt];exact hj
 have hin:(p.y o.y).inn=true:=by
  unfold mkE at hm
  split at hm
  ·exact absurd hm (by assumption)
  split at hm
  ·omega
  rename_i k;simpa using k
 have hpe:=hyn.1.2
 rw [if_pos hin] at hpe
 have hrow:p.row o.y=p.tb.getD j []:=by unfold MSt.row;rw [hjy]
 simp only [hjy,hrow] at hi ⊢
 obtain ⟨rk,ht⟩:=h.tab
 have h6:=h.inv.lt
 have hth:∀i∈th,z4b p.tb i:=λi hi=>h.inv.has i (z9l (b:=o.b) (n:=o.p) (by rw [<-hs];exact List.mem_append_left _ hi))
 have hrt:y4r p.tb ⟨o.b,(p.y o.y).nw,th,(p.y o.y).pe⟩:=by
  refine ⟨(z2v hn).1,⟨h4,hpe.2.1⟩,λi hi=>?_,v0g hpe.2.2,u2i hpe.2.2⟩
  rcases List.mem_append.1 hi with k|k
  ·exact hth i k
  obtain ⟨q,hq,rfl⟩:=List.mem_map.1 k
  exact hyv.1 q hq
 have hmo:∀ {l:Lp} (i:LId),z4b p.tb i->z4b (p.tb.set j (p.tb.getD j []++[l])) i:=λi hi=>(y2p h6 hj).2 (.inl hi)
 refine ⟨hi,λk hk=>?_,⟨_,ht.add hj hrt (λe0=>hyv.2 hin (by rw [hyn.2,e0];rfl))⟩,λi hi=>?_,λi hi=>hmo i (h.fa i hi),h.cr.mono hmo⟩
 ·show YnV (p.tb.set j _) ((p.ys.set j (mkS (p.y o.y))).getD k yn0)
  rw [z1g hly]
  split
  ·refine ⟨(by intro q hq;cases hq),λ_ h0=>?_⟩
   have h1:(p.y o.y).ct+1=0:=h0
   have:=hyn.1.1
   omega
  exact ⟨λq hq=>hmo _ ((h.yv k hk).1 q hq),(h.yv k hk).2⟩
 show ((p.B.put o.b o.p (st++[⟨o.y,(p.y o.y).ct⟩])).flat++p.fa++y0v (p.tb.set j (p.tb.getD j []++[_]))).count i=1
 rw [List.count_append,List.count_append,v9i hlt]
 have h1:=z4d p.B hn (st++[⟨o.y,(p.y o.y).ct⟩]) i
 have h2:th.count i+st.count i=(p.B.at o.b o.p).count i:=by rw [<-hs,List.count_append]
 rw [List.count_append,List.count_singleton] at h1
 dsimp only
 rcases (y2p h6 hj).1 hi with k|k
 ·have h3:=h.once i k
  rw [List.count_append,List.count_append] at h3
  have hne:¬((⟨o.y,(p.y o.y).ct⟩:LId) == i)=true:=by
   intro ee
   have ee:(⟨o.y,(p.y o.y).ct⟩:LId)=i:=by simpa using ee
   obtain ⟨_,_,_,k4⟩:=k
   rw [<-ee] at k4
   simp only at k4
   rw [hjy,hyn.2] at k4
   omega
  rw [if_neg hne] at h1
  omega
 have hno:¬z4b p.tb i:=λk4=>by
  rw [k] at k4
  obtain ⟨_,_,_,k4⟩:=k4
  simp only at k4
  rw [show ((j:Int)+1-1).toNat=j by omega] at k4
  omega
 have z1:p.B.flat.count i=0:=List.count_eq_zero.2 λz=>hno (h.inv.has i z)
 have z2:p.fa.count i=0:=List.count_eq_zero.2 λz=>hno (h.fa i z)
 have z3:(y0v p.tb).count i=0:=List.count_eq_zero.2 λz=>hno (x7d ht z)
 have z4:th.count i=0:=List.count_eq_zero.2 λz=>hno (hth i z)
 have z5:(p.B.at o.b o.p).count i=0:=List.count_eq_zero.2 λz=>hno (h.inv.has i (z9l z))
 have hee:((⟨o.y,(p.y o.y).ct⟩:LId) == i)=true:=by rw [k,hyn.2,hoy];simp
 rw [if_pos hee] at h1
 omega
theorem y5x {p:MSt} {d:Int}:∀ {l l':List Yn},z6c p d l=.ok l'->MVal p->∀k,YnV p.tb (l.getD k yn0)->YnV p.tb (l'.getD k yn0)
 | [],l',e,_,k,hk=>by cases e;exact hk
 | y::l,l',e,h,k,hk=>by
  unfold z6c at e
  split at e
  ·cases e
  rename_i y' hy
  split at e
  ·cases e
  rename_i l2 hl
  cases e
  cases k with
  | succ k=>simpa only [List.getD_cons_succ] using y5x hl h k (by simpa only [List.getD_cons_succ] using hk)
  | zero=>
   simp only [List.getD_cons_zero] at hk ⊢
   unfold z8k at hy
   split at hy
   ·cases hy;exact hk
   split at hy
   ·cases hy
   cases hy
   exact go_v hk λq hq=>h.inv.has _ (v4f hq)
theorem x9h {p q:MSt} {d:Int} (h:MVal p) (hd:-4<=p.rk+stI d/\p.rk+stI d<=4) (e:y5c p d=.ok q):MVal q:=by
 have hi:=(y7o h.inv hd e).1
 unfold y5c at e
 split at e
 ·cases e
 rename_i ys hys
 split at e
 ·cases e
 rename_i cr hcr
 cases e
 refine ⟨hi,λk hk=>y5x hys h k (h.yv k hk),h.tab,h.once,h.fa,h.cr.adds (λc hc=>?_) hcr⟩
 obtain ⟨k1,k2,k3,_⟩:=v2r h.inv.B.nd hc
 exact ⟨h.inv.has _ k1,h.inv.has _ k2,k3⟩
theorem x2j {r:Int} (hr:-4<=r/\r<=4):∀ {n:Nat} {p q:MSt},MVal p->z8e n p r=.ok q->MVal q
 | 0,p,q,h,e=>by cases e;exact h
 | n+1,p,q,h,e=>by
  unfold z8e at e
  split at e
  ·cases e;exact h
  rename_i hne
  split at e
  ·cases e
  rename_i p2 h2
  have hk:=h.inv.rk
  refine x2j hr (x9h h ?_ h2) e
  unfold stI
  split<;>split<;>omega
theorem v6p {p q:MSt} {o:MOp} (h:MVal p) (hi:MInv q) (hn:z3d o.b o.p=0) (e:z7t p o=.ok q):MVal q:=by
 unfold z7t at e
 split at e
 ·cases e
 split at e
 ·cases e
 rename_i hno
 have hno:=Classical.not_not.1 hno
 split at e
 ·cases e
 split at e
 ·cases e
 cases e
 refine ⟨hi,h.yv,h.tab,λi hh=>?_,h.fa,h.cr⟩
 have hb:=(z2v hn).1
 have hc:=y4b (p:=p) (o:=o) hb i
 have hat:(p.B.put o.b o.p []).at (1-o.b) (z5z o.b o.p p.rk)=p.B.at (1-o.b) (z5z o.b o.p p.rk):=by
  rw [x4q p.B hn hno,if_neg (by omega)]
 have h1:=z4d p.B hn [] i
 have h2:=z4d (p.B.put o.b o.p []) hno (z9f p o) i
 have h3:=h.once i hh
 rw [hat] at h2
 show (((p.B.put o.b o.p []).put (1-o.b) (z5z o.b o.p p.rk) (z9f p o)).flat++p.fa++y0v p.tb).count i=1
 simp only [List.count_append] at h3 ⊢
 simp only [List.count_nil] at h1
 omega
theorem v9h {p q:MSt} {o:MOp} (h:MVal p) (hi:MInv q) (hn:z3d o.b o.p=0) (e:y8m p o=.ok q):MVal q:=by
 unfold y8m at e
 split at e
 ·cases e
 cases e
 refine ⟨hi,h.yv,h.tab,λi hh=>?_,λi hh=>?_,h.cr⟩
 ·have h1:=z4d p.B hn [] i
  have h3:=h.once i hh
  show ((p.B.put o.b o.p []).flat++(p.fa++p.B.at o.b o.p)++y0v p.tb).count i=1
  simp only [List.count_append] at h3 ⊢
  simp only [List.count_nil] at h1
  omega
 rcases List.mem_append.1 hh with k|k
 ·exact h.fa i k
 exact h.inv.has i (z9l k)
theorem j0j {p q:MSt} {o:MOp} (h:MVal p) (e:doM p o=.ok q):MVal q:=by
 have hi:=v4v h.inv e
 unfold doM at e
 split at e
 ·cases e
 rename_i hc
 obtain ⟨_,h1,h2,h3,h4,h5⟩:=y3l (Classical.not_not.1 hc)
 unfold opM at e
 split at e
 ·have hy:=h2 (by omega)
  unfold inM at e
  split at e
  ·cases e
  cases e
  exact y8b h hi hy ⟨(by intro q hq;cases hq),λ_ _=>rfl⟩
 split at e
 ·have hy:=h2 (by omega)
  unfold v5i at e
  split at e
  ·cases e
  cases e
  exact y8b h hi hy ⟨(by intro q hq;cases hq),(by intro k;cases k)⟩
 split at e
 ·exact x2j (h5 (by omega)) h e
 split at e
 ·have hy:=h2 (by omega)
  have hn:=h4 (by omega)
  unfold y0u at e
  split at e
  ·cases e
  split at e
  ·cases e
  rename_i r hr
  obtain ⟨v1,v2,v3⟩:=x4s h hy hr
  exact x9p v1 hi hy hn (by simp) (y4t v1.inv.B _ _) e
 split at e
 ·have hy:=h2 (by omega)
  have hn:=h4 (by omega)
  unfold y4o at e
  split at e
  ·cases e
  split at e
  ·cases e
  rename_i r hr
  obtain ⟨v1,v2,v3⟩:=x4s h hy hr
  split at e
  ·cases e
  exact x9p v1 hi hy hn (by simp) (by simp) e
 split at e
 ·have hy:=h2 (by omega)
  unfold x0y at e
  split at e
  ·cases e
  exact (x4s h hy e).1
 split at e
 ·exact v6p h hi (h4 (by omega)) e
 exact v9h h hi (h4 (by omega)) e
theorem y4j:∀ {l:List MOp} {i:Nat} {p q:MSt},MVal p->z4p i p l=.ok q->MVal q
 | [],i,p,q,h,e=>by cases e;exact h
 | o::l,i,p,q,h,e=>by
  unfold z4p at e
  split at e
  ·cases e
  rename_i p2 h2
  exact y4j (j0j h h2) e
structure StQ where
  rk:Int
  q:BdQ
  yv:SV
  ys:List YQ
  fb:FbQ
structure St where
  rk:Int
  B:Bd
  ys:List Yn
  fb:Fb
abbrev StQ.p (s:StQ):St:=⟨s.rk,s.q.p,s.ys.map YQ.p,s.fb.p⟩
def YsA (w:World) (ys:List YQ):Prop:=∀i,Sl z1t w (slv (ys.getD i yq0).pe) (ys.getD i yq0).pes
theorem YsA.ext {w w':World} {ys:List YQ} (h:YsA w ys) (hf:Fr [] w w'):YsA w' ys:=λi=>(h i).ext hf
structure StAt (w:World) (s:StQ):Prop where
  b:BdAt w s.q
  y:Sl z2s w (slv s.yv) s.ys
  ya:YsA w s.ys
  f:FbAt w s.fb
theorem StAt.ext {w w':World} {s:StQ} (h:StAt w s) (hf:Fr [] w w'):StAt w' s:=⟨h.b.ext hf,h.y.ext hf,h.ya.ext hf,h.f.ext hf⟩
theorem v6w {κ:Type} [DecidableEq κ] {V:κ->Value} {w:World} {g:Nat} (h:MapF V w g λ_=>none):MapL V w g []:=by
 obtain ⟨es,c,m,h1,h2,h3⟩:=h
 have hm:m=[]:=by
  cases m with
  | nil=>rfl
  | cons p m=>have:=h3 p.1;simp [z2i] at this
 subst hm
 have he:es.toList=[]:=List.map_eq_nil_iff.1 h2
 refine ⟨es,c,h1,by rw [he];rfl,by simp,by rw [he];simp,λe hm=>by rw [he] at hm;cases hm⟩
theorem x1h {κ:Type} [DecidableEq κ] {m:List (κ×Value)} {k:κ} {v:Value} (h:k∉m.map (·.1)):z3n m k v=m++[(k,v)]:=by
 unfold z3n
 have:(m.map (·.1)).findIdx? (λx=>decide (k=x))=none:=by
  rw [List.findIdx?_eq_none_iff]
  intro x hx
  have:k≠x:=λe=>h (e▸hx)
  simpa using this
 rw [this]
abbrev cxK (c:Cx):LId×LId:=(c.a,c.b)
theorem y9a (l:List Cx):(crM l).map (·.1)=l.map cxK:=by unfold crM;rw [List.map_map];rfl
theorem v7u {l:List Cx} {i:Nat} (hn:(l.map cxK).Nodup) (hi:i<l.length):z3n (crM (l.take i)) (cxK (l.getD i cx0)) (.int .i64 (l.getD i cx0).n)=crM (l.take (i+1)):=by
 have e:l.take (i+1)=l.take i++[l.getD i cx0]:=by rw [List.take_add_one,List.getD,List.getElem?_eq_getElem hi];rfl
 rw [x1h,e]
 ·unfold crM;rw [List.map_append];rfl
 rw [y9a]
 intro hm
 have h2:(((l.take i)++[l.getD i cx0]).map cxK).Nodup:=by
  rw [<-e]
  exact List.Nodup.sublist (List.Sublist.map _ (List.take_sublist _ _)) hn
 rw [List.map_append] at h2
 exact (List.nodup_append.1 h2).2.2 _ hm _ (List.mem_singleton.2 rfl) rfl
theorem y5q {τ:TyK} {Mt:Nat} {w0 w:World} {s:StQ} {fs bs:List IQ} {gF gB gy gt gc gk gf:Nat} {ps:List YQ} {us:List TQ}
    (hk:Blk w gk Mt [.int .i64 s.rk,.slice (some ⟨gF,0,none⟩) fs.length fs.length,.slice (some ⟨gB,0,none⟩) bs.length bs.length,.slice (some ⟨gy,0,none⟩) s.ys.length s.ys.length,.slice (some ⟨gt,0,none⟩) s.fb.ts.length s.fb.ts.length,.map (some gc),.slice (some ⟨gf,0,none⟩) s.fb.fs.length s.fb.fs.length])
    (hF:RwO τ.S τ.I w0.heap.size w (.slice (some ⟨gF,0,none⟩) fs.length fs.length) fs) (hB:RwO τ.S τ.I w0.heap.size w (.slice (some ⟨gB,0,none⟩) bs.length bs.length) bs)
    (hY:YsO τ w0.heap.size w (.slice (some ⟨gy,0,none⟩) s.ys.length s.ys.length) ps) (hpl:ps.length=s.ys.length) (hpm:ps.map YQ.p=s.ys.map YQ.p)
    (hT:TbO τ w0.heap.size w (.slice (some ⟨gt,0,none⟩) s.fb.ts.length s.fb.ts.length) us) (hul:us.length=s.fb.ts.length) (htm:z2c us=z2c s.fb.ts)
    (hm:MapF crK w gc λ_=>none) (hf:Lw.Own z1h τ.I w0.heap.size w (.slice (some ⟨gf,0,none⟩) s.fb.fs.length s.fb.fs.length) s.fb.fs) (hly:s.ys.length=6) (hlt:s.fb.ts.length=6)
    (hfr:Fr [] w0 w) (hgc:w0.heap.size<=gc) (hgk:w0.heap.size<=gk) (hfb:∀x∈fs++bs,gf∉z0v (slv x.1)) (hft:∀i,i<6->∀q∈(us.getD i tq0).2,gf∉z0v (slv q.th)) (hpF:plB fs=trimB (plB s.q.fs)) (hpB:plB bs=trimB (plB s.q.bs)) :
    ∃m:MQ,MkM τ Mt w0 ⟨gk,gy,6,gt,6,gc,w⟩ w m/\m.p=⟨s.rk,⟨trimB (plB s.q.fs),trimB (plB s.q.bs)⟩,s.ys.map YQ.p,z2c s.fb.ts,[],s.fb.fs⟩:=by
  refine ⟨⟨s.rk,⟨(some ⟨gF,0,none⟩,fs.length,fs.length),(some ⟨gB,0,none⟩,bs.length,bs.length),fs,bs⟩,ps,us,[],(some ⟨gf,0,none⟩,s.fb.fs.length,s.fb.fs.length),s.fb.fs⟩,⟨?_,⟨hF,hB⟩,?_,?_,v6w hm,hf,λx hx k hkx hb=>?_,λi hi q hq k hkx hb=>?_,by rw [hpl,hly],by rw [hul,hlt],hgk,hgc,⟨hfr,KpM.refl _ _ _⟩⟩,?_⟩
  · rw [hly,hlt] at hk;exact hk
  · rw [hly] at hY;exact hY
  · rw [hlt] at hT;exact hT
  · simp [z0v,slv] at hb;subst hb;exact hfb x hx hkx
  · simp [z0v,slv] at hb;subst hb;exact hft i hi q hq hkx
  · show (⟨s.rk,⟨plB fs,plB bs⟩,ps.map YQ.p,z2c us,[],s.fb.fs⟩:MSt)=_
    rw [hpF,hpB,hpm,htm]
end Go.G08
namespace Go.G08
open Go.Lw Go.G21 Go.Proofs Go.Sort
theorem u3g (X:World) (o:Obj) (b:Nat) (h:X.heap.size=b):(X.alloc o).drew.heap[b]?=some o:=by subst h;show (X.heap.push o)[X.heap.size]?=some o;simp
theorem j4j (X:World) (o:Obj) (b:Nat) (h:X.heap.size=b):(X.alloc o).heap[b]?=some o:=by subst h;show (X.heap.push o)[X.heap.size]?=some o;simp
def DG (w w':World):Prop:=∃q os',w'=grow (w.drewN q) os'
theorem DG.refl (w:World):DG w w:=⟨0,#[],by rw [grow_empty];rfl⟩
theorem DG.alloc {w w':World} (h:DG w w') (o:Obj):DG w (w'.alloc o):=by
 obtain ⟨q,os,rfl⟩:=h
 exact ⟨q,os++#[o],by rw [alloc_eq_grow,grow_grow]⟩
theorem DG.drew {w w':World} (h:DG w w'):DG w w'.drew:=by
 obtain ⟨q,os,rfl⟩:=h
 exact ⟨q+1,os,rfl⟩
theorem DG.trans {a b c:World} (h:DG a b) (h':DG b c):DG a c:=by
 obtain ⟨q,os,rfl⟩:=h
 obtain ⟨q',os',rfl⟩:=h'
 exact ⟨q+q',os++os',by rw [<-grow_grow];unfold grow World.drewN;simp [Nat.add_assoc]⟩
theorem DG.cell {w w':World} (h:DG w w') {p:Addr} {v:Value} (hb:w.cell? p=some v):w'.cell? p=some v:=by
 obtain ⟨q,os,rfl⟩:=h
 have hl:=block_lt_of_cell hb
 refine (World.cell?_of_block (w:=w) ?_).trans hb
 show (w.heap++os)[p.block]?=_
 rw [Array.getElem?_append_left hl]
theorem u9i {X:World} {b T:Nat} {x y:Int} (h:X.heap[b]?=some (.cells #[.int .i64 x,.int .i64 y] T (0,0))):Sl Enc.i64 X (.slice (some ⟨b,0,none⟩) 2 2) [x,y]:=
 Lw.Own.sl (E:=Enc.i64) (T:=T) (base:=b) (.inr ⟨b,2,_,rfl,Nat.le_refl _,h,Nat.le_refl _,by decide,Nat.le_refl 2,rfl⟩)
def y9w (x y:Cx):Int:=if z6m x.a y.a≠0 then z6m x.a y.a else z6m x.b y.b
abbrev u8d (c:Cx):Value:=.agg #[.int .u8 c.a.y,.int .i64 c.a.n,.int .u8 c.b.y,.int .i64 c.b.n,.int .i64 c.n]
section
variable {α:Type} [Inhabited α] (E:Enc α)
theorem y6k (ys:Array α):(flatK E.enc E.sz ys).toList=ys.toList.flatMap E.enc:=by
 refine List.ext_getElem? λt=>?_
 have hp:=E.pos
 by_cases ht:t<ys.size*E.sz
 ·have hq:t / E.sz<ys.size:=Nat.div_lt_of_lt_mul (by rw [Nat.mul_comm];exact ht)
  have hr:t % E.sz<E.sz:=Nat.mod_lt _ hp
  have e1:=get_flatK E.enc E.sz ys t ht
  have e2:=E.flat_get ys.toList (t / E.sz) ys[t / E.sz] (by simp [hq]) (t % E.sz) hr
  rw [show t / E.sz*E.sz+t % E.sz=t by rw [Nat.mul_comm];exact Nat.div_add_mod t E.sz] at e2
  rw [e2,Array.getElem?_toList]
  rw [getElem!_pos (flatK E.enc E.sz ys) t (by simpa using ht),getElem!_pos ys (t / E.sz) hq,getElem!_pos (E.enc ys[t / E.sz]) (t % E.sz) (by rw [E.len];exact hr)] at e1
  rw [Array.getElem?_eq_getElem (by simpa using ht),e1,List.getElem?_eq_getElem (by rw [E.len];exact hr)]
 rw [List.getElem?_eq_none (by simp;omega),List.getElem?_eq_none (by rw [E.flat_len];simp;omega)]
variable {E} {w:World} {g T cap base:Nat} {cur:Array Value}
theorem v0u {ys:List α} (h:w.heap[g]?=some (.cells cur T (0,0))) (hs:ys.length*E.sz<=cur.size) (ht:cur.toList.take (ys.length*E.sz)=ys.flatMap E.enc):HoldsK E.enc E.sz w g 0 ys.toArray:=by
 intro j hj
 have hj':j<ys.length*E.sz:=by simpa using hj
 have e:=y6k E ys.toArray
 rw [<-show cur.toList.take (ys.length*E.sz)=ys.toArray.toList.flatMap E.enc from ht] at e
 have e1:=congrArg (λl:List Value=>l[j]?) e
 simp only [Array.getElem?_toList,List.getElem?_take,hj',if_true] at e1
 constructor
 ·rw [Nat.zero_add,getElem!_pos _ j hj]
  rw [Array.getElem?_eq_getElem hj] at e1
  simp only [World.cell?,h]
  exact e1.symm
 simp only [World.frozen?,h]
 simp
theorem v9t {ys:List α} (h:w.heap[g]?=some (.cells cur T (0,0))) (hs:ys.length*E.sz<=cur.size) (hb:base<=g) (hc:ys.length<=cap) (hM:cap<=maxLen) (hcs:cap*E.sz<=cur.size) (d:Array α) (hd:d.size=ys.length) (n:Nat) (os:Array Obj) :
    Lw.Own E T base (sortWorldK E.enc E.sz w g 0 n d os) (.slice (some ⟨g,0,none⟩) ys.length cap) d.toList/\Fr [g] w (sortWorldK E.enc E.sz w g 0 n d os):=by
  have hg:g<w.heap.size:=(Array.getElem?_eq_some_iff.1 h).1
  have hblk:∀k,k<w.heap.size->(sortWorldK E.enc E.sz w g 0 n d os).heap[k]?=(w.heap.modify g (onCells (putCells id 0 (flatK E.enc E.sz d))))[k]?:=λk hk=>by
    show ((w.heap.modify g _)++os)[k]?=_
    rw [Array.getElem?_append_left (by simpa using hk)]
  refine ⟨.inr ⟨g,cap,putCells id 0 (flatK E.enc E.sz d) cur,by rw [show d.toList.length=ys.length by simpa using hd],hb,?_,by simpa [hd] using hc,hM,by simpa [putCells] using hcs,?_⟩,rfl,rfl,rfl,?_,λk hk hn=>?_⟩
  · rw [hblk g hg,Array.getElem?_modify,if_pos rfl,h];rfl
  · rw [<-y6k E d]
    refine List.ext_getElem? λt=>?_
    have hdl:d.toList.length=ys.length:=by simpa using hd
    rw [List.getElem?_take,hdl]
    by_cases ht:t<ys.length*E.sz
    · rw [if_pos ht,Array.getElem?_toList,Array.getElem?_toList]
      unfold putCells
      rw [Array.getElem?_mapIdx,Array.getElem?_eq_getElem (show t<cur.size by omega),Array.getElem?_eq_getElem (show t<(flatK E.enc E.sz d).size by simpa [hd] using ht)]
      simp only [Option.map_some,Nat.zero_le,Nat.zero_add,true_and,Nat.sub_zero,id]
      rw [if_pos (by simpa [hd] using ht),getElem!_pos _ t (by simpa [hd] using ht)]
    · rw [if_neg ht,List.getElem?_eq_none (by simp [hd];omega)]
  · show w.heap.size<=((w.heap.modify g _)++os).size
    simp
  · rw [hblk k hk,Array.getElem?_modify,if_neg (λe=>hn (by simp [e]))]
open Go.Shelf in
theorem x6m {P:Program} {ρ:Ren} (L:SlLaysF0.n6 P ρ) {f cl:Nat} (hf:ρ.f 6=f) (aE:∀w,(isAgg (ρ.t 24)).run P w=.ok true w) (zE:∀w,(Go.sizeOf (ρ.t 24)).run P w=.ok E.sz w) (cf:α->α->Int) (hO:SWO (ltOf cf))
    (eg:∀args w,(callFunc cl args).run P w=.ok (.enter cl args) w)
    (hcmp:∀x y W,Calls P cl #[.agg (E.enc x).toArray,.agg (E.enc y).toArray] W λe w'=>e=.returned (.int .i64 (cf x y))/\DG W w')
    (hnil:∀W,Calls P f #[.slice none 0 0,.func (.func cl) #[] #[]] W λe w'=>e=.returned (.tuple #[])/\Fr [] W w')
    {v:Value} {ys:List α} (ho:Lw.Own E T base w v ys) (hl:ys.length<4611686018427387904):Rets P f #[v,.func (.func cl) #[] #[]] w λr w'=>r=.tuple #[]/\∃ys',ys'.Perm ys/\ys'.Pairwise (λa b=>¬cf b a<0)/\Lw.Own E T base w' v ys'/\Fr (z0v v) w w':=by
  subst hf
  rcases ho with ⟨rfl,rfl⟩|⟨g,cap,cur,rfl,h2,h3,h4,h5,h6,h7⟩
  · exact Calls.mono (hnil w) (by rintro e w' ⟨rfl,h⟩;exact ⟨_,rfl,rfl,[],.refl _,.nil,Lw.Own.nil _,h.weak (by simp)⟩)
  · have hs:ys.length*E.sz<=cur.size:=Nat.le_trans (Nat.mul_le_mul_right _ h4) h6
    have h:=AnyQ.slices_SortFunc L E.sz aE zE E.enc E.len E.one cf hO cl #[] g 0 cap ys.toArray w eg (λm os dk _ x y=>hcmp x y _) (v0u h3 hs h7) (Array.getElem?_eq_some_iff.1 h3).1 (by simpa using hl)
    rw [show ys.toArray.size=ys.length by simp] at h
    refine Calls.mono h ?_
    rintro e w' ⟨rfl,d',n,os,hp,hst,rfl⟩
    have hd:d'.size=ys.length:=by simpa using hp.1
    obtain ⟨k1,k2⟩:=v9t (base:=base) h3 hs h2 h4 h5 h6 d' hd n os
    refine ⟨_,rfl,rfl,d'.toList,?_,?_,k1,by simpa [z0v] using k2⟩
    · have:=hp.2.2
      simp [hd] at this
      rwa [List.take_of_length_le (by simpa using Nat.le_of_eq hd)] at this
    · rw [List.pairwise_iff_getElem]
      intro i j hi hj hij
      have hi':i<d'.size:=by simpa using hi
      have hj':j<d'.size:=by simpa using hj
      have:=hst i j (Nat.zero_le _) hij (by omega)
      rw [getElem!_pos d' i hi',getElem!_pos d' j hj'] at this
      simpa [ltOf] using this
end
theorem z9s {x y:Cx}:y9w x y<0↔(x.a.y<y.a.y\/x.a.y=y.a.y/\x.a.n<y.a.n)\/(x.a.y=y.a.y/\x.a.n=y.a.n)/\(x.b.y<y.b.y\/x.b.y=y.b.y/\x.b.n<y.b.n):=by
 unfold y9w
 have e:z6m x.a y.a=0↔x.a.y=y.a.y/\x.a.n=y.a.n:=by rw [y4w];obtain ⟨⟨_,_⟩,_,_⟩:=x;obtain ⟨⟨_,_⟩,_,_⟩:=y;simp
 split
 ·rename_i h
  rw [z6u];rw [Ne,e] at h;omega
 rename_i h
 rw [Decidable.not_not,e] at h
 rw [z6u];omega
theorem swoI:SWO (ltOf z6m):=by
 constructor
 ·intro x;simp only [ltOf,decide_eq_false_iff_not,z6u];omega
 ·intro x y z;simp only [ltOf,decide_eq_true_eq,z6u];omega
 intro x y z;simp only [ltOf,decide_eq_false_iff_not,z6u];omega
theorem swoX:SWO (ltOf y9w):=by
 constructor
 ·intro x;simp only [ltOf,decide_eq_false_iff_not,z9s];omega
 ·intro x y z;simp only [ltOf,decide_eq_true_eq,z9s];omega
 intro x y z;simp only [ltOf,decide_eq_false_iff_not,z9s];omega
def y2i (l:List LId):List LId:=l.mergeSort λa b=>decide (¬z6m b a<0)
def y2b (l:List Cx):List Cx:=l.mergeSort λa b=>decide (¬y9w b a<0)
theorem z3t (l:List LId):(y2i l).Perm l:=List.mergeSort_perm ..
theorem z4i (l:List Cx):(y2b l).Perm l:=List.mergeSort_perm ..
theorem x5l (l:List LId):(y2i l).Pairwise λa b=>¬z6m b a<0:=
 (List.pairwise_mergeSort (le:=λa b=>decide (¬z6m b a<0)) (λa b c=>by simp only [decide_eq_true_eq,z6u];omega) (λa b=>by simp only [Bool.or_eq_true,decide_eq_true_eq,z6u];omega) l).imp (by simp)
theorem y8d (l:List Cx):(y2b l).Pairwise λa b=>¬y9w b a<0:=
 (List.pairwise_mergeSort (le:=λa b=>decide (¬y9w b a<0)) (λa b c=>by simp only [decide_eq_true_eq,z9s];omega) (λa b=>by simp only [Bool.or_eq_true,decide_eq_true_eq,z9s];omega) l).imp (by simp)
theorem u4a {l l':List LId} (hp:l'.Perm l) (hs:l'.Pairwise λa b=>¬z6m b a<0):l'=y2i l:=by
 refine List.Perm.eq_of_pairwise (λa b _ _ h1 h2=>?_) hs (x5l l) (hp.trans (z3t l).symm)
 rw [z6u] at h1 h2
 obtain ⟨_,_⟩:=a;obtain ⟨_,_⟩:=b
 simp only at h1 h2
 rw [LId.mk.injEq];omega
theorem v4s {l l':List Cx} (hn:(l.map λc=>(c.a,c.b)).Nodup) (hp:l'.Perm l) (hs:l'.Pairwise λa b=>¬y9w b a<0):l'=y2b l:=by
 refine List.Perm.eq_of_pairwise (λa b ha hb h1 h2=>?_) hs (y8d l) (hp.trans (z4i l).symm)
 have ha':=hp.mem_iff.1 ha
 have hb':=(z4i l).mem_iff.1 hb
 have hk:(a.a,a.b)=(b.a,b.b):=by
  rw [z9s] at h1 h2
  obtain ⟨⟨_,_⟩,⟨_,_⟩,_⟩:=a;obtain ⟨⟨_,_⟩,⟨_,_⟩,_⟩:=b
  simp only at h1 h2
  simp only [Prod.mk.injEq,LId.mk.injEq];omega
 have hn2:=List.pairwise_iff_getElem.1 (List.pairwise_map.1 hn)
 obtain ⟨i,hi,rfl⟩:=List.getElem_of_mem ha'
 obtain ⟨j,hj,rfl⟩:=List.getElem_of_mem hb'
 rcases Nat.lt_trichotomy i j with h|h|h
 ·exact absurd hk (hn2 i j hi hj h)
 ·subst h;rfl
 exact absurd hk.symm (hn2 j i hj hi h)
end Go.G08
namespace Go.Lw
section
variable {P:Program} {ops:Array Oper} {Q:Exit->Act->World->Prop} {rest:List Oper} {n:Nat} {ds:List Nat} {L:List (Nat×Value)} {w:World} {d:Nat} {x:Operand} {t K E g ty:Nat} {pos:String} {after:Array Edge} {κ:Type} [DecidableEq κ] {V:κ->Value} {m:List (κ×Value)}
theorem j1x (hx:ev L x=some (.map (some g))) (hm:MapL V w g m) (hu:P.underlying t=some (.map K E)) (hn:Nat.blt d n=true) (q:WL P ops Q rest n ds w ((d,.int .i64 (m.length:Int))::L)):WL P ops Q (⟨some d,.call ⟨.builtin .len,#[x],#[t]⟩,ty,pos,after,none⟩::rest) n ds w L:=λa h=>by
 obtain ⟨es,c,h1,h2,_⟩:=hm
 have hl:es.size=m.length:=by have:=congrArg List.length h2;simpa using this
 refine z1u h rfl rfl hn (w':=w) (v:=.int .i64 (m.length:Int)) ?_ q
 rw [z1v];unfold builtin
 simp [h.eval hx,Builtin.len_,run_underlying hu,z2k h1,hl]
 rfl
theorem MapIt.no {gi:Nat} {rem:List (κ×Value)} {cur:Option (κ×Value)} (h:MapIt V w gi g m rem cur):MapIt V w gi g m rem none:=by
 obtain ⟨es,c,seen,k1,k2,k3,k4,k5,k6,_⟩:=h
 exact ⟨es,c,seen,k1,k2,k3,k4,k5,k6,λp hp=>by cases hp⟩
end
end Go.Lw
namespace Go.G08
open Go.Lw Go.G21
theorem u1y (a b:List Cx):crM (a++b)=crM a++crM b:=by unfold crM;rw [List.map_append]
theorem v1p {l:List Cx} {r1 r2:List ((LId×LId)×Value)} {p:(LId×LId)×Value} (h:crM l=r1++p::r2):∃l1 c l2,l=l1++c::l2/\r1=crM l1/\p=((c.a,c.b),.int .i64 c.n)/\r2=crM l2:=by
 unfold crM at h
 obtain ⟨l1,l',rfl,e1,e2⟩:=List.map_eq_append_iff.1 h
 obtain ⟨c,l2,rfl,e3,e4⟩:=List.map_eq_cons_iff.1 e2
 exact ⟨l1,c,l2,rfl,e1.symm,e3.symm,e4.symm⟩
section
variable {P:Program} {ops:Array Oper} {Q:Exit->Act->World->Prop} {rest:List Oper} {n:Nat} {ds:List Nat} {L:List (Nat×Value)} {w:World} {d:Nat} {x:Operand} {t g gi ty:Nat} {pos:String} {after:Array Edge} {em:List ((LId×LId)×Value)} {rem:List Cx}
def CrIt (w:World) (gi g:Nat) (em:List ((LId×LId)×Value)) (rem:List Cx) (cur:Option Cx):Prop:=MapIt crK w gi g em (crM rem) (cur.map λc=>((c.a,c.b),.int .i64 c.n))
theorem CrIt.fr {w':World} {S:List Nat} {cur:Option Cx} (h:CrIt w gi g em rem cur) (hf:Fr S w w') (hn:∀k∈S,k≠g/\k≠gi):CrIt w' gi g em rem cur:=MapIt.fr h hf (λe=>(hn g e).1 rfl) (λe=>(hn gi e).2 rfl)
theorem CrIt.ext {w':World} {cur:Option Cx} (h:CrIt w gi g em rem cur) (hf:Fr [] w w'):CrIt w' gi g em rem cur:=h.fr hf (by simp)
theorem CrIt.no {cur:Option Cx} (h:CrIt w gi g em rem cur):CrIt w gi g em rem none:=MapIt.no h
theorem CrIt.lt {cur:Option Cx} (h:CrIt w gi g em rem cur):gi<w.heap.size:=MapIt.lt h
theorem CrIt.neO {α:Type} {E:Enc α} {T base:Nat} {v:Value} {ys:List α} {cur:Option Cx} (h:CrIt w gi g em rem cur) (ho:Lw.Own E T base w v ys):∀k∈z0v v,k≠g/\k≠gi:=λk hk=>by
 obtain ⟨es,c,seen,k1,_,_,_,k5,_⟩:=h
 rcases ho with ⟨rfl,_⟩|⟨g',cap,cur',rfl,_,h3,_⟩
 ·simp [z0v] at hk
 simp only [z0v,List.mem_singleton] at hk
 subst hk
 exact ⟨λe=>(by rw [e,k1] at h3;cases h3),λe=>(by rw [e,k5] at h3;cases h3)⟩
theorem v5u {K E:Nat} {l:List Cx} (hx:ev L x=some (.map (some g))) (hm:MapL crK w g (crM l)) (hu:P.underlying t=some (.map K E)) (hn:Nat.blt d n=true)
 (q:∀gi w',gi=w.heap.size->CrIt w' gi g (crM l) l none->Fr [] w w'->w'.heap.size=gi+1->WL P ops Q rest n ds w' ((d,.pointer (some ⟨gi,0,none⟩))::L)):WL P ops Q (⟨some d,.range t x,ty,pos,after,none⟩::rest) n ds w L:=v5r hx hm hu hn q
theorem u3v {cur:Option Cx} (hx:ev L x=some (.pointer (some ⟨gi,0,none⟩))) (hi:CrIt w gi g em rem cur) (hn:Nat.blt d n=true)
    (qt:∀l1 c l2,rem=l1++c::l2->∀w',CrIt w' gi g em (l1++l2) (some c)->Fr [gi] w w'->w'.heap.size=w.heap.size->WL P ops Q rest n ds w' ((d,.tuple #[.bool true,crK (c.a,c.b),.int .i64 c.n])::L))
    (qf:rem=[]->WL P ops Q rest n ds w ((d,.tuple #[.bool false])::L)):WL P ops Q (⟨some d,.next x false,ty,pos,after,none⟩::rest) n ds w L:=
  u6h hx hi hn (λr1 p r2 he w' hit hf hz=>by
    obtain ⟨l1,c,l2,rfl,rfl,rfl,rfl⟩:=v1p he
    exact qt l1 c l2 rfl w' (by unfold CrIt;rw [u1y];exact hit) hf hz) (λhe=>qf (List.map_eq_nil_iff.1 he))
theorem v5o {c:Cx} (hx:ev L x=some (.pointer (some ⟨gi,0,none⟩))) (hi:CrIt w gi g em rem (some c)) (hn:Nat.blt d n=true)
 (q:WL P ops Q rest n ds w ((d,.tuple #[.agg #[.int .u8 c.a.y,.int .i64 c.a.n,.int .u8 c.b.y,.int .i64 c.b.n],.int .i64 c.n])::L)):WL P ops Q (⟨some d,.entry x,ty,pos,after,none⟩::rest) n ds w L:=v8d (p:=((c.a,c.b),.int .i64 c.n)) hx hi hn q
end
section
variable {τ:TyK} {Mt:Nat} {wS w w':World} {a:MA} {m:MQ} {j:Nat} {u:SV}
theorem MkM.tabh (h:MkM τ Mt wS a w m) (hK:MtOk τ Mt) (hj:j<6) (h1:Lw.Own z5o τ.L wS.heap.size w (slv u) (m.ts.getD j tq0).2) (hnew:∀i,i<6->∀b∈z0v (slv (m.ts.getD i tq0).1),b∉z0v (slv u))
    (h2:Lw.Own z4c τ.T wS.heap.size w' a.TV (m.ts.set j (u,(m.ts.getD j tq0).2))) (f2:Fr [a.gt] w w'):MkM τ Mt wS a w' { m with ts:=m.ts.set j (u,(m.ts.getD j tq0).2) }:=by
  have hl:j<m.ts.length:=by rw [h.lt];exact hj
  have o2:∀T,T≠τ.T->OffT w T [a.gt]:=λT hT=>z5t h.t.out (Ne.symm hT)
  refine ⟨y5t h.k f2 (o2 _ hK.t),BdO.tf h.b f2 (o2 _ (Ne.symm hK.o.ts)) (o2 _ (Ne.symm hK.o.ti)),h.y.tf f2 (o2 _ hK.o.yt) (o2 _ (Ne.symm hK.o.tp)),⟨h2,λi hi=>?_,λi k hi hk hik=>?_,λi hi q hq=>?_⟩,h.c.tf f2 (o2 _ hK.t),z2a h.f f2 (o2 _ (Ne.symm hK.o.ti)),h.fb,λi hi p hp=>?_,h.ly,by rw [List.length_set];exact h.lt,h.gk,h.gc,h.fr.step f2 (y5o h.t.out (by simp [v5h])) λk hk hlt=>?_⟩
  · simp only [List.length_set] at hi
    rw [z1g hl]
    split
    · exact z2a h1 f2 (o2 _ (Ne.symm hK.o.tl))
    · exact z2a (h.t.ins i hi) f2 (o2 _ (Ne.symm hK.o.tl))
  · simp only [List.length_set] at hi hk
    rw [z1g hl,z1g hl]
    split
    · rw [if_neg (by omega)];exact λb hb hb'=>hnew k (by rw [<-h.lt];exact hk) b hb' hb
    · split
      · exact hnew i (by rw [<-h.lt];exact hi)
      · exact h.t.off i k hi hk hik
  · simp only [List.length_set] at hi
    rw [z1g hl] at hq
    have hq':q∈(m.ts.getD i tq0).2:=by split at hq;(rename_i e;subst e;exact hq);exact hq
    exact ⟨z2a (h.t.lps i hi q hq').1 f2 (o2 _ (Ne.symm hK.o.ti)),z2a (h.t.lps i hi q hq').2 f2 (o2 _ (Ne.symm hK.o.tp))⟩
  · simp only at hp
    rw [z1g hl] at hp
    split at hp
    · rename_i e;subst e;first|exact h.ft _ hi p hp|exact h.ft _ hj p hp
    · exact h.ft i hi p hp
  · have:=(h.t.out.blk k hk).1;omega
theorem MkM.fallS {l:List LId} (h:MkM τ Mt wS a w m) (hK:MtOk τ Mt) (hip:τ.I≠τ.P) (h1:Lw.Own z1h τ.I wS.heap.size w' (slv m.fa) l) (f1:Fr (z0v (slv m.fa)) w w'):MkM τ Mt wS a w' { m with fl:=l }:=by
 have hk:=y5t h.k f1 (z5t h.f (Ne.symm hK.i))
 exact MkM.fall (u:=m.fa) h hK hip h1 f1 (λk hk=>.inl hk) hk ((Fr.refl [] w').weak (by simp))
def stM (p:MSt):St:=⟨p.rk,p.B,p.ys,⟨p.tb,y2b p.cr,(z2n p.B p.rk).map Hd.id,y2i p.fa⟩⟩
structure MkW (τ:TyK) (base:Nat) (a:MA) (w:World) (m:MQ):Prop where
  b:BdO τ.S τ.I base w m.q
  y:YsO τ base w a.YV m.ys
  t:TbO τ base w a.TV m.ts
theorem MkM.toW (h:MkM τ Mt wS a w m):MkW τ wS.heap.size a w m:=⟨h.b,h.y,h.t⟩
theorem MkW.ext {base:Nat} (h:MkW τ base a w m) (hf:Fr [] w w'):MkW τ base a w' m:=⟨h.b.ext hf,h.y.ext hf,h.t.ext hf⟩
theorem MkW.off {base g T:Nat} {cs:List Value} (h:MkW τ base a w m) (hg:Blk w g T cs) (hT:T≠τ.S/\T≠τ.I/\T≠τ.Y/\T≠τ.P/\T≠τ.T/\T≠τ.L) (hf:Fr [g] w w'):MkW τ base a w' m:=by
 obtain ⟨h1,h2,h3,h4,h5,h6⟩:=hT
 exact ⟨BdO.tf h.b hf (OffT.one hg h1) (OffT.one hg h2),h.y.tf hf (OffT.one hg h3) (OffT.one hg h4),h.t.tf hf (OffT.one hg h5) (OffT.one hg h6) (OffT.one hg h2) (OffT.one hg h4)⟩
structure StO (τ:TyK) (Tc base:Nat) (w:World) (s:StQ):Prop where
  b:BdO τ.S τ.I base w s.q
  y:YsO τ base w (slv s.yv) s.ys
  t:TbO τ base w (slv s.fb.t) s.fb.ts
  c:Lw.Own z4t Tc base w (slv s.fb.c) s.fb.cs
  h:Lw.Own z1h τ.I base w (slv s.fb.h) s.fb.hs
  f:Lw.Own z1h τ.I base w (slv s.fb.f) s.fb.fs
theorem StO.ext {Tc base:Nat} {s:StQ} (h:StO τ Tc base w s) (hf:Fr [] w w'):StO τ Tc base w' s:=⟨h.b.ext hf,h.y.ext hf,h.t.ext hf,h.c.ext hf,h.h.ext hf,h.f.ext hf⟩
theorem StO.off {Tc base g T:Nat} {cs:List Value} {s:StQ} (h:StO τ Tc base w s) (hg:Blk w g T cs) (hT:T≠τ.S/\T≠τ.I/\T≠τ.Y/\T≠τ.P/\T≠τ.T/\T≠τ.L/\T≠Tc) (hf:Fr [g] w w'):StO τ Tc base w' s:=by
 obtain ⟨h1,h2,h3,h4,h5,h6,h7⟩:=hT
 exact ⟨BdO.tf h.b hf (OffT.one hg h1) (OffT.one hg h2),h.y.tf hf (OffT.one hg h3) (OffT.one hg h4),h.t.tf hf (OffT.one hg h5) (OffT.one hg h6) (OffT.one hg h2) (OffT.one hg h4),z2a h.c hf (OffT.one hg h7),z2a h.h hf (OffT.one hg h2),z2a h.f hf (OffT.one hg h2)⟩
theorem StO.low {Tc base b':Nat} {s:StQ} (h:StO τ Tc base w s) (hb:b'<=base):StO τ Tc b' w s:=
 ⟨⟨⟨h.b.f.1.low hb,λq hq=>(h.b.f.2 q hq).low hb⟩,⟨h.b.b.1.low hb,λq hq=>(h.b.b.2 q hq).low hb⟩⟩,⟨h.y.out.low hb,λi hi=>(h.y.ins i hi).low hb⟩,⟨h.t.out.low hb,λi hi=>(h.t.ins i hi).low hb,h.t.off,λi hi q hq=>⟨(h.t.lps i hi q hq).1.low hb,(h.t.lps i hi q hq).2.low hb⟩⟩,h.c.low hb,h.h.low hb,h.f.low hb⟩
theorem StO.at {Tc base:Nat} {s:StQ} (h:StO τ Tc base w s):StAt w s:=by
 refine ⟨h.b.at,h.y.out.sl,λi=>?_,⟨h.t.out.sl,λp hp=>?_,h.c.sl,h.h.sl,h.f.sl⟩⟩
 ·by_cases hi:i<s.ys.length
  ·exact (h.y.ins i hi).sl
  rw [List.getD,List.getElem?_eq_none (by omega)];exact Sl.nil w
 obtain ⟨i,hi,rfl⟩:=List.getElem_of_mem hp
 have e:s.fb.ts.getD i tq0=s.fb.ts[i]:=by rw [List.getD,List.getElem?_eq_getElem hi];rfl
 rw [<-e]
 exact ⟨(h.t.ins i hi).sl,λq hq=>⟨(h.t.lps i hi q hq).1.sl,(h.t.lps i hi q hq).2.sl⟩⟩
end
end Go.G08
namespace Go.G08
open Go.Lw Go.G21
structure PlaceV (T:Tb) (H F:List LId):Prop where
  has:∀i∈H++F,z4b T i
  asc:∀i,0<i->i<F.length->z6m (F.getD (i-1) id0) (F.getD i id0)<0
  once:∀y,y<6->∀n,n<z2t T y->(H++F++y0v T).count ⟨(y:Int)+1,(n:Int)⟩=1
  le:∀i,(H++F++y0v T).count i<=1
structure CrsV (T:Tb) (l:List Cx):Prop where
  has:∀i,i<l.length->z4b T (l.getD i cx0).a/\z4b T (l.getD i cx0).b/\z6m (l.getD i cx0).a (l.getD i cx0).b<0/\(-1048576<=(l.getD i cx0).n/\(l.getD i cx0).n<=1048576)/\(l.getD i cx0).n≠0
  asc:∀i,0<i->i<l.length->y9w (l.getD (i-1) cx0) (l.getD i cx0)<0
theorem v6m {a b:LId} (h:¬z6m b a<0) (hne:a≠b):z6m a b<0:=by
 have h0:=mt y4w.1 hne
 rw [z6u] at h ⊢
 have h1:¬(a.y=b.y/\a.n=b.n):=by
  rintro ⟨e1,e2⟩
  obtain ⟨_,_⟩:=a;obtain ⟨_,_⟩:=b
  simp only at e1 e2;subst e1;subst e2;exact hne rfl
 omega
theorem v7w {a b:Cx} (h:¬y9w b a<0) (hne:(a.a,a.b)≠(b.a,b.b)):y9w a b<0:=by
 rw [z9s] at h ⊢
 have h1:¬((a.a.y=b.a.y/\a.a.n=b.a.n)/\(a.b.y=b.b.y/\a.b.n=b.b.n)):=by
  obtain ⟨⟨_,_⟩,⟨_,_⟩,_⟩:=a;obtain ⟨⟨_,_⟩,⟨_,_⟩,_⟩:=b
  rintro ⟨⟨e1,e2⟩,e3,e4⟩
  simp only at e1 e2 e3 e4
  subst e1;subst e2;subst e3;subst e4;exact hne rfl
 omega
theorem x2p {α:Type} {R:α->α->Prop} {l:List α} (d:α) (h:l.Pairwise R) {i:Nat} (h0:0<i) (hi:i<l.length):R (l.getD (i-1) d) (l.getD i d):=by
 have:=List.pairwise_iff_getElem.1 h (i-1) i (by omega) hi (by omega)
 rwa [List.getD,List.getElem?_eq_getElem (by omega),List.getD,List.getElem?_eq_getElem hi]
theorem v7p {l:List LId} (hn:l.Nodup):(y2i l).Pairwise λa b=>z6m a b<0:=by
 have h2:(y2i l).Pairwise (·≠·):=(z3t l).nodup_iff.2 hn
 exact ((x5l l).and h2).imp λh=>v6m h.1 h.2
theorem v9l {l:List Cx} (hn:(l.map λc=>(c.a,c.b)).Nodup):(y2b l).Pairwise λa b=>y9w a b<0:=by
 have h2:((y2b l).map λc=>(c.a,c.b)).Nodup:=((z4i l).map _).nodup_iff.2 hn
 exact ((y8d l).and (List.pairwise_map.1 h2)).imp λh=>v7w h.1 h.2
theorem MVal.le {p:MSt} (h:MVal p) (i:LId):(p.B.flat++p.fa++y0v p.tb).count i<=1:=by
 by_cases k:z4b p.tb i
 ·exact Nat.le_of_eq (h.once i k)
 obtain ⟨rk,ht⟩:=h.tab
 rw [List.count_eq_zero.2]
 ·omega
 intro hi
 rcases List.mem_append.1 hi with z|z
 ·rcases List.mem_append.1 z with z|z
  ·exact k (h.inv.has i z)
  exact k (h.fa i z)
 exact k (x7d ht z)
theorem MVal.nodupF {p:MSt} (h:MVal p):p.fa.Nodup:=List.nodup_iff_count.2 λi=>by
 have:=h.le i
 rw [List.count_append,List.count_append] at this
 omega
theorem MVal.tabV {p:MSt} (h:MVal p):TabV p.tb:=by
 obtain ⟨rk,ht⟩:=h.tab
 refine ⟨⟨h.inv.lt,h.inv.all,ht.rts,rk,ht.rkd⟩,λi=>?_⟩
 have:=h.le i
 rw [List.count_append] at this
 omega
theorem MVal.cntHF {p:MSt} (i:LId):(((z2n p.B p.rk).map Hd.id)++y2i p.fa++y0v p.tb).count i=(p.B.flat++p.fa++y0v p.tb).count i:=by
 simp only [List.count_append]
 rw [(y2r p.B p.rk).count_eq,(z3t p.fa).count_eq]
theorem MVal.place {p:MSt} (h:MVal p):PlaceV p.tb ((z2n p.B p.rk).map Hd.id) (y2i p.fa):=by
 refine ⟨λi hi=>?_,λi h0 hi=>x2p id0 (v7p h.nodupF) h0 hi,λy hy n hn=>?_,λi=>?_⟩
 ·rcases List.mem_append.1 hi with k|k
  ·exact h.inv.has i ((y2r p.B p.rk).mem_iff.1 k)
  exact h.fa i ((z3t p.fa).mem_iff.1 k)
 ·rw [MVal.cntHF];exact h.once _ (z7p (by rw [h.inv.lt];exact hy) hn)
 rw [MVal.cntHF];exact h.le i
theorem MVal.crs {p:MSt} (h:MVal p):CrsV p.tb (y2b p.cr):=
 ⟨λi hi=>h.cr.has _ ((z4i p.cr).mem_iff.1 (z0x hi)),λi h0 hi=>x2p cx0 (v9l h.cr.nd) h0 hi⟩
end Go.G08
namespace Go.Proofs.YtpgdchkdlgkmgaaGreatDoor
open Go.Lw Go.G21 Go.G08 _root_.Go.Proofs.Tryz
theorem v0r:z3p prog 109 5:=⟨λ_=>by kernel_rfl,λ_=>by kernel_rfl⟩
theorem v9y:ElemOf prog 36 109 z4t 40:=ElemOf.mk' (z:=(.agg #[.int .u8 0,.int .i64 0,.int .u8 0,.int .i64 0,.int .i64 0])) underlying36 (by kernel_rfl) rfl
theorem y1y:z0z prog 109 0 0:=λ_ _=>by kernel_rfl
theorem y1l:z0z prog 109 1 2:=λ_ _=>by kernel_rfl
theorem y3d:z0z prog 109 2 4:=λ_ _=>by kernel_rfl
theorem u6i:z1q prog 109 5:=λ_=>by kernel_rfl
theorem v3d (w:World):(zeroValue 109).run prog w=.ok (.agg #[(.int .u8 0),(.int .i64 0),(.int .u8 0),(.int .i64 0),(.int .i64 0)]) w:=by kernel_rfl
theorem v9w (x y:Cx):orZ [z6m x.a y.a,z6m x.b y.b]=y9w x y:=by
 unfold orZ orZ orZ y9w
 repeat' split
 all_goals first|rfl|omega
theorem v6u (x y:Cx) (w0:World):Rets prog 92 #[.agg #[.int .u8 x.a.y,.int .i64 x.a.n,.int .u8 x.b.y,.int .i64 x.b.n,.int .i64 x.n],.agg #[.int .u8 y.a.y,.int .i64 y.a.n,.int .u8 y.b.y,.int .i64 y.b.n,.int .i64 y.n]] w0 λr w'=>r=.int .i64 (y9w x y)/\Fr [] w0 w':=by
 refine we [(0,.agg #[.int .u8 x.a.y,.int .i64 x.a.n,.int .u8 x.b.y,.int .i64 x.b.n,.int .i64 x.n]),(1,.agg #[.int .u8 y.a.y,.int .i64 y.a.n,.int .u8 y.b.y,.int .i64 y.b.n,.int .i64 y.n])] func92 rfl ntmps92 rfl (.c2 rfl rfl) (sr (bx rfl rfl rfl (λg2 w1 hg2 hb2 q1 z1=>(bx rfl rfl rfl (λg3 w2 hg3 hb3 q2 z2=>(asg rfl (nn (sq ?_))))))))
 intro a h
 refine z0h none (λwb w'=>Fr [] wb w') z2r ?_;intro w3 q3
 replace hb2:=hb2.ext (q2.n1 q3)
 replace hb3:=hb3.ext q3
 have hC:Fr [] w3 w3:=Fr.refl _ _
 have hb2_b:=hb2
 have hb3_b:=hb3
 refine z0c 0 h rfl y1y rfl λa h=>z1c (vs:=[_,_]) 1 h rfl (λ_ hw=>(hb2_b.ext hw)) z3g rfl rfl λa h=>z0c 2 h rfl y1y rfl λa h=>z1c (vs:=[_,_]) 3 h rfl (λ_ hw=>(hb3_b.ext hw)) z3g rfl rfl λa h=>z0c 5 h rfl y1l rfl λa h=>z1c (vs:=[_,_]) 6 h rfl (λ_ hw=>(hb2_b.ext hw)) z3g rfl rfl λa h=>z0c 7 h rfl y1l rfl λa h=>z1c (vs:=[_,_]) 8 h rfl (λ_ hw=>(hb3_b.ext hw)) z3g rfl rfl λa h=>z0d 4 rfl ?_
 refine z0m h (z0a rfl (z0a rfl z0g)) j1w (y0c x.a y.a _) ?_;rintro _ w4 ⟨rfl,q4⟩ a h
 replace hC:=hC.next q4
 refine z0b ?_
 refine z0d 9 rfl ?_
 refine z0m h (z0a rfl (z0a rfl z0g)) j1w (y0c x.b y.b _) ?_;rintro _ w5 ⟨rfl,q5⟩ a h
 replace hb2:=hb2.ext (q4.n1 q5)
 replace hb3:=hb3.ext (q4.n1 q5)
 replace hC:=hC.next q5
 refine z0b ?_
 refine z0d 10 rfl ?_
 refine z2o ([z6m x.a y.a,z6m x.b y.b]) h (z0a rfl (z0a rfl z0g)) rfl rfl rfl y5k λg_15 w6 hg ho15 q6 hz a h=>?_
 have hn__15:g2<g_15:=by have:=hb2.lt;omega
 have hn__15:g3<g_15:=by have:=hb3.lt;omega
 replace hC:=hC.next q6
 refine z0b ?_
 refine z0d 11 rfl ?_
 refine z0m h (z0a rfl z0g) (mkC func121) (j0y _ [z6m x.a y.a,z6m x.b y.b] _ ho15.sl (by simp)) ?_;rintro _ w7 ⟨rfl,q7⟩ a h
 replace hC:=hC.next q7
 refine z0b ?_
 refine z0d 12 rfl ?_
 refine z0q h rfl λa h=>?_
 refine z0b ?_
 refine z0r ?_
 clear hC hb2_b hb3_b
 refine bk (h.sub (L':=[(4,_)]) (.cons rfl .nil)) (tn (rt (r1 results92 rfl ?_)))
 exact ⟨_,rfl,congrArg (Value.int .i64) (v9w x y),(q1.n6 q2 q3 q4 q5 q6 q7)⟩
set_option maxHeartbeats 1000000 in
theorem x8r (q:FbQ) (w0:World) (hF:FbAt w0 q) (h6:q.ts.length=6) (hv:CrsV (z2c q.ts) q.cs):Rets prog 100 #[.agg #[.slice q.t.1 q.t.2.1 q.t.2.2,.slice q.c.1 q.c.2.1 q.c.2.2,.slice q.h.1 q.h.2.1 q.h.2.2,.slice q.f.1 q.f.2.1 q.f.2.2]] w0 λr w'=>r=.int .i64 0/\Fr [] w0 w':=by
 have hql:=hF.len
 have hly:=z6n q.ts
 have hM:=hF.c.len_le
 unfold maxLen at hM
 refine we [(0,.agg #[.slice q.t.1 q.t.2.1 q.t.2.2,.slice q.c.1 q.c.2.1 q.c.2.2,.slice q.h.1 q.h.2.1 q.h.2.2,.slice q.f.1 q.f.2.1 q.f.2.2])] func100 rfl ntmps100 rfl (.cons rfl .nil) ?_
 have hF0:=hF
 refine sr (bx rfl rfl rfl (λg1 w1 hg1 hb1 q1 z1=>(asg rfl (nn (sq (sr (fad rfl y6r (z0i rfl hb1 rfl u8e (lnS rfl underlying36 (mv rfl (nn (bl ?_))))))))))))
 refine lpK (ι:=Nat) [(1,_),(6,_),(7,_)] (λi=>[(8,.int .i64 (i:Int))]) (λi w'=>Fr [] w1 w'/\i<=q.cs.length) (λi=>q.cs.length-i) 0 (.c4 rfl rfl rfl rfl) ⟨Fr.refl _ _,Nat.zero_le _⟩ ?_
 rintro i w2 ⟨q2,hi⟩
 have z2:=q2.size
 refine kpC [(1,_),(6,_),(7,_),(8,_)] (.c4 rfl rfl rfl rfl) (sr (lt' rfl rfl (nn (sq (cd rfl (λc0=>?_) (λc0=>?_))))))
 ·have hci:=hv.has i (by omega)
  have hca:=hci.1
  have hcb:=hci.2.1
  have hc1:=hca.1
  have hc2:=hca.2.1
  have hc3:=hcb.1
  have hc4:=hcb.2.1
  have hcs:=hv.asc i
  refine sk (tn (sq (bl (sr (mv rfl ?_)))))
  replace hF:=hF0.ext (q1.n1 q2)
  refine z1a (cx0) rfl hF.c rfl v9y z1f (λad11 hc11=>?_)
  refine z1j rfl (hc11 _ hF.c) v0r (al v3d rfl rfl (λg4 w3 hg4 hb4 q3 z3=>?_))
  refine asg rfl (z0j (vs:=[_,_,_,_,_]) rfl rfl hb4 u6i (λw4 hb4 q4 z4=>?_) (h1:=(by first|(simp [Value.oneCell',S];done)|exact z4t.one _)))
  refine nn (sq (sq ?_))
  refine x8z (r:=34) (L':=[(1,_),(3,_),(4,_),(6,_),(7,_),(8,_)]) ((((¬z4b (z2c q.ts) (q.cs.getD i cx0).a)\/(¬z4b (z2c q.ts) (q.cs.getD i cx0).b))\/(0<=(z6m (q.cs.getD i cx0).a (q.cs.getD i cx0).b)))) (.c6 rfl rfl rfl rfl rfl rfl) ?_ ?_
  ·refine fad rfl z8l ?_
   replace hb1:=(hb1.ext (q2.n1 q3)).fr q4
   refine z0i rfl hb1 rfl x1r (fad rfl y1y (z1y (vs:=[_,_]) rfl hb4 z3g rfl ?_))
   replace hF:=hF0.ext (q1.z3 q2 q3 q4)
   refine cl (ev2 rfl rfl) (mkC func138) (x4j (q.cs.getD i cx0).a _ _ _ hF.t hF.tt (by omega) (by omega)) rfl ?_
   rintro _ w5 ⟨rfl,q5⟩
   have z5:=q5.size
   refine nt' rfl (mv rfl (gs 19 rfl (λhh=>absurd hh (by exact λe=>e hci.1)) (λg0=>(gY rfl (fad rfl z8l (gY rfl ?_))))))
   replace hb1:=hb1.ext q5
   refine z0i rfl hb1 rfl x1r (gY rfl (fad rfl y1l (gY rfl ?_)))
   replace hb4:=hb4.ext q5
   refine z1y (vs:=[_,_]) rfl hb4 z3g rfl (gY rfl ?_)
   replace hF:=hF0.ext (q1.z4 q2 q3 q4 q5)
   refine cl (ev2 rfl rfl) (mkC func138) (x4j (q.cs.getD i cx0).b _ _ _ hF.t hF.tt (by omega) (by omega)) rfl ?_
   rintro _ w6 ⟨rfl,q6⟩
   have z6:=q6.size
   refine gY rfl (nt' rfl (pkf rfl rfl (mv rfl (gs 27 rfl (λhh=>absurd hh (by exact λe=>e hci.2.1)) (λg1=>(gY rfl (fad rfl y1y (gY rfl ?_))))))))
   replace hb4:=hb4.ext q6
   refine z1y (vs:=[_,_]) rfl hb4 z3g rfl (gY rfl (fad rfl y1l (gY rfl (z1y (vs:=[_,_]) rfl hb4 z3g rfl (gY rfl (cl (ev2 rfl rfl) j1w (y0c (q.cs.getD i cx0).a (q.cs.getD i cx0).b _) rfl ?_))))))
   rintro _ w7 ⟨rfl,q7⟩
   have z7:=q7.size
   exact gY rfl (ge' rfl rfl (pkf rfl rfl (y0k rfl (.c6 rfl rfl rfl rfl rfl rfl) (q5.n2 q6 q7))))
  intro w8 q8;have z8:=q8.size
  refine tn (cd rfl (λc1=>?_) (λc1=>?_))
  ·refine sr (asg rfl (kpL [(2,_)] (.cons rfl .nil) (nn (rt (tr (rb (tr (tr (rb (tr (r1 results100 rfl ?_)))))))))))
   exfalso;rcases c1 with (hh|hh)|hh
   ·exact hh hci.1
   ·exact hh hci.2.1
   omega
  refine sk (tn (sq (sq ?_)))
  refine rbo (r:=47) (L':=[(1,_),(3,_),(4,_),(6,_),(7,_),(8,_)]) (((((q.cs.getD i cx0).n < -1048576)\/(1048576<(q.cs.getD i cx0).n))\/((q.cs.getD i cx0).n=0))) (.c6 rfl rfl rfl rfl rfl rfl) ?_ ?_
  ·refine fad rfl y3d ?_
   replace hb4:=hb4.ext q8
   refine z0i rfl hb4 rfl na3 (lt' rfl rfl (mv rfl (gs 38 rfl (λhh=>absurd hh (by omega)) (λg2=>(gY rfl (fad rfl y3d (gY rfl (z0i rfl hb4 rfl na3 (gY rfl (gt' rfl rfl (pkf rfl rfl (mv rfl (gs 43 rfl (λhh=>absurd hh (by omega)) (λg3=>?_))))))))))))))
   exact gY rfl (fad rfl y3d (gY rfl (z0i rfl hb4 rfl na3 (gY rfl (eq' rfl rfl (pkf rfl rfl (rbe rfl (.c6 rfl rfl rfl rfl rfl rfl))))))))
  refine tn (cd rfl (λc2=>?_) (λc2=>?_))
  ·refine sr (asg rfl (kpL [(2,_)] (.cons rfl .nil) (nn (rt (tr (rb (tr (tr (rb (tr (r1 results100 rfl ?_)))))))))))
   exfalso;omega
  refine sk (tn (sq ?_))
  replace hF:=hF0.ext (q1.z4 q2 q3 q4 q8)
  replace hb1:=((hb1.ext (q2.n1 q3)).fr q4).ext q8
  intro a h
  refine z0h none (λwb w'=>Fr [] wb w') z2r ?_;intro w9 q9
  have z9:=q9.size
  replace hF:=hF.ext q9
  replace hb1:=hb1.ext q9
  replace hb4:=hb4.ext (q8.n1 q9)
  have hC:Fr [] w9 w9:=Fr.refl _ _
  have hF_b:=hF
  have hb1_b:=hb1
  have hb4_b:=hb4
  refine z0e 0 h rfl rfl λa h=>v0a 1 hC h wn rfl rfl rfl rfl λa h=>z0e 2 h rfl rfl λa h=>?_
  refine gSp (D:=50) h rfl ?_ ?_
  ·clear h;intro g4 h
   refine z0c 3 h rfl y6r rfl ?_ (hG:=(wy rfl));clear h a;intro a h
   refine z0l 4 h rfl (λ_ hw=>hb1_b.ext hw) rfl u8e rfl ?_ (hG:=(wy rfl));clear h a;intro a h
   refine z0e 5 h rfl rfl ?_ (hG:=(wy rfl));clear h a;intro a h
   refine z2y 6 h (wy rfl) rfl rfl (by first|exact i6 (by omega)|rfl) rfl λa h=>z1k (p:=(i-1)) (cx0) 7 h rfl hF.c rfl v9y rfl ?_ (hG:=(wy rfl));clear h a;intro ad55 hc55 a h
   refine z2l 8 h (wy rfl) rfl (λ_ hw=>hc55 _ (hF_b.c.ext hw)) v0r rfl λa h=>z0t 9 h rfl (λ_ hw=>hb4_b.ext hw) v0r rfl ?_ (hG:=(wy rfl));clear h a;intro a h
   refine z0d 10 rfl ?_
   refine y3n h rfl rfl rfl rfl rfl rfl ?_
   refine z0m h (z0a rfl (z0a rfl z0g)) (mkC func92) (v6u (q.cs.getD (i-1) cx0) (q.cs.getD i cx0) _) ?_;rintro _ w10 ⟨rfl,q10⟩ a h
   have z10:=q10.size
   replace hF:=hF.ext q10
   replace hb1:=hb1.ext q10
   replace hb4:=hb4.ext q10
   replace hC:=hC.next q10
   refine z0b ?_
   refine v8w 11 hC h (wy rfl) rfl rfl rfl rfl λa h=>z0d 12 rfl ?_
   refine z5j h rfl rfl rfl rfl λa h=>?_
   refine z0b ?_
   refine z0r ?_
   clear hC hF_b hb1_b hb4_b
   refine bk (h.sub (L':=[(1,_),(6,_),(7,_),(8,_),(60,_)]) (.c5 rfl rfl rfl rfl rfl)) (tn (cd rfl (λc3=>?_) (λc3=>?_)))
   ·refine sr (asg rfl (nn (rt (rb (tr (tr (rb (tr (r1 results100 rfl ?_)))))))))
    exfalso;first|omega|(have:=hcs (by omega) (by omega);omega)
   refine sk (bn' (tn (rg (z0y rfl rfl (wi6 (by omega)) (mv rfl (nl ?_))))))
   exact lpE (i+1) (.c4 rfl rfl rfl rfl) ⟨(q2.z5 q3 q4 q8 q9 q10),by omega⟩ (by omega)
  clear h;intro g4 h
  refine z2h 3 h rfl rfl rfl λa h=>z2h 4 h rfl rfl rfl λa h=>z2h 5 h rfl rfl rfl λa h=>z2h 6 h rfl rfl rfl λa h=>z2h 7 h rfl rfl rfl λa h=>z2h 8 h rfl rfl rfl λa h=>z2h 9 h rfl rfl rfl λa h=>z2h 10 h rfl rfl rfl λa h=>z2h 11 h rfl rfl rfl λa h=>z0d 12 rfl ?_
  refine z4j h rfl rfl rfl rfl λa h=>?_
  refine z0b ?_
  refine z0r ?_
  clear hC hF_b hb1_b hb4_b
  refine bk (h.sub (L':=[(1,_),(6,_),(7,_),(8,_),(60,_)]) (.c5 rfl rfl rfl rfl rfl)) (tn (cf rfl (sk (bn' (tn (rg (z0y rfl rfl (wi6 (by omega)) (mv rfl (nl ?_)))))))))
  exact lpE (i+1) (.c4 rfl rfl rfl rfl) ⟨(q2.z4 q3 q4 q8 q9),by omega⟩ (by omega)
 obtain rfl:i=q.cs.length:=by omega
 refine ex (te (te (xh (tn (sr (asg rfl (nn (rt (r1 results100 rfl ?_)))))))))
 exact ⟨_,rfl,rfl,(q1.n1 q2)⟩
theorem v2u {a b:List LId} {k:Nat} (h:∀i,(a++b).count i<=1) (c:List LId) (hc:∃d,a++b=c++d):c.count (b.getD k id0)<=100000:=by
 obtain ⟨d,e⟩:=hc
 have:=h (b.getD k id0)
 rw [e,List.count_append] at this
 omega
set_option maxHeartbeats 2000000 in
theorem x8g (q:FbQ) (w0:World) (hF:FbAt w0 q) (h6:q.ts.length=6) (hv:TabV (z2c q.ts)) (hp:PlaceV (z2c q.ts) q.hs q.fs):Rets prog 101 #[.agg #[.slice q.t.1 q.t.2.1 q.t.2.2,.slice q.c.1 q.c.2.1 q.c.2.2,.slice q.h.1 q.h.2.1 q.h.2.2,.slice q.f.1 q.f.2.1 q.f.2.2]] w0 λr w'=>r=.int .i64 0/\Fr [] w0 w':=by
 have hql:=hF.len
 have hly:=z6n q.ts
 have hM:=hF.f.len_le
 unfold maxLen at hM
 refine we [(0,.agg #[.slice q.t.1 q.t.2.1 q.t.2.2,.slice q.c.1 q.c.2.1 q.c.2.2,.slice q.h.1 q.h.2.1 q.h.2.2,.slice q.f.1 q.f.2.1 q.f.2.2])] func101 rfl ntmps101 rfl (.cons rfl .nil) ?_
 have hF0:=hF
 refine sr (bx rfl rfl rfl (λg1 w1 hg1 hb1 q1 z1=>?_))
 refine asg rfl (nn (sq (sr (fad rfl y6b (z0i rfl hb1 rfl z6t (fad rfl z9v (z0i rfl hb1 rfl z6t (z1r (cs:=[_,_]) (ev2 rfl rfl) j4d (z0f rfl rfl rfl (z0f rfl rfl rfl z0s)) rfl ?_))))))))
 refine mv rfl (nn (bl ?_))
 refine lpK (ι:=Nat) [(1,_),(22,_)] (λz=>[(23,.int .i64 (z:Int))]) (λz w'=>Fr [] w1 w'/\z<=2) (λz=>2-z) 0 (.c3 rfl rfl rfl) ⟨Fr.refl _ _,Nat.zero_le _⟩ ?_
 rintro z w2 ⟨q2,hz⟩
 have z2:=q2.size
 refine kpC [(1,_),(22,_),(23,_)] (.c3 rfl rfl rfl) (sr (lt' rfl rfl (nn (sq (cd rfl (λc0=>?_) (λc0=>?_))))))
 ·have hlz:=z1s (v7o hF0 z)
  have hlzM:=(v7o hF0 z).len_le
  unfold maxLen at hlzM
  refine sk (tn (sq (bl (sr (u0e rfl rfl underlying231 u2g z6t (j5c (by omega)) rfl (asg rfl (nn (sr (mv rfl (lnS rfl underlying37 (mv rfl (nn (bl ?_)))))))))))))
  refine lpK (ι:=Nat) [(1,_),(22,_),(23,_),(26,_),(27,_)] (λn=>[(28,.int .i64 (n:Int))]) (λn w'=>Fr [] w2 w'/\n<=(hfl q z).length) (λn=>(hfl q z).length-n) 0 (.c6 rfl rfl rfl rfl rfl rfl) ⟨Fr.refl _ _,Nat.zero_le _⟩ ?_
  rintro n w3 ⟨q3,hn⟩
  have z3:=q3.size
  refine kpC [(1,_),(22,_),(23,_),(26,_),(27,_),(28,_)] (.c6 rfl rfl rfl rfl rfl rfl) (sr (lt' rfl rfl (nn (sq (cd rfl (λc1=>?_) (λc1=>?_))))))
  ·refine sk (tn (sq (bl (sr ?_))))
   replace hF:=hF0.ext (q1.n2 q2 q3)
   refine z1a (id0) rfl (v7o hF z) rfl z5v z1f (λad30 hc30=>?_)
   refine z1j rfl (hc30 _ (v7o hF z)) z3g (al y2s rfl rfl (λg6 w4 hg6 hb6 q4 z4=>?_))
   refine z0j (vs:=[_,_]) rfl rfl hb6 y1n (λw5 hb6 q5 z5=>?_) (h1:=(by first|(simp [Value.oneCell',S];done)|exact z5o.one _|exact z1h.one _))
   refine nn (sr (fad rfl z8l ?_))
   replace hb1:=(hb1.ext (q2.n2 q3 q4)).fr q5
   refine z0i rfl hb1 rfl x1r (z0n rfl hb6 z3g ?_)
   replace hF:=hF0.ext (q1.z4 q2 q3 q4 q5)
   refine cl (ev2 rfl rfl) (mkC func138) (x4j ((hfl q z).getD n id0) _ _ _ hF.t hF.tt (by omega) (by have h:=hp.has _ (j1r z (z0x (d:=id0) (i:=n) (by omega)));have:=h.1;have:=h.2.1;omega)) rfl ?_
   rintro _ w6 ⟨rfl,q6⟩
   have z6:=q6.size
   refine nt' rfl (nn (cd rfl (λc2=>?_) (λc2=>?_)))
   ·refine sr (asg rfl (kpL [(2,_)] (.cons rfl .nil) (nn (rt (rb (tr (tr (rb (rb (tr (tr (rb (tr (r1 results101 rfl ?_))))))))))))))
    exact absurd (hp.has _ (j1r z (z0x (d:=id0) (i:=n) (by omega)))) (by simpa using c2)
   refine sk (bn' (tn (rg (z0y rfl rfl (wi6 (by omega)) (mv rfl (nl ?_))))))
   exact lpE (n+1) (.c6 rfl rfl rfl rfl rfl rfl) ⟨(q3.z3 q4 q5 q6),by omega⟩ (by omega)
  obtain rfl:n=(hfl q z).length:=by omega
  refine ex (te (te (xh (bn' (tn (rg (z0y rfl rfl (wi6 (by omega)) (mv rfl (nl ?_)))))))))
  exact lpE (z+1) (.c3 rfl rfl rfl) ⟨(q2.n1 q3),by omega⟩ (by omega)
 obtain rfl:z=2:=by omega
 refine ex (te (te (xh (tn (sq (sr (fad rfl z9v ?_)))))))
 replace hb1:=hb1.ext q2
 refine z0i rfl hb1 rfl z6t (lnS rfl underlying37 (mv rfl (nn (bl ?_))))
 refine lpK (ι:=Nat) [(1,_),(40,_),(41,_)] (λi=>[(42,.int .i64 (i:Int))]) (λi w'=>Fr [] w2 w'/\i<=q.fs.length) (λi=>q.fs.length-i) 0 (.c4 rfl rfl rfl rfl) ⟨Fr.refl _ _,Nat.zero_le _⟩ ?_
 rintro i w7 ⟨q7,hi⟩
 have z7:=q7.size
 refine kpC [(1,_),(40,_),(41,_),(42,_)] (.c4 rfl rfl rfl rfl) (sr (lt' rfl rfl (nn (sq (cd rfl (λc3=>?_) (λc3=>?_))))))
 ·have hcs:=hp.asc i
  refine sk (tn (sq (bl (sr (mv rfl ?_)))))
  replace hF:=hF0.ext (q1.n2 q2 q7)
  refine z1a (id0) rfl hF.f rfl z5v z1f (λad45 hc45=>?_)
  refine z1j rfl (hc45 _ hF.f) z3g (al y2s rfl rfl (λg8 w8 hg8 hb8 q8 z8=>?_))
  refine asg rfl (z0j (vs:=[_,_]) rfl rfl hb8 y1n (λw9 hb8 q9 z9=>?_) (h1:=(by first|(simp [Value.oneCell',S];done)|exact z5o.one _|exact z1h.one _)))
  refine nn (sq ?_)
  replace hF:=hF0.ext (q1.z4 q2 q7 q8 q9)
  replace hb1:=(hb1.ext (q7.n1 q8)).fr q9
  intro a h
  refine z0h none (λwb w'=>Fr [] wb w') z2r ?_;intro w10 q10
  have z10:=q10.size
  replace hF:=hF.ext q10
  replace hb1:=hb1.ext q10
  replace hb8:=hb8.ext q10
  have hC:Fr [] w10 w10:=Fr.refl _ _
  have hF_b:=hF
  have hb1_b:=hb1
  have hb8_b:=hb8
  refine z0e 0 h rfl rfl λa h=>v0a 1 hC h wn rfl rfl rfl rfl λa h=>z0e 2 h rfl rfl λa h=>?_
  refine gSp (D:=49) h rfl ?_ ?_
  ·clear h;intro g0 h
   refine z0c 3 h rfl z9v rfl ?_ (hG:=(wy rfl));clear h a;intro a h
   refine z0l 4 h rfl (λ_ hw=>hb1_b.ext hw) rfl z6t rfl ?_ (hG:=(wy rfl));clear h a;intro a h
   refine z0e 5 h rfl rfl ?_ (hG:=(wy rfl));clear h a;intro a h
   refine z2y 6 h (wy rfl) rfl rfl (by first|exact i6 (by omega)|rfl) rfl λa h=>z1k (p:=(i-1)) (id0) 7 h rfl hF.f rfl z5v rfl ?_ (hG:=(wy rfl));clear h a;intro ad54 hc54 a h
   refine z2l 8 h (wy rfl) rfl (λ_ hw=>hc54 _ (hF_b.f.ext hw)) z3g rfl λa h=>z0t 9 h rfl (λ_ hw=>hb8_b.ext hw) z3g rfl ?_ (hG:=(wy rfl));clear h a;intro a h
   refine z0d 10 rfl ?_
   refine y3n h rfl rfl rfl rfl rfl rfl ?_
   refine z0m h (z0a rfl (z0a rfl z0g)) j1w (y0c (q.fs.getD (i-1) id0) (q.fs.getD i id0) _) ?_;rintro _ w11 ⟨rfl,q11⟩ a h
   have z11:=q11.size
   replace hF:=hF.ext q11
   replace hb1:=hb1.ext q11
   replace hb8:=hb8.ext q11
   replace hC:=hC.next q11
   refine z0b ?_
   refine v8w 11 hC h (wy rfl) rfl rfl rfl rfl λa h=>z0d 12 rfl ?_
   refine z5j h rfl rfl rfl rfl λa h=>?_
   refine z0b ?_
   refine z0r ?_
   clear hC hF_b hb1_b hb8_b
   refine bk (h.sub (L':=[(1,_),(40,_),(41,_),(42,_),(59,_)]) (.c5 rfl rfl rfl rfl rfl)) (tn (cd rfl (λc4=>?_) (λc4=>?_)))
   ·refine sr (asg rfl (nn (rt (rb (tr (tr (rb (tr (r1 results101 rfl ?_)))))))))
    exfalso;first|omega|(have:=hcs (by omega) (by omega);omega)
   refine sk (bn' (tn (rg (z0y rfl rfl (wi6 (by omega)) (mv rfl (nl ?_))))))
   exact lpE (i+1) (.c4 rfl rfl rfl rfl) ⟨(q7.z4 q8 q9 q10 q11),by omega⟩ (by omega)
  clear h;intro g0 h
  refine z2h 3 h rfl rfl rfl λa h=>z2h 4 h rfl rfl rfl λa h=>z2h 5 h rfl rfl rfl λa h=>z2h 6 h rfl rfl rfl λa h=>z2h 7 h rfl rfl rfl λa h=>z2h 8 h rfl rfl rfl λa h=>z2h 9 h rfl rfl rfl λa h=>z2h 10 h rfl rfl rfl λa h=>z2h 11 h rfl rfl rfl λa h=>z0d 12 rfl ?_
  refine z4j h rfl rfl rfl rfl λa h=>?_
  refine z0b ?_
  refine z0r ?_
  clear hC hF_b hb1_b hb8_b
  refine bk (h.sub (L':=[(1,_),(40,_),(41,_),(42,_),(59,_)]) (.c5 rfl rfl rfl rfl rfl)) (tn (cf rfl (sk (bn' (tn (rg (z0y rfl rfl (wi6 (by omega)) (mv rfl (nl ?_)))))))))
  exact lpE (i+1) (.c4 rfl rfl rfl rfl) ⟨(q7.z3 q8 q9 q10),by omega⟩ (by omega)
 obtain rfl:i=q.fs.length:=by omega
 refine ex (te (te (xh (tn (sr (y6h idV (.int .i64 0) rfl (λg61 w12 hg61 hm q12 z12=>(al j3m rfl rfl (λg9 w13 hg9 hb9 q13 z13=>(z5u rfl rfl hb9 rfl j3z (λw14 hb9 q14 z14=>(nn (sr (z7l z0g (ev1 rfl) rfl (asg rfl (nn (sr (mv rfl (fad rfl y6b ?_)))))))))))))))))))
 replace hb1:=(hb1.ext (q7.n2 q12 q13)).fr q14
 refine z0i rfl hb1 rfl z6t ?_
 replace hF:=hF0.ext (q1.z5 q2 q7 q12 q13 q14)
 replace hm:=(hm.ext q13).fr q14 (by intro k hk hb;simp at hk hb;omega)
 refine clv (us:=[]) (ws:=[.pointer (some ⟨g9,0,none⟩)]) rfl (ev1 rfl) (mkC func139) (x4c g9 g61 [] _ _ w0 _ hF0.h (by omega) hF.h hb9 hm (λk hk=>v2u (a:=[]) (b:=q.hs) (λi=>(by have:=hp.le i;simp only [List.count_append,List.nil_append] at this ⊢;omega)) _ ⟨q.hs.drop k,by simp⟩)) rfl (by intro g e;cases e) ?_
 rintro V66 w15 ⟨hm,q15⟩
 have z15:=q15.size
 refine nn (sr (mv rfl (fad rfl z9v ?_)))
 replace hb1:=hb1.fr q15
 refine z0i rfl hb1 rfl z6t ?_
 replace hF:=hF0.ext (q1.z6 q2 q7 q12 q13 q14 q15)
 replace hb9:=hb9.fr q15
 refine clv (us:=[]) (ws:=[.pointer (some ⟨g9,0,none⟩)]) rfl (ev1 rfl) (mkC func139) (x4c g9 g61 ([]++q.hs) _ _ w0 _ hF0.f (by omega) hF.f hb9 hm (λk hk=>v2u (a:=q.hs) (b:=q.fs) (λi=>(by have:=hp.le i;simp only [List.count_append] at this ⊢;omega)) _ ⟨q.fs.drop k,by simp⟩)) rfl (by intro g e;cases e) ?_
 rintro V70 w16 ⟨hm,q16⟩
 have z16:=q16.size
 refine nn (sq (sr (fad rfl z8l ?_)))
 replace hb1:=hb1.fr q16
 refine z0i rfl hb1 rfl x1r (lnS rfl underlying35 (mv rfl (nn (bl ?_))))
 refine lpK (ι:=Nat) [(1,_),(9,_),(10,_),(72,_),(73,_)] (λy=>[(74,.int .i64 (y:Int))]) (λy w'=>Fr [g61] w16 w'/\y<=q.ts.length/\MapZ idV w' g61 (.int .i64 0) (y7b ((q.hs++q.fs)++(z9d (z2c q.ts) y 0)))) (λy=>q.ts.length-y) 0 (.c6 rfl rfl rfl rfl rfl rfl) ⟨Fr.refl _ _,⟨Nat.zero_le _,by rw [v3v,List.append_nil];exact hm⟩⟩ ?_
 rintro y w17 ⟨q17,⟨hy,hm⟩⟩
 have z17:=q17.size
 refine kpC [(1,_),(9,_),(10,_),(72,_),(73,_),(74,_)] (.c6 rfl rfl rfl rfl rfl rfl) (sr (lt' rfl rfl (nn (sq (cd rfl (λc5=>?_) (λc5=>?_))))))
 ·have hr1:=z4s hF0.tt y
  have hM1:=(hF0.tt _ (z0x (d:=tq0) (i:=y) (by omega))).1.len_le
  unfold maxLen at hM1
  refine sk (tn (sq (bl (sr ?_))))
  replace hF:=hF0.ext (((q1.z6 q2 q7 q12 q13 q14 q15).z1 q16).z1 q17)
  refine z1a (tq0) rfl hF.t rfl y5d z1f (λad76 hc76=>?_)
  refine z1i rfl (hc76 _ hF.t) x2r (asg rfl (nn (sr (mv rfl (lnS rfl underlying46 (mv rfl (nn (bl ?_))))))))
  refine lpK (ι:=Nat) [(1,_),(9,_),(10,_),(72,_),(73,_),(74,_),(78,_),(79,_)] (λn=>[(80,.int .i64 (n:Int))]) (λn w'=>Fr [g61] w17 w'/\n<=(q.ts.getD y tq0).2.length/\MapZ idV w' g61 (.int .i64 0) (y7b ((q.hs++q.fs)++(z9d (z2c q.ts) y n)))) (λn=>(q.ts.getD y tq0).2.length-n) 0 (.d8 rfl rfl rfl rfl rfl rfl rfl rfl (.cons rfl .nil)) ⟨Fr.refl _ _,⟨Nat.zero_le _,hm⟩⟩ ?_
  rintro n w18 ⟨q18,⟨hn,hm⟩⟩
  have z18:=q18.size
  refine kpC [(1,_),(9,_),(10,_),(72,_),(73,_),(74,_),(78,_),(79,_),(80,_)] (.d8 rfl rfl rfl rfl rfl rfl rfl rfl (.cons rfl .nil)) (sr (lt' rfl rfl (nn (sq (cd rfl (λc6=>?_) (λc6=>?_))))))
  ·have hln:=z1s (z7h hF0.tt (y:=y) (n:=n) (by omega) (by omega)).1
   have hcb:∀k,k<((q.ts.getD y tq0).2.getD n lq0).ths.length->(((q.hs++q.fs)++z9d (z2c q.ts) y n)++((q.ts.getD y tq0).2.getD n lq0).ths.take k).count (((q.ts.getD y tq0).2.getD n lq0).ths.getD k id0)<=100000:=λk hk=>by
    have hc1:=x4x (k:=k) hv.thr (y:=y) (n:=n) (by omega) (by omega) hk
    have hc2:=hp.le (((q.ts.getD y tq0).2.getD n lq0).ths.getD k id0)
    rw [List.count_append] at hc2
    rw [List.count_append,List.count_append]
    rw [List.count_append,List.count_append,List.count_singleton,if_pos (by simp)] at hc1
    omega
   refine sk (tn (sq (bl (sr ?_))))
   replace hF:=hF0.ext ((((q1.z6 q2 q7 q12 q13 q14 q15).z1 q16).z1 q17).z1 q18)
   refine z1a (lq0) rfl (hF.tt _ (z0x (d:=tq0) (i:=y) (by omega))).1 rfl x9b z1f (λad82 hc82=>?_)
   refine z1j rfl (hc82 _ (hF.tt _ (z0x (d:=tq0) (i:=y) (by omega))).1) v5g (al u1m rfl rfl (λg14 w19 hg14 hb14 q19 z19=>?_))
   refine z0j (vs:=[_,_,_,_]) rfl rfl hb14 u6t (λw20 hb14 q20 z20=>?_) (h1:=(by first|(simp [Value.oneCell',S];done)|exact z5o.one _|exact z1h.one _))
   refine nn (rg (mv rfl (fad rfl z7y (z0i rfl hb14 rfl z6t ?_))))
   replace hF:=hF0.ext ((((q1.z6 q2 q7 q12 q13 q14 q15).z1 q16).z1 q17).z3 q18 q19 q20)
   replace hb9:=((((hb9.fr q16).fr q17).fr q18).ext q19).fr q20
   replace hm:=(hm.ext q19).fr q20 (by intro k hk hb;simp at hk hb;omega)
   refine clv (us:=[]) (ws:=[.pointer (some ⟨g9,0,none⟩)]) rfl (ev1 rfl) (mkC func139) (x4c g9 g61 ((q.hs++q.fs)++z9d (z2c q.ts) y n) _ _ w0 _ (z7h hF0.tt (y:=y) (n:=n) (by omega) (by omega)).1 (by omega) (z7h hF.tt (y:=y) (n:=n) (by omega) (by omega)).1 hb9 hm (λk hk=>hcb k hk)) rfl (by intro g e;cases e) ?_
   rintro V87 w21 ⟨hm,q21⟩
   have z21:=q21.size
   refine nl (bn' (tn (rg (z0y rfl rfl (wi6 (by omega)) (mv rfl (nl ?_))))))
   exact lpE (n+1) (.d8 rfl rfl rfl rfl rfl rfl rfl rfl (.cons rfl .nil)) ⟨((Fr.refl [g61] _).z4 q18 q19 q20 q21),⟨by omega,by rw [y6e (by omega),<-List.append_assoc];exact hm⟩⟩ (by omega)
  obtain rfl:n=(q.ts.getD y tq0).2.length:=by omega
  refine ex (te (te (xh (bn' (tn (rg (z0y rfl rfl (wi6 (by omega)) (mv rfl (nl ?_)))))))))
  exact lpE (y+1) (.c6 rfl rfl rfl rfl rfl rfl) ⟨((Fr.refl [g61] _).z2 q17 q18),⟨by omega,by rw [y5y (by omega)];exact hm⟩⟩ (by omega)
 obtain rfl:y=q.ts.length:=by omega
 rw [u0a (by rw [z6n];omega)] at hm
 refine ex (te (te (xh (tn (sq (sr (fad rfl z8l ?_)))))))
 replace hb1:=hb1.fr q17
 refine z0i rfl hb1 rfl x1r (lnS rfl underlying35 (mv rfl (kpL [(9,_),(91,_),(92,_),(93,_)] (.c4 rfl rfl rfl rfl) (nn (bl ?_)))))
 refine lpK (ι:=Nat) [(9,_),(91,_),(92,_)] (λy=>[(93,.int .i64 (y:Int))]) (λy w'=>Fr [] w17 w'/\y<=q.ts.length) (λy=>q.ts.length-y) 0 (.c4 rfl rfl rfl rfl) ⟨Fr.refl _ _,Nat.zero_le _⟩ ?_
 rintro y w22 ⟨q22,hy⟩
 have z22:=q22.size
 refine kpC [(9,_),(91,_),(92,_),(93,_)] (.c4 rfl rfl rfl rfl) (sr (lt' rfl rfl (nn (sq (cd rfl (λc7=>?_) (λc7=>?_))))))
 ·have hr1:=z4s hF0.tt y
  have hM1:=(hF0.tt _ (z0x (d:=tq0) (i:=y) (by omega))).1.len_le
  unfold maxLen at hM1
  refine sk (tn (sq (bl (sr (mv rfl ?_)))))
  replace hF:=hF0.ext ((((q1.z6 q2 q7 q12 q13 q14 q15).z1 q16).z1 q17).n1 q22)
  refine z1a (tq0) rfl hF.t rfl y5d z1f (λad96 hc96=>?_)
  refine z1i rfl (hc96 _ hF.t) x2r (asg rfl (asg rfl (nn (sr (mv rfl (lnS rfl underlying46 (mv rfl (nn (bl ?_)))))))))
  refine lpK (ι:=Nat) [(9,_),(15,_),(91,_),(92,_),(93,_),(99,_)] (λn=>[(100,.int .i64 (n:Int))]) (λn w'=>Fr [] w22 w'/\n<=(q.ts.getD y tq0).2.length) (λn=>(q.ts.getD y tq0).2.length-n) 0 (.c7 rfl rfl rfl rfl rfl rfl rfl) ⟨Fr.refl _ _,Nat.zero_le _⟩ ?_
  rintro n w23 ⟨q23,hn⟩
  have z23:=q23.size
  refine kpC [(9,_),(15,_),(91,_),(92,_),(93,_),(99,_),(100,_)] (.c7 rfl rfl rfl rfl rfl rfl rfl) (sr (lt' rfl rfl (nn (sq (cd rfl (λc8=>?_) (λc8=>?_))))))
  ·have hon:=hp.once y (by omega) n (by rw [z3c];omega)
   refine sk (tn (sq (bl (sr (mv rfl (asg rfl (nn (sr ?_))))))))
   replace hb9:=((hb9.fr q16).fr q17).ext (q22.n1 q23)
   refine z3w rfl hb9 u8v (mv rfl (z0y rfl rfl (wi6 (by omega)) (z5h rfl (us underlying3) underlying5 (wi8 (by omega)) (mv rfl (z1r (cs:=[_,_]) (ev2 rfl rfl) u8j (z0f rfl rfl rfl (z0f rfl rfl rfl z0s)) rfl ?_)))))
   replace hm:=hm.ext (q22.n1 q23)
   refine y3g (V:=idV) (z:=(.int .i64 0)) (k:=(⟨(y:Int)+1,(n:Int)⟩:LId)) (v:=.int .i64 (((((q.hs++q.fs)++y0v (z2c q.ts))).count (⟨(y:Int)+1,(n:Int)⟩:LId):Nat):Int)) rfl rfl hm z5n underlying232 zvI rfl rfl (ne' rfl rfl (kpL [(9,_),(15,_),(91,_),(92,_),(93,_),(99,_),(100,_),(110,_)] (.c8 rfl rfl rfl rfl rfl rfl rfl rfl) (nn (cd rfl (λc9=>?_) (λc9=>?_)))))
   ·refine sr (asg rfl (kpL [(2,_)] (.cons rfl .nil) (nn (rt (rb (tr (tr (rb (rb (tr (tr (rb (tr (r1 results101 rfl ?_))))))))))))))
    exfalso;omega
   refine sk (bn' (tn (rg (z0y rfl rfl (wi6 (by omega)) (mv rfl (nl ?_))))))
   exact lpE (n+1) (.c7 rfl rfl rfl rfl rfl rfl rfl) ⟨q23,by omega⟩ (by omega)
  obtain rfl:n=(q.ts.getD y tq0).2.length:=by omega
  refine ex (te (te (xh (bn' (tn (rg (z0y rfl rfl (wi6 (by omega)) (mv rfl (nl ?_)))))))))
  exact lpE (y+1) (.c4 rfl rfl rfl rfl) ⟨(q22.n1 q23),by omega⟩ (by omega)
 obtain rfl:y=q.ts.length:=by omega
 refine ex (te (te (xh (tn (sr (asg rfl (nn (rt (r1 results101 rfl ?_)))))))))
 exact ⟨_,rfl,rfl,((((q1.z6 q2 q7 q12 q13 q14 q15).z1 q16).z1 q17).n1 q22)⟩
theorem x5p (q:FbQ) (w0:World) (hF:FbAt w0 q) (h6:q.ts.length=6) (hv:TabV (z2c q.ts)) (hc:CrsV (z2c q.ts) q.cs) (hp:PlaceV (z2c q.ts) q.hs q.fs):Rets prog 45 #[.agg #[.slice q.t.1 q.t.2.1 q.t.2.2,.slice q.c.1 q.c.2.1 q.c.2.2,.slice q.h.1 q.h.2.1 q.h.2.2,.slice q.f.1 q.f.2.1 q.f.2.2]] w0 λr w'=>r=.int .i64 0/\Fr [] w0 w':=by
 refine we [(0,.agg #[.slice q.t.1 q.t.2.1 q.t.2.2,.slice q.c.1 q.c.2.1 q.c.2.2,.slice q.h.1 q.h.2.1 q.h.2.2,.slice q.f.1 q.f.2.1 q.f.2.2])] func45 rfl ntmps45 rfl (.cons rfl .nil) ?_
 have hF0:=hF
 refine sr (bx rfl rfl rfl (λg1 w1 hg1 hb1 q1 z1=>(asg rfl (nn (sq (sr (fad rfl z8l (z0i rfl hb1 rfl x1r ?_))))))))
 replace hF:=hF0.ext q1
 refine cl (ev1 rfl) (mkC func99) (u2r _ _ _ hF.t hF.tt h6 hv) rfl ?_
 rintro _ w2 ⟨rfl,q2⟩
 refine asg rfl (nn (sr (mv rfl (ne' rfl rfl (nn (cd rfl (λc0=>?_) (λc0=>?_)))))))
 ·refine sr (mv rfl (asg rfl (nn (rt (tr (r1 results45 rfl ?_))))))
  exact absurd rfl (by assumption)
 refine sk (tn (sq (sr ?_)))
 replace hb1:=hb1.ext q2
 refine z0n rfl hb1 x9a ?_
 replace hF:=hF0.ext (q1.n1 q2)
 refine cl (ev1 rfl) (mkC func100) (x8r q _ hF h6 hc) rfl ?_
 rintro _ w3 ⟨rfl,q3⟩
 refine asg rfl (nn (sr (mv rfl (ne' rfl rfl (nn (cd rfl (λc1=>?_) (λc1=>?_)))))))
 ·refine sr (mv rfl (asg rfl (nn (rt (tr (r1 results45 rfl ?_))))))
  exact absurd rfl (by assumption)
 refine sk (tn (sr ?_))
 replace hb1:=hb1.ext q3
 refine z0n rfl hb1 x9a ?_
 replace hF:=hF0.ext (q1.n2 q2 q3)
 refine cl (ev1 rfl) (mkC func101) (x8g q _ hF h6 hv hp) rfl ?_
 rintro _ w4 ⟨rfl,q4⟩
 refine asg rfl (nn (rt (r1 results45 rfl ?_)))
 exact ⟨_,rfl,rfl,(q1.n3 q2 q3 q4)⟩
theorem v1m (v:Value) (l:List Pa) (w0:World) (hs:Sl z1t w0 v l) (hl:l.length<=100000):Rets prog 108 #[v] w0 λr w'=>∃g,r=.slice (some ⟨g,0,none⟩) l.length l.length/\w0.heap.size<=g/\Lw.Own z1t 100 w0.heap.size w' r l/\Fr [] w0 w':=by
 obtain ⟨A,c,rfl,hcc,hM,hA⟩:=id hs
 clear hA
 unfold maxLen at hM
 refine we [(0,.slice A l.length c)] func108 rfl ntmps108 rfl (.cons rfl .nil) ?_
 have hs0:=hs
 refine sr (asg rfl (nn (sr (mv rfl (lnS rfl underlying54 (z1e (m:=l.length) (c:=l.length) (pa0) rfl rfl z9c y5e rfl (λg6 w1 hg6 ho q1 z1=>(asg rfl (nn (sr (mv rfl (mv rfl ?_))))))))))))
 replace hs:=hs0.ext q1
 refine z6z (zs:=List.replicate l.length pa0) (by rw [List.length_replicate];rfl) rfl (by rw [List.length_replicate];exact ho) hs (by rw [List.length_replicate]) z9c (λw2 ho q2 z2=>?_)
 rw [List.length_replicate] at ho
 refine nn (sr (mv rfl (asg rfl (nn (rt (r1 results108 rfl ?_))))))
 exact ⟨_,rfl,g6,rfl,by omega,ho.low (by omega),(q1.z1 q2)⟩
theorem v0w (v:Value) (l:List LpQ) (w0:World) (hs:Sl z5o w0 v l) (hl:l.length<=100000):Rets prog 75 #[v] w0 λr w'=>∃g,r=.slice (some ⟨g,0,none⟩) l.length l.length/\w0.heap.size<=g/\Lw.Own z5o 89 w0.heap.size w' r l/\Fr [] w0 w':=by
 obtain ⟨A,c,rfl,hcc,hM,hA⟩:=id hs
 clear hA
 unfold maxLen at hM
 refine we [(0,.slice A l.length c)] func75 rfl ntmps75 rfl (.cons rfl .nil) ?_
 have hs0:=hs
 refine sr (asg rfl (nn (sr (mv rfl (lnS rfl underlying46 (z1e (m:=l.length) (c:=l.length) (lq0) rfl rfl x9b u1m rfl (λg6 w1 hg6 ho q1 z1=>(asg rfl (nn (sr (mv rfl (mv rfl ?_))))))))))))
 replace hs:=hs0.ext q1
 refine z6z (zs:=List.replicate l.length lq0) (by rw [List.length_replicate];rfl) rfl (by rw [List.length_replicate];exact ho) hs (by rw [List.length_replicate]) x9b (λw2 ho q2 z2=>?_)
 rw [List.length_replicate] at ho
 refine nn (sr (mv rfl (asg rfl (nn (rt (r1 results75 rfl ?_))))))
 exact ⟨_,rfl,g6,rfl,by omega,ho.low (by omega),(q1.z1 q2)⟩
theorem v0z (v:Value) (l:List Cx) (w0:World) (hs:Sl z4t w0 v l) (hl:l.length<=100000000):Rets prog 77 #[v] w0 λr w'=>∃g,r=.slice (some ⟨g,0,none⟩) l.length l.length/\w0.heap.size<=g/\Lw.Own z4t 109 w0.heap.size w' r l/\Fr [] w0 w':=by
 obtain ⟨A,c,rfl,hcc,hM,hA⟩:=id hs
 clear hA
 unfold maxLen at hM
 refine we [(0,.slice A l.length c)] func77 rfl ntmps77 rfl (.cons rfl .nil) ?_
 have hs0:=hs
 refine sr (asg rfl (nn (sr (mv rfl (lnS rfl underlying36 (z1e (m:=l.length) (c:=l.length) (cx0) rfl rfl v9y v3d rfl (λg6 w1 hg6 ho q1 z1=>(asg rfl (nn (sr (mv rfl (mv rfl ?_))))))))))))
 replace hs:=hs0.ext q1
 refine z6z (zs:=List.replicate l.length cx0) (by rw [List.length_replicate];rfl) rfl (by rw [List.length_replicate];exact ho) hs (by rw [List.length_replicate]) v9y (λw2 ho q2 z2=>?_)
 rw [List.length_replicate] at ho
 refine nn (sr (mv rfl (asg rfl (nn (rt (r1 results77 rfl ?_))))))
 exact ⟨_,rfl,g6,rfl,by omega,ho.low (by omega),(q1.z1 q2)⟩
theorem u2d (v:Value) (l:List YQ) (w0:World) (hs:Sl z2s w0 v l) (hl:l.length<=100000):Rets prog 107 #[v] w0 λr w'=>∃g,r=.slice (some ⟨g,0,none⟩) l.length l.length/\w0.heap.size<=g/\Lw.Own z2s 82 w0.heap.size w' r l/\Fr [] w0 w':=by
 obtain ⟨A,c,rfl,hcc,hM,hA⟩:=id hs
 clear hA
 unfold maxLen at hM
 refine we [(0,.slice A l.length c)] func107 rfl ntmps107 rfl (.cons rfl .nil) ?_
 have hs0:=hs
 refine sr (asg rfl (nn (sr (mv rfl (lnS rfl underlying33 (z1e (m:=l.length) (c:=l.length) (yq0) rfl rfl y1r y1j rfl (λg6 w1 hg6 ho q1 z1=>(asg rfl (nn (sr (mv rfl (mv rfl ?_))))))))))))
 replace hs:=hs0.ext q1
 refine z6z (zs:=List.replicate l.length yq0) (by rw [List.length_replicate];rfl) rfl (by rw [List.length_replicate];exact ho) hs (by rw [List.length_replicate]) y1r (λw2 ho q2 z2=>?_)
 rw [List.length_replicate] at ho
 refine nn (sr (mv rfl (asg rfl (nn (rt (r1 results107 rfl ?_))))))
 exact ⟨_,rfl,g6,rfl,by omega,ho.low (by omega),(q1.z1 q2)⟩
theorem u4m {rs qs:List IQ} {n:Nat} (hn:n<=qs.length) (hmt:(plB qs).take n=trimB (plB qs)) (hl:rs.length=n) (h:∀j,j<n->(rs.getD j iq0).2=(qs.getD j iq0).2):plB rs=trimB (plB qs):=by
 rw [<-hmt]
 refine List.ext_getElem (by simp [hl,hn]) λj h1 h2=>?_
 have hj:j<n:=by simpa [hl] using h1
 have:=h j hj
 rw [List.getD,List.getD,List.getElem?_eq_getElem (by omega),List.getElem?_eq_getElem (by omega)] at this
 simpa [plB] using this
set_option maxHeartbeats 2000000 in
theorem y3z (v:Value) (qs:List IQ) (w0:World) (hs:Sl z6r w0 v qs) (hk:IqAt w0 qs) (hl:qs.length<=40) (h4:z9q qs):Rets prog 60 #[v] w0 λr w'=>(∃fs,RwO 37 87 w0.heap.size w' r fs/\plB fs=trimB (plB qs)/\∃g,r=.slice (some ⟨g,0,none⟩) fs.length fs.length)/\Fr [] w0 w':=by
 obtain ⟨A,c,rfl,hcc,hM,hA⟩:=id hs
 clear hA
 unfold maxLen at hM
 refine we [(0,.slice A qs.length c)] func60 rfl ntmps60 rfl (.cons rfl .nil) ?_
 have hs0:=hs
 have hk0:=hk
 refine sr (asg rfl (nn (sr (mv rfl (lnS rfl underlying30 (asg rfl (nn (sq (bl ?_)))))))))
 refine lpK (ι:=Nat) [(0,_)] (λn=>[(3,.int .i64 (n:Int))]) (λn w'=>Fr [] w0 w'/\n<=qs.length/\∀j,n<=j->(qs.getD j iq0).2=[]) (λn=>n) qs.length (.c2 rfl rfl) ⟨Fr.refl _ _,⟨Nat.le_refl _,λj hj=>x7g hj⟩⟩ ?_
 rintro n w1 ⟨q1,⟨hn,hem⟩⟩
 have z1:=q1.size
 refine kpC [(0,_),(3,_)] (.c2 rfl rfl) ?_
 have hql:=z1s (z1z hk0 (n-1))
 refine sq (sq ?_)
 refine rbo (r:=18) (L':=[(0,_),(3,_)]) (((0<(n:Int))/\(((qs.getD (n-1) iq0).1.2.1:Int)=0))) (.c2 rfl rfl) ?_ ?_
 ·refine mv rfl (gt' rfl rfl (mv rfl (gs 10 rfl (λg0=>?_) (λg0=>?_))))
  ·refine gY rfl (mv rfl (gY rfl (mv rfl (gY rfl (z2u rfl rfl (wi6 (by omega)) (gY rfl ?_))))))
   replace hs:=hs0.ext q1
   refine z1a (p:=n-1) (iq0) rfl hs rfl y5b (by omega) (λad14 hc14=>?_)
   exact gY rfl (z1i rfl (hc14 _ hs) z6t (gY rfl (lnS rfl underlying37 (gY rfl (eq' rfl rfl (pkt rfl rfl (rbe rfl (.c2 rfl rfl))))))))
  exact gN rfl rfl (gN rfl rfl (gN rfl rfl (gN rfl rfl (gN rfl rfl (gN rfl rfl (gN rfl rfl (pkf rfl rfl (rbe rfl (.c2 rfl rfl)))))))))
 refine tn (cd rfl (λc0=>?_) (λc0=>?_))
 ·refine sk (tn (bl (rg (mv rfl (z2u rfl rfl (wi6 (by omega)) (asg rfl (nl (bn' ?_))))))))
  exact lpE (n-1) (.c2 rfl (congrArg (λz=>some (Value.int .i64 z)) (show (n:Int)-1=((n-1:Nat):Int) by omega))) ⟨q1,⟨by omega,λj hj=>by
   by_cases e:n<=j
   ·exact hem j e
   obtain rfl:j=n-1:=by omega
   exact List.eq_nil_of_length_eq_zero (by omega)⟩⟩ (by omega)
 have htr:=y1m (plB qs) n (by rw [List.length_map];exact hn) (λj hj=>by rw [z3x];exact hem j hj) (by
  by_cases e:n=0
  ·exact .inl e
  refine .inr λh=>c0 ⟨by omega,?_⟩
  rw [z3x] at h
  rw [h] at hql
  rw [hql];rfl)
 refine ex (te (te (xh (tn (sr (mv rfl (z1e (m:=n) (c:=n) (iq0) rfl rfl y5b j3u rfl (λg22 w2 hg22 ho q2 z2=>(asg rfl (nn (sq (sr (mv rfl (mv rfl (nn (bl ?_))))))))))))))))
 refine lpK (ι:=Nat×List IQ) [(0,_),(4,_),(23,_)] (λp=>[(24,.int .i64 (p.1:Int))]) (λp w'=>Fr [g22] w2 w'/\p.1<=n/\p.2.length=n/\Lw.Own z6r 37 w0.heap.size w' (.slice (some ⟨g22,0,none⟩) n n) p.2/\(∀j,j<p.1->(p.2.getD j iq0).2=(qs.getD j iq0).2)/\PreO 87 (g22+1) w' p.2 p.1) (λp=>n-p.1) (0,List.replicate n iq0) (.c4 rfl rfl rfl rfl) ⟨Fr.refl _ _,⟨Nat.zero_le _,by simp,ho.low (by omega),λj hj=>absurd hj (by simp),PreO.zero⟩⟩ ?_
 rintro ⟨i,ps⟩ w3 ⟨q3,⟨hi,hpl2,ho,hpp,hpo⟩⟩
 simp only at hi ho hpp hpo hpl2
 have z3:=q3.size
 refine kpC [(0,_),(4,_),(23,_),(24,.int .i64 (i:Int))] (.c4 rfl rfl rfl rfl) (sr (lt' rfl rfl (nn (sq (cd rfl (λc1=>?_) (λc1=>?_))))))
 ·refine sk (tn (sq (bl (sr (mv rfl (asg rfl (nn (rg (mv rfl (mv rfl (mv rfl (mv rfl ?_))))))))))))
  replace hs:=hs0.ext (q1.z2 q2 q3)
  refine z1a (iq0) rfl hs rfl y5b z1f (λad31 hc31=>?_)
  refine z1i rfl (hc31 _ hs) z6t ?_
  replace hk:=hk0.ext (q1.z2 q2 q3)
  refine cl (ev1 rfl) x0t (z3k _ (qs.getD i iq0).2 _ (z1z hk i) (by have:=z3h h4 i;omega)) rfl ?_
  rintro _ w4 ⟨g33,rfl,hg33,hX,q4⟩
  have z4:=q4.size
  replace ho:=ho.ext q4
  refine z8r (p:=i) (E:=z6r) rfl rfl y5b (z5b (i:=i) ((((some ⟨g33,0,none⟩,(qs.getD i iq0).2.length,(qs.getD i iq0).2.length),(qs.getD i iq0).2):IQ)) rfl rfl ho (by omega) rfl u2g (λw5 ho q5 z5=>(kpL [(0,_),(4,_),(23,_),(24,_)] (.c4 rfl rfl rfl rfl) (nl (bn' (tn (rg (z0y rfl rfl (wi6 (by omega)) (mv rfl (nl ?_))))))))))
  replace hpo:=(hpo.ext q4).fr q5 (by intro k hk;simp at hk;omega)
  replace hX:=hX.fr q5 (by intro k hk hb;simp [z0v] at hk hb;omega)
  exact lpE ((i+1,ps.set i (((some ⟨g33,0,none⟩,(qs.getD i iq0).2.length,(qs.getD i iq0).2.length),(qs.getD i iq0).2):IQ))) (.c4 rfl rfl rfl rfl) ⟨((Fr.refl [g22] _).z3 q3 q4 q5),⟨by simp only;omega,by simp only [List.length_set];exact hpl2,ho,λj hj=>by
   simp only at hj ⊢
   rw [z1g (by omega)]
   split
   ·rename_i e;subst e;rfl
   exact hpp j (by omega),hpo.put (by omega) (hX.low (by omega))⟩⟩ (by simp only;omega)
 obtain rfl:i=n:=by omega
 refine ex (te (te (xh (tn (sr (mv rfl (asg rfl (kpL [(2,_)] (.cons rfl .nil) (nn (rt (r1 results60 rfl ?_)))))))))))
 exact ⟨_,rfl,⟨ps,⟨hpl2▸ho,(hpl2.symm▸hpo).all (by omega)⟩,u4m hn htr hpl2 hpp,g22,by rw [hpl2]⟩,(q1.z2 q2 q3)⟩
def PreY (base:Nat) (w:World) (ys:List YQ) (i:Nat):Prop:=∀j,j<i->Lw.Own z1t 100 base w (slv (ys.getD j yq0).pe) (ys.getD j yq0).pes
theorem PreY.ext {base i:Nat} {w w':World} {ys:List YQ} (h:PreY base w ys i) (hf:Fr [] w w'):PreY base w' ys i:=λj hj=>(h j hj).ext hf
theorem PreY.fr {base i:Nat} {w w':World} {ys:List YQ} {S:List Nat} (h:PreY base w ys i) (hf:Fr S w w') (hS:∀k∈S,k<base):PreY base w' ys i:=λj hj=>(h j hj).fr hf λk hk hb=>by
 have:=hS k hk;have:=((h j hj).blk k hb).1;omega
theorem PreY.put {base i:Nat} {w:World} {ys:List YQ} {q:YQ} (h:PreY base w ys i) (hi:i<ys.length) (hq:Lw.Own z1t 100 base w (slv q.pe) q.pes):PreY base w (ys.set i q) (i+1):=λj hj=>by
 rw [z1g hi]
 split
 ·exact hq
 exact h j (by omega)
theorem y4l {α:Type} {l:List α} {i:Nat} (d:α) (h:i<l.length):l[i]?=some (l.getD i d):=by rw [List.getD,List.getElem?_eq_getElem h];rfl
theorem y2d {α β:Type} {f:α->β} {l:List α} {i:Nat} {x d:α} (h:f x=f (l.getD i d)):(l.set i x).map f=l.map f:=by
 rw [List.map_set]
 apply List.ext_getElem?
 intro j
 rw [List.getElem?_set]
 split
 ·rename_i e;subst e
  split
  ·rename_i hj
   rw [List.length_map] at hj
   rw [List.getElem?_map,List.getElem?_eq_getElem hj,h,List.getD,List.getElem?_eq_getElem hj];rfl
  rename_i hj
  rw [List.getElem?_eq_none (by omega)]
 rfl
theorem v1t {α:Type} {l m:List α} {i:Nat} {q d:α} (h:∀j,i<=j->l.getD j d=m.getD j d) (hi:i<l.length):∀j,i+1<=j->(l.set i q).getD j d=m.getD j d:=λj hj=>by
 rw [z1g hi,if_neg (by omega)];exact h j (by omega)
set_option maxHeartbeats 1000000 in
theorem y7c (v:Value) (ys:List YQ) (w0:World) (hs:Sl z2s w0 v ys) (hp:YsA w0 ys) (hl:ys.length<=1000) (hpl:∀i,(ys.getD i yq0).pes.length<=100000):Rets prog 61 #[v] w0 λr w'=>(∃g ps,r=.slice (some ⟨g,0,none⟩) ys.length ys.length/\w0.heap.size<=g/\YsO τd w0.heap.size w' r ps/\ps.length=ys.length/\ps.map YQ.p=ys.map YQ.p)/\Fr [] w0 w':=by
 obtain ⟨A,c,rfl,hcc,hM,hA⟩:=id hs
 clear hA
 unfold maxLen at hM
 refine we [(0,.slice A ys.length c)] func61 rfl ntmps61 rfl (.cons rfl .nil) ?_
 have hs0:=hs
 have hp0:=hp
 refine sr (asg rfl (nn (sr (mv rfl (cl (ev1 rfl) (mkC func107) (u2d _ ys _ hs (by omega)) rfl ?_)))))
 rintro _ w1 ⟨g6,rfl,hg6,ho,q1⟩
 have z1:=q1.size
 have hg6l:=(ho.blk g6 (by simp [z0v])).2
 refine asg rfl (nn (sq (sr (mv rfl (lnS rfl underlying33 (mv rfl (nn (bl ?_))))))))
 refine lpK (ι:=Nat×List YQ) [(3,_),(8,_)] (λp=>[(9,.int .i64 (p.1:Int))]) (λp w'=>Fr [g6] w1 w'/\p.1<=ys.length/\Lw.Own z2s 82 w0.heap.size w' (.slice (some ⟨g6,0,none⟩) ys.length ys.length) p.2/\p.2.length=ys.length/\p.2.map YQ.p=ys.map YQ.p/\(∀j,p.1<=j->p.2.getD j yq0=ys.getD j yq0)/\PreY (g6+1) w' p.2 p.1) (λp=>ys.length-p.1) (0,ys) (.c3 rfl rfl rfl) ⟨Fr.refl _ _,⟨Nat.zero_le _,ho.low (by omega),rfl,rfl,λ_ _=>rfl,λj hj=>absurd hj (by simp)⟩⟩ ?_
 rintro ⟨i,ps⟩ w2 ⟨q2,⟨hi,ho,hpl2,hpm,hpe,hpo⟩⟩
 simp only at hi ho hpl2 hpm hpe hpo
 have z2:=q2.size
 refine kpC [(3,_),(8,_),(9,.int .i64 (i:Int))] (.c3 rfl rfl rfl) (sr (lt' rfl rfl (nn (sq (cd rfl (λc0=>?_) (λc0=>?_))))))
 ·refine sk (tn (sq (bl (sr (mv rfl (asg rfl (nn (rg (mv rfl (mv rfl (mv rfl (mv rfl (z1a (yq0) rfl ho.sl rfl y1r z1f (λad16 hc16=>?_))))))))))))))
  refine fad rfl z8c (z7s rfl (hc16 _ ho.sl) rfl y6u ?_)
  replace hp:=hp0.ext (q1.z1 q2)
  refine cl (ev1 rfl) (mkC func108) (v1m _ (ys.getD i yq0).pes _ (by rw [hpe i (Nat.le_refl _)];exact hp i) (hpl i)) rfl ?_
  rintro _ w3 ⟨g19,rfl,hg19,hX,q3⟩
  have z3:=q3.size
  replace ho:=ho.ext q3
  refine z8r (p:=i) (E:=z2s) rfl rfl y1r (y2g rfl z8c ?_)
  refine v7e (E:=z2s) (i:=i) (f:=4) (ys.getD i yq0) ({ (ys.getD i yq0) with pe:=(some ⟨g19,0,none⟩,(ys.getD i yq0).pes.length,(ys.getD i yq0).pes.length) }:YQ) rfl rfl ho (by rw [<-hpe i (Nat.le_refl _)];exact y4l _ (by omega)) (by decide) rfl rfl rfl j4v (λw4 ho q4 z4=>?_)
  refine kpL [(3,_),(8,_),(9,_)] (.c3 rfl rfl rfl) (nl (bn' (tn (rg (z0y rfl rfl (wi6 (by omega)) (mv rfl (nl ?_)))))))
  replace hpo:=(hpo.ext q3).fr q4 (by intro k hk;simp at hk;omega)
  replace hX:=hX.fr q4 (by intro k hk hb;simp [z0v] at hk hb;omega)
  exact lpE ((i+1,ps.set i ({ (ys.getD i yq0) with pe:=(some ⟨g19,0,none⟩,(ys.getD i yq0).pes.length,(ys.getD i yq0).pes.length) }:YQ))) (.c3 rfl rfl rfl) ⟨((Fr.refl [g6] _).z3 q2 q3 q4),⟨by simp only;omega,ho,by simp only [List.length_set];exact hpl2,(y2d (d:=yq0) (by rw [hpe i (Nat.le_refl _)])).trans hpm,v1t hpe (by omega),hpo.put (by omega) (hX.low (by omega))⟩⟩ (by simp only;omega)
 obtain rfl:i=ys.length:=by omega
 refine ex (te (te (xh (tn (sr (mv rfl (asg rfl (nn (rt (r1 results61 rfl ?_))))))))))
 exact ⟨_,rfl,⟨g6,ps,rfl,by omega,⟨hpl2▸ho,λj hj=>(hpo j (by omega)).low (by omega)⟩,hpl2,hpm⟩,(q1.z1 q2)⟩
theorem zv46 (w:World):(zeroValue 46).run prog w=.ok (.slice none 0 0) w:=by kernel_rfl
def PreT (base:Nat) (w:World) (us:List TQ) (i:Nat):Prop:=(∀j,j<i->Lw.Own z5o 89 base w (slv (us.getD j tq0).1) (us.getD j tq0).2)/\(∀j k,j<i->k<i->j≠k->∀b∈z0v (slv (us.getD j tq0).1),b∉z0v (slv (us.getD k tq0).1))/\∀j,j<i->∀q∈(us.getD j tq0).2,LpO τd base w q
theorem PreT.fr {base i:Nat} {w w':World} {us:List TQ} {S:List Nat} (h:PreT base w us i) (hf:Fr S w w') (hS:∀k∈S,k<base):PreT base w' us i:=by
 have o:∀ {α:Type} {E:Enc α} {T:Nat} {v:Value} {ys:List α},Lw.Own E T base w v ys->Lw.Own E T base w' v ys:=λh'=>h'.fr hf λk hk hb=>by have:=hS k hk;have:=(h'.blk k hb).1;omega
 exact ⟨λj hj=>o (h.1 j hj),h.2.1,λj hj q hq=>⟨o (h.2.2 j hj q hq).1,o (h.2.2 j hj q hq).2⟩⟩
theorem PreT.put {base i:Nat} {w:World} {us:List TQ} {u:SV} {rs:List LpQ} (h:PreT base w us i) (hi:i<us.length) (ho:Lw.Own z5o 89 base w (slv u) rs) (hq:∀q∈rs,LpO τd base w q) (hn:∀j,j<i->∀b∈z0v (slv (us.getD j tq0).1),b∉z0v (slv u)):PreT base w (us.set i (u,rs)) (i+1):=by
 refine ⟨λj hj=>?_,λj k hj hk hjk=>?_,λj hj=>?_⟩
 ·rw [z1g hi];split
  ·exact ho
  exact h.1 j (by omega)
 ·rw [z1g hi,z1g hi]
  split
  ·rw [if_neg (by omega)];exact λb hb hb'=>hn k (by omega) b hb' hb
  split
  ·exact hn j (by omega)
  exact h.2.1 j k (by omega) (by omega) hjk
 rw [z1g hi];split
 ·exact hq
 exact h.2.2 j (by omega)
def PreL (base:Nat) (w:World) (rs:List LpQ) (i:Nat):Prop:=∀j,j<i->LpO τd base w (rs.getD j lq0)
theorem PreL.fr {base i:Nat} {w w':World} {rs:List LpQ} {S:List Nat} (h:PreL base w rs i) (hf:Fr S w w') (hS:∀k∈S,k<base):PreL base w' rs i:=λj hj=>by
 have o:∀ {α:Type} {E:Enc α} {T:Nat} {v:Value} {ys:List α},Lw.Own E T base w v ys->Lw.Own E T base w' v ys:=λh'=>h'.fr hf λk hk hb=>by have:=hS k hk;have:=(h'.blk k hb).1;omega
 exact ⟨o (h j hj).1,o (h j hj).2⟩
theorem PreL.put {base i:Nat} {w:World} {rs:List LpQ} {x y:LpQ} (h:PreL base w rs i) (hi:i<rs.length) (hq:LpO τd base w y):PreL base w ((rs.set i x).set i y) (i+1):=λj hj=>by
 rw [List.set_set,z1g hi]
 split
 ·exact hq
 exact h j (by omega)
theorem j0q {base i:Nat} {w:World} {v:Value} {us:List TQ} {u:SV} {r r':List LpQ} (h:Lw.Own z4c 46 base w v (us.set i (u,r))):Lw.Own z4c 46 base w v (us.set i (u,r')):=by
 have e:∀x:List LpQ,(us.set i (u,x)).flatMap z4c.enc=(us.set i (u,r)).flatMap z4c.enc:=λx=>by
  rw [List.flatMap_def,List.flatMap_def,List.map_set,List.map_set];rfl
 rcases h with ⟨h1,h2⟩|⟨g,cap,cur,h1,h2,h3,h4,h5,h6,h7⟩
 ·refine .inl ⟨h1,?_⟩
  have:=congrArg List.length h2
  simp only [List.length_set,List.length_nil] at this
  exact List.length_eq_zero_iff.1 (by rw [List.length_set];exact this)
 refine .inr ⟨g,cap,cur,by rw [h1];simp,h2,h3,by simpa using h4,h5,h6,?_⟩
 rw [e r',<-h7];simp
theorem u5i {us ts:List TQ} {i:Nat} {x:TQ} (h:∀j,j<i->(us.getD j tq0).2.map LpQ.p=(ts.getD j tq0).2.map LpQ.p) (hi:i<us.length) (hx:x.2.map LpQ.p=(ts.getD i tq0).2.map LpQ.p):∀j,j<i+1->((us.set i x).getD j tq0).2.map LpQ.p=(ts.getD j tq0).2.map LpQ.p:=λj hj=>by
 rw [z1g hi]
 split
 ·rename_i e;subst e;exact hx
 exact h j (by omega)
theorem y4g {us ts:List TQ} (hl:us.length=ts.length) (h:∀j,j<ts.length->(us.getD j tq0).2.map LpQ.p=(ts.getD j tq0).2.map LpQ.p):z2c us=z2c ts:=by
 refine List.ext_getElem (by simp [hl]) λj h1 h2=>?_
 have hj:j<ts.length:=by simpa using h2
 have:=h j hj
 rw [List.getD,List.getD,List.getElem?_eq_getElem (by omega),List.getElem?_eq_getElem hj] at this
 simpa using this
theorem PreT.tbo {b base:Nat} {w:World} {v:Value} {us:List TQ} (ho:Lw.Own z4c 46 b w v us) (h:PreT base w us us.length) (hb:b<=base):TbO τd b w v us:=
 ⟨ho,λi hi=>(h.1 i hi).low hb,λi j hi hj hij=>h.2.1 i j hi hj hij,λi hi q hq=>(h.2.2 i hi q hq).low hb⟩
set_option maxHeartbeats 4000000 in
theorem y3c (v:Value) (ts:List TQ) (w0:World) (hs:Sl z4c w0 v ts) (hk:TabAt w0 ts) (hl:ts.length<=1000) (hsz:∀p∈ts,p.2.length<=100000/\∀q∈p.2,q.ths.length<=100000/\q.pas.length<=100000):Rets prog 62 #[v] w0 λr w'=>(∃g us,r=.slice (some ⟨g,0,none⟩) ts.length ts.length/\w0.heap.size<=g/\TbO τd w0.heap.size w' r us/\us.length=ts.length/\z2c us=z2c ts)/\Fr [] w0 w':=by
 obtain ⟨A,c,rfl,hcc,hM,hA⟩:=id hs
 clear hA
 unfold maxLen at hM
 refine we [(0,.slice A ts.length c)] func62 rfl ntmps62 rfl (.cons rfl .nil) ?_
 have hs0:=hs
 have hk0:=hk
 refine sr (asg rfl (nn (sr (mv rfl (lnS rfl underlying35 (z1e (m:=ts.length) (c:=ts.length) (tq0) rfl rfl y5d zv46 rfl (λg10 w1 hg10 hT q1 z1=>?_)))))))
 have hg10l:=(hT.blk g10 (by simp [z0v])).2
 refine asg rfl (nn (sq (sr (mv rfl (lnS rfl underlying35 (mv rfl (nn (bl ?_))))))))
 refine lpK (ι:=Nat×List TQ) [(3,_),(11,_),(12,_)] (λp=>[(13,.int .i64 (p.1:Int))]) (λp w'=>Fr [g10] w1 w'/\p.1<=ts.length/\p.2.length=ts.length/\Lw.Own z4c 46 w0.heap.size w' (.slice (some ⟨g10,0,none⟩) ts.length ts.length) p.2/\(∀j,j<p.1->(p.2.getD j tq0).2.map LpQ.p=(ts.getD j tq0).2.map LpQ.p)/\PreT (g10+1) w' p.2 p.1) (λp=>ts.length-p.1) (0,List.replicate ts.length tq0) (.c4 rfl rfl rfl rfl) ⟨Fr.refl _ _,⟨Nat.zero_le _,by simp,hT.low (by omega),λj hj=>absurd hj (by simp),⟨λj hj=>absurd hj (by simp),λj k hj=>absurd hj (by simp),λj hj=>absurd hj (by simp)⟩⟩⟩ ?_
 rintro ⟨i,us⟩ w2 ⟨q2,⟨hi,hul,hT,hup,hpt⟩⟩
 simp only at hi hul hT hup hpt
 have z2:=q2.size
 have hpt0:=hpt
 refine kpC [(3,_),(11,_),(12,_),(13,.int .i64 (i:Int))] (.c4 rfl rfl rfl rfl) ?_
 have hptl:∀j,j<i->∀b∈z0v (slv (us.getD j tq0).1),b<w2.heap.size:=λj hj b hb=>((hpt.1 j hj).blk b hb).2
 refine sr (lt' rfl rfl (nn (sq (cd rfl (λc0=>?_) (λc0=>?_)))))
 ·have hrl0:=z1s (hk0 _ (z0x (d:=tq0) (i:=i) (by omega))).1
  have hrb:=(hsz _ (z0x (d:=tq0) (i:=i) (by omega))).1
  refine sk (tn (sq (bl (sr (mv rfl ?_)))))
  replace hs:=hs0.ext (q1.z1 q2)
  refine z1a (tq0) rfl hs rfl y5d z1f (λad16 hc16=>?_)
  refine z1i rfl (hc16 _ hs) x2r (asg rfl (asg rfl (nn (sr (mv rfl (mv rfl (mv rfl ?_)))))))
  replace hk:=hk0.ext (q1.z1 q2)
  refine cl (ev1 rfl) (mkC func75) (v0w _ (ts.getD i tq0).2 _ (hk _ (z0x (d:=tq0) (i:=i) (by omega))).1 (hsz _ (z0x (d:=tq0) (i:=i) (by omega))).1) rfl ?_
  rintro _ w3 ⟨g21,rfl,hg21,hR,q3⟩
  have z3:=q3.size
  have hg21l:=(hR.blk g21 (by simp [z0v])).2
  replace hT:=hT.ext q3
  refine z8r (p:=i) (E:=z4c) rfl rfl y5d (z5b (i:=i) (((((some ⟨g21,0,none⟩,(ts.getD i tq0).2.length,(ts.getD i tq0).2.length):SV),(ts.getD i tq0).2):TQ)) rfl rfl hT (by omega) rfl j3r (λw4 hT q4 z4=>?_))
  obtain ⟨us1,hu1⟩:∃u,u=us.set i (((some ⟨g21,0,none⟩,(ts.getD i tq0).2.length,(ts.getD i tq0).2.length):SV),(ts.getD i tq0).2):=⟨_,rfl⟩
  rw [<-hu1] at hT
  have huv:us1.getD i tq0=(((some ⟨g21,0,none⟩,(ts.getD i tq0).2.length,(ts.getD i tq0).2.length):SV),(ts.getD i tq0).2):=by rw [hu1,z1g (by omega),if_pos rfl]
  have huv1:(us1.getD i tq0).1.1=some ⟨g21,0,none⟩:=by rw [huv]
  have huv2:(us1.getD i tq0).1.2.1=(ts.getD i tq0).2.length:=by rw [huv]
  have huv3:(us1.getD i tq0).1.2.2=(ts.getD i tq0).2.length:=by rw [huv]
  have hul1:us1.length=ts.length:=by rw [hu1,List.length_set];exact hul
  refine nn (sr (mv rfl (lnS rfl underlying46 (mv rfl (nn (bl ?_))))))
  replace hR:=hR.fr q4 (by intro k hk hb;simp [z0v] at hk hb;omega)
  refine lpK (ι:=Nat×List LpQ) [(3,_),(4,_),(11,_),(12,_),(13,_),(23,_),(24,_)] (λp=>[(25,.int .i64 (p.1:Int))]) (λp w'=>Fr [g21] w4 w'/\p.1<=(ts.getD i tq0).2.length/\p.2.length=(ts.getD i tq0).2.length/\Lw.Own z5o 89 (g10+1) w' (.slice (some ⟨g21,0,none⟩) (ts.getD i tq0).2.length (ts.getD i tq0).2.length) p.2/\p.2.map LpQ.p=(ts.getD i tq0).2.map LpQ.p/\(∀j,p.1<=j->p.2.getD j lq0=(ts.getD i tq0).2.getD j lq0)/\PreL (g21+1) w' p.2 p.1) (λp=>(ts.getD i tq0).2.length-p.1) (0,(ts.getD i tq0).2) (.c8 rfl rfl rfl rfl rfl rfl rfl rfl) ⟨Fr.refl _ _,⟨Nat.zero_le _,rfl,hR.low (by omega),rfl,λ_ _=>rfl,λj hj=>absurd hj (by simp)⟩⟩ ?_
  rintro ⟨jj,rs⟩ w5 ⟨q5,⟨hj,hrl,hR,hrm,hre,hpr⟩⟩
  simp only at hj hrl hR hrm hre hpr
  have z5:=q5.size
  have hpr0:=hpr
  refine kpC [(3,_),(4,_),(11,_),(12,_),(13,_),(23,_),(24,_),(25,.int .i64 (jj:Int))] (.c8 rfl rfl rfl rfl rfl rfl rfl rfl) (sr (lt' rfl rfl (nn (sq (cd rfl (λc1=>?_) (λc1=>?_))))))
  ·refine sk (tn (sq (bl (sr (mv rfl ?_)))))
   replace hk:=hk0.ext (q1.z4 q2 q3 q4 q5)
   refine z1a (lq0) rfl (hk _ (z0x (d:=tq0) (i:=i) (by omega))).1 rfl x9b z1f (λad28 hc28=>?_)
   refine z1j rfl (hc28 _ (hk _ (z0x (d:=tq0) (i:=i) (by omega))).1) v5g (al u1m rfl rfl (λg7 w6 hg7 hb7 q6 z6=>?_))
   refine asg rfl (z0j (vs:=[_,_,_,_]) rfl rfl hb7 u6t (λw7 hb7 q7 z7=>?_) (h1:=(by first|(simp [Value.oneCell',S];done)|exact z4c.one (ts.getD i tq0))))
   refine nn (sq ?_)
   replace hk:=hk0.ext (q1.z6 q2 q3 q4 q5 q6 q7)
   replace hT:=((hT.fr q5 (by intro k hk hb;simp [z0v] at hk hb;omega)).ext q6).fr q7 (by intro k hk hb;simp [z0v] at hk hb;omega)
   replace hR:=(hR.ext q6).fr q7 (by intro k hk hb;simp [z0v] at hk hb;omega)
   intro a h
   refine z0h (some 10) (λwb w'=>Fr [] wb w') z2r ?_;intro w8 q8
   have z8:=q8.size
   replace hk:=hk.ext q8
   replace hT:=hT.ext q8
   replace hR:=hR.ext q8
   replace hb7:=hb7.ext q8
   have hC:Fr [] w8 w8:=Fr.refl _ _
   have hk_b:=hk
   have hT_b:=hT
   have hR_b:=hR
   have hb7_b:=hb7
   refine z0e 0 h rfl rfl λa h=>z0e 1 h rfl rfl λa h=>z1k (p:=i) (tq0) 2 h rfl hT.sl rfl y5d rfl λad32 hc32 a h=>z3e 3 h rfl (λ_ hw=>hc32 _ ((hT_b.ext hw).sl)) x2r rfl λa h=>?_
   rw [huv1,huv2,huv3] at h
   refine z0e 4 h rfl rfl λa h=>z0c 5 h rfl z7y rfl λa h=>z0l 6 h rfl (λ_ hw=>hb7_b.ext hw) rfl z6t rfl λa h=>z0d 7 rfl ?_
   refine z0m h (z0a rfl z0g) x0t (z3k _ ((ts.getD i tq0).2.getD jj lq0).ths _ ((hk _ (z0x (d:=tq0) (i:=i) (by omega))).2 _ (z0x (by omega))).1 ((hsz _ (z0x (d:=tq0) (i:=i) (by omega))).2 _ (z0x (by omega))).1) ?_;rintro _ w9 ⟨g37,rfl,hg37,hX,q9⟩ a h
   have z9:=q9.size
   replace hk:=hk.ext q9
   replace hT:=hT.ext q9
   replace hR:=hR.ext q9
   replace hb7:=hb7.ext q9
   replace hC:=hC.next q9
   refine z0b ?_
   refine z1n 8 (by kernel_rfl) (by kernel_rfl) (by kernel_rfl) hC (p:=jj) h wn rfl rfl x9b (by omega) (by omega) (by omega) rfl rfl λa h=>z7u 9 hC h wn rfl z7y rfl λa h=>z0d 10 rfl ?_
   refine y3s (E:=z5o) (i:=jj) (f:=2) (((ts.getD i tq0).2.getD jj lq0)) ({ ((ts.getD i tq0).2.getD jj lq0) with th:=(some ⟨g37,0,none⟩,((ts.getD i tq0).2.getD jj lq0).ths.length,((ts.getD i tq0).2.getD jj lq0).ths.length) }:LpQ) h rfl rfl hR (by rw [<-hre jj (Nat.le_refl _)];exact y4l _ (by omega)) (by decide) rfl rfl rfl u2g λw10 hN_ q10 _hz a h=>?_
   have z10:=q10.size
   replace hT:=hT.fr q10 (by intro k hk hb;simp [z0v] at hk hb;omega)
   replace hb7:=hb7.fr q10
   replace hX:=hX.fr q10 (by intro k hk hb;simp [z0v] at hk hb;omega)
   clear _hz hR
   have hR:=hN_
   clear hN_
   refine z1o ?_
   refine z0r ?_
   clear hC hk_b hT_b hR_b hb7_b
   refine bk (h.sub (L':=[(3,_),(4,_),(6,_),(7,_),(11,_),(12,_),(13,_),(23,_),(24,_),(25,_)]) (.d8 rfl rfl rfl rfl rfl rfl rfl rfl (.c2 rfl rfl))) (tn ?_)
   replace hk:=hk0.ext ((((q1.z6 q2 q3 q4 q5 q6 q7).n1 q8).n1 q9).z1 q10)
   intro a h
   refine z0h (some 10) (λwb w'=>Fr [] wb w') z2r ?_;intro w11 q11
   have z11:=q11.size
   replace hk:=hk.ext q11
   replace hT:=hT.ext q11
   replace hR:=hR.ext q11
   replace hb7:=hb7.ext q11
   replace hX:=hX.ext q11
   have hC:Fr [] w11 w11:=Fr.refl _ _
   have hk_b:=hk
   have hT_b:=hT
   have hR_b:=hR
   have hb7_b:=hb7
   have hX_b:=hX
   refine z0e 0 h rfl rfl λa h=>z0e 1 h rfl rfl λa h=>z1k (p:=i) (tq0) 2 h rfl hT.sl rfl y5d rfl λad42 hc42 a h=>z3e 3 h rfl (λ_ hw=>hc42 _ ((hT_b.ext hw).sl)) x2r rfl λa h=>?_
   rw [huv1,huv2,huv3] at h
   refine z0e 4 h rfl rfl λa h=>z0c 5 h rfl z9h rfl λa h=>z0l 6 h rfl (λ_ hw=>hb7_b.ext hw) rfl y6u rfl λa h=>z0d 7 rfl ?_
   refine z0m h (z0a rfl z0g) (mkC func108) (v1m _ ((ts.getD i tq0).2.getD jj lq0).pas _ ((hk _ (z0x (d:=tq0) (i:=i) (by omega))).2 _ (z0x (by omega))).2 ((hsz _ (z0x (d:=tq0) (i:=i) (by omega))).2 _ (z0x (by omega))).2) ?_;rintro _ w12 ⟨g47,rfl,hg47,hY,q12⟩ a h
   have z12:=q12.size
   replace hk:=hk.ext q12
   replace hT:=hT.ext q12
   replace hR:=hR.ext q12
   replace hb7:=hb7.ext q12
   replace hX:=hX.ext q12
   replace hC:=hC.next q12
   refine z0b ?_
   refine z1n 8 (by kernel_rfl) (by kernel_rfl) (by kernel_rfl) hC (p:=jj) h wn rfl rfl x9b (by omega) (by omega) (by omega) rfl rfl λa h=>z7u 9 hC h wn rfl z9h rfl λa h=>z0d 10 rfl ?_
   refine y3s (E:=z5o) (i:=jj) (f:=3) (({ ((ts.getD i tq0).2.getD jj lq0) with th:=(some ⟨g37,0,none⟩,((ts.getD i tq0).2.getD jj lq0).ths.length,((ts.getD i tq0).2.getD jj lq0).ths.length) }:LpQ)) ({ ((ts.getD i tq0).2.getD jj lq0) with th:=(some ⟨g37,0,none⟩,((ts.getD i tq0).2.getD jj lq0).ths.length,((ts.getD i tq0).2.getD jj lq0).ths.length),pa:=(some ⟨g47,0,none⟩,((ts.getD i tq0).2.getD jj lq0).pas.length,((ts.getD i tq0).2.getD jj lq0).pas.length) }:LpQ) h rfl rfl hR (by rw [y4l lq0 (by rw [List.length_set];omega),z1g (by omega),if_pos rfl]) (by decide) rfl rfl rfl j4v λw13 hN_ q13 _hz a h=>?_
   have z13:=q13.size
   replace hT:=hT.fr q13 (by intro k hk hb;simp [z0v] at hk hb;omega)
   replace hb7:=hb7.fr q13
   replace hX:=hX.fr q13 (by intro k hk hb;simp [z0v] at hk hb;omega)
   replace hY:=hY.fr q13 (by intro k hk hb;simp [z0v] at hk hb;omega)
   clear _hz hR
   have hR:=hN_
   clear hN_
   refine z1o ?_
   refine z0r ?_
   clear hC hk_b hT_b hR_b hb7_b hX_b
   refine bk (h.sub (L':=[(3,_),(4,_),(11,_),(12,_),(13,_),(23,_),(24,_),(25,_)]) (.c8 rfl rfl rfl rfl rfl rfl rfl rfl)) (bn' (tn (rg (z0y rfl rfl (wi6 (by omega)) (mv rfl (nl ?_))))))
   replace hpr:=hpr0.fr ((((Fr.refl [g21] _).z6 q6 q7 q8 q9 q10 q11).n1 q12).z1 q13) (by intro k hk;simp at hk;omega)
   exact lpE ((jj+1,(rs.set jj ({ ((ts.getD i tq0).2.getD jj lq0) with th:=(some ⟨g37,0,none⟩,((ts.getD i tq0).2.getD jj lq0).ths.length,((ts.getD i tq0).2.getD jj lq0).ths.length) }:LpQ)).set jj ({ ((ts.getD i tq0).2.getD jj lq0) with th:=(some ⟨g37,0,none⟩,((ts.getD i tq0).2.getD jj lq0).ths.length,((ts.getD i tq0).2.getD jj lq0).ths.length),pa:=(some ⟨g47,0,none⟩,((ts.getD i tq0).2.getD jj lq0).pas.length,((ts.getD i tq0).2.getD jj lq0).pas.length) }:LpQ))) (.c8 rfl rfl rfl rfl rfl rfl rfl rfl) ⟨((((Fr.refl [g21] _).z6 q5 q6 q7 q8 q9 q10).n1 q11).z2 q12 q13),⟨by simp only;omega,by simp only [List.length_set];exact hrl,hR,by rw [List.set_set];exact (y2d (d:=lq0) (by rw [hre jj (Nat.le_refl _)])).trans hrm,λj hj'=>by
    simp only at hj' ⊢
    rw [List.set_set,z1g (by omega),if_neg (by omega)];exact hre j (by omega),hpr.put (by omega) ⟨hX.low (by omega),hY.low (by omega)⟩⟩⟩ (by simp only;omega)
  obtain rfl:jj=(ts.getD i tq0).2.length:=by omega
  refine ex (te (te (xh (bn' (tn (rg (z0y rfl rfl (wi6 (by omega)) (mv rfl (kpL [(3,_),(11,_),(12,_),(13,_)] (.c4 rfl rfl rfl rfl) (nl ?_))))))))))
  replace hpt:=hpt0.fr ((Fr.refl [g10] _).z3 q3 q4 q5) (by intro k hk;simp at hk;omega)
  replace hT:=hT.fr q5 (by intro k hk hb;simp [z0v] at hk hb;omega)
  exact lpE ((i+1,us.set i (((some ⟨g21,0,none⟩,(ts.getD i tq0).2.length,(ts.getD i tq0).2.length):SV),rs))) (.c4 rfl rfl rfl rfl) ⟨((Fr.refl [g10] _).z4 q2 q3 q4 q5),⟨by simp only;omega,by simp only [List.length_set];exact hul,j0q (hu1▸hT),u5i hup (by omega) hrm,hpt.put (by omega) (by rw [show slv ((some ⟨g21,0,none⟩,(ts.getD i tq0).2.length,(ts.getD i tq0).2.length):SV)=(.slice (some ⟨g21,0,none⟩) rs.length rs.length) by rw [hrl];rfl];exact (hrl.symm▸hR).low (by omega)) (λq hq=>by
   obtain ⟨j,hj,rfl⟩:=List.getElem_of_mem hq
   have:=hpr j (by omega)
   rw [List.getD,List.getElem?_eq_getElem hj] at this
   exact this.low (by omega)) (λj hj b hb hb'=>by have:=hptl j hj b hb;simp [z0v,slv] at hb';omega)⟩⟩ (by simp only;omega)
 obtain rfl:i=ts.length:=by omega
 refine ex (te (te (xh (tn (sr (mv rfl (asg rfl (kpL [(2,_)] (.cons rfl .nil) (nn (rt (r1 results62 rfl ?_)))))))))))
 exact ⟨_,rfl,⟨g10,us,rfl,by omega,PreT.tbo hT (hul.symm▸hpt) (by omega),hul,y4g hul hup⟩,(q1.z1 q2)⟩
theorem x8o:BuildAt prog 137 [(0,1),(1,2),(3,1),(4,1),(5,1),(6,1)] [(.int .i64 0),(.slice none 0 0),(.slice none 0 0),(.slice none 0 0),(.slice none 0 0),(.map none),(.slice none 0 0)]:=BuildAt.struct underlying137 (λ_=>by kernel_rfl) (λ_=>by kernel_rfl)
theorem u8n:CallOf prog 60:=mkC func60
theorem j2s:CallOf prog 62:=mkC func62
theorem x6k:z0z prog 41 0 0:=λ_ _=>by kernel_rfl
theorem x0a:z0z prog 41 1 1:=λ_ _=>by kernel_rfl
theorem y5j:z0z prog 41 2 3:=λ_ _=>by kernel_rfl
theorem z8b:z0z prog 41 3 4:=λ_ _=>by kernel_rfl
structure StSz (s:StQ):Prop where
  bf:s.q.fs.length<=40
  bb:s.q.bs.length<=40
  f4:z9q s.q.fs
  b4:z9q s.q.bs
  ly:s.ys.length=6
  lt:s.fb.ts.length=6
  pe:∀i,(s.ys.getD i yq0).pes.length<=100000
  tb:∀p∈s.fb.ts,p.2.length<=100000/\∀q∈p.2,q.ths.length<=100000/\q.pas.length<=100000
  fl:s.fb.fs.length<=100000
  cs:s.fb.cs.length<=100000000
  hs:s.fb.hs.length<=100000
theorem y1a {τ:TyK} {b base:Nat} {w:World} {v:Value} {ys:List YQ} (h:YsO τ base w v ys) (hb:b<=base):YsO τ b w v ys:=⟨h.out.low hb,λi hi=>(h.ins i hi).low hb⟩
theorem y1e {τ:TyK} {b base:Nat} {w:World} {v:Value} {ts:List TQ} (h:TbO τ base w v ts) (hb:b<=base):TbO τ b w v ts:=⟨h.out.low hb,λi hi=>(h.ins i hi).low hb,h.off,λi hi q hq=>⟨(h.lps i hi q hq).1.low hb,(h.lps i hi q hq).2.low hb⟩⟩
set_option maxHeartbeats 4000000 in
theorem u6q (s:StQ) (w0:World) (hS:StAt w0 s) (hSz:StSz s) (hcn:(s.fb.cs.map cxK).Nodup):Rets prog 25 #[.agg #[.int .i64 s.rk,.slice s.q.f.1 s.q.f.2.1 s.q.f.2.2,.slice s.q.b.1 s.q.b.2.1 s.q.b.2.2,.slice s.yv.1 s.yv.2.1 s.yv.2.2,.slice s.fb.t.1 s.fb.t.2.1 s.fb.t.2.2,.slice s.fb.c.1 s.fb.c.2.1 s.fb.c.2.2,.slice s.fb.h.1 s.fb.h.2.1 s.fb.h.2.2,.slice s.fb.f.1 s.fb.f.2.1 s.fb.f.2.2]] w0 λr w'=>∃ka m,r=.pointer (some ⟨ka.gk,0,none⟩)/\MkM τd 137 w0 ka w' m/\m.p=(⟨s.rk,⟨trimB (plB s.q.fs),trimB (plB s.q.bs)⟩,s.ys.map YQ.p,z2c s.fb.ts,s.fb.cs,s.fb.fs⟩:MSt):=by
 have hcl:=z1s hS.f.c
 have hcz:=hSz.cs
 refine we [(0,.agg #[.int .i64 s.rk,.slice s.q.f.1 s.q.f.2.1 s.q.f.2.2,.slice s.q.b.1 s.q.b.2.1 s.q.b.2.2,.slice s.yv.1 s.yv.2.1 s.yv.2.2,.slice s.fb.t.1 s.fb.t.2.1 s.fb.t.2.2,.slice s.fb.c.1 s.fb.c.2.1 s.fb.c.2.2,.slice s.fb.h.1 s.fb.h.2.1 s.fb.h.2.2,.slice s.fb.f.1 s.fb.f.2.1 s.fb.f.2.2])] func25 rfl ntmps25 rfl (.cons rfl .nil) ?_
 have hS0:=hS
 refine sr (bx rfl rfl rfl (λg1 w1 hg1 hb1 q1 z1=>(asg rfl (nn ?_))))
 refine jn (ι:=MA) [(1,_)] (λka=>[(3,.pointer (some ⟨ka.gk,0,none⟩))]) (λka w'=>Fr [] w1 w'/\∃m:MQ,MkM τd 137 w0 ka w' m/\m.p=(⟨s.rk,⟨trimB (plB s.q.fs),trimB (plB s.q.bs)⟩,s.ys.map YQ.p,z2c s.fb.ts,[],s.fb.fs⟩:MSt)) (.cons rfl .nil) ?_ ?_
 ·replace hS:=hS0.ext q1
  intro a h
  refine z0h none (λwb w'=>Fr [] wb w') z2r ?_;intro w2 q2
  have z2:=q2.size
  replace hS:=hS.ext q2
  replace hb1:=hb1.ext q2
  have hC:Fr [] w2 w2:=Fr.refl _ _
  have hS_b:=hS
  have hb1_b:=hb1
  refine z0c 0 h rfl x6k rfl λa h=>z0l 1 h rfl (λ_ hw=>hb1_b.ext hw) rfl na3 rfl λa h=>z0c 2 h rfl x0a rfl λa h=>z7u 3 hC h wn rfl y6o rfl λa h=>z0l 4 h rfl (λ_ hw=>hb1_b.ext hw) rfl x5f rfl λa h=>z0c 6 h rfl x0a rfl λa h=>z7u 7 hC h wn rfl y2k rfl λa h=>z0l 8 h rfl (λ_ hw=>hb1_b.ext hw) rfl x5f rfl λa h=>z0c 11 h rfl y5j rfl λa h=>z0l 12 h rfl (λ_ hw=>hb1_b.ext hw) rfl y1w rfl λa h=>z0c 14 h rfl z8b rfl λa h=>?_
  refine z7u 15 hC h wn rfl z8l rfl λa h=>z0l 16 h rfl (λ_ hw=>hb1_b.ext hw) rfl x1r rfl λa h=>z0c 18 h rfl z8b rfl λa h=>z7u 19 hC h wn rfl y6r rfl λa h=>z0l 20 h rfl (λ_ hw=>hb1_b.ext hw) rfl u8e rfl λa h=>z7v 21 hC h wn rfl underlying36 rfl λa h=>z0c 23 h rfl z8b rfl λa h=>z7u 24 hC h wn rfl z9v rfl λa h=>z0l 25 h rfl (λ_ hw=>hb1_b.ext hw) rfl z6t rfl λa h=>z2d 5 22 (by kernel_rfl) rfl rfl ?_ ?_
  ·refine z0m h (z0a rfl z0g) u8n (y3z _ s.q.fs _ hS.b.f hS.b.fi hSz.bf hSz.f4) ?_;rintro _ w3 ⟨⟨fs_,hRf,hPf,gF,rfl⟩,q3⟩ a h
   have z3:=q3.size
   replace hS:=hS.ext q3
   replace hb1:=hb1.ext q3
   replace hC:=hC.next q3
   have hLf:∀x∈fs_,∀k∈z0v (slv x.1),k<w3.heap.size:=λx hx k hk=>((hRf.2 x hx).blk k hk).2
   refine z0b ?_
   refine z2d 9 22 (by kernel_rfl) rfl rfl ?_ ?_
   ·refine z0m h (z0a rfl z0g) u8n (y3z _ s.q.bs _ hS.b.b hS.b.bi hSz.bb hSz.b4) ?_;rintro _ w4 ⟨⟨bs_,hRb,hPb,gB,rfl⟩,q4⟩ a h
    have z4:=q4.size
    replace hS:=hS.ext q4
    replace hb1:=hb1.ext q4
    replace hRf:=hRf.ext q4
    replace hC:=hC.next q4
    have hLb:∀x∈bs_,∀k∈z0v (slv x.1),k<w4.heap.size:=λx hx k hk=>((hRb.2 x hx).blk k hk).2
    refine z0b ?_
    refine z2z (cs:=[_,_]) 10 h (z0a rfl (z0a rfl z0g)) u8b (z0f rfl rfl rfl (z0f rfl rfl rfl z0s)) rfl rfl λa h=>z2d 13 22 (by kernel_rfl) rfl rfl ?_ ?_
    ·refine z0m h (z0a rfl z0g) (mkC func61) (y7c _ s.ys _ hS.y hS.ya (by have:=hSz.ly;omega) hSz.pe) ?_;rintro _ w5 ⟨⟨gy,ps,rfl,hgy,hY,hpl,hpm⟩,q5⟩ a h
     have z5:=q5.size
     replace hS:=hS.ext q5
     replace hb1:=hb1.ext q5
     replace hRf:=hRf.ext q5
     replace hRb:=hRb.ext q5
     replace hC:=hC.next q5
     refine z0b ?_
     refine z2d 17 22 (by kernel_rfl) rfl rfl ?_ ?_
     ·refine z0m h (z0a rfl z0g) j2s (y3c _ s.fb.ts _ hS.f.t hS.f.tt (by have:=hSz.lt;omega) hSz.tb) ?_;rintro _ w6 ⟨⟨gt,us,rfl,hgt,hT,hul,htm⟩,q6⟩ a h
      have z6:=q6.size
      replace hS:=hS.ext q6
      replace hb1:=hb1.ext q6
      replace hRf:=hRf.ext q6
      replace hRb:=hRb.ext q6
      replace hY:=hY.ext q6
      replace hC:=hC.next q6
      have hLt:∀i,i<us.length->∀q∈(us.getD i tq0).2,∀k∈z0v (slv q.th),k<w6.heap.size:=λi hi q hq k hk=>((hT.lps i hi q hq).1.blk k hk).2
      refine z0b ?_
      refine z2d 22 26 (by kernel_rfl) rfl rfl ?_ ?_
      ·refine z3z (K:=138) (E:=3) crK h rfl underlying135 rfl λgm w7 hgm hMp q7 _hz a h=>?_
       have z7:=q7.size
       replace hS:=hS.ext q7
       replace hC:=hC.next q7
       clear _hz
       refine z0b ?_
       refine z0d 26 rfl ?_
       refine z0m h (z0a rfl z0g) x0t (z3k _ s.fb.fs _ hS.f.f hSz.fl) ?_;rintro _ w8 ⟨gf,rfl,hgf,hfa,q8⟩ a h
       have z8:=q8.size
       replace hb1:=hb1.ext (q7.n1 q8)
       replace hC:=hC.next q8
       refine z0b ?_
       refine z2z (cs:=[_,_,_,_,_,_,_]) 27 h (z0a rfl (z0a rfl (z0a rfl (z0a rfl (z0a rfl (z0a rfl z0g)))))) x8o (z0f rfl rfl rfl (z0f rfl rfl rfl (z0f rfl rfl rfl (z0f rfl rfl rfl (z0f rfl rfl rfl (z0f rfl rfl rfl z0s)))))) rfl rfl λa h=>z0d 28 rfl ?_
       refine y3k h rfl rfl rfl λw9 hb34 q9 hz a h=>?_
       obtain ⟨g_34,hg⟩:∃g,g=w8.heap.size:=⟨_,rfl⟩;rw [<-hg] at hb34 h hz
       have hn__34:g1<g_34:=by have:=hb1.lt;omega
       have z9:=q9.size
       replace hRf:=hRf.ext (q7.n2 q8 q9)
       replace hRb:=hRb.ext (q7.n2 q8 q9)
       replace hY:=hY.ext (q7.n2 q8 q9)
       replace hT:=hT.ext (q7.n2 q8 q9)
       replace hMp:=hMp.ext (q8.n1 q9)
       replace hfa:=hfa.ext q9
       replace hC:=hC.next q9
       refine z0b ?_
       refine z0d 29 rfl ?_
       refine z0q h rfl λa h=>?_
       refine z0b ?_
       refine z0r ?_
       clear hC hS_b hb1_b
       refine bk (h.sub (L':=[(1,_),(3,_)]) (.c2 rfl rfl)) ?_
       exact jE ((⟨g_34,gy,6,gt,6,gm,_⟩:MA)) (.c2 rfl rfl) ⟨((q2.n6 q3 q4 q5 q6 q7 q8).n1 q9),(y5q hb34 (hRf.low (by omega)) (hRb.low (by omega)) (y1a hY (by omega)) hpl hpm (y1e hT (by omega)) hul htm hMp (hfa.low (by omega)) hSz.ly hSz.lt (((q1.n6 q2 q3 q4 q5 q6 q7).n1 q8).n1 q9) (by omega) (by omega) (λx hx hb=>by rcases List.mem_append.1 hx with k|k;have:=hLf x k _ hb;omega;have:=hLb x k _ hb;omega) (λi hi q hq hb=>by have:=hLt i (by have:=hSz.lt;omega) q hq _ hb;omega) hPf hPb)⟩
      refine z0m h (z0a rfl z0g) x0t (z3k _ s.fb.fs _ hS.f.f hSz.fl) ?_;rintro _ w10 ⟨gf,rfl,hgf,hfa,q10⟩ a h
      have z10:=q10.size
      replace hC:=hC.next q10
      refine z0b ?_
      refine z0d 22 rfl ?_
      refine z3z (K:=138) (E:=3) crK h rfl underlying135 rfl λgm w11 hgm hMp q11 _hz a h=>?_
      have z11:=q11.size
      replace hb1:=hb1.ext (q10.n1 q11)
      replace hC:=hC.next q11
      clear _hz
      refine z0b ?_
      refine z2z (cs:=[_,_,_,_,_,_,_]) 27 h (z0a rfl (z0a rfl (z0a rfl (z0a rfl (z0a rfl (z0a rfl z0g)))))) x8o (z0f rfl rfl rfl (z0f rfl rfl rfl (z0f rfl rfl rfl (z0f rfl rfl rfl (z0f rfl rfl rfl (z0f rfl rfl rfl z0s)))))) rfl rfl λa h=>z0d 28 rfl ?_
      refine y3k h rfl rfl rfl λw12 hb34 q12 hz a h=>?_
      obtain ⟨g_34,hg⟩:∃g,g=w11.heap.size:=⟨_,rfl⟩;rw [<-hg] at hb34 h hz
      have hn__34:g1<g_34:=by have:=hb1.lt;omega
      have z12:=q12.size
      replace hRf:=hRf.ext (q10.n2 q11 q12)
      replace hRb:=hRb.ext (q10.n2 q11 q12)
      replace hY:=hY.ext (q10.n2 q11 q12)
      replace hT:=hT.ext (q10.n2 q11 q12)
      replace hfa:=hfa.ext (q11.n1 q12)
      replace hMp:=hMp.ext q12
      replace hC:=hC.next q12
      refine z0b ?_
      refine z0d 29 rfl ?_
      refine z0q h rfl λa h=>?_
      refine z0b ?_
      refine z0r ?_
      clear hC hS_b hb1_b
      refine bk (h.sub (L':=[(1,_),(3,_)]) (.c2 rfl rfl)) ?_
      exact jE ((⟨g_34,gy,6,gt,6,gm,_⟩:MA)) (.c2 rfl rfl) ⟨((q2.n6 q3 q4 q5 q6 q10 q11).n1 q12),(y5q hb34 (hRf.low (by omega)) (hRb.low (by omega)) (y1a hY (by omega)) hpl hpm (y1e hT (by omega)) hul htm hMp (hfa.low (by omega)) hSz.ly hSz.lt (((q1.n6 q2 q3 q4 q5 q6 q10).n1 q11).n1 q12) (by omega) (by omega) (λx hx hb=>by rcases List.mem_append.1 hx with k|k;have:=hLf x k _ hb;omega;have:=hLb x k _ hb;omega) (λi hi q hq hb=>by have:=hLt i (by have:=hSz.lt;omega) q hq _ hb;omega) hPf hPb)⟩
     refine z3z (K:=138) (E:=3) crK h rfl underlying135 rfl λgm w13 hgm hMp q13 _hz a h=>?_
     have z13:=q13.size
     replace hS:=hS.ext q13
     replace hC:=hC.next q13
     clear _hz
     refine z0b ?_
     refine z0d 17 rfl ?_
     refine z0m h (z0a rfl z0g) j2s (y3c _ s.fb.ts _ hS.f.t hS.f.tt (by have:=hSz.lt;omega) hSz.tb) ?_;rintro _ w14 ⟨⟨gt,us,rfl,hgt,hT,hul,htm⟩,q14⟩ a h
     have z14:=q14.size
     replace hS:=hS.ext q14
     replace hC:=hC.next q14
     have hLt:∀i,i<us.length->∀q∈(us.getD i tq0).2,∀k∈z0v (slv q.th),k<w14.heap.size:=λi hi q hq k hk=>((hT.lps i hi q hq).1.blk k hk).2
     refine z0b ?_
     refine z0d 26 rfl ?_
     refine z0m h (z0a rfl z0g) x0t (z3k _ s.fb.fs _ hS.f.f hSz.fl) ?_;rintro _ w15 ⟨gf,rfl,hgf,hfa,q15⟩ a h
     have z15:=q15.size
     replace hb1:=hb1.ext (q13.n2 q14 q15)
     replace hC:=hC.next q15
     refine z0b ?_
     refine z2z (cs:=[_,_,_,_,_,_,_]) 27 h (z0a rfl (z0a rfl (z0a rfl (z0a rfl (z0a rfl (z0a rfl z0g)))))) x8o (z0f rfl rfl rfl (z0f rfl rfl rfl (z0f rfl rfl rfl (z0f rfl rfl rfl (z0f rfl rfl rfl (z0f rfl rfl rfl z0s)))))) rfl rfl λa h=>z0d 28 rfl ?_
     refine y3k h rfl rfl rfl λw16 hb34 q16 hz a h=>?_
     obtain ⟨g_34,hg⟩:∃g,g=w15.heap.size:=⟨_,rfl⟩;rw [<-hg] at hb34 h hz
     have hn__34:g1<g_34:=by have:=hb1.lt;omega
     have z16:=q16.size
     replace hRf:=hRf.ext (q13.n3 q14 q15 q16)
     replace hRb:=hRb.ext (q13.n3 q14 q15 q16)
     replace hY:=hY.ext (q13.n3 q14 q15 q16)
     replace hMp:=hMp.ext (q14.n2 q15 q16)
     replace hT:=hT.ext (q15.n1 q16)
     replace hfa:=hfa.ext q16
     replace hC:=hC.next q16
     refine z0b ?_
     refine z0d 29 rfl ?_
     refine z0q h rfl λa h=>?_
     refine z0b ?_
     refine z0r ?_
     clear hC hS_b hb1_b
     refine bk (h.sub (L':=[(1,_),(3,_)]) (.c2 rfl rfl)) ?_
     exact jE ((⟨g_34,gy,6,gt,6,gm,_⟩:MA)) (.c2 rfl rfl) ⟨((q2.n6 q3 q4 q5 q13 q14 q15).n1 q16),(y5q hb34 (hRf.low (by omega)) (hRb.low (by omega)) (y1a hY (by omega)) hpl hpm (y1e hT (by omega)) hul htm hMp (hfa.low (by omega)) hSz.ly hSz.lt (((q1.n6 q2 q3 q4 q5 q13 q14).n1 q15).n1 q16) (by omega) (by omega) (λx hx hb=>by rcases List.mem_append.1 hx with k|k;have:=hLf x k _ hb;omega;have:=hLb x k _ hb;omega) (λi hi q hq hb=>by have:=hLt i (by have:=hSz.lt;omega) q hq _ hb;omega) hPf hPb)⟩
    refine z3z (K:=138) (E:=3) crK h rfl underlying135 rfl λgm w17 hgm hMp q17 _hz a h=>?_
    have z17:=q17.size
    replace hS:=hS.ext q17
    replace hC:=hC.next q17
    clear _hz
    refine z0b ?_
    refine z0d 13 rfl ?_
    refine z0m h (z0a rfl z0g) (mkC func61) (y7c _ s.ys _ hS.y hS.ya (by have:=hSz.ly;omega) hSz.pe) ?_;rintro _ w18 ⟨⟨gy,ps,rfl,hgy,hY,hpl,hpm⟩,q18⟩ a h
    have z18:=q18.size
    replace hS:=hS.ext q18
    replace hC:=hC.next q18
    refine z0b ?_
    refine z0d 17 rfl ?_
    refine z0m h (z0a rfl z0g) j2s (y3c _ s.fb.ts _ hS.f.t hS.f.tt (by have:=hSz.lt;omega) hSz.tb) ?_;rintro _ w19 ⟨⟨gt,us,rfl,hgt,hT,hul,htm⟩,q19⟩ a h
    have z19:=q19.size
    replace hS:=hS.ext q19
    replace hC:=hC.next q19
    have hLt:∀i,i<us.length->∀q∈(us.getD i tq0).2,∀k∈z0v (slv q.th),k<w19.heap.size:=λi hi q hq k hk=>((hT.lps i hi q hq).1.blk k hk).2
    refine z0b ?_
    refine z0d 26 rfl ?_
    refine z0m h (z0a rfl z0g) x0t (z3k _ s.fb.fs _ hS.f.f hSz.fl) ?_;rintro _ w20 ⟨gf,rfl,hgf,hfa,q20⟩ a h
    have z20:=q20.size
    replace hb1:=hb1.ext (q17.n3 q18 q19 q20)
    replace hC:=hC.next q20
    refine z0b ?_
    refine z2z (cs:=[_,_,_,_,_,_,_]) 27 h (z0a rfl (z0a rfl (z0a rfl (z0a rfl (z0a rfl (z0a rfl z0g)))))) x8o (z0f rfl rfl rfl (z0f rfl rfl rfl (z0f rfl rfl rfl (z0f rfl rfl rfl (z0f rfl rfl rfl (z0f rfl rfl rfl z0s)))))) rfl rfl λa h=>z0d 28 rfl ?_
    refine y3k h rfl rfl rfl λw21 hb34 q21 hz a h=>?_
    obtain ⟨g_34,hg⟩:∃g,g=w20.heap.size:=⟨_,rfl⟩;rw [<-hg] at hb34 h hz
    have hn__34:g1<g_34:=by have:=hb1.lt;omega
    have z21:=q21.size
    replace hRf:=hRf.ext (q17.n4 q18 q19 q20 q21)
    replace hRb:=hRb.ext (q17.n4 q18 q19 q20 q21)
    replace hMp:=hMp.ext (q18.n3 q19 q20 q21)
    replace hY:=hY.ext (q19.n2 q20 q21)
    replace hT:=hT.ext (q20.n1 q21)
    replace hfa:=hfa.ext q21
    replace hC:=hC.next q21
    refine z0b ?_
    refine z0d 29 rfl ?_
    refine z0q h rfl λa h=>?_
    refine z0b ?_
    refine z0r ?_
    clear hC hS_b hb1_b
    refine bk (h.sub (L':=[(1,_),(3,_)]) (.c2 rfl rfl)) ?_
    exact jE ((⟨g_34,gy,6,gt,6,gm,_⟩:MA)) (.c2 rfl rfl) ⟨((q2.n6 q3 q4 q17 q18 q19 q20).n1 q21),(y5q hb34 (hRf.low (by omega)) (hRb.low (by omega)) (y1a hY (by omega)) hpl hpm (y1e hT (by omega)) hul htm hMp (hfa.low (by omega)) hSz.ly hSz.lt (((q1.n6 q2 q3 q4 q17 q18 q19).n1 q20).n1 q21) (by omega) (by omega) (λx hx hb=>by rcases List.mem_append.1 hx with k|k;have:=hLf x k _ hb;omega;have:=hLb x k _ hb;omega) (λi hi q hq hb=>by have:=hLt i (by have:=hSz.lt;omega) q hq _ hb;omega) hPf hPb)⟩
   refine z3z (K:=138) (E:=3) crK h rfl underlying135 rfl λgm w22 hgm hMp q22 _hz a h=>?_
   have z22:=q22.size
   replace hS:=hS.ext q22
   replace hC:=hC.next q22
   clear _hz
   refine z0b ?_
   refine z0d 9 rfl ?_
   refine z0m h (z0a rfl z0g) u8n (y3z _ s.q.bs _ hS.b.b hS.b.bi hSz.bb hSz.b4) ?_;rintro _ w23 ⟨⟨bs_,hRb,hPb,gB,rfl⟩,q23⟩ a h
   have z23:=q23.size
   replace hS:=hS.ext q23
   replace hC:=hC.next q23
   have hLb:∀x∈bs_,∀k∈z0v (slv x.1),k<w23.heap.size:=λx hx k hk=>((hRb.2 x hx).blk k hk).2
   refine z0b ?_
   refine z2z (cs:=[_,_]) 10 h (z0a rfl (z0a rfl z0g)) u8b (z0f rfl rfl rfl (z0f rfl rfl rfl z0s)) rfl rfl λa h=>z0d 13 rfl ?_
   refine z0m h (z0a rfl z0g) (mkC func61) (y7c _ s.ys _ hS.y hS.ya (by have:=hSz.ly;omega) hSz.pe) ?_;rintro _ w24 ⟨⟨gy,ps,rfl,hgy,hY,hpl,hpm⟩,q24⟩ a h
   have z24:=q24.size
   replace hS:=hS.ext q24
   replace hC:=hC.next q24
   refine z0b ?_
   refine z0d 17 rfl ?_
   refine z0m h (z0a rfl z0g) j2s (y3c _ s.fb.ts _ hS.f.t hS.f.tt (by have:=hSz.lt;omega) hSz.tb) ?_;rintro _ w25 ⟨⟨gt,us,rfl,hgt,hT,hul,htm⟩,q25⟩ a h
   have z25:=q25.size
   replace hS:=hS.ext q25
   replace hC:=hC.next q25
   have hLt:∀i,i<us.length->∀q∈(us.getD i tq0).2,∀k∈z0v (slv q.th),k<w25.heap.size:=λi hi q hq k hk=>((hT.lps i hi q hq).1.blk k hk).2
   refine z0b ?_
   refine z0d 26 rfl ?_
   refine z0m h (z0a rfl z0g) x0t (z3k _ s.fb.fs _ hS.f.f hSz.fl) ?_;rintro _ w26 ⟨gf,rfl,hgf,hfa,q26⟩ a h
   have z26:=q26.size
   replace hb1:=hb1.ext (q22.n4 q23 q24 q25 q26)
   replace hC:=hC.next q26
   refine z0b ?_
   refine z2z (cs:=[_,_,_,_,_,_,_]) 27 h (z0a rfl (z0a rfl (z0a rfl (z0a rfl (z0a rfl (z0a rfl z0g)))))) x8o (z0f rfl rfl rfl (z0f rfl rfl rfl (z0f rfl rfl rfl (z0f rfl rfl rfl (z0f rfl rfl rfl (z0f rfl rfl rfl z0s)))))) rfl rfl λa h=>z0d 28 rfl ?_
   refine y3k h rfl rfl rfl λw27 hb34 q27 hz a h=>?_
   obtain ⟨g_34,hg⟩:∃g,g=w26.heap.size:=⟨_,rfl⟩;rw [<-hg] at hb34 h hz
   have hn__34:g1<g_34:=by have:=hb1.lt;omega
   have z27:=q27.size
   replace hRf:=hRf.ext (q22.n5 q23 q24 q25 q26 q27)
   replace hMp:=hMp.ext (q23.n4 q24 q25 q26 q27)
   replace hRb:=hRb.ext (q24.n3 q25 q26 q27)
   replace hY:=hY.ext (q25.n2 q26 q27)
   replace hT:=hT.ext (q26.n1 q27)
   replace hfa:=hfa.ext q27
   replace hC:=hC.next q27
   refine z0b ?_
   refine z0d 29 rfl ?_
   refine z0q h rfl λa h=>?_
   refine z0b ?_
   refine z0r ?_
   clear hC hS_b hb1_b
   refine bk (h.sub (L':=[(1,_),(3,_)]) (.c2 rfl rfl)) ?_
   exact jE ((⟨g_34,gy,6,gt,6,gm,_⟩:MA)) (.c2 rfl rfl) ⟨((q2.n6 q3 q22 q23 q24 q25 q26).n1 q27),(y5q hb34 (hRf.low (by omega)) (hRb.low (by omega)) (y1a hY (by omega)) hpl hpm (y1e hT (by omega)) hul htm hMp (hfa.low (by omega)) hSz.ly hSz.lt (((q1.n6 q2 q3 q22 q23 q24 q25).n1 q26).n1 q27) (by omega) (by omega) (λx hx hb=>by rcases List.mem_append.1 hx with k|k;have:=hLf x k _ hb;omega;have:=hLb x k _ hb;omega) (λi hi q hq hb=>by have:=hLt i (by have:=hSz.lt;omega) q hq _ hb;omega) hPf hPb)⟩
  refine z3z (K:=138) (E:=3) crK h rfl underlying135 rfl λgm w28 hgm hMp q28 _hz a h=>?_
  have z28:=q28.size
  replace hS:=hS.ext q28
  replace hC:=hC.next q28
  clear _hz
  refine z0b ?_
  refine z0d 5 rfl ?_
  refine z0m h (z0a rfl z0g) u8n (y3z _ s.q.fs _ hS.b.f hS.b.fi hSz.bf hSz.f4) ?_;rintro _ w29 ⟨⟨fs_,hRf,hPf,gF,rfl⟩,q29⟩ a h
  have z29:=q29.size
  replace hS:=hS.ext q29
  replace hC:=hC.next q29
  have hLf:∀x∈fs_,∀k∈z0v (slv x.1),k<w29.heap.size:=λx hx k hk=>((hRf.2 x hx).blk k hk).2
  refine z0b ?_
  refine z0d 9 rfl ?_
  refine z0m h (z0a rfl z0g) u8n (y3z _ s.q.bs _ hS.b.b hS.b.bi hSz.bb hSz.b4) ?_;rintro _ w30 ⟨⟨bs_,hRb,hPb,gB,rfl⟩,q30⟩ a h
  have z30:=q30.size
  replace hS:=hS.ext q30
  replace hC:=hC.next q30
  have hLb:∀x∈bs_,∀k∈z0v (slv x.1),k<w30.heap.size:=λx hx k hk=>((hRb.2 x hx).blk k hk).2
  refine z0b ?_
  refine z2z (cs:=[_,_]) 10 h (z0a rfl (z0a rfl z0g)) u8b (z0f rfl rfl rfl (z0f rfl rfl rfl z0s)) rfl rfl λa h=>z0d 13 rfl ?_
  refine z0m h (z0a rfl z0g) (mkC func61) (y7c _ s.ys _ hS.y hS.ya (by have:=hSz.ly;omega) hSz.pe) ?_;rintro _ w31 ⟨⟨gy,ps,rfl,hgy,hY,hpl,hpm⟩,q31⟩ a h
  have z31:=q31.size
  replace hS:=hS.ext q31
  replace hC:=hC.next q31
  refine z0b ?_
  refine z0d 17 rfl ?_
  refine z0m h (z0a rfl z0g) j2s (y3c _ s.fb.ts _ hS.f.t hS.f.tt (by have:=hSz.lt;omega) hSz.tb) ?_;rintro _ w32 ⟨⟨gt,us,rfl,hgt,hT,hul,htm⟩,q32⟩ a h
  have z32:=q32.size
  replace hS:=hS.ext q32
  replace hC:=hC.next q32
  have hLt:∀i,i<us.length->∀q∈(us.getD i tq0).2,∀k∈z0v (slv q.th),k<w32.heap.size:=λi hi q hq k hk=>((hT.lps i hi q hq).1.blk k hk).2
  refine z0b ?_
  refine z0d 26 rfl ?_
  refine z0m h (z0a rfl z0g) x0t (z3k _ s.fb.fs _ hS.f.f hSz.fl) ?_;rintro _ w33 ⟨gf,rfl,hgf,hfa,q33⟩ a h
  have z33:=q33.size
  replace hb1:=hb1.ext (q28.n5 q29 q30 q31 q32 q33)
  replace hC:=hC.next q33
  refine z0b ?_
  refine z2z (cs:=[_,_,_,_,_,_,_]) 27 h (z0a rfl (z0a rfl (z0a rfl (z0a rfl (z0a rfl (z0a rfl z0g)))))) x8o (z0f rfl rfl rfl (z0f rfl rfl rfl (z0f rfl rfl rfl (z0f rfl rfl rfl (z0f rfl rfl rfl (z0f rfl rfl rfl z0s)))))) rfl rfl λa h=>z0d 28 rfl ?_
  refine y3k h rfl rfl rfl λw34 hb34 q34 hz a h=>?_
  obtain ⟨g_34,hg⟩:∃g,g=w33.heap.size:=⟨_,rfl⟩;rw [<-hg] at hb34 h hz
  have hn__34:g1<g_34:=by have:=hb1.lt;omega
  have z34:=q34.size
  replace hMp:=hMp.ext (q29.n5 q30 q31 q32 q33 q34)
  replace hRf:=hRf.ext (q30.n4 q31 q32 q33 q34)
  replace hRb:=hRb.ext (q31.n3 q32 q33 q34)
  replace hY:=hY.ext (q32.n2 q33 q34)
  replace hT:=hT.ext (q33.n1 q34)
  replace hfa:=hfa.ext q34
  replace hC:=hC.next q34
  refine z0b ?_
  refine z0d 29 rfl ?_
  refine z0q h rfl λa h=>?_
  refine z0b ?_
  refine z0r ?_
  clear hC hS_b hb1_b
  refine bk (h.sub (L':=[(1,_),(3,_)]) (.c2 rfl rfl)) ?_
  exact jE ((⟨g_34,gy,6,gt,6,gm,_⟩:MA)) (.c2 rfl rfl) ⟨((q2.n6 q28 q29 q30 q31 q32 q33).n1 q34),(y5q hb34 (hRf.low (by omega)) (hRb.low (by omega)) (y1a hY (by omega)) hpl hpm (y1e hT (by omega)) hul htm hMp (hfa.low (by omega)) hSz.ly hSz.lt (((q1.n6 q2 q28 q29 q30 q31 q32).n1 q33).n1 q34) (by omega) (by omega) (λx hx hb=>by rcases List.mem_append.1 hx with k|k;have:=hLf x k _ hb;omega;have:=hLb x k _ hb;omega) (λi hi q hq hb=>by have:=hLt i (by have:=hSz.lt;omega) q hq _ hb;omega) hPf hPb)⟩
 rintro ka w35 ⟨q35,⟨m,hM,hmp⟩⟩
 have z35:=q35.size
 have hM0:=hM
 refine kpC [(1,_),(3,.pointer (some ⟨ka.gk,0,none⟩))] (.c2 rfl rfl) (sq (sr (fad rfl z8b (y2g rfl y6r ?_))))
 replace hb1:=hb1.ext q35
 refine z0i rfl hb1 rfl u8e (lnS rfl underlying36 (mv rfl (nn (bl ?_))))
 refine lpK (ι:=Nat) [(3,_),(37,_),(38,_)] (λi=>[(39,.int .i64 (i:Int))]) (λi w'=>i<=s.fb.cs.length/\(∃m:MQ,m.p=(⟨s.rk,⟨trimB (plB s.q.fs),trimB (plB s.q.bs)⟩,s.ys.map YQ.p,z2c s.fb.ts,s.fb.cs.take i,s.fb.fs⟩:MSt)/\MkM τd 137 w0 ka w' m)) (λi=>s.fb.cs.length-i) 0 (.c4 rfl rfl rfl rfl) ⟨Nat.zero_le _,⟨m,hmp,hM⟩⟩ ?_
 rintro i w36 ⟨hi,⟨m,hmp,hM⟩⟩
 have hM0:=hM
 refine kpC [(3,_),(37,_),(38,_),(39,_)] (.c4 rfl rfl rfl rfl) ?_
 have hk:=hM.k
 have hkl:=hk.lt
 refine sr (lt' rfl rfl (nn (sq (cd rfl (λc0=>?_) (λc0=>?_)))))
 ·refine sk (tn (sq (bl (sr (z1a (cx0) rfl (hS0.f.c.ext hM.fr.fr) rfl v9y z1f (λad41 hc41=>?_))))))
  refine z1j rfl (hc41 _ (hS0.f.c.ext hM.fr.fr)) v0r (al v3d rfl rfl (λg5 w37 hg5 hb5 q37 z37=>(z0j (vs:=[_,_,_,_,_]) rfl rfl hb5 u6i (λw38 hb5 q38 z38=>(nn ?_)))))
  replace hM:=hM0.ext (q37.z1 q38)
  replace hk:=(hk.ext q37).fr q38
  intro a h
  refine z0h (some 11) (λwb w'=>Fr [] wb w') z2r ?_;intro w39 q39
  have z39:=q39.size
  replace hM:=hM.ext q39
  replace hk:=hk.ext q39
  replace hb5:=hb5.ext q39
  have hC:Fr [] w39 w39:=Fr.refl _ _
  have hM_b:=hM
  have hk_b:=hk
  have hb5_b:=hb5
  refine z0e 0 h rfl rfl λa h=>z0o 1 h rfl rfl λa h=>z0c 2 h rfl y1q rfl λa h=>z0l 3 h rfl (λ_ hw=>hk_b.ext hw) rfl x7q rfl λa h=>z0c 4 h rfl y1y rfl λa h=>z1c (vs:=[_,_]) 5 h rfl (λ_ hw=>(hb5_b.ext hw)) z3g rfl rfl λa h=>z0c 6 h rfl y1l rfl λa h=>z1c (vs:=[_,_]) 7 h rfl (λ_ hw=>(hb5_b.ext hw)) z3g rfl rfl λa h=>z2z (cs:=[_,_,_,_]) 8 h (z0a rfl (z0a rfl z0g)) u3b (z0f rfl rfl rfl (z0f rfl rfl rfl z0s)) rfl rfl λa h=>z0c 9 h rfl y3d rfl λa h=>z0l 10 h rfl (λ_ hw=>hb5_b.ext hw) rfl na3 rfl λa h=>?_
  refine z0d 11 rfl ?_
  refine y6c (V:=crK) (k:=cxK (s.fb.cs.getD i cx0)) (v:=.int .i64 (s.fb.cs.getD i cx0).n) h rfl rfl rfl hM.c x5e underlying135 λw40 hcN hq _hz a h=>?_
  rw [show m.cr=s.fb.cs.take i from congrArg MSt.cr hmp] at hcN
  replace hM:=hM.cross (l:=s.fb.cs.take (i+1)) (by rw [<-v7u hcn (by omega)];exact hcN) hq
  refine z1o ?_
  refine z0r ?_
  clear hC hM_b hk_b hb5_b
  refine bk (h.sub (L':=[(3,_),(37,_),(38,_),(39,_)]) (.c4 rfl rfl rfl rfl)) (bn' (tn (rg (z0y rfl rfl (wi6 (by omega)) (mv rfl (nl ?_))))))
  exact lpE (i+1) (.c4 rfl rfl rfl rfl) ⟨by omega,⟨{ m with cr:=s.fb.cs.take (i+1) },by rw [show ({ m with cr:=s.fb.cs.take (i+1) }:MQ).p={ m.p with cr:=s.fb.cs.take (i+1) } from rfl,hmp],hM⟩⟩ (by omega)
 obtain rfl:i=s.fb.cs.length:=by omega
 refine ex (te (te (xh (tn (sr (mv rfl (asg rfl (kpL [(2,_)] (.cons rfl .nil) (nn (rt (r1 results25 rfl ?_)))))))))))
 exact ⟨_,rfl,ka,m,rfl,hM,by rw [hmp,List.take_length]⟩
theorem j4g (v:Value) (l:List Int) (w0:World) (hs:Sl Enc.i64 w0 v l) (hl:l.length<=1000):Rets prog 121 #[v] w0 λr w'=>r=.int .i64 (orZ l)/\w'=w0:=by
 obtain ⟨A,c,rfl,hcc,hM,hA⟩:=id hs
 clear hA
 unfold maxLen at hM
 refine we [(0,.slice A l.length c)] func121 rfl ntmps121 rfl (.cons rfl .nil) ?_
 have hs0:=hs
 refine sr (asg rfl (nn (sr (asg rfl (nn (sq (sr (mv rfl (lnS rfl underlying85 (mv rfl (nn (bl ?_))))))))))))
 refine lpK (ι:=Nat) [(3,_),(6,_),(7,_)] (λi=>[(8,.int .i64 (i:Int))]) (λi w'=>Fr [] w0 w'/\i<=l.length/\(∀j,j<i->l.getD j 0=0)/\w'=w0) (λi=>l.length-i) 0 (.c4 rfl rfl rfl rfl) ⟨Fr.refl _ _,⟨Nat.zero_le _,⟨λj h=>absurd h (by omega),rfl⟩⟩⟩ ?_
 rintro i w1 ⟨q1,⟨hi,⟨hz,hwq⟩⟩⟩
 refine kpC [(3,_),(6,_),(7,_),(8,_)] (.c4 rfl rfl rfl rfl) (sr (lt' rfl rfl (nn (sq (cd rfl (λc0=>?_) (λc0=>?_))))))
 ·refine sk (tn (sq (bl (sr ?_))))
  replace hs:=hs0.ext q1
  refine z1a (0) rfl hs rfl y5k z1f (λad10 hc10=>?_)
  refine z1i rfl (hc10 _ hs) na3 (asg rfl (nn (sr (mv rfl (mv rfl (ne' rfl rfl (nn (cd rfl (λc1=>?_) (λc1=>?_)))))))))
  ·refine sr (mv rfl (asg rfl (kpL [(2,_)] (.cons rfl .nil) (nn (rt (rb (tr (tr (rb (tr (r1 results121 rfl ?_)))))))))))
   exact ⟨_,rfl,congrArg (Value.int .i64) (x9n (by omega) hz (by omega)).symm,hwq⟩
  refine sk (bn' (tn (rg (z0y rfl rfl (wi6 (by omega)) (mv rfl (nl ?_))))))
  exact lpE (i+1) (.c4 rfl rfl rfl rfl) ⟨q1,⟨by omega,⟨λj h=>by
   by_cases e:j=i
   ·subst e;omega
   exact hz j (by omega),hwq⟩⟩⟩ (by omega)
 obtain rfl:i=l.length:=by omega
 refine ex (te (te (xh (tn (sr (mv rfl (asg rfl (kpL [(2,_)] (.cons rfl .nil) (nn (rt (r1 results121 rfl ?_)))))))))))
 exact ⟨_,rfl,congrArg (Value.int .i64) (y9g hz).symm,hwq⟩
theorem nanD (x:Int) (W:World):Calls prog 165 #[.int .i64 x] W λe w'=>e=.returned (.bool false)/\w'=W:=by
 go_enter func165,ntmps165
 go_wp2
 go_ret
 exact ⟨by simp,rfl⟩
theorem j3l (x:Int) (W:World):Calls prog 164 #[.int .u8 x] W λe w'=>e=.returned (.bool false)/\w'=W:=by
 go_enter func164,ntmps164
 go_wp2
 go_ret
 exact ⟨by simp,rfl⟩
set_option maxHeartbeats 1000000 in
theorem cmpD (x y:Int) (W:World):Calls prog 123 #[.int .i64 x,.int .i64 y] W λe w'=>e=.returned (.int .i64 (z9i x y))/\w'=W:=by
 go_enter func123,ntmps123
 go_wp2_with (go_at_call 165;refine (nanD _ _).mono ?_;rintro e w' ⟨rfl,hw⟩;rw [hw])
 all_goals (go_ret;refine ⟨?_,rfl⟩;unfold z9i;(repeat' split)<;>first|rfl|(exfalso;omega))
set_option maxHeartbeats 1000000 in
theorem j3y (x y:Int) (W:World):Calls prog 122 #[.int .u8 x,.int .u8 y] W λe w'=>e=.returned (.int .i64 (z9i x y))/\w'=W:=by
 go_enter func122,ntmps122
 go_wp2_with (go_at_call 164;refine (j3l _ _).mono ?_;rintro e w' ⟨rfl,hw⟩;rw [hw])
 all_goals (go_ret;refine ⟨?_,rfl⟩;unfold z9i;(repeat' split)<;>first|rfl|(exfalso;omega))
theorem orD (b T:Nat) (x y:Int) (W:World) (h0:W.heap[b]?=some (.cells #[.int .i64 x,.int .i64 y] T (0,0))):Calls prog 121 #[.slice (some ⟨b,0,none⟩) 2 2] W λe w'=>e=.returned (.int .i64 (orZ [x,y]))/\w'=W:=
 Calls.mono (j4g _ _ W (u9i h0) (by simp)) (by rintro e w' ⟨r,rfl,rfl,h⟩;exact ⟨rfl,h⟩)
set_option maxHeartbeats 4000000 in
theorem u4w (x y:LId) (W:World):Calls prog 74 #[.agg #[.int .u8 x.y,.int .i64 x.n],.agg #[.int .u8 y.y,.int .i64 y.n]] W λe w'=>e=.returned (.int .i64 (z6m x y))/\DG W w':=by
 rw [<-x6p x y]
 go_enter func74,ntmps74
 go_wp2
 go_region_held3 (λw'=>w'.cell? ⟨W.heap.size,0,none⟩=some (.int .u8 x.y)/\w'.cell? ⟨W.heap.size,1,none⟩=some (.int .i64 x.n)/\w'.cell? ⟨W.heap.size+1,0,none⟩=some (.int .u8 y.y)/\w'.cell? ⟨W.heap.size+1,1,none⟩=some (.int .i64 y.n)) (go_keep)
  (first|(go_at_call 122;refine (j3y _ _ _).mono ?_;rintro e w' ⟨rfl,rfl⟩)|(go_at_call 123;refine (cmpD _ _ _).mono ?_;rintro e w' ⟨rfl,rfl⟩)|(go_at_call 121;refine (orD _ 3 (z9i x.y y.y) (z9i x.n y.n) _ (u3g _ _ _ (by simp))).mono ?_;rintro e w' ⟨rfl,rfl⟩)|(go_at_call 121;refine (orD _ 3 (z9i x.y y.y) (z9i x.n y.n) _ (j4j _ _ _ (by simp))).mono ?_;rintro e w' ⟨rfl,rfl⟩))
 all_goals go_wp2
 all_goals go_ret
 all_goals refine ⟨rfl,?_⟩
 all_goals repeat first|exact DG.refl _|refine DG.drew ?_|refine DG.alloc ?_ _
set_option maxHeartbeats 4000000 in
theorem u8f (x y:Cx) (W:World):Calls prog 73 #[u8d x,u8d y] W λe w'=>e=.returned (.int .i64 (y9w x y))/\DG W w':=by
 go_enter func73,ntmps73
 go_wp2_with (first|(go_at_call 74;refine (u4w ⟨_,_⟩ ⟨_,_⟩ _).mono ?_;rintro e w' ⟨rfl,hw⟩;have c1:w'.cell? ⟨W.heap.size,2,none⟩=some (.int .u8 x.b.y):=hw.cell (by simp [u8d]);have c2:w'.cell? ⟨W.heap.size,3,none⟩=some (.int .i64 x.b.n):=hw.cell (by simp [u8d]);have c3:w'.cell? ⟨W.heap.size+1,2,none⟩=some (.int .u8 y.b.y):=hw.cell (by simp [u8d]);have c4:w'.cell? ⟨W.heap.size+1,3,none⟩=some (.int .i64 y.b.n):=hw.cell (by simp [u8d]))|(go_at_call 74;refine (u4w ⟨_,_⟩ ⟨_,_⟩ _).mono ?_;rintro e w'' ⟨rfl,hw'⟩))
 all_goals go_ret
 ·rename_i h
  refine ⟨?_,(((DG.refl _).alloc _).alloc _).trans hw⟩
  show Ending.returned (Value.int .i64 (z6m x.a y.a))=_
  unfold y9w;rw [if_pos (by simpa using h)]
 rename_i h
 refine ⟨?_,((((DG.refl _).alloc _).alloc _).trans hw).trans hw'⟩
 show Ending.returned (Value.int .i64 (z6m x.b y.b))=_
 unfold y9w;rw [if_neg (by simpa using h)]
end Go.Proofs.YtpgdchkdlgkmgaaGreatDoor
namespace Go.Proofs
open Go.Shelf
def Tryz.sortCx_ren:Go.Shelf.Ren:=⟨fun|6=>72|15=>120|14=>119|28=>162|29=>163|20=>154|21=>155|22=>156|23=>157|24=>158|25=>159|26=>160|27=>161|46=>204|47=>205|48=>206|49=>207|50=>208|57=>234|n=>n,fun|22=>36|24=>109|25=>142|3=>3|39=>208|0=>0|53=>264|55=>266|4=>4|46=>257|45=>256|50=>261|5=>5|9=>9|66=>296|70=>300|76=>324|77=>325|n=>n,fun|n=>n⟩
theorem Tryz.sortCx:Go.Proofs.SlLaysF0.n6 Tryz.prog Tryz.sortCx_ren:={
 mixed:=by kernel_rfl
 f6:=⟨Tryz.f72.name,by decide,Tryz.func72.trans (congrArg some (by kernel_rfl))⟩
 f14:=⟨Tryz.f119.name,by decide,Tryz.func119.trans (congrArg some (by kernel_rfl))⟩
 f15:=Tryz.func120.trans (congrArg some (by kernel_rfl))
 f20:=⟨Tryz.f154.name,by decide,Tryz.func154.trans (congrArg some (by kernel_rfl))⟩
 f21:=⟨Tryz.f155.name,by decide,Tryz.func155.trans (congrArg some (by kernel_rfl))⟩
 f22:=⟨Tryz.f156.name,by decide,Tryz.func156.trans (congrArg some (by kernel_rfl))⟩
 f23:=⟨Tryz.f157.name,by decide,Tryz.func157.trans (congrArg some (by kernel_rfl))⟩
 f24:=⟨Tryz.f158.name,by decide,Tryz.func158.trans (congrArg some (by kernel_rfl))⟩
 f25:=⟨Tryz.f159.name,by decide,Tryz.func159.trans (congrArg some (by kernel_rfl))⟩
 f26:=⟨Tryz.f160.name,by decide,Tryz.func160.trans (congrArg some (by kernel_rfl))⟩
 f27:=⟨Tryz.f161.name,by decide,Tryz.func161.trans (congrArg some (by kernel_rfl))⟩
 f28:=Tryz.func162.trans (congrArg some (by kernel_rfl))
 f29:=Tryz.func163.trans (congrArg some (by kernel_rfl))
 f46:=⟨Tryz.f204.name,by decide,Tryz.func204.trans (congrArg some (by kernel_rfl))⟩
 f47:=Tryz.func205.trans (congrArg some (by kernel_rfl))
 f48:=Tryz.func206.trans (congrArg some (by kernel_rfl))
 f49:=⟨Tryz.f207.name,by decide,Tryz.func207.trans (congrArg some (by kernel_rfl))⟩
 f50:=⟨Tryz.f208.name,by decide,Tryz.func208.trans (congrArg some (by kernel_rfl))⟩
 f57:=⟨Tryz.f234.name,by decide,Tryz.func234.trans (congrArg some (by kernel_rfl))⟩
 t0:=Tryz.underlying0
 a0:=Tryz.isAgg0
 z0:=Tryz.sizeOf0
 v0:=Tryz.zeroValue0
 t3:=Tryz.underlying3
 a3:=Tryz.isAgg3
 z3:=Tryz.sizeOf3
 v3:=Tryz.zeroValue3
 t4:=Tryz.underlying4
 a4:=Tryz.isAgg4
 z4:=Tryz.sizeOf4
 v4:=Tryz.zeroValue4
 t5:=Tryz.underlying5
 a5:=Tryz.isAgg5
 z5:=Tryz.sizeOf5
 v5:=Tryz.zeroValue5
 t9:=Tryz.underlying9
 a9:=Tryz.isAgg9
 z9:=Tryz.sizeOf9
 v9:=Tryz.zeroValue9
 t22:=Tryz.underlying36
 a22:=Tryz.isAgg36
 z22:=Tryz.sizeOf36
 v22:=Tryz.zeroValue36
 t25:=Tryz.underlying142
 a25:=Tryz.isAgg142
 z25:=Tryz.sizeOf142
 v25:=Tryz.zeroValue142
 t39:=Tryz.underlying208
 a39:=Tryz.isAgg208
 z39:=Tryz.sizeOf208
 v39:=Tryz.zeroValue208
 t45:=Tryz.underlying256
 a45:=Tryz.isAgg256
 z45:=Tryz.sizeOf256
 v45:=Tryz.zeroValue256
 t46:=Tryz.underlying257
 a46:=Tryz.isAgg257
 z46:=Tryz.sizeOf257
 v46:=Tryz.zeroValue257
 t50:=Tryz.underlying261
 a50:=Tryz.isAgg261
 z50:=Tryz.sizeOf261
 v50:=Tryz.zeroValue261
 t53:=Tryz.underlying264
 a53:=Tryz.isAgg264
 z53:=Tryz.sizeOf264
 v53:=Tryz.zeroValue264
 t55:=Tryz.underlying266
 a55:=Tryz.isAgg266
 z55:=Tryz.sizeOf266
 v55:=Tryz.zeroValue266
 t66:=Tryz.underlying296
 a66:=Tryz.isAgg296
 z66:=Tryz.sizeOf296
 v66:=Tryz.zeroValue296
 t70:=Tryz.underlying300
 a70:=Tryz.isAgg300
 z70:=Tryz.sizeOf300
 v70:=Tryz.zeroValue300
 t76:=Tryz.underlying324
 a76:=Tryz.isAgg324
 z76:=Tryz.sizeOf324
 v76:=Tryz.zeroValue324
 t77:=Tryz.underlying325
 a77:=Tryz.isAgg325
 z77:=Tryz.sizeOf325
 v77:=Tryz.zeroValue325 }
def Tryz.sortId_ren:Go.Shelf.Ren:=⟨fun|6=>76|15=>120|14=>124|28=>162|29=>163|20=>166|21=>167|22=>168|23=>169|24=>170|25=>171|26=>172|27=>173|46=>209|47=>205|48=>206|49=>210|50=>211|57=>235|n=>n,fun|22=>37|24=>87|25=>141|3=>3|39=>208|0=>0|53=>264|55=>266|4=>4|46=>257|45=>256|50=>261|5=>5|9=>9|66=>296|70=>300|76=>324|77=>325|n=>n,fun|n=>n⟩
theorem Tryz.sortId:Go.Proofs.SlLaysF0.n6 Tryz.prog Tryz.sortId_ren:={
 mixed:=by kernel_rfl
 f6:=⟨Tryz.f76.name,by decide,Tryz.func76.trans (congrArg some (by kernel_rfl))⟩
 f14:=⟨Tryz.f124.name,by decide,Tryz.func124.trans (congrArg some (by kernel_rfl))⟩
 f15:=Tryz.func120.trans (congrArg some (by kernel_rfl))
 f20:=⟨Tryz.f166.name,by decide,Tryz.func166.trans (congrArg some (by kernel_rfl))⟩
 f21:=⟨Tryz.f167.name,by decide,Tryz.func167.trans (congrArg some (by kernel_rfl))⟩
 f22:=⟨Tryz.f168.name,by decide,Tryz.func168.trans (congrArg some (by kernel_rfl))⟩
 f23:=⟨Tryz.f169.name,by decide,Tryz.func169.trans (congrArg some (by kernel_rfl))⟩
 f24:=⟨Tryz.f170.name,by decide,Tryz.func170.trans (congrArg some (by kernel_rfl))⟩
 f25:=⟨Tryz.f171.name,by decide,Tryz.func171.trans (congrArg some (by kernel_rfl))⟩
 f26:=⟨Tryz.f172.name,by decide,Tryz.func172.trans (congrArg some (by kernel_rfl))⟩
 f27:=⟨Tryz.f173.name,by decide,Tryz.func173.trans (congrArg some (by kernel_rfl))⟩
 f28:=Tryz.func162.trans (congrArg some (by kernel_rfl))
 f29:=Tryz.func163.trans (congrArg some (by kernel_rfl))
 f46:=⟨Tryz.f209.name,by decide,Tryz.func209.trans (congrArg some (by kernel_rfl))⟩
 f47:=Tryz.func205.trans (congrArg some (by kernel_rfl))
 f48:=Tryz.func206.trans (congrArg some (by kernel_rfl))
 f49:=⟨Tryz.f210.name,by decide,Tryz.func210.trans (congrArg some (by kernel_rfl))⟩
 f50:=⟨Tryz.f211.name,by decide,Tryz.func211.trans (congrArg some (by kernel_rfl))⟩
 f57:=⟨Tryz.f235.name,by decide,Tryz.func235.trans (congrArg some (by kernel_rfl))⟩
 t0:=Tryz.underlying0
 a0:=Tryz.isAgg0
 z0:=Tryz.sizeOf0
 v0:=Tryz.zeroValue0
 t3:=Tryz.underlying3
 a3:=Tryz.isAgg3
 z3:=Tryz.sizeOf3
 v3:=Tryz.zeroValue3
 t4:=Tryz.underlying4
 a4:=Tryz.isAgg4
 z4:=Tryz.sizeOf4
 v4:=Tryz.zeroValue4
 t5:=Tryz.underlying5
 a5:=Tryz.isAgg5
 z5:=Tryz.sizeOf5
 v5:=Tryz.zeroValue5
 t9:=Tryz.underlying9
 a9:=Tryz.isAgg9
 z9:=Tryz.sizeOf9
 v9:=Tryz.zeroValue9
 t22:=Tryz.underlying37
 a22:=Tryz.isAgg37
 z22:=Tryz.sizeOf37
 v22:=Tryz.zeroValue37
 t25:=Tryz.underlying141
 a25:=Tryz.isAgg141
 z25:=Tryz.sizeOf141
 v25:=Tryz.zeroValue141
 t39:=Tryz.underlying208
 a39:=Tryz.isAgg208
 z39:=Tryz.sizeOf208
 v39:=Tryz.zeroValue208
 t45:=Tryz.underlying256
 a45:=Tryz.isAgg256
 z45:=Tryz.sizeOf256
 v45:=Tryz.zeroValue256
 t46:=Tryz.underlying257
 a46:=Tryz.isAgg257
 z46:=Tryz.sizeOf257
 v46:=Tryz.zeroValue257
 t50:=Tryz.underlying261
 a50:=Tryz.isAgg261
 z50:=Tryz.sizeOf261
 v50:=Tryz.zeroValue261
 t53:=Tryz.underlying264
 a53:=Tryz.isAgg264
 z53:=Tryz.sizeOf264
 v53:=Tryz.zeroValue264
 t55:=Tryz.underlying266
 a55:=Tryz.isAgg266
 z55:=Tryz.sizeOf266
 v55:=Tryz.zeroValue266
 t66:=Tryz.underlying296
 a66:=Tryz.isAgg296
 z66:=Tryz.sizeOf296
 v66:=Tryz.zeroValue296
 t70:=Tryz.underlying300
 a70:=Tryz.isAgg300
 z70:=Tryz.sizeOf300
 v70:=Tryz.zeroValue300
 t76:=Tryz.underlying324
 a76:=Tryz.isAgg324
 z76:=Tryz.sizeOf324
 v76:=Tryz.zeroValue324
 t77:=Tryz.underlying325
 a77:=Tryz.isAgg325
 z77:=Tryz.sizeOf325
 v77:=Tryz.zeroValue325 }
end Go.Proofs
namespace Go.Proofs.YtpgdchkdlgkmgaaGreatDoor
open Go.Lw Go.G21 Go.G08 _root_.Go.Proofs.Tryz
open Go.Shelf Go.Sort
theorem u1z (f:Value) (W:World):Calls prog 154 #[.slice none 0 0,.int .i64 0,.int .i64 0,f] W λe w'=>e=.returned (.tuple #[])/\Fr [] W w':=by
 go_enter func154,ntmps154
 go_wp2
 refine wp_loop_rounds 1 ?_
 simp only [rounds_succ]
 go_wp2
 all_goals first|go_end0|((try simp only [Exit.inBlock,Exit.then]);refine bodyPost_ret (results_none rfl _ _ _) rfl ?_)
 all_goals exact ⟨rfl,Fr.refl _ _⟩
theorem u3r (f:Value) (W:World):Calls prog 119 #[.slice none 0 0,.int .i64 0,.int .i64 0,.int .i64 0,f] W λe w'=>e=.returned (.tuple #[])/\Fr [] W w':=by
 go_enter func119,ntmps119
 go_wp2
 refine wp_loop_rounds 1 ?_
 simp only [rounds_succ]
 go_wp2_with (go_at_call 154;refine (u1z _ _).mono ?_;rintro e w' ⟨rfl,hF⟩)
 all_goals first|go_end0|((try simp only [Exit.inBlock,Exit.then]);refine bodyPost_ret (results_none rfl _ _ _) rfl ?_)
 all_goals exact ⟨rfl,hF⟩
theorem u2c (W:World):Calls prog 120 #[.int .u64 0] W λe w'=>e=.returned (.int .i64 0)/\w'=W:=
 Any.bits_Len (SlLaysF0.n15.bits (P:=prog) (ρ:=sortCx_ren) { sortCx with }) (0:Int) W (by omega) (by omega)
theorem u7i (f:Value) (W:World):Calls prog 72 #[.slice none 0 0,f] W λe w'=>e=.returned (.tuple #[])/\Fr [] W w':=by
 go_enter func72,ntmps72
 go_wp2_with (first|(go_at_call 120;refine (u2c _).mono ?_;rintro e w' ⟨rfl,rfl⟩)|(go_at_call 119;refine (u3r _ _).mono ?_;rintro e w' ⟨rfl,hF⟩))
 all_goals go_end0
 all_goals exact ⟨rfl,hF⟩
theorem u2v (f:Value) (W:World):Calls prog 166 #[.slice none 0 0,.int .i64 0,.int .i64 0,f] W λe w'=>e=.returned (.tuple #[])/\Fr [] W w':=by
 go_enter func166,ntmps166
 go_wp2
 refine wp_loop_rounds 1 ?_
 simp only [rounds_succ]
 go_wp2
 all_goals first|go_end0|((try simp only [Exit.inBlock,Exit.then]);refine bodyPost_ret (results_none rfl _ _ _) rfl ?_)
 all_goals exact ⟨rfl,Fr.refl _ _⟩
theorem u3w (f:Value) (W:World):Calls prog 124 #[.slice none 0 0,.int .i64 0,.int .i64 0,.int .i64 0,f] W λe w'=>e=.returned (.tuple #[])/\Fr [] W w':=by
 go_enter func124,ntmps124
 go_wp2
 refine wp_loop_rounds 1 ?_
 simp only [rounds_succ]
 go_wp2_with (go_at_call 166;refine (u2v _ _).mono ?_;rintro e w' ⟨rfl,hF⟩)
 all_goals first|go_end0|((try simp only [Exit.inBlock,Exit.then]);refine bodyPost_ret (results_none rfl _ _ _) rfl ?_)
 all_goals exact ⟨rfl,hF⟩
theorem u6s (W:World):Calls prog 120 #[.int .u64 0] W λe w'=>e=.returned (.int .i64 0)/\w'=W:=
 Any.bits_Len (SlLaysF0.n15.bits (P:=prog) (ρ:=sortId_ren) { sortId with }) (0:Int) W (by omega) (by omega)
theorem u3q (f:Value) (W:World):Calls prog 76 #[.slice none 0 0,f] W λe w'=>e=.returned (.tuple #[])/\Fr [] W w':=by
 go_enter func76,ntmps76
 go_wp2_with (first|(go_at_call 120;refine (u6s _).mono ?_;rintro e w' ⟨rfl,rfl⟩)|(go_at_call 124;refine (u3w _ _).mono ?_;rintro e w' ⟨rfl,hF⟩))
 all_goals go_end0
 all_goals exact ⟨rfl,hF⟩
instance:Inhabited Cx:=⟨cx0⟩
instance:Inhabited LId:=⟨id0⟩
theorem u9n {w0:World} {T base:Nat} {v:Value} {l:List Cx} (ho:Lw.Own z4t T base w0 v l) (hl:l.length<4611686018427387904) (hn:(l.map λc=>(c.a,c.b)).Nodup):Rets prog 72 #[v,.func (.func 73) #[] #[]] w0 λr w'=>r=.tuple #[]/\Lw.Own z4t T base w' v (y2b l)/\Fr (z0v v) w0 w':=
 Rets.mono (x6m (E:=z4t) (f:=72) sortCx rfl isAgg109 sizeOf109 y9w swoX (enters_of func73 (by kernel_rfl) rfl) (λx y W=>u8f x y W) (u7i _) ho hl) (by
  rintro r w' ⟨rfl,l',hp,hs,h1,h2⟩
  rw [v4s hn hp hs] at h1
  exact ⟨rfl,h1,h2⟩)
theorem j1i {w0:World} {T base:Nat} {v:Value} {l:List LId} (ho:Lw.Own z1h T base w0 v l) (hl:l.length<4611686018427387904):Rets prog 76 #[v,.func (.func 74) #[] #[]] w0 λr w'=>r=.tuple #[]/\Lw.Own z1h T base w' v (y2i l)/\Fr (z0v v) w0 w':=
 Rets.mono (x6m (E:=z1h) (f:=76) sortId rfl isAgg87 sizeOf87 z6m swoI (enters_of func74 (by kernel_rfl) rfl) (λx y W=>u4w x y W) (u3q _) ho hl) (by
  rintro r w' ⟨rfl,l',hp,hs,h1,h2⟩
  rw [u4a hp hs] at h1
  exact ⟨rfl,h1,h2⟩)
end Go.Proofs.YtpgdchkdlgkmgaaGreatDoor
namespace Go.Proofs.YtpgdchkdlgkmgaaGreatDoor
open Go.Lw Go.G21 Go.G08 _root_.Go.Proofs.Tryz
theorem v7q (q:BdQ) (r:Int) (w0:World) (hB:BdAt w0 q) (hv:BdOk q.p) (hr:-4<=r/\r<=4):Rets prog 102 #[.agg #[.slice q.f.1 q.f.2.1 q.f.2.2,.slice q.b.1 q.b.2.1 q.b.2.2],.int .i64 r] w0 λv w'=>(∃g l n,l=z2n q.p r/\n=l.length/\n<=320/\v=.tuple #[.slice (some ⟨g,0,none⟩) n n,.int .i64 0]/\w0.heap.size<=g/\Lw.Own z3j 183 w0.heap.size w' (.slice (some ⟨g,0,none⟩) n n) l)/\Fr [] w0 w':=
 Rets.mono (v2k q r w0 hB hv hr) (by
  rintro v w' ⟨⟨g,rfl,h1,h2⟩,h3⟩
  have hN:=y7f hv
  have hal:=y9q q.p r
  have hhl:(z2n q.p r).length=(v3j q.p r).length:=z3v _
  exact ⟨⟨g,_,_,rfl,rfl,by omega,rfl,h1,h2⟩,h3⟩)
theorem u5b {l:List Hd} {ps:List LId} (hl:ps.length=l.length) (h:∀j,j<l.length->ps.getD j id0=(l.getD j hd0).id):ps=l.map Hd.id:=by
 refine List.ext_getElem (by simp [hl]) λj h1 h2=>?_
 have hj:j<l.length:=by omega
 have:=h j hj
 rw [List.getD,List.getD,List.getElem?_eq_getElem h1,List.getElem?_eq_getElem hj] at this
 simpa using this
set_option maxHeartbeats 2000000 in
theorem y2u (q:BdQ) (r:Int) (w0:World) (hB:BdAt w0 q) (hv:BdOk q.p) (hr:-4<=r/\r<=4):Rets prog 47 #[.agg #[.slice q.f.1 q.f.2.1 q.f.2.2,.slice q.b.1 q.b.2.1 q.b.2.2],.int .i64 r] w0 λv w'=>(∃g n,n=(z2n q.p r).length/\v=.slice (some ⟨g,0,none⟩) n n/\w0.heap.size<=g/\Lw.Own z1h 87 w0.heap.size w' v ((z2n q.p r).map Hd.id))/\Fr [] w0 w':=by
 obtain ⟨⟨hf,hb⟩,h4,h4b⟩:=z3m hv
 refine we [(0,.agg #[.slice q.f.1 q.f.2.1 q.f.2.2,.slice q.b.1 q.b.2.1 q.b.2.2]),(1,.int .i64 r)] func47 rfl ntmps47 rfl (.c2 rfl rfl) ?_
 have hB0:=hB
 refine sr (bx rfl rfl rfl (λg2 w1 hg2 hb2 q1 z1=>(asg rfl (nn (sr (z0n rfl hb2 z5k (mv rfl ?_)))))))
 replace hB:=hB0.ext q1
 refine cl (ev2 rfl rfl) (mkC func102) (v7q q _ _ hB hv hr) rfl ?_
 rintro _ w2 ⟨⟨g13,l,n,hle,hnl,hn3,rfl,hg13,hH⟩,q2⟩
 have z2:=q2.size
 have hg13l:=(hH.blk g13 (by simp [z0v])).2
 refine mv rfl (xt rfl rfl (xt rfl rfl (asg rfl (asg rfl (kpL [(5,_)] (.cons rfl .nil) (nn (sr (mv rfl (lnS rfl underlying179 (z1e (m:=n) (c:=n) (id0) rfl rfl z5v y2s rfl (λg18 w3 hg18 ho q3 z3=>(asg rfl (nn (sq (sr (mv rfl (lnS rfl underlying179 (mv rfl (nn (bl ?_))))))))))))))))))))
 refine lpK (ι:=Nat×List LId) [(7,_),(19,_),(20,_)] (λp=>[(21,.int .i64 (p.1:Int))]) (λp w'=>Fr [g18] w3 w'/\p.1<=n/\p.2.length=n/\Lw.Own z1h 87 w0.heap.size w' (.slice (some ⟨g18,0,none⟩) n n) p.2/\(∀j,j<p.1->p.2.getD j id0=(l.getD j hd0).id)) (λp=>n-p.1) (0,List.replicate n id0) (.c4 rfl rfl rfl rfl) ⟨Fr.refl _ _,⟨Nat.zero_le _,by simp,ho.low (by omega),λj hj=>absurd hj (by simp)⟩⟩ ?_
 rintro ⟨i,ps⟩ w4 ⟨q4,⟨hi,hpl2,ho,hpp⟩⟩
 simp only at hi ho hpp hpl2
 have z4:=q4.size
 refine kpC [(7,_),(19,_),(20,_),(21,.int .i64 (i:Int))] (.c4 rfl rfl rfl rfl) (sr (lt' rfl rfl (nn (sq (cd rfl (λc0=>?_) (λc0=>?_))))))
 ·refine sk (tn (sq (bl (sr (mv rfl ?_)))))
  replace hH:=(hH.ext q3).fr q4 (by intro k hk hb;simp [z0v] at hk hb;omega)
  refine z1a (hd0) rfl hH.sl rfl z3a z1f (λad24 hc24=>?_)
  refine z1j rfl (hc24 _ hH.sl) z5e (al v6n rfl rfl (λg9 w5 hg9 hb9 q5 z5=>(asg rfl (z0j (vs:=[_,_,_,_,_]) rfl rfl hb9 z8d (λw6 hb9 q6 z6=>(nn (rg (mv rfl (mv rfl (fad rfl v1l (z1y (vs:=[_,_]) rfl hb9 z3g rfl ?_)))))))))))
  replace ho:=(ho.ext q5).fr q6 (by intro k hk hb;simp at hk;subst hk;have:=(ho.blk _ hb);omega)
  refine z8r (p:=i) (E:=z1h) rfl rfl z5v (z5b (i:=i) (((l.getD i hd0).id)) rfl rfl ho (by omega) rfl y1n (λw7 ho q7 z7=>(kpL [(7,_),(19,_),(20,_),(21,_)] (.c4 rfl rfl rfl rfl) (nl (bn' (tn (rg (z0y rfl rfl (wi6 (by omega)) (mv rfl (nl ?_))))))))))
  exact lpE ((i+1,ps.set i ((l.getD i hd0).id))) (.c4 rfl rfl rfl rfl) ⟨((Fr.refl [g18] _).z4 q4 q5 q6 q7),⟨by simp only;omega,by simp only [List.length_set];exact hpl2,ho,λj hj=>by
   simp only at hj ⊢
   rw [z1g (by omega)]
   split
   ·rename_i e;subst e;rfl
   exact hpp j (by omega)⟩⟩ (by simp only;omega)
 obtain rfl:i=n:=by omega
 refine ex (te (te (xh (tn (sr (mv rfl (asg rfl (kpL [(4,_)] (.cons rfl .nil) (nn (rt (r1 results47 rfl ?_)))))))))))
 have hpe:=u5b (hpl2.trans hnl) (λj hj=>hpp j (by omega))
 subst hle
 subst hpe
 exact ⟨_,rfl,⟨g18,_,hnl,rfl,by omega,ho⟩,(q1.z3 q2 q3 q4)⟩
theorem x8m:z3p prog 41 8:=⟨λ_=>by kernel_rfl,λ_=>by kernel_rfl⟩
theorem j2i:BuildAt prog 39 [(0,1),(1,1),(2,1),(3,1)] [(.slice none 0 0),(.slice none 0 0),(.slice none 0 0),(.slice none 0 0)]:=BuildAt.struct underlying39 (λ_=>by kernel_rfl) (λ_=>by kernel_rfl)
theorem v5f:BuildAt prog 41 [(0,1),(1,2),(3,1),(4,4)] [(.int .i64 0),(.slice none 0 0),(.slice none 0 0),(.slice none 0 0),(.slice none 0 0),(.slice none 0 0),(.slice none 0 0),(.slice none 0 0)]:=BuildAt.struct underlying41 (λ_=>by kernel_rfl) (λ_=>by kernel_rfl)
theorem j4a:BuildAt prog 109 [(0,2),(2,2),(4,1)] [(.int .u8 0),(.int .i64 0),(.int .u8 0),(.int .i64 0),(.int .i64 0)]:=BuildAt.struct underlying109 (λ_=>by kernel_rfl) (λ_=>by kernel_rfl)
theorem v5j:z1q prog 39 4:=λ_=>by kernel_rfl
theorem x4l:z1q prog 41 8:=λ_=>by kernel_rfl
theorem v5k (w:World):(zeroValue 39).run prog w=.ok (.agg #[(.slice none 0 0),(.slice none 0 0),(.slice none 0 0),(.slice none 0 0)]) w:=by kernel_rfl
theorem u1h (w:World):(zeroValue 41).run prog w=.ok (.agg #[(.int .i64 0),(.slice none 0 0),(.slice none 0 0),(.slice none 0 0),(.slice none 0 0),(.slice none 0 0),(.slice none 0 0),(.slice none 0 0)]) w:=by kernel_rfl
set_option maxHeartbeats 4000000 in
theorem v4t (wS:World) (ka:MA) (m:MQ) (w0:World) (hM:MkM τd 137 wS ka w0 m) (hi:MInv m.p) (hcl:m.cr.length<=100000000):Rets prog 28 #[.pointer (some ⟨ka.gk,0,none⟩)] w0 λr w'=>∃s:StQ,r=.agg #[.int .i64 s.rk,.slice s.q.f.1 s.q.f.2.1 s.q.f.2.2,.slice s.q.b.1 s.q.b.2.1 s.q.b.2.2,.slice s.yv.1 s.yv.2.1 s.yv.2.2,.slice s.fb.t.1 s.fb.t.2.1 s.fb.t.2.2,.slice s.fb.c.1 s.fb.c.2.1 s.fb.c.2.2,.slice s.fb.h.1 s.fb.h.2.1 s.fb.h.2.2,.slice s.fb.f.1 s.fb.f.2.1 s.fb.f.2.2]/\StO τd 109 wS.heap.size w' s/\s.p=stM m.p/\Fr [] wS w':=by
 have hzS:=hM.fr.size
 have hk:=hM.k
 have hkz:=hk.lt
 have hly:=hM.ly
 have hlt:=hM.lt
 have hMs:=hM
 have hgtz:=(hM.t.out.blk ka.gt (by simp [z0v])).2
 have hgcz:=hM.c.lt
 have hfz:=λk hk=>(hM.f.blk k hk).2
 have hcm:(crM m.cr).length=m.cr.length:=List.length_map ..
 have hrl:∀j,(m.ts.getD j tq0).2.length<=2048:=λj=>Nat.le_trans (u0o m.ts j) hi.all
 have hfl:m.fl.length<=2048:=by have x:=hi.cnt;have y:=hi.all;have z:m.p.fa=m.fl:=rfl;rw [z] at x;omega
 refine we [(0,.pointer (some ⟨ka.gk,0,none⟩))] func28 rfl ntmps28 rfl (.cons rfl .nil) ?_
 have hM0:=hM
 refine sr (al u1h rfl rfl (λg2 w1 hg2 hb2 q1 z1=>(nn (sr (mv rfl (nlc rfl (fad rfl y1q ?_)))))))
 replace hk:=hk.ext q1
 refine z0i rfl hk rfl x7q ?_
 replace hM:=hM0.ext q1
 refine j1x rfl hM.c underlying135 rfl (z1e (m:=0) (c:=(crM m.cr).length) (cx0) rfl rfl v9y v3d rfl (λg14 w2 hg14 ho q2 z2=>(asg rfl (kpL [(0,_),(2,_),(3,_)] (.c3 rfl rfl rfl) (nn (sq (sr (mv rfl (nlc rfl (fad rfl y1q ?_))))))))))
 replace hk:=hk.ext q2
 refine z0i rfl hk rfl x7q ?_
 replace hM:=hM0.ext (q1.n1 q2)
 refine v5u rfl hM.c underlying135 rfl (λg19 w3 hg19 hit19 q3 z3=>(nn (bl ?_)))
 replace ho:=ho.ext q3
 refine lpK (ι:=Value×List Cx×List Cx) [(0,_),(2,_),(19,_)] (λp=>[(3,p.1)]) (λp w'=>Fr [] w1 w'/\(p.2.1++p.2.2).Perm m.cr/\Lw.Own z4t 109 w1.heap.size w' p.1 p.2.1/\CrIt w' g19 ka.gc (crM m.cr) p.2.2 none) (λp=>p.2.2.length) (_,[],m.cr) (.c4 rfl rfl rfl rfl) ⟨(q2.n1 q3),⟨List.Perm.refl _,ho.low (by omega),hit19⟩⟩ ?_
 rintro ⟨vP,acc,rem⟩ w4 ⟨q4,⟨hpm,ho,hit19⟩⟩
 simp only at hpm ho hit19
 have z4:=q4.size
 refine kpC [(0,_),(2,_),(19,_),(3,vP)] (.c4 rfl rfl rfl rfl) ?_
 have hne19:=hit19.neO ho
 have hg19l:=hit19.lt
 have hpl:=hpm.length_eq
 rw [List.length_append] at hpl
 refine sr (u3v rfl hit19 rfl (λl1 c l2 hrm w5 hit19 q5 z5=>?_) (λhrm=>?_))
 ·refine xt rfl rfl (nn (sq (ct rfl ?_)))
  have hpm':((acc++[c])++(l1++l2)).Perm m.cr:=by
   rw [hrm] at hpm
   refine List.Perm.trans ?_ hpm
   rw [List.append_assoc]
   exact List.Perm.append_left _ (show (c::(l1++l2)).Perm (l1++c::l2) from List.perm_middle.symm)
  refine sk (tn (bl (sr (v5o rfl hit19 rfl (xt rfl rfl (xt rfl rfl (al j0k rfl rfl (λg4 w6 hg4 hb4 q6 z6=>(z0j (vs:=[_,_,_,_]) rfl rfl hb4 u3a (λw7 hb4 q7 z7=>?_))))))))))
  refine asg rfl (nn (rg (mv rfl (y2l rfl rfl underlying138 y1n (z1y (vs:=[_,_]) rfl hb4 z3g rfl (y2l rfl rfl underlying138 y1n (z1y (vs:=[_,_]) rfl hb4 z3g rfl (mv rfl (z1r (cs:=[_,_,_,_,_]) (ev3 rfl rfl rfl) j4a (z0f rfl rfl rfl (z0f rfl rfl rfl (z0f rfl rfl rfl z0s))) rfl ?_)))))))))
  refine z2f ([c]) (ev1 rfl) rfl rfl rfl v9y (λg32 w8 hg32 ho32 q8 z8=>?_)
  replace hit19:=((hit19.ext q6).fr q7 (by intro k hk;simp at hk;subst hk;exact ⟨by omega,by omega⟩)).ext q8
  replace ho:=(((ho.fr q5 (by intro k hk hb;simp at hk;subst hk;first|exact (hne19 _ hb).2 rfl|(have:=ho.blk _ hb;omega))).ext q6).fr q7 (by intro k hk hb;simp at hk;subst hk;first|exact (hne19 _ hb).2 rfl|(have:=ho.blk _ hb;omega))).ext q8
  have hoo33:=ho
  refine z1x rfl rfl ho ho32.sl v9y (by unfold maxLen;simp only [List.length_cons,List.length_nil];omega) (by simp only [List.length_cons,List.length_nil];omega) (λv33 w9 ho q9 hor33=>?_)
  have z9:=q9.size
  replace hit19:=hit19.fr q9 (hit19.neO hoo33)
  refine asg rfl (kpL [(0,_),(2,_),(3,_),(19,_)] (.c4 rfl rfl rfl rfl) (nl (bn' ?_)))
  exact lpE ((_,acc++[c],l1++l2)) (.c4 rfl rfl rfl rfl) ⟨((q4.z4 q5 q6 q7 q8).step q9 (λk hk hlt=>absurd (hoo33.blk k hk).1 (by omega))),⟨hpm',ho,hit19.no⟩⟩ (by simp only [hrm,List.length_append,List.length_cons];omega)
 refine xt rfl rfl (nn (sq (cf rfl ?_)))
 rw [hrm,List.append_nil] at hpm
 have hnd:(acc.map λc=>(c.a,c.b)).Nodup:=(hpm.map _).nodup_iff.2 (by have x:=hMs.c.nodup;rwa [y9a] at x)
 have hsx:y2b acc=y2b m.cr:=v4s (by have x:=hMs.c.nodup;rwa [y9a] at x) ((z4i acc).trans hpm) (y8d acc)
 refine ex (te (te (xh (tn (sr (mv rfl ?_))))))
 have hoB:=ho
 replace hb2:=hb2.ext q4
 refine cl (ev2 rfl rfl) (mkC func72) (u9n ho (by omega) hnd) rfl ?_
 rintro _ w10 ⟨rfl,ho,q10⟩
 replace hb2:=hb2.fr q10 (λhk=>by have:=(hoB.blk _ hk).1;omega)
 have z10:=q10.size
 replace hM:=hM0.ext ((q1.n1 q4).step q10 (λk hk hlt=>absurd (hoB.blk k hk).1 (by omega)))
 have hk:=hM.k
 refine nn (sq (sr (mv rfl (nlc rfl (fad rfl y1g (z0i rfl hk rfl x1r (lnS rfl underlying35 (mv rfl (nn (bl ?_))))))))))
 refine lpK (ι:=Nat×List TQ) [(0,_),(2,_),(3,_),(39,_),(40,_)] (λp=>[(41,.int .i64 (p.1:Int))]) (λp w'=>Fr [ka.gt] w10 w'/\p.1<=6/\(∀j,(p.2.getD j tq0).2=(m.ts.getD j tq0).2)/\MkM τd 137 wS ka w' { m with ts:=p.2 }) (λp=>6-p.1) (0,m.ts) (.c6 rfl rfl rfl rfl rfl rfl) ⟨Fr.refl _ _,⟨Nat.zero_le _,λ_=>rfl,hM⟩⟩ ?_
 rintro ⟨i,ts⟩ w11 ⟨q11,⟨hi6,htr,hM⟩⟩
 simp only at hi6 htr hM
 have z11:=q11.size
 have hM0:=hM
 refine kpC [(0,_),(2,_),(3,_),(39,_),(40,_),(41,.int .i64 (i:Int))] (.c6 rfl rfl rfl rfl rfl rfl) ?_
 have hk:=hM.k
 have htl:ts.length=6:=hM.lt
 have htl2:=hM.lt
 refine sr (lt' rfl rfl (nn (sq (cd rfl (λc1=>?_) (λc1=>?_)))))
 ·refine sk (tn (sq (bl (sr (mv rfl (z1a (tq0) rfl hM.t.out.sl rfl y5d z1f (λad44 hc44=>?_)))))))
  refine z1i rfl (hc44 _ hM.t.out.sl) x2r (asg rfl (asg rfl (nn ?_)))
  intro a h
  refine z0h (some 7) (λwb w'=>Fr [] wb w') z2r ?_;intro w12 q12
  have z12:=q12.size
  replace hM:=hM.ext q12
  replace hk:=hk.ext q12
  have hC:Fr [] w12 w12:=Fr.refl _ _
  have hM_b:=hM
  have hk_b:=hk
  refine z0e 0 h rfl rfl λa h=>z0o 1 h rfl rfl λa h=>z0c 2 h rfl y1g rfl λa h=>z0l 3 h rfl (λ_ hw=>hk_b.ext hw) rfl x1r rfl λa h=>z0e 4 h rfl rfl λa h=>z0e 5 h rfl rfl λa h=>z0d 6 rfl ?_
  refine z0m h (z0a rfl z0g) (mkC func75) (v0w _ (ts.getD i tq0).2 _ (hM.t.ins i (by rw [hM.lt];omega)).sl (by rw [htr i];have:=hrl i;omega)) ?_;rintro _ w13 ⟨g52,rfl,hg52,hX,q13⟩ a h
  have z13:=q13.size
  replace hM:=hM.ext q13
  replace hC:=hC.next q13
  have hnew:∀j,j<6->∀b∈z0v (slv (ts.getD j tq0).1),b∉z0v (slv (((some ⟨g52,0,none⟩,(ts.getD i tq0).2.length,(ts.getD i tq0).2.length)):SV)):=λj hj b hb hb'=>by have:=((hM0.t.ins j (by rw [hM0.lt];omega)).blk b hb).2;simp [z0v,slv] at hb';omega
  refine z0b ?_
  refine z0d 7 rfl ?_
  refine y9i (p:=i) (i:=(i:Int)) (m:=6) (E:=z4c) h rfl rfl y5d (by omega) (by omega) (by omega) rfl λa h=>?_
  refine z0b ?_
  refine z0d 8 rfl ?_
  refine z1b (i:=i) (((some ⟨g52,0,none⟩,(ts.getD i tq0).2.length,(ts.getD i tq0).2.length),(ts.getD i tq0).2):TQ) h rfl rfl hM.t.out (by rw [hM.lt];omega) rfl j3r λw14 ho_2 q14 _hz a h=>?_
  replace hM:=hM.tabh mtd (by omega) (hX.low (by omega)) hnew ho_2 q14
  have hM0:=hM
  clear ho_2
  have z14:=q14.size
  clear _hz
  refine z1o ?_
  refine z0r ?_
  clear hC hM_b hk_b
  refine bk (h.sub (L':=[(0,_),(2,_),(3,_),(39,_),(40,_),(41,_)]) (.c6 rfl rfl rfl rfl rfl rfl)) (bn' (tn (rg (z0y rfl rfl (wi6 (by omega)) (mv rfl (nl ?_))))))
  exact lpE ((i+1,_)) (.c6 rfl rfl rfl rfl rfl rfl) ⟨((Fr.refl [ka.gt] _).z4 q11 q12 q13 q14),⟨by simp only;omega,λj=>by
   simp only
   rw [z1g (by omega)]
   split
   ·rename_i e;subst e;exact htr _
   exact htr j,hM⟩⟩ (by simp only;omega)
 obtain rfl:i=6:=by omega
 refine ex (te (te (xh (tn (sr (mv rfl (nlc rfl (fad rfl y1p (z0i rfl hk rfl z6t ?_)))))))))
 replace ho:=ho.fr q11 (by intro k hk hb;simp at hk;subst hk;have:=ho.blk _ hb;omega)
 replace hb2:=hb2.fr q11
 refine cl (z0a rfl (z0a rfl z0g)) (mkC func76) (j1i hM.f (by show m.fl.length<_;omega)) rfl ?_
 rintro _ w15 ⟨rfl,hfo,hqs⟩
 have z15:=hqs.size
 replace hM:=hM.fallS mtd (by decide) hfo hqs
 have hM0:=hM
 have hk:=hM.k
 replace ho:=ho.fr hqs (λk hk hb=>by have:=hfz k hk;have:=(ho.blk k hb).1;omega)
 have hoz:=λk hk=>(ho.blk k hk).2
 replace hb2:=hb2.fr hqs (λhk=>by have:=hfz _ hk;omega)
 have hb2s:=hb2
 refine kpL [(0,_),(2,_),(3,_)] (.c3 rfl rfl rfl) (nn (sq ?_))
 intro a h
 refine z0h none (λwb w'=>Fr [] wb w') z2r ?_;intro w16 q16
 have z16:=q16.size
 replace hM:=hM.ext q16
 replace hk:=hk.ext q16
 replace ho:=ho.ext q16
 have hC:Fr [] w16 w16:=Fr.refl _ _
 have hM_b:=hM
 have hk_b:=hk
 have ho_b:=ho
 refine z0e 0 h rfl rfl λa h=>z0o 1 h rfl rfl λa h=>z0c 2 h rfl y1g rfl λa h=>z0l 3 h rfl (λ_ hw=>hk_b.ext hw) rfl x1r rfl λa h=>z0e 4 h rfl rfl λa h=>z0e 6 h rfl rfl λa h=>z0o 7 h rfl rfl λa h=>z0c 8 h rfl z2p rfl λa h=>z1c (vs:=[_,_]) 9 h rfl (λ_ hw=>(hk_b.ext hw)) z5k rfl rfl λa h=>z0e 10 h rfl rfl λa h=>z0o 11 h rfl rfl λa h=>?_
 refine z0c 12 h rfl z3b rfl λa h=>z0l 13 h rfl (λ_ hw=>hk_b.ext hw) rfl na3 rfl λa h=>z0e 15 h rfl rfl λa h=>z0o 16 h rfl rfl λa h=>z0c 17 h rfl y1p rfl λa h=>z0l 18 h rfl (λ_ hw=>hk_b.ext hw) rfl z6t rfl λa h=>z2d 5 21 (by kernel_rfl) rfl rfl ?_ ?_
 ·refine z0m h (z0a rfl z0g) (mkC func77) (v0z _ (y2b acc) _ ho.sl (by rw [(z4i acc).length_eq];omega)) ?_;rintro _ w17 ⟨g65,rfl,hg65,hXc,q17⟩ a h
  have z17:=q17.size
  replace hM:=hM.ext q17
  replace hk:=hk.ext q17
  replace ho:=ho.ext q17
  replace hC:=hC.next q17
  have hlhXc:=(hXc.blk g65 (by simp [z0v])).2
  refine z0b ?_
  refine z2d 14 21 (by kernel_rfl) rfl rfl ?_ ?_
  ·refine z0m h (z0a rfl (z0a rfl z0g)) (mkC func47) (y2u m.q m.rk _ hM.b.at hi.B hi.rk) ?_;rintro _ w18 ⟨⟨g74,n74,hn74,rfl,hg74,hH⟩,q18⟩ a h
   have z18:=q18.size
   replace hM:=hM.ext q18
   replace hk:=hk.ext q18
   replace ho:=ho.ext q18
   replace hXc:=hXc.ext q18
   replace hC:=hC.next q18
   have hlhH:=(hH.blk g74 (by simp [z0v])).2
   refine z0b ?_
   refine z2d 19 21 (by kernel_rfl) rfl rfl ?_ ?_
   ·refine z0m h (z0a rfl z0g) x0t (z3k _ (y2i m.fl) _ hM.f.sl (by rw [(z3t _).length_eq];omega)) ?_;rintro _ w19 ⟨g79,rfl,hg79,hXf,q19⟩ a h
    have z19:=q19.size
    replace hk:=hk.ext q19
    replace hC:=hC.next q19
    have hlhXf:=(hXf.blk g79 (by simp [z0v])).2
    refine z0b ?_
    refine z2z (cs:=[_,_,_,_]) 20 h (z0a rfl (z0a rfl (z0a rfl (z0a rfl z0g)))) j2i (z0f rfl rfl rfl (z0f rfl rfl rfl (z0f rfl rfl rfl (z0f rfl rfl rfl z0s)))) rfl rfl λa h=>z0d 21 rfl ?_
    refine z1d h v5k rfl λw20 hb8 q20 hz a h=>?_
    obtain ⟨g_8,hg⟩:∃g,g=w19.heap.size:=⟨_,rfl⟩;rw [<-hg] at hb8 h hz
    have hn_.gk_8:ka.gk<g_8:=by have:=hk.lt;omega
    have z20:=q20.size
    replace hk:=hk.ext q20
    replace ho:=ho.ext (q19.n1 q20)
    replace hXc:=hXc.ext (q19.n1 q20)
    replace hH:=hH.ext (q19.n1 q20)
    replace hXf:=hXf.ext q20
    replace hC:=hC.next q20
    refine z0b ?_
    refine z0d 22 rfl ?_
    refine z0u h rfl rfl hb8 rfl v5j λw21 hbn q21 hz a h=>?_
    have z21:=q21.size
    replace hk:=hk.fr q21
    replace ho:=ho.fr q21 (by intro k hk hb;simp at hk;subst hk;have:=hoz _ hb;omega)
    replace hXc:=hXc.fr q21 (by intro k hk hb;simp [z0v] at hk hb;omega)
    replace hH:=hH.fr q21 (by intro k hk hb;simp [z0v] at hk hb;omega)
    replace hXf:=hXf.fr q21 (by intro k hk hb;simp [z0v] at hk hb;omega)
    replace hC:=hC.sp q21
    clear hb8 hz;have hb8:Blk w21 g_8 _ [_,_,_,_]:=hbn;clear hbn
    refine z0b ?_
    refine z0r ?_
    clear hC hM_b hk_b ho_b
    refine bk (h.sub (L':=[(0,_),(2,_),(8,_)]) (.c3 rfl rfl rfl)) (tn (sq ?_))
    replace hb2:=(hb2.ext (q16.n4 q17 q18 q19 q20)).fr q21
    intro a h
    refine z0h none (λwb w'=>Fr [g2] wb w') z2r ?_;intro w22 q22
    have z22:=q22.size
    replace hk:=hk.ext q22
    replace hb2:=hb2.ext q22
    replace hb8:=hb8.ext q22
    have hC:Fr [g2] w22 w22:=Fr.refl _ _
    have hk_b:=hk
    have hb2_b:=hb2
    have hb8_b:=hb8
    refine z0e 0 h rfl rfl λa h=>z0o 1 h rfl rfl λa h=>z0c 2 h rfl z3b rfl λa h=>z0l 3 h rfl (λ_ hw=>hk_b.fr hw (by simp<;>omega)) rfl na3 rfl λa h=>z0e 4 h rfl rfl λa h=>z0o 5 h rfl rfl λa h=>z0c 6 h rfl z2p rfl λa h=>z1c (vs:=[_,_]) 7 h rfl (λ_ hw=>(hk_b.fr hw (by simp<;>omega))) z5k rfl rfl λa h=>z0e 8 h rfl rfl λa h=>z0o 9 h rfl rfl λa h=>z0c 10 h rfl z2w rfl λa h=>?_
    refine z0l 11 h rfl (λ_ hw=>hk_b.fr hw (by simp<;>omega)) rfl y1w rfl λa h=>z0t 12 h rfl (λ_ hw=>hb8_b.fr hw (by simp<;>omega)) x9a rfl λa h=>z2z (cs:=[_,_,_,_,_,_,_,_]) 13 h (z0a rfl (z0a rfl (z0a rfl (z0a rfl z0g)))) v5f (z0f rfl rfl rfl (z0f rfl rfl rfl (z0f rfl rfl rfl (z0f rfl rfl rfl z0s)))) rfl rfl λa h=>z0d 14 rfl ?_
    refine z0u h rfl rfl hb2 rfl x4l λw23 hbn q23 hz a h=>?_
    have z23:=q23.size
    replace hk:=hk.fr q23
    replace hb8:=hb8.fr q23
    replace hC:=hC.sp q23
    clear hb2 hz;have hb2:Blk w23 g2 _ [_,_,_,_,_,_,_,_]:=hbn;clear hbn
    refine z0b ?_
    refine z0r ?_
    clear hC hk_b hb2_b hb8_b
    refine bk (h.sub (L':=[(2,_)]) (.cons rfl .nil)) (tn (rt (rC results28 rfl hb2 x8m  ?_)))
    replace hXc:=(hXc.ext q22).fr q23 (by intro k hk hb;simp [z0v] at hk hb;omega)
    replace hH:=(hH.ext q22).fr q23 (by intro k hk hb;simp [z0v] at hk hb;omega)
    replace hXf:=(hXf.ext q22).fr q23 (by intro k hk hb;simp [z0v] at hk hb;omega)
    have hF1:=(q16.z6 q17 q18 q19 q20 q21 q22)
    have hF2:Fr [] _ w23:=(Fr.refl _ _)
    have hMe:=hM0.ext hF1
    have hW:=(hMe.toW.off (hb2s.ext hF1) (by decide) q23).ext hF2
    have hFe:=(hMe.fr.fr.step q23 (by simp;omega)).next hF2
    have htb:z2c ts=z2c m.ts:=y4g (htl.trans hlt.symm) (λj _=>by rw [htr j])
    exact ⟨_,rfl,⟨m.rk,m.q,(some ⟨ka.gy,0,none⟩,6,ka.cy),m.ys,⟨(some ⟨ka.gt,0,none⟩,6,ka.ct),(some ⟨g65,0,none⟩,_,_),(some ⟨g74,0,none⟩,_,_),(some ⟨g79,0,none⟩,_,_),ts,y2b acc,_,y2i m.fl⟩⟩,rfl,⟨hW.b,hW.y,hW.t,hXc.low (by omega),hH.low (by omega),hXf.low (by omega)⟩,by show (⟨m.rk,m.q.p,m.ys.map YQ.p,⟨z2c ts,y2b acc,(z2n m.q.p m.rk).map Hd.id,y2i m.fl⟩⟩:St)=_;rw [htb,hsx];rfl,hFe⟩
   refine z1d h v5k rfl λw24 hb8 q24 hz a h=>?_
   obtain ⟨g_8,hg⟩:∃g,g=w18.heap.size:=⟨_,rfl⟩;rw [<-hg] at hb8 h hz
   have hn_.gk_8:ka.gk<g_8:=by have:=hk.lt;omega
   have z24:=q24.size
   replace hM:=hM.ext q24
   replace hC:=hC.next q24
   refine z0b ?_
   refine z0d 19 rfl ?_
   refine z0m h (z0a rfl z0g) x0t (z3k _ (y2i m.fl) _ hM.f.sl (by rw [(z3t _).length_eq];omega)) ?_;rintro _ w25 ⟨g79,rfl,hg79,hXf,q25⟩ a h
   have z25:=q25.size
   replace hk:=hk.ext (q24.n1 q25)
   replace ho:=ho.ext (q24.n1 q25)
   replace hXc:=hXc.ext (q24.n1 q25)
   replace hH:=hH.ext (q24.n1 q25)
   replace hb8:=hb8.ext q25
   replace hC:=hC.next q25
   have hlhXf:=(hXf.blk g79 (by simp [z0v])).2
   refine z0b ?_
   refine z2z (cs:=[_,_,_,_]) 20 h (z0a rfl (z0a rfl (z0a rfl (z0a rfl z0g)))) j2i (z0f rfl rfl rfl (z0f rfl rfl rfl (z0f rfl rfl rfl (z0f rfl rfl rfl z0s)))) rfl rfl λa h=>z0d 22 rfl ?_
   refine z0u h rfl rfl hb8 rfl v5j λw26 hbn q26 hz a h=>?_
   have z26:=q26.size
   replace hk:=hk.fr q26
   replace ho:=ho.fr q26 (by intro k hk hb;simp at hk;subst hk;have:=hoz _ hb;omega)
   replace hXc:=hXc.fr q26 (by intro k hk hb;simp [z0v] at hk hb;omega)
   replace hH:=hH.fr q26 (by intro k hk hb;simp [z0v] at hk hb;omega)
   replace hXf:=hXf.fr q26 (by intro k hk hb;simp [z0v] at hk hb;omega)
   replace hC:=hC.sp q26
   clear hb8 hz;have hb8:Blk w26 g_8 _ [_,_,_,_]:=hbn;clear hbn
   refine z0b ?_
   refine z0r ?_
   clear hC hM_b hk_b ho_b
   refine bk (h.sub (L':=[(0,_),(2,_),(8,_)]) (.c3 rfl rfl rfl)) (tn (sq ?_))
   replace hb2:=(hb2.ext (q16.n4 q17 q18 q24 q25)).fr q26
   intro a h
   refine z0h none (λwb w'=>Fr [g2] wb w') z2r ?_;intro w27 q27
   have z27:=q27.size
   replace hk:=hk.ext q27
   replace hb2:=hb2.ext q27
   replace hb8:=hb8.ext q27
   have hC:Fr [g2] w27 w27:=Fr.refl _ _
   have hk_b:=hk
   have hb2_b:=hb2
   have hb8_b:=hb8
   refine z0e 0 h rfl rfl λa h=>z0o 1 h rfl rfl λa h=>z0c 2 h rfl z3b rfl λa h=>z0l 3 h rfl (λ_ hw=>hk_b.fr hw (by simp<;>omega)) rfl na3 rfl λa h=>z0e 4 h rfl rfl λa h=>z0o 5 h rfl rfl λa h=>z0c 6 h rfl z2p rfl λa h=>z1c (vs:=[_,_]) 7 h rfl (λ_ hw=>(hk_b.fr hw (by simp<;>omega))) z5k rfl rfl λa h=>z0e 8 h rfl rfl λa h=>z0o 9 h rfl rfl λa h=>z0c 10 h rfl z2w rfl λa h=>?_
   refine z0l 11 h rfl (λ_ hw=>hk_b.fr hw (by simp<;>omega)) rfl y1w rfl λa h=>z0t 12 h rfl (λ_ hw=>hb8_b.fr hw (by simp<;>omega)) x9a rfl λa h=>z2z (cs:=[_,_,_,_,_,_,_,_]) 13 h (z0a rfl (z0a rfl (z0a rfl (z0a rfl z0g)))) v5f (z0f rfl rfl rfl (z0f rfl rfl rfl (z0f rfl rfl rfl (z0f rfl rfl rfl z0s)))) rfl rfl λa h=>z0d 14 rfl ?_
   refine z0u h rfl rfl hb2 rfl x4l λw28 hbn q28 hz a h=>?_
   have z28:=q28.size
   replace hk:=hk.fr q28
   replace hb8:=hb8.fr q28
   replace hC:=hC.sp q28
   clear hb2 hz;have hb2:Blk w28 g2 _ [_,_,_,_,_,_,_,_]:=hbn;clear hbn
   refine z0b ?_
   refine z0r ?_
   clear hC hk_b hb2_b hb8_b
   refine bk (h.sub (L':=[(2,_)]) (.cons rfl .nil)) (tn (rt (rC results28 rfl hb2 x8m  ?_)))
   replace hXc:=(hXc.ext q27).fr q28 (by intro k hk hb;simp [z0v] at hk hb;omega)
   replace hH:=(hH.ext q27).fr q28 (by intro k hk hb;simp [z0v] at hk hb;omega)
   replace hXf:=(hXf.ext q27).fr q28 (by intro k hk hb;simp [z0v] at hk hb;omega)
   have hF1:=(q16.z6 q17 q18 q24 q25 q26 q27)
   have hF2:Fr [] _ w28:=(Fr.refl _ _)
   have hMe:=hM0.ext hF1
   have hW:=(hMe.toW.off (hb2s.ext hF1) (by decide) q28).ext hF2
   have hFe:=(hMe.fr.fr.step q28 (by simp;omega)).next hF2
   have htb:z2c ts=z2c m.ts:=y4g (htl.trans hlt.symm) (λj _=>by rw [htr j])
   exact ⟨_,rfl,⟨m.rk,m.q,(some ⟨ka.gy,0,none⟩,6,ka.cy),m.ys,⟨(some ⟨ka.gt,0,none⟩,6,ka.ct),(some ⟨g65,0,none⟩,_,_),(some ⟨g74,0,none⟩,_,_),(some ⟨g79,0,none⟩,_,_),ts,y2b acc,_,y2i m.fl⟩⟩,rfl,⟨hW.b,hW.y,hW.t,hXc.low (by omega),hH.low (by omega),hXf.low (by omega)⟩,by show (⟨m.rk,m.q.p,m.ys.map YQ.p,⟨z2c ts,y2b acc,(z2n m.q.p m.rk).map Hd.id,y2i m.fl⟩⟩:St)=_;rw [htb,hsx];rfl,hFe⟩
  refine z1d h v5k rfl λw29 hb8 q29 hz a h=>?_
  obtain ⟨g_8,hg⟩:∃g,g=w17.heap.size:=⟨_,rfl⟩;rw [<-hg] at hb8 h hz
  have hn_.gk_8:ka.gk<g_8:=by have:=hk.lt;omega
  have z29:=q29.size
  replace hM:=hM.ext q29
  replace hC:=hC.next q29
  refine z0b ?_
  refine z0d 14 rfl ?_
  refine z0m h (z0a rfl (z0a rfl z0g)) (mkC func47) (y2u m.q m.rk _ hM.b.at hi.B hi.rk) ?_;rintro _ w30 ⟨⟨g74,n74,hn74,rfl,hg74,hH⟩,q30⟩ a h
  have z30:=q30.size
  replace hM:=hM.ext q30
  replace hC:=hC.next q30
  have hlhH:=(hH.blk g74 (by simp [z0v])).2
  refine z0b ?_
  refine z0d 19 rfl ?_
  refine z0m h (z0a rfl z0g) x0t (z3k _ (y2i m.fl) _ hM.f.sl (by rw [(z3t _).length_eq];omega)) ?_;rintro _ w31 ⟨g79,rfl,hg79,hXf,q31⟩ a h
  have z31:=q31.size
  replace hk:=hk.ext (q29.n2 q30 q31)
  replace ho:=ho.ext (q29.n2 q30 q31)
  replace hXc:=hXc.ext (q29.n2 q30 q31)
  replace hb8:=hb8.ext (q30.n1 q31)
  replace hH:=hH.ext q31
  replace hC:=hC.next q31
  have hlhXf:=(hXf.blk g79 (by simp [z0v])).2
  refine z0b ?_
  refine z2z (cs:=[_,_,_,_]) 20 h (z0a rfl (z0a rfl (z0a rfl (z0a rfl z0g)))) j2i (z0f rfl rfl rfl (z0f rfl rfl rfl (z0f rfl rfl rfl (z0f rfl rfl rfl z0s)))) rfl rfl λa h=>z0d 22 rfl ?_
  refine z0u h rfl rfl hb8 rfl v5j λw32 hbn q32 hz a h=>?_
  have z32:=q32.size
  replace hk:=hk.fr q32
  replace ho:=ho.fr q32 (by intro k hk hb;simp at hk;subst hk;have:=hoz _ hb;omega)
  replace hXc:=hXc.fr q32 (by intro k hk hb;simp [z0v] at hk hb;omega)
  replace hH:=hH.fr q32 (by intro k hk hb;simp [z0v] at hk hb;omega)
  replace hXf:=hXf.fr q32 (by intro k hk hb;simp [z0v] at hk hb;omega)
  replace hC:=hC.sp q32
  clear hb8 hz;have hb8:Blk w32 g_8 _ [_,_,_,_]:=hbn;clear hbn
  refine z0b ?_
  refine z0r ?_
  clear hC hM_b hk_b ho_b
  refine bk (h.sub (L':=[(0,_),(2,_),(8,_)]) (.c3 rfl rfl rfl)) (tn (sq ?_))
  replace hb2:=(hb2.ext (q16.n4 q17 q29 q30 q31)).fr q32
  intro a h
  refine z0h none (λwb w'=>Fr [g2] wb w') z2r ?_;intro w33 q33
  have z33:=q33.size
  replace hk:=hk.ext q33
  replace hb2:=hb2.ext q33
  replace hb8:=hb8.ext q33
  have hC:Fr [g2] w33 w33:=Fr.refl _ _
  have hk_b:=hk
  have hb2_b:=hb2
  have hb8_b:=hb8
  refine z0e 0 h rfl rfl λa h=>z0o 1 h rfl rfl λa h=>z0c 2 h rfl z3b rfl λa h=>z0l 3 h rfl (λ_ hw=>hk_b.fr hw (by simp<;>omega)) rfl na3 rfl λa h=>z0e 4 h rfl rfl λa h=>z0o 5 h rfl rfl λa h=>z0c 6 h rfl z2p rfl λa h=>z1c (vs:=[_,_]) 7 h rfl (λ_ hw=>(hk_b.fr hw (by simp<;>omega))) z5k rfl rfl λa h=>z0e 8 h rfl rfl λa h=>z0o 9 h rfl rfl λa h=>z0c 10 h rfl z2w rfl λa h=>?_
  refine z0l 11 h rfl (λ_ hw=>hk_b.fr hw (by simp<;>omega)) rfl y1w rfl λa h=>z0t 12 h rfl (λ_ hw=>hb8_b.fr hw (by simp<;>omega)) x9a rfl λa h=>z2z (cs:=[_,_,_,_,_,_,_,_]) 13 h (z0a rfl (z0a rfl (z0a rfl (z0a rfl z0g)))) v5f (z0f rfl rfl rfl (z0f rfl rfl rfl (z0f rfl rfl rfl (z0f rfl rfl rfl z0s)))) rfl rfl λa h=>z0d 14 rfl ?_
  refine z0u h rfl rfl hb2 rfl x4l λw34 hbn q34 hz a h=>?_
  have z34:=q34.size
  replace hk:=hk.fr q34
  replace hb8:=hb8.fr q34
  replace hC:=hC.sp q34
  clear hb2 hz;have hb2:Blk w34 g2 _ [_,_,_,_,_,_,_,_]:=hbn;clear hbn
  refine z0b ?_
  refine z0r ?_
  clear hC hk_b hb2_b hb8_b
  refine bk (h.sub (L':=[(2,_)]) (.cons rfl .nil)) (tn (rt (rC results28 rfl hb2 x8m  ?_)))
  replace hXc:=(hXc.ext q33).fr q34 (by intro k hk hb;simp [z0v] at hk hb;omega)
  replace hH:=(hH.ext q33).fr q34 (by intro k hk hb;simp [z0v] at hk hb;omega)
  replace hXf:=(hXf.ext q33).fr q34 (by intro k hk hb;simp [z0v] at hk hb;omega)
  have hF1:=(q16.z6 q17 q29 q30 q31 q32 q33)
  have hF2:Fr [] _ w34:=(Fr.refl _ _)
  have hMe:=hM0.ext hF1
  have hW:=(hMe.toW.off (hb2s.ext hF1) (by decide) q34).ext hF2
  have hFe:=(hMe.fr.fr.step q34 (by simp;omega)).next hF2
  have htb:z2c ts=z2c m.ts:=y4g (htl.trans hlt.symm) (λj _=>by rw [htr j])
  exact ⟨_,rfl,⟨m.rk,m.q,(some ⟨ka.gy,0,none⟩,6,ka.cy),m.ys,⟨(some ⟨ka.gt,0,none⟩,6,ka.ct),(some ⟨g65,0,none⟩,_,_),(some ⟨g74,0,none⟩,_,_),(some ⟨g79,0,none⟩,_,_),ts,y2b acc,_,y2i m.fl⟩⟩,rfl,⟨hW.b,hW.y,hW.t,hXc.low (by omega),hH.low (by omega),hXf.low (by omega)⟩,by show (⟨m.rk,m.q.p,m.ys.map YQ.p,⟨z2c ts,y2b acc,(z2n m.q.p m.rk).map Hd.id,y2i m.fl⟩⟩:St)=_;rw [htb,hsx];rfl,hFe⟩
 refine z1d h v5k rfl λw35 hb8 q35 hz a h=>?_
 obtain ⟨g_8,hg⟩:∃g,g=w16.heap.size:=⟨_,rfl⟩;rw [<-hg] at hb8 h hz
 have hn_.gk_8:ka.gk<g_8:=by have:=hk.lt;omega
 have z35:=q35.size
 replace ho:=ho.ext q35
 replace hC:=hC.next q35
 refine z0b ?_
 refine z0d 5 rfl ?_
 refine z0m h (z0a rfl z0g) (mkC func77) (v0z _ (y2b acc) _ ho.sl (by rw [(z4i acc).length_eq];omega)) ?_;rintro _ w36 ⟨g65,rfl,hg65,hXc,q36⟩ a h
 have z36:=q36.size
 replace hM:=hM.ext (q35.n1 q36)
 replace hC:=hC.next q36
 have hlhXc:=(hXc.blk g65 (by simp [z0v])).2
 refine z0b ?_
 refine z0d 14 rfl ?_
 refine z0m h (z0a rfl (z0a rfl z0g)) (mkC func47) (y2u m.q m.rk _ hM.b.at hi.B hi.rk) ?_;rintro _ w37 ⟨⟨g74,n74,hn74,rfl,hg74,hH⟩,q37⟩ a h
 have z37:=q37.size
 replace hM:=hM.ext q37
 replace hC:=hC.next q37
 have hlhH:=(hH.blk g74 (by simp [z0v])).2
 refine z0b ?_
 refine z0d 19 rfl ?_
 refine z0m h (z0a rfl z0g) x0t (z3k _ (y2i m.fl) _ hM.f.sl (by rw [(z3t _).length_eq];omega)) ?_;rintro _ w38 ⟨g79,rfl,hg79,hXf,q38⟩ a h
 have z38:=q38.size
 replace hk:=hk.ext (q35.n3 q36 q37 q38)
 replace ho:=ho.ext (q36.n2 q37 q38)
 replace hb8:=hb8.ext (q36.n2 q37 q38)
 replace hXc:=hXc.ext (q37.n1 q38)
 replace hH:=hH.ext q38
 replace hC:=hC.next q38
 have hlhXf:=(hXf.blk g79 (by simp [z0v])).2
 refine z0b ?_
 refine z2z (cs:=[_,_,_,_]) 20 h (z0a rfl (z0a rfl (z0a rfl (z0a rfl z0g)))) j2i (z0f rfl rfl rfl (z0f rfl rfl rfl (z0f rfl rfl rfl (z0f rfl rfl rfl z0s)))) rfl rfl λa h=>z0d 22 rfl ?_
 refine z0u h rfl rfl hb8 rfl v5j λw39 hbn q39 hz a h=>?_
 have z39:=q39.size
 replace hk:=hk.fr q39
 replace ho:=ho.fr q39 (by intro k hk hb;simp at hk;subst hk;have:=hoz _ hb;omega)
 replace hXc:=hXc.fr q39 (by intro k hk hb;simp [z0v] at hk hb;omega)
 replace hH:=hH.fr q39 (by intro k hk hb;simp [z0v] at hk hb;omega)
 replace hXf:=hXf.fr q39 (by intro k hk hb;simp [z0v] at hk hb;omega)
 replace hC:=hC.sp q39
 clear hb8 hz;have hb8:Blk w39 g_8 _ [_,_,_,_]:=hbn;clear hbn
 refine z0b ?_
 refine z0r ?_
 clear hC hM_b hk_b ho_b
 refine bk (h.sub (L':=[(0,_),(2,_),(8,_)]) (.c3 rfl rfl rfl)) (tn (sq ?_))
 replace hb2:=(hb2.ext (q16.n4 q35 q36 q37 q38)).fr q39
 intro a h
 refine z0h none (λwb w'=>Fr [g2] wb w') z2r ?_;intro w40 q40
 have z40:=q40.size
 replace hk:=hk.ext q40
 replace hb2:=hb2.ext q40
 replace hb8:=hb8.ext q40
 have hC:Fr [g2] w40 w40:=Fr.refl _ _
 have hk_b:=hk
 have hb2_b:=hb2
 have hb8_b:=hb8
 refine z0e 0 h rfl rfl λa h=>z0o 1 h rfl rfl λa h=>z0c 2 h rfl z3b rfl λa h=>z0l 3 h rfl (λ_ hw=>hk_b.fr hw (by simp<;>omega)) rfl na3 rfl λa h=>z0e 4 h rfl rfl λa h=>z0o 5 h rfl rfl λa h=>z0c 6 h rfl z2p rfl λa h=>z1c (vs:=[_,_]) 7 h rfl (λ_ hw=>(hk_b.fr hw (by simp<;>omega))) z5k rfl rfl λa h=>z0e 8 h rfl rfl λa h=>z0o 9 h rfl rfl λa h=>z0c 10 h rfl z2w rfl λa h=>?_
 refine z0l 11 h rfl (λ_ hw=>hk_b.fr hw (by simp<;>omega)) rfl y1w rfl λa h=>z0t 12 h rfl (λ_ hw=>hb8_b.fr hw (by simp<;>omega)) x9a rfl λa h=>z2z (cs:=[_,_,_,_,_,_,_,_]) 13 h (z0a rfl (z0a rfl (z0a rfl (z0a rfl z0g)))) v5f (z0f rfl rfl rfl (z0f rfl rfl rfl (z0f rfl rfl rfl (z0f rfl rfl rfl z0s)))) rfl rfl λa h=>z0d 14 rfl ?_
 refine z0u h rfl rfl hb2 rfl x4l λw41 hbn q41 hz a h=>?_
 have z41:=q41.size
 replace hk:=hk.fr q41
 replace hb8:=hb8.fr q41
 replace hC:=hC.sp q41
 clear hb2 hz;have hb2:Blk w41 g2 _ [_,_,_,_,_,_,_,_]:=hbn;clear hbn
 refine z0b ?_
 refine z0r ?_
 clear hC hk_b hb2_b hb8_b
 refine bk (h.sub (L':=[(2,_)]) (.cons rfl .nil)) (tn (rt (rC results28 rfl hb2 x8m  ?_)))
 replace hXc:=(hXc.ext q40).fr q41 (by intro k hk hb;simp [z0v] at hk hb;omega)
 replace hH:=(hH.ext q40).fr q41 (by intro k hk hb;simp [z0v] at hk hb;omega)
 replace hXf:=(hXf.ext q40).fr q41 (by intro k hk hb;simp [z0v] at hk hb;omega)
 have hF1:=(q16.z6 q35 q36 q37 q38 q39 q40)
 have hF2:Fr [] _ w41:=(Fr.refl _ _)
 have hMe:=hM0.ext hF1
 have hW:=(hMe.toW.off (hb2s.ext hF1) (by decide) q41).ext hF2
 have hFe:=(hMe.fr.fr.step q41 (by simp;omega)).next hF2
 have htb:z2c ts=z2c m.ts:=y4g (htl.trans hlt.symm) (λj _=>by rw [htr j])
 exact ⟨_,rfl,⟨m.rk,m.q,(some ⟨ka.gy,0,none⟩,6,ka.cy),m.ys,⟨(some ⟨ka.gt,0,none⟩,6,ka.ct),(some ⟨g65,0,none⟩,_,_),(some ⟨g74,0,none⟩,_,_),(some ⟨g79,0,none⟩,_,_),ts,y2b acc,_,y2i m.fl⟩⟩,rfl,⟨hW.b,hW.y,hW.t,hXc.low (by omega),hH.low (by omega),hXf.low (by omega)⟩,by show (⟨m.rk,m.q.p,m.ys.map YQ.p,⟨z2c ts,y2b acc,(z2n m.q.p m.rk).map Hd.id,y2i m.fl⟩⟩:St)=_;rw [htb,hsx];rfl,hFe⟩
theorem v4u (w0:World):Rets prog 78 #[] w0 λr w'=>(∃g,r=(.slice (some ⟨g,0,none⟩) 6 6)/\w0.heap.size<=g/\Lw.Own z4c 46 w0.heap.size w' (.slice (some ⟨g,0,none⟩) 6 6) (List.replicate 6 tq0))/\Fr [] w0 w':=by
 refine we [] func78 rfl ntmps78 rfl .nil (sr (asg rfl (nn (sr (z1e (m:=6) (c:=6) (tq0) rfl rfl y5d zv46 rfl (λg1 w1 hg1 ho q1 z1=>(asg rfl (nn (rt (r1 results78 rfl ?_))))))))))
 exact ⟨_,rfl,⟨g1,rfl,by omega,ho.low (by omega)⟩,q1⟩
theorem x0d (w0:World):Rets prog 29 #[] w0 λr w'=>(∃g,r=.agg #[(.slice (some ⟨g,0,none⟩) 6 6),.slice none 0 0,.slice none 0 0,.slice none 0 0]/\w0.heap.size<=g/\Lw.Own z4c 46 w0.heap.size w' (.slice (some ⟨g,0,none⟩) 6 6) (List.replicate 6 tq0))/\Fr [] w0 w':=by
 refine we [] func29 rfl ntmps29 rfl .nil (sr (al v5k rfl rfl (λg0 w1 hg0 hb0 q1 z1=>(nn (sr (cl z0g (mkC func78) (v4u _) rfl ?_))))))
 rintro _ w2 ⟨⟨g1,rfl,hg1,ho⟩,q2⟩
 refine z1r (cs:=[_,_,_,_]) (ev1 rfl) j2i (z0f rfl rfl rfl z0s) rfl ?_
 replace hb0:=hb0.ext q2
 refine z0j rfl rfl hb0 v5j (λw3 hb0 q3 z3=>?_) (hl:=rfl)
 refine nn (rt (rC results29 rfl hb0 x9a  ?_))
 replace ho:=ho.fr q3 (by intro k hk hb;simp [z0v] at hk hb;omega)
 exact ⟨_,rfl,⟨g1,rfl,by omega,ho.low (by omega)⟩,(q1.z2 q2 q3)⟩
abbrev st0 (gy gt:Nat):StQ:=(⟨0,⟨sv0,sv0,[],[]⟩,(some ⟨gy,0,none⟩,6,6),List.replicate 6 yq0,⟨(some ⟨gt,0,none⟩,6,6),sv0,sv0,sv0,List.replicate 6 tq0,[],[],[]⟩⟩:StQ)
theorem u1p {w:World} {gy gt b b':Nat} (hy:Lw.Own z2s 82 b w (.slice (some ⟨gy,0,none⟩) 6 6) (List.replicate 6 yq0)) (ht:Lw.Own z4c 46 b' w (.slice (some ⟨gt,0,none⟩) 6 6) (List.replicate 6 tq0)):StAt w (st0 gy gt):=by
 refine ⟨⟨Sl.nil w,λq hq=>(by cases hq),Sl.nil w,λq hq=>(by cases hq)⟩,hy.sl,λi=>?_,⟨ht.sl,λp hp=>?_,Sl.nil w,Sl.nil w,Sl.nil w⟩⟩
 ·have e:(st0 gy gt).ys.getD i yq0=yq0:=by
   show (List.replicate 6 yq0).getD i yq0=yq0
   rw [List.getD,List.getElem?_replicate];split<;>rfl
  rw [e];exact Sl.nil w
 rw [List.eq_of_mem_replicate hp];exact ⟨Sl.nil w,λq hq=>by cases hq⟩
theorem j0z (gy gt:Nat):StSz (st0 gy gt):=by
 refine ⟨Nat.zero_le _,Nat.zero_le _,λq hq=>(by cases hq),λq hq=>(by cases hq),rfl,rfl,λi=>?_,λp hp=>?_,Nat.zero_le _,Nat.zero_le _,Nat.zero_le _⟩
 ·have e:(st0 gy gt).ys.getD i yq0=yq0:=by
   show (List.replicate 6 yq0).getD i yq0=yq0
   rw [List.getD,List.getElem?_replicate];split<;>rfl
  rw [e];exact Nat.zero_le _
 rw [List.eq_of_mem_replicate hp];exact ⟨Nat.zero_le _,λq hq=>by cases hq⟩
theorem z5f (w0:World):Rets prog 10 #[] w0 λr w'=>(∃gy gt,r=.agg #[.int .i64 (st0 gy gt).rk,.slice (st0 gy gt).q.f.1 (st0 gy gt).q.f.2.1 (st0 gy gt).q.f.2.2,.slice (st0 gy gt).q.b.1 (st0 gy gt).q.b.2.1 (st0 gy gt).q.b.2.2,.slice (st0 gy gt).yv.1 (st0 gy gt).yv.2.1 (st0 gy gt).yv.2.2,.slice (st0 gy gt).fb.t.1 (st0 gy gt).fb.t.2.1 (st0 gy gt).fb.t.2.2,.slice (st0 gy gt).fb.c.1 (st0 gy gt).fb.c.2.1 (st0 gy gt).fb.c.2.2,.slice (st0 gy gt).fb.h.1 (st0 gy gt).fb.h.2.1 (st0 gy gt).fb.h.2.2,.slice (st0 gy gt).fb.f.1 (st0 gy gt).fb.f.2.1 (st0 gy gt).fb.f.2.2]/\StAt w' (st0 gy gt))/\Fr [] w0 w':=by
 refine we [] func10 rfl ntmps10 rfl .nil (sr (al u1h rfl rfl (λg0 w1 hg0 hb0 q1 z1=>(nn (sq ?_)))))
 intro a h
 refine z0h none (λwb w'=>Fr [g0] wb w') z2r ?_;intro w2 q2
 have z2:=q2.size
 replace hb0:=hb0.ext q2
 have hC:Fr [g0] w2 w2:=Fr.refl _ _
 have hb0_b:=hb0
 refine z2d 0 1 (by kernel_rfl) rfl rfl ?_ ?_
 ·refine z5c (m:=6) (c:=6) (yq0) h rfl rfl y1r y1j rfl rfl λg1 w3 hg1 hy q3 _hz a h=>?_
  have z3:=q3.size
  replace hC:=hC.next q3
  have hly:=(hy.blk g1 (by simp [z0v])).2
  refine z0b ?_
  refine z0d 1 rfl ?_
  refine z0m h z0g (mkC func29) (x0d _) ?_;rintro _ w4 ⟨⟨g2,rfl,hg2,ho⟩,q4⟩ a h
  have z4:=q4.size
  replace hb0:=hb0.ext (q3.n1 q4)
  replace hy:=hy.ext q4
  replace hC:=hC.next q4
  have hlo:=(ho.blk g2 (by simp [z0v])).2
  refine z0b ?_
  refine z2z (cs:=[_,_,_,_,_,_,_,_]) 2 h (z0a rfl (z0a rfl z0g)) v5f (z0f rfl rfl rfl (z0f rfl rfl rfl z0s)) rfl rfl λa h=>z0d 3 rfl ?_
  refine z0u h rfl rfl hb0 rfl x4l λw5 hbn q5 hz a h=>?_
  have z5:=q5.size
  replace hy:=hy.fr q5 (by intro k hk hb;simp [z0v] at hk hb;omega)
  replace ho:=ho.fr q5 (by intro k hk hb;simp [z0v] at hk hb;omega)
  replace hC:=hC.sp q5
  clear hb0 hz;have hb0:Blk w5 g0 _ [_,_,_,_,_,_,_,_]:=hbn;clear hbn
  refine z0b ?_
  refine z0r ?_
  clear hC hb0_b
  refine bk (h.sub (L':=[(0,_)]) (.cons rfl .nil)) (tn (rt (rC results10 rfl hb0 x8m  ?_)))
  exact ⟨_,rfl,⟨g1,g2,rfl,u1p hy ho⟩,(q1.z4 q2 q3 q4 q5)⟩
 refine z0m h z0g (mkC func29) (x0d _) ?_;rintro _ w6 ⟨⟨g2,rfl,hg2,ho⟩,q6⟩ a h
 have z6:=q6.size
 replace hC:=hC.next q6
 have hlo:=(ho.blk g2 (by simp [z0v])).2
 refine z0b ?_
 refine z0d 0 rfl ?_
 refine z5c (m:=6) (c:=6) (yq0) h rfl rfl y1r y1j rfl rfl λg1 w7 hg1 hy q7 _hz a h=>?_
 have z7:=q7.size
 replace hb0:=hb0.ext (q6.n1 q7)
 replace ho:=ho.ext q7
 replace hC:=hC.next q7
 have hly:=(hy.blk g1 (by simp [z0v])).2
 refine z0b ?_
 refine z2z (cs:=[_,_,_,_,_,_,_,_]) 2 h (z0a rfl (z0a rfl z0g)) v5f (z0f rfl rfl rfl (z0f rfl rfl rfl z0s)) rfl rfl λa h=>z0d 3 rfl ?_
 refine z0u h rfl rfl hb0 rfl x4l λw8 hbn q8 hz a h=>?_
 have z8:=q8.size
 replace ho:=ho.fr q8 (by intro k hk hb;simp [z0v] at hk hb;omega)
 replace hy:=hy.fr q8 (by intro k hk hb;simp [z0v] at hk hb;omega)
 replace hC:=hC.sp q8
 clear hb0 hz;have hb0:Blk w8 g0 _ [_,_,_,_,_,_,_,_]:=hbn;clear hbn
 refine z0b ?_
 refine z0r ?_
 clear hC hb0_b
 refine bk (h.sub (L':=[(0,_)]) (.cons rfl .nil)) (tn (rt (rC results10 rfl hb0 x8m  ?_)))
 exact ⟨_,rfl,⟨g1,g2,rfl,u1p hy ho⟩,(q1.z4 q2 q6 q7 q8)⟩
theorem u4o {α:Type} {l1 l2:List α} (d:α) (hl:l1.length=l2.length) (h:∀j,j<l1.length->l1.getD j d=l2.getD j d):l1=l2:=by
 refine List.ext_getElem hl λj h1 h2=>?_
 have:=h j h1
 rwa [List.getD,List.getD,List.getElem?_eq_getElem h1,List.getElem?_eq_getElem h2] at this
theorem u6f (v1 v2:Value) (l1 l2:List LId) (w0:World) (h1:Sl z1h w0 v1 l1) (h2:Sl z1h w0 v2 l2) (hl:l1.length<=100000):Rets prog 46 #[v1,v2] w0 λr w'=>r=.bool (decide (l1=l2))/\Fr [] w0 w':=by
 obtain ⟨A1,k1,rfl,hk1⟩:=id h1.form
 obtain ⟨A2,k2,rfl,hk2⟩:=id h2.form
 refine we [(0,.slice A1 l1.length k1),(1,.slice A2 l2.length k2)] func46 rfl ntmps46 rfl (.c2 rfl rfl) ?_
 have h10:=h1
 have h20:=h2
 refine sr (asg rfl (nn (sq (sr (mv rfl (lnS rfl underlying37 (mv rfl (lnS rfl underlying37 (ne' rfl rfl (nn (cd rfl (λc0=>?_) (λc0=>?_))))))))))))
 ·refine sr (asg rfl (nn (rt (tr (r1 results46 rfl ?_)))))
  exact ⟨_,rfl,congrArg Value.bool (decide_eq_false (λe=>c0 (by rw [e]))).symm,(Fr.refl _ _)⟩
 refine sk (tn (sq (sr (mv rfl (lnS rfl underlying37 (mv rfl (nn (bl ?_))))))))
 refine lpK (ι:=Nat) [(0,_),(1,_),(12,_)] (λi=>[(13,.int .i64 (i:Int))]) (λi w'=>Fr [] w0 w'/\i<=l1.length/\∀j,j<i->l1.getD j id0=l2.getD j id0) (λi=>l1.length-i) 0 (.c4 rfl rfl rfl rfl) ⟨Fr.refl _ _,⟨Nat.zero_le _,λj h=>absurd h (by omega)⟩⟩ ?_
 rintro i w1 ⟨q1,⟨hi,hz⟩⟩
 refine kpC [(0,_),(1,_),(12,_),(13,_)] (.c4 rfl rfl rfl rfl) (sr (lt' rfl rfl (nn (sq (cd rfl (λc1=>?_) (λc1=>?_))))))
 ·refine sk (tn (sq (bl (sr (mv rfl (asg rfl (nn (sq ?_))))))))
  replace h1:=h10.ext q1
  replace h2:=h20.ext q1
  intro a h
  have qh6:=Fr.refl [] w1
  refine z3y (λwb w'=>Fr [] wb w') z2r ?_;intro w2 hq
  replace h1:=h1.ext hq
  replace h2:=h2.ext hq
  replace qh6:=qh6.next hq
  have hsz:=hq.size;clear hq;have hC:Fr [] w2 w2:=Fr.refl _ _
  have h1_b:=h1
  have h2_b:=h2
  refine z0e 0 h rfl rfl λa h=>z0e 1 h rfl rfl λa h=>z1k (id0) 2 h rfl h1 rfl z5v rfl ?_ (hp:=rfl);clear h a;intro ad18 hc18 a h
  refine z2l 3 h wn rfl (λ_ hw=>hc18 _ (h1_b.ext hw)) z3g rfl λa h=>z0e 4 h rfl rfl λa h=>z0e 5 h rfl rfl λa h=>z1k (id0) 6 h rfl h2 rfl z5v rfl ?_ (hp:=rfl);clear h a;intro ad22 hc22 a h
  refine z2l 7 h wn rfl (λ_ hw=>hc22 _ (h2_b.ext hw)) z3g rfl λa h=>u8h (V:=idV) (e:=_) (f:=_) 8 (by kernel_rfl) (by kernel_rfl) (by kernel_rfl) hC h wn rfl rfl eqId rfl rfl λa h=>z0r ?_
  clear hC h1_b h2_b
  refine bk (h.sub (L':=[(0,_),(1,_),(12,_),(13,_),(24,_)]) (.c5 rfl rfl rfl rfl rfl)) (tn (cd rfl (λc2=>?_) (λc2=>?_)))
  ·refine sr (asg rfl (nn (rt (rb (tr (tr (rb (tr (r1 results46 rfl ?_)))))))))
   exact ⟨_,rfl,congrArg Value.bool (decide_eq_false (λe=>c2 (by rw [e]))).symm,(q1.n1 qh6)⟩
  refine sk (bn' (tn (rg (z0y rfl rfl (wi6 (by omega)) (mv rfl (nl ?_))))))
  exact lpE (i+1) (.c4 rfl rfl rfl rfl) ⟨(q1.n1 qh6),⟨by omega,λj h=>by
   by_cases e:j=i
   ·subst e;exact Classical.not_not.1 c2
   exact hz j (by omega)⟩⟩ (by omega)
 obtain rfl:i=l1.length:=by omega
 refine ex (te (te (xh (tn (sr (asg rfl (nn (rt (r1 results46 rfl ?_)))))))))
 exact ⟨_,rfl,congrArg Value.bool (decide_eq_true (u4o id0 (by omega) (λj hj=>hz j (by omega)))).symm,q1⟩
end Go.Proofs.YtpgdchkdlgkmgaaGreatDoor
