/- Texts of the proof, joined. -/
import Derived.WalkKit
import Derived.WalkSpells
import Derived.WalkLawsBesides
import Derived.OrdersHeld
import Derived.Deep.Quiet
import Derived.Laws.BytesString
import Derived.ProofKit
import Derived.OpenShut
import Derived.Carry
import Derived.ChangeOld
import Derived.Deep.DeepHandedRow
import Derived.Lib.LaidTab
import Derived.Scope
import Derived.WalkSmall
import Derived.RangeFuncNested
import Derived.RangeFuncBound
import Derived.RangeFuncCalls
import Derived.RangeFuncLeaves
import Derived.OrdersIn
import Derived.Lib.Builder
import Derived.Lib.AppendStr
import Derived.Laws.Pointers
import Derived.Laws.Externs
import Derived.Lib.ConvBytes
import Derived.Laws.AppendOwn
set_option linter.unusedVariables false
set_option linter.unusedSimpArgs false
namespace Go.Lw
theorem y5r {a b:Nat} (h:¬a=b):Nat.beq a b=false:=by
 rw [Bool.eq_false_iff];intro e;exact h (Nat.eq_of_beq_eq_true e)
def look:List (Nat×Value)->Nat->Option Value
  | [],_=>none
  | (s,v)::r,t=>bif Nat.beq s t then some v else look r t
def mark (D:Nat):Deferred:={ target:=.collected D,args:=#[] }
structure AgM (ds:List Nat) (a:Act) (n:Nat) (L:List (Nat×Value)):Prop where
  dfr:a.defers=ds.map mark
  size:a.tmps.size=n
  at_:∀t v,look L t=some v->a.tmps.getD t undef=v
abbrev Ag:=AgM []
def ev (L:List (Nat×Value)):Operand->Option Value
  | .tmp t=>look L t
  | .const v=>some v
  | .global g=>some (.pointer (some ⟨g,0,none⟩))
  | .func f=>some (.func (.func f) #[] #[])
def evs (L:List (Nat×Value)):List Operand->List Value->Prop
  | [],[]=>True
  | x::xs,v::vs=>ev L x=some v/\evs L xs vs
  | _,_=>False
def Sub:List (Nat×Value)->List (Nat×Value)->Prop
  | [],_=>True
  | p::r,L=>look L p.1=some p.2/\Sub r L
section
variable {P:Program} {a:Act} {n:Nat} {L:List (Nat×Value)} {ds:List Nat} {w w':World} {Q:Exit->Act->World->Prop} {ops:Array Oper} {rest:List Oper} {o:Oper}
theorem AgM.eval (h:AgM ds a n L) {x:Operand} {v:Value} (hx:ev L x=some v):a.eval x=v:=by
 cases x with
 | tmp t=>exact h.at_ t v hx
 | const c=>exact Option.some.inj hx
 | global g=>exact Option.some.inj hx
 | func f=>exact Option.some.inj hx
theorem AgM.evals (h:AgM ds a n L):∀ {xs:List Operand} {vs:List Value},evs L xs vs->xs.map a.eval=vs
 | [],[],_=>rfl
 | _::_,_::_,hx=>by rw [List.map_cons,h.eval hx.1,h.evals hx.2]
 | [],_::_,hx=>hx.elim
 | _::_,[],hx=>hx.elim
theorem AgM.put (h:AgM ds a n L) {d:Nat} (hd:Nat.blt d n=true) (v:Value):AgM ds (a.put (some d) v) n ((d,v)::L):=by
 have hd':d<n:=by simpa [Nat.blt_eq] using hd
 refine ⟨h.dfr,by simp [Act.put,h.size],λt u hu=>?_⟩
 simp only [look] at hu
 by_cases e:d=t
 ·subst e
  simp only [Nat.beq_refl,cond_true,Option.some.injEq] at hu
  subst hu
  have:d<a.tmps.size:=by rw [h.size];exact hd'
  simp [Act.put,Array.getD,this]
 have:Nat.beq d t=false:=y5r e
 rw [this] at hu
 have h1:=h.at_ t u hu
 simp only [Act.put,Array.getD_eq_getD_getElem?,Array.getElem?_setIfInBounds] at h1 ⊢
 rw [if_neg e];exact h1
theorem Sub.look {L L':List (Nat×Value)}:∀ {t v},Sub L' L->look L' t=some v->look L t=some v:=by
 induction L' with
 | nil=>intro t v _ h;cases h
 | cons p r ih=>
  intro t v hs h
  simp only [Lw.look] at h
  by_cases e:p.1=t
  ·subst e
   simp only [Nat.beq_refl,cond_true,Option.some.injEq] at h
   rw [<-h];exact hs.1
  have:Nat.beq p.1 t=false:=y5r e
  rw [this] at h
  exact ih hs.2 h
theorem AgM.sub (h:AgM ds a n L) {L':List (Nat×Value)} (hs:Sub L' L):AgM ds a n L':=
 ⟨h.dfr,h.size,λt v hv=>h.at_ t v (hs.look hv)⟩
def argsOk (args:Array Value):List (Nat×Value)->Prop
  | []=>True
  | p::r=>args[p.1]?=some p.2/\argsOk args r
theorem argsOk.look {args:Array Value}:∀ {L:List (Nat×Value)},argsOk args L->∀ {t v},look L t=some v->args[t]?=some v
 | [],_,_,_,h=>by cases h
 | p::r,hs,t,v,h=>by
  simp only [Lw.look] at h
  by_cases e:p.1=t
  ·subst e
   simp only [Nat.beq_refl,cond_true,Option.some.injEq] at h
   rw [<-h];exact hs.1
  have:Nat.beq p.1 t=false:=y5r e
  rw [this] at h
  exact argsOk.look hs.2 h
theorem enter {f:FuncId} {fn:Func} {c:Code} {args:Array Value} {R:Ending->World->Prop} (L:List (Nat×Value))
    (hf:P.funcs[f]?=some fn) (hb:fn.body=some c) (hn:fn.ntmps=n) (hk:Nat.ble args.size n=true) (hL:argsOk args L)
    (h:∀a,Ag a n L->c.wp P (bodyPost P fn R) a w):Calls P f args w R:=by
  have hk':args.size<=n:=by simpa [Nat.ble_eq] using hk
  refine calls_of_wp hf hb (h _ ⟨rfl,by simp [hn];omega,λt v hv=>?_⟩)
  have:=argsOk.look hL hv
  simp only [Array.getD_eq_getD_getElem?,Array.getElem?_append]
  have ht:t<args.size:=by
    rcases Nat.lt_or_ge t args.size with h|h
    · exact h
    · rw [Array.getElem?_eq_none h] at this;cases this
  rw [if_pos ht,this];rfl
def Rets (P:Program) (f:FuncId) (args:Array Value) (w:World) (Φ:Value->World->Prop):Prop:=
  Calls P f args w λe w'=>∃v,e=.returned v/\Φ v w'
theorem Rets.mono {f:FuncId} {args:Array Value} {Φ Ψ:Value->World->Prop} (h:Rets P f args w Φ) (hq:∀v w',Φ v w'->Ψ v w'):Rets P f args w Ψ:=
 Calls.mono h λ_ _ ⟨v,he,hv⟩=>⟨v,he,hq v _ hv⟩
theorem u7m {x y:Code} (K:Act->World->Prop) (h1:x.wp P (Exit.then K Q) a w) (h2:∀a w,K a w->y.wp P Q a w):(Code.seq x y).wp P Q a w:=
 wp_seq (wp_mono h1 λe a w h=>by cases e<;>first|exact h2 _ _ h|exact h)
theorem cond_true {c:Operand} {x y:Code} (h:AgM ds a n L) (hc:ev L c=some (.bool true)) (k:x.wp P Q a w):(Code.cond c x y).wp P Q a w:=wp_cond (h.eval hc) k
theorem y5v {c:Operand} {x y:Code} (h:AgM ds a n L) (hc:ev L c=some (.bool false)) (k:y.wp P Q a w):(Code.cond c x y).wp P Q a w:=wp_cond (h.eval hc) k
theorem y5l {c:Operand} {x y:Code} {b:Bool} (h:AgM ds a n L) (hc:ev L c=some (.bool b)) (ht:b=true->x.wp P Q a w) (hf:b=false->y.wp P Q a w):(Code.cond c x y).wp P Q a w:=
 wp_cond_split (h.eval hc) ht hf
theorem loop {c:Code} {ι:Type} (L:ι->List (Nat×Value)) (I:ι->World->Prop) (μ:ι->Nat) (i:ι) (h:AgM ds a n (L i)) (hI:I i w)
    (round:∀i w a,AgM ds a n (L i)->I i w->c.wp P (Exit.then (λa' w'=>∃j,AgM ds a' n (L j)/\I j w'/\μ j<μ i) Q) a w):(Code.loop c).wp P Q a w:=by
  have key:∀m i w a,μ i=m->AgM ds a n (L i)->I i w->∀(b:Frame) (k:List Item) (cs:List Frame),
      ∃e a' w',Q e a' w'/\Arrives P (lone (b.at a (.code c::.inLoop c::k)) cs w) b k cs e a' w':=by
    intro m
    induction m using Nat.strongRecOn with
    | _ m ih=>
      intro i w a hm hA hI b k cs
      obtain ⟨e,a₁,w₁,hq,harr⟩:=round i w a hA hI b (.inLoop c::k) cs
      cases e with
      | normal=>
        obtain ⟨j,hA₁,hI₁,hlt⟩:=hq
        obtain ⟨e₂,a₂,w₂,hq₂,harr₂⟩:=ih (μ j) (hm▸hlt) j w₁ a₁ rfl hA₁ hI₁ b k cs
        exact ⟨e₂,a₂,w₂,hq₂,.of_steps (Steps.trans harr (.one step_inLoop)) harr₂⟩
      | exit id=>exact ⟨_,a₁,w₁,hq,.pass (x:=.inLoop c) rfl (λ_ _=>.inl (by simp)) harr⟩
      | goto l=>exact ⟨_,a₁,w₁,hq,.pass (x:=.inLoop c) rfl (λ_ _=>.inl (by simp)) harr⟩
      | ret=>exact ⟨_,a₁,w₁,hq,.pass (x:=.inLoop c) rfl (λ_ _=>.inl (by simp)) harr⟩
      | panic ch=>exact ⟨_,a₁,w₁,hq,.pass (x:=.inLoop c) rfl (λ_ _=>.inl (by simp)) harr⟩
      | outgrown=>exact ⟨_,a₁,w₁,hq,.pass (x:=.inLoop c) rfl (λ_ _=>.inl (by simp)) harr⟩
  intro b k cs
  obtain ⟨e,a',w',hq,harr⟩:=key _ i w a rfl h hI b k cs
  exact ⟨e,a',w',hq,.of_steps (.one step_loop) harr⟩
theorem v1d {id:Nat} (h:Q .normal a w):Exit.inBlock id Q (.exit id) a w:=by simp only [Exit.inBlock,if_true];exact h
theorem v8s {id id':Nat} (hne:Nat.beq id' id=false) (h:Q (.exit id') a w):Exit.inBlock id Q (.exit id') a w:=by
 simp only [Exit.inBlock];rw [if_neg (by rintro rfl;simp at hne)];exact h
theorem ret0 {fn:Func} {R:Ending->World->Prop} (h:Ag a n L) (hr:fn.results=#[]) (k:R (.returned (.tuple #[])) w):bodyPost P fn R .ret a w:=
 bodyPost_ret (results_none hr _ _ _) h.dfr k
theorem u3z {fn:Func} {R:Ending->World->Prop} (h:Ag a n L) (hr:fn.results=#[]) (k:R (.returned (.tuple #[])) w):bodyPost P fn R .normal a w:=
 bodyPost_end (results_none hr _ _ _) h.dfr k
theorem ret1 {fn:Func} {R:Ending->World->Prop} {t:Nat} {v:Value} (h:Ag a n L) (hr:fn.results=#[.tmp t]) (hv:look L t=some v) (k:R (.returned v) w):bodyPost P fn R .ret a w:=
 bodyPost_ret (results_tmp hr _ _ _) h.dfr (by rw [h.at_ t v hv];exact k)
theorem ret2 {fn:Func} {R:Ending->World->Prop} {t u:Nat} {v x:Value} (h:Ag a n L) (hr:fn.results=#[.tmp t,.tmp u]) (hv:look L t=some v) (hx:look L u=some x)
    (k:R (.returned (.tuple #[v,x])) w):bodyPost P fn R .ret a w:=
  bodyPost_ret (results_tmp2 hr _ _ _) h.dfr (by rw [h.at_ t v hv,h.at_ u x hx];exact k)
theorem ret3 {fn:Func} {R:Ending->World->Prop} {t u s:Nat} {v x y:Value} (h:Ag a n L) (hr:fn.results=#[.tmp t,.tmp u,.tmp s]) (hv:look L t=some v) (hx:look L u=some x)
    (hy:look L s=some y) (k:R (.returned (.tuple #[v,x,y])) w):bodyPost P fn R .ret a w:=
  bodyPost_ret (v:=.tuple #[v,x,y]) (by
    have h1:=h.at_ t v hv;have h2:=h.at_ u x hx;have h3:=h.at_ s y hy
    simp only [Array.getD_eq_getD_getElem?] at h1 h2 h3
    simp [results,hr,h1,h2,h3]) h.dfr k
def WL (P:Program) (ops:Array Oper) (Q:Exit->Act->World->Prop) (l:List Oper) (n:Nat) (ds:List Nat) (w:World) (L:List (Nat×Value)):Prop:=∀a,AgM ds a n L->wpList P ops Q l a w
def CW (P:Program) (Q:Exit->Act->World->Prop) (c:Code) (n:Nat) (ds:List Nat) (w:World) (L:List (Nat×Value)):Prop:=∀a,AgM ds a n L->c.wp P Q a w
def EW (Q:Exit->Act->World->Prop) (e:Exit) (n:Nat) (ds:List Nat) (w:World) (L:List (Nat×Value)):Prop:=∀a,AgM ds a n L->Q e a w
theorem z1u {d:Nat} {v:Value} (h:AgM ds a n L) (hg:o.guard=none) (hd:o.dst=some d) (hn:Nat.blt d n=true) (hr:(execOp a.eval o).run P w=.ok (.value v) w')
    (k:∀a,AgM ds a n ((d,v)::L)->wpList P ops Q rest a w'):wpList P ops Q (o::rest) a w:=
  wpList_plain hg λK hK=>by
    unfold Oper.wp
    rw [hr]
    show K (a.put o.dst v) w'
    rw [hd]
    exact hK _ _ (k _ (h.put hn v))
theorem z8i (h:AgM ds a n L) (hg:o.guard=none) (hd:o.dst=none) (hr:(execOp a.eval o).run P w=.ok .skip w')
    (k:∀a,AgM ds a n L->wpList P ops Q rest a w'):wpList P ops Q (o::rest) a w:=
  wpList_plain hg λK hK=>by
    unfold Oper.wp
    rw [hr]
    show K (a.put o.dst undef) w'
    rw [hd]
    exact hK _ _ (k _ h)
theorem x5c {d:Nat} {f:FuncId} {args:Array Value} {Φ:Value->World->Prop} (h:AgM ds a n L) (hg:o.guard=none) (hd:o.dst=some d) (hn:Nat.blt d n=true)
    (hr:(execOp a.eval o).run P w=.ok (.enter f args) w') (hc:Rets P f args w' Φ)
    (k:∀v w',Φ v w'->∀a,AgM ds a n ((d,v)::L)->wpList P ops Q rest a w'):wpList P ops Q (o::rest) a w:=
  wpList_plain hg λK hK=>by
    unfold Oper.wp
    rw [hr]
    refine Calls.mono hc ?_
    rintro e w'' ⟨v,rfl,hv⟩
    show K (a.put o.dst v) w''
    rw [hd]
    exact hK _ _ (k v w'' hv _ (h.put hn v))
theorem z5r (h:AgM ds a n L) {j d:Nat} {oj:Oper} {b:Bool} (hj:ops[j]?=some oj) (hd:oj.dst=some d) (hn:Nat.blt d n=true) (hb:look L d=some (.bool b)):yielded ops a.tmps j=some b:=by
 have h1:=h.at_ d _ hb
 have hd':d<a.tmps.size:=by rw [h.size];simpa [Nat.blt_eq] using hn
 have h2:a.tmps[d]?=some (.bool b):=by
  rw [Array.getElem?_eq_getElem hd']
  simpa [Array.getD,hd'] using h1
 simp [yielded,hj,hd,h2]
theorem j4y {d j dj:Nat} {oj:Oper} {want b:Bool} (h:AgM ds a n L) (hg:o.guard=some (j,want)) (hj:ops[j]?=some oj) (hdj:oj.dst=some dj) (hnj:Nat.blt dj n=true)
    (hb:look L dj=some (.bool b)) (hne:(b == want)=false) (hd:o.dst=some d) (hn:Nat.blt d n=true)
    (k:∀a,AgM ds a n ((d,undef)::L)->wpList P ops Q rest a w):wpList P ops Q (o::rest) a w:=by
  have hy:=z5r (ops:=ops) h hj hdj hnj hb
  unfold wpList
  rw [if_neg (by simp only [Region.wanted,hg,hy];simpa using hne),hd]
  exact k _ (h.put hn undef)
theorem u5s {d j dj:Nat} {oj:Oper} {want:Bool} (h:AgM ds a n L) (hg:o.guard=some (j,want)) (hj:ops[j]?=some oj) (hdj:oj.dst=some dj) (hnj:Nat.blt dj n=true)
    (hb:look L dj=some undef) (hd:o.dst=some d) (hn:Nat.blt d n=true)
    (k:∀a,AgM ds a n ((d,undef)::L)->wpList P ops Q rest a w):wpList P ops Q (o::rest) a w:=by
  have h1:=h.at_ dj _ hb
  have hd':dj<a.tmps.size:=by rw [h.size];simpa [Nat.blt_eq] using hnj
  have h2:a.tmps[dj]?=some undef:=by
    rw [Array.getElem?_eq_getElem hd']
    simpa [Array.getD,hd'] using h1
  have hy:yielded ops a.tmps j=none:=by simp [yielded,hj,hdj,h2,undef]
  unfold wpList
  rw [if_neg (by simp [Region.wanted,hg,hy]),hd]
  exact k _ (h.put hn undef)
theorem y3n {j dj:Nat} {oj:Oper} {want b:Bool} (h:AgM ds a n L) (hg:o.guard=some (j,want)) (hj:ops[j]?=some oj) (hdj:oj.dst=some dj) (hnj:Nat.blt dj n=true)
    (hb:look L dj=some (.bool b)) (he:(b == want)=true)
    (k:wpList P ops Q ({ o with guard:=none }::rest) a w):wpList P ops Q (o::rest) a w:=by
  have hy:=z5r (ops:=ops) h hj hdj hnj hb
  unfold wpList at k ⊢
  rw [if_pos (by simp [Region.wanted])] at k
  rw [if_pos (by simp only [Region.wanted,hg,hy];simpa using he)]
  exact k
variable {d:Nat} {ty:TypeId} {pos:String} {after:Array Edge} {v:Value} {x y:Operand} {t t':TypeId} {k k':IntKind} {i j:Int} {b c:Bool} {s s':ByteArray}
theorem x3p (h:AgM ds a n L) (hx:ev L x=some v) (hn:Nat.blt d n=true) (q:∀a,AgM ds a n ((d,v)::L)->wpList P ops Q rest a w) :
    wpList P ops Q (⟨some d,.move x,ty,pos,after,none⟩::rest) a w:=
  z1u h rfl rfl hn (by simp [execOp,h.eval hx]) q
theorem mv (hx:ev L x=some v) (q:WL P ops Q rest n ds w ((d,v)::L)) (hn:Nat.blt d n=true:=by exact rfl):WL P ops Q (⟨some d,.move x,ty,pos,after,none⟩::rest) n ds w L:=λa h=>x3p h hx hn q -- short
theorem z0q (h:AgM ds a n L) (hx:ev L x=some v) (q:∀a,AgM ds a n ((d,v)::L)->wpList P ops Q rest a w) (hn:Nat.blt d n=true:=by exact rfl) :
    wpList P ops Q (⟨some d,.assign x,ty,pos,after,none⟩::rest) a w:=
  z1u h rfl rfl hn (by simp [execOp,h.eval hx]) q
theorem asg (hx:ev L x=some v) (q:WL P ops Q rest n ds w ((d,v)::L)) (hn:Nat.blt d n=true:=by exact rfl):WL P ops Q (⟨some d,.assign x,ty,pos,after,none⟩::rest) n ds w L:=λa h=>z0q h hx q (hn:=hn) -- short
theorem z5j {z:Value} {x1 x2:Operand} (h:AgM ds a n L) (hx:ev L x=some (.bool b)) (hb:b=true) (hv:ev L x1=some z) (hn:Nat.blt d n=true) (q:∀a,AgM ds a n ((d,z)::L)->wpList P ops Q rest a w) :
    wpList P ops Q (⟨some d,.pick x x1 x2,ty,pos,after,none⟩::rest) a w:=
  z1u h rfl rfl hn (by subst hb;simp [execOp,h.eval hx,asBool,h.eval hv]) q
theorem pkt {z:Value} {x1 x2:Operand} (hx:ev L x=some (.bool b)) (hv:ev L x1=some z) (q:WL P ops Q rest n ds w ((d,z)::L)) (hb:b=true:=by exact rfl) (hn:Nat.blt d n=true:=by exact rfl):WL P ops Q (⟨some d,.pick x x1 x2,ty,pos,after,none⟩::rest) n ds w L:=λa h=>z5j h hx hb hv hn q -- short
theorem z4j {z:Value} {x1 x2:Operand} (h:AgM ds a n L) (hx:ev L x=some (.bool b)) (hb:b=false) (hv:ev L x2=some z) (hn:Nat.blt d n=true) (q:∀a,AgM ds a n ((d,z)::L)->wpList P ops Q rest a w) :
    wpList P ops Q (⟨some d,.pick x x1 x2,ty,pos,after,none⟩::rest) a w:=
  z1u h rfl rfl hn (by subst hb;simp [execOp,h.eval hx,asBool,h.eval hv]) q
theorem pkf {z:Value} {x1 x2:Operand} (hx:ev L x=some (.bool b)) (hv:ev L x2=some z) (q:WL P ops Q rest n ds w ((d,z)::L)) (hb:b=false:=by exact rfl) (hn:Nat.blt d n=true:=by exact rfl):WL P ops Q (⟨some d,.pick x x1 x2,ty,pos,after,none⟩::rest) n ds w L:=λa h=>z4j h hx hb hv hn q -- short
theorem y4k (i j:Int):(i == j)=decide (i=j):=rfl
theorem z1v (ρ:Operand->Value) (dst:Option Tmp) (b:Builtin) (xs:Array Operand) (ats:Array TypeId) (ty:TypeId) (pos:String) (after:Array Edge) (guard:Option (Nat×Bool)) :
 execOp ρ { dst,op:=.call { callee:=.builtin b,args:=xs,argTypes:=ats },type:=ty,pos,after,guard }=builtin b ats ty (xs.map fun|.const _=>true|_=>false) (xs.map ρ):=rfl
theorem u9b {z:Int} (h:AgM ds a n L) (hx:ev L x=some (.int k i)) (hy:ev L y=some (.int k j)) (hz:k.wrap (i+j)=z) (hn:Nat.blt d n=true) (q:∀a,AgM ds a n ((d,.int k z)::L)->wpList P ops Q rest a w) :
    wpList P ops Q (⟨some d,.binOp .add t x y t',ty,pos,after,none⟩::rest) a w:=
  z1u h rfl rfl hn (by subst hz;simp [execOp,h.eval hx,h.eval hy,eqGuard_add,binOp_add,Op.intArith]) q
theorem z0y {z:Int} (hx:ev L x=some (.int k i)) (hy:ev L y=some (.int k j)) (hz:k.wrap (i+j)=z) (q:WL P ops Q rest n ds w ((d,.int k z)::L)) (hn:Nat.blt d n=true:=by exact rfl):WL P ops Q (⟨some d,.binOp .add t x y t',ty,pos,after,none⟩::rest) n ds w L:=λa h=>u9b h hx hy hz hn q -- short
theorem j0v {z:Int} (h:AgM ds a n L) (hx:ev L x=some (.int k i)) (hy:ev L y=some (.int k j)) (hz:k.wrap (i-j)=z) (hn:Nat.blt d n=true) (q:∀a,AgM ds a n ((d,.int k z)::L)->wpList P ops Q rest a w) :
    wpList P ops Q (⟨some d,.binOp .sub t x y t',ty,pos,after,none⟩::rest) a w:=
  z1u h rfl rfl hn (by subst hz;simp [execOp,h.eval hx,h.eval hy,eqGuard_sub,binOp_sub,Op.intArith]) q
theorem z2u {z:Int} (hx:ev L x=some (.int k i)) (hy:ev L y=some (.int k j)) (hz:k.wrap (i-j)=z) (q:WL P ops Q rest n ds w ((d,.int k z)::L)) (hn:Nat.blt d n=true:=by exact rfl):WL P ops Q (⟨some d,.binOp .sub t x y t',ty,pos,after,none⟩::rest) n ds w L:=λa h=>j0v h hx hy hz hn q -- short
theorem j1c {z:Int} (h:AgM ds a n L) (hx:ev L x=some (.int k i)) (hy:ev L y=some (.int k j)) (hz:k.wrap (i*j)=z) (hn:Nat.blt d n=true) (q:∀a,AgM ds a n ((d,.int k z)::L)->wpList P ops Q rest a w) :
    wpList P ops Q (⟨some d,.binOp .mul t x y t',ty,pos,after,none⟩::rest) a w:=
  z1u h rfl rfl hn (by subst hz;simp [execOp,h.eval hx,h.eval hy,eqGuard_mul,binOp_mul,Op.intArith]) q
theorem x4g {z:Int} (hx:ev L x=some (.int k i)) (hy:ev L y=some (.int k j)) (hz:k.wrap (i*j)=z) (hn:Nat.blt d n=true) (q:WL P ops Q rest n ds w ((d,.int k z)::L)):WL P ops Q (⟨some d,.binOp .mul t x y t',ty,pos,after,none⟩::rest) n ds w L:=λa h=>j1c h hx hy hz hn q -- short
theorem u9m {z:Int} (h:AgM ds a n L) (hx:ev L x=some (.int k i)) (hy:ev L y=some (.int k j)) (h0:j≠0) (hz:k.wrap (i.tdiv j)=z) (hn:Nat.blt d n=true) (q:∀a,AgM ds a n ((d,.int k z)::L)->wpList P ops Q rest a w) :
    wpList P ops Q (⟨some d,.binOp .quo t x y t',ty,pos,after,none⟩::rest) a w:=
  z1u h rfl rfl hn (by subst hz;simp [execOp,h.eval hx,h.eval hy,eqGuard_quo,binOp_quo,Op.intDiv,h0]) q
theorem j5f {z:Int} (hx:ev L x=some (.int k i)) (hy:ev L y=some (.int k j)) (h0:j≠0) (hz:k.wrap (i.tdiv j)=z) (hn:Nat.blt d n=true) (q:WL P ops Q rest n ds w ((d,.int k z)::L)):WL P ops Q (⟨some d,.binOp .quo t x y t',ty,pos,after,none⟩::rest) n ds w L:=λa h=>u9m h hx hy h0 hz hn q -- short
theorem j0d {z:Int} (h:AgM ds a n L) (hx:ev L x=some (.int k i)) (hy:ev L y=some (.int k j)) (h0:j≠0) (hz:i.tmod j=z) (hn:Nat.blt d n=true) (q:∀a,AgM ds a n ((d,.int k z)::L)->wpList P ops Q rest a w) :
    wpList P ops Q (⟨some d,.binOp .rem t x y t',ty,pos,after,none⟩::rest) a w:=
  z1u h rfl rfl hn (by subst hz;simp [execOp,h.eval hx,h.eval hy,eqGuard_rem,binOp_rem,Op.intDiv,h0]) q
theorem x8w {z:Int} (hx:ev L x=some (.int k i)) (hy:ev L y=some (.int k j)) (hz:i.tmod j=z) (q:WL P ops Q rest n ds w ((d,.int k z)::L)) (h0:j≠0:=by omega) (hn:Nat.blt d n=true:=by exact rfl):WL P ops Q (⟨some d,.binOp .rem t x y t',ty,pos,after,none⟩::rest) n ds w L:=λa h=>j0d h hx hy h0 hz hn q -- short
theorem j5m (h:AgM ds a n L) (hx:ev L x=some (.int k i)) (hy:ev L y=some (.int k j)) (hn:Nat.blt d n=true) (q:∀a,AgM ds a n ((d,.bool (decide (i=j)))::L)->wpList P ops Q rest a w) :
    wpList P ops Q (⟨some d,.binOp .eql t x y t',ty,pos,after,none⟩::rest) a w:=
  z1u h rfl rfl hn (by simp [execOp,h.eval hx,h.eval hy,eqGuard_at_int,binOp_eql,y4k]) q
theorem eq' (hx:ev L x=some (.int k i)) (hy:ev L y=some (.int k j)) (q:WL P ops Q rest n ds w ((d,.bool (decide (i=j)))::L)) (hn:Nat.blt d n=true:=by exact rfl):WL P ops Q (⟨some d,.binOp .eql t x y t',ty,pos,after,none⟩::rest) n ds w L:=λa h=>j5m h hx hy hn q -- short
theorem j5h (h:AgM ds a n L) (hx:ev L x=some (.int k i)) (hy:ev L y=some (.int k j)) (hn:Nat.blt d n=true) (q:∀a,AgM ds a n ((d,.bool (decide (i≠j)))::L)->wpList P ops Q rest a w) :
    wpList P ops Q (⟨some d,.binOp .neq t x y t',ty,pos,after,none⟩::rest) a w:=
  z1u h rfl rfl hn (by simp [execOp,h.eval hx,h.eval hy,eqGuard_at_int,binOp_neq,bne,y4k]) q
theorem ne' (hx:ev L x=some (.int k i)) (hy:ev L y=some (.int k j)) (q:WL P ops Q rest n ds w ((d,.bool (decide (i≠j)))::L)) (hn:Nat.blt d n=true:=by exact rfl):WL P ops Q (⟨some d,.binOp .neq t x y t',ty,pos,after,none⟩::rest) n ds w L:=λa h=>j5h h hx hy hn q -- short
theorem j5d (h:AgM ds a n L) (hx:ev L x=some (.int k i)) (hy:ev L y=some (.int k j)) (hn:Nat.blt d n=true) (q:∀a,AgM ds a n ((d,.bool (decide (i<j)))::L)->wpList P ops Q rest a w) :
    wpList P ops Q (⟨some d,.binOp .lss t x y t',ty,pos,after,none⟩::rest) a w:=
  z1u h rfl rfl hn (by simp [execOp,h.eval hx,h.eval hy,eqGuard_lss,binOp_lss]) q
theorem lt' (hx:ev L x=some (.int k i)) (hy:ev L y=some (.int k j)) (q:WL P ops Q rest n ds w ((d,.bool (decide (i<j)))::L)) (hn:Nat.blt d n=true:=by exact rfl):WL P ops Q (⟨some d,.binOp .lss t x y t',ty,pos,after,none⟩::rest) n ds w L:=λa h=>j5d h hx hy hn q -- short
theorem j4n (h:AgM ds a n L) (hx:ev L x=some (.int k i)) (hy:ev L y=some (.int k j)) (hn:Nat.blt d n=true) (q:∀a,AgM ds a n ((d,.bool (decide (i<=j)))::L)->wpList P ops Q rest a w) :
    wpList P ops Q (⟨some d,.binOp .leq t x y t',ty,pos,after,none⟩::rest) a w:=
  z1u h rfl rfl hn (by simp [execOp,h.eval hx,h.eval hy,eqGuard_leq,binOp_leq]) q
theorem le' (hx:ev L x=some (.int k i)) (hy:ev L y=some (.int k j)) (hn:Nat.blt d n=true) (q:WL P ops Q rest n ds w ((d,.bool (decide (i<=j)))::L)):WL P ops Q (⟨some d,.binOp .leq t x y t',ty,pos,after,none⟩::rest) n ds w L:=λa h=>j4n h hx hy hn q -- short
theorem j4w (h:AgM ds a n L) (hx:ev L x=some (.int k i)) (hy:ev L y=some (.int k j)) (hn:Nat.blt d n=true) (q:∀a,AgM ds a n ((d,.bool (decide (j<i)))::L)->wpList P ops Q rest a w) :
    wpList P ops Q (⟨some d,.binOp .gtr t x y t',ty,pos,after,none⟩::rest) a w:=
  z1u h rfl rfl hn (by simp [execOp,h.eval hx,h.eval hy,eqGuard_gtr,binOp_gtr]) q
theorem gt' (hx:ev L x=some (.int k i)) (hy:ev L y=some (.int k j)) (q:WL P ops Q rest n ds w ((d,.bool (decide (j<i)))::L)) (hn:Nat.blt d n=true:=by exact rfl):WL P ops Q (⟨some d,.binOp .gtr t x y t',ty,pos,after,none⟩::rest) n ds w L:=λa h=>j4w h hx hy hn q -- short
theorem j3i (h:AgM ds a n L) (hx:ev L x=some (.int k i)) (hy:ev L y=some (.int k j)) (hn:Nat.blt d n=true) (q:∀a,AgM ds a n ((d,.bool (decide (j<=i)))::L)->wpList P ops Q rest a w) :
    wpList P ops Q (⟨some d,.binOp .geq t x y t',ty,pos,after,none⟩::rest) a w:=
  z1u h rfl rfl hn (by simp [execOp,h.eval hx,h.eval hy,eqGuard_geq,binOp_geq]) q
theorem ge' (hx:ev L x=some (.int k i)) (hy:ev L y=some (.int k j)) (q:WL P ops Q rest n ds w ((d,.bool (decide (j<=i)))::L)) (hn:Nat.blt d n=true:=by exact rfl):WL P ops Q (⟨some d,.binOp .geq t x y t',ty,pos,after,none⟩::rest) n ds w L:=λa h=>j3i h hx hy hn q -- short
theorem u9q (h:AgM ds a n L) (hx:ev L x=some (.bool b)) (hn:Nat.blt d n=true) (q:∀a,AgM ds a n ((d,.bool (!b))::L)->wpList P ops Q rest a w) :
    wpList P ops Q (⟨some d,.unOp .not t x,ty,pos,after,none⟩::rest) a w:=
  z1u h rfl rfl hn (by simp [execOp,h.eval hx,unary_not]) q
theorem nt' (hx:ev L x=some (.bool b)) (q:WL P ops Q rest n ds w ((d,.bool (!b))::L)) (hn:Nat.blt d n=true:=by exact rfl):WL P ops Q (⟨some d,.unOp .not t x,ty,pos,after,none⟩::rest) n ds w L:=λa h=>u9q h hx hn q -- short
theorem u6v {z:Int} (h:AgM ds a n L) (hx:ev L x=some (.int k i)) (hs:(P.underlying t).isSome=true) (hd:P.underlying t'=some (.int k')) (hz:k'.wrap i=z) (hn:Nat.blt d n=true) (q:∀a,AgM ds a n ((d,.int k' z)::L)->wpList P ops Q rest a w) :
    wpList P ops Q (⟨some d,.convert t t' x,ty,pos,after,none⟩::rest) a w:=
  z1u h rfl rfl hn (by
    obtain ⟨u,hu⟩:=Option.isSome_iff_exists.mp hs
    subst hz;simp [execOp,h.eval hx,convert,run_underlying hu,run_underlying hd,Conv.intToInt]) q
theorem z5h {z:Int} (hx:ev L x=some (.int k i)) (hs:(P.underlying t).isSome=true) (hd:P.underlying t'=some (.int k')) (hz:k'.wrap i=z) (q:WL P ops Q rest n ds w ((d,.int k' z)::L)) (hn:Nat.blt d n=true:=by exact rfl):WL P ops Q (⟨some d,.convert t t' x,ty,pos,after,none⟩::rest) n ds w L:=λa h=>u6v h hx hs hd hz hn q -- short
theorem u8t {ts:Array TypeId} (h:AgM ds a n L) (hx:ev L x=some (.int k i)) (hy:ev L y=some (.int k' j)) (hn:Nat.blt d n=true) (q:∀a,AgM ds a n ((d,.int k (max i j))::L)->wpList P ops Q rest a w) :
    wpList P ops Q (⟨some d,.call ⟨.builtin .max,#[x,y],ts⟩,ty,pos,after,none⟩::rest) a w:=
  z1u h rfl rfl hn (by
    rw [z1v];unfold builtin
    simp only [List.map_toArray,List.map_cons,List.map_nil,h.eval hx,h.eval hy,Sem.run_bind,run_max_int2,Result.andThen_ok,Sem.run_pure]
    congr 3;omega) q
theorem j3w {ts:Array TypeId} (hx:ev L x=some (.int k i)) (hy:ev L y=some (.int k' j)) (hn:Nat.blt d n=true) (q:WL P ops Q rest n ds w ((d,.int k (max i j))::L)):WL P ops Q (⟨some d,.call ⟨.builtin .max,#[x,y],ts⟩,ty,pos,after,none⟩::rest) n ds w L:=λa h=>u8t h hx hy hn q -- short
def S (l:List UInt8):Value:=.string ⟨l.toArray⟩
variable {l l':List UInt8}
theorem u8p (h:AgM ds a n L) (hx:ev L x=some (S l)) (hu:P.underlying t=some .string) (hn:Nat.blt d n=true) (q:∀a,AgM ds a n ((d,.int .i64 (l.length:Int))::L)->wpList P ops Q rest a w) :
    wpList P ops Q (⟨some d,.call ⟨.builtin .len,#[x],#[t]⟩,ty,pos,after,none⟩::rest) a w:=
  z1u h rfl rfl hn (by
    rw [z1v];unfold builtin
    simp only [List.map_toArray,List.map_cons,List.map_nil,h.eval hx,S,Sem.run_bind,run_len_string w t _ _ hu,Result.andThen_ok,Sem.run_pure]
    rfl) q
theorem ln (hx:ev L x=some (S l)) (hu:P.underlying t=some .string) (hn:Nat.blt d n=true) (q:WL P ops Q rest n ds w ((d,.int .i64 (l.length:Int))::L)):WL P ops Q (⟨some d,.call ⟨.builtin .len,#[x],#[t]⟩,ty,pos,after,none⟩::rest) n ds w L:=λa h=>u8p h hx hu hn q -- short
end
end Go.Lw
namespace Go.Lw
open Go.RowKit
structure Fr (S:List Nat) (w w':World):Prop where
  os:w'.os=w.os
  tape:w'.tape=w.tape
  output:w'.output=w.output
  size:w.heap.size<=w'.heap.size
  block:∀k,k<w.heap.size->k∉S->w'.heap[k]?=w.heap[k]?
theorem Fr.refl (S:List Nat) (w:World):Fr S w w:=⟨rfl,rfl,rfl,Nat.le_refl _,λ_ _ _=>rfl⟩
theorem Fr.trans {S S':List Nat} {a b c:World} (h:Fr S a b) (h':Fr S' b c):Fr (S++S') a c:=
 ⟨h'.os.trans h.os,h'.tape.trans h.tape,h'.output.trans h.output,Nat.le_trans h.size h'.size,λk hk hS=>
  (h'.block k (Nat.lt_of_lt_of_le hk h.size) (λe=>hS (List.mem_append.2 (.inr e)))).trans (h.block k hk (λe=>hS (List.mem_append.2 (.inl e))))⟩
theorem Fr.weak {S S':List Nat} {a b:World} (h:Fr S a b) (hS:∀k∈S,k<a.heap.size->k∈S'):Fr S' a b:=
 ⟨h.os,h.tape,h.output,h.size,λk hk hn=>h.block k hk (λe=>hn (hS k e hk))⟩
theorem Fr.step {S S':List Nat} {a b c:World} (h:Fr S a b) (h':Fr S' b c) (hS:∀k∈S',k<a.heap.size->k∈S):Fr S a c:=
 (h.trans h').weak λk hk hlt=>(List.mem_append.1 hk).elim id λe=>hS k e hlt
theorem Fr.next {S:List Nat} {a b c:World} (h:Fr S a b) (h':Fr [] b c):Fr S a c:=h.step h' (by simp)
theorem Fr.below {a b:World} (h:Fr [] a b):Below a.heap.size a b:=⟨h.os,h.tape,h.output,h.size,λk hk=>h.block k hk (by simp)⟩
theorem Fr.of_below {a b:World} (h:Below a.heap.size a b):Fr [] a b:=⟨h.os,h.tape,h.output,h.size,λk hk _=>h.block k hk⟩
theorem Fr.alloc (S:List Nat) (w:World) (o:Obj):Fr S w (w.alloc o):=⟨rfl,rfl,rfl,by simp,λk hk _=>Below.heap_alloc w o k hk⟩
theorem Fr.drew (S:List Nat) (w:World):Fr S w w.drew:=⟨rfl,rfl,rfl,Nat.le_refl _,λ_ _ _=>rfl⟩
theorem Fr.setCell (w:World) (p:Addr) (u:Value):Fr [p.block] w (w.setCell p u):=
 ⟨rfl,rfl,rfl,by simp,λk _ hn=>heap_setCell_other w p k u (by simpa using hn)⟩
theorem Fr.setRow (w:World) (g:Nat) (cs:Array Value):Fr [g] w (w.setRow g cs):=
 ⟨rfl,rfl,rfl,by simp,λk _ hn=>setRow_other w g k _ (by simpa using hn)⟩
theorem Fr.cell {S:List Nat} {w w':World} (h:Fr S w w') {p:Addr} {u:Value} (hc:w.cell? p=some u) (hn:p.block∉S):w'.cell? p=some u:=
 (World.cell?_of_block (w:=w) (h.block p.block (block_lt_of_cell hc) hn)).trans hc
def Cells (w:World) (ad:Addr) (cs:List Value):Prop:=∀j u,cs[j]?=some u->w.cell? (ad.add j)=some u
theorem z7d (a:Addr) (n:Nat):(a.add n).block=a.block:=by unfold Addr.add;split<;>rfl
theorem z8v (a:Addr) (i j:Nat):(a.add i).add j=a.add (i+j):=by
 unfold Addr.add
 by_cases hi:i=0<;>by_cases hj:j=0<;>simp [hi,hj,Nat.add_assoc]
theorem Cells.fr {S:List Nat} {w w':World} {ad:Addr} {cs:List Value} (h:Cells w ad cs) (hf:Fr S w w') (hn:ad.block∉S:=by simp[z0v]<;>omega):Cells w' ad cs:=
 λj u hu=>hf.cell (h j u hu) (by rw [z7d];exact hn)
structure Enc (α:Type) where
  enc:α->List Value
  sz:Nat
  len:∀y,(enc y).length=sz
  one:∀y,∀u∈enc y,u.oneCell'=true
  pos:0<sz
def Enc.i64:Enc Int:=⟨λn=>[.int .i64 n],1,λ_=>rfl,λ_ u h=>by simp at h;subst h;rfl,by decide⟩
def Enc.u8:Enc Int:=⟨λn=>[.int .u8 n],1,λ_=>rfl,λ_ u h=>by simp at h;subst h;rfl,by decide⟩
def Enc.str:Enc (List UInt8):=⟨λl=>[S l],1,λ_=>rfl,λ_ u h=>by simp at h;subst h;rfl,by decide⟩
def Enc.sl:Enc (Option Addr×Nat×Nat):=⟨λp=>[.slice p.1 p.2.1 p.2.2],1,λ_=>rfl,λ_ u h=>by simp at h;subst h;rfl,by decide⟩
theorem Enc.flat_len {α:Type} (E:Enc α) (ys:List α):(ys.flatMap E.enc).length=ys.length*E.sz:=by
 induction ys with
 | nil=>simp
 | cons y ys ih=>simp [E.len,ih,Nat.add_mul,Nat.add_comm]
theorem Enc.flat_one {α:Type} (E:Enc α) (ys:List α):∀u∈ys.flatMap E.enc,u.oneCell'=true:=by
 intro u hu
 obtain ⟨y,_,h⟩:=List.mem_flatMap.1 hu
 exact E.one y u h
theorem Enc.flat_get {α:Type} (E:Enc α):∀(ys:List α) (i:Nat) (y:α),ys[i]?=some y->∀j,j<E.sz->(ys.flatMap E.enc)[i*E.sz+j]?=(E.enc y)[j]?
 | [],i,y,h,_,_=>by simp at h
 | z::ys,0,y,h,j,hj=>by
  simp at h;subst h
  rw [List.flatMap_cons,Nat.zero_mul,Nat.zero_add,List.getElem?_append_left (by rw [E.len];exact hj)]
 | z::ys,i+1,y,h,j,hj=>by
  simp at h
  rw [List.flatMap_cons,List.getElem?_append_right (by rw [E.len,Nat.add_mul];omega),E.len]
  rw [show (i+1)*E.sz+j-E.sz=i*E.sz+j by rw [Nat.add_mul];omega]
  exact Enc.flat_get E ys i y h j hj
theorem Enc.flat_split {α:Type} (E:Enc α) (ys:List α) (m:Nat) (u:Value) (h:(ys.flatMap E.enc)[m]?=some u) :
    ∃i j y,m=i*E.sz+j/\j<E.sz/\ys[i]?=some y/\(E.enc y)[j]?=some u:=by
  have hm:m<ys.length*E.sz:=by rw [<-E.flat_len];exact (List.getElem?_eq_some_iff.1 h).1
  have hi:m / E.sz<ys.length:=Nat.div_lt_of_lt_mul (by rw [Nat.mul_comm];exact hm)
  have hj:m % E.sz<E.sz:=Nat.mod_lt _ E.pos
  have e:m=m / E.sz*E.sz+m % E.sz:=by rw [Nat.mul_comm];exact (Nat.div_add_mod m E.sz).symm
  refine ⟨m / E.sz,m % E.sz,ys[m / E.sz],e,hj,List.getElem?_eq_getElem hi,?_⟩
  have:=E.flat_get ys (m / E.sz) ys[m / E.sz] (List.getElem?_eq_getElem hi) (m % E.sz) hj
  rw [<-this,<-e];exact h
def Sl {α:Type} (E:Enc α) (w:World) (v:Value) (ys:List α):Prop:=
  ∃A c,v=.slice A ys.length c/\ys.length<=c/\c<=maxLen/\∀i y,ys[i]?=some y->∃ad,A=some ad/\Cells w (ad.add (i*E.sz)) (E.enc y)
def Own {α:Type} (E:Enc α) (T:TypeId) (base:Nat) (w:World) (v:Value) (ys:List α):Prop:=
  (v=.slice none 0 0/\ys=[])\/
  ∃g cap cur,v=.slice (some ⟨g,0,none⟩) ys.length cap/\base<=g/\w.heap[g]?=some (.cells cur T (0,0))/\ys.length<=cap/\cap<=maxLen/\cap*E.sz<=cur.size/\
    cur.toList.take (ys.length*E.sz)=ys.flatMap E.enc
def z0v:Value->List Nat
  | .slice (some a) _ _=>[a.block]
  | _=>[]
section
variable {α:Type} {E:Enc α} {T:TypeId} {base:Nat} {w w':World} {v:Value} {ys zs:List α} {S:List Nat}
theorem z3l (g o j:Nat):(⟨g,o,none⟩:Addr).add j=⟨g,o+j,none⟩:=by unfold Addr.add;split<;>simp_all
theorem Sl.fr (h:Sl E w v ys) (hf:Fr S w w') (hn:∀k∈S,k∉z0v v:=by simp[z0v]<;>omega):Sl E w' v ys:=by
 obtain ⟨A,c,rfl,h1,h2,h3⟩:=h
 refine ⟨A,c,rfl,h1,h2,λi y hy=>?_⟩
 obtain ⟨ad,rfl,hc⟩:=h3 i y hy
 exact ⟨ad,rfl,hc.fr hf (by rw [z7d];exact λe=>hn _ e (by simp [z0v]))⟩
theorem Sl.ext (h:Sl E w v ys) (hf:Fr [] w w'):Sl E w' v ys:=h.fr hf (by simp)
theorem Sl.nil (w:World):Sl E w (.slice none 0 0) []:=⟨none,0,rfl,Nat.le_refl _,Nat.zero_le _,λi y h=>by simp at h⟩
theorem Own.sl (h:Own E T base w v ys):Sl E w v ys:=by
 rcases h with ⟨rfl,rfl⟩|⟨g,cap,cur,rfl,_,hg,hc,hm,hs,ht⟩
 ·exact Sl.nil w
 refine ⟨_,cap,rfl,hc,hm,λi y hy=>⟨_,rfl,λj u hu=>?_⟩⟩
 have hj:j<E.sz:=by rw [<-E.len y];exact (List.getElem?_eq_some_iff.1 hu).1
 have hi:i<ys.length:=(List.getElem?_eq_some_iff.1 hy).1
 have h1:=E.flat_get ys i y hy j hj
 rw [<-ht] at h1
 have hlt:i*E.sz+j<ys.length*E.sz:=by
  have:(i+1)*E.sz<=ys.length*E.sz:=Nat.mul_le_mul_right _ hi
  rw [Nat.add_mul] at this;omega
 rw [List.getElem?_take,if_pos hlt] at h1
 rw [z8v,z3l,Nat.zero_add,cell_of_row w g _ cur T (0,0) hg,<-Array.getElem?_toList,h1]
 exact hu
theorem Own.fr (h:Own E T base w v ys) (hf:Fr S w w') (hn:∀k∈S,k∉z0v v:=by simp[z0v]<;>omega):Own E T base w' v ys:=by
 rcases h with ⟨rfl,rfl⟩|⟨g,cap,cur,rfl,hb,hg,r⟩
 ·exact .inl ⟨rfl,rfl⟩
 refine .inr ⟨g,cap,cur,rfl,hb,?_,r⟩
 rw [hf.block g (Array.getElem?_eq_some_iff.1 hg).1 (λe=>hn _ e (by simp [z0v]))]
 exact hg
theorem Own.ext (h:Own E T base w v ys) (hf:Fr [] w w'):Own E T base w' v ys:=h.fr hf (by simp)
theorem Own.nil (w:World):Own E T base w (.slice none 0 0) []:=.inl ⟨rfl,rfl⟩
theorem Own.low {b':Nat} (h:Own E T base w v ys) (hb:b'<=base):Own E T b' w v ys:=by
 rcases h with h|⟨g,cap,cur,h1,h2,r⟩
 ·exact .inl h
 exact .inr ⟨g,cap,cur,h1,Nat.le_trans hb h2,r⟩
theorem Own.blk (h:Own E T base w v ys):∀k∈z0v v,base<=k/\k<w.heap.size:=by
 rcases h with ⟨rfl,rfl⟩|⟨g,cap,cur,rfl,hb,hg,r⟩
 ·intro k hk;cases hk
 intro k hk
 simp [z0v] at hk;subst hk
 exact ⟨hb,(Array.getElem?_eq_some_iff.1 hg).1⟩
theorem Sl.blk (h:Sl E w v ys) (hp:ys≠[]):∀k∈z0v v,k<w.heap.size:=by
 obtain ⟨A,c,rfl,h1,h2,h3⟩:=h
 match ys,hp with
 | y::r,_=>
  obtain ⟨ad,rfl,hc⟩:=h3 0 y rfl
  intro k hk
  simp [z0v] at hk;subst hk
  have hl:=E.len y
  have hp:=E.pos
  match he:E.enc y with
  | []=>rw [he] at hl;simp at hl;omega
  | u::_=>
   have:=hc 0 u (by rw [he];rfl)
   have:=block_lt_of_cell this
   rwa [z7d,z7d] at this
theorem Sl.form (h:Sl E w v ys):∃A c,v=.slice A ys.length c/\ys.length<=c:=let ⟨A,c,h1,h2,_⟩:=h;⟨A,c,h1,h2⟩
theorem Sl.len_le (h:Sl E w v ys):ys.length<=maxLen:=let ⟨_,_,_,h2,h3,_⟩:=h;Nat.le_trans h2 h3
theorem Sl.flat (h:Sl E w v ys):∃A c,v=.slice A ys.length c/\ys.length<=c/\c<=maxLen/\(ys≠[]->∃ad,A=some ad/\Cells w ad (ys.flatMap E.enc)):=by
 obtain ⟨A,c,rfl,h1,h2,h3⟩:=h
 refine ⟨A,c,rfl,h1,h2,λhp=>?_⟩
 match ys,hp with
 | y::r,_=>
  obtain ⟨ad,rfl,_⟩:=h3 0 y rfl
  refine ⟨ad,rfl,λm u hu=>?_⟩
  obtain ⟨i,j,z,rfl,hj,hz,hu'⟩:=E.flat_split _ m u hu
  obtain ⟨ad',e,hc⟩:=h3 i z hz
  cases e
  have:=hc j u hu'
  rwa [z8v] at this
theorem Sl.take (h:Sl E w v ys) {A:Option Addr} {n c:Nat} (hv:v=.slice A n c) {m:Nat} (hm:m<=ys.length) {B:Option Addr} {c':Nat} (hc':m<=c') (hM:c'<=maxLen) (hB:0<m->B=A):Sl E w (.slice B m c') (ys.take m):=by
 obtain ⟨A',c1,h0,h1,h2,h3⟩:=h
 rw [hv] at h0;cases h0
 have hl:(ys.take m).length=m:=by simp;omega
 refine ⟨B,c',by rw [hl],by rw [hl];exact hc',hM,λi y hy=>?_⟩
 rw [List.getElem?_take] at hy
 split at hy
 ·rename_i hi
  rw [hB (by omega)]
  exact h3 i y hy
 cases hy
theorem Sl.drop (h:Sl E w v ys) {A:Option Addr} {n c:Nat} (hv:v=.slice A n c) {m:Nat} (hm:m<=ys.length) {B:Option Addr} {c':Nat} (hc':ys.length-m<=c') (hM:c'<=maxLen) (hB:m<ys.length->B=A.map (·.add (m*E.sz))) :
    Sl E w (.slice B (ys.length-m) c') (ys.drop m):=by
  obtain ⟨A',c1,h0,h1,h2,h3⟩:=h
  rw [hv] at h0;cases h0
  refine ⟨B,c',by rw [List.length_drop],by rw [List.length_drop];exact hc',hM,λi y hy=>?_⟩
  rw [List.getElem?_drop] at hy
  have hlt:m+i<ys.length:=(List.getElem?_eq_some_iff.1 hy).1
  obtain ⟨ad,rfl,hc⟩:=h3 _ y hy
  refine ⟨ad.add (m*E.sz),by rw [hB (by omega)];rfl,?_⟩
  rw [z8v,<-Nat.add_mul];exact hc
theorem Own.take (h:Own E T base w v ys) {A:Option Addr} {n c:Nat} (hv:v=.slice A n c) {m:Nat} (hm:m<=ys.length) {c':Nat} (hc:c'<=c) (hmc:m<=c'):Own E T base w (.slice A m c') (ys.take m):=by
 rcases h with ⟨rfl,rfl⟩|⟨g,cap,cur,rfl,hb,hg,h1,h2,h3,h4⟩
 ·cases hv
  simp at hm;subst hm
  exact .inl ⟨by rw [Nat.le_zero.1 hc],rfl⟩
 cases hv
 have hl:(ys.take m).length=m:=by simp;omega
 refine .inr ⟨g,c',cur,by rw [hl],hb,hg,by rw [hl];exact hmc,by omega,Nat.le_trans (Nat.mul_le_mul_right _ hc) h3,?_⟩
 have h5:(cur.toList.take (ys.length*E.sz)).take (m*E.sz)=(ys.flatMap E.enc).take (m*E.sz):=by rw [h4]
 rw [List.take_take,Nat.min_eq_left (Nat.mul_le_mul_right _ hm)] at h5
 rw [hl,h5]
 clear h5 h4 h3 h2 h1 hg hl hc hmc
 induction ys generalizing m with
 | nil=>simp
 | cons y ys ih=>
  match m with
  | 0=>simp
  | m+1=>
   rw [List.take_succ_cons,List.flatMap_cons,List.flatMap_cons,Nat.add_mul,Nat.one_mul,Nat.add_comm,<-E.len y,List.take_length_add_append,E.len y,ih (by simp at hm;omega)]
theorem z8t {P:Program} (t ty e:TypeId) (i:TypeInfo) (ht:P.underlying t=some (.slice e)) (hi:P.info? e=some i) (A:Option Addr) (n cap c:Nat) (hc:n<=cap) (hpos:0<n->A≠none) :
    (Builtin.append_ #[t,t] ty #[.slice A n cap,.slice none 0 c]).run P w=.ok (.slice A n cap) w:=by
  cases A with
  | none=>simp [Builtin.append_,run_underlying ht,sizeOf,typeInfo,hi,Builtin.lenOf,Builtin.firstCells,hc]
  | some a=>simp [Builtin.append_,run_underlying ht,sizeOf,typeInfo,hi,Builtin.lenOf,Builtin.firstCells,hc,storeCells]
theorem x8p {P:Program} (t ty:TypeId) (i:TypeInfo) (z:Value) (bytes:Nat) (ht:P.underlying t=some (.slice T)) (hi:P.info? T=some i) (hz:i.zero=some z) (hsize:i.size=E.sz) (hby:i.bytes=bytes)
    (hzs:z.cells.size=E.sz) {x:Value} (ho:Own E T base w v ys) (hx:Sl E w x zs) (hM:(ys.length+zs.length)<=maxLen) (hb:(ys.length+zs.length)*bytes<=140737488355328) (hbase:base<=w.heap.size) :
    ∃v' w',(Builtin.append_ #[t,t] ty #[v,x]).run P w=.ok v' w'/\Own E T base w' v' (ys++zs)/\Fr (z0v v) w w'/\(v'=v\/z0v v'=z0v v\/z0v v'=[w.heap.size]):=by
  subst hby
  obtain ⟨A,c,rfl,hc1,hc2,hcells⟩:=hx.flat
  have grown:∀(old:Nat),
      Own E T base (w.drew.alloc (.cells ((ys.flatMap E.enc).toArray++(zs.flatMap E.enc).toArray++Builtin.zeroCells z.cells (grownCap w (ys.length+zs.length) old T-(ys.length+zs.length))) T))
        (.slice (some ⟨w.heap.size,0,none⟩) (ys.length+zs.length) (grownCap w (ys.length+zs.length) old T)) (ys++zs):=by
    intro old
    have hge:=grownCap_ge w (ys.length+zs.length) old T
    have hcm:=grownCap_le_maxLen w (ys.length+zs.length) old T hM
    refine .inr ⟨w.heap.size,_,_,by rw [List.length_append],hbase,heap_alloc_new w.drew _,by rw [List.length_append];exact hge,hcm,?_,?_⟩
    · simp only [Array.size_append,List.size_toArray,size_zeroCells,hzs,E.flat_len,<-Nat.add_mul]
      refine Nat.mul_le_mul_right _ ?_
      omega
    · rw [List.flatMap_append]
      simp only [Array.toList_append]
      rw [show (ys++zs).length*E.sz=(ys.flatMap E.enc++zs.flatMap E.enc).length by rw [@List.length_append _ (ys.flatMap E.enc) (zs.flatMap E.enc),E.flat_len,E.flat_len,List.length_append,Nat.add_mul]]
      exact List.take_left
  by_cases hzn:zs=[]
  · subst hzn
    rw [List.append_nil]
    refine ⟨v,w,?_,ho,Fr.refl _ _,.inl rfl⟩
    rcases ho with ⟨rfl,rfl⟩|⟨g,cap,cur,rfl,hbg,hg,hnc,hcm,hcs,htake⟩
    · cases A with
      | none=>exact z8t t ty T i ht hi _ _ _ _ (Nat.le_refl _) (by simp)
      | some a=>simp [Builtin.append_,run_underlying ht,sizeOf,typeInfo,hi,Builtin.lenOf,Builtin.firstCells,loadCells,loadCellsFrom]
    · cases A with
      | none=>exact z8t t ty T i ht hi _ _ _ _ hnc (by simp)
      | some a=>simp [Builtin.append_,run_underlying ht,sizeOf,typeInfo,hi,Builtin.lenOf,Builtin.firstCells,loadCells,loadCellsFrom,hnc,storeCells]
  · obtain ⟨ad,rfl,hcc⟩:=hcells hzn
    have hpos:0<zs.length:=List.length_pos_iff.2 hzn
    have hsm:ys.length+zs.length<=9223372036854775807:=by simp only [maxLen] at hM;omega
    rcases ho with ⟨rfl,rfl⟩|⟨g,cap,cur,rfl,hbg,hg,hnc,hcm,hcs,htake⟩
    · have hr:=run_append_nil (P:=P) w t ty T i z ht hi hz ad zs.length c (zs.flatMap E.enc) (by rw [E.flat_len,hsize]) hcc hpos (by simp at hsm;omega) (by have hb':=hb;simp only [List.length_nil,Nat.zero_add] at hb';omega)
      have hgr:=grown 0
      simp only [List.flatMap_nil,List.length_nil,Nat.zero_add,List.nil_append,Array.empty_append] at hgr ⊢
      exact ⟨_,_,hr,hgr,⟨rfl,rfl,rfl,by simp,λk hk _=>Below.heap_alloc w.drew _ k hk⟩,.inr (.inr rfl)⟩
    · have hold:Own E T base w (.slice (some ⟨g,0,none⟩) ys.length cap) ys:=.inr ⟨g,cap,cur,rfl,hbg,hg,hnc,hcm,hcs,htake⟩
      by_cases hroom:ys.length+zs.length<=cap
      · have hfit:ys.length*i.size+(zs.flatMap E.enc).length<=cur.size:=by
          rw [E.flat_len,hsize,<-Nat.add_mul]
          exact Nat.le_trans (Nat.mul_le_mul_right _ hroom) hcs
        have hr:=run_append_room (P:=P) w t ty T i ht hi g ys.length cap cur hg ad zs.length c (zs.flatMap E.enc) (by rw [E.flat_len,hsize]) hcc (E.flat_one zs) hroom hfit
        refine ⟨_,_,hr,.inr ⟨g,cap,_,by rw [List.length_append],hbg,setRow_heap w g cur _ T _ hg,by rw [List.length_append];exact hroom,hcm,?_,?_⟩,Fr.setRow w g _,.inr (.inl rfl)⟩
        · simp only [List.size_toArray,List.length_append,List.length_take,List.length_drop,Array.length_toList]
          omega
        · rw [hsize,htake,List.flatMap_append,List.length_append,Nat.add_mul]
          rw [show ys.length*E.sz+zs.length*E.sz=(ys.flatMap E.enc++zs.flatMap E.enc).length by rw [List.length_append,E.flat_len,E.flat_len]]
          exact List.take_left
      · have hflat:=hold.sl.flat
        have holds:∀j u,(ys.flatMap E.enc)[j]?=some u->w.cell? ((⟨g,0,none⟩:Addr).add j)=some u:=by
          intro j u hu
          by_cases hy:ys=[]
          · subst hy;simp at hu
          · obtain ⟨A',c',e,_,_,hh⟩:=hflat
            obtain ⟨ad',e',hc'⟩:=hh hy
            cases e;cases e'
            exact hc' j u hu
        have hr:=run_append_grow (P:=P) w t ty T i z ht hi hz ⟨g,0,none⟩ ys.length cap (ys.flatMap E.enc) (by rw [E.flat_len,hsize]) holds ad zs.length c (zs.flatMap E.enc) (by rw [E.flat_len,hsize]) hcc (by omega) (by omega) (growslice_fits (by omega) hb)
        exact ⟨_,_,hr,grown cap,⟨rfl,rfl,rfl,by simp,λk hk _=>Below.heap_alloc w.drew _ k hk⟩,.inr (.inr rfl)⟩
end
end Go.Lw
namespace Go.Lw
open Go.RowKit
def z2b (P:Program) (t:TypeId):Prop:=∀w:World,(isAgg t).run P w=.ok false w
def z3p (P:Program) (t:TypeId) (n:Nat):Prop:=(∀w:World,(isAgg t).run P w=.ok true w)/\∀w:World,(sizeOf t).run P w=.ok n w
def z1q (P:Program) (t:TypeId) (n:Nat):Prop:=∀w:World,(sizeOf t).run P w=.ok n w
def z0z (P:Program) (s f off:Nat):Prop:=∀(ad:Addr) (w:World),(Instr.fieldAt s (.pointer (some ad)) f).run P w=.ok (.pointer (some (ad.add off))) w
def CallOf (P:Program) (f:FuncId):Prop:=∀(args:Array Value) (w:World),(callFunc f args).run P w=.ok (.enter f args) w
structure ElemOf {α:Type} (P:Program) (t T:TypeId) (E:Enc α) (bytes:Nat):Prop where
  und:P.underlying t=some (.slice T)
  info:∃i z,P.info? T=some i/\i.zero=some z/\i.size=E.sz/\i.bytes=bytes/\z.cells.size=E.sz
theorem ElemOf.mk' {α:Type} {P:Program} {t T:TypeId} {E:Enc α} {bytes:Nat} {z:Value} (h1:P.underlying t=some (.slice T)) (h2:(P.info? T).map (λi=>(i.zero,i.size,i.bytes))=some (some z,E.sz,bytes)) (h3:z.cells.size=E.sz):ElemOf P t T E bytes:=
 ⟨h1,let ⟨i,a,b,c,d⟩:=info_parts h2;⟨i,z,a,b,c,d,h3⟩⟩
theorem CallOf.mk' {P:Program} {f:FuncId} {fn:Func} (hf:P.funcs[f]?=some fn) (hn:(fn.name == "runtime.NumGoroutine")=false) (hb:fn.body.isNone=false):CallOf P f:=
 λargs w=>by
  have h1:fn.name≠ "runtime.NumGoroutine" :=by simpa using hn
  have h2:fn.body≠none:=by intro e;rw [e] at hb;cases hb
  simp [callFunc,hf,h1,h2]
section
variable {P:Program} {a:Act} {n:Nat} {L:List (Nat×Value)} {ds:List Nat} {w w':World} {Q:Exit->Act->World->Prop} {ops:Array Oper} {rest:List Oper}
variable {d:Nat} {ty:TypeId} {pos:String} {after:Array Edge} {v u:Value} {x y z:Operand} {t t' T:TypeId} {k k':IntKind} {i j:Int} {b c:Bool} {l l':List UInt8}
theorem x5x (c:UInt8):0<=((c.toNat:Nat):Int)/\((c.toNat:Nat):Int)<=255:=by have:=c.toNat_lt;omega
theorem v6r {p:Nat} (h:AgM ds a n L) (hx:ev L x=some (S l)) (hy:ev L y=some (.int k i)) (hu:P.underlying t=some .string) (h0:0<=i) (h1:i<l.length) (hp:i.toNat=p) (hn:Nat.blt d n=true)
    (q:0<=((l.getD p 0).toNat:Int)/\((l.getD p 0).toNat:Int)<=255->∀a,AgM ds a n ((d,.int .u8 ((l.getD p 0).toNat:Int))::L)->wpList P ops Q rest a w):wpList P ops Q (⟨some d,.index t x y,ty,pos,after,none⟩::rest) a w:=
  z1u h rfl rfl hn (by
    have hs:(ByteArray.mk l.toArray).size=l.length:=by simp [ByteArray.size]
    have h1':i<((ByteArray.mk l.toArray).size:Nat):=by rw [hs];exact h1
    have hl:i.toNat<l.length:=by omega
    subst hp
    simp [execOp,h.eval hx,h.eval hy,S,run_index_string w t _ k i hu,h0,h1']
    simp [hl];rfl) (q (x5x _))
theorem u3j {p:Nat} (hx:ev L x=some (S l)) (hy:ev L y=some (.int k i)) (hu:P.underlying t=some .string) (h0:0<=i) (h1:i<l.length) (hp:i.toNat=p) (hn:Nat.blt d n=true) (q:0<=((l.getD p 0).toNat:Int)/\((l.getD p 0).toNat:Int)<=255->WL P ops Q rest n ds w ((d,.int .u8 ((l.getD p 0).toNat:Int))::L)):WL P ops Q (⟨some d,.index t x y,ty,pos,after,none⟩::rest) n ds w L:=λa h=>v6r h hx hy hu h0 h1 hp hn q -- short
theorem v8x (l:List UInt8) (lo hi:Nat):(ByteArray.mk l.toArray).extract lo hi=⟨((l.take hi).drop lo).toArray⟩:=by
 apply ByteArray.ext
 rw [ByteArray.data_extract]
 apply Array.ext'
 simp [List.drop_take]
theorem u2n {p:Nat} (h:AgM ds a n L) (hx:ev L x=some (S l)) (hy:ev L y=some (.int k i)) (hu:P.underlying t=some .string) (h0:0<=i) (h1:i<=l.length) (hp:i.toNat=p) (hn:Nat.blt d n=true)
    (q:∀a,AgM ds a n ((d,S (l.drop p))::L)->wpList P ops Q rest a w):wpList P ops Q (⟨some d,.slice t x (some y) none none,ty,pos,after,none⟩::rest) a w:=
  z1u h rfl rfl hn (by
    have hs:i<=((ByteArray.mk l.toArray).size:Nat):=by simpa [ByteArray.size] using h1
    subst hp
    have hr:=run_slice_string_l (P:=P) w t ⟨l.toArray⟩ hu k i h0 hs
    rw [v8x,List.take_of_length_le (by simp [ByteArray.size])] at hr
    simp [execOp,h.eval hx,h.eval hy,S,run_sliceAt_string w t _ _ _ _ hu,hr]) q
theorem u8i {p:Nat} (hx:ev L x=some (S l)) (hy:ev L y=some (.int k i)) (hu:P.underlying t=some .string) (h0:0<=i) (h1:i<=l.length) (hp:i.toNat=p) (hn:Nat.blt d n=true) (q:WL P ops Q rest n ds w ((d,S (l.drop p))::L)):WL P ops Q (⟨some d,.slice t x (some y) none none,ty,pos,after,none⟩::rest) n ds w L:=λa h=>u2n h hx hy hu h0 h1 hp hn q -- short
theorem u5m (h:AgM ds a n L) (hx:ev L x=some (S l)) (hy:ev L y=some (S l')) (hb:l.length+l'.length<=9223372036854775807) (hn:Nat.blt d n=true)
    (q:∀a,AgM ds a n ((d,S (l++l'))::L)->wpList P ops Q rest a w):wpList P ops Q (⟨some d,.binOp .add t x y t',ty,pos,after,none⟩::rest) a w:=
  z1u h rfl rfl hn (by
    have hr:=run_string_add_sum (P:=P) w ⟨l.toArray⟩ ⟨l'.toArray⟩ (by simpa [ByteArray.size] using hb)
    rw [ByteArray.mk_append_mk] at hr
    simp [execOp,h.eval hx,h.eval hy,S,eqGuard_add,binOp_string_add,hr]) q
theorem y5z (hx:ev L x=some (S l)) (hy:ev L y=some (S l')) (hb:l.length+l'.length<=9223372036854775807) (hn:Nat.blt d n=true) (q:WL P ops Q rest n ds w ((d,S (l++l'))::L)):WL P ops Q (⟨some d,.binOp .add t x y t',ty,pos,after,none⟩::rest) n ds w L:=λa h=>u5m h hx hy hb hn q -- short
theorem u8q (h:AgM ds a n L) (hx:ev L x=some (S l)) (hy:ev L y=some (S l')) (hn:Nat.blt d n=true)
    (q:∀a,AgM ds a n ((d,.bool (decide (l=l')))::L)->wpList P ops Q rest a w):wpList P ops Q (⟨some d,.binOp .eql t x y t',ty,pos,after,none⟩::rest) a w:=
  z1u h rfl rfl hn (by simp [execOp,h.eval hx,h.eval hy,S,eqGuard_at_string,binOp_string_eql];by_cases e:l=l'<;>simp [e]) q
theorem v8a (hx:ev L x=some (S l)) (hy:ev L y=some (S l')) (hn:Nat.blt d n=true) (q:WL P ops Q rest n ds w ((d,.bool (decide (l=l')))::L)):WL P ops Q (⟨some d,.binOp .eql t x y t',ty,pos,after,none⟩::rest) n ds w L:=λa h=>u8q h hx hy hn q -- short
theorem j0p (h:AgM ds a n L) (hx:ev L x=some (S l)) (hy:ev L y=some (S l')) (hn:Nat.blt d n=true)
    (q:∀a,AgM ds a n ((d,.bool (decide (l≠l')))::L)->wpList P ops Q rest a w):wpList P ops Q (⟨some d,.binOp .neq t x y t',ty,pos,after,none⟩::rest) a w:=
  z1u h rfl rfl hn (by simp [execOp,h.eval hx,h.eval hy,S,eqGuard_at_string,binOp_string_neq];by_cases e:l=l'<;>simp [e]) q
theorem u6a (hx:ev L x=some (S l)) (hy:ev L y=some (S l')) (hn:Nat.blt d n=true) (q:WL P ops Q rest n ds w ((d,.bool (decide (l≠l')))::L)):WL P ops Q (⟨some d,.binOp .neq t x y t',ty,pos,after,none⟩::rest) n ds w L:=λa h=>j0p h hx hy hn q -- short
variable {A:Option Addr} {m cp:Nat}
theorem u7h (h:AgM ds a n L) (hx:ev L x=some (.slice A m cp)) (hu:P.underlying t=some (.slice T)) (hn:Nat.blt d n=true) (q:∀a,AgM ds a n ((d,.int .i64 (m:Int))::L)->wpList P ops Q rest a w) :
    wpList P ops Q (⟨some d,.call ⟨.builtin .len,#[x],#[t]⟩,ty,pos,after,none⟩::rest) a w:=
  z1u h rfl rfl hn (by
    rw [z1v];unfold builtin
    simp [h.eval hx,Builtin.len_,run_underlying hu]
    rfl) q
theorem lnS (hx:ev L x=some (.slice A m cp)) (hu:P.underlying t=some (.slice T)) (q:WL P ops Q rest n ds w ((d,.int .i64 (m:Int))::L)) (hn:Nat.blt d n=true:=by exact rfl):WL P ops Q (⟨some d,.call ⟨.builtin .len,#[x],#[t]⟩,ty,pos,after,none⟩::rest) n ds w L:=λa h=>u7h h hx hu hn q -- short
theorem u6n (h:AgM ds a n L) (hx:ev L x=some (.slice A m cp)) (hu:P.underlying t=some (.slice T)) (hn:Nat.blt d n=true) (q:∀a,AgM ds a n ((d,.int .i64 (cp:Int))::L)->wpList P ops Q rest a w) :
    wpList P ops Q (⟨some d,.call ⟨.builtin .cap,#[x],#[t]⟩,ty,pos,after,none⟩::rest) a w:=
  z1u h rfl rfl hn (by
    rw [z1v];unfold builtin
    simp [h.eval hx,Builtin.cap_,run_underlying hu]
    rfl) q
theorem u9t (hx:ev L x=some (.slice A m cp)) (hu:P.underlying t=some (.slice T)) (hn:Nat.blt d n=true) (q:WL P ops Q rest n ds w ((d,.int .i64 (cp:Int))::L)):WL P ops Q (⟨some d,.call ⟨.builtin .cap,#[x],#[t]⟩,ty,pos,after,none⟩::rest) n ds w L:=λa h=>u6n h hx hu hn q -- short
theorem u7t {p:Nat} {α:Type} {E:Enc α} {bytes:Nat} (h:AgM ds a n L) (hx:ev L x=some (.slice A m cp)) (hz:ev L z=some (.int k' j)) (he:ElemOf P t T E bytes) (h0:0<=j) (h2:j<=cp) (hp:j.toNat=p) (hn:Nat.blt d n=true)
    (q:∀a,AgM ds a n ((d,.slice A p cp)::L)->wpList P ops Q rest a w):wpList P ops Q (⟨some d,.slice t x none (some z) none,ty,pos,after,none⟩::rest) a w:=by
  subst hp
  obtain ⟨inf,zv,hin,_,hsz,_⟩:=he.info
  exact z1u h rfl rfl hn (by
    have hA:Option.map (λx=>Addr.add x 0) A=A:=by cases A<;>simp [Addr.add]
    simp [execOp,h.eval hx,h.eval hz,Instr.sliceAt,Instr.slice,run_underlying he.und,Instr.sliceBounds,Instr.sliceBound,asIntOf,h0,h2,sizeOf,typeInfo,hin,hA]) q
theorem j0t {p:Nat} {α:Type} {E:Enc α} {bytes:Nat} (hx:ev L x=some (.slice A m cp)) (hz:ev L z=some (.int k' j)) (he:ElemOf P t T E bytes) (h0:0<=j) (h2:j<=cp) (hp:j.toNat=p) (hn:Nat.blt d n=true) (q:WL P ops Q rest n ds w ((d,.slice A p cp)::L)):WL P ops Q (⟨some d,.slice t x none (some z) none,ty,pos,after,none⟩::rest) n ds w L:=λa h=>u7t h hx hz he h0 h2 hp hn q -- short
theorem v9b {p p':Nat} {α:Type} {E:Enc α} {bytes:Nat} {o:Operand} {k'':IntKind} {r:Int} (h:AgM ds a n L) (hx:ev L x=some (.slice A m cp)) (hz:ev L z=some (.int k' j)) (ho:ev L o=some (.int k'' r)) (he:ElemOf P t T E bytes) (h0:0<=j) (h1:j<=r) (h2:r<=cp) (hp:j.toNat=p) (hp':r.toNat=p') (hn:Nat.blt d n=true)
    (q:∀a,AgM ds a n ((d,.slice A p p')::L)->wpList P ops Q rest a w):wpList P ops Q (⟨some d,.slice t x none (some z) (some o),ty,pos,after,none⟩::rest) a w:=by
  subst hp hp'
  obtain ⟨inf,zv,hin,_,hsz,_⟩:=he.info
  exact z1u h rfl rfl hn (by
    have h3:0<=r:=by omega
    have h4:j<=((r.toNat:Nat):Int):=by omega
    have hA:Option.map (λx=>Addr.add x 0) A=A:=by cases A<;>simp [Addr.add]
    simp [execOp,h.eval hx,h.eval hz,h.eval ho,Instr.sliceAt,Instr.slice,run_underlying he.und,Instr.sliceBounds,Instr.sliceBound,asIntOf,h0,h2,h3,h4,sizeOf,typeInfo,hin,hA]
    intro hc;omega) q
theorem u4s {p p':Nat} {α:Type} {E:Enc α} {bytes:Nat} {o:Operand} {k'':IntKind} {r:Int} (hx:ev L x=some (.slice A m cp)) (hz:ev L z=some (.int k' j)) (ho:ev L o=some (.int k'' r)) (he:ElemOf P t T E bytes) (h0:0<=j) (h1:j<=r) (h2:r<=cp) (hp:j.toNat=p) (hp':r.toNat=p') (hn:Nat.blt d n=true) (q:WL P ops Q rest n ds w ((d,.slice A p p')::L)):WL P ops Q (⟨some d,.slice t x none (some z) (some o),ty,pos,after,none⟩::rest) n ds w L:=λa h=>v9b h hx hz ho he h0 h1 h2 hp hp' hn q -- short
def Blk (w:World) (g:Nat) (T:TypeId) (cs:List Value):Prop:=w.heap[g]?=some (.cells cs.toArray T (0,0))
theorem Blk.lt {g:Nat} {cs:List Value} (h:Blk w g T cs):g<w.heap.size:=(Array.getElem?_eq_some_iff.1 h).1
theorem Blk.cell {g:Nat} {cs:List Value} (h:Blk w g T cs) (o:Nat):w.cell? ⟨g,o,none⟩=cs[o]?:=by
 rw [cell_of_row w g o cs.toArray T (0,0) h];simp
theorem Blk.cells {g:Nat} {cs:List Value} (h:Blk w g T cs):Cells w ⟨g,0,none⟩ cs:=λj u hu=>by rw [z3l,Nat.zero_add,h.cell];exact hu
theorem Blk.fr {g:Nat} {cs:List Value} {S:List Nat} (h:Blk w g T cs) (hf:Fr S w w') (hn:g∉S:=by simp[z0v]<;>omega):Blk w' g T cs:=(hf.block g h.lt hn).trans h
theorem Blk.ext {g:Nat} {cs:List Value} (h:Blk w g T cs) (hf:Fr [] w w'):Blk w' g T cs:=h.fr hf (by simp)
theorem y7d {ad:Addr} (h:AgM ds a n L) (hx:ev L x=some (.pointer (some ad))) (hc:w.cell? ad=some v) (hg:z2b P t) (hn:Nat.blt d n=true) (q:∀a,AgM ds a n ((d,v)::L)->wpList P ops Q rest a w) :
    wpList P ops Q (⟨some d,.load t x,ty,pos,after,none⟩::rest) a w:=
  z1u h rfl rfl hn (by simp [execOp,h.eval hx,Instr.loadAt,Instr.sureAddr,loadVar,hg w,hc]) q
theorem z1p {ad:Addr} {cs:List Value} (h:AgM ds a n L) (hx:ev L x=some (.pointer (some ad))) (hc:Cells w ad cs) (hg:z3p P t cs.length) (hn:Nat.blt d n=true) (q:∀a,AgM ds a n ((d,.agg cs.toArray)::L)->wpList P ops Q rest a w) :
    wpList P ops Q (⟨some d,.load t x,ty,pos,after,none⟩::rest) a w:=
  z1u h rfl rfl hn (by simp [execOp,h.eval hx,Instr.loadAt,Instr.sureAddr,loadVar,hg.1 w,hg.2 w,run_loadCells_list w ad cs hc]) q
theorem z1j {ad:Addr} {cs:List Value} (hx:ev L x=some (.pointer (some ad))) (hc:Cells w ad cs) (hg:z3p P t cs.length) (q:WL P ops Q rest n ds w ((d,.agg cs.toArray)::L)) (hn:Nat.blt d n=true:=by exact rfl):WL P ops Q (⟨some d,.load t x,ty,pos,after,none⟩::rest) n ds w L:=λa h=>z1p h hx hc hg hn q -- short
theorem y2e {ad:Addr} {f off:Nat} (h:AgM ds a n L) (hx:ev L x=some (.pointer (some ad))) (hf:z0z P t f off) (hn:Nat.blt d n=true) (q:∀a,AgM ds a n ((d,.pointer (some (ad.add off)))::L)->wpList P ops Q rest a w) :
    wpList P ops Q (⟨some d,.fieldAddr t x f,ty,pos,after,none⟩::rest) a w:=
  z1u h rfl rfl hn (by simp [execOp,h.eval hx,hf ad w]) q
theorem fad {ad:Addr} {f off:Nat} (hx:ev L x=some (.pointer (some ad))) (hf:z0z P t f off) (q:WL P ops Q rest n ds w ((d,.pointer (some (ad.add off)))::L)) (hn:Nat.blt d n=true:=by exact rfl):WL P ops Q (⟨some d,.fieldAddr t x f,ty,pos,after,none⟩::rest) n ds w L:=λa h=>y2e h hx hf hn q -- short
theorem x3q {ad:Addr} (h:AgM ds a n L) (hx:ev L x=some (.pointer (some ad))) (hn:Nat.blt d n=true) (q:∀a,AgM ds a n ((d,.pointer (some ad))::L)->wpList P ops Q rest a w) :
    wpList P ops Q (⟨some d,.nilCheck x,ty,pos,after,none⟩::rest) a w:=
  z1u h rfl rfl hn (by simp [execOp,h.eval hx]) q
theorem nlc {ad:Addr} (hx:ev L x=some (.pointer (some ad))) (q:WL P ops Q rest n ds w ((d,.pointer (some ad))::L)) (hn:Nat.blt d n=true:=by exact rfl):WL P ops Q (⟨some d,.nilCheck x,ty,pos,after,none⟩::rest) n ds w L:=λa h=>x3q h hx hn q -- short
theorem x5r {g o:Nat} {cs:List Value} (h:AgM ds a n L) (hx:ev L x=some (.pointer (some ⟨g,o,none⟩))) (hy:ev L y=some v) (hb:Blk w g T cs) (ho:Nat.blt o cs.length=true) (h1:v.oneCell'=true) (hc:v.cells=#[v]) (hs:z1q P t 1)
    (q:∀w',Blk w' g T (cs.set o v)->Fr [g] w w'->w'.heap.size=w.heap.size->∀a,AgM ds a n L->wpList P ops Q rest a w'):wpList P ops Q (⟨none,.store t x y,ty,pos,after,none⟩::rest) a w:=by
  have ho':o<cs.length:=by simpa [Nat.blt_eq] using ho
  have hcell:w.cell? ⟨g,o,none⟩=some cs[o]:=by rw [hb.cell,List.getElem?_eq_getElem ho']
  have hfz:w.frozen? ⟨g,o,none⟩=false:=frozen_of_row w g o cs.toArray T hb
  refine z8i h rfl rfl (w':=w.setCell ⟨g,o,none⟩ v) ?_ (q _ ?_ (Fr.setCell w ⟨g,o,none⟩ v) (by simp))
  · simp [execOp,h.eval hx,h.eval hy,Instr.storeAt,Instr.sureAddr,storeVar,hs w,hc,storeCells,Addr.add_zero',run_store P w _ v _ h1,hcell,hfz]
  · unfold Blk
    rw [heap_setCell_same w g o cs.toArray T v hb]
    simp
theorem y3k {cs:List Value} (h:AgM ds a n L) (hx:ev L x=some v) (hc:v.cells=cs.toArray) (hn:Nat.blt d n=true)
    (q:∀w',Blk w' w.heap.size T cs->Fr [] w w'->w'.heap.size=w.heap.size+1->∀a,AgM ds a n ((d,.pointer (some ⟨w.heap.size,0,none⟩))::L)->wpList P ops Q rest a w') :
    wpList P ops Q (⟨some d,.box T x,ty,pos,after,none⟩::rest) a w:=
  z1u h rfl rfl hn (w':=w.alloc (.cells cs.toArray T)) (by simp [execOp,h.eval hx,Instr.box,newVar,newRow,hc]) (q _ (heap_alloc_new w _) (Fr.alloc [] w _) (by simp))
theorem j4p {cs:List Value} (hx:ev L x=some v) (hc:v.cells=cs.toArray) (hn:Nat.blt d n=true) (q:∀w',Blk w' w.heap.size T cs->Fr [] w w'->w'.heap.size=w.heap.size+1->WL P ops Q rest n ds w' ((d,.pointer (some ⟨w.heap.size,0,none⟩))::L)):WL P ops Q (⟨some d,.box T x,ty,pos,after,none⟩::rest) n ds w L:=λa h=>y3k h hx hc hn q -- short
theorem z1d {cs:List Value} (h:AgM ds a n L) (hz:∀w:World,(zeroValue T).run P w=.ok v w) (hc:v.cells=cs.toArray) (q:∀w',Blk w' w.heap.size T cs->Fr [] w w'->w'.heap.size=w.heap.size+1->∀a,AgM ds a n ((d,.pointer (some ⟨w.heap.size,0,none⟩))::L)->wpList P ops Q rest a w') (hn:Nat.blt d n=true:=by exact rfl) :
    wpList P ops Q (⟨some d,.alloc T,ty,pos,after,none⟩::rest) a w:=
  z1u h rfl rfl hn (w':=w.alloc (.cells cs.toArray T)) (by simp [execOp,Instr.alloc,hz w,newVar,newRow,hc]) (q _ (heap_alloc_new w _) (Fr.alloc [] w _) (by simp))
theorem u4p {cs:List Value} (hz:∀w:World,(zeroValue T).run P w=.ok v w) (hc:v.cells=cs.toArray) (hn:Nat.blt d n=true) (q:∀w',Blk w' w.heap.size T cs->Fr [] w w'->w'.heap.size=w.heap.size+1->WL P ops Q rest n ds w' ((d,.pointer (some ⟨w.heap.size,0,none⟩))::L)):WL P ops Q (⟨some d,.alloc T,ty,pos,after,none⟩::rest) n ds w L:=λa h=>z1d h hz hc q (hn:=hn) -- short
theorem x8c {vs:Array Value} {m:Nat} (h:AgM ds a n L) (hx:ev L x=some (.tuple vs)) (hm:vs[m]?=some v) (hn:Nat.blt d n=true) (q:∀a,AgM ds a n ((d,v)::L)->wpList P ops Q rest a w) :
    wpList P ops Q (⟨some d,.extract x m,ty,pos,after,none⟩::rest) a w:=
  z1u h rfl rfl hn (by simp [execOp,h.eval hx,Instr.extract,hm]) q
theorem xt {vs:Array Value} {m:Nat} (hx:ev L x=some (.tuple vs)) (hm:vs[m]?=some v) (q:WL P ops Q rest n ds w ((d,v)::L)) (hn:Nat.blt d n=true:=by exact rfl):WL P ops Q (⟨some d,.extract x m,ty,pos,after,none⟩::rest) n ds w L:=λa h=>x8c h hx hm hn q -- short
theorem x6r {f:Nat} (h:AgM ds a n L) (hx:ev L x=some v) (hr:∀w:World,(Instr.field t v f).run P w=.ok u w) (hn:Nat.blt d n=true) (q:∀a,AgM ds a n ((d,u)::L)->wpList P ops Q rest a w) :
    wpList P ops Q (⟨some d,.field t x f,ty,pos,after,none⟩::rest) a w:=
  z1u h rfl rfl hn (by simp [execOp,h.eval hx,hr w]) q
theorem z0m {f:FuncId} {xs:List Operand} {vs:List Value} {ts:Array TypeId} {Φ:Value->World->Prop} (h:AgM ds a n L) (hx:evs L xs vs) (hf:CallOf P f) (hc:Rets P f vs.toArray w Φ) (q:∀v w',Φ v w'->∀a,AgM ds a n ((d,v)::L)->wpList P ops Q rest a w') (hn:Nat.blt d n=true:=by exact rfl):wpList P ops Q (⟨some d,.call ⟨.value (.func f),xs.toArray,ts⟩,ty,pos,after,none⟩::rest) a w:=
  x5c (w':=w) h rfl rfl hn (by
    rw [execOp_call_go]
    simp only [List.map_toArray,h.evals hx,List.append_toArray,List.nil_append,List.append_nil]
    exact hf _ _) hc q
theorem cl {f:FuncId} {xs:List Operand} {vs:List Value} {ts:Array TypeId} {Φ:Value->World->Prop} (hx:evs L xs vs) (hf:CallOf P f) (hc:Rets P f vs.toArray w Φ) (hn:Nat.blt d n=true) (q:∀v w',Φ v w'->WL P ops Q rest n ds w' ((d,v)::L)):WL P ops Q (⟨some d,.call ⟨.value (.func f),xs.toArray,ts⟩,ty,pos,after,none⟩::rest) n ds w L:=λa h=>z0m h hx hf hc q (hn:=hn) -- short
theorem z7b {α:Type} {E:Enc α} {ys zs:List α} {bytes base:Nat} (h:AgM ds a n L) (hx:ev L x=some u) (hy:ev L y=some v) (ho:Own E T base w u ys) (hs:Sl E w v zs) (he:ElemOf P t T E bytes) (hn:Nat.blt d n=true) (q:∀v' w',Own E T base w' v' (ys++zs)->Fr (z0v u) w w'->(v'=u\/z0v v'=z0v u\/z0v v'=[w.heap.size])->∀a,AgM ds a n ((d,v')::L)->wpList P ops Q rest a w') (hM:ys.length+zs.length<=maxLen:=by unfold maxLen;simp only [List.length_cons,List.length_nil];omega) (hb:(ys.length+zs.length)*bytes<=140737488355328:=by simp only [List.length_cons,List.length_nil];omega) (hbase:base<=w.heap.size:=by omega) :
    wpList P ops Q (⟨some d,.call ⟨.builtin .append,#[x,y],#[t,t]⟩,ty,pos,after,none⟩::rest) a w:=by
  obtain ⟨inf,zv,h1,h2,h3,h4,h5⟩:=he.info
  obtain ⟨v',w',hr,r1,r2,r3⟩:=x8p (P:=P) t ty inf zv bytes he.und h1 h2 h3 h4 h5 ho hs hM hb hbase
  refine z1u h rfl rfl hn (w':=w') ?_ (q v' w' r1 r2 r3)
  rw [z1v];unfold builtin
  simp only [List.map_toArray,List.map_cons,List.map_nil,h.eval hx,h.eval hy,Sem.run_bind,hr,Result.andThen_ok,Sem.run_pure]
theorem z1x {α:Type} {E:Enc α} {ys zs:List α} {bytes base:Nat} (hx:ev L x=some u) (hy:ev L y=some v) (ho:Own E T base w u ys) (hs:Sl E w v zs) (he:ElemOf P t T E bytes) (hM:ys.length+zs.length<=maxLen) (hb:(ys.length+zs.length)*bytes<=140737488355328) (q:∀v' w',Own E T base w' v' (ys++zs)->Fr (z0v u) w w'->(v'=u\/z0v v'=z0v u\/z0v v'=[w.heap.size])->WL P ops Q rest n ds w' ((d,v')::L)) (hbase:base<=w.heap.size:=by omega) (hn:Nat.blt d n=true:=by exact rfl):WL P ops Q (⟨some d,.call ⟨.builtin .append,#[x,y],#[t,t]⟩,ty,pos,after,none⟩::rest) n ds w L:=λa h=>z7b h hx hy ho hs he hn q (hM:=hM) (hb:=hb) (hbase:=hbase) -- short
theorem Sub.nil:Sub [] L:=trivial
theorem Sub.cons {t:Nat} {v:Value} {r:List (Nat×Value)} (h:Lw.look L t=some v) (hr:Sub r L):Sub ((t,v)::r) L:=⟨h,hr⟩
theorem argsOk.nil {args:Array Value}:argsOk args []:=trivial
theorem argsOk.cons {args:Array Value} {t:Nat} {v:Value} {r:List (Nat×Value)} (h:args[t]?=some v) (hr:argsOk args r):argsOk args ((t,v)::r):=⟨h,hr⟩
theorem z0g:evs L [] []:=trivial
theorem z0a {xs:List Operand} {vs:List Value} (h:ev L x=some v) (hr:evs L xs vs):evs L (x::xs) (v::vs):=⟨h,hr⟩
theorem z3s {K:Act->World->Prop} (h:K a w):Exit.then K Q .normal a w:=h
theorem AgM.known {D:Nat} {b b':Bool} (h:AgM ds a n L) (hb:look L D=some (.bool b)) (e:b=b'):AgM ds a n ((D,.bool b')::L):=
 ⟨h.dfr,h.size,λt v hv=>by
  simp only [look] at hv
  by_cases et:D=t
  ·subst et
   simp only [Nat.beq_refl,Bool.cond_true,Option.some.injEq] at hv
   rw [<-hv,<-e];exact h.at_ D _ hb
  rw [y5r et] at hv;exact h.at_ t v hv⟩
theorem x0h {D:Nat} {b:Bool} {G:Prop} (h:AgM ds a n L) (hb:look L D=some (.bool b)) (ht:b=true->AgM ds a n ((D,.bool true)::L)->G) (hf:b=false->AgM ds a n ((D,.bool false)::L)->G):G:=by
 cases b
 ·exact hf rfl (h.known hb rfl)
 exact ht rfl (h.known hb rfl)
def y6v (ds:List Nat) (n r:Nat) (C:Prop) [Decidable C] (L':List (Nat×Value)) (w0:World):Exit->Act->World->Prop:=λe a w=>e=.normal/\w=w0/\AgM ds a n ((r,.bool (decide C))::L')
theorem x3a {id:Nat} {ol:List Oper} {r:Nat} {L':List (Nat×Value)} (C:Prop) [Decidable C] (h:AgM ds a n L) (hs:Sub L' L) (h1:wpList P ol.toArray (y6v ds n r C L' w) ol a w) (h2:∀a,AgM ds a n ((r,.bool (decide C))::L')->Q .normal a w) :
    (Code.region id ol.toArray false).wp P Q a w:=
  wp_mono (wp_region_lit h1) (by rintro e a w ⟨rfl,rfl,h⟩;exact h2 a h)
theorem x6u {r:Nat} {L':List (Nat×Value)} {C:Prop} [Decidable C] {b:Bool} (h:AgM ds a n L) (hr:look L r=some (.bool b)) (hb:b=decide C) (hs:Sub L' L):y6v ds n r C L' w .normal a w:=
 ⟨rfl,rfl,h.sub ⟨by rw [<-hb];exact hr,hs⟩⟩
theorem bt {C:Prop} {hC:Decidable C} (h:C):true=decide C:=(decide_eq_true h).symm
theorem bf {C:Prop} {hC:Decidable C} (h:¬C):false=decide C:=(decide_eq_false h).symm
theorem bi {p C:Prop} {hp:Decidable p} {hC:Decidable C} (h:p↔C):decide p=decide C:=decide_eq_decide.2 h
theorem bb {C:Prop} {hC:Decidable C} {b:Bool} (h:b=true↔C):b=decide C:=by
 cases b
 ·exact bf (λc=>by have:=h.2 c;cases this)
 exact bt (h.1 rfl)
theorem bn {p C:Prop} {hp:Decidable p} {hC:Decidable C} (h:¬p↔C):(!decide p)=decide C:=by
 by_cases e:p<;>simp [e] at h ⊢<;>exact h
end
end Go.Lw
namespace Go.Lw
abbrev Lk (L:List (Nat×Value)) (t:Nat) (v:Value):Prop:=Lw.look L t=some v
section
variable {L r:List (Nat×Value)} {A:Array Value} {t0:Nat} {v0:Value} {t1:Nat} {v1:Value} {t2:Nat} {v2:Value} {t3:Nat} {v3:Value} {t4:Nat} {v4:Value} {t5:Nat} {v5:Value} {t6:Nat} {v6:Value} {t7:Nat} {v7:Value} {S S1 S2 S3 S4 S5 S6:List Nat} {a w0 w1 w2 w3 w4 w5 w6:World}
theorem argsOk.c2 (h0:A[t0]?=some v0) (h1:A[t1]?=some v1):argsOk A [(t0,v0),(t1,v1)]:=⟨h0,h1,trivial⟩
theorem Sub.c2 (h0:Lk L t0 v0) (h1:Lk L t1 v1):Sub [(t0,v0),(t1,v1)] L:=⟨h0,h1,trivial⟩
theorem argsOk.c3 (h0:A[t0]?=some v0) (h1:A[t1]?=some v1) (h2:A[t2]?=some v2):argsOk A [(t0,v0),(t1,v1),(t2,v2)]:=⟨h0,h1,h2,trivial⟩
theorem Sub.c3 (h0:Lk L t0 v0) (h1:Lk L t1 v1) (h2:Lk L t2 v2):Sub [(t0,v0),(t1,v1),(t2,v2)] L:=⟨h0,h1,h2,trivial⟩
theorem argsOk.c4 (h0:A[t0]?=some v0) (h1:A[t1]?=some v1) (h2:A[t2]?=some v2) (h3:A[t3]?=some v3):argsOk A [(t0,v0),(t1,v1),(t2,v2),(t3,v3)]:=⟨h0,h1,h2,h3,trivial⟩
theorem Sub.c4 (h0:Lk L t0 v0) (h1:Lk L t1 v1) (h2:Lk L t2 v2) (h3:Lk L t3 v3):Sub [(t0,v0),(t1,v1),(t2,v2),(t3,v3)] L:=⟨h0,h1,h2,h3,trivial⟩
theorem argsOk.c5 (h0:A[t0]?=some v0) (h1:A[t1]?=some v1) (h2:A[t2]?=some v2) (h3:A[t3]?=some v3) (h4:A[t4]?=some v4):argsOk A [(t0,v0),(t1,v1),(t2,v2),(t3,v3),(t4,v4)]:=⟨h0,h1,h2,h3,h4,trivial⟩
theorem Sub.c5 (h0:Lk L t0 v0) (h1:Lk L t1 v1) (h2:Lk L t2 v2) (h3:Lk L t3 v3) (h4:Lk L t4 v4):Sub [(t0,v0),(t1,v1),(t2,v2),(t3,v3),(t4,v4)] L:=⟨h0,h1,h2,h3,h4,trivial⟩
theorem argsOk.c6 (h0:A[t0]?=some v0) (h1:A[t1]?=some v1) (h2:A[t2]?=some v2) (h3:A[t3]?=some v3) (h4:A[t4]?=some v4) (h5:A[t5]?=some v5):argsOk A [(t0,v0),(t1,v1),(t2,v2),(t3,v3),(t4,v4),(t5,v5)]:=⟨h0,h1,h2,h3,h4,h5,trivial⟩
theorem Sub.c6 (h0:Lk L t0 v0) (h1:Lk L t1 v1) (h2:Lk L t2 v2) (h3:Lk L t3 v3) (h4:Lk L t4 v4) (h5:Lk L t5 v5):Sub [(t0,v0),(t1,v1),(t2,v2),(t3,v3),(t4,v4),(t5,v5)] L:=⟨h0,h1,h2,h3,h4,h5,trivial⟩
theorem Sub.c7 (h0:Lk L t0 v0) (h1:Lk L t1 v1) (h2:Lk L t2 v2) (h3:Lk L t3 v3) (h4:Lk L t4 v4) (h5:Lk L t5 v5) (h6:Lk L t6 v6):Sub [(t0,v0),(t1,v1),(t2,v2),(t3,v3),(t4,v4),(t5,v5),(t6,v6)] L:=⟨h0,h1,h2,h3,h4,h5,h6,trivial⟩
theorem Sub.c8 (h0:Lk L t0 v0) (h1:Lk L t1 v1) (h2:Lk L t2 v2) (h3:Lk L t3 v3) (h4:Lk L t4 v4) (h5:Lk L t5 v5) (h6:Lk L t6 v6) (h7:Lk L t7 v7):Sub [(t0,v0),(t1,v1),(t2,v2),(t3,v3),(t4,v4),(t5,v5),(t6,v6),(t7,v7)] L:=⟨h0,h1,h2,h3,h4,h5,h6,h7,trivial⟩
theorem Sub.d8 (h0:Lk L t0 v0) (h1:Lk L t1 v1) (h2:Lk L t2 v2) (h3:Lk L t3 v3) (h4:Lk L t4 v4) (h5:Lk L t5 v5) (h6:Lk L t6 v6) (h7:Lk L t7 v7) (hr:Sub r L):Sub ((t0,v0)::(t1,v1)::(t2,v2)::(t3,v3)::(t4,v4)::(t5,v5)::(t6,v6)::(t7,v7)::r) L:=⟨h0,h1,h2,h3,h4,h5,h6,h7,hr⟩
theorem Fr.n1 (h:Fr S a w0) (q1:Fr [] w0 w1):Fr S a w1:=(h.next q1)
theorem Fr.z1 (h:Fr S a w0) (q1:Fr S1 w0 w1) (h1:∀k∈S1,k<a.heap.size->k∈S:=by simp<;>omega):Fr S a w1:=(h.step q1 h1)
theorem Fr.n2 (h:Fr S a w0) (q1:Fr [] w0 w1) (q2:Fr [] w1 w2):Fr S a w2:=((h.next q1).next q2)
theorem Fr.z2 (h:Fr S a w0) (q1:Fr S1 w0 w1) (q2:Fr S2 w1 w2) (h1:∀k∈S1,k<a.heap.size->k∈S:=by simp<;>omega) (h2:∀k∈S2,k<a.heap.size->k∈S:=by simp<;>omega):Fr S a w2:=((h.step q1 h1).step q2 h2)
theorem Fr.n3 (h:Fr S a w0) (q1:Fr [] w0 w1) (q2:Fr [] w1 w2) (q3:Fr [] w2 w3):Fr S a w3:=(((h.next q1).next q2).next q3)
theorem Fr.z3 (h:Fr S a w0) (q1:Fr S1 w0 w1) (q2:Fr S2 w1 w2) (q3:Fr S3 w2 w3) (h1:∀k∈S1,k<a.heap.size->k∈S:=by simp<;>omega) (h2:∀k∈S2,k<a.heap.size->k∈S:=by simp<;>omega) (h3:∀k∈S3,k<a.heap.size->k∈S:=by simp<;>omega):Fr S a w3:=(((h.step q1 h1).step q2 h2).step q3 h3)
theorem Fr.n4 (h:Fr S a w0) (q1:Fr [] w0 w1) (q2:Fr [] w1 w2) (q3:Fr [] w2 w3) (q4:Fr [] w3 w4):Fr S a w4:=((((h.next q1).next q2).next q3).next q4)
theorem Fr.z4 (h:Fr S a w0) (q1:Fr S1 w0 w1) (q2:Fr S2 w1 w2) (q3:Fr S3 w2 w3) (q4:Fr S4 w3 w4) (h1:∀k∈S1,k<a.heap.size->k∈S:=by simp<;>omega) (h2:∀k∈S2,k<a.heap.size->k∈S:=by simp<;>omega) (h3:∀k∈S3,k<a.heap.size->k∈S:=by simp<;>omega) (h4:∀k∈S4,k<a.heap.size->k∈S:=by simp<;>omega):Fr S a w4:=((((h.step q1 h1).step q2 h2).step q3 h3).step q4 h4)
theorem Fr.n5 (h:Fr S a w0) (q1:Fr [] w0 w1) (q2:Fr [] w1 w2) (q3:Fr [] w2 w3) (q4:Fr [] w3 w4) (q5:Fr [] w4 w5):Fr S a w5:=(((((h.next q1).next q2).next q3).next q4).next q5)
theorem Fr.z5 (h:Fr S a w0) (q1:Fr S1 w0 w1) (q2:Fr S2 w1 w2) (q3:Fr S3 w2 w3) (q4:Fr S4 w3 w4) (q5:Fr S5 w4 w5) (h1:∀k∈S1,k<a.heap.size->k∈S:=by simp<;>omega) (h2:∀k∈S2,k<a.heap.size->k∈S:=by simp<;>omega) (h3:∀k∈S3,k<a.heap.size->k∈S:=by simp<;>omega) (h4:∀k∈S4,k<a.heap.size->k∈S:=by simp<;>omega) (h5:∀k∈S5,k<a.heap.size->k∈S:=by simp<;>omega):Fr S a w5:=(((((h.step q1 h1).step q2 h2).step q3 h3).step q4 h4).step q5 h5)
theorem Fr.n6 (h:Fr S a w0) (q1:Fr [] w0 w1) (q2:Fr [] w1 w2) (q3:Fr [] w2 w3) (q4:Fr [] w3 w4) (q5:Fr [] w4 w5) (q6:Fr [] w5 w6):Fr S a w6:=((((((h.next q1).next q2).next q3).next q4).next q5).next q6)
theorem Fr.z6 (h:Fr S a w0) (q1:Fr S1 w0 w1) (q2:Fr S2 w1 w2) (q3:Fr S3 w2 w3) (q4:Fr S4 w3 w4) (q5:Fr S5 w4 w5) (q6:Fr S6 w5 w6) (h1:∀k∈S1,k<a.heap.size->k∈S:=by simp<;>omega) (h2:∀k∈S2,k<a.heap.size->k∈S:=by simp<;>omega) (h3:∀k∈S3,k<a.heap.size->k∈S:=by simp<;>omega) (h4:∀k∈S4,k<a.heap.size->k∈S:=by simp<;>omega) (h5:∀k∈S5,k<a.heap.size->k∈S:=by simp<;>omega) (h6:∀k∈S6,k<a.heap.size->k∈S:=by simp<;>omega):Fr S a w6:=((((((h.step q1 h1).step q2 h2).step q3 h3).step q4 h4).step q5 h5).step q6 h6)
end
theorem z9e {α:Type} {E:Enc α} {T base g:Nat} {w:World} {v:Value} {ys:List α} (h:Own E T base w v ys) (hg:g<base\/w.heap.size<=g):∀k∈[g],k∉z0v v:=λk hk hb=>by rw [List.mem_singleton] at hk;have:=h.blk k hb;omega
theorem mkC {P:Program} {f:FuncId} {fn:Func} (hf:P.funcs[f]?=some fn) (hn:(fn.name == "runtime.NumGoroutine")=false:=by kernel_rfl) (hb:fn.body.isNone=false:=by kernel_rfl):CallOf P f:=CallOf.mk' hf hn hb
theorem Fr.sp {S S':List Nat} {a b c:World} (h:Fr S a b) (h':Fr S' b c) (hS:∀k∈S',k<a.heap.size->k∈S:=by simp<;>omega):Fr S a c:=h.step h' hS
theorem i6 {z:Int} (h:-9223372036854775808<=z/\z<=9223372036854775807):IntKind.i64.wrap z=z:=IntWalk.i64_in z (by omega)
section
variable {P:Program} {a:Act} {n:Nat} {L:List (Nat×Value)} {ds:List Nat} {w:World} {Q:Exit->Act->World->Prop} {ops:Array Oper} {rest l:List Oper} {o:Oper}
theorem tW (h:AgM ds a n L) (k:WL P ops Q l n ds w L):wpList P ops Q l a w:=k a h
theorem kL (L':List (Nat×Value)) (hs:Sub L' L) (k:WL P ops Q l n ds w L'):WL P ops Q l n ds w L:=λa h=>k a (h.sub hs)
def j4x (ops:Array Oper) (o:Oper) (n:Nat) (L:List (Nat×Value)):Option (Value×Bool):=
 match o.guard with
 | none=>none
 | some (j,want)=>
  match ops[j]? with
  | none=>none
  | some oj=>
   match oj.dst with
   | none=>none
   | some dj=>bif Nat.blt dj n then (look L dj).map (λv=>(v,want)) else none
theorem v5d {v:Value} {want:Bool} (h:j4x ops o n L=some (v,want)):∃j dj oj,o.guard=some (j,want)/\ops[j]?=some oj/\oj.dst=some dj/\Nat.blt dj n=true/\look L dj=some v:=by
 unfold j4x at h
 split at h
 · cases h
 · rename_i j want' hg
   split at h
   · cases h
   · rename_i oj hj
     split at h
     · cases h
     · rename_i dj hd
       cases hb:Nat.blt dj n with
       | false=>rw [hb] at h;cases h
       | true=>
         rw [hb] at h
         cases hl:look L dj with
         | none=>rw [hl] at h;cases h
         | some u=>rw [hl] at h;cases h;exact ⟨j,dj,oj,hg,hj,hd,hb,hl⟩
theorem kY {b:Bool} (hg:j4x ops o n L=some (.bool b,b)) (k:WL P ops Q ({ o with guard:=none }::rest) n ds w L):WL P ops Q (o::rest) n ds w L:=by
 obtain ⟨j,dj,oj,h1,h2,h3,h4,h5⟩:=v5d hg
 exact λa h=>y3n h h1 h2 h3 h4 h5 (by cases b<;>rfl) (k a h)
class Sy (b:Bool) (p q:outParam Prop):Prop where
 t:b=true->p
 f:b=false->q
instance (priority:=100) sy_b (b:Bool):Sy b (b=true) (b=false):=⟨id,id⟩
instance (priority:=1000) sy_d (p:Prop) {hp:Decidable p}:Sy (@decide p hp) p (¬p):=⟨of_decide_eq_true,of_decide_eq_false⟩
instance (priority:=1100) sy_n (p:Prop) {hp:Decidable p}:Sy (!(@decide p hp)) (¬p) p:=⟨λh=>by simpa using h,λh=>by simpa using h⟩
theorem cS {c:Operand} {x y:Code} {b:Bool} {p q:Prop} (h:AgM ds a n L) (hc:ev L c=some (.bool b)) [s:Sy b p q] (ht:p->x.wp P Q a w) (hf:q->y.wp P Q a w):(Code.cond c x y).wp P Q a w:=y5l h hc (λe=>ht (s.t e)) (λe=>hf (s.f e))
theorem gSp {D:Nat} {b:Bool} {p q:Prop} (h:AgM ds a n L) (hb:look L D=some (.bool b)) [s:Sy b p q] {G:Prop} (ht:p->AgM ds a n ((D,.bool true)::L)->G) (hf:q->AgM ds a n ((D,.bool false)::L)->G):G:=x0h h hb (λe k=>ht (s.t e) k) (λe k=>hf (s.f e) k)
end
end Go.Lw
namespace Go.Lw
end Go.Lw
namespace Go.Lw
def Sat (pq:Option Nat) (C:World->Prop) (listed:Array Bool) (w:World):Prop:=
  match pq with
  | none=>C w
  | some p=>listed.getD p true=false->C w
theorem x7i {pq:Option Nat} {C:World->Prop} {listed:Array Bool} {w:World} (h:C w):Sat pq C listed w:=by
 unfold Sat;split
 ·exact h
 exact λ_=>h
def z0w (pq:Option Nat) (P:Program) (ops:Array Oper) (Q:Exit->Act->World->Prop) (C:World->Prop):Nat->Array Bool->Act->World->Prop
  | 0,listed,a,w=>Region.ready .any ops listed=[]/\Q .normal a w
  | fu+1,listed,a,w=>(Region.ready .any ops listed=[]->Q .normal a w)/\∀i∈Region.ready .any ops listed,wpOp P ops Q i (λa' w'=>Sat pq C (listed.setIfInBounds i true) w'/\z0w pq P ops Q C fu (listed.setIfInBounds i true) a' w') a w
def x9l (i:Nat):List Oper->List Bool->List Bool
  | [],acc=>acc
  | o::r,acc=>x9l i r (acc++[o.after.any (λe=>Region.binds .any e && (Nat.beq e.on i || acc.getD e.on false))])
def wsB (ops:Array Oper) (i m:Nat):Bool:=(x9l i ops.toList []).getD m false
theorem y6l {acc:List Bool} {b:Bool} {m:Nat} (h:acc.getD m false=true):(acc++[b]).getD m false=true:=by
 rcases Nat.lt_or_ge m acc.length with e|e
 ·simp only [List.getD] at h ⊢;rwa [List.getElem?_append_left e]
 simp [List.getD,List.getElem?_eq_none e] at h
theorem x2k (i:Nat):∀(r:List Oper) (acc:List Bool) (m:Nat),acc.getD m false=true->(x9l i r acc).getD m false=true
 | [],_,_,h=>h
 | _::r,_,m,h=>x2k i r _ m (y6l h)
theorem x5t (i:Nat):∀(r:List Oper) (acc:List Bool) (m:Nat),(x9l i r acc).getD m false=true->acc.getD m false=true\/∃t o,r[t]?=some o/\m=acc.length+t/\∃e∈o.after,Region.binds .any e=true/\(e.on=i\/(x9l i r acc).getD e.on false=true)
 | [],_,_,h=>.inl h
 | o::r,acc,m,h=>by
  rcases x5t i r _ m h with h1|⟨t,o',h1,h2,e,h3,h4,h5⟩
  ·rcases Nat.lt_trichotomy m acc.length with e|e|e
   ·refine .inl ?_
    simp only [List.getD] at h1 ⊢
    rwa [List.getElem?_append_left e] at h1
   ·subst e
    refine .inr ⟨0,o,rfl,rfl,?_⟩
    simp only [List.getD,List.getElem?_append_right (Nat.le_refl _),Nat.sub_self,List.getElem?_cons_zero,Option.getD_some] at h1
    obtain ⟨e,he,hb⟩:=Array.any_eq_true'.1 h1
    rw [Bool.and_eq_true,Bool.or_eq_true] at hb
    refine ⟨e,he,hb.1,hb.2.imp Nat.eq_of_beq_eq_true λh=>?_⟩
    exact x2k i r _ _ (y6l h)
   exfalso
   simp only [List.getD] at h1
   rw [List.getElem?_eq_none (by simp;omega)] at h1
   cases h1
  exact .inr ⟨t+1,o',h1,by rw [List.length_append] at h2;simp at h2;omega,e,h3,h4,h5⟩
theorem x9g {ops:Array Oper} {i m:Nat} (h:wsB ops i m=true):∃o,ops[m]?=some o/\∃e∈o.after,Region.binds .any e=true/\(e.on=i\/wsB ops i e.on=true):=by
 rcases x5t i _ _ _ h with h|⟨t,o,h1,h2,r⟩
 ·cases h
 simp at h2;subst h2
 exact ⟨o,by rw [<-Array.getElem?_toList];exact h1,r⟩
def Fre (pq:Option Nat) (ops:Array Oper) (listed:Array Bool) (i:Nat):Bool:=
  Region.free .any ops listed i && match pq with
  | none=>true
  | some p=>wsB ops i p && (List.range ops.size).all (λm=>!(wsB ops i m && listed.getD m true))
section
variable {P:Program} {ops:Array Oper} {Q:Exit->Act->World->Prop} {C:World->Prop} {pq:Option Nat}
theorem y5w:∀(fu:Nat) (listed:Array Bool) (a:Act) (w:World),z0w pq P ops Q C fu listed a w->wpAny P .any ops Q fu listed a w
 | 0,_,_,_,h=>h
 | fu+1,_,_,_,h=>⟨h.1,λi hi=>wpOp_mono (λa' w' k=>y5w fu _ a' w' k.2) (h.2 i hi)⟩
theorem u3d {i:Nat} {oi:Oper} {v:Value} (hi:ops[i]?=some oi) (hsel:∀(j:Nat) (o:Oper) cs b,ops[j]?=some o->o.op≠.select cs b) (hQ:∀c a w,Q (.panic c) (a.put oi.dst v) w->Q (.panic c) a w) (hwt:∀p,pq=some p->wsB ops i p=true) :
    ∀(fu:Nat) (listed:Array Bool) (a:Act) (w:World),(∀j oj,ops[j]?=some oj->j≠i->listed.getD j true=false->(∀e∈oj.after,Region.binds .any e=true->e.on≠i)->oi.apart ops oj=true)->
      i∈Region.ready .any ops listed->(∀p,pq=some p->∀m,wsB ops i m=true->listed.getD m true=false)->YieldsIf P ops C oi v a->C w->z0w pq P ops Q C fu (listed.setIfInBounds i true) (a.put oi.dst v) w->z0w pq P ops Q C (fu+1) listed a w:=by
  intro fu
  induction fu with
  | zero=>
    intro listed a w _ hr _ hy hC H
    refine ⟨λe=>(by rw [e] at hr;cases hr),λj hj=>?_⟩
    rcases Decidable.em (j=i) with rfl|hne
    · exact hy.wpOp hi hC ⟨x7i hC,H⟩
    · exact absurd (ready_mono hj hne) (by rw [H.1];simp)
  | succ fu ih=>
    intro listed a w hfr hr hp hy hC H
    refine ⟨λe=>(by rw [e] at hr;cases hr),λj hj=>?_⟩
    rcases Decidable.em (j=i) with rfl|hne
    · exact hy.wpOp hi hC ⟨x7i hC,H⟩
    obtain ⟨hju,oj,hoj,hall⟩:=mem_ready.1 hj
    have flip:∀m,listed.getD m true=false->¬listed.getD m false=true:=λm hun=>by
      rcases Nat.lt_or_ge m listed.size with h|h
      · simp [h] at hun ⊢;exact hun
      · simp [Array.getElem?_eq_none h]
    have hun':=flip i (mem_ready.1 hr).1
    have hno:∀e∈oj.after,Region.binds .any e=true->e.on≠i:=λe he hb heq=>hun' (heq▸hall e he hb)
    have nw:∀p,pq=some p->∀m om,ops[m]?=some om->(∀e∈om.after,Region.binds .any e=true->listed.getD e.on false=true)->¬wsB ops i m=true:=λp e m om hm hal hw=>by
      obtain ⟨o,ho,e',he,hb,h⟩:=x9g hw
      rw [hm] at ho;cases ho
      rcases h with h|h
      · exact hun' (h▸hal e' he hb)
      · exact flip _ (hp p e _ h) (hal e' he hb)
    have hjw:∀p,pq=some p->¬wsB ops i j=true:=λp e=>nw p e j oj hoj hall
    have hiw:∀p,pq=some p->¬wsB ops i i=true:=λp e=>by
      obtain ⟨_,o,ho,hal⟩:=mem_ready.1 hr
      exact nw p e i o ho hal
    have h2:=wpOp_putIf hoj (hfr j oj hoj hne hju hno) (λcs b=>hsel i oi cs b hi) (λcs b=>hsel j oj cs b hoj) hQ hy (H.2 j (ready_mono hj hne))
    refine wpOp_mono (λa' w' k=>?_) h2
    have hc':C w':=by
      have hs:=k.2.1
      unfold Sat at hs
      split at hs
      · exact hs
      · rename_i p
        have hpw:=hwt p rfl
        refine hs ?_
        have n1:j≠p:=λe=>hjw p rfl (by rw [e];exact hpw)
        have n2:i≠p:=λe=>hiw p rfl (by rw (occs:=.pos [2]) [e];exact hpw)
        rw [getD_set_ne true n1,getD_set_ne true n2]
        exact hp p rfl p hpw
    refine ⟨x7i hc',ih (listed.setIfInBounds j true) a' w' (λm om hm hmi hmu hmn=>hfr m om hm hmi ?_ hmn) (ready_mono hr (Ne.symm hne)) (λp e m hm=>by
      have n1:j≠m:=λe'=>hjw p e (by rw [e'];exact hm)
      rw [getD_set_ne true n1];exact hp p e m hm) k.1 hc' ?_⟩
    · rcases Decidable.em (j=m) with rfl|hjm
      · exact hju
      · rwa [getD_set_ne true hjm] at hmu
    · rw [Array.setIfInBounds_comm _ _ hne];exact k.2.2
theorem v3b {i:Nat} {oi:Oper} {v:Value} {fu:Nat} {listed:Array Bool} {a:Act} {w:World} (hi:ops[i]?=some oi) (hs:Region.noSelect ops=true) (hf:Fre pq ops listed i=true) (hr:(Region.ready .any ops listed).contains i=true)
    (hQ:∀c a w,Q (.panic c) (a.put oi.dst v) w->Q (.panic c) a w) (hy:YieldsIf P ops C oi v a) (hC:C w) (h:z0w pq P ops Q C fu (listed.setIfInBounds i true) (a.put oi.dst v) w):z0w pq P ops Q C (fu+1) listed a w:=by
  unfold Fre at hf
  rw [Bool.and_eq_true] at hf
  refine u3d hi (Region.noSelect_spec hs) hQ (λp e=>?_) fu listed a w (Region.free_spec hi hf.1) (by simpa using hr) (λp e m hm=>?_) hy hC h
  · have:=hf.2;subst e;simp only [Bool.and_eq_true] at this;exact this.1
  · have:=hf.2;subst e;simp only [Bool.and_eq_true,List.all_eq_true,List.mem_range] at this
    obtain ⟨o,ho,_⟩:=x9g hm
    have h2:=this.2 m (Array.getElem?_eq_some_iff.1 ho).1
    rw [hm] at h2;simpa using h2
theorem u7k {rs:List Nat} {fu:Nat} {listed:Array Bool} {a:Act} {w:World} (hr:Region.ready .any ops listed=rs) (hne:rs≠[])
    (h:∀i∈rs,wpOp P ops Q i (λa' w'=>Sat pq C (listed.setIfInBounds i true) w'/\z0w pq P ops Q C fu (listed.setIfInBounds i true) a' w') a w):z0w pq P ops Q C (fu+1) listed a w:=
  ⟨λe=>absurd (hr.symm.trans e) hne,λi hi=>h i (hr▸hi)⟩
theorem u9c {listed:Array Bool} {a:Act} {w:World} (hr:Region.ready .any ops listed=[]) (h:Q .normal a w):∀fu,z0w pq P ops Q C fu listed a w
 | 0=>⟨hr,h⟩
 | _+1=>⟨λ_=>h,by rw [hr];intro i hi;cases hi⟩
end
end Go.Lw
namespace Go.Lw
open Go.RowKit
section
variable {P:Program} {a:Act} {n:Nat} {L:List (Nat×Value)} {ds:List Nat} {C:World->Prop} {Qa:Act->Prop} {ops:Array Oper} {rest:List Oper} {o:Oper}
theorem y1s {d:Nat} {v:Value} (h:AgM ds a n L) (hg:o.guard=none) (hd:o.dst=some d) (hn:Nat.blt d n=true) (hr:∀w,C w->(execOp a.eval o).run P w=.ok (.value v) w)
    (k:∀a,AgM ds a n ((d,v)::L)->wpQuiet P ops C Qa rest a):wpQuiet P ops C Qa (o::rest) a:=by
  unfold wpQuiet
  rw [if_pos (by simp [Region.wanted,hg])]
  refine ⟨v,λw hw=>?_,?_⟩
  · unfold Oper.quietAt;rw [hr w hw];exact ⟨rfl,rfl⟩
  · rw [hd];exact k _ (h.put hn v)
theorem z1m {d j dj:Nat} {oj:Oper} {want b:Bool} (h:AgM ds a n L) (hg:o.guard=some (j,want)) (hj:ops[j]?=some oj) (hdj:oj.dst=some dj) (hnj:Nat.blt dj n=true)
    (hb:look L dj=some (.bool b)) (hne:(b == want)=false) (hd:o.dst=some d) (hn:Nat.blt d n=true)
    (k:∀a,AgM ds a n ((d,undef)::L)->wpQuiet P ops C Qa rest a):wpQuiet P ops C Qa (o::rest) a:=by
  have hy:=z5r (ops:=ops) h hj hdj hnj hb
  unfold wpQuiet
  rw [if_neg (by simp only [Region.wanted,hg,hy];simpa using hne),hd]
  exact k _ (h.put hn undef)
theorem z2g {j dj:Nat} {oj:Oper} {want b:Bool} (h:AgM ds a n L) (hg:o.guard=some (j,want)) (hj:ops[j]?=some oj) (hdj:oj.dst=some dj) (hnj:Nat.blt dj n=true)
    (hb:look L dj=some (.bool b)) (he:(b == want)=true)
    (k:wpQuiet P ops C Qa ({ o with guard:=none }::rest) a):wpQuiet P ops C Qa (o::rest) a:=by
  have hy:=z5r (ops:=ops) h hj hdj hnj hb
  unfold wpQuiet at k ⊢
  rw [if_pos (by simp [Region.wanted])] at k
  rw [if_pos (by simp only [Region.wanted,hg,hy];simpa using he)]
  exact k
theorem y2f {id:Nat} {Q:Exit->Act->World->Prop} {w:World} {l:List Oper} (hm:P.follows .mixedOrders=true) (hB:Region.lexB .any l.toArray=true)
    (h:wpQuiet P l.toArray (λw'=>Fr [] w w') (λa'=>∀w',Fr [] w w'->Q .normal a' w') l a):(Code.region id l.toArray true).wp P Q a w:=
  wp_region_quiet (C:=λw'=>Fr [] w w') hm hB (Fr.drew [] w) (by simpa using h)
def z0p (K:Act->World->Prop):Exit->Act->World->Prop
  | .normal,a,w=>K a w
  | _,_,_=>False
theorem z0h (pq:Option Nat) {id:Nat} {Q:Exit->Act->World->Prop} {w:World} {l:List Oper} (C:World->World->Prop) (hm:P.follows .mixedOrders=true)
    (h:∀w',Fr [] w w'->z0w pq P l.toArray (z0p (Q .normal)) (C w') l.length (Array.replicate l.length false) a w'):(Code.region id l.toArray true).wp P Q a w:=by
  refine wp_mono (wp_region_any (Q:=z0p (Q .normal)) hm (y5w (C:=C w.drew) _ _ _ _ (by simpa using h _ (Fr.drew [] w)))) ?_
  intro e a w hq
  cases e<;>first|exact hq|exact hq.elim
theorem z3y {id:Nat} {Q:Exit->Act->World->Prop} {w:World} {l:List Oper} (C:World->World->Prop) (hm:P.follows .mixedOrders=true)
 (h:∀w',Fr [] w w'->z0w none P l.toArray (z0p (Q .normal)) (C w') l.length (Array.replicate l.length false) a w'):(Code.region id l.toArray true).wp P Q a w:=z0h none C hm h
section
variable {K:Act->World->Prop} {fu:Nat} {listed:Array Bool} {pq:Option Nat} {w:World}
def Wd (ops:Array Oper) (n:Nat) (L:List (Nat×Value)) (G:Option (Nat×Bool)):Prop:=∀a ds,AgM ds a n L->∀o:Oper,o.guard=G->Region.wanted o (yielded ops a.tmps)=true
theorem wn:Wd ops n L none:=λ_ _ _ o ho=>by simp [Region.wanted,ho]
theorem z6b (ix:Nat) (hsel:Region.noSelect ops=true) (hfr:Fre pq ops listed ix=true) (hre:(Region.ready .any ops listed).contains ix=true) {d:Nat} {v:Value} (h:AgM ds a n L) (hG:Wd ops n L o.guard) (hix:ops[ix]?=some o) (hd:o.dst=some d) (hn:Nat.blt d n=true) (hr:∀w,C w->(execOp a.eval o).run P w=.ok (.value v) w) (k:∀a,AgM ds a n ((d,v)::L)->z0w pq P ops (z0p K) C fu (listed.setIfInBounds ix true) a w) (hC:C w:=by exact hC):z0w pq P ops (z0p K) C (fu+1) listed a w:=
  v3b hix hsel hfr hre (λ_ _ _ h=>h) (.inl ⟨hG a ds h o rfl,hr⟩) hC (by rw [hd];exact k _ (h.put hn v))
theorem z0d (ix:Nat) (hix:ops[ix]?=some o) (k:wpList P ops (z0p λa' w'=>Sat pq C (listed.setIfInBounds ix true) w'/\z0w pq P ops (z0p K) C fu (listed.setIfInBounds ix true) a' w') [o] a w) (hr:Region.ready .any ops listed=[ix]:=by kernel_rfl) :
    z0w pq P ops (z0p K) C (fu+1) listed a w:=by
  refine u7k hr (by simp) λi hi=>?_
  simp at hi;subst hi
  unfold wpOp
  rw [hix]
  unfold wpList at k
  simp only
  split
  · rename_i hw
    rw [if_pos hw] at k
    rcases k with k|⟨_,_,_,k⟩
    · refine .inl (Oper.wp_mono (λa w h=>h) ?_)
      unfold Oper.wp at k ⊢
      generalize (execOp a.eval o).run P w=r at k ⊢
      cases r with
      | ok nx w'=>
        cases nx<;>simp only [Oper.upon] at k ⊢<;>first
          | exact k
          | exact Calls.mono k (λe w'' he=>by cases e<;>first|exact he|exact he.elim|(obtain ⟨_,_,he⟩:=he;exact he.elim))
          | exact Rows.mono k (λ_ _ he=>he)
      | halt x w'=>cases x<;>simp only [Oper.upon] at k ⊢<;>exact k.elim
    · exact k.elim
  · rename_i hw
    rw [if_neg hw] at k
    exact k
theorem z0r (h:K a w) (hr:Region.ready .any ops listed=[]:=by kernel_rfl):z0w pq P ops (z0p K) C fu listed a w:=u9c hr h fu
theorem z0b {W:Act->World->Prop} (h:W a w) (hC:C w:=by exact hC):wpList P ops (z0p λa' w'=>Sat pq C listed w'/\W a' w') [] a w:=⟨x7i hC,h⟩
theorem z1o {W:Act->World->Prop} {p:Nat} (h:W a w) (hp:listed.getD p true=true:=by kernel_rfl):wpList P ops (z0p λa' w'=>Sat (some p) C listed w'/\W a' w') [] a w:=⟨λe=>absurd (hp.symm.trans e) (by simp),h⟩
end
variable {d:Nat} {ty:TypeId} {pos:String} {after:Array Edge} {v u:Value} {x y z:Operand} {t t' T:TypeId} {k k':IntKind} {i j:Int} {b c:Bool} {l l':List UInt8} {A:Option Addr} {m cp:Nat} {G:Option (Nat×Bool)}
theorem z3q (h:AgM ds a n L) (hx:ev L x=some v) (hn:Nat.blt d n=true) (q:∀a,AgM ds a n ((d,v)::L)->wpQuiet P ops C Qa rest a) :
    wpQuiet P ops C Qa (⟨some d,.move x,ty,pos,after,none⟩::rest) a:=
  y1s h rfl rfl hn (λw _hw=>by simp [execOp,h.eval hx]) q
theorem z5d (h:AgM ds a n L) (hx:ev L x=some v) (hn:Nat.blt d n=true) (q:∀a,AgM ds a n ((d,v)::L)->wpQuiet P ops C Qa rest a) :
    wpQuiet P ops C Qa (⟨some d,.assign x,ty,pos,after,none⟩::rest) a:=
  y1s h rfl rfl hn (λw _hw=>by simp [execOp,h.eval hx]) q
theorem z7g {z:Value} {x1 x2:Operand} (h:AgM ds a n L) (hx:ev L x=some (.bool b)) (hb:b=true) (hv:ev L x1=some z) (hn:Nat.blt d n=true) (q:∀a,AgM ds a n ((d,z)::L)->wpQuiet P ops C Qa rest a) :
    wpQuiet P ops C Qa (⟨some d,.pick x x1 x2,ty,pos,after,none⟩::rest) a:=
  y1s h rfl rfl hn (λw _hw=>by subst hb;simp [execOp,h.eval hx,asBool,h.eval hv]) q
theorem z3f {z:Value} {x1 x2:Operand} (h:AgM ds a n L) (hx:ev L x=some (.bool b)) (hb:b=false) (hv:ev L x2=some z) (hn:Nat.blt d n=true) (q:∀a,AgM ds a n ((d,z)::L)->wpQuiet P ops C Qa rest a) :
    wpQuiet P ops C Qa (⟨some d,.pick x x1 x2,ty,pos,after,none⟩::rest) a:=
  y1s h rfl rfl hn (λw _hw=>by subst hb;simp [execOp,h.eval hx,asBool,h.eval hv]) q
theorem u1f {z:Int} (h:AgM ds a n L) (hx:ev L x=some (.int k i)) (hy:ev L y=some (.int k j)) (hz:k.wrap (i-j)=z) (hn:Nat.blt d n=true) (q:∀a,AgM ds a n ((d,.int k z)::L)->wpQuiet P ops C Qa rest a) :
    wpQuiet P ops C Qa (⟨some d,.binOp .sub t x y t',ty,pos,after,none⟩::rest) a:=
  y1s h rfl rfl hn (λw _hw=>by subst hz;simp [execOp,h.eval hx,h.eval hy,eqGuard_sub,binOp_sub,Op.intArith]) q
theorem j0h (h:AgM ds a n L) (hx:ev L x=some (.int k i)) (hy:ev L y=some (.int k j)) (hn:Nat.blt d n=true) (q:∀a,AgM ds a n ((d,.bool (decide (i<j)))::L)->wpQuiet P ops C Qa rest a) :
    wpQuiet P ops C Qa (⟨some d,.binOp .lss t x y t',ty,pos,after,none⟩::rest) a:=
  y1s h rfl rfl hn (λw _hw=>by simp [execOp,h.eval hx,h.eval hy,eqGuard_lss,binOp_lss]) q
theorem j1b (h:AgM ds a n L) (hx:ev L x=some (.int k i)) (hy:ev L y=some (.int k j)) (hn:Nat.blt d n=true) (q:∀a,AgM ds a n ((d,.bool (decide (i<=j)))::L)->wpQuiet P ops C Qa rest a) :
    wpQuiet P ops C Qa (⟨some d,.binOp .leq t x y t',ty,pos,after,none⟩::rest) a:=
  y1s h rfl rfl hn (λw _hw=>by simp [execOp,h.eval hx,h.eval hy,eqGuard_leq,binOp_leq]) q
theorem v9u (h:AgM ds a n L) (hx:ev L x=some (.int k i)) (hy:ev L y=some (.int k j)) (hn:Nat.blt d n=true) (q:∀a,AgM ds a n ((d,.bool (decide (j<=i)))::L)->wpQuiet P ops C Qa rest a) :
    wpQuiet P ops C Qa (⟨some d,.binOp .geq t x y t',ty,pos,after,none⟩::rest) a:=
  y1s h rfl rfl hn (λw _hw=>by simp [execOp,h.eval hx,h.eval hy,eqGuard_geq,binOp_geq]) q
theorem v4n {z:Int} (h:AgM ds a n L) (hx:ev L x=some (.int k i)) (hs:(P.underlying t).isSome=true) (hd:P.underlying t'=some (.int k')) (hz:k'.wrap i=z) (hn:Nat.blt d n=true) (q:∀a,AgM ds a n ((d,.int k' z)::L)->wpQuiet P ops C Qa rest a) :
    wpQuiet P ops C Qa (⟨some d,.convert t t' x,ty,pos,after,none⟩::rest) a:=
  y1s h rfl rfl hn (λw _hw=>by
    obtain ⟨u,hu⟩:=Option.isSome_iff_exists.mp hs
    subst hz;simp [execOp,h.eval hx,convert,run_underlying hu,run_underlying hd,Conv.intToInt]) q
theorem y9t (h:AgM ds a n L) (hx:ev L x=some (.slice A m cp)) (hu:P.underlying t=some (.slice T)) (hn:Nat.blt d n=true) (q:∀a,AgM ds a n ((d,.int .i64 (m:Int))::L)->wpQuiet P ops C Qa rest a) :
    wpQuiet P ops C Qa (⟨some d,.call ⟨.builtin .len,#[x],#[t]⟩,ty,pos,after,none⟩::rest) a:=
  y1s h rfl rfl hn (λw _hw=>by
    rw [z1v];unfold builtin
    simp [h.eval hx,Builtin.len_,run_underlying hu]
    rfl) q
theorem v2m {ad:Addr} (h:AgM ds a n L) (hx:ev L x=some (.pointer (some ad))) (hc:∀w,C w->w.cell? ad=some v) (hg:z2b P t) (hn:Nat.blt d n=true) (q:∀a,AgM ds a n ((d,v)::L)->wpQuiet P ops C Qa rest a) :
    wpQuiet P ops C Qa (⟨some d,.load t x,ty,pos,after,none⟩::rest) a:=
  y1s h rfl rfl hn (λw _hw=>by simp [execOp,h.eval hx,Instr.loadAt,Instr.sureAddr,loadVar,hg w,hc w _hw]) q
theorem z2m {ad:Addr} {f off:Nat} (h:AgM ds a n L) (hx:ev L x=some (.pointer (some ad))) (hf:z0z P t f off) (hn:Nat.blt d n=true) (q:∀a,AgM ds a n ((d,.pointer (some (ad.add off)))::L)->wpQuiet P ops C Qa rest a) :
    wpQuiet P ops C Qa (⟨some d,.fieldAddr t x f,ty,pos,after,none⟩::rest) a:=
  y1s h rfl rfl hn (λw _hw=>by simp [execOp,h.eval hx,hf ad w]) q
section
variable {K:Act->World->Prop} {fu:Nat} {listed:Array Bool} {pq:Option Nat} {w:World}
theorem z0e (ix:Nat) (h:AgM ds a n L) (hx:ev L x=some v) (hix:ops[ix]?=some ⟨some d,.move x,ty,pos,after,G⟩) (q:∀a,AgM ds a n ((d,v)::L)->z0w pq P ops (z0p K) C fu (listed.setIfInBounds ix true) a w) (hsel:Region.noSelect ops=true:=by kernel_rfl) (hfr:Fre pq ops listed ix=true:=by kernel_rfl) (hre:(Region.ready .any ops listed).contains ix=true:=by kernel_rfl) (hC:C w:=by exact hC) (hG:Wd ops n L G:=by exact wn) (hn:Nat.blt d n=true:=by exact rfl) :
    z0w pq P ops (z0p K) C (fu+1) listed a w:=
  z6b ix hsel hfr hre h hG hix rfl hn (λw _hw=>by simp [execOp,h.eval hx]) q
theorem z5i {z:Int} (ix:Nat) (h:AgM ds a n L) (hx:ev L x=some (.int k i)) (hy:ev L y=some (.int k j)) (hz:k.wrap (i+j)=z) (hix:ops[ix]?=some ⟨some d,.binOp .add t x y t',ty,pos,after,G⟩) (q:∀a,AgM ds a n ((d,.int k z)::L)->z0w pq P ops (z0p K) C fu (listed.setIfInBounds ix true) a w) (hsel:Region.noSelect ops=true:=by kernel_rfl) (hfr:Fre pq ops listed ix=true:=by kernel_rfl) (hre:(Region.ready .any ops listed).contains ix=true:=by kernel_rfl) (hC:C w:=by exact hC) (hG:Wd ops n L G:=by exact wn) (hn:Nat.blt d n=true:=by exact rfl) :
    z0w pq P ops (z0p K) C (fu+1) listed a w:=
  z6b ix hsel hfr hre h hG hix rfl hn (λw _hw=>by subst hz;simp [execOp,h.eval hx,h.eval hy,eqGuard_add,binOp_add,Op.intArith]) q
theorem z2y {z:Int} (ix:Nat) (h:AgM ds a n L) (hG:Wd ops n L G) (hx:ev L x=some (.int k i)) (hy:ev L y=some (.int k j)) (hz:k.wrap (i-j)=z) (hix:ops[ix]?=some ⟨some d,.binOp .sub t x y t',ty,pos,after,G⟩) (q:∀a,AgM ds a n ((d,.int k z)::L)->z0w pq P ops (z0p K) C fu (listed.setIfInBounds ix true) a w) (hsel:Region.noSelect ops=true:=by kernel_rfl) (hfr:Fre pq ops listed ix=true:=by kernel_rfl) (hre:(Region.ready .any ops listed).contains ix=true:=by kernel_rfl) (hC:C w:=by exact hC) (hn:Nat.blt d n=true:=by exact rfl) :
    z0w pq P ops (z0p K) C (fu+1) listed a w:=
  z6b ix hsel hfr hre h hG hix rfl hn (λw _hw=>by subst hz;simp [execOp,h.eval hx,h.eval hy,eqGuard_sub,binOp_sub,Op.intArith]) q
theorem v9j (ix:Nat) (hC:C w) (h:AgM ds a n L) (hG:Wd ops n L G) (hx:ev L x=some (.int k i)) (hy:ev L y=some (.int k j)) (hix:ops[ix]?=some ⟨some d,.binOp .eql t x y t',ty,pos,after,G⟩) (hn:Nat.blt d n=true) (q:∀a,AgM ds a n ((d,.bool (decide (i=j)))::L)->z0w pq P ops (z0p K) C fu (listed.setIfInBounds ix true) a w) (hsel:Region.noSelect ops=true:=by kernel_rfl) (hfr:Fre pq ops listed ix=true:=by kernel_rfl) (hre:(Region.ready .any ops listed).contains ix=true:=by kernel_rfl) :
    z0w pq P ops (z0p K) C (fu+1) listed a w:=
  z6b ix hsel hfr hre h hG hix rfl hn (λw _hw=>by simp [execOp,h.eval hx,h.eval hy,eqGuard_at_int,binOp_eql,y4k]) q
theorem j0x (ix:Nat) (hC:C w) (h:AgM ds a n L) (hG:Wd ops n L G) (hx:ev L x=some (.int k i)) (hy:ev L y=some (.int k j)) (hix:ops[ix]?=some ⟨some d,.binOp .neq t x y t',ty,pos,after,G⟩) (hn:Nat.blt d n=true) (q:∀a,AgM ds a n ((d,.bool (decide (i≠j)))::L)->z0w pq P ops (z0p K) C fu (listed.setIfInBounds ix true) a w) (hsel:Region.noSelect ops=true:=by kernel_rfl) (hfr:Fre pq ops listed ix=true:=by kernel_rfl) (hre:(Region.ready .any ops listed).contains ix=true:=by kernel_rfl) :
    z0w pq P ops (z0p K) C (fu+1) listed a w:=
  z6b ix hsel hfr hre h hG hix rfl hn (λw _hw=>by simp [execOp,h.eval hx,h.eval hy,eqGuard_at_int,binOp_neq,bne,y4k]) q
theorem x8h (ix:Nat) (hC:C w) (h:AgM ds a n L) (hG:Wd ops n L G) (hx:ev L x=some (.int k i)) (hy:ev L y=some (.int k j)) (hix:ops[ix]?=some ⟨some d,.binOp .lss t x y t',ty,pos,after,G⟩) (hn:Nat.blt d n=true) (q:∀a,AgM ds a n ((d,.bool (decide (i<j)))::L)->z0w pq P ops (z0p K) C fu (listed.setIfInBounds ix true) a w) (hsel:Region.noSelect ops=true:=by kernel_rfl) (hfr:Fre pq ops listed ix=true:=by kernel_rfl) (hre:(Region.ready .any ops listed).contains ix=true:=by kernel_rfl) :
    z0w pq P ops (z0p K) C (fu+1) listed a w:=
  z6b ix hsel hfr hre h hG hix rfl hn (λw _hw=>by simp [execOp,h.eval hx,h.eval hy,eqGuard_lss,binOp_lss]) q
theorem v0a (ix:Nat) (hC:C w) (h:AgM ds a n L) (hG:Wd ops n L G) (hx:ev L x=some (.int k i)) (hy:ev L y=some (.int k j)) (hix:ops[ix]?=some ⟨some d,.binOp .gtr t x y t',ty,pos,after,G⟩) (hn:Nat.blt d n=true) (q:∀a,AgM ds a n ((d,.bool (decide (j<i)))::L)->z0w pq P ops (z0p K) C fu (listed.setIfInBounds ix true) a w) (hsel:Region.noSelect ops=true:=by kernel_rfl) (hfr:Fre pq ops listed ix=true:=by kernel_rfl) (hre:(Region.ready .any ops listed).contains ix=true:=by kernel_rfl) :
    z0w pq P ops (z0p K) C (fu+1) listed a w:=
  z6b ix hsel hfr hre h hG hix rfl hn (λw _hw=>by simp [execOp,h.eval hx,h.eval hy,eqGuard_gtr,binOp_gtr]) q
theorem v8w (ix:Nat) (hC:C w) (h:AgM ds a n L) (hG:Wd ops n L G) (hx:ev L x=some (.int k i)) (hy:ev L y=some (.int k j)) (hix:ops[ix]?=some ⟨some d,.binOp .geq t x y t',ty,pos,after,G⟩) (hn:Nat.blt d n=true) (q:∀a,AgM ds a n ((d,.bool (decide (j<=i)))::L)->z0w pq P ops (z0p K) C fu (listed.setIfInBounds ix true) a w) (hsel:Region.noSelect ops=true:=by kernel_rfl) (hfr:Fre pq ops listed ix=true:=by kernel_rfl) (hre:(Region.ready .any ops listed).contains ix=true:=by kernel_rfl) :
    z0w pq P ops (z0p K) C (fu+1) listed a w:=
  z6b ix hsel hfr hre h hG hix rfl hn (λw _hw=>by simp [execOp,h.eval hx,h.eval hy,eqGuard_geq,binOp_geq]) q
theorem x5m (ix:Nat) (hC:C w) (h:AgM ds a n L) (hG:Wd ops n L G) (hx:ev L x=some (.bool b)) (hix:ops[ix]?=some ⟨some d,.unOp .not t x,ty,pos,after,G⟩) (hn:Nat.blt d n=true) (q:∀a,AgM ds a n ((d,.bool (!b))::L)->z0w pq P ops (z0p K) C fu (listed.setIfInBounds ix true) a w) (hsel:Region.noSelect ops=true:=by kernel_rfl) (hfr:Fre pq ops listed ix=true:=by kernel_rfl) (hre:(Region.ready .any ops listed).contains ix=true:=by kernel_rfl) :
    z0w pq P ops (z0p K) C (fu+1) listed a w:=
  z6b ix hsel hfr hre h hG hix rfl hn (λw _hw=>by simp [execOp,h.eval hx,unary_not]) q
theorem x4r {z:Int} (ix:Nat) (hC:C w) (h:AgM ds a n L) (hG:Wd ops n L G) (hx:ev L x=some (.int k i)) (hs:(P.underlying t).isSome=true) (hd:P.underlying t'=some (.int k')) (hz:k'.wrap i=z) (hix:ops[ix]?=some ⟨some d,.convert t t' x,ty,pos,after,G⟩) (hn:Nat.blt d n=true) (q:∀a,AgM ds a n ((d,.int k' z)::L)->z0w pq P ops (z0p K) C fu (listed.setIfInBounds ix true) a w) (hsel:Region.noSelect ops=true:=by kernel_rfl) (hfr:Fre pq ops listed ix=true:=by kernel_rfl) (hre:(Region.ready .any ops listed).contains ix=true:=by kernel_rfl) :
    z0w pq P ops (z0p K) C (fu+1) listed a w:=
  z6b ix hsel hfr hre h hG hix rfl hn (λw _hw=>by
    obtain ⟨u,hu⟩:=Option.isSome_iff_exists.mp hs
    subst hz;simp [execOp,h.eval hx,convert,run_underlying hu,run_underlying hd,Conv.intToInt]) q
theorem u1t {ts:Array TypeId} (ix:Nat) (hC:C w) (h:AgM ds a n L) (hG:Wd ops n L G) (hx:ev L x=some (.int k i)) (hy:ev L y=some (.int k' j)) (hix:ops[ix]?=some ⟨some d,.call ⟨.builtin .min,#[x,y],ts⟩,ty,pos,after,G⟩) (hn:Nat.blt d n=true) (q:∀a,AgM ds a n ((d,.int k (min i j))::L)->z0w pq P ops (z0p K) C fu (listed.setIfInBounds ix true) a w) (hsel:Region.noSelect ops=true:=by kernel_rfl) (hfr:Fre pq ops listed ix=true:=by kernel_rfl) (hre:(Region.ready .any ops listed).contains ix=true:=by kernel_rfl) :
    z0w pq P ops (z0p K) C (fu+1) listed a w:=
  z6b ix hsel hfr hre h hG hix rfl hn (λw _hw=>by
    rw [z1v];unfold builtin
    simp only [List.map_toArray,List.map_cons,List.map_nil,h.eval hx,h.eval hy,Sem.run_bind,run_min_int2,Result.andThen_ok,Sem.run_pure]
    congr 3;omega) q
theorem v3c (ix:Nat) (hC:C w) (h:AgM ds a n L) (hG:Wd ops n L G) (hx:ev L x=some (S l)) (hy:ev L y=some (S l')) (hb:l.length+l'.length<=9223372036854775807) (hix:ops[ix]?=some ⟨some d,.binOp .add t x y t',ty,pos,after,G⟩) (hn:Nat.blt d n=true) (q:∀a,AgM ds a n ((d,S (l++l'))::L)->z0w pq P ops (z0p K) C fu (listed.setIfInBounds ix true) a w) (hsel:Region.noSelect ops=true:=by kernel_rfl) (hfr:Fre pq ops listed ix=true:=by kernel_rfl) (hre:(Region.ready .any ops listed).contains ix=true:=by kernel_rfl):z0w pq P ops (z0p K) C (fu+1) listed a w:=
  z6b ix hsel hfr hre h hG hix rfl hn (λw _hw=>by
    have hr:=run_string_add_sum (P:=P) w ⟨l.toArray⟩ ⟨l'.toArray⟩ (by simpa [ByteArray.size] using hb)
    rw [ByteArray.mk_append_mk] at hr
    simp [execOp,h.eval hx,h.eval hy,S,eqGuard_add,binOp_string_add,hr]) q
theorem z7v (ix:Nat) (hC:C w) (h:AgM ds a n L) (hG:Wd ops n L G) (hx:ev L x=some (.slice A m cp)) (hu:P.underlying t=some (.slice T)) (hix:ops[ix]?=some ⟨some d,.call ⟨.builtin .len,#[x],#[t]⟩,ty,pos,after,G⟩) (q:∀a,AgM ds a n ((d,.int .i64 (m:Int))::L)->z0w pq P ops (z0p K) C fu (listed.setIfInBounds ix true) a w) (hsel:Region.noSelect ops=true:=by kernel_rfl) (hfr:Fre pq ops listed ix=true:=by kernel_rfl) (hre:(Region.ready .any ops listed).contains ix=true:=by kernel_rfl) (hn:Nat.blt d n=true:=by exact rfl) :
    z0w pq P ops (z0p K) C (fu+1) listed a w:=
  z6b ix hsel hfr hre h hG hix rfl hn (λw _hw=>by
    rw [z1v];unfold builtin
    simp [h.eval hx,Builtin.len_,run_underlying hu]
    rfl) q
theorem y7s {ad:Addr} (ix:Nat) (hsel:Region.noSelect ops=true) (hfr:Fre pq ops listed ix=true) (hre:(Region.ready .any ops listed).contains ix=true) (hC:C w) (h:AgM ds a n L) (hG:Wd ops n L G) (hx:ev L x=some (.pointer (some ad))) (hc:∀w,C w->w.cell? ad=some v) (hg:z2b P t) (hix:ops[ix]?=some ⟨some d,.load t x,ty,pos,after,G⟩) (hn:Nat.blt d n=true) (q:∀a,AgM ds a n ((d,v)::L)->z0w pq P ops (z0p K) C fu (listed.setIfInBounds ix true) a w) :
    z0w pq P ops (z0p K) C (fu+1) listed a w:=
  z6b ix hsel hfr hre h hG hix rfl hn (λw _hw=>by simp [execOp,h.eval hx,Instr.loadAt,Instr.sureAddr,loadVar,hg w,hc w _hw]) q
theorem z2l {ad:Addr} {cs:List Value} (ix:Nat) (h:AgM ds a n L) (hG:Wd ops n L G) (hx:ev L x=some (.pointer (some ad))) (hc:∀w,C w->Cells w ad cs) (hg:z3p P t cs.length) (hix:ops[ix]?=some ⟨some d,.load t x,ty,pos,after,G⟩) (q:∀a,AgM ds a n ((d,.agg cs.toArray)::L)->z0w pq P ops (z0p K) C fu (listed.setIfInBounds ix true) a w) (hsel:Region.noSelect ops=true:=by kernel_rfl) (hfr:Fre pq ops listed ix=true:=by kernel_rfl) (hre:(Region.ready .any ops listed).contains ix=true:=by kernel_rfl) (hC:C w:=by exact hC) (hn:Nat.blt d n=true:=by exact rfl) :
    z0w pq P ops (z0p K) C (fu+1) listed a w:=
  z6b ix hsel hfr hre h hG hix rfl hn (λw _hw=>by simp [execOp,h.eval hx,Instr.loadAt,Instr.sureAddr,loadVar,hg.1 w,hg.2 w,run_loadCells_list w ad cs (hc w _hw)]) q
theorem z0c {ad:Addr} {f off:Nat} (ix:Nat) (h:AgM ds a n L) (hx:ev L x=some (.pointer (some ad))) (hf:z0z P t f off) (hix:ops[ix]?=some ⟨some d,.fieldAddr t x f,ty,pos,after,G⟩) (q:∀a,AgM ds a n ((d,.pointer (some (ad.add off)))::L)->z0w pq P ops (z0p K) C fu (listed.setIfInBounds ix true) a w) (hsel:Region.noSelect ops=true:=by kernel_rfl) (hfr:Fre pq ops listed ix=true:=by kernel_rfl) (hre:(Region.ready .any ops listed).contains ix=true:=by kernel_rfl) (hC:C w:=by exact hC) (hG:Wd ops n L G:=by exact wn) (hn:Nat.blt d n=true:=by exact rfl) :
    z0w pq P ops (z0p K) C (fu+1) listed a w:=
  z6b ix hsel hfr hre h hG hix rfl hn (λw _hw=>by simp [execOp,h.eval hx,hf ad w]) q
theorem z0o {ad:Addr} (ix:Nat) (h:AgM ds a n L) (hx:ev L x=some (.pointer (some ad))) (hix:ops[ix]?=some ⟨some d,.nilCheck x,ty,pos,after,G⟩) (q:∀a,AgM ds a n ((d,.pointer (some ad))::L)->z0w pq P ops (z0p K) C fu (listed.setIfInBounds ix true) a w) (hsel:Region.noSelect ops=true:=by kernel_rfl) (hfr:Fre pq ops listed ix=true:=by kernel_rfl) (hre:(Region.ready .any ops listed).contains ix=true:=by kernel_rfl) (hC:C w:=by exact hC) (hG:Wd ops n L G:=by exact wn) (hn:Nat.blt d n=true:=by exact rfl) :
    z0w pq P ops (z0p K) C (fu+1) listed a w:=
  z6b ix hsel hfr hre h hG hix rfl hn (λw _hw=>by simp [execOp,h.eval hx]) q
theorem z0k {vs:Array Value} {m:Nat} (ix:Nat) (h:AgM ds a n L) (hx:ev L x=some (.tuple vs)) (hm:vs[m]?=some v) (hix:ops[ix]?=some ⟨some d,.extract x m,ty,pos,after,G⟩) (q:∀a,AgM ds a n ((d,v)::L)->z0w pq P ops (z0p K) C fu (listed.setIfInBounds ix true) a w) (hsel:Region.noSelect ops=true:=by kernel_rfl) (hfr:Fre pq ops listed ix=true:=by kernel_rfl) (hre:(Region.ready .any ops listed).contains ix=true:=by kernel_rfl) (hC:C w:=by exact hC) (hG:Wd ops n L G:=by exact wn) (hn:Nat.blt d n=true:=by exact rfl) :
    z0w pq P ops (z0p K) C (fu+1) listed a w:=
  z6b ix hsel hfr hre h hG hix rfl hn (λw _hw=>by simp [execOp,h.eval hx,Instr.extract,hm]) q
end
end
end Go.Lw
namespace Go.Lw
open Go.RowKit
def Enc.b:Enc UInt8:=⟨λc=>[.int .u8 (c.toNat:Int)],1,λ_=>rfl,λ_ u h=>by simp at h;subst h;rfl,by decide⟩
section
variable {P:Program} {a:Act} {n:Nat} {L:List (Nat×Value)} {ds:List Nat} {w w':World} {Q:Exit->Act->World->Prop} {C:World->Prop} {Qa:Act->Prop} {ops:Array Oper} {rest:List Oper}
variable {d:Nat} {ty:TypeId} {pos:String} {after:Array Edge} {v u:Value} {x y z:Operand} {t t' T:TypeId} {k k':IntKind} {i j:Int} {b c:Bool} {l l':List UInt8} {A:Option Addr} {m cp:Nat} {g off:Nat} {cs:List Value}
theorem Blk.cellAdd (h:Blk w g T cs) (hv:cs[off]?=some v):w.cell? ((⟨g,0,none⟩:Addr).add off)=some v:=by rw [z3l,Nat.zero_add,h.cell];exact hv
theorem v7v (h:AgM ds a n L) (hx:ev L x=some (.pointer (some ((⟨g,0,none⟩:Addr).add off)))) (hb:Blk w g T cs) (hv:cs[off]?=some v) (hg:z2b P t) (hn:Nat.blt d n=true) (q:∀a,AgM ds a n ((d,v)::L)->wpList P ops Q rest a w) :
 wpList P ops Q (⟨some d,.load t x,ty,pos,after,none⟩::rest) a w:=y7d h hx (hb.cellAdd hv) hg hn q
theorem z0i (hx:ev L x=some (.pointer (some ((⟨g,0,none⟩:Addr).add off)))) (hb:Blk w g T cs) (hv:cs[off]?=some v) (hg:z2b P t) (q:WL P ops Q rest n ds w ((d,v)::L)) (hn:Nat.blt d n=true:=by exact rfl):WL P ops Q (⟨some d,.load t x,ty,pos,after,none⟩::rest) n ds w L:=λa h=>v7v h hx hb hv hg hn q -- short
theorem z4y (h:AgM ds a n L) (hx:ev L x=some (.pointer (some ((⟨g,0,none⟩:Addr).add off)))) (hb:∀w,C w->Blk w g T cs) (hv:cs[off]?=some v) (hg:z2b P t) (hn:Nat.blt d n=true) (q:∀a,AgM ds a n ((d,v)::L)->wpQuiet P ops C Qa rest a) :
 wpQuiet P ops C Qa (⟨some d,.load t x,ty,pos,after,none⟩::rest) a:=v2m h hx (λw hw=>(hb w hw).cellAdd hv) hg hn q
theorem v4i (h:AgM ds a n L) (hx:ev L x=some (.pointer (some ⟨g,0,none⟩))) (hb:Blk w g T [v]) (hg:z2b P t) (hn:Nat.blt d n=true) (q:∀a,AgM ds a n ((d,v)::L)->wpList P ops Q rest a w) :
 wpList P ops Q (⟨some d,.load t x,ty,pos,after,none⟩::rest) a w:=y7d h hx (by rw [hb.cell];rfl) hg hn q
theorem z3w (hx:ev L x=some (.pointer (some ⟨g,0,none⟩))) (hb:Blk w g T [v]) (hg:z2b P t) (q:WL P ops Q rest n ds w ((d,v)::L)) (hn:Nat.blt d n=true:=by exact rfl):WL P ops Q (⟨some d,.load t x,ty,pos,after,none⟩::rest) n ds w L:=λa h=>v4i h hx hb hg hn q -- short
theorem v2o (h:AgM ds a n L) (hx:ev L x=some (.pointer (some ⟨g,0,none⟩))) (hb:Blk w g T cs) (hg:z3p P t cs.length) (hn:Nat.blt d n=true) (q:∀a,AgM ds a n ((d,.agg cs.toArray)::L)->wpList P ops Q rest a w) :
 wpList P ops Q (⟨some d,.load t x,ty,pos,after,none⟩::rest) a w:=z1p h hx hb.cells hg hn q
theorem z0n (hx:ev L x=some (.pointer (some ⟨g,0,none⟩))) (hb:Blk w g T cs) (hg:z3p P t cs.length) (q:WL P ops Q rest n ds w ((d,.agg cs.toArray)::L)) (hn:Nat.blt d n=true:=by exact rfl):WL P ops Q (⟨some d,.load t x,ty,pos,after,none⟩::rest) n ds w L:=λa h=>v2o h hx hb hg hn q -- short
section
variable {K:Act->World->Prop} {fu:Nat} {listed:Array Bool} {pq:Option Nat}
theorem z0l {G:Option (Nat×Bool)} (ix:Nat) (h:AgM ds a n L) (hx:ev L x=some (.pointer (some ((⟨g,0,none⟩:Addr).add off)))) (hb:∀w,C w->Blk w g T cs) (hv:cs[off]?=some v) (hg:z2b P t) (hix:ops[ix]?=some ⟨some d,.load t x,ty,pos,after,G⟩) (q:∀a,AgM ds a n ((d,v)::L)->z0w pq P ops (z0p K) C fu (listed.setIfInBounds ix true) a w) (hsel:Region.noSelect ops=true:=by kernel_rfl) (hfr:Fre pq ops listed ix=true:=by kernel_rfl) (hre:(Region.ready .any ops listed).contains ix=true:=by kernel_rfl) (hC:C w:=by exact hC) (hG:Wd ops n L G:=by exact wn) (hn:Nat.blt d n=true:=by exact rfl):z0w pq P ops (z0p K) C (fu+1) listed a w:=
  y7s ix hsel hfr hre hC h hG hx (λw hw=>(hb w hw).cellAdd hv) hg hix hn q
theorem y4x {G:Option (Nat×Bool)} (ix:Nat) (hC:C w) (h:AgM ds a n L) (hG:Wd ops n L G) (hx:ev L x=some (.pointer (some ⟨g,0,none⟩))) (hb:∀w,C w->Blk w g T [v]) (hg:z2b P t) (hix:ops[ix]?=some ⟨some d,.load t x,ty,pos,after,G⟩) (hn:Nat.blt d n=true) (q:∀a,AgM ds a n ((d,v)::L)->z0w pq P ops (z0p K) C fu (listed.setIfInBounds ix true) a w) (hsel:Region.noSelect ops=true:=by kernel_rfl) (hfr:Fre pq ops listed ix=true:=by kernel_rfl) (hre:(Region.ready .any ops listed).contains ix=true:=by kernel_rfl):z0w pq P ops (z0p K) C (fu+1) listed a w:=
  y7s ix hsel hfr hre hC h hG hx (λw hw=>by rw [(hb w hw).cell];rfl) hg hix hn q
theorem z0t {G:Option (Nat×Bool)} (ix:Nat) (h:AgM ds a n L) (hx:ev L x=some (.pointer (some ⟨g,0,none⟩))) (hb:∀w,C w->Blk w g T cs) (hg:z3p P t cs.length) (hix:ops[ix]?=some ⟨some d,.load t x,ty,pos,after,G⟩) (q:∀a,AgM ds a n ((d,.agg cs.toArray)::L)->z0w pq P ops (z0p K) C fu (listed.setIfInBounds ix true) a w) (hsel:Region.noSelect ops=true:=by kernel_rfl) (hfr:Fre pq ops listed ix=true:=by kernel_rfl) (hre:(Region.ready .any ops listed).contains ix=true:=by kernel_rfl) (hC:C w:=by exact hC) (hG:Wd ops n L G:=by exact wn) (hn:Nat.blt d n=true:=by exact rfl):z0w pq P ops (z0p K) C (fu+1) listed a w:=
  z2l ix h hG hx (λw hw=>(hb w hw).cells) hg hix q (hsel:=hsel) (hfr:=hfr) (hre:=hre) (hn:=hn)
end
theorem x0i {ad:Addr} (h:AgM ds a n L) (hx:ev L x=some (.pointer (some ad))) (hc:∀w,C w->Cells w ad [v]) (hg:z2b P t) (hn:Nat.blt d n=true) (q:∀a,AgM ds a n ((d,v)::L)->wpQuiet P ops C Qa rest a) :
 wpQuiet P ops C Qa (⟨some d,.load t x,ty,pos,after,none⟩::rest) a:=v2m h hx (λw hw=>by have:=hc w hw 0 v rfl;rwa [Addr.add_zero'] at this) hg hn q
theorem x4o {G:Option (Nat×Bool)} {α:Type} {E:Enc α} {bytes p:Nat} {ad:Addr} (h:AgM ds a n L) (hx:ev L x=some (.slice (some ad) m cp)) (hy:ev L y=some (.int k i)) (he:ElemOf P t T E bytes) (h0:0<=i) (hi:i<m) (hp:i.toNat=p) :
    (execOp a.eval ⟨some d,.indexAddr t x y,ty,pos,after,G⟩).run P w=.ok (.value (.pointer (some (ad.add (p*E.sz))))) w:=by
  subst hp
  obtain ⟨inf,zv,hin,_,hsz,_⟩:=he.info
  simp [execOp,h.eval hx,h.eval hy,Instr.indexAt,asIntOf,run_underlying he.und,h0,hi,sizeOf,typeInfo,hin,hsz]
theorem y9i {α:Type} {E:Enc α} {bytes p:Nat} {ad:Addr} (h:AgM ds a n L) (hx:ev L x=some (.slice (some ad) m cp)) (hy:ev L y=some (.int k i)) (he:ElemOf P t T E bytes) (h0:0<=i) (hi:i<m) (hp:i.toNat=p) (hn:Nat.blt d n=true)
    (q:∀a,AgM ds a n ((d,.pointer (some (ad.add (p*E.sz))))::L)->wpList P ops Q rest a w):wpList P ops Q (⟨some d,.indexAddr t x y,ty,pos,after,none⟩::rest) a w:=
  z1u h rfl rfl hn (x4o h hx hy he h0 hi hp) q
theorem z8r {α:Type} {E:Enc α} {bytes p:Nat} {ad:Addr} (hx:ev L x=some (.slice (some ad) m cp)) (hy:ev L y=some (.int k i)) (he:ElemOf P t T E bytes) (q:WL P ops Q rest n ds w ((d,.pointer (some (ad.add (p*E.sz))))::L)) (h0:0<=i:=by omega) (hi:i<m:=by omega) (hp:i.toNat=p:=by omega) (hn:Nat.blt d n=true:=by exact rfl):WL P ops Q (⟨some d,.indexAddr t x y,ty,pos,after,none⟩::rest) n ds w L:=λa h=>y9i h hx hy he h0 hi hp hn q -- short
theorem u2h {α:Type} {E:Enc α} {bytes p:Nat} {ad:Addr} (h:AgM ds a n L) (hx:ev L x=some (.slice (some ad) m cp)) (hy:ev L y=some (.int k i)) (he:ElemOf P t T E bytes) (h0:0<=i) (hi:i<m) (hp:i.toNat=p) (hn:Nat.blt d n=true)
    (q:∀a,AgM ds a n ((d,.pointer (some (ad.add (p*E.sz))))::L)->wpQuiet P ops C Qa rest a):wpQuiet P ops C Qa (⟨some d,.indexAddr t x y,ty,pos,after,none⟩::rest) a:=
  y1s h rfl rfl hn (λ_ _=>x4o h hx hy he h0 hi hp) q
theorem z1n {G:Option (Nat×Bool)} {K:Act->World->Prop} {fu:Nat} {listed:Array Bool} {pq:Option Nat} {α:Type} {E:Enc α} {bytes p:Nat} {ad:Addr} (ix:Nat) (hsel:Region.noSelect ops=true) (hfr:Fre pq ops listed ix=true) (hre:(Region.ready .any ops listed).contains ix=true) (hC:C w) (h:AgM ds a n L) (hG:Wd ops n L G)
    (hx:ev L x=some (.slice (some ad) m cp)) (hy:ev L y=some (.int k i)) (he:ElemOf P t T E bytes) (h0:0<=i) (hi:i<m) (hp:i.toNat=p) (hix:ops[ix]?=some ⟨some d,.indexAddr t x y,ty,pos,after,G⟩) (hn:Nat.blt d n=true)
    (q:∀a,AgM ds a n ((d,.pointer (some (ad.add (p*E.sz))))::L)->z0w pq P ops (z0p K) C fu (listed.setIfInBounds ix true) a w):z0w pq P ops (z0p K) C (fu+1) listed a w:=
  z6b ix hsel hfr hre h hG hix rfl hn (λ_ _=>x4o h hx hy he h0 hi hp) q
theorem v7g {ad:Addr} (h:AgM ds a n L) (hx:ev L x=some (.pointer (some (ad.add off)))) (hc:Cells w ad cs) (hv:cs[off]?=some v) (hg:z2b P t) (hn:Nat.blt d n=true) (q:∀a,AgM ds a n ((d,v)::L)->wpList P ops Q rest a w) :
 wpList P ops Q (⟨some d,.load t x,ty,pos,after,none⟩::rest) a w:=y7d h hx (hc off v hv) hg hn q
theorem z7s {ad:Addr} (hx:ev L x=some (.pointer (some (ad.add off)))) (hc:Cells w ad cs) (hv:cs[off]?=some v) (hg:z2b P t) (q:WL P ops Q rest n ds w ((d,v)::L)) (hn:Nat.blt d n=true:=by exact rfl):WL P ops Q (⟨some d,.load t x,ty,pos,after,none⟩::rest) n ds w L:=λa h=>v7g h hx hc hv hg hn q -- short
theorem v5b {ad:Addr} (h:AgM ds a n L) (hx:ev L x=some (.pointer (some ad))) (hc:Cells w ad [v]) (hg:z2b P t) (hn:Nat.blt d n=true) (q:∀a,AgM ds a n ((d,v)::L)->wpList P ops Q rest a w) :
 wpList P ops Q (⟨some d,.load t x,ty,pos,after,none⟩::rest) a w:=y7d h hx (by have:=hc 0 v rfl;rwa [Addr.add_zero'] at this) hg hn q
theorem z1i {ad:Addr} (hx:ev L x=some (.pointer (some ad))) (hc:Cells w ad [v]) (hg:z2b P t) (q:WL P ops Q rest n ds w ((d,v)::L)) (hn:Nat.blt d n=true:=by exact rfl):WL P ops Q (⟨some d,.load t x,ty,pos,after,none⟩::rest) n ds w L:=λa h=>v5b h hx hc hg hn q -- short
theorem z4h (h:AgM ds a n L) (hx:ev L x=some (.pointer (some ((⟨g,0,none⟩:Addr).add off)))) (hy:ev L y=some v) (hb:Blk w g T cs) (ho:Nat.blt off cs.length=true) (h1:v.oneCell'=true) (hc:v.cells=#[v]) (hs:z1q P t 1)
    (q:∀w',Blk w' g T (cs.set off v)->Fr [g] w w'->w'.heap.size=w.heap.size->∀a,AgM ds a n L->wpList P ops Q rest a w'):wpList P ops Q (⟨none,.store t x y,ty,pos,after,none⟩::rest) a w:=
  x5r (o:=off) h (by rw [hx,z3l,Nat.zero_add]) hy hb ho h1 hc hs q
theorem z3u (hx:ev L x=some (.pointer (some ((⟨g,0,none⟩:Addr).add off)))) (hy:ev L y=some v) (hb:Blk w g T cs) (hc:v.cells=#[v]) (hs:z1q P t 1) (q:∀w',Blk w' g T (cs.set off v)->Fr [g] w w'->w'.heap.size=w.heap.size->WL P ops Q rest n ds w' L) (ho:Nat.blt off cs.length=true:=by exact rfl) (h1:v.oneCell'=true:=by exact rfl):WL P ops Q (⟨none,.store t x y,ty,pos,after,none⟩::rest) n ds w L:=λa h=>z4h h hx hy hb ho h1 hc hs q -- short
theorem y5s (h:AgM ds a n L) (hx:ev L x=some (.pointer (some ⟨g,0,none⟩))) (hy:ev L y=some v) (hb:Blk w g T [u]) (h1:v.oneCell'=true) (hc:v.cells=#[v]) (hs:z1q P t 1)
    (q:∀w',Blk w' g T [v]->Fr [g] w w'->w'.heap.size=w.heap.size->∀a,AgM ds a n L->wpList P ops Q rest a w'):wpList P ops Q (⟨none,.store t x y,ty,pos,after,none⟩::rest) a w:=
  x5r (o:=0) h hx hy hb rfl h1 hc hs q
theorem z5u (hx:ev L x=some (.pointer (some ⟨g,0,none⟩))) (hy:ev L y=some v) (hb:Blk w g T [u]) (hc:v.cells=#[v]) (hs:z1q P t 1) (q:∀w',Blk w' g T [v]->Fr [g] w w'->w'.heap.size=w.heap.size->WL P ops Q rest n ds w' L) (h1:v.oneCell'=true:=by exact rfl):WL P ops Q (⟨none,.store t x y,ty,pos,after,none⟩::rest) n ds w L:=λa h=>y5s h hx hy hb h1 hc hs q -- short
theorem z0u {vs:List Value} (h:AgM ds a n L) (hx:ev L x=some (.pointer (some ⟨g,0,none⟩))) (hy:ev L y=some (.agg vs.toArray)) (hb:Blk w g T cs) (hl:vs.length=cs.length) (hs:z1q P t vs.length) (q:∀w',Blk w' g T vs->Fr [g] w w'->w'.heap.size=w.heap.size->∀a,AgM ds a n L->wpList P ops Q rest a w') (h1:∀u∈vs,u.oneCell'=true:=by first|(simp [Value.oneCell',S];done)|exact Enc.one _ _):wpList P ops Q (⟨none,.store t x y,ty,pos,after,none⟩::rest) a w:=by
  have hst:=run_storeCells_at P g 0 T vs 0 cs.toArray w hb (by simp;omega) h1
  refine z8i h rfl rfl (w':=w.setRow g vs.toArray) ?_ (q _ ?_ (Fr.setRow w g _) (by simp))
  · simp [execOp,h.eval hx,h.eval hy,Instr.storeAt,Instr.sureAddr,storeVar,hs w,Value.cells,hst,hl]
  · unfold Blk;exact setRow_heap w g cs.toArray _ T (0,0) hb
theorem z0j {vs:List Value} (hx:ev L x=some (.pointer (some ⟨g,0,none⟩))) (hy:ev L y=some (.agg vs.toArray)) (hb:Blk w g T cs) (hs:z1q P t vs.length) (q:∀w',Blk w' g T vs->Fr [g] w w'->w'.heap.size=w.heap.size->WL P ops Q rest n ds w' L) (hl:vs.length=cs.length:=by rfl) (h1:∀u∈vs,u.oneCell'=true:=by first|(simp [Value.oneCell',S];done)|exact Enc.one _ _):WL P ops Q (⟨none,.store t x y,ty,pos,after,none⟩::rest) n ds w L:=λa h=>z0u h hx hy hb hl hs q (h1:=h1) -- short
theorem v3y {G:Option (Nat×Bool)} {ad:Addr} {N sz:Nat} (h:AgM ds a n L) (hx:ev L x=some (.pointer (some ad))) (hy:ev L y=some (.int k i)) (hu:P.underlying t=some (.array N T)) (hs:z1q P T sz) (h0:0<=i) (h1:i<N) :
    (execOp a.eval ⟨some d,.indexAddr t x y,ty,pos,after,G⟩).run P w=.ok (.value (.pointer (some (ad.add (i.toNat*sz))))) w:=by
  simp [execOp,h.eval hx,h.eval hy,Instr.indexAt,asIntOf,run_underlying hu,Instr.sureAddr,h0,h1,hs w]
theorem u6r {ad:Addr} {N sz:Nat} (h:AgM ds a n L) (hx:ev L x=some (.pointer (some ad))) (hy:ev L y=some (.int k i)) (hu:P.underlying t=some (.array N T)) (hs:z1q P T sz) (h0:0<=i) (h1:i<N) (hn:Nat.blt d n=true)
    (q:∀a,AgM ds a n ((d,.pointer (some (ad.add (i.toNat*sz))))::L)->wpList P ops Q rest a w):wpList P ops Q (⟨some d,.indexAddr t x y,ty,pos,after,none⟩::rest) a w:=
  z1u h rfl rfl hn (v3y h hx hy hu hs h0 h1) q
theorem y2l {ad:Addr} {N sz:Nat} (hx:ev L x=some (.pointer (some ad))) (hy:ev L y=some (.int k i)) (hu:P.underlying t=some (.array N T)) (hs:z1q P T sz) (q:WL P ops Q rest n ds w ((d,.pointer (some (ad.add (i.toNat*sz))))::L)) (h0:0<=i:=by omega) (h1:i<N:=by omega) (hn:Nat.blt d n=true:=by exact rfl):WL P ops Q (⟨some d,.indexAddr t x y,ty,pos,after,none⟩::rest) n ds w L:=λa h=>u6r h hx hy hu hs h0 h1 hn q -- short
theorem u4d {vs:List Value} {N:Nat} (h:AgM ds a n L) (hx:ev L x=some (.agg vs.toArray)) (hy:ev L y=some (.int k i)) (hu:P.underlying t=some (.array N T)) (hs:z1q P T 1) (ha:z2b P T) (h0:0<=i) (h1:i<N) (hv:vs[i.toNat]?=some v) (hn:Nat.blt d n=true)
    (q:∀a,AgM ds a n ((d,v)::L)->wpList P ops Q rest a w):wpList P ops Q (⟨some d,.index t x y,ty,pos,after,none⟩::rest) a w:=
  z1u h rfl rfl hn (by simp [execOp,h.eval hx,h.eval hy,Instr.index,asIntOf,run_underlying hu,h0,h1,hs w,part,ha w,hv]) q
theorem u0e {vs:List Value} {N:Nat} (hx:ev L x=some (.agg vs.toArray)) (hy:ev L y=some (.int k i)) (hu:P.underlying t=some (.array N T)) (hs:z1q P T 1) (ha:z2b P T) (hv:vs[i.toNat]?=some v) (hn:Nat.blt d n=true) (q:WL P ops Q rest n ds w ((d,v)::L)) (h0:0<=i:=by omega) (h1:i<N:=by omega):WL P ops Q (⟨some d,.index t x y,ty,pos,after,none⟩::rest) n ds w L:=λa h=>u4d h hx hy hu hs ha h0 h1 hv hn q -- short
theorem x1s (vs:List Value):∀(off:Nat) (cs:Array Value),off+vs.length<=cs.size->
    ((vs.zipIdx 0).foldl (λcs (p:Value×Nat)=>cs.setIfInBounds (off+p.2) p.1) cs)=(cs.toList.take off++vs++cs.toList.drop (off+vs.length)).toArray:=by
  have key:∀(vs:List Value) (s off:Nat) (cs:Array Value),off+s+vs.length<=cs.size->
      ((vs.zipIdx s).foldl (λcs (p:Value×Nat)=>cs.setIfInBounds (off+p.2) p.1) cs)=(cs.toList.take (off+s)++vs++cs.toList.drop (off+s+vs.length)).toArray:=by
    intro vs
    induction vs with
    | nil=>intro s off cs _;simp
    | cons v vs ih=>
      intro s off cs hl
      simp only [List.zipIdx_cons,List.foldl_cons]
      rw [show s+1=s+1 from rfl,ih (s+1) off _ (by simp at hl ⊢;omega)]
      have e:=list_seg_step cs.toList (off+s) v vs (by simp at hl ⊢;omega)
      simpa [Array.toList_setIfInBounds,Nat.add_assoc] using e
  intro off cs h
  simpa using key vs 0 off cs (by simpa using h)
theorem x5d {α:Type} (E:Enc α):∀(ys:List α) (vs:List Value) (s:Nat) (cs:Array Value) (N:Nat),vs.map Value.cells=ys.map (λy=>(E.enc y).toArray)->cs.size=N*E.sz->s+ys.length=N->
    Instr.fill (λi=>some (i*E.sz,E.sz)) cs ((List.range' s ys.length).zip vs)=some (cs.toList.take (s*E.sz)++ys.flatMap E.enc).toArray
  | [],_,s,cs,N,_,hc,hN=>by
    simp only [List.length_nil,List.range'_zero,List.zip_nil_left,Instr.fill,List.flatMap_nil,List.append_nil]
    rw [List.take_of_length_le (by simp [hc];rw [<-hN];simp)]
  | y::ys,[],s,cs,N,h,_,_=>by simp at h
  | y::ys,v::vs,s,cs,N,h,hc,hN=>by
    simp only [List.map_cons,List.cons.injEq] at h
    obtain ⟨hv,hr⟩:=h
    simp only [List.length_cons] at hN ⊢
    rw [List.range'_succ,List.zip_cons_cons]
    simp only [Instr.fill]
    have hsz:v.cells.size=E.sz:=by rw [hv];simp [E.len]
    have hle:s*E.sz+E.sz<=cs.size:=by
      rw [hc]
      have:(s+1)*E.sz<=N*E.sz:=Nat.mul_le_mul_right _ (by omega)
      rw [Nat.add_mul,Nat.one_mul] at this;exact this
    rw [if_neg (by simp [hsz];omega)]
    have hfold:(v.cells.zipIdx.foldl (λcs (p:Value×Nat)=>cs.setIfInBounds (s*E.sz+p.2) p.1) cs)=(cs.toList.take (s*E.sz)++E.enc y++cs.toList.drop (s*E.sz+(E.enc y).length)).toArray:=by
      rw [<-x1s (E.enc y) (s*E.sz) cs (by rw [E.len];exact hle),hv]
      simp [<-Array.foldl_toList]
    have:=x5d E ys vs (s+1) (cs.toList.take (s*E.sz)++E.enc y++cs.toList.drop (s*E.sz+(E.enc y).length)).toArray N hr (by simp [E.len];omega) (by omega)
    rw [hfold,this]
    congr 2
    rw [List.flatMap_cons,<-List.append_assoc]
    congr 1
    rw [Nat.add_mul,Nat.one_mul]
    have h2:s*E.sz+E.sz=(cs.toList.take (s*E.sz)++E.enc y).length:=by simp [E.len];omega
    rw [h2]
    exact List.take_left
theorem y3v {a:Act}:∀(ps:List (Nat×Operand)),ps.map (λp=>(p.1,a.eval p.2))=(ps.map (λp=>p.1)).zip (ps.map (a.eval ∘ λp=>p.2))
 | []=>rfl
 | p::ps=>by simp only [List.map_cons,List.zip_cons_cons,y3v ps];rfl
theorem z2o {α:Type} {E:Enc α} {bytes len:Nat} {parts:List (Nat×Operand)} {vs:List Value} (ys:List α) (h:AgM ds a n L) (hp:evs L (parts.map (·.2)) vs) (hi:parts.map (·.1)=List.range' 0 ys.length) (hy:vs.map Value.cells=ys.map (λy=>(E.enc y).toArray)) (hl:ys.length=len) (he:ElemOf P t T E bytes) (q:∀g w',g=w.heap.size->Own E T g w' (.slice (some ⟨g,0,none⟩) len len) ys->Fr [] w w'->w'.heap.size=g+1->∀a,AgM ds a n ((d,.slice (some ⟨g,0,none⟩) len len)::L)->wpList P ops Q rest a w') (hsm:len*E.sz<=16777216:=by exact (Nat.le_of_ble_eq_true rfl)) (hn:Nat.blt d n=true:=by exact rfl) :
    wpList P ops Q (⟨some d,.buildSlice t len parts.toArray,ty,pos,after,none⟩::rest) a w:=by
  obtain ⟨inf,zv,hin,hz,hsz,hby,hzs⟩:=he.info
  have hm:parts.map (λp=>(p.1,a.eval p.2))=(List.range' 0 ys.length).zip vs:=by
    have h1:=h.evals hp
    rw [List.map_map] at h1
    rw [<-hi,<-h1]
    exact y3v parts
  have hfill:=x5d E ys vs 0 ((Array.range (len*E.sz)).map (zv.cells[· % zv.cells.size]!)) len hy (by simp) (by omega)
  rw [Nat.zero_mul,List.take_zero,List.nil_append] at hfill
  have hno:¬16777216<len*E.sz:=by omega
  refine z1u h rfl rfl hn (w':=w.alloc (.cells (ys.flatMap E.enc).toArray T)) ?_ (q _ _ rfl ?_ (Fr.alloc [] w _) (by simp))
  · simp only [execOp,List.map_toArray,hm,Instr.buildSlice,Sem.run_bind,run_underlying he.und,Result.andThen_ok,sizeOf,typeInfo,Sem.run_pure]
    by_cases h0:len*E.sz=0
    · have hlen:len=0:=by
        rcases Nat.mul_eq_zero.1 h0 with h|h
        · exact h
        · have:=E.pos;omega
      subst hlen
      have hys:ys=[]:=List.eq_nil_of_length_eq_zero hl
      subst hys
      simp [hin,hsz,Instr.fill,newRow]
      rw [show Array.range 0=#[] from rfl];simp
    · simp [hin,hsz,h0,hno,zeroValue,typeInfo,hz,newRow,hfill]
  · exact .inr ⟨_,len,_,by rw [hl],Nat.le_refl _,heap_alloc_new w _,by omega,by simp only [maxLen];have:=E.pos;have:len<=len*E.sz:=Nat.le_mul_of_pos_right _ E.pos;omega,by simp [E.flat_len,hl],by
      rw [List.take_of_length_le (by simp [E.flat_len])]⟩
theorem z2f {α:Type} {E:Enc α} {bytes len:Nat} {parts:List (Nat×Operand)} {vs:List Value} (ys:List α) (hp:evs L (parts.map (·.2)) vs) (hi:parts.map (·.1)=List.range' 0 ys.length) (hy:vs.map Value.cells=ys.map (λy=>(E.enc y).toArray)) (hl:ys.length=len) (he:ElemOf P t T E bytes) (q:∀g w',g=w.heap.size->Own E T g w' (.slice (some ⟨g,0,none⟩) len len) ys->Fr [] w w'->w'.heap.size=g+1->WL P ops Q rest n ds w' ((d,.slice (some ⟨g,0,none⟩) len len)::L)) (hsm:len*E.sz<=16777216:=by exact (Nat.le_of_ble_eq_true rfl)) (hn:Nat.blt d n=true:=by exact rfl):WL P ops Q (⟨some d,.buildSlice t len parts.toArray,ty,pos,after,none⟩::rest) n ds w L:=λa h=>z2o ys h hp hi hy hl he q (hsm:=hsm) (hn:=hn) -- short
theorem x3d {fn:Fn} {fs cs:List Operand} {us vs:List Value} (h:AgM ds a n L) (h1:evs L fs us) (h2:evs L cs vs) (hn:Nat.blt d n=true) (q:∀a,AgM ds a n ((d,.func fn us.toArray vs.toArray)::L)->wpList P ops Q rest a w) :
    wpList P ops Q (⟨some d,.makeFunc fn fs.toArray cs.toArray,ty,pos,after,none⟩::rest) a w:=
  z1u h rfl rfl hn (by simp [execOp,Instr.makeFunc,h.evals h1,h.evals h2]) q
theorem z7l {fn:Fn} {fs cs:List Operand} {us vs:List Value} (h1:evs L fs us) (h2:evs L cs vs) (hn:Nat.blt d n=true) (q:WL P ops Q rest n ds w ((d,.func fn us.toArray vs.toArray)::L)):WL P ops Q (⟨some d,.makeFunc fn fs.toArray cs.toArray,ty,pos,after,none⟩::rest) n ds w L:=λa h=>x3d h h1 h2 hn q -- short
theorem z9b {f:FuncId} {xs:List Operand} {vs us ws:List Value} {ts:Array TypeId} {Φ:Value->World->Prop} (h:AgM ds a n L) (hy:ev L y=some (.func (.func f) us.toArray ws.toArray)) (hx:evs L xs vs) (hf:CallOf P f) (hc:Rets P f (us++vs++ws).toArray w Φ) (hn:Nat.blt d n=true)
    (hnf:∀g,y≠.func g)
    (q:∀v w',Φ v w'->∀a,AgM ds a n ((d,v)::L)->wpList P ops Q rest a w'):wpList P ops Q (⟨some d,.call ⟨.value y,xs.toArray,ts⟩,ty,pos,after,none⟩::rest) a w:=
  x5c (w':=w) h rfl rfl hn (by
    simp only [execOp,resolve,h.eval hy,Deferred.ofValue,Sem.run_bind,Sem.run_pure,Result.andThen_ok,invoke,List.map_toArray,h.evals hx,List.append_toArray]
    exact hf _ _) hc q
theorem clv {f:FuncId} {xs:List Operand} {vs us ws:List Value} {ts:Array TypeId} {Φ:Value->World->Prop} (hy:ev L y=some (.func (.func f) us.toArray ws.toArray)) (hx:evs L xs vs) (hf:CallOf P f) (hc:Rets P f (us++vs++ws).toArray w Φ) (hn:Nat.blt d n=true) (hnf:∀g,y≠.func g) (q:∀v w',Φ v w'->WL P ops Q rest n ds w' ((d,v)::L)):WL P ops Q (⟨some d,.call ⟨.value y,xs.toArray,ts⟩,ty,pos,after,none⟩::rest) n ds w L:=λa h=>z9b h hy hx hf hc hn hnf q -- short
def z8p (cs:List Value) (off:Nat) (vs:List Value):List Value:=cs.take off++vs++cs.drop (off+vs.length)
def z6p (pl:List (Nat×Nat)) (m:Nat):List (Nat×Value)->Prop
  | []=>True
  | p::r=>(∃q,pl[p.1]?=some q/\p.2.cells.size=q.2/\Nat.ble (q.1+q.2) m=true)/\z6p pl m r
theorem z0s {pl:List (Nat×Nat)} {m:Nat}:z6p pl m []:=trivial
theorem z0f {pl:List (Nat×Nat)} {m i:Nat} {q:Nat×Nat} {v:Value} {r:List (Nat×Value)} (h1:pl[i]?=some q) (h2:v.cells.size=q.2) (h3:Nat.ble (q.1+q.2) m=true) (hr:z6p pl m r):z6p pl m ((i,v)::r):=⟨⟨q,h1,h2,h3⟩,hr⟩
def y3p (pl:List (Nat×Nat)) (zs:List Value) (ps:List (Nat×Value)):List Value:=ps.foldl (λcs p=>z8p cs (pl.getD p.1 (0,0)).1 p.2.cells.toList) zs
def BuildAt (P:Program) (t:TypeId) (pl:List (Nat×Nat)) (zs:List Value):Prop:=∀(ps:List (Nat×Value)) (w:World),z6p pl zs.length ps->(Instr.build t ps.toArray).run P w=.ok (.agg (y3p pl zs ps).toArray) w
theorem x8k (cs vs:List Value) (off:Nat) (h:off+vs.length<=cs.length):(z8p cs off vs).length=cs.length:=by simp [z8p];omega
theorem z9m (pl:List (Nat×Nat)) (f:Nat->Option (Nat×Nat)) (hf:∀i q,pl[i]?=some q->f i=some q):∀(ps:List (Nat×Value)) (cs:List Value),z6p pl cs.length ps->Instr.fill f cs.toArray ps=some (y3p pl cs ps).toArray
 | [],cs,_=>rfl
 | (i,v)::ps,cs,⟨⟨q,h1,h2,h3⟩,hr⟩=>by
  have h3':q.1+q.2<=cs.length:=by simpa [Nat.ble_eq] using h3
  have hl:v.cells.toList.length=q.2:=by simpa using h2
  have hs:(z8p cs q.1 v.cells.toList).length=cs.length:=x8k _ _ _ (by rw [hl];exact h3')
  have hfold:(v.cells.zipIdx.foldl (λcs (p:Value×Nat)=>cs.setIfInBounds (q.1+p.2) p.1) cs.toArray)=(z8p cs q.1 v.cells.toList).toArray:=by
   have e:=x1s v.cells.toList q.1 cs.toArray (by simpa [h2] using h3')
   rw [z8p]
   simp only at e
   rw [<-e,<-Array.foldl_toList,Array.toList_zipIdx]
  simp only [Instr.fill,hf i q h1]
  rw [if_neg (by simp [h2];omega)]
  rw [hfold,z9m pl f hf ps _ (by rw [hs];exact hr)]
  simp [y3p,List.getD,h1]
theorem BuildAt.struct {t:TypeId} {fs:Array Field} {pl:List (Nat×Nat)} {zs:List Value} (hu:P.underlying t=some (.struct fs)) (hz:∀w:World,(zeroValue t).run P w=.ok (.agg zs.toArray) w)
    (hp:∀w:World,(fs.mapM λf=>do pure (f.offset,<-sizeOf f.type):Sem (Array (Nat×Nat))).run P w=.ok pl.toArray w):BuildAt P t pl zs:=by
  intro ps w hok
  have hfill:=z9m pl (λi=>pl.toArray[i]?) (λi q h=>by simpa using h) ps zs hok
  simp only [Instr.build,Sem.run_bind,hz w,Result.andThen_ok,run_underlying hu,hp w,Value.cells,hfill]
  rfl
theorem BuildAt.array {t T:TypeId} {N sz:Nat} {pl:List (Nat×Nat)} {zs:List Value} (hu:P.underlying t=some (.array N T)) (hz:∀w:World,(zeroValue t).run P w=.ok (.agg zs.toArray) w) (hs:z1q P T sz)
    (hp:∀i q,pl[i]?=some q->q=(i*sz,sz)):BuildAt P t pl zs:=by
  intro ps w hok
  have hfill:=z9m pl (λi=>some (i*sz,sz)) (λi q h=>by rw [hp i q h]) ps zs hok
  simp only [Instr.build,Sem.run_bind,hz w,Result.andThen_ok,run_underlying hu,hs w,Value.cells,hfill]
  rfl
theorem x7o {vs cs':List Value} (h:AgM ds a n L) (hx:ev L x=some (.pointer (some ((⟨g,0,none⟩:Addr).add off)))) (hy:ev L y=some (.agg vs.toArray)) (hb:Blk w g T cs) (hl:Nat.ble (off+vs.length) cs.length=true) (h1:∀u∈vs,u.oneCell'=true) (hs:z1q P t vs.length) (hcs:z8p cs off vs=cs')
    (q:∀w',Blk w' g T cs'->Fr [g] w w'->w'.heap.size=w.heap.size->∀a,AgM ds a n L->wpList P ops Q rest a w'):wpList P ops Q (⟨none,.store t x y,ty,pos,after,none⟩::rest) a w:=by
  subst hcs
  rw [z3l,Nat.zero_add] at hx
  have hst:=run_storeCells_at P g off T vs 0 cs.toArray w hb (by have:=Nat.le_of_ble_eq_true hl;simp;omega) h1
  refine z8i h rfl rfl (w':=w.setRow g (z8p cs off vs).toArray) ?_ (q _ ?_ (Fr.setRow w g _) (by simp))
  · have hst':(storeCells ⟨g,off,none⟩ vs 0).run P w=.ok () (w.setRow g (z8p cs off vs).toArray):=by simpa [z8p] using hst
    simp [execOp,h.eval hx,h.eval hy,Instr.storeAt,Instr.sureAddr,storeVar,hs w,Value.cells,hst']
  · unfold Blk;exact setRow_heap w g cs.toArray _ T (0,0) hb
theorem z4l {vs cs':List Value} (hx:ev L x=some (.pointer (some ((⟨g,0,none⟩:Addr).add off)))) (hy:ev L y=some (.agg vs.toArray)) (hb:Blk w g T cs) (h1:∀u∈vs,u.oneCell'=true) (hs:z1q P t vs.length) (hcs:z8p cs off vs=cs') (q:∀w',Blk w' g T cs'->Fr [g] w w'->w'.heap.size=w.heap.size->WL P ops Q rest n ds w' L) (hl:Nat.ble (off+vs.length) cs.length=true:=by exact rfl):WL P ops Q (⟨none,.store t x y,ty,pos,after,none⟩::rest) n ds w L:=λa h=>x7o h hx hy hb hl h1 hs hcs q -- short
theorem u0h {G:Option (Nat×Bool)} {pl:List (Nat×Nat)} {zs cs:List Value} {parts:List (Nat×Operand)} {vs:List Value} (h:AgM ds a n L) (hp:evs L (parts.map (·.2)) vs) (hb:BuildAt P t pl zs) (hok:z6p pl zs.length ((parts.map (·.1)).zip vs)) (hc:y3p pl zs ((parts.map (·.1)).zip vs)=cs) :
    (execOp a.eval ⟨some d,.build t parts.toArray,ty,pos,after,G⟩).run P w=.ok (.value (.agg cs.toArray)) w:=by
  have hm:parts.map (λp=>(p.1,a.eval p.2))=(parts.map (·.1)).zip vs:=by
    rw [y3v,<-h.evals hp,List.map_map]
  simp only [execOp,List.map_toArray,hm,Sem.run_bind,hb _ w hok,Result.andThen_ok,Sem.run_pure,hc]
theorem j0i {pl:List (Nat×Nat)} {zs cs:List Value} {parts:List (Nat×Operand)} {vs:List Value} (h:AgM ds a n L) (hp:evs L (parts.map (·.2)) vs) (hb:BuildAt P t pl zs) (hok:z6p pl zs.length ((parts.map (·.1)).zip vs)) (hc:y3p pl zs ((parts.map (·.1)).zip vs)=cs) (hn:Nat.blt d n=true)
    (q:∀a,AgM ds a n ((d,.agg cs.toArray)::L)->wpList P ops Q rest a w):wpList P ops Q (⟨some d,.build t parts.toArray,ty,pos,after,none⟩::rest) a w:=
  z1u h rfl rfl hn (u0h h hp hb hok hc) q
theorem z1r {pl:List (Nat×Nat)} {zs cs:List Value} {parts:List (Nat×Operand)} {vs:List Value} (hp:evs L (parts.map (·.2)) vs) (hb:BuildAt P t pl zs) (hok:z6p pl zs.length ((parts.map (·.1)).zip vs)) (hc:y3p pl zs ((parts.map (·.1)).zip vs)=cs) (q:WL P ops Q rest n ds w ((d,.agg cs.toArray)::L)) (hn:Nat.blt d n=true:=by exact rfl):WL P ops Q (⟨some d,.build t parts.toArray,ty,pos,after,none⟩::rest) n ds w L:=λa h=>j0i h hp hb hok hc hn q -- short
theorem z2z {G:Option (Nat×Bool)} {K:Act->World->Prop} {fu:Nat} {listed:Array Bool} {pq:Option Nat} (ix:Nat) {pl:List (Nat×Nat)} {zs cs:List Value} {parts:List (Nat×Operand)} {vs:List Value} (h:AgM ds a n L) (hp:evs L (parts.map (·.2)) vs) (hb:BuildAt P t pl zs) (hok:z6p pl zs.length ((parts.map (·.1)).zip vs)) (hc:y3p pl zs ((parts.map (·.1)).zip vs)=cs) (hix:ops[ix]?=some ⟨some d,.build t parts.toArray,ty,pos,after,G⟩) (q:∀a,AgM ds a n ((d,.agg cs.toArray)::L)->z0w pq P ops (z0p K) C fu (listed.setIfInBounds ix true) a w) (hsel:Region.noSelect ops=true:=by kernel_rfl) (hfr:Fre pq ops listed ix=true:=by kernel_rfl) (hre:(Region.ready .any ops listed).contains ix=true:=by kernel_rfl) (hC:C w:=by exact hC) (hG:Wd ops n L G:=by exact wn) (hn:Nat.blt d n=true:=by exact rfl):z0w pq P ops (z0p K) C (fu+1) listed a w:=
  z6b ix hsel hfr hre h hG hix rfl hn (λ_ _=>u0h h hp hb hok hc) q
def x9o {α:Type} [DecidableEq α] (P:Program) (t:TypeId) (V:α->Value):Prop:=
  ∀(e f:α) (ox oy:Operand) (w:World),(eqGuard .eql t ox oy (V e) (V f)).run P w=.ok () w/\(eqGuard .neq t ox oy (V e) (V f)).run P w=.ok () w/\
    (binOp .eql t (V e) (V f)).run P w=.ok (.bool (decide (e=f))) w/\(binOp .neq t (V e) (V f)).run P w=.ok (.bool (!decide (e=f))) w
section
variable {α:Type} [DecidableEq α] {V:α->Value} {e f:α}
theorem u9s {G:Option (Nat×Bool)} (h:AgM ds a n L) (hx:ev L x=some (V e)) (hy:ev L y=some (V f)) (he:x9o P t V):(execOp a.eval ⟨some d,.binOp .eql t x y t',ty,pos,after,G⟩).run P w=.ok (.value (.bool (decide (e=f)))) w:=by
 obtain ⟨h1,_,h3,_⟩:=he e f x y w
 simp [execOp,h.eval hx,h.eval hy,h1,h3]
theorem j2u {G:Option (Nat×Bool)} (h:AgM ds a n L) (hx:ev L x=some (V e)) (hy:ev L y=some (V f)) (he:x9o P t V):(execOp a.eval ⟨some d,.binOp .neq t x y t',ty,pos,after,G⟩).run P w=.ok (.value (.bool (decide (e≠f)))) w:=by
 obtain ⟨_,h2,_,h4⟩:=he e f x y w
 simp [execOp,h.eval hx,h.eval hy,h2,h4]
theorem j2q (h:AgM ds a n L) (hx:ev L x=some (V e)) (hy:ev L y=some (V f)) (he:x9o P t V) (hn:Nat.blt d n=true) (q:∀a,AgM ds a n ((d,.bool (decide (e=f)))::L)->wpList P ops Q rest a w):wpList P ops Q (⟨some d,.binOp .eql t x y t',ty,pos,after,none⟩::rest) a w:=
 z1u h rfl rfl hn (u9s h hx hy he) q
theorem j3h (hx:ev L x=some (V e)) (hy:ev L y=some (V f)) (he:x9o P t V) (hn:Nat.blt d n=true) (q:WL P ops Q rest n ds w ((d,.bool (decide (e=f)))::L)):WL P ops Q (⟨some d,.binOp .eql t x y t',ty,pos,after,none⟩::rest) n ds w L:=λa h=>j2q h hx hy he hn q -- short
theorem j2y (h:AgM ds a n L) (hx:ev L x=some (V e)) (hy:ev L y=some (V f)) (he:x9o P t V) (hn:Nat.blt d n=true) (q:∀a,AgM ds a n ((d,.bool (decide (e≠f)))::L)->wpList P ops Q rest a w):wpList P ops Q (⟨some d,.binOp .neq t x y t',ty,pos,after,none⟩::rest) a w:=
 z1u h rfl rfl hn (j2u h hx hy he) q
theorem v8c (hx:ev L x=some (V e)) (hy:ev L y=some (V f)) (he:x9o P t V) (hn:Nat.blt d n=true) (q:WL P ops Q rest n ds w ((d,.bool (decide (e≠f)))::L)):WL P ops Q (⟨some d,.binOp .neq t x y t',ty,pos,after,none⟩::rest) n ds w L:=λa h=>j2y h hx hy he hn q -- short
end
theorem retC {fn:Func} {R:Ending->World->Prop} {p pt:Nat} (h:Ag a n L) (hr:fn.results=#[.cell p pt]) (hp:look L p=some (.pointer (some ⟨g,0,none⟩))) (hb:Blk w g T cs) (hg:z3p P pt cs.length) (k:R (.returned (.agg cs.toArray)) w):bodyPost P fn R .ret a w:=
 bodyPost_ret (v:=.agg cs.toArray) (by
  have h1:=h.at_ p _ hp
  simp only [Array.getD_eq_getD_getElem?] at h1
  simp [results,hr,h1,asAddr,loadVar,hg.1 w,hg.2 w,run_loadCells_list w _ cs hb.cells]) h.dfr k
theorem j4k {fn:Func} {R:Ending->World->Prop} {p pt q:Nat} (h:Ag a n L) (hr:fn.results=#[.cell p pt,.tmp q]) (hp:look L p=some (.pointer (some ⟨g,0,none⟩))) (hb:Blk w g T cs) (hg:z3p P pt cs.length) (hv:look L q=some v) (k:R (.returned (.tuple #[.agg cs.toArray,v])) w):bodyPost P fn R .ret a w:=
 bodyPost_ret (v:=.tuple #[.agg cs.toArray,v]) (by
  have h1:=h.at_ p _ hp
  have h2:=h.at_ q _ hv
  simp only [Array.getD_eq_getD_getElem?] at h1 h2
  simp [results,hr,h1,h2,asAddr,loadVar,hg.1 w,hg.2 w,run_loadCells_list w _ cs hb.cells]) h.dfr k
theorem j0u {fn:Func} {R:Ending->World->Prop} {p pt q r:Nat} (h:Ag a n L) (hr:fn.results=#[.cell p pt,.tmp q,.tmp r]) (hp:look L p=some (.pointer (some ⟨g,0,none⟩))) (hb:Blk w g T cs) (hg:z3p P pt cs.length) (hv:look L q=some v) (hu:look L r=some u) (k:R (.returned (.tuple #[.agg cs.toArray,v,u])) w):bodyPost P fn R .ret a w:=
 bodyPost_ret (v:=.tuple #[.agg cs.toArray,v,u]) (by
  have h1:=h.at_ p _ hp
  have h2:=h.at_ q _ hv
  have h3:=h.at_ r _ hu
  simp only [Array.getD_eq_getD_getElem?] at h1 h2 h3
  simp [results,hr,h1,h2,h3,asAddr,loadVar,hg.1 w,hg.2 w,run_loadCells_list w _ cs hb.cells]) h.dfr k
end
end Go.Lw
namespace Go.Lw
open Go.RowKit
abbrev SV:=Option Addr×Nat×Nat
def slv (p:SV):Value:=.slice p.1 p.2.1 p.2.2
section
variable {α:Type} {E:Enc α} {T:TypeId} {base:Nat} {w w':World} {X Y S:List Nat} {ps qs:List (SV×List α)} {u u':SV} {r r':List α}
theorem z7x (ys:List α) (z:α) (R:List Value):∀(i:Nat),i<ys.length->(ys.flatMap E.enc++R).take (i*E.sz)++E.enc z++(ys.flatMap E.enc++R).drop (i*E.sz+E.sz)=(ys.set i z).flatMap E.enc++R:=by
 intro i hi
 obtain ⟨p,y,s,rfl,rfl⟩:∃p y s,ys=p++y::s/\p.length=i:=⟨ys.take i,ys[i],ys.drop (i+1),by simp,by simp;omega⟩
 have h1:p.length*E.sz=(p.flatMap E.enc).length:=(E.flat_len p).symm
 rw [List.set_append_right _ _ (Nat.le_refl _),Nat.sub_self,List.set_cons_zero]
 simp only [List.flatMap_append,List.flatMap_cons,List.append_assoc]
 rw [h1,List.take_left,List.drop_append,List.drop_of_length_le (by omega),List.nil_append,show (p.flatMap E.enc).length+E.sz-(p.flatMap E.enc).length=(E.enc y).length by rw [E.len];omega,List.drop_left]
end
section
variable {P:Program} {ops:Array Oper} {Q:Exit->Act->World->Prop} {rest:List Oper} {a:Act} {w:World} {n:Nat} {L:List (Nat×Value)} {ds:List Nat} {ty:TypeId} {pos:String} {after:Array Edge} {x y:Operand} {t T:TypeId} {v:Value}
theorem z1b {α:Type} {E:Enc α} {base g m c i:Nat} {ys:List α} (z:α) (h:AgM ds a n L) (hx:ev L x=some (.pointer (some ((⟨g,0,none⟩:Addr).add (i*E.sz))))) (hy:ev L y=some v) (ho:Own E T base w (.slice (some ⟨g,0,none⟩) m c) ys) (hi:i<ys.length)
    (hc:v.cells=(E.enc z).toArray) (hs:z1q P t E.sz)
    (q:∀w',Own E T base w' (.slice (some ⟨g,0,none⟩) m c) (ys.set i z)->Fr [g] w w'->w'.heap.size=w.heap.size->∀a,AgM ds a n L->wpList P ops Q rest a w'):wpList P ops Q (⟨none,.store t x y,ty,pos,after,none⟩::rest) a w:=by
  rcases ho with ⟨e,_⟩|⟨g',cap,cur,e,hb,hg,h1,h2,h3,h4⟩
  · cases e
  cases e
  have hil:i*E.sz+E.sz<=ys.length*E.sz:=by rw [<-Nat.succ_mul];exact Nat.mul_le_mul_right _ hi
  have hcs:ys.length*E.sz<=cur.size:=Nat.le_trans (Nat.mul_le_mul_right _ h1) h3
  have hst:=run_storeCells_at P g (i*E.sz) T (E.enc z) 0 cur w hg (by rw [E.len];omega) (E.one z)
  rw [Nat.add_zero,E.len] at hst
  have hcur:cur.toList=ys.flatMap E.enc++cur.toList.drop (ys.length*E.sz):=by rw [<-h4,List.take_append_drop]
  have hnew:cur.toList.take (i*E.sz)++E.enc z++cur.toList.drop (i*E.sz+E.sz)=(ys.set i z).flatMap E.enc++cur.toList.drop (ys.length*E.sz):=by
    conv=>lhs;rw [hcur]
    exact z7x ys z _ i hi
  rw [hnew] at hst
  refine z8i h rfl rfl (w':=w.setRow g ((ys.set i z).flatMap E.enc++cur.toList.drop (ys.length*E.sz)).toArray) ?_ (q _ ?_ (Fr.setRow w g _) (by simp))
  · rw [z3l,Nat.zero_add] at hx
    simp only [execOp,h.eval hx,h.eval hy,Sem.run_bind,Sem.run_pure,Result.andThen_ok,Instr.storeAt,Instr.sureAddr,storeVar,hs w,hc]
    simp [hst,E.len]
  · refine .inr ⟨g,c,_,by rw [List.length_set],hb,setRow_heap w g cur _ T _ hg,by rw [List.length_set];exact h1,h2,?_,?_⟩
    · simp only [List.size_toArray,List.length_append,E.flat_len,List.length_set,List.length_drop,Array.length_toList];omega
    · rw [List.length_set,show ys.length*E.sz=((ys.set i z).flatMap E.enc).length by rw [E.flat_len,List.length_set]]
      exact List.take_left
theorem z5b {α:Type} {E:Enc α} {base g m c i:Nat} {ys:List α} (z:α) (hx:ev L x=some (.pointer (some ((⟨g,0,none⟩:Addr).add (i*E.sz))))) (hy:ev L y=some v) (ho:Own E T base w (.slice (some ⟨g,0,none⟩) m c) ys) (hi:i<ys.length) (hc:v.cells=(E.enc z).toArray) (hs:z1q P t E.sz) (q:∀w',Own E T base w' (.slice (some ⟨g,0,none⟩) m c) (ys.set i z)->Fr [g] w w'->w'.heap.size=w.heap.size->WL P ops Q rest n ds w' L):WL P ops Q (⟨none,.store t x y,ty,pos,after,none⟩::rest) n ds w L:=λa h=>z1b z h hx hy ho hi hc hs q -- short
end
section
variable {P:Program} {ops:Array Oper} {o o':Oper} {K:Act->World->Prop} {C:World->Prop} {fu:Nat} {listed:Array Bool} {pq:Option Nat} {a:Act} {w:World}
theorem y3u (ix:Nat) (hix:ops[ix]?=some o) (k:wpList P ops (z0p λa' w'=>Sat pq C (listed.setIfInBounds ix true) w'/\z0w pq P ops (z0p K) C fu (listed.setIfInBounds ix true) a' w') [o] a w) :
    wpOp P ops (z0p K) ix (λa w=>Sat pq C (listed.setIfInBounds ix true) w/\z0w pq P ops (z0p K) C fu (listed.setIfInBounds ix true) a w) a w:=by
  unfold wpOp
  rw [hix]
  unfold wpList at k
  simp only
  split
  · rename_i hw
    rw [if_pos hw] at k
    rcases k with k|⟨_,_,_,k⟩
    · refine .inl (Oper.wp_mono (λa w h=>h) ?_)
      unfold Oper.wp at k ⊢
      generalize (execOp a.eval o).run P w=r at k ⊢
      cases r with
      | ok nx w'=>
        cases nx<;>simp only [Oper.upon] at k ⊢<;>first
          | exact k
          | exact Calls.mono k (λe w'' he=>by cases e<;>first|exact he|exact he.elim|(obtain ⟨_,_,he⟩:=he;exact he.elim))
          | exact Rows.mono k (λ_ _ he=>he)
      | halt x w'=>cases x<;>simp only [Oper.upon] at k ⊢<;>exact k.elim
    · exact k.elim
  · rename_i hw
    rw [if_neg hw] at k
    exact k
theorem z2d (i j:Nat) (hr:Region.ready .any ops listed=[i,j]) (hi:ops[i]?=some o) (hj:ops[j]?=some o')
    (k:wpList P ops (z0p λa' w'=>Sat pq C (listed.setIfInBounds i true) w'/\z0w pq P ops (z0p K) C fu (listed.setIfInBounds i true) a' w') [o] a w)
    (k':wpList P ops (z0p λa' w'=>Sat pq C (listed.setIfInBounds j true) w'/\z0w pq P ops (z0p K) C fu (listed.setIfInBounds j true) a' w') [o'] a w):z0w pq P ops (z0p K) C (fu+1) listed a w:=by
  refine u7k hr (by simp) λx hx=>?_
  simp at hx
  rcases hx with rfl|rfl
  · exact y3u _ hi k
  · exact y3u _ hj k'
theorem x5g {o'':Oper} (i j m:Nat) (hr:Region.ready .any ops listed=[i,j,m]) (hi:ops[i]?=some o) (hj:ops[j]?=some o') (hm:ops[m]?=some o'')
    (k:wpList P ops (z0p λa' w'=>Sat pq C (listed.setIfInBounds i true) w'/\z0w pq P ops (z0p K) C fu (listed.setIfInBounds i true) a' w') [o] a w)
    (k':wpList P ops (z0p λa' w'=>Sat pq C (listed.setIfInBounds j true) w'/\z0w pq P ops (z0p K) C fu (listed.setIfInBounds j true) a' w') [o'] a w)
    (k'':wpList P ops (z0p λa' w'=>Sat pq C (listed.setIfInBounds m true) w'/\z0w pq P ops (z0p K) C fu (listed.setIfInBounds m true) a' w') [o''] a w):z0w pq P ops (z0p K) C (fu+1) listed a w:=by
  refine u7k hr (by simp) λx hx=>?_
  simp at hx
  rcases hx with rfl|rfl|rfl
  · exact y3u _ hi k
  · exact y3u _ hj k'
  · exact y3u _ hm k''
end
end Go.Lw
namespace Go.Lw
open Go.RowKit
theorem v2z {α:Type} (E:Enc α) (z:α):∀(c:Nat),((Array.range (c*E.sz)).map ((E.enc z).toArray[· % E.sz]!)).toList=(List.replicate c z).flatMap E.enc:=by
 intro c
 apply List.ext_getElem?
 intro m
 have hl:((List.replicate c z).flatMap E.enc).length=c*E.sz:=by rw [E.flat_len,List.length_replicate]
 rcases Nat.lt_or_ge m (c*E.sz) with h|h
 ·have hi:m / E.sz<c:=Nat.div_lt_of_lt_mul (by rw [Nat.mul_comm];exact h)
  have hj:m % E.sz<E.sz:=Nat.mod_lt _ E.pos
  have e:m / E.sz*E.sz+m % E.sz=m:=by rw [Nat.mul_comm];exact Nat.div_add_mod m E.sz
  have hg:=E.flat_get (List.replicate c z) (m / E.sz) z (by rw [List.getElem?_replicate,if_pos hi]) (m % E.sz) hj
  rw [e] at hg
  rw [hg]
  have hj':m % E.sz<(E.enc z).length:=by rw [E.len];exact hj
  simp [h]
  rw [List.getElem?_eq_getElem hj']
  rfl
 rw [List.getElem?_eq_none (by simp;exact h),List.getElem?_eq_none (by rw [hl];exact h)]
section
variable {P:Program} {a:Act} {n:Nat} {L:List (Nat×Value)} {ds:List Nat} {w w':World} {Q:Exit->Act->World->Prop} {ops:Array Oper} {rest:List Oper}
variable {d:Nat} {ty:TypeId} {pos:String} {after:Array Edge} {v u:Value} {x y z:Operand} {t t' T:TypeId} {k k':IntKind} {i j:Int}
theorem x1t {G:Option (Nat×Bool)} {α:Type} {E:Enc α} {bytes m c:Nat} (e0:α) (h:AgM ds a n L) (hx:ev L x=some (.int k (m:Int))) (hy:ev L y=some (.int k' (c:Int))) (he:ElemOf P t T E bytes)
    (hz:∀w:World,(zeroValue T).run P w=.ok v w) (hv:v.cells=(E.enc e0).toArray) (hmc:m<=c) (hb:c*bytes<=140737488355328) (hM:c<=maxLen) :
    (execOp a.eval ⟨some d,.makeSlice t x y,ty,pos,after,G⟩).run P w=.ok (.value (.slice (some ⟨w.heap.size,0,none⟩) m c)) (w.alloc (.cells ((List.replicate c e0).flatMap E.enc).toArray T)):=by
  obtain ⟨inf,zv,hin,hzz,hsz,hby,hzs⟩:=he.info
  have hzv:zv=v:=by
    have:=hz w
    simpa [zeroValue,typeInfo,hin,hzz] using this
  subst hzv
  have hM':c<=9223372036854775807:=by simp only [maxLen] at hM;omega
  have w1:IntKind.i64.wrap (m:Int)=m:=IntWalk.i64_in _ (by omega)
  have w2:IntKind.i64.wrap (c:Int)=c:=IntWalk.i64_in _ (by omega)
  have hbi:((inf.bytes:Nat):Int)*(c:Int)<=140737488355328:=by
    have:((inf.bytes*c:Nat):Int)<=140737488355328:=by rw [hby,Nat.mul_comm];omega
    simpa using this
  have ht:(decide ((c:Int)<0) || decide ((inf.bytes:Int)*(c:Int) > 2 ^ 48))=false:=by
    simp only [Bool.or_eq_false_iff,decide_eq_false_iff_not]
    constructor<;>omega
  have hlt:¬((m:Int)<0):=by omega
  have hgt:¬((m:Int) > (c:Int)):=by omega
  have hroom:¬(c*inf.bytes > roomBytes):=by
    rw [hby];unfold roomBytes;omega
  have hrows:=v2z E e0 c
  simp only [execOp,h.eval hx,h.eval hy,Instr.makeSlice,Sem.run_bind,run_underlying he.und,Result.andThen_ok,asInt,asIntOf,Sem.run_pure,typeInfo,sizeOf,w1,w2]
  simp [hin,hsz,ht,hlt,hgt,askRoom,hroom,w1,w2]
  by_cases h0:c=0
  · subst h0
    simp [newRow]
    rw [show Array.range 0=#[] from rfl];simp
  · have hcz:¬(c*E.sz=0):=by
      have:=E.pos
      intro e
      rcases Nat.mul_eq_zero.1 e with e|e<;>omega
    have h00:¬((c:Int)<0):=by omega
    have hbb:¬((281474976710656:Int)<(inf.bytes:Int)*(c:Int)):=by omega
    simp [hcz,zeroValue,typeInfo,hin,hzz,newRow,hv,E.len,h00,hbb]
    congr 2
    apply Array.toList_inj.1
    simpa using hrows
theorem z5c {α:Type} {E:Enc α} {bytes m c:Nat} (e0:α) (h:AgM ds a n L) (hx:ev L x=some (.int k (m:Int))) (hy:ev L y=some (.int k' (c:Int))) (he:ElemOf P t T E bytes) (hz:∀w:World,(zeroValue T).run P w=.ok v w) (hv:v.cells=(E.enc e0).toArray) (hn:Nat.blt d n=true) (q:∀g w',g=w.heap.size->Own E T g w' (.slice (some ⟨g,0,none⟩) m c) (List.replicate m e0)->Fr [] w w'->w'.heap.size=g+1->∀a,AgM ds a n ((d,.slice (some ⟨g,0,none⟩) m c)::L)->wpList P ops Q rest a w') (hmc:m<=c:=by omega) (hb:c*bytes<=140737488355328:=by omega) (hM:c<=maxLen:=by unfold maxLen;omega) :
    wpList P ops Q (⟨some d,.makeSlice t x y,ty,pos,after,none⟩::rest) a w:=by
  refine z1u h rfl rfl hn (x1t e0 h hx hy he hz hv hmc hb hM) (q _ _ rfl ?_ (Fr.alloc [] w _) (by simp))
  refine .inr ⟨_,c,_,by simp,Nat.le_refl _,heap_alloc_new w _,by simpa using hmc,hM,by simp [E.flat_len],?_⟩
  simp only [List.length_replicate]
  obtain ⟨r,rfl⟩:∃r,c=m+r:=⟨c-m,by omega⟩
  rw [<-List.replicate_append_replicate,List.flatMap_append]
  rw [show m*E.sz=((List.replicate m e0).flatMap E.enc).length by rw [E.flat_len,List.length_replicate]]
  exact List.take_left
theorem z1e {α:Type} {E:Enc α} {bytes m c:Nat} (e0:α) (hx:ev L x=some (.int k (m:Int))) (hy:ev L y=some (.int k' (c:Int))) (he:ElemOf P t T E bytes) (hz:∀w:World,(zeroValue T).run P w=.ok v w) (hv:v.cells=(E.enc e0).toArray) (q:∀g w',g=w.heap.size->Own E T g w' (.slice (some ⟨g,0,none⟩) m c) (List.replicate m e0)->Fr [] w w'->w'.heap.size=g+1->WL P ops Q rest n ds w' ((d,.slice (some ⟨g,0,none⟩) m c)::L)) (hmc:m<=c:=by omega) (hb:c*bytes<=140737488355328:=by omega) (hM:c<=maxLen:=by unfold maxLen;omega) (hn:Nat.blt d n=true:=by exact rfl):WL P ops Q (⟨some d,.makeSlice t x y,ty,pos,after,none⟩::rest) n ds w L:=λa h=>z5c e0 h hx hy he hz hv hn q (hmc:=hmc) (hb:=hb) (hM:=hM) -- short
end
end Go.Lw
namespace Go.Lw
section
variable {P:Program} {a:Act} {n:Nat} {L:List (Nat×Value)} {ds:List Nat} {w w':World} {ops:Array Oper} {C:World->Prop}
variable {d:Nat} {ty:TypeId} {pos:String} {after:Array Edge} {x y:Operand} {t T:TypeId} {k:IntKind} {i:Int}
theorem u7s {G:Option (Nat×Bool)} {K:Act->World->Prop} {fu:Nat} {listed:Array Bool} {pq:Option Nat} {ad:Addr} {N sz:Nat} (ix:Nat) (hsel:Region.noSelect ops=true) (hfr:Fre pq ops listed ix=true) (hre:(Region.ready .any ops listed).contains ix=true) (hC:C w) (h:AgM ds a n L) (hG:Wd ops n L G)
    (hx:ev L x=some (.pointer (some ad))) (hy:ev L y=some (.int k i)) (hu:P.underlying t=some (.array N T)) (hs:z1q P T sz) (h0:0<=i) (h1:i<N) (hix:ops[ix]?=some ⟨some d,.indexAddr t x y,ty,pos,after,G⟩) (hn:Nat.blt d n=true)
    (q:∀a,AgM ds a n ((d,.pointer (some (ad.add (i.toNat*sz))))::L)->z0w pq P ops (z0p K) C fu (listed.setIfInBounds ix true) a w):z0w pq P ops (z0p K) C (fu+1) listed a w:=
  z6b ix hsel hfr hre h hG hix rfl hn (λ_ _=>v3y h hx hy hu hs h0 h1) q
end
end Go.Lw
namespace Go.Lw
open Go.RowKit
section
variable {α:Type} {E:Enc α} {R T:TypeId} {base:Nat} {w w':World} {OV OV':Value} {ps:List (SV×List α)}
end
end Go.Lw
namespace Go.Lw
section
variable {α:Type} {E:Enc α} {R T:TypeId} {base:Nat} {w w':World} {OV:Value} {ps:List (SV×List α)}
end
end Go.Lw
namespace Go.Lw
open Go.ChangeShapes Go.WideShapes Go.ChangeAt Go.RowKit
section
variable {H:Type} {enc:TypeId×Value->H} {P:Program}
theorem y0e (hl:laidOutB P=true) {W W':World} (hb:Below W.heap.size W W') {sp:Nat->Bool}:∀ {ts:List TypeId} {vs:List Value} {ds:List (DataW H)} {ps:List MemPlace},
    (∀t∈ts,P.readableRec t=true/\t<P.types.size)->(∀p∈ps,sp p.block=true)->(∀p∈ps,p.block<W.heap.size)->DataW.TrodAll enc P W 0 (λ_=>true) true ts vs ds ps->DataW.TrodAll enc P W' 0 sp true ts vs ds ps
  | [],vs,ds,ps,_,_,_,h=>by
    obtain ⟨rfl,rfl,rfl⟩:=trodAll_nil h
    exact trodAll_mk0
  | t::ts,vs,ds,ps,ht,hs,hlt,h=>by
    obtain ⟨v,vs',d,ds',p,q,rfl,rfl,rfl,h1,h2⟩:=trodAll_cons h
    refine trodAll_cons_mk (WideElems.Trod_stays hl (ht t (by simp)).1 (ht t (by simp)).2 h1 (λx hx=>hb.same (hlt x (by simp [hx]))) (λx hx=>hs x (by simp [hx]))) ?_
    exact y0e hl hb (λt' h'=>ht t' (by simp [h'])) (λx hx=>hs x (by simp [hx])) (λx hx=>hlt x (by simp [hx])) h2
theorem v0n {f:Func} {s:ChangeSpec} {apart fresh handsOn again:Bool} {W W':World} {args:Array Value} {ds:List (DataW H)} {before:List MemPlace} {tb:TypeId}
    (hW:DataW.Whole enc P f.params.toList s.vars apart W args.toList ds [] before) (hv:s.vars=[]) (hfn:s.fn H ds={ results:=[.lit (.bool true)],args:=ds }) (hf:Fr [] W W')
    (hl:laidOutB P=true) (hr:∀t∈f.params.toList,P.readableRec t=true/\t<P.types.size) (hrt:f.resultTypes=#[tb]) (hbt:P.underlying tb=some .bool):s.post enc P f apart fresh handsOn again W args (.bool true) W':=by
  have hb:=hf.below
  have hlt:=hW.lt
  have hW':=hW
  obtain ⟨pa,pv,hA,hV,rfl,hz,hn⟩:=hW
  rw [hv] at hV
  obtain ⟨-,rfl⟩:=trodVars_none hV
  rw [List.append_nil] at hW' hlt hz hn
  have hargs:∀sp:Nat->Bool,(∀p∈pa,sp p.block=true)->DataW.TrodAll enc P W' 0 sp true f.params.toList args.toList (s.fn H (ds++[])).args pa:=by
    intro sp hsp
    rw [List.append_nil,hfn]
    exact y0e hl hb hr hsp hlt hA
  have hres:∀(b:Nat) (sp:Nat->Bool) (hd:Bool),DataW.TrodAll enc P W' b sp hd f.resultTypes.toList ((Value.bool true).resultList f.resultTypes.size) (s.fn H (ds++[])).results []:=by
    intro b sp hd
    rw [List.append_nil,hfn,hrt]
    exact trodAll_cons_mk (shut_bool hbt true) trodAll_mk0
  have hvars:∀sp:Nat->Bool,DataW.TrodVars enc P W' sp s.vars (s.fn H (ds++[])).vars []:=by
    intro sp
    rw [hv,List.append_nil,hfn]
    rfl
  have hold:∀p∈pa,(λb=>decide (b<W.heap.size)) p.block=true:=λp hp=>by simpa using hlt p hp
  refine ⟨ds,[],pa,[],pa,[],hW',hres _ _ _,hargs _ hold,hvars _,World.keptBut_mono (λp hp=>⟨hp,by simp [hp]⟩) (hb.frame _),λ_=>⟨ok_one hrt rfl (okWide_bool_mk hbt true),_,_,([]++pa)++[],⟨[]++pa,[],trodAll_append (hargs _ (λ_ _=>rfl)) (hres _ _ _),hvars _,rfl,?_,?_⟩,?_⟩⟩
  · intro b off hp
    have hp':MemPlace.cell b off∈pa:=by simpa using hp
    rw [hb.frozen (hlt _ hp')]
    exact hz b off hp'
  · intro ha
    simpa using hn ha
  · intro p hp _
    simpa using hp
theorem x8e {f:FuncId} {fn:Func} {s:ChangeSpec} {apart fresh handsOn again:Bool} {W:World} {args:Array Value} {ds:List (DataW H)} {before:List MemPlace} {tb:TypeId}
    (hw:Rets P f args W λv w'=>v=.bool true/\Fr [] W w')
    (hW:DataW.Whole enc P fn.params.toList s.vars apart W args.toList ds [] before) (hv:s.vars=[]) (hfn:s.fn H ds={ results:=[.lit (.bool true)],args:=ds })
    (hl:laidOutB P=true) (hr:∀t∈fn.params.toList,P.readableRec t=true/\t<P.types.size) (hrt:fn.resultTypes=#[tb]) (hbt:P.underlying tb=some .bool) :
    Calls P f args W λe W'=>∃v,e=.returned v/\s.post enc P fn apart fresh handsOn again W args v W':=
  Calls.mono hw λe w' ⟨v,he,hv',hf⟩=>⟨v,he,by subst hv';exact v0n hW hv hfn hf hl hr hrt hbt⟩
end
def litV {H:Type}:DataW H->Value
  | .lit (.int k z)=>.int k z
  | .lit (.string s)=>.string ⟨s.toArray⟩
  | _=>.bool false
def j3o {H:Type}:DataW H->List Value
  | .agg es=>es.map litV
  | d=>[litV d]
def tabV {H:Type}:DataW H->Array Value
  | .agg ds=>(ds.flatMap j3o).toArray
  | _=>#[]
def layW (w:World) (g:Nat) (cs:Array Value):World:=
  { w with heap:=w.heap.modify g fun
      | .cells _ t fr=>.cells cs t fr
      | o=>o }
noncomputable def j5n (P:Program) (os:Os) (laid:List (String×DataW Unit)):World:=
  laid.foldl (λw p=>match P.globalNamed p.1 with
    | some g=>layW w g (tabV p.2)
    | none=>w) (World.holding P os ⟨#[],#[],[]⟩)
end Go.Lw
namespace Go.Lw
open Go.ChangeShapes Go.WideShapes Go.ChangeAt Go.RowKit
def Enc.int (k:IntKind):Enc Int:=⟨λn=>[.int k n],1,λ_=>rfl,λ_ u h=>by simp at h;subst h;rfl,by decide⟩
def Enc.bool:Enc Bool:=⟨λn=>[.bool n],1,λ_=>rfl,λ_ u h=>by simp at h;subst h;rfl,by decide⟩
section
variable {P:Program} {t e:TypeId}
end
end Go.Lw
namespace Go.G21
open Go.Lw
structure LId where
  y:Int
  n:Int
deriving DecidableEq
structure Pa where
  id:LId
  f:Bool
  d:Int
deriving DecidableEq
structure Lp where
  b:Int
  nw:Bool
  th:List LId
  pa:List Pa
deriving DecidableEq
def id0:LId:=⟨0,0⟩
def pa0:Pa:=⟨id0,false,0⟩
abbrev idL (i:LId):List Value:=[.int .u8 i.y,.int .i64 i.n]
abbrev paL (p:Pa):List Value:=[.int .u8 p.id.y,.int .i64 p.id.n,.bool p.f,.int .u8 p.d]
def z1h:Enc LId:=⟨idL,2,λ_=>rfl,λ_ u h=>by simp at h;rcases h with rfl|rfl<;>rfl,by decide⟩
def z1t:Enc Pa:=⟨paL,4,λ_=>rfl,λ_ u h=>by simp at h;rcases h with rfl|rfl|rfl|rfl<;>rfl,by decide⟩
def sv0:SV:=(none,0,0)
structure LpQ where
  b:Int
  nw:Bool
  th:SV
  pa:SV
  ths:List LId
  pas:List Pa
def lq0:LpQ:=⟨0,false,sv0,sv0,[],[]⟩
abbrev LpQ.p (q:LpQ):Lp:=⟨q.b,q.nw,q.ths,q.pas⟩
abbrev lpL (q:LpQ):List Value:=[.int .u8 q.b,.bool q.nw,.slice q.th.1 q.th.2.1 q.th.2.2,.slice q.pa.1 q.pa.2.1 q.pa.2.2]
def z5o:Enc LpQ:=⟨lpL,4,λ_=>rfl,λ_ u h=>by simp at h;rcases h with rfl|rfl|rfl|rfl<;>rfl,by decide⟩
abbrev TQ:=SV×List LpQ
def tq0:TQ:=(sv0,[])
def z4c:Enc TQ:=⟨λp=>[.slice p.1.1 p.1.2.1 p.1.2.2],1,λ_=>rfl,λ_ u h=>by simp at h;subst h;rfl,by decide⟩
structure YQ where
  inn:Bool
  pl:Int
  ct:Int
  nw:Bool
  pe:SV
  pes:List Pa
def yq0:YQ:=⟨false,0,0,false,sv0,[]⟩
abbrev yqL (q:YQ):List Value:=[.bool q.inn,.int .i64 q.pl,.int .i64 q.ct,.bool q.nw,.slice q.pe.1 q.pe.2.1 q.pe.2.2]
def z2s:Enc YQ:=⟨yqL,5,λ_=>rfl,λ_ u h=>by simp at h;rcases h with rfl|rfl|rfl|rfl|rfl<;>rfl,by decide⟩
abbrev IQ:=SV×List LId
def iq0:IQ:=(sv0,[])
def z6r:Enc IQ:=⟨λp=>[.slice p.1.1 p.1.2.1 p.1.2.2],1,λ_=>rfl,λ_ u h=>by simp at h;subst h;rfl,by decide⟩
def LpAt (w:World) (q:LpQ):Prop:=Sl z1h w (slv q.th) q.ths/\Sl z1t w (slv q.pa) q.pas
def LpsAt (w:World) (l:List LpQ):Prop:=∀q∈l,LpAt w q
def TabAt (w:World) (t:List TQ):Prop:=∀p∈t,Sl z5o w (slv p.1) p.2/\LpsAt w p.2
def IqAt (w:World) (l:List IQ):Prop:=∀q∈l,Sl z1h w (slv q.1) q.2
section
variable {w w':World} (hf:Fr [] w w')
include hf
theorem LpAt.ext {q:LpQ} (h:LpAt w q):LpAt w' q:=⟨h.1.ext hf,h.2.ext hf⟩
theorem LpsAt.ext {l:List LpQ} (h:LpsAt w l):LpsAt w' l:=λq hq=>(h q hq).ext hf
theorem TabAt.ext {t:List TQ} (h:TabAt w t):TabAt w' t:=λp hp=>⟨(h p hp).1.ext hf,(h p hp).2.ext hf⟩
theorem IqAt.ext {l:List IQ} (h:IqAt w l):IqAt w' l:=λq hq=>(h q hq).ext hf
end
theorem y9z {α β:Type} (f:α->List β) (l:List α) (i:Nat) (d:α) (h:i<l.length):(l.take (i+1)).flatMap f=(l.take i).flatMap f++f (l.getD i d):=by
 rw [List.take_add_one,List.getElem?_eq_getElem h,List.flatMap_append,List.getD,List.getElem?_eq_getElem h];simp
theorem y7f {α β:Type} (f:α->List β) (l:List α) (i:Nat):((l.take i).flatMap f).length<=(l.flatMap f).length:=by
 conv=>rhs;rw [<-List.take_append_drop i l,List.flatMap_append,List.length_append]
 omega
theorem x1x {α β:Type} (f:α->β) (l:List α) (i:Nat) (d:α) (e:β) (h:i<l.length):(l.map f).getD i e=f (l.getD i d):=by
 rw [List.getD,List.getD,List.getElem?_map,List.getElem?_eq_getElem h];rfl
theorem z0x {α:Type} {l:List α} {i:Nat} {d:α} (h:i<l.length):l.getD i d∈l:=by
 rw [List.getD,List.getElem?_eq_getElem h];exact List.getElem_mem h
theorem z1s {α:Type} {E:Enc α} {w:World} {p:SV} {l:List α} (h:Sl E w (slv p) l):p.2.1=l.length:=by
 obtain ⟨A,c,e,_⟩:=h;simp only [slv,Value.slice.injEq] at e;exact e.2.1
abbrev z2c (t:List TQ):List (List Lp):=t.map λp=>p.2.map LpQ.p
structure Cx where
  a:LId
  b:LId
  n:Int
deriving DecidableEq
def cx0:Cx:=⟨id0,id0,0⟩
abbrev cxL (c:Cx):List Value:=[.int .u8 c.a.y,.int .i64 c.a.n,.int .u8 c.b.y,.int .i64 c.b.n,.int .i64 c.n]
def z4t:Enc Cx:=⟨cxL,5,λ_=>rfl,λ_ u h=>by simp at h;rcases h with rfl|rfl|rfl|rfl|rfl<;>rfl,by decide⟩
structure FbQ where
  t:SV
  c:SV
  h:SV
  f:SV
  ts:List TQ
  cs:List Cx
  hs:List LId
  fs:List LId
structure Fb where
  t:List (List Lp)
  c:List Cx
  h:List LId
  f:List LId
deriving DecidableEq
abbrev FbQ.p (q:FbQ):Fb:=⟨z2c q.ts,q.cs,q.hs,q.fs⟩
structure FbAt (w:World) (q:FbQ):Prop where
  t:Sl z4c w (slv q.t) q.ts
  tt:TabAt w q.ts
  c:Sl z4t w (slv q.c) q.cs
  h:Sl z1h w (slv q.h) q.hs
  f:Sl z1h w (slv q.f) q.fs
theorem FbAt.ext {w w':World} {q:FbQ} (h:FbAt w q) (hf:Fr [] w w'):FbAt w' q:=⟨h.t.ext hf,h.tt.ext hf,h.c.ext hf,h.h.ext hf,h.f.ext hf⟩
theorem FbAt.len {w:World} {q:FbQ} (h:FbAt w q):q.t.2.1=q.ts.length/\q.c.2.1=q.cs.length/\q.h.2.1=q.hs.length/\q.f.2.1=q.fs.length:=⟨z1s h.t,z1s h.c,z1s h.h,z1s h.f⟩
end Go.G21
namespace Go.G21
open Go.Lw
def y1z (i:LId):Prop:=1<=i.y/\i.y<=6/\0<=i.n/\i.n<2048
instance (i:LId):Decidable (y1z i):=by unfold y1z;infer_instance
def z5q (d:Int):Prop:=d=0\/d=1
instance (d:Int):Decidable (z5q d):=by unfold z5q;infer_instance
def y0f (p:Pa):Prop:=y1z p.id/\z5q p.d
instance (p:Pa):Decidable (y0f p):=by unfold y0f;infer_instance
def u0u (p q:Pa):Prop:=(z5q p.d/\z5q q.d/\p.d≠q.d)/\p.id=q.id/\p.f=q.f
instance (p q:Pa):Decidable (u0u p q):=by unfold u0u;infer_instance
theorem u3f {p q:Pa} (h:¬((¬z5q p.d\/¬z5q q.d)\/p.d=q.d)):p=⟨q.id,q.f,p.d⟩↔u0u p q:=by
 have h1:z5q p.d:=Classical.not_not.1 λe=>h (.inl (.inl e))
 have h2:z5q q.d:=Classical.not_not.1 λe=>h (.inl (.inr e))
 have h3:p.d≠q.d:=λe=>h (.inr e)
 obtain ⟨i,f,d⟩:=p
 constructor
 ·intro e
  have e1:=congrArg Pa.id e
  have e2:=congrArg Pa.f e
  exact ⟨⟨h1,h2,h3⟩,e1,e2⟩
 rintro ⟨-,e1,e2⟩
 simp only at e1 e2
 rw [<-e1,<-e2]
theorem u7g {p q:Pa} (h:(¬z5q p.d\/¬z5q q.d)\/p.d=q.d):¬u0u p q:=λk=>h.elim (λe=>e.elim (λe=>e k.1.1) (λe=>e k.1.2.1)) (λe=>k.1.2.2 e)
def x3r (x:Int):Prop:=Int.tmod x 2≠0/\-13<=x/\x<=179
instance (x:Int):Decidable (x3r x):=by unfold x3r;infer_instance
def z9t (st:List Pa) (p:Pa):List Pa:=if 0<st.length/\u0u (st.getD (st.length-1) pa0) p then st.take (st.length-1) else st++[p]
def z4n (st l:List Pa):List Pa:=l.foldl z9t st
theorem v1f (st:List Pa) (p:Pa):(z9t st p).length<=st.length+1:=by
 unfold z9t;split
 ·rw [List.length_take];omega
 simp
theorem y0l:∀(l st:List Pa),(z4n st l).length<=st.length+l.length
 | [],st=>by simp [z4n]
 | p::l,st=>by
  have h1:=y0l l (z9t st p)
  have h2:=v1f st p
  simp only [z4n,List.foldl_cons,List.length_cons] at h1 ⊢
  omega
theorem y1o (st l:List Pa) (i:Nat) (h:i<l.length):z4n st (l.take (i+1))=z9t (z4n st (l.take i)) (l.getD i pa0):=by
 rw [List.take_add_one,List.getElem?_eq_getElem h,z4n,List.foldl_append,List.getD,List.getElem?_eq_getElem h];rfl
def y5g (l:List Pa):Prop:=∀i,i<l.length->y0f (l.getD i pa0)/\(0<i->¬u0u (l.getD (i-1) pa0) (l.getD i pa0))
instance (l:List Pa):Decidable (y5g l):=by unfold y5g;infer_instance
structure Yn where
  inn:Bool
  pl:Int
  ct:Int
  nw:Bool
  pe:List Pa
abbrev YQ.p (q:YQ):Yn:=⟨q.inn,q.pl,q.ct,q.nw,q.pes⟩
def y8o (y:Yn):Prop:=(0<=y.ct/\y.ct<=2048)/\(if y.inn=true then x3r y.pl/\y.pe.length<=4096/\y5g y.pe else y.pl=0/\y.nw=false/\y.pe.length=0)
instance (y:Yn):Decidable (y8o y):=by unfold y8o;infer_instance
def ynE (y:Yn):Int:=if y8o y then 0 else 1
def u8u (l:List Pa):Prop:=∀p∈l,y0f p
instance (l:List Pa):Decidable (u8u l):=by unfold u8u;infer_instance
def goE (y:Yn) (pl:Int) (l:List Pa):Int:=if ynE y≠0 then ynE y else if ¬x3r pl then 1 else if ¬u8u l then 1 else if y.inn=false then 12 else if 4096<(z4n y.pe l).length then 3 else 0
def goS (y:Yn) (pl:Int) (l:List Pa):Yn:=⟨y.inn,pl,y.ct,y.nw,z4n y.pe l⟩
def mkE (y:Yn):Int:=if ynE y≠0 then ynE y else if y.inn=false then 12 else if y.ct=2048 then 3 else 0
def enE (y:Yn) (d:Int):Int:=if ynE y≠0 then ynE y else if ¬z5q d then 1 else if y.inn=true then 12 else 0
def enS (y:Yn) (d:Int):Yn:=⟨true,if d=1 then 179 else -13,y.ct,true,[]⟩
def lvE (y:Yn):Int:=if ynE y≠0 then ynE y else if y.inn=false then 12 else 0
theorem j1k {y:Yn} (h:y8o y):ynE y=0:=if_pos h
theorem j3b {y:Yn} (h:¬y8o y):ynE y=1:=if_neg h
theorem yn_a {y:Yn} (h:y.ct<0\/2048<y.ct):ynE y=1:=j3b λe=>by have:=e.1;omega
theorem yn_b {y:Yn} (hi:y.inn=false) (h:(y.pl≠0\/y.nw=true)\/0<(y.pe.length:Int)):ynE y=1:=j3b λe=>by
 have h2:=e.2
 rw [if_neg (by rw [hi];decide)] at h2
 rcases h with (h|h)|h
 ·exact h h2.1
 ·rw [h2.2.1] at h;cases h
 omega
theorem yn_c {y:Yn} (h0:¬(y.ct<0\/2048<y.ct)) (hi:y.inn=false) (h:¬((y.pl≠0\/y.nw=true)\/0<(y.pe.length:Int))):ynE y=0:=j1k ⟨by omega,by
 rw [if_neg (by rw [hi];decide)]
 refine ⟨Classical.not_not.1 λe=>h (.inl (.inl e)),?_,by omega⟩
 cases e:y.nw
 ·rfl
 exact absurd (.inl (.inr e)) h⟩
theorem yn_d {y:Yn} (hi:y.inn=true) (h:¬x3r y.pl\/4096<(y.pe.length:Int)):ynE y=1:=j3b λe=>by
 have h2:=e.2
 rw [if_pos hi] at h2
 rcases h with h|h
 ·exact h h2.1
 omega
def v2g (l:List Pa) (i:Nat):Prop:=y0f (l.getD i pa0)/\(0<i->¬u0u (l.getD (i-1) pa0) (l.getD i pa0))
theorem yn_e {y:Yn} {i:Nat} (hi:y.inn=true) (hl:i<y.pe.length) (h:¬v2g y.pe i):ynE y=1:=j3b λe=>by
 have h2:=e.2
 rw [if_pos hi] at h2
 exact h (h2.2.2 i hl)
theorem yn_f {y:Yn} (h0:¬(y.ct<0\/2048<y.ct)) (hi:y.inn=true) (h:¬(¬x3r y.pl\/4096<(y.pe.length:Int))) (hg:∀i,i<y.pe.length->v2g y.pe i):ynE y=0:=j1k ⟨by omega,by
 rw [if_pos hi]
 exact ⟨Classical.not_not.1 λe=>h (.inl e),by omega,hg⟩⟩
theorem x9w {y:Yn} (h:ynE y=0):y8o y:=by unfold ynE at h;split at h;assumption;omega
abbrev Lst:=Option (Int×Nat)
end Go.G21
namespace Go.Lw
section
variable {a:Act} {w:World} {Q:Exit->Act->World->Prop}
end
end Go.Lw
namespace Go.Lw
theorem Fr.drewN (S:List Nat) (w:World) (n:Nat):Fr S w (w.drewN n):=⟨rfl,rfl,rfl,Nat.le_refl _,λ_ _ _=>rfl⟩
def IntAt (g:Nat) (w:World):Prop:=∃m:Int,w.cell? ⟨g,0,none⟩=some (.int .i64 m)
theorem IntAt.fr {g:Nat} {S:List Nat} {w w':World} (h:IntAt g w) (hf:Fr S w w') (hn:g∉S:=by simp[z0v]<;>omega):IntAt g w':=let ⟨m,hm⟩:=h;⟨m,hf.cell hm hn⟩
theorem IntAt.ext {g:Nat} {w w':World} (h:IntAt g w) (hf:Fr [] w w'):IntAt g w':=h.fr hf (by simp)
theorem IntAt.lt {g:Nat} {w:World} (h:IntAt g w):g<w.heap.size:=let ⟨_,hm⟩:=h;block_lt_of_cell hm
end Go.Lw
namespace Go.Lw
section
variable {P:Program} {a:Act} {n:Nat} {L:List (Nat×Value)} {ds:List Nat} {w w':World} {Q:Exit->Act->World->Prop} {ops:Array Oper} {rest:List Oper}
variable {d:Nat} {ty:TypeId} {pos:String} {after:Array Edge} {x y:Operand} {t t' T:TypeId} {A:Option Addr} {m c:Nat}
end
end Go.Lw
namespace Go.Lw
open Go.RowKit
section
variable {P:Program} {a:Act} {n:Nat} {L:List (Nat×Value)} {ds:List Nat} {w w':World} {Q:Exit->Act->World->Prop} {C:World->Prop} {Qa:Act->Prop} {ops:Array Oper} {rest:List Oper} {d d2:Nat} {ty ty2:TypeId} {pos pos2:String} {after after2:Array Edge} {v u:Value} {x y z:Operand} {t T:TypeId} {k k' k'':IntKind} {i j:Int}
theorem AgM.skip1 {v1 v2:Value} (h:AgM ds a n ((d2,v2)::(d,v1)::L)) (hf:look L d=none):AgM ds a n ((d2,v2)::L):=
 ⟨h.dfr,h.size,λt u hu=>h.at_ t u (by
  simp only [look] at hu ⊢
  by_cases e2:d2=t
  ·subst e2;simpa using hu
  rw [y5r e2] at hu ⊢
  by_cases e:d=t
  ·subst e;exact absurd (hf.symm.trans hu) (by simp)
  rw [y5r e];exact hu)⟩
theorem Sl.at {α:Type} {E:Enc α} {ys:List α} (hs:Sl E w v ys) {p:Nat} (hp:p<ys.length):∃ad c,v=.slice (some ad) ys.length c/\∀W,Sl E W v ys->Cells W (ad.add (p*E.sz)) (E.enc ys[p]):=by
 obtain ⟨A,c,rfl,h1,h2,h3⟩:=hs
 obtain ⟨ad,rfl,_⟩:=h3 p _ (List.getElem?_eq_getElem hp)
 refine ⟨ad,c,rfl,λW hW=>?_⟩
 obtain ⟨A',c',e,_,_,h3'⟩:=hW
 cases e
 obtain ⟨ad',e,hc⟩:=h3' p _ (List.getElem?_eq_getElem hp)
 cases e;exact hc
theorem y4l {α:Type} (ys:List α) (p:Nat) (hp:p<ys.length) (z:α):ys[p]=ys.getD p z:=by simp [List.getD,hp]
theorem Sl.at' {α:Type} {E:Enc α} {ys:List α} (hs:Sl E w v ys) {p:Nat} (hp:p<ys.length) (y0:α):∃ad c,v=.slice (some ad) ys.length c/\∀W,Sl E W v ys->Cells W (ad.add (p*E.sz)) (E.enc (ys.getD p y0)):=by
 obtain ⟨ad,c,h1,h2⟩:=hs.at hp
 exact ⟨ad,c,h1,by rw [<-y4l ys p hp y0];exact h2⟩
theorem u4g {α:Type} {E:Enc α} {bytes:Nat} {ys:List α} {p:Nat} (y0:α) (h:AgM ds a n L) (hx:ev L x=some v) (hs:Sl E w' v ys) (hy:ev L y=some (.int k i)) (he:ElemOf P t T E bytes) (h0:0<=i) (h1:i<ys.length) (hp:i.toNat=p) (hn:Nat.blt d n=true)
    (q:∀ad,(∀W,Sl E W v ys->Cells W ad (E.enc (ys.getD p y0)))->∀a,AgM ds a n ((d,.pointer (some ad))::L)->wpList P ops Q rest a w):wpList P ops Q (⟨some d,.indexAddr t x y,ty,pos,after,none⟩::rest) a w:=by
  subst hp
  obtain ⟨ad,c,rfl,hc⟩:=hs.at' (p:=i.toNat) (by omega) y0
  exact y9i h hx hy he h0 h1 rfl hn (q _ hc)
theorem z1a {α:Type} {E:Enc α} {bytes:Nat} {ys:List α} {p:Nat} (y0:α) (hx:ev L x=some v) (hs:Sl E w' v ys) (hy:ev L y=some (.int k i)) (he:ElemOf P t T E bytes) (hp:i.toNat=p) (q:∀ad,(∀W,Sl E W v ys->Cells W ad (E.enc (ys.getD p y0)))->WL P ops Q rest n ds w ((d,.pointer (some ad))::L)) (h0:0<=i:=by omega) (h1:i<ys.length:=by omega) (hn:Nat.blt d n=true:=by exact rfl):WL P ops Q (⟨some d,.indexAddr t x y,ty,pos,after,none⟩::rest) n ds w L:=λa h=>u4g y0 h hx hs hy he h0 h1 hp hn q -- short
theorem v2b {α:Type} {E:Enc α} {bytes:Nat} {ys:List α} {p:Nat} (y0:α) (h:AgM ds a n L) (hx:ev L x=some v) (hs:Sl E w' v ys) (hy:ev L y=some (.int k i)) (he:ElemOf P t T E bytes) (h0:0<=i) (h1:i<ys.length) (hp:i.toNat=p) (hn:Nat.blt d n=true)
    (q:∀ad,(∀W,Sl E W v ys->Cells W ad (E.enc (ys.getD p y0)))->∀a,AgM ds a n ((d,.pointer (some ad))::L)->wpQuiet P ops C Qa rest a):wpQuiet P ops C Qa (⟨some d,.indexAddr t x y,ty,pos,after,none⟩::rest) a:=by
  subst hp
  obtain ⟨ad,c,rfl,hc⟩:=hs.at' (p:=i.toNat) (by omega) y0
  exact u2h h hx hy he h0 h1 rfl hn (q _ hc)
theorem z1k {G:Option (Nat×Bool)} {K:Act->World->Prop} {fu:Nat} {listed:Array Bool} {pq:Option Nat} {α:Type} {E:Enc α} {bytes:Nat} {ys:List α} {p:Nat} (y0:α) (ix:Nat) (h:AgM ds a n L) (hx:ev L x=some v) (hs:Sl E w' v ys) (hy:ev L y=some (.int k i)) (he:ElemOf P t T E bytes) (hix:ops[ix]?=some ⟨some d,.indexAddr t x y,ty,pos,after,G⟩) (q:∀ad,(∀W,Sl E W v ys->Cells W ad (E.enc (ys.getD p y0)))->∀a,AgM ds a n ((d,.pointer (some ad))::L)->z0w pq P ops (z0p K) C fu (listed.setIfInBounds ix true) a w) (hsel:Region.noSelect ops=true:=by kernel_rfl) (hfr:Fre pq ops listed ix=true:=by kernel_rfl) (hre:(Region.ready .any ops listed).contains ix=true:=by kernel_rfl) (hC:C w:=by exact hC) (hG:Wd ops n L G:=by exact wn) (h0:0<=i:=by omega) (h1:i<ys.length:=by omega) (hp:i.toNat=p:=by omega) (hn:Nat.blt d n=true:=by exact rfl):z0w pq P ops (z0p K) C (fu+1) listed a w:=by
  subst hp
  obtain ⟨ad,c,rfl,hc⟩:=hs.at' (p:=i.toNat) (by omega) y0
  exact z1n ix hsel hfr hre hC h hG hx hy he h0 h1 rfl hix hn (q _ hc)
theorem z3e {G:Option (Nat×Bool)} {K:Act->World->Prop} {fu:Nat} {listed:Array Bool} {pq:Option Nat} {ad:Addr} (ix:Nat) (h:AgM ds a n L) (hx:ev L x=some (.pointer (some ad))) (hc:∀w,C w->Cells w ad [v]) (hg:z2b P t) (hix:ops[ix]?=some ⟨some d,.load t x,ty,pos,after,G⟩) (q:∀a,AgM ds a n ((d,v)::L)->z0w pq P ops (z0p K) C fu (listed.setIfInBounds ix true) a w) (hsel:Region.noSelect ops=true:=by kernel_rfl) (hfr:Fre pq ops listed ix=true:=by kernel_rfl) (hre:(Region.ready .any ops listed).contains ix=true:=by kernel_rfl) (hC:C w:=by exact hC) (hG:Wd ops n L G:=by exact wn) (hn:Nat.blt d n=true:=by exact rfl):z0w pq P ops (z0p K) C (fu+1) listed a w:=
  y7s ix hsel hfr hre hC h hG hx (λW hW=>by have:=hc W hW 0 v rfl;rwa [Addr.add_zero'] at this) hg hix hn q
theorem u6x {ad:Addr} {f off o1:Nat} (h:AgM ds a n L) (hx:ev L x=some (.pointer (some (ad.add o1)))) (hf:z0z P t f off) (hn:Nat.blt d n=true) (q:∀a,AgM ds a n ((d,.pointer (some (ad.add (o1+off))))::L)->wpList P ops Q rest a w):wpList P ops Q (⟨some d,.fieldAddr t x f,ty,pos,after,none⟩::rest) a w:=
 y2e h hx hf hn (by rw [z8v];exact q)
theorem y2g {ad:Addr} {f off o1:Nat} (hx:ev L x=some (.pointer (some (ad.add o1)))) (hf:z0z P t f off) (q:WL P ops Q rest n ds w ((d,.pointer (some (ad.add (o1+off))))::L)) (hn:Nat.blt d n=true:=by exact rfl):WL P ops Q (⟨some d,.fieldAddr t x f,ty,pos,after,none⟩::rest) n ds w L:=λa h=>u6x h hx hf hn q -- short
theorem z7u {G:Option (Nat×Bool)} {K:Act->World->Prop} {fu:Nat} {listed:Array Bool} {pq:Option Nat} {ad:Addr} {f off o1:Nat} (ix:Nat) (hC:C w) (h:AgM ds a n L) (hG:Wd ops n L G) (hx:ev L x=some (.pointer (some (ad.add o1)))) (hf:z0z P t f off) (hix:ops[ix]?=some ⟨some d,.fieldAddr t x f,ty,pos,after,G⟩) (q:∀a,AgM ds a n ((d,.pointer (some (ad.add (o1+off))))::L)->z0w pq P ops (z0p K) C fu (listed.setIfInBounds ix true) a w) (hsel:Region.noSelect ops=true:=by kernel_rfl) (hfr:Fre pq ops listed ix=true:=by kernel_rfl) (hre:(Region.ready .any ops listed).contains ix=true:=by kernel_rfl) (hn:Nat.blt d n=true:=by exact rfl):z0w pq P ops (z0p K) C (fu+1) listed a w:=
  z0c ix h hx hf hix (by rw [z8v];exact q) (hsel:=hsel) (hfr:=hfr) (hre:=hre) (hG:=hG) (hn:=hn)
theorem v7h {G:Option (Nat×Bool)} {K:Act->World->Prop} {fu:Nat} {listed:Array Bool} {pq:Option Nat} {ad:Addr} {off:Nat} {cs:List Value} (ix:Nat) (hsel:Region.noSelect ops=true) (hfr:Fre pq ops listed ix=true) (hre:(Region.ready .any ops listed).contains ix=true) (hC:C w) (h:AgM ds a n L) (hG:Wd ops n L G) (hx:ev L x=some (.pointer (some (ad.add off)))) (hc:∀w,C w->Cells w ad cs) (hv:cs[off]?=some v) (hg:z2b P t)
    (hix:ops[ix]?=some ⟨some d,.load t x,ty,pos,after,G⟩) (hn:Nat.blt d n=true) (q:∀a,AgM ds a n ((d,v)::L)->z0w pq P ops (z0p K) C fu (listed.setIfInBounds ix true) a w):z0w pq P ops (z0p K) C (fu+1) listed a w:=
  y7s ix hsel hfr hre hC h hG hx (λW hW=>hc W hW off v hv) hg hix hn q
theorem Blk.part {w:World} {g T off:Nat} {cs vs:List Value} (hb:Blk w g T cs) (hv:(cs.drop off).take vs.length=vs):Cells w ((⟨g,0,none⟩:Addr).add off) vs:=λj u hu=>by
 rw [<-hv] at hu
 have hj:(cs.drop off)[j]?=some u:=by
  rw [List.getElem?_take] at hu;split at hu
  ·exact hu
  cases hu
 rw [List.getElem?_drop] at hj
 rw [z8v];exact hb.cellAdd hj
theorem z1c {G:Option (Nat×Bool)} {K:Act->World->Prop} {fu:Nat} {listed:Array Bool} {pq:Option Nat} {g T off:Nat} {cs vs:List Value} (ix:Nat) (h:AgM ds a n L) (hx:ev L x=some (.pointer (some ((⟨g,0,none⟩:Addr).add off)))) (hb:∀w,C w->Blk w g T cs) (hg:z3p P t vs.length) (hv:(cs.drop off).take vs.length=vs) (hix:ops[ix]?=some ⟨some d,.load t x,ty,pos,after,G⟩) (q:∀a,AgM ds a n ((d,.agg vs.toArray)::L)->z0w pq P ops (z0p K) C fu (listed.setIfInBounds ix true) a w) (hsel:Region.noSelect ops=true:=by kernel_rfl) (hfr:Fre pq ops listed ix=true:=by kernel_rfl) (hre:(Region.ready .any ops listed).contains ix=true:=by kernel_rfl) (hC:C w:=by exact hC) (hG:Wd ops n L G:=by exact wn) (hn:Nat.blt d n=true:=by exact rfl):z0w pq P ops (z0p K) C (fu+1) listed a w:=
  z2l ix h hG hx (λw hw=>(hb w hw).part hv) hg hix q (hsel:=hsel) (hfr:=hfr) (hre:=hre) (hn:=hn)
end
end Go.Lw
namespace Go.Lw
open Go.RowKit
abbrev Fo (r:Option Nat):Fence:={ Fence.wide with round:=r }
section
variable {P:Program} {a:Act} {n N:Nat} {L:List (Nat×Value)} {ds:List Nat} {w w':World} {Q:Exit->Act->World->Prop} {ops:Array Oper} {rest:List Oper} {o:Oper} {r:Option Nat}
theorem v6e {f:FuncId} {args:Array Value} {R:Ending->World->Prop} (h:Calls P f args w R):CallsIn (Fo r) N P f args w R:=(callsIn_wide (n:=N)).2 h
theorem x3u {f:FuncId} {args:Array Value} {R:Ending->World->Prop} (h:CallsIn (Fo r) N P f args w R):Calls P f args w R:=(callsIn_wide (n:=N)).1 h
theorem u3p {row:String} {args:Array Value} {R:Value->World->Prop} (h:Rows P row args w R):RowsIn (Fo r) N P row args w R:=λc cs _=>by
 obtain ⟨v,w',hr,hs⟩:=h c cs
 exact ⟨v,w',hr,(stepsIn_wide (P:=P)).2 hs⟩
def Oper.noDefer (o:Oper):Bool:=match o.op with|.defer _=>false|_=>true
theorem u0k (h:Oper.noDefer o=true) (ρ:Operand->Value):Oper.semAt (Fo r).round ρ o=execOp ρ o:=by
 cases r with
 | none=>rfl
 | some l=>exact Oper.semAt_some l ρ o (λc e=>by simp [Oper.noDefer,e] at h)
theorem u7j {K:Act->World->Prop} {E:Act->World->Prop} (hd:Oper.noDefer o=true) (h:o.wp P a w K (z0p E)):o.wpIn (Fo r) N P a w K Q:=by
 refine ⟨λ_ _=>trivial,?_⟩
 rw [u0k hd]
 unfold Oper.wp at h
 generalize (execOp a.eval o).run P w=x at h ⊢
 cases x with
 | ok nx w'=>
  cases nx<;>simp only [Oper.upon,Oper.uponIn] at h ⊢<;>first
   | exact h
   | exact ⟨λe=>by simp [Fo,Fence.wide] at e,v6e (Calls.mono h λe w'' he=>by cases e<;>first|exact he|exact he.elim|(obtain ⟨_,_,he⟩:=he;exact he.elim))⟩
   | exact ⟨λe=>by simp [Fo,Fence.wide] at e,u3p h⟩
 | halt x w'=>cases x<;>simp only [Oper.upon,Oper.uponIn] at h ⊢<;>exact h.elim
theorem j2l {E:Act->World->Prop}:¬LetsOut (z0p E):=by rintro ⟨_,_,h⟩;exact h
theorem y4p {E:Act->World->Prop} (l2:List Oper) (hE:∀a w,E a w->wpListIn (Fo r) N P ops Q l2 a w):∀(l:List Oper) (a:Act) (w:World),l.all Oper.noDefer=true->wpList P ops (z0p E) l a w->wpListIn (Fo r) N P ops Q (l++l2) a w
 | [],a,w,_,h=>hE a w h
 | o::l,a,w,hd,h=>by
  simp only [List.all_cons,Bool.and_eq_true] at hd
  unfold wpList at h
  rw [List.cons_append];unfold wpListIn
  split
  ·rename_i hw
   rw [if_pos hw] at h
   rcases h with h|⟨_,h⟩
   ·exact Oper.wpIn_mono (λa w h=>y4p l2 hE l a w hd.2 h) (u7j hd.1 h)
   exact absurd h j2l
  rename_i hw
  rw [if_neg hw] at h
  exact ⟨λ_ _=>trivial,y4p l2 hE l _ w hd.2 h⟩
theorem ireg {id:Nat} {l:List Oper} (hd:l.all Oper.noDefer=true) (h:wpList P l.toArray (z0p (Q .normal)) l a w):(Code.region id l.toArray false).wpIn (Fo r) N P Q a w:=by
 refine wpIn_region_lit ?_
 have:=y4p (r:=r) (N:=N) (Q:=Q) [] (λa w h=>wpListIn_nil h) l a w hd h
 rwa [List.append_nil] at this
theorem u0n (h:Q .normal a w):wpList P ops (z0p (Q .normal)) [] a w:=h
theorem x8y {c:Operand} {x y:Code} (h:AgM ds a n L) (hc:ev L c=some (.bool true)) (k:x.wpIn (Fo r) N P Q a w):(Code.cond c x y).wpIn (Fo r) N P Q a w:=wpIn_cond_true (h.eval hc) k
theorem x4k {c:Operand} {x y:Code} (h:AgM ds a n L) (hc:ev L c=some (.bool false)) (k:y.wpIn (Fo r) N P Q a w):(Code.cond c x y).wpIn (Fo r) N P Q a w:=wpIn_cond_false (h.eval hc) k
theorem x3e {c:Operand} {x y:Code} {b:Bool} (h:AgM ds a n L) (hc:ev L c=some (.bool b)) (ht:b=true->x.wpIn (Fo r) N P Q a w) (hf:b=false->y.wpIn (Fo r) N P Q a w):(Code.cond c x y).wpIn (Fo r) N P Q a w:=
 wpIn_cond_split (h.eval hc) ht hf
theorem j3k {c:Code} {ι:Type} (L:ι->List (Nat×Value)) (I:ι->World->Prop) (μ:ι->Nat) (i:ι) (h:AgM ds a n (L i)) (hI:I i w)
    (round:∀i w a,AgM ds a n (L i)->I i w->c.wpIn (Fo r) N P (Exit.then (λa' w'=>∃j,AgM ds a' n (L j)/\I j w'/\μ j<μ i) Q) a w):(Code.loop c).wpIn (Fo r) N P Q a w:=by
  intro b k cs hro hb hr
  have key:∀m i w a,μ i=m->AgM ds a n (L i)->I i w->
      ∃e a' w',Q e a' w'/\ArrivesIn (Machine.fenced P (Fo r)) P (lone (b.atR a (.code c::.inLoop c::k)) cs w) b k cs e a' w':=by
    intro m
    induction m using Nat.strongRecOn with
    | _ m ih=>
      intro i w a hm hA hI
      obtain ⟨e,a₁,w₁,hq,harr⟩:=round i w a hA hI b (.inLoop c::k) cs hro hb hr
      cases e with
      | normal=>
        obtain ⟨j,hA₁,hI₁,hlt⟩:=hq
        obtain ⟨e₂,a₂,w₂,hq₂,harr₂⟩:=ih (μ j) (hm▸hlt) j w₁ a₁ rfl hA₁ hI₁
        exact ⟨e₂,a₂,w₂,hq₂,.of_steps (StepsIn.trans harr (.one (fenced_calm hb hr rfl) stepR_inLoop)) harr₂⟩
      | exit id=>exact ⟨_,a₁,w₁,hq,.pass (x:=.inLoop c) rfl (λ_ _=>.inl (by simp)) harr⟩
      | goto l=>exact ⟨_,a₁,w₁,hq,.pass (x:=.inLoop c) rfl (λ_ _=>.inl (by simp)) harr⟩
      | ret=>exact ⟨_,a₁,w₁,hq,.pass (x:=.inLoop c) rfl (λ_ _=>.inl (by simp)) harr⟩
      | panic ch=>exact ⟨_,a₁,w₁,hq,.pass (x:=.inLoop c) rfl (λ_ _=>.inl (by simp)) harr⟩
      | outgrown=>exact ⟨_,a₁,w₁,hq,.pass (x:=.inLoop c) rfl (λ_ _=>.inl (by simp)) harr⟩
  obtain ⟨e,a',w',hq,harr⟩:=key _ i w a rfl h hI
  exact ⟨e,a',w',hq,.of_steps (.one (fenced_calm hb hr rfl) stepR_loop) harr⟩
end
end Go.Lw
namespace Go.Lw
open Go.RowKit
structure FrK (K:Nat->Prop) (w w':World):Prop where
  os:w'.os=w.os
  tape:w'.tape=w.tape
  output:w'.output=w.output
  size:w.heap.size<=w'.heap.size
  block:∀k,k<w.heap.size->K k->w'.heap[k]?=w.heap[k]?
theorem FrK.refl (K:Nat->Prop) (w:World):FrK K w w:=⟨rfl,rfl,rfl,Nat.le_refl _,λ_ _ _=>rfl⟩
theorem FrK.trans {K K':Nat->Prop} {x y z:World} (h:FrK K x y) (h':FrK K' y z) (hk:∀k,k<x.heap.size->K k->K' k):FrK K x z:=
 ⟨h'.os.trans h.os,h'.tape.trans h.tape,h'.output.trans h.output,Nat.le_trans h.size h'.size,λk hl hK=>
  (h'.block k (Nat.lt_of_lt_of_le hl h.size) (hk k hl hK)).trans (h.block k hl hK)⟩
theorem FrK.weak {K K':Nat->Prop} {x y:World} (h:FrK K x y) (hk:∀k,k<x.heap.size->K' k->K k):FrK K' x y:=⟨h.os,h.tape,h.output,h.size,λk hl hK=>h.block k hl (hk k hl hK)⟩
theorem Fr.toK {S:List Nat} {w w':World} (h:Fr S w w'):FrK (·∉S) w w':=⟨h.os,h.tape,h.output,h.size,h.block⟩
theorem FrK.step {K:Nat->Prop} {S:List Nat} {x y z:World} (h:FrK K x y) (h':Fr S y z) (hS:∀k∈S,k<x.heap.size->¬K k):FrK K x z:=
 h.trans h'.toK λk hl hK e=>hS k e hl hK
theorem FrK.next {K:Nat->Prop} {x y z:World} (h:FrK K x y) (h':Fr [] y z):FrK K x z:=h.step h' (by simp)
section
variable {α:Type} {E:Enc α} {T:TypeId} {base g:Nat} {w w':World} {v:Value} {ys:List α} {K:Nat->Prop} {cs:List Value} {ad:Addr}
theorem FrK.cell (h:FrK K w w') {p:Addr} {u:Value} (hc:w.cell? p=some u) (hn:K p.block):w'.cell? p=some u:=
 (World.cell?_of_block (w:=w) (h.block p.block (block_lt_of_cell hc) hn)).trans hc
end
def Turn (n0:Nat) (W W':World):Prop:=∃row,W.grownBy W' row/\∀r,row=some r->n0<=r/\∃o:Obj,W.heap[r]?=some o/\o.isCells=false
section
variable {α:Type} {E:Enc α} {T:TypeId} {base g n0:Nat} {w W W':World} {v:Value} {ys:List α} {K:Nat->Prop} {cs:List Value} {ad:Addr} {S:List Nat}
theorem Turn.at (h:Turn n0 W W') {k:Nat} {o:Obj} (hk:W.heap[k]?=some o) (hc:o.isCells=true\/k<n0):W'.heap[k]?=some o:=by
 obtain ⟨row,hg,hr⟩:=h
 refine (hg.block k (Array.getElem?_eq_some_iff.1 hk).1 λe=>?_).trans hk
 obtain ⟨h1,o',h2,h3⟩:=hr k e.symm
 rw [hk] at h2;cases h2
 rcases hc with hc|hc
 ·rw [hc] at h3;cases h3
 omega
theorem y9c {p:Addr} {u:Value} (h:W.cell? p=some u):∃o,W.heap[p.block]?=some o/\o.isCells=true:=by
 unfold World.cell? at h
 split at h
 ·rename_i e;exact ⟨_,e,rfl⟩
 cases h
theorem Turn.cell (h:Turn n0 W W') {p:Addr} {u:Value} (hc:W.cell? p=some u):W'.cell? p=some u:=by
 obtain ⟨o,h1,h2⟩:=y9c hc
 exact (World.cell?_of_block (w:=W) ((h.at h1 (.inl h2)).trans h1.symm)).trans hc
theorem Cells.turn (h:Cells W ad cs) (ht:Turn n0 W W'):Cells W' ad cs:=λj u hu=>ht.cell (h j u hu)
theorem Sl.turn (h:Sl E W v ys) (ht:Turn n0 W W'):Sl E W' v ys:=by
 obtain ⟨A,c,rfl,h1,h2,h3⟩:=h
 exact ⟨A,c,rfl,h1,h2,λi y hy=>by obtain ⟨ad,rfl,hc⟩:=h3 i y hy;exact ⟨ad,rfl,hc.turn ht⟩⟩
theorem Own.turn (h:Own E T base W v ys) (ht:Turn n0 W W'):Own E T base W' v ys:=by
 rcases h with ⟨rfl,rfl⟩|⟨g,cap,cur,rfl,hb,hg,r⟩
 ·exact .inl ⟨rfl,rfl⟩
 exact .inr ⟨g,cap,cur,rfl,hb,ht.at hg (.inl rfl),r⟩
theorem Blk.turn (h:Blk W g T cs) (ht:Turn n0 W W'):Blk W' g T cs:=ht.at h (.inl rfl)
theorem Fr.turn (h:Fr S w W) (ht:Turn n0 W W') (hn:w.heap.size<=n0):Fr S w W':=by
 obtain ⟨row,hg,hr⟩:=ht
 exact ⟨hg.os.trans h.os,hg.tape.trans h.tape,hg.output.trans h.output,Nat.le_trans h.size hg.size,λk hk hS=>
  (hg.block k (Nat.lt_of_lt_of_le hk h.size) (λe=>by have:=(hr k e.symm).1;omega)).trans (h.block k hk hS)⟩
theorem FrK.turn (h:FrK K w W) (ht:Turn n0 W W') (hn:w.heap.size<=n0):FrK K w W':=by
 obtain ⟨row,hg,hr⟩:=ht
 exact ⟨hg.os.trans h.os,hg.tape.trans h.tape,hg.output.trans h.output,Nat.le_trans h.size hg.size,λk hk hS=>
  (hg.block k (Nat.lt_of_lt_of_le hk h.size) (λe=>by have:=(hr k e.symm).1;omega)).trans (h.block k hk hS)⟩
end
def Keep (B:List Nat) (W W':World):Prop:=∀b∈B,W'.heap[b]?=W.heap[b]?
def x6f (W:World) (k:Nat):Prop:=∃o:Obj,W.heap[k]?=some o/\o.isCells=false
section
variable {P:Program} {a:Act} {n N:Nat} {L:List (Nat×Value)} {ds:List Nat} {w w':World} {Q:Exit->Act->World->Prop} {ops:Array Oper} {rest:List Oper} {o:Oper} {r:Option Nat}
theorem v1z (h:AgM ds a n L):∀(ps:List (Nat×Value)),ps.all (λp=>Nat.blt p.1 n)=true->AgM [] { tmps:=ps.foldl (λt p=>t.setIfInBounds p.1 p.2) a.tmps,defers:=[] } n (ps.reverse++L):=by
 intro ps hp
 have h0:AgM [] { a with defers:=[] } n L:=⟨rfl,h.size,h.at_⟩
 have key:∀(ps:List (Nat×Value)) (a:Act) (L:List (Nat×Value)),ps.all (λp=>Nat.blt p.1 n)=true->AgM [] a n L->AgM [] { tmps:=ps.foldl (λt p=>t.setIfInBounds p.1 p.2) a.tmps,defers:=[] } n (ps.reverse++L):=by
  intro ps
  induction ps with
  | nil=>intro a L _ h;exact ⟨rfl,h.size,h.at_⟩
  | cons p ps ih=>
   intro a L hp h
   simp only [List.all_cons,Bool.and_eq_true] at hp
   have:=ih (a.put (some p.1) p.2) _ hp.2 (h.put hp.1 p.2)
   simpa [Act.put] using this
 exact key ps { a with defers:=[] } L hp h0
theorem j1l {f:FuncId} {fn:Func} {c:Code} {args:Array Value} {R:Ending->World->Prop} (L:List (Nat×Value))
    (hf:P.funcs[f]?=some fn) (hb:fn.body=some c) (hn:fn.ntmps=n) (hk:Nat.ble args.size n=true) (hL:argsOk args L)
    (h:∀a,Ag a n L->c.wpIn (Fo none) 9 P (bodyPostM (Fo none) 9 P fn R) a w):Calls P f args w R:=by
  have hk':args.size<=n:=by simpa [Nat.ble_eq] using hk
  refine x3u (r:=none) (N:=9) (callsIn_of_wp_marks hf hb trivial (h _ ⟨rfl,by simp [hn];omega,λt v hv=>?_⟩))
  have:=argsOk.look hL hv
  simp only [Array.getD_eq_getD_getElem?,Array.getElem?_append]
  have ht:t<args.size:=by
    rcases Nat.lt_or_ge t args.size with h|h
    · exact h
    · rw [Array.getElem?_eq_none h] at this;cases this
  rw [if_pos ht,this];rfl
theorem j0a {f:FuncId} {fn:Func} {c:Code} {args:Array Value} {R:Ending->World->Prop} (L:List (Nat×Value))
    (hf:P.funcs[f]?=some fn) (hb:fn.body=some c) (hn:fn.ntmps=n) (hk:Nat.ble args.size n=true) (hL:argsOk args L)
    (h:∀a,Ag a n L->c.wpIn (Fo none) N P (bodyPost P fn R) a w):CallsIn (Fo none) N P f args w R:=by
  have hk':args.size<=n:=by simpa [Nat.ble_eq] using hk
  refine callsIn_of_wp hf hb trivial (h _ ⟨rfl,by simp [hn];omega,λt v hv=>?_⟩)
  have:=argsOk.look hL hv
  simp only [Array.getD_eq_getD_getElem?,Array.getElem?_append]
  have ht:t<args.size:=by
    rcases Nat.lt_or_ge t args.size with h|h
    · exact h
    · rw [Array.getElem?_eq_none h] at this;cases this
  rw [if_pos ht,this];rfl
theorem z8u {fn:Func} {R:Ending->World->Prop} {tmps:Array Value} {v:Value}:∀(ds:List Nat) (w:World),(∀D∈ds,w.heap[D]?=some (.deferred (some [])))->ds.Nodup->(∀w',(results fn tmps).run P w'=.ok v w')->
    (∀w',Fr ds w w'->(∀n0,(∀D∈ds,n0<=D)->FrK (λk=>¬k∈ds) w w')->R (.returned v) w')->LeavesInM (Fo none) N P fn tmps R (ds.map mark) .returning w
  | [],w,_,_,hv,k=>⟨v,hv w,k w (Fr.refl _ _) (λ_ _=>FrK.refl _ _)⟩
  | D::ds,w,hD,hnd,hv,k=>by
    refine ⟨by simp,.inl ⟨D,_,rfl,run_takeDeferred (hD D (by simp)),?_⟩⟩
    rw [List.nodup_cons] at hnd
    have hf:Fr [D] w (w.putObj D (.deferred none)):=⟨rfl,rfl,rfl,by simp,λk _ hk=>World.putObj_heap_other (by simpa using hk)⟩
    refine z8u ds _ (λD' h'=>?_) hnd.2 hv (λw' hw _=>?_)
    · rw [World.putObj_heap_other (by rintro rfl;exact hnd.1 h')];exact hD D' (by simp [h'])
    · have:Fr (D::ds) w w':=hf.trans hw
      exact k w' this (λ_ _=>this.toK)
theorem u8r {fn:Func} {R:Ending->World->Prop} (h:AgM ds a n L) (hr:fn.results=#[]) (hD:∀D∈ds,w.heap[D]?=some (.deferred (some []))) (hnd:ds.Nodup) (k:∀w',Fr ds w w'->R (.returned (.tuple #[])) w'):bodyPostM (Fo none) N P fn R .ret a w:=by
 show LeavesInM _ _ _ _ _ _ a.defers _ _
 rw [h.dfr];exact z8u ds w hD hnd (λw'=>results_none hr _ _ _) (λw' hw _=>k w' hw)
theorem u9a {fn:Func} {R:Ending->World->Prop} (h:AgM ds a n L) (hr:fn.results=#[]) (hD:∀D∈ds,w.heap[D]?=some (.deferred (some []))) (hnd:ds.Nodup) (k:∀w',Fr ds w w'->R (.returned (.tuple #[])) w'):bodyPostM (Fo none) N P fn R .normal a w:=u8r h hr hD hnd k
theorem j5j {fn:Func} {R:Ending->World->Prop} {t:Nat} {v:Value} (h:AgM ds a n L) (hr:fn.results=#[.tmp t]) (hv:look L t=some v) (hD:∀D∈ds,w.heap[D]?=some (.deferred (some []))) (hnd:ds.Nodup) (k:∀w',Fr ds w w'->R (.returned v) w'):bodyPostM (Fo none) N P fn R .ret a w:=by
 show LeavesInM _ _ _ _ _ _ a.defers _ _
 rw [h.dfr];exact z8u ds w hD hnd (λw'=>by rw [<-h.at_ t v hv];exact results_tmp hr _ _ _) (λw' hw _=>k w' hw)
end
end Go.Lw
namespace Go.Lw
open Go.RowKit
theorem Blk.of_below {w w':World} {g B:Nat} {T:TypeId} {cs:List Value} (h:Blk w g T cs) (hb:Below B w w') (hg:g<B):Blk w' g T cs:=by
 unfold Blk at h ⊢;rw [hb.block g hg];exact h
theorem Fr.of_below' {w w':World} {B:Nat} (hb:Below B w w') (hB:w.heap.size<=B):Fr [] w w':=⟨hb.os,hb.tape,hb.output,hb.size,λk hk _=>hb.block k (by omega)⟩
theorem z4q {w w':World} {B:Nat} {S:List Nat} (hf:Fr S w w') (hS:∀k∈S,B<=k) (hB:B<=w.heap.size):Below B w w':=
 ⟨hf.os,hf.tape,hf.output,hf.size,λk hk=>hf.block k (by omega) (λe=>by have:=hS k e;omega)⟩
theorem u1s {T e:TypeId} {B b:Nat} {p:Value} {bs:List Value} {w w':World} (h:Lib.BuilderAt T e B b p bs w) (hf:Fr [] w w'):Lib.BuilderAt T e B b p bs w':=by
 obtain ⟨hB,v,hb,⟨hl,hown⟩,hne⟩:=h
 have hblk:∀k o,w.heap[k]?=some o->w'.heap[k]?=some o:=λk o hk=>by
  rw [hf.block k (Array.getElem?_eq_some_iff.1 hk).1 (by simp)];exact hk
 refine ⟨hB,v,hblk _ _ hb,⟨hl,?_⟩,hne⟩
 rcases hown with h1|⟨g,cap,cur,h1,h2,h3,r⟩
 ·exact .inl h1
 exact .inr ⟨g,cap,cur,h1,h2,hblk _ _ h3,r⟩
theorem u9y {T e:TypeId} {B b:Nat} {bs:List Value} {w w':World} (h:Lib.IsBuilder T e B b bs w) (hf:Fr [] w w'):Lib.IsBuilder T e B b bs w':=h.imp (u1s · hf) (u1s · hf)
theorem u0r {w w':World} {S:List Nat} {B:Nat} {e:TypeId} {v:Value} {n:Nat} {xs:List Value} (h:w.ownsRow B e 1 v n xs) (hf:Fr S w w') (hS:∀g∈S,v.ownBlock≠some g):w'.ownsRow B e 1 v n xs:=by
 obtain ⟨hl,hown⟩:=h
 refine ⟨hl,?_⟩
 rcases hown with h1|⟨g,cap,cur,rfl,h2,h3,r⟩
 ·exact .inl h1
 exact .inr ⟨g,cap,cur,rfl,h2,by rw [hf.block g (Array.getElem?_eq_some_iff.1 h3).1 (λe=>hS g e rfl)];exact h3,r⟩
theorem x7n {w w':World} {r:Option Nat} (h:w.grownBy w' r):Fr r.toList w w':=
 ⟨h.os,h.tape,h.output,h.size,λk hk hn=>h.block k hk (λe=>hn (by simp [<-e]))⟩
theorem u0c {w:World} {B:Nat} {e:TypeId} {v:Value} {n:Nat} {xs:List Value} (h:w.ownsRow B e 1 v n xs):∀k∈v.ownBlock.toList,B<=k:=by
 obtain ⟨-,⟨rfl,-⟩|⟨g,cap,cur,rfl,h2,-⟩⟩:=h
 ·simp [Value.ownBlock]
 simpa [Value.ownBlock] using h2
theorem y9f {w:World} {B:Nat} {e:TypeId} {v:Value} {n:Nat} {xs:List Value} (h:w.ownsRow B e 1 v n xs):v.oneCell'=true/\v.cells=#[v]:=by
 obtain ⟨-,⟨rfl,-⟩|⟨g,cap,cur,rfl,-⟩⟩:=h<;>exact ⟨rfl,rfl⟩
theorem v2l {T e:TypeId} {B b:Nat} {p v:Value} {bs:List Value} {w w':World} (hB:B<=b) (hb:Blk w' b T [p,v]) (ho:w.ownsRow B e 1 v bs.length bs) (hf:Fr [b] w w') (hne:v.ownBlock≠some b):Lib.BuilderAt T e B b p bs w':=
 ⟨hB,v,hb,u0r ho hf (λg hg=>by rw [List.mem_singleton.1 hg];exact hne),hne⟩
theorem v3u {w:World} {B:Nat} {e:TypeId} {v:Value} {l s:List UInt8} (h:w.ownsRow B e 1 v (l.length+s.length) (Lib.byteCells l++Lib.strCells ⟨s.toArray⟩)):w.ownsRow B e 1 v (Lib.byteCells (l++s)).length (Lib.byteCells (l++s)):=by
 have e:Lib.byteCells l++Lib.strCells ⟨s.toArray⟩=Lib.byteCells (l++s):=by simp [Lib.byteCells,Lib.strCells]
 rw [Lib.byteCells_length,List.length_append,<-e];exact h
theorem v9k {w:World} {B g k:Nat} {T:TypeId} {c:UInt8} (h:Lw.Own Enc.b T B w (.slice (some ⟨g,0,none⟩) 1 k) [c]):∀j u,(Lib.strCells ⟨[c].toArray⟩)[j]?=some u->w.cell? ((⟨g,0,none⟩:Addr).add j)=some u:=by
 obtain ⟨A,cc,e,-,-,h3⟩:=h.sl
 obtain ⟨ad,rfl,hc⟩:=h3 0 c rfl
 cases e
 intro j u hu
 have:=hc j u hu
 rw [Nat.zero_mul,z3l,z3l,Nat.zero_add] at this
 rw [z3l,Nat.zero_add];exact this
section
variable {P:Program} {a:Act} {n:Nat} {L:List (Nat×Value)} {ds:List Nat} {w w':World} {Q:Exit->Act->World->Prop} {ops:Array Oper} {rest:List Oper}
variable {d:Nat} {ty:TypeId} {pos:String} {after:Array Edge} {x y:Operand} {t t' T T':TypeId} {v:Value} {ad:Addr} {po:Option Addr}
theorem x9k (h:AgM ds a n L) (hx:ev L x=some (.pointer po)) (hu:P.underlying t=some (.pointer T)) (hn:Nat.blt d n=true) (q:∀a,AgM ds a n ((d,.bool po.isNone)::L)->wpList P ops Q rest a w) :
    wpList P ops Q (⟨some d,.binOp .eql t x (.const (.pointer none)) t',ty,pos,after,none⟩::rest) a w:=
  z1u h rfl rfl hn (by
    have hp:P.pointee t=T:=by simp [Program.pointee,hu]
    have h3:=run_eql_pointer_nil (P:=P) (w:=w) t po (by rw [hp];exact hu)
    have h4:a.eval (.const (.pointer none))=.pointer none:=rfl
    simp [execOp,h.eval hx,h4,eqGuard,h3]) q
theorem v5y (hx:ev L x=some (.pointer po)) (hu:P.underlying t=some (.pointer T)) (hn:Nat.blt d n=true) (q:WL P ops Q rest n ds w ((d,.bool po.isNone)::L)):WL P ops Q (⟨some d,.binOp .eql t x (.const (.pointer none)) t',ty,pos,after,none⟩::rest) n ds w L:=λa h=>x9k h hx hu hn q -- short
theorem x8t {j:TypeInfo} (h:AgM ds a n L) (hx:ev L x=some (.pointer (some ad))) (hy:ev L y=some (.pointer (some ad))) (hu:P.underlying t=some (.pointer T)) (hi:P.info? T=some j) (hn:Nat.blt d n=true)
    (q:∀a,AgM ds a n ((d,.bool false)::L)->wpList P ops Q rest a w):wpList P ops Q (⟨some d,.binOp .neq t x y t',ty,pos,after,none⟩::rest) a w:=
  z1u h rfl rfl hn (by
    have h3:=Lib.run_neq_ptr_same (P:=P) (w:=w) ad hu hi
    simp [execOp,h.eval hx,h.eval hy,eqGuard,h3]) q
theorem v4y {j:TypeInfo} (hx:ev L x=some (.pointer (some ad))) (hy:ev L y=some (.pointer (some ad))) (hu:P.underlying t=some (.pointer T)) (hi:P.info? T=some j) (hn:Nat.blt d n=true) (q:WL P ops Q rest n ds w ((d,.bool false)::L)):WL P ops Q (⟨some d,.binOp .neq t x y t',ty,pos,after,none⟩::rest) n ds w L:=λa h=>x8t h hx hy hu hi hn q -- short
theorem x3f {j:TypeInfo} {E cells:Nat} (h:AgM ds a n L) (hx:ev L x=some (.pointer (some ad))) (hs:P.underlying t=some (.pointer T)) (hd:P.underlying t'=some .unsafePointer) (hi:P.info? T=some j) (hj:j.size≠0) (hsh:w.shape? ad.block=some (E,cells)) (ho:ad.off<cells) (hn:Nat.blt d n=true)
    (q:∀a,AgM ds a n ((d,.pointer (some ad))::L)->wpList P ops Q rest a w):wpList P ops Q (⟨some d,.convert t t' x,ty,pos,after,none⟩::rest) a w:=
  z1u h rfl rfl hn (by
    have h3:=Lib.run_to_unsafe (P:=P) (w:=w) ad hs hd hi hj hsh ho
    simp [execOp,h.eval hx,h3]) q
theorem x7u {j:TypeInfo} {E cells:Nat} (hx:ev L x=some (.pointer (some ad))) (hs:P.underlying t=some (.pointer T)) (hd:P.underlying t'=some .unsafePointer) (hi:P.info? T=some j) (hj:j.size≠0) (hsh:w.shape? ad.block=some (E,cells)) (ho:ad.off<cells) (hn:Nat.blt d n=true) (q:WL P ops Q rest n ds w ((d,.pointer (some ad))::L)):WL P ops Q (⟨some d,.convert t t' x,ty,pos,after,none⟩::rest) n ds w L:=λa h=>x3f h hx hs hd hi hj hsh ho hn q -- short
theorem y8l {j:TypeInfo} {E cells:Nat} (h:AgM ds a n L) (hx:ev L x=some (.pointer (some ad))) (hs:P.underlying t=some .unsafePointer) (hd:P.underlying t'=some (.pointer T)) (hi:P.info? T=some j) (hsh:w.shape? ad.block=some (E,cells)) (hl:liesAt P P.depth E (cells / P.cellsOf E) ad.off T 1=true) (hn:Nat.blt d n=true)
    (q:∀a,AgM ds a n ((d,.pointer (some ad))::L)->wpList P ops Q rest a w):wpList P ops Q (⟨some d,.convert t t' x,ty,pos,after,none⟩::rest) a w:=
  z1u h rfl rfl hn (by
    have h3:=Lib.run_from_unsafe (P:=P) (w:=w) ad hs hd hi hsh hl
    simp [execOp,h.eval hx,h3]) q
theorem x0k {j:TypeInfo} {E cells:Nat} (hx:ev L x=some (.pointer (some ad))) (hs:P.underlying t=some .unsafePointer) (hd:P.underlying t'=some (.pointer T)) (hi:P.info? T=some j) (hsh:w.shape? ad.block=some (E,cells)) (hl:liesAt P P.depth E (cells / P.cellsOf E) ad.off T 1=true) (hn:Nat.blt d n=true) (q:WL P ops Q rest n ds w ((d,.pointer (some ad))::L)):WL P ops Q (⟨some d,.convert t t' x,ty,pos,after,none⟩::rest) n ds w L:=λa h=>y8l h hx hs hd hi hsh hl hn q -- short
theorem u4j {f:FuncId} {ts:Array TypeId} (h:AgM ds a n L) (hx:ev L x=some v) (hf:∀(u:Value) (w:World),(callFunc f #[u]).run P w=.ok (.value u) w) (hn:Nat.blt d n=true)
    (q:∀a,AgM ds a n ((d,v)::L)->wpList P ops Q rest a w):wpList P ops Q (⟨some d,.call ⟨.value (.func f),#[x],ts⟩,ty,pos,after,none⟩::rest) a w:=
  z1u h rfl rfl hn (by
    rw [execOp_call_go]
    simp only [List.map_toArray,List.map_cons,List.map_nil,h.eval hx]
    exact hf v w) q
theorem j0s {f:FuncId} {ts:Array TypeId} (hx:ev L x=some v) (hf:∀(u:Value) (w:World),(callFunc f #[u]).run P w=.ok (.value u) w) (hn:Nat.blt d n=true) (q:WL P ops Q rest n ds w ((d,v)::L)):WL P ops Q (⟨some d,.call ⟨.value (.func f),#[x],ts⟩,ty,pos,after,none⟩::rest) n ds w L:=λa h=>u4j h hx hf hn q -- short
theorem x1f {u:Value} {m B:Nat} {xs:List Value} {l:List UInt8} (h:AgM ds a n L) (hx:ev L x=some u) (hy:ev L y=some (S l)) (ht:P.underlying t=some (.slice T)) (hs:P.underlying t'=some .string) (hi:(P.info? T).map (λi=>(i.zero,i.size,i.bytes))=some (some (.int .u8 0),1,1))
    (ho:w.ownsRow B T 1 u m xs) (hM:m+l.length<=maxLen) (hb:m+l.length<=140737488355328) (hB:B<=w.heap.size) (hn:Nat.blt d n=true)
    (q:∀v' w',w'.ownsRow B T 1 v' (m+l.length) (xs++Lib.strCells ⟨l.toArray⟩)->w.grownBy w' u.ownBlock->∀a,AgM ds a n ((d,v')::L)->wpList P ops Q rest a w') :
    wpList P ops Q (⟨some d,.call ⟨.builtin .append,#[x,y],#[t,t']⟩,ty,pos,after,none⟩::rest) a w:=by
  obtain ⟨i,h1,h2,h3,h4⟩:=info_parts hi
  have hsz:(ByteArray.mk l.toArray).size=l.length:=by simp [ByteArray.size]
  obtain ⟨v',w',hr,r1,r2,_⟩:=Lib.run_append_own_string (P:=P) (w:=w) B t t' ty T i ht hs h1 h2 h3 h4 u m xs ho ⟨l.toArray⟩ (by rw [hsz];exact hM) (by rw [hsz];exact hb) hB
  rw [hsz] at r1
  refine z1u h rfl rfl hn (w':=w') ?_ (q v' w' r1 r2)
  rw [z1v];unfold builtin
  simp only [List.map_toArray,List.map_cons,List.map_nil,h.eval hx,h.eval hy,S,Sem.run_bind,hr,Result.andThen_ok,Sem.run_pure]
theorem x2e {u:Value} {m B k c:Nat} {xs news:List Value} {ad:Addr} (h:AgM ds a n L) (hx:ev L x=some u) (hy:ev L y=some (.slice (some ad) k c)) (ht:P.underlying t=some (.slice T)) (hi:(P.info? T).map (λi=>(i.zero,i.size,i.bytes))=some (some (.int .u8 0),1,1))
    (ho:w.ownsRow B T 1 u m xs) (hl:news.length=k) (hc:∀j u,news[j]?=some u->w.cell? (ad.add j)=some u) (h1:∀u∈news,u.oneCell'=true) (hM:m+k<=maxLen) (hb:m+k<=140737488355328) (hB:B<=w.heap.size) (hn:Nat.blt d n=true)
    (q:∀v' w',w'.ownsRow B T 1 v' (m+k) (xs++news)->w.grownBy w' u.ownBlock->∀a,AgM ds a n ((d,v')::L)->wpList P ops Q rest a w') :
    wpList P ops Q (⟨some d,.call ⟨.builtin .append,#[x,y],#[t,t]⟩,ty,pos,after,none⟩::rest) a w:=by
  obtain ⟨i,i1,i2,i3,i4⟩:=info_parts hi
  obtain ⟨v',w',hr,r1,r2,_⟩:=run_append_own (P:=P) (w:=w) B t ty T i _ 1 1 ht i1 i2 i3 i4 rfl (by decide) u m xs ho ad k c news (by omega) hc h1 hM (by omega) hB
  refine z1u h rfl rfl hn (w':=w') ?_ (q v' w' r1 r2)
  rw [z1v];unfold builtin
  simp only [List.map_toArray,List.map_cons,List.map_nil,h.eval hx,h.eval hy,Sem.run_bind,hr,Result.andThen_ok,Sem.run_pure]
end
end Go.Lw
namespace Go.Lw
open Go.RowKit
section
variable {P:Program} {n:Nat} {L:List (Nat×Value)} {ds:List Nat} {w w':World} {Q:Exit->Act->World->Prop} {ops:Array Oper} {rest:List Oper} {a:Act} {x y c:Code} {id:Nat}
class Says (b:Bool) (p:outParam Prop):Prop where
  iff:b=true↔p
instance (priority:=100) says_b (b:Bool):Says b (b=true):=⟨Iff.rfl⟩
instance (priority:=1000) says_d (p:Prop) {hp:Decidable p}:Says (@decide p hp) p:=⟨decide_eq_true_iff⟩
instance (priority:=1100) says_n (p:Prop) {hp:Decidable p}:Says (!(@decide p hp)) (¬p):=⟨by simp⟩
theorem Says.no {b:Bool} {p:Prop} [h:Says b p] (e:b=false):¬p:=λhp=>by rw [h.iff.2 hp] at e;cases e
theorem sq (h:CW P (Exit.then (y.wp P Q) Q) x n ds w L):CW P Q (.seq x y) n ds w L:=λa ha=>wp_seq (h a ha)
theorem rg {l:List Oper} (h:WL P l.toArray Q l n ds w L):CW P Q (.region id l.toArray false) n ds w L:=λa ha=>wp_region_lit (h a ha)
theorem sr {l:List Oper} (h:WL P l.toArray (Exit.then (y.wp P Q) Q) l n ds w L):CW P Q (.seq (.region id l.toArray false) y) n ds w L:=sq (rg h)
theorem bl (h:CW P (Exit.inBlock id Q) x n ds w L):CW P Q (.block id x) n ds w L:=λa ha=>wp_block (h a ha)
theorem sk (h:EW Q .normal n ds w L):CW P Q .skip n ds w L:=λa ha=>wp_skip (h a ha)
theorem lb {l:Nat} (h:EW Q .normal n ds w L):CW P Q (.label l) n ds w L:=λa ha=>wp_label (h a ha)
theorem rt (h:EW Q .ret n ds w L):CW P Q .ret n ds w L:=λa ha=>wp_ret (h a ha)
theorem ex (h:EW Q (.exit id) n ds w L):CW P Q (.exit id) n ds w L:=λa ha=>wp_exit (h a ha)
theorem sc (h:CW P (Exit.noGoto Q) x n ds w L):CW P Q (.scope x) n ds w L:=λa ha=>wp_scope_straight (h a ha)
theorem nl (h:EW Q .normal n ds w L):WL P ops Q [] n ds w L:=λa ha=>wpList_nil (h a ha)
theorem tn (h:CW P Q y n ds w L) {Q':Exit->Act->World->Prop}:EW (Exit.then (y.wp P Q) Q') .normal n ds w L:=h
theorem nn (h:CW P Q y n ds w L) {Q':Exit->Act->World->Prop}:WL P ops (Exit.then (y.wp P Q) Q') [] n ds w L:=nl (tn h)
theorem bn' (h:EW Q .normal n ds w L):EW (Exit.inBlock id Q) .normal n ds w L:=h
theorem rb (h:EW Q .ret n ds w L):EW (Exit.inBlock id Q) .ret n ds w L:=h
theorem tr {K:Act->World->Prop} (h:EW Q .ret n ds w L):EW (Exit.then K Q) .ret n ds w L:=h
theorem te {K:Act->World->Prop} (h:EW Q (.exit id) n ds w L):EW (Exit.then K Q) (.exit id) n ds w L:=h
theorem xh (h:EW Q .normal n ds w L):EW (Exit.inBlock id Q) (.exit id) n ds w L:=λa ha=>v1d (h a ha)
theorem xo {id':Nat} (hne:Nat.beq id' id=false) (h:EW Q (.exit id') n ds w L):EW (Exit.inBlock id Q) (.exit id') n ds w L:=λa ha=>v8s hne (h a ha)
theorem gn' (h:EW Q .normal n ds w L):EW (Exit.noGoto Q) .normal n ds w L:=h
theorem gx' (h:EW Q (.exit id) n ds w L):EW (Exit.noGoto Q) (.exit id) n ds w L:=h
theorem ct {C:Operand} (hc:ev L C=some (.bool true)) (k:CW P Q x n ds w L):CW P Q (.cond C x y) n ds w L:=λa h=>cond_true h hc (k a h)
theorem cf {C:Operand} (hc:ev L C=some (.bool false)) (k:CW P Q y n ds w L):CW P Q (.cond C x y) n ds w L:=λa h=>y5v h hc (k a h)
theorem cd {C:Operand} {b:Bool} {p:Prop} (hc:ev L C=some (.bool b)) [s:Says b p] (ht:p->CW P Q x n ds w L) (hf:¬p->CW P Q y n ds w L):CW P Q (.cond C x y) n ds w L:=
 λa h=>y5l h hc (λe=>ht (s.iff.1 e) a h) (λe=>hf (s.no e) a h)
theorem gs {l:List Oper} (D:Nat) {b:Bool} {p:Prop} (hb:look L D=some (.bool b)) [s:Says b p] (ht:p->WL P ops Q l n ds w ((D,.bool true)::L)) (hf:¬p->WL P ops Q l n ds w ((D,.bool false)::L)):WL P ops Q l n ds w L:=
 λa h=>x0h h hb (λe h'=>ht (s.iff.1 e) a h') (λe h'=>hf (s.no e) a h')
theorem kpL {l:List Oper} (L':List (Nat×Value)) (hs:Sub L' L) (k:WL P ops Q l n ds w L'):WL P ops Q l n ds w L:=λa h=>k a (h.sub hs)
theorem kpC (L':List (Nat×Value)) (hs:Sub L' L) (k:CW P Q c n ds w L'):CW P Q c n ds w L:=λa h=>k a (h.sub hs)
def u4y (ops:Array Oper) (G:Option (Nat×Bool)) (n:Nat) (L:List (Nat×Value)):Option (Value×Bool):=
  match G with
  | none=>none
  | some (j,want)=>
    match ops[j]? with
    | none=>none
    | some oj=>
      match oj.dst with
      | none=>none
      | some dj=>bif Nat.blt dj n then (look L dj).map (λv=>(v,want)) else none
def v3f (ops:Array Oper) (o:Oper) (n:Nat) (L:List (Nat×Value)):Option (Value×Bool):=u4y ops o.guard n L
theorem z7f {o:Oper} {v:Value} {want:Bool} (h:v3f ops o n L=some (v,want)):∃j dj oj,o.guard=some (j,want)/\ops[j]?=some oj/\oj.dst=some dj/\Nat.blt dj n=true/\look L dj=some v:=by
 unfold v3f u4y at h
 split at h
 ·cases h
 rename_i j want' hg
 split at h
 ·cases h
 rename_i oj hj
 split at h
 ·cases h
 rename_i dj hd
 cases hb:Nat.blt dj n with
 | false=>rw [hb] at h;cases h
 | true=>
  rw [hb] at h
  cases hl:look L dj with
  | none=>rw [hl] at h;cases h
  | some u=>rw [hl] at h;cases h;exact ⟨j,dj,oj,hg,hj,hd,hb,hl⟩
theorem gY {o:Oper} {b:Bool} (hg:v3f ops o n L=some (.bool b,b)) (k:WL P ops Q ({ o with guard:=none }::rest) n ds w L):WL P ops Q (o::rest) n ds w L:=by
 obtain ⟨j,dj,oj,h1,h2,h3,h4,h5⟩:=z7f hg
 exact λa h=>y3n h h1 h2 h3 h4 h5 (by cases b<;>rfl) (k a h)
theorem gN {o:Oper} {b:Bool} {d:Nat} (hg:v3f ops o n L=some (.bool b,!b)) (hd:o.dst=some d) (k:WL P ops Q rest n ds w ((d,undef)::L)) (hn:Nat.blt d n=true:=by exact rfl):WL P ops Q (o::rest) n ds w L:=by
 obtain ⟨j,dj,oj,h1,h2,h3,h4,h5⟩:=z7f hg
 exact λa h=>j4y h h1 h2 h3 h4 h5 (by cases b<;>rfl) hd hn k
theorem gS {o:Oper} {d:Nat} {want:Bool} (hg:v3f ops o n L=some (undef,want)) (hd:o.dst=some d) (k:WL P ops Q rest n ds w ((d,undef)::L)) (hn:Nat.blt d n=true:=by exact rfl):WL P ops Q (o::rest) n ds w L:=by
 obtain ⟨j,dj,oj,h1,h2,h3,h4,h5⟩:=z7f hg
 exact λa h=>u5s h h1 h2 h3 h4 h5 hd hn k
theorem lpK {ι:Type} (K:List (Nat×Value)) (M:ι->List (Nat×Value)) (I:ι->World->Prop) (μ:ι->Nat) (i:ι) (hs:Sub (K++M i) L) (hI:I i w)
    (round:∀i w,I i w->CW P (Exit.then (λa' w'=>∃j,AgM ds a' n (K++M j)/\I j w'/\μ j<μ i) Q) c n ds w (K++M i)):CW P Q (.loop c) n ds w L:=
  λa h=>loop (λi=>K++M i) I μ i (h.sub hs) hI (λi w a h hI=>round i w hI a h)
theorem lpE {ι:Type} {K:List (Nat×Value)} {M:ι->List (Nat×Value)} {I:ι->World->Prop} {μ:ι->Nat} {m:Nat} (j:ι) (hs:Sub (K++M j) L) (hI:I j w) (hm:μ j<m):EW (Exit.then (λa' w'=>∃j,AgM ds a' n (K++M j)/\I j w'/\μ j<m) Q) .normal n ds w L:=
 λa h=>⟨j,h.sub hs,hI,hm⟩
def JW {ι:Type} (n:Nat) (ds:List Nat) (K:List (Nat×Value)) (M:ι->List (Nat×Value)) (I:ι->World->Prop) (a:Act) (w:World):Prop:=∃j,AgM ds a n (K++M j)/\I j w
theorem jn {ι:Type} (K:List (Nat×Value)) (M:ι->List (Nat×Value)) (I:ι->World->Prop) (_hs:Sub K L) (h1:CW P (Exit.then (JW n ds K M I) Q) x n ds w L) (h2:∀j w,I j w->CW P Q y n ds w (K++M j)):CW P Q (.seq x y) n ds w L:=
 λa h=>u7m (JW n ds K M I) (h1 a h) (λa w ⟨j,h,hI⟩=>h2 j w hI a h)
theorem jE {ι:Type} {K:List (Nat×Value)} {M:ι->List (Nat×Value)} {I:ι->World->Prop} (j:ι) (hs:Sub (K++M j) L) (hI:I j w):EW (Exit.then (JW n ds K M I) Q) .normal n ds w L:=λa h=>⟨j,h.sub hs,hI⟩
theorem rbo {ol:List Oper} {r:Nat} {L':List (Nat×Value)} (C:Prop) [Decidable C] (hs:Sub L' L) (h1:WL P ol.toArray (y6v ds n r C L' w) ol n ds w L) (h2:EW Q .normal n ds w ((r,.bool (decide C))::L')):CW P Q (.region id ol.toArray false) n ds w L:=
 λa h=>x3a C h hs (h1 a h) h2
theorem rbe {r:Nat} {L':List (Nat×Value)} {C:Prop} [Decidable C] {b:Bool} (hr:look L r=some (.bool b)) (hs:Sub L' L) (hb:b=decide C:=by first|exact bt (by omega)|exact bf (by omega)|exact bi (by omega)|exact bn (by omega)|(simp_all;done)|(simp_all;omega)):WL P ops (y6v ds n r C L' w) [] n ds w L:=
 λa h=>wpList_nil (x6u h hr hb hs)
def x6c (ds:List Nat) (n r:Nat) (C:Prop) [Decidable C] (L':List (Nat×Value)) (w0:World):Exit->Act->World->Prop:=λe a w=>e=.normal/\Fr [] w0 w/\AgM ds a n ((r,.bool (decide C))::L')
theorem x8z {ol:List Oper} {r:Nat} {L':List (Nat×Value)} (C:Prop) [Decidable C] (_hs:Sub L' L) (h1:WL P ol.toArray (x6c ds n r C L' w) ol n ds w L) (h2:∀w',Fr [] w w'->EW Q .normal n ds w' ((r,.bool (decide C))::L')):CW P Q (.region id ol.toArray false) n ds w L:=
 λa h=>wp_mono (wp_region_lit (h1 a h)) (λe a w h=>by obtain ⟨rfl,hf,ha⟩:=h;exact h2 w hf a ha)
theorem y0k {r:Nat} {L':List (Nat×Value)} {C:Prop} [Decidable C] {b:Bool} {w0:World} (hr:look L r=some (.bool b)) (hs:Sub L' L) (hf:Fr [] w0 w) (hb:b=decide C:=by first|exact bt (by omega)|exact bf (by omega)|exact bi (by omega)|exact bn (by omega)|(simp_all;done)|(simp_all;omega)):WL P ops (x6c ds n r C L' w0) [] n ds w L:=
 λa h=>wpList_nil ⟨rfl,hf,(x6u (w:=w) h hr hb hs).2.2⟩
theorem bk {e:Exit} (h:AgM ds a n L) (k:EW Q e n ds w L):Q e a w:=k a h
theorem we {f:FuncId} {fn:Func} {c:Code} {args:Array Value} {R:Ending->World->Prop} (L:List (Nat×Value)) (hf:P.funcs[f]?=some fn) (hc:fn.body=some c) (hn:fn.ntmps=n) (hl:Nat.ble args.size n=true) (hL:argsOk args L)
 (h:CW P (bodyPost P fn R) c n [] w L):Calls P f args w R:=enter L hf hc hn hl hL h
section
variable {R:Ending->World->Prop} {fn:Func} {t u s:Nat} {v z:Value}
theorem r0 (hr:fn.results=#[]) (k:R (.returned (.tuple #[])) w):EW (bodyPost P fn R) .ret n [] w L:=λ_ h=>ret0 h hr k
theorem r0n (hr:fn.results=#[]) (k:R (.returned (.tuple #[])) w):EW (bodyPost P fn R) .normal n [] w L:=λ_ h=>u3z h hr k
theorem r1 (hr:fn.results=#[.tmp t]) (hv:look L t=some v) (k:R (.returned v) w):EW (bodyPost P fn R) .ret n [] w L:=λ_ h=>ret1 h hr hv k
theorem r2 (hr:fn.results=#[.tmp t,.tmp u]) (hv:look L t=some v) (hx:look L u=some z) (k:R (.returned (.tuple #[v,z])) w):EW (bodyPost P fn R) .ret n [] w L:=λ_ h=>ret2 h hr hv hx k
theorem r3 {z':Value} (hr:fn.results=#[.tmp t,.tmp u,.tmp s]) (hv:look L t=some v) (hx:look L u=some z) (hy:look L s=some z') (k:R (.returned (.tuple #[v,z,z'])) w):EW (bodyPost P fn R) .ret n [] w L:=λ_ h=>ret3 h hr hv hx hy k
variable {p pt q r g T:Nat} {cs:List Value}
theorem rC (hr:fn.results=#[.cell p pt]) (hp:look L p=some (.pointer (some ⟨g,0,none⟩))) (hb:Blk w g T cs) (hg:z3p P pt cs.length) (k:R (.returned (.agg cs.toArray)) w):EW (bodyPost P fn R) .ret n [] w L:=λ_ h=>retC h hr hp hb hg k
theorem rCT (hr:fn.results=#[.cell p pt,.tmp q]) (hp:look L p=some (.pointer (some ⟨g,0,none⟩))) (hb:Blk w g T cs) (hg:z3p P pt cs.length) (hv:look L q=some v) (k:R (.returned (.tuple #[.agg cs.toArray,v])) w):EW (bodyPost P fn R) .ret n [] w L:=λ_ h=>j4k h hr hp hb hg hv k
theorem j1q {u:Value} (hr:fn.results=#[.cell p pt,.tmp q,.tmp r]) (hp:look L p=some (.pointer (some ⟨g,0,none⟩))) (hb:Blk w g T cs) (hg:z3p P pt cs.length) (hv:look L q=some v) (hu:look L r=some u) (k:R (.returned (.tuple #[.agg cs.toArray,v,u])) w):EW (bodyPost P fn R) .ret n [] w L:=λ_ h=>j0u h hr hp hb hg hv hu k
end
theorem wi6 {z:Int} (h:-9223372036854775808<=z/\z<=9223372036854775807):IntKind.i64.wrap z=z:=IntWalk.i64_in z (by omega)
theorem wi8 {z:Int} (h:0<=z/\z<=255):IntKind.u8.wrap z=z:=IntWalk.u8_in z (by omega)
theorem ev1 {x:Operand} {v:Value} (h:ev L x=some v):evs L [x] [v]:=⟨h,trivial⟩
theorem ev2 {x y:Operand} {v u:Value} (h:ev L x=some v) (h2:ev L y=some u):evs L [x,y] [v,u]:=⟨h,h2,trivial⟩
theorem ev3 {x y z:Operand} {v u t:Value} (h:ev L x=some v) (h2:ev L y=some u) (h3:ev L z=some t):evs L [x,y,z] [v,u,t]:=⟨h,h2,h3,trivial⟩
theorem ev4 {x y z o:Operand} {v u t s:Value} (h:ev L x=some v) (h2:ev L y=some u) (h3:ev L z=some t) (h4:ev L o=some s):evs L [x,y,z,o] [v,u,t,s]:=⟨h,h2,h3,h4,trivial⟩
theorem z1f {k:Nat}:((k:Nat):Int).toNat=k:=Int.toNat_natCast k
end
theorem us {P:Program} {t:TypeId} {u} (h:P.underlying t=some u):(P.underlying t).isSome=true:=by rw [h];rfl
section
variable {P:Program} {n:Nat} {L:List (Nat×Value)} {ds:List Nat} {w w':World} {Q:Exit->Act->World->Prop} {ops:Array Oper} {rest:List Oper} {d:Nat} {ty T:TypeId} {pos:String} {after:Array Edge} {v:Value} {x:Operand}
theorem bx {cs:List Value} (hx:ev L x=some v) (hc:v.cells=cs.toArray) (hn:Nat.blt d n=true) (q:∀g w',g=w.heap.size->Blk w' g T cs->Fr [] w w'->w'.heap.size=g+1->WL P ops Q rest n ds w' ((d,.pointer (some ⟨g,0,none⟩))::L)):WL P ops Q (⟨some d,.box T x,ty,pos,after,none⟩::rest) n ds w L:=
 j4p hx hc hn (λw' h1 h2 h3=>q _ w' rfl h1 h2 h3)
theorem al {cs:List Value} (hz:∀w:World,(zeroValue T).run P w=.ok v w) (hc:v.cells=cs.toArray) (hn:Nat.blt d n=true) (q:∀g w',g=w.heap.size->Blk w' g T cs->Fr [] w w'->w'.heap.size=g+1->WL P ops Q rest n ds w' ((d,.pointer (some ⟨g,0,none⟩))::L)):WL P ops Q (⟨some d,.alloc T,ty,pos,after,none⟩::rest) n ds w L:=
 u4p hz hc hn (λw' h1 h2 h3=>q _ w' rfl h1 h2 h3)
theorem z1y {t:TypeId} {g off:Nat} {cs vs:List Value} (hx:ev L x=some (.pointer (some ((⟨g,0,none⟩:Addr).add off)))) (hb:Blk w g T cs) (hg:z3p P t vs.length) (hv:(cs.drop off).take vs.length=vs) (q:WL P ops Q rest n ds w ((d,.agg vs.toArray)::L)) (hn:Nat.blt d n=true:=by exact rfl):WL P ops Q (⟨some d,.load t x,ty,pos,after,none⟩::rest) n ds w L:=
 z1j hx (λj u hu=>by
  rw [<-hv] at hu
  have hj:(cs.drop off)[j]?=some u:=by
   rw [List.getElem?_take] at hu;split at hu
   ·exact hu
   cases hu
  rw [List.getElem?_drop] at hj
  rw [z8v];exact hb.cellAdd hj) hg q (hn:=hn)
theorem u3k {t t':TypeId} {ms} {b:Bool} (hx:ev L x=some v) (hu:P.underlying t=some (.interface ms)) (hb:v=.nilIface/\b=false\/(∃s p,v=.iface s p)/\b=true) (hn:Nat.blt d n=true) (q:WL P ops Q rest n ds w ((d,.bool b)::L)):WL P ops Q (⟨some d,.binOp .neq t x (.const .nilIface) t',ty,pos,after,none⟩::rest) n ds w L:=
 λa h=>z1u h rfl rfl hn (by
  have h4:a.eval (.const .nilIface)=.nilIface:=rfl
  rcases hb with ⟨rfl,rfl⟩|⟨⟨s,p,rfl⟩,rfl⟩
  ·have e:∀k,(Op.equalIn (k+1) t .nilIface .nilIface).run P w=.ok true w:=λk=>by unfold Op.equalIn;simp only [Sem.run_bind,run_underlying hu,Result.andThen_ok,Sem.run_pure]
   have h3:(binOp .neq t .nilIface .nilIface).run P w=.ok (.bool false) w:=by
    simp only [binOp]
    simp [Op.equal,Op.maxDepth,e 9999]
   simp [execOp,h.eval hx,h4,eqGuard,h3]
  have e:∀k,(Op.equalIn (k+1) t (.iface s p) .nilIface).run P w=.ok false w:=λk=>by unfold Op.equalIn;simp only [Sem.run_bind,run_underlying hu,Result.andThen_ok,Sem.run_pure]
  have h3:(binOp .neq t (.iface s p) .nilIface).run P w=.ok (.bool true) w:=by
   simp only [binOp]
   simp [Op.equal,Op.maxDepth,e 9999]
  simp [execOp,h.eval hx,h4,eqGuard,h3]) q
theorem j5k {t t':TypeId} {u} {l:List UInt8} (hx:ev L x=some (S l)) (hs:P.underlying t=some u) (hd:P.underlying t'=some (.slice T)) (he:P.underlying T=some (.int .u8)) (hl:l.length<=maxLen) (hn:Nat.blt d n=true)
    (q:∀g c w',g=w.heap.size->Sl Enc.b w' (.slice (some ⟨g,0,none⟩) l.length c) l->Fr [] w w'->w'.heap.size=g+1->WL P ops Q rest n ds w' ((d,.slice (some ⟨g,0,none⟩) l.length c)::L)):WL P ops Q (⟨some d,.convert t t' x,ty,pos,after,none⟩::rest) n ds w L:=
  λa h=>z1u h rfl rfl hn (w':=Lib.bytesWorld w T ⟨l.toArray⟩) (by
    have hz:(⟨l.toArray⟩:ByteArray).size=l.length:=by simp [ByteArray.size]
    have:=Lib.run_convert_string_bytes (P:=P) w t t' T ⟨l.toArray⟩ hs hd he
    rw [hz] at this
    simp only [execOp,h.eval hx,S,Sem.run_bind,this,Result.andThen_ok,Sem.run_pure])
    (q _ (grownCap w l.length 0 T) _ rfl ⟨_,_,rfl,grownCap_ge _ _ _ _,grownCap_le_maxLen _ _ _ _ hl,λi y hy=>⟨_,rfl,λj u hu=>by
      have hi:=(List.getElem?_eq_some_iff.1 hy).1
      have hj:j=0:=by
        have:=(List.getElem?_eq_some_iff.1 hu).1
        simpa [Enc.b] using this
      subst hj
      have hu':u=.int .u8 (y.toNat:Int):=by simpa [Enc.b] using hu.symm
      subst hu'
      rw [z3l,z3l,show Enc.b.sz=1 from rfl,Nat.mul_one,Nat.zero_add,Nat.add_zero]
      have:=Lib.bytesWorld_cell w T ⟨l.toArray⟩ i (by simpa [ByteArray.size] using hi)
      rw [this]
      simp [List.getD,hy]⟩⟩ (by exact ⟨rfl,rfl,rfl,by rw [Lib.bytesWorld_size];omega,λk hk _=>Lib.bytesWorld_at_old w T _ k hk⟩) (Lib.bytesWorld_size _ _ _))
section
variable {C:World->Prop} {K:Act->World->Prop} {fu:Nat} {listed:Array Bool} {pq:Option Nat} {o:Oper} {a:Act} {G:Option (Nat×Bool)} {t t':TypeId} {y:Operand} {k:IntKind} {i j:Int} {l l':List UInt8}
theorem x7z {b:Bool} (h:AgM ds a n L) (hg:v3f ops o n L=some (.bool b,b)):Region.wanted o (yielded ops a.tmps)=true:=by
 obtain ⟨j,dj,oj,h1,h2,h3,h4,h5⟩:=z7f hg
 have hy:=z5r (ops:=ops) h h2 h3 h4 h5
 simp [Region.wanted,h1,hy]
theorem wy {b:Bool} (hg:u4y ops G n L=some (.bool b,b)):Wd ops n L G:=λa ds h o ho=>x7z (o:=o) h (by unfold v3f;rw [ho];exact hg)
theorem v4e {b:Bool} (h:AgM ds a n L) (hg:v3f ops o n L=some (.bool b,!b)):Region.wanted o (yielded ops a.tmps)=false:=by
 obtain ⟨j,dj,oj,h1,h2,h3,h4,h5⟩:=z7f hg
 have hy:=z5r (ops:=ops) h h2 h3 h4 h5
 simp [Region.wanted,h1,hy]
theorem x3m {want:Bool} (h:AgM ds a n L) (hg:v3f ops o n L=some (undef,want)):Region.wanted o (yielded ops a.tmps)=false:=by
 obtain ⟨j,dj,oj,h1,h2,h3,h4,h5⟩:=z7f hg
 have e1:=h.at_ dj _ h5
 have hd':dj<a.tmps.size:=by rw [h.size];simpa [Nat.blt_eq] using h4
 have e2:a.tmps[dj]?=some undef:=by
  rw [Array.getElem?_eq_getElem hd']
  simpa [Array.getD,hd'] using e1
 have hy:yielded ops a.tmps j=none:=by simp [yielded,h2,h3,e2,undef]
 simp [Region.wanted,h1,hy]
theorem z2h {b:Bool} (ix:Nat) (h:AgM ds a n L) (hix:ops[ix]?=some o) (hg:v3f ops o n L=some (.bool b,!b)) (hd:o.dst=some d) (q:∀a,AgM ds a n ((d,undef)::L)->z0w pq P ops (z0p K) C fu (listed.setIfInBounds ix true) a w) (hsel:Region.noSelect ops=true:=by kernel_rfl) (hfr:Fre pq ops listed ix=true:=by kernel_rfl) (hre:(Region.ready .any ops listed).contains ix=true:=by kernel_rfl) (hC:C w:=by exact hC) (hn:Nat.blt d n=true:=by exact rfl):z0w pq P ops (z0p K) C (fu+1) listed a w:=
  v3b hix hsel hfr hre (λ_ _ _ h=>h) (.inr ⟨v4e h hg,rfl⟩) hC (by rw [hd];exact q _ (h.put hn undef))
theorem x2g {want:Bool} (ix:Nat) (hC:C w) (h:AgM ds a n L) (hix:ops[ix]?=some o) (hg:v3f ops o n L=some (undef,want)) (hd:o.dst=some d) (q:∀a,AgM ds a n ((d,undef)::L)->z0w pq P ops (z0p K) C fu (listed.setIfInBounds ix true) a w) (hsel:Region.noSelect ops=true:=by kernel_rfl) (hfr:Fre pq ops listed ix=true:=by kernel_rfl) (hre:(Region.ready .any ops listed).contains ix=true:=by kernel_rfl) (hn:Nat.blt d n=true:=by exact rfl):z0w pq P ops (z0p K) C (fu+1) listed a w:=
  v3b hix hsel hfr hre (λ_ _ _ h=>h) (.inr ⟨x3m h hg,rfl⟩) hC (by rw [hd];exact q _ (h.put hn undef))
theorem u8s {α:Type} [DecidableEq α] {V:α->Value} {e f:α} (h:AgM ds a n L) (hx:ev L x=some (V e)) (hy:ev L y=some (V f)) (he:x9o P t V):∀w,C w->(execOp a.eval ⟨some d,.binOp .neq t x y t',ty,pos,after,G⟩).run P w=.ok (.value (.bool (decide (e≠f)))) w:=λw _=>by
 obtain ⟨_,h2,_,h4⟩:=he e f x y w
 simp [execOp,h.eval hx,h.eval hy,h2,h4]
theorem u8h {α:Type} [DecidableEq α] {V:α->Value} {e f:α} (ix:Nat) (hsel:Region.noSelect ops=true) (hfr:Fre pq ops listed ix=true) (hre:(Region.ready .any ops listed).contains ix=true) (hC:C w) (h:AgM ds a n L) (hG:Wd ops n L G) (hx:ev L x=some (V e)) (hy:ev L y=some (V f)) (he:x9o P t V) (hix:ops[ix]?=some ⟨some d,.binOp .neq t x y t',ty,pos,after,G⟩) (hn:Nat.blt d n=true)
    (q:∀a,AgM ds a n ((d,.bool (decide (e≠f)))::L)->z0w pq P ops (z0p K) C fu (listed.setIfInBounds ix true) a w):z0w pq P ops (z0p K) C (fu+1) listed a w:=
  z6b ix hsel hfr hre h hG hix rfl hn (u8s h hx hy he) q
end
end
end Go.Lw
namespace Go.Lw
open Go.RowKit
section
variable {P:Program} {n N:Nat} {r:Option Nat} {L:List (Nat×Value)} {ds:List Nat} {w w':World} {Q:Exit->Act->World->Prop} {ops:Array Oper} {rest:List Oper} {a:Act} {x y c:Code} {id:Nat}
def CWi (r:Option Nat) (N:Nat) (P:Program) (Q:Exit->Act->World->Prop) (c:Code) (n:Nat) (ds:List Nat) (w:World) (L:List (Nat×Value)):Prop:=∀a,AgM ds a n L->c.wpIn (Fo r) N P Q a w
theorem isq (h:CWi r N P (Exit.then (y.wpIn (Fo r) N P Q) Q) x n ds w L):CWi r N P Q (.seq x y) n ds w L:=λa ha=>wpIn_seq (h a ha)
theorem irg {l:List Oper} (hd:l.all Oper.noDefer=true) (h:WL P l.toArray (z0p (Q .normal)) l n ds w L):CWi r N P Q (.region id l.toArray false) n ds w L:=λa ha=>ireg hd (h a ha)
theorem ibl (h:CWi r N P (Exit.inBlock id Q) x n ds w L):CWi r N P Q (.block id x) n ds w L:=λa ha=>wpIn_block (h a ha)
theorem isk (h:EW Q .normal n ds w L):CWi r N P Q .skip n ds w L:=λa ha=>wpIn_skip (h a ha)
theorem irt (h:EW Q .ret n ds w L):CWi r N P Q .ret n ds w L:=λa ha=>wpIn_ret (h a ha)
theorem iex (h:EW Q (.exit id) n ds w L):CWi r N P Q (.exit id) n ds w L:=λa ha=>wpIn_exit (h a ha)
theorem inl (h:EW Q .normal n ds w L):WL P ops (z0p (Q .normal)) [] n ds w L:=λa ha=>u0n (h a ha)
theorem itn (h:CWi r N P Q y n ds w L) {Q':Exit->Act->World->Prop}:EW (Exit.then (y.wpIn (Fo r) N P Q) Q') .normal n ds w L:=h
theorem ict {C:Operand} (hc:ev L C=some (.bool true)) (k:CWi r N P Q x n ds w L):CWi r N P Q (.cond C x y) n ds w L:=λa h=>x8y h hc (k a h)
theorem icf {C:Operand} (hc:ev L C=some (.bool false)) (k:CWi r N P Q y n ds w L):CWi r N P Q (.cond C x y) n ds w L:=λa h=>x4k h hc (k a h)
theorem icd {C:Operand} {b:Bool} {p:Prop} (hc:ev L C=some (.bool b)) [s:Says b p] (ht:p->CWi r N P Q x n ds w L) (hf:¬p->CWi r N P Q y n ds w L):CWi r N P Q (.cond C x y) n ds w L:=
 λa h=>x3e h hc (λe=>ht (s.iff.1 e) a h) (λe=>hf (s.no e) a h)
theorem x2q (L':List (Nat×Value)) (hs:Sub L' L) (k:CWi r N P Q c n ds w L'):CWi r N P Q c n ds w L:=λa h=>k a (h.sub hs)
theorem v5n {ι:Type} (K:List (Nat×Value)) (M:ι->List (Nat×Value)) (I:ι->World->Prop) (μ:ι->Nat) (i:ι) (hs:Sub (K++M i) L) (hI:I i w)
    (round:∀i w,I i w->CWi r N P (Exit.then (λa' w'=>∃j,AgM ds a' n (K++M j)/\I j w'/\μ j<μ i) Q) c n ds w (K++M i)):CWi r N P Q (.loop c) n ds w L:=
  λa h=>j3k (λi=>K++M i) I μ i (h.sub hs) hI (λi w a h hI=>round i w hI a h)
theorem v6a {ι:Type} {K:List (Nat×Value)} {M:ι->List (Nat×Value)} {I:ι->World->Prop} {μ:ι->Nat} {m:Nat} (j:ι) (hs:Sub (K++M j) L) (hI:I j w) (hm:μ j<m):EW (Exit.then (λa' w'=>∃j,AgM ds a' n (K++M j)/\I j w'/\μ j<m) Q) .normal n ds w L:=lpE j hs hI hm
end
end Go.Lw
namespace Go.Lw
open Go.RowKit
section
variable {P:Program} {n N:Nat} {ro:Option Nat} {L:List (Nat×Value)} {ds:List Nat} {w w':World} {Q:Exit->Act->World->Prop} {ops:Array Oper} {rest:List Oper} {a:Act} {x y c:Code} {id:Nat}
theorem weM {f:FuncId} {fn:Func} {c:Code} {args:Array Value} {R:Ending->World->Prop} (L:List (Nat×Value)) (hf:P.funcs[f]?=some fn) (hc:fn.body=some c) (hn:fn.ntmps=n) (hl:Nat.ble args.size n=true) (hL:argsOk args L)
 (h:CWi none 9 P (bodyPostM (Fo none) 9 P fn R) c n [] w L):Calls P f args w R:=j1l L hf hc hn hl hL (λa ha=>h a ha)
theorem weI {f:FuncId} {fn:Func} {c:Code} {args:Array Value} {R:Ending->World->Prop} (L:List (Nat×Value)) (hf:P.funcs[f]?=some fn) (hc:fn.body=some c) (hn:fn.ntmps=n) (hl:Nat.ble args.size n=true) (hL:argsOk args L)
 (h:CWi none N P (bodyPost P fn R) c n [] w L):CallsIn (Fo none) N P f args w R:=j0a L hf hc hn hl hL (λa ha=>h a ha)
section
variable {R:Ending->World->Prop} {fn:Func} {t u:Nat} {v z:Value}
theorem rM0 (hr:fn.results=#[]) (hD:∀D∈ds,w.heap[D]?=some (.deferred (some []))) (hnd:ds.Nodup) (k:∀w',Fr ds w w'->R (.returned (.tuple #[])) w'):EW (bodyPostM (Fo none) N P fn R) .ret n ds w L:=λ_ h=>u8r h hr hD hnd k
theorem rM0n (hr:fn.results=#[]) (hD:∀D∈ds,w.heap[D]?=some (.deferred (some []))) (hnd:ds.Nodup) (k:∀w',Fr ds w w'->R (.returned (.tuple #[])) w'):EW (bodyPostM (Fo none) N P fn R) .normal n ds w L:=λ_ h=>u9a h hr hD hnd k
theorem rM1 (hr:fn.results=#[.tmp t]) (hv:look L t=some v) (hD:∀D∈ds,w.heap[D]?=some (.deferred (some []))) (hnd:ds.Nodup) (k:∀w',Fr ds w w'->R (.returned v) w'):EW (bodyPostM (Fo none) N P fn R) .ret n ds w L:=λ_ h=>j5j h hr hv hD hnd k
end
def DefAt (D:Nat) (w:World):Prop:=w.heap[D]?=some (.deferred (some []))
theorem DefAt.ext {D:Nat} (h:DefAt D w) (hf:Fr [] w w'):DefAt D w':=(hf.block D (Array.getElem?_eq_some_iff.1 h).1 (by simp)).trans h
theorem DefAt.fr {D:Nat} {S:List Nat} (h:DefAt D w) (hf:Fr S w w') (hS:D∉S:=by simp[z0v]<;>omega):DefAt D w':=(hf.block D (Array.getElem?_eq_some_iff.1 h).1 hS).trans h
theorem DefAt.lt {D:Nat} (h:DefAt D w):D<w.heap.size:=(Array.getElem?_eq_some_iff.1 h).1
theorem x5v {D:Nat} (h:DefAt D w):∀D'∈[D],w.heap[D']?=some (.deferred (some [])):=λD' h'=>by cases List.mem_singleton.1 h';exact h
theorem Blk.keep {g T:Nat} {cs:List Value} {B:List Nat} (h:Blk w g T cs) (hk:Keep B w w') (hg:g∈B):Blk w' g T cs:=(hk g hg).trans h
theorem Sl.keep {α:Type} {E:Enc α} {v:Value} {ys:List α} {B:List Nat} (h:Sl E w v ys) (hk:Keep B w w') (hB:ys≠[]->∀k∈z0v v,k∈B):Sl E w' v ys:=by
 obtain ⟨A,c,rfl,h1,h2,h3⟩:=h
 refine ⟨A,c,rfl,h1,h2,λi y hy=>?_⟩
 obtain ⟨ad,rfl,hc⟩:=h3 i y hy
 refine ⟨ad,rfl,λj u hu=>?_⟩
 exact (World.cell?_of_block (w:=w) (hk _ (by rw [z7d,z7d];exact hB (by rintro rfl;simp at hy) _ (by simp [z0v])))).trans (hc j u hu)
def slB (m:Nat) (v:Value):List Nat:=if m=0 then [] else z0v v
theorem u0q {α:Type} {E:Enc α} {v:Value} {ys:List α} (h:Sl E w v ys):∀b∈slB ys.length v,b<w.heap.size:=by
 intro b hb
 unfold slB at hb
 split at hb
 ·cases hb
 rename_i hne;exact h.blk (λe=>hne (by rw [e];rfl)) b hb
theorem u1g {α:Type} {v:Value} {ys:List α} (hne:ys≠[]):∀k∈z0v v,k∈slB ys.length v:=λk hk=>by
 unfold slB;rw [if_neg (λe=>hne (List.eq_nil_of_length_eq_zero e))];exact hk
theorem Keep.ext {B:List Nat} (hf:Fr [] w w') (hB:∀b∈B,b<w.heap.size):Keep B w w':=λb hb=>hf.block b (hB b hb) (by simp)
theorem Keep.fr {B S:List Nat} (hf:Fr S w w') (hB:∀b∈B,b<w.heap.size) (hS:∀b∈B,b∉S):Keep B w w':=λb hb=>hf.block b (hB b hb) (hS b hb)
def KeepT (Ts B:List Nat) (W W':World):Prop:=Keep B W W'/\∀(b:Nat) (cs:Array Value) (T:TypeId) (f:Nat×Nat),T∈Ts->W.heap[b]?=some (.cells cs T f)->W'.heap[b]?=some (.cells cs T f)
theorem Blk.keepT {g T:Nat} {cs:List Value} {Ts B:List Nat} (h:Blk w g T cs) (hk:KeepT Ts B w w') (hT:T∈Ts):Blk w' g T cs:=hk.2 g _ T _ hT h
theorem KeepT.trans {Ts B:List Nat} {w'':World} (h:KeepT Ts B w w') (k:KeepT Ts B w' w''):KeepT Ts B w w'':=⟨λb hb=>(k.1 b hb).trans (h.1 b hb),λb cs T f hT hc=>k.2 b cs T f hT (h.2 b cs T f hT hc)⟩
theorem KeepT.ext {Ts B:List Nat} (hf:Fr [] w w') (hB:∀b∈B,b<w.heap.size):KeepT Ts B w w':=⟨Keep.ext hf hB,λb cs T f _ hc=>(hf.block b (Array.getElem?_eq_some_iff.1 hc).1 (by simp)).trans hc⟩
theorem KeepT.fr {Ts B S:List Nat} (hf:Fr S w w') (hB:∀b∈B,b<w.heap.size) (hd:∀b∈B,b∉S) (hS:∀k∈S,k<w.heap.size->∃cs T f,w.heap[k]?=some (.cells cs T f)/\T∉Ts):KeepT Ts B w w':=
 ⟨Keep.fr hf hB hd,λb cs T f hT hc=>(hf.block b (Array.getElem?_eq_some_iff.1 hc).1 (λe=>by
  obtain ⟨cs',T',f',h1,h2⟩:=hS b e (Array.getElem?_eq_some_iff.1 hc).1
  rw [hc] at h1;cases h1;exact h2 hT)).trans hc⟩
theorem KeepT.put {Ts B:List Nat} {l:Nat} {o o':Obj} (hl:w.heap[l]?=some o) (ho:o.isCells=false) (hB:∀b∈B,b≠l):KeepT Ts B w (w.putObj l o'):=
 ⟨λb hb=>World.putObj_heap_other (hB b hb),λb cs T f _ hc=>(World.putObj_heap_other (by rintro rfl;rw [hl] at hc;cases hc;cases ho)).trans hc⟩
theorem Blk.isC {g T:Nat} {cs:List Value} (h:Blk w g T cs):∃o,w.heap[g]?=some o/\o.isCells=true:=⟨_,h,rfl⟩
theorem Own.isC {α:Type} {E:Enc α} {T base:Nat} {v:Value} {ys:List α} (h:Own E T base w v ys):∀k∈z0v v,∃o,w.heap[k]?=some o/\o.isCells=true:=by
 rcases h with ⟨rfl,rfl⟩|⟨g,cap,cur,rfl,hb,hg,r⟩
 ·intro k hk;simp [z0v] at hk
 intro k hk;simp [z0v] at hk;subst hk;exact ⟨_,hg,rfl⟩
theorem Blk.tyC {g T:Nat} {cs:List Value} {Ts:List Nat} (h:Blk w g T cs) (hT:T∉Ts):∃cs T f,w.heap[g]?=some (.cells cs T f)/\T∉Ts:=⟨_,_,_,h,hT⟩
theorem Own.tyC {α:Type} {E:Enc α} {T base:Nat} {v:Value} {ys:List α} {Ts:List Nat} (h:Own E T base w v ys) (hT:T∉Ts):∀k∈z0v v,∃cs T f,w.heap[k]?=some (.cells cs T f)/\T∉Ts:=by
 rcases h with ⟨rfl,rfl⟩|⟨g,cap,cur,rfl,hb,hg,r⟩
 ·intro k hk;simp [z0v] at hk
 intro k hk;simp [z0v] at hk;subst hk;exact ⟨_,_,_,hg,hT⟩
def AsK (n B0:Nat) (W:World) (T:TypeId) (cs:List Value) (Lx:Nat->List (Nat×Value)):Act->World->Prop:=λa' W'=>∃g,B0<=g/\AgM [] a' n (Lx g)/\Blk W' g T cs/\Fr [] W W'
theorem asE {B0:Nat} {W:World} {T:TypeId} {cs:List Value} {Lx:Nat->List (Nat×Value)} (g:Nat) (hg:B0<=g) (hs:Sub (Lx g) L) (hb:Blk w g T cs) (hf:Fr [] W w) {Q':Exit->Act->World->Prop}:EW (Exit.then (AsK n B0 W T cs Lx) Q') .normal n [] w L:=λ_ h=>⟨g,hg,h.sub hs,hb,hf⟩
end
end Go.Lw
namespace Go.Lw
open Go.RowKit
section
variable {P:Program} {n N:Nat} {L:List (Nat×Value)} {ds:List Nat} {w w':World} {Q:Exit->Act->World->Prop}
def AsU (n:Nat) (W:World) (Lx:List (Nat×Value)):Act->World->Prop:=λa' W'=>AgM [] a' n Lx/\W'=W
theorem asU {Lx:List (Nat×Value)} (hs:Sub Lx L) {Q':Exit->Act->World->Prop}:EW (Exit.then (AsU n w Lx) Q') .normal n [] w L:=λ_ h=>⟨h.sub hs,rfl⟩
theorem Own.neB {α:Type} {E:Enc α} {T T' base g:Nat} {v:Value} {ys:List α} {cs:List Value} (h:Own E T base w v ys) (hb:Blk w g T' cs) (hT:T≠T'):g∉z0v v:=by
 rcases h with ⟨rfl,rfl⟩|⟨g',cap,cur,rfl,_,hg,_⟩
 ·intro e;cases e
 intro e
 simp [z0v] at e;subst e
 rw [show w.heap[g]?=_ from hb] at hg
 cases hg;exact hT rfl
end
end Go.Lw
namespace Go.G21
open Go.Lw
section
variable {α:Type} {E:Enc α} {T T' base:Nat} {w w':World} {v:Value} {ys:List α} {S:List Nat}
def OffT (w:World) (T:Nat) (S:List Nat):Prop:=∀k∈S,∃(T':Nat) (cs:List Value),Blk w k T' cs/\T'≠T
theorem y4u (h:Lw.Own E T base w v ys):∀k∈z0v v,∃cs,Blk w k T cs:=by
 rcases h with ⟨rfl,rfl⟩|⟨g,cap,cur,rfl,_,hg,_⟩
 ·intro k hk;cases hk
 intro k hk
 simp [z0v] at hk;subst hk
 exact ⟨cur.toList,hg⟩
theorem z5t (h:Lw.Own E T' base w v ys) (hT:T'≠T):OffT w T (z0v v):=λk hk=>by
 obtain ⟨cs,hb⟩:=y4u h k hk
 exact ⟨T',cs,hb,hT⟩
theorem OffT.nil:OffT w T []:=λk hk=>by cases hk
theorem OffT.one {g:Nat} {cs:List Value} (h:Blk w g T' cs) (hT:T'≠T):OffT w T [g]:=λk hk=>by rw [List.mem_singleton] at hk;subst hk;exact ⟨T',cs,h,hT⟩
theorem z2a (h:Lw.Own E T base w v ys) (hf:Fr S w w') (hS:OffT w T S):Lw.Own E T base w' v ys:=h.fr hf λk hk hb=>by
 obtain ⟨T',cs,h1,h2⟩:=hS k hk
 exact h.neB h1 (Ne.symm h2) hb
theorem y5t {g:Nat} {cs:List Value} (h:Blk w g T cs) (hf:Fr S w w') (hS:OffT w T S):Blk w' g T cs:=h.fr hf λhk=>by
 obtain ⟨T',cs',h1,h2⟩:=hS g hk
 have e:=(show w.heap[g]?=some (.cells cs.toArray T (0,0)) from h).symm.trans (show w.heap[g]?=some (.cells cs'.toArray T' (0,0)) from h1)
 simp only [Option.some.injEq,Obj.cells.injEq] at e
 exact h2 e.2.1.symm
end
structure TyK where
  Y:Nat
  T:Nat
  L:Nat
  I:Nat
  P:Nat
  S:Nat
  K:Nat
structure TyK.Ok (τ:TyK):Prop where
  yt:τ.Y≠τ.T
  yl:τ.Y≠τ.L
  yi:τ.Y≠τ.I
  yp:τ.Y≠τ.P
  ys:τ.Y≠τ.S
  tl:τ.T≠τ.L
  ti:τ.T≠τ.I
  tp:τ.T≠τ.P
  ts:τ.T≠τ.S
  li:τ.L≠τ.I
  lp:τ.L≠τ.P
  ls:τ.L≠τ.S
  si:τ.S≠τ.I
  sp:τ.S≠τ.P
  ky:τ.K≠τ.Y
  kt:τ.K≠τ.T
  kl:τ.K≠τ.L
  ki:τ.K≠τ.I
  ks:τ.K≠τ.S
def LpO (τ:TyK) (base:Nat) (w:World) (q:LpQ):Prop:=Lw.Own z1h τ.I base w (slv q.th) q.ths/\Lw.Own z1t τ.P base w (slv q.pa) q.pas
structure TbO (τ:TyK) (base:Nat) (w:World) (v:Value) (ts:List TQ):Prop where
  out:Lw.Own z4c τ.T base w v ts
  ins:∀i,i<ts.length->Lw.Own z5o τ.L base w (slv (ts.getD i tq0).1) (ts.getD i tq0).2
  off:∀i j,i<ts.length->j<ts.length->i≠j->∀k∈z0v (slv (ts.getD i tq0).1),k∉z0v (slv (ts.getD j tq0).1)
  lps:∀i,i<ts.length->∀q∈(ts.getD i tq0).2,LpO τ base w q
structure YsO (τ:TyK) (base:Nat) (w:World) (v:Value) (ys:List YQ):Prop where
  out:Lw.Own z2s τ.Y base w v ys
  ins:∀i,i<ys.length->Lw.Own z1t τ.P base w (slv (ys.getD i yq0).pe) (ys.getD i yq0).pes
section
variable {τ:TyK} {base:Nat} {w w' w2:World} {v:Value} {ts:List TQ} {ys:List YQ} {fs:List IQ} {S:List Nat} {q:LpQ}
theorem LpO.tf (h:LpO τ base w q) (hf:Fr S w w') (hI:OffT w τ.I S) (hP:OffT w τ.P S):LpO τ base w' q:=⟨z2a h.1 hf hI,z2a h.2 hf hP⟩
theorem LpO.at (h:LpO τ base w q):LpAt w q:=⟨h.1.sl,h.2.sl⟩
theorem LpO.low {b:Nat} (h:LpO τ base w q) (hb:b<=base):LpO τ b w q:=⟨h.1.low hb,h.2.low hb⟩
theorem TbO.tf (h:TbO τ base w v ts) (hf:Fr S w w') (hT:OffT w τ.T S) (hL:OffT w τ.L S) (hI:OffT w τ.I S) (hP:OffT w τ.P S):TbO τ base w' v ts:=
 ⟨z2a h.out hf hT,λi hi=>z2a (h.ins i hi) hf hL,h.off,λi hi q hq=>(h.lps i hi q hq).tf hf hI hP⟩
theorem YsO.tf (h:YsO τ base w v ys) (hf:Fr S w w') (hY:OffT w τ.Y S) (hP:OffT w τ.P S):YsO τ base w' v ys:=
 ⟨z2a h.out hf hY,λi hi=>z2a (h.ins i hi) hf hP⟩
theorem TbO.ext (h:TbO τ base w v ts) (hf:Fr [] w w'):TbO τ base w' v ts:=h.tf hf OffT.nil OffT.nil OffT.nil OffT.nil
theorem YsO.ext (h:YsO τ base w v ys) (hf:Fr [] w w'):YsO τ base w' v ys:=h.tf hf OffT.nil OffT.nil
theorem z1g {α:Type} {l:List α} {i j:Nat} {x d:α} (hi:i<l.length):(l.set i x).getD j d=if i=j then x else l.getD j d:=by
 rw [List.getD,List.getElem?_set,List.getD]
 split
 ·first|rfl|(rw [if_pos hi];rfl)
 rfl
theorem TbO.put (hτ:τ.Ok) {i:Nat} {u:SV} (h:TbO τ base w v ts) (hi:i<ts.length) (hq:LpO τ base w q)
    (h1:Lw.Own z5o τ.L base w' (slv u) ((ts.getD i tq0).2++[q])) (f1:Fr (z0v (slv (ts.getD i tq0).1)) w w') (hx:slv u=slv (ts.getD i tq0).1\/z0v (slv u)=z0v (slv (ts.getD i tq0).1)\/z0v (slv u)=[w.heap.size])
    (h2:Lw.Own z4c τ.T base w2 v (ts.set i (u,(ts.getD i tq0).2++[q]))) (f2:Fr (z0v v) w' w2):TbO τ base w2 v (ts.set i (u,(ts.getD i tq0).2++[q])):=by
  have o1:∀T,T≠τ.L->OffT w T (z0v (slv (ts.getD i tq0).1)):=λT hT=>z5t (h.ins i hi) (Ne.symm hT)
  have out1:=z2a h.out f1 (o1 _ hτ.tl)
  have o2:∀T,T≠τ.T->OffT w' T (z0v v):=λT hT=>z5t out1 (Ne.symm hT)
  refine ⟨h2,λj hj=>?_,λj k hj hk hjk=>?_,λj hj p hp=>?_⟩
  · rw [List.length_set] at hj
    rw [z1g hi]
    split
    · exact z2a h1 f2 (o2 _ (Ne.symm hτ.tl))
    · rename_i hij
      exact z2a ((h.ins j hj).fr f1 λb hb hb2=>h.off i j hi hj hij b hb hb2) f2 (o2 _ (Ne.symm hτ.tl))
  · rw [List.length_set] at hj hk
    have key:∀k,k<ts.length->i≠k->∀b∈z0v (slv u),b∉z0v (slv (ts.getD k tq0).1):=λk hk hik b hb hb2=>by
      rcases hx with e|e|e
      · rw [e] at hb;exact h.off i k hi hk hik b hb hb2
      · rw [e] at hb;exact h.off i k hi hk hik b hb hb2
      · rw [e,List.mem_singleton] at hb;subst hb
        have:=((h.ins k hk).blk _ hb2).2;omega
    rw [z1g hi,z1g hi]
    split<;>split
    · rename_i e1 e2;exact absurd (e1.symm.trans e2) hjk
    · rename_i e1 e2;exact key k hk e2
    · rename_i e1 e2;exact λb hb hb2=>key j hj e1 b hb2 hb
    · exact h.off j k hj hk hjk
  · rw [List.length_set] at hj
    rw [z1g hi] at hp
    have g:∀p,LpO τ base w p->LpO τ base w2 p:=λp hp=>(hp.tf f1 (o1 _ (Ne.symm hτ.li)) (o1 _ (Ne.symm hτ.lp))).tf f2 (o2 _ (Ne.symm hτ.ti)) (o2 _ (Ne.symm hτ.tp))
    split at hp
    · rcases List.mem_append.1 hp with hp|hp
      · exact g p (h.lps i hi p hp)
      · rw [List.mem_singleton.1 hp];exact g q hq
    · exact g p (h.lps j hj p hp)
theorem TbO.at (h:TbO τ base w v ts):Sl z4c w v ts/\TabAt w ts:=by
 refine ⟨h.out.sl,λp hp=>?_⟩
 obtain ⟨i,hi⟩:=List.getElem?_of_mem hp
 have hl:=(List.getElem?_eq_some_iff.1 hi).1
 have e:ts.getD i tq0=p:=by rw [List.getD,hi];rfl
 have h1:=h.ins i hl
 rw [e] at h1
 refine ⟨h1.sl,λq hq=>(h.lps i hl q (by rw [e];exact hq)).at⟩
theorem YsO.put {i:Nat} {y:YQ} (h:YsO τ base w v ys) (hi:i<ys.length) (hτ:τ.Ok) (h2:Lw.Own z2s τ.Y base w' v (ys.set i y)) (hf:Fr (z0v v) w w') (hp:Lw.Own z1t τ.P base w (slv y.pe) y.pes):YsO τ base w' v (ys.set i y):=by
 have o:OffT w τ.P (z0v v):=z5t h.out hτ.yp
 refine ⟨h2,λj hj=>?_⟩
 rw [List.length_set] at hj
 rw [z1g hi]
 split
 ·exact z2a hp hf o
 exact z2a (h.ins j hj) hf o
end
end Go.G21
namespace Go.G21
open Go.Lw
structure KA where
  gk:Nat
  gy:Nat
  cy:Nat
  gt:Nat
  ct:Nat
  gf:Nat
  cf:Nat
  gb:Nat
  cb:Nat
  wd:Nat
  g5:Nat
  c5:List Value
  ids:List (Nat×List Value)
abbrev KA.YV (a:KA):Value:=.slice (some ⟨a.gy,0,none⟩) 6 a.cy
abbrev KA.TV (a:KA):Value:=.slice (some ⟨a.gt,0,none⟩) 6 a.ct
section
variable {τ:TyK} {Kt:Nat} {wS w w':World} {a:KA} {ys ys':List YQ} {ts ts':List TQ} {fs bs:List IQ} {j i:Nat} {q:IQ}
end
end Go.G21
namespace Go.G21
open Go.Lw
section
variable {wd:Nat} {ys:List YQ} {ts:List TQ} {fs bs:List IQ} {rows:List (List Lp)} {en:Nat->Bool} {F B F' B':Nat->List LId} {j i:Nat} {lq:LpQ} {L:Lp} {u u':SV} {l:List LId}
end
end Go.G21
namespace Go.G21
open Go.Lw
end Go.G21
namespace Go.G21
open Go.Lw
section
variable {τ:TyK} {Kt:Nat} {wS w w':World} {a:KA} {ys:List YQ} {ts:List TQ} {fs bs:List IQ} {j wd:Nat} {y:YQ} {rows:List (List Lp)} {en en':Nat->Bool} {F B:Nat->List LId}
end
end Go.G21
namespace Go.G21
open Go.Lw
end Go.G21
namespace Go.G21
open Go.Lw
end Go.G21
namespace Go.G21
open Go.Lw
def bdK (y:Int) (f k:Nat):List LId:=if k=0 then [] else [⟨y,((f+k-1:Nat):Int)⟩]
end Go.G21
namespace Go.G21
open Go.Lw
section
variable {τ:TyK} {base:Nat} {w w2:World} {v:Value} {ts:List TQ} {i:Nat} {u:SV}
theorem TbO.old {S:List Nat} {w':World} (h:TbO τ base w v ts) (hf:Fr S w w') (hS:∀k∈S,k<base):TbO τ base w' v ts:=by
 have o:∀ {α:Type} {E:Enc α} {T:Nat} {u:Value} {l:List α},Lw.Own E T base w u l->Lw.Own E T base w' u l:=λhO=>hO.fr hf λk hk hb=>by
  have h1:=hS k hk;have h2:=(hO.blk k hb).1;omega
 exact ⟨o h.out,λi hi=>o (h.ins i hi),h.off,λi hi q hq=>⟨o (h.lps i hi q hq).1,o (h.lps i hi q hq).2⟩⟩
end
end Go.G21
namespace Go.G21
open Go.Lw
abbrev Tb:=List (List Lp)
def z2t (T:Tb) (y:Nat):Nat:=(T.getD y []).length
def lpA (T:Tb) (y n:Nat):Lp:=(T.getD y []).getD n lq0.p
def z4b (T:Tb) (i:LId):Prop:=1<=i.y/\i.y<=T.length/\0<=i.n/\i.n<z2t T (i.y-1).toNat
instance (T:Tb) (i:LId):Decidable (z4b T i):=by unfold z4b;infer_instance
def z4m (l:Lp):List LId:=l.th++l.pa.map Pa.id
def y4r (T:Tb) (l:Lp):Prop:=(l.b=0\/l.b=1)/\(l.th.length<=4/\l.pa.length<=4096)/\(∀i∈z4m l,z4b T i)/\(∀p∈l.pa,z5q p.d)/\(z4n [] l.pa).length=l.pa.length
def x5a (r:List Lp):List LId:=r.flatMap Lp.th
def y0v (T:Tb):List LId:=T.flatMap x5a
def z4o (T:Tb):Nat:=(T.map List.length).sum
structure Ranked (T:Tb) (rk:LId->Nat):Prop where
  need:∀y,y<6->∀n,n<z2t T y->∀i∈z4m (lpA T y n),rk i<rk ⟨(y:Int)+1,n⟩
  mono:∀y,y<6->∀n m,n<m->m<z2t T y->rk ⟨(y:Int)+1,(n:Int)⟩<rk ⟨(y:Int)+1,(m:Int)⟩
structure TabOk (T:Tb):Prop where
  six:T.length=6
  cnt:z4o T<=2048
  rts:∀y,y<6->∀n,n<z2t T y->y4r T (lpA T y n)/\(n=0->(lpA T y n).nw=true)
  ord:∃rk,Ranked T rk
structure PlaceOk (T:Tb) (H F:List LId):Prop where
  has:∀i∈H++F,z4b T i
  asc:F.length<=1
  once:∀y,y<6->∀n,n<z2t T y->(H++F++y0v T).count ⟨(y:Int)+1,(n:Int)⟩=1
theorem z8z {T:Tb} {j:Nat} {r:List Lp} (hj:j<T.length) (y:Nat):z2t (T.set j r) y=if j=y then r.length else z2t T y:=by
 unfold z2t;rw [z1g hj];split<;>rfl
theorem z7x {α β:Type} [BEq β] [LawfulBEq β] (g:α->List β):∀(T:List α) (j:Nat) (d v:α) (x:β),j<T.length->((T.set j v).flatMap g).count x+(g (T.getD j d)).count x=(T.flatMap g).count x+(g v).count x
 | a::T,0,d,v,x,_=>by
  simp only [List.set_cons_zero,List.flatMap_cons,List.count_append,List.getD_cons_zero];omega
 | a::T,j+1,d,v,x,h=>by
  have:=z7x g T j d v x (by simpa using h)
  simp only [List.set_cons_succ,List.flatMap_cons,List.count_append,List.getD_cons_succ];omega
theorem y9d:∀(T:Tb) (j:Nat) (r:List Lp),j<T.length->z4o (T.set j r)+z2t T j=z4o T+r.length
 | a::T,0,r,_=>by simp [z4o,z2t];omega
 | a::T,j+1,r,h=>by
  have:=y9d T j r (by simpa using h)
  simp only [z4o,z2t,List.set_cons_succ,List.map_cons,List.sum_cons,List.getD_cons_succ] at this ⊢;omega
end Go.G21
namespace Go.G21
open Go.Lw
theorem z7p {T:Tb} {y n:Nat} (h1:y<T.length) (h2:n<z2t T y):z4b T ⟨(y:Int)+1,(n:Int)⟩:=by
 refine ⟨by show 1<=(y:Int)+1;omega,by show (y:Int)+1<=_;omega,by show (0:Int)<=n;omega,?_⟩
 show (n:Int)<(z2t T ((y:Int)+1-1).toNat:Int)
 rw [show ((y:Int)+1-1).toNat=y by omega];omega
theorem y8x {T:Tb} {j:Nat} {X:List Lp} (hj:j<T.length) {i:LId} (h:z4b T i):z4b (T.set j (T.getD j []++X)) i:=by
 obtain ⟨h1,h2,h3,h4⟩:=h
 refine ⟨h1,by rw [List.length_set];exact h2,h3,?_⟩
 rw [z8z hj]
 split
 ·rename_i e
  rw [List.length_append]
  have:z2t T (i.y-1).toNat=(T.getD j []).length:=by rw [<-e];rfl
  omega
 exact h4
theorem u4f {T:Tb} {j:Nat} {X:List Lp} (hj:j<T.length) (y n:Nat):lpA (T.set j (T.getD j []++X)) y n=if j=y then (if n<z2t T j then lpA T j n else X.getD (n-z2t T j) lq0.p) else lpA T y n:=by
 unfold lpA z2t
 rw [z1g hj]
 split
 ·rename_i e;subst e
  generalize T.getD j []=r
  split
  ·rename_i h;simp only [List.getD,List.getElem?_append_left h]
  rename_i h;simp only [List.getD,List.getElem?_append_right (Nat.not_lt.1 h)]
 rfl
def rkX (rk:LId->Nat) (j f N:Nat) (i:LId):Nat:=if i.y=(j:Int)+1/\(f:Int)<=i.n then N+(i.n-f).toNat else rk i
end Go.G21
