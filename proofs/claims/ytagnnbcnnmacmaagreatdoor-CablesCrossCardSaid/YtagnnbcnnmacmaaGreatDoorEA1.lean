/- Texts of the proof, joined. -/
import Derived.WalkKit
import Derived.WalkSpells
import Derived.WalkLawsBesides
import Derived.OrdersHeld
import Derived.Deep.Quiet
import Derived.Laws.BytesString
import Derived.ProofKit
import Derived.OpenShut
import Derived.Carry
import Derived.ChangeOld
import Derived.Deep.DeepHandedRow
import Derived.Lib.LaidTab
import Derived.Scope
import Derived.WalkSmall
import Derived.RangeFuncNested
import Derived.RangeFuncBound
import Derived.RangeFuncCalls
import Derived.RangeFuncLeaves
import Derived.OrdersIn
import Derived.Lib.Builder
import Derived.Lib.AppendStr
import Derived.Laws.Pointers
import Derived.Laws.Externs
import Derived.Lib.ConvBytes
import Derived.Laws.AppendOwn
set_option linter.unusedVariables false
set_option linter.unusedSimpArgs false
set_option maxHeartbeats 4000000
theorem oo {p:Prop}(h:p:=by omega):p:=h
theorem kr0 {p:Prop}(h:p:=by kernel_rfl):p:=h
theorem dd {p:Prop}(h:p:=by decide):p:=h
theorem sp0 {p:Prop}(h:p:=by simp):p:=h
theorem so {p:Prop}(h:p:=by simp;omega):p:=h
theorem sm {p:Prop}(h:p:=by simp only;omega):p:=h
theorem se {p:Prop}(h:p:=by simp<;>omega):p:=h
theorem U {α:Sort _}{a:α}:a=a:=rfl
theorem qi2 {A0:Type _}{A1:Type _}{x0 y0:A0}{x1 y1:A1}(h:(x0,x1)=(y0,y1)):x0=y0/\x1=y1:=by simpa only[Prod.mk.injEq] using h
theorem pi2 {A0:Type _}{A1:Type _}{x0 y0:A0}{x1 y1:A1}(h0:x0=y0)(h1:x1=y1):(x0,x1)=(y0,y1):=by subst_vars;rfl
theorem qi3 {A0:Type _}{A1:Type _}{A2:Type _}{x0 y0:A0}{x1 y1:A1}{x2 y2:A2}(h:(x0,x1,x2)=(y0,y1,y2)):x0=y0/\x1=y1/\x2=y2:=by simpa only[Prod.mk.injEq] using h
theorem pi3 {A0:Type _}{A1:Type _}{A2:Type _}{x0 y0:A0}{x1 y1:A1}{x2 y2:A2}(h0:x0=y0)(h1:x1=y1)(h2:x2=y2):(x0,x1,x2)=(y0,y1,y2):=by subst_vars;rfl
theorem qi4 {A0:Type _}{A1:Type _}{A2:Type _}{A3:Type _}{x0 y0:A0}{x1 y1:A1}{x2 y2:A2}{x3 y3:A3}(h:(x0,x1,x2,x3)=(y0,y1,y2,y3)):x0=y0/\x1=y1/\x2=y2/\x3=y3:=by simpa only[Prod.mk.injEq] using h
theorem pi4 {A0:Type _}{A1:Type _}{A2:Type _}{A3:Type _}{x0 y0:A0}{x1 y1:A1}{x2 y2:A2}{x3 y3:A3}(h0:x0=y0)(h1:x1=y1)(h2:x2=y2)(h3:x3=y3):(x0,x1,x2,x3)=(y0,y1,y2,y3):=by subst_vars;rfl
namespace Go.Lw
theorem y4q {a b:Nat}(h:¬a=b):Nat.beq a b=false:=by
 rw[Bool.eq_false_iff];intro e;exact h (Nat.eq_of_beq_eq_true e)
def look:List (Nat×Value)->Nat->Option Value
  | [],_=>none
  | (s,v)::r,t=>bif Nat.beq s t then some v else look r t
def mark (D:Nat):Deferred:={ target:=.collected D,args:=#[] }
structure AgM (ds:List Nat) (a:Act) (n:Nat) (L:List (Nat×Value)):Prop where
  dfr:a.defers=ds.map mark
  size:a.tmps.size=n
  at_:∀t v,look L t=some v->a.tmps.getD t undef=v
abbrev Ag:=AgM []
def ev (L:List (Nat×Value)):Operand->Option Value
  | .tmp t=>look L t
  | .const v=>some v
  | .global g=>some (.pointer (some ⟨g,0,none⟩))
  | .func f=>some (.func (.func f) #[] #[])
def evs (L:List (Nat×Value)):List Operand->List Value->Prop
  | [],[]=>True
  | x::xs,v::vs=>ev L x=some v/\evs L xs vs
  | _,_=>False
def Sub:List (Nat×Value)->List (Nat×Value)->Prop
  | [],_=>True
  | p::r,L=>look L p.1=some p.2/\Sub r L
section
variable {P:Program} {a:Act} {n:Nat} {L:List (Nat×Value)} {ds:List Nat} {w w':World} {Q:Exit->Act->World->Prop} {ops:Array Oper} {rest:List Oper} {o:Oper}
theorem AgM.eval (h:AgM ds a n L){x:Operand}{v:Value}(D:ev L x=some v):a.eval x=v:=by
 cases x with
 | tmp t=>exact h.at_ t v D
 | const c=>exact Option.some.inj D
 | global g=>exact Option.some.inj D
 | func f=>exact Option.some.inj D
theorem AgM.evals (h:AgM ds a n L):∀ {xs:List Operand} {vs:List Value},evs L xs vs->xs.map a.eval=vs
 | [],[],_=>rfl
 | _::_,_::_,hx=>by rw[List.map_cons,h.eval hx.1,h.evals hx.2]
 | [],_::_,hx=>hx.elim
 | _::_,[],hx=>hx.elim
theorem AgM.put (h:AgM ds a n L){d:Nat}(Z:Nat.blt d n=true)(v:Value):AgM ds (a.put (some d) v) n ((d,v)::L):=by
 have I:d<n:=by simpa[Nat.blt_eq] using Z
 refine⟨h.dfr,by simp[Act.put,h.size],λt u D=>?_⟩;simp only[look]at D;by_cases e:d=t;subst e;simp only[Nat.beq_refl,cond_true,Option.some.injEq]at D;subst D;have:d<a.tmps.size:=by rw[h.size];exact I
 simp[Act.put,Array.getD,this];have:Nat.beq d t=false:=y4q e;rw[this]at D;have O:=h.at_ t u D;simp only[Act.put,Array.getD_eq_getD_getElem?,Array.getElem?_setIfInBounds]at O ⊢;rw[if_neg e];exact O
theorem Sub.look {L L':List (Nat×Value)}:∀ {t v},Sub L' L->look L' t=some v->look L t=some v:=by
 induction L' with
 | nil=>intro t v _ h;cases h
 | cons p r ih=>
  intro t v D h;simp only[Lw.look]at h;by_cases e:p.1=t;subst e;simp only[Nat.beq_refl,cond_true,Option.some.injEq]at h;rw[<-h];exact D.1;have:Nat.beq p.1 t=false:=y4q e;rw[this]at h;exact ih D.2 h
theorem AgM.sub (h:AgM ds a n L){L':List (Nat×Value)}(D:Sub L' L):AgM ds a n L':=
 ⟨h.dfr,h.size,λt v I=>h.at_ t v (D.look I)⟩
def argsOk (args:Array Value):List (Nat×Value)->Prop
  | []=>True
  | p::r=>args[p.1]?=some p.2/\argsOk args r
theorem argsOk.look {args:Array Value}:∀ {L:List (Nat×Value)},argsOk args L->∀ {t v},look L t=some v->args[t]?=some v
 | [],_,_,_,h=>by cases h
 | p::r,hs,t,v,h=>by
  simp only[Lw.look]at h
  by_cases e:p.1=t
  ·subst e
   simp only[Nat.beq_refl,cond_true,Option.some.injEq]at h
   rw[<-h];exact hs.1
  have:Nat.beq p.1 t=false:=y4q e
  rw[this]at h
  exact argsOk.look hs.2 h
theorem enter {f:FuncId}{fn:Func}{c:Code}{args:Array Value}{R:Ending->World->Prop}(L:List (Nat×Value))
    (hf:P.funcs[f]?=some fn) (hb:fn.body=some c) (hn:fn.ntmps=n) (hk:Nat.ble args.size n=true) (hL:argsOk args L)
    (h:∀a,Ag a n L->c.wp P (bodyPost P fn R) a w):Calls P f args w R:=by
  have D:args.size<=n:=by simpa[Nat.ble_eq] using hk
  refine calls_of_wp hf hb (h _ ⟨rfl,by simp[hn];omega,λt v O=>?_⟩)
  have:=argsOk.look hL O
  simp only[Array.getD_eq_getD_getElem?,Array.getElem?_append]
  have I:t<args.size:=by
    rcases Nat.lt_or_ge t args.size with h|h
    · exact h
    · rw[Array.getElem?_eq_none h]at this;cases this
  rw[if_pos I,this];rfl
def Rets (P:Program)(f:FuncId)(args:Array Value)(w:World)(Φ:Value->World->Prop):Prop:=
  Calls P f args w λe w'=>∃v,e=.returned v/\Φ v w'
theorem Rets.mono {f:FuncId}{args:Array Value}{Φ Ψ:Value->World->Prop}(h:Rets P f args w Φ)(D:∀v w',Φ v w'->Ψ v w'):Rets P f args w Ψ:=
 Calls.mono h λ_ _ ⟨v,he,hv⟩=>⟨v,he,D v _ hv⟩
theorem j0s {x y:Code}(K:Act->World->Prop)(h1:x.wp P (Exit.then K Q) a w)(D:∀a w,K a w->y.wp P Q a w):(Code.seq x y).wp P Q a w:=
 wp_seq (wp_mono h1 λe a w h=>by cases e<;>first|exact D _ _ h|exact h)
theorem cond_true {c:Operand}{x y:Code}(h:AgM ds a n L)(D:ev L c=some (.bool true))(k:x.wp P Q a w):(Code.cond c x y).wp P Q a w:=wp_cond (h.eval D) k
theorem x0d {c:Operand}{x y:Code}(h:AgM ds a n L)(D:ev L c=some (.bool false))(k:y.wp P Q a w):(Code.cond c x y).wp P Q a w:=wp_cond (h.eval D) k
theorem y9z {c:Operand}{x y:Code}{b:Bool}(h:AgM ds a n L)(D:ev L c=some (.bool b))(I:b=true->x.wp P Q a w)(hf:b=false->y.wp P Q a w):(Code.cond c x y).wp P Q a w:=
 wp_cond_split (h.eval D) I hf
theorem loop {c:Code}{ι:Type}(L:ι->List (Nat×Value))(I:ι->World->Prop)(μ:ι->Nat)(i:ι)(h:AgM ds a n (L i))(hI:I i w)
    (round:∀i w a,AgM ds a n (L i)->I i w->c.wp P (Exit.then (λa' w'=>∃j,AgM ds a' n (L j)/\I j w'/\μ j<μ i) Q) a w):(Code.loop c).wp P Q a w:=by
  have a4:∀m i w a,μ i=m->AgM ds a n (L i)->I i w->∀(b:Frame) (k:List Item) (cs:List Frame),
      ∃e a' w',Q e a' w'/\Arrives P (lone (b.at a (.code c::.inLoop c::k)) cs w) b k cs e a' w':=by
    intro m
    induction m using Nat.strongRecOn with
    | _ m ih=>
      intro i w a hm hA hI b k cs
      obtain⟨e,a₁,w₁,O,D⟩:=round i w a hA hI b (.inLoop c::k) cs
      cases e with
      | normal=>
        obtain⟨j,a0,a1,a2⟩:=O
        obtain⟨e₂,a₂,w₂,a3,Z⟩:=ih (μ j) (hm▸a2) j w₁ a₁ U a0 a1 b k cs
        exact⟨e₂,a₂,w₂,a3,.of_steps (Steps.trans D (.one step_inLoop)) Z⟩
      | exit id=>exact⟨_,a₁,w₁,O,.pass (x:=.inLoop c) U (λ_ _=>.inl sp0) D⟩
      | goto l=>exact⟨_,a₁,w₁,O,.pass (x:=.inLoop c) U (λ_ _=>.inl sp0) D⟩
      | ret=>exact⟨_,a₁,w₁,O,.pass (x:=.inLoop c) U (λ_ _=>.inl sp0) D⟩
      | panic ch=>exact⟨_,a₁,w₁,O,.pass (x:=.inLoop c) U (λ_ _=>.inl sp0) D⟩
      | outgrown=>exact⟨_,a₁,w₁,O,.pass (x:=.inLoop c) U (λ_ _=>.inl sp0) D⟩
  intro b k cs
  obtain⟨e,a',w',O,D⟩:=a4 _ i w a U h hI b k cs
  exact⟨e,a',w',O,.of_steps (.one step_loop) D⟩
theorem x4q {id:Nat}(h:Q .normal a w):Exit.inBlock id Q (.exit id) a w:=by simp only[Exit.inBlock,if_true];exact h
theorem u5o {id D:Nat}(I:Nat.beq D id=false)(h:Q (.exit D) a w):Exit.inBlock id Q (.exit D) a w:=by
 simp only[Exit.inBlock];rw[if_neg (by rintro rfl;simp at I)];exact h
theorem ret0 {fn:Func}{R:Ending->World->Prop}(h:Ag a n L)(D:fn.results=#[])(k:R (.returned (.tuple #[])) w):bodyPost P fn R .ret a w:=
 bodyPost_ret (results_none D _ _ _) h.dfr k
theorem u0w {fn:Func}{R:Ending->World->Prop}(h:Ag a n L)(D:fn.results=#[])(k:R (.returned (.tuple #[])) w):bodyPost P fn R .normal a w:=
 bodyPost_end (results_none D _ _ _) h.dfr k
theorem k2l {fn:Func}{R:Ending->World->Prop}{t:Nat}{v:Value}(h:Ag a n L)(D:fn.results=#[.tmp t])(I:look L t=some v)(k:R (.returned v) w):bodyPost P fn R .ret a w:=
 bodyPost_ret (results_tmp D _ _ _) h.dfr (by rw[h.at_ t v I];exact k)
theorem ret2 {fn:Func}{R:Ending->World->Prop}{t u:Nat}{v x:Value}(h:Ag a n L)(D:fn.results=#[.tmp t,.tmp u])(I:look L t=some v)(O:look L u=some x)
    (k:R (.returned (.tuple #[v,x])) w):bodyPost P fn R .ret a w:=
  bodyPost_ret (results_tmp2 D _ _ _) h.dfr (by rw[h.at_ t v I,h.at_ u x O];exact k)
theorem ret3 {fn:Func}{R:Ending->World->Prop}{t u s:Nat}{v x y:Value}(h:Ag a n L)(Z:fn.results=#[.tmp t,.tmp u,.tmp s])(hv:look L t=some v)(hx:look L u=some x)
    (hy:look L s=some y) (k:R (.returned (.tuple #[v,x,y])) w):bodyPost P fn R .ret a w:=
  bodyPost_ret (v:=.tuple #[v,x,y]) (by
    have D:=h.at_ t v hv;have I:=h.at_ u x hx;have O:=h.at_ s y hy
    simp only[Array.getD_eq_getD_getElem?]at D I O
    simp[results,Z,D,I,O]) h.dfr k
def WL (P:Program)(ops:Array Oper)(Q:Exit->Act->World->Prop)(l:List Oper)(n:Nat)(ds:List Nat)(w:World)(L:List (Nat×Value)):Prop:=∀a,AgM ds a n L->wpList P ops Q l a w
def CW (P:Program)(Q:Exit->Act->World->Prop)(c:Code)(n:Nat)(ds:List Nat)(w:World)(L:List (Nat×Value)):Prop:=∀a,AgM ds a n L->c.wp P Q a w
def EW (Q:Exit->Act->World->Prop)(e:Exit)(n:Nat)(ds:List Nat)(w:World)(L:List (Nat×Value)):Prop:=∀a,AgM ds a n L->Q e a w
theorem z2m {d:Nat}{v:Value}(h:AgM ds a n L)(H1:(o.guard,o.dst)=(none,some d))(hn:Nat.blt d n=true)(Z:(execOp a.eval o).run P w=.ok (.value v) w')
    (k:∀a,AgM ds a n ((d,v)::L)->wpList P ops Q rest a w'):wpList P ops Q (o::rest) a w:=let⟨O,I⟩:=qi2 H1;
  wpList_plain O λK D=>by
    unfold Oper.wp
    rw[Z]
    show K (a.put o.dst v) w'
    rw[I]
    exact D _ _ (k _ (h.put hn v))
theorem z9v (h:AgM ds a n L)(O:o.guard=none)(I:o.dst=none)(Z:(execOp a.eval o).run P w=.ok .skip w')
    (k:∀a,AgM ds a n L->wpList P ops Q rest a w'):wpList P ops Q (o::rest) a w:=
  wpList_plain O λK D=>by
    unfold Oper.wp
    rw[Z]
    show K (a.put o.dst undef) w'
    rw[I]
    exact D _ _ (k _ h)
theorem v2g {d:Nat}{f:FuncId}{args:Array Value}{Φ:Value->World->Prop}(h:AgM ds a n L)(Z:o.guard=none)(O:o.dst=some d)(hn:Nat.blt d n=true)
    (hr:(execOp a.eval o).run P w=.ok (.enter f args) w') (hc:Rets P f args w' Φ)
    (k:∀v w',Φ v w'->∀a,AgM ds a n ((d,v)::L)->wpList P ops Q rest a w'):wpList P ops Q (o::rest) a w:=
  wpList_plain Z λK I=>by
    unfold Oper.wp
    rw[hr]
    refine Calls.mono hc ?_
    rintro e D ⟨v,rfl,hv⟩
    show K (a.put o.dst v) D
    rw[O]
    exact I _ _ (k v D hv _ (h.put hn v))
theorem z6y (h:AgM ds a n L){j d:Nat}{I:Oper}{b:Bool}(hj:ops[j]?=some I)(hd:I.dst=some d)(hn:Nat.blt d n=true)(hb:look L d=some (.bool b)):yielded ops a.tmps j=some b:=by
 have O:=h.at_ d _ hb;have D:d<a.tmps.size:=by rw[h.size];simpa[Nat.blt_eq] using hn
 have Z:a.tmps[d]?=some (.bool b):=by
  rw[Array.getElem?_eq_getElem D];simpa[Array.getD,D] using O
 simp[yielded,hj,hd,Z]
theorem k3j {d j I:Nat}{oj:Oper}{D b:Bool}(h:AgM ds a n L)(hg:o.guard=some (j,D))(hj:ops[j]?=some oj)(O:oj.dst=some I)(Z:Nat.blt I n=true)
    (hb:look L I=some (.bool b)) (hne:(b == D)=false) (hd:o.dst=some d) (hn:Nat.blt d n=true)
    (k:∀a,AgM ds a n ((d,undef)::L)->wpList P ops Q rest a w):wpList P ops Q (o::rest) a w:=by
  have hy:=z6y (ops:=ops) h hj O Z hb
  unfold wpList
  rw[if_neg (by simp only[Region.wanted,hg,hy];simpa using hne),hd]
  exact k _ (h.put hn undef)
theorem j2p {d j D:Nat}{oj:Oper}{O:Bool}(h:AgM ds a n L)(hg:o.guard=some (j,O))(hj:ops[j]?=some oj)(Z:oj.dst=some D)(a0:Nat.blt D n=true)
    (hb:look L D=some undef) (hd:o.dst=some d) (hn:Nat.blt d n=true)
    (k:∀a,AgM ds a n ((d,undef)::L)->wpList P ops Q rest a w):wpList P ops Q (o::rest) a w:=by
  have h1:=h.at_ D _ hb
  have I:D<a.tmps.size:=by rw[h.size];simpa[Nat.blt_eq] using a0
  have h2:a.tmps[D]?=some undef:=by
    rw[Array.getElem?_eq_getElem I]
    simpa[Array.getD,I] using h1
  have hy:yielded ops a.tmps j=none:=by simp[yielded,hj,Z,h2,undef]
  unfold wpList
  rw[if_neg (by simp[Region.wanted,hg,hy]),hd]
  exact k _ (h.put hn undef)
theorem y1d {j I:Nat}{oj:Oper}{D b:Bool}(h:AgM ds a n L)(hg:o.guard=some (j,D))(hj:ops[j]?=some oj)(O:oj.dst=some I)(Z:Nat.blt I n=true)
    (hb:look L I=some (.bool b)) (he:(b == D)=true)
    (k:wpList P ops Q ({ o with guard:=none }::rest) a w):wpList P ops Q (o::rest) a w:=by
  have hy:=z6y (ops:=ops) h hj O Z hb
  unfold wpList at k ⊢
  rw[if_pos (by simp[Region.wanted])]at k
  rw[if_pos (by simp only[Region.wanted,hg,hy];simpa using he)]
  exact k
variable {d:Nat} {ty:TypeId} {pos:String} {after:Array Edge} {v:Value} {x y:Operand} {t t':TypeId} {k k':IntKind} {i j:Int} {b c:Bool} {s s':ByteArray}
theorem v6u (h:AgM ds a n L)(D:ev L x=some v)(hn:Nat.blt d n=true)(q:∀a,AgM ds a n ((d,v)::L)->wpList P ops Q rest a w) :
    wpList P ops Q (⟨some d,.move x,ty,pos,after,none⟩::rest) a w:=
  z2m h U hn (by simp[execOp,h.eval D]) q
theorem mv (D:ev L x=some v)(q:WL P ops Q rest n ds w ((d,v)::L))(hn:Nat.blt d n=true:=by exact U):WL P ops Q (⟨some d,.move x,ty,pos,after,none⟩::rest) n ds w L:=λa h=>v6u h D hn q
theorem z0s (h:AgM ds a n L)(D:ev L x=some v)(q:∀a,AgM ds a n ((d,v)::L)->wpList P ops Q rest a w)(hn:Nat.blt d n=true:=by exact U) :
    wpList P ops Q (⟨some d,.assign x,ty,pos,after,none⟩::rest) a w:=
  z2m h U hn (by simp[execOp,h.eval D]) q
theorem asg (D:ev L x=some v)(q:WL P ops Q rest n ds w ((d,v)::L))(hn:Nat.blt d n=true:=by exact U):WL P ops Q (⟨some d,.assign x,ty,pos,after,none⟩::rest) n ds w L:=λa h=>z0s h D q (hn:=hn)
theorem z5k {z:Value}{D Z:Operand}(h:AgM ds a n L)(H1:(ev L x,b,ev L D,Nat.blt d n)=(some (.bool b),true,some z,true))(q:∀a,AgM ds a n ((d,z)::L)->wpList P ops Q rest a w) :
    wpList P ops Q (⟨some d,.pick x D Z,ty,pos,after,none⟩::rest) a w:=let⟨O,hb,I,hn⟩:=qi4 H1;
  z2m h U hn (by subst hb;simp[execOp,h.eval O,asBool,h.eval I]) q
theorem pkt {z:Value}{D Z:Operand}(H0:(ev L x,ev L D)=(some (.bool b),some z))(q:WL P ops Q rest n ds w ((d,z)::L))(hb:b=true:=by exact U)(hn:Nat.blt d n=true:=by exact U):WL P ops Q (⟨some d,.pick x D Z,ty,pos,after,none⟩::rest) n ds w L:=let⟨O,I⟩:=qi2 H0;λa h=>z5k h (pi4 O hb I hn) q
theorem z6i {z:Value}{Z D:Operand}(h:AgM ds a n L)(H1:(ev L x,b,ev L D,Nat.blt d n)=(some (.bool b),false,some z,true))(q:∀a,AgM ds a n ((d,z)::L)->wpList P ops Q rest a w) :
    wpList P ops Q (⟨some d,.pick x Z D,ty,pos,after,none⟩::rest) a w:=let⟨O,hb,I,hn⟩:=qi4 H1;
  z2m h U hn (by subst hb;simp[execOp,h.eval O,asBool,h.eval I]) q
theorem pkf {z:Value}{Z D:Operand}(H0:(ev L x,ev L D)=(some (.bool b),some z))(q:WL P ops Q rest n ds w ((d,z)::L))(hb:b=false:=by exact U)(hn:Nat.blt d n=true:=by exact U):WL P ops Q (⟨some d,.pick x Z D,ty,pos,after,none⟩::rest) n ds w L:=let⟨O,I⟩:=qi2 H0;λa h=>z6i h (pi4 O hb I hn) q
theorem y1t (i j:Int):(i == j)=decide (i=j):=rfl
theorem z2d (ρ:Operand->Value)(dst:Option Tmp)(b:Builtin)(xs:Array Operand)(ats:Array TypeId)(ty:TypeId)(pos:String)(after:Array Edge)(guard:Option (Nat×Bool)) :
 execOp ρ { dst,op:=.call { callee:=.builtin b,args:=xs,argTypes:=ats },type:=ty,pos,after,guard }=builtin b ats ty (xs.map fun|.const _=>true|_=>false) (xs.map ρ):=rfl
theorem z0q {z:Int}(H0:(ev L x,ev L y)=(some (.int k i),some (.int k j)))(O:k.wrap (i+j)=z)(q:WL P ops Q rest n ds w ((d,.int k z)::L))(hn:Nat.blt d n=true:=by exact U):WL P ops Q (⟨some d,.binOp .add t x y t',ty,pos,after,none⟩::rest) n ds w L:=let⟨D,I⟩:=qi2 H0;λa h=>z2m h U hn (by subst O;simp[execOp,h.eval D,h.eval I,eqGuard_add,binOp_add,Op.intArith]) q
theorem z1u {z:Int}(H0:(ev L x,ev L y)=(some (.int k i),some (.int k j)))(O:k.wrap (i-j)=z)(q:WL P ops Q rest n ds w ((d,.int k z)::L))(hn:Nat.blt d n=true:=by exact U):WL P ops Q (⟨some d,.binOp .sub t x y t',ty,pos,after,none⟩::rest) n ds w L:=let⟨D,I⟩:=qi2 H0;λa h=>z2m h U hn (by subst O;simp[execOp,h.eval D,h.eval I,eqGuard_sub,binOp_sub,Op.intArith]) q
theorem y4m {z:Int}(H0:(ev L x,ev L y)=(some (.int k i),some (.int k j)))(O:k.wrap (i*j)=z)(q:WL P ops Q rest n ds w ((d,.int k z)::L))(hn:Nat.blt d n=true:=by exact U):WL P ops Q (⟨some d,.binOp .mul t x y t',ty,pos,after,none⟩::rest) n ds w L:=let⟨D,I⟩:=qi2 H0;λa h=>z2m h U hn (by subst O;simp[execOp,h.eval D,h.eval I,eqGuard_mul,binOp_mul,Op.intArith]) q
theorem x7c {z:Int}(I:ev L x=some (.int k i))(O:ev L y=some (.int k j))(Z:i.tmod j=z)(hn:Nat.blt d n=true)(q:WL P ops Q rest n ds w ((d,.int k z)::L))(D:j≠0:=by omega):WL P ops Q (⟨some d,.binOp .rem t x y t',ty,pos,after,none⟩::rest) n ds w L:=λa h=>z2m h U hn (by subst Z;simp[execOp,h.eval I,h.eval O,eqGuard_rem,binOp_rem,Op.intDiv,D]) q
theorem eq' (H0:(ev L x,ev L y)=(some (.int k i),some (.int k j)))(q:WL P ops Q rest n ds w ((d,.bool (decide (i=j)))::L))(hn:Nat.blt d n=true:=by exact U):WL P ops Q (⟨some d,.binOp .eql t x y t',ty,pos,after,none⟩::rest) n ds w L:=let⟨D,I⟩:=qi2 H0;λa h=>z2m h U hn (by simp[execOp,h.eval D,h.eval I,eqGuard_at_int,binOp_eql,y1t]) q
theorem ne' (H0:(ev L x,ev L y)=(some (.int k i),some (.int k j)))(q:WL P ops Q rest n ds w ((d,.bool (decide (i≠j)))::L))(hn:Nat.blt d n=true:=by exact U):WL P ops Q (⟨some d,.binOp .neq t x y t',ty,pos,after,none⟩::rest) n ds w L:=let⟨D,I⟩:=qi2 H0;λa h=>z2m h U hn (by simp[execOp,h.eval D,h.eval I,eqGuard_at_int,binOp_neq,bne,y1t]) q
theorem j8t (h:AgM ds a n L)(D:ev L x=some (.int k i))(I:ev L y=some (.int k j))(hn:Nat.blt d n=true)(q:∀a,AgM ds a n ((d,.bool (decide (i<j)))::L)->wpList P ops Q rest a w) :
    wpList P ops Q (⟨some d,.binOp .lss t x y t',ty,pos,after,none⟩::rest) a w:=
  z2m h U hn (by simp[execOp,h.eval D,h.eval I,eqGuard_lss,binOp_lss]) q
theorem lt' (H0:(ev L x,ev L y)=(some (.int k i),some (.int k j)))(q:WL P ops Q rest n ds w ((d,.bool (decide (i<j)))::L))(hn:Nat.blt d n=true:=by exact U):WL P ops Q (⟨some d,.binOp .lss t x y t',ty,pos,after,none⟩::rest) n ds w L:=let⟨D,I⟩:=qi2 H0;λa h=>j8t h D I hn q
theorem le' (H0:(ev L x,ev L y,Nat.blt d n)=(some (.int k i),some (.int k j),true))(q:WL P ops Q rest n ds w ((d,.bool (decide (i<=j)))::L)):WL P ops Q (⟨some d,.binOp .leq t x y t',ty,pos,after,none⟩::rest) n ds w L:=let⟨D,I,hn⟩:=qi3 H0;λa h=>z2m h U hn (by simp[execOp,h.eval D,h.eval I,eqGuard_leq,binOp_leq]) q
theorem gt' (H0:(ev L x,ev L y)=(some (.int k i),some (.int k j)))(q:WL P ops Q rest n ds w ((d,.bool (decide (j<i)))::L))(hn:Nat.blt d n=true:=by exact U):WL P ops Q (⟨some d,.binOp .gtr t x y t',ty,pos,after,none⟩::rest) n ds w L:=let⟨D,I⟩:=qi2 H0;λa h=>z2m h U hn (by simp[execOp,h.eval D,h.eval I,eqGuard_gtr,binOp_gtr]) q
theorem ge' (H0:(ev L x,ev L y)=(some (.int k i),some (.int k j)))(q:WL P ops Q rest n ds w ((d,.bool (decide (j<=i)))::L))(hn:Nat.blt d n=true:=by exact U):WL P ops Q (⟨some d,.binOp .geq t x y t',ty,pos,after,none⟩::rest) n ds w L:=let⟨D,I⟩:=qi2 H0;λa h=>z2m h U hn (by simp[execOp,h.eval D,h.eval I,eqGuard_geq,binOp_geq]) q
theorem k5t {z:Int}(D:ev L x=some (.int k i))(I:k.wrap (0-i)=z)(hn:Nat.blt d n=true)(q:WL P ops Q rest n ds w ((d,.int k z)::L)):WL P ops Q (⟨some d,.unOp .neg t x,ty,pos,after,none⟩::rest) n ds w L:=λa h=>z2m h U hn (by subst I;simp[execOp,h.eval D,unary_neg,Op.intArith]) q
theorem nt' (D:ev L x=some (.bool b))(q:WL P ops Q rest n ds w ((d,.bool (!b))::L))(hn:Nat.blt d n=true:=by exact U):WL P ops Q (⟨some d,.unOp .not t x,ty,pos,after,none⟩::rest) n ds w L:=λa h=>z2m h U hn (by simp[execOp,h.eval D,unary_not]) q
theorem z6s {z:Int}(Z:ev L x=some (.int k i))(I:(P.underlying t).isSome=true)(D:P.underlying t'=some (.int k'))(hz:k'.wrap i=z)(q:WL P ops Q rest n ds w ((d,.int k' z)::L))(hn:Nat.blt d n=true:=by exact U):WL P ops Q (⟨some d,.convert t t' x,ty,pos,after,none⟩::rest) n ds w L:=λa h=>z2m h U hn (by
    obtain⟨u,O⟩:=Option.isSome_iff_exists.mp I
    subst hz;simp[execOp,h.eval Z,convert,run_underlying O,run_underlying D,Conv.intToInt]) q
theorem u2z {ts:Array TypeId}(D:ev L x=some (.int k i))(I:ev L y=some (.int k' j))(hn:Nat.blt d n=true)(q:WL P ops Q rest n ds w ((d,.int k (min i j))::L)):WL P ops Q (⟨some d,.call ⟨.builtin .min,#[x,y],ts⟩,ty,pos,after,none⟩::rest) n ds w L:=λa h=>z2m h U hn (by
    rw[z2d];unfold builtin
    simp only[List.map_toArray,List.map_cons,List.map_nil,h.eval D,h.eval I,Sem.run_bind,run_min_int2,Result.andThen_ok,Sem.run_pure]
    congr 3;omega) q
theorem u0m {ts:Array TypeId}(D:ev L x=some (.int k i))(I:ev L y=some (.int k' j))(hn:Nat.blt d n=true)(q:WL P ops Q rest n ds w ((d,.int k (max i j))::L)):WL P ops Q (⟨some d,.call ⟨.builtin .max,#[x,y],ts⟩,ty,pos,after,none⟩::rest) n ds w L:=λa h=>z2m h U hn (by
    rw[z2d];unfold builtin
    simp only[List.map_toArray,List.map_cons,List.map_nil,h.eval D,h.eval I,Sem.run_bind,run_max_int2,Result.andThen_ok,Sem.run_pure]
    congr 3;omega) q
def S (l:List UInt8):Value:=.string ⟨l.toArray⟩
variable {l l':List UInt8}
end
end Go.Lw
namespace Go.Lw
open Go.RowKit
structure Fr (S:List Nat) (w w':World):Prop where
  os:w'.os=w.os
  tape:w'.tape=w.tape
  output:w'.output=w.output
  size:w.heap.size<=w'.heap.size
  block:∀k,k<w.heap.size->k∉S->w'.heap[k]?=w.heap[k]?
theorem Fr.refl (S:List Nat)(w:World):Fr S w w:=⟨rfl,rfl,rfl,Nat.le_refl _,λ_ _ _=>rfl⟩
theorem Fr.trans {S S':List Nat}{a b c:World}(h:Fr S a b)(D:Fr S' b c):Fr (S++S') a c:=
 ⟨D.os.trans h.os,D.tape.trans h.tape,D.output.trans h.output,Nat.le_trans h.size D.size,λk O I=>
  (D.block k (Nat.lt_of_lt_of_le O h.size) (λe=>I (List.mem_append.2 (.inr e)))).trans (h.block k O (λe=>I (List.mem_append.2 (.inl e))))⟩
theorem Fr.weak {S S':List Nat}{a b:World}(h:Fr S a b)(I:∀k∈S,k<a.heap.size->k∈S'):Fr S' a b:=
 ⟨h.os,h.tape,h.output,h.size,λk D O=>h.block k D (λe=>O (I k e D))⟩
theorem Fr.step {S S':List Nat}{a b c:World}(h:Fr S a b)(I:Fr S' b c)(O:∀k∈S',k<a.heap.size->k∈S):Fr S a c:=
 (h.trans I).weak λk Z D=>(List.mem_append.1 Z).elim id λe=>O k e D
theorem Fr.next {S:List Nat}{a b c:World}(h:Fr S a b)(D:Fr [] b c):Fr S a c:=h.step D sp0
theorem Fr.below {a b:World}(h:Fr [] a b):Below a.heap.size a b:=⟨h.os,h.tape,h.output,h.size,λk D=>h.block k D sp0⟩
theorem Fr.of_below {a b:World}(h:Below a.heap.size a b):Fr [] a b:=⟨h.os,h.tape,h.output,h.size,λk D _=>h.block k D⟩
theorem Fr.alloc (S:List Nat)(w:World)(o:Obj):Fr S w (w.alloc o):=⟨rfl,rfl,rfl,sp0,λk D _=>Below.heap_alloc w o k D⟩
theorem Fr.drew (S:List Nat)(w:World):Fr S w w.drew:=⟨rfl,rfl,rfl,Nat.le_refl _,λ_ _ _=>rfl⟩
theorem Fr.setCell (w:World)(p:Addr)(u:Value):Fr [p.block] w (w.setCell p u):=
 ⟨rfl,rfl,rfl,sp0,λk _ D=>heap_setCell_other w p k u (by simpa using D)⟩
theorem Fr.setRow (w:World)(g:Nat)(cs:Array Value):Fr [g] w (w.setRow g cs):=
 ⟨rfl,rfl,rfl,sp0,λk _ D=>setRow_other w g k _ (by simpa using D)⟩
theorem Fr.cell {S:List Nat}{w w':World}(h:Fr S w w'){p:Addr}{u:Value}(D:w.cell? p=some u)(hn:p.block∉S):w'.cell? p=some u:=
 (World.cell?_of_block (w:=w) (h.block p.block (block_lt_of_cell D) hn)).trans D
def Cells (w:World)(ad:Addr)(cs:List Value):Prop:=∀j u,cs[j]?=some u->w.cell? (ad.add j)=some u
theorem z6e (a:Addr)(n:Nat):(a.add n).block=a.block:=by unfold Addr.add;split<;>rfl
theorem y0h (a:Addr)(i j:Nat):(a.add i).add j=a.add (i+j):=by
 unfold Addr.add;by_cases hi:i=0<;>by_cases hj:j=0<;>simp[hi,hj,Nat.add_assoc]
theorem Cells.fr {S:List Nat}{w w':World}{ad:Addr}{cs:List Value}(h:Cells w ad cs)(hf:Fr S w w')(hn:ad.block∉S:=by simp[z0u]<;>omega):Cells w' ad cs:=
 λj u D=>hf.cell (h j u D) (by rw[z6e];exact hn)
structure Enc (α:Type) where
  enc:α->List Value
  sz:Nat
  len:∀y,(enc y).length=sz
  one:∀y,∀u∈enc y,u.oneCell'=true
  pos:0<sz
def Enc.i64:Enc Int:=⟨λn=>[.int .i64 n],1,λ_=>rfl,λ_ u h=>by simp at h;subst h;rfl,dd⟩
def Enc.u8:Enc Int:=⟨λn=>[.int .u8 n],1,λ_=>rfl,λ_ u h=>by simp at h;subst h;rfl,dd⟩
def Enc.str:Enc (List UInt8):=⟨λl=>[S l],1,λ_=>rfl,λ_ u h=>by simp at h;subst h;rfl,dd⟩
def Enc.sl:Enc (Option Addr×Nat×Nat):=⟨λp=>[.slice p.1 p.2.1 p.2.2],1,λ_=>rfl,λ_ u h=>by simp at h;subst h;rfl,dd⟩
theorem Enc.flat_len {α:Type}(E:Enc α)(ys:List α):(ys.flatMap E.enc).length=ys.length*E.sz:=by
 induction ys with
 | nil=>simp
 | cons y ys ih=>simp[E.len,ih,Nat.add_mul,Nat.add_comm]
theorem Enc.flat_one {α:Type}(E:Enc α)(ys:List α):∀u∈ys.flatMap E.enc,u.oneCell'=true:=by
 intro u D;obtain⟨y,_,h⟩:=List.mem_flatMap.1 D;exact E.one y u h
theorem Enc.flat_get {α:Type}(E:Enc α):∀(ys:List α) (i:Nat) (y:α),ys[i]?=some y->∀j,j<E.sz->(ys.flatMap E.enc)[i*E.sz+j]?=(E.enc y)[j]?
 | [],i,y,h,_,_=>by simp at h
 | z::ys,0,y,h,j,hj=>by
  simp at h;subst h
  rw[List.flatMap_cons,Nat.zero_mul,Nat.zero_add,List.getElem?_append_left (by rw[E.len];exact hj)]
 | z::ys,i+1,y,h,j,hj=>by
  simp at h
  rw[List.flatMap_cons,List.getElem?_append_right (by rw[E.len,Nat.add_mul];omega),E.len]
  rw[show (i+1)*E.sz+j-E.sz=i*E.sz+j by rw[Nat.add_mul];omega]
  exact Enc.flat_get E ys i y h j hj
theorem Enc.flat_split {α:Type}(E:Enc α)(ys:List α)(m:Nat)(u:Value)(h:(ys.flatMap E.enc)[m]?=some u) :
    ∃i j y,m=i*E.sz+j/\j<E.sz/\ys[i]?=some y/\(E.enc y)[j]?=some u:=by
  have O:m<ys.length*E.sz:=by rw[<-E.flat_len];exact(List.getElem?_eq_some_iff.1 h).1
  have D:m / E.sz<ys.length:=Nat.div_lt_of_lt_mul (by rw[Nat.mul_comm];exact O)
  have I:m % E.sz<E.sz:=Nat.mod_lt _ E.pos
  have e:m=m / E.sz*E.sz+m % E.sz:=by rw[Nat.mul_comm];exact(Nat.div_add_mod m E.sz).symm
  refine⟨m / E.sz,m % E.sz,ys[m / E.sz],e,I,List.getElem?_eq_getElem D,?_⟩
  have:=E.flat_get ys (m / E.sz) ys[m / E.sz] (List.getElem?_eq_getElem D) (m % E.sz) I
  rw[<-this,<-e];exact h
def Sl {α:Type}(E:Enc α)(w:World)(v:Value)(ys:List α):Prop:=
  ∃A c,v=.slice A ys.length c/\ys.length<=c/\c<=maxLen/\∀i y,ys[i]?=some y->∃ad,A=some ad/\Cells w (ad.add (i*E.sz)) (E.enc y)
def Own {α:Type}(E:Enc α)(T:TypeId)(base:Nat)(w:World)(v:Value)(ys:List α):Prop:=
  (v=.slice none 0 0/\ys=[])\/
  ∃g cap cur,v=.slice (some ⟨g,0,none⟩) ys.length cap/\base<=g/\w.heap[g]?=some (.cells cur T (0,0))/\ys.length<=cap/\cap<=maxLen/\cap*E.sz<=cur.size/\
    cur.toList.take (ys.length*E.sz)=ys.flatMap E.enc
def z0u:Value->List Nat
  | .slice (some a) _ _=>[a.block]
  | _=>[]
section
variable {α:Type} {E:Enc α} {T:TypeId} {base:Nat} {w w':World} {v:Value} {ys zs:List α} {S:List Nat}
theorem z6o (g o j:Nat):(⟨g,o,none⟩:Addr).add j=⟨g,o+j,none⟩:=by unfold Addr.add;split<;>simp_all
theorem Sl.fr (h:Sl E w v ys)(hf:Fr S w w')(hn:∀k∈S,k∉z0u v:=by simp[z0u]<;>omega):Sl E w' v ys:=by
 obtain⟨A,c,rfl,D,I,O⟩:=h;refine⟨A,c,rfl,D,I,λi y hy=>?_⟩;obtain⟨ad,rfl,Z⟩:=O i y hy;exact⟨ad,rfl,Z.fr hf (by rw[z6e];exact λe=>hn _ e (by simp[z0u]))⟩
theorem Sl.ext (h:Sl E w v ys)(hf:Fr [] w w'):Sl E w' v ys:=h.fr hf sp0
theorem Sl.nil (w:World):Sl E w (.slice none 0 0) []:=⟨none,0,rfl,Nat.le_refl _,Nat.zero_le _,λi y h=>by simp at h⟩
theorem Own.sl (h:Own E T base w v ys):Sl E w v ys:=by
 rcases h with ⟨rfl,rfl⟩|⟨g,cap,cur,rfl,_,hg,hc,hm,hs,ht⟩
 exact Sl.nil w;refine⟨_,cap,rfl,hc,hm,λi y Z=>⟨_,rfl,λj u O=>?_⟩⟩;have hj:j<E.sz:=by rw[<-E.len y];exact(List.getElem?_eq_some_iff.1 O).1
 have hi:i<ys.length:=(List.getElem?_eq_some_iff.1 Z).1;have D:=E.flat_get ys i y Z j hj;rw[<-ht]at D;have I:i*E.sz+j<ys.length*E.sz:=by
  have:(i+1)*E.sz<=ys.length*E.sz:=Nat.mul_le_mul_right _ hi;rw[Nat.add_mul]at this;omega
 rw[List.getElem?_take,if_pos I]at D;rw[y0h,z6o,Nat.zero_add,cell_of_row w g _ cur T (0,0) hg,<-Array.getElem?_toList,D];exact O
theorem Own.fr (h:Own E T base w v ys)(hf:Fr S w w')(hn:∀k∈S,k∉z0u v:=by simp[z0u]<;>omega):Own E T base w' v ys:=by
 rcases h with ⟨rfl,rfl⟩|⟨g,cap,cur,rfl,I,D,r⟩
 exact .inl ⟨rfl,rfl⟩;refine .inr ⟨g,cap,cur,rfl,I,?_,r⟩;rw[hf.block g (Array.getElem?_eq_some_iff.1 D).1 (λe=>hn _ e (by simp[z0u]))];exact D
theorem Own.ext (h:Own E T base w v ys)(hf:Fr [] w w'):Own E T base w' v ys:=h.fr hf sp0
theorem Own.nil (w:World):Own E T base w (.slice none 0 0) []:=.inl ⟨rfl,rfl⟩
theorem Own.low {b':Nat}(h:Own E T base w v ys)(hb:b'<=base):Own E T b' w v ys:=by
 rcases h with h|⟨g,cap,cur,D,I,r⟩
 exact .inl h;exact .inr ⟨g,cap,cur,D,Nat.le_trans hb I,r⟩
theorem Own.blk (h:Own E T base w v ys):∀k∈z0u v,base<=k/\k<w.heap.size:=by
 rcases h with ⟨rfl,rfl⟩|⟨g,cap,cur,rfl,I,O,r⟩
 intro k D;cases D;intro k D;simp[z0u]at D;subst D;exact⟨I,(Array.getElem?_eq_some_iff.1 O).1⟩
theorem Sl.blk (h:Sl E w v ys)(hp:ys≠[]):∀k∈z0u v,k<w.heap.size:=by
 obtain⟨A,c,rfl,Z,h2,I⟩:=h;match ys,hp with
 | y::r,_=>
  obtain⟨ad,rfl,O⟩:=I 0 y U;intro k D;simp[z0u]at D;subst D;have hl:=E.len y;have hp:=E.pos;match he:E.enc y with
  | []=>rw[he]at hl;simp at hl;omega
  | u::_=>
   have:=O 0 u (by rw[he];rfl);have:=block_lt_of_cell this;rwa [z6e,z6e]at this
theorem Sl.form (h:Sl E w v ys):∃A c,v=.slice A ys.length c/\ys.length<=c:=let ⟨A,c,h1,h2,_⟩:=h;⟨A,c,h1,h2⟩
theorem Sl.len_le (h:Sl E w v ys):ys.length<=maxLen:=let ⟨_,_,_,h2,h3,_⟩:=h;Nat.le_trans h2 h3
theorem Sl.flat (h:Sl E w v ys):∃A c,v=.slice A ys.length c/\ys.length<=c/\c<=maxLen/\(ys≠[]->∃ad,A=some ad/\Cells w ad (ys.flatMap E.enc)):=by
 obtain⟨A,c,rfl,Z,h2,I⟩:=h;refine⟨A,c,rfl,Z,h2,λhp=>?_⟩;match ys,hp with
 | y::r,_=>
  obtain⟨ad,rfl,_⟩:=I 0 y U;refine⟨ad,rfl,λm u hu=>?_⟩;obtain⟨i,j,z,rfl,hj,hz,D⟩:=E.flat_split _ m u hu;obtain⟨O,e,hc⟩:=I i z hz;cases e;have:=hc j u D;rwa [y0h]at this
theorem Sl.take (h:Sl E w v ys){A:Option Addr}{n c:Nat}(hv:v=.slice A n c){m:Nat}(hm:m<=ys.length){B:Option Addr}{c':Nat}(I:m<=c')(hM:c'<=maxLen)(hB:0<m->B=A):Sl E w (.slice B m c') (ys.take m):=by
 obtain⟨A',c1,O,h1,h2,Z⟩:=h;rw[hv]at O;cases O;have hl:(ys.take m).length=m:=by simp;omega
 refine⟨B,c',by rw[hl],by rw[hl];exact I,hM,λi y D=>?_⟩;rw[List.getElem?_take]at D;split at D;rename_i hi;rw[hB oo];exact Z i y D;cases D
theorem Sl.drop (h:Sl E w v ys){A:Option Addr}{n c:Nat}(hv:v=.slice A n c){m:Nat}(hm:m<=ys.length){B:Option Addr}{c':Nat}(D:ys.length-m<=c')(hM:c'<=maxLen)(hB:m<ys.length->B=A.map (·.add (m*E.sz))) :
    Sl E w (.slice B (ys.length-m) c') (ys.drop m):=by
  obtain⟨A',c1,O,h1,h2,Z⟩:=h
  rw[hv]at O;cases O
  refine⟨B,c',by rw[List.length_drop],by rw[List.length_drop];exact D,hM,λi y I=>?_⟩
  rw[List.getElem?_drop]at I
  have a0:m+i<ys.length:=(List.getElem?_eq_some_iff.1 I).1
  obtain⟨ad,rfl,hc⟩:=Z _ y I
  refine⟨ad.add (m*E.sz),by rw[hB oo];rfl,?_⟩
  rw[y0h,<-Nat.add_mul];exact hc
theorem Own.take (h:Own E T base w v ys){A:Option Addr}{n c:Nat}(hv:v=.slice A n c){m:Nat}(D:m<=ys.length){c':Nat}(O:c'<=c)(hmc:m<=c'):Own E T base w (.slice A m c') (ys.take m):=by
 rcases h with ⟨rfl,rfl⟩|⟨g,cap,cur,rfl,hb,hg,h1,h2,Z,h4⟩
 cases hv;simp at D;subst D;exact .inl ⟨by rw[Nat.le_zero.1 O],rfl⟩;cases hv;have hl:(ys.take m).length=m:=by simp;omega
 refine .inr ⟨g,c',cur,by rw[hl],hb,hg,by rw[hl];exact hmc,oo,Nat.le_trans (Nat.mul_le_mul_right _ O) Z,?_⟩;have I:(cur.toList.take (ys.length*E.sz)).take (m*E.sz)=(ys.flatMap E.enc).take (m*E.sz):=by rw[h4]
 rw[List.take_take,Nat.min_eq_left (Nat.mul_le_mul_right _ D)]at I;rw[hl,I];clear I h4 Z h2 h1 hg hl O hmc;induction ys generalizing m with
 | nil=>simp
 | cons y ys ih=>
  match m with
  | 0=>simp
  | m+1=>
   rw[List.take_succ_cons,List.flatMap_cons,List.flatMap_cons,Nat.add_mul,Nat.one_mul,Nat.add_comm,<-E.len y,List.take_length_add_append,E.len y,ih (by simp at D;omega)]
theorem z9y {P:Program}(t ty e:TypeId)(i:TypeInfo)(Z:P.underlying t=some (.slice e))(I:P.info? e=some i)(A:Option Addr)(n cap c:Nat)(D:n<=cap)(O:0<n->A≠none) :
    (Builtin.append_ #[t,t] ty #[.slice A n cap,.slice none 0 c]).run P w=.ok (.slice A n cap) w:=by
  cases A with
  | none=>simp[Builtin.append_,run_underlying Z,sizeOf,typeInfo,I,Builtin.lenOf,Builtin.firstCells,D]
  | some a=>simp[Builtin.append_,run_underlying Z,sizeOf,typeInfo,I,Builtin.lenOf,Builtin.firstCells,D,storeCells]
theorem v3i {P:Program}(t ty:TypeId)(i:TypeInfo)(z:Value)(O:Nat)(ht:P.underlying t=some (.slice T))(hi:P.info? T=some i)(hz:i.zero=some z)(D:i.size=E.sz)(b4:i.bytes=O)
    (hzs:z.cells.size=E.sz) {x:Value} (ho:Own E T base w v ys) (hx:Sl E w x zs) (hM:(ys.length+zs.length)<=maxLen) (hb:(ys.length+zs.length)*O<=140737488355328) (hbase:base<=w.heap.size) :
    ∃v' w',(Builtin.append_ #[t,t] ty #[v,x]).run P w=.ok v' w'/\Own E T base w' v' (ys++zs)/\Fr (z0u v) w w'/\(v'=v\/z0u v'=z0u v\/z0u v'=[w.heap.size]):=by
  subst b4
  obtain⟨A,c,rfl,b9,c0,a2⟩:=hx.flat
  have Z:∀(a1:Nat),
      Own E T base (w.drew.alloc (.cells ((ys.flatMap E.enc).toArray++(zs.flatMap E.enc).toArray++Builtin.zeroCells z.cells (grownCap w (ys.length+zs.length) a1 T-(ys.length+zs.length))) T))
        (.slice (some ⟨w.heap.size,0,none⟩) (ys.length+zs.length) (grownCap w (ys.length+zs.length) a1 T)) (ys++zs):=by
    intro a1
    have b6:=grownCap_ge w (ys.length+zs.length) a1 T
    have a0:=grownCap_le_maxLen w (ys.length+zs.length) a1 T hM
    refine .inr ⟨w.heap.size,_,_,by rw[List.length_append],hbase,heap_alloc_new w.drew _,by rw[List.length_append];exact b6,a0,?_,?_⟩
    · simp only[Array.size_append,List.size_toArray,size_zeroCells,hzs,E.flat_len,<-Nat.add_mul]
      refine Nat.mul_le_mul_right _ ?_
      omega
    · rw[List.flatMap_append]
      simp only[Array.toList_append]
      rw[show (ys++zs).length*E.sz=(ys.flatMap E.enc++zs.flatMap E.enc).length by rw[@List.length_append _ (ys.flatMap E.enc) (zs.flatMap E.enc),E.flat_len,E.flat_len,List.length_append,Nat.add_mul]]
      exact List.take_left
  by_cases hzn:zs=[]
  · subst hzn
    rw[List.append_nil]
    refine⟨v,w,?_,ho,Fr.refl _ _,.inl U⟩
    rcases ho with ⟨rfl,rfl⟩|⟨g,cap,cur,rfl,a4,hg,a3,a0,a6,I⟩
    · cases A with
      | none=>exact z9y t ty T i ht hi _ _ _ _ (Nat.le_refl _) sp0
      | some a=>simp[Builtin.append_,run_underlying ht,sizeOf,typeInfo,hi,Builtin.lenOf,Builtin.firstCells,loadCells,loadCellsFrom]
    · cases A with
      | none=>exact z9y t ty T i ht hi _ _ _ _ a3 sp0
      | some a=>simp[Builtin.append_,run_underlying ht,sizeOf,typeInfo,hi,Builtin.lenOf,Builtin.firstCells,loadCells,loadCellsFrom,a3,storeCells]
  · obtain⟨ad,rfl,a5⟩:=a2 hzn
    have b2:0<zs.length:=List.length_pos_iff.2 hzn
    have b7:ys.length+zs.length<=9223372036854775807:=by simp only[maxLen]at hM;omega
    rcases ho with ⟨rfl,rfl⟩|⟨g,cap,cur,rfl,a4,hg,a3,a0,a6,I⟩
    · have hr:=run_append_nil (P:=P) w t ty T i z ht hi hz ad zs.length c (zs.flatMap E.enc) (by rw[E.flat_len,D]) a5 b2 (by simp at b7;omega) (by have b3:=hb;simp only[List.length_nil,Nat.zero_add]at b3;omega)
      have b0:=Z 0
      simp only[List.flatMap_nil,List.length_nil,Nat.zero_add,List.nil_append,Array.empty_append]at b0 ⊢
      exact⟨_,_,hr,b0,⟨rfl,rfl,rfl,sp0,λk hk _=>Below.heap_alloc w.drew _ k hk⟩,.inr (.inr U)⟩
    · have b1:Own E T base w (.slice (some ⟨g,0,none⟩) ys.length cap) ys:=.inr ⟨g,cap,cur,rfl,a4,hg,a3,a0,a6,I⟩
      by_cases hroom:ys.length+zs.length<=cap
      · have a9:ys.length*i.size+(zs.flatMap E.enc).length<=cur.size:=by
          rw[E.flat_len,D,<-Nat.add_mul]
          exact Nat.le_trans (Nat.mul_le_mul_right _ hroom) a6
        have hr:=run_append_room (P:=P) w t ty T i ht hi g ys.length cap cur hg ad zs.length c (zs.flatMap E.enc) (by rw[E.flat_len,D]) a5 (E.flat_one zs) hroom a9
        refine⟨_,_,hr,.inr ⟨g,cap,_,by rw[List.length_append],a4,setRow_heap w g cur _ T _ hg,by rw[List.length_append];exact hroom,a0,?_,?_⟩,Fr.setRow w g _,.inr (.inl U)⟩
        · simp only[List.size_toArray,List.length_append,List.length_take,List.length_drop,Array.length_toList]
          omega
        · rw[D,I,List.flatMap_append,List.length_append,Nat.add_mul]
          rw[show ys.length*E.sz+zs.length*E.sz=(ys.flatMap E.enc++zs.flatMap E.enc).length by rw[List.length_append,E.flat_len,E.flat_len]]
          exact List.take_left
      · have a7:=b1.sl.flat
        have a8:∀j u,(ys.flatMap E.enc)[j]?=some u->w.cell? ((⟨g,0,none⟩:Addr).add j)=some u:=by
          intro j u hu
          by_cases hy:ys=[]
          · subst hy;simp at hu
          · obtain⟨A',c',e,_,_,hh⟩:=a7
            obtain⟨b8,e',b5⟩:=hh hy
            cases e;cases e'
            exact b5 j u hu
        have hr:=run_append_grow (P:=P) w t ty T i z ht hi hz ⟨g,0,none⟩ ys.length cap (ys.flatMap E.enc) (by rw[E.flat_len,D]) a8 ad zs.length c (zs.flatMap E.enc) (by rw[E.flat_len,D]) a5 oo oo (growslice_fits oo hb)
        exact⟨_,_,hr,Z cap,⟨rfl,rfl,rfl,sp0,λk hk _=>Below.heap_alloc w.drew _ k hk⟩,.inr (.inr U)⟩
end
end Go.Lw
namespace Go.Lw
open Go.RowKit
def z2a (P:Program)(t:TypeId):Prop:=∀w:World,(isAgg t).run P w=.ok false w
def z4i (P:Program)(t:TypeId)(n:Nat):Prop:=(∀w:World,(isAgg t).run P w=.ok true w)/\∀w:World,(sizeOf t).run P w=.ok n w
def z1r (P:Program)(t:TypeId)(n:Nat):Prop:=∀w:World,(sizeOf t).run P w=.ok n w
def z0y (P:Program)(s f off:Nat):Prop:=∀(ad:Addr) (w:World),(Instr.fieldAt s (.pointer (some ad)) f).run P w=.ok (.pointer (some (ad.add off))) w
def CallOf (P:Program)(f:FuncId):Prop:=∀(args:Array Value) (w:World),(callFunc f args).run P w=.ok (.enter f args) w
structure ElemOf {α:Type} (P:Program) (t T:TypeId) (E:Enc α) (bytes:Nat):Prop where
  und:P.underlying t=some (.slice T)
  info:∃i z,P.info? T=some i/\i.zero=some z/\i.size=E.sz/\i.bytes=bytes/\z.cells.size=E.sz
theorem ElemOf.mk' {α:Type}{P:Program}{t T:TypeId}{E:Enc α}{D:Nat}{z:Value}(h1:P.underlying t=some (.slice T))(I:(P.info? T).map (λi=>(i.zero,i.size,i.bytes))=some (some z,E.sz,D))(O:z.cells.size=E.sz):ElemOf P t T E D:=
 ⟨h1,let ⟨i,a,b,c,d⟩:=info_parts I;⟨i,z,a,b,c,d,O⟩⟩
theorem CallOf.mk' {P:Program}{f:FuncId}{fn:Func}(hf:P.funcs[f]?=some fn)(hn:(fn.name == "runtime.NumGoroutine")=false)(hb:fn.body.isNone=false):CallOf P f:=
 λD w=>by
  have I:fn.name≠ "runtime.NumGoroutine" :=by simpa using hn
  have O:fn.body≠none:=by intro e;rw[e]at hb;cases hb
  simp[callFunc,hf,I,O]
section
variable {P:Program} {a:Act} {n:Nat} {L:List (Nat×Value)} {ds:List Nat} {w w':World} {Q:Exit->Act->World->Prop} {ops:Array Oper} {rest:List Oper}
variable {d:Nat} {ty:TypeId} {pos:String} {after:Array Edge} {v u:Value} {x y z:Operand} {t t' T:TypeId} {k k':IntKind} {i j:Int} {b c:Bool} {l l':List UInt8}
theorem x5h (I:ev L x=some (S l))(O:ev L y=some (S l'))(hb:l.length+l'.length<=9223372036854775807)(hn:Nat.blt d n=true)(q:WL P ops Q rest n ds w ((d,S (l++l'))::L)):WL P ops Q (⟨some d,.binOp .add t x y t',ty,pos,after,none⟩::rest) n ds w L:=λa h=>z2m h U hn (by
    have D:=run_string_add_sum (P:=P) w ⟨l.toArray⟩ ⟨l'.toArray⟩ (by simpa[ByteArray.size] using hb)
    rw[ByteArray.mk_append_mk]at D
    simp[execOp,h.eval I,h.eval O,S,eqGuard_add,binOp_string_add,D]) q
theorem k1r (D:ev L x=some (S l))(I:ev L y=some (S l'))(hn:Nat.blt d n=true)(q:WL P ops Q rest n ds w ((d,.bool (decide (l=l')))::L)):WL P ops Q (⟨some d,.binOp .eql t x y t',ty,pos,after,none⟩::rest) n ds w L:=λa h=>z2m h U hn (by simp[execOp,h.eval D,h.eval I,S,eqGuard_at_string,binOp_string_eql];by_cases e:l=l'<;>simp[e]) q
variable {A:Option Addr} {m cp:Nat}
theorem lnS (I:ev L x=some (.slice A m cp))(D:P.underlying t=some (.slice T))(q:WL P ops Q rest n ds w ((d,.int .i64 (m:Int))::L))(hn:Nat.blt d n=true:=by exact U):WL P ops Q (⟨some d,.call ⟨.builtin .len,#[x],#[t]⟩,ty,pos,after,none⟩::rest) n ds w L:=λa h=>z2m h U hn (by
    rw[z2d];unfold builtin
    simp[h.eval I,Builtin.len_,run_underlying D]
    rfl) q
theorem u8o (I:ev L x=some (.slice A m cp))(D:P.underlying t=some (.slice T))(hn:Nat.blt d n=true)(q:WL P ops Q rest n ds w ((d,.int .i64 (cp:Int))::L)):WL P ops Q (⟨some d,.call ⟨.builtin .cap,#[x],#[t]⟩,ty,pos,after,none⟩::rest) n ds w L:=λa h=>z2m h U hn (by
    rw[z2d];unfold builtin
    simp[h.eval I,Builtin.cap_,run_underlying D]
    rfl) q
theorem j6m {p:Nat}{α:Type}{E:Enc α}{D:Nat}(hx:ev L x=some (.slice A m cp))(hz:ev L z=some (.int k' j))(O:ElemOf P t T E D)(Z:0<=j)(h2:j<=cp)(hp:j.toNat=p)(hn:Nat.blt d n=true)(q:WL P ops Q rest n ds w ((d,.slice A p cp)::L)):WL P ops Q (⟨some d,.slice t x none (some z) none,ty,pos,after,none⟩::rest) n ds w L:=λa h=>by
  subst hp
  obtain⟨a1,zv,I,_,a0,_⟩:=O.info
  exact z2m h U hn (by
    have hA:Option.map (λx=>Addr.add x 0) A=A:=by cases A<;>simp[Addr.add]
    simp[execOp,h.eval hx,h.eval hz,Instr.sliceAt,Instr.slice,run_underlying O.und,Instr.sliceBounds,Instr.sliceBound,asIntOf,Z,h2,sizeOf,typeInfo,I,hA]) q
theorem v9x {p p':Nat}{α:Type}{E:Enc α}{D:Nat}(hx:ev L x=some (.slice A m cp))(hy:ev L y=some (.int k i))(hz:ev L z=some (.int k' j))(he:ElemOf P t T E D)(h0:0<=i)(h1:i<=j)(h2:j<=cp)(hp:i.toNat=p)(O:j.toNat=p')(hn:Nat.blt d n=true)(q:WL P ops Q rest n ds w ((d,.slice (if cp=p then A else A.map (·.add (p*E.sz))) (p'-p) (cp-p))::L)):WL P ops Q (⟨some d,.slice t x (some y) (some z) none,ty,pos,after,none⟩::rest) n ds w L:=λa h=>by
  subst hp O
  obtain⟨a0,zv,I,_,Z,_⟩:=he.info
  exact z2m h U hn (by
    have h3:0<=j:=by omega
    have h4:i<=((j.toNat:Nat):Int):=by omega
    simp[execOp,h.eval hx,h.eval hy,h.eval hz,Instr.sliceAt,Instr.slice,run_underlying he.und,Instr.sliceBounds,Instr.sliceBound,asIntOf,h0,h2,h3,h4,sizeOf,typeInfo,I,Z]
    intro hc;omega) q
theorem v7e {p p':Nat}{α:Type}{E:Enc α}{D:Nat}{o:Operand}{k'':IntKind}{r:Int}(hx:ev L x=some (.slice A m cp))(hz:ev L z=some (.int k' j))(ho:ev L o=some (.int k'' r))(Z:ElemOf P t T E D)(hp:j.toNat=p)(O:r.toNat=p')(hn:Nat.blt d n=true)(q:WL P ops Q rest n ds w ((d,.slice A p p')::L))(h0:0<=j:=by omega)(h1:j<=r:=by omega)(h2:r<=cp:=by omega):WL P ops Q (⟨some d,.slice t x none (some z) (some o),ty,pos,after,none⟩::rest) n ds w L:=λa h=>by
  subst hp O
  obtain⟨a1,zv,I,_,a0,_⟩:=Z.info
  exact z2m h U hn (by
    have h3:0<=r:=by omega
    have h4:j<=((r.toNat:Nat):Int):=by omega
    have hA:Option.map (λx=>Addr.add x 0) A=A:=by cases A<;>simp[Addr.add]
    simp[execOp,h.eval hx,h.eval hz,h.eval ho,Instr.sliceAt,Instr.slice,run_underlying Z.und,Instr.sliceBounds,Instr.sliceBound,asIntOf,h0,h2,h3,h4,sizeOf,typeInfo,I,hA]
    intro hc;omega) q
def Blk (w:World)(g:Nat)(T:TypeId)(cs:List Value):Prop:=w.heap[g]?=some (.cells cs.toArray T (0,0))
theorem Blk.lt {g:Nat}{cs:List Value}(h:Blk w g T cs):g<w.heap.size:=(Array.getElem?_eq_some_iff.1 h).1
theorem Blk.cell {g:Nat}{cs:List Value}(h:Blk w g T cs)(o:Nat):w.cell? ⟨g,o,none⟩=cs[o]?:=by
 rw[cell_of_row w g o cs.toArray T (0,0) h];simp
theorem Blk.cells {g:Nat}{cs:List Value}(h:Blk w g T cs):Cells w ⟨g,0,none⟩ cs:=λj u D=>by rw[z6o,Nat.zero_add,h.cell];exact D
theorem Blk.fr {g:Nat}{cs:List Value}{S:List Nat}(h:Blk w g T cs)(hf:Fr S w w')(hn:g∉S:=by simp[z0u]<;>omega):Blk w' g T cs:=(hf.block g h.lt hn).trans h
theorem Blk.ext {g:Nat}{cs:List Value}(h:Blk w g T cs)(hf:Fr [] w w'):Blk w' g T cs:=h.fr hf sp0
theorem x2p {ad:Addr}(h:AgM ds a n L)(O:ev L x=some (.pointer (some ad)))(D:w.cell? ad=some v)(I:z2a P t)(hn:Nat.blt d n=true)(q:∀a,AgM ds a n ((d,v)::L)->wpList P ops Q rest a w) :
    wpList P ops Q (⟨some d,.load t x,ty,pos,after,none⟩::rest) a w:=
  z2m h U hn (by simp[execOp,h.eval O,Instr.loadAt,Instr.sureAddr,loadVar,I w,D]) q
theorem z1v {ad:Addr}{cs:List Value}(h:AgM ds a n L)(O:ev L x=some (.pointer (some ad)))(I:Cells w ad cs)(D:z4i P t cs.length)(hn:Nat.blt d n=true)(q:∀a,AgM ds a n ((d,.agg cs.toArray)::L)->wpList P ops Q rest a w) :
    wpList P ops Q (⟨some d,.load t x,ty,pos,after,none⟩::rest) a w:=
  z2m h U hn (by simp[execOp,h.eval O,Instr.loadAt,Instr.sureAddr,loadVar,D.1 w,D.2 w,run_loadCells_list w ad cs I]) q
theorem z1t {ad:Addr}{cs:List Value}(O:ev L x=some (.pointer (some ad)))(D:Cells w ad cs)(I:z4i P t cs.length)(q:WL P ops Q rest n ds w ((d,.agg cs.toArray)::L))(hn:Nat.blt d n=true:=by exact U):WL P ops Q (⟨some d,.load t x,ty,pos,after,none⟩::rest) n ds w L:=λa h=>z1v h O D I hn q
theorem y4x {ad:Addr}{f off:Nat}(h:AgM ds a n L)(D:ev L x=some (.pointer (some ad)))(hf:z0y P t f off)(hn:Nat.blt d n=true)(q:∀a,AgM ds a n ((d,.pointer (some (ad.add off)))::L)->wpList P ops Q rest a w) :
    wpList P ops Q (⟨some d,.fieldAddr t x f,ty,pos,after,none⟩::rest) a w:=
  z2m h U hn (by simp[execOp,h.eval D,hf ad w]) q
theorem fad {ad:Addr}{f off:Nat}(D:ev L x=some (.pointer (some ad)))(hf:z0y P t f off)(q:WL P ops Q rest n ds w ((d,.pointer (some (ad.add off)))::L))(hn:Nat.blt d n=true:=by exact U):WL P ops Q (⟨some d,.fieldAddr t x f,ty,pos,after,none⟩::rest) n ds w L:=λa h=>y4x h D hf hn q
theorem nlc {ad:Addr}(D:ev L x=some (.pointer (some ad)))(q:WL P ops Q rest n ds w ((d,.pointer (some ad))::L))(hn:Nat.blt d n=true:=by exact U):WL P ops Q (⟨some d,.nilCheck x,ty,pos,after,none⟩::rest) n ds w L:=λa h=>z2m h U hn (by simp[execOp,h.eval D]) q
theorem v0y {g o:Nat}{cs:List Value}(h:AgM ds a n L)(hx:ev L x=some (.pointer (some ⟨g,o,none⟩)))(hy:ev L y=some v)(hb:Blk w g T cs)(ho:Nat.blt o cs.length=true)(h1:v.oneCell'=true)(Z:v.cells=#[v])(hs:z1r P t 1)
    (q:∀w',Blk w' g T (cs.set o v)->Fr [g] w w'->w'.heap.size=w.heap.size->∀a,AgM ds a n L->wpList P ops Q rest a w'):wpList P ops Q (⟨none,.store t x y,ty,pos,after,none⟩::rest) a w:=by
  have O:o<cs.length:=by simpa[Nat.blt_eq] using ho
  have D:w.cell? ⟨g,o,none⟩=some cs[o]:=by rw[hb.cell,List.getElem?_eq_getElem O]
  have I:w.frozen? ⟨g,o,none⟩=false:=frozen_of_row w g o cs.toArray T hb
  refine z9v h U U (w':=w.setCell ⟨g,o,none⟩ v) ?_ (q _ ?_ (Fr.setCell w ⟨g,o,none⟩ v) sp0)
  · simp[execOp,h.eval hx,h.eval hy,Instr.storeAt,Instr.sureAddr,storeVar,hs w,Z,storeCells,Addr.add_zero',run_store P w _ v _ h1,D,I]
  · unfold Blk
    rw[heap_setCell_same w g o cs.toArray T v hb]
    simp
theorem y6u {cs:List Value}(h:AgM ds a n L)(I:ev L x=some v)(D:v.cells=cs.toArray)(hn:Nat.blt d n=true)
    (q:∀w',Blk w' w.heap.size T cs->Fr [] w w'->w'.heap.size=w.heap.size+1->∀a,AgM ds a n ((d,.pointer (some ⟨w.heap.size,0,none⟩))::L)->wpList P ops Q rest a w') :
    wpList P ops Q (⟨some d,.box T x,ty,pos,after,none⟩::rest) a w:=
  z2m h U hn (w':=w.alloc (.cells cs.toArray T)) (by simp[execOp,h.eval I,Instr.box,newVar,newRow,D]) (q _ (heap_alloc_new w _) (Fr.alloc [] w _) sp0)
theorem k3g {cs:List Value}(I:ev L x=some v)(D:v.cells=cs.toArray)(hn:Nat.blt d n=true)(q:∀w',Blk w' w.heap.size T cs->Fr [] w w'->w'.heap.size=w.heap.size+1->WL P ops Q rest n ds w' ((d,.pointer (some ⟨w.heap.size,0,none⟩))::L)):WL P ops Q (⟨some d,.box T x,ty,pos,after,none⟩::rest) n ds w L:=λa h=>y6u h I D hn q
theorem z1f {cs:List Value}(h:AgM ds a n L)(I:∀w:World,(zeroValue T).run P w=.ok v w)(D:v.cells=cs.toArray)(q:∀w',Blk w' w.heap.size T cs->Fr [] w w'->w'.heap.size=w.heap.size+1->∀a,AgM ds a n ((d,.pointer (some ⟨w.heap.size,0,none⟩))::L)->wpList P ops Q rest a w')(hn:Nat.blt d n=true:=by exact U) :
    wpList P ops Q (⟨some d,.alloc T,ty,pos,after,none⟩::rest) a w:=
  z2m h U hn (w':=w.alloc (.cells cs.toArray T)) (by simp[execOp,Instr.alloc,I w,newVar,newRow,D]) (q _ (heap_alloc_new w _) (Fr.alloc [] w _) sp0)
theorem j3o {cs:List Value}(I:∀w:World,(zeroValue T).run P w=.ok v w)(D:v.cells=cs.toArray)(hn:Nat.blt d n=true)(q:∀w',Blk w' w.heap.size T cs->Fr [] w w'->w'.heap.size=w.heap.size+1->WL P ops Q rest n ds w' ((d,.pointer (some ⟨w.heap.size,0,none⟩))::L)):WL P ops Q (⟨some d,.alloc T,ty,pos,after,none⟩::rest) n ds w L:=λa h=>z1f h I D q (hn:=hn)
theorem xt {vs:Array Value}{m:Nat}(H0:(ev L x,vs[m]?)=(some (.tuple vs),some v))(q:WL P ops Q rest n ds w ((d,v)::L))(hn:Nat.blt d n=true:=by exact U):WL P ops Q (⟨some d,.extract x m,ty,pos,after,none⟩::rest) n ds w L:=let⟨I,D⟩:=qi2 H0;λa h=>z2m h U hn (by simp[execOp,h.eval I,Instr.extract,D]) q
theorem z0n {f:FuncId}{xs:List Operand}{vs:List Value}{ts:Array TypeId}{Φ:Value->World->Prop}(h:AgM ds a n L)(I:evs L xs vs)(hf:CallOf P f)(D:Rets P f vs.toArray w Φ)(q:∀v w',Φ v w'->∀a,AgM ds a n ((d,v)::L)->wpList P ops Q rest a w')(hn:Nat.blt d n=true:=by exact U):wpList P ops Q (⟨some d,.call ⟨.value (.func f),xs.toArray,ts⟩,ty,pos,after,none⟩::rest) a w:=
  v2g (w':=w) h U U hn (by
    rw[execOp_call_go]
    simp only[List.map_toArray,h.evals I,List.append_toArray,List.nil_append,List.append_nil]
    exact hf _ _) D q
theorem cl {f:FuncId}{xs:List Operand}{vs:List Value}{ts:Array TypeId}{Φ:Value->World->Prop}(I:evs L xs vs)(hf:CallOf P f)(D:Rets P f vs.toArray w Φ)(hn:Nat.blt d n=true)(q:∀v w',Φ v w'->WL P ops Q rest n ds w' ((d,v)::L)):WL P ops Q (⟨some d,.call ⟨.value (.func f),xs.toArray,ts⟩,ty,pos,after,none⟩::rest) n ds w L:=λa h=>z0n h I hf D q (hn:=hn)
theorem z3g {α:Type}{E:Enc α}{ys zs:List α}{D base:Nat}(h:AgM ds a n L)(H1:(ev L x,ev L y)=(some u,some v))(ho:Own E T base w u ys)(hs:Sl E w v zs)(Z:ElemOf P t T E D)(hM:ys.length+zs.length<=maxLen)(hb:(ys.length+zs.length)*D<=140737488355328)(q:∀I w',Own E T base w' I (ys++zs)->Fr (z0u u) w w'->(I=u\/z0u I=z0u u\/z0u I=[w.heap.size])->∀a,AgM ds a n ((d,I)::L)->wpList P ops Q rest a w')(hbase:base<=w.heap.size:=by omega)(hn:Nat.blt d n=true:=by exact U) :
    wpList P ops Q (⟨some d,.call ⟨.builtin .append,#[x,y],#[t,t]⟩,ty,pos,after,none⟩::rest) a w:=by
  obtain⟨hx,hy⟩:=qi2 H1
  obtain⟨O,zv,h1,h2,h3,h4,h5⟩:=Z.info
  obtain⟨I,w',hr,r1,r2,r3⟩:=v3i (P:=P) t ty O zv D Z.und h1 h2 h3 h4 h5 ho hs hM hb hbase
  refine z2m h U hn (w':=w') ?_ (q I w' r1 r2 r3)
  rw[z2d];unfold builtin
  simp only[List.map_toArray,List.map_cons,List.map_nil,h.eval hx,h.eval hy,Sem.run_bind,hr,Result.andThen_ok,Sem.run_pure]
theorem z1x {α:Type}{E:Enc α}{ys zs:List α}{D base:Nat}(H0:(ev L x,ev L y)=(some u,some v))(Z:Own E T base w u ys)(hs:Sl E w v zs)(O:ElemOf P t T E D)(q:∀I w',Own E T base w' I (ys++zs)->Fr (z0u u) w w'->(I=u\/z0u I=z0u u\/z0u I=[w.heap.size])->WL P ops Q rest n ds w' ((d,I)::L))(hM:ys.length+zs.length<=maxLen:=by unfold maxLen;simp only[List.length_cons,List.length_nil];omega)(hb:(ys.length+zs.length)*D<=140737488355328:=by simp only[List.length_cons,List.length_nil];omega)(hbase:base<=w.heap.size:=by omega)(hn:Nat.blt d n=true:=by exact U):WL P ops Q (⟨some d,.call ⟨.builtin .append,#[x,y],#[t,t]⟩,ty,pos,after,none⟩::rest) n ds w L:=let⟨hx,hy⟩:=qi2 H0;λa h=>z3g h (pi2 hx hy) Z hs O hM hb q (hbase:=hbase) (hn:=hn)
theorem Sub.nil:Sub [] L:=trivial
theorem Sub.cons {t:Nat}{v:Value}{r:List (Nat×Value)}(h:Lw.look L t=some v)(D:Sub r L):Sub ((t,v)::r) L:=⟨h,D⟩
theorem argsOk.nil {args:Array Value}:argsOk args []:=trivial
theorem argsOk.cons {args:Array Value}{t:Nat}{v:Value}{r:List (Nat×Value)}(h:args[t]?=some v)(D:argsOk args r):argsOk args ((t,v)::r):=⟨h,D⟩
theorem z0g:evs L [] []:=trivial
theorem z0a {xs:List Operand}{vs:List Value}(h:ev L x=some v)(D:evs L xs vs):evs L (x::xs) (v::vs):=⟨h,D⟩
theorem z3f {K:Act->World->Prop}(h:K a w):Exit.then K Q .normal a w:=h
theorem u7l {id:Nat}(h:Q .normal a w):Exit.inBlock id Q .normal a w:=h
theorem u6w {K:Act->World->Prop}(h:Q .ret a w):Exit.then K Q .ret a w:=h
theorem x4y {K:Act->World->Prop}{id:Nat}(h:Q (.exit id) a w):Exit.then K Q (.exit id) a w:=h
theorem AgM.known {D:Nat}{b b':Bool}(h:AgM ds a n L)(hb:look L D=some (.bool b))(e:b=b'):AgM ds a n ((D,.bool b')::L):=
 ⟨h.dfr,h.size,λt v I=>by
  simp only[look]at I
  by_cases et:D=t
  ·subst et
   simp only[Nat.beq_refl,Bool.cond_true,Option.some.injEq]at I
   rw[<-I,<-e];exact h.at_ D _ hb
  rw[y4q et]at I;exact h.at_ t v I⟩
theorem x5c {D:Nat}{p G:Prop}{hp:Decidable p}(h:AgM ds a n L)(hb:look L D=some (.bool (decide p)))(I:p->AgM ds a n ((D,.bool true)::L)->G)(hf:¬p->AgM ds a n ((D,.bool false)::L)->G):G:=by
 by_cases e:p;exact I e (h.known hb (by simp[e]));exact hf e (h.known hb (by simp[e]))
theorem y8z {D:Nat}{p G:Prop}{hp:Decidable p}(h:AgM ds a n L)(hb:look L D=some (.bool (!decide p)))(I:¬p->AgM ds a n ((D,.bool true)::L)->G)(hf:p->AgM ds a n ((D,.bool false)::L)->G):G:=by
 by_cases e:p;exact hf e (h.known hb (by simp[e]));exact I e (h.known hb (by simp[e]))
theorem x5y {D:Nat}{b:Bool}{G:Prop}(h:AgM ds a n L)(hb:look L D=some (.bool b))(I:b=true->AgM ds a n ((D,.bool true)::L)->G)(hf:b=false->AgM ds a n ((D,.bool false)::L)->G):G:=by
 cases b;exact hf U (h.known hb U);exact I U (h.known hb U)
def y1v (ds:List Nat)(n r:Nat)(C:Prop)[Decidable C](L':List (Nat×Value))(w0:World):Exit->Act->World->Prop:=λe a w=>e=.normal/\w=w0/\AgM ds a n ((r,.bool (decide C))::L')
theorem x7s {id:Nat}{D:List Oper}{r:Nat}{L':List (Nat×Value)}(C:Prop)[Decidable C](h:AgM ds a n L)(O:Sub L' L)(h1:wpList P D.toArray (y1v ds n r C L' w) D a w)(I:∀a,AgM ds a n ((r,.bool (decide C))::L')->Q .normal a w) :
    (Code.region id D.toArray false).wp P Q a w:=
  wp_mono (wp_region_lit h1) (by rintro e a w ⟨rfl,rfl,h⟩;exact I a h)
theorem v0h {r:Nat}{L':List (Nat×Value)}{C:Prop}[Decidable C]{b:Bool}(h:AgM ds a n L)(D:look L r=some (.bool b))(hb:b=decide C)(I:Sub L' L):y1v ds n r C L' w .normal a w:=
 ⟨rfl,rfl,h.sub ⟨by rw[<-hb];exact D,I⟩⟩
theorem bt {C:Prop}{hC:Decidable C}(h:C):true=decide C:=(decide_eq_true h).symm
theorem bf {C:Prop}{hC:Decidable C}(h:¬C):false=decide C:=(decide_eq_false h).symm
theorem bi {p C:Prop}{hp:Decidable p}{hC:Decidable C}(h:p↔C):decide p=decide C:=decide_eq_decide.2 h
theorem bn {p C:Prop}{hp:Decidable p}{hC:Decidable C}(h:¬p↔C):(!decide p)=decide C:=by
 by_cases e:p<;>simp[e]at h ⊢<;>exact h
end
end Go.Lw
namespace Go.Lw
abbrev Lk (L:List (Nat×Value))(t:Nat)(v:Value):Prop:=Lw.look L t=some v
section
variable {L r:List (Nat×Value)} {A:Array Value} {t0:Nat} {v0:Value} {t1:Nat} {v1:Value} {t2:Nat} {v2:Value} {t3:Nat} {v3:Value} {t4:Nat} {v4:Value} {t5:Nat} {v5:Value} {t6:Nat} {v6:Value} {t7:Nat} {v7:Value} {S S1 S2 S3 S4 S5 S6:List Nat} {a w0 w1 w2 w3 w4 w5 w6:World}
theorem argsOk.c2 (D:A[t0]?=some v0)(h1:A[t1]?=some v1):argsOk A [(t0,v0),(t1,v1)]:=⟨D,h1,trivial⟩
theorem Sub.c2 (D:Lk L t0 v0)(h1:Lk L t1 v1):Sub [(t0,v0),(t1,v1)] L:=⟨D,h1,trivial⟩
theorem argsOk.c3 (D:A[t0]?=some v0)(h1:A[t1]?=some v1)(I:A[t2]?=some v2):argsOk A [(t0,v0),(t1,v1),(t2,v2)]:=⟨D,h1,I,trivial⟩
theorem Sub.c3 (D:Lk L t0 v0)(h1:Lk L t1 v1)(I:Lk L t2 v2):Sub [(t0,v0),(t1,v1),(t2,v2)] L:=⟨D,h1,I,trivial⟩
theorem argsOk.c4 (D:A[t0]?=some v0)(h1:A[t1]?=some v1)(I:A[t2]?=some v2)(O:A[t3]?=some v3):argsOk A [(t0,v0),(t1,v1),(t2,v2),(t3,v3)]:=⟨D,h1,I,O,trivial⟩
theorem Sub.c4 (D:Lk L t0 v0)(h1:Lk L t1 v1)(I:Lk L t2 v2)(O:Lk L t3 v3):Sub [(t0,v0),(t1,v1),(t2,v2),(t3,v3)] L:=⟨D,h1,I,O,trivial⟩
theorem argsOk.c5 (D:A[t0]?=some v0)(h1:A[t1]?=some v1)(I:A[t2]?=some v2)(O:A[t3]?=some v3)(Z:A[t4]?=some v4):argsOk A [(t0,v0),(t1,v1),(t2,v2),(t3,v3),(t4,v4)]:=⟨D,h1,I,O,Z,trivial⟩
theorem Sub.c5 (D:Lk L t0 v0)(h1:Lk L t1 v1)(I:Lk L t2 v2)(O:Lk L t3 v3)(Z:Lk L t4 v4):Sub [(t0,v0),(t1,v1),(t2,v2),(t3,v3),(t4,v4)] L:=⟨D,h1,I,O,Z,trivial⟩
theorem argsOk.c6 (D:A[t0]?=some v0)(h1:A[t1]?=some v1)(I:A[t2]?=some v2)(O:A[t3]?=some v3)(Z:A[t4]?=some v4)(h5:A[t5]?=some v5):argsOk A [(t0,v0),(t1,v1),(t2,v2),(t3,v3),(t4,v4),(t5,v5)]:=⟨D,h1,I,O,Z,h5,trivial⟩
theorem Sub.c6 (D:Lk L t0 v0)(h1:Lk L t1 v1)(I:Lk L t2 v2)(O:Lk L t3 v3)(Z:Lk L t4 v4)(h5:Lk L t5 v5):Sub [(t0,v0),(t1,v1),(t2,v2),(t3,v3),(t4,v4),(t5,v5)] L:=⟨D,h1,I,O,Z,h5,trivial⟩
theorem Sub.c7 (D:Lk L t0 v0)(h1:Lk L t1 v1)(I:Lk L t2 v2)(O:Lk L t3 v3)(Z:Lk L t4 v4)(h5:Lk L t5 v5)(h6:Lk L t6 v6):Sub [(t0,v0),(t1,v1),(t2,v2),(t3,v3),(t4,v4),(t5,v5),(t6,v6)] L:=⟨D,h1,I,O,Z,h5,h6,trivial⟩
theorem Sub.c8 (D:Lk L t0 v0)(h1:Lk L t1 v1)(I:Lk L t2 v2)(O:Lk L t3 v3)(Z:Lk L t4 v4)(h5:Lk L t5 v5)(h6:Lk L t6 v6)(h7:Lk L t7 v7):Sub [(t0,v0),(t1,v1),(t2,v2),(t3,v3),(t4,v4),(t5,v5),(t6,v6),(t7,v7)] L:=⟨D,h1,I,O,Z,h5,h6,h7,trivial⟩
theorem Sub.d8 (D:Lk L t0 v0)(h1:Lk L t1 v1)(I:Lk L t2 v2)(O:Lk L t3 v3)(Z:Lk L t4 v4)(h5:Lk L t5 v5)(h6:Lk L t6 v6)(h7:Lk L t7 v7)(hr:Sub r L):Sub ((t0,v0)::(t1,v1)::(t2,v2)::(t3,v3)::(t4,v4)::(t5,v5)::(t6,v6)::(t7,v7)::r) L:=⟨D,h1,I,O,Z,h5,h6,h7,hr⟩
theorem Fr.n1 (h:Fr S a w0)(D:Fr [] w0 w1):Fr S a w1:=(h.next D)
theorem Fr.z1 (h:Fr S a w0)(D:Fr S1 w0 w1)(h1:∀k∈S1,k<a.heap.size->k∈S:=by simp<;>omega):Fr S a w1:=(h.step D h1)
theorem Fr.n2 (h:Fr S a w0)(D:Fr [] w0 w1)(I:Fr [] w1 w2):Fr S a w2:=((h.next D).next I)
theorem Fr.z2 (h:Fr S a w0)(I:Fr S1 w0 w1)(O:Fr S2 w1 w2)(h1:∀k∈S1,k<a.heap.size->k∈S:=by simp<;>omega)(D:∀k∈S2,k<a.heap.size->k∈S:=by simp<;>omega):Fr S a w2:=((h.step I h1).step O D)
theorem Fr.n3 (h:Fr S a w0)(D:Fr [] w0 w1)(I:Fr [] w1 w2)(O:Fr [] w2 w3):Fr S a w3:=(((h.next D).next I).next O)
theorem Fr.z3 (h:Fr S a w0)(O:Fr S1 w0 w1)(Z:Fr S2 w1 w2)(q3:Fr S3 w2 w3)(h1:∀k∈S1,k<a.heap.size->k∈S:=by simp<;>omega)(D:∀k∈S2,k<a.heap.size->k∈S:=by simp<;>omega)(I:∀k∈S3,k<a.heap.size->k∈S:=by simp<;>omega):Fr S a w3:=(((h.step O h1).step Z D).step q3 I)
theorem Fr.n4 (h:Fr S a w0)(D:Fr [] w0 w1)(I:Fr [] w1 w2)(O:Fr [] w2 w3)(Z:Fr [] w3 w4):Fr S a w4:=((((h.next D).next I).next O).next Z)
theorem Fr.z4 (h:Fr S a w0)(Z:Fr S1 w0 w1)(q2:Fr S2 w1 w2)(q3:Fr S3 w2 w3)(q4:Fr S4 w3 w4)(h1:∀k∈S1,k<a.heap.size->k∈S:=by simp<;>omega)(D:∀k∈S2,k<a.heap.size->k∈S:=by simp<;>omega)(I:∀k∈S3,k<a.heap.size->k∈S:=by simp<;>omega)(O:∀k∈S4,k<a.heap.size->k∈S:=by simp<;>omega):Fr S a w4:=((((h.step Z h1).step q2 D).step q3 I).step q4 O)
theorem Fr.n5 (h:Fr S a w0)(D:Fr [] w0 w1)(I:Fr [] w1 w2)(O:Fr [] w2 w3)(Z:Fr [] w3 w4)(q5:Fr [] w4 w5):Fr S a w5:=(((((h.next D).next I).next O).next Z).next q5)
theorem Fr.z5 (h:Fr S a w0)(q1:Fr S1 w0 w1)(q2:Fr S2 w1 w2)(q3:Fr S3 w2 w3)(q4:Fr S4 w3 w4)(q5:Fr S5 w4 w5)(h1:∀k∈S1,k<a.heap.size->k∈S:=by simp<;>omega)(D:∀k∈S2,k<a.heap.size->k∈S:=by simp<;>omega)(I:∀k∈S3,k<a.heap.size->k∈S:=by simp<;>omega)(O:∀k∈S4,k<a.heap.size->k∈S:=by simp<;>omega)(Z:∀k∈S5,k<a.heap.size->k∈S:=by simp<;>omega):Fr S a w5:=(((((h.step q1 h1).step q2 D).step q3 I).step q4 O).step q5 Z)
theorem Fr.n6 (h:Fr S a w0)(D:Fr [] w0 w1)(I:Fr [] w1 w2)(O:Fr [] w2 w3)(Z:Fr [] w3 w4)(q5:Fr [] w4 w5)(q6:Fr [] w5 w6):Fr S a w6:=((((((h.next D).next I).next O).next Z).next q5).next q6)
theorem Fr.z6 (h:Fr S a w0)(q1:Fr S1 w0 w1)(q2:Fr S2 w1 w2)(q3:Fr S3 w2 w3)(q4:Fr S4 w3 w4)(q5:Fr S5 w4 w5)(q6:Fr S6 w5 w6)(h1:∀k∈S1,k<a.heap.size->k∈S:=by simp<;>omega)(D:∀k∈S2,k<a.heap.size->k∈S:=by simp<;>omega)(I:∀k∈S3,k<a.heap.size->k∈S:=by simp<;>omega)(O:∀k∈S4,k<a.heap.size->k∈S:=by simp<;>omega)(Z:∀k∈S5,k<a.heap.size->k∈S:=by simp<;>omega)(h6:∀k∈S6,k<a.heap.size->k∈S:=by simp<;>omega):Fr S a w6:=((((((h.step q1 h1).step q2 D).step q3 I).step q4 O).step q5 Z).step q6 h6)
end
theorem z9q {α:Type}{E:Enc α}{T base g:Nat}{w:World}{v:Value}{ys:List α}(h:Own E T base w v ys)(O:g<base\/w.heap.size<=g):∀k∈[g],k∉z0u v:=λk I D=>by rw[List.mem_singleton]at I;have:=h.blk k D;omega
theorem mkC {P:Program}{f:FuncId}{fn:Func}(hf:P.funcs[f]?=some fn)(hn:(fn.name == "runtime.NumGoroutine")=false:=by kernel_rfl)(hb:fn.body.isNone=false:=by kernel_rfl):CallOf P f:=CallOf.mk' hf hn hb
theorem Fr.sp {S S':List Nat}{a b c:World}(h:Fr S a b)(D:Fr S' b c)(I:∀k∈S',k<a.heap.size->k∈S:=by simp<;>omega):Fr S a c:=h.step D I
theorem i6 {z:Int}(h:-9223372036854775808<=z/\z<=9223372036854775807):IntKind.i64.wrap z=z:=IntWalk.i64_in z oo
section
variable {P:Program} {a:Act} {n:Nat} {L:List (Nat×Value)} {ds:List Nat} {w:World} {Q:Exit->Act->World->Prop} {ops:Array Oper} {rest l:List Oper} {o:Oper}
theorem tW (h:AgM ds a n L)(k:WL P ops Q l n ds w L):wpList P ops Q l a w:=k a h
theorem tC {c:Code}(h:AgM ds a n L)(k:CW P Q c n ds w L):c.wp P Q a w:=k a h
theorem kL (L':List (Nat×Value))(D:Sub L' L)(k:WL P ops Q l n ds w L'):WL P ops Q l n ds w L:=λa h=>k a (h.sub D)
theorem kQ {x y:Code}(k:CW P (Exit.then (y.wp P Q) Q) x n ds w L):CW P Q (.seq x y) n ds w L:=λa h=>wp_seq (k a h)
theorem kB {x:Code}{id:Nat}(k:CW P (Exit.inBlock id Q) x n ds w L):CW P Q (.block id x) n ds w L:=λa h=>wp_block (k a h)
def k4i (ops:Array Oper)(o:Oper)(n:Nat)(L:List (Nat×Value)):Option (Value×Bool):=
 match o.guard with
 | none=>none
 | some (j,want)=>
  match ops[j]? with
  | none=>none
  | some oj=>
   match oj.dst with
   | none=>none
   | some dj=>bif Nat.blt dj n then (look L dj).map (λv=>(v,want)) else none
theorem v5b {v:Value}{D:Bool}(h:k4i ops o n L=some (v,D)):∃j I O,o.guard=some (j,D)/\ops[j]?=some O/\O.dst=some I/\Nat.blt I n=true/\look L I=some v:=by
 unfold k4i at h;split at h;cases h;rename_i j Z hg;split at h;cases h;rename_i O hj;split at h;cases h;rename_i I hd;cases hb:Nat.blt I n with
 | false=>rw[hb]at h;cases h
 | true=>
  rw[hb]at h;cases hl:look L I with
  | none=>rw[hl]at h;cases h
  | some u=>rw[hl]at h;cases h;exact⟨j,I,O,hg,hj,hd,hb,hl⟩
theorem kY {b:Bool}(hg:k4i ops o n L=some (.bool b,b))(k:WL P ops Q ({ o with guard:=none }::rest) n ds w L):WL P ops Q (o::rest) n ds w L:=by
 obtain⟨j,dj,oj,D,I,O,Z,h5⟩:=v5b hg;exact λa h=>y1d h D I O Z h5 (by cases b<;>rfl) (k a h)
class Sy (b:Bool) (p q:outParam Prop):Prop where
 t:b=true->p
 f:b=false->q
instance (priority:=100) sy_b (b:Bool):Sy b (b=true) (b=false):=⟨id,id⟩
instance (priority:=1000) sy_d (p:Prop) {hp:Decidable p}:Sy (@decide p hp) p (¬p):=⟨of_decide_eq_true,of_decide_eq_false⟩
instance (priority:=1100) sy_n (p:Prop) {hp:Decidable p}:Sy (!(@decide p hp)) (¬p) p:=⟨λh=>by simpa using h,λh=>by simpa using h⟩
theorem cS {c:Operand}{x y:Code}{b:Bool}{p q:Prop}(h:AgM ds a n L)(D:ev L c=some (.bool b))[s:Sy b p q](I:p->x.wp P Q a w)(hf:q->y.wp P Q a w):(Code.cond c x y).wp P Q a w:=y9z h D (λe=>I (s.t e)) (λe=>hf (s.f e))
theorem gSp {D:Nat}{b:Bool}{p q:Prop}(h:AgM ds a n L)(hb:look L D=some (.bool b))[s:Sy b p q]{G:Prop}(I:p->AgM ds a n ((D,.bool true)::L)->G)(hf:q->AgM ds a n ((D,.bool false)::L)->G):G:=x5y h hb (λe k=>I (s.t e) k) (λe k=>hf (s.f e) k)
end
end Go.Lw
namespace Go.Lw
end Go.Lw
namespace Go.Lw
def Sat (pq:Option Nat)(C:World->Prop)(listed:Array Bool)(w:World):Prop:=
  match pq with
  | none=>C w
  | some p=>listed.getD p true=false->C w
theorem v0p {pq:Option Nat}{C:World->Prop}{listed:Array Bool}{w:World}(h:C w):Sat pq C listed w:=by
 unfold Sat;split;exact h;exact λ_=>h
def z0w (pq:Option Nat)(P:Program)(ops:Array Oper)(Q:Exit->Act->World->Prop)(C:World->Prop):Nat->Array Bool->Act->World->Prop
  | 0,listed,a,w=>Region.ready .any ops listed=[]/\Q .normal a w
  | fu+1,listed,a,w=>(Region.ready .any ops listed=[]->Q .normal a w)/\∀i∈Region.ready .any ops listed,wpOp P ops Q i (λa' w'=>Sat pq C (listed.setIfInBounds i true) w'/\z0w pq P ops Q C fu (listed.setIfInBounds i true) a' w') a w
def u1p (i:Nat):List Oper->List Bool->List Bool
  | [],acc=>acc
  | o::r,acc=>u1p i r (acc++[o.after.any (λe=>Region.binds .any e && (Nat.beq e.on i || acc.getD e.on false))])
def wsB (ops:Array Oper)(i m:Nat):Bool:=(u1p i ops.toList []).getD m false
theorem y9j {D:List Bool}{b:Bool}{m:Nat}(h:D.getD m false=true):(D++[b]).getD m false=true:=by
 rcases Nat.lt_or_ge m D.length with e|e
 simp only[List.getD]at h ⊢;rwa [List.getElem?_append_left e];simp[List.getD,List.getElem?_eq_none e]at h
theorem x6t (i:Nat):∀(r:List Oper) (acc:List Bool) (m:Nat),acc.getD m false=true->(u1p i r acc).getD m false=true
 | [],_,_,h=>h
 | _::r,_,m,h=>x6t i r _ m (y9j h)
theorem v2r (i:Nat):∀(r:List Oper) (acc:List Bool) (m:Nat),(u1p i r acc).getD m false=true->acc.getD m false=true\/∃t o,r[t]?=some o/\m=acc.length+t/\∃e∈o.after,Region.binds .any e=true/\(e.on=i\/(u1p i r acc).getD e.on false=true)
 | [],_,_,h=>.inl h
 | o::r,acc,m,h=>by
  rcases v2r i r _ m h with D|⟨t,o',D,O,e,Z,h4,h5⟩
  ·rcases Nat.lt_trichotomy m acc.length with e|e|e
   ·refine .inl ?_
    simp only[List.getD]at D ⊢
    rwa [List.getElem?_append_left e]at D
   ·subst e
    refine .inr ⟨0,o,rfl,rfl,?_⟩
    simp only[List.getD,List.getElem?_append_right (Nat.le_refl _),Nat.sub_self,List.getElem?_cons_zero,Option.getD_some]at D
    obtain⟨e,he,I⟩:=Array.any_eq_true'.1 D
    rw[Bool.and_eq_true,Bool.or_eq_true]at I
    refine⟨e,he,I.1,I.2.imp Nat.eq_of_beq_eq_true λh=>?_⟩
    exact x6t i r _ _ (y9j h)
   exfalso
   simp only[List.getD]at D
   rw[List.getElem?_eq_none so]at D
   cases D
  exact .inr ⟨t+1,o',D,by rw[List.length_append]at O;simp at O;omega,e,Z,h4,h5⟩
theorem u0q {ops:Array Oper}{i m:Nat}(h:wsB ops i m=true):∃o,ops[m]?=some o/\∃e∈o.after,Region.binds .any e=true/\(e.on=i\/wsB ops i e.on=true):=by
 rcases v2r i _ _ _ h with h|⟨t,o,I,D,r⟩
 cases h;simp at D;subst D;exact⟨o,by rw[<-Array.getElem?_toList];exact I,r⟩
def Fre (pq:Option Nat)(ops:Array Oper)(listed:Array Bool)(i:Nat):Bool:=
  Region.free .any ops listed i && match pq with
  | none=>true
  | some p=>wsB ops i p && (List.range ops.size).all (λm=>!(wsB ops i m && listed.getD m true))
section
variable {P:Program} {ops:Array Oper} {Q:Exit->Act->World->Prop} {C:World->Prop} {pq:Option Nat}
theorem y3w:∀(fu:Nat) (listed:Array Bool) (a:Act) (w:World),z0w pq P ops Q C fu listed a w->wpAny P .any ops Q fu listed a w
 | 0,_,_,_,h=>h
 | fu+1,_,_,_,h=>⟨h.1,λi I=>wpOp_mono (λD w' k=>y3w fu _ D w' k.2) (h.2 i I)⟩
theorem j0k {i:Nat}{oi:Oper}{v:Value}(hi:ops[i]?=some oi)(hsel:∀(j:Nat) (o:Oper) cs b,ops[j]?=some o->o.op≠.select cs b)(hQ:∀c a w,Q (.panic c) (a.put oi.dst v) w->Q (.panic c) a w)(b5:∀p,pq=some p->wsB ops i p=true) :
    ∀(fu:Nat) (listed:Array Bool) (a:Act) (w:World),(∀j oj,ops[j]?=some oj->j≠i->listed.getD j true=false->(∀e∈oj.after,Region.binds .any e=true->e.on≠i)->oi.apart ops oj=true)->
      i∈Region.ready .any ops listed->(∀p,pq=some p->∀m,wsB ops i m=true->listed.getD m true=false)->YieldsIf P ops C oi v a->C w->z0w pq P ops Q C fu (listed.setIfInBounds i true) (a.put oi.dst v) w->z0w pq P ops Q C (fu+1) listed a w:=by
  intro fu
  induction fu with
  | zero=>
    intro listed a w _ hr _ hy hC H
    refine⟨λe=>(by rw[e]at hr;cases hr),λj hj=>?_⟩
    rcases Decidable.em (j=i) with rfl|D
    · exact hy.wpOp hi hC ⟨v0p hC,H⟩
    · exact absurd (ready_mono hj D) (by rw[H.1];simp)
  | succ fu ih=>
    intro listed a w a4 hr hp hy hC H
    refine⟨λe=>(by rw[e]at hr;cases hr),λj hj=>?_⟩
    rcases Decidable.em (j=i) with rfl|D
    · exact hy.wpOp hi hC ⟨v0p hC,H⟩
    obtain⟨a5,oj,O,a0⟩:=mem_ready.1 hj
    have Z:∀m,listed.getD m true=false->¬listed.getD m false=true:=λm a7=>by
      rcases Nat.lt_or_ge m listed.size with h|h
      · simp[h]at a7 ⊢;exact a7
      · simp[Array.getElem?_eq_none h]
    have a1:=Z i (mem_ready.1 hr).1
    have b4:∀e∈oj.after,Region.binds .any e=true->e.on≠i:=λe he hb a8=>a1 (a8▸a0 e he hb)
    have nw:∀p,pq=some p->∀m om,ops[m]?=some om->(∀e∈om.after,Region.binds .any e=true->listed.getD e.on false=true)->¬wsB ops i m=true:=λp e m om hm I hw=>by
      obtain⟨o,ho,e',he,hb,h⟩:=u0q hw
      rw[hm]at ho;cases ho
      rcases h with h|h
      · exact a1 (h▸I e' he hb)
      · exact Z _ (hp p e _ h) (I e' he hb)
    have a6:∀p,pq=some p->¬wsB ops i j=true:=λp e=>nw p e j oj O a0
    have a9:∀p,pq=some p->¬wsB ops i i=true:=λp e=>by
      obtain⟨_,o,ho,I⟩:=mem_ready.1 hr
      exact nw p e i o ho I
    have h2:=wpOp_putIf O (a4 j oj O D a5 b4) (λcs b=>hsel i oi cs b hi) (λcs b=>hsel j oj cs b O) hQ hy (H.2 j (ready_mono hj D))
    refine wpOp_mono (λa' w' k=>?_) h2
    have a3:C w':=by
      have hs:=k.2.1
      unfold Sat at hs
      split at hs
      · exact hs
      · rename_i p
        have a2:=b5 p U
        refine hs ?_
        have n1:j≠p:=λe=>a6 p U (by rw[e];exact a2)
        have n2:i≠p:=λe=>a9 p U (by rw(occs:=.pos [2]) [e];exact a2)
        rw[getD_set_ne true n1,getD_set_ne true n2]
        exact hp p U p a2
    refine⟨v0p a3,ih (listed.setIfInBounds j true) a' w' (λm om hm b1 b3 b2=>a4 m om hm b1 ?_ b2) (ready_mono hr (Ne.symm D)) (λp e m hm=>by
      have n1:j≠m:=λe'=>a6 p e (by rw[e'];exact hm)
      rw[getD_set_ne true n1];exact hp p e m hm) k.1 a3 ?_⟩
    · rcases Decidable.em (j=m) with rfl|b0
      · exact a5
      · rwa [getD_set_ne true b0]at b3
    · rw[Array.setIfInBounds_comm _ _ D];exact k.2.2
theorem v6v {i:Nat}{D:Oper}{v:Value}{fu:Nat}{listed:Array Bool}{a:Act}{w:World}(O:ops[i]?=some D)(hs:Region.noSelect ops=true)(hf:Fre pq ops listed i=true)(hr:(Region.ready .any ops listed).contains i=true)
    (hQ:∀c a w,Q (.panic c) (a.put D.dst v) w->Q (.panic c) a w) (hy:YieldsIf P ops C D v a) (hC:C w) (h:z0w pq P ops Q C fu (listed.setIfInBounds i true) (a.put D.dst v) w):z0w pq P ops Q C (fu+1) listed a w:=by
  unfold Fre at hf
  rw[Bool.and_eq_true]at hf
  refine j0k O (Region.noSelect_spec hs) hQ (λp e=>?_) fu listed a w (Region.free_spec O hf.1) (by simpa using hr) (λp e m Z=>?_) hy hC h
  · have:=hf.2;subst e;simp only[Bool.and_eq_true]at this;exact this.1
  · have:=hf.2;subst e;simp only[Bool.and_eq_true,List.all_eq_true,List.mem_range]at this
    obtain⟨o,ho,_⟩:=u0q Z
    have I:=this.2 m (Array.getElem?_eq_some_iff.1 ho).1
    rw[Z]at I;simpa using I
theorem j2a {I:List Nat}{fu:Nat}{listed:Array Bool}{a:Act}{w:World}(O:Region.ready .any ops listed=I)(D:I≠[])
    (h:∀i∈I,wpOp P ops Q i (λZ w'=>Sat pq C (listed.setIfInBounds i true) w'/\z0w pq P ops Q C fu (listed.setIfInBounds i true) Z w') a w):z0w pq P ops Q C (fu+1) listed a w:=
  ⟨λe=>absurd (O.symm.trans e) D,λi hi=>h i (O▸hi)⟩
theorem k2d {listed:Array Bool}{a:Act}{w:World}(D:Region.ready .any ops listed=[])(h:Q .normal a w):∀fu,z0w pq P ops Q C fu listed a w
 | 0=>⟨D,h⟩
 | _+1=>⟨λ_=>h,by rw[D];intro i I;cases I⟩
end
end Go.Lw
namespace Go.Lw
open Go.RowKit
section
variable {P:Program} {a:Act} {n:Nat} {L:List (Nat×Value)} {ds:List Nat} {C:World->Prop} {Qa:Act->Prop} {ops:Array Oper} {rest:List Oper} {o:Oper}
theorem y1m {d:Nat}{v:Value}(h:AgM ds a n L)(H1:(o.guard,o.dst)=(none,some d))(hn:Nat.blt d n=true)(O:∀w,C w->(execOp a.eval o).run P w=.ok (.value v) w)
    (k:∀a,AgM ds a n ((d,v)::L)->wpQuiet P ops C Qa rest a):wpQuiet P ops C Qa (o::rest) a:=by
  obtain⟨I,D⟩:=qi2 H1
  unfold wpQuiet
  rw[if_pos (by simp[Region.wanted,I])]
  refine⟨v,λw Z=>?_,?_⟩
  · unfold Oper.quietAt;rw[O w Z];exact⟨rfl,rfl⟩
  · rw[D];exact k _ (h.put hn v)
theorem z1k {d j I:Nat}{oj:Oper}{D b:Bool}(h:AgM ds a n L)(hg:o.guard=some (j,D))(hj:ops[j]?=some oj)(H3:(oj.dst,Nat.blt I n)=(some I,true))
    (H5:(look L I,(b == D),o.dst,Nat.blt d n)=(some (.bool b),false,some d,true))
    (k:∀a,AgM ds a n ((d,undef)::L)->wpQuiet P ops C Qa rest a):wpQuiet P ops C Qa (o::rest) a:=by
  obtain⟨O,Z⟩:=qi2 H3;obtain⟨hb,hne,hd,hn⟩:=qi4 H5
  have hy:=z6y (ops:=ops) h hj O Z hb
  unfold wpQuiet
  rw[if_neg (by simp only[Region.wanted,hg,hy];simpa using hne),hd]
  exact k _ (h.put hn undef)
theorem z1y {j I:Nat}{oj:Oper}{D b:Bool}(h:AgM ds a n L)(hg:o.guard=some (j,D))(hj:ops[j]?=some oj)(H3:(oj.dst,Nat.blt I n)=(some I,true))
    (H5:(look L I,(b == D))=(some (.bool b),true))
    (k:wpQuiet P ops C Qa ({ o with guard:=none }::rest) a):wpQuiet P ops C Qa (o::rest) a:=by
  obtain⟨O,Z⟩:=qi2 H3;obtain⟨hb,he⟩:=qi2 H5
  have hy:=z6y (ops:=ops) h hj O Z hb
  unfold wpQuiet at k ⊢
  rw[if_pos (by simp[Region.wanted])]at k
  rw[if_pos (by simp only[Region.wanted,hg,hy];simpa using he)]
  exact k
theorem z7m {id:Nat}{Q:Exit->Act->World->Prop}{w:World}{l:List Oper}(O:P.follows .mixedOrders=true)(I:Region.lexB .any l.toArray=true)
    (h:wpQuiet P l.toArray (λw'=>Fr [] w w') (λD=>∀w',Fr [] w w'->Q .normal D w') l a):(Code.region id l.toArray true).wp P Q a w:=
  wp_region_quiet (C:=λw'=>Fr [] w w') O I (Fr.drew [] w) (by simpa using h)
def z0l (K:Act->World->Prop):Exit->Act->World->Prop
  | .normal,a,w=>K a w
  | _,_,_=>False
theorem z0h (pq:Option Nat){id:Nat}{Q:Exit->Act->World->Prop}{w:World}{l:List Oper}(C:World->World->Prop)(I:P.follows .mixedOrders=true)
    (h:∀w',Fr [] w w'->z0w pq P l.toArray (z0l (Q .normal)) (C w') l.length (Array.replicate l.length false) a w'):(Code.region id l.toArray true).wp P Q a w:=by
  refine wp_mono (wp_region_any (Q:=z0l (Q .normal)) I (y3w (C:=C w.drew) _ _ _ _ (by simpa using h _ (Fr.drew [] w)))) ?_
  intro e a w D
  cases e<;>first|exact D|exact D.elim
theorem z3j {id:Nat}{Q:Exit->Act->World->Prop}{w:World}{l:List Oper}(C:World->World->Prop)(D:P.follows .mixedOrders=true)
 (h:∀w',Fr [] w w'->z0w none P l.toArray (z0l (Q .normal)) (C w') l.length (Array.replicate l.length false) a w'):(Code.region id l.toArray true).wp P Q a w:=z0h none C D h
section
variable {K:Act->World->Prop} {fu:Nat} {listed:Array Bool} {pq:Option Nat} {w:World}
def Wd (ops:Array Oper)(n:Nat)(L:List (Nat×Value))(G:Option (Nat×Bool)):Prop:=∀a ds,AgM ds a n L->∀o:Oper,o.guard=G->Region.wanted o (yielded ops a.tmps)=true
theorem wn:Wd ops n L none:=λ_ _ _ o D=>by simp[Region.wanted,D]
def sdB (pq:Option Nat)(ops:Array Oper)(listed:Array Bool)(ix:Nat):Bool:=Region.noSelect ops && (Fre pq ops listed ix && (Region.ready .any ops listed).contains ix)
theorem y2o {D:Nat}(h:sdB pq ops listed D=true):Region.noSelect ops=true/\Fre pq ops listed D=true/\(Region.ready .any ops listed).contains D=true:=by
 unfold sdB at h;simp only[Bool.and_eq_true]at h;exact h
theorem z6p (I:Nat)(hsel:sdB pq ops listed I=true){d:Nat}{v:Value}(h:AgM ds a n L)(hG:Wd ops n L o.guard)(D:ops[I]?=some o)(O:o.dst=some d)(hn:Nat.blt d n=true)(Z:∀w,C w->(execOp a.eval o).run P w=.ok (.value v) w)(k:∀a,AgM ds a n ((d,v)::L)->z0w pq P ops (z0l K) C fu (listed.setIfInBounds I true) a w)(hC:C w:=by exact hC):z0w pq P ops (z0l K) C (fu+1) listed a w:=
  v6v D (y2o hsel).1 (y2o hsel).2.1 (y2o hsel).2.2 (λ_ _ _ h=>h) (.inl ⟨hG a ds h o U,Z⟩) hC (by rw[O];exact k _ (h.put hn v))
theorem z0e (I:Nat)(O:ops[I]?=some o)(k:wpList P ops (z0l λa' w'=>Sat pq C (listed.setIfInBounds I true) w'/\z0w pq P ops (z0l K) C fu (listed.setIfInBounds I true) a' w') [o] a w)(hr:Region.ready .any ops listed=[I]:=by kernel_rfl) :
    z0w pq P ops (z0l K) C (fu+1) listed a w:=by
  refine j2a hr sp0 λi hi=>?_
  simp at hi;subst hi
  unfold wpOp
  rw[O]
  unfold wpList at k
  simp only
  split
  · rename_i Z
    rw[if_pos Z]at k
    rcases k with k|⟨_,_,_,k⟩
    · refine .inl (Oper.wp_mono (λa w h=>h) ?_)
      unfold Oper.wp at k ⊢
      generalize (execOp a.eval o).run P w=r at k ⊢
      cases r with
      | ok nx w'=>
        cases nx<;>simp only[Oper.upon]at k ⊢<;>first
          | exact k
          | exact Calls.mono k (λe a0 D=>by cases e<;>first|exact D|exact D.elim|(obtain⟨_,_,D⟩:=D;exact D.elim))
          | exact Rows.mono k (λ_ _ D=>D)
      | halt x w'=>cases x<;>simp only[Oper.upon]at k ⊢<;>exact k.elim
    · exact k.elim
  · rename_i Z
    rw[if_neg Z]at k
    exact k
theorem z0r (h:K a w)(D:Region.ready .any ops listed=[]:=by kernel_rfl):z0w pq P ops (z0l K) C fu listed a w:=k2d D h fu
theorem z0b {W:Act->World->Prop}(h:W a w)(hC:C w:=by exact hC):wpList P ops (z0l λD w'=>Sat pq C listed w'/\W D w') [] a w:=⟨v0p hC,h⟩
theorem z1h {W:Act->World->Prop}{p:Nat}(h:W a w)(hp:listed.getD p true=true:=by kernel_rfl):wpList P ops (z0l λD w'=>Sat (some p) C listed w'/\W D w') [] a w:=⟨λe=>absurd (hp.symm.trans e) sp0,h⟩
end
variable {d:Nat} {ty:TypeId} {pos:String} {after:Array Edge} {v u:Value} {x y z:Operand} {t t' T:TypeId} {k k':IntKind} {i j:Int} {b c:Bool} {l l':List UInt8} {A:Option Addr} {m cp:Nat} {G:Option (Nat×Bool)}
theorem z3c (h:AgM ds a n L)(H1:(ev L x,Nat.blt d n)=(some v,true))(q:∀a,AgM ds a n ((d,v)::L)->wpQuiet P ops C Qa rest a) :
    wpQuiet P ops C Qa (⟨some d,.move x,ty,pos,after,none⟩::rest) a:=let⟨D,hn⟩:=qi2 H1;
  y1m h U hn (λw _hw=>by simp[execOp,h.eval D]) q
theorem z6h (h:AgM ds a n L)(D:ev L x=some v)(hn:Nat.blt d n=true)(q:∀a,AgM ds a n ((d,v)::L)->wpQuiet P ops C Qa rest a) :
    wpQuiet P ops C Qa (⟨some d,.assign x,ty,pos,after,none⟩::rest) a:=
  y1m h U hn (λw _hw=>by simp[execOp,h.eval D]) q
theorem z7h {z:Value}{D Z:Operand}(h:AgM ds a n L)(H1:(ev L x,b,ev L D,Nat.blt d n)=(some (.bool b),true,some z,true))(q:∀a,AgM ds a n ((d,z)::L)->wpQuiet P ops C Qa rest a) :
    wpQuiet P ops C Qa (⟨some d,.pick x D Z,ty,pos,after,none⟩::rest) a:=let⟨O,hb,I,hn⟩:=qi4 H1;
  y1m h U hn (λw _hw=>by subst hb;simp[execOp,h.eval O,asBool,h.eval I]) q
theorem z3v {z:Value}{Z D:Operand}(h:AgM ds a n L)(H1:(ev L x,b,ev L D,Nat.blt d n)=(some (.bool b),false,some z,true))(q:∀a,AgM ds a n ((d,z)::L)->wpQuiet P ops C Qa rest a) :
    wpQuiet P ops C Qa (⟨some d,.pick x Z D,ty,pos,after,none⟩::rest) a:=let⟨O,hb,I,hn⟩:=qi4 H1;
  y1m h U hn (λw _hw=>by subst hb;simp[execOp,h.eval O,asBool,h.eval I]) q
theorem u8g {z:Int}(h:AgM ds a n L)(D:ev L x=some (.int k i))(I:ev L y=some (.int k j))(O:k.wrap (i-j)=z)(hn:Nat.blt d n=true)(q:∀a,AgM ds a n ((d,.int k z)::L)->wpQuiet P ops C Qa rest a) :
    wpQuiet P ops C Qa (⟨some d,.binOp .sub t x y t',ty,pos,after,none⟩::rest) a:=
  y1m h U hn (λw _hw=>by subst O;simp[execOp,h.eval D,h.eval I,eqGuard_sub,binOp_sub,Op.intArith]) q
theorem k4g (h:AgM ds a n L)(D:ev L x=some (.int k i))(I:ev L y=some (.int k j))(hn:Nat.blt d n=true)(q:∀a,AgM ds a n ((d,.bool (decide (i=j)))::L)->wpQuiet P ops C Qa rest a) :
    wpQuiet P ops C Qa (⟨some d,.binOp .eql t x y t',ty,pos,after,none⟩::rest) a:=
  y1m h U hn (λw _hw=>by simp[execOp,h.eval D,h.eval I,eqGuard_at_int,binOp_eql,y1t]) q
theorem k3l (h:AgM ds a n L)(D:ev L x=some (.int k i))(I:ev L y=some (.int k j))(hn:Nat.blt d n=true)(q:∀a,AgM ds a n ((d,.bool (decide (i≠j)))::L)->wpQuiet P ops C Qa rest a) :
    wpQuiet P ops C Qa (⟨some d,.binOp .neq t x y t',ty,pos,after,none⟩::rest) a:=
  y1m h U hn (λw _hw=>by simp[execOp,h.eval D,h.eval I,eqGuard_at_int,binOp_neq,bne,y1t]) q
theorem j3k (h:AgM ds a n L)(D:ev L x=some (.int k i))(I:ev L y=some (.int k j))(hn:Nat.blt d n=true)(q:∀a,AgM ds a n ((d,.bool (decide (i<j)))::L)->wpQuiet P ops C Qa rest a) :
    wpQuiet P ops C Qa (⟨some d,.binOp .lss t x y t',ty,pos,after,none⟩::rest) a:=
  y1m h U hn (λw _hw=>by simp[execOp,h.eval D,h.eval I,eqGuard_lss,binOp_lss]) q
theorem j8r (h:AgM ds a n L)(D:ev L x=some (.int k i))(I:ev L y=some (.int k j))(hn:Nat.blt d n=true)(q:∀a,AgM ds a n ((d,.bool (decide (i<=j)))::L)->wpQuiet P ops C Qa rest a) :
    wpQuiet P ops C Qa (⟨some d,.binOp .leq t x y t',ty,pos,after,none⟩::rest) a:=
  y1m h U hn (λw _hw=>by simp[execOp,h.eval D,h.eval I,eqGuard_leq,binOp_leq]) q
theorem u5m (h:AgM ds a n L)(D:ev L x=some (.int k i))(I:ev L y=some (.int k j))(hn:Nat.blt d n=true)(q:∀a,AgM ds a n ((d,.bool (decide (j<=i)))::L)->wpQuiet P ops C Qa rest a) :
    wpQuiet P ops C Qa (⟨some d,.binOp .geq t x y t',ty,pos,after,none⟩::rest) a:=
  y1m h U hn (λw _hw=>by simp[execOp,h.eval D,h.eval I,eqGuard_geq,binOp_geq]) q
theorem v7g {z:Int}(h:AgM ds a n L)(Z:ev L x=some (.int k i))(I:(P.underlying t).isSome=true)(D:P.underlying t'=some (.int k'))(hz:k'.wrap i=z)(hn:Nat.blt d n=true)(q:∀a,AgM ds a n ((d,.int k' z)::L)->wpQuiet P ops C Qa rest a) :
    wpQuiet P ops C Qa (⟨some d,.convert t t' x,ty,pos,after,none⟩::rest) a:=
  y1m h U hn (λw _hw=>by
    obtain⟨u,O⟩:=Option.isSome_iff_exists.mp I
    subst hz;simp[execOp,h.eval Z,convert,run_underlying O,run_underlying D,Conv.intToInt]) q
theorem y6v (h:AgM ds a n L)(I:ev L x=some (.slice A m cp))(D:P.underlying t=some (.slice T))(hn:Nat.blt d n=true)(q:∀a,AgM ds a n ((d,.int .i64 (m:Int))::L)->wpQuiet P ops C Qa rest a) :
    wpQuiet P ops C Qa (⟨some d,.call ⟨.builtin .len,#[x],#[t]⟩,ty,pos,after,none⟩::rest) a:=
  y1m h U hn (λw _hw=>by
    rw[z2d];unfold builtin
    simp[h.eval I,Builtin.len_,run_underlying D]
    rfl) q
theorem x7i {ad:Addr}(h:AgM ds a n L)(O:ev L x=some (.pointer (some ad)))(D:∀w,C w->w.cell? ad=some v)(I:z2a P t)(hn:Nat.blt d n=true)(q:∀a,AgM ds a n ((d,v)::L)->wpQuiet P ops C Qa rest a) :
    wpQuiet P ops C Qa (⟨some d,.load t x,ty,pos,after,none⟩::rest) a:=
  y1m h U hn (λw _hw=>by simp[execOp,h.eval O,Instr.loadAt,Instr.sureAddr,loadVar,I w,D w _hw]) q
theorem z3d {ad:Addr}{f off:Nat}(h:AgM ds a n L)(D:ev L x=some (.pointer (some ad)))(hf:z0y P t f off)(hn:Nat.blt d n=true)(q:∀a,AgM ds a n ((d,.pointer (some (ad.add off)))::L)->wpQuiet P ops C Qa rest a) :
    wpQuiet P ops C Qa (⟨some d,.fieldAddr t x f,ty,pos,after,none⟩::rest) a:=
  y1m h U hn (λw _hw=>by simp[execOp,h.eval D,hf ad w]) q
section
variable {K:Act->World->Prop} {fu:Nat} {listed:Array Bool} {pq:Option Nat} {w:World}
theorem z0d (D:Nat)(h:AgM ds a n L)(H2:(ops[D]?,ev L x)=(some ⟨some d,.move x,ty,pos,after,G⟩,some v))(q:∀a,AgM ds a n ((d,v)::L)->z0w pq P ops (z0l K) C fu (listed.setIfInBounds D true) a w)(hsel:sdB pq ops listed D=true:=by kernel_rfl)(hC:C w:=by exact hC)(hG:Wd ops n L G:=by exact wn)(hn:Nat.blt d n=true:=by exact U) :
    z0w pq P ops (z0l K) C (fu+1) listed a w:=let⟨I,O⟩:=qi2 H2;
  z6p D hsel h hG I U hn (λw _hw=>by simp[execOp,h.eval O]) q
theorem z4d {z:Int}(D:Nat)(h:AgM ds a n L)(H2:(ev L x,ev L y)=(some (.int k i),some (.int k j)))(hz:k.wrap (i+j)=z)(I:ops[D]?=some ⟨some d,.binOp .add t x y t',ty,pos,after,G⟩)(q:∀a,AgM ds a n ((d,.int k z)::L)->z0w pq P ops (z0l K) C fu (listed.setIfInBounds D true) a w)(hsel:sdB pq ops listed D=true:=by kernel_rfl)(hC:C w:=by exact hC)(hG:Wd ops n L G:=by exact wn)(hn:Nat.blt d n=true:=by exact U) :
    z0w pq P ops (z0l K) C (fu+1) listed a w:=let⟨O,Z⟩:=qi2 H2;
  z6p D hsel h hG I U hn (λw _hw=>by subst hz;simp[execOp,h.eval O,h.eval Z,eqGuard_add,binOp_add,Op.intArith]) q
theorem z3e {z:Int}(D:Nat)(h:AgM ds a n L)(H2:(ev L x,ev L y)=(some (.int k i),some (.int k j)))(hz:k.wrap (i-j)=z)(I:ops[D]?=some ⟨some d,.binOp .sub t x y t',ty,pos,after,G⟩)(q:∀a,AgM ds a n ((d,.int k z)::L)->z0w pq P ops (z0l K) C fu (listed.setIfInBounds D true) a w)(hsel:sdB pq ops listed D=true:=by kernel_rfl)(hC:C w:=by exact hC)(hG:Wd ops n L G:=by exact wn)(hn:Nat.blt d n=true:=by exact U) :
    z0w pq P ops (z0l K) C (fu+1) listed a w:=let⟨O,Z⟩:=qi2 H2;
  z6p D hsel h hG I U hn (λw _hw=>by subst hz;simp[execOp,h.eval O,h.eval Z,eqGuard_sub,binOp_sub,Op.intArith]) q
theorem k1z {z:Int}(D:Nat)(hsel:sdB pq ops listed D=true)(hC:C w)(h:AgM ds a n L)(hG:Wd ops n L G)(Z:ev L x=some (.int k i))(hy:ev L y=some (.int k j))(O:j≠0)(hz:i.tmod j=z)(I:ops[D]?=some ⟨some d,.binOp .rem t x y t',ty,pos,after,G⟩)(hn:Nat.blt d n=true)(q:∀a,AgM ds a n ((d,.int k z)::L)->z0w pq P ops (z0l K) C fu (listed.setIfInBounds D true) a w) :
    z0w pq P ops (z0l K) C (fu+1) listed a w:=
  z6p D hsel h hG I U hn (λw _hw=>by subst hz;simp[execOp,h.eval Z,h.eval hy,eqGuard_rem,binOp_rem,Op.intDiv,O]) q
theorem v4y (D:Nat)(hC:C w)(h:AgM ds a n L)(hG:Wd ops n L G)(O:ev L x=some (.int k i))(Z:ev L y=some (.int k j))(I:ops[D]?=some ⟨some d,.binOp .eql t x y t',ty,pos,after,G⟩)(hn:Nat.blt d n=true)(q:∀a,AgM ds a n ((d,.bool (decide (i=j)))::L)->z0w pq P ops (z0l K) C fu (listed.setIfInBounds D true) a w)(hsel:sdB pq ops listed D=true:=by kernel_rfl) :
    z0w pq P ops (z0l K) C (fu+1) listed a w:=
  z6p D hsel h hG I U hn (λw _hw=>by simp[execOp,h.eval O,h.eval Z,eqGuard_at_int,binOp_eql,y1t]) q
theorem u9t (D:Nat)(hC:C w)(h:AgM ds a n L)(hG:Wd ops n L G)(O:ev L x=some (.int k i))(Z:ev L y=some (.int k j))(I:ops[D]?=some ⟨some d,.binOp .neq t x y t',ty,pos,after,G⟩)(hn:Nat.blt d n=true)(q:∀a,AgM ds a n ((d,.bool (decide (i≠j)))::L)->z0w pq P ops (z0l K) C fu (listed.setIfInBounds D true) a w)(hsel:sdB pq ops listed D=true:=by kernel_rfl) :
    z0w pq P ops (z0l K) C (fu+1) listed a w:=
  z6p D hsel h hG I U hn (λw _hw=>by simp[execOp,h.eval O,h.eval Z,eqGuard_at_int,binOp_neq,bne,y1t]) q
theorem x9m (D:Nat)(hC:C w)(h:AgM ds a n L)(hG:Wd ops n L G)(H4:(ops[D]?,ev L x,ev L y)=(some ⟨some d,.binOp .lss t x y t',ty,pos,after,G⟩,some (.int k i),some (.int k j)))(hn:Nat.blt d n=true)(q:∀a,AgM ds a n ((d,.bool (decide (i<j)))::L)->z0w pq P ops (z0l K) C fu (listed.setIfInBounds D true) a w)(hsel:sdB pq ops listed D=true:=by kernel_rfl) :
    z0w pq P ops (z0l K) C (fu+1) listed a w:=let⟨I,O,Z⟩:=qi3 H4;
  z6p D hsel h hG I U hn (λw _hw=>by simp[execOp,h.eval O,h.eval Z,eqGuard_lss,binOp_lss]) q
theorem k4z (D:Nat)(hsel:sdB pq ops listed D=true)(hC:C w)(h:AgM ds a n L)(hG:Wd ops n L G)(O:ev L x=some (.int k i))(Z:ev L y=some (.int k j))(I:ops[D]?=some ⟨some d,.binOp .leq t x y t',ty,pos,after,G⟩)(hn:Nat.blt d n=true)(q:∀a,AgM ds a n ((d,.bool (decide (i<=j)))::L)->z0w pq P ops (z0l K) C fu (listed.setIfInBounds D true) a w) :
    z0w pq P ops (z0l K) C (fu+1) listed a w:=
  z6p D hsel h hG I U hn (λw _hw=>by simp[execOp,h.eval O,h.eval Z,eqGuard_leq,binOp_leq]) q
theorem v7t (D:Nat)(hC:C w)(h:AgM ds a n L)(hG:Wd ops n L G)(O:ev L x=some (.int k i))(Z:ev L y=some (.int k j))(I:ops[D]?=some ⟨some d,.binOp .gtr t x y t',ty,pos,after,G⟩)(hn:Nat.blt d n=true)(q:∀a,AgM ds a n ((d,.bool (decide (j<i)))::L)->z0w pq P ops (z0l K) C fu (listed.setIfInBounds D true) a w)(hsel:sdB pq ops listed D=true:=by kernel_rfl) :
    z0w pq P ops (z0l K) C (fu+1) listed a w:=
  z6p D hsel h hG I U hn (λw _hw=>by simp[execOp,h.eval O,h.eval Z,eqGuard_gtr,binOp_gtr]) q
theorem v8q (D:Nat)(hC:C w)(h:AgM ds a n L)(hG:Wd ops n L G)(O:ev L x=some (.int k i))(Z:ev L y=some (.int k j))(I:ops[D]?=some ⟨some d,.binOp .geq t x y t',ty,pos,after,G⟩)(hn:Nat.blt d n=true)(q:∀a,AgM ds a n ((d,.bool (decide (j<=i)))::L)->z0w pq P ops (z0l K) C fu (listed.setIfInBounds D true) a w)(hsel:sdB pq ops listed D=true:=by kernel_rfl) :
    z0w pq P ops (z0l K) C (fu+1) listed a w:=
  z6p D hsel h hG I U hn (λw _hw=>by simp[execOp,h.eval O,h.eval Z,eqGuard_geq,binOp_geq]) q
theorem x5n (D:Nat)(hC:C w)(h:AgM ds a n L)(hG:Wd ops n L G)(O:ev L x=some (.bool b))(I:ops[D]?=some ⟨some d,.unOp .not t x,ty,pos,after,G⟩)(hn:Nat.blt d n=true)(q:∀a,AgM ds a n ((d,.bool (!b))::L)->z0w pq P ops (z0l K) C fu (listed.setIfInBounds D true) a w)(hsel:sdB pq ops listed D=true:=by kernel_rfl) :
    z0w pq P ops (z0l K) C (fu+1) listed a w:=
  z6p D hsel h hG I U hn (λw _hw=>by simp[execOp,h.eval O,unary_not]) q
theorem j1t {z:Int}(D:Nat)(hsel:sdB pq ops listed D=true)(hC:C w)(h:AgM ds a n L)(hG:Wd ops n L G)(hx:ev L x=some (.int k i))(Z:(P.underlying t).isSome=true)(O:P.underlying t'=some (.int k'))(hz:k'.wrap i=z)(I:ops[D]?=some ⟨some d,.convert t t' x,ty,pos,after,G⟩)(hn:Nat.blt d n=true)(q:∀a,AgM ds a n ((d,.int k' z)::L)->z0w pq P ops (z0l K) C fu (listed.setIfInBounds D true) a w) :
    z0w pq P ops (z0l K) C (fu+1) listed a w:=
  z6p D hsel h hG I U hn (λw _hw=>by
    obtain⟨u,hu⟩:=Option.isSome_iff_exists.mp Z
    subst hz;simp[execOp,h.eval hx,convert,run_underlying hu,run_underlying O,Conv.intToInt]) q
theorem j9x {ts:Array TypeId}(D:Nat)(hsel:sdB pq ops listed D=true)(hC:C w)(h:AgM ds a n L)(hG:Wd ops n L G)(O:ev L x=some (.int k i))(Z:ev L y=some (.int k' j))(I:ops[D]?=some ⟨some d,.call ⟨.builtin .min,#[x,y],ts⟩,ty,pos,after,G⟩)(hn:Nat.blt d n=true)(q:∀a,AgM ds a n ((d,.int k (min i j))::L)->z0w pq P ops (z0l K) C fu (listed.setIfInBounds D true) a w) :
    z0w pq P ops (z0l K) C (fu+1) listed a w:=
  z6p D hsel h hG I U hn (λw _hw=>by
    rw[z2d];unfold builtin
    simp only[List.map_toArray,List.map_cons,List.map_nil,h.eval O,h.eval Z,Sem.run_bind,run_min_int2,Result.andThen_ok,Sem.run_pure]
    congr 3;omega) q
theorem z7q (D:Nat)(hC:C w)(h:AgM ds a n L)(hG:Wd ops n L G)(Z:ev L x=some (.slice A m cp))(O:P.underlying t=some (.slice T))(I:ops[D]?=some ⟨some d,.call ⟨.builtin .len,#[x],#[t]⟩,ty,pos,after,G⟩)(q:∀a,AgM ds a n ((d,.int .i64 (m:Int))::L)->z0w pq P ops (z0l K) C fu (listed.setIfInBounds D true) a w)(hsel:sdB pq ops listed D=true:=by kernel_rfl)(hn:Nat.blt d n=true:=by exact U) :
    z0w pq P ops (z0l K) C (fu+1) listed a w:=
  z6p D hsel h hG I U hn (λw _hw=>by
    rw[z2d];unfold builtin
    simp[h.eval Z,Builtin.len_,run_underlying O]
    rfl) q
theorem j4l {p:Nat}{α:Type}{E:Enc α}{D:Nat}(I:Nat)(hsel:sdB pq ops listed I=true)(hC:C w)(h:AgM ds a n L)(hG:Wd ops n L G)(hx:ev L x=some (.slice A m cp))(hz:ev L z=some (.int k' j))(he:ElemOf P t T E D)(h0:0<=j)(h2:j<=cp)(hp:j.toNat=p)(Z:ops[I]?=some ⟨some d,.slice t x none (some z) none,ty,pos,after,G⟩)(hn:Nat.blt d n=true)
    (q:∀a,AgM ds a n ((d,.slice A p cp)::L)->z0w pq P ops (z0l K) C fu (listed.setIfInBounds I true) a w):z0w pq P ops (z0l K) C (fu+1) listed a w:=by
  subst hp
  obtain⟨a1,zv,O,_,a0,_⟩:=he.info
  exact z6p I hsel h hG Z U hn (λw _hw=>by
    have hA:Option.map (λx=>Addr.add x 0) A=A:=by cases A<;>simp[Addr.add]
    simp[execOp,h.eval hx,h.eval hz,Instr.sliceAt,Instr.slice,run_underlying he.und,Instr.sliceBounds,Instr.sliceBound,asIntOf,h0,h2,sizeOf,typeInfo,O,hA]) q
theorem y5j {p p':Nat}{α:Type}{E:Enc α}{D:Nat}(I:Nat)(hC:C w)(h:AgM ds a n L)(hG:Wd ops n L G)(hx:ev L x=some (.slice A m cp))(hy:ev L y=some (.int k i))(hz:ev L z=some (.int k' j))(he:ElemOf P t T E D)(Z:ops[I]?=some ⟨some d,.slice t x (some y) (some z) none,ty,pos,after,G⟩)(hn:Nat.blt d n=true)(q:∀a,AgM ds a n ((d,.slice (if cp=p then A else A.map (·.add (p*E.sz))) (p'-p) (cp-p))::L)->z0w pq P ops (z0l K) C fu (listed.setIfInBounds I true) a w)(hsel:sdB pq ops listed I=true:=by kernel_rfl)(h0:0<=i:=by omega)(h1:i<=j:=by omega)(h2:j<=cp:=by omega)(hp:i.toNat=p:=by omega)(a0:j.toNat=p':=by omega):z0w pq P ops (z0l K) C (fu+1) listed a w:=by
 subst hp a0;obtain⟨a2,zv,O,_,a1,_⟩:=he.info;exact z6p I hsel h hG Z U hn (λw _hw=>by
  have h3:0<=j:=by omega
  have h4:i<=((j.toNat:Nat):Int):=by omega
  simp[execOp,h.eval hx,h.eval hy,h.eval hz,Instr.sliceAt,Instr.slice,run_underlying he.und,Instr.sliceBounds,Instr.sliceBound,asIntOf,h0,h2,h3,h4,sizeOf,typeInfo,O,a1];intro hc;omega) q
theorem x0o {ad:Addr}(D:Nat)(hsel:sdB pq ops listed D=true)(hC:C w)(h:AgM ds a n L)(hG:Wd ops n L G)(hx:ev L x=some (.pointer (some ad)))(O:∀w,C w->w.cell? ad=some v)(Z:z2a P t)(I:ops[D]?=some ⟨some d,.load t x,ty,pos,after,G⟩)(hn:Nat.blt d n=true)(q:∀a,AgM ds a n ((d,v)::L)->z0w pq P ops (z0l K) C fu (listed.setIfInBounds D true) a w) :
    z0w pq P ops (z0l K) C (fu+1) listed a w:=
  z6p D hsel h hG I U hn (λw _hw=>by simp[execOp,h.eval hx,Instr.loadAt,Instr.sureAddr,loadVar,Z w,O w _hw]) q
theorem z2l {ad:Addr}{cs:List Value}(D:Nat)(h:AgM ds a n L)(hG:Wd ops n L G)(hx:ev L x=some (.pointer (some ad)))(Z:∀w,C w->Cells w ad cs)(O:z4i P t cs.length)(I:ops[D]?=some ⟨some d,.load t x,ty,pos,after,G⟩)(q:∀a,AgM ds a n ((d,.agg cs.toArray)::L)->z0w pq P ops (z0l K) C fu (listed.setIfInBounds D true) a w)(hsel:sdB pq ops listed D=true:=by kernel_rfl)(hC:C w:=by exact hC)(hn:Nat.blt d n=true:=by exact U) :
    z0w pq P ops (z0l K) C (fu+1) listed a w:=
  z6p D hsel h hG I U hn (λw _hw=>by simp[execOp,h.eval hx,Instr.loadAt,Instr.sureAddr,loadVar,O.1 w,O.2 w,run_loadCells_list w ad cs (Z w _hw)]) q
theorem z0c {ad:Addr}{f off:Nat}(D:Nat)(h:AgM ds a n L)(O:ev L x=some (.pointer (some ad)))(hf:z0y P t f off)(I:ops[D]?=some ⟨some d,.fieldAddr t x f,ty,pos,after,G⟩)(q:∀a,AgM ds a n ((d,.pointer (some (ad.add off)))::L)->z0w pq P ops (z0l K) C fu (listed.setIfInBounds D true) a w)(hsel:sdB pq ops listed D=true:=by kernel_rfl)(hC:C w:=by exact hC)(hG:Wd ops n L G:=by exact wn)(hn:Nat.blt d n=true:=by exact U) :
    z0w pq P ops (z0l K) C (fu+1) listed a w:=
  z6p D hsel h hG I U hn (λw _hw=>by simp[execOp,h.eval O,hf ad w]) q
theorem z0o {ad:Addr}(D:Nat)(h:AgM ds a n L)(H2:(ops[D]?,ev L x)=(some ⟨some d,.nilCheck x,ty,pos,after,G⟩,some (.pointer (some ad))))(q:∀a,AgM ds a n ((d,.pointer (some ad))::L)->z0w pq P ops (z0l K) C fu (listed.setIfInBounds D true) a w)(hsel:sdB pq ops listed D=true:=by kernel_rfl)(hC:C w:=by exact hC)(hG:Wd ops n L G:=by exact wn)(hn:Nat.blt d n=true:=by exact U) :
    z0w pq P ops (z0l K) C (fu+1) listed a w:=let⟨I,O⟩:=qi2 H2;
  z6p D hsel h hG I U hn (λw _hw=>by simp[execOp,h.eval O]) q
theorem z0p {vs:Array Value}{m:Nat}(D:Nat)(h:AgM ds a n L)(H2:(ops[D]?,ev L x,vs[m]?)=(some ⟨some d,.extract x m,ty,pos,after,G⟩,some (.tuple vs),some v))(q:∀a,AgM ds a n ((d,v)::L)->z0w pq P ops (z0l K) C fu (listed.setIfInBounds D true) a w)(hsel:sdB pq ops listed D=true:=by kernel_rfl)(hC:C w:=by exact hC)(hG:Wd ops n L G:=by exact wn)(hn:Nat.blt d n=true:=by exact U) :
    z0w pq P ops (z0l K) C (fu+1) listed a w:=let⟨I,Z,O⟩:=qi3 H2;
  z6p D hsel h hG I U hn (λw _hw=>by simp[execOp,h.eval Z,Instr.extract,O]) q
end
end
end Go.Lw
namespace Go.Lw
open Go.RowKit
def Enc.b:Enc UInt8:=⟨λc=>[.int .u8 (c.toNat:Int)],1,λ_=>rfl,λ_ u h=>by simp at h;subst h;rfl,dd⟩
section
variable {P:Program} {a:Act} {n:Nat} {L:List (Nat×Value)} {ds:List Nat} {w w':World} {Q:Exit->Act->World->Prop} {C:World->Prop} {Qa:Act->Prop} {ops:Array Oper} {rest:List Oper}
variable {d:Nat} {ty:TypeId} {pos:String} {after:Array Edge} {v u:Value} {x y z:Operand} {t t' T:TypeId} {k k':IntKind} {i j:Int} {b c:Bool} {l l':List UInt8} {A:Option Addr} {m cp:Nat} {g off:Nat} {cs:List Value}
theorem Blk.cellAdd (h:Blk w g T cs)(D:cs[off]?=some v):w.cell? ((⟨g,0,none⟩:Addr).add off)=some v:=by rw[z6o,Nat.zero_add,h.cell];exact D
theorem z0i (O:ev L x=some (.pointer (some ((⟨g,0,none⟩:Addr).add off))))(hb:Blk w g T cs)(I:cs[off]?=some v)(D:z2a P t)(q:WL P ops Q rest n ds w ((d,v)::L))(hn:Nat.blt d n=true:=by exact U):WL P ops Q (⟨some d,.load t x,ty,pos,after,none⟩::rest) n ds w L:=λa h=>x2p h O (hb.cellAdd I) D hn q
theorem z5t (h:AgM ds a n L)(Z:ev L x=some (.pointer (some ((⟨g,0,none⟩:Addr).add off))))(hb:∀w,C w->Blk w g T cs)(I:cs[off]?=some v)(D:z2a P t)(hn:Nat.blt d n=true)(q:∀a,AgM ds a n ((d,v)::L)->wpQuiet P ops C Qa rest a) :
 wpQuiet P ops C Qa (⟨some d,.load t x,ty,pos,after,none⟩::rest) a:=x7i h Z (λw O=>(hb w O).cellAdd I) D hn q
theorem z2j (I:ev L x=some (.pointer (some ⟨g,0,none⟩)))(hb:Blk w g T [v])(D:z2a P t)(q:WL P ops Q rest n ds w ((d,v)::L))(hn:Nat.blt d n=true:=by exact U):WL P ops Q (⟨some d,.load t x,ty,pos,after,none⟩::rest) n ds w L:=λa h=>x2p h I (by rw[hb.cell];rfl) D hn q
theorem y6j (h:AgM ds a n L)(O:ev L x=some (.pointer (some ⟨g,0,none⟩)))(hb:∀w,C w->Blk w g T [v])(D:z2a P t)(hn:Nat.blt d n=true)(q:∀a,AgM ds a n ((d,v)::L)->wpQuiet P ops C Qa rest a) :
 wpQuiet P ops C Qa (⟨some d,.load t x,ty,pos,after,none⟩::rest) a:=x7i h O (λw I=>by rw[(hb w I).cell];rfl) D hn q
theorem z0m (I:ev L x=some (.pointer (some ⟨g,0,none⟩)))(hb:Blk w g T cs)(D:z4i P t cs.length)(q:WL P ops Q rest n ds w ((d,.agg cs.toArray)::L))(hn:Nat.blt d n=true:=by exact U):WL P ops Q (⟨some d,.load t x,ty,pos,after,none⟩::rest) n ds w L:=λa h=>z1v h I hb.cells D hn q
section
variable {K:Act->World->Prop} {fu:Nat} {listed:Array Bool} {pq:Option Nat}
theorem z0j {G:Option (Nat×Bool)}(D:Nat)(h:AgM ds a n L)(hx:ev L x=some (.pointer (some ((⟨g,0,none⟩:Addr).add off))))(hb:∀w,C w->Blk w g T cs)(Z:cs[off]?=some v)(O:z2a P t)(I:ops[D]?=some ⟨some d,.load t x,ty,pos,after,G⟩)(q:∀a,AgM ds a n ((d,v)::L)->z0w pq P ops (z0l K) C fu (listed.setIfInBounds D true) a w)(hsel:sdB pq ops listed D=true:=by kernel_rfl)(hC:C w:=by exact hC)(hG:Wd ops n L G:=by exact wn)(hn:Nat.blt d n=true:=by exact U):z0w pq P ops (z0l K) C (fu+1) listed a w:=
  x0o D hsel hC h hG hx (λw hw=>(hb w hw).cellAdd Z) O I hn q
theorem z3u {G:Option (Nat×Bool)}(D:Nat)(h:AgM ds a n L)(hx:ev L x=some (.pointer (some ⟨g,0,none⟩)))(hb:∀w,C w->Blk w g T [v])(O:z2a P t)(I:ops[D]?=some ⟨some d,.load t x,ty,pos,after,G⟩)(q:∀a,AgM ds a n ((d,v)::L)->z0w pq P ops (z0l K) C fu (listed.setIfInBounds D true) a w)(hsel:sdB pq ops listed D=true:=by kernel_rfl)(hC:C w:=by exact hC)(hG:Wd ops n L G:=by exact wn)(hn:Nat.blt d n=true:=by exact U):z0w pq P ops (z0l K) C (fu+1) listed a w:=
  x0o D hsel hC h hG hx (λw Z=>by rw[(hb w Z).cell];rfl) O I hn q
theorem z0z {G:Option (Nat×Bool)}(D:Nat)(h:AgM ds a n L)(hx:ev L x=some (.pointer (some ⟨g,0,none⟩)))(hb:∀w,C w->Blk w g T cs)(O:z4i P t cs.length)(I:ops[D]?=some ⟨some d,.load t x,ty,pos,after,G⟩)(q:∀a,AgM ds a n ((d,.agg cs.toArray)::L)->z0w pq P ops (z0l K) C fu (listed.setIfInBounds D true) a w)(hsel:sdB pq ops listed D=true:=by kernel_rfl)(hC:C w:=by exact hC)(hG:Wd ops n L G:=by exact wn)(hn:Nat.blt d n=true:=by exact U):z0w pq P ops (z0l K) C (fu+1) listed a w:=
  z2l D h hG hx (λw Z=>(hb w Z).cells) O I q (hsel:=hsel) (hn:=hn)
end
theorem z8f {ad:Addr}(h:AgM ds a n L)(Z:ev L x=some (.pointer (some ad)))(D:∀w,C w->Cells w ad [v])(I:z2a P t)(hn:Nat.blt d n=true)(q:∀a,AgM ds a n ((d,v)::L)->wpQuiet P ops C Qa rest a) :
 wpQuiet P ops C Qa (⟨some d,.load t x,ty,pos,after,none⟩::rest) a:=x7i h Z (λw O=>by have:=D w O 0 v U;rwa [Addr.add_zero']at this) I hn q
theorem x9d {G:Option (Nat×Bool)}{α:Type}{E:Enc α}{D p:Nat}{ad:Addr}(h:AgM ds a n L)(hx:ev L x=some (.slice (some ad) m cp))(hy:ev L y=some (.int k i))(Z:ElemOf P t T E D)(h0:0<=i)(hi:i<m)(hp:i.toNat=p) :
    (execOp a.eval ⟨some d,.indexAddr t x y,ty,pos,after,G⟩).run P w=.ok (.value (.pointer (some (ad.add (p*E.sz))))) w:=by
  subst hp
  obtain⟨a0,zv,I,_,O,_⟩:=Z.info
  simp[execOp,h.eval hx,h.eval hy,Instr.indexAt,asIntOf,run_underlying Z.und,h0,hi,sizeOf,typeInfo,I,O]
theorem y6s {α:Type}{E:Enc α}{D p:Nat}{ad:Addr}(h:AgM ds a n L)(hx:ev L x=some (.slice (some ad) m cp))(hy:ev L y=some (.int k i))(O:ElemOf P t T E D)(I:0<=i)(Z:i<m)(hp:i.toNat=p)(hn:Nat.blt d n=true)
    (q:∀a,AgM ds a n ((d,.pointer (some (ad.add (p*E.sz))))::L)->wpList P ops Q rest a w):wpList P ops Q (⟨some d,.indexAddr t x y,ty,pos,after,none⟩::rest) a w:=
  z2m h U hn (x9d h hx hy O I Z hp) q
theorem y1c {α:Type}{E:Enc α}{D p:Nat}{ad:Addr}(hx:ev L x=some (.slice (some ad) m cp))(hy:ev L y=some (.int k i))(O:ElemOf P t T E D)(q:WL P ops Q rest n ds w ((d,.pointer (some (ad.add (p*E.sz))))::L))(I:0<=i:=by omega)(Z:i<m:=by omega)(hp:i.toNat=p:=by omega)(hn:Nat.blt d n=true:=by exact U):WL P ops Q (⟨some d,.indexAddr t x y,ty,pos,after,none⟩::rest) n ds w L:=λa h=>y6s h hx hy O I Z hp hn q
theorem j5z {α:Type}{E:Enc α}{D p:Nat}{ad:Addr}(h:AgM ds a n L)(hx:ev L x=some (.slice (some ad) m cp))(hy:ev L y=some (.int k i))(O:ElemOf P t T E D)(I:0<=i)(Z:i<m)(hp:i.toNat=p)(hn:Nat.blt d n=true)
    (q:∀a,AgM ds a n ((d,.pointer (some (ad.add (p*E.sz))))::L)->wpQuiet P ops C Qa rest a):wpQuiet P ops C Qa (⟨some d,.indexAddr t x y,ty,pos,after,none⟩::rest) a:=
  y1m h U hn (λ_ _=>x9d h hx hy O I Z hp) q
theorem z1o {G:Option (Nat×Bool)}{K:Act->World->Prop}{fu:Nat}{listed:Array Bool}{pq:Option Nat}{α:Type}{E:Enc α}{D p:Nat}{ad:Addr}(I:Nat)(hsel:sdB pq ops listed I=true)(hC:C w)(h:AgM ds a n L)(hG:Wd ops n L G)
    (H5:(ev L x,ev L y)=(some (.slice (some ad) m cp),some (.int k i))) (he:ElemOf P t T E D) (h0:0<=i) (hi:i<m) (hp:i.toNat=p) (hix:ops[I]?=some ⟨some d,.indexAddr t x y,ty,pos,after,G⟩) (hn:Nat.blt d n=true)
    (q:∀a,AgM ds a n ((d,.pointer (some (ad.add (p*E.sz))))::L)->z0w pq P ops (z0l K) C fu (listed.setIfInBounds I true) a w):z0w pq P ops (z0l K) C (fu+1) listed a w:=let⟨hx,hy⟩:=qi2 H5;
  z6p I hsel h hG hix U hn (λ_ _=>x9d h hx hy he h0 hi hp) q
theorem z9b {ad:Addr}(Z:ev L x=some (.pointer (some (ad.add off))))(D:Cells w ad cs)(O:cs[off]?=some v)(I:z2a P t)(q:WL P ops Q rest n ds w ((d,v)::L))(hn:Nat.blt d n=true:=by exact U):WL P ops Q (⟨some d,.load t x,ty,pos,after,none⟩::rest) n ds w L:=λa h=>x2p h Z (D off v O) I hn q
theorem z1a {ad:Addr}(O:ev L x=some (.pointer (some ad)))(D:Cells w ad [v])(I:z2a P t)(q:WL P ops Q rest n ds w ((d,v)::L))(hn:Nat.blt d n=true:=by exact U):WL P ops Q (⟨some d,.load t x,ty,pos,after,none⟩::rest) n ds w L:=λa h=>x2p h O (by have:=D 0 v U;rwa [Addr.add_zero']at this) I hn q
theorem y2g (h:AgM ds a n L)(Z:ev L x=some (.pointer (some ((⟨g,0,none⟩:Addr).add off))))(hy:ev L y=some v)(hb:Blk w g T cs)(I:Nat.blt off cs.length=true)(h1:v.oneCell'=true)(D:v.cells=#[v])(O:z1r P t 1)
    (q:∀w',Blk w' g T (cs.set off v)->Fr [g] w w'->w'.heap.size=w.heap.size->∀a,AgM ds a n L->wpList P ops Q rest a w'):wpList P ops Q (⟨none,.store t x y,ty,pos,after,none⟩::rest) a w:=
  v0y (o:=off) h (by rw[Z,z6o,Nat.zero_add]) hy hb I h1 D O q
theorem z5w (Z:ev L x=some (.pointer (some ((⟨g,0,none⟩:Addr).add off))))(hy:ev L y=some v)(hb:Blk w g T cs)(D:v.cells=#[v])(O:z1r P t 1)(q:∀w',Blk w' g T (cs.set off v)->Fr [g] w w'->w'.heap.size=w.heap.size->WL P ops Q rest n ds w' L)(I:Nat.blt off cs.length=true:=by exact U)(h1:v.oneCell'=true:=by exact U):WL P ops Q (⟨none,.store t x y,ty,pos,after,none⟩::rest) n ds w L:=λa h=>y2g h Z hy hb I h1 D O q
theorem z5e (h:AgM ds a n L)(O:ev L x=some (.pointer (some ⟨g,0,none⟩)))(Z:ev L y=some v)(hb:Blk w g T [u])(h1:v.oneCell'=true)(D:v.cells=#[v])(I:z1r P t 1)
    (q:∀w',Blk w' g T [v]->Fr [g] w w'->w'.heap.size=w.heap.size->∀a,AgM ds a n L->wpList P ops Q rest a w'):wpList P ops Q (⟨none,.store t x y,ty,pos,after,none⟩::rest) a w:=
  v0y (o:=0) h O Z hb U h1 D I q
theorem z2u (H0:(ev L x,ev L y)=(some (.pointer (some ⟨g,0,none⟩)),some v))(hb:Blk w g T [u])(D:v.cells=#[v])(I:z1r P t 1)(q:∀w',Blk w' g T [v]->Fr [g] w w'->w'.heap.size=w.heap.size->WL P ops Q rest n ds w' L)(h1:v.oneCell'=true:=by exact U):WL P ops Q (⟨none,.store t x y,ty,pos,after,none⟩::rest) n ds w L:=let⟨O,Z⟩:=qi2 H0;λa h=>z5e h O Z hb h1 D I q
theorem z0v {vs:List Value}(h:AgM ds a n L)(H1:(ev L x,ev L y)=(some (.pointer (some ⟨g,0,none⟩)),some (.agg vs.toArray)))(hb:Blk w g T cs)(hl:vs.length=cs.length)(I:z1r P t vs.length)(q:∀w',Blk w' g T vs->Fr [g] w w'->w'.heap.size=w.heap.size->∀a,AgM ds a n L->wpList P ops Q rest a w')(h1:∀u∈vs,u.oneCell'=true:=by first|(simp[Value.oneCell',S];done)|exact Enc.one _ _):wpList P ops Q (⟨none,.store t x y,ty,pos,after,none⟩::rest) a w:=by
 obtain⟨O,Z⟩:=qi2 H1
 have D:=run_storeCells_at P g 0 T vs 0 cs.toArray w hb so h1;refine z9v h U U (w':=w.setRow g vs.toArray) ?_ (q _ ?_ (Fr.setRow w g _) sp0);simp[execOp,h.eval O,h.eval Z,Instr.storeAt,Instr.sureAddr,storeVar,I w,Value.cells,D,hl];unfold Blk;exact setRow_heap w g cs.toArray _ T (0,0) hb
theorem z0k {vs:List Value}(H0:(ev L x,ev L y)=(some (.pointer (some ⟨g,0,none⟩)),some (.agg vs.toArray)))(hb:Blk w g T cs)(D:z1r P t vs.length)(q:∀w',Blk w' g T vs->Fr [g] w w'->w'.heap.size=w.heap.size->WL P ops Q rest n ds w' L)(hl:vs.length=cs.length:=by rfl)(h1:∀u∈vs,u.oneCell'=true:=by first|(simp[Value.oneCell',S];done)|exact Enc.one _ _):WL P ops Q (⟨none,.store t x y,ty,pos,after,none⟩::rest) n ds w L:=let⟨I,O⟩:=qi2 H0;λa h=>z0v h (pi2 I O) hb hl D q (h1:=h1)
theorem v7o {G:Option (Nat×Bool)}{ad:Addr}{N sz:Nat}(h:AgM ds a n L)(Z:ev L x=some (.pointer (some ad)))(hy:ev L y=some (.int k i))(O:P.underlying t=some (.array N T))(I:z1r P T sz)(D:0<=i)(h1:i<N) :
    (execOp a.eval ⟨some d,.indexAddr t x y,ty,pos,after,G⟩).run P w=.ok (.value (.pointer (some (ad.add (i.toNat*sz))))) w:=by
  simp[execOp,h.eval Z,h.eval hy,Instr.indexAt,asIntOf,run_underlying O,Instr.sureAddr,D,h1,I w]
theorem y1f {ad:Addr}{N sz:Nat}(Z:ev L x=some (.pointer (some ad)))(hy:ev L y=some (.int k i))(O:P.underlying t=some (.array N T))(I:z1r P T sz)(q:WL P ops Q rest n ds w ((d,.pointer (some (ad.add (i.toNat*sz))))::L))(D:0<=i:=by omega)(h1:i<N:=by omega)(hn:Nat.blt d n=true:=by exact U):WL P ops Q (⟨some d,.indexAddr t x y,ty,pos,after,none⟩::rest) n ds w L:=λa h=>z2m h U hn (v7o h Z hy O I D h1) q
theorem j8k {vs:List Value}{N:Nat}(hx:ev L x=some (.agg vs.toArray))(hy:ev L y=some (.int k i))(Z:P.underlying t=some (.array N T))(O:z1r P T 1)(I:z2a P T)(D:0<=i)(h1:i<N)(hv:vs[i.toNat]?=some v)(hn:Nat.blt d n=true)(q:WL P ops Q rest n ds w ((d,v)::L)):WL P ops Q (⟨some d,.index t x y,ty,pos,after,none⟩::rest) n ds w L:=λa h=>z2m h U hn (by simp[execOp,h.eval hx,h.eval hy,Instr.index,asIntOf,run_underlying Z,D,h1,O w,part,I w,hv]) q
theorem x5f (vs:List Value):∀(off:Nat) (cs:Array Value),off+vs.length<=cs.size->
    ((vs.zipIdx 0).foldl (λcs (p:Value×Nat)=>cs.setIfInBounds (off+p.2) p.1) cs)=(cs.toList.take off++vs++cs.toList.drop (off+vs.length)).toArray:=by
  have D:∀(vs:List Value) (s off:Nat) (cs:Array Value),off+s+vs.length<=cs.size->
      ((vs.zipIdx s).foldl (λcs (p:Value×Nat)=>cs.setIfInBounds (off+p.2) p.1) cs)=(cs.toList.take (off+s)++vs++cs.toList.drop (off+s+vs.length)).toArray:=by
    intro vs
    induction vs with
    | nil=>intro s off cs _;simp
    | cons v vs ih=>
      intro s off cs hl
      simp only[List.zipIdx_cons,List.foldl_cons]
      rw[show s+1=s+1 from U,ih (s+1) off _ (by simp at hl ⊢;omega)]
      have e:=list_seg_step cs.toList (off+s) v vs (by simp at hl ⊢;omega)
      simpa[Array.toList_setIfInBounds,Nat.add_assoc] using e
  intro off cs h
  simpa using D vs 0 off cs (by simpa using h)
theorem v2h {α:Type}(E:Enc α):∀(ys:List α) (vs:List Value) (s:Nat) (cs:Array Value) (N:Nat),vs.map Value.cells=ys.map (λy=>(E.enc y).toArray)->cs.size=N*E.sz->s+ys.length=N->
    Instr.fill (λi=>some (i*E.sz,E.sz)) cs ((List.range' s ys.length).zip vs)=some (cs.toList.take (s*E.sz)++ys.flatMap E.enc).toArray
  | [],_,s,cs,N,_,hc,hN=>by
    simp only[List.length_nil,List.range'_zero,List.zip_nil_left,Instr.fill,List.flatMap_nil,List.append_nil]
    rw[List.take_of_length_le (by simp[hc];rw[<-hN];simp)]
  | y::ys,[],s,cs,N,h,_,_=>by simp at h
  | y::ys,v::vs,s,cs,N,h,hc,hN=>by
    simp only[List.map_cons,List.cons.injEq]at h
    obtain⟨Z,hr⟩:=h
    simp only[List.length_cons]at hN ⊢
    rw[List.range'_succ,List.zip_cons_cons]
    simp only[Instr.fill]
    have O:v.cells.size=E.sz:=by rw[Z];simp[E.len]
    have I:s*E.sz+E.sz<=cs.size:=by
      rw[hc]
      have:(s+1)*E.sz<=N*E.sz:=Nat.mul_le_mul_right _ oo
      rw[Nat.add_mul,Nat.one_mul]at this;exact this
    rw[if_neg (by simp[O];omega)]
    have D:(v.cells.zipIdx.foldl (λcs (p:Value×Nat)=>cs.setIfInBounds (s*E.sz+p.2) p.1) cs)=(cs.toList.take (s*E.sz)++E.enc y++cs.toList.drop (s*E.sz+(E.enc y).length)).toArray:=by
      rw[<-x5f (E.enc y) (s*E.sz) cs (by rw[E.len];exact I),Z]
      simp[<-Array.foldl_toList]
    have:=v2h E ys vs (s+1) (cs.toList.take (s*E.sz)++E.enc y++cs.toList.drop (s*E.sz+(E.enc y).length)).toArray N hr (by simp[E.len];omega) oo
    rw[D,this]
    congr 2
    rw[List.flatMap_cons,<-List.append_assoc]
    congr 1
    rw[Nat.add_mul,Nat.one_mul]
    have h2:s*E.sz+E.sz=(cs.toList.take (s*E.sz)++E.enc y).length:=by simp[E.len];omega
    rw[h2]
    exact List.take_left
theorem y7x {a:Act}:∀(ps:List (Nat×Operand)),ps.map (λp=>(p.1,a.eval p.2))=(ps.map (λp=>p.1)).zip (ps.map (a.eval ∘ λp=>p.2))
 | []=>rfl
 | p::ps=>by simp only[List.map_cons,List.zip_cons_cons,y7x ps];rfl
theorem z2i {α:Type}{E:Enc α}{O len:Nat}{D:List (Nat×Operand)}{vs:List Value}(ys:List α)(h:AgM ds a n L)(hp:evs L (D.map (·.2)) vs)(H3:(D.map (·.1),vs.map Value.cells,ys.length)=(List.range' 0 ys.length,ys.map (λy=>(E.enc y).toArray),len))(he:ElemOf P t T E O)(q:∀g w',g=w.heap.size->Own E T g w' (.slice (some ⟨g,0,none⟩) len len) ys->Fr [] w w'->w'.heap.size=g+1->∀a,AgM ds a n ((d,.slice (some ⟨g,0,none⟩) len len)::L)->wpList P ops Q rest a w')(hsm:len*E.sz<=16777216:=by exact(Nat.le_of_ble_eq_true U))(hn:Nat.blt d n=true:=by exact U) :
    wpList P ops Q (⟨some d,.buildSlice t len D.toArray,ty,pos,after,none⟩::rest) a w:=by
  obtain⟨hi,hy,hl⟩:=qi3 H3
  obtain⟨a6,zv,Z,hz,a1,a4,a5⟩:=he.info
  have hm:D.map (λp=>(p.1,a.eval p.2))=(List.range' 0 ys.length).zip vs:=by
    have h1:=h.evals hp
    rw[List.map_map]at h1
    rw[<-hi,<-h1]
    exact y7x D
  have I:=v2h E ys vs 0 ((Array.range (len*E.sz)).map (zv.cells[· % zv.cells.size]!)) len hy sp0 oo
  rw[Nat.zero_mul,List.take_zero,List.nil_append]at I
  have a2:¬16777216<len*E.sz:=by omega
  refine z2m h U hn (w':=w.alloc (.cells (ys.flatMap E.enc).toArray T)) ?_ (q _ _ U ?_ (Fr.alloc [] w _) sp0)
  · simp only[execOp,List.map_toArray,hm,Instr.buildSlice,Sem.run_bind,run_underlying he.und,Result.andThen_ok,sizeOf,typeInfo,Sem.run_pure]
    by_cases h0:len*E.sz=0
    · have a0:len=0:=by
        rcases Nat.mul_eq_zero.1 h0 with h|h
        · exact h
        · have:=E.pos;omega
      subst a0
      have a3:ys=[]:=List.eq_nil_of_length_eq_zero hl
      subst a3
      simp[Z,a1,Instr.fill,newRow]
      rw[show Array.range 0=#[] from U];simp
    · simp[Z,a1,h0,a2,zeroValue,typeInfo,hz,newRow,I]
  · exact .inr ⟨_,len,_,by rw[hl],Nat.le_refl _,heap_alloc_new w _,oo,by simp only[maxLen];have:=E.pos;have:len<=len*E.sz:=Nat.le_mul_of_pos_right _ E.pos;omega,by simp[E.flat_len,hl],by
      rw[List.take_of_length_le (by simp[E.flat_len])]⟩
theorem z1w {α:Type}{E:Enc α}{I len:Nat}{D:List (Nat×Operand)}{vs:List Value}(ys:List α)(hp:evs L (D.map (·.2)) vs)(H2:(D.map (·.1),vs.map Value.cells,ys.length)=(List.range' 0 ys.length,ys.map (λy=>(E.enc y).toArray),len))(O:ElemOf P t T E I)(q:∀g w',g=w.heap.size->Own E T g w' (.slice (some ⟨g,0,none⟩) len len) ys->Fr [] w w'->w'.heap.size=g+1->WL P ops Q rest n ds w' ((d,.slice (some ⟨g,0,none⟩) len len)::L))(hsm:len*E.sz<=16777216:=by exact(Nat.le_of_ble_eq_true U))(hn:Nat.blt d n=true:=by exact U):WL P ops Q (⟨some d,.buildSlice t len D.toArray,ty,pos,after,none⟩::rest) n ds w L:=let⟨Z,hy,hl⟩:=qi3 H2;λa h=>z2i ys h hp (pi3 Z hy hl) O q (hsm:=hsm) (hn:=hn)
theorem z4q {fn:Fn}{fs cs:List Operand}{us vs:List Value}(h1:evs L fs us)(D:evs L cs vs)(q:WL P ops Q rest n ds w ((d,.func fn us.toArray vs.toArray)::L))(hn:Nat.blt d n=true:=by exact U):WL P ops Q (⟨some d,.makeFunc fn fs.toArray cs.toArray,ty,pos,after,none⟩::rest) n ds w L:=λa h=>z2m h U hn (by simp[execOp,Instr.makeFunc,h.evals h1,h.evals D]) q
theorem z4y {f:FuncId}{xs:List Operand}{vs us ws:List Value}{ts:Array TypeId}{Φ:Value->World->Prop}(h:AgM ds a n L)(Z:ev L y=some (.func (.func f) us.toArray ws.toArray))(O:evs L xs vs)(hf:CallOf P f)(D:Rets P f (us++vs++ws).toArray w Φ)(I:∀g,y≠.func g)(q:∀v w',Φ v w'->∀a,AgM ds a n ((d,v)::L)->wpList P ops Q rest a w')(hn:Nat.blt d n=true:=by exact U):wpList P ops Q (⟨some d,.call ⟨.value y,xs.toArray,ts⟩,ty,pos,after,none⟩::rest) a w:=
  v2g (w':=w) h U U hn (by
    simp only[execOp,resolve,h.eval Z,Deferred.ofValue,Sem.run_bind,Sem.run_pure,Result.andThen_ok,invoke,List.map_toArray,h.evals O,List.append_toArray]
    exact hf _ _) D q
theorem clv {f:FuncId}{xs:List Operand}{vs us ws:List Value}{ts:Array TypeId}{Φ:Value->World->Prop}(Z:ev L y=some (.func (.func f) us.toArray ws.toArray))(O:evs L xs vs)(hf:CallOf P f)(I:Rets P f (us++vs++ws).toArray w Φ)(hn:Nat.blt d n=true)(D:∀g,y≠.func g)(q:∀v w',Φ v w'->WL P ops Q rest n ds w' ((d,v)::L)):WL P ops Q (⟨some d,.call ⟨.value y,xs.toArray,ts⟩,ty,pos,after,none⟩::rest) n ds w L:=λa h=>z4y h Z O hf I D q (hn:=hn)
def y0e (cs:List Value)(off:Nat)(vs:List Value):List Value:=cs.take off++vs++cs.drop (off+vs.length)
def z7z (pl:List (Nat×Nat))(m:Nat):List (Nat×Value)->Prop
  | []=>True
  | p::r=>(∃q,pl[p.1]?=some q/\p.2.cells.size=q.2/\Nat.ble (q.1+q.2) m=true)/\z7z pl m r
theorem z0t {pl:List (Nat×Nat)}{m:Nat}:z7z pl m []:=trivial
theorem z0f {pl:List (Nat×Nat)}{m i:Nat}{q:Nat×Nat}{v:Value}{r:List (Nat×Value)}(H0:(pl[i]?,v.cells.size,Nat.ble (q.1+q.2) m)=(some q,q.2,true))(O:z7z pl m r):z7z pl m ((i,v)::r):=let⟨h1,D,I⟩:=qi3 H0;⟨⟨q,h1,D,I⟩,O⟩
def y7b (pl:List (Nat×Nat))(zs:List Value)(ps:List (Nat×Value)):List Value:=ps.foldl (λcs p=>y0e cs (pl.getD p.1 (0,0)).1 p.2.cells.toList) zs
def BuildAt (P:Program)(t:TypeId)(pl:List (Nat×Nat))(zs:List Value):Prop:=∀(ps:List (Nat×Value)) (w:World),z7z pl zs.length ps->(Instr.build t ps.toArray).run P w=.ok (.agg (y7b pl zs ps).toArray) w
theorem v3g (cs vs:List Value)(off:Nat)(h:off+vs.length<=cs.length):(y0e cs off vs).length=cs.length:=by simp[y0e];omega
theorem y1w (pl:List (Nat×Nat))(f:Nat->Option (Nat×Nat))(hf:∀i q,pl[i]?=some q->f i=some q):∀(ps:List (Nat×Value)) (cs:List Value),z7z pl cs.length ps->Instr.fill f cs.toArray ps=some (y7b pl cs ps).toArray
 | [],cs,_=>rfl
 | (i,v)::ps,cs,⟨⟨q,h1,h2,h3⟩,hr⟩=>by
  have I:q.1+q.2<=cs.length:=by simpa[Nat.ble_eq] using h3
  have hl:v.cells.toList.length=q.2:=by simpa using h2
  have O:(y0e cs q.1 v.cells.toList).length=cs.length:=v3g _ _ _ (by rw[hl];exact I)
  have D:(v.cells.zipIdx.foldl (λcs (p:Value×Nat)=>cs.setIfInBounds (q.1+p.2) p.1) cs.toArray)=(y0e cs q.1 v.cells.toList).toArray:=by
   have e:=x5f v.cells.toList q.1 cs.toArray (by simpa[h2] using I)
   rw[y0e]
   simp only at e
   rw[<-e,<-Array.foldl_toList,Array.toList_zipIdx]
  simp only[Instr.fill,hf i q h1]
  rw[if_neg (by simp[h2];omega)]
  rw[D,y1w pl f hf ps _ (by rw[O];exact hr)]
  simp[y7b,List.getD,h1]
theorem BuildAt.struct {t:TypeId}{fs:Array Field}{pl:List (Nat×Nat)}{zs:List Value}(O:P.underlying t=some (.struct fs))(Z:∀w:World,(zeroValue t).run P w=.ok (.agg zs.toArray) w)
    (hp:∀w:World,(fs.mapM λf=>do pure (f.offset,<-sizeOf f.type):Sem (Array (Nat×Nat))).run P w=.ok pl.toArray w):BuildAt P t pl zs:=by
  intro ps w I
  have D:=y1w pl (λi=>pl.toArray[i]?) (λi q h=>by simpa using h) ps zs I
  simp only[Instr.build,Sem.run_bind,Z w,Result.andThen_ok,run_underlying O,hp w,Value.cells,D]
  rfl
theorem BuildAt.array {t T:TypeId}{N sz:Nat}{pl:List (Nat×Nat)}{zs:List Value}(Z:P.underlying t=some (.array N T))(hz:∀w:World,(zeroValue t).run P w=.ok (.agg zs.toArray) w)(O:z1r P T sz)
    (hp:∀i q,pl[i]?=some q->q=(i*sz,sz)):BuildAt P t pl zs:=by
  intro ps w I
  have D:=y1w pl (λi=>some (i*sz,sz)) (λi q h=>by rw[hp i q h]) ps zs I
  simp only[Instr.build,Sem.run_bind,hz w,Result.andThen_ok,run_underlying Z,O w,Value.cells,D]
  rfl
theorem y0g {vs cs':List Value}(Z:ev L x=some (.pointer (some ((⟨g,0,none⟩:Addr).add off))))(hy:ev L y=some (.agg vs.toArray))(hb:Blk w g T cs)(hl:Nat.ble (off+vs.length) cs.length=true)(h1:∀u∈vs,u.oneCell'=true)(hs:z1r P t vs.length)(I:y0e cs off vs=cs')(q:∀w',Blk w' g T cs'->Fr [g] w w'->w'.heap.size=w.heap.size->WL P ops Q rest n ds w' L):WL P ops Q (⟨none,.store t x y,ty,pos,after,none⟩::rest) n ds w L:=λa h=>by
  subst I
  rw[z6o,Nat.zero_add]at Z
  have O:=run_storeCells_at P g off T vs 0 cs.toArray w hb (by have:=Nat.le_of_ble_eq_true hl;simp;omega) h1
  refine z9v h U U (w':=w.setRow g (y0e cs off vs).toArray) ?_ (q _ ?_ (Fr.setRow w g _) sp0)
  · have D:(storeCells ⟨g,off,none⟩ vs 0).run P w=.ok () (w.setRow g (y0e cs off vs).toArray):=by simpa[y0e] using O
    simp[execOp,h.eval Z,h.eval hy,Instr.storeAt,Instr.sureAddr,storeVar,hs w,Value.cells,D]
  · unfold Blk;exact setRow_heap w g cs.toArray _ T (0,0) hb
theorem u8h {G:Option (Nat×Bool)}{pl:List (Nat×Nat)}{zs cs:List Value}{D:List (Nat×Operand)}{vs:List Value}(h:AgM ds a n L)(hp:evs L (D.map (·.2)) vs)(hb:BuildAt P t pl zs)(I:z7z pl zs.length ((D.map (·.1)).zip vs))(O:y7b pl zs ((D.map (·.1)).zip vs)=cs) :
    (execOp a.eval ⟨some d,.build t D.toArray,ty,pos,after,G⟩).run P w=.ok (.value (.agg cs.toArray)) w:=by
  have Z:D.map (λp=>(p.1,a.eval p.2))=(D.map (·.1)).zip vs:=by
    rw[y7x,<-h.evals hp,List.map_map]
  simp only[execOp,List.map_toArray,Z,Sem.run_bind,hb _ w I,Result.andThen_ok,Sem.run_pure,O]
theorem z1z {pl:List (Nat×Nat)}{zs cs:List Value}{D:List (Nat×Operand)}{vs:List Value}(hp:evs L (D.map (·.2)) vs)(hb:BuildAt P t pl zs)(I:z7z pl zs.length ((D.map (·.1)).zip vs))(O:y7b pl zs ((D.map (·.1)).zip vs)=cs)(q:WL P ops Q rest n ds w ((d,.agg cs.toArray)::L))(hn:Nat.blt d n=true:=by exact U):WL P ops Q (⟨some d,.build t D.toArray,ty,pos,after,none⟩::rest) n ds w L:=λa h=>z2m h U hn (u8h h hp hb I O) q
theorem z3m {G:Option (Nat×Bool)}{K:Act->World->Prop}{fu:Nat}{listed:Array Bool}{pq:Option Nat}(I:Nat){pl:List (Nat×Nat)}{zs cs:List Value}{D:List (Nat×Operand)}{vs:List Value}(h:AgM ds a n L)(hp:evs L (D.map (·.2)) vs)(hb:BuildAt P t pl zs)(Z:z7z pl zs.length ((D.map (·.1)).zip vs))(hc:y7b pl zs ((D.map (·.1)).zip vs)=cs)(O:ops[I]?=some ⟨some d,.build t D.toArray,ty,pos,after,G⟩)(q:∀a,AgM ds a n ((d,.agg cs.toArray)::L)->z0w pq P ops (z0l K) C fu (listed.setIfInBounds I true) a w)(hsel:sdB pq ops listed I=true:=by kernel_rfl)(hC:C w:=by exact hC)(hG:Wd ops n L G:=by exact wn)(hn:Nat.blt d n=true:=by exact U):z0w pq P ops (z0l K) C (fu+1) listed a w:=
  z6p I hsel h hG O U hn (λ_ _=>u8h h hp hb Z hc) q
def u0s {α:Type}[DecidableEq α](P:Program)(t:TypeId)(V:α->Value):Prop:=
  ∀(e f:α) (ox oy:Operand) (w:World),(eqGuard .eql t ox oy (V e) (V f)).run P w=.ok () w/\(eqGuard .neq t ox oy (V e) (V f)).run P w=.ok () w/\
    (binOp .eql t (V e) (V f)).run P w=.ok (.bool (decide (e=f))) w/\(binOp .neq t (V e) (V f)).run P w=.ok (.bool (!decide (e=f))) w
section
variable {α:Type} [DecidableEq α] {V:α->Value} {e f:α}
theorem k0k {G:Option (Nat×Bool)}(h:AgM ds a n L)(Z:ev L x=some (V e))(hy:ev L y=some (V f))(O:u0s P t V):(execOp a.eval ⟨some d,.binOp .eql t x y t',ty,pos,after,G⟩).run P w=.ok (.value (.bool (decide (e=f)))) w:=by
 obtain⟨D,_,I,_⟩:=O e f x y w;simp[execOp,h.eval Z,h.eval hy,D,I]
theorem j9m {G:Option (Nat×Bool)}(h:AgM ds a n L)(Z:ev L x=some (V e))(hy:ev L y=some (V f))(O:u0s P t V):(execOp a.eval ⟨some d,.binOp .neq t x y t',ty,pos,after,G⟩).run P w=.ok (.value (.bool (decide (e≠f)))) w:=by
 obtain⟨_,D,_,I⟩:=O e f x y w;simp[execOp,h.eval Z,h.eval hy,D,I]
theorem k2x (I:ev L x=some (V e))(O:ev L y=some (V f))(D:u0s P t V)(hn:Nat.blt d n=true)(q:WL P ops Q rest n ds w ((d,.bool (decide (e=f)))::L)):WL P ops Q (⟨some d,.binOp .eql t x y t',ty,pos,after,none⟩::rest) n ds w L:=λa h=>z2m h U hn (k0k h I O D) q
theorem j0j (I:ev L x=some (V e))(O:ev L y=some (V f))(D:u0s P t V)(hn:Nat.blt d n=true)(q:WL P ops Q rest n ds w ((d,.bool (decide (e≠f)))::L)):WL P ops Q (⟨some d,.binOp .neq t x y t',ty,pos,after,none⟩::rest) n ds w L:=λa h=>z2m h U hn (j9m h I O D) q
end
theorem retC {fn:Func}{R:Ending->World->Prop}{p pt:Nat}(h:Ag a n L)(O:fn.results=#[.cell p pt])(hp:look L p=some (.pointer (some ⟨g,0,none⟩)))(hb:Blk w g T cs)(I:z4i P pt cs.length)(k:R (.returned (.agg cs.toArray)) w):bodyPost P fn R .ret a w:=
 bodyPost_ret (v:=.agg cs.toArray) (by
  have D:=h.at_ p _ hp
  simp only[Array.getD_eq_getD_getElem?]at D
  simp[results,O,D,asAddr,loadVar,I.1 w,I.2 w,run_loadCells_list w _ cs hb.cells]) h.dfr k
theorem k4c {fn:Func}{R:Ending->World->Prop}{p pt q:Nat}(h:Ag a n L)(Z:fn.results=#[.cell p pt,.tmp q])(hp:look L p=some (.pointer (some ⟨g,0,none⟩)))(hb:Blk w g T cs)(O:z4i P pt cs.length)(hv:look L q=some v)(k:R (.returned (.tuple #[.agg cs.toArray,v])) w):bodyPost P fn R .ret a w:=
 bodyPost_ret (v:=.tuple #[.agg cs.toArray,v]) (by
  have D:=h.at_ p _ hp
  have I:=h.at_ q _ hv
  simp only[Array.getD_eq_getD_getElem?]at D I
  simp[results,Z,D,I,asAddr,loadVar,O.1 w,O.2 w,run_loadCells_list w _ cs hb.cells]) h.dfr k
theorem k0f {fn:Func}{R:Ending->World->Prop}{p pt q r:Nat}(h:Ag a n L)(hr:fn.results=#[.cell p pt,.tmp q,.tmp r])(hp:look L p=some (.pointer (some ⟨g,0,none⟩)))(hb:Blk w g T cs)(Z:z4i P pt cs.length)(hv:look L q=some v)(hu:look L r=some u)(k:R (.returned (.tuple #[.agg cs.toArray,v,u])) w):bodyPost P fn R .ret a w:=
 bodyPost_ret (v:=.tuple #[.agg cs.toArray,v,u]) (by
  have D:=h.at_ p _ hp
  have I:=h.at_ q _ hv
  have O:=h.at_ r _ hu
  simp only[Array.getD_eq_getD_getElem?]at D I O
  simp[results,hr,D,I,O,asAddr,loadVar,Z.1 w,Z.2 w,run_loadCells_list w _ cs hb.cells]) h.dfr k
end
end Go.Lw
namespace Go.Lw
open Go.RowKit
abbrev SV:=Option Addr×Nat×Nat
def slv (p:SV):Value:=.slice p.1 p.2.1 p.2.2
section
variable {α:Type} {E:Enc α} {T:TypeId} {base:Nat} {w w':World} {X Y S:List Nat} {ps qs:List (SV×List α)} {u u':SV} {r r':List α}
theorem z8u (ys:List α)(z:α)(R:List Value):∀(i:Nat),i<ys.length->(ys.flatMap E.enc++R).take (i*E.sz)++E.enc z++(ys.flatMap E.enc++R).drop (i*E.sz+E.sz)=(ys.set i z).flatMap E.enc++R:=by
 intro i I;obtain⟨p,y,s,rfl,rfl⟩:∃p y s,ys=p++y::s/\p.length=i:=⟨ys.take i,ys[i],ys.drop (i+1),sp0,so⟩;have D:p.length*E.sz=(p.flatMap E.enc).length:=(E.flat_len p).symm;rw[List.set_append_right _ _ (Nat.le_refl _),Nat.sub_self,List.set_cons_zero];simp only[List.flatMap_append,List.flatMap_cons,List.append_assoc];rw[D,List.take_left,List.drop_append,List.drop_of_length_le oo,List.nil_append,show (p.flatMap E.enc).length+E.sz-(p.flatMap E.enc).length=(E.enc y).length by rw[E.len];omega,List.drop_left]
end
section
variable {P:Program} {ops:Array Oper} {Q:Exit->Act->World->Prop} {rest:List Oper} {a:Act} {w:World} {n:Nat} {L:List (Nat×Value)} {ds:List Nat} {ty:TypeId} {pos:String} {after:Array Edge} {x y:Operand} {t T:TypeId} {v:Value}
theorem z1c {α:Type}{E:Enc α}{base g m c i:Nat}{ys:List α}(z:α)(h:AgM ds a n L)(H2:(ev L x,ev L y)=(some (.pointer (some ((⟨g,0,none⟩:Addr).add (i*E.sz)))),some v))(ho:Own E T base w (.slice (some ⟨g,0,none⟩) m c) ys)(hi:i<ys.length)
    (hc:v.cells=(E.enc z).toArray) (hs:z1r P t E.sz)
    (q:∀w',Own E T base w' (.slice (some ⟨g,0,none⟩) m c) (ys.set i z)->Fr [g] w w'->w'.heap.size=w.heap.size->∀a,AgM ds a n L->wpList P ops Q rest a w'):wpList P ops Q (⟨none,.store t x y,ty,pos,after,none⟩::rest) a w:=by
  obtain⟨hx,hy⟩:=qi2 H2
  rcases ho with ⟨e,_⟩|⟨g',cap,cur,e,hb,hg,Z,h2,h3,h4⟩
  · cases e
  cases e
  have a1:i*E.sz+E.sz<=ys.length*E.sz:=by rw[<-Nat.succ_mul];exact Nat.mul_le_mul_right _ hi
  have a0:ys.length*E.sz<=cur.size:=Nat.le_trans (Nat.mul_le_mul_right _ Z) h3
  have D:=run_storeCells_at P g (i*E.sz) T (E.enc z) 0 cur w hg (by rw[E.len];omega) (E.one z)
  rw[Nat.add_zero,E.len]at D
  have I:cur.toList=ys.flatMap E.enc++cur.toList.drop (ys.length*E.sz):=by rw[<-h4,List.take_append_drop]
  have O:cur.toList.take (i*E.sz)++E.enc z++cur.toList.drop (i*E.sz+E.sz)=(ys.set i z).flatMap E.enc++cur.toList.drop (ys.length*E.sz):=by
    conv=>lhs;rw[I]
    exact z8u ys z _ i hi
  rw[O]at D
  refine z9v h U U (w':=w.setRow g ((ys.set i z).flatMap E.enc++cur.toList.drop (ys.length*E.sz)).toArray) ?_ (q _ ?_ (Fr.setRow w g _) sp0)
  · rw[z6o,Nat.zero_add]at hx
    simp only[execOp,h.eval hx,h.eval hy,Sem.run_bind,Sem.run_pure,Result.andThen_ok,Instr.storeAt,Instr.sureAddr,storeVar,hs w,hc]
    simp[D,E.len]
  · refine .inr ⟨g,c,_,by rw[List.length_set],hb,setRow_heap w g cur _ T _ hg,by rw[List.length_set];exact Z,h2,?_,?_⟩
    · simp only[List.size_toArray,List.length_append,E.flat_len,List.length_set,List.length_drop,Array.length_toList];omega
    · rw[List.length_set,show ys.length*E.sz=((ys.set i z).flatMap E.enc).length by rw[E.flat_len,List.length_set]]
      exact List.take_left
theorem z6w {α:Type}{E:Enc α}{base g m c i:Nat}{ys:List α}(z:α)(hx:ev L x=some (.pointer (some ((⟨g,0,none⟩:Addr).add (i*E.sz)))))(hy:ev L y=some v)(O:Own E T base w (.slice (some ⟨g,0,none⟩) m c) ys)(I:i<ys.length)(D:v.cells=(E.enc z).toArray)(Z:z1r P t E.sz)(q:∀w',Own E T base w' (.slice (some ⟨g,0,none⟩) m c) (ys.set i z)->Fr [g] w w'->w'.heap.size=w.heap.size->WL P ops Q rest n ds w' L):WL P ops Q (⟨none,.store t x y,ty,pos,after,none⟩::rest) n ds w L:=λa h=>z1c z h (pi2 hx hy) O I D Z q
end
section
variable {P:Program} {ops:Array Oper} {o o':Oper} {K:Act->World->Prop} {C:World->Prop} {fu:Nat} {listed:Array Bool} {pq:Option Nat} {a:Act} {w:World}
theorem y6r (I:Nat)(O:ops[I]?=some o)(k:wpList P ops (z0l λa' w'=>Sat pq C (listed.setIfInBounds I true) w'/\z0w pq P ops (z0l K) C fu (listed.setIfInBounds I true) a' w') [o] a w) :
    wpOp P ops (z0l K) I (λa w=>Sat pq C (listed.setIfInBounds I true) w/\z0w pq P ops (z0l K) C fu (listed.setIfInBounds I true) a w) a w:=by
  unfold wpOp
  rw[O]
  unfold wpList at k
  simp only
  split
  · rename_i Z
    rw[if_pos Z]at k
    rcases k with k|⟨_,_,_,k⟩
    · refine .inl (Oper.wp_mono (λa w h=>h) ?_)
      unfold Oper.wp at k ⊢
      generalize (execOp a.eval o).run P w=r at k ⊢
      cases r with
      | ok nx w'=>
        cases nx<;>simp only[Oper.upon]at k ⊢<;>first
          | exact k
          | exact Calls.mono k (λe a0 D=>by cases e<;>first|exact D|exact D.elim|(obtain⟨_,_,D⟩:=D;exact D.elim))
          | exact Rows.mono k (λ_ _ D=>D)
      | halt x w'=>cases x<;>simp only[Oper.upon]at k ⊢<;>exact k.elim
    · exact k.elim
  · rename_i Z
    rw[if_neg Z]at k
    exact k
theorem z2n (i j:Nat)(hr:Region.ready .any ops listed=[i,j])(H3:(ops[i]?,ops[j]?)=(some o,some o'))
    (k:wpList P ops (z0l λD w'=>Sat pq C (listed.setIfInBounds i true) w'/\z0w pq P ops (z0l K) C fu (listed.setIfInBounds i true) D w') [o] a w)
    (k':wpList P ops (z0l λD w'=>Sat pq C (listed.setIfInBounds j true) w'/\z0w pq P ops (z0l K) C fu (listed.setIfInBounds j true) D w') [o'] a w):z0w pq P ops (z0l K) C (fu+1) listed a w:=by
  obtain⟨O,Z⟩:=qi2 H3
  refine j2a hr sp0 λx I=>?_
  simp at I
  rcases I with rfl|rfl
  · exact y6r _ O k
  · exact y6r _ Z k'
theorem v2k {I:Oper}(i j m:Nat)(hr:Region.ready .any ops listed=[i,j,m])(Z:ops[i]?=some o)(hj:ops[j]?=some o')(hm:ops[m]?=some I)
    (k:wpList P ops (z0l λD w'=>Sat pq C (listed.setIfInBounds i true) w'/\z0w pq P ops (z0l K) C fu (listed.setIfInBounds i true) D w') [o] a w)
    (k':wpList P ops (z0l λD w'=>Sat pq C (listed.setIfInBounds j true) w'/\z0w pq P ops (z0l K) C fu (listed.setIfInBounds j true) D w') [o'] a w)
    (k'':wpList P ops (z0l λD w'=>Sat pq C (listed.setIfInBounds m true) w'/\z0w pq P ops (z0l K) C fu (listed.setIfInBounds m true) D w') [I] a w):z0w pq P ops (z0l K) C (fu+1) listed a w:=by
  refine j2a hr sp0 λx O=>?_
  simp at O
  rcases O with rfl|rfl|rfl
  · exact y6r _ Z k
  · exact y6r _ hj k'
  · exact y6r _ hm k''
end
end Go.Lw
namespace Go.Lw
open Go.RowKit
theorem v6f {α:Type}(E:Enc α)(z:α):∀(c:Nat),((Array.range (c*E.sz)).map ((E.enc z).toArray[· % E.sz]!)).toList=(List.replicate c z).flatMap E.enc:=by
 intro c;apply List.ext_getElem?;intro m;have hl:((List.replicate c z).flatMap E.enc).length=c*E.sz:=by rw[E.flat_len,List.length_replicate]
 rcases Nat.lt_or_ge m (c*E.sz) with h|h
 have Z:m / E.sz<c:=Nat.div_lt_of_lt_mul (by rw[Nat.mul_comm];exact h);have O:m % E.sz<E.sz:=Nat.mod_lt _ E.pos;have e:m / E.sz*E.sz+m % E.sz=m:=by rw[Nat.mul_comm];exact Nat.div_add_mod m E.sz
 have I:=E.flat_get (List.replicate c z) (m / E.sz) z (by rw[List.getElem?_replicate,if_pos Z]) (m % E.sz) O;rw[e]at I;rw[I];have D:m % E.sz<(E.enc z).length:=by rw[E.len];exact O
 simp[h];rw[List.getElem?_eq_getElem D];rfl;rw[List.getElem?_eq_none (by simp;exact h),List.getElem?_eq_none (by rw[hl];exact h)]
section
variable {P:Program} {a:Act} {n:Nat} {L:List (Nat×Value)} {ds:List Nat} {w w':World} {Q:Exit->Act->World->Prop} {ops:Array Oper} {rest:List Oper}
variable {d:Nat} {ty:TypeId} {pos:String} {after:Array Edge} {v u:Value} {x y z:Operand} {t t' T:TypeId} {k k':IntKind} {i j:Int}
theorem x3u {G:Option (Nat×Bool)}{α:Type}{E:Enc α}{D m c:Nat}(e0:α)(h:AgM ds a n L)(hx:ev L x=some (.int k (m:Int)))(hy:ev L y=some (.int k' (c:Int)))(he:ElemOf P t T E D)
    (hz:∀w:World,(zeroValue T).run P w=.ok v w) (hv:v.cells=(E.enc e0).toArray) (hmc:m<=c) (hb:c*D<=140737488355328) (hM:c<=maxLen) :
    (execOp a.eval ⟨some d,.makeSlice t x y,ty,pos,after,G⟩).run P w=.ok (.value (.slice (some ⟨w.heap.size,0,none⟩) m c)) (w.alloc (.cells ((List.replicate c e0).flatMap E.enc).toArray T)):=by
  obtain⟨I,zv,O,a2,a8,a1,b2⟩:=he.info
  have a9:zv=v:=by
    have:=hz w
    simpa[zeroValue,typeInfo,O,a2] using this
  subst a9
  have b0:c<=9223372036854775807:=by simp only[maxLen]at hM;omega
  have w1:IntKind.i64.wrap (m:Int)=m:=IntWalk.i64_in _ oo
  have w2:IntKind.i64.wrap (c:Int)=c:=IntWalk.i64_in _ oo
  have b1:((I.bytes:Nat):Int)*(c:Int)<=140737488355328:=by
    have:((I.bytes*c:Nat):Int)<=140737488355328:=by rw[a1,Nat.mul_comm];omega
    simpa using this
  have ht:(decide ((c:Int)<0) || decide ((I.bytes:Int)*(c:Int) > 2 ^ 48))=false:=by
    simp only[Bool.or_eq_false_iff,decide_eq_false_iff_not]
    constructor<;>omega
  have a7:¬((m:Int)<0):=by omega
  have a6:¬((m:Int) > (c:Int)):=by omega
  have Z:¬(c*I.bytes > roomBytes):=by
    rw[a1];unfold roomBytes;omega
  have a0:=v6f E e0 c
  simp only[execOp,h.eval hx,h.eval hy,Instr.makeSlice,Sem.run_bind,run_underlying he.und,Result.andThen_ok,asInt,asIntOf,Sem.run_pure,typeInfo,sizeOf,w1,w2]
  simp[O,a8,ht,a7,a6,askRoom,Z,w1,w2]
  by_cases h0:c=0
  · subst h0
    simp[newRow]
    rw[show Array.range 0=#[] from U];simp
  · have a5:¬(c*E.sz=0):=by
      have:=E.pos
      intro e
      rcases Nat.mul_eq_zero.1 e with e|e<;>omega
    have a3:¬((c:Int)<0):=by omega
    have a4:¬((281474976710656:Int)<(I.bytes:Int)*(c:Int)):=by omega
    simp[a5,zeroValue,typeInfo,O,a2,newRow,hv,E.len,a3,a4]
    congr 2
    apply Array.toList_inj.1
    simpa using a0
theorem z9z {α:Type}{E:Enc α}{D m c:Nat}(I:α)(h:AgM ds a n L)(hx:ev L x=some (.int k (m:Int)))(hy:ev L y=some (.int k' (c:Int)))(O:ElemOf P t T E D)(hz:∀w:World,(zeroValue T).run P w=.ok v w)(Z:v.cells=(E.enc I).toArray)(hmc:m<=c)(hb:c*D<=140737488355328)(hn:Nat.blt d n=true)(q:∀g w',g=w.heap.size->Own E T g w' (.slice (some ⟨g,0,none⟩) m c) (List.replicate m I)->Fr [] w w'->w'.heap.size=g+1->∀a,AgM ds a n ((d,.slice (some ⟨g,0,none⟩) m c)::L)->wpList P ops Q rest a w')(hM:c<=maxLen:=by unfold maxLen;omega) :
    wpList P ops Q (⟨some d,.makeSlice t x y,ty,pos,after,none⟩::rest) a w:=by
  refine z2m h U hn (x3u I h hx hy O hz Z hmc hb hM) (q _ _ U ?_ (Fr.alloc [] w _) sp0)
  refine .inr ⟨_,c,_,sp0,Nat.le_refl _,heap_alloc_new w _,by simpa using hmc,hM,by simp[E.flat_len],?_⟩
  simp only[List.length_replicate]
  obtain⟨r,rfl⟩:∃r,c=m+r:=⟨c-m,oo⟩
  rw[<-List.replicate_append_replicate,List.flatMap_append]
  rw[show m*E.sz=((List.replicate m I).flatMap E.enc).length by rw[E.flat_len,List.length_replicate]]
  exact List.take_left
theorem z1g {α:Type}{E:Enc α}{D m c:Nat}(I:α)(H1:(ev L x,ev L y)=(some (.int k (m:Int)),some (.int k' (c:Int))))(O:ElemOf P t T E D)(hz:∀w:World,(zeroValue T).run P w=.ok v w)(Z:v.cells=(E.enc I).toArray)(q:∀g w',g=w.heap.size->Own E T g w' (.slice (some ⟨g,0,none⟩) m c) (List.replicate m I)->Fr [] w w'->w'.heap.size=g+1->WL P ops Q rest n ds w' ((d,.slice (some ⟨g,0,none⟩) m c)::L))(hmc:m<=c:=by omega)(hb:c*D<=140737488355328:=by omega)(hM:c<=maxLen:=by unfold maxLen;omega)(hn:Nat.blt d n=true:=by exact U):WL P ops Q (⟨some d,.makeSlice t x y,ty,pos,after,none⟩::rest) n ds w L:=let⟨hx,hy⟩:=qi2 H1;λa h=>z9z I h hx hy O hz Z hmc hb hn q (hM:=hM)
end
end Go.Lw
namespace Go.Lw
section
variable {P:Program} {a:Act} {n:Nat} {L:List (Nat×Value)} {ds:List Nat} {w w':World} {ops:Array Oper} {C:World->Prop}
variable {d:Nat} {ty:TypeId} {pos:String} {after:Array Edge} {x y:Operand} {t T:TypeId} {k:IntKind} {i:Int}
theorem j1k {G:Option (Nat×Bool)}{K:Act->World->Prop}{fu:Nat}{listed:Array Bool}{pq:Option Nat}{ad:Addr}{N sz:Nat}(D:Nat)(hsel:sdB pq ops listed D=true)(hC:C w)(h:AgM ds a n L)(hG:Wd ops n L G)
    (hx:ev L x=some (.pointer (some ad))) (hy:ev L y=some (.int k i)) (hu:P.underlying t=some (.array N T)) (hs:z1r P T sz) (h0:0<=i) (h1:i<N) (hix:ops[D]?=some ⟨some d,.indexAddr t x y,ty,pos,after,G⟩) (hn:Nat.blt d n=true)
    (q:∀a,AgM ds a n ((d,.pointer (some (ad.add (i.toNat*sz))))::L)->z0w pq P ops (z0l K) C fu (listed.setIfInBounds D true) a w):z0w pq P ops (z0l K) C (fu+1) listed a w:=
  z6p D hsel h hG hix U hn (λ_ _=>v7o h hx hy hu hs h0 h1) q
end
end Go.Lw
namespace Go.Lw
open Go.RowKit
section
variable {α:Type} {E:Enc α} {R T:TypeId} {base:Nat} {w w':World} {OV OV':Value} {ps:List (SV×List α)}
end
end Go.Lw
namespace Go.Lw
section
variable {α:Type} {E:Enc α} {R T:TypeId} {base:Nat} {w w':World} {OV:Value} {ps:List (SV×List α)}
end
end Go.Lw
namespace Go.Lw
open Go.ChangeShapes Go.WideShapes Go.ChangeAt Go.RowKit
section
variable {H:Type} {enc:TypeId×Value->H} {P:Program}
theorem y2w (hl:laidOutB P=true){W W':World}(hb:Below W.heap.size W W'){sp:Nat->Bool}:∀ {ts:List TypeId} {vs:List Value} {ds:List (DataW H)} {ps:List MemPlace},
    (∀t∈ts,P.readableRec t=true/\t<P.types.size)->(∀p∈ps,sp p.block=true)->(∀p∈ps,p.block<W.heap.size)->DataW.TrodAll enc P W 0 (λ_=>true) true ts vs ds ps->DataW.TrodAll enc P W' 0 sp true ts vs ds ps
  | [],vs,ds,ps,_,_,_,h=>by
    obtain⟨rfl,rfl,rfl⟩:=trodAll_nil h
    exact trodAll_mk0
  | t::ts,vs,ds,ps,ht,hs,hlt,h=>by
    obtain⟨v,a0,d,I,p,q,rfl,rfl,rfl,Z,h2⟩:=trodAll_cons h
    refine trodAll_cons_mk (WideElems.Trod_stays hl (ht t sp0).1 (ht t sp0).2 Z (λx D=>hb.same (hlt x (by simp[D]))) (λx D=>hs x (by simp[D]))) ?_
    exact y2w hl hb (λt' O=>ht t' (by simp[O])) (λx D=>hs x (by simp[D])) (λx D=>hlt x (by simp[D])) h2
theorem v7z {f:Func}{s:ChangeSpec}{D a4 I a3:Bool}{W W':World}{args:Array Value}{ds:List (DataW H)}{a0:List MemPlace}{tb:TypeId}
    (hW:DataW.Whole enc P f.params.toList s.vars D W args.toList ds [] a0) (hv:s.vars=[]) (hfn:s.fn H ds={ results:=[.lit (.bool true)],args:=ds }) (hf:Fr [] W W')
    (hl:laidOutB P=true) (hr:∀t∈f.params.toList,P.readableRec t=true/\t<P.types.size) (hrt:f.resultTypes=#[tb]) (hbt:P.underlying tb=some .bool):s.post enc P f D a4 I a3 W args (.bool true) W':=by
  have hb:=hf.below
  have a1:=hW.lt
  have a5:=hW
  obtain⟨pa,pv,hA,hV,rfl,hz,hn⟩:=hW
  rw[hv]at hV
  obtain⟨-,rfl⟩:=trodVars_none hV
  rw[List.append_nil]at a5 a1 hz hn
  have O:∀sp:Nat->Bool,(∀p∈pa,sp p.block=true)->DataW.TrodAll enc P W' 0 sp true f.params.toList args.toList (s.fn H (ds++[])).args pa:=by
    intro sp a8
    rw[List.append_nil,hfn]
    exact y2w hl hb hr a8 a1 hA
  have a2:∀(b:Nat) (sp:Nat->Bool) (hd:Bool),DataW.TrodAll enc P W' b sp hd f.resultTypes.toList ((Value.bool true).resultList f.resultTypes.size) (s.fn H (ds++[])).results []:=by
    intro b sp hd
    rw[List.append_nil,hfn,hrt]
    exact trodAll_cons_mk (shut_bool hbt true) trodAll_mk0
  have Z:∀sp:Nat->Bool,DataW.TrodVars enc P W' sp s.vars (s.fn H (ds++[])).vars []:=by
    intro sp
    rw[hv,List.append_nil,hfn]
    rfl
  have a6:∀p∈pa,(λb=>decide (b<W.heap.size)) p.block=true:=λp hp=>by simpa using a1 p hp
  refine⟨ds,[],pa,[],pa,[],a5,a2 _ _ _,O _ a6,Z _,World.keptBut_mono (λp hp=>⟨hp,by simp[hp]⟩) (hb.frame _),λ_=>⟨ok_one hrt U (okWide_bool_mk hbt true),_,_,([]++pa)++[],⟨[]++pa,[],trodAll_append (O _ (λ_ _=>rfl)) (a2 _ _ _),Z _,rfl,?_,?_⟩,?_⟩⟩
  · intro b off hp
    have a7:MemPlace.cell b off∈pa:=by simpa using hp
    rw[hb.frozen (a1 _ a7)]
    exact hz b off a7
  · intro ha
    simpa using hn ha
  · intro p hp _
    simpa using hp
theorem v3r {f:FuncId}{fn:Func}{s:ChangeSpec}{D a0 I Z:Bool}{W:World}{args:Array Value}{ds:List (DataW H)}{O:List MemPlace}{tb:TypeId}
    (hw:Rets P f args W λv w'=>v=.bool true/\Fr [] W w')
    (hW:DataW.Whole enc P fn.params.toList s.vars D W args.toList ds [] O) (hv:s.vars=[]) (hfn:s.fn H ds={ results:=[.lit (.bool true)],args:=ds })
    (hl:laidOutB P=true) (hr:∀t∈fn.params.toList,P.readableRec t=true/\t<P.types.size) (hrt:fn.resultTypes=#[tb]) (hbt:P.underlying tb=some .bool) :
    Calls P f args W λe W'=>∃v,e=.returned v/\s.post enc P fn D a0 I Z W args v W':=
  Calls.mono hw λe w' ⟨v,he,hv',hf⟩=>⟨v,he,by subst hv';exact v7z hW hv hfn hf hl hr hrt hbt⟩
end
def litV {H:Type}:DataW H->Value
  | .lit (.int k z)=>.int k z
  | .lit (.string s)=>.string ⟨s.toArray⟩
  | _=>.bool false
def k3k {H:Type}:DataW H->List Value
  | .agg es=>es.map litV
  | d=>[litV d]
def tabV {H:Type}:DataW H->Array Value
  | .agg ds=>(ds.flatMap k3k).toArray
  | _=>#[]
def layW (w:World)(g:Nat)(cs:Array Value):World:=
  { w with heap:=w.heap.modify g fun
      | .cells _ t fr=>.cells cs t fr
      | o=>o }
noncomputable def k5e (P:Program)(os:Os)(laid:List (String×DataW Unit)):World:=
  laid.foldl (λw p=>match P.globalNamed p.1 with
    | some g=>layW w g (tabV p.2)
    | none=>w) (World.holding P os ⟨#[],#[],[]⟩)
end Go.Lw
namespace Go.Lw
open Go.ChangeShapes Go.WideShapes Go.ChangeAt Go.RowKit
def x3k (P:Program)(t:TypeId){α:Type}(E:Enc α)(R:World->α->Prop):Prop:=
  ∀(H:Type) (enc:TypeId×Value->H) (w:World) (base:Nat) (sp:Nat->Bool) (held:Bool) (fuel:Nat) (cs:List Value) (x:DataW H×List MemPlace),
    DataW.trod enc P w base sp held fuel t cs=some x->∃y,cs=E.enc y/\R w y
def Enc.int (k:IntKind):Enc Int:=⟨λn=>[.int k n],1,λ_=>rfl,λ_ u h=>by simp at h;subst h;rfl,dd⟩
def Enc.bool:Enc Bool:=⟨λn=>[.bool n],1,λ_=>rfl,λ_ u h=>by simp at h;subst h;rfl,dd⟩
def SlR {α:Type}(E:Enc α)(R:World->α->Prop)(w:World)(v:SV):Prop:=∃ys,Sl E w (slv v) ys/\∀y∈ys,R w y
section
variable {P:Program} {t e:TypeId}
theorem y3j {k:IntKind}(O:P.underlying t=some (.int k)):x3k P t (Enc.int k) (λ_ n=>k.min<=n/\n<=k.max):=by
 intro H enc w base sp I D cs x h;obtain⟨n,rfl,_,Z⟩:=DataW.trod_int O h;refine⟨n,rfl,?_⟩;simpa[Lit.wf] using Z
theorem x1o (O:P.underlying t=some (.int .u8)):x3k P t Enc.u8 (λ_ n=>0<=n/\n<=255):=by
 intro H enc w base sp I D cs x h;obtain⟨n,rfl,r⟩:=y3j O H enc w base sp I D cs x h;exact⟨n,rfl,r⟩
theorem v3n (O:P.underlying t=some .bool):x3k P t Enc.bool (λ_ _=>True):=by
 intro H enc w base sp I D cs x h;obtain⟨b,rfl,_⟩:=DataW.trod_bool O h;exact⟨b,rfl,trivial⟩
theorem x7b {α:Type}{E:Enc α}{R:World->α->Prop}(hu:P.underlying t=some (.slice e))(hc:P.cellsOf e=E.sz)(ho:x3k P e E R):x3k P t Enc.sl (SlR E R):=by
 intro H enc w base sp a0 a6 cs x h;rcases DataW.trod_slice hu h with ⟨rfl,_⟩|⟨ad,len,cap,a2,rest,n,_,rfl,_,hb,hl,hm,a7,a3,_⟩
 exact⟨(none,0,0),rfl,[],Sl.nil w,sp0⟩;have Z:∀i,i<len->∃y,Cells w (ad.add (i*E.sz)) (E.enc y)/\R w y:=by
  intro i hi;have D:=a3 i hi;rw[List.getElem?_eq_getElem oo,Option.bind_eq_some_iff,hc]at D;obtain⟨a1,I,h3⟩:=D;obtain⟨y,rfl,hR⟩:=ho H enc w base sp a0 n a1 _ h3;obtain⟨_,h5,h6⟩:=World.cells?_some I;refine⟨y,λj u hj=>?_,hR⟩;have a5:j<E.sz:=by rw[<-E.len y];exact(List.getElem?_eq_some_iff.1 hj).1
  rw[h6 j a5,hj]
 have all:∀m,m<=len->∃ys:List α,ys.length=m/\∀i y,ys[i]?=some y->Cells w (ad.add (i*E.sz)) (E.enc y)/\R w y:=by
  intro m;induction m with
  | zero=>exact λ_=>⟨[],rfl,λi y h=>by simp at h⟩
  | succ m ih=>
   intro hm;obtain⟨ys,D,I⟩:=ih oo;obtain⟨y,h3⟩:=Z m oo;refine⟨ys++[y],by simp[D],λi z O=>?_⟩;rcases Nat.lt_or_ge i m with hi|hi
   rw[List.getElem?_append_left oo]at O;exact I i z O;have a4:i=m:=by
    have:=(List.getElem?_eq_some_iff.1 O).1;simp[D]at this;omega
   subst a4;rw[List.getElem?_append_right oo,D,Nat.sub_self]at O;simp at O;subst O;exact h3
 obtain⟨ys,D,I⟩:=all len (Nat.le_refl _);refine⟨(some ad,len,cap),rfl,ys,⟨some ad,cap,by simp[slv,D],oo,hm,λi y hy=>⟨ad,rfl,(I i y hy).1⟩⟩,λy hy=>?_⟩;obtain⟨i,hi⟩:=List.getElem?_of_mem hy;exact(I i y hi).2
theorem z4j {H:Type}{enc:TypeId×Value->H}{w:World}{base:Nat}{sp:Nat->Bool}{D:Bool}{n:Nat}{cs:List Value}{xs:List (DataW H×List MemPlace)}{f:TypeId}{α:Type}{E:Enc α}{R:World->α->Prop}{i m:Nat}
    (h:DataW.trod enc P w base sp D n f cs=xs[i]?) (hl:xs.length=m) (hi:i<m) (ho:x3k P f E R):∃y,cs=E.enc y/\R w y:=by
  rw[List.getElem?_eq_getElem oo]at h
  exact ho H enc w base sp D n cs _ h
theorem v4h {H:Type}{enc:TypeId×Value->H}{w:World}{base Z:Nat}{r:Reach}{sp:Nat->Bool}{D:Bool}{v:Value}{d:DataW H}{ps:List MemPlace}{α:Type}{E:Enc α}{R:World->α->Prop}{fs:Array Field}
    (hu:P.underlying t=some (.struct fs)) (ho:x3k P t E R) (hv:Value.okWide P w r Z t v) (hd:DataW.Trod enc P w base sp D t v d ps):∃y,v=.agg (E.enc y).toArray/\R w y:=by
  simp only[Value.okWide,hu]at hv
  obtain⟨cs,rfl,_⟩:=hv
  obtain⟨I,hf⟩:=hd
  obtain⟨y,h1,h2⟩:=ho H enc w base sp D I _ _ hf
  refine⟨y,?_,h2⟩
  have O:cs.toList=E.enc y:=h1
  rw[<-O]
end
end Go.Lw
namespace Go.G21
open Go.Lw
structure LId where
  y:Int
  n:Int
deriving DecidableEq
structure Pa where
  id:LId
  f:Bool
  d:Int
deriving DecidableEq
structure Lp where
  b:Int
  nw:Bool
  th:List LId
  pa:List Pa
deriving DecidableEq
def id0:LId:=⟨0,0⟩
def pa0:Pa:=⟨id0,false,0⟩
abbrev idL (i:LId):List Value:=[.int .u8 i.y,.int .i64 i.n]
abbrev paL (p:Pa):List Value:=[.int .u8 p.id.y,.int .i64 p.id.n,.bool p.f,.int .u8 p.d]
def z1j:Enc LId:=⟨idL,2,λ_=>rfl,λ_ u h=>by simp at h;rcases h with rfl|rfl<;>rfl,dd⟩
def z2f:Enc Pa:=⟨paL,4,λ_=>rfl,λ_ u h=>by simp at h;rcases h with rfl|rfl|rfl|rfl<;>rfl,dd⟩
def sv0:SV:=(none,0,0)
structure LpQ where
  b:Int
  nw:Bool
  th:SV
  pa:SV
  ths:List LId
  pas:List Pa
def lq0:LpQ:=⟨0,false,sv0,sv0,[],[]⟩
abbrev LpQ.p (q:LpQ):Lp:=⟨q.b,q.nw,q.ths,q.pas⟩
abbrev lpL (q:LpQ):List Value:=[.int .u8 q.b,.bool q.nw,.slice q.th.1 q.th.2.1 q.th.2.2,.slice q.pa.1 q.pa.2.1 q.pa.2.2]
def z7k:Enc LpQ:=⟨lpL,4,λ_=>rfl,λ_ u h=>by simp at h;rcases h with rfl|rfl|rfl|rfl<;>rfl,dd⟩
abbrev TQ:=SV×List LpQ
def tq0:TQ:=(sv0,[])
def z4z:Enc TQ:=⟨λp=>[.slice p.1.1 p.1.2.1 p.1.2.2],1,λ_=>rfl,λ_ u h=>by simp at h;subst h;rfl,dd⟩
structure YQ where
  inn:Bool
  pl:Int
  ct:Int
  nw:Bool
  pe:SV
  pes:List Pa
def yq0:YQ:=⟨false,0,0,false,sv0,[]⟩
abbrev yqL (q:YQ):List Value:=[.bool q.inn,.int .i64 q.pl,.int .i64 q.ct,.bool q.nw,.slice q.pe.1 q.pe.2.1 q.pe.2.2]
def z3l:Enc YQ:=⟨yqL,5,λ_=>rfl,λ_ u h=>by simp at h;rcases h with rfl|rfl|rfl|rfl|rfl<;>rfl,dd⟩
abbrev IQ:=SV×List LId
def iq0:IQ:=(sv0,[])
def z7g:Enc IQ:=⟨λp=>[.slice p.1.1 p.1.2.1 p.1.2.2],1,λ_=>rfl,λ_ u h=>by simp at h;subst h;rfl,dd⟩
def LpAt (w:World)(q:LpQ):Prop:=Sl z1j w (slv q.th) q.ths/\Sl z2f w (slv q.pa) q.pas
def LpsAt (w:World)(l:List LpQ):Prop:=∀q∈l,LpAt w q
def TabAt (w:World)(t:List TQ):Prop:=∀p∈t,Sl z7k w (slv p.1) p.2/\LpsAt w p.2
def IqAt (w:World)(l:List IQ):Prop:=∀q∈l,Sl z1j w (slv q.1) q.2
section
variable {w w':World} (hf:Fr [] w w')
include hf
theorem LpAt.ext {q:LpQ}(h:LpAt w q):LpAt w' q:=⟨h.1.ext hf,h.2.ext hf⟩
theorem LpsAt.ext {l:List LpQ}(h:LpsAt w l):LpsAt w' l:=λq D=>(h q D).ext hf
theorem TabAt.ext {t:List TQ}(h:TabAt w t):TabAt w' t:=λp D=>⟨(h p D).1.ext hf,(h p D).2.ext hf⟩
theorem IqAt.ext {l:List IQ}(h:IqAt w l):IqAt w' l:=λq D=>(h q D).ext hf
end
theorem x6g {α β:Type}(f:α->List β)(l:List α)(i:Nat)(d:α)(h:i<l.length):(l.take (i+1)).flatMap f=(l.take i).flatMap f++f (l.getD i d):=by
 rw[List.take_add_one,List.getElem?_eq_getElem h,List.flatMap_append,List.getD,List.getElem?_eq_getElem h];simp
theorem v8a {α β:Type}(f:α->β)(l:List α)(i:Nat)(d:α)(e:β)(h:i<l.length):(l.map f).getD i e=f (l.getD i d):=by
 rw[List.getD,List.getD,List.getElem?_map,List.getElem?_eq_getElem h];rfl
theorem z1b {α:Type}{l:List α}{i:Nat}{d:α}(h:i<l.length):l.getD i d∈l:=by
 rw[List.getD,List.getElem?_eq_getElem h];exact List.getElem_mem h
theorem z2g {α:Type}{E:Enc α}{w:World}{p:SV}{l:List α}(h:Sl E w (slv p) l):p.2.1=l.length:=by
 obtain⟨A,c,e,_⟩:=h;simp only[slv,Value.slice.injEq]at e;exact e.2.1
abbrev z2o (t:List TQ):List (List Lp):=t.map λp=>p.2.map LpQ.p
structure Cx where
  a:LId
  b:LId
  n:Int
deriving DecidableEq
def cx0:Cx:=⟨id0,id0,0⟩
abbrev cxL (c:Cx):List Value:=[.int .u8 c.a.y,.int .i64 c.a.n,.int .u8 c.b.y,.int .i64 c.b.n,.int .i64 c.n]
def z5p:Enc Cx:=⟨cxL,5,λ_=>rfl,λ_ u h=>by simp at h;rcases h with rfl|rfl|rfl|rfl|rfl<;>rfl,dd⟩
structure FbQ where
  t:SV
  c:SV
  h:SV
  f:SV
  ts:List TQ
  cs:List Cx
  hs:List LId
  fs:List LId
structure Fb where
  t:List (List Lp)
  c:List Cx
  h:List LId
  f:List LId
deriving DecidableEq
abbrev FbQ.p (q:FbQ):Fb:=⟨z2o q.ts,q.cs,q.hs,q.fs⟩
structure FbAt (w:World) (q:FbQ):Prop where
  t:Sl z4z w (slv q.t) q.ts
  tt:TabAt w q.ts
  c:Sl z5p w (slv q.c) q.cs
  h:Sl z1j w (slv q.h) q.hs
  f:Sl z1j w (slv q.f) q.fs
theorem FbAt.ext {w w':World}{q:FbQ}(h:FbAt w q)(hf:Fr [] w w'):FbAt w' q:=⟨h.t.ext hf,h.tt.ext hf,h.c.ext hf,h.h.ext hf,h.f.ext hf⟩
theorem FbAt.len {w:World}{q:FbQ}(h:FbAt w q):q.t.2.1=q.ts.length/\q.c.2.1=q.cs.length/\q.h.2.1=q.hs.length/\q.f.2.1=q.fs.length:=⟨z2g h.t,z2g h.c,z2g h.h,z2g h.f⟩
end Go.G21
namespace Go.G21
open Go.Lw
def y3g (i:LId):Prop:=1<=i.y/\i.y<=6/\0<=i.n/\i.n<2048
instance (i:LId):Decidable (y3g i):=by unfold y3g;infer_instance
def z6v (d:Int):Prop:=d=0\/d=1
instance (d:Int):Decidable (z6v d):=by unfold z6v;infer_instance
def y2i (p:Pa):Prop:=y3g p.id/\z6v p.d
instance (p:Pa):Decidable (y2i p):=by unfold y2i;infer_instance
def u9i (p q:Pa):Prop:=(z6v p.d/\z6v q.d/\p.d≠q.d)/\p.id=q.id/\p.f=q.f
instance (p q:Pa):Decidable (u9i p q):=by unfold u9i;infer_instance
theorem j0i {p q:Pa}(h:¬((¬z6v p.d\/¬z6v q.d)\/p.d=q.d)):p=⟨q.id,q.f,p.d⟩↔u9i p q:=by
 have O:z6v p.d:=Classical.not_not.1 λe=>h (.inl (.inl e));have Z:z6v q.d:=Classical.not_not.1 λe=>h (.inl (.inr e));have h3:p.d≠q.d:=λe=>h (.inr e);obtain⟨i,f,d⟩:=p;constructor;intro e;have D:=congrArg Pa.id e;have I:=congrArg Pa.f e;exact⟨⟨O,Z,h3⟩,D,I⟩;rintro⟨-,D,I⟩;simp only at D I;rw[<-D,<-I]
theorem j4g {p q:Pa}(h:(¬z6v p.d\/¬z6v q.d)\/p.d=q.d):¬u9i p q:=λk=>h.elim (λe=>e.elim (λe=>e k.1.1) (λe=>e k.1.2.1)) (λe=>k.1.2.2 e)
def x6z (x:Int):Prop:=Int.tmod x 2≠0/\-13<=x/\x<=179
instance (x:Int):Decidable (x6z x):=by unfold x6z;infer_instance
def y1o (st:List Pa)(p:Pa):List Pa:=if 0<st.length/\u9i (st.getD (st.length-1) pa0) p then st.take (st.length-1) else st++[p]
def z5g (st l:List Pa):List Pa:=l.foldl y1o st
theorem u1f (st:List Pa)(p:Pa):(y1o st p).length<=st.length+1:=by
 unfold y1o;split;rw[List.length_take];omega;simp
theorem z8e:∀(l st:List Pa),(z5g st l).length<=st.length+l.length
 | [],st=>by simp[z5g]
 | p::l,st=>by
  have D:=z8e l (y1o st p)
  have I:=u1f st p
  simp only[z5g,List.foldl_cons,List.length_cons]at D ⊢
  omega
theorem y3x (st l:List Pa)(i:Nat)(h:i<l.length):z5g st (l.take (i+1))=y1o (z5g st (l.take i)) (l.getD i pa0):=by
 rw[List.take_add_one,List.getElem?_eq_getElem h,z5g,List.foldl_append,List.getD,List.getElem?_eq_getElem h];rfl
def y8p (l:List Pa):Prop:=∀i,i<l.length->y2i (l.getD i pa0)/\(0<i->¬u9i (l.getD (i-1) pa0) (l.getD i pa0))
instance (l:List Pa):Decidable (y8p l):=by unfold y8p;infer_instance
structure Yn where
  inn:Bool
  pl:Int
  ct:Int
  nw:Bool
  pe:List Pa
abbrev YQ.p (q:YQ):Yn:=⟨q.inn,q.pl,q.ct,q.nw,q.pes⟩
def y1z (y:Yn):Prop:=(0<=y.ct/\y.ct<=2048)/\(if y.inn=true then x6z y.pl/\y.pe.length<=4096/\y8p y.pe else y.pl=0/\y.nw=false/\y.pe.length=0)
instance (y:Yn):Decidable (y1z y):=by unfold y1z;infer_instance
def ynE (y:Yn):Int:=if y1z y then 0 else 1
def j2q (l:List Pa):Prop:=∀p∈l,y2i p
instance (l:List Pa):Decidable (j2q l):=by unfold j2q;infer_instance
def goE (y:Yn)(pl:Int)(l:List Pa):Int:=if ynE y≠0 then ynE y else if ¬x6z pl then 1 else if ¬j2q l then 1 else if y.inn=false then 12 else if 4096<(z5g y.pe l).length then 3 else 0
def goS (y:Yn)(pl:Int)(l:List Pa):Yn:=⟨y.inn,pl,y.ct,y.nw,z5g y.pe l⟩
def mkE (y:Yn):Int:=if ynE y≠0 then ynE y else if y.inn=false then 12 else if y.ct=2048 then 3 else 0
def enE (y:Yn)(d:Int):Int:=if ynE y≠0 then ynE y else if ¬z6v d then 1 else if y.inn=true then 12 else 0
def enS (y:Yn)(d:Int):Yn:=⟨true,if d=1 then 179 else -13,y.ct,true,[]⟩
def lvE (y:Yn):Int:=if ynE y≠0 then ynE y else if y.inn=false then 12 else 0
theorem j5j {y:Yn}(h:y1z y):ynE y=0:=if_pos h
theorem j6j {y:Yn}(h:¬y1z y):ynE y=1:=if_neg h
theorem yn_a {y:Yn}(h:y.ct<0\/2048<y.ct):ynE y=1:=j6j λe=>by have:=e.1;omega
theorem yn_b {y:Yn}(I:y.inn=false)(h:(y.pl≠0\/y.nw=true)\/0<(y.pe.length:Int)):ynE y=1:=j6j λe=>by
 have D:=e.2
 rw[if_neg (by rw[I];decide)]at D
 rcases h with (h|h)|h
 ·exact h D.1
 ·rw[D.2.1]at h;cases h
 omega
theorem yn_c {y:Yn}(I:¬(y.ct<0\/2048<y.ct))(D:y.inn=false)(h:¬((y.pl≠0\/y.nw=true)\/0<(y.pe.length:Int))):ynE y=0:=j5j ⟨oo,by
 rw[if_neg (by rw[D];decide)]
 refine⟨Classical.not_not.1 λe=>h (.inl (.inl e)),?_,oo⟩
 cases e:y.nw
 ·rfl
 exact absurd (.inl (.inr e)) h⟩
theorem yn_d {y:Yn}(I:y.inn=true)(h:¬x6z y.pl\/4096<(y.pe.length:Int)):ynE y=1:=j6j λe=>by
 have D:=e.2
 rw[if_pos I]at D
 rcases h with h|h
 ·exact h D.1
 omega
def v5a (l:List Pa)(i:Nat):Prop:=y2i (l.getD i pa0)/\(0<i->¬u9i (l.getD (i-1) pa0) (l.getD i pa0))
theorem yn_e {y:Yn}{i:Nat}(I:y.inn=true)(hl:i<y.pe.length)(h:¬v5a y.pe i):ynE y=1:=j6j λe=>by
 have D:=e.2
 rw[if_pos I]at D
 exact h (D.2.2 i hl)
theorem yn_f {y:Yn}(O:¬(y.ct<0\/2048<y.ct))(I:y.inn=true)(h:¬(¬x6z y.pl\/4096<(y.pe.length:Int)))(D:∀i,i<y.pe.length->v5a y.pe i):ynE y=0:=j5j ⟨oo,by
 rw[if_pos I]
 exact⟨Classical.not_not.1 λe=>h (.inl e),oo,D⟩⟩
theorem v9o {y:Yn}(h:ynE y=0):y1z y:=by unfold ynE at h;split at h;assumption;omega
abbrev Lst:=Option (Int×Nat)
def frS (s:Lst)(i:Nat):List LId:=match s with
  | none=>[]
  | some (y,f)=>[⟨y,((f+i:Nat):Int)⟩]
end Go.G21
namespace Go.Lw
section
variable {a:Act} {w:World} {Q:Exit->Act->World->Prop}
end
end Go.Lw
namespace Go.Lw
theorem Fr.drewN (S:List Nat)(w:World)(n:Nat):Fr S w (w.drewN n):=⟨rfl,rfl,rfl,Nat.le_refl _,λ_ _ _=>rfl⟩
def IntAt (g:Nat)(w:World):Prop:=∃m:Int,w.cell? ⟨g,0,none⟩=some (.int .i64 m)
theorem IntAt.fr {g:Nat}{S:List Nat}{w w':World}(h:IntAt g w)(hf:Fr S w w')(hn:g∉S:=by simp[z0u]<;>omega):IntAt g w':=let ⟨m,hm⟩:=h;⟨m,hf.cell hm hn⟩
end Go.Lw
namespace Go.Lw
section
variable {P:Program} {a:Act} {n:Nat} {L:List (Nat×Value)} {ds:List Nat} {w w':World} {Q:Exit->Act->World->Prop} {ops:Array Oper} {rest:List Oper}
variable {d:Nat} {ty:TypeId} {pos:String} {after:Array Edge} {x y:Operand} {t t' T:TypeId} {A:Option Addr} {m c:Nat}
theorem u3q (h:AgM ds a n L)(Z:ev L x=some (.slice A m c))(D:P.underlying t=some (.slice T)) :
    (execOp a.eval ⟨some d,.binOp .eql t x (.const (.slice none 0 0)) t',ty,pos,after,none⟩).run P w=.ok (.value (.bool A.isNone)) w:=by
  have h2:=run_eql_nil_slice (P:=P) w t T A m c 0 0 D
  have I:(binOp .eql t (.slice A m c) (.slice none 0 0)).run P w=.ok (.bool A.isNone) w:=by
    simp only[binOp]
    simp[Op.equal,Op.maxDepth,Lib.run_equalIn_slice_nil w 9999 t T A m c 0 0 D]
  have O:a.eval (.const (.slice none 0 0))=.slice none 0 0:=rfl
  simp[execOp,h.eval Z,O,eqGuard,I]
theorem j1p (I:ev L x=some (.slice A m c))(D:P.underlying t=some (.slice T))(hn:Nat.blt d n=true)(q:WL P ops Q rest n ds w ((d,.bool A.isNone)::L)):WL P ops Q (⟨some d,.binOp .eql t x (.const (.slice none 0 0)) t',ty,pos,after,none⟩::rest) n ds w L:=λa h=>z2m h U hn (u3q h I D) q
end
end Go.Lw
namespace Go.Lw
open Go.RowKit
section
variable {P:Program} {a:Act} {n:Nat} {L:List (Nat×Value)} {ds:List Nat} {w w':World} {Q:Exit->Act->World->Prop} {C:World->Prop} {Qa:Act->Prop} {ops:Array Oper} {rest:List Oper} {d d2:Nat} {ty ty2:TypeId} {pos pos2:String} {after after2:Array Edge} {v u:Value} {x y z:Operand} {t T:TypeId} {k k' k'':IntKind} {i j:Int}
theorem AgM.skip1 {v1 v2:Value}(h:AgM ds a n ((d2,v2)::(d,v1)::L))(hf:look L d=none):AgM ds a n ((d2,v2)::L):=
 ⟨h.dfr,h.size,λt u D=>h.at_ t u (by
  simp only[look]at D ⊢
  by_cases e2:d2=t
  ·subst e2;simpa using D
  rw[y4q e2]at D ⊢
  by_cases e:d=t
  ·subst e;exact absurd (hf.symm.trans D) sp0
  rw[y4q e];exact D)⟩
theorem Sl.at {α:Type}{E:Enc α}{ys:List α}(hs:Sl E w v ys){p:Nat}(hp:p<ys.length):∃ad c,v=.slice (some ad) ys.length c/\∀W,Sl E W v ys->Cells W (ad.add (p*E.sz)) (E.enc ys[p]):=by
 obtain⟨A,c,rfl,h1,h2,O⟩:=hs;obtain⟨ad,rfl,_⟩:=O p _ (List.getElem?_eq_getElem hp);refine⟨ad,c,rfl,λW Z=>?_⟩;obtain⟨A',c',e,_,_,D⟩:=Z;cases e;obtain⟨I,e,hc⟩:=D p _ (List.getElem?_eq_getElem hp);cases e;exact hc
theorem getD_at {α:Type}(ys:List α)(p:Nat)(hp:p<ys.length)(z:α):ys[p]=ys.getD p z:=by simp[List.getD,hp]
theorem j9u {α:Type}{E:Enc α}{D base:Nat}{ys:List α}{p:Nat}(e:α)(h:AgM ds a n L)(hx:ev L x=some v)(O:Own E T base w v ys)(hy:ev L y=some (.int k i))(hz:ev L z=some u)(a1:z≠.tmp d)(he:ElemOf P t T E D)(Z:z1r P T E.sz)(hc:u.cells=(E.enc e).toArray)(h0:0<=i)(h1:i<ys.length)(hp:i.toNat=p)(hf:look L d=none)(hn:Nat.blt d n=true)
    (q:∀w',Own E T base w' v (ys.set p e)->Fr (z0u v) w w'->w'.heap.size=w.heap.size->∀a,AgM ds a n L->wpList P ops Q rest a w'):wpList P ops Q (⟨some d,.indexAddr t x y,ty,pos,after,none⟩::⟨none,.store T (.tmp d) z,ty2,pos2,after2,none⟩::rest) a w:=by
  subst hp
  have I:i.toNat<ys.length:=by omega
  rcases O with ⟨rfl,rfl⟩|⟨g,cap,cur,rfl,r⟩
  · simp at I
  have O:Own E T base w (.slice (some ⟨g,0,none⟩) ys.length cap) ys:=.inr ⟨g,cap,cur,rfl,r⟩
  refine y6s h hx hy he h0 h1 U hn λa h=>?_
  have a0:ev ((d,Value.pointer (some ((⟨g,0,none⟩:Addr).add (i.toNat*E.sz))))::L) z=some u:=by
    cases z with
    | tmp s=>
      have:¬d=s:=λe=>a1 (by rw[e])
      simp only[ev,look,y4q this,x0d];exact hz
    | _=>exact hz
  refine z1c e h (pi2 (by simp[ev,look]) a0) O I hc Z λw' h1 h2 h3 a h=>?_
  exact q w' h1 h2 h3 a ⟨h.dfr,h.size,λs u hu=>h.at_ s u (by
    simp only[look]
    by_cases e:d=s
    · subst e;rw[hf]at hu;cases hu
    · rw[y4q e];exact hu)⟩
theorem v4z {α:Type}{E:Enc α}{D base:Nat}{ys:List α}{p:Nat}(e:α)(hx:ev L x=some v)(ho:Own E T base w v ys)(hy:ev L y=some (.int k i))(hz:ev L z=some u)(O:z≠.tmp d)(he:ElemOf P t T E D)(I:z1r P T E.sz)(hc:u.cells=(E.enc e).toArray)(h1:i<ys.length)(hf:look L d=none)(hn:Nat.blt d n=true)(q:∀w',Own E T base w' v (ys.set p e)->Fr (z0u v) w w'->w'.heap.size=w.heap.size->WL P ops Q rest n ds w' L)(Z:0<=i:=by omega)(hp:i.toNat=p:=by omega):WL P ops Q (⟨some d,.indexAddr t x y,ty,pos,after,none⟩::⟨none,.store T (.tmp d) z,ty2,pos2,after2,none⟩::rest) n ds w L:=λa h=>j9u e h hx ho hy hz O he I hc Z h1 hp hf hn q
theorem k0v {ts:Array TypeId}{l:Int}(D:ev L x=some (.int k i))(I:ev L y=some (.int k' j))(O:ev L z=some (.int k'' l))(hn:Nat.blt d n=true)(q:WL P ops Q rest n ds w ((d,.int k (min (min i j) l))::L)):WL P ops Q (⟨some d,.call ⟨.builtin .min,#[x,y,z],ts⟩,ty,pos,after,none⟩::rest) n ds w L:=λa h=>z2m h U hn (by
    rw[z2d];unfold builtin
    have e:∀t,(Builtin.min_ ts t #[.int k i,.int k' j,.int k'' l]).run P w=.ok (.int k (min (min i j) l)) w:=by
      intro t
      simp[Builtin.min_,Builtin.min2]
      by_cases h1:j<i<;>simp[h1]<;>(split<;>omega)
    simp only[List.map_toArray,List.map_cons,List.map_nil,h.eval D,h.eval I,h.eval O,Sem.run_bind,e,Result.andThen_ok,Sem.run_pure]) q
theorem j8s {ts:Array TypeId}{l:Int}(D:ev L x=some (.int k i))(I:ev L y=some (.int k' j))(O:ev L z=some (.int k'' l))(hn:Nat.blt d n=true)(q:WL P ops Q rest n ds w ((d,.int k (max (max i j) l))::L)):WL P ops Q (⟨some d,.call ⟨.builtin .max,#[x,y,z],ts⟩,ty,pos,after,none⟩::rest) n ds w L:=λa h=>z2m h U hn (by
    rw[z2d];unfold builtin
    have e:∀t,(Builtin.max_ ts t #[.int k i,.int k' j,.int k'' l]).run P w=.ok (.int k (max (max i j) l)) w:=by
      intro t
      simp[Builtin.max_,Builtin.max2]
      by_cases h1:i<j<;>simp[h1]<;>(split<;>omega)
    simp only[List.map_toArray,List.map_cons,List.map_nil,h.eval D,h.eval I,h.eval O,Sem.run_bind,e,Result.andThen_ok,Sem.run_pure]) q
theorem Sl.at' {α:Type}{E:Enc α}{ys:List α}(Z:Sl E w v ys){p:Nat}(hp:p<ys.length)(D:α):∃ad c,v=.slice (some ad) ys.length c/\∀W,Sl E W v ys->Cells W (ad.add (p*E.sz)) (E.enc (ys.getD p D)):=by
 obtain⟨ad,c,I,O⟩:=Z.at hp;exact⟨ad,c,I,by rw[<-getD_at ys p hp D];exact O⟩
theorem u1b {α:Type}{E:Enc α}{D:Nat}{ys:List α}{p:Nat}(I:α)(h:AgM ds a n L)(hx:ev L x=some v)(hs:Sl E w' v ys)(hy:ev L y=some (.int k i))(he:ElemOf P t T E D)(O:0<=i)(h1:i<ys.length)(hp:i.toNat=p)(hn:Nat.blt d n=true)
    (q:∀ad,(∀W,Sl E W v ys->Cells W ad (E.enc (ys.getD p I)))->∀a,AgM ds a n ((d,.pointer (some ad))::L)->wpList P ops Q rest a w):wpList P ops Q (⟨some d,.indexAddr t x y,ty,pos,after,none⟩::rest) a w:=by
  subst hp
  obtain⟨ad,c,rfl,Z⟩:=hs.at' (p:=i.toNat) oo I
  exact y6s h hx hy he O h1 U hn (q _ Z)
theorem z0x {α:Type}{E:Enc α}{D:Nat}{ys:List α}{p:Nat}(I:α)(hx:ev L x=some v)(hs:Sl E w' v ys)(hy:ev L y=some (.int k i))(Z:ElemOf P t T E D)(hp:i.toNat=p)(q:∀ad,(∀W,Sl E W v ys->Cells W ad (E.enc (ys.getD p I)))->WL P ops Q rest n ds w ((d,.pointer (some ad))::L))(O:0<=i:=by omega)(h1:i<ys.length:=by omega)(hn:Nat.blt d n=true:=by exact U):WL P ops Q (⟨some d,.indexAddr t x y,ty,pos,after,none⟩::rest) n ds w L:=λa h=>u1b I h hx hs hy Z O h1 hp hn q
theorem y4g {α:Type}{E:Enc α}{D:Nat}{ys:List α}{p:Nat}(I:α)(h:AgM ds a n L)(hx:ev L x=some v)(hs:Sl E w' v ys)(hy:ev L y=some (.int k i))(he:ElemOf P t T E D)(O:0<=i)(h1:i<ys.length)(hp:i.toNat=p)(hn:Nat.blt d n=true)
    (q:∀ad,(∀W,Sl E W v ys->Cells W ad (E.enc (ys.getD p I)))->∀a,AgM ds a n ((d,.pointer (some ad))::L)->wpQuiet P ops C Qa rest a):wpQuiet P ops C Qa (⟨some d,.indexAddr t x y,ty,pos,after,none⟩::rest) a:=by
  subst hp
  obtain⟨ad,c,rfl,Z⟩:=hs.at' (p:=i.toNat) oo I
  exact j5z h hx hy he O h1 U hn (q _ Z)
theorem z1e {G:Option (Nat×Bool)}{K:Act->World->Prop}{fu:Nat}{listed:Array Bool}{pq:Option Nat}{α:Type}{E:Enc α}{D:Nat}{ys:List α}{p:Nat}(Z:α)(I:Nat)(h:AgM ds a n L)(hx:ev L x=some v)(hs:Sl E w' v ys)(hy:ev L y=some (.int k i))(he:ElemOf P t T E D)(O:ops[I]?=some ⟨some d,.indexAddr t x y,ty,pos,after,G⟩)(q:∀ad,(∀W,Sl E W v ys->Cells W ad (E.enc (ys.getD p Z)))->∀a,AgM ds a n ((d,.pointer (some ad))::L)->z0w pq P ops (z0l K) C fu (listed.setIfInBounds I true) a w)(hsel:sdB pq ops listed I=true:=by kernel_rfl)(hC:C w:=by exact hC)(hG:Wd ops n L G:=by exact wn)(h0:0<=i:=by omega)(h1:i<ys.length:=by omega)(hp:i.toNat=p:=by omega)(hn:Nat.blt d n=true:=by exact U):z0w pq P ops (z0l K) C (fu+1) listed a w:=by
 subst hp;obtain⟨ad,c,rfl,hc⟩:=hs.at' (p:=i.toNat) oo Z;exact z1o I hsel hC h hG (pi2 hx hy) he h0 h1 U O hn (q _ hc)
theorem z2h {G:Option (Nat×Bool)}{K:Act->World->Prop}{fu:Nat}{listed:Array Bool}{pq:Option Nat}{ad:Addr}(D:Nat)(h:AgM ds a n L)(hx:ev L x=some (.pointer (some ad)))(Z:∀w,C w->Cells w ad [v])(hg:z2a P t)(I:ops[D]?=some ⟨some d,.load t x,ty,pos,after,G⟩)(q:∀a,AgM ds a n ((d,v)::L)->z0w pq P ops (z0l K) C fu (listed.setIfInBounds D true) a w)(hsel:sdB pq ops listed D=true:=by kernel_rfl)(hC:C w:=by exact hC)(hG:Wd ops n L G:=by exact wn)(hn:Nat.blt d n=true:=by exact U):z0w pq P ops (z0l K) C (fu+1) listed a w:=
  x0o D hsel hC h hG hx (λW O=>by have:=Z W O 0 v U;rwa [Addr.add_zero']at this) hg I hn q
theorem v1y {ad:Addr}{f off D:Nat}(I:ev L x=some (.pointer (some (ad.add D))))(hf:z0y P t f off)(hn:Nat.blt d n=true)(q:WL P ops Q rest n ds w ((d,.pointer (some (ad.add (D+off))))::L)):WL P ops Q (⟨some d,.fieldAddr t x f,ty,pos,after,none⟩::rest) n ds w L:=λa h=>y4x h I hf hn (by rw[y0h];exact q)
theorem z7u {G:Option (Nat×Bool)}{K:Act->World->Prop}{fu:Nat}{listed:Array Bool}{pq:Option Nat}{ad:Addr}{f off O:Nat}(D:Nat)(hC:C w)(h:AgM ds a n L)(hG:Wd ops n L G)(Z:ev L x=some (.pointer (some (ad.add O))))(hf:z0y P t f off)(I:ops[D]?=some ⟨some d,.fieldAddr t x f,ty,pos,after,G⟩)(q:∀a,AgM ds a n ((d,.pointer (some (ad.add (O+off))))::L)->z0w pq P ops (z0l K) C fu (listed.setIfInBounds D true) a w)(hsel:sdB pq ops listed D=true:=by kernel_rfl)(hn:Nat.blt d n=true:=by exact U):z0w pq P ops (z0l K) C (fu+1) listed a w:=
  z0c D h Z hf I (by rw[y0h];exact q) (hsel:=hsel) (hG:=hG) (hn:=hn)
theorem u4v {G:Option (Nat×Bool)}{K:Act->World->Prop}{fu:Nat}{listed:Array Bool}{pq:Option Nat}{ad:Addr}{off:Nat}{cs:List Value}(D:Nat)(hsel:sdB pq ops listed D=true)(hC:C w)(h:AgM ds a n L)(hG:Wd ops n L G)(hx:ev L x=some (.pointer (some (ad.add off))))(O:∀w,C w->Cells w ad cs)(hv:cs[off]?=some v)(Z:z2a P t)
    (hix:ops[D]?=some ⟨some d,.load t x,ty,pos,after,G⟩) (hn:Nat.blt d n=true) (q:∀a,AgM ds a n ((d,v)::L)->z0w pq P ops (z0l K) C fu (listed.setIfInBounds D true) a w):z0w pq P ops (z0l K) C (fu+1) listed a w:=
  x0o D hsel hC h hG hx (λW I=>O W I off v hv) Z hix hn q
theorem Blk.part {w:World}{g T off:Nat}{cs vs:List Value}(hb:Blk w g T cs)(O:(cs.drop off).take vs.length=vs):Cells w ((⟨g,0,none⟩:Addr).add off) vs:=λj u D=>by
 rw[<-O]at D
 have I:(cs.drop off)[j]?=some u:=by
  rw[List.getElem?_take]at D;split at D
  ·exact D
  cases D
 rw[List.getElem?_drop]at I
 rw[y0h];exact hb.cellAdd I
theorem z1d {G:Option (Nat×Bool)}{K:Act->World->Prop}{fu:Nat}{listed:Array Bool}{pq:Option Nat}{g T off:Nat}{cs vs:List Value}(D:Nat)(h:AgM ds a n L)(hx:ev L x=some (.pointer (some ((⟨g,0,none⟩:Addr).add off))))(hb:∀w,C w->Blk w g T cs)(O:z4i P t vs.length)(Z:(cs.drop off).take vs.length=vs)(I:ops[D]?=some ⟨some d,.load t x,ty,pos,after,G⟩)(q:∀a,AgM ds a n ((d,.agg vs.toArray)::L)->z0w pq P ops (z0l K) C fu (listed.setIfInBounds D true) a w)(hsel:sdB pq ops listed D=true:=by kernel_rfl)(hC:C w:=by exact hC)(hG:Wd ops n L G:=by exact wn)(hn:Nat.blt d n=true:=by exact U):z0w pq P ops (z0l K) C (fu+1) listed a w:=
  z2l D h hG hx (λw hw=>(hb w hw).part Z) O I q (hsel:=hsel) (hn:=hn)
theorem Sl.cutv {α:Type}{E:Enc α}{ys:List α}{A:Option Addr}{m cp p p':Nat}(Z:Sl E w (.slice A m cp) ys)(h1:p<=p')(h2:p'<=ys.length):Sl E w (.slice (if cp=p then A else A.map (·.add (p*E.sz))) (p'-p) (cp-p)) ((ys.take p').drop p):=by
 have O:=Z;obtain⟨A',c',e,hl,hM,_⟩:=O;cases e;have ht:=Z.take U (m:=p') h2 (B:=A) (c':=cp) oo hM (λ_=>rfl);have D:(ys.take p').length=p':=by simp;omega
 have:=ht.drop U (m:=p) (by rw[D];exact h1) (B:=if cp=p then A else A.map (·.add (p*E.sz))) (c':=cp-p) (by rw[D];omega) oo (λI=>by rw[D]at I;rw[if_neg oo]);rw[D]at this;exact this
end
end Go.Lw
namespace Go.Lw
open Go.RowKit
abbrev Fo (r:Option Nat):Fence:={ Fence.wide with round:=r }
section
variable {P:Program} {a:Act} {n N:Nat} {L:List (Nat×Value)} {ds:List Nat} {w w':World} {Q:Exit->Act->World->Prop} {ops:Array Oper} {rest:List Oper} {o:Oper} {r:Option Nat}
theorem u6j {f:FuncId}{args:Array Value}{R:Ending->World->Prop}(h:Calls P f args w R):CallsIn (Fo r) N P f args w R:=(callsIn_wide (n:=N)).2 h
theorem x9h {f:FuncId}{args:Array Value}{R:Ending->World->Prop}(h:CallsIn (Fo r) N P f args w R):Calls P f args w R:=(callsIn_wide (n:=N)).1 h
theorem j2u {row:String}{args:Array Value}{R:Value->World->Prop}(h:Rows P row args w R):RowsIn (Fo r) N P row args w R:=λc cs _=>by
 obtain⟨v,w',D,I⟩:=h c cs
 exact⟨v,w',D,(stepsIn_wide (P:=P)).2 I⟩
def Oper.noDefer (o:Oper):Bool:=match o.op with|.defer _=>false|_=>true
theorem u1n (h:Oper.noDefer o=true)(ρ:Operand->Value):Oper.semAt (Fo r).round ρ o=execOp ρ o:=by
 cases r with
 | none=>rfl
 | some l=>exact Oper.semAt_some l ρ o (λc e=>by simp[Oper.noDefer,e]at h)
theorem u2e {K:Act->World->Prop}{E:Act->World->Prop}(I:Oper.noDefer o=true)(h:o.wp P a w K (z0l E)):o.wpIn (Fo r) N P a w K Q:=by
 refine⟨λ_ _=>trivial,?_⟩;rw[u1n I];unfold Oper.wp at h;generalize (execOp a.eval o).run P w=x at h ⊢;cases x with
 | ok nx w'=>
  cases nx<;>simp only[Oper.upon,Oper.uponIn]at h ⊢<;>first
   | exact h
   | exact⟨λe=>by simp[Fo,Fence.wide]at e,u6j (Calls.mono h λe O D=>by cases e<;>first|exact D|exact D.elim|(obtain⟨_,_,D⟩:=D;exact D.elim))⟩
   | exact⟨λe=>by simp[Fo,Fence.wide]at e,j2u h⟩
 | halt x w'=>cases x<;>simp only[Oper.upon,Oper.uponIn]at h ⊢<;>exact h.elim
theorem u8d {E:Act->World->Prop}:¬LetsOut (z0l E):=by rintro⟨_,_,h⟩;exact h
theorem y1u {E:Act->World->Prop}(D:List Oper)(I:∀a w,E a w->wpListIn (Fo r) N P ops Q D a w):∀(l:List Oper) (a:Act) (w:World),l.all Oper.noDefer=true->wpList P ops (z0l E) l a w->wpListIn (Fo r) N P ops Q (l++D) a w
 | [],a,w,_,h=>I a w h
 | o::l,a,w,hd,h=>by
  simp only[List.all_cons,Bool.and_eq_true]at hd
  unfold wpList at h
  rw[List.cons_append];unfold wpListIn
  split
  ·rename_i O
   rw[if_pos O]at h
   rcases h with h|⟨_,h⟩
   ·exact Oper.wpIn_mono (λa w h=>y1u D I l a w hd.2 h) (u2e hd.1 h)
   exact absurd h u8d
  rename_i O
  rw[if_neg O]at h
  exact⟨λ_ _=>trivial,y1u D I l _ w hd.2 h⟩
theorem v0e {E:Act->World->Prop}{md:Region.Mode}(O:ops.toList.all Oper.noDefer=true)(I:∀a w,E a w->Q .normal a w):∀(fu:Nat) (listed:Array Bool) (a:Act) (w:World),wpAny P md ops (z0l E) fu listed a w->wpAnyIn (Fo r) N P md ops Q fu listed a w
 | 0,listed,a,w,h=>⟨h.1,I _ _ h.2⟩
 | fu+1,listed,a,w,h=>by
  refine⟨λe=>I _ _ (h.1 e),λi hi=>?_⟩
  have D:=h.2 i hi
  unfold wpOp at D;unfold wpOpIn
  split
  ·rename_i e;rw[e]at D;exact v0e O I fu _ a w D
  rename_i o e;rw[e]at D
  have ho:Oper.noDefer o=true:=by
   rw[List.all_eq_true]at O
   exact O o (by rw[Array.mem_toList_iff];exact Array.mem_of_getElem? e)
  simp only at D
  split
  ·rename_i Z
   rw[if_pos Z]at D
   rcases D with D|⟨_,D⟩
   ·exact Oper.wpIn_mono (λa w h=>v0e O I fu _ a w h) (u2e ho D)
   exact absurd D u8d
  rename_i Z
  rw[if_neg Z]at D
  exact⟨λ_ _=>trivial,v0e O I fu _ _ w D⟩
theorem ireg {id:Nat}{l:List Oper}(D:l.all Oper.noDefer=true)(h:wpList P l.toArray (z0l (Q .normal)) l a w):(Code.region id l.toArray false).wpIn (Fo r) N P Q a w:=by
 refine wpIn_region_lit ?_;have:=y1u (r:=r) (N:=N) (Q:=Q) [] (λa w h=>wpListIn_nil h) l a w D h;rwa [List.append_nil]at this
theorem v7y (h:Q .normal a w):wpList P ops (z0l (Q .normal)) [] a w:=h
theorem y0n (pq:Option Nat){id:Nat}{l:List Oper}(C:World->World->Prop)(I:l.all Oper.noDefer=true)(O:P.follows .mixedOrders=true)
    (h:∀w',Fr [] w w'->z0w pq P l.toArray (z0l (Q .normal)) (C w') l.length (Array.replicate l.length false) a w'):(Code.region id l.toArray true).wpIn (Fo r) N P Q a w:=by
  refine wpIn_region_any O (v0e (E:=λD w'=>Q .normal D w') (by simpa using I) (λ_ _ h=>h) _ _ _ _ ?_)
  refine y3w (pq:=pq) (C:=C w.drew) _ _ _ _ ?_
  simpa using h _ (Fr.drew [] w)
theorem v7w {id:Nat}{l:List Oper}(C:World->World->Prop)(D:l.all Oper.noDefer=true)(I:P.follows .mixedOrders=true)
 (h:∀w',Fr [] w w'->z0w none P l.toArray (z0l (Q .normal)) (C w') l.length (Array.replicate l.length false) a w'):(Code.region id l.toArray true).wpIn (Fo r) N P Q a w:=y0n none C D I h
theorem v6r {id:Nat}{D:List Oper}{Z:Nat}{L':List (Nat×Value)}(C:Prop)[Decidable C](hd:D.all Oper.noDefer=true)(h:AgM ds a n L)(hs:Sub L' L)(h1:wpList P D.toArray (y1v ds n Z C L' w) D a w)(h2:∀a,AgM ds a n ((Z,.bool (decide C))::L')->Q .normal a w) :
    (Code.region id D.toArray false).wpIn (Fo r) N P Q a w:=by
  refine ireg hd ?_
  have mono:∀(l:List Oper) (a:Act) (w':World),wpList P D.toArray (y1v ds n Z C L' w) l a w'->wpList P D.toArray (z0l (Q .normal)) l a w':=by
    intro l
    induction l with
    | nil=>rintro a w' ⟨_,rfl,h⟩;exact h2 a h
    | cons o l ih=>
      intro a w' h
      unfold wpList at h ⊢
      split
      · rename_i O
        rw[if_pos O]at h
        rcases h with h|⟨_,_,_,h,_⟩
        · refine .inl ?_
          unfold Oper.wp at h ⊢
          generalize (execOp a.eval o).run P w'=x at h ⊢
          cases x with
          | ok nx w1=>
            cases nx<;>simp only[Oper.upon]at h ⊢<;>first
              | exact ih _ _ h
              | exact Calls.mono h (λe a0 I=>by cases e<;>first|exact ih _ _ I|(obtain⟨_,_,h,_⟩:=I;cases h;done)|(obtain⟨h,_⟩:=I;cases h;done))
              | exact Rows.mono h (λ_ _ I=>ih _ _ I)
              | exact h
          | halt x w1=>cases x<;>simp only[Oper.upon]at h ⊢<;>first|exact h|(obtain⟨h,_⟩:=h;cases h)
        · cases h
      · rename_i O
        rw[if_neg O]at h
        exact ih _ _ h
  exact mono _ _ _ h1
theorem v4l {c:Operand}{x y:Code}(h:AgM ds a n L)(D:ev L c=some (.bool true))(k:x.wpIn (Fo r) N P Q a w):(Code.cond c x y).wpIn (Fo r) N P Q a w:=wpIn_cond_true (h.eval D) k
theorem x7v {c:Operand}{x y:Code}(h:AgM ds a n L)(D:ev L c=some (.bool false))(k:y.wpIn (Fo r) N P Q a w):(Code.cond c x y).wpIn (Fo r) N P Q a w:=wpIn_cond_false (h.eval D) k
theorem x8s {c:Operand}{x y:Code}{b:Bool}(h:AgM ds a n L)(D:ev L c=some (.bool b))(I:b=true->x.wpIn (Fo r) N P Q a w)(hf:b=false->y.wpIn (Fo r) N P Q a w):(Code.cond c x y).wpIn (Fo r) N P Q a w:=
 wpIn_cond_split (h.eval D) I hf
theorem u7j {x y:Code}(K:Act->World->Prop)(h1:x.wpIn (Fo r) N P (Exit.then K Q) a w)(D:∀a w,K a w->y.wpIn (Fo r) N P Q a w):(Code.seq x y).wpIn (Fo r) N P Q a w:=
 wpIn_seq (wpIn_mono h1 λe a w h=>by cases e<;>first|exact D _ _ h|exact h)
theorem k5m {c:Code}{ι:Type}(L:ι->List (Nat×Value))(I:ι->World->Prop)(μ:ι->Nat)(i:ι)(h:AgM ds a n (L i))(hI:I i w)
    (round:∀i w a,AgM ds a n (L i)->I i w->c.wpIn (Fo r) N P (Exit.then (λa' w'=>∃j,AgM ds a' n (L j)/\I j w'/\μ j<μ i) Q) a w):(Code.loop c).wpIn (Fo r) N P Q a w:=by
  intro b k cs a4 hb hr
  have a5:∀m i w a,μ i=m->AgM ds a n (L i)->I i w->
      ∃e a' w',Q e a' w'/\ArrivesIn (Machine.fenced P (Fo r)) P (lone (b.atR a (.code c::.inLoop c::k)) cs w) b k cs e a' w':=by
    intro m
    induction m using Nat.strongRecOn with
    | _ m ih=>
      intro i w a hm hA hI
      obtain⟨e,a₁,w₁,O,D⟩:=round i w a hA hI b (.inLoop c::k) cs a4 hb hr
      cases e with
      | normal=>
        obtain⟨j,a0,a1,a2⟩:=O
        obtain⟨e₂,a₂,w₂,a3,Z⟩:=ih (μ j) (hm▸a2) j w₁ a₁ U a0 a1
        exact⟨e₂,a₂,w₂,a3,.of_steps (StepsIn.trans D (.one (fenced_calm hb hr U) stepR_inLoop)) Z⟩
      | exit id=>exact⟨_,a₁,w₁,O,.pass (x:=.inLoop c) U (λ_ _=>.inl sp0) D⟩
      | goto l=>exact⟨_,a₁,w₁,O,.pass (x:=.inLoop c) U (λ_ _=>.inl sp0) D⟩
      | ret=>exact⟨_,a₁,w₁,O,.pass (x:=.inLoop c) U (λ_ _=>.inl sp0) D⟩
      | panic ch=>exact⟨_,a₁,w₁,O,.pass (x:=.inLoop c) U (λ_ _=>.inl sp0) D⟩
      | outgrown=>exact⟨_,a₁,w₁,O,.pass (x:=.inLoop c) U (λ_ _=>.inl sp0) D⟩
  obtain⟨e,a',w',O,D⟩:=a5 _ i w a U h hI
  exact⟨e,a',w',O,.of_steps (.one (fenced_calm hb hr U) stepR_loop) D⟩
end
end Go.Lw
namespace Go.Lw
open Go.RowKit
structure FrK (K:Nat->Prop) (w w':World):Prop where
  os:w'.os=w.os
  tape:w'.tape=w.tape
  output:w'.output=w.output
  size:w.heap.size<=w'.heap.size
  block:∀k,k<w.heap.size->K k->w'.heap[k]?=w.heap[k]?
theorem FrK.refl (K:Nat->Prop)(w:World):FrK K w w:=⟨rfl,rfl,rfl,Nat.le_refl _,λ_ _ _=>rfl⟩
theorem FrK.trans {K K':Nat->Prop}{x y z:World}(h:FrK K x y)(D:FrK K' y z)(O:∀k,k<x.heap.size->K k->K' k):FrK K x z:=
 ⟨D.os.trans h.os,D.tape.trans h.tape,D.output.trans h.output,Nat.le_trans h.size D.size,λk hl I=>
  (D.block k (Nat.lt_of_lt_of_le hl h.size) (O k hl I)).trans (h.block k hl I)⟩
theorem FrK.weak {K K':Nat->Prop}{x y:World}(h:FrK K x y)(I:∀k,k<x.heap.size->K' k->K k):FrK K' x y:=⟨h.os,h.tape,h.output,h.size,λk hl D=>h.block k hl (I k hl D)⟩
theorem Fr.toK {S:List Nat}{w w':World}(h:Fr S w w'):FrK (·∉S) w w':=⟨h.os,h.tape,h.output,h.size,h.block⟩
theorem FrK.toFr {K:Nat->Prop}{w w':World}(h:FrK K w w'){S:List Nat}(D:∀k,k<w.heap.size->k∉S->K k):Fr S w w':=⟨h.os,h.tape,h.output,h.size,λk hl I=>h.block k hl (D k hl I)⟩
theorem FrK.step {K:Nat->Prop}{S:List Nat}{x y z:World}(h:FrK K x y)(D:Fr S y z)(O:∀k∈S,k<x.heap.size->¬K k):FrK K x z:=
 h.trans D.toK λk hl I e=>O k e hl I
theorem FrK.next {K:Nat->Prop}{x y z:World}(h:FrK K x y)(D:Fr [] y z):FrK K x z:=h.step D sp0
section
variable {α:Type} {E:Enc α} {T:TypeId} {base g:Nat} {w w':World} {v:Value} {ys:List α} {K:Nat->Prop} {cs:List Value} {ad:Addr}
theorem FrK.cell (h:FrK K w w'){p:Addr}{u:Value}(D:w.cell? p=some u)(hn:K p.block):w'.cell? p=some u:=
 (World.cell?_of_block (w:=w) (h.block p.block (block_lt_of_cell D) hn)).trans D
theorem Cells.frK (h:Cells w ad cs)(hf:FrK K w w')(hn:K ad.block):Cells w' ad cs:=λj u D=>hf.cell (h j u D) (by rw[z6e];exact hn)
theorem Sl.frK (h:Sl E w v ys)(hf:FrK K w w')(hn:∀k∈z0u v,K k):Sl E w' v ys:=by
 obtain⟨A,c,rfl,D,I,O⟩:=h;refine⟨A,c,rfl,D,I,λi y hy=>?_⟩;obtain⟨ad,rfl,Z⟩:=O i y hy;exact⟨ad,rfl,Z.frK hf (by rw[z6e];exact hn _ (by simp[z0u]))⟩
theorem Own.frK (h:Own E T base w v ys)(hf:FrK K w w')(hn:∀k∈z0u v,K k):Own E T base w' v ys:=by
 rcases h with ⟨rfl,rfl⟩|⟨g,cap,cur,rfl,I,D,r⟩
 exact .inl ⟨rfl,rfl⟩;refine .inr ⟨g,cap,cur,rfl,I,?_,r⟩;rw[hf.block g (Array.getElem?_eq_some_iff.1 D).1 (hn _ (by simp[z0u]))];exact D
theorem Blk.frK (h:Blk w g T cs)(hf:FrK K w w')(hn:K g):Blk w' g T cs:=(hf.block g h.lt hn).trans h
end
def Turn (n0:Nat)(W W':World):Prop:=∃row,W.grownBy W' row/\∀r,row=some r->n0<=r/\∃o:Obj,W.heap[r]?=some o/\o.isCells=false
section
variable {α:Type} {E:Enc α} {T:TypeId} {base g n0:Nat} {w W W':World} {v:Value} {ys:List α} {K:Nat->Prop} {cs:List Value} {ad:Addr} {S:List Nat}
theorem Turn.at (h:Turn n0 W W'){k:Nat}{o:Obj}(I:W.heap[k]?=some o)(D:o.isCells=true\/k<n0):W'.heap[k]?=some o:=by
 obtain⟨row,hg,hr⟩:=h;refine(hg.block k (Array.getElem?_eq_some_iff.1 I).1 λe=>?_).trans I;obtain⟨h1,o',O,Z⟩:=hr k e.symm;rw[I]at O;cases O;rcases D with D|D
 rw[D]at Z;cases Z;omega
theorem x1b {p:Addr}{u:Value}(h:W.cell? p=some u):∃o,W.heap[p.block]?=some o/\o.isCells=true:=by
 unfold World.cell? at h;split at h;rename_i e;exact⟨_,e,rfl⟩;cases h
theorem Turn.cell (h:Turn n0 W W'){p:Addr}{u:Value}(I:W.cell? p=some u):W'.cell? p=some u:=by
 obtain⟨o,D,O⟩:=x1b I;exact(World.cell?_of_block (w:=W) ((h.at D (.inl O)).trans D.symm)).trans I
theorem Cells.turn (h:Cells W ad cs)(D:Turn n0 W W'):Cells W' ad cs:=λj u I=>D.cell (h j u I)
theorem Sl.turn (h:Sl E W v ys)(ht:Turn n0 W W'):Sl E W' v ys:=by
 obtain⟨A,c,rfl,D,I,O⟩:=h;exact⟨A,c,rfl,D,I,λi y hy=>by obtain⟨ad,rfl,Z⟩:=O i y hy;exact⟨ad,rfl,Z.turn ht⟩⟩
theorem Own.turn (h:Own E T base W v ys)(O:Turn n0 W W'):Own E T base W' v ys:=by
 rcases h with ⟨rfl,rfl⟩|⟨g,cap,cur,rfl,D,I,r⟩
 exact .inl ⟨rfl,rfl⟩;exact .inr ⟨g,cap,cur,rfl,D,O.at I (.inl U),r⟩
theorem Blk.turn (h:Blk W g T cs)(D:Turn n0 W W'):Blk W' g T cs:=D.at h (.inl U)
theorem Fr.turn (h:Fr S w W)(ht:Turn n0 W W')(hn:w.heap.size<=n0):Fr S w W':=by
 obtain⟨row,D,Z⟩:=ht;exact⟨D.os.trans h.os,D.tape.trans h.tape,D.output.trans h.output,Nat.le_trans h.size D.size,λk I O=>
  (D.block k (Nat.lt_of_lt_of_le I h.size) (λe=>by have:=(Z k e.symm).1;omega)).trans (h.block k I O)⟩
end
def Keep (B:List Nat)(W W':World):Prop:=∀b∈B,W'.heap[b]?=W.heap[b]?
def z9e (W:World)(k:Nat):Prop:=∃o:Obj,W.heap[k]?=some o/\o.isCells=false
section
variable {P:Program} {a:Act} {n N:Nat} {L:List (Nat×Value)} {ds:List Nat} {w w':World} {Q:Exit->Act->World->Prop} {ops:Array Oper} {rest:List Oper} {o:Oper} {r:Option Nat}
theorem x6d (h:AgM ds a n L):∀(ps:List (Nat×Value)),ps.all (λp=>Nat.blt p.1 n)=true->AgM [] { tmps:=ps.foldl (λt p=>t.setIfInBounds p.1 p.2) a.tmps,defers:=[] } n (ps.reverse++L):=by
 intro ps D;have O:AgM [] { a with defers:=[] } n L:=⟨rfl,h.size,h.at_⟩;have I:∀(ps:List (Nat×Value)) (a:Act) (L:List (Nat×Value)),ps.all (λp=>Nat.blt p.1 n)=true->AgM [] a n L->AgM [] { tmps:=ps.foldl (λt p=>t.setIfInBounds p.1 p.2) a.tmps,defers:=[] } n (ps.reverse++L):=by
  intro ps;induction ps with
  | nil=>intro a L _ h;exact⟨rfl,h.size,h.at_⟩
  | cons p ps ih=>
   intro a L D h;simp only[List.all_cons,Bool.and_eq_true]at D;have:=ih (a.put (some p.1) p.2) _ D.2 (h.put D.1 p.2);simpa[Act.put] using this
 exact I ps { a with defers:=[] } L D O
theorem j7a {f:FuncId}{fn:Func}{c:Code}{args:Array Value}{R:Ending->World->Prop}(L:List (Nat×Value))
    (hf:P.funcs[f]?=some fn) (hb:fn.body=some c) (hn:fn.ntmps=n) (hk:Nat.ble args.size n=true) (hL:argsOk args L)
    (h:∀a,Ag a n L->c.wpIn (Fo none) 9 P (bodyPostM (Fo none) 9 P fn R) a w):Calls P f args w R:=by
  have D:args.size<=n:=by simpa[Nat.ble_eq] using hk
  refine x9h (r:=none) (N:=9) (callsIn_of_wp_marks hf hb trivial (h _ ⟨rfl,by simp[hn];omega,λt v O=>?_⟩))
  have:=argsOk.look hL O
  simp only[Array.getD_eq_getD_getElem?,Array.getElem?_append]
  have I:t<args.size:=by
    rcases Nat.lt_or_ge t args.size with h|h
    · exact h
    · rw[Array.getElem?_eq_none h]at this;cases this
  rw[if_pos I,this];rfl
theorem j6y {f:FuncId}{fn:Func}{c:Code}{args:Array Value}{R:Ending->World->Prop}(L:List (Nat×Value))
    (hf:P.funcs[f]?=some fn) (hb:fn.body=some c) (hn:fn.ntmps=n) (hk:Nat.ble args.size n=true) (hL:argsOk args L)
    (h:∀a,Ag a n L->c.wpIn (Fo none) N P (bodyPost P fn R) a w):CallsIn (Fo none) N P f args w R:=by
  have D:args.size<=n:=by simpa[Nat.ble_eq] using hk
  refine callsIn_of_wp hf hb trivial (h _ ⟨rfl,by simp[hn];omega,λt v O=>?_⟩)
  have:=argsOk.look hL O
  simp only[Array.getD_eq_getD_getElem?,Array.getElem?_append]
  have I:t<args.size:=by
    rcases Nat.lt_or_ge t args.size with h|h
    · exact h
    · rw[Array.getElem?_eq_none h]at this;cases this
  rw[if_pos I,this];rfl
theorem z7p {fn:Func}{R:Ending->World->Prop}{I:Array Value}{v:Value}:∀(ds:List Nat) (w:World),(∀D∈ds,w.heap[D]?=some (.deferred (some [])))->ds.Nodup->(∀w',(results fn I).run P w'=.ok v w')->
    (∀w',Fr ds w w'->(∀n0,(∀D∈ds,n0<=D)->FrK (λk=>¬k∈ds) w w')->R (.returned v) w')->LeavesInM (Fo none) N P fn I R (ds.map mark) .returning w
  | [],w,_,_,hv,k=>⟨v,hv w,k w (Fr.refl _ _) (λ_ _=>FrK.refl _ _)⟩
  | D::ds,w,hD,hnd,hv,k=>by
    refine⟨sp0,.inl ⟨D,_,rfl,run_takeDeferred (hD D sp0),?_⟩⟩
    rw[List.nodup_cons]at hnd
    have hf:Fr [D] w (w.putObj D (.deferred none)):=⟨rfl,rfl,rfl,sp0,λk _ hk=>World.putObj_heap_other (by simpa using hk)⟩
    refine z7p ds _ (λZ O=>?_) hnd.2 hv (λw' hw _=>?_)
    · rw[World.putObj_heap_other (by rintro rfl;exact hnd.1 O)];exact hD Z (by simp[O])
    · have:Fr (D::ds) w w':=hf.trans hw
      exact k w' this (λ_ _=>this.toK)
theorem j9y {fn:Func}{R:Ending->World->Prop}(h:AgM ds a n L)(Z:fn.results=#[])(O:∀D∈ds,w.heap[D]?=some (.deferred (some [])))(I:ds.Nodup)(k:∀w',Fr ds w w'->R (.returned (.tuple #[])) w'):bodyPostM (Fo none) N P fn R .ret a w:=by
 show LeavesInM _ _ _ _ _ _ a.defers _ _;rw[h.dfr];exact z7p ds w O I (λw'=>results_none Z _ _ _) (λw' hw _=>k w' hw)
theorem j8a {fn:Func}{R:Ending->World->Prop}(h:AgM ds a n L)(Z:fn.results=#[])(O:∀D∈ds,w.heap[D]?=some (.deferred (some [])))(I:ds.Nodup)(k:∀w',Fr ds w w'->R (.returned (.tuple #[])) w'):bodyPostM (Fo none) N P fn R .normal a w:=j9y h Z O I k
theorem k3s {fn:Func}{R:Ending->World->Prop}{t:Nat}{v:Value}(h:AgM ds a n L)(Z:fn.results=#[.tmp t])(hv:look L t=some v)(O:∀D∈ds,w.heap[D]?=some (.deferred (some [])))(I:ds.Nodup)(k:∀w',Fr ds w w'->R (.returned v) w'):bodyPostM (Fo none) N P fn R .ret a w:=by
 show LeavesInM _ _ _ _ _ _ a.defers _ _;rw[h.dfr];exact z7p ds w O I (λw'=>by rw[<-h.at_ t v hv];exact results_tmp Z _ _ _) (λw' hw _=>k w' hw)
theorem k4x {fn:Func}{R:Ending->World->Prop}{t u:Nat}{v x:Value}(h:AgM ds a n L)(Z:fn.results=#[.tmp t,.tmp u])(hv:look L t=some v)(hx:look L u=some x)(O:∀D∈ds,w.heap[D]?=some (.deferred (some [])))(I:ds.Nodup)
    (k:∀w',Fr ds w w'->R (.returned (.tuple #[v,x])) w'):bodyPostM (Fo none) N P fn R .ret a w:=by
  show LeavesInM _ _ _ _ _ _ a.defers _ _
  rw[h.dfr];exact z7p ds w O I (λw'=>by rw[<-h.at_ t v hv,<-h.at_ u x hx];exact results_tmp2 Z _ _ _) (λw' hw _=>k w' hw)
end
end Go.Lw
namespace Go.Lw
open Go.RowKit
theorem Fr.of_below' {w w':World}{B:Nat}(hb:Below B w w')(D:w.heap.size<=B):Fr [] w w':=⟨hb.os,hb.tape,hb.output,hb.size,λk I _=>hb.block k oo⟩
section
variable {P:Program} {a:Act} {n:Nat} {L:List (Nat×Value)} {ds:List Nat} {w w':World} {Q:Exit->Act->World->Prop} {ops:Array Oper} {rest:List Oper}
variable {d:Nat} {ty:TypeId} {pos:String} {after:Array Edge} {x y:Operand} {t t' T T':TypeId} {v:Value} {ad:Addr} {po:Option Addr}
end
end Go.Lw
namespace Go.Lw
open Go.RowKit
section
variable {P:Program} {n:Nat} {L:List (Nat×Value)} {ds:List Nat} {w w':World} {Q:Exit->Act->World->Prop} {ops:Array Oper} {rest:List Oper} {a:Act} {x y c:Code} {id:Nat}
class Says (b:Bool) (p:outParam Prop):Prop where
  iff:b=true↔p
instance (priority:=100) says_b (b:Bool):Says b (b=true):=⟨Iff.rfl⟩
instance (priority:=1000) says_d (p:Prop) {hp:Decidable p}:Says (@decide p hp) p:=⟨decide_eq_true_iff⟩
instance (priority:=1100) says_n (p:Prop) {hp:Decidable p}:Says (!(@decide p hp)) (¬p):=⟨sp0⟩
theorem Says.no {b:Bool}{p:Prop}[h:Says b p](e:b=false):¬p:=λD=>by rw[h.iff.2 D]at e;cases e
theorem sq (h:CW P (Exit.then (y.wp P Q) Q) x n ds w L):CW P Q (.seq x y) n ds w L:=λa D=>wp_seq (h a D)
theorem rg {l:List Oper}(h:WL P l.toArray Q l n ds w L):CW P Q (.region id l.toArray false) n ds w L:=λa D=>wp_region_lit (h a D)
theorem sr {l:List Oper}(h:WL P l.toArray (Exit.then (y.wp P Q) Q) l n ds w L):CW P Q (.seq (.region id l.toArray false) y) n ds w L:=sq (rg h)
theorem bl (h:CW P (Exit.inBlock id Q) x n ds w L):CW P Q (.block id x) n ds w L:=λa D=>wp_block (h a D)
theorem sk (h:EW Q .normal n ds w L):CW P Q .skip n ds w L:=λa D=>wp_skip (h a D)
theorem lb {l:Nat}(h:EW Q .normal n ds w L):CW P Q (.label l) n ds w L:=λa D=>wp_label (h a D)
theorem rt (h:EW Q .ret n ds w L):CW P Q .ret n ds w L:=λa D=>wp_ret (h a D)
theorem ex (h:EW Q (.exit id) n ds w L):CW P Q (.exit id) n ds w L:=λa D=>wp_exit (h a D)
theorem sc (h:CW P (Exit.noGoto Q) x n ds w L):CW P Q (.scope x) n ds w L:=λa D=>wp_scope_straight (h a D)
theorem nl (h:EW Q .normal n ds w L):WL P ops Q [] n ds w L:=λa D=>wpList_nil (h a D)
theorem tn (h:CW P Q y n ds w L){D:Exit->Act->World->Prop}:EW (Exit.then (y.wp P Q) D) .normal n ds w L:=h
theorem nn (h:CW P Q y n ds w L){D:Exit->Act->World->Prop}:WL P ops (Exit.then (y.wp P Q) D) [] n ds w L:=nl (tn h)
theorem bn' (h:EW Q .normal n ds w L):EW (Exit.inBlock id Q) .normal n ds w L:=h
theorem rb (h:EW Q .ret n ds w L):EW (Exit.inBlock id Q) .ret n ds w L:=h
theorem tr {K:Act->World->Prop}(h:EW Q .ret n ds w L):EW (Exit.then K Q) .ret n ds w L:=h
theorem te {K:Act->World->Prop}(h:EW Q (.exit id) n ds w L):EW (Exit.then K Q) (.exit id) n ds w L:=h
theorem xh (h:EW Q .normal n ds w L):EW (Exit.inBlock id Q) (.exit id) n ds w L:=λa D=>x4q (h a D)
theorem xo {D:Nat}(I:Nat.beq D id=false)(h:EW Q (.exit D) n ds w L):EW (Exit.inBlock id Q) (.exit D) n ds w L:=λa O=>u5o I (h a O)
theorem gn' (h:EW Q .normal n ds w L):EW (Exit.noGoto Q) .normal n ds w L:=h
theorem gx' (h:EW Q (.exit id) n ds w L):EW (Exit.noGoto Q) (.exit id) n ds w L:=h
theorem ct {C:Operand}(D:ev L C=some (.bool true))(k:CW P Q x n ds w L):CW P Q (.cond C x y) n ds w L:=λa h=>cond_true h D (k a h)
theorem cf {C:Operand}(D:ev L C=some (.bool false))(k:CW P Q y n ds w L):CW P Q (.cond C x y) n ds w L:=λa h=>x0d h D (k a h)
theorem cd {C:Operand}{b:Bool}{p:Prop}(D:ev L C=some (.bool b))[s:Says b p](I:p->CW P Q x n ds w L)(hf:¬p->CW P Q y n ds w L):CW P Q (.cond C x y) n ds w L:=
 λa h=>y9z h D (λe=>I (s.iff.1 e) a h) (λe=>hf (s.no e) a h)
theorem gs {l:List Oper}(D:Nat){b:Bool}{p:Prop}(hb:look L D=some (.bool b))[s:Says b p](O:p->WL P ops Q l n ds w ((D,.bool true)::L))(hf:¬p->WL P ops Q l n ds w ((D,.bool false)::L)):WL P ops Q l n ds w L:=
 λa h=>x5y h hb (λe I=>O (s.iff.1 e) a I) (λe I=>hf (s.no e) a I)
theorem kpL {l:List Oper}(L':List (Nat×Value))(D:Sub L' L)(k:WL P ops Q l n ds w L'):WL P ops Q l n ds w L:=λa h=>k a (h.sub D)
theorem kpC (L':List (Nat×Value))(D:Sub L' L)(k:CW P Q c n ds w L'):CW P Q c n ds w L:=λa h=>k a (h.sub D)
def u9u (ops:Array Oper)(G:Option (Nat×Bool))(n:Nat)(L:List (Nat×Value)):Option (Value×Bool):=
  match G with
  | none=>none
  | some (j,want)=>
    match ops[j]? with
    | none=>none
    | some oj=>
      match oj.dst with
      | none=>none
      | some dj=>bif Nat.blt dj n then (look L dj).map (λv=>(v,want)) else none
def u1a (ops:Array Oper)(o:Oper)(n:Nat)(L:List (Nat×Value)):Option (Value×Bool):=u9u ops o.guard n L
theorem z8l {o:Oper}{v:Value}{D:Bool}(h:u1a ops o n L=some (v,D)):∃j I O,o.guard=some (j,D)/\ops[j]?=some O/\O.dst=some I/\Nat.blt I n=true/\look L I=some v:=by
 unfold u1a u9u at h;split at h;cases h;rename_i j Z hg;split at h;cases h;rename_i O hj;split at h;cases h;rename_i I hd;cases hb:Nat.blt I n with
 | false=>rw[hb]at h;cases h
 | true=>
  rw[hb]at h;cases hl:look L I with
  | none=>rw[hl]at h;cases h
  | some u=>rw[hl]at h;cases h;exact⟨j,I,O,hg,hj,hd,hb,hl⟩
theorem gY {o:Oper}{b:Bool}(hg:u1a ops o n L=some (.bool b,b))(k:WL P ops Q ({ o with guard:=none }::rest) n ds w L):WL P ops Q (o::rest) n ds w L:=by
 obtain⟨j,dj,oj,D,I,O,Z,h5⟩:=z8l hg;exact λa h=>y1d h D I O Z h5 (by cases b<;>rfl) (k a h)
theorem gN {o:Oper}{b:Bool}{d:Nat}(H0:(u1a ops o n L,o.dst)=(some (.bool b,!b),some d))(k:WL P ops Q rest n ds w ((d,undef)::L))(hn:Nat.blt d n=true:=by exact U):WL P ops Q (o::rest) n ds w L:=by
 obtain⟨hg,hd⟩:=qi2 H0
 obtain⟨j,dj,oj,D,I,O,Z,h5⟩:=z8l hg;exact λa h=>k3j h D I O Z h5 (by cases b<;>rfl) hd hn k
theorem gS {o:Oper}{d:Nat}{D:Bool}(H0:(u1a ops o n L,o.dst)=(some (undef,D),some d))(k:WL P ops Q rest n ds w ((d,undef)::L))(hn:Nat.blt d n=true:=by exact U):WL P ops Q (o::rest) n ds w L:=by
 obtain⟨hg,hd⟩:=qi2 H0
 obtain⟨j,dj,oj,I,O,Z,h4,h5⟩:=z8l hg;exact λa h=>j2p h I O Z h4 h5 hd hn k
theorem lpK {ι:Type}(K:List (Nat×Value))(M:ι->List (Nat×Value))(I:ι->World->Prop)(μ:ι->Nat)(i:ι)(Z:Sub (K++M i) L)(D:I i w)
    (round:∀i w,I i w->CW P (Exit.then (λO w'=>∃j,AgM ds O n (K++M j)/\I j w'/\μ j<μ i) Q) c n ds w (K++M i)):CW P Q (.loop c) n ds w L:=
  λa h=>loop (λi=>K++M i) I μ i (h.sub Z) D (λi w a h D=>round i w D a h)
theorem lpE {ι:Type}{K:List (Nat×Value)}{M:ι->List (Nat×Value)}{I:ι->World->Prop}{μ:ι->Nat}{m:Nat}(j:ι)(hs:Sub (K++M j) L)(O:I j w)(Z:μ j<m):EW (Exit.then (λD w'=>∃j,AgM ds D n (K++M j)/\I j w'/\μ j<m) Q) .normal n ds w L:=
 λa h=>⟨j,h.sub hs,O,Z⟩
def JW {ι:Type}(n:Nat)(ds:List Nat)(K:List (Nat×Value))(M:ι->List (Nat×Value))(I:ι->World->Prop)(a:Act)(w:World):Prop:=∃j,AgM ds a n (K++M j)/\I j w
theorem jn {ι:Type}(K:List (Nat×Value))(M:ι->List (Nat×Value))(I:ι->World->Prop)(_hs:Sub K L)(h1:CW P (Exit.then (JW n ds K M I) Q) x n ds w L)(D:∀j w,I j w->CW P Q y n ds w (K++M j)):CW P Q (.seq x y) n ds w L:=
 λa h=>j0s (JW n ds K M I) (h1 a h) (λa w ⟨j,h,hI⟩=>D j w hI a h)
theorem jE {ι:Type}{K:List (Nat×Value)}{M:ι->List (Nat×Value)}{I:ι->World->Prop}(j:ι)(O:Sub (K++M j) L)(D:I j w):EW (Exit.then (JW n ds K M I) Q) .normal n ds w L:=λa h=>⟨j,h.sub O,D⟩
theorem rbo {D:List Oper}{r:Nat}{L':List (Nat×Value)}(C:Prop)[Decidable C](O:Sub L' L)(h1:WL P D.toArray (y1v ds n r C L' w) D n ds w L)(I:EW Q .normal n ds w ((r,.bool (decide C))::L')):CW P Q (.region id D.toArray false) n ds w L:=
 λa h=>x7s C h O (h1 a h) I
theorem rbe {r:Nat}{L':List (Nat×Value)}{C:Prop}[Decidable C]{b:Bool}(D:look L r=some (.bool b))(I:Sub L' L)(hb:b=decide C:=by first|exact bt oo|exact bf oo|exact bi oo|exact bn oo|(simp_all;done)|(simp_all;omega)):WL P ops (y1v ds n r C L' w) [] n ds w L:=
 λa h=>wpList_nil (v0h h D hb I)
def v2j (ds:List Nat)(n r:Nat)(C:Prop)[Decidable C](L':List (Nat×Value))(w0:World):Exit->Act->World->Prop:=λe a w=>e=.normal/\Fr [] w0 w/\AgM ds a n ((r,.bool (decide C))::L')
theorem u2n {D:List Oper}{r:Nat}{L':List (Nat×Value)}(C:Prop)[Decidable C](_hs:Sub L' L)(h1:WL P D.toArray (v2j ds n r C L' w) D n ds w L)(I:∀w',Fr [] w w'->EW Q .normal n ds w' ((r,.bool (decide C))::L')):CW P Q (.region id D.toArray false) n ds w L:=
 λa h=>wp_mono (wp_region_lit (h1 a h)) (λe a w h=>by obtain⟨rfl,hf,O⟩:=h;exact I w hf a O)
theorem y5c {r:Nat}{L':List (Nat×Value)}{C:Prop}[Decidable C]{b:Bool}{w0:World}(D:look L r=some (.bool b))(I:Sub L' L)(hf:Fr [] w0 w)(hb:b=decide C:=by first|exact bt oo|exact bf oo|exact bi oo|exact bn oo|(simp_all;done)|(simp_all;omega)):WL P ops (v2j ds n r C L' w0) [] n ds w L:=
 λa h=>wpList_nil ⟨rfl,hf,(v0h (w:=w) h D hb I).2.2⟩
theorem bk {e:Exit}(h:AgM ds a n L)(k:EW Q e n ds w L):Q e a w:=k a h
theorem we {f:FuncId}{fn:Func}{c:Code}{args:Array Value}{R:Ending->World->Prop}(L:List (Nat×Value))(hf:P.funcs[f]?=some fn)(I:fn.body=some c)(hn:fn.ntmps=n)(hl:Nat.ble args.size n=true)(D:argsOk args L)
 (h:CW P (bodyPost P fn R) c n [] w L):Calls P f args w R:=enter L hf I hn hl D h
section
variable {R:Ending->World->Prop} {fn:Func} {t u s:Nat} {v z:Value}
theorem r0 (D:fn.results=#[])(k:R (.returned (.tuple #[])) w):EW (bodyPost P fn R) .ret n [] w L:=λ_ h=>ret0 h D k
theorem r0n (D:fn.results=#[])(k:R (.returned (.tuple #[])) w):EW (bodyPost P fn R) .normal n [] w L:=λ_ h=>u0w h D k
theorem r1 (D:fn.results=#[.tmp t])(I:look L t=some v)(k:R (.returned v) w):EW (bodyPost P fn R) .ret n [] w L:=λ_ h=>k2l h D I k
theorem r2 (D:fn.results=#[.tmp t,.tmp u])(I:look L t=some v)(O:look L u=some z)(k:R (.returned (.tuple #[v,z])) w):EW (bodyPost P fn R) .ret n [] w L:=λ_ h=>ret2 h D I O k
theorem r3 {z':Value}(D:fn.results=#[.tmp t,.tmp u,.tmp s])(I:look L t=some v)(O:look L u=some z)(Z:look L s=some z')(k:R (.returned (.tuple #[v,z,z'])) w):EW (bodyPost P fn R) .ret n [] w L:=λ_ h=>ret3 h D I O Z k
variable {p pt q r g T:Nat} {cs:List Value}
theorem rC (I:fn.results=#[.cell p pt])(hp:look L p=some (.pointer (some ⟨g,0,none⟩)))(hb:Blk w g T cs)(D:z4i P pt cs.length)(k:R (.returned (.agg cs.toArray)) w):EW (bodyPost P fn R) .ret n [] w L:=λ_ h=>retC h I hp hb D k
theorem rCT (I:fn.results=#[.cell p pt,.tmp q])(hp:look L p=some (.pointer (some ⟨g,0,none⟩)))(hb:Blk w g T cs)(D:z4i P pt cs.length)(O:look L q=some v)(k:R (.returned (.tuple #[.agg cs.toArray,v])) w):EW (bodyPost P fn R) .ret n [] w L:=λ_ h=>k4c h I hp hb D O k
theorem k2h {u:Value}(I:fn.results=#[.cell p pt,.tmp q,.tmp r])(hp:look L p=some (.pointer (some ⟨g,0,none⟩)))(hb:Blk w g T cs)(D:z4i P pt cs.length)(Z:look L q=some v)(O:look L r=some u)(k:R (.returned (.tuple #[.agg cs.toArray,v,u])) w):EW (bodyPost P fn R) .ret n [] w L:=λ_ h=>k0f h I hp hb D Z O k
end
theorem wi6 {z:Int}(h:-9223372036854775808<=z/\z<=9223372036854775807):IntKind.i64.wrap z=z:=IntWalk.i64_in z oo
theorem wi8 {z:Int}(h:0<=z/\z<=255):IntKind.u8.wrap z=z:=IntWalk.u8_in z oo
theorem ev1 {x:Operand}{v:Value}(h:ev L x=some v):evs L [x] [v]:=⟨h,trivial⟩
theorem ev2 {x y:Operand}{v u:Value}(H0:(ev L x,ev L y)=(some v,some u)):evs L [x,y] [v,u]:=let⟨h,D⟩:=qi2 H0;⟨h,D,trivial⟩
theorem ev3 {x y z:Operand}{v u t:Value}(H0:(ev L x,ev L y,ev L z)=(some v,some u,some t)):evs L [x,y,z] [v,u,t]:=let⟨h,D,I⟩:=qi3 H0;⟨h,D,I,trivial⟩
theorem ev4 {x y z o:Operand}{v u t s:Value}(H0:(ev L x,ev L y,ev L z,ev L o)=(some v,some u,some t,some s)):evs L [x,y,z,o] [v,u,t,s]:=let⟨h,D,I,O⟩:=qi4 H0;⟨h,D,I,O,trivial⟩
theorem z1m {k:Nat}:((k:Nat):Int).toNat=k:=Int.toNat_natCast k
end
theorem us {P:Program}{t:TypeId}{u}(h:P.underlying t=some u):(P.underlying t).isSome=true:=by rw[h];rfl
section
variable {P:Program} {n:Nat} {L:List (Nat×Value)} {ds:List Nat} {w w':World} {Q:Exit->Act->World->Prop} {ops:Array Oper} {rest:List Oper} {d:Nat} {ty T:TypeId} {pos:String} {after:Array Edge} {v:Value} {x:Operand}
theorem bx {cs:List Value}(H0:(ev L x,v.cells,Nat.blt d n)=(some v,cs.toArray,true))(q:∀g w',g=w.heap.size->Blk w' g T cs->Fr [] w w'->w'.heap.size=g+1->WL P ops Q rest n ds w' ((d,.pointer (some ⟨g,0,none⟩))::L)):WL P ops Q (⟨some d,.box T x,ty,pos,after,none⟩::rest) n ds w L:=let⟨hx,Z,hn⟩:=qi3 H0;
 k3g hx Z hn (λw' D I O=>q _ w' U D I O)
theorem al {cs:List Value}(hz:∀w:World,(zeroValue T).run P w=.ok v w)(H1:(v.cells,Nat.blt d n)=(cs.toArray,true))(q:∀g w',g=w.heap.size->Blk w' g T cs->Fr [] w w'->w'.heap.size=g+1->WL P ops Q rest n ds w' ((d,.pointer (some ⟨g,0,none⟩))::L)):WL P ops Q (⟨some d,.alloc T,ty,pos,after,none⟩::rest) n ds w L:=let⟨Z,hn⟩:=qi2 H1;
 j3o hz Z hn (λw' D I O=>q _ w' U D I O)
theorem z2r {t:TypeId}{g off:Nat}{cs vs:List Value}(hx:ev L x=some (.pointer (some ((⟨g,0,none⟩:Addr).add off))))(hb:Blk w g T cs)(O:z4i P t vs.length)(Z:(cs.drop off).take vs.length=vs)(q:WL P ops Q rest n ds w ((d,.agg vs.toArray)::L))(hn:Nat.blt d n=true:=by exact U):WL P ops Q (⟨some d,.load t x,ty,pos,after,none⟩::rest) n ds w L:=
 z1t hx (λj u D=>by
  rw[<-Z]at D
  have I:(cs.drop off)[j]?=some u:=by
   rw[List.getElem?_take]at D;split at D
   ·exact D
   cases D
  rw[List.getElem?_drop]at I
  rw[y0h];exact hb.cellAdd I) O q (hn:=hn)
section
variable {C:World->Prop} {K:Act->World->Prop} {fu:Nat} {listed:Array Bool} {pq:Option Nat} {o:Oper} {a:Act} {G:Option (Nat×Bool)} {t t':TypeId} {y:Operand} {k:IntKind} {i j:Int} {l l':List UInt8}
theorem v4a {b:Bool}(h:AgM ds a n L)(hg:u1a ops o n L=some (.bool b,b)):Region.wanted o (yielded ops a.tmps)=true:=by
 obtain⟨j,dj,oj,D,I,O,Z,h5⟩:=z8l hg;have hy:=z6y (ops:=ops) h I O Z h5;simp[Region.wanted,D,hy]
theorem wy {b:Bool}(D:u9u ops G n L=some (.bool b,b)):Wd ops n L G:=λa ds h o I=>v4a (o:=o) h (by unfold u1a;rw[I];exact D)
theorem v5l {b:Bool}(h:AgM ds a n L)(hg:u1a ops o n L=some (.bool b,!b)):Region.wanted o (yielded ops a.tmps)=false:=by
 obtain⟨j,dj,oj,D,I,O,Z,h5⟩:=z8l hg;have hy:=z6y (ops:=ops) h I O Z h5;simp[Region.wanted,D,hy]
theorem x7w {I:Bool}(h:AgM ds a n L)(hg:u1a ops o n L=some (undef,I)):Region.wanted o (yielded ops a.tmps)=false:=by
 obtain⟨j,O,oj,h1,h2,h3,h4,h5⟩:=z8l hg;have Z:=h.at_ O _ h5;have D:O<a.tmps.size:=by rw[h.size];simpa[Nat.blt_eq] using h4
 have e2:a.tmps[O]?=some undef:=by
  rw[Array.getElem?_eq_getElem D];simpa[Array.getD,D] using Z
 have hy:yielded ops a.tmps j=none:=by simp[yielded,h2,h3,e2,undef]
 simp[Region.wanted,h1,hy]
theorem z2p {b:Bool}(I:Nat)(h:AgM ds a n L)(D:ops[I]?=some o)(H3:(u1a ops o n L,o.dst)=(some (.bool b,!b),some d))(q:∀a,AgM ds a n ((d,undef)::L)->z0w pq P ops (z0l K) C fu (listed.setIfInBounds I true) a w)(hsel:sdB pq ops listed I=true:=by kernel_rfl)(hC:C w:=by exact hC)(hn:Nat.blt d n=true:=by exact U):z0w pq P ops (z0l K) C (fu+1) listed a w:=let⟨Z,O⟩:=qi2 H3;
  v6v D (y2o hsel).1 (y2o hsel).2.1 (y2o hsel).2.2 (λ_ _ _ h=>h) (.inr ⟨v5l h Z,rfl⟩) hC (by rw[O];exact q _ (h.put hn undef))
theorem x5x {D:Bool}(O:Nat)(hC:C w)(h:AgM ds a n L)(I:ops[O]?=some o)(hg:u1a ops o n L=some (undef,D))(Z:o.dst=some d)(q:∀a,AgM ds a n ((d,undef)::L)->z0w pq P ops (z0l K) C fu (listed.setIfInBounds O true) a w)(hsel:sdB pq ops listed O=true:=by kernel_rfl)(hn:Nat.blt d n=true:=by exact U):z0w pq P ops (z0l K) C (fu+1) listed a w:=
  v6v I (y2o hsel).1 (y2o hsel).2.1 (y2o hsel).2.2 (λ_ _ _ h=>h) (.inr ⟨x7w h hg,rfl⟩) hC (by rw[Z];exact q _ (h.put hn undef))
theorem j6x {α:Type}[DecidableEq α]{V:α->Value}{e f:α}(h:AgM ds a n L)(Z:ev L x=some (V e))(hy:ev L y=some (V f))(O:u0s P t V):∀w,C w->(execOp a.eval ⟨some d,.binOp .neq t x y t',ty,pos,after,G⟩).run P w=.ok (.value (.bool (decide (e≠f)))) w:=λw _=>by
 obtain⟨_,D,_,I⟩:=O e f x y w
 simp[execOp,h.eval Z,h.eval hy,D,I]
theorem u8v {α:Type}[DecidableEq α]{V:α->Value}{e f:α}(D:Nat)(hC:C w)(h:AgM ds a n L)(hG:Wd ops n L G)(Z:ev L x=some (V e))(hy:ev L y=some (V f))(O:u0s P t V)(I:ops[D]?=some ⟨some d,.binOp .neq t x y t',ty,pos,after,G⟩)(hn:Nat.blt d n=true)(q:∀a,AgM ds a n ((d,.bool (decide (e≠f)))::L)->z0w pq P ops (z0l K) C fu (listed.setIfInBounds D true) a w)(hsel:sdB pq ops listed D=true:=by kernel_rfl):z0w pq P ops (z0l K) C (fu+1) listed a w:=
  z6p D hsel h hG I U hn (j6x h Z hy O) q
end
end
end Go.Lw
namespace Go.Lw
open Go.RowKit
section
variable {P:Program} {n N:Nat} {r:Option Nat} {L:List (Nat×Value)} {ds:List Nat} {w w':World} {Q:Exit->Act->World->Prop} {ops:Array Oper} {rest:List Oper} {a:Act} {x y c:Code} {id:Nat}
def CWi (r:Option Nat)(N:Nat)(P:Program)(Q:Exit->Act->World->Prop)(c:Code)(n:Nat)(ds:List Nat)(w:World)(L:List (Nat×Value)):Prop:=∀a,AgM ds a n L->c.wpIn (Fo r) N P Q a w
theorem isq (h:CWi r N P (Exit.then (y.wpIn (Fo r) N P Q) Q) x n ds w L):CWi r N P Q (.seq x y) n ds w L:=λa D=>wpIn_seq (h a D)
theorem irg {l:List Oper}(I:l.all Oper.noDefer=true)(h:WL P l.toArray (z0l (Q .normal)) l n ds w L):CWi r N P Q (.region id l.toArray false) n ds w L:=λa D=>ireg I (h a D)
theorem ibl (h:CWi r N P (Exit.inBlock id Q) x n ds w L):CWi r N P Q (.block id x) n ds w L:=λa D=>wpIn_block (h a D)
theorem isk (h:EW Q .normal n ds w L):CWi r N P Q .skip n ds w L:=λa D=>wpIn_skip (h a D)
theorem irt (h:EW Q .ret n ds w L):CWi r N P Q .ret n ds w L:=λa D=>wpIn_ret (h a D)
theorem iex (h:EW Q (.exit id) n ds w L):CWi r N P Q (.exit id) n ds w L:=λa D=>wpIn_exit (h a D)
theorem inl (h:EW Q .normal n ds w L):WL P ops (z0l (Q .normal)) [] n ds w L:=λa D=>v7y (h a D)
theorem itn (h:CWi r N P Q y n ds w L){D:Exit->Act->World->Prop}:EW (Exit.then (y.wpIn (Fo r) N P Q) D) .normal n ds w L:=h
theorem ict {C:Operand}(D:ev L C=some (.bool true))(k:CWi r N P Q x n ds w L):CWi r N P Q (.cond C x y) n ds w L:=λa h=>v4l h D (k a h)
theorem icf {C:Operand}(D:ev L C=some (.bool false))(k:CWi r N P Q y n ds w L):CWi r N P Q (.cond C x y) n ds w L:=λa h=>x7v h D (k a h)
theorem icd {C:Operand}{b:Bool}{p:Prop}(D:ev L C=some (.bool b))[s:Says b p](I:p->CWi r N P Q x n ds w L)(hf:¬p->CWi r N P Q y n ds w L):CWi r N P Q (.cond C x y) n ds w L:=
 λa h=>x8s h D (λe=>I (s.iff.1 e) a h) (λe=>hf (s.no e) a h)
theorem y7v (L':List (Nat×Value))(D:Sub L' L)(k:CWi r N P Q c n ds w L'):CWi r N P Q c n ds w L:=λa h=>k a (h.sub D)
theorem v3e {ι:Type}(K:List (Nat×Value))(M:ι->List (Nat×Value))(I:ι->World->Prop)(μ:ι->Nat)(i:ι)(Z:Sub (K++M i) L)(D:I i w)
    (round:∀i w,I i w->CWi r N P (Exit.then (λO w'=>∃j,AgM ds O n (K++M j)/\I j w'/\μ j<μ i) Q) c n ds w (K++M i)):CWi r N P Q (.loop c) n ds w L:=
  λa h=>k5m (λi=>K++M i) I μ i (h.sub Z) D (λi w a h D=>round i w D a h)
theorem x5z {ι:Type}{K:List (Nat×Value)}{M:ι->List (Nat×Value)}{I:ι->World->Prop}{μ:ι->Nat}{m:Nat}(j:ι)(hs:Sub (K++M j) L)(O:I j w)(Z:μ j<m):EW (Exit.then (λD w'=>∃j,AgM ds D n (K++M j)/\I j w'/\μ j<m) Q) .normal n ds w L:=lpE j hs O Z
theorem ijn {ι:Type}(K:List (Nat×Value))(M:ι->List (Nat×Value))(I:ι->World->Prop)(_hs:Sub K L)(h1:CWi r N P (Exit.then (JW n ds K M I) Q) x n ds w L)(D:∀j w,I j w->CWi r N P Q y n ds w (K++M j)):CWi r N P Q (.seq x y) n ds w L:=
 λa h=>u7j (JW n ds K M I) (h1 a h) (λa w ⟨j,h,hI⟩=>D j w hI a h)
theorem ijE {ι:Type}{K:List (Nat×Value)}{M:ι->List (Nat×Value)}{I:ι->World->Prop}(j:ι)(O:Sub (K++M j) L)(D:I j w):EW (Exit.then (JW n ds K M I) Q) .normal n ds w L:=jE j O D
end
end Go.Lw
namespace Go.Lw
open Go.RowKit
section
variable {P:Program} {n N:Nat} {ro:Option Nat} {L:List (Nat×Value)} {ds:List Nat} {w w':World} {Q:Exit->Act->World->Prop} {ops:Array Oper} {rest:List Oper} {a:Act} {x y c:Code} {id:Nat}
theorem weM {f:FuncId}{fn:Func}{c:Code}{args:Array Value}{R:Ending->World->Prop}(L:List (Nat×Value))(hf:P.funcs[f]?=some fn)(O:fn.body=some c)(hn:fn.ntmps=n)(hl:Nat.ble args.size n=true)(D:argsOk args L)
 (h:CWi none 9 P (bodyPostM (Fo none) 9 P fn R) c n [] w L):Calls P f args w R:=j7a L hf O hn hl D (λa I=>h a I)
theorem weI {f:FuncId}{fn:Func}{c:Code}{args:Array Value}{R:Ending->World->Prop}(L:List (Nat×Value))(hf:P.funcs[f]?=some fn)(O:fn.body=some c)(hn:fn.ntmps=n)(hl:Nat.ble args.size n=true)(D:argsOk args L)
 (h:CWi none N P (bodyPost P fn R) c n [] w L):CallsIn (Fo none) N P f args w R:=j6y L hf O hn hl D (λa I=>h a I)
section
variable {R:Ending->World->Prop} {fn:Func} {t u:Nat} {v z:Value}
theorem rM0 (Z:fn.results=#[])(O:∀D∈ds,w.heap[D]?=some (.deferred (some [])))(I:ds.Nodup)(k:∀w',Fr ds w w'->R (.returned (.tuple #[])) w'):EW (bodyPostM (Fo none) N P fn R) .ret n ds w L:=λ_ h=>j9y h Z O I k
theorem rM0n (Z:fn.results=#[])(O:∀D∈ds,w.heap[D]?=some (.deferred (some [])))(I:ds.Nodup)(k:∀w',Fr ds w w'->R (.returned (.tuple #[])) w'):EW (bodyPostM (Fo none) N P fn R) .normal n ds w L:=λ_ h=>j8a h Z O I k
theorem rM1 (Z:fn.results=#[.tmp t])(hv:look L t=some v)(O:∀D∈ds,w.heap[D]?=some (.deferred (some [])))(I:ds.Nodup)(k:∀w',Fr ds w w'->R (.returned v) w'):EW (bodyPostM (Fo none) N P fn R) .ret n ds w L:=λ_ h=>k3s h Z hv O I k
theorem rM2 (Z:fn.results=#[.tmp t,.tmp u])(hv:look L t=some v)(hx:look L u=some z)(O:∀D∈ds,w.heap[D]?=some (.deferred (some [])))(I:ds.Nodup)(k:∀w',Fr ds w w'->R (.returned (.tuple #[v,z])) w'):EW (bodyPostM (Fo none) N P fn R) .ret n ds w L:=λ_ h=>k4x h Z hv hx O I k
end
def DefAt (D:Nat)(w:World):Prop:=w.heap[D]?=some (.deferred (some []))
theorem DefAt.ext {D:Nat}(h:DefAt D w)(hf:Fr [] w w'):DefAt D w':=(hf.block D (Array.getElem?_eq_some_iff.1 h).1 sp0).trans h
theorem DefAt.fr {D:Nat}{S:List Nat}(h:DefAt D w)(hf:Fr S w w')(I:D∉S:=by simp[z0u]<;>omega):DefAt D w':=(hf.block D (Array.getElem?_eq_some_iff.1 h).1 I).trans h
theorem DefAt.lt {D:Nat}(h:DefAt D w):D<w.heap.size:=(Array.getElem?_eq_some_iff.1 h).1
theorem x6h {D:Nat}(h:DefAt D w):∀I∈[D],w.heap[I]?=some (.deferred (some [])):=λI O=>by cases List.mem_singleton.1 O;exact h
theorem irbo {D:List Oper}{r:Nat}{L':List (Nat×Value)}(C:Prop)[Decidable C](Z:Sub L' L)(h1:WL P D.toArray (y1v ds n r C L' w) D n ds w L)(I:EW Q .normal n ds w ((r,.bool (decide C))::L'))(O:D.all Oper.noDefer=true:=by rfl):CWi ro N P Q (.region id D.toArray false) n ds w L:=
 λa h=>v6r C O h Z (h1 a h) I
def JAt {β:Type}(J:β->World->Prop)(B:Nat)(s:β)(w:World):Prop:=J s w/\AbidesFrom B J
theorem Blk.keep {g T:Nat}{cs:List Value}{B:List Nat}(h:Blk w g T cs)(I:Keep B w w')(D:g∈B):Blk w' g T cs:=(I g D).trans h
theorem Sl.keep {α:Type}{E:Enc α}{v:Value}{ys:List α}{B:List Nat}(h:Sl E w v ys)(hk:Keep B w w')(hB:ys≠[]->∀k∈z0u v,k∈B):Sl E w' v ys:=by
 obtain⟨A,c,rfl,I,O,Z⟩:=h;refine⟨A,c,rfl,I,O,λi y D=>?_⟩;obtain⟨ad,rfl,hc⟩:=Z i y D;refine⟨ad,rfl,λj u hu=>?_⟩;exact(World.cell?_of_block (w:=w) (hk _ (by rw[z6e,z6e];exact hB (by rintro rfl;simp at D) _ (by simp[z0u])))).trans (hc j u hu)
def slB (m:Nat)(v:Value):List Nat:=if m=0 then [] else z0u v
theorem u9e {α:Type}{E:Enc α}{v:Value}{ys:List α}(h:Sl E w v ys):∀b∈slB ys.length v,b<w.heap.size:=by
 intro b D;unfold slB at D;split at D;cases D;rename_i I;exact h.blk (λe=>I (by rw[e];rfl)) b D
theorem v5s {α:Type}{v:Value}{ys:List α}(D:ys≠[]):∀k∈z0u v,k∈slB ys.length v:=λk I=>by
 unfold slB;rw[if_neg (λe=>D (List.eq_nil_of_length_eq_zero e))];exact I
theorem Keep.ext {B:List Nat}(hf:Fr [] w w')(D:∀b∈B,b<w.heap.size):Keep B w w':=λb I=>hf.block b (D b I) sp0
theorem Keep.fr {B S:List Nat}(hf:Fr S w w')(I:∀b∈B,b<w.heap.size)(O:∀b∈B,b∉S):Keep B w w':=λb D=>hf.block b (I b D) (O b D)
def KeepT (Ts B:List Nat)(W W':World):Prop:=Keep B W W'/\∀(b:Nat) (cs:Array Value) (T:TypeId) (f:Nat×Nat),T∈Ts->W.heap[b]?=some (.cells cs T f)->W'.heap[b]?=some (.cells cs T f)
theorem Blk.keepT {g T:Nat}{cs:List Value}{D B:List Nat}(h:Blk w g T cs)(O:KeepT D B w w')(I:T∈D):Blk w' g T cs:=O.2 g _ T _ I h
theorem KeepT.trans {I B:List Nat}{D:World}(h:KeepT I B w w')(k:KeepT I B w' D):KeepT I B w D:=⟨λb Z=>(k.1 b Z).trans (h.1 b Z),λb cs T f O hc=>k.2 b cs T f O (h.2 b cs T f O hc)⟩
theorem KeepT.ext {I B:List Nat}(hf:Fr [] w w')(O:∀b∈B,b<w.heap.size):KeepT I B w w':=⟨Keep.ext hf O,λb cs T f _ D=>(hf.block b (Array.getElem?_eq_some_iff.1 D).1 sp0).trans D⟩
theorem KeepT.fr {I B S:List Nat}(hf:Fr S w w')(hB:∀b∈B,b<w.heap.size)(hd:∀b∈B,b∉S)(hS:∀k∈S,k<w.heap.size->∃cs T f,w.heap[k]?=some (.cells cs T f)/\T∉I):KeepT I B w w':=
 ⟨Keep.fr hf hB hd,λb cs T f hT D=>(hf.block b (Array.getElem?_eq_some_iff.1 D).1 (λe=>by
  obtain⟨Z,T',f',O,h2⟩:=hS b e (Array.getElem?_eq_some_iff.1 D).1
  rw[D]at O;cases O;exact h2 hT)).trans D⟩
theorem KeepT.put {I B:List Nat}{l:Nat}{o o':Obj}(hl:w.heap[l]?=some o)(ho:o.isCells=false)(O:∀b∈B,b≠l):KeepT I B w (w.putObj l o'):=
 ⟨λb Z=>World.putObj_heap_other (O b Z),λb cs T f _ D=>(World.putObj_heap_other (by rintro rfl;rw[hl]at D;cases D;cases ho)).trans D⟩
def YK (P:Program)(N n:Nat)(ds:List Nat)(ops:Array Oper)(rest:List Oper)(Q:Exit->Act->World->Prop)(d:Nat)(y:Operand)(xs:List Operand):Act->World->Prop:=λa w=>
  ∃(L:List (Nat×Value)) (vs:List Value) (y1:Nat) (Φ:Value->World->Prop),AgM ds a n L/\ev L y=some (.func (.yield y1) #[] #[])/\evs L xs vs/\YieldAt (Fo none) (N-1) P y1 vs.toArray w (λe w'=>∃v,e=.returned v/\Φ v w')/\Nat.blt d n=true/\
    ∀v w',Φ v w'->WL P ops (z0l (Q .normal)) rest n ds w' ((d,v)::L)
theorem iry {l:List Oper}(k:Nat){d:Nat}{y:Operand}{xs:List Operand}{ts:Array TypeId}{ty:TypeId}{pos:String}{after:Array Edge}
    (hl:l=l.take k++⟨some d,.call ⟨.value y,xs.toArray,ts⟩,ty,pos,after,none⟩::l.drop (k+1)) (hd1:(l.take k).all Oper.noDefer=true) (hd2:(l.drop (k+1)).all Oper.noDefer=true) (hnf:∀g,y≠.func g)
    (h1:WL P l.toArray (z0l (YK P N n ds l.toArray (l.drop (k+1)) Q d y xs)) (l.take k) n ds w L):CWi none N P Q (.region id l.toArray false) n ds w L:=by
  intro a ha
  refine wpIn_region_lit ?_
  have O:wpListIn (Fo none) N P l.toArray Q (l.take k++⟨some d,.call ⟨.value y,xs.toArray,ts⟩,ty,pos,after,none⟩::l.drop (k+1)) a w:=by
    refine y1u _ ?_ _ a w hd1 (h1 a ha)
    rintro a w ⟨L,vs,y1,Φ,h,hy,hx,⟨fn,tm,I,Z,D,hR⟩,hn,hk⟩
    unfold wpListIn
    rw[if_pos (by simp[Region.wanted])]
    refine⟨λ_ _=>trivial,?_⟩
    have e:(Oper.semAt (Fo none).round a.eval ⟨some d,.call ⟨.value y,xs.toArray,ts⟩,ty,pos,after,none⟩).run P w=.ok (.round y1 fn tm I Z) w:=by
      rw[u1n (by rfl)]
      simp only[execOp,resolve,h.eval hy,Deferred.ofValue,Sem.run_bind,Sem.run_pure,Result.andThen_ok,invoke,List.map_toArray,h.evals hx,List.append_toArray]
      simpa using D
    rw[e]
    refine⟨λe=>by simp[Fo,Fence.wide]at e,hR.mono ?_⟩
    rintro e w' ⟨v,rfl,hv⟩
    have:=y1u (r:=none) (N:=N) (Q:=Q) (ops:=l.toArray) [] (λa w h=>wpListIn_nil h) (l.drop (k+1)) (a.put (some d) v) w' hd2 (hk v w' hv _ (h.put hn v))
    rwa [List.append_nil]at this
  rwa [<-hl]at O
theorem yld {d:Nat}{y:Operand}{xs:List Operand}{vs:List Value}{D:Nat}{Φ:Value->World->Prop}(Z:ev L y=some (.func (.yield D) #[] #[]))(O:evs L xs vs)(I:YieldAt (Fo none) (N-1) P D vs.toArray w (λe w'=>∃v,e=.returned v/\Φ v w'))(hn:Nat.blt d n=true)
    (k:∀v w',Φ v w'->WL P ops (z0l (Q .normal)) rest n ds w' ((d,v)::L)) {ops':Array Oper}:WL P ops' (z0l (YK P N n ds ops rest Q d y xs)) [] n ds w L:=
  λ_ h=>v7y (Q:=λ_=>YK P N n ds ops rest Q d y xs) ⟨L,vs,D,Φ,h,Z,O,I,hn,k⟩
theorem yat {α:Type}{l:Nat}{J Jx:List α->World->Prop}{I:α->Array Value}{Ts B:List Nat}{M N:Nat}{B0:Nat}{D:List α}{x:α}{vs:List Value}(a0:∀D x O,J D O->D.length<M->YieldAt (Fo none) (N-1) P l (I x) O λe W'=>(e=.returned (.bool true)/\J (D++[x]) W'/\KeepT Ts B O W')\/(e=.returned (.bool false)/\Jx (D++[x]) W'))
    (hJ:JAt J B0 D w) (hM:D.length<M) (he:vs.toArray=I x):YieldAt (Fo none) (N-1) P l vs.toArray w (λe w'=>∃v,e=.returned v/\(v=.bool true/\J (D++[x]) w'/\KeepT Ts B w w'\/v=.bool false/\Jx (D++[x]) w')):=by
  rw[he]
  obtain⟨fn,tm,Z,bd,h1,h2⟩:=a0 D x w hJ.1 hM
  refine⟨fn,tm,Z,bd,h1,h2.mono ?_⟩
  rintro e W' (⟨rfl,h⟩|⟨rfl,h⟩)
  · exact⟨_,rfl,.inl ⟨rfl,h⟩⟩
  · exact⟨_,rfl,.inr ⟨rfl,h⟩⟩
theorem u6g {B:Nat}{S:List Nat}(hf:Fr S w w')(Z:∀k∈S,k<w.heap.size->∃o,w.heap[k]?=some o/\o.isCells=true):KeepsFrom B w w':=
 ⟨hf.size,λk o _ D ho=>(hf.block k (Array.getElem?_eq_some_iff.1 D).1 (λe=>by
  obtain⟨o',I,O⟩:=Z k e (Array.getElem?_eq_some_iff.1 D).1
  rw[D]at I;cases I;rw[ho]at O;cases O)).trans D⟩
theorem Blk.isC {g T:Nat}{cs:List Value}(h:Blk w g T cs):∃o,w.heap[g]?=some o/\o.isCells=true:=⟨_,h,rfl⟩
theorem Own.isC {α:Type}{E:Enc α}{T base:Nat}{v:Value}{ys:List α}(h:Own E T base w v ys):∀k∈z0u v,∃o,w.heap[k]?=some o/\o.isCells=true:=by
 rcases h with ⟨rfl,rfl⟩|⟨g,cap,cur,rfl,O,I,r⟩
 intro k D;simp[z0u]at D;intro k D;simp[z0u]at D;subst D;exact⟨_,I,rfl⟩
theorem Blk.tyC {g T:Nat}{cs:List Value}{D:List Nat}(h:Blk w g T cs)(I:T∉D):∃cs T f,w.heap[g]?=some (.cells cs T f)/\T∉D:=⟨_,_,_,h,I⟩
def AsK (n B0:Nat)(W:World)(T:TypeId)(cs:List Value)(Lx:Nat->List (Nat×Value)):Act->World->Prop:=λa' W'=>∃g,B0<=g/\AgM [] a' n (Lx g)/\Blk W' g T cs/\Fr [] W W'
theorem asE {D:Nat}{W:World}{T:TypeId}{cs:List Value}{I:Nat->List (Nat×Value)}(g:Nat)(Z:D<=g)(hs:Sub (I g) L)(hb:Blk w g T cs)(hf:Fr [] W w){O:Exit->Act->World->Prop}:EW (Exit.then (AsK n D W T cs I) O) .normal n [] w L:=λ_ h=>⟨g,Z,h.sub hs,hb,hf⟩
end
end Go.Lw
namespace Go.Lw
open Go.RowKit
section
variable {P:Program} {n N:Nat} {L:List (Nat×Value)} {ds:List Nat} {w w':World} {Q:Exit->Act->World->Prop}
def AsU (n:Nat)(W:World)(Lx:List (Nat×Value)):Act->World->Prop:=λa' W'=>AgM [] a' n Lx/\W'=W
theorem asU {D:List (Nat×Value)}(O:Sub D L){I:Exit->Act->World->Prop}:EW (Exit.then (AsU n w D) I) .normal n [] w L:=λ_ h=>⟨h.sub O,rfl⟩
theorem k4r {α:Type}{g:Operand}{ps:Array Tmp}{Z a0:Code}{gf:Nat}{lb:Array Value}(hg:ev L g=some (.func (.func gf) #[] lb))(eg:CallOf P gf)
    {encs:α->Array Value} {Ts B:List Nat} {S Sp:List α->Prop} {M:Nat} (hN:1<=N) (hseq:SeqStopsK (Fo none) (N-1) P gf lb encs (KeepT Ts B) S Sp M w) (hB:∀b∈B,b<w.heap.size)
    (hps:∀x,(encs x).size=ps.size) (Lq:α->List (Nat×Value)) (hLq:∀x,(ps.zip (encs x)).toList.reverse=Lq x) (hpn:∀x,(Lq x).all (λp=>Nat.blt p.1 n)=true)
    (I:List α->World->Prop) (hI:∀s W W',Turn w.heap.size W W'->I s W->I s W') (h0:I [] w)
    (Lx:α->List (Nat×Value)) (K:List (Nat×Value)) (_hK:Sub K L)
    (hassign:∀(l:Nat) (O:List α) (x:α) (W:World),I O W->CWi (some l) (N-1-1) P (Exit.then (AsU n W (Lx x++K)) (λ_ _ _=>False)) Z n [] W (Lq x++L))
    (hbody:∀(l:Nat) (O:List α) (x:α) (W:World),w.heap.size<=l->I O W->O.length<M->CWi (some l) (N-1-1) P (ownPostG w.heap.size (KeepT Ts B) I (λ_ _ _=>False) (O++[x]) W) a0 n [] W (Lx x++K))
    (hdone:∀(D:Nat) (xs:List α) (W:World),w.heap.size<=D->S xs->I xs W->DefAt D W->EW Q .normal n (D::ds) W L):CWi none N P Q (.rangeFunc g ps Z a0) n ds w L:=by
  intro a h
  have a2:∀D,AgM (D::ds) { a with defers:={ target:=.collected D,args:=#[] }::a.defers } n L:=λD=>⟨by simp[h.dfr,mark],h.size,h.at_⟩
  refine wpIn_rangeFunc_ownH U hN (h.eval hg) trivial eg hseq (λh k=>h.trans k) (λW l o o' hl ho hc _=>KeepT.put ho hc (λb hb=>by have:=hB b hb;omega)) (Below.refl _ _) hps
    I (λ_ _ _=>False) (λs W W' row hs hg hr=>hI s W W' ⟨row,hg,hr⟩ hs) (λc s W W' row hs hg hr=>hs.elim) h0
    (λx a' _=>AgM [] a' n (Lx x++K)) (λ_ _ _ _ _ _ hs _ _=>hs) ?_ (λl O x a' W hl hr hi hx a1=>hbody l O x W hl hi a1 a' hx)
    (λD xs W hD hS hi hk=>hdone D xs W hD hS hi hk _ (a2 D)) (λD c O W hD hS hi hk=>hi.elim)
  intro l O x W K' hi hK
  have hp:=x6d h (ps.zip (encs x)).toList (by have:=hpn x;rw[<-hLq,List.all_reverse]at this;exact this)
  rw[hLq]at hp
  have e:({ tmps:=(ps.zip (encs x)).foldl (λt (p:Nat×Value)=>t.setIfInBounds p.1 p.2) a.tmps,defers:=[] }:Act)={ tmps:=(ps.zip (encs x)).toList.foldl (λt p=>t.setIfInBounds p.1 p.2) a.tmps,defers:=[] }:=by
    rw[<-Array.foldl_toList]
  refine wpIn_mono (hassign l O x W hi _ (by rw[<-e]at hp;exact hp)) ?_
  rintro e a' W' he
  cases e with
  | normal=>
    obtain⟨h1,rfl⟩:=he
    exact hK a' W' ⟨Nat.le_refl _,λk o _ hk _=>hk⟩ ⟨λ_ _=>rfl,λ_ _ _ _ _ hc=>hc⟩ hi h1
  | _=>exact he.elim
theorem rndU {α:Type}{O:Nat}{B S:List Nat}{I:List α->World->Prop}{Ix:Code->List α->World->Prop}{xs:List α}{W:World}(hf:Fr S W w)(hS:∀k∈S,¬z9e W k)(Z:∀b∈B,b<W.heap.size)(hd:∀b∈B,b∉S)(hI:I xs w):EW (ownPostG O (KeepT [] B) I Ix xs W) .normal n ds w L:=
 λ_ _=>⟨u6g hf (λk hk D=>by
  have e:=Array.getElem?_eq_getElem D
  cases hc:(W.heap[k]).isCells with
  | true=>exact⟨_,e,hc⟩
  | false=>exact absurd ⟨_,e,hc⟩ (hS k hk)),⟨Keep.fr hf Z hd,λ_ _ _ _ hT=>by cases hT⟩,hI⟩
theorem Own.neB {α:Type}{E:Enc α}{T T' base g:Nat}{v:Value}{ys:List α}{cs:List Value}(h:Own E T base w v ys)(hb:Blk w g T' cs)(I:T≠T'):g∉z0u v:=by
 rcases h with ⟨rfl,rfl⟩|⟨O,cap,cur,rfl,_,D,_⟩
 intro e;cases e;intro e;simp[z0u]at e;subst e;rw[show w.heap[g]?=_ from hb]at D;cases D;exact I U
end
end Go.Lw
namespace Go.G21
open Go.Lw
section
variable {α:Type} {E:Enc α} {T T' base:Nat} {w w':World} {v:Value} {ys:List α} {S:List Nat}
def OffT (w:World)(T:Nat)(S:List Nat):Prop:=∀k∈S,∃(T':Nat) (cs:List Value),Blk w k T' cs/\T'≠T
theorem y1k (h:Lw.Own E T base w v ys):∀k∈z0u v,∃cs,Blk w k T cs:=by
 rcases h with ⟨rfl,rfl⟩|⟨g,cap,cur,rfl,_,I,_⟩
 intro k D;cases D;intro k D;simp[z0u]at D;subst D;exact⟨cur.toList,I⟩
theorem z7f (h:Lw.Own E T' base w v ys)(D:T'≠T):OffT w T (z0u v):=λk O=>by
 obtain⟨cs,I⟩:=y1k h k O
 exact⟨T',cs,I,D⟩
theorem OffT.nil:OffT w T []:=λk D=>by cases D
theorem OffT.one {g:Nat}{cs:List Value}(h:Blk w g T' cs)(I:T'≠T):OffT w T [g]:=λk D=>by rw[List.mem_singleton]at D;subst D;exact⟨T',cs,h,I⟩
theorem z2b (h:Lw.Own E T base w v ys)(hf:Fr S w w')(O:OffT w T S):Lw.Own E T base w' v ys:=h.fr hf λk hk Z=>by
 obtain⟨T',cs,D,I⟩:=O k hk
 exact h.neB D (Ne.symm I) Z
theorem x0m {g:Nat}{cs:List Value}(h:Blk w g T cs)(hf:Fr S w w')(Z:OffT w T S):Blk w' g T cs:=h.fr hf λhk=>by
 obtain⟨T',D,I,O⟩:=Z g hk
 have e:=(show w.heap[g]?=some (.cells cs.toArray T (0,0)) from h).symm.trans (show w.heap[g]?=some (.cells D.toArray T' (0,0)) from I)
 simp only[Option.some.injEq,Obj.cells.injEq]at e
 exact O e.2.1.symm
end
structure TyK where
  Y:Nat
  T:Nat
  L:Nat
  I:Nat
  P:Nat
  S:Nat
  K:Nat
structure TyK.Ok (τ:TyK):Prop where
  yt:τ.Y≠τ.T
  yl:τ.Y≠τ.L
  yi:τ.Y≠τ.I
  yp:τ.Y≠τ.P
  ys:τ.Y≠τ.S
  tl:τ.T≠τ.L
  ti:τ.T≠τ.I
  tp:τ.T≠τ.P
  ts:τ.T≠τ.S
  li:τ.L≠τ.I
  lp:τ.L≠τ.P
  ls:τ.L≠τ.S
  si:τ.S≠τ.I
  sp:τ.S≠τ.P
  ky:τ.K≠τ.Y
  kt:τ.K≠τ.T
  kl:τ.K≠τ.L
  ki:τ.K≠τ.I
  ks:τ.K≠τ.S
def LpO (τ:TyK)(base:Nat)(w:World)(q:LpQ):Prop:=Lw.Own z1j τ.I base w (slv q.th) q.ths/\Lw.Own z2f τ.P base w (slv q.pa) q.pas
structure TbO (τ:TyK) (base:Nat) (w:World) (v:Value) (ts:List TQ):Prop where
  out:Lw.Own z4z τ.T base w v ts
  ins:∀i,i<ts.length->Lw.Own z7k τ.L base w (slv (ts.getD i tq0).1) (ts.getD i tq0).2
  off:∀i j,i<ts.length->j<ts.length->i≠j->∀k∈z0u (slv (ts.getD i tq0).1),k∉z0u (slv (ts.getD j tq0).1)
  lps:∀i,i<ts.length->∀q∈(ts.getD i tq0).2,LpO τ base w q
structure YsO (τ:TyK) (base:Nat) (w:World) (v:Value) (ys:List YQ):Prop where
  out:Lw.Own z3l τ.Y base w v ys
  ins:∀i,i<ys.length->Lw.Own z2f τ.P base w (slv (ys.getD i yq0).pe) (ys.getD i yq0).pes
section
variable {τ:TyK} {base:Nat} {w w' w2:World} {v:Value} {ts:List TQ} {ys:List YQ} {fs:List IQ} {S:List Nat} {q:LpQ}
theorem LpO.tf (h:LpO τ base w q)(hf:Fr S w w')(D:OffT w τ.I S)(I:OffT w τ.P S):LpO τ base w' q:=⟨z2b h.1 hf D,z2b h.2 hf I⟩
theorem LpO.at (h:LpO τ base w q):LpAt w q:=⟨h.1.sl,h.2.sl⟩
theorem LpO.low {b:Nat}(h:LpO τ base w q)(hb:b<=base):LpO τ b w q:=⟨h.1.low hb,h.2.low hb⟩
theorem TbO.tf (h:TbO τ base w v ts)(hf:Fr S w w')(hT:OffT w τ.T S)(O:OffT w τ.L S)(I:OffT w τ.I S)(Z:OffT w τ.P S):TbO τ base w' v ts:=
 ⟨z2b h.out hf hT,λi D=>z2b (h.ins i D) hf O,h.off,λi D q hq=>(h.lps i D q hq).tf hf I Z⟩
theorem YsO.tf (h:YsO τ base w v ys)(hf:Fr S w w')(I:OffT w τ.Y S)(D:OffT w τ.P S):YsO τ base w' v ys:=
 ⟨z2b h.out hf I,λi O=>z2b (h.ins i O) hf D⟩
theorem TbO.ext (h:TbO τ base w v ts)(hf:Fr [] w w'):TbO τ base w' v ts:=h.tf hf OffT.nil OffT.nil OffT.nil OffT.nil
theorem YsO.ext (h:YsO τ base w v ys)(hf:Fr [] w w'):YsO τ base w' v ys:=h.tf hf OffT.nil OffT.nil
theorem z1i {α:Type}{l:List α}{i j:Nat}{x d:α}(D:i<l.length):(l.set i x).getD j d=if i=j then x else l.getD j d:=by
 rw[List.getD,List.getElem?_set,List.getD];split;first|rfl|(rw[if_pos D];rfl)
 rfl
theorem TbO.put (hτ:τ.Ok){i:Nat}{u:SV}(h:TbO τ base w v ts)(hi:i<ts.length)(hq:LpO τ base w q)
    (h1:Lw.Own z7k τ.L base w' (slv u) ((ts.getD i tq0).2++[q])) (f1:Fr (z0u (slv (ts.getD i tq0).1)) w w') (hx:slv u=slv (ts.getD i tq0).1\/z0u (slv u)=z0u (slv (ts.getD i tq0).1)\/z0u (slv u)=[w.heap.size])
    (h2:Lw.Own z4z τ.T base w2 v (ts.set i (u,(ts.getD i tq0).2++[q]))) (f2:Fr (z0u v) w' w2):TbO τ base w2 v (ts.set i (u,(ts.getD i tq0).2++[q])):=by
  have o1:∀T,T≠τ.L->OffT w T (z0u (slv (ts.getD i tq0).1)):=λT hT=>z7f (h.ins i hi) (Ne.symm hT)
  have a3:=z2b h.out f1 (o1 _ hτ.tl)
  have o2:∀T,T≠τ.T->OffT w' T (z0u v):=λT hT=>z7f a3 (Ne.symm hT)
  refine⟨h2,λj O=>?_,λj k O hk a1=>?_,λj O p Z=>?_⟩
  · rw[List.length_set]at O
    rw[z1i hi]
    split
    · exact z2b h1 f2 (o2 _ (Ne.symm hτ.tl))
    · rename_i a4
      exact z2b ((h.ins j O).fr f1 λb I D=>h.off i j hi O a4 b I D) f2 (o2 _ (Ne.symm hτ.tl))
  · rw[List.length_set]at O hk
    have a2:∀k,k<ts.length->i≠k->∀b∈z0u (slv u),b∉z0u (slv (ts.getD k tq0).1):=λk hk a0 b I D=>by
      rcases hx with e|e|e
      · rw[e]at I;exact h.off i k hi hk a0 b I D
      · rw[e]at I;exact h.off i k hi hk a0 b I D
      · rw[e,List.mem_singleton]at I;subst I
        have:=((h.ins k hk).blk _ D).2;omega
    rw[z1i hi,z1i hi]
    split<;>split
    · rename_i e1 e2;exact absurd (e1.symm.trans e2) a1
    · rename_i e1 e2;exact a2 k hk e2
    · rename_i e1 e2;exact λb I D=>a2 j O e1 b D I
    · exact h.off j k O hk a1
  · rw[List.length_set]at O
    rw[z1i hi]at Z
    have g:∀p,LpO τ base w p->LpO τ base w2 p:=λp Z=>(Z.tf f1 (o1 _ (Ne.symm hτ.li)) (o1 _ (Ne.symm hτ.lp))).tf f2 (o2 _ (Ne.symm hτ.ti)) (o2 _ (Ne.symm hτ.tp))
    split at Z
    · rcases List.mem_append.1 Z with Z|Z
      · exact g p (h.lps i hi p Z)
      · rw[List.mem_singleton.1 Z];exact g q hq
    · exact g p (h.lps j O p Z)
theorem TbO.at (h:TbO τ base w v ts):Sl z4z w v ts/\TabAt w ts:=by
 refine⟨h.out.sl,λp O=>?_⟩;obtain⟨i,I⟩:=List.getElem?_of_mem O;have hl:=(List.getElem?_eq_some_iff.1 I).1;have e:ts.getD i tq0=p:=by rw[List.getD,I];rfl
 have D:=h.ins i hl;rw[e]at D;refine⟨D.sl,λq Z=>(h.lps i hl q (by rw[e];exact Z)).at⟩
theorem YsO.put {i:Nat}{y:YQ}(h:YsO τ base w v ys)(O:i<ys.length)(Z:τ.Ok)(I:Lw.Own z3l τ.Y base w' v (ys.set i y))(hf:Fr (z0u v) w w')(hp:Lw.Own z2f τ.P base w (slv y.pe) y.pes):YsO τ base w' v (ys.set i y):=by
 have o:OffT w τ.P (z0u v):=z7f h.out Z.yp;refine⟨I,λj D=>?_⟩;rw[List.length_set]at D;rw[z1i O];split;exact z2b hp hf o;exact z2b (h.ins j D) hf o
end
end Go.G21
namespace Go.G21
open Go.Lw
structure KA where
  gk:Nat
  gy:Nat
  cy:Nat
  gt:Nat
  ct:Nat
  gf:Nat
  cf:Nat
  gb:Nat
  cb:Nat
  wd:Nat
  g5:Nat
  c5:List Value
  ids:List (Nat×List Value)
section
variable {τ:TyK} {Kt:Nat} {wS w w':World} {a:KA} {ys ys':List YQ} {ts ts':List TQ} {fs bs:List IQ} {j i:Nat} {q:IQ}
end
end Go.G21
namespace Go.G21
open Go.Lw
section
variable {wd:Nat} {ys:List YQ} {ts:List TQ} {fs bs:List IQ} {rows:List (List Lp)} {en:Nat->Bool} {F B F' B':Nat->List LId} {j i:Nat} {lq:LpQ} {L:Lp} {u u':SV} {l:List LId}
def frK (s:Lst)(y:Int)(f k i:Nat):List LId:=if i<k then [⟨y,((f+i:Nat):Int)⟩] else frS s i
end
end Go.G21
namespace Go.G21
open Go.Lw
end Go.G21
namespace Go.G21
open Go.Lw
section
variable {τ:TyK} {Kt:Nat} {wS w w':World} {a:KA} {ys:List YQ} {ts:List TQ} {fs bs:List IQ} {j wd:Nat} {y:YQ} {rows:List (List Lp)} {en en':Nat->Bool} {F B:Nat->List LId}
end
end Go.G21
namespace Go.G21
open Go.Lw
end Go.G21
namespace Go.G21
open Go.Lw
end Go.G21
namespace Go.G21
open Go.Lw
end Go.G21
namespace Go.G21
open Go.Lw
section
variable {τ:TyK} {base:Nat} {w w2:World} {v:Value} {ts:List TQ} {i:Nat} {u:SV}
end
end Go.G21
namespace Go.G21
open Go.Lw
abbrev Tb:=List (List Lp)
def z3w (T:Tb)(y:Nat):Nat:=(T.getD y []).length
def lpA (T:Tb)(y n:Nat):Lp:=(T.getD y []).getD n lq0.p
def z5h (T:Tb)(i:LId):Prop:=1<=i.y/\i.y<=T.length/\0<=i.n/\i.n<z3w T (i.y-1).toNat
instance (T:Tb) (i:LId):Decidable (z5h T i):=by unfold z5h;infer_instance
def z5o (l:Lp):List LId:=l.th++l.pa.map Pa.id
def y7q (T:Tb)(l:Lp):Prop:=(l.b=0\/l.b=1)/\(l.th.length<=4/\l.pa.length<=4096)/\(∀i∈z5o l,z5h T i)/\(∀p∈l.pa,z6v p.d)/\(z5g [] l.pa).length=l.pa.length
def v3p (r:List Lp):List LId:=r.flatMap Lp.th
def y1r (T:Tb):List LId:=T.flatMap v3p
def z4r (T:Tb):Nat:=(T.map List.length).sum
structure Ranked (T:Tb) (rk:LId->Nat):Prop where
  need:∀y,y<6->∀n,n<z3w T y->∀i∈z5o (lpA T y n),rk i<rk ⟨(y:Int)+1,n⟩
  mono:∀y,y<6->∀n m,n<m->m<z3w T y->rk ⟨(y:Int)+1,(n:Int)⟩<rk ⟨(y:Int)+1,(m:Int)⟩
structure TabOk (T:Tb):Prop where
  six:T.length=6
  cnt:z4r T<=2048
  rts:∀y,y<6->∀n,n<z3w T y->y7q T (lpA T y n)/\(n=0->(lpA T y n).nw=true)
  ord:∃rk,Ranked T rk
theorem y0q {T:Tb}{j:Nat}{r:List Lp}(D:j<T.length)(y:Nat):z3w (T.set j r) y=if j=y then r.length else z3w T y:=by
 unfold z3w;rw[z1i D];split<;>rfl
theorem z8u {α β:Type}[BEq β][LawfulBEq β](g:α->List β):∀(T:List α) (j:Nat) (d v:α) (x:β),j<T.length->((T.set j v).flatMap g).count x+(g (T.getD j d)).count x=(T.flatMap g).count x+(g v).count x
 | a::T,0,d,v,x,_=>by
  simp only[List.set_cons_zero,List.flatMap_cons,List.count_append,List.getD_cons_zero];omega
 | a::T,j+1,d,v,x,h=>by
  have:=z8u g T j d v x (by simpa using h)
  simp only[List.set_cons_succ,List.flatMap_cons,List.count_append,List.getD_cons_succ];omega
theorem y7n:∀(T:Tb) (j:Nat) (r:List Lp),j<T.length->z4r (T.set j r)+z3w T j=z4r T+r.length
 | a::T,0,r,_=>by simp[z4r,z3w];omega
 | a::T,j+1,r,h=>by
  have:=y7n T j r (by simpa using h)
  simp only[z4r,z3w,List.set_cons_succ,List.map_cons,List.sum_cons,List.getD_cons_succ]at this ⊢;omega
end Go.G21
namespace Go.G21
open Go.Lw
theorem y0u {T:Tb}{y n:Nat}(h1:y<T.length)(D:n<z3w T y):z5h T ⟨(y:Int)+1,(n:Int)⟩:=by
 refine⟨by show 1<=(y:Int)+1;omega,by show (y:Int)+1<=_;omega,by show (0:Int)<=n;omega,?_⟩;show (n:Int)<(z3w T ((y:Int)+1-1).toNat:Int);rw[show ((y:Int)+1-1).toNat=y by omega];omega
theorem x1i {T:Tb}{j:Nat}{X:List Lp}(hj:j<T.length){i:LId}(h:z5h T i):z5h (T.set j (T.getD j []++X)) i:=by
 obtain⟨D,I,O,Z⟩:=h;refine⟨D,by rw[List.length_set];exact I,O,?_⟩;rw[y0q hj];split;rename_i e;rw[List.length_append];have:z3w T (i.y-1).toNat=(T.getD j []).length:=by rw[<-e];rfl
 omega;exact Z
theorem j4x {T:Tb}{j:Nat}{X:List Lp}(D:j<T.length)(y n:Nat):lpA (T.set j (T.getD j []++X)) y n=if j=y then (if n<z3w T j then lpA T j n else X.getD (n-z3w T j) lq0.p) else lpA T y n:=by
 unfold lpA z3w;rw[z1i D];split;rename_i e;subst e;generalize T.getD j []=r;split;rename_i h;simp only[List.getD,List.getElem?_append_left h];rename_i h;simp only[List.getD,List.getElem?_append_right (Nat.not_lt.1 h)];rfl
def rkX (rk:LId->Nat)(j f N:Nat)(i:LId):Nat:=if i.y=(j:Int)+1/\(f:Int)<=i.n then N+(i.n-f).toNat else rk i
end Go.G21
