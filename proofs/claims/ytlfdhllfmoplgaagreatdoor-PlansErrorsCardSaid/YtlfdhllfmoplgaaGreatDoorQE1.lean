/- Texts of the proof, joined. -/
import Derived.WalkKit
import Derived.WalkSpells
import Derived.WalkLawsBesides
import Derived.OrdersHeld
import Derived.Deep.Quiet
import Derived.Laws.BytesString
import Derived.ProofKit
import Derived.OpenShut
import Derived.Carry
import Derived.ChangeOld
import Derived.Deep.DeepHandedRow
import Derived.Lib.LaidTab
import Derived.Scope
import Derived.WalkSmall
import Derived.RangeFuncNested
import Derived.RangeFuncBound
import Derived.RangeFuncCalls
import Derived.RangeFuncLeaves
import Derived.OrdersIn
import Derived.Lib.Builder
import Derived.Lib.AppendStr
import Derived.Laws.Pointers
import Derived.Laws.Externs
import Derived.Lib.ConvBytes
import Derived.Laws.AppendOwn
import Derived.Lib.ItoaNum
import Derived.Lib.Join
import Derived.Lib.AtoiAll
import Derived.Lib.Split
import Derived.Lib.TrimByte
import Derived.Lib.IndexMore
set_option linter.unusedVariables false
set_option linter.unusedSimpArgs false
set_option maxHeartbeats 4000000
theorem oo {p:Prop}(h:p:=by omega):p:=h
theorem kr {p:Prop}(h:p:=by kernel_rfl):p:=h
theorem dd {p:Prop}(h:p:=by decide):p:=h
theorem sp0 {p:Prop}(h:p:=by simp):p:=h
theorem so {p:Prop}(h:p:=by simp;omega):p:=h
theorem sm {p:Prop}(h:p:=by simp only;omega):p:=h
theorem se {p:Prop}(h:p:=by simp<;>omega):p:=h
theorem U {α:Sort _}{a:α}:a=a:=rfl
theorem qi2 {A0:Type _}{A1:Type _}{x0 y0:A0}{x1 y1:A1}(h:(x0,x1)=(y0,y1)):x0=y0/\x1=y1:=by simpa only[Prod.mk.injEq] using h
theorem pi2 {A0:Type _}{A1:Type _}{x0 y0:A0}{x1 y1:A1}(h0:x0=y0)(h1:x1=y1):(x0,x1)=(y0,y1):=by subst_vars;rfl
theorem qi3 {A0:Type _}{A1:Type _}{A2:Type _}{x0 y0:A0}{x1 y1:A1}{x2 y2:A2}(h:(x0,x1,x2)=(y0,y1,y2)):x0=y0/\x1=y1/\x2=y2:=by simpa only[Prod.mk.injEq] using h
theorem pi3 {A0:Type _}{A1:Type _}{A2:Type _}{x0 y0:A0}{x1 y1:A1}{x2 y2:A2}(h0:x0=y0)(h1:x1=y1)(h2:x2=y2):(x0,x1,x2)=(y0,y1,y2):=by subst_vars;rfl
theorem qi4 {A0:Type _}{A1:Type _}{A2:Type _}{A3:Type _}{x0 y0:A0}{x1 y1:A1}{x2 y2:A2}{x3 y3:A3}(h:(x0,x1,x2,x3)=(y0,y1,y2,y3)):x0=y0/\x1=y1/\x2=y2/\x3=y3:=by simpa only[Prod.mk.injEq] using h
theorem pi4 {A0:Type _}{A1:Type _}{A2:Type _}{A3:Type _}{x0 y0:A0}{x1 y1:A1}{x2 y2:A2}{x3 y3:A3}(h0:x0=y0)(h1:x1=y1)(h2:x2=y2)(h3:x3=y3):(x0,x1,x2,x3)=(y0,y1,y2,y3):=by subst_vars;rfl
namespace Go.Lw
theorem y7b {a b:Nat}(h:¬a=b):Nat.beq a b=false:=by
 rw[Bool.eq_false_iff];intro e;exact h (Nat.eq_of_beq_eq_true e)
def look:List (Nat×Value)->Nat->Option Value
  | [],_=>none
  | (s,v)::r,t=>bif Nat.beq s t then some v else look r t
def mark (D:Nat):Deferred:={ target:=.collected D,args:=#[] }
structure AgM (ds:List Nat) (a:Act) (n:Nat) (L:List (Nat×Value)):Prop where
  dfr:a.defers=ds.map mark
  size:a.tmps.size=n
  at_:∀t v,look L t=some v->a.tmps.getD t undef=v
abbrev Ag:=AgM []
def ev (L:List (Nat×Value)):Operand->Option Value
  | .tmp t=>look L t
  | .const v=>some v
  | .global g=>some (.pointer (some ⟨g,0,none⟩))
  | .func f=>some (.func (.func f) #[] #[])
def evs (L:List (Nat×Value)):List Operand->List Value->Prop
  | [],[]=>True
  | x::xs,v::vs=>ev L x=some v/\evs L xs vs
  | _,_=>False
def Sub:List (Nat×Value)->List (Nat×Value)->Prop
  | [],_=>True
  | p::r,L=>look L p.1=some p.2/\Sub r L
section
variable {P:Program} {a:Act} {n:Nat} {L:List (Nat×Value)} {ds:List Nat} {w w':World} {Q:Exit->Act->World->Prop} {ops:Array Oper} {rest:List Oper} {o:Oper}
theorem AgM.eval (h:AgM ds a n L){x:Operand}{v:Value}(D:ev L x=some v):a.eval x=v:=by
 cases x with
 | tmp t=>exact h.at_ t v D
 | const c=>exact Option.some.inj D
 | global g=>exact Option.some.inj D
 | func f=>exact Option.some.inj D
theorem AgM.evals (h:AgM ds a n L):∀ {xs:List Operand} {vs:List Value},evs L xs vs->xs.map a.eval=vs
 | [],[],_=>rfl
 | _::_,_::_,hx=>by rw[List.map_cons,h.eval hx.1,h.evals hx.2]
 | [],_::_,hx=>hx.elim
 | _::_,[],hx=>hx.elim
theorem AgM.put (h:AgM ds a n L){d:Nat}(O:Nat.blt d n=true)(v:Value):AgM ds (a.put (some d) v) n ((d,v)::L):=by
 have I:d<n:=by simpa[Nat.blt_eq] using O
 refine⟨h.dfr,by simp[Act.put,h.size],λt u D=>?_⟩;simp only[look]at D;by_cases e:d=t;subst e;simp only[Nat.beq_refl,cond_true,Option.some.injEq]at D;subst D;have:d<a.tmps.size:=by rw[h.size];exact I
 simp[Act.put,Array.getD,this];have:Nat.beq d t=false:=y7b e;rw[this]at D;have M:=h.at_ t u D;simp only[Act.put,Array.getD_eq_getD_getElem?,Array.getElem?_setIfInBounds]at M ⊢;rw[if_neg e];exact M
theorem Sub.look {L L':List (Nat×Value)}:∀ {t v},Sub L' L->look L' t=some v->look L t=some v:=by
 induction L' with
 | nil=>intro t v _ h;cases h
 | cons p r ih=>
  intro t v D h;simp only[Lw.look]at h;by_cases e:p.1=t;subst e;simp only[Nat.beq_refl,cond_true,Option.some.injEq]at h;rw[<-h];exact D.1;have:Nat.beq p.1 t=false:=y7b e;rw[this]at h;exact ih D.2 h
theorem AgM.sub (h:AgM ds a n L){L':List (Nat×Value)}(D:Sub L' L):AgM ds a n L':=
 ⟨h.dfr,h.size,λt v I=>h.at_ t v (D.look I)⟩
def argsOk (args:Array Value):List (Nat×Value)->Prop
  | []=>True
  | p::r=>args[p.1]?=some p.2/\argsOk args r
theorem argsOk.look {args:Array Value}:∀ {L:List (Nat×Value)},argsOk args L->∀ {t v},look L t=some v->args[t]?=some v
 | [],_,_,_,h=>by cases h
 | p::r,hs,t,v,h=>by
  simp only[Lw.look]at h
  by_cases e:p.1=t
  ·subst e
   simp only[Nat.beq_refl,cond_true,Option.some.injEq]at h
   rw[<-h];exact hs.1
  have:Nat.beq p.1 t=false:=y7b e
  rw[this]at h
  exact argsOk.look hs.2 h
theorem enter {f:FuncId}{fn:Func}{c:Code}{args:Array Value}{R:Ending->World->Prop}(L:List (Nat×Value))
    (hf:P.funcs[f]?=some fn) (hb:fn.body=some c) (hn:fn.ntmps=n) (hk:Nat.ble args.size n=true) (hL:argsOk args L)
    (h:∀a,Ag a n L->c.wp P (bodyPost P fn R) a w):Calls P f args w R:=by
  have D:args.size<=n:=by simpa[Nat.ble_eq] using hk
  refine calls_of_wp hf hb (h _ ⟨rfl,by simp[hn];omega,λt v M=>?_⟩)
  have:=argsOk.look hL M
  simp only[Array.getD_eq_getD_getElem?,Array.getElem?_append]
  have I:t<args.size:=by
    rcases Nat.lt_or_ge t args.size with h|h
    · exact h
    · rw[Array.getElem?_eq_none h]at this;cases this
  rw[if_pos I,this];rfl
def Rets (P:Program)(f:FuncId)(args:Array Value)(w:World)(Φ:Value->World->Prop):Prop:=
  Calls P f args w λe w'=>∃v,e=.returned v/\Φ v w'
theorem Rets.mono {f:FuncId}{args:Array Value}{Φ Ψ:Value->World->Prop}(h:Rets P f args w Φ)(D:∀v w',Φ v w'->Ψ v w'):Rets P f args w Ψ:=
 Calls.mono h λ_ _ ⟨v,he,hv⟩=>⟨v,he,D v _ hv⟩
theorem u5n {x y:Code}(K:Act->World->Prop)(h1:x.wp P (Exit.then K Q) a w)(D:∀a w,K a w->y.wp P Q a w):(Code.seq x y).wp P Q a w:=
 wp_seq (wp_mono h1 λe a w h=>by cases e<;>first|exact D _ _ h|exact h)
theorem cond_true {c:Operand}{x y:Code}(h:AgM ds a n L)(D:ev L c=some (.bool true))(k:x.wp P Q a w):(Code.cond c x y).wp P Q a w:=wp_cond (h.eval D) k
theorem x7o {c:Operand}{x y:Code}(h:AgM ds a n L)(D:ev L c=some (.bool false))(k:y.wp P Q a w):(Code.cond c x y).wp P Q a w:=wp_cond (h.eval D) k
theorem y6t {c:Operand}{x y:Code}{b:Bool}(h:AgM ds a n L)(D:ev L c=some (.bool b))(I:b=true->x.wp P Q a w)(hf:b=false->y.wp P Q a w):(Code.cond c x y).wp P Q a w:=
 wp_cond_split (h.eval D) I hf
theorem loop {c:Code}{ι:Type}(L:ι->List (Nat×Value))(I:ι->World->Prop)(μ:ι->Nat)(i:ι)(h:AgM ds a n (L i))(hI:I i w)
    (round:∀i w a,AgM ds a n (L i)->I i w->c.wp P (Exit.then (λZ w'=>∃j,AgM ds Z n (L j)/\I j w'/\μ j<μ i) Q) a w):(Code.loop c).wp P Q a w:=by
  have a4:∀m i w a,μ i=m->AgM ds a n (L i)->I i w->∀(b:Frame) (k:List Item) (cs:List Frame),
      ∃e Z w',Q e Z w'/\Arrives P (lone (b.at a (.code c::.inLoop c::k)) cs w) b k cs e Z w':=by
    intro m
    induction m using Nat.strongRecOn with
    | _ m ih=>
      intro i w a hm hA hI b k cs
      obtain⟨e,a₁,w₁,M,D⟩:=round i w a hA hI b (.inLoop c::k) cs
      cases e with
      | normal=>
        obtain⟨j,a0,a1,a2⟩:=M
        obtain⟨e₂,a₂,w₂,a3,O⟩:=ih (μ j) (hm▸a2) j w₁ a₁ U a0 a1 b k cs
        exact⟨e₂,a₂,w₂,a3,.of_steps (Steps.trans D (.one step_inLoop)) O⟩
      | exit id=>exact⟨_,a₁,w₁,M,.pass (x:=.inLoop c) U (λ_ _=>.inl sp0) D⟩
      | goto l=>exact⟨_,a₁,w₁,M,.pass (x:=.inLoop c) U (λ_ _=>.inl sp0) D⟩
      | ret=>exact⟨_,a₁,w₁,M,.pass (x:=.inLoop c) U (λ_ _=>.inl sp0) D⟩
      | panic ch=>exact⟨_,a₁,w₁,M,.pass (x:=.inLoop c) U (λ_ _=>.inl sp0) D⟩
      | outgrown=>exact⟨_,a₁,w₁,M,.pass (x:=.inLoop c) U (λ_ _=>.inl sp0) D⟩
  intro b k cs
  obtain⟨e,Z,w',M,D⟩:=a4 _ i w a U h hI b k cs
  exact⟨e,Z,w',M,.of_steps (.one step_loop) D⟩
theorem v1m {id:Nat}(h:Q .normal a w):Exit.inBlock id Q (.exit id) a w:=by simp only[Exit.inBlock,if_true];exact h
theorem v9l {id D:Nat}(I:Nat.beq D id=false)(h:Q (.exit D) a w):Exit.inBlock id Q (.exit D) a w:=by
 simp only[Exit.inBlock];rw[if_neg (by rintro rfl;simp at I)];exact h
theorem ret0 {fn:Func}{R:Ending->World->Prop}(h:Ag a n L)(D:fn.results=#[])(k:R (.returned (.tuple #[])) w):bodyPost P fn R .ret a w:=
 bodyPost_ret (results_none D _ _ _) h.dfr k
theorem j3r {fn:Func}{R:Ending->World->Prop}(h:Ag a n L)(D:fn.results=#[])(k:R (.returned (.tuple #[])) w):bodyPost P fn R .normal a w:=
 bodyPost_end (results_none D _ _ _) h.dfr k
theorem ret1 {fn:Func}{R:Ending->World->Prop}{t:Nat}{v:Value}(h:Ag a n L)(D:fn.results=#[.tmp t])(I:look L t=some v)(k:R (.returned v) w):bodyPost P fn R .ret a w:=
 bodyPost_ret (results_tmp D _ _ _) h.dfr (by rw[h.at_ t v I];exact k)
theorem ret2 {fn:Func}{R:Ending->World->Prop}{t u:Nat}{v x:Value}(h:Ag a n L)(D:fn.results=#[.tmp t,.tmp u])(I:look L t=some v)(M:look L u=some x)
    (k:R (.returned (.tuple #[v,x])) w):bodyPost P fn R .ret a w:=
  bodyPost_ret (results_tmp2 D _ _ _) h.dfr (by rw[h.at_ t v I,h.at_ u x M];exact k)
theorem ret3 {fn:Func}{R:Ending->World->Prop}{t u s:Nat}{v x y:Value}(h:Ag a n L)(O:fn.results=#[.tmp t,.tmp u,.tmp s])(Z:look L t=some v)(hx:look L u=some x)
    (hy:look L s=some y) (k:R (.returned (.tuple #[v,x,y])) w):bodyPost P fn R .ret a w:=
  bodyPost_ret (v:=.tuple #[v,x,y]) (by
    have D:=h.at_ t v Z;have I:=h.at_ u x hx;have M:=h.at_ s y hy
    simp only[Array.getD_eq_getD_getElem?]at D I M
    simp[results,O,D,I,M]) h.dfr k
def WL (P:Program)(ops:Array Oper)(Q:Exit->Act->World->Prop)(l:List Oper)(n:Nat)(ds:List Nat)(w:World)(L:List (Nat×Value)):Prop:=∀a,AgM ds a n L->wpList P ops Q l a w
def CW (P:Program)(Q:Exit->Act->World->Prop)(c:Code)(n:Nat)(ds:List Nat)(w:World)(L:List (Nat×Value)):Prop:=∀a,AgM ds a n L->c.wp P Q a w
def EW (Q:Exit->Act->World->Prop)(e:Exit)(n:Nat)(ds:List Nat)(w:World)(L:List (Nat×Value)):Prop:=∀a,AgM ds a n L->Q e a w
theorem z2c {d:Nat}{v:Value}(h:AgM ds a n L)(H1:(o.guard,o.dst)=(none,some d))(hn:Nat.blt d n=true)(O:(execOp a.eval o).run P w=.ok (.value v) w')
    (k:∀a,AgM ds a n ((d,v)::L)->wpList P ops Q rest a w'):wpList P ops Q (o::rest) a w:=let⟨M,I⟩:=qi2 H1;
  wpList_plain M λK D=>by
    unfold Oper.wp
    rw[O]
    show K (a.put o.dst v) w'
    rw[I]
    exact D _ _ (k _ (h.put hn v))
theorem z8o (h:AgM ds a n L)(M:o.guard=none)(I:o.dst=none)(O:(execOp a.eval o).run P w=.ok .skip w')
    (k:∀a,AgM ds a n L->wpList P ops Q rest a w'):wpList P ops Q (o::rest) a w:=
  wpList_plain M λK D=>by
    unfold Oper.wp
    rw[O]
    show K (a.put o.dst undef) w'
    rw[I]
    exact D _ _ (k _ h)
theorem x5m {d:Nat}{f:FuncId}{args:Array Value}{Φ:Value->World->Prop}(h:AgM ds a n L)(O:o.guard=none)(M:o.dst=some d)(hn:Nat.blt d n=true)
    (hr:(execOp a.eval o).run P w=.ok (.enter f args) w') (hc:Rets P f args w' Φ)
    (k:∀v w',Φ v w'->∀a,AgM ds a n ((d,v)::L)->wpList P ops Q rest a w'):wpList P ops Q (o::rest) a w:=
  wpList_plain O λK I=>by
    unfold Oper.wp
    rw[hr]
    refine Calls.mono hc ?_
    rintro e D ⟨v,rfl,Z⟩
    show K (a.put o.dst v) D
    rw[M]
    exact I _ _ (k v D Z _ (h.put hn v))
theorem z6c (h:AgM ds a n L){j d:Nat}{I:Oper}{b:Bool}(hj:ops[j]?=some I)(Z:I.dst=some d)(hn:Nat.blt d n=true)(hb:look L d=some (.bool b)):yielded ops a.tmps j=some b:=by
 have M:=h.at_ d _ hb;have D:d<a.tmps.size:=by rw[h.size];simpa[Nat.blt_eq] using hn
 have O:a.tmps[d]?=some (.bool b):=by
  rw[Array.getElem?_eq_getElem D];simpa[Array.getD,D] using M
 simp[yielded,hj,Z,O]
theorem j2p {d j I:Nat}{Z:Oper}{D b:Bool}(h:AgM ds a n L)(hg:o.guard=some (j,D))(hj:ops[j]?=some Z)(M:Z.dst=some I)(O:Nat.blt I n=true)
    (hb:look L I=some (.bool b)) (hne:(b == D)=false) (hd:o.dst=some d) (hn:Nat.blt d n=true)
    (k:∀a,AgM ds a n ((d,undef)::L)->wpList P ops Q rest a w):wpList P ops Q (o::rest) a w:=by
  have hy:=z6c (ops:=ops) h hj M O hb
  unfold wpList
  rw[if_neg (by simp only[Region.wanted,hg,hy];simpa using hne),hd]
  exact k _ (h.put hn undef)
theorem u5v {d j D:Nat}{oj:Oper}{M:Bool}(h:AgM ds a n L)(hg:o.guard=some (j,M))(hj:ops[j]?=some oj)(O:oj.dst=some D)(Z:Nat.blt D n=true)
    (hb:look L D=some undef) (hd:o.dst=some d) (hn:Nat.blt d n=true)
    (k:∀a,AgM ds a n ((d,undef)::L)->wpList P ops Q rest a w):wpList P ops Q (o::rest) a w:=by
  have h1:=h.at_ D _ hb
  have I:D<a.tmps.size:=by rw[h.size];simpa[Nat.blt_eq] using Z
  have h2:a.tmps[D]?=some undef:=by
    rw[Array.getElem?_eq_getElem I]
    simpa[Array.getD,I] using h1
  have hy:yielded ops a.tmps j=none:=by simp[yielded,hj,O,h2,undef]
  unfold wpList
  rw[if_neg (by simp[Region.wanted,hg,hy]),hd]
  exact k _ (h.put hn undef)
theorem z4d {j I:Nat}{Z:Oper}{D b:Bool}(h:AgM ds a n L)(hg:o.guard=some (j,D))(hj:ops[j]?=some Z)(H3:(Z.dst,Nat.blt I n)=(some I,true))
    (H5:(look L I,(b == D))=(some (.bool b),true))
    (k:wpList P ops Q ({ o with guard:=none }::rest) a w):wpList P ops Q (o::rest) a w:=by
  obtain⟨M,O⟩:=qi2 H3;obtain⟨hb,he⟩:=qi2 H5
  have hy:=z6c (ops:=ops) h hj M O hb
  unfold wpList at k ⊢
  rw[if_pos (by simp[Region.wanted])]at k
  rw[if_pos (by simp only[Region.wanted,hg,hy];simpa using he)]
  exact k
variable {d:Nat} {ty:TypeId} {pos:String} {after:Array Edge} {v:Value} {x y:Operand} {t t':TypeId} {k k':IntKind} {i j:Int} {b c:Bool} {s s':ByteArray}
theorem u6m (h:AgM ds a n L)(D:ev L x=some v)(hn:Nat.blt d n=true)(q:∀a,AgM ds a n ((d,v)::L)->wpList P ops Q rest a w) :
    wpList P ops Q (⟨some d,.move x,ty,pos,after,none⟩::rest) a w:=
  z2c h U hn (by simp[execOp,h.eval D]) q
theorem mv (D:ev L x=some v)(q:WL P ops Q rest n ds w ((d,v)::L))(hn:Nat.blt d n=true:=by exact U):WL P ops Q (⟨some d,.move x,ty,pos,after,none⟩::rest) n ds w L:=λa h=>u6m h D hn q
theorem z0t (h:AgM ds a n L)(D:ev L x=some v)(q:∀a,AgM ds a n ((d,v)::L)->wpList P ops Q rest a w)(hn:Nat.blt d n=true:=by exact U) :
    wpList P ops Q (⟨some d,.assign x,ty,pos,after,none⟩::rest) a w:=
  z2c h U hn (by simp[execOp,h.eval D]) q
theorem asg (D:ev L x=some v)(q:WL P ops Q rest n ds w ((d,v)::L))(hn:Nat.blt d n=true:=by exact U):WL P ops Q (⟨some d,.assign x,ty,pos,after,none⟩::rest) n ds w L:=λa h=>z0t h D q (hn:=hn)
theorem z4a {z:Value}{D O:Operand}(h:AgM ds a n L)(H1:(ev L x,b,ev L D,Nat.blt d n)=(some (.bool b),true,some z,true))(q:∀a,AgM ds a n ((d,z)::L)->wpList P ops Q rest a w) :
    wpList P ops Q (⟨some d,.pick x D O,ty,pos,after,none⟩::rest) a w:=let⟨M,hb,I,hn⟩:=qi4 H1;
  z2c h U hn (by subst hb;simp[execOp,h.eval M,asBool,h.eval I]) q
theorem pkt {z:Value}{D O:Operand}(H0:(ev L x,ev L D)=(some (.bool b),some z))(q:WL P ops Q rest n ds w ((d,z)::L))(hb:b=true:=by exact U)(hn:Nat.blt d n=true:=by exact U):WL P ops Q (⟨some d,.pick x D O,ty,pos,after,none⟩::rest) n ds w L:=let⟨M,I⟩:=qi2 H0;λa h=>z4a h (pi4 M hb I hn) q
theorem z2l {z:Value}{O D:Operand}(h:AgM ds a n L)(H1:(ev L x,ev L D)=(some (.bool b),some z))(q:∀a,AgM ds a n ((d,z)::L)->wpList P ops Q rest a w)(hb:b=false:=by exact U)(hn:Nat.blt d n=true:=by exact U) :
    wpList P ops Q (⟨some d,.pick x O D,ty,pos,after,none⟩::rest) a w:=let⟨M,I⟩:=qi2 H1;
  z2c h U hn (by subst hb;simp[execOp,h.eval M,asBool,h.eval I]) q
theorem pkf {z:Value}{O D:Operand}(H0:(ev L x,ev L D)=(some (.bool b),some z))(q:WL P ops Q rest n ds w ((d,z)::L))(hb:b=false:=by exact U)(hn:Nat.blt d n=true:=by exact U):WL P ops Q (⟨some d,.pick x O D,ty,pos,after,none⟩::rest) n ds w L:=let⟨M,I⟩:=qi2 H0;λa h=>z2l h (pi2 M I) q (hb:=hb) (hn:=hn)
theorem y4p (i j:Int):(i == j)=decide (i=j):=rfl
theorem z2h (ρ:Operand->Value)(dst:Option Tmp)(b:Builtin)(xs:Array Operand)(ats:Array TypeId)(ty:TypeId)(pos:String)(after:Array Edge)(guard:Option (Nat×Bool)) :
 execOp ρ { dst,op:=.call { callee:=.builtin b,args:=xs,argTypes:=ats },type:=ty,pos,after,guard }=builtin b ats ty (xs.map fun|.const _=>true|_=>false) (xs.map ρ):=rfl
theorem j0f {z:Int}(h:AgM ds a n L)(D:ev L x=some (.int k i))(I:ev L y=some (.int k j))(M:k.wrap (i+j)=z)(hn:Nat.blt d n=true)(q:∀a,AgM ds a n ((d,.int k z)::L)->wpList P ops Q rest a w) :
    wpList P ops Q (⟨some d,.binOp .add t x y t',ty,pos,after,none⟩::rest) a w:=
  z2c h U hn (by subst M;simp[execOp,h.eval D,h.eval I,eqGuard_add,binOp_add,Op.intArith]) q
theorem z0x {z:Int}(H0:(ev L x,ev L y)=(some (.int k i),some (.int k j)))(M:k.wrap (i+j)=z)(q:WL P ops Q rest n ds w ((d,.int k z)::L))(hn:Nat.blt d n=true:=by exact U):WL P ops Q (⟨some d,.binOp .add t x y t',ty,pos,after,none⟩::rest) n ds w L:=let⟨D,I⟩:=qi2 H0;λa h=>j0f h D I M hn q
theorem u9g {z:Int}(h:AgM ds a n L)(D:ev L x=some (.int k i))(I:ev L y=some (.int k j))(M:k.wrap (i-j)=z)(hn:Nat.blt d n=true)(q:∀a,AgM ds a n ((d,.int k z)::L)->wpList P ops Q rest a w) :
    wpList P ops Q (⟨some d,.binOp .sub t x y t',ty,pos,after,none⟩::rest) a w:=
  z2c h U hn (by subst M;simp[execOp,h.eval D,h.eval I,eqGuard_sub,binOp_sub,Op.intArith]) q
theorem z2w {z:Int}(H0:(ev L x,ev L y)=(some (.int k i),some (.int k j)))(M:k.wrap (i-j)=z)(q:WL P ops Q rest n ds w ((d,.int k z)::L))(hn:Nat.blt d n=true:=by exact U):WL P ops Q (⟨some d,.binOp .sub t x y t',ty,pos,after,none⟩::rest) n ds w L:=let⟨D,I⟩:=qi2 H0;λa h=>u9g h D I M hn q
theorem j0v {z:Int}(h:AgM ds a n L)(D:ev L x=some (.int k i))(I:ev L y=some (.int k j))(M:k.wrap (i*j)=z)(hn:Nat.blt d n=true)(q:∀a,AgM ds a n ((d,.int k z)::L)->wpList P ops Q rest a w) :
    wpList P ops Q (⟨some d,.binOp .mul t x y t',ty,pos,after,none⟩::rest) a w:=
  z2c h U hn (by subst M;simp[execOp,h.eval D,h.eval I,eqGuard_mul,binOp_mul,Op.intArith]) q
theorem y4k {z:Int}(D:ev L x=some (.int k i))(I:ev L y=some (.int k j))(M:k.wrap (i*j)=z)(q:WL P ops Q rest n ds w ((d,.int k z)::L))(hn:Nat.blt d n=true:=by exact U):WL P ops Q (⟨some d,.binOp .mul t x y t',ty,pos,after,none⟩::rest) n ds w L:=λa h=>j0v h D I M hn q
theorem j0p {z:Int}(h:AgM ds a n L)(I:ev L x=some (.int k i))(M:ev L y=some (.int k j))(D:j≠0)(O:k.wrap (i.tdiv j)=z)(hn:Nat.blt d n=true)(q:∀a,AgM ds a n ((d,.int k z)::L)->wpList P ops Q rest a w) :
    wpList P ops Q (⟨some d,.binOp .quo t x y t',ty,pos,after,none⟩::rest) a w:=
  z2c h U hn (by subst O;simp[execOp,h.eval I,h.eval M,eqGuard_quo,binOp_quo,Op.intDiv,D]) q
theorem v6m {z:Int}(I:ev L x=some (.int k i))(M:ev L y=some (.int k j))(O:k.wrap (i.tdiv j)=z)(hn:Nat.blt d n=true)(q:WL P ops Q rest n ds w ((d,.int k z)::L))(D:j≠0:=by omega):WL P ops Q (⟨some d,.binOp .quo t x y t',ty,pos,after,none⟩::rest) n ds w L:=λa h=>j0p h I M D O hn q
theorem j1e {z:Int}(h:AgM ds a n L)(I:ev L x=some (.int k i))(M:ev L y=some (.int k j))(D:j≠0)(O:i.tmod j=z)(hn:Nat.blt d n=true)(q:∀a,AgM ds a n ((d,.int k z)::L)->wpList P ops Q rest a w) :
    wpList P ops Q (⟨some d,.binOp .rem t x y t',ty,pos,after,none⟩::rest) a w:=
  z2c h U hn (by subst O;simp[execOp,h.eval I,h.eval M,eqGuard_rem,binOp_rem,Op.intDiv,D]) q
theorem y3c {z:Int}(H0:(ev L x,ev L y)=(some (.int k i),some (.int k j)))(O:i.tmod j=z)(q:WL P ops Q rest n ds w ((d,.int k z)::L))(D:j≠0:=by omega)(hn:Nat.blt d n=true:=by exact U):WL P ops Q (⟨some d,.binOp .rem t x y t',ty,pos,after,none⟩::rest) n ds w L:=let⟨I,M⟩:=qi2 H0;λa h=>j1e h I M D O hn q
theorem j2g (h:AgM ds a n L)(D:ev L x=some (.int k i))(I:ev L y=some (.int k j))(hn:Nat.blt d n=true)(q:∀a,AgM ds a n ((d,.bool (decide (i=j)))::L)->wpList P ops Q rest a w) :
    wpList P ops Q (⟨some d,.binOp .eql t x y t',ty,pos,after,none⟩::rest) a w:=
  z2c h U hn (by simp[execOp,h.eval D,h.eval I,eqGuard_at_int,binOp_eql,y4p]) q
theorem eq' (H0:(ev L x,ev L y)=(some (.int k i),some (.int k j)))(q:WL P ops Q rest n ds w ((d,.bool (decide (i=j)))::L))(hn:Nat.blt d n=true:=by exact U):WL P ops Q (⟨some d,.binOp .eql t x y t',ty,pos,after,none⟩::rest) n ds w L:=let⟨D,I⟩:=qi2 H0;λa h=>j2g h D I hn q
theorem j4f (h:AgM ds a n L)(D:ev L x=some (.int k i))(I:ev L y=some (.int k j))(hn:Nat.blt d n=true)(q:∀a,AgM ds a n ((d,.bool (decide (i≠j)))::L)->wpList P ops Q rest a w) :
    wpList P ops Q (⟨some d,.binOp .neq t x y t',ty,pos,after,none⟩::rest) a w:=
  z2c h U hn (by simp[execOp,h.eval D,h.eval I,eqGuard_at_int,binOp_neq,bne,y4p]) q
theorem ne' (H0:(ev L x,ev L y)=(some (.int k i),some (.int k j)))(q:WL P ops Q rest n ds w ((d,.bool (decide (i≠j)))::L))(hn:Nat.blt d n=true:=by exact U):WL P ops Q (⟨some d,.binOp .neq t x y t',ty,pos,after,none⟩::rest) n ds w L:=let⟨D,I⟩:=qi2 H0;λa h=>j4f h D I hn q
theorem j2z (h:AgM ds a n L)(D:ev L x=some (.int k i))(I:ev L y=some (.int k j))(hn:Nat.blt d n=true)(q:∀a,AgM ds a n ((d,.bool (decide (i<j)))::L)->wpList P ops Q rest a w) :
    wpList P ops Q (⟨some d,.binOp .lss t x y t',ty,pos,after,none⟩::rest) a w:=
  z2c h U hn (by simp[execOp,h.eval D,h.eval I,eqGuard_lss,binOp_lss]) q
theorem lt' (H0:(ev L x,ev L y)=(some (.int k i),some (.int k j)))(q:WL P ops Q rest n ds w ((d,.bool (decide (i<j)))::L))(hn:Nat.blt d n=true:=by exact U):WL P ops Q (⟨some d,.binOp .lss t x y t',ty,pos,after,none⟩::rest) n ds w L:=let⟨D,I⟩:=qi2 H0;λa h=>j2z h D I hn q
theorem j3c (h:AgM ds a n L)(D:ev L x=some (.int k i))(I:ev L y=some (.int k j))(hn:Nat.blt d n=true)(q:∀a,AgM ds a n ((d,.bool (decide (i<=j)))::L)->wpList P ops Q rest a w) :
    wpList P ops Q (⟨some d,.binOp .leq t x y t',ty,pos,after,none⟩::rest) a w:=
  z2c h U hn (by simp[execOp,h.eval D,h.eval I,eqGuard_leq,binOp_leq]) q
theorem le' (H0:(ev L x,ev L y,Nat.blt d n)=(some (.int k i),some (.int k j),true))(q:WL P ops Q rest n ds w ((d,.bool (decide (i<=j)))::L)):WL P ops Q (⟨some d,.binOp .leq t x y t',ty,pos,after,none⟩::rest) n ds w L:=let⟨D,I,hn⟩:=qi3 H0;λa h=>j3c h D I hn q
theorem j2q (h:AgM ds a n L)(D:ev L x=some (.int k i))(I:ev L y=some (.int k j))(hn:Nat.blt d n=true)(q:∀a,AgM ds a n ((d,.bool (decide (j<i)))::L)->wpList P ops Q rest a w) :
    wpList P ops Q (⟨some d,.binOp .gtr t x y t',ty,pos,after,none⟩::rest) a w:=
  z2c h U hn (by simp[execOp,h.eval D,h.eval I,eqGuard_gtr,binOp_gtr]) q
theorem gt' (H0:(ev L x,ev L y)=(some (.int k i),some (.int k j)))(q:WL P ops Q rest n ds w ((d,.bool (decide (j<i)))::L))(hn:Nat.blt d n=true:=by exact U):WL P ops Q (⟨some d,.binOp .gtr t x y t',ty,pos,after,none⟩::rest) n ds w L:=let⟨D,I⟩:=qi2 H0;λa h=>j2q h D I hn q
theorem j2d (h:AgM ds a n L)(D:ev L x=some (.int k i))(I:ev L y=some (.int k j))(hn:Nat.blt d n=true)(q:∀a,AgM ds a n ((d,.bool (decide (j<=i)))::L)->wpList P ops Q rest a w) :
    wpList P ops Q (⟨some d,.binOp .geq t x y t',ty,pos,after,none⟩::rest) a w:=
  z2c h U hn (by simp[execOp,h.eval D,h.eval I,eqGuard_geq,binOp_geq]) q
theorem ge' (D:ev L x=some (.int k i))(I:ev L y=some (.int k j))(q:WL P ops Q rest n ds w ((d,.bool (decide (j<=i)))::L))(hn:Nat.blt d n=true:=by exact U):WL P ops Q (⟨some d,.binOp .geq t x y t',ty,pos,after,none⟩::rest) n ds w L:=λa h=>j2d h D I hn q
theorem u8a (h:AgM ds a n L)(D:ev L x=some (.bool b))(hn:Nat.blt d n=true)(q:∀a,AgM ds a n ((d,.bool (!b))::L)->wpList P ops Q rest a w) :
    wpList P ops Q (⟨some d,.unOp .not t x,ty,pos,after,none⟩::rest) a w:=
  z2c h U hn (by simp[execOp,h.eval D,unary_not]) q
theorem nt' (D:ev L x=some (.bool b))(q:WL P ops Q rest n ds w ((d,.bool (!b))::L))(hn:Nat.blt d n=true:=by exact U):WL P ops Q (⟨some d,.unOp .not t x,ty,pos,after,none⟩::rest) n ds w L:=λa h=>u8a h D hn q
theorem u1z {z:Int}(h:AgM ds a n L)(O:ev L x=some (.int k i))(I:(P.underlying t).isSome=true)(D:P.underlying t'=some (.int k'))(Z:k'.wrap i=z)(hn:Nat.blt d n=true)(q:∀a,AgM ds a n ((d,.int k' z)::L)->wpList P ops Q rest a w) :
    wpList P ops Q (⟨some d,.convert t t' x,ty,pos,after,none⟩::rest) a w:=
  z2c h U hn (by
    obtain⟨u,M⟩:=Option.isSome_iff_exists.mp I
    subst Z;simp[execOp,h.eval O,convert,run_underlying M,run_underlying D,Conv.intToInt]) q
theorem z4m {z:Int}(M:ev L x=some (.int k i))(I:(P.underlying t).isSome=true)(D:P.underlying t'=some (.int k'))(O:k'.wrap i=z)(q:WL P ops Q rest n ds w ((d,.int k' z)::L))(hn:Nat.blt d n=true:=by exact U):WL P ops Q (⟨some d,.convert t t' x,ty,pos,after,none⟩::rest) n ds w L:=λa h=>u1z h M I D O hn q
theorem u8m {ts:Array TypeId}(h:AgM ds a n L)(D:ev L x=some (.int k i))(I:ev L y=some (.int k' j))(hn:Nat.blt d n=true)(q:∀a,AgM ds a n ((d,.int k (max i j))::L)->wpList P ops Q rest a w) :
    wpList P ops Q (⟨some d,.call ⟨.builtin .max,#[x,y],ts⟩,ty,pos,after,none⟩::rest) a w:=
  z2c h U hn (by
    rw[z2h];unfold builtin
    simp only[List.map_toArray,List.map_cons,List.map_nil,h.eval D,h.eval I,Sem.run_bind,run_max_int2,Result.andThen_ok,Sem.run_pure]
    congr 3;omega) q
theorem j2n {ts:Array TypeId}(D:ev L x=some (.int k i))(I:ev L y=some (.int k' j))(hn:Nat.blt d n=true)(q:WL P ops Q rest n ds w ((d,.int k (max i j))::L)):WL P ops Q (⟨some d,.call ⟨.builtin .max,#[x,y],ts⟩,ty,pos,after,none⟩::rest) n ds w L:=λa h=>u8m h D I hn q
theorem u8w (h:AgM ds a n L)(I:ev L x=some (.bool b))(M:ev L y=some (.bool c))(D:P.underlying t=some .bool)(hn:Nat.blt d n=true)(q:∀a,AgM ds a n ((d,.bool (decide (b≠c)))::L)->wpList P ops Q rest a w) :
    wpList P ops Q (⟨some d,.binOp .neq t x y t',ty,pos,after,none⟩::rest) a w:=
  z2c h U hn (by simp[execOp,h.eval I,h.eval M,eqGuard_at_bool,run_neq_bool w t b c D];cases b<;>cases c<;>rfl) q
theorem j1z (I:ev L x=some (.bool b))(M:ev L y=some (.bool c))(D:P.underlying t=some .bool)(hn:Nat.blt d n=true)(q:WL P ops Q rest n ds w ((d,.bool (decide (b≠c)))::L)):WL P ops Q (⟨some d,.binOp .neq t x y t',ty,pos,after,none⟩::rest) n ds w L:=λa h=>u8w h I M D hn q
def S (l:List UInt8):Value:=.string ⟨l.toArray⟩
variable {l l':List UInt8}
theorem j0d (h:AgM ds a n L)(I:ev L x=some (S l))(D:P.underlying t=some .string)(hn:Nat.blt d n=true)(q:∀a,AgM ds a n ((d,.int .i64 (l.length:Int))::L)->wpList P ops Q rest a w) :
    wpList P ops Q (⟨some d,.call ⟨.builtin .len,#[x],#[t]⟩,ty,pos,after,none⟩::rest) a w:=
  z2c h U hn (by
    rw[z2h];unfold builtin
    simp only[List.map_toArray,List.map_cons,List.map_nil,h.eval I,S,Sem.run_bind,run_len_string w t _ _ D,Result.andThen_ok,Sem.run_pure]
    rfl) q
theorem ln (I:ev L x=some (S l))(D:P.underlying t=some .string)(hn:Nat.blt d n=true)(q:WL P ops Q rest n ds w ((d,.int .i64 (l.length:Int))::L)):WL P ops Q (⟨some d,.call ⟨.builtin .len,#[x],#[t]⟩,ty,pos,after,none⟩::rest) n ds w L:=λa h=>j0d h I D hn q
end
end Go.Lw
namespace Go.Lw
open Go.RowKit
structure Fr (S:List Nat) (w w':World):Prop where
  os:w'.os=w.os
  tape:w'.tape=w.tape
  output:w'.output=w.output
  size:w.heap.size<=w'.heap.size
  block:∀k,k<w.heap.size->k∉S->w'.heap[k]?=w.heap[k]?
theorem Fr.refl (S:List Nat)(w:World):Fr S w w:=⟨rfl,rfl,rfl,Nat.le_refl _,λ_ _ _=>rfl⟩
theorem Fr.trans {S S':List Nat}{a b c:World}(h:Fr S a b)(D:Fr S' b c):Fr (S++S') a c:=
 ⟨D.os.trans h.os,D.tape.trans h.tape,D.output.trans h.output,Nat.le_trans h.size D.size,λk M I=>
  (D.block k (Nat.lt_of_lt_of_le M h.size) (λe=>I (List.mem_append.2 (.inr e)))).trans (h.block k M (λe=>I (List.mem_append.2 (.inl e))))⟩
theorem Fr.weak {S S':List Nat}{a b:World}(h:Fr S a b)(I:∀k∈S,k<a.heap.size->k∈S'):Fr S' a b:=
 ⟨h.os,h.tape,h.output,h.size,λk D M=>h.block k D (λe=>M (I k e D))⟩
theorem Fr.step {S S':List Nat}{a b c:World}(h:Fr S a b)(I:Fr S' b c)(M:∀k∈S',k<a.heap.size->k∈S):Fr S a c:=
 (h.trans I).weak λk O D=>(List.mem_append.1 O).elim id λe=>M k e D
theorem Fr.next {S:List Nat}{a b c:World}(h:Fr S a b)(D:Fr [] b c):Fr S a c:=h.step D sp0
theorem Fr.below {a b:World}(h:Fr [] a b):Below a.heap.size a b:=⟨h.os,h.tape,h.output,h.size,λk D=>h.block k D sp0⟩
theorem Fr.of_below {a b:World}(h:Below a.heap.size a b):Fr [] a b:=⟨h.os,h.tape,h.output,h.size,λk D _=>h.block k D⟩
theorem Fr.alloc (S:List Nat)(w:World)(o:Obj):Fr S w (w.alloc o):=⟨rfl,rfl,rfl,sp0,λk D _=>Below.heap_alloc w o k D⟩
theorem Fr.drew (S:List Nat)(w:World):Fr S w w.drew:=⟨rfl,rfl,rfl,Nat.le_refl _,λ_ _ _=>rfl⟩
theorem Fr.setCell (w:World)(p:Addr)(u:Value):Fr [p.block] w (w.setCell p u):=
 ⟨rfl,rfl,rfl,sp0,λk _ D=>heap_setCell_other w p k u (by simpa using D)⟩
theorem Fr.setRow (w:World)(g:Nat)(cs:Array Value):Fr [g] w (w.setRow g cs):=
 ⟨rfl,rfl,rfl,sp0,λk _ D=>setRow_other w g k _ (by simpa using D)⟩
theorem Fr.cell {S:List Nat}{w w':World}(h:Fr S w w'){p:Addr}{u:Value}(D:w.cell? p=some u)(hn:p.block∉S):w'.cell? p=some u:=
 (World.cell?_of_block (w:=w) (h.block p.block (block_lt_of_cell D) hn)).trans D
def Cells (w:World)(ad:Addr)(cs:List Value):Prop:=∀j u,cs[j]?=some u->w.cell? (ad.add j)=some u
theorem z7j (a:Addr)(n:Nat):(a.add n).block=a.block:=by unfold Addr.add;split<;>rfl
theorem z8r (a:Addr)(i j:Nat):(a.add i).add j=a.add (i+j):=by
 unfold Addr.add;by_cases hi:i=0<;>by_cases hj:j=0<;>simp[hi,hj,Nat.add_assoc]
theorem Cells.fr {S:List Nat}{w w':World}{ad:Addr}{cs:List Value}(h:Cells w ad cs)(hf:Fr S w w')(hn:ad.block∉S:=by simp[z0v]<;>omega):Cells w' ad cs:=
 λj u D=>hf.cell (h j u D) (by rw[z7j];exact hn)
structure Enc (α:Type) where
  enc:α->List Value
  sz:Nat
  len:∀y,(enc y).length=sz
  one:∀y,∀u∈enc y,u.oneCell'=true
  pos:0<sz
def Enc.i64:Enc Int:=⟨λn=>[.int .i64 n],1,λ_=>rfl,λ_ u h=>by simp at h;subst h;rfl,dd⟩
def Enc.u8:Enc Int:=⟨λn=>[.int .u8 n],1,λ_=>rfl,λ_ u h=>by simp at h;subst h;rfl,dd⟩
def Enc.str:Enc (List UInt8):=⟨λl=>[S l],1,λ_=>rfl,λ_ u h=>by simp at h;subst h;rfl,dd⟩
def Enc.sl:Enc (Option Addr×Nat×Nat):=⟨λp=>[.slice p.1 p.2.1 p.2.2],1,λ_=>rfl,λ_ u h=>by simp at h;subst h;rfl,dd⟩
theorem Enc.flat_len {α:Type}(E:Enc α)(ys:List α):(ys.flatMap E.enc).length=ys.length*E.sz:=by
 induction ys with
 | nil=>simp
 | cons y ys ih=>simp[E.len,ih,Nat.add_mul,Nat.add_comm]
theorem Enc.flat_one {α:Type}(E:Enc α)(ys:List α):∀u∈ys.flatMap E.enc,u.oneCell'=true:=by
 intro u D;obtain⟨y,_,h⟩:=List.mem_flatMap.1 D;exact E.one y u h
theorem Enc.flat_get {α:Type}(E:Enc α):∀(ys:List α) (i:Nat) (y:α),ys[i]?=some y->∀j,j<E.sz->(ys.flatMap E.enc)[i*E.sz+j]?=(E.enc y)[j]?
 | [],i,y,h,_,_=>by simp at h
 | z::ys,0,y,h,j,hj=>by
  simp at h;subst h
  rw[List.flatMap_cons,Nat.zero_mul,Nat.zero_add,List.getElem?_append_left (by rw[E.len];exact hj)]
 | z::ys,i+1,y,h,j,hj=>by
  simp at h
  rw[List.flatMap_cons,List.getElem?_append_right (by rw[E.len,Nat.add_mul];omega),E.len]
  rw[show (i+1)*E.sz+j-E.sz=i*E.sz+j by rw[Nat.add_mul];omega]
  exact Enc.flat_get E ys i y h j hj
theorem Enc.flat_split {α:Type}(E:Enc α)(ys:List α)(m:Nat)(u:Value)(h:(ys.flatMap E.enc)[m]?=some u) :
    ∃i j y,m=i*E.sz+j/\j<E.sz/\ys[i]?=some y/\(E.enc y)[j]?=some u:=by
  have M:m<ys.length*E.sz:=by rw[<-E.flat_len];exact(List.getElem?_eq_some_iff.1 h).1
  have D:m / E.sz<ys.length:=Nat.div_lt_of_lt_mul (by rw[Nat.mul_comm];exact M)
  have I:m % E.sz<E.sz:=Nat.mod_lt _ E.pos
  have e:m=m / E.sz*E.sz+m % E.sz:=by rw[Nat.mul_comm];exact(Nat.div_add_mod m E.sz).symm
  refine⟨m / E.sz,m % E.sz,ys[m / E.sz],e,I,List.getElem?_eq_getElem D,?_⟩
  have:=E.flat_get ys (m / E.sz) ys[m / E.sz] (List.getElem?_eq_getElem D) (m % E.sz) I
  rw[<-this,<-e];exact h
def Sl {α:Type}(E:Enc α)(w:World)(v:Value)(ys:List α):Prop:=
  ∃A c,v=.slice A ys.length c/\ys.length<=c/\c<=maxLen/\∀i y,ys[i]?=some y->∃ad,A=some ad/\Cells w (ad.add (i*E.sz)) (E.enc y)
def Own {α:Type}(E:Enc α)(T:TypeId)(base:Nat)(w:World)(v:Value)(ys:List α):Prop:=
  (v=.slice none 0 0/\ys=[])\/
  ∃g cap cur,v=.slice (some ⟨g,0,none⟩) ys.length cap/\base<=g/\w.heap[g]?=some (.cells cur T (0,0))/\ys.length<=cap/\cap<=maxLen/\cap*E.sz<=cur.size/\
    cur.toList.take (ys.length*E.sz)=ys.flatMap E.enc
def z0v:Value->List Nat
  | .slice (some a) _ _=>[a.block]
  | _=>[]
section
variable {α:Type} {E:Enc α} {T:TypeId} {base:Nat} {w w':World} {v:Value} {ys zs:List α} {S:List Nat}
theorem z4q (g o j:Nat):(⟨g,o,none⟩:Addr).add j=⟨g,o+j,none⟩:=by unfold Addr.add;split<;>simp_all
theorem Sl.fr (h:Sl E w v ys)(hf:Fr S w w')(hn:∀k∈S,k∉z0v v:=by simp[z0v]<;>omega):Sl E w' v ys:=by
 obtain⟨A,c,rfl,D,I,M⟩:=h;refine⟨A,c,rfl,D,I,λi y Z=>?_⟩;obtain⟨ad,rfl,O⟩:=M i y Z;exact⟨ad,rfl,O.fr hf (by rw[z7j];exact λe=>hn _ e (by simp[z0v]))⟩
theorem Sl.ext (h:Sl E w v ys)(hf:Fr [] w w'):Sl E w' v ys:=h.fr hf sp0
theorem Sl.nil (w:World):Sl E w (.slice none 0 0) []:=⟨none,0,rfl,Nat.le_refl _,Nat.zero_le _,λi y h=>by simp at h⟩
theorem Own.sl (h:Own E T base w v ys):Sl E w v ys:=by
 rcases h with ⟨rfl,rfl⟩|⟨g,cap,cur,rfl,_,hg,Z,hm,hs,ht⟩
 exact Sl.nil w;refine⟨_,cap,rfl,Z,hm,λi y O=>⟨_,rfl,λj u M=>?_⟩⟩;have hj:j<E.sz:=by rw[<-E.len y];exact(List.getElem?_eq_some_iff.1 M).1
 have hi:i<ys.length:=(List.getElem?_eq_some_iff.1 O).1;have D:=E.flat_get ys i y O j hj;rw[<-ht]at D;have I:i*E.sz+j<ys.length*E.sz:=by
  have:(i+1)*E.sz<=ys.length*E.sz:=Nat.mul_le_mul_right _ hi;rw[Nat.add_mul]at this;omega
 rw[List.getElem?_take,if_pos I]at D;rw[z8r,z4q,Nat.zero_add,cell_of_row w g _ cur T (0,0) hg,<-Array.getElem?_toList,D];exact M
theorem Own.fr (h:Own E T base w v ys)(hf:Fr S w w')(hn:∀k∈S,k∉z0v v:=by simp[z0v]<;>omega):Own E T base w' v ys:=by
 rcases h with ⟨rfl,rfl⟩|⟨g,cap,cur,rfl,I,D,r⟩
 exact .inl ⟨rfl,rfl⟩;refine .inr ⟨g,cap,cur,rfl,I,?_,r⟩;rw[hf.block g (Array.getElem?_eq_some_iff.1 D).1 (λe=>hn _ e (by simp[z0v]))];exact D
theorem Own.ext (h:Own E T base w v ys)(hf:Fr [] w w'):Own E T base w' v ys:=h.fr hf sp0
theorem Own.nil (w:World):Own E T base w (.slice none 0 0) []:=.inl ⟨rfl,rfl⟩
theorem Own.low {D:Nat}(h:Own E T base w v ys)(hb:D<=base):Own E T D w v ys:=by
 rcases h with h|⟨g,cap,cur,I,M,r⟩
 exact .inl h;exact .inr ⟨g,cap,cur,I,Nat.le_trans hb M,r⟩
theorem Own.blk (h:Own E T base w v ys):∀k∈z0v v,base<=k/\k<w.heap.size:=by
 rcases h with ⟨rfl,rfl⟩|⟨g,cap,cur,rfl,I,M,r⟩
 intro k D;cases D;intro k D;simp[z0v]at D;subst D;exact⟨I,(Array.getElem?_eq_some_iff.1 M).1⟩
theorem Sl.blk (h:Sl E w v ys)(hp:ys≠[]):∀k∈z0v v,k<w.heap.size:=by
 obtain⟨A,c,rfl,O,Z,I⟩:=h;match ys,hp with
 | y::r,_=>
  obtain⟨ad,rfl,M⟩:=I 0 y U;intro k D;simp[z0v]at D;subst D;have hl:=E.len y;have hp:=E.pos;match he:E.enc y with
  | []=>rw[he]at hl;simp at hl;omega
  | u::_=>
   have:=M 0 u (by rw[he];rfl);have:=block_lt_of_cell this;rwa [z7j,z7j]at this
theorem Sl.form (h:Sl E w v ys):∃A c,v=.slice A ys.length c/\ys.length<=c:=let ⟨A,c,h1,h2,_⟩:=h;⟨A,c,h1,h2⟩
theorem Sl.len_le (h:Sl E w v ys):ys.length<=maxLen:=let ⟨_,_,_,h2,h3,_⟩:=h;Nat.le_trans h2 h3
theorem Sl.flat (h:Sl E w v ys):∃A c,v=.slice A ys.length c/\ys.length<=c/\c<=maxLen/\(ys≠[]->∃ad,A=some ad/\Cells w ad (ys.flatMap E.enc)):=by
 obtain⟨A,c,rfl,O,Z,I⟩:=h;refine⟨A,c,rfl,O,Z,λhp=>?_⟩;match ys,hp with
 | y::r,_=>
  obtain⟨ad,rfl,_⟩:=I 0 y U;refine⟨ad,rfl,λm u hu=>?_⟩;obtain⟨i,j,z,rfl,hj,hz,D⟩:=E.flat_split _ m u hu;obtain⟨M,e,hc⟩:=I i z hz;cases e;have:=hc j u D;rwa [z8r]at this
theorem Sl.take (h:Sl E w v ys){A:Option Addr}{n c:Nat}(hv:v=.slice A n c){m:Nat}(hm:m<=ys.length){B:Option Addr}{c':Nat}(I:m<=c')(hM:c'<=maxLen)(Z:0<m->B=A):Sl E w (.slice B m c') (ys.take m):=by
 obtain⟨A',c1,M,h1,h2,O⟩:=h;rw[hv]at M;cases M;have hl:(ys.take m).length=m:=by simp;omega
 refine⟨B,c',by rw[hl],by rw[hl];exact I,hM,λi y D=>?_⟩;rw[List.getElem?_take]at D;split at D;rename_i hi;rw[Z oo];exact O i y D;cases D
theorem Sl.drop (h:Sl E w v ys){A:Option Addr}{n c:Nat}(hv:v=.slice A n c){m:Nat}(hm:m<=ys.length){B:Option Addr}{c':Nat}(D:ys.length-m<=c')(hM:c'<=maxLen)(Z:m<ys.length->B=A.map (·.add (m*E.sz))) :
    Sl E w (.slice B (ys.length-m) c') (ys.drop m):=by
  obtain⟨A',c1,M,h1,h2,O⟩:=h
  rw[hv]at M;cases M
  refine⟨B,c',by rw[List.length_drop],by rw[List.length_drop];exact D,hM,λi y I=>?_⟩
  rw[List.getElem?_drop]at I
  have a0:m+i<ys.length:=(List.getElem?_eq_some_iff.1 I).1
  obtain⟨ad,rfl,hc⟩:=O _ y I
  refine⟨ad.add (m*E.sz),by rw[Z oo];rfl,?_⟩
  rw[z8r,<-Nat.add_mul];exact hc
theorem Own.take (h:Own E T base w v ys){A:Option Addr}{n c:Nat}(hv:v=.slice A n c){m:Nat}(I:m<=ys.length){c':Nat}(O:c'<=c)(D:m<=c'):Own E T base w (.slice A m c') (ys.take m):=by
 rcases h with ⟨rfl,rfl⟩|⟨g,cap,cur,rfl,hb,hg,h1,h2,Z,h4⟩
 cases hv;simp at I;subst I;exact .inl ⟨by rw[Nat.le_zero.1 O],rfl⟩;cases hv;have hl:(ys.take m).length=m:=by simp;omega
 refine .inr ⟨g,c',cur,by rw[hl],hb,hg,by rw[hl];exact D,oo,Nat.le_trans (Nat.mul_le_mul_right _ O) Z,?_⟩;have M:(cur.toList.take (ys.length*E.sz)).take (m*E.sz)=(ys.flatMap E.enc).take (m*E.sz):=by rw[h4]
 rw[List.take_take,Nat.min_eq_left (Nat.mul_le_mul_right _ I)]at M;rw[hl,M];clear M h4 Z h2 h1 hg hl O D;induction ys generalizing m with
 | nil=>simp
 | cons y ys ih=>
  match m with
  | 0=>simp
  | m+1=>
   rw[List.take_succ_cons,List.flatMap_cons,List.flatMap_cons,Nat.add_mul,Nat.one_mul,Nat.add_comm,<-E.len y,List.take_length_add_append,E.len y,ih (by simp at I;omega)]
theorem z8j {P:Program}(t ty e:TypeId)(i:TypeInfo)(O:P.underlying t=some (.slice e))(I:P.info? e=some i)(A:Option Addr)(n cap c:Nat)(D:n<=cap)(M:0<n->A≠none) :
    (Builtin.append_ #[t,t] ty #[.slice A n cap,.slice none 0 c]).run P w=.ok (.slice A n cap) w:=by
  cases A with
  | none=>simp[Builtin.append_,run_underlying O,sizeOf,typeInfo,I,Builtin.lenOf,Builtin.firstCells,D]
  | some a=>simp[Builtin.append_,run_underlying O,sizeOf,typeInfo,I,Builtin.lenOf,Builtin.firstCells,D,storeCells]
theorem x7x {P:Program}(t ty:TypeId)(i:TypeInfo)(z:Value)(M:Nat)(ht:P.underlying t=some (.slice T))(hi:P.info? T=some i)(hz:i.zero=some z)(D:i.size=E.sz)(b2:i.bytes=M)
    (hzs:z.cells.size=E.sz) {x:Value} (ho:Own E T base w v ys) (hx:Sl E w x zs) (hM:(ys.length+zs.length)<=maxLen) (hb:(ys.length+zs.length)*M<=140737488355328) (hbase:base<=w.heap.size) :
    ∃v' w',(Builtin.append_ #[t,t] ty #[v,x]).run P w=.ok v' w'/\Own E T base w' v' (ys++zs)/\Fr (z0v v) w w'/\(v'=v\/z0v v'=z0v v\/z0v v'=[w.heap.size]):=by
  subst b2
  obtain⟨A,c,rfl,b7,b8,a0⟩:=hx.flat
  have O:∀(old:Nat),
      Own E T base (w.drew.alloc (.cells ((ys.flatMap E.enc).toArray++(zs.flatMap E.enc).toArray++Builtin.zeroCells z.cells (grownCap w (ys.length+zs.length) old T-(ys.length+zs.length))) T))
        (.slice (some ⟨w.heap.size,0,none⟩) (ys.length+zs.length) (grownCap w (ys.length+zs.length) old T)) (ys++zs):=by
    intro old
    have b4:=grownCap_ge w (ys.length+zs.length) old T
    have Z:=grownCap_le_maxLen w (ys.length+zs.length) old T hM
    refine .inr ⟨w.heap.size,_,_,by rw[List.length_append],hbase,heap_alloc_new w.drew _,by rw[List.length_append];exact b4,Z,?_,?_⟩
    · simp only[Array.size_append,List.size_toArray,size_zeroCells,hzs,E.flat_len,<-Nat.add_mul]
      refine Nat.mul_le_mul_right _ ?_
      omega
    · rw[List.flatMap_append]
      simp only[Array.toList_append]
      rw[show (ys++zs).length*E.sz=(ys.flatMap E.enc++zs.flatMap E.enc).length by rw[@List.length_append _ (ys.flatMap E.enc) (zs.flatMap E.enc),E.flat_len,E.flat_len,List.length_append,Nat.add_mul]]
      exact List.take_left
  by_cases hzn:zs=[]
  · subst hzn
    rw[List.append_nil]
    refine⟨v,w,?_,ho,Fr.refl _ _,.inl U⟩
    rcases ho with ⟨rfl,rfl⟩|⟨g,cap,cur,rfl,a2,hg,a1,Z,a4,I⟩
    · cases A with
      | none=>exact z8j t ty T i ht hi _ _ _ _ (Nat.le_refl _) sp0
      | some a=>simp[Builtin.append_,run_underlying ht,sizeOf,typeInfo,hi,Builtin.lenOf,Builtin.firstCells,loadCells,loadCellsFrom]
    · cases A with
      | none=>exact z8j t ty T i ht hi _ _ _ _ a1 sp0
      | some a=>simp[Builtin.append_,run_underlying ht,sizeOf,typeInfo,hi,Builtin.lenOf,Builtin.firstCells,loadCells,loadCellsFrom,a1,storeCells]
  · obtain⟨ad,rfl,a3⟩:=a0 hzn
    have b0:0<zs.length:=List.length_pos_iff.2 hzn
    have b5:ys.length+zs.length<=9223372036854775807:=by simp only[maxLen]at hM;omega
    rcases ho with ⟨rfl,rfl⟩|⟨g,cap,cur,rfl,a2,hg,a1,Z,a4,I⟩
    · have hr:=run_append_nil (P:=P) w t ty T i z ht hi hz ad zs.length c (zs.flatMap E.enc) (by rw[E.flat_len,D]) a3 b0 (by simp at b5;omega) (by have b1:=hb;simp only[List.length_nil,Nat.zero_add]at b1;omega)
      have a8:=O 0
      simp only[List.flatMap_nil,List.length_nil,Nat.zero_add,List.nil_append,Array.empty_append]at a8 ⊢
      exact⟨_,_,hr,a8,⟨rfl,rfl,rfl,sp0,λk hk _=>Below.heap_alloc w.drew _ k hk⟩,.inr (.inr U)⟩
    · have a9:Own E T base w (.slice (some ⟨g,0,none⟩) ys.length cap) ys:=.inr ⟨g,cap,cur,rfl,a2,hg,a1,Z,a4,I⟩
      by_cases hroom:ys.length+zs.length<=cap
      · have a7:ys.length*i.size+(zs.flatMap E.enc).length<=cur.size:=by
          rw[E.flat_len,D,<-Nat.add_mul]
          exact Nat.le_trans (Nat.mul_le_mul_right _ hroom) a4
        have hr:=run_append_room (P:=P) w t ty T i ht hi g ys.length cap cur hg ad zs.length c (zs.flatMap E.enc) (by rw[E.flat_len,D]) a3 (E.flat_one zs) hroom a7
        refine⟨_,_,hr,.inr ⟨g,cap,_,by rw[List.length_append],a2,setRow_heap w g cur _ T _ hg,by rw[List.length_append];exact hroom,Z,?_,?_⟩,Fr.setRow w g _,.inr (.inl U)⟩
        · simp only[List.size_toArray,List.length_append,List.length_take,List.length_drop,Array.length_toList]
          omega
        · rw[D,I,List.flatMap_append,List.length_append,Nat.add_mul]
          rw[show ys.length*E.sz+zs.length*E.sz=(ys.flatMap E.enc++zs.flatMap E.enc).length by rw[List.length_append,E.flat_len,E.flat_len]]
          exact List.take_left
      · have a5:=a9.sl.flat
        have a6:∀j u,(ys.flatMap E.enc)[j]?=some u->w.cell? ((⟨g,0,none⟩:Addr).add j)=some u:=by
          intro j u hu
          by_cases hy:ys=[]
          · subst hy;simp at hu
          · obtain⟨A',c',e,_,_,hh⟩:=a5
            obtain⟨b6,e',b3⟩:=hh hy
            cases e;cases e'
            exact b3 j u hu
        have hr:=run_append_grow (P:=P) w t ty T i z ht hi hz ⟨g,0,none⟩ ys.length cap (ys.flatMap E.enc) (by rw[E.flat_len,D]) a6 ad zs.length c (zs.flatMap E.enc) (by rw[E.flat_len,D]) a3 oo oo (growslice_fits oo hb)
        exact⟨_,_,hr,O cap,⟨rfl,rfl,rfl,sp0,λk hk _=>Below.heap_alloc w.drew _ k hk⟩,.inr (.inr U)⟩
end
end Go.Lw
namespace Go.Lw
open Go.RowKit
def z1y (P:Program)(t:TypeId):Prop:=∀w:World,(isAgg t).run P w=.ok false w
def z3p (P:Program)(t:TypeId)(n:Nat):Prop:=(∀w:World,(isAgg t).run P w=.ok true w)/\∀w:World,(sizeOf t).run P w=.ok n w
def z1t (P:Program)(t:TypeId)(n:Nat):Prop:=∀w:World,(sizeOf t).run P w=.ok n w
def z1c (P:Program)(s f off:Nat):Prop:=∀(ad:Addr) (w:World),(Instr.fieldAt s (.pointer (some ad)) f).run P w=.ok (.pointer (some (ad.add off))) w
def CallOf (P:Program)(f:FuncId):Prop:=∀(args:Array Value) (w:World),(callFunc f args).run P w=.ok (.enter f args) w
structure ElemOf {α:Type} (P:Program) (t T:TypeId) (E:Enc α) (bytes:Nat):Prop where
  und:P.underlying t=some (.slice T)
  info:∃i z,P.info? T=some i/\i.zero=some z/\i.size=E.sz/\i.bytes=bytes/\z.cells.size=E.sz
theorem ElemOf.mk' {α:Type}{P:Program}{t T:TypeId}{E:Enc α}{D:Nat}{z:Value}(h1:P.underlying t=some (.slice T))(I:(P.info? T).map (λi=>(i.zero,i.size,i.bytes))=some (some z,E.sz,D))(M:z.cells.size=E.sz):ElemOf P t T E D:=
 ⟨h1,let ⟨i,a,b,c,d⟩:=info_parts I;⟨i,z,a,b,c,d,M⟩⟩
theorem CallOf.mk' {P:Program}{f:FuncId}{fn:Func}(hf:P.funcs[f]?=some fn)(hn:(fn.name == "runtime.NumGoroutine")=false)(hb:fn.body.isNone=false):CallOf P f:=
 λD w=>by
  have I:fn.name≠ "runtime.NumGoroutine" :=by simpa using hn
  have M:fn.body≠none:=by intro e;rw[e]at hb;cases hb
  simp[callFunc,hf,I,M]
section
variable {P:Program} {a:Act} {n:Nat} {L:List (Nat×Value)} {ds:List Nat} {w w':World} {Q:Exit->Act->World->Prop} {ops:Array Oper} {rest:List Oper}
variable {d:Nat} {ty:TypeId} {pos:String} {after:Array Edge} {v u:Value} {x y z:Operand} {t t' T:TypeId} {k k':IntKind} {i j:Int} {b c:Bool} {l l':List UInt8}
theorem x6i (c:UInt8):0<=((c.toNat:Nat):Int)/\((c.toNat:Nat):Int)<=255:=by have:=c.toNat_lt;omega
theorem v5j {p:Nat}(h:AgM ds a n L)(Z:ev L x=some (S l))(hy:ev L y=some (.int k i))(O:P.underlying t=some .string)(I:0<=i)(h1:i<l.length)(hp:i.toNat=p)(hn:Nat.blt d n=true)
    (q:0<=((l.getD p 0).toNat:Int)/\((l.getD p 0).toNat:Int)<=255->∀a,AgM ds a n ((d,.int .u8 ((l.getD p 0).toNat:Int))::L)->wpList P ops Q rest a w):wpList P ops Q (⟨some d,.index t x y,ty,pos,after,none⟩::rest) a w:=
  z2c h U hn (by
    have M:(ByteArray.mk l.toArray).size=l.length:=by simp[ByteArray.size]
    have D:i<((ByteArray.mk l.toArray).size:Nat):=by rw[M];exact h1
    have hl:i.toNat<l.length:=by omega
    subst hp
    simp[execOp,h.eval Z,h.eval hy,S,run_index_string w t _ k i O,I,D]
    simp[hl];rfl) (q (x6i _))
theorem u1o {p:Nat}(M:ev L x=some (S l))(O:ev L y=some (.int k i))(I:P.underlying t=some .string)(D:0<=i)(h1:i<l.length)(hp:i.toNat=p)(hn:Nat.blt d n=true)(q:0<=((l.getD p 0).toNat:Int)/\((l.getD p 0).toNat:Int)<=255->WL P ops Q rest n ds w ((d,.int .u8 ((l.getD p 0).toNat:Int))::L)):WL P ops Q (⟨some d,.index t x y,ty,pos,after,none⟩::rest) n ds w L:=λa h=>v5j h M O I D h1 hp hn q
theorem v7w (l:List UInt8)(I D:Nat):(ByteArray.mk l.toArray).extract I D=⟨((l.take D).drop I).toArray⟩:=by
 apply ByteArray.ext;rw[ByteArray.data_extract];apply Array.ext';simp[List.drop_take]
theorem u3f {p:Nat}(h:AgM ds a n L)(Z:ev L x=some (S l))(hy:ev L y=some (.int k i))(I:P.underlying t=some .string)(M:0<=i)(h1:i<=l.length)(hp:i.toNat=p)(hn:Nat.blt d n=true)
    (q:∀a,AgM ds a n ((d,S (l.drop p))::L)->wpList P ops Q rest a w):wpList P ops Q (⟨some d,.slice t x (some y) none none,ty,pos,after,none⟩::rest) a w:=
  z2c h U hn (by
    have O:i<=((ByteArray.mk l.toArray).size:Nat):=by simpa[ByteArray.size] using h1
    subst hp
    have D:=run_slice_string_l (P:=P) w t ⟨l.toArray⟩ I k i M O
    rw[v7w,List.take_of_length_le (by simp[ByteArray.size])]at D
    simp[execOp,h.eval Z,h.eval hy,S,run_sliceAt_string w t _ _ _ _ I,D]) q
theorem u8g {p:Nat}(M:ev L x=some (S l))(O:ev L y=some (.int k i))(I:P.underlying t=some .string)(D:0<=i)(h1:i<=l.length)(hp:i.toNat=p)(hn:Nat.blt d n=true)(q:WL P ops Q rest n ds w ((d,S (l.drop p))::L)):WL P ops Q (⟨some d,.slice t x (some y) none none,ty,pos,after,none⟩::rest) n ds w L:=λa h=>u3f h M O I D h1 hp hn q
theorem u2e (h:AgM ds a n L)(I:ev L x=some (S l))(M:ev L y=some (S l'))(hb:l.length+l'.length<=9223372036854775807)(hn:Nat.blt d n=true)
    (q:∀a,AgM ds a n ((d,S (l++l'))::L)->wpList P ops Q rest a w):wpList P ops Q (⟨some d,.binOp .add t x y t',ty,pos,after,none⟩::rest) a w:=
  z2c h U hn (by
    have D:=run_string_add_sum (P:=P) w ⟨l.toArray⟩ ⟨l'.toArray⟩ (by simpa[ByteArray.size] using hb)
    rw[ByteArray.mk_append_mk]at D
    simp[execOp,h.eval I,h.eval M,S,eqGuard_add,binOp_string_add,D]) q
theorem u0a (D:ev L x=some (S l))(I:ev L y=some (S l'))(hb:l.length+l'.length<=9223372036854775807)(hn:Nat.blt d n=true)(q:WL P ops Q rest n ds w ((d,S (l++l'))::L)):WL P ops Q (⟨some d,.binOp .add t x y t',ty,pos,after,none⟩::rest) n ds w L:=λa h=>u2e h D I hb hn q
theorem j0e (h:AgM ds a n L)(D:ev L x=some (S l))(I:ev L y=some (S l'))(hn:Nat.blt d n=true)
    (q:∀a,AgM ds a n ((d,.bool (decide (l=l')))::L)->wpList P ops Q rest a w):wpList P ops Q (⟨some d,.binOp .eql t x y t',ty,pos,after,none⟩::rest) a w:=
  z2c h U hn (by simp[execOp,h.eval D,h.eval I,S,eqGuard_at_string,binOp_string_eql];by_cases e:l=l'<;>simp[e]) q
theorem j0b (D:ev L x=some (S l))(I:ev L y=some (S l'))(hn:Nat.blt d n=true)(q:WL P ops Q rest n ds w ((d,.bool (decide (l=l')))::L)):WL P ops Q (⟨some d,.binOp .eql t x y t',ty,pos,after,none⟩::rest) n ds w L:=λa h=>j0e h D I hn q
theorem u7d (h:AgM ds a n L)(D:ev L x=some (S l))(I:ev L y=some (S l'))(hn:Nat.blt d n=true)
    (q:∀a,AgM ds a n ((d,.bool (decide (l≠l')))::L)->wpList P ops Q rest a w):wpList P ops Q (⟨some d,.binOp .neq t x y t',ty,pos,after,none⟩::rest) a w:=
  z2c h U hn (by simp[execOp,h.eval D,h.eval I,S,eqGuard_at_string,binOp_string_neq];by_cases e:l=l'<;>simp[e]) q
theorem j1h (D:ev L x=some (S l))(I:ev L y=some (S l'))(hn:Nat.blt d n=true)(q:WL P ops Q rest n ds w ((d,.bool (decide (l≠l')))::L)):WL P ops Q (⟨some d,.binOp .neq t x y t',ty,pos,after,none⟩::rest) n ds w L:=λa h=>u7d h D I hn q
variable {A:Option Addr} {m cp:Nat}
theorem u4u (h:AgM ds a n L)(I:ev L x=some (.slice A m cp))(D:P.underlying t=some (.slice T))(hn:Nat.blt d n=true)(q:∀a,AgM ds a n ((d,.int .i64 (m:Int))::L)->wpList P ops Q rest a w) :
    wpList P ops Q (⟨some d,.call ⟨.builtin .len,#[x],#[t]⟩,ty,pos,after,none⟩::rest) a w:=
  z2c h U hn (by
    rw[z2h];unfold builtin
    simp[h.eval I,Builtin.len_,run_underlying D]
    rfl) q
theorem lnS (I:ev L x=some (.slice A m cp))(D:P.underlying t=some (.slice T))(q:WL P ops Q rest n ds w ((d,.int .i64 (m:Int))::L))(hn:Nat.blt d n=true:=by exact U):WL P ops Q (⟨some d,.call ⟨.builtin .len,#[x],#[t]⟩,ty,pos,after,none⟩::rest) n ds w L:=λa h=>u4u h I D hn q
theorem u3p (h:AgM ds a n L)(I:ev L x=some (.slice A m cp))(D:P.underlying t=some (.slice T))(hn:Nat.blt d n=true)(q:∀a,AgM ds a n ((d,.int .i64 (cp:Int))::L)->wpList P ops Q rest a w) :
    wpList P ops Q (⟨some d,.call ⟨.builtin .cap,#[x],#[t]⟩,ty,pos,after,none⟩::rest) a w:=
  z2c h U hn (by
    rw[z2h];unfold builtin
    simp[h.eval I,Builtin.cap_,run_underlying D]
    rfl) q
theorem j0m (I:ev L x=some (.slice A m cp))(D:P.underlying t=some (.slice T))(hn:Nat.blt d n=true)(q:WL P ops Q rest n ds w ((d,.int .i64 (cp:Int))::L)):WL P ops Q (⟨some d,.call ⟨.builtin .cap,#[x],#[t]⟩,ty,pos,after,none⟩::rest) n ds w L:=λa h=>u3p h I D hn q
theorem u4d {p:Nat}{α:Type}{E:Enc α}{D:Nat}(h:AgM ds a n L)(hx:ev L x=some (.slice A m cp))(hz:ev L z=some (.int k' j))(M:ElemOf P t T E D)(O:0<=j)(Z:j<=cp)(hp:j.toNat=p)(hn:Nat.blt d n=true)
    (q:∀a,AgM ds a n ((d,.slice A p cp)::L)->wpList P ops Q rest a w):wpList P ops Q (⟨some d,.slice t x none (some z) none,ty,pos,after,none⟩::rest) a w:=by
  subst hp
  obtain⟨a1,zv,I,_,a0,_⟩:=M.info
  exact z2c h U hn (by
    have hA:Option.map (λx=>Addr.add x 0) A=A:=by cases A<;>simp[Addr.add]
    simp[execOp,h.eval hx,h.eval hz,Instr.sliceAt,Instr.slice,run_underlying M.und,Instr.sliceBounds,Instr.sliceBound,asIntOf,O,Z,sizeOf,typeInfo,I,hA]) q
theorem v9w {p:Nat}{α:Type}{E:Enc α}{D:Nat}(Z:ev L x=some (.slice A m cp))(hz:ev L z=some (.int k' j))(O:ElemOf P t T E D)(I:0<=j)(M:j<=cp)(hp:j.toNat=p)(hn:Nat.blt d n=true)(q:WL P ops Q rest n ds w ((d,.slice A p cp)::L)):WL P ops Q (⟨some d,.slice t x none (some z) none,ty,pos,after,none⟩::rest) n ds w L:=λa h=>u4d h Z hz O I M hp hn q
theorem v5k {p p':Nat}{α:Type}{E:Enc α}{D:Nat}{o:Operand}{k'':IntKind}{r:Int}(h:AgM ds a n L)(hx:ev L x=some (.slice A m cp))(hz:ev L z=some (.int k' j))(ho:ev L o=some (.int k'' r))(O:ElemOf P t T E D)(Z:0<=j)(h1:j<=r)(h2:r<=cp)(hp:j.toNat=p)(M:r.toNat=p')(hn:Nat.blt d n=true)
    (q:∀a,AgM ds a n ((d,.slice A p p')::L)->wpList P ops Q rest a w):wpList P ops Q (⟨some d,.slice t x none (some z) (some o),ty,pos,after,none⟩::rest) a w:=by
  subst hp M
  obtain⟨a1,zv,I,_,a0,_⟩:=O.info
  exact z2c h U hn (by
    have h3:0<=r:=by omega
    have h4:j<=((r.toNat:Nat):Int):=by omega
    have hA:Option.map (λx=>Addr.add x 0) A=A:=by cases A<;>simp[Addr.add]
    simp[execOp,h.eval hx,h.eval hz,h.eval ho,Instr.sliceAt,Instr.slice,run_underlying O.und,Instr.sliceBounds,Instr.sliceBound,asIntOf,Z,h2,h3,h4,sizeOf,typeInfo,I,hA]
    intro hc;omega) q
theorem x8n {p p':Nat}{α:Type}{E:Enc α}{D:Nat}{o:Operand}{k'':IntKind}{r:Int}(hx:ev L x=some (.slice A m cp))(hz:ev L z=some (.int k' j))(ho:ev L o=some (.int k'' r))(Z:ElemOf P t T E D)(M:0<=j)(h1:j<=r)(O:r<=cp)(hp:j.toNat=p)(I:r.toNat=p')(hn:Nat.blt d n=true)(q:WL P ops Q rest n ds w ((d,.slice A p p')::L)):WL P ops Q (⟨some d,.slice t x none (some z) (some o),ty,pos,after,none⟩::rest) n ds w L:=λa h=>v5k h hx hz ho Z M h1 O hp I hn q
def Blk (w:World)(g:Nat)(T:TypeId)(cs:List Value):Prop:=w.heap[g]?=some (.cells cs.toArray T (0,0))
theorem Blk.lt {g:Nat}{cs:List Value}(h:Blk w g T cs):g<w.heap.size:=(Array.getElem?_eq_some_iff.1 h).1
theorem Blk.cell {g:Nat}{cs:List Value}(h:Blk w g T cs)(o:Nat):w.cell? ⟨g,o,none⟩=cs[o]?:=by
 rw[cell_of_row w g o cs.toArray T (0,0) h];simp
theorem Blk.cells {g:Nat}{cs:List Value}(h:Blk w g T cs):Cells w ⟨g,0,none⟩ cs:=λj u D=>by rw[z4q,Nat.zero_add,h.cell];exact D
theorem Blk.fr {g:Nat}{cs:List Value}{S:List Nat}(h:Blk w g T cs)(hf:Fr S w w')(hn:g∉S:=by simp[z0v]<;>omega):Blk w' g T cs:=(hf.block g h.lt hn).trans h
theorem Blk.ext {g:Nat}{cs:List Value}(h:Blk w g T cs)(hf:Fr [] w w'):Blk w' g T cs:=h.fr hf sp0
theorem y9g {ad:Addr}(h:AgM ds a n L)(M:ev L x=some (.pointer (some ad)))(D:w.cell? ad=some v)(I:z1y P t)(hn:Nat.blt d n=true)(q:∀a,AgM ds a n ((d,v)::L)->wpList P ops Q rest a w) :
    wpList P ops Q (⟨some d,.load t x,ty,pos,after,none⟩::rest) a w:=
  z2c h U hn (by simp[execOp,h.eval M,Instr.loadAt,Instr.sureAddr,loadVar,I w,D]) q
theorem z1p {ad:Addr}{cs:List Value}(h:AgM ds a n L)(M:ev L x=some (.pointer (some ad)))(I:Cells w ad cs)(D:z3p P t cs.length)(hn:Nat.blt d n=true)(q:∀a,AgM ds a n ((d,.agg cs.toArray)::L)->wpList P ops Q rest a w) :
    wpList P ops Q (⟨some d,.load t x,ty,pos,after,none⟩::rest) a w:=
  z2c h U hn (by simp[execOp,h.eval M,Instr.loadAt,Instr.sureAddr,loadVar,D.1 w,D.2 w,run_loadCells_list w ad cs I]) q
theorem z1q {ad:Addr}{cs:List Value}(M:ev L x=some (.pointer (some ad)))(D:Cells w ad cs)(I:z3p P t cs.length)(q:WL P ops Q rest n ds w ((d,.agg cs.toArray)::L))(hn:Nat.blt d n=true:=by exact U):WL P ops Q (⟨some d,.load t x,ty,pos,after,none⟩::rest) n ds w L:=λa h=>z1p h M D I hn q
theorem y2k {ad:Addr}{f off:Nat}(h:AgM ds a n L)(D:ev L x=some (.pointer (some ad)))(hf:z1c P t f off)(hn:Nat.blt d n=true)(q:∀a,AgM ds a n ((d,.pointer (some (ad.add off)))::L)->wpList P ops Q rest a w) :
    wpList P ops Q (⟨some d,.fieldAddr t x f,ty,pos,after,none⟩::rest) a w:=
  z2c h U hn (by simp[execOp,h.eval D,hf ad w]) q
theorem fad {ad:Addr}{f off:Nat}(D:ev L x=some (.pointer (some ad)))(hf:z1c P t f off)(q:WL P ops Q rest n ds w ((d,.pointer (some (ad.add off)))::L))(hn:Nat.blt d n=true:=by exact U):WL P ops Q (⟨some d,.fieldAddr t x f,ty,pos,after,none⟩::rest) n ds w L:=λa h=>y2k h D hf hn q
theorem x2t {ad:Addr}(h:AgM ds a n L)(D:ev L x=some (.pointer (some ad)))(hn:Nat.blt d n=true)(q:∀a,AgM ds a n ((d,.pointer (some ad))::L)->wpList P ops Q rest a w) :
    wpList P ops Q (⟨some d,.nilCheck x,ty,pos,after,none⟩::rest) a w:=
  z2c h U hn (by simp[execOp,h.eval D]) q
theorem nlc {ad:Addr}(D:ev L x=some (.pointer (some ad)))(q:WL P ops Q rest n ds w ((d,.pointer (some ad))::L))(hn:Nat.blt d n=true:=by exact U):WL P ops Q (⟨some d,.nilCheck x,ty,pos,after,none⟩::rest) n ds w L:=λa h=>x2t h D hn q
theorem x4u {g o:Nat}{cs:List Value}(h:AgM ds a n L)(hx:ev L x=some (.pointer (some ⟨g,o,none⟩)))(hy:ev L y=some v)(hb:Blk w g T cs)(Z:Nat.blt o cs.length=true)(h1:v.oneCell'=true)(O:v.cells=#[v])(hs:z1t P t 1)
    (q:∀w',Blk w' g T (cs.set o v)->Fr [g] w w'->w'.heap.size=w.heap.size->∀a,AgM ds a n L->wpList P ops Q rest a w'):wpList P ops Q (⟨none,.store t x y,ty,pos,after,none⟩::rest) a w:=by
  have M:o<cs.length:=by simpa[Nat.blt_eq] using Z
  have D:w.cell? ⟨g,o,none⟩=some cs[o]:=by rw[hb.cell,List.getElem?_eq_getElem M]
  have I:w.frozen? ⟨g,o,none⟩=false:=frozen_of_row w g o cs.toArray T hb
  refine z8o h U U (w':=w.setCell ⟨g,o,none⟩ v) ?_ (q _ ?_ (Fr.setCell w ⟨g,o,none⟩ v) sp0)
  · simp[execOp,h.eval hx,h.eval hy,Instr.storeAt,Instr.sureAddr,storeVar,hs w,O,storeCells,Addr.add_zero',run_store P w _ v _ h1,D,I]
  · unfold Blk
    rw[heap_setCell_same w g o cs.toArray T v hb]
    simp
theorem y4s {cs:List Value}(h:AgM ds a n L)(I:ev L x=some v)(D:v.cells=cs.toArray)(hn:Nat.blt d n=true)
    (q:∀w',Blk w' w.heap.size T cs->Fr [] w w'->w'.heap.size=w.heap.size+1->∀a,AgM ds a n ((d,.pointer (some ⟨w.heap.size,0,none⟩))::L)->wpList P ops Q rest a w') :
    wpList P ops Q (⟨some d,.box T x,ty,pos,after,none⟩::rest) a w:=
  z2c h U hn (w':=w.alloc (.cells cs.toArray T)) (by simp[execOp,h.eval I,Instr.box,newVar,newRow,D]) (q _ (heap_alloc_new w _) (Fr.alloc [] w _) sp0)
theorem j3o {cs:List Value}(I:ev L x=some v)(D:v.cells=cs.toArray)(hn:Nat.blt d n=true)(q:∀w',Blk w' w.heap.size T cs->Fr [] w w'->w'.heap.size=w.heap.size+1->WL P ops Q rest n ds w' ((d,.pointer (some ⟨w.heap.size,0,none⟩))::L)):WL P ops Q (⟨some d,.box T x,ty,pos,after,none⟩::rest) n ds w L:=λa h=>y4s h I D hn q
theorem z0u {cs:List Value}(h:AgM ds a n L)(I:∀w:World,(zeroValue T).run P w=.ok v w)(D:v.cells=cs.toArray)(q:∀w',Blk w' w.heap.size T cs->Fr [] w w'->w'.heap.size=w.heap.size+1->∀a,AgM ds a n ((d,.pointer (some ⟨w.heap.size,0,none⟩))::L)->wpList P ops Q rest a w')(hn:Nat.blt d n=true:=by exact U) :
    wpList P ops Q (⟨some d,.alloc T,ty,pos,after,none⟩::rest) a w:=
  z2c h U hn (w':=w.alloc (.cells cs.toArray T)) (by simp[execOp,Instr.alloc,I w,newVar,newRow,D]) (q _ (heap_alloc_new w _) (Fr.alloc [] w _) sp0)
theorem u1q {cs:List Value}(I:∀w:World,(zeroValue T).run P w=.ok v w)(D:v.cells=cs.toArray)(hn:Nat.blt d n=true)(q:∀w',Blk w' w.heap.size T cs->Fr [] w w'->w'.heap.size=w.heap.size+1->WL P ops Q rest n ds w' ((d,.pointer (some ⟨w.heap.size,0,none⟩))::L)):WL P ops Q (⟨some d,.alloc T,ty,pos,after,none⟩::rest) n ds w L:=λa h=>z0u h I D q (hn:=hn)
theorem x7g {vs:Array Value}{m:Nat}(h:AgM ds a n L)(I:ev L x=some (.tuple vs))(D:vs[m]?=some v)(hn:Nat.blt d n=true)(q:∀a,AgM ds a n ((d,v)::L)->wpList P ops Q rest a w) :
    wpList P ops Q (⟨some d,.extract x m,ty,pos,after,none⟩::rest) a w:=
  z2c h U hn (by simp[execOp,h.eval I,Instr.extract,D]) q
theorem xt {vs:Array Value}{m:Nat}(H0:(ev L x,vs[m]?)=(some (.tuple vs),some v))(q:WL P ops Q rest n ds w ((d,v)::L))(hn:Nat.blt d n=true:=by exact U):WL P ops Q (⟨some d,.extract x m,ty,pos,after,none⟩::rest) n ds w L:=let⟨I,D⟩:=qi2 H0;λa h=>x7g h I D hn q
theorem x4k {f:Nat}(h:AgM ds a n L)(I:ev L x=some v)(D:∀w:World,(Instr.field t v f).run P w=.ok u w)(hn:Nat.blt d n=true)(q:∀a,AgM ds a n ((d,u)::L)->wpList P ops Q rest a w) :
    wpList P ops Q (⟨some d,.field t x f,ty,pos,after,none⟩::rest) a w:=
  z2c h U hn (by simp[execOp,h.eval I,D w]) q
theorem z0n {f:FuncId}{xs:List Operand}{vs:List Value}{ts:Array TypeId}{Φ:Value->World->Prop}(h:AgM ds a n L)(I:evs L xs vs)(hf:CallOf P f)(D:Rets P f vs.toArray w Φ)(q:∀v w',Φ v w'->∀a,AgM ds a n ((d,v)::L)->wpList P ops Q rest a w')(hn:Nat.blt d n=true:=by exact U):wpList P ops Q (⟨some d,.call ⟨.value (.func f),xs.toArray,ts⟩,ty,pos,after,none⟩::rest) a w:=
  x5m (w':=w) h U U hn (by
    rw[execOp_call_go]
    simp only[List.map_toArray,h.evals I,List.append_toArray,List.nil_append,List.append_nil]
    exact hf _ _) D q
theorem cl {f:FuncId}{xs:List Operand}{vs:List Value}{ts:Array TypeId}{Φ:Value->World->Prop}(I:evs L xs vs)(hf:CallOf P f)(D:Rets P f vs.toArray w Φ)(hn:Nat.blt d n=true)(q:∀v w',Φ v w'->WL P ops Q rest n ds w' ((d,v)::L)):WL P ops Q (⟨some d,.call ⟨.value (.func f),xs.toArray,ts⟩,ty,pos,after,none⟩::rest) n ds w L:=λa h=>z0n h I hf D q (hn:=hn)
theorem z7i {α:Type}{E:Enc α}{ys zs:List α}{D base:Nat}(h:AgM ds a n L)(hx:ev L x=some u)(hy:ev L y=some v)(ho:Own E T base w u ys)(hs:Sl E w v zs)(O:ElemOf P t T E D)(hn:Nat.blt d n=true)(q:∀I w',Own E T base w' I (ys++zs)->Fr (z0v u) w w'->(I=u\/z0v I=z0v u\/z0v I=[w.heap.size])->∀a,AgM ds a n ((d,I)::L)->wpList P ops Q rest a w')(hM:ys.length+zs.length<=maxLen:=by unfold maxLen;simp only[List.length_cons,List.length_nil];omega)(hb:(ys.length+zs.length)*D<=140737488355328:=by simp only[List.length_cons,List.length_nil];omega)(hbase:base<=w.heap.size:=by omega) :
    wpList P ops Q (⟨some d,.call ⟨.builtin .append,#[x,y],#[t,t]⟩,ty,pos,after,none⟩::rest) a w:=by
  obtain⟨M,zv,Z,h2,h3,h4,h5⟩:=O.info
  obtain⟨I,w',hr,r1,r2,r3⟩:=x7x (P:=P) t ty M zv D O.und Z h2 h3 h4 h5 ho hs hM hb hbase
  refine z2c h U hn (w':=w') ?_ (q I w' r1 r2 r3)
  rw[z2h];unfold builtin
  simp only[List.map_toArray,List.map_cons,List.map_nil,h.eval hx,h.eval hy,Sem.run_bind,hr,Result.andThen_ok,Sem.run_pure]
theorem z1z {α:Type}{E:Enc α}{ys zs:List α}{D base:Nat}(H0:(ev L x,ev L y)=(some u,some v))(O:Own E T base w u ys)(Z:Sl E w v zs)(M:ElemOf P t T E D)(q:∀I w',Own E T base w' I (ys++zs)->Fr (z0v u) w w'->(I=u\/z0v I=z0v u\/z0v I=[w.heap.size])->WL P ops Q rest n ds w' ((d,I)::L))(hM:ys.length+zs.length<=maxLen:=by unfold maxLen;simp only[List.length_cons,List.length_nil];omega)(hb:(ys.length+zs.length)*D<=140737488355328:=by simp only[List.length_cons,List.length_nil];omega)(hbase:base<=w.heap.size:=by omega)(hn:Nat.blt d n=true:=by exact U):WL P ops Q (⟨some d,.call ⟨.builtin .append,#[x,y],#[t,t]⟩,ty,pos,after,none⟩::rest) n ds w L:=let⟨hx,hy⟩:=qi2 H0;λa h=>z7i h hx hy O Z M hn q (hM:=hM) (hb:=hb) (hbase:=hbase)
theorem Sub.nil:Sub [] L:=trivial
theorem Sub.cons {t:Nat}{v:Value}{r:List (Nat×Value)}(h:Lw.look L t=some v)(D:Sub r L):Sub ((t,v)::r) L:=⟨h,D⟩
theorem argsOk.nil {args:Array Value}:argsOk args []:=trivial
theorem argsOk.cons {args:Array Value}{t:Nat}{v:Value}{r:List (Nat×Value)}(h:args[t]?=some v)(D:argsOk args r):argsOk args ((t,v)::r):=⟨h,D⟩
theorem z0g:evs L [] []:=trivial
theorem z0a {xs:List Operand}{vs:List Value}(h:ev L x=some v)(D:evs L xs vs):evs L (x::xs) (v::vs):=⟨h,D⟩
theorem AgM.known {D:Nat}{b M:Bool}(h:AgM ds a n L)(hb:look L D=some (.bool b))(e:b=M):AgM ds a n ((D,.bool M)::L):=
 ⟨h.dfr,h.size,λt v I=>by
  simp only[look]at I
  by_cases et:D=t
  ·subst et
   simp only[Nat.beq_refl,Bool.cond_true,Option.some.injEq]at I
   rw[<-I,<-e];exact h.at_ D _ hb
  rw[y7b et]at I;exact h.at_ t v I⟩
theorem z6z {D:Nat}{p G:Prop}{hp:Decidable p}(h:AgM ds a n L)(hb:look L D=some (.bool (decide p)))(I:p->AgM ds a n ((D,.bool true)::L)->G)(hf:¬p->AgM ds a n ((D,.bool false)::L)->G):G:=by
 by_cases e:p;exact I e (h.known hb (by simp[e]));exact hf e (h.known hb (by simp[e]))
theorem z6d {D:Nat}{p G:Prop}{hp:Decidable p}(h:AgM ds a n L)(hb:look L D=some (.bool (!decide p)))(I:¬p->AgM ds a n ((D,.bool true)::L)->G)(hf:p->AgM ds a n ((D,.bool false)::L)->G):G:=by
 by_cases e:p;exact hf e (h.known hb (by simp[e]));exact I e (h.known hb (by simp[e]))
theorem x0o {D:Nat}{b:Bool}{G:Prop}(h:AgM ds a n L)(hb:look L D=some (.bool b))(I:b=true->AgM ds a n ((D,.bool true)::L)->G)(hf:b=false->AgM ds a n ((D,.bool false)::L)->G):G:=by
 cases b;exact hf U (h.known hb U);exact I U (h.known hb U)
def y7k (ds:List Nat)(n r:Nat)(C:Prop)[Decidable C](L':List (Nat×Value))(w0:World):Exit->Act->World->Prop:=λe a w=>e=.normal/\w=w0/\AgM ds a n ((r,.bool (decide C))::L')
theorem x2o {id:Nat}{D:List Oper}{r:Nat}{L':List (Nat×Value)}(C:Prop)[Decidable C](h:AgM ds a n L)(M:Sub L' L)(h1:wpList P D.toArray (y7k ds n r C L' w) D a w)(I:∀a,AgM ds a n ((r,.bool (decide C))::L')->Q .normal a w) :
    (Code.region id D.toArray false).wp P Q a w:=
  wp_mono (wp_region_lit h1) (by rintro e a w ⟨rfl,rfl,h⟩;exact I a h)
theorem x4e {r:Nat}{L':List (Nat×Value)}{C:Prop}[Decidable C]{b:Bool}(h:AgM ds a n L)(D:look L r=some (.bool b))(hb:b=decide C)(I:Sub L' L):y7k ds n r C L' w .normal a w:=
 ⟨rfl,rfl,h.sub ⟨by rw[<-hb];exact D,I⟩⟩
theorem bt {C:Prop}{hC:Decidable C}(h:C):true=decide C:=(decide_eq_true h).symm
theorem bf {C:Prop}{hC:Decidable C}(h:¬C):false=decide C:=(decide_eq_false h).symm
theorem bi {p C:Prop}{hp:Decidable p}{hC:Decidable C}(h:p↔C):decide p=decide C:=decide_eq_decide.2 h
theorem bb {C:Prop}{hC:Decidable C}{b:Bool}(h:b=true↔C):b=decide C:=by
 cases b;exact bf (λc=>by have:=h.2 c;cases this);exact bt (h.1 U)
theorem bn {p C:Prop}{hp:Decidable p}{hC:Decidable C}(h:¬p↔C):(!decide p)=decide C:=by
 by_cases e:p<;>simp[e]at h ⊢<;>exact h
end
end Go.Lw
namespace Go.Lw
abbrev Lk (L:List (Nat×Value))(t:Nat)(v:Value):Prop:=Lw.look L t=some v
section
variable {L r:List (Nat×Value)} {A:Array Value} {t0:Nat} {v0:Value} {t1:Nat} {v1:Value} {t2:Nat} {v2:Value} {t3:Nat} {v3:Value} {t4:Nat} {v4:Value} {t5:Nat} {v5:Value} {t6:Nat} {v6:Value} {t7:Nat} {v7:Value} {S S1 S2 S3 S4 S5 S6:List Nat} {a w0 w1 w2 w3 w4 w5 w6:World}
theorem argsOk.c2 (D:A[t0]?=some v0)(h1:A[t1]?=some v1):argsOk A [(t0,v0),(t1,v1)]:=⟨D,h1,trivial⟩
theorem Sub.c2 (D:Lk L t0 v0)(h1:Lk L t1 v1):Sub [(t0,v0),(t1,v1)] L:=⟨D,h1,trivial⟩
theorem argsOk.c3 (D:A[t0]?=some v0)(h1:A[t1]?=some v1)(I:A[t2]?=some v2):argsOk A [(t0,v0),(t1,v1),(t2,v2)]:=⟨D,h1,I,trivial⟩
theorem Sub.c3 (D:Lk L t0 v0)(h1:Lk L t1 v1)(I:Lk L t2 v2):Sub [(t0,v0),(t1,v1),(t2,v2)] L:=⟨D,h1,I,trivial⟩
theorem argsOk.c4 (D:A[t0]?=some v0)(h1:A[t1]?=some v1)(I:A[t2]?=some v2)(M:A[t3]?=some v3):argsOk A [(t0,v0),(t1,v1),(t2,v2),(t3,v3)]:=⟨D,h1,I,M,trivial⟩
theorem Sub.c4 (D:Lk L t0 v0)(h1:Lk L t1 v1)(I:Lk L t2 v2)(M:Lk L t3 v3):Sub [(t0,v0),(t1,v1),(t2,v2),(t3,v3)] L:=⟨D,h1,I,M,trivial⟩
theorem argsOk.c5 (D:A[t0]?=some v0)(h1:A[t1]?=some v1)(I:A[t2]?=some v2)(M:A[t3]?=some v3)(O:A[t4]?=some v4):argsOk A [(t0,v0),(t1,v1),(t2,v2),(t3,v3),(t4,v4)]:=⟨D,h1,I,M,O,trivial⟩
theorem Sub.c5 (D:Lk L t0 v0)(h1:Lk L t1 v1)(I:Lk L t2 v2)(M:Lk L t3 v3)(O:Lk L t4 v4):Sub [(t0,v0),(t1,v1),(t2,v2),(t3,v3),(t4,v4)] L:=⟨D,h1,I,M,O,trivial⟩
theorem argsOk.c6 (D:A[t0]?=some v0)(h1:A[t1]?=some v1)(I:A[t2]?=some v2)(M:A[t3]?=some v3)(O:A[t4]?=some v4)(Z:A[t5]?=some v5):argsOk A [(t0,v0),(t1,v1),(t2,v2),(t3,v3),(t4,v4),(t5,v5)]:=⟨D,h1,I,M,O,Z,trivial⟩
theorem Sub.c6 (D:Lk L t0 v0)(h1:Lk L t1 v1)(I:Lk L t2 v2)(M:Lk L t3 v3)(O:Lk L t4 v4)(Z:Lk L t5 v5):Sub [(t0,v0),(t1,v1),(t2,v2),(t3,v3),(t4,v4),(t5,v5)] L:=⟨D,h1,I,M,O,Z,trivial⟩
theorem Sub.c7 (D:Lk L t0 v0)(h1:Lk L t1 v1)(I:Lk L t2 v2)(M:Lk L t3 v3)(O:Lk L t4 v4)(Z:Lk L t5 v5)(h6:Lk L t6 v6):Sub [(t0,v0),(t1,v1),(t2,v2),(t3,v3),(t4,v4),(t5,v5),(t6,v6)] L:=⟨D,h1,I,M,O,Z,h6,trivial⟩
theorem Sub.c8 (D:Lk L t0 v0)(h1:Lk L t1 v1)(I:Lk L t2 v2)(M:Lk L t3 v3)(O:Lk L t4 v4)(Z:Lk L t5 v5)(h6:Lk L t6 v6)(h7:Lk L t7 v7):Sub [(t0,v0),(t1,v1),(t2,v2),(t3,v3),(t4,v4),(t5,v5),(t6,v6),(t7,v7)] L:=⟨D,h1,I,M,O,Z,h6,h7,trivial⟩
theorem Sub.d8 (D:Lk L t0 v0)(h1:Lk L t1 v1)(I:Lk L t2 v2)(M:Lk L t3 v3)(O:Lk L t4 v4)(Z:Lk L t5 v5)(h6:Lk L t6 v6)(h7:Lk L t7 v7)(hr:Sub r L):Sub ((t0,v0)::(t1,v1)::(t2,v2)::(t3,v3)::(t4,v4)::(t5,v5)::(t6,v6)::(t7,v7)::r) L:=⟨D,h1,I,M,O,Z,h6,h7,hr⟩
theorem Fr.n1 (h:Fr S a w0)(D:Fr [] w0 w1):Fr S a w1:=(h.next D)
theorem Fr.z1 (h:Fr S a w0)(D:Fr S1 w0 w1)(h1:∀k∈S1,k<a.heap.size->k∈S:=by simp<;>omega):Fr S a w1:=(h.step D h1)
theorem Fr.n2 (h:Fr S a w0)(D:Fr [] w0 w1)(I:Fr [] w1 w2):Fr S a w2:=((h.next D).next I)
theorem Fr.z2 (h:Fr S a w0)(I:Fr S1 w0 w1)(M:Fr S2 w1 w2)(h1:∀k∈S1,k<a.heap.size->k∈S:=by simp<;>omega)(D:∀k∈S2,k<a.heap.size->k∈S:=by simp<;>omega):Fr S a w2:=((h.step I h1).step M D)
theorem Fr.n3 (h:Fr S a w0)(D:Fr [] w0 w1)(I:Fr [] w1 w2)(M:Fr [] w2 w3):Fr S a w3:=(((h.next D).next I).next M)
theorem Fr.z3 (h:Fr S a w0)(M:Fr S1 w0 w1)(O:Fr S2 w1 w2)(Z:Fr S3 w2 w3)(h1:∀k∈S1,k<a.heap.size->k∈S:=by simp<;>omega)(D:∀k∈S2,k<a.heap.size->k∈S:=by simp<;>omega)(I:∀k∈S3,k<a.heap.size->k∈S:=by simp<;>omega):Fr S a w3:=(((h.step M h1).step O D).step Z I)
theorem Fr.n4 (h:Fr S a w0)(D:Fr [] w0 w1)(I:Fr [] w1 w2)(M:Fr [] w2 w3)(O:Fr [] w3 w4):Fr S a w4:=((((h.next D).next I).next M).next O)
theorem Fr.z4 (h:Fr S a w0)(O:Fr S1 w0 w1)(Z:Fr S2 w1 w2)(q3:Fr S3 w2 w3)(q4:Fr S4 w3 w4)(h1:∀k∈S1,k<a.heap.size->k∈S:=by simp<;>omega)(D:∀k∈S2,k<a.heap.size->k∈S:=by simp<;>omega)(I:∀k∈S3,k<a.heap.size->k∈S:=by simp<;>omega)(M:∀k∈S4,k<a.heap.size->k∈S:=by simp<;>omega):Fr S a w4:=((((h.step O h1).step Z D).step q3 I).step q4 M)
theorem Fr.n5 (h:Fr S a w0)(D:Fr [] w0 w1)(I:Fr [] w1 w2)(M:Fr [] w2 w3)(O:Fr [] w3 w4)(Z:Fr [] w4 w5):Fr S a w5:=(((((h.next D).next I).next M).next O).next Z)
theorem Fr.z5 (h:Fr S a w0)(Z:Fr S1 w0 w1)(q2:Fr S2 w1 w2)(q3:Fr S3 w2 w3)(q4:Fr S4 w3 w4)(q5:Fr S5 w4 w5)(h1:∀k∈S1,k<a.heap.size->k∈S:=by simp<;>omega)(D:∀k∈S2,k<a.heap.size->k∈S:=by simp<;>omega)(I:∀k∈S3,k<a.heap.size->k∈S:=by simp<;>omega)(M:∀k∈S4,k<a.heap.size->k∈S:=by simp<;>omega)(O:∀k∈S5,k<a.heap.size->k∈S:=by simp<;>omega):Fr S a w5:=(((((h.step Z h1).step q2 D).step q3 I).step q4 M).step q5 O)
theorem Fr.n6 (h:Fr S a w0)(D:Fr [] w0 w1)(I:Fr [] w1 w2)(M:Fr [] w2 w3)(O:Fr [] w3 w4)(Z:Fr [] w4 w5)(q6:Fr [] w5 w6):Fr S a w6:=((((((h.next D).next I).next M).next O).next Z).next q6)
theorem Fr.z6 (h:Fr S a w0)(q1:Fr S1 w0 w1)(q2:Fr S2 w1 w2)(q3:Fr S3 w2 w3)(q4:Fr S4 w3 w4)(q5:Fr S5 w4 w5)(q6:Fr S6 w5 w6)(h1:∀k∈S1,k<a.heap.size->k∈S:=by simp<;>omega)(D:∀k∈S2,k<a.heap.size->k∈S:=by simp<;>omega)(I:∀k∈S3,k<a.heap.size->k∈S:=by simp<;>omega)(M:∀k∈S4,k<a.heap.size->k∈S:=by simp<;>omega)(O:∀k∈S5,k<a.heap.size->k∈S:=by simp<;>omega)(Z:∀k∈S6,k<a.heap.size->k∈S:=by simp<;>omega):Fr S a w6:=((((((h.step q1 h1).step q2 D).step q3 I).step q4 M).step q5 O).step q6 Z)
end
theorem z8h {α:Type}{E:Enc α}{T base g:Nat}{w:World}{v:Value}{ys:List α}(h:Own E T base w v ys)(M:g<base\/w.heap.size<=g):∀k∈[g],k∉z0v v:=λk I D=>by rw[List.mem_singleton]at I;have:=h.blk k D;omega
theorem mkC {P:Program}{f:FuncId}{fn:Func}(hf:P.funcs[f]?=some fn)(hn:(fn.name == "runtime.NumGoroutine")=false:=by kernel_rfl)(hb:fn.body.isNone=false:=by kernel_rfl):CallOf P f:=CallOf.mk' hf hn hb
theorem Fr.sp {S S':List Nat}{a b c:World}(h:Fr S a b)(D:Fr S' b c)(I:∀k∈S',k<a.heap.size->k∈S:=by simp<;>omega):Fr S a c:=h.step D I
theorem i6 {z:Int}(h:-9223372036854775808<=z/\z<=9223372036854775807):IntKind.i64.wrap z=z:=IntWalk.i64_in z oo
section
variable {P:Program} {a:Act} {n:Nat} {L:List (Nat×Value)} {ds:List Nat} {w:World} {Q:Exit->Act->World->Prop} {ops:Array Oper} {rest l:List Oper} {o:Oper}
theorem tW (h:AgM ds a n L)(k:WL P ops Q l n ds w L):wpList P ops Q l a w:=k a h
def j3i (ops:Array Oper)(o:Oper)(n:Nat)(L:List (Nat×Value)):Option (Value×Bool):=
 match o.guard with
 | none=>none
 | some (j,want)=>
  match ops[j]? with
  | none=>none
  | some oj=>
   match oj.dst with
   | none=>none
   | some dj=>bif Nat.blt dj n then (look L dj).map (λv=>(v,want)) else none
theorem x9j {v:Value}{D:Bool}(h:j3i ops o n L=some (v,D)):∃j I M,o.guard=some (j,D)/\ops[j]?=some M/\M.dst=some I/\Nat.blt I n=true/\look L I=some v:=by
 unfold j3i at h;split at h;cases h;rename_i j O hg;split at h;cases h;rename_i M hj;split at h;cases h;rename_i I Z;cases hb:Nat.blt I n with
 | false=>rw[hb]at h;cases h
 | true=>
  rw[hb]at h;cases hl:look L I with
  | none=>rw[hl]at h;cases h
  | some u=>rw[hl]at h;cases h;exact⟨j,I,M,hg,hj,Z,hb,hl⟩
theorem kY {b:Bool}(hg:j3i ops o n L=some (.bool b,b))(k:WL P ops Q ({ o with guard:=none }::rest) n ds w L):WL P ops Q (o::rest) n ds w L:=by
 obtain⟨j,dj,oj,D,I,M,O,Z⟩:=x9j hg;exact λa h=>z4d h D I (pi2 M O) (pi2 Z (by cases b<;>rfl)) (k a h)
class Sy (b:Bool) (p q:outParam Prop):Prop where
 t:b=true->p
 f:b=false->q
instance (priority:=100) sy_b (b:Bool):Sy b (b=true) (b=false):=⟨id,id⟩
instance (priority:=1000) sy_d (p:Prop) {hp:Decidable p}:Sy (@decide p hp) p (¬p):=⟨of_decide_eq_true,of_decide_eq_false⟩
instance (priority:=1100) sy_n (p:Prop) {hp:Decidable p}:Sy (!(@decide p hp)) (¬p) p:=⟨λh=>by simpa using h,λh=>by simpa using h⟩
theorem cS {c:Operand}{x y:Code}{b:Bool}{p q:Prop}(h:AgM ds a n L)(D:ev L c=some (.bool b))[s:Sy b p q](I:p->x.wp P Q a w)(hf:q->y.wp P Q a w):(Code.cond c x y).wp P Q a w:=y6t h D (λe=>I (s.t e)) (λe=>hf (s.f e))
theorem gSp {D:Nat}{b:Bool}{p q:Prop}(h:AgM ds a n L)(hb:look L D=some (.bool b))[s:Sy b p q]{G:Prop}(I:p->AgM ds a n ((D,.bool true)::L)->G)(hf:q->AgM ds a n ((D,.bool false)::L)->G):G:=x0o h hb (λe k=>I (s.t e) k) (λe k=>hf (s.f e) k)
end
end Go.Lw
namespace Go.Lw
end Go.Lw
namespace Go.Lw
def Sat (pq:Option Nat)(C:World->Prop)(listed:Array Bool)(w:World):Prop:=
  match pq with
  | none=>C w
  | some p=>listed.getD p true=false->C w
theorem x4m {pq:Option Nat}{C:World->Prop}{listed:Array Bool}{w:World}(h:C w):Sat pq C listed w:=by
 unfold Sat;split;exact h;exact λ_=>h
def z0y (pq:Option Nat)(P:Program)(ops:Array Oper)(Q:Exit->Act->World->Prop)(C:World->Prop):Nat->Array Bool->Act->World->Prop
  | 0,listed,a,w=>Region.ready .any ops listed=[]/\Q .normal a w
  | fu+1,listed,a,w=>(Region.ready .any ops listed=[]->Q .normal a w)/\∀i∈Region.ready .any ops listed,wpOp P ops Q i (λa' w'=>Sat pq C (listed.setIfInBounds i true) w'/\z0y pq P ops Q C fu (listed.setIfInBounds i true) a' w') a w
def v0m (i:Nat):List Oper->List Bool->List Bool
  | [],acc=>acc
  | o::r,acc=>v0m i r (acc++[o.after.any (λe=>Region.binds .any e && (Nat.beq e.on i || acc.getD e.on false))])
def wsB (ops:Array Oper)(i m:Nat):Bool:=(v0m i ops.toList []).getD m false
theorem y6s {D:List Bool}{b:Bool}{m:Nat}(h:D.getD m false=true):(D++[b]).getD m false=true:=by
 rcases Nat.lt_or_ge m D.length with e|e
 simp only[List.getD]at h ⊢;rwa [List.getElem?_append_left e];simp[List.getD,List.getElem?_eq_none e]at h
theorem y9t (i:Nat):∀(r:List Oper) (acc:List Bool) (m:Nat),acc.getD m false=true->(v0m i r acc).getD m false=true
 | [],_,_,h=>h
 | _::r,_,m,h=>y9t i r _ m (y6s h)
theorem x4z (i:Nat):∀(r:List Oper) (acc:List Bool) (m:Nat),(v0m i r acc).getD m false=true->acc.getD m false=true\/∃t o,r[t]?=some o/\m=acc.length+t/\∃e∈o.after,Region.binds .any e=true/\(e.on=i\/(v0m i r acc).getD e.on false=true)
 | [],_,_,h=>.inl h
 | o::r,acc,m,h=>by
  rcases x4z i r _ m h with D|⟨t,o',D,M,e,O,Z,h5⟩
  ·rcases Nat.lt_trichotomy m acc.length with e|e|e
   ·refine .inl ?_
    simp only[List.getD]at D ⊢
    rwa [List.getElem?_append_left e]at D
   ·subst e
    refine .inr ⟨0,o,rfl,rfl,?_⟩
    simp only[List.getD,List.getElem?_append_right (Nat.le_refl _),Nat.sub_self,List.getElem?_cons_zero,Option.getD_some]at D
    obtain⟨e,he,I⟩:=Array.any_eq_true'.1 D
    rw[Bool.and_eq_true,Bool.or_eq_true]at I
    refine⟨e,he,I.1,I.2.imp Nat.eq_of_beq_eq_true λh=>?_⟩
    exact y9t i r _ _ (y6s h)
   exfalso
   simp only[List.getD]at D
   rw[List.getElem?_eq_none so]at D
   cases D
  exact .inr ⟨t+1,o',D,by rw[List.length_append]at M;simp at M;omega,e,O,Z,h5⟩
theorem x8y {ops:Array Oper}{i m:Nat}(h:wsB ops i m=true):∃o,ops[m]?=some o/\∃e∈o.after,Region.binds .any e=true/\(e.on=i\/wsB ops i e.on=true):=by
 rcases x4z i _ _ _ h with h|⟨t,o,I,D,r⟩
 cases h;simp at D;subst D;exact⟨o,by rw[<-Array.getElem?_toList];exact I,r⟩
def Fre (pq:Option Nat)(ops:Array Oper)(listed:Array Bool)(i:Nat):Bool:=
  Region.free .any ops listed i && match pq with
  | none=>true
  | some p=>wsB ops i p && (List.range ops.size).all (λm=>!(wsB ops i m && listed.getD m true))
section
variable {P:Program} {ops:Array Oper} {Q:Exit->Act->World->Prop} {C:World->Prop} {pq:Option Nat}
theorem y6z:∀(fu:Nat) (listed:Array Bool) (a:Act) (w:World),z0y pq P ops Q C fu listed a w->wpAny P .any ops Q fu listed a w
 | 0,_,_,_,h=>h
 | fu+1,_,_,_,h=>⟨h.1,λi I=>wpOp_mono (λD w' k=>y6z fu _ D w' k.2) (h.2 i I)⟩
theorem u1t {i:Nat}{oi:Oper}{v:Value}(hi:ops[i]?=some oi)(hsel:∀(j:Nat) (o:Oper) cs b,ops[j]?=some o->o.op≠.select cs b)(hQ:∀c a w,Q (.panic c) (a.put oi.dst v) w->Q (.panic c) a w)(b4:∀p,pq=some p->wsB ops i p=true) :
    ∀(fu:Nat) (listed:Array Bool) (a:Act) (w:World),(∀j oj,ops[j]?=some oj->j≠i->listed.getD j true=false->(∀e∈oj.after,Region.binds .any e=true->e.on≠i)->oi.apart ops oj=true)->
      i∈Region.ready .any ops listed->(∀p,pq=some p->∀m,wsB ops i m=true->listed.getD m true=false)->YieldsIf P ops C oi v a->C w->z0y pq P ops Q C fu (listed.setIfInBounds i true) (a.put oi.dst v) w->z0y pq P ops Q C (fu+1) listed a w:=by
  intro fu
  induction fu with
  | zero=>
    intro listed a w _ hr _ hy hC H
    refine⟨λe=>(by rw[e]at hr;cases hr),λj hj=>?_⟩
    rcases Decidable.em (j=i) with rfl|D
    · exact hy.wpOp hi hC ⟨x4m hC,H⟩
    · exact absurd (ready_mono hj D) (by rw[H.1];simp)
  | succ fu ih=>
    intro listed a w a3 hr hp hy hC H
    refine⟨λe=>(by rw[e]at hr;cases hr),λj hj=>?_⟩
    rcases Decidable.em (j=i) with rfl|D
    · exact hy.wpOp hi hC ⟨x4m hC,H⟩
    obtain⟨a4,oj,M,Z⟩:=mem_ready.1 hj
    have O:∀m,listed.getD m true=false->¬listed.getD m false=true:=λm a6=>by
      rcases Nat.lt_or_ge m listed.size with h|h
      · simp[h]at a6 ⊢;exact a6
      · simp[Array.getElem?_eq_none h]
    have a0:=O i (mem_ready.1 hr).1
    have b3:∀e∈oj.after,Region.binds .any e=true->e.on≠i:=λe he hb a7=>a0 (a7▸Z e he hb)
    have nw:∀p,pq=some p->∀m om,ops[m]?=some om->(∀e∈om.after,Region.binds .any e=true->listed.getD e.on false=true)->¬wsB ops i m=true:=λp e m om hm I hw=>by
      obtain⟨o,ho,e',he,hb,h⟩:=x8y hw
      rw[hm]at ho;cases ho
      rcases h with h|h
      · exact a0 (h▸I e' he hb)
      · exact O _ (hp p e _ h) (I e' he hb)
    have a5:∀p,pq=some p->¬wsB ops i j=true:=λp e=>nw p e j oj M Z
    have a8:∀p,pq=some p->¬wsB ops i i=true:=λp e=>by
      obtain⟨_,o,ho,I⟩:=mem_ready.1 hr
      exact nw p e i o ho I
    have h2:=wpOp_putIf M (a3 j oj M D a4 b3) (λcs b=>hsel i oi cs b hi) (λcs b=>hsel j oj cs b M) hQ hy (H.2 j (ready_mono hj D))
    refine wpOp_mono (λa' w' k=>?_) h2
    have a2:C w':=by
      have hs:=k.2.1
      unfold Sat at hs
      split at hs
      · exact hs
      · rename_i p
        have a1:=b4 p U
        refine hs ?_
        have n1:j≠p:=λe=>a5 p U (by rw[e];exact a1)
        have n2:i≠p:=λe=>a8 p U (by rw(occs:=.pos [2]) [e];exact a1)
        rw[getD_set_ne true n1,getD_set_ne true n2]
        exact hp p U p a1
    refine⟨x4m a2,ih (listed.setIfInBounds j true) a' w' (λm om hm b0 b2 b1=>a3 m om hm b0 ?_ b1) (ready_mono hr (Ne.symm D)) (λp e m hm=>by
      have n1:j≠m:=λe'=>a5 p e (by rw[e'];exact hm)
      rw[getD_set_ne true n1];exact hp p e m hm) k.1 a2 ?_⟩
    · rcases Decidable.em (j=m) with rfl|a9
      · exact a4
      · rwa [getD_set_ne true a9]at b2
    · rw[Array.setIfInBounds_comm _ _ D];exact k.2.2
theorem v3n {i:Nat}{D:Oper}{v:Value}{fu:Nat}{listed:Array Bool}{a:Act}{w:World}(M:ops[i]?=some D)(hs:Region.noSelect ops=true)(hf:Fre pq ops listed i=true)(hr:(Region.ready .any ops listed).contains i=true)
    (hQ:∀c a w,Q (.panic c) (a.put D.dst v) w->Q (.panic c) a w) (hy:YieldsIf P ops C D v a) (hC:C w) (h:z0y pq P ops Q C fu (listed.setIfInBounds i true) (a.put D.dst v) w):z0y pq P ops Q C (fu+1) listed a w:=by
  unfold Fre at hf
  rw[Bool.and_eq_true]at hf
  refine u1t M (Region.noSelect_spec hs) hQ (λp e=>?_) fu listed a w (Region.free_spec M hf.1) (by simpa using hr) (λp e m O=>?_) hy hC h
  · have:=hf.2;subst e;simp only[Bool.and_eq_true]at this;exact this.1
  · have:=hf.2;subst e;simp only[Bool.and_eq_true,List.all_eq_true,List.mem_range]at this
    obtain⟨o,Z,_⟩:=x8y O
    have I:=this.2 m (Array.getElem?_eq_some_iff.1 Z).1
    rw[O]at I;simpa using I
theorem u5o {I:List Nat}{fu:Nat}{listed:Array Bool}{a:Act}{w:World}(M:Region.ready .any ops listed=I)(D:I≠[])
    (h:∀i∈I,wpOp P ops Q i (λO w'=>Sat pq C (listed.setIfInBounds i true) w'/\z0y pq P ops Q C fu (listed.setIfInBounds i true) O w') a w):z0y pq P ops Q C (fu+1) listed a w:=
  ⟨λe=>absurd (M.symm.trans e) D,λi Z=>h i (M▸Z)⟩
theorem u7e {listed:Array Bool}{a:Act}{w:World}(D:Region.ready .any ops listed=[])(h:Q .normal a w):∀fu,z0y pq P ops Q C fu listed a w
 | 0=>⟨D,h⟩
 | _+1=>⟨λ_=>h,by rw[D];intro i I;cases I⟩
end
end Go.Lw
namespace Go.Lw
open Go.RowKit
section
variable {P:Program} {a:Act} {n:Nat} {L:List (Nat×Value)} {ds:List Nat} {C:World->Prop} {Qa:Act->Prop} {ops:Array Oper} {rest:List Oper} {o:Oper}
theorem y1z {d:Nat}{v:Value}(h:AgM ds a n L)(H1:(o.guard,o.dst)=(none,some d))(hn:Nat.blt d n=true)(M:∀w,C w->(execOp a.eval o).run P w=.ok (.value v) w)
    (k:∀a,AgM ds a n ((d,v)::L)->wpQuiet P ops C Qa rest a):wpQuiet P ops C Qa (o::rest) a:=by
  obtain⟨I,D⟩:=qi2 H1
  unfold wpQuiet
  rw[if_pos (by simp[Region.wanted,I])]
  refine⟨v,λw O=>?_,?_⟩
  · unfold Oper.quietAt;rw[M w O];exact⟨rfl,rfl⟩
  · rw[D];exact k _ (h.put hn v)
theorem z1r {d j I:Nat}{Z:Oper}{D b:Bool}(h:AgM ds a n L)(hg:o.guard=some (j,D))(hj:ops[j]?=some Z)(H3:(Z.dst,Nat.blt I n)=(some I,true))
    (H5:(look L I,(b == D),o.dst,Nat.blt d n)=(some (.bool b),false,some d,true))
    (k:∀a,AgM ds a n ((d,undef)::L)->wpQuiet P ops C Qa rest a):wpQuiet P ops C Qa (o::rest) a:=by
  obtain⟨M,O⟩:=qi2 H3;obtain⟨hb,hne,hd,hn⟩:=qi4 H5
  have hy:=z6c (ops:=ops) h hj M O hb
  unfold wpQuiet
  rw[if_neg (by simp only[Region.wanted,hg,hy];simpa using hne),hd]
  exact k _ (h.put hn undef)
theorem z2i {j I:Nat}{Z:Oper}{D b:Bool}(h:AgM ds a n L)(hg:o.guard=some (j,D))(hj:ops[j]?=some Z)(H3:(Z.dst,Nat.blt I n)=(some I,true))
    (H5:(look L I,(b == D))=(some (.bool b),true))
    (k:wpQuiet P ops C Qa ({ o with guard:=none }::rest) a):wpQuiet P ops C Qa (o::rest) a:=by
  obtain⟨M,O⟩:=qi2 H3;obtain⟨hb,he⟩:=qi2 H5
  have hy:=z6c (ops:=ops) h hj M O hb
  unfold wpQuiet at k ⊢
  rw[if_pos (by simp[Region.wanted])]at k
  rw[if_pos (by simp only[Region.wanted,hg,hy];simpa using he)]
  exact k
theorem y2l {id:Nat}{Q:Exit->Act->World->Prop}{w:World}{l:List Oper}(M:P.follows .mixedOrders=true)(I:Region.lexB .any l.toArray=true)
    (h:wpQuiet P l.toArray (λw'=>Fr [] w w') (λD=>∀w',Fr [] w w'->Q .normal D w') l a):(Code.region id l.toArray true).wp P Q a w:=
  wp_region_quiet (C:=λw'=>Fr [] w w') M I (Fr.drew [] w) (by simpa using h)
def z0s (K:Act->World->Prop):Exit->Act->World->Prop
  | .normal,a,w=>K a w
  | _,_,_=>False
theorem z0h (pq:Option Nat){id:Nat}{Q:Exit->Act->World->Prop}{w:World}{l:List Oper}(C:World->World->Prop)(I:P.follows .mixedOrders=true)
    (h:∀w',Fr [] w w'->z0y pq P l.toArray (z0s (Q .normal)) (C w') l.length (Array.replicate l.length false) a w'):(Code.region id l.toArray true).wp P Q a w:=by
  refine wp_mono (wp_region_any (Q:=z0s (Q .normal)) I (y6z (C:=C w.drew) _ _ _ _ (by simpa using h _ (Fr.drew [] w)))) ?_
  intro e a w D
  cases e<;>first|exact D|exact D.elim
theorem z2z {id:Nat}{Q:Exit->Act->World->Prop}{w:World}{l:List Oper}(C:World->World->Prop)(D:P.follows .mixedOrders=true)
 (h:∀w',Fr [] w w'->z0y none P l.toArray (z0s (Q .normal)) (C w') l.length (Array.replicate l.length false) a w'):(Code.region id l.toArray true).wp P Q a w:=z0h none C D h
section
variable {K:Act->World->Prop} {fu:Nat} {listed:Array Bool} {pq:Option Nat} {w:World}
def Wd (ops:Array Oper)(n:Nat)(L:List (Nat×Value))(G:Option (Nat×Bool)):Prop:=∀a ds,AgM ds a n L->∀o:Oper,o.guard=G->Region.wanted o (yielded ops a.tmps)=true
theorem wn:Wd ops n L none:=λ_ _ _ o D=>by simp[Region.wanted,D]
theorem z6l (D:Nat)(hsel:Region.noSelect ops=true)(hfr:Fre pq ops listed D=true)(hre:(Region.ready .any ops listed).contains D=true){d:Nat}{v:Value}(h:AgM ds a n L)(hG:Wd ops n L o.guard)(I:ops[D]?=some o)(M:o.dst=some d)(hn:Nat.blt d n=true)(O:∀w,C w->(execOp a.eval o).run P w=.ok (.value v) w)(k:∀a,AgM ds a n ((d,v)::L)->z0y pq P ops (z0s K) C fu (listed.setIfInBounds D true) a w)(hC:C w:=by exact hC):z0y pq P ops (z0s K) C (fu+1) listed a w:=
  v3n I hsel hfr hre (λ_ _ _ h=>h) (.inl ⟨hG a ds h o U,O⟩) hC (by rw[M];exact k _ (h.put hn v))
theorem z0d (I:Nat)(M:ops[I]?=some o)(k:wpList P ops (z0s λa' w'=>Sat pq C (listed.setIfInBounds I true) w'/\z0y pq P ops (z0s K) C fu (listed.setIfInBounds I true) a' w') [o] a w)(hr:Region.ready .any ops listed=[I]:=by kernel_rfl) :
    z0y pq P ops (z0s K) C (fu+1) listed a w:=by
  refine u5o hr sp0 λi Z=>?_
  simp at Z;subst Z
  unfold wpOp
  rw[M]
  unfold wpList at k
  simp only
  split
  · rename_i O
    rw[if_pos O]at k
    rcases k with k|⟨_,_,_,k⟩
    · refine .inl (Oper.wp_mono (λa w h=>h) ?_)
      unfold Oper.wp at k ⊢
      generalize (execOp a.eval o).run P w=r at k ⊢
      cases r with
      | ok nx w'=>
        cases nx<;>simp only[Oper.upon]at k ⊢<;>first
          | exact k
          | exact Calls.mono k (λe a0 D=>by cases e<;>first|exact D|exact D.elim|(obtain⟨_,_,D⟩:=D;exact D.elim))
          | exact Rows.mono k (λ_ _ D=>D)
      | halt x w'=>cases x<;>simp only[Oper.upon]at k ⊢<;>exact k.elim
    · exact k.elim
  · rename_i O
    rw[if_neg O]at k
    exact k
theorem z0r (h:K a w)(D:Region.ready .any ops listed=[]:=by kernel_rfl):z0y pq P ops (z0s K) C fu listed a w:=u7e D h fu
theorem z0b {W:Act->World->Prop}(h:W a w)(hC:C w:=by exact hC):wpList P ops (z0s λD w'=>Sat pq C listed w'/\W D w') [] a w:=⟨x4m hC,h⟩
theorem z1n {W:Act->World->Prop}{p:Nat}(h:W a w)(hp:listed.getD p true=true:=by kernel_rfl):wpList P ops (z0s λD w'=>Sat (some p) C listed w'/\W D w') [] a w:=⟨λe=>absurd (hp.symm.trans e) sp0,h⟩
end
variable {d:Nat} {ty:TypeId} {pos:String} {after:Array Edge} {v u:Value} {x y z:Operand} {t t' T:TypeId} {k k':IntKind} {i j:Int} {b c:Bool} {l l':List UInt8} {A:Option Addr} {m cp:Nat} {G:Option (Nat×Bool)}
theorem z3y (h:AgM ds a n L)(H1:(ev L x,Nat.blt d n)=(some v,true))(q:∀a,AgM ds a n ((d,v)::L)->wpQuiet P ops C Qa rest a) :
    wpQuiet P ops C Qa (⟨some d,.move x,ty,pos,after,none⟩::rest) a:=let⟨D,hn⟩:=qi2 H1;
  y1z h U hn (λw _hw=>by simp[execOp,h.eval D]) q
theorem z5o (h:AgM ds a n L)(D:ev L x=some v)(hn:Nat.blt d n=true)(q:∀a,AgM ds a n ((d,v)::L)->wpQuiet P ops C Qa rest a) :
    wpQuiet P ops C Qa (⟨some d,.assign x,ty,pos,after,none⟩::rest) a:=
  y1z h U hn (λw _hw=>by simp[execOp,h.eval D]) q
theorem z7b {z:Value}{D O:Operand}(h:AgM ds a n L)(H1:(ev L x,b,ev L D,Nat.blt d n)=(some (.bool b),true,some z,true))(q:∀a,AgM ds a n ((d,z)::L)->wpQuiet P ops C Qa rest a) :
    wpQuiet P ops C Qa (⟨some d,.pick x D O,ty,pos,after,none⟩::rest) a:=let⟨M,hb,I,hn⟩:=qi4 H1;
  y1z h U hn (λw _hw=>by subst hb;simp[execOp,h.eval M,asBool,h.eval I]) q
theorem z3m {z:Value}{O D:Operand}(h:AgM ds a n L)(H1:(ev L x,b,ev L D,Nat.blt d n)=(some (.bool b),false,some z,true))(q:∀a,AgM ds a n ((d,z)::L)->wpQuiet P ops C Qa rest a) :
    wpQuiet P ops C Qa (⟨some d,.pick x O D,ty,pos,after,none⟩::rest) a:=let⟨M,hb,I,hn⟩:=qi4 H1;
  y1z h U hn (λw _hw=>by subst hb;simp[execOp,h.eval M,asBool,h.eval I]) q
theorem v9x {z:Int}(h:AgM ds a n L)(D:ev L x=some (.int k i))(I:ev L y=some (.int k j))(M:k.wrap (i-j)=z)(hn:Nat.blt d n=true)(q:∀a,AgM ds a n ((d,.int k z)::L)->wpQuiet P ops C Qa rest a) :
    wpQuiet P ops C Qa (⟨some d,.binOp .sub t x y t',ty,pos,after,none⟩::rest) a:=
  y1z h U hn (λw _hw=>by subst M;simp[execOp,h.eval D,h.eval I,eqGuard_sub,binOp_sub,Op.intArith]) q
theorem u7s (h:AgM ds a n L)(D:ev L x=some (.int k i))(I:ev L y=some (.int k j))(hn:Nat.blt d n=true)(q:∀a,AgM ds a n ((d,.bool (decide (i<j)))::L)->wpQuiet P ops C Qa rest a) :
    wpQuiet P ops C Qa (⟨some d,.binOp .lss t x y t',ty,pos,after,none⟩::rest) a:=
  y1z h U hn (λw _hw=>by simp[execOp,h.eval D,h.eval I,eqGuard_lss,binOp_lss]) q
theorem u9x (h:AgM ds a n L)(D:ev L x=some (.int k i))(I:ev L y=some (.int k j))(hn:Nat.blt d n=true)(q:∀a,AgM ds a n ((d,.bool (decide (i<=j)))::L)->wpQuiet P ops C Qa rest a) :
    wpQuiet P ops C Qa (⟨some d,.binOp .leq t x y t',ty,pos,after,none⟩::rest) a:=
  y1z h U hn (λw _hw=>by simp[execOp,h.eval D,h.eval I,eqGuard_leq,binOp_leq]) q
theorem v9n (h:AgM ds a n L)(D:ev L x=some (.int k i))(I:ev L y=some (.int k j))(hn:Nat.blt d n=true)(q:∀a,AgM ds a n ((d,.bool (decide (j<=i)))::L)->wpQuiet P ops C Qa rest a) :
    wpQuiet P ops C Qa (⟨some d,.binOp .geq t x y t',ty,pos,after,none⟩::rest) a:=
  y1z h U hn (λw _hw=>by simp[execOp,h.eval D,h.eval I,eqGuard_geq,binOp_geq]) q
theorem v1d {z:Int}(h:AgM ds a n L)(O:ev L x=some (.int k i))(I:(P.underlying t).isSome=true)(D:P.underlying t'=some (.int k'))(Z:k'.wrap i=z)(hn:Nat.blt d n=true)(q:∀a,AgM ds a n ((d,.int k' z)::L)->wpQuiet P ops C Qa rest a) :
    wpQuiet P ops C Qa (⟨some d,.convert t t' x,ty,pos,after,none⟩::rest) a:=
  y1z h U hn (λw _hw=>by
    obtain⟨u,M⟩:=Option.isSome_iff_exists.mp I
    subst Z;simp[execOp,h.eval O,convert,run_underlying M,run_underlying D,Conv.intToInt]) q
theorem y7f (h:AgM ds a n L)(I:ev L x=some (.slice A m cp))(D:P.underlying t=some (.slice T))(hn:Nat.blt d n=true)(q:∀a,AgM ds a n ((d,.int .i64 (m:Int))::L)->wpQuiet P ops C Qa rest a) :
    wpQuiet P ops C Qa (⟨some d,.call ⟨.builtin .len,#[x],#[t]⟩,ty,pos,after,none⟩::rest) a:=
  y1z h U hn (λw _hw=>by
    rw[z2h];unfold builtin
    simp[h.eval I,Builtin.len_,run_underlying D]
    rfl) q
theorem v0e {ad:Addr}(h:AgM ds a n L)(M:ev L x=some (.pointer (some ad)))(D:∀w,C w->w.cell? ad=some v)(I:z1y P t)(hn:Nat.blt d n=true)(q:∀a,AgM ds a n ((d,v)::L)->wpQuiet P ops C Qa rest a) :
    wpQuiet P ops C Qa (⟨some d,.load t x,ty,pos,after,none⟩::rest) a:=
  y1z h U hn (λw _hw=>by simp[execOp,h.eval M,Instr.loadAt,Instr.sureAddr,loadVar,I w,D w _hw]) q
theorem z2s {ad:Addr}{f off:Nat}(h:AgM ds a n L)(D:ev L x=some (.pointer (some ad)))(hf:z1c P t f off)(hn:Nat.blt d n=true)(q:∀a,AgM ds a n ((d,.pointer (some (ad.add off)))::L)->wpQuiet P ops C Qa rest a) :
    wpQuiet P ops C Qa (⟨some d,.fieldAddr t x f,ty,pos,after,none⟩::rest) a:=
  y1z h U hn (λw _hw=>by simp[execOp,h.eval D,hf ad w]) q
section
variable {K:Act->World->Prop} {fu:Nat} {listed:Array Bool} {pq:Option Nat} {w:World}
theorem z0e (D:Nat)(h:AgM ds a n L)(H2:(ops[D]?,ev L x)=(some ⟨some d,.move x,ty,pos,after,G⟩,some v))(q:∀a,AgM ds a n ((d,v)::L)->z0y pq P ops (z0s K) C fu (listed.setIfInBounds D true) a w)(hsel:Region.noSelect ops=true:=by kernel_rfl)(hfr:Fre pq ops listed D=true:=by kernel_rfl)(hre:(Region.ready .any ops listed).contains D=true:=by kernel_rfl)(hC:C w:=by exact hC)(hG:Wd ops n L G:=by exact wn)(hn:Nat.blt d n=true:=by exact U) :
    z0y pq P ops (z0s K) C (fu+1) listed a w:=let⟨I,M⟩:=qi2 H2;
  z6l D hsel hfr hre h hG I U hn (λw _hw=>by simp[execOp,h.eval M]) q
theorem z5n {z:Int}(D:Nat)(h:AgM ds a n L)(H2:(ev L x,ev L y)=(some (.int k i),some (.int k j)))(Z:k.wrap (i+j)=z)(I:ops[D]?=some ⟨some d,.binOp .add t x y t',ty,pos,after,G⟩)(q:∀a,AgM ds a n ((d,.int k z)::L)->z0y pq P ops (z0s K) C fu (listed.setIfInBounds D true) a w)(hsel:Region.noSelect ops=true:=by kernel_rfl)(hfr:Fre pq ops listed D=true:=by kernel_rfl)(hre:(Region.ready .any ops listed).contains D=true:=by kernel_rfl)(hC:C w:=by exact hC)(hG:Wd ops n L G:=by exact wn)(hn:Nat.blt d n=true:=by exact U) :
    z0y pq P ops (z0s K) C (fu+1) listed a w:=let⟨M,O⟩:=qi2 H2;
  z6l D hsel hfr hre h hG I U hn (λw _hw=>by subst Z;simp[execOp,h.eval M,h.eval O,eqGuard_add,binOp_add,Op.intArith]) q
theorem z2v {z:Int}(D:Nat)(h:AgM ds a n L)(H2:(ev L x,ev L y)=(some (.int k i),some (.int k j)))(Z:k.wrap (i-j)=z)(I:ops[D]?=some ⟨some d,.binOp .sub t x y t',ty,pos,after,G⟩)(q:∀a,AgM ds a n ((d,.int k z)::L)->z0y pq P ops (z0s K) C fu (listed.setIfInBounds D true) a w)(hsel:Region.noSelect ops=true:=by kernel_rfl)(hfr:Fre pq ops listed D=true:=by kernel_rfl)(hre:(Region.ready .any ops listed).contains D=true:=by kernel_rfl)(hC:C w:=by exact hC)(hG:Wd ops n L G:=by exact wn)(hn:Nat.blt d n=true:=by exact U) :
    z0y pq P ops (z0s K) C (fu+1) listed a w:=let⟨M,O⟩:=qi2 H2;
  z6l D hsel hfr hre h hG I U hn (λw _hw=>by subst Z;simp[execOp,h.eval M,h.eval O,eqGuard_sub,binOp_sub,Op.intArith]) q
theorem x1u (D:Nat)(hC:C w)(h:AgM ds a n L)(hG:Wd ops n L G)(H4:(ops[D]?,ev L x,ev L y)=(some ⟨some d,.binOp .eql t x y t',ty,pos,after,G⟩,some (.int k i),some (.int k j)))(q:∀a,AgM ds a n ((d,.bool (decide (i=j)))::L)->z0y pq P ops (z0s K) C fu (listed.setIfInBounds D true) a w)(hsel:Region.noSelect ops=true:=by kernel_rfl)(hfr:Fre pq ops listed D=true:=by kernel_rfl)(hre:(Region.ready .any ops listed).contains D=true:=by kernel_rfl)(hn:Nat.blt d n=true:=by exact U) :
    z0y pq P ops (z0s K) C (fu+1) listed a w:=let⟨I,M,O⟩:=qi3 H4;
  z6l D hsel hfr hre h hG I U hn (λw _hw=>by simp[execOp,h.eval M,h.eval O,eqGuard_at_int,binOp_eql,y4p]) q
theorem v9e (D:Nat)(hC:C w)(h:AgM ds a n L)(hG:Wd ops n L G)(M:ev L x=some (.int k i))(O:ev L y=some (.int k j))(I:ops[D]?=some ⟨some d,.binOp .neq t x y t',ty,pos,after,G⟩)(hn:Nat.blt d n=true)(q:∀a,AgM ds a n ((d,.bool (decide (i≠j)))::L)->z0y pq P ops (z0s K) C fu (listed.setIfInBounds D true) a w)(hsel:Region.noSelect ops=true:=by kernel_rfl)(hfr:Fre pq ops listed D=true:=by kernel_rfl)(hre:(Region.ready .any ops listed).contains D=true:=by kernel_rfl) :
    z0y pq P ops (z0s K) C (fu+1) listed a w:=
  z6l D hsel hfr hre h hG I U hn (λw _hw=>by simp[execOp,h.eval M,h.eval O,eqGuard_at_int,binOp_neq,bne,y4p]) q
theorem x7d (D:Nat)(hC:C w)(h:AgM ds a n L)(hG:Wd ops n L G)(H4:(ops[D]?,ev L x,ev L y)=(some ⟨some d,.binOp .lss t x y t',ty,pos,after,G⟩,some (.int k i),some (.int k j)))(hn:Nat.blt d n=true)(q:∀a,AgM ds a n ((d,.bool (decide (i<j)))::L)->z0y pq P ops (z0s K) C fu (listed.setIfInBounds D true) a w)(hsel:Region.noSelect ops=true:=by kernel_rfl)(hfr:Fre pq ops listed D=true:=by kernel_rfl)(hre:(Region.ready .any ops listed).contains D=true:=by kernel_rfl) :
    z0y pq P ops (z0s K) C (fu+1) listed a w:=let⟨I,M,O⟩:=qi3 H4;
  z6l D hsel hfr hre h hG I U hn (λw _hw=>by simp[execOp,h.eval M,h.eval O,eqGuard_lss,binOp_lss]) q
theorem v3q (D:Nat)(hC:C w)(h:AgM ds a n L)(hG:Wd ops n L G)(M:ev L x=some (.int k i))(O:ev L y=some (.int k j))(I:ops[D]?=some ⟨some d,.binOp .gtr t x y t',ty,pos,after,G⟩)(hn:Nat.blt d n=true)(q:∀a,AgM ds a n ((d,.bool (decide (j<i)))::L)->z0y pq P ops (z0s K) C fu (listed.setIfInBounds D true) a w)(hsel:Region.noSelect ops=true:=by kernel_rfl)(hfr:Fre pq ops listed D=true:=by kernel_rfl)(hre:(Region.ready .any ops listed).contains D=true:=by kernel_rfl) :
    z0y pq P ops (z0s K) C (fu+1) listed a w:=
  z6l D hsel hfr hre h hG I U hn (λw _hw=>by simp[execOp,h.eval M,h.eval O,eqGuard_gtr,binOp_gtr]) q
theorem v6d (D:Nat)(hC:C w)(h:AgM ds a n L)(hG:Wd ops n L G)(M:ev L x=some (.int k i))(O:ev L y=some (.int k j))(I:ops[D]?=some ⟨some d,.binOp .geq t x y t',ty,pos,after,G⟩)(hn:Nat.blt d n=true)(q:∀a,AgM ds a n ((d,.bool (decide (j<=i)))::L)->z0y pq P ops (z0s K) C fu (listed.setIfInBounds D true) a w)(hsel:Region.noSelect ops=true:=by kernel_rfl)(hfr:Fre pq ops listed D=true:=by kernel_rfl)(hre:(Region.ready .any ops listed).contains D=true:=by kernel_rfl) :
    z0y pq P ops (z0s K) C (fu+1) listed a w:=
  z6l D hsel hfr hre h hG I U hn (λw _hw=>by simp[execOp,h.eval M,h.eval O,eqGuard_geq,binOp_geq]) q
theorem z9u (D:Nat)(hC:C w)(h:AgM ds a n L)(hG:Wd ops n L G)(M:ev L x=some (.bool b))(I:ops[D]?=some ⟨some d,.unOp .not t x,ty,pos,after,G⟩)(q:∀a,AgM ds a n ((d,.bool (!b))::L)->z0y pq P ops (z0s K) C fu (listed.setIfInBounds D true) a w)(hsel:Region.noSelect ops=true:=by kernel_rfl)(hfr:Fre pq ops listed D=true:=by kernel_rfl)(hre:(Region.ready .any ops listed).contains D=true:=by kernel_rfl)(hn:Nat.blt d n=true:=by exact U) :
    z0y pq P ops (z0s K) C (fu+1) listed a w:=
  z6l D hsel hfr hre h hG I U hn (λw _hw=>by simp[execOp,h.eval M,unary_not]) q
theorem v3o {z:Int}(D:Nat)(hC:C w)(h:AgM ds a n L)(hG:Wd ops n L G)(hx:ev L x=some (.int k i))(O:(P.underlying t).isSome=true)(M:P.underlying t'=some (.int k'))(hz:k'.wrap i=z)(I:ops[D]?=some ⟨some d,.convert t t' x,ty,pos,after,G⟩)(hn:Nat.blt d n=true)(q:∀a,AgM ds a n ((d,.int k' z)::L)->z0y pq P ops (z0s K) C fu (listed.setIfInBounds D true) a w)(hsel:Region.noSelect ops=true:=by kernel_rfl)(hfr:Fre pq ops listed D=true:=by kernel_rfl)(hre:(Region.ready .any ops listed).contains D=true:=by kernel_rfl) :
    z0y pq P ops (z0s K) C (fu+1) listed a w:=
  z6l D hsel hfr hre h hG I U hn (λw _hw=>by
    obtain⟨u,Z⟩:=Option.isSome_iff_exists.mp O
    subst hz;simp[execOp,h.eval hx,convert,run_underlying Z,run_underlying M,Conv.intToInt]) q
theorem u7o {ts:Array TypeId}(D:Nat)(hsel:Region.noSelect ops=true)(hfr:Fre pq ops listed D=true)(hre:(Region.ready .any ops listed).contains D=true)(hC:C w)(h:AgM ds a n L)(hG:Wd ops n L G)(M:ev L x=some (.int k i))(O:ev L y=some (.int k' j))(I:ops[D]?=some ⟨some d,.call ⟨.builtin .min,#[x,y],ts⟩,ty,pos,after,G⟩)(hn:Nat.blt d n=true)(q:∀a,AgM ds a n ((d,.int k (min i j))::L)->z0y pq P ops (z0s K) C fu (listed.setIfInBounds D true) a w) :
    z0y pq P ops (z0s K) C (fu+1) listed a w:=
  z6l D hsel hfr hre h hG I U hn (λw _hw=>by
    rw[z2h];unfold builtin
    simp only[List.map_toArray,List.map_cons,List.map_nil,h.eval M,h.eval O,Sem.run_bind,run_min_int2,Result.andThen_ok,Sem.run_pure]
    congr 3;omega) q
theorem z7s (D:Nat)(hC:C w)(h:AgM ds a n L)(hG:Wd ops n L G)(O:ev L x=some (.slice A m cp))(M:P.underlying t=some (.slice T))(I:ops[D]?=some ⟨some d,.call ⟨.builtin .len,#[x],#[t]⟩,ty,pos,after,G⟩)(q:∀a,AgM ds a n ((d,.int .i64 (m:Int))::L)->z0y pq P ops (z0s K) C fu (listed.setIfInBounds D true) a w)(hsel:Region.noSelect ops=true:=by kernel_rfl)(hfr:Fre pq ops listed D=true:=by kernel_rfl)(hre:(Region.ready .any ops listed).contains D=true:=by kernel_rfl)(hn:Nat.blt d n=true:=by exact U) :
    z0y pq P ops (z0s K) C (fu+1) listed a w:=
  z6l D hsel hfr hre h hG I U hn (λw _hw=>by
    rw[z2h];unfold builtin
    simp[h.eval O,Builtin.len_,run_underlying M]
    rfl) q
theorem y7g {ad:Addr}(D:Nat)(hsel:Region.noSelect ops=true)(hfr:Fre pq ops listed D=true)(hre:(Region.ready .any ops listed).contains D=true)(hC:C w)(h:AgM ds a n L)(hG:Wd ops n L G)(Z:ev L x=some (.pointer (some ad)))(M:∀w,C w->w.cell? ad=some v)(O:z1y P t)(I:ops[D]?=some ⟨some d,.load t x,ty,pos,after,G⟩)(hn:Nat.blt d n=true)(q:∀a,AgM ds a n ((d,v)::L)->z0y pq P ops (z0s K) C fu (listed.setIfInBounds D true) a w) :
    z0y pq P ops (z0s K) C (fu+1) listed a w:=
  z6l D hsel hfr hre h hG I U hn (λw _hw=>by simp[execOp,h.eval Z,Instr.loadAt,Instr.sureAddr,loadVar,O w,M w _hw]) q
theorem z1x {ad:Addr}{cs:List Value}(D:Nat)(h:AgM ds a n L)(hG:Wd ops n L G)(Z:ev L x=some (.pointer (some ad)))(O:∀w,C w->Cells w ad cs)(M:z3p P t cs.length)(I:ops[D]?=some ⟨some d,.load t x,ty,pos,after,G⟩)(q:∀a,AgM ds a n ((d,.agg cs.toArray)::L)->z0y pq P ops (z0s K) C fu (listed.setIfInBounds D true) a w)(hsel:Region.noSelect ops=true:=by kernel_rfl)(hfr:Fre pq ops listed D=true:=by kernel_rfl)(hre:(Region.ready .any ops listed).contains D=true:=by kernel_rfl)(hC:C w:=by exact hC)(hn:Nat.blt d n=true:=by exact U) :
    z0y pq P ops (z0s K) C (fu+1) listed a w:=
  z6l D hsel hfr hre h hG I U hn (λw _hw=>by simp[execOp,h.eval Z,Instr.loadAt,Instr.sureAddr,loadVar,M.1 w,M.2 w,run_loadCells_list w ad cs (O w _hw)]) q
theorem z0c {ad:Addr}{f off:Nat}(D:Nat)(h:AgM ds a n L)(M:ev L x=some (.pointer (some ad)))(hf:z1c P t f off)(I:ops[D]?=some ⟨some d,.fieldAddr t x f,ty,pos,after,G⟩)(q:∀a,AgM ds a n ((d,.pointer (some (ad.add off)))::L)->z0y pq P ops (z0s K) C fu (listed.setIfInBounds D true) a w)(hsel:Region.noSelect ops=true:=by kernel_rfl)(hfr:Fre pq ops listed D=true:=by kernel_rfl)(hre:(Region.ready .any ops listed).contains D=true:=by kernel_rfl)(hC:C w:=by exact hC)(hG:Wd ops n L G:=by exact wn)(hn:Nat.blt d n=true:=by exact U) :
    z0y pq P ops (z0s K) C (fu+1) listed a w:=
  z6l D hsel hfr hre h hG I U hn (λw _hw=>by simp[execOp,h.eval M,hf ad w]) q
theorem z0o {ad:Addr}(D:Nat)(h:AgM ds a n L)(H2:(ops[D]?,ev L x)=(some ⟨some d,.nilCheck x,ty,pos,after,G⟩,some (.pointer (some ad))))(q:∀a,AgM ds a n ((d,.pointer (some ad))::L)->z0y pq P ops (z0s K) C fu (listed.setIfInBounds D true) a w)(hsel:Region.noSelect ops=true:=by kernel_rfl)(hfr:Fre pq ops listed D=true:=by kernel_rfl)(hre:(Region.ready .any ops listed).contains D=true:=by kernel_rfl)(hC:C w:=by exact hC)(hG:Wd ops n L G:=by exact wn)(hn:Nat.blt d n=true:=by exact U) :
    z0y pq P ops (z0s K) C (fu+1) listed a w:=let⟨I,M⟩:=qi2 H2;
  z6l D hsel hfr hre h hG I U hn (λw _hw=>by simp[execOp,h.eval M]) q
theorem z0k {vs:Array Value}{m:Nat}(D:Nat)(h:AgM ds a n L)(H2:(ops[D]?,ev L x,vs[m]?)=(some ⟨some d,.extract x m,ty,pos,after,G⟩,some (.tuple vs),some v))(q:∀a,AgM ds a n ((d,v)::L)->z0y pq P ops (z0s K) C fu (listed.setIfInBounds D true) a w)(hsel:Region.noSelect ops=true:=by kernel_rfl)(hfr:Fre pq ops listed D=true:=by kernel_rfl)(hre:(Region.ready .any ops listed).contains D=true:=by kernel_rfl)(hC:C w:=by exact hC)(hG:Wd ops n L G:=by exact wn)(hn:Nat.blt d n=true:=by exact U) :
    z0y pq P ops (z0s K) C (fu+1) listed a w:=let⟨I,O,M⟩:=qi3 H2;
  z6l D hsel hfr hre h hG I U hn (λw _hw=>by simp[execOp,h.eval O,Instr.extract,M]) q
end
end
end Go.Lw
namespace Go.Lw
open Go.RowKit
def Enc.b:Enc UInt8:=⟨λc=>[.int .u8 (c.toNat:Int)],1,λ_=>rfl,λ_ u h=>by simp at h;subst h;rfl,dd⟩
section
variable {P:Program} {a:Act} {n:Nat} {L:List (Nat×Value)} {ds:List Nat} {w w':World} {Q:Exit->Act->World->Prop} {C:World->Prop} {Qa:Act->Prop} {ops:Array Oper} {rest:List Oper}
variable {d:Nat} {ty:TypeId} {pos:String} {after:Array Edge} {v u:Value} {x y z:Operand} {t t' T:TypeId} {k k':IntKind} {i j:Int} {b c:Bool} {l l':List UInt8} {A:Option Addr} {m cp:Nat} {g off:Nat} {cs:List Value}
theorem Blk.cellAdd (h:Blk w g T cs)(D:cs[off]?=some v):w.cell? ((⟨g,0,none⟩:Addr).add off)=some v:=by rw[z4q,Nat.zero_add,h.cell];exact D
theorem v6j (h:AgM ds a n L)(M:ev L x=some (.pointer (some ((⟨g,0,none⟩:Addr).add off))))(hb:Blk w g T cs)(I:cs[off]?=some v)(D:z1y P t)(hn:Nat.blt d n=true)(q:∀a,AgM ds a n ((d,v)::L)->wpList P ops Q rest a w) :
 wpList P ops Q (⟨some d,.load t x,ty,pos,after,none⟩::rest) a w:=y9g h M (hb.cellAdd I) D hn q
theorem z0i (M:ev L x=some (.pointer (some ((⟨g,0,none⟩:Addr).add off))))(hb:Blk w g T cs)(I:cs[off]?=some v)(D:z1y P t)(q:WL P ops Q rest n ds w ((d,v)::L))(hn:Nat.blt d n=true:=by exact U):WL P ops Q (⟨some d,.load t x,ty,pos,after,none⟩::rest) n ds w L:=λa h=>v6j h M hb I D hn q
theorem z5j (h:AgM ds a n L)(O:ev L x=some (.pointer (some ((⟨g,0,none⟩:Addr).add off))))(hb:∀w,C w->Blk w g T cs)(I:cs[off]?=some v)(D:z1y P t)(hn:Nat.blt d n=true)(q:∀a,AgM ds a n ((d,v)::L)->wpQuiet P ops C Qa rest a) :
 wpQuiet P ops C Qa (⟨some d,.load t x,ty,pos,after,none⟩::rest) a:=v0e h O (λw M=>(hb w M).cellAdd I) D hn q
theorem v0c (h:AgM ds a n L)(I:ev L x=some (.pointer (some ⟨g,0,none⟩)))(hb:Blk w g T [v])(D:z1y P t)(hn:Nat.blt d n=true)(q:∀a,AgM ds a n ((d,v)::L)->wpList P ops Q rest a w) :
 wpList P ops Q (⟨some d,.load t x,ty,pos,after,none⟩::rest) a w:=y9g h I (by rw[hb.cell];rfl) D hn q
theorem z2r (I:ev L x=some (.pointer (some ⟨g,0,none⟩)))(hb:Blk w g T [v])(D:z1y P t)(q:WL P ops Q rest n ds w ((d,v)::L))(hn:Nat.blt d n=true:=by exact U):WL P ops Q (⟨some d,.load t x,ty,pos,after,none⟩::rest) n ds w L:=λa h=>v0c h I hb D hn q
theorem v0n (h:AgM ds a n L)(I:ev L x=some (.pointer (some ⟨g,0,none⟩)))(hb:Blk w g T cs)(D:z3p P t cs.length)(hn:Nat.blt d n=true)(q:∀a,AgM ds a n ((d,.agg cs.toArray)::L)->wpList P ops Q rest a w) :
 wpList P ops Q (⟨some d,.load t x,ty,pos,after,none⟩::rest) a w:=z1p h I hb.cells D hn q
theorem z0m (I:ev L x=some (.pointer (some ⟨g,0,none⟩)))(hb:Blk w g T cs)(D:z3p P t cs.length)(q:WL P ops Q rest n ds w ((d,.agg cs.toArray)::L))(hn:Nat.blt d n=true:=by exact U):WL P ops Q (⟨some d,.load t x,ty,pos,after,none⟩::rest) n ds w L:=λa h=>v0n h I hb D hn q
section
variable {K:Act->World->Prop} {fu:Nat} {listed:Array Bool} {pq:Option Nat}
theorem z0l {G:Option (Nat×Bool)}(D:Nat)(h:AgM ds a n L)(hx:ev L x=some (.pointer (some ((⟨g,0,none⟩:Addr).add off))))(hb:∀w,C w->Blk w g T cs)(O:cs[off]?=some v)(M:z1y P t)(I:ops[D]?=some ⟨some d,.load t x,ty,pos,after,G⟩)(q:∀a,AgM ds a n ((d,v)::L)->z0y pq P ops (z0s K) C fu (listed.setIfInBounds D true) a w)(hsel:Region.noSelect ops=true:=by kernel_rfl)(hfr:Fre pq ops listed D=true:=by kernel_rfl)(hre:(Region.ready .any ops listed).contains D=true:=by kernel_rfl)(hC:C w:=by exact hC)(hG:Wd ops n L G:=by exact wn)(hn:Nat.blt d n=true:=by exact U):z0y pq P ops (z0s K) C (fu+1) listed a w:=
  y7g D hsel hfr hre hC h hG hx (λw Z=>(hb w Z).cellAdd O) M I hn q
theorem z6f {G:Option (Nat×Bool)}(D:Nat)(hC:C w)(h:AgM ds a n L)(hG:Wd ops n L G)(Z:ev L x=some (.pointer (some ⟨g,0,none⟩)))(hb:∀w,C w->Blk w g T [v])(M:z1y P t)(I:ops[D]?=some ⟨some d,.load t x,ty,pos,after,G⟩)(hn:Nat.blt d n=true)(q:∀a,AgM ds a n ((d,v)::L)->z0y pq P ops (z0s K) C fu (listed.setIfInBounds D true) a w)(hsel:Region.noSelect ops=true:=by kernel_rfl)(hfr:Fre pq ops listed D=true:=by kernel_rfl)(hre:(Region.ready .any ops listed).contains D=true:=by kernel_rfl):z0y pq P ops (z0s K) C (fu+1) listed a w:=
  y7g D hsel hfr hre hC h hG Z (λw O=>by rw[(hb w O).cell];rfl) M I hn q
theorem z0w {G:Option (Nat×Bool)}(D:Nat)(h:AgM ds a n L)(Z:ev L x=some (.pointer (some ⟨g,0,none⟩)))(hb:∀w,C w->Blk w g T cs)(M:z3p P t cs.length)(I:ops[D]?=some ⟨some d,.load t x,ty,pos,after,G⟩)(q:∀a,AgM ds a n ((d,.agg cs.toArray)::L)->z0y pq P ops (z0s K) C fu (listed.setIfInBounds D true) a w)(hsel:Region.noSelect ops=true:=by kernel_rfl)(hfr:Fre pq ops listed D=true:=by kernel_rfl)(hre:(Region.ready .any ops listed).contains D=true:=by kernel_rfl)(hC:C w:=by exact hC)(hG:Wd ops n L G:=by exact wn)(hn:Nat.blt d n=true:=by exact U):z0y pq P ops (z0s K) C (fu+1) listed a w:=
  z1x D h hG Z (λw O=>(hb w O).cells) M I q (hsel:=hsel) (hfr:=hfr) (hre:=hre) (hn:=hn)
end
theorem x0i {ad:Addr}(h:AgM ds a n L)(O:ev L x=some (.pointer (some ad)))(D:∀w,C w->Cells w ad [v])(I:z1y P t)(hn:Nat.blt d n=true)(q:∀a,AgM ds a n ((d,v)::L)->wpQuiet P ops C Qa rest a) :
 wpQuiet P ops C Qa (⟨some d,.load t x,ty,pos,after,none⟩::rest) a:=v0e h O (λw M=>by have:=D w M 0 v U;rwa [Addr.add_zero']at this) I hn q
theorem x3v {G:Option (Nat×Bool)}{α:Type}{E:Enc α}{D p:Nat}{ad:Addr}(h:AgM ds a n L)(hx:ev L x=some (.slice (some ad) m cp))(hy:ev L y=some (.int k i))(O:ElemOf P t T E D)(Z:0<=i)(hi:i<m)(hp:i.toNat=p) :
    (execOp a.eval ⟨some d,.indexAddr t x y,ty,pos,after,G⟩).run P w=.ok (.value (.pointer (some (ad.add (p*E.sz))))) w:=by
  subst hp
  obtain⟨a0,zv,I,_,M,_⟩:=O.info
  simp[execOp,h.eval hx,h.eval hy,Instr.indexAt,asIntOf,run_underlying O.und,Z,hi,sizeOf,typeInfo,I,M]
theorem y9h {α:Type}{E:Enc α}{D p:Nat}{ad:Addr}(h:AgM ds a n L)(Z:ev L x=some (.slice (some ad) m cp))(hy:ev L y=some (.int k i))(M:ElemOf P t T E D)(I:0<=i)(O:i<m)(hp:i.toNat=p)(hn:Nat.blt d n=true)
    (q:∀a,AgM ds a n ((d,.pointer (some (ad.add (p*E.sz))))::L)->wpList P ops Q rest a w):wpList P ops Q (⟨some d,.indexAddr t x y,ty,pos,after,none⟩::rest) a w:=
  z2c h U hn (x3v h Z hy M I O hp) q
theorem z8n {α:Type}{E:Enc α}{D p:Nat}{ad:Addr}(Z:ev L x=some (.slice (some ad) m cp))(hy:ev L y=some (.int k i))(M:ElemOf P t T E D)(q:WL P ops Q rest n ds w ((d,.pointer (some (ad.add (p*E.sz))))::L))(I:0<=i:=by omega)(O:i<m:=by omega)(hp:i.toNat=p:=by omega)(hn:Nat.blt d n=true:=by exact U):WL P ops Q (⟨some d,.indexAddr t x y,ty,pos,after,none⟩::rest) n ds w L:=λa h=>y9h h Z hy M I O hp hn q
theorem u4f {α:Type}{E:Enc α}{D p:Nat}{ad:Addr}(h:AgM ds a n L)(Z:ev L x=some (.slice (some ad) m cp))(hy:ev L y=some (.int k i))(M:ElemOf P t T E D)(I:0<=i)(O:i<m)(hp:i.toNat=p)(hn:Nat.blt d n=true)
    (q:∀a,AgM ds a n ((d,.pointer (some (ad.add (p*E.sz))))::L)->wpQuiet P ops C Qa rest a):wpQuiet P ops C Qa (⟨some d,.indexAddr t x y,ty,pos,after,none⟩::rest) a:=
  y1z h U hn (λ_ _=>x3v h Z hy M I O hp) q
theorem z1m {G:Option (Nat×Bool)}{K:Act->World->Prop}{fu:Nat}{listed:Array Bool}{pq:Option Nat}{α:Type}{E:Enc α}{D p:Nat}{ad:Addr}(I:Nat)(hsel:Region.noSelect ops=true)(hfr:Fre pq ops listed I=true)(hre:(Region.ready .any ops listed).contains I=true)(hC:C w)(h:AgM ds a n L)(hG:Wd ops n L G)
    (H7:(ev L x,ev L y)=(some (.slice (some ad) m cp),some (.int k i))) (he:ElemOf P t T E D) (h0:0<=i) (hi:i<m) (hp:i.toNat=p) (hix:ops[I]?=some ⟨some d,.indexAddr t x y,ty,pos,after,G⟩) (hn:Nat.blt d n=true)
    (q:∀a,AgM ds a n ((d,.pointer (some (ad.add (p*E.sz))))::L)->z0y pq P ops (z0s K) C fu (listed.setIfInBounds I true) a w):z0y pq P ops (z0s K) C (fu+1) listed a w:=let⟨hx,hy⟩:=qi2 H7;
  z6l I hsel hfr hre h hG hix U hn (λ_ _=>x3v h hx hy he h0 hi hp) q
theorem v7f {ad:Addr}(h:AgM ds a n L)(O:ev L x=some (.pointer (some (ad.add off))))(D:Cells w ad cs)(M:cs[off]?=some v)(I:z1y P t)(hn:Nat.blt d n=true)(q:∀a,AgM ds a n ((d,v)::L)->wpList P ops Q rest a w) :
 wpList P ops Q (⟨some d,.load t x,ty,pos,after,none⟩::rest) a w:=y9g h O (D off v M) I hn q
theorem y0d {ad:Addr}(O:ev L x=some (.pointer (some (ad.add off))))(D:Cells w ad cs)(M:cs[off]?=some v)(I:z1y P t)(hn:Nat.blt d n=true)(q:WL P ops Q rest n ds w ((d,v)::L)):WL P ops Q (⟨some d,.load t x,ty,pos,after,none⟩::rest) n ds w L:=λa h=>v7f h O D M I hn q
theorem v3l {ad:Addr}(h:AgM ds a n L)(M:ev L x=some (.pointer (some ad)))(D:Cells w ad [v])(I:z1y P t)(hn:Nat.blt d n=true)(q:∀a,AgM ds a n ((d,v)::L)->wpList P ops Q rest a w) :
 wpList P ops Q (⟨some d,.load t x,ty,pos,after,none⟩::rest) a w:=y9g h M (by have:=D 0 v U;rwa [Addr.add_zero']at this) I hn q
theorem z1k {ad:Addr}(M:ev L x=some (.pointer (some ad)))(D:Cells w ad [v])(I:z1y P t)(q:WL P ops Q rest n ds w ((d,v)::L))(hn:Nat.blt d n=true:=by exact U):WL P ops Q (⟨some d,.load t x,ty,pos,after,none⟩::rest) n ds w L:=λa h=>v3l h M D I hn q
theorem z6v (h:AgM ds a n L)(O:ev L x=some (.pointer (some ((⟨g,0,none⟩:Addr).add off))))(Z:ev L y=some v)(hb:Blk w g T cs)(I:Nat.blt off cs.length=true)(h1:v.oneCell'=true)(D:v.cells=#[v])(M:z1t P t 1)
    (q:∀w',Blk w' g T (cs.set off v)->Fr [g] w w'->w'.heap.size=w.heap.size->∀a,AgM ds a n L->wpList P ops Q rest a w'):wpList P ops Q (⟨none,.store t x y,ty,pos,after,none⟩::rest) a w:=
  x4u (o:=off) h (by rw[O,z4q,Nat.zero_add]) Z hb I h1 D M q
theorem z3l (H0:(ev L x,ev L y)=(some (.pointer (some ((⟨g,0,none⟩:Addr).add off))),some v))(hb:Blk w g T cs)(D:v.cells=#[v])(M:z1t P t 1)(q:∀w',Blk w' g T (cs.set off v)->Fr [g] w w'->w'.heap.size=w.heap.size->WL P ops Q rest n ds w' L)(I:Nat.blt off cs.length=true:=by exact U)(h1:v.oneCell'=true:=by exact U):WL P ops Q (⟨none,.store t x y,ty,pos,after,none⟩::rest) n ds w L:=let⟨O,Z⟩:=qi2 H0;λa h=>z6v h O Z hb I h1 D M q
theorem y6g (h:AgM ds a n L)(M:ev L x=some (.pointer (some ⟨g,0,none⟩)))(O:ev L y=some v)(hb:Blk w g T [u])(h1:v.oneCell'=true)(D:v.cells=#[v])(I:z1t P t 1)
    (q:∀w',Blk w' g T [v]->Fr [g] w w'->w'.heap.size=w.heap.size->∀a,AgM ds a n L->wpList P ops Q rest a w'):wpList P ops Q (⟨none,.store t x y,ty,pos,after,none⟩::rest) a w:=
  x4u (o:=0) h M O hb U h1 D I q
theorem z3u (M:ev L x=some (.pointer (some ⟨g,0,none⟩)))(O:ev L y=some v)(hb:Blk w g T [u])(D:v.cells=#[v])(I:z1t P t 1)(q:∀w',Blk w' g T [v]->Fr [g] w w'->w'.heap.size=w.heap.size->WL P ops Q rest n ds w' L)(h1:v.oneCell'=true:=by exact U):WL P ops Q (⟨none,.store t x y,ty,pos,after,none⟩::rest) n ds w L:=λa h=>y6g h M O hb h1 D I q
theorem z0p {vs:List Value}(h:AgM ds a n L)(H1:(ev L x,ev L y)=(some (.pointer (some ⟨g,0,none⟩)),some (.agg vs.toArray)))(hb:Blk w g T cs)(hl:vs.length=cs.length)(I:z1t P t vs.length)(q:∀w',Blk w' g T vs->Fr [g] w w'->w'.heap.size=w.heap.size->∀a,AgM ds a n L->wpList P ops Q rest a w')(h1:∀u∈vs,u.oneCell'=true:=by first|(simp[Value.oneCell',S];done)|exact Enc.one _ _):wpList P ops Q (⟨none,.store t x y,ty,pos,after,none⟩::rest) a w:=by
 obtain⟨M,O⟩:=qi2 H1
 have D:=run_storeCells_at P g 0 T vs 0 cs.toArray w hb so h1;refine z8o h U U (w':=w.setRow g vs.toArray) ?_ (q _ ?_ (Fr.setRow w g _) sp0);simp[execOp,h.eval M,h.eval O,Instr.storeAt,Instr.sureAddr,storeVar,I w,Value.cells,D,hl];unfold Blk;exact setRow_heap w g cs.toArray _ T (0,0) hb
theorem z0j {vs:List Value}(H0:(ev L x,ev L y)=(some (.pointer (some ⟨g,0,none⟩)),some (.agg vs.toArray)))(hb:Blk w g T cs)(D:z1t P t vs.length)(q:∀w',Blk w' g T vs->Fr [g] w w'->w'.heap.size=w.heap.size->WL P ops Q rest n ds w' L)(hl:vs.length=cs.length:=by rfl)(h1:∀u∈vs,u.oneCell'=true:=by first|(simp[Value.oneCell',S];done)|exact Enc.one _ _):WL P ops Q (⟨none,.store t x y,ty,pos,after,none⟩::rest) n ds w L:=let⟨I,M⟩:=qi2 H0;λa h=>z0p h (pi2 I M) hb hl D q (h1:=h1)
theorem v2v {G:Option (Nat×Bool)}{ad:Addr}{N sz:Nat}(h:AgM ds a n L)(O:ev L x=some (.pointer (some ad)))(Z:ev L y=some (.int k i))(M:P.underlying t=some (.array N T))(I:z1t P T sz)(D:0<=i)(h1:i<N) :
    (execOp a.eval ⟨some d,.indexAddr t x y,ty,pos,after,G⟩).run P w=.ok (.value (.pointer (some (ad.add (i.toNat*sz))))) w:=by
  simp[execOp,h.eval O,h.eval Z,Instr.indexAt,asIntOf,run_underlying M,Instr.sureAddr,D,h1,I w]
theorem u6t {ad:Addr}{N sz:Nat}(h:AgM ds a n L)(O:ev L x=some (.pointer (some ad)))(Z:ev L y=some (.int k i))(M:P.underlying t=some (.array N T))(I:z1t P T sz)(D:0<=i)(h1:i<N)(hn:Nat.blt d n=true)
    (q:∀a,AgM ds a n ((d,.pointer (some (ad.add (i.toNat*sz))))::L)->wpList P ops Q rest a w):wpList P ops Q (⟨some d,.indexAddr t x y,ty,pos,after,none⟩::rest) a w:=
  z2c h U hn (v2v h O Z M I D h1) q
theorem y2s {ad:Addr}{N sz:Nat}(O:ev L x=some (.pointer (some ad)))(Z:ev L y=some (.int k i))(M:P.underlying t=some (.array N T))(I:z1t P T sz)(q:WL P ops Q rest n ds w ((d,.pointer (some (ad.add (i.toNat*sz))))::L))(D:0<=i:=by omega)(h1:i<N:=by omega)(hn:Nat.blt d n=true:=by exact U):WL P ops Q (⟨some d,.indexAddr t x y,ty,pos,after,none⟩::rest) n ds w L:=λa h=>u6t h O Z M I D h1 hn q
theorem u2d {vs:List Value}{N:Nat}(h:AgM ds a n L)(hx:ev L x=some (.agg vs.toArray))(hy:ev L y=some (.int k i))(O:P.underlying t=some (.array N T))(M:z1t P T 1)(I:z1y P T)(D:0<=i)(h1:i<N)(Z:vs[i.toNat]?=some v)(hn:Nat.blt d n=true)
    (q:∀a,AgM ds a n ((d,v)::L)->wpList P ops Q rest a w):wpList P ops Q (⟨some d,.index t x y,ty,pos,after,none⟩::rest) a w:=
  z2c h U hn (by simp[execOp,h.eval hx,h.eval hy,Instr.index,asIntOf,run_underlying O,D,h1,M w,part,I w,Z]) q
theorem u0w {vs:List Value}{N:Nat}(hx:ev L x=some (.agg vs.toArray))(hy:ev L y=some (.int k i))(O:P.underlying t=some (.array N T))(M:z1t P T 1)(I:z1y P T)(Z:vs[i.toNat]?=some v)(hn:Nat.blt d n=true)(q:WL P ops Q rest n ds w ((d,v)::L))(D:0<=i:=by omega)(h1:i<N:=by omega):WL P ops Q (⟨some d,.index t x y,ty,pos,after,none⟩::rest) n ds w L:=λa h=>u2d h hx hy O M I D h1 Z hn q
theorem y9s (vs:List Value):∀(off:Nat) (cs:Array Value),off+vs.length<=cs.size->
    ((vs.zipIdx 0).foldl (λcs (p:Value×Nat)=>cs.setIfInBounds (off+p.2) p.1) cs)=(cs.toList.take off++vs++cs.toList.drop (off+vs.length)).toArray:=by
  have D:∀(vs:List Value) (s off:Nat) (cs:Array Value),off+s+vs.length<=cs.size->
      ((vs.zipIdx s).foldl (λcs (p:Value×Nat)=>cs.setIfInBounds (off+p.2) p.1) cs)=(cs.toList.take (off+s)++vs++cs.toList.drop (off+s+vs.length)).toArray:=by
    intro vs
    induction vs with
    | nil=>intro s off cs _;simp
    | cons v vs ih=>
      intro s off cs hl
      simp only[List.zipIdx_cons,List.foldl_cons]
      rw[show s+1=s+1 from U,ih (s+1) off _ (by simp at hl ⊢;omega)]
      have e:=list_seg_step cs.toList (off+s) v vs (by simp at hl ⊢;omega)
      simpa[Array.toList_setIfInBounds,Nat.add_assoc] using e
  intro off cs h
  simpa using D vs 0 off cs (by simpa using h)
theorem x6k {α:Type}(E:Enc α):∀(ys:List α) (vs:List Value) (s:Nat) (cs:Array Value) (N:Nat),vs.map Value.cells=ys.map (λy=>(E.enc y).toArray)->cs.size=N*E.sz->s+ys.length=N->
    Instr.fill (λi=>some (i*E.sz,E.sz)) cs ((List.range' s ys.length).zip vs)=some (cs.toList.take (s*E.sz)++ys.flatMap E.enc).toArray
  | [],_,s,cs,N,_,hc,hN=>by
    simp only[List.length_nil,List.range'_zero,List.zip_nil_left,Instr.fill,List.flatMap_nil,List.append_nil]
    rw[List.take_of_length_le (by simp[hc];rw[<-hN];simp)]
  | y::ys,[],s,cs,N,h,_,_=>by simp at h
  | y::ys,v::vs,s,cs,N,h,hc,hN=>by
    simp only[List.map_cons,List.cons.injEq]at h
    obtain⟨O,hr⟩:=h
    simp only[List.length_cons]at hN ⊢
    rw[List.range'_succ,List.zip_cons_cons]
    simp only[Instr.fill]
    have M:v.cells.size=E.sz:=by rw[O];simp[E.len]
    have I:s*E.sz+E.sz<=cs.size:=by
      rw[hc]
      have:(s+1)*E.sz<=N*E.sz:=Nat.mul_le_mul_right _ oo
      rw[Nat.add_mul,Nat.one_mul]at this;exact this
    rw[if_neg (by simp[M];omega)]
    have D:(v.cells.zipIdx.foldl (λcs (p:Value×Nat)=>cs.setIfInBounds (s*E.sz+p.2) p.1) cs)=(cs.toList.take (s*E.sz)++E.enc y++cs.toList.drop (s*E.sz+(E.enc y).length)).toArray:=by
      rw[<-y9s (E.enc y) (s*E.sz) cs (by rw[E.len];exact I),O]
      simp[<-Array.foldl_toList]
    have:=x6k E ys vs (s+1) (cs.toList.take (s*E.sz)++E.enc y++cs.toList.drop (s*E.sz+(E.enc y).length)).toArray N hr (by simp[E.len];omega) oo
    rw[D,this]
    congr 2
    rw[List.flatMap_cons,<-List.append_assoc]
    congr 1
    rw[Nat.add_mul,Nat.one_mul]
    have Z:s*E.sz+E.sz=(cs.toList.take (s*E.sz)++E.enc y).length:=by simp[E.len];omega
    rw[Z]
    exact List.take_left
theorem y3u {a:Act}:∀(ps:List (Nat×Operand)),ps.map (λp=>(p.1,a.eval p.2))=(ps.map (λp=>p.1)).zip (ps.map (a.eval ∘ λp=>p.2))
 | []=>rfl
 | p::ps=>by simp only[List.map_cons,List.zip_cons_cons,y3u ps];rfl
theorem z2j {α:Type}{E:Enc α}{M len:Nat}{D:List (Nat×Operand)}{vs:List Value}(ys:List α)(h:AgM ds a n L)(hp:evs L (D.map (·.2)) vs)(H3:(D.map (·.1),vs.map Value.cells,ys.length)=(List.range' 0 ys.length,ys.map (λy=>(E.enc y).toArray),len))(he:ElemOf P t T E M)(q:∀g w',g=w.heap.size->Own E T g w' (.slice (some ⟨g,0,none⟩) len len) ys->Fr [] w w'->w'.heap.size=g+1->∀a,AgM ds a n ((d,.slice (some ⟨g,0,none⟩) len len)::L)->wpList P ops Q rest a w')(hsm:len*E.sz<=16777216:=by exact(Nat.le_of_ble_eq_true U))(hn:Nat.blt d n=true:=by exact U) :
    wpList P ops Q (⟨some d,.buildSlice t len D.toArray,ty,pos,after,none⟩::rest) a w:=by
  obtain⟨hi,hy,hl⟩:=qi3 H3
  obtain⟨a5,zv,O,hz,a0,a3,a4⟩:=he.info
  have hm:D.map (λp=>(p.1,a.eval p.2))=(List.range' 0 ys.length).zip vs:=by
    have h1:=h.evals hp
    rw[List.map_map]at h1
    rw[<-hi,<-h1]
    exact y3u D
  have I:=x6k E ys vs 0 ((Array.range (len*E.sz)).map (zv.cells[· % zv.cells.size]!)) len hy sp0 oo
  rw[Nat.zero_mul,List.take_zero,List.nil_append]at I
  have a1:¬16777216<len*E.sz:=by omega
  refine z2c h U hn (w':=w.alloc (.cells (ys.flatMap E.enc).toArray T)) ?_ (q _ _ U ?_ (Fr.alloc [] w _) sp0)
  · simp only[execOp,List.map_toArray,hm,Instr.buildSlice,Sem.run_bind,run_underlying he.und,Result.andThen_ok,sizeOf,typeInfo,Sem.run_pure]
    by_cases h0:len*E.sz=0
    · have Z:len=0:=by
        rcases Nat.mul_eq_zero.1 h0 with h|h
        · exact h
        · have:=E.pos;omega
      subst Z
      have a2:ys=[]:=List.eq_nil_of_length_eq_zero hl
      subst a2
      simp[O,a0,Instr.fill,newRow]
      rw[show Array.range 0=#[] from U];simp
    · simp[O,a0,h0,a1,zeroValue,typeInfo,hz,newRow,I]
  · exact .inr ⟨_,len,_,by rw[hl],Nat.le_refl _,heap_alloc_new w _,oo,by simp only[maxLen];have:=E.pos;have:len<=len*E.sz:=Nat.le_mul_of_pos_right _ E.pos;omega,by simp[E.flat_len,hl],by
      rw[List.take_of_length_le (by simp[E.flat_len])]⟩
theorem z1g {α:Type}{E:Enc α}{I len:Nat}{D:List (Nat×Operand)}{vs:List Value}(ys:List α)(hp:evs L (D.map (·.2)) vs)(H2:(D.map (·.1),vs.map Value.cells,ys.length)=(List.range' 0 ys.length,ys.map (λy=>(E.enc y).toArray),len))(M:ElemOf P t T E I)(q:∀g w',g=w.heap.size->Own E T g w' (.slice (some ⟨g,0,none⟩) len len) ys->Fr [] w w'->w'.heap.size=g+1->WL P ops Q rest n ds w' ((d,.slice (some ⟨g,0,none⟩) len len)::L))(hsm:len*E.sz<=16777216:=by exact(Nat.le_of_ble_eq_true U))(hn:Nat.blt d n=true:=by exact U):WL P ops Q (⟨some d,.buildSlice t len D.toArray,ty,pos,after,none⟩::rest) n ds w L:=let⟨O,Z,hl⟩:=qi3 H2;λa h=>z2j ys h hp (pi3 O Z hl) M q (hsm:=hsm) (hn:=hn)
theorem x2m {fn:Fn}{fs cs:List Operand}{us vs:List Value}(h:AgM ds a n L)(h1:evs L fs us)(D:evs L cs vs)(hn:Nat.blt d n=true)(q:∀a,AgM ds a n ((d,.func fn us.toArray vs.toArray)::L)->wpList P ops Q rest a w) :
    wpList P ops Q (⟨some d,.makeFunc fn fs.toArray cs.toArray,ty,pos,after,none⟩::rest) a w:=
  z2c h U hn (by simp[execOp,Instr.makeFunc,h.evals h1,h.evals D]) q
theorem z7e {fn:Fn}{fs cs:List Operand}{us vs:List Value}(h1:evs L fs us)(D:evs L cs vs)(hn:Nat.blt d n=true)(q:WL P ops Q rest n ds w ((d,.func fn us.toArray vs.toArray)::L)):WL P ops Q (⟨some d,.makeFunc fn fs.toArray cs.toArray,ty,pos,after,none⟩::rest) n ds w L:=λa h=>x2m h h1 D hn q
theorem y0r {f:FuncId}{xs:List Operand}{vs us ws:List Value}{ts:Array TypeId}{Φ:Value->World->Prop}(h:AgM ds a n L)(M:ev L y=some (.func (.func f) us.toArray ws.toArray))(I:evs L xs vs)(hf:CallOf P f)(D:Rets P f (us++vs++ws).toArray w Φ)(hn:Nat.blt d n=true)
    (hnf:∀g,y≠.func g)
    (q:∀v w',Φ v w'->∀a,AgM ds a n ((d,v)::L)->wpList P ops Q rest a w'):wpList P ops Q (⟨some d,.call ⟨.value y,xs.toArray,ts⟩,ty,pos,after,none⟩::rest) a w:=
  x5m (w':=w) h U U hn (by
    simp only[execOp,resolve,h.eval M,Deferred.ofValue,Sem.run_bind,Sem.run_pure,Result.andThen_ok,invoke,List.map_toArray,h.evals I,List.append_toArray]
    exact hf _ _) D q
theorem clv {f:FuncId}{xs:List Operand}{vs us ws:List Value}{ts:Array TypeId}{Φ:Value->World->Prop}(O:ev L y=some (.func (.func f) us.toArray ws.toArray))(M:evs L xs vs)(hf:CallOf P f)(I:Rets P f (us++vs++ws).toArray w Φ)(hn:Nat.blt d n=true)(D:∀g,y≠.func g)(q:∀v w',Φ v w'->WL P ops Q rest n ds w' ((d,v)::L)):WL P ops Q (⟨some d,.call ⟨.value y,xs.toArray,ts⟩,ty,pos,after,none⟩::rest) n ds w L:=λa h=>y0r h O M hf I hn D q
def z8q (cs:List Value)(off:Nat)(vs:List Value):List Value:=cs.take off++vs++cs.drop (off+vs.length)
def z6r (pl:List (Nat×Nat))(m:Nat):List (Nat×Value)->Prop
  | []=>True
  | p::r=>(∃q,pl[p.1]?=some q/\p.2.cells.size=q.2/\Nat.ble (q.1+q.2) m=true)/\z6r pl m r
theorem z0q {D:List (Nat×Nat)}{m:Nat}:z6r D m []:=trivial
theorem z0f {D:List (Nat×Nat)}{m i:Nat}{q:Nat×Nat}{v:Value}{r:List (Nat×Value)}(H0:(D[i]?,v.cells.size,Nat.ble (q.1+q.2) m)=(some q,q.2,true))(O:z6r D m r):z6r D m ((i,v)::r):=let⟨h1,I,M⟩:=qi3 H0;⟨⟨q,h1,I,M⟩,O⟩
def y5e (pl:List (Nat×Nat))(zs:List Value)(ps:List (Nat×Value)):List Value:=ps.foldl (λcs p=>z8q cs (pl.getD p.1 (0,0)).1 p.2.cells.toList) zs
def BuildAt (P:Program)(t:TypeId)(pl:List (Nat×Nat))(zs:List Value):Prop:=∀(ps:List (Nat×Value)) (w:World),z6r pl zs.length ps->(Instr.build t ps.toArray).run P w=.ok (.agg (y5e pl zs ps).toArray) w
theorem x7l (cs vs:List Value)(off:Nat)(h:off+vs.length<=cs.length):(z8q cs off vs).length=cs.length:=by simp[z8q];omega
theorem y0h (M:List (Nat×Nat))(f:Nat->Option (Nat×Nat))(hf:∀i q,M[i]?=some q->f i=some q):∀(ps:List (Nat×Value)) (cs:List Value),z6r M cs.length ps->Instr.fill f cs.toArray ps=some (y5e M cs ps).toArray
 | [],cs,_=>rfl
 | (i,v)::ps,cs,⟨⟨q,h1,h2,h3⟩,hr⟩=>by
  have I:q.1+q.2<=cs.length:=by simpa[Nat.ble_eq] using h3
  have hl:v.cells.toList.length=q.2:=by simpa using h2
  have O:(z8q cs q.1 v.cells.toList).length=cs.length:=x7l _ _ _ (by rw[hl];exact I)
  have D:(v.cells.zipIdx.foldl (λcs (p:Value×Nat)=>cs.setIfInBounds (q.1+p.2) p.1) cs.toArray)=(z8q cs q.1 v.cells.toList).toArray:=by
   have e:=y9s v.cells.toList q.1 cs.toArray (by simpa[h2] using I)
   rw[z8q]
   simp only at e
   rw[<-e,<-Array.foldl_toList,Array.toList_zipIdx]
  simp only[Instr.fill,hf i q h1]
  rw[if_neg (by simp[h2];omega)]
  rw[D,y0h M f hf ps _ (by rw[O];exact hr)]
  simp[y5e,List.getD,h1]
theorem BuildAt.struct {t:TypeId}{fs:Array Field}{I:List (Nat×Nat)}{zs:List Value}(O:P.underlying t=some (.struct fs))(Z:∀w:World,(zeroValue t).run P w=.ok (.agg zs.toArray) w)
    (hp:∀w:World,(fs.mapM λf=>do pure (f.offset,<-sizeOf f.type):Sem (Array (Nat×Nat))).run P w=.ok I.toArray w):BuildAt P t I zs:=by
  intro ps w M
  have D:=y0h I (λi=>I.toArray[i]?) (λi q h=>by simpa using h) ps zs M
  simp only[Instr.build,Sem.run_bind,Z w,Result.andThen_ok,run_underlying O,hp w,Value.cells,D]
  rfl
theorem BuildAt.array {t T:TypeId}{N sz:Nat}{M:List (Nat×Nat)}{zs:List Value}(Z:P.underlying t=some (.array N T))(hz:∀w:World,(zeroValue t).run P w=.ok (.agg zs.toArray) w)(O:z1t P T sz)
    (hp:∀i q,M[i]?=some q->q=(i*sz,sz)):BuildAt P t M zs:=by
  intro ps w I
  have D:=y0h M (λi=>some (i*sz,sz)) (λi q h=>by rw[hp i q h]) ps zs I
  simp only[Instr.build,Sem.run_bind,hz w,Result.andThen_ok,run_underlying Z,O w,Value.cells,D]
  rfl
theorem x7c {vs cs':List Value}(h:AgM ds a n L)(O:ev L x=some (.pointer (some ((⟨g,0,none⟩:Addr).add off))))(hy:ev L y=some (.agg vs.toArray))(hb:Blk w g T cs)(hl:Nat.ble (off+vs.length) cs.length=true)(h1:∀u∈vs,u.oneCell'=true)(Z:z1t P t vs.length)(I:z8q cs off vs=cs')
    (q:∀w',Blk w' g T cs'->Fr [g] w w'->w'.heap.size=w.heap.size->∀a,AgM ds a n L->wpList P ops Q rest a w'):wpList P ops Q (⟨none,.store t x y,ty,pos,after,none⟩::rest) a w:=by
  subst I
  rw[z4q,Nat.zero_add]at O
  have M:=run_storeCells_at P g off T vs 0 cs.toArray w hb (by have:=Nat.le_of_ble_eq_true hl;simp;omega) h1
  refine z8o h U U (w':=w.setRow g (z8q cs off vs).toArray) ?_ (q _ ?_ (Fr.setRow w g _) sp0)
  · have D:(storeCells ⟨g,off,none⟩ vs 0).run P w=.ok () (w.setRow g (z8q cs off vs).toArray):=by simpa[z8q] using M
    simp[execOp,h.eval O,h.eval hy,Instr.storeAt,Instr.sureAddr,storeVar,Z w,Value.cells,D]
  · unfold Blk;exact setRow_heap w g cs.toArray _ T (0,0) hb
theorem z4p {vs cs':List Value}(M:ev L x=some (.pointer (some ((⟨g,0,none⟩:Addr).add off))))(O:ev L y=some (.agg vs.toArray))(hb:Blk w g T cs)(h1:∀u∈vs,u.oneCell'=true)(I:z1t P t vs.length)(D:z8q cs off vs=cs')(q:∀w',Blk w' g T cs'->Fr [g] w w'->w'.heap.size=w.heap.size->WL P ops Q rest n ds w' L)(hl:Nat.ble (off+vs.length) cs.length=true:=by exact U):WL P ops Q (⟨none,.store t x y,ty,pos,after,none⟩::rest) n ds w L:=λa h=>x7c h M O hb hl h1 I D q
theorem v9z {G:Option (Nat×Bool)}{M:List (Nat×Nat)}{zs cs:List Value}{D:List (Nat×Operand)}{vs:List Value}(h:AgM ds a n L)(hp:evs L (D.map (·.2)) vs)(hb:BuildAt P t M zs)(I:z6r M zs.length ((D.map (·.1)).zip vs))(O:y5e M zs ((D.map (·.1)).zip vs)=cs) :
    (execOp a.eval ⟨some d,.build t D.toArray,ty,pos,after,G⟩).run P w=.ok (.value (.agg cs.toArray)) w:=by
  have Z:D.map (λp=>(p.1,a.eval p.2))=(D.map (·.1)).zip vs:=by
    rw[y3u,<-h.evals hp,List.map_map]
  simp only[execOp,List.map_toArray,Z,Sem.run_bind,hb _ w I,Result.andThen_ok,Sem.run_pure,O]
theorem u7z {M:List (Nat×Nat)}{zs cs:List Value}{D:List (Nat×Operand)}{vs:List Value}(h:AgM ds a n L)(hp:evs L (D.map (·.2)) vs)(hb:BuildAt P t M zs)(I:z6r M zs.length ((D.map (·.1)).zip vs))(O:y5e M zs ((D.map (·.1)).zip vs)=cs)(hn:Nat.blt d n=true)
    (q:∀a,AgM ds a n ((d,.agg cs.toArray)::L)->wpList P ops Q rest a w):wpList P ops Q (⟨some d,.build t D.toArray,ty,pos,after,none⟩::rest) a w:=
  z2c h U hn (v9z h hp hb I O) q
theorem z1s {M:List (Nat×Nat)}{zs cs:List Value}{D:List (Nat×Operand)}{vs:List Value}(hp:evs L (D.map (·.2)) vs)(hb:BuildAt P t M zs)(I:z6r M zs.length ((D.map (·.1)).zip vs))(O:y5e M zs ((D.map (·.1)).zip vs)=cs)(q:WL P ops Q rest n ds w ((d,.agg cs.toArray)::L))(hn:Nat.blt d n=true:=by exact U):WL P ops Q (⟨some d,.build t D.toArray,ty,pos,after,none⟩::rest) n ds w L:=λa h=>u7z h hp hb I O hn q
theorem z2u {G:Option (Nat×Bool)}{K:Act->World->Prop}{fu:Nat}{listed:Array Bool}{pq:Option Nat}(I:Nat){Z:List (Nat×Nat)}{zs cs:List Value}{D:List (Nat×Operand)}{vs:List Value}(h:AgM ds a n L)(hp:evs L (D.map (·.2)) vs)(hb:BuildAt P t Z zs)(O:z6r Z zs.length ((D.map (·.1)).zip vs))(hc:y5e Z zs ((D.map (·.1)).zip vs)=cs)(M:ops[I]?=some ⟨some d,.build t D.toArray,ty,pos,after,G⟩)(q:∀a,AgM ds a n ((d,.agg cs.toArray)::L)->z0y pq P ops (z0s K) C fu (listed.setIfInBounds I true) a w)(hsel:Region.noSelect ops=true:=by kernel_rfl)(hfr:Fre pq ops listed I=true:=by kernel_rfl)(hre:(Region.ready .any ops listed).contains I=true:=by kernel_rfl)(hC:C w:=by exact hC)(hG:Wd ops n L G:=by exact wn)(hn:Nat.blt d n=true:=by exact U):z0y pq P ops (z0s K) C (fu+1) listed a w:=
  z6l I hsel hfr hre h hG M U hn (λ_ _=>v9z h hp hb O hc) q
def x7a {α:Type}[DecidableEq α](P:Program)(t:TypeId)(V:α->Value):Prop:=
  ∀(e f:α) (ox oy:Operand) (w:World),(eqGuard .eql t ox oy (V e) (V f)).run P w=.ok () w/\(eqGuard .neq t ox oy (V e) (V f)).run P w=.ok () w/\
    (binOp .eql t (V e) (V f)).run P w=.ok (.bool (decide (e=f))) w/\(binOp .neq t (V e) (V f)).run P w=.ok (.bool (!decide (e=f))) w
section
variable {α:Type} [DecidableEq α] {V:α->Value} {e f:α}
theorem u7n {G:Option (Nat×Bool)}(h:AgM ds a n L)(O:ev L x=some (V e))(Z:ev L y=some (V f))(M:x7a P t V):(execOp a.eval ⟨some d,.binOp .eql t x y t',ty,pos,after,G⟩).run P w=.ok (.value (.bool (decide (e=f)))) w:=by
 obtain⟨D,_,I,_⟩:=M e f x y w;simp[execOp,h.eval O,h.eval Z,D,I]
theorem u8u {G:Option (Nat×Bool)}(h:AgM ds a n L)(O:ev L x=some (V e))(Z:ev L y=some (V f))(M:x7a P t V):(execOp a.eval ⟨some d,.binOp .neq t x y t',ty,pos,after,G⟩).run P w=.ok (.value (.bool (decide (e≠f)))) w:=by
 obtain⟨_,D,_,I⟩:=M e f x y w;simp[execOp,h.eval O,h.eval Z,D,I]
theorem u9n (h:AgM ds a n L)(I:ev L x=some (V e))(M:ev L y=some (V f))(D:x7a P t V)(hn:Nat.blt d n=true)(q:∀a,AgM ds a n ((d,.bool (decide (e=f)))::L)->wpList P ops Q rest a w):wpList P ops Q (⟨some d,.binOp .eql t x y t',ty,pos,after,none⟩::rest) a w:=
 z2c h U hn (u7n h I M D) q
theorem j3h (I:ev L x=some (V e))(M:ev L y=some (V f))(D:x7a P t V)(hn:Nat.blt d n=true)(q:WL P ops Q rest n ds w ((d,.bool (decide (e=f)))::L)):WL P ops Q (⟨some d,.binOp .eql t x y t',ty,pos,after,none⟩::rest) n ds w L:=λa h=>u9n h I M D hn q
theorem u7g (h:AgM ds a n L)(I:ev L x=some (V e))(M:ev L y=some (V f))(D:x7a P t V)(hn:Nat.blt d n=true)(q:∀a,AgM ds a n ((d,.bool (decide (e≠f)))::L)->wpList P ops Q rest a w):wpList P ops Q (⟨some d,.binOp .neq t x y t',ty,pos,after,none⟩::rest) a w:=
 z2c h U hn (u8u h I M D) q
theorem u1v (I:ev L x=some (V e))(M:ev L y=some (V f))(D:x7a P t V)(hn:Nat.blt d n=true)(q:WL P ops Q rest n ds w ((d,.bool (decide (e≠f)))::L)):WL P ops Q (⟨some d,.binOp .neq t x y t',ty,pos,after,none⟩::rest) n ds w L:=λa h=>u7g h I M D hn q
end
theorem retC {fn:Func}{R:Ending->World->Prop}{p pt:Nat}(h:Ag a n L)(M:fn.results=#[.cell p pt])(hp:look L p=some (.pointer (some ⟨g,0,none⟩)))(hb:Blk w g T cs)(I:z3p P pt cs.length)(k:R (.returned (.agg cs.toArray)) w):bodyPost P fn R .ret a w:=
 bodyPost_ret (v:=.agg cs.toArray) (by
  have D:=h.at_ p _ hp
  simp only[Array.getD_eq_getD_getElem?]at D
  simp[results,M,D,asAddr,loadVar,I.1 w,I.2 w,run_loadCells_list w _ cs hb.cells]) h.dfr k
theorem j2r {fn:Func}{R:Ending->World->Prop}{p pt q:Nat}(h:Ag a n L)(O:fn.results=#[.cell p pt,.tmp q])(hp:look L p=some (.pointer (some ⟨g,0,none⟩)))(hb:Blk w g T cs)(M:z3p P pt cs.length)(Z:look L q=some v)(k:R (.returned (.tuple #[.agg cs.toArray,v])) w):bodyPost P fn R .ret a w:=
 bodyPost_ret (v:=.tuple #[.agg cs.toArray,v]) (by
  have D:=h.at_ p _ hp
  have I:=h.at_ q _ Z
  simp only[Array.getD_eq_getD_getElem?]at D I
  simp[results,O,D,I,asAddr,loadVar,M.1 w,M.2 w,run_loadCells_list w _ cs hb.cells]) h.dfr k
theorem u8f {fn:Func}{R:Ending->World->Prop}{p pt q r:Nat}(h:Ag a n L)(Z:fn.results=#[.cell p pt,.tmp q,.tmp r])(hp:look L p=some (.pointer (some ⟨g,0,none⟩)))(hb:Blk w g T cs)(O:z3p P pt cs.length)(hv:look L q=some v)(hu:look L r=some u)(k:R (.returned (.tuple #[.agg cs.toArray,v,u])) w):bodyPost P fn R .ret a w:=
 bodyPost_ret (v:=.tuple #[.agg cs.toArray,v,u]) (by
  have D:=h.at_ p _ hp
  have I:=h.at_ q _ hv
  have M:=h.at_ r _ hu
  simp only[Array.getD_eq_getD_getElem?]at D I M
  simp[results,Z,D,I,M,asAddr,loadVar,O.1 w,O.2 w,run_loadCells_list w _ cs hb.cells]) h.dfr k
end
end Go.Lw
namespace Go.Lw
open Go.RowKit
abbrev SV:=Option Addr×Nat×Nat
def slv (p:SV):Value:=.slice p.1 p.2.1 p.2.2
section
variable {α:Type} {E:Enc α} {T:TypeId} {base:Nat} {w w':World} {X Y S:List Nat} {ps qs:List (SV×List α)} {u u':SV} {r r':List α}
theorem z7t (ys:List α)(z:α)(R:List Value):∀(i:Nat),i<ys.length->(ys.flatMap E.enc++R).take (i*E.sz)++E.enc z++(ys.flatMap E.enc++R).drop (i*E.sz+E.sz)=(ys.set i z).flatMap E.enc++R:=by
 intro i I;obtain⟨p,y,s,rfl,rfl⟩:∃p y s,ys=p++y::s/\p.length=i:=⟨ys.take i,ys[i],ys.drop (i+1),sp0,so⟩;have D:p.length*E.sz=(p.flatMap E.enc).length:=(E.flat_len p).symm;rw[List.set_append_right _ _ (Nat.le_refl _),Nat.sub_self,List.set_cons_zero];simp only[List.flatMap_append,List.flatMap_cons,List.append_assoc];rw[D,List.take_left,List.drop_append,List.drop_of_length_le oo,List.nil_append,show (p.flatMap E.enc).length+E.sz-(p.flatMap E.enc).length=(E.enc y).length by rw[E.len];omega,List.drop_left]
end
section
variable {P:Program} {ops:Array Oper} {Q:Exit->Act->World->Prop} {rest:List Oper} {a:Act} {w:World} {n:Nat} {L:List (Nat×Value)} {ds:List Nat} {ty:TypeId} {pos:String} {after:Array Edge} {x y:Operand} {t T:TypeId} {v:Value}
theorem z0z {α:Type}{E:Enc α}{base g m c i:Nat}{ys:List α}(z:α)(h:AgM ds a n L)(H2:(ev L x,ev L y)=(some (.pointer (some ((⟨g,0,none⟩:Addr).add (i*E.sz)))),some v))(ho:Own E T base w (.slice (some ⟨g,0,none⟩) m c) ys)(hi:i<ys.length)
    (hc:v.cells=(E.enc z).toArray) (hs:z1t P t E.sz)
    (q:∀w',Own E T base w' (.slice (some ⟨g,0,none⟩) m c) (ys.set i z)->Fr [g] w w'->w'.heap.size=w.heap.size->∀a,AgM ds a n L->wpList P ops Q rest a w'):wpList P ops Q (⟨none,.store t x y,ty,pos,after,none⟩::rest) a w:=by
  obtain⟨hx,hy⟩:=qi2 H2
  rcases ho with ⟨e,_⟩|⟨g',cap,cur,e,hb,Z,O,h2,h3,h4⟩
  · cases e
  cases e
  have a1:i*E.sz+E.sz<=ys.length*E.sz:=by rw[<-Nat.succ_mul];exact Nat.mul_le_mul_right _ hi
  have a0:ys.length*E.sz<=cur.size:=Nat.le_trans (Nat.mul_le_mul_right _ O) h3
  have D:=run_storeCells_at P g (i*E.sz) T (E.enc z) 0 cur w Z (by rw[E.len];omega) (E.one z)
  rw[Nat.add_zero,E.len]at D
  have I:cur.toList=ys.flatMap E.enc++cur.toList.drop (ys.length*E.sz):=by rw[<-h4,List.take_append_drop]
  have M:cur.toList.take (i*E.sz)++E.enc z++cur.toList.drop (i*E.sz+E.sz)=(ys.set i z).flatMap E.enc++cur.toList.drop (ys.length*E.sz):=by
    conv=>lhs;rw[I]
    exact z7t ys z _ i hi
  rw[M]at D
  refine z8o h U U (w':=w.setRow g ((ys.set i z).flatMap E.enc++cur.toList.drop (ys.length*E.sz)).toArray) ?_ (q _ ?_ (Fr.setRow w g _) sp0)
  · rw[z4q,Nat.zero_add]at hx
    simp only[execOp,h.eval hx,h.eval hy,Sem.run_bind,Sem.run_pure,Result.andThen_ok,Instr.storeAt,Instr.sureAddr,storeVar,hs w,hc]
    simp[D,E.len]
  · refine .inr ⟨g,c,_,by rw[List.length_set],hb,setRow_heap w g cur _ T _ Z,by rw[List.length_set];exact O,h2,?_,?_⟩
    · simp only[List.size_toArray,List.length_append,E.flat_len,List.length_set,List.length_drop,Array.length_toList];omega
    · rw[List.length_set,show ys.length*E.sz=((ys.set i z).flatMap E.enc).length by rw[E.flat_len,List.length_set]]
      exact List.take_left
theorem z5k {α:Type}{E:Enc α}{base g m c i:Nat}{ys:List α}(z:α)(Z:ev L x=some (.pointer (some ((⟨g,0,none⟩:Addr).add (i*E.sz)))))(hy:ev L y=some v)(M:Own E T base w (.slice (some ⟨g,0,none⟩) m c) ys)(I:i<ys.length)(D:v.cells=(E.enc z).toArray)(O:z1t P t E.sz)(q:∀w',Own E T base w' (.slice (some ⟨g,0,none⟩) m c) (ys.set i z)->Fr [g] w w'->w'.heap.size=w.heap.size->WL P ops Q rest n ds w' L):WL P ops Q (⟨none,.store t x y,ty,pos,after,none⟩::rest) n ds w L:=λa h=>z0z z h (pi2 Z hy) M I D O q
end
section
variable {P:Program} {ops:Array Oper} {o o':Oper} {K:Act->World->Prop} {C:World->Prop} {fu:Nat} {listed:Array Bool} {pq:Option Nat} {a:Act} {w:World}
theorem y4f (I:Nat)(M:ops[I]?=some o)(k:wpList P ops (z0s λZ w'=>Sat pq C (listed.setIfInBounds I true) w'/\z0y pq P ops (z0s K) C fu (listed.setIfInBounds I true) Z w') [o] a w) :
    wpOp P ops (z0s K) I (λa w=>Sat pq C (listed.setIfInBounds I true) w/\z0y pq P ops (z0s K) C fu (listed.setIfInBounds I true) a w) a w:=by
  unfold wpOp
  rw[M]
  unfold wpList at k
  simp only
  split
  · rename_i O
    rw[if_pos O]at k
    rcases k with k|⟨_,_,_,k⟩
    · refine .inl (Oper.wp_mono (λa w h=>h) ?_)
      unfold Oper.wp at k ⊢
      generalize (execOp a.eval o).run P w=r at k ⊢
      cases r with
      | ok nx w'=>
        cases nx<;>simp only[Oper.upon]at k ⊢<;>first
          | exact k
          | exact Calls.mono k (λe a0 D=>by cases e<;>first|exact D|exact D.elim|(obtain⟨_,_,D⟩:=D;exact D.elim))
          | exact Rows.mono k (λ_ _ D=>D)
      | halt x w'=>cases x<;>simp only[Oper.upon]at k ⊢<;>exact k.elim
    · exact k.elim
  · rename_i O
    rw[if_neg O]at k
    exact k
theorem z1u (i j:Nat)(Z:Region.ready .any ops listed=[i,j])(H3:(ops[i]?,ops[j]?)=(some o,some o'))
    (k:wpList P ops (z0s λD w'=>Sat pq C (listed.setIfInBounds i true) w'/\z0y pq P ops (z0s K) C fu (listed.setIfInBounds i true) D w') [o] a w)
    (k':wpList P ops (z0s λD w'=>Sat pq C (listed.setIfInBounds j true) w'/\z0y pq P ops (z0s K) C fu (listed.setIfInBounds j true) D w') [o'] a w):z0y pq P ops (z0s K) C (fu+1) listed a w:=by
  obtain⟨M,O⟩:=qi2 H3
  refine u5o Z sp0 λx I=>?_
  simp at I
  rcases I with rfl|rfl
  · exact y4f _ M k
  · exact y4f _ O k'
theorem y8e {I:Oper}(i j m:Nat)(hr:Region.ready .any ops listed=[i,j,m])(O:ops[i]?=some o)(Z:ops[j]?=some o')(hm:ops[m]?=some I)
    (k:wpList P ops (z0s λD w'=>Sat pq C (listed.setIfInBounds i true) w'/\z0y pq P ops (z0s K) C fu (listed.setIfInBounds i true) D w') [o] a w)
    (k':wpList P ops (z0s λD w'=>Sat pq C (listed.setIfInBounds j true) w'/\z0y pq P ops (z0s K) C fu (listed.setIfInBounds j true) D w') [o'] a w)
    (k'':wpList P ops (z0s λD w'=>Sat pq C (listed.setIfInBounds m true) w'/\z0y pq P ops (z0s K) C fu (listed.setIfInBounds m true) D w') [I] a w):z0y pq P ops (z0s K) C (fu+1) listed a w:=by
  refine u5o hr sp0 λx M=>?_
  simp at M
  rcases M with rfl|rfl|rfl
  · exact y4f _ O k
  · exact y4f _ Z k'
  · exact y4f _ hm k''
end
end Go.Lw
namespace Go.Lw
open Go.RowKit
theorem v1j {α:Type}(E:Enc α)(z:α):∀(c:Nat),((Array.range (c*E.sz)).map ((E.enc z).toArray[· % E.sz]!)).toList=(List.replicate c z).flatMap E.enc:=by
 intro c;apply List.ext_getElem?;intro m;have hl:((List.replicate c z).flatMap E.enc).length=c*E.sz:=by rw[E.flat_len,List.length_replicate]
 rcases Nat.lt_or_ge m (c*E.sz) with h|h
 have O:m / E.sz<c:=Nat.div_lt_of_lt_mul (by rw[Nat.mul_comm];exact h);have M:m % E.sz<E.sz:=Nat.mod_lt _ E.pos;have e:m / E.sz*E.sz+m % E.sz=m:=by rw[Nat.mul_comm];exact Nat.div_add_mod m E.sz
 have I:=E.flat_get (List.replicate c z) (m / E.sz) z (by rw[List.getElem?_replicate,if_pos O]) (m % E.sz) M;rw[e]at I;rw[I];have D:m % E.sz<(E.enc z).length:=by rw[E.len];exact M
 simp[h];rw[List.getElem?_eq_getElem D];rfl;rw[List.getElem?_eq_none (by simp;exact h),List.getElem?_eq_none (by rw[hl];exact h)]
section
variable {P:Program} {a:Act} {n:Nat} {L:List (Nat×Value)} {ds:List Nat} {w w':World} {Q:Exit->Act->World->Prop} {ops:Array Oper} {rest:List Oper}
variable {d:Nat} {ty:TypeId} {pos:String} {after:Array Edge} {v u:Value} {x y z:Operand} {t t' T:TypeId} {k k':IntKind} {i j:Int}
theorem x0e {G:Option (Nat×Bool)}{α:Type}{E:Enc α}{D m c:Nat}(e0:α)(h:AgM ds a n L)(hx:ev L x=some (.int k (m:Int)))(hy:ev L y=some (.int k' (c:Int)))(he:ElemOf P t T E D)
    (hz:∀w:World,(zeroValue T).run P w=.ok v w) (hv:v.cells=(E.enc e0).toArray) (hmc:m<=c) (hb:c*D<=140737488355328) (hM:c<=maxLen) :
    (execOp a.eval ⟨some d,.makeSlice t x y,ty,pos,after,G⟩).run P w=.ok (.value (.slice (some ⟨w.heap.size,0,none⟩) m c)) (w.alloc (.cells ((List.replicate c e0).flatMap E.enc).toArray T)):=by
  obtain⟨I,zv,M,a1,a7,a0,b1⟩:=he.info
  have a8:zv=v:=by
    have:=hz w
    simpa[zeroValue,typeInfo,M,a1] using this
  subst a8
  have a9:c<=9223372036854775807:=by simp only[maxLen]at hM;omega
  have w1:IntKind.i64.wrap (m:Int)=m:=IntWalk.i64_in _ oo
  have w2:IntKind.i64.wrap (c:Int)=c:=IntWalk.i64_in _ oo
  have b0:((I.bytes:Nat):Int)*(c:Int)<=140737488355328:=by
    have:((I.bytes*c:Nat):Int)<=140737488355328:=by rw[a0,Nat.mul_comm];omega
    simpa using this
  have ht:(decide ((c:Int)<0) || decide ((I.bytes:Int)*(c:Int) > 2 ^ 48))=false:=by
    simp only[Bool.or_eq_false_iff,decide_eq_false_iff_not]
    constructor<;>omega
  have a6:¬((m:Int)<0):=by omega
  have a5:¬((m:Int) > (c:Int)):=by omega
  have O:¬(c*I.bytes > roomBytes):=by
    rw[a0];unfold roomBytes;omega
  have Z:=v1j E e0 c
  simp only[execOp,h.eval hx,h.eval hy,Instr.makeSlice,Sem.run_bind,run_underlying he.und,Result.andThen_ok,asInt,asIntOf,Sem.run_pure,typeInfo,sizeOf,w1,w2]
  simp[M,a7,ht,a6,a5,askRoom,O,w1,w2]
  by_cases h0:c=0
  · subst h0
    simp[newRow]
    rw[show Array.range 0=#[] from U];simp
  · have a4:¬(c*E.sz=0):=by
      have:=E.pos
      intro e
      rcases Nat.mul_eq_zero.1 e with e|e<;>omega
    have a2:¬((c:Int)<0):=by omega
    have a3:¬((281474976710656:Int)<(I.bytes:Int)*(c:Int)):=by omega
    simp[a4,zeroValue,typeInfo,M,a1,newRow,hv,E.len,a2,a3]
    congr 2
    apply Array.toList_inj.1
    simpa using Z
theorem z8k {α:Type}{E:Enc α}{D m c:Nat}(M:α)(h:AgM ds a n L)(hx:ev L x=some (.int k (m:Int)))(hy:ev L y=some (.int k' (c:Int)))(O:ElemOf P t T E D)(hz:∀w:World,(zeroValue T).run P w=.ok v w)(Z:v.cells=(E.enc M).toArray)(I:m<=c)(hb:c*D<=140737488355328)(hn:Nat.blt d n=true)(q:∀g w',g=w.heap.size->Own E T g w' (.slice (some ⟨g,0,none⟩) m c) (List.replicate m M)->Fr [] w w'->w'.heap.size=g+1->∀a,AgM ds a n ((d,.slice (some ⟨g,0,none⟩) m c)::L)->wpList P ops Q rest a w')(hM:c<=maxLen:=by unfold maxLen;omega) :
    wpList P ops Q (⟨some d,.makeSlice t x y,ty,pos,after,none⟩::rest) a w:=by
  refine z2c h U hn (x0e M h hx hy O hz Z I hb hM) (q _ _ U ?_ (Fr.alloc [] w _) sp0)
  refine .inr ⟨_,c,_,sp0,Nat.le_refl _,heap_alloc_new w _,by simpa using I,hM,by simp[E.flat_len],?_⟩
  simp only[List.length_replicate]
  obtain⟨r,rfl⟩:∃r,c=m+r:=⟨c-m,oo⟩
  rw[<-List.replicate_append_replicate,List.flatMap_append]
  rw[show m*E.sz=((List.replicate m M).flatMap E.enc).length by rw[E.flat_len,List.length_replicate]]
  exact List.take_left
theorem z1h {α:Type}{E:Enc α}{D m c:Nat}(I:α)(H1:(ev L x,ev L y)=(some (.int k (m:Int)),some (.int k' (c:Int))))(O:ElemOf P t T E D)(hz:∀w:World,(zeroValue T).run P w=.ok v w)(Z:v.cells=(E.enc I).toArray)(q:∀g w',g=w.heap.size->Own E T g w' (.slice (some ⟨g,0,none⟩) m c) (List.replicate m I)->Fr [] w w'->w'.heap.size=g+1->WL P ops Q rest n ds w' ((d,.slice (some ⟨g,0,none⟩) m c)::L))(M:m<=c:=by omega)(hb:c*D<=140737488355328:=by omega)(hM:c<=maxLen:=by unfold maxLen;omega)(hn:Nat.blt d n=true:=by exact U):WL P ops Q (⟨some d,.makeSlice t x y,ty,pos,after,none⟩::rest) n ds w L:=let⟨hx,hy⟩:=qi2 H1;λa h=>z8k I h hx hy O hz Z M hb hn q (hM:=hM)
end
end Go.Lw
namespace Go.Lw
section
variable {P:Program} {a:Act} {n:Nat} {L:List (Nat×Value)} {ds:List Nat} {w w':World} {ops:Array Oper} {C:World->Prop}
variable {d:Nat} {ty:TypeId} {pos:String} {after:Array Edge} {x y:Operand} {t T:TypeId} {k:IntKind} {i:Int}
theorem u5d {G:Option (Nat×Bool)}{K:Act->World->Prop}{fu:Nat}{listed:Array Bool}{pq:Option Nat}{ad:Addr}{N sz:Nat}(D:Nat)(hsel:Region.noSelect ops=true)(hfr:Fre pq ops listed D=true)(hre:(Region.ready .any ops listed).contains D=true)(hC:C w)(h:AgM ds a n L)(hG:Wd ops n L G)
    (hx:ev L x=some (.pointer (some ad))) (hy:ev L y=some (.int k i)) (hu:P.underlying t=some (.array N T)) (hs:z1t P T sz) (h0:0<=i) (h1:i<N) (hix:ops[D]?=some ⟨some d,.indexAddr t x y,ty,pos,after,G⟩) (hn:Nat.blt d n=true)
    (q:∀a,AgM ds a n ((d,.pointer (some (ad.add (i.toNat*sz))))::L)->z0y pq P ops (z0s K) C fu (listed.setIfInBounds D true) a w):z0y pq P ops (z0s K) C (fu+1) listed a w:=
  z6l D hsel hfr hre h hG hix U hn (λ_ _=>v2v h hx hy hu hs h0 h1) q
end
end Go.Lw
namespace Go.Lw
open Go.RowKit
section
variable {α:Type} {E:Enc α} {R T:TypeId} {base:Nat} {w w':World} {OV OV':Value} {ps:List (SV×List α)}
end
end Go.Lw
namespace Go.Lw
section
variable {α:Type} {E:Enc α} {R T:TypeId} {base:Nat} {w w':World} {OV:Value} {ps:List (SV×List α)}
end
end Go.Lw
namespace Go.Lw
open Go.ChangeShapes Go.WideShapes Go.ChangeAt Go.RowKit
section
variable {H:Type} {enc:TypeId×Value->H} {P:Program}
theorem y0l (hl:laidOutB P=true){W W':World}(hb:Below W.heap.size W W'){sp:Nat->Bool}:∀ {ts:List TypeId} {vs:List Value} {ds:List (DataW H)} {ps:List MemPlace},
    (∀t∈ts,P.readableRec t=true/\t<P.types.size)->(∀p∈ps,sp p.block=true)->(∀p∈ps,p.block<W.heap.size)->DataW.TrodAll enc P W 0 (λ_=>true) true ts vs ds ps->DataW.TrodAll enc P W' 0 sp true ts vs ds ps
  | [],vs,ds,ps,_,_,_,h=>by
    obtain⟨rfl,rfl,rfl⟩:=trodAll_nil h
    exact trodAll_mk0
  | t::ts,vs,ds,ps,ht,hs,hlt,h=>by
    obtain⟨v,a0,d,I,p,q,rfl,rfl,rfl,O,Z⟩:=trodAll_cons h
    refine trodAll_cons_mk (WideElems.Trod_stays hl (ht t sp0).1 (ht t sp0).2 O (λx D=>hb.same (hlt x (by simp[D]))) (λx D=>hs x (by simp[D]))) ?_
    exact y0l hl hb (λt' M=>ht t' (by simp[M])) (λx D=>hs x (by simp[D])) (λx D=>hlt x (by simp[D])) Z
theorem v2h {f:Func}{s:ChangeSpec}{D a3 I a2:Bool}{W W':World}{args:Array Value}{ds:List (DataW H)}{Z:List MemPlace}{tb:TypeId}
    (hW:DataW.Whole enc P f.params.toList s.vars D W args.toList ds [] Z) (hv:s.vars=[]) (hfn:s.fn H ds={ results:=[.lit (.bool true)],args:=ds }) (hf:Fr [] W W')
    (hl:laidOutB P=true) (hr:∀t∈f.params.toList,P.readableRec t=true/\t<P.types.size) (hrt:f.resultTypes=#[tb]) (hbt:P.underlying tb=some .bool):s.post enc P f D a3 I a2 W args (.bool true) W':=by
  have hb:=hf.below
  have a0:=hW.lt
  have a4:=hW
  obtain⟨pa,pv,hA,hV,rfl,hz,hn⟩:=hW
  rw[hv]at hV
  obtain⟨-,rfl⟩:=trodVars_none hV
  rw[List.append_nil]at a4 a0 hz hn
  have M:∀sp:Nat->Bool,(∀p∈pa,sp p.block=true)->DataW.TrodAll enc P W' 0 sp true f.params.toList args.toList (s.fn H (ds++[])).args pa:=by
    intro sp a7
    rw[List.append_nil,hfn]
    exact y0l hl hb hr a7 a0 hA
  have a1:∀(b:Nat) (sp:Nat->Bool) (hd:Bool),DataW.TrodAll enc P W' b sp hd f.resultTypes.toList ((Value.bool true).resultList f.resultTypes.size) (s.fn H (ds++[])).results []:=by
    intro b sp hd
    rw[List.append_nil,hfn,hrt]
    exact trodAll_cons_mk (shut_bool hbt true) trodAll_mk0
  have O:∀sp:Nat->Bool,DataW.TrodVars enc P W' sp s.vars (s.fn H (ds++[])).vars []:=by
    intro sp
    rw[hv,List.append_nil,hfn]
    rfl
  have a5:∀p∈pa,(λb=>decide (b<W.heap.size)) p.block=true:=λp hp=>by simpa using a0 p hp
  refine⟨ds,[],pa,[],pa,[],a4,a1 _ _ _,M _ a5,O _,World.keptBut_mono (λp hp=>⟨hp,by simp[hp]⟩) (hb.frame _),λ_=>⟨ok_one hrt U (okWide_bool_mk hbt true),_,_,([]++pa)++[],⟨[]++pa,[],trodAll_append (M _ (λ_ _=>rfl)) (a1 _ _ _),O _,rfl,?_,?_⟩,?_⟩⟩
  · intro b off hp
    have a6:MemPlace.cell b off∈pa:=by simpa using hp
    rw[hb.frozen (a0 _ a6)]
    exact hz b off a6
  · intro ha
    simpa using hn ha
  · intro p hp _
    simpa using hp
theorem x6w {f:FuncId}{fn:Func}{s:ChangeSpec}{D Z I O:Bool}{W:World}{args:Array Value}{ds:List (DataW H)}{M:List MemPlace}{tb:TypeId}
    (hw:Rets P f args W λv w'=>v=.bool true/\Fr [] W w')
    (hW:DataW.Whole enc P fn.params.toList s.vars D W args.toList ds [] M) (hv:s.vars=[]) (hfn:s.fn H ds={ results:=[.lit (.bool true)],args:=ds })
    (hl:laidOutB P=true) (hr:∀t∈fn.params.toList,P.readableRec t=true/\t<P.types.size) (hrt:fn.resultTypes=#[tb]) (hbt:P.underlying tb=some .bool) :
    Calls P f args W λe W'=>∃v,e=.returned v/\s.post enc P fn D Z I O W args v W':=
  Calls.mono hw λe w' ⟨v,he,hv',hf⟩=>⟨v,he,by subst hv';exact v2h hW hv hfn hf hl hr hrt hbt⟩
end
def litV {H:Type}:DataW H->Value
  | .lit (.int k z)=>.int k z
  | .lit (.string s)=>.string ⟨s.toArray⟩
  | _=>.bool false
def j3y {H:Type}:DataW H->List Value
  | .agg es=>es.map litV
  | d=>[litV d]
def tabV {H:Type}:DataW H->Array Value
  | .agg ds=>(ds.flatMap j3y).toArray
  | _=>#[]
def layW (w:World)(g:Nat)(cs:Array Value):World:=
  { w with heap:=w.heap.modify g fun
      | .cells _ t fr=>.cells cs t fr
      | o=>o }
noncomputable def j3t (P:Program)(os:Os)(laid:List (String×DataW Unit)):World:=
  laid.foldl (λw p=>match P.globalNamed p.1 with
    | some g=>layW w g (tabV p.2)
    | none=>w) (World.holding P os ⟨#[],#[],[]⟩)
end Go.Lw
namespace Go.Lw
open Go.ChangeShapes Go.WideShapes Go.ChangeAt Go.RowKit
def Enc.int (k:IntKind):Enc Int:=⟨λn=>[.int k n],1,λ_=>rfl,λ_ u h=>by simp at h;subst h;rfl,dd⟩
def Enc.bool:Enc Bool:=⟨λn=>[.bool n],1,λ_=>rfl,λ_ u h=>by simp at h;subst h;rfl,dd⟩
section
variable {P:Program} {t e:TypeId}
end
end Go.Lw
namespace Go.G21
open Go.Lw
structure LId where
  y:Int
  n:Int
deriving DecidableEq
structure Pa where
  id:LId
  f:Bool
  d:Int
deriving DecidableEq
structure Lp where
  b:Int
  nw:Bool
  th:List LId
  pa:List Pa
deriving DecidableEq
def id0:LId:=⟨0,0⟩
def pa0:Pa:=⟨id0,false,0⟩
abbrev idL (i:LId):List Value:=[.int .u8 i.y,.int .i64 i.n]
abbrev paL (p:Pa):List Value:=[.int .u8 p.id.y,.int .i64 p.id.n,.bool p.f,.int .u8 p.d]
def z1b:Enc LId:=⟨idL,2,λ_=>rfl,λ_ u h=>by simp at h;rcases h with rfl|rfl<;>rfl,dd⟩
def z2d:Enc Pa:=⟨paL,4,λ_=>rfl,λ_ u h=>by simp at h;rcases h with rfl|rfl|rfl|rfl<;>rfl,dd⟩
def sv0:SV:=(none,0,0)
structure LpQ where
  b:Int
  nw:Bool
  th:SV
  pa:SV
  ths:List LId
  pas:List Pa
def lq0:LpQ:=⟨0,false,sv0,sv0,[],[]⟩
abbrev LpQ.p (q:LpQ):Lp:=⟨q.b,q.nw,q.ths,q.pas⟩
abbrev lpL (q:LpQ):List Value:=[.int .u8 q.b,.bool q.nw,.slice q.th.1 q.th.2.1 q.th.2.2,.slice q.pa.1 q.pa.2.1 q.pa.2.2]
def z6j:Enc LpQ:=⟨lpL,4,λ_=>rfl,λ_ u h=>by simp at h;rcases h with rfl|rfl|rfl|rfl<;>rfl,dd⟩
abbrev TQ:=SV×List LpQ
def tq0:TQ:=(sv0,[])
def z3z:Enc TQ:=⟨λp=>[.slice p.1.1 p.1.2.1 p.1.2.2],1,λ_=>rfl,λ_ u h=>by simp at h;subst h;rfl,dd⟩
structure YQ where
  inn:Bool
  pl:Int
  ct:Int
  nw:Bool
  pe:SV
  pes:List Pa
def yq0:YQ:=⟨false,0,0,false,sv0,[]⟩
abbrev yqL (q:YQ):List Value:=[.bool q.inn,.int .i64 q.pl,.int .i64 q.ct,.bool q.nw,.slice q.pe.1 q.pe.2.1 q.pe.2.2]
def z2x:Enc YQ:=⟨yqL,5,λ_=>rfl,λ_ u h=>by simp at h;rcases h with rfl|rfl|rfl|rfl|rfl<;>rfl,dd⟩
abbrev IQ:=SV×List LId
def iq0:IQ:=(sv0,[])
def z6t:Enc IQ:=⟨λp=>[.slice p.1.1 p.1.2.1 p.1.2.2],1,λ_=>rfl,λ_ u h=>by simp at h;subst h;rfl,dd⟩
def LpAt (w:World)(q:LpQ):Prop:=Sl z1b w (slv q.th) q.ths/\Sl z2d w (slv q.pa) q.pas
def LpsAt (w:World)(l:List LpQ):Prop:=∀q∈l,LpAt w q
def TabAt (w:World)(t:List TQ):Prop:=∀p∈t,Sl z6j w (slv p.1) p.2/\LpsAt w p.2
def IqAt (w:World)(l:List IQ):Prop:=∀q∈l,Sl z1b w (slv q.1) q.2
section
variable {w w':World} (hf:Fr [] w w')
include hf
theorem LpAt.ext {q:LpQ}(h:LpAt w q):LpAt w' q:=⟨h.1.ext hf,h.2.ext hf⟩
theorem LpsAt.ext {l:List LpQ}(h:LpsAt w l):LpsAt w' l:=λq D=>(h q D).ext hf
theorem TabAt.ext {t:List TQ}(h:TabAt w t):TabAt w' t:=λp D=>⟨(h p D).1.ext hf,(h p D).2.ext hf⟩
theorem IqAt.ext {l:List IQ}(h:IqAt w l):IqAt w' l:=λq D=>(h q D).ext hf
end
theorem x1q {α β:Type}(f:α->List β)(l:List α)(i:Nat)(d:α)(h:i<l.length):(l.take (i+1)).flatMap f=(l.take i).flatMap f++f (l.getD i d):=by
 rw[List.take_add_one,List.getElem?_eq_getElem h,List.flatMap_append,List.getD,List.getElem?_eq_getElem h];simp
theorem y3r {α β:Type}(f:α->List β)(l:List α)(i:Nat):((l.take i).flatMap f).length<=(l.flatMap f).length:=by
 conv=>rhs;rw[<-List.take_append_drop i l,List.flatMap_append,List.length_append]
 omega
theorem x8q {α β:Type}(f:α->β)(l:List α)(i:Nat)(d:α)(e:β)(h:i<l.length):(l.map f).getD i e=f (l.getD i d):=by
 rw[List.getD,List.getD,List.getElem?_map,List.getElem?_eq_getElem h];rfl
theorem z1a {α:Type}{l:List α}{i:Nat}{d:α}(h:i<l.length):l.getD i d∈l:=by
 rw[List.getD,List.getElem?_eq_getElem h];exact List.getElem_mem h
theorem z2e {α:Type}{E:Enc α}{w:World}{p:SV}{l:List α}(h:Sl E w (slv p) l):p.2.1=l.length:=by
 obtain⟨A,c,e,_⟩:=h;simp only[slv,Value.slice.injEq]at e;exact e.2.1
abbrev z2g (t:List TQ):List (List Lp):=t.map λp=>p.2.map LpQ.p
structure Cx where
  a:LId
  b:LId
  n:Int
deriving DecidableEq
def cx0:Cx:=⟨id0,id0,0⟩
abbrev cxL (c:Cx):List Value:=[.int .u8 c.a.y,.int .i64 c.a.n,.int .u8 c.b.y,.int .i64 c.b.n,.int .i64 c.n]
def z4z:Enc Cx:=⟨cxL,5,λ_=>rfl,λ_ u h=>by simp at h;rcases h with rfl|rfl|rfl|rfl|rfl<;>rfl,dd⟩
structure FbQ where
  t:SV
  c:SV
  h:SV
  f:SV
  ts:List TQ
  cs:List Cx
  hs:List LId
  fs:List LId
structure Fb where
  t:List (List Lp)
  c:List Cx
  h:List LId
  f:List LId
deriving DecidableEq
abbrev FbQ.p (q:FbQ):Fb:=⟨z2g q.ts,q.cs,q.hs,q.fs⟩
structure FbAt (w:World) (q:FbQ):Prop where
  t:Sl z3z w (slv q.t) q.ts
  tt:TabAt w q.ts
  c:Sl z4z w (slv q.c) q.cs
  h:Sl z1b w (slv q.h) q.hs
  f:Sl z1b w (slv q.f) q.fs
theorem FbAt.ext {w w':World}{q:FbQ}(h:FbAt w q)(hf:Fr [] w w'):FbAt w' q:=⟨h.t.ext hf,h.tt.ext hf,h.c.ext hf,h.h.ext hf,h.f.ext hf⟩
theorem FbAt.len {w:World}{q:FbQ}(h:FbAt w q):q.t.2.1=q.ts.length/\q.c.2.1=q.cs.length/\q.h.2.1=q.hs.length/\q.f.2.1=q.fs.length:=⟨z2e h.t,z2e h.c,z2e h.h,z2e h.f⟩
end Go.G21
namespace Go.G21
open Go.Lw
def y1j (i:LId):Prop:=1<=i.y/\i.y<=6/\0<=i.n/\i.n<2048
instance (i:LId):Decidable (y1j i):=by unfold y1j;infer_instance
def z5z (d:Int):Prop:=d=0\/d=1
instance (d:Int):Decidable (z5z d):=by unfold z5z;infer_instance
def y0x (p:Pa):Prop:=y1j p.id/\z5z p.d
instance (p:Pa):Decidable (y0x p):=by unfold y0x;infer_instance
def u0s (p q:Pa):Prop:=(z5z p.d/\z5z q.d/\p.d≠q.d)/\p.id=q.id/\p.f=q.f
instance (p q:Pa):Decidable (u0s p q):=by unfold u0s;infer_instance
theorem u4b {p q:Pa}(h:¬((¬z5z p.d\/¬z5z q.d)\/p.d=q.d)):p=⟨q.id,q.f,p.d⟩↔u0s p q:=by
 have M:z5z p.d:=Classical.not_not.1 λe=>h (.inl (.inl e));have O:z5z q.d:=Classical.not_not.1 λe=>h (.inl (.inr e));have Z:p.d≠q.d:=λe=>h (.inr e);obtain⟨i,f,d⟩:=p;constructor;intro e;have D:=congrArg Pa.id e;have I:=congrArg Pa.f e;exact⟨⟨M,O,Z⟩,D,I⟩;rintro⟨-,D,I⟩;simp only at D I;rw[<-D,<-I]
theorem u5p {p q:Pa}(h:(¬z5z p.d\/¬z5z q.d)\/p.d=q.d):¬u0s p q:=λk=>h.elim (λe=>e.elim (λe=>e k.1.1) (λe=>e k.1.2.1)) (λe=>k.1.2.2 e)
def x8k (x:Int):Prop:=Int.tmod x 2≠0/\-13<=x/\x<=179
instance (x:Int):Decidable (x8k x):=by unfold x8k;infer_instance
def y0c (st:List Pa)(p:Pa):List Pa:=if 0<st.length/\u0s (st.getD (st.length-1) pa0) p then st.take (st.length-1) else st++[p]
def z4w (st l:List Pa):List Pa:=l.foldl y0c st
theorem v0w (st:List Pa)(p:Pa):(y0c st p).length<=st.length+1:=by
 unfold y0c;split;rw[List.length_take];omega;simp
theorem y1c:∀(l st:List Pa),(z4w st l).length<=st.length+l.length
 | [],st=>by simp[z4w]
 | p::l,st=>by
  have D:=y1c l (y0c st p)
  have I:=v0w st p
  simp only[z4w,List.foldl_cons,List.length_cons]at D ⊢
  omega
theorem y1q (st l:List Pa)(i:Nat)(h:i<l.length):z4w st (l.take (i+1))=y0c (z4w st (l.take i)) (l.getD i pa0):=by
 rw[List.take_add_one,List.getElem?_eq_getElem h,z4w,List.foldl_append,List.getD,List.getElem?_eq_getElem h];rfl
def y5r (l:List Pa):Prop:=∀i,i<l.length->y0x (l.getD i pa0)/\(0<i->¬u0s (l.getD (i-1) pa0) (l.getD i pa0))
instance (l:List Pa):Decidable (y5r l):=by unfold y5r;infer_instance
structure Yn where
  inn:Bool
  pl:Int
  ct:Int
  nw:Bool
  pe:List Pa
abbrev YQ.p (q:YQ):Yn:=⟨q.inn,q.pl,q.ct,q.nw,q.pes⟩
def y2m (y:Yn):Prop:=(0<=y.ct/\y.ct<=2048)/\(if y.inn=true then x8k y.pl/\y.pe.length<=4096/\y5r y.pe else y.pl=0/\y.nw=false/\y.pe.length=0)
instance (y:Yn):Decidable (y2m y):=by unfold y2m;infer_instance
def ynE (y:Yn):Int:=if y2m y then 0 else 1
def j0c (l:List Pa):Prop:=∀p∈l,y0x p
instance (l:List Pa):Decidable (j0c l):=by unfold j0c;infer_instance
def goE (y:Yn)(pl:Int)(l:List Pa):Int:=if ynE y≠0 then ynE y else if ¬x8k pl then 1 else if ¬j0c l then 1 else if y.inn=false then 12 else if 4096<(z4w y.pe l).length then 3 else 0
def goS (y:Yn)(pl:Int)(l:List Pa):Yn:=⟨y.inn,pl,y.ct,y.nw,z4w y.pe l⟩
def mkE (y:Yn):Int:=if ynE y≠0 then ynE y else if y.inn=false then 12 else if y.ct=2048 then 3 else 0
def enE (y:Yn)(d:Int):Int:=if ynE y≠0 then ynE y else if ¬z5z d then 1 else if y.inn=true then 12 else 0
def enS (y:Yn)(d:Int):Yn:=⟨true,if d=1 then 179 else -13,y.ct,true,[]⟩
def lvE (y:Yn):Int:=if ynE y≠0 then ynE y else if y.inn=false then 12 else 0
theorem j3v {y:Yn}(h:y2m y):ynE y=0:=if_pos h
theorem u6z {y:Yn}(h:¬y2m y):ynE y=1:=if_neg h
theorem yn_a {y:Yn}(h:y.ct<0\/2048<y.ct):ynE y=1:=u6z λe=>by have:=e.1;omega
theorem yn_b {y:Yn}(I:y.inn=false)(h:(y.pl≠0\/y.nw=true)\/0<(y.pe.length:Int)):ynE y=1:=u6z λe=>by
 have D:=e.2
 rw[if_neg (by rw[I];decide)]at D
 rcases h with (h|h)|h
 ·exact h D.1
 ·rw[D.2.1]at h;cases h
 omega
theorem yn_c {y:Yn}(I:¬(y.ct<0\/2048<y.ct))(D:y.inn=false)(h:¬((y.pl≠0\/y.nw=true)\/0<(y.pe.length:Int))):ynE y=0:=j3v ⟨oo,by
 rw[if_neg (by rw[D];decide)]
 refine⟨Classical.not_not.1 λe=>h (.inl (.inl e)),?_,oo⟩
 cases e:y.nw
 ·rfl
 exact absurd (.inl (.inr e)) h⟩
theorem yn_d {y:Yn}(I:y.inn=true)(h:¬x8k y.pl\/4096<(y.pe.length:Int)):ynE y=1:=u6z λe=>by
 have D:=e.2
 rw[if_pos I]at D
 rcases h with h|h
 ·exact h D.1
 omega
def v2a (l:List Pa)(i:Nat):Prop:=y0x (l.getD i pa0)/\(0<i->¬u0s (l.getD (i-1) pa0) (l.getD i pa0))
theorem yn_e {y:Yn}{i:Nat}(I:y.inn=true)(hl:i<y.pe.length)(h:¬v2a y.pe i):ynE y=1:=u6z λe=>by
 have D:=e.2
 rw[if_pos I]at D
 exact h (D.2.2 i hl)
theorem yn_f {y:Yn}(M:¬(y.ct<0\/2048<y.ct))(I:y.inn=true)(h:¬(¬x8k y.pl\/4096<(y.pe.length:Int)))(D:∀i,i<y.pe.length->v2a y.pe i):ynE y=0:=j3v ⟨oo,by
 rw[if_pos I]
 exact⟨Classical.not_not.1 λe=>h (.inl e),oo,D⟩⟩
theorem v3i {y:Yn}(h:ynE y=0):y2m y:=by unfold ynE at h;split at h;assumption;omega
abbrev Lst:=Option (Int×Nat)
end Go.G21
namespace Go.Lw
section
variable {a:Act} {w:World} {Q:Exit->Act->World->Prop}
end
end Go.Lw
namespace Go.Lw
theorem Fr.drewN (S:List Nat)(w:World)(n:Nat):Fr S w (w.drewN n):=⟨rfl,rfl,rfl,Nat.le_refl _,λ_ _ _=>rfl⟩
def IntAt (g:Nat)(w:World):Prop:=∃m:Int,w.cell? ⟨g,0,none⟩=some (.int .i64 m)
theorem IntAt.fr {g:Nat}{S:List Nat}{w w':World}(h:IntAt g w)(hf:Fr S w w')(hn:g∉S:=by simp[z0v]<;>omega):IntAt g w':=let ⟨m,hm⟩:=h;⟨m,hf.cell hm hn⟩
theorem IntAt.ext {g:Nat}{w w':World}(h:IntAt g w)(hf:Fr [] w w'):IntAt g w':=h.fr hf sp0
theorem IntAt.lt {g:Nat}{w:World}(h:IntAt g w):g<w.heap.size:=let ⟨_,hm⟩:=h;block_lt_of_cell hm
end Go.Lw
namespace Go.Lw
section
variable {P:Program} {a:Act} {n:Nat} {L:List (Nat×Value)} {ds:List Nat} {w w':World} {Q:Exit->Act->World->Prop} {ops:Array Oper} {rest:List Oper}
variable {d:Nat} {ty:TypeId} {pos:String} {after:Array Edge} {x y:Operand} {t t' T:TypeId} {A:Option Addr} {m c:Nat}
end
end Go.Lw
namespace Go.Lw
open Go.RowKit
section
variable {P:Program} {a:Act} {n:Nat} {L:List (Nat×Value)} {ds:List Nat} {w w':World} {Q:Exit->Act->World->Prop} {C:World->Prop} {Qa:Act->Prop} {ops:Array Oper} {rest:List Oper} {d d2:Nat} {ty ty2:TypeId} {pos pos2:String} {after after2:Array Edge} {v u:Value} {x y z:Operand} {t T:TypeId} {k k' k'':IntKind} {i j:Int}
theorem AgM.skip1 {v1 v2:Value}(h:AgM ds a n ((d2,v2)::(d,v1)::L))(hf:look L d=none):AgM ds a n ((d2,v2)::L):=
 ⟨h.dfr,h.size,λt u D=>h.at_ t u (by
  simp only[look]at D ⊢
  by_cases e2:d2=t
  ·subst e2;simpa using D
  rw[y7b e2]at D ⊢
  by_cases e:d=t
  ·subst e;exact absurd (hf.symm.trans D) sp0
  rw[y7b e];exact D)⟩
theorem Sl.at {α:Type}{E:Enc α}{ys:List α}(hs:Sl E w v ys){p:Nat}(hp:p<ys.length):∃ad c,v=.slice (some ad) ys.length c/\∀W,Sl E W v ys->Cells W (ad.add (p*E.sz)) (E.enc ys[p]):=by
 obtain⟨A,c,rfl,h1,h2,M⟩:=hs;obtain⟨ad,rfl,_⟩:=M p _ (List.getElem?_eq_getElem hp);refine⟨ad,c,rfl,λW O=>?_⟩;obtain⟨A',c',e,_,_,D⟩:=O;cases e;obtain⟨I,e,Z⟩:=D p _ (List.getElem?_eq_getElem hp);cases e;exact Z
theorem y3w {α:Type}(ys:List α)(p:Nat)(hp:p<ys.length)(z:α):ys[p]=ys.getD p z:=by simp[List.getD,hp]
theorem Sl.at' {α:Type}{E:Enc α}{ys:List α}(O:Sl E w v ys){p:Nat}(hp:p<ys.length)(D:α):∃ad c,v=.slice (some ad) ys.length c/\∀W,Sl E W v ys->Cells W (ad.add (p*E.sz)) (E.enc (ys.getD p D)):=by
 obtain⟨ad,c,I,M⟩:=O.at hp;exact⟨ad,c,I,by rw[<-y3w ys p hp D];exact M⟩
theorem u5f {α:Type}{E:Enc α}{D:Nat}{ys:List α}{p:Nat}(I:α)(h:AgM ds a n L)(hx:ev L x=some v)(hs:Sl E w' v ys)(hy:ev L y=some (.int k i))(Z:ElemOf P t T E D)(M:0<=i)(h1:i<ys.length)(hp:i.toNat=p)(hn:Nat.blt d n=true)
    (q:∀ad,(∀W,Sl E W v ys->Cells W ad (E.enc (ys.getD p I)))->∀a,AgM ds a n ((d,.pointer (some ad))::L)->wpList P ops Q rest a w):wpList P ops Q (⟨some d,.indexAddr t x y,ty,pos,after,none⟩::rest) a w:=by
  subst hp
  obtain⟨ad,c,rfl,O⟩:=hs.at' (p:=i.toNat) oo I
  exact y9h h hx hy Z M h1 U hn (q _ O)
theorem z1d {α:Type}{E:Enc α}{D:Nat}{ys:List α}{p:Nat}(I:α)(hx:ev L x=some v)(Z:Sl E w' v ys)(hy:ev L y=some (.int k i))(O:ElemOf P t T E D)(hp:i.toNat=p)(q:∀ad,(∀W,Sl E W v ys->Cells W ad (E.enc (ys.getD p I)))->WL P ops Q rest n ds w ((d,.pointer (some ad))::L))(M:0<=i:=by omega)(h1:i<ys.length:=by omega)(hn:Nat.blt d n=true:=by exact U):WL P ops Q (⟨some d,.indexAddr t x y,ty,pos,after,none⟩::rest) n ds w L:=λa h=>u5f I h hx Z hy O M h1 hp hn q
theorem v3f {α:Type}{E:Enc α}{D:Nat}{ys:List α}{p:Nat}(I:α)(h:AgM ds a n L)(hx:ev L x=some v)(hs:Sl E w' v ys)(hy:ev L y=some (.int k i))(Z:ElemOf P t T E D)(M:0<=i)(h1:i<ys.length)(hp:i.toNat=p)(hn:Nat.blt d n=true)
    (q:∀ad,(∀W,Sl E W v ys->Cells W ad (E.enc (ys.getD p I)))->∀a,AgM ds a n ((d,.pointer (some ad))::L)->wpQuiet P ops C Qa rest a):wpQuiet P ops C Qa (⟨some d,.indexAddr t x y,ty,pos,after,none⟩::rest) a:=by
  subst hp
  obtain⟨ad,c,rfl,O⟩:=hs.at' (p:=i.toNat) oo I
  exact u4f h hx hy Z M h1 U hn (q _ O)
theorem z1e {G:Option (Nat×Bool)}{K:Act->World->Prop}{fu:Nat}{listed:Array Bool}{pq:Option Nat}{α:Type}{E:Enc α}{D:Nat}{ys:List α}{p:Nat}(O:α)(I:Nat)(h:AgM ds a n L)(hx:ev L x=some v)(hs:Sl E w' v ys)(hy:ev L y=some (.int k i))(he:ElemOf P t T E D)(M:ops[I]?=some ⟨some d,.indexAddr t x y,ty,pos,after,G⟩)(q:∀ad,(∀W,Sl E W v ys->Cells W ad (E.enc (ys.getD p O)))->∀a,AgM ds a n ((d,.pointer (some ad))::L)->z0y pq P ops (z0s K) C fu (listed.setIfInBounds I true) a w)(hsel:Region.noSelect ops=true:=by kernel_rfl)(hfr:Fre pq ops listed I=true:=by kernel_rfl)(hre:(Region.ready .any ops listed).contains I=true:=by kernel_rfl)(hC:C w:=by exact hC)(hG:Wd ops n L G:=by exact wn)(Z:0<=i:=by omega)(h1:i<ys.length:=by omega)(hp:i.toNat=p:=by omega)(hn:Nat.blt d n=true:=by exact U):z0y pq P ops (z0s K) C (fu+1) listed a w:=by
 subst hp;obtain⟨ad,c,rfl,hc⟩:=hs.at' (p:=i.toNat) oo O;exact z1m I hsel hfr hre hC h hG (pi2 hx hy) he Z h1 U M hn (q _ hc)
theorem z2p {G:Option (Nat×Bool)}{K:Act->World->Prop}{fu:Nat}{listed:Array Bool}{pq:Option Nat}{ad:Addr}(D:Nat)(h:AgM ds a n L)(hG:Wd ops n L G)(hx:ev L x=some (.pointer (some ad)))(O:∀w,C w->Cells w ad [v])(Z:z1y P t)(I:ops[D]?=some ⟨some d,.load t x,ty,pos,after,G⟩)(q:∀a,AgM ds a n ((d,v)::L)->z0y pq P ops (z0s K) C fu (listed.setIfInBounds D true) a w)(hsel:Region.noSelect ops=true:=by kernel_rfl)(hfr:Fre pq ops listed D=true:=by kernel_rfl)(hre:(Region.ready .any ops listed).contains D=true:=by kernel_rfl)(hC:C w:=by exact hC)(hn:Nat.blt d n=true:=by exact U):z0y pq P ops (z0s K) C (fu+1) listed a w:=
  y7g D hsel hfr hre hC h hG hx (λW M=>by have:=O W M 0 v U;rwa [Addr.add_zero']at this) Z I hn q
theorem u3x {ad:Addr}{f off D:Nat}(h:AgM ds a n L)(I:ev L x=some (.pointer (some (ad.add D))))(hf:z1c P t f off)(hn:Nat.blt d n=true)(q:∀a,AgM ds a n ((d,.pointer (some (ad.add (D+off))))::L)->wpList P ops Q rest a w):wpList P ops Q (⟨some d,.fieldAddr t x f,ty,pos,after,none⟩::rest) a w:=
 y2k h I hf hn (by rw[z8r];exact q)
theorem x1e {ad:Addr}{f off D:Nat}(I:ev L x=some (.pointer (some (ad.add D))))(hf:z1c P t f off)(hn:Nat.blt d n=true)(q:WL P ops Q rest n ds w ((d,.pointer (some (ad.add (D+off))))::L)):WL P ops Q (⟨some d,.fieldAddr t x f,ty,pos,after,none⟩::rest) n ds w L:=λa h=>u3x h I hf hn q
theorem z5b {G:Option (Nat×Bool)}{K:Act->World->Prop}{fu:Nat}{listed:Array Bool}{pq:Option Nat}{ad:Addr}{f off M:Nat}(D:Nat)(h:AgM ds a n L)(hG:Wd ops n L G)(O:ev L x=some (.pointer (some (ad.add M))))(hf:z1c P t f off)(I:ops[D]?=some ⟨some d,.fieldAddr t x f,ty,pos,after,G⟩)(q:∀a,AgM ds a n ((d,.pointer (some (ad.add (M+off))))::L)->z0y pq P ops (z0s K) C fu (listed.setIfInBounds D true) a w)(hsel:Region.noSelect ops=true:=by kernel_rfl)(hfr:Fre pq ops listed D=true:=by kernel_rfl)(hre:(Region.ready .any ops listed).contains D=true:=by kernel_rfl)(hC:C w:=by exact hC)(hn:Nat.blt d n=true:=by exact U):z0y pq P ops (z0s K) C (fu+1) listed a w:=
  z0c D h O hf I (by rw[z8r];exact q) (hsel:=hsel) (hfr:=hfr) (hre:=hre) (hG:=hG) (hn:=hn)
theorem v9c {G:Option (Nat×Bool)}{K:Act->World->Prop}{fu:Nat}{listed:Array Bool}{pq:Option Nat}{ad:Addr}{off:Nat}{cs:List Value}(D:Nat)(hsel:Region.noSelect ops=true)(hfr:Fre pq ops listed D=true)(hre:(Region.ready .any ops listed).contains D=true)(hC:C w)(h:AgM ds a n L)(hG:Wd ops n L G)(hx:ev L x=some (.pointer (some (ad.add off))))(M:∀w,C w->Cells w ad cs)(Z:cs[off]?=some v)(O:z1y P t)
    (hix:ops[D]?=some ⟨some d,.load t x,ty,pos,after,G⟩) (hn:Nat.blt d n=true) (q:∀a,AgM ds a n ((d,v)::L)->z0y pq P ops (z0s K) C fu (listed.setIfInBounds D true) a w):z0y pq P ops (z0s K) C (fu+1) listed a w:=
  y7g D hsel hfr hre hC h hG hx (λW I=>M W I off v Z) O hix hn q
theorem Blk.part {w:World}{g T off:Nat}{cs vs:List Value}(hb:Blk w g T cs)(M:(cs.drop off).take vs.length=vs):Cells w ((⟨g,0,none⟩:Addr).add off) vs:=λj u D=>by
 rw[<-M]at D
 have I:(cs.drop off)[j]?=some u:=by
  rw[List.getElem?_take]at D;split at D
  ·exact D
  cases D
 rw[List.getElem?_drop]at I
 rw[z8r];exact hb.cellAdd I
theorem z1f {G:Option (Nat×Bool)}{K:Act->World->Prop}{fu:Nat}{listed:Array Bool}{pq:Option Nat}{g T off:Nat}{cs vs:List Value}(D:Nat)(h:AgM ds a n L)(hx:ev L x=some (.pointer (some ((⟨g,0,none⟩:Addr).add off))))(hb:∀w,C w->Blk w g T cs)(M:z3p P t vs.length)(O:(cs.drop off).take vs.length=vs)(I:ops[D]?=some ⟨some d,.load t x,ty,pos,after,G⟩)(q:∀a,AgM ds a n ((d,.agg vs.toArray)::L)->z0y pq P ops (z0s K) C fu (listed.setIfInBounds D true) a w)(hsel:Region.noSelect ops=true:=by kernel_rfl)(hfr:Fre pq ops listed D=true:=by kernel_rfl)(hre:(Region.ready .any ops listed).contains D=true:=by kernel_rfl)(hC:C w:=by exact hC)(hG:Wd ops n L G:=by exact wn)(hn:Nat.blt d n=true:=by exact U):z0y pq P ops (z0s K) C (fu+1) listed a w:=
  z1x D h hG hx (λw Z=>(hb w Z).part O) M I q (hsel:=hsel) (hfr:=hfr) (hre:=hre) (hn:=hn)
end
end Go.Lw
namespace Go.Lw
open Go.RowKit
abbrev Fo (r:Option Nat):Fence:={ Fence.wide with round:=r }
section
variable {P:Program} {a:Act} {n N:Nat} {L:List (Nat×Value)} {ds:List Nat} {w w':World} {Q:Exit->Act->World->Prop} {ops:Array Oper} {rest:List Oper} {o:Oper} {r:Option Nat}
theorem v7l {f:FuncId}{args:Array Value}{R:Ending->World->Prop}(h:Calls P f args w R):CallsIn (Fo r) N P f args w R:=(callsIn_wide (n:=N)).2 h
theorem x3o {f:FuncId}{args:Array Value}{R:Ending->World->Prop}(h:CallsIn (Fo r) N P f args w R):Calls P f args w R:=(callsIn_wide (n:=N)).1 h
theorem u3o {row:String}{args:Array Value}{R:Value->World->Prop}(h:Rows P row args w R):RowsIn (Fo r) N P row args w R:=λc cs _=>by
 obtain⟨v,w',D,I⟩:=h c cs
 exact⟨v,w',D,(stepsIn_wide (P:=P)).2 I⟩
def Oper.noDefer (o:Oper):Bool:=match o.op with|.defer _=>false|_=>true
theorem u0y (h:Oper.noDefer o=true)(ρ:Operand->Value):Oper.semAt (Fo r).round ρ o=execOp ρ o:=by
 cases r with
 | none=>rfl
 | some l=>exact Oper.semAt_some l ρ o (λc e=>by simp[Oper.noDefer,e]at h)
theorem u4p {K:Act->World->Prop}{E:Act->World->Prop}(I:Oper.noDefer o=true)(h:o.wp P a w K (z0s E)):o.wpIn (Fo r) N P a w K Q:=by
 refine⟨λ_ _=>trivial,?_⟩;rw[u0y I];unfold Oper.wp at h;generalize (execOp a.eval o).run P w=x at h ⊢;cases x with
 | ok nx w'=>
  cases nx<;>simp only[Oper.upon,Oper.uponIn]at h ⊢<;>first
   | exact h
   | exact⟨λe=>by simp[Fo,Fence.wide]at e,v7l (Calls.mono h λe M D=>by cases e<;>first|exact D|exact D.elim|(obtain⟨_,_,D⟩:=D;exact D.elim))⟩
   | exact⟨λe=>by simp[Fo,Fence.wide]at e,u3o h⟩
 | halt x w'=>cases x<;>simp only[Oper.upon,Oper.uponIn]at h ⊢<;>exact h.elim
theorem u8n {E:Act->World->Prop}:¬LetsOut (z0s E):=by rintro⟨_,_,h⟩;exact h
theorem y4n {E:Act->World->Prop}(D:List Oper)(I:∀a w,E a w->wpListIn (Fo r) N P ops Q D a w):∀(l:List Oper) (a:Act) (w:World),l.all Oper.noDefer=true->wpList P ops (z0s E) l a w->wpListIn (Fo r) N P ops Q (l++D) a w
 | [],a,w,_,h=>I a w h
 | o::l,a,w,hd,h=>by
  simp only[List.all_cons,Bool.and_eq_true]at hd
  unfold wpList at h
  rw[List.cons_append];unfold wpListIn
  split
  ·rename_i M
   rw[if_pos M]at h
   rcases h with h|⟨_,h⟩
   ·exact Oper.wpIn_mono (λa w h=>y4n D I l a w hd.2 h) (u4p hd.1 h)
   exact absurd h u8n
  rename_i M
  rw[if_neg M]at h
  exact⟨λ_ _=>trivial,y4n D I l _ w hd.2 h⟩
theorem ireg {id:Nat}{l:List Oper}(D:l.all Oper.noDefer=true)(h:wpList P l.toArray (z0s (Q .normal)) l a w):(Code.region id l.toArray false).wpIn (Fo r) N P Q a w:=by
 refine wpIn_region_lit ?_;have:=y4n (r:=r) (N:=N) (Q:=Q) [] (λa w h=>wpListIn_nil h) l a w D h;rwa [List.append_nil]at this
theorem v9s (h:Q .normal a w):wpList P ops (z0s (Q .normal)) [] a w:=h
theorem x8j {c:Operand}{x y:Code}(h:AgM ds a n L)(D:ev L c=some (.bool true))(k:x.wpIn (Fo r) N P Q a w):(Code.cond c x y).wpIn (Fo r) N P Q a w:=wpIn_cond_true (h.eval D) k
theorem x3x {c:Operand}{x y:Code}(h:AgM ds a n L)(D:ev L c=some (.bool false))(k:y.wpIn (Fo r) N P Q a w):(Code.cond c x y).wpIn (Fo r) N P Q a w:=wpIn_cond_false (h.eval D) k
theorem x3g {c:Operand}{x y:Code}{b:Bool}(h:AgM ds a n L)(D:ev L c=some (.bool b))(I:b=true->x.wpIn (Fo r) N P Q a w)(hf:b=false->y.wpIn (Fo r) N P Q a w):(Code.cond c x y).wpIn (Fo r) N P Q a w:=
 wpIn_cond_split (h.eval D) I hf
theorem j3w {c:Code}{ι:Type}(L:ι->List (Nat×Value))(I:ι->World->Prop)(μ:ι->Nat)(i:ι)(h:AgM ds a n (L i))(hI:I i w)
    (round:∀i w a,AgM ds a n (L i)->I i w->c.wpIn (Fo r) N P (Exit.then (λZ w'=>∃j,AgM ds Z n (L j)/\I j w'/\μ j<μ i) Q) a w):(Code.loop c).wpIn (Fo r) N P Q a w:=by
  intro b k cs a4 hb hr
  have a5:∀m i w a,μ i=m->AgM ds a n (L i)->I i w->
      ∃e Z w',Q e Z w'/\ArrivesIn (Machine.fenced P (Fo r)) P (lone (b.atR a (.code c::.inLoop c::k)) cs w) b k cs e Z w':=by
    intro m
    induction m using Nat.strongRecOn with
    | _ m ih=>
      intro i w a hm hA hI
      obtain⟨e,a₁,w₁,M,D⟩:=round i w a hA hI b (.inLoop c::k) cs a4 hb hr
      cases e with
      | normal=>
        obtain⟨j,a0,a1,a2⟩:=M
        obtain⟨e₂,a₂,w₂,a3,O⟩:=ih (μ j) (hm▸a2) j w₁ a₁ U a0 a1
        exact⟨e₂,a₂,w₂,a3,.of_steps (StepsIn.trans D (.one (fenced_calm hb hr U) stepR_inLoop)) O⟩
      | exit id=>exact⟨_,a₁,w₁,M,.pass (x:=.inLoop c) U (λ_ _=>.inl sp0) D⟩
      | goto l=>exact⟨_,a₁,w₁,M,.pass (x:=.inLoop c) U (λ_ _=>.inl sp0) D⟩
      | ret=>exact⟨_,a₁,w₁,M,.pass (x:=.inLoop c) U (λ_ _=>.inl sp0) D⟩
      | panic ch=>exact⟨_,a₁,w₁,M,.pass (x:=.inLoop c) U (λ_ _=>.inl sp0) D⟩
      | outgrown=>exact⟨_,a₁,w₁,M,.pass (x:=.inLoop c) U (λ_ _=>.inl sp0) D⟩
  obtain⟨e,Z,w',M,D⟩:=a5 _ i w a U h hI
  exact⟨e,Z,w',M,.of_steps (.one (fenced_calm hb hr U) stepR_loop) D⟩
end
end Go.Lw
namespace Go.Lw
open Go.RowKit
structure FrK (K:Nat->Prop) (w w':World):Prop where
  os:w'.os=w.os
  tape:w'.tape=w.tape
  output:w'.output=w.output
  size:w.heap.size<=w'.heap.size
  block:∀k,k<w.heap.size->K k->w'.heap[k]?=w.heap[k]?
theorem FrK.refl (K:Nat->Prop)(w:World):FrK K w w:=⟨rfl,rfl,rfl,Nat.le_refl _,λ_ _ _=>rfl⟩
theorem FrK.trans {K I:Nat->Prop}{x y z:World}(h:FrK K x y)(D:FrK I y z)(O:∀k,k<x.heap.size->K k->I k):FrK K x z:=
 ⟨D.os.trans h.os,D.tape.trans h.tape,D.output.trans h.output,Nat.le_trans h.size D.size,λk hl M=>
  (D.block k (Nat.lt_of_lt_of_le hl h.size) (O k hl M)).trans (h.block k hl M)⟩
theorem FrK.weak {K D:Nat->Prop}{x y:World}(h:FrK K x y)(M:∀k,k<x.heap.size->D k->K k):FrK D x y:=⟨h.os,h.tape,h.output,h.size,λk hl I=>h.block k hl (M k hl I)⟩
theorem Fr.toK {S:List Nat}{w w':World}(h:Fr S w w'):FrK (·∉S) w w':=⟨h.os,h.tape,h.output,h.size,h.block⟩
theorem FrK.step {K:Nat->Prop}{S:List Nat}{x y z:World}(h:FrK K x y)(D:Fr S y z)(M:∀k∈S,k<x.heap.size->¬K k):FrK K x z:=
 h.trans D.toK λk hl I e=>M k e hl I
theorem FrK.next {K:Nat->Prop}{x y z:World}(h:FrK K x y)(D:Fr [] y z):FrK K x z:=h.step D sp0
section
variable {α:Type} {E:Enc α} {T:TypeId} {base g:Nat} {w w':World} {v:Value} {ys:List α} {K:Nat->Prop} {cs:List Value} {ad:Addr}
theorem FrK.cell (h:FrK K w w'){p:Addr}{u:Value}(D:w.cell? p=some u)(hn:K p.block):w'.cell? p=some u:=
 (World.cell?_of_block (w:=w) (h.block p.block (block_lt_of_cell D) hn)).trans D
end
def Turn (n0:Nat)(W W':World):Prop:=∃row,W.grownBy W' row/\∀r,row=some r->n0<=r/\∃o:Obj,W.heap[r]?=some o/\o.isCells=false
section
variable {α:Type} {E:Enc α} {T:TypeId} {base g n0:Nat} {w W W':World} {v:Value} {ys:List α} {K:Nat->Prop} {cs:List Value} {ad:Addr} {S:List Nat}
theorem Turn.at (h:Turn n0 W W'){k:Nat}{o:Obj}(I:W.heap[k]?=some o)(D:o.isCells=true\/k<n0):W'.heap[k]?=some o:=by
 obtain⟨row,Z,hr⟩:=h;refine(Z.block k (Array.getElem?_eq_some_iff.1 I).1 λe=>?_).trans I;obtain⟨h1,o',M,O⟩:=hr k e.symm;rw[I]at M;cases M;rcases D with D|D
 rw[D]at O;cases O;omega
theorem y8w {p:Addr}{u:Value}(h:W.cell? p=some u):∃o,W.heap[p.block]?=some o/\o.isCells=true:=by
 unfold World.cell? at h;split at h;rename_i e;exact⟨_,e,rfl⟩;cases h
theorem Turn.cell (h:Turn n0 W W'){p:Addr}{u:Value}(I:W.cell? p=some u):W'.cell? p=some u:=by
 obtain⟨o,D,M⟩:=y8w I;exact(World.cell?_of_block (w:=W) ((h.at D (.inl M)).trans D.symm)).trans I
theorem Cells.turn (h:Cells W ad cs)(D:Turn n0 W W'):Cells W' ad cs:=λj u I=>D.cell (h j u I)
theorem Sl.turn (h:Sl E W v ys)(Z:Turn n0 W W'):Sl E W' v ys:=by
 obtain⟨A,c,rfl,D,I,M⟩:=h;exact⟨A,c,rfl,D,I,λi y hy=>by obtain⟨ad,rfl,O⟩:=M i y hy;exact⟨ad,rfl,O.turn Z⟩⟩
theorem Own.turn (h:Own E T base W v ys)(M:Turn n0 W W'):Own E T base W' v ys:=by
 rcases h with ⟨rfl,rfl⟩|⟨g,cap,cur,rfl,D,I,r⟩
 exact .inl ⟨rfl,rfl⟩;exact .inr ⟨g,cap,cur,rfl,D,M.at I (.inl U),r⟩
theorem Blk.turn (h:Blk W g T cs)(D:Turn n0 W W'):Blk W' g T cs:=D.at h (.inl U)
theorem Fr.turn (h:Fr S w W)(Z:Turn n0 W W')(hn:w.heap.size<=n0):Fr S w W':=by
 obtain⟨row,D,O⟩:=Z;exact⟨D.os.trans h.os,D.tape.trans h.tape,D.output.trans h.output,Nat.le_trans h.size D.size,λk I M=>
  (D.block k (Nat.lt_of_lt_of_le I h.size) (λe=>by have:=(O k e.symm).1;omega)).trans (h.block k I M)⟩
theorem FrK.turn (h:FrK K w W)(Z:Turn n0 W W')(hn:w.heap.size<=n0):FrK K w W':=by
 obtain⟨row,D,O⟩:=Z;exact⟨D.os.trans h.os,D.tape.trans h.tape,D.output.trans h.output,Nat.le_trans h.size D.size,λk I M=>
  (D.block k (Nat.lt_of_lt_of_le I h.size) (λe=>by have:=(O k e.symm).1;omega)).trans (h.block k I M)⟩
end
def Keep (B:List Nat)(W W':World):Prop:=∀b∈B,W'.heap[b]?=W.heap[b]?
def x4c (W:World)(k:Nat):Prop:=∃o:Obj,W.heap[k]?=some o/\o.isCells=false
section
variable {P:Program} {a:Act} {n N:Nat} {L:List (Nat×Value)} {ds:List Nat} {w w':World} {Q:Exit->Act->World->Prop} {ops:Array Oper} {rest:List Oper} {o:Oper} {r:Option Nat}
theorem v2m (h:AgM ds a n L):∀(ps:List (Nat×Value)),ps.all (λp=>Nat.blt p.1 n)=true->AgM [] { tmps:=ps.foldl (λt p=>t.setIfInBounds p.1 p.2) a.tmps,defers:=[] } n (ps.reverse++L):=by
 intro ps D;have M:AgM [] { a with defers:=[] } n L:=⟨rfl,h.size,h.at_⟩;have I:∀(ps:List (Nat×Value)) (a:Act) (L:List (Nat×Value)),ps.all (λp=>Nat.blt p.1 n)=true->AgM [] a n L->AgM [] { tmps:=ps.foldl (λt p=>t.setIfInBounds p.1 p.2) a.tmps,defers:=[] } n (ps.reverse++L):=by
  intro ps;induction ps with
  | nil=>intro a L _ h;exact⟨rfl,h.size,h.at_⟩
  | cons p ps ih=>
   intro a L D h;simp only[List.all_cons,Bool.and_eq_true]at D;have:=ih (a.put (some p.1) p.2) _ D.2 (h.put D.1 p.2);simpa[Act.put] using this
 exact I ps { a with defers:=[] } L D M
theorem u7u {f:FuncId}{fn:Func}{c:Code}{args:Array Value}{R:Ending->World->Prop}(L:List (Nat×Value))
    (hf:P.funcs[f]?=some fn) (hb:fn.body=some c) (hn:fn.ntmps=n) (hk:Nat.ble args.size n=true) (hL:argsOk args L)
    (h:∀a,Ag a n L->c.wpIn (Fo none) 9 P (bodyPostM (Fo none) 9 P fn R) a w):Calls P f args w R:=by
  have D:args.size<=n:=by simpa[Nat.ble_eq] using hk
  refine x3o (r:=none) (N:=9) (callsIn_of_wp_marks hf hb trivial (h _ ⟨rfl,by simp[hn];omega,λt v M=>?_⟩))
  have:=argsOk.look hL M
  simp only[Array.getD_eq_getD_getElem?,Array.getElem?_append]
  have I:t<args.size:=by
    rcases Nat.lt_or_ge t args.size with h|h
    · exact h
    · rw[Array.getElem?_eq_none h]at this;cases this
  rw[if_pos I,this];rfl
theorem j0n {f:FuncId}{fn:Func}{c:Code}{args:Array Value}{R:Ending->World->Prop}(L:List (Nat×Value))
    (hf:P.funcs[f]?=some fn) (hb:fn.body=some c) (hn:fn.ntmps=n) (hk:Nat.ble args.size n=true) (hL:argsOk args L)
    (h:∀a,Ag a n L->c.wpIn (Fo none) N P (bodyPost P fn R) a w):CallsIn (Fo none) N P f args w R:=by
  have D:args.size<=n:=by simpa[Nat.ble_eq] using hk
  refine callsIn_of_wp hf hb trivial (h _ ⟨rfl,by simp[hn];omega,λt v M=>?_⟩)
  have:=argsOk.look hL M
  simp only[Array.getD_eq_getD_getElem?,Array.getElem?_append]
  have I:t<args.size:=by
    rcases Nat.lt_or_ge t args.size with h|h
    · exact h
    · rw[Array.getElem?_eq_none h]at this;cases this
  rw[if_pos I,this];rfl
theorem z8v {fn:Func}{R:Ending->World->Prop}{I:Array Value}{v:Value}:∀(ds:List Nat) (w:World),(∀D∈ds,w.heap[D]?=some (.deferred (some [])))->ds.Nodup->(∀w',(results fn I).run P w'=.ok v w')->
    (∀w',Fr ds w w'->(∀n0,(∀D∈ds,n0<=D)->FrK (λk=>¬k∈ds) w w')->R (.returned v) w')->LeavesInM (Fo none) N P fn I R (ds.map mark) .returning w
  | [],w,_,_,hv,k=>⟨v,hv w,k w (Fr.refl _ _) (λ_ _=>FrK.refl _ _)⟩
  | D::ds,w,hD,hnd,hv,k=>by
    refine⟨sp0,.inl ⟨D,_,rfl,run_takeDeferred (hD D sp0),?_⟩⟩
    rw[List.nodup_cons]at hnd
    have hf:Fr [D] w (w.putObj D (.deferred none)):=⟨rfl,rfl,rfl,sp0,λk _ Z=>World.putObj_heap_other (by simpa using Z)⟩
    refine z8v ds _ (λO M=>?_) hnd.2 hv (λw' hw _=>?_)
    · rw[World.putObj_heap_other (by rintro rfl;exact hnd.1 M)];exact hD O (by simp[M])
    · have:Fr (D::ds) w w':=hf.trans hw
      exact k w' this (λ_ _=>this.toK)
theorem j1d {fn:Func}{R:Ending->World->Prop}(h:AgM ds a n L)(O:fn.results=#[])(M:∀D∈ds,w.heap[D]?=some (.deferred (some [])))(I:ds.Nodup)(k:∀w',Fr ds w w'->R (.returned (.tuple #[])) w'):bodyPostM (Fo none) N P fn R .ret a w:=by
 show LeavesInM _ _ _ _ _ _ a.defers _ _;rw[h.dfr];exact z8v ds w M I (λw'=>results_none O _ _ _) (λw' Z _=>k w' Z)
theorem j1i {fn:Func}{R:Ending->World->Prop}(h:AgM ds a n L)(O:fn.results=#[])(M:∀D∈ds,w.heap[D]?=some (.deferred (some [])))(I:ds.Nodup)(k:∀w',Fr ds w w'->R (.returned (.tuple #[])) w'):bodyPostM (Fo none) N P fn R .normal a w:=j1d h O M I k
theorem j3a {fn:Func}{R:Ending->World->Prop}{t:Nat}{v:Value}(h:AgM ds a n L)(O:fn.results=#[.tmp t])(Z:look L t=some v)(M:∀D∈ds,w.heap[D]?=some (.deferred (some [])))(I:ds.Nodup)(k:∀w',Fr ds w w'->R (.returned v) w'):bodyPostM (Fo none) N P fn R .ret a w:=by
 show LeavesInM _ _ _ _ _ _ a.defers _ _;rw[h.dfr];exact z8v ds w M I (λw'=>by rw[<-h.at_ t v Z];exact results_tmp O _ _ _) (λw' hw _=>k w' hw)
end
end Go.Lw
namespace Go.Lw
open Go.RowKit
theorem Blk.of_below {w w':World}{g B:Nat}{T:TypeId}{cs:List Value}(h:Blk w g T cs)(hb:Below B w w')(D:g<B):Blk w' g T cs:=by
 unfold Blk at h ⊢;rw[hb.block g D];exact h
theorem Fr.of_below' {w w':World}{B:Nat}(hb:Below B w w')(D:w.heap.size<=B):Fr [] w w':=⟨hb.os,hb.tape,hb.output,hb.size,λk I _=>hb.block k oo⟩
section
variable {P:Program} {a:Act} {n:Nat} {L:List (Nat×Value)} {ds:List Nat} {w w':World} {Q:Exit->Act->World->Prop} {ops:Array Oper} {rest:List Oper}
variable {d:Nat} {ty:TypeId} {pos:String} {after:Array Edge} {x y:Operand} {t t' T T':TypeId} {v:Value} {ad:Addr} {po:Option Addr}
end
end Go.Lw
namespace Go.Lw
open Go.RowKit
section
variable {P:Program} {n:Nat} {L:List (Nat×Value)} {ds:List Nat} {w w':World} {Q:Exit->Act->World->Prop} {ops:Array Oper} {rest:List Oper} {a:Act} {x y c:Code} {id:Nat}
class Says (b:Bool) (p:outParam Prop):Prop where
  iff:b=true↔p
instance (priority:=100) says_b (b:Bool):Says b (b=true):=⟨Iff.rfl⟩
instance (priority:=1000) says_d (p:Prop) {hp:Decidable p}:Says (@decide p hp) p:=⟨decide_eq_true_iff⟩
instance (priority:=1100) says_n (p:Prop) {hp:Decidable p}:Says (!(@decide p hp)) (¬p):=⟨sp0⟩
theorem Says.no {b:Bool}{p:Prop}[h:Says b p](e:b=false):¬p:=λD=>by rw[h.iff.2 D]at e;cases e
theorem sq (h:CW P (Exit.then (y.wp P Q) Q) x n ds w L):CW P Q (.seq x y) n ds w L:=λa D=>wp_seq (h a D)
theorem rg {l:List Oper}(h:WL P l.toArray Q l n ds w L):CW P Q (.region id l.toArray false) n ds w L:=λa D=>wp_region_lit (h a D)
theorem sr {l:List Oper}(h:WL P l.toArray (Exit.then (y.wp P Q) Q) l n ds w L):CW P Q (.seq (.region id l.toArray false) y) n ds w L:=sq (rg h)
theorem bl (h:CW P (Exit.inBlock id Q) x n ds w L):CW P Q (.block id x) n ds w L:=λa D=>wp_block (h a D)
theorem sk (h:EW Q .normal n ds w L):CW P Q .skip n ds w L:=λa D=>wp_skip (h a D)
theorem lb {l:Nat}(h:EW Q .normal n ds w L):CW P Q (.label l) n ds w L:=λa D=>wp_label (h a D)
theorem rt (h:EW Q .ret n ds w L):CW P Q .ret n ds w L:=λa D=>wp_ret (h a D)
theorem ex (h:EW Q (.exit id) n ds w L):CW P Q (.exit id) n ds w L:=λa D=>wp_exit (h a D)
theorem sc (h:CW P (Exit.noGoto Q) x n ds w L):CW P Q (.scope x) n ds w L:=λa D=>wp_scope_straight (h a D)
theorem nl (h:EW Q .normal n ds w L):WL P ops Q [] n ds w L:=λa D=>wpList_nil (h a D)
theorem tn (h:CW P Q y n ds w L){D:Exit->Act->World->Prop}:EW (Exit.then (y.wp P Q) D) .normal n ds w L:=h
theorem nn (h:CW P Q y n ds w L){D:Exit->Act->World->Prop}:WL P ops (Exit.then (y.wp P Q) D) [] n ds w L:=nl (tn h)
theorem bn' (h:EW Q .normal n ds w L):EW (Exit.inBlock id Q) .normal n ds w L:=h
theorem rb (h:EW Q .ret n ds w L):EW (Exit.inBlock id Q) .ret n ds w L:=h
theorem tr {K:Act->World->Prop}(h:EW Q .ret n ds w L):EW (Exit.then K Q) .ret n ds w L:=h
theorem te {K:Act->World->Prop}(h:EW Q (.exit id) n ds w L):EW (Exit.then K Q) (.exit id) n ds w L:=h
theorem xh (h:EW Q .normal n ds w L):EW (Exit.inBlock id Q) (.exit id) n ds w L:=λa D=>v1m (h a D)
theorem xo {D:Nat}(I:Nat.beq D id=false)(h:EW Q (.exit D) n ds w L):EW (Exit.inBlock id Q) (.exit D) n ds w L:=λa M=>v9l I (h a M)
theorem gn' (h:EW Q .normal n ds w L):EW (Exit.noGoto Q) .normal n ds w L:=h
theorem gx' (h:EW Q (.exit id) n ds w L):EW (Exit.noGoto Q) (.exit id) n ds w L:=h
theorem ct {C:Operand}(D:ev L C=some (.bool true))(k:CW P Q x n ds w L):CW P Q (.cond C x y) n ds w L:=λa h=>cond_true h D (k a h)
theorem cf {C:Operand}(D:ev L C=some (.bool false))(k:CW P Q y n ds w L):CW P Q (.cond C x y) n ds w L:=λa h=>x7o h D (k a h)
theorem cd {C:Operand}{b:Bool}{p:Prop}(D:ev L C=some (.bool b))[s:Says b p](I:p->CW P Q x n ds w L)(hf:¬p->CW P Q y n ds w L):CW P Q (.cond C x y) n ds w L:=
 λa h=>y6t h D (λe=>I (s.iff.1 e) a h) (λe=>hf (s.no e) a h)
theorem gs {l:List Oper}(D:Nat){b:Bool}{p:Prop}(hb:look L D=some (.bool b))[s:Says b p](M:p->WL P ops Q l n ds w ((D,.bool true)::L))(hf:¬p->WL P ops Q l n ds w ((D,.bool false)::L)):WL P ops Q l n ds w L:=
 λa h=>x0o h hb (λe I=>M (s.iff.1 e) a I) (λe I=>hf (s.no e) a I)
theorem kpL {l:List Oper}(L':List (Nat×Value))(D:Sub L' L)(k:WL P ops Q l n ds w L'):WL P ops Q l n ds w L:=λa h=>k a (h.sub D)
theorem kpC (L':List (Nat×Value))(D:Sub L' L)(k:CW P Q c n ds w L'):CW P Q c n ds w L:=λa h=>k a (h.sub D)
def u5e (ops:Array Oper)(G:Option (Nat×Bool))(n:Nat)(L:List (Nat×Value)):Option (Value×Bool):=
  match G with
  | none=>none
  | some (j,want)=>
    match ops[j]? with
    | none=>none
    | some oj=>
      match oj.dst with
      | none=>none
      | some dj=>bif Nat.blt dj n then (look L dj).map (λv=>(v,want)) else none
def v2q (ops:Array Oper)(o:Oper)(n:Nat)(L:List (Nat×Value)):Option (Value×Bool):=u5e ops o.guard n L
theorem z6y {o:Oper}{v:Value}{D:Bool}(h:v2q ops o n L=some (v,D)):∃j I M,o.guard=some (j,D)/\ops[j]?=some M/\M.dst=some I/\Nat.blt I n=true/\look L I=some v:=by
 unfold v2q u5e at h;split at h;cases h;rename_i j O hg;split at h;cases h;rename_i M hj;split at h;cases h;rename_i I Z;cases hb:Nat.blt I n with
 | false=>rw[hb]at h;cases h
 | true=>
  rw[hb]at h;cases hl:look L I with
  | none=>rw[hl]at h;cases h
  | some u=>rw[hl]at h;cases h;exact⟨j,I,M,hg,hj,Z,hb,hl⟩
theorem gY {o:Oper}{b:Bool}(hg:v2q ops o n L=some (.bool b,b))(k:WL P ops Q ({ o with guard:=none }::rest) n ds w L):WL P ops Q (o::rest) n ds w L:=by
 obtain⟨j,dj,oj,D,I,M,O,Z⟩:=z6y hg;exact λa h=>z4d h D I (pi2 M O) (pi2 Z (by cases b<;>rfl)) (k a h)
theorem gN {o:Oper}{b:Bool}{d:Nat}(H0:(v2q ops o n L,o.dst)=(some (.bool b,!b),some d))(k:WL P ops Q rest n ds w ((d,undef)::L))(hn:Nat.blt d n=true:=by exact U):WL P ops Q (o::rest) n ds w L:=by
 obtain⟨hg,hd⟩:=qi2 H0
 obtain⟨j,dj,oj,D,I,M,O,Z⟩:=z6y hg;exact λa h=>j2p h D I M O Z (by cases b<;>rfl) hd hn k
theorem gS {o:Oper}{d:Nat}{D:Bool}(H0:(v2q ops o n L,o.dst)=(some (undef,D),some d))(k:WL P ops Q rest n ds w ((d,undef)::L))(hn:Nat.blt d n=true:=by exact U):WL P ops Q (o::rest) n ds w L:=by
 obtain⟨hg,hd⟩:=qi2 H0
 obtain⟨j,dj,oj,I,M,O,Z,h5⟩:=z6y hg;exact λa h=>u5v h I M O Z h5 hd hn k
theorem lpK {ι:Type}(K:List (Nat×Value))(M:ι->List (Nat×Value))(I:ι->World->Prop)(μ:ι->Nat)(i:ι)(Z:Sub (K++M i) L)(D:I i w)
    (round:∀i w,I i w->CW P (Exit.then (λO w'=>∃j,AgM ds O n (K++M j)/\I j w'/\μ j<μ i) Q) c n ds w (K++M i)):CW P Q (.loop c) n ds w L:=
  λa h=>loop (λi=>K++M i) I μ i (h.sub Z) D (λi w a h D=>round i w D a h)
theorem lpE {ι:Type}{K:List (Nat×Value)}{M:ι->List (Nat×Value)}{I:ι->World->Prop}{μ:ι->Nat}{m:Nat}(j:ι)(hs:Sub (K++M j) L)(O:I j w)(Z:μ j<m):EW (Exit.then (λD w'=>∃j,AgM ds D n (K++M j)/\I j w'/\μ j<m) Q) .normal n ds w L:=
 λa h=>⟨j,h.sub hs,O,Z⟩
def JW {ι:Type}(n:Nat)(ds:List Nat)(K:List (Nat×Value))(M:ι->List (Nat×Value))(I:ι->World->Prop)(a:Act)(w:World):Prop:=∃j,AgM ds a n (K++M j)/\I j w
theorem jn {ι:Type}(K:List (Nat×Value))(M:ι->List (Nat×Value))(I:ι->World->Prop)(_hs:Sub K L)(h1:CW P (Exit.then (JW n ds K M I) Q) x n ds w L)(D:∀j w,I j w->CW P Q y n ds w (K++M j)):CW P Q (.seq x y) n ds w L:=
 λa h=>u5n (JW n ds K M I) (h1 a h) (λa w ⟨j,h,hI⟩=>D j w hI a h)
theorem jE {ι:Type}{K:List (Nat×Value)}{M:ι->List (Nat×Value)}{I:ι->World->Prop}(j:ι)(O:Sub (K++M j) L)(D:I j w):EW (Exit.then (JW n ds K M I) Q) .normal n ds w L:=λa h=>⟨j,h.sub O,D⟩
theorem rbo {D:List Oper}{r:Nat}{L':List (Nat×Value)}(C:Prop)[Decidable C](M:Sub L' L)(h1:WL P D.toArray (y7k ds n r C L' w) D n ds w L)(I:EW Q .normal n ds w ((r,.bool (decide C))::L')):CW P Q (.region id D.toArray false) n ds w L:=
 λa h=>x2o C h M (h1 a h) I
theorem rbe {r:Nat}{L':List (Nat×Value)}{C:Prop}[Decidable C]{b:Bool}(D:look L r=some (.bool b))(I:Sub L' L)(hb:b=decide C:=by first|exact bt oo|exact bf oo|exact bi oo|exact bn oo|(simp_all;done)|(simp_all;omega)):WL P ops (y7k ds n r C L' w) [] n ds w L:=
 λa h=>wpList_nil (x4e h D hb I)
def x5a (ds:List Nat)(n r:Nat)(C:Prop)[Decidable C](L':List (Nat×Value))(w0:World):Exit->Act->World->Prop:=λe a w=>e=.normal/\Fr [] w0 w/\AgM ds a n ((r,.bool (decide C))::L')
theorem v4l {D:List Oper}{r:Nat}{L':List (Nat×Value)}(C:Prop)[Decidable C](_hs:Sub L' L)(h1:WL P D.toArray (x5a ds n r C L' w) D n ds w L)(I:∀w',Fr [] w w'->EW Q .normal n ds w' ((r,.bool (decide C))::L')):CW P Q (.region id D.toArray false) n ds w L:=
 λa h=>wp_mono (wp_region_lit (h1 a h)) (λe a w h=>by obtain⟨rfl,hf,M⟩:=h;exact I w hf a M)
theorem y2n {r:Nat}{L':List (Nat×Value)}{C:Prop}[Decidable C]{b:Bool}{w0:World}(D:look L r=some (.bool b))(I:Sub L' L)(hf:Fr [] w0 w)(hb:b=decide C:=by first|exact bt oo|exact bf oo|exact bi oo|exact bn oo|(simp_all;done)|(simp_all;omega)):WL P ops (x5a ds n r C L' w0) [] n ds w L:=
 λa h=>wpList_nil ⟨rfl,hf,(x4e (w:=w) h D hb I).2.2⟩
theorem bk {e:Exit}(h:AgM ds a n L)(k:EW Q e n ds w L):Q e a w:=k a h
theorem we {f:FuncId}{fn:Func}{c:Code}{args:Array Value}{R:Ending->World->Prop}(L:List (Nat×Value))(hf:P.funcs[f]?=some fn)(I:fn.body=some c)(hn:fn.ntmps=n)(hl:Nat.ble args.size n=true)(D:argsOk args L)
 (h:CW P (bodyPost P fn R) c n [] w L):Calls P f args w R:=enter L hf I hn hl D h
section
variable {R:Ending->World->Prop} {fn:Func} {t u s:Nat} {v z:Value}
theorem r0 (D:fn.results=#[])(k:R (.returned (.tuple #[])) w):EW (bodyPost P fn R) .ret n [] w L:=λ_ h=>ret0 h D k
theorem r0n (D:fn.results=#[])(k:R (.returned (.tuple #[])) w):EW (bodyPost P fn R) .normal n [] w L:=λ_ h=>j3r h D k
theorem r1 (D:fn.results=#[.tmp t])(I:look L t=some v)(k:R (.returned v) w):EW (bodyPost P fn R) .ret n [] w L:=λ_ h=>ret1 h D I k
theorem r2 (D:fn.results=#[.tmp t,.tmp u])(I:look L t=some v)(M:look L u=some z)(k:R (.returned (.tuple #[v,z])) w):EW (bodyPost P fn R) .ret n [] w L:=λ_ h=>ret2 h D I M k
theorem r3 {z':Value}(D:fn.results=#[.tmp t,.tmp u,.tmp s])(I:look L t=some v)(M:look L u=some z)(O:look L s=some z')(k:R (.returned (.tuple #[v,z,z'])) w):EW (bodyPost P fn R) .ret n [] w L:=λ_ h=>ret3 h D I M O k
variable {p pt q r g T:Nat} {cs:List Value}
theorem rC (I:fn.results=#[.cell p pt])(hp:look L p=some (.pointer (some ⟨g,0,none⟩)))(hb:Blk w g T cs)(D:z3p P pt cs.length)(k:R (.returned (.agg cs.toArray)) w):EW (bodyPost P fn R) .ret n [] w L:=λ_ h=>retC h I hp hb D k
theorem rCT (I:fn.results=#[.cell p pt,.tmp q])(hp:look L p=some (.pointer (some ⟨g,0,none⟩)))(hb:Blk w g T cs)(D:z3p P pt cs.length)(M:look L q=some v)(k:R (.returned (.tuple #[.agg cs.toArray,v])) w):EW (bodyPost P fn R) .ret n [] w L:=λ_ h=>j2r h I hp hb D M k
theorem j1r {u:Value}(I:fn.results=#[.cell p pt,.tmp q,.tmp r])(hp:look L p=some (.pointer (some ⟨g,0,none⟩)))(hb:Blk w g T cs)(D:z3p P pt cs.length)(O:look L q=some v)(M:look L r=some u)(k:R (.returned (.tuple #[.agg cs.toArray,v,u])) w):EW (bodyPost P fn R) .ret n [] w L:=λ_ h=>u8f h I hp hb D O M k
end
theorem wi6 {z:Int}(h:-9223372036854775808<=z/\z<=9223372036854775807):IntKind.i64.wrap z=z:=IntWalk.i64_in z oo
theorem wi8 {z:Int}(h:0<=z/\z<=255):IntKind.u8.wrap z=z:=IntWalk.u8_in z oo
theorem ev1 {x:Operand}{v:Value}(h:ev L x=some v):evs L [x] [v]:=⟨h,trivial⟩
theorem ev2 {x y:Operand}{v u:Value}(H0:(ev L x,ev L y)=(some v,some u)):evs L [x,y] [v,u]:=let⟨h,D⟩:=qi2 H0;⟨h,D,trivial⟩
theorem ev3 {x y z:Operand}{v u t:Value}(H0:(ev L x,ev L y,ev L z)=(some v,some u,some t)):evs L [x,y,z] [v,u,t]:=let⟨h,D,I⟩:=qi3 H0;⟨h,D,I,trivial⟩
theorem ev4 {x y z o:Operand}{v u t s:Value}(H0:(ev L x,ev L y,ev L z,ev L o)=(some v,some u,some t,some s)):evs L [x,y,z,o] [v,u,t,s]:=let⟨h,D,I,M⟩:=qi4 H0;⟨h,D,I,M,trivial⟩
theorem z1j {k:Nat}:((k:Nat):Int).toNat=k:=Int.toNat_natCast k
end
theorem us {P:Program}{t:TypeId}{u}(h:P.underlying t=some u):(P.underlying t).isSome=true:=by rw[h];rfl
section
variable {P:Program} {n:Nat} {L:List (Nat×Value)} {ds:List Nat} {w w':World} {Q:Exit->Act->World->Prop} {ops:Array Oper} {rest:List Oper} {d:Nat} {ty T:TypeId} {pos:String} {after:Array Edge} {v:Value} {x:Operand}
theorem bx {cs:List Value}(H0:(ev L x,v.cells,Nat.blt d n)=(some v,cs.toArray,true))(q:∀g w',g=w.heap.size->Blk w' g T cs->Fr [] w w'->w'.heap.size=g+1->WL P ops Q rest n ds w' ((d,.pointer (some ⟨g,0,none⟩))::L)):WL P ops Q (⟨some d,.box T x,ty,pos,after,none⟩::rest) n ds w L:=let⟨Z,O,hn⟩:=qi3 H0;
 j3o Z O hn (λw' D I M=>q _ w' U D I M)
theorem al {cs:List Value}(Z:∀w:World,(zeroValue T).run P w=.ok v w)(H1:(v.cells,Nat.blt d n)=(cs.toArray,true))(q:∀g w',g=w.heap.size->Blk w' g T cs->Fr [] w w'->w'.heap.size=g+1->WL P ops Q rest n ds w' ((d,.pointer (some ⟨g,0,none⟩))::L)):WL P ops Q (⟨some d,.alloc T,ty,pos,after,none⟩::rest) n ds w L:=let⟨O,hn⟩:=qi2 H1;
 u1q Z O hn (λw' D I M=>q _ w' U D I M)
theorem z1v {t:TypeId}{g off:Nat}{cs vs:List Value}(Z:ev L x=some (.pointer (some ((⟨g,0,none⟩:Addr).add off))))(hb:Blk w g T cs)(M:z3p P t vs.length)(O:(cs.drop off).take vs.length=vs)(q:WL P ops Q rest n ds w ((d,.agg vs.toArray)::L))(hn:Nat.blt d n=true:=by exact U):WL P ops Q (⟨some d,.load t x,ty,pos,after,none⟩::rest) n ds w L:=
 z1q Z (λj u D=>by
  rw[<-O]at D
  have I:(cs.drop off)[j]?=some u:=by
   rw[List.getElem?_take]at D;split at D
   ·exact D
   cases D
  rw[List.getElem?_drop]at I
  rw[z8r];exact hb.cellAdd I) M q (hn:=hn)
theorem u1p {t t':TypeId}{ms}{b:Bool}(O:ev L x=some v)(M:P.underlying t=some (.interface ms))(hb:v=.nilIface/\b=false\/(∃s p,v=.iface s p)/\b=true)(hn:Nat.blt d n=true)(q:WL P ops Q rest n ds w ((d,.bool b)::L)):WL P ops Q (⟨some d,.binOp .neq t x (.const .nilIface) t',ty,pos,after,none⟩::rest) n ds w L:=
 λa h=>z2c h U hn (by
  have I:a.eval (.const .nilIface)=.nilIface:=rfl
  rcases hb with ⟨rfl,rfl⟩|⟨⟨s,p,rfl⟩,rfl⟩
  ·have e:∀k,(Op.equalIn (k+1) t .nilIface .nilIface).run P w=.ok true w:=λk=>by unfold Op.equalIn;simp only[Sem.run_bind,run_underlying M,Result.andThen_ok,Sem.run_pure]
   have D:(binOp .neq t .nilIface .nilIface).run P w=.ok (.bool false) w:=by
    simp only[binOp]
    simp[Op.equal,Op.maxDepth,e 9999]
   simp[execOp,h.eval O,I,eqGuard,D]
  have e:∀k,(Op.equalIn (k+1) t (.iface s p) .nilIface).run P w=.ok false w:=λk=>by unfold Op.equalIn;simp only[Sem.run_bind,run_underlying M,Result.andThen_ok,Sem.run_pure]
  have D:(binOp .neq t (.iface s p) .nilIface).run P w=.ok (.bool true) w:=by
   simp only[binOp]
   simp[Op.equal,Op.maxDepth,e 9999]
  simp[execOp,h.eval O,I,eqGuard,D]) q
theorem j2e {t t':TypeId}{u}{l:List UInt8}(hx:ev L x=some (S l))(hs:P.underlying t=some u)(O:P.underlying t'=some (.slice T))(Z:P.underlying T=some (.int .u8))(hl:l.length<=maxLen)(hn:Nat.blt d n=true)
    (q:∀g c w',g=w.heap.size->Sl Enc.b w' (.slice (some ⟨g,0,none⟩) l.length c) l->Fr [] w w'->w'.heap.size=g+1->WL P ops Q rest n ds w' ((d,.slice (some ⟨g,0,none⟩) l.length c)::L)):WL P ops Q (⟨some d,.convert t t' x,ty,pos,after,none⟩::rest) n ds w L:=
  λa h=>z2c h U hn (w':=Lib.bytesWorld w T ⟨l.toArray⟩) (by
    have hz:(⟨l.toArray⟩:ByteArray).size=l.length:=by simp[ByteArray.size]
    have:=Lib.run_convert_string_bytes (P:=P) w t t' T ⟨l.toArray⟩ hs O Z
    rw[hz]at this
    simp only[execOp,h.eval hx,S,Sem.run_bind,this,Result.andThen_ok,Sem.run_pure])
    (q _ (grownCap w l.length 0 T) _ U ⟨_,_,rfl,grownCap_ge _ _ _ _,grownCap_le_maxLen _ _ _ _ hl,λi y M=>⟨_,rfl,λj u I=>by
      have hi:=(List.getElem?_eq_some_iff.1 M).1
      have hj:j=0:=by
        have:=(List.getElem?_eq_some_iff.1 I).1
        simpa[Enc.b] using this
      subst hj
      have D:u=.int .u8 (y.toNat:Int):=by simpa[Enc.b] using I.symm
      subst D
      rw[z4q,z4q,show Enc.b.sz=1 from U,Nat.mul_one,Nat.zero_add,Nat.add_zero]
      have:=Lib.bytesWorld_cell w T ⟨l.toArray⟩ i (by simpa[ByteArray.size] using hi)
      rw[this]
      simp[List.getD,M]⟩⟩ (by exact⟨rfl,rfl,rfl,by rw[Lib.bytesWorld_size];omega,λk hk _=>Lib.bytesWorld_at_old w T _ k hk⟩) (Lib.bytesWorld_size _ _ _))
section
variable {C:World->Prop} {K:Act->World->Prop} {fu:Nat} {listed:Array Bool} {pq:Option Nat} {o:Oper} {a:Act} {G:Option (Nat×Bool)} {t t':TypeId} {y:Operand} {k:IntKind} {i j:Int} {l l':List UInt8}
theorem x7h {b:Bool}(h:AgM ds a n L)(hg:v2q ops o n L=some (.bool b,b)):Region.wanted o (yielded ops a.tmps)=true:=by
 obtain⟨j,dj,oj,D,I,M,O,Z⟩:=z6y hg;have hy:=z6c (ops:=ops) h I M O Z;simp[Region.wanted,D,hy]
theorem wy {b:Bool}(D:u5e ops G n L=some (.bool b,b)):Wd ops n L G:=λa ds h o I=>x7h (o:=o) h (by unfold v2q;rw[I];exact D)
theorem v4a {b:Bool}(h:AgM ds a n L)(hg:v2q ops o n L=some (.bool b,!b)):Region.wanted o (yielded ops a.tmps)=false:=by
 obtain⟨j,dj,oj,D,I,M,O,Z⟩:=z6y hg;have hy:=z6c (ops:=ops) h I M O Z;simp[Region.wanted,D,hy]
theorem x3p {I:Bool}(h:AgM ds a n L)(hg:v2q ops o n L=some (undef,I)):Region.wanted o (yielded ops a.tmps)=false:=by
 obtain⟨j,M,oj,h1,h2,h3,h4,h5⟩:=z6y hg;have O:=h.at_ M _ h5;have D:M<a.tmps.size:=by rw[h.size];simpa[Nat.blt_eq] using h4
 have Z:a.tmps[M]?=some undef:=by
  rw[Array.getElem?_eq_getElem D];simpa[Array.getD,D] using O
 have hy:yielded ops a.tmps j=none:=by simp[yielded,h2,h3,Z,undef]
 simp[Region.wanted,h1,hy]
theorem z1l {b:Bool}(D:Nat)(h:AgM ds a n L)(I:ops[D]?=some o)(H3:(v2q ops o n L,o.dst)=(some (.bool b,!b),some d))(q:∀a,AgM ds a n ((d,undef)::L)->z0y pq P ops (z0s K) C fu (listed.setIfInBounds D true) a w)(hsel:Region.noSelect ops=true:=by kernel_rfl)(hfr:Fre pq ops listed D=true:=by kernel_rfl)(hre:(Region.ready .any ops listed).contains D=true:=by kernel_rfl)(hC:C w:=by exact hC)(hn:Nat.blt d n=true:=by exact U):z0y pq P ops (z0s K) C (fu+1) listed a w:=let⟨O,M⟩:=qi2 H3;
  v3n I hsel hfr hre (λ_ _ _ h=>h) (.inr ⟨v4a h O,rfl⟩) hC (by rw[M];exact q _ (h.put hn undef))
theorem y9o {D:Bool}(I:Nat)(hC:C w)(h:AgM ds a n L)(M:ops[I]?=some o)(Z:v2q ops o n L=some (undef,D))(O:o.dst=some d)(q:∀a,AgM ds a n ((d,undef)::L)->z0y pq P ops (z0s K) C fu (listed.setIfInBounds I true) a w)(hsel:Region.noSelect ops=true:=by kernel_rfl)(hfr:Fre pq ops listed I=true:=by kernel_rfl)(hre:(Region.ready .any ops listed).contains I=true:=by kernel_rfl)(hn:Nat.blt d n=true:=by exact U):z0y pq P ops (z0s K) C (fu+1) listed a w:=
  v3n M hsel hfr hre (λ_ _ _ h=>h) (.inr ⟨x3p h Z,rfl⟩) hC (by rw[O];exact q _ (h.put hn undef))
theorem j1n {α:Type}[DecidableEq α]{V:α->Value}{e f:α}(h:AgM ds a n L)(O:ev L x=some (V e))(Z:ev L y=some (V f))(M:x7a P t V):∀w,C w->(execOp a.eval ⟨some d,.binOp .eql t x y t',ty,pos,after,G⟩).run P w=.ok (.value (.bool (decide (e=f)))) w:=λw _=>by
 obtain⟨D,_,I,_⟩:=M e f x y w
 simp[execOp,h.eval O,h.eval Z,D,I]
theorem j1j {α:Type}[DecidableEq α]{V:α->Value}{e f:α}(h:AgM ds a n L)(O:ev L x=some (V e))(Z:ev L y=some (V f))(M:x7a P t V):∀w,C w->(execOp a.eval ⟨some d,.binOp .neq t x y t',ty,pos,after,G⟩).run P w=.ok (.value (.bool (decide (e≠f)))) w:=λw _=>by
 obtain⟨_,D,_,I⟩:=M e f x y w
 simp[execOp,h.eval O,h.eval Z,D,I]
theorem u7f {α:Type}[DecidableEq α]{V:α->Value}{e f:α}(D:Nat)(hsel:Region.noSelect ops=true)(hfr:Fre pq ops listed D=true)(hre:(Region.ready .any ops listed).contains D=true)(hC:C w)(h:AgM ds a n L)(hG:Wd ops n L G)(O:ev L x=some (V e))(Z:ev L y=some (V f))(M:x7a P t V)(I:ops[D]?=some ⟨some d,.binOp .eql t x y t',ty,pos,after,G⟩)(hn:Nat.blt d n=true)
    (q:∀a,AgM ds a n ((d,.bool (decide (e=f)))::L)->z0y pq P ops (z0s K) C fu (listed.setIfInBounds D true) a w):z0y pq P ops (z0s K) C (fu+1) listed a w:=
  z6l D hsel hfr hre h hG I U hn (j1n h O Z M) q
theorem u0v {α:Type}[DecidableEq α]{V:α->Value}{e f:α}(D:Nat)(hC:C w)(h:AgM ds a n L)(hG:Wd ops n L G)(O:ev L x=some (V e))(Z:ev L y=some (V f))(M:x7a P t V)(I:ops[D]?=some ⟨some d,.binOp .neq t x y t',ty,pos,after,G⟩)(hn:Nat.blt d n=true)(q:∀a,AgM ds a n ((d,.bool (decide (e≠f)))::L)->z0y pq P ops (z0s K) C fu (listed.setIfInBounds D true) a w)(hsel:Region.noSelect ops=true:=by kernel_rfl)(hfr:Fre pq ops listed D=true:=by kernel_rfl)(hre:(Region.ready .any ops listed).contains D=true:=by kernel_rfl):z0y pq P ops (z0s K) C (fu+1) listed a w:=
  z6l D hsel hfr hre h hG I U hn (j1j h O Z M) q
end
end
end Go.Lw
namespace Go.Lw
open Go.RowKit
section
variable {P:Program} {n N:Nat} {r:Option Nat} {L:List (Nat×Value)} {ds:List Nat} {w w':World} {Q:Exit->Act->World->Prop} {ops:Array Oper} {rest:List Oper} {a:Act} {x y c:Code} {id:Nat}
def CWi (r:Option Nat)(N:Nat)(P:Program)(Q:Exit->Act->World->Prop)(c:Code)(n:Nat)(ds:List Nat)(w:World)(L:List (Nat×Value)):Prop:=∀a,AgM ds a n L->c.wpIn (Fo r) N P Q a w
theorem isq (h:CWi r N P (Exit.then (y.wpIn (Fo r) N P Q) Q) x n ds w L):CWi r N P Q (.seq x y) n ds w L:=λa D=>wpIn_seq (h a D)
theorem irg {l:List Oper}(I:l.all Oper.noDefer=true)(h:WL P l.toArray (z0s (Q .normal)) l n ds w L):CWi r N P Q (.region id l.toArray false) n ds w L:=λa D=>ireg I (h a D)
theorem ibl (h:CWi r N P (Exit.inBlock id Q) x n ds w L):CWi r N P Q (.block id x) n ds w L:=λa D=>wpIn_block (h a D)
theorem isk (h:EW Q .normal n ds w L):CWi r N P Q .skip n ds w L:=λa D=>wpIn_skip (h a D)
theorem irt (h:EW Q .ret n ds w L):CWi r N P Q .ret n ds w L:=λa D=>wpIn_ret (h a D)
theorem iex (h:EW Q (.exit id) n ds w L):CWi r N P Q (.exit id) n ds w L:=λa D=>wpIn_exit (h a D)
theorem inl (h:EW Q .normal n ds w L):WL P ops (z0s (Q .normal)) [] n ds w L:=λa D=>v9s (h a D)
theorem itn (h:CWi r N P Q y n ds w L){D:Exit->Act->World->Prop}:EW (Exit.then (y.wpIn (Fo r) N P Q) D) .normal n ds w L:=h
theorem ict {C:Operand}(D:ev L C=some (.bool true))(k:CWi r N P Q x n ds w L):CWi r N P Q (.cond C x y) n ds w L:=λa h=>x8j h D (k a h)
theorem icf {C:Operand}(D:ev L C=some (.bool false))(k:CWi r N P Q y n ds w L):CWi r N P Q (.cond C x y) n ds w L:=λa h=>x3x h D (k a h)
theorem icd {C:Operand}{b:Bool}{p:Prop}(D:ev L C=some (.bool b))[s:Says b p](I:p->CWi r N P Q x n ds w L)(hf:¬p->CWi r N P Q y n ds w L):CWi r N P Q (.cond C x y) n ds w L:=
 λa h=>x3g h D (λe=>I (s.iff.1 e) a h) (λe=>hf (s.no e) a h)
theorem x2a (L':List (Nat×Value))(D:Sub L' L)(k:CWi r N P Q c n ds w L'):CWi r N P Q c n ds w L:=λa h=>k a (h.sub D)
theorem v5n {ι:Type}(K:List (Nat×Value))(M:ι->List (Nat×Value))(I:ι->World->Prop)(μ:ι->Nat)(i:ι)(Z:Sub (K++M i) L)(D:I i w)
    (round:∀i w,I i w->CWi r N P (Exit.then (λO w'=>∃j,AgM ds O n (K++M j)/\I j w'/\μ j<μ i) Q) c n ds w (K++M i)):CWi r N P Q (.loop c) n ds w L:=
  λa h=>j3w (λi=>K++M i) I μ i (h.sub Z) D (λi w a h D=>round i w D a h)
theorem v4y {ι:Type}{K:List (Nat×Value)}{M:ι->List (Nat×Value)}{I:ι->World->Prop}{μ:ι->Nat}{m:Nat}(j:ι)(hs:Sub (K++M j) L)(O:I j w)(Z:μ j<m):EW (Exit.then (λD w'=>∃j,AgM ds D n (K++M j)/\I j w'/\μ j<m) Q) .normal n ds w L:=lpE j hs O Z
end
end Go.Lw
namespace Go.Lw
open Go.RowKit
section
variable {P:Program} {n N:Nat} {ro:Option Nat} {L:List (Nat×Value)} {ds:List Nat} {w w':World} {Q:Exit->Act->World->Prop} {ops:Array Oper} {rest:List Oper} {a:Act} {x y c:Code} {id:Nat}
theorem weM {f:FuncId}{fn:Func}{c:Code}{args:Array Value}{R:Ending->World->Prop}(L:List (Nat×Value))(hf:P.funcs[f]?=some fn)(M:fn.body=some c)(hn:fn.ntmps=n)(hl:Nat.ble args.size n=true)(D:argsOk args L)
 (h:CWi none 9 P (bodyPostM (Fo none) 9 P fn R) c n [] w L):Calls P f args w R:=u7u L hf M hn hl D (λa I=>h a I)
theorem weI {f:FuncId}{fn:Func}{c:Code}{args:Array Value}{R:Ending->World->Prop}(L:List (Nat×Value))(hf:P.funcs[f]?=some fn)(M:fn.body=some c)(hn:fn.ntmps=n)(hl:Nat.ble args.size n=true)(D:argsOk args L)
 (h:CWi none N P (bodyPost P fn R) c n [] w L):CallsIn (Fo none) N P f args w R:=j0n L hf M hn hl D (λa I=>h a I)
section
variable {R:Ending->World->Prop} {fn:Func} {t u:Nat} {v z:Value}
theorem rM0 (O:fn.results=#[])(M:∀D∈ds,w.heap[D]?=some (.deferred (some [])))(I:ds.Nodup)(k:∀w',Fr ds w w'->R (.returned (.tuple #[])) w'):EW (bodyPostM (Fo none) N P fn R) .ret n ds w L:=λ_ h=>j1d h O M I k
theorem rM0n (O:fn.results=#[])(M:∀D∈ds,w.heap[D]?=some (.deferred (some [])))(I:ds.Nodup)(k:∀w',Fr ds w w'->R (.returned (.tuple #[])) w'):EW (bodyPostM (Fo none) N P fn R) .normal n ds w L:=λ_ h=>j1i h O M I k
theorem rM1 (O:fn.results=#[.tmp t])(Z:look L t=some v)(M:∀D∈ds,w.heap[D]?=some (.deferred (some [])))(I:ds.Nodup)(k:∀w',Fr ds w w'->R (.returned v) w'):EW (bodyPostM (Fo none) N P fn R) .ret n ds w L:=λ_ h=>j3a h O Z M I k
end
def DefAt (D:Nat)(w:World):Prop:=w.heap[D]?=some (.deferred (some []))
theorem DefAt.ext {D:Nat}(h:DefAt D w)(hf:Fr [] w w'):DefAt D w':=(hf.block D (Array.getElem?_eq_some_iff.1 h).1 sp0).trans h
theorem DefAt.fr {D:Nat}{S:List Nat}(h:DefAt D w)(hf:Fr S w w')(I:D∉S:=by simp[z0v]<;>omega):DefAt D w':=(hf.block D (Array.getElem?_eq_some_iff.1 h).1 I).trans h
theorem DefAt.lt {D:Nat}(h:DefAt D w):D<w.heap.size:=(Array.getElem?_eq_some_iff.1 h).1
theorem x6q {D:Nat}(h:DefAt D w):∀I∈[D],w.heap[I]?=some (.deferred (some [])):=λI M=>by cases List.mem_singleton.1 M;exact h
theorem Blk.keep {g T:Nat}{cs:List Value}{B:List Nat}(h:Blk w g T cs)(I:Keep B w w')(D:g∈B):Blk w' g T cs:=(I g D).trans h
theorem Sl.keep {α:Type}{E:Enc α}{v:Value}{ys:List α}{B:List Nat}(h:Sl E w v ys)(hk:Keep B w w')(Z:ys≠[]->∀k∈z0v v,k∈B):Sl E w' v ys:=by
 obtain⟨A,c,rfl,I,M,O⟩:=h;refine⟨A,c,rfl,I,M,λi y D=>?_⟩;obtain⟨ad,rfl,hc⟩:=O i y D;refine⟨ad,rfl,λj u hu=>?_⟩;exact(World.cell?_of_block (w:=w) (hk _ (by rw[z7j,z7j];exact Z (by rintro rfl;simp at D) _ (by simp[z0v])))).trans (hc j u hu)
def slB (m:Nat)(v:Value):List Nat:=if m=0 then [] else z0v v
theorem u0c {α:Type}{E:Enc α}{v:Value}{ys:List α}(h:Sl E w v ys):∀b∈slB ys.length v,b<w.heap.size:=by
 intro b D;unfold slB at D;split at D;cases D;rename_i I;exact h.blk (λe=>I (by rw[e];rfl)) b D
theorem u0d {α:Type}{v:Value}{ys:List α}(D:ys≠[]):∀k∈z0v v,k∈slB ys.length v:=λk I=>by
 unfold slB;rw[if_neg (λe=>D (List.eq_nil_of_length_eq_zero e))];exact I
theorem Keep.ext {B:List Nat}(hf:Fr [] w w')(D:∀b∈B,b<w.heap.size):Keep B w w':=λb I=>hf.block b (D b I) sp0
theorem Keep.fr {B S:List Nat}(hf:Fr S w w')(I:∀b∈B,b<w.heap.size)(M:∀b∈B,b∉S):Keep B w w':=λb D=>hf.block b (I b D) (M b D)
def KeepT (Ts B:List Nat)(W W':World):Prop:=Keep B W W'/\∀(b:Nat) (cs:Array Value) (T:TypeId) (f:Nat×Nat),T∈Ts->W.heap[b]?=some (.cells cs T f)->W'.heap[b]?=some (.cells cs T f)
theorem Blk.keepT {g T:Nat}{cs:List Value}{D B:List Nat}(h:Blk w g T cs)(M:KeepT D B w w')(I:T∈D):Blk w' g T cs:=M.2 g _ T _ I h
theorem KeepT.trans {I B:List Nat}{D:World}(h:KeepT I B w w')(k:KeepT I B w' D):KeepT I B w D:=⟨λb O=>(k.1 b O).trans (h.1 b O),λb cs T f M Z=>k.2 b cs T f M (h.2 b cs T f M Z)⟩
theorem KeepT.ext {I B:List Nat}(hf:Fr [] w w')(M:∀b∈B,b<w.heap.size):KeepT I B w w':=⟨Keep.ext hf M,λb cs T f _ D=>(hf.block b (Array.getElem?_eq_some_iff.1 D).1 sp0).trans D⟩
theorem KeepT.fr {I B S:List Nat}(hf:Fr S w w')(hB:∀b∈B,b<w.heap.size)(hd:∀b∈B,b∉S)(hS:∀k∈S,k<w.heap.size->∃cs T f,w.heap[k]?=some (.cells cs T f)/\T∉I):KeepT I B w w':=
 ⟨Keep.fr hf hB hd,λb cs T f hT D=>(hf.block b (Array.getElem?_eq_some_iff.1 D).1 (λe=>by
  obtain⟨O,T',f',M,Z⟩:=hS b e (Array.getElem?_eq_some_iff.1 D).1
  rw[D]at M;cases M;exact Z hT)).trans D⟩
theorem KeepT.put {I B:List Nat}{l:Nat}{o o':Obj}(hl:w.heap[l]?=some o)(Z:o.isCells=false)(M:∀b∈B,b≠l):KeepT I B w (w.putObj l o'):=
 ⟨λb O=>World.putObj_heap_other (M b O),λb cs T f _ D=>(World.putObj_heap_other (by rintro rfl;rw[hl]at D;cases D;cases Z)).trans D⟩
theorem Blk.isC {g T:Nat}{cs:List Value}(h:Blk w g T cs):∃o,w.heap[g]?=some o/\o.isCells=true:=⟨_,h,rfl⟩
theorem Own.isC {α:Type}{E:Enc α}{T base:Nat}{v:Value}{ys:List α}(h:Own E T base w v ys):∀k∈z0v v,∃o,w.heap[k]?=some o/\o.isCells=true:=by
 rcases h with ⟨rfl,rfl⟩|⟨g,cap,cur,rfl,M,I,r⟩
 intro k D;simp[z0v]at D;intro k D;simp[z0v]at D;subst D;exact⟨_,I,rfl⟩
theorem Blk.tyC {g T:Nat}{cs:List Value}{D:List Nat}(h:Blk w g T cs)(I:T∉D):∃cs T f,w.heap[g]?=some (.cells cs T f)/\T∉D:=⟨_,_,_,h,I⟩
theorem Own.tyC {α:Type}{E:Enc α}{T base:Nat}{v:Value}{ys:List α}{I:List Nat}(h:Own E T base w v ys)(M:T∉I):∀k∈z0v v,∃cs T f,w.heap[k]?=some (.cells cs T f)/\T∉I:=by
 rcases h with ⟨rfl,rfl⟩|⟨g,cap,cur,rfl,Z,O,r⟩
 intro k D;simp[z0v]at D;intro k D;simp[z0v]at D;subst D;exact⟨_,_,_,O,M⟩
def AsK (n B0:Nat)(W:World)(T:TypeId)(cs:List Value)(Lx:Nat->List (Nat×Value)):Act->World->Prop:=λa' W'=>∃g,B0<=g/\AgM [] a' n (Lx g)/\Blk W' g T cs/\Fr [] W W'
theorem asE {D:Nat}{W:World}{T:TypeId}{cs:List Value}{I:Nat->List (Nat×Value)}(g:Nat)(O:D<=g)(Z:Sub (I g) L)(hb:Blk w g T cs)(hf:Fr [] W w){M:Exit->Act->World->Prop}:EW (Exit.then (AsK n D W T cs I) M) .normal n [] w L:=λ_ h=>⟨g,O,h.sub Z,hb,hf⟩
end
end Go.Lw
namespace Go.Lw
open Go.RowKit
section
variable {P:Program} {n N:Nat} {L:List (Nat×Value)} {ds:List Nat} {w w':World} {Q:Exit->Act->World->Prop}
def AsU (n:Nat)(W:World)(Lx:List (Nat×Value)):Act->World->Prop:=λa' W'=>AgM [] a' n Lx/\W'=W
theorem asU {D:List (Nat×Value)}(M:Sub D L){I:Exit->Act->World->Prop}:EW (Exit.then (AsU n w D) I) .normal n [] w L:=λ_ h=>⟨h.sub M,rfl⟩
theorem Own.neB {α:Type}{E:Enc α}{T T' base g:Nat}{v:Value}{ys:List α}{cs:List Value}(h:Own E T base w v ys)(hb:Blk w g T' cs)(I:T≠T'):g∉z0v v:=by
 rcases h with ⟨rfl,rfl⟩|⟨M,cap,cur,rfl,_,D,_⟩
 intro e;cases e;intro e;simp[z0v]at e;subst e;rw[show w.heap[g]?=_ from hb]at D;cases D;exact I U
end
end Go.Lw
namespace Go.G21
open Go.Lw
section
variable {α:Type} {E:Enc α} {T T' base:Nat} {w w':World} {v:Value} {ys:List α} {S:List Nat}
def OffT (w:World)(T:Nat)(S:List Nat):Prop:=∀k∈S,∃(T':Nat) (cs:List Value),Blk w k T' cs/\T'≠T
theorem z9b (h:Lw.Own E T base w v ys):∀k∈z0v v,∃cs,Blk w k T cs:=by
 rcases h with ⟨rfl,rfl⟩|⟨g,cap,cur,rfl,_,I,_⟩
 intro k D;cases D;intro k D;simp[z0v]at D;subst D;exact⟨cur.toList,I⟩
theorem z6e (h:Lw.Own E T' base w v ys)(D:T'≠T):OffT w T (z0v v):=λk M=>by
 obtain⟨cs,I⟩:=z9b h k M
 exact⟨T',cs,I,D⟩
theorem OffT.nil:OffT w T []:=λk D=>by cases D
theorem OffT.one {g:Nat}{cs:List Value}(h:Blk w g T' cs)(I:T'≠T):OffT w T [g]:=λk D=>by rw[List.mem_singleton]at D;subst D;exact⟨T',cs,h,I⟩
theorem OffT.app {S':List Nat}(h:OffT w T S)(D:OffT w T S'):OffT w T (S++S'):=λk I=>(List.mem_append.1 I).elim (h k) (D k)
theorem z1w (h:Lw.Own E T base w v ys)(hf:Fr S w w')(M:OffT w T S):Lw.Own E T base w' v ys:=h.fr hf λk Z O=>by
 obtain⟨T',cs,D,I⟩:=M k Z
 exact h.neB D (Ne.symm I) O
theorem y2o {g:Nat}{cs:List Value}(h:Blk w g T cs)(hf:Fr S w w')(O:OffT w T S):Blk w' g T cs:=h.fr hf λZ=>by
 obtain⟨T',D,I,M⟩:=O g Z
 have e:=(show w.heap[g]?=some (.cells cs.toArray T (0,0)) from h).symm.trans (show w.heap[g]?=some (.cells D.toArray T' (0,0)) from I)
 simp only[Option.some.injEq,Obj.cells.injEq]at e
 exact M e.2.1.symm
end
structure TyK where
  Y:Nat
  T:Nat
  L:Nat
  I:Nat
  P:Nat
  S:Nat
  K:Nat
structure TyK.Ok (τ:TyK):Prop where
  yt:τ.Y≠τ.T
  yl:τ.Y≠τ.L
  yi:τ.Y≠τ.I
  yp:τ.Y≠τ.P
  ys:τ.Y≠τ.S
  tl:τ.T≠τ.L
  ti:τ.T≠τ.I
  tp:τ.T≠τ.P
  ts:τ.T≠τ.S
  li:τ.L≠τ.I
  lp:τ.L≠τ.P
  ls:τ.L≠τ.S
  si:τ.S≠τ.I
  sp:τ.S≠τ.P
  ky:τ.K≠τ.Y
  kt:τ.K≠τ.T
  kl:τ.K≠τ.L
  ki:τ.K≠τ.I
  ks:τ.K≠τ.S
def LpO (τ:TyK)(base:Nat)(w:World)(q:LpQ):Prop:=Lw.Own z1b τ.I base w (slv q.th) q.ths/\Lw.Own z2d τ.P base w (slv q.pa) q.pas
structure TbO (τ:TyK) (base:Nat) (w:World) (v:Value) (ts:List TQ):Prop where
  out:Lw.Own z3z τ.T base w v ts
  ins:∀i,i<ts.length->Lw.Own z6j τ.L base w (slv (ts.getD i tq0).1) (ts.getD i tq0).2
  off:∀i j,i<ts.length->j<ts.length->i≠j->∀k∈z0v (slv (ts.getD i tq0).1),k∉z0v (slv (ts.getD j tq0).1)
  lps:∀i,i<ts.length->∀q∈(ts.getD i tq0).2,LpO τ base w q
structure YsO (τ:TyK) (base:Nat) (w:World) (v:Value) (ys:List YQ):Prop where
  out:Lw.Own z2x τ.Y base w v ys
  ins:∀i,i<ys.length->Lw.Own z2d τ.P base w (slv (ys.getD i yq0).pe) (ys.getD i yq0).pes
section
variable {τ:TyK} {base:Nat} {w w' w2:World} {v:Value} {ts:List TQ} {ys:List YQ} {fs:List IQ} {S:List Nat} {q:LpQ}
theorem LpO.tf (h:LpO τ base w q)(hf:Fr S w w')(D:OffT w τ.I S)(I:OffT w τ.P S):LpO τ base w' q:=⟨z1w h.1 hf D,z1w h.2 hf I⟩
theorem LpO.at (h:LpO τ base w q):LpAt w q:=⟨h.1.sl,h.2.sl⟩
theorem LpO.low {b:Nat}(h:LpO τ base w q)(hb:b<=base):LpO τ b w q:=⟨h.1.low hb,h.2.low hb⟩
theorem TbO.tf (h:TbO τ base w v ts)(hf:Fr S w w')(Z:OffT w τ.T S)(M:OffT w τ.L S)(I:OffT w τ.I S)(O:OffT w τ.P S):TbO τ base w' v ts:=
 ⟨z1w h.out hf Z,λi D=>z1w (h.ins i D) hf M,h.off,λi D q hq=>(h.lps i D q hq).tf hf I O⟩
theorem YsO.tf (h:YsO τ base w v ys)(hf:Fr S w w')(I:OffT w τ.Y S)(D:OffT w τ.P S):YsO τ base w' v ys:=
 ⟨z1w h.out hf I,λi M=>z1w (h.ins i M) hf D⟩
theorem TbO.ext (h:TbO τ base w v ts)(hf:Fr [] w w'):TbO τ base w' v ts:=h.tf hf OffT.nil OffT.nil OffT.nil OffT.nil
theorem YsO.ext (h:YsO τ base w v ys)(hf:Fr [] w w'):YsO τ base w' v ys:=h.tf hf OffT.nil OffT.nil
theorem z1i {α:Type}{l:List α}{i j:Nat}{x d:α}(D:i<l.length):(l.set i x).getD j d=if i=j then x else l.getD j d:=by
 rw[List.getD,List.getElem?_set,List.getD];split;first|rfl|(rw[if_pos D];rfl)
 rfl
theorem TbO.put (hτ:τ.Ok){i:Nat}{u:SV}(h:TbO τ base w v ts)(Z:i<ts.length)(hq:LpO τ base w q)
    (h1:Lw.Own z6j τ.L base w' (slv u) ((ts.getD i tq0).2++[q])) (f1:Fr (z0v (slv (ts.getD i tq0).1)) w w') (hx:slv u=slv (ts.getD i tq0).1\/z0v (slv u)=z0v (slv (ts.getD i tq0).1)\/z0v (slv u)=[w.heap.size])
    (h2:Lw.Own z3z τ.T base w2 v (ts.set i (u,(ts.getD i tq0).2++[q]))) (f2:Fr (z0v v) w' w2):TbO τ base w2 v (ts.set i (u,(ts.getD i tq0).2++[q])):=by
  have o1:∀T,T≠τ.L->OffT w T (z0v (slv (ts.getD i tq0).1)):=λT hT=>z6e (h.ins i Z) (Ne.symm hT)
  have a3:=z1w h.out f1 (o1 _ hτ.tl)
  have o2:∀T,T≠τ.T->OffT w' T (z0v v):=λT hT=>z6e a3 (Ne.symm hT)
  refine⟨h2,λj M=>?_,λj k M hk a1=>?_,λj M p O=>?_⟩
  · rw[List.length_set]at M
    rw[z1i Z]
    split
    · exact z1w h1 f2 (o2 _ (Ne.symm hτ.tl))
    · rename_i a4
      exact z1w ((h.ins j M).fr f1 λb I D=>h.off i j Z M a4 b I D) f2 (o2 _ (Ne.symm hτ.tl))
  · rw[List.length_set]at M hk
    have a2:∀k,k<ts.length->i≠k->∀b∈z0v (slv u),b∉z0v (slv (ts.getD k tq0).1):=λk hk a0 b I D=>by
      rcases hx with e|e|e
      · rw[e]at I;exact h.off i k Z hk a0 b I D
      · rw[e]at I;exact h.off i k Z hk a0 b I D
      · rw[e,List.mem_singleton]at I;subst I
        have:=((h.ins k hk).blk _ D).2;omega
    rw[z1i Z,z1i Z]
    split<;>split
    · rename_i e1 e2;exact absurd (e1.symm.trans e2) a1
    · rename_i e1 e2;exact a2 k hk e2
    · rename_i e1 e2;exact λb I D=>a2 j M e1 b D I
    · exact h.off j k M hk a1
  · rw[List.length_set]at M
    rw[z1i Z]at O
    have g:∀p,LpO τ base w p->LpO τ base w2 p:=λp O=>(O.tf f1 (o1 _ (Ne.symm hτ.li)) (o1 _ (Ne.symm hτ.lp))).tf f2 (o2 _ (Ne.symm hτ.ti)) (o2 _ (Ne.symm hτ.tp))
    split at O
    · rcases List.mem_append.1 O with O|O
      · exact g p (h.lps i Z p O)
      · rw[List.mem_singleton.1 O];exact g q hq
    · exact g p (h.lps j M p O)
theorem TbO.at (h:TbO τ base w v ts):Sl z3z w v ts/\TabAt w ts:=by
 refine⟨h.out.sl,λp M=>?_⟩;obtain⟨i,I⟩:=List.getElem?_of_mem M;have hl:=(List.getElem?_eq_some_iff.1 I).1;have e:ts.getD i tq0=p:=by rw[List.getD,I];rfl
 have D:=h.ins i hl;rw[e]at D;refine⟨D.sl,λq O=>(h.lps i hl q (by rw[e];exact O)).at⟩
theorem YsO.put {i:Nat}{y:YQ}(h:YsO τ base w v ys)(M:i<ys.length)(O:τ.Ok)(I:Lw.Own z2x τ.Y base w' v (ys.set i y))(hf:Fr (z0v v) w w')(hp:Lw.Own z2d τ.P base w (slv y.pe) y.pes):YsO τ base w' v (ys.set i y):=by
 have o:OffT w τ.P (z0v v):=z6e h.out O.yp;refine⟨I,λj D=>?_⟩;rw[List.length_set]at D;rw[z1i M];split;exact z1w hp hf o;exact z1w (h.ins j D) hf o
end
end Go.G21
namespace Go.G21
open Go.Lw
structure KA where
  gk:Nat
  gy:Nat
  cy:Nat
  gt:Nat
  ct:Nat
  gf:Nat
  cf:Nat
  gb:Nat
  cb:Nat
  wd:Nat
  g5:Nat
  c5:List Value
  ids:List (Nat×List Value)
abbrev KA.YV (a:KA):Value:=.slice (some ⟨a.gy,0,none⟩) 6 a.cy
abbrev KA.TV (a:KA):Value:=.slice (some ⟨a.gt,0,none⟩) 6 a.ct
section
variable {τ:TyK} {Kt:Nat} {wS w w':World} {a:KA} {ys ys':List YQ} {ts ts':List TQ} {fs bs:List IQ} {j i:Nat} {q:IQ}
end
end Go.G21
namespace Go.G21
open Go.Lw
section
variable {wd:Nat} {ys:List YQ} {ts:List TQ} {fs bs:List IQ} {rows:List (List Lp)} {en:Nat->Bool} {F B F' B':Nat->List LId} {j i:Nat} {lq:LpQ} {L:Lp} {u u':SV} {l:List LId}
end
end Go.G21
namespace Go.G21
open Go.Lw
end Go.G21
namespace Go.G21
open Go.Lw
section
variable {τ:TyK} {Kt:Nat} {wS w w':World} {a:KA} {ys:List YQ} {ts:List TQ} {fs bs:List IQ} {j wd:Nat} {y:YQ} {rows:List (List Lp)} {en en':Nat->Bool} {F B:Nat->List LId}
end
end Go.G21
namespace Go.G21
open Go.Lw
end Go.G21
namespace Go.G21
open Go.Lw
end Go.G21
namespace Go.G21
open Go.Lw
end Go.G21
namespace Go.G21
open Go.Lw
section
variable {τ:TyK} {base:Nat} {w w2:World} {v:Value} {ts:List TQ} {i:Nat} {u:SV}
theorem TbO.old {S:List Nat}{w':World}(h:TbO τ base w v ts)(hf:Fr S w w')(O:∀k∈S,k<base):TbO τ base w' v ts:=by
 have o:∀ {α:Type} {E:Enc α} {T:Nat} {u:Value} {l:List α},Lw.Own E T base w u l->Lw.Own E T base w' u l:=λI=>I.fr hf λk hk Z=>by
  have h1:=O k hk;have h2:=(I.blk k Z).1;omega
 exact⟨o h.out,λi D=>o (h.ins i D),h.off,λi D q M=>⟨o (h.lps i D q M).1,o (h.lps i D q M).2⟩⟩
end
end Go.G21
namespace Go.G21
open Go.Lw
abbrev Tb:=List (List Lp)
def z3h (T:Tb)(y:Nat):Nat:=(T.getD y []).length
def lpA (T:Tb)(y n:Nat):Lp:=(T.getD y []).getD n lq0.p
def z4k (T:Tb)(i:LId):Prop:=1<=i.y/\i.y<=T.length/\0<=i.n/\i.n<z3h T (i.y-1).toNat
instance (T:Tb) (i:LId):Decidable (z4k T i):=by unfold z4k;infer_instance
def z4o (l:Lp):List LId:=l.th++l.pa.map Pa.id
def y4t (T:Tb)(l:Lp):Prop:=(l.b=0\/l.b=1)/\(l.th.length<=4/\l.pa.length<=4096)/\(∀i∈z4o l,z4k T i)/\(∀p∈l.pa,z5z p.d)/\(z4w [] l.pa).length=l.pa.length
def x5f (r:List Lp):List LId:=r.flatMap Lp.th
def z9f (T:Tb):List LId:=T.flatMap x5f
def z5p (T:Tb):Nat:=(T.map List.length).sum
structure Ranked (T:Tb) (rk:LId->Nat):Prop where
  need:∀y,y<6->∀n,n<z3h T y->∀i∈z4o (lpA T y n),rk i<rk ⟨(y:Int)+1,n⟩
  mono:∀y,y<6->∀n m,n<m->m<z3h T y->rk ⟨(y:Int)+1,(n:Int)⟩<rk ⟨(y:Int)+1,(m:Int)⟩
structure TabOk (T:Tb):Prop where
  six:T.length=6
  cnt:z5p T<=2048
  rts:∀y,y<6->∀n,n<z3h T y->y4t T (lpA T y n)/\(n=0->(lpA T y n).nw=true)
  ord:∃rk,Ranked T rk
structure PlaceOk (T:Tb) (H F:List LId):Prop where
  has:∀i∈H++F,z4k T i
  asc:F.length<=1
  once:∀y,y<6->∀n,n<z3h T y->(H++F++z9f T).count ⟨(y:Int)+1,(n:Int)⟩=1
theorem z9d {T:Tb}{j:Nat}{r:List Lp}(D:j<T.length)(y:Nat):z3h (T.set j r) y=if j=y then r.length else z3h T y:=by
 unfold z3h;rw[z1i D];split<;>rfl
theorem z7t {α β:Type}[BEq β][LawfulBEq β](g:α->List β):∀(T:List α) (j:Nat) (d v:α) (x:β),j<T.length->((T.set j v).flatMap g).count x+(g (T.getD j d)).count x=(T.flatMap g).count x+(g v).count x
 | a::T,0,d,v,x,_=>by
  simp only[List.set_cons_zero,List.flatMap_cons,List.count_append,List.getD_cons_zero];omega
 | a::T,j+1,d,v,x,h=>by
  have:=z7t g T j d v x (by simpa using h)
  simp only[List.set_cons_succ,List.flatMap_cons,List.count_append,List.getD_cons_succ];omega
theorem y8d:∀(T:Tb) (j:Nat) (r:List Lp),j<T.length->z5p (T.set j r)+z3h T j=z5p T+r.length
 | a::T,0,r,_=>by simp[z5p,z3h];omega
 | a::T,j+1,r,h=>by
  have:=y8d T j r (by simpa using h)
  simp only[z5p,z3h,List.set_cons_succ,List.map_cons,List.sum_cons,List.getD_cons_succ]at this ⊢;omega
end Go.G21
namespace Go.G21
open Go.Lw
theorem z9i {T:Tb}{y n:Nat}(h1:y<T.length)(D:n<z3h T y):z4k T ⟨(y:Int)+1,(n:Int)⟩:=by
 refine⟨by show 1<=(y:Int)+1;omega,by show (y:Int)+1<=_;omega,by show (0:Int)<=n;omega,?_⟩;show (n:Int)<(z3h T ((y:Int)+1-1).toNat:Int);rw[show ((y:Int)+1-1).toNat=y by omega];omega
theorem y9d {T:Tb}{j:Nat}{X:List Lp}(Z:j<T.length){i:LId}(h:z4k T i):z4k (T.set j (T.getD j []++X)) i:=by
 obtain⟨D,I,M,O⟩:=h;refine⟨D,by rw[List.length_set];exact I,M,?_⟩;rw[z9d Z];split;rename_i e;rw[List.length_append];have:z3h T (i.y-1).toNat=(T.getD j []).length:=by rw[<-e];rfl
 omega;exact O
theorem u4v {T:Tb}{j:Nat}{X:List Lp}(D:j<T.length)(y n:Nat):lpA (T.set j (T.getD j []++X)) y n=if j=y then (if n<z3h T j then lpA T j n else X.getD (n-z3h T j) lq0.p) else lpA T y n:=by
 unfold lpA z3h;rw[z1i D];split;rename_i e;subst e;generalize T.getD j []=r;split;rename_i h;simp only[List.getD,List.getElem?_append_left h];rename_i h;simp only[List.getD,List.getElem?_append_right (Nat.not_lt.1 h)];rfl
def rkX (rk:LId->Nat)(j f N:Nat)(i:LId):Nat:=if i.y=(j:Int)+1/\(f:Int)<=i.n then N+(i.n-f).toNat else rk i
end Go.G21
namespace Go.Lw
open Go.RowKit
structure MOp where
  k:Int
  d:Int
  b:Int
  p:Int
  y:Int
  r:Int
theorem MOp.ext' {a c:MOp}(h:a.k=c.k/\a.d=c.d/\a.b=c.b/\a.p=c.p/\a.y=c.y/\a.r=c.r):a=c:=by
 obtain⟨D,I,M,O,Z,h6⟩:=h;cases a;cases c;simp only at *;subst D I M O Z h6;rfl
instance:DecidableEq MOp:=λa c=>
  if h:a.k=c.k/\a.d=c.d/\a.b=c.b/\a.p=c.p/\a.y=c.y/\a.r=c.r then isTrue (MOp.ext' h)
  else isFalse (λe=>h (by subst e;exact ⟨rfl,rfl,rfl,rfl,rfl,rfl⟩))
def z3c:Enc MOp:=⟨λo=>[.int .u8 o.k,.int .u8 o.d,.int .u8 o.b,.int .i64 o.p,.int .u8 o.y,.int .i64 o.r],6,λ_=>rfl,λ_ u h=>by simp at h;rcases h with rfl|rfl|rfl|rfl|rfl|rfl<;>rfl,dd⟩
abbrev opV (o:MOp):Value:=.agg #[.int .u8 o.k,.int .u8 o.d,.int .u8 o.b,.int .i64 o.p,.int .u8 o.y,.int .i64 o.r]
def op0:MOp:=⟨0,0,0,0,0,0⟩
def ndV (p:Int×Int):Value:=.agg #[.int .u8 p.1,.int .i64 p.2]
def z4g (b p:Int):Int:=if b≠0/\b≠1 then 1 else if p<1\/40<p then 1 else 0
abbrev F4:=Bool×Bool×Bool×Bool
def f4L (f:F4):List Value:=[.bool f.1,.bool f.2.1,.bool f.2.2.1,.bool f.2.2.2]
theorem x3s (f:F4):∀u∈f4L f,u.oneCell'=true:=by intro u D;simp[f4L]at D;rcases D with rfl|rfl|rfl|rfl<;>rfl
def f4V (f:F4):Value:=.agg (f4L f).toArray
def f40:F4:=(false,false,false,false)
def z7l (k:Int):Option F4:=
  if k=8 then some (false,true,false,false) else if k=7 then some (false,true,false,false) else if k=6 then some (true,true,true,false)
  else if k=5 then some (true,true,true,false) else if k=4 then some (true,true,true,false) else if k=3 then some (false,false,false,true)
  else if k=2 then some (false,false,true,false) else if k=1 then some (true,false,true,false) else none
def x3r (k:Int):Option Value:=(z7l k).map f4V
theorem z6w (k:Int):(x3r k).getD (.agg #[.bool false,.bool false,.bool false,.bool false])=.agg (f4L ((z7l k).getD f40)).toArray:=by
 unfold x3r;cases z7l k<;>rfl
theorem y1u (k:Int):(x3r k).isSome=(z7l k).isSome:=by unfold x3r;cases z7l k<;>rfl
abbrev pl1 (f:F4)(o:MOp):Prop:=(f.1=true/\o.d≠0)/\o.d≠1\/¬f.1=true/\o.d≠0
abbrev pl2 (f:F4)(o:MOp):Prop:=f.2.1=true/\z4g o.b o.p≠0\/¬f.2.1=true/\¬(o.b=0/\o.p=0)
abbrev pl3 (f:F4)(o:MOp):Prop:=f.2.2.1=true/\(o.y<1\/6<o.y)\/¬f.2.2.1=true/\o.y≠0
abbrev pl4 (f:F4)(o:MOp):Prop:=f.2.2.2=true\/o.r=0
def x4w (f:F4)(o:MOp):Prop:=¬pl1 f o/\¬pl2 f o/\¬pl3 f o/\pl4 f o
instance (f:F4) (o:MOp):Decidable (x4w f o):=by unfold x4w;infer_instance
def y6a (o:MOp):Prop:=(z7l o.k).isSome=true/\x4w ((z7l o.k).getD f40) o
instance (o:MOp):Decidable (y6a o):=by unfold y6a;infer_instance
def y5k (o:MOp):Int:=if ¬y6a o then 1 else if o.r < -4\/4<o.r then 11 else 0
def j3p (n:Nat):UInt8:=UInt8.ofNat (48+n)
def j1b (n:Nat):List UInt8:=if n<10 then [j3p n] else [j3p (n / 10),j3p (n % 10)]
def x3c (n:Int):List UInt8:=if n<0 then 45::j1b n.natAbs else j1b n.toNat
theorem u2v {n:Nat}(h:n<100):Lib.decDigits n=j1b n:=by
 unfold j1b;rw[Lib.decDigits];split;rfl;rw[Lib.decDigits,dif_pos oo];rfl
theorem u4e {n:Int}(h:-99<=n/\n<=99):Lib.itoa n=x3c n:=by
 unfold Lib.itoa x3c;split<;>rw[u2v oo]
theorem y5j (n:Int):(x3c n).length<=3:=by unfold x3c j1b;(repeat' split)<;>simp
def z8c:List (List UInt8):=[[],[105,110],[111,117,116],[114,97,99,107],[107,110,105,116],[116,117,99,107],[109,105,115,115],[120,102,101,114],[100,114,111,112]]
def x1b:List (List UInt8):=[[108,101,102,116],[114,105,103,104,116]]
def z8u (k:Int):List UInt8:=z8c.getD k.toNat []
def u2b (d:Int):List UInt8:=x1b.getD d.toNat []
theorem v0t {k:Int}(h:0<=k/\k<9):(z8c.map S)[k.toNat*1]?=some (S (z8u k)):=by
 rw[Nat.mul_one,List.getElem?_map,z8u,List.getD];have:k.toNat<z8c.length:=by simp only[z8c,List.length];omega
 rw[List.getElem?_eq_getElem this];rfl
theorem x6f {k:Int}(h:0<=k/\k<2):(x1b.map S)[k.toNat*1]?=some (S (u2b k)):=by
 rw[Nat.mul_one,List.getElem?_map,u2b,List.getD];have:k.toNat<x1b.length:=by simp only[x1b,List.length];omega
 rw[List.getElem?_eq_getElem this];rfl
def v1o (b p:Int):List UInt8:=if z4g b p≠0 then [] else if b=0 then [102]++x3c p else [98]++x3c p
def y3b (o:MOp):List (List UInt8):=
  if o.k=1 then [x3c o.y,u2b o.d] else if o.k=2 then [x3c o.y] else if o.k=3 then [x3c o.r]
  else if (o.k=4\/o.k=5)\/o.k=6 then [u2b o.d,v1o o.b o.p,x3c o.y] else if o.k=7\/o.k=8 then [v1o o.b o.p] else []
def u9s (o:MOp):List UInt8:=if y5k o≠0 then [] else Lib.join (z8u o.k::y3b o) [32]
theorem x6a {b p:Int}:z4g b p=0↔(b=0\/b=1)/\1<=p/\p<=40:=by unfold z4g;(repeat' split)<;>omega
theorem v7v {k:Int}(h:(z7l k).isSome=true):1<=k/\k<=8:=by unfold z7l at h;(repeat' split at h)<;>first|omega|simp at h
theorem j1m {o:MOp}(h:y5k o=0):y6a o/\-4<=o.r/\o.r<=4:=by
 unfold y5k at h;split at h;omega;rename_i D;split at h;omega;rename_i I;exact⟨Classical.not_not.1 D,oo,oo⟩
theorem v2e {o:MOp}(h:y5k o=0):1<=o.k/\o.k<=8/\0<=o.d/\o.d<=1/\0<=o.y/\o.y<=6/\-4<=o.r/\o.r<=4:=by
 obtain⟨⟨O,D,Z,I,h5⟩,h6,h7⟩:=j1m h
 have M:=v7v O
 generalize (z7l o.k).getD f40=f at D Z I h5
 refine⟨M.1,M.2,?_,?_,?_,?_,h6,h7⟩<;>
 ·revert D I
  unfold pl1 pl3
  cases f.1<;>cases f.2.2.1<;>simp<;>omega
theorem v9m {b p:Int}:(v1o b p).length<=6:=by
 unfold v1o;split;simp;rename_i h;have D:=x6a.1 (Classical.not_not.1 h);have:=y5j p;split<;>simp<;>omega
theorem v3k (k:Int):(z8u k).length<=4:=by
 have:∀n:Nat,(z8c.getD n []).length<=4
  | 0|1|2|3|4|5|6|7|8=>by decide
  | n+9=>by simp[z8c,List.getD]
 exact this _
theorem v6z (k:Int):(u2b k).length<=5:=by
 have:∀n:Nat,(x1b.getD n []).length<=5
  | 0|1=>by decide
  | n+2=>by simp[x1b,List.getD]
 exact this _
theorem u8y (o:MOp):(y3b o).length<=3:=by unfold y3b;(repeat' split)<;>simp
theorem v7h (o:MOp)(h:y5k o=0):(Lib.join (z8u o.k::y3b o) [32]).length<=30:=by
 have hr:=v2e h;have D:=v3k o.k;have I:=v6z o.d;have M:=y5j o.y;have O:=y5j o.r;have Z:=v9m (b:=o.b) (p:=o.p);rw[Lib.join_cons];unfold y3b Lib.joinTail;(repeat' split)<;>simp<;>omega
def MOp.Ok (o:MOp):Prop:=0<=o.k/\0<=o.d/\0<=o.b/\0<=o.y/\o.k<=255/\o.d<=255/\o.b<=255/\o.y<=255
def v4n (c:UInt8):Bool:=decide (48<=(c.toNat:Int)/\(c.toNat:Int)<=57)
def v1s (n:Int)(c:UInt8):Int:=10*n+((c.toNat:Int)-48)
def y5f (l:List UInt8):Int:=l.foldl v1s 0
def u6x (l:List UInt8):Option Int:=if ((l.getD 0 0).toNat:Int)=102 then some 0 else if ((l.getD 0 0).toNat:Int)=98 then some 1 else none
def x2b (l:List UInt8):Int×Int:=
  if (l.length:Int)<2\/3<(l.length:Int) then (0,0) else
  match u6x l with
  | none=>(0,0)
  | some b=>if (l.drop 1).all v4n=false then (0,0) else if v1o b (y5f (l.drop 1))≠l then (0,0) else (b,y5f (l.drop 1))
theorem y5y (l:List UInt8)(k:Nat)(h:k<l.length):l.take (k+1)=l.take k++[l.getD k 0]:=by
 rw[List.take_succ_eq_append_getElem h];simp[List.getD,h]
theorem x7z (l:List UInt8)(k:Nat)(h:k<l.length):y5f (l.take (k+1))=10*y5f (l.take k)+(((l.getD k 0).toNat:Int)-48):=by
 rw[y5y l k h,y5f,List.foldl_append];rfl
theorem v8n (l:List UInt8)(k:Nat)(h:k<l.length)(D:(l.take k).all v4n=true)(I:48<=((l.getD k 0).toNat:Int)/\((l.getD k 0).toNat:Int)<=57):(l.take (k+1)).all v4n=true:=by
 rw[y5y l k h,List.all_append,D,List.all_cons,List.all_nil,v4n,decide_eq_true I];rfl
theorem u2y (l:List UInt8)(k:Nat)(h:k<l.length)(I:¬(48<=((l.getD k 0).toNat:Int)/\((l.getD k 0).toNat:Int)<=57)):l.all v4n=false:=by
 rw[Bool.eq_false_iff];intro D;rw[List.all_eq_true]at D;have:=D (l.getD k 0) (by simp[List.getD,h]);simp only[v4n,decide_eq_true_eq]at this;exact I this
theorem x0p {l:List UInt8}(h:l.all v4n=true)(hl:l.length<=2):0<=y5f l/\y5f l<=99:=by
 match l,h,hl with
 | [],_,_=>decide
 | [a],h,_=>simp[v4n]at h;simp[y5f,v1s];omega
 | [a,b],h,_=>simp[v4n]at h;simp[y5f,v1s];omega
 | _::_::_::_,_,hl=>simp at hl
def v7m (l:List UInt8):Int:=match Lib.atoiAll l with|.ok v=>v|_=>0
def j1l (l:List UInt8):Int:=if l=[114,105,103,104,116] then 1 else 0
def y5g (w:List UInt8):Nat->Int
  | 0=>0
  | i+1=>if z8c.getD i []=w then (i:Int) else y5g w i
def y7n (w:List UInt8):Int:=y5g w 9
theorem x1h (w:List UInt8):∀i:Nat,0<=y5g w i/\y5g w i<=i
 | 0=>by simp[y5g]
 | i+1=>by have:=x1h w i;unfold y5g;split<;>omega
theorem v6y {i:Nat}(h:i<9):(z8c.map S)[((i:Nat):Int).toNat]?=some (S (z8c.getD i [])):=by
 rw[Int.toNat_natCast,List.getElem?_map,List.getD,List.getElem?_eq_getElem (show i<z8c.length from h)];rfl
def fD (k:Int):Bool:=((z7l k).getD f40).1
def fN (k:Int):Bool:=((z7l k).getD f40).2.1
def y5b (k:Int)(ws:List (List UInt8)):MOp:=
  if k=1/\(ws.length:Int)=3 then ⟨k,j1l (ws.getD 2 []),0,0,v7m (ws.getD 1 []) % 256,0⟩
  else if k=2/\(ws.length:Int)=2 then ⟨k,0,0,0,v7m (ws.getD 1 []) % 256,0⟩
  else if k=3/\(ws.length:Int)=2 then ⟨k,0,0,0,0,v7m (ws.getD 1 [])⟩
  else if fD k=true/\(ws.length:Int)=4 then ⟨k,j1l (ws.getD 1 []),(x2b (ws.getD 2 [])).1,(x2b (ws.getD 2 [])).2,v7m (ws.getD 3 []) % 256,0⟩
  else if fN k=true/\(ws.length:Int)=2 then ⟨k,0,(x2b (ws.getD 1 [])).1,(x2b (ws.getD 1 [])).2,0,0⟩
  else ⟨k,0,0,0,0,0⟩
def z4b (ws:List (List UInt8)):MOp:=y5b (y7n (ws.getD 0 [])) ws
def y6f (l:List UInt8):MOp×Int:=
  if y5k (z4b (Lib.split l [32]))≠0\/u9s (z4b (Lib.split l [32]))≠l then (op0,4) else (z4b (Lib.split l [32]),0)
theorem x8a (D:List UInt8)(sv:Nat):∀(k:Nat) (l:List UInt8),1<=(Lib.splitK D sv k l).length
 | 0,l=>by simp[Lib.splitK]
 | k+1,l=>by unfold Lib.splitK;split<;>simp
theorem x9b (l D:List UInt8):1<=(Lib.split l D).length:=x8a _ _ _ _
theorem y6w (D:List UInt8):∀(k:Nat) (l x:List UInt8),x∈Lib.splitK D 0 k l->x.length<=l.length
 | 0,l,x,h=>by simp[Lib.splitK]at h;rw[h];exact Nat.le_refl _
 | k+1,l,x,h=>by
  unfold Lib.splitK at h
  split at h
  ·simp at h;rw[h];exact Nat.le_refl _
  rw[List.mem_cons]at h
  rcases h with rfl|h
  ·simp;omega
  have:=y6w D k _ x h
  simp at this;omega
theorem v1w (l D:List UInt8)(i:Nat):((Lib.split l D).getD i []).length<=l.length:=by
 rw[List.getD];cases e:(Lib.split l D)[i]? with
 | none=>simp
 | some y=>exact y6w D _ l y (List.mem_of_getElem? e)
theorem y1d (x:List UInt8)(c:UInt8):(Lib.trimB x c).length<=x.length:=by
 unfold Lib.trimB Lib.trimLeftB Lib.trimRightB;refine Nat.le_trans ((List.dropWhile_suffix _).length_le) ?_;rw[List.length_reverse];refine Nat.le_trans ((List.dropWhile_suffix _).length_le) ?_;rw[List.length_reverse];exact Nat.le_refl _
end Go.Lw
