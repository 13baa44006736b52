/- Rules for code, regions, loops, calls at value level. -/
import Derived.Test.YtlbojjldejlgaaaGreatTLiftAB
namespace Go.Lift
open Go
def eE(K:Ctx)(c:Code)(s:S)(Q:Exit→S→Prop):Prop:=
  ∀β a w Q',Rel K β s a w→(∀e s' β' a' w',Q e s'→Rel K β' s' a' w'→Q' e a' w')→c.wp K.P Q' a w
def aBO(K:Ctx)(ops:Array Oper)(l:List Oper)(s:S)(Q:S→Prop):Prop:=
  ∀β a w Q',Rel K β s a w→(∀s' β' a' w',Q s'→Rel K β' s' a' w'→Q' .normal a' w')→wpList K.P ops Q' l a w
def aC9(next:S→Prop)(Q:Exit→S→Prop):Exit→S→Prop
  | .normal,s=>next s
  |e,s=>Q e s
def aDf(id:Nat)(Q:Exit→S→Prop):Exit→S→Prop
  | .exit id',s=>bif Nat.beq id' id then Q .normal s else Q (.exit id') s
  |e,s=>Q e s
def aFJ(again:S→Prop)(Q:Exit→S→Prop):Exit→S→Prop
  | .normal,s=>again s
  |e,s=>Q e s
theorem S3{P:Program}{ι:Type}{c:Code}{Q:Exit→Act→World→Prop}{a:Act}{w:World}(I:ι→Act→World→Prop)(μ :ι→Nat)(x:ι)(h0:I x a w)
    (round: ∀x a w,I x a w→c.wp P (Exit.then (fun a' w'=> ∃y,I y a' w'∧ μ y< μ x) Q) a w):(Code.loop c).wp P Q a w:=by
  intro b k cs;have key: ∀n x a w,μ x=n→I x a w→
      ∃e a' w',Q e a' w'∧Arrives P (lone (b.at a (.code c:: .inLoop c::k)) cs w) b k cs e a' w':=by
    intro n;induction n using Nat.strongRecOn with
    |_ n ih=>
      intro x a w hn hI;obtain⟨e,a₁,w₁,hq,harr⟩:=round x a w hI b (.inLoop c::k) cs;cases e with
      |normal=>
        obtain⟨y,hI₁,hlt⟩:=hq;obtain⟨e₂,a₂,w₂,hq₂,harr₂⟩:=ih (μ y) (hn▸hlt) y a₁ w₁ rfl hI₁;exact⟨e₂,a₂,w₂,hq₂,.of_steps (Steps.trans harr (.one step_inLoop)) harr₂⟩
      |exit id=>exact⟨_,a₁,w₁,hq,.pass (x:= .inLoop c) rfl (fun _ _=> .inl (by simp)) harr⟩
      |goto l=>exact⟨_,a₁,w₁,hq,.pass (x:= .inLoop c) rfl (fun _ _=> .inl (by simp)) harr⟩
      |ret=>exact⟨_,a₁,w₁,hq,.pass (x:= .inLoop c) rfl (fun _ _=> .inl (by simp)) harr⟩
      |panic ch=>exact⟨_,a₁,w₁,hq,.pass (x:= .inLoop c) rfl (fun _ _=> .inl (by simp)) harr⟩
      |outgrown=>exact⟨_,a₁,w₁,hq,.pass (x:= .inLoop c) rfl (fun _ _=> .inl (by simp)) harr⟩
  obtain⟨e,a',w',hq,harr⟩:=key _ x a w rfl h0;exact⟨e,a',w',hq,.of_steps (.one step_loop) harr⟩
section rules
variable {K:Ctx} {s:S} {Q:Exit→S→Prop}
theorem r7{c:Code}{Q':Exit→S→Prop}(h:eE K c s Q)(hq: ∀e s,Q e s→Q' e s):eE K c s Q':=
  fun β a w Q2 hr hk=>h β a w Q2 hr fun e s' β' a' w' q r=>hk e s' β' a' w' (hq e s' q) r
theorem vR{c:Code}{s':S}(hs:s.le K s')(h:eE K c s' Q):eE K c s Q:=
  fun β a w Q2 hr hk=>let ⟨β',hr'⟩:=hs β a w hr;h β' a w Q2 hr' hk
theorem aAF{x y:Code}(h:eE K x s (aC9 (fun s1=>eE K y s1 Q) Q)):eE K (.seq x y) s Q:=by
  intro β a w Q' hr hk;refine wp_seq (h β a w _ hr ?_);intro e s' β' a' w' hq hr';cases e with
  |normal=>exact hq β' a' w' Q' hr' hk
  |exit id=>exact hk _ _ _ _ _ hq hr'
  |goto l=>exact hk _ _ _ _ _ hq hr'
  |ret=>exact hk _ _ _ _ _ hq hr'
  |panic c=>exact hk _ _ _ _ _ hq hr'
  |outgrown=>exact hk _ _ _ _ _ hq hr'
theorem aGN(h:Q .normal s):eE K .skip s Q:=fun β a w _ hr hk=>wp_skip (hk _ _ β a w h hr)
theorem aJe(h:Q .ret s):eE K .ret s Q:=fun β a w _ hr hk=>wp_ret (hk _ _ β a w h hr)
theorem aGQ{id:Nat}(h:Q (.exit id) s):eE K (.exit id) s Q:=fun β a w _ hr hk=>wp_exit (hk _ _ β a w h hr)
theorem H9{c:Operand}{x y:Code}{b:Bool}(hc:s.get c= .t (.bool b))(ht:b=true→eE K x s Q)(hf:b=false→eE K y s Q):eE K (.cond c x y) s Q:=by
  intro β a w Q' hr hk;have h:=hr.get c;rw [hc] at h;have hb:=gT h;cases b with
  |true=>exact wp_cond_true hb (ht rfl β a w Q' hr hk)
  |false=>exact wp_cond_false hb (hf rfl β a w Q' hr hk)
theorem aFO{id:Nat}{c:Code}(h:eE K c s (aDf id Q)):eE K (.block id c) s Q:=by
  intro β a w Q' hr hk;refine wp_block (h β a w _ hr ?_);intro e s' β' a' w' hq hr';cases e with
  |exit id'=>
    by_cases hid:id'=id
    · subst hid;simp only [aDf,Exit.inBlock,if_true] at*;rw [show Nat.beq id' id'=true by simp,cond_true] at hq;exact hk _ _ _ _ _ hq hr'
    · simp only [aDf,Exit.inBlock] at*;rw [if_neg hid];rw [show Nat.beq id' id=false from by cases hb:Nat.beq id' id with
        |false=>rfl
        |true=>exact absurd (fV hb) hid,cond_false] at hq
      exact hk _ _ _ _ _ hq hr'
  |normal=>exact hk _ _ _ _ _ hq hr'
  |goto l=>exact hk _ _ _ _ _ hq hr'
  |ret=>exact hk _ _ _ _ _ hq hr'
  |panic c=>exact hk _ _ _ _ _ hq hr'
  |outgrown=>exact hk _ _ _ _ _ hq hr'
theorem aGO{ι:Type}{c:Code}(I:ι→S)(p:ι→Prop)(μ :ι→Nat)(x:ι)(hx:p x)(h0:s.le K (I x))
    (round: ∀x,p x→eE K c (I x) (aFJ (fun s'=> ∃y,p y∧ μ y< μ x∧s'.le K (I y)) Q)):eE K (.loop c) s Q:=by
  intro β a w Q' hr hk;obtain⟨β',hr'⟩:=h0 β a w hr;refine S3 (fun y a' w'=>p y∧ ∃β',Rel K β' (I y) a' w') μ x ⟨hx,β',hr'⟩ ?_;intro y a1 w1 ⟨hpy,β1,hr1⟩;refine round y hpy β1 a1 w1 _ hr1 ?_;intro e s' β2 a2 w2 hq hr2;cases e with
  |normal=>
    obtain⟨z,hpz,hlt,hles⟩:=hq;obtain⟨β3,hr3⟩:=hles β2 a2 w2 hr2;exact⟨z,⟨hpz,β3,hr3⟩,hlt⟩
  |exit id=>exact hk _ _ _ _ _ hq hr2
  |goto l=>exact hk _ _ _ _ _ hq hr2
  |ret=>exact hk _ _ _ _ _ hq hr2
  |panic c=>exact hk _ _ _ _ _ hq hr2
  |outgrown=>exact hk _ _ _ _ _ hq hr2
theorem aGS{ops:Array Oper}{Q:S→Prop}(h:Q s):aBO K ops [] s Q:=fun β a w _ hr hk=>hk s β a w h hr
theorem Rel.bool{β:Map}{a:Act}{w:World}(hr:Rel K β s a w){t:Nat}{b:Bool}(h:s.t t= .t (.bool b)):a.tmps[t]? =some (.bool b):=by
  have h1:=hr.slots t;rw [h] at h1;have h2:=gT h1;rw [vAL] at h2;cases h3:a.tmps[t]? with
  |none=>rw [h3] at h2;simp [undef] at h2
  |some x=>rw [h3] at h2;simp at h2;rw [h2]
theorem aB6{β:Map}{w:World}{X:Nat→Prop}:RV β w X (.tup []) undef:= .tup [] #[] rfl fun i c u h _=>by simp at h
theorem Rel.unwanted{β:Map}{a:Act}{w:World}(hr:Rel K β s a w){ops:Array Oper}{j t:Nat}{want:Bool}(hj:(ops[j]?).bind (·.dst)=some t)(ht:s.t t= .tup []):yielded ops a.tmps j≠some want:=by
  have h1:=hr.slots t;rw [ht] at h1;have h2:a.tmps.getD t undef= .tuple #[]:=by
    generalize a.tmps.getD t undef=y at h1;cases h1 with
    |tup _ us hl _=>
      have:us= #[]:=by simpa using hl
      rw [this]
  have h3: ∀b,a.tmps[t]? ≠some (.bool b):=by
    intro b hb;rw [vAL,hb] at h2;simp at h2
  unfold yielded;rw [hj];cases hx:a.tmps[t]? with
  |none=>simp [hx]
  |some y=>
    cases y<;>simp [hx];exact absurd hx (h3 _)
def d8:Map:=⟨fun _=>none,fun _ _=>False⟩
theorem jS{id b:Nat}(h:At d8 id b):False:=by
  rcases h with ⟨_,h⟩|h
  · simp [d8] at h
  · exact h
def PC(P:Program)(G:Glob)(f:FuncId)(args:List V)(r:V):Prop:=
  ∀(w:World) (X:Nat→Prop) (us:List Value),G.ok w→(∀b,X b→b<w.heap.size)→RVs d8 w X args us→
    Calls P f us.toArray w fun e w'=> ∃u,e= .returned u∧Ext (fun _=>False) w w'∧RV d8 w' X r u
theorem RV.any{β:Map}{w:World}{X X':Nat→Prop}{x:V}{v:Value}(h:RV d8 w X x v)(hX: ∀b,X' b→X b):RV β w X' x v:=
  h.mono (Ext.refl _ _) (fun b _=>hX b) (fun _ _ _ h=>by simp [d8] at h) (Shaped.refl _ _)
theorem RVs.none_of: ∀{β:Map} {w:World} {X:Nat→Prop} {vs:List V} {us:List Value},RVs β w X vs us→f8 gI vs=true→RVs d8 w X vs us
  |_,_,_,[],[],_,_=>trivial
  |_,_,_,_::_,_::_,h,hl=>by
    simp [f8] at hl;exact⟨h.1.under (u:=gI) (fun _ h=>h) (fun _ h=>by simp [gI] at h) hl.1,RVs.none_of h.2 hl.2⟩
  |_,_,_,[],_::_,h,_=>h.elim
  |_,_,_,_::_,[],h,_=>h.elim
theorem Rel.grow{β:Map}{a:Act}{w w':World}(h:Rel K β s a w)(e:Ext (fun _=>False) w w'):Rel K β s a w':=by
  have hown:Ext (own K β s.H) w w':=e.weaken fun _ _ h=>h.elim;refine {h with ext:=h.ext.trans (e.weaken fun _ _ h=>h.elim),shp:=h.shp.ext h.ext.size e,fresh:= ?_,heap:= ?_,slots:= ?_}
  · intro id b hb;exact⟨(h.fresh id b hb).1,vAN (h.fresh id b hb).2 e.size⟩
  · intro id en he;obtain⟨h1,h2⟩:=h.heap id en he;exact⟨h1,h2.mono hown (fun _ _ h=>h) (MLe.refl _) (fun _ h=>h) (dA e) fun b hb=>e.keep b (h.fresh id b hb).2 fun h=>h⟩
  · intro i;exact(h.slots i).mono hown (fun _ _ h=>h) (MLe.refl _) (dA e)
theorem OpJ.call{o:Oper}{f:FuncId}{fn:Func}{xs:Array Operand}{tys:Array TypeId}{vals:List V}{r:V}
    (ho:o.op= .call {callee:= .value (.func f),args:=xs,argTypes:=tys}) (hf:K.P.funcs[f]? =some fn) (hn:(fn.name== "runtime.NumGoroutine")=false) (hb:fn.body.isNone=false)
    (hd: ∀i,o.dst=some i→Nat.blt i K.nt=true) (hv:VsLe (xs.toList.map s.get) vals) (hl:f8 gI vals=true) (h:PC K.P K.G f vals r):OpJ K o s (s.put o.dst r):=by
  intro β a w next Q hr hk
  have hn':fn.name≠ "runtime.NumGoroutine" :=by simpa using hn
  have hb':fn.body≠none:=by intro e;simp [e] at hb
  have hrun:(execOp a.eval o).run K.P w= .ok (.enter f (xs.map a.eval)) w:=by
    simp [execOp,ho,resolve,Deferred.ofValue,Act.eval,invoke,callFunc,hf,hn',hb']
  unfold Oper.wp;rw [hrun,Oper.upon_enter];have hargs:=(RVs.le (hr.gets xs.toList) hv).none_of hl;have hX: ∀b,own K β s.H b→b<w.heap.size:=by
    rintro b (hx|⟨id,_,hb⟩)
    · exact vAN (hr.xold b hx).1 hr.ext.size
    · exact(hr.fresh id b hb).2
  have hc:=h w (own K β s.H) _ hr.glob hX hargs;have he:(List.map a.eval xs.toList).toArray=xs.map a.eval:=by rw [←Array.toList_map]
  rw [he] at hc;refine hc.mono ?_;rintro e w' ⟨u,rfl,hext,hu⟩;exact hk β _ w' ((hr.grow hext).put o.dst hd (hu.any fun _ h=>h))
def tZ:List V→Nat→(Nat→V)
  | [],_=>mO
  |v::vs,i=>upd (tZ vs (i+1)) i v
theorem sG{β:Map}{w:World}{X:Nat→Prop}: ∀(vs:List V) (us:List Value) (i:Nat),RVs β w X vs us→ ∀j,RV β w X (tZ vs i (i+j)) (us.getD j undef)
  | [],_,_,_,_=> .junk _
  |v::vs,u::us,i,h,0=>by
    rw [vBp,tZ,aI];exact h.1
  |v::vs,u::us,i,h,j+1=>by
    rw [tZ,aH _ _ _ _ (by omega),show i+(j+1)=(i+1)+j by omega];simpa using sG vs us (i+1) h.2 j
  |_::_,[],_,h,_=>h.elim
theorem RVs.length: ∀{β:Map} {w:World} {X:Nat→Prop} {vs:List V} {us:List Value},RVs β w X vs us→us.length=vs.length
  |_,_,_,[],[],_=>rfl
  |_,_,_,_::_,_::_,h=>by simp [RVs.length h.2]
  |_,_,_,[],_::_,h=>h.elim
  |_,_,_,_::_,[],h=>h.elim
def Ctx.pure(P:Program)(G:Glob)(w:World)(X:Nat→Prop)(nt:Nat):Ctx:={P,G,w0:=w,X,n0:=0,β0:=d8,nt}
def start(args:List V):S:={t:=tZ args 0,H:=l7,u:=gI}
theorem Rel.start{P:Program}{G:Glob}{w:World}{X:Nat→Prop}{nt:Nat}{args:List V}{us:List Value}(hG:G.ok w)(hX: ∀b,X b→b<w.heap.size)(h:RVs d8 w X args us)(hn:us.length≤nt):
    Rel (Ctx.pure P G w X nt) d8 (Lift.start args) {tmps:=us.toArray++Array.replicate (nt-us.toArray.size) undef,defers:=[]} w:=by
  have hM: ∀b,¬(Ctx.pure P G w X nt).M b:=by rintro b ⟨id,h,_⟩;simp [Ctx.pure] at h
  refine {ext:=Ext.refl _ _,gok:=hG,mg:=fun b h=>absurd h (hM b),xold:=fun b h=>⟨hX b h,hM b⟩,base:=BaseR.refl _ _ _,shp:=Shaped.refl _ _,low:=fun _ h=>absurd h (vBC _),dom:=fun _ _=>rfl,
           domn:=fun _ _ _ h=>h,inj0:=fun _ _ _ h=>(jS h).elim,inj:=fun _ _ _ h=>(jS h).elim,fresh:=fun _ _ h=>(jS h).elim,heap:=fun _ _ h=>by simp [Lift.start,l7] at h,slots:= ?_,nt:= ?_,defers:=rfl}
  · intro i;have h1:=sG args us 0 h i;rw [l4] at h1;have h2:(us.toArray++Array.replicate (nt-us.toArray.size) undef).getD i undef=us.getD i undef:=by
      simp only [Array.getD_eq_getD_getElem?,List.getD_eq_getElem?_getD,Array.getElem?_append];by_cases hi:i<us.length
      · rw [if_pos (by simpa using hi)];simp
      · rw [if_neg (by simpa using hi)];rw [vBn];rw [vBD (by omega)];split<;>rfl
    simp only [h2];refine h1.mono (Ext.refl _ _) ?_ (MLe.refl _) (Shaped.refl _ _);rintro b _ (hx|⟨id,h1,_⟩)
    · exact hx
    · simp [Lift.start,l7] at h1
  · simp [Ctx.pure];omega
end rules
end Go.Lift
