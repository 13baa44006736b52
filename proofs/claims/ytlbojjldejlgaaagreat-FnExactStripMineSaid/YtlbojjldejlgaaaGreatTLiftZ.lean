/- Plain functions as the walks print them, and the rules that go with them. -/
import Derived.Test.YtlbojjldejlgaaaGreatTLiftY
namespace Go.Lift
open Go
def aL{σ R:Type}(body:(σ→Option R)→σ→Option R):Nat→σ→Option R
 |0,_=>none
 |m+1,x=>body (aL body m) x
def jn{σ R:Type}(j:σ→Option R)(t:(σ→Option R)→Option R):Option R:=t j
theorem aM2{σ R:Type}{J:σ→Option R}{t:(σ→Option R)→Option R}{r:R}(h:jn J t=some r): ∃j,j=J∧t j=some r:=⟨J,rfl,h⟩
theorem bd{α β:Type}{o:Option α}{f:α→Option β}{r:β}(h:o.bind f=some r): ∃x,o=some x∧f x=some r:=by
 cases o with
 |none=>cases h
 |some x=>exact⟨x,rfl,h⟩
theorem bt{R:Type}{c:Bool}{A B:Option R}{r:R}(hc:c=true)(h:(bif c then A else B)=some r):A=some r:=by subst hc;exact h
theorem bf{R:Type}{c:Bool}{A B:Option R}{r:R}(hc:c=false)(h:(bif c then A else B)=some r):B=some r:=by subst hc;exact h
theorem so{R:Type}{a b:R}(h:some a=some b):a=b:=Option.some.inj h
section
variable {K:Ctx} {C:Cfg}
theorem aGP{σ R:Type}{γ:Type}{body:(σ→Option R)→σ→Option R}{n:Nat}{x0:σ}{r:R}{c:Code}{s:S}{Q:Exit→S→Prop}(h:aL body n x0=some r)(I:σ→γ→S)(g0:γ)(h0:s.le K (I x0 g0))
  (round: ∀(again:σ→Option R) (x:σ) (g:γ),body again x=some r→eE K c (I x g) (aFJ (fun s'=> ∃y g',again y=some r∧s'.le K (I y g')) Q)):eE K (.loop c) s Q:=by
 refine aGO (ι:=(Nat×σ)×γ) (fun y=>I y.1.2 y.2) (fun y=>aL body y.1.1 y.1.2=some r) (fun y=>y.1.1) ((n,x0),g0) h h0 ?_;rintro⟨⟨m,x⟩,g⟩ hx;cases m with
 |zero=>cases hx
 |succ m=>
  refine r7 (round (aL body m) x g hx) fun e s' q=>?_;cases e with
  |normal=>obtain⟨y,g',h1,h2⟩:=q;exact⟨((m,y),g'),h1,vAV m,h2⟩
  |exit=>exact q
  |goto=>exact q
  |ret=>exact q
  |panic=>exact q
  |outgrown=>exact q
theorem aDt{σ R:Type}{γ:Type}{j:σ→Option R}{r:R}{x y:Code}{s:S}{Q:Exit→S→Prop}(I:σ→γ→S)
  (h1:eE K x s (aC9 (fun s1=> ∃z g,j z=some r∧s1.le K (I z g)) Q)) (h2: ∀z g,j z=some r→eE K y (I z g) Q):eE K (.seq x y) s Q:=
 aJf (ι:=σ×γ) (fun i=>I i.1 i.2) (fun i=>j i.1=some r) (r7 h1 (fun e s' q=>by
  cases e with
  |normal=>obtain⟨z,g,h1,h2⟩:=q;exact⟨(z,g),h1,h2⟩
  |exit=>exact q
  |goto=>exact q
  |ret=>exact q
  |panic=>exact q
  |outgrown=>exact q)) fun i hi=>h2 i.1 i.2 hi
theorem aNc{P:Program}{G:Glob}{Ty:List (Nat×TyI)}(hT:TyOK P Ty)(nt:Nat)(w:World)(X:Nat→Prop):Cfg.Fits ⟨P,G,Ty,nt,0,d8⟩ (Ctx.pure P G w X nt):=⟨hT,rfl,rfl,rfl,rfl,rfl⟩
theorem aNb{P:Program}{G:Glob}{Ty:List (Nat×TyI)}(hT:TyOK P Ty)(nt n0:Nat)(w:World)(X:Nat→Prop)(β0:Map):Cfg.Fits ⟨P,G,Ty,nt,n0,β0⟩ (Ctx.vc P G w X n0 β0 nt):=⟨hT,rfl,rfl,rfl,rfl,rfl⟩
theorem aCG{P:Program}{f:FuncId}{fn:Func}{c:Code}(hf:P.funcs[f]? =some fn)(hn:(fn.name== "runtime.NumGoroutine")=false)(hb:fn.body=some c):hJ P f:=⟨fn,hf,hn,by rw [hb];rfl⟩
variable {P:Program} {G:Glob} {Ty:List (Nat×TyI)}
end
abbrev rI:Int→List T:=aLK
abbrev rL{α:Type}(r:α→List T)(l:List α):List T:=[T.sl (l.map r)]
abbrev vM{α:Type}(r:α→List T)(l:List α):V:= .t (.sl (l.map r))
abbrev ar{α:Type}(e g size:Nat)(r:α→List T)(l:List α):E:= .arr e g size (l.map r)
abbrev ms{α:Type}(k g size:Nat)(r:α→List T)(l:List α):V:= .msl k g size 0 (l.map r).length
theorem aM0{α:Type}(r:α→List T)(l:List α):(l.map r).length=l.length:=I2 ..
theorem rwM{α:Type}(k:Nat){r:α→List T}(h: ∀x,(r x).length=k)(l:List α):Rows k (l.map r):=Rows.map l h
theorem eD{α:Type}{l:List α}{i:Int}{x:α}(f:α→List T)(h:ix l i=some x):(l.map f)[0+i.toNat]? =some (f x):=by rw [l4,zG,(qX h).2];rfl
theorem mB{α:Type}{l:List α}{i:Int}{x:α}(f:α→List T)(h:ix l i=some x):0≤i∧i<((l.map f).length:Int):=by
 obtain⟨h1,h2⟩:=qX h
 have:=(cC.1 h2).1;simp;omega
theorem aNN{α:Type}{l l0:List α}{i:Int}{x:α}(f:α→List T)(h:ix l i=some x)(e:(l0.map f).length=(l.map f).length):0≤i∧i<((l0.map f).length:Int):=by rw [e];exact mB f h
theorem str{α:Type}{l r:List α}{i:Int}{x:α}(f:α→List T)(h:dM l i x=some r):r.map f=(l.map f).set (0+i.toNat) (f x):=by obtain⟨_,_,rfl⟩:=m0 h;rw [l4,List.map_set]
theorem gL{α:Type}{l:List α}{i:Int}{x:α}(f:α→List T){y:List T}(h:ix l i=some x)(e:f x=y):(l.map f)[0+i.toNat]? =some y:=e▸eD f h
theorem an{p q:Prop}(h:p)(k:q):p∧q:=⟨h,k⟩
def nzc(b:Int):Option Unit:=if b=0 then none else some ()
theorem aHC{b:Int}{x:Unit}(h:nzc b=some x):b≠0:=by intro e;rw [nzc,if_pos e] at h;cases h
theorem cH{α β:Type}{l:List α}{i:Int}{x:α}(f:α→β){y:β}(h:ix l i=some x)(e:f x=y):ix (l.map f) i=some y:=e▸aHO f h
theorem I9{α β:Type}{l r:List α}{a:Int}(f:α→β)(h:sub l a (l.length:Int)=some r):sub (l.map f) a ((l.map f).length:Int)=some (r.map f):=by rw [I2];exact F9 f h
def evP(C:Cfg)(hs:List Hn)(s:S):Option (Eff×List Ob):=match C6 C 0 hs s with
 |some (e,φ,[])=>some (e,φ)
 |_=>none
theorem lp{K:Ctx}{C:Cfg}{s:S}(hC:C.Fits K)(hs:List Hn)(ks:List Nat)(ts:List (Nat×V))(hl:List (Nat×Option E))(ul:List (Nat×Bool))
  (h:cB (evP C hs s) R9 (R7 s ks ts hl)=cB (evP C hs s) R8 (R6 True ts hl ul)):s.le K (s.cl ks ts hl ul):=by
 obtain⟨e,φ,h1,h2,h3⟩:=aFE (K:=K) trivial h;unfold evP at h1;split at h1
 ·rename_i hp;cases h1;exact(nO hC hp h2).trans h3
 cases h1
theorem rV{K:Ctx}{C:Cfg}{s:S}(hC:C.Fits K)(hs:List Hn)(ks:List Nat)(ts:List (Nat×V))(hl:List (Nat×Option E))(ul:List (Nat×Bool)){ψ:Prop}(hψ:ψ)
  (h:cB (evP C hs s) R9 (R7 s ks ts hl)=cB (evP C hs s) R8 (R6 ψ ts hl ul)):s.le K (s.cl ks ts hl ul):=by
 obtain⟨e,φ,h1,h2,h3⟩:=aFE (K:=K) hψ h;unfold evP at h1;split at h1
 ·rename_i hp;cases h1;exact(nO hC hp h2).trans h3
 cases h1
def qP(Ty:List (Nat×TyI))(s:S):List ResultVar→Option (List V)
 | []=>some []
 | .tmp t::rs=>match qP Ty s rs with
  |some vs=>some (s.t t::vs)
  |none=>none
 | .cell a t::rs=>match A3 Ty s.H t (s.t a) [],qP Ty s rs with
  |some (v,[],[]),some vs=>some (v::vs)
  |_,_=>none
def vC:List V→V
 | [v]=>v
 |vs=> .tup vs
def rdR(tmps:Array Value)(r:ResultVar):Sem Value:=match r with
 | .tmp t=>pure (tmps.getD t undef)
 | .cell a t=>do loadVar t (←asAddr (tmps.getD a undef))
theorem qO(fn:Func)(tmps:Array Value):Go.results fn tmps=(do let vs←fn.results.mapM (rdR tmps);pure (if h:vs.size=1 then vs[0] else .tuple vs)):=rfl
theorem aJU{P:Program}{Ty:List (Nat×TyI)}(hT:TyOK P Ty){K:Ctx}{β:Map}{s:S}{a:Act}{w:World}(hr:Rel K β s a w){x:Nat}{t:TypeId}{v:V}(h:A3 Ty s.H t (s.t x) []=some (v,[],[])):
  ∃u,(rdR a.tmps (.cell x t)).run P w= .ok u w∧RV β w (own K β s.H) v u:=by
 have hy:=aAo (d:=none) (ty:=0) (pos:= "") (af:= #[]) (g:=none) (x:= .tmp x) hT h trivial
 obtain⟨u,h1,h2⟩:=hy β w (own K β s.H) a.eval (fun id e he=>(hr.heap id e he).2) ⟨hr.slots x,trivial⟩;refine⟨u,?_,h2⟩;have hv:=hr.slots x;have key: ∃ad,a.tmps.getD x undef= .pointer (some ad):=by
  generalize a.tmps.getD x undef=q at hv;unfold A3 at h;split at h
  ·cases h
  split at h
  ·rename_i hx;rw [hx] at hv;cases hv with|ref _ _ b _=>exact⟨_,rfl⟩
  ·rename_i hx;rw [hx] at hv;cases hv with|tp _ b off f _ _ _ _=>exact⟨_,rfl⟩
  ·split at h
   ·split at h<;>cases h
   ·split at h<;>cases h
   cases h
  cases h
 obtain⟨ad,had⟩:=key;have e1:a.eval (.tmp x)= .pointer (some ad):=had;simp only [execOp,Instr.loadAt,e1,Instr.sureAddr,Sem.run_bind,Sem.run_pure,Result.andThen_ok] at h1;simp only [rdR,had,asAddr,Sem.run_bind,Sem.run_pure,Result.andThen_ok];cases hq:(loadVar t ad).run P w with
 |ok u' w'=>rw [hq] at h1;simp at h1;obtain⟨rfl,rfl⟩:=h1;rfl
 |_=>rw [hq] at h1;cases h1
theorem aDD{P:Program}{Ty:List (Nat×TyI)}(hT:TyOK P Ty){K:Ctx}{β:Map}{s:S}{a:Act}{w:World}(hr:Rel K β s a w): ∀{rs:List ResultVar} {vs:List V},qP Ty s rs=some vs→
  vs.length=rs.length∧ ∀(i:Nat) r v,rs[i]? =some r→vs[i]? =some v→ ∃u,(rdR a.tmps r).run P w= .ok u w∧RV β w (own K β s.H) v u
 | [],_,h=>by cases h;exact⟨rfl,fun i r v h=>by simp at h⟩
 | .tmp t::rs,vs,h=>by
  simp only [qP] at h;split at h
  ·rename_i vs' h1;cases h;obtain⟨a1,a2⟩:=aDD hT hr h1;refine⟨by simp [a1],fun i r v h2 h3=>?_⟩;cases i with
   |zero=>simp at h2 h3;subst h2;subst h3;exact⟨_,rfl,hr.slots t⟩
   |succ i=>simp at h2 h3;exact a2 i r v h2 h3
  cases h
 | .cell x t::rs,vs,h=>by
  simp only [qP] at h;split at h
  ·rename_i v0 vs' h0 h1;cases h;obtain⟨a1,a2⟩:=aDD hT hr h1;refine⟨by simp [a1],fun i r v h2 h3=>?_⟩;cases i with
   |zero=>simp at h2 h3;subst h2;subst h3;exact aJU hT hr h0
   |succ i=>simp at h2 h3;exact a2 i r v h2 h3
  cases h
theorem aHv{P:Program}{fn:Func}{tmps:Array Value}{w:World}{r:ResultVar}{u:Value}(h:fn.results= #[r])(h1:(rdR tmps r).run P w= .ok u w):(Go.results fn tmps).run P w= .ok u w:=by rw [qO,h];simp [h1]
theorem aHu{P:Program}{fn:Func}{tmps:Array Value}{w:World}{r r':ResultVar}{u u':Value}(h:fn.results= #[r,r'])(h1:(rdR tmps r).run P w= .ok u w)(h2:(rdR tmps r').run P w= .ok u' w):(Go.results fn tmps).run P w= .ok (.tuple #[u,u']) w:=by rw [qO,h];simp [h1,h2]
theorem aHt{P:Program}{fn:Func}{tmps:Array Value}{w:World}{r r' r'':ResultVar}{u u' u'':Value}(h:fn.results= #[r,r',r''])(h1:(rdR tmps r).run P w= .ok u w)(h2:(rdR tmps r').run P w= .ok u' w)(h3:(rdR tmps r'').run P w= .ok u'' w):
  (Go.results fn tmps).run P w= .ok (.tuple #[u,u',u'']) w:=by rw [qO,h];simp [h1,h2,h3]
theorem aHs{P:Program}{fn:Func}{tmps:Array Value}{w:World}{r r' r'' r3:ResultVar}{u u' u'' u3:Value}(h:fn.results= #[r,r',r'',r3])(h1:(rdR tmps r).run P w= .ok u w)(h2:(rdR tmps r').run P w= .ok u' w)(h3:(rdR tmps r'').run P w= .ok u'' w)(h4:(rdR tmps r3).run P w= .ok u3 w):
  (Go.results fn tmps).run P w= .ok (.tuple #[u,u',u'',u3]) w:=by rw [qO,h];simp [h1,h2,h3,h4]
theorem C2{P:Program}{Ty:List (Nat×TyI)}(hT:TyOK P Ty){K:Ctx}{β:Map}{s:S}{a:Act}{w:World}(hr:Rel K β s a w){fn:Func}{rs:List ResultVar}(hf:fn.results.toList=rs){vs:List V}(h:qP Ty s rs=some vs)(hl:Nat.ble rs.length 4=true):
  ∃u,(Go.results fn a.tmps).run P w= .ok u w∧RV β w (own K β s.H) (vC vs) u:=by
 obtain⟨h1,h2⟩:=aDD hT hr h;have hf:fn.results=rs.toArray:=by rw [←hf]
 match rs,vs,h1,h2,hl with
 | [],[],_,_,_=>exact⟨_,results_none hf _ _ _,.tup [] #[] rfl fun i c u h _=>by simp at h⟩
 | [r],[v],_,h2,_=>
  obtain⟨u,a1,a2⟩:=h2 0 r v rfl rfl;exact⟨u,aHv hf a1,a2⟩
 | [r,r'],[v,v'],_,h2,_=>
  obtain⟨u,a1,a2⟩:=h2 0 r v rfl rfl;obtain⟨u',b1,b2⟩:=h2 1 r' v' rfl rfl;refine⟨_,aHu hf a1 b1,.tup _ _ rfl fun i c u hc hu=>?_⟩
  match i with
  |0=>simp at hc hu;subst hc;subst hu;exact a2
  |1=>simp at hc hu;subst hc;subst hu;exact b2
  |n+2=>simp at hc
 | [r,r',r''],[v,v',v''],_,h2,_=>
  obtain⟨u,a1,a2⟩:=h2 0 r v rfl rfl;obtain⟨u',b1,b2⟩:=h2 1 r' v' rfl rfl;obtain⟨u'',c1,c2⟩:=h2 2 r'' v'' rfl rfl;refine⟨_,aHt hf a1 b1 c1,.tup _ _ rfl fun i c u hc hu=>?_⟩
  match i with
  |0=>simp at hc hu;subst hc;subst hu;exact a2
  |1=>simp at hc hu;subst hc;subst hu;exact b2
  |2=>simp at hc hu;subst hc;subst hu;exact c2
  |n+3=>simp at hc
 | [r,r',r'',r3],[v,v',v'',v3],_,h2,_=>
  obtain⟨u,a1,a2⟩:=h2 0 r v rfl rfl;obtain⟨u',b1,b2⟩:=h2 1 r' v' rfl rfl;obtain⟨u'',c1,c2⟩:=h2 2 r'' v'' rfl rfl;obtain⟨u3,d1,d2⟩:=h2 3 r3 v3 rfl rfl;refine⟨_,aHs hf a1 b1 c1 d1,.tup _ _ rfl fun i c u hc hu=>?_⟩
  match i with
  |0=>simp at hc hu;subst hc;subst hu;exact a2
  |1=>simp at hc hu;subst hc;subst hu;exact b2
  |2=>simp at hc hu;subst hc;subst hu;exact c2
  |3=>simp at hc hu;subst hc;subst hu;exact d2
  |n+4=>simp at hc
def aNo(Ty:List (Nat×TyI))(rs:List ResultVar)(r:V):Exit→S→Prop
 | .normal,s| .ret,s=> ∃vs,qP Ty s rs=some vs∧VLe (vC vs) r
 |_,_=>False
def aNn(Ty:List (Nat×TyI))(rs:List ResultVar)(r:V)(out:List E):Exit→S→Prop
 | .normal,s| .ret,s=> ∃vs,qP Ty s rs=some vs∧VLe (vC vs) r∧r.ok (cA out.length)=true∧HeapLe s.H (cA out.length) (listH out 0)
 |_,_=>False
section
variable {P:Program} {G:Glob} {Ty:List (Nat×TyI)}
theorem pmr{f:FuncId}{fn:Func}{c:Code}{args:List V}{r:V}{nt:Nat}{rs:List ResultVar}(hT:TyOK P Ty)(hf:P.funcs[f]? =some fn)(hn:(fn.name== "runtime.NumGoroutine")=false)(hb:fn.body=some c)(hr:fn.results.toList=rs)(hnt:fn.ntmps=nt)
  (hle:Nat.ble args.length nt=true) (hl:r.ok gI=true) (hl3:Nat.ble rs.length 4=true)
  (h: ∀w X,Cfg.Fits ⟨P,G,Ty,nt,0,d8⟩ (Ctx.pure P G w X nt)→eE (Ctx.pure P G w X nt) c (start args) (aNo Ty rs r)):PCC P G f args r:=by
 subst hnt;refine⟨aCG hf hn hb,?_⟩;intro w X us hG hX ha;have hlen:us.length≤fn.ntmps:=by rw [ha.length];exact rZ hle
 refine calls_of_wp hf hb (h w X (aNc hT _ w X) d8 _ w _ (Rel.start hG hX ha hlen) ?_);intro e s' β' a' w' hq hrel;have fin:(∃vs,qP Ty s' rs=some vs∧VLe (vC vs) r)→bodyPost P fn (fun e w'=> ∃u,e= .returned u∧Ext (fun _=>False) w w'∧RV d8 w' X r u) .ret a' w':=by
  rintro⟨vs,hvs,hle⟩;obtain⟨u,hu,hv⟩:=C2 hT hrel hr hvs hl3;have hv:=hle _ _ _ _ hv;refine⟨hrel.defers,u,hu,u,rfl,?_,?_⟩
  ·exact hrel.ext.weaken fun b _ ⟨id,h,_⟩=>by simp [Ctx.pure] at h
  exact hv.under (u:=gI) (fun b hb=> .inl hb) (fun _ h=>by simp [gI] at h) hl
 cases e with
 |normal=>exact fin hq
 |ret=>exact fin hq
 |exit id=>exact hq.elim
 |goto l=>exact hq.elim
 |panic c=>exact hq.elim
 |outgrown=>exact hq.elim
def z7(β0:Map):List E→Nat→Prop
 | [],_=>True
 | .arr _ g _ _::es,k=>(∃q,β0 k=some (q,g))∧z7 β0 es (k+1)
 | .tree _ _ g _ _::es,k=>(∃q,β0 k=some (q,g))∧z7 β0 es (k+1)
 | .cells _::es,k=>True∧z7 β0 es (k+1)
theorem aAj{β0:Map}: ∀(es:List E) (k:Nat),(∀(i:Nat) e g,es[i]? =some e→e.gen=some g→ ∃q,β0 (k+i)=some (q,g))→z7 β0 es k
 | [],_,_=>trivial
 |e::es,k,h=>by
  have hr:=aAj es (k+1) (fun i e g hi hg=>by
   have:=h (i+1) e g (by simpa using hi) hg
   rwa [show k+(i+1)=k+1+i by omega] at this)
  cases e with
  |cells=>exact⟨trivial,hr⟩
  |arr _ g _ _=>exact⟨h 0 _ g rfl rfl,hr⟩
  |tree _ _ g _ _=>exact⟨h 0 _ g rfl rfl,hr⟩
theorem vmr{f:FuncId}{fn:Func}{c:Code}{inn out:List E}{args:List V}{r:V}{nt n0:Nat}{rs:List ResultVar}(hT:TyOK P Ty)(hf:P.funcs[f]? =some fn)(hn:(fn.name== "runtime.NumGoroutine")=false)(hb:fn.body=some c)(hr:fn.results.toList=rs)(hnt:fn.ntmps=nt)(hn0:inn.length=n0)
  (hle0:Nat.ble args.length nt=true) (hle2:Nat.ble n0 out.length=true) (hl3:Nat.ble rs.length 4=true)
  (h: ∀w X β0,Cfg.Fits ⟨P,G,Ty,nt,n0,β0⟩ (Ctx.vc P G w X n0 β0 nt)→z7 β0 inn 0→eE (Ctx.vc P G w X n0 β0 nt) c (startV inn args) (aNn Ty rs r out)):VCC P G f inn args r out:=by
 subst hnt;subst hn0;refine⟨aCG hf hn hb,?_⟩;intro w X β0 us hG hX hi ha;have hlen:us.length≤fn.ntmps:=by rw [ha.length];exact rZ hle0
 refine calls_of_wp hf hb (h w X β0 (aNb hT _ _ w X β0) (aAj inn 0 (fun k e g hk hg=>by
  rw [l4];exact(q9 (hi.heap k _ hk) hg).2)) β0 _ w _ (Rel.startV hG hX hi ha hlen) ?_)
 intro e s' β' a' w' hq hr2;have fin:(∃vs,qP Ty s' rs=some vs∧VLe (vC vs) r∧r.ok (cA out.length)=true∧HeapLe s'.H (cA out.length) (listH out 0))→
   bodyPost P fn (fun e w'=> ∃u,∃i:Unit,∃β,e= .returned u∧True∧Left β0 β inn out w w' X r u) .ret a' w':=by
  rintro⟨vs,hvs,hrs,hok,hH⟩;obtain⟨u,hu,hv⟩:=C2 hT hr2 hr hvs hl3;have hv:=hrs _ _ _ _ hv;have hm:inn.length≤out.length:=rZ hle2;let s2:S:={t:=mO,H:=listH out 0,u:=cA out.length}
  have hall:iW inn.length s2.u=true:=by
   have: ∀n,n≤inn.length→iW n s2.u=true:=by
    intro n;induction n with
    |zero=>intro _;rfl
    |succ n ih=>intro hn;simp [iW,ih (by omega),show s2.u n=true from bX.2 (by omega)]
   exact this _ (kF _)
  have hc:=hr2.cut (s':=s2) (SlotsLe.nil _ _) hH hall;have ho:=tU (K:=Ctx.vc P G w X inn.length β0 fn.ntmps) (β:=β') (s:=s') (s':=s2) hH;refine⟨hr2.defers,u,hu,u,(),cut β' s2.u,rfl,trivial,?_⟩;refine⟨hr2.ext.weaken fun b _ ⟨id,_,h⟩=>⟨id,h⟩,hc.base,hc.shp,?_,?_,hc.inj,hc.fresh,?_,hv.under ho (fun _ h=>O2 h) hok⟩
  ·intro k hk;apply hc.dom;cases hx:s2.u k with
   |false=>rfl
   |true=>have:=bX.1 hx;omega
  ·intro k b hk;apply hc.domn;cases hx:s2.u k with
   |false=>rfl
   |true=>have:=bX.1 hx;omega
  intro k e he;exact(hc.heap k e (by rw [←kY] at he;exact he)).2
 cases e with
 |normal=>exact fin hq
 |ret=>exact fin hq
 |exit id=>exact hq.elim
 |goto l=>exact hq.elim
 |panic c=>exact hq.elim
 |outgrown=>exact hq.elim
def aH4(r:V):Option (List V)→Option V
 |some vs=>some (A2 r (vC vs))
 |none=>none
theorem aNg{s:S}{rs:List ResultVar}{r:V}(h:aH4 r (qP Ty s rs)=some r): ∃vs,qP Ty s rs=some vs∧VLe (vC vs) r:=by
 cases hv:qP Ty s rs with
 |none=>rw [hv] at h;cases h
 |some vs=>rw [hv] at h;simp only [aH4,Option.some.injEq] at h;exact⟨vs,rfl,aNU h⟩
theorem aNT{s:S}{rs:List ResultVar}{r:V}{out:List E}(h:(aH4 r (qP Ty s rs),zP s out 0,r.ok (cA out.length)&&Y5 (cA out.length) out)=(some r,uJ out,true)):
  ∃vs,qP Ty s rs=some vs∧VLe (vC vs) r∧r.ok (cA out.length)=true∧HeapLe s.H (cA out.length) (listH out 0):=by
 simp only [Prod.mk.injEq,Bool.and_eq_true] at h;obtain⟨h1,h2,h3,h4⟩:=h;obtain⟨vs,a1,a2⟩:=aNg h1;refine⟨vs,a1,a2,h3,fun k e he=>?_⟩;rw [kY] at he
 have:=Y6 h2 k e he;rw [l4] at this;exact⟨this,bX.2 (cC.1 he).1,aCb h4 k e he⟩
end
theorem R3{α:Type}(f:α→List T){l r:List α}{y:α}(ph:α)(h:app l [y]=some r):app (List.map f l) [f ph]=some (List.map f (l++[ph])):=by obtain⟨h1,_⟩:=qC h;unfold app;rw [if_pos (by simpa using h1),vAP];rfl
theorem oP{α:Type}(f:α→List T)(l:List α)(ph:α):(List.map f (l++[ph]))[(List.map f l).length+0]? =some (f ph):=by rw [vAP,vBp,I1 (kF _),vBk];rfl
theorem J2{α:Type}(f:α→List T)(l:List α){ph y:α}{r:List T}(e:r=f y):(List.map f (l++[ph])).set ((List.map f l).length+0) r=List.map f (l++[y]):=by subst e;rw [vAP,vAP,vBp,vBm _ _ (kF _),vBk];rfl
theorem sK{α:Type}(f:α→List T){l x:List α}{ph y:α}{r:List T}(h:app l [y]=some x)(e:r=f y):(List.map f (l++[ph])).set ((List.map f l).length+0) r=List.map f x:=by obtain⟨_,rfl⟩:=qC h;exact J2 f l e
theorem L5{α:Type}(f:α→List T){l x:List α}(ph:α){y:α}(h:app l [y]=some x):(List.map f (l++[ph])).length=(List.map f x).length:=by obtain⟨_,rfl⟩:=qC h;simp
theorem aHm{α:Type}(f:α→List T){l r:List α}{i:Int}{y:α}{q:List T}(h:dM l i y=some r)(e:q=f y):(List.map f l).set (0+i.toNat) q=List.map f r:=by subst e;exact(str f h).symm
theorem aB0{α:Type}(f:α→List T){l:List α}{i:Int}{x:α}{q:List T}(h:ix l i=some x)(e:q=f x):(List.map f l).set (0+i.toNat) q=List.map f l:=by subst e;have h1:=eD f h;obtain⟨h2,h3⟩:=cC.1 h1;rw [←h3,List.set_getElem_self]
theorem kG{α:Type}{l r:List α}{i:Int}{x:α}(f:α→List T)(h:dM l i x=some r):(l.map f).length=(r.map f).length:=by obtain⟨_,_,rfl⟩:=m0 h;simp
theorem nof{R:Type}{r:R}{p:Prop}(h:(none:Option R)=some r):p:=by cases h
def bT{α:Type}(a b:List α):Option Unit:=if b.length=a.length then some () else none
theorem sH{α:Type}{a b:List α}{u:Unit}(f:α→List T)(h:bT a b=some u):(a.map f).length=(b.map f).length:=by
 unfold bT at h;split at h
 ·simp;omega
 cases h
theorem aGT{α:Type}(f:α→List T)(l:List α){i:Int}(h0:0≤i)(h1:i<(l.length:Int)):
  0≤i∧i≤((l.map f).length:Int)∧((l.map f).length:Int)≤((l.map f).length:Int)∧(i=0∨i<((l.map f).length:Int))∧i.toNat=0+i.toNat∧l.length-i.toNat=((l.map f).length:Int).toNat-i.toNat:=by rw [I2];omega
section
set_option linter.unusedVariables false
end
theorem aBZ{α:Type}{l r:List α}{i:Int}{x:α}(h:dM l i x=some r)(y:α):dM l i y=some (l.set i.toNat y):=by obtain⟨h1,h2,_⟩:=m0 h;unfold dM;rw [if_pos ⟨h1,h2⟩]
theorem aHP{α:Type}{l r:List α}{i:Int}{x:α}(h:dM l i x=some r)(y:α):ix (l.set i.toNat y) i=some y:=by obtain⟨h1,h2,_⟩:=m0 h;unfold ix;rw [if_pos h1,vAu (by omega)]
theorem aBY{α:Type}{l r:List α}{i:Int}{x:α}(h:dM l i x=some r)(y:α):dM (l.set i.toNat y) i x=some r:=by obtain⟨h1,h2,rfl⟩:=m0 h;unfold dM;rw [if_pos ⟨h1,by rw [List.length_set];exact h2⟩,List.set_set]
theorem aM5{α:Type}{a l:List α}{u:Unit}{i:Int}{x:α}(f:α→List T)(hs:bT a l=some u)(h:ix l i=some x):0≤i∧i<((a.map f).length:Int):=by have:=mB f h;rw [sH f hs];exact this
theorem aNK{α:Type}{a l:List α}{u:Unit}(f:α→List T)(hs:bT a l=some u):(a.map f).length=l.length:=(sH f hs).trans (aM0 f l)
theorem aLI{α:Type}{l r:List α}{i:Int}{x:α}(h:dM l i x=some r):ix r i=some x:=by obtain⟨h1,h2,rfl⟩:=m0 h;unfold ix;rw [if_pos h1,vAu (by omega)]
end Go.Lift
