/- Short forms of the rules: the check by the kernel stands last. -/
import Derived.Test.YtlbojjldejlgaaaGreatTLiftZ
set_option linter.unusedVariables false
namespace Go.Lift
open Go
variable {K:Ctx} {C:Cfg} {P:Program} {G:Glob} {Ty:List (Nat×TyI)}
inductive An where
 |o (h:Hn) (p:Prop) (k:p)
 |z (h:Hn)
 |q (p:Prop) (k:p)
def uT:List An→List Hn
 | []=>[]
 | .o h _ _::l=>h::uT l
 | .z h::l=>h::uT l
 | .q _ _::l=>uT l
def AnP:List An→Prop
 | []=>True
 | .o _ p _::l=>p∧AnP l
 | .z _::l=>AnP l
 | .q p _::l=>p∧AnP l
theorem AnK: ∀l,AnP l
 | []=>trivial
 | .o _ _ k::l=>⟨k,AnK l⟩
 | .z _::l=>AnK l
 | .q _ k::l=>⟨k,AnK l⟩
def oT{c:Bool}(k:c=true):An:= .o (.b true) _ k
def oF{c:Bool}(k:c=false):An:= .o (.b false) _ k
def eT:An:=oT (Eq.refl true)
def eF:An:=oF (Eq.refl false)
def oN{α:Type}(r:α→List T)(l:List α):An:= .o (.nat l.length) _ (aM0 r l)
def oV{P:Program}{G:Glob}{f:FuncId}{a:List V}{r:V}(k:PCC P G f a r):An:= .o (.v r) _ k
def oC(L N:List Nat){P:Program}{G:Glob}{f:FuncId}{i:List E}{a:List V}{r:V}{u:List E}(k:VCC P G f i a r u):An:= .o (.vc L N r u) _ k
def oR{α:Type}{l:List α}{i:Int}{x:α}(f:α→List T)(h:ix l i=some x):An:= .o (.row (f x)) _ (aHO f h)
def oX{α:Type}{l:List α}{i:Int}{x:α}(f:α→List T)(h:ix l i=some x):An:= .o (.row (f x)) _ (eD f h)
def oS{o:Option (List UInt8)}{x:List UInt8}(h:o=some x):An:= .o (.str x) _ h
def oA{o:Option (List (List T))}{x:List (List T)}(h:o=some x):An:= .o (.rows x) _ h
def oQ{p:Prop}(k:p):An:= .q p k
def rT(n:Nat){c:Bool}(k:c=true):List An:=List.replicate n (oT k)
def rF(n:Nat){c:Bool}(k:c=false):List An:=List.replicate n (oF k)
def sT(n:Nat):List An:=List.replicate n eT
def sF(n:Nat):List An:=List.replicate n eF
theorem rk{id:Nat}{l:List Oper}{s:S}{Q:Exit→S→Prop}(hC:C.Fits K)(A:List An)(ks:List Nat)(ts:List (Nat×V))(hl:List (Nat×Option E))(ul:List (Nat×Bool))(hn:Q .normal (s.cl ks ts hl ul))
  (h:cB (yR C l.toArray l (uT A) s) R9 (R7 s ks ts hl)=cB (yR C l.toArray l (uT A) s) R8 (R6 (AnP A) ts hl ul):=by kernel_rfl):eE K (.region id l.toArray false) s Q:=rg hC (uT A) ks ts hl ul (AnK A) h hn
theorem rq{id:Nat}{l:List Oper}{y:Code}{s:S}{Q:Exit→S→Prop}(hC:C.Fits K)(A:List An)(ks:List Nat)(ts:List (Nat×V))(hl:List (Nat×Option E))(ul:List (Nat×Bool))(hn:eE K y (s.cl ks ts hl ul) Q)
  (h:cB (yR C l.toArray l (uT A) s) R9 (R7 s ks ts hl)=cB (yR C l.toArray l (uT A) s) R8 (R6 (AnP A) ts hl ul):=by kernel_rfl):eE K (.seq (.region id l.toArray false) y) s Q:=aAF (rg hC (uT A) ks ts hl ul (AnK A) h hn)
theorem dk{id:Nat}{l:List Oper}{s:S}{Q:Exit→S→Prop}(hC:C.Fits K)(hm:K.P.follows .mixedOrders=true)(A:List An)(ks:List Nat)(ts:List (Nat×V))(hl:List (Nat×Option E))(ul:List (Nat×Bool))(hn:Q .normal (s.cl ks ts hl ul))
  (h:cB (evR C l (uT A) s) R9 (R7 s ks ts hl)=cB (evR C l (uT A) s) R8 (R6 (AnP A) ts hl ul):=by kernel_rfl):eE K (.region id l.toArray true) s Q:=rd hC hm (uT A) ks ts hl ul (AnK A) h hn
theorem vj{σ R:Type}{J:σ→Option R}{t:(σ→Option R)→Option R}{r:R}{x y:Code}{s:S}{Q:Exit→S→Prop}(h:jn J t=some r)(I:σ→S)
  (h1: ∀j:σ→Option R,t j=some r→eE K x s (aC9 (fun s1=> ∃z,j z=some r∧s1.le K (I z)) Q)) (h2: ∀z,J z=some r→eE K y (I z) Q):eE K (.seq x y) s Q:=
 aDt (γ:=Unit) (j:=J) (r:=r) (fun z _=>I z) (r7 (h1 J h) (fun e s' q=>by
  cases e with
  |normal=>obtain⟨z,h1,h2⟩:=q;exact⟨z,(),h1,h2⟩
  |exit=>exact q
  |goto=>exact q
  |ret=>exact q
  |panic=>exact q
  |outgrown=>exact q)) fun z _ h=>h2 z h
theorem iB{σ R:Type}{body:(σ→Option R)→σ→Option R}{n:Nat}{x0:σ}{r:R}{c:Code}{s:S}{Q:Exit→S→Prop}(h:aL body n x0=some r)(I:σ→S)(h0:s.le K (I x0))
  (round: ∀(again:σ→Option R) (x:σ),body again x=some r→eE K c (I x) (aFJ (fun s'=> ∃y,again y=some r∧s'.le K (I y)) Q)):eE K (.loop c) s Q:=
 aGP (γ:=Unit) h (fun z _=>I z) () h0 (fun again x _ hb=>r7 (round again x hb) (fun e s' q=>by
  cases e with
  |normal=>obtain⟨z,h1,h2⟩:=q;exact⟨z,(),h1,h2⟩
  |exit=>exact q
  |goto=>exact q
  |ret=>exact q
  |panic=>exact q
  |outgrown=>exact q))
theorem lE{σ R:Type}{z:σ}{j:σ→Option R}{r:R}{s:S}{T':σ→List (Nat×V)}{H':σ→List (Nat×E)}{U:σ→List Nat}(h:j z=some r)(k:aJ7 K.n0 s (T' z) (H' z) (U z)=(vT (T' z),vT (uZ (H' z)),true):=by kernel_rfl): ∃z,j z=some r∧s.le K (dG (T' z) (H' z) (U z)):=⟨z,h,leS k⟩
theorem dL{α β γ:Type}{o:Option α}{g:α→Option β}{f:α→β→Option γ}{r:γ}(h:(o.bind fun x=>(g x).bind (f x))=some r): ∃x,o=some x∧ ∃y,g x=some y∧f x y=some r:=by obtain⟨x,h1,h⟩:=bd h;obtain⟨y,h2,h⟩:=bd h;exact⟨x,h1,y,h2,h⟩
theorem rR{α β γ δ:Type}{o:Option α}{g:α→Option β}{f:α→β→Option γ}{e:α→β→γ→Option δ}{r:δ}(h:(o.bind fun x=>(g x).bind fun y=>(f x y).bind (e x y))=some r): ∃x,o=some x∧ ∃y,g x=some y∧ ∃z,f x y=some z∧e x y z=some r:=by obtain⟨x,h1,h⟩:=bd h;obtain⟨y,h2,z,h3,h⟩:=dL h;exact⟨x,h1,y,h2,z,h3,h⟩
theorem pq{f:FuncId}{fn:Func}{c:Code}{args:List V}{r:V}{nt:Nat}{rs:List ResultVar}(hT:TyOK P Ty)(hf:P.funcs[f]? =some fn)(h0:(fn.name== "runtime.NumGoroutine",fn.body,fn.results.toList,fn.ntmps,Nat.ble args.length nt,r.ok gI,Nat.ble rs.length 4)=(false,some c,rs,nt,true,true,true))
  (h: ∀w X,Cfg.Fits ⟨P,G,Ty,nt,0,d8⟩ (Ctx.pure P G w X nt)→eE (Ctx.pure P G w X nt) c (start args) (aNo Ty rs r)):PCC P G f args r:=by simp only [Prod.mk.injEq] at h0;exact pmr hT hf h0.1 h0.2.1 h0.2.2.1 h0.2.2.2.1 h0.2.2.2.2.1 h0.2.2.2.2.2.1 h0.2.2.2.2.2.2 h
theorem vq{f:FuncId}{fn:Func}{c:Code}{inn out:List E}{args:List V}{r:V}{nt n0:Nat}{rs:List ResultVar}(hT:TyOK P Ty)(hf:P.funcs[f]? =some fn)(h0:(fn.name== "runtime.NumGoroutine",fn.body,fn.results.toList,fn.ntmps,inn.length,Nat.ble args.length nt,Nat.ble n0 out.length,Nat.ble rs.length 4)=(false,some c,rs,nt,n0,true,true,true))
  (h: ∀w X β0,Cfg.Fits ⟨P,G,Ty,nt,n0,β0⟩ (Ctx.vc P G w X n0 β0 nt)→z7 β0 inn 0→eE (Ctx.vc P G w X n0 β0 nt) c (startV inn args) (aNn Ty rs r out)):VCC P G f inn args r out:=by simp only [Prod.mk.injEq] at h0;exact vmr hT hf h0.1 h0.2.1 h0.2.2.1 h0.2.2.2.1 h0.2.2.2.2.1 h0.2.2.2.2.2.1 h0.2.2.2.2.2.2.1 h0.2.2.2.2.2.2.2 h
theorem lk{s:S}(hC:C.Fits K)(hs:List Hn)(ks:List Nat)(ts:List (Nat×V))(hl:List (Nat×Option E))(ul:List (Nat×Bool))
  (h:cB (evP C hs s) R9 (R7 s ks ts hl)=cB (evP C hs s) R8 (R6 True ts hl ul):=by kernel_rfl):s.le K (s.cl ks ts hl ul):=lp hC hs ks ts hl ul h
theorem lS{s:S}{ts:List (Nat×V)}{hl:List (Nat×E)}{us:List Nat}(h:aJ7 K.n0 s ts hl us=(vT ts,vT (uZ hl),true):=by kernel_rfl):s.le K (dG ts hl us):=leS h
theorem vc{c:Operand}{x y:Code}{s:S}{Q:Exit→S→Prop}{b:Bool}(ht:b=true→eE K x s Q)(hf:b=false→eE K y s Q)(hc:s.get c= .t (.bool b):=by kernel_rfl):eE K (.cond c x y) s Q:=H9 hc ht hf
theorem aY{R:Type}{A B:Option R}{r:R}{c:Operand}{x y:Code}{s:S}{Q:Exit→S→Prop}{b:Bool}(h:(bif b then A else B)=some r)(ht:b=true→A=some r→eE K x s Q)(hf:b=false→B=some r→eE K y s Q)(hc:s.get c= .t (.bool b):=by kernel_rfl):eE K (.cond c x y) s Q:=
 H9 hc (fun e=>ht e (bt e h)) fun e=>hf e (bf e h)
theorem bE{R:Type}{A B:Option R}{r:R}{b:Bool}{P:Prop}(h:(bif b then A else B)=some r)(h0:b=false→B=some r→P)(h1:b=true→A=some r→P):P:=tY b (fun e=>h0 e (bf e h)) fun e=>h1 e (bt e h)
theorem eW{s:S}{rs:List ResultVar}{r:V}{out:List E}(h:(aH4 r (qP Ty s rs),zP s out 0,r.ok (cA out.length)&&Y5 (cA out.length) out)=(some r,uJ out,true):=by kernel_rfl):
  ∃vs,qP Ty s rs=some vs∧VLe (vC vs) r∧r.ok (cA out.length)=true∧HeapLe s.H (cA out.length) (listH out 0):=aNT h
theorem eR{s:S}{rs:List ResultVar}{r:V}(h:aH4 r (qP Ty s rs)=some r:=by kernel_rfl): ∃vs,qP Ty s rs=some vs∧VLe (vC vs) r:=aNg h
theorem a0:True:=trivial
theorem a1{p1:Prop}(h1:p1):p1∧True:=⟨h1,trivial⟩
theorem a2{p1 p2:Prop}(h1:p1)(h2:p2):p1∧p2∧True:=⟨h1,h2,trivial⟩
theorem a3{p1 p2 p3:Prop}(h1:p1)(h2:p2)(h3:p3):p1∧p2∧p3∧True:=⟨h1,h2,h3,trivial⟩
theorem a4{p1 p2 p3 p4:Prop}(h1:p1)(h2:p2)(h3:p3)(h4:p4):p1∧p2∧p3∧p4∧True:=⟨h1,h2,h3,h4,trivial⟩
theorem a5{p1 p2 p3 p4 p5:Prop}(h1:p1)(h2:p2)(h3:p3)(h4:p4)(h5:p5):p1∧p2∧p3∧p4∧p5∧True:=⟨h1,h2,h3,h4,h5,trivial⟩
theorem a6{p1 p2 p3 p4 p5 p6:Prop}(h1:p1)(h2:p2)(h3:p3)(h4:p4)(h5:p5)(h6:p6):p1∧p2∧p3∧p4∧p5∧p6∧True:=⟨h1,h2,h3,h4,h5,h6,trivial⟩
theorem a7{p1 p2 p3 p4 p5 p6 p7:Prop}(h1:p1)(h2:p2)(h3:p3)(h4:p4)(h5:p5)(h6:p6)(h7:p7):p1∧p2∧p3∧p4∧p5∧p6∧p7∧True:=⟨h1,h2,h3,h4,h5,h6,h7,trivial⟩
theorem a8{p1 p2 p3 p4 p5 p6 p7 p8:Prop}(h1:p1)(h2:p2)(h3:p3)(h4:p4)(h5:p5)(h6:p6)(h7:p7)(h8:p8):p1∧p2∧p3∧p4∧p5∧p6∧p7∧p8∧True:=⟨h1,h2,h3,h4,h5,h6,h7,h8,trivial⟩
theorem a9{p1 p2 p3 p4 p5 p6 p7 p8 p9:Prop}(h1:p1)(h2:p2)(h3:p3)(h4:p4)(h5:p5)(h6:p6)(h7:p7)(h8:p8)(h9:p9):p1∧p2∧p3∧p4∧p5∧p6∧p7∧p8∧p9∧True:=⟨h1,h2,h3,h4,h5,h6,h7,h8,h9,trivial⟩
theorem a12{p1 p2 p3 p4 p5 p6 p7 p8 p9 p10 p11 p12:Prop}(h1:p1)(h2:p2)(h3:p3)(h4:p4)(h5:p5)(h6:p6)(h7:p7)(h8:p8)(h9:p9)(h10:p10)(h11:p11)(h12:p12):p1∧p2∧p3∧p4∧p5∧p6∧p7∧p8∧p9∧p10∧p11∧p12∧True:=⟨h1,h2,h3,h4,h5,h6,h7,h8,h9,h10,h11,h12,trivial⟩
def fr:Nat→Nat→List Nat
 |_,0=>[]
 |a,n+1=>a::fr (a+1) n
abbrev sc(l:List V):Option E:=some (E.cells l)
theorem qs{x y:Code}{s:S}{Q:Exit→S→Prop}(h:eE K x s (aC9 (fun s1=>eE K y s1 Q) Q)):eE K (.seq x y) s Q:=aAF h
theorem qb{id:Nat}{c:Code}{s:S}{Q:Exit→S→Prop}(h:eE K c s (aDf id Q)):eE K (.block id c) s Q:=aFO h
theorem qk{s:S}{Q:Exit→S→Prop}(h:Q .normal s):eE K .skip s Q:=aGN h
theorem qr{s:S}{Q:Exit→S→Prop}(h:Q .ret s):eE K .ret s Q:=aJe h
theorem cM{id:Nat}{s:S}{Q:Exit→S→Prop}(h:Q (.exit id) s):eE K (.exit id) s Q:=aGQ h
theorem qw{c:Code}{s s':S}{Q:Exit→S→Prop}(hs:s.le K s')(h:eE K c s' Q):eE K c s Q:=vR hs h
theorem bS{id:Nat}{l:List Oper}{s:S}{Q:Exit→S→Prop}(hC:C.Fits K)(A:List An)(ks:List Nat)(ts:List (Nat×V))(hn:Q .normal (s.cl ks ts [] []))(h:cB (yR C l.toArray l (uT A) s) R9 (R7 s ks ts [])=cB (yR C l.toArray l (uT A) s) R8 (R6 (AnP A) ts [] []):=by kernel_rfl):eE K (.region id l.toArray false) s Q:=rk hC A ks ts [] [] hn h
theorem rkt{id:Nat}{l:List Oper}{s:S}{Q:Exit→S→Prop}(hC:C.Fits K)(A:List An)(ks:List Nat)(hl:List (Nat×Option E))(ul:List (Nat×Bool))(hn:Q .normal (s.cl ks [] hl ul))(h:cB (yR C l.toArray l (uT A) s) R9 (R7 s ks [] hl)=cB (yR C l.toArray l (uT A) s) R8 (R6 (AnP A) [] hl ul):=by kernel_rfl):eE K (.region id l.toArray false) s Q:=rk hC A ks [] hl ul hn h
theorem aZ{id:Nat}{l:List Oper}{s:S}{Q:Exit→S→Prop}(hC:C.Fits K)(ks:List Nat)(ts:List (Nat×V))(hn:Q .normal (s.cl ks ts [] []))(h:cB (yR C l.toArray l (uT []) s) R9 (R7 s ks ts [])=cB (yR C l.toArray l (uT []) s) R8 (R6 (AnP []) ts [] []):=by kernel_rfl):eE K (.region id l.toArray false) s Q:=rk hC [] ks ts [] [] hn h
theorem aT{id:Nat}{l:List Oper}{y:Code}{s:S}{Q:Exit→S→Prop}(hC:C.Fits K)(A:List An)(ks:List Nat)(ts:List (Nat×V))(hn:eE K y (s.cl ks ts [] []) Q)(h:cB (yR C l.toArray l (uT A) s) R9 (R7 s ks ts [])=cB (yR C l.toArray l (uT A) s) R8 (R6 (AnP A) ts [] []):=by kernel_rfl):eE K (.seq (.region id l.toArray false) y) s Q:=rq hC A ks ts [] [] hn h
theorem iL{id:Nat}{l:List Oper}{y:Code}{s:S}{Q:Exit→S→Prop}(hC:C.Fits K)(A:List An)(ks:List Nat)(hl:List (Nat×Option E))(ul:List (Nat×Bool))(hn:eE K y (s.cl ks [] hl ul) Q)(h:cB (yR C l.toArray l (uT A) s) R9 (R7 s ks [] hl)=cB (yR C l.toArray l (uT A) s) R8 (R6 (AnP A) [] hl ul):=by kernel_rfl):eE K (.seq (.region id l.toArray false) y) s Q:=rq hC A ks [] hl ul hn h
theorem rqa{id:Nat}{l:List Oper}{y:Code}{s:S}{Q:Exit→S→Prop}(hC:C.Fits K)(ks:List Nat)(ts:List (Nat×V))(hl:List (Nat×Option E))(ul:List (Nat×Bool))(hn:eE K y (s.cl ks ts hl ul) Q)(h:cB (yR C l.toArray l (uT []) s) R9 (R7 s ks ts hl)=cB (yR C l.toArray l (uT []) s) R8 (R6 (AnP []) ts hl ul):=by kernel_rfl):eE K (.seq (.region id l.toArray false) y) s Q:=rq hC [] ks ts hl ul hn h
theorem aG{id:Nat}{l:List Oper}{y:Code}{s:S}{Q:Exit→S→Prop}(hC:C.Fits K)(ks:List Nat)(ts:List (Nat×V))(hn:eE K y (s.cl ks ts [] []) Q)(h:cB (yR C l.toArray l (uT []) s) R9 (R7 s ks ts [])=cB (yR C l.toArray l (uT []) s) R8 (R6 (AnP []) ts [] []):=by kernel_rfl):eE K (.seq (.region id l.toArray false) y) s Q:=rq hC [] ks ts [] [] hn h
theorem iE{id:Nat}{l:List Oper}{y:Code}{s:S}{Q:Exit→S→Prop}(hC:C.Fits K)(ks:List Nat)(hl:List (Nat×Option E))(ul:List (Nat×Bool))(hn:eE K y (s.cl ks [] hl ul) Q)(h:cB (yR C l.toArray l (uT []) s) R9 (R7 s ks [] hl)=cB (yR C l.toArray l (uT []) s) R8 (R6 (AnP []) [] hl ul):=by kernel_rfl):eE K (.seq (.region id l.toArray false) y) s Q:=rq hC [] ks [] hl ul hn h
theorem bC{id:Nat}{l:List Oper}{y:Code}{s:S}{Q:Exit→S→Prop}(hC:C.Fits K)(ks:List Nat)(hn:eE K y (s.cl ks [] [] []) Q)(h:cB (yR C l.toArray l (uT []) s) R9 (R7 s ks [] [])=cB (yR C l.toArray l (uT []) s) R8 (R6 (AnP []) [] [] []):=by kernel_rfl):eE K (.seq (.region id l.toArray false) y) s Q:=rq hC [] ks [] [] [] hn h
theorem pS{id:Nat}{l:List Oper}{s:S}{Q:Exit→S→Prop}(hC:C.Fits K)(hm:K.P.follows .mixedOrders=true)(A:List An)(ks:List Nat)(ts:List (Nat×V))(hn:Q .normal (s.cl ks ts [] []))(h:cB (evR C l (uT A) s) R9 (R7 s ks ts [])=cB (evR C l (uT A) s) R8 (R6 (AnP A) ts [] []):=by kernel_rfl):eE K (.region id l.toArray true) s Q:=dk hC hm A ks ts [] [] hn h
theorem pR{id:Nat}{l:List Oper}{s:S}{Q:Exit→S→Prop}(hC:C.Fits K)(hm:K.P.follows .mixedOrders=true)(A:List An)(ks:List Nat)(hl:List (Nat×Option E))(ul:List (Nat×Bool))(hn:Q .normal (s.cl ks [] hl ul))(h:cB (evR C l (uT A) s) R9 (R7 s ks [] hl)=cB (evR C l (uT A) s) R8 (R6 (AnP A) [] hl ul):=by kernel_rfl):eE K (.region id l.toArray true) s Q:=dk hC hm A ks [] hl ul hn h
abbrev dZ(ts:List (Nat×V)):S:=dG ts [] []
abbrev aU:V:=V.t T.nilS
abbrev vD(p:Prop)[Decidable p]:V:=vB (decide p)
abbrev vK{α:Type}(x:Int)(l:List α):V:=vB (decide (x<(l.length:Int)))
def oM{α:Type}{r:α→List T}(n:Nat)(k: ∀a,(r a).length=n)(l:List α):An:=oQ (rwM (r:=r) n k l)
def oI(l:List Int):An:=oM (r:=rI) 1 (fun _=>rfl) l
theorem xR{s:S}{Q:Exit→S→Prop}(hC:C.Fits K)(a b:Nat)(X:V)(Y:E)(k:Q .ret (s.cl [a] [(a,X)] [(0,some Y),(b,none)] [(0,true)]):=by exact eW)(h:cB (evP C [.ren a b 0] s) R9 (R7 s [a] [(a,X)] [(0,some Y),(b,none)])=cB (evP C [.ren a b 0] s) R8 (R6 True [(a,X)] [(0,some Y),(b,none)] [(0,true)]):=by kernel_rfl):eE K .ret s Q:=qw (lk hC [.ren a b 0] [a] [(a,X)] [(0,some Y),(b,none)] [(0,true)] h) (qr k)
theorem zr{s:S}{Q:Exit→S→Prop}(h:Q .ret s:=by exact eR):eE K .ret s Q:=qr h
theorem zw{s:S}{Q:Exit→S→Prop}(h:Q .ret s:=by exact eW):eE K .ret s Q:=qr h
theorem cU{id:Nat}{c y:Code}{s:S}{Q:Exit→S→Prop}(h:eE K c s (aDf id (aC9 (fun s1=>eE K y s1 Q) Q))):eE K (.seq (.block id c) y) s Q:=qs (qb h)
theorem oU{R:Type}{A B:Option R}{r:R}{c:Operand}{x y z:Code}{s:S}{Q:Exit→S→Prop}{b:Bool}(h:(bif b then A else B)=some r)(ht:b=true→A=some r→eE K x s (aC9 (fun s1=>eE K z s1 Q) Q))(hf:b=false→B=some r→eE K y s (aC9 (fun s1=>eE K z s1 Q) Q))(hc:s.get c= .t (.bool b):=by kernel_rfl):eE K (.seq (.cond c x y) z) s Q:=qs (aY h ht hf hc)
theorem l5{α R:Type}{body:(α→Option R)→α→Option R}{n:Nat}{x0:α}{r:R}{c:Code}{s:S}{Q:Exit→S→Prop}(h:aL body n x0=some r)(I:α→Nat→S)(g0:Nat)(h0:s.le K (I x0 g0))(round: ∀(again:α→Option R) (x:α) (g:Nat),body again x=some r→eE K c (I x g) (aFJ (fun s'=> ∃y g',again y=some r∧s'.le K (I y g')) Q)):eE K (.loop c) s Q:=aGP (γ:=Nat) h I g0 h0 round
end Go.Lift
