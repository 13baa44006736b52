/- Short forms of the rules: the check by the kernel stands last. -/
import Derived.Test.YtlbojjldejlgaaaGreatHLiftZ
set_option linter.unusedVariables false
namespace Go.Lift
open Go
variable {K:Ctx} {C:Cfg} {P:Program} {G:Glob} {Ty:List (Nat×TyI)}
inductive An where
 |o (h:Hn) (p:Prop) (k:p)
 |z (h:Hn)
 |q (p:Prop) (k:p)
def tQ:List An→List Hn
 | []=>[]
 | .o h _ _::l=>h::tQ l
 | .z h::l=>h::tQ l
 | .q _ _::l=>tQ l
def AnP:List An→Prop
 | []=>True
 | .o _ p _::l=>p∧AnP l
 | .z _::l=>AnP l
 | .q p _::l=>p∧AnP l
theorem AnK: ∀l,AnP l
 | []=>trivial
 | .o _ _ k::l=>⟨k,AnK l⟩
 | .z _::l=>AnK l
 | .q _ k::l=>⟨k,AnK l⟩
def oT{c:Bool}(k:c=true):An:= .o (.b true) _ k
def oF{c:Bool}(k:c=false):An:= .o (.b false) _ k
def eT:An:=oT (Eq.refl true)
def eF:An:=oF (Eq.refl false)
def oN{α:Type}(r:α→List T)(l:List α):An:= .o (.nat l.length) _ (aL6 r l)
def oV{P:Program}{G:Glob}{f:FuncId}{a:List V}{r:V}(k:PCC P G f a r):An:= .o (.v r) _ k
def oC(L N:List Nat){P:Program}{G:Glob}{f:FuncId}{i:List E}{a:List V}{r:V}{u:List E}(k:VCC P G f i a r u):An:= .o (.vc L N r u) _ k
def oR{α:Type}{l:List α}{i:Int}{x:α}(f:α→List T)(h:ix l i=some x):An:= .o (.row (f x)) _ (aG8 f h)
def oX{α:Type}{l:List α}{i:Int}{x:α}(f:α→List T)(h:ix l i=some x):An:= .o (.row (f x)) _ (eX f h)
def oS{o:Option (List UInt8)}{x:List UInt8}(h:o=some x):An:= .o (.str x) _ h
def oA{o:Option (List (List T))}{x:List (List T)}(h:o=some x):An:= .o (.rows x) _ h
def oQ{p:Prop}(k:p):An:= .q p k
def rT(n:Nat){c:Bool}(k:c=true):List An:=List.replicate n (oT k)
def rF(n:Nat){c:Bool}(k:c=false):List An:=List.replicate n (oF k)
def sT(n:Nat):List An:=List.replicate n eT
def sF(n:Nat):List An:=List.replicate n eF
theorem rk{id:Nat}{l:List Oper}{s:S}{Q:Exit→S→Prop}(hC:C.Fits K)(A:List An)(ks:List Nat)(ts:List (Nat×V))(hl:List (Nat×Option E))(ul:List (Nat×Bool))(hn:Q .normal (s.cl ks ts hl ul))
  (h:b6 (xO C l.toArray l (tQ A) s) O2 (O0 s ks ts hl)=b6 (xO C l.toArray l (tQ A) s) O1 (N9 (AnP A) ts hl ul):=by kernel_rfl):eA K (.region id l.toArray false) s Q:=rg hC (tQ A) ks ts hl ul (AnK A) h hn
theorem rq{id:Nat}{l:List Oper}{y:Code}{s:S}{Q:Exit→S→Prop}(hC:C.Fits K)(A:List An)(ks:List Nat)(ts:List (Nat×V))(hl:List (Nat×Option E))(ul:List (Nat×Bool))(hn:eA K y (s.cl ks ts hl ul) Q)
  (h:b6 (xO C l.toArray l (tQ A) s) O2 (O0 s ks ts hl)=b6 (xO C l.toArray l (tQ A) s) O1 (N9 (AnP A) ts hl ul):=by kernel_rfl):eA K (.seq (.region id l.toArray false) y) s Q:=Y4 (rg hC (tQ A) ks ts hl ul (AnK A) h hn)
theorem dk{id:Nat}{l:List Oper}{s:S}{Q:Exit→S→Prop}(hC:C.Fits K)(hm:K.P.follows .mixedOrders=true)(A:List An)(ks:List Nat)(ts:List (Nat×V))(hl:List (Nat×Option E))(ul:List (Nat×Bool))(hn:Q .normal (s.cl ks ts hl ul))
  (h:b6 (evR C l (tQ A) s) O2 (O0 s ks ts hl)=b6 (evR C l (tQ A) s) O1 (N9 (AnP A) ts hl ul):=by kernel_rfl):eA K (.region id l.toArray true) s Q:=rd hC hm (tQ A) ks ts hl ul (AnK A) h hn
theorem vj{σ R:Type}{J:σ→Option R}{t:(σ→Option R)→Option R}{r:R}{x y:Code}{s:S}{Q:Exit→S→Prop}(h:jn J t=some r)(I:σ→S)
  (h1: ∀j:σ→Option R,t j=some r→eA K x s (aCk (fun s1=> ∃z,j z=some r∧s1.le K (I z)) Q)) (h2: ∀z,J z=some r→eA K y (I z) Q):eA K (.seq x y) s Q:=
 aCG (γ:=Unit) (j:=J) (r:=r) (fun z _=>I z) (rD (h1 J h) (fun e s' q=>by
  cases e with
  |normal=>obtain⟨z,h1,h2⟩:=q;exact⟨z,(),h1,h2⟩
  |exit=>exact q
  |goto=>exact q
  |ret=>exact q
  |panic=>exact q
  |outgrown=>exact q)) fun z _ h=>h2 z h
theorem gY{σ R:Type}{body:(σ→Option R)→σ→Option R}{n:Nat}{x0:σ}{r:R}{c:Code}{s:S}{Q:Exit→S→Prop}(h:aM body n x0=some r)(I:σ→S)(h0:s.le K (I x0))
  (round: ∀(again:σ→Option R) (x:σ),body again x=some r→eA K c (I x) (aE0 (fun s'=> ∃y,again y=some r∧s'.le K (I y)) Q)):eA K (.loop c) s Q:=
 aGb (γ:=Unit) h (fun z _=>I z) () h0 (fun again x _ hb=>rD (round again x hb) (fun e s' q=>by
  cases e with
  |normal=>obtain⟨z,h1,h2⟩:=q;exact⟨z,(),h1,h2⟩
  |exit=>exact q
  |goto=>exact q
  |ret=>exact q
  |panic=>exact q
  |outgrown=>exact q))
theorem lE{σ R:Type}{z:σ}{j:σ→Option R}{r:R}{s:S}{T':σ→List (Nat×V)}{H':σ→List (Nat×E)}{U:σ→List Nat}(h:j z=some r)(k:aJm K.n0 s (T' z) (H' z) (U z)=(uG (T' z),uG (tU (H' z)),true):=by kernel_rfl): ∃z,j z=some r∧s.le K (cY (T' z) (H' z) (U z)):=⟨z,h,leS k⟩
theorem dK{α β γ:Type}{o:Option α}{g:α→Option β}{f:α→β→Option γ}{r:γ}(h:(o.bind fun x=>(g x).bind (f x))=some r): ∃x,o=some x∧ ∃y,g x=some y∧f x y=some r:=by obtain⟨x,h1,h⟩:=bd h;obtain⟨y,h2,h⟩:=bd h;exact⟨x,h1,y,h2,h⟩
theorem rA{α β γ δ:Type}{o:Option α}{g:α→Option β}{f:α→β→Option γ}{e:α→β→γ→Option δ}{r:δ}(h:(o.bind fun x=>(g x).bind fun y=>(f x y).bind (e x y))=some r): ∃x,o=some x∧ ∃y,g x=some y∧ ∃z,f x y=some z∧e x y z=some r:=by obtain⟨x,h1,h⟩:=bd h;obtain⟨y,h2,z,h3,h⟩:=dK h;exact⟨x,h1,y,h2,z,h3,h⟩
theorem pq{f:FuncId}{fn:Func}{c:Code}{args:List V}{r:V}{nt:Nat}{rs:List ResultVar}(hT:TyOK P Ty)(hf:P.funcs[f]? =some fn)(h0:(fn.name== "runtime.NumGoroutine",fn.body,fn.results.toList,fn.ntmps,Nat.ble args.length nt,r.ok gC,Nat.ble rs.length 4)=(false,some c,rs,nt,true,true,true))
  (h: ∀w X,Cfg.Fits ⟨P,G,Ty,nt,0,dZ⟩ (Ctx.pure P G w X nt)→eA (Ctx.pure P G w X nt) c (start args) (aMs Ty rs r)):PCC P G f args r:=by simp only [Prod.mk.injEq] at h0;exact pmr hT hf h0.1 h0.2.1 h0.2.2.1 h0.2.2.2.1 h0.2.2.2.2.1 h0.2.2.2.2.2.1 h0.2.2.2.2.2.2 h
theorem vq{f:FuncId}{fn:Func}{c:Code}{inn out:List E}{args:List V}{r:V}{nt n0:Nat}{rs:List ResultVar}(hT:TyOK P Ty)(hf:P.funcs[f]? =some fn)(h0:(fn.name== "runtime.NumGoroutine",fn.body,fn.results.toList,fn.ntmps,inn.length,Nat.ble args.length nt,Nat.ble n0 out.length,Nat.ble rs.length 4)=(false,some c,rs,nt,n0,true,true,true))
  (h: ∀w X β0,Cfg.Fits ⟨P,G,Ty,nt,n0,β0⟩ (Ctx.vc P G w X n0 β0 nt)→y0 β0 inn 0→eA (Ctx.vc P G w X n0 β0 nt) c (startV inn args) (aMr Ty rs r out)):VCC P G f inn args r out:=by simp only [Prod.mk.injEq] at h0;exact vmr hT hf h0.1 h0.2.1 h0.2.2.1 h0.2.2.2.1 h0.2.2.2.2.1 h0.2.2.2.2.2.1 h0.2.2.2.2.2.2.1 h0.2.2.2.2.2.2.2 h
theorem lk{s:S}(hC:C.Fits K)(hs:List Hn)(ks:List Nat)(ts:List (Nat×V))(hl:List (Nat×Option E))(ul:List (Nat×Bool))
  (h:b6 (evP C hs s) O2 (O0 s ks ts hl)=b6 (evP C hs s) O1 (N9 True ts hl ul):=by kernel_rfl):s.le K (s.cl ks ts hl ul):=lp hC hs ks ts hl ul h
theorem lS{s:S}{ts:List (Nat×V)}{hl:List (Nat×E)}{us:List Nat}(h:aJm K.n0 s ts hl us=(uG ts,uG (tU hl),true):=by kernel_rfl):s.le K (cY ts hl us):=leS h
theorem vc{c:Operand}{x y:Code}{s:S}{Q:Exit→S→Prop}{b:Bool}(ht:b=true→eA K x s Q)(hf:b=false→eA K y s Q)(hc:s.get c= .t (.bool b):=by kernel_rfl):eA K (.cond c x y) s Q:=E0 hc ht hf
theorem bA{R:Type}{A B:Option R}{r:R}{c:Operand}{x y:Code}{s:S}{Q:Exit→S→Prop}{b:Bool}(h:(bif b then A else B)=some r)(ht:b=true→A=some r→eA K x s Q)(hf:b=false→B=some r→eA K y s Q)(hc:s.get c= .t (.bool b):=by kernel_rfl):eA K (.cond c x y) s Q:=
 E0 hc (fun e=>ht e (bt e h)) fun e=>hf e (bf e h)
theorem bF{R:Type}{A B:Option R}{r:R}{b:Bool}{P:Prop}(h:(bif b then A else B)=some r)(h0:b=false→B=some r→P)(h1:b=true→A=some r→P):P:=aI2 b (fun e=>h0 e (bf e h)) fun e=>h1 e (bt e h)
theorem eW{s:S}{rs:List ResultVar}{r:V}{out:List E}(h:(aHl r (pV Ty s rs),yO s out 0,r.ok (cJ out.length)&&T8 (cJ out.length) out)=(some r,tJ out,true):=by kernel_rfl):
  ∃vs,pV Ty s rs=some vs∧VLe (tW vs) r∧r.ok (cJ out.length)=true∧HeapLe s.H (cJ out.length) (listH out 0):=aMV h
theorem eR{s:S}{rs:List ResultVar}{r:V}(h:aHl r (pV Ty s rs)=some r:=by kernel_rfl): ∃vs,pV Ty s rs=some vs∧VLe (tW vs) r:=aMm h
theorem a0:True:=trivial
theorem a1{p1:Prop}(h1:p1):p1∧True:=⟨h1,trivial⟩
theorem a2{p1 p2:Prop}(h1:p1)(h2:p2):p1∧p2∧True:=⟨h1,h2,trivial⟩
theorem a3{p1 p2 p3:Prop}(h1:p1)(h2:p2)(h3:p3):p1∧p2∧p3∧True:=⟨h1,h2,h3,trivial⟩
theorem a4{p1 p2 p3 p4:Prop}(h1:p1)(h2:p2)(h3:p3)(h4:p4):p1∧p2∧p3∧p4∧True:=⟨h1,h2,h3,h4,trivial⟩
theorem a5{p1 p2 p3 p4 p5:Prop}(h1:p1)(h2:p2)(h3:p3)(h4:p4)(h5:p5):p1∧p2∧p3∧p4∧p5∧True:=⟨h1,h2,h3,h4,h5,trivial⟩
theorem a6{p1 p2 p3 p4 p5 p6:Prop}(h1:p1)(h2:p2)(h3:p3)(h4:p4)(h5:p5)(h6:p6):p1∧p2∧p3∧p4∧p5∧p6∧True:=⟨h1,h2,h3,h4,h5,h6,trivial⟩
theorem a7{p1 p2 p3 p4 p5 p6 p7:Prop}(h1:p1)(h2:p2)(h3:p3)(h4:p4)(h5:p5)(h6:p6)(h7:p7):p1∧p2∧p3∧p4∧p5∧p6∧p7∧True:=⟨h1,h2,h3,h4,h5,h6,h7,trivial⟩
theorem a8{p1 p2 p3 p4 p5 p6 p7 p8:Prop}(h1:p1)(h2:p2)(h3:p3)(h4:p4)(h5:p5)(h6:p6)(h7:p7)(h8:p8):p1∧p2∧p3∧p4∧p5∧p6∧p7∧p8∧True:=⟨h1,h2,h3,h4,h5,h6,h7,h8,trivial⟩
theorem a9{p1 p2 p3 p4 p5 p6 p7 p8 p9:Prop}(h1:p1)(h2:p2)(h3:p3)(h4:p4)(h5:p5)(h6:p6)(h7:p7)(h8:p8)(h9:p9):p1∧p2∧p3∧p4∧p5∧p6∧p7∧p8∧p9∧True:=⟨h1,h2,h3,h4,h5,h6,h7,h8,h9,trivial⟩
theorem a12{p1 p2 p3 p4 p5 p6 p7 p8 p9 p10 p11 p12:Prop}(h1:p1)(h2:p2)(h3:p3)(h4:p4)(h5:p5)(h6:p6)(h7:p7)(h8:p8)(h9:p9)(h10:p10)(h11:p11)(h12:p12):p1∧p2∧p3∧p4∧p5∧p6∧p7∧p8∧p9∧p10∧p11∧p12∧True:=⟨h1,h2,h3,h4,h5,h6,h7,h8,h9,h10,h11,h12,trivial⟩
def fr:Nat→Nat→List Nat
 |_,0=>[]
 |a,n+1=>a::fr (a+1) n
abbrev sc(l:List V):Option E:=some (E.cells l)
theorem qs{x y:Code}{s:S}{Q:Exit→S→Prop}(h:eA K x s (aCk (fun s1=>eA K y s1 Q) Q)):eA K (.seq x y) s Q:=Y4 h
theorem qb{id:Nat}{c:Code}{s:S}{Q:Exit→S→Prop}(h:eA K c s (aCq id Q)):eA K (.block id c) s Q:=aE5 h
theorem qk{s:S}{Q:Exit→S→Prop}(h:Q .normal s):eA K .skip s Q:=aF9 h
theorem qr{s:S}{Q:Exit→S→Prop}(h:Q .ret s):eA K .ret s Q:=aIs h
theorem cF{id:Nat}{s:S}{Q:Exit→S→Prop}(h:Q (.exit id) s):eA K (.exit id) s Q:=aGc h
theorem qw{c:Code}{s s':S}{Q:Exit→S→Prop}(hs:s.le K s')(h:eA K c s' Q):eA K c s Q:=uE hs h
theorem bT{id:Nat}{l:List Oper}{s:S}{Q:Exit→S→Prop}(hC:C.Fits K)(A:List An)(ks:List Nat)(ts:List (Nat×V))(hn:Q .normal (s.cl ks ts [] []))(h:b6 (xO C l.toArray l (tQ A) s) O2 (O0 s ks ts [])=b6 (xO C l.toArray l (tQ A) s) O1 (N9 (AnP A) ts [] []):=by kernel_rfl):eA K (.region id l.toArray false) s Q:=rk hC A ks ts [] [] hn h
theorem rkt{id:Nat}{l:List Oper}{s:S}{Q:Exit→S→Prop}(hC:C.Fits K)(A:List An)(ks:List Nat)(hl:List (Nat×Option E))(ul:List (Nat×Bool))(hn:Q .normal (s.cl ks [] hl ul))(h:b6 (xO C l.toArray l (tQ A) s) O2 (O0 s ks [] hl)=b6 (xO C l.toArray l (tQ A) s) O1 (N9 (AnP A) [] hl ul):=by kernel_rfl):eA K (.region id l.toArray false) s Q:=rk hC A ks [] hl ul hn h
theorem aY{id:Nat}{l:List Oper}{s:S}{Q:Exit→S→Prop}(hC:C.Fits K)(ks:List Nat)(ts:List (Nat×V))(hn:Q .normal (s.cl ks ts [] []))(h:b6 (xO C l.toArray l (tQ []) s) O2 (O0 s ks ts [])=b6 (xO C l.toArray l (tQ []) s) O1 (N9 (AnP []) ts [] []):=by kernel_rfl):eA K (.region id l.toArray false) s Q:=rk hC [] ks ts [] [] hn h
theorem aU{id:Nat}{l:List Oper}{y:Code}{s:S}{Q:Exit→S→Prop}(hC:C.Fits K)(A:List An)(ks:List Nat)(ts:List (Nat×V))(hn:eA K y (s.cl ks ts [] []) Q)(h:b6 (xO C l.toArray l (tQ A) s) O2 (O0 s ks ts [])=b6 (xO C l.toArray l (tQ A) s) O1 (N9 (AnP A) ts [] []):=by kernel_rfl):eA K (.seq (.region id l.toArray false) y) s Q:=rq hC A ks ts [] [] hn h
theorem gZ{id:Nat}{l:List Oper}{y:Code}{s:S}{Q:Exit→S→Prop}(hC:C.Fits K)(A:List An)(ks:List Nat)(hl:List (Nat×Option E))(ul:List (Nat×Bool))(hn:eA K y (s.cl ks [] hl ul) Q)(h:b6 (xO C l.toArray l (tQ A) s) O2 (O0 s ks [] hl)=b6 (xO C l.toArray l (tQ A) s) O1 (N9 (AnP A) [] hl ul):=by kernel_rfl):eA K (.seq (.region id l.toArray false) y) s Q:=rq hC A ks [] hl ul hn h
theorem rqa{id:Nat}{l:List Oper}{y:Code}{s:S}{Q:Exit→S→Prop}(hC:C.Fits K)(ks:List Nat)(ts:List (Nat×V))(hl:List (Nat×Option E))(ul:List (Nat×Bool))(hn:eA K y (s.cl ks ts hl ul) Q)(h:b6 (xO C l.toArray l (tQ []) s) O2 (O0 s ks ts hl)=b6 (xO C l.toArray l (tQ []) s) O1 (N9 (AnP []) ts hl ul):=by kernel_rfl):eA K (.seq (.region id l.toArray false) y) s Q:=rq hC [] ks ts hl ul hn h
theorem aG{id:Nat}{l:List Oper}{y:Code}{s:S}{Q:Exit→S→Prop}(hC:C.Fits K)(ks:List Nat)(ts:List (Nat×V))(hn:eA K y (s.cl ks ts [] []) Q)(h:b6 (xO C l.toArray l (tQ []) s) O2 (O0 s ks ts [])=b6 (xO C l.toArray l (tQ []) s) O1 (N9 (AnP []) ts [] []):=by kernel_rfl):eA K (.seq (.region id l.toArray false) y) s Q:=rq hC [] ks ts [] [] hn h
theorem gN{id:Nat}{l:List Oper}{y:Code}{s:S}{Q:Exit→S→Prop}(hC:C.Fits K)(ks:List Nat)(hl:List (Nat×Option E))(ul:List (Nat×Bool))(hn:eA K y (s.cl ks [] hl ul) Q)(h:b6 (xO C l.toArray l (tQ []) s) O2 (O0 s ks [] hl)=b6 (xO C l.toArray l (tQ []) s) O1 (N9 (AnP []) [] hl ul):=by kernel_rfl):eA K (.seq (.region id l.toArray false) y) s Q:=rq hC [] ks [] hl ul hn h
theorem bD{id:Nat}{l:List Oper}{y:Code}{s:S}{Q:Exit→S→Prop}(hC:C.Fits K)(ks:List Nat)(hn:eA K y (s.cl ks [] [] []) Q)(h:b6 (xO C l.toArray l (tQ []) s) O2 (O0 s ks [] [])=b6 (xO C l.toArray l (tQ []) s) O1 (N9 (AnP []) [] [] []):=by kernel_rfl):eA K (.seq (.region id l.toArray false) y) s Q:=rq hC [] ks [] [] [] hn h
theorem qU{id:Nat}{l:List Oper}{s:S}{Q:Exit→S→Prop}(hC:C.Fits K)(hm:K.P.follows .mixedOrders=true)(A:List An)(ks:List Nat)(ts:List (Nat×V))(hn:Q .normal (s.cl ks ts [] []))(h:b6 (evR C l (tQ A) s) O2 (O0 s ks ts [])=b6 (evR C l (tQ A) s) O1 (N9 (AnP A) ts [] []):=by kernel_rfl):eA K (.region id l.toArray true) s Q:=dk hC hm A ks ts [] [] hn h
theorem oJ{id:Nat}{l:List Oper}{s:S}{Q:Exit→S→Prop}(hC:C.Fits K)(hm:K.P.follows .mixedOrders=true)(A:List An)(ks:List Nat)(hl:List (Nat×Option E))(ul:List (Nat×Bool))(hn:Q .normal (s.cl ks [] hl ul))(h:b6 (evR C l (tQ A) s) O2 (O0 s ks [] hl)=b6 (evR C l (tQ A) s) O1 (N9 (AnP A) [] hl ul):=by kernel_rfl):eA K (.region id l.toArray true) s Q:=dk hC hm A ks [] hl ul hn h
abbrev d8(ts:List (Nat×V)):S:=cY ts [] []
abbrev aT:V:=V.t T.nilS
abbrev vD(p:Prop)[Decidable p]:V:=vB (decide p)
abbrev vK{α:Type}(x:Int)(l:List α):V:=vB (decide (x<(l.length:Int)))
def oM{α:Type}{r:α→List T}(n:Nat)(k: ∀a,(r a).length=n)(l:List α):An:=oQ (rwM (r:=r) n k l)
def oI(l:List Int):An:=oM (r:=rI) 1 (fun _=>rfl) l
theorem xR{s:S}{Q:Exit→S→Prop}(hC:C.Fits K)(a b:Nat)(X:V)(Y:E)(k:Q .ret (s.cl [a] [(a,X)] [(0,some Y),(b,none)] [(0,true)]):=by exact eW)(h:b6 (evP C [.ren a b 0] s) O2 (O0 s [a] [(a,X)] [(0,some Y),(b,none)])=b6 (evP C [.ren a b 0] s) O1 (N9 True [(a,X)] [(0,some Y),(b,none)] [(0,true)]):=by kernel_rfl):eA K .ret s Q:=qw (lk hC [.ren a b 0] [a] [(a,X)] [(0,some Y),(b,none)] [(0,true)] h) (qr k)
theorem zr{s:S}{Q:Exit→S→Prop}(h:Q .ret s:=by exact eR):eA K .ret s Q:=qr h
theorem zw{s:S}{Q:Exit→S→Prop}(h:Q .ret s:=by exact eW):eA K .ret s Q:=qr h
theorem cL{id:Nat}{c y:Code}{s:S}{Q:Exit→S→Prop}(h:eA K c s (aCq id (aCk (fun s1=>eA K y s1 Q) Q))):eA K (.seq (.block id c) y) s Q:=qs (qb h)
theorem nG{R:Type}{A B:Option R}{r:R}{c:Operand}{x y z:Code}{s:S}{Q:Exit→S→Prop}{b:Bool}(h:(bif b then A else B)=some r)(ht:b=true→A=some r→eA K x s (aCk (fun s1=>eA K z s1 Q) Q))(hf:b=false→B=some r→eA K y s (aCk (fun s1=>eA K z s1 Q) Q))(hc:s.get c= .t (.bool b):=by kernel_rfl):eA K (.seq (.cond c x y) z) s Q:=qs (bA h ht hf hc)
theorem kU{α R:Type}{body:(α→Option R)→α→Option R}{n:Nat}{x0:α}{r:R}{c:Code}{s:S}{Q:Exit→S→Prop}(h:aM body n x0=some r)(I:α→Nat→S)(g0:Nat)(h0:s.le K (I x0 g0))(round: ∀(again:α→Option R) (x:α) (g:Nat),body again x=some r→eA K c (I x g) (aE0 (fun s'=> ∃y g',again y=some r∧s'.le K (I y g')) Q)):eA K (.loop c) s Q:=aGb (γ:=Nat) h I g0 h0 round
end Go.Lift
