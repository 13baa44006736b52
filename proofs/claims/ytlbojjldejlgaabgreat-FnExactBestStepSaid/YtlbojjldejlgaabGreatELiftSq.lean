/- Tools. -/
import Derived.Test.YtlbojjldejlgaabGreatELiftY
import Derived.Lib.AtoiAll
import Derived.Lib.ItoaNum
import Derived.Lib.Split
set_option linter.unusedVariables false
namespace Go.Lift
open Go
section
variable {K:Ctx}{C:dE}{P:Program}{G:eS}{b':List (Nat×b6)}
inductive gz where
 |o (h:ch) (p:Prop) (k:p)
 |z (h:ch)
 |q (p:Prop) (k:p)
def iw:List gz->List ch
 | []=>[]
 | .o h _ _::l=>h::iw l
 | .z h::l=>h::iw l
 | .q _ _::l=>iw l
def pt:List gz->Prop
 | []=>True
 | .o _ p _::l=>p/\pt l
 | .z _::l=>pt l
 | .q p _::l=>p/\pt l
theorem qZ: ∀l,pt l
 | []=>trivial
 | .o _ _ k::l=>⟨k,qZ l⟩
 | .z _::l=>qZ l
 | .q _ k::l=>⟨k,qZ l⟩
def aP{c:Bool}(k:c=true):gz:= .o (.b true) _ k
def aG{c:Bool}(k:c=false):gz:= .o (.b false) _ k
def dT:gz:=aP (Eq.refl true)
def bZ:gz:=aG (Eq.refl false)
def aF{a:Type}(r:a->List T)(l:List a):gz:= .o (.nat l.length) _ (Py r l)
def aj{P:Program}{G:eS}{f:FuncId}{a:List V}{r:V}(k:jv P G f a r):gz:= .o (.v r) _ k
def bo(L N:List Nat){P:Program}{G:eS}{f:FuncId}{i:List E}{a:List V}{r:V}{u:List E}(k:iA P G f i a r u):gz:= .o (.dy L N r u) _ k
def aZ{a:Type}{l:List a}{i:Int}{x:a}(f:a->List T)(h:av l i=some x):gz:= .o (.row (f x)) _ (OD f h)
def br{a:Type}{l:List a}{i:Int}{x:a}(f:a->List T)(h:av l i=some x):gz:= .o (.row (f x)) _ (cr f h)
def bP{o:Option (List (List T))}{x:List (List T)}(h:o=some x):gz:= .o (.rows x) _ h
def aA{p:Prop}(k:p):gz:= .q p k
def aN(n:Nat){c:Bool}(k:c=true):List gz:=List.replicate n (aP k)
def aJ(n:Nat){c:Bool}(k:c=false):List gz:=List.replicate n (aG k)
def dJ(n:Nat):List gz:=List.replicate n dT
def ec(n:Nat):List gz:=List.replicate n bZ
variable {n:Nat}{s:S}{Q:Exit->S->Prop}{a b d e i p h:Prop}{R:Type}{r:R}{x y c:Code}{args:List V}{A B:Option R}
theorem dk{l:List Oper}(e:C.Fits K)(i:K.P.follows .mixedOrders=true)(A:List gz)(c:List Nat)(a:List (Nat×V))(b:List (Nat×Option E))(d:List (Nat×Bool))(k:Q .normal (s.cl c a b d))
  (h:lN (k6 C l (iw A) s) t' (ub s c a b)=lN (k6 C l (iw A) s) ua (uc (pt A) a b d):=by kernel_rfl):cz K (.region n l.toArray true) s Q:=rd e i (iw A) c a b d (qZ A) h k
theorem bG{a:Type}{b:a->Option R}{t:(a->Option R)->Option R}(h:aI b t=some r)(I:a->S)
  (c: ∀j:a->Option R,t j=some r->cz K x s (pV (λi=> ∃z,j z=some r/\i.le K (I z)) Q)) (d: ∀z,b z=some r->cz K y (I z) Q):cz K (.seq x y) s Q:=
 lv (γ:=Unit) (j:=b) (r:=r) (λz _=>I z) (vT (c b h) (λe k q=>by
  cases e with
  |normal=>obtain⟨z,c,d⟩:=q;exact⟨z,(),c,d⟩
  |exit=>exact q
  |goto=>exact q
  |ret=>exact q
  |panic=>exact q
  |outgrown=>exact q)) λz _ h=>d z h
theorem cj{b:Type}{a:(b->Option R)->b->Option R}{d:b}(h:bc a n d=some r)(I:b->S)(m:s.le K (I d))
  (k: ∀(i:b->Option R) (x:b),a i x=some r->cz K c (I x) (A7 (λl=> ∃y,i y=some r/\l.le K (I y)) Q)):cz K (.loop c) s Q:=
 AS (γ:=Unit) h (λz _=>I z) () m (λi x _ o=>vT (k i x o) (λe l q=>by
  cases e with
  |normal=>obtain⟨z,p,w⟩:=q;exact⟨z,(),p,w⟩
  |exit=>exact q
  |goto=>exact q
  |ret=>exact q
  |panic=>exact q
  |outgrown=>exact q))
theorem al{a:Type}{z:a}{j:a->Option R}{b:a->List (Nat×V)}{c:a->List (Nat×E)}{d:a->List Nat}(h:j z=some r)(k:Bi K.c6 s (b z) (c z) (d z)=(jY (b z),jY (nm (c z)),true):=by kernel_rfl): ∃z,j z=some r/\s.le K (bb (b z) (c z) (d z)):=⟨z,h,QS k⟩
theorem hK{a b:Type}{o:Option a}{g:a->Option R}{f:a->R->Option b}{r:b}(h:(o.bind λx=>(g x).bind (f x))=some r): ∃x,o=some x/\ ∃y,g x=some y/\f x y=some r:=by
 obtain⟨x,c,h⟩:=dd h;obtain⟨y,d,h⟩:=dd h
 grind
theorem pX{a b c:Type}{o:Option a}{g:a->Option R}{f:a->R->Option b}{e:a->R->b->Option c}{r:c}(h:(o.bind λx=>(g x).bind λy=>(f x y).bind (e x y))=some r): ∃x,o=some x/\ ∃y,g x=some y/\ ∃z,f x y=some z/\e x y z=some r:=by
 obtain⟨x,d,h⟩:=dd h;obtain⟨y,i,z,k,h⟩:=hK h
 grind
theorem ba{f:FuncId}{d:Func}{r:V}{a:List ResultVar}(e:dM P b')(i:P.funcs[f]? =some d)(b:(d.name== "runtime.NumGoroutine",d.body,d.results.toList,d.ntmps,Nat.ble args.length n,r.ok gf,Nat.ble a.length 4)=(false,some c,a,n,true,true,true))
  (h: ∀w X,dE.Fits ⟨P,G,b',n,0,gE⟩ (Ctx.pure P G w X n)->cz (Ctx.pure P G w X n) c (start args) (PH b' a r)):jv P G f args r:=by simp only[Prod.mk.injEq] at b;exact QY e i b.1 b.2.1 b.2.2.1 b.2.2.2.1 b.2.2.2.2.1 b.2.2.2.2.2.1 b.2.2.2.2.2.2 h
theorem cK{f:FuncId}{d:Func}{a out:List E}{r:V}{i:Nat}{b:List ResultVar}(l:dM P b')(m:P.funcs[f]? =some d)(e:(d.name== "runtime.NumGoroutine",d.body,d.results.toList,d.ntmps,a.length,Nat.ble args.length n,Nat.ble i out.length,Nat.ble b.length 4)=(false,some c,b,n,i,true,true,true))
  (h: ∀w X k,dE.Fits ⟨P,G,b',n,i,k⟩ (Ctx.dy P G w X i k n)->tt k a 0->cz (Ctx.dy P G w X i k n) c (lA a args) (PG b' b r out)):iA P G f a args r out:=by simp only[Prod.mk.injEq] at e;exact ahQ l m e.1 e.2.1 e.2.2.1 e.2.2.2.1 e.2.2.2.2.1 e.2.2.2.2.2.1 e.2.2.2.2.2.2.1 e.2.2.2.2.2.2.2 h
theorem dH(i:C.Fits K)(c:List ch)(d:List Nat)(a:List (Nat×V))(b:List (Nat×Option E))(e:List (Nat×Bool))
  (h:lN (ga C c s) t' (ub s d a b)=lN (ga C c s) ua (uc True a b e):=by kernel_rfl):s.le K (s.cl d a b e):=ai9 i c d a b e h
theorem aL{a:List (Nat×V)}{b:List (Nat×E)}{r:List Nat}(h:Bi K.c6 s a b r=(jY a,jY (nm b),true):=by kernel_rfl):s.le K (bb a b r):=QS h
theorem dy{c:Operand}{b:Bool}(a:b=true->cz K x s Q)(d:b=false->cz K y s Q)(e:s.get c= .t (.bool b):=by kernel_rfl):cz K (.cond c x y) s Q:=jC e a d
theorem aw{c:Operand}{b:Bool}(h:(bif b then A else B)=some r)(a:b=true->A=some r->cz K x s Q)(d:b=false->B=some r->cz K y s Q)(i:s.get c= .t (.bool b):=by kernel_rfl):cz K (.cond c x y) s Q:=
 jC i (λe=>a e (hc e h)) λe=>d e (hb e h)
theorem a8{b:Bool}{P:Prop}(h:(bif b then A else B)=some r)(a:b=false->B=some r->P)(c:b=true->A=some r->P):P:=jE b (λe=>a e (hb e h)) λe=>c e (hc e h)
theorem p0{b:List ResultVar}{r:V}{a:List E}(h:(xb r (iv b' s b),tf s a 0,r.ok (eN a.length)&&tC (eN a.length) a)=(some r,s9 a,true):=by kernel_rfl):
  ∃c,iv b' s b=some c/\dq (np c) r/\r.ok (eN a.length)=true/\k0 s.H (eN a.length) (eJ a 0):=ad5 h
theorem aiZ{a:List ResultVar}{r:V}(h:xb r (iv b' s a)=some r:=by kernel_rfl): ∃b,iv b' s a=some b/\dq (np b) r:=PD h
theorem a0:True:=trivial
theorem aH{Q:Prop}(a:Q):Q/\True:=⟨a,trivial⟩
theorem a2{Q:Prop}(a:Q)(b:p):Q/\p/\True:=⟨a,b,trivial⟩
theorem a3{Q E:Prop}(a:Q)(b:p)(c:E):Q/\p/\E/\True:=⟨a,b,c,trivial⟩
theorem a4{Q E:Prop}(b:Q)(c:p)(d:E)(e:a):Q/\p/\E/\a/\True:=⟨b,c,d,e,trivial⟩
theorem a5{Q E:Prop}(c:Q)(d:p)(e:E)(h:a)(i:b):Q/\p/\E/\a/\b/\True:=⟨c,d,e,h,i,trivial⟩
theorem iY{Q E c:Prop}(d:Q)(e:p)(h:E)(i:a)(k:b)(l:c):Q/\p/\E/\a/\b/\c/\True:=⟨d,e,h,i,k,l,trivial⟩
theorem ib{Q E c:Prop}(e:Q)(h:p)(i:E)(k:a)(l:b)(m:c)(n:d):Q/\p/\E/\a/\b/\c/\d/\True:=⟨e,h,i,k,l,m,n,trivial⟩
theorem e9{Q E c:Prop}(h:Q)(i:p)(k:E)(l:a)(m:b)(n:c)(o:d)(q:e):Q/\p/\E/\a/\b/\c/\d/\e/\True:=⟨h,i,k,l,m,n,o,q,trivial⟩
theorem a9{Q E c:Prop}(i:Q)(k:p)(l:E)(m:a)(n:b)(o:c)(q:d)(r:e)(s:h):Q/\p/\E/\a/\b/\c/\d/\e/\h/\True:=⟨i,k,l,m,n,o,q,r,s,trivial⟩
theorem SO{E c Q:Prop}(l:p)(m:E)(n:a)(o:b)(q:c)(r:d)(s:e)(w:h)(x:i)(k:Q):p/\E/\a/\b/\c/\d/\e/\h/\i/\Q/\True:=⟨l,m,n,o,q,r,s,w,x,k,trivial⟩
theorem a12{c k l Q E:Prop}(q:a)(r:b)(s:c)(w:d)(x:e)(y:h)(z:i)(A:k)(B:l)(m:Q)(n:p)(o:E):a/\b/\c/\d/\e/\h/\i/\k/\l/\Q/\p/\E/\True:=⟨q,r,s,w,x,y,z,A,B,m,n,o,trivial⟩
def HX:Nat->Nat->List Nat
 |_,0=>[]
 |a,n+1=>a::HX (a+1) n
abbrev jS(l:List V):Option E:=some (E.cells l)
theorem ah(h:cz K x s (pV (λa=>cz K y a Q) Q)):cz K (.seq x y) s Q:=Ar h
theorem bd(h:cz K c s (w3 n Q)):cz K (.block n c) s Q:=Ya h
theorem ar(h:Q .normal s):cz K .skip s Q:=Zf h
theorem qr(h:Q .ret s):cz K .ret s Q:=aa7 h
theorem bn(h:Q (.exit n) s):cz K (.exit n) s Q:=Zh h
theorem sr{a:S}(b:s.le K a)(h:cz K c a Q):cz K c s Q:=u3 b h
abbrev bN(a:List (Nat×V)):S:=bb a [] []
abbrev bl:V:=V.t T.e5
abbrev Jz(p:Prop)[Decidable p]:V:=aM (decide p)
def bK{R:Type}{r:R->List T}(n:Nat)(k: ∀a,(r a).length=n)(l:List R):gz:=aA (kg (r:=r) n k l)
def cJ(l:List Int):gz:=bK (r:=ab) 1 (λ_=>rfl) l
theorem au(h:Q .ret s:=by exact aiZ):cz K .ret s Q:=qr h
theorem dz(h:Q .ret s:=by exact p0):cz K .ret s Q:=qr h
theorem bw(h:cz K c s (w3 n (pV (λa=>cz K y a Q) Q))):cz K (.seq (.block n c) y) s Q:=ah (bd h)
theorem cI{c:Operand}{z:Code}{b:Bool}(h:(bif b then A else B)=some r)(d:b=true->A=some r->cz K x s (pV (λa=>cz K z a Q) Q))(e:b=false->B=some r->cz K y s (pV (λa=>cz K z a Q) Q))(i:s.get c= .t (.bool b):=by kernel_rfl):cz K (.seq (.cond c x y) z) s Q:=ah (aw h d e i)
theorem cg{b:Type}{a:(b->Option R)->b->Option R}{z:b}(h:bc a n z=some r)(I:b->Nat->S)(i:Nat)(k:s.le K (I z i))(e: ∀(d:b->Option R) (x:b) (g:Nat),a d x=some r->cz K c (I x g) (A7 (λl=> ∃y m,d y=some r/\l.le K (I y m)) Q)):cz K (.loop c) s Q:=AS (γ:=Nat) h I i k e
theorem ai{a:Type}{o:Option a}{f:a->Option R}{P:Prop}(h:o.bind f=some r)(k: ∀x,o=some x->f x=some r->P):P:=by obtain⟨x,b,c⟩:=dd h;exact k x b c
theorem bH{a γ:Type}{o:Option a}{g:a->Option R}{f:a->R->Option γ}{r:γ}{P:Prop}(h:(o.bind λx=>(g x).bind (f x))=some r)(k: ∀x,o=some x-> ∀y,g x=some y->f x y=some r->P):P:=by obtain⟨x,b,y,c,d⟩:=hK h;exact k x b y c d
theorem cC{a b c:Type}{o:Option a}{g:a->Option R}{f:a->R->Option b}{e:a->R->b->Option c}{r:c}{P:Prop}(h:(o.bind λx=>(g x).bind λy=>(f x y).bind (e x y))=some r)(k: ∀x,o=some x-> ∀y,g x=some y-> ∀z,f x y=some z->e x y z=some r->P):P:=by obtain⟨x,d,y,i,z,l,m⟩:=pX h;exact k x d y i z l m
end
section
variable {K:Ctx}{C:dE}
def js:Option (cM×List df)->cM
 |some r=>r.1
 |none=>⟨[],[],[]⟩
def j4(r:cM×List df):Prop×List Nat×Bool:=(x' r.2,u1 r.2,true)
def j5(a:Prop)(r:cM×List df):Prop×List Nat×Bool:=(a,u2 r.2,true)
def fc(x:Option (cM×List df))(n:Prop×List Nat×Bool)(f:cM×List df->Prop×List Nat×Bool):Prop×List Nat×Bool:=match x with
 |some r=>f r
 |none=>n
variable {P:Prop}{n:Nat}{l:List Oper}{s:S}{Q:Exit->S->Prop}
theorem GO{x:Option (cM×List df)}(b:P)(h:fc x (False,[],false) j4=fc x (True,[],true) (j5 P)): ∃a,x=some (js x,a)/\cc a:=by
 cases x with
 |none=>simp[fc] at h
 |some r=>
  obtain⟨e,a⟩:=r;simp only[fc,j4,j5,Prod.mk.injEq] at h;obtain⟨c,d,_⟩:=h;exact⟨a,rfl,cc.of (c▸b) d⟩
theorem CF(c:C.Fits K)(a:List ch)(b:P)
  (h:fc (ic C l.toArray l a s) (False,[],false) j4=fc (ic C l.toArray l a s) (True,[],true) (j5 P)) (d:Q .normal ((js (ic C l.toArray l a s)).app s)):cz K (.region n l.toArray false) s Q:=by obtain⟨k,e,i⟩:=GO b h;exact Tg _ (OV c e i (Zi (S.le.refl K _))) d
theorem ahC(i:C.Fits K)(k:K.P.follows .mixedOrders=true)(b:List ch){p:Prop}(c:p)
  (h:fc (k6 C l b s) (False,[],false) j4=fc (k6 C l b s) (True,[],true) (j5 p)) (m:Q .normal ((js (k6 C l b s)).app s)):cz K (.region n l.toArray true) s Q:=by
 obtain⟨D,a,o⟩:=GO c h;generalize js (k6 C l b s)=e at*;unfold k6 at a;split at a
 ·cases a
 rename_i F q r w;split at a
 ·cases a
 rename_i x y z;split at a
 ·rename_i d;cases a;simp only[Bool.and_eq_true] at d;obtain⟨A,B⟩:=cc.app o;refine u3 (qw i w A) (Oz (s2:=_) (M0 x k d.1 d.2 (GI i z B ?_)) m);rw[mM];exact S.le.refl K _
 cases a
theorem B2(d:C.Fits K)(a:List ch)(c:P)
  (h:fc (ga C a s) (False,[],false) j4=fc (ga C a s) (True,[],true) (j5 P)):s.le K ((js (ga C a s)).app s):=by
 obtain⟨l,b,i⟩:=GO c h;generalize js (ga C a s)=e at*;unfold ga at b;split at b
 ·rename_i k;cases b;exact qw d k i
 cases b
end
section
variable {K:Ctx}{C:dE}
variable {n:Nat}{l:List Oper}{s:S}{Q:Exit->S->Prop}{y c:Code}{P:Prop}
theorem ax(a:C.Fits K)(A:List gz)(b:Q .normal ((js (ic C l.toArray l (iw A) s)).app s))
  (h:fc (ic C l.toArray l (iw A) s) (False,[],false) j4=fc (ic C l.toArray l (iw A) s) (True,[],true) (j5 (pt A)):=by kernel_rfl):cz K (.region n l.toArray false) s Q:=CF a (iw A) (qZ A) h b
theorem ad(a:C.Fits K)(A:List gz)(b:cz K y ((js (ic C l.toArray l (iw A) s)).app s) Q)
  (h:fc (ic C l.toArray l (iw A) s) (False,[],false) j4=fc (ic C l.toArray l (iw A) s) (True,[],true) (j5 (pt A)):=by kernel_rfl):cz K (.seq (.region n l.toArray false) y) s Q:=Ar (CF a (iw A) (qZ A) h b)
theorem be(a:C.Fits K)(b:Q .normal ((js (ic C l.toArray l [] s)).app s))
  (h:fc (ic C l.toArray l [] s) (False,[],false) j4=fc (ic C l.toArray l [] s) (True,[],true) (j5 True):=by kernel_rfl):cz K (.region n l.toArray false) s Q:=CF a [] trivial h b
theorem ae(a:C.Fits K)(b:cz K y ((js (ic C l.toArray l [] s)).app s) Q)
  (h:fc (ic C l.toArray l [] s) (False,[],false) j4=fc (ic C l.toArray l [] s) (True,[],true) (j5 True):=by kernel_rfl):cz K (.seq (.region n l.toArray false) y) s Q:=Ar (CF a [] trivial h b)
theorem bA(a:C.Fits K)(b:K.P.follows .mixedOrders=true)(A:List gz)(c:Q .normal ((js (k6 C l (iw A) s)).app s))
  (h:fc (k6 C l (iw A) s) (False,[],false) j4=fc (k6 C l (iw A) s) (True,[],true) (j5 (pt A)):=by kernel_rfl):cz K (.region n l.toArray true) s Q:=ahC a b (iw A) (qZ A) h c
theorem PY(b:C.Fits K)(a:List ch)(h:fc (ga C a s) (False,[],false) j4=fc (ga C a s) (True,[],true) (j5 True):=by kernel_rfl):s.le K ((js (ga C a s)).app s):=B2 b a trivial h
theorem xh(c:C.Fits K)(a:List ch)(b:P)(h:fc (ga C a s) (False,[],false) j4=fc (ga C a s) (True,[],true) (j5 P):=by kernel_rfl):s.le K ((js (ga C a s)).app s):=B2 c a b h
theorem bV(b:C.Fits K)(a:List ch)(k:cz K c ((js (ga C a s)).app s) Q)(h:fc (ga C a s) (False,[],false) j4=fc (ga C a s) (True,[],true) (j5 True):=by kernel_rfl):cz K c s Q:=u3 (B2 b a trivial h) k
theorem dc(d:C.Fits K)(a:List ch)(b:P)(k:cz K c ((js (ga C a s)).app s) Q)(h:fc (ga C a s) (False,[],false) j4=fc (ga C a s) (True,[],true) (j5 P):=by kernel_rfl):cz K c s Q:=u3 (B2 d a b h) k
theorem dP(c:C.Fits K)(a b:Nat)(k:Q .ret ((js (ga C [.dA a b 0] s)).app s):=by exact p0)
  (h:fc (ga C [.dA a b 0] s) (False,[],false) j4=fc (ga C [.dA a b 0] s) (True,[],true) (j5 True):=by kernel_rfl):cz K .ret s Q:=sr (PY c [.dA a b 0] h) (qr k)
end
def xY(s t:List UInt8):Option Bool:=if s.length<4294967281 then some (Lib.contains s t) else none
def jh(l:List Int):Option (List Int):=if l.length<=1000000000 then some l else none
def cmpL:List Int->List Int->Int
 | [],[]=>0
 | [],_::_=> -1
 |_::_,[]=>1
 |x::a,y::b=>if x<y then-1 else if y<x then 1 else cmpL a b
def e4(a:List (List Int)):List (List Int):=a.mergeSort λx y=> !decide (cmpL y x<0)
def l6(a:List (List Int)):Option (List (List Int)):=if a.length<=1000000000/\ ∀l∈a,l.length<=1000000000 then some (e4 a) else none
def dO(a:Nat->Bool)(m:Nat):List Nat:=(List.range m).filter a
def kz(a:List (List Int))(j:Nat):Bool:=decide (j=0\/a.getD j []≠a.getD (j-1) [])
def gp(a:List (List Int)):List (List Int):=(dO (kz a) a.length).map λj=>a.getD j []
def m'(a:Nat)(c:Int)(b:List Int):List Int:=
 let h:=b.erase c++[c]
 if a<h.length then h.drop 1 else h
def fy(size:Nat):List Int->List Int->Nat
 |_,[]=>0
 |held,c::t=>(if c∈held then 0 else 1)+fy size (m' size c held) t
def Cj:List Int->List Int->Nat
 |_,[]=>0
 |seen,c::t=>(if c∈seen then 0 else 1)+Cj (c::seen) t
def uV(l:List Int)(a:Int):Option Int:=some (if l.length<=600/\0<=a/\a<=40 then(fy a.toNat [] l:Int) else-1)
end Go.Lift
