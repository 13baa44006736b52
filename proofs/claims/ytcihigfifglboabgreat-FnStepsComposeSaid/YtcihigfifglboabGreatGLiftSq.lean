/- Tools. -/
import Derived.Test.YtcihigfifglboabGreatGLiftY
import Derived.Lib.AtoiAll
import Derived.Lib.ItoaNum
import Derived.Lib.Split
set_option linter.unusedVariables false
namespace Go.Lift
open Go
section
variable {K:Ctx} {C:dK} {P:Program} {G:fa} {cb:List (Nat×cj)}
inductive f' where
 |o (h:ct) (p:Prop) (k:p)
 |z (h:ct)
 |q (p:Prop) (k:p)
def iM:List f'->List ct
 | []=>[]
 | .o h _ _::l=>h::iM l
 | .z h::l=>h::iM l
 | .q _ _::l=>iM l
def pO:List f'->Prop
 | []=>True
 | .o _ p _::l=>p/\pO l
 | .z _::l=>pO l
 | .q p _::l=>p/\pO l
theorem ri: ∀l,pO l
 | []=>trivial
 | .o _ _ k::l=>⟨k,ri l⟩
 | .z _::l=>ri l
 | .q _ k::l=>⟨k,ri l⟩
def aI{c:Bool}(k:c=true):f':= .o (.b true) _ k
def aB{c:Bool}(k:c=false):f':= .o (.b false) _ k
def dU:f':=aI (Eq.refl true)
def b5:f':=aB (Eq.refl false)
def aM{k:Type}(r:k->List T)(l:List k):f':= .o (.nat l.length) _ (OR r l)
def an{P:Program}{G:fa}{f:FuncId}{a:List V}{r:V}(k:kK P G f a r):f':= .o (.v r) _ k
def aW(L N:List Nat){P:Program}{G:fa}{f:FuncId}{i:List E}{a:List V}{r:V}{u:List E}(k:iQ P G f i a r u):f':= .o (.dG L N r u) _ k
def ba{k:Type}{l:List k}{i:Int}{x:k}(f:k->List T)(h:au l i=some x):f':= .o (.row (f x)) _ (N' f h)
def bp{k:Type}{l:List k}{i:Int}{x:k}(f:k->List T)(h:au l i=some x):f':= .o (.row (f x)) _ (ca f h)
def dM{o:Option (List UInt8)}{x:List UInt8}(h:o=some x):f':= .o (.str x) _ h
def fG{o:Option UInt8}{x:UInt8}(h:o=some x):f':= .o (.y x) _ h
def bT{o:Option (List (List T))}{x:List (List T)}(h:o=some x):f':= .o (.rows x) _ h
def ax{p:Prop}(k:p):f':= .q p k
def aK(n:Nat){c:Bool}(k:c=true):List f':=List.replicate n (aI k)
def aF(n:Nat){c:Bool}(k:c=false):List f':=List.replicate n (aB k)
def dI(n:Nat):List f':=List.replicate n dU
def dW(n:Nat):List f':=List.replicate n b5
variable {i n:Nat}{l a d c e p h:Prop}{s:S}{Q:Exit->S->Prop}{k R H:Type}{A o B:Option R}{r:R}{x y:Code}{g:k->Option R}{f:k->R->Option H}{args:List V}{b:Bool}
theorem dk{l:List Oper}(k:C.Fits K)(m:K.P.follows .mixedOrders=true)(A:List f')(d:List Nat)(a:List (Nat×V))(c:List (Nat×Option E))(e:List (Nat×Bool))(n:Q .normal (s.cl d a c e))
  (h:l3 (lx C l (iM A) s) ua (uc s d a c)=l3 (lx C l (iM A) s) ub (ud (pO A) a c e):=by kernel_rfl):cH K (.region i l.toArray true) s Q:=rd k m (iM A) d a c e (ri A) h n
theorem bq{A:k->Option R}{t:(k->Option R)->Option R}(h:aA A t=some r)(I:k->S)
  (a: ∀j:k->Option R,t j=some r->cH K x s (p7 (λd=> ∃z,j z=some r/\d.le K (I z)) Q)) (c: ∀z,A z=some r->cH K y (I z) Q):cH K (.seq x y) s Q:=
 hb (γ:=Unit) (j:=A) (r:=r) (λz _=>I z) (vR (a A h) (λe i q=>by
  cases e with
  |normal=>obtain⟨z,a,c⟩:=q;exact⟨z,(),a,c⟩
  |exit=>exact q
  |goto=>exact q
  |ret=>exact q
  |panic=>exact q
  |outgrown=>exact q)) λz _ h=>c z h
theorem cf{a:(k->Option R)->k->Option R}{d:k}{c:Code}(h:bo a n d=some r)(I:k->S)(o:s.le K (I d))
  (l: ∀(i:k->Option R) (x:k),a i x=some r->cH K c (I x) (A' (λm=> ∃y,i y=some r/\m.le K (I y)) Q)):cH K (.loop c) s Q:=
 wF (γ:=Unit) h (λz _=>I z) () o (λi x _ p=>vR (l i x p) (λe m q=>by
  cases e with
  |normal=>obtain⟨z,w,A⟩:=q;exact⟨z,(),w,A⟩
  |exit=>exact q
  |goto=>exact q
  |ret=>exact q
  |panic=>exact q
  |outgrown=>exact q))
theorem ai{z:H}{j:H->Option R}{a:H->List (Nat×V)}{c:H->List (Nat×E)}{U:H->List Nat}(h:j z=some r)(k:Bi K.c' s (a z) (c z) (U z)=(kd (a z),kd (nH (c z)),true):=by kernel_rfl): ∃z,j z=some r/\s.le K (a7 (a z) (c z) (U z)):=⟨z,h,P6 k⟩
theorem gb{o:Option k}{r:H}(h:(o.bind λx=>(g x).bind (f x))=some r): ∃x,o=some x/\ ∃y,g x=some y/\f x y=some r:=by obtain⟨x,a,h⟩:=cR h;obtain⟨y,c,h⟩:=cR h;exact⟨x,a,y,c,h⟩
theorem lr{a:Type}{o:Option k}{e:k->R->H->Option a}{r:a}(h:(o.bind λx=>(g x).bind λy=>(f x y).bind (e x y))=some r): ∃x,o=some x/\ ∃y,g x=some y/\ ∃z,f x y=some z/\e x y z=some r:=by obtain⟨x,c,h⟩:=cR h;obtain⟨y,d,z,i,h⟩:=gb h;exact⟨x,c,y,d,z,i,h⟩
theorem bl{f:FuncId}{d:Func}{c:Code}{r:V}{a:List ResultVar}(k:dT P cb)(l:P.funcs[f]? =some d)(e:(d.name== "runtime.NumGoroutine",d.body,d.results.toList,d.ntmps,Nat.ble args.length i,r.ok gl,Nat.ble a.length 4)=(false,some c,a,i,true,true,true))
  (h: ∀w X,dK.Fits ⟨P,G,cb,i,0,gQ⟩ (Ctx.pure P G w X i)->cH (Ctx.pure P G w X i) c (start args) (OV cb a r)):kK P G f args r:=by simp only[Prod.mk.injEq] at e;exact Qa k l e.1 e.2.1 e.2.2.1 e.2.2.2.1 e.2.2.2.2.1 e.2.2.2.2.2.1 e.2.2.2.2.2.2 h
theorem cy{f:FuncId}{d:Func}{c:Code}{a out:List E}{r:V}{e:List ResultVar}(m:dT P cb)(o:P.funcs[f]? =some d)(k:(d.name== "runtime.NumGoroutine",d.body,d.results.toList,d.ntmps,a.length,Nat.ble args.length i,Nat.ble n out.length,Nat.ble e.length 4)=(false,some c,e,i,n,true,true,true))
  (h: ∀w X l,dK.Fits ⟨P,G,cb,i,n,l⟩ (Ctx.dG P G w X n l i)->tq l a 0->cH (Ctx.dG P G w X n l i) c (lQ a args) (OU cb e r out)):iQ P G f a args r out:=by simp only[Prod.mk.injEq] at k;exact afA m o k.1 k.2.1 k.2.2.1 k.2.2.2.1 k.2.2.2.2.1 k.2.2.2.2.2.1 k.2.2.2.2.2.2.1 k.2.2.2.2.2.2.2 h
theorem dQ(k:C.Fits K)(d:List ct)(e:List Nat)(a:List (Nat×V))(c:List (Nat×Option E))(i:List (Nat×Bool))
  (h:l3 (gj C d s) ua (uc s e a c)=l3 (gj C d s) ub (ud True a c i):=by kernel_rfl):s.le K (s.cl e a c i):=ag4 k d e a c i h
theorem aN{a:List (Nat×V)}{c:List (Nat×E)}{r:List Nat}(h:Bi K.c' s a c r=(kd a,kd (nH c),true):=by kernel_rfl):s.le K (a7 a c r):=P6 h
theorem dG{c:Operand}(a:b=true->cH K x s Q)(d:b=false->cH K y s Q)(e:s.get c= .t (.bool b):=by kernel_rfl):cH K (.cond c x y) s Q:=jT e a d
theorem aw{c:Operand}(h:(bif b then A else B)=some r)(a:b=true->A=some r->cH K x s Q)(d:b=false->B=some r->cH K y s Q)(i:s.get c= .t (.bool b):=by kernel_rfl):cH K (.cond c x y) s Q:=
 jT i (λe=>a e (hA e h)) λe=>d e (hz e h)
theorem aY{P:Prop}(h:(bif b then A else B)=some r)(a:b=false->B=some r->P)(c:b=true->A=some r->P):P:=jW b (λe=>a e (hz e h)) λe=>c e (hA e h)
theorem p'{e:List ResultVar}{r:V}{a:List E}(h:(w3 r (iL cb s e),ts s a 0,r.ok (eX a.length)&&tQ (eX a.length) a)=(some r,tl a,true):=by kernel_rfl):
  ∃c,iL cb s e=some c/\dz (nJ c) r/\r.ok (eX a.length)=true/\ll s.H (eX a.length) (eQ a 0):=abz h
theorem G2{a:List ResultVar}{r:V}(h:w3 r (iL cb s a)=some r:=by kernel_rfl): ∃c,iL cb s a=some c/\dz (nJ c) r:=OK h
theorem a0:True:=trivial
theorem aJ(a:p):p/\True:=⟨a,trivial⟩
theorem a2{E:Prop}(a:p)(c:E):p/\E/\True:=⟨a,c,trivial⟩
theorem a3{E:Prop}(c:p)(d:E)(e:a):p/\E/\a/\True:=⟨c,d,e,trivial⟩
theorem a4{E:Prop}(d:p)(e:E)(h:a)(i:c):p/\E/\a/\c/\True:=⟨d,e,h,i,trivial⟩
theorem a5{E:Prop}(e:p)(h:E)(i:a)(k:c)(l:d):p/\E/\a/\c/\d/\True:=⟨e,h,i,k,l,trivial⟩
theorem hV{E:Prop}(h:p)(i:E)(k:a)(l:c)(m:d)(n:e):p/\E/\a/\c/\d/\e/\True:=⟨h,i,k,l,m,n,trivial⟩
theorem iw{E:Prop}(i:p)(k:E)(l:a)(m:c)(n:d)(o:e)(q:h):p/\E/\a/\c/\d/\e/\h/\True:=⟨i,k,l,m,n,o,q,trivial⟩
theorem fc{E i:Prop}(k:p)(l:E)(m:a)(n:c)(o:d)(q:e)(r:h)(s:i):p/\E/\a/\c/\d/\e/\h/\i/\True:=⟨k,l,m,n,o,q,r,s,trivial⟩
theorem a9{E i k:Prop}(l:p)(m:E)(n:a)(o:c)(q:d)(r:e)(s:h)(w:i)(x:k):p/\E/\a/\c/\d/\e/\h/\i/\k/\True:=⟨l,m,n,o,q,r,s,w,x,trivial⟩
theorem RF{E i k:Prop}(n:E)(o:a)(q:c)(r:d)(s:e)(w:h)(x:i)(y:k)(z:l)(m:p):E/\a/\c/\d/\e/\h/\i/\k/\l/\p/\True:=⟨n,o,q,r,s,w,x,y,z,m,trivial⟩
theorem a12{i k m n E:Prop}(s:c)(w:d)(x:e)(y:h)(z:i)(A:k)(B:l)(D:m)(F:n)(o:p)(q:E)(r:a):c/\d/\e/\h/\i/\k/\l/\m/\n/\p/\E/\a/\True:=⟨s,w,x,y,z,A,B,D,F,o,q,r,trivial⟩
def G9:Nat->Nat->List Nat
 |_,0=>[]
 |a,n+1=>a::G9 (a+1) n
abbrev j8(l:List V):Option E:=some (E.cells l)
theorem al(h:cH K x s (p7 (λa=>cH K y a Q) Q)):cH K (.seq x y) s Q:=Av h
theorem bd{c:Code}(h:cH K c s (wY i Q)):cH K (.block i c) s Q:=WC h
theorem av(h:Q .normal s):cH K .skip s Q:=XV h
theorem qr(h:Q .ret s):cH K .ret s Q:=YW h
theorem br(h:Q (.exit i) s):cH K (.exit i) s Q:=XX h
theorem kz{c:Code}{a:S}(d:s.le K a)(h:cH K c a Q):cH K c s Q:=u4 d h
abbrev bN(a:List (Nat×V)):S:=a7 a [] []
abbrev aV:V:=V.t T.fj
abbrev IY(p:Prop)[Decidable p]:V:=aL (decide p)
def bE{R:Type}{r:R->List T}(n:Nat)(k: ∀a,(r a).length=n)(l:List R):f':=ax (ia (r:=r) n k l)
def dh(l:List Int):f':=bE (r:=ae) 1 (λ_=>rfl) l
theorem az(h:Q .ret s:=by exact G2):cH K .ret s Q:=qr h
theorem cz(h:Q .ret s:=by exact p'):cH K .ret s Q:=qr h
theorem bH{c:Code}(h:cH K c s (wY i (p7 (λa=>cH K y a Q) Q))):cH K (.seq (.block i c) y) s Q:=al (bd h)
theorem cO{c:Operand}{z:Code}(h:(bif b then A else B)=some r)(d:b=true->A=some r->cH K x s (p7 (λa=>cH K z a Q) Q))(e:b=false->B=some r->cH K y s (p7 (λa=>cH K z a Q) Q))(i:s.get c= .t (.bool b):=by kernel_rfl):cH K (.seq (.cond c x y) z) s Q:=al (aw h d e i)
theorem cC{a:(k->Option R)->k->Option R}{v:k}{c:Code}(h:bo a n v=some r)(I:k->Nat->S)(i:Nat)(l:s.le K (I v i))(e: ∀(d:k->Option R) (x:k) (g:Nat),a d x=some r->cH K c (I x g) (A' (λm=> ∃y o,d y=some r/\m.le K (I y o)) Q)):cH K (.loop c) s Q:=wF (γ:=Nat) h I i l e
theorem aj{f:R->Option H}{r:H}{P:Prop}(h:o.bind f=some r)(k: ∀x,o=some x->f x=some r->P):P:=by obtain⟨x,a,c⟩:=cR h;exact k x a c
theorem bI{γ:Type}{g:R->Option H}{f:R->H->Option γ}{r:γ}{P:Prop}(h:(o.bind λx=>(g x).bind (f x))=some r)(k: ∀x,o=some x-> ∀y,g x=some y->f x y=some r->P):P:=by obtain⟨x,a,y,c,d⟩:=gb h;exact k x a y c d
theorem cq{a c:Type}{g:R->Option H}{f:R->H->Option a}{e:R->H->a->Option c}{r:c}{P:Prop}(h:(o.bind λx=>(g x).bind λy=>(f x y).bind (e x y))=some r)(k: ∀x,o=some x-> ∀y,g x=some y-> ∀z,f x y=some z->e x y z=some r->P):P:=by obtain⟨x,d,y,i,z,l,m⟩:=lr h;exact k x d y i z l m
end
section
variable {K:Ctx} {C:dK}
def jM:Option (cP×List dd)->cP
 |some r=>r.1
 |none=>⟨[],[],[]⟩
def km(r:cP×List dd):Prop×List Nat×Bool:=(x4 r.2,u2 r.2,true)
def kn(a:Prop)(r:cP×List dd):Prop×List Nat×Bool:=(a,u3 r.2,true)
def fs(x:Option (cP×List dd))(n:Prop×List Nat×Bool)(f:cP×List dd->Prop×List Nat×Bool):Prop×List Nat×Bool:=match x with
 |some r=>f r
 |none=>n
variable {p:Prop}{i:Nat}{l:List Oper}{s:S}{Q:Exit->S->Prop}
theorem F8{x:Option (cP×List dd)}(c:p)(h:fs x (False,[],false) km=fs x (True,[],true) (kn p)): ∃a,x=some (jM x,a)/\ch a:=by
 cases x with
 |none=>simp[fs] at h
 |some r=>
  obtain⟨e,a⟩:=r;simp only[fs,km,kn,Prod.mk.injEq] at h;obtain⟨d,i,_⟩:=h;exact⟨a,rfl,ch.of (d▸c) i⟩
theorem CE(d:C.Fits K)(a:List ct)(c:p)
  (h:fs (iz C l.toArray l a s) (False,[],false) km=fs (iz C l.toArray l a s) (True,[],true) (kn p)) (e:Q .normal ((jM (iz C l.toArray l a s)).app s)):cH K (.region i l.toArray false) s Q:=by obtain⟨n,k,m⟩:=F8 c h;exact R5 _ (N5 d k m (XY (S.le.refl K _))) e
theorem afd(m:C.Fits K)(n:K.P.follows .mixedOrders=true)(c:List ct)(d:p)
  (h:fs (lx C l c s) (False,[],false) km=fs (lx C l c s) (True,[],true) (kn p)) (o:Q .normal ((jM (lx C l c s)).app s)):cH K (.region i l.toArray true) s Q:=by
 obtain⟨F,a,q⟩:=F8 d h;generalize jM (lx C l c s)=e at*;unfold lx at a;split at a
 ·cases a
 rename_i G r w x;split at a
 ·cases a
 rename_i y z A;split at a
 ·rename_i k;cases a;simp only[Bool.and_eq_true] at k;obtain⟨B,D⟩:=ch.app q;refine u4 (qM m x B) (NZ (s2:=_) (Md y n k.1 k.2 (Gg m A D ?_)) o);rw[nc];exact S.le.refl K _
 cases a
theorem B6(i:C.Fits K)(a:List ct)(d:p)
  (h:fs (gj C a s) (False,[],false) km=fs (gj C a s) (True,[],true) (kn p)):s.le K ((jM (gj C a s)).app s):=by
 obtain⟨m,c,k⟩:=F8 d h;generalize jM (gj C a s)=e at*;unfold gj at c;split at c
 ·rename_i l;cases c;exact qM i l k
 cases c
end
section
variable {K:Ctx} {C:dK}
variable {i:Nat}{l:List Oper}{s:S}{Q:Exit->S->Prop}{y c:Code}{p:Prop}
theorem ao(a:C.Fits K)(A:List f')(c:Q .normal ((jM (iz C l.toArray l (iM A) s)).app s))
  (h:fs (iz C l.toArray l (iM A) s) (False,[],false) km=fs (iz C l.toArray l (iM A) s) (True,[],true) (kn (pO A)):=by kernel_rfl):cH K (.region i l.toArray false) s Q:=CE a (iM A) (ri A) h c
theorem ad(a:C.Fits K)(A:List f')(c:cH K y ((jM (iz C l.toArray l (iM A) s)).app s) Q)
  (h:fs (iz C l.toArray l (iM A) s) (False,[],false) km=fs (iz C l.toArray l (iM A) s) (True,[],true) (kn (pO A)):=by kernel_rfl):cH K (.seq (.region i l.toArray false) y) s Q:=Av (CE a (iM A) (ri A) h c)
theorem bg(a:C.Fits K)(c:Q .normal ((jM (iz C l.toArray l [] s)).app s))
  (h:fs (iz C l.toArray l [] s) (False,[],false) km=fs (iz C l.toArray l [] s) (True,[],true) (kn True):=by kernel_rfl):cH K (.region i l.toArray false) s Q:=CE a [] trivial h c
theorem ah(a:C.Fits K)(c:cH K y ((jM (iz C l.toArray l [] s)).app s) Q)
  (h:fs (iz C l.toArray l [] s) (False,[],false) km=fs (iz C l.toArray l [] s) (True,[],true) (kn True):=by kernel_rfl):cH K (.seq (.region i l.toArray false) y) s Q:=Av (CE a [] trivial h c)
theorem bu(a:C.Fits K)(c:K.P.follows .mixedOrders=true)(A:List f')(d:Q .normal ((jM (lx C l (iM A) s)).app s))
  (h:fs (lx C l (iM A) s) (False,[],false) km=fs (lx C l (iM A) s) (True,[],true) (kn (pO A)):=by kernel_rfl):cH K (.region i l.toArray true) s Q:=afd a c (iM A) (ri A) h d
theorem jq(c:C.Fits K)(a:List ct)(h:fs (gj C a s) (False,[],false) km=fs (gj C a s) (True,[],true) (kn True):=by kernel_rfl):s.le K ((jM (gj C a s)).app s):=B6 c a trivial h
theorem mZ(d:C.Fits K)(a:List ct)(c:p)(h:fs (gj C a s) (False,[],false) km=fs (gj C a s) (True,[],true) (kn p):=by kernel_rfl):s.le K ((jM (gj C a s)).app s):=B6 d a c h
theorem bM(d:C.Fits K)(a:List ct)(k:cH K c ((jM (gj C a s)).app s) Q)(h:fs (gj C a s) (False,[],false) km=fs (gj C a s) (True,[],true) (kn True):=by kernel_rfl):cH K c s Q:=u4 (B6 d a trivial h) k
theorem c8(e:C.Fits K)(a:List ct)(d:p)(k:cH K c ((jM (gj C a s)).app s) Q)(h:fs (gj C a s) (False,[],false) km=fs (gj C a s) (True,[],true) (kn p):=by kernel_rfl):cH K c s Q:=u4 (B6 e a d h) k
theorem eh(c:C.Fits K)(a b:Nat)(k:Q .ret ((jM (gj C [.dq a b 0] s)).app s):=by exact p')
  (h:fs (gj C [.dq a b 0] s) (False,[],false) km=fs (gj C [.dq a b 0] s) (True,[],true) (kn True):=by kernel_rfl):cH K .ret s Q:=kz (jq c [.dq a b 0] h) (qr k)
end
def xU(s t:List UInt8):Option Bool:=if s.length<4294967281 then some (Lib.contains s t) else none
def jy(l:List Int):Option (List Int):=if l.length<=1000000000 then some l else none
def cmpL:List Int->List Int->Int
 | [],[]=>0
 | [],_::_=> -1
 |_::_,[]=>1
 |x::a,y::c=>if x<y then-1 else if y<x then 1 else cmpL a c
def fh(a:List (List Int)):List (List Int):=a.mergeSort λx y=> !decide (cmpL y x<0)
def mo(a:List (List Int)):Option (List (List Int)):=if a.length<=1000000000/\ ∀l∈a,l.length<=1000000000 then some (fh a) else none
def dY(a:Nat->Bool)(m:Nat):List Nat:=(List.range m).filter a
def kP(a:List (List Int))(j:Nat):Bool:=decide (j=0\/a.getD j []≠a.getD (j-1) [])
def gB(a:List (List Int)):List (List Int):=(dY (kP a) a.length).map λj=>a.getD j []
def Cj:List Int->List Int->Nat
 |_,[]=>0
 |seen,c::t=>(if c∈seen then 0 else 1)+Cj (c::seen) t
end Go.Lift
