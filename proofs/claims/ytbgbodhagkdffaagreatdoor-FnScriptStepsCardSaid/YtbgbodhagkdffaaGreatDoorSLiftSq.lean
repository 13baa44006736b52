/- Tools. -/
import Derived.Test.YtbgbodhagkdffaaGreatDoorSLiftWW
import Derived.Lib.AtoiAll
import Derived.Lib.ItoaNum
import Derived.Lib.Split
set_option linter.unusedVariables false
namespace Go.Lift
open Go
open Go renaming ResultVar -> kC
open Option renaming some -> Y
open Bool renaming true -> I, false -> ao
open List renaming replicate -> en, length -> U
section
variable {K:Ctx}{C:e8}{P:Program}{G:gC}{df:List (Nat×eC)}
inductive gG where
 |o (h:dq) (p:Prop) (k:p)
 |z (h:dq)
 |q (p:Prop) (k:p)
def kT:List gG->List dq
 | []=>[]
 | .o h _ _::l=>h::kT l
 | .z h::l=>h::kT l
 | .q _ _::l=>kT l
def sw:List gG->Prop
 | []=>True
 | .o _ p _::l=>p/\sw l
 | .z _::l=>sw l
 | .q p _::l=>p/\sw l
theorem uN: ∀l,sw l
 | []=>trivial
 | .o _ _ k::l=>⟨k,uN l⟩
 | .z _::l=>uN l
 | .q _ k::l=>⟨k,uN l⟩
def aV{c:Bool}(k:c=I):gG:= .o (.b I) _ k
def aH{c:Bool}(k:c=ao):gG:= .o (.b ao) _ k
def e4:gG:=aV (Eq.refl I)
def cH:gG:=aH (Eq.refl ao)
def aX{k:Type}(r:k->List T)(l:List k):gG:= .o (.nat (U l)) _ (PC r l)
def aw{P:Program}{G:gC}{f:FuncId}{a:List V}{r:V}(k:gT P G f a r):gG:= .o (.v r) _ k
def be(L N:List Nat){P:Program}{G:gC}{f:FuncId}{i:List E}{a:List V}{r:V}{u:List E}(k:kF P G f i a r u):gG:= .o (.eZ L N r u) _ k
def bp{k:Type}{l:List k}{i:Int}{x:k}(f:k->List T)(h:aC l i=Y x):gG:= .o (.row (f x)) _ (UT f h)
def bJ{k:Type}{l:List k}{i:Int}{x:k}(f:k->List T)(h:aC l i=Y x):gG:= .o (.row (f x)) _ (cX f h)
def c8{o:Option (List UInt8)}{x:List UInt8}(h:o=Y x):gG:= .o (.str x) _ h
def gr{o:Option UInt8}{x:UInt8}(h:o=Y x):gG:= .o (.y x) _ h
def cy{o:Option (List (List T))}{x:List (List T)}(h:o=Y x):gG:= .o (.rows x) _ h
def aE{p:Prop}(k:p):gG:= .q p k
def aT(n:Nat){c:Bool}(k:c=I):List gG:=en n (aV k)
def aM(n:Nat){c:Bool}(k:c=ao):List gG:=en n (aH k)
def eJ(n:Nat):List gG:=en n e4
def fg(n:Nat):List gG:=en n cH
variable {i n:Nat}{l a d c e p h m:Prop}{s:S}{Q:Exit->S->Prop}{k R H:Type}{r:R}{x y:Code}{o A B:Option R}{g:k->Option R}{f:k->R->Option H}{b:Bool}
theorem dk{l:List Oper}(k:C.Fits K)(m:K.P.follows .mixedOrders=I)(A:List gG)(d:List Nat)(a:List (Nat×V))(c:List (Nat×Option E))(e:List (Nat×Bool))(n:Q .normal (s.cl d a c e))
  (h:oX (oh C l (kT A) s) ye (yg s d a c)=oX (oh C l (kT A) s) yf (yh (sw A) a c e):=by kernel_rfl):dH K (.region i l.toArray I) s Q:=rd k m (kT A) d a c e (uN A) h n
theorem bG{a:k->Option R}{t:(k->Option R)->Option R}(h:bl a t=Y r)(c:k->S)
  (d: ∀j:k->Option R,t j=Y r->dH K x s (s0 (λl=> ∃z,j z=Y r/\l.le K (c z)) Q)) (i: ∀z,a z=Y r->dH K y (c z) Q):dH K (.seq x y) s Q:=
 jM (γ:=Unit) (j:=a) (r:=r) (λz _=>c z) (Ad (d a h) (λe m q=>by
  cases e with
  |normal=>obtain⟨z,d,i⟩:=q;exact⟨z,(),d,i⟩
  |exit=>exact q
  |goto=>exact q
  |ret=>exact q
  |panic=>exact q
  |outgrown=>exact q)) λz _ h=>i z h
theorem c7{a:(k->Option R)->k->Option R}{d:k}{c:Code}(h:bH a n d=Y r)(m:k->S)(w:s.le K (m d))
  (l: ∀(i:k->Option R) (x:k),a i x=Y r->dH K c (m x) (Gk (λo=> ∃y,i y=Y r/\o.le K (m y)) Q)):dH K (.loop c) s Q:=
 u1 (γ:=Unit) h (λz _=>m z) () w (λi x _ A=>Ad (l i x A) (λe o q=>by
  cases e with
  |normal=>obtain⟨z,B,F⟩:=q;exact⟨z,(),B,F⟩
  |exit=>exact q
  |goto=>exact q
  |ret=>exact q
  |panic=>exact q
  |outgrown=>exact q))
theorem au{z:H}{j:H->Option R}{a:H->List (Nat×V)}{c:H->List (Nat×E)}{d:H->List Nat}(h:j z=Y r)(k:Gz K.e5 s (a z) (c z) (d z)=(mE (a z),mE (qm (c z)),I):=by kernel_rfl): ∃z,j z=Y r/\s.le K (bj (a z) (c z) (d z)):=⟨z,h,W4 k⟩
theorem hz{o:Option k}{r:H}(h:(o.bind λx=>(g x).bind (f x))=Y r): ∃x,o=Y x/\ ∃y,g x=Y y/\f x y=Y r:=by
 obtain⟨x,a,h⟩:=dE h;obtain⟨y,c,h⟩:=dE h
 grind
theorem ls{a:Type}{o:Option k}{e:k->R->H->Option a}{r:a}(h:(o.bind λx=>(g x).bind λy=>(f x y).bind (e x y))=Y r): ∃x,o=Y x/\ ∃y,g x=Y y/\ ∃z,f x y=Y z/\e x y z=Y r:=by
 obtain⟨x,c,h⟩:=dE h;obtain⟨y,d,z,i,h⟩:=hz h
 grind
theorem bC{f:FuncId}{d:Func}{c:Code}{args:List V}{r:V}{a:List kC}(k:fm P df)(l:P.funcs[f]? =Y d)(e:(d.name== "runtime.NumGoroutine",d.body,d.results.toList,d.ntmps,Nat.ble (U args) i,r.ok iO,Nat.ble (U a) 4)=(ao,Y c,a,i,I,I,I))
  (h: ∀w X,e8.Fits ⟨P,G,df,i,0,ha⟩ (Ctx.pure P G w X i)->dH (Ctx.pure P G w X i) c (start args) (Py df a r)):gT P G f args r:=by simp only[Prod.mk.injEq] at e;exact Xb k l e.1 e.2.1 e.2.2.1 e.2.2.2.1 e.2.2.2.2.1 e.2.2.2.2.2.1 e.2.2.2.2.2.2 h
theorem dd{f:FuncId}{d:Func}{c:Code}{a out:List E}{args:List V}{r:V}{e:List kC}(m:fm P df)(o:P.funcs[f]? =Y d)(k:(d.name== "runtime.NumGoroutine",d.body,d.results.toList,d.ntmps,U a,Nat.ble (U args) i,Nat.ble n (U out),Nat.ble (U e) 4)=(ao,Y c,e,i,n,I,I,I))
  (h: ∀w X l,e8.Fits ⟨P,G,df,i,n,l⟩ (Ctx.eZ P G w X n l i)->xH l a 0->dH (Ctx.eZ P G w X n l i) c (p4 a args) (Px df e r out)):kF P G f a args r out:=by simp only[Prod.mk.injEq] at k;exact ane m o k.1 k.2.1 k.2.2.1 k.2.2.2.1 k.2.2.2.2.1 k.2.2.2.2.2.1 k.2.2.2.2.2.2.1 k.2.2.2.2.2.2.2 h
theorem fT(k:C.Fits K)(d:List dq)(e:List Nat)(a:List (Nat×V))(c:List (Nat×Option E))(i:List (Nat×Bool))
  (h:oX (iL C d s) ye (yg s e a c)=oX (iL C d s) yf (yh True a c i):=by kernel_rfl):s.le K (s.cl e a c i):=aoH k d e a c i h
theorem aY{a:List (Nat×V)}{c:List (Nat×E)}{r:List Nat}(h:Gz K.e5 s a c r=(mE a,mE (qm c),I):=by kernel_rfl):s.le K (bj a c r):=W4 h
theorem eZ{c:Operand}(a:b=I->dH K x s Q)(d:b=ao->dH K y s Q)(e:s.get c= .t (.bool b):=by kernel_rfl):dH K (.cond c x y) s Q:=d4 e a d
theorem aD{c:Operand}(h:(bif b then A else B)=Y r)(a:b=I->A=Y r->dH K x s Q)(d:b=ao->B=Y r->dH K y s Q)(i:s.get c= .t (.bool b):=by kernel_rfl):dH K (.cond c x y) s Q:=
 d4 i (λe=>a e (j3 e h)) λe=>d e (j2 e h)
theorem bb{P:Prop}(h:(bif b then A else B)=Y r)(a:b=ao->B=Y r->P)(c:b=I->A=Y r->P):P:=l6 b (λe=>a e (j2 e h)) λe=>c e (j3 e h)
theorem og{e:List kC}{r:V}{a:List E}(h:(Bl r (kE df s e),xz s a 0,r.ok (gI (U a))&&xS (gI (U a)) a)=(Y r,xv a,I):=by kernel_rfl):
  ∃c,kE df s e=Y c/\eP (qo c) r/\r.ok (gI (U a))=I/\nY s.H (gI (U a)) (gx a 0):=YS h
theorem aoz{a:List kC}{r:V}(h:Bl r (kE df s a)=Y r:=by kernel_rfl): ∃c,kE df s a=Y c/\eP (qo c) r:=PE h
theorem a0:True:=trivial
theorem aW(a:p):p/\True:=⟨a,trivial⟩
theorem a2{E:Prop}(a:p)(c:E):p/\E/\True:=⟨a,c,trivial⟩
theorem a3{E:Prop}(c:p)(d:E)(e:a):p/\E/\a/\True:=⟨c,d,e,trivial⟩
theorem a4{E:Prop}(d:p)(e:E)(h:a)(i:c):p/\E/\a/\c/\True:=⟨d,e,h,i,trivial⟩
theorem a5{E:Prop}(e:p)(h:E)(i:a)(k:c)(l:d):p/\E/\a/\c/\d/\True:=⟨e,h,i,k,l,trivial⟩
theorem kX{E:Prop}(h:p)(i:E)(k:a)(l:c)(m:d)(n:e):p/\E/\a/\c/\d/\e/\True:=⟨h,i,k,l,m,n,trivial⟩
theorem ko{E:Prop}(i:p)(k:E)(l:a)(m:c)(n:d)(o:e)(q:h):p/\E/\a/\c/\d/\e/\h/\True:=⟨i,k,l,m,n,o,q,trivial⟩
theorem gY{E i:Prop}(k:p)(l:E)(m:a)(n:c)(o:d)(q:e)(r:h)(w:i):p/\E/\a/\c/\d/\e/\h/\i/\True:=⟨k,l,m,n,o,q,r,w,trivial⟩
theorem a9{E i k:Prop}(l:p)(m:E)(n:a)(o:c)(q:d)(r:e)(w:h)(x:i)(y:k):p/\E/\a/\c/\d/\e/\h/\i/\k/\True:=⟨l,m,n,o,q,r,w,x,y,trivial⟩
theorem Ps{E i k:Prop}(n:E)(o:a)(q:c)(r:d)(w:e)(x:h)(y:i)(z:k)(A:l)(m:p):E/\a/\c/\d/\e/\h/\i/\k/\l/\p/\True:=⟨n,o,q,r,w,x,y,z,A,m,trivial⟩
theorem Yt{i k E:Prop}(q:a)(r:c)(w:d)(x:e)(y:h)(z:i)(A:k)(B:l)(F:m)(n:p)(o:E):a/\c/\d/\e/\h/\i/\k/\l/\m/\p/\E/\True:=⟨q,r,w,x,y,z,A,B,F,n,o,trivial⟩
theorem a12{i k n E:Prop}(w:c)(x:d)(y:e)(z:h)(A:i)(B:k)(F:l)(H:m)(L:n)(o:p)(q:E)(r:a):c/\d/\e/\h/\i/\k/\l/\m/\n/\p/\E/\a/\True:=⟨w,x,y,z,A,B,F,H,L,o,q,r,trivial⟩
def MR:Nat->Nat->List Nat
 |_,0=>[]
 |a,n+1=>a::MR (a+1) n
abbrev mj(l:List V):Option E:=Y (E.cells l)
theorem ax(h:dH K x s (s0 (λa=>dH K y a Q) Q)):dH K (.seq x y) s Q:=FL h
theorem bz{c:Code}(h:dH K c s (Bf i Q)):dH K (.block i c) s Q:=aeD h
theorem aB(h:Q .normal s):dH K .skip s Q:=aeV h
theorem qr(h:Q .ret s):dH K .ret s Q:=ag7 h
theorem bL(h:Q (.exit i) s):dH K (.exit i) s Q:=aeX h
theorem hX{c:Code}{a:S}(d:s.le K a)(h:dH K c a Q):dH K c s Q:=zi d h
abbrev cg(a:List (Nat×V)):S:=bj a [] []
abbrev bd:V:=V.t T.hd
abbrev Ow(p:Prop)[Decidable p]:V:=aP (decide p)
def b5{R:Type}{r:R->List T}(n:Nat)(k: ∀a,U (r a)=n)(l:List R):gG:=aE (iR (r:=r) n k l)
def et(l:List Int):gG:=b5 (r:=an) 1 (λ_=>rfl) l
theorem aF(h:Q .ret s:=by exact aoz):dH K .ret s Q:=qr h
theorem cQ(h:Q .ret s:=by exact og):dH K .ret s Q:=qr h
theorem b3{c:Code}(h:dH K c s (Bf i (s0 (λa=>dH K y a Q) Q))):dH K (.seq (.block i c) y) s Q:=ax (bz h)
theorem dA{c:Operand}{z:Code}(h:(bif b then A else B)=Y r)(d:b=I->A=Y r->dH K x s (s0 (λa=>dH K z a Q) Q))(e:b=ao->B=Y r->dH K y s (s0 (λa=>dH K z a Q) Q))(i:s.get c= .t (.bool b):=by kernel_rfl):dH K (.seq (.cond c x y) z) s Q:=ax (aD h d e i)
theorem dC{a:(k->Option R)->k->Option R}{v:k}{c:Code}(h:bH a n v=Y r)(i:k->Nat->S)(l:Nat)(m:s.le K (i v l))(e: ∀(d:k->Option R) (x:k) (g:Nat),a d x=Y r->dH K c (i x g) (Gk (λo=> ∃y q,d y=Y r/\o.le K (i y q)) Q)):dH K (.loop c) s Q:=u1 (γ:=Nat) h i l m e
theorem ar{f:R->Option H}{r:H}{P:Prop}(h:o.bind f=Y r)(k: ∀x,o=Y x->f x=Y r->P):P:=by obtain⟨x,a,c⟩:=dE h;exact k x a c
theorem b6{γ:Type}{g:R->Option H}{f:R->H->Option γ}{r:γ}{P:Prop}(h:(o.bind λx=>(g x).bind (f x))=Y r)(k: ∀x,o=Y x-> ∀y,g x=Y y->f x y=Y r->P):P:=by obtain⟨x,a,y,c,d⟩:=hz h;exact k x a y c d
theorem cU{a c:Type}{g:R->Option H}{f:R->H->Option a}{e:R->H->a->Option c}{r:c}{P:Prop}(h:(o.bind λx=>(g x).bind λy=>(f x y).bind (e x y))=Y r)(k: ∀x,o=Y x-> ∀y,g x=Y y-> ∀z,f x y=Y z->e x y z=Y r->P):P:=by obtain⟨x,d,y,i,z,l,m⟩:=ls h;exact k x d y i z l m
abbrev aG(k:Nat):gG:=.z (.nat k)
abbrev bN:gG:=.z (.b I)
abbrev ano:gG:=.z (.b ao)
abbrev b1(k:Int):gG:=.z (.int k)
abbrev cd(k:Nat):gG:=.z (.at k)
abbrev cu(k:Nat)(l m:List Nat):gG:=.z (.dP k l m)
abbrev XN(k:Nat):gG:=.z (.ej k)
abbrev iv(k l:Nat):gG:=.z (.len k l)
abbrev oS(k l m:Nat):gG:=.z (.hV k l m)
abbrev a1(l:List V):E:=.cells l
abbrev aQ(k:Nat):V:=.ref k 0
abbrev fD(l:List V):V:=.agg l
abbrev dK(l:List V):V:=.dB l
end
section
variable {K:Ctx}{C:e8}
def lW:Option (dY×List eM)->dY
 |some r=>r.1
 |none=>⟨[],[],[]⟩
def mJ(r:dY×List eM):Prop×List Nat×Bool:=(CD r.2,zc r.2,I)
def mK(a:Prop)(r:dY×List eM):Prop×List Nat×Bool:=(a,zd r.2,I)
def hF(x:Option (dY×List eM))(n:Prop×List Nat×Bool)(f:dY×List eM->Prop×List Nat×Bool):Prop×List Nat×Bool:=match x with
 |some r=>f r
 |none=>n
variable {p:Prop}{i:Nat}{l:List Oper}{s:S}{Q:Exit->S->Prop}
theorem Mc{x:Option (dY×List eM)}(c:p)(h:hF x (False,[],ao) mJ=hF x (True,[],I) (mK p)): ∃a,x=Y (lW x,a)/\dw a:=by
 cases x with
 |none=>simp[hF] at h
 |some r=>
  obtain⟨e,a⟩:=r;simp only[hF,mJ,mK,Prod.mk.injEq] at h;obtain⟨d,i,_⟩:=h;exact⟨a,rfl,dw.of (d▸c) i⟩
theorem HI(d:C.Fits K)(a:List dq)(c:p)
  (h:hF (kH C l.toArray l a s) (False,[],ao) mJ=hF (kH C l.toArray l a s) (True,[],I) (mK p)) (e:Q .normal ((lW (kH C l.toArray l a s)).app s)):dH K (.region i l.toArray ao) s Q:=by obtain⟨n,k,m⟩:=Mc c h;exact ZF _ (U8 d k m (SU (S.le.refl K _))) e
theorem amU(m:C.Fits K)(n:K.P.follows .mixedOrders=I)(c:List dq)(d:p)
  (h:hF (oh C l c s) (False,[],ao) mJ=hF (oh C l c s) (True,[],I) (mK p)) (o:Q .normal ((lW (oh C l c s)).app s)):dH K (.region i l.toArray I) s Q:=by
 obtain⟨G,a,q⟩:=Mc d h;generalize lW (oh C l c s)=e at*;unfold oh at a;split at a
 ·cases a
 rename_i H r w x;split at a
 ·cases a
 rename_i y z A;split at a
 ·rename_i k;cases a;simp only[Bool.and_eq_true] at k;obtain⟨B,F⟩:=dw.app q;refine zi (uu m x B) (UQ (s2:=_) (SS y n k.1 k.2 (L7 m A F ?_)) o);rw[qH];exact S.le.refl K _
 cases a
theorem G6(i:C.Fits K)(a:List dq)(d:p)
  (h:hF (iL C a s) (False,[],ao) mJ=hF (iL C a s) (True,[],I) (mK p)):s.le K ((lW (iL C a s)).app s):=by
 obtain⟨m,c,k⟩:=Mc d h;generalize lW (iL C a s)=e at*;unfold iL at c;split at c
 ·rename_i l;cases c;exact uu i l k
 cases c
end
section
variable {K:Ctx}{C:e8}
variable {i:Nat}{l:List Oper}{s:S}{Q:Exit->S->Prop}{y c:Code}{p:Prop}
theorem ay(a:C.Fits K)(A:List gG)(c:Q .normal ((lW (kH C l.toArray l (kT A) s)).app s))
  (h:hF (kH C l.toArray l (kT A) s) (False,[],ao) mJ=hF (kH C l.toArray l (kT A) s) (True,[],I) (mK (sw A)):=by kernel_rfl):dH K (.region i l.toArray ao) s Q:=HI a (kT A) (uN A) h c
theorem ai(a:C.Fits K)(A:List gG)(c:dH K y ((lW (kH C l.toArray l (kT A) s)).app s) Q)
  (h:hF (kH C l.toArray l (kT A) s) (False,[],ao) mJ=hF (kH C l.toArray l (kT A) s) (True,[],I) (mK (sw A)):=by kernel_rfl):dH K (.seq (.region i l.toArray ao) y) s Q:=FL (HI a (kT A) (uN A) h c)
theorem bA(a:C.Fits K)(c:Q .normal ((lW (kH C l.toArray l [] s)).app s))
  (h:hF (kH C l.toArray l [] s) (False,[],ao) mJ=hF (kH C l.toArray l [] s) (True,[],I) (mK True):=by kernel_rfl):dH K (.region i l.toArray ao) s Q:=HI a [] trivial h c
theorem aj(a:C.Fits K)(c:dH K y ((lW (kH C l.toArray l [] s)).app s) Q)
  (h:hF (kH C l.toArray l [] s) (False,[],ao) mJ=hF (kH C l.toArray l [] s) (True,[],I) (mK True):=by kernel_rfl):dH K (.seq (.region i l.toArray ao) y) s Q:=FL (HI a [] trivial h c)
theorem bQ(a:C.Fits K)(c:K.P.follows .mixedOrders=I)(A:List gG)(d:Q .normal ((lW (oh C l (kT A) s)).app s))
  (h:hF (oh C l (kT A) s) (False,[],ao) mJ=hF (oh C l (kT A) s) (True,[],I) (mK (sw A)):=by kernel_rfl):dH K (.region i l.toArray I) s Q:=amU a c (kT A) (uN A) h d
theorem lv(c:C.Fits K)(a:List dq)(h:hF (iL C a s) (False,[],ao) mJ=hF (iL C a s) (True,[],I) (mK True):=by kernel_rfl):s.le K ((lW (iL C a s)).app s):=G6 c a trivial h
theorem pL(d:C.Fits K)(a:List dq)(c:p)(h:hF (iL C a s) (False,[],ao) mJ=hF (iL C a s) (True,[],I) (mK p):=by kernel_rfl):s.le K ((lW (iL C a s)).app s):=G6 d a c h
theorem cn(d:C.Fits K)(a:List dq)(k:dH K c ((lW (iL C a s)).app s) Q)(h:hF (iL C a s) (False,[],ao) mJ=hF (iL C a s) (True,[],I) (mK True):=by kernel_rfl):dH K c s Q:=zi (G6 d a trivial h) k
theorem ec(e:C.Fits K)(a:List dq)(d:p)(k:dH K c ((lW (iL C a s)).app s) Q)(h:hF (iL C a s) (False,[],ao) mJ=hF (iL C a s) (True,[],I) (mK p):=by kernel_rfl):dH K c s Q:=zi (G6 e a d h) k
theorem fX(c:C.Fits K)(a b:Nat)(k:Q .ret ((lW (iL C [.eY b 0 [a] []] s)).app s):=by exact og)
  (h:hF (iL C [.eY b 0 [a] []] s) (False,[],ao) mJ=hF (iL C [.eY b 0 [a] []] s) (True,[],I) (mK True):=by kernel_rfl):dH K .ret s Q:=hX (lv c [.eY b 0 [a] []] h) (qr k)
end
def oC(n:Int):Option (List UInt8):=if-9223372036854775808<=n/\n<=9223372036854775807 then Y (Lib.itoa n) else none
def nC(s:List UInt8):Option (Int×Bool):=if U s<=281474976710656 then Y (match Lib.atoiAll s with
 | .ok v=>(v,ao)
 | .range=>(Lib.atoiSat s,I)
 |_=>(0,I)) else none
def ma(s t:List UInt8):Option (List (List UInt8)):=if U s<4294967281/\1<=U t then Y (Lib.split s t) else none
def Cr(s t:List UInt8):Option Bool:=if U s<4294967281 then Y (Lib.contains s t) else none
def lE(l:List Int):Option (List Int):=if U l<=1000000000 then Y l else none
def cmpL:List Int->List Int->Int
 | [],[]=>0
 | [],_::_=> -1
 |_::_,[]=>1
 |x::a,y::c=>if x<y then-1 else if y<x then 1 else cmpL a c
def j7(a:List (List Int)):List (List Int):=a.mergeSort λx y=> !decide (cmpL y x<0)
def rU(a:List (List Int)):Option (List (List Int)):=if U a<=1000000000/\ ∀l∈a,U l<=1000000000 then Y (j7 a) else none
def fp(a:Nat->Bool)(m:Nat):List Nat:=(List.range m).filter a
def nv(a:List (List Int))(j:Nat):Bool:=decide (j=0\/a.getD j []≠a.getD (j-1) [])
def i'(a:List (List Int)):List (List Int):=(fp (nv a) (U a)).map λj=>a.getD j []
def Hk:List Int->List Int->Nat
 |_,[]=>0
 |seen,c::t=>(if c∈seen then 0 else 1)+Hk (c::seen) t
end Go.Lift
