/- Tools. -/
import Derived.Test.YteifkndfpnkalaaGreatELiftY
import Derived.Lib.AtoiAll
import Derived.Lib.ItoaNum
import Derived.Lib.Split
set_option linter.unusedVariables false
namespace Go.Lift
open Go
open Option renaming some -> aa
open Bool renaming true -> ab, false -> ak
open List renaming replicate -> dA
section
variable {K:Ctx}{C:eb}{P:Program}{G:fL}{cn:List (Nat×cv)}
inductive hc where
 |o (h:cB) (p:Prop) (k:p)
 |z (h:cB)
 |q (p:Prop) (k:p)
def jU:List hc->List cB
 | []=>[]
 | .o h _ _::l=>h::jU l
 | .z h::l=>h::jU l
 | .q _ _::l=>jU l
def rh:List hc->Prop
 | []=>True
 | .o _ p _::l=>p/\rh l
 | .z _::l=>rh l
 | .q p _::l=>p/\rh l
theorem sF: ∀l,rh l
 | []=>trivial
 | .o _ _ k::l=>⟨k,sF l⟩
 | .z _::l=>sF l
 | .q _ k::l=>⟨k,sF l⟩
def aJ{c:Bool}(k:c=ab):hc:= .o (.b ab) _ k
def aF{c:Bool}(k:c=ak):hc:= .o (.b ak) _ k
def ev:hc:=aJ (Eq.refl ab)
def b2:hc:=aF (Eq.refl ak)
def aM{k:Type}(r:k->List T)(l:List k):hc:= .o (.nat l.length) _ (RT r l)
def ao{P:Program}{G:fL}{f:FuncId}{a:List V}{r:V}(k:lR P G f a r):hc:= .o (.v r) _ k
def aY(L N:List Nat){P:Program}{G:fL}{f:FuncId}{i:List E}{a:List V}{r:V}{u:List E}(k:jW P G f i a r u):hc:= .o (.dR L N r u) _ k
def a'{k:Type}{l:List k}{i:Int}{x:k}(f:k->List T)(h:ax l i=aa x):hc:= .o (.row (f x)) _ (Q2 f h)
def bn{k:Type}{l:List k}{i:Int}{x:k}(f:k->List T)(h:ax l i=aa x):hc:= .o (.row (f x)) _ (ch f h)
def ee{o:Option (List UInt8)}{x:List UInt8}(h:o=aa x):hc:= .o (.str x) _ h
def gp{o:Option UInt8}{x:UInt8}(h:o=aa x):hc:= .o (.y x) _ h
def bZ{o:Option (List (List T))}{x:List (List T)}(h:o=aa x):hc:= .o (.rows x) _ h
def aB{p:Prop}(k:p):hc:= .q p k
def aK(n:Nat){c:Bool}(k:c=ab):List hc:=dA n (aJ k)
def aI(n:Nat){c:Bool}(k:c=ak):List hc:=dA n (aF k)
def dX(n:Nat):List hc:=dA n ev
def eg(n:Nat):List hc:=dA n b2
variable {i n:Nat}{l a d c e p h:Prop}{s:S}{Q:Exit->S->Prop}{k R H:Type}{r:R}{x y:Code}{o A B:Option R}{g:k->Option R}{f:k->R->Option H}{args:List V}{b:Bool}
theorem dk{l:List Oper}(k:C.Fits K)(m:K.P.follows .mixedOrders=ab)(A:List hc)(d:List Nat)(a:List (Nat×V))(c:List (Nat×Option E))(e:List (Nat×Bool))(n:Q .normal (s.cl d a c e))
  (h:nk (mA C l (jU A) s) vA (vC s d a c)=nk (mA C l (jU A) s) vB (vD (rh A) a c e):=by kernel_rfl):cU K (.region i l.toArray ab) s Q:=rd k m (jU A) d a c e (sF A) h n
theorem bo{a:k->Option R}{t:(k->Option R)->Option R}(h:aD a t=aa r)(c:k->S)
  (d: ∀j:k->Option R,t j=aa r->cU K x s (rA (λl=> ∃z,j z=aa r/\l.le K (c z)) Q)) (i: ∀z,a z=aa r->cU K y (c z) Q):cU K (.seq x y) s Q:=
 ix (γ:=Unit) (j:=a) (r:=r) (λz _=>c z) (xz (d a h) (λe m q=>by
  cases e with
  |normal=>obtain⟨z,d,i⟩:=q;exact⟨z,(),d,i⟩
  |exit=>exact q
  |goto=>exact q
  |ret=>exact q
  |panic=>exact q
  |outgrown=>exact q)) λz _ h=>i z h
theorem cr{a:(k->Option R)->k->Option R}{d:k}{c:Code}(h:bm a n d=aa r)(m:k->S)(p:s.le K (m d))
  (l: ∀(i:k->Option R) (x:k),a i x=aa r->cU K c (m x) (C3 (λo=> ∃y,i y=aa r/\o.le K (m y)) Q)):cU K (.loop c) s Q:=
 x' (γ:=Unit) h (λz _=>m z) () p (λi x _ w=>xz (l i x w) (λe o q=>by
  cases e with
  |normal=>obtain⟨z,A,B⟩:=q;exact⟨z,(),A,B⟩
  |exit=>exact q
  |goto=>exact q
  |ret=>exact q
  |panic=>exact q
  |outgrown=>exact q))
theorem an{z:H}{j:H->Option R}{a:H->List (Nat×V)}{c:H->List (Nat×E)}{d:H->List Nat}(h:j z=aa r)(k:Dd K.dV s (a z) (c z) (d z)=(lf (a z),lf (oX (c z)),ab):=by kernel_rfl): ∃z,j z=aa r/\s.le K (a6 (a z) (c z) (d z)):=⟨z,h,Tj k⟩
theorem gE{o:Option k}{r:H}(h:(o.bind λx=>(g x).bind (f x))=aa r): ∃x,o=aa x/\ ∃y,g x=aa y/\f x y=aa r:=by
 obtain⟨x,a,h⟩:=c5 h;obtain⟨y,c,h⟩:=c5 h
 grind
theorem lS{a:Type}{o:Option k}{e:k->R->H->Option a}{r:a}(h:(o.bind λx=>(g x).bind λy=>(f x y).bind (e x y))=aa r): ∃x,o=aa x/\ ∃y,g x=aa y/\ ∃z,f x y=aa z/\e x y z=aa r:=by
 obtain⟨x,c,h⟩:=c5 h;obtain⟨y,d,z,i,h⟩:=gE h
 grind
theorem bj{f:FuncId}{d:Func}{c:Code}{r:V}{a:List ResultVar}(k:ek P cn)(l:P.funcs[f]? =aa d)(e:(d.name== "runtime.NumGoroutine",d.body,d.results.toList,d.ntmps,Nat.ble args.length i,r.ok hh,Nat.ble a.length 4)=(ak,aa c,a,i,ab,ab,ab))
  (h: ∀w X,eb.Fits ⟨P,G,cn,i,0,ia⟩ (Ctx.pure P G w X i)->cU (Ctx.pure P G w X i) c (start args) (L6 cn a r)):lR P G f args r:=by simp only[Prod.mk.injEq] at e;exact Tp k l e.1 e.2.1 e.2.2.1 e.2.2.2.1 e.2.2.2.2.1 e.2.2.2.2.2.1 e.2.2.2.2.2.2 h
theorem cC{f:FuncId}{d:Func}{c:Code}{a out:List E}{r:V}{e:List ResultVar}(m:ek P cn)(o:P.funcs[f]? =aa d)(k:(d.name== "runtime.NumGoroutine",d.body,d.results.toList,d.ntmps,a.length,Nat.ble args.length i,Nat.ble n out.length,Nat.ble e.length 4)=(ak,aa c,e,i,n,ab,ab,ab))
  (h: ∀w X l,eb.Fits ⟨P,G,cn,i,n,l⟩ (Ctx.dR P G w X n l i)->u5 l a 0->cU (Ctx.dR P G w X n l i) c (mT a args) (L5 cn e r out)):jW P G f a args r out:=by simp only[Prod.mk.injEq] at k;exact akf m o k.1 k.2.1 k.2.2.1 k.2.2.2.1 k.2.2.2.2.1 k.2.2.2.2.2.1 k.2.2.2.2.2.2.1 k.2.2.2.2.2.2.2 h
theorem eZ(k:C.Fits K)(d:List cB)(e:List Nat)(a:List (Nat×V))(c:List (Nat×Option E))(i:List (Nat×Bool))
  (h:nk (hg C d s) vA (vC s e a c)=nk (hg C d s) vB (vD True a c i):=by kernel_rfl):s.le K (s.cl e a c i):=alJ k d e a c i h
theorem aO{a:List (Nat×V)}{c:List (Nat×E)}{r:List Nat}(h:Dd K.dV s a c r=(lf a,lf (oX c),ab):=by kernel_rfl):s.le K (a6 a c r):=Tj h
theorem dR{c:Operand}(a:b=ab->cU K x s Q)(d:b=ak->cU K y s Q)(e:s.get c= .t (.bool b):=by kernel_rfl):cU K (.cond c x y) s Q:=kT e a d
theorem aA{c:Operand}(h:(bif b then A else B)=aa r)(a:b=ab->A=aa r->cU K x s Q)(d:b=ak->B=aa r->cU K y s Q)(i:s.get c= .t (.bool b):=by kernel_rfl):cU K (.cond c x y) s Q:=
 kT i (λe=>a e (iO e h)) λe=>d e (iN e h)
theorem a1{P:Prop}(h:(bif b then A else B)=aa r)(a:b=ak->B=aa r->P)(c:b=ab->A=aa r->P):P:=kW b (λe=>a e (iN e h)) λe=>c e (iO e h)
theorem qd{e:List ResultVar}{r:V}{a:List E}(h:(yA r (jz cn s e),u7 s a 0,r.ok (fA a.length)&&vl (fA a.length) a)=(aa r,u1 a,ab):=by kernel_rfl):
  ∃c,jz cn s e=aa c/\dN (oY c) r/\r.ok (fA a.length)=ab/\mn s.H (fA a.length) (ft a 0):=UP h
theorem aly{a:List ResultVar}{r:V}(h:yA r (jz cn s a)=aa r:=by kernel_rfl): ∃c,jz cn s a=aa c/\dN (oY c) r:=L1 h
theorem a0:True:=trivial
theorem aN(a:p):p/\True:=⟨a,trivial⟩
theorem a2{E:Prop}(a:p)(c:E):p/\E/\True:=⟨a,c,trivial⟩
theorem a3{E:Prop}(c:p)(d:E)(e:a):p/\E/\a/\True:=⟨c,d,e,trivial⟩
theorem a4{E:Prop}(d:p)(e:E)(h:a)(i:c):p/\E/\a/\c/\True:=⟨d,e,h,i,trivial⟩
theorem a5{E:Prop}(e:p)(h:E)(i:a)(k:c)(l:d):p/\E/\a/\c/\d/\True:=⟨e,h,i,k,l,trivial⟩
theorem kj{E:Prop}(h:p)(i:E)(k:a)(l:c)(m:d)(n:e):p/\E/\a/\c/\d/\e/\True:=⟨h,i,k,l,m,n,trivial⟩
theorem jC{E:Prop}(i:p)(k:E)(l:a)(m:c)(n:d)(o:e)(q:h):p/\E/\a/\c/\d/\e/\h/\True:=⟨i,k,l,m,n,o,q,trivial⟩
theorem fV{E i:Prop}(k:p)(l:E)(m:a)(n:c)(o:d)(q:e)(r:h)(s:i):p/\E/\a/\c/\d/\e/\h/\i/\True:=⟨k,l,m,n,o,q,r,s,trivial⟩
theorem a9{E i k:Prop}(l:p)(m:E)(n:a)(o:c)(q:d)(r:e)(s:h)(w:i)(x:k):p/\E/\a/\c/\d/\e/\h/\i/\k/\True:=⟨l,m,n,o,q,r,s,w,x,trivial⟩
theorem U7{E i k:Prop}(n:E)(o:a)(q:c)(r:d)(s:e)(w:h)(x:i)(y:k)(z:l)(m:p):E/\a/\c/\d/\e/\h/\i/\k/\l/\p/\True:=⟨n,o,q,r,s,w,x,y,z,m,trivial⟩
theorem a12{i k m n E:Prop}(s:c)(w:d)(x:e)(y:h)(z:i)(A:k)(B:l)(F:m)(H:n)(o:p)(q:E)(r:a):c/\d/\e/\h/\i/\k/\l/\m/\n/\p/\E/\a/\True:=⟨s,w,x,y,z,A,B,F,H,o,q,r,trivial⟩
def Jm:Nat->Nat->List Nat
 |_,0=>[]
 |a,n+1=>a::Jm (a+1) n
abbrev k3(l:List V):Option E:=aa (E.cells l)
theorem aq(h:cU K x s (rA (λa=>cU K y a Q) Q)):cU K (.seq x y) s Q:=Cs h
theorem be{c:Code}(h:cU K c s (yv i Q)):cU K (.block i c) s Q:=aas h
theorem ay(h:Q .normal s):cU K .skip s Q:=abW h
theorem qr(h:Q .ret s):cU K .ret s Q:=adR h
theorem br(h:Q (.exit i) s):cU K (.exit i) s Q:=abY h
theorem lG{c:Code}{a:S}(d:s.le K a)(h:cU K c a Q):cU K c s Q:=wJ d h
abbrev bR(a:List (Nat×V)):S:=a6 a [] []
abbrev aZ:V:=V.t T.fT
abbrev KS(p:Prop)[Decidable p]:V:=aL (decide p)
def bF{R:Type}{r:R->List T}(n:Nat)(k: ∀a,(r a).length=n)(l:List R):hc:=aB (jm (r:=r) n k l)
def dy(l:List Int):hc:=bF (r:=ai) 1 (λ_=>rfl) l
theorem aC(h:Q .ret s:=by exact aly):cU K .ret s Q:=qr h
theorem cG(h:Q .ret s:=by exact qd):cU K .ret s Q:=qr h
theorem bC{c:Code}(h:cU K c s (yv i (rA (λa=>cU K y a Q) Q))):cU K (.seq (.block i c) y) s Q:=aq (be h)
theorem c6{c:Operand}{z:Code}(h:(bif b then A else B)=aa r)(d:b=ab->A=aa r->cU K x s (rA (λa=>cU K z a Q) Q))(e:b=ak->B=aa r->cU K y s (rA (λa=>cU K z a Q) Q))(i:s.get c= .t (.bool b):=by kernel_rfl):cU K (.seq (.cond c x y) z) s Q:=aq (aA h d e i)
theorem cH{a:(k->Option R)->k->Option R}{v:k}{c:Code}(h:bm a n v=aa r)(i:k->Nat->S)(l:Nat)(m:s.le K (i v l))(e: ∀(d:k->Option R) (x:k) (g:Nat),a d x=aa r->cU K c (i x g) (C3 (λo=> ∃y p,d y=aa r/\o.le K (i y p)) Q)):cU K (.loop c) s Q:=x' (γ:=Nat) h i l m e
theorem al{f:R->Option H}{r:H}{P:Prop}(h:o.bind f=aa r)(k: ∀x,o=aa x->f x=aa r->P):P:=by obtain⟨x,a,c⟩:=c5 h;exact k x a c
theorem bH{γ:Type}{g:R->Option H}{f:R->H->Option γ}{r:γ}{P:Prop}(h:(o.bind λx=>(g x).bind (f x))=aa r)(k: ∀x,o=aa x-> ∀y,g x=aa y->f x y=aa r->P):P:=by obtain⟨x,a,y,c,d⟩:=gE h;exact k x a y c d
theorem cx{a c:Type}{g:R->Option H}{f:R->H->Option a}{e:R->H->a->Option c}{r:c}{P:Prop}(h:(o.bind λx=>(g x).bind λy=>(f x y).bind (e x y))=aa r)(k: ∀x,o=aa x-> ∀y,g x=aa y-> ∀z,f x y=aa z->e x y z=aa r->P):P:=by obtain⟨x,d,y,i,z,l,m⟩:=lS h;exact k x d y i z l m
end
section
variable {K:Ctx}{C:eb}
def kL:Option (c8×List dE)->c8
 |some r=>r.1
 |none=>⟨[],[],[]⟩
def lv(r:c8×List dE):Prop×List Nat×Bool:=(zs r.2,wE r.2,ab)
def lx(a:Prop)(r:c8×List dE):Prop×List Nat×Bool:=(a,wF r.2,ab)
def fX(x:Option (c8×List dE))(n:Prop×List Nat×Bool)(f:c8×List dE->Prop×List Nat×Bool):Prop×List Nat×Bool:=match x with
 |some r=>f r
 |none=>n
variable {p:Prop}{i:Nat}{l:List Oper}{s:S}{Q:Exit->S->Prop}
theorem Is{x:Option (c8×List dE)}(c:p)(h:fX x (False,[],ak) lv=fX x (True,[],ab) (lx p)): ∃a,x=aa (kL x,a)/\cy a:=by
 cases x with
 |none=>simp[fX] at h
 |some r=>
  obtain⟨e,a⟩:=r;simp only[fX,lv,lx,Prod.mk.injEq] at h;obtain⟨d,i,_⟩:=h;exact⟨a,rfl,cy.of (d▸c) i⟩
theorem Eu(d:C.Fits K)(a:List cB)(c:p)
  (h:fX (jG C l.toArray l a s) (False,[],ak) lv=fX (jG C l.toArray l a s) (True,[],ab) (lx p)) (e:Q .normal ((kL (jG C l.toArray l a s)).app s)):cU K (.region i l.toArray ak) s Q:=by obtain⟨n,k,m⟩:=Is c h;exact VH _ (Rk d k m (abZ (S.le.refl K _))) e
theorem ajS(m:C.Fits K)(n:K.P.follows .mixedOrders=ab)(c:List cB)(d:p)
  (h:fX (mA C l c s) (False,[],ak) lv=fX (mA C l c s) (True,[],ab) (lx p)) (o:Q .normal ((kL (mA C l c s)).app s)):cU K (.region i l.toArray ab) s Q:=by
 obtain⟨G,a,q⟩:=Is d h;generalize kL (mA C l c s)=e at*;unfold mA at a;split at a
 ·cases a
 rename_i H r w x;split at a
 ·cases a
 rename_i y z A;split at a
 ·rename_i k;cases a;simp only[Bool.and_eq_true] at k;obtain⟨B,F⟩:=cy.app q;refine wJ (sf m x B) (QU (s2:=_) (O7 y n k.1 k.2 (Il m A F ?_)) o);rw[pc];exact S.le.refl K _
 cases a
theorem DT(i:C.Fits K)(a:List cB)(d:p)
  (h:fX (hg C a s) (False,[],ak) lv=fX (hg C a s) (True,[],ab) (lx p)):s.le K ((kL (hg C a s)).app s):=by
 obtain⟨m,c,k⟩:=Is d h;generalize kL (hg C a s)=e at*;unfold hg at c;split at c
 ·rename_i l;cases c;exact sf i l k
 cases c
end
section
variable {K:Ctx}{C:eb}
variable {i:Nat}{l:List Oper}{s:S}{Q:Exit->S->Prop}{y c:Code}{p:Prop}
theorem au(a:C.Fits K)(A:List hc)(c:Q .normal ((kL (jG C l.toArray l (jU A) s)).app s))
  (h:fX (jG C l.toArray l (jU A) s) (False,[],ak) lv=fX (jG C l.toArray l (jU A) s) (True,[],ab) (lx (rh A)):=by kernel_rfl):cU K (.region i l.toArray ak) s Q:=Eu a (jU A) (sF A) h c
theorem D(a:C.Fits K)(A:List hc)(c:cU K y ((kL (jG C l.toArray l (jU A) s)).app s) Q)
  (h:fX (jG C l.toArray l (jU A) s) (False,[],ak) lv=fX (jG C l.toArray l (jU A) s) (True,[],ab) (lx (rh A)):=by kernel_rfl):cU K (.seq (.region i l.toArray ak) y) s Q:=Cs (Eu a (jU A) (sF A) h c)
theorem bf(a:C.Fits K)(c:Q .normal ((kL (jG C l.toArray l [] s)).app s))
  (h:fX (jG C l.toArray l [] s) (False,[],ak) lv=fX (jG C l.toArray l [] s) (True,[],ab) (lx True):=by kernel_rfl):cU K (.region i l.toArray ak) s Q:=Eu a [] trivial h c
theorem ah(a:C.Fits K)(c:cU K y ((kL (jG C l.toArray l [] s)).app s) Q)
  (h:fX (jG C l.toArray l [] s) (False,[],ak) lv=fX (jG C l.toArray l [] s) (True,[],ab) (lx True):=by kernel_rfl):cU K (.seq (.region i l.toArray ak) y) s Q:=Cs (Eu a [] trivial h c)
theorem bu(a:C.Fits K)(c:K.P.follows .mixedOrders=ab)(A:List hc)(d:Q .normal ((kL (mA C l (jU A) s)).app s))
  (h:fX (mA C l (jU A) s) (False,[],ak) lv=fX (mA C l (jU A) s) (True,[],ab) (lx (rh A)):=by kernel_rfl):cU K (.region i l.toArray ab) s Q:=ajS a c (jU A) (sF A) h d
theorem jF(c:C.Fits K)(a:List cB)(h:fX (hg C a s) (False,[],ak) lv=fX (hg C a s) (True,[],ab) (lx True):=by kernel_rfl):s.le K ((kL (hg C a s)).app s):=DT c a trivial h
theorem og(d:C.Fits K)(a:List cB)(c:p)(h:fX (hg C a s) (False,[],ak) lv=fX (hg C a s) (True,[],ab) (lx p):=by kernel_rfl):s.le K ((kL (hg C a s)).app s):=DT d a c h
theorem bP(d:C.Fits K)(a:List cB)(k:cU K c ((kL (hg C a s)).app s) Q)(h:fX (hg C a s) (False,[],ak) lv=fX (hg C a s) (True,[],ab) (lx True):=by kernel_rfl):cU K c s Q:=wJ (DT d a trivial h) k
theorem dn(e:C.Fits K)(a:List cB)(d:p)(k:cU K c ((kL (hg C a s)).app s) Q)(h:fX (hg C a s) (False,[],ak) lv=fX (hg C a s) (True,[],ab) (lx p):=by kernel_rfl):cU K c s Q:=wJ (DT e a d h) k
theorem eW(c:C.Fits K)(a b:Nat)(k:Q .ret ((kL (hg C [.dT b 0 [a] []] s)).app s):=by exact qd)
  (h:fX (hg C [.dT b 0 [a] []] s) (False,[],ak) lv=fX (hg C [.dT b 0 [a] []] s) (True,[],ab) (lx True):=by kernel_rfl):cU K .ret s Q:=lG (jF c [.dT b 0 [a] []] h) (qr k)
end
def zk(s t:List UInt8):Option Bool:=if s.length<4294967281 then aa (Lib.contains s t) else none
def jj(l:List Int):Option (List Int):=if l.length<=1000000000 then aa l else none
def cmpL:List Int->List Int->Int
 | [],[]=>0
 | [],_::_=> -1
 |_::_,[]=>1
 |x::a,y::c=>if x<y then-1 else if y<x then 1 else cmpL a c
def fS(a:List (List Int)):List (List Int):=a.mergeSort λx y=> !decide (cmpL y x<0)
def nE(a:List (List Int)):Option (List (List Int)):=if a.length<=1000000000/\ ∀l∈a,l.length<=1000000000 then aa (fS a) else none
def et(a:Nat->Bool)(m:Nat):List Nat:=(List.range m).filter a
def lV(a:List (List Int))(j:Nat):Bool:=decide (j=0\/a.getD j []≠a.getD (j-1) [])
def hJ(a:List (List Int)):List (List Int):=(et (lV a) a.length).map λj=>a.getD j []
def D':List Int->List Int->Nat
 |_,[]=>0
 |seen,c::t=>(if c∈seen then 0 else 1)+D' (c::seen) t
end Go.Lift
