/- Tools. -/
import Derived.Test.YteifkndfpnkalaaGreatDLiftY
import Derived.Lib.AtoiAll
import Derived.Lib.ItoaNum
import Derived.Lib.Split
set_option linter.unusedVariables false
namespace Go.Lift
open Go
open Option renaming some -> aa
open Bool renaming true -> ab, false -> ak
open List renaming replicate -> dA
section
variable {K:Ctx}{C:eb}{P:Program}{G:fL}{cq:List (Nat×cu)}
inductive hb where
 |o (h:cB) (p:Prop) (k:p)
 |z (h:cB)
 |q (p:Prop) (k:p)
def jS:List hb->List cB
 | []=>[]
 | .o h _ _::l=>h::jS l
 | .z h::l=>h::jS l
 | .q _ _::l=>jS l
def rh:List hb->Prop
 | []=>True
 | .o _ p _::l=>p/\rh l
 | .z _::l=>rh l
 | .q p _::l=>p/\rh l
theorem sE: ∀l,rh l
 | []=>trivial
 | .o _ _ k::l=>⟨k,sE l⟩
 | .z _::l=>sE l
 | .q _ k::l=>⟨k,sE l⟩
def aI{c:Bool}(k:c=ab):hb:= .o (.b ab) _ k
def aG{c:Bool}(k:c=ak):hb:= .o (.b ak) _ k
def ev:hb:=aI (Eq.refl ab)
def b2:hb:=aG (Eq.refl ak)
def aN{k:Type}(r:k->List T)(l:List k):hb:= .o (.nat l.length) _ (RL r l)
def ao{P:Program}{G:fL}{f:FuncId}{a:List V}{r:V}(k:lP P G f a r):hb:= .o (.v r) _ k
def aY(L N:List Nat){P:Program}{G:fL}{f:FuncId}{i:List E}{a:List V}{r:V}{u:List E}(k:jU P G f i a r u):hb:= .o (.dR L N r u) _ k
def a'{k:Type}{l:List k}{i:Int}{x:k}(f:k->List T)(h:ax l i=aa x):hb:= .o (.row (f x)) _ (QV f h)
def bm{k:Type}{l:List k}{i:Int}{x:k}(f:k->List T)(h:ax l i=aa x):hb:= .o (.row (f x)) _ (cg f h)
def ee{o:Option (List UInt8)}{x:List UInt8}(h:o=aa x):hb:= .o (.str x) _ h
def gm{o:Option UInt8}{x:UInt8}(h:o=aa x):hb:= .o (.y x) _ h
def bY{o:Option (List (List T))}{x:List (List T)}(h:o=aa x):hb:= .o (.rows x) _ h
def aB{p:Prop}(k:p):hb:= .q p k
def aK(n:Nat){c:Bool}(k:c=ab):List hb:=dA n (aI k)
def aJ(n:Nat){c:Bool}(k:c=ak):List hb:=dA n (aG k)
def dX(n:Nat):List hb:=dA n ev
def ef(n:Nat):List hb:=dA n b2
variable {i n:Nat}{l a d c e p h:Prop}{s:S}{Q:Exit->S->Prop}{k R H:Type}{r:R}{x y:Code}{o A B:Option R}{g:k->Option R}{f:k->R->Option H}{args:List V}{b:Bool}
theorem dk{l:List Oper}(k:C.Fits K)(m:K.P.follows .mixedOrders=ab)(A:List hb)(d:List Nat)(a:List (Nat×V))(c:List (Nat×Option E))(e:List (Nat×Bool))(n:Q .normal (s.cl d a c e))
  (h:nj (mA C l (jS A) s) vz (vB s d a c)=nj (mA C l (jS A) s) vA (vC (rh A) a c e):=by kernel_rfl):cU K (.region i l.toArray ab) s Q:=rd k m (jS A) d a c e (sE A) h n
theorem bo{a:k->Option R}{t:(k->Option R)->Option R}(h:aD a t=aa r)(c:k->S)
  (d: ∀j:k->Option R,t j=aa r->cU K x s (rB (λl=> ∃z,j z=aa r/\l.le K (c z)) Q)) (i: ∀z,a z=aa r->cU K y (c z) Q):cU K (.seq x y) s Q:=
 iw (γ:=Unit) (j:=a) (r:=r) (λz _=>c z) (xy (d a h) (λe m q=>by
  cases e with
  |normal=>obtain⟨z,d,i⟩:=q;exact⟨z,(),d,i⟩
  |exit=>exact q
  |goto=>exact q
  |ret=>exact q
  |panic=>exact q
  |outgrown=>exact q)) λz _ h=>i z h
theorem ct{a:(k->Option R)->k->Option R}{d:k}{c:Code}(h:bn a n d=aa r)(m:k->S)(p:s.le K (m d))
  (l: ∀(i:k->Option R) (x:k),a i x=aa r->cU K c (m x) (C4 (λo=> ∃y,i y=aa r/\o.le K (m y)) Q)):cU K (.loop c) s Q:=
 x8 (γ:=Unit) h (λz _=>m z) () p (λi x _ w=>xy (l i x w) (λe o q=>by
  cases e with
  |normal=>obtain⟨z,A,B⟩:=q;exact⟨z,(),A,B⟩
  |exit=>exact q
  |goto=>exact q
  |ret=>exact q
  |panic=>exact q
  |outgrown=>exact q))
theorem an{z:H}{j:H->Option R}{a:H->List (Nat×V)}{c:H->List (Nat×E)}{d:H->List Nat}(h:j z=aa r)(k:Di K.dV s (a z) (c z) (d z)=(la (a z),la (oT (c z)),ab):=by kernel_rfl): ∃z,j z=aa r/\s.le K (a6 (a z) (c z) (d z)):=⟨z,h,Tc k⟩
theorem gD{o:Option k}{r:H}(h:(o.bind λx=>(g x).bind (f x))=aa r): ∃x,o=aa x/\ ∃y,g x=aa y/\f x y=aa r:=by
 obtain⟨x,a,h⟩:=c5 h;obtain⟨y,c,h⟩:=c5 h
 grind
theorem lQ{a:Type}{o:Option k}{e:k->R->H->Option a}{r:a}(h:(o.bind λx=>(g x).bind λy=>(f x y).bind (e x y))=aa r): ∃x,o=aa x/\ ∃y,g x=aa y/\ ∃z,f x y=aa z/\e x y z=aa r:=by
 obtain⟨x,c,h⟩:=c5 h;obtain⟨y,d,z,i,h⟩:=gD h
 grind
theorem bh{f:FuncId}{d:Func}{c:Code}{r:V}{a:List ResultVar}(k:ek P cq)(l:P.funcs[f]? =aa d)(e:(d.name== "runtime.NumGoroutine",d.body,d.results.toList,d.ntmps,Nat.ble args.length i,r.ok hg,Nat.ble a.length 4)=(ak,aa c,a,i,ab,ab,ab))
  (h: ∀w X,eb.Fits ⟨P,G,cq,i,0,h8⟩ (Ctx.pure P G w X i)->cU (Ctx.pure P G w X i) c (start args) (LZ cq a r)):lP P G f args r:=by simp only[Prod.mk.injEq] at e;exact Ti k l e.1 e.2.1 e.2.2.1 e.2.2.2.1 e.2.2.2.2.1 e.2.2.2.2.2.1 e.2.2.2.2.2.2 h
theorem cD{f:FuncId}{d:Func}{c:Code}{a out:List E}{r:V}{e:List ResultVar}(m:ek P cq)(o:P.funcs[f]? =aa d)(k:(d.name== "runtime.NumGoroutine",d.body,d.results.toList,d.ntmps,a.length,Nat.ble args.length i,Nat.ble n out.length,Nat.ble e.length 4)=(ak,aa c,e,i,n,ab,ab,ab))
  (h: ∀w X l,eb.Fits ⟨P,G,cq,i,n,l⟩ (Ctx.dR P G w X n l i)->vb l a 0->cU (Ctx.dR P G w X n l i) c (mT a args) (LY cq e r out)):jU P G f a args r out:=by simp only[Prod.mk.injEq] at k;exact aj2 m o k.1 k.2.1 k.2.2.1 k.2.2.2.1 k.2.2.2.2.1 k.2.2.2.2.2.1 k.2.2.2.2.2.2.1 k.2.2.2.2.2.2.2 h
theorem eY(k:C.Fits K)(d:List cB)(e:List Nat)(a:List (Nat×V))(c:List (Nat×Option E))(i:List (Nat×Bool))
  (h:nj (hf C d s) vz (vB s e a c)=nj (hf C d s) vA (vC True a c i):=by kernel_rfl):s.le K (s.cl e a c i):=alv k d e a c i h
theorem aO{a:List (Nat×V)}{c:List (Nat×E)}{r:List Nat}(h:Di K.dV s a c r=(la a,la (oT c),ab):=by kernel_rfl):s.le K (a6 a c r):=Tc h
theorem dR{c:Operand}(a:b=ab->cU K x s Q)(d:b=ak->cU K y s Q)(e:s.get c= .t (.bool b):=by kernel_rfl):cU K (.cond c x y) s Q:=kQ e a d
theorem aA{c:Operand}(h:(bif b then A else B)=aa r)(a:b=ab->A=aa r->cU K x s Q)(d:b=ak->B=aa r->cU K y s Q)(i:s.get c= .t (.bool b):=by kernel_rfl):cU K (.cond c x y) s Q:=
 kQ i (λe=>a e (iN e h)) λe=>d e (iM e h)
theorem aZ{P:Prop}(h:(bif b then A else B)=aa r)(a:b=ak->B=aa r->P)(c:b=ab->A=aa r->P):P:=kT b (λe=>a e (iM e h)) λe=>c e (iN e h)
theorem p'{e:List ResultVar}{r:V}{a:List E}(h:(yA r (jy cq s e),u5 s a 0,r.ok (fA a.length)&&vg (fA a.length) a)=(aa r,u0 a,ab):=by kernel_rfl):
  ∃c,jy cq s e=aa c/\dN (oU c) r/\r.ok (fA a.length)=ab/\mm s.H (fA a.length) (ft a 0):=UD h
theorem ali{a:List ResultVar}{r:V}(h:yA r (jy cq s a)=aa r:=by kernel_rfl): ∃c,jy cq s a=aa c/\dN (oU c) r:=RE h
theorem a0:True:=trivial
theorem aL(a:p):p/\True:=⟨a,trivial⟩
theorem a2{E:Prop}(a:p)(c:E):p/\E/\True:=⟨a,c,trivial⟩
theorem a3{E:Prop}(c:p)(d:E)(e:a):p/\E/\a/\True:=⟨c,d,e,trivial⟩
theorem a4{E:Prop}(d:p)(e:E)(h:a)(i:c):p/\E/\a/\c/\True:=⟨d,e,h,i,trivial⟩
theorem a5{E:Prop}(e:p)(h:E)(i:a)(k:c)(l:d):p/\E/\a/\c/\d/\True:=⟨e,h,i,k,l,trivial⟩
theorem kg{E:Prop}(h:p)(i:E)(k:a)(l:c)(m:d)(n:e):p/\E/\a/\c/\d/\e/\True:=⟨h,i,k,l,m,n,trivial⟩
theorem jA{E:Prop}(i:p)(k:E)(l:a)(m:c)(n:d)(o:e)(q:h):p/\E/\a/\c/\d/\e/\h/\True:=⟨i,k,l,m,n,o,q,trivial⟩
theorem fV{E i:Prop}(k:p)(l:E)(m:a)(n:c)(o:d)(q:e)(r:h)(s:i):p/\E/\a/\c/\d/\e/\h/\i/\True:=⟨k,l,m,n,o,q,r,s,trivial⟩
theorem a9{E i k:Prop}(l:p)(m:E)(n:a)(o:c)(q:d)(r:e)(s:h)(w:i)(x:k):p/\E/\a/\c/\d/\e/\h/\i/\k/\True:=⟨l,m,n,o,q,r,s,w,x,trivial⟩
theorem UO{E i k:Prop}(n:E)(o:a)(q:c)(r:d)(s:e)(w:h)(x:i)(y:k)(z:l)(m:p):E/\a/\c/\d/\e/\h/\i/\k/\l/\p/\True:=⟨n,o,q,r,s,w,x,y,z,m,trivial⟩
theorem a12{i k m n E:Prop}(s:c)(w:d)(x:e)(y:h)(z:i)(A:k)(B:l)(F:m)(H:n)(o:p)(q:E)(r:a):c/\d/\e/\h/\i/\k/\l/\m/\n/\p/\E/\a/\True:=⟨s,w,x,y,z,A,B,F,H,o,q,r,trivial⟩
def Jk:Nat->Nat->List Nat
 |_,0=>[]
 |a,n+1=>a::Jk (a+1) n
abbrev k0(l:List V):Option E:=aa (E.cells l)
theorem aq(h:cU K x s (rB (λa=>cU K y a Q) Q)):cU K (.seq x y) s Q:=Cp h
theorem be{c:Code}(h:cU K c s (yu i Q)):cU K (.block i c) s Q:=Z' h
theorem ay(h:Q .normal s):cU K .skip s Q:=abz h
theorem qr(h:Q .ret s):cU K .ret s Q:=acB h
theorem br(h:Q (.exit i) s):cU K (.exit i) s Q:=abB h
theorem lE{c:Code}{a:S}(d:s.le K a)(h:cU K c a Q):cU K c s Q:=wI d h
abbrev bQ(a:List (Nat×V)):S:=a6 a [] []
abbrev a1:V:=V.t T.fT
abbrev KQ(p:Prop)[Decidable p]:V:=aM (decide p)
def bF{R:Type}{r:R->List T}(n:Nat)(k: ∀a,(r a).length=n)(l:List R):hb:=aB (jl (r:=r) n k l)
def dy(l:List Int):hb:=bF (r:=ah) 1 (λ_=>rfl) l
theorem aC(h:Q .ret s:=by exact ali):cU K .ret s Q:=qr h
theorem cG(h:Q .ret s:=by exact p'):cU K .ret s Q:=qr h
theorem bH{c:Code}(h:cU K c s (yu i (rB (λa=>cU K y a Q) Q))):cU K (.seq (.block i c) y) s Q:=aq (be h)
theorem c7{c:Operand}{z:Code}(h:(bif b then A else B)=aa r)(d:b=ab->A=aa r->cU K x s (rB (λa=>cU K z a Q) Q))(e:b=ak->B=aa r->cU K y s (rB (λa=>cU K z a Q) Q))(i:s.get c= .t (.bool b):=by kernel_rfl):cU K (.seq (.cond c x y) z) s Q:=aq (aA h d e i)
theorem cH{a:(k->Option R)->k->Option R}{v:k}{c:Code}(h:bn a n v=aa r)(i:k->Nat->S)(l:Nat)(m:s.le K (i v l))(e: ∀(d:k->Option R) (x:k) (g:Nat),a d x=aa r->cU K c (i x g) (C4 (λo=> ∃y p,d y=aa r/\o.le K (i y p)) Q)):cU K (.loop c) s Q:=x8 (γ:=Nat) h i l m e
theorem al{f:R->Option H}{r:H}{P:Prop}(h:o.bind f=aa r)(k: ∀x,o=aa x->f x=aa r->P):P:=by obtain⟨x,a,c⟩:=c5 h;exact k x a c
theorem bG{γ:Type}{g:R->Option H}{f:R->H->Option γ}{r:γ}{P:Prop}(h:(o.bind λx=>(g x).bind (f x))=aa r)(k: ∀x,o=aa x-> ∀y,g x=aa y->f x y=aa r->P):P:=by obtain⟨x,a,y,c,d⟩:=gD h;exact k x a y c d
theorem cx{a c:Type}{g:R->Option H}{f:R->H->Option a}{e:R->H->a->Option c}{r:c}{P:Prop}(h:(o.bind λx=>(g x).bind λy=>(f x y).bind (e x y))=aa r)(k: ∀x,o=aa x-> ∀y,g x=aa y-> ∀z,f x y=aa z->e x y z=aa r->P):P:=by obtain⟨x,d,y,i,z,l,m⟩:=lQ h;exact k x d y i z l m
end
section
variable {K:Ctx}{C:eb}
def kK:Option (c8×List dE)->c8
 |some r=>r.1
 |none=>⟨[],[],[]⟩
def lu(r:c8×List dE):Prop×List Nat×Bool:=(zs r.2,wE r.2,ab)
def lv(a:Prop)(r:c8×List dE):Prop×List Nat×Bool:=(a,wF r.2,ab)
def fW(x:Option (c8×List dE))(n:Prop×List Nat×Bool)(f:c8×List dE->Prop×List Nat×Bool):Prop×List Nat×Bool:=match x with
 |some r=>f r
 |none=>n
variable {p:Prop}{i:Nat}{l:List Oper}{s:S}{Q:Exit->S->Prop}
theorem Io{x:Option (c8×List dE)}(c:p)(h:fW x (False,[],ak) lu=fW x (True,[],ab) (lv p)): ∃a,x=aa (kK x,a)/\cy a:=by
 cases x with
 |none=>simp[fW] at h
 |some r=>
  obtain⟨e,a⟩:=r;simp only[fW,lu,lv,Prod.mk.injEq] at h;obtain⟨d,i,_⟩:=h;exact⟨a,rfl,cy.of (d▸c) i⟩
theorem Er(d:C.Fits K)(a:List cB)(c:p)
  (h:fW (jE C l.toArray l a s) (False,[],ak) lu=fW (jE C l.toArray l a s) (True,[],ab) (lv p)) (e:Q .normal ((kK (jE C l.toArray l a s)).app s)):cU K (.region i l.toArray ak) s Q:=by obtain⟨n,k,m⟩:=Io c h;exact Vu _ (QM d k m (abC (S.le.refl K _))) e
theorem ajE(m:C.Fits K)(n:K.P.follows .mixedOrders=ab)(c:List cB)(d:p)
  (h:fW (mA C l c s) (False,[],ak) lu=fW (mA C l c s) (True,[],ab) (lv p)) (o:Q .normal ((kK (mA C l c s)).app s)):cU K (.region i l.toArray ab) s Q:=by
 obtain⟨G,a,q⟩:=Io d h;generalize kK (mA C l c s)=e at*;unfold mA at a;split at a
 ·cases a
 rename_i H r w x;split at a
 ·cases a
 rename_i y z A;split at a
 ·rename_i k;cases a;simp only[Bool.and_eq_true] at k;obtain⟨B,F⟩:=cy.app q;refine wI (se m x B) (QK (s2:=_) (Oy y n k.1 k.2 (Iz m A F ?_)) o);rw[o7];exact S.le.refl K _
 cases a
theorem DS(i:C.Fits K)(a:List cB)(d:p)
  (h:fW (hf C a s) (False,[],ak) lu=fW (hf C a s) (True,[],ab) (lv p)):s.le K ((kK (hf C a s)).app s):=by
 obtain⟨m,c,k⟩:=Io d h;generalize kK (hf C a s)=e at*;unfold hf at c;split at c
 ·rename_i l;cases c;exact se i l k
 cases c
end
section
variable {K:Ctx}{C:eb}
variable {i:Nat}{l:List Oper}{s:S}{Q:Exit->S->Prop}{y c:Code}{p:Prop}
theorem au(a:C.Fits K)(A:List hb)(c:Q .normal ((kK (jE C l.toArray l (jS A) s)).app s))
  (h:fW (jE C l.toArray l (jS A) s) (False,[],ak) lu=fW (jE C l.toArray l (jS A) s) (True,[],ab) (lv (rh A)):=by kernel_rfl):cU K (.region i l.toArray ak) s Q:=Er a (jS A) (sE A) h c
theorem D(a:C.Fits K)(A:List hb)(c:cU K y ((kK (jE C l.toArray l (jS A) s)).app s) Q)
  (h:fW (jE C l.toArray l (jS A) s) (False,[],ak) lu=fW (jE C l.toArray l (jS A) s) (True,[],ab) (lv (rh A)):=by kernel_rfl):cU K (.seq (.region i l.toArray ak) y) s Q:=Cp (Er a (jS A) (sE A) h c)
theorem bg(a:C.Fits K)(c:Q .normal ((kK (jE C l.toArray l [] s)).app s))
  (h:fW (jE C l.toArray l [] s) (False,[],ak) lu=fW (jE C l.toArray l [] s) (True,[],ab) (lv True):=by kernel_rfl):cU K (.region i l.toArray ak) s Q:=Er a [] trivial h c
theorem ai(a:C.Fits K)(c:cU K y ((kK (jE C l.toArray l [] s)).app s) Q)
  (h:fW (jE C l.toArray l [] s) (False,[],ak) lu=fW (jE C l.toArray l [] s) (True,[],ab) (lv True):=by kernel_rfl):cU K (.seq (.region i l.toArray ak) y) s Q:=Cp (Er a [] trivial h c)
theorem bu(a:C.Fits K)(c:K.P.follows .mixedOrders=ab)(A:List hb)(d:Q .normal ((kK (mA C l (jS A) s)).app s))
  (h:fW (mA C l (jS A) s) (False,[],ak) lu=fW (mA C l (jS A) s) (True,[],ab) (lv (rh A)):=by kernel_rfl):cU K (.region i l.toArray ab) s Q:=ajE a c (jS A) (sE A) h d
theorem jD(c:C.Fits K)(a:List cB)(h:fW (hf C a s) (False,[],ak) lu=fW (hf C a s) (True,[],ab) (lv True):=by kernel_rfl):s.le K ((kK (hf C a s)).app s):=DS c a trivial h
theorem od(d:C.Fits K)(a:List cB)(c:p)(h:fW (hf C a s) (False,[],ak) lu=fW (hf C a s) (True,[],ab) (lv p):=by kernel_rfl):s.le K ((kK (hf C a s)).app s):=DS d a c h
theorem bS(d:C.Fits K)(a:List cB)(k:cU K c ((kK (hf C a s)).app s) Q)(h:fW (hf C a s) (False,[],ak) lu=fW (hf C a s) (True,[],ab) (lv True):=by kernel_rfl):cU K c s Q:=wI (DS d a trivial h) k
theorem dm(e:C.Fits K)(a:List cB)(d:p)(k:cU K c ((kK (hf C a s)).app s) Q)(h:fW (hf C a s) (False,[],ak) lu=fW (hf C a s) (True,[],ab) (lv p):=by kernel_rfl):cU K c s Q:=wI (DS e a d h) k
theorem eZ(c:C.Fits K)(a b:Nat)(k:Q .ret ((kK (hf C [.dT b 0 [a] []] s)).app s):=by exact p')
  (h:fW (hf C [.dT b 0 [a] []] s) (False,[],ak) lu=fW (hf C [.dT b 0 [a] []] s) (True,[],ab) (lv True):=by kernel_rfl):cU K .ret s Q:=lE (jD c [.dT b 0 [a] []] h) (qr k)
end
def zk(s t:List UInt8):Option Bool:=if s.length<4294967281 then aa (Lib.contains s t) else none
def ji(l:List Int):Option (List Int):=if l.length<=1000000000 then aa l else none
def cmpL:List Int->List Int->Int
 | [],[]=>0
 | [],_::_=> -1
 |_::_,[]=>1
 |x::a,y::c=>if x<y then-1 else if y<x then 1 else cmpL a c
def fS(a:List (List Int)):List (List Int):=a.mergeSort λx y=> !decide (cmpL y x<0)
def nD(a:List (List Int)):Option (List (List Int)):=if a.length<=1000000000/\ ∀l∈a,l.length<=1000000000 then aa (fS a) else none
def et(a:Nat->Bool)(m:Nat):List Nat:=(List.range m).filter a
def lT(a:List (List Int))(j:Nat):Bool:=decide (j=0\/a.getD j []≠a.getD (j-1) [])
def hG(a:List (List Int)):List (List Int):=(et (lT a) a.length).map λj=>a.getD j []
def D8:List Int->List Int->Nat
 |_,[]=>0
 |seen,c::t=>(if c∈seen then 0 else 1)+D8 (c::seen) t
end Go.Lift
