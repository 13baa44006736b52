/- Tools. -/
import Derived.Test.YteifkndfpnkalacGreatQLiftY
import Derived.Lib.AtoiAll
import Derived.Lib.ItoaNum
import Derived.Lib.Split
set_option linter.unusedVariables false
namespace Go.Lift
open Go
open Option renaming some -> aa
open Bool renaming true -> ab, false -> ak
open List renaming replicate -> dq
section
variable {K:Ctx}{C:dQ}{P:Program}{G:fq}{cf:List (Nat×cn)}
inductive gy where
 |o (h:cq) (p:Prop) (k:p)
 |z (h:cq)
 |q (p:Prop) (k:p)
def jr:List gy->List cq
 | []=>[]
 | .o h _ _::l=>h::jr l
 | .z h::l=>h::jr l
 | .q _ _::l=>jr l
def qc:List gy->Prop
 | []=>True
 | .o _ p _::l=>p/\qc l
 | .z _::l=>qc l
 | .q p _::l=>p/\qc l
theorem rC: ∀l,qc l
 | []=>trivial
 | .o _ _ k::l=>⟨k,rC l⟩
 | .z _::l=>rC l
 | .q _ k::l=>⟨k,rC l⟩
def aC{c:Bool}(k:c=ab):gy:= .o (.b ab) _ k
def aK{c:Bool}(k:c=ak):gy:= .o (.b ak) _ k
def er:gy:=aC (Eq.refl ab)
def cw:gy:=aK (Eq.refl ak)
def aJ{a:Type}(r:a->List T)(l:List a):gy:= .o (.nat l.length) _ (PK r l)
def ar{P:Program}{G:fq}{f:FuncId}{a:List V}{r:V}(k:j8 P G f a r):gy:= .o (.v r) _ k
def bg(L N:List Nat){P:Program}{G:fq}{f:FuncId}{i:List E}{a:List V}{r:V}{u:List E}(k:kF P G f i a r u):gy:= .o (.fo L N r u) _ k
def a'{a:Type}{l:List a}{i:Int}{x:a}(f:a->List T)(h:az l i=aa x):gy:= .o (.row (f x)) _ (O0 f h)
def bs{a:Type}{l:List a}{i:Int}{x:a}(f:a->List T)(h:az l i=aa x):gy:= .o (.row (f x)) _ (m9 f h)
def dT{o:Option (List UInt8)}{x:List UInt8}(h:o=aa x):gy:= .o (.str x) _ h
def fU{o:Option UInt8}{x:UInt8}(h:o=aa x):gy:= .o (.y x) _ h
def bY{o:Option (List (List T))}{x:List (List T)}(h:o=aa x):gy:= .o (.rows x) _ h
def aA{p:Prop}(k:p):gy:= .q p k
def aN(n:Nat){c:Bool}(k:c=ab):List gy:=dq n (aC k)
def aI(n:Nat){c:Bool}(k:c=ak):List gy:=dq n (aK k)
def eF(n:Nat):List gy:=dq n er
def eb(n:Nat):List gy:=dq n cw
variable {n:Nat}{l a c d e i p h k m:Prop}{s:S}{Q:Exit->S->Prop}{R W H:Type}{r:R}{x y:Code}{args:List V}{b:Bool}{A B:Option R}
theorem dk{l:List Oper}(i:C.Fits K)(k:K.P.follows .mixedOrders=ab)(A:List gy)(d:List Nat)(a:List (Nat×V))(c:List (Nat×Option E))(e:List (Nat×Bool))(m:Q .normal (s.cl d a c e))
  (h:mj (lN C l (jr A) s) um (uq s d a c)=mj (lN C l (jr A) s) uo (ur (qc A) a c e):=by kernel_rfl):cJ K (.region n l.toArray ab) s Q:=rd i k (jr A) d a c e (rC A) h m
theorem br{a:Type}{c:a->Option R}{t:(a->Option R)->Option R}(h:aE c t=aa r)(d:a->S)
  (i: ∀j:a->Option R,t j=aa r->cJ K x s (qw (λl=> ∃z,j z=aa r/\l.le K (d z)) Q)) (k: ∀z,c z=aa r->cJ K y (d z) Q):cJ K (.seq x y) s Q:=
 hK (γ:=Unit) (j:=c) (r:=r) (λz _=>d z) (vX (i c h) (λe m q=>by
  cases e with
  |normal=>obtain⟨z,i,k⟩:=q;exact⟨z,(),i,k⟩
  |exit=>exact q
  |goto=>exact q
  |ret=>exact q
  |panic=>exact q
  |outgrown=>exact q)) λz _ h=>k z h
theorem cg{a:(W->Option R)->W->Option R}{d:W}{c:Code}(h:bj a n d=aa r)(l:W->S)(o:s.le K (l d))
  (k: ∀(i:W->Option R) (x:W),a i x=aa r->cJ K c (l x) (Bd (λm=> ∃y,i y=aa r/\m.le K (l y)) Q)):cJ K (.loop c) s Q:=
 wI (γ:=Unit) h (λz _=>l z) () o (λi x _ p=>vX (k i x p) (λe m q=>by
  cases e with
  |normal=>obtain⟨z,w,A⟩:=q;exact⟨z,(),w,A⟩
  |exit=>exact q
  |goto=>exact q
  |ret=>exact q
  |panic=>exact q
  |outgrown=>exact q))
theorem al{a:Type}{z:a}{j:a->Option R}{c:a->List (Nat×V)}{d:a->List (Nat×E)}{e:a->List Nat}(h:j z=aa r)(k:Bs K.dL s (c z) (d z) (e z)=(kE (c z),kE (nT (d z)),ab):=by kernel_rfl): ∃z,j z=aa r/\s.le K (a6 (c z) (d z) (e z)):=⟨z,h,Q4 k⟩
theorem gh{a:Type}{o:Option a}{g:a->Option R}{f:a->R->Option W}{r:W}(h:(o.bind λx=>(g x).bind (f x))=aa r): ∃x,o=aa x/\ ∃y,g x=aa y/\f x y=aa r:=by
 obtain⟨x,c,h⟩:=cR h;obtain⟨y,d,h⟩:=cR h
 grind
theorem la{a:Type}{o:Option a}{g:a->Option R}{f:a->R->Option W}{e:a->R->W->Option H}{r:H}(h:(o.bind λx=>(g x).bind λy=>(f x y).bind (e x y))=aa r): ∃x,o=aa x/\ ∃y,g x=aa y/\ ∃z,f x y=aa z/\e x y z=aa r:=by
 obtain⟨x,c,h⟩:=cR h;obtain⟨y,d,z,i,h⟩:=gh h
 grind
theorem bl{f:FuncId}{d:Func}{c:Code}{r:V}{a:List ResultVar}(i:dZ P cf)(k:P.funcs[f]? =aa d)(e:(d.name== "runtime.NumGoroutine",d.body,d.results.toList,d.ntmps,Nat.ble args.length n,r.ok gG,Nat.ble a.length 4)=(ak,aa c,a,n,ab,ab,ab))
  (h: ∀w X,dQ.Fits ⟨P,G,cf,n,0,hf⟩ (Ctx.pure P G w X n)->cJ (Ctx.pure P G w X n) c (start args) (PH cf a r)):j8 P G f args r:=by simp only[Prod.mk.injEq] at e;exact Rc i k e.1 e.2.1 e.2.2.1 e.2.2.2.1 e.2.2.2.2.1 e.2.2.2.2.2.1 e.2.2.2.2.2.2 h
theorem cx{f:FuncId}{d:Func}{c:Code}{a out:List E}{r:V}{i:Nat}{e:List ResultVar}(m:dZ P cf)(o:P.funcs[f]? =aa d)(k:(d.name== "runtime.NumGoroutine",d.body,d.results.toList,d.ntmps,a.length,Nat.ble args.length n,Nat.ble i out.length,Nat.ble e.length 4)=(ak,aa c,e,n,i,ab,ab,ab))
  (h: ∀w X l,dQ.Fits ⟨P,G,cf,n,i,l⟩ (Ctx.fo P G w X i l n)->tL l a 0->cJ (Ctx.fo P G w X i l n) c (nD a args) (PG cf e r out)):kF P G f a args r out:=by simp only[Prod.mk.injEq] at k;exact ahP m o k.1 k.2.1 k.2.2.1 k.2.2.2.1 k.2.2.2.2.1 k.2.2.2.2.2.1 k.2.2.2.2.2.2.1 k.2.2.2.2.2.2.2 h
theorem eE(k:C.Fits K)(d:List cq)(e:List Nat)(a:List (Nat×V))(c:List (Nat×Option E))(i:List (Nat×Bool))
  (h:mj (gE C d s) um (uq s e a c)=mj (gE C d s) uo (ur True a c i):=by kernel_rfl):s.le K (s.cl e a c i):=ajm k d e a c i h
theorem aL{a:List (Nat×V)}{c:List (Nat×E)}{r:List Nat}(h:Bs K.dL s a c r=(kE a,kE (nT c),ab):=by kernel_rfl):s.le K (a6 a c r):=Q4 h
theorem fo{c:Operand}(a:b=ab->cJ K x s Q)(d:b=ak->cJ K y s Q)(e:s.get c= .t (.bool b):=by kernel_rfl):cJ K (.cond c x y) s Q:=pR e a d
theorem ax{c:Operand}(h:(bif b then A else B)=aa r)(a:b=ab->A=aa r->cJ K x s Q)(d:b=ak->B=aa r->cJ K y s Q)(i:s.get c= .t (.bool b):=by kernel_rfl):cJ K (.cond c x y) s Q:=
 pR i (λe=>a e (ng e h)) λe=>d e (nf e h)
theorem aZ{P:Prop}(h:(bif b then A else B)=aa r)(a:b=ak->B=aa r->P)(c:b=ab->A=aa r->P):P:=rn b (λe=>a e (nf e h)) λe=>c e (ng e h)
theorem po{e:List ResultVar}{r:V}{a:List E}(h:(xe r (jq cf s e),tE s a 0,r.ok (fh a.length)&&tX (fh a.length) a)=(aa r,tv a,ab):=by kernel_rfl):
  ∃c,jq cf s e=aa c/\dC (nU c) r/\r.ok (fh a.length)=ab/\lD s.H (fh a.length) (fw a 0):=adE h
theorem ai'{a:List ResultVar}{r:V}(h:xe r (jq cf s a)=aa r:=by kernel_rfl): ∃c,jq cf s a=aa c/\dC (nU c) r:=PL h
theorem a0:True:=trivial
theorem aS(a:p):p/\True:=⟨a,trivial⟩
theorem a2(c:p)(d:a):p/\a/\True:=⟨c,d,trivial⟩
theorem a3(d:p)(e:a)(h:c):p/\a/\c/\True:=⟨d,e,h,trivial⟩
theorem a4(e:p)(h:a)(i:c)(k:d):p/\a/\c/\d/\True:=⟨e,h,i,k,trivial⟩
theorem a5(h:p)(i:a)(k:c)(l:d)(m:e):p/\a/\c/\d/\e/\True:=⟨h,i,k,l,m,trivial⟩
theorem jN(i:p)(k:a)(l:c)(m:d)(n:e)(o:h):p/\a/\c/\d/\e/\h/\True:=⟨i,k,l,m,n,o,trivial⟩
theorem jb(k:p)(l:a)(m:c)(n:d)(o:e)(q:h)(r:i):p/\a/\c/\d/\e/\h/\i/\True:=⟨k,l,m,n,o,q,r,trivial⟩
theorem fW(l:p)(m:a)(n:c)(o:d)(q:e)(r:h)(s:i)(w:k):p/\a/\c/\d/\e/\h/\i/\k/\True:=⟨l,m,n,o,q,r,s,w,trivial⟩
theorem a9(m:p)(n:a)(o:c)(q:d)(r:e)(s:h)(w:i)(x:k)(y:l):p/\a/\c/\d/\e/\h/\i/\k/\l/\True:=⟨m,n,o,q,r,s,w,x,y,trivial⟩
theorem SI(o:a)(q:c)(r:d)(s:e)(w:h)(x:i)(y:k)(z:l)(A:m)(n:p):a/\c/\d/\e/\h/\i/\k/\l/\m/\p/\True:=⟨o,q,r,s,w,x,y,z,A,n,trivial⟩
theorem a12{n o:Prop}(w:d)(x:e)(y:h)(z:i)(A:k)(B:l)(F:m)(H:n)(L:o)(q:p)(r:a)(s:c):d/\e/\h/\i/\k/\l/\m/\n/\o/\p/\a/\c/\True:=⟨w,x,y,z,A,B,F,H,L,q,r,s,trivial⟩
def Hn:Nat->Nat->List Nat
 |_,0=>[]
 |a,n+1=>a::Hn (a+1) n
theorem aq(h:cJ K x s (qw (λa=>cJ K y a Q) Q)):cJ K (.seq x y) s Q:=Az h
theorem ba{c:Code}(h:cJ K c s (w8 n Q)):cJ K (.block n c) s Q:=XR h
theorem av(h:Q .normal s):cJ K .skip s Q:=YV h
theorem qr(h:Q .ret s):cJ K .ret s Q:=aaS h
theorem bm(h:Q (.exit n) s):cJ K (.exit n) s Q:=YX h
theorem k2{c:Code}{a:S}(d:s.le K a)(h:cJ K c a Q):cJ K c s Q:=u5 d h
abbrev bO(a:List (Nat×V)):S:=a6 a [] []
abbrev a8:V:=V.t T.fF
abbrev IU(p:Prop)[Decidable p]:V:=aO (decide p)
def bK{R:Type}{r:R->List T}(n:Nat)(k: ∀a,(r a).length=n)(l:List R):gy:=aA (iS (r:=r) n k l)
def cQ(l:List Int):gy:=bK (r:=ae) 1 (λ_=>rfl) l
theorem aD(h:Q .ret s:=by exact ai'):cJ K .ret s Q:=qr h
theorem cE(h:Q .ret s:=by exact po):cJ K .ret s Q:=qr h
theorem bu{c:Code}(h:cJ K c s (w8 n (qw (λa=>cJ K y a Q) Q))):cJ K (.seq (.block n c) y) s Q:=aq (ba h)
theorem cP{c:Operand}{z:Code}(h:(bif b then A else B)=aa r)(d:b=ab->A=aa r->cJ K x s (qw (λa=>cJ K z a Q) Q))(e:b=ak->B=aa r->cJ K y s (qw (λa=>cJ K z a Q) Q))(i:s.get c= .t (.bool b):=by kernel_rfl):cJ K (.seq (.cond c x y) z) s Q:=aq (ax h d e i)
theorem ch{a:(W->Option R)->W->Option R}{v:W}{c:Code}(h:bj a n v=aa r)(i:W->Nat->S)(k:Nat)(l:s.le K (i v k))(e: ∀(d:W->Option R) (x:W) (g:Nat),a d x=aa r->cJ K c (i x g) (Bd (λm=> ∃y o,d y=aa r/\m.le K (i y o)) Q)):cJ K (.loop c) s Q:=wI (γ:=Nat) h i k l e
theorem an{a:Type}{o:Option a}{f:a->Option R}{P:Prop}(h:o.bind f=aa r)(k: ∀x,o=aa x->f x=aa r->P):P:=by obtain⟨x,c,d⟩:=cR h;exact k x c d
theorem bP{a γ:Type}{o:Option a}{g:a->Option R}{f:a->R->Option γ}{r:γ}{P:Prop}(h:(o.bind λx=>(g x).bind (f x))=aa r)(k: ∀x,o=aa x-> ∀y,g x=aa y->f x y=aa r->P):P:=by obtain⟨x,c,y,d,e⟩:=gh h;exact k x c y d e
theorem cO{a:Type}{o:Option a}{g:a->Option R}{f:a->R->Option W}{e:a->R->W->Option H}{r:H}{P:Prop}(h:(o.bind λx=>(g x).bind λy=>(f x y).bind (e x y))=aa r)(k: ∀x,o=aa x-> ∀y,g x=aa y-> ∀z,f x y=aa z->e x y z=aa r->P):P:=by obtain⟨x,c,y,d,z,i,l⟩:=la h;exact k x c y d z i l
end
section
variable {K:Ctx}{C:dQ}
def ka:Option (cX×List du)->cX
 |some r=>r.1
 |none=>⟨[],[],[]⟩
def kN(r:cX×List du):Prop×List Nat×Bool:=(x9 r.2,u3 r.2,ab)
def kO(a:Prop)(r:cX×List du):Prop×List Nat×Bool:=(a,u4 r.2,ab)
def fI(x:Option (cX×List du))(n:Prop×List Nat×Bool)(f:cX×List du->Prop×List Nat×Bool):Prop×List Nat×Bool:=match x with
 |some r=>f r
 |none=>n
variable {p:Prop}{n:Nat}{l:List Oper}{s:S}{Q:Exit->S->Prop}
theorem Gu{x:Option (cX×List du)}(c:p)(h:fI x (False,[],ak) kN=fI x (True,[],ab) (kO p)): ∃a,x=aa (ka x,a)/\cr a:=by
 cases x with
 |none=>simp[fI] at h
 |some r=>
  obtain⟨e,a⟩:=r;simp only[fI,kN,kO,Prod.mk.injEq] at h;obtain⟨d,i,_⟩:=h;exact⟨a,rfl,cr.of (d▸c) i⟩
theorem CE(d:C.Fits K)(a:List cq)(c:p)
  (h:fI (jc C l.toArray l a s) (False,[],ak) kN=fI (jc C l.toArray l a s) (True,[],ab) (kO p)) (e:Q .normal ((ka (jc C l.toArray l a s)).app s)):cJ K (.region n l.toArray ak) s Q:=by obtain⟨m,i,k⟩:=Gu c h;exact Tp _ (OX d i k (YY (S.le.refl K _))) e
theorem ahw(k:C.Fits K)(m:K.P.follows .mixedOrders=ab)(c:List cq)(d:p)
  (h:fI (lN C l c s) (False,[],ak) kN=fI (lN C l c s) (True,[],ab) (kO p)) (o:Q .normal ((ka (lN C l c s)).app s)):cJ K (.region n l.toArray ab) s Q:=by
 obtain⟨G,a,q⟩:=Gu d h;generalize ka (lN C l c s)=e at*;unfold lN at a;split at a
 ·cases a
 rename_i H r w x;split at a
 ·cases a
 rename_i y z A;split at a
 ·rename_i i;cases a;simp only[Bool.and_eq_true] at i;obtain⟨B,F⟩:=cr.app q;refine u5 (q4 k x B) (OE (s2:=_) (ML y m i.1 i.2 (Gn k A F ?_)) o);rw[oh];exact S.le.refl K _
 cases a
theorem B7(i:C.Fits K)(a:List cq)(d:p)
  (h:fI (gE C a s) (False,[],ak) kN=fI (gE C a s) (True,[],ab) (kO p)):s.le K ((ka (gE C a s)).app s):=by
 obtain⟨m,c,k⟩:=Gu d h;generalize ka (gE C a s)=e at*;unfold gE at c;split at c
 ·rename_i l;cases c;exact q4 i l k
 cases c
end
section
variable {K:Ctx}{C:dQ}
variable {n:Nat}{l:List Oper}{s:S}{Q:Exit->S->Prop}{y c:Code}{p:Prop}
theorem au(a:C.Fits K)(A:List gy)(c:Q .normal ((ka (jc C l.toArray l (jr A) s)).app s))
  (h:fI (jc C l.toArray l (jr A) s) (False,[],ak) kN=fI (jc C l.toArray l (jr A) s) (True,[],ab) (kO (qc A)):=by kernel_rfl):cJ K (.region n l.toArray ak) s Q:=CE a (jr A) (rC A) h c
theorem D(a:C.Fits K)(A:List gy)(c:cJ K y ((ka (jc C l.toArray l (jr A) s)).app s) Q)
  (h:fI (jc C l.toArray l (jr A) s) (False,[],ak) kN=fI (jc C l.toArray l (jr A) s) (True,[],ab) (kO (qc A)):=by kernel_rfl):cJ K (.seq (.region n l.toArray ak) y) s Q:=Az (CE a (jr A) (rC A) h c)
theorem bf(a:C.Fits K)(c:Q .normal ((ka (jc C l.toArray l [] s)).app s))
  (h:fI (jc C l.toArray l [] s) (False,[],ak) kN=fI (jc C l.toArray l [] s) (True,[],ab) (kO True):=by kernel_rfl):cJ K (.region n l.toArray ak) s Q:=CE a [] trivial h c
theorem ag(a:C.Fits K)(c:cJ K y ((ka (jc C l.toArray l [] s)).app s) Q)
  (h:fI (jc C l.toArray l [] s) (False,[],ak) kN=fI (jc C l.toArray l [] s) (True,[],ab) (kO True):=by kernel_rfl):cJ K (.seq (.region n l.toArray ak) y) s Q:=Az (CE a [] trivial h c)
theorem bx(a:C.Fits K)(c:K.P.follows .mixedOrders=ab)(A:List gy)(d:Q .normal ((ka (lN C l (jr A) s)).app s))
  (h:fI (lN C l (jr A) s) (False,[],ak) kN=fI (lN C l (jr A) s) (True,[],ab) (kO (qc A)):=by kernel_rfl):cJ K (.region n l.toArray ab) s Q:=ahw a c (jr A) (rC A) h d
theorem jw(c:C.Fits K)(a:List cq)(h:fI (gE C a s) (False,[],ak) kN=fI (gE C a s) (True,[],ab) (kO True):=by kernel_rfl):s.le K ((ka (gE C a s)).app s):=B7 c a trivial h
theorem r7(d:C.Fits K)(a:List cq)(c:p)(h:fI (gE C a s) (False,[],ak) kN=fI (gE C a s) (True,[],ab) (kO p):=by kernel_rfl):s.le K ((ka (gE C a s)).app s):=B7 d a c h
theorem bS(d:C.Fits K)(a:List cq)(k:cJ K c ((ka (gE C a s)).app s) Q)(h:fI (gE C a s) (False,[],ak) kN=fI (gE C a s) (True,[],ab) (kO True):=by kernel_rfl):cJ K c s Q:=u5 (B7 d a trivial h) k
theorem ep(e:C.Fits K)(a:List cq)(d:p)(k:cJ K c ((ka (gE C a s)).app s) Q)(h:fI (gE C a s) (False,[],ak) kN=fI (gE C a s) (True,[],ab) (kO p):=by kernel_rfl):cJ K c s Q:=u5 (B7 e a d h) k
theorem dP(c:C.Fits K)(a b:Nat)(k:Q .ret ((ka (gE C [.d' b 0 [a] []] s)).app s):=by exact po)
  (h:fI (gE C [.d' b 0 [a] []] s) (False,[],ak) kN=fI (gE C [.d' b 0 [a] []] s) (True,[],ab) (kO True):=by kernel_rfl):cJ K .ret s Q:=k2 (jw c [.d' b 0 [a] []] h) (qr k)
end
def xX(s t:List UInt8):Option Bool:=if s.length<4294967281 then aa (Lib.contains s t) else none
def iN(l:List Int):Option (List Int):=if l.length<=1000000000 then aa l else none
def cmpL:List Int->List Int->Int
 | [],[]=>0
 | [],_::_=> -1
 |_::_,[]=>1
 |x::a,y::c=>if x<y then-1 else if y<x then 1 else cmpL a c
def fB(a:List (List Int)):List (List Int):=a.mergeSort λx y=> !decide (cmpL y x<0)
def mE(a:List (List Int)):Option (List (List Int)):=if a.length<=1000000000/\ ∀l∈a,l.length<=1000000000 then aa (fB a) else none
def ea(a:Nat->Bool)(m:Nat):List Nat:=(List.range m).filter a
def lg(a:List (List Int))(j:Nat):Bool:=decide (j=0\/a.getD j []≠a.getD (j-1) [])
def gS(a:List (List Int)):List (List Int):=(ea (lg a) a.length).map λj=>a.getD j []
def mF(a:Nat)(c:Int)(d:List Int):List Int:=
 let h:=d.erase c++[c]
 if a<h.length then h.drop 1 else h
def fH(size:Nat):List Int->List Int->Nat
 |_,[]=>0
 |held,c::t=>(if c∈held then 0 else 1)+fH size (mF size c held) t
def Ck:List Int->List Int->Nat
 |_,[]=>0
 |seen,c::t=>(if c∈seen then 0 else 1)+Ck (c::seen) t
def uX(l:List Int)(a:Int):Option Int:=aa (if l.length<=600/\0<=a/\a<=40 then(fH a.toNat [] l:Int) else-1)
end Go.Lift
