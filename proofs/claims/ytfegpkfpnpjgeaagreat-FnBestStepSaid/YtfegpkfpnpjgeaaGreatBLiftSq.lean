/- Tools. -/
import Derived.Test.YtfegpkfpnpjgeaaGreatBLiftY
import Derived.Lib.AtoiAll
import Derived.Lib.ItoaNum
import Derived.Lib.Split
set_option linter.unusedVariables false
namespace Go.Lift
open Go
section
variable {K:Ctx}{C:dH}{P:Program}{G:eY}{b9:List (Nat×cf)}
inductive gd where
 |o (h:cq) (p:Prop) (k:p)
 |z (h:cq)
 |q (p:Prop) (k:p)
def iW:List gd->List cq
 | []=>[]
 | .o h _ _::l=>h::iW l
 | .z h::l=>h::iW l
 | .q _ _::l=>iW l
def p2:List gd->Prop
 | []=>True
 | .o _ p _::l=>p/\p2 l
 | .z _::l=>p2 l
 | .q p _::l=>p/\p2 l
theorem rB: ∀l,p2 l
 | []=>trivial
 | .o _ _ k::l=>⟨k,rB l⟩
 | .z _::l=>rB l
 | .q _ k::l=>⟨k,rB l⟩
def aG{c:Bool}(k:c=true):gd:= .o (.b true) _ k
def aB{c:Bool}(k:c=false):gd:= .o (.b false) _ k
def dV:gd:=aG (Eq.refl true)
def bY:gd:=aB (Eq.refl false)
def aJ{a:Type}(r:a->List T)(l:List a):gd:= .o (.nat l.length) _ (PD r l)
def aj{P:Program}{G:eY}{f:FuncId}{a:List V}{r:V}(k:jV P G f a r):gd:= .o (.v r) _ k
def aV(L N:List Nat){P:Program}{G:eY}{f:FuncId}{i:List E}{a:List V}{r:V}{u:List E}(k:jb P G f i a r u):gd:= .o (.dC L N r u) _ k
def a6{a:Type}{l:List a}{i:Int}{x:a}(f:a->List T)(h:ar l i=some x):gd:= .o (.row (f x)) _ (OX f h)
def bg{a:Type}{l:List a}{i:Int}{x:a}(f:a->List T)(h:ar l i=some x):gd:= .o (.row (f x)) _ (b7 f h)
def dJ{o:Option (List UInt8)}{x:List UInt8}(h:o=some x):gd:= .o (.str x) _ h
def fw{o:Option UInt8}{x:UInt8}(h:o=some x):gd:= .o (.y x) _ h
def bK{o:Option (List (List T))}{x:List (List T)}(h:o=some x):gd:= .o (.rows x) _ h
def au{p:Prop}(k:p):gd:= .q p k
def aK(n:Nat){c:Bool}(k:c=true):List gd:=List.replicate n (aG k)
def aC(n:Nat){c:Bool}(k:c=false):List gd:=List.replicate n (aB k)
def dE(n:Nat):List gd:=List.replicate n dV
def dX(n:Nat):List gd:=List.replicate n bY
variable {n:Nat}{l a d c e i p h k:Prop}{s:S}{Q:Exit->S->Prop}{R H:Type}{A B:Option R}{r:R}{x y:Code}{args:List V}{b:Bool}
theorem dk{l:List Oper}(i:C.Fits K)(k:K.P.follows .mixedOrders=true)(A:List gd)(d:List Nat)(a:List (Nat×V))(c:List (Nat×Option E))(e:List (Nat×Bool))(m:Q .normal (s.cl d a c e))
  (h:me (lE C l (iW A) s) uB (uD s d a c)=me (lE C l (iW A) s) uC (uE (p2 A) a c e):=by kernel_rfl):cD K (.region n l.toArray true) s Q:=rd i k (iW A) d a c e (rB A) h m
theorem bp{a:Type}{A:a->Option R}{t:(a->Option R)->Option R}(h:ay A t=some r)(c:a->S)
  (d: ∀j:a->Option R,t j=some r->cD K x s (qm (λk=> ∃z,j z=some r/\k.le K (c z)) Q)) (i: ∀z,A z=some r->cD K y (c z) Q):cD K (.seq x y) s Q:=
 hP (γ:=Unit) (j:=A) (r:=r) (λz _=>c z) (wv (d A h) (λe l q=>by
  cases e with
  |normal=>obtain⟨z,d,i⟩:=q;exact⟨z,(),d,i⟩
  |exit=>exact q
  |goto=>exact q
  |ret=>exact q
  |panic=>exact q
  |outgrown=>exact q)) λz _ h=>i z h
theorem cn{a:(H->Option R)->H->Option R}{d:H}{c:Code}(h:bd a n d=some r)(A:H->S)(m:s.le K (A d))
  (k: ∀(i:H->Option R) (x:H),a i x=some r->cD K c (A x) (BM (λl=> ∃y,i y=some r/\l.le K (A y)) Q)):cD K (.loop c) s Q:=
 w6 (γ:=Unit) h (λz _=>A z) () m (λi x _ o=>wv (k i x o) (λe l q=>by
  cases e with
  |normal=>obtain⟨z,p,w⟩:=q;exact⟨z,(),p,w⟩
  |exit=>exact q
  |goto=>exact q
  |ret=>exact q
  |panic=>exact q
  |outgrown=>exact q))
theorem ag{a:Type}{z:a}{j:a->Option R}{c:a->List (Nat×V)}{d:a->List (Nat×E)}{A:a->List Nat}(h:j z=some r)(k:BQ K.c6 s (c z) (d z) (A z)=(kj (c z),kj (nU (d z)),true):=by kernel_rfl): ∃z,j z=some r/\s.le K (aX (c z) (d z) (A z)):=⟨z,h,QT k⟩
theorem gh{a c:Type}{o:Option a}{g:a->Option R}{f:a->R->Option c}{r:c}(h:(o.bind λx=>(g x).bind (f x))=some r): ∃x,o=some x/\ ∃y,g x=some y/\f x y=some r:=by
 obtain⟨x,d,h⟩:=cU h;obtain⟨y,e,h⟩:=cU h
 grind
theorem lA{a c:Type}{o:Option a}{g:a->Option R}{f:a->R->Option c}{e:a->R->c->Option H}{r:H}(h:(o.bind λx=>(g x).bind λy=>(f x y).bind (e x y))=some r): ∃x,o=some x/\ ∃y,g x=some y/\ ∃z,f x y=some z/\e x y z=some r:=by
 obtain⟨x,d,h⟩:=cU h;obtain⟨y,i,z,k,h⟩:=gh h
 grind
theorem bh{f:FuncId}{d:Func}{c:Code}{r:V}{a:List ResultVar}(i:dP P b9)(k:P.funcs[f]? =some d)(e:(d.name== "runtime.NumGoroutine",d.body,d.results.toList,d.ntmps,Nat.ble args.length n,r.ok gr,Nat.ble a.length 4)=(false,some c,a,n,true,true,true))
  (h: ∀w X,dH.Fits ⟨P,G,b9,n,0,gT⟩ (Ctx.pure P G w X n)->cD (Ctx.pure P G w X n) c (start args) (PH b9 a r)):jV P G f args r:=by simp only[Prod.mk.injEq] at e;exact Q1 i k e.1 e.2.1 e.2.2.1 e.2.2.2.1 e.2.2.2.2.1 e.2.2.2.2.2.1 e.2.2.2.2.2.2 h
theorem ct{f:FuncId}{d:Func}{c:Code}{a out:List E}{r:V}{i:Nat}{e:List ResultVar}(m:dP P b9)(o:P.funcs[f]? =some d)(k:(d.name== "runtime.NumGoroutine",d.body,d.results.toList,d.ntmps,a.length,Nat.ble args.length n,Nat.ble i out.length,Nat.ble e.length 4)=(false,some c,e,n,i,true,true,true))
  (h: ∀w X l,dH.Fits ⟨P,G,b9,n,i,l⟩ (Ctx.dC P G w X i l n)->tW l a 0->cD (Ctx.dC P G w X i l n) c (lY a args) (PG b9 e r out)):jb P G f a args r out:=by simp only[Prod.mk.injEq] at k;exact ag7 m o k.1 k.2.1 k.2.2.1 k.2.2.2.1 k.2.2.2.2.1 k.2.2.2.2.2.1 k.2.2.2.2.2.2.1 k.2.2.2.2.2.2.2 h
theorem dK(k:C.Fits K)(d:List cq)(e:List Nat)(a:List (Nat×V))(c:List (Nat×Option E))(i:List (Nat×Bool))
  (h:me (gm C d s) uB (uD s e a c)=me (gm C d s) uC (uE True a c i):=by kernel_rfl):s.le K (s.cl e a c i):=ais k d e a c i h
theorem aH{a:List (Nat×V)}{c:List (Nat×E)}{r:List Nat}(h:BQ K.c6 s a c r=(kj a,kj (nU c),true):=by kernel_rfl):s.le K (aX a c r):=QT h
theorem dC{c:Operand}(a:b=true->cD K x s Q)(d:b=false->cD K y s Q)(e:s.get c= .t (.bool b):=by kernel_rfl):cD K (.cond c x y) s Q:=j3 e a d
theorem av{c:Operand}(h:(bif b then A else B)=some r)(a:b=true->A=some r->cD K x s Q)(d:b=false->B=some r->cD K y s Q)(i:s.get c= .t (.bool b):=by kernel_rfl):cD K (.cond c x y) s Q:=
 j3 i (λe=>a e (hK e h)) λe=>d e (hJ e h)
theorem aU{P:Prop}(h:(bif b then A else B)=some r)(a:b=false->B=some r->P)(c:b=true->A=some r->P):P:=j6 b (λe=>a e (hJ e h)) λe=>c e (hK e h)
theorem qq{e:List ResultVar}{r:V}{a:List E}(h:(xC r (iV b9 s e),tN s a 0,r.ok (d5 a.length)&&ub (d5 a.length) a)=(some r,tJ a,true):=by kernel_rfl):
  ∃c,iV b9 s e=some c/\dv (nW c) r/\r.ok (d5 a.length)=true/\lv s.H (d5 a.length) (eN a 0):=acY h
theorem aii{a:List ResultVar}{r:V}(h:xC r (iV b9 s a)=some r:=by kernel_rfl): ∃c,iV b9 s a=some c/\dv (nW c) r:=Pw h
theorem a0:True:=trivial
theorem aI(a:p):p/\True:=⟨a,trivial⟩
theorem a2{E:Prop}(a:p)(c:E):p/\E/\True:=⟨a,c,trivial⟩
theorem a3{E:Prop}(c:p)(d:E)(e:a):p/\E/\a/\True:=⟨c,d,e,trivial⟩
theorem a4{E:Prop}(d:p)(e:E)(h:a)(i:c):p/\E/\a/\c/\True:=⟨d,e,h,i,trivial⟩
theorem a5{E:Prop}(e:p)(h:E)(i:a)(k:c)(l:d):p/\E/\a/\c/\d/\True:=⟨e,h,i,k,l,trivial⟩
theorem jz{E:Prop}(h:p)(i:E)(k:a)(l:c)(m:d)(n:e):p/\E/\a/\c/\d/\e/\True:=⟨h,i,k,l,m,n,trivial⟩
theorem iH{E:Prop}(i:p)(k:E)(l:a)(m:c)(n:d)(o:e)(q:h):p/\E/\a/\c/\d/\e/\h/\True:=⟨i,k,l,m,n,o,q,trivial⟩
theorem fi{E:Prop}(k:p)(l:E)(m:a)(n:c)(o:d)(q:e)(r:h)(s:i):p/\E/\a/\c/\d/\e/\h/\i/\True:=⟨k,l,m,n,o,q,r,s,trivial⟩
theorem a9{E:Prop}(l:p)(m:E)(n:a)(o:c)(q:d)(r:e)(s:h)(w:i)(x:k):p/\E/\a/\c/\d/\e/\h/\i/\k/\True:=⟨l,m,n,o,q,r,s,w,x,trivial⟩
theorem SB{E:Prop}(n:E)(o:a)(q:c)(r:d)(s:e)(w:h)(x:i)(y:k)(z:l)(m:p):E/\a/\c/\d/\e/\h/\i/\k/\l/\p/\True:=⟨n,o,q,r,s,w,x,y,z,m,trivial⟩
theorem a12{m n E:Prop}(s:c)(w:d)(x:e)(y:h)(z:i)(A:k)(B:l)(F:m)(H:n)(o:p)(q:E)(r:a):c/\d/\e/\h/\i/\k/\l/\m/\n/\p/\E/\a/\True:=⟨s,w,x,y,z,A,B,F,H,o,q,r,trivial⟩
def HQ:Nat->Nat->List Nat
 |_,0=>[]
 |a,n+1=>a::HQ (a+1) n
abbrev ke(l:List V):Option E:=some (E.cells l)
theorem ai(h:cD K x s (qm (λa=>cD K y a Q) Q)):cD K (.seq x y) s Q:=A4 h
theorem a'{c:Code}(h:cD K c s (xt n Q)):cD K (.block n c) s Q:=XN h
theorem aq(h:Q .normal s):cD K .skip s Q:=X9 h
theorem qr(h:Q .ret s):cD K .ret s Q:=aah h
theorem bl(h:Q (.exit n) s):cD K (.exit n) s Q:=Ya h
theorem kH{c:Code}{a:S}(d:s.le K a)(h:cD K c a Q):cD K c s Q:=vr d h
abbrev bM(a:List (Nat×V)):S:=aX a [] []
abbrev aT:V:=V.t T.fe
abbrev JG(p:Prop)[Decidable p]:V:=aM (decide p)
def bs{R:Type}{r:R->List T}(n:Nat)(k: ∀a,(r a).length=n)(l:List R):gd:=au (iu (r:=r) n k l)
def cG(l:List Int):gd:=bs (r:=I) 1 (λ_=>rfl) l
theorem ax(h:Q .ret s:=by exact aii):cD K .ret s Q:=qr h
theorem cv(h:Q .ret s:=by exact qq):cD K .ret s Q:=qr h
theorem bu{c:Code}(h:cD K c s (xt n (qm (λa=>cD K y a Q) Q))):cD K (.seq (.block n c) y) s Q:=ai (a' h)
theorem cM{c:Operand}{z:Code}(h:(bif b then A else B)=some r)(d:b=true->A=some r->cD K x s (qm (λa=>cD K z a Q) Q))(e:b=false->B=some r->cD K y s (qm (λa=>cD K z a Q) Q))(i:s.get c= .t (.bool b):=by kernel_rfl):cD K (.seq (.cond c x y) z) s Q:=ai (av h d e i)
theorem b'{a:(H->Option R)->H->Option R}{v:H}{c:Code}(h:bd a n v=some r)(A:H->Nat->S)(i:Nat)(k:s.le K (A v i))(e: ∀(d:H->Option R) (x:H) (g:Nat),a d x=some r->cD K c (A x g) (BM (λl=> ∃y m,d y=some r/\l.le K (A y m)) Q)):cD K (.loop c) s Q:=w6 (γ:=Nat) h A i k e
theorem ae{a:Type}{o:Option a}{f:a->Option R}{P:Prop}(h:o.bind f=some r)(k: ∀x,o=some x->f x=some r->P):P:=by obtain⟨x,c,d⟩:=cU h;exact k x c d
theorem bA{a γ:Type}{o:Option a}{g:a->Option R}{f:a->R->Option γ}{r:γ}{P:Prop}(h:(o.bind λx=>(g x).bind (f x))=some r)(k: ∀x,o=some x-> ∀y,g x=some y->f x y=some r->P):P:=by obtain⟨x,c,y,d,e⟩:=gh h;exact k x c y d e
theorem cj{a c:Type}{o:Option a}{g:a->Option R}{f:a->R->Option c}{e:a->R->c->Option H}{r:H}{P:Prop}(h:(o.bind λx=>(g x).bind λy=>(f x y).bind (e x y))=some r)(k: ∀x,o=some x-> ∀y,g x=some y-> ∀z,f x y=some z->e x y z=some r->P):P:=by obtain⟨x,d,y,i,z,l,m⟩:=lA h;exact k x d y i z l m
end
section
variable {K:Ctx}{C:dH}
def jY:Option (cN×List dc)->cN
 |some r=>r.1
 |none=>⟨[],[],[]⟩
def ks(r:cN×List dc):Prop×List Nat×Bool:=(yy r.2,vp r.2,true)
def kt(a:Prop)(r:cN×List dc):Prop×List Nat×Bool:=(a,vq r.2,true)
def fl(x:Option (cN×List dc))(n:Prop×List Nat×Bool)(f:cN×List dc->Prop×List Nat×Bool):Prop×List Nat×Bool:=match x with
 |some r=>f r
 |none=>n
variable {p:Prop}{n:Nat}{l:List Oper}{s:S}{Q:Exit->S->Prop}
theorem GO{x:Option (cN×List dc)}(c:p)(h:fl x (False,[],false) ks=fl x (True,[],true) (kt p)): ∃a,x=some (jY x,a)/\cc a:=by
 cases x with
 |none=>simp[fl] at h
 |some r=>
  obtain⟨e,a⟩:=r;simp only[fl,ks,kt,Prod.mk.injEq] at h;obtain⟨d,i,_⟩:=h;exact⟨a,rfl,cc.of (d▸c) i⟩
theorem C8(d:C.Fits K)(a:List cq)(c:p)
  (h:fl (iJ C l.toArray l a s) (False,[],false) ks=fl (iJ C l.toArray l a s) (True,[],true) (kt p)) (e:Q .normal ((jY (iJ C l.toArray l a s)).app s)):cD K (.region n l.toArray false) s Q:=by obtain⟨m,i,k⟩:=GO c h;exact S5 _ (OT d i k (Yb (S.le.refl K _))) e
theorem agJ(k:C.Fits K)(m:K.P.follows .mixedOrders=true)(c:List cq)(d:p)
  (h:fl (lE C l c s) (False,[],false) ks=fl (lE C l c s) (True,[],true) (kt p)) (o:Q .normal ((jY (lE C l c s)).app s)):cD K (.region n l.toArray true) s Q:=by
 obtain⟨G,a,q⟩:=GO d h;generalize jY (lE C l c s)=e at*;unfold lE at a;split at a
 ·cases a
 rename_i H r w x;split at a
 ·cases a
 rename_i y z A;split at a
 ·rename_i i;cases a;simp only[Bool.and_eq_true] at i;obtain⟨B,F⟩:=cc.app q;refine vr (q3 k x B) (OE (s2:=_) (M5 y m i.1 i.2 (GY k A F ?_)) o);rw[nr];exact S.le.refl K _
 cases a
theorem Cu(i:C.Fits K)(a:List cq)(d:p)
  (h:fl (gm C a s) (False,[],false) ks=fl (gm C a s) (True,[],true) (kt p)):s.le K ((jY (gm C a s)).app s):=by
 obtain⟨m,c,k⟩:=GO d h;generalize jY (gm C a s)=e at*;unfold gm at c;split at c
 ·rename_i l;cases c;exact q3 i l k
 cases c
end
section
variable {K:Ctx}{C:dH}
variable {n:Nat}{l:List Oper}{s:S}{Q:Exit->S->Prop}{y c:Code}{p:Prop}
theorem ak(a:C.Fits K)(A:List gd)(c:Q .normal ((jY (iJ C l.toArray l (iW A) s)).app s))
  (h:fl (iJ C l.toArray l (iW A) s) (False,[],false) ks=fl (iJ C l.toArray l (iW A) s) (True,[],true) (kt (p2 A)):=by kernel_rfl):cD K (.region n l.toArray false) s Q:=C8 a (iW A) (rB A) h c
theorem D(a:C.Fits K)(A:List gd)(c:cD K y ((jY (iJ C l.toArray l (iW A) s)).app s) Q)
  (h:fl (iJ C l.toArray l (iW A) s) (False,[],false) ks=fl (iJ C l.toArray l (iW A) s) (True,[],true) (kt (p2 A)):=by kernel_rfl):cD K (.seq (.region n l.toArray false) y) s Q:=A4 (C8 a (iW A) (rB A) h c)
theorem bc(a:C.Fits K)(c:Q .normal ((jY (iJ C l.toArray l [] s)).app s))
  (h:fl (iJ C l.toArray l [] s) (False,[],false) ks=fl (iJ C l.toArray l [] s) (True,[],true) (kt True):=by kernel_rfl):cD K (.region n l.toArray false) s Q:=C8 a [] trivial h c
theorem ad(a:C.Fits K)(c:cD K y ((jY (iJ C l.toArray l [] s)).app s) Q)
  (h:fl (iJ C l.toArray l [] s) (False,[],false) ks=fl (iJ C l.toArray l [] s) (True,[],true) (kt True):=by kernel_rfl):cD K (.seq (.region n l.toArray false) y) s Q:=A4 (C8 a [] trivial h c)
theorem br(a:C.Fits K)(c:K.P.follows .mixedOrders=true)(A:List gd)(d:Q .normal ((jY (lE C l (iW A) s)).app s))
  (h:fl (lE C l (iW A) s) (False,[],false) ks=fl (lE C l (iW A) s) (True,[],true) (kt (p2 A)):=by kernel_rfl):cD K (.region n l.toArray true) s Q:=agJ a c (iW A) (rB A) h d
theorem je(c:C.Fits K)(a:List cq)(h:fl (gm C a s) (False,[],false) ks=fl (gm C a s) (True,[],true) (kt True):=by kernel_rfl):s.le K ((jY (gm C a s)).app s):=Cu c a trivial h
theorem nm(d:C.Fits K)(a:List cq)(c:p)(h:fl (gm C a s) (False,[],false) ks=fl (gm C a s) (True,[],true) (kt p):=by kernel_rfl):s.le K ((jY (gm C a s)).app s):=Cu d a c h
theorem bJ(d:C.Fits K)(a:List cq)(k:cD K c ((jY (gm C a s)).app s) Q)(h:fl (gm C a s) (False,[],false) ks=fl (gm C a s) (True,[],true) (kt True):=by kernel_rfl):cD K c s Q:=vr (Cu d a trivial h) k
theorem c4(e:C.Fits K)(a:List cq)(d:p)(k:cD K c ((jY (gm C a s)).app s) Q)(h:fl (gm C a s) (False,[],false) ks=fl (gm C a s) (True,[],true) (kt p):=by kernel_rfl):cD K c s Q:=vr (Cu e a d h) k
theorem dW(c:C.Fits K)(a b:Nat)(k:Q .ret ((jY (gm C [.dp a b 0] s)).app s):=by exact qq)
  (h:fl (gm C [.dp a b 0] s) (False,[],false) ks=fl (gm C [.dp a b 0] s) (True,[],true) (kt True):=by kernel_rfl):cD K .ret s Q:=kH (je c [.dp a b 0] h) (qr k)
end
def yn(s t:List UInt8):Option Bool:=if s.length<4294967281 then some (Lib.contains s t) else none
def jL(l:List Int):Option (List Int):=if l.length<=1000000000 then some l else none
def cmpL:List Int->List Int->Int
 | [],[]=>0
 | [],_::_=> -1
 |_::_,[]=>1
 |x::a,y::c=>if x<y then-1 else if y<x then 1 else cmpL a c
def fb(a:List (List Int)):List (List Int):=a.mergeSort λx y=> !decide (cmpL y x<0)
def mD(a:List (List Int)):Option (List (List Int)):=if a.length<=1000000000/\ ∀l∈a,l.length<=1000000000 then some (fb a) else none
def dS(a:Nat->Bool)(m:Nat):List Nat:=(List.range m).filter a
def kW(a:List (List Int))(j:Nat):Bool:=decide (j=0\/a.getD j []≠a.getD (j-1) [])
def gB(a:List (List Int)):List (List Int):=(dS (kW a) a.length).map λj=>a.getD j []
def nF(a:Nat)(c:Int)(d:List Int):List Int:=
 let h:=d.erase c++[c]
 if a<h.length then h.drop 1 else h
def fG(size:Nat):List Int->List Int->Nat
 |_,[]=>0
 |held,c::t=>(if c∈held then 0 else 1)+fG size (nF size c held) t
def CM:List Int->List Int->Nat
 |_,[]=>0
 |seen,c::t=>(if c∈seen then 0 else 1)+CM (c::seen) t
def vi(l:List Int)(a:Int):Option Int:=some (if l.length<=600/\0<=a/\a<=40 then(fG a.toNat [] l:Int) else-1)
end Go.Lift
