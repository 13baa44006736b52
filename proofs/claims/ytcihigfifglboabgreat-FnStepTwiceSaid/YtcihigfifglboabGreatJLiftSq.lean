/- Tools. -/
import Derived.Test.YtcihigfifglboabGreatJLiftY
import Derived.Lib.AtoiAll
import Derived.Lib.ItoaNum
import Derived.Lib.Split
set_option linter.unusedVariables false
namespace Go.Lift
open Go
section
variable {K:Ctx} {C:dM} {P:Program} {G:fe} {cc:List (Nat×cj)}
inductive gl where
 |o (h:cr) (p:Prop) (k:p)
 |z (h:cr)
 |q (p:Prop) (k:p)
def iZ:List gl->List cr
 | []=>[]
 | .o h _ _::l=>h::iZ l
 | .z h::l=>h::iZ l
 | .q _ _::l=>iZ l
def p0:List gl->Prop
 | []=>True
 | .o _ p _::l=>p/\p0 l
 | .z _::l=>p0 l
 | .q p _::l=>p/\p0 l
theorem rp: ∀l,p0 l
 | []=>trivial
 | .o _ _ k::l=>⟨k,rp l⟩
 | .z _::l=>rp l
 | .q _ k::l=>⟨k,rp l⟩
def aI{c:Bool}(k:c=true):gl:= .o (.b true) _ k
def aB{c:Bool}(k:c=false):gl:= .o (.b false) _ k
def eb:gl:=aI (Eq.refl true)
def b2:gl:=aB (Eq.refl false)
def aN{k:Type}(r:k->List T)(l:List k):gl:= .o (.nat l.length) _ (OU r l)
def an{P:Program}{G:fe}{f:FuncId}{a:List V}{r:V}(k:kW P G f a r):gl:= .o (.v r) _ k
def aX(L N:List Nat){P:Program}{G:fe}{f:FuncId}{i:List E}{a:List V}{r:V}{u:List E}(k:jc P G f i a r u):gl:= .o (.dJ L N r u) _ k
def ba{k:Type}{l:List k}{i:Int}{x:k}(f:k->List T)(h:au l i=some x):gl:= .o (.row (f x)) _ (Oi f h)
def bo{k:Type}{l:List k}{i:Int}{x:k}(f:k->List T)(h:au l i=some x):gl:= .o (.row (f x)) _ (ca f h)
def dO{o:Option (List UInt8)}{x:List UInt8}(h:o=some x):gl:= .o (.str x) _ h
def fK{o:Option UInt8}{x:UInt8}(h:o=some x):gl:= .o (.y x) _ h
def bV{o:Option (List (List T))}{x:List (List T)}(h:o=some x):gl:= .o (.rows x) _ h
def ax{p:Prop}(k:p):gl:= .q p k
def aK(n:Nat){c:Bool}(k:c=true):List gl:=List.replicate n (aI k)
def aC(n:Nat){c:Bool}(k:c=false):List gl:=List.replicate n (aB k)
def dI(n:Nat):List gl:=List.replicate n eb
def dZ(n:Nat):List gl:=List.replicate n b2
variable {i n:Nat}{l a d c e p h:Prop}{s:S}{Q:Exit->S->Prop}{k R H:Type}{A o B:Option R}{r:R}{x y:Code}{g:k->Option R}{f:k->R->Option H}{args:List V}{b:Bool}
theorem dk{l:List Oper}(k:C.Fits K)(m:K.P.follows .mixedOrders=true)(A:List gl)(d:List Nat)(a:List (Nat×V))(c:List (Nat×Option E))(e:List (Nat×Bool))(n:Q .normal (s.cl d a c e))
  (h:mf (lJ C l (iZ A) s) uh (uj s d a c)=mf (lJ C l (iZ A) s) ui (uk (p0 A) a c e):=by kernel_rfl):cK K (.region i l.toArray true) s Q:=rd k m (iZ A) d a c e (rp A) h n
theorem bq{A:k->Option R}{t:(k->Option R)->Option R}(h:aA A t=some r)(I:k->S)
  (a: ∀j:k->Option R,t j=some r->cK K x s (qd (λd=> ∃z,j z=some r/\d.le K (I z)) Q)) (c: ∀z,A z=some r->cK K y (I z) Q):cK K (.seq x y) s Q:=
 hq (γ:=Unit) (j:=A) (r:=r) (λz _=>I z) (vZ (a A h) (λe i q=>by
  cases e with
  |normal=>obtain⟨z,a,c⟩:=q;exact⟨z,(),a,c⟩
  |exit=>exact q
  |goto=>exact q
  |ret=>exact q
  |panic=>exact q
  |outgrown=>exact q)) λz _ h=>c z h
theorem cg{a:(k->Option R)->k->Option R}{d:k}{c:Code}(h:bp a n d=some r)(I:k->S)(o:s.le K (I d))
  (l: ∀(i:k->Option R) (x:k),a i x=some r->cK K c (I x) (Bl (λm=> ∃y,i y=some r/\m.le K (I y)) Q)):cK K (.loop c) s Q:=
 wN (γ:=Unit) h (λz _=>I z) () o (λi x _ p=>vZ (l i x p) (λe m q=>by
  cases e with
  |normal=>obtain⟨z,w,A⟩:=q;exact⟨z,(),w,A⟩
  |exit=>exact q
  |goto=>exact q
  |ret=>exact q
  |panic=>exact q
  |outgrown=>exact q))
theorem ai{z:H}{j:H->Option R}{a:H->List (Nat×V)}{c:H->List (Nat×E)}{U:H->List Nat}(h:j z=some r)(k:Bx K.c' s (a z) (c z) (U z)=(kq (a z),kq (nP (c z)),true):=by kernel_rfl): ∃z,j z=some r/\s.le K (a7 (a z) (c z) (U z)):=⟨z,h,Qj k⟩
theorem gn{o:Option k}{r:H}(h:(o.bind λx=>(g x).bind (f x))=some r): ∃x,o=some x/\ ∃y,g x=some y/\f x y=some r:=by obtain⟨x,a,h⟩:=cT h;obtain⟨y,c,h⟩:=cT h;exact⟨x,a,y,c,h⟩
theorem lG{a:Type}{o:Option k}{e:k->R->H->Option a}{r:a}(h:(o.bind λx=>(g x).bind λy=>(f x y).bind (e x y))=some r): ∃x,o=some x/\ ∃y,g x=some y/\ ∃z,f x y=some z/\e x y z=some r:=by obtain⟨x,c,h⟩:=cT h;obtain⟨y,d,z,i,h⟩:=gn h;exact⟨x,c,y,d,z,i,h⟩
theorem bl{f:FuncId}{d:Func}{c:Code}{r:V}{a:List ResultVar}(k:dU P cc)(l:P.funcs[f]? =some d)(e:(d.name== "runtime.NumGoroutine",d.body,d.results.toList,d.ntmps,Nat.ble args.length i,r.ok gx,Nat.ble a.length 4)=(false,some c,a,i,true,true,true))
  (h: ∀w X,dM.Fits ⟨P,G,cc,i,0,g'⟩ (Ctx.pure P G w X i)->cK (Ctx.pure P G w X i) c (start args) (O6 cc a r)):kW P G f args r:=by simp only[Prod.mk.injEq] at e;exact Qo k l e.1 e.2.1 e.2.2.1 e.2.2.2.1 e.2.2.2.2.1 e.2.2.2.2.2.1 e.2.2.2.2.2.2 h
theorem cy{f:FuncId}{d:Func}{c:Code}{a out:List E}{r:V}{e:List ResultVar}(m:dU P cc)(o:P.funcs[f]? =some d)(k:(d.name== "runtime.NumGoroutine",d.body,d.results.toList,d.ntmps,a.length,Nat.ble args.length i,Nat.ble n out.length,Nat.ble e.length 4)=(false,some c,e,i,n,true,true,true))
  (h: ∀w X l,dM.Fits ⟨P,G,cc,i,n,l⟩ (Ctx.dJ P G w X n l i)->tI l a 0->cK (Ctx.dJ P G w X n l i) c (l2 a args) (O5 cc e r out)):jc P G f a args r out:=by simp only[Prod.mk.injEq] at k;exact afT m o k.1 k.2.1 k.2.2.1 k.2.2.2.1 k.2.2.2.2.1 k.2.2.2.2.2.1 k.2.2.2.2.2.2.1 k.2.2.2.2.2.2.2 h
theorem dR(k:C.Fits K)(d:List cr)(e:List Nat)(a:List (Nat×V))(c:List (Nat×Option E))(i:List (Nat×Bool))
  (h:mf (gv C d s) uh (uj s e a c)=mf (gv C d s) ui (uk True a c i):=by kernel_rfl):s.le K (s.cl e a c i):=ahh k d e a c i h
theorem aM{a:List (Nat×V)}{c:List (Nat×E)}{r:List Nat}(h:Bx K.c' s a c r=(kq a,kq (nP c),true):=by kernel_rfl):s.le K (a7 a c r):=Qj h
theorem dJ{c:Operand}(a:b=true->cK K x s Q)(d:b=false->cK K y s Q)(e:s.get c= .t (.bool b):=by kernel_rfl):cK K (.cond c x y) s Q:=j5 e a d
theorem aw{c:Operand}(h:(bif b then A else B)=some r)(a:b=true->A=some r->cK K x s Q)(d:b=false->B=some r->cK K y s Q)(i:s.get c= .t (.bool b):=by kernel_rfl):cK K (.cond c x y) s Q:=
 j5 i (λe=>a e (hN e h)) λe=>d e (hM e h)
theorem aZ{P:Prop}(h:(bif b then A else B)=some r)(a:b=false->B=some r->P)(c:b=true->A=some r->P):P:=j7 b (λe=>a e (hM e h)) λe=>c e (hN e h)
theorem qh{e:List ResultVar}{r:V}{a:List E}(h:(xf r (iY cc s e),tB s a 0,r.ok (e4 a.length)&&tZ (e4 a.length) a)=(some r,tv a,true):=by kernel_rfl):
  ∃c,iY cc s e=some c/\dC (nR c) r/\r.ok (e4 a.length)=true/\lB s.H (e4 a.length) (eW a 0):=abQ h
theorem ag6{a:List ResultVar}{r:V}(h:xf r (iY cc s a)=some r:=by kernel_rfl): ∃c,iY cc s a=some c/\dC (nR c) r:=O0 h
theorem a0:True:=trivial
theorem aJ(a:p):p/\True:=⟨a,trivial⟩
theorem a2{E:Prop}(a:p)(c:E):p/\E/\True:=⟨a,c,trivial⟩
theorem a3{E:Prop}(c:p)(d:E)(e:a):p/\E/\a/\True:=⟨c,d,e,trivial⟩
theorem a4{E:Prop}(d:p)(e:E)(h:a)(i:c):p/\E/\a/\c/\True:=⟨d,e,h,i,trivial⟩
theorem a5{E:Prop}(e:p)(h:E)(i:a)(k:c)(l:d):p/\E/\a/\c/\d/\True:=⟨e,h,i,k,l,trivial⟩
theorem ig{E:Prop}(h:p)(i:E)(k:a)(l:c)(m:d)(n:e):p/\E/\a/\c/\d/\e/\True:=⟨h,i,k,l,m,n,trivial⟩
theorem iH{E:Prop}(i:p)(k:E)(l:a)(m:c)(n:d)(o:e)(q:h):p/\E/\a/\c/\d/\e/\h/\True:=⟨i,k,l,m,n,o,q,trivial⟩
theorem fh{E i:Prop}(k:p)(l:E)(m:a)(n:c)(o:d)(q:e)(r:h)(s:i):p/\E/\a/\c/\d/\e/\h/\i/\True:=⟨k,l,m,n,o,q,r,s,trivial⟩
theorem a9{E i k:Prop}(l:p)(m:E)(n:a)(o:c)(q:d)(r:e)(s:h)(w:i)(x:k):p/\E/\a/\c/\d/\e/\h/\i/\k/\True:=⟨l,m,n,o,q,r,s,w,x,trivial⟩
theorem RS{E i k:Prop}(n:E)(o:a)(q:c)(r:d)(s:e)(w:h)(x:i)(y:k)(z:l)(m:p):E/\a/\c/\d/\e/\h/\i/\k/\l/\p/\True:=⟨n,o,q,r,s,w,x,y,z,m,trivial⟩
theorem a12{i k m n E:Prop}(s:c)(w:d)(x:e)(y:h)(z:i)(A:k)(B:l)(D:m)(F:n)(o:p)(q:E)(r:a):c/\d/\e/\h/\i/\k/\l/\m/\n/\p/\E/\a/\True:=⟨s,w,x,y,z,A,B,D,F,o,q,r,trivial⟩
def Hg:Nat->Nat->List Nat
 |_,0=>[]
 |a,n+1=>a::Hg (a+1) n
abbrev kl(l:List V):Option E:=some (E.cells l)
theorem al(h:cK K x s (qd (λa=>cK K y a Q) Q)):cK K (.seq x y) s Q:=AL h
theorem bd{c:Code}(h:cK K c s (w9 i Q)):cK K (.block i c) s Q:=WD h
theorem av(h:Q .normal s):cK K .skip s Q:=Ye h
theorem qr(h:Q .ret s):cK K .ret s Q:=Y9 h
theorem bs(h:Q (.exit i) s):cK K (.exit i) s Q:=Yg h
theorem kK{c:Code}{a:S}(d:s.le K a)(h:cK K c a Q):cK K c s Q:=vb d h
abbrev bN(a:List (Nat×V)):S:=a7 a [] []
abbrev aW:V:=V.t T.fo
abbrev I7(p:Prop)[Decidable p]:V:=aL (decide p)
def bG{R:Type}{r:R->List T}(n:Nat)(k: ∀a,(r a).length=n)(l:List R):gl:=ax (iu (r:=r) n k l)
def dm(l:List Int):gl:=bG (r:=ae) 1 (λ_=>rfl) l
theorem az(h:Q .ret s:=by exact ag6):cK K .ret s Q:=qr h
theorem cA(h:Q .ret s:=by exact qh):cK K .ret s Q:=qr h
theorem bH{c:Code}(h:cK K c s (w9 i (qd (λa=>cK K y a Q) Q))):cK K (.seq (.block i c) y) s Q:=al (bd h)
theorem cR{c:Operand}{z:Code}(h:(bif b then A else B)=some r)(d:b=true->A=some r->cK K x s (qd (λa=>cK K z a Q) Q))(e:b=false->B=some r->cK K y s (qd (λa=>cK K z a Q) Q))(i:s.get c= .t (.bool b):=by kernel_rfl):cK K (.seq (.cond c x y) z) s Q:=al (aw h d e i)
theorem cD{a:(k->Option R)->k->Option R}{v:k}{c:Code}(h:bp a n v=some r)(I:k->Nat->S)(i:Nat)(l:s.le K (I v i))(e: ∀(d:k->Option R) (x:k) (g:Nat),a d x=some r->cK K c (I x g) (Bl (λm=> ∃y o,d y=some r/\m.le K (I y o)) Q)):cK K (.loop c) s Q:=wN (γ:=Nat) h I i l e
theorem aj{f:R->Option H}{r:H}{P:Prop}(h:o.bind f=some r)(k: ∀x,o=some x->f x=some r->P):P:=by obtain⟨x,a,c⟩:=cT h;exact k x a c
theorem bK{γ:Type}{g:R->Option H}{f:R->H->Option γ}{r:γ}{P:Prop}(h:(o.bind λx=>(g x).bind (f x))=some r)(k: ∀x,o=some x-> ∀y,g x=some y->f x y=some r->P):P:=by obtain⟨x,a,y,c,d⟩:=gn h;exact k x a y c d
theorem cq{a c:Type}{g:R->Option H}{f:R->H->Option a}{e:R->H->a->Option c}{r:c}{P:Prop}(h:(o.bind λx=>(g x).bind λy=>(f x y).bind (e x y))=some r)(k: ∀x,o=some x-> ∀y,g x=some y-> ∀z,f x y=some z->e x y z=some r->P):P:=by obtain⟨x,d,y,i,z,l,m⟩:=lG h;exact k x d y i z l m
end
section
variable {K:Ctx} {C:dM}
def j0:Option (cS×List dh)->cS
 |some r=>r.1
 |none=>⟨[],[],[]⟩
def kz(r:cS×List dh):Prop×List Nat×Bool:=(x' r.2,u' r.2,true)
def kA(a:Prop)(r:cS×List dh):Prop×List Nat×Bool:=(a,va r.2,true)
def fw(x:Option (cS×List dh))(n:Prop×List Nat×Bool)(f:cS×List dh->Prop×List Nat×Bool):Prop×List Nat×Bool:=match x with
 |some r=>f r
 |none=>n
variable {p:Prop}{i:Nat}{l:List Oper}{s:S}{Q:Exit->S->Prop}
theorem Gk{x:Option (cS×List dh)}(c:p)(h:fw x (False,[],false) kz=fw x (True,[],true) (kA p)): ∃a,x=some (j0 x,a)/\cf a:=by
 cases x with
 |none=>simp[fw] at h
 |some r=>
  obtain⟨e,a⟩:=r;simp only[fw,kz,kA,Prod.mk.injEq] at h;obtain⟨d,i,_⟩:=h;exact⟨a,rfl,cf.of (d▸c) i⟩
theorem CP(d:C.Fits K)(a:List cr)(c:p)
  (h:fw (iK C l.toArray l a s) (False,[],false) kz=fw (iK C l.toArray l a s) (True,[],true) (kA p)) (e:Q .normal ((j0 (iK C l.toArray l a s)).app s)):cK K (.region i l.toArray false) s Q:=by obtain⟨n,k,m⟩:=Gk c h;exact Sf _ (Oe d k m (Yh (S.le.refl K _))) e
theorem afx(m:C.Fits K)(n:K.P.follows .mixedOrders=true)(c:List cr)(d:p)
  (h:fw (lJ C l c s) (False,[],false) kz=fw (lJ C l c s) (True,[],true) (kA p)) (o:Q .normal ((j0 (lJ C l c s)).app s)):cK K (.region i l.toArray true) s Q:=by
 obtain⟨F,a,q⟩:=Gk d h;generalize j0 (lJ C l c s)=e at*;unfold lJ at a;split at a
 ·cases a
 rename_i G r w x;split at a
 ·cases a
 rename_i y z A;split at a
 ·rename_i k;cases a;simp only[Bool.and_eq_true] at k;obtain⟨B,D⟩:=cf.app q;refine vb (qR m x B) (N9 (s2:=_) (Mk y n k.1 k.2 (Gs m A D ?_)) o);rw[nm];exact S.le.refl K _
 cases a
theorem Cd(i:C.Fits K)(a:List cr)(d:p)
  (h:fw (gv C a s) (False,[],false) kz=fw (gv C a s) (True,[],true) (kA p)):s.le K ((j0 (gv C a s)).app s):=by
 obtain⟨m,c,k⟩:=Gk d h;generalize j0 (gv C a s)=e at*;unfold gv at c;split at c
 ·rename_i l;cases c;exact qR i l k
 cases c
end
section
variable {K:Ctx} {C:dM}
variable {i:Nat}{l:List Oper}{s:S}{Q:Exit->S->Prop}{y c:Code}{p:Prop}
theorem ao(a:C.Fits K)(A:List gl)(c:Q .normal ((j0 (iK C l.toArray l (iZ A) s)).app s))
  (h:fw (iK C l.toArray l (iZ A) s) (False,[],false) kz=fw (iK C l.toArray l (iZ A) s) (True,[],true) (kA (p0 A)):=by kernel_rfl):cK K (.region i l.toArray false) s Q:=CP a (iZ A) (rp A) h c
theorem ad(a:C.Fits K)(A:List gl)(c:cK K y ((j0 (iK C l.toArray l (iZ A) s)).app s) Q)
  (h:fw (iK C l.toArray l (iZ A) s) (False,[],false) kz=fw (iK C l.toArray l (iZ A) s) (True,[],true) (kA (p0 A)):=by kernel_rfl):cK K (.seq (.region i l.toArray false) y) s Q:=AL (CP a (iZ A) (rp A) h c)
theorem bg(a:C.Fits K)(c:Q .normal ((j0 (iK C l.toArray l [] s)).app s))
  (h:fw (iK C l.toArray l [] s) (False,[],false) kz=fw (iK C l.toArray l [] s) (True,[],true) (kA True):=by kernel_rfl):cK K (.region i l.toArray false) s Q:=CP a [] trivial h c
theorem ah(a:C.Fits K)(c:cK K y ((j0 (iK C l.toArray l [] s)).app s) Q)
  (h:fw (iK C l.toArray l [] s) (False,[],false) kz=fw (iK C l.toArray l [] s) (True,[],true) (kA True):=by kernel_rfl):cK K (.seq (.region i l.toArray false) y) s Q:=AL (CP a [] trivial h c)
theorem bw(a:C.Fits K)(c:K.P.follows .mixedOrders=true)(A:List gl)(d:Q .normal ((j0 (lJ C l (iZ A) s)).app s))
  (h:fw (lJ C l (iZ A) s) (False,[],false) kz=fw (lJ C l (iZ A) s) (True,[],true) (kA (p0 A)):=by kernel_rfl):cK K (.region i l.toArray true) s Q:=afx a c (iZ A) (rp A) h d
theorem jE(c:C.Fits K)(a:List cr)(h:fw (gv C a s) (False,[],false) kz=fw (gv C a s) (True,[],true) (kA True):=by kernel_rfl):s.le K ((j0 (gv C a s)).app s):=Cd c a trivial h
theorem nj(d:C.Fits K)(a:List cr)(c:p)(h:fw (gv C a s) (False,[],false) kz=fw (gv C a s) (True,[],true) (kA p):=by kernel_rfl):s.le K ((j0 (gv C a s)).app s):=Cd d a c h
theorem bO(d:C.Fits K)(a:List cr)(k:cK K c ((j0 (gv C a s)).app s) Q)(h:fw (gv C a s) (False,[],false) kz=fw (gv C a s) (True,[],true) (kA True):=by kernel_rfl):cK K c s Q:=vb (Cd d a trivial h) k
theorem c8(e:C.Fits K)(a:List cr)(d:p)(k:cK K c ((j0 (gv C a s)).app s) Q)(h:fw (gv C a s) (False,[],false) kz=fw (gv C a s) (True,[],true) (kA p):=by kernel_rfl):cK K c s Q:=vb (Cd e a d h) k
theorem ew(c:C.Fits K)(a b:Nat)(k:Q .ret ((j0 (gv C [.du a b 0] s)).app s):=by exact qh)
  (h:fw (gv C [.du a b 0] s) (False,[],false) kz=fw (gv C [.du a b 0] s) (True,[],true) (kA True):=by kernel_rfl):cK K .ret s Q:=kK (jE c [.du a b 0] h) (qr k)
end
def x2(s t:List UInt8):Option Bool:=if s.length<4294967281 then some (Lib.contains s t) else none
def jM(l:List Int):Option (List Int):=if l.length<=1000000000 then some l else none
def cmpL:List Int->List Int->Int
 | [],[]=>0
 | [],_::_=> -1
 |_::_,[]=>1
 |x::a,y::c=>if x<y then-1 else if y<x then 1 else cmpL a c
def fm(a:List (List Int)):List (List Int):=a.mergeSort λx y=> !decide (cmpL y x<0)
def mD(a:List (List Int)):Option (List (List Int)):=if a.length<=1000000000/\ ∀l∈a,l.length<=1000000000 then some (fm a) else none
def dY(a:Nat->Bool)(m:Nat):List Nat:=(List.range m).filter a
def k3(a:List (List Int))(j:Nat):Bool:=decide (j=0\/a.getD j []≠a.getD (j-1) [])
def gN(a:List (List Int)):List (List Int):=(dY (k3 a) a.length).map λj=>a.getD j []
def Cu:List Int->List Int->Nat
 |_,[]=>0
 |seen,c::t=>(if c∈seen then 0 else 1)+Cu (c::seen) t
end Go.Lift
