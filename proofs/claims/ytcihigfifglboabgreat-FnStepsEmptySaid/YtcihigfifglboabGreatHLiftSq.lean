/- Tools. -/
import Derived.Test.YtcihigfifglboabGreatHLiftY
import Derived.Lib.AtoiAll
import Derived.Lib.ItoaNum
import Derived.Lib.Split
set_option linter.unusedVariables false
namespace Go.Lift
open Go
section
variable {K:Ctx} {C:dM} {P:Program} {G:fc} {cb:List (Nat×cj)}
inductive gd where
 |o (h:ct) (p:Prop) (k:p)
 |z (h:ct)
 |q (p:Prop) (k:p)
def iP:List gd->List ct
 | []=>[]
 | .o h _ _::l=>h::iP l
 | .z h::l=>h::iP l
 | .q _ _::l=>iP l
def pR:List gd->Prop
 | []=>True
 | .o _ p _::l=>p/\pR l
 | .z _::l=>pR l
 | .q p _::l=>p/\pR l
theorem rm: ∀l,pR l
 | []=>trivial
 | .o _ _ k::l=>⟨k,rm l⟩
 | .z _::l=>rm l
 | .q _ k::l=>⟨k,rm l⟩
def aD{c:Bool}(k:c=true):gd:= .o (.b true) _ k
def aB{c:Bool}(k:c=false):gd:= .o (.b false) _ k
def eb:gd:=aD (Eq.refl true)
def b3:gd:=aB (Eq.refl false)
def aN{k:Type}(r:k->List T)(l:List k):gd:= .o (.nat l.length) _ (OU r l)
def al{P:Program}{G:fc}{f:FuncId}{a:List V}{r:V}(k:kO P G f a r):gd:= .o (.v r) _ k
def aX(L N:List Nat){P:Program}{G:fc}{f:FuncId}{i:List E}{a:List V}{r:V}{u:List E}(k:iT P G f i a r u):gd:= .o (.dI L N r u) _ k
def ba{k:Type}{l:List k}{i:Int}{x:k}(f:k->List T)(h:au l i=some x):gd:= .o (.row (f x)) _ (Od f h)
def bp{k:Type}{l:List k}{i:Int}{x:k}(f:k->List T)(h:au l i=some x):gd:= .o (.row (f x)) _ (ca f h)
def dO{o:Option (List UInt8)}{x:List UInt8}(h:o=some x):gd:= .o (.str x) _ h
def fI{o:Option UInt8}{x:UInt8}(h:o=some x):gd:= .o (.y x) _ h
def bV{o:Option (List (List T))}{x:List (List T)}(h:o=some x):gd:= .o (.rows x) _ h
def ax{p:Prop}(k:p):gd:= .q p k
def aJ(n:Nat){c:Bool}(k:c=true):List gd:=List.replicate n (aD k)
def aF(n:Nat){c:Bool}(k:c=false):List gd:=List.replicate n (aB k)
def dH(n:Nat):List gd:=List.replicate n eb
def dL(n:Nat):List gd:=List.replicate n b3
variable {i n:Nat}{l a d c e p h:Prop}{s:S}{Q:Exit->S->Prop}{k R H:Type}{A o B:Option R}{r:R}{x y:Code}{g:k->Option R}{f:k->R->Option H}{args:List V}{b:Bool}
theorem dk{l:List Oper}(k:C.Fits K)(m:K.P.follows .mixedOrders=true)(A:List gd)(d:List Nat)(a:List (Nat×V))(c:List (Nat×Option E))(e:List (Nat×Bool))(n:Q .normal (s.cl d a c e))
  (h:l5 (lz C l (iP A) s) ud (uf s d a c)=l5 (lz C l (iP A) s) ue (ug (pR A) a c e):=by kernel_rfl):cI K (.region i l.toArray true) s Q:=rd k m (iP A) d a c e (rm A) h n
theorem bq{A:k->Option R}{t:(k->Option R)->Option R}(h:aA A t=some r)(I:k->S)
  (a: ∀j:k->Option R,t j=some r->cI K x s (qc (λd=> ∃z,j z=some r/\d.le K (I z)) Q)) (c: ∀z,A z=some r->cI K y (I z) Q):cI K (.seq x y) s Q:=
 hf (γ:=Unit) (j:=A) (r:=r) (λz _=>I z) (vR (a A h) (λe i q=>by
  cases e with
  |normal=>obtain⟨z,a,c⟩:=q;exact⟨z,(),a,c⟩
  |exit=>exact q
  |goto=>exact q
  |ret=>exact q
  |panic=>exact q
  |outgrown=>exact q)) λz _ h=>c z h
theorem cf{a:(k->Option R)->k->Option R}{d:k}{c:Code}(h:bo a n d=some r)(I:k->S)(o:s.le K (I d))
  (l: ∀(i:k->Option R) (x:k),a i x=some r->cI K c (I x) (Bd (λm=> ∃y,i y=some r/\m.le K (I y)) Q)):cI K (.loop c) s Q:=
 wE (γ:=Unit) h (λz _=>I z) () o (λi x _ p=>vR (l i x p) (λe m q=>by
  cases e with
  |normal=>obtain⟨z,w,A⟩:=q;exact⟨z,(),w,A⟩
  |exit=>exact q
  |goto=>exact q
  |ret=>exact q
  |panic=>exact q
  |outgrown=>exact q))
theorem aj{z:H}{j:H->Option R}{a:H->List (Nat×V)}{c:H->List (Nat×E)}{U:H->List Nat}(h:j z=some r)(k:Bn K.da s (a z) (c z) (U z)=(kh (a z),kh (nI (c z)),true):=by kernel_rfl): ∃z,j z=some r/\s.le K (a7 (a z) (c z) (U z)):=⟨z,h,Qa k⟩
theorem gg{o:Option k}{r:H}(h:(o.bind λx=>(g x).bind (f x))=some r): ∃x,o=some x/\ ∃y,g x=some y/\f x y=some r:=by obtain⟨x,a,h⟩:=cS h;obtain⟨y,c,h⟩:=cS h;exact⟨x,a,y,c,h⟩
theorem lu{a:Type}{o:Option k}{e:k->R->H->Option a}{r:a}(h:(o.bind λx=>(g x).bind λy=>(f x y).bind (e x y))=some r): ∃x,o=some x/\ ∃y,g x=some y/\ ∃z,f x y=some z/\e x y z=some r:=by obtain⟨x,c,h⟩:=cS h;obtain⟨y,d,z,i,h⟩:=gg h;exact⟨x,c,y,d,z,i,h⟩
theorem bl{f:FuncId}{d:Func}{c:Code}{r:V}{a:List ResultVar}(k:dU P cb)(l:P.funcs[f]? =some d)(e:(d.name== "runtime.NumGoroutine",d.body,d.results.toList,d.ntmps,Nat.ble args.length i,r.ok gp,Nat.ble a.length 4)=(false,some c,a,i,true,true,true))
  (h: ∀w X,dM.Fits ⟨P,G,cb,i,0,gS⟩ (Ctx.pure P G w X i)->cI (Ctx.pure P G w X i) c (start args) (OQ cb a r)):kO P G f args r:=by simp only[Prod.mk.injEq] at e;exact Qf k l e.1 e.2.1 e.2.2.1 e.2.2.2.1 e.2.2.2.2.1 e.2.2.2.2.2.1 e.2.2.2.2.2.2 h
theorem cy{f:FuncId}{d:Func}{c:Code}{a out:List E}{r:V}{e:List ResultVar}(m:dU P cb)(o:P.funcs[f]? =some d)(k:(d.name== "runtime.NumGoroutine",d.body,d.results.toList,d.ntmps,a.length,Nat.ble args.length i,Nat.ble n out.length,Nat.ble e.length 4)=(false,some c,e,i,n,true,true,true))
  (h: ∀w X l,dM.Fits ⟨P,G,cb,i,n,l⟩ (Ctx.dI P G w X n l i)->tD l a 0->cI (Ctx.dI P G w X n l i) c (lR a args) (OP cb e r out)):iT P G f a args r out:=by simp only[Prod.mk.injEq] at k;exact afD m o k.1 k.2.1 k.2.2.1 k.2.2.2.1 k.2.2.2.2.1 k.2.2.2.2.2.1 k.2.2.2.2.2.2.1 k.2.2.2.2.2.2.2 h
theorem dR(k:C.Fits K)(d:List ct)(e:List Nat)(a:List (Nat×V))(c:List (Nat×Option E))(i:List (Nat×Bool))
  (h:l5 (gm C d s) ud (uf s e a c)=l5 (gm C d s) ue (ug True a c i):=by kernel_rfl):s.le K (s.cl e a c i):=ag3 k d e a c i h
theorem aL{a:List (Nat×V)}{c:List (Nat×E)}{r:List Nat}(h:Bn K.da s a c r=(kh a,kh (nI c),true):=by kernel_rfl):s.le K (a7 a c r):=Qa h
theorem dI{c:Operand}(a:b=true->cI K x s Q)(d:b=false->cI K y s Q)(e:s.get c= .t (.bool b):=by kernel_rfl):cI K (.cond c x y) s Q:=jV e a d
theorem aw{c:Operand}(h:(bif b then A else B)=some r)(a:b=true->A=some r->cI K x s Q)(d:b=false->B=some r->cI K y s Q)(i:s.get c= .t (.bool b):=by kernel_rfl):cI K (.cond c x y) s Q:=
 jV i (λe=>a e (hB e h)) λe=>d e (hA e h)
theorem aY{P:Prop}(h:(bif b then A else B)=some r)(a:b=false->B=some r->P)(c:b=true->A=some r->P):P:=jX b (λe=>a e (hA e h)) λe=>c e (hB e h)
theorem qe{e:List ResultVar}{r:V}{a:List E}(h:(w6 r (iO cb s e),tv s a 0,r.ok (eZ a.length)&&tT (eZ a.length) a)=(some r,tr a,true):=by kernel_rfl):
  ∃c,iO cb s e=some c/\dB (nK c) r/\r.ok (eZ a.length)=true/\lo s.H (eZ a.length) (eT a 0):=abH h
theorem agQ{a:List ResultVar}{r:V}(h:w6 r (iO cb s a)=some r:=by kernel_rfl): ∃c,iO cb s a=some c/\dB (nK c) r:=OW h
theorem a0:True:=trivial
theorem aK(a:p):p/\True:=⟨a,trivial⟩
theorem a2{E:Prop}(a:p)(c:E):p/\E/\True:=⟨a,c,trivial⟩
theorem a3{E:Prop}(c:p)(d:E)(e:a):p/\E/\a/\True:=⟨c,d,e,trivial⟩
theorem a4{E:Prop}(d:p)(e:E)(h:a)(i:c):p/\E/\a/\c/\True:=⟨d,e,h,i,trivial⟩
theorem a5{E:Prop}(e:p)(h:E)(i:a)(k:c)(l:d):p/\E/\a/\c/\d/\True:=⟨e,h,i,k,l,trivial⟩
theorem hX{E:Prop}(h:p)(i:E)(k:a)(l:c)(m:d)(n:e):p/\E/\a/\c/\d/\e/\True:=⟨h,i,k,l,m,n,trivial⟩
theorem ix{E:Prop}(i:p)(k:E)(l:a)(m:c)(n:d)(o:e)(q:h):p/\E/\a/\c/\d/\e/\h/\True:=⟨i,k,l,m,n,o,q,trivial⟩
theorem ff{E i:Prop}(k:p)(l:E)(m:a)(n:c)(o:d)(q:e)(r:h)(s:i):p/\E/\a/\c/\d/\e/\h/\i/\True:=⟨k,l,m,n,o,q,r,s,trivial⟩
theorem a9{E i k:Prop}(l:p)(m:E)(n:a)(o:c)(q:d)(r:e)(s:h)(w:i)(x:k):p/\E/\a/\c/\d/\e/\h/\i/\k/\True:=⟨l,m,n,o,q,r,s,w,x,trivial⟩
theorem RL{E i k:Prop}(n:E)(o:a)(q:c)(r:d)(s:e)(w:h)(x:i)(y:k)(z:l)(m:p):E/\a/\c/\d/\e/\h/\i/\k/\l/\p/\True:=⟨n,o,q,r,s,w,x,y,z,m,trivial⟩
theorem a12{i k m n E:Prop}(s:c)(w:d)(x:e)(y:h)(z:i)(A:k)(B:l)(D:m)(F:n)(o:p)(q:E)(r:a):c/\d/\e/\h/\i/\k/\l/\m/\n/\p/\E/\a/\True:=⟨s,w,x,y,z,A,B,D,F,o,q,r,trivial⟩
def G7:Nat->Nat->List Nat
 |_,0=>[]
 |a,n+1=>a::G7 (a+1) n
abbrev kb(l:List V):Option E:=some (E.cells l)
theorem an(h:cI K x s (qc (λa=>cI K y a Q) Q)):cI K (.seq x y) s Q:=Ax h
theorem bd{c:Code}(h:cI K c s (wY i Q)):cI K (.block i c) s Q:=WG h
theorem av(h:Q .normal s):cI K .skip s Q:=XX h
theorem qr(h:Q .ret s):cI K .ret s Q:=YU h
theorem br(h:Q (.exit i) s):cI K (.exit i) s Q:=XZ h
theorem kD{c:Code}{a:S}(d:s.le K a)(h:cI K c a Q):cI K c s Q:=u4 d h
abbrev bO(a:List (Nat×V)):S:=a7 a [] []
abbrev aV:V:=V.t T.fl
abbrev IW(p:Prop)[Decidable p]:V:=aM (decide p)
def bG{R:Type}{r:R->List T}(n:Nat)(k: ∀a,(r a).length=n)(l:List R):gd:=ax (ic (r:=r) n k l)
def dj(l:List Int):gd:=bG (r:=ae) 1 (λ_=>rfl) l
theorem az(h:Q .ret s:=by exact agQ):cI K .ret s Q:=qr h
theorem cz(h:Q .ret s:=by exact qe):cI K .ret s Q:=qr h
theorem bH{c:Code}(h:cI K c s (wY i (qc (λa=>cI K y a Q) Q))):cI K (.seq (.block i c) y) s Q:=an (bd h)
theorem cP{c:Operand}{z:Code}(h:(bif b then A else B)=some r)(d:b=true->A=some r->cI K x s (qc (λa=>cI K z a Q) Q))(e:b=false->B=some r->cI K y s (qc (λa=>cI K z a Q) Q))(i:s.get c= .t (.bool b):=by kernel_rfl):cI K (.seq (.cond c x y) z) s Q:=an (aw h d e i)
theorem cC{a:(k->Option R)->k->Option R}{v:k}{c:Code}(h:bo a n v=some r)(I:k->Nat->S)(i:Nat)(l:s.le K (I v i))(e: ∀(d:k->Option R) (x:k) (g:Nat),a d x=some r->cI K c (I x g) (Bd (λm=> ∃y o,d y=some r/\m.le K (I y o)) Q)):cI K (.loop c) s Q:=wE (γ:=Nat) h I i l e
theorem ai{f:R->Option H}{r:H}{P:Prop}(h:o.bind f=some r)(k: ∀x,o=some x->f x=some r->P):P:=by obtain⟨x,a,c⟩:=cS h;exact k x a c
theorem bK{γ:Type}{g:R->Option H}{f:R->H->Option γ}{r:γ}{P:Prop}(h:(o.bind λx=>(g x).bind (f x))=some r)(k: ∀x,o=some x-> ∀y,g x=some y->f x y=some r->P):P:=by obtain⟨x,a,y,c,d⟩:=gg h;exact k x a y c d
theorem cq{a c:Type}{g:R->Option H}{f:R->H->Option a}{e:R->H->a->Option c}{r:c}{P:Prop}(h:(o.bind λx=>(g x).bind λy=>(f x y).bind (e x y))=some r)(k: ∀x,o=some x-> ∀y,g x=some y-> ∀z,f x y=some z->e x y z=some r->P):P:=by obtain⟨x,d,y,i,z,l,m⟩:=lu h;exact k x d y i z l m
end
section
variable {K:Ctx} {C:dM}
def jO:Option (cQ×List df)->cQ
 |some r=>r.1
 |none=>⟨[],[],[]⟩
def kq(r:cQ×List df):Prop×List Nat×Bool:=(x4 r.2,u2 r.2,true)
def kr(a:Prop)(r:cQ×List df):Prop×List Nat×Bool:=(a,u3 r.2,true)
def ft(x:Option (cQ×List df))(n:Prop×List Nat×Bool)(f:cQ×List df->Prop×List Nat×Bool):Prop×List Nat×Bool:=match x with
 |some r=>f r
 |none=>n
variable {p:Prop}{i:Nat}{l:List Oper}{s:S}{Q:Exit->S->Prop}
theorem Gh{x:Option (cQ×List df)}(c:p)(h:ft x (False,[],false) kq=ft x (True,[],true) (kr p)): ∃a,x=some (jO x,a)/\ch a:=by
 cases x with
 |none=>simp[ft] at h
 |some r=>
  obtain⟨e,a⟩:=r;simp only[ft,kq,kr,Prod.mk.injEq] at h;obtain⟨d,i,_⟩:=h;exact⟨a,rfl,ch.of (d▸c) i⟩
theorem CI(d:C.Fits K)(a:List ct)(c:p)
  (h:ft (iA C l.toArray l a s) (False,[],false) kq=ft (iA C l.toArray l a s) (True,[],true) (kr p)) (e:Q .normal ((jO (iA C l.toArray l a s)).app s)):cI K (.region i l.toArray false) s Q:=by obtain⟨n,k,m⟩:=Gh c h;exact Sc _ (N' d k m (X0 (S.le.refl K _))) e
theorem afg(m:C.Fits K)(n:K.P.follows .mixedOrders=true)(c:List ct)(d:p)
  (h:ft (lz C l c s) (False,[],false) kq=ft (lz C l c s) (True,[],true) (kr p)) (o:Q .normal ((jO (lz C l c s)).app s)):cI K (.region i l.toArray true) s Q:=by
 obtain⟨F,a,q⟩:=Gh d h;generalize jO (lz C l c s)=e at*;unfold lz at a;split at a
 ·cases a
 rename_i G r w x;split at a
 ·cases a
 rename_i y z A;split at a
 ·rename_i k;cases a;simp only[Bool.and_eq_true] at k;obtain⟨B,D⟩:=ch.app q;refine u4 (qQ m x B) (N3 (s2:=_) (Mi y n k.1 k.2 (Gb m A D ?_)) o);rw[nf];exact S.le.refl K _
 cases a
theorem B9(i:C.Fits K)(a:List ct)(d:p)
  (h:ft (gm C a s) (False,[],false) kq=ft (gm C a s) (True,[],true) (kr p)):s.le K ((jO (gm C a s)).app s):=by
 obtain⟨m,c,k⟩:=Gh d h;generalize jO (gm C a s)=e at*;unfold gm at c;split at c
 ·rename_i l;cases c;exact qQ i l k
 cases c
end
section
variable {K:Ctx} {C:dM}
variable {i:Nat}{l:List Oper}{s:S}{Q:Exit->S->Prop}{y c:Code}{p:Prop}
theorem ao(a:C.Fits K)(A:List gd)(c:Q .normal ((jO (iA C l.toArray l (iP A) s)).app s))
  (h:ft (iA C l.toArray l (iP A) s) (False,[],false) kq=ft (iA C l.toArray l (iP A) s) (True,[],true) (kr (pR A)):=by kernel_rfl):cI K (.region i l.toArray false) s Q:=CI a (iP A) (rm A) h c
theorem ad(a:C.Fits K)(A:List gd)(c:cI K y ((jO (iA C l.toArray l (iP A) s)).app s) Q)
  (h:ft (iA C l.toArray l (iP A) s) (False,[],false) kq=ft (iA C l.toArray l (iP A) s) (True,[],true) (kr (pR A)):=by kernel_rfl):cI K (.seq (.region i l.toArray false) y) s Q:=Ax (CI a (iP A) (rm A) h c)
theorem bg(a:C.Fits K)(c:Q .normal ((jO (iA C l.toArray l [] s)).app s))
  (h:ft (iA C l.toArray l [] s) (False,[],false) kq=ft (iA C l.toArray l [] s) (True,[],true) (kr True):=by kernel_rfl):cI K (.region i l.toArray false) s Q:=CI a [] trivial h c
theorem ah(a:C.Fits K)(c:cI K y ((jO (iA C l.toArray l [] s)).app s) Q)
  (h:ft (iA C l.toArray l [] s) (False,[],false) kq=ft (iA C l.toArray l [] s) (True,[],true) (kr True):=by kernel_rfl):cI K (.seq (.region i l.toArray false) y) s Q:=Ax (CI a [] trivial h c)
theorem bx(a:C.Fits K)(c:K.P.follows .mixedOrders=true)(A:List gd)(d:Q .normal ((jO (lz C l (iP A) s)).app s))
  (h:ft (lz C l (iP A) s) (False,[],false) kq=ft (lz C l (iP A) s) (True,[],true) (kr (pR A)):=by kernel_rfl):cI K (.region i l.toArray true) s Q:=afg a c (iP A) (rm A) h d
theorem jt(c:C.Fits K)(a:List ct)(h:ft (gm C a s) (False,[],false) kq=ft (gm C a s) (True,[],true) (kr True):=by kernel_rfl):s.le K ((jO (gm C a s)).app s):=B9 c a trivial h
theorem na(d:C.Fits K)(a:List ct)(c:p)(h:ft (gm C a s) (False,[],false) kq=ft (gm C a s) (True,[],true) (kr p):=by kernel_rfl):s.le K ((jO (gm C a s)).app s):=B9 d a c h
theorem bM(d:C.Fits K)(a:List ct)(k:cI K c ((jO (gm C a s)).app s) Q)(h:ft (gm C a s) (False,[],false) kq=ft (gm C a s) (True,[],true) (kr True):=by kernel_rfl):cI K c s Q:=u4 (B9 d a trivial h) k
theorem c8(e:C.Fits K)(a:List ct)(d:p)(k:cI K c ((jO (gm C a s)).app s) Q)(h:ft (gm C a s) (False,[],false) kq=ft (gm C a s) (True,[],true) (kr p):=by kernel_rfl):cI K c s Q:=u4 (B9 e a d h) k
theorem ej(c:C.Fits K)(a b:Nat)(k:Q .ret ((jO (gm C [.dt a b 0] s)).app s):=by exact qe)
  (h:ft (gm C [.dt a b 0] s) (False,[],false) kq=ft (gm C [.dt a b 0] s) (True,[],true) (kr True):=by kernel_rfl):cI K .ret s Q:=kD (jt c [.dt a b 0] h) (qr k)
end
def xT(s t:List UInt8):Option Bool:=if s.length<4294967281 then some (Lib.contains s t) else none
def jB(l:List Int):Option (List Int):=if l.length<=1000000000 then some l else none
def cmpL:List Int->List Int->Int
 | [],[]=>0
 | [],_::_=> -1
 |_::_,[]=>1
 |x::a,y::c=>if x<y then-1 else if y<x then 1 else cmpL a c
def fj(a:List (List Int)):List (List Int):=a.mergeSort λx y=> !decide (cmpL y x<0)
def mr(a:List (List Int)):Option (List (List Int)):=if a.length<=1000000000/\ ∀l∈a,l.length<=1000000000 then some (fj a) else none
def dY(a:Nat->Bool)(m:Nat):List Nat:=(List.range m).filter a
def kT(a:List (List Int))(j:Nat):Bool:=decide (j=0\/a.getD j []≠a.getD (j-1) [])
def gD(a:List (List Int)):List (List Int):=(dY (kT a) a.length).map λj=>a.getD j []
def Co:List Int->List Int->Nat
 |_,[]=>0
 |seen,c::t=>(if c∈seen then 0 else 1)+Co (c::seen) t
end Go.Lift
