/- Tools. -/
import Derived.Test.YtlklcemjbgpcnaaGreatOLiftY
import Derived.Lib.AtoiAll
import Derived.Lib.ItoaNum
import Derived.Lib.Split
set_option linter.unusedVariables false
namespace Go.Lift
open Go
open Option renaming some -> aa
open Bool renaming true -> ab, false -> ak
open List renaming replicate -> dE
section
variable {K:Ctx}{C:eb}{P:Program}{G:fe}{cD:List (Nat×cu)}
inductive gT where
 |o (h:cM) (p:Prop) (k:p)
 |z (h:cM)
 |q (p:Prop) (k:p)
def jt:List gT->List cM
 | []=>[]
 | .o h _ _::l=>h::jt l
 | .z h::l=>h::jt l
 | .q _ _::l=>jt l
def qC:List gT->Prop
 | []=>True
 | .o _ p _::l=>p/\qC l
 | .z _::l=>qC l
 | .q p _::l=>p/\qC l
theorem sg: ∀l,qC l
 | []=>trivial
 | .o _ _ k::l=>⟨k,sg l⟩
 | .z _::l=>sg l
 | .q _ k::l=>⟨k,sg l⟩
def aX{c:Bool}(k:c=ab):gT:= .o (.b ab) _ k
def aK{c:Bool}(k:c=ak):gT:= .o (.b ak) _ k
def ew:gT:=aX (Eq.refl ab)
def b':gT:=aK (Eq.refl ak)
def aI{a:Type}(r:a->List T)(l:List a):gT:= .o (.nat l.length) _ (L7 r l)
def au{P:Program}{G:fe}{f:FuncId}{a:List V}{r:V}(k:jw P G f a r):gT:= .o (.v r) _ k
def bg(L N:List Nat){P:Program}{G:fe}{f:FuncId}{i:List E}{a:List V}{r:V}{u:List E}(k:ig P G f i a r u):gT:= .o (.dL L N r u) _ k
def aY{a:Type}{l:List a}{i:Int}{x:a}(f:a->List T)(h:aD l i=aa x):gT:= .o (.row (f x)) _ (QQ f h)
def bw{a:Type}{l:List a}{i:Int}{x:a}(f:a->List T)(h:aD l i=aa x):gT:= .o (.row (f x)) _ (bY f h)
def Te{o:Option (List UInt8)}{x:List UInt8}(h:o=aa x):gT:= .o (.str x) _ h
def b2{o:Option (List (List T))}{x:List (List T)}(h:o=aa x):gT:= .o (.rows x) _ h
def aw{p:Prop}(k:p):gT:= .q p k
def aV(n:Nat){c:Bool}(k:c=ab):List gT:=dE n (aX k)
def aO(n:Nat){c:Bool}(k:c=ak):List gT:=dE n (aK k)
def dY(n:Nat):List gT:=dE n ew
def eJ(n:Nat):List gT:=dE n b'
variable {n:Nat}{s:S}{Q:Exit->S->Prop}{a b d e i p h:Prop}{R:Type}{r:R}{x y c:Code}{args:List V}{A B:Option R}
theorem dk{l:List Oper}(e:C.Fits K)(i:K.P.follows .mixedOrders=ab)(A:List gT)(c:List Nat)(a:List (Nat×V))(b:List (Nat×Option E))(d:List (Nat×Bool))(k:Q .normal (s.cl c a b d))
  (h:mH (l5 C l (jt A) s) vw (vy s c a b)=mH (l5 C l (jt A) s) vx (vz (qC A) a b d):=by kernel_rfl):cX K (.region n l.toArray ab) s Q:=rd e i (jt A) c a b d (sg A) h k
theorem bW{a:Type}{b:a->Option R}{t:(a->Option R)->Option R}(h:aP b t=aa r)(I:a->S)
  (c: ∀j:a->Option R,t j=aa r->cX K x s (q5 (λi=> ∃z,j z=aa r/\i.le K (I z)) Q)) (d: ∀z,b z=aa r->cX K y (I z) Q):cX K (.seq x y) s Q:=
 lI (γ:=Unit) (j:=b) (r:=r) (λz _=>I z) (xI (c b h) (λe k q=>by
  cases e with
  |normal=>obtain⟨z,c,d⟩:=q;exact⟨z,(),c,d⟩
  |exit=>exact q
  |goto=>exact q
  |ret=>exact q
  |panic=>exact q
  |outgrown=>exact q)) λz _ h=>d z h
theorem cq{b:Type}{a:(b->Option R)->b->Option R}{d:b}(h:bk a n d=aa r)(I:b->S)(m:s.le K (I d))
  (k: ∀(i:b->Option R) (x:b),a i x=aa r->cX K c (I x) (C8 (λl=> ∃y,i y=aa r/\l.le K (I y)) Q)):cX K (.loop c) s Q:=
 CP (γ:=Unit) h (λz _=>I z) () m (λi x _ o=>xI (k i x o) (λe l q=>by
  cases e with
  |normal=>obtain⟨z,p,w⟩:=q;exact⟨z,(),p,w⟩
  |exit=>exact q
  |goto=>exact q
  |ret=>exact q
  |panic=>exact q
  |outgrown=>exact q))
theorem ay{a:Type}{z:a}{j:a->Option R}{b:a->List (Nat×V)}{c:a->List (Nat×E)}{d:a->List Nat}(h:j z=aa r)(k:Dp K.dZ s (b z) (c z) (d z)=(kT (b z),kT (oG (c z)),ab):=by kernel_rfl): ∃z,j z=aa r/\s.le K (bj (b z) (c z) (d z)):=⟨z,h,Ta k⟩
theorem ij{a b:Type}{o:Option a}{g:a->Option R}{f:a->R->Option b}{r:b}(h:(o.bind λx=>(g x).bind (f x))=aa r): ∃x,o=aa x/\ ∃y,g x=aa y/\f x y=aa r:=by
 obtain⟨x,c,h⟩:=c' h;obtain⟨y,d,h⟩:=c' h
 grind
theorem q7{a b c:Type}{o:Option a}{g:a->Option R}{f:a->R->Option b}{e:a->R->b->Option c}{r:c}(h:(o.bind λx=>(g x).bind λy=>(f x y).bind (e x y))=aa r): ∃x,o=aa x/\ ∃y,g x=aa y/\ ∃z,f x y=aa z/\e x y z=aa r:=by
 obtain⟨x,d,h⟩:=c' h;obtain⟨y,i,z,k,h⟩:=ij h
 grind
theorem bp{f:FuncId}{d:Func}{r:V}{a:List ResultVar}(e:eg P cD)(i:P.funcs[f]? =aa d)(b:(d.name== "runtime.NumGoroutine",d.body,d.results.toList,d.ntmps,Nat.ble args.length n,r.ok gK,Nat.ble a.length 4)=(ak,aa c,a,n,ab,ab,ab))
  (h: ∀w X,eb.Fits ⟨P,G,cD,n,0,fD⟩ (Ctx.pure P G w X n)->cX (Ctx.pure P G w X n) c (start args) (Mf cD a r)):jw P G f args r:=by simp only[Prod.mk.injEq] at b;exact Th e i b.1 b.2.1 b.2.2.1 b.2.2.2.1 b.2.2.2.2.1 b.2.2.2.2.2.1 b.2.2.2.2.2.2 h
theorem cA{f:FuncId}{d:Func}{a out:List E}{r:V}{i:Nat}{b:List ResultVar}(l:eg P cD)(m:P.funcs[f]? =aa d)(e:(d.name== "runtime.NumGoroutine",d.body,d.results.toList,d.ntmps,a.length,Nat.ble args.length n,Nat.ble i out.length,Nat.ble b.length 4)=(ak,aa c,b,n,i,ab,ab,ab))
  (h: ∀w X k,eb.Fits ⟨P,G,cD,n,i,k⟩ (Ctx.dL P G w X i k n)->u2 k a 0->cX (Ctx.dL P G w X i k n) c (mr a args) (Me cD b r out)):ig P G f a args r out:=by simp only[Prod.mk.injEq] at e;exact akL l m e.1 e.2.1 e.2.2.1 e.2.2.2.1 e.2.2.2.2.1 e.2.2.2.2.2.1 e.2.2.2.2.2.2.1 e.2.2.2.2.2.2.2 h
theorem eI(i:C.Fits K)(c:List cM)(d:List Nat)(a:List (Nat×V))(b:List (Nat×Option E))(e:List (Nat×Bool))
  (h:mH (gI C c s) vw (vy s d a b)=mH (gI C c s) vx (vz True a b e):=by kernel_rfl):s.le K (s.cl d a b e):=al9 i c d a b e h
theorem aM{a:List (Nat×V)}{b:List (Nat×E)}{r:List Nat}(h:Dp K.dZ s a b r=(kT a,kT (oG b),ab):=by kernel_rfl):s.le K (bj a b r):=Ta h
theorem dL{c:Operand}{b:Bool}(a:b=ab->cX K x s Q)(d:b=ak->cX K y s Q)(e:s.get c= .t (.bool b):=by kernel_rfl):cX K (.cond c x y) s Q:=km e a d
theorem aC{c:Operand}{b:Bool}(h:(bif b then A else B)=aa r)(a:b=ab->A=aa r->cX K x s Q)(d:b=ak->B=aa r->cX K y s Q)(i:s.get c= .t (.bool b):=by kernel_rfl):cX K (.cond c x y) s Q:=
 km i (λe=>a e (il e h)) λe=>d e (ik e h)
theorem bh{b:Bool}{P:Prop}(h:(bif b then A else B)=aa r)(a:b=ak->B=aa r->P)(c:b=ab->A=aa r->P):P:=kp b (λe=>a e (ik e h)) λe=>c e (il e h)
theorem q'{b:List ResultVar}{r:V}{a:List E}(h:(yB r (iY cD s b),uT s a 0,r.ok (d6 a.length)&&vi (d6 a.length) a)=(aa r,uJ a,ab):=by kernel_rfl):
  ∃c,iY cD s b=aa c/\dO (oI c) r/\r.ok (d6 a.length)=ab/\lV s.H (d6 a.length) (er a 0):=Vu h
theorem al0{a:List ResultVar}{r:V}(h:yB r (iY cD s a)=aa r:=by kernel_rfl): ∃b,iY cD s a=aa b/\dO (oI b) r:=Mb h
theorem a0:True:=trivial
theorem aL{Q:Prop}(a:Q):Q/\True:=⟨a,trivial⟩
theorem a2{Q:Prop}(a:Q)(b:p):Q/\p/\True:=⟨a,b,trivial⟩
theorem a3{Q E:Prop}(a:Q)(b:p)(c:E):Q/\p/\E/\True:=⟨a,b,c,trivial⟩
theorem a4{Q E:Prop}(b:Q)(c:p)(d:E)(e:a):Q/\p/\E/\a/\True:=⟨b,c,d,e,trivial⟩
theorem a5{Q E:Prop}(c:Q)(d:p)(e:E)(h:a)(i:b):Q/\p/\E/\a/\b/\True:=⟨c,d,e,h,i,trivial⟩
theorem jP{Q E c:Prop}(d:Q)(e:p)(h:E)(i:a)(k:b)(l:c):Q/\p/\E/\a/\b/\c/\True:=⟨d,e,h,i,k,l,trivial⟩
theorem hM{Q E c:Prop}(e:Q)(h:p)(i:E)(k:a)(l:b)(m:c)(n:d):Q/\p/\E/\a/\b/\c/\d/\True:=⟨e,h,i,k,l,m,n,trivial⟩
theorem fH{Q E c:Prop}(h:Q)(i:p)(k:E)(l:a)(m:b)(n:c)(o:d)(q:e):Q/\p/\E/\a/\b/\c/\d/\e/\True:=⟨h,i,k,l,m,n,o,q,trivial⟩
theorem a9{Q E c:Prop}(i:Q)(k:p)(l:E)(m:a)(n:b)(o:c)(q:d)(r:e)(s:h):Q/\p/\E/\a/\b/\c/\d/\e/\h/\True:=⟨i,k,l,m,n,o,q,r,s,trivial⟩
theorem Vs{E c Q:Prop}(l:p)(m:E)(n:a)(o:b)(q:c)(r:d)(s:e)(w:h)(x:i)(k:Q):p/\E/\a/\b/\c/\d/\e/\h/\i/\Q/\True:=⟨l,m,n,o,q,r,s,w,x,k,trivial⟩
theorem a12{c k l Q E:Prop}(q:a)(r:b)(s:c)(w:d)(x:e)(y:h)(z:i)(A:k)(B:l)(m:Q)(n:p)(o:E):a/\b/\c/\d/\e/\h/\i/\k/\l/\Q/\p/\E/\True:=⟨q,r,s,w,x,y,z,A,B,m,n,o,trivial⟩
def JP:Nat->Nat->List Nat
 |_,0=>[]
 |a,n+1=>a::JP (a+1) n
abbrev kz(l:List V):Option E:=aa (E.cells l)
theorem al(h:cX K x s (q5 (λa=>cX K y a Q) Q)):cX K (.seq x y) s Q:=Cw h
theorem bd(h:cX K c s (yy n Q)):cX K (.block n c) s Q:=abI h
theorem ax(h:Q .normal s):cX K .skip s Q:=adg h
theorem qr(h:Q .ret s):cX K .ret s Q:=afa h
theorem bq(h:Q (.exit n) s):cX K (.exit n) s Q:=adi h
theorem tU{a:S}(b:s.le K a)(h:cX K c a Q):cX K c s Q:=wO b h
abbrev b0(a:List (Nat×V)):S:=bj a [] []
abbrev br:V:=V.t T.fp
abbrev K7(p:Prop)[Decidable p]:V:=aT (decide p)
def bQ{R:Type}{r:R->List T}(n:Nat)(k: ∀a,(r a).length=n)(l:List R):gT:=aw (k9 (r:=r) n k l)
def db(l:List Int):gT:=bQ (r:=ah) 1 (λ_=>rfl) l
theorem aB(h:Q .ret s:=by exact al0):cX K .ret s Q:=qr h
theorem cT(h:Q .ret s:=by exact q'):cX K .ret s Q:=qr h
theorem bC(h:cX K c s (yy n (q5 (λa=>cX K y a Q) Q))):cX K (.seq (.block n c) y) s Q:=al (bd h)
theorem cU{c:Operand}{z:Code}{b:Bool}(h:(bif b then A else B)=aa r)(d:b=ab->A=aa r->cX K x s (q5 (λa=>cX K z a Q) Q))(e:b=ak->B=aa r->cX K y s (q5 (λa=>cX K z a Q) Q))(i:s.get c= .t (.bool b):=by kernel_rfl):cX K (.seq (.cond c x y) z) s Q:=al (aC h d e i)
theorem cz{b:Type}{a:(b->Option R)->b->Option R}{z:b}(h:bk a n z=aa r)(I:b->Nat->S)(i:Nat)(k:s.le K (I z i))(e: ∀(d:b->Option R) (x:b) (g:Nat),a d x=aa r->cX K c (I x g) (C8 (λl=> ∃y m,d y=aa r/\l.le K (I y m)) Q)):cX K (.loop c) s Q:=CP (γ:=Nat) h I i k e
theorem an{a:Type}{o:Option a}{f:a->Option R}{P:Prop}(h:o.bind f=aa r)(k: ∀x,o=aa x->f x=aa r->P):P:=by obtain⟨x,b,c⟩:=c' h;exact k x b c
theorem bP{a γ:Type}{o:Option a}{g:a->Option R}{f:a->R->Option γ}{r:γ}{P:Prop}(h:(o.bind λx=>(g x).bind (f x))=aa r)(k: ∀x,o=aa x-> ∀y,g x=aa y->f x y=aa r->P):P:=by obtain⟨x,b,y,c,d⟩:=ij h;exact k x b y c d
theorem cW{a b c:Type}{o:Option a}{g:a->Option R}{f:a->R->Option b}{e:a->R->b->Option c}{r:c}{P:Prop}(h:(o.bind λx=>(g x).bind λy=>(f x y).bind (e x y))=aa r)(k: ∀x,o=aa x-> ∀y,g x=aa y-> ∀z,f x y=aa z->e x y z=aa r->P):P:=by obtain⟨x,d,y,i,z,l,m⟩:=q7 h;exact k x d y i z l m
end
section
def yQ:T->Bool
 | .bE _=>ak
 |_=>ab
variable {w:World}{a:List E}{X X':Nat->Prop}{x:T}{v u:Value}{t:List dM}{m n k:Nat}{f:FuncId}{G:fe}{P:Program}{args:List V}{r:V}
theorem cV.flat{a:World}(h:cV w X x v)(c:yQ x=ab):cV a X' x v:=by
 cases h with
 |bool b=>exact .bool b
 |int k n=>exact .int k n
 |str l=>exact .str l
 |fW _ _=>cases c
 |bE d b m e o f q r i p s y=>cases c
 |fp=>exact .fp
 |gM=>exact .gM
 |gn=>exact .gn
 |mm=>exact .mm
 |err t v=>exact .err t v
mutual
def CS:V->Bool
 | .t x=>yQ x
 | .agg cs=>uI cs
 | .bX cs=>uI cs
 | .bo _ _ _ _ _=>ab
 | .dp=>ab
 |_=>ak
def uI:List V->Bool
 | []=>ab
 |c::cs=>CS c&&uI cs
end
theorem FQ: ∀{cs:List V} {i:Nat} {c:V},uI cs=ab->cs[i]? =aa c->CS c=ab
 | [],_,_,_,h=>by simp at h
 |c::cs,0,_,a,h=>by simp[uI] at a;simp at h;subst h;exact a.1
 |c::cs,i+1,_,a,h=>by simp[uI] at a;exact FQ a.2 (by simpa using h)
theorem bt.flat{β:Map}{v:V}(h:bt β w X v u)(k:CS v=ab):bt β w X' v u:=by
 induction h with
 |t x v h=>exact .t x v (h.flat k)
 |agg cs p m _ r=>exact .agg cs p m (λi c u o s=>r i c u o s (FQ k o))
 |bX cs p m _ r=>exact .bX cs p m (λi c u o s=>r i c u o s (FQ k o))
 |ref id d b e=>cases k
 |aS cells b d f e F o G=>cases k
 |bo id gen a d len y b n ty l e A B C m D=>exact .bo id gen a d len y b n ty l e A B C m D
 |hb id gen a l e=>exact .hb id gen a l e
 |ks id gen a d len v q g z e l=>exact .ks id gen a d len v q g z e l
 |cR id gen a i d b l e=>cases k
 |ls id gen a i d v q g z e l=>cases k
 |fn f cs p m h=>cases k
 |dp v=>exact .dp v
def Rj(a:List (List T)):Prop:= ∀b,b∈a-> ∀x,x∈b->yQ x=ab
inductive lk (Γ:List dM):Option Nat->T->Prop
 |fs (x:T) (h:yQ x=ab):lk Γ none x
 |own (m:Nat) (rows:List (List T)) (h: ∀(i j:Nat) row x,rows[i]? =aa row->row[j]? =aa x->lk Γ ((aR Γ m).ej j) x):lk Γ (aa m) (.bE rows)
theorem gk.flat{m:Option Nat}{N:Nat->Prop}(h:gk t w X m x v N):lk t m x->gk t w X' m x v N:=by
 induction h with
 |fs x v N h c=>intro a;cases a with|fs _ a=>exact .fs _ _ _ (h.flat a) c
 |nil m N c=>intro _;exact .nil _ _ c
 |own m d b k n B N o p q r l A s y c z=>
  intro a;cases a with
  |own _ _ a=>exact .own m d b k n B N o p q r l (λi j e x u aL a2 a3=>z i j e x u aL a2 a3 (a i j e x aL a2)) s y c
theorem wT{a:Type}{f:a->List T}(h: ∀(y:a) (j:Nat) x,(f y)[j]? =aa x->lk t ((aR t m).ej j) x)(l:List a): ∀(i j:Nat) b x,(List.map f l)[i]? =aa b->b[j]? =aa x->lk t ((aR t m).ej j) x:=λi j b x c d=>by obtain⟨y,_,rfl⟩:=eK.1 (bT c);exact h y j x d
def I7:E->Prop
 | .arr _ _ _ a=>Rj a
 | .aN c m _ a d=>d=[]/\ ∀(i j:Nat) b x,a[i]? =aa b->b[j]? =aa x->lk c ((aR c m).ej j) x
 |_=>False
theorem ab4{R:Type}{f:R->List T}(h: ∀x y,y∈f x->yQ y=ab)(l:List R):Rj (List.map f l):=λb c x d=>by obtain⟨a,_,rfl⟩:=eK.1 c;exact h a x d
inductive mD (ft:List E):V->V->Prop where
 |t (x:T):mD ft (.t x) (.t x)
 |arr (id:Nat) (ty:TypeId) (gen size:Nat) (rows:List (List T)) (n:Nat) (h:ft[id]? =aa (.arr ty gen size rows)) (cK:n=rows.length):mD ft (.bo id gen size 0 n) (.t (.bE rows))
 |aN (id:Nat) (Γ:List dM) (m gen size:Nat) (rows:List (List T)) (n:Nat) (h:ft[id]? =aa (.aN Γ m gen rows [])) (ep:size=(aR Γ m).size) (cK:n=rows.length):mD ft (.bo id gen size 0 n) (.t (.bE rows))
 |agg (cs s4:List V) (cC:cs.length=s4.length) (h: ∀(i:Nat) c oR,cs[i]? =aa c->s4[i]? =aa oR->mD ft c oR):mD ft (.agg cs) (.agg s4)
def qD(a:List E):List V->List V->Prop
 | [],[]=>True
 |v::c,d::b=>mD a v d/\qD a c b
 |_,_=>False
theorem qD.get: ∀{e b:List V},qD a e b->e.length=b.length/\ ∀(i:Nat) c d,e[i]? =aa c->b[i]? =aa d->mD a c d
 | [],[],_=>⟨rfl,λi c d h _=>by simp at h⟩
 |v::e,m::b,h=>⟨by simp[h.2.get.1],λi c d k l=>by
  match i with
  |0=>simp at k l;subst k;subst l;exact h.1
  |i+1=>exact h.2.get.2 i c d (by simpa using k) (by simpa using l)⟩
 | [],_::_,h=>h.elim
 |_::_,[],h=>h.elim
theorem mD.mk{b Y:List V}(h:qD a b Y):mD a (.agg b) (.agg Y):= .agg _ _ h.get.1 h.get.2
theorem Pm{c:List E}{U:Map}(p:qE G c U w X){gen size:Nat}{a:List (List T)}
  (C:bt U w (hZ X U (er c 0)) (.bo m gen size 0 a.length) u)
  (K:(U m=aa (none,gen)/\a=[])\/ ∃(b:Nat) (l:Array Value),U m=aa (aa b,gen)/\(∃ty,w.heap[b]? =aa (.cells l ty (0,0)))/\a.length*size<=l.size/\(∀d,d∈a->d.length=size)/\
   ∀(i j:Nat) (d:List T) (x:T) (y:Value),a[i]? =aa d->d[j]? =aa x->l[i*size+j]? =aa y->cV w X x y):cV w X (.bE a) u:=by
 rcases K with ⟨r,rfl⟩|⟨b,l,r,⟨ty,L⟩,t,D,Q⟩
 ·rcases fl C r with ⟨_,_,_,_,_,h,_⟩|⟨_,_,_,rfl⟩
  ·cases h
  exact .fW _ _
 rcases fl C r with ⟨s,v,n,R,rfl,h,W,_,_,f,_⟩|⟨h,_⟩
 ·cases h;have k: ∀i j,i<a.length->j<size-> ∃y,l[i*size+j]? =aa y:=λi j p F=>by
   have:(i+1)*size<=a.length*size:=dU _ p;rw[ed] at this;exact⟨_,h8 (O:i*size+j<l.size)⟩
  have g:=cV.bE (w:=w) (X:=X) a b (0*size) size s (λi j=>l.getD (i*size+j) undef) W (p.place m b (.inl ⟨_,r⟩)).2.1 f D (λi j p F=>?_) λi j d x z H=>?_
  ·exact g
  ·obtain⟨y,q⟩:=k i j p F;have o:=(iR.1 q).1
   have:0*size+i*size+j=i*size+j:=O
   rw[this];simp[World.cell?,L,o]
  have A:=(b5.1 z).1;have B:j<size:=by rw[<-D d (bT z)];exact(b5.1 H).1
  obtain⟨y,q⟩:=k i j A B;have o:=(iR.1 q).1;have e:l.getD (i*size+j) undef=y:=by rw[<-(iR.1 q).2];simp[o]
  show cV w X x (l.getD (i*size+j) undef);rw[e];exact Q i j d x y z H q
 cases h
theorem mD.zQ{U:Map}(q:qE G a U w X){v d:V}(Q:mD a v d): ∀{u:Value},bt U w (hZ X U (er a 0)) v u->bt fD w X d u:=by
 induction Q with
 |t x=>intro u h;cases h with|t _ _ h=>exact .t _ _ (h.mono (Ext.refl _ _) λb _ h=> .inl h)
 |arr id ty gen r s n h D=>
  intro u e;subst D;have k:=q.heap id _ h;refine .t _ _ (Pm q e ?_);rcases k.2 with ⟨l,o⟩|⟨b,z,l,o,F,H,K⟩
  ·exact .inl ⟨l,o⟩
  exact .inr ⟨b,z,l,⟨_,o⟩,F,H,λi j p x y aL a2 a3=>(K i j p x y aL a2 a3).mono (Ext.refl _ _) λb _ h=> .inl h⟩
 |aN id P m gen r s n h R D=>
  intro u e;subst D;subst R;have k:=q.heap id _ h;refine .t _ _ (Pm q e ?_);rcases k.2 with ⟨l,o,_⟩|⟨b,z,B,l,o,F,H,K,S,T,W⟩
  ·exact .inl ⟨l,o⟩
  exact .inr ⟨b,z,l,⟨_,o⟩,F,H,λi j p x y aL a2 a3=>(K i j p x y aL a2 a3).none.wW (λb h=> .inl h) λc C=>(q.place id c (.inr ((W c).2 ⟨i,j,C⟩))).2.1⟩
 |agg cs f g _ I=>
  intro u e;cases e with
  |agg _ z Y M=>
   refine .agg _ z O λi N u C e=>?_;have L:i<cs.length:=by rw[g];exact(b5.1 C).1
   have A:=bu L;exact I i _ N A C (M i _ u A e)
theorem qD.Tn{G:fe}{a:List E}{U:Map}{w:World}{X:Nat->Prop}(c:qE G a U w X): ∀{d b:List V} {e:List Value},qD a d b->dx U w (hZ X U (er a 0)) d e->dx fD w X b e
 | [],[],[],_,_=>trivial
 |_::_,_::_,_::_,i,h=>⟨i.1.zQ c h.1,qD.Tn c i.2 h.2⟩
 | [],_::_,_,h,_=>h.elim
 |_::_,[],_,h,_=>h.elim
 | [],[],_::_,_,h=>h.elim
 |_::_,_::_,[],_,h=>h.elim
def Map.cat(n:Nat)(c a:Map):Map:=⟨λk=>bif Nat.blt k n then c k else a (k-n),λk b=>(k<n/\c.n k b)\/(n<=k/\a.n (k-n) b)⟩
theorem C1{U G:Map}(h:k<n):U.cat n G k=U k:=by show(bif Nat.blt k n then U k else G (k-n))=U k;rw[show Nat.blt k n=ab from by simpa[Nat.blt_eq] using h];rfl
theorem ym{U G:Map}(h:n<=k):U.cat n G k=G (k-n):=by
 show(bif Nat.blt k n then U k else G (k-n))=G (k-n)
 have:Nat.blt k n=ak:=by
  cases a:Nat.blt k n with
  |false=>rfl
  |true=>
   have:k<n:=by simpa[Nat.blt_eq] using a
   omega
 rw[this];rfl
theorem C2{U G:Map}{b:Nat}(h:At (U.cat n G) k b):(k<n/\At U k b)\/(n<=k/\At G (k-n) b):=by
 rcases h with ⟨g,h⟩|h|h
 ·by_cases a:k<n
  ·rw[C1 a] at h;exact .inl ⟨a,.inl ⟨g,h⟩⟩
  rw[ym O] at h;exact .inr ⟨O,.inl ⟨g,h⟩⟩
 ·exact .inl ⟨h.1,.inr h.2⟩
 exact .inr ⟨h.1,.inr h.2⟩
theorem afq{l:List E}{F:List V}(h:ig P G f [] F r l)(M:qD a args F)(b8:CS r=ab)(et: ∀e,e∈l->I7 e):
  ig P G f a args (r.ek (List.range' a.length l.length)) (a++l):=by
 refine⟨h.1,λw X o N kn gZ Q hu=>?_⟩;have y2: ∀b,hZ X fD (er [] 0) b->X b:=by
  rintro b (h|⟨_,_,h⟩)
  ·exact h
  exact(qd h).elim
 have S:qE G [] fD w X:=⟨λ_ _=>rfl,λ_ _ _ h=>h,λ_ _ _ h=>(qd h).elim,λ_ _ h=>(qd h).elim,λk e h=>by simp at h⟩
 refine(h.2 w X fD N kn gZ S ((M.Tn Q hu).mono (Ext.refl _ _) (λb _=>y2 b) (dX.refl _) (Shaped.refl _ _))).mono ?_;rintro e w' ⟨u,i,d,rfl,_,L⟩;have p:Ext (λ_=>False) w w':=L.ext.weaken λb _ ⟨k,A⟩=>qd A;have D: ∀k b,At d k b->w.heap.size<=b:=λk b A=>by
  rcases(L.fresh k b A).1 with ⟨cE,s,_⟩|s
  ·exact bs s (pv _)
  exact s
 have Si: ∀k b,At o k b->k<a.length:=by
  rintro k b (⟨g,h⟩|h)
  ·apply oj;intro C;rw[Q.dT k C] at h;cases h
  exact oj λC=>Q.ev k b C h
 have T: ∀b,b<w.heap.size->hZ X (o.cat a.length d) (er (a++l) 0) b->hZ X o (er a 0) b:=by
  rintro b R (I|⟨k,s,z⟩)
  ·exact .inl I
  rcases C2 z with ⟨t,v⟩|⟨_,v⟩
  ·refine .inr ⟨k,?_,v⟩;rw[wQ,bu t];simp
  have:=D _ _ v;omega
 have U:dX o (o.cat a.length d):=λk q g hq=>by
  have:k<a.length:=oj λC=>by rw[Q.dT k C] at hq;cases hq
  exact .inl (by rw[C1 this];exact hq)
 refine⟨u,(),o.cat a.length d,rfl,trivial,?_⟩;refine⟨p.weaken λb _ h=>h.elim,λid hid=> .inl (C1 hid),λb M=>tz (p.keep b M λh=>h),λk A=>?_,λk b A cK=>?_,?_,?_,?_,?_⟩
 ·rw[dm] at A;rw[ym O];exact L.dT _ (O:l.length<=_)
 ·rw[dm] at A;rcases cK with h|h
  ·omega
  exact L.ev _ b (O:l.length<=_) h.2
 ·intro id Y b s z;rcases C2 s with ⟨aL,a2⟩|⟨aL,a2⟩<;>rcases C2 z with ⟨dd,cB⟩|⟨dd,cB⟩
  ·exact Q.inj id Y b a2 cB
  ·have:=(Q.place id b a2).1;have:=D _ _ cB;omega
  ·have:=(Q.place Y b cB).1;have:=D _ _ a2;omega
  have:=L.inj _ _ b a2 cB;omega
 ·intro k b A;rcases C2 A with ⟨s,z⟩|⟨_,z⟩
  ·exact⟨.inl ⟨k,s,z⟩,lN (Q.place k b z).1 p.size⟩
  exact⟨.inr (D _ _ z),(L.fresh _ b z).2⟩
 ·intro k e A;by_cases R:k<a.length
  ·rw[jI R] at A;refine(Q.heap k e A).mono (p.weaken λb _ h=>h.elim) T U (λx I=>by rw[C1 R];exact I) (f8 p) (λb M=>p.keep b (Q.place k b M).1 λh=>h) λb=>⟨λh=>?_,λh=> .inl ⟨R,h⟩⟩
   rcases h with h|h
   ·exact h.2
   omega
  rw[jr O] at A;have W:=L.heap _ e A;have H:=et e (bT A);cases e with
  |cells cs=>exact H.elim
  |aN Γ m gen rows hs=>
   obtain⟨rfl,H⟩:=H;refine⟨W.1,?_⟩;have e1:o.cat a.length d k=d (k-a.length):=ym O;have e2: ∀c,(o.cat a.length d).n k c↔d.n (k-a.length) c:=λc=>⟨λh=>by
    rcases h with ⟨h,_⟩|⟨_,h⟩
    ·omega
    exact h,λh=> .inr ⟨O,h⟩⟩
   rcases W.2 with ⟨s,z,t⟩|⟨b,N,B,s,z,t,v,h5,h6,mR,nP⟩
   ·exact .inl ⟨by rw[e1];exact s,z,λc bS=>t c ((e2 c).1 bS)⟩
   exact .inr ⟨b,N,B,by rw[e1];exact s,z,t,v,λi j K x u aL a2 a3=>Cell.of ((h5 i j K x u aL a2 a3).none.flat (H i j K x aL a2)),h6,mR,λc=>(e2 c).trans (nP c)⟩
  |arr ty gen size rows=>
   refine⟨W.1,?_⟩;have e1:o.cat a.length d k=d (k-a.length):=ym O;rcases W.2 with ⟨s,z⟩|⟨b,N,s,z,t,v,h5⟩
   ·exact .inl ⟨by rw[e1];exact s,z⟩
   exact .inr ⟨b,N,by rw[e1];exact s,z,t,v,λi j K x y aL a2 a3=>(h5 i j K x y aL a2 a3).flat (H K (bT aL) x (bT a2))⟩
 have s:=bt.ek (β':=o.cat a.length d) (L:=List.range' a.length l.length) (L.res.flat (X':=hZ X (o.cat a.length d) (er (a++l) 0)) b8) λk x I=>?_
 ·exact s
 have A:k<l.length:=oj λC=>by
  have SX:d k=aa x:=I;rw[L.dT k C] at SX;cases SX
 have:(List.range' a.length l.length).getD k 0=a.length+k:=by
  rw[fh,List.getElem?_range' O];simp
 rw[this,ym O];rw[show a.length+k-a.length=k by omega];exact I
theorem jw.dL(h:jw P G f args r):ig P G f [] args r []:=by
 refine⟨h.1,λw X a us n i c o=>?_⟩;have p: ∀k b,¬At a k b:=by
  rintro k b (⟨g,h⟩|h)
  ·rw[c.dT k (Nat.zero_le _)] at h;cases h
  exact c.ev k b (Nat.zero_le _) h
 have s: ∀b,hZ X a (er [] 0) b->b<w.heap.size:=by
  rintro b (h|⟨k,h,_⟩)
  ·exact i b h
  simp[er,nl] at h
 have x: ∀(d:List V) (us:List Value),dx a w (hZ X a (er [] 0)) d us->dx fD w X d us:=λd us h=>
  h.mono (Ext.refl _ _) (λb _ h=> .inl h) (λid q g l=>by rw[c.dT id (Nat.zero_le _)] at l;cases l) (Shaped.refl _ _)
 refine(h.2 w X us n i (x _ _ o)).mono ?_;rintro e A ⟨u,rfl,m,y⟩;refine⟨u,(),fD,rfl,trivial,m.weaken λb _ h=>h.elim,λid hid=>bs hid (pv _),λb z=>tz (m.keep b z λh=>h),λ_ _=>rfl,λ_ _ _ h=>h,λ_ _ _ h=>(qd h).elim,λ_ _ h=>(qd h).elim,λk e h=>by simp at h,?_⟩;refine y.mono (Ext.refl _ _) (λb _ h=>?_) (dX.refl _) (Shaped.refl _ _);rcases h with h|⟨k,h,_⟩
 ·exact h
 simp[er,nl] at h
end
section
theorem e7{a:List (List T)}{i:Nat}{b:List T}(h:a[i]? =aa b)(r:List T):(a.set i r)[i]? =aa r:=
 iQ (b5.1 h).1
theorem hc(c:List (List T))(i:Nat)(a b:List T):(c.set i a).set i b=c.set i b:=oi ..
variable {i:Int}{q:List T}{R:Type}
theorem Vh{a:Type}{l r:List a}{x:a}(f:a->List T)(h:cn l i x=aa r)(e:f x=q):(l.map f).set (0+i.toNat) q=r.map f:=by subst e;exact(str f h).symm
theorem mK{l r:List R}{x:R}{a:List T}(f:R->List T)(h:cn l i x=aa r)(e:f x=q):((l.map f).set (0+i.toNat) a).set (0+i.toNat) q=r.map f:=by rw[oi];exact Vh f h e
def bM(j:Nat)(a b:List T):List T:=a.take j++b.drop j
theorem k8{a b:List R}{u:Unit}(f:R->List T)(h:fj a b=aa u):(a.map f).length=(b.map f).length:=by
 unfold fj at h;split at h
 ·rename_i e;simp[e]
 cases h
end
section
variable {K:Ctx}{C:eb}
def kc:Option (df×List dN)->df
 |some r=>r.1
 |none=>⟨[],[],[]⟩
def kW(r:df×List dN):Prop×List Nat×Bool:=(zA r.2,wC r.2,ab)
def kX(a:Prop)(r:df×List dN):Prop×List Nat×Bool:=(a,wD r.2,ab)
def fK(x:Option (df×List dN))(n:Prop×List Nat×Bool)(f:df×List dN->Prop×List Nat×Bool):Prop×List Nat×Bool:=match x with
 |some r=>f r
 |none=>n
variable {P:Prop}{n:Nat}{l:List Oper}{s:S}{Q:Exit->S->Prop}
theorem IU{x:Option (df×List dN)}(b:P)(h:fK x (False,[],ak) kW=fK x (True,[],ab) (kX P)): ∃a,x=aa (kc x,a)/\cI a:=by
 cases x with
 |none=>simp[fK] at h
 |some r=>
  obtain⟨e,a⟩:=r;simp only[fK,kW,kX,Prod.mk.injEq] at h;obtain⟨c,d,_⟩:=h;exact⟨a,rfl,cI.of (c▸b) d⟩
theorem Eo(c:C.Fits K)(a:List cM)(b:P)
  (h:fK (ja C l.toArray l a s) (False,[],ak) kW=fK (ja C l.toArray l a s) (True,[],ab) (kX P)) (d:Q .normal ((kc (ja C l.toArray l a s)).app s)):cX K (.region n l.toArray ak) s Q:=by obtain⟨k,e,i⟩:=IU b h;exact WD _ (Rc c e i (adj (S.le.refl K _))) d
theorem akA(i:C.Fits K)(k:K.P.follows .mixedOrders=ab)(b:List cM){p:Prop}(c:p)
  (h:fK (l5 C l b s) (False,[],ak) kW=fK (l5 C l b s) (True,[],ab) (kX p)) (m:Q .normal ((kc (l5 C l b s)).app s)):cX K (.region n l.toArray ab) s Q:=by
 obtain⟨D,a,o⟩:=IU c h;generalize kc (l5 C l b s)=e at*;unfold l5 at a;split at a
 ·cases a
 rename_i F q r w;split at a
 ·cases a
 rename_i x y z;split at a
 ·rename_i d;cases a;simp only[Bool.and_eq_true] at d;obtain⟨A,B⟩:=cI.app o;refine wO (rM i w A) (QK (s2:=_) (OR x k d.1 d.2 (IJ i z B ?_)) m);rw[oW];exact S.le.refl K _
 cases a
theorem DV(d:C.Fits K)(a:List cM)(c:P)
  (h:fK (gI C a s) (False,[],ak) kW=fK (gI C a s) (True,[],ab) (kX P)):s.le K ((kc (gI C a s)).app s):=by
 obtain⟨l,b,i⟩:=IU c h;generalize kc (gI C a s)=e at*;unfold gI at b;split at b
 ·rename_i k;cases b;exact rM d k i
 cases b
end
section
variable {K:Ctx}{C:eb}
variable {n:Nat}{l:List Oper}{s:S}{Q:Exit->S->Prop}{y c:Code}{P:Prop}
theorem aE(a:C.Fits K)(A:List gT)(b:Q .normal ((kc (ja C l.toArray l (jt A) s)).app s))
  (h:fK (ja C l.toArray l (jt A) s) (False,[],ak) kW=fK (ja C l.toArray l (jt A) s) (True,[],ab) (kX (qC A)):=by kernel_rfl):cX K (.region n l.toArray ak) s Q:=Eo a (jt A) (sg A) h b
theorem ad(a:C.Fits K)(A:List gT)(b:cX K y ((kc (ja C l.toArray l (jt A) s)).app s) Q)
  (h:fK (ja C l.toArray l (jt A) s) (False,[],ak) kW=fK (ja C l.toArray l (jt A) s) (True,[],ab) (kX (qC A)):=by kernel_rfl):cX K (.seq (.region n l.toArray ak) y) s Q:=Cw (Eo a (jt A) (sg A) h b)
theorem bf(a:C.Fits K)(b:Q .normal ((kc (ja C l.toArray l [] s)).app s))
  (h:fK (ja C l.toArray l [] s) (False,[],ak) kW=fK (ja C l.toArray l [] s) (True,[],ab) (kX True):=by kernel_rfl):cX K (.region n l.toArray ak) s Q:=Eo a [] trivial h b
theorem U(a:C.Fits K)(b:cX K y ((kc (ja C l.toArray l [] s)).app s) Q)
  (h:fK (ja C l.toArray l [] s) (False,[],ak) kW=fK (ja C l.toArray l [] s) (True,[],ab) (kX True):=by kernel_rfl):cX K (.seq (.region n l.toArray ak) y) s Q:=Cw (Eo a [] trivial h b)
theorem bJ(a:C.Fits K)(b:K.P.follows .mixedOrders=ab)(A:List gT)(c:Q .normal ((kc (l5 C l (jt A) s)).app s))
  (h:fK (l5 C l (jt A) s) (False,[],ak) kW=fK (l5 C l (jt A) s) (True,[],ab) (kX (qC A)):=by kernel_rfl):cX K (.region n l.toArray ab) s Q:=akA a b (jt A) (sg A) h c
theorem yK(b:C.Fits K)(a:List cM)(h:fK (gI C a s) (False,[],ak) kW=fK (gI C a s) (True,[],ab) (kX True):=by kernel_rfl):s.le K ((kc (gI C a s)).app s):=DV b a trivial h
theorem yL(c:C.Fits K)(a:List cM)(b:P)(h:fK (gI C a s) (False,[],ak) kW=fK (gI C a s) (True,[],ab) (kX P):=by kernel_rfl):s.le K ((kc (gI C a s)).app s):=DV c a b h
theorem bF(b:C.Fits K)(a:List cM)(k:cX K c ((kc (gI C a s)).app s) Q)(h:fK (gI C a s) (False,[],ak) kW=fK (gI C a s) (True,[],ab) (kX True):=by kernel_rfl):cX K c s Q:=wO (DV b a trivial h) k
theorem c6(d:C.Fits K)(a:List cM)(b:P)(k:cX K c ((kc (gI C a s)).app s) Q)(h:fK (gI C a s) (False,[],ak) kW=fK (gI C a s) (True,[],ab) (kX P):=by kernel_rfl):cX K c s Q:=wO (DV d a b h) k
theorem eu(c:C.Fits K)(a b:Nat)(k:Q .ret ((kc (gI C [.cL b 0 [a] []] s)).app s):=by exact q')
  (h:fK (gI C [.cL b 0 [a] []] s) (False,[],ak) kW=fK (gI C [.cL b 0 [a] []] s) (True,[],ab) (kX True):=by kernel_rfl):cX K .ret s Q:=tU (yK c [.cL b 0 [a] []] h) (qr k)
end
def zs(s t:List UInt8):Option Bool:=if s.length<4294967281 then aa (Lib.contains s t) else none
def jX(l:List Int):Option (List Int):=if l.length<=1000000000 then aa l else none
def cmpL:List Int->List Int->Int
 | [],[]=>0
 | [],_::_=> -1
 |_::_,[]=>1
 |x::a,y::b=>if x<y then-1 else if y<x then 1 else cmpL a b
def fC(a:List (List Int)):List (List Int):=a.mergeSort λx y=> !decide (cmpL y x<0)
def mZ(a:List (List Int)):Option (List (List Int)):=if a.length<=1000000000/\ ∀l∈a,l.length<=1000000000 then aa (fC a) else none
def ei(a:Nat->Bool)(m:Nat):List Nat:=(List.range m).filter a
def lr(a:List (List Int))(j:Nat):Bool:=decide (j=0\/a.getD j []≠a.getD (j-1) [])
def gW(a:List (List Int)):List (List Int):=(ei (lr a) a.length).map λj=>a.getD j []
def oe(a:Nat)(c:Int)(b:List Int):List Int:=
 let h:=b.erase c++[c]
 if a<h.length then h.drop 1 else h
def gb(size:Nat):List Int->List Int->Nat
 |_,[]=>0
 |held,c::t=>(if c∈held then 0 else 1)+gb size (oe size c held) t
def D7:List Int->List Int->Nat
 |_,[]=>0
 |seen,c::t=>(if c∈seen then 0 else 1)+D7 (c::seen) t
def wq(l:List Int)(a:Int):Option Int:=aa (if l.length<=600/\0<=a/\a<=40 then(gb a.toNat [] l:Int) else-1)
end Go.Lift
