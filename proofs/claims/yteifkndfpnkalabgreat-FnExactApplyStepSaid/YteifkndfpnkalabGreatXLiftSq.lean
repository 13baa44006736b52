/- Tools. -/
import Derived.Test.YteifkndfpnkalabGreatXLiftX
import Derived.Lib.AtoiAll
import Derived.Lib.ItoaNum
import Derived.Lib.Split
set_option linter.unusedVariables false
namespace Go.Lift
open Go
open Option renaming some -> aa
open Bool renaming true -> ab, false -> al
open List renaming replicate -> dn
section
variable {K:Ctx}{C:dX}{P:Program}{G:fg}{cE:List (Nat×cv)}
inductive gO where
 |o (h:cG) (p:Prop) (k:p)
 |z (h:cG)
 |q (p:Prop) (k:p)
def jc:List gO->List cG
 | []=>[]
 | .o h _ _::l=>h::jc l
 | .z h::l=>h::jc l
 | .q _ _::l=>jc l
def qo:List gO->Prop
 | []=>True
 | .o _ p _::l=>p/\qo l
 | .z _::l=>qo l
 | .q p _::l=>p/\qo l
theorem r6: ∀l,qo l
 | []=>trivial
 | .o _ _ k::l=>⟨k,r6 l⟩
 | .z _::l=>r6 l
 | .q _ k::l=>⟨k,r6 l⟩
def aZ{c:Bool}(k:c=ab):gO:= .o (.b ab) _ k
def aN{c:Bool}(k:c=al):gO:= .o (.b al) _ k
def ew:gO:=aZ (Eq.refl ab)
def cf:gO:=aN (Eq.refl al)
def aO{k:Type}(r:k->List T)(l:List k):gO:= .o (.nat l.length) _ (QQ r l)
def ay{P:Program}{G:fg}{f:FuncId}{a:List V}{r:V}(k:jS P G f a r):gO:= .o (.v r) _ k
def ba(L N:List Nat){P:Program}{G:fg}{f:FuncId}{i:List E}{a:List V}{r:V}{u:List E}(k:hW P G f i a r u):gO:= .o (.dD L N r u) _ k
def a8{k:Type}{l:List k}{i:Int}{x:k}(f:k->List T)(h:aB l i=aa x):gO:= .o (.row (f x)) _ (PZ f h)
def bF{k:Type}{l:List k}{i:Int}{x:k}(f:k->List T)(h:aB l i=aa x):gO:= .o (.row (f x)) _ (bQ f h)
def Sn{o:Option (List UInt8)}{x:List UInt8}(h:o=aa x):gO:= .o (.str x) _ h
def cu{o:Option (List (List T))}{x:List (List T)}(h:o=aa x):gO:= .o (.rows x) _ h
def ar{p:Prop}(k:p):gO:= .q p k
def aX(n:Nat){c:Bool}(k:c=ab):List gO:=dn n (aZ k)
def aR(n:Nat){c:Bool}(k:c=al):List gO:=dn n (aN k)
def ea(n:Nat):List gO:=dn n ew
def eF(n:Nat):List gO:=dn n cf
variable {i n:Nat}{s:S}{Q:Exit->S->Prop}{k R H:Type}{a b e d p h:Prop}{r:R}{x y c:Code}{o A B:Option R}{g:k->Option R}{f:k->R->Option H}{args:List V}
theorem dk{l:List Oper}(e:C.Fits K)(k:K.P.follows .mixedOrders=ab)(A:List gO)(c:List Nat)(a:List (Nat×V))(b:List (Nat×Option E))(d:List (Nat×Bool))(m:Q .normal (s.cl c a b d))
  (h:ml (lG C l (jc A) s) vf (vh s c a b)=ml (lG C l (jc A) s) vg (vi (qo A) a b d):=by kernel_rfl):cW K (.region i l.toArray ab) s Q:=rd e k (jc A) c a b d (r6 A) h m
theorem b0{a:k->Option R}{t:(k->Option R)->Option R}(h:aQ a t=aa r)(I:k->S)
  (b: ∀j:k->Option R,t j=aa r->cW K x s (qR (λd=> ∃z,j z=aa r/\d.le K (I z)) Q)) (c: ∀z,a z=aa r->cW K y (I z) Q):cW K (.seq x y) s Q:=
 mV (γ:=Unit) (j:=a) (r:=r) (λz _=>I z) (xC (b a h) (λe i q=>by
  cases e with
  |normal=>obtain⟨z,b,c⟩:=q;exact⟨z,(),b,c⟩
  |exit=>exact q
  |goto=>exact q
  |ret=>exact q
  |panic=>exact q
  |outgrown=>exact q)) λz _ h=>c z h
theorem cz{a:(k->Option R)->k->Option R}{b:k}(h:bA a n b=aa r)(I:k->S)(m:s.le K (I b))
  (i: ∀(d:k->Option R) (x:k),a d x=aa r->cW K c (I x) (CL (λl=> ∃y,d y=aa r/\l.le K (I y)) Q)):cW K (.loop c) s Q:=
 Cw (γ:=Unit) h (λz _=>I z) () m (λd x _ o=>xC (i d x o) (λe l q=>by
  cases e with
  |normal=>obtain⟨z,p,w⟩:=q;exact⟨z,(),p,w⟩
  |exit=>exact q
  |goto=>exact q
  |ret=>exact q
  |panic=>exact q
  |outgrown=>exact q))
theorem az{z:H}{j:H->Option R}{a:H->List (Nat×V)}{b:H->List (Nat×E)}{c:H->List Nat}(h:j z=aa r)(k:C1 K.eg s (a z) (b z) (c z)=(ky (a z),ky (og (b z)),ab):=by kernel_rfl): ∃z,j z=aa r/\s.le K (bz (a z) (b z) (c z)):=⟨z,h,Sk k⟩
theorem hZ{o:Option k}{r:H}(h:(o.bind λx=>(g x).bind (f x))=aa r): ∃x,o=aa x/\ ∃y,g x=aa y/\f x y=aa r:=by
 obtain⟨x,a,h⟩:=c9 h;obtain⟨y,b,h⟩:=c9 h
 grind
theorem qT{a:Type}{o:Option k}{e:k->R->H->Option a}{r:a}(h:(o.bind λx=>(g x).bind λy=>(f x y).bind (e x y))=aa r): ∃x,o=aa x/\ ∃y,g x=aa y/\ ∃z,f x y=aa z/\e x y z=aa r:=by
 obtain⟨x,b,h⟩:=c9 h;obtain⟨y,c,z,d,h⟩:=hZ h
 grind
theorem bE{f:FuncId}{d:Func}{r:V}{a:List ResultVar}(e:ee P cE)(k:P.funcs[f]? =aa d)(b:(d.name== "runtime.NumGoroutine",d.body,d.results.toList,d.ntmps,Nat.ble args.length i,r.ok gH,Nat.ble a.length 4)=(al,aa c,a,i,ab,ab,ab))
  (h: ∀w X,dX.Fits ⟨P,G,cE,i,0,fE⟩ (Ctx.pure P G w X i)->cW (Ctx.pure P G w X i) c (start args) (Lr cE a r)):jS P G f args r:=by simp only[Prod.mk.injEq] at b;exact Sq e k b.1 b.2.1 b.2.2.1 b.2.2.2.1 b.2.2.2.2.1 b.2.2.2.2.2.1 b.2.2.2.2.2.2 h
theorem cq{f:FuncId}{d:Func}{a out:List E}{r:V}{b:List ResultVar}(l:ee P cE)(m:P.funcs[f]? =aa d)(e:(d.name== "runtime.NumGoroutine",d.body,d.results.toList,d.ntmps,a.length,Nat.ble args.length i,Nat.ble n out.length,Nat.ble b.length 4)=(al,aa c,b,i,n,ab,ab,ab))
  (h: ∀w X k,dX.Fits ⟨P,G,cE,i,n,k⟩ (Ctx.dD P G w X n k i)->uH k a 0->cW (Ctx.dD P G w X n k i) c (l1 a args) (Lq cE b r out)):hW P G f a args r out:=by simp only[Prod.mk.injEq] at e;exact aju l m e.1 e.2.1 e.2.2.1 e.2.2.2.1 e.2.2.2.2.1 e.2.2.2.2.2.1 e.2.2.2.2.2.2.1 e.2.2.2.2.2.2.2 h
theorem eE(i:C.Fits K)(c:List cG)(d:List Nat)(a:List (Nat×V))(b:List (Nat×Option E))(e:List (Nat×Bool))
  (h:ml (gE C c s) vf (vh s d a b)=ml (gE C c s) vg (vi True a b e):=by kernel_rfl):s.le K (s.cl d a b e):=akU i c d a b e h
theorem aW{a:List (Nat×V)}{b:List (Nat×E)}{r:List Nat}(h:C1 K.eg s a b r=(ky a,ky (og b),ab):=by kernel_rfl):s.le K (bz a b r):=Sk h
theorem dD{c:Operand}{b:Bool}(a:b=ab->cW K x s Q)(d:b=al->cW K y s Q)(e:s.get c= .t (.bool b):=by kernel_rfl):cW K (.cond c x y) s Q:=j6 e a d
theorem aD{c:Operand}{b:Bool}(h:(bif b then A else B)=aa r)(a:b=ab->A=aa r->cW K x s Q)(d:b=al->B=aa r->cW K y s Q)(i:s.get c= .t (.bool b):=by kernel_rfl):cW K (.cond c x y) s Q:=
 j6 i (λe=>a e (gQ e h)) λe=>d e (gz e h)
theorem bk{b:Bool}{P:Prop}(h:(bif b then A else B)=aa r)(a:b=al->B=aa r->P)(c:b=ab->A=aa r->P):P:=iQ b (λe=>a e (gz e h)) λe=>c e (gQ e h)
theorem qU{b:List ResultVar}{r:V}{a:List E}(h:(yv r (iK cE s b),uN s a 0,r.ok (fj a.length)&&u' (fj a.length) a)=(aa r,ux a,ab):=by kernel_rfl):
  ∃c,iK cE s b=aa c/\dK (oi c) r/\r.ok (fj a.length)=ab/\ly s.H (fj a.length) (ev a 0):=T6 h
theorem akK{a:List ResultVar}{r:V}(h:yv r (iK cE s a)=aa r:=by kernel_rfl): ∃b,iK cE s a=aa b/\dK (oi b) r:=Ln h
theorem a0:True:=trivial
theorem aP{Q:Prop}(a:Q):Q/\True:=⟨a,trivial⟩
theorem a2{Q:Prop}(a:Q)(b:p):Q/\p/\True:=⟨a,b,trivial⟩
theorem a3{Q E:Prop}(a:Q)(b:p)(c:E):Q/\p/\E/\True:=⟨a,b,c,trivial⟩
theorem a4{Q E:Prop}(b:Q)(c:p)(d:E)(e:a):Q/\p/\E/\a/\True:=⟨b,c,d,e,trivial⟩
theorem a5{Q E:Prop}(c:Q)(d:p)(e:E)(h:a)(i:b):Q/\p/\E/\a/\b/\True:=⟨c,d,e,h,i,trivial⟩
theorem jx{Q E c:Prop}(d:Q)(e:p)(h:E)(i:a)(k:b)(l:c):Q/\p/\E/\a/\b/\c/\True:=⟨d,e,h,i,k,l,trivial⟩
theorem hB{Q E c:Prop}(e:Q)(h:p)(i:E)(k:a)(l:b)(m:c)(n:d):Q/\p/\E/\a/\b/\c/\d/\True:=⟨e,h,i,k,l,m,n,trivial⟩
theorem fI{Q E c:Prop}(h:Q)(i:p)(k:E)(l:a)(m:b)(n:c)(o:d)(q:e):Q/\p/\E/\a/\b/\c/\d/\e/\True:=⟨h,i,k,l,m,n,o,q,trivial⟩
theorem a9{Q E c:Prop}(i:Q)(k:p)(l:E)(m:a)(n:b)(o:c)(q:d)(r:e)(s:h):Q/\p/\E/\a/\b/\c/\d/\e/\h/\True:=⟨i,k,l,m,n,o,q,r,s,trivial⟩
theorem Uv{E c i Q:Prop}(l:p)(m:E)(n:a)(o:b)(q:c)(r:d)(s:e)(w:h)(x:i)(k:Q):p/\E/\a/\b/\c/\d/\e/\h/\i/\Q/\True:=⟨l,m,n,o,q,r,s,w,x,k,trivial⟩
theorem a12{c i k l Q E:Prop}(q:a)(r:b)(s:c)(w:d)(x:e)(y:h)(z:i)(A:k)(B:l)(m:Q)(n:p)(o:E):a/\b/\c/\d/\e/\h/\i/\k/\l/\Q/\p/\E/\True:=⟨q,r,s,w,x,y,z,A,B,m,n,o,trivial⟩
def Je:Nat->Nat->List Nat
 |_,0=>[]
 |a,n+1=>a::Je (a+1) n
abbrev ki(l:List V):Option E:=aa (E.cells l)
theorem ao(h:cW K x s (qR (λa=>cW K y a Q) Q)):cW K (.seq x y) s Q:=B5 h
theorem bu(h:cW K c s (yn i Q)):cW K (.block i c) s Q:=aay h
theorem aA(h:Q .normal s):cW K .skip s Q:=abZ h
theorem qr(h:Q .ret s):cW K .ret s Q:=adQ h
theorem bG(h:Q (.exit i) s):cW K (.exit i) s Q:=ab1 h
theorem tI{a:S}(b:s.le K a)(h:cW K c a Q):cW K c s Q:=wL b h
abbrev b4(a:List (Nat×V)):S:=bz a [] []
abbrev bB:V:=V.t T.fp
abbrev Ku(p:Prop)[Decidable p]:V:=aY (decide p)
def b5{R:Type}{r:R->List T}(n:Nat)(k: ∀a,(r a).length=n)(l:List R):gO:=ar (kQ (r:=r) n k l)
def dG(l:List Int):gO:=b5 (r:=ai) 1 (λ_=>rfl) l
theorem aG(h:Q .ret s:=by exact akK):cW K .ret s Q:=qr h
theorem b2(h:Q .ret s:=by exact qU):cW K .ret s Q:=qr h
theorem bM(h:cW K c s (yn i (qR (λa=>cW K y a Q) Q))):cW K (.seq (.block i c) y) s Q:=ao (bu h)
theorem dc{c:Operand}{z:Code}{b:Bool}(h:(bif b then A else B)=aa r)(d:b=ab->A=aa r->cW K x s (qR (λa=>cW K z a Q) Q))(e:b=al->B=aa r->cW K y s (qR (λa=>cW K z a Q) Q))(i:s.get c= .t (.bool b):=by kernel_rfl):cW K (.seq (.cond c x y) z) s Q:=ao (aD h d e i)
theorem cT{a:(k->Option R)->k->Option R}{z:k}(h:bA a n z=aa r)(I:k->Nat->S)(e:Nat)(i:s.le K (I z e))(d: ∀(b:k->Option R) (x:k) (g:Nat),a b x=aa r->cW K c (I x g) (CL (λl=> ∃y m,b y=aa r/\l.le K (I y m)) Q)):cW K (.loop c) s Q:=Cw (γ:=Nat) h I e i d
theorem au{f:R->Option H}{r:H}{P:Prop}(h:o.bind f=aa r)(k: ∀x,o=aa x->f x=aa r->P):P:=by obtain⟨x,a,b⟩:=c9 h;exact k x a b
theorem bY{γ:Type}{g:R->Option H}{f:R->H->Option γ}{r:γ}{P:Prop}(h:(o.bind λx=>(g x).bind (f x))=aa r)(k: ∀x,o=aa x-> ∀y,g x=aa y->f x y=aa r->P):P:=by obtain⟨x,a,y,b,c⟩:=hZ h;exact k x a y b c
theorem cY{a b:Type}{g:R->Option H}{f:R->H->Option a}{e:R->H->a->Option b}{r:b}{P:Prop}(h:(o.bind λx=>(g x).bind λy=>(f x y).bind (e x y))=aa r)(k: ∀x,o=aa x-> ∀y,g x=aa y-> ∀z,f x y=aa z->e x y z=aa r->P):P:=by obtain⟨x,c,y,d,z,i,l⟩:=qT h;exact k x c y d z i l
end
section
def yF:T->Bool
 | .bH _=>al
 |_=>ab
variable {w:World}{a:List E}{X X':Nat->Prop}{x:T}{v u:Value}{t:List dy}{k n:Nat}{G:fg}{W:Map}{P:Program}
theorem c7.flat{a:World}(h:c7 w X x v)(c:yF x=ab):c7 a X' x v:=by
 cases h with
 |bool b=>exact .bool b
 |int k n=>exact .int k n
 |str l=>exact .str l
 |gd _ _=>cases c
 |bH d b m e o f q r i p s y=>cases c
 |fp=>exact .fp
 |gY=>exact .gY
 |gl=>exact .gl
 |lX=>exact .lX
 |err t v=>exact .err t v
mutual
def CA:V->Bool
 | .t x=>yF x
 | .agg cs=>uw cs
 | .bZ cs=>uw cs
 | .bd _ _ _ _ _=>ab
 | .c'=>ab
 |_=>al
def uw:List V->Bool
 | []=>ab
 |c::cs=>CA c&&uw cs
end
theorem E': ∀{cs:List V} {i:Nat} {c:V},uw cs=ab->cs[i]? =aa c->CA c=ab
 | [],_,_,_,h=>by simp at h
 |c::cs,0,_,a,h=>by simp[uw] at a;simp at h;subst h;exact a.1
 |c::cs,i+1,_,a,h=>by simp[uw] at a;exact E' a.2 (by simpa using h)
theorem bC.flat{β:Map}{v:V}(h:bC β w X v u)(k:CA v=ab):bC β w X' v u:=by
 induction h with
 |t x v h=>exact .t x v (h.flat k)
 |agg cs p m _ r=>exact .agg cs p m (λi c u o s=>r i c u o s (E' k o))
 |bZ cs p m _ r=>exact .bZ cs p m (λi c u o s=>r i c u o s (E' k o))
 |ref id d b e=>cases k
 |aU cells b d f e F o G=>cases k
 |bd id gen a d len y b n ty l e A B C m D=>exact .bd id gen a d len y b n ty l e A B C m D
 |ho id gen a l e=>exact .ho id gen a l e
 |kc id gen a d len v q g z e l=>exact .kc id gen a d len v q g z e l
 |cR id gen a i d b l e=>cases k
 |k7 id gen a i d v q g z e l=>cases k
 |fn f cs p m h=>cases k
 |c' v=>exact .c' v
def QG(a:List (List T)):Prop:= ∀b,b∈a-> ∀x,x∈b->yF x=ab
inductive kt (Γ:List dy):Option Nat->T->Prop
 |fm (x:T) (h:yF x=ab):kt Γ none x
 |own (m:Nat) (rows:List (List T)) (h: ∀(i j:Nat) row x,rows[i]? =aa row->row[j]? =aa x->kt Γ ((U Γ m).ed j) x):kt Γ (aa m) (.bH rows)
theorem fP.flat{m:Option Nat}{N:Nat->Prop}(h:fP t w X m x v N):kt t m x->fP t w X' m x v N:=by
 induction h with
 |fm x v N h c=>intro a;cases a with|fm _ a=>exact .fm _ _ _ (h.flat a) c
 |nil m N c=>intro _;exact .nil _ _ c
 |own m d b k n B N o p q r l A s y c z=>
  intro a;cases a with
  |own _ _ a=>exact .own m d b k n B N o p q r l (λi j e x u aP a2 a3=>z i j e x u aP a2 a3 (a i j e x aP a2)) s y c
theorem wR{m:Nat}{k:Type}{f:k->List T}(h: ∀(y:k) (j:Nat) x,(f y)[j]? =aa x->kt t ((U t m).ed j) x)(l:List k): ∀(i j:Nat) a x,(List.map f l)[i]? =aa a->a[j]? =aa x->kt t ((U t m).ed j) x:=λi j a x b c=>by obtain⟨y,_,rfl⟩:=eH.1 (bX b);exact h y j x c
def CQ:E->Prop
 | .arr _ _ _ a=>QG a
 | .aC c m _ a d=>d=[]/\ ∀(i j:Nat) b x,a[i]? =aa b->b[j]? =aa x->kt c ((U c m).ed j) x
 |_=>False
theorem aaR{k:Type}{f:k->List T}(h: ∀x y,y∈f x->yF y=ab)(l:List k):QG (List.map f l):=λb c x d=>by obtain⟨a,_,rfl⟩:=eH.1 c;exact h a x d
inductive kY (fu:List E):V->V->Prop where
 |t (x:T):kY fu (.t x) (.t x)
 |arr (id:Nat) (ty:TypeId) (gen size:Nat) (rows:List (List T)) (n:Nat) (h:fu[id]? =aa (.arr ty gen size rows)) (ca:n=rows.length):kY fu (.bd id gen size 0 n) (.t (.bH rows))
 |aC (id:Nat) (Γ:List dy) (m gen size:Nat) (rows:List (List T)) (n:Nat) (h:fu[id]? =aa (.aC Γ m gen rows [])) (et:size=(U Γ m).size) (ca:n=rows.length):kY fu (.bd id gen size 0 n) (.t (.bH rows))
 |agg (cs sN:List V) (cS:cs.length=sN.length) (h: ∀(i:Nat) c yw,cs[i]? =aa c->sN[i]? =aa yw->kY fu c yw):kY fu (.agg cs) (.agg sN)
def qp(a:List E):List V->List V->Prop
 | [],[]=>True
 |v::c,d::b=>kY a v d/\qp a c b
 |_,_=>False
theorem qp.get: ∀{e b:List V},qp a e b->e.length=b.length/\ ∀(i:Nat) c d,e[i]? =aa c->b[i]? =aa d->kY a c d
 | [],[],_=>⟨rfl,λi c d h _=>by simp at h⟩
 |v::e,m::b,h=>⟨by simp[h.2.get.1],λi c d k l=>by
  match i with
  |0=>simp at k l;subst k;subst l;exact h.1
  |i+1=>exact h.2.get.2 i c d (by simpa using k) (by simpa using l)⟩
 | [],_::_,h=>h.elim
 |_::_,[],h=>h.elim
theorem kY.mk{c b:List V}(h:qp a c b):kY a (.agg c) (.agg b):= .agg _ _ h.get.1 h.get.2
theorem Oy{c:List E}(p:qx G c W w X){gen size:Nat}{a:List (List T)}
  (C:bC W w (hQ X W (ev c 0)) (.bd k gen size 0 a.length) u)
  (K:(W k=aa (none,gen)/\a=[])\/ ∃(b:Nat) (m:Array Value),W k=aa (aa b,gen)/\(∃ty,w.heap[b]? =aa (.cells m ty (0,0)))/\a.length*size<=m.size/\(∀d,d∈a->d.length=size)/\
   ∀(i j:Nat) (d:List T) (x:T) (y:Value),a[i]? =aa d->d[j]? =aa x->m[i*size+j]? =aa y->c7 w X x y):c7 w X (.bH a) u:=by
 rcases K with ⟨r,rfl⟩|⟨b,m,r,⟨ty,L⟩,v,D,Q⟩
 ·rcases fb C r with ⟨_,_,_,_,_,h,_⟩|⟨_,_,_,rfl⟩
  ·cases h
  exact .gd _ _
 rcases fb C r with ⟨s,I,n,R,rfl,h,f,_,_,g,_⟩|⟨h,_⟩
 ·cases h;have l: ∀i j,i<a.length->j<size-> ∃y,m[i*size+j]? =aa y:=λi j p F=>by
   have:(i+1)*size<=a.length*size:=dR _ p;rw[dN] at this;exact⟨_,hR (O:i*size+j<m.size)⟩
  have t:=c7.bH (w:=w) (X:=X) a b (0*size) size s (λi j=>m.getD (i*size+j) undef) f (p.place k b (.inl ⟨_,r⟩)).2.1 g D (λi j p F=>?_) λi j d x z H=>?_
  ·exact t
  ·obtain⟨y,q⟩:=l i j p F;have o:=(iE.1 q).1
   have:0*size+i*size+j=i*size+j:=O
   rw[this];simp[World.cell?,L,o]
  have A:=(d6.1 z).1;have B:j<size:=by rw[<-D d (bX z)];exact(d6.1 H).1
  obtain⟨y,q⟩:=l i j A B;have o:=(iE.1 q).1;have e:m.getD (i*size+j) undef=y:=by rw[<-(iE.1 q).2];simp[o]
  show c7 w X x (m.getD (i*size+j) undef);rw[e];exact Q i j d x y z H q
 cases h
theorem kY.zC(q:qx G a W w X){v d:V}(Q:kY a v d): ∀{u:Value},bC W w (hQ X W (ev a 0)) v u->bC fE w X d u:=by
 induction Q with
 |t x=>intro u h;cases h with|t _ _ h=>exact .t _ _ (h.mono (Ext.refl _ _) λb _ h=> .inl h)
 |arr id ty gen r s n h D=>
  intro u e;subst D;have k:=q.heap id _ h;refine .t _ _ (Oy q e ?_);rcases k.2 with ⟨l,o⟩|⟨b,z,l,o,F,H,K⟩
  ·exact .inl ⟨l,o⟩
  exact .inr ⟨b,z,l,⟨_,o⟩,F,H,λi j p x y aP a2 a3=>(K i j p x y aP a2 a3).mono (Ext.refl _ _) λb _ h=> .inl h⟩
 |aC id S m gen r s n h R D=>
  intro u e;subst D;subst R;have k:=q.heap id _ h;refine .t _ _ (Oy q e ?_);rcases k.2 with ⟨l,o,_⟩|⟨b,z,B,l,o,F,H,K,T,U,f⟩
  ·exact .inl ⟨l,o⟩
  exact .inr ⟨b,z,l,⟨_,o⟩,F,H,λi j p x y aP a2 a3=>(K i j p x y aP a2 a3).none.wU (λb h=> .inl h) λc C=>(q.place id c (.inr ((f c).2 ⟨i,j,C⟩))).2.1⟩
 |agg cs g I _ M=>
  intro u e;cases e with
  |agg _ z Y N=>
   refine .agg _ z O λi P u C e=>?_;have L:i<cs.length:=by rw[I];exact(d6.1 C).1
   have A:=bD L;exact M i _ P A C (N i _ u A e)
theorem qp.Sw{G:fg}{a:List E}{W:Map}{w:World}{X:Nat->Prop}(c:qx G a W w X): ∀{d b:List V} {e:List Value},qp a d b->du W w (hQ X W (ev a 0)) d e->du fE w X b e
 | [],[],[],_,_=>trivial
 |_::_,_::_,_::_,i,h=>⟨i.1.zC c h.1,qp.Sw c i.2 h.2⟩
 | [],_::_,_,h,_=>h.elim
 |_::_,[],_,h,_=>h.elim
 | [],[],_::_,_,h=>h.elim
 |_::_,_::_,[],_,h=>h.elim
def Map.cat(n:Nat)(c a:Map):Map:=⟨λk=>bif Nat.blt k n then c k else a (k-n),λk b=>(k<n/\c.n k b)\/(n<=k/\a.n (k-n) b)⟩
theorem CE{V:Map}(h:k<n):V.cat n W k=V k:=by show(bif Nat.blt k n then V k else W (k-n))=V k;rw[show Nat.blt k n=ab from by simpa[Nat.blt_eq] using h];rfl
theorem yi{V:Map}(h:n<=k):V.cat n W k=W (k-n):=by
 show(bif Nat.blt k n then V k else W (k-n))=W (k-n)
 have:Nat.blt k n=al:=by
  cases a:Nat.blt k n with
  |false=>rfl
  |true=>
   have:k<n:=by simpa[Nat.blt_eq] using a
   omega
 rw[this];rfl
theorem CF{V:Map}{b:Nat}(h:At (V.cat n W) k b):(k<n/\At V k b)\/(n<=k/\At W (k-n) b):=by
 rcases h with ⟨g,h⟩|h|h
 ·by_cases a:k<n
  ·rw[CE a] at h;exact .inl ⟨a,.inl ⟨g,h⟩⟩
  rw[yi O] at h;exact .inr ⟨O,.inl ⟨g,h⟩⟩
 ·exact .inl ⟨h.1,.inr h.2⟩
 exact .inr ⟨h.1,.inr h.2⟩
theorem Pm{f:FuncId}{l:List E}{args F:List V}{r:V}(h:hW P G f [] F r l)(M:qp a args F)(b6:CA r=ab)(c6: ∀e,e∈l->CQ e):
  hW P G f a args (r.ek (List.range' a.length l.length)) (a++l):=by
 refine⟨h.1,λw X o N j7 gi Q hu=>?_⟩;have yQ: ∀b,hQ X fE (ev [] 0) b->X b:=by
  rintro b (h|⟨_,_,h⟩)
  ·exact h
  exact(pZ h).elim
 have S:qx G [] fE w X:=⟨λ_ _=>rfl,λ_ _ _ h=>h,λ_ _ _ h=>(pZ h).elim,λ_ _ h=>(pZ h).elim,λk e h=>by simp at h⟩
 refine(h.2 w X fE N j7 gi S ((M.Sw Q hu).mono (Ext.refl _ _) (λb _=>yQ b) (dT.refl _) (Shaped.refl _ _))).mono ?_;rintro e w' ⟨u,i,d,rfl,_,L⟩;have p:Ext (λ_=>False) w w':=L.ext.weaken λb _ ⟨k,A⟩=>pZ A;have D: ∀k b,At d k b->w.heap.size<=b:=λk b A=>by
  rcases(L.fresh k b A).1 with ⟨cD,s,_⟩|s
  ·exact br s (o6 _)
  exact s
 have yL: ∀k b,At o k b->k<a.length:=by
  rintro k b (⟨g,h⟩|h)
  ·apply nV;intro C;rw[Q.d' k C] at h;cases h
  exact nV λC=>Q.eB k b C h
 have T: ∀b,b<w.heap.size->hQ X (o.cat a.length d) (ev (a++l) 0) b->hQ X o (ev a 0) b:=by
  rintro b R (I|⟨k,s,z⟩)
  ·exact .inl I
  rcases CF z with ⟨t,v⟩|⟨_,v⟩
  ·refine .inr ⟨k,?_,v⟩;rw[wO,bD t];simp
  have:=D _ _ v;omega
 have U:dT o (o.cat a.length d):=λk q g dr=>by
  have:k<a.length:=nV λC=>by rw[Q.d' k C] at dr;cases dr
  exact .inl (by rw[CE this];exact dr)
 refine⟨u,(),o.cat a.length d,rfl,trivial,?_⟩;refine⟨p.weaken λb _ h=>h.elim,λid hid=> .inl (CE hid),λb M=>tl (p.keep b M λh=>h),λk A=>?_,λk b A ca=>?_,?_,?_,?_,?_⟩
 ·rw[dQ] at A;rw[yi O];exact L.d' _ (O:l.length<=_)
 ·rw[dQ] at A;rcases ca with h|h
  ·omega
  exact L.eB _ b (O:l.length<=_) h.2
 ·intro id Y b s z;rcases CF s with ⟨aP,a2⟩|⟨aP,a2⟩<;>rcases CF z with ⟨dm,cM⟩|⟨dm,cM⟩
  ·exact Q.inj id Y b a2 cM
  ·have:=(Q.place id b a2).1;have:=D _ _ cM;omega
  ·have:=(Q.place Y b cM).1;have:=D _ _ a2;omega
  have:=L.inj _ _ b a2 cM;omega
 ·intro k b A;rcases CF A with ⟨s,z⟩|⟨_,z⟩
  ·exact⟨.inl ⟨k,s,z⟩,lq (Q.place k b z).1 p.size⟩
  exact⟨.inr (D _ _ z),(L.fresh _ b z).2⟩
 ·intro k e A;by_cases R:k<a.length
  ·rw[hz R] at A;refine(Q.heap k e A).mono (p.weaken λb _ h=>h.elim) T U (λx I=>by rw[CE R];exact I) (q3 p) (λb M=>p.keep b (Q.place k b M).1 λh=>h) λb=>⟨λh=>?_,λh=> .inl ⟨R,h⟩⟩
   rcases h with h|h
   ·exact h.2
   omega
  rw[ic O] at A;have W:=L.heap _ e A;have H:=c6 e (bX A);cases e with
  |cells cs=>exact H.elim
  |aC Γ m gen rows hs=>
   obtain⟨rfl,H⟩:=H;refine⟨W.1,?_⟩;have e1:o.cat a.length d k=d (k-a.length):=yi O;have e2: ∀c,(o.cat a.length d).n k c↔d.n (k-a.length) c:=λc=>⟨λh=>by
    rcases h with ⟨h,_⟩|⟨_,h⟩
    ·omega
    exact h,λh=> .inr ⟨O,h⟩⟩
   rcases W.2 with ⟨s,z,t⟩|⟨b,N,B,s,z,t,v,h5,h6,lM,mC⟩
   ·exact .inl ⟨by rw[e1];exact s,z,λc bU=>t c ((e2 c).1 bU)⟩
   exact .inr ⟨b,N,B,by rw[e1];exact s,z,t,v,λi j K x u aP a2 a3=>Cell.of ((h5 i j K x u aP a2 a3).none.flat (H i j K x aP a2)),h6,lM,λc=>(e2 c).trans (mC c)⟩
  |arr ty gen size rows=>
   refine⟨W.1,?_⟩;have e1:o.cat a.length d k=d (k-a.length):=yi O;rcases W.2 with ⟨s,z⟩|⟨b,N,s,z,t,v,h5⟩
   ·exact .inl ⟨by rw[e1];exact s,z⟩
   exact .inr ⟨b,N,by rw[e1];exact s,z,t,v,λi j K x y aP a2 a3=>(h5 i j K x y aP a2 a3).flat (H K (bX aP) x (bX a2))⟩
 have s:=bC.ek (β':=o.cat a.length d) (L:=List.range' a.length l.length) (L.res.flat (X':=hQ X (o.cat a.length d) (ev (a++l) 0)) b6) λk x I=>?_
 ·exact s
 have A:k<l.length:=nV λC=>by
  have R7:d k=aa x:=I;rw[L.d' k C] at R7;cases R7
 have:(List.range' a.length l.length).getD k 0=a.length+k:=by
  rw[fa,List.getElem?_range' O];simp
 rw[this,yi O];rw[show a.length+k-a.length=k by omega];exact I
theorem jS.dD{f:FuncId}{args:List V}{r:V}(h:jS P G f args r):hW P G f [] args r []:=by
 refine⟨h.1,λw X a us n i c o=>?_⟩;have p: ∀k b,¬At a k b:=by
  rintro k b (⟨g,h⟩|h)
  ·rw[c.d' k (Nat.zero_le _)] at h;cases h
  exact c.eB k b (Nat.zero_le _) h
 have s: ∀b,hQ X a (ev [] 0) b->b<w.heap.size:=by
  rintro b (h|⟨k,h,_⟩)
  ·exact i b h
  simp[ev,mS] at h
 have x: ∀(d:List V) (us:List Value),du a w (hQ X a (ev [] 0)) d us->du fE w X d us:=λd us h=>
  h.mono (Ext.refl _ _) (λb _ h=> .inl h) (λid q g l=>by rw[c.d' id (Nat.zero_le _)] at l;cases l) (Shaped.refl _ _)
 refine(h.2 w X us n i (x _ _ o)).mono ?_;rintro e A ⟨u,rfl,m,y⟩;refine⟨u,(),fE,rfl,trivial,m.weaken λb _ h=>h.elim,λid hid=>br hid (o6 _),λb z=>tl (m.keep b z λh=>h),λ_ _=>rfl,λ_ _ _ h=>h,λ_ _ _ h=>(pZ h).elim,λ_ _ h=>(pZ h).elim,λk e h=>by simp at h,?_⟩;refine y.mono (Ext.refl _ _) (λb _ h=>?_) (dT.refl _) (Shaped.refl _ _);rcases h with h|⟨k,h,_⟩
 ·exact h
 simp[ev,mS] at h
end
section
theorem eZ{a:List (List T)}{i:Nat}{b:List T}(h:a[i]? =aa b)(r:List T):(a.set i r)[i]? =aa r:=
 ia (d6.1 h).1
theorem gZ(c:List (List T))(i:Nat)(a b:List T):(c.set i a).set i b=c.set i b:=nT ..
variable {i:Int}{k:Type}{l r:List k}{x:k}{q:List T}
theorem afI(f:k->List T)(h:ch l i x=aa r)(e:f x=q):(l.map f).set (0+i.toNat) q=r.map f:=by subst e;exact(str f h).symm
theorem my{a:List T}(f:k->List T)(h:ch l i x=aa r)(e:f x=q):((l.map f).set (0+i.toNat) a).set (0+i.toNat) q=r.map f:=by rw[nT];exact afI f h e
def bN(j:Nat)(a b:List T):List T:=a.take j++b.drop j
theorem kP{a b:List k}{u:Unit}(f:k->List T)(h:e6 a b=aa u):(a.map f).length=(b.map f).length:=by
 unfold e6 at h;split at h
 ·rename_i e;simp[e]
 cases h
end
section
variable {K:Ctx}{C:dX}
def jW:Option (dd×List dJ)->dd
 |some r=>r.1
 |none=>⟨[],[],[]⟩
def kE(r:dd×List dJ):Prop×List Nat×Bool:=(zi r.2,wA r.2,ab)
def kF(a:Prop)(r:dd×List dJ):Prop×List Nat×Bool:=(a,wB r.2,ab)
def fL(x:Option (dd×List dJ))(n:Prop×List Nat×Bool)(f:dd×List dJ->Prop×List Nat×Bool):Prop×List Nat×Bool:=match x with
 |some r=>f r
 |none=>n
variable {P:Prop}{i:Nat}{l:List Oper}{s:S}{Q:Exit->S->Prop}
theorem H6{x:Option (dd×List dJ)}(b:P)(h:fL x (False,[],al) kE=fL x (True,[],ab) (kF P)): ∃a,x=aa (jW x,a)/\cI a:=by
 cases x with
 |none=>simp[fL] at h
 |some r=>
  obtain⟨e,a⟩:=r;simp only[fL,kE,kF,Prod.mk.injEq] at h;obtain⟨c,d,_⟩:=h;exact⟨a,rfl,cI.of (c▸b) d⟩
theorem DY(c:C.Fits K)(a:List cG)(b:P)
  (h:fL (iP C l.toArray l a s) (False,[],al) kE=fL (iP C l.toArray l a s) (True,[],ab) (kF P)) (d:Q .normal ((jW (iP C l.toArray l a s)).app s)):cW K (.region i l.toArray al) s Q:=by obtain⟨m,e,k⟩:=H6 b h;exact Vq _ (Ql c e k (ab2 (S.le.refl K _))) d
theorem ajk(k:C.Fits K)(m:K.P.follows .mixedOrders=ab)(b:List cG){p:Prop}(c:p)
  (h:fL (lG C l b s) (False,[],al) kE=fL (lG C l b s) (True,[],ab) (kF p)) (n:Q .normal ((jW (lG C l b s)).app s)):cW K (.region i l.toArray ab) s Q:=by
 obtain⟨D,a,o⟩:=H6 c h;generalize jW (lG C l b s)=e at*;unfold lG at a;split at a
 ·cases a
 rename_i F q r w;split at a
 ·cases a
 rename_i x y z;split at a
 ·rename_i d;cases a;simp only[Bool.and_eq_true] at d;obtain⟨A,B⟩:=cI.app o;refine wL (rF k w A) (PO (s2:=_) (NV x m d.1 d.2 (HZ k z B ?_)) n);rw[oF];exact S.le.refl K _
 cases a
theorem DA(d:C.Fits K)(a:List cG)(c:P)
  (h:fL (gE C a s) (False,[],al) kE=fL (gE C a s) (True,[],ab) (kF P)):s.le K ((jW (gE C a s)).app s):=by
 obtain⟨l,b,i⟩:=H6 c h;generalize jW (gE C a s)=e at*;unfold gE at b;split at b
 ·rename_i k;cases b;exact rF d k i
 cases b
end
section
variable {K:Ctx}{C:dX}
variable {i:Nat}{l:List Oper}{s:S}{Q:Exit->S->Prop}{y c:Code}{P:Prop}
theorem aF(a:C.Fits K)(A:List gO)(b:Q .normal ((jW (iP C l.toArray l (jc A) s)).app s))
  (h:fL (iP C l.toArray l (jc A) s) (False,[],al) kE=fL (iP C l.toArray l (jc A) s) (True,[],ab) (kF (qo A)):=by kernel_rfl):cW K (.region i l.toArray al) s Q:=DY a (jc A) (r6 A) h b
theorem ah(a:C.Fits K)(A:List gO)(b:cW K y ((jW (iP C l.toArray l (jc A) s)).app s) Q)
  (h:fL (iP C l.toArray l (jc A) s) (False,[],al) kE=fL (iP C l.toArray l (jc A) s) (True,[],ab) (kF (qo A)):=by kernel_rfl):cW K (.seq (.region i l.toArray al) y) s Q:=B5 (DY a (jc A) (r6 A) h b)
theorem bt(a:C.Fits K)(b:Q .normal ((jW (iP C l.toArray l [] s)).app s))
  (h:fL (iP C l.toArray l [] s) (False,[],al) kE=fL (iP C l.toArray l [] s) (True,[],ab) (kF True):=by kernel_rfl):cW K (.region i l.toArray al) s Q:=DY a [] trivial h b
theorem ae(a:C.Fits K)(b:cW K y ((jW (iP C l.toArray l [] s)).app s) Q)
  (h:fL (iP C l.toArray l [] s) (False,[],al) kE=fL (iP C l.toArray l [] s) (True,[],ab) (kF True):=by kernel_rfl):cW K (.seq (.region i l.toArray al) y) s Q:=B5 (DY a [] trivial h b)
theorem bK(a:C.Fits K)(b:K.P.follows .mixedOrders=ab)(A:List gO)(c:Q .normal ((jW (lG C l (jc A) s)).app s))
  (h:fL (lG C l (jc A) s) (False,[],al) kE=fL (lG C l (jc A) s) (True,[],ab) (kF (qo A)):=by kernel_rfl):cW K (.region i l.toArray ab) s Q:=ajk a b (jc A) (r6 A) h c
theorem C8(b:C.Fits K)(a:List cG)(h:fL (gE C a s) (False,[],al) kE=fL (gE C a s) (True,[],ab) (kF True):=by kernel_rfl):s.le K ((jW (gE C a s)).app s):=DA b a trivial h
theorem yB(c:C.Fits K)(a:List cG)(b:P)(h:fL (gE C a s) (False,[],al) kE=fL (gE C a s) (True,[],ab) (kF P):=by kernel_rfl):s.le K ((jW (gE C a s)).app s):=DA c a b h
theorem aS(b:C.Fits K)(a:List cG)(k:cW K c ((jW (gE C a s)).app s) Q)(h:fL (gE C a s) (False,[],al) kE=fL (gE C a s) (True,[],ab) (kF True):=by kernel_rfl):cW K c s Q:=wL (DA b a trivial h) k
theorem cV(d:C.Fits K)(a:List cG)(b:P)(k:cW K c ((jW (gE C a s)).app s) Q)(h:fL (gE C a s) (False,[],al) kE=fL (gE C a s) (True,[],ab) (kF P):=by kernel_rfl):cW K c s Q:=wL (DA d a b h) k
theorem ff(c:C.Fits K)(a b:Nat)(k:Q .ret ((jW (gE C [.bs b 0 [a] []] s)).app s):=by exact qU)
  (h:fL (gE C [.bs b 0 [a] []] s) (False,[],al) kE=fL (gE C [.bs b 0 [a] []] s) (True,[],ab) (kF True):=by kernel_rfl):cW K .ret s Q:=tI (C8 c [.bs b 0 [a] []] h) (qr k)
end
def zc(s t:List UInt8):Option Bool:=if s.length<4294967281 then aa (Lib.contains s t) else none
def jG(l:List Int):Option (List Int):=if l.length<=1000000000 then aa l else none
def cmpL:List Int->List Int->Int
 | [],[]=>0
 | [],_::_=> -1
 |_::_,[]=>1
 |x::a,y::b=>if x<y then-1 else if y<x then 1 else cmpL a b
def fD(a:List (List Int)):List (List Int):=a.mergeSort λx y=> !decide (cmpL y x<0)
def mN(a:List (List Int)):Option (List (List Int)):=if a.length<=1000000000/\ ∀l∈a,l.length<=1000000000 then aa (fD a) else none
def ej(a:Nat->Bool)(m:Nat):List Nat:=(List.range m).filter a
def k5(a:List (List Int))(j:Nat):Bool:=decide (j=0\/a.getD j []≠a.getD (j-1) [])
def gC(a:List (List Int)):List (List Int):=(ej (k5 a) a.length).map λj=>a.getD j []
def DK:List Int->List Int->Nat
 |_,[]=>0
 |seen,c::t=>(if c∈seen then 0 else 1)+DK (c::seen) t
end Go.Lift
