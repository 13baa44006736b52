/- Tools. -/
import Derived.Test.YteifkndfpnkalabGreatVLiftX
import Derived.Lib.AtoiAll
import Derived.Lib.ItoaNum
import Derived.Lib.Split
set_option linter.unusedVariables false
namespace Go.Lift
open Go
open Option renaming some -> aa
open Bool renaming true -> ab, false -> al
open List renaming replicate -> dh
section
variable {K:Ctx}{C:dV}{P:Program}{G:fh}{cE:List (Nat×ct)}
inductive gQ where
 |o (h:cG) (p:Prop) (k:p)
 |z (h:cG)
 |q (p:Prop) (k:p)
def i':List gQ->List cG
 | []=>[]
 | .o h _ _::l=>h::i' l
 | .z h::l=>h::i' l
 | .q _ _::l=>i' l
def qc:List gQ->Prop
 | []=>True
 | .o _ p _::l=>p/\qc l
 | .z _::l=>qc l
 | .q p _::l=>p/\qc l
theorem rW: ∀l,qc l
 | []=>trivial
 | .o _ _ k::l=>⟨k,rW l⟩
 | .z _::l=>rW l
 | .q _ k::l=>⟨k,rW l⟩
def aY{c:Bool}(k:c=ab):gQ:= .o (.b ab) _ k
def aO{c:Bool}(k:c=al):gQ:= .o (.b al) _ k
def ew:gQ:=aY (Eq.refl ab)
def cf:gQ:=aO (Eq.refl al)
def aN{k:Type}(r:k->List T)(l:List k):gQ:= .o (.nat l.length) _ (QY r l)
def ay{P:Program}{G:fh}{f:FuncId}{a:List V}{r:V}(k:jT P G f a r):gQ:= .o (.v r) _ k
def a'(L N:List Nat){P:Program}{G:fh}{f:FuncId}{i:List E}{a:List V}{r:V}{u:List E}(k:hY P G f i a r u):gQ:= .o (.dB L N r u) _ k
def a8{k:Type}{l:List k}{i:Int}{x:k}(f:k->List T)(h:aB l i=aa x):gQ:= .o (.row (f x)) _ (P2 f h)
def bD{k:Type}{l:List k}{i:Int}{x:k}(f:k->List T)(h:aB l i=aa x):gQ:= .o (.row (f x)) _ (bP f h)
def Sp{o:Option (List UInt8)}{x:List UInt8}(h:o=aa x):gQ:= .o (.str x) _ h
def cq{o:Option (List (List T))}{x:List (List T)}(h:o=aa x):gQ:= .o (.rows x) _ h
def ar{p:Prop}(k:p):gQ:= .q p k
def aX(n:Nat){c:Bool}(k:c=ab):List gQ:=dh n (aY k)
def aR(n:Nat){c:Bool}(k:c=al):List gQ:=dh n (aO k)
def d'(n:Nat):List gQ:=dh n ew
def eF(n:Nat):List gQ:=dh n cf
variable {i n:Nat}{s:S}{Q:Exit->S->Prop}{k R H:Type}{a b e d p h:Prop}{r:R}{x y c:Code}{o A B:Option R}{g:k->Option R}{f:k->R->Option H}{args:List V}
theorem dk{l:List Oper}(e:C.Fits K)(k:K.P.follows .mixedOrders=ab)(A:List gQ)(c:List Nat)(a:List (Nat×V))(b:List (Nat×Option E))(d:List (Nat×Bool))(m:Q .normal (s.cl c a b d))
  (h:mo (lN C l (i' A) s) vh (vj s c a b)=mo (lN C l (i' A) s) vi (vk (qc A) a b d):=by kernel_rfl):cY K (.region i l.toArray ab) s Q:=rd e k (i' A) c a b d (rW A) h m
theorem bZ{a:k->Option R}{t:(k->Option R)->Option R}(h:aS a t=aa r)(I:k->S)
  (b: ∀j:k->Option R,t j=aa r->cY K x s (qF (λd=> ∃z,j z=aa r/\d.le K (I z)) Q)) (c: ∀z,a z=aa r->cY K y (I z) Q):cY K (.seq x y) s Q:=
 mV (γ:=Unit) (j:=a) (r:=r) (λz _=>I z) (xr (b a h) (λe i q=>by
  cases e with
  |normal=>obtain⟨z,b,c⟩:=q;exact⟨z,(),b,c⟩
  |exit=>exact q
  |goto=>exact q
  |ret=>exact q
  |panic=>exact q
  |outgrown=>exact q)) λz _ h=>c z h
theorem cv{a:(k->Option R)->k->Option R}{b:k}(h:bz a n b=aa r)(I:k->S)(m:s.le K (I b))
  (i: ∀(d:k->Option R) (x:k),a d x=aa r->cY K c (I x) (CK (λl=> ∃y,d y=aa r/\l.le K (I y)) Q)):cY K (.loop c) s Q:=
 Cy (γ:=Unit) h (λz _=>I z) () m (λd x _ o=>xr (i d x o) (λe l q=>by
  cases e with
  |normal=>obtain⟨z,p,w⟩:=q;exact⟨z,(),p,w⟩
  |exit=>exact q
  |goto=>exact q
  |ret=>exact q
  |panic=>exact q
  |outgrown=>exact q))
theorem az{z:H}{j:H->Option R}{a:H->List (Nat×V)}{b:H->List (Nat×E)}{c:H->List Nat}(h:j z=aa r)(k:CZ K.ef s (a z) (b z) (c z)=(kB (a z),kB (oe (b z)),ab):=by kernel_rfl): ∃z,j z=aa r/\s.le K (bx (a z) (b z) (c z)):=⟨z,h,J8 k⟩
theorem h8{o:Option k}{r:H}(h:(o.bind λx=>(g x).bind (f x))=aa r): ∃x,o=aa x/\ ∃y,g x=aa y/\f x y=aa r:=by
 obtain⟨x,a,h⟩:=c9 h;obtain⟨y,b,h⟩:=c9 h
 grind
theorem qK{a:Type}{o:Option k}{e:k->R->H->Option a}{r:a}(h:(o.bind λx=>(g x).bind λy=>(f x y).bind (e x y))=aa r): ∃x,o=aa x/\ ∃y,g x=aa y/\ ∃z,f x y=aa z/\e x y z=aa r:=by
 obtain⟨x,b,h⟩:=c9 h;obtain⟨y,c,z,d,h⟩:=h8 h
 grind
theorem bE{f:FuncId}{d:Func}{r:V}{a:List ResultVar}(e:ed P cE)(k:P.funcs[f]? =aa d)(b:(d.name== "runtime.NumGoroutine",d.body,d.results.toList,d.ntmps,Nat.ble args.length i,r.ok gG,Nat.ble a.length 4)=(al,aa c,a,i,ab,ab,ab))
  (h: ∀w X,dV.Fits ⟨P,G,cE,i,0,fE⟩ (Ctx.pure P G w X i)->cY (Ctx.pure P G w X i) c (start args) (Lv cE a r)):jT P G f args r:=by simp only[Prod.mk.injEq] at b;exact Sr e k b.1 b.2.1 b.2.2.1 b.2.2.2.1 b.2.2.2.2.1 b.2.2.2.2.2.1 b.2.2.2.2.2.2 h
theorem cj{f:FuncId}{d:Func}{a out:List E}{r:V}{b:List ResultVar}(l:ed P cE)(m:P.funcs[f]? =aa d)(e:(d.name== "runtime.NumGoroutine",d.body,d.results.toList,d.ntmps,a.length,Nat.ble args.length i,Nat.ble n out.length,Nat.ble b.length 4)=(al,aa c,b,i,n,ab,ab,ab))
  (h: ∀w X k,dV.Fits ⟨P,G,cE,i,n,k⟩ (Ctx.dB P G w X n k i)->uO k a 0->cY (Ctx.dB P G w X n k i) c (l4 a args) (Lu cE b r out)):hY P G f a args r out:=by simp only[Prod.mk.injEq] at e;exact ajx l m e.1 e.2.1 e.2.2.1 e.2.2.2.1 e.2.2.2.2.1 e.2.2.2.2.2.1 e.2.2.2.2.2.2.1 e.2.2.2.2.2.2.2 h
theorem eE(i:C.Fits K)(c:List cG)(d:List Nat)(a:List (Nat×V))(b:List (Nat×Option E))(e:List (Nat×Bool))
  (h:mo (gD C c s) vh (vj s d a b)=mo (gD C c s) vi (vk True a b e):=by kernel_rfl):s.le K (s.cl d a b e):=ak3 i c d a b e h
theorem aV{a:List (Nat×V)}{b:List (Nat×E)}{r:List Nat}(h:CZ K.ef s a b r=(kB a,kB (oe b),ab):=by kernel_rfl):s.le K (bx a b r):=J8 h
theorem dB{c:Operand}{b:Bool}(a:b=ab->cY K x s Q)(d:b=al->cY K y s Q)(e:s.get c= .t (.bool b):=by kernel_rfl):cY K (.cond c x y) s Q:=j8 e a d
theorem aD{c:Operand}{b:Bool}(h:(bif b then A else B)=aa r)(a:b=ab->A=aa r->cY K x s Q)(d:b=al->B=aa r->cY K y s Q)(i:s.get c= .t (.bool b):=by kernel_rfl):cY K (.cond c x y) s Q:=
 j8 i (λe=>a e (gS e h)) λe=>d e (gA e h)
theorem bh{b:Bool}{P:Prop}(h:(bif b then A else B)=aa r)(a:b=al->B=aa r->P)(c:b=ab->A=aa r->P):P:=iN b (λe=>a e (gA e h)) λe=>c e (gS e h)
theorem qL{b:List ResultVar}{r:V}{a:List E}(h:(yg r (iJ cE s b),uT s a 0,r.ok (fj a.length)&&u' (fj a.length) a)=(aa r,uB a,ab):=by kernel_rfl):
  ∃c,iJ cE s b=aa c/\dI (oi c) r/\r.ok (fj a.length)=ab/\lD s.H (fj a.length) (eu a 0):=Un h
theorem akR{a:List ResultVar}{r:V}(h:yg r (iJ cE s a)=aa r:=by kernel_rfl): ∃b,iJ cE s a=aa b/\dI (oi b) r:=Lr h
theorem a0:True:=trivial
theorem aP{Q:Prop}(a:Q):Q/\True:=⟨a,trivial⟩
theorem a2{Q:Prop}(a:Q)(b:p):Q/\p/\True:=⟨a,b,trivial⟩
theorem a3{Q E:Prop}(a:Q)(b:p)(c:E):Q/\p/\E/\True:=⟨a,b,c,trivial⟩
theorem a4{Q E:Prop}(b:Q)(c:p)(d:E)(e:a):Q/\p/\E/\a/\True:=⟨b,c,d,e,trivial⟩
theorem a5{Q E:Prop}(c:Q)(d:p)(e:E)(h:a)(i:b):Q/\p/\E/\a/\b/\True:=⟨c,d,e,h,i,trivial⟩
theorem jx{Q E c:Prop}(d:Q)(e:p)(h:E)(i:a)(k:b)(l:c):Q/\p/\E/\a/\b/\c/\True:=⟨d,e,h,i,k,l,trivial⟩
theorem hB{Q E c:Prop}(e:Q)(h:p)(i:E)(k:a)(l:b)(m:c)(n:d):Q/\p/\E/\a/\b/\c/\d/\True:=⟨e,h,i,k,l,m,n,trivial⟩
theorem fI{Q E c:Prop}(h:Q)(i:p)(k:E)(l:a)(m:b)(n:c)(o:d)(q:e):Q/\p/\E/\a/\b/\c/\d/\e/\True:=⟨h,i,k,l,m,n,o,q,trivial⟩
theorem a9{Q E c:Prop}(i:Q)(k:p)(l:E)(m:a)(n:b)(o:c)(q:d)(r:e)(s:h):Q/\p/\E/\a/\b/\c/\d/\e/\h/\True:=⟨i,k,l,m,n,o,q,r,s,trivial⟩
theorem Uv{E c i Q:Prop}(l:p)(m:E)(n:a)(o:b)(q:c)(r:d)(s:e)(w:h)(x:i)(k:Q):p/\E/\a/\b/\c/\d/\e/\h/\i/\Q/\True:=⟨l,m,n,o,q,r,s,w,x,k,trivial⟩
theorem a12{c i k l Q E:Prop}(q:a)(r:b)(s:c)(w:d)(x:e)(y:h)(z:i)(A:k)(B:l)(m:Q)(n:p)(o:E):a/\b/\c/\d/\e/\h/\i/\k/\l/\Q/\p/\E/\True:=⟨q,r,s,w,x,y,z,A,B,m,n,o,trivial⟩
def Jh:Nat->Nat->List Nat
 |_,0=>[]
 |a,n+1=>a::Jh (a+1) n
abbrev km(l:List V):Option E:=aa (E.cells l)
theorem ao(h:cY K x s (qF (λa=>cY K y a Q) Q)):cY K (.seq x y) s Q:=B4 h
theorem bu(h:cY K c s (yd i Q)):cY K (.block i c) s Q:=aat h
theorem aA(h:Q .normal s):cY K .skip s Q:=abP h
theorem qr(h:Q .ret s):cY K .ret s Q:=adG h
theorem bF(h:Q (.exit i) s):cY K (.exit i) s Q:=abR h
theorem rn{a:S}(b:s.le K a)(h:cY K c a Q):cY K c s Q:=wD b h
abbrev b2(a:List (Nat×V)):S:=bx a [] []
abbrev bw:V:=V.t T.fp
abbrev Ky(p:Prop)[Decidable p]:V:=aW (decide p)
def b4{R:Type}{r:R->List T}(n:Nat)(k: ∀a,(r a).length=n)(l:List R):gQ:=ar (kT (r:=r) n k l)
def dE(l:List Int):gQ:=b4 (r:=ai) 1 (λ_=>rfl) l
theorem aF(h:Q .ret s:=by exact akR):cY K .ret s Q:=qr h
theorem b0(h:Q .ret s:=by exact qL):cY K .ret s Q:=qr h
theorem bH(h:cY K c s (yd i (qF (λa=>cY K y a Q) Q))):cY K (.seq (.block i c) y) s Q:=ao (bu h)
theorem da{c:Operand}{z:Code}{b:Bool}(h:(bif b then A else B)=aa r)(d:b=ab->A=aa r->cY K x s (qF (λa=>cY K z a Q) Q))(e:b=al->B=aa r->cY K y s (qF (λa=>cY K z a Q) Q))(i:s.get c= .t (.bool b):=by kernel_rfl):cY K (.seq (.cond c x y) z) s Q:=ao (aD h d e i)
theorem cT{a:(k->Option R)->k->Option R}{z:k}(h:bz a n z=aa r)(I:k->Nat->S)(e:Nat)(i:s.le K (I z e))(d: ∀(b:k->Option R) (x:k) (g:Nat),a b x=aa r->cY K c (I x g) (CK (λl=> ∃y m,b y=aa r/\l.le K (I y m)) Q)):cY K (.loop c) s Q:=Cy (γ:=Nat) h I e i d
theorem au{f:R->Option H}{r:H}{P:Prop}(h:o.bind f=aa r)(k: ∀x,o=aa x->f x=aa r->P):P:=by obtain⟨x,a,b⟩:=c9 h;exact k x a b
theorem bU{γ:Type}{g:R->Option H}{f:R->H->Option γ}{r:γ}{P:Prop}(h:(o.bind λx=>(g x).bind (f x))=aa r)(k: ∀x,o=aa x-> ∀y,g x=aa y->f x y=aa r->P):P:=by obtain⟨x,a,y,b,c⟩:=h8 h;exact k x a y b c
theorem cX{a b:Type}{g:R->Option H}{f:R->H->Option a}{e:R->H->a->Option b}{r:b}{P:Prop}(h:(o.bind λx=>(g x).bind λy=>(f x y).bind (e x y))=aa r)(k: ∀x,o=aa x-> ∀y,g x=aa y-> ∀z,f x y=aa z->e x y z=aa r->P):P:=by obtain⟨x,c,y,d,z,i,l⟩:=qK h;exact k x c y d z i l
end
section
def yw:T->Bool
 | .bG _=>al
 |_=>ab
variable {w:World}{a:List E}{X X':Nat->Prop}{x:T}{v u:Value}{t:List dw}{k n:Nat}{G:fh}{P:Program}{args:List V}{r:V}
theorem c8.flat{a:World}(h:c8 w X x v)(c:yw x=ab):c8 a X' x v:=by
 cases h with
 |bool b=>exact .bool b
 |int k n=>exact .int k n
 |str l=>exact .str l
 |gh _ _=>cases c
 |bG d b m e o f q r i p s y=>cases c
 |fp=>exact .fp
 |gZ=>exact .gZ
 |gm=>exact .gm
 |l1=>exact .l1
 |err t v=>exact .err t v
mutual
def Cq:V->Bool
 | .t x=>yw x
 | .agg cs=>uA cs
 | .bY cs=>uA cs
 | .bf _ _ _ _ _=>ab
 | .c'=>ab
 |_=>al
def uA:List V->Bool
 | []=>ab
 |c::cs=>Cq c&&uA cs
end
theorem Fh: ∀{cs:List V} {i:Nat} {c:V},uA cs=ab->cs[i]? =aa c->Cq c=ab
 | [],_,_,_,h=>by simp at h
 |c::cs,0,_,a,h=>by simp[uA] at a;simp at h;subst h;exact a.1
 |c::cs,i+1,_,a,h=>by simp[uA] at a;exact Fh a.2 (by simpa using h)
theorem bB.flat{β:Map}{v:V}(h:bB β w X v u)(k:Cq v=ab):bB β w X' v u:=by
 induction h with
 |t x v h=>exact .t x v (h.flat k)
 |agg cs p m _ r=>exact .agg cs p m (λi c u o s=>r i c u o s (Fh k o))
 |bY cs p m _ r=>exact .bY cs p m (λi c u o s=>r i c u o s (Fh k o))
 |ref id d b e=>cases k
 |aU cells b d f e F o G=>cases k
 |bf id gen a d len y b n ty l e A B C m D=>exact .bf id gen a d len y b n ty l e A B C m D
 |hq id gen a l e=>exact .hq id gen a l e
 |kd id gen a d len v q g z e l=>exact .kd id gen a d len v q g z e l
 |cQ id gen a i d b l e=>cases k
 |k' id gen a i d v q g z e l=>cases k
 |fn f cs p m h=>cases k
 |c' v=>exact .c' v
def QI(a:List (List T)):Prop:= ∀b,b∈a-> ∀x,x∈b->yw x=ab
inductive kx (Γ:List dw):Option Nat->T->Prop
 |fm (x:T) (h:yw x=ab):kx Γ none x
 |own (m:Nat) (rows:List (List T)) (h: ∀(i j:Nat) row x,rows[i]? =aa row->row[j]? =aa x->kx Γ ((U Γ m).eb j) x):kx Γ (aa m) (.bG rows)
theorem fP.flat{m:Option Nat}{N:Nat->Prop}(h:fP t w X m x v N):kx t m x->fP t w X' m x v N:=by
 induction h with
 |fm x v N h c=>intro a;cases a with|fm _ a=>exact .fm _ _ _ (h.flat a) c
 |nil m N c=>intro _;exact .nil _ _ c
 |own m d b k n B N o p q r l A s y c z=>
  intro a;cases a with
  |own _ _ a=>exact .own m d b k n B N o p q r l (λi j e x u aP a2 a3=>z i j e x u aP a2 a3 (a i j e x aP a2)) s y c
theorem wB{m:Nat}{k:Type}{f:k->List T}(h: ∀(y:k) (j:Nat) x,(f y)[j]? =aa x->kx t ((U t m).eb j) x)(l:List k): ∀(i j:Nat) a x,(List.map f l)[i]? =aa a->a[j]? =aa x->kx t ((U t m).eb j) x:=λi j a x b c=>by obtain⟨y,_,rfl⟩:=eH.1 (bX b);exact h y j x c
def CQ:E->Prop
 | .arr _ _ _ a=>QI a
 | .aC c m _ a d=>d=[]/\ ∀(i j:Nat) b x,a[i]? =aa b->b[j]? =aa x->kx c ((U c m).eb j) x
 |_=>False
theorem aaH{k:Type}{f:k->List T}(h: ∀x y,y∈f x->yw y=ab)(l:List k):QI (List.map f l):=λb c x d=>by obtain⟨a,_,rfl⟩:=eH.1 c;exact h a x d
inductive kv (fu:List E):V->V->Prop where
 |t (x:T):kv fu (.t x) (.t x)
 |arr (id:Nat) (ty:TypeId) (gen size:Nat) (rows:List (List T)) (n:Nat) (h:fu[id]? =aa (.arr ty gen size rows)) (cR:n=rows.length):kv fu (.bf id gen size 0 n) (.t (.bG rows))
 |aC (id:Nat) (Γ:List dw) (m gen size:Nat) (rows:List (List T)) (n:Nat) (h:fu[id]? =aa (.aC Γ m gen rows [])) (er:size=(U Γ m).size) (cR:n=rows.length):kv fu (.bf id gen size 0 n) (.t (.bG rows))
 |agg (cs sE:List V) (hl:cs.length=sE.length) (h: ∀(i:Nat) c yl,cs[i]? =aa c->sE[i]? =aa yl->kv fu c yl):kv fu (.agg cs) (.agg sE)
def qd(a:List E):List V->List V->Prop
 | [],[]=>True
 |v::c,d::b=>kv a v d/\qd a c b
 |_,_=>False
theorem qd.get: ∀{e b:List V},qd a e b->e.length=b.length/\ ∀(i:Nat) c d,e[i]? =aa c->b[i]? =aa d->kv a c d
 | [],[],_=>⟨rfl,λi c d h _=>by simp at h⟩
 |v::e,m::b,h=>⟨by simp[h.2.get.1],λi c d k l=>by
  match i with
  |0=>simp at k l;subst k;subst l;exact h.1
  |i+1=>exact h.2.get.2 i c d (by simpa using k) (by simpa using l)⟩
 | [],_::_,h=>h.elim
 |_::_,[],h=>h.elim
theorem kv.mk{b Y:List V}(h:qd a b Y):kv a (.agg b) (.agg Y):= .agg _ _ h.get.1 h.get.2
theorem Ow{c:List E}{U:Map}(p:qh G c U w X){gen size:Nat}{a:List (List T)}
  (C:bB U w (hQ X U (eu c 0)) (.bf k gen size 0 a.length) u)
  (K:(U k=aa (none,gen)/\a=[])\/ ∃(b:Nat) (m:Array Value),U k=aa (aa b,gen)/\(∃ty,w.heap[b]? =aa (.cells m ty (0,0)))/\a.length*size<=m.size/\(∀d,d∈a->d.length=size)/\
   ∀(i j:Nat) (d:List T) (x:T) (y:Value),a[i]? =aa d->d[j]? =aa x->m[i*size+j]? =aa y->c8 w X x y):c8 w X (.bG a) u:=by
 rcases K with ⟨r,rfl⟩|⟨b,m,r,⟨ty,L⟩,t,D,Q⟩
 ·rcases ff C r with ⟨_,_,_,_,_,h,_⟩|⟨_,_,_,rfl⟩
  ·cases h
  exact .gh _ _
 rcases ff C r with ⟨s,v,n,R,rfl,h,W,_,_,f,_⟩|⟨h,_⟩
 ·cases h;have l: ∀i j,i<a.length->j<size-> ∃y,m[i*size+j]? =aa y:=λi j p F=>by
   have:(i+1)*size<=a.length*size:=dQ _ p;rw[dN] at this;exact⟨_,hT (O:i*size+j<m.size)⟩
  have g:=c8.bG (w:=w) (X:=X) a b (0*size) size s (λi j=>m.getD (i*size+j) undef) W (p.place k b (.inl ⟨_,r⟩)).2.1 f D (λi j p F=>?_) λi j d x z H=>?_
  ·exact g
  ·obtain⟨y,q⟩:=l i j p F;have o:=(iD.1 q).1
   have:0*size+i*size+j=i*size+j:=O
   rw[this];simp[World.cell?,L,o]
  have A:=(d0.1 z).1;have B:j<size:=by rw[<-D d (bX z)];exact(d0.1 H).1
  obtain⟨y,q⟩:=l i j A B;have o:=(iD.1 q).1;have e:m.getD (i*size+j) undef=y:=by rw[<-(iD.1 q).2];simp[o]
  show c8 w X x (m.getD (i*size+j) undef);rw[e];exact Q i j d x y z H q
 cases h
theorem kv.zA{U:Map}(q:qh G a U w X){v d:V}(Q:kv a v d): ∀{u:Value},bB U w (hQ X U (eu a 0)) v u->bB fE w X d u:=by
 induction Q with
 |t x=>intro u h;cases h with|t _ _ h=>exact .t _ _ (h.mono (Ext.refl _ _) λb _ h=> .inl h)
 |arr id ty gen r s n h D=>
  intro u e;subst D;have k:=q.heap id _ h;refine .t _ _ (Ow q e ?_);rcases k.2 with ⟨l,o⟩|⟨b,z,l,o,F,H,K⟩
  ·exact .inl ⟨l,o⟩
  exact .inr ⟨b,z,l,⟨_,o⟩,F,H,λi j p x y aP a2 a3=>(K i j p x y aP a2 a3).mono (Ext.refl _ _) λb _ h=> .inl h⟩
 |aC id P m gen r s n h R D=>
  intro u e;subst D;subst R;have k:=q.heap id _ h;refine .t _ _ (Ow q e ?_);rcases k.2 with ⟨l,o,_⟩|⟨b,z,B,l,o,F,H,K,S,T,W⟩
  ·exact .inl ⟨l,o⟩
  exact .inr ⟨b,z,l,⟨_,o⟩,F,H,λi j p x y aP a2 a3=>(K i j p x y aP a2 a3).none.wK (λb h=> .inl h) λc C=>(q.place id c (.inr ((W c).2 ⟨i,j,C⟩))).2.1⟩
 |agg cs f g _ I=>
  intro u e;cases e with
  |agg _ z Y M=>
   refine .agg _ z O λi N u C e=>?_;have L:i<cs.length:=by rw[g];exact(d0.1 C).1
   have A:=bC L;exact I i _ N A C (M i _ u A e)
theorem qd.Sw{G:fh}{a:List E}{U:Map}{w:World}{X:Nat->Prop}(c:qh G a U w X): ∀{d b:List V} {e:List Value},qd a d b->dr U w (hQ X U (eu a 0)) d e->dr fE w X b e
 | [],[],[],_,_=>trivial
 |_::_,_::_,_::_,i,h=>⟨i.1.zA c h.1,qd.Sw c i.2 h.2⟩
 | [],_::_,_,h,_=>h.elim
 |_::_,[],_,h,_=>h.elim
 | [],[],_::_,_,h=>h.elim
 |_::_,_::_,[],_,h=>h.elim
def Map.cat(n:Nat)(c a:Map):Map:=⟨λk=>bif Nat.blt k n then c k else a (k-n),λk b=>(k<n/\c.n k b)\/(n<=k/\a.n (k-n) b)⟩
theorem CF{U G:Map}(h:k<n):U.cat n G k=U k:=by show(bif Nat.blt k n then U k else G (k-n))=U k;rw[show Nat.blt k n=ab from by simpa[Nat.blt_eq] using h];rfl
theorem x9{U G:Map}(h:n<=k):U.cat n G k=G (k-n):=by
 show(bif Nat.blt k n then U k else G (k-n))=G (k-n)
 have:Nat.blt k n=al:=by
  cases a:Nat.blt k n with
  |false=>rfl
  |true=>
   have:k<n:=by simpa[Nat.blt_eq] using a
   omega
 rw[this];rfl
theorem CG{U G:Map}{b:Nat}(h:At (U.cat n G) k b):(k<n/\At U k b)\/(n<=k/\At G (k-n) b):=by
 rcases h with ⟨g,h⟩|h|h
 ·by_cases a:k<n
  ·rw[CF a] at h;exact .inl ⟨a,.inl ⟨g,h⟩⟩
  rw[x9 O] at h;exact .inr ⟨O,.inl ⟨g,h⟩⟩
 ·exact .inl ⟨h.1,.inr h.2⟩
 exact .inr ⟨h.1,.inr h.2⟩
theorem HB{f:FuncId}{l:List E}{F:List V}(h:hY P G f [] F r l)(M:qd a args F)(b5:Cq r=ab)(ep: ∀e,e∈l->CQ e):
  hY P G f a args (r.ej (List.range' a.length l.length)) (a++l):=by
 refine⟨h.1,λw X o N j9 gj Q hu=>?_⟩;have yH: ∀b,hQ X fE (eu [] 0) b->X b:=by
  rintro b (h|⟨_,_,h⟩)
  ·exact h
  exact(pO h).elim
 have S:qh G [] fE w X:=⟨λ_ _=>rfl,λ_ _ _ h=>h,λ_ _ _ h=>(pO h).elim,λ_ _ h=>(pO h).elim,λk e h=>by simp at h⟩
 refine(h.2 w X fE N j9 gj S ((M.Sw Q hu).mono (Ext.refl _ _) (λb _=>yH b) (dT.refl _) (Shaped.refl _ _))).mono ?_;rintro e w' ⟨u,i,d,rfl,_,L⟩;have p:Ext (λ_=>False) w w':=L.ext.weaken λb _ ⟨k,A⟩=>pO A;have D: ∀k b,At d k b->w.heap.size<=b:=λk b A=>by
  rcases(L.fresh k b A).1 with ⟨cD,s,_⟩|s
  ·exact br s (o6 _)
  exact s
 have yC: ∀k b,At o k b->k<a.length:=by
  rintro k b (⟨g,h⟩|h)
  ·apply nX;intro C;rw[Q.dY k C] at h;cases h
  exact nX λC=>Q.eB k b C h
 have T: ∀b,b<w.heap.size->hQ X (o.cat a.length d) (eu (a++l) 0) b->hQ X o (eu a 0) b:=by
  rintro b R (I|⟨k,s,z⟩)
  ·exact .inl I
  rcases CG z with ⟨t,v⟩|⟨_,v⟩
  ·refine .inr ⟨k,?_,v⟩;rw[wF,bC t];simp
  have:=D _ _ v;omega
 have U:dT o (o.cat a.length d):=λk q g dp=>by
  have:k<a.length:=nX λC=>by rw[Q.dY k C] at dp;cases dp
  exact .inl (by rw[CF this];exact dp)
 refine⟨u,(),o.cat a.length d,rfl,trivial,?_⟩;refine⟨p.weaken λb _ h=>h.elim,λid hid=> .inl (CF hid),λb M=>td (p.keep b M λh=>h),λk A=>?_,λk b A cR=>?_,?_,?_,?_,?_⟩
 ·rw[dP] at A;rw[x9 O];exact L.dY _ (O:l.length<=_)
 ·rw[dP] at A;rcases cR with h|h
  ·omega
  exact L.eB _ b (O:l.length<=_) h.2
 ·intro id Y b s z;rcases CG s with ⟨aP,a2⟩|⟨aP,a2⟩<;>rcases CG z with ⟨dm,cL⟩|⟨dm,cL⟩
  ·exact Q.inj id Y b a2 cL
  ·have:=(Q.place id b a2).1;have:=D _ _ cL;omega
  ·have:=(Q.place Y b cL).1;have:=D _ _ a2;omega
  have:=L.inj _ _ b a2 cL;omega
 ·intro k b A;rcases CG A with ⟨s,z⟩|⟨_,z⟩
  ·exact⟨.inl ⟨k,s,z⟩,lu (Q.place k b z).1 p.size⟩
  exact⟨.inr (D _ _ z),(L.fresh _ b z).2⟩
 ·intro k e A;by_cases R:k<a.length
  ·rw[hz R] at A;refine(Q.heap k e A).mono (p.weaken λb _ h=>h.elim) T U (λx I=>by rw[CF R];exact I) (qU p) (λb M=>p.keep b (Q.place k b M).1 λh=>h) λb=>⟨λh=>?_,λh=> .inl ⟨R,h⟩⟩
   rcases h with h|h
   ·exact h.2
   omega
  rw[hS O] at A;have W:=L.heap _ e A;have H:=ep e (bX A);cases e with
  |cells cs=>exact H.elim
  |aC Γ m gen rows hs=>
   obtain⟨rfl,H⟩:=H;refine⟨W.1,?_⟩;have e1:o.cat a.length d k=d (k-a.length):=x9 O;have e2: ∀c,(o.cat a.length d).n k c↔d.n (k-a.length) c:=λc=>⟨λh=>by
    rcases h with ⟨h,_⟩|⟨_,h⟩
    ·omega
    exact h,λh=> .inr ⟨O,h⟩⟩
   rcases W.2 with ⟨s,z,t⟩|⟨b,N,B,s,z,t,v,h5,h6,lT,mF⟩
   ·exact .inl ⟨by rw[e1];exact s,z,λc bW=>t c ((e2 c).1 bW)⟩
   exact .inr ⟨b,N,B,by rw[e1];exact s,z,t,v,λi j K x u aP a2 a3=>Cell.of ((h5 i j K x u aP a2 a3).none.flat (H i j K x aP a2)),h6,lT,λc=>(e2 c).trans (mF c)⟩
  |arr ty gen size rows=>
   refine⟨W.1,?_⟩;have e1:o.cat a.length d k=d (k-a.length):=x9 O;rcases W.2 with ⟨s,z⟩|⟨b,N,s,z,t,v,h5⟩
   ·exact .inl ⟨by rw[e1];exact s,z⟩
   exact .inr ⟨b,N,by rw[e1];exact s,z,t,v,λi j K x y aP a2 a3=>(h5 i j K x y aP a2 a3).flat (H K (bX aP) x (bX a2))⟩
 have s:=bB.ej (β':=o.cat a.length d) (L:=List.range' a.length l.length) (L.res.flat (X':=hQ X (o.cat a.length d) (eu (a++l) 0)) b5) λk x I=>?_
 ·exact s
 have A:k<l.length:=nX λC=>by
  have Sa:d k=aa x:=I;rw[L.dY k C] at Sa;cases Sa
 have:(List.range' a.length l.length).getD k 0=a.length+k:=by
  rw[fc,List.getElem?_range' O];simp
 rw[this,x9 O];rw[show a.length+k-a.length=k by omega];exact I
theorem jT.dB{f:FuncId}(h:jT P G f args r):hY P G f [] args r []:=by
 refine⟨h.1,λw X a us n i c o=>?_⟩;have p: ∀k b,¬At a k b:=by
  rintro k b (⟨g,h⟩|h)
  ·rw[c.dY k (Nat.zero_le _)] at h;cases h
  exact c.eB k b (Nat.zero_le _) h
 have s: ∀b,hQ X a (eu [] 0) b->b<w.heap.size:=by
  rintro b (h|⟨k,h,_⟩)
  ·exact i b h
  simp[eu,mY] at h
 have x: ∀(d:List V) (us:List Value),dr a w (hQ X a (eu [] 0)) d us->dr fE w X d us:=λd us h=>
  h.mono (Ext.refl _ _) (λb _ h=> .inl h) (λid q g l=>by rw[c.dY id (Nat.zero_le _)] at l;cases l) (Shaped.refl _ _)
 refine(h.2 w X us n i (x _ _ o)).mono ?_;rintro e A ⟨u,rfl,m,y⟩;refine⟨u,(),fE,rfl,trivial,m.weaken λb _ h=>h.elim,λid hid=>br hid (o6 _),λb z=>td (m.keep b z λh=>h),λ_ _=>rfl,λ_ _ _ h=>h,λ_ _ _ h=>(pO h).elim,λ_ _ h=>(pO h).elim,λk e h=>by simp at h,?_⟩;refine y.mono (Ext.refl _ _) (λb _ h=>?_) (dT.refl _) (Shaped.refl _ _);rcases h with h|⟨k,h,_⟩
 ·exact h
 simp[eu,mY] at h
end
section
theorem eZ{a:List (List T)}{i:Nat}{b:List T}(h:a[i]? =aa b)(r:List T):(a.set i r)[i]? =aa r:=
 hR (d0.1 h).1
theorem g'(c:List (List T))(i:Nat)(a b:List T):(c.set i a).set i b=c.set i b:=lx ..
variable {i:Int}{k:Type}{l r:List k}{x:k}{q:List T}
theorem afD(f:k->List T)(h:cd l i x=aa r)(e:f x=q):(l.map f).set (0+i.toNat) q=r.map f:=by subst e;exact(str f h).symm
theorem my{a:List T}(f:k->List T)(h:cd l i x=aa r)(e:f x=q):((l.map f).set (0+i.toNat) a).set (0+i.toNat) q=r.map f:=by rw[lx];exact afD f h e
def bL(j:Nat)(a b:List T):List T:=a.take j++b.drop j
theorem kS{a b:List k}{u:Unit}(f:k->List T)(h:fe a b=aa u):(a.map f).length=(b.map f).length:=by
 unfold fe at h;split at h
 ·rename_i e;simp[e]
 cases h
end
section
variable {K:Ctx}{C:dV}
def jY:Option (dd×List dH)->dd
 |some r=>r.1
 |none=>⟨[],[],[]⟩
def kH(r:dd×List dH):Prop×List Nat×Bool:=(zc r.2,wy r.2,ab)
def kI(a:Prop)(r:dd×List dH):Prop×List Nat×Bool:=(a,wz r.2,ab)
def fL(x:Option (dd×List dH))(n:Prop×List Nat×Bool)(f:dd×List dH->Prop×List Nat×Bool):Prop×List Nat×Bool:=match x with
 |some r=>f r
 |none=>n
variable {P:Prop}{i:Nat}{l:List Oper}{s:S}{Q:Exit->S->Prop}
theorem Ia{x:Option (dd×List dH)}(b:P)(h:fL x (False,[],al) kH=fL x (True,[],ab) (kI P)): ∃a,x=aa (jY x,a)/\cH a:=by
 cases x with
 |none=>simp[fL] at h
 |some r=>
  obtain⟨e,a⟩:=r;simp only[fL,kH,kI,Prod.mk.injEq] at h;obtain⟨c,d,_⟩:=h;exact⟨a,rfl,cH.of (c▸b) d⟩
theorem D1(c:C.Fits K)(a:List cG)(b:P)
  (h:fL (iM C l.toArray l a s) (False,[],al) kH=fL (iM C l.toArray l a s) (True,[],ab) (kI P)) (d:Q .normal ((jY (iM C l.toArray l a s)).app s)):cY K (.region i l.toArray al) s Q:=by obtain⟨m,e,k⟩:=Ia b h;exact Vd _ (Qn c e k (abS (S.le.refl K _))) d
theorem ajn(k:C.Fits K)(m:K.P.follows .mixedOrders=ab)(b:List cG){p:Prop}(c:p)
  (h:fL (lN C l b s) (False,[],al) kH=fL (lN C l b s) (True,[],ab) (kI p)) (n:Q .normal ((jY (lN C l b s)).app s)):cY K (.region i l.toArray ab) s Q:=by
 obtain⟨D,a,o⟩:=Ia c h;generalize jY (lN C l b s)=e at*;unfold lN at a;split at a
 ·cases a
 rename_i F q r w;split at a
 ·cases a
 rename_i x y z;split at a
 ·rename_i d;cases a;simp only[Bool.and_eq_true] at d;obtain⟨A,B⟩:=cH.app o;refine wD (ru k w A) (PS (s2:=_) (NS x m d.1 d.2 (H5 k z B ?_)) n);rw[oE];exact S.le.refl K _
 cases a
theorem DC(d:C.Fits K)(a:List cG)(c:P)
  (h:fL (gD C a s) (False,[],al) kH=fL (gD C a s) (True,[],ab) (kI P)):s.le K ((jY (gD C a s)).app s):=by
 obtain⟨l,b,i⟩:=Ia c h;generalize jY (gD C a s)=e at*;unfold gD at b;split at b
 ·rename_i k;cases b;exact ru d k i
 cases b
end
section
variable {K:Ctx}{C:dV}
variable {i:Nat}{l:List Oper}{s:S}{Q:Exit->S->Prop}{y c:Code}{P:Prop}
theorem aG(a:C.Fits K)(A:List gQ)(b:Q .normal ((jY (iM C l.toArray l (i' A) s)).app s))
  (h:fL (iM C l.toArray l (i' A) s) (False,[],al) kH=fL (iM C l.toArray l (i' A) s) (True,[],ab) (kI (qc A)):=by kernel_rfl):cY K (.region i l.toArray al) s Q:=D1 a (i' A) (rW A) h b
theorem ag(a:C.Fits K)(A:List gQ)(b:cY K y ((jY (iM C l.toArray l (i' A) s)).app s) Q)
  (h:fL (iM C l.toArray l (i' A) s) (False,[],al) kH=fL (iM C l.toArray l (i' A) s) (True,[],ab) (kI (qc A)):=by kernel_rfl):cY K (.seq (.region i l.toArray al) y) s Q:=B4 (D1 a (i' A) (rW A) h b)
theorem bs(a:C.Fits K)(b:Q .normal ((jY (iM C l.toArray l [] s)).app s))
  (h:fL (iM C l.toArray l [] s) (False,[],al) kH=fL (iM C l.toArray l [] s) (True,[],ab) (kI True):=by kernel_rfl):cY K (.region i l.toArray al) s Q:=D1 a [] trivial h b
theorem ad(a:C.Fits K)(b:cY K y ((jY (iM C l.toArray l [] s)).app s) Q)
  (h:fL (iM C l.toArray l [] s) (False,[],al) kH=fL (iM C l.toArray l [] s) (True,[],ab) (kI True):=by kernel_rfl):cY K (.seq (.region i l.toArray al) y) s Q:=B4 (D1 a [] trivial h b)
theorem bK(a:C.Fits K)(b:K.P.follows .mixedOrders=ab)(A:List gQ)(c:Q .normal ((jY (lN C l (i' A) s)).app s))
  (h:fL (lN C l (i' A) s) (False,[],al) kH=fL (lN C l (i' A) s) (True,[],ab) (kI (qc A)):=by kernel_rfl):cY K (.region i l.toArray ab) s Q:=ajn a b (i' A) (rW A) h c
theorem C8(b:C.Fits K)(a:List cG)(h:fL (gD C a s) (False,[],al) kH=fL (gD C a s) (True,[],ab) (kI True):=by kernel_rfl):s.le K ((jY (gD C a s)).app s):=DC b a trivial h
theorem yr(c:C.Fits K)(a:List cG)(b:P)(h:fL (gD C a s) (False,[],al) kH=fL (gD C a s) (True,[],ab) (kI P):=by kernel_rfl):s.le K ((jY (gD C a s)).app s):=DC c a b h
theorem aQ(b:C.Fits K)(a:List cG)(k:cY K c ((jY (gD C a s)).app s) Q)(h:fL (gD C a s) (False,[],al) kH=fL (gD C a s) (True,[],ab) (kI True):=by kernel_rfl):cY K c s Q:=wD (DC b a trivial h) k
theorem cV(d:C.Fits K)(a:List cG)(b:P)(k:cY K c ((jY (gD C a s)).app s) Q)(h:fL (gD C a s) (False,[],al) kH=fL (gD C a s) (True,[],ab) (kI P):=by kernel_rfl):cY K c s Q:=wD (DC d a b h) k
theorem fa(c:C.Fits K)(a b:Nat)(k:Q .ret ((jY (gD C [.bp b 0 [a] []] s)).app s):=by exact qL)
  (h:fL (gD C [.bp b 0 [a] []] s) (False,[],al) kH=fL (gD C [.bp b 0 [a] []] s) (True,[],ab) (kI True):=by kernel_rfl):cY K .ret s Q:=rn (C8 c [.bp b 0 [a] []] h) (qr k)
end
def y5(s t:List UInt8):Option Bool:=if s.length<4294967281 then aa (Lib.contains s t) else none
def jH(l:List Int):Option (List Int):=if l.length<=1000000000 then aa l else none
def cmpL:List Int->List Int->Int
 | [],[]=>0
 | [],_::_=> -1
 |_::_,[]=>1
 |x::a,y::b=>if x<y then-1 else if y<x then 1 else cmpL a b
def fD(a:List (List Int)):List (List Int):=a.mergeSort λx y=> !decide (cmpL y x<0)
def mQ(a:List (List Int)):Option (List (List Int)):=if a.length<=1000000000/\ ∀l∈a,l.length<=1000000000 then aa (fD a) else none
def ei(a:Nat->Bool)(m:Nat):List Nat:=(List.range m).filter a
def k8(a:List (List Int))(j:Nat):Bool:=decide (j=0\/a.getD j []≠a.getD (j-1) [])
def gC(a:List (List Int)):List (List Int):=(ei (k8 a) a.length).map λj=>a.getD j []
def DK:List Int->List Int->Nat
 |_,[]=>0
 |seen,c::t=>(if c∈seen then 0 else 1)+DK (c::seen) t
end Go.Lift
