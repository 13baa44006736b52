/- Tools. -/
import Derived.Test.YtlbojjldejlgaaaGreatVLiftY
import Derived.Lib.AtoiAll
import Derived.Lib.ItoaNum
import Derived.Lib.Split
set_option linter.unusedVariables false
namespace Go.Lift
open Go
section
variable {K:Ctx}{C:dc}{P:Program}{G:ef}{bQ:List (Nat×bM)}
inductive fa where
 |o (h:bV) (p:Prop) (k:p)
 |z (h:bV)
 |q (p:Prop) (k:p)
def gL:List fa->List bV
 | []=>[]
 | .o h _ _::l=>h::gL l
 | .z h::l=>h::gL l
 | .q _ _::l=>gL l
def mu:List fa->Prop
 | []=>True
 | .o _ p _::l=>p/\mu l
 | .z _::l=>mu l
 | .q p _::l=>p/\mu l
theorem nR: ∀l,mu l
 | []=>trivial
 | .o _ _ k::l=>⟨k,nR l⟩
 | .z _::l=>nR l
 | .q _ k::l=>⟨k,nR l⟩
def bB{c:Bool}(k:c=true):fa:= .o (.b true) _ k
def a6{c:Bool}(k:c=false):fa:= .o (.b false) _ k
def vr:fa:=bB (Eq.refl true)
def dB:fa:=a6 (Eq.refl false)
def aI{k:Type}(r:k->List T)(l:List k):fa:= .o (.nat l.length) _ (GO r l)
def au{P:Program}{G:ef}{f:FuncId}{a:List V}{r:V}(k:hJ P G f a r):fa:= .o (.v r) _ k
def bo(L N:List Nat){P:Program}{G:ef}{f:FuncId}{i:List E}{a:List V}{r:V}{u:List E}(k:gO P G f i a r u):fa:= .o (.ec L N r u) _ k
def aX{k:Type}{l:List k}{i:Int}{x:k}(f:k->List T)(h:aH l i=some x):fa:= .o (.row (f x)) _ (FZ f h)
def cv{k:Type}{l:List k}{i:Int}{x:k}(f:k->List T)(h:aH l i=some x):fa:= .o (.row (f x)) _ (bY f h)
def Ia{o:Option (List UInt8)}{x:List UInt8}(h:o=some x):fa:= .o (.str x) _ h
def cf{o:Option (List (List T))}{x:List (List T)}(h:o=some x):fa:= .o (.rows x) _ h
def aw{p:Prop}(k:p):fa:= .q p k
def bd(n:Nat){c:Bool}(k:c=true):List fa:=List.replicate n (bB k)
def a1(n:Nat){c:Bool}(k:c=false):List fa:=List.replicate n (a6 k)
def gY(n:Nat):List fa:=List.replicate n vr
def e9(n:Nat):List fa:=List.replicate n dB
variable {i n:Nat}{s:S}{Q:Exit->S->Prop}{k R H:Type}{a b e d p h:Prop}{r:R}{x y c:Code}{o A B:Option R}{g:k->Option R}{f:k->R->Option H}{args:List V}
theorem dk{l:List Oper}(e:C.Fits K)(k:K.P.follows .mixedOrders=true)(A:List fa)(c:List Nat)(a:List (Nat×V))(b:List (Nat×Option E))(d:List (Nat×Bool))(m:Q .normal (s.cl c a b d))
  (h:kf (jg C l (gL A) s) p5 (p7 s c a b)=kf (jg C l (gL A) s) p6 (p8 (mu A) a b d):=by kernel_rfl):b5 K (.region i l.toArray true) s Q:=rd e k (gL A) c a b d (nR A) h m
theorem b3{a:k->Option R}{t:(k->Option R)->Option R}(h:aY a t=some r)(I:k->S)
  (b: ∀j:k->Option R,t j=some r->b5 K x s (mG (λd=> ∃z,j z=some r/\d.le K (I z)) Q)) (c: ∀z,a z=some r->b5 K y (I z) Q):b5 K (.seq x y) s Q:=
 nu (γ:=Unit) (j:=a) (r:=r) (λz _=>I z) (tE (b a h) (λe i q=>by
  cases e with
  |normal=>obtain⟨z,b,c⟩:=q;exact⟨z,(),b,c⟩
  |exit=>exact q
  |goto=>exact q
  |ret=>exact q
  |panic=>exact q
  |outgrown=>exact q)) λz _ h=>c z h
theorem b'{a:(k->Option R)->k->Option R}{b:k}(h:ba a n b=some r)(I:k->S)(m:s.le K (I b))
  (i: ∀(d:k->Option R) (x:k),a d x=some r->b5 K c (I x) (va (λl=> ∃y,d y=some r/\l.le K (I y)) Q)):b5 K (.loop c) s Q:=
 zD (γ:=Unit) h (λz _=>I z) () m (λd x _ o=>tE (i d x o) (λe l q=>by
  cases e with
  |normal=>obtain⟨z,p,v⟩:=q;exact⟨z,(),p,v⟩
  |exit=>exact q
  |goto=>exact q
  |ret=>exact q
  |panic=>exact q
  |outgrown=>exact q))
theorem aA{z:H}{j:H->Option R}{a:H->List (Nat×V)}{b:H->List (Nat×E)}{c:H->List Nat}(h:j z=some r)(k:vh K.cE s (a z) (b z) (c z)=(iz (a z),iz (lD (b z)),true):=by kernel_rfl): ∃z,j z=some r/\s.le K (bw (a z) (b z) (c z)):=⟨z,h,H6 k⟩
theorem gC{o:Option k}{r:H}(h:(o.bind λx=>(g x).bind (f x))=some r): ∃x,o=some x/\ ∃y,g x=some y/\f x y=some r:=by
 obtain⟨x,a,h⟩:=cV h;obtain⟨y,b,h⟩:=cV h
 grind
theorem p2{a:Type}{o:Option k}{e:k->R->H->Option a}{r:a}(h:(o.bind λx=>(g x).bind λy=>(f x y).bind (e x y))=some r): ∃x,o=some x/\ ∃y,g x=some y/\ ∃z,f x y=some z/\e x y z=some r:=by
 obtain⟨x,b,h⟩:=cV h;obtain⟨y,c,z,d,h⟩:=gC h
 grind
theorem bk{f:FuncId}{d:Func}{r:V}{a:List ResultVar}(e:dm P bQ)(k:P.funcs[f]? =some d)(b:(d.name== "runtime.NumGoroutine",d.body,d.results.toList,d.ntmps,Nat.ble args.length i,r.ok e6,Nat.ble a.length 4)=(false,some c,a,i,true,true,true))
  (h: ∀w X,dc.Fits ⟨P,G,bQ,i,0,d7⟩ (Ctx.pure P G w X i)->b5 (Ctx.pure P G w X i) c (start args) (GM bQ a r)):hJ P G f args r:=by simp only[Prod.mk.injEq] at b;exact Ih e k b.1 b.2.1 b.2.2.1 b.2.2.2.1 b.2.2.2.2.1 b.2.2.2.2.2.1 b.2.2.2.2.2.2 h
theorem b7{f:FuncId}{d:Func}{a out:List E}{r:V}{b:List ResultVar}(l:dm P bQ)(m:P.funcs[f]? =some d)(e:(d.name== "runtime.NumGoroutine",d.body,d.results.toList,d.ntmps,a.length,Nat.ble args.length i,Nat.ble n out.length,Nat.ble b.length 4)=(false,some c,b,i,n,true,true,true))
  (h: ∀w X k,dc.Fits ⟨P,G,bQ,i,n,k⟩ (Ctx.ec P G w X n k i)->pB k a 0->b5 (Ctx.ec P G w X n k i) c (kQ a args) (GL bQ b r out)):gO P G f a args r out:=by simp only[Prod.mk.injEq] at e;exact Xg l m e.1 e.2.1 e.2.2.1 e.2.2.2.1 e.2.2.2.2.1 e.2.2.2.2.2.1 e.2.2.2.2.2.2.1 e.2.2.2.2.2.2.2 h
theorem di(i:C.Fits K)(c:List bV)(d:List Nat)(a:List (Nat×V))(b:List (Nat×Option E))(e:List (Nat×Bool))
  (h:kf (eZ C c s) p5 (p7 s d a b)=kf (eZ C c s) p6 (p8 True a b e):=by kernel_rfl):s.le K (s.cl d a b e):=Ww i c d a b e h
theorem aR{a:List (Nat×V)}{b:List (Nat×E)}{r:List Nat}(h:vh K.cE s a b r=(iz a,iz (lD b),true):=by kernel_rfl):s.le K (bw a b r):=H6 h
theorem ec{c:Operand}{b:Bool}(a:b=true->b5 K x s Q)(d:b=false->b5 K y s Q)(e:s.get c= .t (.bool b):=by kernel_rfl):b5 K (.cond c x y) s Q:=xO e a d
theorem aB{c:Operand}{b:Bool}(h:(bif b then A else B)=some r)(a:b=true->A=some r->b5 K x s Q)(d:b=false->B=some r->b5 K y s Q)(i:s.get c= .t (.bool b):=by kernel_rfl):b5 K (.cond c x y) s Q:=
 xO i (λe=>a e (As e h)) λe=>d e (Ar e h)
theorem bC{b:Bool}{P:Prop}(h:(bif b then A else B)=some r)(a:b=false->B=some r->P)(c:b=true->A=some r->P):P:=Rf b (λe=>a e (Ar e h)) λe=>c e (As e h)
theorem sa{b:List ResultVar}{r:V}{a:List E}(h:(rY r (gH bQ s b),pw s a 0,r.ok (eg a.length)&&pT (eg a.length) a)=(some r,rp a,true):=by kernel_rfl):
  ∃c,gH bQ s b=some c/\cX (lE c) r/\r.ok (eg a.length)=true/\iZ s.H (eg a.length) (dy a 0):=Tw h
theorem Uk{a:List ResultVar}{r:V}(h:rY r (gH bQ s a)=some r:=by kernel_rfl): ∃b,gH bQ s a=some b/\cX (lE b) r:=GQ h
theorem a0:True:=trivial
theorem ay{Q:Prop}(a:Q):Q/\True:=⟨a,trivial⟩
theorem a2{Q:Prop}(a:Q)(b:p):Q/\p/\True:=⟨a,b,trivial⟩
theorem a3{Q:Prop}(b:Q)(c:p)(d:a):Q/\p/\a/\True:=⟨b,c,d,trivial⟩
theorem a4{Q:Prop}(c:Q)(d:p)(e:a)(h:b):Q/\p/\a/\b/\True:=⟨c,d,e,h,trivial⟩
theorem a5{Q c:Prop}(d:Q)(e:p)(h:a)(i:b)(k:c):Q/\p/\a/\b/\c/\True:=⟨d,e,h,i,k,trivial⟩
theorem hf{Q c:Prop}(e:Q)(h:p)(i:a)(k:b)(l:c)(m:d):Q/\p/\a/\b/\c/\d/\True:=⟨e,h,i,k,l,m,trivial⟩
theorem fC{Q c:Prop}(h:Q)(i:p)(k:a)(l:b)(m:c)(n:d)(o:e):Q/\p/\a/\b/\c/\d/\e/\True:=⟨h,i,k,l,m,n,o,trivial⟩
theorem eQ{Q c:Prop}(i:Q)(k:p)(l:a)(m:b)(n:c)(o:d)(q:e)(r:h):Q/\p/\a/\b/\c/\d/\e/\h/\True:=⟨i,k,l,m,n,o,q,r,trivial⟩
theorem a9{Q c i:Prop}(k:Q)(l:p)(m:a)(n:b)(o:c)(q:d)(r:e)(s:h)(v:i):Q/\p/\a/\b/\c/\d/\e/\h/\i/\True:=⟨k,l,m,n,o,q,r,s,v,trivial⟩
theorem a12{c i k l m Q:Prop}(r:b)(s:c)(v:d)(w:e)(x:h)(y:i)(z:k)(A:l)(B:m)(n:Q)(o:p)(q:a):b/\c/\d/\e/\h/\i/\k/\l/\m/\Q/\p/\a/\True:=⟨r,s,v,w,x,y,z,A,B,n,o,q,trivial⟩
def AM:Nat->Nat->List Nat
 |_,0=>[]
 |a,n+1=>a::AM (a+1) n
theorem aj(h:b5 K x s (mG (λa=>b5 K y a Q) Q)):b5 K (.seq x y) s Q:=uj h
theorem bf(h:b5 K c s (rW i Q)):b5 K (.block i c) s Q:=OU h
theorem ar(h:Q .normal s):b5 K .skip s Q:=PM h
theorem qr(h:Q .ret s):b5 K .ret s Q:=Rr h
theorem bm(h:Q (.exit i) s):b5 K (.exit i) s Q:=PO h
theorem o0{a:S}(b:s.le K a)(h:b5 K c a Q):b5 K c s Q:=qC b h
abbrev bJ(a:List (Nat×V)):S:=bw a [] []
abbrev cc:V:=V.t T.en
def bU{R:Type}{r:R->List T}(n:Nat)(k: ∀a,(r a).length=n)(l:List R):fa:=aw (iv (r:=r) n k l)
def dr(l:List Int):fa:=bU (r:=U) 1 (λ_=>rfl) l
theorem aC(h:Q .ret s:=by exact Uk):b5 K .ret s Q:=qr h
theorem b8(h:Q .ret s:=by exact sa):b5 K .ret s Q:=qr h
theorem bq(h:b5 K c s (rW i (mG (λa=>b5 K y a Q) Q))):b5 K (.seq (.block i c) y) s Q:=aj (bf h)
theorem de{c:Operand}{z:Code}{b:Bool}(h:(bif b then A else B)=some r)(d:b=true->A=some r->b5 K x s (mG (λa=>b5 K z a Q) Q))(e:b=false->B=some r->b5 K y s (mG (λa=>b5 K z a Q) Q))(i:s.get c= .t (.bool b):=by kernel_rfl):b5 K (.seq (.cond c x y) z) s Q:=aj (aB h d e i)
theorem cG{a:(k->Option R)->k->Option R}{z:k}(h:ba a n z=some r)(I:k->Nat->S)(e:Nat)(i:s.le K (I z e))(d: ∀(b:k->Option R) (x:k) (g:Nat),a b x=some r->b5 K c (I x g) (va (λl=> ∃y m,b y=some r/\l.le K (I y m)) Q)):b5 K (.loop c) s Q:=zD (γ:=Nat) h I e i d
theorem aq{f:R->Option H}{r:H}{P:Prop}(h:o.bind f=some r)(k: ∀x,o=some x->f x=some r->P):P:=by obtain⟨x,a,b⟩:=cV h;exact k x a b
theorem bT{γ:Type}{g:R->Option H}{f:R->H->Option γ}{r:γ}{P:Prop}(h:(o.bind λx=>(g x).bind (f x))=some r)(k: ∀x,o=some x-> ∀y,g x=some y->f x y=some r->P):P:=by obtain⟨x,a,y,b,c⟩:=gC h;exact k x a y b c
theorem dO{a b:Type}{g:R->Option H}{f:R->H->Option a}{e:R->H->a->Option b}{r:b}{P:Prop}(h:(o.bind λx=>(g x).bind λy=>(f x y).bind (e x y))=some r)(k: ∀x,o=some x-> ∀y,g x=some y-> ∀z,f x y=some z->e x y z=some r->P):P:=by obtain⟨x,c,y,d,z,i,l⟩:=p2 h;exact k x c y d z i l
end
section
def vz:T->Bool
 | .aa _=>false
 |_=>true
variable {w:World}{a:List E}{X X':Nat->Prop}{x:T}{v u:Value}{t:List df}{k n:Nat}{f:FuncId}{G:ef}{W:Map}{P:Program}
theorem b9.flat{a:World}(h:b9 w X x v)(c:vz x=true):b9 a X' x v:=by
 cases h with
 |bool b=>exact .bool b
 |int k n=>exact .int k n
 |str l=>exact .str l
 |eH _ _=>cases c
 |aa d b m e o f q r i p s y=>cases c
 |en=>exact .en
 |gW=>exact .gW
 |eO=>exact .eO
 |jw=>exact .jw
 |err t v=>exact .err t v
mutual
def uW:V->Bool
 | .t x=>vz x
 | .agg cs=>rn cs
 | .bG cs=>rn cs
 | .aN _ _ _ _ _=>true
 | .ct=>true
 |_=>false
def rn:List V->Bool
 | []=>true
 |c::cs=>uW c&&rn cs
end
theorem Ca: ∀{cs:List V} {i:Nat} {c:V},rn cs=true->cs[i]? =some c->uW c=true
 | [],_,_,_,h=>by simp at h
 |c::cs,0,_,a,h=>by simp[rn] at a;simp at h;subst h;exact a.1
 |c::cs,i+1,_,a,h=>by simp[rn] at a;exact Ca a.2 (by simpa using h)
theorem aS.flat{β:Map}{v:V}(h:aS β w X v u)(k:uW v=true):aS β w X' v u:=by
 induction h with
 |t x v h=>exact .t x v (h.flat k)
 |agg cs p m _ r=>exact .agg cs p m (λi c u o s=>r i c u o s (Ca k o))
 |bG cs p m _ r=>exact .bG cs p m (λi c u o s=>r i c u o s (Ca k o))
 |ref id d b e=>cases k
 |aP cells b d f e F o G=>cases k
 |aN id gen a d len y b n ty l e A B C m D=>exact .aN id gen a d len y b n ty l e A B C m D
 |fB id gen a l e=>exact .fB id gen a l e
 |hW id gen a d len v q g z e l=>exact .hW id gen a d len v q g z e l
 |cd id gen a i d b l e=>cases k
 |iG id gen a i d v q g z e l=>cases k
 |fn f cs p m h=>cases k
 |ct v=>exact .ct v
def TO(a:List (List T)):Prop:= ∀b,b∈a-> ∀x,x∈b->vz x=true
inductive iC (d':List df):Option Nat->T->Prop
 |ee (x:T) (h:vz x=true):iC d' none x
 |own (m:Nat) (rows:List (List T)) (h: ∀(i j:Nat) row x,rows[i]? =some row->row[j]? =some x->iC d' ((Y d' m).dv j) x):iC d' (some m) (.aa rows)
theorem eJ.flat{m:Option Nat}{N:Nat->Prop}(h:eJ t w X m x v N):iC t m x->eJ t w X' m x v N:=by
 induction h with
 |ee x v N h c=>intro a;cases a with|ee _ a=>exact .ee _ _ _ (h.flat a) c
 |nil m N c=>intro _;exact .nil _ _ c
 |own m d b k n B N o p q r l A s y c z=>
  intro a;cases a with
  |own _ _ a=>exact .own m d b k n B N o p q r l (λi j e x u ay a2 a3=>z i j e x u ay a2 a3 (a i j e x ay a2)) s y c
theorem qH{m:Nat}{k:Type}{f:k->List T}(h: ∀(y:k) (j:Nat) x,(f y)[j]? =some x->iC t ((Y t m).dv j) x)(l:List k): ∀(i j:Nat) a x,(List.map f l)[i]? =some a->a[j]? =some x->iC t ((Y t m).dv j) x:=λi j a x b c=>by obtain⟨y,_,rfl⟩:=fY.1 (bA b);exact h y j x c
def Gq:E->Prop
 | .arr _ _ _ a=>TO a
 | .av c m _ a d=>d=[]/\ ∀(i j:Nat) b x,a[i]? =some b->b[j]? =some x->iC c ((Y c m).dv j) x
 |_=>False
inductive jH (eu:List E):V->V->Prop where
 |t (x:T):jH eu (.t x) (.t x)
 |arr (id:Nat) (ty:TypeId) (gen size:Nat) (rows:List (List T)) (n:Nat) (h:eu[id]? =some (.arr ty gen size rows)) (cn:n=rows.length):jH eu (.aN id gen size 0 n) (.t (.aa rows))
 |av (id:Nat) (d':List df) (m gen size:Nat) (rows:List (List T)) (n:Nat) (h:eu[id]? =some (.av d' m gen rows [])) (db:size=(Y d' m).size) (cn:n=rows.length):jH eu (.aN id gen size 0 n) (.t (.aa rows))
 |agg (cs oo:List V) (ch:cs.length=oo.length) (h: ∀(i:Nat) c r5,cs[i]? =some c->oo[i]? =some r5->jH eu c r5):jH eu (.agg cs) (.agg oo)
def mv(a:List E):List V->List V->Prop
 | [],[]=>True
 |v::c,d::b=>jH a v d/\mv a c b
 |_,_=>False
theorem mv.get: ∀{e b:List V},mv a e b->e.length=b.length/\ ∀(i:Nat) c d,e[i]? =some c->b[i]? =some d->jH a c d
 | [],[],_=>⟨rfl,λi c d h _=>by simp at h⟩
 |v::e,m::b,h=>⟨by simp[h.2.get.1],λi c d k l=>by
  match i with
  |0=>simp at k l;subst k;subst l;exact h.1
  |i+1=>exact h.2.get.2 i c d (by simpa using k) (by simpa using l)⟩
 | [],_::_,h=>h.elim
 |_::_,[],h=>h.elim
theorem jH.mk{c b:List V}(h:mv a c b):jH a (.agg c) (.agg b):= .agg _ _ h.get.1 h.get.2
theorem EN{c:List E}(p:mw G c W w X){gen size:Nat}{a:List (List T)}
  (B:aS W w (fS X W (dy c 0)) (.aN k gen size 0 a.length) u)
  (H:(W k=some (none,gen)/\a=[])\/ ∃(b:Nat) (m:Array Value),W k=some (some b,gen)/\(∃ty,w.heap[b]? =some (.cells m ty (0,0)))/\a.length*size<=m.size/\(∀d,d∈a->d.length=size)/\
   ∀(i j:Nat) (d:List T) (x:T) (y:Value),a[i]? =some d->d[j]? =some x->m[i*size+j]? =some y->b9 w X x y):b9 w X (.aa a) u:=by
 rcases H with ⟨r,rfl⟩|⟨b,m,r,⟨ty,K⟩,t,C,L⟩
 ·rcases ei B r with ⟨_,_,_,_,_,h,_⟩|⟨_,_,_,rfl⟩
  ·cases h
  exact .eH _ _
 rcases ei B r with ⟨s,I,n,Q,rfl,h,R,_,_,f,_⟩|⟨h,_⟩
 ·cases h;have l: ∀i j,i<a.length->j<size-> ∃y,m[i*size+j]? =some y:=λi j p D=>by
   have:(i+1)*size<=a.length*size:=dq _ p;rw[dM] at this;exact⟨_,f' (O:i*size+j<m.size)⟩
  have g:=b9.aa (w:=w) (X:=X) a b (0*size) size s (λi j=>m.getD (i*size+j) undef) R (p.place k b (.inl ⟨_,r⟩)).2.1 f C (λi j p D=>?_) λi j d x v F=>?_
  ·exact g
  ·obtain⟨y,q⟩:=l i j p D;have o:=(gw.1 q).1
   have:0*size+i*size+j=i*size+j:=O
   rw[this];simp[World.cell?,K,o]
  have z:=(bt.1 v).1;have A:j<size:=by rw[<-C d (bA v)];exact(bt.1 F).1
  obtain⟨y,q⟩:=l i j z A;have o:=(gw.1 q).1;have e:m.getD (i*size+j) undef=y:=by rw[<-(gw.1 q).2];simp[o]
  show b9 w X x (m.getD (i*size+j) undef);rw[e];exact L i j d x y v F q
 cases h
theorem jH.tA(q:mw G a W w X){v d:V}(Q:jH a v d): ∀{u:Value},aS W w (fS X W (dy a 0)) v u->aS d7 w X d u:=by
 induction Q with
 |t x=>intro u h;cases h with|t _ _ h=>exact .t _ _ (h.mono (Ext.refl _ _) λb _ h=> .inl h)
 |arr id ty gen r s n h D=>
  intro u e;subst D;have k:=q.heap id _ h;refine .t _ _ (EN q e ?_);rcases k.2 with ⟨l,o⟩|⟨b,z,l,o,F,H,K⟩
  ·exact .inl ⟨l,o⟩
  exact .inr ⟨b,z,l,⟨_,o⟩,F,H,λi j p x y ay a2 a3=>(K i j p x y ay a2 a3).mono (Ext.refl _ _) λb _ h=> .inl h⟩
 |av id S m gen r s n h R D=>
  intro u e;subst D;subst R;have k:=q.heap id _ h;refine .t _ _ (EN q e ?_);rcases k.2 with ⟨l,o,_⟩|⟨b,z,B,l,o,F,H,K,T,U,f⟩
  ·exact .inl ⟨l,o⟩
  exact .inr ⟨b,z,l,⟨_,o⟩,F,H,λi j p x y ay a2 a3=>(K i j p x y ay a2 a3).none.q7 (λb h=> .inl h) λc C=>(q.place id c (.inr ((f c).2 ⟨i,j,C⟩))).2.1⟩
 |agg cs g I _ M=>
  intro u e;cases e with
  |agg _ z Y N=>
   refine .agg _ z O λi P u C e=>?_;have L:i<cs.length:=by rw[I];exact(bt.1 C).1
   have A:=bh L;exact M i _ P A C (N i _ u A e)
theorem mv.Is{G:ef}{a:List E}{W:Map}{w:World}{X:Nat->Prop}(c:mw G a W w X): ∀{d b:List V} {e:List Value},mv a d b->cI W w (fS X W (dy a 0)) d e->cI d7 w X b e
 | [],[],[],_,_=>trivial
 |_::_,_::_,_::_,i,h=>⟨i.1.tA c h.1,mv.Is c i.2 h.2⟩
 | [],_::_,_,h,_=>h.elim
 |_::_,[],_,h,_=>h.elim
 | [],[],_::_,_,h=>h.elim
 |_::_,_::_,[],_,h=>h.elim
def Map.cat(n:Nat)(c a:Map):Map:=⟨λk=>bif Nat.blt k n then c k else a (k-n),λk b=>(k<n/\c.n k b)\/(n<=k/\a.n (k-n) b)⟩
theorem uN{V:Map}(h:k<n):V.cat n W k=V k:=by show(bif Nat.blt k n then V k else W (k-n))=V k;rw[show Nat.blt k n=true from by simpa[Nat.blt_eq] using h];rfl
theorem rR{V:Map}(h:n<=k):V.cat n W k=W (k-n):=by
 show(bif Nat.blt k n then V k else W (k-n))=W (k-n)
 have:Nat.blt k n=false:=by
  cases a:Nat.blt k n with
  |false=>rfl
  |true=>
   have:k<n:=by simpa[Nat.blt_eq] using a
   omega
 rw[this];rfl
theorem uO{V:Map}{b:Nat}(h:At (V.cat n W) k b):(k<n/\At V k b)\/(n<=k/\At W (k-n) b):=by
 rcases h with ⟨g,h⟩|h|h
 ·by_cases a:k<n
  ·rw[uN a] at h;exact .inl ⟨a,.inl ⟨g,h⟩⟩
  rw[rR O] at h;exact .inr ⟨O,.inl ⟨g,h⟩⟩
 ·exact .inl ⟨h.1,.inr h.2⟩
 exact .inr ⟨h.1,.inr h.2⟩
theorem RO{l:List E}{args D:List V}{r:V}(h:gO P G f [] D r l)(M:mv a args D)(bH:uW r=true)(dG: ∀e,e∈l->Gq e):
  gO P G f a args (r.c7 (List.range' a.length l.length)) (a++l):=by
 refine⟨h.1,λw X o N iH e8 K hu=>?_⟩;have lY: ∀b,fS X d7 (dy [] 0) b->X b:=by
  rintro b (h|⟨_,_,h⟩)
  ·exact h
  exact(l7 h).elim
 have S:mw G [] d7 w X:=⟨λ_ _=>rfl,λ_ _ _ h=>h,λ_ _ _ h=>(l7 h).elim,λ_ _ h=>(l7 h).elim,λk e h=>by simp at h⟩
 refine(h.2 w X d7 N iH e8 S ((M.Is K hu).mono (Ext.refl _ _) (λb _=>lY b) (cN.refl _) (Shaped.refl _ _))).mono ?_;rintro e w' ⟨u,i,d,rfl,_,L⟩;have p:Ext (λ_=>False) w w':=L.ext.weaken λb _ ⟨k,z⟩=>l7 z;have C: ∀k b,At d k b->w.heap.size<=b:=λk b z=>by
  rcases(L.fresh k b z).1 with ⟨bz,s,_⟩|s
  ·exact a7 s (lA _)
  exact s
 have Hc: ∀k b,At o k b->k<a.length:=by
  rintro k b (⟨g,h⟩|h)
  ·apply lz;intro A;rw[K.cW k A] at h;cases h
  exact lz λA=>K.du k b A h
 have T: ∀b,b<w.heap.size->fS X (o.cat a.length d) (dy (a++l) 0) b->fS X o (dy a 0) b:=by
  rintro b Q (I|⟨k,s,v⟩)
  ·exact .inl I
  rcases uO v with ⟨W,t⟩|⟨_,t⟩
  ·refine .inr ⟨k,?_,t⟩;rw[qF,bh W];simp
  have:=C _ _ t;omega
 have U:cN o (o.cat a.length d):=λk q g cK=>by
  have:k<a.length:=lz λA=>by rw[K.cW k A] at cK;cases cK
  exact .inl (by rw[uN this];exact cK)
 refine⟨u,(),o.cat a.length d,rfl,trivial,?_⟩;refine⟨p.weaken λb _ h=>h.elim,λid hid=> .inl (uN hid),λb M=>oA (p.keep b M λh=>h),λk z=>?_,λk b z cn=>?_,?_,?_,?_,?_⟩
 ·rw[dw] at z;rw[rR O];exact L.cW _ (O:l.length<=_)
 ·rw[dw] at z;rcases cn with h|h
  ·omega
  exact L.du _ b (O:l.length<=_) h.2
 ·intro id Y b s v;rcases uO s with ⟨ay,a2⟩|⟨ay,a2⟩<;>rcases uO v with ⟨cF,b2⟩|⟨cF,b2⟩
  ·exact K.inj id Y b a2 b2
  ·have:=(K.place id b a2).1;have:=C _ _ b2;omega
  ·have:=(K.place Y b b2).1;have:=C _ _ a2;omega
  have:=L.inj _ _ b a2 b2;omega
 ·intro k b z;rcases uO z with ⟨s,v⟩|⟨_,v⟩
  ·exact⟨.inl ⟨k,s,v⟩,iU (K.place k b v).1 p.size⟩
  exact⟨.inr (C _ _ v),(L.fresh _ b v).2⟩
 ·intro k e z;by_cases Q:k<a.length
  ·rw[hD Q] at z;refine(K.heap k e z).mono (p.weaken λb _ h=>h.elim) T U (λx I=>by rw[uN Q];exact I) (lQ p) (λb M=>p.keep b (K.place k b M).1 λh=>h) λb=>⟨λh=>?_,λh=> .inl ⟨Q,h⟩⟩
   rcases h with h|h
   ·exact h.2
   omega
  rw[gK O] at z;have R:=L.heap _ e z;have F:=dG e (bA z);cases e with
  |cells cs=>exact F.elim
  |av d' m gen rows hs=>
   obtain⟨rfl,F⟩:=F;refine⟨R.1,?_⟩;have e1:o.cat a.length d k=d (k-a.length):=rR O;have e2: ∀c,(o.cat a.length d).n k c↔d.n (k-a.length) c:=λc=>⟨λh=>by
    rcases h with ⟨h,_⟩|⟨_,h⟩
    ·omega
    exact h,λh=> .inr ⟨O,h⟩⟩
   rcases R.2 with ⟨s,v,W⟩|⟨b,N,B,s,v,W,t,h5,h6,il,hS⟩
   ·exact .inl ⟨by rw[e1];exact s,v,λc bl=>W c ((e2 c).1 bl)⟩
   exact .inr ⟨b,N,B,by rw[e1];exact s,v,W,t,λi j H x u ay a2 a3=>Cell.of ((h5 i j H x u ay a2 a3).none.flat (F i j H x ay a2)),h6,il,λc=>(e2 c).trans (hS c)⟩
  |arr ty gen size rows=>
   refine⟨R.1,?_⟩;have e1:o.cat a.length d k=d (k-a.length):=rR O;rcases R.2 with ⟨s,v⟩|⟨b,N,s,v,W,t,h5⟩
   ·exact .inl ⟨by rw[e1];exact s,v⟩
   exact .inr ⟨b,N,by rw[e1];exact s,v,W,t,λi j H x y ay a2 a3=>(h5 i j H x y ay a2 a3).flat (F H (bA ay) x (bA a2))⟩
 have s:=aS.c7 (β':=o.cat a.length d) (L:=List.range' a.length l.length) (L.res.flat (X':=fS X (o.cat a.length d) (dy (a++l) 0)) bH) λk x I=>?_
 ·exact s
 have z:k<l.length:=lz λA=>by
  have HT:d k=some x:=I;rw[L.cW k A] at HT;cases HT
 have:(List.range' a.length l.length).getD k 0=a.length+k:=by
  rw[fs,List.getElem?_range' O];simp
 rw[this,rR O];rw[show a.length+k-a.length=k by omega];exact I
theorem hJ.ec{args:List V}{r:V}(h:hJ P G f args r):gO P G f [] args r []:=by
 refine⟨h.1,λw X a us n i c o=>?_⟩;have p: ∀k b,¬At a k b:=by
  rintro k b (⟨g,h⟩|h)
  ·rw[c.cW k (Nat.zero_le _)] at h;cases h
  exact c.du k b (Nat.zero_le _) h
 have s: ∀b,fS X a (dy [] 0) b->b<w.heap.size:=by
  rintro b (h|⟨k,h,_⟩)
  ·exact i b h
  simp[dy,j9] at h
 have v: ∀(d:List V) (us:List Value),cI a w (fS X a (dy [] 0)) d us->cI d7 w X d us:=λd us h=>
  h.mono (Ext.refl _ _) (λb _ h=> .inl h) (λid q g l=>by rw[c.cW id (Nat.zero_le _)] at l;cases l) (Shaped.refl _ _)
 refine(h.2 w X us n i (v _ _ o)).mono ?_;rintro e z ⟨u,rfl,m,x⟩;refine⟨u,(),d7,rfl,trivial,m.weaken λb _ h=>h.elim,λid hid=>a7 hid (lA _),λb y=>oA (m.keep b y λh=>h),λ_ _=>rfl,λ_ _ _ h=>h,λ_ _ _ h=>(l7 h).elim,λ_ _ h=>(l7 h).elim,λk e h=>by simp at h,?_⟩;refine x.mono (Ext.refl _ _) (λb _ h=>?_) (cN.refl _) (Shaped.refl _ _);rcases h with h|⟨k,h,_⟩
 ·exact h
 simp[dy,j9] at h
end
section
theorem dY{a:List (List T)}{i:Nat}{b:List T}(h:a[i]? =some b)(r:List T):(a.set i r)[i]? =some r:=
 hY (bt.1 h).1
theorem fq(c:List (List T))(i:Nat)(a b:List T):(c.set i a).set i b=c.set i b:=List.set_set ..
variable {i:Int}{k:Type}{l r:List k}{x:k}{q:List T}
theorem SX(f:k->List T)(h:dh l i x=some r)(e:f x=q):(l.map f).set (0+i.toNat) q=r.map f:=by subst e;exact(str f h).symm
theorem jJ{a:List T}(f:k->List T)(h:dh l i x=some r)(e:f x=q):((l.map f).set (0+i.toNat) a).set (0+i.toNat) q=r.map f:=by rw[List.set_set];exact SX f h e
theorem im{a b:List k}{u:Unit}(f:k->List T)(h:er a b=some u):(a.map f).length=(b.map f).length:=by
 unfold er at h;split at h
 ·rename_i e;simp[e]
 cases h
end
section
variable {K:Ctx}{C:dc}
def h7:Option (cg×List cR)->cg
 |some r=>r.1
 |none=>⟨[],[],[]⟩
def ih(r:cg×List cR):Prop×List Nat×Bool:=(tk r.2,qS r.2,true)
def ij(a:Prop)(r:cg×List cR):Prop×List Nat×Bool:=(a,qT r.2,true)
def eC(x:Option (cg×List cR))(n:Prop×List Nat×Bool)(f:cg×List cR->Prop×List Nat×Bool):Prop×List Nat×Bool:=match x with
 |some r=>f r
 |none=>n
variable {P:Prop}{i:Nat}{l:List Oper}{s:S}{Q:Exit->S->Prop}
theorem zU{x:Option (cg×List cR)}(b:P)(h:eC x (False,[],false) ih=eC x (True,[],true) (ij P)): ∃a,x=some (h7 x,a)/\bS a:=by
 cases x with
 |none=>simp[eC] at h
 |some r=>
  obtain⟨e,a⟩:=r;simp only[eC,ih,ij,Prod.mk.injEq] at h;obtain⟨c,d,_⟩:=h;exact⟨a,rfl,bS.of (c▸b) d⟩
theorem wR(c:C.Fits K)(a:List bV)(b:P)
  (h:eC (gD C l.toArray l a s) (False,[],false) ih=eC (gD C l.toArray l a s) (True,[],true) (ij P)) (d:Q .normal ((h7 (gD C l.toArray l a s)).app s)):b5 K (.region i l.toArray false) s Q:=by obtain⟨m,e,k⟩:=zU b h;exact Kd _ (Gi c e k (PQ (S.le.refl K _))) d
theorem WR(k:C.Fits K)(m:K.P.follows .mixedOrders=true)(b:List bV){p:Prop}(c:p)
  (h:eC (jg C l b s) (False,[],false) ih=eC (jg C l b s) (True,[],true) (ij p)) (n:Q .normal ((h7 (jg C l b s)).app s)):b5 K (.region i l.toArray true) s Q:=by
 obtain⟨B,a,o⟩:=zU c h;generalize h7 (jg C l b s)=e at*;unfold jg at a;split at a
 ·cases a
 rename_i D q r v;split at a
 ·cases a
 rename_i w x y;split at a
 ·rename_i d;cases a;simp only[Bool.and_eq_true] at d;obtain⟨z,A⟩:=bS.app o;refine qC (nd k v z) (FR (s2:=_) (EH w m d.1 d.2 (zO k y A ?_)) n);rw[kC];exact S.le.refl K _
 cases a
theorem vW(d:C.Fits K)(a:List bV)(c:P)
  (h:eC (eZ C a s) (False,[],false) ih=eC (eZ C a s) (True,[],true) (ij P)):s.le K ((h7 (eZ C a s)).app s):=by
 obtain⟨l,b,i⟩:=zU c h;generalize h7 (eZ C a s)=e at*;unfold eZ at b;split at b
 ·rename_i k;cases b;exact nd d k i
 cases b
end
section
variable {K:Ctx}{C:dc}
variable {i:Nat}{l:List Oper}{s:S}{Q:Exit->S->Prop}{y c:Code}{P:Prop}
theorem aM(a:C.Fits K)(A:List fa)(b:Q .normal ((h7 (gD C l.toArray l (gL A) s)).app s))
  (h:eC (gD C l.toArray l (gL A) s) (False,[],false) ih=eC (gD C l.toArray l (gL A) s) (True,[],true) (ij (mu A)):=by kernel_rfl):b5 K (.region i l.toArray false) s Q:=wR a (gL A) (nR A) h b
theorem ae(a:C.Fits K)(A:List fa)(b:b5 K y ((h7 (gD C l.toArray l (gL A) s)).app s) Q)
  (h:eC (gD C l.toArray l (gL A) s) (False,[],false) ih=eC (gD C l.toArray l (gL A) s) (True,[],true) (ij (mu A)):=by kernel_rfl):b5 K (.seq (.region i l.toArray false) y) s Q:=uj (wR a (gL A) (nR A) h b)
theorem be(a:C.Fits K)(b:Q .normal ((h7 (gD C l.toArray l [] s)).app s))
  (h:eC (gD C l.toArray l [] s) (False,[],false) ih=eC (gD C l.toArray l [] s) (True,[],true) (ij True):=by kernel_rfl):b5 K (.region i l.toArray false) s Q:=wR a [] trivial h b
theorem ad(a:C.Fits K)(b:b5 K y ((h7 (gD C l.toArray l [] s)).app s) Q)
  (h:eC (gD C l.toArray l [] s) (False,[],false) ih=eC (gD C l.toArray l [] s) (True,[],true) (ij True):=by kernel_rfl):b5 K (.seq (.region i l.toArray false) y) s Q:=uj (wR a [] trivial h b)
theorem bP(a:C.Fits K)(b:K.P.follows .mixedOrders=true)(A:List fa)(c:Q .normal ((h7 (jg C l (gL A) s)).app s))
  (h:eC (jg C l (gL A) s) (False,[],false) ih=eC (jg C l (gL A) s) (True,[],true) (ij (mu A)):=by kernel_rfl):b5 K (.region i l.toArray true) s Q:=WR a b (gL A) (nR A) h c
theorem vq(b:C.Fits K)(a:List bV)(h:eC (eZ C a s) (False,[],false) ih=eC (eZ C a s) (True,[],true) (ij True):=by kernel_rfl):s.le K ((h7 (eZ C a s)).app s):=vW b a trivial h
theorem Uj(c:C.Fits K)(a:List bV)(b:P)(h:eC (eZ C a s) (False,[],false) ih=eC (eZ C a s) (True,[],true) (ij P):=by kernel_rfl):s.le K ((h7 (eZ C a s)).app s):=vW c a b h
theorem bj(b:C.Fits K)(a:List bV)(k:b5 K c ((h7 (eZ C a s)).app s) Q)(h:eC (eZ C a s) (False,[],false) ih=eC (eZ C a s) (True,[],true) (ij True):=by kernel_rfl):b5 K c s Q:=qC (vW b a trivial h) k
theorem ed(d:C.Fits K)(a:List bV)(b:P)(k:b5 K c ((h7 (eZ C a s)).app s) Q)(h:eC (eZ C a s) (False,[],false) ih=eC (eZ C a s) (True,[],true) (ij P):=by kernel_rfl):b5 K c s Q:=qC (vW d a b h) k
theorem eX(c:C.Fits K)(a b:Nat)(k:Q .ret ((h7 (eZ C [.c7 a b 0] s)).app s):=by exact sa)
  (h:eC (eZ C [.c7 a b 0] s) (False,[],false) ih=eC (eZ C [.c7 a b 0] s) (True,[],true) (ij True):=by kernel_rfl):b5 K .ret s Q:=o0 (vq c [.c7 a b 0] h) (qr k)
end
def s3(s t:List UInt8):Option Bool:=if s.length<4294967281 then some (Lib.contains s t) else none
def ht(l:List Int):Option (List Int):=if l.length<=1000000000 then some l else none
def cmpL:List Int->List Int->Int
 | [],[]=>0
 | [],_::_=> -1
 |_::_,[]=>1
 |x::a,y::b=>if x<y then-1 else if y<x then 1 else cmpL a b
def d0(a:List (List Int)):List (List Int):=a.mergeSort λx y=> !decide (cmpL y x<0)
def ka(a:List (List Int)):Option (List (List Int)):=if a.length<=1000000000/\ ∀l∈a,l.length<=1000000000 then some (d0 a) else none
def dp(a:Nat->Bool)(m:Nat):List Nat:=(List.range m).filter a
def iE(a:List (List Int))(j:Nat):Bool:=decide (j=0\/a.getD j []≠a.getD (j-1) [])
def fl(a:List (List Int)):List (List Int):=(dp (iE a) a.length).map λj=>a.getD j []
def wg:List Int->List Int->Nat
 |_,[]=>0
 |seen,c::t=>(if c∈seen then 0 else 1)+wg (c::seen) t
end Go.Lift
