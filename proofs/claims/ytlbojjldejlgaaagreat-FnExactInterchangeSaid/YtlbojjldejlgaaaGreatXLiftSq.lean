/- Tools. -/
import Derived.Test.YtlbojjldejlgaaaGreatXLiftY
import Derived.Lib.AtoiAll
import Derived.Lib.ItoaNum
import Derived.Lib.Split
set_option linter.unusedVariables false
namespace Go.Lift
open Go
section
variable {K:Ctx}{C:db}{P:Program}{G:ee}{bQ:List (Nat×bO)}
inductive e9 where
 |o (h:bV) (p:Prop) (k:p)
 |z (h:bV)
 |q (p:Prop) (k:p)
def gJ:List e9->List bV
 | []=>[]
 | .o h _ _::l=>h::gJ l
 | .z h::l=>h::gJ l
 | .q _ _::l=>gJ l
def mm:List e9->Prop
 | []=>True
 | .o _ p _::l=>p/\mm l
 | .z _::l=>mm l
 | .q p _::l=>p/\mm l
theorem nQ: ∀l,mm l
 | []=>trivial
 | .o _ _ k::l=>⟨k,nQ l⟩
 | .z _::l=>nQ l
 | .q _ k::l=>⟨k,nQ l⟩
def bC{c:Bool}(k:c=true):e9:= .o (.b true) _ k
def a1{c:Bool}(k:c=false):e9:= .o (.b false) _ k
def TO:e9:=bC (Eq.refl true)
def dd:e9:=a1 (Eq.refl false)
def aK{k:Type}(r:k->List T)(l:List k):e9:= .o (.nat l.length) _ (Gr r l)
def av{P:Program}{G:ee}{f:FuncId}{a:List V}{r:V}(k:hE P G f a r):e9:= .o (.v r) _ k
def br(L N:List Nat){P:Program}{G:ee}{f:FuncId}{i:List E}{a:List V}{r:V}{u:List E}(k:gM P G f i a r u):e9:= .o (.ec L N r u) _ k
def aV{k:Type}{l:List k}{i:Int}{x:k}(f:k->List T)(h:aD l i=some x):e9:= .o (.row (f x)) _ (FO f h)
def b1{k:Type}{l:List k}{i:Int}{x:k}(f:k->List T)(h:aD l i=some x):e9:= .o (.row (f x)) _ (bW f h)
def HN{o:Option (List UInt8)}{x:List UInt8}(h:o=some x):e9:= .o (.str x) _ h
def ch{o:Option (List (List T))}{x:List (List T)}(h:o=some x):e9:= .o (.rows x) _ h
def au{p:Prop}(k:p):e9:= .q p k
def bc(n:Nat){c:Bool}(k:c=true):List e9:=List.replicate n (bC k)
def aZ(n:Nat){c:Bool}(k:c=false):List e9:=List.replicate n (a1 k)
def gE(n:Nat):List e9:=List.replicate n TO
def e8(n:Nat):List e9:=List.replicate n dd
variable {i n:Nat}{s:S}{Q:Exit->S->Prop}{k R H:Type}{a b e d p h:Prop}{r:R}{x y c:Code}{o A B:Option R}{g:k->Option R}{f:k->R->Option H}{args:List V}
theorem dk{l:List Oper}(e:C.Fits K)(k:K.P.follows .mixedOrders=true)(A:List e9)(c:List Nat)(a:List (Nat×V))(b:List (Nat×Option E))(d:List (Nat×Bool))(m:Q .normal (s.cl c a b d))
  (h:j7 (ja C l (gJ A) s) p4 (p6 s c a b)=j7 (ja C l (gJ A) s) p5 (p7 (mm A) a b d):=by kernel_rfl):b5 K (.region i l.toArray true) s Q:=rd e k (gJ A) c a b d (nQ A) h m
theorem b3{a:k->Option R}{t:(k->Option R)->Option R}(h:aW a t=some r)(I:k->S)
  (b: ∀j:k->Option R,t j=some r->b5 K x s (mE (λd=> ∃z,j z=some r/\d.le K (I z)) Q)) (c: ∀z,a z=some r->b5 K y (I z) Q):b5 K (.seq x y) s Q:=
 nr (γ:=Unit) (j:=a) (r:=r) (λz _=>I z) (tt (b a h) (λe i q=>by
  cases e with
  |normal=>obtain⟨z,b,c⟩:=q;exact⟨z,(),b,c⟩
  |exit=>exact q
  |goto=>exact q
  |ret=>exact q
  |panic=>exact q
  |outgrown=>exact q)) λz _ h=>c z h
theorem b'{a:(k->Option R)->k->Option R}{b:k}(h:a8 a n b=some r)(I:k->S)(m:s.le K (I b))
  (i: ∀(d:k->Option R) (x:k),a d x=some r->b5 K c (I x) (uZ (λl=> ∃y,d y=some r/\l.le K (I y)) Q)):b5 K (.loop c) s Q:=
 zh (γ:=Unit) h (λz _=>I z) () m (λd x _ o=>tt (i d x o) (λe l q=>by
  cases e with
  |normal=>obtain⟨z,p,v⟩:=q;exact⟨z,(),p,v⟩
  |exit=>exact q
  |goto=>exact q
  |ret=>exact q
  |panic=>exact q
  |outgrown=>exact q))
theorem aB{z:H}{j:H->Option R}{a:H->List (Nat×V)}{b:H->List (Nat×E)}{c:H->List Nat}(h:j z=some r)(k:u6 K.cB s (a z) (b z) (c z)=(iw (a z),iw (lC (b z)),true):=by kernel_rfl): ∃z,j z=some r/\s.le K (bx (a z) (b z) (c z)):=⟨z,h,HG k⟩
theorem gw{o:Option k}{r:H}(h:(o.bind λx=>(g x).bind (f x))=some r): ∃x,o=some x/\ ∃y,g x=some y/\f x y=some r:=by
 obtain⟨x,a,h⟩:=cT h;obtain⟨y,b,h⟩:=cT h
 grind
theorem pZ{a:Type}{o:Option k}{e:k->R->H->Option a}{r:a}(h:(o.bind λx=>(g x).bind λy=>(f x y).bind (e x y))=some r): ∃x,o=some x/\ ∃y,g x=some y/\ ∃z,f x y=some z/\e x y z=some r:=by
 obtain⟨x,b,h⟩:=cT h;obtain⟨y,c,z,d,h⟩:=gw h
 grind
theorem bl{f:FuncId}{d:Func}{r:V}{a:List ResultVar}(e:di P bQ)(k:P.funcs[f]? =some d)(b:(d.name== "runtime.NumGoroutine",d.body,d.results.toList,d.ntmps,Nat.ble args.length i,r.ok e5,Nat.ble a.length 4)=(false,some c,a,i,true,true,true))
  (h: ∀w X,db.Fits ⟨P,G,bQ,i,0,ez⟩ (Ctx.pure P G w X i)->b5 (Ctx.pure P G w X i) c (start args) (Gp bQ a r)):hE P G f args r:=by simp only[Prod.mk.injEq] at b;exact HT e k b.1 b.2.1 b.2.2.1 b.2.2.2.1 b.2.2.2.2.1 b.2.2.2.2.2.1 b.2.2.2.2.2.2 h
theorem cd{f:FuncId}{d:Func}{a out:List E}{r:V}{b:List ResultVar}(l:di P bQ)(m:P.funcs[f]? =some d)(e:(d.name== "runtime.NumGoroutine",d.body,d.results.toList,d.ntmps,a.length,Nat.ble args.length i,Nat.ble n out.length,Nat.ble b.length 4)=(false,some c,b,i,n,true,true,true))
  (h: ∀w X k,db.Fits ⟨P,G,bQ,i,n,k⟩ (Ctx.ec P G w X n k i)->pz k a 0->b5 (Ctx.ec P G w X n k i) c (kM a args) (Gn bQ b r out)):gM P G f a args r out:=by simp only[Prod.mk.injEq] at e;exact WD l m e.1 e.2.1 e.2.2.1 e.2.2.2.1 e.2.2.2.2.1 e.2.2.2.2.2.1 e.2.2.2.2.2.2.1 e.2.2.2.2.2.2.2 h
theorem df(i:C.Fits K)(c:List bV)(d:List Nat)(a:List (Nat×V))(b:List (Nat×Option E))(e:List (Nat×Bool))
  (h:j7 (eY C c s) p4 (p6 s d a b)=j7 (eY C c s) p5 (p7 True a b e):=by kernel_rfl):s.le K (s.cl d a b e):=V0 i c d a b e h
theorem aO{a:List (Nat×V)}{b:List (Nat×E)}{r:List Nat}(h:u6 K.cB s a b r=(iw a,iw (lC b),true):=by kernel_rfl):s.le K (bx a b r):=HG h
theorem ec{c:Operand}{b:Bool}(a:b=true->b5 K x s Q)(d:b=false->b5 K y s Q)(e:s.get c= .t (.bool b):=by kernel_rfl):b5 K (.cond c x y) s Q:=qR e a d
theorem aA{c:Operand}{b:Bool}(h:(bif b then A else B)=some r)(a:b=true->A=some r->b5 K x s Q)(d:b=false->B=some r->b5 K y s Q)(i:s.get c= .t (.bool b):=by kernel_rfl):b5 K (.cond c x y) s Q:=
 qR i (λe=>a e (p1 e h)) λe=>d e (p0 e h)
theorem bF{b:Bool}{P:Prop}(h:(bif b then A else B)=some r)(a:b=false->B=some r->P)(c:b=true->A=some r->P):P:=ud b (λe=>a e (p0 e h)) λe=>c e (p1 e h)
theorem r4{b:List ResultVar}{r:V}{a:List E}(h:(rU r (gD bQ s b),pv s a 0,r.ok (ef a.length)&&pO (ef a.length) a)=(some r,ri a,true):=by kernel_rfl):
  ∃c,gD bQ s b=some c/\cV (lD c) r/\r.ok (ef a.length)=true/\iV s.H (ef a.length) (dx a 0):=Tl h
theorem TN{a:List ResultVar}{r:V}(h:rU r (gD bQ s a)=some r:=by kernel_rfl): ∃b,gD bQ s a=some b/\cV (lD b) r:=Gu h
theorem a0:True:=trivial
theorem ay{Q:Prop}(a:Q):Q/\True:=⟨a,trivial⟩
theorem a2{Q:Prop}(a:Q)(b:p):Q/\p/\True:=⟨a,b,trivial⟩
theorem a3{Q:Prop}(b:Q)(c:p)(d:a):Q/\p/\a/\True:=⟨b,c,d,trivial⟩
theorem a4{Q:Prop}(c:Q)(d:p)(e:a)(h:b):Q/\p/\a/\b/\True:=⟨c,d,e,h,trivial⟩
theorem a5{Q c:Prop}(d:Q)(e:p)(h:a)(i:b)(k:c):Q/\p/\a/\b/\c/\True:=⟨d,e,h,i,k,trivial⟩
theorem g'{Q c:Prop}(e:Q)(h:p)(i:a)(k:b)(l:c)(m:d):Q/\p/\a/\b/\c/\d/\True:=⟨e,h,i,k,l,m,trivial⟩
theorem fz{Q c:Prop}(h:Q)(i:p)(k:a)(l:b)(m:c)(n:d)(o:e):Q/\p/\a/\b/\c/\d/\e/\True:=⟨h,i,k,l,m,n,o,trivial⟩
theorem eQ{Q c:Prop}(i:Q)(k:p)(l:a)(m:b)(n:c)(o:d)(q:e)(r:h):Q/\p/\a/\b/\c/\d/\e/\h/\True:=⟨i,k,l,m,n,o,q,r,trivial⟩
theorem a9{Q c i:Prop}(k:Q)(l:p)(m:a)(n:b)(o:c)(q:d)(r:e)(s:h)(v:i):Q/\p/\a/\b/\c/\d/\e/\h/\i/\True:=⟨k,l,m,n,o,q,r,s,v,trivial⟩
theorem a12{c i k l m Q:Prop}(r:b)(s:c)(v:d)(w:e)(x:h)(y:i)(z:k)(A:l)(B:m)(n:Q)(o:p)(q:a):b/\c/\d/\e/\h/\i/\k/\l/\m/\Q/\p/\a/\True:=⟨r,s,v,w,x,y,z,A,B,n,o,q,trivial⟩
def Aw:Nat->Nat->List Nat
 |_,0=>[]
 |a,n+1=>a::Aw (a+1) n
theorem aj(h:b5 K x s (mE (λa=>b5 K y a Q) Q)):b5 K (.seq x y) s Q:=ub h
theorem bf(h:b5 K c s (rO i Q)):b5 K (.block i c) s Q:=N' h
theorem aq(h:Q .normal s):b5 K .skip s Q:=Od h
theorem qr(h:Q .ret s):b5 K .ret s Q:=Qx h
theorem bk(h:Q (.exit i) s):b5 K (.exit i) s Q:=Of h
theorem oZ{a:S}(b:s.le K a)(h:b5 K c a Q):b5 K c s Q:=qy b h
abbrev bJ(a:List (Nat×V)):S:=bx a [] []
abbrev cb:V:=V.t T.ek
def bT{R:Type}{r:R->List T}(n:Nat)(k: ∀a,(r a).length=n)(l:List R):e9:=au (il (r:=r) n k l)
def dp(l:List Int):e9:=bT (r:=U) 1 (λ_=>rfl) l
theorem aC(h:Q .ret s:=by exact TN):b5 K .ret s Q:=qr h
theorem cf(h:Q .ret s:=by exact r4):b5 K .ret s Q:=qr h
theorem bq(h:b5 K c s (rO i (mE (λa=>b5 K y a Q) Q))):b5 K (.seq (.block i c) y) s Q:=aj (bf h)
theorem m4{c:Operand}{z:Code}{b:Bool}(h:(bif b then A else B)=some r)(d:b=true->A=some r->b5 K x s (mE (λa=>b5 K z a Q) Q))(e:b=false->B=some r->b5 K y s (mE (λa=>b5 K z a Q) Q))(i:s.get c= .t (.bool b):=by kernel_rfl):b5 K (.seq (.cond c x y) z) s Q:=aj (aA h d e i)
theorem cI{a:(k->Option R)->k->Option R}{z:k}(h:a8 a n z=some r)(I:k->Nat->S)(e:Nat)(i:s.le K (I z e))(d: ∀(b:k->Option R) (x:k) (g:Nat),a b x=some r->b5 K c (I x g) (uZ (λl=> ∃y m,b y=some r/\l.le K (I y m)) Q)):b5 K (.loop c) s Q:=zh (γ:=Nat) h I e i d
theorem ar{f:R->Option H}{r:H}{P:Prop}(h:o.bind f=some r)(k: ∀x,o=some x->f x=some r->P):P:=by obtain⟨x,a,b⟩:=cT h;exact k x a b
theorem bU{γ:Type}{g:R->Option H}{f:R->H->Option γ}{r:γ}{P:Prop}(h:(o.bind λx=>(g x).bind (f x))=some r)(k: ∀x,o=some x-> ∀y,g x=some y->f x y=some r->P):P:=by obtain⟨x,a,y,b,c⟩:=gw h;exact k x a y b c
theorem dD{a b:Type}{g:R->Option H}{f:R->H->Option a}{e:R->H->a->Option b}{r:b}{P:Prop}(h:(o.bind λx=>(g x).bind λy=>(f x y).bind (e x y))=some r)(k: ∀x,o=some x-> ∀y,g x=some y-> ∀z,f x y=some z->e x y z=some r->P):P:=by obtain⟨x,c,y,d,z,i,l⟩:=pZ h;exact k x c y d z i l
end
section
def vm:T->Bool
 | .aa _=>false
 |_=>true
variable {w:World}{a:List E}{X X':Nat->Prop}{x:T}{v u:Value}{t:List de}{k n:Nat}{f:FuncId}{G:ee}{W:Map}{P:Program}
theorem b8.flat{a:World}(h:b8 w X x v)(c:vm x=true):b8 a X' x v:=by
 cases h with
 |bool b=>exact .bool b
 |int k n=>exact .int k n
 |str l=>exact .str l
 |eI _ _=>cases c
 |aa d b m e o f q r i p s y=>cases c
 |ek=>exact .ek
 |gU=>exact .gU
 |eN=>exact .eN
 |jo=>exact .jo
 |err t v=>exact .err t v
mutual
def uN:V->Bool
 | .t x=>vm x
 | .agg cs=>rh cs
 | .bI cs=>rh cs
 | .aM _ _ _ _ _=>true
 | .cr=>true
 |_=>false
def rh:List V->Bool
 | []=>true
 |c::cs=>uN c&&rh cs
end
theorem t8: ∀{cs:List V} {i:Nat} {c:V},rh cs=true->cs[i]? =some c->uN c=true
 | [],_,_,_,h=>by simp at h
 |c::cs,0,_,a,h=>by simp[rh] at a;simp at h;subst h;exact a.1
 |c::cs,i+1,_,a,h=>by simp[rh] at a;exact t8 a.2 (by simpa using h)
theorem aQ.flat{β:Map}{v:V}(h:aQ β w X v u)(k:uN v=true):aQ β w X' v u:=by
 induction h with
 |t x v h=>exact .t x v (h.flat k)
 |agg cs p m _ r=>exact .agg cs p m (λi c u o s=>r i c u o s (t8 k o))
 |bI cs p m _ r=>exact .bI cs p m (λi c u o s=>r i c u o s (t8 k o))
 |ref id d b e=>cases k
 |aT cells b d f e F o G=>cases k
 |aM id gen a d len y b n ty l e A B C m D=>exact .aM id gen a d len y b n ty l e A B C m D
 |fy id gen a l e=>exact .fy id gen a l e
 |hS id gen a d len v q g z e l=>exact .hS id gen a d len v q g z e l
 |ca id gen a i d b l e=>cases k
 |iC id gen a i d v q g z e l=>cases k
 |fn f cs p m h=>cases k
 |cr v=>exact .cr v
def SI(a:List (List T)):Prop:= ∀b,b∈a-> ∀x,x∈b->vm x=true
inductive iy (d':List de):Option Nat->T->Prop
 |ed (x:T) (h:vm x=true):iy d' none x
 |own (m:Nat) (rows:List (List T)) (h: ∀(i j:Nat) row x,rows[i]? =some row->row[j]? =some x->iy d' ((Y d' m).du j) x):iy d' (some m) (.aa rows)
theorem eK.flat{m:Option Nat}{N:Nat->Prop}(h:eK t w X m x v N):iy t m x->eK t w X' m x v N:=by
 induction h with
 |ed x v N h c=>intro a;cases a with|ed _ a=>exact .ed _ _ _ (h.flat a) c
 |nil m N c=>intro _;exact .nil _ _ c
 |own m d b k n B N o p q r l A s y c z=>
  intro a;cases a with
  |own _ _ a=>exact .own m d b k n B N o p q r l (λi j e x u ay a2 a3=>z i j e x u ay a2 a3 (a i j e x ay a2)) s y c
theorem qD{m:Nat}{k:Type}{f:k->List T}(h: ∀(y:k) (j:Nat) x,(f y)[j]? =some x->iy t ((Y t m).du j) x)(l:List k): ∀(i j:Nat) a x,(List.map f l)[i]? =some a->a[j]? =some x->iy t ((Y t m).du j) x:=λi j a x b c=>by obtain⟨y,_,rfl⟩:=fU.1 (bB b);exact h y j x c
def Gi:E->Prop
 | .arr _ _ _ a=>SI a
 | .aw c m _ a d=>d=[]/\ ∀(i j:Nat) b x,a[i]? =some b->b[j]? =some x->iy c ((Y c m).du j) x
 |_=>False
inductive jC (er:List E):V->V->Prop where
 |t (x:T):jC er (.t x) (.t x)
 |arr (id:Nat) (ty:TypeId) (gen size:Nat) (rows:List (List T)) (n:Nat) (h:er[id]? =some (.arr ty gen size rows)) (cj:n=rows.length):jC er (.aM id gen size 0 n) (.t (.aa rows))
 |aw (id:Nat) (d':List de) (m gen size:Nat) (rows:List (List T)) (n:Nat) (h:er[id]? =some (.aw d' m gen rows [])) (da:size=(Y d' m).size) (cj:n=rows.length):jC er (.aM id gen size 0 n) (.t (.aa rows))
 |agg (cs oj:List V) (cc:cs.length=oj.length) (h: ∀(i:Nat) c rX,cs[i]? =some c->oj[i]? =some rX->jC er c rX):jC er (.agg cs) (.agg oj)
def mn(a:List E):List V->List V->Prop
 | [],[]=>True
 |v::c,d::b=>jC a v d/\mn a c b
 |_,_=>False
theorem mn.get: ∀{e b:List V},mn a e b->e.length=b.length/\ ∀(i:Nat) c d,e[i]? =some c->b[i]? =some d->jC a c d
 | [],[],_=>⟨rfl,λi c d h _=>by simp at h⟩
 |v::e,m::b,h=>⟨by simp[h.2.get.1],λi c d k l=>by
  match i with
  |0=>simp at k l;subst k;subst l;exact h.1
  |i+1=>exact h.2.get.2 i c d (by simpa using k) (by simpa using l)⟩
 | [],_::_,h=>h.elim
 |_::_,[],h=>h.elim
theorem jC.mk{c b:List V}(h:mn a c b):jC a (.agg c) (.agg b):= .agg _ _ h.get.1 h.get.2
theorem EA{c:List E}(p:mo G c W w X){gen size:Nat}{a:List (List T)}
  (B:aQ W w (fO X W (dx c 0)) (.aM k gen size 0 a.length) u)
  (H:(W k=some (none,gen)/\a=[])\/ ∃(b:Nat) (m:Array Value),W k=some (some b,gen)/\(∃ty,w.heap[b]? =some (.cells m ty (0,0)))/\a.length*size<=m.size/\(∀d,d∈a->d.length=size)/\
   ∀(i j:Nat) (d:List T) (x:T) (y:Value),a[i]? =some d->d[j]? =some x->m[i*size+j]? =some y->b8 w X x y):b8 w X (.aa a) u:=by
 rcases H with ⟨r,rfl⟩|⟨b,m,r,⟨ty,K⟩,t,C,L⟩
 ·rcases eh B r with ⟨_,_,_,_,_,h,_⟩|⟨_,_,_,rfl⟩
  ·cases h
  exact .eI _ _
 rcases eh B r with ⟨s,I,n,Q,rfl,h,R,_,_,f,_⟩|⟨h,_⟩
 ·cases h;have l: ∀i j,i<a.length->j<size-> ∃y,m[i*size+j]? =some y:=λi j p D=>by
   have:(i+1)*size<=a.length*size:=dn _ p;rw[dM] at this;exact⟨_,fW (O:i*size+j<m.size)⟩
  have g:=b8.aa (w:=w) (X:=X) a b (0*size) size s (λi j=>m.getD (i*size+j) undef) R (p.place k b (.inl ⟨_,r⟩)).2.1 f C (λi j p D=>?_) λi j d x v F=>?_
  ·exact g
  ·obtain⟨y,q⟩:=l i j p D;have o:=(gn.1 q).1
   have:0*size+i*size+j=i*size+j:=O
   rw[this];simp[World.cell?,K,o]
  have z:=(bt.1 v).1;have A:j<size:=by rw[<-C d (bB v)];exact(bt.1 F).1
  obtain⟨y,q⟩:=l i j z A;have o:=(gn.1 q).1;have e:m.getD (i*size+j) undef=y:=by rw[<-(gn.1 q).2];simp[o]
  show b8 w X x (m.getD (i*size+j) undef);rw[e];exact L i j d x y v F q
 cases h
theorem jC.tp(q:mo G a W w X){v d:V}(Q:jC a v d): ∀{u:Value},aQ W w (fO X W (dx a 0)) v u->aQ ez w X d u:=by
 induction Q with
 |t x=>intro u h;cases h with|t _ _ h=>exact .t _ _ (h.mono (Ext.refl _ _) λb _ h=> .inl h)
 |arr id ty gen r s n h D=>
  intro u e;subst D;have k:=q.heap id _ h;refine .t _ _ (EA q e ?_);rcases k.2 with ⟨l,o⟩|⟨b,z,l,o,F,H,K⟩
  ·exact .inl ⟨l,o⟩
  exact .inr ⟨b,z,l,⟨_,o⟩,F,H,λi j p x y ay a2 a3=>(K i j p x y ay a2 a3).mono (Ext.refl _ _) λb _ h=> .inl h⟩
 |aw id S m gen r s n h R D=>
  intro u e;subst D;subst R;have k:=q.heap id _ h;refine .t _ _ (EA q e ?_);rcases k.2 with ⟨l,o,_⟩|⟨b,z,B,l,o,F,H,K,T,U,f⟩
  ·exact .inl ⟨l,o⟩
  exact .inr ⟨b,z,l,⟨_,o⟩,F,H,λi j p x y ay a2 a3=>(K i j p x y ay a2 a3).none.q4 (λb h=> .inl h) λc C=>(q.place id c (.inr ((f c).2 ⟨i,j,C⟩))).2.1⟩
 |agg cs g I _ M=>
  intro u e;cases e with
  |agg _ z Y N=>
   refine .agg _ z O λi P u C e=>?_;have L:i<cs.length:=by rw[I];exact(bt.1 C).1
   have A:=bg L;exact M i _ P A C (N i _ u A e)
theorem mn.H4{G:ee}{a:List E}{W:Map}{w:World}{X:Nat->Prop}(c:mo G a W w X): ∀{d b:List V} {e:List Value},mn a d b->cF W w (fO X W (dx a 0)) d e->cF ez w X b e
 | [],[],[],_,_=>trivial
 |_::_,_::_,_::_,i,h=>⟨i.1.tp c h.1,mn.H4 c i.2 h.2⟩
 | [],_::_,_,h,_=>h.elim
 |_::_,[],_,h,_=>h.elim
 | [],[],_::_,_,h=>h.elim
 |_::_,_::_,[],_,h=>h.elim
def Map.cat(n:Nat)(c a:Map):Map:=⟨λk=>bif Nat.blt k n then c k else a (k-n),λk b=>(k<n/\c.n k b)\/(n<=k/\a.n (k-n) b)⟩
theorem uJ{V:Map}(h:k<n):V.cat n W k=V k:=by show(bif Nat.blt k n then V k else W (k-n))=V k;rw[show Nat.blt k n=true from by simpa[Nat.blt_eq] using h];rfl
theorem rK{V:Map}(h:n<=k):V.cat n W k=W (k-n):=by
 show(bif Nat.blt k n then V k else W (k-n))=W (k-n)
 have:Nat.blt k n=false:=by
  cases a:Nat.blt k n with
  |false=>rfl
  |true=>
   have:k<n:=by simpa[Nat.blt_eq] using a
   omega
 rw[this];rfl
theorem uK{V:Map}{b:Nat}(h:At (V.cat n W) k b):(k<n/\At V k b)\/(n<=k/\At W (k-n) b):=by
 rcases h with ⟨g,h⟩|h|h
 ·by_cases a:k<n
  ·rw[uJ a] at h;exact .inl ⟨a,.inl ⟨g,h⟩⟩
  rw[rK O] at h;exact .inr ⟨O,.inl ⟨g,h⟩⟩
 ·exact .inl ⟨h.1,.inr h.2⟩
 exact .inr ⟨h.1,.inr h.2⟩
theorem QT{l:List E}{args D:List V}{r:V}(h:gM P G f [] D r l)(M:mn a args D)(bH:uN r=true)(dE: ∀e,e∈l->Gi e):
  gM P G f a args (r.c6 (List.range' a.length l.length)) (a++l):=by
 refine⟨h.1,λw X o N iD e7 K hu=>?_⟩;have lU: ∀b,fO X ez (dx [] 0) b->X b:=by
  rintro b (h|⟨_,_,h⟩)
  ·exact h
  exact(l2 h).elim
 have S:mo G [] ez w X:=⟨λ_ _=>rfl,λ_ _ _ h=>h,λ_ _ _ h=>(l2 h).elim,λ_ _ h=>(l2 h).elim,λk e h=>by simp at h⟩
 refine(h.2 w X ez N iD e7 S ((M.H4 K hu).mono (Ext.refl _ _) (λb _=>lU b) (cJ.refl _) (Shaped.refl _ _))).mono ?_;rintro e w' ⟨u,i,d,rfl,_,L⟩;have p:Ext (λ_=>False) w w':=L.ext.weaken λb _ ⟨k,z⟩=>l2 z;have C: ∀k b,At d k b->w.heap.size<=b:=λk b z=>by
  rcases(L.fresh k b z).1 with ⟨bz,s,_⟩|s
  ·exact a6 s (lz _)
  exact s
 have GR: ∀k b,At o k b->k<a.length:=by
  rintro k b (⟨g,h⟩|h)
  ·apply ly;intro A;rw[K.cU k A] at h;cases h
  exact ly λA=>K.dt k b A h
 have T: ∀b,b<w.heap.size->fO X (o.cat a.length d) (dx (a++l) 0) b->fO X o (dx a 0) b:=by
  rintro b Q (I|⟨k,s,v⟩)
  ·exact .inl I
  rcases uK v with ⟨W,t⟩|⟨_,t⟩
  ·refine .inr ⟨k,?_,t⟩;rw[qB,bg W];simp
  have:=C _ _ t;omega
 have U:cJ o (o.cat a.length d):=λk q g cH=>by
  have:k<a.length:=ly λA=>by rw[K.cU k A] at cH;cases cH
  exact .inl (by rw[uJ this];exact cH)
 refine⟨u,(),o.cat a.length d,rfl,trivial,?_⟩;refine⟨p.weaken λb _ h=>h.elim,λid hid=> .inl (uJ hid),λb M=>ow (p.keep b M λh=>h),λk z=>?_,λk b z cj=>?_,?_,?_,?_,?_⟩
 ·rw[dq] at z;rw[rK O];exact L.cU _ (O:l.length<=_)
 ·rw[dq] at z;rcases cj with h|h
  ·omega
  exact L.dt _ b (O:l.length<=_) h.2
 ·intro id Y b s v;rcases uK s with ⟨ay,a2⟩|⟨ay,a2⟩<;>rcases uK v with ⟨cD,b0⟩|⟨cD,b0⟩
  ·exact K.inj id Y b a2 b0
  ·have:=(K.place id b a2).1;have:=C _ _ b0;omega
  ·have:=(K.place Y b b0).1;have:=C _ _ a2;omega
  have:=L.inj _ _ b a2 b0;omega
 ·intro k b z;rcases uK z with ⟨s,v⟩|⟨_,v⟩
  ·exact⟨.inl ⟨k,s,v⟩,iP (K.place k b v).1 p.size⟩
  exact⟨.inr (C _ _ v),(L.fresh _ b v).2⟩
 ·intro k e z;by_cases Q:k<a.length
  ·rw[gI Q] at z;refine(K.heap k e z).mono (p.weaken λb _ h=>h.elim) T U (λx I=>by rw[uJ Q];exact I) (lN p) (λb M=>p.keep b (K.place k b M).1 λh=>h) λb=>⟨λh=>?_,λh=> .inl ⟨Q,h⟩⟩
   rcases h with h|h
   ·exact h.2
   omega
  rw[gH O] at z;have R:=L.heap _ e z;have F:=dE e (bB z);cases e with
  |cells cs=>exact F.elim
  |aw d' m gen rows hs=>
   obtain⟨rfl,F⟩:=F;refine⟨R.1,?_⟩;have e1:o.cat a.length d k=d (k-a.length):=rK O;have e2: ∀c,(o.cat a.length d).n k c↔d.n (k-a.length) c:=λc=>⟨λh=>by
    rcases h with ⟨h,_⟩|⟨_,h⟩
    ·omega
    exact h,λh=> .inr ⟨O,h⟩⟩
   rcases R.2 with ⟨s,v,W⟩|⟨b,N,B,s,v,W,t,h5,h6,ig,hN⟩
   ·exact .inl ⟨by rw[e1];exact s,v,λc bj=>W c ((e2 c).1 bj)⟩
   exact .inr ⟨b,N,B,by rw[e1];exact s,v,W,t,λi j H x u ay a2 a3=>Cell.of ((h5 i j H x u ay a2 a3).none.flat (F i j H x ay a2)),h6,ig,λc=>(e2 c).trans (hN c)⟩
  |arr ty gen size rows=>
   refine⟨R.1,?_⟩;have e1:o.cat a.length d k=d (k-a.length):=rK O;rcases R.2 with ⟨s,v⟩|⟨b,N,s,v,W,t,h5⟩
   ·exact .inl ⟨by rw[e1];exact s,v⟩
   exact .inr ⟨b,N,by rw[e1];exact s,v,W,t,λi j H x y ay a2 a3=>(h5 i j H x y ay a2 a3).flat (F H (bB ay) x (bB a2))⟩
 have s:=aQ.c6 (β':=o.cat a.length d) (L:=List.range' a.length l.length) (L.res.flat (X':=fO X (o.cat a.length d) (dx (a++l) 0)) bH) λk x I=>?_
 ·exact s
 have z:k<l.length:=ly λA=>by
  have Hq:d k=some x:=I;rw[L.cU k A] at Hq;cases Hq
 have:(List.range' a.length l.length).getD k 0=a.length+k:=by
  rw[eP,List.getElem?_range' O];simp
 rw[this,rK O];rw[show a.length+k-a.length=k by omega];exact I
theorem hE.ec{args:List V}{r:V}(h:hE P G f args r):gM P G f [] args r []:=by
 refine⟨h.1,λw X a us n i c o=>?_⟩;have p: ∀k b,¬At a k b:=by
  rintro k b (⟨g,h⟩|h)
  ·rw[c.cU k (Nat.zero_le _)] at h;cases h
  exact c.dt k b (Nat.zero_le _) h
 have s: ∀b,fO X a (dx [] 0) b->b<w.heap.size:=by
  rintro b (h|⟨k,h,_⟩)
  ·exact i b h
  simp[dx,j0] at h
 have v: ∀(d:List V) (us:List Value),cF a w (fO X a (dx [] 0)) d us->cF ez w X d us:=λd us h=>
  h.mono (Ext.refl _ _) (λb _ h=> .inl h) (λid q g l=>by rw[c.cU id (Nat.zero_le _)] at l;cases l) (Shaped.refl _ _)
 refine(h.2 w X us n i (v _ _ o)).mono ?_;rintro e z ⟨u,rfl,m,x⟩;refine⟨u,(),ez,rfl,trivial,m.weaken λb _ h=>h.elim,λid hid=>a6 hid (lz _),λb y=>ow (m.keep b y λh=>h),λ_ _=>rfl,λ_ _ _ h=>h,λ_ _ _ h=>(l2 h).elim,λ_ _ h=>(l2 h).elim,λk e h=>by simp at h,?_⟩;refine x.mono (Ext.refl _ _) (λb _ h=>?_) (cJ.refl _) (Shaped.refl _ _);rcases h with h|⟨k,h,_⟩
 ·exact h
 simp[dx,j0] at h
end
section
theorem dY{a:List (List T)}{i:Nat}{b:List T}(h:a[i]? =some b)(r:List T):(a.set i r)[i]? =some r:=
 hU (bt.1 h).1
theorem fo(c:List (List T))(i:Nat)(a b:List T):(c.set i a).set i b=c.set i b:=List.set_set ..
variable {i:Int}{k:Type}{l r:List k}{x:k}{q:List T}
theorem S8(f:k->List T)(h:cR l i x=some r)(e:f x=q):(l.map f).set (0+i.toNat) q=r.map f:=by subst e;exact(str f h).symm
theorem jE{a:List T}(f:k->List T)(h:cR l i x=some r)(e:f x=q):((l.map f).set (0+i.toNat) a).set (0+i.toNat) q=r.map f:=by rw[List.set_set];exact S8 f h e
theorem ih{a b:List k}{u:Unit}(f:k->List T)(h:eo a b=some u):(a.map f).length=(b.map f).length:=by
 unfold eo at h;split at h
 ·rename_i e;simp[e]
 cases h
end
section
variable {K:Ctx}{C:db}
def hW:Option (cg×List cQ)->cg
 |some r=>r.1
 |none=>⟨[],[],[]⟩
def ib(r:cg×List cQ):Prop×List Nat×Bool:=(ta r.2,qO r.2,true)
def ic(a:Prop)(r:cg×List cQ):Prop×List Nat×Bool:=(a,qP r.2,true)
def eD(x:Option (cg×List cQ))(n:Prop×List Nat×Bool)(f:cg×List cQ->Prop×List Nat×Bool):Prop×List Nat×Bool:=match x with
 |some r=>f r
 |none=>n
variable {P:Prop}{i:Nat}{l:List Oper}{s:S}{Q:Exit->S->Prop}
theorem zJ{x:Option (cg×List cQ)}(b:P)(h:eD x (False,[],false) ib=eD x (True,[],true) (ic P)): ∃a,x=some (hW x,a)/\bS a:=by
 cases x with
 |none=>simp[eD] at h
 |some r=>
  obtain⟨e,a⟩:=r;simp only[eD,ib,ic,Prod.mk.injEq] at h;obtain⟨c,d,_⟩:=h;exact⟨a,rfl,bS.of (c▸b) d⟩
theorem wJ(c:C.Fits K)(a:List bV)(b:P)
  (h:eD (gy C l.toArray l a s) (False,[],false) ib=eD (gy C l.toArray l a s) (True,[],true) (ic P)) (d:Q .normal ((hW (gy C l.toArray l a s)).app s)):b5 K (.region i l.toArray false) s Q:=by obtain⟨m,e,k⟩:=zJ b h;exact JY _ (FK c e k (Og (S.le.refl K _))) d
theorem Wh(k:C.Fits K)(m:K.P.follows .mixedOrders=true)(b:List bV){p:Prop}(c:p)
  (h:eD (ja C l b s) (False,[],false) ib=eD (ja C l b s) (True,[],true) (ic p)) (n:Q .normal ((hW (ja C l b s)).app s)):b5 K (.region i l.toArray true) s Q:=by
 obtain⟨B,a,o⟩:=zJ c h;generalize hW (ja C l b s)=e at*;unfold ja at a;split at a
 ·cases a
 rename_i D q r v;split at a
 ·cases a
 rename_i w x y;split at a
 ·rename_i d;cases a;simp only[Bool.and_eq_true] at d;obtain⟨z,A⟩:=bS.app o;refine qy (nb k v z) (Fs (s2:=_) (El w m d.1 d.2 (zi k y A ?_)) n);rw[ky];exact S.le.refl K _
 cases a
theorem vO(d:C.Fits K)(a:List bV)(c:P)
  (h:eD (eY C a s) (False,[],false) ib=eD (eY C a s) (True,[],true) (ic P)):s.le K ((hW (eY C a s)).app s):=by
 obtain⟨l,b,i⟩:=zJ c h;generalize hW (eY C a s)=e at*;unfold eY at b;split at b
 ·rename_i k;cases b;exact nb d k i
 cases b
end
section
variable {K:Ctx}{C:db}
variable {i:Nat}{l:List Oper}{s:S}{Q:Exit->S->Prop}{y c:Code}{P:Prop}
theorem aN(a:C.Fits K)(A:List e9)(b:Q .normal ((hW (gy C l.toArray l (gJ A) s)).app s))
  (h:eD (gy C l.toArray l (gJ A) s) (False,[],false) ib=eD (gy C l.toArray l (gJ A) s) (True,[],true) (ic (mm A)):=by kernel_rfl):b5 K (.region i l.toArray false) s Q:=wJ a (gJ A) (nQ A) h b
theorem ae(a:C.Fits K)(A:List e9)(b:b5 K y ((hW (gy C l.toArray l (gJ A) s)).app s) Q)
  (h:eD (gy C l.toArray l (gJ A) s) (False,[],false) ib=eD (gy C l.toArray l (gJ A) s) (True,[],true) (ic (mm A)):=by kernel_rfl):b5 K (.seq (.region i l.toArray false) y) s Q:=ub (wJ a (gJ A) (nQ A) h b)
theorem be(a:C.Fits K)(b:Q .normal ((hW (gy C l.toArray l [] s)).app s))
  (h:eD (gy C l.toArray l [] s) (False,[],false) ib=eD (gy C l.toArray l [] s) (True,[],true) (ic True):=by kernel_rfl):b5 K (.region i l.toArray false) s Q:=wJ a [] trivial h b
theorem ad(a:C.Fits K)(b:b5 K y ((hW (gy C l.toArray l [] s)).app s) Q)
  (h:eD (gy C l.toArray l [] s) (False,[],false) ib=eD (gy C l.toArray l [] s) (True,[],true) (ic True):=by kernel_rfl):b5 K (.seq (.region i l.toArray false) y) s Q:=ub (wJ a [] trivial h b)
theorem bM(a:C.Fits K)(b:K.P.follows .mixedOrders=true)(A:List e9)(c:Q .normal ((hW (ja C l (gJ A) s)).app s))
  (h:eD (ja C l (gJ A) s) (False,[],false) ib=eD (ja C l (gJ A) s) (True,[],true) (ic (mm A)):=by kernel_rfl):b5 K (.region i l.toArray true) s Q:=Wh a b (gJ A) (nQ A) h c
theorem ve(b:C.Fits K)(a:List bV)(h:eD (eY C a s) (False,[],false) ib=eD (eY C a s) (True,[],true) (ic True):=by kernel_rfl):s.le K ((hW (eY C a s)).app s):=vO b a trivial h
theorem TM(c:C.Fits K)(a:List bV)(b:P)(h:eD (eY C a s) (False,[],false) ib=eD (eY C a s) (True,[],true) (ic P):=by kernel_rfl):s.le K ((hW (eY C a s)).app s):=vO c a b h
theorem bm(b:C.Fits K)(a:List bV)(k:b5 K c ((hW (eY C a s)).app s) Q)(h:eD (eY C a s) (False,[],false) ib=eD (eY C a s) (True,[],true) (ic True):=by kernel_rfl):b5 K c s Q:=qy (vO b a trivial h) k
theorem dN(d:C.Fits K)(a:List bV)(b:P)(k:b5 K c ((hW (eY C a s)).app s) Q)(h:eD (eY C a s) (False,[],false) ib=eD (eY C a s) (True,[],true) (ic P):=by kernel_rfl):b5 K c s Q:=qy (vO d a b h) k
theorem eV(c:C.Fits K)(a b:Nat)(k:Q .ret ((hW (eY C [.c6 a b 0] s)).app s):=by exact r4)
  (h:eD (eY C [.c6 a b 0] s) (False,[],false) ib=eD (eY C [.c6 a b 0] s) (True,[],true) (ic True):=by kernel_rfl):b5 K .ret s Q:=oZ (ve c [.c6 a b 0] h) (qr k)
end
def sR(s t:List UInt8):Option Bool:=if s.length<4294967281 then some (Lib.contains s t) else none
def ho(l:List Int):Option (List Int):=if l.length<=1000000000 then some l else none
def cmpL:List Int->List Int->Int
 | [],[]=>0
 | [],_::_=> -1
 |_::_,[]=>1
 |x::a,y::b=>if x<y then-1 else if y<x then 1 else cmpL a b
def d7(a:List (List Int)):List (List Int):=a.mergeSort λx y=> !decide (cmpL y x<0)
def j2(a:List (List Int)):Option (List (List Int)):=if a.length<=1000000000/\ ∀l∈a,l.length<=1000000000 then some (d7 a) else none
def dj(a:Nat->Bool)(m:Nat):List Nat:=(List.range m).filter a
def iA(a:List (List Int))(j:Nat):Bool:=decide (j=0\/a.getD j []≠a.getD (j-1) [])
def fi(a:List (List Int)):List (List Int):=(dj (iA a) a.length).map λj=>a.getD j []
def vZ:List Int->List Int->Nat
 |_,[]=>0
 |seen,c::t=>(if c∈seen then 0 else 1)+vZ (c::seen) t
end Go.Lift
