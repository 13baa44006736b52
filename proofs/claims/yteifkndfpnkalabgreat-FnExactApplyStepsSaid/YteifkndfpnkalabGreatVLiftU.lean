/- Tools. -/
import Derived.Test.YteifkndfpnkalabGreatVLiftTV
namespace Go.Lift
open Go
open Option renaming some -> aa, none -> ak, map_some -> gP
open Bool renaming true -> ab, false -> al, and_eq_true -> cB
open Decidable renaming decide -> aj
open Go.Builtin renaming zeroCells -> eh
open List renaming replicate -> dh
open Nat renaming beq -> b8, blt -> dn, ble -> dA
section
inductive FC where
 |bool
 |int (k:IntKind)
 |string
 |slice (e:Nat)
 |array (n e:Nat)
 |struct (aln:List (Nat×Nat))
 |Sd
 |other
structure ct where
 u:FC
 z:Value
 size:Nat
 bytes:Nat
 places:Array (Nat×Nat)
def FC.agg:FC->Bool
 | .struct _=>ab
 | .array _ _=>ab
 |_=>al
def ct.is(P:Program)(i:ct)(u:TypeDesc):Prop:=match i.u with
 | .bool=>u= .bool
 | .int k=>u= .int k
 | .string=>u= .string
 | .slice e=>u= .slice e
 | .array n e=>u= .array n e
 | .struct l=> ∃a,u= .struct a/\a.toList.map (λf=>(f.type,f.offset))=l/\ ∀w,(a.mapM (m:=Sem) λf:Field=>do pure (f.offset,<-sizeOf f.type)).run P w= .ok i.places w
 | .Sd=> ∃m,u= .interface m
 | .other=>kF u=al
def ct.ok(P:Program)(t:TypeId)(i:ct):Prop:= ∃u,cn P t u i.z i.size i.bytes/\i.is P u
variable {P:Program}{t:TypeId}{i:ct}{a b n:Int}{k R:Type}{x:k}{r l:List k}
theorem ct.ok.agg(h:i.ok P t): ∃u,cn P t u i.z i.size i.bytes/\kF u=i.u.agg:=by
 obtain⟨u,d,b⟩:=h;refine⟨u,d,?_⟩;unfold ct.is at b;split at b
 ·rename_i a;rw[a,b];rfl
 ·rename_i a;rw[a,b];rfl
 ·rename_i a;rw[a,b];rfl
 ·rename_i a;rw[a,b];rfl
 ·rename_i a;rw[a,b];rfl
 ·rename_i a;rw[a];obtain⟨e,c,_⟩:=b;rw[c];rfl
 ·rename_i a;rw[a];obtain⟨m,c⟩:=b;rw[c];rfl
 rename_i a;rw[a,b];rfl
theorem ct.ok.iC(h:i.ok P t):(i.u= .bool->P.underlying t=aa .bool)/\(∀k,i.u= .int k->P.underlying t=aa (.int k))/\(i.u= .string->P.underlying t=aa .string)/\
  ∀e,i.u= .slice e->P.underlying t=aa (.slice e):=by obtain⟨u,c,b⟩:=h;refine⟨λa=>?_,λk a=>?_,λa=>?_,λe a=>?_⟩<;>simp only[ct.is,a] at b<;>rw[<-b]<;>exact c.1
theorem ct.ok.st{l:List (Nat×Nat)}(h:i.ok P t)(b:i.u= .struct l): ∃a,cn P t (.struct a) i.z i.size i.bytes/\a.toList.map (λf=>(f.type,f.offset))=l/\ ∀w,(a.mapM (m:=Sem) λf:Field=>do pure (f.offset,<-sizeOf f.type)).run P w= .ok i.places w:=by
 obtain⟨u,d,c⟩:=h;simp only[ct.is,b] at c
 grind
def dC:List (Nat×ct)->Nat->Option ct
 | [],_=>ak
 |(t,i)::l,k=>bif b8 t k then aa i else dC l k
def ed(P:Program)(a:List (Nat×ct)):Prop:= ∀t i,dC a t=aa i->i.ok P t
theorem ed.nil:ed P []:=λ_ _ h=>by cases h
theorem ed.cons{a:List (Nat×ct)}{t:Nat}(h:i.ok P t)(d:ed P a):ed P ((t,i)::a):=by
 intro k j b;simp only[dC] at b;cases c:b8 t k with
 |true=>rw[c] at b;cases b;rw[<-dc c];exact h
 |false=>rw[c] at b;exact d k j b
inductive cG where
 |row (r:List T)
 |rows (r:List (List T))
 |str (s:List UInt8)
 |int (n:Int)
 |nat (n:Nat)
 |b (w:Bool)
 |y (b:UInt8)
 |v (v:V)
 |grow (slot k:Nat) (e:TypeId)
 |De (b j k:Nat)
 |ch (b j k:Nat) (e:TypeId)
 |len (slot n:Nat)
 |eY (b j n:Nat)
 |sM (k:Nat) (dz:List Nat)
 |bT (k:Nat) (dz blocks:List Nat)
 |bp (k cD:Nat) (dz blocks:List Nat)
 |at (rem:Nat)
 |dB (L news:List Nat) (r:V) (out:List E)
 |b1 (k:Nat) (Γ:List dw) (m:Nat)
 |ec (k:Nat)
 |cZ (k cD i j:Nat) (row:List T)
 |cr (k cD:Nat) (row:List T) (R:List (List T))
 |lt (k:Nat) (Γ:List dw) (m:Nat)
 |eT (k i j:Nat) (row:List T)
 |fG (k:Nat) (row:List T) (R:List (List T))
 |Rc (i j k:Nat) (e:TypeId)
 |cut (k n:Nat) (R:List (List T))
inductive dH where
 |p (p:Prop)
 |q (a b:Nat)
def cH:List dH->Prop
 | []=>True
 | .p p::l=>p/\cH l
 | .q a b::l=>a=b/\cH l
def zc:List dH->Prop
 | []=>True
 | .p p::l=>p/\zc l
 | .q _ _::l=>zc l
def wy:List dH->List Nat
 | []=>[]
 | .p _::l=>wy l
 | .q a _::l=>a::wy l
def wz:List dH->List Nat
 | []=>[]
 | .p _::l=>wz l
 | .q _ b::l=>b::wz l
theorem cH.of: ∀{l:List dH},zc l->wy l=wz l->cH l
 | [],_,_=>trivial
 | .p _::_,h,k=>⟨h.1,cH.of h.2 k⟩
 | .q _ _::_,h,k=>by simp only[wy,wz,List.cons.injEq] at k;exact⟨k.1,cH.of h k.2⟩
theorem cH.app: ∀{l m:List dH},cH (l++m)->cH l/\cH m
 | [],_,h=>⟨trivial,h⟩
 | .p _::_,_,h=>⟨⟨h.1,(cH.app h.2).1⟩,(cH.app h.2).2⟩
 | .q _ _::_,_,h=>⟨⟨h.1,(cH.app h.2).1⟩,(cH.app h.2).2⟩
def aB{α:Type}(l:List α)(i:Int):Option α:=if 0<=i then l[i.toNat]? else ak
def sub{k:Type}(l:List k)(a b:Int):Option (List k):=if 0<=a/\a<=b/\b<=l.length then aa ((l.take b.toNat).drop a.toNat) else ak
def cat(a b:List UInt8):Option (List UInt8):=if(a.length:Int)+b.length<=9223372036854775807 then aa (a++b) else ak
def app{k:Type}(a b:List k):Option (List k):=if a.length+b.length<=1000000000 then aa (a++b) else ak
def mk{k:Type}(n:Int)(x:k):Option (List k):=if 0<=n/\n<=1000000000 then aa (dh n.toNat x) else ak
def cd{k:Type}(l:List k)(i:Int)(x:k):Option (List k):=if 0<=i/\i<l.length then aa (l.set i.toNat x) else ak
def wr(n:Int):Int:=IntKind.i64.wrap n
theorem kc{i:Int}(h:aB l i=aa x):0<=i/\l[i.toNat]? =aa x:=by
 unfold aB at h
 grind
theorem P2{i:Int}(f:k->R)(h:aB l i=aa x):aB (l.map f) i=aa (f x):=by
 obtain⟨a,b⟩:=kc h;unfold aB
 grind
theorem Bz(h:sub l a b=aa r):0<=a/\a<=b/\b<=l.length/\r=(l.take b.toNat).drop a.toNat:=by
 unfold sub at h
 grind
theorem uw(f:k->R)(h:sub l a b=aa r):sub (l.map f) a b=aa (r.map f):=by obtain⟨c,d,e,rfl⟩:=Bz h;unfold sub;rw[bg ⟨c,d,by simpa using e⟩,List.map_drop,p6]
theorem xi{a b:List k}(h:app a b=aa r):a.length+b.length<=1000000000/\r=a++b:=by
 unfold app at h
 grind
theorem cU{a b:List k}(f:k->R)(h:app a b=aa r):app (a.map f) (b.map f)=aa (r.map f):=by
 obtain⟨c,rfl⟩:=xi h;unfold app
 grind
theorem jE(h:mk n x=aa r):0<=n/\n<=1000000000/\r=dh n.toNat x:=by
 unfold mk at h
 grind
theorem lo(f:k->R)(h:mk n x=aa r):mk n (f x)=aa (r.map f):=by obtain⟨a,b,rfl⟩:=jE h;unfold mk;rw[bg ⟨a,b⟩,List.map_replicate]
theorem tL{i:Int}(h:cd l i x=aa r):0<=i/\i<l.length/\r=l.set i.toNat x:=by
 unfold cd at h
 grind
theorem acK{a b r:List UInt8}(h:cat a b=aa r):(a.length:Int)+b.length<=9223372036854775807/\r=a++b:=by
 unfold cat at h
 grind
mutual
def nM:V->V
 | .t .fp=> .t (.bG [])
 | .agg cs=> .agg (hr cs)
 | .bY cs=> .bY (hr cs)
 | .t (.bG r)=> .t (.bG r)
 | .t (.int k n)=> .t (.int k n)
 | .t (.bool b)=> .t (.bool b)
 | .t (.str s)=> .t (.str s)
 |v=>v
def hr:List V->List V
 | []=>[]
 |c::cs=>nM c::hr cs
end
mutual
theorem uI: ∀v:V,dI v (nM v)
 | .t .fp=>dI.nil
 | .t (.bG _)| .t (.int _ _)| .t (.bool _)| .t (.str _)| .t .gZ| .t .gm| .t .l1| .t .err=>dI.refl _
 | .agg cs=>dI.agg (mX cs)
 | .bY cs=>dI.bY (mX cs)
 | .ref _ _| .aU _| .bf _ _ _ _ _| .cQ _ _ _ _ _| .fn _ _| .c'=>dI.refl _
theorem mX: ∀cs:List V,fH cs (hr cs)
 | []=>trivial
 |c::cs=>⟨uI c,mX cs⟩
end
theorem tD: ∀cs:List V,(hr cs).length=cs.length
 | []=>rfl
 |c::cs=>by simp[hr,tD cs]
def qA(k:Option Nat):List V->List V
 | [.t .fp]=>match k with
  |some _=>[.t .fp]
  |none=>hr [.t .fp]
 |vs=>hr vs
theorem OQ(k:Option Nat)(a:List V):fH a (qA k a):=by
 unfold qA;split
 ·split
  ·exact fH.refl _
  exact mX _
 exact mX _
theorem L1(k:Option Nat)(a:List V):(qA k a).length=a.length:=by
 unfold qA;split
 ·split
  ·rfl
  exact tD _
 exact tD _
def zE:V->Option T
 | .t x=>aa x
 |_=>ak
def k5:List V->Option (List T)
 | []=>aa []
 |v::a=>match zE v,k5 a with
  |some x,aa b=>aa (x::b)
  |_,_=>ak
theorem oX: ∀{a:List V} {b:List T},k5 a=aa b->a=b.map .t
 | [],_,h=>by cases h;rfl
 |v::a,b,h=>by
  simp only[k5] at h;split at h
  ·rename_i x e d c;cases h;have c:=oX c;cases v<;>simp[zE] at d;subst d;subst c;rfl
  cases h
def x4:List V->Option (List Int)
 | []=>aa []
 | .t (.int .i64 m)::a=>match x4 a with
  |some ms=>aa (m::ms)
  |none=>ak
 |_=>ak
theorem Ab: ∀{a:List V} {ms:List Int},x4 a=aa ms->a=ms.map Y
 | [],_,h=>by cases h;rfl
 |v::a,ms,h=>by
  unfold x4 at h;split at h
  ·rename_i b;cases b
  ·rename_i m c b;cases b;split at h
   ·rename_i d e;cases h;rw[Ab e];rfl
   cases h
  cases h
abbrev hZ:=Option (V×List dH×List cG)
def QJ(a:BinOp)(m n:Int):Option Bool:=
 match a with
 | .eql=>aa (aj (m=n))
 | .neq=>aa (!decide (m=n))
 | .lss=>aa (aj (m<n))
 | .leq=>aa (aj (m<=n))
 | .gtr=>aa (aj (n<m))
 | .geq=>aa (aj (n<=m))
 |_=>ak
def Qp(a:BinOp):Bool:=
 match a with
 | .and| .or| .xor| .andNot=>ab
 |_=>al
def IE(op:BinOp)(k:IntKind)(m n:Int)(a:List cG):hZ:=
 match op with
 | .add=>aa (.t (.int k (k.wrap (m+n))),[],a)
 | .sub=>aa (.t (.int k (k.wrap (m-n))),[],a)
 | .mul=>aa (.t (.int k (k.wrap (m*n))),[],a)
 | .quo=>aa (.t (.int k (k.wrap (m.tdiv n))),[.p (n≠0)],a)
 | .rem=>aa (.t (.int k (m.tmod n)),[.p (n≠0)],a)
 | .and=>aa (.t (.int k (bits .and k m n)),[],a)
 | .or=>aa (.t (.int k (bits .or k m n)),[],a)
 | .xor=>aa (.t (.int k (bits .xor k m n)),[],a)
 | .andNot=>aa (.t (.int k (bits .andNot k m n)),[],a)
 | .shl| .shr=>ak
 |op=>match QJ op m n with
  |some b=>aa (.t (.bool b),[],a)
  |none=>ak
def Iz(b:BinOp)(m n:List UInt8)(a:List cG):hZ:=
 match b,a with
 | .add,.str r::a=>aa (.t (.str r),[.p (cat m n=aa r)],a)
 | .eql,a=>aa (.t (.bool (aj (m=n))),[],a)
 | .neq,a=>aa (.t (.bool (!decide (m=n))),[],a)
 | .geq,a=>aa (.t (.bool (!Op.bytesLess m n)),[],a)
 | .lss,a=>aa (.t (.bool (Op.bytesLess m n)),[],a)
 | .gtr,a=>aa (.t (.bool (!Op.bytesLess m n&& !m==n)),[],a)
 | .leq,a=>aa (.t (.bool (Op.bytesLess m n||m==n)),[],a)
 |_,_=>ak
def Ih:Option ct->Bool
 |some i=>match i.u with
  | .bool=>ab
  |_=>al
 |none=>al
def IJ(P:Program)(e:List (Nat×ct))(d:BinOp)(t:TypeId)(v w:V)(a:List cG):hZ:=
 match v,w with
 | .t (.int k m),.t (.int h n)=>if k=h then IE d k m n a else ak
 | .t (.str m),.t (.str n)=>Iz d m n a
 | .t (.bool p),.t (.bool q)=>match Ih (dC e t),d with
  |true,.eql=>aa (.t (.bool (p==q)),[],a)
  |true,.neq=>aa (.t (.bool (!(p==q))),[],a)
  |_,_=>ak
 | .agg cs,.agg i=>match x4 cs,x4 i,d,a with
  |some ms,aa c,.eql,.b b::a=>aa (.t (.bool b),[.p (Bi P t ms.length),.q c.length ms.length,.p (aj (ms=c)=b)],a)
  |some ms,aa c,.neq,.b b::a=>aa (.t (.bool (!b)),[.p (Bi P t ms.length),.q c.length ms.length,.p (aj (ms=c)=b)],a)
  |_,_,_,_=>ak
 |_,_=>ak
def It:Option ct->Bool
 |some i=>match i.u with
  | .Sd=>ab
  |_=>al
 |none=>al
def pI:Operand->Bool
 | .const _=>ab
 |_=>al
def IF(b:List (Nat×ct))(c:BinOp)(t:TypeId)(x y:Operand)(v w:V)(a:List cG):hZ:=
 match It (dC b t),pI x||pI y,v,w,c with
 |true,ab,.t .err,.t .gm,.eql=>aa (.t (.bool al),[],a)
 |true,ab,.t .err,.t .gm,.neq=>aa (.t (.bool ab),[],a)
 |true,ab,.t .gm,.t .gm,.eql=>aa (.t (.bool ab),[],a)
 |true,ab,.t .gm,.t .gm,.neq=>aa (.t (.bool al),[],a)
 |_,_,_,_,_=>ak
def IP(c:UnOp)(v:V)(a:List cG):hZ:=
 match c,v with
 | .not,.t (.bool b)=>aa (.t (.bool (!b)),[],a)
 | .neg,.t (.int k n)=>aa (.t (.int k (k.wrap (0-n))),[],a)
 |_,_=>ak
def G3(a:List (Nat×ct)):Option ct->Bool
 |some i=>match i.u with
  | .slice e=>match dC a e with
   |some j=>match j.u with
    | .int .u8=>ab
    |_=>al
   |none=>al
  |_=>al
 |none=>al
def H7(c:List (Nat×ct))(d e:TypeId)(v:V)(a:List cG):hZ:=
 match dC c d,dC c e with
 |some i,aa j=>match j.u,v,a with
  | .int h,.t (.int _ n),.int m::a=>aa (.t (.int h m),[.p (h.wrap n=m)],a)
  | .int .u8,.t (.int _ n),.y m::a=>aa (.t (.int .u8 (m.toNat:Nat)),[.p (UInt8.ofInt n=m)],a)
  | .string,.t (.bG b),.str l::a=>match G3 c (aa i) with
   |true=>aa (.t (.str l),[.p (b=l.map t8)],a)
   |false=>ak
  |_,_,_=>ak
 |_,_=>ak
def uP(m:List (Nat×ct))(H:Nat->Option E)(t:TypeId)(v:V)(e:List cG):hZ:=
 match dC m t with
 |none=>ak
 |some i=>match v with
  | .ref id a=>match H id with
   |some (.cells cs)=>match i.u.agg with
    |true=>match dA (a+i.size) cs.length with
     |true=>aa (.agg ((cs.drop a).take i.size),[],e)
     |false=>ak
    |false=>match cs[a]? with
     |some c=>aa (c,[],e)
     |none=>ak
   |_=>ak
  | .aU cs=>match i.u.agg with
   |true=>match dA i.size cs.length with
    |true=>aa (.agg ((cs.take i.size).map .t),[],e)
    |false=>ak
   |false=>match cs with
    |c::_=>aa (.t c,[],e)
    | []=>ak
  | .cQ id gen l k a=>match H id,i.u.agg,e with
   |some (.arr _ b h d),al,.row r::e=>match r[a]? with
    |some c=>aa (.t c,[.q b gen,.q h l,.p (d[k]? =aa r)],e)
    |none=>ak
   |some (.arr _ b h d),ab,.row r::e=>match dA (a+i.size) r.length with
    |true=>aa (.agg (((r.drop a).take i.size).map .t),[.q b gen,.q h l,.p (d[k]? =aa r)],e)
    |false=>ak
   |_,_,_=>ak
  |_=>ak
def sl(j:Nat):List (Nat×Nat×V)->Option (Nat×V)
 | []=>ak
 |h::a=>bif b8 h.2.1 j then aa (h.1,h.2.2) else sl j a
def sg(a:List (Nat×Nat×V)):Nat->Nat->Option (List (Nat×V))
 |_,0=>aa []
 |j,n+1=>match sl j a,sg a (j+1) n with
  |some x,aa l=>aa (x::l)
  |_,_=>ak
def sq(k:Nat):List (Nat×V)->List dH
 | []=>[]
 |x::l=> .q x.1 k::sq k l
def qB(i j:Nat):List (Nat×Nat×V)->List dH
 | []=>[]
 |h::a=>bif b8 h.2.1 j then .p (i≠h.1)::qB i j a else qB i j a
theorem uC{i j:Nat}: ∀{b:List (Nat×Nat×V)},cH (qB i j b)-> ∀v,(i,j,v)∉b
 | [],_,_,h=>by cases h
 |h::b,a,v,hm=>by
  unfold qB at a;cases c:b8 h.2.1 j with
  |true=>
   rw[c] at a;rcases eg.1 hm with rfl|hm
   ·exact a.1 rfl
   exact uC a.2 v hm
  |false=>
   rw[c] at a;rcases eg.1 hm with rfl|hm
   ·simp at c
   exact uC a v hm
def Hm(x:List (Nat×ct))(H:Nat->Option E)(t:TypeId)(v:V)(e:List cG):hZ:=
 match dC x t,v,e with
 |some i,.cQ id gen n k a,.row r::e=>match H id with
  |some (.aC h m b d o)=>match i.u.agg with
   |false=>match r[a]?,sl a o with
    |some c,ak=>match (U h m).eb a with
     |none=>aa (.t c,[.q b gen,.q (U h m).size n,.p (d[k]? =aa r)],e)
     |some _=>ak
    |some _,aa (s,w)=>aa (w,[.q b gen,.q (U h m).size n,.p (d[k]? =aa r),.q s k],e)
    |none,_=>ak
   |true=>match dA (a+i.size) r.length,sg o a i.size with
    |true,aa l=>aa (.agg (l.map (·.2)),.q b gen:: .q (U h m).size n:: .p (d[k]? =aa r)::sq k l,e)
    |_,_=>ak
  |_=>ak
 |some i,.cQ id gen n k a,.int q:: .row r::e=>match H id with
  |some (.aC h m b d o)=>match i.u.agg,r[a]?,o[q.toNat]? with
   |false,aa _,aa (s,y,w)=>aa (w,[.q b gen,.q (U h m).size n,.p (d[k]? =aa r),.q s k,.q y a],e)
   |true,_,_=>match dA (a+i.size) r.length,sg (o.drop q.toNat) a i.size with
    |true,aa l=>aa (.agg (l.map (·.2)),.q b gen:: .q (U h m).size n:: .p (d[k]? =aa r)::sq k l,e)
    |_,_=>ak
   |_,_,_=>ak
  |_=>ak
 |some i,.cQ id gen n k a,.nat _:: .row r::e=>match H id with
  |some (.aC h m b d o)=>match i.u.agg,r[a]?,(U h m).eb a with
   |false,aa c,ak=>aa (.t c,.q b gen:: .q (U h m).size n:: .p (d[k]? =aa r)::qB k a o,e)
   |_,_,_=>ak
  |_=>ak
 |_,_,_=>ak
def IH(d:List (Nat×ct))(t:TypeId)(k:Nat)(v:V)(e:List cG):hZ:=
 match dC d t with
 |none=>ak
 |some i=>match i.u with
  | .struct h=>match h[k]? with
   |none=>ak
   |some a=>match dC d a.1 with
    |none=>ak
    |some j=>match v with
     | .agg b=>match j.u.agg with
      |true=>match dA (a.2+j.size) b.length with
       |true=>aa (.agg ((b.drop a.2).take j.size),[],e)
       |false=>ak
      |false=>match b[a.2]? with
       |some c=>aa (c,[],e)
       |none=>ak
     |_=>ak
  |_=>ak
def HG(l:List (Nat×ct))(H:Nat->Option E)(t:TypeId)(k:Nat)(v:V)(d:List cG):hZ:=
 match dC l t with
 |none=>ak
 |some i=>match i.u with
  | .struct m=>match m[k]? with
   |none=>ak
   |some a=>match dC l a.1 with
    |none=>ak
    |some j=>match b8 j.size 0 with
     |true=>ak
     |false=>match v with
      | .ref id c=>aa (.ref id (c+a.2),[],d)
      | .aU cs=>aa (.aU (cs.drop a.2),[],d)
      | .cQ id gen e n c=>match H id with
       |some (.arr _ b h _)=>aa (.cQ id gen e n (c+a.2),[.q b gen,.q h e],d)
       |some (.aC _ _ b _ _)=>aa (.cQ id gen e n (c+a.2),[.q b gen],d)
       |_=>ak
      |_=>ak
  |_=>ak
def IG(l:List (Nat×ct))(H:Nat->Option E)(t:TypeId)(v w:V)(d:List cG):hZ:=
 match dC l t with
 |none=>ak
 |some i=>match i.u with
  | .slice e=>match dC l e with
   |none=>ak
   |some j=>match v,w with
    | .t (.bG h),.t (.int .i64 n)=>match d with
     | .row r::d=>match b8 r.length j.size with
      |true=>aa (.aU r,[.p (aB h n=aa r)],d)
      |false=>ak
     |_=>ak
    | .bf id gen a c len,.t (.int .i64 n)=>match H id,b8 a j.size with
     |some (.arr _ b o _),ab=>aa (.cQ id gen a (c+n.toNat) 0,[.q b gen,.q o a,.p (0<=n/\n<(len:Int))],d)
     |some (.aC _ _ b _ _),ab=>aa (.cQ id gen a (c+n.toNat) 0,[.q b gen,.p (0<=n/\n<(len:Int))],d)
     |_,_=>ak
    |_,_=>ak
  | .array m e=>match dC l e with
   |none=>ak
   |some j=>match v,w,d with
    | .ref id c,.t (.int .i64 n),.nat k::d=>match dA (k+1) m with
     |true=>aa (.ref id (c+k*j.size),[.p (n=(k:Int))],d)
     |false=>ak
    |_,_,_=>ak
  |_=>ak
def x3:Option ct->Bool
 |some i=>match i.u with
  | .string=>ab
  |_=>al
 |none=>al
def yb:Option ct->Bool
 |some i=>match i.u with
  | .slice _=>ab
  |_=>al
 |none=>al
def IA(d:List (Nat×ct))(e:BinOp)(t:TypeId)(v w:V)(c:List cG):hZ:=
 match yb (dC d t),v,w,e,c with
 |true,.t (.bG a),.t .fp,.eql,.b al::c=>aa (.t (.bool al),[.p (a≠[])],c)
 |_,_,_,_,_=>ak
def HE(c:List (Nat×ct))(t:TypeId)(v w:V)(a:List cG):hZ:=
 match x3 (dC c t),v,w,a with
 |true,.t (.str l),.t (.int .i64 n),.y b::a=>aa (.t (.int .u8 (b.toNat:Nat)),[.p (aB l n=aa b)],a)
 |_,_,_,_=>ak
def sn(d e:Option Operand)(c:Nat)(h:List V):Option (Int×Int):=
 match d,e,h with
 |some _,aa _,[.t (.int .i64 a),.t (.int .i64 b)]=>aa (a,b)
 |some _,ak,[.t (.int .i64 a)]=>aa (a,(c:Int))
 |none,aa _,[.t (.int .i64 b)]=>aa (0,b)
 |_,_,_=>ak
def Hl(n:List (Nat×ct))(H:Nat->Option E)(t:TypeId)(x y:Option Operand)(s:List V)(h:List cG):hZ:=
 match s with
 | .t (.str l)::w=>match x3 (dC n t),sn x y l.length w,h with
  |true,aa (a,b),.str r::h=>aa (.t (.str r),[.p (sub l a b=aa r)],h)
  |_,_,_=>ak
 | .t (.bG d)::w=>match dC n t with
  |none=>ak
  |some i=>match i.u with
   | .slice e=>match dC n e,sn x y d.length w,h with
    |some j,aa (a,b),.rows r::h=>aa (.t (.bG r),[.p (sub d a b=aa r),.p (Rows j.size d)],h)
    |_,_,_=>ak
   |_=>ak
 | .bf id gen c k len::w=>match dC n t,(H id).bind E.gen? with
  |some i,aa B=>match i.u with
   | .slice e=>match dC n e,sn x y len w,h with
    |some j,aa (a,b),.nat o:: .nat m::h=>aa (.bf id gen c o m,[.q B gen,.q c j.size,.p (0<=a/\a<=b/\b<=len/\(a=0\/a<len)/\o=k+a.toNat/\m=b.toNat-a.toNat)],h)
    |some _,aa (a,b),.int 0::h=>aa (.t (.bG []),[.q B gen,.p (0<=a/\a=b/\b<=len)],h)
    |some j,aa (a,b),.int 1:: .nat o:: .nat m::h=>match H id with
     |some (.arr _ z A d)=>aa (.bf id gen c o m,[.q z gen,.q A c,.q c j.size,.p (0<c/\0<=a/\a<b/\k+b<=d.length/\o=k+a.toNat/\m=b.toNat-a.toNat)],h)
     |some (.aC C D z d _)=>aa (.bf id gen c o m,[.q z gen,.q (U C D).size c,.q c j.size,.p (0<c/\0<=a/\a<b/\k+b<=d.length/\o=k+a.toNat/\m=b.toNat-a.toNat)],h)
     |_=>ak
    |_,_,_=>ak
   |_=>ak
  |_,_=>ak
 |_=>ak
def G0(h:List (Nat×ct))(H:Nat->Option E)(t:TypeId)(d:List V)(k:List cG):hZ:=
 match d with
 | [.bf id gen _ _ len,.t (.int .i64 a),.t (.int .i64 b),.t (.int .i64 c)]=>match dC h t,(H id).bind E.gen? with
  |some i,aa l=>match i.u with
   | .slice e=>match dC h e with
    |some _=>aa (.c',[.q l gen,.p (0<=a/\a<=b/\b<=c/\c<=len)],k)
    |none=>ak
   |_=>ak
  |_,_=>ak
 |_=>ak
def H8(k:List (Nat×ct))(t:TypeId)(d:List V)(h:List cG):hZ:=
 match d,h with
 | [.t (.bG a),.t (.int .i64 b),.t (.int .i64 c)],.rows r::h=>match dC k t with
  |some i=>match i.u with
   | .slice e=>match dC k e with
    |some j=>aa (.t (.bG r),[.p (sub a 0 b=aa r/\c=b),.p (Rows j.size a)],h)
    |none=>ak
   |_=>ak
  |none=>ak
 |_,_=>ak
def ID(e:List (Nat×ct))(H:Nat->Option E)(t:TypeId)(v:V)(b:List cG):hZ:=
 match v,b with
 | .t (.str l),b=>match x3 (dC e t) with
  |true=>aa (.t (.int .i64 (l.length:Nat)),[],b)
  |false=>ak
 | .t (.bG c),.nat n::b=>match yb (dC e t) with
  |true=>aa (.t (.int .i64 (n:Nat)),[.p (c.length=n)],b)
  |false=>ak
 | .bf id gen d _ len,.nat n::b=>match H id,yb (dC e t) with
  |some (.arr _ a h _),ab=>aa (.t (.int .i64 (n:Nat)),[.q a gen,.q h d,.p (len=n)],b)
  |some (.aC _ _ a _ _),ab=>aa (.t (.int .i64 (n:Nat)),[.q a gen,.p (len=n)],b)
  |_,_=>ak
 |_,_=>ak
def Gl(h:List (Nat×ct))(H:Nat->Option E)(b:Builtin)(c:List TypeId)(i:List Operand)(a:List V)(d:List cG):hZ:=
 match b,c,i,a with
 | .len,[t],[_],[v]=>ID h H t v d
 | .max,_,[_,_],[.t (.int k m),.t (.int e n)]=>if k=e then aa (.t (.int k (max m n)),[],d) else ak
 | .min,_,[_,_],[.t (.int k m),.t (.int e n)]=>if k=e then aa (.t (.int k (min m n)),[],d) else ak
 |_,_,_,_=>ak
def IB(H:Nat->Option E)(v:V)(a:List cG):hZ:=
 match v with
 | .cQ id gen _ _ _=>match (H id).bind E.gen? with
  |some b=>aa (v,[.q b gen],a)
  |none=>ak
 | .ref _ _=>aa (v,[],a)
 | .aU _=>aa (v,[],a)
 | .fn _ _=>aa (v,[],a)
 |_=>ak
def HJ(c:List (Nat×ct))(t:TypeId)(b:List Nat)(a:List V)(d:List cG):hZ:=
 match dC c t with
 |none=>ak
 |some i=>match i.u with
  | .struct _=>match (d7 i.z).val,b8 b.length a.length,kl (i.places[·]?) (d7 i.z).cs (b.zip a) with
   |true,ab,aa cs=>aa (.agg cs,[],d)
   |_,_,_=>ak
  |_=>ak
def yu(P:Program)(h:List (Nat×ct))(H:Nat->Option E)(l:Op)(a:List V)(e:List cG):hZ:=
 match l with
 | .move _=>match a with
  | [v]=>aa (v,[],e)
  |_=>ak
 | .assign _=>match a with
  | [v]=>aa (v,[],e)
  |_=>ak
 | .pick _ _ _=>match a,e with
  | [.t (.bool b),v,w],.b c::e=>aa (bif c then v else w,[.p (b=c)],e)
  |_,_=>ak
 | .load t _=>match a with
  | [v]=>match uP h H t v e with
   |some r=>aa r
   |none=>Hm h H t v e
  |_=>ak
 | .nilCheck _=>match a with
  | [v]=>IB H v e
  |_=>ak
 | .binOp o t x y _=>match a with
  | [v,w]=>match IJ P h o t v w e with
   |some r=>aa r
   |none=>match IF h o t x y v w e with
    |some r=>aa r
    |none=>IA h o t v w e
  |_=>ak
 | .unOp o _ _=>match a with
  | [v]=>IP o v e
  |_=>ak
 | .convert s d _=>match a with
  | [v]=>H7 h s d v e
  |_=>ak
 | .makeFunc m first _=>match m,first.toList with
  | .func f,[]=>aa (.fn f a,[],e)
  |_,_=>ak
 | .slice t _ bq i hM=>match hM with
  |none=>Hl h H t bq i a e
  |some _=>match bq,i with
   |some _,aa _=>G0 h H t a e
   |none,aa _=>H8 h t a e
   |_,_=>ak
 | .fieldAddr t _ k=>match a with
  | [v]=>HG h H t k v e
  |_=>ak
 | .field t _ k=>match a with
  | [v]=>IH h t k v e
  |_=>ak
 | .indexAddr t _ _=>match a with
  | [v,w]=>IG h H t v w e
  |_=>ak
 | .index t _ _=>match a with
  | [v,w]=>HE h t v w e
  |_=>ak
 | .extract _ k=>match a with
  | [.bY n]=>match n[k]? with
   |some v=>aa (v,[],e)
   |none=>ak
  |_=>ak
 | .build t q=>HJ h t (q.toList.map (·.1)) a e
 | .call c=>match c.callee with
  | .builtin b=>Gl h H b c.argTypes.toList c.args.toList a e
  |_=>ak
 |_=>ak
end
section
variable {P:Program}{cE:List (Nat×ct)}{H:Nat->Option E}{d:Option Tmp}{ty:TypeId}{pos:String}{af:Array Edge}{g:Option (Nat×Bool)}
variable {t:TypeId}{u:TypeDesc}{z:Value}{size bytes:Nat}
theorem Cw(a:BinOp)(c:Qp a=ab)(x y:Operand)(t e:TypeId)(k:IntKind)(m n:Int):cw P H ⟨d,.binOp a t x y e,ty,pos,af,g⟩ [.t (.int k m),.t (.int k n)] (.t (.int k (bits a k m n))):=by
 intro h w X i _ b;refine⟨Value.int k (bits a k m n),?_,.t _ _ (.int k _)⟩;cases a<;>simp[Qp] at c<;>
  simp[execOp,dO b.1,dO b.2.1,eqGuard,binOp,intBits_and,intBits_or,intBits_xor,intBits_andNot]
theorem aeF(x y:Operand)(t b:TypeId)(m n:List UInt8):cw P H ⟨d,.binOp .lss t x y b,ty,pos,af,g⟩ [.t (.str m),.t (.str n)] (.t (.bool (Op.bytesLess m n))):=by intro c w X e _ a;refine⟨.bool (Op.bytesLess m n),?_,.t _ _ (.bool _)⟩;simp[execOp,hG a.1,hG a.2.1,eqGuard,binOp,Op.stringOp]
theorem aeH(x y:Operand)(t b:TypeId)(m n:List UInt8):cw P H ⟨d,.binOp .gtr t x y b,ty,pos,af,g⟩ [.t (.str m),.t (.str n)] (.t (.bool (!Op.bytesLess m n&& !m==n))):=by intro c w X e _ a;refine⟨.bool (!Op.bytesLess m n&& !m==n),?_,.t _ _ (.bool _)⟩;simp[execOp,hG a.1,hG a.2.1,eqGuard,binOp,Op.stringOp]
theorem aeG(x y:Operand)(t b:TypeId)(m n:List UInt8):cw P H ⟨d,.binOp .leq t x y b,ty,pos,af,g⟩ [.t (.str m),.t (.str n)] (.t (.bool (Op.bytesLess m n||m==n))):=by intro c w X e _ a;refine⟨.bool (Op.bytesLess m n||m==n),?_,.t _ _ (.bool _)⟩;simp[execOp,hG a.1,hG a.2.1,eqGuard,binOp,Op.stringOp]
theorem afS(x:Operand)(t:TypeId)(k:IntKind)(n:Int):cw P H ⟨d,.unOp .neg t x,ty,pos,af,g⟩ [.t (.int k n)] (.t (.int k (k.wrap (0-n)))):=by intro b w X c _ a;refine⟨.int k (k.wrap (0-n)),?_,.t _ _ (.int _ _)⟩;simp[execOp,dO a.1,Op.unary,Op.intArith]
theorem Xt(x:Operand)(f:FuncId)(a:List V):cw P H ⟨d,.nilCheck x,ty,pos,af,g⟩ [.fn f a] (.fn f a):=by intro e w X b _ h;have c:bB e w X (.fn f a) (b x):=h.1;refine⟨b x,?_,c⟩;generalize i:b x=y at c;cases c with|fn=>simp[execOp,i]
variable {a v:V}{x y:Operand}{e k:TypeId}{m c q:List dH}{n:Int}{i b l o:List cG}{G:Map}{w:World}{X:Nat->Prop}
theorem acU{a:BinOp}{t:TypeId}{k:IntKind}{m:Int}(h:IE a k m n i=aa (v,c,b))(l:cH c):
  cw P H ⟨d,.binOp a t x y e,ty,pos,af,g⟩ [.t (.int k m),.t (.int k n)] v:=by
 cases a<;>simp only[IE,QJ,Option.some.injEq,Prod.mk.injEq,reduceCtorEq] at h<;>obtain⟨rfl,rfl,rfl⟩:=h
 ·exact af2 _ _ _ _ _ _ _
 ·exact afN _ _ _ _ _ _ _
 ·exact afT _ _ _ _ _ _ _
 ·exact afP _ _ _ _ _ _ _ l.1
 ·exact afO _ _ _ _ _ _ _ l.1
 ·exact Cw .and rfl _ _ _ _ _ _ _
 ·exact Cw .or rfl _ _ _ _ _ _ _
 ·exact Cw .xor rfl _ _ _ _ _ _ _
 ·exact Cw .andNot rfl _ _ _ _ _ _ _
 ·exact af0 _ _ _ _ _ _ _
 ·exact afR _ _ _ _ _ _ _
 ·exact afW _ _ _ _ _ _ _
 ·exact afX _ _ _ _ _ _ _
 ·exact afY _ _ _ _ _ _ _
 exact afZ _ _ _ _ _ _ _
theorem ab5{a:BinOp}{t:TypeId}{m n:List UInt8}(h:Iz a m n i=aa (v,c,b))(k:cH c):
  cw P H ⟨d,.binOp a t x y e,ty,pos,af,g⟩ [.t (.str m),.t (.str n)] v:=by
 unfold Iz at h;split at h<;>cases h
 ·obtain⟨l,rfl⟩:=acK k.1;exact af1 _ _ _ _ _ _ l
 ·exact aeJ _ _ _ _ _ _
 ·exact aeE _ _ _ _ _ _
 ·exact aeI _ _ _ _ _ _
 ·exact aeF _ _ _ _ _ _
 ·exact aeH _ _ _ _ _ _
 exact aeG _ _ _ _ _ _
theorem Nn(a:ed P cE)(h:Ih (dC cE t)=ab):P.underlying t=aa .bool:=by
 unfold Ih at h;split at h
 ·rename_i i b;split at h
  ·rename_i c;exact(a _ _ b).iC.1 c
  cases h
 cases h
theorem Gg(a:ed P cE)(h:x3 (dC cE t)=ab):P.underlying t=aa .string:=by
 unfold x3 at h;split at h
 ·rename_i i b;split at h
  ·rename_i c;exact(a _ _ b).iC.2.2.1 c
  cases h
 cases h
theorem BR(a:ed P cE)(h:yb (dC cE t)=ab): ∃e,P.underlying t=aa (.slice e):=by
 unfold yb at h;split at h
 ·rename_i i b;split at h
  ·rename_i e c;exact⟨e,(a _ _ b).iC.2.2.2 e c⟩
  cases h
 cases h
theorem xg{u:Value}(h:bB G w X (.t .gm) u):u= .nilIface:=by cases h with|t _ _ h=>cases h with|gm=>rfl
theorem PA{u:Value}(h:bB G w X (.t .err) u): ∃t v,u= .iface t v:=by cases h with|t _ _ h=>cases h with|err t v=>exact⟨t,v,rfl⟩
theorem Vg(w:World)(n:Nat){ms}(a:TypeId)(b:Value)(c:P.underlying t=aa (.interface ms)):(Op.equalIn (n+1) t (.iface a b) .nilIface).run P w= .ok al w:=by simp[Op.equalIn,run_underlying c]
theorem UZ(w:World)(n:Nat){ms}(a:P.underlying t=aa (.interface ms)):(Op.equalIn (n+1) t .nilIface .nilIface).run P w= .ok ab w:=by simp[Op.equalIn,run_underlying a]
theorem M5(w:World){ms}(a:TypeId)(b:Value)(c:P.underlying t=aa (.interface ms)):(Op.equal t (.iface a b) .nilIface).run P w= .ok al w:=Vg w 9999 a b c
theorem Mn(w:World){ms}(a:P.underlying t=aa (.interface ms)):(Op.equal t .nilIface .nilIface).run P w= .ok ab w:=UZ w 9999 a
theorem aaa(a b):binOp .eql t (.iface a b) .nilIface=(do pure (.bool (<-Op.equal t (.iface a b) .nilIface))):=rfl
theorem Z'(a b):binOp .neq t (.iface a b) .nilIface=(do pure (.bool (!(<-Op.equal t (.iface a b) .nilIface)))):=rfl
theorem Z9:binOp .eql t .nilIface .nilIface=(do pure (.bool (<-Op.equal t .nilIface .nilIface))):=rfl
theorem Z8:binOp .neq t .nilIface .nilIface=(do pure (.bool (!(<-Op.equal t .nilIface .nilIface)))):=rfl
theorem M6(w:World)(o:BinOp)(x y:Operand)(a:(pI x||pI y)=ab):(eqGuard o t x y .nilIface .nilIface).run P w= .ok () w:=by cases x<;>cases y<;>simp[pI] at a<;>simp[eqGuard]<;>split<;>simp
theorem aeO(x y:Operand)(e:TypeId){ms}(h:P.underlying t=aa (.interface ms)):cw P H ⟨d,.binOp .eql t x y e,ty,pos,af,g⟩ [.t .err,.t .gm] (.t (.bool al)):=by intro k w X l _ c;obtain⟨a,b,i⟩:=PA c.1;refine⟨.bool al,?_,.t _ _ (.bool _)⟩;simp[execOp,i,xg c.2.1,eqGuard,aaa,M5 w a b h]
theorem aeN(x y:Operand)(e:TypeId){ms}(h:P.underlying t=aa (.interface ms)):cw P H ⟨d,.binOp .neq t x y e,ty,pos,af,g⟩ [.t .err,.t .gm] (.t (.bool ab)):=by intro k w X l _ c;obtain⟨a,b,i⟩:=PA c.1;refine⟨.bool ab,?_,.t _ _ (.bool _)⟩;simp[execOp,i,xg c.2.1,eqGuard,Z',M5 w a b h]
theorem aeL(x y:Operand)(b:TypeId){ms}(c:P.underlying t=aa (.interface ms))(e:(pI x||pI y)=ab):cw P H ⟨d,.binOp .eql t x y b,ty,pos,af,g⟩ [.t .gm,.t .gm] (.t (.bool ab)):=by intro h w X i _ a;refine⟨.bool ab,?_,.t _ _ (.bool _)⟩;simp[execOp,xg a.1,xg a.2.1,M6 w _ x y e,Z9,Mn w c]
theorem aeK(x y:Operand)(b:TypeId){ms}(c:P.underlying t=aa (.interface ms))(e:(pI x||pI y)=ab):cw P H ⟨d,.binOp .neq t x y b,ty,pos,af,g⟩ [.t .gm,.t .gm] (.t (.bool al)):=by intro h w X i _ a;refine⟨.bool al,?_,.t _ _ (.bool _)⟩;simp[execOp,xg a.1,xg a.2.1,M6 w _ x y e,Z8,Mn w c]
theorem BS{a:List (Nat×ct)}(c:ed P a)(h:It (dC a t)=ab): ∃ms,P.underlying t=aa (.interface ms):=by
 unfold It at h;split at h
 ·rename_i i e;split at h
  ·rename_i k;obtain⟨u,l,b⟩:=c _ _ e;simp only[ct.is,k] at b;obtain⟨m,rfl⟩:=b;exact⟨m,l.1⟩
  cases h
 cases h
theorem acV{c:List (Nat×ct)}(q:ed P c){e:BinOp}{b:V}(h:IF c e t x y a b l=aa (v,m,i)):
  cw P H ⟨d,.binOp e t x y k,ty,pos,af,g⟩ [a,b] v:=by
 unfold IF at h;split at h
 ·rename_i n p;obtain⟨ms,o⟩:=BS q n;cases h;exact aeO _ _ _ o
 ·rename_i n p;obtain⟨ms,o⟩:=BS q n;cases h;exact aeN _ _ _ o
 ·rename_i n p;obtain⟨ms,o⟩:=BS q n;cases h;exact aeL _ _ _ o p
 ·rename_i n p;obtain⟨ms,o⟩:=BS q n;cases h;exact aeK _ _ _ o p
 cases h
theorem Vu(w:World)(n:Nat){e}(a:Addr)(l c:Nat)(b:P.underlying t=aa (.slice e)):(Op.equalIn (n+1) t (.slice (aa a) l c) (.slice ak 0 0)).run P w= .ok al w:=by simp[Op.equalIn,run_underlying b]
theorem acI(w:World){e}(a:Addr)(l c:Nat)(b:P.underlying t=aa (.slice e)):(Op.equal t (.slice (aa a) l c) (.slice ak 0 0)).run P w= .ok al w:=Vu w 9999 a l c b
theorem acL(a:Addr)(l c:Nat):binOp .eql t (.slice (aa a) l c) (.slice ak 0 0)=(do pure (.bool (<-Op.equal t (.slice (aa a) l c) (.slice ak 0 0)))):=rfl
theorem adB(x y:Operand)(n:TypeId)(i:List (List T)){e}(o:P.underlying t=aa (.slice e))(p:i≠[]):cw P H ⟨d,.binOp .eql t x y n,ty,pos,af,g⟩ [.t (.bG i),.t .fp] (.t (.bool al)):=by
 intro C w X k _ m;obtain⟨a,l,c,q⟩: ∃a l c,k x= .slice (aa a) l c:=by
  cases m.1 with|t _ _ h=>
  generalize r:k x=u at h;cases h with
  |gh=>exact br rfl p
  |bG _ b s size A f=>exact⟨_,_,_,rfl⟩
 have B:k y= .slice ak 0 0:=by
  cases m.2.1 with|t _ _ h=>
  generalize r:k y=u at h;cases h;rfl
 refine⟨.bool al,?_,.t _ _ (.bool _)⟩;simp[execOp,q,B,eqGuard,acL,acI w a l c o]
theorem acQ{c:List (Nat×ct)}(p:ed P c){k:BinOp}{l:TypeId}{b:V}{n:List cG}(h:IA c k t a b n=aa (v,m,i))(o:cH m):
  cw P H ⟨d,.binOp k t x y l,ty,pos,af,g⟩ [a,b] v:=by
 unfold IA at h;split at h
 ·rename_i q;obtain⟨e,r⟩:=BR p q;cases h;exact adB _ _ _ _ r o.1
 cases h
theorem Xw(x y:Operand)(e n c a k:Nat){u:TypeDesc}{z:Value}{i L:Nat}(l:P.underlying t=aa (.array n e))(m:cn P e u z i L)(q:k<n):
  cw P H ⟨d,.indexAddr t x y,ty,pos,af,g⟩ [.ref c a,.t (.int .i64 (k:Int))] (.ref c (a+k*i)):=by
 intro r w X s A h;have cR:=dO h.2.1;obtain⟨b,o,p⟩:=r1 h.1;refine⟨.pointer (aa ⟨b,a+k*i,ak⟩),?_,.ref _ _ _ o⟩;simp[execOp,p,cR,Instr.indexAt,asIntOf,run_underlying l,m.run_sizeOf,jC,Instr.sureAddr]
 grind
theorem ac1(A:ed P cE){e:BinOp}{t:TypeId}{b:V}(h:IJ P cE e t a b i=aa (v,c,l))(m:cH c):
  cw P H ⟨d,.binOp e t x y k,ty,pos,af,g⟩ [a,b] v:=by
 unfold IJ at h;split at h
 ·split at h
  ·rename_i B;subst B;exact acU h m
  cases h
 ·exact ab5 h m
 ·split at h
  ·rename_i n;cases h;exact aeQ _ _ _ _ _ (Nn A n)
  ·rename_i n;cases h;exact aeP _ _ _ _ _ (Nn A n)
  cases h
 ·split at h
  ·rename_i ms o b i p q;cases h;obtain⟨r,s,w,_⟩:=m;rw[Ab p,Ab q,<-w];exact abN _ _ _ _ ms o r bl (by simp[s])
  ·rename_i ms o b i p q;cases h;obtain⟨r,s,w,_⟩:=m;rw[Ab p,Ab q,<-w];exact aay _ _ _ _ ms o r bl (by simp[s])
  cases h
 cases h
theorem adW{c:UnOp}(h:IP c a i=aa (v,m,b)):
  cw P H ⟨d,.unOp c t x,ty,pos,af,g⟩ [a] v:=by
 unfold IP at h;split at h<;>cases h
 ·exact afQ _ _ _
 exact afS _ _ _ _
theorem XW(c:ed P cE){i:ct}(k:dC cE t=aa i)(h:G3 cE (aa i)=ab): ∃e,P.underlying t=aa (.slice e)/\P.underlying e=aa (.int .u8):=by
 unfold G3 at h;split at h
 ·rename_i n a;cases a;split at h
  ·rename_i e l;split at h
   ·rename_i j m;split at h
    ·rename_i b;exact⟨e,(c _ _ k).iC.2.2.2 e l,(c _ _ m).iC.2.1 _ b⟩
    cases h
   cases h
  cases h
 cases h
theorem aaL(w:ed P cE){c b:TypeId}{p:List cG}(h:H7 cE c b a o=aa (v,q,p))(r:cH q):
  cw P H ⟨d,.convert c b x,ty,pos,af,g⟩ [a] v:=by
 unfold H7 at h;split at h
 ·rename_i i j C D;split at h
  ·rename_i G k n m o y;cases h;obtain⟨F,s,_⟩:=w _ _ C;have A:G.wrap n=m:=r.1;rw[<-A];exact PR _ _ _ _ _ F _ s.1 ((w _ _ D).iC.2.1 _ y)
  ·rename_i k n m o y;cases h;have A:UInt8.ofInt n=m:=r.1;rw[<-A];obtain⟨F,s,_⟩:=w _ _ C
   have:=PR (P:=P) (H:=H) (d:=d) (ty:=ty) (pos:=pos) (af:=af) (g:=g) x c b k .u8 F n s.1 ((w _ _ D).iC.2.1 _ y);rw[adF] at this;exact this
  ·rename_i B l o y;split at h
   ·rename_i K;cases h;have A:B=l.map t8:=r.1;obtain⟨e,L,Q⟩:=XW w C K;rw[A];exact Xg _ _ _ _ _ L Q ((w _ _ D).iC.2.2.1 y)
   cases h
  cases h
 cases h
theorem W'(x:Operand)(r gen i a:Nat)(s:TypeId)(sz:Nat)(k:List (List T))(e:List T)(L:cn P t u z size bytes)(Q:kF u=ab)(D:H r=aa (.arr s gen sz k))(o:k[i]? =aa e)(V:a+size<=e.length):
  cw P H ⟨d,.load t x,ty,pos,af,g⟩ [.cQ r gen sz i a] (.agg (((e.drop a).take size).map .t)):=by
 intro Y w X ρ F R;obtain⟨q,G⟩:=l3 (F r _ D);obtain⟨b,y,W⟩:=pR R.1 G;subst y;have bA:=G;rcases(F r _ D).2 with ⟨A,B⟩|⟨h7,C,A,B,h3,f,I⟩
 ·rw[B] at o;simp at o
 rw[bA] at A;cases A;have M:i<k.length:=(d0.1 o).1;have N:e.length=sz:=f e (bX o);have p: ∀j,j<size->i*sz+a+j<C.size:=by
  intro j n
  have:(i+1)*sz<=k.length*sz:=dQ _ M;rw[dN] at this;omega
 have l: ∀j,j<size->w.cell? ⟨b,i*sz+a+j,ak⟩=aa (C.getD (i*sz+a+j) undef):=λj n=>by
  have:=p j n;simp[World.cell?,B,this]
 refine⟨_,by simp[execOp,W,Instr.loadAt,Instr.sureAddr,L.D4 w Q l];rfl,?_⟩;refine .agg _ _ ca λj c v h K=>?_;have n:j<size:=by
  have:=(d0.1 h).1;simp at this;omega
 rw[eG,List.getElem?_take_of_lt n,fv] at h;simp only[List.getElem?_toArray,List.getElem?_map,List.getElem?_range n,gP,Option.some.injEq] at K;cases m:e[a+j]? with
 |none=>rw[m] at h;simp at h
 |some S=>
  rw[m] at h;simp at h;rw[<-h]
  have:=p j n;have U:=I i (a+j) e S C[i*sz+a+j] o m (by rw[<-nU];simp[this]);rw[<-K];simp only[Array.getElem?_eq_getElem this,Option.getD_some];exact .t _ _ U
theorem M4(F:ed P cE)(h:uP cE H t a b=aa (v,m,l))(s:cH m):
  cw P H ⟨d,.load t x,ty,pos,af,g⟩ [a] v:=by
 unfold uP at h;split at h
 ·cases h
 rename_i i G;obtain⟨K,p,e⟩:=(F _ _ G).agg;split at h
 ·rename_i id A;split at h
  ·rename_i cs q;split at h
   ·rename_i n;split at h
    ·rename_i o;cases h;exact adC _ _ _ _ p (e.trans n) q o
    cases h
   rename_i n;split at h
   ·rename_i c B;cases h;exact adD _ _ _ _ _ p (e.trans n) q B
   cases h
  cases h
 ·rename_i cs;split at h
  ·rename_i n;split at h
   ·rename_i o;cases h;exact Zd _ _ p (e.trans n) (fb o)
   cases h
  rename_i n;split at h
  ·cases h;exact Ze _ _ _ p (e.trans n)
  cases h
 ·rename_i id gen L k A;split at h
  ·rename_i w C y r b q n;split at h
   ·rename_i c B;cases h;obtain⟨rfl,rfl,D,_⟩:=s;exact Xa _ _ _ _ _ _ _ _ _ _ p (e.trans n) q D B
   cases h
  ·rename_i w C y r b q n;split at h
   ·rename_i o;cases h;obtain⟨rfl,rfl,D,_⟩:=s;exact W' _ _ _ _ _ _ _ _ _ p (e.trans n) q D (fb o)
   cases h
  cases h
 cases h
theorem Mw{j:Nat}: ∀{b:List (Nat×Nat×V)},sl j b=ak-> ∀i v,(i,j,v)∉b
 | [],_,_,_,h=>by cases h
 |h::b,a,i,v,hm=>by
  simp only[sl] at a;cases c:b8 h.2.1 j with
  |true=>rw[c] at a;cases a
  |false=>
   rw[c] at a;rcases eg.1 hm with rfl|hm
   ·simp at c
   exact Mw a i v hm
theorem FO{j:Nat}{x:Nat×V}: ∀{b:List (Nat×Nat×V)},sl j b=aa x->(x.1,j,x.2)∈b
 |h::b,a=>by
  simp only[sl] at a;cases c:b8 h.2.1 j with
  |true=>
   rw[c] at a;cases a
   have:=dc c;subst this;exact fi
  |false=>rw[c] at a;exact eW _ (FO a)
theorem Ae{S:List (Nat×Nat×V)}{k:Nat}: ∀{n j:Nat} {l:List (Nat×V)},sg S j n=aa l->cH (sq k l)->l.length=n/\ ∀i v,(l.map (·.2))[i]? =aa v->(k,j+i,v)∈S
 |0,_,_,h,_=>by cases h;exact⟨rfl,λi v h=>by simp at h⟩
 |n+1,j,l,h,a=>by
  simp only[sg] at h;split at h
  ·rename_i x o c m;cases h;simp only[sq] at a;obtain⟨e,a⟩:=a;obtain⟨aP,a2⟩:=Ae m a;refine⟨by simp[aP],λi v b=>?_⟩;cases i with
   |zero=>
    simp at b;subst b
    have:=FO c;rw[e] at this;exact this
   |succ i=>
    have:=a2 i v (by simpa using b)
    rwa [show j+1+i=j+(i+1) by omega] at this
  cases h
theorem ZW(R:ed P cE){Q W:List cG}{N:List dH}(h:Hm cE H t a Q=aa (v,N,W))(n:cH N):
  cw P H ⟨d,.load t x,ty,pos,af,g⟩ [a] v:=by
 unfold Hm at h;split at h
 ·rename_i i id gen S k G r Q K;obtain⟨T,w,e⟩:=(R _ _ K).agg;split at h
  ·rename_i y m A b L B;split at h
   ·rename_i s;split at h
    ·rename_i c C D;split at h
     ·rename_i X;cases h;obtain⟨rfl,o,p,_⟩:=n;exact ED _ _ _ _ _ y m _ b L r c _ w (e.trans s) B o p C (.inr ⟨λv=>Mw D _ _,X,rfl⟩)
     cases h
    ·rename_i c U Y C D;cases h;obtain⟨rfl,o,p,rfl,_⟩:=n;exact ED _ _ _ _ _ y m _ b _ r c _ w (e.trans s) B o p C (.inl (FO D))
    cases h
   rename_i s;split at h
   ·rename_i l f D;cases h;obtain⟨rfl,o,p,F⟩:=n;obtain⟨I,M⟩:=Ae D F;exact LC _ _ _ _ _ y m _ b L r _ w (e.trans s) B o p (fb f) (by simp[I]) M
   cases h
  cases h
 ·rename_i i id gen S k G q r Q K;obtain⟨T,w,e⟩:=(R _ _ K).agg;split at h
  ·rename_i y m A b L B;split at h
   ·rename_i c U ey Y s C F;cases h;obtain⟨rfl,o,p,rfl,rfl,_⟩:=n;exact ED _ _ _ _ _ y m _ b _ r c _ w (e.trans s) B o p C (.inl (bX F))
   ·rename_i s;split at h
    ·rename_i l f D;cases h;obtain⟨rfl,o,p,F⟩:=n;obtain⟨I,M⟩:=Ae D F;exact LC _ _ _ _ _ y m _ b L r _ w (e.trans s) B o p (fb f) (by simp[I]) λj v bR=>ft (M j v bR)
    cases h
   cases h
  cases h
 ·rename_i i id gen S k G q r Q K;obtain⟨T,w,e⟩:=(R _ _ K).agg;split at h
  ·rename_i y m A b L B;split at h
   ·rename_i c s C X;cases h;obtain⟨rfl,o,p,F⟩:=n;exact ED _ _ _ _ _ y m _ b _ r c _ w (e.trans s) B o p C (.inr ⟨uC F,X,rfl⟩)
   cases h
  cases h
 cases h
theorem ZY(B:ed P cE){k:Nat}(h:HG cE H t k a l=aa (v,c,b))(q:cH c):
  cw P H ⟨d,.fieldAddr t x k,ty,pos,af,g⟩ [a] v:=by
 unfold HG at h;split at h
 ·cases h
 rename_i i F;split at h
 ·rename_i Q G;obtain⟨r,w,y,_⟩:=(B _ _ F).st G;have s:P.underlying t=aa (.struct r):=w.1;split at h
  ·cases h
  rename_i C m;rw[<-y,eG] at m;cases p:r[k]? with
  |none=>rw[ng,p] at m;cases m
  |some K=>
  rw[ng,p] at m;simp only[gP,Option.some.injEq] at m;subst m;split at h
  ·cases h
  rename_i j L;obtain⟨R,n,_⟩:=B _ _ L;split at h
  ·cases h
  rename_i D;have o:(j.size==0)=al:=by
   rw[beq_eq_false_iff_ne];intro e;rw[e] at D;cases D
  split at h
  ·cases h;exact Xx _ _ _ _ _ _ _ _ _ _ _ s p rfl n o
  ·cases h;exact Zh _ _ _ _ _ _ _ _ _ _ s p rfl n o
  ·split at h
   ·rename_i A;cases h;obtain⟨rfl,rfl,_⟩:=q;exact Xc _ _ _ _ _ _ _ _ _ _ _ _ _ _ s p rfl n o _ _ A
   ·rename_i A;cases h;obtain⟨rfl,_⟩:=q;exact Xd _ _ _ _ _ _ _ _ _ _ _ _ _ _ s p rfl n o _ A rfl
   cases h
  cases h
 cases h
theorem acY(w:ed P cE){k:Nat}(h:IH cE t k a l=aa (v,c,b)):
  cw P H ⟨d,.field t x k,ty,pos,af,g⟩ [a] v:=by
 unfold IH at h;split at h
 ·cases h
 rename_i i A;split at h
 ·rename_i K B;obtain⟨q,m,r,_⟩:=(w _ _ A).st B;split at h
  ·cases h
  rename_i y e;rw[<-r,eG] at e;cases p:q[k]? with
  |none=>rw[ng,p] at e;cases e
  |some C=>
  rw[ng,p] at e;simp only[gP,Option.some.injEq] at e;subst e;split at h
  ·cases h
  rename_i j D;obtain⟨L,n,o⟩:=(w _ _ D).agg;split at h
  ·split at h
   ·rename_i s;split at h
    ·rename_i F;cases h;exact NW _ _ _ _ _ _ m p n (.inl ⟨o.trans s,F,rfl⟩)
    cases h
   rename_i s;split at h
   ·rename_i G;cases h;exact NW _ _ _ _ _ _ m p n (.inr ⟨o.trans s,G⟩)
   cases h
  cases h
 cases h
theorem d9(h:0<=n):n=((n.toNat:Nat):Int):=O
theorem acW(F:ed P cE){b:V}(h:IG cE H t a b l=aa (v,c,o))(q:cH c):
  cw P H ⟨d,.indexAddr t x y,ty,pos,af,g⟩ [a,b] v:=by
 unfold IG at h;split at h
 ·cases h
 rename_i i f;split at h
 ·rename_i e G;have B:P.underlying t=aa (.slice e):=(F _ _ f).iC.2.2.2 e G;split at h
  ·cases h
  rename_i j K;obtain⟨I,C,_⟩:=F _ _ K;split at h
  ·rename_i p n;split at h
   ·rename_i r l;split at h
    ·rename_i w;cases h;obtain⟨L,Q⟩:=kc (show aB p n=aa r from q.1);rw[d9 L];exact Zg _ _ _ _ _ _ B C Q (dc w)
    cases h
   cases h
  ·rename_i id gen size A len n;split at h
   ·rename_i s M p R w;cases h;obtain⟨rfl,rfl,⟨L,Q⟩,_⟩:=q;have W:n.toNat<len:=O
    have:=dc w;subst this;have N:=Xv (P:=P) (H:=H) (d:=d) (ty:=ty) (pos:=pos) (af:=af) (g:=g) x y e id s A len n.toNat _ _ R B C W
    grind
   ·rename_i m s p S R w;cases h;obtain⟨rfl,⟨L,Q⟩,_⟩:=q;have W:n.toNat<len:=O
    have:=dc w;subst this;have N:=Xb (P:=P) (H:=H) (d:=d) (ty:=ty) (pos:=pos) (af:=af) (g:=g) x y e id _ A len n.toNat _ R rfl B C W
    grind
   cases h
  cases h
 ·rename_i m e G;obtain⟨T,X,D⟩:=F _ _ f;have B:P.underlying t=aa (.array m e):=by
   simp only[ct.is,G] at D;rw[<-D];exact X.1
  split at h
  ·cases h
  rename_i j K;obtain⟨I,C,_⟩:=F _ _ K;split at h
  ·rename_i id A n k l;split at h
   ·rename_i w;cases h;rw[show n=(k:Int) from q.1];exact Xw _ _ _ _ _ _ _ B C (fb w)
   cases h
  cases h
 cases h
theorem ZX(k:ed P cE){b:V}(h:HE cE t a b o=aa (v,m,i))(e:cH m):
  cw P H ⟨d,.index t x y,ty,pos,af,g⟩ [a,b] v:=by
 unfold HE at h;split at h
 ·rename_i l n c o p;cases h;obtain⟨q,r⟩:=kc (show aB l n=aa c from e.1);rw[d9 q];exact aax _ _ _ _ _ (Gg k p) r
 cases h
theorem acT(n:ed P cE)(h:ID cE H t a i=aa (v,c,b))(k:cH c):
  cw P H ⟨d,.call {callee:= .builtin .len,args:= #[x],argTypes:= #[t]},ty,pos,af,g⟩ [a] v:=by
 unfold ID at h;split at h
 ·split at h
  ·rename_i l;cases h;exact aaq _ _ (Gg n l)
  cases h
 ·split at h
  ·rename_i l;cases h;obtain⟨e,m⟩:=BR n l;have p:=k.1;rw[<-p];exact abM _ _ _ m
  cases h
 ·split at h
  ·rename_i o l;cases h;obtain⟨rfl,rfl,rfl,_⟩:=k;obtain⟨e,m⟩:=BR n l;exact aar _ _ _ _ _ _ _ m _ _ o
  ·rename_i o l;cases h;obtain⟨rfl,rfl,_⟩:=k;obtain⟨e,m⟩:=BR n l;exact Zf _ _ _ _ _ _ _ m _ o rfl
  cases h
 cases h
theorem ZV(D:ed P cE){y A:Option Operand}{F:List V}{f U:List cG}{ml:List dH}(h:Hl cE H t y A F f=aa (v,ml,U))(p:cH ml):
  cw P H ⟨d,.slice t x y A ak,ty,pos,af,g⟩ F v:=by
 unfold Hl at h;split at h
 ·rename_i l M;split at h
  ·rename_i a b r f Y c;cases h;obtain⟨k,N,I,rfl⟩:=Bz p.1;have q:=Gg D Y;unfold sn at c;split at c
   ·cases c;rw[d9 k,d9 (O:0<=b)];exact Xr _ _ _ _ _ _ q O O
   ·cases c
    have:=UF (P:=P) (H:=H) (d:=d) (ty:=ty) (pos:=pos) (af:=af) (g:=g) x ‹_› l a.toNat q O;rw[<-d9 k] at this;simpa using this
   ·cases c
    have:=Vv (P:=P) (H:=H) (d:=d) (ty:=ty) (pos:=pos) (af:=af) (g:=g) x ‹_› l b.toNat q O;rw[<-d9 (O:0<=b)] at this;simpa using this
   cases c
  cases h
 ·rename_i G M;split at h
  ·cases h
  rename_i i W;split at h
  ·rename_i e hu;have q:P.underlying t=aa (.slice e):=(D _ _ W).iC.2.2.2 e hu;split at h
   ·rename_i j a b r f K c;cases h;obtain⟨L,Q,_⟩:=p;obtain⟨k,N,I,rfl⟩:=Bz L;obtain⟨S,s,_⟩:=D _ _ K;unfold sn at c;split at c
    ·cases c;rw[d9 k,d9 (O:0<=b)];exact Za _ _ _ _ _ _ _ q s O O Q
    ·cases c
     have:=Vc (P:=P) (H:=H) (d:=d) (ty:=ty) (pos:=pos) (af:=af) (g:=g) x ‹_› e G a.toNat q s O Q;rw[<-d9 k] at this;simpa using this
    ·cases c
     have:=Vz (P:=P) (H:=H) (d:=d) (ty:=ty) (pos:=pos) (af:=af) (g:=g) x ‹_› e G b.toNat q s O Q;rw[<-d9 (O:0<=b)] at this;simpa using this
    cases c
   cases h
  cases h
 ·rename_i id alo sz B len M;split at h
  ·rename_i i lQ W T;split at h
   ·rename_i e hu;have q:P.underlying t=aa (.slice e):=(D _ _ W).iC.2.2.2 e hu;obtain⟨C9,hH,T⟩:=zM.1 T;have C: ∀{a b:Int},sn y A len M=aa (a,b)->0<=a->0<=b-> ∀β w X (R:Operand->Value),dr β w X M (y.toList.map R++A.toList.map R)->qJ len y A R a.toNat b.toNat:=by
     intro a b c L k β w X R Q;unfold sn at c;split at c
     ·cases c;refine⟨?_,?_⟩
      ·show R _=_;rw[Et L];exact dO Q.1
      show R _=_;rw[Et k];exact dO Q.2.1
     ·cases c;refine⟨?_,by show _=_;simp⟩;show R _=_;rw[Et L];exact dO Q.1
     ·cases c;refine⟨by show _=_;simp,?_⟩;show R _=_;rw[Et k];exact dO Q.1
     cases c
    split at h
    ·rename_i j a b o m f K c;cases h;obtain⟨rfl,rfl,⟨k,N,I,h4,rfl,rfl⟩,_⟩:=p;obtain⟨S,s,_⟩:=D _ _ K;exact aeD x y A e id _ B len a.toNat b.toNat C9 hH T q s O O O (C c k O)
    ·rename_i j a b f K c;cases h;obtain⟨rfl,⟨k,rfl,I⟩,_⟩:=p;obtain⟨S,s,_⟩:=D _ _ K;exact adA x y A e id _ _ B len a.toNat C9 hH T q s O (C c k k)
    ·rename_i j a b o m f K c;split at h
     ·rename_i n;cases h;obtain⟨rfl,rfl,rfl,⟨L,k,N,I,rfl,rfl⟩,_⟩:=p;obtain⟨S,s,_⟩:=D _ _ K;exact OU x y A e id _ B len a.toNat b.toNat _ _ n rfl (.inl ⟨_,rfl⟩) q s L O O (C c k O)
     ·rename_i n;cases h;obtain⟨rfl,er,rfl,⟨L,k,N,I,rfl,rfl⟩,_⟩:=p;obtain⟨S,s,_⟩:=D _ _ K;exact OU x y A e id _ B len a.toNat b.toNat _ _ n rfl (.inr ⟨_,_,_,rfl,er⟩) q s L O O (C c k O)
     cases h
    cases h
   cases h
  cases h
 cases h
theorem YB(w:ed P cE){k m:Operand}{Y:List V}{n:List cG}(h:G0 cE H t Y n=aa (v,q,l))(o:cH q):
  cw P H ⟨d,.slice t x (aa y) (aa k) (aa m),ty,pos,af,g⟩ Y v:=by
 unfold G0 at h;split at h
 ·rename_i id L Q p len a b c;split at h
  ·rename_i i R r s;split at h
   ·rename_i e A;have B:P.underlying t=aa (.slice e):=(w _ _ r).iC.2.2.2 e A;obtain⟨C,D,s⟩:=zM.1 s;split at h
    ·rename_i j F;cases h;obtain⟨rfl,⟨G,W,X,f⟩,_⟩:=o;obtain⟨I,K,_⟩:=w _ _ F;rw[d9 G,d9 (O:0<=b),d9 (O:0<=c)];exact aaw x y k m e id _ _ p len a.toNat b.toNat c.toNat C D s B K O O O
    cases h
   cases h
  cases h
 cases h
theorem aaM(n:ed P cE){c:Operand}{Y:List V}(h:H8 cE t Y l=aa (v,m,b))(a:cH m):
  cw P H ⟨d,.slice t x ak (aa c) (aa y),ty,pos,af,g⟩ Y v:=by
 unfold H8 at h;split at h
 ·split at h
  ·rename_i i k;split at h
   ·rename_i e o;have p:P.underlying t=aa (.slice e):=(n _ _ k).iC.2.2.2 e o;split at h
    ·rename_i j q;cases h;obtain⟨⟨r,rfl⟩,s,_⟩:=a;obtain⟨B,C,w,rfl⟩:=Bz r;obtain⟨D,A,_⟩:=n _ _ q
     have:=W8 (P:=P) (H:=H) (d:=d) (ty:=ty) (pos:=pos) (af:=af) (g:=g) x c y e _ _ p A (Int.toNat_le.2 w) s
     grind
    cases h
   cases h
  cases h
 cases h
theorem Xy(n:ed P cE){b:Builtin}{a:List TypeId}{c:List Operand}{Y:List V}(h:Gl cE H b a c Y l=aa (v,m,i))(e:cH m):
  cw P H ⟨d,.call {callee:= .builtin b,args:=c.toArray,argTypes:=a.toArray},ty,pos,af,g⟩ Y v:=by
 unfold Gl at h;split at h
 ·exact acT n h e
 ·split at h
  ·rename_i k;subst k;cases h;exact afV _ _ _ _ _ _
  cases h
 ·split at h
  ·rename_i k;subst k;cases h;exact afU _ _ _ _ _ _
  cases h
 cases h
theorem acR(h:IB H a i=aa (v,c,b))(e:cH c):cw P H ⟨d,.nilCheck x,ty,pos,af,g⟩ [a] v:=by
 unfold IB at h;split at h
 ·split at h
  ·rename_i n k;cases h;obtain⟨rfl,_⟩:=e;obtain⟨l,m,k⟩:=zM.1 k;exact Xu _ _ _ _ _ _ l m k
  cases h
 ·cases h;exact Mm _ _ rfl
 ·cases h;exact Mm _ _ rfl
 ·cases h;exact Xt _ _ _
 cases h
theorem Zx(n:ed P cE){a:Array (Nat×Operand)}{Y:List V}(h:HJ cE t (a.toList.map (·.1)) Y l=aa (v,c,b)):
  cw P H ⟨d,.build t a,ty,pos,af,g⟩ Y v:=by
 unfold HJ at h;split at h
 ·cases h
 rename_i i o;split at h
 ·rename_i w p;split at h
  ·rename_i cs q r s;cases h;obtain⟨e,k,_,m⟩:=(n _ _ o).st p;exact adE a e i.places Y cs k m q (by simpa using r) s
  cases h
 cases h
theorem ae0(k:ed P cE){a:Op}{Y:List V}(h:yu P cE H a Y l=aa (v,m,i))(e:cH m):
  cw P H ⟨d,a,ty,pos,af,g⟩ Y v:=by
 unfold yu at h;split at h
 ·split at h
  ·cases h;exact aeM _ _
  cases h
 ·split at h
  ·cases h;exact abO _ _
  cases h
 ·split at h
  ·rename_i b v w c l;cases h;obtain⟨q,_⟩:=e;subst q;cases b
   ·exact W9 _ _ _ _ _
   exact Xs _ _ _ _ _
  cases h
 ·split at h
  ·split at h
   ·rename_i s;cases h;exact M4 k s e
   exact ZW k h e
  cases h
 ·split at h
  ·exact acR h e
  cases h
 ·split at h
  ·split at h
   ·rename_i r o;cases h;exact ac1 k o e
   split at h
   ·rename_i r o;cases h;exact acV k o
   exact acQ k h e
  cases h
 ·split at h
  ·exact adW h
  cases h
 ·split at h
  ·exact aaL k h e
  cases h
 ·rename_i B first p
  split at h
  ·rename_i f x;cases h
   have:first= #[]:=by simpa using x
   subst this;exact Zc _ _ _
  cases h
 ·split at h
  ·exact ZV k h e
  split at h
  ·exact YB k h e
  ·exact aaM k h e
  cases h
 ·split at h
  ·exact ZY k h e
  cases h
 ·split at h
  ·exact acY k h
  cases h
 ·split at h
  ·exact acW k h e
  cases h
 ·split at h
  ·exact ZX k h e
  cases h
 ·split at h
  ·split at h
   ·rename_i y;cases h;exact aas _ _ _ _ y
   cases h
  cases h
 ·exact Zx k h
 ·rename_i c;obtain⟨n,args,A⟩:=c;dsimp only at h;split at h
  ·have:=Xy (d:=d) (ty:=ty) (pos:=pos) (af:=af) (g:=g) k h e;simpa using this
  cases h
 cases h
end
def jT(P:Program)(G:fh)(f:FuncId)(args:List V)(r:V):Prop:=jh P f/\Fz P G f args r
def hY(P:Program)(G:fh)(f:FuncId)(a:List E)(args:List V)(r:V)(b:List E):Prop:=
 jh P f/\Lo P G f a args (ι:=Unit) (λ_=>True) (λ_=>r) λ_=>b
def e9(d:Option Tmp)(v:V):List (Nat×V):=match d with
 |some d=>[(d,v)]
 |none=>[]
def j4(a:Nat):Option Tmp->Bool
 |some d=>dn d a
 |none=>ab
theorem gE{K:Ctx}{d:Option Tmp}(h:j4 K.nt d=ab): ∀i,d=aa i->dn i K.nt=ab:=by intro i a;subst a;exact h
def ib:T->T
 | .fp=> .bG []
 |x=>x
variable {w:World}{X:Nat->Prop}{m sz:Nat}
theorem c8.zb{x:T}{v:Value}(h:c8 w X x v):c8 w X (ib x) v:=by
 cases h with
 |fp=>exact .gh _ _
 |bool b=>exact .bool b
 |int k n=>exact .int k n
 |str l=>exact .str l
 |gh a c=>exact .gh a c
 |bG e b m size c f p q i o r y=>exact .bG e b m size c f p q i o r y
 |gZ=>exact .gZ
 |gm=>exact .gm
 |l1=>exact .l1
 |err t v=>exact .err t v
theorem acP{G:Map}{k:Nat}{c:TypeId}{gen n:Nat}{z:List T}(h:c4 G w X k (.arr c gen n (dh m z))):c4 G w X k (.arr c gen n (dh m (z.map ib))):=by
 refine⟨h.1,?_⟩;rcases h.2 with ⟨q,l⟩|⟨b,r,q,l,A,D,B⟩
 ·have:m=0:=by simpa using l
  grind
 refine .inr ⟨b,r,q,l,by simpa using A,λo a=>?_,λi j o x u a e C=>?_⟩
 ·obtain⟨F,rfl⟩:=wZ.1 a
  grind
 rw[uc] at a;split at a
 ·cases a;rw[eG] at e;cases p:z[j]? with
  |none=>rw[p] at e;simp at e
  |some y=>
   rw[p] at e;simp at e;subst e;exact(B i j z y u (by rw[uc,bg ‹_›]) p C).zb
 cases a
def mf(a:Nat):Nat->List T->List (List T)
 |0,_=>[]
 |n+1,l=>l.take a::mf a n (l.drop a)
theorem BL(a:Nat): ∀(n:Nat) (l:List T),l.length=n*a->(mf a n l).length=n/\(∀b,b∈mf a n l->b.length=a)/\(mf a n l).flatten=l
 |0,l,h=>by
  have:l=[]:=by simpa using h
  subst this;exact⟨rfl,λ_ h=>by simp[mf] at h,rfl⟩
 |n+1,l,h=>by
  rw[dN] at h;obtain⟨c,e,i⟩:=BL a n (l.drop a) ca;refine⟨by simp[mf,c],?_,by simp[mf,i]⟩;intro b b5;simp only[mf,List.mem_cons] at b5;rcases b5 with rfl|b5
  ·simp;omega
  exact e b b5
structure dV where
 P:Program
 G:fh
 cE:List (Nat×ct)
 nt:Nat
 ef:Nat
 hi:Map
def u2(a:Nat):List Nat->Nat->Option Nat
 | [],_=>ak
 |x::r,k=>bif b8 x a then aa k else u2 a r (k+1)
theorem BU{i:Nat}: ∀{L:List Nat} {k m:Nat},u2 i L k=aa m->k<=m/\L[m-k]? =aa i
 | [],_,_,h=>by cases h
 |x::r,k,m,h=>by
  simp only[u2] at h;cases a:b8 x i with
  |true=>rw[a] at h;cases h;rw[dc a];exact⟨df _,bl⟩
  |false=>
   rw[a] at h;obtain⟨c,b⟩:=BU (L:=r) (k:=k+1) h;refine⟨O,?_⟩;rw[show m-k=(m-(k+1))+1 by omega];simpa using b
mutual
def tY(L:List Nat):V->Option V
 | .ref id a=>match u2 id L 0 with
  |some k=>aa (.ref k a)
  |none=>ak
 | .bf id gen size a len=>match u2 id L 0 with
  |some k=>aa (.bf k gen size a len)
  |none=>ak
 | .fn f cs=>match tX L cs with
  |some cs=>aa (.fn f cs)
  |none=>ak
 | .cQ id gen size i a=>match u2 id L 0 with
  |some k=>aa (.cQ k gen size i a)
  |none=>ak
 | .t x=>aa (.t x)
 | .aU x=>aa (.aU x)
 | .agg cs=>match tX L cs with
  |some cs=>aa (.agg cs)
  |none=>ak
 |_=>ak
def tX(L:List Nat):List V->Option (List V)
 | []=>aa []
 |c::cs=>match tY L c,tX L cs with
  |some c,aa cs=>aa (c::cs)
  |_,_=>ak
end
mutual
theorem aew{L:List Nat}: ∀(v c:V),tY L v=aa c->c.ej L=v/\c.ok (fj L.length)=ab
 | .ref id m,c,h=>by
  simp only[tY] at h;split at h
  ·rename_i k n;cases h;obtain⟨_,a⟩:=BU n;simp only[Nat.sub_zero] at a;have b:=(d0.1 a).1;exact⟨by simp[V.ej,List.getD_eq_getElem?_getD,a],je.2 b⟩
  cases h
 | .bf id gen size m len,c,h=>by
  simp only[tY] at h;split at h
  ·rename_i k n;cases h;obtain⟨_,a⟩:=BU n;simp only[Nat.sub_zero] at a;have b:=(d0.1 a).1;exact⟨by simp[V.ej,List.getD_eq_getElem?_getD,a],je.2 b⟩
  cases h
 | .cQ id gen size i m,c,h=>by
  simp only[tY] at h;split at h
  ·rename_i k n;cases h;obtain⟨_,a⟩:=BU n;simp only[Nat.sub_zero] at a;have b:=(d0.1 a).1;exact⟨by simp[V.ej,List.getD_eq_getElem?_getD,a],je.2 b⟩
  cases h
 | .fn f cs,c,h=>by
  simp only[tY] at h;split at h
  ·rename_i e l;cases h;obtain⟨o,a⟩:=xY cs e l;exact⟨by simp[V.ej,o],by simpa[V.ok] using a⟩
  cases h
 | .agg cs,c,h=>by
  simp only[tY] at h;split at h
  ·rename_i e l;cases h;obtain⟨o,a⟩:=xY cs e l;exact⟨by simp[V.ej,o],by simpa[V.ok] using a⟩
  cases h
 | .t x,c,h=>by cases h;exact⟨rfl,rfl⟩
 | .aU x,c,h=>by cases h;exact⟨rfl,rfl⟩
 | .bY _,_,h| .c',_,h=>by cases h
theorem xY{L:List Nat}: ∀(cs a:List V),tX L cs=aa a->iT L a=cs/\gI (fj L.length) a=ab
 | [],_,h=>by cases h;exact⟨rfl,rfl⟩
 |c::cs,a,h=>by
  simp only[tX] at h;split at h
  ·rename_i e b i k;cases h;obtain⟨aP,a2⟩:=aew c e i;obtain⟨l,m⟩:=xY cs b k;exact⟨by simp[iT,aP,l],by simp[gI,a2,m]⟩
  cases h
end
def u1(L:List Nat)(H:Nat->Option E):List Nat->Option (List E)
 | []=>aa []
 |id::b=>match H id with
  |some (.cells cs)=>match tX L cs,u1 L H b with
   |some cs,aa c=>aa (.cells cs::c)
   |_,_=>ak
  |some (.arr ty gen size a)=>match u1 L H b with
   |some c=>aa (.arr ty gen size a::c)
   |none=>ak
  |some (.aC e m gen a [])=>match u1 L H b with
   |some c=>aa (.aC e m gen a []::c)
   |none=>ak
  |some (.aC _ _ _ _ (_::_))=>ak
  |none=>ak
theorem BT{L:List Nat}{H:Nat->Option E}: ∀(a:List Nat) (fu:List E),u1 L H a=aa fu->fu.length=a.length/\ ∀(k:Nat) (e:E),fu[k]? =aa e-> ∃id,a[k]? =aa id/\H id=aa (e.ej L)/\e.ok (fj L.length)=ab
 | [],_,h=>by cases h;exact⟨rfl,λk e h=>by simp at h⟩
 |id::a,fu,h=>by
  simp only[u1] at h;split at h
  ·rename_i cs hid;split at h
   ·rename_i q i r l;cases h;obtain⟨aP,a2⟩:=BT a i l;obtain⟨w,x⟩:=xY cs q r;refine⟨by simp[aP],λk e b=>?_⟩;cases k with
    |zero=>simp at b;subst b;exact⟨id,rfl,by rw[hid];simp only[E.ej,w],x⟩
    |succ k=>simp at b;obtain⟨c,n,o⟩:=a2 k e b;exact⟨c,by simpa using n,o⟩
   cases h
  ·rename_i ty gen size p hid;split at h
   ·rename_i i l;cases h;obtain⟨aP,a2⟩:=BT a i l;refine⟨by simp[aP],λk e b=>?_⟩;cases k with
    |zero=>simp at b;subst b;exact⟨id,rfl,hid,rfl⟩
    |succ k=>simp at b;obtain⟨c,n,o⟩:=a2 k e b;exact⟨c,by simpa using n,o⟩
   cases h
  ·rename_i y m gen p hid;split at h
   ·rename_i i l;cases h;obtain⟨aP,a2⟩:=BT a i l;refine⟨by simp[aP],λk e b=>?_⟩;cases k with
    |zero=>simp at b;subst b;exact⟨id,rfl,hid,rfl⟩
    |succ k=>simp at b;obtain⟨c,n,o⟩:=a2 k e b;exact⟨c,by simpa using n,o⟩
   cases h
  ·cases h
  cases h
def Cm(a:Nat):List Nat->Bool
 | []=>ab
 |x::l=>bif b8 x a then al else Cm a l
theorem Nt{i:Nat}: ∀{l:List Nat},Cm i l=ab->i∉l
 | [],_,h=>by cases h
 |x::l,h,hm=>by
  simp only[Cm] at h;cases a:b8 x i with
  |true=>rw[a] at h;cases h
  |false=>
   rw[a] at h;rcases eg.1 hm with rfl|hm
   ·simp at a
   exact Nt h hm
def Cs:List Nat->Bool
 | []=>ab
 |x::l=>Cm x l&&Cs l
theorem AZ: ∀{l:List Nat},Cs l=ab->l.Nodup
 | [],_=>List.nodup_nil
 |x::l,h=>by simp only[Cs,cB] at h;exact List.nodup_cons.2 ⟨Nt h.1,AZ h.2⟩
def BM(u:Nat->Bool):List Nat->Bool
 | []=>ab
 |x::l=> !u x&&BM u l
theorem LS{u:Nat->Bool}: ∀{l:List Nat},BM u l=ab-> ∀id,id∈l->u id=al
 | [],_,_,h=>by cases h
 |x::l,h,id,hm=>by
  simp only[BM,cB,Bool.not_eq_true'] at h;rcases eg.1 hm with rfl|hm
  ·exact h.1
  exact LS h.2 id hm
theorem Mg{u:Nat->Bool}{i:Nat}: ∀{l:List Nat},i∈l->dx u (l.map λk=>(k,ab)) i=ab
 |x::l,h=>by
  simp only[List.map_cons,dx];by_cases a:i∈l
  ·rw[B6 _ _ u _ ⟨ab,eH.2 ⟨i,a,rfl⟩⟩];exact Mg a
  rcases eg.1 h with rfl|h
  ·rw[mM _ _ _ (λv b=>a (by obtain⟨y,c,e⟩:=eH.1 b;cases e;exact c)),cy]
  exact br h a
theorem Ml{R:Type}: ∀(L:List Nat),L.Nodup-> ∀(f:Nat->R) (a:List R) (g:Nat->R),a.length=L.length->(∀(k:Nat) x,a[k]? =aa x->g k=x)->dx f (L.zip a)=ll f L g
 | [],_,f,a,g,_,_=>by simp[dx,ll]
 |l::L,b,f,[],g,h,_=>by simp at h
 |l::L,b,f,x::a,g,h,m=>by
  simp only[List.nodup_cons] at b;simp only[List.zip_cons_cons,dx,ll];rw[Ml L b.2 (bb f l x) a (λk=>g (k+1)) (by simpa using h) (λk y o=>m (k+1) y (by simpa using o)),m 0 x rfl];funext i;by_cases c:i=l
  ·subst c;rw[nG b.1,cy,cy]
  rw[cu _ _ _ _ c];by_cases e:i∈L
  ·obtain⟨k,n⟩:=jq.1 e;rw[oQ b.2 n,oQ b.2 n]
  rw[nG e,nG e,cu _ _ _ _ c]
abbrev jb:=Option (dd×List dH×List cG)
def uY(d:Option Tmp)(u:Nat->Bool)(v:V)(a:List cG):jb:=
 match a with
 | .nat k::a=>match u k,v.val with
  |false,ab=>aa (⟨e9 d (.ref k 0),[(k,aa (.cells v.cs))],[(k,ab)]⟩,[],a)
  |_,_=>ak
 |_=>ak
def H'(d:Option Tmp)(v:V)(a:List cG):jb:=
 match a with
 | .b ab::a=>match (nM v).val,k5 (nM v).cs with
  |true,aa c=>aa (⟨e9 d (.aU c),[],[]⟩,[],a)
  |_,_=>ak
 |_=>ak
def Sg:List cG->Bool
 | .b ab::_=>ab
 |_=>al
def Hk(C:dV)(t:TypeId)(H:Nat->Option E)(a v:V)(n:List cG):jb:=
 match dC C.cE t with
 |none=>ak
 |some i=>match a with
  | .ref id b=>match H id with
   |some (.cells cs)=>match v.val,nS v.cs,b8 v.cs.length i.size,dA (b+i.size) cs.length with
    |true,ab,ab,ab=>aa (⟨[],[(id,aa (.cells (nb cs b v.cs)))],[]⟩,[],n)
    |_,_,_,_=>ak
   |_=>ak
  | .cQ id gen w k b=>match H id,k5 (nM v).cs,n with
   |some (.arr e h m l),aa o,.row r:: .rows c::n=>match (nM v).val,b8 o.length i.size,dA (b+i.size) w with
    |true,ab,ab=>aa (⟨[],[(id,aa (.arr e h m c))],[]⟩,
      [.q h gen,.q m w,.p (l[k]? =aa r),.p (c=l.set k (r.take b++o++r.drop (b+o.length)))],n)
    |_,_,_=>ak
   |_,_,_=>ak
  |_=>ak
def u6(k a n:Nat):List (Nat×Nat×V)->List dH
 | []=>[]
 |h::b=>bif dA a h.2.1&&dn h.2.1 (a+n) then .q h.1 k::u6 k a n b else u6 k a n b
def u7(k a n:Nat):List (Nat×Nat×V)->List dH
 | []=>[]
 |h::b=>bif dA a h.2.1&&dn h.2.1 (a+n) then .p (h.1≠k)::u7 k a n b else u7 k a n b
def GZ(C:dV)(t:TypeId)(H:Nat->Option E)(a v:V)(o:List cG):jb:=
 match dC C.cE t,a,o with
 |some i,.cQ id gen x k b,.row r::o=>match H id with
  |some (.aC w m c e h)=>match v.val&&(nS v.cs&&(b8 v.cs.length i.size&&(dA (b+i.size) r.length&&dn 0 i.size))),sg h b i.size with
   |true,aa l=>aa (⟨[],[(id,aa (.aC w m c e (u9 b v.cs h)))],[]⟩,.q c gen:: .q (U w m).size x:: .p (e[k]? =aa r)::(sq k l++u6 k b i.size h),o)
   |_,_=>ak
  |_=>ak
 |some i,.cQ id gen x k b,.int q:: .nat n:: .row r::o=>match H id with
  |some (.aC w m c e h)=>match v.val&&(nS v.cs&&(b8 v.cs.length i.size&&(dA (b+i.size) r.length&&dn 0 i.size))),sg ((h.drop q.toNat).take n) b i.size with
   |true,aa l=>aa (⟨[],[(id,aa (.aC w m c e (h.take q.toNat++(u9 b v.cs ((h.drop q.toNat).take n)++(h.drop q.toNat).drop n))))],[]⟩,
     .q c gen:: .q (U w m).size x:: .p (e[k]? =aa r)::(sq k l++(u6 k b i.size ((h.drop q.toNat).take n)++(u7 k b i.size (h.take q.toNat)++u7 k b i.size ((h.drop q.toNat).drop n)))),o)
   |_,_=>ak
  |_=>ak
 |_,_,_=>ak
def x2(z:List T):List (Nat×Nat)->Bool
 | []=>ab
 |p::l=>(match z[p.1]? with|some .fp=>ab|_=>al)&&x2 z l
def Ik(C:dV)(d:Option Tmp)(t:TypeId)(u:Nat->Bool)(v w:V)(b:List cG):jb:=
 match dC C.cE t with
 |none=>ak
 |some i=>match i.u with
  | .slice e=>match dC C.cE e with
   |none=>ak
   |some j=>match v,w,b,k5 (d7 j.z).cs with
    | .t (.int .i64 n),.t (.int .i64 m),.nat k:: .rows R::b,aa a=>match u k,(d7 j.z).val,b8 a.length j.size,dn 0 j.size&&dA j.bytes 200000 with
     |false,ab,ab,ab=>aa (⟨e9 d (.bf k 1 j.size 0 R.length),[(k,aa (.arr e 1 j.size R))],[(k,ab)]⟩,[.q n.toNat m.toNat,.p (mk n (a.map ib)=aa R),.p (0<=m)],b)
     |_,_,_,_=>ak
    | .t (.int .i64 n),.t (.int .i64 m),.nat k:: .b1 _ c q:: .rows R::b,aa a=>match u k,(d7 j.z).val&&x2 a (U c q).aZ,b8 a.length j.size,dn 0 j.size&&dA j.bytes 200000 with
     |false,ab,ab,ab=>aa (⟨e9 d (.bf k 1 j.size 0 R.length),[(k,aa (.aC c q 1 R []))],[(k,ab)]⟩,[.q (U c q).ty e,.q (U c q).size j.size,.q n.toNat m.toNat,.p (mk n (a.map ib)=aa R),.p (0<=m)],b)
     |_,_,_,_=>ak
    |_,_,_,_=>ak
  |_=>ak
def G1(C:dV)(d:Option Tmp)(t o:TypeId)(H:Nat->Option E)(v w:V)(l:List cG):jb:=
 match dC C.cE t with
 |none=>ak
 |some i=>match i.u with
  | .slice e=>match dC C.cE e with
   |none=>ak
   |some j=>match v,nM w,l with
    | .bf k gen size m len,.t (.bG h),.rows R::l=>match H k with
     |some (.arr n a b c)=>match b8 m 0,b8 j.z.cells.size j.size&&(dn 0 j.size&&dA j.bytes 140000),b8 n e&&b8 o t with
      |true,ab,ab=>aa (⟨e9 d (.bf k (a+1) size 0 R.length),[(k,aa (.arr n (a+1) b R))],[]⟩,
        [.q a gen,.q b size,.q size j.size,.q len c.length,.p (app c h=aa R),.p (Rows j.size c),.p (Rows j.size h)],l)
      |_,_,_=>ak
     |_=>ak
    |_,_,_=>ak
  |_=>ak
def Gm(C:dV)(d:Option Tmp)(t A:TypeId)(H:Nat->Option E)(v w:V)(r:List cG):jb:=
 match dC C.cE t with
 |none=>ak
 |some i=>match i.u with
  | .slice e=>match dC C.cE e with
   |none=>ak
   |some j=>match v,w,r with
    | .bf k gen size h len,.bf et B D x l,.rows R:: .str []::r=>match H k with
     |some (.aC o m b a [])=>match b8 et k&&b8 h 0,b8 A t&&dn 0 j.size with
      |true,ab=>aa (⟨e9 d (.bf k gen size 0 (len+l)),[(k,aa (.aC o m b R (tT (len+l) (x-len) size)))],[]⟩,
        [.q b gen,.q B gen,.q (U o m).size size,.q D size,.q j.size size,.q (U o m).ty e,.p (0<l/\len<=x/\x+l=a.length),.p (R=a.take len++(a.drop x).take l++a.drop (len+l))],r)
      |_,_=>ak
     |_=>ak
    | .bf k gen size h len,.bf et B D x l,.rows R::r=>match H k,H et with
     |some (.aC o m b a []),aa (.aC F W G (L::c) y)=>match b8 h 0&&b8 x 0,b8 j.z.cells.size j.size&&(dn 0 j.size&&dA j.bytes 140000),b8 A t&&(r4 (U o m) (c.length+1) y&&uU y) with
      |true,ab,ab=>aa (⟨e9 d (.bf k (b+1) size 0 R.length),[(k,aa (.aC o m (b+1) R (ij a.length y)))],[]⟩,
        [.q b gen,.q G B,.q D size,.q size j.size,.q (U o m).size size,.q (U o m).ty e,.q l (c.length+1),.q len a.length,.p (U F W=U o m),.p (app a (L::c)=aa R),.p (Rows j.size a),.p (Rows j.size (L::c))],r)
      |_,_,_=>ak
     |some (.arr Q b n a),aa _=>match b8 et k&&b8 h 0,b8 Q e&&(b8 A t&&dn 0 j.size) with
      |true,ab=>aa (⟨e9 d (.bf k gen size 0 (len+l)),[(k,aa (.arr Q b n R))],[]⟩,
        [.q b gen,.q B gen,.q n size,.q D size,.q j.size size,.p (len+l<=a.length),.p (x+l<=a.length),.p (R=a.take len++(a.drop x).take l++a.drop (len+l))],r)
      |_,_=>ak
     |_,_=>ak
    | .bf k gen size h len,.t (.bG []),.int 0::r=>match (H k).bind E.gen with
     |some b=>match b8 h 0&&dn 0 j.size,b8 A t with
      |true,ab=>aa (⟨e9 d (.bf k gen size 0 len),[],[]⟩,[.q b gen,.q j.size size],r)
      |_,_=>ak
     |_=>ak
    |_,_,_=>ak
  |_=>ak
def BA(d:dw):Nat->List V->Option (List T×List (Nat×Nat×V))
 |_,[]=>aa ([],[])
 |j,v::b=>match BA d (j+1) b with
  |none=>ak
  |some (r,a)=>match d.eb j with
   |some _=>bif v.one then aa (.bG []::r,(0,j,v)::a) else ak
   |none=>match zE v with
    |some x=>aa (x::r,a)
    |none=>ak
def wO(d:dw)(a:Nat):Nat->Nat->List V->Option (List (List T)×List (Nat×Nat×V))
 |_,0,_=>aa ([],[])
 |i,n+1,b=>match BA d 0 (b.take a),wO d a (i+1) n (b.drop a) with
  |some (r,c),aa (e,k)=>aa (r::e,c.map (λh=>(i,h.2.1,h.2.2))++k)
  |_,_=>ak
def qx:Nat->List V->List (Nat×Nat×V)
 |_,[]=>[]
 |i,v::vs=>(i,0,v)::qx (i+1) vs
def Il(C:dV)(d:Option Tmp)(t:TypeId)(n:Nat)(h:List Nat)(u:Nat->Bool)(a:List V)(c:List cG):jb:=
 match dC C.cE t with
 |none=>ak
 |some i=>match i.u with
  | .slice e=>match dC C.cE e with
   |none=>ak
   |some j=>match n,c with
    |1,.lt k b m::c=>match kl (λi=>aa (i*j.size,j.size)) (dh (1*j.size) .c') (h.zip (qA ((U b m).eb 0) a)) with
     |none=>ak
     |some cs=>match wO (U b m) j.size 0 1 cs with
      |none=>ak
      |some (r,l)=>match u k,b8 cs.length (1*j.size)&&b8 (U b m).size j.size,b8 h.length a.length&&b8 (U b m).ty e,dA (1*j.size) 16777216,dn 0 j.size with
       |false,ab,ab,ab,ab=>aa (⟨e9 d (.bf k 1 j.size 0 1),[(k,aa (.aC b m 1 r l))],[(k,ab)]⟩,[],c)
       |_,_,_,_,_=>ak
    |2,.lt k b m:: .str []::c=>match kl (λi=>aa (i*j.size,j.size)) (dh (2*j.size) .c') (h.zip (qA ((U b m).eb 0) a)) with
     |none=>ak
     |some cs=>match wO (U b m) j.size 0 2 cs with
      |none=>ak
      |some (r,l)=>match u k,b8 cs.length (2*j.size)&&b8 (U b m).size j.size,b8 h.length a.length&&b8 (U b m).ty e,dA (2*j.size) 16777216,dn 0 j.size with
       |false,ab,ab,ab,ab=>aa (⟨e9 d (.bf k 1 j.size 0 2),[(k,aa (.aC b m 1 r l))],[(k,ab)]⟩,[],c)
       |_,_,_,_,_=>ak
    |n,.lt k b m::c=>match kl (λi=>aa (i*j.size,j.size)) (dh (n*j.size) .c') (h.zip (hr a)) with
     |none=>ak
     |some cs=>match u k,b8 j.size 1&&(b8 cs.length n&&nS cs),b8 h.length a.length&&(b8 (U b m).ty e&&b8 (U b m).size 1),dA (n*j.size) 16777216,dn 0 n with
      |false,ab,ab,ab,ab=>aa (⟨e9 d (.bf k 1 1 0 n),[(k,aa (.aC b m 1 (dh n [.bG []]) (qx 0 cs)))],[(k,ab)]⟩,[],c)
      |_,_,_,_,_=>ak
    |_,_=>ak
  |_=>ak
def IC(C:dV)(d:Option Tmp)(t:TypeId)(n:Nat)(b:List Nat)(u:Nat->Bool)(a:List V)(c:List cG):jb:=
 match dC C.cE t with
 |none=>ak
 |some i=>match i.u with
  | .slice e=>match dC C.cE e with
   |none=>ak
   |some j=>match n,b,c with
    |0,[],.nat k::c=>match u k with
     |false=>aa (⟨e9 d (.bf k 1 j.size 0 0),[(k,aa (.arr e 1 j.size []))],[(k,ab)]⟩,[],c)
     |true=>ak
    |n,b,.int 1:: .nat k::c=>match kl (λi=>aa (i*j.size,j.size)) (dh (n*j.size) .c') (b.zip (hr a)) with
     |none=>ak
     |some cs=>match k5 cs with
      |none=>ak
      |some h=>match u k,b8 h.length (n*j.size),b8 b.length a.length,dA (n*j.size) 16777216,dn 0 j.size with
       |false,ab,ab,ab,ab=>aa (⟨e9 d (.bf k 1 j.size 0 (mf j.size n h).length),[(k,aa (.arr e 1 j.size (mf j.size n h)))],[(k,ab)]⟩,[],c)
       |_,_,_,_,_=>ak
    |n,b,.int 2:: .rows R::c=>match kl (λi=>aa (i*j.size,j.size)) (dh (n*j.size) .c') (b.zip (hr a)) with
     |none=>ak
     |some cs=>match k5 cs with
      |none=>ak
      |some h=>match b8 h.length (n*j.size),b8 b.length a.length,dA (n*j.size) 16777216 with
       |true,ab,ab=>aa (⟨e9 d (.t (.bG R)),[],[]⟩,[.p (mf j.size n h=R)],c)
       |_,_,_=>ak
    |n,b,.int 0::c=>match kl (λi=>aa (i*j.size,j.size)) (dh (n*j.size) .c') (b.zip (hr a)) with
     |none=>ak
     |some cs=>match k5 cs with
      |none=>ak
      |some h=>match b8 h.length (n*j.size),b8 b.length a.length,dA (n*j.size) 16777216 with
       |true,ab,ab=>aa (⟨e9 d (.t (.bG (mf j.size n h))),[],[]⟩,[],c)
       |_,_,_=>ak
    |_,_,_=>ak
  |_=>ak
mutual
def su:V->Bool
 | .t (.int _ _)| .t (.bool _)| .t (.str _)=>ab
 | .agg cs=>uX cs
 | .bY cs=>uX cs
 |_=>al
def uX:List V->Bool
 | []=>ab
 |c::cs=>su c&&uX cs
end
def yk(H:Nat->Option E):V->Option (T×List dH)
 | .bf k gen size e len=>match H k with
  |some (.arr _ b c a)=>aa (.bG a,[.q gen b,.q size c,.q e 0,.q len a.length])
  |some (.aC h m b a [])=>aa (.bG a,[.q gen b,.q size (U h m).size,.q e 0,.q len a.length])
  |_=>ak
 | .t x=>aa (ib x,[])
 |_=>ak
def CJ(H:Nat->Option E):List V->Option (List T×List dH)
 | []=>aa ([],[])
 |v::a=>match yk H v,CJ H a with
  |some (x,b),aa (c,e)=>aa (x::c,b++e)
  |_,_=>ak
mutual
def nx(H:Nat->Option E):V->Option (V×List dH)
 | .bf k gen size b len=>match yk H (.bf k gen size b len) with
  |some (x,a)=>aa (.t x,a)
  |none=>ak
 | .t x=>aa (.t (ib x),[])
 | .aU cs=>aa (.aU cs,[])
 | .ref id b=>match H id with
  |some (.cells cs)=>match CJ H cs with
   |some (ts,a)=>aa (.aU (ts.drop b),a)
   |none=>ak
  |_=>ak
 | .agg cs=>match pq H cs with
  |some (c,a)=>aa (.agg c,a)
  |none=>ak
 | .bY cs=>match pq H cs with
  |some (c,a)=>aa (.bY c,a)
  |none=>ak
 | .fn f cs=>match pq H cs with
  |some (c,a)=>aa (.fn f c,a)
  |none=>ak
 | .cQ _ _ _ _ _=>ak
 | .c'=>ak
def pq(H:Nat->Option E):List V->Option (List V×List dH)
 | []=>aa ([],[])
 |v::a=>match nx H v,pq H a with
  |some (x,b),aa (c,e)=>aa (x::c,b++e)
  |_,_=>ak
end
def QK:List cG->List cG
 | .nat _::hs=>QK hs
 |hs=>hs
def II(C:dV)(d:Option Tmp)(H:Nat->Option E)(a:List V)(c:List cG):jb:=
 match a with
 | .fn f b::args=>match QK (c.drop 1) with
  | .v r::c=>match pq H (args++b),su r with
   |some (e,h),ab=>aa (⟨e9 d r,[],[]⟩,h++[.p (jT C.P C.G f e r)],c)
   |_,_=>ak
  |_=>ak
 |_=>ak
def H9(C:dV)(d:Option Tmp)(b:List V)(c:List cG):jb:=
 match b with
 | .fn f a::args=>match c with
  | .v r::c=>match gI gG (hr (args++a)) with
   |true=>aa (⟨e9 d r,[],[]⟩,[.p (jT C.P C.G f (hr (args++a)) r)],c)
   |false=>ak
  | .nat _:: .v r::c=>aa (⟨e9 d r,[],[]⟩,[.p (gI gG (hr (args++a))=ab),.p (jT C.P C.G f (hr (args++a)) r)],c)
  |_=>ak
 |_=>ak
def IM(C:dV)(d:Option Tmp)(c:List V)(H:Nat->Option E)(u:Nat->Bool)(i:List cG):jb:=
 match c with
 | .fn f h::args=>match i with
  | .dB L a r out::i=>match tX L (hr (args++h)),u1 L H L,Cs (L++a)&&BM u a&&b8 out.length (L++a).length with
   |some b,aa fu,ab=>aa (⟨e9 d (r.ej (L++a)),(L++a).zip (out.map λe=>aa (e.ej (L++a))),(L++a).map λk=>(k,ab)⟩,[.p (hY C.P C.G f fu b r out)],i)
   |_,_,_=>ak
  |_=>ak
 |_=>ak
def HI(C:dV)(t:TypeId)(H:Nat->Option E)(v:V)(n:List cG):jb:=
 match dC C.cE t with
 |none=>ak
 |some i=>match i.u with
  | .slice e=>match dC C.cE e with
   |none=>ak
   |some j=>match v,n,k5 (d7 j.z).cs with
    | .bf k gen size c len,.rows R::n,aa o=>match H k,(d7 j.z).val with
     |some (.arr x b l a),ab=>aa (⟨[],[(k,aa (.arr x b l R))],[]⟩,[.q b gen,.q l size,.q o.length size,.p (c+len<=a.length/\R=a.take c++dh len (o.map ib)++a.drop (c+len))],n)
     |some (.aC w m b a r),ab=>aa (⟨[],[(k,aa (.aC w m b R []))],[]⟩,[.q b gen,.q (U w m).size size,.q o.length size,.p (0<len/\c+len=a.length/\R=a.take c),.p (∀h,h∈r->c<=h.1)],n)
     |_,_=>ak
    |_,_,_=>ak
  |_=>ak
def H6(C:dV)(d:Option Tmp)(t:TypeId)(H:Nat->Option E)(v w:V)(n:List cG):jb:=
 match dC C.cE t with
 |none=>ak
 |some i=>match i.u with
  | .slice e=>match dC C.cE e with
   |none=>ak
   |some j=>match v,nM w,n with
    | .bf k gen size l len,.t (.bG a),.rows R:: .nat m::n=>match H k,dn 0 j.size with
     |some (.arr o h b c),ab=>aa (⟨e9 d (.t (.int .i64 m)),[(k,aa (.arr o h b R))],[]⟩,
       [.q h gen,.q b size,.q size j.size,.q m (Nat.min a.length len),.p (Rows j.size a),.p (l+len<=c.length/\R=c.take l++a.take m++c.drop (l+m))],n)
     |_,_=>ak
    |_,_,_=>ak
  |_=>ak
def Uk:List cG->Bool
 | .dB _ _ _ _::_=>ab
 |_=>al
def I'(C:dV)(o:Oper)(b:List V)(H:Nat->Option E)(u:Nat->Bool)(e:List cG):jb:=
 match j4 C.nt o.dst with
 |false=>ak
 |true=>match o.op with
  | .box _ _=>match b with
   | [v]=>match Sg e with
    |true=>H' o.dst v e
    |false=>uY o.dst u v e
   |_=>ak
  | .alloc t=>match dC C.cE t with
   |some i=>uY o.dst u (d7 i.z) e
   |none=>ak
  | .store t _ _=>match o.dst,b with
   |none,[a,v]=>match Hk C t H a v e with
    |some r=>aa r
    |none=>GZ C t H a v e
   |_,_=>ak
  | .makeSlice t _ _=>match b with
   | [v,w]=>Ik C o.dst t u v w e
   |_=>ak
  | .buildSlice t n k=>match IC C o.dst t n (k.toList.map (·.1)) u b e with
   |some r=>aa r
   |none=>Il C o.dst t n (k.toList.map (·.1)) u b e
  | .call c=>match c.callee with
   | .value _=>match Uk e with
    |true=>IM C o.dst b H u e
    |false=>match Sg e with
     |true=>II C o.dst H b e
     |false=>H9 C o.dst b e
   | .builtin .append=>match c.args.toList,c.argTypes.toList,b with
    | [_,_],[t,l],[v,w]=>match G1 C o.dst t l H v w e with
     |some r=>aa r
     |none=>Gm C o.dst t l H v w e
    |_,_,_=>ak
   | .builtin .clear=>match o.dst,c.args.toList,c.argTypes.toList,b with
    |none,[_],[t],[v]=>HI C t H v e
    |_,_,_,_=>ak
   | .builtin .copy=>match c.args.toList,c.argTypes.toList,b with
    | [_,_],[t,_],[v,w]=>H6 C o.dst t H v w e
    |_,_,_=>ak
   | .builtin _=>match yu C.P C.cE H o.op b e with
    |some (v,h,e)=>aa (⟨e9 o.dst v,[],[]⟩,h,e)
    |none=>ak
   |_=>ak
  |_=>match yu C.P C.cE H o.op b e with
   |some (v,h,e)=>aa (⟨e9 o.dst v,[],[]⟩,h,e)
   |none=>ak
theorem OT{z:Value}{a:List T}(i:(d7 z).val=ab)(k:k5 (d7 z).cs=aa a):z.cells.size=a.length/\ ∀(w:World) (X:Nat->Prop) (j:Nat) (u:Value) (x:T),z.cells[j]? =aa u->(a.map ib)[j]? =aa x->c8 w X x u:=by
 have h:=fun(w:World) (X:Nat->Prop)=>(zF (⟨λ_=>ak,λ_ _=>False⟩:Map) w X z).cells i;have e:=oX k;refine⟨by rw[(h default λ_=>False).1,e,dF],λw X j u x l b=>?_⟩;rw[eG] at b;cases c:a[j]? with
 |none=>rw[c] at b;cases b
 |some y=>
  rw[c] at b;simp only[gP,Option.some.injEq] at b;subst b
  have:=(h w X).2 j (.t y) u (by rw[e,eG,c];rfl) l;cases this with
  |t _ _ m=>exact m.zb
section steps
variable {K:Ctx}{s:S}{d:Option Tmp}{ty:TypeId}{pos:String}{af:Array Edge}{g:Option (Nat×Bool)}
variable {t:TypeId}{u:TypeDesc}{z:Value}{size bytes gen:Nat}
theorem K'(a:Array Value)(n i j:Nat)(e:i<n)(c:j<a.size):(eh a n).toList[i*a.size+j]? =a[j]? :=by
 have b:i*a.size+j<n*a.size:=by
  have:(i+1)*a.size<=n*a.size:=dQ _ e
  grind
 have h:(i*a.size+j)%a.size=j:=by rw[Nat.mul_comm,Nat.mul_add_mod];exact Nat.mod_eq_of_lt c
 simp[eh,b,h,c]
theorem aeq(x:Operand)(E c h:Nat)(e e':TypeId)(rows:List (List T))(A:List T)(hx:s.get x= .bf E gen size c h)(hH:s.H E=aa (.arr e' gen size rows))(fo:K.P.underlying t=aa (.slice e))(he:cn K.P e u z sz bytes)
  (bR:(d7 z).val=ab) (er:k5 (d7 z).cs=aa A) (G:A.length=size) (hl:c+h<=rows.length):
  dX K ⟨ak,.call {callee:= .builtin .clear,args:= #[x],argTypes:= #[t]},ty,pos,af,g⟩ s {s with H:=bb s.H E (aa (.arr e' gen size (rows.take c++dh h (A.map ib)++rows.drop (c+h))))}:=by
 intro β a w next Q b5 I
 have L:=b5.get x;rw[hx] at L;have M:=(b5.heap E _ hH).2;obtain⟨q,N⟩:=l3 M;obtain⟨oM,U⟩:=OT bR er;unfold Oper.wp;cases h with
 |zero=>
  obtain⟨ow,cap,o⟩: ∃ow cap,a.eval x= .slice ow 0 cap:=by
   rcases ff L N with ⟨cap,b,n,iB,o,_⟩|⟨_,_,_,o⟩
   ·exact⟨_,cap,o⟩
   exact⟨ak,0,o⟩
  have y:(execOp a.eval ⟨ak,.call {callee:= .builtin .clear,args:= #[x],argTypes:= #[t]},ty,pos,af,g⟩).run K.P w= .ok (.value (.tuple #[])) w:=by
   cases ow<;>simp[execOp,resolve,invoke,builtin,o,Builtin.clear_,run_underlying fo]
  rw[y]
  have:rows.take c++dh 0 (A.map ib)++rows.drop (c+0)=rows:=bl
  refine I β _ _ ?_;rw[this];exact b5.zD E _ hH
 |succ h=>
  rcases ff L N with ⟨cap,b,n,iB,o,iP,hw,hs,cR,nD,hm⟩|⟨_,_,h0,_⟩
  ·subst iP;rcases M.2 with ⟨V,_⟩|⟨cL,C,V,h2,h3,h4,h5⟩
   ·rw[N] at V;cases V
   rw[N] at V;cases V;have D:z.cells.size=size:=by rw[oM,G]
   have p:(eh z.cells (h+1)).toList.length=(h+1)*size:=by rw[l7,size_zeroCells,D]
   have mH:c*size+(h+1)*size<=C.size:=by
    have:(c+(h+1))*size<=rows.length*size:=dQ _ hl;rw[dN] at this;omega
   have r: ∀(i j:Nat) (u:Value),i<h+1->j<size->(eh z.cells (h+1)).toList[i*size+j]? =aa u->z.cells[j]? =aa u:=by
    intro i j u aL F hu;rw[<-D] at F hu
    rwa [K' _ _ _ _ aL F] at hu
   have Y: ∀v∈(eh z.cells (h+1)).toList,v.oneCell'=ab:=by
    intro v JS;obtain⟨k,I⟩:=jq.1 JS;have R:=(d0.1 I).1;rw[p] at R;have hp:0<size:=by
     rcases Nat.eq_zero_or_pos size with e0|e0
     ·rw[e0] at R;omega
     exact e0
    have hdiv:k / size<h+1:=(rI hp).2 R;have JJ:k%size<size:=rK _ hp;have pA:(eh z.cells (h+1)).toList[k / size*size+k%size]? =aa v:=by rw[zN];exact I
    have h9:=r _ _ _ hdiv JJ pA
    have:(A.map ib)[k%size]? =aa (ib A[k%size]):=by rw[eG,bC O];rfl
    exact(bB.t (β:=β) _ _ (U w (λ_=>False) _ _ _ h9 this)).hP rfl
   have pE:=run_storeCells_at K.P b (c*size) e' (eh z.cells (h+1)).toList 0 C w h2 (by rw[p];omega) Y;simp only[Nat.add_zero] at pE;have y:(execOp a.eval ⟨ak,.call {callee:= .builtin .clear,args:= #[x],argTypes:= #[t]},ty,pos,af,g⟩).run K.P w= .ok (.value (.tuple #[])) (w.setRow b (C.toList.take (c*size)++(eh z.cells (h+1)).toList++C.toList.drop (c*size+(eh z.cells (h+1)).toList.length)).toArray):=by
    simp[execOp,resolve,invoke,builtin,o,Builtin.clear_,run_underlying fo,he.rr,pE]
   rw[y];refine I β _ _ (Ov b5 E b e' rows _ C _ hH N h2 (by simp[p];omega) ?_ ?_ ?_)
   ·have:(rows.take c++dh (h+1) (A.map ib)++rows.drop (c+(h+1))).length=rows.length:=ca
    rw[this];exact h3
   ·intro m l;rw[eX,eX] at l;rcases l with (l|l)|l
    ·exact h4 m (gn l)
    ·rw[(wZ.1 l).2,dF];exact G
    exact h4 m (ft l)
   intro i j m jP rC aP a2 a3;have a3:(C.toList.take (c*size)++(eh z.cells (h+1)).toList++C.toList.drop (c*size+(eh z.cells (h+1)).toList.length))[i*size+j]? =aa rC:=by simpa using a3
   rw[p] at a3;have B:(C.toList.take (c*size)).length=c*size:=ca
   by_cases c1:i<c
   ·rw[gL,hz ca,fs,bg c1] at aP;have F:j<size:=by rw[<-h4 m (bX aP)];exact(d0.1 a2).1
    have hlt:i*size+j<c*size:=m6 c1 F;rw[gL,hz O,fs,bg hlt] at a3;exact .inl ⟨i,m,aP,a2,by simpa using a3⟩
   by_cases c2:i<c+(h+1)
   ·rw[hz ca,hS ca] at aP;have l:m=A.map ib:=by
     have:=bX aP;exact(wZ.1 this).2
    subst l;have F:j<size:=by rw[<-G,<-dF (f:=ib)];exact(d0.1 a2).1
    have e1:i*size+j=c*size+((i-c)*size+j):=by rw[uf];have:=dQ size (O:c<=i);omega
    have hlt:(i-c)*size+j<(h+1)*size:=m6 O F;rw[e1,hz (by rw[dP,B,p];omega),hS O,B,Nat.add_sub_cancel_left] at a3;exact .inr λw X=>U w X j _ _ (r _ _ _ O F a3) a2
   have W:(rows.take c++dh (h+1) (A.map ib)).length=c+(h+1):=ca
   rw[hS O,W,fv,show c+(h+1)+(i-(c+(h+1)))=i by omega] at aP;have F:j<size:=by rw[<-h4 m (bX aP)];exact(d0.1 a2).1
   have kL:c*size+(h+1)*size<=i*size+j:=by
    have:=dQ size (O:c+(h+1)<=i);rw[dN] at this;omega
   rw[hS (by rw[dP,B,p];omega),dP,B,p,fv,show c*size+(h+1)*size+(i*size+j-(c*size+(h+1)*size))=i*size+j by omega] at a3;exact .inl ⟨i,m,aP,a2,by simpa using a3⟩
  omega
theorem YR(k h l c:Nat)(x y:Operand)(e:TypeId)(rows:List (List T))(cI: ∀i,d=aa i->dn i K.nt=ab)(hx:s.get x= .bf k gen size 0 h)(hy:s.get y= .bf k gen size l c)(hH:s.H k=aa (.arr e gen size rows))
  (fo:K.P.underlying t=aa (.slice e)) (he:cn K.P e u z size bytes) (hp:0<size) (h1:h+c<=rows.length) (h2:l+c<=rows.length):
  dX K ⟨d,.call {callee:= .builtin .append,args:= #[x,y],argTypes:= #[t,t]},ty,pos,af,g⟩ s
   (({s with H:=bb s.H k (aa (.arr e gen size (rows.take h++(rows.drop l).take c++rows.drop (h+c))))}:S).put d (.bf k gen size 0 (h+c))):=by
 intro β a w next Q b5 hkk
 have I:=b5.get x;rw[hx] at I;have kO:=b5.get y;rw[hy] at kO;have hK:=(b5.heap k _ hH).2;have jj:=hK.1;obtain⟨q,M⟩:=l3 hK;obtain⟨_,i,mI,hi2,lW,sV⟩:=id he;unfold Oper.wp;cases c with
 |zero=>
  obtain⟨ow,cap,N⟩: ∃ow cap,a.eval y= .slice ow 0 cap:=by
   rcases ff kO M with ⟨cap,b,n,iB,p,_⟩|⟨_,_,_,p⟩
   ·exact⟨_,cap,p⟩
   exact⟨ak,0,p⟩
  have ahQ:rows.take h++(rows.drop l).take 0++rows.drop (h+0)=rows:=bl
  have G:(execOp a.eval ⟨d,.call {callee:= .builtin .append,args:= #[x,y],argTypes:= #[t,t]},ty,pos,af,g⟩).run K.P w= .ok (.value (a.eval x)) w:=by
   rcases ff I M with ⟨Q1,b,n,iB,p,_,_,_,_,hl,_⟩|⟨_,_,_,p⟩
   ·cases ow<;>simp[execOp,resolve,invoke,builtin,p,N,Builtin.append_,run_underlying fo,sizeOf,typeInfo,mI,Builtin.lenOf,Builtin.firstCells,hl,storeCells,loadCells,loadCellsFrom]
   cases ow<;>simp[execOp,resolve,invoke,builtin,p,N,Builtin.append_,run_underlying fo,sizeOf,typeInfo,mI,Builtin.lenOf,Builtin.firstCells,loadCells,loadCellsFrom]
  rw[G];refine hkk β _ w ?_;have ji:bb s.H k (aa (E.arr e gen size rows))=s.H:=by
   funext j;by_cases D:j=k
   ·subst D;rw[cy,hH]
   rw[cu _ _ _ _ D]
  rw[ahQ,ji];exact b5.put d cI I
 |succ c=>
  rcases ff kO M with ⟨I5,b,n,iB,N,iP,hw,hs,cR,nD,hm⟩|⟨_,_,h0,_⟩
  ·subst iP;rcases ff I M with ⟨A,h7,wb,SO,p,lb,s6,U,nE,ahq,vC⟩|⟨h0,_⟩
   ·cases lb;rcases hK.2 with ⟨g1,_⟩|⟨cL,B,g1,g2,g3,g4,g5⟩
    ·rw[M] at g1;cases g1
    rw[M] at g1;cases g1;have R7:B.size=wb:=by
     unfold World.shape? at U;rw[g2] at U;simp at U;exact U.2
    obtain⟨C,R'⟩: ∃C,C=(B.toList.drop (l*size)).take ((c+1)*size):=⟨_,rfl⟩
    have hle:(l+(c+1))*size<=B.size:=eO (dQ _ h2) g3;rw[dN] at hle;have F:C.length=(c+1)*size:=by rw[R'];simp;omega
    have L: ∀j v,C[j]? =aa v->B[l*size+j]? =aa v/\j<(c+1)*size:=λj v bR=>by
     have D:=(d0.1 bR).1;rw[F] at D;rw[R',fs,bg D,fv] at bR;exact⟨by simpa using bR,D⟩
    have V: ∀r,r<rows.length-> ∃m,rows[r]? =aa m/\m.length=size:=λr vB=>⟨_,bC vB,g4 _ (fW vB)⟩
    have yE: ∀j v,C[j]? =aa v->w.cell? ((⟨b,l*size,ak⟩:Addr).add j)=aa v:=λj v bR=>by
     rw[jC];simp only[World.cell?,g2];exact(L j v bR).1
    have nF: ∀v,v∈C->v.oneCell'=ab:=λv bR=>by
     obtain⟨j,D⟩:=jq.1 bR;obtain⟨h3,h4⟩:=L j v D;have JJ:j%size<size:=rK _ hp;have hdiv:j / size<c+1:=(rI hp).2 h4;obtain⟨m,oJ,vE⟩:=V (l+j / size) O;have JA:(l+j / size)*size+j%size=l*size+j:=by rw[dN,nU,zN]
     exact(g5 (l+j / size) (j%size) m m[j%size] v oJ (bC O) (by rw[JA];exact h3)).hP
    have mH:h*size+C.length<=B.size:=by
     rw[F,<-dN];exact eO (dQ _ h1) g3
    have R:h+(c+1)<=A:=by
     have:(h+(c+1))*size<=A*size:=by
      rw[dy] at nE;rw[nE,<-R7];exact eO (dQ _ h1) g3
     exact Nat.le_of_mul_le_mul_right this hp
    have W:=run_append_room (P:=K.P) w t ty e i fo mI b h A B g2 ⟨b,l*size,ak⟩ (c+1) I5 C (by rw[lW];exact F) yE nF R (by rw[lW];exact mH);rw[lW] at W;have G:(execOp a.eval ⟨d,.call {callee:= .builtin .append,args:= #[x,y],argTypes:= #[t,t]},ty,pos,af,g⟩).run K.P w= .ok (.value (.slice (aa ⟨b,0,ak⟩) (h+(c+1)) A)) (w.setRow b (B.toList.take (h*size)++C++B.toList.drop (h*size+C.length)).toArray):=by
     rw[gN] at p;simp[execOp,resolve,invoke,builtin,p,N,W]
    rw[G];have Y:(B.toList.take (h*size)).length=h*size:=ca
    have R5:(B.toList.take (h*size)++C++B.toList.drop (h*size+C.length)).toArray.size=B.size:=ca
    have X:(rows.take h).length=h:=by rw[c6];omega
    have f:((rows.drop l).take (c+1)).length=c+1:=by rw[c6,fN];omega
    have hrel:=Ov b5 k b e rows (rows.take h++(rows.drop l).take (c+1)++rows.drop (h+(c+1))) B _ hH M g2 R5 ?_ ?_ ?_
    ·refine hkk β _ _ (hrel.put d cI ?_);have jD:bB β (w.setRow b (B.toList.take (h*size)++C++B.toList.drop (h*size+C.length)).toArray) (own K β (bb s.H k (aa (.arr e gen size (rows.take h++(rows.drop l).take (c+1)++rows.drop (h+(c+1))))))) (.bf k gen size 0 (h+(c+1))) (.slice (aa ⟨b,0*size,ak⟩) (h+(c+1)) A):=by
      refine .bf k gen size 0 _ A b wb e jj M (by simpa using s6) ?_ nE R vC;unfold World.shape?;rw[setRow_heap _ _ _ _ _ _ g2];simp only[R5,R7]
     rw[gN] at jD;exact jD
    ·rw[dP,dP,X,f,fN]
     have:h+(c+1)+(rows.length-(h+(c+1)))=rows.length:=O
     rw[this];exact g3
    ·intro m o;rw[eX,eX] at o;rcases o with (o|o)|o
     ·exact g4 m (gn o)
     ·exact g4 m (ft (gn o))
     exact g4 m (ft o)
    intro r j m jP rC aP a2 a3;have a3:(B.toList.take (h*size)++C++B.toList.drop (h*size+C.length))[r*size+j]? =aa rC:=by simpa using a3
    refine .inl ?_;by_cases c1:r<h
    ·rw[gL,hz O,fs,bg c1] at aP;have D:j<size:=by rw[<-g4 m (bX aP)];exact(d0.1 a2).1
     have hlt:r*size+j<h*size:=m6 c1 D;rw[gL,hz O,fs,bg hlt] at a3;exact⟨r,m,aP,a2,by simpa using a3⟩
    by_cases c2:r<h+(c+1)
    ·rw[hz (by rw[dP];omega),hS O,X,fs,bg O,fv] at aP;have D:j<size:=by rw[<-g4 m (bX aP)];exact(d0.1 a2).1
     have e1:r*size+j=h*size+((r-h)*size+j):=by rw[uf];have:=dQ size (O:h<=r);omega
     have hlt:(r-h)*size+j<(c+1)*size:=m6 O D;rw[e1,hz (by rw[dP,Y,F];omega),hS O,Y,Nat.add_sub_cancel_left] at a3;have h9:=(L _ _ a3).1;exact⟨l+(r-h),m,aP,a2,by rw[dN,nU];exact h9⟩
    have ahr:(rows.take h++(rows.drop l).take (c+1)).length=h+(c+1):=by rw[dP,X,f]
    rw[hS O,ahr,fv,show h+(c+1)+(r-(h+(c+1)))=r by omega] at aP;have D:j<size:=by rw[<-g4 m (bX aP)];exact(d0.1 a2).1
    have kL:h*size+(c+1)*size<=r*size+j:=by
     have:=dQ size (O:h+(c+1)<=r);rw[dN] at this;omega
    rw[hS (by rw[dP,Y,F];omega),dP,Y,F,fv,show h*size+(c+1)*size+(r*size+j-(h*size+(c+1)*size))=r*size+j by omega] at a3;exact⟨r,m,aP,a2,by simpa using a3⟩
   rw[M] at *; cases h0
  omega
theorem XU(k L:Nat)(x y:Operand)(e:TypeId)(R:E)(f: ∀i,d=aa i->dn i K.nt=ab)(j:s.get x= .bf k gen size 0 L)(v:dI (s.get y) (.t (.bG [])))(I:s.H k=aa R)(M:R.gen=aa gen)
  (W:K.P.underlying t=aa (.slice e)) (N:cn K.P e u z size bytes) (T:0<size):
  dX K ⟨d,.call {callee:= .builtin .append,args:= #[x,y],argTypes:= #[t,t]},ty,pos,af,g⟩ s (s.put d (.bf k gen size 0 L)):=by
 intro U a w next Q C D
 have h:=C.get x;rw[j] at h;have F:=v _ _ _ _ (C.get y);have G:=(C.heap k _ I).2;obtain⟨_,q,V⟩:=n0 G M;obtain⟨_,i,p,Y,lW,sV⟩:=id N;unfold Oper.wp;obtain⟨m,cap,r⟩: ∃m cap,a.eval y= .slice m 0 cap:=by
  rcases Bg F (Rows.nil size) T with (⟨A,_⟩|⟨b,o,c,_,A,_⟩)|⟨_,m,cap,A⟩
  ·exact⟨ak,0,A⟩
  ·exact⟨_,c,A⟩
  exact⟨m,cap,A⟩
 have B:(execOp a.eval ⟨d,.call {callee:= .builtin .append,args:= #[x,y],argTypes:= #[t,t]},ty,pos,af,g⟩).run K.P w= .ok (.value (a.eval x)) w:=by
  rcases ff h V with ⟨X,b,n,iB,l,_,_,_,_,hl,_⟩|⟨_,_,_,l⟩
  ·cases m<;>simp[execOp,resolve,invoke,builtin,l,r,Builtin.append_,run_underlying W,sizeOf,typeInfo,p,Builtin.lenOf,Builtin.firstCells,hl,storeCells,loadCells,loadCellsFrom]
  cases m<;>simp[execOp,resolve,invoke,builtin,l,r,Builtin.append_,run_underlying W,sizeOf,typeInfo,p,Builtin.lenOf,Builtin.firstCells,loadCells,loadCellsFrom]
 rw[B];exact D U _ w (C.put d f h)
theorem XV(k l h len:Nat)(x y:Operand)(e:TypeId)(Γ:List dw)(m:Nat)(c:List (List T))(cI: ∀i,d=aa i->dn i K.nt=ab)(hx:s.get x= .bf k gen size 0 l)(hy:s.get y= .bf k gen size h len)(hH:s.H k=aa (.aC Γ m gen c []))
  (la:(U Γ m).size=size) (j':(U Γ m).ty=e) (fo:K.P.underlying t=aa (.slice e)) (he:cn K.P e u z size bytes) (hp:0<size) (h0:0<len) (h1:l<=h) (h2:h+len=c.length):
  dX K ⟨d,.call {callee:= .builtin .append,args:= #[x,y],argTypes:= #[t,t]},ty,pos,af,g⟩ s
   (({s with H:=bb s.H k (aa (.aC Γ m gen (c.take l++(c.drop h).take len++c.drop (l+len)) (tT (l+len) (h-l) size)))}:S).put d (.bf k gen size 0 (l+len))):=by
 intro β a w next Q b5 hkk
 have yO:=b5.get x;rw[hx] at yO;have kO:=b5.get y;rw[hy] at kO;have hK:=(b5.heap k _ hH).2;have jj:=hK.1;obtain⟨q,dp⟩:=rN hK;obtain⟨_,i,mI,hi2,lW,sV⟩:=id he;unfold Oper.wp;rcases ff kO dp with ⟨I5,b,n,iB,aib,iP,hw,hs,cR,nD,hm⟩|⟨_,_,Ji,_⟩
 ·subst iP;rcases ff yO dp with ⟨r,h7,wb,SO,mK,lb,s6,R,nE,ahq,vC⟩|⟨Ji,_⟩
  ·cases lb;rcases hK.2 with ⟨g1,_⟩|⟨cL,C,B,g1,M,g3,g4,g5,g6,g7,g8⟩
   ·rw[dp] at g1;cases g1
   rw[dp] at g1;cases g1;rw[la] at g3 g4 g5;have N:C.size=wb:=by
    unfold World.shape? at R;rw[M] at R;simp at R;exact R.2
   obtain⟨D,F⟩: ∃D,D=(C.toList.drop (h*size)).take (len*size):=⟨_,rfl⟩
   have hle:(h+len)*size<=C.size:=by rw[h2];exact g3
   rw[dN] at hle;have W:D.length=len*size:=by rw[F];simp;omega
   have V: ∀j v,D[j]? =aa v->C[h*size+j]? =aa v/\j<len*size:=λj v L=>by
    have f:=(d0.1 L).1;rw[W] at f;rw[F,fs,bg f,fv] at L;exact⟨by simpa using L,f⟩
   have E: ∀gW,gW<c.length-> ∃p,c[gW]? =aa p/\p.length=size:=λgW vB=>⟨_,bC vB,g4 _ (fW vB)⟩
   have yE: ∀j v,D[j]? =aa v->w.cell? ((⟨b,h*size,ak⟩:Addr).add j)=aa v:=λj v L=>by
    rw[jC];simp only[World.cell?,M];exact(V j v L).1
   have nF: ∀v,v∈D->v.oneCell'=ab:=λv L=>by
    obtain⟨j,f⟩:=jq.1 L;obtain⟨h3,h4⟩:=V j v f;have JJ:j%size<size:=rK _ hp;have hdiv:j / size<len:=(rI hp).2 h4;obtain⟨p,oJ,vE⟩:=E (h+j / size) O;have JA:(h+j / size)*size+j%size=h*size+j:=by rw[dN,nU,zN]
    exact(g5 (h+j / size) (j%size) p p[j%size] v oJ (bC O) (by rw[JA];exact h3)).none.hP
   have mH:l*size+D.length<=C.size:=by
    rw[W,<-dN];exact eO (dQ _ O) g3
   have G:l+len<=r:=by
    have:(l+len)*size<=r*size:=by
     rw[dy] at nE;rw[nE,<-N];exact eO (dQ _ O) g3
    exact Nat.le_of_mul_le_mul_right this hp
   have A:=run_append_room (P:=K.P) w t ty e i fo mI b l r C (j'▸M) ⟨b,h*size,ak⟩ len I5 D (by rw[lW];exact W) yE nF G (by rw[lW];exact mH);rw[lW] at A;generalize vH:(C.toList.take (l*size)++D++C.toList.drop (l*size+D.length)).toArray=I at A;have yK:(execOp a.eval ⟨d,.call {callee:= .builtin .append,args:= #[x,y],argTypes:= #[t,t]},ty,pos,af,g⟩).run K.P w= .ok (.value (.slice (aa ⟨b,0,ak⟩) (l+len) r)) (w.setRow b I):=by
    rw[gN] at mK;simp[execOp,resolve,invoke,builtin,mK,aib,A]
   rw[yK];have Dp:(C.toList.take (l*size)).length=l*size:=ca
   have Y:I.size=C.size:=by rw[<-vH];simp;omega
   have R2:(c.take l).length=l:=by rw[c6];omega
   have ahP:((c.drop h).take len).length=len:=by rw[c6,fN];omega
   have hlen:(c.take l++(c.drop h).take len++c.drop (l+len)).length=c.length:=by simp only[List.length_append,R2,ahP,List.length_drop];omega
   have yC: ∀cO:Nat,I[cO]? =(C.toList.take (l*size)++D++C.toList.drop (l*size+D.length))[cO]? :=λcO=>by rw[<-vH];simp
   obtain⟨β',Dq,hrel⟩:=b5.pick k hH la dp M Y (setRow_heap _ _ _ _ _ _ M) Mj (c.take l++(c.drop h).take len++c.drop (l+len)) (by rw[hlen];exact g3) (λp o=>by
    rw[eX,eX] at o;rcases o with (o|o)|o
    ·exact g4 p (gn o)
    ·exact g4 p (ft (gn o))
    ·exact g4 p (ft o)) (l+len) (tT (l+len) (h-l) size) (λi j v L=>⟨(B7.1 L).1,(B7.1 L).2.2.2⟩) (λi j g1 M g3=>B7.2 ⟨g1,by rw[hlen] at M;omega,g3,rfl⟩) (λi=>if i<l then i else h+(i-l)) (λi aL _=>by
    by_cases c1:i<l
    ·simp only[c1,if_true];refine⟨O,?_,λ_ _=>lv,λj f=>?_⟩
     ·rw[gL,hz O,fs,bg c1]
     have hlt:i*size+j<l*size:=m6 c1 f;rw[yC,gL,hz O,fs,bg hlt,ng]
    ·simp only[c1,if_false];refine⟨O,?_,λ_ _=>lv,λj f=>?_⟩
     ·rw[hz (by rw[dP];omega),hS O,R2,fs,bg O,fv]
     have e1:i*size+j=l*size+((i-l)*size+j):=by rw[uf];have:=dQ size (O:l<=i);omega
     have hlt:(i-l)*size+j<len*size:=m6 O f;rw[yC,e1,hz (by rw[dP,Dp,W];omega),hS O,Dp,Nat.add_sub_cancel_left,F,fs,bg hlt,fv,ng,dN,nU]) (λi gW _ _ _ _ he=>by
    by_cases c1:i<l<;>by_cases c2:gW<l<;>simp only[c1,c2,if_true,if_false] at he<;>omega)
   refine hkk β' _ _ (hrel.put d cI ?_);have jD:=bB.bf (β:=β') (w:=w.setRow b I) (X:=own K β' (bb s.H k (aa (.aC Γ m gen (c.take l++(c.drop h).take len++c.drop (l+len)) (tT (l+len) (h-l) size))))) k gen size 0 (l+len) r b wb e jj (by rw[Dq];exact dp) (by simpa using s6) (by
    unfold World.shape?;rw[setRow_heap _ _ _ _ _ _ M];simp only[Y,N,j']) nE G vC
   rw[gN] at jD;exact jD
  rw[dp] at *; cases Ji
 omega
theorem ab9(x:Operand)(F off c:Nat)(e:TypeId)(l:List dw)(m:Nat)(o:List (List T))(G:List (Nat×Nat×V))(z0:List T)(hx:s.get x= .bf F gen size off c)(hH:s.H F=aa (.aC l m gen o G))(la:(U l m).size=size)(fo:K.P.underlying t=aa (.slice e))(he:cn K.P e u z sz bytes)
  (bR:(d7 z).val=ab) (er:k5 (d7 z).cs=aa z0) (aii:z0.length=size) (h0:0<c) (hl:off+c=o.length) (oI: ∀h,h∈G->off<=h.1):
  dX K ⟨ak,.call {callee:= .builtin .clear,args:= #[x],argTypes:= #[t]},ty,pos,af,g⟩ s {s with H:=bb s.H F (aa (.aC l m gen (o.take off) []))}:=by
 subst la;obtain⟨c,rfl⟩: ∃k,c=k+1:=⟨c-1,O⟩
 intro β a w next Q b5 hk
 have L:=b5.get x;rw[hx] at L;have R:=(b5.heap F _ hH).2;obtain⟨q,dp⟩:=rN R;obtain⟨oM,aij⟩:=OT bR er;unfold Oper.wp;rcases ff L dp with ⟨cap,b,n,iB,mK,iP,hw,hs,cR,nD,hm⟩|⟨_,_,Ji,_⟩
 ·subst iP;rcases R.2 with ⟨W,_⟩|⟨cL,X,B,W,h2,h3,h4,h5,h6,lT,mF⟩
  ·rw[dp] at W;cases W
  rw[dp] at W;cases W;have p:z.cells.size=(U l m).size:=by rw[oM,aii]
  have y:(eh z.cells (c+1)).toList.length=(c+1)*(U l m).size:=by rw[l7,size_zeroCells,p]
  have mH:off*(U l m).size+(c+1)*(U l m).size<=X.size:=by
   rw[<-dN,hl];exact h3
  have f: ∀v∈(eh z.cells (c+1)).toList,v.oneCell'=ab:=by
   intro v JS;obtain⟨k,hk⟩:=jq.1 JS;have A:=(d0.1 hk).1;rw[y] at A;have hp:0<(U l m).size:=by
    rcases Nat.eq_zero_or_pos (U l m).size with e0|e0
    ·rw[e0] at A;omega
    exact e0
   have E:k / (U l m).size<c+1:=(rI hp).2 A;have r:k%(U l m).size<(U l m).size:=rK _ hp;have C:(eh z.cells (c+1)).toList[k / (U l m).size*(U l m).size+k%(U l m).size]? =aa v:=by rw[zN];exact hk
   rw[<-p] at C r;rw[K' _ _ _ _ (by rw[p];exact E) r] at C
   have:(z0.map ib)[k%z.cells.size]? =aa (ib (z0[k%z.cells.size]' O)):=by rw[eG,bC O];rfl
   exact(bB.t (β:=β) _ _ (aij w (λ_=>False) _ _ _ C this)).hP rfl
  have D:=run_storeCells_at K.P b (off*(U l m).size) (U l m).ty (eh z.cells (c+1)).toList 0 X w h2 (by rw[y];omega) f;simp only[Nat.add_zero] at D;generalize I:(X.toList.take (off*(U l m).size)++(eh z.cells (c+1)).toList++X.toList.drop (off*(U l m).size+(eh z.cells (c+1)).toList.length)).toArray=M at D;have N:(execOp a.eval ⟨ak,.call {callee:= .builtin .clear,args:= #[x],argTypes:= #[t]},ty,pos,af,g⟩).run K.P w= .ok (.value (.tuple #[])) (w.setRow b M):=by
   simp[execOp,resolve,invoke,builtin,mK,Builtin.clear_,run_underlying fo,he.rr,D]
  rw[N];have Y:M.size=X.size:=by rw[<-I];simp[y];omega
  have vG:(o.take off).length=off:=by rw[c6];omega
  obtain⟨β',Dq,hrel⟩:=b5.pick F hH rfl dp h2 Y (setRow_heap _ _ _ _ _ _ h2) Mj (o.take off) (by rw[vG];omega) (λrow vF=>h4 row (gn vF)) off [] (λ_ _ _ h=>br h lv) (λi j g1 g2 _=>by rw[vG] at g2;omega) (λi=>i) (λi aL _=>⟨O,by rw[fs,bg aL],λj v bR=>by have:=oI _ bR;exact br aL (by show¬i<off;exact Nat.not_lt.2 this),λj hj=>by
   have hlt:i*(U l m).size+j<off*(U l m).size:=m6 aL hj;rw[<-I,List.getElem?_toArray,gL,hz (by rw[c6,l7];omega),fs,bg hlt,ng]⟩) λ_ _ _ _ _ _ h=>h
  exact hk β' _ _ hrel
 omega
theorem aa4{size off:Nat}{a c:List (List T)}{us cs:List Value}(r:off+m<=a.length)(A:a.length*size<=us.length)(o:cs.length=m*size)(B:m<=c.length)(p: ∀b,b∈a->b.length=size)(e: ∀b,b∈c->b.length=size){R:T->Value->Prop}
  (q: ∀(i j:Nat) (b:List T) (x:T) (u:Value),a[i]? =aa b->b[j]? =aa x->us[i*size+j]? =aa u->R x u)
  (w: ∀(i j:Nat) (b:List T) (x:T) (u:Value),c[i]? =aa b->b[j]? =aa x->cs[i*size+j]? =aa u->R x u):
  ∀(i j:Nat) (b:List T) (x:T) (u:Value),(a.take off++c.take m++a.drop (off+m))[i]? =aa b->b[j]? =aa x->(us.take (off*size)++cs++us.drop (off*size+cs.length))[i*size+j]? =aa u->R x u:=by
 have C:off*size+m*size<=a.length*size:=by rw[<-dN];exact dQ _ r
 have y:=Bn (us.take (off*size)) cs [] (rows:=a.take off) (news:=c.take m) (n:=off) (size:=size) (by rw[c6];omega) (by rw[c6];omega) (by rw[c6,o];congr 1;omega)
  (λb h=>p b (gn h)) (λb h=>e b (gn h)) (R:=R)
  (λk j b x u aP a2 a3=>by
   rw[fs] at aP a3;split at aP
   ·split at a3
    ·exact q k j b x u aP a2 a3
    cases a3
   cases aP)
  (λk j b x u aP a2 a3=>by
   rw[fs] at aP;split at aP
   ·exact w k j b x u aP a2 a3
   cases aP)
 have l:(us.drop (off*size+cs.length)).length=us.length-(off+m)*size:=by rw[fN,o,dN]
 have fC:=Bn (us.take (off*size)++cs) ((us.drop (off*size+cs.length)).take ((a.length-(off+m))*size)) ((us.drop (off*size+cs.length)).drop ((a.length-(off+m))*size)) (rows:=a.take off++c.take m) (news:=a.drop (off+m)) (n:=off+m) (size:=size)
  (by rw[dP,c6,c6];omega) (by rw[dP,c6,o,dN];omega)
  (by
   rw[c6,l,fN]
   have:(a.length-(off+m))*size=a.length*size-(off+m)*size:=uf _ _ _;omega)
  (λb h=>by
   rcases eX.1 h with h|h
   ·exact p b (gn h)
   exact e b (gn h)) (λb h=>p b (ft h)) (R:=R) (λk j b x u aP a2 a3=>y k j b x u aP a2 (by simpa using a3))
  (λk j b x u aP a2 a3=>by
   rw[fv] at aP;rw[fs] at a3;split at a3
   ·rw[fv,o] at a3;refine q (off+m+k) j b x u aP a2 ?_;rw[dN,dN,nU];exact a3
   cases a3)
 intro i j b x u aP a2 a3;refine fC i j b x u aP a2 ?_;rw[gL _ (List.take _ _),ud];exact a3
theorem afm(x y:Operand)(E c len:Nat)(e e' l5:TypeId)(rows k:List (List T))(cI: ∀i,d=aa i->dn i K.nt=ab)(hx:s.get x= .bf E gen size c len)(hy:dI (s.get y) (.t (.bG k)))(hH:s.H E=aa (.arr e' gen size rows))(fo:K.P.underlying t=aa (.slice e))
  (he:cn K.P e u z size bytes) (hp:0<size) (I: ∀r,r∈k->r.length=size) (hl:c+len<=rows.length):
  dX K ⟨d,.call {callee:= .builtin .copy,args:= #[x,y],argTypes:= #[t,l5]},ty,pos,af,g⟩ s
   (({s with H:=bb s.H E (aa (.arr e' gen size (rows.take c++k.take (Nat.min k.length len)++rows.drop (c+Nat.min k.length len))))}:S).put d (.t (.int .i64 (Nat.min k.length len:Nat)))):=by
 intro β a w next Q b5 hk
 have M:=b5.get x;rw[hx] at M;have kO:=hy _ _ _ _ (b5.get y);have N:=(b5.heap E _ hH).2;obtain⟨q,U⟩:=l3 N;obtain⟨_,i,mI,hi2,lW,sV⟩:=he;unfold Oper.wp;have ah8: ∃C c1,a.eval x= .slice C len c1:=by
  rcases ff M U with ⟨D,b,n,iB,B,_⟩|⟨_,_,h0,B⟩
  ·exact⟨_,D,B⟩
  subst h0;exact⟨ak,0,B⟩
 have W:=Bg kO I hp;have aid: ∃Kt c2,a.eval y= .slice Kt k.length c2:=by
  rcases W with (⟨A,X⟩|⟨b,c,D,G,A,_⟩)|⟨X,ow,D,A⟩
  ·subst X;exact⟨ak,0,A⟩
  ·exact⟨_,_,A⟩
  subst X;exact⟨ow,D,A⟩
 obtain⟨m,hm⟩: ∃m,m=Nat.min k.length len:=⟨_,rfl⟩
 rw[<-hm] at hk;by_cases V:m=0
 ·subst V;obtain⟨C,c1,B⟩:=ah8;obtain⟨Kt,c2,A⟩:=aid;have F:(execOp a.eval ⟨d,.call {callee:= .builtin .copy,args:= #[x,y],argTypes:= #[t,l5]},ty,pos,af,g⟩).run K.P w= .ok (.value (goInt ((0:Nat):Int))) w:=by
   cases C<;>cases Kt<;>simp[execOp,resolve,invoke,builtin,B,A,Builtin.copy_,run_underlying fo,sizeOf,typeInfo,mI,Builtin.lenOf,Builtin.firstCells,<-hm,loadCells,loadCellsFrom,storeCells]
  rw[F]
  have:rows.take c++k.take 0++rows.drop (c+0)=rows:=bl
  rw[this] at hk;exact hk β _ _ ((b5.zD E _ hH).put d cI (.t _ _ (.int _ _)))
 have aj':m<=len:=by rw[hm];exact Nat.min_le_right _ _
 have o:m<=k.length:=by rw[hm];exact Nat.min_le_left _ _
 rcases W with (⟨_,X⟩|⟨cL,ajc,C3,f,A,oL,JV,mJ,hwr⟩)|⟨X,_⟩
 ·subst X;simp at o;exact br o V
 ·rcases ff M U with ⟨D,b,n,iB,B,iP,hw,hs,X,nD,pB⟩|⟨_,_,h0,_⟩
  ·subst iP;rcases N.2 with ⟨h1,_⟩|⟨Y,G,h1,h2,h3,h4,h5⟩
   ·rw[U] at h1;cases h1
   rw[U] at h1;cases h1;have L:(f.take (m*size)).length=m*size:=by rw[c6,oL];have:=dQ size o;omega
   have mH:c*size+m*size<=G.size:=by
    have:(c+m)*size<=rows.length*size:=dQ _ O;rw[dN] at this;omega
   have RN:=run_loadCells_list (P:=K.P) w ⟨cL,ajc,ak⟩ (f.take (m*size)) (λj y hj=>by
    rw[jC];rw[fs] at hj;split at hj
    ·exact JV j y hj
    cases hj)
   have pE:=run_storeCells_at K.P b (c*size) e' (f.take (m*size)) 0 G w h2 (by rw[L];omega) λv bR=>mJ v (gn bR);simp only[Nat.add_zero] at pE;rw[L] at RN;have F:(execOp a.eval ⟨d,.call {callee:= .builtin .copy,args:= #[x,y],argTypes:= #[t,l5]},ty,pos,af,g⟩).run K.P w= .ok (.value (goInt (m:Int))) (w.setRow b (G.toList.take (c*size)++f.take (m*size)++G.toList.drop (c*size+(f.take (m*size)).length)).toArray):=by
    simp[execOp,resolve,invoke,builtin,B,A,Builtin.copy_,run_underlying fo,sizeOf,typeInfo,mI,lW,Builtin.lenOf,Builtin.firstCells,<-hm,RN,pE]
   rw[F];have kN:(G.toList.take (c*size)++f.take (m*size)++G.toList.drop (c*size+(f.take (m*size)).length)).toArray.size=G.size:=by
    have h2: ∀l:List Value,l.toArray.size=l.length:=λl=>bl
    rw[h2];simp only[List.length_append,L,List.length_take,List.length_drop,Array.length_toList];omega
   have hlen:(rows.take c++k.take m++rows.drop (c+m)).length=rows.length:=ca
   have ka:own K β s.H b:= .inr ⟨E,by rw[hH];simp,.inl ⟨_,U⟩⟩;refine hk β _ _ (Rel.put (Rel.setRow b5 E b (.inl ⟨_,U⟩) G e' h2 _ kN (.arr e' gen size (rows.take c++k.take m++rows.drop (c+m))) (by rw[hH];simp)
    ⟨N.1,Or.inr ⟨b,_,U,setRow_heap _ _ _ _ _ _ h2,by rw[kN,hlen];exact h3,λr p=>?_,λi j r x u aP a2 a3=>?_⟩⟩) d cI (.t _ _ (.int _ _)))
   ·rw[eX,eX] at p;rcases p with (p|p)|p
    ·exact h4 r (gn p)
    ·exact I r (gn p)
    exact h4 r (ft p)
   have h9:=aa4 (off:=c) (m:=m) (us:=G.toList) (cs:=f.take (m*size)) O (by simpa using h3) L o h4 I (R:=λx u=>c8 w (own K β s.H) x u) (λi j r x u dm cL Y=>h5 i j r x u dm cL (by simpa using Y))
    (λi j r x u dm cL Y=>by
     rw[fs] at Y;split at Y
     ·exact hwr i j r x u dm cL Y
     cases Y) i j r x u aP a2 (by simpa using a3)
   refine h9.mono ⟨rfl,rfl,rfl,bl,λkk _ hx=>setRow_other _ _ _ _ λe0=>hx ?_⟩ λ_ _ h=>h;subst e0;exact ka
  omega
 subst X;simp at o;exact br o V
end steps
end Go.Lift
