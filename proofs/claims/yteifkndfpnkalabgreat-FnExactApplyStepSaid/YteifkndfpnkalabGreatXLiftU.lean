/- Tools. -/
import Derived.Test.YteifkndfpnkalabGreatXLiftTV
namespace Go.Lift
open Go
open Option renaming some -> aa, none -> ak, map_some -> gN
open Bool renaming true -> ab, false -> al, and_eq_true -> cB
open Decidable renaming decide -> aj
open Go.Builtin renaming zeroCells -> ei
open List renaming replicate -> dn
open Nat renaming beq -> b7, blt -> dp, ble -> dC
section
inductive Fv where
 |bool
 |int (k:IntKind)
 |string
 |slice (e:Nat)
 |array (n e:Nat)
 |struct (alc:List (Nat×Nat))
 |R'
 |other
structure cv where
 u:Fv
 z:Value
 size:Nat
 bytes:Nat
 places:Array (Nat×Nat)
def Fv.agg:Fv->Bool
 | .struct _=>ab
 | .array _ _=>ab
 |_=>al
def cv.is(P:Program)(i:cv)(u:TypeDesc):Prop:=match i.u with
 | .bool=>u= .bool
 | .int k=>u= .int k
 | .string=>u= .string
 | .slice e=>u= .slice e
 | .array n e=>u= .array n e
 | .struct l=> ∃a,u= .struct a/\a.toList.map (λf=>(f.type,f.offset))=l/\ ∀w,(a.mapM (m:=Sem) λf:Field=>do pure (f.offset,<-sizeOf f.type)).run P w= .ok i.places w
 | .R'=> ∃m,u= .interface m
 | .other=>kC u=al
def cv.ok(P:Program)(t:TypeId)(i:cv):Prop:= ∃u,cj P t u i.z i.size i.bytes/\i.is P u
variable {P:Program}{t:TypeId}{i:cv}{a b n:Int}{k R:Type}{x:k}{r l:List k}
theorem cv.ok.agg(h:i.ok P t): ∃u,cj P t u i.z i.size i.bytes/\kC u=i.u.agg:=by
 obtain⟨u,d,b⟩:=h;refine⟨u,d,?_⟩;unfold cv.is at b;split at b
 ·rename_i a;rw[a,b];rfl
 ·rename_i a;rw[a,b];rfl
 ·rename_i a;rw[a,b];rfl
 ·rename_i a;rw[a,b];rfl
 ·rename_i a;rw[a,b];rfl
 ·rename_i a;rw[a];obtain⟨e,c,_⟩:=b;rw[c];rfl
 ·rename_i a;rw[a];obtain⟨m,c⟩:=b;rw[c];rfl
 rename_i a;rw[a,b];rfl
theorem cv.ok.iD(h:i.ok P t):(i.u= .bool->P.underlying t=aa .bool)/\(∀k,i.u= .int k->P.underlying t=aa (.int k))/\(i.u= .string->P.underlying t=aa .string)/\
  ∀e,i.u= .slice e->P.underlying t=aa (.slice e):=by obtain⟨u,c,b⟩:=h;refine⟨λa=>?_,λk a=>?_,λa=>?_,λe a=>?_⟩<;>simp only[cv.is,a] at b<;>rw[<-b]<;>exact c.1
theorem cv.ok.st{l:List (Nat×Nat)}(h:i.ok P t)(b:i.u= .struct l): ∃a,cj P t (.struct a) i.z i.size i.bytes/\a.toList.map (λf=>(f.type,f.offset))=l/\ ∀w,(a.mapM (m:=Sem) λf:Field=>do pure (f.offset,<-sizeOf f.type)).run P w= .ok i.places w:=by
 obtain⟨u,d,c⟩:=h;simp only[cv.is,b] at c
 grind
def dE:List (Nat×cv)->Nat->Option cv
 | [],_=>ak
 |(t,i)::l,k=>bif b7 t k then aa i else dE l k
def ee(P:Program)(a:List (Nat×cv)):Prop:= ∀t i,dE a t=aa i->i.ok P t
theorem ee.nil:ee P []:=λ_ _ h=>by cases h
theorem ee.cons{a:List (Nat×cv)}{t:Nat}(h:i.ok P t)(d:ee P a):ee P ((t,i)::a):=by
 intro k j b;simp only[dE] at b;cases c:b7 t k with
 |true=>rw[c] at b;cases b;rw[<-db c];exact h
 |false=>rw[c] at b;exact d k j b
inductive cG where
 |row (r:List T)
 |rows (r:List (List T))
 |str (s:List UInt8)
 |int (n:Int)
 |nat (n:Nat)
 |b (w:Bool)
 |y (b:UInt8)
 |v (v:V)
 |grow (slot k:Nat) (e:TypeId)
 |De (b j k:Nat)
 |ct (b j k:Nat) (e:TypeId)
 |len (slot n:Nat)
 |eY (b j n:Nat)
 |sS (k:Nat) (dB:List Nat)
 |bT (k:Nat) (dB blocks:List Nat)
 |bs (k cD:Nat) (dB blocks:List Nat)
 |at (rem:Nat)
 |dD (L news:List Nat) (r:V) (out:List E)
 |b3 (k:Nat) (Γ:List dy) (m:Nat)
 |en (k:Nat)
 |cZ (k cD i j:Nat) (row:List T)
 |cn (k cD:Nat) (row:List T) (R:List (List T))
 |lt (k:Nat) (Γ:List dy) (m:Nat)
 |eT (k i j:Nat) (row:List T)
 |fG (k:Nat) (row:List T) (R:List (List T))
 |Q9 (i j k:Nat) (e:TypeId)
 |cut (k n:Nat) (R:List (List T))
inductive dJ where
 |p (p:Prop)
 |q (a b:Nat)
def cI:List dJ->Prop
 | []=>True
 | .p p::l=>p/\cI l
 | .q a b::l=>a=b/\cI l
def zi:List dJ->Prop
 | []=>True
 | .p p::l=>p/\zi l
 | .q _ _::l=>zi l
def wA:List dJ->List Nat
 | []=>[]
 | .p _::l=>wA l
 | .q a _::l=>a::wA l
def wB:List dJ->List Nat
 | []=>[]
 | .p _::l=>wB l
 | .q _ b::l=>b::wB l
theorem cI.of: ∀{l:List dJ},zi l->wA l=wB l->cI l
 | [],_,_=>trivial
 | .p _::_,h,k=>⟨h.1,cI.of h.2 k⟩
 | .q _ _::_,h,k=>by simp only[wA,wB,List.cons.injEq] at k;exact⟨k.1,cI.of h k.2⟩
theorem cI.app: ∀{l m:List dJ},cI (l++m)->cI l/\cI m
 | [],_,h=>⟨trivial,h⟩
 | .p _::_,_,h=>⟨⟨h.1,(cI.app h.2).1⟩,(cI.app h.2).2⟩
 | .q _ _::_,_,h=>⟨⟨h.1,(cI.app h.2).1⟩,(cI.app h.2).2⟩
def aB{α:Type}(l:List α)(i:Int):Option α:=if 0<=i then l[i.toNat]? else ak
def sub{k:Type}(l:List k)(a b:Int):Option (List k):=if 0<=a/\a<=b/\b<=l.length then aa ((l.take b.toNat).drop a.toNat) else ak
def cat(a b:List UInt8):Option (List UInt8):=if(a.length:Int)+b.length<=9223372036854775807 then aa (a++b) else ak
def app{k:Type}(a b:List k):Option (List k):=if a.length+b.length<=1000000000 then aa (a++b) else ak
def mk{k:Type}(n:Int)(x:k):Option (List k):=if 0<=n/\n<=1000000000 then aa (dn n.toNat x) else ak
def ch{k:Type}(l:List k)(i:Int)(x:k):Option (List k):=if 0<=i/\i<l.length then aa (l.set i.toNat x) else ak
def wr(n:Int):Int:=IntKind.i64.wrap n
theorem kb{i:Int}(h:aB l i=aa x):0<=i/\l[i.toNat]? =aa x:=by
 unfold aB at h
 grind
theorem PZ{i:Int}(f:k->R)(h:aB l i=aa x):aB (l.map f) i=aa (f x):=by
 obtain⟨a,b⟩:=kb h;unfold aB
 grind
theorem Bs(h:sub l a b=aa r):0<=a/\a<=b/\b<=l.length/\r=(l.take b.toNat).drop a.toNat:=by
 unfold sub at h
 grind
theorem uq(f:k->R)(h:sub l a b=aa r):sub (l.map f) a b=aa (r.map f):=by obtain⟨c,d,e,rfl⟩:=Bs h;unfold sub;rw[bg ⟨c,d,by simpa using e⟩,List.map_drop,qh]
theorem xt{a b:List k}(h:app a b=aa r):a.length+b.length<=1000000000/\r=a++b:=by
 unfold app at h
 grind
theorem cU{a b:List k}(f:k->R)(h:app a b=aa r):app (a.map f) (b.map f)=aa (r.map f):=by
 obtain⟨c,rfl⟩:=xt h;unfold app
 grind
theorem ka(h:mk n x=aa r):0<=n/\n<=1000000000/\r=dn n.toNat x:=by
 unfold mk at h
 grind
theorem lZ(f:k->R)(h:mk n x=aa r):mk n (f x)=aa (r.map f):=by obtain⟨a,b,rfl⟩:=ka h;unfold mk;rw[bg ⟨a,b⟩,List.map_replicate]
theorem tG{i:Int}(h:ch l i x=aa r):0<=i/\i<l.length/\r=l.set i.toNat x:=by
 unfold ch at h
 grind
theorem acU{a b r:List UInt8}(h:cat a b=aa r):(a.length:Int)+b.length<=9223372036854775807/\r=a++b:=by
 unfold cat at h
 grind
mutual
def nM:V->V
 | .t .fp=> .t (.bH [])
 | .agg cs=> .agg (hq cs)
 | .bZ cs=> .bZ (hq cs)
 | .t (.bH r)=> .t (.bH r)
 | .t (.int k n)=> .t (.int k n)
 | .t (.bool b)=> .t (.bool b)
 | .t (.str s)=> .t (.str s)
 |v=>v
def hq:List V->List V
 | []=>[]
 |c::cs=>nM c::hq cs
end
mutual
theorem uP: ∀v:V,dK v (nM v)
 | .t .fp=>dK.nil
 | .t (.bH _)| .t (.int _ _)| .t (.bool _)| .t (.str _)| .t .gY| .t .gl| .t .lX| .t .err=>dK.refl _
 | .agg cs=>dK.agg (mX cs)
 | .bZ cs=>dK.bZ (mX cs)
 | .ref _ _| .aU _| .bd _ _ _ _ _| .cR _ _ _ _ _| .fn _ _| .c'=>dK.refl _
theorem mX: ∀cs:List V,fH cs (hq cs)
 | []=>trivial
 |c::cs=>⟨uP c,mX cs⟩
end
theorem tD: ∀cs:List V,(hq cs).length=cs.length
 | []=>rfl
 |c::cs=>by simp[hq,tD cs]
def qO(k:Option Nat):List V->List V
 | [.t .fp]=>match k with
  |some _=>[.t .fp]
  |none=>hq [.t .fp]
 |vs=>hq vs
theorem OJ(k:Option Nat)(a:List V):fH a (qO k a):=by
 unfold qO;split
 ·split
  ·exact fH.refl _
  exact mX _
 exact mX _
theorem LW(k:Option Nat)(a:List V):(qO k a).length=a.length:=by
 unfold qO;split
 ·split
  ·rfl
  exact tD _
 exact tD _
def zJ:V->Option T
 | .t x=>aa x
 |_=>ak
def k2:List V->Option (List T)
 | []=>aa []
 |v::a=>match zJ v,k2 a with
  |some x,aa b=>aa (x::b)
  |_,_=>ak
theorem oZ: ∀{a:List V} {b:List T},k2 a=aa b->a=b.map .t
 | [],_,h=>by cases h;rfl
 |v::a,b,h=>by
  simp only[k2] at h;split at h
  ·rename_i x e d c;cases h;have c:=oZ c;cases v<;>simp[zJ] at d;subst d;subst c;rfl
  cases h
def yc:List V->Option (List Int)
 | []=>aa []
 | .t (.int .i64 m)::a=>match yc a with
  |some ms=>aa (m::ms)
  |none=>ak
 |_=>ak
theorem Ah: ∀{a:List V} {ms:List Int},yc a=aa ms->a=ms.map Y
 | [],_,h=>by cases h;rfl
 |v::a,ms,h=>by
  unfold yc at h;split at h
  ·rename_i b;cases b
  ·rename_i m c b;cases b;split at h
   ·rename_i d e;cases h;rw[Ah e];rfl
   cases h
  cases h
abbrev hX:=Option (V×List dJ×List cG)
def QH(a:BinOp)(m n:Int):Option Bool:=
 match a with
 | .eql=>aa (aj (m=n))
 | .neq=>aa (!decide (m=n))
 | .lss=>aa (aj (m<n))
 | .leq=>aa (aj (m<=n))
 | .gtr=>aa (aj (n<m))
 | .geq=>aa (aj (n<=m))
 |_=>ak
def P9(a:BinOp):Bool:=
 match a with
 | .and| .or| .xor| .andNot=>ab
 |_=>al
def IC(op:BinOp)(k:IntKind)(m n:Int)(a:List cG):hX:=
 match op with
 | .add=>aa (.t (.int k (k.wrap (m+n))),[],a)
 | .sub=>aa (.t (.int k (k.wrap (m-n))),[],a)
 | .mul=>aa (.t (.int k (k.wrap (m*n))),[],a)
 | .quo=>aa (.t (.int k (k.wrap (m.tdiv n))),[.p (n≠0)],a)
 | .rem=>aa (.t (.int k (m.tmod n)),[.p (n≠0)],a)
 | .and=>aa (.t (.int k (bits .and k m n)),[],a)
 | .or=>aa (.t (.int k (bits .or k m n)),[],a)
 | .xor=>aa (.t (.int k (bits .xor k m n)),[],a)
 | .andNot=>aa (.t (.int k (bits .andNot k m n)),[],a)
 | .shl| .shr=>ak
 |op=>match QH op m n with
  |some b=>aa (.t (.bool b),[],a)
  |none=>ak
def Ix(b:BinOp)(m n:List UInt8)(a:List cG):hX:=
 match b,a with
 | .add,.str r::a=>aa (.t (.str r),[.p (cat m n=aa r)],a)
 | .eql,a=>aa (.t (.bool (aj (m=n))),[],a)
 | .neq,a=>aa (.t (.bool (!decide (m=n))),[],a)
 | .geq,a=>aa (.t (.bool (!Op.bytesLess m n)),[],a)
 | .lss,a=>aa (.t (.bool (Op.bytesLess m n)),[],a)
 | .gtr,a=>aa (.t (.bool (!Op.bytesLess m n&& !m==n)),[],a)
 | .leq,a=>aa (.t (.bool (Op.bytesLess m n||m==n)),[],a)
 |_,_=>ak
def HG:Option cv->Bool
 |some i=>match i.u with
  | .bool=>ab
  |_=>al
 |none=>al
def Iu(P:Program)(e:List (Nat×cv))(d:BinOp)(t:TypeId)(v w:V)(a:List cG):hX:=
 match v,w with
 | .t (.int k m),.t (.int h n)=>if k=h then IC d k m n a else ak
 | .t (.str m),.t (.str n)=>Ix d m n a
 | .t (.bool p),.t (.bool q)=>match HG (dE e t),d with
  |true,.eql=>aa (.t (.bool (p==q)),[],a)
  |true,.neq=>aa (.t (.bool (!(p==q))),[],a)
  |_,_=>ak
 | .agg cs,.agg i=>match yc cs,yc i,d,a with
  |some ms,aa c,.eql,.b b::a=>aa (.t (.bool b),[.p (Bi P t ms.length),.q c.length ms.length,.p (aj (ms=c)=b)],a)
  |some ms,aa c,.neq,.b b::a=>aa (.t (.bool (!b)),[.p (Bi P t ms.length),.q c.length ms.length,.p (aj (ms=c)=b)],a)
  |_,_,_,_=>ak
 |_,_=>ak
def Ip:Option cv->Bool
 |some i=>match i.u with
  | .R'=>ab
  |_=>al
 |none=>al
def pP:Operand->Bool
 | .const _=>ab
 |_=>al
def ID(b:List (Nat×cv))(c:BinOp)(t:TypeId)(x y:Operand)(v w:V)(a:List cG):hX:=
 match Ip (dE b t),pP x||pP y,v,w,c with
 |true,ab,.t .err,.t .gl,.eql=>aa (.t (.bool al),[],a)
 |true,ab,.t .err,.t .gl,.neq=>aa (.t (.bool ab),[],a)
 |true,ab,.t .gl,.t .gl,.eql=>aa (.t (.bool ab),[],a)
 |true,ab,.t .gl,.t .gl,.neq=>aa (.t (.bool al),[],a)
 |_,_,_,_,_=>ak
def IJ(c:UnOp)(v:V)(a:List cG):hX:=
 match c,v with
 | .not,.t (.bool b)=>aa (.t (.bool (!b)),[],a)
 | .neg,.t (.int k n)=>aa (.t (.int k (k.wrap (0-n))),[],a)
 |_,_=>ak
def GX(a:List (Nat×cv)):Option cv->Bool
 |some i=>match i.u with
  | .slice e=>match dE a e with
   |some j=>match j.u with
    | .int .u8=>ab
    |_=>al
   |none=>al
  |_=>al
 |none=>al
def H2(c:List (Nat×cv))(d e:TypeId)(v:V)(a:List cG):hX:=
 match dE c d,dE c e with
 |some i,aa j=>match j.u,v,a with
  | .int h,.t (.int _ n),.int m::a=>aa (.t (.int h m),[.p (h.wrap n=m)],a)
  | .int .u8,.t (.int _ n),.y m::a=>aa (.t (.int .u8 (m.toNat:Nat)),[.p (UInt8.ofInt n=m)],a)
  | .string,.t (.bH b),.str l::a=>match GX c (aa i) with
   |true=>aa (.t (.str l),[.p (b=l.map p')],a)
   |false=>ak
  |_,_,_=>ak
 |_,_=>ak
def uI(m:List (Nat×cv))(H:Nat->Option E)(t:TypeId)(v:V)(e:List cG):hX:=
 match dE m t with
 |none=>ak
 |some i=>match v with
  | .ref id a=>match H id with
   |some (.cells cs)=>match i.u.agg with
    |true=>match dC (a+i.size) cs.length with
     |true=>aa (.agg ((cs.drop a).take i.size),[],e)
     |false=>ak
    |false=>match cs[a]? with
     |some c=>aa (c,[],e)
     |none=>ak
   |_=>ak
  | .aU cs=>match i.u.agg with
   |true=>match dC i.size cs.length with
    |true=>aa (.agg ((cs.take i.size).map .t),[],e)
    |false=>ak
   |false=>match cs with
    |c::_=>aa (.t c,[],e)
    | []=>ak
  | .cR id gen l k a=>match H id,i.u.agg,e with
   |some (.arr _ b h d),al,.row r::e=>match r[a]? with
    |some c=>aa (.t c,[.q b gen,.q h l,.p (d[k]? =aa r)],e)
    |none=>ak
   |some (.arr _ b h d),ab,.row r::e=>match dC (a+i.size) r.length with
    |true=>aa (.agg (((r.drop a).take i.size).map .t),[.q b gen,.q h l,.p (d[k]? =aa r)],e)
    |false=>ak
   |_,_,_=>ak
  |_=>ak
def sD(j:Nat):List (Nat×Nat×V)->Option (Nat×V)
 | []=>ak
 |h::a=>bif b7 h.2.1 j then aa (h.1,h.2.2) else sD j a
def ss(a:List (Nat×Nat×V)):Nat->Nat->Option (List (Nat×V))
 |_,0=>aa []
 |j,n+1=>match sD j a,ss a (j+1) n with
  |some x,aa l=>aa (x::l)
  |_,_=>ak
def sy(k:Nat):List (Nat×V)->List dJ
 | []=>[]
 |x::l=> .q x.1 k::sy k l
def qP(i j:Nat):List (Nat×Nat×V)->List dJ
 | []=>[]
 |h::a=>bif b7 h.2.1 j then .p (i≠h.1)::qP i j a else qP i j a
theorem uy{i j:Nat}: ∀{b:List (Nat×Nat×V)},cI (qP i j b)-> ∀v,(i,j,v)∉b
 | [],_,_,h=>by cases h
 |h::b,a,v,hm=>by
  unfold qP at a;cases c:b7 h.2.1 j with
  |true=>
   rw[c] at a;rcases eh.1 hm with rfl|hm
   ·exact a.1 rfl
   exact uy a.2 v hm
  |false=>
   rw[c] at a;rcases eh.1 hm with rfl|hm
   ·simp at c
   exact uy a v hm
def Ha(x:List (Nat×cv))(H:Nat->Option E)(t:TypeId)(v:V)(e:List cG):hX:=
 match dE x t,v,e with
 |some i,.cR id gen n k a,.row r::e=>match H id with
  |some (.aC h m b d o)=>match i.u.agg with
   |false=>match r[a]?,sD a o with
    |some c,ak=>match (U h m).ed a with
     |none=>aa (.t c,[.q b gen,.q (U h m).size n,.p (d[k]? =aa r)],e)
     |some _=>ak
    |some _,aa (s,w)=>aa (w,[.q b gen,.q (U h m).size n,.p (d[k]? =aa r),.q s k],e)
    |none,_=>ak
   |true=>match dC (a+i.size) r.length,ss o a i.size with
    |true,aa l=>aa (.agg (l.map (·.2)),.q b gen:: .q (U h m).size n:: .p (d[k]? =aa r)::sy k l,e)
    |_,_=>ak
  |_=>ak
 |some i,.cR id gen n k a,.int q:: .row r::e=>match H id with
  |some (.aC h m b d o)=>match i.u.agg,r[a]?,o[q.toNat]? with
   |false,aa _,aa (s,y,w)=>aa (w,[.q b gen,.q (U h m).size n,.p (d[k]? =aa r),.q s k,.q y a],e)
   |true,_,_=>match dC (a+i.size) r.length,ss (o.drop q.toNat) a i.size with
    |true,aa l=>aa (.agg (l.map (·.2)),.q b gen:: .q (U h m).size n:: .p (d[k]? =aa r)::sy k l,e)
    |_,_=>ak
   |_,_,_=>ak
  |_=>ak
 |some i,.cR id gen n k a,.nat _:: .row r::e=>match H id with
  |some (.aC h m b d o)=>match i.u.agg,r[a]?,(U h m).ed a with
   |false,aa c,ak=>aa (.t c,.q b gen:: .q (U h m).size n:: .p (d[k]? =aa r)::qP k a o,e)
   |_,_,_=>ak
  |_=>ak
 |_,_,_=>ak
def IF(d:List (Nat×cv))(t:TypeId)(k:Nat)(v:V)(e:List cG):hX:=
 match dE d t with
 |none=>ak
 |some i=>match i.u with
  | .struct h=>match h[k]? with
   |none=>ak
   |some a=>match dE d a.1 with
    |none=>ak
    |some j=>match v with
     | .agg b=>match j.u.agg with
      |true=>match dC (a.2+j.size) b.length with
       |true=>aa (.agg ((b.drop a.2).take j.size),[],e)
       |false=>ak
      |false=>match b[a.2]? with
       |some c=>aa (c,[],e)
       |none=>ak
     |_=>ak
  |_=>ak
def Hc(l:List (Nat×cv))(H:Nat->Option E)(t:TypeId)(k:Nat)(v:V)(d:List cG):hX:=
 match dE l t with
 |none=>ak
 |some i=>match i.u with
  | .struct m=>match m[k]? with
   |none=>ak
   |some a=>match dE l a.1 with
    |none=>ak
    |some j=>match b7 j.size 0 with
     |true=>ak
     |false=>match v with
      | .ref id c=>aa (.ref id (c+a.2),[],d)
      | .aU cs=>aa (.aU (cs.drop a.2),[],d)
      | .cR id gen e n c=>match H id with
       |some (.arr _ b h _)=>aa (.cR id gen e n (c+a.2),[.q b gen,.q h e],d)
       |some (.aC _ _ b _ _)=>aa (.cR id gen e n (c+a.2),[.q b gen],d)
       |_=>ak
      |_=>ak
  |_=>ak
def IE(l:List (Nat×cv))(H:Nat->Option E)(t:TypeId)(v w:V)(d:List cG):hX:=
 match dE l t with
 |none=>ak
 |some i=>match i.u with
  | .slice e=>match dE l e with
   |none=>ak
   |some j=>match v,w with
    | .t (.bH h),.t (.int .i64 n)=>match d with
     | .row r::d=>match b7 r.length j.size with
      |true=>aa (.aU r,[.p (aB h n=aa r)],d)
      |false=>ak
     |_=>ak
    | .bd id gen a c len,.t (.int .i64 n)=>match H id,b7 a j.size with
     |some (.arr _ b o _),ab=>aa (.cR id gen a (c+n.toNat) 0,[.q b gen,.q o a,.p (0<=n/\n<(len:Int))],d)
     |some (.aC _ _ b _ _),ab=>aa (.cR id gen a (c+n.toNat) 0,[.q b gen,.p (0<=n/\n<(len:Int))],d)
     |_,_=>ak
    |_,_=>ak
  | .array m e=>match dE l e with
   |none=>ak
   |some j=>match v,w,d with
    | .ref id c,.t (.int .i64 n),.nat k::d=>match dC (k+1) m with
     |true=>aa (.ref id (c+k*j.size),[.p (n=(k:Int))],d)
     |false=>ak
    |_,_,_=>ak
  |_=>ak
def yg:Option cv->Bool
 |some i=>match i.u with
  | .string=>ab
  |_=>al
 |none=>al
def yl:Option cv->Bool
 |some i=>match i.u with
  | .slice _=>ab
  |_=>al
 |none=>al
def Iy(d:List (Nat×cv))(e:BinOp)(t:TypeId)(v w:V)(c:List cG):hX:=
 match yl (dE d t),v,w,e,c with
 |true,.t (.bH a),.t .fp,.eql,.b al::c=>aa (.t (.bool al),[.p (a≠[])],c)
 |_,_,_,_,_=>ak
def Hb(c:List (Nat×cv))(t:TypeId)(v w:V)(a:List cG):hX:=
 match yg (dE c t),v,w,a with
 |true,.t (.str l),.t (.int .i64 n),.y b::a=>aa (.t (.int .u8 (b.toNat:Nat)),[.p (aB l n=aa b)],a)
 |_,_,_,_=>ak
def sw(d e:Option Operand)(c:Nat)(h:List V):Option (Int×Int):=
 match d,e,h with
 |some _,aa _,[.t (.int .i64 a),.t (.int .i64 b)]=>aa (a,b)
 |some _,ak,[.t (.int .i64 a)]=>aa (a,(c:Int))
 |none,aa _,[.t (.int .i64 b)]=>aa (0,b)
 |_,_,_=>ak
def Hs(n:List (Nat×cv))(H:Nat->Option E)(t:TypeId)(x y:Option Operand)(s:List V)(h:List cG):hX:=
 match s with
 | .t (.str l)::w=>match yg (dE n t),sw x y l.length w,h with
  |true,aa (a,b),.str r::h=>aa (.t (.str r),[.p (sub l a b=aa r)],h)
  |_,_,_=>ak
 | .t (.bH d)::w=>match dE n t with
  |none=>ak
  |some i=>match i.u with
   | .slice e=>match dE n e,sw x y d.length w,h with
    |some j,aa (a,b),.rows r::h=>aa (.t (.bH r),[.p (sub d a b=aa r),.p (Rows j.size d)],h)
    |_,_,_=>ak
   |_=>ak
 | .bd id gen c k len::w=>match dE n t,(H id).bind E.gen? with
  |some i,aa B=>match i.u with
   | .slice e=>match dE n e,sw x y len w,h with
    |some j,aa (a,b),.nat o:: .nat m::h=>aa (.bd id gen c o m,[.q B gen,.q c j.size,.p (0<=a/\a<=b/\b<=len/\(a=0\/a<len)/\o=k+a.toNat/\m=b.toNat-a.toNat)],h)
    |some _,aa (a,b),.int 0::h=>aa (.t (.bH []),[.q B gen,.p (0<=a/\a=b/\b<=len)],h)
    |some j,aa (a,b),.int 1:: .nat o:: .nat m::h=>match H id with
     |some (.arr _ z A d)=>aa (.bd id gen c o m,[.q z gen,.q A c,.q c j.size,.p (0<c/\0<=a/\a<b/\k+b<=d.length/\o=k+a.toNat/\m=b.toNat-a.toNat)],h)
     |some (.aC C D z d _)=>aa (.bd id gen c o m,[.q z gen,.q (U C D).size c,.q c j.size,.p (0<c/\0<=a/\a<b/\k+b<=d.length/\o=k+a.toNat/\m=b.toNat-a.toNat)],h)
     |_=>ak
    |_,_,_=>ak
   |_=>ak
  |_,_=>ak
 |_=>ak
def G4(h:List (Nat×cv))(H:Nat->Option E)(t:TypeId)(d:List V)(k:List cG):hX:=
 match d with
 | [.bd id gen _ _ len,.t (.int .i64 a),.t (.int .i64 b),.t (.int .i64 c)]=>match dE h t,(H id).bind E.gen? with
  |some i,aa l=>match i.u with
   | .slice e=>match dE h e with
    |some _=>aa (.c',[.q l gen,.p (0<=a/\a<=b/\b<=c/\c<=len)],k)
    |none=>ak
   |_=>ak
  |_,_=>ak
 |_=>ak
def H3(k:List (Nat×cv))(t:TypeId)(d:List V)(h:List cG):hX:=
 match d,h with
 | [.t (.bH a),.t (.int .i64 b),.t (.int .i64 c)],.rows r::h=>match dE k t with
  |some i=>match i.u with
   | .slice e=>match dE k e with
    |some j=>aa (.t (.bH r),[.p (sub a 0 b=aa r/\c=b),.p (Rows j.size a)],h)
    |none=>ak
   |_=>ak
  |none=>ak
 |_,_=>ak
def IB(e:List (Nat×cv))(H:Nat->Option E)(t:TypeId)(v:V)(b:List cG):hX:=
 match v,b with
 | .t (.str l),b=>match yg (dE e t) with
  |true=>aa (.t (.int .i64 (l.length:Nat)),[],b)
  |false=>ak
 | .t (.bH c),.nat n::b=>match yl (dE e t) with
  |true=>aa (.t (.int .i64 (n:Nat)),[.p (c.length=n)],b)
  |false=>ak
 | .bd id gen d _ len,.nat n::b=>match H id,yl (dE e t) with
  |some (.arr _ a h _),ab=>aa (.t (.int .i64 (n:Nat)),[.q a gen,.q h d,.p (len=n)],b)
  |some (.aC _ _ a _ _),ab=>aa (.t (.int .i64 (n:Nat)),[.q a gen,.p (len=n)],b)
  |_,_=>ak
 |_,_=>ak
def Gi(h:List (Nat×cv))(H:Nat->Option E)(b:Builtin)(c:List TypeId)(i:List Operand)(a:List V)(d:List cG):hX:=
 match b,c,i,a with
 | .len,[t],[_],[v]=>IB h H t v d
 | .max,_,[_,_],[.t (.int k m),.t (.int e n)]=>if k=e then aa (.t (.int k (max m n)),[],d) else ak
 | .min,_,[_,_],[.t (.int k m),.t (.int e n)]=>if k=e then aa (.t (.int k (min m n)),[],d) else ak
 |_,_,_,_=>ak
def Iz(H:Nat->Option E)(v:V)(a:List cG):hX:=
 match v with
 | .cR id gen _ _ _=>match (H id).bind E.gen? with
  |some b=>aa (v,[.q b gen],a)
  |none=>ak
 | .ref _ _=>aa (v,[],a)
 | .aU _=>aa (v,[],a)
 | .fn _ _=>aa (v,[],a)
 |_=>ak
def He(c:List (Nat×cv))(t:TypeId)(b:List Nat)(a:List V)(d:List cG):hX:=
 match dE c t with
 |none=>ak
 |some i=>match i.u with
  | .struct _=>match (d9 i.z).val,b7 b.length a.length,kl (i.places[·]?) (d9 i.z).cs (b.zip a) with
   |true,ab,aa cs=>aa (.agg cs,[],d)
   |_,_,_=>ak
  |_=>ak
def yD(P:Program)(h:List (Nat×cv))(H:Nat->Option E)(l:Op)(a:List V)(e:List cG):hX:=
 match l with
 | .move _=>match a with
  | [v]=>aa (v,[],e)
  |_=>ak
 | .assign _=>match a with
  | [v]=>aa (v,[],e)
  |_=>ak
 | .pick _ _ _=>match a,e with
  | [.t (.bool b),v,w],.b c::e=>aa (bif c then v else w,[.p (b=c)],e)
  |_,_=>ak
 | .load t _=>match a with
  | [v]=>match uI h H t v e with
   |some r=>aa r
   |none=>Ha h H t v e
  |_=>ak
 | .nilCheck _=>match a with
  | [v]=>Iz H v e
  |_=>ak
 | .binOp o t x y _=>match a with
  | [v,w]=>match Iu P h o t v w e with
   |some r=>aa r
   |none=>match ID h o t x y v w e with
    |some r=>aa r
    |none=>Iy h o t v w e
  |_=>ak
 | .unOp o _ _=>match a with
  | [v]=>IJ o v e
  |_=>ak
 | .convert s d _=>match a with
  | [v]=>H2 h s d v e
  |_=>ak
 | .makeFunc m first _=>match m,first.toList with
  | .func f,[]=>aa (.fn f a,[],e)
  |_,_=>ak
 | .slice t _ bo i hM=>match hM with
  |none=>Hs h H t bo i a e
  |some _=>match bo,i with
   |some _,aa _=>G4 h H t a e
   |none,aa _=>H3 h t a e
   |_,_=>ak
 | .fieldAddr t _ k=>match a with
  | [v]=>Hc h H t k v e
  |_=>ak
 | .field t _ k=>match a with
  | [v]=>IF h t k v e
  |_=>ak
 | .indexAddr t _ _=>match a with
  | [v,w]=>IE h H t v w e
  |_=>ak
 | .index t _ _=>match a with
  | [v,w]=>Hb h t v w e
  |_=>ak
 | .extract _ k=>match a with
  | [.bZ n]=>match n[k]? with
   |some v=>aa (v,[],e)
   |none=>ak
  |_=>ak
 | .build t q=>He h t (q.toList.map (·.1)) a e
 | .call c=>match c.callee with
  | .builtin b=>Gi h H b c.argTypes.toList c.args.toList a e
  |_=>ak
 |_=>ak
end
section
variable {P:Program}{cE:List (Nat×cv)}{H:Nat->Option E}{d:Option Tmp}{ty:TypeId}{pos:String}{af:Array Edge}{g:Option (Nat×Bool)}
variable {t:TypeId}{u:TypeDesc}{z:Value}{size bytes:Nat}
theorem Cu(a:BinOp)(c:P9 a=ab)(x y:Operand)(t e:TypeId)(k:IntKind)(m n:Int):cw P H ⟨d,.binOp a t x y e,ty,pos,af,g⟩ [.t (.int k m),.t (.int k n)] (.t (.int k (bits a k m n))):=by
 intro h w X i _ b;refine⟨Value.int k (bits a k m n),?_,.t _ _ (.int k _)⟩;cases a<;>simp[P9] at c<;>
  simp[execOp,dO b.1,dO b.2.1,eqGuard,binOp,intBits_and,intBits_or,intBits_xor,intBits_andNot]
theorem aeJ(x y:Operand)(t b:TypeId)(m n:List UInt8):cw P H ⟨d,.binOp .lss t x y b,ty,pos,af,g⟩ [.t (.str m),.t (.str n)] (.t (.bool (Op.bytesLess m n))):=by intro c w X e _ a;refine⟨.bool (Op.bytesLess m n),?_,.t _ _ (.bool _)⟩;simp[execOp,hG a.1,hG a.2.1,eqGuard,binOp,Op.stringOp]
theorem aeL(x y:Operand)(t b:TypeId)(m n:List UInt8):cw P H ⟨d,.binOp .gtr t x y b,ty,pos,af,g⟩ [.t (.str m),.t (.str n)] (.t (.bool (!Op.bytesLess m n&& !m==n))):=by intro c w X e _ a;refine⟨.bool (!Op.bytesLess m n&& !m==n),?_,.t _ _ (.bool _)⟩;simp[execOp,hG a.1,hG a.2.1,eqGuard,binOp,Op.stringOp]
theorem aeK(x y:Operand)(t b:TypeId)(m n:List UInt8):cw P H ⟨d,.binOp .leq t x y b,ty,pos,af,g⟩ [.t (.str m),.t (.str n)] (.t (.bool (Op.bytesLess m n||m==n))):=by intro c w X e _ a;refine⟨.bool (Op.bytesLess m n||m==n),?_,.t _ _ (.bool _)⟩;simp[execOp,hG a.1,hG a.2.1,eqGuard,binOp,Op.stringOp]
theorem afW(x:Operand)(t:TypeId)(k:IntKind)(n:Int):cw P H ⟨d,.unOp .neg t x,ty,pos,af,g⟩ [.t (.int k n)] (.t (.int k (k.wrap (0-n)))):=by intro b w X c _ a;refine⟨.int k (k.wrap (0-n)),?_,.t _ _ (.int _ _)⟩;simp[execOp,dO a.1,Op.unary,Op.intArith]
theorem Xn(x:Operand)(f:FuncId)(a:List V):cw P H ⟨d,.nilCheck x,ty,pos,af,g⟩ [.fn f a] (.fn f a):=by intro e w X b _ h;have c:bC e w X (.fn f a) (b x):=h.1;refine⟨b x,?_,c⟩;generalize i:b x=y at c;cases c with|fn=>simp[execOp,i]
variable {a v:V}{x y:Operand}{e k:TypeId}{m c q:List dJ}{n:Int}{i b l o:List cG}{W:Map}{w:World}{X:Nat->Prop}
theorem ac5{a:BinOp}{t:TypeId}{k:IntKind}{m:Int}(h:IC a k m n i=aa (v,c,b))(l:cI c):
  cw P H ⟨d,.binOp a t x y e,ty,pos,af,g⟩ [.t (.int k m),.t (.int k n)] v:=by
 cases a<;>simp only[IC,QH,Option.some.injEq,Prod.mk.injEq,reduceCtorEq] at h<;>obtain⟨rfl,rfl,rfl⟩:=h
 ·exact af6 _ _ _ _ _ _ _
 ·exact afR _ _ _ _ _ _ _
 ·exact afX _ _ _ _ _ _ _
 ·exact afT _ _ _ _ _ _ _ l.1
 ·exact afS _ _ _ _ _ _ _ l.1
 ·exact Cu .and rfl _ _ _ _ _ _ _
 ·exact Cu .or rfl _ _ _ _ _ _ _
 ·exact Cu .xor rfl _ _ _ _ _ _ _
 ·exact Cu .andNot rfl _ _ _ _ _ _ _
 ·exact af4 _ _ _ _ _ _ _
 ·exact afV _ _ _ _ _ _ _
 ·exact af0 _ _ _ _ _ _ _
 ·exact af1 _ _ _ _ _ _ _
 ·exact af2 _ _ _ _ _ _ _
 exact af3 _ _ _ _ _ _ _
theorem ac0{a:BinOp}{t:TypeId}{m n:List UInt8}(h:Ix a m n i=aa (v,c,b))(k:cI c):
  cw P H ⟨d,.binOp a t x y e,ty,pos,af,g⟩ [.t (.str m),.t (.str n)] v:=by
 unfold Ix at h;split at h<;>cases h
 ·obtain⟨l,rfl⟩:=acU k.1;exact af5 _ _ _ _ _ _ l
 ·exact aeN _ _ _ _ _ _
 ·exact aeI _ _ _ _ _ _
 ·exact aeM _ _ _ _ _ _
 ·exact aeJ _ _ _ _ _ _
 ·exact aeL _ _ _ _ _ _
 exact aeK _ _ _ _ _ _
theorem Ni(a:ee P cE)(h:HG (dE cE t)=ab):P.underlying t=aa .bool:=by
 unfold HG at h;split at h
 ·rename_i i b;split at h
  ·rename_i c;exact(a _ _ b).iD.1 c
  cases h
 cases h
theorem Gd(a:ee P cE)(h:yg (dE cE t)=ab):P.underlying t=aa .string:=by
 unfold yg at h;split at h
 ·rename_i i b;split at h
  ·rename_i c;exact(a _ _ b).iD.2.2.1 c
  cases h
 cases h
theorem Br(a:ee P cE)(h:yl (dE cE t)=ab): ∃e,P.underlying t=aa (.slice e):=by
 unfold yl at h;split at h
 ·rename_i i b;split at h
  ·rename_i e c;exact⟨e,(a _ _ b).iD.2.2.2 e c⟩
  cases h
 cases h
theorem xq{u:Value}(h:bC W w X (.t .gl) u):u= .nilIface:=by cases h with|t _ _ h=>cases h with|gl=>rfl
theorem Pt{u:Value}(h:bC W w X (.t .err) u): ∃t v,u= .iface t v:=by cases h with|t _ _ h=>cases h with|err t v=>exact⟨t,v,rfl⟩
theorem U6(w:World)(n:Nat){ms}(a:TypeId)(b:Value)(c:P.underlying t=aa (.interface ms)):(Op.equalIn (n+1) t (.iface a b) .nilIface).run P w= .ok al w:=by simp[Op.equalIn,run_underlying c]
theorem UY(w:World)(n:Nat){ms}(a:P.underlying t=aa (.interface ms)):(Op.equalIn (n+1) t .nilIface .nilIface).run P w= .ok ab w:=by simp[Op.equalIn,run_underlying a]
theorem Nu(w:World){ms}(a:TypeId)(b:Value)(c:P.underlying t=aa (.interface ms)):(Op.equal t (.iface a b) .nilIface).run P w= .ok al w:=U6 w 9999 a b c
theorem Ml(w:World){ms}(a:P.underlying t=aa (.interface ms)):(Op.equal t .nilIface .nilIface).run P w= .ok ab w:=UY w 9999 a
theorem aaf(a b):binOp .eql t (.iface a b) .nilIface=(do pure (.bool (<-Op.equal t (.iface a b) .nilIface))):=rfl
theorem aae(a b):binOp .neq t (.iface a b) .nilIface=(do pure (.bool (!(<-Op.equal t (.iface a b) .nilIface)))):=rfl
theorem aad:binOp .eql t .nilIface .nilIface=(do pure (.bool (<-Op.equal t .nilIface .nilIface))):=rfl
theorem aac:binOp .neq t .nilIface .nilIface=(do pure (.bool (!(<-Op.equal t .nilIface .nilIface)))):=rfl
theorem Nv(w:World)(o:BinOp)(x y:Operand)(a:(pP x||pP y)=ab):(eqGuard o t x y .nilIface .nilIface).run P w= .ok () w:=by cases x<;>cases y<;>simp[pP] at a<;>simp[eqGuard]<;>split<;>simp
theorem aeS(x y:Operand)(e:TypeId){ms}(h:P.underlying t=aa (.interface ms)):cw P H ⟨d,.binOp .eql t x y e,ty,pos,af,g⟩ [.t .err,.t .gl] (.t (.bool al)):=by intro k w X l _ c;obtain⟨a,b,i⟩:=Pt c.1;refine⟨.bool al,?_,.t _ _ (.bool _)⟩;simp[execOp,i,xq c.2.1,eqGuard,aaf,Nu w a b h]
theorem aeR(x y:Operand)(e:TypeId){ms}(h:P.underlying t=aa (.interface ms)):cw P H ⟨d,.binOp .neq t x y e,ty,pos,af,g⟩ [.t .err,.t .gl] (.t (.bool ab)):=by intro k w X l _ c;obtain⟨a,b,i⟩:=Pt c.1;refine⟨.bool ab,?_,.t _ _ (.bool _)⟩;simp[execOp,i,xq c.2.1,eqGuard,aae,Nu w a b h]
theorem aeP(x y:Operand)(b:TypeId){ms}(c:P.underlying t=aa (.interface ms))(e:(pP x||pP y)=ab):cw P H ⟨d,.binOp .eql t x y b,ty,pos,af,g⟩ [.t .gl,.t .gl] (.t (.bool ab)):=by intro h w X i _ a;refine⟨.bool ab,?_,.t _ _ (.bool _)⟩;simp[execOp,xq a.1,xq a.2.1,Nv w _ x y e,aad,Ml w c]
theorem aeO(x y:Operand)(b:TypeId){ms}(c:P.underlying t=aa (.interface ms))(e:(pP x||pP y)=ab):cw P H ⟨d,.binOp .neq t x y b,ty,pos,af,g⟩ [.t .gl,.t .gl] (.t (.bool al)):=by intro h w X i _ a;refine⟨.bool al,?_,.t _ _ (.bool _)⟩;simp[execOp,xq a.1,xq a.2.1,Nv w _ x y e,aac,Ml w c]
theorem BS{a:List (Nat×cv)}(c:ee P a)(h:Ip (dE a t)=ab): ∃ms,P.underlying t=aa (.interface ms):=by
 unfold Ip at h;split at h
 ·rename_i i e;split at h
  ·rename_i k;obtain⟨u,l,b⟩:=c _ _ e;simp only[cv.is,k] at b;obtain⟨m,rfl⟩:=b;exact⟨m,l.1⟩
  cases h
 cases h
theorem ac6{c:List (Nat×cv)}(q:ee P c){e:BinOp}{b:V}(h:ID c e t x y a b l=aa (v,m,i)):
  cw P H ⟨d,.binOp e t x y k,ty,pos,af,g⟩ [a,b] v:=by
 unfold ID at h;split at h
 ·rename_i n p;obtain⟨ms,o⟩:=BS q n;cases h;exact aeS _ _ _ o
 ·rename_i n p;obtain⟨ms,o⟩:=BS q n;cases h;exact aeR _ _ _ o
 ·rename_i n p;obtain⟨ms,o⟩:=BS q n;cases h;exact aeP _ _ _ o p
 ·rename_i n p;obtain⟨ms,o⟩:=BS q n;cases h;exact aeO _ _ _ o p
 cases h
theorem Vs(w:World)(n:Nat){e}(a:Addr)(l c:Nat)(b:P.underlying t=aa (.slice e)):(Op.equalIn (n+1) t (.slice (aa a) l c) (.slice ak 0 0)).run P w= .ok al w:=by simp[Op.equalIn,run_underlying b]
theorem acS(w:World){e}(a:Addr)(l c:Nat)(b:P.underlying t=aa (.slice e)):(Op.equal t (.slice (aa a) l c) (.slice ak 0 0)).run P w= .ok al w:=Vs w 9999 a l c b
theorem acV(a:Addr)(l c:Nat):binOp .eql t (.slice (aa a) l c) (.slice ak 0 0)=(do pure (.bool (<-Op.equal t (.slice (aa a) l c) (.slice ak 0 0)))):=rfl
theorem adL(x y:Operand)(n:TypeId)(i:List (List T)){e}(o:P.underlying t=aa (.slice e))(p:i≠[]):cw P H ⟨d,.binOp .eql t x y n,ty,pos,af,g⟩ [.t (.bH i),.t .fp] (.t (.bool al)):=by
 intro C w X k _ m;obtain⟨a,l,c,q⟩: ∃a l c,k x= .slice (aa a) l c:=by
  cases m.1 with|t _ _ h=>
  generalize r:k x=u at h;cases h with
  |gd=>exact br rfl p
  |bH _ b s size A f=>exact⟨_,_,_,rfl⟩
 have B:k y= .slice ak 0 0:=by
  cases m.2.1 with|t _ _ h=>
  generalize r:k y=u at h;cases h;rfl
 refine⟨.bool al,?_,.t _ _ (.bool _)⟩;simp[execOp,q,B,eqGuard,acV,acS w a l c o]
theorem ac1{c:List (Nat×cv)}(p:ee P c){k:BinOp}{l:TypeId}{b:V}{n:List cG}(h:Iy c k t a b n=aa (v,m,i))(o:cI m):
  cw P H ⟨d,.binOp k t x y l,ty,pos,af,g⟩ [a,b] v:=by
 unfold Iy at h;split at h
 ·rename_i q;obtain⟨e,r⟩:=Br p q;cases h;exact adL _ _ _ _ r o.1
 cases h
theorem Xq(x y:Operand)(e n c a k:Nat){u:TypeDesc}{z:Value}{i L:Nat}(l:P.underlying t=aa (.array n e))(m:cj P e u z i L)(q:k<n):
  cw P H ⟨d,.indexAddr t x y,ty,pos,af,g⟩ [.ref c a,.t (.int .i64 (k:Int))] (.ref c (a+k*i)):=by
 intro r w X s A h;have ca:=dO h.2.1;obtain⟨b,o,p⟩:=r' h.1;refine⟨.pointer (aa ⟨b,a+k*i,ak⟩),?_,.ref _ _ _ o⟩;simp[execOp,p,ca,Instr.indexAt,asIntOf,run_underlying l,m.run_sizeOf,jD,Instr.sureAddr]
 grind
theorem acQ(A:ee P cE){e:BinOp}{t:TypeId}{b:V}(h:Iu P cE e t a b i=aa (v,c,l))(m:cI c):
  cw P H ⟨d,.binOp e t x y k,ty,pos,af,g⟩ [a,b] v:=by
 unfold Iu at h;split at h
 ·split at h
  ·rename_i B;subst B;exact ac5 h m
  cases h
 ·exact ac0 h m
 ·split at h
  ·rename_i n;cases h;exact aeU _ _ _ _ _ (Ni A n)
  ·rename_i n;cases h;exact aeT _ _ _ _ _ (Ni A n)
  cases h
 ·split at h
  ·rename_i ms o b i p q;cases h;obtain⟨r,s,w,_⟩:=m;rw[Ah p,Ah q,<-w];exact abX _ _ _ _ ms o r bl (by simp[s])
  ·rename_i ms o b i p q;cases h;obtain⟨r,s,w,_⟩:=m;rw[Ah p,Ah q,<-w];exact abV _ _ _ _ ms o r bl (by simp[s])
  cases h
 cases h
theorem ad3{c:UnOp}(h:IJ c a i=aa (v,m,b)):
  cw P H ⟨d,.unOp c t x,ty,pos,af,g⟩ [a] v:=by
 unfold IJ at h;split at h<;>cases h
 ·exact afU _ _ _
 exact afW _ _ _ _
theorem XQ(c:ee P cE){i:cv}(k:dE cE t=aa i)(h:GX cE (aa i)=ab): ∃e,P.underlying t=aa (.slice e)/\P.underlying e=aa (.int .u8):=by
 unfold GX at h;split at h
 ·rename_i n a;cases a;split at h
  ·rename_i e l;split at h
   ·rename_i j m;split at h
    ·rename_i b;exact⟨e,(c _ _ k).iD.2.2.2 e l,(c _ _ m).iD.2.1 _ b⟩
    cases h
   cases h
  cases h
 cases h
theorem aaV(w:ee P cE){c b:TypeId}{p:List cG}(h:H2 cE c b a o=aa (v,q,p))(r:cI q):
  cw P H ⟨d,.convert c b x,ty,pos,af,g⟩ [a] v:=by
 unfold H2 at h;split at h
 ·rename_i i j C D;split at h
  ·rename_i G k n m o y;cases h;obtain⟨F,s,_⟩:=w _ _ C;have A:G.wrap n=m:=r.1;rw[<-A];exact PN _ _ _ _ _ F _ s.1 ((w _ _ D).iD.2.1 _ y)
  ·rename_i k n m o y;cases h;have A:UInt8.ofInt n=m:=r.1;rw[<-A];obtain⟨F,s,_⟩:=w _ _ C
   have:=PN (P:=P) (H:=H) (d:=d) (ty:=ty) (pos:=pos) (af:=af) (g:=g) x c b k .u8 F n s.1 ((w _ _ D).iD.2.1 _ y);rw[adP] at this;exact this
  ·rename_i B l o y;split at h
   ·rename_i K;cases h;have A:B=l.map p':=r.1;obtain⟨e,L,Q⟩:=XQ w C K;rw[A];exact Xs _ _ _ _ _ L Q ((w _ _ D).iD.2.2.1 y)
   cases h
  cases h
 cases h
theorem W5(x:Operand)(r gen i a:Nat)(s:TypeId)(sz:Nat)(k:List (List T))(e:List T)(L:cj P t u z size bytes)(Q:kC u=ab)(D:H r=aa (.arr s gen sz k))(o:k[i]? =aa e)(V:a+size<=e.length):
  cw P H ⟨d,.load t x,ty,pos,af,g⟩ [.cR r gen sz i a] (.agg (((e.drop a).take size).map .t)):=by
 intro Y w X ρ F R;obtain⟨q,G⟩:=l0 (F r _ D);obtain⟨b,y,W⟩:=p2 R.1 G;subst y;have bw:=G;rcases(F r _ D).2 with ⟨A,B⟩|⟨hY,C,A,B,h3,f,I⟩
 ·rw[B] at o;simp at o
 rw[bw] at A;cases A;have M:i<k.length:=(d6.1 o).1;have N:e.length=sz:=f e (bX o);have p: ∀j,j<size->i*sz+a+j<C.size:=by
  intro j n
  have:(i+1)*sz<=k.length*sz:=dR _ M;rw[dN] at this;omega
 have l: ∀j,j<size->w.cell? ⟨b,i*sz+a+j,ak⟩=aa (C.getD (i*sz+a+j) undef):=λj n=>by
  have:=p j n;simp[World.cell?,B,this]
 refine⟨_,by simp[execOp,W,Instr.loadAt,Instr.sureAddr,L.D1 w Q l];rfl,?_⟩;refine .agg _ _ cd λj c v h K=>?_;have n:j<size:=by
  have:=(d6.1 h).1;simp at this;omega
 rw[eG,List.getElem?_take_of_lt n,fv] at h;simp only[List.getElem?_toArray,List.getElem?_map,List.getElem?_range n,gN,Option.some.injEq] at K;cases m:e[a+j]? with
 |none=>rw[m] at h;simp at h
 |some S=>
  rw[m] at h;simp at h;rw[<-h]
  have:=p j n;have U:=I i (a+j) e S C[i*sz+a+j] o m (by rw[<-nR];simp[this]);rw[<-K];simp only[Array.getElem?_eq_getElem this,Option.getD_some];exact .t _ _ U
theorem Nt(F:ee P cE)(h:uI cE H t a b=aa (v,m,l))(s:cI m):
  cw P H ⟨d,.load t x,ty,pos,af,g⟩ [a] v:=by
 unfold uI at h;split at h
 ·cases h
 rename_i i G;obtain⟨K,p,e⟩:=(F _ _ G).agg;split at h
 ·rename_i id A;split at h
  ·rename_i cs q;split at h
   ·rename_i n;split at h
    ·rename_i o;cases h;exact adM _ _ _ _ p (e.trans n) q o
    cases h
   rename_i n;split at h
   ·rename_i c B;cases h;exact adN _ _ _ _ _ p (e.trans n) q B
   cases h
  cases h
 ·rename_i cs;split at h
  ·rename_i n;split at h
   ·rename_i o;cases h;exact Y8 _ _ p (e.trans n) (e9 o)
   cases h
  rename_i n;split at h
  ·cases h;exact Y9 _ _ _ p (e.trans n)
  cases h
 ·rename_i id gen L k A;split at h
  ·rename_i w C y r b q n;split at h
   ·rename_i c B;cases h;obtain⟨rfl,rfl,D,_⟩:=s;exact W6 _ _ _ _ _ _ _ _ _ _ p (e.trans n) q D B
   cases h
  ·rename_i w C y r b q n;split at h
   ·rename_i o;cases h;obtain⟨rfl,rfl,D,_⟩:=s;exact W5 _ _ _ _ _ _ _ _ _ p (e.trans n) q D (e9 o)
   cases h
  cases h
 cases h
theorem Mx{j:Nat}: ∀{b:List (Nat×Nat×V)},sD j b=ak-> ∀i v,(i,j,v)∉b
 | [],_,_,_,h=>by cases h
 |h::b,a,i,v,hm=>by
  simp only[sD] at a;cases c:b7 h.2.1 j with
  |true=>rw[c] at a;cases a
  |false=>
   rw[c] at a;rcases eh.1 hm with rfl|hm
   ·simp at c
   exact Mx a i v hm
theorem FH{j:Nat}{x:Nat×V}: ∀{b:List (Nat×Nat×V)},sD j b=aa x->(x.1,j,x.2)∈b
 |h::b,a=>by
  simp only[sD] at a;cases c:b7 h.2.1 j with
  |true=>
   rw[c] at a;cases a
   have:=db c;subst this;exact fh
  |false=>rw[c] at a;exact eW _ (FH a)
theorem Ak{Y:List (Nat×Nat×V)}{k:Nat}: ∀{n j:Nat} {l:List (Nat×V)},ss Y j n=aa l->cI (sy k l)->l.length=n/\ ∀i v,(l.map (·.2))[i]? =aa v->(k,j+i,v)∈Y
 |0,_,_,h,_=>by cases h;exact⟨rfl,λi v h=>by simp at h⟩
 |n+1,j,l,h,a=>by
  simp only[ss] at h;split at h
  ·rename_i x o c m;cases h;simp only[sy] at a;obtain⟨e,a⟩:=a;obtain⟨aP,a2⟩:=Ak m a;refine⟨by simp[aP],λi v b=>?_⟩;cases i with
   |zero=>
    simp at b;subst b
    have:=FH c;rw[e] at this;exact this
   |succ i=>
    have:=a2 i v (by simpa using b)
    rwa [show j+1+i=j+(i+1) by omega] at this
  cases h
theorem Z3(R:ee P cE){Q W:List cG}{N:List dJ}(h:Ha cE H t a Q=aa (v,N,W))(n:cI N):
  cw P H ⟨d,.load t x,ty,pos,af,g⟩ [a] v:=by
 unfold Ha at h;split at h
 ·rename_i i id gen S k G r Q K;obtain⟨T,w,e⟩:=(R _ _ K).agg;split at h
  ·rename_i y m A b L B;split at h
   ·rename_i s;split at h
    ·rename_i c C D;split at h
     ·rename_i X;cases h;obtain⟨rfl,o,p,_⟩:=n;exact Ew _ _ _ _ _ y m _ b L r c _ w (e.trans s) B o p C (.inr ⟨λv=>Mx D _ _,X,rfl⟩)
     cases h
    ·rename_i c U Y C D;cases h;obtain⟨rfl,o,p,rfl,_⟩:=n;exact Ew _ _ _ _ _ y m _ b _ r c _ w (e.trans s) B o p C (.inl (FH D))
    cases h
   rename_i s;split at h
   ·rename_i l f D;cases h;obtain⟨rfl,o,p,F⟩:=n;obtain⟨I,M⟩:=Ak D F;exact Ly _ _ _ _ _ y m _ b L r _ w (e.trans s) B o p (e9 f) (by simp[I]) M
   cases h
  cases h
 ·rename_i i id gen S k G q r Q K;obtain⟨T,w,e⟩:=(R _ _ K).agg;split at h
  ·rename_i y m A b L B;split at h
   ·rename_i c U ey Y s C F;cases h;obtain⟨rfl,o,p,rfl,rfl,_⟩:=n;exact Ew _ _ _ _ _ y m _ b _ r c _ w (e.trans s) B o p C (.inl (bX F))
   ·rename_i s;split at h
    ·rename_i l f D;cases h;obtain⟨rfl,o,p,F⟩:=n;obtain⟨I,M⟩:=Ak D F;exact Ly _ _ _ _ _ y m _ b L r _ w (e.trans s) B o p (e9 f) (by simp[I]) λj v bx=>ft (M j v bx)
    cases h
   cases h
  cases h
 ·rename_i i id gen S k G q r Q K;obtain⟨T,w,e⟩:=(R _ _ K).agg;split at h
  ·rename_i y m A b L B;split at h
   ·rename_i c s C X;cases h;obtain⟨rfl,o,p,F⟩:=n;exact Ew _ _ _ _ _ y m _ b _ r c _ w (e.trans s) B o p C (.inr ⟨uy F,X,rfl⟩)
   cases h
  cases h
 cases h
theorem Z5(B:ee P cE){k:Nat}(h:Hc cE H t k a l=aa (v,c,b))(q:cI c):
  cw P H ⟨d,.fieldAddr t x k,ty,pos,af,g⟩ [a] v:=by
 unfold Hc at h;split at h
 ·cases h
 rename_i i F;split at h
 ·rename_i Q G;obtain⟨r,w,y,_⟩:=(B _ _ F).st G;have s:P.underlying t=aa (.struct r):=w.1;split at h
  ·cases h
  rename_i C m;rw[<-y,eG] at m;cases p:r[k]? with
  |none=>rw[nc,p] at m;cases m
  |some K=>
  rw[nc,p] at m;simp only[gN,Option.some.injEq] at m;subst m;split at h
  ·cases h
  rename_i j L;obtain⟨R,n,_⟩:=B _ _ L;split at h
  ·cases h
  rename_i D;have o:(j.size==0)=al:=by
   rw[beq_eq_false_iff_ne];intro e;rw[e] at D;cases D
  split at h
  ·cases h;exact Xr _ _ _ _ _ _ _ _ _ _ _ s p rfl n o
  ·cases h;exact Zb _ _ _ _ _ _ _ _ _ _ s p rfl n o
  ·split at h
   ·rename_i A;cases h;obtain⟨rfl,rfl,_⟩:=q;exact W8 _ _ _ _ _ _ _ _ _ _ _ _ _ _ s p rfl n o _ _ A
   ·rename_i A;cases h;obtain⟨rfl,_⟩:=q;exact W9 _ _ _ _ _ _ _ _ _ _ _ _ _ _ s p rfl n o _ A rfl
   cases h
  cases h
 cases h
theorem ac9(w:ee P cE){k:Nat}(h:IF cE t k a l=aa (v,c,b)):
  cw P H ⟨d,.field t x k,ty,pos,af,g⟩ [a] v:=by
 unfold IF at h;split at h
 ·cases h
 rename_i i A;split at h
 ·rename_i K B;obtain⟨q,m,r,_⟩:=(w _ _ A).st B;split at h
  ·cases h
  rename_i y e;rw[<-r,eG] at e;cases p:q[k]? with
  |none=>rw[nc,p] at e;cases e
  |some C=>
  rw[nc,p] at e;simp only[gN,Option.some.injEq] at e;subst e;split at h
  ·cases h
  rename_i j D;obtain⟨L,n,o⟩:=(w _ _ D).agg;split at h
  ·split at h
   ·rename_i s;split at h
    ·rename_i F;cases h;exact NU _ _ _ _ _ _ m p n (.inl ⟨o.trans s,F,rfl⟩)
    cases h
   rename_i s;split at h
   ·rename_i G;cases h;exact NU _ _ _ _ _ _ m p n (.inr ⟨o.trans s,G⟩)
   cases h
  cases h
 cases h
theorem kH(h:0<=n):n=((n.toNat:Nat):Int):=O
theorem ac7(F:ee P cE){b:V}(h:IE cE H t a b l=aa (v,c,o))(q:cI c):
  cw P H ⟨d,.indexAddr t x y,ty,pos,af,g⟩ [a,b] v:=by
 unfold IE at h;split at h
 ·cases h
 rename_i i f;split at h
 ·rename_i e G;have B:P.underlying t=aa (.slice e):=(F _ _ f).iD.2.2.2 e G;split at h
  ·cases h
  rename_i j K;obtain⟨I,C,_⟩:=F _ _ K;split at h
  ·rename_i p n;split at h
   ·rename_i r l;split at h
    ·rename_i w;cases h;obtain⟨L,Q⟩:=kb (show aB p n=aa r from q.1);rw[kH L];exact Za _ _ _ _ _ _ B C Q (db w)
    cases h
   cases h
  ·rename_i id gen size A len n;split at h
   ·rename_i s M p R w;cases h;obtain⟨rfl,rfl,⟨L,Q⟩,_⟩:=q;have W:n.toNat<len:=O
    have:=db w;subst this;have N:=Xp (P:=P) (H:=H) (d:=d) (ty:=ty) (pos:=pos) (af:=af) (g:=g) x y e id s A len n.toNat _ _ R B C W
    grind
   ·rename_i m s p S R w;cases h;obtain⟨rfl,⟨L,Q⟩,_⟩:=q;have W:n.toNat<len:=O
    have:=db w;subst this;have N:=W7 (P:=P) (H:=H) (d:=d) (ty:=ty) (pos:=pos) (af:=af) (g:=g) x y e id _ A len n.toNat _ R rfl B C W
    grind
   cases h
  cases h
 ·rename_i m e G;obtain⟨T,X,D⟩:=F _ _ f;have B:P.underlying t=aa (.array m e):=by
   simp only[cv.is,G] at D;rw[<-D];exact X.1
  split at h
  ·cases h
  rename_i j K;obtain⟨I,C,_⟩:=F _ _ K;split at h
  ·rename_i id A n k l;split at h
   ·rename_i w;cases h;rw[show n=(k:Int) from q.1];exact Xq _ _ _ _ _ _ _ B C (e9 w)
   cases h
  cases h
 cases h
theorem Z4(k:ee P cE){b:V}(h:Hb cE t a b o=aa (v,m,i))(e:cI m):
  cw P H ⟨d,.index t x y,ty,pos,af,g⟩ [a,b] v:=by
 unfold Hb at h;split at h
 ·rename_i l n c o p;cases h;obtain⟨q,r⟩:=kb (show aB l n=aa c from e.1);rw[kH q];exact abU _ _ _ _ _ (Gd k p) r
 cases h
theorem ac4(n:ee P cE)(h:IB cE H t a i=aa (v,c,b))(k:cI c):
  cw P H ⟨d,.call {callee:= .builtin .len,args:= #[x],argTypes:= #[t]},ty,pos,af,g⟩ [a] v:=by
 unfold IB at h;split at h
 ·split at h
  ·rename_i l;cases h;exact aav _ _ (Gd n l)
  cases h
 ·split at h
  ·rename_i l;cases h;obtain⟨e,m⟩:=Br n l;have p:=k.1;rw[<-p];exact abW _ _ _ m
  cases h
 ·split at h
  ·rename_i o l;cases h;obtain⟨rfl,rfl,rfl,_⟩:=k;obtain⟨e,m⟩:=Br n l;exact aaw _ _ _ _ _ _ _ m _ _ o
  ·rename_i o l;cases h;obtain⟨rfl,rfl,_⟩:=k;obtain⟨e,m⟩:=Br n l;exact Y' _ _ _ _ _ _ _ m _ o rfl
  cases h
 cases h
theorem Z2(D:ee P cE){y A:Option Operand}{F:List V}{f U:List cG}{mh:List dJ}(h:Hs cE H t y A F f=aa (v,mh,U))(p:cI mh):
  cw P H ⟨d,.slice t x y A ak,ty,pos,af,g⟩ F v:=by
 unfold Hs at h;split at h
 ·rename_i l M;split at h
  ·rename_i a b r f Y c;cases h;obtain⟨k,N,I,rfl⟩:=Bs p.1;have q:=Gd D Y;unfold sw at c;split at c
   ·cases c;rw[kH k,kH (O:0<=b)];exact Xl _ _ _ _ _ _ q O O
   ·cases c
    have:=UQ (P:=P) (H:=H) (d:=d) (ty:=ty) (pos:=pos) (af:=af) (g:=g) x ‹_› l a.toNat q O;rw[<-kH k] at this;simpa using this
   ·cases c
    have:=Vt (P:=P) (H:=H) (d:=d) (ty:=ty) (pos:=pos) (af:=af) (g:=g) x ‹_› l b.toNat q O;rw[<-kH (O:0<=b)] at this;simpa using this
   cases c
  cases h
 ·rename_i G M;split at h
  ·cases h
  rename_i i W;split at h
  ·rename_i e hu;have q:P.underlying t=aa (.slice e):=(D _ _ W).iD.2.2.2 e hu;split at h
   ·rename_i j a b r f K c;cases h;obtain⟨L,Q,_⟩:=p;obtain⟨k,N,I,rfl⟩:=Bs L;obtain⟨S,s,_⟩:=D _ _ K;unfold sw at c;split at c
    ·cases c;rw[kH k,kH (O:0<=b)];exact Yd _ _ _ _ _ _ _ q s O O Q
    ·cases c
     have:=Vp (P:=P) (H:=H) (d:=d) (ty:=ty) (pos:=pos) (af:=af) (g:=g) x ‹_› e G a.toNat q s O Q;rw[<-kH k] at this;simpa using this
    ·cases c
     have:=VQ (P:=P) (H:=H) (d:=d) (ty:=ty) (pos:=pos) (af:=af) (g:=g) x ‹_› e G b.toNat q s O Q;rw[<-kH (O:0<=b)] at this;simpa using this
    cases c
   cases h
  cases h
 ·rename_i id ald sz B len M;split at h
  ·rename_i i lJ W T;split at h
   ·rename_i e hu;have q:P.underlying t=aa (.slice e):=(D _ _ W).iD.2.2.2 e hu;obtain⟨C9,hH,T⟩:=zP.1 T;have C: ∀{a b:Int},sw y A len M=aa (a,b)->0<=a->0<=b-> ∀β w X (R:Operand->Value),du β w X M (y.toList.map R++A.toList.map R)->qQ len y A R a.toNat b.toNat:=by
     intro a b c L k β w X R Q;unfold sw at c;split at c
     ·cases c;refine⟨?_,?_⟩
      ·show R _=_;rw[En L];exact dO Q.1
      show R _=_;rw[En k];exact dO Q.2.1
     ·cases c;refine⟨?_,by show _=_;simp⟩;show R _=_;rw[En L];exact dO Q.1
     ·cases c;refine⟨by show _=_;simp,?_⟩;show R _=_;rw[En k];exact dO Q.1
     cases c
    split at h
    ·rename_i j a b o m f K c;cases h;obtain⟨rfl,rfl,⟨k,N,I,h4,rfl,rfl⟩,_⟩:=p;obtain⟨S,s,_⟩:=D _ _ K;exact aeH x y A e id _ B len a.toNat b.toNat C9 hH T q s O O O (C c k O)
    ·rename_i j a b f K c;cases h;obtain⟨rfl,⟨k,rfl,I⟩,_⟩:=p;obtain⟨S,s,_⟩:=D _ _ K;exact adK x y A e id _ _ B len a.toNat C9 hH T q s O (C c k k)
    ·rename_i j a b o m f K c;split at h
     ·rename_i n;cases h;obtain⟨rfl,rfl,rfl,⟨L,k,N,I,rfl,rfl⟩,_⟩:=p;obtain⟨S,s,_⟩:=D _ _ K;exact OP x y A e id _ B len a.toNat b.toNat _ _ n rfl (.inl ⟨_,rfl⟩) q s L O O (C c k O)
     ·rename_i n;cases h;obtain⟨rfl,et,rfl,⟨L,k,N,I,rfl,rfl⟩,_⟩:=p;obtain⟨S,s,_⟩:=D _ _ K;exact OP x y A e id _ B len a.toNat b.toNat _ _ n rfl (.inr ⟨_,_,_,rfl,et⟩) q s L O O (C c k O)
     cases h
    cases h
   cases h
  cases h
 cases h
theorem XM(A:ee P cE){m n:Operand}{k:List V}(h:G4 cE H t k o=aa (v,q,l))(p:cI q):
  cw P H ⟨d,.slice t x (aa y) (aa m) (aa n),ty,pos,af,g⟩ k v:=by
 unfold G4 at h;split at h
 ·rename_i id Q R r len a b c;split at h
  ·rename_i i W s w;split at h
   ·rename_i e B;have C:P.underlying t=aa (.slice e):=(A _ _ s).iD.2.2.2 e B;obtain⟨D,F,w⟩:=zP.1 w;split at h
    ·rename_i j G;cases h;obtain⟨rfl,⟨K,X,f,I⟩,_⟩:=p;obtain⟨M,L,_⟩:=A _ _ G;rw[kH K,kH (O:0<=b),kH (O:0<=c)];exact abT x y m n e id _ _ r len a.toNat b.toNat c.toNat D F w C L O O O
    cases h
   cases h
  cases h
 cases h
theorem aaW(o:ee P cE){c:Operand}{a:List V}(h:H3 cE t a l=aa (v,m,b))(k:cI m):
  cw P H ⟨d,.slice t x ak (aa c) (aa y),ty,pos,af,g⟩ a v:=by
 unfold H3 at h;split at h
 ·split at h
  ·rename_i i n;split at h
   ·rename_i e p;have q:P.underlying t=aa (.slice e):=(o _ _ n).iD.2.2.2 e p;split at h
    ·rename_i j r;cases h;obtain⟨⟨s,rfl⟩,w,_⟩:=k;obtain⟨C,D,A,rfl⟩:=Bs s;obtain⟨F,B,_⟩:=o _ _ r
     have:=W3 (P:=P) (H:=H) (d:=d) (ty:=ty) (pos:=pos) (af:=af) (g:=g) x c y e _ _ q B (Int.toNat_le.2 A) w
     grind
    cases h
   cases h
  cases h
 cases h
theorem WR(o:ee P cE){b:Builtin}{c:List TypeId}{e:List Operand}{a:List V}(h:Gi cE H b c e a l=aa (v,m,i))(k:cI m):
  cw P H ⟨d,.call {callee:= .builtin b,args:=e.toArray,argTypes:=c.toArray},ty,pos,af,g⟩ a v:=by
 unfold Gi at h;split at h
 ·exact ac4 o h k
 ·split at h
  ·rename_i n;subst n;cases h;exact afZ _ _ _ _ _ _
  cases h
 ·split at h
  ·rename_i n;subst n;cases h;exact afY _ _ _ _ _ _
  cases h
 cases h
theorem ac2(h:Iz H a i=aa (v,c,b))(e:cI c):cw P H ⟨d,.nilCheck x,ty,pos,af,g⟩ [a] v:=by
 unfold Iz at h;split at h
 ·split at h
  ·rename_i n k;cases h;obtain⟨rfl,_⟩:=e;obtain⟨l,m,k⟩:=zP.1 k;exact Xo _ _ _ _ _ _ l m k
  cases h
 ·cases h;exact Mk _ _ rfl
 ·cases h;exact Mk _ _ rfl
 ·cases h;exact Xn _ _ _
 cases h
theorem ZB(o:ee P cE){b:Array (Nat×Operand)}{a:List V}{n:List cG}(h:He cE t (b.toList.map (·.1)) a n=aa (v,c,l)):
  cw P H ⟨d,.build t b,ty,pos,af,g⟩ a v:=by
 unfold He at h;split at h
 ·cases h
 rename_i i p;split at h
 ·rename_i x q;split at h
  ·rename_i cs r s w;cases h;obtain⟨e,k,_,m⟩:=(o _ _ p).st q;exact adO b e i.places a cs k m r (by simpa using s) w
  cases h
 cases h
theorem ae7(n:ee P cE){e:Op}{a:List V}(h:yD P cE H e a l=aa (v,m,i))(k:cI m):
  cw P H ⟨d,e,ty,pos,af,g⟩ a v:=by
 unfold yD at h;split at h
 ·split at h
  ·cases h;exact aeQ _ _
  cases h
 ·split at h
  ·cases h;exact abY _ _
  cases h
 ·split at h
  ·rename_i b v w c l;cases h;obtain⟨s,_⟩:=k;subst s;cases b
   ·exact W4 _ _ _ _ _
   exact Xm _ _ _ _ _
  cases h
 ·split at h
  ·split at h
   ·rename_i x;cases h;exact Nt n x k
   exact Z3 n h k
  cases h
 ·split at h
  ·exact ac2 h k
  cases h
 ·split at h
  ·split at h
   ·rename_i r p;cases h;exact acQ n p k
   split at h
   ·rename_i r p;cases h;exact ac6 n p
   exact ac1 n h k
  cases h
 ·split at h
  ·exact ad3 h
  cases h
 ·split at h
  ·exact aaV n h k
  cases h
 ·rename_i C first q
  split at h
  ·rename_i f y;cases h
   have:first= #[]:=by simpa using y
   subst this;exact Yf _ _ _
  cases h
 ·split at h
  ·exact Z2 n h k
  split at h
  ·exact XM n h k
  ·exact aaW n h k
  cases h
 ·split at h
  ·exact Z5 n h k
  cases h
 ·split at h
  ·exact ac9 n h
  cases h
 ·split at h
  ·exact ac7 n h k
  cases h
 ·split at h
  ·exact Z4 n h k
  cases h
 ·split at h
  ·split at h
   ·rename_i A;cases h;exact aax _ _ _ _ A
   cases h
  cases h
 ·exact ZB n h
 ·rename_i c;obtain⟨o,args,B⟩:=c;dsimp only at h;split at h
  ·have:=WR (d:=d) (ty:=ty) (pos:=pos) (af:=af) (g:=g) n h k;simpa using this
  cases h
 cases h
end
def jS(P:Program)(G:fg)(f:FuncId)(args:List V)(r:V):Prop:=ji P f/\Fs P G f args r
def hW(P:Program)(G:fg)(f:FuncId)(a:List E)(args:List V)(r:V)(b:List E):Prop:=
 ji P f/\Lm P G f a args (ι:=Unit) (λ_=>True) (λ_=>r) λ_=>b
def m0(d:Option Tmp)(v:V):List (Nat×V):=match d with
 |some d=>[(d,v)]
 |none=>[]
def j2(a:Nat):Option Tmp->Bool
 |some d=>dp d a
 |none=>ab
theorem gF{K:Ctx}{d:Option Tmp}(h:j2 K.nt d=ab): ∀i,d=aa i->dp i K.nt=ab:=by intro i a;subst a;exact h
def h':T->T
 | .fp=> .bH []
 |x=>x
variable {w:World}{X:Nat->Prop}{m sz:Nat}
theorem c7.ze{x:T}{v:Value}(h:c7 w X x v):c7 w X (h' x) v:=by
 cases h with
 |fp=>exact .gd _ _
 |bool b=>exact .bool b
 |int k n=>exact .int k n
 |str l=>exact .str l
 |gd a c=>exact .gd a c
 |bH e b m size c f p q i o r y=>exact .bH e b m size c f p q i o r y
 |gY=>exact .gY
 |gl=>exact .gl
 |lX=>exact .lX
 |err t v=>exact .err t v
theorem acN{W:Map}{k:Nat}{c:TypeId}{gen n:Nat}{z:List T}(h:c4 W w X k (.arr c gen n (dn m z))):c4 W w X k (.arr c gen n (dn m (z.map h'))):=by
 refine⟨h.1,?_⟩;rcases h.2 with ⟨q,l⟩|⟨b,r,q,l,A,D,B⟩
 ·have:m=0:=by simpa using l
  grind
 refine .inr ⟨b,r,q,l,by simpa using A,λo a=>?_,λi j o x u a e C=>?_⟩
 ·obtain⟨F,rfl⟩:=w9.1 a
  grind
 rw[t'] at a;split at a
 ·cases a;rw[eG] at e;cases p:z[j]? with
  |none=>rw[p] at e;simp at e
  |some y=>
   rw[p] at e;simp at e;subst e;exact(B i j z y u (by rw[t',bg ‹_›]) p C).ze
 cases a
def mb(a:Nat):Nat->List T->List (List T)
 |0,_=>[]
 |n+1,l=>l.take a::mb a n (l.drop a)
theorem B4(a:Nat): ∀(n:Nat) (l:List T),l.length=n*a->(mb a n l).length=n/\(∀b,b∈mb a n l->b.length=a)/\(mb a n l).flatten=l
 |0,l,h=>by
  have:l=[]:=by simpa using h
  subst this;exact⟨rfl,λ_ h=>by simp[mb] at h,rfl⟩
 |n+1,l,h=>by
  rw[dN] at h;obtain⟨c,e,i⟩:=B4 a n (l.drop a) cd;refine⟨by simp[mb,c],?_,by simp[mb,i]⟩;intro b b6;simp only[mb,List.mem_cons] at b6;rcases b6 with rfl|b6
  ·simp;omega
  exact e b b6
structure dX where
 P:Program
 G:fg
 cE:List (Nat×cv)
 nt:Nat
 eg:Nat
 hi:Map
def u1(a:Nat):List Nat->Nat->Option Nat
 | [],_=>ak
 |x::r,k=>bif b7 x a then aa k else u1 a r (k+1)
theorem BU{i:Nat}: ∀{L:List Nat} {k m:Nat},u1 i L k=aa m->k<=m/\L[m-k]? =aa i
 | [],_,_,h=>by cases h
 |x::r,k,m,h=>by
  simp only[u1] at h;cases a:b7 x i with
  |true=>rw[a] at h;cases h;rw[db a];exact⟨df _,bl⟩
  |false=>
   rw[a] at h;obtain⟨c,b⟩:=BU (L:=r) (k:=k+1) h;refine⟨O,?_⟩;rw[show m-k=(m-(k+1))+1 by omega];simpa using b
mutual
def tU(L:List Nat):V->Option V
 | .ref id a=>match u1 id L 0 with
  |some k=>aa (.ref k a)
  |none=>ak
 | .bd id gen size a len=>match u1 id L 0 with
  |some k=>aa (.bd k gen size a len)
  |none=>ak
 | .fn f cs=>match tT L cs with
  |some cs=>aa (.fn f cs)
  |none=>ak
 | .cR id gen size i a=>match u1 id L 0 with
  |some k=>aa (.cR k gen size i a)
  |none=>ak
 | .t x=>aa (.t x)
 | .aU x=>aa (.aU x)
 | .agg cs=>match tT L cs with
  |some cs=>aa (.agg cs)
  |none=>ak
 |_=>ak
def tT(L:List Nat):List V->Option (List V)
 | []=>aa []
 |c::cs=>match tU L c,tT L cs with
  |some c,aa cs=>aa (c::cs)
  |_,_=>ak
end
mutual
theorem aeD{L:List Nat}: ∀(v c:V),tU L v=aa c->c.ek L=v/\c.ok (fj L.length)=ab
 | .ref id m,c,h=>by
  simp only[tU] at h;split at h
  ·rename_i k n;cases h;obtain⟨_,a⟩:=BU n;simp only[Nat.sub_zero] at a;have b:=(d6.1 a).1;exact⟨by simp[V.ek,List.getD_eq_getElem?_getD,a],jg.2 b⟩
  cases h
 | .bd id gen size m len,c,h=>by
  simp only[tU] at h;split at h
  ·rename_i k n;cases h;obtain⟨_,a⟩:=BU n;simp only[Nat.sub_zero] at a;have b:=(d6.1 a).1;exact⟨by simp[V.ek,List.getD_eq_getElem?_getD,a],jg.2 b⟩
  cases h
 | .cR id gen size i m,c,h=>by
  simp only[tU] at h;split at h
  ·rename_i k n;cases h;obtain⟨_,a⟩:=BU n;simp only[Nat.sub_zero] at a;have b:=(d6.1 a).1;exact⟨by simp[V.ek,List.getD_eq_getElem?_getD,a],jg.2 b⟩
  cases h
 | .fn f cs,c,h=>by
  simp only[tU] at h;split at h
  ·rename_i e l;cases h;obtain⟨o,a⟩:=x8 cs e l;exact⟨by simp[V.ek,o],by simpa[V.ok] using a⟩
  cases h
 | .agg cs,c,h=>by
  simp only[tU] at h;split at h
  ·rename_i e l;cases h;obtain⟨o,a⟩:=x8 cs e l;exact⟨by simp[V.ek,o],by simpa[V.ok] using a⟩
  cases h
 | .t x,c,h=>by cases h;exact⟨rfl,rfl⟩
 | .aU x,c,h=>by cases h;exact⟨rfl,rfl⟩
 | .bZ _,_,h| .c',_,h=>by cases h
theorem x8{L:List Nat}: ∀(cs a:List V),tT L cs=aa a->iW L a=cs/\gI (fj L.length) a=ab
 | [],_,h=>by cases h;exact⟨rfl,rfl⟩
 |c::cs,a,h=>by
  simp only[tT] at h;split at h
  ·rename_i e b i k;cases h;obtain⟨aP,a2⟩:=aeD c e i;obtain⟨l,m⟩:=x8 cs b k;exact⟨by simp[iW,aP,l],by simp[gI,a2,m]⟩
  cases h
end
def u0(L:List Nat)(H:Nat->Option E):List Nat->Option (List E)
 | []=>aa []
 |id::b=>match H id with
  |some (.cells cs)=>match tT L cs,u0 L H b with
   |some cs,aa c=>aa (.cells cs::c)
   |_,_=>ak
  |some (.arr ty gen size a)=>match u0 L H b with
   |some c=>aa (.arr ty gen size a::c)
   |none=>ak
  |some (.aC e m gen a [])=>match u0 L H b with
   |some c=>aa (.aC e m gen a []::c)
   |none=>ak
  |some (.aC _ _ _ _ (_::_))=>ak
  |none=>ak
theorem BT{L:List Nat}{H:Nat->Option E}: ∀(a:List Nat) (fu:List E),u0 L H a=aa fu->fu.length=a.length/\ ∀(k:Nat) (e:E),fu[k]? =aa e-> ∃id,a[k]? =aa id/\H id=aa (e.ek L)/\e.ok (fj L.length)=ab
 | [],_,h=>by cases h;exact⟨rfl,λk e h=>by simp at h⟩
 |id::a,fu,h=>by
  simp only[u0] at h;split at h
  ·rename_i cs hid;split at h
   ·rename_i q i r l;cases h;obtain⟨aP,a2⟩:=BT a i l;obtain⟨w,x⟩:=x8 cs q r;refine⟨by simp[aP],λk e b=>?_⟩;cases k with
    |zero=>simp at b;subst b;exact⟨id,rfl,by rw[hid];simp only[E.ek,w],x⟩
    |succ k=>simp at b;obtain⟨c,n,o⟩:=a2 k e b;exact⟨c,by simpa using n,o⟩
   cases h
  ·rename_i ty gen size p hid;split at h
   ·rename_i i l;cases h;obtain⟨aP,a2⟩:=BT a i l;refine⟨by simp[aP],λk e b=>?_⟩;cases k with
    |zero=>simp at b;subst b;exact⟨id,rfl,hid,rfl⟩
    |succ k=>simp at b;obtain⟨c,n,o⟩:=a2 k e b;exact⟨c,by simpa using n,o⟩
   cases h
  ·rename_i y m gen p hid;split at h
   ·rename_i i l;cases h;obtain⟨aP,a2⟩:=BT a i l;refine⟨by simp[aP],λk e b=>?_⟩;cases k with
    |zero=>simp at b;subst b;exact⟨id,rfl,hid,rfl⟩
    |succ k=>simp at b;obtain⟨c,n,o⟩:=a2 k e b;exact⟨c,by simpa using n,o⟩
   cases h
  ·cases h
  cases h
def Cs(a:Nat):List Nat->Bool
 | []=>ab
 |x::l=>bif b7 x a then al else Cs a l
theorem Np{i:Nat}: ∀{l:List Nat},Cs i l=ab->i∉l
 | [],_,h=>by cases h
 |x::l,h,hm=>by
  simp only[Cs] at h;cases a:b7 x i with
  |true=>rw[a] at h;cases h
  |false=>
   rw[a] at h;rcases eh.1 hm with rfl|hm
   ·simp at a
   exact Np h hm
def Co:List Nat->Bool
 | []=>ab
 |x::l=>Cs x l&&Co l
theorem AX: ∀{l:List Nat},Co l=ab->l.Nodup
 | [],_=>List.nodup_nil
 |x::l,h=>by simp only[Co,cB] at h;exact List.nodup_cons.2 ⟨Np h.1,AX h.2⟩
def BQ(u:Nat->Bool):List Nat->Bool
 | []=>ab
 |x::l=> !u x&&BQ u l
theorem L7{u:Nat->Bool}: ∀{l:List Nat},BQ u l=ab-> ∀id,id∈l->u id=al
 | [],_,_,h=>by cases h
 |x::l,h,id,hm=>by
  simp only[BQ,cB,Bool.not_eq_true'] at h;rcases eh.1 hm with rfl|hm
  ·exact h.1
  exact L7 h.2 id hm
theorem Ma{u:Nat->Bool}{i:Nat}: ∀{l:List Nat},i∈l->dz u (l.map λk=>(k,ab)) i=ab
 |x::l,h=>by
  simp only[List.map_cons,dz];by_cases a:i∈l
  ·rw[B7 _ _ u _ ⟨ab,eH.2 ⟨i,a,rfl⟩⟩];exact Ma a
  rcases eh.1 h with rfl|h
  ·rw[mK _ _ _ (λv b=>a (by obtain⟨y,c,e⟩:=eH.1 b;cases e;exact c)),cy]
  exact br h a
theorem Mj{R:Type}: ∀(L:List Nat),L.Nodup-> ∀(f:Nat->R) (a:List R) (g:Nat->R),a.length=L.length->(∀(k:Nat) x,a[k]? =aa x->g k=x)->dz f (L.zip a)=lj f L g
 | [],_,f,a,g,_,_=>by simp[dz,lj]
 |l::L,b,f,[],g,h,_=>by simp at h
 |l::L,b,f,x::a,g,h,m=>by
  simp only[List.nodup_cons] at b;simp only[List.zip_cons_cons,dz,lj];rw[Mj L b.2 (a' f l x) a (λk=>g (k+1)) (by simpa using h) (λk y o=>m (k+1) y (by simpa using o)),m 0 x rfl];funext i;by_cases c:i=l
  ·subst c;rw[nH b.1,cy,cy]
  rw[cr _ _ _ _ c];by_cases e:i∈L
  ·obtain⟨k,n⟩:=jq.1 e;rw[oS b.2 n,oS b.2 n]
  rw[nH e,nH e,cr _ _ _ _ c]
abbrev je:=Option (dd×List dJ×List cG)
def u5(d:Option Tmp)(u:Nat->Bool)(v:V)(a:List cG):je:=
 match a with
 | .nat k::a=>match u k,v.val with
  |false,ab=>aa (⟨m0 d (.ref k 0),[(k,aa (.cells v.cs))],[(k,ab)]⟩,[],a)
  |_,_=>ak
 |_=>ak
def H5(d:Option Tmp)(v:V)(a:List cG):je:=
 match a with
 | .b ab::a=>match (nM v).val,k2 (nM v).cs with
  |true,aa c=>aa (⟨m0 d (.aU c),[],[]⟩,[],a)
  |_,_=>ak
 |_=>ak
def Sc:List cG->Bool
 | .b ab::_=>ab
 |_=>al
def Hr(C:dX)(t:TypeId)(H:Nat->Option E)(a v:V)(n:List cG):je:=
 match dE C.cE t with
 |none=>ak
 |some i=>match a with
  | .ref id b=>match H id with
   |some (.cells cs)=>match v.val,n0 v.cs,b7 v.cs.length i.size,dC (b+i.size) cs.length with
    |true,ab,ab,ab=>aa (⟨[],[(id,aa (.cells (mZ cs b v.cs)))],[]⟩,[],n)
    |_,_,_,_=>ak
   |_=>ak
  | .cR id gen w k b=>match H id,k2 (nM v).cs,n with
   |some (.arr e h m l),aa o,.row r:: .rows c::n=>match (nM v).val,b7 o.length i.size,dC (b+i.size) w with
    |true,ab,ab=>aa (⟨[],[(id,aa (.arr e h m c))],[]⟩,
      [.q h gen,.q m w,.p (l[k]? =aa r),.p (c=l.set k (r.take b++o++r.drop (b+o.length)))],n)
    |_,_,_=>ak
   |_,_,_=>ak
  |_=>ak
def u6(k a n:Nat):List (Nat×Nat×V)->List dJ
 | []=>[]
 |h::b=>bif dC a h.2.1&&dp h.2.1 (a+n) then .q h.1 k::u6 k a n b else u6 k a n b
def u7(k a n:Nat):List (Nat×Nat×V)->List dJ
 | []=>[]
 |h::b=>bif dC a h.2.1&&dp h.2.1 (a+n) then .p (h.1≠k)::u7 k a n b else u7 k a n b
def G3(C:dX)(t:TypeId)(H:Nat->Option E)(a v:V)(o:List cG):je:=
 match dE C.cE t,a,o with
 |some i,.cR id gen x k b,.row r::o=>match H id with
  |some (.aC w m c e h)=>match v.val&&(n0 v.cs&&(b7 v.cs.length i.size&&(dC (b+i.size) r.length&&dp 0 i.size))),ss h b i.size with
   |true,aa l=>aa (⟨[],[(id,aa (.aC w m c e (u9 b v.cs h)))],[]⟩,.q c gen:: .q (U w m).size x:: .p (e[k]? =aa r)::(sy k l++u6 k b i.size h),o)
   |_,_=>ak
  |_=>ak
 |some i,.cR id gen x k b,.int q:: .nat n:: .row r::o=>match H id with
  |some (.aC w m c e h)=>match v.val&&(n0 v.cs&&(b7 v.cs.length i.size&&(dC (b+i.size) r.length&&dp 0 i.size))),ss ((h.drop q.toNat).take n) b i.size with
   |true,aa l=>aa (⟨[],[(id,aa (.aC w m c e (h.take q.toNat++(u9 b v.cs ((h.drop q.toNat).take n)++(h.drop q.toNat).drop n))))],[]⟩,
     .q c gen:: .q (U w m).size x:: .p (e[k]? =aa r)::(sy k l++(u6 k b i.size ((h.drop q.toNat).take n)++(u7 k b i.size (h.take q.toNat)++u7 k b i.size ((h.drop q.toNat).drop n)))),o)
   |_,_=>ak
  |_=>ak
 |_,_,_=>ak
def yf(z:List T):List (Nat×Nat)->Bool
 | []=>ab
 |p::l=>(match z[p.1]? with|some .fp=>ab|_=>al)&&yf z l
def Ic(C:dX)(d:Option Tmp)(t:TypeId)(u:Nat->Bool)(v w:V)(b:List cG):je:=
 match dE C.cE t with
 |none=>ak
 |some i=>match i.u with
  | .slice e=>match dE C.cE e with
   |none=>ak
   |some j=>match v,w,b,k2 (d9 j.z).cs with
    | .t (.int .i64 n),.t (.int .i64 m),.nat k:: .rows R::b,aa a=>match u k,(d9 j.z).val,b7 a.length j.size,dp 0 j.size&&dC j.bytes 200000 with
     |false,ab,ab,ab=>aa (⟨m0 d (.bd k 1 j.size 0 R.length),[(k,aa (.arr e 1 j.size R))],[(k,ab)]⟩,[.q n.toNat m.toNat,.p (mk n (a.map h')=aa R),.p (0<=m)],b)
     |_,_,_,_=>ak
    | .t (.int .i64 n),.t (.int .i64 m),.nat k:: .b3 _ c q:: .rows R::b,aa a=>match u k,(d9 j.z).val&&yf a (U c q).a1,b7 a.length j.size,dp 0 j.size&&dC j.bytes 200000 with
     |false,ab,ab,ab=>aa (⟨m0 d (.bd k 1 j.size 0 R.length),[(k,aa (.aC c q 1 R []))],[(k,ab)]⟩,[.q (U c q).ty e,.q (U c q).size j.size,.q n.toNat m.toNat,.p (mk n (a.map h')=aa R),.p (0<=m)],b)
     |_,_,_,_=>ak
    |_,_,_,_=>ak
  |_=>ak
def GV(C:dX)(d:Option Tmp)(t o:TypeId)(H:Nat->Option E)(v w:V)(l:List cG):je:=
 match dE C.cE t with
 |none=>ak
 |some i=>match i.u with
  | .slice e=>match dE C.cE e with
   |none=>ak
   |some j=>match v,nM w,l with
    | .bd k gen size m len,.t (.bH h),.rows R::l=>match H k with
     |some (.arr n a b c)=>match b7 m 0,b7 j.z.cells.size j.size&&(dp 0 j.size&&dC j.bytes 140000),b7 n e&&b7 o t with
      |true,ab,ab=>aa (⟨m0 d (.bd k (a+1) size 0 R.length),[(k,aa (.arr n (a+1) b R))],[]⟩,
        [.q a gen,.q b size,.q size j.size,.q len c.length,.p (app c h=aa R),.p (Rows j.size c),.p (Rows j.size h)],l)
      |_,_,_=>ak
     |_=>ak
    |_,_,_=>ak
  |_=>ak
def Gj(C:dX)(d:Option Tmp)(t A:TypeId)(H:Nat->Option E)(v w:V)(r:List cG):je:=
 match dE C.cE t with
 |none=>ak
 |some i=>match i.u with
  | .slice e=>match dE C.cE e with
   |none=>ak
   |some j=>match v,w,r with
    | .bd k gen size h len,.bd eu B D x l,.rows R:: .str []::r=>match H k with
     |some (.aC o m b a [])=>match b7 eu k&&b7 h 0,b7 A t&&dp 0 j.size with
      |true,ab=>aa (⟨m0 d (.bd k gen size 0 (len+l)),[(k,aa (.aC o m b R (tR (len+l) (x-len) size)))],[]⟩,
        [.q b gen,.q B gen,.q (U o m).size size,.q D size,.q j.size size,.q (U o m).ty e,.p (0<l/\len<=x/\x+l=a.length),.p (R=a.take len++(a.drop x).take l++a.drop (len+l))],r)
      |_,_=>ak
     |_=>ak
    | .bd k gen size h len,.bd eu B D x l,.rows R::r=>match H k,H eu with
     |some (.aC o m b a []),aa (.aC F W G (L::c) y)=>match b7 h 0&&b7 x 0,b7 j.z.cells.size j.size&&(dp 0 j.size&&dC j.bytes 140000),b7 A t&&(sc (U o m) (c.length+1) y&&uO y) with
      |true,ab,ab=>aa (⟨m0 d (.bd k (b+1) size 0 R.length),[(k,aa (.aC o m (b+1) R (ij a.length y)))],[]⟩,
        [.q b gen,.q G B,.q D size,.q size j.size,.q (U o m).size size,.q (U o m).ty e,.q l (c.length+1),.q len a.length,.p (U F W=U o m),.p (app a (L::c)=aa R),.p (Rows j.size a),.p (Rows j.size (L::c))],r)
      |_,_,_=>ak
     |some (.arr Q b n a),aa _=>match b7 eu k&&b7 h 0,b7 Q e&&(b7 A t&&dp 0 j.size) with
      |true,ab=>aa (⟨m0 d (.bd k gen size 0 (len+l)),[(k,aa (.arr Q b n R))],[]⟩,
        [.q b gen,.q B gen,.q n size,.q D size,.q j.size size,.p (len+l<=a.length),.p (x+l<=a.length),.p (R=a.take len++(a.drop x).take l++a.drop (len+l))],r)
      |_,_=>ak
     |_,_=>ak
    | .bd k gen size h len,.t (.bH []),.int 0::r=>match (H k).bind E.gen with
     |some b=>match b7 h 0&&dp 0 j.size,b7 A t with
      |true,ab=>aa (⟨m0 d (.bd k gen size 0 len),[],[]⟩,[.q b gen,.q j.size size],r)
      |_,_=>ak
     |_=>ak
    |_,_,_=>ak
  |_=>ak
def Bt(d:dy):Nat->List V->Option (List T×List (Nat×Nat×V))
 |_,[]=>aa ([],[])
 |j,v::b=>match Bt d (j+1) b with
  |none=>ak
  |some (r,a)=>match d.ed j with
   |some _=>bif v.one then aa (.bH []::r,(0,j,v)::a) else ak
   |none=>match zJ v with
    |some x=>aa (x::r,a)
    |none=>ak
def wX(d:dy)(a:Nat):Nat->Nat->List V->Option (List (List T)×List (Nat×Nat×V))
 |_,0,_=>aa ([],[])
 |i,n+1,b=>match Bt d 0 (b.take a),wX d a (i+1) n (b.drop a) with
  |some (r,c),aa (e,k)=>aa (r::e,c.map (λh=>(i,h.2.1,h.2.2))++k)
  |_,_=>ak
def qH:Nat->List V->List (Nat×Nat×V)
 |_,[]=>[]
 |i,v::vs=>(i,0,v)::qH (i+1) vs
def Ie(C:dX)(d:Option Tmp)(t:TypeId)(n:Nat)(h:List Nat)(u:Nat->Bool)(a:List V)(c:List cG):je:=
 match dE C.cE t with
 |none=>ak
 |some i=>match i.u with
  | .slice e=>match dE C.cE e with
   |none=>ak
   |some j=>match n,c with
    |1,.lt k b m::c=>match kl (λi=>aa (i*j.size,j.size)) (dn (1*j.size) .c') (h.zip (qO ((U b m).ed 0) a)) with
     |none=>ak
     |some cs=>match wX (U b m) j.size 0 1 cs with
      |none=>ak
      |some (r,l)=>match u k,b7 cs.length (1*j.size)&&b7 (U b m).size j.size,b7 h.length a.length&&b7 (U b m).ty e,dC (1*j.size) 16777216,dp 0 j.size with
       |false,ab,ab,ab,ab=>aa (⟨m0 d (.bd k 1 j.size 0 1),[(k,aa (.aC b m 1 r l))],[(k,ab)]⟩,[],c)
       |_,_,_,_,_=>ak
    |2,.lt k b m:: .str []::c=>match kl (λi=>aa (i*j.size,j.size)) (dn (2*j.size) .c') (h.zip (qO ((U b m).ed 0) a)) with
     |none=>ak
     |some cs=>match wX (U b m) j.size 0 2 cs with
      |none=>ak
      |some (r,l)=>match u k,b7 cs.length (2*j.size)&&b7 (U b m).size j.size,b7 h.length a.length&&b7 (U b m).ty e,dC (2*j.size) 16777216,dp 0 j.size with
       |false,ab,ab,ab,ab=>aa (⟨m0 d (.bd k 1 j.size 0 2),[(k,aa (.aC b m 1 r l))],[(k,ab)]⟩,[],c)
       |_,_,_,_,_=>ak
    |n,.lt k b m::c=>match kl (λi=>aa (i*j.size,j.size)) (dn (n*j.size) .c') (h.zip (hq a)) with
     |none=>ak
     |some cs=>match u k,b7 j.size 1&&(b7 cs.length n&&n0 cs),b7 h.length a.length&&(b7 (U b m).ty e&&b7 (U b m).size 1),dC (n*j.size) 16777216,dp 0 n with
      |false,ab,ab,ab,ab=>aa (⟨m0 d (.bd k 1 1 0 n),[(k,aa (.aC b m 1 (dn n [.bH []]) (qH 0 cs)))],[(k,ab)]⟩,[],c)
      |_,_,_,_,_=>ak
    |_,_=>ak
  |_=>ak
def IA(C:dX)(d:Option Tmp)(t:TypeId)(n:Nat)(b:List Nat)(u:Nat->Bool)(a:List V)(c:List cG):je:=
 match dE C.cE t with
 |none=>ak
 |some i=>match i.u with
  | .slice e=>match dE C.cE e with
   |none=>ak
   |some j=>match n,b,c with
    |0,[],.nat k::c=>match u k with
     |false=>aa (⟨m0 d (.bd k 1 j.size 0 0),[(k,aa (.arr e 1 j.size []))],[(k,ab)]⟩,[],c)
     |true=>ak
    |n,b,.int 1:: .nat k::c=>match kl (λi=>aa (i*j.size,j.size)) (dn (n*j.size) .c') (b.zip (hq a)) with
     |none=>ak
     |some cs=>match k2 cs with
      |none=>ak
      |some h=>match u k,b7 h.length (n*j.size),b7 b.length a.length,dC (n*j.size) 16777216,dp 0 j.size with
       |false,ab,ab,ab,ab=>aa (⟨m0 d (.bd k 1 j.size 0 (mb j.size n h).length),[(k,aa (.arr e 1 j.size (mb j.size n h)))],[(k,ab)]⟩,[],c)
       |_,_,_,_,_=>ak
    |n,b,.int 2:: .rows R::c=>match kl (λi=>aa (i*j.size,j.size)) (dn (n*j.size) .c') (b.zip (hq a)) with
     |none=>ak
     |some cs=>match k2 cs with
      |none=>ak
      |some h=>match b7 h.length (n*j.size),b7 b.length a.length,dC (n*j.size) 16777216 with
       |true,ab,ab=>aa (⟨m0 d (.t (.bH R)),[],[]⟩,[.p (mb j.size n h=R)],c)
       |_,_,_=>ak
    |n,b,.int 0::c=>match kl (λi=>aa (i*j.size,j.size)) (dn (n*j.size) .c') (b.zip (hq a)) with
     |none=>ak
     |some cs=>match k2 cs with
      |none=>ak
      |some h=>match b7 h.length (n*j.size),b7 b.length a.length,dC (n*j.size) 16777216 with
       |true,ab,ab=>aa (⟨m0 d (.t (.bH (mb j.size n h))),[],[]⟩,[],c)
       |_,_,_=>ak
    |_,_,_=>ak
  |_=>ak
mutual
def sC:V->Bool
 | .t (.int _ _)| .t (.bool _)| .t (.str _)=>ab
 | .agg cs=>u4 cs
 | .bZ cs=>u4 cs
 |_=>al
def u4:List V->Bool
 | []=>ab
 |c::cs=>sC c&&u4 cs
end
def yu(H:Nat->Option E):V->Option (T×List dJ)
 | .bd k gen size e len=>match H k with
  |some (.arr _ b c a)=>aa (.bH a,[.q gen b,.q size c,.q e 0,.q len a.length])
  |some (.aC h m b a [])=>aa (.bH a,[.q gen b,.q size (U h m).size,.q e 0,.q len a.length])
  |_=>ak
 | .t x=>aa (h' x,[])
 |_=>ak
def CK(H:Nat->Option E):List V->Option (List T×List dJ)
 | []=>aa ([],[])
 |v::a=>match yu H v,CK H a with
  |some (x,b),aa (c,e)=>aa (x::c,b++e)
  |_,_=>ak
mutual
def nv(H:Nat->Option E):V->Option (V×List dJ)
 | .bd k gen size b len=>match yu H (.bd k gen size b len) with
  |some (x,a)=>aa (.t x,a)
  |none=>ak
 | .t x=>aa (.t (h' x),[])
 | .aU cs=>aa (.aU cs,[])
 | .ref id b=>match H id with
  |some (.cells cs)=>match CK H cs with
   |some (e3,a)=>aa (.aU (e3.drop b),a)
   |none=>ak
  |_=>ak
 | .agg cs=>match ps H cs with
  |some (c,a)=>aa (.agg c,a)
  |none=>ak
 | .bZ cs=>match ps H cs with
  |some (c,a)=>aa (.bZ c,a)
  |none=>ak
 | .fn f cs=>match ps H cs with
  |some (c,a)=>aa (.fn f c,a)
  |none=>ak
 | .cR _ _ _ _ _=>ak
 | .c'=>ak
def ps(H:Nat->Option E):List V->Option (List V×List dJ)
 | []=>aa ([],[])
 |v::a=>match nv H v,ps H a with
  |some (x,b),aa (c,e)=>aa (x::c,b++e)
  |_,_=>ak
end
def QI:List cG->List cG
 | .nat _::hs=>QI hs
 |hs=>hs
def It(C:dX)(d:Option Tmp)(H:Nat->Option E)(a:List V)(c:List cG):je:=
 match a with
 | .fn f b::args=>match QI (c.drop 1) with
  | .v r::c=>match ps H (args++b),sC r with
   |some (e,h),ab=>aa (⟨m0 d r,[],[]⟩,h++[.p (jS C.P C.G f e r)],c)
   |_,_=>ak
  |_=>ak
 |_=>ak
def H4(C:dX)(d:Option Tmp)(b:List V)(c:List cG):je:=
 match b with
 | .fn f a::args=>match c with
  | .v r::c=>match gI gH (hq (args++a)) with
   |true=>aa (⟨m0 d r,[],[]⟩,[.p (jS C.P C.G f (hq (args++a)) r)],c)
   |false=>ak
  | .nat _:: .v r::c=>aa (⟨m0 d r,[],[]⟩,[.p (gI gH (hq (args++a))=ab),.p (jS C.P C.G f (hq (args++a)) r)],c)
  |_=>ak
 |_=>ak
def II(C:dX)(d:Option Tmp)(c:List V)(H:Nat->Option E)(u:Nat->Bool)(i:List cG):je:=
 match c with
 | .fn f h::args=>match i with
  | .dD L a r out::i=>match tT L (hq (args++h)),u0 L H L,Co (L++a)&&BQ u a&&b7 out.length (L++a).length with
   |some b,aa fu,ab=>aa (⟨m0 d (r.ek (L++a)),(L++a).zip (out.map λe=>aa (e.ek (L++a))),(L++a).map λk=>(k,ab)⟩,[.p (hW C.P C.G f fu b r out)],i)
   |_,_,_=>ak
  |_=>ak
 |_=>ak
def Hd(C:dX)(t:TypeId)(H:Nat->Option E)(v:V)(n:List cG):je:=
 match dE C.cE t with
 |none=>ak
 |some i=>match i.u with
  | .slice e=>match dE C.cE e with
   |none=>ak
   |some j=>match v,n,k2 (d9 j.z).cs with
    | .bd k gen size c len,.rows R::n,aa o=>match H k,(d9 j.z).val with
     |some (.arr x b l a),ab=>aa (⟨[],[(k,aa (.arr x b l R))],[]⟩,[.q b gen,.q l size,.q o.length size,.p (c+len<=a.length/\R=a.take c++dn len (o.map h')++a.drop (c+len))],n)
     |some (.aC w m b a r),ab=>aa (⟨[],[(k,aa (.aC w m b R []))],[]⟩,[.q b gen,.q (U w m).size size,.q o.length size,.p (0<len/\c+len=a.length/\R=a.take c),.p (∀h,h∈r->c<=h.1)],n)
     |_,_=>ak
    |_,_,_=>ak
  |_=>ak
def H0(C:dX)(d:Option Tmp)(t:TypeId)(H:Nat->Option E)(v w:V)(n:List cG):je:=
 match dE C.cE t with
 |none=>ak
 |some i=>match i.u with
  | .slice e=>match dE C.cE e with
   |none=>ak
   |some j=>match v,nM w,n with
    | .bd k gen size l len,.t (.bH a),.rows R:: .nat m::n=>match H k,dp 0 j.size with
     |some (.arr o h b c),ab=>aa (⟨m0 d (.t (.int .i64 m)),[(k,aa (.arr o h b R))],[]⟩,
       [.q h gen,.q b size,.q size j.size,.q m (Nat.min a.length len),.p (Rows j.size a),.p (l+len<=c.length/\R=c.take l++a.take m++c.drop (l+m))],n)
     |_,_=>ak
    |_,_,_=>ak
  |_=>ak
def Uj:List cG->Bool
 | .dD _ _ _ _::_=>ab
 |_=>al
def I7(C:dX)(o:Oper)(b:List V)(H:Nat->Option E)(u:Nat->Bool)(e:List cG):je:=
 match j2 C.nt o.dst with
 |false=>ak
 |true=>match o.op with
  | .box _ _=>match b with
   | [v]=>match Sc e with
    |true=>H5 o.dst v e
    |false=>u5 o.dst u v e
   |_=>ak
  | .alloc t=>match dE C.cE t with
   |some i=>u5 o.dst u (d9 i.z) e
   |none=>ak
  | .store t _ _=>match o.dst,b with
   |none,[a,v]=>match Hr C t H a v e with
    |some r=>aa r
    |none=>G3 C t H a v e
   |_,_=>ak
  | .makeSlice t _ _=>match b with
   | [v,w]=>Ic C o.dst t u v w e
   |_=>ak
  | .buildSlice t n k=>match IA C o.dst t n (k.toList.map (·.1)) u b e with
   |some r=>aa r
   |none=>Ie C o.dst t n (k.toList.map (·.1)) u b e
  | .call c=>match c.callee with
   | .value _=>match Uj e with
    |true=>II C o.dst b H u e
    |false=>match Sc e with
     |true=>It C o.dst H b e
     |false=>H4 C o.dst b e
   | .builtin .append=>match c.args.toList,c.argTypes.toList,b with
    | [_,_],[t,l],[v,w]=>match GV C o.dst t l H v w e with
     |some r=>aa r
     |none=>Gj C o.dst t l H v w e
    |_,_,_=>ak
   | .builtin .clear=>match o.dst,c.args.toList,c.argTypes.toList,b with
    |none,[_],[t],[v]=>Hd C t H v e
    |_,_,_,_=>ak
   | .builtin .copy=>match c.args.toList,c.argTypes.toList,b with
    | [_,_],[t,_],[v,w]=>H0 C o.dst t H v w e
    |_,_,_=>ak
   | .builtin _=>match yD C.P C.cE H o.op b e with
    |some (v,h,e)=>aa (⟨m0 o.dst v,[],[]⟩,h,e)
    |none=>ak
   |_=>ak
  |_=>match yD C.P C.cE H o.op b e with
   |some (v,h,e)=>aa (⟨m0 o.dst v,[],[]⟩,h,e)
   |none=>ak
theorem O'{z:Value}{a:List T}(i:(d9 z).val=ab)(k:k2 (d9 z).cs=aa a):z.cells.size=a.length/\ ∀(w:World) (X:Nat->Prop) (j:Nat) (u:Value) (x:T),z.cells[j]? =aa u->(a.map h')[j]? =aa x->c7 w X x u:=by
 have h:=fun(w:World) (X:Nat->Prop)=>(zU (⟨λ_=>ak,λ_ _=>False⟩:Map) w X z).cells i;have e:=oZ k;refine⟨by rw[(h default λ_=>False).1,e,dH],λw X j u x l b=>?_⟩;rw[eG] at b;cases c:a[j]? with
 |none=>rw[c] at b;cases b
 |some y=>
  rw[c] at b;simp only[gN,Option.some.injEq] at b;subst b
  have:=(h w X).2 j (.t y) u (by rw[e,eG,c];rfl) l;cases this with
  |t _ _ m=>exact m.ze
section steps
variable {K:Ctx}{s:S}{d:Option Tmp}{ty:TypeId}{pos:String}{af:Array Edge}{g:Option (Nat×Bool)}
variable {t:TypeId}{u:TypeDesc}{z:Value}{size bytes gen:Nat}
theorem K6(a:Array Value)(n i j:Nat)(e:i<n)(c:j<a.size):(ei a n).toList[i*a.size+j]? =a[j]? :=by
 have b:i*a.size+j<n*a.size:=by
  have:(i+1)*a.size<=n*a.size:=dR _ e
  grind
 have h:(i*a.size+j)%a.size=j:=by rw[Nat.mul_comm,Nat.mul_add_mod];exact Nat.mod_eq_of_lt c
 simp[ei,b,h,c]
theorem aez(x:Operand)(E c h:Nat)(e e':TypeId)(rows:List (List T))(A:List T)(hx:s.get x= .bd E gen size c h)(hH:s.H E=aa (.arr e' gen size rows))(fo:K.P.underlying t=aa (.slice e))(he:cj K.P e u z sz bytes)
  (bx:(d9 z).val=ab) (et:k2 (d9 z).cs=aa A) (G:A.length=size) (cS:c+h<=rows.length):
  dZ K ⟨ak,.call {callee:= .builtin .clear,args:= #[x],argTypes:= #[t]},ty,pos,af,g⟩ s {s with H:=a' s.H E (aa (.arr e' gen size (rows.take c++dn h (A.map h')++rows.drop (c+h))))}:=by
 intro β a w next Q b6 I
 have L:=b6.get x;rw[hx] at L;have M:=(b6.heap E _ hH).2;obtain⟨q,N⟩:=l0 M;obtain⟨oN,U⟩:=O' bx et;unfold Oper.wp;cases h with
 |zero=>
  obtain⟨oz,cap,o⟩: ∃oz cap,a.eval x= .slice oz 0 cap:=by
   rcases fb L N with ⟨cap,b,n,iC,o,_⟩|⟨_,_,_,o⟩
   ·exact⟨_,cap,o⟩
   exact⟨ak,0,o⟩
  have y:(execOp a.eval ⟨ak,.call {callee:= .builtin .clear,args:= #[x],argTypes:= #[t]},ty,pos,af,g⟩).run K.P w= .ok (.value (.tuple #[])) w:=by
   cases oz<;>simp[execOp,resolve,invoke,builtin,o,Builtin.clear_,run_underlying fo]
  rw[y]
  have:rows.take c++dn 0 (A.map h')++rows.drop (c+0)=rows:=bl
  refine I β _ _ ?_;rw[this];exact b6.zI E _ hH
 |succ h=>
  rcases fb L N with ⟨cap,b,n,iC,o,iS,hw,hs,ca,nD,hm⟩|⟨_,_,h0,_⟩
  ·subst iS;rcases M.2 with ⟨V,_⟩|⟨cM,C,V,h2,h3,h4,h5⟩
   ·rw[N] at V;cases V
   rw[N] at V;cases V;have D:z.cells.size=size:=by rw[oN,G]
   have p:(ei z.cells (h+1)).toList.length=(h+1)*size:=by rw[l3,size_zeroCells,D]
   have mE:c*size+(h+1)*size<=C.size:=by
    have:(c+(h+1))*size<=rows.length*size:=dR _ cS;rw[dN] at this;omega
   have r: ∀(i j:Nat) (u:Value),i<h+1->j<size->(ei z.cells (h+1)).toList[i*size+j]? =aa u->z.cells[j]? =aa u:=by
    intro i j u aL F hu;rw[<-D] at F hu
    rwa [K6 _ _ _ _ aL F] at hu
   have Y: ∀v∈(ei z.cells (h+1)).toList,v.oneCell'=ab:=by
    intro v JP;obtain⟨k,I⟩:=jq.1 JP;have R:=(d6.1 I).1;rw[p] at R;have hp:0<size:=by
     rcases Nat.eq_zero_or_pos size with e0|e0
     ·rw[e0] at R;omega
     exact e0
    have hdiv:k / size<h+1:=(rP hp).2 R;have JG:k%size<size:=rS _ hp;have pF:(ei z.cells (h+1)).toList[k / size*size+k%size]? =aa v:=by rw[zR];exact I
    have h9:=r _ _ _ hdiv JG pF
    have:(A.map h')[k%size]? =aa (h' A[k%size]):=by rw[eG,bD O];rfl
    exact(bC.t (β:=β) _ _ (U w (λ_=>False) _ _ _ h9 this)).hP rfl
   have pJ:=run_storeCells_at K.P b (c*size) e' (ei z.cells (h+1)).toList 0 C w h2 (by rw[p];omega) Y;simp only[Nat.add_zero] at pJ;have y:(execOp a.eval ⟨ak,.call {callee:= .builtin .clear,args:= #[x],argTypes:= #[t]},ty,pos,af,g⟩).run K.P w= .ok (.value (.tuple #[])) (w.setRow b (C.toList.take (c*size)++(ei z.cells (h+1)).toList++C.toList.drop (c*size+(ei z.cells (h+1)).toList.length)).toArray):=by
    simp[execOp,resolve,invoke,builtin,o,Builtin.clear_,run_underlying fo,he.rB,pJ]
   rw[y];refine I β _ _ (Ox b6 E b e' rows _ C _ hH N h2 (by simp[p];omega) ?_ ?_ ?_)
   ·have:(rows.take c++dn (h+1) (A.map h')++rows.drop (c+(h+1))).length=rows.length:=cd
    rw[this];exact h3
   ·intro m l;rw[eX,eX] at l;rcases l with (l|l)|l
    ·exact h4 m (gm l)
    ·rw[(w9.1 l).2,dH];exact G
    exact h4 m (ft l)
   intro i j m jO rL aP a2 a3;have a3:(C.toList.take (c*size)++(ei z.cells (h+1)).toList++C.toList.drop (c*size+(ei z.cells (h+1)).toList.length))[i*size+j]? =aa rL:=by simpa using a3
   rw[p] at a3;have B:(C.toList.take (c*size)).length=c*size:=cd
   by_cases c1:i<c
   ·rw[hf,hz cd,fs,bg c1] at aP;have F:j<size:=by rw[<-h4 m (bX aP)];exact(d6.1 a2).1
    have hlt:i*size+j<c*size:=lV c1 F;rw[hf,hz O,fs,bg hlt] at a3;exact .inl ⟨i,m,aP,a2,by simpa using a3⟩
   by_cases c2:i<c+(h+1)
   ·rw[hz cd,ic cd] at aP;have l:m=A.map h':=by
     have:=bX aP;exact(w9.1 this).2
    subst l;have F:j<size:=by rw[<-G,<-dH (f:=h')];exact(d6.1 a2).1
    have e1:i*size+j=c*size+((i-c)*size+j):=by rw[ub];have:=dR size (O:c<=i);omega
    have hlt:(i-c)*size+j<(h+1)*size:=lV O F;rw[e1,hz (by rw[dQ,B,p];omega),ic O,B,Nat.add_sub_cancel_left] at a3;exact .inr λw X=>U w X j _ _ (r _ _ _ O F a3) a2
   have W:(rows.take c++dn (h+1) (A.map h')).length=c+(h+1):=cd
   rw[ic O,W,fv,show c+(h+1)+(i-(c+(h+1)))=i by omega] at aP;have F:j<size:=by rw[<-h4 m (bX aP)];exact(d6.1 a2).1
   have kJ:c*size+(h+1)*size<=i*size+j:=by
    have:=dR size (O:c+(h+1)<=i);rw[dN] at this;omega
   rw[ic (by rw[dQ,B,p];omega),dQ,B,p,fv,show c*size+(h+1)*size+(i*size+j-(c*size+(h+1)*size))=i*size+j by omega] at a3;exact .inl ⟨i,m,aP,a2,by simpa using a3⟩
  omega
theorem YO(k h l c:Nat)(x y:Operand)(e:TypeId)(rows:List (List T))(cJ: ∀i,d=aa i->dp i K.nt=ab)(hx:s.get x= .bd k gen size 0 h)(hy:s.get y= .bd k gen size l c)(hH:s.H k=aa (.arr e gen size rows))
  (fo:K.P.underlying t=aa (.slice e)) (he:cj K.P e u z size bytes) (hp:0<size) (h1:h+c<=rows.length) (h2:l+c<=rows.length):
  dZ K ⟨d,.call {callee:= .builtin .append,args:= #[x,y],argTypes:= #[t,t]},ty,pos,af,g⟩ s
   (({s with H:=a' s.H k (aa (.arr e gen size (rows.take h++(rows.drop l).take c++rows.drop (h+c))))}:S).put d (.bd k gen size 0 (h+c))):=by
 intro β a w next Q b6 hkk
 have I:=b6.get x;rw[hx] at I;have kM:=b6.get y;rw[hy] at kM;have hK:=(b6.heap k _ hH).2;have jk:=hK.1;obtain⟨q,M⟩:=l0 hK;obtain⟨_,i,mF,hi2,lP,s3⟩:=id he;unfold Oper.wp;cases c with
 |zero=>
  obtain⟨oz,cap,N⟩: ∃oz cap,a.eval y= .slice oz 0 cap:=by
   rcases fb kM M with ⟨cap,b,n,iC,p,_⟩|⟨_,_,_,p⟩
   ·exact⟨_,cap,p⟩
   exact⟨ak,0,p⟩
  have ahS:rows.take h++(rows.drop l).take 0++rows.drop (h+0)=rows:=bl
  have G:(execOp a.eval ⟨d,.call {callee:= .builtin .append,args:= #[x,y],argTypes:= #[t,t]},ty,pos,af,g⟩).run K.P w= .ok (.value (a.eval x)) w:=by
   rcases fb I M with ⟨QX,b,n,iC,p,_,_,_,_,cS,_⟩|⟨_,_,_,p⟩
   ·cases oz<;>simp[execOp,resolve,invoke,builtin,p,N,Builtin.append_,run_underlying fo,sizeOf,typeInfo,mF,Builtin.lenOf,Builtin.firstCells,cS,storeCells,loadCells,loadCellsFrom]
   cases oz<;>simp[execOp,resolve,invoke,builtin,p,N,Builtin.append_,run_underlying fo,sizeOf,typeInfo,mF,Builtin.lenOf,Builtin.firstCells,loadCells,loadCellsFrom]
  rw[G];refine hkk β _ w ?_;have jj:a' s.H k (aa (E.arr e gen size rows))=s.H:=by
   funext j;by_cases D:j=k
   ·subst D;rw[cy,hH]
   rw[cr _ _ _ _ D]
  rw[ahS,jj];exact b6.put d cJ I
 |succ c=>
  rcases fb kM M with ⟨IZ,b,n,iC,N,iS,hw,hs,ca,nD,hm⟩|⟨_,_,h0,_⟩
  ·subst iS;rcases fb I M with ⟨A,hY,wh,SO,p,k9,td,U,nE,ahs,vA⟩|⟨h0,_⟩
   ·cases k9;rcases hK.2 with ⟨g1,_⟩|⟨cM,B,g1,g2,g3,g4,g5⟩
    ·rw[M] at g1;cases g1
    rw[M] at g1;cases g1;have R3:B.size=wh:=by
     unfold World.shape? at U;rw[g2] at U;simp at U;exact U.2
    obtain⟨C,R6⟩: ∃C,C=(B.toList.drop (l*size)).take ((c+1)*size):=⟨_,rfl⟩
    have hle:(l+(c+1))*size<=B.size:=eO (dR _ h2) g3;rw[dN] at hle;have F:C.length=(c+1)*size:=by rw[R6];simp;omega
    have L: ∀j v,C[j]? =aa v->B[l*size+j]? =aa v/\j<(c+1)*size:=λj v bx=>by
     have D:=(d6.1 bx).1;rw[F] at D;rw[R6,fs,bg D,fv] at bx;exact⟨by simpa using bx,D⟩
    have V: ∀r,r<rows.length-> ∃m,rows[r]? =aa m/\m.length=size:=λr vz=>⟨_,bD vz,g4 _ (fV vz)⟩
    have yN: ∀j v,C[j]? =aa v->w.cell? ((⟨b,l*size,ak⟩:Addr).add j)=aa v:=λj v bx=>by
     rw[jD];simp only[World.cell?,g2];exact(L j v bx).1
    have nF: ∀v,v∈C->v.oneCell'=ab:=λv bx=>by
     obtain⟨j,D⟩:=jq.1 bx;obtain⟨h3,h4⟩:=L j v D;have JG:j%size<size:=rS _ hp;have hdiv:j / size<c+1:=(rP hp).2 h4;obtain⟨m,oK,vC⟩:=V (l+j / size) O;have Jx:(l+j / size)*size+j%size=l*size+j:=by rw[dN,nR,zR]
     exact(g5 (l+j / size) (j%size) m m[j%size] v oK (bD O) (by rw[Jx];exact h3)).hP
    have mE:h*size+C.length<=B.size:=by
     rw[F,<-dN];exact eO (dR _ h1) g3
    have R:h+(c+1)<=A:=by
     have:(h+(c+1))*size<=A*size:=by
      rw[dA] at nE;rw[nE,<-R3];exact eO (dR _ h1) g3
     exact Nat.le_of_mul_le_mul_right this hp
    have W:=run_append_room (P:=K.P) w t ty e i fo mF b h A B g2 ⟨b,l*size,ak⟩ (c+1) IZ C (by rw[lP];exact F) yN nF R (by rw[lP];exact mE);rw[lP] at W;have G:(execOp a.eval ⟨d,.call {callee:= .builtin .append,args:= #[x,y],argTypes:= #[t,t]},ty,pos,af,g⟩).run K.P w= .ok (.value (.slice (aa ⟨b,0,ak⟩) (h+(c+1)) A)) (w.setRow b (B.toList.take (h*size)++C++B.toList.drop (h*size+C.length)).toArray):=by
     rw[gL] at p;simp[execOp,resolve,invoke,builtin,p,N,W]
    rw[G];have Y:(B.toList.take (h*size)).length=h*size:=cd
    have R1:(B.toList.take (h*size)++C++B.toList.drop (h*size+C.length)).toArray.size=B.size:=cd
    have X:(rows.take h).length=h:=by rw[c8];omega
    have f:((rows.drop l).take (c+1)).length=c+1:=by rw[c8,fN];omega
    have hrel:=Ox b6 k b e rows (rows.take h++(rows.drop l).take (c+1)++rows.drop (h+(c+1))) B _ hH M g2 R1 ?_ ?_ ?_
    ·refine hkk β _ _ (hrel.put d cJ ?_);have jE:bC β (w.setRow b (B.toList.take (h*size)++C++B.toList.drop (h*size+C.length)).toArray) (own K β (a' s.H k (aa (.arr e gen size (rows.take h++(rows.drop l).take (c+1)++rows.drop (h+(c+1))))))) (.bd k gen size 0 (h+(c+1))) (.slice (aa ⟨b,0*size,ak⟩) (h+(c+1)) A):=by
      refine .bd k gen size 0 _ A b wh e jk M (by simpa using td) ?_ nE R vA;unfold World.shape?;rw[setRow_heap _ _ _ _ _ _ g2];simp only[R1,R3]
     rw[gL] at jE;exact jE
    ·rw[dQ,dQ,X,f,fN]
     have:h+(c+1)+(rows.length-(h+(c+1)))=rows.length:=O
     rw[this];exact g3
    ·intro m o;rw[eX,eX] at o;rcases o with (o|o)|o
     ·exact g4 m (gm o)
     ·exact g4 m (ft (gm o))
     exact g4 m (ft o)
    intro r j m jO rL aP a2 a3;have a3:(B.toList.take (h*size)++C++B.toList.drop (h*size+C.length))[r*size+j]? =aa rL:=by simpa using a3
    refine .inl ?_;by_cases c1:r<h
    ·rw[hf,hz O,fs,bg c1] at aP;have D:j<size:=by rw[<-g4 m (bX aP)];exact(d6.1 a2).1
     have hlt:r*size+j<h*size:=lV c1 D;rw[hf,hz O,fs,bg hlt] at a3;exact⟨r,m,aP,a2,by simpa using a3⟩
    by_cases c2:r<h+(c+1)
    ·rw[hz (by rw[dQ];omega),ic O,X,fs,bg O,fv] at aP;have D:j<size:=by rw[<-g4 m (bX aP)];exact(d6.1 a2).1
     have e1:r*size+j=h*size+((r-h)*size+j):=by rw[ub];have:=dR size (O:h<=r);omega
     have hlt:(r-h)*size+j<(c+1)*size:=lV O D;rw[e1,hz (by rw[dQ,Y,F];omega),ic O,Y,Nat.add_sub_cancel_left] at a3;have h9:=(L _ _ a3).1;exact⟨l+(r-h),m,aP,a2,by rw[dN,nR];exact h9⟩
    have aht:(rows.take h++(rows.drop l).take (c+1)).length=h+(c+1):=by rw[dQ,X,f]
    rw[ic O,aht,fv,show h+(c+1)+(r-(h+(c+1)))=r by omega] at aP;have D:j<size:=by rw[<-g4 m (bX aP)];exact(d6.1 a2).1
    have kJ:h*size+(c+1)*size<=r*size+j:=by
     have:=dR size (O:h+(c+1)<=r);rw[dN] at this;omega
    rw[ic (by rw[dQ,Y,F];omega),dQ,Y,F,fv,show h*size+(c+1)*size+(r*size+j-(h*size+(c+1)*size))=r*size+j by omega] at a3;exact⟨r,m,aP,a2,by simpa using a3⟩
   rw[M] at *; cases h0
  omega
theorem XO(k L:Nat)(x y:Operand)(e:TypeId)(R:E)(f: ∀i,d=aa i->dp i K.nt=ab)(j:s.get x= .bd k gen size 0 L)(v:dK (s.get y) (.t (.bH [])))(I:s.H k=aa R)(M:R.gen=aa gen)
  (W:K.P.underlying t=aa (.slice e)) (N:cj K.P e u z size bytes) (T:0<size):
  dZ K ⟨d,.call {callee:= .builtin .append,args:= #[x,y],argTypes:= #[t,t]},ty,pos,af,g⟩ s (s.put d (.bd k gen size 0 L)):=by
 intro U a w next Q C D
 have h:=C.get x;rw[j] at h;have F:=v _ _ _ _ (C.get y);have G:=(C.heap k _ I).2;obtain⟨_,q,V⟩:=nY G M;obtain⟨_,i,p,Y,lP,s3⟩:=id N;unfold Oper.wp;obtain⟨m,cap,r⟩: ∃m cap,a.eval y= .slice m 0 cap:=by
  rcases Bg F (Rows.nil size) T with (⟨A,_⟩|⟨b,o,c,_,A,_⟩)|⟨_,m,cap,A⟩
  ·exact⟨ak,0,A⟩
  ·exact⟨_,c,A⟩
  exact⟨m,cap,A⟩
 have B:(execOp a.eval ⟨d,.call {callee:= .builtin .append,args:= #[x,y],argTypes:= #[t,t]},ty,pos,af,g⟩).run K.P w= .ok (.value (a.eval x)) w:=by
  rcases fb h V with ⟨X,b,n,iC,l,_,_,_,_,cS,_⟩|⟨_,_,_,l⟩
  ·cases m<;>simp[execOp,resolve,invoke,builtin,l,r,Builtin.append_,run_underlying W,sizeOf,typeInfo,p,Builtin.lenOf,Builtin.firstCells,cS,storeCells,loadCells,loadCellsFrom]
  cases m<;>simp[execOp,resolve,invoke,builtin,l,r,Builtin.append_,run_underlying W,sizeOf,typeInfo,p,Builtin.lenOf,Builtin.firstCells,loadCells,loadCellsFrom]
 rw[B];exact D U _ w (C.put d f h)
theorem XP(k l h len:Nat)(x y:Operand)(e:TypeId)(Γ:List dy)(m:Nat)(c:List (List T))(cJ: ∀i,d=aa i->dp i K.nt=ab)(hx:s.get x= .bd k gen size 0 l)(hy:s.get y= .bd k gen size h len)(hH:s.H k=aa (.aC Γ m gen c []))
  (k8:(U Γ m).size=size) (j8:(U Γ m).ty=e) (fo:K.P.underlying t=aa (.slice e)) (he:cj K.P e u z size bytes) (hp:0<size) (h0:0<len) (h1:l<=h) (h2:h+len=c.length):
  dZ K ⟨d,.call {callee:= .builtin .append,args:= #[x,y],argTypes:= #[t,t]},ty,pos,af,g⟩ s
   (({s with H:=a' s.H k (aa (.aC Γ m gen (c.take l++(c.drop h).take len++c.drop (l+len)) (tR (l+len) (h-l) size)))}:S).put d (.bd k gen size 0 (l+len))):=by
 intro β a w next Q b6 hkk
 have yX:=b6.get x;rw[hx] at yX;have kM:=b6.get y;rw[hy] at kM;have hK:=(b6.heap k _ hH).2;have jk:=hK.1;obtain⟨q,dr⟩:=rW hK;obtain⟨_,i,mF,hi2,lP,s3⟩:=id he;unfold Oper.wp;rcases fb kM dr with ⟨IZ,b,n,iC,aib,iS,hw,hs,ca,nD,hm⟩|⟨_,_,Jf,_⟩
 ·subst iS;rcases fb yX dr with ⟨r,hY,wh,SO,mH,k9,td,R,nE,ahs,vA⟩|⟨Jf,_⟩
  ·cases k9;rcases hK.2 with ⟨g1,_⟩|⟨cM,C,B,g1,M,g3,g4,g5,g6,g7,g8⟩
   ·rw[dr] at g1;cases g1
   rw[dr] at g1;cases g1;rw[k8] at g3 g4 g5;have N:C.size=wh:=by
    unfold World.shape? at R;rw[M] at R;simp at R;exact R.2
   obtain⟨D,F⟩: ∃D,D=(C.toList.drop (h*size)).take (len*size):=⟨_,rfl⟩
   have hle:(h+len)*size<=C.size:=by rw[h2];exact g3
   rw[dN] at hle;have W:D.length=len*size:=by rw[F];simp;omega
   have V: ∀j v,D[j]? =aa v->C[h*size+j]? =aa v/\j<len*size:=λj v L=>by
    have f:=(d6.1 L).1;rw[W] at f;rw[F,fs,bg f,fv] at L;exact⟨by simpa using L,f⟩
   have E: ∀gU,gU<c.length-> ∃p,c[gU]? =aa p/\p.length=size:=λgU vz=>⟨_,bD vz,g4 _ (fV vz)⟩
   have yN: ∀j v,D[j]? =aa v->w.cell? ((⟨b,h*size,ak⟩:Addr).add j)=aa v:=λj v L=>by
    rw[jD];simp only[World.cell?,M];exact(V j v L).1
   have nF: ∀v,v∈D->v.oneCell'=ab:=λv L=>by
    obtain⟨j,f⟩:=jq.1 L;obtain⟨h3,h4⟩:=V j v f;have JG:j%size<size:=rS _ hp;have hdiv:j / size<len:=(rP hp).2 h4;obtain⟨p,oK,vC⟩:=E (h+j / size) O;have Jx:(h+j / size)*size+j%size=h*size+j:=by rw[dN,nR,zR]
    exact(g5 (h+j / size) (j%size) p p[j%size] v oK (bD O) (by rw[Jx];exact h3)).none.hP
   have mE:l*size+D.length<=C.size:=by
    rw[W,<-dN];exact eO (dR _ O) g3
   have G:l+len<=r:=by
    have:(l+len)*size<=r*size:=by
     rw[dA] at nE;rw[nE,<-N];exact eO (dR _ O) g3
    exact Nat.le_of_mul_le_mul_right this hp
   have A:=run_append_room (P:=K.P) w t ty e i fo mF b l r C (j8▸M) ⟨b,h*size,ak⟩ len IZ D (by rw[lP];exact W) yN nF G (by rw[lP];exact mE);rw[lP] at A;generalize vF:(C.toList.take (l*size)++D++C.toList.drop (l*size+D.length)).toArray=I at A;have yT:(execOp a.eval ⟨d,.call {callee:= .builtin .append,args:= #[x,y],argTypes:= #[t,t]},ty,pos,af,g⟩).run K.P w= .ok (.value (.slice (aa ⟨b,0,ak⟩) (l+len) r)) (w.setRow b I):=by
    rw[gL] at mH;simp[execOp,resolve,invoke,builtin,mH,aib,A]
   rw[yT];have Dp:(C.toList.take (l*size)).length=l*size:=cd
   have Y:I.size=C.size:=by rw[<-vF];simp;omega
   have RY:(c.take l).length=l:=by rw[c8];omega
   have ahR:((c.drop h).take len).length=len:=by rw[c8,fN];omega
   have hlen:(c.take l++(c.drop h).take len++c.drop (l+len)).length=c.length:=by simp only[List.length_append,RY,ahR,List.length_drop];omega
   have yL: ∀cP:Nat,I[cP]? =(C.toList.take (l*size)++D++C.toList.drop (l*size+D.length))[cP]? :=λcP=>by rw[<-vF];simp
   obtain⟨β',Dq,hrel⟩:=b6.pick k hH k8 dr M Y (setRow_heap _ _ _ _ _ _ M) Md (c.take l++(c.drop h).take len++c.drop (l+len)) (by rw[hlen];exact g3) (λp o=>by
    rw[eX,eX] at o;rcases o with (o|o)|o
    ·exact g4 p (gm o)
    ·exact g4 p (ft (gm o))
    ·exact g4 p (ft o)) (l+len) (tR (l+len) (h-l) size) (λi j v L=>⟨(B8.1 L).1,(B8.1 L).2.2.2⟩) (λi j g1 M g3=>B8.2 ⟨g1,by rw[hlen] at M;omega,g3,rfl⟩) (λi=>if i<l then i else h+(i-l)) (λi aL _=>by
    by_cases c1:i<l
    ·simp only[c1,if_true];refine⟨O,?_,λ_ _=>lr,λj f=>?_⟩
     ·rw[hf,hz O,fs,bg c1]
     have hlt:i*size+j<l*size:=lV c1 f;rw[yL,hf,hz O,fs,bg hlt,nc]
    ·simp only[c1,if_false];refine⟨O,?_,λ_ _=>lr,λj f=>?_⟩
     ·rw[hz (by rw[dQ];omega),ic O,RY,fs,bg O,fv]
     have e1:i*size+j=l*size+((i-l)*size+j):=by rw[ub];have:=dR size (O:l<=i);omega
     have hlt:(i-l)*size+j<len*size:=lV O f;rw[yL,e1,hz (by rw[dQ,Dp,W];omega),ic O,Dp,Nat.add_sub_cancel_left,F,fs,bg hlt,fv,nc,dN,nR]) (λi gU _ _ _ _ he=>by
    by_cases c1:i<l<;>by_cases c2:gU<l<;>simp only[c1,c2,if_true,if_false] at he<;>omega)
   refine hkk β' _ _ (hrel.put d cJ ?_);have jE:=bC.bd (β:=β') (w:=w.setRow b I) (X:=own K β' (a' s.H k (aa (.aC Γ m gen (c.take l++(c.drop h).take len++c.drop (l+len)) (tR (l+len) (h-l) size))))) k gen size 0 (l+len) r b wh e jk (by rw[Dq];exact dr) (by simpa using td) (by
    unfold World.shape?;rw[setRow_heap _ _ _ _ _ _ M];simp only[Y,N,j8]) nE G vA
   rw[gL] at jE;exact jE
  rw[dr] at *; cases Jf
 omega
theorem ach(x:Operand)(F off c:Nat)(e:TypeId)(l:List dy)(m:Nat)(o:List (List T))(G:List (Nat×Nat×V))(z0:List T)(hx:s.get x= .bd F gen size off c)(hH:s.H F=aa (.aC l m gen o G))(k8:(U l m).size=size)(fo:K.P.underlying t=aa (.slice e))(he:cj K.P e u z sz bytes)
  (bx:(d9 z).val=ab) (et:k2 (d9 z).cs=aa z0) (aii:z0.length=size) (h0:0<c) (cS:off+c=o.length) (oJ: ∀h,h∈G->off<=h.1):
  dZ K ⟨ak,.call {callee:= .builtin .clear,args:= #[x],argTypes:= #[t]},ty,pos,af,g⟩ s {s with H:=a' s.H F (aa (.aC l m gen (o.take off) []))}:=by
 subst k8;obtain⟨c,rfl⟩: ∃k,c=k+1:=⟨c-1,O⟩
 intro β a w next Q b6 hk
 have L:=b6.get x;rw[hx] at L;have R:=(b6.heap F _ hH).2;obtain⟨q,dr⟩:=rW R;obtain⟨oN,aij⟩:=O' bx et;unfold Oper.wp;rcases fb L dr with ⟨cap,b,n,iC,mH,iS,hw,hs,ca,nD,hm⟩|⟨_,_,Jf,_⟩
 ·subst iS;rcases R.2 with ⟨W,_⟩|⟨cM,X,B,W,h2,h3,h4,h5,h6,lM,mC⟩
  ·rw[dr] at W;cases W
  rw[dr] at W;cases W;have p:z.cells.size=(U l m).size:=by rw[oN,aii]
  have y:(ei z.cells (c+1)).toList.length=(c+1)*(U l m).size:=by rw[l3,size_zeroCells,p]
  have mE:off*(U l m).size+(c+1)*(U l m).size<=X.size:=by
   rw[<-dN,cS];exact h3
  have f: ∀v∈(ei z.cells (c+1)).toList,v.oneCell'=ab:=by
   intro v JP;obtain⟨k,hk⟩:=jq.1 JP;have A:=(d6.1 hk).1;rw[y] at A;have hp:0<(U l m).size:=by
    rcases Nat.eq_zero_or_pos (U l m).size with e0|e0
    ·rw[e0] at A;omega
    exact e0
   have E:k / (U l m).size<c+1:=(rP hp).2 A;have r:k%(U l m).size<(U l m).size:=rS _ hp;have C:(ei z.cells (c+1)).toList[k / (U l m).size*(U l m).size+k%(U l m).size]? =aa v:=by rw[zR];exact hk
   rw[<-p] at C r;rw[K6 _ _ _ _ (by rw[p];exact E) r] at C
   have:(z0.map h')[k%z.cells.size]? =aa (h' (z0[k%z.cells.size]' O)):=by rw[eG,bD O];rfl
   exact(bC.t (β:=β) _ _ (aij w (λ_=>False) _ _ _ C this)).hP rfl
  have D:=run_storeCells_at K.P b (off*(U l m).size) (U l m).ty (ei z.cells (c+1)).toList 0 X w h2 (by rw[y];omega) f;simp only[Nat.add_zero] at D;generalize I:(X.toList.take (off*(U l m).size)++(ei z.cells (c+1)).toList++X.toList.drop (off*(U l m).size+(ei z.cells (c+1)).toList.length)).toArray=M at D;have N:(execOp a.eval ⟨ak,.call {callee:= .builtin .clear,args:= #[x],argTypes:= #[t]},ty,pos,af,g⟩).run K.P w= .ok (.value (.tuple #[])) (w.setRow b M):=by
   simp[execOp,resolve,invoke,builtin,mH,Builtin.clear_,run_underlying fo,he.rB,D]
  rw[N];have Y:M.size=X.size:=by rw[<-I];simp[y];omega
  have vE:(o.take off).length=off:=by rw[c8];omega
  obtain⟨β',Dq,hrel⟩:=b6.pick F hH rfl dr h2 Y (setRow_heap _ _ _ _ _ _ h2) Md (o.take off) (by rw[vE];omega) (λrow vD=>h4 row (gm vD)) off [] (λ_ _ _ h=>br h lr) (λi j g1 g2 _=>by rw[vE] at g2;omega) (λi=>i) (λi aL _=>⟨O,by rw[fs,bg aL],λj v bx=>by have:=oJ _ bx;exact br aL (by show¬i<off;exact Nat.not_lt.2 this),λj hj=>by
   have hlt:i*(U l m).size+j<off*(U l m).size:=lV aL hj;rw[<-I,List.getElem?_toArray,hf,hz (by rw[c8,l3];omega),fs,bg hlt,nc]⟩) λ_ _ _ _ _ _ h=>h
  exact hk β' _ _ hrel
 omega
theorem abb{size off:Nat}{a c:List (List T)}{us cs:List Value}(r:off+m<=a.length)(A:a.length*size<=us.length)(o:cs.length=m*size)(B:m<=c.length)(p: ∀b,b∈a->b.length=size)(e: ∀b,b∈c->b.length=size){R:T->Value->Prop}
  (q: ∀(i j:Nat) (b:List T) (x:T) (u:Value),a[i]? =aa b->b[j]? =aa x->us[i*size+j]? =aa u->R x u)
  (w: ∀(i j:Nat) (b:List T) (x:T) (u:Value),c[i]? =aa b->b[j]? =aa x->cs[i*size+j]? =aa u->R x u):
  ∀(i j:Nat) (b:List T) (x:T) (u:Value),(a.take off++c.take m++a.drop (off+m))[i]? =aa b->b[j]? =aa x->(us.take (off*size)++cs++us.drop (off*size+cs.length))[i*size+j]? =aa u->R x u:=by
 have C:off*size+m*size<=a.length*size:=by rw[<-dN];exact dR _ r
 have y:=BE (us.take (off*size)) cs [] (rows:=a.take off) (news:=c.take m) (n:=off) (size:=size) (by rw[c8];omega) (by rw[c8];omega) (by rw[c8,o];congr 1;omega)
  (λb h=>p b (gm h)) (λb h=>e b (gm h)) (R:=R)
  (λk j b x u aP a2 a3=>by
   rw[fs] at aP a3;split at aP
   ·split at a3
    ·exact q k j b x u aP a2 a3
    cases a3
   cases aP)
  (λk j b x u aP a2 a3=>by
   rw[fs] at aP;split at aP
   ·exact w k j b x u aP a2 a3
   cases aP)
 have l:(us.drop (off*size+cs.length)).length=us.length-(off+m)*size:=by rw[fN,o,dN]
 have fC:=BE (us.take (off*size)++cs) ((us.drop (off*size+cs.length)).take ((a.length-(off+m))*size)) ((us.drop (off*size+cs.length)).drop ((a.length-(off+m))*size)) (rows:=a.take off++c.take m) (news:=a.drop (off+m)) (n:=off+m) (size:=size)
  (by rw[dQ,c8,c8];omega) (by rw[dQ,c8,o,dN];omega)
  (by
   rw[c8,l,fN]
   have:(a.length-(off+m))*size=a.length*size-(off+m)*size:=ub _ _ _;omega)
  (λb h=>by
   rcases eX.1 h with h|h
   ·exact p b (gm h)
   exact e b (gm h)) (λb h=>p b (ft h)) (R:=R) (λk j b x u aP a2 a3=>y k j b x u aP a2 (by simpa using a3))
  (λk j b x u aP a2 a3=>by
   rw[fv] at aP;rw[fs] at a3;split at a3
   ·rw[fv,o] at a3;refine q (off+m+k) j b x u aP a2 ?_;rw[dN,dN,nR];exact a3
   cases a3)
 intro i j b x u aP a2 a3;refine fC i j b x u aP a2 ?_;rw[hf _ (List.take _ _),ua];exact a3
theorem afw(x y:Operand)(E c len:Nat)(e e' l2:TypeId)(rows k:List (List T))(cJ: ∀i,d=aa i->dp i K.nt=ab)(hx:s.get x= .bd E gen size c len)(hy:dK (s.get y) (.t (.bH k)))(hH:s.H E=aa (.arr e' gen size rows))(fo:K.P.underlying t=aa (.slice e))
  (he:cj K.P e u z size bytes) (hp:0<size) (I: ∀r,r∈k->r.length=size) (cS:c+len<=rows.length):
  dZ K ⟨d,.call {callee:= .builtin .copy,args:= #[x,y],argTypes:= #[t,l2]},ty,pos,af,g⟩ s
   (({s with H:=a' s.H E (aa (.arr e' gen size (rows.take c++k.take (Nat.min k.length len)++rows.drop (c+Nat.min k.length len))))}:S).put d (.t (.int .i64 (Nat.min k.length len:Nat)))):=by
 intro β a w next Q b6 hk
 have M:=b6.get x;rw[hx] at M;have kM:=hy _ _ _ _ (b6.get y);have N:=(b6.heap E _ hH).2;obtain⟨q,U⟩:=l0 N;obtain⟨_,i,mF,hi2,lP,s3⟩:=he;unfold Oper.wp;have ah8: ∃C c1,a.eval x= .slice C len c1:=by
  rcases fb M U with ⟨D,b,n,iC,B,_⟩|⟨_,_,h0,B⟩
  ·exact⟨_,D,B⟩
  subst h0;exact⟨ak,0,B⟩
 have W:=Bg kM I hp;have aid: ∃Kl c2,a.eval y= .slice Kl k.length c2:=by
  rcases W with (⟨A,X⟩|⟨b,c,D,G,A,_⟩)|⟨X,oz,D,A⟩
  ·subst X;exact⟨ak,0,A⟩
  ·exact⟨_,_,A⟩
  subst X;exact⟨oz,D,A⟩
 obtain⟨m,hm⟩: ∃m,m=Nat.min k.length len:=⟨_,rfl⟩
 rw[<-hm] at hk;by_cases V:m=0
 ·subst V;obtain⟨C,c1,B⟩:=ah8;obtain⟨Kl,c2,A⟩:=aid;have F:(execOp a.eval ⟨d,.call {callee:= .builtin .copy,args:= #[x,y],argTypes:= #[t,l2]},ty,pos,af,g⟩).run K.P w= .ok (.value (goInt ((0:Nat):Int))) w:=by
   cases C<;>cases Kl<;>simp[execOp,resolve,invoke,builtin,B,A,Builtin.copy_,run_underlying fo,sizeOf,typeInfo,mF,Builtin.lenOf,Builtin.firstCells,<-hm,loadCells,loadCellsFrom,storeCells]
  rw[F]
  have:rows.take c++k.take 0++rows.drop (c+0)=rows:=bl
  rw[this] at hk;exact hk β _ _ ((b6.zI E _ hH).put d cJ (.t _ _ (.int _ _)))
 have aj7:m<=len:=by rw[hm];exact Nat.min_le_right _ _
 have o:m<=k.length:=by rw[hm];exact Nat.min_le_left _ _
 rcases W with (⟨_,X⟩|⟨cM,aja,C3,f,A,oM,JS,mG,hwr⟩)|⟨X,_⟩
 ·subst X;simp at o;exact br o V
 ·rcases fb M U with ⟨D,b,n,iC,B,iS,hw,hs,X,nD,pG⟩|⟨_,_,h0,_⟩
  ·subst iS;rcases N.2 with ⟨h1,_⟩|⟨Y,G,h1,h2,h3,h4,h5⟩
   ·rw[U] at h1;cases h1
   rw[U] at h1;cases h1;have L:(f.take (m*size)).length=m*size:=by rw[c8,oM];have:=dR size o;omega
   have mE:c*size+m*size<=G.size:=by
    have:(c+m)*size<=rows.length*size:=dR _ O;rw[dN] at this;omega
   have RI:=run_loadCells_list (P:=K.P) w ⟨cM,aja,ak⟩ (f.take (m*size)) (λj y hj=>by
    rw[jD];rw[fs] at hj;split at hj
    ·exact JS j y hj
    cases hj)
   have pJ:=run_storeCells_at K.P b (c*size) e' (f.take (m*size)) 0 G w h2 (by rw[L];omega) λv bx=>mG v (gm bx);simp only[Nat.add_zero] at pJ;rw[L] at RI;have F:(execOp a.eval ⟨d,.call {callee:= .builtin .copy,args:= #[x,y],argTypes:= #[t,l2]},ty,pos,af,g⟩).run K.P w= .ok (.value (goInt (m:Int))) (w.setRow b (G.toList.take (c*size)++f.take (m*size)++G.toList.drop (c*size+(f.take (m*size)).length)).toArray):=by
    simp[execOp,resolve,invoke,builtin,B,A,Builtin.copy_,run_underlying fo,sizeOf,typeInfo,mF,lP,Builtin.lenOf,Builtin.firstCells,<-hm,RI,pJ]
   rw[F];have kL:(G.toList.take (c*size)++f.take (m*size)++G.toList.drop (c*size+(f.take (m*size)).length)).toArray.size=G.size:=by
    have h2: ∀l:List Value,l.toArray.size=l.length:=λl=>bl
    rw[h2];simp only[List.length_append,L,List.length_take,List.length_drop,Array.length_toList];omega
   have hlen:(rows.take c++k.take m++rows.drop (c+m)).length=rows.length:=cd
   have j9:own K β s.H b:= .inr ⟨E,by rw[hH];simp,.inl ⟨_,U⟩⟩;refine hk β _ _ (Rel.put (Rel.setRow b6 E b (.inl ⟨_,U⟩) G e' h2 _ kL (.arr e' gen size (rows.take c++k.take m++rows.drop (c+m))) (by rw[hH];simp)
    ⟨N.1,Or.inr ⟨b,_,U,setRow_heap _ _ _ _ _ _ h2,by rw[kL,hlen];exact h3,λr p=>?_,λi j r x u aP a2 a3=>?_⟩⟩) d cJ (.t _ _ (.int _ _)))
   ·rw[eX,eX] at p;rcases p with (p|p)|p
    ·exact h4 r (gm p)
    ·exact I r (gm p)
    exact h4 r (ft p)
   have h9:=abb (off:=c) (m:=m) (us:=G.toList) (cs:=f.take (m*size)) O (by simpa using h3) L o h4 I (R:=λx u=>c7 w (own K β s.H) x u) (λi j r x u dm cM Y=>h5 i j r x u dm cM (by simpa using Y))
    (λi j r x u dm cM Y=>by
     rw[fs] at Y;split at Y
     ·exact hwr i j r x u dm cM Y
     cases Y) i j r x u aP a2 (by simpa using a3)
   refine h9.mono ⟨rfl,rfl,rfl,bl,λkk _ hx=>setRow_other _ _ _ _ λe0=>hx ?_⟩ λ_ _ h=>h;subst e0;exact j9
  omega
 subst X;simp at o;exact br o V
end steps
end Go.Lift
