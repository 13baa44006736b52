/- An evaluator of straight code at value level: values. -/
import Derived.Test.YtlbojjldejlgaaaGreatTLiftT
import Derived.Test.YtlbojjldejlgaaaGreatTLiftTV
namespace Go.Lift
open Go
inductive TyK where
 |bool
 |int (k:IntKind)
 |string
 |slice (e:Nat)
 |array (n e:Nat)
 |struct (fs:List (Nat×Nat))
 |ifc
 |other
structure TyI where
 u:TyK
 z:Value
 size:Nat
 bytes:Nat
 places:Array (Nat×Nat)
def TyK.agg:TyK→Bool
 | .struct _=>true
 | .array _ _=>true
 |_=>false
def TyI.is(P:Program)(i:TyI)(u:TypeDesc):Prop:=match i.u with
 | .bool=>u= .bool
 | .int k=>u= .int k
 | .string=>u= .string
 | .slice e=>u= .slice e
 | .array n e=>u= .array n e
 | .struct l=> ∃fs,u= .struct fs∧fs.toList.map (fun f=>(f.type,f.offset))=l∧ ∀w,(fs.mapM (m:=Sem) fun f:Field=>do pure (f.offset,←sizeOf f.type)).run P w= .ok i.places w
 | .ifc=> ∃m,u= .interface m
 | .other=>wO u=false
def TyI.ok(P:Program)(t:TypeId)(i:TyI):Prop:= ∃u,TI P t u i.z i.size i.bytes∧i.is P u
theorem TyI.ok.agg{P:Program}{t:TypeId}{i:TyI}(h:i.ok P t): ∃u,TI P t u i.z i.size i.bytes∧wO u=i.u.agg:=by
 obtain⟨u,h1,h2⟩:=h;refine⟨u,h1,?_⟩;unfold TyI.is at h2;split at h2
 ·rename_i hk;rw [hk,h2];rfl
 ·rename_i hk;rw [hk,h2];rfl
 ·rename_i hk;rw [hk,h2];rfl
 ·rename_i hk;rw [hk,h2];rfl
 ·rename_i hk;rw [hk,h2];rfl
 ·rename_i hk;rw [hk];obtain⟨fs,h3,_⟩:=h2;rw [h3];rfl
 ·rename_i hk;rw [hk];obtain⟨m,h3⟩:=h2;rw [h3];rfl
 rename_i hk;rw [hk,h2];rfl
theorem TyI.ok.und{P:Program}{t:TypeId}{i:TyI}(h:i.ok P t):(i.u= .bool→P.underlying t=some .bool)∧(∀k,i.u= .int k→P.underlying t=some (.int k))∧(i.u= .string→P.underlying t=some .string)∧
  ∀e,i.u= .slice e→P.underlying t=some (.slice e):=by obtain⟨u,h1,h2⟩:=h;refine⟨fun hk=>?_,fun k hk=>?_,fun hk=>?_,fun e hk=>?_⟩<;>simp only [TyI.is,hk] at h2<;>rw [←h2]<;>exact h1.1
theorem TyI.ok.st{P:Program}{t:TypeId}{i:TyI}{l:List (Nat×Nat)}(h:i.ok P t)(hk:i.u= .struct l): ∃fs,TI P t (.struct fs) i.z i.size i.bytes∧fs.toList.map (fun f=>(f.type,f.offset))=l∧ ∀w,(fs.mapM (m:=Sem) fun f:Field=>do pure (f.offset,←sizeOf f.type)).run P w= .ok i.places w:=by obtain⟨u,h1,h2⟩:=h;simp only [TyI.is,hk] at h2;obtain⟨fs,rfl,h3,h4⟩:=h2;exact⟨fs,h1,h3,h4⟩
def bM:List (Nat×TyI)→Nat→Option TyI
 | [],_=>none
 |(t,i)::l,k=>bif Nat.beq t k then some i else bM l k
def TyOK(P:Program)(Ty:List (Nat×TyI)):Prop:= ∀t i,bM Ty t=some i→i.ok P t
theorem TyOK.nil{P:Program}:TyOK P []:=fun _ _ h=>by cases h
theorem TyOK.cons{P:Program}{Ty:List (Nat×TyI)}{t:Nat}{i:TyI}(h:i.ok P t)(hr:TyOK P Ty):TyOK P ((t,i)::Ty):=by
 intro k j hk;simp only [bM] at hk;cases hb:Nat.beq t k with
 |true=>rw [hb] at hk;cases hk;rw [←fV hb];exact h
 |false=>rw [hb] at hk;exact hr k j hk
inductive Hn where
 |row (r:List T)
 |rows (r:List (List T))
 |str (s:List UInt8)
 |int (n:Int)
 |nat (n:Nat)
 |b (w:Bool)
 |y (b:UInt8)
 |v (v:V)
 |frz (slot k:Nat)
 |frzs (slots:List Nat) (k:Nat)
 |grow (slot k:Nat) (e:TypeId)
 |nzc (k:Nat)
 |frzc (b j k:Nat)
 |growc (b j k:Nat) (e:TypeId)
 |rgs (i k g:Nat)
 |rgc (b j k g:Nat)
 |len (slot n:Nat)
 |lenc (b j n:Nat)
 |fp (k:Nat) (slots:List Nat)
 |fz (k:Nat) (slots blocks:List Nat)
 |rn (k k':Nat) (slots blocks:List Nat)
 |at (rem:Nat)
 |ren (slot k k':Nat)
 |vc (L news:List Nat) (r:V) (out:List E)
 |tre (k:Nat) (Γ:List Nd) (m:Nat)
 |shd (k:Nat)
 |foc (k k' i j:Nat) (row:List T)
 |unf (k k':Nat) (row:List T) (R:List (List T))
 |lt (k:Nat) (Γ:List Nd) (m:Nat)
 |flt (k i j:Nat) (row:List T)
 |unt (k:Nat) (row:List T) (R:List (List T))
 |growa (i j k:Nat) (e:TypeId)
 |cut (k n:Nat) (R:List (List T))
inductive Ob where
 |p (p:Prop)
 |q (a b:Nat)
def Obs:List Ob→Prop
 | []=>True
 | .p p::l=>p∧Obs l
 | .q a b::l=>a=b∧Obs l
def obP:List Ob→Prop
 | []=>True
 | .p p::l=>p∧obP l
 | .q _ _::l=>obP l
def obL:List Ob→List Nat
 | []=>[]
 | .p _::l=>obL l
 | .q a _::l=>a::obL l
def obR:List Ob→List Nat
 | []=>[]
 | .p _::l=>obR l
 | .q _ b::l=>b::obR l
theorem Obs.of: ∀{l:List Ob},obP l→obL l=obR l→Obs l
 | [],_,_=>trivial
 | .p _::_,h,k=>⟨h.1,Obs.of h.2 k⟩
 | .q _ _::_,h,k=>by simp only [obL,obR,List.cons.injEq] at k;exact⟨k.1,Obs.of h k.2⟩
theorem Obs.app: ∀{l m:List Ob},Obs (l++m)→Obs l∧Obs m
 | [],_,h=>⟨trivial,h⟩
 | .p _::_,_,h=>⟨⟨h.1,(Obs.app h.2).1⟩,(Obs.app h.2).2⟩
 | .q _ _::_,_,h=>⟨⟨h.1,(Obs.app h.2).1⟩,(Obs.app h.2).2⟩
def ix{α:Type}(l:List α)(i:Int):Option α:=if 0≤i then l[i.toNat]? else none
def sub{α:Type}(l:List α)(a b:Int):Option (List α):=if 0≤a∧a≤b∧b≤l.length then some ((l.take b.toNat).drop a.toNat) else none
def cat(a b:List UInt8):Option (List UInt8):=if(a.length:Int)+b.length≤9223372036854775807 then some (a++b) else none
def app{α:Type}(a b:List α):Option (List α):=if a.length+b.length≤1000000000 then some (a++b) else none
def mk{α:Type}(n:Int)(x:α):Option (List α):=if 0≤n∧n≤1000000000 then some (List.replicate n.toNat x) else none
def dM{α:Type}(l:List α)(i:Int)(x:α):Option (List α):=if 0≤i∧i<l.length then some (l.set i.toNat x) else none
def wr(n:Int):Int:=IntKind.i64.wrap n
theorem qX{α:Type}{l:List α}{i:Int}{x:α}(h:ix l i=some x):0≤i∧l[i.toNat]? =some x:=by
 unfold ix at h;split at h
 ·exact⟨‹_›,h⟩
 cases h
theorem aHO{α β:Type}{l:List α}{i:Int}{x:α}(f:α→β)(h:ix l i=some x):ix (l.map f) i=some (f x):=by obtain⟨h1,h2⟩:=qX h;unfold ix;rw [if_pos h1,zG,h2];rfl
theorem w4{α:Type}{l r:List α}{a b:Int}(h:sub l a b=some r):0≤a∧a≤b∧b≤l.length∧r=(l.take b.toNat).drop a.toNat:=by
 unfold sub at h;split at h
 ·rename_i hc;cases h;exact⟨hc.1,hc.2.1,hc.2.2,rfl⟩
 cases h
theorem F9{α β:Type}{l r:List α}{a b:Int}(f:α→β)(h:sub l a b=some r):sub (l.map f) a b=some (r.map f):=by obtain⟨h1,h2,h3,rfl⟩:=w4 h;unfold sub;rw [if_pos ⟨h1,h2,by simpa using h3⟩,List.map_drop,List.map_take]
theorem qC{α:Type}{a b r:List α}(h:app a b=some r):a.length+b.length≤1000000000∧r=a++b:=by
 unfold app at h;split at h
 ·cases h;exact⟨‹_›,rfl⟩
 cases h
theorem aX{α β:Type}{a b r:List α}(f:α→β)(h:app a b=some r):app (a.map f) (b.map f)=some (r.map f):=by obtain⟨h1,rfl⟩:=qC h;unfold app;rw [if_pos (by simpa using h1),vAP]
theorem jU{α:Type}{n:Int}{x:α}{r:List α}(h:mk n x=some r):0≤n∧n≤1000000000∧r=List.replicate n.toNat x:=by
 unfold mk at h;split at h
 ·rename_i hc;cases h;exact⟨hc.1,hc.2,rfl⟩
 cases h
theorem s6{α β:Type}{n:Int}{x:α}{r:List α}(f:α→β)(h:mk n x=some r):mk n (f x)=some (r.map f):=by obtain⟨h1,h2,rfl⟩:=jU h;unfold mk;rw [if_pos ⟨h1,h2⟩,List.map_replicate]
theorem m0{α:Type}{l r:List α}{i:Int}{x:α}(h:dM l i x=some r):0≤i∧i<l.length∧r=l.set i.toNat x:=by
 unfold dM at h;split at h
 ·rename_i hc;cases h;exact⟨hc.1,hc.2,rfl⟩
 cases h
theorem aIJ{a b r:List UInt8}(h:cat a b=some r):(a.length:Int)+b.length≤9223372036854775807∧r=a++b:=by
 unfold cat at h;split at h
 ·cases h;exact⟨‹_›,rfl⟩
 cases h
mutual
def nzV:V→V
 | .t .nilS=> .t (.sl [])
 | .agg cs=> .agg (G6 cs)
 | .tup cs=> .tup (G6 cs)
 | .t (.sl r)=> .t (.sl r)
 | .t (.int k n)=> .t (.int k n)
 | .t (.bool b)=> .t (.bool b)
 | .t (.str s)=> .t (.str s)
 |v=>v
def G6:List V→List V
 | []=>[]
 |c::cs=>nzV c::G6 cs
end
mutual
theorem zS: ∀v:V,VLe v (nzV v)
 | .t .nilS=>VLe.nil
 | .t (.sl _)| .t (.int _ _)| .t (.bool _)| .t (.str _)| .t .nilP| .t .nilI| .t .nilF| .t .err=>VLe.refl _
 | .agg cs=>VLe.agg (kW cs)
 | .tup cs=>VLe.tup (kW cs)
 | .ref _ _| .tp _| .msl _ _ _ _ _| .eref _ _ _ _ _| .fn _ _| .junk=>VLe.refl _
theorem kW: ∀cs:List V,VsLe cs (G6 cs)
 | []=>trivial
 |c::cs=>⟨zS c,kW cs⟩
end
theorem iZ: ∀cs:List V,(G6 cs).length=cs.length
 | []=>rfl
 |c::cs=>by simp [G6,iZ cs]
def aF3(k:Option Nat):List V→List V
 | [.t .nilS]=>match k with
  |some _=>[.t .nilS]
  |none=>G6 [.t .nilS]
 |vs=>G6 vs
theorem aJY(k:Option Nat)(cs:List V):VsLe cs (aF3 k cs):=by
 unfold aF3;split
 ·split
  ·exact VsLe.refl _
  exact kW _
 exact kW _
theorem aCe(k:Option Nat)(cs:List V):(aF3 k cs).length=cs.length:=by
 unfold aF3;split
 ·split
  ·rfl
  exact iZ _
 exact iZ _
def toT:V→Option T
 | .t x=>some x
 |_=>none
def zH:List V→Option (List T)
 | []=>some []
 |v::vs=>match toT v,zH vs with
  |some x,some xs=>some (x::xs)
  |_,_=>none
theorem lH: ∀{vs:List V} {xs:List T},zH vs=some xs→vs=xs.map .t
 | [],_,h=>by cases h;rfl
 |v::vs,xs,h=>by
  simp only [zH] at h;split at h
  ·rename_i x xs' h1 h2;cases h;have h2:=lH h2;cases v<;>simp [toT] at h1;subst h1;subst h2;rfl
  cases h
def M1:List V→Option (List Int)
 | []=>some []
 | .t (.int .i64 m)::vs=>match M1 vs with
  |some ms=>some (m::ms)
  |none=>none
 |_=>none
theorem pI: ∀{vs:List V} {ms:List Int},M1 vs=some ms→vs=ms.map vI
 | [],_,h=>by cases h;rfl
 |v::vs,ms,h=>by
  unfold M1 at h;split at h
  ·rename_i h0;cases h0
  ·rename_i m vs' h0;cases h0;split at h
   ·rename_i ms' h2;cases h;rw [pI h2];rfl
   cases h
  cases h
abbrev VR:=Option (V×List Ob×List Hn)
def aKM(op:BinOp)(m n:Int):Option Bool:=
 match op with
 | .eql=>some (decide (m=n))
 | .neq=>some (!decide (m=n))
 | .lss=>some (decide (m<n))
 | .leq=>some (decide (m≤n))
 | .gtr=>some (decide (n<m))
 | .geq=>some (decide (n≤m))
 |_=>none
def aIw(op:BinOp):Bool:=
 match op with
 | .and| .or| .xor| .andNot=>true
 |_=>false
def aIj(op:BinOp)(k:IntKind)(m n:Int)(hs:List Hn):VR:=
 match op with
 | .add=>some (.t (.int k (k.wrap (m+n))),[],hs)
 | .sub=>some (.t (.int k (k.wrap (m-n))),[],hs)
 | .mul=>some (.t (.int k (k.wrap (m*n))),[],hs)
 | .quo=>some (.t (.int k (k.wrap (m.tdiv n))),[.p (n≠0)],hs)
 | .rem=>some (.t (.int k (m.tmod n)),[.p (n≠0)],hs)
 | .and=>some (.t (.int k (bits .and k m n)),[],hs)
 | .or=>some (.t (.int k (bits .or k m n)),[],hs)
 | .xor=>some (.t (.int k (bits .xor k m n)),[],hs)
 | .andNot=>some (.t (.int k (bits .andNot k m n)),[],hs)
 | .shl| .shr=>none
 |op=>match aKM op m n with
  |some b=>some (.t (.bool b),[],hs)
  |none=>none
def aH8(op:BinOp)(m n:List UInt8)(hs:List Hn):VR:=
 match op,hs with
 | .add,.str r::hs=>some (.t (.str r),[.p (cat m n=some r)],hs)
 | .eql,hs=>some (.t (.bool (decide (m=n))),[],hs)
 | .neq,hs=>some (.t (.bool (!decide (m=n))),[],hs)
 | .geq,hs=>some (.t (.bool (!Op.bytesLess m n)),[],hs)
 | .lss,hs=>some (.t (.bool (Op.bytesLess m n)),[],hs)
 | .gtr,hs=>some (.t (.bool (!Op.bytesLess m n&& !m==n)),[],hs)
 | .leq,hs=>some (.t (.bool (Op.bytesLess m n||m==n)),[],hs)
 |_,_=>none
def aD2:Option TyI→Bool
 |some i=>match i.u with
  | .bool=>true
  |_=>false
 |none=>false
def aIy(P:Program)(Ty:List (Nat×TyI))(op:BinOp)(t:TypeId)(v w:V)(hs:List Hn):VR:=
 match v,w with
 | .t (.int k m),.t (.int k' n)=>if k=k' then aIj op k m n hs else none
 | .t (.str m),.t (.str n)=>aH8 op m n hs
 | .t (.bool p),.t (.bool q)=>match aD2 (bM Ty t),op with
  |true,.eql=>some (.t (.bool (p==q)),[],hs)
  |true,.neq=>some (.t (.bool (!(p==q))),[],hs)
  |_,_=>none
 | .agg cs,.agg ds=>match M1 cs,M1 ds,op,hs with
  |some ms,some ns,.eql,.b b::hs=>some (.t (.bool b),[.p (SE P t ms.length),.q ns.length ms.length,.p (decide (ms=ns)=b)],hs)
  |some ms,some ns,.neq,.b b::hs=>some (.t (.bool (!b)),[.p (SE P t ms.length),.q ns.length ms.length,.p (decide (ms=ns)=b)],hs)
  |_,_,_,_=>none
 |_,_=>none
def aHR:Option TyI→Bool
 |some i=>match i.u with
  | .ifc=>true
  |_=>false
 |none=>false
def isC:Operand→Bool
 | .const _=>true
 |_=>false
def aIl(Ty:List (Nat×TyI))(op:BinOp)(t:TypeId)(x y:Operand)(v w:V)(hs:List Hn):VR:=
 match aHR (bM Ty t),isC x||isC y,v,w,op with
 |true,true,.t .err,.t .nilI,.eql=>some (.t (.bool false),[],hs)
 |true,true,.t .err,.t .nilI,.neq=>some (.t (.bool true),[],hs)
 |true,true,.t .nilI,.t .nilI,.eql=>some (.t (.bool true),[],hs)
 |true,true,.t .nilI,.t .nilI,.neq=>some (.t (.bool false),[],hs)
 |_,_,_,_,_=>none
def aLW(op:UnOp)(v:V)(hs:List Hn):VR:=
 match op,v with
 | .not,.t (.bool b)=>some (.t (.bool (!b)),[],hs)
 | .neg,.t (.int k n)=>some (.t (.int k (k.wrap (0-n))),[],hs)
 |_,_=>none
def M0(Ty:List (Nat×TyI)):Option TyI→Bool
 |some i=>match i.u with
  | .slice e=>match bM Ty e with
   |some j=>match j.u with
    | .int .u8=>true
    |_=>false
   |none=>false
  |_=>false
 |none=>false
def aEg(Ty:List (Nat×TyI))(src dst:TypeId)(v:V)(hs:List Hn):VR:=
 match bM Ty src,bM Ty dst with
 |some i,some j=>match j.u,v,hs with
  | .int k',.t (.int _ n),.int m::hs=>some (.t (.int k' m),[.p (k'.wrap n=m)],hs)
  | .int .u8,.t (.int _ n),.y m::hs=>some (.t (.int .u8 (m.toNat:Nat)),[.p (UInt8.ofInt n=m)],hs)
  | .string,.t (.sl rows),.str l::hs=>match M0 Ty (some i) with
   |true=>some (.t (.str l),[.p (rows=l.map mX)],hs)
   |false=>none
  |_,_,_=>none
 |_,_=>none
def A3(Ty:List (Nat×TyI))(H:Nat→Option E)(t:TypeId)(v:V)(hs:List Hn):VR:=
 match bM Ty t with
 |none=>none
 |some i=>match v with
  | .ref id off=>match H id with
   |some (.cells cs)=>match i.u.agg with
    |true=>match Nat.ble (off+i.size) cs.length with
     |true=>some (.agg ((cs.drop off).take i.size),[],hs)
     |false=>none
    |false=>match cs[off]? with
     |some c=>some (c,[],hs)
     |none=>none
   |_=>none
  | .tp cs=>match i.u.agg with
   |true=>match Nat.ble i.size cs.length with
    |true=>some (.agg ((cs.take i.size).map .t),[],hs)
    |false=>none
   |false=>match cs with
    |c::_=>some (.t c,[],hs)
    | []=>none
  | .eref id gen sz k off=>match H id,i.u.agg,hs with
   |some (.arr _ gen' sz' rows),false,.row r::hs=>match r[off]? with
    |some c=>some (.t c,[.q gen' gen,.q sz' sz,.p (rows[k]? =some r)],hs)
    |none=>none
   |some (.arr _ gen' sz' rows),true,.row r::hs=>match Nat.ble (off+i.size) r.length with
    |true=>some (.agg (((r.drop off).take i.size).map .t),[.q gen' gen,.q sz' sz,.p (rows[k]? =some r)],hs)
    |false=>none
   |_,_,_=>none
  |_=>none
def N3(j:Nat):List (Nat×Nat×V)→Option (Nat×V)
 | []=>none
 |h::hs=>bif Nat.beq h.2.1 j then some (h.1,h.2.2) else N3 j hs
def wB(ho:List (Nat×Nat×V)):Nat→Nat→Option (List (Nat×V))
 |_,0=>some []
 |j,n+1=>match N3 j ho,wB ho (j+1) n with
  |some x,some l=>some (x::l)
  |_,_=>none
def M2(k:Nat):List (Nat×V)→List Ob
 | []=>[]
 |x::l=> .q x.1 k::M2 k l
def aDV(i j:Nat):List (Nat×Nat×V)→List Ob
 | []=>[]
 |h::hs=>bif Nat.beq h.2.1 j then .p (i≠h.1)::aDV i j hs else aDV i j hs
theorem xI{i j:Nat}: ∀{hs:List (Nat×Nat×V)},Obs (aDV i j hs)→ ∀v,(i,j,v)∉hs
 | [],_,_,h=>by cases h
 |h::hs,hφ,v,hm=>by
  unfold aDV at hφ;cases hb:Nat.beq h.2.1 j with
  |true=>
   rw [hb] at hφ;rcases qE.1 hm with rfl|hm
   ·exact hφ.1 rfl
   exact xI hφ.2 v hm
  |false=>
   rw [hb] at hφ;rcases qE.1 hm with rfl|hm
   ·simp at hb
   exact xI hφ v hm
def aA9(Ty:List (Nat×TyI))(H:Nat→Option E)(t:TypeId)(v:V)(hs:List Hn):VR:=
 match bM Ty t,v,hs with
 |some i,.eref id gen sz k off,.row r::hs=>match H id with
  |some (.tree Γ m gen' rows ho)=>match i.u.agg with
   |false=>match r[off]?,N3 off ho with
    |some c,none=>match (ndOf Γ m).kid off with
     |none=>some (.t c,[.q gen' gen,.q (ndOf Γ m).size sz,.p (rows[k]? =some r)],hs)
     |some _=>none
    |some _,some (i',v')=>some (v',[.q gen' gen,.q (ndOf Γ m).size sz,.p (rows[k]? =some r),.q i' k],hs)
    |none,_=>none
   |true=>match Nat.ble (off+i.size) r.length,wB ho off i.size with
    |true,some l=>some (.agg (l.map (·.2)),.q gen' gen:: .q (ndOf Γ m).size sz:: .p (rows[k]? =some r)::M2 k l,hs)
    |_,_=>none
  |_=>none
 |some i,.eref id gen sz k off,.int q:: .row r::hs=>match H id with
  |some (.tree Γ m gen' rows ho)=>match i.u.agg,r[off]?,ho[q.toNat]? with
   |false,some _,some (i',j',v')=>some (v',[.q gen' gen,.q (ndOf Γ m).size sz,.p (rows[k]? =some r),.q i' k,.q j' off],hs)
   |true,_,_=>match Nat.ble (off+i.size) r.length,wB (ho.drop q.toNat) off i.size with
    |true,some l=>some (.agg (l.map (·.2)),.q gen' gen:: .q (ndOf Γ m).size sz:: .p (rows[k]? =some r)::M2 k l,hs)
    |_,_=>none
   |_,_,_=>none
  |_=>none
 |some i,.eref id gen sz k off,.nat _:: .row r::hs=>match H id with
  |some (.tree Γ m gen' rows ho)=>match i.u.agg,r[off]?,(ndOf Γ m).kid off with
   |false,some c,none=>some (.t c,.q gen' gen:: .q (ndOf Γ m).size sz:: .p (rows[k]? =some r)::aDV k off ho,hs)
   |_,_,_=>none
  |_=>none
 |_,_,_=>none
def aIr(Ty:List (Nat×TyI))(t:TypeId)(k:Nat)(v:V)(hs:List Hn):VR:=
 match bM Ty t with
 |none=>none
 |some i=>match i.u with
  | .struct fs=>match fs[k]? with
   |none=>none
   |some fld=>match bM Ty fld.1 with
    |none=>none
    |some j=>match v with
     | .agg vs=>match j.u.agg with
      |true=>match Nat.ble (fld.2+j.size) vs.length with
       |true=>some (.agg ((vs.drop fld.2).take j.size),[],hs)
       |false=>none
      |false=>match vs[fld.2]? with
       |some c=>some (c,[],hs)
       |none=>none
     |_=>none
  |_=>none
def aBb(Ty:List (Nat×TyI))(H:Nat→Option E)(t:TypeId)(k:Nat)(v:V)(hs:List Hn):VR:=
 match bM Ty t with
 |none=>none
 |some i=>match i.u with
  | .struct fs=>match fs[k]? with
   |none=>none
   |some fld=>match bM Ty fld.1 with
    |none=>none
    |some j=>match Nat.beq j.size 0 with
     |true=>none
     |false=>match v with
      | .ref id off=>some (.ref id (off+fld.2),[],hs)
      | .tp cs=>some (.tp (cs.drop fld.2),[],hs)
      | .eref id gen sz n off=>match H id with
       |some (.arr _ gen' sz' _)=>some (.eref id gen sz n (off+fld.2),[.q gen' gen,.q sz' sz],hs)
       |some (.tree _ _ gen' _ _)=>some (.eref id gen sz n (off+fld.2),[.q gen' gen],hs)
       |_=>none
      |_=>none
  |_=>none
def aIn(Ty:List (Nat×TyI))(H:Nat→Option E)(t:TypeId)(v w:V)(hs:List Hn):VR:=
 match bM Ty t with
 |none=>none
 |some i=>match i.u with
  | .slice e=>match bM Ty e with
   |none=>none
   |some j=>match v,w with
    | .t (.sl rows),.t (.int .i64 n)=>match hs with
     | .row r::hs=>match Nat.beq r.length j.size with
      |true=>some (.tp r,[.p (ix rows n=some r)],hs)
      |false=>none
     |_=>none
    | .msl id gen size off len,.t (.int .i64 n)=>match H id,Nat.beq size j.size with
     |some (.arr _ gen' sz' _),true=>some (.eref id gen size (off+n.toNat) 0,[.q gen' gen,.q sz' size,.p (0≤n∧n<(len:Int))],hs)
     |some (.tree _ _ gen' _ _),true=>some (.eref id gen size (off+n.toNat) 0,[.q gen' gen,.p (0≤n∧n<(len:Int))],hs)
     |_,_=>none
    |_,_=>none
  | .array m e=>match bM Ty e with
   |none=>none
   |some j=>match v,w,hs with
    | .ref id off,.t (.int .i64 n),.nat k::hs=>match Nat.ble (k+1) m with
     |true=>some (.ref id (off+k*j.size),[.p (n=(k:Int))],hs)
     |false=>none
    |_,_,_=>none
  |_=>none
def L8:Option TyI→Bool
 |some i=>match i.u with
  | .string=>true
  |_=>false
 |none=>false
def aCi:Option TyI→Bool
 |some i=>match i.u with
  | .slice _=>true
  |_=>false
 |none=>false
def aIa(Ty:List (Nat×TyI))(op:BinOp)(t:TypeId)(v w:V)(hs:List Hn):VR:=
 match aCi (bM Ty t),v,w,op,hs with
 |true,.t (.sl rows),.t .nilS,.eql,.b false::hs=>some (.t (.bool false),[.p (rows≠[])],hs)
 |_,_,_,_,_=>none
def aBa(Ty:List (Nat×TyI))(t:TypeId)(v w:V)(hs:List Hn):VR:=
 match L8 (bM Ty t),v,w,hs with
 |true,.t (.str l),.t (.int .i64 n),.y b::hs=>some (.t (.int .u8 (b.toNat:Nat)),[.p (ix l n=some b)],hs)
 |_,_,_,_=>none
def N7(lo hi:Option Operand)(len:Nat)(ws:List V):Option (Int×Int):=
 match lo,hi,ws with
 |some _,some _,[.t (.int .i64 a),.t (.int .i64 b)]=>some (a,b)
 |some _,none,[.t (.int .i64 a)]=>some (a,(len:Int))
 |none,some _,[.t (.int .i64 b)]=>some (0,b)
 |_,_,_=>none
def aA8(Ty:List (Nat×TyI))(H:Nat→Option E)(t:TypeId)(lo hi:Option Operand)(vals:List V)(hs:List Hn):VR:=
 match vals with
 | .t (.str l)::ws=>match L8 (bM Ty t),N7 lo hi l.length ws,hs with
  |true,some (a,b),.str r::hs=>some (.t (.str r),[.p (sub l a b=some r)],hs)
  |_,_,_=>none
 | .t (.sl rows)::ws=>match bM Ty t with
  |none=>none
  |some i=>match i.u with
   | .slice e=>match bM Ty e,N7 lo hi rows.length ws,hs with
    |some j,some (a,b),.rows r::hs=>some (.t (.sl r),[.p (sub rows a b=some r),.p (Rows j.size rows)],hs)
    |_,_,_=>none
   |_=>none
 | .msl id gen size off len::ws=>match bM Ty t,(H id).bind E.gen? with
  |some i,some g'=>match i.u with
   | .slice e=>match bM Ty e,N7 lo hi len ws,hs with
    |some j,some (a,b),.nat o:: .nat m::hs=>some (.msl id gen size o m,[.q g' gen,.q size j.size,.p (0≤a∧a≤b∧b≤len∧(a=0∨a<len)∧o=off+a.toNat∧m=b.toNat-a.toNat)],hs)
    |some _,some (a,b),.int 0::hs=>some (.t (.sl []),[.q g' gen,.p (0≤a∧a=b∧b≤len)],hs)
    |some j,some (a,b),.int 1:: .nat o:: .nat m::hs=>match H id with
     |some (.arr _ g2 sz2 rows)=>some (.msl id gen size o m,[.q g2 gen,.q sz2 size,.q size j.size,.p (0<size∧0≤a∧a<b∧off+b≤rows.length∧o=off+a.toNat∧m=b.toNat-a.toNat)],hs)
     |_=>none
    |_,_,_=>none
   |_=>none
  |_,_=>none
 |_=>none
def N6(Ty:List (Nat×TyI))(H:Nat→Option E)(t:TypeId)(vals:List V)(hs:List Hn):VR:=
 match vals with
 | [.msl id gen _ _ len,.t (.int .i64 a),.t (.int .i64 b),.t (.int .i64 c)]=>match bM Ty t,(H id).bind E.gen? with
  |some i,some g'=>match i.u with
   | .slice e=>match bM Ty e with
    |some _=>some (.junk,[.q g' gen,.p (0≤a∧a≤b∧b≤c∧c≤len)],hs)
    |none=>none
   |_=>none
  |_,_=>none
 |_=>none
def aEh(Ty:List (Nat×TyI))(t:TypeId)(vals:List V)(hs:List Hn):VR:=
 match vals,hs with
 | [.t (.sl rows),.t (.int .i64 b),.t (.int .i64 c)],.rows r::hs=>match bM Ty t with
  |some i=>match i.u with
   | .slice e=>match bM Ty e with
    |some j=>some (.t (.sl r),[.p (sub rows 0 b=some r∧c=b),.p (Rows j.size rows)],hs)
    |none=>none
   |_=>none
  |none=>none
 |_,_=>none
def aIg(Ty:List (Nat×TyI))(H:Nat→Option E)(t:TypeId)(v:V)(hs:List Hn):VR:=
 match v,hs with
 | .t (.str l),hs=>match L8 (bM Ty t) with
  |true=>some (.t (.int .i64 (l.length:Nat)),[],hs)
  |false=>none
 | .t (.sl rows),.nat n::hs=>match aCi (bM Ty t) with
  |true=>some (.t (.int .i64 (n:Nat)),[.p (rows.length=n)],hs)
  |false=>none
 | .msl id gen size _ len,.nat n::hs=>match H id,aCi (bM Ty t) with
  |some (.arr _ gen' sz' _),true=>some (.t (.int .i64 (n:Nat)),[.q gen' gen,.q sz' size,.p (len=n)],hs)
  |some (.tree _ _ gen' _ _),true=>some (.t (.int .i64 (n:Nat)),[.q gen' gen,.p (len=n)],hs)
  |_,_=>none
 |_,_=>none
def A4(Ty:List (Nat×TyI))(H:Nat→Option E)(b:Builtin)(tys:List TypeId)(xs:List Operand)(vals:List V)(hs:List Hn):VR:=
 match b,tys,xs,vals with
 | .len,[t],[_],[v]=>aIg Ty H t v hs
 | .max,_,[_,_],[.t (.int k m),.t (.int k' n)]=>if k=k' then some (.t (.int k (max m n)),[],hs) else none
 | .min,_,[_,_],[.t (.int k m),.t (.int k' n)]=>if k=k' then some (.t (.int k (min m n)),[],hs) else none
 |_,_,_,_=>none
def aIc(H:Nat→Option E)(v:V)(hs:List Hn):VR:=
 match v with
 | .eref id gen _ _ _=>match (H id).bind E.gen? with
  |some g'=>some (v,[.q g' gen],hs)
  |none=>none
 | .ref _ _=>some (v,[],hs)
 | .tp _=>some (v,[],hs)
 | .fn _ _=>some (v,[],hs)
 |_=>none
def aBe(Ty:List (Nat×TyI))(t:TypeId)(is:List Nat)(vals:List V)(hs:List Hn):VR:=
 match bM Ty t with
 |none=>none
 |some i=>match i.u with
  | .struct _=>match (cP i.z).val,Nat.beq is.length vals.length,nN (i.places[·]?) (cP i.z).cs (is.zip vals) with
   |true,true,some cs=>some (.agg cs,[],hs)
   |_,_,_=>none
  |_=>none
def evV(P:Program)(Ty:List (Nat×TyI))(H:Nat→Option E)(op:Op)(vals:List V)(hs:List Hn):VR:=
 match op with
 | .move _=>match vals with
  | [v]=>some (v,[],hs)
  |_=>none
 | .assign _=>match vals with
  | [v]=>some (v,[],hs)
  |_=>none
 | .pick _ _ _=>match vals,hs with
  | [.t (.bool b),v,w],.b c::hs=>some (bif c then v else w,[.p (b=c)],hs)
  |_,_=>none
 | .load t _=>match vals with
  | [v]=>match A3 Ty H t v hs with
   |some r=>some r
   |none=>aA9 Ty H t v hs
  |_=>none
 | .nilCheck _=>match vals with
  | [v]=>aIc H v hs
  |_=>none
 | .binOp o t x y _=>match vals with
  | [v,w]=>match aIy P Ty o t v w hs with
   |some r=>some r
   |none=>match aIl Ty o t x y v w hs with
    |some r=>some r
    |none=>aIa Ty o t v w hs
  |_=>none
 | .unOp o _ _=>match vals with
  | [v]=>aLW o v hs
  |_=>none
 | .convert s d _=>match vals with
  | [v]=>aEg Ty s d v hs
  |_=>none
 | .makeFunc fn first _=>match fn,first.toList with
  | .func f,[]=>some (.fn f vals,[],hs)
  |_,_=>none
 | .slice t _ lo hi mx=>match mx with
  |none=>aA8 Ty H t lo hi vals hs
  |some _=>match lo,hi with
   |some _,some _=>N6 Ty H t vals hs
   |none,some _=>aEh Ty t vals hs
   |_,_=>none
 | .fieldAddr t _ k=>match vals with
  | [v]=>aBb Ty H t k v hs
  |_=>none
 | .field t _ k=>match vals with
  | [v]=>aIr Ty t k v hs
  |_=>none
 | .indexAddr t _ _=>match vals with
  | [v,w]=>aIn Ty H t v w hs
  |_=>none
 | .index t _ _=>match vals with
  | [v,w]=>aBa Ty t v w hs
  |_=>none
 | .extract _ k=>match vals with
  | [.tup vs]=>match vs[k]? with
   |some v=>some (v,[],hs)
   |none=>none
  |_=>none
 | .build t ps=>aBe Ty t (ps.toList.map (·.1)) vals hs
 | .call c=>match c.callee with
  | .builtin b=>A4 Ty H b c.argTypes.toList c.args.toList vals hs
  |_=>none
 |_=>none
end Go.Lift
