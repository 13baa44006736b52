/- The evaluator of effects. -/
import Derived.Test.YtohillieiccgdaaGreatGLiftV
namespace Go.Lift
open Go
def PCC(P:Program)(G:Glob)(f:FuncId)(args:List V)(r:V):Prop:=kB P f∧PC P G f args r
def VCC(P:Program)(G:Glob)(f:FuncId)(inn:List E)(args:List V)(r:V)(out:List E):Prop:=
 kB P f∧VC P G f inn args (ι:=Unit) (fun _=>True) (fun _=>r) (fun _=>out)
def lZ(d:Option Tmp)(v:V):List (Nat×V):=match d with
 |some d=>[(d,v)]
 |none=>[]
def dOk(nt:Nat):Option Tmp→Bool
 |some d=>Nat.blt d nt
 |none=>true
theorem fW{K:Ctx}{d:Option Tmp}(h:dOk K.nt d=true): ∀i,d=some i→Nat.blt i K.nt=true:=by
 intro i hi;subst hi;exact h
def nzT:T→T
 | .nilS=> .sl []
 |x=>x
theorem RT.nz{w:World}{X:Nat→Prop}{x:T}{v:Value}(h:RT w X x v):RT w X (nzT x) v:=by
 cases h with
 |nilS=>exact .sl0 _ _
 |bool b=>exact .bool b
 |int k n=>exact .int k n
 |str l=>exact .str l
 |sl0 a cap=>exact .sl0 a cap
 |sl rows b off size cap f hb hX hcap hsz hc hr=>exact .sl rows b off size cap f hb hX hcap hsz hc hr
 |nilP=>exact .nilP
 |nilI=>exact .nilI
 |nilF=>exact .nilF
 |err t v=>exact .err t v
theorem aGF{β:Map}{w:World}{X:Nat→Prop}{id:Nat}{ty:TypeId}{gen size m:Nat}{z:List T}(h:RE β w X id (.arr ty gen size (List.replicate m z))):RE β w X id (.arr ty gen size (List.replicate m (z.map nzT))):=by
 refine⟨h.1,?_⟩
 rcases h.2 with ⟨h1,h2⟩|⟨b,us,h1,h2,h3,h4,h5⟩
 ·have:m=0:=by simpa using h2
  subst this;exact .inl ⟨h1,rfl⟩
 ·refine .inr ⟨b,us,h1,h2,by simpa using h3,fun row hr=> ?_,fun i j row x u hr hx hu=> ?_⟩
  ·obtain⟨hm,rfl⟩:=List.mem_replicate.1 hr
   rw [List.length_map];exact h4 z (List.mem_replicate.2 ⟨hm,rfl⟩)
  ·rw [List.getElem?_replicate] at hr
   split at hr
   ·cases hr
    rw [List.getElem?_map] at hx
    cases hz:z[j]? with
    |none=>rw [hz] at hx;simp at hx
    |some y=>
     rw [hz] at hx;simp at hx;subst hx
     exact(h5 i j z y u (by rw [List.getElem?_replicate,if_pos ‹_›]) hz hu).nz
   ·cases hr
def n8(size:Nat):Nat→List T→List (List T)
 |0,_=>[]
 |n+1,l=>l.take size::n8 size n (l.drop size)
theorem w4(size:Nat): ∀(n:Nat) (l:List T),l.length=n*size→(n8 size n l).length=n∧(∀row,row∈n8 size n l→row.length=size)∧(n8 size n l).flatten=l
 |0,l,h=>by
  have:l=[]:=by simpa using h
  subst this;exact⟨rfl,fun _ h=>by simp [n8] at h,rfl⟩
 |n+1,l,h=>by
  rw [Nat.add_mul] at h
  obtain⟨h1,h2,h3⟩:=w4 size n (l.drop size) (by simp;omega)
  refine⟨by simp [n8,h1],?_,by simp [n8,h3]⟩
  intro row hr
  simp only [n8,List.mem_cons] at hr
  rcases hr with rfl|hr
  ·simp;omega
  ·exact h2 row hr
structure Cfg where
 P:Program
 G:Glob
 Ty:List (Nat×TyI)
 nt:Nat
 n0:Nat
 β0:Map
def S1(id:Nat):List Nat→Nat→Option Nat
 | [],_=>none
 |x::r,k=>bif Nat.beq x id then some k else S1 id r (k+1)
theorem wP{id:Nat}: ∀{L:List Nat} {k m:Nat},S1 id L k=some m→k≤m∧L[m-k]? =some id
 | [],_,_,h=>by cases h
 |x::r,k,m,h=>by
  simp only [S1] at h
  cases hb:Nat.beq x id with
  |true=>rw [hb] at h;cases h;rw [Nat.eq_of_beq_eq_true hb];exact⟨Nat.le_refl _,by simp⟩
  |false=>
   rw [hb] at h
   obtain⟨h1,h2⟩:=wP (L:=r) (k:=k+1) h
   refine⟨by omega,?_⟩
   rw [show m-k=(m-(k+1))+1 by omega]
   simpa using h2
mutual
def unV(L:List Nat):V→Option V
 | .ref id off=>match S1 id L 0 with
  |some k=>some (.ref k off)
  |none=>none
 | .msl id gen size off len=>match S1 id L 0 with
  |some k=>some (.msl k gen size off len)
  |none=>none
 | .fn f cs=>match unL L cs with
  |some cs=>some (.fn f cs)
  |none=>none
 | .eref id gen size i off=>match S1 id L 0 with
  |some k=>some (.eref k gen size i off)
  |none=>none
 | .t x=>some (.t x)
 | .tp x=>some (.tp x)
 | .agg cs=>match unL L cs with
  |some cs=>some (.agg cs)
  |none=>none
 |_=>none
def unL(L:List Nat):List V→Option (List V)
 | []=>some []
 |c::cs=>match unV L c,unL L cs with
  |some c,some cs=>some (c::cs)
  |_,_=>none
end
mutual
theorem aIx{L:List Nat}: ∀(v v':V),unV L v=some v'→v'.ren L=v∧v'.ok (cN L.length)=true
 | .ref id off,v',h=>by
  simp only [unV] at h
  split at h
  ·rename_i k hk
   cases h
   obtain⟨_,h2⟩:=wP hk
   simp only [Nat.sub_zero] at h2
   have hlt:=(List.getElem?_eq_some_iff.1 h2).1
   exact⟨by simp [V.ren,List.getD_eq_getElem?_getD,h2],cI.2 hlt⟩
  ·cases h
 | .msl id gen size off len,v',h=>by
  simp only [unV] at h
  split at h
  ·rename_i k hk
   cases h
   obtain⟨_,h2⟩:=wP hk
   simp only [Nat.sub_zero] at h2
   have hlt:=(List.getElem?_eq_some_iff.1 h2).1
   exact⟨by simp [V.ren,List.getD_eq_getElem?_getD,h2],cI.2 hlt⟩
  ·cases h
 | .eref id gen size i off,v',h=>by
  simp only [unV] at h
  split at h
  ·rename_i k hk
   cases h
   obtain⟨_,h2⟩:=wP hk
   simp only [Nat.sub_zero] at h2
   have hlt:=(List.getElem?_eq_some_iff.1 h2).1
   exact⟨by simp [V.ren,List.getD_eq_getElem?_getD,h2],cI.2 hlt⟩
  ·cases h
 | .fn f cs,v',h=>by
  simp only [unV] at h
  split at h
  ·rename_i cs' hcs
   cases h
   obtain⟨h1,h2⟩:=C8 cs cs' hcs
   exact⟨by simp [V.ren,h1],by simpa [V.ok] using h2⟩
  ·cases h
 | .agg cs,v',h=>by
  simp only [unV] at h
  split at h
  ·rename_i cs' hcs
   cases h
   obtain⟨h1,h2⟩:=C8 cs cs' hcs
   exact⟨by simp [V.ren,h1],by simpa [V.ok] using h2⟩
  ·cases h
 | .t x,v',h=>by cases h;exact⟨rfl,rfl⟩
 | .tp x,v',h=>by cases h;exact⟨rfl,rfl⟩
 | .tup _,_,h| .junk,_,h=>by cases h
theorem C8{L:List Nat}: ∀(cs cs':List V),unL L cs=some cs'→fN L cs'=cs∧fS (cN L.length) cs'=true
 | [],_,h=>by cases h;exact⟨rfl,rfl⟩
 |c::cs,cs',h=>by
  simp only [unL] at h
  split at h
  ·rename_i c' cs2 h1 h2
   cases h
   obtain⟨a1,a2⟩:=aIx c c' h1
   obtain⟨b1,b2⟩:=C8 cs cs2 h2
   exact⟨by simp [fN,a1,b1],by simp [fS,a2,b2]⟩
  ·cases h
end
def R9(L:List Nat)(H:Nat→Option E):List Nat→Option (List E)
 | []=>some []
 |id::ids=>match H id with
  |some (.cells cs)=>match unL L cs,R9 L H ids with
   |some cs,some es=>some (.cells cs::es)
   |_,_=>none
  |some (.arr ty gen size rows)=>match R9 L H ids with
   |some es=>some (.arr ty gen size rows::es)
   |none=>none
  |some (.tree Γ m gen rows [])=>match R9 L H ids with
   |some es=>some (.tree Γ m gen rows []::es)
   |none=>none
  |some (.tree _ _ _ _ (_::_))=>none
  |none=>none
theorem wO{L:List Nat}{H:Nat→Option E}: ∀(ids:List Nat) (inn:List E),R9 L H ids=some inn→inn.length=ids.length∧ ∀(k:Nat) (e:E),inn[k]? =some e→ ∃id,ids[k]? =some id∧H id=some (e.ren L)∧e.ok (cN L.length)=true
 | [],_,h=>by cases h;exact⟨rfl,fun k e h=>by simp at h⟩
 |id::ids,inn,h=>by
  simp only [R9] at h
  split at h
  ·rename_i cs hid
   split at h
   ·rename_i cs' es h1 h2
    cases h
    obtain⟨a1,a2⟩:=wO ids es h2
    obtain⟨u1,u2⟩:=C8 cs cs' h1
    refine⟨by simp [a1],fun k e he=> ?_⟩
    cases k with
    |zero=>simp at he;subst he;exact⟨id,rfl,by rw [hid];simp only [E.ren,u1],u2⟩
    |succ k=>simp at he;obtain⟨id',b1,b2⟩:=a2 k e he;exact⟨id',by simpa using b1,b2⟩
   ·cases h
  ·rename_i ty gen size rows hid
   split at h
   ·rename_i es h2
    cases h
    obtain⟨a1,a2⟩:=wO ids es h2
    refine⟨by simp [a1],fun k e he=> ?_⟩
    cases k with
    |zero=>simp at he;subst he;exact⟨id,rfl,hid,rfl⟩
    |succ k=>simp at he;obtain⟨id',b1,b2⟩:=a2 k e he;exact⟨id',by simpa using b1,b2⟩
   ·cases h
  ·rename_i Γ m gen rows hid
   split at h
   ·rename_i es h2
    cases h
    obtain⟨a1,a2⟩:=wO ids es h2
    refine⟨by simp [a1],fun k e he=> ?_⟩
    cases k with
    |zero=>simp at he;subst he;exact⟨id,rfl,hid,rfl⟩
    |succ k=>simp at he;obtain⟨id',b1,b2⟩:=a2 k e he;exact⟨id',by simpa using b1,b2⟩
   ·cases h
  ·cases h
  ·cases h
def X6(id:Nat):List Nat→Bool
 | []=>true
 |x::l=>bif Nat.beq x id then false else X6 id l
theorem S6{id:Nat}: ∀{l:List Nat},X6 id l=true→id∉l
 | [],_,h=>by cases h
 |x::l,h,hm=>by
  simp only [X6] at h
  cases hb:Nat.beq x id with
  |true=>rw [hb] at h;cases h
  |false=>
   rw [hb] at h
   rcases List.mem_cons.1 hm with rfl|hm
   ·simp at hb
   ·exact S6 h hm
def W1:List Nat→Bool
 | []=>true
 |x::l=>X6 x l&&W1 l
theorem tS: ∀{l:List Nat},W1 l=true→l.Nodup
 | [],_=>List.nodup_nil
 |x::l,h=>by
  simp only [W1,Bool.and_eq_true] at h
  exact List.nodup_cons.2 ⟨S6 h.1,tS h.2⟩
def xL(u:Nat→Bool):List Nat→Bool
 | []=>true
 |x::l=> !u x&&xL u l
theorem zS{u:Nat→Bool}: ∀{l:List Nat},xL u l=true→ ∀id,id∈l→u id=false
 | [],_,_,h=>by cases h
 |x::l,h,id,hm=>by
  simp only [xL,Bool.and_eq_true,Bool.not_eq_true'] at h
  rcases List.mem_cons.1 hm with rfl|hm
  ·exact h.1
  ·exact zS h.2 id hm
theorem C7{u:Nat→Bool}{id:Nat}: ∀{l:List Nat},id∈l→cK u (l.map (fun k=>(k,true))) id=true
 |x::l,h=>by
  simp only [List.map_cons,cK]
  by_cases hm:id∈l
  ·rw [B0 _ _ u _ ⟨true,List.mem_map.2 ⟨id,hm,rfl⟩⟩]
   exact C7 hm
  ·rcases List.mem_cons.1 h with rfl|h
   ·rw [fO _ _ _ (fun v hv=>hm (by obtain⟨y,hy,e⟩:=List.mem_map.1 hv;cases e;exact hy)),aF]
   ·exact absurd h hm
theorem C3{α:Type}: ∀(L:List Nat),L.Nodup→ ∀(f:Nat→α) (xs:List α) (g:Nat→α),xs.length=L.length→(∀(k:Nat) x,xs[k]? =some x→g k=x)→cK f (L.zip xs)=jQ f L g
 | [],_,f,xs,g,_,_=>by simp [cK,jQ]
 |l::L,hn,f,[],g,h,_=>by simp at h
 |l::L,hn,f,x::xs,g,h,hg=>by
  simp only [List.nodup_cons] at hn
  simp only [List.zip_cons_cons,cK,jQ]
  rw [C3 L hn.2 (upd f l x) xs (fun k=>g (k+1)) (by simpa using h) (fun k y hy=>hg (k+1) y (by simpa using hy)),hg 0 x rfl]
  funext i
  by_cases hi:i=l
  ·subst hi;rw [d6 hn.1,aF,aF]
  ·rw [aC _ _ _ _ hi]
   by_cases hm:i∈L
   ·obtain⟨k,hk⟩:=List.mem_iff_getElem?.1 hm
    rw [fU hn.2 hk,fU hn.2 hk]
   ·rw [d6 hm,d6 hm,aC _ _ _ _ hi]
abbrev JR:=Option (Eff×List Ob×List Hn)
def T0(d:Option Tmp)(u:Nat→Bool)(v:V)(hs:List Hn):JR:=
 match hs with
 | .nat k::hs=>match u k,v.val with
  |false,true=>some (⟨lZ d (.ref k 0),[(k,some (.cells v.cs))],[(k,true)]⟩,[],hs)
  |_,_=>none
 |_=>none
def aCz(d:Option Tmp)(v:V)(hs:List Hn):JR:=
 match hs with
 | .b true::hs=>match (nzV v).val,xT (nzV v).cs with
  |true,some xs=>some (⟨lZ d (.tp xs),[],[]⟩,[],hs)
  |_,_=>none
 |_=>none
def isB:List Hn→Bool
 | .b true::_=>true
 |_=>false
def X9(C:Cfg)(t:TypeId)(H:Nat→Option E)(a v:V)(hs:List Hn):JR:=
 match bZ C.Ty t with
 |none=>none
 |some i=>match a with
  | .ref id off=>match H id with
   |some (.cells cs)=>match v.val,tG v.cs,Nat.beq v.cs.length i.size,Nat.ble (off+i.size) cs.length with
    |true,true,true,true=>some (⟨[],[(id,some (.cells (splice cs off v.cs)))],[]⟩,[],hs)
    |_,_,_,_=>none
   |_=>none
  | .eref id gen sz k off=>match H id,xT (nzV v).cs,hs with
   |some (.arr e gen' sz' rows),some vs,.row r:: .rows rows'::hs=>match (nzV v).val,Nat.beq vs.length i.size,Nat.ble (off+i.size) sz with
    |true,true,true=>some (⟨[],[(id,some (.arr e gen' sz' rows'))],[]⟩,
      [.q gen' gen,.q sz' sz,.p (rows[k]? =some r),.p (rows'=rows.set k (r.take off++vs++r.drop (off+vs.length)))],hs)
    |_,_,_=>none
   |_,_,_=>none
  |_=>none
def aAL(k off n:Nat):List (Nat×Nat×V)→List Ob
 | []=>[]
 |h::hs=>bif Nat.ble off h.2.1&&Nat.blt h.2.1 (off+n) then .q h.1 k::aAL k off n hs else aAL k off n hs
def J2(C:Cfg)(t:TypeId)(H:Nat→Option E)(a v:V)(hs:List Hn):JR:=
 match bZ C.Ty t,a,hs with
 |some i,.eref id gen sz k off,.row r::hs=>match H id with
  |some (.tree Γ m gen' rows ho)=>match v.val&&(tG v.cs&&(Nat.beq v.cs.length i.size&&(Nat.ble (off+i.size) r.length&&Nat.blt 0 i.size))),I9 ho off i.size with
   |true,some l=>some (⟨[],[(id,some (.tree Γ m gen' rows (F5 off v.cs ho)))],[]⟩,.q gen' gen:: .q (ndOf Γ m).size sz:: .p (rows[k]? =some r)::(aAW k l++aAL k off i.size ho),hs)
   |_,_=>none
  |_=>none
 |_,_,_=>none
def aCq(C:Cfg)(d:Option Tmp)(t:TypeId)(u:Nat→Bool)(v w:V)(hs:List Hn):JR:=
 match bZ C.Ty t with
 |none=>none
 |some i=>match i.u with
  | .slice e=>match bZ C.Ty e with
   |none=>none
   |some j=>match v,w,hs,xT (cT j.z).cs with
    | .t (.int .i64 n),.t (.int .i64 m),.nat k:: .rows R::hs,some z0=>match u k,(cT j.z).val,Nat.beq z0.length j.size,Nat.blt 0 j.size&&Nat.ble j.bytes 200000 with
     |false,true,true,true=>some (⟨lZ d (.msl k 1 j.size 0 R.length),[(k,some (.arr e 1 j.size R))],[(k,true)]⟩,[.q n.toNat m.toNat,.p (mk n (z0.map nzT)=some R),.p (0≤m)],hs)
     |_,_,_,_=>none
    |_,_,_,_=>none
  |_=>none
def J5(C:Cfg)(d:Option Tmp)(t t':TypeId)(H:Nat→Option E)(v w:V)(hs:List Hn):JR:=
 match bZ C.Ty t with
 |none=>none
 |some i=>match i.u with
  | .slice e=>match bZ C.Ty e with
   |none=>none
   |some j=>match v,nzV w,hs with
    | .msl k gen size off len,.t (.sl news),.rows R::hs=>match H k with
     |some (.arr e' gen' size' rows)=>match Nat.beq off 0,Nat.beq j.z.cells.size j.size&&(Nat.blt 0 j.size&&Nat.ble j.bytes 140000),Nat.beq e' e&&Nat.beq t' t with
      |true,true,true=>some (⟨lZ d (.msl k (gen'+1) size 0 R.length),[(k,some (.arr e' (gen'+1) size' R))],[]⟩,
        [.q gen' gen,.q size' size,.q size j.size,.q len rows.length,.p (app rows news=some R),.p (Rows j.size rows),.p (Rows j.size news)],hs)
      |_,_,_=>none
     |_=>none
    |_,_,_=>none
  |_=>none
def yU(C:Cfg)(d:Option Tmp)(t t':TypeId)(H:Nat→Option E)(v w:V)(hs:List Hn):JR:=
 match bZ C.Ty t with
 |none=>none
 |some i=>match i.u with
  | .slice e=>match bZ C.Ty e with
   |none=>none
   |some j=>match v,w,hs with
    | .msl k gen size off len,.msl k3 g3 z3 o3 n3,.rows R::hs=>match H k,H k3 with
     |some (.tree Γ m gen' rows []),some (.tree Γ3 m3 g3' (n0::news) hs3)=>match Nat.beq off 0&&Nat.beq o3 0,Nat.beq j.z.cells.size j.size&&(Nat.blt 0 j.size&&Nat.ble j.bytes 140000),Nat.beq t' t&&(wZ (ndOf Γ m) (news.length+1) hs3&&yG hs3) with
      |true,true,true=>some (⟨lZ d (.msl k (gen'+1) size 0 R.length),[(k,some (.tree Γ m (gen'+1) R (oI rows.length hs3)))],[]⟩,
        [.q gen' gen,.q g3' g3,.q z3 size,.q size j.size,.q (ndOf Γ m).size size,.q (ndOf Γ m).ty e,.q n3 (news.length+1),.q len rows.length,.p (ndOf Γ3 m3=ndOf Γ m),.p (app rows (n0::news)=some R),.p (Rows j.size rows),.p (Rows j.size (n0::news))],hs)
      |_,_,_=>none
     |_,_=>none
    |_,_,_=>none
  |_=>none
def rM(d:Nd):Nat→List V→Option (List T×List (Nat×Nat×V))
 |_,[]=>some ([],[])
 |j,v::vs=>match rM d (j+1) vs with
  |none=>none
  |some (r,hs)=>match d.kid j with
   |some _=>bif v.one then some (.sl []::r,(0,j,v)::hs) else none
   |none=>match toT v with
    |some x=>some (x::r,hs)
    |none=>none
def aCs(C:Cfg)(d:Option Tmp)(t:TypeId)(n:Nat)(is:List Nat)(u:Nat→Bool)(vals:List V)(hs:List Hn):JR:=
 match bZ C.Ty t with
 |none=>none
 |some i=>match i.u with
  | .slice e=>match bZ C.Ty e with
   |none=>none
   |some j=>match n,hs with
    |1,.lt k Γ m::hs=>match pM (fun i=>some (i*j.size,j.size)) (List.replicate (1*j.size) .junk) (is.zip (M8 vals)) with
     |none=>none
     |some cs=>match rM (ndOf Γ m) 0 cs with
      |none=>none
      |some (r,ho)=>match u k,Nat.beq cs.length j.size&&Nat.beq (ndOf Γ m).size j.size,Nat.beq is.length vals.length&&Nat.beq (ndOf Γ m).ty e,Nat.ble (1*j.size) 16777216,Nat.blt 0 j.size with
       |false,true,true,true,true=>some (⟨lZ d (.msl k 1 j.size 0 1),[(k,some (.tree Γ m 1 [r] ho))],[(k,true)]⟩,[],hs)
       |_,_,_,_,_=>none
    |_,_=>none
  |_=>none
def aF5(C:Cfg)(d:Option Tmp)(t:TypeId)(n:Nat)(is:List Nat)(u:Nat→Bool)(vals:List V)(hs:List Hn):JR:=
 match bZ C.Ty t with
 |none=>none
 |some i=>match i.u with
  | .slice e=>match bZ C.Ty e with
   |none=>none
   |some j=>match n,is,hs with
    |0,[],.nat k::hs=>match u k with
     |false=>some (⟨lZ d (.msl k 1 j.size 0 0),[(k,some (.arr e 1 j.size []))],[(k,true)]⟩,[],hs)
     |true=>none
    |n,is,.int 1:: .nat k::hs=>match pM (fun i=>some (i*j.size,j.size)) (List.replicate (n*j.size) .junk) (is.zip (M8 vals)) with
     |none=>none
     |some cs=>match xT cs with
      |none=>none
      |some xs=>match u k,Nat.beq xs.length (n*j.size),Nat.beq is.length vals.length,Nat.ble (n*j.size) 16777216,Nat.blt 0 j.size with
       |false,true,true,true,true=>some (⟨lZ d (.msl k 1 j.size 0 (n8 j.size n xs).length),[(k,some (.arr e 1 j.size (n8 j.size n xs)))],[(k,true)]⟩,[],hs)
       |_,_,_,_,_=>none
    |n,is,.int 2:: .rows R::hs=>match pM (fun i=>some (i*j.size,j.size)) (List.replicate (n*j.size) .junk) (is.zip (M8 vals)) with
     |none=>none
     |some cs=>match xT cs with
      |none=>none
      |some xs=>match Nat.beq xs.length (n*j.size),Nat.beq is.length vals.length,Nat.ble (n*j.size) 16777216 with
       |true,true,true=>some (⟨lZ d (.t (.sl R)),[],[]⟩,[.p (n8 j.size n xs=R)],hs)
       |_,_,_=>none
    |n,is,.int 0::hs=>match pM (fun i=>some (i*j.size,j.size)) (List.replicate (n*j.size) .junk) (is.zip (M8 vals)) with
     |none=>none
     |some cs=>match xT cs with
      |none=>none
      |some xs=>match Nat.beq xs.length (n*j.size),Nat.beq is.length vals.length,Nat.ble (n*j.size) 16777216 with
       |true,true,true=>some (⟨lZ d (.t (.sl (n8 j.size n xs))),[],[]⟩,[],hs)
       |_,_,_=>none
    |_,_,_=>none
  |_=>none
mutual
def I8:V→Bool
 | .t (.int _ _)| .t (.bool _)| .t (.str _)=>true
 | .agg cs=>S7 cs
 | .tup cs=>S7 cs
 |_=>false
def S7:List V→Bool
 | []=>true
 |c::cs=>I8 c&&S7 cs
end
def aGx(H:Nat→Option E):V→Option (T×List Ob)
 | .msl k gen size off len=>match H k with
  |some (.arr _ gen' size' rows)=>some (.sl rows,[.q gen gen',.q size size',.q off 0,.q len rows.length])
  |some (.tree Γ m gen' rows [])=>some (.sl rows,[.q gen gen',.q size (ndOf Γ m).size,.q off 0,.q len rows.length])
  |_=>none
 | .t x=>some (nzT x,[])
 |_=>none
def aDT(H:Nat→Option E):List V→Option (List T×List Ob)
 | []=>some ([],[])
 |v::vs=>match aGx H v,aDT H vs with
  |some (x,φ),some (xs,ψ)=>some (x::xs,φ++ψ)
  |_,_=>none
mutual
def M7(H:Nat→Option E):V→Option (V×List Ob)
 | .msl k gen size off len=>match aGx H (.msl k gen size off len) with
  |some (x,φ)=>some (.t x,φ)
  |none=>none
 | .t x=>some (.t (nzT x),[])
 | .tp cs=>some (.tp cs,[])
 | .ref id off=>match H id with
  |some (.cells cs)=>match aDT H cs with
   |some (ts,φ)=>some (.tp (ts.drop off),φ)
   |none=>none
  |_=>none
 | .agg cs=>match Z9 H cs with
  |some (xs,φ)=>some (.agg xs,φ)
  |none=>none
 | .tup cs=>match Z9 H cs with
  |some (xs,φ)=>some (.tup xs,φ)
  |none=>none
 | .fn f cs=>match Z9 H cs with
  |some (xs,φ)=>some (.fn f xs,φ)
  |none=>none
 | .eref _ _ _ _ _=>none
 | .junk=>none
def Z9(H:Nat→Option E):List V→Option (List V×List Ob)
 | []=>some ([],[])
 |v::vs=>match M7 H v,Z9 H vs with
  |some (x,φ),some (xs,ψ)=>some (x::xs,φ++ψ)
  |_,_=>none
end
def aIc:List Hn→List Hn
 | .nat _::hs=>aIc hs
 |hs=>hs
def aGm(C:Cfg)(d:Option Tmp)(H:Nat→Option E)(vals:List V)(hs:List Hn):JR:=
 match vals with
 | .fn f caps::args=>match aIc (hs.drop 1) with
  | .v r::hs=>match Z9 H (args++caps),I8 r with
   |some (xs,φ),true=>some (⟨lZ d r,[],[]⟩,φ++[.p (PCC C.P C.G f xs r)],hs)
   |_,_=>none
  |_=>none
 |_=>none
def aCx(C:Cfg)(d:Option Tmp)(vals:List V)(hs:List Hn):JR:=
 match vals with
 | .fn f caps::args=>match hs with
  | .v r::hs=>match fS fQ (M8 (args++caps)) with
   |true=>some (⟨lZ d r,[],[]⟩,[.p (PCC C.P C.G f (M8 (args++caps)) r)],hs)
   |false=>none
  | .nat _:: .v r::hs=>some (⟨lZ d r,[],[]⟩,[.p (fS fQ (M8 (args++caps))=true),.p (PCC C.P C.G f (M8 (args++caps)) r)],hs)
  |_=>none
 |_=>none
def aIV(C:Cfg)(d:Option Tmp)(vals:List V)(H:Nat→Option E)(u:Nat→Bool)(hs:List Hn):JR:=
 match vals with
 | .fn f caps::args=>match hs with
  | .vc L news r out::hs=>match unL L (M8 (args++caps)),R9 L H L,W1 (L++news)&&xL u news&&Nat.beq out.length (L++news).length with
   |some args',some inn,true=>some (⟨lZ d (r.ren (L++news)),(L++news).zip (out.map (fun e=>some (e.ren (L++news)))),(L++news).map (fun k=>(k,true))⟩,[.p (VCC C.P C.G f inn args' r out)],hs)
   |_,_,_=>none
  |_=>none
 |_=>none
def Y4(C:Cfg)(t:TypeId)(H:Nat→Option E)(v:V)(hs:List Hn):JR:=
 match bZ C.Ty t with
 |none=>none
 |some i=>match i.u with
  | .slice e=>match bZ C.Ty e with
   |none=>none
   |some j=>match v,hs,xT (cT j.z).cs with
    | .msl k gen size off len,.rows R::hs,some z0=>match H k,(cT j.z).val with
     |some (.arr e' gen' size' rows),true=>some (⟨[],[(k,some (.arr e' gen' size' R))],[]⟩,[.q gen' gen,.q size' size,.q z0.length size,.p (off+len≤rows.length∧R=rows.take off++List.replicate len (z0.map nzT)++rows.drop (off+len))],hs)
     |_,_=>none
    |_,_,_=>none
  |_=>none
def aJ9:List Hn→Bool
 | .vc _ _ _ _::_=>true
 |_=>false
def evO(C:Cfg)(o:Oper)(vals:List V)(H:Nat→Option E)(u:Nat→Bool)(hs:List Hn):JR:=
 match dOk C.nt o.dst with
 |false=>none
 |true=>match o.op with
  | .box _ _=>match vals with
   | [v]=>match isB hs with
    |true=>aCz o.dst v hs
    |false=>T0 o.dst u v hs
   |_=>none
  | .alloc t=>match bZ C.Ty t with
   |some i=>T0 o.dst u (cT i.z) hs
   |none=>none
  | .store t _ _=>match o.dst,vals with
   |none,[a,v]=>match X9 C t H a v hs with
    |some r=>some r
    |none=>J2 C t H a v hs
   |_,_=>none
  | .makeSlice t _ _=>match vals with
   | [v,w]=>aCq C o.dst t u v w hs
   |_=>none
  | .buildSlice t n ps=>match aF5 C o.dst t n (ps.toList.map (·.1)) u vals hs with
   |some r=>some r
   |none=>aCs C o.dst t n (ps.toList.map (·.1)) u vals hs
  | .call c=>match c.callee with
   | .value _=>match aJ9 hs with
    |true=>aIV C o.dst vals H u hs
    |false=>match isB hs with
     |true=>aGm C o.dst H vals hs
     |false=>aCx C o.dst vals hs
   | .builtin .append=>match c.args.toList,c.argTypes.toList,vals with
    | [_,_],[t,t'],[v,w]=>match J5 C o.dst t t' H v w hs with
     |some r=>some r
     |none=>yU C o.dst t t' H v w hs
    |_,_,_=>none
   | .builtin .clear=>match o.dst,c.args.toList,c.argTypes.toList,vals with
    |none,[_],[t],[v]=>Y4 C t H v hs
    |_,_,_,_=>none
   | .builtin _=>match evV C.P C.Ty H o.op vals hs with
    |some (v,φ,hs)=>some (⟨lZ o.dst v,[],[]⟩,φ,hs)
    |none=>none
   |_=>none
  |_=>match evV C.P C.Ty H o.op vals hs with
   |some (v,φ,hs)=>some (⟨lZ o.dst v,[],[]⟩,φ,hs)
   |none=>none
end Go.Lift
