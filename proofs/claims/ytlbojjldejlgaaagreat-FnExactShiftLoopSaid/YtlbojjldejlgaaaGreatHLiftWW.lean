/- The evaluator of effects. -/
import Derived.Test.YtlbojjldejlgaaaGreatHLiftV
namespace Go.Lift
open Go
def PCC(P:Program)(G:Glob)(f:FuncId)(args:List V)(r:V):Prop:=jU P f∧PC P G f args r
def VCC(P:Program)(G:Glob)(f:FuncId)(inn:List E)(args:List V)(r:V)(out:List E):Prop:=
 jU P f∧VC P G f inn args (ι:=Unit) (fun _=>True) (fun _=>r) fun _=>out
def iL(d:Option Tmp)(v:V):List (Nat×V):=match d with
 |some d=>[(d,v)]
 |none=>[]
def dOk(nt:Nat):Option Tmp→Bool
 |some d=>Nat.blt d nt
 |none=>true
theorem d5{K:Ctx}{d:Option Tmp}(h:dOk K.nt d=true): ∀i,d=some i→Nat.blt i K.nt=true:=by intro i hi;subst hi;exact h
def nzT:T→T
 | .nilS=> .sl []
 |x=>x
theorem RT.nz{w:World}{X:Nat→Prop}{x:T}{v:Value}(h:RT w X x v):RT w X (nzT x) v:=by
 cases h with
 |nilS=>exact .sl0 _ _
 |bool b=>exact .bool b
 |int k n=>exact .int k n
 |str l=>exact .str l
 |sl0 a cap=>exact .sl0 a cap
 |sl rows b off size cap f hb hX hcap hsz hc hr=>exact .sl rows b off size cap f hb hX hcap hsz hc hr
 |nilP=>exact .nilP
 |nilI=>exact .nilI
 |nilF=>exact .nilF
 |err t v=>exact .err t v
theorem aIa{β:Map}{w:World}{X:Nat→Prop}{id:Nat}{ty:TypeId}{gen size m:Nat}{z:List T}(h:RE β w X id (.arr ty gen size (List.replicate m z))):RE β w X id (.arr ty gen size (List.replicate m (z.map nzT))):=by
 refine⟨h.1,?_⟩;rcases h.2 with ⟨h1,h2⟩|⟨b,us,h1,h2,h3,h4,h5⟩
 ·have:m=0:=by simpa using h2
  subst this;exact .inl ⟨h1,rfl⟩
 refine .inr ⟨b,us,h1,h2,by simpa using h3,fun row hr=>?_,fun i j row x u hr hx hu=>?_⟩
 ·obtain⟨hm,rfl⟩:=vAY.1 hr;rw [S7];exact h4 z (vAY.2 ⟨hm,rfl⟩)
 rw [vBc] at hr;split at hr
 ·cases hr;rw [yE] at hx;cases hz:z[j]? with
  |none=>rw [hz] at hx;simp at hx
  |some y=>
   rw [hz] at hx;simp at hx;subst hx;exact(h5 i j z y u (by rw [vBc,if_pos ‹_›]) hz hu).nz
 cases hr
def pB(size:Nat):Nat→List T→List (List T)
 |0,_=>[]
 |n+1,l=>l.take size::pB size n (l.drop size)
theorem w4(size:Nat): ∀(n:Nat) (l:List T),l.length=n*size→(pB size n l).length=n∧(∀row,row∈pB size n l→row.length=size)∧(pB size n l).flatten=l
 |0,l,h=>by
  have:l=[]:=by simpa using h
  subst this;exact⟨rfl,fun _ h=>by simp [pB] at h,rfl⟩
 |n+1,l,h=>by
  rw [mX] at h;obtain⟨h1,h2,h3⟩:=w4 size n (l.drop size) (by simp;omega);refine⟨by simp [pB,h1],?_,by simp [pB,h3]⟩;intro row hr;simp only [pB,List.mem_cons] at hr;rcases hr with rfl|hr
  ·simp;omega
  exact h2 row hr
structure Cfg where
 P:Program
 G:Glob
 Ty:List (Nat×TyI)
 nt:Nat
 n0:Nat
 β0:Map
def V7(id:Nat):List Nat→Nat→Option Nat
 | [],_=>none
 |x::r,k=>bif Nat.beq x id then some k else V7 id r (k+1)
theorem wR{id:Nat}: ∀{L:List Nat} {k m:Nat},V7 id L k=some m→k≤m∧L[m-k]? =some id
 | [],_,_,h=>by cases h
 |x::r,k,m,h=>by
  simp only [V7] at h;cases hb:Nat.beq x id with
  |true=>rw [hb] at h;cases h;rw [fP hb];exact⟨lI _,by simp⟩
  |false=>
   rw [hb] at h;obtain⟨h1,h2⟩:=wR (L:=r) (k:=k+1) h;refine⟨by omega,?_⟩;rw [show m-k=(m-(k+1))+1 by omega];simpa using h2
mutual
def unV(L:List Nat):V→Option V
 | .ref id off=>match V7 id L 0 with
  |some k=>some (.ref k off)
  |none=>none
 | .msl id gen size off len=>match V7 id L 0 with
  |some k=>some (.msl k gen size off len)
  |none=>none
 | .fn f cs=>match unL L cs with
  |some cs=>some (.fn f cs)
  |none=>none
 | .eref id gen size i off=>match V7 id L 0 with
  |some k=>some (.eref k gen size i off)
  |none=>none
 | .t x=>some (.t x)
 | .tp x=>some (.tp x)
 | .agg cs=>match unL L cs with
  |some cs=>some (.agg cs)
  |none=>none
 |_=>none
def unL(L:List Nat):List V→Option (List V)
 | []=>some []
 |c::cs=>match unV L c,unL L cs with
  |some c,some cs=>some (c::cs)
  |_,_=>none
end
mutual
theorem aKv{L:List Nat}: ∀(v v':V),unV L v=some v'→v'.ren L=v∧v'.ok (cJ L.length)=true
 | .ref id off,v',h=>by
  simp only [unV] at h;split at h
  ·rename_i k hk;cases h;obtain⟨_,h2⟩:=wR hk;simp only [Nat.sub_zero] at h2;have hlt:=(b7.1 h2).1;exact⟨by simp [V.ren,List.getD_eq_getElem?_getD,h2],b9.2 hlt⟩
  cases h
 | .msl id gen size off len,v',h=>by
  simp only [unV] at h;split at h
  ·rename_i k hk;cases h;obtain⟨_,h2⟩:=wR hk;simp only [Nat.sub_zero] at h2;have hlt:=(b7.1 h2).1;exact⟨by simp [V.ren,List.getD_eq_getElem?_getD,h2],b9.2 hlt⟩
  cases h
 | .eref id gen size i off,v',h=>by
  simp only [unV] at h;split at h
  ·rename_i k hk;cases h;obtain⟨_,h2⟩:=wR hk;simp only [Nat.sub_zero] at h2;have hlt:=(b7.1 h2).1;exact⟨by simp [V.ren,List.getD_eq_getElem?_getD,h2],b9.2 hlt⟩
  cases h
 | .fn f cs,v',h=>by
  simp only [unV] at h;split at h
  ·rename_i cs' hcs;cases h;obtain⟨h1,h2⟩:=E4 cs cs' hcs;exact⟨by simp [V.ren,h1],by simpa [V.ok] using h2⟩
  cases h
 | .agg cs,v',h=>by
  simp only [unV] at h;split at h
  ·rename_i cs' hcs;cases h;obtain⟨h1,h2⟩:=E4 cs cs' hcs;exact⟨by simp [V.ren,h1],by simpa [V.ok] using h2⟩
  cases h
 | .t x,v',h=>by cases h;exact⟨rfl,rfl⟩
 | .tp x,v',h=>by cases h;exact⟨rfl,rfl⟩
 | .tup _,_,h| .junk,_,h=>by cases h
theorem E4{L:List Nat}: ∀(cs cs':List V),unL L cs=some cs'→fO L cs'=cs∧f0 (cJ L.length) cs'=true
 | [],_,h=>by cases h;exact⟨rfl,rfl⟩
 |c::cs,cs',h=>by
  simp only [unL] at h;split at h
  ·rename_i c' cs2 h1 h2;cases h;obtain⟨a1,a2⟩:=aKv c c' h1;obtain⟨b1,b2⟩:=E4 cs cs2 h2;exact⟨by simp [fO,a1,b1],by simp [f0,a2,b2]⟩
  cases h
end
def V6(L:List Nat)(H:Nat→Option E):List Nat→Option (List E)
 | []=>some []
 |id::ids=>match H id with
  |some (.cells cs)=>match unL L cs,V6 L H ids with
   |some cs,some es=>some (.cells cs::es)
   |_,_=>none
  |some (.arr ty gen size rows)=>match V6 L H ids with
   |some es=>some (.arr ty gen size rows::es)
   |none=>none
  |some (.tree Γ m gen rows [])=>match V6 L H ids with
   |some es=>some (.tree Γ m gen rows []::es)
   |none=>none
  |some (.tree _ _ _ _ (_::_))=>none
  |none=>none
theorem wQ{L:List Nat}{H:Nat→Option E}: ∀(ids:List Nat) (inn:List E),V6 L H ids=some inn→inn.length=ids.length∧ ∀(k:Nat) (e:E),inn[k]? =some e→ ∃id,ids[k]? =some id∧H id=some (e.ren L)∧e.ok (cJ L.length)=true
 | [],_,h=>by cases h;exact⟨rfl,fun k e h=>by simp at h⟩
 |id::ids,inn,h=>by
  simp only [V6] at h;split at h
  ·rename_i cs hid;split at h
   ·rename_i cs' es h1 h2;cases h;obtain⟨a1,a2⟩:=wQ ids es h2;obtain⟨u1,u2⟩:=E4 cs cs' h1;refine⟨by simp [a1],fun k e he=>?_⟩;cases k with
    |zero=>simp at he;subst he;exact⟨id,rfl,by rw [hid];simp only [E.ren,u1],u2⟩
    |succ k=>simp at he;obtain⟨id',b1,b2⟩:=a2 k e he;exact⟨id',by simpa using b1,b2⟩
   cases h
  ·rename_i ty gen size rows hid;split at h
   ·rename_i es h2;cases h;obtain⟨a1,a2⟩:=wQ ids es h2;refine⟨by simp [a1],fun k e he=>?_⟩;cases k with
    |zero=>simp at he;subst he;exact⟨id,rfl,hid,rfl⟩
    |succ k=>simp at he;obtain⟨id',b1,b2⟩:=a2 k e he;exact⟨id',by simpa using b1,b2⟩
   cases h
  ·rename_i Γ m gen rows hid;split at h
   ·rename_i es h2;cases h;obtain⟨a1,a2⟩:=wQ ids es h2;refine⟨by simp [a1],fun k e he=>?_⟩;cases k with
    |zero=>simp at he;subst he;exact⟨id,rfl,hid,rfl⟩
    |succ k=>simp at he;obtain⟨id',b1,b2⟩:=a2 k e he;exact⟨id',by simpa using b1,b2⟩
   cases h
  ·cases h
  cases h
def aAj(id:Nat):List Nat→Bool
 | []=>true
 |x::l=>bif Nat.beq x id then false else aAj id l
theorem W3{id:Nat}: ∀{l:List Nat},aAj id l=true→id∉l
 | [],_,h=>by cases h
 |x::l,h,hm=>by
  simp only [aAj] at h;cases hb:Nat.beq x id with
  |true=>rw [hb] at h;cases h
  |false=>
   rw [hb] at h;rcases pP.1 hm with rfl|hm
   ·simp at hb
   exact W3 h hm
def aAb:List Nat→Bool
 | []=>true
 |x::l=>aAj x l&&aAb l
theorem tK: ∀{l:List Nat},aAb l=true→l.Nodup
 | [],_=>List.nodup_nil
 |x::l,h=>by simp only [aAb,Bool.and_eq_true] at h;exact List.nodup_cons.2 ⟨W3 h.1,tK h.2⟩
def xL(u:Nat→Bool):List Nat→Bool
 | []=>true
 |x::l=> !u x&&xL u l
theorem A2{u:Nat→Bool}: ∀{l:List Nat},xL u l=true→ ∀id,id∈l→u id=false
 | [],_,_,h=>by cases h
 |x::l,h,id,hm=>by
  simp only [xL,Bool.and_eq_true,Bool.not_eq_true'] at h;rcases pP.1 hm with rfl|hm
  ·exact h.1
  exact A2 h.2 id hm
theorem E3{u:Nat→Bool}{id:Nat}: ∀{l:List Nat},id∈l→cD u (l.map fun k=>(k,true)) id=true
 |x::l,h=>by
  simp only [List.map_cons,cD];by_cases hm:id∈l
  ·rw [B9 _ _ u _ ⟨true,vAQ.2 ⟨id,hm,rfl⟩⟩];exact E3 hm
  rcases pP.1 h with rfl|h
  ·rw [fQ _ _ _ (fun v hv=>hm (by obtain⟨y,hy,e⟩:=vAQ.1 hv;cases e;exact hy)),aI]
  exact absurd h hm
theorem D4{α:Type}: ∀(L:List Nat),L.Nodup→ ∀(f:Nat→α) (xs:List α) (g:Nat→α),xs.length=L.length→(∀(k:Nat) x,xs[k]? =some x→g k=x)→cD f (L.zip xs)=jL f L g
 | [],_,f,xs,g,_,_=>by simp [cD,jL]
 |l::L,hn,f,[],g,h,_=>by simp at h
 |l::L,hn,f,x::xs,g,h,hg=>by
  simp only [List.nodup_cons] at hn;simp only [List.zip_cons_cons,cD,jL];rw [D4 L hn.2 (upd f l x) xs (fun k=>g (k+1)) (by simpa using h) (fun k y hy=>hg (k+1) y (by simpa using hy)),hg 0 x rfl];funext i;by_cases hi:i=l
  ·subst hi;rw [dY hn.1,aI,aI]
  rw [aH _ _ _ _ hi];by_cases hm:i∈L
  ·obtain⟨k,hk⟩:=vAE.1 hm;rw [f7 hn.2 hk,f7 hn.2 hk]
  rw [dY hm,dY hm,aH _ _ _ _ hi]
abbrev JR:=Option (Eff×List Ob×List Hn)
def W7(d:Option Tmp)(u:Nat→Bool)(v:V)(hs:List Hn):JR:=
 match hs with
 | .nat k::hs=>match u k,v.val with
  |false,true=>some (⟨iL d (.ref k 0),[(k,some (.cells v.cs))],[(k,true)]⟩,[],hs)
  |_,_=>none
 |_=>none
def aDA(d:Option Tmp)(v:V)(hs:List Hn):JR:=
 match hs with
 | .b true::hs=>match (nzV v).val,yG (nzV v).cs with
  |true,some xs=>some (⟨iL d (.tp xs),[],[]⟩,[],hs)
  |_,_=>none
 |_=>none
def isB:List Hn→Bool
 | .b true::_=>true
 |_=>false
def aAm(C:Cfg)(t:TypeId)(H:Nat→Option E)(a v:V)(hs:List Hn):JR:=
 match bN C.Ty t with
 |none=>none
 |some i=>match a with
  | .ref id off=>match H id with
   |some (.cells cs)=>match v.val,nF v.cs,Nat.beq v.cs.length i.size,Nat.ble (off+i.size) cs.length with
    |true,true,true,true=>some (⟨[],[(id,some (.cells (splice cs off v.cs)))],[]⟩,[],hs)
    |_,_,_,_=>none
   |_=>none
  | .eref id gen sz k off=>match H id,yG (nzV v).cs,hs with
   |some (.arr e gen' sz' rows),some vs,.row r:: .rows rows'::hs=>match (nzV v).val,Nat.beq vs.length i.size,Nat.ble (off+i.size) sz with
    |true,true,true=>some (⟨[],[(id,some (.arr e gen' sz' rows'))],[]⟩,
      [.q gen' gen,.q sz' sz,.p (rows[k]? =some r),.p (rows'=rows.set k (r.take off++vs++r.drop (off+vs.length)))],hs)
    |_,_,_=>none
   |_,_,_=>none
  |_=>none
def T3(k off n:Nat):List (Nat×Nat×V)→List Ob
 | []=>[]
 |h::hs=>bif Nat.ble off h.2.1&&Nat.blt h.2.1 (off+n) then .q h.1 k::T3 k off n hs else T3 k off n hs
def T4(k off n:Nat):List (Nat×Nat×V)→List Ob
 | []=>[]
 |h::hs=>bif Nat.ble off h.2.1&&Nat.blt h.2.1 (off+n) then .p (h.1≠k)::T4 k off n hs else T4 k off n hs
def J8(C:Cfg)(t:TypeId)(H:Nat→Option E)(a v:V)(hs:List Hn):JR:=
 match bN C.Ty t,a,hs with
 |some i,.eref id gen sz k off,.row r::hs=>match H id with
  |some (.tree Γ m gen' rows ho)=>match v.val&&(nF v.cs&&(Nat.beq v.cs.length i.size&&(Nat.ble (off+i.size) r.length&&Nat.blt 0 i.size))),uW ho off i.size with
   |true,some l=>some (⟨[],[(id,some (.tree Γ m gen' rows (zT off v.cs ho)))],[]⟩,.q gen' gen:: .q (ndOf Γ m).size sz:: .p (rows[k]? =some r)::(I5 k l++T3 k off i.size ho),hs)
   |_,_=>none
  |_=>none
 |some i,.eref id gen sz k off,.int q:: .nat n:: .row r::hs=>match H id with
  |some (.tree Γ m gen' rows ho)=>match v.val&&(nF v.cs&&(Nat.beq v.cs.length i.size&&(Nat.ble (off+i.size) r.length&&Nat.blt 0 i.size))),uW ((ho.drop q.toNat).take n) off i.size with
   |true,some l=>some (⟨[],[(id,some (.tree Γ m gen' rows (ho.take q.toNat++(zT off v.cs ((ho.drop q.toNat).take n)++(ho.drop q.toNat).drop n))))],[]⟩,
     .q gen' gen:: .q (ndOf Γ m).size sz:: .p (rows[k]? =some r)::(I5 k l++(T3 k off i.size ((ho.drop q.toNat).take n)++(T4 k off i.size (ho.take q.toNat)++T4 k off i.size ((ho.drop q.toNat).drop n)))),hs)
   |_,_=>none
  |_=>none
 |_,_,_=>none
def I1(z:List T):List (Nat×Nat)→Bool
 | []=>true
 |p::l=>(match z[p.1]? with|some .nilS=>true|_=>false)&&I1 z l
def aDp(C:Cfg)(d:Option Tmp)(t:TypeId)(u:Nat→Bool)(v w:V)(hs:List Hn):JR:=
 match bN C.Ty t with
 |none=>none
 |some i=>match i.u with
  | .slice e=>match bN C.Ty e with
   |none=>none
   |some j=>match v,w,hs,yG (cO j.z).cs with
    | .t (.int .i64 n),.t (.int .i64 m),.nat k:: .rows R::hs,some z0=>match u k,(cO j.z).val,Nat.beq z0.length j.size,Nat.blt 0 j.size&&Nat.ble j.bytes 200000 with
     |false,true,true,true=>some (⟨iL d (.msl k 1 j.size 0 R.length),[(k,some (.arr e 1 j.size R))],[(k,true)]⟩,[.q n.toNat m.toNat,.p (mk n (z0.map nzT)=some R),.p (0≤m)],hs)
     |_,_,_,_=>none
    | .t (.int .i64 n),.t (.int .i64 m),.nat k:: .tre _ Γ q:: .rows R::hs,some z0=>match u k,(cO j.z).val&&I1 z0 (ndOf Γ q).kids,Nat.beq z0.length j.size,Nat.blt 0 j.size&&Nat.ble j.bytes 200000 with
     |false,true,true,true=>some (⟨iL d (.msl k 1 j.size 0 R.length),[(k,some (.tree Γ q 1 R []))],[(k,true)]⟩,[.q (ndOf Γ q).ty e,.q (ndOf Γ q).size j.size,.q n.toNat m.toNat,.p (mk n (z0.map nzT)=some R),.p (0≤m)],hs)
     |_,_,_,_=>none
    |_,_,_,_=>none
  |_=>none
def K1(C:Cfg)(d:Option Tmp)(t t':TypeId)(H:Nat→Option E)(v w:V)(hs:List Hn):JR:=
 match bN C.Ty t with
 |none=>none
 |some i=>match i.u with
  | .slice e=>match bN C.Ty e with
   |none=>none
   |some j=>match v,nzV w,hs with
    | .msl k gen size off len,.t (.sl news),.rows R::hs=>match H k with
     |some (.arr e' gen' size' rows)=>match Nat.beq off 0,Nat.beq j.z.cells.size j.size&&(Nat.blt 0 j.size&&Nat.ble j.bytes 140000),Nat.beq e' e&&Nat.beq t' t with
      |true,true,true=>some (⟨iL d (.msl k (gen'+1) size 0 R.length),[(k,some (.arr e' (gen'+1) size' R))],[]⟩,
        [.q gen' gen,.q size' size,.q size j.size,.q len rows.length,.p (app rows news=some R),.p (Rows j.size rows),.p (Rows j.size news)],hs)
      |_,_,_=>none
     |_=>none
    |_,_,_=>none
  |_=>none
def zE(C:Cfg)(d:Option Tmp)(t t':TypeId)(H:Nat→Option E)(v w:V)(hs:List Hn):JR:=
 match bN C.Ty t with
 |none=>none
 |some i=>match i.u with
  | .slice e=>match bN C.Ty e with
   |none=>none
   |some j=>match v,w,hs with
    | .msl k gen size off len,.msl k3 g3 z3 o3 n3,.rows R::hs=>match H k,H k3 with
     |some (.tree Γ m gen' rows []),some (.tree Γ3 m3 g3' (n0::news) hs3)=>match Nat.beq off 0&&Nat.beq o3 0,Nat.beq j.z.cells.size j.size&&(Nat.blt 0 j.size&&Nat.ble j.bytes 140000),Nat.beq t' t&&(w3 (ndOf Γ m) (news.length+1) hs3&&yP hs3) with
      |true,true,true=>some (⟨iL d (.msl k (gen'+1) size 0 R.length),[(k,some (.tree Γ m (gen'+1) R (jE rows.length hs3)))],[]⟩,
        [.q gen' gen,.q g3' g3,.q z3 size,.q size j.size,.q (ndOf Γ m).size size,.q (ndOf Γ m).ty e,.q n3 (news.length+1),.q len rows.length,.p (ndOf Γ3 m3=ndOf Γ m),.p (app rows (n0::news)=some R),.p (Rows j.size rows),.p (Rows j.size (n0::news))],hs)
      |_,_,_=>none
     |some (.arr e' gen' size' rows),some _=>match Nat.beq k3 k&&Nat.beq off 0,Nat.beq e' e&&(Nat.beq t' t&&Nat.blt 0 j.size) with
      |true,true=>some (⟨iL d (.msl k gen size 0 (len+n3)),[(k,some (.arr e' gen' size' R))],[]⟩,
        [.q gen' gen,.q g3 gen,.q size' size,.q z3 size,.q j.size size,.p (len+n3≤rows.length),.p (o3+n3≤rows.length),.p (R=rows.take len++(rows.drop o3).take n3++rows.drop (len+n3))],hs)
      |_,_=>none
     |_,_=>none
    | .msl k gen size off len,.t (.sl []),.int 0::hs=>match H k with
     |some (.arr _ gen' size' _)=>match Nat.beq off 0&&Nat.blt 0 j.size,Nat.beq t' t with
      |true,true=>some (⟨iL d (.msl k gen size 0 len),[],[]⟩,[.q gen' gen,.q size' size,.q j.size size],hs)
      |_,_=>none
     |_=>none
    |_,_,_=>none
  |_=>none
def rH(d:Nd):Nat→List V→Option (List T×List (Nat×Nat×V))
 |_,[]=>some ([],[])
 |j,v::vs=>match rH d (j+1) vs with
  |none=>none
  |some (r,hs)=>match d.kid j with
   |some _=>bif v.one then some (.sl []::r,(0,j,v)::hs) else none
   |none=>match toT v with
    |some x=>some (x::r,hs)
    |none=>none
def z8:Nat→List V→List (Nat×Nat×V)
 |_,[]=>[]
 |i,v::vs=>(i,0,v)::z8 (i+1) vs
def aDr(C:Cfg)(d:Option Tmp)(t:TypeId)(n:Nat)(is:List Nat)(u:Nat→Bool)(vals:List V)(hs:List Hn):JR:=
 match bN C.Ty t with
 |none=>none
 |some i=>match i.u with
  | .slice e=>match bN C.Ty e with
   |none=>none
   |some j=>match n,hs with
    |1,.lt k Γ m::hs=>match m9 (fun i=>some (i*j.size,j.size)) (List.replicate (1*j.size) .junk) (is.zip (aFl ((ndOf Γ m).kid 0) vals)) with
     |none=>none
     |some cs=>match rH (ndOf Γ m) 0 cs with
      |none=>none
      |some (r,ho)=>match u k,Nat.beq cs.length j.size&&Nat.beq (ndOf Γ m).size j.size,Nat.beq is.length vals.length&&Nat.beq (ndOf Γ m).ty e,Nat.ble (1*j.size) 16777216,Nat.blt 0 j.size with
       |false,true,true,true,true=>some (⟨iL d (.msl k 1 j.size 0 1),[(k,some (.tree Γ m 1 [r] ho))],[(k,true)]⟩,[],hs)
       |_,_,_,_,_=>none
    |n,.lt k Γ m::hs=>match m9 (fun i=>some (i*j.size,j.size)) (List.replicate (n*j.size) .junk) (is.zip (C6 vals)) with
     |none=>none
     |some cs=>match u k,Nat.beq j.size 1&&(Nat.beq cs.length n&&nF cs),Nat.beq is.length vals.length&&(Nat.beq (ndOf Γ m).ty e&&Nat.beq (ndOf Γ m).size 1),Nat.ble (n*j.size) 16777216,Nat.blt 0 n with
      |false,true,true,true,true=>some (⟨iL d (.msl k 1 1 0 n),[(k,some (.tree Γ m 1 (List.replicate n [.sl []]) (z8 0 cs)))],[(k,true)]⟩,[],hs)
      |_,_,_,_,_=>none
    |_,_=>none
  |_=>none
def aHv(C:Cfg)(d:Option Tmp)(t:TypeId)(n:Nat)(is:List Nat)(u:Nat→Bool)(vals:List V)(hs:List Hn):JR:=
 match bN C.Ty t with
 |none=>none
 |some i=>match i.u with
  | .slice e=>match bN C.Ty e with
   |none=>none
   |some j=>match n,is,hs with
    |0,[],.nat k::hs=>match u k with
     |false=>some (⟨iL d (.msl k 1 j.size 0 0),[(k,some (.arr e 1 j.size []))],[(k,true)]⟩,[],hs)
     |true=>none
    |n,is,.int 1:: .nat k::hs=>match m9 (fun i=>some (i*j.size,j.size)) (List.replicate (n*j.size) .junk) (is.zip (C6 vals)) with
     |none=>none
     |some cs=>match yG cs with
      |none=>none
      |some xs=>match u k,Nat.beq xs.length (n*j.size),Nat.beq is.length vals.length,Nat.ble (n*j.size) 16777216,Nat.blt 0 j.size with
       |false,true,true,true,true=>some (⟨iL d (.msl k 1 j.size 0 (pB j.size n xs).length),[(k,some (.arr e 1 j.size (pB j.size n xs)))],[(k,true)]⟩,[],hs)
       |_,_,_,_,_=>none
    |n,is,.int 2:: .rows R::hs=>match m9 (fun i=>some (i*j.size,j.size)) (List.replicate (n*j.size) .junk) (is.zip (C6 vals)) with
     |none=>none
     |some cs=>match yG cs with
      |none=>none
      |some xs=>match Nat.beq xs.length (n*j.size),Nat.beq is.length vals.length,Nat.ble (n*j.size) 16777216 with
       |true,true,true=>some (⟨iL d (.t (.sl R)),[],[]⟩,[.p (pB j.size n xs=R)],hs)
       |_,_,_=>none
    |n,is,.int 0::hs=>match m9 (fun i=>some (i*j.size,j.size)) (List.replicate (n*j.size) .junk) (is.zip (C6 vals)) with
     |none=>none
     |some cs=>match yG cs with
      |none=>none
      |some xs=>match Nat.beq xs.length (n*j.size),Nat.beq is.length vals.length,Nat.ble (n*j.size) 16777216 with
       |true,true,true=>some (⟨iL d (.t (.sl (pB j.size n xs))),[],[]⟩,[],hs)
       |_,_,_=>none
    |_,_,_=>none
  |_=>none
mutual
def J4:V→Bool
 | .t (.int _ _)| .t (.bool _)| .t (.str _)=>true
 | .agg cs=>W4 cs
 | .tup cs=>W4 cs
 |_=>false
def W4:List V→Bool
 | []=>true
 |c::cs=>J4 c&&W4 cs
end
def aH2(H:Nat→Option E):V→Option (T×List Ob)
 | .msl k gen size off len=>match H k with
  |some (.arr _ gen' size' rows)=>some (.sl rows,[.q gen gen',.q size size',.q off 0,.q len rows.length])
  |some (.tree Γ m gen' rows [])=>some (.sl rows,[.q gen gen',.q size (ndOf Γ m).size,.q off 0,.q len rows.length])
  |_=>none
 | .t x=>some (nzT x,[])
 |_=>none
def aEW(H:Nat→Option E):List V→Option (List T×List Ob)
 | []=>some ([],[])
 |v::vs=>match aH2 H v,aEW H vs with
  |some (x,φ),some (xs,ψ)=>some (x::xs,φ++ψ)
  |_,_=>none
mutual
def N4(H:Nat→Option E):V→Option (V×List Ob)
 | .msl k gen size off len=>match aH2 H (.msl k gen size off len) with
  |some (x,φ)=>some (.t x,φ)
  |none=>none
 | .t x=>some (.t (nzT x),[])
 | .tp cs=>some (.tp cs,[])
 | .ref id off=>match H id with
  |some (.cells cs)=>match aEW H cs with
   |some (ts,φ)=>some (.tp (ts.drop off),φ)
   |none=>none
  |_=>none
 | .agg cs=>match aAM H cs with
  |some (xs,φ)=>some (.agg xs,φ)
  |none=>none
 | .tup cs=>match aAM H cs with
  |some (xs,φ)=>some (.tup xs,φ)
  |none=>none
 | .fn f cs=>match aAM H cs with
  |some (xs,φ)=>some (.fn f xs,φ)
  |none=>none
 | .eref _ _ _ _ _=>none
 | .junk=>none
def aAM(H:Nat→Option E):List V→Option (List V×List Ob)
 | []=>some ([],[])
 |v::vs=>match N4 H v,aAM H vs with
  |some (x,φ),some (xs,ψ)=>some (x::xs,φ++ψ)
  |_,_=>none
end
def aJ2:List Hn→List Hn
 | .nat _::hs=>aJ2 hs
 |hs=>hs
def aHM(C:Cfg)(d:Option Tmp)(H:Nat→Option E)(vals:List V)(hs:List Hn):JR:=
 match vals with
 | .fn f caps::args=>match aJ2 (hs.drop 1) with
  | .v r::hs=>match aAM H (args++caps),J4 r with
   |some (xs,φ),true=>some (⟨iL d r,[],[]⟩,φ++[.p (PCC C.P C.G f xs r)],hs)
   |_,_=>none
  |_=>none
 |_=>none
def aDy(C:Cfg)(d:Option Tmp)(vals:List V)(hs:List Hn):JR:=
 match vals with
 | .fn f caps::args=>match hs with
  | .v r::hs=>match f0 gC (C6 (args++caps)) with
   |true=>some (⟨iL d r,[],[]⟩,[.p (PCC C.P C.G f (C6 (args++caps)) r)],hs)
   |false=>none
  | .nat _:: .v r::hs=>some (⟨iL d r,[],[]⟩,[.p (f0 gC (C6 (args++caps))=true),.p (PCC C.P C.G f (C6 (args++caps)) r)],hs)
  |_=>none
 |_=>none
def aK4(C:Cfg)(d:Option Tmp)(vals:List V)(H:Nat→Option E)(u:Nat→Bool)(hs:List Hn):JR:=
 match vals with
 | .fn f caps::args=>match hs with
  | .vc L news r out::hs=>match unL L (C6 (args++caps)),V6 L H L,aAb (L++news)&&xL u news&&Nat.beq out.length (L++news).length with
   |some args',some inn,true=>some (⟨iL d (r.ren (L++news)),(L++news).zip (out.map fun e=>some (e.ren (L++news))),(L++news).map fun k=>(k,true)⟩,[.p (VCC C.P C.G f inn args' r out)],hs)
   |_,_,_=>none
  |_=>none
 |_=>none
def aAr(C:Cfg)(t:TypeId)(H:Nat→Option E)(v:V)(hs:List Hn):JR:=
 match bN C.Ty t with
 |none=>none
 |some i=>match i.u with
  | .slice e=>match bN C.Ty e with
   |none=>none
   |some j=>match v,hs,yG (cO j.z).cs with
    | .msl k gen size off len,.rows R::hs,some z0=>match H k,(cO j.z).val with
     |some (.arr e' gen' size' rows),true=>some (⟨[],[(k,some (.arr e' gen' size' R))],[]⟩,[.q gen' gen,.q size' size,.q z0.length size,.p (off+len≤rows.length∧R=rows.take off++List.replicate len (z0.map nzT)++rows.drop (off+len))],hs)
     |_,_=>none
    |_,_,_=>none
  |_=>none
def aDu(C:Cfg)(d:Option Tmp)(t:TypeId)(H:Nat→Option E)(v w:V)(hs:List Hn):JR:=
 match bN C.Ty t with
 |none=>none
 |some i=>match i.u with
  | .slice e=>match bN C.Ty e with
   |none=>none
   |some j=>match v,nzV w,hs with
    | .msl k gen size off len,.t (.sl news),.rows R:: .nat m::hs=>match H k,Nat.blt 0 j.size with
     |some (.arr e' gen' size' rows),true=>some (⟨iL d (.t (.int .i64 m)),[(k,some (.arr e' gen' size' R))],[]⟩,
       [.q gen' gen,.q size' size,.q size j.size,.q m (Nat.min news.length len),.p (Rows j.size news),.p (off+len≤rows.length∧R=rows.take off++news.take m++rows.drop (off+m))],hs)
     |_,_=>none
    |_,_,_=>none
  |_=>none
def aMR:List Hn→Bool
 | .vc _ _ _ _::_=>true
 |_=>false
def evO(C:Cfg)(o:Oper)(vals:List V)(H:Nat→Option E)(u:Nat→Bool)(hs:List Hn):JR:=
 match dOk C.nt o.dst with
 |false=>none
 |true=>match o.op with
  | .box _ _=>match vals with
   | [v]=>match isB hs with
    |true=>aDA o.dst v hs
    |false=>W7 o.dst u v hs
   |_=>none
  | .alloc t=>match bN C.Ty t with
   |some i=>W7 o.dst u (cO i.z) hs
   |none=>none
  | .store t _ _=>match o.dst,vals with
   |none,[a,v]=>match aAm C t H a v hs with
    |some r=>some r
    |none=>J8 C t H a v hs
   |_,_=>none
  | .makeSlice t _ _=>match vals with
   | [v,w]=>aDp C o.dst t u v w hs
   |_=>none
  | .buildSlice t n ps=>match aHv C o.dst t n (ps.toList.map (·.1)) u vals hs with
   |some r=>some r
   |none=>aDr C o.dst t n (ps.toList.map (·.1)) u vals hs
  | .call c=>match c.callee with
   | .value _=>match aMR hs with
    |true=>aK4 C o.dst vals H u hs
    |false=>match isB hs with
     |true=>aHM C o.dst H vals hs
     |false=>aDy C o.dst vals hs
   | .builtin .append=>match c.args.toList,c.argTypes.toList,vals with
    | [_,_],[t,t'],[v,w]=>match K1 C o.dst t t' H v w hs with
     |some r=>some r
     |none=>zE C o.dst t t' H v w hs
    |_,_,_=>none
   | .builtin .clear=>match o.dst,c.args.toList,c.argTypes.toList,vals with
    |none,[_],[t],[v]=>aAr C t H v hs
    |_,_,_,_=>none
   | .builtin .copy=>match c.args.toList,c.argTypes.toList,vals with
    | [_,_],[t,_],[v,w]=>aDu C o.dst t H v w hs
    |_,_,_=>none
   | .builtin _=>match evV C.P C.Ty H o.op vals hs with
    |some (v,φ,hs)=>some (⟨iL o.dst v,[],[]⟩,φ,hs)
    |none=>none
   |_=>none
  |_=>match evV C.P C.Ty H o.op vals hs with
   |some (v,φ,hs)=>some (⟨iL o.dst v,[],[]⟩,φ,hs)
   |none=>none
theorem aIi{z:Value}{z0:List T}(hv:(cO z).val=true)(hz:yG (cO z).cs=some z0):z.cells.size=z0.length∧ ∀(w:World) (X:Nat→Prop) (j:Nat) (u:Value) (x:T),z.cells[j]? =some u→(z0.map nzT)[j]? =some x→RT w X x u:=by
 have h:=fun(w:World) (X:Nat→Prop)=>(mZ (⟨fun _=>none,fun _ _=>False⟩:Map) w X z).cells hv;have he:=kV hz;refine⟨by rw [(h default fun _=>False).1,he,S7],fun w X j u x hu hx=>?_⟩;rw [yE] at hx;cases hj:z0[j]? with
 |none=>rw [hj] at hx;cases hx
 |some y=>
  rw [hj] at hx;simp only [Option.map_some,Option.some.injEq] at hx;subst hx
  have:=(h w X).2 j (.t y) u (by rw [he,yE,hj];rfl) hu;cases this with
  |t _ _ h2=>exact h2.nz
section steps
variable {K:Ctx} {s:S} {d:Option Tmp} {ty:TypeId} {pos:String} {af:Array Edge} {g:Option (Nat×Bool)}
variable {t:TypeId} {u:TypeDesc} {z:Value} {size bytes gen:Nat}
theorem O3(zs:Array Value)(n i j:Nat)(hi:i<n)(hj:j<zs.size):(Builtin.zeroCells zs n).toList[i*zs.size+j]? =zs[j]? :=by
 have hlt:i*zs.size+j<n*zs.size:=by
  have:(i+1)*zs.size≤n*zs.size:=lU _ hi;rw [mX] at this;omega
 have hm:(i*zs.size+j)%zs.size=j:=by rw [Nat.mul_comm,Nat.mul_add_mod];exact Nat.mod_eq_of_lt hj
 simp [Builtin.zeroCells,hlt,hm,hj]
theorem aJo(x:Operand)(id off len:Nat)(e e':TypeId)(rows:List (List T))(z0:List T)(hx:s.get x= .msl id gen size off len)(hH:s.H id=some (.arr e' gen size rows))(ht:K.P.underlying t=some (.slice e)){sz:Nat}(he:TI K.P e u z sz bytes)
  (hv:(cO z).val=true) (hz:yG (cO z).cs=some z0) (hzl:z0.length=size) (hl:off+len≤rows.length):
  OpJ K ⟨none,.call {callee:= .builtin .clear,args:= #[x],argTypes:= #[t]},ty,pos,af,g⟩ s {s with H:=upd s.H id (some (.arr e' gen size (rows.take off++List.replicate len (z0.map nzT)++rows.drop (off+len))))}:=by
 intro β a w next Q hr hk
 have hxv:=hr.get x;rw [hx] at hxv;have hre:=(hr.heap id _ hH).2;obtain⟨q,hq⟩:=iJ hre;obtain⟨hzs,hzr⟩:=aIi hv hz;unfold Oper.wp;cases len with
 |zero=>
  obtain⟨ad,cap,hxe⟩: ∃ad cap,a.eval x= .slice ad 0 cap:=by
   rcases bS hxv hq with ⟨cap,b,n,ty',hxe,_⟩|⟨_,_,_,hxe⟩
   ·exact⟨_,cap,hxe⟩
   exact⟨none,0,hxe⟩
  have hrun:(execOp a.eval ⟨none,.call {callee:= .builtin .clear,args:= #[x],argTypes:= #[t]},ty,pos,af,g⟩).run K.P w= .ok (.value (.tuple #[])) w:=by
   cases ad<;>simp [execOp,resolve,invoke,builtin,hxe,Builtin.clear_,run_underlying ht]
  rw [hrun]
  have:rows.take off++List.replicate 0 (z0.map nzT)++rows.drop (off+0)=rows:=by simp
  refine hk β _ _ ?_;rw [this];exact hr.sameH id _ hH
 |succ len=>
  rcases bS hxv hq with ⟨cap,b,n,ty',hxe,hb0,hw,hs,hn,hlc,hm⟩|⟨_,_,h0,_⟩
  ·subst hb0;rcases hre.2 with ⟨h1,_⟩|⟨b2,us,h1,h2,h3,h4,h5⟩
   ·rw [hq] at h1;cases h1
   rw [hq] at h1;cases h1;have hsz2:z.cells.size=size:=by rw [hzs,hzl]
   have hcl:(Builtin.zeroCells z.cells (len+1)).toList.length=(len+1)*size:=by rw [vBa,size_zeroCells,hsz2]
   have hfit:off*size+(len+1)*size≤us.size:=by
    have:(off+(len+1))*size≤rows.length*size:=lU _ hl;rw [mX] at this;omega
   have hcells: ∀(i j:Nat) (u:Value),i<len+1→j<size→(Builtin.zeroCells z.cells (len+1)).toList[i*size+j]? =some u→z.cells[j]? =some u:=by
    intro i j u hi hj hu;rw [←hsz2] at hj hu
    rwa [O3 _ _ _ _ hi hj] at hu
   have hone: ∀v∈(Builtin.zeroCells z.cells (len+1)).toList,v.oneCell'=true:=by
    intro v hvm;obtain⟨k,hk⟩:=vAE.1 hvm;have hkl:=(b7.1 hk).1;rw [hcl] at hkl;have hp:0<size:=by
     rcases Nat.eq_zero_or_pos size with e0|e0
     ·rw [e0] at hkl;omega
     exact e0
    have hdiv:k / size<len+1:=(vBl hp).2 hkl;have hmod:k%size<size:=Nat.mod_lt _ hp;have hk':(Builtin.zeroCells z.cells (len+1)).toList[k / size*size+k%size]? =some v:=by rw [Nat.div_add_mod'];exact hk
    have h9:=hcells _ _ _ hdiv hmod hk'
    have:(z0.map nzT)[k%size]? =some (nzT z0[k%size]):=by rw [yE,dM (by omega)];rfl
    exact(RV.t (β:=β) _ _ (hzr w (fun _=>False) _ _ _ h9 this)).oneCell rfl
   have hst:=run_storeCells_at K.P b (off*size) e' (Builtin.zeroCells z.cells (len+1)).toList 0 us w h2 (by rw [hcl];omega) hone;simp only [Nat.add_zero] at hst;have hrun:(execOp a.eval ⟨none,.call {callee:= .builtin .clear,args:= #[x],argTypes:= #[t]},ty,pos,af,g⟩).run K.P w= .ok (.value (.tuple #[])) (w.setRow b (us.toList.take (off*size)++(Builtin.zeroCells z.cells (len+1)).toList++us.toList.drop (off*size+(Builtin.zeroCells z.cells (len+1)).toList.length)).toArray):=by
    simp [execOp,resolve,invoke,builtin,hxe,Builtin.clear_,run_underlying ht,he.run_zero,hst]
   rw [hrun];refine hk β _ _ (aCo hr id b e' rows _ us _ hH hq h2 (by simp [hcl];omega) ?_ ?_ ?_)
   ·have:(rows.take off++List.replicate (len+1) (z0.map nzT)++rows.drop (off+(len+1))).length=rows.length:=by simp;omega
    rw [this];exact h3
   ·intro row hrow;rw [E2,E2] at hrow;rcases hrow with (hrow|hrow)|hrow
    ·exact h4 row (vAz hrow)
    ·rw [(vAY.1 hrow).2,S7];exact hzl
    exact h4 row (vAL hrow)
   intro i j row x' u' a1 a2 a3;have a3:(us.toList.take (off*size)++(Builtin.zeroCells z.cells (len+1)).toList++us.toList.drop (off*size+(Builtin.zeroCells z.cells (len+1)).toList.length))[i*size+j]? =some u':=by simpa using a3
   rw [hcl] at a3;have htk:(us.toList.take (off*size)).length=off*size:=by simp;omega
   by_cases c1:i<off
   ·rw [vAN,B8 (by simp;omega),N6,if_pos c1] at a1;have hj:j<size:=by rw [←h4 row (dF a1)];exact(b7.1 a2).1
    have hlt:i*size+j<off*size:=iR c1 hj;rw [vAN,B8 (by omega),N6,if_pos hlt] at a3;exact .inl ⟨i,row,a1,a2,by simpa using a3⟩
   by_cases c2:i<off+(len+1)
   ·rw [B8 (by simp;omega),N8 (by simp;omega)] at a1;have hrow:row=z0.map nzT:=by
     have:=dF a1;exact(vAY.1 this).2
    subst hrow;have hj:j<size:=by rw [←hzl,←S7 (f:=nzT)];exact(b7.1 a2).1
    have e1:i*size+j=off*size+((i-off)*size+j):=by rw [Nat.sub_mul];have:=lU size (show off≤i by omega);omega
    have hlt:(i-off)*size+j<(len+1)*size:=iR (by omega) hj;rw [e1,B8 (by rw [oK,htk,hcl];omega),N8 (by omega),htk,Nat.add_sub_cancel_left] at a3;exact .inr fun w X=>hzr w X j _ _ (hcells _ _ _ (by omega) hj a3) a2
   have hlen2:(rows.take off++List.replicate (len+1) (z0.map nzT)).length=off+(len+1):=by simp;omega
   rw [N8 (by omega),hlen2,N7,show off+(len+1)+(i-(off+(len+1)))=i by omega] at a1;have hj:j<size:=by rw [←h4 row (dF a1)];exact(b7.1 a2).1
   have hge:off*size+(len+1)*size≤i*size+j:=by
    have:=lU size (show off+(len+1)≤i by omega);rw [mX] at this;omega
   rw [N8 (by rw [oK,htk,hcl];omega),oK,htk,hcl,N7,show off*size+(len+1)*size+(i*size+j-(off*size+(len+1)*size))=i*size+j by omega] at a3;exact .inl ⟨i,row,a1,a2,by simpa using a3⟩
  omega
theorem aDe(k lx off len:Nat)(x y:Operand)(e:TypeId)(rows:List (List T))(hd: ∀i,d=some i→Nat.blt i K.nt=true)(hx:s.get x= .msl k gen size 0 lx)(hy:s.get y= .msl k gen size off len)(hH:s.H k=some (.arr e gen size rows))
  (ht:K.P.underlying t=some (.slice e)) (he:TI K.P e u z size bytes) (hp:0<size) (h1:lx+len≤rows.length) (h2:off+len≤rows.length):
  OpJ K ⟨d,.call {callee:= .builtin .append,args:= #[x,y],argTypes:= #[t,t]},ty,pos,af,g⟩ s
   (({s with H:=upd s.H k (some (.arr e gen size (rows.take lx++(rows.drop off).take len++rows.drop (lx+len))))}:S).put d (.msl k gen size 0 (lx+len))):=by
 intro β a w next Q hr hkk
 have hxv:=hr.get x;rw [hx] at hxv;have hyv:=hr.get y;rw [hy] at hyv;have hre:=(hr.heap k _ hH).2;have hg1:=hre.1;obtain⟨q,hq⟩:=iJ hre;obtain⟨_,i,hi1,hi2,hi3,hi4⟩:=id he;unfold Oper.wp;cases len with
 |zero=>
  obtain⟨ad,cap,hye⟩: ∃ad cap,a.eval y= .slice ad 0 cap:=by
   rcases bS hyv hq with ⟨cap,b,n,ty',hxe,_⟩|⟨_,_,_,hxe⟩
   ·exact⟨_,cap,hxe⟩
   exact⟨none,0,hxe⟩
  have hrows:rows.take lx++(rows.drop off).take 0++rows.drop (lx+0)=rows:=by simp
  have hrun:(execOp a.eval ⟨d,.call {callee:= .builtin .append,args:= #[x,y],argTypes:= #[t,t]},ty,pos,af,g⟩).run K.P w= .ok (.value (a.eval x)) w:=by
   rcases bS hxv hq with ⟨cap',b,n,ty',hxe,_,_,_,_,hl,_⟩|⟨_,_,_,hxe⟩
   ·cases ad<;>simp [execOp,resolve,invoke,builtin,hxe,hye,Builtin.append_,run_underlying ht,sizeOf,typeInfo,hi1,Builtin.lenOf,Builtin.firstCells,hl,storeCells,loadCells,loadCellsFrom]
   cases ad<;>simp [execOp,resolve,invoke,builtin,hxe,hye,Builtin.append_,run_underlying ht,sizeOf,typeInfo,hi1,Builtin.lenOf,Builtin.firstCells,loadCells,loadCellsFrom]
  rw [hrun];refine hkk β _ w ?_;have hS:upd s.H k (some (E.arr e gen size rows))=s.H:=by
   funext j;by_cases hj:j=k
   ·subst hj;rw [aI,hH]
   rw [aH _ _ _ _ hj]
  rw [hrows,hS];exact hr.put d hd hxv
 |succ len=>
  rcases bS hyv hq with ⟨capy,b,n,ty',hye,hb0,hw,hs,hn,hlc,hm⟩|⟨_,_,h0,_⟩
  ·subst hb0;rcases bS hxv hq with ⟨capx,b',n',ty2,hxe,hb1,hw2,hs2,hn2,hlc2,hm2⟩|⟨h0,_⟩
   ·cases hb1;rcases hre.2 with ⟨g1,_⟩|⟨b2,us,g1,g2,g3,g4,g5⟩
    ·rw [hq] at g1;cases g1
    rw [hq] at g1;cases g1;have husz:us.size=n':=by
     unfold World.shape? at hs2;rw [g2] at hs2;simp at hs2;exact hs2.2
    obtain⟨ws,hwse⟩: ∃ws,ws=(us.toList.drop (off*size)).take ((len+1)*size):=⟨_,rfl⟩
    have hle:(off+(len+1))*size≤us.size:=s4 (lU _ h2) g3;rw [mX] at hle;have hwl:ws.length=(len+1)*size:=by rw [hwse];simp;omega
    have hget: ∀j v,ws[j]? =some v→us[off*size+j]? =some v∧j<(len+1)*size:=fun j v hv=>by
     have hj:=(b7.1 hv).1;rw [hwl] at hj;rw [hwse,N6,if_pos hj,N7] at hv;exact⟨by simpa using hv,hj⟩
    have hrowat: ∀i',i'<rows.length→ ∃row,rows[i']? =some row∧row.length=size:=fun i' hi'=>⟨_,dM hi',g4 _ (vBB hi')⟩
    have hcell: ∀j v,ws[j]? =some v→w.cell? ((⟨b,off*size,none⟩:Addr).add j)=some v:=fun j v hv=>by
     rw [cW];simp only [World.cell?,g2];exact(hget j v hv).1
    have hone: ∀v,v∈ws→v.oneCell'=true:=fun v hv=>by
     obtain⟨j,hj⟩:=vAE.1 hv;obtain⟨h3,h4⟩:=hget j v hj;have hmod:j%size<size:=Nat.mod_lt _ hp;have hdiv:j / size<len+1:=(vBl hp).2 h4;obtain⟨row,hr1,hr2⟩:=hrowat (off+j / size) (by omega);have he9:(off+j / size)*size+j%size=off*size+j:=by rw [mX,vBq,Nat.div_add_mod']
     exact(g5 (off+j / size) (j%size) row row[j%size] v hr1 (dM (by omega)) (by rw [he9];exact h3)).oneCell
    have hfit:lx*size+ws.length≤us.size:=by
     rw [hwl,←mX];exact s4 (lU _ h1) g3
    have hroom:lx+(len+1)≤capx:=by
     have:(lx+(len+1))*size≤capx*size:=by
      rw [nH] at hn2;rw [hn2,←husz];exact s4 (lU _ h1) g3
     exact Nat.le_of_mul_le_mul_right this hp
    have hrun0:=run_append_room (P:=K.P) w t ty e i ht hi1 b lx capx us g2 ⟨b,off*size,none⟩ (len+1) capy ws (by rw [hi3];exact hwl) hcell hone hroom (by rw [hi3];exact hfit);rw [hi3] at hrun0;have hrun:(execOp a.eval ⟨d,.call {callee:= .builtin .append,args:= #[x,y],argTypes:= #[t,t]},ty,pos,af,g⟩).run K.P w= .ok (.value (.slice (some ⟨b,0,none⟩) (lx+(len+1)) capx)) (w.setRow b (us.toList.take (lx*size)++ws++us.toList.drop (lx*size+ws.length)).toArray):=by
     rw [O6] at hxe;simp [execOp,resolve,invoke,builtin,hxe,hye,hrun0]
    rw [hrun];have htk:(us.toList.take (lx*size)).length=lx*size:=by simp;omega
    have hszn:(us.toList.take (lx*size)++ws++us.toList.drop (lx*size+ws.length)).toArray.size=us.size:=by simp;omega
    have hrlx:(rows.take lx).length=lx:=by rw [vP];omega
    have hrmid:((rows.drop off).take (len+1)).length=len+1:=by rw [vP,vAO];omega
    have hrel:=aCo hr k b e rows (rows.take lx++(rows.drop off).take (len+1)++rows.drop (lx+(len+1))) us _ hH hq g2 hszn ?_ ?_ ?_
    ·refine hkk β _ _ (hrel.put d hd ?_);have hv2:RV β (w.setRow b (us.toList.take (lx*size)++ws++us.toList.drop (lx*size+ws.length)).toArray) (own K β (upd s.H k (some (.arr e gen size (rows.take lx++(rows.drop off).take (len+1)++rows.drop (lx+(len+1))))))) (.msl k gen size 0 (lx+(len+1))) (.slice (some ⟨b,0*size,none⟩) (lx+(len+1)) capx):=by
      refine .msl k gen size 0 _ capx b n' e hg1 hq (by simpa using hw2) ?_ hn2 hroom hm2;unfold World.shape?;rw [setRow_heap _ _ _ _ _ _ g2];simp only [hszn,husz]
     rw [O6] at hv2;exact hv2
    ·rw [oK,oK,hrlx,hrmid,vAO]
     have:lx+(len+1)+(rows.length-(lx+(len+1)))=rows.length:=by omega
     rw [this];exact g3
    ·intro row hrow;rw [E2,E2] at hrow;rcases hrow with (hrow|hrow)|hrow
     ·exact g4 row (vAz hrow)
     ·exact g4 row (vAL (vAz hrow))
     exact g4 row (vAL hrow)
    intro i' j row x' u' a1 a2 a3;have a3:(us.toList.take (lx*size)++ws++us.toList.drop (lx*size+ws.length))[i'*size+j]? =some u':=by simpa using a3
    refine .inl ?_;by_cases c1:i'<lx
    ·rw [vAN,B8 (by omega),N6,if_pos c1] at a1;have hj:j<size:=by rw [←g4 row (dF a1)];exact(b7.1 a2).1
     have hlt:i'*size+j<lx*size:=iR c1 hj;rw [vAN,B8 (by omega),N6,if_pos hlt] at a3;exact⟨i',row,a1,a2,by simpa using a3⟩
    by_cases c2:i'<lx+(len+1)
    ·rw [B8 (by rw [oK];omega),N8 (by omega),hrlx,N6,if_pos (by omega),N7] at a1;have hj:j<size:=by rw [←g4 row (dF a1)];exact(b7.1 a2).1
     have e1:i'*size+j=lx*size+((i'-lx)*size+j):=by rw [Nat.sub_mul];have:=lU size (show lx≤i' by omega);omega
     have hlt:(i'-lx)*size+j<(len+1)*size:=iR (by omega) hj;rw [e1,B8 (by rw [oK,htk,hwl];omega),N8 (by omega),htk,Nat.add_sub_cancel_left] at a3;have h9:=(hget _ _ a3).1;exact⟨off+(i'-lx),row,a1,a2,by rw [mX,vBq];exact h9⟩
    have hlen2:(rows.take lx++(rows.drop off).take (len+1)).length=lx+(len+1):=by rw [oK,hrlx,hrmid]
    rw [N8 (by omega),hlen2,N7,show lx+(len+1)+(i'-(lx+(len+1)))=i' by omega] at a1;have hj:j<size:=by rw [←g4 row (dF a1)];exact(b7.1 a2).1
    have hge:lx*size+(len+1)*size≤i'*size+j:=by
     have:=lU size (show lx+(len+1)≤i' by omega);rw [mX] at this;omega
    rw [N8 (by rw [oK,htk,hwl];omega),oK,htk,hwl,N7,show lx*size+(len+1)*size+(i'*size+j-(lx*size+(len+1)*size))=i'*size+j by omega] at a3;exact⟨i',row,a1,a2,by simpa using a3⟩
   rw [hq] at *; cases h0
  omega
theorem aBt(k lx:Nat)(x y:Operand)(e e':TypeId)(rows:List (List T))(hd: ∀i,d=some i→Nat.blt i K.nt=true)(hx:s.get x= .msl k gen size 0 lx)(hy:VLe (s.get y) (.t (.sl [])))(hH:s.H k=some (.arr e' gen size rows))
  (ht:K.P.underlying t=some (.slice e)) (he:TI K.P e u z size bytes) (hp:0<size):
  OpJ K ⟨d,.call {callee:= .builtin .append,args:= #[x,y],argTypes:= #[t,t]},ty,pos,af,g⟩ s (s.put d (.msl k gen size 0 lx)):=by
 intro β a w next Q hr hkk
 have hxv:=hr.get x;rw [hx] at hxv;have hyv:=hy _ _ _ _ (hr.get y);have hre:=(hr.heap k _ hH).2;obtain⟨q,hq⟩:=iJ hre;obtain⟨_,i,hi1,hi2,hi3,hi4⟩:=id he;unfold Oper.wp;obtain⟨ad,cap,hye⟩: ∃ad cap,a.eval y= .slice ad 0 cap:=by
  rcases zK hyv (Rows.nil size) hp with (⟨h1,_⟩|⟨b,o,c,_,h1,_⟩)|⟨_,ad,cap,h1⟩
  ·exact⟨none,0,h1⟩
  ·exact⟨_,c,h1⟩
  exact⟨ad,cap,h1⟩
 have hrun:(execOp a.eval ⟨d,.call {callee:= .builtin .append,args:= #[x,y],argTypes:= #[t,t]},ty,pos,af,g⟩).run K.P w= .ok (.value (a.eval x)) w:=by
  rcases bS hxv hq with ⟨cap',b,n,ty',hxe,_,_,_,_,hl,_⟩|⟨_,_,_,hxe⟩
  ·cases ad<;>simp [execOp,resolve,invoke,builtin,hxe,hye,Builtin.append_,run_underlying ht,sizeOf,typeInfo,hi1,Builtin.lenOf,Builtin.firstCells,hl,storeCells,loadCells,loadCellsFrom]
  cases ad<;>simp [execOp,resolve,invoke,builtin,hxe,hye,Builtin.append_,run_underlying ht,sizeOf,typeInfo,hi1,Builtin.lenOf,Builtin.firstCells,loadCells,loadCellsFrom]
 rw [hrun];exact hkk β _ w (hr.put d hd hxv)
theorem aFi{size off m:Nat}{rows news:List (List T)}{us cs:List Value}(ho:off+m≤rows.length)(hu:rows.length*size≤us.length)(hw:cs.length=m*size)(hm:m≤news.length)(hs: ∀row,row∈rows→row.length=size)(hs': ∀row,row∈news→row.length=size){R:T→Value→Prop}
  (h1: ∀(i j:Nat) (row:List T) (x:T) (u:Value),rows[i]? =some row→row[j]? =some x→us[i*size+j]? =some u→R x u)
  (h2: ∀(i j:Nat) (row:List T) (x:T) (u:Value),news[i]? =some row→row[j]? =some x→cs[i*size+j]? =some u→R x u):
  ∀(i j:Nat) (row:List T) (x:T) (u:Value),(rows.take off++news.take m++rows.drop (off+m))[i]? =some row→row[j]? =some x→(us.take (off*size)++cs++us.drop (off*size+cs.length))[i*size+j]? =some u→R x u:=by
 have e0:off*size+m*size≤rows.length*size:=by rw [←mX];exact lU _ ho
 have hA:=wH (us.take (off*size)) cs [] (rows:=rows.take off) (news:=news.take m) (n:=off) (size:=size) (by rw [vP];omega) (by rw [vP];omega) (by rw [vP,hw];congr 1;omega)
  (fun row h=>hs row (vAz h)) (fun row h=>hs' row (vAz h)) (R:=R)
  (fun k j row x u a1 a2 a3=>by
   rw [N6] at a1 a3;split at a1
   ·split at a3
    ·exact h1 k j row x u a1 a2 a3
    cases a3
   cases a1)
  (fun k j row x u a1 a2 a3=>by
   rw [N6] at a1;split at a1
   ·exact h2 k j row x u a1 a2 a3
   cases a1)
 have hlen:(us.drop (off*size+cs.length)).length=us.length-(off+m)*size:=by rw [vAO,hw,mX]
 have hB:=wH (us.take (off*size)++cs) ((us.drop (off*size+cs.length)).take ((rows.length-(off+m))*size)) ((us.drop (off*size+cs.length)).drop ((rows.length-(off+m))*size)) (rows:=rows.take off++news.take m) (news:=rows.drop (off+m)) (n:=off+m) (size:=size)
  (by rw [oK,vP,vP];omega) (by rw [oK,vP,hw,mX];omega)
  (by
   rw [vP,hlen,vAO]
   have:(rows.length-(off+m))*size=rows.length*size-(off+m)*size:=Nat.sub_mul _ _ _;omega)
  (fun row h=>by
   rcases E2.1 h with h|h
   ·exact hs row (vAz h)
   exact hs' row (vAz h)) (fun row h=>hs row (vAL h)) (R:=R) (fun k j row x u a1 a2 a3=>hA k j row x u a1 a2 (by simpa using a3))
  (fun k j row x u a1 a2 a3=>by
   rw [N7] at a1;rw [N6] at a3;split at a3
   ·rw [N7,hw] at a3;refine h1 (off+m+k) j row x u a1 a2 ?_;rw [mX,mX,vBq];exact a3
   cases a3)
 intro i j row x u a1 a2 a3;refine hB i j row x u a1 a2 ?_;rw [vAN _ (List.take _ _),vBA];exact a3
theorem aKR(x y:Operand)(id off len:Nat)(e e' t':TypeId)(rows news:List (List T))(hd: ∀i,d=some i→Nat.blt i K.nt=true)(hx:s.get x= .msl id gen size off len)(hy:VLe (s.get y) (.t (.sl news)))(hH:s.H id=some (.arr e' gen size rows))(ht:K.P.underlying t=some (.slice e))
  (he:TI K.P e u z size bytes) (hp:0<size) (hs': ∀row,row∈news→row.length=size) (hl:off+len≤rows.length):
  OpJ K ⟨d,.call {callee:= .builtin .copy,args:= #[x,y],argTypes:= #[t,t']},ty,pos,af,g⟩ s
   (({s with H:=upd s.H id (some (.arr e' gen size (rows.take off++news.take (Nat.min news.length len)++rows.drop (off+Nat.min news.length len))))}:S).put d (.t (.int .i64 (Nat.min news.length len:Nat)))):=by
 intro β a w next Q hr hk
 have hxv:=hr.get x;rw [hx] at hxv;have hyv:=hy _ _ _ _ (hr.get y);have hre:=(hr.heap id _ hH).2;obtain⟨q,hq⟩:=iJ hre;obtain⟨_,i,hi1,hi2,hi3,hi4⟩:=he;unfold Oper.wp;have hxs: ∃base c1,a.eval x= .slice base len c1:=by
  rcases bS hxv hq with ⟨cap,b,n,ty',hxe,_⟩|⟨_,_,h0,hxe⟩
  ·exact⟨_,cap,hxe⟩
  subst h0;exact⟨none,0,hxe⟩
 have hsrc:=zK hyv hs' hp;have hys: ∃sb c2,a.eval y= .slice sb news.length c2:=by
  rcases hsrc with (⟨hye,hn⟩|⟨b,off,cap,us,hye,_⟩)|⟨hn,ad,cap,hye⟩
  ·subst hn;exact⟨none,0,hye⟩
  ·exact⟨_,_,hye⟩
  subst hn;exact⟨ad,cap,hye⟩
 obtain⟨m,hm⟩: ∃m,m=Nat.min news.length len:=⟨_,rfl⟩
 rw [←hm] at hk;by_cases hm0:m=0
 ·subst hm0;obtain⟨base,c1,hxe⟩:=hxs;obtain⟨sb,c2,hye⟩:=hys;have hrun:(execOp a.eval ⟨d,.call {callee:= .builtin .copy,args:= #[x,y],argTypes:= #[t,t']},ty,pos,af,g⟩).run K.P w= .ok (.value (goInt ((0:Nat):Int))) w:=by
   cases base<;>cases sb<;>simp [execOp,resolve,invoke,builtin,hxe,hye,Builtin.copy_,run_underlying ht,sizeOf,typeInfo,hi1,Builtin.lenOf,Builtin.firstCells,←hm,loadCells,loadCellsFrom,storeCells]
  rw [hrun]
  have:rows.take off++news.take 0++rows.drop (off+0)=rows:=by simp
  rw [this] at hk;exact hk β _ _ ((hr.sameH id _ hH).put d hd (.t _ _ (.int _ _)))
 have hmle:m≤len:=by rw [hm];exact Nat.min_le_right _ _
 have hmle2:m≤news.length:=by rw [hm];exact Nat.min_le_left _ _
 rcases hsrc with (⟨_,hn⟩|⟨b2,off2,cap2,ws,hye,hwl,hwc,hw1,hwr⟩)|⟨hn,_⟩
 ·subst hn;simp at hmle2;exact absurd hmle2 hm0
 ·rcases bS hxv hq with ⟨cap,b,n,ty',hxe,hb0,hw,hs,hn,hlc,hmm⟩|⟨_,_,h0,_⟩
  ·subst hb0;rcases hre.2 with ⟨h1,_⟩|⟨b3,us,h1,h2,h3,h4,h5⟩
   ·rw [hq] at h1;cases h1
   rw [hq] at h1;cases h1;have hcl:(ws.take (m*size)).length=m*size:=by rw [vP,hwl];have:=lU size hmle2;omega
   have hfit:off*size+m*size≤us.size:=by
    have:(off+m)*size≤rows.length*size:=lU _ (by omega);rw [mX] at this;omega
   have hld:=run_loadCells_list (P:=K.P) w ⟨b2,off2,none⟩ (ws.take (m*size)) (fun j y hj=>by
    rw [cW];rw [N6] at hj;split at hj
    ·exact hwc j y hj
    cases hj)
   have hst:=run_storeCells_at K.P b (off*size) e' (ws.take (m*size)) 0 us w h2 (by rw [hcl];omega) fun v hv=>hw1 v (vAz hv);simp only [Nat.add_zero] at hst;rw [hcl] at hld;have hrun:(execOp a.eval ⟨d,.call {callee:= .builtin .copy,args:= #[x,y],argTypes:= #[t,t']},ty,pos,af,g⟩).run K.P w= .ok (.value (goInt (m:Int))) (w.setRow b (us.toList.take (off*size)++ws.take (m*size)++us.toList.drop (off*size+(ws.take (m*size)).length)).toArray):=by
    simp [execOp,resolve,invoke,builtin,hxe,hye,Builtin.copy_,run_underlying ht,sizeOf,typeInfo,hi1,hi3,Builtin.lenOf,Builtin.firstCells,←hm,hld,hst]
   rw [hrun];have hsz:(us.toList.take (off*size)++ws.take (m*size)++us.toList.drop (off*size+(ws.take (m*size)).length)).toArray.size=us.size:=by
    have h2: ∀l:List Value,l.toArray.size=l.length:=fun l=>by simp
    rw [h2];simp only [List.length_append,hcl,List.length_take,List.length_drop,Array.length_toList];omega
   have hlen:(rows.take off++news.take m++rows.drop (off+m)).length=rows.length:=by simp;omega
   have hb':own K β s.H b:= .inr ⟨id,by rw [hH];simp,.inl ⟨_,hq⟩⟩;refine hk β _ _ (Rel.put (Rel.setRow hr id b (.inl ⟨_,hq⟩) us e' h2 _ hsz (.arr e' gen size (rows.take off++news.take m++rows.drop (off+m))) (by rw [hH];simp)
    ⟨hre.1,Or.inr ⟨b,_,hq,setRow_heap _ _ _ _ _ _ h2,by rw [hsz,hlen];exact h3,fun row hrow=>?_,fun i j row x u a1 a2 a3=>?_⟩⟩) d hd (.t _ _ (.int _ _)))
   ·rw [E2,E2] at hrow;rcases hrow with (hrow|hrow)|hrow
    ·exact h4 row (vAz hrow)
    ·exact hs' row (vAz hrow)
    exact h4 row (vAL hrow)
   have h9:=aFi (off:=off) (m:=m) (us:=us.toList) (cs:=ws.take (m*size)) (by omega) (by simpa using h3) hcl hmle2 h4 hs' (R:=fun x u=>RT w (own K β s.H) x u) (fun i j row x u b1 b2 b3=>h5 i j row x u b1 b2 (by simpa using b3))
    (fun i j row x u b1 b2 b3=>by
     rw [N6] at b3;split at b3
     ·exact hwr i j row x u b1 b2 b3
     cases b3) i j row x u a1 a2 (by simpa using a3)
   refine h9.mono ⟨rfl,rfl,rfl,by simp,fun kk _ hx=>setRow_other _ _ _ _ fun e0=>hx ?_⟩ fun _ _ h=>h;subst e0;exact hb'
  omega
 subst hn;simp at hmle2;exact absurd hmle2 hm0
end steps
end Go.Lift
