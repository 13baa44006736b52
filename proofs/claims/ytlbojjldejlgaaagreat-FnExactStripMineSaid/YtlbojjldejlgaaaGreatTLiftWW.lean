/- The evaluator of effects. -/
import Derived.Test.YtlbojjldejlgaaaGreatTLiftV
namespace Go.Lift
open Go
def PCC(P:Program)(G:Glob)(f:FuncId)(args:List V)(r:V):Prop:=hJ P f∧PC P G f args r
def VCC(P:Program)(G:Glob)(f:FuncId)(inn:List E)(args:List V)(r:V)(out:List E):Prop:=
 hJ P f∧VC P G f inn args (ι:=Unit) (fun _=>True) (fun _=>r) fun _=>out
def iN(d:Option Tmp)(v:V):List (Nat×V):=match d with
 |some d=>[(d,v)]
 |none=>[]
def dOk(nt:Nat):Option Tmp→Bool
 |some d=>Nat.blt d nt
 |none=>true
theorem eB{K:Ctx}{d:Option Tmp}(h:dOk K.nt d=true): ∀i,d=some i→Nat.blt i K.nt=true:=by intro i hi;subst hi;exact h
def nzT:T→T
 | .nilS=> .sl []
 |x=>x
theorem RT.nz{w:World}{X:Nat→Prop}{x:T}{v:Value}(h:RT w X x v):RT w X (nzT x) v:=by
 cases h with
 |nilS=>exact .sl0 _ _
 |bool b=>exact .bool b
 |int k n=>exact .int k n
 |str l=>exact .str l
 |sl0 a cap=>exact .sl0 a cap
 |sl rows b off size cap f hb hX hcap hsz hc hr=>exact .sl rows b off size cap f hb hX hcap hsz hc hr
 |nilP=>exact .nilP
 |nilI=>exact .nilI
 |nilF=>exact .nilF
 |err t v=>exact .err t v
theorem aIV{β:Map}{w:World}{X:Nat→Prop}{id:Nat}{ty:TypeId}{gen size m:Nat}{z:List T}(h:RE β w X id (.arr ty gen size (List.replicate m z))):RE β w X id (.arr ty gen size (List.replicate m (z.map nzT))):=by
 refine⟨h.1,?_⟩;rcases h.2 with ⟨h1,h2⟩|⟨b,us,h1,h2,h3,h4,h5⟩
 ·have:m=0:=by simpa using h2
  subst this;exact .inl ⟨h1,rfl⟩
 refine .inr ⟨b,us,h1,h2,by simpa using h3,fun row hr=>?_,fun i j row x u hr hx hu=>?_⟩
 ·obtain⟨hm,rfl⟩:=vBa.1 hr;rw [I2];exact h4 z (vBa.2 ⟨hm,rfl⟩)
 rw [vBg] at hr;split at hr
 ·cases hr;rw [zG] at hx;cases hz:z[j]? with
  |none=>rw [hz] at hx;simp at hx
  |some y=>
   rw [hz] at hx;simp at hx;subst hx;exact(h5 i j z y u (by rw [vBg,if_pos ‹_›]) hz hu).nz
 cases hr
def pT(size:Nat):Nat→List T→List (List T)
 |0,_=>[]
 |n+1,l=>l.take size::pT size n (l.drop size)
theorem xX(size:Nat): ∀(n:Nat) (l:List T),l.length=n*size→(pT size n l).length=n∧(∀row,row∈pT size n l→row.length=size)∧(pT size n l).flatten=l
 |0,l,h=>by
  have:l=[]:=by simpa using h
  subst this;exact⟨rfl,fun _ h=>by simp [pT] at h,rfl⟩
 |n+1,l,h=>by
  rw [jJ] at h;obtain⟨h1,h2,h3⟩:=xX size n (l.drop size) (by simp;omega);refine⟨by simp [pT,h1],?_,by simp [pT,h3]⟩;intro row hr;simp only [pT,List.mem_cons] at hr;rcases hr with rfl|hr
  ·simp;omega
  exact h2 row hr
structure Cfg where
 P:Program
 G:Glob
 Ty:List (Nat×TyI)
 nt:Nat
 n0:Nat
 β0:Map
def aAe(id:Nat):List Nat→Nat→Option Nat
 | [],_=>none
 |x::r,k=>bif Nat.beq x id then some k else aAe id r (k+1)
theorem xN{id:Nat}: ∀{L:List Nat} {k m:Nat},aAe id L k=some m→k≤m∧L[m-k]? =some id
 | [],_,_,h=>by cases h
 |x::r,k,m,h=>by
  simp only [aAe] at h;cases hb:Nat.beq x id with
  |true=>rw [hb] at h;cases h;rw [fV hb];exact⟨kF _,by simp⟩
  |false=>
   rw [hb] at h;obtain⟨h1,h2⟩:=xN (L:=r) (k:=k+1) h;refine⟨by omega,?_⟩;rw [show m-k=(m-(k+1))+1 by omega];simpa using h2
mutual
def unV(L:List Nat):V→Option V
 | .ref id off=>match aAe id L 0 with
  |some k=>some (.ref k off)
  |none=>none
 | .msl id gen size off len=>match aAe id L 0 with
  |some k=>some (.msl k gen size off len)
  |none=>none
 | .fn f cs=>match unL L cs with
  |some cs=>some (.fn f cs)
  |none=>none
 | .eref id gen size i off=>match aAe id L 0 with
  |some k=>some (.eref k gen size i off)
  |none=>none
 | .t x=>some (.t x)
 | .tp x=>some (.tp x)
 | .agg cs=>match unL L cs with
  |some cs=>some (.agg cs)
  |none=>none
 |_=>none
def unL(L:List Nat):List V→Option (List V)
 | []=>some []
 |c::cs=>match unV L c,unL L cs with
  |some c,some cs=>some (c::cs)
  |_,_=>none
end
mutual
theorem aLl{L:List Nat}: ∀(v v':V),unV L v=some v'→v'.ren L=v∧v'.ok (cA L.length)=true
 | .ref id off,v',h=>by
  simp only [unV] at h;split at h
  ·rename_i k hk;cases h;obtain⟨_,h2⟩:=xN hk;simp only [Nat.sub_zero] at h2;have hlt:=(cC.1 h2).1;exact⟨by simp [V.ren,List.getD_eq_getElem?_getD,h2],bX.2 hlt⟩
  cases h
 | .msl id gen size off len,v',h=>by
  simp only [unV] at h;split at h
  ·rename_i k hk;cases h;obtain⟨_,h2⟩:=xN hk;simp only [Nat.sub_zero] at h2;have hlt:=(cC.1 h2).1;exact⟨by simp [V.ren,List.getD_eq_getElem?_getD,h2],bX.2 hlt⟩
  cases h
 | .eref id gen size i off,v',h=>by
  simp only [unV] at h;split at h
  ·rename_i k hk;cases h;obtain⟨_,h2⟩:=xN hk;simp only [Nat.sub_zero] at h2;have hlt:=(cC.1 h2).1;exact⟨by simp [V.ren,List.getD_eq_getElem?_getD,h2],bX.2 hlt⟩
  cases h
 | .fn f cs,v',h=>by
  simp only [unV] at h;split at h
  ·rename_i cs' hcs;cases h;obtain⟨h1,h2⟩:=I4 cs cs' hcs;exact⟨by simp [V.ren,h1],by simpa [V.ok] using h2⟩
  cases h
 | .agg cs,v',h=>by
  simp only [unV] at h;split at h
  ·rename_i cs' hcs;cases h;obtain⟨h1,h2⟩:=I4 cs cs' hcs;exact⟨by simp [V.ren,h1],by simpa [V.ok] using h2⟩
  cases h
 | .t x,v',h=>by cases h;exact⟨rfl,rfl⟩
 | .tp x,v',h=>by cases h;exact⟨rfl,rfl⟩
 | .tup _,_,h| .junk,_,h=>by cases h
theorem I4{L:List Nat}: ∀(cs cs':List V),unL L cs=some cs'→fU L cs'=cs∧f8 (cA L.length) cs'=true
 | [],_,h=>by cases h;exact⟨rfl,rfl⟩
 |c::cs,cs',h=>by
  simp only [unL] at h;split at h
  ·rename_i c' cs2 h1 h2;cases h;obtain⟨a1,a2⟩:=aLl c c' h1;obtain⟨b1,b2⟩:=I4 cs cs2 h2;exact⟨by simp [fU,a1,b1],by simp [f8,a2,b2]⟩
  cases h
end
def aAd(L:List Nat)(H:Nat→Option E):List Nat→Option (List E)
 | []=>some []
 |id::ids=>match H id with
  |some (.cells cs)=>match unL L cs,aAd L H ids with
   |some cs,some es=>some (.cells cs::es)
   |_,_=>none
  |some (.arr ty gen size rows)=>match aAd L H ids with
   |some es=>some (.arr ty gen size rows::es)
   |none=>none
  |some (.tree Γ m gen rows [])=>match aAd L H ids with
   |some es=>some (.tree Γ m gen rows []::es)
   |none=>none
  |some (.tree _ _ _ _ (_::_))=>none
  |none=>none
theorem xM{L:List Nat}{H:Nat→Option E}: ∀(ids:List Nat) (inn:List E),aAd L H ids=some inn→inn.length=ids.length∧ ∀(k:Nat) (e:E),inn[k]? =some e→ ∃id,ids[k]? =some id∧H id=some (e.ren L)∧e.ok (cA L.length)=true
 | [],_,h=>by cases h;exact⟨rfl,fun k e h=>by simp at h⟩
 |id::ids,inn,h=>by
  simp only [aAd] at h;split at h
  ·rename_i cs hid;split at h
   ·rename_i cs' es h1 h2;cases h;obtain⟨a1,a2⟩:=xM ids es h2;obtain⟨u1,u2⟩:=I4 cs cs' h1;refine⟨by simp [a1],fun k e he=>?_⟩;cases k with
    |zero=>simp at he;subst he;exact⟨id,rfl,by rw [hid];simp only [E.ren,u1],u2⟩
    |succ k=>simp at he;obtain⟨id',b1,b2⟩:=a2 k e he;exact⟨id',by simpa using b1,b2⟩
   cases h
  ·rename_i ty gen size rows hid;split at h
   ·rename_i es h2;cases h;obtain⟨a1,a2⟩:=xM ids es h2;refine⟨by simp [a1],fun k e he=>?_⟩;cases k with
    |zero=>simp at he;subst he;exact⟨id,rfl,hid,rfl⟩
    |succ k=>simp at he;obtain⟨id',b1,b2⟩:=a2 k e he;exact⟨id',by simpa using b1,b2⟩
   cases h
  ·rename_i Γ m gen rows hid;split at h
   ·rename_i es h2;cases h;obtain⟨a1,a2⟩:=xM ids es h2;refine⟨by simp [a1],fun k e he=>?_⟩;cases k with
    |zero=>simp at he;subst he;exact⟨id,rfl,hid,rfl⟩
    |succ k=>simp at he;obtain⟨id',b1,b2⟩:=a2 k e he;exact⟨id',by simpa using b1,b2⟩
   cases h
  ·cases h
  cases h
def aA4(id:Nat):List Nat→Bool
 | []=>true
 |x::l=>bif Nat.beq x id then false else aA4 id l
theorem aAl{id:Nat}: ∀{l:List Nat},aA4 id l=true→id∉l
 | [],_,h=>by cases h
 |x::l,h,hm=>by
  simp only [aA4] at h;cases hb:Nat.beq x id with
  |true=>rw [hb] at h;cases h
  |false=>
   rw [hb] at h;rcases qE.1 hm with rfl|hm
   ·simp at hb
   exact aAl h hm
def aAX:List Nat→Bool
 | []=>true
 |x::l=>aA4 x l&&aAX l
theorem uK: ∀{l:List Nat},aAX l=true→l.Nodup
 | [],_=>List.nodup_nil
 |x::l,h=>by simp only [aAX,Bool.and_eq_true] at h;exact List.nodup_cons.2 ⟨aAl h.1,uK h.2⟩
def yO(u:Nat→Bool):List Nat→Bool
 | []=>true
 |x::l=> !u x&&yO u l
theorem D5{u:Nat→Bool}: ∀{l:List Nat},yO u l=true→ ∀id,id∈l→u id=false
 | [],_,_,h=>by cases h
 |x::l,h,id,hm=>by
  simp only [yO,Bool.and_eq_true,Bool.not_eq_true'] at h;rcases qE.1 hm with rfl|hm
  ·exact h.1
  exact D5 h.2 id hm
theorem I3{u:Nat→Bool}{id:Nat}: ∀{l:List Nat},id∈l→cF u (l.map fun k=>(k,true)) id=true
 |x::l,h=>by
  simp only [List.map_cons,cF];by_cases hm:id∈l
  ·rw [F8 _ _ u _ ⟨true,vAT.2 ⟨id,hm,rfl⟩⟩];exact I3 hm
  rcases qE.1 h with rfl|h
  ·rw [fW _ _ _ (fun v hv=>hm (by obtain⟨y,hy,e⟩:=vAT.1 hv;cases e;exact hy)),aI]
  exact absurd h hm
theorem H3{α:Type}: ∀(L:List Nat),L.Nodup→ ∀(f:Nat→α) (xs:List α) (g:Nat→α),xs.length=L.length→(∀(k:Nat) x,xs[k]? =some x→g k=x)→cF f (L.zip xs)=jQ f L g
 | [],_,f,xs,g,_,_=>by simp [cF,jQ]
 |l::L,hn,f,[],g,h,_=>by simp at h
 |l::L,hn,f,x::xs,g,h,hg=>by
  simp only [List.nodup_cons] at hn;simp only [List.zip_cons_cons,cF,jQ];rw [H3 L hn.2 (upd f l x) xs (fun k=>g (k+1)) (by simpa using h) (fun k y hy=>hg (k+1) y (by simpa using hy)),hg 0 x rfl];funext i;by_cases hi:i=l
  ·subst hi;rw [d7 hn.1,aI,aI]
  rw [aH _ _ _ _ hi];by_cases hm:i∈L
  ·obtain⟨k,hk⟩:=vAG.1 hm;rw [gB hn.2 hk,gB hn.2 hk]
  rw [d7 hm,d7 hm,aH _ _ _ _ hi]
abbrev JR:=Option (Eff×List Ob×List Hn)
def aAp(d:Option Tmp)(u:Nat→Bool)(v:V)(hs:List Hn):JR:=
 match hs with
 | .nat k::hs=>match u k,v.val with
  |false,true=>some (⟨iN d (.ref k 0),[(k,some (.cells v.cs))],[(k,true)]⟩,[],hs)
  |_,_=>none
 |_=>none
def aEl(d:Option Tmp)(v:V)(hs:List Hn):JR:=
 match hs with
 | .b true::hs=>match (nzV v).val,zH (nzV v).cs with
  |true,some xs=>some (⟨iN d (.tp xs),[],[]⟩,[],hs)
  |_,_=>none
 |_=>none
def isB:List Hn→Bool
 | .b true::_=>true
 |_=>false
def aA7(C:Cfg)(t:TypeId)(H:Nat→Option E)(a v:V)(hs:List Hn):JR:=
 match bM C.Ty t with
 |none=>none
 |some i=>match a with
  | .ref id off=>match H id with
   |some (.cells cs)=>match v.val,nT v.cs,Nat.beq v.cs.length i.size,Nat.ble (off+i.size) cs.length with
    |true,true,true,true=>some (⟨[],[(id,some (.cells (splice cs off v.cs)))],[]⟩,[],hs)
    |_,_,_,_=>none
   |_=>none
  | .eref id gen sz k off=>match H id,zH (nzV v).cs,hs with
   |some (.arr e gen' sz' rows),some vs,.row r:: .rows rows'::hs=>match (nzV v).val,Nat.beq vs.length i.size,Nat.ble (off+i.size) sz with
    |true,true,true=>some (⟨[],[(id,some (.arr e gen' sz' rows'))],[]⟩,
      [.q gen' gen,.q sz' sz,.p (rows[k]? =some r),.p (rows'=rows.set k (r.take off++vs++r.drop (off+vs.length)))],hs)
    |_,_,_=>none
   |_,_,_=>none
  |_=>none
def Y2(k off n:Nat):List (Nat×Nat×V)→List Ob
 | []=>[]
 |h::hs=>bif Nat.ble off h.2.1&&Nat.blt h.2.1 (off+n) then .q h.1 k::Y2 k off n hs else Y2 k off n hs
def Y3(k off n:Nat):List (Nat×Nat×V)→List Ob
 | []=>[]
 |h::hs=>bif Nat.ble off h.2.1&&Nat.blt h.2.1 (off+n) then .p (h.1≠k)::Y3 k off n hs else Y3 k off n hs
def N5(C:Cfg)(t:TypeId)(H:Nat→Option E)(a v:V)(hs:List Hn):JR:=
 match bM C.Ty t,a,hs with
 |some i,.eref id gen sz k off,.row r::hs=>match H id with
  |some (.tree Γ m gen' rows ho)=>match v.val&&(nT v.cs&&(Nat.beq v.cs.length i.size&&(Nat.ble (off+i.size) r.length&&Nat.blt 0 i.size))),wB ho off i.size with
   |true,some l=>some (⟨[],[(id,some (.tree Γ m gen' rows (C3 off v.cs ho)))],[]⟩,.q gen' gen:: .q (ndOf Γ m).size sz:: .p (rows[k]? =some r)::(M2 k l++Y2 k off i.size ho),hs)
   |_,_=>none
  |_=>none
 |some i,.eref id gen sz k off,.int q:: .nat n:: .row r::hs=>match H id with
  |some (.tree Γ m gen' rows ho)=>match v.val&&(nT v.cs&&(Nat.beq v.cs.length i.size&&(Nat.ble (off+i.size) r.length&&Nat.blt 0 i.size))),wB ((ho.drop q.toNat).take n) off i.size with
   |true,some l=>some (⟨[],[(id,some (.tree Γ m gen' rows (ho.take q.toNat++(C3 off v.cs ((ho.drop q.toNat).take n)++(ho.drop q.toNat).drop n))))],[]⟩,
     .q gen' gen:: .q (ndOf Γ m).size sz:: .p (rows[k]? =some r)::(M2 k l++(Y2 k off i.size ((ho.drop q.toNat).take n)++(Y3 k off i.size (ho.take q.toNat)++Y3 k off i.size ((ho.drop q.toNat).drop n)))),hs)
   |_,_=>none
  |_=>none
 |_,_,_=>none
def L7(z:List T):List (Nat×Nat)→Bool
 | []=>true
 |p::l=>(match z[p.1]? with|some .nilS=>true|_=>false)&&L7 z l
def aEa(C:Cfg)(d:Option Tmp)(t:TypeId)(u:Nat→Bool)(v w:V)(hs:List Hn):JR:=
 match bM C.Ty t with
 |none=>none
 |some i=>match i.u with
  | .slice e=>match bM C.Ty e with
   |none=>none
   |some j=>match v,w,hs,zH (cP j.z).cs with
    | .t (.int .i64 n),.t (.int .i64 m),.nat k:: .rows R::hs,some z0=>match u k,(cP j.z).val,Nat.beq z0.length j.size,Nat.blt 0 j.size&&Nat.ble j.bytes 200000 with
     |false,true,true,true=>some (⟨iN d (.msl k 1 j.size 0 R.length),[(k,some (.arr e 1 j.size R))],[(k,true)]⟩,[.q n.toNat m.toNat,.p (mk n (z0.map nzT)=some R),.p (0≤m)],hs)
     |_,_,_,_=>none
    | .t (.int .i64 n),.t (.int .i64 m),.nat k:: .tre _ Γ q:: .rows R::hs,some z0=>match u k,(cP j.z).val&&L7 z0 (ndOf Γ q).kids,Nat.beq z0.length j.size,Nat.blt 0 j.size&&Nat.ble j.bytes 200000 with
     |false,true,true,true=>some (⟨iN d (.msl k 1 j.size 0 R.length),[(k,some (.tree Γ q 1 R []))],[(k,true)]⟩,[.q (ndOf Γ q).ty e,.q (ndOf Γ q).size j.size,.q n.toNat m.toNat,.p (mk n (z0.map nzT)=some R),.p (0≤m)],hs)
     |_,_,_,_=>none
    |_,_,_,_=>none
  |_=>none
def N8(C:Cfg)(d:Option Tmp)(t t':TypeId)(H:Nat→Option E)(v w:V)(hs:List Hn):JR:=
 match bM C.Ty t with
 |none=>none
 |some i=>match i.u with
  | .slice e=>match bM C.Ty e with
   |none=>none
   |some j=>match v,nzV w,hs with
    | .msl k gen size off len,.t (.sl news),.rows R::hs=>match H k with
     |some (.arr e' gen' size' rows)=>match Nat.beq off 0,Nat.beq j.z.cells.size j.size&&(Nat.blt 0 j.size&&Nat.ble j.bytes 140000),Nat.beq e' e&&Nat.beq t' t with
      |true,true,true=>some (⟨iN d (.msl k (gen'+1) size 0 R.length),[(k,some (.arr e' (gen'+1) size' R))],[]⟩,
        [.q gen' gen,.q size' size,.q size j.size,.q len rows.length,.p (app rows news=some R),.p (Rows j.size rows),.p (Rows j.size news)],hs)
      |_,_,_=>none
     |_=>none
    |_,_,_=>none
  |_=>none
def A5(C:Cfg)(d:Option Tmp)(t t':TypeId)(H:Nat→Option E)(v w:V)(hs:List Hn):JR:=
 match bM C.Ty t with
 |none=>none
 |some i=>match i.u with
  | .slice e=>match bM C.Ty e with
   |none=>none
   |some j=>match v,w,hs with
    | .msl k gen size off len,.msl k3 g3 z3 o3 n3,.rows R::hs=>match H k,H k3 with
     |some (.tree Γ m gen' rows []),some (.tree Γ3 m3 g3' (n0::news) hs3)=>match Nat.beq off 0&&Nat.beq o3 0,Nat.beq j.z.cells.size j.size&&(Nat.blt 0 j.size&&Nat.ble j.bytes 140000),Nat.beq t' t&&(xW (ndOf Γ m) (news.length+1) hs3&&zQ hs3) with
      |true,true,true=>some (⟨iN d (.msl k (gen'+1) size 0 R.length),[(k,some (.tree Γ m (gen'+1) R (jK rows.length hs3)))],[]⟩,
        [.q gen' gen,.q g3' g3,.q z3 size,.q size j.size,.q (ndOf Γ m).size size,.q (ndOf Γ m).ty e,.q n3 (news.length+1),.q len rows.length,.p (ndOf Γ3 m3=ndOf Γ m),.p (app rows (n0::news)=some R),.p (Rows j.size rows),.p (Rows j.size (n0::news))],hs)
      |_,_,_=>none
     |some (.arr e' gen' size' rows),some _=>match Nat.beq k3 k&&Nat.beq off 0,Nat.beq e' e&&(Nat.beq t' t&&Nat.blt 0 j.size) with
      |true,true=>some (⟨iN d (.msl k gen size 0 (len+n3)),[(k,some (.arr e' gen' size' R))],[]⟩,
        [.q gen' gen,.q g3 gen,.q size' size,.q z3 size,.q j.size size,.p (len+n3≤rows.length),.p (o3+n3≤rows.length),.p (R=rows.take len++(rows.drop o3).take n3++rows.drop (len+n3))],hs)
      |_,_=>none
     |_,_=>none
    | .msl k gen size off len,.t (.sl []),.int 0::hs=>match H k with
     |some (.arr _ gen' size' _)=>match Nat.beq off 0&&Nat.blt 0 j.size,Nat.beq t' t with
      |true,true=>some (⟨iN d (.msl k gen size 0 len),[],[]⟩,[.q gen' gen,.q size' size,.q j.size size],hs)
      |_,_=>none
     |_=>none
    |_,_,_=>none
  |_=>none
def sD(d:Nd):Nat→List V→Option (List T×List (Nat×Nat×V))
 |_,[]=>some ([],[])
 |j,v::vs=>match sD d (j+1) vs with
  |none=>none
  |some (r,hs)=>match d.kid j with
   |some _=>bif v.one then some (.sl []::r,(0,j,v)::hs) else none
   |none=>match toT v with
    |some x=>some (x::r,hs)
    |none=>none
def D2:Nat→List V→List (Nat×Nat×V)
 |_,[]=>[]
 |i,v::vs=>(i,0,v)::D2 (i+1) vs
def aEc(C:Cfg)(d:Option Tmp)(t:TypeId)(n:Nat)(is:List Nat)(u:Nat→Bool)(vals:List V)(hs:List Hn):JR:=
 match bM C.Ty t with
 |none=>none
 |some i=>match i.u with
  | .slice e=>match bM C.Ty e with
   |none=>none
   |some j=>match n,hs with
    |1,.lt k Γ m::hs=>match nN (fun i=>some (i*j.size,j.size)) (List.replicate (1*j.size) .junk) (is.zip (aF3 ((ndOf Γ m).kid 0) vals)) with
     |none=>none
     |some cs=>match sD (ndOf Γ m) 0 cs with
      |none=>none
      |some (r,ho)=>match u k,Nat.beq cs.length j.size&&Nat.beq (ndOf Γ m).size j.size,Nat.beq is.length vals.length&&Nat.beq (ndOf Γ m).ty e,Nat.ble (1*j.size) 16777216,Nat.blt 0 j.size with
       |false,true,true,true,true=>some (⟨iN d (.msl k 1 j.size 0 1),[(k,some (.tree Γ m 1 [r] ho))],[(k,true)]⟩,[],hs)
       |_,_,_,_,_=>none
    |n,.lt k Γ m::hs=>match nN (fun i=>some (i*j.size,j.size)) (List.replicate (n*j.size) .junk) (is.zip (G6 vals)) with
     |none=>none
     |some cs=>match u k,Nat.beq j.size 1&&(Nat.beq cs.length n&&nT cs),Nat.beq is.length vals.length&&(Nat.beq (ndOf Γ m).ty e&&Nat.beq (ndOf Γ m).size 1),Nat.ble (n*j.size) 16777216,Nat.blt 0 n with
      |false,true,true,true,true=>some (⟨iN d (.msl k 1 1 0 n),[(k,some (.tree Γ m 1 (List.replicate n [.sl []]) (D2 0 cs)))],[(k,true)]⟩,[],hs)
      |_,_,_,_,_=>none
    |_,_=>none
  |_=>none
def aIe(C:Cfg)(d:Option Tmp)(t:TypeId)(n:Nat)(is:List Nat)(u:Nat→Bool)(vals:List V)(hs:List Hn):JR:=
 match bM C.Ty t with
 |none=>none
 |some i=>match i.u with
  | .slice e=>match bM C.Ty e with
   |none=>none
   |some j=>match n,is,hs with
    |0,[],.nat k::hs=>match u k with
     |false=>some (⟨iN d (.msl k 1 j.size 0 0),[(k,some (.arr e 1 j.size []))],[(k,true)]⟩,[],hs)
     |true=>none
    |n,is,.int 1:: .nat k::hs=>match nN (fun i=>some (i*j.size,j.size)) (List.replicate (n*j.size) .junk) (is.zip (G6 vals)) with
     |none=>none
     |some cs=>match zH cs with
      |none=>none
      |some xs=>match u k,Nat.beq xs.length (n*j.size),Nat.beq is.length vals.length,Nat.ble (n*j.size) 16777216,Nat.blt 0 j.size with
       |false,true,true,true,true=>some (⟨iN d (.msl k 1 j.size 0 (pT j.size n xs).length),[(k,some (.arr e 1 j.size (pT j.size n xs)))],[(k,true)]⟩,[],hs)
       |_,_,_,_,_=>none
    |n,is,.int 2:: .rows R::hs=>match nN (fun i=>some (i*j.size,j.size)) (List.replicate (n*j.size) .junk) (is.zip (G6 vals)) with
     |none=>none
     |some cs=>match zH cs with
      |none=>none
      |some xs=>match Nat.beq xs.length (n*j.size),Nat.beq is.length vals.length,Nat.ble (n*j.size) 16777216 with
       |true,true,true=>some (⟨iN d (.t (.sl R)),[],[]⟩,[.p (pT j.size n xs=R)],hs)
       |_,_,_=>none
    |n,is,.int 0::hs=>match nN (fun i=>some (i*j.size,j.size)) (List.replicate (n*j.size) .junk) (is.zip (G6 vals)) with
     |none=>none
     |some cs=>match zH cs with
      |none=>none
      |some xs=>match Nat.beq xs.length (n*j.size),Nat.beq is.length vals.length,Nat.ble (n*j.size) 16777216 with
       |true,true,true=>some (⟨iN d (.t (.sl (pT j.size n xs))),[],[]⟩,[],hs)
       |_,_,_=>none
    |_,_,_=>none
  |_=>none
mutual
def N1:V→Bool
 | .t (.int _ _)| .t (.bool _)| .t (.str _)=>true
 | .agg cs=>aAm cs
 | .tup cs=>aAm cs
 |_=>false
def aAm:List V→Bool
 | []=>true
 |c::cs=>N1 c&&aAm cs
end
def aIM(H:Nat→Option E):V→Option (T×List Ob)
 | .msl k gen size off len=>match H k with
  |some (.arr _ gen' size' rows)=>some (.sl rows,[.q gen gen',.q size size',.q off 0,.q len rows.length])
  |some (.tree Γ m gen' rows [])=>some (.sl rows,[.q gen gen',.q size (ndOf Γ m).size,.q off 0,.q len rows.length])
  |_=>none
 | .t x=>some (nzT x,[])
 |_=>none
def aFF(H:Nat→Option E):List V→Option (List T×List Ob)
 | []=>some ([],[])
 |v::vs=>match aIM H v,aFF H vs with
  |some (x,φ),some (xs,ψ)=>some (x::xs,φ++ψ)
  |_,_=>none
mutual
def R2(H:Nat→Option E):V→Option (V×List Ob)
 | .msl k gen size off len=>match aIM H (.msl k gen size off len) with
  |some (x,φ)=>some (.t x,φ)
  |none=>none
 | .t x=>some (.t (nzT x),[])
 | .tp cs=>some (.tp cs,[])
 | .ref id off=>match H id with
  |some (.cells cs)=>match aFF H cs with
   |some (ts,φ)=>some (.tp (ts.drop off),φ)
   |none=>none
  |_=>none
 | .agg cs=>match aBu H cs with
  |some (xs,φ)=>some (.agg xs,φ)
  |none=>none
 | .tup cs=>match aBu H cs with
  |some (xs,φ)=>some (.tup xs,φ)
  |none=>none
 | .fn f cs=>match aBu H cs with
  |some (xs,φ)=>some (.fn f xs,φ)
  |none=>none
 | .eref _ _ _ _ _=>none
 | .junk=>none
def aBu(H:Nat→Option E):List V→Option (List V×List Ob)
 | []=>some ([],[])
 |v::vs=>match R2 H v,aBu H vs with
  |some (x,φ),some (xs,ψ)=>some (x::xs,φ++ψ)
  |_,_=>none
end
def aKO:List Hn→List Hn
 | .nat _::hs=>aKO hs
 |hs=>hs
def aIv(C:Cfg)(d:Option Tmp)(H:Nat→Option E)(vals:List V)(hs:List Hn):JR:=
 match vals with
 | .fn f caps::args=>match aKO (hs.drop 1) with
  | .v r::hs=>match aBu H (args++caps),N1 r with
   |some (xs,φ),true=>some (⟨iN d r,[],[]⟩,φ++[.p (PCC C.P C.G f xs r)],hs)
   |_,_=>none
  |_=>none
 |_=>none
def aEj(C:Cfg)(d:Option Tmp)(vals:List V)(hs:List Hn):JR:=
 match vals with
 | .fn f caps::args=>match hs with
  | .v r::hs=>match f8 gI (G6 (args++caps)) with
   |true=>some (⟨iN d r,[],[]⟩,[.p (PCC C.P C.G f (G6 (args++caps)) r)],hs)
   |false=>none
  | .nat _:: .v r::hs=>some (⟨iN d r,[],[]⟩,[.p (f8 gI (G6 (args++caps))=true),.p (PCC C.P C.G f (G6 (args++caps)) r)],hs)
  |_=>none
 |_=>none
def aLU(C:Cfg)(d:Option Tmp)(vals:List V)(H:Nat→Option E)(u:Nat→Bool)(hs:List Hn):JR:=
 match vals with
 | .fn f caps::args=>match hs with
  | .vc L news r out::hs=>match unL L (G6 (args++caps)),aAd L H L,aAX (L++news)&&yO u news&&Nat.beq out.length (L++news).length with
   |some args',some inn,true=>some (⟨iN d (r.ren (L++news)),(L++news).zip (out.map fun e=>some (e.ren (L++news))),(L++news).map fun k=>(k,true)⟩,[.p (VCC C.P C.G f inn args' r out)],hs)
   |_,_,_=>none
  |_=>none
 |_=>none
def aBc(C:Cfg)(t:TypeId)(H:Nat→Option E)(v:V)(hs:List Hn):JR:=
 match bM C.Ty t with
 |none=>none
 |some i=>match i.u with
  | .slice e=>match bM C.Ty e with
   |none=>none
   |some j=>match v,hs,zH (cP j.z).cs with
    | .msl k gen size off len,.rows R::hs,some z0=>match H k,(cP j.z).val with
     |some (.arr e' gen' size' rows),true=>some (⟨[],[(k,some (.arr e' gen' size' R))],[]⟩,[.q gen' gen,.q size' size,.q z0.length size,.p (off+len≤rows.length∧R=rows.take off++List.replicate len (z0.map nzT)++rows.drop (off+len))],hs)
     |_,_=>none
    |_,_,_=>none
  |_=>none
def aEf(C:Cfg)(d:Option Tmp)(t:TypeId)(H:Nat→Option E)(v w:V)(hs:List Hn):JR:=
 match bM C.Ty t with
 |none=>none
 |some i=>match i.u with
  | .slice e=>match bM C.Ty e with
   |none=>none
   |some j=>match v,nzV w,hs with
    | .msl k gen size off len,.t (.sl news),.rows R:: .nat m::hs=>match H k,Nat.blt 0 j.size with
     |some (.arr e' gen' size' rows),true=>some (⟨iN d (.t (.int .i64 m)),[(k,some (.arr e' gen' size' R))],[]⟩,
       [.q gen' gen,.q size' size,.q size j.size,.q m (Nat.min news.length len),.p (Rows j.size news),.p (off+len≤rows.length∧R=rows.take off++news.take m++rows.drop (off+m))],hs)
     |_,_=>none
    |_,_,_=>none
  |_=>none
def aNP:List Hn→Bool
 | .vc _ _ _ _::_=>true
 |_=>false
def evO(C:Cfg)(o:Oper)(vals:List V)(H:Nat→Option E)(u:Nat→Bool)(hs:List Hn):JR:=
 match dOk C.nt o.dst with
 |false=>none
 |true=>match o.op with
  | .box _ _=>match vals with
   | [v]=>match isB hs with
    |true=>aEl o.dst v hs
    |false=>aAp o.dst u v hs
   |_=>none
  | .alloc t=>match bM C.Ty t with
   |some i=>aAp o.dst u (cP i.z) hs
   |none=>none
  | .store t _ _=>match o.dst,vals with
   |none,[a,v]=>match aA7 C t H a v hs with
    |some r=>some r
    |none=>N5 C t H a v hs
   |_,_=>none
  | .makeSlice t _ _=>match vals with
   | [v,w]=>aEa C o.dst t u v w hs
   |_=>none
  | .buildSlice t n ps=>match aIe C o.dst t n (ps.toList.map (·.1)) u vals hs with
   |some r=>some r
   |none=>aEc C o.dst t n (ps.toList.map (·.1)) u vals hs
  | .call c=>match c.callee with
   | .value _=>match aNP hs with
    |true=>aLU C o.dst vals H u hs
    |false=>match isB hs with
     |true=>aIv C o.dst H vals hs
     |false=>aEj C o.dst vals hs
   | .builtin .append=>match c.args.toList,c.argTypes.toList,vals with
    | [_,_],[t,t'],[v,w]=>match N8 C o.dst t t' H v w hs with
     |some r=>some r
     |none=>A5 C o.dst t t' H v w hs
    |_,_,_=>none
   | .builtin .clear=>match o.dst,c.args.toList,c.argTypes.toList,vals with
    |none,[_],[t],[v]=>aBc C t H v hs
    |_,_,_,_=>none
   | .builtin .copy=>match c.args.toList,c.argTypes.toList,vals with
    | [_,_],[t,_],[v,w]=>aEf C o.dst t H v w hs
    |_,_,_=>none
   | .builtin _=>match evV C.P C.Ty H o.op vals hs with
    |some (v,φ,hs)=>some (⟨iN o.dst v,[],[]⟩,φ,hs)
    |none=>none
   |_=>none
  |_=>match evV C.P C.Ty H o.op vals hs with
   |some (v,φ,hs)=>some (⟨iN o.dst v,[],[]⟩,φ,hs)
   |none=>none
theorem aI4{z:Value}{z0:List T}(hv:(cP z).val=true)(hz:zH (cP z).cs=some z0):z.cells.size=z0.length∧ ∀(w:World) (X:Nat→Prop) (j:Nat) (u:Value) (x:T),z.cells[j]? =some u→(z0.map nzT)[j]? =some x→RT w X x u:=by
 have h:=fun(w:World) (X:Nat→Prop)=>(nH (⟨fun _=>none,fun _ _=>False⟩:Map) w X z).cells hv;have he:=lH hz;refine⟨by rw [(h default fun _=>False).1,he,I2],fun w X j u x hu hx=>?_⟩;rw [zG] at hx;cases hj:z0[j]? with
 |none=>rw [hj] at hx;cases hx
 |some y=>
  rw [hj] at hx;simp only [Option.map_some,Option.some.injEq] at hx;subst hx
  have:=(h w X).2 j (.t y) u (by rw [he,zG,hj];rfl) hu;cases this with
  |t _ _ h2=>exact h2.nz
section steps
variable {K:Ctx} {s:S} {d:Option Tmp} {ty:TypeId} {pos:String} {af:Array Edge} {g:Option (Nat×Bool)}
variable {t:TypeId} {u:TypeDesc} {z:Value} {size bytes gen:Nat}
theorem S1(zs:Array Value)(n i j:Nat)(hi:i<n)(hj:j<zs.size):(Builtin.zeroCells zs n).toList[i*zs.size+j]? =zs[j]? :=by
 have hlt:i*zs.size+j<n*zs.size:=by
  have:(i+1)*zs.size≤n*zs.size:=jL _ hi;rw [jJ] at this;omega
 have hm:(i*zs.size+j)%zs.size=j:=by rw [Nat.mul_comm,Nat.mul_add_mod];exact Nat.mod_eq_of_lt hj
 simp [Builtin.zeroCells,hlt,hm,hj]
theorem aJ9(x:Operand)(id off len:Nat)(e e':TypeId)(rows:List (List T))(z0:List T)(hx:s.get x= .msl id gen size off len)(hH:s.H id=some (.arr e' gen size rows))(ht:K.P.underlying t=some (.slice e)){sz:Nat}(he:TI K.P e u z sz bytes)
  (hv:(cP z).val=true) (hz:zH (cP z).cs=some z0) (hzl:z0.length=size) (hl:off+len≤rows.length):
  OpJ K ⟨none,.call {callee:= .builtin .clear,args:= #[x],argTypes:= #[t]},ty,pos,af,g⟩ s {s with H:=upd s.H id (some (.arr e' gen size (rows.take off++List.replicate len (z0.map nzT)++rows.drop (off+len))))}:=by
 intro β a w next Q hr hk
 have hxv:=hr.get x;rw [hx] at hxv;have hre:=(hr.heap id _ hH).2;obtain⟨q,hq⟩:=gG hre;obtain⟨hzs,hzr⟩:=aI4 hv hz;unfold Oper.wp;cases len with
 |zero=>
  obtain⟨ad,cap,hxe⟩: ∃ad cap,a.eval x= .slice ad 0 cap:=by
   rcases bP hxv hq with ⟨cap,b,n,ty',hxe,_⟩|⟨_,_,_,hxe⟩
   ·exact⟨_,cap,hxe⟩
   exact⟨none,0,hxe⟩
  have hrun:(execOp a.eval ⟨none,.call {callee:= .builtin .clear,args:= #[x],argTypes:= #[t]},ty,pos,af,g⟩).run K.P w= .ok (.value (.tuple #[])) w:=by
   cases ad<;>simp [execOp,resolve,invoke,builtin,hxe,Builtin.clear_,run_underlying ht]
  rw [hrun]
  have:rows.take off++List.replicate 0 (z0.map nzT)++rows.drop (off+0)=rows:=by simp
  refine hk β _ _ ?_;rw [this];exact hr.sameH id _ hH
 |succ len=>
  rcases bP hxv hq with ⟨cap,b,n,ty',hxe,hb0,hw,hs,hn,hlc,hm⟩|⟨_,_,h0,_⟩
  ·subst hb0;rcases hre.2 with ⟨h1,_⟩|⟨b2,us,h1,h2,h3,h4,h5⟩
   ·rw [hq] at h1;cases h1
   rw [hq] at h1;cases h1;have hsz2:z.cells.size=size:=by rw [hzs,hzl]
   have hcl:(Builtin.zeroCells z.cells (len+1)).toList.length=(len+1)*size:=by rw [vBe,size_zeroCells,hsz2]
   have hfit:off*size+(len+1)*size≤us.size:=by
    have:(off+(len+1))*size≤rows.length*size:=jL _ hl;rw [jJ] at this;omega
   have hcells: ∀(i j:Nat) (u:Value),i<len+1→j<size→(Builtin.zeroCells z.cells (len+1)).toList[i*size+j]? =some u→z.cells[j]? =some u:=by
    intro i j u hi hj hu;rw [←hsz2] at hj hu
    rwa [S1 _ _ _ _ hi hj] at hu
   have hone: ∀v∈(Builtin.zeroCells z.cells (len+1)).toList,v.oneCell'=true:=by
    intro v hvm;obtain⟨k,hk⟩:=vAG.1 hvm;have hkl:=(cC.1 hk).1;rw [hcl] at hkl;have hp:0<size:=by
     rcases Nat.eq_zero_or_pos size with e0|e0
     ·rw [e0] at hkl;omega
     exact e0
    have hdiv:k / size<len+1:=(vBl hp).2 hkl;have hmod:k%size<size:=Nat.mod_lt _ hp;have hk':(Builtin.zeroCells z.cells (len+1)).toList[k / size*size+k%size]? =some v:=by rw [Nat.div_add_mod'];exact hk
    have h9:=hcells _ _ _ hdiv hmod hk'
    have:(z0.map nzT)[k%size]? =some (nzT z0[k%size]):=by rw [zG,dH (by omega)];rfl
    exact(RV.t (β:=β) _ _ (hzr w (fun _=>False) _ _ _ h9 this)).oneCell rfl
   have hst:=run_storeCells_at K.P b (off*size) e' (Builtin.zeroCells z.cells (len+1)).toList 0 us w h2 (by rw [hcl];omega) hone;simp only [Nat.add_zero] at hst;have hrun:(execOp a.eval ⟨none,.call {callee:= .builtin .clear,args:= #[x],argTypes:= #[t]},ty,pos,af,g⟩).run K.P w= .ok (.value (.tuple #[])) (w.setRow b (us.toList.take (off*size)++(Builtin.zeroCells z.cells (len+1)).toList++us.toList.drop (off*size+(Builtin.zeroCells z.cells (len+1)).toList.length)).toArray):=by
    simp [execOp,resolve,invoke,builtin,hxe,Builtin.clear_,run_underlying ht,he.run_zero,hst]
   rw [hrun];refine hk β _ _ (aDd hr id b e' rows _ us _ hH hq h2 (by simp [hcl];omega) ?_ ?_ ?_)
   ·have:(rows.take off++List.replicate (len+1) (z0.map nzT)++rows.drop (off+(len+1))).length=rows.length:=by simp;omega
    rw [this];exact h3
   ·intro row hrow;rw [B6,B6] at hrow;rcases hrow with (hrow|hrow)|hrow
    ·exact h4 row (vAw hrow)
    ·rw [(vBa.1 hrow).2,I2];exact hzl
    exact h4 row (vAB hrow)
   intro i j row x' u' a1 a2 a3;have a3:(us.toList.take (off*size)++(Builtin.zeroCells z.cells (len+1)).toList++us.toList.drop (off*size+(Builtin.zeroCells z.cells (len+1)).toList.length))[i*size+j]? =some u':=by simpa using a3
   rw [hcl] at a3;have htk:(us.toList.take (off*size)).length=off*size:=by simp;omega
   by_cases c1:i<off
   ·rw [vAO,I0 (by simp;omega),D8,if_pos c1] at a1;have hj:j<size:=by rw [←h4 row (dD a1)];exact(cC.1 a2).1
    have hlt:i*size+j<off*size:=iU c1 hj;rw [vAO,I0 (by omega),D8,if_pos hlt] at a3;exact .inl ⟨i,row,a1,a2,by simpa using a3⟩
   by_cases c2:i<off+(len+1)
   ·rw [I0 (by simp;omega),I1 (by simp;omega)] at a1;have hrow:row=z0.map nzT:=by
     have:=dD a1;exact(vBa.1 this).2
    subst hrow;have hj:j<size:=by rw [←hzl,←I2 (f:=nzT)];exact(cC.1 a2).1
    have e1:i*size+j=off*size+((i-off)*size+j):=by rw [vBJ];have:=jL size (show off≤i by omega);omega
    have hlt:(i-off)*size+j<(len+1)*size:=iU (by omega) hj;rw [e1,I0 (by rw [nF,htk,hcl];omega),I1 (by omega),htk,Nat.add_sub_cancel_left] at a3;exact .inr fun w X=>hzr w X j _ _ (hcells _ _ _ (by omega) hj a3) a2
   have hlen2:(rows.take off++List.replicate (len+1) (z0.map nzT)).length=off+(len+1):=by simp;omega
   rw [I1 (by omega),hlen2,D9,show off+(len+1)+(i-(off+(len+1)))=i by omega] at a1;have hj:j<size:=by rw [←h4 row (dD a1)];exact(cC.1 a2).1
   have hge:off*size+(len+1)*size≤i*size+j:=by
    have:=jL size (show off+(len+1)≤i by omega);rw [jJ] at this;omega
   rw [I1 (by rw [nF,htk,hcl];omega),nF,htk,hcl,D9,show off*size+(len+1)*size+(i*size+j-(off*size+(len+1)*size))=i*size+j by omega] at a3;exact .inl ⟨i,row,a1,a2,by simpa using a3⟩
  omega
theorem aD1(k lx off len:Nat)(x y:Operand)(e:TypeId)(rows:List (List T))(hd: ∀i,d=some i→Nat.blt i K.nt=true)(hx:s.get x= .msl k gen size 0 lx)(hy:s.get y= .msl k gen size off len)(hH:s.H k=some (.arr e gen size rows))
  (ht:K.P.underlying t=some (.slice e)) (he:TI K.P e u z size bytes) (hp:0<size) (h1:lx+len≤rows.length) (h2:off+len≤rows.length):
  OpJ K ⟨d,.call {callee:= .builtin .append,args:= #[x,y],argTypes:= #[t,t]},ty,pos,af,g⟩ s
   (({s with H:=upd s.H k (some (.arr e gen size (rows.take lx++(rows.drop off).take len++rows.drop (lx+len))))}:S).put d (.msl k gen size 0 (lx+len))):=by
 intro β a w next Q hr hkk
 have hxv:=hr.get x;rw [hx] at hxv;have hyv:=hr.get y;rw [hy] at hyv;have hre:=(hr.heap k _ hH).2;have hg1:=hre.1;obtain⟨q,hq⟩:=gG hre;obtain⟨_,i,hi1,hi2,hi3,hi4⟩:=id he;unfold Oper.wp;cases len with
 |zero=>
  obtain⟨ad,cap,hye⟩: ∃ad cap,a.eval y= .slice ad 0 cap:=by
   rcases bP hyv hq with ⟨cap,b,n,ty',hxe,_⟩|⟨_,_,_,hxe⟩
   ·exact⟨_,cap,hxe⟩
   exact⟨none,0,hxe⟩
  have hrows:rows.take lx++(rows.drop off).take 0++rows.drop (lx+0)=rows:=by simp
  have hrun:(execOp a.eval ⟨d,.call {callee:= .builtin .append,args:= #[x,y],argTypes:= #[t,t]},ty,pos,af,g⟩).run K.P w= .ok (.value (a.eval x)) w:=by
   rcases bP hxv hq with ⟨cap',b,n,ty',hxe,_,_,_,_,hl,_⟩|⟨_,_,_,hxe⟩
   ·cases ad<;>simp [execOp,resolve,invoke,builtin,hxe,hye,Builtin.append_,run_underlying ht,sizeOf,typeInfo,hi1,Builtin.lenOf,Builtin.firstCells,hl,storeCells,loadCells,loadCellsFrom]
   cases ad<;>simp [execOp,resolve,invoke,builtin,hxe,hye,Builtin.append_,run_underlying ht,sizeOf,typeInfo,hi1,Builtin.lenOf,Builtin.firstCells,loadCells,loadCellsFrom]
  rw [hrun];refine hkk β _ w ?_;have hS:upd s.H k (some (E.arr e gen size rows))=s.H:=by
   funext j;by_cases hj:j=k
   ·subst hj;rw [aI,hH]
   rw [aH _ _ _ _ hj]
  rw [hrows,hS];exact hr.put d hd hxv
 |succ len=>
  rcases bP hyv hq with ⟨capy,b,n,ty',hye,hb0,hw,hs,hn,hlc,hm⟩|⟨_,_,h0,_⟩
  ·subst hb0;rcases bP hxv hq with ⟨capx,b',n',ty2,hxe,hb1,hw2,hs2,hn2,hlc2,hm2⟩|⟨h0,_⟩
   ·cases hb1;rcases hre.2 with ⟨g1,_⟩|⟨b2,us,g1,g2,g3,g4,g5⟩
    ·rw [hq] at g1;cases g1
    rw [hq] at g1;cases g1;have husz:us.size=n':=by
     unfold World.shape? at hs2;rw [g2] at hs2;simp at hs2;exact hs2.2
    obtain⟨ws,hwse⟩: ∃ws,ws=(us.toList.drop (off*size)).take ((len+1)*size):=⟨_,rfl⟩
    have hle:(off+(len+1))*size≤us.size:=r8 (jL _ h2) g3;rw [jJ] at hle;have hwl:ws.length=(len+1)*size:=by rw [hwse];simp;omega
    have hget: ∀j v,ws[j]? =some v→us[off*size+j]? =some v∧j<(len+1)*size:=fun j v hv=>by
     have hj:=(cC.1 hv).1;rw [hwl] at hj;rw [hwse,D8,if_pos hj,D9] at hv;exact⟨by simpa using hv,hj⟩
    have hrowat: ∀i',i'<rows.length→ ∃row,rows[i']? =some row∧row.length=size:=fun i' hi'=>⟨_,dH hi',g4 _ (vBo hi')⟩
    have hcell: ∀j v,ws[j]? =some v→w.cell? ((⟨b,off*size,none⟩:Addr).add j)=some v:=fun j v hv=>by
     rw [cY];simp only [World.cell?,g2];exact(hget j v hv).1
    have hone: ∀v,v∈ws→v.oneCell'=true:=fun v hv=>by
     obtain⟨j,hj⟩:=vAG.1 hv;obtain⟨h3,h4⟩:=hget j v hj;have hmod:j%size<size:=Nat.mod_lt _ hp;have hdiv:j / size<len+1:=(vBl hp).2 h4;obtain⟨row,hr1,hr2⟩:=hrowat (off+j / size) (by omega);have he9:(off+j / size)*size+j%size=off*size+j:=by rw [jJ,vBq,Nat.div_add_mod']
     exact(g5 (off+j / size) (j%size) row row[j%size] v hr1 (dH (by omega)) (by rw [he9];exact h3)).oneCell
    have hfit:lx*size+ws.length≤us.size:=by
     rw [hwl,←jJ];exact r8 (jL _ h1) g3
    have hroom:lx+(len+1)≤capx:=by
     have:(lx+(len+1))*size≤capx*size:=by
      rw [l4] at hn2;rw [hn2,←husz];exact r8 (jL _ h1) g3
     exact Nat.le_of_mul_le_mul_right this hp
    have hrun0:=run_append_room (P:=K.P) w t ty e i ht hi1 b lx capx us g2 ⟨b,off*size,none⟩ (len+1) capy ws (by rw [hi3];exact hwl) hcell hone hroom (by rw [hi3];exact hfit);rw [hi3] at hrun0;have hrun:(execOp a.eval ⟨d,.call {callee:= .builtin .append,args:= #[x,y],argTypes:= #[t,t]},ty,pos,af,g⟩).run K.P w= .ok (.value (.slice (some ⟨b,0,none⟩) (lx+(len+1)) capx)) (w.setRow b (us.toList.take (lx*size)++ws++us.toList.drop (lx*size+ws.length)).toArray):=by
     rw [F7] at hxe;simp [execOp,resolve,invoke,builtin,hxe,hye,hrun0]
    rw [hrun];have htk:(us.toList.take (lx*size)).length=lx*size:=by simp;omega
    have hszn:(us.toList.take (lx*size)++ws++us.toList.drop (lx*size+ws.length)).toArray.size=us.size:=by simp;omega
    have hrlx:(rows.take lx).length=lx:=by rw [mH];omega
    have hrmid:((rows.drop off).take (len+1)).length=len+1:=by rw [mH,X4];omega
    have hrel:=aDd hr k b e rows (rows.take lx++(rows.drop off).take (len+1)++rows.drop (lx+(len+1))) us _ hH hq g2 hszn ?_ ?_ ?_
    ·refine hkk β _ _ (hrel.put d hd ?_);have hv2:RV β (w.setRow b (us.toList.take (lx*size)++ws++us.toList.drop (lx*size+ws.length)).toArray) (own K β (upd s.H k (some (.arr e gen size (rows.take lx++(rows.drop off).take (len+1)++rows.drop (lx+(len+1))))))) (.msl k gen size 0 (lx+(len+1))) (.slice (some ⟨b,0*size,none⟩) (lx+(len+1)) capx):=by
      refine .msl k gen size 0 _ capx b n' e hg1 hq (by simpa using hw2) ?_ hn2 hroom hm2;unfold World.shape?;rw [setRow_heap _ _ _ _ _ _ g2];simp only [hszn,husz]
     rw [F7] at hv2;exact hv2
    ·rw [nF,nF,hrlx,hrmid,X4]
     have:lx+(len+1)+(rows.length-(lx+(len+1)))=rows.length:=by omega
     rw [this];exact g3
    ·intro row hrow;rw [B6,B6] at hrow;rcases hrow with (hrow|hrow)|hrow
     ·exact g4 row (vAw hrow)
     ·exact g4 row (vAB (vAw hrow))
     exact g4 row (vAB hrow)
    intro i' j row x' u' a1 a2 a3;have a3:(us.toList.take (lx*size)++ws++us.toList.drop (lx*size+ws.length))[i'*size+j]? =some u':=by simpa using a3
    refine .inl ?_;by_cases c1:i'<lx
    ·rw [vAO,I0 (by omega),D8,if_pos c1] at a1;have hj:j<size:=by rw [←g4 row (dD a1)];exact(cC.1 a2).1
     have hlt:i'*size+j<lx*size:=iU c1 hj;rw [vAO,I0 (by omega),D8,if_pos hlt] at a3;exact⟨i',row,a1,a2,by simpa using a3⟩
    by_cases c2:i'<lx+(len+1)
    ·rw [I0 (by rw [nF];omega),I1 (by omega),hrlx,D8,if_pos (by omega),D9] at a1;have hj:j<size:=by rw [←g4 row (dD a1)];exact(cC.1 a2).1
     have e1:i'*size+j=lx*size+((i'-lx)*size+j):=by rw [vBJ];have:=jL size (show lx≤i' by omega);omega
     have hlt:(i'-lx)*size+j<(len+1)*size:=iU (by omega) hj;rw [e1,I0 (by rw [nF,htk,hwl];omega),I1 (by omega),htk,Nat.add_sub_cancel_left] at a3;have h9:=(hget _ _ a3).1;exact⟨off+(i'-lx),row,a1,a2,by rw [jJ,vBq];exact h9⟩
    have hlen2:(rows.take lx++(rows.drop off).take (len+1)).length=lx+(len+1):=by rw [nF,hrlx,hrmid]
    rw [I1 (by omega),hlen2,D9,show lx+(len+1)+(i'-(lx+(len+1)))=i' by omega] at a1;have hj:j<size:=by rw [←g4 row (dD a1)];exact(cC.1 a2).1
    have hge:lx*size+(len+1)*size≤i'*size+j:=by
     have:=jL size (show lx+(len+1)≤i' by omega);rw [jJ] at this;omega
    rw [I1 (by rw [nF,htk,hwl];omega),nF,htk,hwl,D9,show lx*size+(len+1)*size+(i'*size+j-(lx*size+(len+1)*size))=i'*size+j by omega] at a3;exact⟨i',row,a1,a2,by simpa using a3⟩
   rw [hq] at *; cases h0
  omega
theorem aCh(k lx:Nat)(x y:Operand)(e e':TypeId)(rows:List (List T))(hd: ∀i,d=some i→Nat.blt i K.nt=true)(hx:s.get x= .msl k gen size 0 lx)(hy:VLe (s.get y) (.t (.sl [])))(hH:s.H k=some (.arr e' gen size rows))
  (ht:K.P.underlying t=some (.slice e)) (he:TI K.P e u z size bytes) (hp:0<size):
  OpJ K ⟨d,.call {callee:= .builtin .append,args:= #[x,y],argTypes:= #[t,t]},ty,pos,af,g⟩ s (s.put d (.msl k gen size 0 lx)):=by
 intro β a w next Q hr hkk
 have hxv:=hr.get x;rw [hx] at hxv;have hyv:=hy _ _ _ _ (hr.get y);have hre:=(hr.heap k _ hH).2;obtain⟨q,hq⟩:=gG hre;obtain⟨_,i,hi1,hi2,hi3,hi4⟩:=id he;unfold Oper.wp;obtain⟨ad,cap,hye⟩: ∃ad cap,a.eval y= .slice ad 0 cap:=by
  rcases B1 hyv (Rows.nil size) hp with (⟨h1,_⟩|⟨b,o,c,_,h1,_⟩)|⟨_,ad,cap,h1⟩
  ·exact⟨none,0,h1⟩
  ·exact⟨_,c,h1⟩
  exact⟨ad,cap,h1⟩
 have hrun:(execOp a.eval ⟨d,.call {callee:= .builtin .append,args:= #[x,y],argTypes:= #[t,t]},ty,pos,af,g⟩).run K.P w= .ok (.value (a.eval x)) w:=by
  rcases bP hxv hq with ⟨cap',b,n,ty',hxe,_,_,_,_,hl,_⟩|⟨_,_,_,hxe⟩
  ·cases ad<;>simp [execOp,resolve,invoke,builtin,hxe,hye,Builtin.append_,run_underlying ht,sizeOf,typeInfo,hi1,Builtin.lenOf,Builtin.firstCells,hl,storeCells,loadCells,loadCellsFrom]
  cases ad<;>simp [execOp,resolve,invoke,builtin,hxe,hye,Builtin.append_,run_underlying ht,sizeOf,typeInfo,hi1,Builtin.lenOf,Builtin.firstCells,loadCells,loadCellsFrom]
 rw [hrun];exact hkk β _ w (hr.put d hd hxv)
theorem aF0{size off m:Nat}{rows news:List (List T)}{us cs:List Value}(ho:off+m≤rows.length)(hu:rows.length*size≤us.length)(hw:cs.length=m*size)(hm:m≤news.length)(hs: ∀row,row∈rows→row.length=size)(hs': ∀row,row∈news→row.length=size){R:T→Value→Prop}
  (h1: ∀(i j:Nat) (row:List T) (x:T) (u:Value),rows[i]? =some row→row[j]? =some x→us[i*size+j]? =some u→R x u)
  (h2: ∀(i j:Nat) (row:List T) (x:T) (u:Value),news[i]? =some row→row[j]? =some x→cs[i*size+j]? =some u→R x u):
  ∀(i j:Nat) (row:List T) (x:T) (u:Value),(rows.take off++news.take m++rows.drop (off+m))[i]? =some row→row[j]? =some x→(us.take (off*size)++cs++us.drop (off*size+cs.length))[i*size+j]? =some u→R x u:=by
 have e0:off*size+m*size≤rows.length*size:=by rw [←jJ];exact jL _ ho
 have hA:=pD (us.take (off*size)) cs [] (rows:=rows.take off) (news:=news.take m) (n:=off) (size:=size) (by rw [mH];omega) (by rw [mH];omega) (by rw [mH,hw];congr 1;omega)
  (fun row h=>hs row (vAw h)) (fun row h=>hs' row (vAw h)) (R:=R)
  (fun k j row x u a1 a2 a3=>by
   rw [D8] at a1 a3;split at a1
   ·split at a3
    ·exact h1 k j row x u a1 a2 a3
    cases a3
   cases a1)
  (fun k j row x u a1 a2 a3=>by
   rw [D8] at a1;split at a1
   ·exact h2 k j row x u a1 a2 a3
   cases a1)
 have hlen:(us.drop (off*size+cs.length)).length=us.length-(off+m)*size:=by rw [X4,hw,jJ]
 have hB:=pD (us.take (off*size)++cs) ((us.drop (off*size+cs.length)).take ((rows.length-(off+m))*size)) ((us.drop (off*size+cs.length)).drop ((rows.length-(off+m))*size)) (rows:=rows.take off++news.take m) (news:=rows.drop (off+m)) (n:=off+m) (size:=size)
  (by rw [nF,mH,mH];omega) (by rw [nF,mH,hw,jJ];omega)
  (by
   rw [mH,hlen,X4]
   have:(rows.length-(off+m))*size=rows.length*size-(off+m)*size:=vBJ _ _ _;omega)
  (fun row h=>by
   rcases B6.1 h with h|h
   ·exact hs row (vAw h)
   exact hs' row (vAw h)) (fun row h=>hs row (vAB h)) (R:=R) (fun k j row x u a1 a2 a3=>hA k j row x u a1 a2 (by simpa using a3))
  (fun k j row x u a1 a2 a3=>by
   rw [D9] at a1;rw [D8] at a3;split at a3
   ·rw [D9,hw] at a3;refine h1 (off+m+k) j row x u a1 a2 ?_;rw [jJ,jJ,vBq];exact a3
   cases a3)
 intro i j row x u a1 a2 a3;refine hB i j row x u a1 a2 ?_;rw [vAO _ (List.take _ _),vBF];exact a3
theorem aLG(x y:Operand)(id off len:Nat)(e e' t':TypeId)(rows news:List (List T))(hd: ∀i,d=some i→Nat.blt i K.nt=true)(hx:s.get x= .msl id gen size off len)(hy:VLe (s.get y) (.t (.sl news)))(hH:s.H id=some (.arr e' gen size rows))(ht:K.P.underlying t=some (.slice e))
  (he:TI K.P e u z size bytes) (hp:0<size) (hs': ∀row,row∈news→row.length=size) (hl:off+len≤rows.length):
  OpJ K ⟨d,.call {callee:= .builtin .copy,args:= #[x,y],argTypes:= #[t,t']},ty,pos,af,g⟩ s
   (({s with H:=upd s.H id (some (.arr e' gen size (rows.take off++news.take (Nat.min news.length len)++rows.drop (off+Nat.min news.length len))))}:S).put d (.t (.int .i64 (Nat.min news.length len:Nat)))):=by
 intro β a w next Q hr hk
 have hxv:=hr.get x;rw [hx] at hxv;have hyv:=hy _ _ _ _ (hr.get y);have hre:=(hr.heap id _ hH).2;obtain⟨q,hq⟩:=gG hre;obtain⟨_,i,hi1,hi2,hi3,hi4⟩:=he;unfold Oper.wp;have hxs: ∃base c1,a.eval x= .slice base len c1:=by
  rcases bP hxv hq with ⟨cap,b,n,ty',hxe,_⟩|⟨_,_,h0,hxe⟩
  ·exact⟨_,cap,hxe⟩
  subst h0;exact⟨none,0,hxe⟩
 have hsrc:=B1 hyv hs' hp;have hys: ∃sb c2,a.eval y= .slice sb news.length c2:=by
  rcases hsrc with (⟨hye,hn⟩|⟨b,off,cap,us,hye,_⟩)|⟨hn,ad,cap,hye⟩
  ·subst hn;exact⟨none,0,hye⟩
  ·exact⟨_,_,hye⟩
  subst hn;exact⟨ad,cap,hye⟩
 obtain⟨m,hm⟩: ∃m,m=Nat.min news.length len:=⟨_,rfl⟩
 rw [←hm] at hk;by_cases hm0:m=0
 ·subst hm0;obtain⟨base,c1,hxe⟩:=hxs;obtain⟨sb,c2,hye⟩:=hys;have hrun:(execOp a.eval ⟨d,.call {callee:= .builtin .copy,args:= #[x,y],argTypes:= #[t,t']},ty,pos,af,g⟩).run K.P w= .ok (.value (goInt ((0:Nat):Int))) w:=by
   cases base<;>cases sb<;>simp [execOp,resolve,invoke,builtin,hxe,hye,Builtin.copy_,run_underlying ht,sizeOf,typeInfo,hi1,Builtin.lenOf,Builtin.firstCells,←hm,loadCells,loadCellsFrom,storeCells]
  rw [hrun]
  have:rows.take off++news.take 0++rows.drop (off+0)=rows:=by simp
  rw [this] at hk;exact hk β _ _ ((hr.sameH id _ hH).put d hd (.t _ _ (.int _ _)))
 have hmle:m≤len:=by rw [hm];exact Nat.min_le_right _ _
 have hmle2:m≤news.length:=by rw [hm];exact Nat.min_le_left _ _
 rcases hsrc with (⟨_,hn⟩|⟨b2,off2,cap2,ws,hye,hwl,hwc,hw1,hwr⟩)|⟨hn,_⟩
 ·subst hn;simp at hmle2;exact absurd hmle2 hm0
 ·rcases bP hxv hq with ⟨cap,b,n,ty',hxe,hb0,hw,hs,hn,hlc,hmm⟩|⟨_,_,h0,_⟩
  ·subst hb0;rcases hre.2 with ⟨h1,_⟩|⟨b3,us,h1,h2,h3,h4,h5⟩
   ·rw [hq] at h1;cases h1
   rw [hq] at h1;cases h1;have hcl:(ws.take (m*size)).length=m*size:=by rw [mH,hwl];have:=jL size hmle2;omega
   have hfit:off*size+m*size≤us.size:=by
    have:(off+m)*size≤rows.length*size:=jL _ (by omega);rw [jJ] at this;omega
   have hld:=run_loadCells_list (P:=K.P) w ⟨b2,off2,none⟩ (ws.take (m*size)) (fun j y hj=>by
    rw [cY];rw [D8] at hj;split at hj
    ·exact hwc j y hj
    cases hj)
   have hst:=run_storeCells_at K.P b (off*size) e' (ws.take (m*size)) 0 us w h2 (by rw [hcl];omega) fun v hv=>hw1 v (vAw hv);simp only [Nat.add_zero] at hst;rw [hcl] at hld;have hrun:(execOp a.eval ⟨d,.call {callee:= .builtin .copy,args:= #[x,y],argTypes:= #[t,t']},ty,pos,af,g⟩).run K.P w= .ok (.value (goInt (m:Int))) (w.setRow b (us.toList.take (off*size)++ws.take (m*size)++us.toList.drop (off*size+(ws.take (m*size)).length)).toArray):=by
    simp [execOp,resolve,invoke,builtin,hxe,hye,Builtin.copy_,run_underlying ht,sizeOf,typeInfo,hi1,hi3,Builtin.lenOf,Builtin.firstCells,←hm,hld,hst]
   rw [hrun];have hsz:(us.toList.take (off*size)++ws.take (m*size)++us.toList.drop (off*size+(ws.take (m*size)).length)).toArray.size=us.size:=by
    have h2: ∀l:List Value,l.toArray.size=l.length:=fun l=>by simp
    rw [h2];simp only [List.length_append,hcl,List.length_take,List.length_drop,Array.length_toList];omega
   have hlen:(rows.take off++news.take m++rows.drop (off+m)).length=rows.length:=by simp;omega
   have hb':own K β s.H b:= .inr ⟨id,by rw [hH];simp,.inl ⟨_,hq⟩⟩;refine hk β _ _ (Rel.put (Rel.setRow hr id b (.inl ⟨_,hq⟩) us e' h2 _ hsz (.arr e' gen size (rows.take off++news.take m++rows.drop (off+m))) (by rw [hH];simp)
    ⟨hre.1,Or.inr ⟨b,_,hq,setRow_heap _ _ _ _ _ _ h2,by rw [hsz,hlen];exact h3,fun row hrow=>?_,fun i j row x u a1 a2 a3=>?_⟩⟩) d hd (.t _ _ (.int _ _)))
   ·rw [B6,B6] at hrow;rcases hrow with (hrow|hrow)|hrow
    ·exact h4 row (vAw hrow)
    ·exact hs' row (vAw hrow)
    exact h4 row (vAB hrow)
   have h9:=aF0 (off:=off) (m:=m) (us:=us.toList) (cs:=ws.take (m*size)) (by omega) (by simpa using h3) hcl hmle2 h4 hs' (R:=fun x u=>RT w (own K β s.H) x u) (fun i j row x u b1 b2 b3=>h5 i j row x u b1 b2 (by simpa using b3))
    (fun i j row x u b1 b2 b3=>by
     rw [D8] at b3;split at b3
     ·exact hwr i j row x u b1 b2 b3
     cases b3) i j row x u a1 a2 (by simpa using a3)
   refine h9.mono ⟨rfl,rfl,rfl,by simp,fun kk _ hx=>setRow_other _ _ _ _ fun e0=>hx ?_⟩ fun _ _ h=>h;subst e0;exact hb'
  omega
 subst hn;simp at hmle2;exact absurd hmle2 hm0
end steps
end Go.Lift
