/- Tools. -/
import Derived.Test.YtbgbodhagkdffaaGreatDoorSLiftAB
namespace Go.Lift
open Go
open Go renaming TypeId -> bM, Value -> bm, execOp -> cE, Operand -> ct, Program -> ee, World -> bY, ResultVar -> kC, resolve -> jV, invoke -> jU, run_underlying -> eR, builtin -> lp, sizeOf -> nV, typeInfo -> qh, loadCells -> su, loadCellsFrom -> ss, TypeDesc -> gF, storeCells -> OT, run_storeCells_at -> XL
open Option renaming some -> Y, none -> al
open Bool renaming true -> I, false -> ao, and_eq_true -> cJ
open Go.Result renaming andThen_ok -> gz
open Go.Builtin renaming zeroCells -> fL
open List renaming replicate -> en, map_cons -> jn, length -> U, map -> cb
open Go.World renaming shape? -> iV
open Go.Sem renaming run_bind -> gE, run_pure -> jD
open Nat renaming ble -> eh, beq -> cP, blt -> ey
section
def gT(P:ee)(G:gC)(f:FuncId)(args:List V)(r:V):Prop:=gw P f/\Jk P G f args r
def kF(P:ee)(G:gC)(f:FuncId)(a:List E)(args:List V)(r:V)(c:List E):Prop:=
 gw P f/\Pq P G f a args (ι:=Unit) (λ_=>True) (λ_=>r) λ_=>c
def gW(d:Option Tmp)(v:V):List (Nat×V):=match d with
 |some d=>[(d,v)]
 |none=>[]
def l0(a:Nat):Option Tmp->Bool
 |some d=>ey d a
 |none=>I
theorem jv{K:Ctx}{d:Option Tmp}(h:l0 K.nt d=I): ∀i,d=Y i->ey i K.nt=I:=by intro i a;subst a;exact h
def kL:T->T
 | .hd=> .bX []
 |x=>x
variable {w:bY}{X:Nat->Prop}{m:Nat}
theorem ei.Cx{x:T}{v:bm}(h:ei w X x v):ei w X (kL x) v:=by
 cases h with
 |hd=>exact .iq _ _
 |bool b=>exact .bool b
 |int k n=>exact .int k n
 |str l=>exact .str l
 |iq a c=>exact .iq a c
 |bX e b m s_ c f q r i o y A=>exact .bX e b m s_ c f q r i o y A
 |fF=>exact .fF
 |hc=>exact .hc
 |p0=>exact .p0
 |err t v=>exact .err t v
theorem ahn{G:Map}{k:Nat}{e:bM}{g_ n:Nat}{z:List T}(h:dJ G w X k (.arr e g_ n (en m z))):dJ G w X k (.arr e g_ n (en m (z.map kL))):=by
 refine⟨h.1,?_⟩;rcases h.2 with ⟨r,l⟩|⟨b,A,r,l,B,H,C⟩
 ·have:m=0:=by simpa using l
  grind
 refine .inr ⟨b,A,r,l,by simpa using B,λo a=>?_,λi j o x u a c F=>?_⟩
 ·obtain⟨L,rfl⟩:=zz.1 a
  grind
 rw[wS] at a;split at a
 ·cases a;rw[fG] at c;cases q:z[j]? with
  |none=>rw[q] at c;simp at c
  |some y=>
   rw[q] at c;simp at c;subst c;exact(C i j z y u (by rw[wS,bk ‹_›]) q F).Cx
 cases a
def nS(a:Nat):Nat->List T->List (List T)
 |0,_=>[]
 |n+1,l=>l.take a::nS a n (l.drop a)
theorem E3(a:Nat): ∀(n:Nat) (l:List T),U l=n*a->U (nS a n l)=n/\(∀c,c∈nS a n l->U c=a)/\(nS a n l).flatten=l
 |0,l,h=>by
  have:l=[]:=by simpa using h
  subst this;exact⟨rfl,λ_ h=>by simp[nS] at h,rfl⟩
 |n+1,l,h=>by
  rw[ft] at h;obtain⟨e,i,k⟩:=E3 a n (l.drop a) bV;refine⟨by simp[nS,e],?_,by simp[nS,k]⟩;intro c cC;simp only[nS,List.mem_cons] at cC;rcases cC with rfl|cC
  ·simp;omega
  exact i c cC
structure e8 where
 P:ee
 G:gC
 df:List (Nat×eC)
 nt:Nat
 e5:Nat
 hq:Map
def xY(a:Nat):List Nat->Nat->Option Nat
 | [],_=>al
 |x::r,k=>bif cP x a then Y k else xY a r (k+1)
theorem Fk{i:Nat}: ∀{L:List Nat} {k m:Nat},xY i L k=Y m->k<=m/\L[m-k]? =Y i
 | [],_,_,h=>by cases h
 |x::r,k,m,h=>by
  simp only[xY] at h;cases a:cP x i with
  |true=>rw[a] at h;cases h;rw[eg a];exact⟨dV _,aZ⟩
  |false=>
   rw[a] at h;obtain⟨e,c⟩:=Fk (L:=r) (k:=k+1) h;refine⟨O,?_⟩;rw[show m-k=(m-(k+1))+1 by omega];simpa using c
mutual
def wM(L:List Nat):V->Option V
 | .ref id a=>match xY id L 0 with
  |some k=>Y (.ref k a)
  |none=>al
 | .bE id g_ s_ a c=>match xY id L 0 with
  |some k=>Y (.bE k g_ s_ a c)
  |none=>al
 | .fn f cs=>match ux L cs with
  |some cs=>Y (.fn f cs)
  |none=>al
 | .c' id g_ s_ i a=>match xY id L 0 with
  |some k=>Y (.c' k g_ s_ i a)
  |none=>al
 | .t x=>Y (.t x)
 | .bc x=>Y (.bc x)
 | .agg cs=>match ux L cs with
  |some cs=>Y (.agg cs)
  |none=>al
 |_=>al
def ux(L:List Nat):List V->Option (List V)
 | []=>Y []
 |c::cs=>match wM L c,ux L cs with
  |some c,Y cs=>Y (c::cs)
  |_,_=>al
end
mutual
theorem ajd{L:List Nat}: ∀(v e:V),wM L v=Y e->e.fq L=v/\e.ok (gI (U L))=I
 | .ref id n,e,h=>by
  simp only[wM] at h;split at h
  ·rename_i k o;cases h;obtain⟨_,a⟩:=Fk o;simp only[Nat.sub_zero] at a;have c:=(cI.1 a).1;exact⟨by simp[V.fq,List.getD_eq_getElem?_getD,a],kZ.2 c⟩
  cases h
 | .bE id g_ s_ n r,e,h=>by
  simp only[wM] at h;split at h
  ·rename_i k o;cases h;obtain⟨_,a⟩:=Fk o;simp only[Nat.sub_zero] at a;have c:=(cI.1 a).1;exact⟨by simp[V.fq,List.getD_eq_getElem?_getD,a],kZ.2 c⟩
  cases h
 | .c' id g_ s_ i n,e,h=>by
  simp only[wM] at h;split at h
  ·rename_i k o;cases h;obtain⟨_,a⟩:=Fk o;simp only[Nat.sub_zero] at a;have c:=(cI.1 a).1;exact⟨by simp[V.fq,List.getD_eq_getElem?_getD,a],kZ.2 c⟩
  cases h
 | .fn f cs,e,h=>by
  simp only[wM] at h;split at h
  ·rename_i l m;cases h;obtain⟨q,a⟩:=xJ cs l m;exact⟨by simp[V.fq,q],by simpa[V.ok] using a⟩
  cases h
 | .agg cs,e,h=>by
  simp only[wM] at h;split at h
  ·rename_i l m;cases h;obtain⟨q,a⟩:=xJ cs l m;exact⟨by simp[V.fq,q],by simpa[V.ok] using a⟩
  cases h
 | .t x,e,h=>by cases h;exact⟨rfl,rfl⟩
 | .bc x,e,h=>by cases h;exact⟨rfl,rfl⟩
 | .dB _,_,h| .d',_,h=>by cases h
theorem xJ{L:List Nat}: ∀(cs a:List V),ux L cs=Y a->ks L a=cs/\V.hK (gI (U L)) a=I
 | [],_,h=>by cases h;exact⟨rfl,rfl⟩
 |c::cs,a,h=>by
  simp only[ux] at h;split at h
  ·rename_i i e k l;cases h;obtain⟨aW,a2⟩:=ajd c i k;obtain⟨m,n⟩:=xJ cs e l;exact⟨by simp[ks,aW,m],by simp[V.hK,a2,n]⟩
  cases h
end
def Gm(L:List Nat):List (Nat×Nat×V)->Option (List (Nat×Nat×V))
 | []=>Y []
 |h::a=>match ux L [h.2.2],Gm L a with
  |some [v],Y l=>Y ((h.1,h.2.1,v)::l)
  |_,_=>al
theorem Uf{L:List Nat}: ∀(a l:List (Nat×Nat×V)),Gm L a=Y l->l.map (λh=>(h.1,h.2.1,h.2.2.fq L))=a/\sV (gI (U L)) l=I
 | [],_,h=>by cases h;exact⟨rfl,rfl⟩
 |h::a,l,e=>by
  simp only[Gm] at e;split at e
  ·rename_i v k m n;cases e;obtain⟨aW,a2⟩:=Uf a k n;obtain⟨c,i⟩:=xJ _ _ m;simp only[ks,List.cons.injEq,and_true] at c;simp only[V.hK,Bool.and_true] at i;refine⟨by simp only[jn,aW,c],by simp only[sV,i,a2,Bool.and_self]⟩
  cases e
def xX(L:List Nat)(H:Nat->Option E):List Nat->Option (List E)
 | []=>Y []
 |id::c=>match H id with
  |some (.cells cs)=>match ux L cs,xX L H c with
   |some cs,Y e=>Y (.cells cs::e)
   |_,_=>al
  |some (.arr ty g_ s_ a)=>match xX L H c with
   |some e=>Y (.arr ty g_ s_ a::e)
   |none=>al
  |some (.bn i m g_ a h)=>match Gm L h,xX L H c with
   |some h,Y e=>Y (.bn i m g_ a h::e)
   |_,_=>al
  |none=>al
theorem Fj{L:List Nat}{H:Nat->Option E}: ∀(a:List Nat) (jd:List E),xX L H a=Y jd->U jd=U a/\ ∀(k:Nat) (e:E),jd[k]? =Y e-> ∃id,a[k]? =Y id/\H id=Y (e.fq L)/\e.ok (gI (U L))=I
 | [],_,h=>by cases h;exact⟨rfl,λk e h=>by simp at h⟩
 |id::a,jd,h=>by
  simp only[xX] at h;split at h
  ·rename_i cs hid;split at h
   ·rename_i w l x n;cases h;obtain⟨aW,a2⟩:=Fj a l n;obtain⟨y,A⟩:=xJ cs w x;refine⟨by simp[aW],λk e c=>?_⟩;cases k with
    |zero=>simp at c;subst c;exact⟨id,rfl,by rw[hid];simp only[E.fq,y],A⟩
    |succ k=>simp at c;obtain⟨i,o,q⟩:=a2 k e c;exact⟨i,by simpa using o,q⟩
   cases h
  ·rename_i ty g_ s_ r hid;split at h
   ·rename_i l n;cases h;obtain⟨aW,a2⟩:=Fj a l n;refine⟨by simp[aW],λk e c=>?_⟩;cases k with
    |zero=>simp at c;subst c;exact⟨id,rfl,hid,rfl⟩
    |succ k=>simp at c;obtain⟨i,o,q⟩:=a2 k e c;exact⟨i,by simpa using o,q⟩
   cases h
  ·rename_i C m g_ r F hid;split at h
   ·rename_i B l x n;cases h;obtain⟨aW,a2⟩:=Fj a l n;obtain⟨y,A⟩:=Uf _ _ x;refine⟨by simp[aW],λk e c=>?_⟩;cases k with
    |zero=>simp at c;subst c;exact⟨id,rfl,by rw[hid];simp only[E.fq,y],A⟩
    |succ k=>simp at c;obtain⟨i,o,q⟩:=a2 k e c;exact⟨i,by simpa using o,q⟩
   cases h
  cases h
def F8(a:Nat):List Nat->Bool
 | []=>I
 |x::l=>bif cP x a then ao else F8 a l
theorem Sg{i:Nat}: ∀{l:List Nat},F8 i l=I->i∉l
 | [],_,h=>by cases h
 |x::l,h,hm=>by
  simp only[F8] at h;cases a:cP x i with
  |true=>rw[a] at h;cases h
  |false=>
   rw[a] at h;rcases eN.1 hm with rfl|hm
   ·simp at a
   exact Sg h hm
def F0:List Nat->Bool
 | []=>I
 |x::l=>F8 x l&&F0 l
theorem El: ∀{l:List Nat},F0 l=I->l.Nodup
 | [],_=>List.nodup_nil
 |x::l,h=>by simp only[F0,cJ] at h;exact List.nodup_cons.2 ⟨Sg h.1,El h.2⟩
def Fq(u:Nat->Bool):List Nat->Bool
 | []=>I
 |x::l=> !u x&&Fq u l
theorem Qs{u:Nat->Bool}: ∀{l:List Nat},Fq u l=I-> ∀id,id∈l->u id=ao
 | [],_,_,h=>by cases h
 |x::l,h,id,hm=>by
  simp only[Fq,cJ,Bool.not_eq_true'] at h;rcases eN.1 hm with rfl|hm
  ·exact h.1
  exact Qs h.2 id hm
theorem QF{u:Nat->Bool}{i:Nat}: ∀{l:List Nat},i∈l->eD u (l.map λk=>(k,I)) i=I
 |x::l,h=>by
  simp only[jn,eD];by_cases a:i∈l
  ·rw[FN _ _ u _ ⟨I,fh.2 ⟨i,a,rfl⟩⟩];exact QF a
  rcases eN.1 h with rfl|h
  ·rw[o8 _ _ _ (λv c=>a (by obtain⟨y,m,e⟩:=fh.1 c;cases e;exact m)),c6]
  exact bu h a
theorem QI{R:Type}: ∀(L:List Nat),L.Nodup-> ∀(f:Nat->R) (a:List R) (g:Nat->R),U a=U L->(∀(k:Nat) x,a[k]? =Y x->g k=x)->eD f (L.zip a)=nE f L g
 | [],_,f,a,g,_,_=>by simp[eD,nE]
 |l::L,c,f,[],g,h,_=>by simp at h
 |l::L,c,f,x::a,g,h,n=>by
  simp only[List.nodup_cons] at c;simp only[List.zip_cons_cons,eD,nE];rw[QI L c.2 (bw f l x) a (λk=>g (k+1)) (by simpa using h) (λk y q=>n (k+1) y (by simpa using q)),n 0 x rfl];funext i;by_cases e:i=l
  ·subst e;rw[pU c.1,c6,c6]
  rw[cY _ _ _ _ e];by_cases m:i∈L
  ·obtain⟨k,o⟩:=mY.1 m;rw[qM c.2 o,qM c.2 o]
  rw[pU m,pU m,cY _ _ _ _ e]
abbrev kU:=Option (dY×List eM×List dq)
def x2(d:Option Tmp)(u:Nat->Bool)(v:V)(a:List dq):kU:=
 match a with
 | .nat k::a=>match u k,v.val with
  |false,I=>Y (⟨gW d (.ref k 0),[(k,Y (.cells v.cs))],[(k,I)]⟩,[],a)
  |_,_=>al
 |_=>al
def Mb(d:Option Tmp)(v:V)(a:List dq):kU:=
 match a with
 | .b I::a=>match (p1 v).val,oa (p1 v).cs with
  |true,Y c=>Y (⟨gW d (.bc c),[],[]⟩,[],a)
  |_,_=>al
 |_=>al
def WQ:List dq->Bool
 | .b I::_=>I
 |_=>ao
def LC(C:e8)(t:bM)(H:Nat->Option E)(a v:V)(o:List dq):kU:=
 match eL C.df t with
 |none=>al
 |some i=>match a with
  | .ref id c=>match H id with
   |some (.cells cs)=>match v.val,qe v.cs,cP (U v.cs) i.size,eh (c+i.size) (U cs) with
    |true,I,I,I=>Y (⟨[],[(id,Y (.cells (pg cs c v.cs)))],[]⟩,[],o)
    |_,_,_,_=>al
   |_=>al
  | .c' id g_ x k c=>match H id,oa (p1 v).cs,o with
   |some (.arr e l n m),Y w,.row r:: .rows h::o=>match (p1 v).val,cP (U w) i.size,eh (c+i.size) x with
    |true,I,I=>Y (⟨[],[(id,Y (.arr e l n h))],[]⟩,
      [.q l g_,.q n x,.p (m[k]? =Y r),.p (h=m.set k (r.take c++w++r.drop (c+U w)))],o)
    |_,_,_=>al
   |_,_,_=>al
  |_=>al
def xO(k a n:Nat):List (Nat×Nat×V)->List eM
 | []=>[]
 |h::c=>bif eh a h.2.1&&ey h.2.1 (a+n) then .q h.1 k::xO k a n c else xO k a n c
def xP(k a n:Nat):List (Nat×Nat×V)->List eM
 | []=>[]
 |h::c=>bif eh a h.2.1&&ey h.2.1 (a+n) then .p (h.1≠k)::xP k a n c else xP k a n c
def KZ(C:e8)(t:bM)(H:Nat->Option E)(a v:V)(w:List dq):kU:=
 match eL C.df t,a,w with
 |some i,.c' id g_ y k c,.row r::w=>match H id with
  |some (.bn x m e h o)=>match v.val&&(qe v.cs&&(cP (U v.cs) i.size&&(eh (c+i.size) (U r)&&ey 0 i.size))),u0 o c i.size with
   |true,Y l=>Y (⟨[],[(id,Y (.bn x m e h (xQ c v.cs o)))],[]⟩,.q e g_:: .q (ba x m).size y:: .p (h[k]? =Y r)::(vb k l++xO k c i.size o),w)
   |_,_=>al
  |_=>al
 |some i,.c' id g_ y k c,.int q:: .nat n:: .row r::w=>match H id with
  |some (.bn x m e h o)=>match v.val&&(qe v.cs&&(cP (U v.cs) i.size&&(eh (c+i.size) (U r)&&ey 0 i.size))),u0 ((o.drop q.toNat).take n) c i.size with
   |true,Y l=>Y (⟨[],[(id,Y (.bn x m e h (o.take q.toNat++(xQ c v.cs ((o.drop q.toNat).take n)++(o.drop q.toNat).drop n))))],[]⟩,
     .q e g_:: .q (ba x m).size y:: .p (h[k]? =Y r)::(vb k l++(xO k c i.size ((o.drop q.toNat).take n)++(xP k c i.size (o.take q.toNat)++xP k c i.size ((o.drop q.toNat).drop n)))),w)
   |_,_=>al
  |_=>al
 |_,_,_=>al
def A6(z:List T):List (Nat×Nat)->Bool
 | []=>I
 |p::l=>(match z[p.1]? with|some .hd=>I|_=>ao)&&A6 z l
def L5(C:e8)(d:Option Tmp)(t:bM)(u:Nat->Bool)(v w:V)(c:List dq):kU:=
 match eL C.df t with
 |none=>al
 |some i=>match i.u with
  | .slice e=>match eL C.df e with
   |none=>al
   |some j=>match v,w,c,oa (js j.z).cs with
    | .t (.int .i64 n),.t (.int .i64 m),.nat k:: .rows R::c,Y a=>match u k,(js j.z).val,cP (U a) j.size,ey 0 j.size&&eh j.bytes 200000 with
     |false,I,I,I=>Y (⟨gW d (.bE k 1 j.size 0 (U R)),[(k,Y (.arr e 1 j.size R))],[(k,I)]⟩,[.q n.toNat m.toNat,.p (mk n (a.map kL)=Y R),.p (0<=m)],c)
     |_,_,_,_=>al
    | .t (.int .i64 n),.t (.int .i64 m),.nat k:: .eW _ h q:: .rows R::c,Y a=>match u k,(js j.z).val&&A6 a (ba h q).rS,cP (U a) j.size,ey 0 j.size&&eh j.bytes 200000 with
     |false,I,I,I=>Y (⟨gW d (.bE k 1 j.size 0 (U R)),[(k,Y (.bn h q 1 R []))],[(k,I)]⟩,[.q (ba h q).ty e,.q (ba h q).size j.size,.q n.toNat m.toNat,.p (mk n (a.map kL)=Y R),.p (0<=m)],c)
     |_,_,_,_=>al
    |_,_,_,_=>al
  |_=>al
def K2(C:e8)(d:Option Tmp)(t x:bM)(H:Nat->Option E)(v w:V)(m:List dq):kU:=
 match eL C.df t with
 |none=>al
 |some i=>match i.u with
  | .slice e=>match eL C.df e with
   |none=>al
   |some j=>match v,p1 w,m with
    | .bE k g_ s_ n o,.t (.bX l),.rows R::m=>match H k with
     |some (.arr r a c h)=>match cP n 0,cP j.z.cells.size j.size&&(ey 0 j.size&&eh j.bytes 140000),cP r e&&cP x t with
      |true,I,I=>Y (⟨gW d (.bE k (a+1) s_ 0 (U R)),[(k,Y (.arr r (a+1) c R))],[]⟩,
        [.q a g_,.q c s_,.q s_ j.size,.q o (U h),.p (app h l=Y R),.p (Rows j.size h),.p (Rows j.size l)],m)
      |_,_,_=>al
     |_=>al
    |_,_,_=>al
  |_=>al
def J6(C:e8)(d:Option Tmp)(t B:bM)(H:Nat->Option E)(v w:V)(x:List dq):kU:=
 match eL C.df t with
 |none=>al
 |some i=>match i.u with
  | .slice e=>match eL C.df e with
   |none=>al
   |some j=>match v,w,x with
    | .bE k g_ s_ o l,.bE Q W X F y,.rows R::x=>match H k,H Q with
     |some (.bn A m c a []),Y (.bn G M L (b::n) r)=>match cP o 0&&cP F 0,cP j.z.cells.size j.size&&(ey 0 j.size&&eh j.bytes 140000),cP B t&&(uV (ba A m) (U n+1) r&&xA r) with
      |true,I,I=>Y (⟨gW d (.bE k (c+1) s_ 0 (U R)),[(k,Y (.bn A m (c+1) R (ke (U a) r)))],[]⟩,
        [.q c g_,.q L W,.q X s_,.q s_ j.size,.q (ba A m).size s_,.q (ba A m).ty e,.q y (U n+1),.q l (U a),.p (ba G M=ba A m),.p (app a (b::n)=Y R),.p (Rows j.size a),.p (Rows j.size (b::n))],x)
      |_,_,_=>al
     |some (.arr f c h a),Y _=>match cP Q k&&cP o 0,cP f e&&(cP B t&&ey 0 j.size) with
      |true,I=>Y (⟨gW d (.bE k g_ s_ 0 (l+y)),[(k,Y (.arr f c h R))],[]⟩,
        [.q c g_,.q W g_,.q h s_,.q X s_,.q j.size s_,.p (l+y<=U a),.p (F+y<=U a),.p (R=a.take l++(a.drop F).take y++a.drop (l+y))],x)
      |_,_=>al
     |_,_=>al
    | .bE k g_ s_ o l,.t (.bX []),.int 0::x=>match H k with
     |some (.arr _ c h _)=>match cP o 0&&ey 0 j.size,cP B t with
      |true,I=>Y (⟨gW d (.bE k g_ s_ 0 l),[],[]⟩,[.q c g_,.q h s_,.q j.size s_],x)
      |_,_=>al
     |_=>al
    |_,_,_=>al
  |_=>al
def Ae(d:ez):Nat->List V->Option (List T×List (Nat×Nat×V))
 |_,[]=>Y ([],[])
 |j,v::c=>match Ae d (j+1) c with
  |none=>al
  |some (r,a)=>match d.fc j with
   |some _=>bif v.one then Y (.bX []::r,(0,j,v)::a) else al
   |none=>match C7 v with
    |some x=>Y (x::r,a)
    |none=>al
def sL:Nat->List V->List (Nat×Nat×V)
 |_,[]=>[]
 |i,v::vs=>(i,0,v)::sL (i+1) vs
def L6(C:e8)(d:Option Tmp)(t:bM)(n:Nat)(l:List Nat)(u:Nat->Bool)(a:List V)(h:List dq):kU:=
 match eL C.df t with
 |none=>al
 |some i=>match i.u with
  | .slice e=>match eL C.df e with
   |none=>al
   |some j=>match n,h with
    |1,.lt k c m::h=>match nf (λi=>Y (i*j.size,j.size)) (en (1*j.size) .d') (l.zip (x4 ((ba c m).fc 0) a)) with
     |none=>al
     |some cs=>match Ae (ba c m) 0 cs with
      |none=>al
      |some (r,o)=>match u k,cP (U cs) j.size&&cP (ba c m).size j.size,cP (U l) (U a)&&cP (ba c m).ty e,eh (1*j.size) 16777216,ey 0 j.size with
       |false,I,I,I,I=>Y (⟨gW d (.bE k 1 j.size 0 1),[(k,Y (.bn c m 1 [r] o))],[(k,I)]⟩,[],h)
       |_,_,_,_,_=>al
    |n,.lt k c m::h=>match nf (λi=>Y (i*j.size,j.size)) (en (n*j.size) .d') (l.zip (jy a)) with
     |none=>al
     |some cs=>match u k,cP j.size 1&&(cP (U cs) n&&qe cs),cP (U l) (U a)&&(cP (ba c m).ty e&&cP (ba c m).size 1),eh (n*j.size) 16777216,ey 0 n with
      |false,I,I,I,I=>Y (⟨gW d (.bE k 1 1 0 n),[(k,Y (.bn c m 1 (en n [.bX []]) (sL 0 cs)))],[(k,I)]⟩,[],h)
      |_,_,_,_,_=>al
    |_,_=>al
  |_=>al
def My(C:e8)(d:Option Tmp)(t:bM)(n:Nat)(c:List Nat)(u:Nat->Bool)(a:List V)(h:List dq):kU:=
 match eL C.df t with
 |none=>al
 |some i=>match i.u with
  | .slice e=>match eL C.df e with
   |none=>al
   |some j=>match n,c,h with
    |0,[],.nat k::h=>match u k with
     |false=>Y (⟨gW d (.bE k 1 j.size 0 0),[(k,Y (.arr e 1 j.size []))],[(k,I)]⟩,[],h)
     |true=>al
    |n,c,.int 1:: .nat k::h=>match nf (λi=>Y (i*j.size,j.size)) (en (n*j.size) .d') (c.zip (jy a)) with
     |none=>al
     |some cs=>match oa cs with
      |none=>al
      |some l=>match u k,cP (U l) (n*j.size),cP (U c) (U a),eh (n*j.size) 16777216,ey 0 j.size with
       |false,I,I,I,I=>Y (⟨gW d (.bE k 1 j.size 0 (U (nS j.size n l))),[(k,Y (.arr e 1 j.size (nS j.size n l)))],[(k,I)]⟩,[],h)
       |_,_,_,_,_=>al
    |n,c,.int 2:: .rows R::h=>match nf (λi=>Y (i*j.size,j.size)) (en (n*j.size) .d') (c.zip (jy a)) with
     |none=>al
     |some cs=>match oa cs with
      |none=>al
      |some l=>match cP (U l) (n*j.size),cP (U c) (U a),eh (n*j.size) 16777216 with
       |true,I,I=>Y (⟨gW d (.t (.bX R)),[],[]⟩,[.p (nS j.size n l=R)],h)
       |_,_,_=>al
    |n,c,.int 0::h=>match nf (λi=>Y (i*j.size,j.size)) (en (n*j.size) .d') (c.zip (jy a)) with
     |none=>al
     |some cs=>match oa cs with
      |none=>al
      |some l=>match cP (U l) (n*j.size),cP (U c) (U a),eh (n*j.size) 16777216 with
       |true,I,I=>Y (⟨gW d (.t (.bX (nS j.size n l))),[],[]⟩,[],h)
       |_,_,_=>al
    |_,_,_=>al
  |_=>al
mutual
def vi:V->Bool
 | .t (.int _ _)| .t (.bool _)| .t (.str _)=>I
 | .agg cs=>x1 cs
 | .dB cs=>x1 cs
 |_=>ao
def x1:List V->Bool
 | []=>I
 |c::cs=>vi c&&x1 cs
end
def Bm(H:Nat->Option E):V->Option (T×List eM)
 | .bE k g_ s_ h i=>match H k with
  |some (.arr _ c e a)=>Y (.bX a,[.q g_ c,.q s_ e,.q h 0,.q i (U a)])
  |some (.bn l m c a [])=>Y (.bX a,[.q g_ c,.q s_ (ba l m).size,.q h 0,.q i (U a)])
  |_=>al
 | .t x=>Y (kL x,[])
 |_=>al
def Gj(H:Nat->Option E):List V->Option (List T×List eM)
 | []=>Y ([],[])
 |v::a=>match Bm H v,Gj H a with
  |some (x,c),Y (e,h)=>Y (x::e,c++h)
  |_,_=>al
mutual
def pG(H:Nat->Option E):V->Option (V×List eM)
 | .bE k g_ s_ c h=>match Bm H (.bE k g_ s_ c h) with
  |some (x,a)=>Y (.t x,a)
  |none=>al
 | .t x=>Y (.t (kL x),[])
 | .bc cs=>Y (.bc cs,[])
 | .ref id c=>match H id with
  |some (.cells cs)=>match Gj H cs with
   |some (ts,a)=>Y (.bc (ts.drop c),a)
   |none=>al
  |_=>al
 | .agg cs=>match rl H cs with
  |some (e,a)=>Y (.agg e,a)
  |none=>al
 | .dB cs=>match rl H cs with
  |some (e,a)=>Y (.dB e,a)
  |none=>al
 | .fn f cs=>match rl H cs with
  |some (e,a)=>Y (.fn f e,a)
  |none=>al
 | .c' _ _ _ _ _=>al
 | .d'=>al
def rl(H:Nat->Option E):List V->Option (List V×List eM)
 | []=>Y ([],[])
 |v::a=>match pG H v,rl H a with
  |some (x,c),Y (e,h)=>Y (x::e,c++h)
  |_,_=>al
end
def VA:List dq->List dq
 | .nat _::hs=>VA hs
 |hs=>hs
def Mq(C:e8)(d:Option Tmp)(H:Nat->Option E)(a:List V)(e:List dq):kU:=
 match a with
 | .fn f c::args=>match VA (e.drop 1) with
  | .v r::e=>match rl H (args++c),vi r with
   |some (h,i),I=>Y (⟨gW d r,[],[]⟩,i++[.p (gT C.P C.G f h r)],e)
   |_,_=>al
  |_=>al
 |_=>al
def Ma(C:e8)(d:Option Tmp)(c:List V)(e:List dq):kU:=
 match c with
 | .fn f a::args=>match e with
  | .v r::e=>match V.hK iO (jy (args++a)) with
   |true=>Y (⟨gW d r,[],[]⟩,[.p (gT C.P C.G f (jy (args++a)) r)],e)
   |false=>al
  | .nat _:: .v r::e=>Y (⟨gW d r,[],[]⟩,[.p (V.hK iO (jy (args++a))=I),.p (gT C.P C.G f (jy (args++a)) r)],e)
  |_=>al
 |_=>al
def MD(C:e8)(d:Option Tmp)(h:List V)(H:Nat->Option E)(u:Nat->Bool)(l:List dq):kU:=
 match h with
 | .fn f i::args=>match l with
  | .eZ L a r out::l=>match ux L (jy (args++i)),xX L H L,F0 (L++a)&&Fq u a&&cP (U out) (U (L++a)) with
   |some c,Y jd,I=>Y (⟨gW d (r.fq (L++a)),(L++a).zip (out.map λe=>Y (e.fq (L++a))),(L++a).map λk=>(k,I)⟩,[.p (kF C.P C.G f jd c r out)],l)
   |_,_,_=>al
  |_=>al
 |_=>al
def LI(C:e8)(t:bM)(H:Nat->Option E)(v:V)(n:List dq):kU:=
 match eL C.df t with
 |none=>al
 |some i=>match i.u with
  | .slice e=>match eL C.df e with
   |none=>al
   |some j=>match v,n,oa (js j.z).cs with
    | .bE k g_ s_ l m,.rows R::n,Y o=>match H k,(js j.z).val with
     |some (.arr r h a c),I=>Y (⟨[],[(k,Y (.arr r h a R))],[]⟩,[.q h g_,.q a s_,.q (U o) s_,.p (l+m<=U c/\R=c.take l++en m (o.map kL)++c.drop (l+m))],n)
     |_,_=>al
    |_,_,_=>al
  |_=>al
def L8(C:e8)(d:Option Tmp)(t:bM)(H:Nat->Option E)(v w:V)(r:List dq):kU:=
 match eL C.df t with
 |none=>al
 |some i=>match i.u with
  | .slice e=>match eL C.df e with
   |none=>al
   |some j=>match v,p1 w,r with
    | .bE k g_ s_ n o,.t (.bX a),.rows R:: .nat m::r=>match H k,ey 0 j.size with
     |some (.arr x l c h),I=>Y (⟨gW d (.t (.int .i64 m)),[(k,Y (.arr x l c R))],[]⟩,
       [.q l g_,.q c s_,.q s_ j.size,.q m (Nat.min (U a) o),.p (Rows j.size a),.p (n+o<=U h/\R=h.take n++a.take m++h.drop (n+m))],r)
     |_,_=>al
    |_,_,_=>al
  |_=>al
def YQ:List dq->Bool
 | .eZ _ _ _ _::_=>I
 |_=>ao
def MN(C:e8)(o:Oper)(e:List V)(H:Nat->Option E)(u:Nat->Bool)(h:List dq):kU:=
 match l0 C.nt o.dst with
 |false=>al
 |true=>match o.op with
  | .box _ _=>match e with
   | [v]=>match WQ h with
    |true=>Mb o.dst v h
    |false=>x2 o.dst u v h
   |_=>al
  | .alloc t=>match eL C.df t with
   |some i=>x2 o.dst u (js i.z) h
   |none=>al
  | .store t _ _=>match o.dst,e with
   |none,[a,v]=>match LC C t H a v h with
    |some r=>Y r
    |none=>KZ C t H a v h
   |_,_=>al
  | .makeSlice t _ _=>match e with
   | [v,w]=>L5 C o.dst t u v w h
   |_=>al
  | .buildSlice t n l=>match My C o.dst t n (l.toList.map (·.1)) u e h with
   |some r=>Y r
   |none=>L6 C o.dst t n (l.toList.map (·.1)) u e h
  | .call c=>match c.callee with
   | .value _=>match YQ h with
    |true=>MD C o.dst e H u h
    |false=>match WQ h with
     |true=>Mq C o.dst H e h
     |false=>Ma C o.dst e h
   | .builtin .append=>match c.args.toList,c.argTypes.toList,e with
    | [_,_],[t,m],[v,w]=>match K2 C o.dst t m H v w h with
     |some r=>Y r
     |none=>J6 C o.dst t m H v w h
    |_,_,_=>al
   | .builtin .clear=>match o.dst,c.args.toList,c.argTypes.toList,e with
    |none,[_],[t],[v]=>LI C t H v h
    |_,_,_,_=>al
   | .builtin .copy=>match c.args.toList,c.argTypes.toList,e with
    | [_,_],[t,_],[v,w]=>L8 C o.dst t H v w h
    |_,_,_=>al
   | .builtin _=>match Bu C.P C.df H o.op e h with
    |some (v,k,h)=>Y (⟨gW o.dst v,[],[]⟩,k,h)
    |none=>al
   |_=>al
  |_=>match Bu C.P C.df H o.op e h with
   |some (v,k,h)=>Y (⟨gW o.dst v,[],[]⟩,k,h)
   |none=>al
theorem aho{z:bm}{a:List T}(k:(js z).val=I)(l:oa (js z).cs=Y a):z.cells.size=U a/\ ∀(w:bY) (X:Nat->Prop) (j:Nat) (u:bm) (x:T),z.cells[j]? =Y u->(a.map kL)[j]? =Y x->ei w X x u:=by
 have h:=fun(w:bY) (X:Nat->Prop)=>(Dq (⟨λ_=>al,λ_ _=>False⟩:Map) w X z).cells k;have i:=qS l;refine⟨by rw[(h default λ_=>False).1,i,er],λw X j u x m c=>?_⟩;rw[fG] at c;cases e:a[j]? with
 |none=>rw[e] at c;cases c
 |some y=>
  rw[e] at c;simp only[Option.map_some,Option.some.injEq] at c;subst c
  have:=(h w X).2 j (.t y) u (by rw[i,fG,e];rfl) m;cases this with
  |t _ _ n=>exact n.Cx
section steps
variable {K:Ctx}{s:S}{d:Option Tmp}{ty:bM}{pos:String}{af:Array Edge}{g:Option (Nat×Bool)}
variable {t:bM}{u:gF}{z:bm}{s_ bytes g_:Nat}
theorem aav(a:Array bm)(n i j:Nat)(h:i<n)(e:j<a.size):(fL a n).toList[i*a.size+j]? =a[j]? :=by
 have c:i*a.size+j<n*a.size:=by
  have:(i+1)*a.size<=n*a.size:=fj _ h
  grind
 have k:(i*a.size+j)%a.size=j:=by rw[Nat.mul_comm,Nat.mul_add_mod];exact Nat.mod_eq_of_lt e
 simp[fL,c,k,e]
theorem ahB(x:ct)(M c h:Nat)(e e':bM)(rows:List (List T))(B:List T)(hx:s.get x= .bE M g_ s_ c h)(hH:s.H M=Y (.arr e' g_ s_ rows))(fB:K.P.underlying t=Y (.slice e)){sz:Nat}(he:db K.P e u z sz bytes)
  (b0:(js z).val=I) (fo:oa (js z).cs=Y B) (R:U B=s_) (dm:c+h<=U rows):
  fe K ⟨al,.call {callee:= .builtin .clear,args:= #[x],argTypes:= #[t]},ty,pos,af,g⟩ s {s with H:=bw s.H M (Y (.arr e' g_ s_ (rows.take c++en h (B.map kL)++rows.drop (c+h))))}:=by
 intro β a w next Q cC N
 have W:=cC.get x;rw[hx] at W;have V:=(cC.heap M _ hH).2;obtain⟨q,dR⟩:=nH V;obtain⟨tz,WK⟩:=aho b0 fo;unfold Oper.wp;cases h with
 |zero=>
  obtain⟨lY,cap,o⟩: ∃lY cap,a.eval x= .slice lY 0 cap:=by
   rcases d6 W dR with ⟨cap,b,n,kO,o,_⟩|⟨_,_,_,o⟩
   ·exact⟨_,cap,o⟩
   exact⟨al,0,o⟩
  have A:(cE a.eval ⟨al,.call {callee:= .builtin .clear,args:= #[x],argTypes:= #[t]},ty,pos,af,g⟩).run K.P w= .ok (.value (.tuple #[])) w:=by
   cases lY<;>simp[cE,jV,jU,lp,o,Builtin.clear_,eR fB]
  rw[A]
  have:rows.take c++en 0 (B.map kL)++rows.drop (c+0)=rows:=aZ
  refine N β _ _ ?_;rw[this];exact cC.HZ M _ hH
 |succ h=>
  rcases d6 W dR with ⟨cap,b,n,kO,o,mP,hw,hs,dc,vH,hm⟩|⟨_,_,h0,_⟩
  ·subst mP;rcases V.2 with ⟨h1,_⟩|⟨dG,F,h1,h2,h3,h4,h5⟩
   ·rw[dR] at h1;cases h1
   rw[dR] at h1;cases h1;have G:z.cells.size=s_:=by rw[tz,R]
   have r:U (fL z.cells (h+1)).toList=(h+1)*s_:=by rw[sj,size_zeroCells,G]
   have rA:c*s_+(h+1)*s_<=F.size:=by
    have:(c+(h+1))*s_<=U rows*s_:=fj _ dm;rw[ft] at this;omega
   have y: ∀(i j:Nat) (u:bm),i<h+1->j<s_->(fL z.cells (h+1)).toList[i*s_+j]? =Y u->z.cells[j]? =Y u:=by
    intro i j u aO L hu;rw[<-G] at L hu
    rwa [aav _ _ _ _ aO L] at hu
   have ov: ∀v∈(fL z.cells (h+1)).toList,v.oneCell'=I:=by
    intro v alO;obtain⟨k,N⟩:=mY.1 alO;have p:=(cI.1 N).1;rw[r] at p;have hp:0<s_:=by
     rcases Nat.eq_zero_or_pos s_ with e0|e0
     ·rw[e0] at p;omega
     exact e0
    have hdiv:k / s_<h+1:=(zw hp).2 p;have Wo:k%s_<s_:=Nat.mod_lt _ hp;have qD:(fL z.cells (h+1)).toList[k / s_*s_+k%s_]? =Y v:=by rw[Nat.div_add_mod'];exact N
    have h9:=y _ _ _ hdiv Wo qD
    have:(B.map kL)[k%s_]? =Y (kL B[k%s_]):=by rw[fG,bO O];rfl
    exact(bI.t (β:=β) _ _ (WK w (λ_=>False) _ _ _ h9 this)).lf rfl
   have rH:=XL K.P b (c*s_) e' (fL z.cells (h+1)).toList 0 F w h2 (by rw[r];omega) ov;simp only[Nat.add_zero] at rH;have A:(cE a.eval ⟨al,.call {callee:= .builtin .clear,args:= #[x],argTypes:= #[t]},ty,pos,af,g⟩).run K.P w= .ok (.value (.tuple #[])) (w.setRow b (F.toList.take (c*s_)++(fL z.cells (h+1)).toList++F.toList.drop (c*s_+U (fL z.cells (h+1)).toList)).toArray):=by
    simp[cE,jV,jU,lp,o,Builtin.clear_,eR fB,he.ud,rH]
   rw[A];refine N β _ _ (Tp cC M b e' rows _ F _ hH dR h2 (by simp[r];omega) ?_ ?_ ?_)
   ·have:U (rows.take c++en (h+1) (B.map kL)++rows.drop (c+(h+1)))=U rows:=bV
    rw[this];exact h3
   ·intro m l;rw[fy,fy] at l;rcases l with (l|l)|l
    ·exact h4 m (hi l)
    ·rw[(zz.1 l).2,er];exact R
    exact h4 m (hl l)
   intro i j m lQ nJ aW a2 a3;have a3:(F.toList.take (c*s_)++(fL z.cells (h+1)).toList++F.toList.drop (c*s_+U (fL z.cells (h+1)).toList))[i*s_+j]? =Y nJ:=by simpa using a3
   rw[r] at a3;have C:U (F.toList.take (c*s_))=c*s_:=bV
   by_cases c1:i<c
   ·rw[hM,ll bV,iC,bk c1] at aW;have L:j<s_:=by rw[<-h4 m (ca aW)];exact(cI.1 a2).1
    have hlt:i*s_+j<c*s_:=qU c1 L;rw[hM,ll O,iC,bk hlt] at a3;exact .inl ⟨i,m,aW,a2,by simpa using a3⟩
   by_cases c2:i<c+(h+1)
   ·rw[ll bV,lk bV] at aW;have l:m=B.map kL:=by
     have:=ca aW;exact(zz.1 this).2
    subst l;have L:j<s_:=by rw[<-R,<-er (f:=kL)];exact(cI.1 a2).1
    have e1:i*s_+j=c*s_+((i-c)*s_+j):=by rw[Nat.sub_mul];have:=fj s_ (O:c<=i);omega
    have hlt:(i-c)*s_+j<(h+1)*s_:=qU O L;rw[e1,ll (by rw[ea,C,r];omega),lk O,C,Nat.add_sub_cancel_left] at a3;exact .inr λw X=>WK w X j _ _ (y _ _ _ O L a3) a2
   have E:U (rows.take c++en (h+1) (B.map kL))=c+(h+1):=bV
   rw[lk O,E,iS,show c+(h+1)+(i-(c+(h+1)))=i by omega] at aW;have L:j<s_:=by rw[<-h4 m (ca aW)];exact(cI.1 a2).1
   have jt:c*s_+(h+1)*s_<=i*s_+j:=by
    have:=fj s_ (O:c+(h+1)<=i);rw[ft] at this;omega
   rw[lk (by rw[ea,C,r];omega),ea,C,r,iS,show c*s_+(h+1)*s_+(i*s_+j-(c*s_+(h+1)*s_))=i*s_+j by omega] at a3;exact .inl ⟨i,m,aW,a2,by simpa using a3⟩
  omega
theorem ads(k h l c:Nat)(x y:ct)(e:bM)(rows:List (List T))(cN: ∀i,d=Y i->ey i K.nt=I)(hx:s.get x= .bE k g_ s_ 0 h)(hy:s.get y= .bE k g_ s_ l c)(hH:s.H k=Y (.arr e g_ s_ rows))
  (fB:K.P.underlying t=Y (.slice e)) (he:db K.P e u z s_ bytes) (hp:0<s_) (h1:h+c<=U rows) (h2:l+c<=U rows):
  fe K ⟨d,.call {callee:= .builtin .append,args:= #[x,y],argTypes:= #[t,t]},ty,pos,af,g⟩ s
   (({s with H:=bw s.H k (Y (.arr e g_ s_ (rows.take h++(rows.drop l).take c++rows.drop (h+c))))}:S).put d (.bE k g_ s_ 0 (h+c))):=by
 intro β a w next Q cC hkk
 have N:=cC.get x;rw[hx] at N;have o6:=cC.get y;rw[hy] at o6;have jL:=(cC.heap k _ hH).2;have l3:=jL.1;obtain⟨q,V⟩:=nH jL;obtain⟨_,i,pR,hi2,l4,tq⟩:=id he;unfold Oper.wp;cases c with
 |zero=>
  obtain⟨lY,cap,GQ⟩: ∃lY cap,a.eval y= .slice lY 0 cap:=by
   rcases d6 o6 V with ⟨cap,b,n,kO,r,_⟩|⟨_,_,_,r⟩
   ·exact⟨_,cap,r⟩
   exact⟨al,0,r⟩
  have alx:rows.take h++(rows.drop l).take 0++rows.drop (h+0)=rows:=aZ
  have R:(cE a.eval ⟨d,.call {callee:= .builtin .append,args:= #[x,y],argTypes:= #[t,t]},ty,pos,af,g⟩).run K.P w= .ok (.value (a.eval x)) w:=by
   rcases d6 N V with ⟨VN,b,n,kO,r,_,_,_,_,dm,_⟩|⟨_,_,_,r⟩
   ·cases lY<;>simp[cE,jV,jU,lp,r,GQ,Builtin.append_,eR fB,nV,qh,pR,Builtin.lenOf,Builtin.firstCells,dm,OT,su,ss]
   cases lY<;>simp[cE,jV,jU,lp,r,GQ,Builtin.append_,eR fB,nV,qh,pR,Builtin.lenOf,Builtin.firstCells,su,ss]
  rw[R];refine hkk β _ w ?_;have mN:bw s.H k (Y (E.arr e g_ s_ rows))=s.H:=by
   funext j;by_cases G:j=k
   ·subst G;rw[c6,hH]
   rw[cY _ _ _ _ G]
  rw[alx,mN];exact cC.put d cN N
 |succ c=>
  rcases d6 o6 V with ⟨ajw,b,n,kO,GQ,mP,hw,hs,dc,vH,hm⟩|⟨_,_,h0,_⟩
  ·subst mP;rcases d6 N V with ⟨B,iG,NV,am',r,o4,BZ,BS,vK,anZ,yv⟩|⟨h0,_⟩
   ·cases o4;rcases jL.2 with ⟨g1,_⟩|⟨dG,C,g1,g2,g3,g4,g5⟩
    ·rw[V] at g1;cases g1
    rw[V] at g1;cases g1;have WG:C.size=NV:=by
     unfold iV at BS;rw[g2] at BS;simp at BS;exact BS.2
    obtain⟨F,WI⟩: ∃F,F=(C.toList.drop (l*s_)).take ((c+1)*s_):=⟨_,rfl⟩
    have hle:(l+(c+1))*s_<=C.size:=iD (fj _ h2) g3;rw[ft] at hle;have L:U F=(c+1)*s_:=by rw[WI];simp;omega
    have W: ∀j v,F[j]? =Y v->C[l*s_+j]? =Y v/\j<(c+1)*s_:=λj v b0=>by
     have G:=(cI.1 b0).1;rw[L] at G;rw[WI,iC,bk G,iS] at b0;exact⟨by simpa using b0,G⟩
    have alw: ∀A,A<U rows-> ∃m,rows[A]? =Y m/\(U m)=s_:=λA vG=>⟨_,bO vG,g4 _ (gd vG)⟩
    have M9: ∀j v,F[j]? =Y v->w.cell? ((⟨b,l*s_,al⟩:Addr).add j)=Y v:=λj v b0=>by
     rw[l2];simp only[World.cell?,g2];exact(W j v b0).1
    have ov: ∀v,v∈F->v.oneCell'=I:=λv b0=>by
     obtain⟨j,G⟩:=mY.1 b0;obtain⟨h3,h4⟩:=W j v G;have Wo:j%s_<s_:=Nat.mod_lt _ hp;have hdiv:j / s_<c+1:=(zw hp).2 h4;obtain⟨m,tu,yy⟩:=alw (l+j / s_) O;have akC:(l+j / s_)*s_+j%s_=l*s_+j:=by rw[ft,sg,Nat.div_add_mod']
     exact(g5 (l+j / s_) (j%s_) m m[j%s_] v tu (bO O) (by rw[akC];exact h3)).lf
    have rA:h*s_+U F<=C.size:=by
     rw[L,<-ft];exact iD (fj _ h1) g3
    have X:h+(c+1)<=B:=by
     have:(h+(c+1))*s_<=B*s_:=by
      rw[e6] at vK;rw[vK,<-WG];exact iD (fj _ h1) g3
     exact Nat.le_of_mul_le_mul_right this hp
    have f:=run_append_room (P:=K.P) w t ty e i fB pR b h B C g2 ⟨b,l*s_,al⟩ (c+1) ajw F (by rw[l4];exact L) M9 ov X (by rw[l4];exact rA);rw[l4] at f;have R:(cE a.eval ⟨d,.call {callee:= .builtin .append,args:= #[x,y],argTypes:= #[t,t]},ty,pos,af,g⟩).run K.P w= .ok (.value (.slice (Y ⟨b,0,al⟩) (h+(c+1)) B)) (w.setRow b (C.toList.take (h*s_)++F++C.toList.drop (h*s_+U F)).toArray):=by
     rw[jC] at r;simp[cE,jV,jU,lp,r,GQ,f]
    rw[R];have yC:U (C.toList.take (h*s_))=h*s_:=bV
    have vN:(C.toList.take (h*s_)++F++C.toList.drop (h*s_+U F)).toArray.size=C.size:=bV
    have p:U (rows.take h)=h:=by rw[dW];omega
    have M:U ((rows.drop l).take (c+1))=c+1:=by rw[dW,hY];omega
    have hrel:=Tp cC k b e rows (rows.take h++(rows.drop l).take (c+1)++rows.drop (h+(c+1))) C _ hH V g2 vN ?_ ?_ ?_
    ·refine hkk β _ _ (hrel.put d cN ?_);have ny:bI β (w.setRow b (C.toList.take (h*s_)++F++C.toList.drop (h*s_+U F)).toArray) (own K β (bw s.H k (Y (.arr e g_ s_ (rows.take h++(rows.drop l).take (c+1)++rows.drop (h+(c+1))))))) (.bE k g_ s_ 0 (h+(c+1))) (.slice (Y ⟨b,0*s_,al⟩) (h+(c+1)) B):=by
      refine .bE k g_ s_ 0 _ B b NV e l3 V (by simpa using BZ) ?_ vK X yv;unfold iV;rw[setRow_heap _ _ _ _ _ _ g2];simp only[vN,WG]
     rw[jC] at ny;exact ny
    ·rw[ea,ea,p,M,hY]
     have:h+(c+1)+(U rows-(h+(c+1)))=U rows:=O
     rw[this];exact g3
    ·intro m o;rw[fy,fy] at o;rcases o with (o|o)|o
     ·exact g4 m (hi o)
     ·exact g4 m (hl (hi o))
     exact g4 m (hl o)
    intro A j m lQ nJ aW a2 a3;have a3:(C.toList.take (h*s_)++F++C.toList.drop (h*s_+U F))[A*s_+j]? =Y nJ:=by simpa using a3
    refine .inl ?_;by_cases c1:A<h
    ·rw[hM,ll O,iC,bk c1] at aW;have G:j<s_:=by rw[<-g4 m (ca aW)];exact(cI.1 a2).1
     have hlt:A*s_+j<h*s_:=qU c1 G;rw[hM,ll O,iC,bk hlt] at a3;exact⟨A,m,aW,a2,by simpa using a3⟩
    by_cases c2:A<h+(c+1)
    ·rw[ll (by rw[ea];omega),lk O,p,iC,bk O,iS] at aW;have G:j<s_:=by rw[<-g4 m (ca aW)];exact(cI.1 a2).1
     have e1:A*s_+j=h*s_+((A-h)*s_+j):=by rw[Nat.sub_mul];have:=fj s_ (O:h<=A);omega
     have hlt:(A-h)*s_+j<(c+1)*s_:=qU O G;rw[e1,ll (by rw[ea,yC,L];omega),lk O,yC,Nat.add_sub_cancel_left] at a3;have h9:=(W _ _ a3).1;exact⟨l+(A-h),m,aW,a2,by rw[ft,sg];exact h9⟩
    have ak3:U (rows.take h++(rows.drop l).take (c+1))=h+(c+1):=by rw[ea,p,M]
    rw[lk O,ak3,iS,show h+(c+1)+(A-(h+(c+1)))=A by omega] at aW;have G:j<s_:=by rw[<-g4 m (ca aW)];exact(cI.1 a2).1
    have jt:h*s_+(c+1)*s_<=A*s_+j:=by
     have:=fj s_ (O:h+(c+1)<=A);rw[ft] at this;omega
    rw[lk (by rw[ea,yC,L];omega),ea,yC,L,iS,show h*s_+(c+1)*s_+(A*s_+j-(h*s_+(c+1)*s_))=A*s_+j by omega] at a3;exact⟨A,m,aW,a2,by simpa using a3⟩
   rw[V] at *; cases h0
  omega
theorem aci(k X:Nat)(x y:ct)(e p:bM)(r:List (List T))(v: ∀i,d=Y i->ey i K.nt=I)(E:s.get x= .bE k g_ s_ 0 X)(M:eP (s.get y) (.t (.bX [])))(N:s.H k=Y (.arr p g_ s_ r))
  (f:K.P.underlying t=Y (.slice e)) (V:db K.P e u z s_ bytes) (hp:0<s_):
  fe K ⟨d,.call {callee:= .builtin .append,args:= #[x,y],argTypes:= #[t,t]},ty,pos,af,g⟩ s (s.put d (.bE k g_ s_ 0 X)):=by
 intro β a w next Q G L
 have h:=G.get x;rw[E] at h;have R:=M _ _ _ _ (G.get y);have W:=(G.heap k _ N).2;obtain⟨q,dR⟩:=nH W;obtain⟨_,i,A,hi2,l4,tq⟩:=id V;unfold Oper.wp;obtain⟨m,cap,B⟩: ∃m cap,a.eval y= .slice m 0 cap:=by
  rcases EC R (Rows.nil s_) hp with (⟨C,_⟩|⟨b,o,c,_,C,_⟩)|⟨_,m,cap,C⟩
  ·exact⟨al,0,C⟩
  ·exact⟨_,c,C⟩
  exact⟨m,cap,C⟩
 have F:(cE a.eval ⟨d,.call {callee:= .builtin .append,args:= #[x,y],argTypes:= #[t,t]},ty,pos,af,g⟩).run K.P w= .ok (.value (a.eval x)) w:=by
  rcases d6 h dR with ⟨j,b,n,kO,l,_,_,_,_,dm,_⟩|⟨_,_,_,l⟩
  ·cases m<;>simp[cE,jV,jU,lp,l,B,Builtin.append_,eR f,nV,qh,A,Builtin.lenOf,Builtin.firstCells,dm,OT,su,ss]
  cases m<;>simp[cE,jV,jU,lp,l,B,Builtin.append_,eR f,nV,qh,A,Builtin.lenOf,Builtin.firstCells,su,ss]
 rw[F];exact L β _ w (G.put d v h)
theorem aeu{s_ off:Nat}{a c:List (List T)}{us cs:List bm}(y:off+m<=U a)(C:U a*s_<=U us)(q:U cs=m*s_)(F:m<=U c)(r: ∀e,e∈a->U e=s_)(l: ∀e,e∈c->U e=s_){R:T->bm->Prop}
  (w: ∀(i j:Nat) (e:List T) (x:T) (u:bm),a[i]? =Y e->e[j]? =Y x->us[i*s_+j]? =Y u->R x u)
  (A: ∀(i j:Nat) (e:List T) (x:T) (u:bm),c[i]? =Y e->e[j]? =Y x->cs[i*s_+j]? =Y u->R x u):
  ∀(i j:Nat) (e:List T) (x:T) (u:bm),(a.take off++c.take m++a.drop (off+m))[i]? =Y e->e[j]? =Y x->(us.take (off*s_)++cs++us.drop (off*s_+U cs))[i*s_+j]? =Y u->R x u:=by
 have G:off*s_+m*s_<=U a*s_:=by rw[<-ft];exact fj _ y
 have B:=E8 (us.take (off*s_)) cs [] (rows:=a.take off) (news:=c.take m) (n:=off) (s_:=s_) (by rw[dW];omega) (by rw[dW];omega) (by rw[dW,q];congr 1;omega)
  (λe h=>r e (hi h)) (λe h=>l e (hi h)) (R:=R)
  (λk j e x u aW a2 a3=>by
   rw[iC] at aW a3;split at aW
   ·split at a3
    ·exact w k j e x u aW a2 a3
    cases a3
   cases aW)
  (λk j e x u aW a2 a3=>by
   rw[iC] at aW;split at aW
   ·exact A k j e x u aW a2 a3
   cases aW)
 have o:U (us.drop (off*s_+U cs))=U us-(off+m)*s_:=by rw[hY,q,ft]
 have gU:=E8 (us.take (off*s_)++cs) ((us.drop (off*s_+U cs)).take ((U a-(off+m))*s_)) ((us.drop (off*s_+U cs)).drop ((U a-(off+m))*s_)) (rows:=a.take off++c.take m) (news:=a.drop (off+m)) (n:=off+m) (s_:=s_)
  (by rw[ea,dW,dW];omega) (by rw[ea,dW,q,ft];omega)
  (by
   rw[dW,o,hY]
   have:(U a-(off+m))*s_=U a*s_-(off+m)*s_:=Nat.sub_mul _ _ _;omega)
  (λe h=>by
   rcases fy.1 h with h|h
   ·exact r e (hi h)
   exact l e (hi h)) (λe h=>r e (hl h)) (R:=R) (λk j e x u aW a2 a3=>B k j e x u aW a2 (by simpa using a3))
  (λk j e x u aW a2 a3=>by
   rw[iS] at aW;rw[iC] at a3;split at a3
   ·rw[iS,q] at a3;refine w (off+m+k) j e x u aW a2 ?_;rw[ft,ft,sg];exact a3
   cases a3)
 intro i j e x u aW a2 a3;refine gU i j e x u aW a2 ?_;rw[hM _ (List.take _ _),zy];exact a3
theorem aiU(x y:ct)(M c len:Nat)(e e' lI:bM)(rows k:List (List T))(cN: ∀i,d=Y i->ey i K.nt=I)(hx:s.get x= .bE M g_ s_ c len)(hy:eP (s.get y) (.t (.bX k)))(hH:s.H M=Y (.arr e' g_ s_ rows))(fB:K.P.underlying t=Y (.slice e))
  (he:db K.P e u z s_ bytes) (hp:0<s_) (N: ∀A,A∈k->U A=s_) (dm:c+len<=U rows):
  fe K ⟨d,.call {callee:= .builtin .copy,args:= #[x,y],argTypes:= #[t,lI]},ty,pos,af,g⟩ s
   (({s with H:=bw s.H M (Y (.arr e' g_ s_ (rows.take c++k.take (Nat.min (U k) len)++rows.drop (c+Nat.min (U k) len))))}:S).put d (.t (.int .i64 (Nat.min (U k) len:Nat)))):=by
 intro β a w next Q cC hk
 have V:=cC.get x;rw[hx] at V;have o6:=hy _ _ _ _ (cC.get y);have jL:=(cC.heap M _ hH).2;obtain⟨q,dR⟩:=nH jL;obtain⟨_,i,pR,hi2,l4,tq⟩:=he;unfold Oper.wp;have alV: ∃F c1,a.eval x= .slice F len c1:=by
  rcases d6 V dR with ⟨G,b,n,kO,C,_⟩|⟨_,_,h0,C⟩
  ·exact⟨_,G,C⟩
  subst h0;exact⟨al,0,C⟩
 have f:=EC o6 N hp;have al0: ∃Oe c2,a.eval y= .slice Oe (U k) c2:=by
  rcases f with (⟨B,p⟩|⟨b,c,G,W,B,_⟩)|⟨p,lY,G,B⟩
  ·subst p;exact⟨al,0,B⟩
  ·exact⟨_,_,B⟩
  subst p;exact⟨lY,G,B⟩
 obtain⟨m,hm⟩: ∃m,m=Nat.min (U k) len:=⟨_,rfl⟩
 rw[<-hm] at hk;by_cases vI:m=0
 ·subst vI;obtain⟨F,c1,C⟩:=alV;obtain⟨Oe,c2,B⟩:=al0;have L:(cE a.eval ⟨d,.call {callee:= .builtin .copy,args:= #[x,y],argTypes:= #[t,lI]},ty,pos,af,g⟩).run K.P w= .ok (.value (goInt ((0:Nat):Int))) w:=by
   cases F<;>cases Oe<;>simp[cE,jV,jU,lp,C,B,Builtin.copy_,eR fB,nV,qh,pR,Builtin.lenOf,Builtin.firstCells,<-hm,su,ss,OT]
  rw[L]
  have:rows.take c++k.take 0++rows.drop (c+0)=rows:=aZ
  rw[this] at hk;exact hk β _ _ ((cC.HZ M _ hH).put d cN (.t _ _ (.int _ _)))
 have an2:m<=len:=by rw[hm];exact Nat.min_le_right _ _
 have o:m<=U k:=by rw[hm];exact Nat.min_le_left _ _
 rcases f with (⟨_,p⟩|⟨dG,amH,GB,E,B,qG,Nv,qF,hwr⟩)|⟨p,_⟩
 ·subst p;simp at o;exact bu o vI
 ·rcases d6 V dR with ⟨G,b,n,kO,C,mP,hw,hs,p,vH,rD⟩|⟨_,_,h0,_⟩
  ·subst mP;rcases jL.2 with ⟨h1,_⟩|⟨fb,W,h1,h2,h3,h4,h5⟩
   ·rw[dR] at h1;cases h1
   rw[dR] at h1;cases h1;have X:U (E.take (m*s_))=m*s_:=by rw[dW,qG];have:=fj s_ o;omega
   have rA:c*s_+m*s_<=W.size:=by
    have:(c+m)*s_<=U rows*s_:=fj _ O;rw[ft] at this;omega
   have Wl:=run_loadCells_list (P:=K.P) w ⟨dG,amH,al⟩ (E.take (m*s_)) (λj y hj=>by
    rw[l2];rw[iC] at hj;split at hj
    ·exact Nv j y hj
    cases hj)
   have rH:=XL K.P b (c*s_) e' (E.take (m*s_)) 0 W w h2 (by rw[X];omega) λv b0=>qF v (hi b0);simp only[Nat.add_zero] at rH;rw[X] at Wl;have L:(cE a.eval ⟨d,.call {callee:= .builtin .copy,args:= #[x,y],argTypes:= #[t,lI]},ty,pos,af,g⟩).run K.P w= .ok (.value (goInt (m:Int))) (w.setRow b (W.toList.take (c*s_)++E.take (m*s_)++W.toList.drop (c*s_+U (E.take (m*s_)))).toArray):=by
    simp[cE,jV,jU,lp,C,B,Builtin.copy_,eR fB,nV,qh,pR,l4,Builtin.lenOf,Builtin.firstCells,<-hm,Wl,rH]
   rw[L];have jc:(W.toList.take (c*s_)++E.take (m*s_)++W.toList.drop (c*s_+U (E.take (m*s_)))).toArray.size=W.size:=by
    have h2: ∀l:List bm,l.toArray.size=U l:=λl=>aZ
    rw[h2];simp only[List.length_append,X,List.length_take,List.length_drop,Array.length_toList];omega
   have hlen:U (rows.take c++k.take m++rows.drop (c+m))=U rows:=bV
   have mO:own K β s.H b:= .inr ⟨M,by rw[hH];simp,.inl ⟨_,dR⟩⟩;refine hk β _ _ (Rel.put (Rel.setRow cC M b (.inl ⟨_,dR⟩) W e' h2 _ jc (.arr e' g_ s_ (rows.take c++k.take m++rows.drop (c+m))) (by rw[hH];simp)
    ⟨jL.1,Or.inr ⟨b,_,dR,setRow_heap _ _ _ _ _ _ h2,by rw[jc,hlen];exact h3,λA r=>?_,λi j A x u aW a2 a3=>?_⟩⟩) d cN (.t _ _ (.int _ _)))
   ·rw[fy,fy] at r;rcases r with (r|r)|r
    ·exact h4 A (hi r)
    ·exact N A (hi r)
    exact h4 A (hl r)
   have h9:=aeu (off:=c) (m:=m) (us:=W.toList) (cs:=E.take (m*s_)) O (by simpa using h3) X o h4 N (R:=λx u=>ei w (own K β s.H) x u) (λi j A x u dQ dG fb=>h5 i j A x u dQ dG (by simpa using fb))
    (λi j A x u dQ dG fb=>by
     rw[iC] at fb;split at fb
     ·exact hwr i j A x u dQ dG fb
     cases fb) i j A x u aW a2 (by simpa using a3)
   refine h9.mono ⟨rfl,rfl,rfl,aZ,λkk _ hx=>setRow_other _ _ _ _ λe0=>hx ?_⟩ λ_ _ h=>h;subst e0;exact mO
  omega
 subst p;simp at o;exact bu o vI
end steps
end
section
variable {P:ee}{r:List Nat}{o:Oper}{a:List V}{v:V}{b:S}{c i m rG R:List dq}{k n g_ s_:Nat}{e:dY}{e':E}{l ni M:List eM}{t G:bM}{x y:ct}{u:Nat->Bool}{z:bm}
theorem cZ.sub{H r:Nat->Option E}(h:cZ P H o a v)(c: ∀k e,H k=Y e->r k=Y e):cZ P r o a v:=
 λβ w X i l m=>h β w X i (λid e n=>l id e (c id e n)) m
theorem fe.OA{K:Ctx}{s c:S}(h:fe K o s b)(m: ∀β a w,Rel K β b a w->Rel K β c a w):fe K o s c:=
 λβ a w next Q n q=>h β a w next Q n λe k l i=>q e k l (m e k l i)
theorem ah2{K:Ctx}{β:Map}{H:Nat->Option E}{e:E}(l:H k=Y e):own K β (bw H k (Y e'))=own K β H:=by
 funext b;apply propext;constructor
 ·rintro(h|⟨id,i,a⟩)
  ·exact .inl h
  by_cases c:id=k
  ·subst c;exact .inr ⟨id,by rw[l];simp,a⟩
  rw[cY _ _ _ _ c] at i;exact .inr ⟨id,i,a⟩
 rintro(h|⟨id,i,a⟩)
 ·exact .inl h
 by_cases c:id=k
 ·subst c;exact .inr ⟨id,by rw[c6];simp,a⟩
 exact .inr ⟨id,by rw[cY _ _ _ _ c];exact i,a⟩
theorem Rel.Xg{K:Ctx}{β:Map}{s:S}{a:Act}{w:bY}(h:Rel K β s a w)(k:Nat){e:E}(m:s.H k=Y e)(q: ∀X,dJ β w X k e->dJ β w X k e'):Rel K β {s with H:=bw s.H k (Y e')} a w:=by
 have eI:=ah2 (K:=K) (β:=β) (e':=e') m;refine {h with heap:= ?_,eE:= ?_}
 ·intro id l n;show _/\dJ β w (own K β (bw s.H k (Y e'))) id l;rw[eI];by_cases o:id=k
  ·subst o;have c:bw s.H id (Y e') id=Y l:=n;rw[c6] at c;cases c;obtain⟨r,x⟩:=h.heap id e m
   grind
  have c:bw s.H k (Y e') id=Y l:=n;rw[cY _ _ _ _ o] at c;exact h.heap id l c
 intro i;show bI β w (own K β (bw s.H k (Y e'))) _ _;rw[eI];exact h.eE i
section
variable {K:Ctx}{s:S}{d:Option Tmp}{ty:bM}{pos:String}{af:Array Edge}{g:Option (Nat×Bool)}
theorem TJ{f:FuncId}{c:ct}{l:Array ct}{n:Array bM}(k:List V)(args:List V)(r:V)
  (R:gw K.P f) (W:s.get c= .fn f k) (b: ∀i,d=Y i->ey i K.nt=I) (j:ht (l.toList.map s.get++k) args) (p:V.hK iO args=I) (h:Jk K.P K.G f args r):
  fe K ⟨d,.call {callee:= .value c,args:=l,argTypes:=n},ty,pos,af,g⟩ s (s.put d r):=by
 obtain⟨L,t,v,M⟩:=R;intro β a w next Q o N
 have z:L.name≠ "runtime.NumGoroutine" :=by simpa using v
 have A:L.body≠al:=by intro e;simp[e] at M
 obtain⟨us,B,F⟩:=(W▸o.get c).MP;have q:(cE a.eval ⟨d,.call {callee:= .value c,args:=l,argTypes:=n},ty,pos,af,g⟩).run K.P w= .ok (.enter f (l.map a.eval++us)) w:=by
  simp[cE,jV,Deferred.ofValue,B,jU,callFunc,t,z,A]
 unfold Oper.wp;rw[q,Oper.upon_enter];have m:=(eG.le ((o.qz l.toList).app F) j).NX p;have x:=h w (own K β s.H) _ o.GG o.NY m;have T:(cb a.eval l.toList++us.toList).toArray=l.map a.eval++us:=by rw[<-zC,<-Array.toList_append]
 rw[T] at x;refine x.mono ?_;rintro e bZ ⟨u,rfl,y,hu⟩;exact N β _ bZ ((o.grow y).put d b (hu.any λ_ h=>h))
theorem uK{s:S}{d:Option Tmp}{e:E}:dY.app ⟨gW d v,[(k,Y e)],[(k,I)]⟩ s=(s.new k e).put d v:=by cases d<;>rfl
theorem qR{s:S}{d:Option Tmp}:dY.app ⟨gW d v,[],[]⟩ s=s.put d v:=by cases d<;>rfl
theorem agx(a: ∀k,u k=ao->s.u k=ao)(m:l0 K.nt d=I)(n:s.get x=v)
  (h:x2 d u v i=Y (e,l,c)):fe K ⟨d,.box t x,ty,pos,af,g⟩ s (e.app s):=by
 unfold x2 at h;split at h
 ·split at h
  ·rename_i o q;cases h;rw[uK];exact YJ _ (a _ o) x v (jv m) n q
  cases h
 cases h
theorem ahp{H:Nat->Option E}(x:ct)(v:V)(i:List T)(n:v.val=I)(k:v.cs=i.map .t):F' P H ⟨d,.box t x,ty,pos,af,g⟩ [v] (.bc i):=by
 intro β w X a _ o q;obtain⟨l,r⟩:=(show bI β w X v (a x) from q.1).cells n;have c:(cE a ⟨d,.box t x,ty,pos,af,g⟩).run P w= .ok (.value (.pointer (Y ⟨w.heap.size,0,al⟩))) (w.alloc (.cells (a x).cells t)):=by
  simp[cE,Instr.box,newVar,newRow]
 refine⟨_,_,c,Ext.alloc _ _ _,?_⟩;refine .bc i w.heap.size 0 (λj=>(a x).cells.getD j undef) aZ (λh=>by have:=o _ h;omega) (λj e=>?_) λj y m=>?_
 ·rw[e6,World.cell?_alloc_new]
  have:j<(a x).cells.size:=by rw[l,k];simpa using e
  simp[this]
 have e:j<(a x).cells.size:=by rw[l,k,er];exact(cI.1 m).1
 have z:=r j (.t y) (a x).cells[j] (by rw[k,fG,m];rfl) (by simp[e]);cases z with
 |t _ _ h=>
  have:(a x).cells.getD j undef=(a x).cells[j]:=by simp[e]
  rw[this];exact h.mono (Ext.alloc X _ _) λ_ _ h=>h
theorem ae5(a:l0 K.nt d=I)(k:s.get x=v)
  (h:Mb d v i=Y (e,l,c)):fe K ⟨d,.box t x,ty,pos,af,g⟩ s (e.app s):=by
 unfold Mb at h;split at h
 ·split at h
  ·rename_i m n o;cases h;rw[qR];exact IW (vals:=[p1 v]) (jv a) ⟨k▸xB _,trivial⟩ (ahp x _ m n (qS o))
  cases h
 cases h
theorem aem{a:List (Nat×eC)}(n:fm K.P a){i:eC}(o:eL a t=Y i)(q: ∀k,u k=ao->s.u k=ao)(r:l0 K.nt d=I)
  (h:x2 d u (js i.z) m=Y (e,l,c)):fe K ⟨d,.alloc t,ty,pos,af,g⟩ s (e.app s):=by
 unfold x2 at h;split at h
 ·split at h
  ·rename_i x y;cases h;rw[uK];obtain⟨B,A,_⟩:=n _ _ o;exact ahC _ (q _ x) (jv r) A y
  cases h
 cases h
theorem aef{F:List (Nat×eC)}(j:fm K.P F){C:e8}(p:C.df=F){H:Nat->Option E}{a:V}{G l:List dq}{L:List eM}(Q: ∀k e,H k=Y e->s.H k=Y e)
  (R:s.get x=a) (W:s.get y=v) (h:LC C t H a v G=Y (e,L,l)) (m:dw L):fe K ⟨al,.store t x y,ty,pos,af,g⟩ s (e.app s):=by
 subst p;unfold LC at h;split at h
 ·cases h
 rename_i i u;obtain⟨C8,b,_⟩:=j _ _ u;split at h
 ·split at h
  ·rename_i cs n;split at h
   ·rename_i o q z M;cases h;exact ahA _ _ _ _ cs v R W (Q _ _ n) b o q z M
   cases h
  cases h
 ·split at h
  ·rename_i N f T c vs r A G n B;split at h
   ·rename_i o q z;cases h;obtain⟨rfl,rfl,cC,rfl,_⟩:=m;exact adr x y _ _ _ N c r vs R (v:=p1 v) (by rw[W];exact xB v) (qS B) o (Q _ _ n) b cC (eg q) (fJ z)
   cases h
  cases h
 cases h
theorem E9{k i n:Nat}: ∀{m:List (Nat×Nat×V)},dw (xO k i n m)-> ∀e c l,(e,c,l)∈m->i<=c->c<i+n->e=k
 |h::m,a,e,c,l,hm,o,q=>by
  simp only[xO] at a;rcases eN.1 hm with rfl|hm
  ·have x:eh i c=I:=Nat.ble_eq_true_of_le o;have y:ey c (i+n)=I:=by simpa[Nat.blt_eq] using q
   simp only[x,y,Bool.and_self,cond_true] at a;exact a.1
  cases r:(eh i h.2.1&&ey h.2.1 (i+n)) with
  |true=>rw[r] at a;exact E9 a.2 e c l hm o q
  |false=>rw[r] at a;exact E9 a e c l hm o q
theorem E'{k off n:Nat}: ∀{l:List (Nat×Nat×V)},dw (xP k off n l)-> ∀e c i,(e,c,i)∈l->off<=c->c<off+n->e≠k
 | [],_,_,_,_,hm,_,_=>by cases hm
 |h::l,a,e,c,i,hm,m,o=>by
  unfold xP at a;rcases eN.1 hm with rfl|hm
  ·have r:eh off c=I:=Nat.ble_eq_true_of_le m;have x:ey c (off+n)=I:=by simpa[Nat.blt_eq] using o
   simp only[r,x,Bool.and_self,cond_true] at a;exact a.1
  cases q:(eh off h.2.1&&ey h.2.1 (off+n)) with
  |true=>rw[q] at a;exact E' a.2 e c i hm m o
  |false=>rw[q] at a;exact E' a e c i hm m o
theorem acf{C:e8}(k7:fm K.P C.df){H:Nat->Option E}{a:V}{T:List dq}(hH: ∀k e,H k=Y e->s.H k=Y e)
  (F:s.get x=a) (hy:s.get y=v) (h:KZ C t H a v T=Y (e,ni,rG)) (G:dw ni):fe K ⟨al,.store t x y,ty,pos,af,g⟩ s (e.app s):=by
 unfold KZ at h;split at h
 ·rename_i i id g_ sz k L r T aO;obtain⟨C8,fB,_⟩:=k7 _ _ aO;split at h
  ·rename_i Γ m Q z eI mQ;split at h
   ·rename_i l o jK;cases h;simp only[cJ] at o;obtain⟨rfl,fo,cC,dR⟩:=G;obtain⟨oH,R⟩:=dw.app dR;obtain⟨dQ,dG⟩:=z7 jK oH;refine abM x y _ _ _ Γ m z r v eI F hy o.1 o.2.1 (hH _ _ mQ) fo fB (eg o.2.2.1) (by simpa[Nat.blt_eq] using o.2.2.2.2) cC (fJ o.2.2.2.1) (E9 R) λj hj=>?_;have hj':=bO (show j<(l.map (·.2)).length by simp[dQ];exact hj)
    grind
   cases h
  cases h
 ·rename_i i id g_ sz k L q n r T aO;obtain⟨C8,fB,_⟩:=k7 _ _ aO;split at h
  ·rename_i Γ m Q z eI mQ;split at h
   ·rename_i l o jK;cases h;simp only[cJ] at o;obtain⟨rfl,fo,cC,dR⟩:=G;obtain⟨oH,R⟩:=dw.app dR;obtain⟨R,wx⟩:=dw.app R;obtain⟨wx,Xc⟩:=dw.app wx;obtain⟨dQ,dG⟩:=z7 jK oH;have W:=eg o.2.2.1;have b: ∀x,x∈(eI.drop q.toNat).take n->x∈eI:=λx F=>hl (hi F);have B: ∀x,x∈eI->x∈eI.take q.toNat\/x∈(eI.drop q.toNat).take n\/x∈(eI.drop q.toNat).drop n:=λx F=>by
     rw[<-zy q.toNat eI,fy] at F;rcases F with h|h
     ·exact .inl h
     rw[<-zy n (eI.drop q.toNat),fy] at h
     grind
    refine PM x y _ _ _ Γ m z r v eI F hy o.1 o.2.1 (hH _ _ mQ) fo fB W (by simpa[Nat.blt_eq] using o.2.2.2.2) cC (fJ o.2.2.2.1) (λu M N hm=>?_) (λu M f hm=>?_) λj hj=>?_
    ·rcases fy.1 hm with c|c
     ·exact⟨N,hi c,λA=>bu A.1 (E' wx u M N c A.2.1 A.2.2),λ_=>rfl⟩
     rcases fy.1 c with c|c
     ·obtain⟨f,aW,a2,a3⟩:=Kf c;refine⟨f,b _ aW,λA=>?_,λA=>a3 λp=>A ⟨E9 R u M f aW p.1 O,p.1,O⟩⟩
      grind
     exact⟨N,hl (hl c),λA=>bu A.1 (E' Xc u M N c A.2.1 A.2.2),λ_=>rfl⟩
    ·rcases B _ hm with c|c|c
     ·exact⟨f,fy.2 (.inl c)⟩
     ·obtain⟨v1,h2⟩:=KP (off:=L) (vs:=v.cs) c
      grind
     exact⟨f,fy.2 (.inr (fy.2 (.inr c)))⟩
    have hj':=bO (show j<(l.map (·.2)).length by simp[dQ];exact hj)
    grind
   cases h
  cases h
 cases h
theorem fe.anh{K:Ctx}{s c:S}(h:fe K o s b)(q:b.le K c):fe K o s c:=
 λβ a w next Q r x=>h β a w next Q r λi m n k=>let ⟨e,l⟩:=q i m n k;x e m n l
theorem RJ{z:List T}: ∀{l:List (Nat×Nat)} {j m:Nat},A6 z l=I->xN l j=Y m->z[j]? =Y .hd
 |p::l,j,m,h,a=>by
  simp only[A6,cJ] at h;simp only[xN] at a;cases c:cP p.1 j with
  |true=>
   rw[<-eg c];have e:=h.1;split at e
   ·assumption
   cases e
  |false=>rw[c] at a;exact RJ h.2 a
theorem aeq{K:Ctx}{s:S}(k:Nat){p:bM}{e:Nat}{z:List T}(l:List ez)(m:Nat)(G:s.H k=Y (.arr p g_ e (en n z)))(B:(ba l m).ty=p)(L:(ba l m).size=e)
  (N:A6 z (ba l m).rS=I):s.le K {s with H:=bw s.H k (Y (.bn l m g_ (en n (z.map kL)) []))}:=by
 intro β a w h;refine⟨_,h.drop k (.bn l m g_ (en n (z.map kL)) []) (by rw[G];simp) ?_⟩;have o:=(h.heap k _ G).2;subst B;subst L;refine⟨o.1,?_⟩;have q: ∀b,own K (β.drop k) (bw s.H k (Y (.bn l m g_ (en n (z.map kL)) []))) b->own K β s.H b:=by
  rintro b (P|⟨id,B,L⟩)
  ·exact .inl P
  refine .inr ⟨id,λQ=>?_,p3 L⟩;by_cases t:id=k
  ·subst t;rw[G] at Q;cases Q
  rw[cY _ _ _ _ t] at B;exact B Q
 rcases o.2 with ⟨aW,a2⟩|⟨b,V,aW,a2,a3,a4,a5⟩
 ·have:n=0:=by simpa using a2
  subst this;exact .inl ⟨aW,rfl,λc r=>r.1 rfl⟩
 refine .inr ⟨b,V,λ_ _ _=>False,aW,a2,by simpa using a3,λR cC=>?_,λi j R x u F v fb=>Cell.of ?_,λ_ _ _ h=>h.elim,λ_ _ _ _ _ h=>h.elim,λc=>⟨λr=>bu rfl r.1,λ⟨_,_,r⟩=>r.elim⟩⟩
 ·obtain⟨hm,rfl⟩:=zz.1 cC
  grind
 rw[wS] at F;split at F
 ·rename_i W;cases F;rw[fG] at v;obtain⟨y,M,rfl⟩:=Option.map_eq_some_iff.1 v;have A:=(a5 i j z y u (by rw[wS,bk W]) M fb).mono (Ext.refl _ _) λb _=>q b;cases f:(ba l m).fc j with
  |none=>exact .ly _ _ _ A.Cx (λ_ h=>h)
  |some m2=>
   have:=RJ N f;rw[M] at this;cases this;cases A;exact .nil _ _ λ_ h=>h
 cases F
theorem aeZ{C:e8}(k7:fm K.P C.df){w:V}{T:List dq}(W: ∀k,u k=ao->s.u k=ao)(cN:l0 K.nt d=I)
  (hx:s.get x=v) (hy:s.get y=w) (h:L5 C d t u v w T=Y (e,ni,rG)) (f:dw ni):fe K ⟨d,.makeSlice t x y,ty,pos,af,g⟩ s (e.app s):=by
 unfold L5 at h;split at h
 ·cases h
 rename_i i l;split at h
 ·rename_i o o5;have fB:K.P.underlying t=Y (.slice o):=(k7 _ _ l).kz.2.2.2 o o5;split at h
  ·cases h
  rename_i j p;obtain⟨rP,he,_⟩:=k7 _ _ p;split at h
  ·rename_i n m k R T r z;split at h
   ·rename_i h1 M h3 A;cases h;obtain⟨hnm,B,F,_⟩:=f;obtain⟨pS,ala,rfl⟩:=sa B;have G:m=n:=O
    subst G;simp only[cJ] at A;have c:=fJ A.2;have N:m.toNat*j.bytes<=1000000000*200000:=p8 O c;have ch:=om F;have p:=US (K:=K) (s:=s) (d:=d) (ty:=ty) (pos:=pos) (af:=af) (g:=g) k (W _ h1) x y o m.toNat r (jv cN) fB he (by rw[hx,<-ch]) (by rw[hy,<-ch]) (qS z) M h3 A.1 O O;refine p.OA λβ a w cC=>?_;have hk:((s.new k (.arr o 1 j.size (en m.toNat r))).put d (.bE k 1 j.size 0 m.toNat)).H k=Y (.arr o 1 j.size (en m.toNat r)):=by
     cases d<;>exact c6 _ _ _
    have yy:=cC.Xg k hk λX=>ahn;rw[uK,Db]
    have: ∀L Q:E,({((s.new k L).put d (.bE k 1 j.size 0 m.toNat)) with H:=bw ((s.new k L).put d (.bE k 1 j.size 0 m.toNat)).H k (Y Q)}:S)=(s.new k Q).put d (.bE k 1 j.size 0 m.toNat):=by
     intro L Q;have W: ∀a b:Option E,bw (bw s.H k a) k b=bw s.H k b:=by
      intro a b;funext i;by_cases l:i=k
      ·subst l;rw[c6,c6]
      rw[cY _ _ _ _ l,cY _ _ _ _ l,cY _ _ _ _ l]
     cases d<;>simp only[S.put,S.new,W]
    grind
   cases h
  ·rename_i n m k k0 Γ q R T r z;split at h
   ·rename_i h1 M h3 A;cases h;obtain⟨alK,jc,hnm,B,F,_⟩:=f;obtain⟨pS,ala,rfl⟩:=sa B;have G:m=n:=O
    subst G;simp only[cJ] at M A;have c:=fJ A.2;have N:m.toNat*j.bytes<=1000000000*200000:=p8 O c;have ch:=om F;have p:=US (K:=K) (s:=s) (d:=d) (ty:=ty) (pos:=pos) (af:=af) (g:=g) k (W _ h1) x y o m.toNat r (jv cN) fB he (by rw[hx,<-ch]) (by rw[hy,<-ch]) (qS z) M.1 h3 A.1 O O;have hk:((s.new k (.arr o 1 j.size (en m.toNat r))).put d (.bE k 1 j.size 0 m.toNat)).H k=Y (.arr o 1 j.size (en m.toNat r)):=by
     cases d<;>exact c6 _ _ _
    have dm:=aeq (K:=K) k Γ q hk alK jc M.2;rw[uK,Db]
    have: ∀L Q:E,({((s.new k L).put d (.bE k 1 j.size 0 m.toNat)) with H:=bw ((s.new k L).put d (.bE k 1 j.size 0 m.toNat)).H k (Y Q)}:S)=(s.new k Q).put d (.bE k 1 j.size 0 m.toNat):=by
     intro L Q;have W: ∀a b:Option E,bw (bw s.H k a) k b=bw s.H k b:=by
      intro a b;funext i;by_cases l:i=k
      ·subst l;rw[c6,c6]
      rw[cY _ _ _ _ l,cY _ _ _ _ l,cY _ _ _ _ l]
     cases d<;>simp only[S.put,S.new,W]
    rw[this] at dm;exact p.anh dm
   cases h
  cases h
 cases h
theorem acR{C:e8}(G:fm K.P C.df)(_hn0:C.e5=K.e5){L:bM}{H:Nat->Option E}{w:V}{Q o:List dq}{W:List eM}(M: ∀k e,H k=Y e->s.H k=Y e)(N:l0 K.nt d=I)
  (T:s.get x=v) (hy:s.get y=w) (h:K2 C d t L H v w Q=Y (e,W,o)) (q:dw W):fe K ⟨d,.call {callee:= .builtin .append,args:= #[x,y],argTypes:= #[t,L]},ty,pos,af,g⟩ s (e.app s):=by
 unfold K2 at h;split at h
 ·cases h
 rename_i i aO;split at h
 ·rename_i b r;have fB:K.P.underlying t=Y (.slice b):=(G _ _ aO).kz.2.2.2 b r;split at h
  ·cases h
  rename_i j f;obtain⟨rP,he,_⟩:=G _ _ f;split at h
  ·rename_i k g_ p off len a R Q hw;split at h
   ·rename_i e' l z c mQ;split at h
    ·rename_i h1 n A;cases h;obtain⟨rfl,rfl,rfl,rfl,m,B,F,_⟩:=q;obtain⟨br,rfl⟩:=xn m;simp only[cJ] at n A;have e1:=eg A.1;have e2:=eg A.2;have nw:=eg h1;subst e1;subst e2;subst nw;have u:(U c+U a)*j.bytes<=1000000000*140000:=p8 br (fJ n.2.2);have f:=afH (K:=K) (s:=s) (d:=d) (ty:=ty) (pos:=pos) (af:=af) (g:=g) (g_:=l) (s_:=j.size) k x y e' c a (jv N) T (by rw[hy,<-hw];exact xB w) (M _ _ mQ) fB he n.1 n.2.1 B F O O;rw[ea]
     have: ∀v e,dY.app ⟨gW d v,[(k,Y e)],[]⟩ s=({s with H:=bw s.H k (Y e)}:S).put d v:=by intro v e;cases d<;>rfl
     grind
    cases h
   cases h
  cases h
 cases h
theorem abw{C:e8}(k7:fm K.P C.df){lI:bM}{H:Nat->Option E}{w:V}{f p:List dq}(W: ∀k e,H k=Y e->s.H k=Y e)(u:l0 K.nt d=I)
  (M:s.get x=v) (N:s.get y=w) (h:J6 C d t lI H v w f=Y (e,ni,p)) (q:dw ni):fe K ⟨d,.call {callee:= .builtin .append,args:= #[x,y],argTypes:= #[t,lI]},ty,pos,af,g⟩ s (e.app s):=by
 unfold J6 at h;split at h
 ·cases h
 rename_i i aO;split at h
 ·rename_i T o5;have fB:K.P.underlying t=Y (.slice T):=(k7 _ _ aO).kz.2.2.2 T o5;split at h
  ·cases h
  rename_i j hj;obtain⟨rP,he,_⟩:=k7 _ _ hj;split at h
  ·rename_i k g_ A off len vZ g3 z3 ao3 n3 R f;split at h
   ·rename_i Γ m c a anp m3 ajZ e5 l alB B F;split at h
    ·rename_i n o b;cases h;obtain⟨rfl,rfl,rfl,rfl,pQ,pP,rfl,rfl,h3,G,tu,yy,_⟩:=q;obtain⟨br,rfl⟩:=xn G;simp only[cJ] at n o b;have L:=eg n.1;have Q:=eg n.2;have nw:=eg b.1;subst L;subst Q;subst nw;have hmul:(U a+U (e5::l))*j.bytes<=1000000000*140000:=p8 br (fJ o.2.2);have hj:=afp (K:=K) (s:=s) (d:=d) (ty:=ty) (pos:=pos) (af:=af) (g:=g) (g_:=c) (s_:=j.size) k vZ ajZ (U l+1) x y T Γ anp m m3 a (e5::l) alB (jv u) M N (W _ _ B) (W _ _ F) h3 rfl fB he o.1 pQ pP tu yy (Nat.succ_pos _) b.2.1 b.2.2 O O;rw[ea]
     have: ∀v e,dY.app ⟨gW d v,[(k,Y e)],[]⟩ s=({s with H:=bw s.H k (Y e)}:S).put d v:=by intro v e;cases d<;>rfl
     grind
    cases h
   ·rename_i e' c r a GC B F;split at h
    ·rename_i n o;cases h;obtain⟨rfl,rfl,rfl,rfl,z,ak1,BM,rfl,_⟩:=q;simp only[cJ] at n o;have L:=eg n.1;have Q:=eg n.2;have vv:=eg o.1;have l1:=eg o.2.1;have hp:0<j.size:=by simpa[Nat.blt_eq] using o.2.2
     subst L;subst Q;subst vv;subst l1;subst z;have hj:=ads (K:=K) (s:=s) (d:=d) (ty:=ty) (pos:=pos) (af:=af) (g:=g) _ _ _ _ x y _ _ (jv u) M N (W _ _ B) fB he hp ak1 BM
     have: ∀v e,dY.app ⟨gW d v,[(vZ,Y e)],[]⟩ s=({s with H:=bw s.H vZ (Y e)}:S).put d v:=by intro v e;cases d<;>rfl
     grind
    cases h
   cases h
  ·rename_i k g_ A off len f;split at h
   ·rename_i e' c r a B;split at h
    ·rename_i n o;cases h;obtain⟨rfl,rfl,z,_⟩:=q;simp only[cJ] at n;have L:=eg n.1;have Q:=eg o;have hp:0<j.size:=by simpa[Nat.blt_eq] using n.2
     subst L;subst Q;subst z;rw[qR];exact aci (K:=K) (s:=s) (d:=d) (ty:=ty) (pos:=pos) (af:=af) (g:=g) _ _ x y _ _ _ (jv u) M (eP.of_eq N) (W _ _ B) fB he hp
    cases h
   cases h
  cases h
 cases h
theorem ajf{x:T}(h:C7 v=Y x):v= .t x:=by
 cases v<;>simp[C7] at h
 grind
theorem Qw{d:ez}: ∀{j:Nat} {a:List V} {r:List T} {c:List (Nat×Nat×V)},Ae d j a=Y (r,c)->U r=U a/\
  (∀i b v,(i,b,v)∈c->i=0/\ ∃k,b=j+k/\a[k]? =Y v)/\(∀(k:Nat) x,r[k]? =Y x->(∃v,(0,j+k,v)∈c)\/(d.fc (j+k)=al/\a[k]? =Y (.t x)))
 |j,[],r,c,h=>by cases h;exact⟨rfl,λ_ _ _ h=>bu h List.not_mem_nil,λk x h=>by simp at h⟩
 |j,v::a,r,c,h=>by
  simp only[Ae] at h;split at h
  ·cases h
  rename_i Q n F;obtain⟨aW,a2,a3⟩:=Qw F;have z: ∀i b fr,(i,b,fr)∈n->i=0/\ ∃k,b=j+k/\(v::a)[k]? =Y fr:=λi b fr hm=>by
   obtain⟨G,k,R,L⟩:=a2 i b fr hm;exact⟨G,k+1,O,by simpa using L⟩
  split at h
  ·rename_i W A;cases B:v.one with
   |false=>rw[B] at h;cases h
   |true=>
    rw[B] at h;cases h;refine⟨by simp[aW],λi b fr hm=>?_,λk x l=>?_⟩
    ·rcases eN.1 hm with e|hm
     ·cases e;exact⟨rfl,0,rfl,rfl⟩
     exact z i b fr hm
    cases k with
    |zero=>exact .inl ⟨v,fi⟩
    |succ k=>
     have:=a3 k x (by simpa using l);rw[show j+1+k=j+(k+1) by omega] at this;rcases this with ⟨fr,o⟩|⟨m,q⟩
     ·exact .inl ⟨fr,eT _ o⟩
     exact .inr ⟨m,by simpa using q⟩
  rename_i A;split at h
  ·rename_i f y;cases h;refine⟨by simp[aW],z,λk x l=>?_⟩;cases k with
   |zero=>simp at l;subst l;exact .inr ⟨A,by simp[ajf y]⟩
   |succ k=>
    have:=a3 k x (by simpa using l);rw[show j+1+k=j+(k+1) by omega] at this;rcases this with m|⟨m,q⟩
    ·exact .inl m
    exact .inr ⟨m,by simpa using q⟩
  cases h
theorem aiS{u:gF}{A:Nat}(k:Nat)(hk:s.u k=ao)(o:Array (Nat×ct))(e:bM)(n cs:List V)(B:List ez)(m:Nat)(r:List T)(eI:List (Nat×Nat×V))(cN: ∀i,d=Y i->ey i K.nt=I)(F:ht ((o.toList.map (·.2)).map s.get) n)
  (hu:K.P.underlying t=Y (.slice e)) (he:db K.P e u z s_ A) (G:cP (U o.toList) (U n)=I) (hp:ey 0 s_=I) (L:eh (1*s_) 16777216=I)
  (jK:nf (λi=>Y (i*s_,s_)) (en (1*s_) .d') ((o.toList.map (·.1)).zip n)=Y cs) (vM:Ae (ba B m) 0 cs=Y (r,eI)) (hcl:U cs=s_) (pQ:(ba B m).size=s_) (pP:(ba B m).ty=e):
  fe K ⟨d,.buildSlice t 1 o,ty,pos,af,g⟩ s ((s.new k (.bn B m 1 [r] eI)).put d (.bE k 1 s_ 0 1)):=by
 have ali:0<s_:=by simpa[Nat.blt_eq] using hp
 obtain⟨wk,aoL,Xa⟩:=Qw vM;intro β a w next Q cC hkk
 have BE:eG β w (own K β s.H) n ((o.toList.map (·.2)).map a.eval):=(cC.qz _).le F;have rK:=zG a.eval o.toList;obtain⟨l,h1,h2⟩:=xl (β:=β) (w:=w) (X:=own K β s.H) (λi=>Y (i*s_,s_)) (o.toList.map (·.1)) n _ (en (1*s_) .d')
  ((Array.range (1*s_)).map ((if 1*s_=0 then #[] else z.cells)[· %(if 1*s_=0 then #[] else z.cells).size]!)) _ (E7 _ _ _ _ _ aZ) BE (by simpa using eg G) jK
 have R:(cE a.eval ⟨d,.buildSlice t 1 o,ty,pos,af,g⟩).run K.P w= .ok (.value (.slice (Y ⟨w.heap.size,0,al⟩) 1 1)) (w.alloc (.cells l e)):=by
  have W:(o.toList.map λx=>match x with|(i,x)=>(i,a.eval x))=(o.toList.map (·.1)).zip ((o.toList.map (·.2)).map a.eval):=by rw[<-rK]
  have br: ¬(1*s_>2^24):=by have:=fJ L;omega
  have h0: ¬1*s_=0:=O
  simp only[cE,Instr.buildSlice,gE,eR hu,gz,he.run_sizeOf,br,if_false,Array.toList_map];simp only[h0,if_false] at h1;simp only[h0,if_false,jD,gE,he.ud,gz];rw[W,h1];rfl
 unfold Oper.wp;rw[R];have q:l.size=s_:=by
  have h:=h2.1
  grind
 have b:=cC.Hj k 1 hk l e (.bn B m 1 [r] eI) (λβ' j1 bZ hw vJ f mR=>⟨dV _,Or.inr ⟨w.heap.size,l,λ_ _ _=>False,vJ,by subst hw;rw[pP];exact kY _ _,by rw[q,pQ];simp,λrow p=>by rw[q1.1 p,wk,hcl,pQ],λi j row x y aW a2 a3=>by
  have aO:=(cI.1 aW).1;have yt:i=0:=by simpa using aO
  subst yt;simp at aW;subst aW;rw[jC,e6] at a3;refine⟨λv F=>⟨?_,λ_ h=>h⟩,λdc=>?_⟩
  ·obtain⟨_,dn,M,W⟩:=aoL _ _ _ F;rw[e6] at M;subst M;exact f _ _ (h2.2 _ _ y W (by simpa using a3))
  rcases Xa j x a2 with ⟨v,F⟩|⟨M,W⟩
  ·rw[e6] at F;exact bu F (dc v)
  rw[e6] at M;rw[M];have h6:=f _ _ (h2.2 _ _ y W (by simpa using a3));cases h6 with|t _ _ h=>exact .ly _ _ _ h λ_ h=>h,λ_ _ _ h=>h.elim,λ_ _ _ _ _ h=>h.elim,λc=>⟨λh=>bu h (mR c),λ⟨_,_,h⟩=>h.elim⟩⟩⟩)
 have N:(w.alloc (.cells l e)).heap.size=w.heap.size+1:=World.size_alloc ..;have hU:(w.alloc (.cells l e)).shape? w.heap.size=Y (e,l.size):=by unfold iV;rw[kY]
 have BX:bI (β.put k (Y (Y w.heap.size,1))) (w.alloc (.cells l e)) (own K (β.put k (Y (Y w.heap.size,1))) (s.new k (.bn B m 1 [r] eI)).H) (.bE k 1 s_ 0 1)
   (.slice (Y ⟨w.heap.size,0*s_,al⟩) 1 1):= .bE k 1 s_ 0 1 1 w.heap.size l.size e (dV _) (c6 _ _ _) (N▸p7 _) hU (by rw[q];omega) (dV _) (by unfold maxLen;omega)
 rw[jC] at BX;exact hkk _ _ _ (b.put d cN BX)
theorem UB{n j:Nat}{v:V}: ∀{a:List V} {i:Nat},(n,j,v)∈sL i a->j=0/\ ∃k,n=i+k/\a[k]? =Y v
 |x::a,i,h=>by
  simp only[sL] at h;rcases eN.1 h with h|h
  ·cases h;exact⟨rfl,0,rfl,rfl⟩
  obtain⟨e,k,l,c⟩:=UB h;exact⟨e,k+1,O,by simpa using c⟩
theorem UA{v:V}: ∀{vs:List V} {i k:Nat},vs[k]? =Y v->(i+k,0,v)∈sL i vs
 |x::vs,i,0,h=>by
  simp at h;subst h;exact fi
 |x::vs,i,k+1,h=>by have:=UA (i:=i+1) (k:=k) (vs:=vs) (by simpa using h);rw[show i+1+k=i+(k+1) by omega] at this;exact eT _ this
theorem aiT{u:gF}{l F:Nat}(k:Nat)(hk:s.u k=ao)(n:Nat)(r:Array (Nat×ct))(e:bM)(q G:List V)(L:List ez)(m:Nat)(cN: ∀i,d=Y i->ey i K.nt=I)(b0:ht ((r.toList.map (·.2)).map s.get) q)
  (hu:K.P.underlying t=Y (.slice e)) (he:db K.P e u z l F) (R:cP (U r.toList) (U q)=I) (dc:ey 0 n=I) (yB:l=1) (W:eh (n*l) 16777216=I)
  (jK:nf (λi=>Y (i*l,l)) (en (n*l) .d') ((r.toList.map (·.1)).zip q)=Y G) (hcl:U G=n) (pQ:(ba L m).size=1) (pP:(ba L m).ty=e):
  fe K ⟨d,.buildSlice t n r,ty,pos,af,g⟩ s ((s.new k (.bn L m 1 (en n [.bX []]) (sL 0 G))).put d (.bE k 1 1 0 n)):=by
 subst yB;have b:0<n:=by simpa[Nat.blt_eq] using dc
 intro β a w next Q cC hkk
 have BE:eG β w (own K β s.H) q ((r.toList.map (·.2)).map a.eval):=(cC.qz _).le b0;have rK:=zG a.eval r.toList;obtain⟨o,h1,h2⟩:=xl (β:=β) (w:=w) (X:=own K β s.H) (λi=>Y (i*1,1)) (r.toList.map (·.1)) q _ (en (n*1) .d')
  ((Array.range (n*1)).map ((if n*1=0 then #[] else z.cells)[· %(if n*1=0 then #[] else z.cells).size]!)) _ (E7 _ _ _ _ _ aZ) BE (by simpa using eg R) jK
 have anP:=fJ W;have f:(cE a.eval ⟨d,.buildSlice t n r,ty,pos,af,g⟩).run K.P w= .ok (.value (.slice (Y ⟨w.heap.size,0,al⟩) n n)) (w.alloc (.cells o e)):=by
  have e2:(r.toList.map λx=>match x with|(i,x)=>(i,a.eval x))=(r.toList.map (·.1)).zip ((r.toList.map (·.2)).map a.eval):=by rw[<-rK]
  have br: ¬(n*1>2^24):=O
  have h0: ¬n*1=0:=O
  simp only[cE,Instr.buildSlice,gE,eR hu,gz,he.run_sizeOf,br,if_false,Array.toList_map];simp only[h0,if_false] at h1;simp only[h0,if_false,jD,gE,he.ud,gz];rw[e2,h1];rfl
 unfold Oper.wp;rw[f];have A:o.size=n:=by
  have h:=h2.1;rw[sj] at h;omega
 have p:=cC.Hj k 1 hk o e (.bn L m 1 (en n [.bX []]) (sL 0 G)) (λβ' j1 bZ hw b ow mR=>⟨dV _,Or.inr ⟨w.heap.size,o,λ_ _ _=>False,b,by subst hw;rw[pP];exact kY _ _,by rw[A,pQ];simp,λM B=>by rw[(zz.1 B).2,pQ];rfl,λi j M x y aW a2 a3=>by
  have aO:=(cI.1 aW).1;rw[Db] at aO;have B:M=[.bX []]:=(zz.1 (ca aW)).2;subst B;have hj0:j=0:=by
   have:=(cI.1 a2).1;simpa using this
  subst hj0;rw[pQ,Nat.mul_one,uA] at a3;refine⟨λv b0=>⟨?_,λ_ h=>h⟩,λvK=>?_⟩
  ·obtain⟨_,dn,e1,e2⟩:=UB b0;rw[e6] at e1;subst e1;exact ow _ _ (h2.2 _ _ y e2 (by simpa using a3))
  have ch:=bO (O:i<U G)
  have:=UA (i:=0) ch;rw[e6] at this;exact bu this (vK _),λ_ _ _ h=>h.elim,λ_ _ _ _ _ h=>h.elim,λc=>⟨λh=>bu h (mR c),λ⟨_,_,h⟩=>h.elim⟩⟩⟩)
 have N:(w.alloc (.cells o e)).heap.size=w.heap.size+1:=World.size_alloc ..;have hU:(w.alloc (.cells o e)).shape? w.heap.size=Y (e,o.size):=by unfold iV;rw[kY]
 have T:bI (β.put k (Y (Y w.heap.size,1))) (w.alloc (.cells o e)) (own K (β.put k (Y (Y w.heap.size,1))) (s.new k (.bn L m 1 (en n [.bX []]) (sL 0 G))).H) (.bE k 1 1 0 n)
   (.slice (Y ⟨w.heap.size,0*1,al⟩) n n):= .bE k 1 1 0 n n w.heap.size o.size e (dV _) (c6 _ _ _) (N▸p7 _) hU (by rw[A];omega) (dV _) (by unfold maxLen;omega)
 rw[jC] at T;exact hkk _ _ _ (p.put d cN T)
theorem YI{u:gF}{G:Nat}(k:Nat)(hk:s.u k=ao)(n:Nat)(q:Array (Nat×ct))(e:bM)(o:List V)(c:List (List T))(cN: ∀i,d=Y i->ey i K.nt=I)(b0:ht ((q.toList.map (·.2)).map s.get) o)
  (hu:K.P.underlying t=Y (.slice e)) (he:db K.P e u z s_ G) (W:cP (U q.toList) (U o)=I)
  (dc:U c=n) (hp:ey 0 s_=I) (L: ∀l,l∈c->U l=s_) (F:eh (n*s_) 16777216=I)
  (jK:nf (λi=>Y (i*s_,s_)) (en (n*s_) .d') ((q.toList.map (·.1)).zip o)=Y (c.flatten.map .t)):
  fe K ⟨d,.buildSlice t n q,ty,pos,af,g⟩ s ((s.new k (.arr e 1 s_ c)).put d (.bE k 1 s_ 0 (U c))):=by
 subst dc;have ali:0<s_:=by simpa[Nat.blt_eq] using hp
 intro β a w next Q cC hkk
 have BE:eG β w (own K β s.H) o ((q.toList.map (·.2)).map a.eval):=(cC.qz _).le b0;have rK:=zG a.eval q.toList;obtain⟨m,B,R⟩:=xl (β:=β) (w:=w) (X:=own K β s.H) (λi=>Y (i*s_,s_)) (q.toList.map (·.1)) o _ (en (U c*s_) .d')
  ((Array.range (U c*s_)).map ((if U c*s_=0 then #[] else z.cells)[· %(if U c*s_=0 then #[] else z.cells).size]!)) _ (E7 _ _ _ _ _ aZ) BE (by simpa using eg W) jK
 have f:(cE a.eval ⟨d,.buildSlice t (U c) q,ty,pos,af,g⟩).run K.P w= .ok (.value (.slice (Y ⟨w.heap.size,0,al⟩) (U c) (U c))) (w.alloc (.cells m e)):=by
  have e2:(q.toList.map λx=>match x with|(i,x)=>(i,a.eval x))=(q.toList.map (·.1)).zip ((q.toList.map (·.2)).map a.eval):=by rw[<-rK]
  have br: ¬(U c*s_>2^24):=by have:=fJ F;omega
  simp only[cE,Instr.buildSlice,gE,eR hu,gz,he.run_sizeOf,br,if_false,Array.toList_map];by_cases h0:U c*s_=0
  ·simp only[h0,if_true] at B;simp only[h0,if_true,jD,gE,gz];rw[e2,B];rfl
  simp only[h0,if_false] at B;simp only[h0,if_false,jD,gE,he.ud,gz];rw[e2,B];rfl
 unfold Oper.wp;rw[f];have A:m.size=U c.flatten:=by
  have h:=R.1
  grind
 have p:U c.flatten=U c*s_:=by
  rw[List.length_flatten]
  have:c.map U=en (U c) s_:=List.eq_replicate_iff.2 ⟨aZ,λb br=>by obtain⟨r,cC,rfl⟩:=fh.1 br;exact L r cC⟩;rw[this];simp
 have v: ∀(c:List (List T)),(∀l,l∈c->U l=s_)-> ∀(i j:Nat) (l:List T) (x:T),c[i]? =Y l->l[j]? =Y x->c.flatten[i*s_+j]? =Y x:=by
  intro c;induction c with
  |nil=>intro _ i j l x h _;simp at h
  |cons r c mS=>
   intro hs i j l x B R;have cC:=hs r aZ;rw[zB];cases i with
   |zero=>
    simp at B;subst B
    have:=(cI.1 R).1;rw[jC,e6,ll this];exact R
   |succ i=>
    simp at B;rw[lk (by rw[cC,ft];omega)];rw[show(i+1)*s_+j-U r=i*s_+j by rw[cC,ft];omega];exact mS (λl h=>hs l (by simp[h])) i j l x B R
 have M:=cC.new k 1 hk m e (.arr e 1 s_ c) (λβ' j1 bZ hw vJ ow=>⟨dV _,Or.inr ⟨w.heap.size,m,vJ,by subst hw;exact kY _ _,by rw[A,p];exact dV _,L,λi j l x y aW a2 a3=>by
  have h5:=v c L i j l x aW a2;have h6:=R.2 (i*s_+j) (.t x) y (by rw[fG,h5];rfl) (by simpa using a3);have qA:=ow _ _ h6;cases qA with|t _ _ h=>exact h⟩⟩)
 have N:(w.alloc (.cells m e)).heap.size=w.heap.size+1:=World.size_alloc ..;have hU:(w.alloc (.cells m e)).shape? w.heap.size=Y (e,m.size):=by unfold iV;rw[kY]
 have BX:bI (β.put k (Y (Y w.heap.size,1))) (w.alloc (.cells m e)) (own K (β.put k (Y (Y w.heap.size,1))) (s.new k (.arr e 1 s_ c)).H) (.bE k 1 s_ 0 (U c))
   (.slice (Y ⟨w.heap.size,0*s_,al⟩) (U c) (U c)):= .bE k 1 s_ 0 (U c) (U c) w.heap.size m.size e (dV _) (c6 _ _ _) (N▸p7 _) hU (by rw[A,p];simp) (dV _)
    (by
     have br:=fJ F;unfold maxLen
     have:U c*1<=U c*s_:=Nat.mul_le_mul_left _ O;omega)
 rw[jC] at BX;exact hkk _ _ _ (M.put d cN BX)
theorem agS{C:e8}(v:fm K.P C.df){o:Array (Nat×ct)}{M:List dq}{N:List eM}(T: ∀k,u k=ao->s.u k=ao)(G:l0 K.nt d=I)
  (W:a=(o.toList.map (·.2)).map s.get) (h:My C d t n (o.toList.map (·.1)) u a M=Y (e,N,R)) (b:dw N):fe K ⟨d,.buildSlice t n o,ty,pos,af,g⟩ s (e.app s):=by
 unfold My at h;split at h
 ·cases h
 rename_i i aO;split at h
 ·rename_i r f;have L:K.P.underlying t=Y (.slice r):=(v _ _ aO).kz.2.2.2 r f;split at h
  ·cases h
  rename_i j hj;obtain⟨rP,Q,_⟩:=v _ _ hj;split at h
  ·rename_i k M p;split at h
   ·rename_i q;cases h
    have:o= #[]:=by
     have:o.toList=[]:=by simpa using p
     grind
    subst this;rw[uK];exact afG k (T _ q) r (jv G) L Q
   cases h
  ·split at h
   ·cases h
   rename_i cs l;split at h
   ·cases h
   rename_i x m;split at h
   ·rename_i h0 q y z h4;cases h;have c:=eg q;obtain⟨A,B,F⟩:=E3 j.size _ x c;rw[uK];refine YI _ (T _ h0) _ o r (jy a) _ (jv G) (by rw[W];exact t7 _) L Q (by rw[wm];simpa using y) A h4 B z (by rw[l,F,qS m])
   cases h
  ·split at h
   ·cases h
   rename_i cs l;split at h
   ·cases h
   rename_i x m;split at h
   ·rename_i q y z;cases h;have c:=eg q;obtain⟨A,B,F⟩:=E3 j.size _ x c;rw[qR];rw[<-b.1];refine IW (vals:=jy a) (jv G) ?_ (PJ _ o r (jy a) _ L Q ?_ (by simp[A]) B z (by rw[l,F,qS m]))
    ·rw[W];simp only[Op.operands];exact t7 _
    rw[wm];simpa using y
   cases h
  ·split at h
   ·cases h
   rename_i cs l;split at h
   ·cases h
   rename_i x m;split at h
   ·rename_i q y z;cases h;have c:=eg q;obtain⟨A,B,F⟩:=E3 j.size _ x c;rw[qR];refine IW (vals:=jy a) (jv G) ?_ (PJ _ o r (jy a) _ L Q ?_ (by simp[A]) B z (by rw[l,F,qS m]))
    ·rw[W];simp only[Op.operands];exact t7 _
    rw[wm];simpa using y
   cases h
  cases h
 cases h
theorem ae0{C:e8}(R:fm K.P C.df){q:Array (Nat×ct)}{z A:List dq}(W: ∀k,u k=ao->s.u k=ao)(b:l0 K.nt d=I)
  (f:a=(q.toList.map (·.2)).map s.get) (h:L6 C d t n (q.toList.map (·.1)) u a z=Y (e,M,A)):fe K ⟨d,.buildSlice t n q,ty,pos,af,g⟩ s (e.app s):=by
 unfold L6 at h;split at h
 ·cases h
 rename_i i N;split at h
 ·rename_i x B;have p:K.P.underlying t=Y (.slice x):=(R _ _ N).kz.2.2.2 x B;split at h
  ·cases h
  rename_i j T;obtain⟨rP,v,_⟩:=R _ _ T;split at h
  ·rename_i k y m z;split at h
   ·cases h
   rename_i cs l;split at h
   ·cases h
   rename_i r eI F;split at h
   ·rename_i G o c L Q;cases h;simp only[cJ] at o c;rw[uK];exact aiS k (W _ G) q x (x4 ((ba y m).fc 0) a) cs y m r eI (jv b) (by rw[f];exact ah4 _ _) p v (by rw[acz];simpa using c.1) Q L l F (eg o.1) (eg o.2) (eg c.2)
   cases h
  ·rename_i k y m z _;split at h
   ·cases h
   rename_i cs l;split at h
   ·rename_i G o c L Q;cases h;simp only[cJ] at o c;have e1:=eg o.1;rw[uK];exact aiT k (W _ G) _ q x (jy a) cs y m (jv b) (by rw[f];exact t7 _) p v (by rw[wm];simpa using c.1) Q e1 L l (eg o.2.1) (eg c.2.2) (eg c.2.1)
   cases h
  cases h
 cases h
theorem ae4{C:e8}(A:C.P=K.P)(B:C.G=K.G){c:ct}{l:Array ct}{k:Array bM}{r:List eM}(F:l0 K.nt d=I)
  (x:a=s.get c::l.toList.map s.get) (h:Ma C d a m=Y (e,r,i)) (y:dw r):fe K ⟨d,.call {callee:= .value c,args:=l,argTypes:=k},ty,pos,af,g⟩ s (e.app s):=by
 unfold Ma at h;split at h
 ·rename_i f n args;split at h
  ·split at h
   ·rename_i o;cases h;rw[qR];obtain⟨⟨z,q⟩,_⟩:=y;rw[A] at z q;rw[B] at q;simp only[List.cons.injEq] at x;exact TJ n _ _ z x.1.symm (jv F) (by rw[<-x.2];exact t7 _) o q
   cases h
  ·cases h;rw[qR];obtain⟨o,⟨z,q⟩,_⟩:=y;rw[A] at z q;rw[B] at q;simp only[List.cons.injEq] at x;exact TJ n _ _ z x.1.symm (jv F) (by rw[<-x.2];exact t7 _) o q
  cases h
 cases h
mutual
theorem SZ{a G:Map}{w b:bY}{X W:Nat->Prop}: ∀{v:V} {u:bm},vi v=I->bI a w X v u->bI G b W v u
 | .t (.int _ _),u,_,h=>by rw[eQ h];exact .t _ _ (.int _ _)
 | .t (.bool _),u,_,h=>by rw[pY h];exact .t _ _ (.bool _)
 | .t (.str _),u,_,h=>by rw[hB h];exact .t _ _ (.str _)
 | .agg cs,u,e,h=>by
  simp only[vi] at e;cases h with|agg _ l m h=>exact .agg _ l m (λi c u k n=>Kn e i c u k (h i c u k n))
 | .dB cs,u,e,h=>by
  simp only[vi] at e;cases h with|dB _ l m h=>exact .dB _ l m (λi c u k n=>Kn e i c u k (h i c u k n))
 | .t (.bX _),_,e,_| .t .hd,_,e,_| .t .fF,_,e,_| .t .hc,_,e,_| .t .p0,_,e,_| .t .err,_,e,_=>by simp[vi] at e
 | .ref _ _,_,e,_| .bc _,_,e,_| .bE _ _ _ _ _,_,e,_| .c' _ _ _ _ _,_,e,_| .fn _ _,_,e,_| .d',_,e,_=>by simp[vi] at e
theorem Kn{a G:Map}{w b:bY}{X W:Nat->Prop}: ∀{cs:List V},x1 cs=I-> ∀(i:Nat) c u,cs[i]? =Y c->bI a w X c u->bI G b W c u
 | [],_,_,_,_,h,_=>by simp at h
 |c::cs,e,0,l,u,k,h=>by
  simp only[x1,cJ] at e;simp at k;subst k;exact SZ e.1 h
 |c::cs,e,i+1,l,u,k,h=>by simp only[x1,cJ] at e;exact Kn e.2 i l u (by simpa using k) h
end
theorem dJ.read{β:Map}{w:bY}{X z:Nat->Prop}{a:List (List T)}{u:bm}(h:dJ β w X k (.arr G g_ s_ a))(L:bI β w X (.bE k g_ s_ 0 (U a)) u)
  (Q: ∀b,z b->X b) (R: ∀b,At β k b-> ¬z b):ei w z (.bX a) u:=by
 obtain⟨q,y⟩:=nH h;rcases d6 L y with ⟨A,b,n,W,rfl,m,f,P,p,t,V⟩|⟨m,_,v,rfl⟩
 ·subst m;rcases h.2 with ⟨o,B⟩|⟨iG,l,o,B,h3,F,M⟩
  ·rw[y] at o;cases o
  rw[y] at o;cases o;rw[jC];refine .bX a b 0 s_ A (λi j=>l.getD (i*s_+j) undef) f (R b (.inl ⟨_,y⟩)) t F (λi j aO N=>?_) λi j r x aW a2=>?_
  ·have c:i*s_+j<l.size:=by
    have:(i+1)*s_<=U a*s_:=fj _ aO;rw[ft] at this;omega
   rw[e6];simp[World.cell?,B,c]
  have aO:=(cI.1 aW).1;have N:j<s_:=by rw[<-F r (ca aW)];exact(cI.1 a2).1
  have c:i*s_+j<l.size:=by
   have:(i+1)*s_<=U a*s_:=fj _ aO
   grind
  have:=M i j r x l[i*s_+j] aW a2 (by simp[c]);have e:l.getD (i*s_+j) undef=l[i*s_+j]:=by simp[c]
  rw[e];exact this.mono (Ext.refl _ _) λb _=>Q b
 have:a=[]:=Da.1 v;subst this;exact .iq _ _
theorem dJ.amV{β:Map}{w:bY}{X Q:Nat->Prop}{l:List ez}{m:Nat}{a:List (List T)}{u:bm}(h:dJ β w X k (.bn l m g_ a []))(t:bI β w X (.bE k g_ (ba l m).size 0 (U a)) u)
  (v: ∀b,Q b->X b) (W: ∀b,At β k b-> ¬Q b):ei w Q (.bX a) u:=by
 obtain⟨q,G⟩:=xq h;rcases d6 t G with ⟨R,b,n,M,rfl,o,N,hs,P,V,hm⟩|⟨o,_,h0,rfl⟩
 ·subst o;rcases h.2 with ⟨r,f⟩|⟨iG,y,B,r,f,h3,p,h5,_,_,pN⟩
  ·rw[G] at r;cases r
  rw[G] at r;cases r;rw[jC];have z: ∀i j,i<U a->j<(ba l m).size->i*(ba l m).size+j<y.size:=λi j aO L=>by
   have:(i+1)*(ba l m).size<=U a*(ba l m).size:=fj _ aO
   grind
  refine .bX a b 0 (ba l m).size R (λi j=>y.getD (i*(ba l m).size+j) undef) N (W b (.inl ⟨_,G⟩)) V p (λi j aO L=>?_) λi j A x aW a2=>?_
  ·have:=z i j aO L;rw[e6];simp[World.cell?,f,this]
  have aO:=(cI.1 aW).1;have L:j<(ba l m).size:=by rw[<-p A (ca aW)];exact(cI.1 a2).1
  have F:=z i j aO L
  have:=(h5 i j A x y[i*(ba l m).size+j] aW a2 (by simp[F])).none;have e:y.getD (i*(ba l m).size+j) undef=y[i*(ba l m).size+j]:=by simp[F]
  rw[e];exact this.CT v λc ch=>W c (.inr ((pN c).2 ⟨i,j,ch⟩))
 have:a=[]:=Da.1 h0;subst this;exact .iq _ _
def xC:V->List Nat
 | .bE k _ _ _ _=>[k]
 |_=>[]
mutual
def sG(H:Nat->Option E):V->List Nat
 | .bE k _ _ _ _=>[k]
 | .ref id _=>id::(match H id with
  |some (.cells cs)=>cs.flatMap xC
  |_=>[])
 | .agg cs=>q' H cs
 | .dB cs=>q' H cs
 | .fn _ cs=>q' H cs
 | .t _| .bc _| .c' _ _ _ _ _| .d'=>[]
def q'(H:Nat->Option E):List V->List Nat
 | []=>[]
 |v::a=>sG H v++q' H a
end
section
variable {β:Map}{w:bY}{X X1:Nat->Prop}{H:Nat->Option E}
theorem UG{x:T}{u:bm}(z: ∀k e,H k=Y e->dJ β w X k e)(n: ∀b,X1 b->X b)(A: ∀k,k∈xC v-> ∀b,At β k b-> ¬X1 b)
  (h:Bm H v=Y (x,l)) (a:dw l) (o:bI β w X v u):ei w X1 x u:=by
 cases v with
 |bE k g_ B F G=>
  simp only[Bm] at h;split at h
  ·rename_i ty c q i r;cases h;obtain⟨rfl,rfl,rfl,rfl,_⟩:=a;exact(z k _ r).read o n (A k (by simp[xC]))
  ·rename_i L m c i r;cases h;obtain⟨rfl,rfl,rfl,rfl,_⟩:=a;exact(z k _ r).amV o n (A k (by simp[xC]))
  cases h
 |t y=>
  simp only[Bm] at h;cases h;cases o with|t _ _ h=>exact(h.mono (Ext.refl _ _) λb _=>n b).Cx
 |agg=>cases h
 |dB=>cases h
 |ref=>cases h
 |bc=>cases h
 |c'=>cases h
 |fn=>cases h
 |d'=>cases h
theorem Tr(z: ∀k e,H k=Y e->dJ β w X k e)(A: ∀b,X1 b->X b): ∀{a:List V} {ts:List T} {n:List eM},(∀k,k∈a.flatMap xC-> ∀b,At β k b-> ¬X1 b)->Gj H a=Y (ts,n)->dw n->
  U ts=U a/\ ∀(l:Nat->Option bm),(∀(i:Nat) c u,a[i]? =Y c->l i=Y u->bI β w X c u)-> ∀(i:Nat) x u,ts[i]? =Y x->l i=Y u->ei w X1 x u
 | [],_,_,_,h,_=>by cases h;exact⟨rfl,λ_ _ i x u G=>by simp at G⟩
 |v::a,ts,n,B,h,o=>by
  simp only[Gj] at h;split at h
  ·rename_i x L P Q R W;cases h;obtain⟨f,p⟩:=dw.app o;obtain⟨t,M⟩:=Tr z A (λk q=>B k (by rw[List.flatMap_cons];exact uC _ q)) W p;refine⟨by simp[t],λl F i y u r m=>?_⟩;cases i with
   |zero=>
    simp at r;subst r;exact UG z A (λk q=>B k (by rw[List.flatMap_cons];exact q0 _ q)) R f (F 0 v u rfl m)
   |succ i=>
    exact M (λj=>l (j+1)) (λj c u N m=>F (j+1) c u (by simpa using N) m) i y u (by simpa using r) m
  cases h
mutual
theorem ais(Q: ∀k e,H k=Y e->dJ β w X k e)(F: ∀b,X1 b->X b): ∀(v:V) {y:V} {z:List eM} {u:bm},(∀k,k∈sG H v-> ∀b,At β k b-> ¬X1 b)->
  pG H v=Y (y,z)->dw z->bI β w X v u->bI ha w X1 y u
 | .bE k g_ P l len,y,z,u,r,h,a,o=>by
  simp only[pG] at h;split at h
  ·rename_i x A B;cases h;exact .t _ _ (UG Q F (λj W=>r j (by simpa[sG,xC] using W)) B a o)
  cases h
 | .t x,y,z,u,r,h,a,o=>by
  simp only[pG] at h;cases h;cases o with|t _ _ h=>exact .t _ _ (h.mono (Ext.refl _ _) λb _=>F b).Cx
 | .bc cs,y,z,u,r,h,a,o=>by
  simp only[pG] at h;cases h;exact o.under (u:=iO) F (λ_ h=>by simp[iO] at h) rfl
 | .ref id l,y,z,u,r,h,a,o=>by
  simp only[pG] at h;split at h
  ·rename_i cs m;split at h
   ·rename_i ts A B;cases h;obtain⟨b,T,rfl⟩:=uT o;obtain⟨iG,n,ty,e1,e2,nw,vv⟩:=Q id _ m;rw[T] at e1;cases e1;obtain⟨p,G⟩:=Tr Q F (λk L=>r k (by simp only[sG,m];exact eT _ L)) B a;have M:b<w.heap.size:=by
     have:=(mm.1 e2).1;exact this
    refine .bc (ts.drop l) b l (λj=>n.getD (l+j) undef) M (r id (by simp[sG]) b (.inl ⟨_,T⟩)) (λj W=>?_) λj x N=>?_
    ·rw[hY] at W
     have:l+j<n.size:=O
     simp[World.cell?,e2,this]
    rw[iS] at N;have W:=(cI.1 N).1
    have:l+j<n.size:=O
    have e:n.getD (l+j) undef=n[l+j]:=by simp[this]
    rw[e];exact G (λi=>n[i]?) (λi c u m q=>vv i c u m q) (l+j) x _ N (by simp[this])
   cases h
  cases h
 | .agg cs,y,z,u,r,h,a,o=>by
  simp only[pG] at h;split at h
  ·rename_i xs A B;cases h;cases o with|agg _ n dm R=>
   obtain⟨p,G⟩:=AJ Q F cs (λk L=>r k (by simpa[sG] using L)) B a;exact .agg _ n O λi c u m q=>G (λi=>n[i]?) (λi c u m q=>R i c u m q) i c u m q
  cases h
 | .dB cs,y,z,u,r,h,a,o=>by
  simp only[pG] at h;split at h
  ·rename_i xs A B;cases h;cases o with|dB _ n dm R=>
   obtain⟨p,G⟩:=AJ Q F cs (λk L=>r k (by simpa[sG] using L)) B a;exact .dB _ n O λi c u m q=>G (λi=>n[i]?) (λi c u m q=>R i c u m q) i c u m q
  cases h
 | .fn f cs,y,z,u,r,h,a,o=>by
  simp only[pG] at h;split at h
  ·rename_i xs A B;cases h;cases o with|fn _ _ n dm R=>
   obtain⟨p,G⟩:=AJ Q F cs (λk L=>r k (by simpa[sG] using L)) B a;exact .fn _ _ n O λi c u m q=>G (λi=>n[i]?) (λi c u m q=>R i c u m q) i c u m q
  cases h
 | .c' _ _ _ _ _,_,_,_,_,h,_,_=>by simp only[pG] at h;cases h
 | .d',_,_,_,_,h,_,_=>by simp only[pG] at h;cases h
theorem AJ(A: ∀k e,H k=Y e->dJ β w X k e)(B: ∀b,X1 b->X b): ∀(l:List V) {a:List V} {o:List eM},(∀k,k∈q' H l-> ∀b,At β k b-> ¬X1 b)->
  rl H l=Y (a,o)->dw o->U a=U l/\ ∀(m:Nat->Option bm),(∀(i:Nat) c u,l[i]? =Y c->m i=Y u->bI β w X c u)-> ∀(i:Nat) x u,a[i]? =Y x->m i=Y u->bI ha w X1 x u
 | [],_,_,_,h,_=>by simp only[rl] at h;cases h;exact⟨rfl,λ_ _ i x u L=>by simp at L⟩
 |v::l,a,o,F,h,q=>by
  simp only[rl] at h;split at h
  ·rename_i x Q T R W f;cases h;obtain⟨p,t⟩:=dw.app q;obtain⟨M,N⟩:=AJ A B l (λk r=>F k (by simp only[q'];exact uC _ r)) f t;refine⟨by simp[M],λm G i y u z n=>?_⟩;cases i with
   |zero=>
    simp at z;subst z;exact ais A B v (λk r=>F k (by simp only[q'];exact q0 _ r)) W p (G 0 v u rfl n)
   |succ i=>
    exact N (λj=>m (j+1)) (λj c u P n=>G (j+1) c u (by simpa using P) n) i y u (by simpa using z) n
  cases h
end
theorem ait(x: ∀k e,H k=Y e->dJ β w X k e)(y: ∀b,X1 b->X b): ∀{l a:List V} {m:List eM} {us:List bm},(∀k,k∈q' H l-> ∀b,At β k b-> ¬X1 b)->
  rl H l=Y (a,m)->dw m->eG β w X l us->eG ha w X1 a us:=fun {l a m us} z h n r=>by obtain⟨A,B⟩:=AJ x y l z h n;exact JR (by rw[A];exact r.hh.1) λi c u o q=>B (λi=>us[i]?) (λi c u o q=>r.hh.2 i c u o q) i c u o q
end
theorem agy{C:e8}(vE:C.P=K.P)(kr:C.G=K.G){c:ct}{i:Array ct}{y:Array bM}{l:List V}{H:Nat->Option E}{hs:List dq}(cN:l0 K.nt d=I)(hH: ∀k e,H k=Y e->s.H k=Y e)
  (W:l=s.get c::i.toList.map s.get) (h:Mq C d H l hs=Y (e,ni,R)) (j:dw ni):fe K ⟨d,.call {callee:= .value c,args:=i,argTypes:=y},ty,pos,af,g⟩ s (e.app s):=by
 unfold Mq at h;split at h
 ·rename_i f m args;split at h
  ·rename_i r hs;split at h
   ·rename_i ys aos n p;cases h;rw[qR];obtain⟨wk,⟨z,o⟩,_⟩:=dw.app j;rw[vE] at z o;rw[kr] at o;simp only[List.cons.injEq] at W;obtain⟨fn,h1,h2,h3⟩:=z;intro β a w next Q x t
    have v:fn.name≠ "runtime.NumGoroutine" :=by simpa using h2
    have M:fn.body≠al:=by intro e;simp[e] at h3
    obtain⟨us,N,T⟩:=(W.1.symm▸x.get c).MP;have A:(cE a.eval ⟨d,.call {callee:= .value c,args:=i,argTypes:=y},ty,pos,af,g⟩).run K.P w= .ok (.enter f (i.map a.eval++us)) w:=by
     simp[cE,jV,Deferred.ofValue,N,jU,callFunc,h1,v,M]
    unfold Oper.wp;rw[A,Oper.upon_enter];have B:eG β w (own K β s.H) (args++m) (i.toList.map a.eval++us.toList):=by rw[W.2];exact(x.qz i.toList).app T
    let X1:Nat->Prop:=λb=>own K β s.H b/\ ∀k,k∈q' H (args++m)-> ¬At β k b;have q:=ait (X1:=X1) (λk e he=>(x.heap k e (hH k e he)).2) (λb n=>n.1) (λk t b n hx=>hx.2 k t n) n wk B;have F:=o w X1 _ x.GG (λb n=>x.NY b n.1) q;have he:(cb a.eval i.toList++us.toList).toArray=i.map a.eval++us:=by rw[<-zC,<-Array.toList_append]
    rw[he] at F;refine F.mono ?_;rintro e bZ ⟨u,rfl,L,hu⟩;exact t β _ bZ ((x.grow L).put d (jv cN) (SZ p hu))
   cases h
  cases h
 cases h
theorem ahL{C:e8}(vE:C.P=K.P)(kr:C.G=K.G){c:ct}{R:Array ct}{z:Array bM}{m:List V}{H:Nat->Option E}{t W:List dq}(cN:l0 K.nt d=I)
  (hH: ∀k e,H k=Y e->s.H k=Y e) (hu: ∀k,u k=ao->s.u k=ao)
  (A:m=s.get c::R.toList.map s.get) (h:MD C d m H u t=Y (e,M,W)) (b:dw M):fe K ⟨d,.call {callee:= .value c,args:=R,argTypes:=z},ty,pos,af,g⟩ s (e.app s):=by
 unfold MD at h;split at h
 ·rename_i f B args;split at h
  ·rename_i L a r out t;split at h
   ·rename_i p jd hT aO n;cases h;simp only[List.cons.injEq] at A;simp only[cJ] at n;obtain⟨⟨q,F⟩,i⟩:=n;have i:=eg i;obtain⟨⟨N,x⟩,_⟩:=b;rw[vE] at N x;rw[kr] at x;obtain⟨aW,a2⟩:=xJ _ _ hT;obtain⟨i1,i2⟩:=Fj _ _ aO;have hx:=afd (K:=K) (s:=s) (o:=⟨d,.call {callee:= .value c,args:=R,argTypes:=z},ty,pos,af,g⟩) c L a B rfl A.1.symm N (jv cN) (by rw[<-A.2,aW];exact t7 _) a2 i1
     (λk e l=>by
      obtain⟨id,h1,h2,h4⟩:=i2 k e l;exact⟨id,h1,hH _ _ h2,h4⟩)
     (El q) (λid hid=>hu _ (Qs F id hid)) (λ_=>i) x
    have hj:=hx.j;have l:dY.app ⟨gW d (r.fq (L++a)),(L++a).zip (out.map λe=>Y (e.fq (L++a))),(L++a).map λk=>(k,I)⟩ s=(s.after (L++a) out).put d (r.fq (L++a)):=by
     have e1:eD s.H ((L++a).zip (out.map λe=>Y (e.fq (L++a))))=nE s.H (L++a) (λk=>(out[k]?).map (E.fq (L++a))):=by
      have:=QI (L++a) (El q) s.H (out.map λe=>Y (e.fq (L++a))) (λk=>(out[k]?).map (E.fq (L++a))) (by simpa using i) (λk e l=>by
       rw[fG] at l;cases T:out[k]? with
       |none=>rw[T] at l;cases l
       |some y=>rw[T] at l;simp at l;rw[<-l];rfl)
      exact this
     have e2:eD s.u ((L++a).map λk=>(k,I))=nE s.u (L++a) (λ_=>I):=by
      funext id;by_cases Q:id∈L++a
      ·obtain⟨k,hk⟩:=mY.1 Q;rw[qM (El q) hk];exact QF Q
      rw[pU Q,o8 _ _ _ λv A=>Q (by obtain⟨y,hy,e⟩:=fh.1 A;cases e;exact hy)]
     unfold dY.app S.after;cases d<;>simp only[gW,eD,S.put,e1,e2]
    grind
   cases h
  cases h
 cases h
theorem aek{C:e8}(y:fm K.P C.df){H:Nat->Option E}(z: ∀k e,H k=Y e->s.H k=Y e)
  (A:s.get x=v) (h:LI C t H v m=Y (e,l,c)) (a:dw l):fe K ⟨al,.call {callee:= .builtin .clear,args:= #[x],argTypes:= #[t]},ty,pos,af,g⟩ s (e.app s):=by
 unfold LI at h;split at h
 ·cases h
 rename_i i B;split at h
 ·rename_i n o;have F:K.P.underlying t=Y (.slice n):=(y _ _ B).kz.2.2.2 n o;split at h
  ·cases h
  rename_i j G;obtain⟨b,L,_⟩:=y _ _ G;split at h
  ·rename_i q;split at h
   ·rename_i Q R;cases h;obtain⟨rfl,rfl,r,⟨W,rfl⟩,_⟩:=a;exact ahB x _ _ _ n _ _ _ A (z _ _ Q) F L R q r W
   cases h
  cases h
 cases h
theorem ae1{C:e8}(F:fm K.P C.df){H:Nat->Option E}{w:V}{L n:List dq}{Q:List eM}(f: ∀k e,H k=Y e->s.H k=Y e)(p:l0 K.nt d=I)
  (u:s.get x=v) (M:s.get y=w) (h:L8 C d t H v w L=Y (e,Q,n)) (o:dw Q):fe K ⟨d,.call {callee:= .builtin .copy,args:= #[x,y],argTypes:= #[t,G]},ty,pos,af,g⟩ s (e.app s):=by
 unfold L8 at h;split at h
 ·cases h
 rename_i i N;split at h
 ·rename_i q r;have T:K.P.underlying t=Y (.slice q):=(F _ _ N).kz.2.2.2 q r;split at h
  ·cases h
  rename_i j W;obtain⟨rP,he,_⟩:=F _ _ W;split at h
  ·rename_i k g_ b z A a R m L hw;split at h
   ·rename_i e' c B l mQ hp;cases h;obtain⟨rfl,rfl,rfl,rfl,cC,⟨dm,rfl⟩,_⟩:=o;have W:=aiU (K:=K) (s:=s) (d:=d) (ty:=ty) (pos:=pos) (af:=af) (g:=g) (g_:=c) (s_:=j.size) x y k z A q e' G l a (jv p) u (by rw[M,<-hw];exact xB w) (f _ _ mQ) T he (by simpa[Nat.blt_eq] using hp) cC dm
    have: ∀v e,dY.app ⟨gW d v,[(k,Y e)],[]⟩ s=({s with H:=bw s.H k (Y e)}:S).put d v:=by intro v e;cases d<;>rfl
    grind
   cases h
  cases h
 cases h
theorem aiE{C:e8}(A:fm K.P C.df)(N:C.P=K.P)(kr:C.G=K.G)(dc:C.nt=K.nt)(pS:C.e5=K.e5){m:List V}{H:Nat->Option E}{T b:List dq}{j:List eM}
  (a:m=o.op.operands.toList.map s.get) (L: ∀k e,H k=Y e->s.H k=Y e) (W: ∀k,u k=ao->s.u k=ao) (h:MN C o m H u T=Y (e,j,b)) (l:dw j):fe K o s (e.app s):=by
 obtain⟨d,p,ty,pos,af,g⟩:=o;unfold MN at h;dsimp only at h;split at h
 ·cases h
 rename_i z;rw[dc] at z;have Q: ∀{p:Op} {r:kU},m=p.operands.toList.map s.get->(match Bu C.P C.df H p m T with|some (v,j,T)=>Y ((⟨gW d v,[],[]⟩:dY),j,T)|none=>al)=Y (e,j,b)->fe K ⟨d,p,ty,pos,af,g⟩ s (e.app s):=by
  intro p r a h;split at h
  ·rename_i v aor BS n;cases h;rw[qR];rw[N] at n;exact ab5 (vals:=m) (jv z) (ht.of_eq a.symm) ((ai5 A n l).sub L)
  cases h
 split at h
 ·split at h
  ·simp only[Op.operands,jn,List.map_nil,List.cons.injEq,and_true] at a;split at h
   ·exact ae5 z a.symm h
   exact agx W z a.symm h
  cases h
 ·split at h
  ·rename_i i aO;exact aem A aO W z h
  cases h
 ·split at h
  ·simp only[Op.operands,jn,List.map_nil,List.cons.injEq,and_true] at a;split at h
   ·rename_i n;cases h;exact aef A rfl L a.1.symm a.2.symm n l
   exact acf A L a.1.symm a.2.symm h l
  cases h
 ·split at h
  ·simp only[Op.operands,jn,List.map_nil,List.cons.injEq,and_true] at a;exact aeZ A W z a.1.symm a.2.symm h l
  cases h
 ·split at h
  ·rename_i n;cases h;exact agS A W z (by simpa[Op.operands] using a) n l
  exact ae0 A W z (by simpa[Op.operands] using a) h
 ·rename_i c;obtain⟨callee,args,R⟩:=c;dsimp only at h;split at h
  ·rename_i f;split at h
   ·exact ahL N kr z L W (by simpa[Op.operands,Call.operands] using a) h l
   split at h
   ·exact agy N kr z L (by simpa[Op.operands,Call.operands] using a) h l
   exact ae4 N kr z (by simpa[Op.operands,Call.operands] using a) h l
  ·split at h
   ·rename_i x y t lI v w M B;have F:args= #[x,y]:=by rw[<-M]
    have q:R= #[t,lI]:=by rw[<-B]
    subst F;subst q;simp only[Op.operands,Call.operands] at a;simp at a;split at h
    ·rename_i n;cases h;exact acR A pS L z a.1.symm a.2.symm n l
    exact abw A L z a.1.symm a.2.symm h l
   cases h
  ·split at h
   ·rename_i x t v M B;have F:args= #[x]:=by rw[<-M]
    have q:R= #[t]:=by rw[<-B]
    subst F;subst q;simp only[Op.operands,Call.operands] at a;simp at a;exact aek A L a.symm h l
   cases h
  ·split at h
   ·rename_i x y t lI v w M B;have F:args= #[x,y]:=by rw[<-M]
    have q:R= #[t,lI]:=by rw[<-B]
    subst F;subst q;simp only[Op.operands,Call.operands] at a;simp at a;exact ae1 A L z a.1.symm a.2.symm h l
   cases h
  ·exact Q (r:=al) a h
  cases h
 exact Q (r:=al) a h
def ami:V->List Nat
 | .ref id _=>[id]
 | .bE id _ _ _ _=>[id]
 | .c' id _ _ _ _=>[id]
 |_=>[]
def MB:List V->List Nat
 | []=>[]
 |v::a=>ami v++MB a
def WL:List dq->List Nat
 | .nat k::a=>k::WL a
 |_=>[]
def amh:List dq->List Nat
 | .b I::c=>WL c
 | .nat k::_=>[k]
 | .int _:: .nat k::_=>[k]
 | .eZ L a _ _::_=>L++a
 | .lt k _ _::_=>[k]
 |_=>[]
def ki(k:Nat):List Nat->Bool
 | []=>ao
 |x::l=>bif cP x k then I else ki k l
theorem Fe{k:Nat}: ∀{l:List Nat},ki k l=I->k∈l
 | [],h=>by cases h
 |x::l,h=>by
  simp only[ki] at h;cases a:cP x k with
  |true=>rw[eg a];exact fi
  |false=>rw[a] at h;exact eT _ (Fe h)
def xU(a:List Nat)(H:Nat->Option E):Nat->Option E:=λk=>bif ki k a then H k else al
def xT(a:List Nat)(u:Nat->Bool):Nat->Bool:=λk=>bif ki k a then u k else I
theorem adl{H:Nat->Option E}{e:E}(h:xU r H k=Y e):H k=Y e:=by
 unfold xU at h
 grind
theorem acy(h:xT r u k=ao):u k=ao:=by
 unfold xT at h
 grind
def YE:Op->List V->Bool
 | .nilCheck _,[.c' _ _ _ _ _]=>ao
 | .move _,_| .assign _,_| .pick _ _ _,_| .nilCheck _,_| .binOp _ _ _ _ _,_| .unOp _ _ _,_| .convert _ _ _,_| .makeFunc _ _ _,_| .extract _ _,_| .field _ _ _,_| .build _ _,_=>I
 | .fieldAddr _ _ _,[.ref _ _]=>I
 |_,_=>ao
def YC:Op->Bool
 | .load _ _| .slice _ _ _ _ _| .fieldAddr _ _ _| .indexAddr _ _ _| .index _ _ _| .nilCheck _=>I
 | .call c=>match c.callee with
  | .builtin .len=>I
  | .builtin .max=>I
  | .builtin .min=>I
  |_=>ao
 |_=>ao
def yL(o:Oper)(a:List V)(c:List dq):List Nat:=match YE o.op a with
 |true=>[]
 |false=>match YC o.op with
  |true=>MB a
  |false=>MB a++amh c
def tb(C:e8)(o:Oper)(a:List V)(s:S)(c:List dq):kU:=MN C o a (xU (yL o a c) s.H) (xT (yL o a c) s.u) c
def NK:Bool->Bool->Bool
 |true,I=>I
 |false,ao=>I
 |_,_=>ao
def yl(a:Array Oper)(j:Nat)(s:S):Option V:=match (a[j]?).bind (·.dst) with
 |some t=>Y (s.t t)
 |none=>al
def vx(C:e8)(h:Array Oper)(o:Oper)(a:List dq)(s:S):kU:=
 match o.guard with
 |none=>tb C o (o.op.operands.toList.map s.get) s a
 |some (j,c)=>match yl h j s with
  |some (.dB [])=>match l0 C.nt o.dst with
   |true=>Y (⟨gW o.dst (.dB []),[],[]⟩,[],a)
   |false=>al
  |some (.t (.bool b))=>match a with
   | .b w::a=>match NK w c with
    |true=>match tb C o (o.op.operands.toList.map s.get) s a with
     |some (e,i,a)=>Y (e,.p (b=w)::i,a)
     |none=>al
    |false=>match l0 C.nt o.dst with
     |true=>Y (⟨gW o.dst (.dB []),[],[]⟩,[.p (b=w)],a)
     |false=>al
   |_=>al
  |_=>al
end
structure e8.Fits (C:e8) (K:Ctx):Prop where
 T:fm K.P C.df
 P:C.P=K.P
 G:C.G=K.G
 nt:C.nt=K.nt
 e5:C.e5=K.e5
 hq:C.hq=K.hq
section
variable {K:Ctx}{s:S}{C:e8}
theorem Va(a:C.Fits K)(h:tb C o (o.op.operands.toList.map s.get) s i=Y (e,l,c))(k:dw l):fe K o s (e.app s):=
 aiE a.T a.P a.G a.nt a.e5 rfl (λ_ _ h=>adl h) (λ_ h=>acy h) h k
theorem afJ{w v:Bool}(h:NK w v=I):w=v:=by cases w<;>cases v<;>first|rfl|cases h
theorem afq{w v:Bool}(h:NK w v=ao):w= !v:=by cases w<;>cases v<;>first|rfl|cases h
theorem TR{c:Array Oper}{j:Nat}(h:yl c j s=Y v): ∃t,(c[j]?).bind (·.dst)=Y t/\s.t t=v:=by
 unfold yl at h
 grind
theorem U9(r:C.Fits K){c:Array Oper}{k:List dq}(h:vx C c o k s=Y (e,l,i))(a:dw l):kn K c o s (e.app s):=by
 unfold vx at h;split at h
 ·rename_i n;exact kn.of n (Va r h a)
 rename_i j B n;split at h
 ·rename_i m;obtain⟨t,x,y⟩:=TR m;split at h
  ·rename_i z;cases h;rw[qR];exact kn.skip n x y (jv (r.nt▸z))
  cases h
 ·rename_i b m;obtain⟨t,x,y⟩:=TR m;split at h
  ·rename_i w k;split at h
   ·rename_i hw;have hw:=afJ hw;subst hw;split at h
    ·rename_i L F G A;cases h;obtain⟨rfl,q⟩:=a;exact kn.jd n x y (Va r A q)
    cases h
   rename_i hw;have hw:=afq hw;subst hw;split at h
   ·rename_i z;cases h;obtain⟨rfl,_⟩:=a;rw[qR];exact kn.out n x y (jv (r.nt▸z))
   cases h
  cases h
 cases h
theorem ajb{c:Array Oper}{l:List Oper}{Q:S->Prop}(h:kn K c o s b)(m:pA K c l b Q):pA K c (o::l) s Q:=
 λβ a w e n q=>h β a w (wpList K.P c e l) e n λi r x k=>m i r x e k q
end
end
section
def dY.cat(a b:dY):dY:=⟨a.ts++b.ts,a.hs++b.hs,a.us++b.us⟩
def dY.nil:dY:=⟨[],[],[]⟩
theorem SD{k:Type}: ∀(a b:List (Nat×k)) (f:Nat->k),eD f (a++b)=eD (eD f a) b
 | [],_,_=>rfl
 |(d,v)::a,b,f=>by simp only[List.cons_append,eD];exact SD a b _
theorem qH(a b:dY)(s:S):(a.cat b).app s=b.app (a.app s):=by unfold dY.app dY.cat;simp only[SD]
theorem pT{k:Type}: ∀(l:List (Nat×k)) (f:Nat->k) (r:Nat),((∀v,(r,v)∉l)/\eD f l r=f r)\/ ∃v,(r,v)∈l/\eD f l r=v
 | [],_,_=> .inl ⟨λ_ h=>(List.not_mem_nil h).elim,rfl⟩
 |(d,v)::l,f,r=>by
  rcases pT l (bw f d v) r with ⟨c,a⟩|⟨e,c,a⟩
  ·by_cases i:r=d
   ·subst i;exact .inr ⟨v,fi,by rw[eD,a,c6]⟩
   refine .inl ⟨λe h=>?_,by rw[eD,a,cY _ _ _ _ i]⟩;rcases eN.1 h with h|h
   ·cases h;exact i rfl
   exact c e h
  exact .inr ⟨e,eT _ c,by rw[eD,a]⟩
mutual
def n':V->V->V
 | .t (.bX _),v=>p1 v
 | .agg cs,.agg a=> .agg (sS cs a)
 | .dB cs,.dB a=> .dB (sS cs a)
 | .d',_=> .d'
 |_,v=>v
def sS:List V->List V->List V
 |c::cs,v::a=>n' c v::sS cs a
 |_,a=>a
end
mutual
theorem LA: ∀c v:V,eP v (n' c v)
 | .t (.bX _),v=>by simp only[n'];exact xB v
 | .agg cs,.agg a=>by simp only[n'];exact eP.agg (FC cs a)
 | .dB cs,.dB a=>by simp only[n'];exact eP.dB (FC cs a)
 | .d',v=>by simp only[n'];exact eP.d' v
 | .t (.bool _),v| .t (.int _ _),v| .t (.str _),v| .t .hd,v| .t .fF,v| .t .hc,v| .t .p0,v| .t .err,v=>by simp only[n'];exact eP.refl v
 | .ref _ _,v| .bc _,v| .bE _ _ _ _ _,v| .c' _ _ _ _ _,v| .fn _ _,v=>by simp only[n'];exact eP.refl v
 | .agg _,.t _| .agg _,.dB _| .agg _,.ref _ _| .agg _,.bc _| .agg _,.bE _ _ _ _ _| .agg _,.c' _ _ _ _ _| .agg _,.fn _ _| .agg _,.d'=>by simp only[n'];exact eP.refl _
 | .dB _,.t _| .dB _,.agg _| .dB _,.ref _ _| .dB _,.bc _| .dB _,.bE _ _ _ _ _| .dB _,.c' _ _ _ _ _| .dB _,.fn _ _| .dB _,.d'=>by simp only[n'];exact eP.refl _
theorem FC: ∀cs a:List V,ht a (sS cs a)
 |c::cs,v::a=>by simp only[sS];exact⟨LA c v,FC cs a⟩
 | [],a=>by simp only[sS];exact ht.refl a
 |_::_,[]=>by simp only[sS];exact trivial
end
def Gu:Option E->Option E->Option E
 |some (.cells cs),Y (.cells a)=>Y (.cells (sS cs a))
 |some _,e=>e
 |none,_=>al
variable {c s a:S}{e x:E}{β G:Map}{w:bY}{r l:List Nat}{m k i n g_ b L g:Nat}{q:Option Nat}{X W:Nat->Prop}{v:V}{u:bm}{p:V->V->Prop}{o:Oper}{Q:Exit->S->Prop}
theorem Uw{c e:Option E}(h:Gu c e=Y x): ∃a,e=Y a/\mA a x:=by
 unfold Gu at h;split at h
 ·cases h;exact⟨_,rfl,FC _ _⟩
 ·exact⟨x,h,mA.refl x⟩
 cases h
def xW(s:S):List (Nat×V)->List V
 | []=>[]
 |(i,v)::l=>n' v (s.t i)::xW s l
def xZ(s:S):List (Nat×Option E)->List (Option E)
 | []=>[]
 |(k,e)::l=>Gu e (s.H k)::xZ s l
def mE{k:Type}:List (Nat×k)->List k
 | []=>[]
 |(_,v)::l=>v::mE l
theorem Kz{s:S}: ∀{l:List (Nat×V)},xW s l=mE l-> ∀i v,(i,v)∈l->eP (s.t i) v
 |(a,c)::l,h,i,v,hm=>by
  simp only[xW,mE,List.cons.injEq] at h;rcases eN.1 hm with hm|hm
  ·cases hm;exact h.1▸LA _ _
  exact Kz h.2 i v hm
theorem KT{s:S}: ∀{l:List (Nat×Option E)},xZ s l=mE l-> ∀k e,(k,Y e)∈l-> ∃a,s.H k=Y a/\mA a e
 |(c,a)::l,h,k,e,hm=>by
  simp only[xZ,mE,List.cons.injEq] at h;rcases eN.1 hm with hm|hm
  ·cases hm;exact Uw h.1
  exact KT h.2 k e hm
def uS{k:Type}(a:List Nat):List (Nat×k)->Bool
 | []=>I
 |(i,_)::l=>ki i a&&uS a l
theorem Kj{k:Type}{r:List Nat}: ∀{l:List (Nat×k)},uS r l=I-> ∀i v,(i,v)∈l->i∈r
 |(a,c)::l,h,i,v,hm=>by
  simp only[uS,cJ] at h;rcases eN.1 hm with hm|hm
  ·cases hm;exact Fe h.1
  exact Kj h.2 i v hm
def Bk{k:Type}:List (Nat×k)->List Nat
 | []=>[]
 |(i,_)::l=>i::Bk l
theorem S'{k:Type}{i:Nat}: ∀{l:List (Nat×k)},i∈Bk l-> ∃v,(i,v)∈l
 |(d,a)::l,h=>by
  simp only[Bk,List.mem_cons] at h;rcases h with rfl|h
  ·exact⟨a,fi⟩
  obtain⟨v,c⟩:=S' h;exact⟨v,eT _ c⟩
def Gf(a:List Nat)(t:Nat->V):Nat->V:=λi=>bif ki i a then .d' else t i
def S.cl(s:S)(a:List Nat)(c:List (Nat×V))(d:List (Nat×Option E))(e:List (Nat×Bool)):S:={t:=eD (Gf a s.t) c,H:=eD s.H d,u:=eD s.u e}
theorem Rel.OA{K:Ctx}{a:Act}(l:Rel K β s a w)(n:c.u=s.u)(y: ∀k e,c.H k=Y e-> ∃m,s.H k=Y m/\mA m e)(z: ∀i,eP (s.t i) (c.t i)):Rel K β c a w:=by
 have d: ∀b,own K β c.H b->own K β s.H b:=by
  rintro b (h|⟨id,q,r⟩)
  ·exact .inl h
  cases o:c.H id with
  |none=>exact bu o q
  |some e=>
   obtain⟨m,x,_⟩:=y id e o;exact .inr ⟨id,by rw[x];simp,r⟩
 refine {l with low:= ?_,fw:= ?_,fS:= ?_,heap:= ?_,eE:= ?_}
 ·intro id h;rw[n];exact l.low id h
 ·intro id h;rw[n] at h;exact l.fw id h
 ·intro id b h;rw[n] at h;exact l.fS id b h
 ·intro id e o;obtain⟨m,q,r⟩:=y id e o;obtain⟨x,A⟩:=l.heap id m q;refine⟨by rw[n];exact x,?_⟩;exact(r.CS A).mono (Ext.refl _ _) (λb _=>d b) (fa.refl _) (λ_ h=>h) (Shaped.refl _ _) λ_ _=>rfl
 intro i;exact(z i _ _ _ _ (l.eE i)).mono (Ext.refl _ _) (λb _=>d b) (fa.refl _) (Shaped.refl _ _)
theorem Yy{K:Ctx}{e:dY}{d:List (Nat×V)}{c:List (Nat×Option E)}{m:List (Nat×Bool)}(A:e.us=m)(B:uS r e.ts=I)(F:uS (Bk c) e.hs=I)
  (G:xW (e.app s) d=mE d) (L:xZ (e.app s) c=mE c):(e.app s).le K (s.cl r d c m):=by
 intro Q a w R;refine⟨Q,R.OA ?_ ?_ ?_⟩
 ·show eD s.u m=eD s.u e.us;rw[A]
 ·intro k x o;have o:eD s.H c k=Y x:=o;rcases pT c s.H k with ⟨q,n⟩|⟨v,q,n⟩
  ·rw[n] at o;refine⟨x,?_,mA.refl x⟩;show eD s.H e.hs k=Y x;rw[o8 _ _ _ λv y=>?_]
   ·exact o
   obtain⟨b,W⟩:=S' (Kj F k v y)
   grind
  rw[n] at o;subst o;exact KT L k x q
 intro i;show eP _ (eD (Gf r s.t) d i);rcases pT d (Gf r s.t) i with ⟨q,n⟩|⟨v,q,n⟩
 ·rw[n];unfold Gf;cases z:ki i r with
  |true=>exact eP.d' _
  |false=>
   show eP (eD s.t e.ts i) (s.t i);rw[o8 _ _ _ (λv y=>by
    have hm:=Kj B i v y
    have: ∀{l:List Nat},i∈l->ki i l=I:=by
     intro l;induction l with
     |nil=>intro h;cases h
     |cons x l X=>
      intro h;simp only[ki];rcases eN.1 h with rfl|h
      ·simp
      cases cP x i with
      |true=>rfl
      |false=>exact X h
    rw[this hm] at z;cases z)]
   exact eP.refl _
 rw[n];exact Kz G i v q
theorem SC{k:Type}(f:Nat->k)(i:Nat):bw f i (f i)=f:=by
 funext j;by_cases a:j=i
 ·subst a;rw[c6]
 rw[cY _ _ _ _ a]
def Map.move(a:Map)(k c g_:Nat)(q:Option Nat):Map:=
 ⟨λi=>bif cP i c then Y (q,1) else bif cP i k then Y (al,g_+1) else a i,λi b=>(i=c/\a.n k b)\/(i≠c/\i≠k/\a.n i b)⟩
theorem L2(h:i≠k):cP i k=ao:=by
 cases a:cP i k with
 |false=>rfl
 |true=>exact bu (eg a) h
theorem Tj(c:Map)(k a g_:Nat)(q:Option Nat):c.move k a g_ q a=Y (q,1):=by simp[Map.move]
theorem Ti(c:Map)(k a g_:Nat)(q:Option Nat)(h:k≠a):c.move k a g_ q k=Y (al,g_+1):=by simp[Map.move,L2 h]
theorem QT(a:Map)(k c g_:Nat)(q:Option Nat)(id:Nat)(h:id≠k)(d:id≠c):a.move k c g_ q id=a id:=by simp[Map.move,L2 h,L2 d]
theorem aiQ(c:Map)(k d g_:Nat)(q:Option Nat)(a b:Nat)(h:a≠k)(e:a≠d):(c.move k d g_ q).n a b↔c.n a b:=by simp[Map.move,h,e]
theorem ah8(d:k≠n)(e:G k=Y (q,g_))(h:At (G.move k n g_ q) i b):(i=n/\At G k b)\/(i≠k/\i≠n/\At G i b):=by
 rcases h with ⟨g,h⟩|⟨rfl,h⟩|⟨a,c,h⟩
 ·by_cases a:i=n
  ·subst a;rw[Tj] at h;cases h;exact .inl ⟨rfl,.inl ⟨g_,e⟩⟩
  by_cases c:i=k
  ·subst c;rw[Ti _ _ _ _ _ d] at h;cases h
  rw[QT _ _ _ _ _ _ c a] at h;exact .inr ⟨c,a,.inl ⟨g,h⟩⟩
 ·exact .inl ⟨rfl,.inr h⟩
 exact .inr ⟨c,a,.inr h⟩
theorem dJ.set{a:List V}{j:Nat}{c x:V}(h:dJ β w X b (.cells a))(n:a[j]? =Y c)(o: ∀u,bI β w X c u->bI β w X x u):dJ β w X b (.cells (a.set j x)):=by
 obtain⟨d,e,ty,k,l,m,q⟩:=h;refine⟨d,e,ty,k,l,by simpa using m,λi v u r y=>?_⟩
 grind
theorem ab3{K:Ctx}(b k i j g_ q:Nat){e:bM}{n:List (List T)}{R:List ez}{W:Nat}{l:List (List T)}{X:List (Nat×Nat×V)}(f:eh K.e5 k=I)(g:b≠k)
  (br:s.H b=Y (.bn R m W l ((i,j,.bE k g_ q 0 (U n))::X))) (hk:s.H k=Y (.arr e g_ q n)):
  s.le K {t:=s.t,H:=bw (bw s.H k al) b (Y (.bn R m W l ((i,j,.t (.bX n))::X))),u:=s.u}:=by
 intro z a w h;have pS:=fJ f;generalize gV:(Y (.bn R m W l ((i,j,.t (.bX n))::X)):Option E)=N;have anO:N≠al:=by subst gV;simp
 have d: ∀o,own K z (bw (bw s.H k al) b N) o->own K z s.H o:=by
  rintro o (p|⟨id,r,L⟩)
  ·exact .inl p
  by_cases A:id=b
  ·subst A;exact .inr ⟨id,by rw[br];simp,L⟩
  rw[cY _ _ _ _ A] at r;by_cases y:id=k
  ·subst y;rw[c6] at r;exact bu rfl r
  rw[cY _ _ _ _ y] at r;exact .inr ⟨id,r,L⟩
 have F: ∀o,At z k o-> ¬own K z (bw (bw s.H k al) b N) o:=by
  rintro o G (p|⟨id,r,L⟩)
  ·obtain⟨gN,iU⟩:=h.mu o p;rcases(h.fresh k o G).1 with M|jt
   ·exact iU M
   omega
  have:=h.inj _ _ _ L G;subst this;rw[cY _ _ _ _ (Ne.symm g),c6] at r;exact r rfl
 have P:=(h.heap k _ hk).2;refine⟨z,{h with heap:= ?_,eE:= ?_}⟩
 ·intro id e' c;have c:bw (bw s.H k al) b N id=Y e':=c;by_cases A:id=b
  ·subst A;rw[c6] at c;subst c;cases gV;obtain⟨y,Q⟩:=h.heap id _ br;refine⟨y,Q.1,?_⟩;rcases Q.2 with ⟨aW,a2,a3⟩|⟨o,us,B,aW,a2,a3,a4,a5,kX,ko,gY⟩
   ·exact .inl ⟨aW,a2,a3⟩
   refine .inr ⟨o,us,B,aW,a2,a3,a4,λju fx row x u dQ dG fb=>?_,kX,ko,gY⟩;have c5:=a5 ju fx row x u dQ dG fb;refine⟨λv b0=>?_,λmR=>?_⟩
   ·rcases eN.1 b0 with e|b0
    ·simp only[Prod.mk.injEq] at e;obtain⟨rfl,rfl,rfl⟩:=e;obtain⟨d1,d2⟩:=c5.1 _ fi;exact⟨.t _ _ (P.read d1 d F),d2⟩
    obtain⟨d1,d2⟩:=c5.1 v (eT _ b0);exact⟨d1.mono (Ext.refl _ _) (λb _=>d b) (fa.refl _) (Shaped.refl _ _),d2⟩
   have hne: ¬(ju=i/\fx=j):=by rintro⟨rfl,rfl⟩;exact mR _ fi
   refine(c5.2 λv b0=>?_).mono (Ext.refl _ _) (λb _=>d b) (λ_ _=>rfl)
   grind
  rw[cY _ _ _ _ A] at c;by_cases y:id=k
  ·subst y;rw[c6] at c;cases c
  rw[cY _ _ _ _ y] at c;obtain⟨Q,h6⟩:=h.heap id e' c;exact⟨Q,h6.mono (Ext.refl _ _) (λb _=>d b) (fa.refl _) (λ_ h=>h) (Shaped.refl _ _) λ_ _=>rfl⟩
 intro i;exact(h.eE i).mono (Ext.refl _ _) (λb _=>d b) (fa.refl _) (Shaped.refl _ _)
theorem afb{K:Ctx}{c:Nat}(b j k:Nat)(e:bM){B:List V}(L:s.u k=ao)(p:s.H b=Y (.cells B))(P:B[j]? =Y (.t .hd)):
  s.le K {t:=s.t,H:=bw (bw s.H k (Y (.arr e 1 c []))) b (Y (.cells (B.set j (.bE k 1 c 0 0)))),u:=bw s.u k I}:=by
 intro q a w h;have cN:=h.fw k L;have E:b≠k:=by intro e;subst e;have:=(h.heap b _ p).1;rw[this] at L;cases L
 have r: ∀id x,q id=Y x->q.put k (Y (al,1)) id=Y x:=λid x l=>by
  rw[gv _ _ _ _ (by intro e;subst e;rw[cN] at l;cases l)];exact l
 have Q:=fa.of r;have o: ∀id n,At (q.put k (Y (al,1))) id n->id≠k/\At q id n:=λid n l=>by
  by_cases y:id=k
  ·subst y;rcases l with ⟨g,l⟩|l
   ·rw[d5] at l;cases l
   exact bu l (h.fS _ _ L)
  refine⟨y,?_⟩;rcases l with ⟨g,l⟩|l
  ·rw[gv _ _ _ _ y] at l;exact .inl ⟨g,l⟩
  exact .inr l
 have z: ∀n,own K (q.put k (Y (al,1))) (bw (bw s.H k (Y (.arr e 1 c []))) b (Y (.cells (B.set j (.bE k 1 c 0 0))))) n->own K q s.H n:=by
  rintro n (l|⟨id,A,F⟩)
  ·exact .inl l
  obtain⟨M,R⟩:=o id n F;by_cases f:id=b
  ·subst f;exact .inr ⟨id,by rw[p];simp,R⟩
  rw[cY _ _ _ _ f,cY _ _ _ _ M] at A;exact .inr ⟨id,A,R⟩
 have W: ∀v u,bI q w (own K q s.H) v u->bI (q.put k (Y (al,1))) w (own K (q.put k (Y (al,1))) (bw (bw s.H k (Y (.arr e 1 c []))) b (Y (.cells (B.set j (.bE k 1 c 0 0)))))) v u:=
  λv u G=>G.mono (Ext.refl _ _) (λb _=>z b) Q (Shaped.refl _ _)
 refine⟨q.put k (Y (al,1)),{h with base:= ?_,low:= ?_,fw:= ?_,fS:= ?_,inj:= ?_,fresh:= ?_,heap:= ?_,eE:=λi=>W _ _ (h.eE i)}⟩
 ·refine h.base.keep λid hid=>?_
  have:=h.low id hid;rw[gv _ _ _ _ (by intro e;subst e;rw[L] at this;cases this)]
 ·intro id hid;show bw s.u k I id=I;by_cases e:id=k
  ·subst e;exact c6 _ _ _
  rw[cY _ _ _ _ e];exact h.low id hid
 ·intro id hid;have d:bw s.u k I id=ao:=hid;by_cases e:id=k
  ·subst e;rw[c6] at d;cases d
  rw[cY _ _ _ _ e] at d;rw[gv _ _ _ _ e];exact h.fw id d
 ·intro id b hid;have d:bw s.u k I id=ao:=hid;by_cases e:id=k
  ·subst e;rw[c6] at d;cases d
  rw[cY _ _ _ _ e] at d;exact h.fS id b d
 ·intro id X n A F;exact h.inj id X n (o id n A).2 (o X n F).2
 ·intro id n l;exact h.fresh id n (o id n l).2
 intro id e' m;have m:bw (bw s.H k (Y (.arr e 1 c []))) b (Y (.cells (B.set j (.bE k 1 c 0 0)))) id=Y e':=m;show bw s.u k I id=I/\dJ _ _ (own K _ (bw (bw s.H k (Y (.arr e 1 c []))) b (Y (.cells (B.set j (.bE k 1 c 0 0)))))) id e';by_cases R:id=b
 ·subst R;rw[c6] at m;cases m;rw[cY _ _ _ _ E];obtain⟨f,n,us,ty,g1,g2,g3,T⟩:=h.heap id _ p;refine⟨f,n,us,ty,r _ _ g1,g2,by simpa using g3,λi v u G hu=>?_⟩;by_cases y:i=j
  ·subst y;have N:=(cI.1 P).1;rw[lN N] at G;cases G;have A:=T i _ u P hu;cases A with
   |t _ _ F=>cases F;exact .jh k 1 c (dV _) (c6 _ _ _)
  rw[oK (Ne.symm y)] at G;exact W _ _ (T i v u G hu)
 rw[cY _ _ _ _ R] at m;by_cases y:id=k
 ·subst y;rw[c6] at m;cases m;exact⟨c6 _ _ _,dV _,Or.inl ⟨c6 _ _ _,rfl⟩⟩
 rw[cY _ _ _ _ y] at m;obtain⟨A,F⟩:=h.heap id e' m;exact⟨by rw[cY _ _ _ _ y];exact A,F.mono (Ext.refl _ _) (λb _=>z b) Q (r id) (Shaped.refl _ _) λ_ _=>rfl⟩
def oF(k:Nat):Nat->Bool:=λid=>bif cP id k then ao else I
def vl(k:Nat)(v:V):V:=bif v.ok (oF k) then v else .d'
def Mf(k:Nat):E->Option E
 | .cells cs=>bif V.hK (oF k) cs then Y (.cells cs) else al
 | .bn d m g_ a c=>bif sV (oF k) c then Y (.bn d m g_ a c) else al
 |e=>Y e
theorem FR(h:i≠k):oF k i=I:=by
 have:cP i k=ao:=by cases a:cP i k with
  |false=>rfl
  |true=>exact bu (eg a) h
 simp[oF,this]
theorem A4(h:oF k i=I):i≠k:=by intro e;subst e;simp[oF] at h
def E.pf(n:Nat):E->E
 | .arr e _ z r=> .arr e n z r
 | .bn a m _ r c=> .bn a m n r c
 |e=>e
abbrev E.HG:E->E:=E.pf 1
def E.rF:E->List (Nat×Nat×V)
 | .bn _ _ _ _ a=>a
 |_=>[]
theorem dJ.pf{β':Map}(h:dJ β w X k e)(d:1<=n)(F:e.gen=Y g)(z:β k=Y (q,g))(A:β' L=Y (q,n))(R: ∀b,β'.n L b↔β.n k b)(f: ∀b,W b->X b)
  (s: ∀i j v,(i,j,v)∈e.rF-> ∀u,bI β w X v u->bI β' w W v u):dJ β' w W L (e.pf n):=by
 cases e with
 |cells=>cases F
 |arr ty t p l=>
  cases F;refine⟨d,?_⟩;rcases h.2 with ⟨aW,a2⟩|⟨b,G,aW,a2,a3,a4,a5⟩
  ·rw[z] at aW;cases aW;exact .inl ⟨A,a2⟩
  rw[z] at aW;cases aW;exact .inr ⟨b,G,A,a2,a3,a4,λi j a x u o r y=>(a5 i j a x u o r y).mono (Ext.refl _ _) λb _=>f b⟩
 |bn N m t l P=>
  cases F;refine⟨d,?_⟩;rcases h.2 with ⟨aW,a2,a0⟩|⟨b,G,B,aW,a2,a3,a4,a5,kX,ko,gY⟩
  ·rw[z] at aW;cases aW;exact .inl ⟨A,a2,λc M=>a0 c ((R c).1 M)⟩
  rw[z] at aW;cases aW;exact .inr ⟨b,G,B,A,a2,a3,a4,λi j a x u o r y=>⟨λv H=>⟨s i j v H _ ((a5 i j a x u o r y).1 v H).1,((a5 i j a x u o r y).1 v H).2⟩,λQ=>((a5 i j a x u o r y).2 Q).mono (Ext.refl _ _) (λc _=>f c) λ_ _=>rfl⟩,kX,ko,λc=>(R c).trans (gY c)⟩
theorem Tz(h:bI G w X v u)(a: ∀b,W b->X b):bI (G.put k (Y (q,g+1))) w W (vl k v) u:=by
 unfold vl;cases c:v.ok (oF k) with
 |false=>exact .d' _
 |true=>exact h.under a (λid hid=>gv _ _ _ _ (A4 hid)) c
theorem Sn{y:E}(h:dJ G w X i x)(e: ∀b,W b->X b)(l:i≠k)(a:Mf k x=Y y):dJ (G.put k (Y (q,g+1))) w W i y:=by
 unfold Mf at a;split at a
 ·rename_i cs;cases c:V.hK (oF k) cs with
  |false=>rw[c] at a;cases a
  |true=>rw[c] at a;cases a;exact h.under e (λi hid=>gv _ _ _ _ (A4 hid)) (FR l) c
 ·rename_i n;cases c:sV (oF k) n with
  |false=>rw[c] at a;cases a
  |true=>rw[c] at a;cases a;exact h.under e (λi hid=>gv _ _ _ _ (A4 hid)) (FR l) c
 cases a;refine h.under e (u:=oF k) (λi hid=>gv _ _ _ _ (A4 hid)) (FR l) ?_;cases x with
 |cells cs=>rename_i o _;exact bu rfl (o cs)
 |arr=>rfl
 |bn r m g_ d n=>rename_i _ o;exact bu rfl (o r m g_ d n)
def sJ(k:Nat)(H:Nat->Option E):Nat->Option E:=λid=>match H id with
 |some e=>Mf k e
 |none=>al
theorem Rel.Xh{K:Ctx}{s':S}{a:Act}(h:Rel K β s a w)(k g g_:Nat){L:Option Nat}(F:s.H k=Y e)(M:e.gen=Y g_)(Q:e.rF=[])(R:k<K.e5)(W:K.hq k=Y (L,g))
  (n:s'.u=s.u) (f:s'.H k=Y (e.pf (g+1))) (q:Option Nat) (G:β k=Y (q,g_))
  (N: ∀id x,id≠k->s'.H id=Y x->s.H id≠al/\ ∀X,(∀b,X b->own K β s.H b)->dJ (β.put k (Y (q,g+1))) w X id x)
  (fB: ∀i,∀X,(∀b,X b->own K β s.H b)->bI (β.put k (Y (q,g+1))) w X (s'.t i) (a.tmps.getD i undef)):Rel K (β.put k (Y (q,g+1))) s' a w:=by
 have p:1<=g_:=(q7 (h.heap k _ F).2 M).1;have o:=(h.heap k _ F).1;have r:1<=g/\ ∀b,q=Y b->L=Y b\/K.w0.heap.size<=b:=by
  rcases h.base k R with P|⟨oH,g1,q2,g2,aW,a2,a3,a4,a5⟩
  ·rw[G,W] at P;cases P;exact⟨p,λb br=> .inl br⟩
  rw[W] at aW;cases aW;rw[G] at a3;cases a3;exact⟨a2,a5⟩
 have c: ∀id b,At (β.put k (Y (q,g+1))) id b->At β id b:=λid b br=>by
  rcases br with ⟨iM,br⟩|br
  ·by_cases d:id=k
   ·subst d;rw[d5] at br;cases br;exact .inl ⟨g_,G⟩
   rw[gv _ _ _ _ d] at br;exact .inl ⟨iM,br⟩
  exact .inr br
 have l: ∀b,own K (β.put k (Y (q,g+1))) s'.H b->own K β s.H b:=by
  rintro b (m|⟨id,z,A⟩)
  ·exact .inl m
  refine .inr ⟨id,?_,c id b A⟩;by_cases d:id=k
  ·subst d;rw[F];simp
  cases m:s'.H id with
  |none=>exact bu m z
  |some x=>exact(N id x d m).1
 refine {h with base:= ?_,low:= ?_,fw:= ?_,fS:=λid b hid=>h.fS id b (n▸hid),inj:= ?_,fresh:=λid b br=>h.fresh id b (c id b br),heap:= ?_,eE:=λi=>fB i _ l}
 ·intro id hid;by_cases d:id=k
  ·subst d;exact .inr ⟨L,g,q,g+1,W,r.1,c6 _ _ _,p7 _,r.2⟩
  rw[gv _ _ _ _ d];exact h.base id hid
 ·intro id hid;rw[n];exact h.low id hid
 ·intro id hid;rw[n] at hid;rw[gv _ _ _ _ (by intro e;subst e;rw[o] at hid;cases hid)];exact h.fw id hid
 ·intro id B b z A;exact h.inj id B b (c id b z) (c B b A)
 intro id x m;by_cases d:id=k
 ·subst d;rw[f] at m;cases m;exact⟨by rw[n];exact o,(h.heap id _ F).2.pf O M G (c6 _ _ _) (λ_=>Iff.rfl) l λi j v T=>by rw[Q] at T;cases T⟩
 obtain⟨z,A⟩:=N id x d m;refine⟨?_,A _ l⟩;rw[n];cases V:s.H id with
 |none=>exact bu V z
 |some y=>exact(h.heap id y V).1
theorem R3(l:G k=Y (q,g_))(h:bI G w X (.bE k g_ i L m) u):bI (G.put k (Y (q,g+1))) w W (.bE k (g+1) i L m) u:=by
 rcases d6 h l with ⟨c,b,n,d,rfl,a,o,r,e,x,y⟩|⟨a,rfl,rfl,rfl⟩
 ·subst a;exact .bE k (g+1) i L m c b n d O (c6 _ _ _) o r e x y
 subst a;exact .jh k (g+1) i O (c6 _ _ _)
theorem JC{K:Ctx}(i k g g_ c d l:Nat)(Q:ey k K.e5=I)(R:s.t i= .bE k g_ c d l)(B:s.H k=Y e)(F:e.gen=Y g_)(o:e.rF=[])(r: ∃q,K.hq k=Y (q,g)):
  s.le K {t:=bw (λj=>vl k (s.t j)) i (.bE k (g+1) c d l),H:=bw (sJ k s.H) k (Y (e.pf (g+1))),u:=s.u}:=by
 intro W a w h;obtain⟨b,r⟩:=r;obtain⟨_,q,G⟩:=q7 (h.heap k _ B).2 F;refine⟨_,h.Xh (s':={t:=bw (λj=>vl k (s.t j)) i (.bE k (g+1) c d l),H:=bw (sJ k s.H) k (Y (e.pf (g+1))),u:=s.u}) k g g_ B F o (by simpa[Nat.blt_eq] using Q) r rfl (c6 _ _ _) q G ?_ ?_⟩
 ·intro id x n m;have m:bw (sJ k s.H) k (Y (e.pf (g+1))) id=Y x:=m;rw[cY _ _ _ _ n] at m;unfold sJ at m;cases z:s.H id with
  |none=>rw[z] at m;cases m
  |some y=>
   rw[z] at m;exact⟨aZ,λX A=>Sn (h.heap id y z).2 A n m⟩
 intro j X A;show bI _ w X (bw (λj=>vl k (s.t j)) i (.bE k (g+1) c d l) j) _;by_cases L:j=i
 ·subst L;rw[c6];exact R3 G (R▸h.eE j)
 rw[cY _ _ _ _ L];exact Tz (h.eE j) A
theorem iH{K:Ctx}(b j k g g_ c l m:Nat){cs:List V}(dc:ey k K.e5=I)(B:s.H b=Y (.cells cs))(F:cs[j]? =Y (.bE k g_ c l m))(G:V.hK (oF k) (cs.set j .d')=I)
  (A:s.H k=Y e) (L:e.gen=Y g_) (Q:e.rF=[]) (R: ∃q,K.hq k=Y (q,g)):
  s.le K {t:=λj=>vl k (s.t j),H:=bw (bw (sJ k s.H) k (Y (e.pf (g+1)))) b (Y (.cells (cs.set j (.bE k (g+1) c l m)))),u:=s.u}:=by
 intro W a w h;obtain⟨rY,R⟩:=R;obtain⟨_,q,N⟩:=q7 (h.heap k _ A).2 L;have n:b≠k:=by intro e';subst e';rw[B] at A;cases A;cases L
 refine⟨_,h.Xh (s':={t:=λj=>vl k (s.t j),H:=bw (bw (sJ k s.H) k (Y (e.pf (g+1)))) b (Y (.cells (cs.set j (.bE k (g+1) c l m)))),u:=s.u}) k g g_ A L Q (by simpa[Nat.blt_eq] using dc) R rfl (by show bw _ b _ k=_;rw[cY _ _ _ _ (Ne.symm n),c6]) q N ?_ ?_⟩
 ·intro id x o d;have d:bw (bw (sJ k s.H) k (Y (e.pf (g+1)))) b (Y (.cells (cs.set j (.bE k (g+1) c l m)))) id=Y x:=d;by_cases r:id=b
  ·subst r;rw[c6] at d;cases d;refine⟨by rw[B];simp,λX z=>?_⟩;have P:=(h.heap id _ B).2;have h6:dJ W w (own K W s.H) id (.cells (cs.set j .d')):=P.set F λu _=> .d' u;have qA:=h6.under (u:=oF k) (β':=W.put k (Y (q,g+1))) z (λid hid=>gv _ _ _ _ (A4 hid)) (FR n) G;obtain⟨iG,us,ty,T,g2,g3,g4⟩:=qA;obtain⟨dG,sc,am',f1,f2,f3,f4⟩:=P;rw[gv _ _ _ _ n,f1] at T;cases T;rw[f2] at g2;cases g2;refine⟨_,_,_,by rw[gv _ _ _ _ n];exact f1,f2,by simpa using f3,λi v u f hu=>?_⟩;by_cases aO:i=j
   ·subst aO;have p:=(cI.1 F).1;rw[lN p] at f;cases f;exact R3 N (f4 i _ u F hu)
   rw[oK (Ne.symm aO)] at f
   grind
  rw[cY _ _ _ _ r,cY _ _ _ _ o] at d;unfold sJ at d;cases M:s.H id with
  |none=>rw[M] at d;cases d
  |some y=>
   rw[M] at d;exact⟨aZ,λX z=>Sn (h.heap id y M).2 z o d⟩
 intro j X z;exact Tz (h.eE j) z
inductive py (p:V->V->Prop):V->V->Prop
 |same (v:V):py p v v
 |put {v fr:V} (h:p v fr):py p v fr
 |agg {cs ML:List V} (dm:U ML=U cs) (h: ∀(i:Nat) c VM,cs[i]? =Y c->ML[i]? =Y VM->py p c VM):py p (.agg cs) (.agg ML)
theorem L4{a:Map}{b:bY}(e: ∀v u,bI a w X v u->bI G b W v u)(k: ∀v x u,p v x->bI a w X v u->bI G b W x u){x:V}(h:py p v x): ∀u,bI a w X v u->bI G b W x u:=by
 induction h with
 |same v=>exact e v
 |put h=>exact λu=>k _ _ u h
 |agg l h m=>
  intro u d;cases d with
  |agg _ n o q=>
   refine .agg _ n O λi r u c d=>?_;have aO:=(cI.1 c).1;have ch:=bO (show i<_ by rw[<-l];exact aO);exact m i _ r ch c u (q i _ u ch d)
def Aa(p:V->V->Prop)(e d:E):Prop:=d=e\/ ∃cs a,e= .cells cs/\d= .cells a/\(U a)=U cs/\ ∀(i:Nat) c h,cs[i]? =Y c->a[i]? =Y h->py p c h
theorem Aa.CS{a:Map}(d: ∀x,a n=Y x->G n=Y x)(m: ∀e,dJ a w X n e->dJ G w W n e)(o: ∀v u,bI a w X v u->bI G w W v u)(q: ∀v k u,p v k->bI a w X v u->bI G w W k u){e':E}(h:Aa p e e')(l:dJ a w X n e):dJ G w W n e':=by
 rcases h with rfl|⟨cs,r,rfl,rfl,y,h⟩
 ·exact m _ l
 obtain⟨b,z,ty,A,B,Q,F⟩:=l;refine⟨b,z,ty,d _ A,B,O,λi H u c L=>?_⟩;have aO:=(cI.1 c).1;have ch:=bO (show i<_ by rw[<-y];exact aO);exact L4 o q (h i _ H ch c) u (F i _ u ch L)
theorem ab4{K:Ctx}(g:Nat->V)(o:Nat->Option E)(k g_ d:Nat){e:bM}{c:List (List T)}(G:eh K.e5 k=I)(N:s.H k=Y (.arr e g_ d c))
  (P: ∀i,py (λv q=>v= .bE k g_ d 0 (U c)/\q= .t (.bX c)) (s.t i) (g i)) (V4:o k=al)
  (j: ∀id r,o id=Y r-> ∃x,s.H id=Y x/\Aa (λv q=>v= .bE k g_ d 0 (U c)/\q= .t (.bX c)) x r):s.le K {t:=g,H:=o,u:=s.u}:=by
 intro l a w h;have pS:=fJ G;have m: ∀n,own K l o n->own K l s.H n:=by
  rintro n (L|⟨id,B,y⟩)
  ·exact .inl L
  cases F:o id with
  |none=>exact bu F B
  |some r=>obtain⟨x,Q,_⟩:=j id r F;exact .inr ⟨id,by rw[Q];simp,y⟩
 have z: ∀n,At l k n-> ¬own K l o n:=by
  rintro n A (L|⟨id,B,y⟩)
  ·obtain⟨gN,iU⟩:=h.mu n L;rcases(h.fresh k n A).1 with R|jt
   ·exact iU R
   omega
  have:=h.inj _ _ _ y A
  grind
 have W:=(h.heap k _ N).2;have p: ∀v u,bI l w (own K l s.H) v u->bI l w (own K l o) v u:=λv u X=>X.mono (Ext.refl _ _) (λb _=>m b) (fa.refl _) (Shaped.refl _ _);have M: ∀v q u,(v= .bE k g_ d 0 (U c)/\q= .t (.bX c))->bI l w (own K l s.H) v u->bI l w (own K l o) q u:=by
  rintro v q u ⟨rfl,rfl⟩ X;exact .t _ _ (W.read X m z)
 refine⟨l,{h with heap:= ?_,eE:= ?_}⟩
 ·intro id r f;obtain⟨x,B,y⟩:=j id r f;obtain⟨Q,h4⟩:=h.heap id x B;exact⟨Q,y.CS (λ_ h=>h) (λe F=>F.mono (Ext.refl _ _) (λb _=>m b) (fa.refl _) (λ_ h=>h) (Shaped.refl _ _) λ_ _=>rfl) p M h4⟩
 intro i;exact L4 p M (P i) _ (h.eE i)
theorem acC{K:Ctx}(lI:Nat->V)(A:Nat->Option E)(k dn g_ l f:Nat){F:E}(BL:eh K.e5 k=I)(p:k≠dn)(hk:s.H k=Y F)(b9:F.gen=Y g_)(hu:s.u dn=ao)
  (fB: ∀i,py (λv Q=>v= .bE k g_ l 0 f/\Q= .bE dn 1 l 0 f) (s.t i) (lI i)) (V4:A k=al) (M:A dn=Y F.HG)
  (hH: ∀id e',id≠dn->A id=Y e'-> ∃F,s.H id=Y F/\Aa (λv Q=>v= .bE k g_ l 0 f/\Q= .bE dn 1 l 0 f) F e'):
  s.le K {t:=lI,H:=A,u:=bw s.u dn I}:=by
 intro B a w h;have pS:=fJ BL;obtain⟨l3,q,dR⟩:=q7 (h.heap k _ hk).2 b9;have Ng:=(h.heap k _ hk).1;have cN:=h.fw dn hu;have anY:K.e5<=dn:=by
  apply Nat.le_of_not_lt;intro hlt;rw[h.low dn hlt] at hu;cases hu
 let d:=B.move k dn g_ q;have dQ:d dn=Y (q,1):=Tj _ _ _ _ _;have dG:d k=Y (al,g_+1):=Ti _ _ _ _ _ p;have fb: ∀id,id≠k->id≠dn->d id=B id:=λid m y=>QT _ _ _ _ _ _ m y;have o: ∀id b,At d id b->(id=dn/\At B k b)\/(id≠k/\id≠dn/\At B id b):=by
  intro id b R;exact ah8 p dR R
 have N:fa B d:=by
  intro id q2 g G
  grind
 have z: ∀b,own K d A b->own K B s.H b:=by
  rintro b (G|⟨id,m,y⟩)
  ·exact .inl G
  rcases o id b y with ⟨rfl,r⟩|⟨r,P,L⟩
  ·exact .inr ⟨k,by rw[hk];simp,r⟩
  cases he:A id with
  |none=>exact bu he m
  |some e'=>obtain⟨F,W,_⟩:=hH id e' P he;exact .inr ⟨id,by rw[W];simp,L⟩
 have hm: ∀v u,bI B w (own K B s.H) v u->bI d w (own K d A) v u:=λv u b0=>b0.mono (Ext.refl _ _) (λb _=>z b) N (Shaped.refl _ _);have hp: ∀v Q u,(v= .bE k g_ l 0 f/\Q= .bE dn 1 l 0 f)->bI B w (own K B s.H) v u->bI d w (own K d A) Q u:=by
  rintro v Q u ⟨rfl,rfl⟩ b0;rcases d6 b0 dR with ⟨cap,b,n,kO,rfl,X,hw,hs,vJ,dm,yv⟩|⟨X,m,y,rfl⟩
  ·subst X;exact .bE dn 1 l 0 _ cap b n kO (dV _) dQ hw hs vJ dm yv
  subst X;rw[y];exact .jh dn 1 l (dV _) dQ
 refine⟨d,{h with base:= ?_,low:= ?_,fw:= ?_,fS:= ?_,inj:= ?_,fresh:= ?_,heap:= ?_,eE:= ?_}⟩
 ·exact h.base.keep λid hid=>fb id O O
 ·intro id hid;show bw s.u dn I id=I;rw[cY _ _ _ _ O];exact h.low id hid
 ·intro id hid;have c:bw s.u dn I id=ao:=hid;by_cases m:id=dn
  ·subst m;rw[c6] at c;cases c
  rw[cY _ _ _ _ m] at c;rw[fb id (by intro e;subst e;rw[Ng] at c;cases c) m];exact h.fw id c
 ·intro id b hid R;have c:bw s.u dn I id=ao:=hid;rcases R with ⟨m,_⟩|⟨m,_,R⟩
  ·subst m;rw[c6] at c;cases c
  rw[cY _ _ _ _ m] at c;exact h.fS id b c R
 ·intro id k9 b m y;rcases o id b m with ⟨rfl,r⟩|⟨r,P,L⟩<;>rcases o k9 b y with ⟨e2,W⟩|⟨W,qA,pN⟩
  ·exact e2.symm
  ·exact bu (h.inj _ _ b pN r) W
  ·subst e2;exact bu (h.inj _ _ b L W) r
  exact h.inj _ _ b L pN
 ·intro id b R;rcases o id b R with ⟨rfl,r⟩|⟨r,P,L⟩
  ·refine⟨?_,(h.fresh _ _ r).2⟩;exact(h.fresh _ _ r).1
  exact h.fresh id b L
 ·intro id e' G;have T:A id=Y e':=G;clear G;show bw s.u dn I id=I/\dJ d w (own K d A) id e';by_cases m:id=dn
  ·subst m;rw[M] at T;cases T;exact⟨c6 _ _ _,(h.heap k _ hk).2.pf (dV _) b9 dR dQ (λb=>by simp[d,Map.move]) z λ_ _ v _ u=>hm v u⟩
  have y:id≠k:=by intro e;subst e;rw[V4] at T;cases T
  obtain⟨F,L,W⟩:=hH id e' m T;obtain⟨r,P⟩:=h.heap id F L;rw[cY _ _ _ _ m];refine⟨r,W.CS (λx G=>by rw[fb id y m];exact G) (λe he=>he.mono (Ext.refl _ _) (λb _=>z b) N (λx G=>by rw[fb id y m];exact G) (Shaped.refl _ _) (λ_ _=>rfl) λb=>aiQ _ _ _ _ _ _ _ y m) hm hp P⟩
 intro j;exact L4 hm hp (fB j) _ (h.eE j)
mutual
def r3(k g z n:Nat)(c:V):V->V×List eM
 | .bE h g_ a d e=>match cP h k&&cP d 0 with
  |true=>(c,[.q g_ g,.q a z,.q e n])
  |false=>(.bE h g_ a d e,[])
 | .agg cs=>(.agg (pe k g z n c cs).1,(pe k g z n c cs).2)
 |v=>(v,[])
def pe(k g z n:Nat)(a:V):List V->List V×List eM
 | []=>([],[])
 |c::cs=>((r3 k g z n a c).1::(pe k g z n a cs).1,(r3 k g z n a c).2++(pe k g z n a cs).2)
end
theorem JL(k g z n:Nat)(a:V): ∀cs,U (pe k g z n a cs).1=U cs
 | []=>rfl
 |c::cs=>by simp[pe,JL k g z n a cs]
mutual
theorem UU(k g z n:Nat)(c:V): ∀v,dw (r3 k g z n c v).2->py (λa b=>a= .bE k g z 0 n/\b=c) v (r3 k g z n c v).1
 | .bE l g_ i e m,h=>by
  unfold r3 at h⊢;cases d:cP l k&&cP e 0 with
  |false=>exact .same _
  |true=>
   simp only[d] at h⊢;simp only[cJ] at d;obtain⟨rfl,rfl,rfl,_⟩:=h;have o:=eg d.1;have q:=eg d.2;subst o;subst q;exact .put ⟨rfl,rfl⟩
 | .agg cs,h=>by
  simp only[r3] at h⊢;exact .agg (JL _ _ _ _ _ _) (LO k g z n c cs h)
 | .t _,_| .dB _,_| .ref _ _,_| .bc _,_| .c' _ _ _ _ _,_| .fn _ _,_| .d',_=>by simp only[r3];exact .same _
theorem LO(k g z n:Nat)(d:V): ∀cs,dw (pe k g z n d cs).2-> ∀(i:Nat) c l,cs[i]? =Y c->(pe k g z n d cs).1[i]? =Y l->py (λa b=>a= .bE k g z 0 n/\b=d) c l
 | [],_,i,c,l,h,_=>by simp at h
 |o::cs,m,0,c,l,h,e=>by
  simp only[pe] at m e;simp at h e;subst h;subst e;exact UU k g z n d o (dw.app m).1
 |o::cs,m,i+1,c,l,h,e=>by simp only[pe] at m e;simp at h e;exact LO k g z n d cs (dw.app m).2 i c l h e
end
def kx(k g z n:Nat)(a:V)(s:S):List Nat->List (Nat×V)×List eM
 | []=>([],[])
 |i::is=>((i,(r3 k g z n a (s.t i)).1)::(kx k g z n a s is).1,(r3 k g z n a (s.t i)).2++(kx k g z n a s is).2)
def iQ(k g z n:Nat)(a:V)(s:S):List Nat->List (Nat×Option E)×List eM
 | []=>([],[])
 |b::c=>match s.H b with
  |some (.cells cs)=>((b,Y (.cells (pe k g z n a cs).1))::(iQ k g z n a s c).1,(pe k g z n a cs).2++(iQ k g z n a s c).2)
  |_=>iQ k g z n a s c
theorem LN{k g z n:Nat}{x:V}{s:S}: ∀{is:List Nat},dw (kx k g z n x s is).2-> ∀i v,(i,v)∈(kx k g z n x s is).1->py (λa b=>a= .bE k g z 0 n/\b=x) (s.t i) v
 |i0::is,c,i,v,h=>by
  simp only[kx] at c h;rcases eN.1 h with h|h
  ·cases h;exact UU _ _ _ _ _ _ (dw.app c).1
  exact LN (dw.app c).2 i v h
theorem FY{k g z n:Nat}{x:V}{s:S}: ∀{i:List Nat},dw (iQ k g z n x s i).2-> ∀b e,(b,e)∈(iQ k g z n x s i).1-> ∃m o,s.H b=Y m/\e=Y o/\Aa (λa b=>a= .bE k g z 0 n/\b=x) m o
 |q::i,c,b,e,h=>by
  unfold iQ at c h;split at h
  ·rename_i cs d;simp only[d] at c;rcases eN.1 h with h|h
   ·cases h;exact⟨_,_,d,rfl,.inr ⟨cs,_,rfl,rfl,JL _ _ _ _ _ _,LO _ _ _ _ _ _ (dw.app c).1⟩⟩
   exact FY (dw.app c).2 b e h
  rename_i d;split at c
  ·rename_i cs l;exact bu l (d cs)
  exact FY c b e h
theorem T8{k:Nat}: ∀{l:List Nat},k∈l->ki k l=I
 |x::l,h=>by
  simp only[ki];rcases eN.1 h with rfl|h
  ·simp
  cases cP x k with
  |true=>rfl
  |false=>exact T8 h
theorem Aq(h:(!ki k l)=I):k∉l:=λa=>by rw[T8 a] at h;cases h
theorem UH{dn:Nat}(h:(!Nat.beq k dn)=I):k≠dn:=λe=>by subst e;simp at h
theorem Ao{k g z n:Nat}{x:V}{s:S}: ∀{a:List Nat} {b:Nat} {e:Option E},(b,e)∈(iQ k g z n x s a).1->b∈a
 |c::a,b,e,h=>by
  unfold iQ at h;split at h
  ·rcases eN.1 h with h|h
   ·cases h;exact fi
   exact eT _ (Ao h)
  exact eT _ (Ao h)
theorem YL{K:Ctx}{e:bM}{a:List (List T)}{L:List Nat}(h:eh K.e5 k=I)(m:s.H k=Y (.arr e g_ n a))(o:k∉r)
  (q:dw (kx k g_ n (U a) (.t (.bX a)) s L).2) (w:dw (iQ k g_ n (U a) (.t (.bX a)) s r).2):
  s.le K ((⟨(kx k g_ n (U a) (.t (.bX a)) s L).1,(k,al)::(iQ k g_ n (U a) (.t (.bX a)) s r).1,[]⟩:dY).app s):=by
 refine ab4 _ _ k g_ n h m (λi=>?_) ?_ λid e' c=>?_
 ·rcases pT (kx k g_ n (U a) (.t (.bX a)) s L).1 s.t i with ⟨_,d⟩|⟨v,l,d⟩
  ·rw[d];exact .same _
  rw[d];exact LN q i v l
 ·show eD (bw s.H k al) _ k=al;rw[o8 _ _ _ λv x=>o (Ao x),c6]
 have c:eD (bw s.H k al) (iQ k g_ n (U a) (.t (.bX a)) s r).1 id=Y e':=c;rcases pT (iQ k g_ n (U a) (.t (.bX a)) s r).1 (bw s.H k al) id with ⟨_,d⟩|⟨v,l,d⟩
 ·rw[d] at c;by_cases hid:id=k
  ·subst hid;rw[c6] at c;cases c
  rw[cY _ _ _ _ hid] at c;exact⟨e',c,.inl rfl⟩
 rw[d] at c;subst c;obtain⟨y,z,A,B,F⟩:=FY w id _ l
 grind
theorem Vp{K:Ctx}{T:E}(h:eh K.e5 k=I)(d:k≠L)(x:s.H k=Y T)(y:T.gen=Y g_)(z:s.u L=ao)(A:k∉r)(o:L∉r)
  (B:dw (kx k g_ n m (.bE L 1 n 0 m) s l).2) (F:dw (iQ k g_ n m (.bE L 1 n 0 m) s r).2):
  s.le K ((⟨(kx k g_ n m (.bE L 1 n 0 m) s l).1,(k,al)::(L,Y T.HG)::(iQ k g_ n m (.bE L 1 n 0 m) s r).1,[(L,I)]⟩:dY).app s):=by
 refine acC _ _ k L g_ n m h d x y z (λi=>?_) ?_ ?_ λid e' e a=>?_
 ·rcases pT (kx k g_ n m (.bE L 1 n 0 m) s l).1 s.t i with ⟨_,c⟩|⟨v,q,c⟩
  ·rw[c];exact .same _
  rw[c];exact LN B i v q
 ·show eD (bw (bw s.H k al) L _) _ k=al;rw[o8 _ _ _ λv w=>A (Ao w),cY _ _ _ _ d,c6]
 ·show eD (bw (bw s.H k al) L _) _ L=_;rw[o8 _ _ _ λv w=>o (Ao w),c6]
 have a:eD (bw (bw s.H k al) L (Y T.HG)) (iQ k g_ n m (.bE L 1 n 0 m) s r).1 id=Y e':=a;rcases pT (iQ k g_ n m (.bE L 1 n 0 m) s r).1 (bw (bw s.H k al) L (Y T.HG)) id with ⟨_,c⟩|⟨v,q,c⟩
 ·rw[c,cY _ _ _ _ e] at a;by_cases hid:id=k
  ·subst hid;rw[c6] at a;cases a
  rw[cY _ _ _ _ hid] at a;exact⟨e',a,.inl rfl⟩
 rw[c] at a;subst a;obtain⟨T,G,Q,R,W⟩:=FY F id _ q
 grind
theorem ab2{K:Ctx}(F:Nat->V)(k:Nat){L:List T}(Q:eh K.e5 k=I)(f:s.H k=Y (.cells (L.map .t)))
  (g: ∀i,F i=s.t i\/ ∃c,s.t i= .ref k c/\F i= .bc (L.drop c)):s.le K {t:=F,H:=bw s.H k al,u:=s.u}:=by
 intro r a w h;have p:=fJ Q;obtain⟨b,q,ty,G,v,W,E⟩:=(h.heap k _ f).2;have m: ∀R,own K r (bw s.H k al) R->own K r s.H R:=by
  rintro R (y|⟨id,n,o⟩)
  ·exact .inl y
  by_cases hid:id=k
  ·subst hid;rw[c6] at n;exact bu rfl n
  rw[cY _ _ _ _ hid] at n;exact .inr ⟨id,n,o⟩
 have z: ¬own K r (bw s.H k al) b:=by
  rintro(y|⟨id,n,o⟩)
  ·obtain⟨gN,M⟩:=h.mu b y;rcases(h.fresh k b (.inl ⟨_,G⟩)).1 with d|N
   ·exact M d
   omega
  have:=h.inj _ _ _ o (.inl ⟨_,G⟩);subst this;rw[c6] at n;exact n rfl
 refine⟨r,{h with heap:= ?_,eE:= ?_}⟩
 ·intro id e' l;have l:bw s.H k al id=Y e':=l;by_cases hid:id=k
  ·subst hid;rw[c6] at l;cases l
  rw[cY _ _ _ _ hid] at l;obtain⟨n,o⟩:=h.heap id e' l;exact⟨n,o.mono (Ext.refl _ _) (λb _=>m b) (fa.refl _) (λ_ h=>h) (Shaped.refl _ _) λ_ _=>rfl⟩
 intro j;show bI r w _ (F j) _;rcases g j with P|⟨c,n,o⟩
 ·rw[P];exact(h.eE j).mono (Ext.refl _ _) (λb _=>m b) (fa.refl _) (Shaped.refl _ _)
 rw[o];have X:=h.eE j;rw[n] at X;obtain⟨dG,A,hu⟩:=uT X;rw[G] at A;cases A;rw[hu];have br:=(h.fresh k b (.inl ⟨_,G⟩)).2;refine .bc _ b c (λi=>q.getD (c+i) undef) br z (λi aO=>?_) λi x y=>?_
 ·have d:c+i<q.size:=by simp at aO W;omega
  simp[World.cell?,v,d]
 have B:L[c+i]? =Y x:=by simpa using y
 have d:c+i<q.size:=by have:=(cI.1 B).1;simp at W;omega
 have h5:=E (c+i) (.t x) q[c+i] (by simp[B]) (by simp[d]);have e:q.getD (c+i) undef=q[c+i]:=by simp[d]
 rw[e];cases h5 with
 |t _ _ h6=>exact h6.mono (Ext.refl _ _) λb _=>m b
def GD(k:Nat)(c:List T)(s:S):List Nat->Option (List (Nat×V))
 | []=>Y []
 |i::is=>match s.t i with
  | .ref d a=>match cP d k,GD k c s is with
   |true,Y l=>Y ((i,.bc (c.drop a))::l)
   |_,_=>al
  |_=>al
theorem Vc{k:Nat}{a:List T}{s:S}: ∀{is:List Nat} {l:List (Nat×V)},GD k a s is=Y l-> ∀i v,(i,v)∈l-> ∃c,s.t i= .ref k c/\v= .bc (a.drop c)
 | [],l,h,i,v,hm=>by cases h;cases hm
 |i0::is,l,h,i,v,hm=>by
  unfold GD at h;split at h
  ·rename_i o c d;split at h
   ·rename_i q e m;cases h;have n:=eg e;subst n;rcases eN.1 hm with hm|hm
    ·cases hm;exact⟨c,d,rfl⟩
    exact Vc m i v hm
   cases h
  cases h
def Gx{k:Type}:List k->Bool
 | []=>I
 |_::_=>ao
theorem K'{k:Type}{l:List k}(h:Gx l=I):l=[]:=by
 cases l with
 |nil=>rfl
 |cons=>cases h
def n0(C:e8)(h:dq)(s:S):Option (Option (dY×List eM)):=
 match h with
 | .grow i k e=>match s.t i,s.u k,eL C.df e with
  | .t .hd,ao,Y j=>Y (Y (⟨[(i,.bE k 1 j.size 0 0)],[(k,Y (.arr e 1 j.size []))],[(k,I)]⟩,[]))
  |_,_,_=>Y al
 | .len i n=>match s.t i with
  | .bE k g_ c G L=>Y (Y (⟨[(i,.bE k g_ c G n)],[],[]⟩,[.p (L=n)]))
  |_=>Y al
 | .vz k is=>match s.H k with
  |some (.cells M)=>match oa M,eh C.e5 k with
   |some cs,I=>match GD k cs s is with
    |some l=>Y (Y (⟨l,[(k,al)],[]⟩,[]))
    |none=>Y al
   |_,_=>Y al
  |_=>Y al
 | .dP k is F=>match s.H k with
  |some (.arr _ g_ c a)=>match eh C.e5 k&& !ki k F with
   |true=>Y (Y (⟨(kx k g_ c (U a) (.t (.bX a)) s is).1,(k,al)::(iQ k g_ c (U a) (.t (.bX a)) s F).1,[]⟩,(kx k g_ c (U a) (.t (.bX a)) s is).2++(iQ k g_ c (U a) (.t (.bX a)) s F).2))
   |false=>Y al
  |_=>Y al
 | .eY k r is F=>match s.H k,s.u r with
  |some (.arr e g_ c a),ao=>match eh C.e5 k&&(!Nat.beq k r&&(!ki k F&& !ki r F)) with
   |true=>Y (Y (⟨(kx k g_ c (U a) (.bE r 1 c 0 (U a)) s is).1,(k,al)::(r,Y (.arr e 1 c a))::(iQ k g_ c (U a) (.bE r 1 c 0 (U a)) s F).1,[(r,I)]⟩,
     (kx k g_ c (U a) (.bE r 1 c 0 (U a)) s is).2++(iQ k g_ c (U a) (.bE r 1 c 0 (U a)) s F).2))
   |false=>Y al
  |some (.bn d m g_ a []),ao=>match eh C.e5 k&&(!Nat.beq k r&&(!ki k F&& !ki r F)) with
   |true=>Y (Y (⟨(kx k g_ (ba d m).size (U a) (.bE r 1 (ba d m).size 0 (U a)) s is).1,(k,al)::(r,Y (.bn d m 1 a []))::(iQ k g_ (ba d m).size (U a) (.bE r 1 (ba d m).size 0 (U a)) s F).1,[(r,I)]⟩,
     (kx k g_ (ba d m).size (U a) (.bE r 1 (ba d m).size 0 (U a)) s is).2++(iQ k g_ (ba d m).size (U a) (.bE r 1 (ba d m).size 0 (U a)) s F).2))
   |false=>Y al
  |_,_=>Y al
 | .hV b j n=>match s.H b with
  |some (.cells cs)=>match cs[j]? with
   |some (.bE k g_ c G L)=>Y (Y (⟨[],[(b,Y (.cells (cs.set j (.bE k g_ c G n))))],[]⟩,[.p (L=n)]))
   |_=>Y al
  |_=>Y al
 | .GF b _ k=>match s.H b,s.H k with
  |some (.bn d m N W ((P,T,.bE r g_ c G L)::B)),Y (.arr _ f X a)=>match cP r k&&(cP G 0&&(eh C.e5 k&& !Nat.beq b k)) with
   |true=>Y (Y (⟨[],[(k,al),(b,Y (.bn d m N W ((P,T,.t (.bX a))::B)))],[]⟩,[.q g_ f,.q c X,.q L (U a)]))
   |false=>Y al
  |_,_=>Y al
 | .fM b j k e=>match s.H b,s.u k,eL C.df e with
  |some (.cells cs),ao,Y i=>match cs[j]? with
   |some (.t .hd)=>Y (Y (⟨[],[(k,Y (.arr e 1 i.size [])),(b,Y (.cells (cs.set j (.bE k 1 i.size 0 0))))],[(k,I)]⟩,[]))
   |_=>Y al
  |_,_,_=>Y al
 | .eW k d m=>match s.H k with
  |some (.arr ty g_ c a)=>match Gx (ba d m).rS||Gx a with
   |true=>Y (Y (⟨[],[(k,Y (.bn d m g_ a []))],[]⟩,[.q (ba d m).ty ty,.q (ba d m).size c]))
   |false=>Y al
  |some (.bn Q E g_ a B)=>match eh C.e5 k&&Gx (ba d m).rS with
   |true=>Y (Y (⟨[],[(k,Y (.bn d m g_ a B))],[]⟩,[.q (ba d m).ty (ba Q E).ty,.q (ba d m).size (ba Q E).size]))
   |false=>Y al
  |_=>Y al
 | .ej k=>match s.H k with
  |some (.bn d m g_ a [])=>match eh C.e5 k with
   |true=>Y (Y (⟨[],[(k,Y (.arr (ba d m).ty g_ (ba d m).size a))],[]⟩,[]))
   |false=>Y al
  |_=>Y al
 | .eX k r i j w=>match s.H k,s.u r with
  |some (.bn d m g_ a B),ao=>match (ba d m).fc j,w[j]? with
   |some v,Y (.bX A)=>Y (Y (⟨[],[(k,Y (.bn d m g_ a ((i,j,.bE r 1 (ba d v).size 0 (U A))::B))),(r,Y (.bn d v 1 A []))],[(r,I)]⟩,.p (a[i]? =Y w)::vo i j B))
   |_,_=>Y al
  |_,_=>Y al
 | .MO k i j w=>match s.H k with
  |some (.bn d m g_ a B)=>match (ba d m).fc j,w[j]?,uI j B with
   |none,Y x,I=>Y (Y (⟨[],[(k,Y (.bn d m g_ a ((i,j,.t x)::B)))],[]⟩,[.p (a[i]? =Y w)]))
   |_,_,_=>Y al
  |_=>Y al
 | .Ib k w R=>match s.H k with
  |some (.bn d m g_ a ((i,j,.t x)::B))=>match (ba d m).fc j,ey j (ba d m).size&&uI j B with
   |none,I=>Y (Y (⟨[],[(k,Y (.bn d m g_ R B))],[]⟩,[.p (a[i]? =Y w),.p (a.set i (w.set j x)=R)]))
   |some _,I=>match x with
    | .hd=>Y (Y (⟨[],[(k,Y (.bn d m g_ R B))],[]⟩,[.p (a[i]? =Y w),.p (a.set i (w.set j (.bX []))=R)]))
    |_=>Y al
   |_,_=>Y al
  |_=>Y al
 | .ym i j k e=>match s.t i,s.u k,eL C.df e with
  | .agg cs,ao,Y y=>match cs[j]? with
   |some (.t .hd)=>Y (Y (⟨[(i,.agg (cs.set j (.bE k 1 y.size 0 0)))],[(k,Y (.arr e 1 y.size []))],[(k,I)]⟩,[]))
   |_=>Y al
  |_,_,_=>Y al
 | .ek k r w R=>match s.H k,s.H r with
  |some (.bn d m g_ a ((i,j,.bE V g z o n)::B)),Y (.bn Q v iM A [])=>match (ba d m).fc j,cP V r&&(!Nat.beq k r&&(eh C.e5 r&&(cP o 0&&ey j (ba d m).size))) with
   |some m3,I=>Y (Y (⟨[],[(r,al),(k,Y (.bn d m g_ R B))],[]⟩,.q g iM:: .q z (ba d v).size:: .p (n=U A):: .q m3 v:: .p (Q=d):: .p (a[i]? =Y w):: .p (a.set i (w.set j (.bX A))=R)::vo i j B))
   |_,_=>Y al
  |_,_=>Y al
 | .cut k n R=>match s.H k with
  |some (.arr e g_ c a)=>Y (Y (⟨[],[(k,Y (.arr e g_ c R))],[]⟩,[.p (R=a.take n)]))
  |_=>Y al
 |_=>al
def sH(C:e8)(a:Nat):List dq->S->Option (dY×List eM×List dq)
 | [],_=>Y (.nil,[],[])
 | .at m::c,s=>match cP m a with
  |true=>sH C a c s
  |false=>Y (.nil,[],.at m::c)
 |h::c,s=>match n0 C h s with
  |none=>Y (.nil,[],h::c)
  |some al=>al
  |some (Y (e,k))=>match sH C a c (e.app s) with
   |some (l,d,i)=>Y (e.cat l,k++d,i)
   |none=>al
section
variable {K:Ctx}{C:e8}
theorem ahl{K:Ctx}(k n:Nat){e:bM}{c:List (List T)}(q:s.H k=Y (.arr e g_ L c)):s.le K {s with H:=bw s.H k (Y (.arr e g_ L (c.take n)))}:=by
 intro r a w h;refine⟨r,h.Xg k q λX d=>⟨d.1,?_⟩⟩;rcases d.2 with ⟨m,o⟩|⟨b,y,m,o,z,A,F⟩
 ·exact .inl ⟨m,by rw[o];simp⟩
 refine .inr ⟨b,y,m,o,iD (fj _ (List.length_take_le' _ _)) z,λl B=>A l (hi B),λi j l x u aW a2 a3=>?_⟩
 grind
theorem Lk(z:C.Fits K){h:dq}{e:dY}{b:List eM}(d:n0 C h s=Y (Y (e,b)))(k:dw b):s.le K (e.app s):=by
 unfold n0 at d;split at d
 ·split at d
  ·rename_i A n o;cases d;exact ahm _ _ _ n A
  cases d
 ·split at d
  ·rename_i A;cases d;obtain⟨rfl,_⟩:=k;intro L a w Q;refine⟨L,?_⟩;unfold dY.app;simp only[eD];rw[<-A,SC];exact Q
  cases d
 ·split at d
  ·rename_i T m;split at d
   ·rename_i cs R i;split at d
    ·rename_i l f;cases d;have x:=m;rw[qS R] at x;refine ab2 _ _ (by rw[<-z.e5];exact i) x λj=>?_;rcases pT l s.t j with ⟨_,q⟩|⟨v,r,q⟩
     ·exact .inl q
     obtain⟨W,g,p⟩:=Vc f j v r;exact .inr ⟨W,g,by rw[<-p];exact q⟩
    cases d
   cases d
  cases d
 ·split at d
  ·rename_i m;split at d
   ·rename_i i;cases d;simp only[cJ] at i;obtain⟨B,F⟩:=dw.app k;exact YL (by rw[<-z.e5];exact i.1) m (Aq i.2) B F
   cases d
  cases d
 ·split at d
  ·rename_i m n;split at d
   ·rename_i i;cases d;simp only[cJ] at i;obtain⟨B,F⟩:=dw.app k;exact Vp (by rw[<-z.e5];exact i.1) (UH i.2.1) m rfl n (Aq i.2.2.1) (Aq i.2.2.2) B F
   cases d
  ·rename_i m n;split at d
   ·rename_i i;cases d;simp only[cJ] at i;obtain⟨B,F⟩:=dw.app k;exact Vp (by rw[<-z.e5];exact i.1) (UH i.2.1) m rfl n (Aq i.2.2.1) (Aq i.2.2.2) B F
   cases d
  cases d
 ·split at d
  ·rename_i i;split at d
   ·rename_i o;cases d;obtain⟨rfl,_⟩:=k;intro L a w Q;refine⟨L,?_⟩;have H:=cI.1 o;have u: ∀{cs:List V} {j:Nat} {c:V},cs[j]? =Y c->cs.set j c=cs:=by
     intro cs j c h;obtain⟨r,q⟩:=cI.1 h;rw[<-q,List.set_getElem_self]
    unfold dY.app;simp only[eD];rw[u o,<-i,SC];exact Q
   cases d
  cases d
 ·split at d
  ·rename_i i m;split at d
   ·rename_i G;cases d;simp only[cJ,Bool.not_eq_true'] at G;obtain⟨rfl,rfl,rfl,_⟩:=k;have X:=eg G.1;have H:=eg G.2.1;subst X;subst H;exact ab3 _ _ _ _ _ _ (by rw[<-z.e5];exact G.2.2.1) (Nat.ne_of_beq_eq_false G.2.2.2) i m
   cases d
  cases d
 ·split at d
  ·rename_i i n A;split at d
   ·rename_i o;cases d;exact afb _ _ _ _ n i o
   cases d
  cases d
 ·split at d
  ·rename_i m;split at d
   ·rename_i i;cases d;obtain⟨r,q,_⟩:=k;refine Ky _ _ _ m r q ?_;rcases Bool.or_eq_true_iff.1 i with h|h
    ·exact .inr (K' h)
    exact .inl (K' h)
   cases d
  ·rename_i m;split at d
   ·rename_i i;cases d;obtain⟨r,q,_⟩:=k;simp only[cJ] at i;exact ae' _ _ _ m (by rw[<-z.e5];exact i.1) r q (K' i.2)
   cases d
  cases d
 ·split at d
  ·rename_i m;split at d
   ·rename_i i;cases d;exact ae9 _ m (by rw[<-z.e5];exact i)
   cases d
  cases d
 ·split at d
  ·rename_i m n;split at d
   ·rename_i y o;cases d;exact aer _ _ _ _ _ m n k.1 o y (AM k.2)
   cases d
  cases d
 ·split at d
  ·rename_i m;split at d
   ·rename_i y o E;cases d;exact afa _ _ _ m k.1 o y E
   cases d
  cases d
 ·split at d
  ·rename_i m;split at d
   ·rename_i y i;cases d;simp only[cJ] at i;obtain⟨r,rfl,_⟩:=k;exact acB _ _ _ m r i.1 y i.2
   ·rename_i y i;split at d
    ·cases d;simp only[cJ] at i;obtain⟨r,rfl,_⟩:=k;exact aep _ _ _ _ m r i.1 y i.2
    cases d
   cases d
  cases d
 ·split at d
  ·rename_i A n hy;split at d
   ·rename_i o;cases d;exact afc _ _ _ _ n A o
   cases d
  cases d
 ·split at d
  ·rename_i m x;split at d
   ·rename_i y i;cases d;simp only[cJ,Bool.not_eq_true'] at i;obtain⟨rfl,q,M,rfl,rfl,N,rfl,P⟩:=k;have X:=eg i.1;have H:=eg i.2.2.2.1;subst X;subst H;exact ab1 _ _ _ _ _ _ _ _ m x q M (Nat.ne_of_beq_eq_false i.2.1) (by rw[<-z.e5];exact i.2.2.1) N y i.2.2.2.2 (AM P)
   cases d
  cases d
 ·split at d
  ·rename_i m;cases d;obtain⟨rfl,_⟩:=k;exact ahl _ _ m
  cases d
 cases d
theorem uu(m:C.Fits K){i:Nat}: ∀{n:List dq} {s:S} {e:dY} {l:List eM} {c:List dq},sH C i n s=Y (e,l,c)->dw l->s.le K (e.app s)
 | [],s,e,l,c,h,_=>by cases h;exact S.le.refl _ _
 |h::n,s,e,l,c,a,k=>by
  unfold sH at a;split at a
  ·cases a;exact S.le.refl _ _
  ·split at a
   ·rename_i d _ _;cases d;exact uu m a k
   cases a;exact S.le.refl _ _
  rename_i d;cases d;split at a
  ·cases a;exact S.le.refl _ _
  ·cases a
  rename_i A o q;split at a
  ·rename_i B r w x;cases a;obtain⟨y,z⟩:=dw.app k;rw[qH];exact(Lk m q y).trans (uu m x z)
  cases a
def kH(C:e8)(a:Array Oper):List Oper->List dq->S->Option (dY×List eM)
 | [],c,s=>match sH C 0 c s with
  |some (e,r,[])=>Y (e,r)
  |_=>al
 |o::l,c,s=>match sH C (U l+1) c s with
  |none=>al
  |some (d,h,i)=>match vx C a o i (d.app s) with
   |none=>al
   |some (q,k,m)=>match kH C a l m (q.app (d.app s)) with
    |none=>al
    |some (w,n)=>Y (d.cat (q.cat w),h++(k++n))
theorem U8(d:C.Fits K){c:Array Oper}{Q:S->Prop}: ∀{l:List Oper} {m:List dq} {s:S} {e:dY} {i:List eM},kH C c l m s=Y (e,i)->dw i->pA K c [] (e.app s) Q->pA K c l s Q
 | [],m,s,e,i,h,a,k=>by
  simp only[kH] at h;split at h
  ·rename_i R q r;cases h;exact Qt (uu d r a) k
  cases h
 |o::l,m,s,e,i,h,a,k=>by
  simp only[kH] at h;split at h
  ·cases h
  rename_i W w x y;split at h
  ·cases h
  rename_i X z A B;split at h
  ·cases h
  rename_i b F G;cases h;obtain⟨H,n⟩:=dw.app a;obtain⟨n,L⟩:=dw.app n;rw[qH,qH] at k;exact Qt (uu d y H) (ajb (U9 d B n) (U8 d G L k))
abbrev uQ:=Prop×List Nat×List (Nat×Bool)×Bool×List V×List (Option E)
def ye:uQ:=(False,[],[],ao,[],[])
def yf:uQ:=(True,[],[],I,[],[])
def yg(s:S)(c:List Nat)(d:List (Nat×V))(a:List (Nat×Option E))(r:dY×List eM):uQ:=
 (CD r.2,zc r.2,r.1.us,uS c r.1.ts&&uS (Bk a) r.1.hs,xW (r.1.app s) d,xZ (r.1.app s) a)
def yh(a:Prop)(c:List (Nat×V))(d:List (Nat×Option E))(e:List (Nat×Bool))(r:dY×List eM):uQ:=
 (a,zd r.2,e,I,mE c,mE d)
def oX(x:Option (dY×List eM))(n:uQ)(f:dY×List eM->uQ):uQ:=match x with
 |some r=>f r
 |none=>n
theorem VC{x:Option (dY×List eM)}{L:List Nat}{a:List (Nat×V)}{c:List (Nat×Option E)}{m:List (Nat×Bool)}{p:Prop}(i:p)
  (h:oX x ye (yg s L a c)=oX x yf (yh p a c m)): ∃e d,x=Y (e,d)/\dw d/\(e.app s).le K (s.cl L a c m):=by
 cases x with
 |none=>simp[oX,ye,yf] at h
 |some r=>
  obtain⟨e,d⟩:=r;simp only[oX,yg,yh,Prod.mk.injEq,cJ] at h;obtain⟨k,l,n,⟨o,q⟩,w,y⟩:=h;exact⟨e,d,rfl,dw.of (k▸i) l,Yy n o q w y⟩
def tmps:List ct->List Nat
 | []=>[]
 | .tmp t::a=>t::tmps a
 |_::a=>tmps a
def Vx(a:Array Oper)(o:Oper):List Nat:=match o.guard with
 |none=>[]
 |some (j,_)=>match (a[j]?).bind (·.dst) with
  |some t=>[t]
  |none=>[]
def Gb(o:Oper)(a:List dq):List dq:=match o.guard with
 |none=>a
 |some _=>a.tail
def F6(a:Array Oper)(o:Oper)(c:List dq)(s:S):iW:=⟨Vx a o++tmps o.op.operands.toList,yL o (o.op.operands.toList.map s.get) (Gb o c)⟩
theorem KA{s a:S}: ∀{c:List ct},(∀i,i∈tmps c->s.t i=a.t i)->c.map s.get=c.map a.get
 | [],_=>rfl
 | .tmp t::c,h=>by
  simp only[jn,List.cons.injEq];exact⟨h t fi,KA λi d=>h i (eT _ d)⟩
 | .const _::c,h| .global _::c,h| .func _::c,h=>by simp only[jn,List.cons.injEq];exact⟨rfl,KA h⟩
theorem adm{H a:Nat->Option E}(h: ∀k,k∈r->H k=a k):xU r H=xU r a:=by
 funext k;unfold xU;cases c:ki k r with
 |true=>exact h k (Fe c)
 |false=>rfl
theorem adk{u a:Nat->Bool}(h: ∀k,k∈r->u k=a k):xT r u=xT r a:=by
 funext k;unfold xT;cases c:ki k r with
 |true=>exact h k (Fe c)
 |false=>rfl
theorem agA{b:S}{a:List V}{hs:List dq}(h: ∀k,k∈yL o a hs->s.H k=b.H k/\s.u k=b.u k):tb C o a s hs=tb C o a b hs:=by unfold tb;rw[adm λk c=>(h k c).1,adk λk c=>(h k c).2]
theorem agv{c:Array Oper}{m:List dq}(h:(F6 c o m s).same a s):vx C c o m a=vx C c o m s:=by
 obtain⟨q,y⟩:=h;have z:o.op.operands.toList.map a.get=o.op.operands.toList.map s.get:=KA λi A=>q i (fy.2 (.inr A));have r: ∀d,(∀k,k∈yL o (o.op.operands.toList.map s.get) d->k∈yL o (o.op.operands.toList.map s.get) (Gb o m))->tb C o (o.op.operands.toList.map s.get) a d=tb C o (o.op.operands.toList.map s.get) s d:=λd B=>
  agA λk e=>y k (B k e)
 unfold vx;rw[z];cases l:o.guard with
 |none=>exact r m (λk e=>by simp only[Gb,l];exact e)
 |some p=>
  obtain⟨j,w⟩:=p;have n:yl c j a=yl c j s:=by
   unfold yl;cases F:(c[j]?).bind (·.dst) with
   |none=>rfl
   |some t=>
    have:=q t (fy.2 (.inl (by unfold Vx;rw[l];simp only[F];exact q1.2 rfl)));simp only[this]
  simp only[n];cases m with
  |nil=>rfl
  |cons x m=>
   have:=r m λk e=>by simp only[Gb,l,List.tail];exact e
   cases x<;>first|rfl|(dsimp only;rw[this])
def sT(C:e8)(a:Nat):List dq->S->Option (dY×List eM×List dq×iW)
 | .at m::hs,s=>match cP m a with
  |true=>sT C a hs s
  |false=>Y (.nil,[],.at m::hs,⟨[],[]⟩)
 | .dP k is l::hs,s=>match n0 C (.dP k is l) s with
  |some (Y (e,h))=>match sT C a hs (e.app s) with
   |some (i,c,d,fT)=>Y (e.cat i,h++c,d,⟨is++fT.ts,k::(l++fT.rT)⟩)
   |none=>al
  |_=>al
 | .ej k::hs,s=>match n0 C (.ej k) s with
  |some (Y (e,h))=>match sT C a hs (e.app s) with
   |some (i,c,d,fT)=>Y (e.cat i,h++c,d,⟨fT.ts,k::fT.rT⟩)
   |none=>al
  |_=>al
 |hs,_=>Y (.nil,[],hs,⟨[],[]⟩)
theorem adi{C:e8}(c:a.H k=s.H k):n0 C (.ej k) a=n0 C (.ej k) s:=by
 unfold n0
 grind
theorem SB{k g z n:Nat}{v:V}{s a:S}: ∀{is:List Nat},(∀i,i∈is->a.t i=s.t i)->kx k g z n v a is=kx k g z n v s is
 | [],_=>rfl
 |i::is,h=>by simp only[kx,h i List.mem_cons_self,SB λx c=>h x (List.mem_cons_of_mem _ c)]
theorem Ta{k g z n:Nat}{v:V}{s a:S}: ∀{c:List Nat},(∀b,b∈c->a.H b=s.H b)->iQ k g z n v a c=iQ k g z n v s c
 | [],_=>rfl
 |b::c,h=>by unfold iQ;rw[h b fi,Ta λx d=>h x (eT _ d)]
theorem adh{L:List Nat}(c: ∀i,i∈r->a.t i=s.t i)(d:a.H k=s.H k)(e: ∀b,b∈L->a.H b=s.H b):n0 C (.dP k r L) a=n0 C (.dP k r L) s:=by
 unfold n0;dsimp only;rw[d];split
 ·rw[SB c,Ta e]
 rfl
theorem Lf{k:Type}{f g:Nat->k}{r:Nat}(h:f r=g r): ∀(l:List (Nat×k)),eD f l r=eD g l r:=by
 intro l;induction l generalizing f g with
 |nil=>exact h
 |cons p l c=>
  obtain⟨d,v⟩:=p;simp only[eD];apply c;by_cases a:r=d
  ·subst a;rw[c6,c6]
  rw[cY _ _ _ _ a,cY _ _ _ _ a];exact h
theorem IX{r:iW}(e:dY)(h:r.same a s):r.same (e.app a) (e.app s):=
 ⟨λi d=>Lf (h.1 i d) _,λk c=>⟨Lf (h.2 k c).1 _,Lf (h.2 k c).2 _⟩⟩
theorem FE(x:C.Fits K){n:Nat}: ∀{z:List dq} {s:S} {e:dY} {d:List eM} {a:List dq} {fT:iW},sT C n z s=Y (e,d,a,fT)->dw d-> ∀c,fT.same c s->c.le K (e.app c)
 | .at m::z,s,e,d,a,fT,h,o,c,l=>by
  unfold sT at h;split at h
  ·exact FE x h o c l
  cases h;exact S.le.refl _ _
 | .dP k is X::z,s,e,d,a,fT,h,o,c,l=>by
  unfold sT at h;split at h
  ·rename_i r w A;split at h
   ·rename_i f B F G H;cases h;obtain⟨L,Q⟩:=dw.app o;have q:n0 C (.dP k is X) c=Y (Y (r,w)):=(adh (λi R=>l.1 i (q0 _ R)) (l.2 k fi).1 λb g=>(l.2 b (eT _ (q0 _ g))).1).trans A;rw[qH];exact(Lk x q L).trans (FE x H Q (r.app c) (IX r ⟨λi R=>l.1 i (uC _ R),λk W=>l.2 k (eT _ (uC _ W))⟩))
   cases h
  cases h
 | .ej k::z,s,e,d,a,fT,h,o,c,l=>by
  unfold sT at h;split at h
  ·rename_i r w A;split at h
   ·rename_i f B F G H;cases h;obtain⟨L,Q⟩:=dw.app o;have q:n0 C (.ej k) c=Y (Y (r,w)):=(adi (l.2 k fi).1).trans A;rw[qH];exact(Lk x q L).trans (FE x H Q (r.app c) (IX r ⟨l.1,λk W=>l.2 k (eT _ W)⟩))
   cases h
  cases h
 | [],s,e,d,a,fT,h,_,c,_=>by cases h;exact S.le.refl _ _
 | .eW _ _ _::_,s,e,d,a,fT,h,_,c,_| .eX _ _ _ _ _::_,s,e,d,a,fT,h,_,c,_| .ek _ _ _ _::_,s,e,d,a,fT,h,_,c,_| .lt _ _ _::_,s,e,d,a,fT,h,_,c,_| .MO _ _ _ _::_,s,e,d,a,fT,h,_,c,_| .Ib _ _ _::_,s,e,d,a,fT,h,_,c,_| .ym _ _ _ _::_,s,e,d,a,fT,h,_,c,_| .cut _ _ _::_,s,e,d,a,fT,h,_,c,_
 | .row _::_,s,e,d,a,fT,h,_,c,_| .rows _::_,s,e,d,a,fT,h,_,c,_| .str _::_,s,e,d,a,fT,h,_,c,_| .int _::_,s,e,d,a,fT,h,_,c,_| .nat _::_,s,e,d,a,fT,h,_,c,_
 | .b _::_,s,e,d,a,fT,h,_,c,_| .y _::_,s,e,d,a,fT,h,_,c,_| .v _::_,s,e,d,a,fT,h,_,c,_| .grow _ _ _::_,s,e,d,a,fT,h,_,c,_
 | .GF _ _ _::_,s,e,d,a,fT,h,_,c,_| .fM _ _ _ _::_,s,e,d,a,fT,h,_,c,_
 | .len _ _::_,s,e,d,a,fT,h,_,c,_| .hV _ _ _::_,s,e,d,a,fT,h,_,c,_| .vz _ _::_,s,e,d,a,fT,h,_,c,_| .eY _ _ _ _::_,s,e,d,a,fT,h,_,c,_| .eZ _ _ _ _::_,s,e,d,a,fT,h,_,c,_=>by cases h;exact S.le.refl _ _
theorem kn.pre{ops:Array Oper}{b:S}(i:s.le K b)(h:kn K ops o b c):kn K ops o s c:=by
 intro k a w next Q l m
 obtain⟨d,e⟩:=i k a w l;exact h d a w next Q e m
def Bt(C:e8)(a:Array Oper):List Oper->List dq->S->Option (List (dY×iW)×List eM)
 | [],h,_=>match h with
  | []=>Y ([],[])
  |_=>al
 |o::l,h,s=>match sT C (U l+1) h s with
  |none=>al
  |some (d,i,c,fT)=>match vx C a o c (d.app s) with
   |none=>al
   |some (e,n,k)=>match Bt C a l k (e.app (d.app s)) with
    |none=>al
    |some (q,m)=>Y ((d.cat e,⟨fT.ts++(F6 a o c (d.app s)).ts,fT.rT++(F6 a o c (d.app s)).rT⟩)::q,i++(n++m))
def Gp:List (dY×iW)->dY
 | []=> .nil
 |(e,_)::a=>e.cat (Gp a)
theorem L7(r:C.Fits K){c:Array Oper}{Q:S->Prop}: ∀{l:List Oper} {w:List dq} {s:S} {d:List (dY×iW)} {m:List eM},Bt C c l w s=Y (d,m)->dw m->Q ((Gp d).app s)->z1 K c l d s Q
 | [],w,s,d,m,h,_,n=>by
  simp only[Bt] at h;split at h
  ·cases h;exact n
  cases h
 |o::l,w,s,d,m,h,x,n=>by
  simp only[Bt] at h;split at h
  ·cases h
  rename_i q H y fT L;split at h
  ·cases h
  rename_i e R W X;split at h
  ·cases h
  rename_i b f g;cases h;obtain⟨j,z⟩:=dw.app x;obtain⟨z,p⟩:=dw.app z;simp only[Gp,qH] at n;refine⟨λG a=>?_,by rw[qH];exact L7 r g p n⟩;rw[qH];refine kn.pre (FE r L j G ⟨λi A=>a.1 i (q0 _ A),λk B=>a.2 k (q0 _ B)⟩) ?_;have F:(F6 c o y (q.app s)).same (q.app G) (q.app s):=IX q ⟨λi A=>a.1 i (uC _ A),λk B=>a.2 k (uC _ B)⟩;exact U9 r ((agv F).trans X) z
def oh(C:e8)(l:List Oper)(h:List dq)(s:S):Option (dY×List eM):=
 match sH C (U l) h s with
 |none=>al
 |some (d,a,c)=>match Bt C l.toArray l c (d.app s) with
  |none=>al
  |some (e,i)=>match pd l.toArray (U l) 0 e&&uU 0 l with
   |true=>Y (d.cat (Gp e),a++i)
   |false=>al
theorem UQ{c:Code}{s2:S}(h:dH K c s λe k=>match e with| .normal=>k.le K s2|_=>False)(n:Q .normal s2):dH K c s Q:=by
 intro o a w x y z;refine h o a w x y ?_;intro e k d l m q r;cases e with
 |normal=>obtain⟨i,A⟩:=q d l m r;exact z _ _ i l m n A
 |exit=>exact q.elim
 |goto=>exact q.elim
 |ret=>exact q.elim
 |panic=>exact q.elim
 |outgrown=>exact q.elim
theorem rd{l:List Oper}(q:C.Fits K)(x:K.P.follows .mixedOrders=I)(r:List dq)(k:List Nat)(c:List (Nat×V))(d:List (Nat×Option E))(m:List (Nat×Bool)){p:Prop}(n:p)
  (h:oX (oh C l r s) ye (yg s k c d)=oX (oh C l r s) yf (yh p c d m)) (y:Q .normal (s.cl k c d m)):dH K (.region i l.toArray I) s Q:=by
 obtain⟨e,X,a,z,w⟩:=VC (K:=K) n h;unfold oh at a;split at a
 ·cases a
 rename_i b A B F;split at a
 ·cases a
 rename_i G H L;split at a
 ·rename_i o;cases a;simp only[cJ] at o;obtain⟨R,W⟩:=dw.app z;refine zi (uu q F R) (UQ (s2:=s.cl k c d m) (SS G x o.1 o.2 (L7 q L W ?_)) y);rw[qH] at w;exact w
 cases a
def qm:List (Nat×E)->List (Nat×Option E)
 | []=>[]
 |(k,e)::l=>(k,Y e)::qm l
def rh:List Nat->List (Nat×Bool)
 | []=>[]
 |k::l=>(k,I)::rh l
def bj(a:List (Nat×V))(c:List (Nat×E))(d:List Nat):S:={t:=eD r' a,H:=eD q6 (qm c),u:=eD iO (rh d)}
def Gn(u:Nat->Bool):List (Nat×V)->Bool
 | []=>I
 |(_,v)::l=>v.ok u&&Gn u l
def Gt(u:Nat->Bool):List (Nat×E)->Bool
 | []=>I
 |(k,e)::l=>u k&&(e.ok u&&Gt u l)
def Gl(u:Nat->Bool):List Nat->Bool
 | []=>I
 |k::l=>u k&&Gl u l
theorem Ug{u:Nat->Bool}: ∀{l:List (Nat×V)},Gn u l=I-> ∀i v,(i,v)∈l->v.ok u=I
 |(a,c)::l,h,i,v,hm=>by
  simp only[Gn,cJ] at h;rcases eN.1 hm with hm|hm
  ·cases hm;exact h.1
  exact Ug h.2 i v hm
theorem TP{u:Nat->Bool}: ∀{l:List (Nat×E)},Gt u l=I-> ∀k e,(k,Y e)∈qm l->u k=I/\e.ok u=I
 |(a,c)::l,h,i,v,hm=>by
  simp only[Gt,cJ] at h;simp only[qm] at hm;rcases eN.1 hm with hm|hm
  ·cases hm;exact⟨h.1,h.2.1⟩
  exact TP h.2.2 i v hm
theorem Ud{u:Nat->Bool}: ∀{l:List Nat},Gl u l=I-> ∀k b,(k,b)∈rh l->u k=I
 |a::l,h,k,b,hm=>by
  simp only[Gl,cJ] at h;simp only[rh] at hm;rcases eN.1 hm with hm|hm
  ·cases hm;exact h.1
  exact Ud h.2 k b hm
def Gz(e:Nat)(s:S)(c:List (Nat×V))(d:List (Nat×E))(a:List Nat):List V×List (Option E)×Bool:=
 (xW s c,xZ s (qm d),Gn (eD iO (rh a)) c&&(Gt (eD iO (rh a)) d&&(Gl s.u a&&pa e (eD iO (rh a)))))
theorem W4{a:List (Nat×V)}{c:List (Nat×E)}(h:Gz K.e5 s a c r=(mE a,mE (qm c),I)):s.le K (bj a c r):=by
 simp only[Gz,Prod.mk.injEq,cJ] at h;obtain⟨m,n,o,q,w,x⟩:=h;refine aiD (s':=bj a c r) ?_ ?_ ?_ x
 ·intro i;show eD r' a i= .d'\/(eP _ (eD r' a i)/\(eD r' a i).ok _=I)
  rcases pT a r' i with ⟨aW,a2⟩|⟨v,aW,a2⟩
  ·exact .inl a2
  rw[a2];exact .inr ⟨Kz m i v aW,Ug o i v aW⟩
 ·intro k e d;have d:eD q6 (qm c) k=Y e:=d;rcases pT (qm c) q6 k with ⟨aW,a2⟩|⟨v,aW,a2⟩
  ·rw[a2] at d;cases d
  rw[a2] at d;subst d;obtain⟨y,z⟩:=TP q k e aW;exact⟨KT n k e aW,y,z⟩
 intro k l;have l:eD iO (rh r) k=I:=l;rcases pT (rh r) iO k with ⟨aW,a2⟩|⟨v,aW,a2⟩
 ·rw[a2] at l;cases l
 exact Ud w k v aW
theorem ag8{ι:Type}{x y:Code}(a:ι->S)(p:ι->Prop)(c:dH K x s (s0 (λd=> ∃i,p i/\d.le K (a i)) Q))(h: ∀i,p i->dH K y (a i) Q):dH K (.seq x y) s Q:=by
 refine FL (Ad c λe m q=>?_);cases e with
 |normal=>obtain⟨i,k,l⟩:=q;exact zi l (h i k)
 |exit=>exact q
 |goto=>exact q
 |ret=>exact q
 |panic=>exact q
 |outgrown=>exact q
theorem YT{r:V}(h:n' r v=r):eP v r:=h▸LA r v
def xz(s:S):List E->Nat->List (Option E)
 | [],_=>[]
 |e::l,k=>Gu (Y e) (s.H k)::xz s l (k+1)
def xv:List E->List (Option E)
 | []=>[]
 |e::l=>Y e::xv l
def xS(u:Nat->Bool):List E->Bool
 | []=>I
 |e::l=>e.ok u&&xS u l
theorem RZ{s:S}: ∀{l:List E} {k:Nat},xz s l k=xv l-> ∀i e,l[i]? =Y e-> ∃a,s.H (k+i)=Y a/\mA a e
 |a::l,k,h,0,e,c=>by
  simp only[xz,xv,List.cons.injEq] at h;simp at c;subst c;exact Uw h.1
 |a::l,k,h,i+1,e,c=>by
  simp only[xz,xv,List.cons.injEq] at h
  have:=RZ h.2 i e (by simpa using c)
  rwa [show k+1+i=k+(i+1) by omega] at this
theorem Th{u:Nat->Bool}: ∀{l:List E},xS u l=I-> ∀(i:Nat) e,l[i]? =Y e->e.ok u=I
 |c::l,h,0,e,a=>by simp only[xS,cJ] at h;simp at a;subst a;exact h.1
 |c::l,h,i+1,e,a=>by simp only[xS,cJ] at h;exact Th h.2 i e (by simpa using a)
end
end
section
def bH{k R:Type}(a:(k->Option R)->k->Option R):Nat->k->Option R
 |0,_=>al
 |m+1,x=>a (bH a m) x
def bl{k R:Type}(j:k->Option R)(t:(k->Option R)->Option R):Option R:=t j
variable {k R γ:Type}{a r l:List k}{o A B:Option R}{f:FuncId}{c:Code}{d:Func}{s:S}{Q:Exit->S->Prop}{j i:Int}{x y ph:k}{p:Prop}{q:List T}{w:bY}{v:V}{u z:bm}{e:kC}
theorem kd{a:k->Option R}{t:(k->Option R)->Option R}{r:R}(h:bl a t=Y r): ∃j,j=a/\t j=Y r:=⟨a,rfl,h⟩
theorem dE{o:Option k}{f:k->Option R}{r:R}(h:o.bind f=Y r): ∃x,o=Y x/\f x=Y r:=by
 cases o with
 |none=>cases h
 |some x=>exact⟨x,rfl,h⟩
theorem j3{c:Bool}{r:R}(a:c=I)(h:(bif c then A else B)=Y r):A=Y r:=by subst a;exact h
theorem j2{c:Bool}{r:R}(a:c=ao)(h:(bif c then A else B)=Y r):B=Y r:=by subst a;exact h
theorem az{a b:R}(h:Y a=Y b):a=b:=Option.some.inj h
section
variable {K:Ctx}{C:e8}
theorem u1{a:(k->Option R)->k->Option R}{n:Nat}{d:k}{r:R}(h:bH a n d=Y r)(o:k->γ->S)(z:γ)(F:s.le K (o d z))
  (l: ∀(i:k->Option R) (x:k) (g:γ),a i x=Y r->dH K c (o x g) (Gk (λA=> ∃y w,i y=Y r/\A.le K (o y w)) Q)):dH K (.loop c) s Q:=by
 refine aeW (ι:=(Nat×k)×γ) (λy=>o y.1.2 y.2) (λy=>bH a y.1.1 y.1.2=Y r) (λy=>y.1.1) ((n,d),z) h F ?_;rintro⟨⟨m,x⟩,g⟩ B;cases m with
 |zero=>cases B
 |succ m=>
  refine Ad (l (bH a m) x g B) λe A q=>?_;cases e with
  |normal=>obtain⟨y,w,H,L⟩:=q;exact⟨((m,y),w),H,p7 m,L⟩
  |exit=>exact q
  |goto=>exact q
  |ret=>exact q
  |panic=>exact q
  |outgrown=>exact q
theorem jM{j:k->Option R}{r:R}{x y:Code}(a:k->γ->S)
  (c:dH K x s (s0 (λh=> ∃z g,j z=Y r/\h.le K (a z g)) Q)) (d: ∀z g,j z=Y r->dH K y (a z g) Q):dH K (.seq x y) s Q:=
 ag8 (ι:=k×γ) (λi=>a i.1 i.2) (λi=>j i.1=Y r) (Ad c (λe m q=>by
  cases e with
  |normal=>obtain⟨z,g,c,d⟩:=q;exact⟨(z,g),c,d⟩
  |exit=>exact q
  |goto=>exact q
  |ret=>exact q
  |panic=>exact q
  |outgrown=>exact q)) λi l=>d i.1 i.2 l
theorem YN{P:ee}{G:gC}{a:List (Nat×eC)}(d:fm P a)(c:Nat)(w:bY)(X:Nat->Prop):e8.Fits ⟨P,G,a,c,0,ha⟩ (Ctx.pure P G w X c):=⟨d,rfl,rfl,rfl,rfl,rfl⟩
theorem YM{P:ee}{G:gC}{a:List (Nat×eC)}(h:fm P a)(d e:Nat)(w:bY)(X:Nat->Prop)(c:Map):e8.Fits ⟨P,G,a,d,e,c⟩ (Ctx.eZ P G w X e c d):=⟨h,rfl,rfl,rfl,rfl,rfl⟩
theorem TI{P:ee}(a:P.funcs[f]? =Y d)(e:(d.name== "runtime.NumGoroutine")=ao)(h:d.body=Y c):gw P f:=⟨d,a,e,by rw[h];rfl⟩
variable {P:ee}{G:gC}{df:List (Nat×eC)}
end
abbrev an:Int->List T:=nF
abbrev dX:UInt8->List T:=oE
abbrev b':Bool->List T:=aiu
abbrev cF:List UInt8->List T:=ajh
abbrev bK{k:Type}(r:k->List T)(l:List k):List T:=[T.bX (l.map r)]
abbrev aI{k:Type}(r:k->List T)(l:List k):V:= .t (.bX (l.map r))
abbrev aN{k:Type}(e g a:Nat)(r:k->List T)(l:List k):E:= .arr e g a (l.map r)
abbrev ms{R:Type}(k g a:Nat)(r:R->List T)(l:List R):V:= .bE k g a 0 (U (l.map r))
theorem PC(r:k->List T)(l:List k):U (l.map r)=U l:=er ..
theorem C9(b:UInt8):IntKind.i64.wrap (b.toNat:Int)=(b.toNat:Int):=IntWalk.i64_in _ (by have:=UInt8.toNat_lt b;omega)
theorem iR(k:Nat){r:R->List T}(h: ∀x,U (r x)=k)(l:List R):Rows k (l.map r):=Rows.map l h
theorem cX(f:k->List T)(h:aC l i=Y x):(l.map f)[0+i.toNat]? =Y (f x):=by rw[e6,fG,(pc h).2];rfl
theorem b8(f:k->List T)(h:aC l i=Y x):0<=i/\i<(U (l.map f):Int):=by
 obtain⟨a,c⟩:=pc h
 grind
theorem Gr(f:k->List T)(h:aC l i=Y x)(e:U (a.map f)=U (l.map f)):0<=i/\i<(U (a.map f):Int):=by rw[e];exact b8 f h
theorem str(f:k->List T)(h:cW l i x=Y r):r.map f=(l.map f).set (0+i.toNat) (f x):=by obtain⟨_,_,rfl⟩:=wz h;rw[e6,List.map_set]
theorem qv{q:Prop}(h:p)(k:q):p/\q:=⟨h,k⟩
def oG(b:Int):Option Unit:=if b=0 then al else Y ()
theorem u7{b:Int}{x:Unit}(h:oG b=Y x):b≠0:=by intro e;rw[oG,bk e] at h;cases h
theorem ja(f:k->R){y:R}(h:aC l i=Y x)(e:f x=y):aC (l.map f) i=Y y:=e▸UT f h
theorem pX{a:Int}(f:k->R)(h:sub l a (U l:Int)=Y r):sub (l.map f) a (U (l.map f):Int)=Y (r.map f):=by rw[er];exact qT f h
theorem ajM{n:Int}{b:UInt8}(h:n=(b.toNat:Int)):IntKind.i64.wrap n=(b.toNat:Int):=h▸C9 b
def iL(C:e8)(a:List dq)(s:S):Option (dY×List eM):=match sH C 0 a s with
 |some (e,c,[])=>Y (e,c)
 |_=>al
theorem aoH{K:Ctx}{C:e8}(m:C.Fits K)(i:List dq)(k:List Nat)(c:List (Nat×V))(d:List (Nat×Option E))(l:List (Nat×Bool))
  (h:oX (iL C i s) ye (yg s k c d)=oX (iL C i s) yf (yh True c d l)):s.le K (s.cl k c d l):=by
 obtain⟨e,r,a,n,o⟩:=VC (K:=K) trivial h;unfold iL at a;split at a
 ·rename_i q;cases a;exact(uu m q n).trans o
 cases a
def kE(c:List (Nat×eC))(s:S):List kC->Option (List V)
 | []=>Y []
 | .tmp t::d=>match kE c s d with
  |some e=>Y (s.t t::e)
  |none=>al
 | .cell a t::d=>match xI c s.H t (s.t a) [],kE c s d with
  |some (v,[],[]),Y e=>Y (v::e)
  |_,_=>al
def qo:List V->V
 | [v]=>v
 |vs=> .dB vs
def nI(c:Array bm)(r:kC):Sem bm:=match r with
 | .tmp t=>pure (c.getD t undef)
 | .cell a t=>do loadVar t (<-asAddr (c.getD a undef))
theorem DO(d:Func)(a:Array bm):Go.results d a=(do let c<-d.results.mapM (nI a);pure (if h:c.size=1 then c[0] else .tuple c)):=rfl
theorem ah1{P:ee}{i:List (Nat×eC)}(z:fm P i){K:Ctx}{c:Map}{a:Act}(n:Rel K c s a w){x:Nat}{t:bM}(h:xI i s.H t (s.t x) []=Y (v,[],[])):
  ∃u,(nI a.tmps (.cell x t)).run P w= .ok u w/\bI c w (own K c s.H) v u:=by
 have A:=Sk (d:=al) (ty:=0) (pos:= "") (af:= #[]) (g:=al) (x:= .tmp x) z h trivial
 obtain⟨u,k,B⟩:=A c w (own K c s.H) a.eval (λid e F=>(n.heap id e F).2) ⟨n.eE x,trivial⟩;refine⟨u,?_,B⟩;have b0:=n.eE x;have o: ∃m,a.tmps.getD x undef= .pointer (Y m):=by
  generalize a.tmps.getD x undef=q at b0;unfold xI at h;split at h
  ·cases h
  split at h
  ·rename_i r;rw[r] at b0;cases b0 with|ref _ _ b _=>exact⟨_,rfl⟩
  ·rename_i r;rw[r] at b0;cases b0 with|bc _ b L f _ _ _ _=>exact⟨_,rfl⟩
  ·split at h
   ·split at h<;>cases h
   ·split at h<;>cases h
   cases h
  cases h
 obtain⟨m,l⟩:=o;have Q:a.eval (.tmp x)= .pointer (Y m):=l;simp only[cE,Instr.loadAt,Q,Instr.sureAddr,gE,jD,gz] at k;simp only[nI,l,asAddr,gE,jD,gz];cases y:(loadVar t m).run P w with
 |ok R W=>rw[y] at k;simp at k;obtain⟨rfl,rfl⟩:=k;rfl
 |_=>rw[y] at k;cases k
theorem LQ{P:ee}{e:List (Nat×eC)}(o:fm P e){K:Ctx}{c:Map}{s:S}{a:Act}{w:bY}(n:Rel K c s a w): ∀{l:List kC} {m:List V},kE e s l=Y m->
  U m=U l/\ ∀(i:Nat) r v,l[i]? =Y r->m[i]? =Y v-> ∃u,(nI a.tmps r).run P w= .ok u w/\bI c w (own K c s.H) v u
 | [],_,h=>by cases h;exact⟨rfl,λi r v h=>by simp at h⟩
 | .tmp t::l,m,h=>by
  simp only[kE] at h;split at h
  ·rename_i q y;cases h;obtain⟨aW,a2⟩:=LQ o n y;refine⟨by simp[aW],λi r v d k=>?_⟩;cases i with
   |zero=>simp at d k;subst d;subst k;exact⟨_,rfl,n.eE t⟩
   |succ i=>simp at d k;exact a2 i r v d k
  cases h
 | .cell x t::l,m,h=>by
  simp only[kE] at h;split at h
  ·rename_i A q z y;cases h;obtain⟨aW,a2⟩:=LQ o n y;refine⟨by simp[aW],λi r v d k=>?_⟩;cases i with
   |zero=>simp at d k;subst d;subst k;exact ah1 o n z
   |succ i=>simp at d k;exact a2 i r v d k
  cases h
theorem afQ{P:ee}{a:Array bm}{r:kC}(h:d.results= #[r])(c:(nI a r).run P w= .ok u w):(Go.results d a).run P w= .ok u w:=by rw[DO,h];simp[c]
theorem afP{P:ee}{a:Array bm}{r c:kC}{v:bm}(h:d.results= #[r,c])(e:(nI a r).run P w= .ok u w)(i:(nI a c).run P w= .ok v w):(Go.results d a).run P w= .ok (.tuple #[u,v]) w:=by rw[DO,h];simp[e,i]
theorem afO{P:ee}{a:Array bm}{r c:kC}{v:bm}(h:d.results= #[r,e,c])(i:(nI a r).run P w= .ok u w)(k:(nI a e).run P w= .ok z w)(l:(nI a c).run P w= .ok v w):
  (Go.results d a).run P w= .ok (.tuple #[u,z,v]) w:=by rw[DO,h];simp[i,k,l]
theorem afN{P:ee}{a:Array bm}{r c i:kC}{v x:bm}(h:d.results= #[r,e,c,i])(k:(nI a r).run P w= .ok u w)(l:(nI a e).run P w= .ok z w)(m:(nI a c).run P w= .ok v w)(n:(nI a i).run P w= .ok x w):
  (Go.results d a).run P w= .ok (.tuple #[u,z,v,x]) w:=by rw[DO,h];simp[k,l,m,n]
theorem QB{P:ee}{m:List (Nat×eC)}(f:fm P m){K:Ctx}{d:Map}{a:Act}(g:Rel K d s a w){k:Func}{e:List kC}(y:k.results.toList=e){l:List V}(h:kE m s e=Y l)(j:eh (U e) 4=I):
  ∃u,(Go.results k a.tmps).run P w= .ok u w/\bI d w (own K d s.H) (qo l) u:=by
 obtain⟨p,x⟩:=LQ f g h;have y:k.results=e.toArray:=by rw[<-y]
 match e,l,p,x,j with
 | [],[],_,_,_=>exact⟨_,results_none y _ _ _,.dB [] #[] rfl λi c u h _=>by simp at h⟩
 | [r],[v],_,x,_=>
  obtain⟨u,aW,a2⟩:=x 0 r v rfl rfl;exact⟨u,afQ y aW,a2⟩
 | [r,B],[v,F],_,x,_=>
  obtain⟨u,aW,a2⟩:=x 0 r v rfl rfl;obtain⟨b,L,Q⟩:=x 1 B F rfl rfl;refine⟨_,afP y aW L,.dB _ _ rfl λi c u o q=>?_⟩
  match i with
  |0=>simp at o q;subst o;subst q;exact a2
  |1=>simp at o q;subst o;subst q;exact Q
  |n+2=>simp at o
 | [r,B,z],[v,F,A],_,x,_=>
  obtain⟨u,aW,a2⟩:=x 0 r v rfl rfl;obtain⟨b,L,Q⟩:=x 1 B F rfl rfl;obtain⟨R,W,X⟩:=x 2 z A rfl rfl;refine⟨_,afO y aW L W,.dB _ _ rfl λi c u o q=>?_⟩
  match i with
  |0=>simp at o q;subst o;subst q;exact a2
  |1=>simp at o q;subst o;subst q;exact Q
  |2=>simp at o q;subst o;subst q;exact X
  |n+3=>simp at o
 | [r,B,z,t],[v,F,A,E],_,x,_=>
  obtain⟨u,aW,a2⟩:=x 0 r v rfl rfl;obtain⟨b,L,Q⟩:=x 1 B F rfl rfl;obtain⟨R,W,X⟩:=x 2 z A rfl rfl;obtain⟨T,M,N⟩:=x 3 t E rfl rfl;refine⟨_,afN y aW L W M,.dB _ _ rfl λi c u o q=>?_⟩
  match i with
  |0=>simp at o q;subst o;subst q;exact a2
  |1=>simp at o q;subst o;subst q;exact Q
  |2=>simp at o q;subst o;subst q;exact X
  |3=>simp at o q;subst o;subst q;exact N
  |n+4=>simp at o
def Py(c:List (Nat×eC))(d:List kC)(r:V):Exit->S->Prop
 | .normal,s| .ret,s=> ∃a,kE c s d=Y a/\eP (qo a) r
 |_,_=>False
def Px(d:List (Nat×eC))(e:List kC)(r:V)(a:List E):Exit->S->Prop
 | .normal,s| .ret,s=> ∃c,kE d s e=Y c/\eP (qo c) r/\r.ok (gI (U a))=I/\nY s.H (gI (U a)) (gx a 0)
 |_,_=>False
section
variable {P:ee}{G:gC}{df:List (Nat×eC)}
theorem Xb{args:List V}{r:V}{i:Nat}{a:List kC}(F:fm P df)(H:P.funcs[f]? =Y d)(Q:(d.name== "runtime.NumGoroutine")=ao)(x:d.body=Y c)(R:d.results.toList=a)(y:d.ntmps=i)
  (m:eh (U args) i=I) (W:r.ok iO=I) (z:eh (U a) 4=I)
  (h: ∀w X,e8.Fits ⟨P,G,df,i,0,ha⟩ (Ctx.pure P G w X i)->dH (Ctx.pure P G w X i) c (start args) (Py df a r)):gT P G f args r:=by
 subst y;refine⟨TI H Q x,?_⟩;intro w X g j p L;have o:U g<=d.ntmps:=by rw[L.y4];exact fJ m
 refine calls_of_wp H x (h w X (YN F _ w X) ha _ w _ (Rel.start j p L o) ?_);intro e s t v bZ n k;have q:(∃A,kE df s a=Y A/\eP (qo A) r)->bodyPost P d (λe bZ=> ∃u,e= .returned u/\Ext (λ_=>False) w bZ/\bI ha bZ X r u) .ret v bZ:=by
  rintro⟨A,B,m⟩;obtain⟨u,E,b0⟩:=QB F k R B z;have b0:=m _ _ _ _ b0;refine⟨k.defers,u,E,u,rfl,?_,?_⟩
  ·exact k.ext.weaken λb _ ⟨id,h,_⟩=>by simp[Ctx.pure] at h
  exact b0.under (u:=iO) (λb x=> .inl x) (λ_ h=>by simp[iO] at h) W
 cases e with
 |normal=>exact q n
 |ret=>exact q n
 |exit id=>exact n.elim
 |goto l=>exact n.elim
 |panic c=>exact n.elim
 |outgrown=>exact n.elim
def xH(a:Map):List E->Nat->Prop
 | [],_=>True
 | .arr _ g _ _::c,k=>(∃q,a k=Y (q,g))/\xH a c (k+1)
 | .bn _ _ g _ _::c,k=>(∃q,a k=Y (q,g))/\xH a c (k+1)
 | .cells _::c,k=>True/\xH a c (k+1)
theorem Sf{V:Map}: ∀(a:List E) (k:Nat),(∀(i:Nat) e g,a[i]? =Y e->e.gen=Y g-> ∃q,V (k+i)=Y (q,g))->xH V a k
 | [],_,_=>trivial
 |e::a,k,h=>by
  have cC:=Sf a (k+1) (λi e g c d=>by
   have:=h (i+1) e g (by simpa using c) d
   rwa [show k+(i+1)=k+1+i by omega] at this)
  cases e with
  |cells=>exact⟨trivial,cC⟩
  |arr _ g _ _=>exact⟨h 0 _ g rfl rfl,cC⟩
  |bn _ _ g _ _=>exact⟨h 0 _ g rfl rfl,cC⟩
theorem ane{o:Func}{a out:List E}{args:List V}{r:V}{y z:Nat}{W:List kC}(k7:fm P df)(jK:P.funcs[f]? =Y o)(dc:(o.name== "runtime.NumGoroutine")=ao)(br:o.body=Y c)(cC:o.results.toList=W)(j:o.ntmps=y)(p:U a=z)
  (A:eh (U args) y=I) (B:eh z (U out)=I) (v:eh (U W) 4=I)
  (h: ∀w X d,e8.Fits ⟨P,G,df,y,z,d⟩ (Ctx.eZ P G w X z d y)->xH d a 0->dH (Ctx.eZ P G w X z d y) c (p4 a args) (Px df W r out)):kF P G f a args r out:=by
 subst j;subst p;refine⟨TI jK dc br,?_⟩;intro w X d us kr iy aO hT;have F:U us<=o.ntmps:=by rw[hT.y4];exact fJ A
 refine calls_of_wp jK br (h w X d (YM k7 _ _ w X d) (Sf a 0 (λk e g M b9=>by
  rw[e6];exact(q7 (aO.heap k _ M) b9).2)) d _ w _ (Rel.p4 kr iy aO hT F) ?_)
 intro e N L rf bZ x m;have Q:(∃T,kE df N W=Y T/\eP (qo T) r/\r.ok (gI (U out))=I/\nY N.H (gI (U out)) (gx out 0))->
   bodyPost P o (λe bZ=> ∃u,∃i:Unit,∃β,e= .returned u/\True/\Left d β a out w bZ X r u) .ret rf bZ:=by
  rintro⟨T,tw,aly,alf,hH⟩;obtain⟨u,hu,b0⟩:=QB k7 m cC tw v;have b0:=aly _ _ _ _ b0;have hm:U a<=U out:=fJ B;let q:S:={t:=r',H:=gx out 0,u:=gI (U out)}
  have R:pa (U a) q.u=I:=by
   have: ∀n,n<=U a->pa n q.u=I:=by
    intro n;induction n with
    |zero=>intro _;rfl
    |succ n mS=>intro dc;simp[pa,mS O,show q.u n=I from kZ.2 O]
   exact this _ (dV _)
  have ch:=m.cut (s':=q) (re.nil _ _) hH R;have eI:=JD (K:=Ctx.eZ P G w X (U a) d o.ntmps) (β:=L) (s:=N) (s':=q) hH;refine⟨m.defers,u,hu,u,(),cut L q.u,rfl,trivial,?_⟩;refine⟨m.ext.weaken λb _ ⟨id,_,h⟩=>⟨id,h⟩,ch.base,ch.j',?_,?_,ch.inj,ch.fresh,?_,b0.under eI (λ_ h=>A8 h) alf⟩
  ·intro k M;apply ch.fw;cases hx:q.u k with
   |false=>rfl
   |true=>have:=kZ.1 hx;omega
  ·intro k b M;apply ch.fS;cases hx:q.u k with
   |false=>rfl
   |true=>have:=kZ.1 hx;omega
  intro k e he;exact(ch.heap k e (by rw[<-Dr] at he;exact he)).2
 cases e with
 |normal=>exact Q x
 |ret=>exact Q x
 |exit id=>exact x.elim
 |goto l=>exact x.elim
 |panic c=>exact x.elim
 |outgrown=>exact x.elim
def Bl(r:V):Option (List V)->Option V
 |some a=>Y (n' r (qo a))
 |none=>al
theorem PE{a:List kC}{r:V}(h:Bl r (kE df s a)=Y r): ∃c,kE df s a=Y c/\eP (qo c) r:=by
 cases d:kE df s a with
 |none=>rw[d] at h;cases h
 |some c=>rw[d] at h;simp only[Bl,Option.some.injEq] at h;exact⟨c,rfl,YT h⟩
theorem YS{c:List kC}{r:V}{a:List E}(h:(Bl r (kE df s c),xz s a 0,r.ok (gI (U a))&&xS (gI (U a)) a)=(Y r,xv a,I)):
  ∃d,kE df s c=Y d/\eP (qo d) r/\r.ok (gI (U a))=I/\nY s.H (gI (U a)) (gx a 0):=by
 simp only[Prod.mk.injEq,cJ] at h;obtain⟨l,m,n,o⟩:=h;obtain⟨d,aW,a2⟩:=PE l;refine⟨d,aW,a2,n,λk e i=>?_⟩;rw[Dr] at i
 have:=RZ m k e i;rw[e6] at this;exact⟨this,kZ.2 (cI.1 i).1,Th o k e i⟩
end
theorem sZ(f:k->List T)(ph:k)(h:app l [y]=Y r):app (cb f l) [f ph]=Y (cb f (l++[ph])):=by
 obtain⟨a,_⟩:=xn h;unfold app
 grind
theorem nl(f:k->List T)(l:List k)(ph:k):(cb f (l++[ph]))[U (cb f l)+0]? =Y (f ph):=by grind
theorem x6(f:k->List T)(l:List k){r:List T}(e:r=f y):(cb f (l++[ph])).set (U (cb f l)+0) r=cb f (l++[y]):=by grind
theorem sN(f:k->List T){x:List k}{r:List T}(h:app l [y]=Y x)(e:r=f y):(cb f (l++[ph])).set (U (cb f l)+0) r=cb f x:=by
 obtain⟨_,rfl⟩:=xn h
 grind
theorem sX(f:k->List T){x:List k}(a:k)(h:app l [y]=Y x):U (cb f (l++[a]))=U (cb f x):=by obtain⟨_,rfl⟩:=xn h;simp
theorem amE(f:k->List T)(h:l.isEmpty=ao):cb f l≠[]:=by
 cases l with
 |nil=>cases h
 |cons=>simp
theorem hg(f:k->List T)(h:cW l i y=Y r)(e:q=f y):(cb f l).set (0+i.toNat) q=cb f r:=by subst e;exact(str f h).symm
theorem jx(f:k->List T)(h:aC l i=Y x)(e:q=f x):(cb f l).set (0+i.toNat) q=cb f l:=by subst e;have a:=cX f h;obtain⟨d,c⟩:=cI.1 a;rw[<-c,List.set_getElem_self]
theorem dF(f:k->List T)(h:cW l i x=Y r):U (l.map f)=U (r.map f):=by obtain⟨_,_,rfl⟩:=wz h;simp
theorem hf{r:R}(h:(al:Option R)=Y r):p:=by cases h
def l7{k:Type}(a b:List k):Option Unit:=if U b=U a then Y () else al
theorem k'{b:List k}{u:Unit}(f:k->List T)(h:l7 a b=Y u):U (a.map f)=U (b.map f):=by
 unfold l7 at h
 grind
def Im{k:Type}(f:k->List T):Option k->V
 |none=> .t .fF
 |some x=> .bc (f x)
theorem Yv(f:k->List T)(o:Option k)(b:Bool):(V.dB [Im f o,aP b]).ok iO=I:=by cases o<;>rfl
theorem Dh{P:ee}{G:gC}{args:List V}[Inhabited R]{r:R->List T}(h:o.isSome=I)(k:gT P G f args (V.dB [Im r o,v])):gT P G f args (V.dB [V.bc (r (o.getD default)),v]):=by
 cases o with
 |none=>cases h
 |some x=>exact k
theorem Dg{P:ee}{G:gC}{args:List V}{r:R->List T}(h:o.isSome=ao)(k:gT P G f args (V.dB [Im r o,v])):gT P G f args (V.dB [V.t .fF,v]):=by
 cases o with
 |none=>exact k
 |some x=>cases h
theorem YG(f:k->List T)(l:List k):U (l.map f)=U ((l.take (U l)).map f):=by rw[eB]
theorem SV(f:k->List T)(l:List k)(a:0<=i)(c:i<(U l:Int)):
  0<=i/\i<=(U (l.map f):Int)/\(U (l.map f):Int)<=(U (l.map f):Int)/\(i=0\/i<(U (l.map f):Int))/\i.toNat=0+i.toNat/\(U l)-i.toNat=(U (l.map f):Int).toNat-i.toNat:=by grind
theorem Pt(f:R->List T)(l:List R)(k:Nat):(l.take k).map f=(l.map f).take k:=wU
section
set_option linter.unusedVariables false
def gq{k:Type}(l:List k)(i j:Int):Nat:=i.toNat+(U l-j.toNat)
def pF{k:Type}(l:List k)(i j:Int):List k:=l.take i.toNat++l.drop j.toNat++l.drop (gq l i j)
def lX{k:Type}(l:List k)(i j:Int)(z:k):List k:=l.take i.toNat++l.drop j.toNat++en (U l-gq l i j) z
theorem TE(l:List k)(a:0<=i)(c:i<=j)(d:j<=(U l:Int)):U (pF l i j)=U l:=by
 unfold pF gq
 grind
theorem ajP(f:k->List T)(l:List k)(a:0<=i)(c:i<=j)(d:j<=(U l:Int)):0<=i/\i<=j/\j<=(U l:Int)/\(U l:Int)<=(U (l.map f):Int):=by grind
theorem VQ(f:k->List T)(l:List k)(a:0<=i)(c:i<=j)(d:j<=(U l:Int)):
  (0:Int)<=0/\(0:Int)<=i/\i<=(U (l.map f):Int)/\((0:Int)=0\/(0:Int)<(U (l.map f):Int))/\0=0+(0:Int).toNat/\i.toNat=i.toNat-(0:Int).toNat:=
 ⟨iT _,a,by rw[er];omega,.inl rfl,rfl,rfl⟩
theorem ajO(f:k->List T)(l:List k)(a:0<=i)(c:i<=j)(d:j<=(U l:Int))(e: ¬j<(U l:Int)):0<=j/\j=(U (l.map f):Int)/\(U (l.map f):Int)<=(U (l.map f):Int):=by grind
theorem YX(f:k->List T)(l:List k)(a:0<=i)(c:i<=j)(d:j<=(U l:Int)):i.toNat+(U l-j.toNat)<=U (l.map f):=by grind
theorem YW(f:k->List T)(l:List k)(a:0<=i)(c:i<=j)(d:j<=(U l:Int)):j.toNat+(U l-j.toNat)<=U (l.map f):=by grind
theorem YV(f:k->List T)(l:List k)(i j:Int):(pF l i j).map f=(l.map f).take i.toNat++((l.map f).drop j.toNat).take (U l-j.toNat)++(l.map f).drop (i.toNat+(U l-j.toNat)):=by unfold pF gq;rw[jl,jl,wU,List.map_drop,List.map_drop,lO (l:=(l.map f).drop j.toNat) (by rw[hY,er];omega)]
theorem VR(f:R->List T)(l r:List R){k:Nat}(d:0<k)(e:0<=i)(h:i<j)(n:j<=(U l:Int))(a:U r=U l){m:Nat}(c:m=gq l i j):
  0<k/\(0:Int)<=(m:Int)/\(m:Int)<(U l:Int)/\((0:Nat):Int)+(U l:Int)<=(U (r.map f):Int)/\m=0+(m:Int).toNat/\(U l)-m=(U l:Int).toNat-(m:Int).toNat:=by rw[er,a,c];unfold gq;omega
theorem ajN(f:k->List T)(l:List k)(z:k)(c:0<=i)(h:i<j)(d:j<=(U l:Int)):
  gq l i j+(U l-gq l i j)<=U ((pF l i j).map f)/\(lX l i j z).map f=((pF l i j).map f).take (gq l i j)++en (U l-gq l i j) (f z)++((pF l i j).map f).drop (gq l i j+(U l-gq l i j)):=by
 have dm:=TE l c (O:i<=j) d;have a:U (l.take i.toNat++l.drop j.toNat)=gq l i j:=by
  unfold gq;simp only[List.length_append,List.length_take,List.length_drop];omega
 have e:gq l i j<=U l:=by unfold gq;omega
 refine⟨by rw[er,dm];omega,?_⟩;rw[mX (as:=(pF l i j).map f) (by rw[er,dm];omega),jj,<-wU];unfold lX pF;rw[jl,List.map_replicate,wQ (by rw[a];exact dV _),lO (l:=l.take i.toNat++l.drop j.toNat) (by rw[a];exact dV _)]
theorem YU(f:k->List T)(l:List k)(z:k)(c:0<=i)(d:i<j)(e:j<=(U l:Int))(h: ¬j<(U l:Int)):
  i.toNat+(U l-i.toNat)<=U (l.map f)/\(lX l i j z).map f=(l.map f).take i.toNat++en (U l-i.toNat) (f z)++(l.map f).drop (i.toNat+(U l-i.toNat)):=by
 refine⟨by rw[er];omega,?_⟩;have a:gq l i j=i.toNat:=by unfold gq;omega
 unfold lX;rw[a,mX (as:=l) (i:=j.toNat) O,jj,mX (as:=l.map f) (by rw[er];omega),jj,jl,wU,List.map_replicate]
theorem VS(f:k->List T)(l:List k)(z:k)(a:0<=i)(c:i<j)(d:j<=(U l:Int)):gq l i j=U (((lX l i j z).take (gq l i j)).map f):=by
 unfold lX gq
 grind
theorem VT(l:List k)(a:j<=(U l:Int))(c: ¬j<(U l:Int)):i.toNat=gq l i j:=by unfold gq;omega
end
theorem w'(h:cW l i x=Y r)(y:k):cW l i y=Y (l.set i.toNat y):=by
 obtain⟨a,c,_⟩:=wz h;unfold cW
 grind
theorem xG(h:cW l i x=Y r)(y:k):aC (l.set i.toNat y) i=Y y:=by
 obtain⟨a,c,_⟩:=wz h;unfold aC
 grind
theorem w9(h:cW l i x=Y r)(y:k):cW (l.set i.toNat y) i x=Y r:=by obtain⟨a,c,rfl⟩:=wz h;unfold cW;rw[bk ⟨a,by rw[gH];exact c⟩,List.set_set]
theorem Gq{u:Unit}(f:k->List T)(c:l7 a l=Y u)(h:aC l i=Y x):0<=i/\i<(U (a.map f):Int):=by have:=b8 f h;rw[k' f c];exact this
theorem PB{u:Unit}(f:k->List T)(c:l7 a l=Y u):U (a.map f)=U l:=(k' f c).trans (PC f l)
theorem F7(h:cW l i x=Y r):aC r i=Y x:=by
 obtain⟨a,c,rfl⟩:=wz h;unfold aC
 grind
end
abbrev W6(T e:bM):List ez:=[⟨T,2,[(1,1)]⟩,⟨e,1,[]⟩]
theorem adD{K:Ctx}{C:e8}{s:S}{Q:Exit->S->Prop}(B:C.Fits K)(e k:Nat){T d F y:Nat}{l:String}{A:Array Edge}(i:eC)(G:eL C.df T=Y i)(H:i.z.cells= #[.pointer al,.slice al 0 0])(L:s.u k=ao)(R:ey d K.nt=I)
  (W:Q .normal ((s.new k (.bn (W6 T e) 0 1 [[.fF,.bX []]] [])).put (Y d) (.c' k 1 2 0 0))):dH K (.region F [⟨Y d,.alloc T,y,l,A,al⟩].toArray ao) s Q:=by
 obtain⟨M,X,_⟩:=B.T _ _ G;refine adC (ag9 _ rfl ?_ (SU W));intro N a w next Q b o
 unfold Oper.wp;have m:(cE a.eval ⟨Y d,.alloc T,y,l,A,al⟩).run K.P w= .ok (.value (.pointer (Y ⟨w.heap.size,0,al⟩))) (w.alloc (.cells i.z.cells T)):=by
  simp[cE,Instr.alloc,X.ud,newVar,newRow]
 rw[m,H];refine o _ _ _ ((b.Hj k 1 L #[.pointer al,.slice al 0 0] T _ λf V bZ g p _ q=>?_).put (Y d) (λj t=>by cases t;exact R) (.c' k 1 2 0 0 w.heap.size (dV _) (d5 _ _ _)));simp only[dJ];refine⟨dV _,.inr ⟨w.heap.size, #[.pointer al,.slice al 0 0],λ_ _ _=>False,p,by subst g;exact kY _ _,by simp[ba],by simp[ba],λv j E x u aW a2 a3=>Cell.of ?_,λ_ _ _ h=>h.elim,λ_ _ _ _ _ h=>h.elim,λc=>⟨λh=>bu h (q c),λ⟨_,_,h⟩=>h.elim⟩⟩⟩;have r:v=0:=by
  have:=(cI.1 aW).1;simpa using this
 subst r;simp at aW;subst aW
 match j with
 |0=>simp[ba] at a2 a3;subst a2;subst a3;exact .ly _ _ _ .fF (λ_ h=>h)
 |1=>simp[ba] at a2 a3;subst a2;subst a3;exact .nil _ _ (λ_ h=>h)
 |n+2=>simp at a2
end Go.Lift
