/- Tools. -/
import Derived.Test.YtcihigfifglboabGreatJLiftV
namespace Go.Lift
open Go
section
def cS.cat(a b:cS):cS:=⟨a.eH++b.eH,a.hs++b.hs,a.us++b.us⟩
def cS.nil:cS:=⟨[],[],[]⟩
theorem Mn{k:Type}: ∀(a b:List (Nat×k)) (f:Nat->k),di f (a++b)=di (di f a) b
 | [],_,_=>rfl
 |(d,v)::a,b,f=>by simp only[List.cons_append,di];exact Mn a b _
theorem nm(a b:cS)(s:S):(a.cat b).app s=b.app (a.app s):=by unfold cS.app cS.cat;simp only[Mn]
theorem mq{k:Type}: ∀(l:List (Nat×k)) (f:Nat->k) (r:Nat),((∀v,(r,v)∉l)/\di f l r=f r)\/ ∃v,(r,v)∈l/\di f l r=v
 | [],_,_=> .inl ⟨λ_ h=>(List.not_mem_nil h).elim,rfl⟩
 |(d,v)::l,f,r=>by
  rcases mq l (aU f d v) r with ⟨c,a⟩|⟨e,c,a⟩
  ·by_cases i:r=d
   ·subst i;exact .inr ⟨v,eX,by rw[di,a,bW]⟩
   refine .inl ⟨λe h=>?_,by rw[di,a,bX _ _ _ _ i]⟩;rcases dP.1 h with h|h
   ·cases h;exact i rfl
   exact c e h
  exact .inr ⟨e,eA _ c,by rw[di,a]⟩
mutual
def lD:V->V->V
 | .t (.aD _),v=>ny v
 | .agg cs,.agg a=> .agg (qc cs a)
 | .bL cs,.bL a=> .bL (qc cs a)
 | .c4,_=> .c4
 |_,v=>v
def qc:List V->List V->List V
 |c::cs,v::a=>lD c v::qc cs a
 |_,a=>a
end
mutual
theorem F0: ∀c v:V,dC v (lD c v)
 | .t (.aD _),v=>by simp only[lD];exact tD v
 | .agg cs,.agg a=>by simp only[lD];exact dC.agg (AX cs a)
 | .bL cs,.bL a=>by simp only[lD];exact dC.bL (AX cs a)
 | .c4,v=>by simp only[lD];exact dC.c4 v
 | .t (.bool _),v| .t (.int _ _),v| .t (.str _),v| .t .fo,v| .t .hA,v| .t .gA,v| .t .nx,v| .t .err,v=>by simp only[lD];exact dC.refl v
 | .ref _ _,v| .aQ _,v| .bc _ _ _ _ _,v| .cC _ _ _ _ _,v| .fn _ _,v=>by simp only[lD];exact dC.refl v
 | .agg _,.t _| .agg _,.bL _| .agg _,.ref _ _| .agg _,.aQ _| .agg _,.bc _ _ _ _ _| .agg _,.cC _ _ _ _ _| .agg _,.fn _ _| .agg _,.c4=>by simp only[lD];exact dC.refl _
 | .bL _,.t _| .bL _,.agg _| .bL _,.ref _ _| .bL _,.aQ _| .bL _,.bc _ _ _ _ _| .bL _,.cC _ _ _ _ _| .bL _,.fn _ _| .bL _,.c4=>by simp only[lD];exact dC.refl _
theorem AX: ∀cs a:List V,fr a (qc cs a)
 |c::cs,v::a=>by simp only[qc];exact⟨F0 c v,AX cs a⟩
 | [],a=>by simp only[qc];exact fr.refl a
 |_::_,[]=>by simp only[qc];exact trivial
end
def Bs:Option E->Option E->Option E
 |some (.cells cs),some (.cells a)=>some (.cells (qc cs a))
 |some _,e=>e
 |none,_=>none
variable {c:List (List T)}{e:TypeId}{x:E}{β D:Map}{w:World}{r l:List Nat}{m k i n gen b L g:Nat}{q:Option Nat}{X Y:Nat->Prop}{u:Value}{o:Oper}
theorem Nq{c e:Option E}(h:Bs c e=some x): ∃a,e=some a/\jx a x:=by
 unfold Bs at h;split at h
 ·cases h;exact⟨_,rfl,AX _ _⟩
 ·exact⟨x,h,jx.refl x⟩
 cases h
def tM(s:S):List (Nat×V)->List V
 | []=>[]
 |(i,v)::l=>lD v (s.t i)::tM s l
def tT(s:S):List (Nat×Option E)->List (Option E)
 | []=>[]
 |(k,e)::l=>Bs e (s.H k)::tT s l
def kq{k:Type}:List (Nat×k)->List k
 | []=>[]
 |(_,v)::l=>v::kq l
theorem Fm{s:S}: ∀{l:List (Nat×V)},tM s l=kq l-> ∀i v,(i,v)∈l->dC (s.t i) v
 |(a,c)::l,h,i,v,hm=>by
  simp only[tM,kq,List.cons.injEq] at h;rcases dP.1 hm with hm|hm
  ·cases hm;exact h.1▸F0 _ _
  exact Fm h.2 i v hm
theorem FA{s:S}: ∀{l:List (Nat×Option E)},tT s l=kq l-> ∀k e,(k,some e)∈l-> ∃a,s.H k=some a/\jx a e
 |(ka,a)::l,h,k,e,hm=>by
  simp only[tT,kq,List.cons.injEq] at h;rcases dP.1 hm with hm|hm
  ·cases hm;exact Nq h.1
  exact FA h.2 k e hm
def tn{k:Type}(a:List Nat):List (Nat×k)->Bool
 | []=>true
 |(i,_)::l=>hF i a&&tn a l
theorem E4{k:Type}{r:List Nat}: ∀{l:List (Nat×k)},tn r l=true-> ∀i v,(i,v)∈l->i∈r
 |(a,c)::l,h,i,v,hm=>by
  simp only[tn,Bool.and_eq_true] at h;rcases dP.1 hm with hm|hm
  ·cases hm;exact zX h.1
  exact E4 h.2 i v hm
def xd{k:Type}:List (Nat×k)->List Nat
 | []=>[]
 |(i,_)::l=>i::xd l
theorem MC{k:Type}{i:Nat}: ∀{l:List (Nat×k)},i∈xd l-> ∃v,(i,v)∈l
 |(d,a)::l,h=>by
  simp only[xd,List.mem_cons] at h;rcases h with rfl|h
  ·exact⟨a,eX⟩
  obtain⟨v,c⟩:=MC h;exact⟨v,eA _ c⟩
def Bo(a:List Nat)(t:Nat->V):Nat->V:=λi=>bif hF i a then .c4 else t i
def S.cl(s:S)(a:List Nat)(c:List (Nat×V))(d:List (Nat×Option E))(e:List (Nat×Bool)):S:={t:=di (Bo a s.t) c,H:=di s.H d,u:=di s.u e}
theorem Rel.Jd{K:Ctx}{s c:S}{a:Act}(l:Rel K β s a w)(n:c.u=s.u)(x: ∀k e,c.H k=some e-> ∃m,s.H k=some m/\jx m e)(y: ∀i,dC (s.t i) (c.t i)):Rel K β c a w:=by
 have d: ∀b,own K β c.H b->own K β s.H b:=by
  rintro b (h|⟨id,p,q⟩)
  ·exact .inl h
  cases o:c.H id with
  |none=>exact bB o p
  |some e=>
   obtain⟨m,r,_⟩:=x id e o;exact .inr ⟨id,by rw[r];simp,q⟩
 refine {l with low:= ?_,dL:= ?_,ed:= ?_,heap:= ?_,cZ:= ?_}
 ·intro id h;rw[n];exact l.low id h
 ·intro id h;rw[n] at h;exact l.dL id h
 ·intro id b h;rw[n] at h;exact l.ed id b h
 ·intro id e o;obtain⟨m,p,q⟩:=x id e o;obtain⟨r,z⟩:=l.heap id m p;refine⟨by rw[n];exact r,?_⟩;exact(q.vj z).mono (Ext.refl _ _) (λb _=>d b) (dv.refl _) (λ_ h=>h) (Shaped.refl _ _) λ_ _=>rfl
 intro i;exact(y i _ _ _ _ (l.cZ i)).mono (Ext.refl _ _) (λb _=>d b) (dv.refl _) (Shaped.refl _ _)
theorem ab0{K:Ctx}{s:S}{e:cS}{d:List (Nat×V)}{c:List (Nat×Option E)}{m:List (Nat×Bool)}(A:e.us=m)(B:tn r e.eH=true)(D:tn (xd c) e.hs=true)
  (F:tM (e.app s) d=kq d) (G:tT (e.app s) c=kq c):(e.app s).le K (s.cl r d c m):=by
 intro I a w L;refine⟨I,L.Jd ?_ ?_ ?_⟩
 ·show di s.u m=di s.u e.us;rw[A]
 ·intro k x o;have o:di s.H c k=some x:=o;rcases mq c s.H k with ⟨p,n⟩|⟨v,p,n⟩
  ·rw[n] at o;refine⟨x,?_,jx.refl x⟩;show di s.H e.hs k=some x;rw[mz _ _ _ λv q=>?_]
   ·exact o
   obtain⟨Q,y⟩:=MC (E4 D k v q);exact p Q y
  rw[n] at o;subst o;exact FA G k x p
 intro i;show dC _ (di (Bo r s.t) d i);rcases mq d (Bo r s.t) i with ⟨p,n⟩|⟨v,p,n⟩
 ·rw[n];unfold Bo;cases z:hF i r with
  |true=>exact dC.c4 _
  |false=>
   show dC (di s.t e.eH i) (s.t i);rw[mz _ _ _ (λv q=>by
    have hm:=E4 B i v q
    have: ∀{l:List Nat},i∈l->hF i l=true:=by
     intro l;induction l with
     |nil=>intro h;cases h
     |cons x l R=>
      intro h;simp only[hF];rcases dP.1 h with rfl|h
      ·simp
      cases Nat.beq x i with
      |true=>rfl
      |false=>exact R h
    rw[this hm] at z;cases z)]
   exact dC.refl _
 rw[n];exact Fm F i v p
theorem Mm{k:Type}(f:Nat->k)(i:Nat):aU f i (f i)=f:=by
 funext j;by_cases a:j=i
 ·subst a;rw[bW]
 rw[bX _ _ _ _ a]
def Map.move(a:Map)(k c gen:Nat)(q:Option Nat):Map:=
 ⟨λi=>bif Nat.beq i c then some (q,1) else bif Nat.beq i k then some (none,gen+1) else a i,λi b=>(i=c/\a.n k b)\/(i≠c/\i≠k/\a.n i b)⟩
theorem GB(h:i≠k):Nat.beq i k=false:=by
 cases a:Nat.beq i k with
 |false=>rfl
 |true=>exact bB (cN a) h
theorem Fw(c:Map)(k a gen:Nat)(q:Option Nat):c.move k a gen q a=some (q,1):=by simp[Map.move]
theorem Fv(c:Map)(k a gen:Nat)(q:Option Nat)(h:k≠a):c.move k a gen q k=some (none,gen+1):=by simp[Map.move,GB h]
theorem Eu(a:Map)(k c gen:Nat)(q:Option Nat)(id:Nat)(h:id≠k)(d:id≠c):a.move k c gen q id=a id:=by simp[Map.move,GB h,GB d]
theorem Of(c:Map)(k d gen:Nat)(q:Option Nat)(a b:Nat)(h:a≠k)(e:a≠d):(c.move k d gen q).n a b↔c.n a b:=by simp[Map.move,h,e]
theorem NP(d:k≠n)(e:D k=some (q,gen))(h:At (D.move k n gen q) i b):(i=n/\At D k b)\/(i≠k/\i≠n/\At D i b):=by
 rcases h with ⟨g,h⟩|⟨rfl,h⟩|⟨a,c,h⟩
 ·by_cases a:i=n
  ·subst a;rw[Fw] at h;cases h;exact .inl ⟨rfl,.inl ⟨gen,e⟩⟩
  by_cases c:i=k
  ·subst c;rw[Fv _ _ _ _ _ d] at h;cases h
  rw[Eu _ _ _ _ _ _ c a] at h;exact .inr ⟨c,a,.inl ⟨g,h⟩⟩
 ·exact .inl ⟨rfl,.inr h⟩
 exact .inr ⟨c,a,.inr h⟩
theorem Wj{K:Ctx}{s:S}(i k b1 gen d B D:Nat){p:List (List T)}(M:Nat.ble K.c' k=true)(R:k≠b1)(aH:s.t i= .bc k gen d B D)(U:s.H k=some (.arr e gen d p))(N:s.u b1=false):
  s.le K {t:=aU s.t i (.bc b1 1 d B D),H:=aU (aU s.H k none) b1 (some (.arr e 1 d p)),u:=aU s.u b1 true}:=by
 intro L a w h;have mx:=ea M;obtain⟨q,W⟩:=jq (h.heap k _ U).2;have P:=(h.heap k _ U).2.1;have V:=(h.heap k _ U).1;have cv:=h.dL b1 N;have adq:K.c'<=b1:=by
  apply Nat.le_of_not_lt;intro hlt;rw[h.low b1 hlt] at N;cases N
 let m:=L.move k b1 gen q;have f:m b1=some (q,1):=Fw _ _ _ _ _;have cu:m k=some (none,gen+1):=Fv _ _ _ _ _ R;have E: ∀id,id≠k->id≠b1->m id=L id:=λid l y=>Eu _ _ _ _ _ _ l y;have r: ∀id b,At m id b->(id=b1/\At L k b)\/(id≠k/\id≠b1/\At L id b):=by
  intro id b G;exact NP R W G
 have X:dv L m:=by
  intro id q2 g F;by_cases y:id=k
  ·subst y;rw[W] at F;cases F;exact .inr ⟨P,none,gen+1,cu,mV _⟩
  have l:id≠b1:=by intro e;subst e;rw[cv] at F;cases F
  exact .inl (by rw[E id y l];exact F)
 have A: ∀b,own K m (aU (aU s.H k none) b1 (some (.arr e 1 d p))) b->own K L s.H b:=by
  rintro b (F|⟨id,l,y⟩)
  ·exact .inl F
  rcases r id b y with ⟨rfl,z⟩|⟨z,Y,Q⟩
  ·exact .inr ⟨k,by rw[U];simp,z⟩
  rw[bX _ _ _ _ Y,bX _ _ _ _ z] at l;exact .inr ⟨id,l,Q⟩
 refine⟨m,{h with base:= ?_,low:= ?_,dL:= ?_,ed:= ?_,inj:= ?_,fresh:= ?_,heap:= ?_,cZ:= ?_}⟩
 ·exact h.base.keep λid hid=>E id O O
 ·intro id hid;show aU s.u b1 true id=true;rw[bX _ _ _ _ O];exact h.low id hid
 ·intro id hid;have c:aU s.u b1 true id=false:=hid;by_cases l:id=b1
  ·subst l;rw[bW] at c;cases c
  rw[bX _ _ _ _ l] at c;rw[E id (by intro e;subst e;rw[V] at c;cases c) l];exact h.dL id c
 ·intro id b hid G;have c:aU s.u b1 true id=false:=hid;rcases G with ⟨l,_⟩|⟨l,_,G⟩
  ·subst l;rw[bW] at c;cases c
  rw[bX _ _ _ _ l] at c;exact h.ed id b c G
 ·intro id j' b l y;rcases r id b l with ⟨rfl,z⟩|⟨z,Y,Q⟩<;>rcases r j' b y with ⟨e2,h6⟩|⟨h6,lP,k4⟩
  ·exact e2.symm
  ·exact bB (h.inj _ _ b k4 z) h6
  ·subst e2;exact bB (h.inj _ _ b Q h6) z
  exact h.inj _ _ b Q k4
 ·intro id b G;rcases r id b G with ⟨rfl,z⟩|⟨z,Y,Q⟩
  ·refine⟨?_,(h.fresh _ _ z).2⟩;exact(h.fresh _ _ z).1
  exact h.fresh id b Q
 ·intro id e' o;have o:aU (aU s.H k none) b1 (some (.arr e 1 d p)) id=some e':=o;show aU s.u b1 true id=true/\cH m w (own K m (aU (aU s.H k none) b1 (some (.arr e 1 d p)))) id e';by_cases l:id=b1
  ·subst l;rw[bW] at o;cases o;refine⟨bW _ _ _,cQ _,?_⟩;rcases(h.heap k _ U).2.2 with ⟨aJ,a2⟩|⟨b,us,aJ,a2,a3,a4,a5⟩
   ·rw[W] at aJ;cases aJ;exact .inl ⟨f,a2⟩
   rw[W] at aJ;cases aJ;exact .inr ⟨b,us,f,a2,a3,a4,λi j row x u c1 c2 eZ=>(a5 i j row x u c1 c2 eZ).mono (Ext.refl _ _) λb _=>A b⟩
  rw[bX _ _ _ _ l] at o⊢;by_cases y:id=k
  ·subst y;rw[bW] at o;cases o
  rw[bX _ _ _ _ y] at o;obtain⟨z,Y⟩:=h.heap id e' o;exact⟨z,Y.mono (Ext.refl _ _) (λb _=>A b) X (λx F=>by rw[E id y l];exact F) (Shaped.refl _ _) (λ_ _=>rfl) λb=>Of _ _ _ _ _ _ _ y l⟩
 intro j;show bn m w _ (aU s.t i (.bc b1 1 d B D) j) _;by_cases hj:j=i
 ·subst hj;rw[bW];have l:=h.cZ j;rw[aH] at l;generalize a.tmps.getD j undef=v at l;rcases fa l W with ⟨cap,b,n,hD,rfl,I,hw,hs,pb,cE,hm⟩|⟨I,rfl,rfl,rfl⟩
  ·subst I;exact .bc b1 1 d B D cap b n hD (cQ _) f hw hs pb cE hm
  subst I;exact .hz b1 1 d (cQ _) f
 rw[bX _ _ _ _ hj];exact(h.cZ j).mono (Ext.refl _ _) (λb _=>A b) X (Shaped.refl _ _)
theorem cH.set{a:List V}{j:Nat}{c x:V}(h:cH β w X b (.cells a))(k:a[j]? =some c)(o: ∀u,bn β w X c u->bn β w X x u):cH β w X b (.cells (a.set j x)):=by
 obtain⟨p,q,ty,r,s,y,l⟩:=h;refine⟨p,q,ty,r,s,by simpa using y,λi v u d m=>?_⟩;by_cases n:i=j
 ·subst n;have e:=(bR.1 k).1;rw[gj e] at d;cases d;exact o u (l i c u k m)
 rw[ix (kT n)] at d;exact l i v u d m
theorem Uz{K:Ctx}{s:S}(b k i j gen p:Nat){n:List (List T)}{L:List dQ}{Q:Nat}{l:List (List T)}{R:List (Nat×Nat×V)}(U:Nat.ble K.c' k=true)(W:b≠k)
  (a':s.H b=some (.a8 L m Q l ((i,j,.bc k gen p 0 n.length)::R))) (hk:s.H k=some (.arr e gen p n)):
  s.le K {t:=s.t,H:=aU (aU s.H k none) b (some (.a8 L m Q l ((i,j,.t (.aD n))::R))),u:=s.u}:=by
 intro y a w h;have mx:=ea U;generalize fx:(some (.a8 L m Q l ((i,j,.t (.aD n))::R)):Option E)=N;have agi:N≠none:=by subst fx;simp
 have d: ∀o,own K y (aU (aU s.H k none) b N) o->own K y s.H o:=by
  rintro o (X|⟨id,q,G⟩)
  ·exact .inl X
  by_cases z:id=b
  ·subst z;exact .inr ⟨id,by rw[a'];simp,G⟩
  rw[bX _ _ _ _ z] at q;by_cases r:id=k
  ·subst r;rw[bW] at q;exact bB rfl q
  rw[bX _ _ _ _ r] at q;exact .inr ⟨id,q,G⟩
 have A: ∀o,At y k o-> ¬own K y (aU (aU s.H k none) b N) o:=by
  rintro o D (X|⟨id,q,G⟩)
  ·obtain⟨gk,iA⟩:=h.iD o X;rcases(h.fresh k o D).1 with Y|iN
   ·exact iA Y
   omega
  have:=h.inj _ _ _ G D;subst this;rw[bX _ _ _ _ (kT W),bW] at q;exact q rfl
 have f:=(h.heap k _ hk).2;refine⟨y,{h with heap:= ?_,cZ:= ?_}⟩
 ·intro id e' c;have c:aU (aU s.H k none) b N id=some e':=c;by_cases z:id=b
  ·subst z;rw[bW] at c;subst c;cases fx;obtain⟨r,I⟩:=h.heap id _ a';refine⟨r,I.1,?_⟩;rcases I.2 with ⟨aJ,a2,a3⟩|⟨o,us,B,aJ,a2,a3,a4,a5,ig,iH,fh⟩
   ·exact .inl ⟨aJ,a2,a3⟩
   refine .inr ⟨o,us,B,aJ,a2,a3,a4,λiO cW g x u cU cu eT=>?_,ig,iH,fh⟩;have M:=a5 iO cW g x u cU cu eT;refine⟨λv bJ=>?_,λF=>?_⟩
   ·rcases dP.1 bJ with e|bJ
    ·simp only[Prod.mk.injEq] at e;obtain⟨rfl,rfl,rfl⟩:=e;obtain⟨P,d2⟩:=M.1 _ eX;exact⟨.t _ _ (f.read P d A),d2⟩
    obtain⟨P,d2⟩:=M.1 v (eA _ bJ);exact⟨P.mono (Ext.refl _ _) (λb _=>d b) (dv.refl _) (Shaped.refl _ _),d2⟩
   have hne: ¬(iO=i/\cW=j):=by rintro⟨rfl,rfl⟩;exact F _ eX
   refine(M.2 λv bJ=>?_).mono (Ext.refl _ _) (λb _=>d b) λ_ _=>rfl;rcases dP.1 bJ with e|bJ
   ·simp only[Prod.mk.injEq] at e;exact hne ⟨e.1,e.2.1⟩
   exact F v (eA _ bJ)
  rw[bX _ _ _ _ z] at c;by_cases r:id=k
  ·subst r;rw[bW] at c;cases c
  rw[bX _ _ _ _ r] at c;obtain⟨I,h6⟩:=h.heap id e' c;exact⟨I,h6.mono (Ext.refl _ _) (λb _=>d b) (dv.refl _) (λ_ h=>h) (Shaped.refl _ _) λ_ _=>rfl⟩
 intro i;exact(h.cZ i).mono (Ext.refl _ _) (λb _=>d b) (dv.refl _) (Shaped.refl _ _)
theorem Ua{K:Ctx}{s:S}(b j k gen n:Nat){r:List V}(F:Nat.ble K.c' k=true)(G:s.H b=some (.cells r))(W:r[j]? =some (.bc k gen n 0 c.length))(I:s.H k=some (.arr e gen n c)):
  s.le K {t:=s.t,H:=aU (aU s.H k none) b (some (.cells (r.set j (.t (.aD c))))),u:=s.u}:=by
 intro x a w h;have g:=ea F;have L:b≠k:=by intro e;subst e;rw[G] at I;cases I
 have l: ∀m,own K x (aU (aU s.H k none) b (some (.cells (r.set j (.t (.aD c)))))) m->own K x s.H m:=by
  rintro m (Q|⟨id,o,B⟩)
  ·exact .inl Q
  by_cases y:id=b
  ·subst y;exact .inr ⟨id,by rw[G];simp,B⟩
  rw[bX _ _ _ _ y] at o;by_cases p:id=k
  ·subst p;rw[bW] at o;exact bB rfl o
  rw[bX _ _ _ _ p] at o;exact .inr ⟨id,o,B⟩
 have z: ∀m,At x k m-> ¬own K x (aU (aU s.H k none) b (some (.cells (r.set j (.t (.aD c)))))) m:=by
  rintro m A (Q|⟨id,o,B⟩)
  ·obtain⟨gk,E⟩:=h.iD m Q;rcases(h.fresh k m A).1 with q|M
   ·exact E q
   omega
  have:=h.inj _ _ _ B A;subst this;rw[bX _ _ _ _ (kT L),bW] at o;exact o rfl
 have R:=(h.heap k _ I).2;refine⟨x,{h with heap:= ?_,cZ:= ?_}⟩
 ·intro id e' d;have d:aU (aU s.H k none) b (some (.cells (r.set j (.t (.aD c))))) id=some e':=d;by_cases y:id=b
  ·subst y;rw[bW] at d;cases d;obtain⟨p,U⟩:=h.heap id _ G;refine⟨p,?_⟩;obtain⟨m,N,ty,P,g2,g3,X⟩:=U;refine⟨m,N,ty,P,g2,by simpa using g3,λi v u D Y=>?_⟩;by_cases f:i=j
   ·subst f;have q:=(bR.1 W).1;rw[gj q] at D;cases D;exact .t _ _ (R.read (X i _ u W Y) l z)
   rw[ix (kT f)] at D;exact(X i v u D Y).mono (Ext.refl _ _) (λb _=>l b) (dv.refl _) (Shaped.refl _ _)
  rw[bX _ _ _ _ y] at d;by_cases p:id=k
  ·subst p;rw[bW] at d;cases d
  rw[bX _ _ _ _ p] at d;obtain⟨U,h6⟩:=h.heap id e' d;exact⟨U,h6.mono (Ext.refl _ _) (λb _=>l b) (dv.refl _) (λ_ h=>h) (Shaped.refl _ _) λ_ _=>rfl⟩
 intro i;exact(h.cZ i).mono (Ext.refl _ _) (λb _=>l b) (dv.refl _) (Shaped.refl _ _)
theorem WT{K:Ctx}{s:S}{c:Nat}(b j k:Nat)(e:TypeId){A:List V}(F:s.u k=false)(U:s.H b=some (.cells A))(f:A[j]? =some (.t .fo)):
  s.le K {t:=s.t,H:=aU (aU s.H k (some (.arr e 1 c []))) b (some (.cells (A.set j (.bc k 1 c 0 0)))),u:=aU s.u k true}:=by
 intro p a w h;have cv:=h.dL k F;have W:b≠k:=by intro e;subst e;have:=(h.heap b _ U).1;rw[this] at F;cases F
 have q: ∀id x,p id=some x->p.put k (some (none,1)) id=some x:=λid x l=>by
  rw[ep _ _ _ _ (by intro e;subst e;rw[cv] at l;cases l)];exact l
 have G:=dv.of q;have o: ∀id n,At (p.put k (some (none,1))) id n->id≠k/\At p id n:=λid n l=>by
  by_cases r:id=k
  ·subst r;rcases l with ⟨g,l⟩|l
   ·rw[jg] at l;cases l
   exact bB l (h.ed _ _ F)
  refine⟨r,?_⟩;rcases l with ⟨g,l⟩|l
  ·rw[ep _ _ _ _ r] at l;exact .inl ⟨g,l⟩
  exact .inr l
 have y: ∀n,own K (p.put k (some (none,1))) (aU (aU s.H k (some (.arr e 1 c []))) b (some (.cells (A.set j (.bc k 1 c 0 0))))) n->own K p s.H n:=by
  rintro n (l|⟨id,z,B⟩)
  ·exact .inl l
  obtain⟨X,I⟩:=o id n B;by_cases R:id=b
  ·subst R;exact .inr ⟨id,by rw[U];simp,I⟩
  rw[bX _ _ _ _ R,bX _ _ _ _ X] at z;exact .inr ⟨id,z,I⟩
 have L: ∀v u,bn p w (own K p s.H) v u->bn (p.put k (some (none,1))) w (own K (p.put k (some (none,1))) (aU (aU s.H k (some (.arr e 1 c []))) b (some (.cells (A.set j (.bc k 1 c 0 0)))))) v u:=
  λv u D=>D.mono (Ext.refl _ _) (λb _=>y b) G (Shaped.refl _ _)
 refine⟨p.put k (some (none,1)),{h with base:= ?_,low:= ?_,dL:= ?_,ed:= ?_,inj:= ?_,fresh:= ?_,heap:= ?_,cZ:=λi=>L _ _ (h.cZ i)}⟩
 ·refine h.base.keep λid hid=>?_
  have:=h.low id hid;rw[ep _ _ _ _ (by intro e;subst e;rw[F] at this;cases this)]
 ·intro id hid;show aU s.u k true id=true;by_cases e:id=k
  ·subst e;exact bW _ _ _
  rw[bX _ _ _ _ e];exact h.low id hid
 ·intro id hid;have d:aU s.u k true id=false:=hid;by_cases e:id=k
  ·subst e;rw[bW] at d;cases d
  rw[bX _ _ _ _ e] at d;rw[ep _ _ _ _ e];exact h.dL id d
 ·intro id b hid;have d:aU s.u k true id=false:=hid;by_cases e:id=k
  ·subst e;rw[bW] at d;cases d
  rw[bX _ _ _ _ e] at d;exact h.ed id b d
 ·intro id Q n z B;exact h.inj id Q n (o id n z).2 (o Q n B).2
 ·intro id n l;exact h.fresh id n (o id n l).2
 intro id e' m;have m:aU (aU s.H k (some (.arr e 1 c []))) b (some (.cells (A.set j (.bc k 1 c 0 0)))) id=some e':=m;show aU s.u k true id=true/\cH _ _ (own K _ (aU (aU s.H k (some (.arr e 1 c []))) b (some (.cells (A.set j (.bc k 1 c 0 0)))))) id e';by_cases I:id=b
 ·subst I;rw[bW] at m;cases m;rw[bX _ _ _ _ W];obtain⟨R,n,N,ty,P,T,g3,E⟩:=h.heap id _ U;refine⟨R,n,N,ty,q _ _ P,T,by simpa using g3,λi v u D M=>?_⟩;by_cases r:i=j
  ·subst r;have Y:=(bR.1 f).1;rw[gj Y] at D;cases D;have z:=E i _ u f M;cases z with
   |t _ _ B=>cases B;exact .hz k 1 c (cQ _) (bW _ _ _)
  rw[ix (kT r)] at D;exact L _ _ (E i v u D M)
 rw[bX _ _ _ _ I] at m;by_cases r:id=k
 ·subst r;rw[bW] at m;cases m;exact⟨bW _ _ _,cQ _,Or.inl ⟨bW _ _ _,rfl⟩⟩
 rw[bX _ _ _ _ r] at m;obtain⟨z,B⟩:=h.heap id e' m;exact⟨by rw[bX _ _ _ _ r];exact z,B.mono (Ext.refl _ _) (λb _=>y b) G (q id) (Shaped.refl _ _) λ_ _=>rfl⟩
def lY(k:Nat):Nat->Bool:=λid=>bif Nat.beq id k then false else true
def rS(k:Nat)(v:V):V:=bif v.ok (lY k) then v else .c4
def GH(k:Nat):E->Option E
 | .cells cs=>bif gz (lY k) cs then some (.cells cs) else none
 | .a8 d m gen a c=>bif ud (lY k) c then some (.a8 d m gen a c) else none
 |e=>some e
theorem Bb(h:i≠k):lY k i=true:=by
 have:Nat.beq i k=false:=by cases a:Nat.beq i k with
  |false=>rfl
  |true=>exact bB (cN a) h
 simp[lY,this]
theorem w2(h:lY k i=true):i≠k:=by intro e;subst e;simp[lY] at h
def E.mN(n:Nat):E->E
 | .arr e _ z r=> .arr e n z r
 | .a8 a m _ r c=> .a8 a m n r c
 |e=>e
abbrev E.CO:E->E:=E.mN 1
def E.pc:E->List (Nat×Nat×V)
 | .a8 _ _ _ _ a=>a
 |_=>[]
theorem cH.mN{β':Map}{e:E}(h:cH β w X k e)(d:1<=n)(z:e.gen=some g)(s:β k=some (q,g))(y:β' L=some (q,n))(G: ∀b,β'.n L b↔β.n k b)(H: ∀b,Y b->X b)
  (Q: ∀i j v,(i,j,v)∈e.pc-> ∀u,bn β w X v u->bn β' w Y v u):cH β' w Y L (e.mN n):=by
 cases e with
 |cells=>cases z
 |arr ty R I l=>
  cases z;refine⟨d,?_⟩;rcases h.2 with ⟨aJ,a2⟩|⟨b,A,aJ,a2,a3,a4,a5⟩
  ·rw[s] at aJ;cases aJ;exact .inl ⟨y,a2⟩
  rw[s] at aJ;cases aJ;exact .inr ⟨b,A,y,a2,a3,a4,λi j a x u o p r=>(a5 i j a x u o p r).mono (Ext.refl _ _) λb _=>H b⟩
 |a8 W m R l f=>
  cases z;refine⟨d,?_⟩;rcases h.2 with ⟨aJ,a2,a0⟩|⟨b,A,B,aJ,a2,a3,a4,a5,ig,iH,fh⟩
  ·rw[s] at aJ;cases aJ;exact .inl ⟨y,a2,λc U=>a0 c ((G c).1 U)⟩
  rw[s] at aJ;cases aJ;exact .inr ⟨b,A,B,y,a2,a3,a4,λi j a x u o p r=>⟨λv D=>⟨Q i j v D _ ((a5 i j a x u o p r).1 v D).1,((a5 i j a x u o p r).1 v D).2⟩,λF=>((a5 i j a x u o p r).2 F).mono (Ext.refl _ _) (λc _=>H c) λ_ _=>rfl⟩,ig,iH,λc=>(G c).trans (fh c)⟩
theorem Rel.Qt{K:Ctx}{s s':S}{a:Act}(h:Rel K β s a w)(k g gen:Nat){e:E}{F:Option Nat}(B:s.H k=some e)(U:e.gen=some gen)(G:e.pc=[])(I:k<K.c')(L:K.gU k=some (F,g))
  (n:s'.u=s.u) (Q:s'.H k=some (e.mN (g+1))) (q:Option Nat) (D:β k=some (q,gen))
  (W: ∀id x,id≠k->s'.H id=some x->s.H id≠none/\ ∀X,(∀b,X b->own K β s.H b)->cH (β.put k (some (q,g+1))) w X id x)
  (N: ∀i,∀X,(∀b,X b->own K β s.H b)->bn (β.put k (some (q,g+1))) w X (s'.t i) (a.tmps.getD i undef)):Rel K (β.put k (some (q,g+1))) s' a w:=by
 have R:1<=gen:=(oT (h.heap k _ B).2 U).1;have o:=(h.heap k _ B).1;have p:1<=g/\ ∀b,q=some b->F=some b\/K.w0.heap.size<=b:=by
  rcases h.base k I with Y|⟨T,V,q2,g2,aJ,a2,a3,a4,a5⟩
  ·rw[D,L] at Y;cases Y;exact⟨R,λb a'=> .inl a'⟩
  rw[L] at aJ;cases aJ;rw[D] at a3;cases a3;exact⟨a2,a5⟩
 have c: ∀id b,At (β.put k (some (q,g+1))) id b->At β id b:=λid b a'=>by
  rcases a' with ⟨P,a'⟩|a'
  ·by_cases d:id=k
   ·subst d;rw[jg] at a';cases a';exact .inl ⟨gen,D⟩
   rw[ep _ _ _ _ d] at a';exact .inl ⟨P,a'⟩
  exact .inr a'
 have l: ∀b,own K (β.put k (some (q,g+1))) s'.H b->own K β s.H b:=by
  rintro b (m|⟨id,r,z⟩)
  ·exact .inl m
  refine .inr ⟨id,?_,c id b z⟩;by_cases d:id=k
  ·subst d;rw[B];simp
  cases m:s'.H id with
  |none=>exact bB m r
  |some x=>exact(W id x d m).1
 refine {h with base:= ?_,low:= ?_,dL:= ?_,ed:=λid b hid=>h.ed id b (n▸hid),inj:= ?_,fresh:=λid b a'=>h.fresh id b (c id b a'),heap:= ?_,cZ:=λi=>N i _ l}
 ·intro id hid;by_cases d:id=k
  ·subst d;exact .inr ⟨F,g,q,g+1,L,p.1,bW _ _ _,mV _,p.2⟩
  rw[ep _ _ _ _ d];exact h.base id hid
 ·intro id hid;rw[n];exact h.low id hid
 ·intro id hid;rw[n] at hid;rw[ep _ _ _ _ (by intro e;subst e;rw[o] at hid;cases hid)];exact h.dL id hid
 ·intro id A b r z;exact h.inj id A b (c id b r) (c A b z)
 intro id x m;by_cases d:id=k
 ·subst d;rw[Q] at m;cases m;exact⟨by rw[n];exact o,(h.heap id _ B).2.mN O U D (bW _ _ _) (λ_=>Iff.rfl) l λi j v f=>by rw[G] at f;cases f⟩
 obtain⟨r,z⟩:=W id x d m;refine⟨?_,z _ l⟩;rw[n];cases M:s.H id with
 |none=>exact bB M r
 |some y=>exact(h.heap id y M).1
theorem L9(l:D k=some (q,gen))(h:bn D w X (.bc k gen i L m) u):bn (D.put k (some (q,g+1))) w Y (.bc k (g+1) i L m) u:=by
 rcases fa h l with ⟨c,b,n,d,rfl,a,o,p,e,r,s⟩|⟨a,rfl,rfl,rfl⟩
 ·subst a;exact .bc k (g+1) i L m c b n d O (bW _ _ _) o p e r s
 subst a;exact .hz k (g+1) i O (bW _ _ _)
theorem Ms{v:V}(h:bn D w X v u)(a: ∀b,Y b->X b):bn (D.put k (some (q,g+1))) w Y (rS k v) u:=by
 unfold rS;cases c:v.ok (lY k) with
 |false=>exact .c4 _
 |true=>exact h.under a (λid hid=>ep _ _ _ _ (w2 hid)) c
theorem Lv{y:E}(h:cH D w X i x)(e: ∀b,Y b->X b)(l:i≠k)(a:GH k x=some y):cH (D.put k (some (q,g+1))) w Y i y:=by
 unfold GH at a;split at a
 ·rename_i cs;cases c:gz (lY k) cs with
  |false=>rw[c] at a;cases a
  |true=>rw[c] at a;cases a;exact h.under e (λi hid=>ep _ _ _ _ (w2 hid)) (Bb l) c
 ·rename_i n;cases c:ud (lY k) n with
  |false=>rw[c] at a;cases a
  |true=>rw[c] at a;cases a;exact h.under e (λi hid=>ep _ _ _ _ (w2 hid)) (Bb l) c
 cases a;refine h.under e (u:=lY k) (λi hid=>ep _ _ _ _ (w2 hid)) (Bb l) ?_;cases x with
 |cells cs=>rename_i o _;exact bB rfl (o cs)
 |arr=>rfl
 |a8 p m gen d n=>rename_i _ o;exact bB rfl (o p m gen d n)
def qa(k:Nat)(H:Nat->Option E):Nat->Option E:=λid=>match H id with
 |some e=>GH k e
 |none=>none
theorem Eg{K:Ctx}{s:S}(i k g gen c d l:Nat){e:E}(G:Nat.blt k K.c'=true)(I:s.t i= .bc k gen c d l)(A:s.H k=some e)(B:e.gen=some gen)(o:e.pc=[])(p: ∃q,K.gU k=some (q,g)):
  s.le K {t:=aU (λj=>rS k (s.t j)) i (.bc k (g+1) c d l),H:=aU (qa k s.H) k (some (e.mN (g+1))),u:=s.u}:=by
 intro L a w h;obtain⟨Q,p⟩:=p;obtain⟨_,q,D⟩:=oT (h.heap k _ A).2 B;refine⟨_,h.Qt (s':={t:=aU (λj=>rS k (s.t j)) i (.bc k (g+1) c d l),H:=aU (qa k s.H) k (some (e.mN (g+1))),u:=s.u}) k g gen A B o (by simpa[Nat.blt_eq] using G) p rfl (bW _ _ _) q D ?_ ?_⟩
 ·intro id x n m;have m:aU (qa k s.H) k (some (e.mN (g+1))) id=some x:=m;rw[bX _ _ _ _ n] at m;unfold qa at m;cases r:s.H id with
  |none=>rw[r] at m;cases m
  |some y=>
   rw[r] at m;exact⟨aV,λX z=>Lv (h.heap id y r).2 z n m⟩
 intro j X z;show bn _ w X (aU (λj=>rS k (s.t j)) i (.bc k (g+1) c d l) j) _;by_cases F:j=i
 ·subst F;rw[bW];exact L9 D (I▸h.cZ j)
 rw[bX _ _ _ _ F];exact Ms (h.cZ j) z
theorem nl{K:Ctx}{s:S}(b j k g gen c l m:Nat){e:E}{cs:List V}(cJ:Nat.blt k K.c'=true)(B:s.H b=some (.cells cs))(D:cs[j]? =some (.bc k gen c l m))(F:gz (lY k) (cs.set j .c4)=true)
  (z:s.H k=some e) (G:e.gen=some gen) (I:e.pc=[]) (L: ∃q,K.gU k=some (q,g)):
  s.le K {t:=λj=>rS k (s.t j),H:=aU (aU (qa k s.H) k (some (e.mN (g+1)))) b (some (.cells (cs.set j (.bc k (g+1) c l m)))),u:=s.u}:=by
 intro Q a w h;obtain⟨oC,L⟩:=L;obtain⟨_,q,Y⟩:=oT (h.heap k _ z).2 G;have n:b≠k:=by intro e';subst e';rw[B] at z;cases z;cases G
 refine⟨_,h.Qt (s':={t:=λj=>rS k (s.t j),H:=aU (aU (qa k s.H) k (some (e.mN (g+1)))) b (some (.cells (cs.set j (.bc k (g+1) c l m)))),u:=s.u}) k g gen z G I (by simpa[Nat.blt_eq] using cJ) L rfl (by show aU _ b _ k=_;rw[bX _ _ _ _ (kT n),bW]) q Y ?_ ?_⟩
 ·intro id x o d;have d:aU (aU (qa k s.H) k (some (e.mN (g+1)))) b (some (.cells (cs.set j (.bc k (g+1) c l m)))) id=some x:=d;by_cases p:id=b
  ·subst p;rw[bW] at d;cases d;refine⟨by rw[B];simp,λX r=>?_⟩;have f:=(h.heap id _ B).2;have h6:cH Q w (own K Q s.H) id (.cells (cs.set j .c4)):=f.set D λu _=> .c4 u;have lP:=h6.under (u:=lY k) (β':=Q.put k (some (q,g+1))) r (λid hid=>ep _ _ _ _ (w2 hid)) (Bb n) F;obtain⟨gm,us,ty,M,N,g3,g4⟩:=lP;obtain⟨cu,q3,afP,P,T,f3,f4⟩:=f;rw[ep _ _ _ _ n,P] at M;cases M;rw[T] at N;cases N;refine⟨_,_,_,by rw[ep _ _ _ _ n];exact P,T,by simpa using f3,λi v u A hu=>?_⟩;by_cases R:i=j
   ·subst R;have U:=(bR.1 D).1;rw[gj U] at A;cases A;exact L9 Y (f4 i _ u D hu)
   rw[ix (kT R)] at A;exact g4 i v u (by rw[ix (kT R)];exact A) hu
  rw[bX _ _ _ _ p,bX _ _ _ _ o] at d;unfold qa at d;cases W:s.H id with
  |none=>rw[W] at d;cases d
  |some y=>
   rw[W] at d;exact⟨aV,λX r=>Lv (h.heap id y W).2 r o d⟩
 intro j X r;exact Ms (h.cZ j) r
inductive m' (p:V->V->Prop):V->V->Prop
 |same (v:V):m' p v v
 |put {v dx:V} (h:p v dx):m' p v dx
 |agg {cs Ha:List V} (cE:Ha.length=cs.length) (h: ∀(i:Nat) c Pd,cs[i]? =some c->Ha[i]? =some Pd->m' p c Pd):m' p (.agg cs) (.agg Ha)
theorem GD{p:V->V->Prop}{S:Map}{a:World}(e: ∀v u,bn S w X v u->bn D a Y v u)(k: ∀v x u,p v x->bn S w X v u->bn D a Y x u){v x:V}(h:m' p v x): ∀u,bn S w X v u->bn D a Y x u:=by
 induction h with
 |same v=>exact e v
 |put h=>exact λu=>k _ _ u h
 |agg l h m=>
  intro u d;cases d with
  |agg _ n o q=>
   refine .agg _ n O λi r u c d=>?_;have aH:=(bR.1 c).1;have bP:=br (show i<_ by rw[<-l];exact aH);exact m i _ r bP c u (q i _ u bP d)
def v8(p:V->V->Prop)(e d:E):Prop:=d=e\/ ∃cs a,e= .cells cs/\d= .cells a/\a.length=cs.length/\ ∀(i:Nat) c h,cs[i]? =some c->a[i]? =some h->m' p c h
theorem v8.vj{p:V->V->Prop}{S:Map}(c: ∀x,S n=some x->D n=some x)(l: ∀e,cH S w X n e->cH D w Y n e)(m: ∀v u,bn S w X v u->bn D w Y v u)(o: ∀v d u,p v d->bn S w X v u->bn D w Y d u){e e':E}(h:v8 p e e')(k:cH S w X n e):cH D w Y n e':=by
 rcases h with rfl|⟨cs,q,rfl,rfl,r,h⟩
 ·exact l _ k
 obtain⟨b,s,ty,y,z,G,A⟩:=k;refine⟨b,s,ty,c _ y,z,O,λi B u a F=>?_⟩;have aH:=(bR.1 a).1;have bP:=br (show i<_ by rw[<-r];exact aH);exact GD m o (h i _ B bP a) u (A i _ u bP F)
theorem T'{K:Ctx}{s:S}(W:Nat->V)(o:Nat->Option E)(k gen d:Nat)(D:Nat.ble K.c' k=true)(g:s.H k=some (.arr e gen d c))
  (j: ∀i,m' (λv p=>v= .bc k gen d 0 c.length/\p= .t (.aD c)) (s.t i) (W i)) (F:o k=none)
  (X: ∀id q,o id=some q-> ∃r,s.H id=some r/\v8 (λv p=>v= .bc k gen d 0 c.length/\p= .t (.aD c)) r q):s.le K {t:=W,H:=o,u:=s.u}:=by
 intro l a w h;have M:=ea D;have m: ∀n,own K l o n->own K l s.H n:=by
  rintro n (G|⟨id,x,y⟩)
  ·exact .inl G
  cases B:o id with
  |none=>exact bB B x
  |some q=>obtain⟨r,I,_⟩:=X id q B;exact .inr ⟨id,by rw[I];simp,y⟩
 have z: ∀n,At l k n-> ¬own K l o n:=by
  rintro n A (G|⟨id,x,y⟩)
  ·obtain⟨gk,N⟩:=h.iD n G;rcases(h.fresh k n A).1 with L|P
   ·exact N L
   omega
  have:=h.inj _ _ _ y A;subst this;exact x F
 have Q:=(h.heap k _ g).2;have Y: ∀v u,bn l w (own K l s.H) v u->bn l w (own K l o) v u:=λv u R=>R.mono (Ext.refl _ _) (λb _=>m b) (dv.refl _) (Shaped.refl _ _);have f: ∀v p u,(v= .bc k gen d 0 c.length/\p= .t (.aD c))->bn l w (own K l s.H) v u->bn l w (own K l o) p u:=by
  rintro v p u ⟨rfl,rfl⟩ R;exact .t _ _ (Q.read R m z)
 refine⟨l,{h with heap:= ?_,cZ:= ?_}⟩
 ·intro id q U;obtain⟨r,x,y⟩:=X id q U;obtain⟨I,h4⟩:=h.heap id r x;exact⟨I,y.vj (λ_ h=>h) (λe B=>B.mono (Ext.refl _ _) (λb _=>m b) (dv.refl _) (λ_ h=>h) (Shaped.refl _ _) λ_ _=>rfl) Y f h4⟩
 intro i;exact GD Y f (j i) _ (h.cZ i)
theorem U6{K:Ctx}{s:S}(l3:Nat->V)(A:Nat->Option E)(k b1 gen l R:Nat){D:E}(xE:Nat.ble K.c' k=true)(U:k≠b1)(N:s.H k=some D)(bM:D.gen=some gen)(hu:s.u b1=false)
  (e6: ∀i,m' (λv G=>v= .bc k gen l 0 R/\G= .bc b1 1 l 0 R) (s.t i) (l3 i)) (acR:A k=none) (W:A b1=some D.CO)
  (hH: ∀id e',id≠b1->A id=some e'-> ∃D,s.H id=some D/\v8 (λv G=>v= .bc k gen l 0 R/\G= .bc b1 1 l 0 R) D e'):
  s.le K {t:=l3,H:=A,u:=aU s.u b1 true}:=by
 intro B a w h;have mx:=ea xE;obtain⟨iM,q,P⟩:=oT (h.heap k _ N).2 bM;have HM:=(h.heap k _ N).1;have cv:=h.dL b1 hu;have adq:K.c'<=b1:=by
  apply Nat.le_of_not_lt;intro hlt;rw[h.low b1 hlt] at hu;cases hu
 let d:=B.move k b1 gen q;have cU:d b1=some (q,1):=Fw _ _ _ _ _;have cu:d k=some (none,gen+1):=Fv _ _ _ _ _ U;have X: ∀id,id≠k->id≠b1->d id=B id:=λid m o=>Eu _ _ _ _ _ _ m o;have p: ∀id b,At d id b->(id=b1/\At B k b)\/(id≠k/\id≠b1/\At B id b):=by
  intro id b I;exact NP U P I
 have Y:dv B d:=by
  intro id q2 g r;by_cases o:id=k
  ·subst o;rw[P] at r;cases r;exact .inr ⟨iM,none,gen+1,cu,mV _⟩
  have m:id≠b1:=by intro e;subst e;rw[cv] at r;cases r
  exact .inl (by rw[X id o m];exact r)
 have z: ∀b,own K d A b->own K B s.H b:=by
  rintro b (r|⟨id,m,o⟩)
  ·exact .inl r
  rcases p id b o with ⟨rfl,y⟩|⟨y,f,F⟩
  ·exact .inr ⟨k,by rw[N];simp,y⟩
  cases T:A id with
  |none=>exact bB T m
  |some e'=>obtain⟨D,L,_⟩:=hH id e' f T;exact .inr ⟨id,by rw[L];simp,F⟩
 have hm: ∀v u,bn B w (own K B s.H) v u->bn d w (own K d A) v u:=λv u bJ=>bJ.mono (Ext.refl _ _) (λb _=>z b) Y (Shaped.refl _ _);have hp: ∀v G u,(v= .bc k gen l 0 R/\G= .bc b1 1 l 0 R)->bn B w (own K B s.H) v u->bn d w (own K d A) G u:=by
  rintro v G u ⟨rfl,rfl⟩ bJ;rcases fa bJ P with ⟨cap,b,n,hD,rfl,Q,hw,hs,pb,cE,BS⟩|⟨Q,m,o,rfl⟩
  ·subst Q;exact .bc b1 1 l 0 _ cap b n hD (cQ _) cU hw hs pb cE BS
  subst Q;rw[o];exact .hz b1 1 l (cQ _) cU
 refine⟨d,{h with base:= ?_,low:= ?_,dL:= ?_,ed:= ?_,inj:= ?_,fresh:= ?_,heap:= ?_,cZ:= ?_}⟩
 ·exact h.base.keep λid hid=>X id O O
 ·intro id hid;show aU s.u b1 true id=true;rw[bX _ _ _ _ O];exact h.low id hid
 ·intro id hid;have c:aU s.u b1 true id=false:=hid;by_cases m:id=b1
  ·subst m;rw[bW] at c;cases c
  rw[bX _ _ _ _ m] at c;rw[X id (by intro e;subst e;rw[HM] at c;cases c) m];exact h.dL id c
 ·intro id b hid I;have c:aU s.u b1 true id=false:=hid;rcases I with ⟨m,_⟩|⟨m,_,I⟩
  ·subst m;rw[bW] at c;cases c
  rw[bX _ _ _ _ m] at c;exact h.ed id b c I
 ·intro id j' b m o;rcases p id b m with ⟨rfl,y⟩|⟨y,f,F⟩<;>rcases p j' b o with ⟨e2,L⟩|⟨L,lP,k4⟩
  ·exact e2.symm
  ·exact bB (h.inj _ _ b k4 y) L
  ·subst e2;exact bB (h.inj _ _ b F L) y
  exact h.inj _ _ b F k4
 ·intro id b I;rcases p id b I with ⟨rfl,y⟩|⟨y,f,F⟩
  ·refine⟨?_,(h.fresh _ _ y).2⟩;exact(h.fresh _ _ y).1
  exact h.fresh id b F
 ·intro id e' r;have M:A id=some e':=r;clear r;show aU s.u b1 true id=true/\cH d w (own K d A) id e';by_cases m:id=b1
  ·subst m;rw[W] at M;cases M;exact⟨bW _ _ _,(h.heap k _ N).2.mN (cQ _) bM P cU (λb=>by simp[d,Map.move]) z λ_ _ v _ u=>hm v u⟩
  have o:id≠k:=by intro e;subst e;rw[acR] at M;cases M
  obtain⟨D,F,L⟩:=hH id e' m M;obtain⟨y,f⟩:=h.heap id D F;rw[bX _ _ _ _ m];refine⟨y,L.vj (λx r=>by rw[X id o m];exact r) (λe T=>T.mono (Ext.refl _ _) (λb _=>z b) Y (λx r=>by rw[X id o m];exact r) (Shaped.refl _ _) (λ_ _=>rfl) λb=>Of _ _ _ _ _ _ _ o m) hm hp f⟩
 intro j;exact GD hm hp (e6 j) _ (h.cZ j)
mutual
def pz(k g z n:Nat)(c:V):V->V×List dh
 | .bc h gen a d e=>match Nat.beq h k&&Nat.beq d 0 with
  |true=>(c,[.q gen g,.q a z,.q e n])
  |false=>(.bc h gen a d e,[])
 | .agg cs=>(.agg (mJ k g z n c cs).1,(mJ k g z n c cs).2)
 |v=>(v,[])
def mJ(k g z n:Nat)(a:V):List V->List V×List dh
 | []=>([],[])
 |c::cs=>((pz k g z n a c).1::(mJ k g z n a cs).1,(pz k g z n a c).2++(mJ k g z n a cs).2)
end
theorem Ep(k g z n:Nat)(a:V): ∀cs,(mJ k g z n a cs).1.length=cs.length
 | []=>rfl
 |c::cs=>by simp[mJ,Ep k g z n a cs]
mutual
theorem N2(k g z n:Nat)(c:V): ∀v,cf (pz k g z n c v).2->m' (λa b=>a= .bc k g z 0 n/\b=c) v (pz k g z n c v).1
 | .bc l gen i e m,h=>by
  unfold pz at h⊢;cases d:Nat.beq l k&&Nat.beq e 0 with
  |false=>exact .same _
  |true=>
   simp only[d] at h⊢;simp only[Bool.and_eq_true] at d;obtain⟨rfl,rfl,rfl,_⟩:=h;have o:=cN d.1;have p:=cN d.2;subst o;subst p;exact .put ⟨rfl,rfl⟩
 | .agg cs,h=>by
  simp only[pz] at h⊢;exact .agg (Ep _ _ _ _ _ _) (Gx k g z n c cs h)
 | .t _,_| .bL _,_| .ref _ _,_| .aQ _,_| .cC _ _ _ _ _,_| .fn _ _,_| .c4,_=>by simp only[pz];exact .same _
theorem Gx(k g z n:Nat)(d:V): ∀cs,cf (mJ k g z n d cs).2-> ∀(i:Nat) c l,cs[i]? =some c->(mJ k g z n d cs).1[i]? =some l->m' (λa b=>a= .bc k g z 0 n/\b=d) c l
 | [],_,i,c,l,h,_=>by simp at h
 |o::cs,m,0,c,l,h,e=>by
  simp only[mJ] at m e;simp at h e;subst h;subst e;exact N2 k g z n d o (cf.app m).1
 |o::cs,m,i+1,c,l,h,e=>by simp only[mJ] at m e;simp at h e;exact Gx k g z n d cs (cf.app m).2 i c l h e
end
def ir(k g z n:Nat)(a:V)(s:S):List Nat->List (Nat×V)×List dh
 | []=>([],[])
 |i::is=>((i,(pz k g z n a (s.t i)).1)::(ir k g z n a s is).1,(pz k g z n a (s.t i)).2++(ir k g z n a s is).2)
def gB(k g z n:Nat)(a:V)(s:S):List Nat->List (Nat×Option E)×List dh
 | []=>([],[])
 |b::c=>match s.H b with
  |some (.cells cs)=>((b,some (.cells (mJ k g z n a cs).1))::(gB k g z n a s c).1,(mJ k g z n a cs).2++(gB k g z n a s c).2)
  |_=>gB k g z n a s c
theorem Gw{k g z n:Nat}{x:V}{s:S}: ∀{is:List Nat},cf (ir k g z n x s is).2-> ∀i v,(i,v)∈(ir k g z n x s is).1->m' (λa b=>a= .bc k g z 0 n/\b=x) (s.t i) v
 |i0::is,c,i,v,h=>by
  simp only[ir] at c h;rcases dP.1 h with h|h
  ·cases h;exact N2 _ _ _ _ _ _ (cf.app c).1
  exact Gw (cf.app c).2 i v h
theorem A9{k g z n:Nat}{x:V}{s:S}: ∀{i:List Nat},cf (gB k g z n x s i).2-> ∀b e,(b,e)∈(gB k g z n x s i).1-> ∃m o,s.H b=some m/\e=some o/\v8 (λa b=>a= .bc k g z 0 n/\b=x) m o
 |p::i,c,b,e,h=>by
  unfold gB at c h;split at h
  ·rename_i cs d;simp only[d] at c;rcases dP.1 h with h|h
   ·cases h;exact⟨_,_,d,rfl,.inr ⟨cs,_,rfl,rfl,Ep _ _ _ _ _ _,Gx _ _ _ _ _ _ (cf.app c).1⟩⟩
   exact A9 (cf.app c).2 b e h
  rename_i d;split at c
  ·rename_i cs l;exact bB l (d cs)
  exact A9 c b e h
theorem NR{k:Nat}: ∀{l:List Nat},k∈l->hF k l=true
 |x::l,h=>by
  simp only[hF];rcases dP.1 h with rfl|h
  ·simp
  cases Nat.beq x k with
  |true=>rfl
  |false=>exact NR h
theorem wo(h:(!hF k l)=true):k∉l:=λa=>by rw[NR a] at h;cases h
theorem NC{b1:Nat}(h:(!Nat.beq k b1)=true):k≠b1:=λe=>by subst e;simp at h
theorem wm{k g z n:Nat}{x:V}{s:S}: ∀{a:List Nat} {b:Nat} {e:Option E},(b,e)∈(gB k g z n x s a).1->b∈a
 |c::a,b,e,h=>by
  unfold gB at h;split at h
  ·rcases dP.1 h with h|h
   ·cases h;exact eX
   exact eA _ (wm h)
  exact eA _ (wm h)
theorem abk{K:Ctx}{s:S}{a:List (List T)}{L:List Nat}(h:Nat.ble K.c' k=true)(m:s.H k=some (.arr e gen n a))(o:k∉r)
  (p:cf (ir k gen n a.length (.t (.aD a)) s L).2) (q:cf (gB k gen n a.length (.t (.aD a)) s r).2):
  s.le K ((⟨(ir k gen n a.length (.t (.aD a)) s L).1,(k,none)::(gB k gen n a.length (.t (.aD a)) s r).1,[]⟩:cS).app s):=by
 refine T' _ _ k gen n h m (λi=>?_) ?_ λid e' c=>?_
 ·rcases mq (ir k gen n a.length (.t (.aD a)) s L).1 s.t i with ⟨_,d⟩|⟨v,l,d⟩
  ·rw[d];exact .same _
  rw[d];exact Gw p i v l
 ·show di (aU s.H k none) _ k=none;rw[mz _ _ _ λv w=>o (wm w),bW]
 have c:di (aU s.H k none) (gB k gen n a.length (.t (.aD a)) s r).1 id=some e':=c;rcases mq (gB k gen n a.length (.t (.aD a)) s r).1 (aU s.H k none) id with ⟨_,d⟩|⟨v,l,d⟩
 ·rw[d] at c;by_cases hid:id=k
  ·subst hid;rw[bW] at c;cases c
  rw[bX _ _ _ _ hid] at c;exact⟨e',c,.inl rfl⟩
 rw[d] at c;subst c;obtain⟨x,B,y,z,A⟩:=A9 q id _ l;cases z;exact⟨x,y,A⟩
theorem OD{K:Ctx}{s:S}{W:E}(h:Nat.ble K.c' k=true)(d:k≠L)(w:s.H k=some W)(x:W.gen=some gen)(y:s.u L=false)(z:k∉r)(o:L∉r)
  (A:cf (ir k gen n m (.bc L 1 n 0 m) s l).2) (B:cf (gB k gen n m (.bc L 1 n 0 m) s r).2):
  s.le K ((⟨(ir k gen n m (.bc L 1 n 0 m) s l).1,(k,none)::(L,some W.CO)::(gB k gen n m (.bc L 1 n 0 m) s r).1,[(L,true)]⟩:cS).app s):=by
 refine U6 _ _ k L gen n m h d w x y (λi=>?_) ?_ ?_ λid e' e a=>?_
 ·rcases mq (ir k gen n m (.bc L 1 n 0 m) s l).1 s.t i with ⟨_,c⟩|⟨v,p,c⟩
  ·rw[c];exact .same _
  rw[c];exact Gw A i v p
 ·show di (aU (aU s.H k none) L _) _ k=none;rw[mz _ _ _ λv q=>z (wm q),bX _ _ _ _ d,bW]
 ·show di (aU (aU s.H k none) L _) _ L=_;rw[mz _ _ _ λv q=>o (wm q),bW]
 have a:di (aU (aU s.H k none) L (some W.CO)) (gB k gen n m (.bc L 1 n 0 m) s r).1 id=some e':=a;rcases mq (gB k gen n m (.bc L 1 n 0 m) s r).1 (aU (aU s.H k none) L (some W.CO)) id with ⟨_,c⟩|⟨v,p,c⟩
 ·rw[c,bX _ _ _ _ e] at a;by_cases hid:id=k
  ·subst hid;rw[bW] at a;cases a
  rw[bX _ _ _ _ hid] at a;exact⟨e',a,.inl rfl⟩
 rw[c] at a;subst a;obtain⟨W,I,D,F,G⟩:=A9 B id _ p;cases F;exact⟨W,D,G⟩
theorem Uy{K:Ctx}{s:S}(B:Nat->V)(k:Nat){F:List T}(G:Nat.ble K.c' k=true)(R:s.H k=some (.cells (F.map .t)))
  (U: ∀i,B i=s.t i\/ ∃c,s.t i= .ref k c/\B i= .aQ (F.drop c)):s.le K {t:=B,H:=aU s.H k none,u:=s.u}:=by
 intro q a w h;have W:=ea G;obtain⟨b,p,ty,D,X,L,Y⟩:=(h.heap k _ R).2;have m: ∀I,own K q (aU s.H k none) I->own K q s.H I:=by
  rintro I (r|⟨id,n,o⟩)
  ·exact .inl r
  by_cases hid:id=k
  ·subst hid;rw[bW] at n;exact bB rfl n
  rw[bX _ _ _ _ hid] at n;exact .inr ⟨id,n,o⟩
 have y: ¬own K q (aU s.H k none) b:=by
  rintro(r|⟨id,n,o⟩)
  ·obtain⟨gk,f⟩:=h.iD b r;rcases(h.fresh k b (.inl ⟨_,D⟩)).1 with d|g
   ·exact f d
   omega
  have:=h.inj _ _ _ o (.inl ⟨_,D⟩);subst this;rw[bW] at n;exact n rfl
 refine⟨q,{h with heap:= ?_,cZ:= ?_}⟩
 ·intro id e' l;have l:aU s.H k none id=some e':=l;by_cases hid:id=k
  ·subst hid;rw[bW] at l;cases l
  rw[bX _ _ _ _ hid] at l;obtain⟨n,o⟩:=h.heap id e' l;exact⟨n,o.mono (Ext.refl _ _) (λb _=>m b) (dv.refl _) (λ_ h=>h) (Shaped.refl _ _) λ_ _=>rfl⟩
 intro j;show bn q w _ (B j) _;rcases U j with v|⟨c,n,o⟩
 ·rw[v];exact(h.cZ j).mono (Ext.refl _ _) (λb _=>m b) (dv.refl _) (Shaped.refl _ _)
 rw[o];have Q:=h.cZ j;rw[n] at Q;obtain⟨cu,z,E⟩:=rn Q;rw[D] at z;cases z;rw[E];have a':=(h.fresh k b (.inl ⟨_,D⟩)).2;refine .aQ _ b c (λi=>p.getD (c+i) undef) a' y (λi M=>?_) λi x r=>?_
 ·have d:c+i<p.size:=by simp at M L;omega
  simp[World.cell?,X,d]
 have A:F[c+i]? =some x:=by simpa using r
 have d:c+i<p.size:=by have:=(bR.1 A).1;simp at L;omega
 have N:=Y (c+i) (.t x) p[c+i] (by simp[A]) (by simp[d]);have e:p.getD (c+i) undef=p[c+i]:=by simp[d]
 rw[e];cases N with
 |t _ _ P=>exact P.mono (Ext.refl _ _) λb _=>m b
def BE(k:Nat)(c:List T)(s:S):List Nat->Option (List (Nat×V))
 | []=>some []
 |i::is=>match s.t i with
  | .ref d a=>match Nat.beq d k,BE k c s is with
   |true,some l=>some ((i,.aQ (c.drop a))::l)
   |_,_=>none
  |_=>none
theorem Ob{k:Nat}{a:List T}{s:S}: ∀{is:List Nat} {l:List (Nat×V)},BE k a s is=some l-> ∀i v,(i,v)∈l-> ∃c,s.t i= .ref k c/\v= .aQ (a.drop c)
 | [],l,h,i,v,hm=>by cases h;cases hm
 |i0::is,l,h,i,v,hm=>by
  unfold BE at h;split at h
  ·rename_i o c d;split at h
   ·rename_i p e m;cases h;have n:=cN e;subst n;rcases dP.1 hm with hm|hm
    ·cases hm;exact⟨c,d,rfl⟩
    exact Ob m i v hm
   cases h
  cases h
def xe(a:List (List T)):List Nat->List (Nat×V)
 | []=>[]
 |i::is=>(i,.t (.aD a))::xe a is
def rW(k c a n:Nat)(s:S):List Nat->Option (List dh)
 | []=>some []
 |i::is=>match s.t i with
  | .bc l gen d e h=>match Nat.beq l k&&Nat.beq e 0,rW k c a n s is with
   |true,some m=>some (.q gen c:: .q d a:: .q h n::m)
   |_,_=>none
  |_=>none
theorem Np{k m L n:Nat}{s:S}: ∀{is:List Nat} {a:List dh},rW k m L n s is=some a->cf a-> ∀i,i∈is->s.t i= .bc k m L 0 n
 | [],_,_,_,i,h=>by cases h
 |i0::is,a,h,c,i,aH=>by
  unfold rW at h;split at h
  ·rename_i z gen e l o p;split at h
   ·rename_i q d r;cases h;simp only[Bool.and_eq_true] at d;obtain⟨rfl,rfl,rfl,w⟩:=c;have x:=cN d.1;have y:=cN d.2;subst x;subst y;rcases dP.1 aH with rfl|aH
    ·exact p
    exact Np r w i aH
   cases h
  cases h
theorem MD{a:List (List T)}{j:Nat}{v:V}: ∀{is:List Nat},(j,v)∈xe a is->j∈is/\v= .t (.aD a)
 |i::is,h=>by
  simp only[xe,List.mem_cons] at h;rcases h with h|h
  ·cases h;exact⟨eX,rfl⟩
  obtain⟨c,d⟩:=MD h;exact⟨eA _ c,d⟩
def Bv{k:Type}:List k->Bool
 | []=>true
 |_::_=>false
theorem Ga{k:Type}{l:List k}(h:Bv l=true):l=[]:=by
 cases l with
 |nil=>rfl
 |cons=>cases h
def ja(C:dM)(h:cr)(s:S):Option (Option (cS×List dh)):=
 match h with
 | .jj i k=>match s.t i,s.H k with
  | .bc w gen c D F,some (.arr _ A d a)=>match Nat.beq w k&&(Nat.beq D 0&&Nat.ble C.c' k) with
   |true=>some (some (⟨[(i,.t (.aD a))],[(k,none)],[]⟩,[.q gen A,.q c d,.q F a.length]))
   |false=>some none
  |_,_=>some none
 | .r7 is k=>match s.H k with
  |some (.arr _ A d a)=>match Nat.ble C.c' k,rW k A d a.length s is with
   |true,some Y=>some (some (⟨xe a is,[(k,none)],[]⟩,Y))
   |_,_=>some none
  |_=>some none
 | .grow i k e=>match s.t i,s.u k,dz C.cc e with
  | .t .fo,false,some j=>some (some (⟨[(i,.bc k 1 j.size 0 0)],[(k,some (.arr e 1 j.size []))],[(k,true)]⟩,[]))
  |_,_,_=>some none
 | .len i n=>match s.t i with
  | .bc k gen c D F=>some (some (⟨[(i,.bc k gen c D n)],[],[]⟩,[.p (F=n)]))
  |_=>some none
 | .r6 k is=>match s.H k with
  |some (.cells f)=>match lF f,Nat.ble C.c' k with
   |some cs,true=>match BE k cs s is with
    |some l=>some (some (⟨l,[(k,none)],[]⟩,[]))
    |none=>some none
   |_,_=>some none
  |_=>some none
 | .bj k is L=>match s.H k with
  |some (.arr _ gen c a)=>match Nat.ble C.c' k&& !hF k L with
   |true=>some (some (⟨(ir k gen c a.length (.t (.aD a)) s is).1,(k,none)::(gB k gen c a.length (.t (.aD a)) s L).1,[]⟩,(ir k gen c a.length (.t (.aD a)) s is).2++(gB k gen c a.length (.t (.aD a)) s L).2))
   |false=>some none
  |_=>some none
 | .ee k w is L=>match s.H k,s.u w with
  |some (.arr e gen c a),false=>match Nat.ble C.c' k&&(!Nat.beq k w&&(!hF k L&& !hF w L)) with
   |true=>some (some (⟨(ir k gen c a.length (.bc w 1 c 0 a.length) s is).1,(k,none)::(w,some (.arr e 1 c a))::(gB k gen c a.length (.bc w 1 c 0 a.length) s L).1,[(w,true)]⟩,
     (ir k gen c a.length (.bc w 1 c 0 a.length) s is).2++(gB k gen c a.length (.bc w 1 c 0 a.length) s L).2))
   |false=>some none
  |some (.a8 r m gen a []),false=>match Nat.ble C.c' k&&(!Nat.beq k w&&(!hF k L&& !hF w L)) with
   |true=>some (some (⟨(ir k gen (aO r m).size a.length (.bc w 1 (aO r m).size 0 a.length) s is).1,(k,none)::(w,some (.a8 r m 1 a []))::(gB k gen (aO r m).size a.length (.bc w 1 (aO r m).size 0 a.length) s L).1,[(w,true)]⟩,
     (ir k gen (aO r m).size a.length (.bc w 1 (aO r m).size 0 a.length) s is).2++(gB k gen (aO r m).size a.length (.bc w 1 (aO r m).size 0 a.length) s L).2))
   |false=>some none
  |_,_=>some none
 | .eF b j n=>match s.H b with
  |some (.cells cs)=>match cs[j]? with
   |some (.bc k gen c D F)=>some (some (⟨[],[(b,some (.cells (cs.set j (.bc k gen c D n))))],[]⟩,[.p (F=n)]))
   |_=>some none
  |_=>some none
 | .du i k w=>match s.t i,s.H k,s.u w with
  | .bc ka gen c D F,some (.arr e A d a),false=>match Nat.beq ka k&&(Nat.ble C.c' k&& !Nat.beq k w) with
   |true=>some (some (⟨[(i,.bc w 1 c D F)],[(k,none),(w,some (.arr e 1 d a))],[(w,true)]⟩,[.q gen A,.q c d]))
   |false=>some none
  |_,_,_=>some none
 | .BF b j k=>match s.H b,s.H k with
  |some (.cells cs),some (.arr _ A d a)=>match cs[j]?,Nat.ble C.c' k with
   |some (.bc w gen c D F),true=>match Nat.beq w k&&Nat.beq D 0 with
    |true=>some (some (⟨[],[(k,none),(b,some (.cells (cs.set j (.t (.aD a)))))],[]⟩,[.q gen A,.q c d,.q F a.length]))
    |false=>some none
   |_,_=>some none
  |some (.a8 r m v U ((E,M,.bc w gen c D F)::I)),some (.arr _ A d a)=>match Nat.beq w k&&(Nat.beq D 0&&(Nat.ble C.c' k&& !Nat.beq b k)) with
   |true=>some (some (⟨[],[(k,none),(b,some (.a8 r m v U ((E,M,.t (.aD a))::I)))],[]⟩,[.q gen A,.q c d,.q F a.length]))
   |false=>some none
  |_,_=>some none
 | .et b j k e=>match s.H b,s.u k,dz C.cc e with
  |some (.cells cs),false,some i=>match cs[j]? with
   |some (.t .fo)=>some (some (⟨[],[(k,some (.arr e 1 i.size [])),(b,some (.cells (cs.set j (.bc k 1 i.size 0 0))))],[(k,true)]⟩,[]))
   |_=>some none
  |_,_,_=>some none
 | .kf k=>match s.H k with
  |some (.cells cs)=>some (some (⟨[],[(k,some (.cells (gS cs)))],[]⟩,[]))
  |_=>some none
 | .dS k r m=>match s.H k with
  |some (.arr ty gen c a)=>match Bv (aO r m).bm||Bv a with
   |true=>some (some (⟨[],[(k,some (.a8 r m gen a []))],[]⟩,[.q (aO r m).ty ty,.q (aO r m).size c]))
   |false=>some none
  |some (.a8 Q X gen a I)=>match Nat.ble C.c' k&&Bv (aO r m).bm with
   |true=>some (some (⟨[],[(k,some (.a8 r m gen a I))],[]⟩,[.q (aO r m).ty (aO Q X).ty,.q (aO r m).size (aO Q X).size]))
   |false=>some none
  |_=>some none
 | .dc k=>match s.H k with
  |some (.a8 r m gen a [])=>match Nat.ble C.c' k with
   |true=>some (some (⟨[],[(k,some (.arr (aO r m).ty gen (aO r m).size a))],[]⟩,[]))
   |false=>some none
  |_=>some none
 | .dV k w i j B=>match s.H k,s.u w with
  |some (.a8 r m gen a I),false=>match (aO r m).ek j,B[j]? with
   |some W,some (.aD G)=>some (some (⟨[],[(k,some (.a8 r m gen a ((i,j,.bc w 1 (aO r W).size 0 G.length)::I))),(w,some (.a8 r W 1 G []))],[(w,true)]⟩,.p (a[i]? =some B)::rZ i j I))
   |_,_=>some none
  |_,_=>some none
 | .Pn k i j B=>match s.H k with
  |some (.a8 r m gen a I)=>match (aO r m).ek j,B[j]?,rb j I with
   |none,some x,true=>some (some (⟨[],[(k,some (.a8 r m gen a ((i,j,.t x)::I)))],[]⟩,[.p (a[i]? =some B)]))
   |_,_,_=>some none
  |_=>some none
 | .C' k B R=>match s.H k with
  |some (.a8 r m gen a ((i,j,.t x)::I))=>match (aO r m).ek j,Nat.blt j (aO r m).size&&rb j I with
   |none,true=>some (some (⟨[],[(k,some (.a8 r m gen R I))],[]⟩,[.p (a[i]? =some B),.p (a.set i (B.set j x)=R)]))
   |some _,true=>match x with
    | .fo=>some (some (⟨[],[(k,some (.a8 r m gen R I))],[]⟩,[.p (a[i]? =some B),.p (a.set i (B.set j (.aD []))=R)]))
    |_=>some none
   |_,_=>some none
  |_=>some none
 | .BI i j k e=>match s.t i,s.u k,dz C.cc e with
  | .agg cs,false,some y=>match cs[j]? with
   |some (.t .fo)=>some (some (⟨[(i,.agg (cs.set j (.bc k 1 y.size 0 0)))],[(k,some (.arr e 1 y.size []))],[(k,true)]⟩,[]))
   |_=>some none
  |_,_,_=>some none
 | .dn k w B R=>match s.H k,s.H w with
  |some (.a8 r m gen a ((i,j,.bc cz g z o n)::I)),some (.a8 Q W N G [])=>match (aO r m).ek j,Nat.beq cz w&&(!Nat.beq k w&&(Nat.ble C.c' w&&(Nat.beq o 0&&Nat.blt j (aO r m).size))) with
   |some P,true=>some (some (⟨[],[(w,none),(k,some (.a8 r m gen R I))],[]⟩,.q g N:: .q z (aO r W).size:: .p (n=G.length):: .q P W:: .p (Q=r):: .p (a[i]? =some B):: .p (a.set i (B.set j (.aD G))=R)::rZ i j I))
   |_,_=>some none
  |_,_=>some none
 | .cut k n R=>match s.H k with
  |some (.arr e gen c a)=>some (some (⟨[],[(k,some (.arr e gen c R))],[]⟩,[.p (R=a.take n)]))
  |_=>some none
 |_=>none
def p'(C:dM)(a:Nat):List cr->S->Option (cS×List dh×List cr)
 | [],_=>some (.nil,[],[])
 | .at m::c,s=>match Nat.beq m a with
  |true=>p' C a c s
  |false=>some (.nil,[],.at m::c)
 |h::c,s=>match ja C h s with
  |none=>some (.nil,[],h::c)
  |some none=>none
  |some (some (e,k))=>match p' C a c (e.app s) with
   |some (l,d,i)=>some (e.cat l,k++d,i)
   |none=>none
section
variable {K:Ctx} {C:dM}
theorem Zl{K:Ctx}{s:S}(k n:Nat)(p:s.H k=some (.arr e gen L c)):s.le K {s with H:=aU s.H k (some (.arr e gen L (c.take n)))}:=by
 intro q a w h;refine⟨q,h.IH k p λX l=>⟨l.1,?_⟩⟩;rcases l.2 with ⟨m,o⟩|⟨b,r,m,o,y,z,A⟩
 ·exact .inl ⟨m,by rw[o];simp⟩
 refine .inr ⟨b,r,m,o,gE (dA _ (List.length_take_le' _ _)) y,λd B=>z d (gh B),λi j d x u aJ a2 a3=>?_⟩;rw[ft] at aJ;split at aJ
 ·exact A i j d x u aJ a2 a3
 cases aJ
theorem AU(r:C.Fits K){h:cr}{s:S}{e:cS}{U:List dh}(d:ja C h s=some (some (e,U)))(m:cf U):s.le K (e.app s):=by
 unfold ja at d;split at d
 ·split at d
  ·rename_i y n;split at d
   ·rename_i i;cases d;simp only[Bool.and_eq_true] at i;obtain⟨rfl,rfl,rfl,_⟩:=m;have z:=cN i.1;have F:=cN i.2.1;subst z;subst F;exact U7 _ _ _ _ (by rw[<-r.c'];exact i.2.2) y n
   cases d
  cases d
 ·split at d
  ·rename_i n;split at d
   ·rename_i i W;cases d;refine Kb _ _ _ _ (by rw[<-r.c'];exact i) (λj=>?_) n;rcases mq (xe _ _) s.t j with ⟨_,o⟩|⟨v,x,o⟩
    ·exact .inl o
    obtain⟨Y,rfl⟩:=MD x;exact .inr ⟨o,Np W m j Y⟩
   cases d
  cases d
 ·split at d
  ·rename_i y p q;cases d;exact Zm _ _ _ p y
  cases d
 ·split at d
  ·rename_i y;cases d;obtain⟨rfl,_⟩:=m;intro G a w H;refine⟨G,?_⟩;unfold cS.app;simp only[di];rw[<-y,Mm];exact H
  cases d
 ·split at d
  ·rename_i vs n;split at d
   ·rename_i cs Q i;split at d
    ·rename_i l b;cases d;have A:=n;rw[oF Q] at A;refine Uy _ _ (by rw[<-r.c'];exact i) A λj=>?_;rcases mq l s.t j with ⟨_,o⟩|⟨v,x,o⟩
     ·exact .inl o
     obtain⟨R,f,g⟩:=Ob b j v x;exact .inr ⟨R,f,by rw[<-g];exact o⟩
    cases d
   cases d
  cases d
 ·split at d
  ·rename_i n;split at d
   ·rename_i i;cases d;simp only[Bool.and_eq_true] at i;obtain⟨I,L⟩:=cf.app m;exact abk (by rw[<-r.c'];exact i.1) n (wo i.2) I L
   cases d
  cases d
 ·split at d
  ·rename_i n p;split at d
   ·rename_i i;cases d;simp only[Bool.and_eq_true] at i;obtain⟨I,L⟩:=cf.app m;exact OD (by rw[<-r.c'];exact i.1) (NC i.2.1) n rfl p (wo i.2.2.1) (wo i.2.2.2) I L
   cases d
  ·rename_i n p;split at d
   ·rename_i i;cases d;simp only[Bool.and_eq_true] at i;obtain⟨I,L⟩:=cf.app m;exact OD (by rw[<-r.c'];exact i.1) (NC i.2.1) n rfl p (wo i.2.2.1) (wo i.2.2.2) I L
   cases d
  cases d
 ·split at d
  ·rename_i i;split at d
   ·rename_i q;cases d;obtain⟨rfl,_⟩:=m;intro G a w H;refine⟨G,?_⟩;have F:=bR.1 q;have u: ∀{cs:List V} {j:Nat} {c:V},cs[j]? =some c->cs.set j c=cs:=by
     intro cs j c h;obtain⟨x,o⟩:=bR.1 h;rw[<-o,List.set_getElem_self]
    unfold cS.app;simp only[di];rw[u q,<-i,Mm];exact H
   cases d
  cases d
 ·split at d
  ·rename_i y n p;split at d
   ·rename_i i;cases d;simp only[Bool.and_eq_true,Bool.not_eq_true'] at i;obtain⟨rfl,rfl,_⟩:=m;have z:=cN i.1;subst z;exact Wj _ _ _ _ _ _ _ (by rw[<-r.c'];exact i.2.1) (Nat.ne_of_beq_eq_false i.2.2) y n p
   cases d
  cases d
 ·split at d
  ·rename_i i n;split at d
   ·rename_i q E;split at d
    ·rename_i B;cases d;simp only[Bool.and_eq_true] at B;obtain⟨rfl,rfl,rfl,_⟩:=m;have z:=cN B.1;have F:=cN B.2;subst z;subst F;exact Ua _ _ _ _ _ (by rw[<-r.c'];exact E) i q n
    cases d
   cases d
  ·rename_i i n;split at d
   ·rename_i B;cases d;simp only[Bool.and_eq_true,Bool.not_eq_true'] at B;obtain⟨rfl,rfl,rfl,_⟩:=m;have z:=cN B.1;have F:=cN B.2.1;subst z;subst F;exact Uz _ _ _ _ _ _ (by rw[<-r.c'];exact B.2.2.1) (Nat.ne_of_beq_eq_false B.2.2.2) i n
   cases d
  cases d
 ·split at d
  ·rename_i i p y;split at d
   ·rename_i q;cases d;exact WT _ _ _ _ p i q
   cases d
  cases d
 ·split at d
  ·rename_i k cs n;cases d;intro G a w H;exact⟨G,H.IH _ n λX h=>(show jx (.cells _) (.cells _) from l0 cs).vj h⟩
  cases d
 ·split at d
  ·rename_i n;split at d
   ·rename_i i;cases d;obtain⟨x,o,_⟩:=m;refine WO _ _ _ n x o ?_;rcases Bool.or_eq_true_iff.1 i with h|h
    ·exact .inr (Ga h)
    exact .inl (Ga h)
   cases d
  ·rename_i n;split at d
   ·rename_i i;cases d;obtain⟨x,o,_⟩:=m;simp only[Bool.and_eq_true] at i;exact WR _ _ _ n (by rw[<-r.c'];exact i.1) x o (Ga i.2)
   cases d
  cases d
 ·split at d
  ·rename_i n;split at d
   ·rename_i i;cases d;exact WQ _ n (by rw[<-r.c'];exact i)
   cases d
  cases d
 ·split at d
  ·rename_i n p;split at d
   ·rename_i D q;cases d;exact Wk _ _ _ _ _ n p m.1 q D (wE m.2)
   cases d
  cases d
 ·split at d
  ·rename_i n;split at d
   ·rename_i D q M;cases d;exact WS _ _ _ n m.1 q D M
   cases d
  cases d
 ·split at d
  ·rename_i n;split at d
   ·rename_i D i;cases d;simp only[Bool.and_eq_true] at i;obtain⟨x,rfl,_⟩:=m;exact U5 _ _ _ n x i.1 D i.2
   ·rename_i D i;split at d
    ·cases d;simp only[Bool.and_eq_true] at i;obtain⟨x,rfl,_⟩:=m;exact Wh _ _ _ _ n x i.1 D i.2
    cases d
   cases d
  cases d
 ·split at d
  ·rename_i y p hy;split at d
   ·rename_i q;cases d;exact WU _ _ _ _ p y q
   cases d
  cases d
 ·split at d
  ·rename_i n A;split at d
   ·rename_i D i;cases d;simp only[Bool.and_eq_true,Bool.not_eq_true'] at i;obtain⟨rfl,o,N,rfl,rfl,P,rfl,T⟩:=m;have z:=cN i.1;have F:=cN i.2.2.2.1;subst z;subst F;exact Ux _ _ _ _ _ _ _ _ n A o N (Nat.ne_of_beq_eq_false i.2.1) (by rw[<-r.c'];exact i.2.2.1) P D i.2.2.2.2 (wE T)
   cases d
  cases d
 ·split at d
  ·rename_i n;cases d;obtain⟨rfl,_⟩:=m;exact Zl _ _ n
  cases d
 cases d
theorem qR(m:C.Fits K){i:Nat}: ∀{n:List cr} {s:S} {e:cS} {l:List dh} {c:List cr},p' C i n s=some (e,l,c)->cf l->s.le K (e.app s)
 | [],s,e,l,c,h,_=>by cases h;exact S.le.refl _ _
 |h::n,s,e,l,c,a,k=>by
  unfold p' at a;split at a
  ·cases a;exact S.le.refl _ _
  ·split at a
   ·rename_i d _ _;cases d;exact qR m a k
   cases a;exact S.le.refl _ _
  rename_i d;cases d;split at a
  ·cases a;exact S.le.refl _ _
  ·cases a
  rename_i z o p;split at a
  ·rename_i A q r w;cases a;obtain⟨x,y⟩:=cf.app k;rw[nm];exact(AU m p x).trans (qR m w y)
  cases a
def iK(C:dM)(a:Array Oper):List Oper->List cr->S->Option (cS×List dh)
 | [],c,s=>match p' C 0 c s with
  |some (e,q,[])=>some (e,q)
  |_=>none
 |o::l,c,s=>match p' C (l.length+1) c s with
  |none=>none
  |some (d,h,i)=>match r3 C a o i (d.app s) with
   |none=>none
   |some (p,k,m)=>match iK C a l m (p.app (d.app s)) with
    |none=>none
    |some (r,n)=>some (d.cat (p.cat r),h++(k++n))
theorem Oe(c:C.Fits K){V:Array Oper}{Q:S->Prop}: ∀{l:List Oper} {k:List cr} {s:S} {e:cS} {d:List dh},iK C V l k s=some (e,d)->cf d->qb K V [] (e.app s) Q->qb K V l s Q
 | [],k,s,e,d,h,a,i=>by
  simp only[iK] at h;split at h
  ·rename_i G n p;cases h;exact Ko (qR c p a) i
  cases h
 |o::l,k,s,e,d,h,a,i=>by
  simp only[iK] at h;split at h
  ·cases h
  rename_i H q r w;split at h
  ·cases h
  rename_i I x y z;split at h
  ·cases h
  rename_i L A B;cases h;obtain⟨D,m⟩:=cf.app a;obtain⟨m,F⟩:=cf.app m;rw[nm,nm] at i;exact Ko (qR c w D) (aa2 (Oa c z m) (Oe c B F i))
abbrev ru:=Prop×List Nat×List (Nat×Bool)×Bool×List V×List (Option E)
def uh:ru:=(False,[],[],false,[],[])
def ui:ru:=(True,[],[],true,[],[])
def uj(s:S)(c:List Nat)(d:List (Nat×V))(a:List (Nat×Option E))(r:cS×List dh):ru:=
 (x' r.2,u' r.2,r.1.us,tn c r.1.eH&&tn (xd a) r.1.hs,tM (r.1.app s) d,tT (r.1.app s) a)
def uk(a:Prop)(c:List (Nat×V))(d:List (Nat×Option E))(e:List (Nat×Bool))(r:cS×List dh):ru:=
 (a,va r.2,e,true,kq c,kq d)
def mf(x:Option (cS×List dh))(n:ru)(f:cS×List dh->ru):ru:=match x with
 |some r=>f r
 |none=>n
theorem OO{x:Option (cS×List dh)}{s:S}{L:List Nat}{a:List (Nat×V)}{c:List (Nat×Option E)}{m:List (Nat×Bool)}{p:Prop}(i:p)
  (h:mf x uh (uj s L a c)=mf x ui (uk p a c m)): ∃e d,x=some (e,d)/\cf d/\(e.app s).le K (s.cl L a c m):=by
 cases x with
 |none=>simp[mf,uh,ui] at h
 |some r=>
  obtain⟨e,d⟩:=r;simp only[mf,uj,uk,Prod.mk.injEq,Bool.and_eq_true] at h;obtain⟨k,l,n,⟨o,q⟩,w,y⟩:=h;exact⟨e,d,rfl,cf.of (k▸i) l,ab0 n o q w y⟩
def tmps:List Operand->List Nat
 | []=>[]
 | .tmp t::a=>t::tmps a
 |_::a=>tmps a
def OJ(a:Array Oper)(o:Oper):List Nat:=match o.guard with
 |none=>[]
 |some (j,_)=>match (a[j]?).bind (·.dst) with
  |some t=>[t]
  |none=>[]
def Bh(o:Oper)(a:List cr):List cr:=match o.guard with
 |none=>a
 |some _=>a.tail
def A1(a:Array Oper)(o:Oper)(c:List cr)(s:S):gJ:=⟨OJ a o++tmps o.op.operands.toList,uN o (o.op.operands.toList.map s.get) (Bh o c)⟩
theorem Fo{s a:S}: ∀{c:List Operand},(∀i,i∈tmps c->s.t i=a.t i)->c.map s.get=c.map a.get
 | [],_=>rfl
 | .tmp t::c,h=>by
  simp only[List.map_cons,List.cons.injEq];exact⟨h t eX,Fo λi d=>h i (eA _ d)⟩
 | .const _::c,h| .global _::c,h| .func _::c,h=>by simp only[List.map_cons,List.cons.injEq];exact⟨rfl,Fo h⟩
theorem V2{H a:Nat->Option E}(h: ∀k,k∈r->H k=a k):ua r H=ua r a:=by
 funext k;unfold ua;cases c:hF k r with
 |true=>exact h k (zX c)
 |false=>rfl
theorem V0{u a:Nat->Bool}(h: ∀k,k∈r->u k=a k):t' r u=t' r a:=by
 funext k;unfold t';cases c:hF k r with
 |true=>exact h k (zX c)
 |false=>rfl
theorem Zd{s b:S}{a:List V}{hs:List cr}(h: ∀k,k∈uN o a hs->s.H k=b.H k/\s.u k=b.u k):qi C o a s hs=qi C o a b hs:=by unfold qi;rw[V2 λk c=>(h k c).1,V0 λk c=>(h k c).2]
theorem Yn{V:Array Oper}{c:List cr}{s a:S}(h:(A1 V o c s).same a s):r3 C V o c a=r3 C V o c s:=by
 obtain⟨n,w⟩:=h;have y:o.op.operands.toList.map a.get=o.op.operands.toList.map s.get:=Fo λi z=>n i (d'.2 (.inr z));have q: ∀d,(∀k,k∈uN o (o.op.operands.toList.map s.get) d->k∈uN o (o.op.operands.toList.map s.get) (Bh o c))->qi C o (o.op.operands.toList.map s.get) a d=qi C o (o.op.operands.toList.map s.get) s d:=λd A=>
  Zd λk e=>w k (A k e)
 unfold r3;rw[y];cases l:o.guard with
 |none=>exact q c (λk e=>by simp only[Bh,l];exact e)
 |some p=>
  obtain⟨j,r⟩:=p;have m:uw V j a=uw V j s:=by
   unfold uw;cases B:(V[j]?).bind (·.dst) with
   |none=>rfl
   |some t=>
    have:=n t (d'.2 (.inl (by unfold OJ;rw[l];simp only[B];exact mU.2 rfl)));simp only[this]
  simp only[m];cases c with
  |nil=>rfl
  |cons x c=>
   have:=q c λk e=>by simp only[Bh,l,List.tail];exact e
   cases x<;>first|rfl|(dsimp only;rw[this])
def n0(C:dM)(a:Nat):List cr->S->Option (cS×List dh×List cr×gJ)
 | .at m::hs,s=>match Nat.beq m a with
  |true=>n0 C a hs s
  |false=>some (.nil,[],.at m::hs,⟨[],[]⟩)
 | .r7 is k::hs,s=>match ja C (.r7 is k) s with
  |some (some (e,h))=>match n0 C a hs (e.app s) with
   |some (i,c,d,dR)=>some (e.cat i,h++c,d,⟨is++dR.eH,k::dR.lb⟩)
   |none=>none
  |_=>none
 | .bj k is l::hs,s=>match ja C (.bj k is l) s with
  |some (some (e,h))=>match n0 C a hs (e.app s) with
   |some (i,c,d,dR)=>some (e.cat i,h++c,d,⟨is++dR.eH,k::(l++dR.lb)⟩)
   |none=>none
  |_=>none
 | .dc k::hs,s=>match ja C (.dc k) s with
  |some (some (e,h))=>match n0 C a hs (e.app s) with
   |some (i,c,d,dR)=>some (e.cat i,h++c,d,⟨dR.eH,k::dR.lb⟩)
   |none=>none
  |_=>none
 |hs,_=>some (.nil,[],hs,⟨[],[]⟩)
theorem VZ{C:dM}{s a:S}(c:a.H k=s.H k):ja C (.dc k) a=ja C (.dc k) s:=by unfold ja;simp only[c]
theorem LN{k g z n:Nat}{s a:S}: ∀{is:List Nat},(∀i,i∈is->a.t i=s.t i)->rW k g z n a is=rW k g z n s is
 | [],_=>rfl
 |i::is,h=>by unfold rW;rw[h i eX,LN λx c=>h x (eA _ c)]
theorem Xu{s a:S}(c: ∀i,i∈r->a.t i=s.t i)(d:a.H k=s.H k):ja C (.r7 r k) a=ja C (.r7 r k) s:=by
 unfold ja;dsimp only;rw[d];split
 ·rw[LN c]
 rfl
theorem MM{k g z n:Nat}{v:V}{s a:S}: ∀{is:List Nat},(∀i,i∈is->a.t i=s.t i)->ir k g z n v a is=ir k g z n v s is
 | [],_=>rfl
 |i::is,h=>by simp only[ir,h i List.mem_cons_self,MM λx c=>h x (List.mem_cons_of_mem _ c)]
theorem MN{k g z n:Nat}{v:V}{s a:S}: ∀{c:List Nat},(∀b,b∈c->a.H b=s.H b)->gB k g z n v a c=gB k g z n v s c
 | [],_=>rfl
 |b::c,h=>by unfold gB;rw[h b eX,MN λx d=>h x (eA _ d)]
theorem VY{L:List Nat}{s a:S}(c: ∀i,i∈r->a.t i=s.t i)(d:a.H k=s.H k)(e: ∀b,b∈L->a.H b=s.H b):ja C (.bj k r L) a=ja C (.bj k r L) s:=by
 unfold ja;dsimp only;rw[d];split
 ·rw[MM c,MN e]
 rfl
theorem F5{k:Type}{f g:Nat->k}{r:Nat}(h:f r=g r): ∀(l:List (Nat×k)),di f l r=di g l r:=by
 intro l;induction l generalizing f g with
 |nil=>exact h
 |cons p l c=>
  obtain⟨d,v⟩:=p;simp only[di];apply c;by_cases a:r=d
  ·subst a;rw[bW,bW]
  rw[bX _ _ _ _ a,bX _ _ _ _ a];exact h
theorem CN{r:gJ}{s a:S}(e:cS)(h:r.same a s):r.same (e.app a) (e.app s):=
 ⟨λi d=>F5 (h.1 i d) _,λk c=>⟨F5 (h.2 k c).1 _,F5 (h.2 k c).2 _⟩⟩
theorem wI(w:C.Fits K){n:Nat}: ∀{z:List cr} {s:S} {e:cS} {d:List dh} {a:List cr} {dR:gJ},n0 C n z s=some (e,d,a,dR)->cf d-> ∀c,dR.same c s->c.le K (e.app c)
 | .at m::z,s,e,d,a,dR,h,o,c,l=>by
  unfold n0 at h;split at h
  ·exact wI w h o c l
  cases h;exact S.le.refl _ _
 | .r7 is k::z,s,e,d,a,dR,h,o,c,l=>by
  unfold n0 at h;split at h
  ·rename_i p r A;split at h
   ·rename_i Q B D F G;cases h;obtain⟨H,I⟩:=cf.app o;have q:ja C (.r7 is k) c=some (some (p,r)):=(Xu (λi x=>l.1 i (mT _ x)) (l.2 k eX).1).trans A;rw[nm];exact(AU w q H).trans (wI w G I (p.app c) (CN p ⟨λi x=>l.1 i (pR _ x),λk L=>l.2 k (eA _ L)⟩))
   cases h
  cases h
 | .bj k is R::z,s,e,d,a,dR,h,o,c,l=>by
  unfold n0 at h;split at h
  ·rename_i p r A;split at h
   ·rename_i Q B D F G;cases h;obtain⟨H,I⟩:=cf.app o;have q:ja C (.bj k is R) c=some (some (p,r)):=(VY (λi x=>l.1 i (mT _ x)) (l.2 k eX).1 λb U=>(l.2 b (eA _ (mT _ U))).1).trans A;rw[nm];exact(AU w q H).trans (wI w G I (p.app c) (CN p ⟨λi x=>l.1 i (pR _ x),λk L=>l.2 k (eA _ (pR _ L))⟩))
   cases h
  cases h
 | .dc k::z,s,e,d,a,dR,h,o,c,l=>by
  unfold n0 at h;split at h
  ·rename_i p r A;split at h
   ·rename_i Q B D F G;cases h;obtain⟨H,I⟩:=cf.app o;have q:ja C (.dc k) c=some (some (p,r)):=(VZ (l.2 k eX).1).trans A;rw[nm];exact(AU w q H).trans (wI w G I (p.app c) (CN p ⟨l.1,λk L=>l.2 k (eA _ L)⟩))
   cases h
  cases h
 | [],s,e,d,a,dR,h,_,c,_=>by cases h;exact S.le.refl _ _
 | .dS _ _ _::_,s,e,d,a,dR,h,_,c,_| .dV _ _ _ _ _::_,s,e,d,a,dR,h,_,c,_| .dn _ _ _ _::_,s,e,d,a,dR,h,_,c,_| .lt _ _ _::_,s,e,d,a,dR,h,_,c,_| .Pn _ _ _ _::_,s,e,d,a,dR,h,_,c,_| .C' _ _ _::_,s,e,d,a,dR,h,_,c,_| .BI _ _ _ _::_,s,e,d,a,dR,h,_,c,_| .cut _ _ _::_,s,e,d,a,dR,h,_,c,_
 | .row _::_,s,e,d,a,dR,h,_,c,_| .rows _::_,s,e,d,a,dR,h,_,c,_| .str _::_,s,e,d,a,dR,h,_,c,_| .int _::_,s,e,d,a,dR,h,_,c,_| .nat _::_,s,e,d,a,dR,h,_,c,_
 | .b _::_,s,e,d,a,dR,h,_,c,_| .y _::_,s,e,d,a,dR,h,_,c,_| .v _::_,s,e,d,a,dR,h,_,c,_| .jj _ _::_,s,e,d,a,dR,h,_,c,_| .grow _ _ _::_,s,e,d,a,dR,h,_,c,_
 | .kf _::_,s,e,d,a,dR,h,_,c,_| .BF _ _ _::_,s,e,d,a,dR,h,_,c,_| .et _ _ _ _::_,s,e,d,a,dR,h,_,c,_| .afC _ _ _::_,s,e,d,a,dR,h,_,c,_| .afB _ _ _ _::_,s,e,d,a,dR,h,_,c,_
 | .len _ _::_,s,e,d,a,dR,h,_,c,_| .eF _ _ _::_,s,e,d,a,dR,h,_,c,_| .r6 _ _::_,s,e,d,a,dR,h,_,c,_| .ee _ _ _ _::_,s,e,d,a,dR,h,_,c,_| .du _ _ _::_,s,e,d,a,dR,h,_,c,_| .dJ _ _ _ _::_,s,e,d,a,dR,h,_,c,_=>by cases h;exact S.le.refl _ _
theorem ib.pre{ops:Array Oper}{s b c:S}(i:s.le K b)(h:ib K ops o b c):ib K ops o s c:=by
 intro k a w next Q l m
 obtain⟨d,e⟩:=i k a w l;exact h d a w next Q e m
def xo(C:dM)(a:Array Oper):List Oper->List cr->S->Option (List (cS×gJ)×List dh)
 | [],h,_=>match h with
  | []=>some ([],[])
  |_=>none
 |o::l,h,s=>match n0 C (l.length+1) h s with
  |none=>none
  |some (d,i,c,dR)=>match r3 C a o c (d.app s) with
   |none=>none
   |some (e,n,k)=>match xo C a l k (e.app (d.app s)) with
    |none=>none
    |some (p,m)=>some ((d.cat e,⟨dR.eH++(A1 a o c (d.app s)).eH,dR.lb++(A1 a o c (d.app s)).lb⟩)::p,i++(n++m))
def BC:List (cS×gJ)->cS
 | []=> .nil
 |(e,_)::a=>e.cat (BC a)
theorem Gs(p:C.Fits K){V:Array Oper}{Q:S->Prop}: ∀{l:List Oper} {q:List cr} {s:S} {c:List (cS×gJ)} {d:List dh},xo C V l q s=some (c,d)->cf d->Q ((BC c).app s)->vX K V l c s Q
 | [],q,s,c,d,h,_,m=>by
  simp only[xo] at h;split at h
  ·cases h;exact m
  cases h
 |o::l,q,s,c,d,h,r,m=>by
  simp only[xo] at h;split at h
  ·cases h
  rename_i n D w dR F;split at h
  ·cases h
  rename_i e G H I;split at h
  ·cases h
  rename_i L R U;cases h;obtain⟨W,x⟩:=cf.app r;obtain⟨x,X⟩:=cf.app x;simp only[BC,nm] at m;refine⟨λB a=>?_,by rw[nm];exact Gs p U X m⟩;rw[nm];refine ib.pre (wI p F W B ⟨λi y=>a.1 i (mT _ y),λk z=>a.2 k (mT _ z)⟩) ?_;have A:(A1 V o w (n.app s)).same (n.app B) (n.app s):=CN n ⟨λi y=>a.1 i (pR _ y),λk z=>a.2 k (pR _ z)⟩;exact Oa p ((Yn A).trans I) x
def lJ(C:dM)(l:List Oper)(h:List cr)(s:S):Option (cS×List dh):=
 match p' C l.length h s with
 |none=>none
 |some (d,a,c)=>match xo C l.toArray l c (d.app s) with
  |none=>none
  |some (e,i)=>match mI l.toArray l.length 0 e&&rq 0 l with
   |true=>some (d.cat (BC e),a++i)
   |false=>none
theorem N9{c:Code}{s s2:S}{Q:Exit->S->Prop}(h:cK K c s λe k=>match e with| .normal=>k.le K s2|_=>False)(n:Q .normal s2):cK K c s Q:=by
 intro o a w p x y;refine h o a w p x ?_;intro e k d l m q r;cases e with
 |normal=>obtain⟨i,z⟩:=q d l m r;exact y _ _ i l m n z
 |exit=>exact q.elim
 |goto=>exact q.elim
 |ret=>exact q.elim
 |panic=>exact q.elim
 |outgrown=>exact q.elim
theorem rd{l:List Oper}{s:S}{Q:Exit->S->Prop}(q:C.Fits K)(x:K.P.follows .mixedOrders=true)(r:List cr)(k:List Nat)(c:List (Nat×V))(d:List (Nat×Option E))(m:List (Nat×Bool)){p:Prop}(n:p)
  (h:mf (lJ C l r s) uh (uj s k c d)=mf (lJ C l r s) ui (uk p c d m)) (y:Q .normal (s.cl k c d m)):cK K (.region i l.toArray true) s Q:=by
 obtain⟨e,R,a,z,w⟩:=OO (K:=K) n h;unfold lJ at a;split at a
 ·cases a
 rename_i U A B D;split at a
 ·cases a
 rename_i F G H;split at a
 ·rename_i o;cases a;simp only[Bool.and_eq_true] at o;obtain⟨I,L⟩:=cf.app z;refine vb (qR q D I) (N9 (s2:=s.cl k c d m) (Mk F x o.1 o.2 (Gs q H L ?_)) y);rw[nm] at w;exact w
 cases a
def nP:List (Nat×E)->List (Nat×Option E)
 | []=>[]
 |(k,e)::l=>(k,some e)::nP l
def oY:List Nat->List (Nat×Bool)
 | []=>[]
 |k::l=>(k,true)::oY l
def a7(a:List (Nat×V))(c:List (Nat×E))(d:List Nat):S:={t:=di pD a,H:=di oO (nP c),u:=di gx (oY d)}
def BB(u:Nat->Bool):List (Nat×V)->Bool
 | []=>true
 |(_,v)::l=>v.ok u&&BB u l
def Br(u:Nat->Bool):List (Nat×E)->Bool
 | []=>true
 |(k,e)::l=>u k&&(e.ok u&&Br u l)
def Bp(u:Nat->Bool):List Nat->Bool
 | []=>true
 |k::l=>u k&&Bp u l
theorem Na{u:Nat->Bool}: ∀{l:List (Nat×V)},BB u l=true-> ∀i v,(i,v)∈l->v.ok u=true
 |(a,c)::l,h,i,v,hm=>by
  simp only[BB,Bool.and_eq_true] at h;rcases dP.1 hm with hm|hm
  ·cases hm;exact h.1
  exact Na h.2 i v hm
theorem N0{u:Nat->Bool}: ∀{l:List (Nat×E)},Br u l=true-> ∀k e,(k,some e)∈nP l->u k=true/\e.ok u=true
 |(a,c)::l,h,i,v,hm=>by
  simp only[Br,Bool.and_eq_true] at h;simp only[nP] at hm;rcases dP.1 hm with hm|hm
  ·cases hm;exact⟨h.1,h.2.1⟩
  exact N0 h.2.2 i v hm
theorem Nn{u:Nat->Bool}: ∀{l:List Nat},Bp u l=true-> ∀k b,(k,b)∈oY l->u k=true
 |ka::l,h,k,b,hm=>by
  simp only[Bp,Bool.and_eq_true] at h;simp only[oY] at hm;rcases dP.1 hm with hm|hm
  ·cases hm;exact h.1
  exact Nn h.2 k b hm
def Bx(e:Nat)(s:S)(c:List (Nat×V))(d:List (Nat×E))(a:List Nat):List V×List (Option E)×Bool:=
 (tM s c,tT s (nP d),BB (di gx (oY a)) c&&(Br (di gx (oY a)) d&&(Bp s.u a&&mH e (di gx (oY a)))))
theorem Qj{s:S}{a:List (Nat×V)}{c:List (Nat×E)}(h:Bx K.c' s a c r=(kq a,kq (nP c),true)):s.le K (a7 a c r):=by
 simp only[Bx,Prod.mk.injEq,Bool.and_eq_true] at h;obtain⟨m,n,o,p,q,w⟩:=h;refine aaD (s':=a7 a c r) ?_ ?_ ?_ w
 ·intro i;show di pD a i= .c4\/(dC _ (di pD a i)/\(di pD a i).ok _=true)
  rcases mq a pD i with ⟨aJ,a2⟩|⟨v,aJ,a2⟩
  ·exact .inl a2
  rw[a2];exact .inr ⟨Fm m i v aJ,Na o i v aJ⟩
 ·intro k e d;have d:di oO (nP c) k=some e:=d;rcases mq (nP c) oO k with ⟨aJ,a2⟩|⟨v,aJ,a2⟩
  ·rw[a2] at d;cases d
  rw[a2] at d;subst d;obtain⟨x,y⟩:=N0 p k e aJ;exact⟨FA n k e aJ,x,y⟩
 intro k l;have l:di gx (oY r) k=true:=l;rcases mq (oY r) gx k with ⟨aJ,a2⟩|⟨v,aJ,a2⟩
 ·rw[a2] at l;cases l
 exact Nn q k v aJ
theorem Y'{ι:Type}{x y:Code}{s:S}{Q:Exit->S->Prop}(I:ι->S)(p:ι->Prop)(a:cK K x s (qd (λc=> ∃i,p i/\c.le K (I i)) Q))(d: ∀i,p i->cK K y (I i) Q):cK K (.seq x y) s Q:=by
 refine AL (vZ a λe l q=>?_);cases e with
 |normal=>obtain⟨i,h,k⟩:=q;exact vb k (d i h)
 |exit=>exact q
 |goto=>exact q
 |ret=>exact q
 |panic=>exact q
 |outgrown=>exact q
theorem abR{v r:V}(h:lD r v=r):dC v r:=h▸F0 r v
def tB(s:S):List E->Nat->List (Option E)
 | [],_=>[]
 |e::l,k=>Bs (some e) (s.H k)::tB s l (k+1)
def tv:List E->List (Option E)
 | []=>[]
 |e::l=>some e::tv l
def tZ(u:Nat->Bool):List E->Bool
 | []=>true
 |e::l=>e.ok u&&tZ u l
theorem L5{s:S}: ∀{l:List E} {k:Nat},tB s l k=tv l-> ∀i e,l[i]? =some e-> ∃a,s.H (k+i)=some a/\jx a e
 |a::l,k,h,0,e,c=>by
  simp only[tB,tv,List.cons.injEq] at h;simp at c;subst c;exact Nq h.1
 |a::l,k,h,i+1,e,c=>by
  simp only[tB,tv,List.cons.injEq] at h
  have:=L5 h.2 i e (by simpa using c)
  rwa [show k+1+i=k+(i+1) by omega] at this
theorem MT{u:Nat->Bool}: ∀{l:List E},tZ u l=true-> ∀(i:Nat) e,l[i]? =some e->e.ok u=true
 |c::l,h,0,e,a=>by simp only[tZ,Bool.and_eq_true] at h;simp at a;subst a;exact h.1
 |c::l,h,i+1,e,a=>by simp only[tZ,Bool.and_eq_true] at h;exact MT h.2 i e (by simpa using a)
end
end
def bp{k R:Type}(a:(k->Option R)->k->Option R):Nat->k->Option R
 |0,_=>none
 |m+1,x=>a (bp a m) x
def aA{k R:Type}(j:k->Option R)(t:(k->Option R)->Option R):Option R:=t j
variable {k R γ:Type}{A o B:Option R}{r a l:List k}{f:FuncId}{c:Code}{d:Func}{s:S}{Q:Exit->S->Prop}{j i:Int}{x y ph:k}{p:Prop}{q:List T}{D:Map}{w:World}{v:V}{u z:Value}{e:ResultVar}{args:List V}
theorem hW{A:k->Option R}{t:(k->Option R)->Option R}{r:R}(h:aA A t=some r): ∃j,j=A/\t j=some r:=⟨A,rfl,h⟩
theorem cT{o:Option k}{f:k->Option R}{r:R}(h:o.bind f=some r): ∃x,o=some x/\f x=some r:=by
 cases o with
 |none=>cases h
 |some x=>exact⟨x,rfl,h⟩
theorem hN{c:Bool}{r:R}(a:c=true)(h:(bif c then A else B)=some r):A=some r:=by subst a;exact h
theorem hM{c:Bool}{r:R}(a:c=false)(h:(bif c then A else B)=some r):B=some r:=by subst a;exact h
theorem ar{a b:R}(h:some a=some b):a=b:=Option.some.inj h
section
variable {K:Ctx} {C:dM}
theorem wN{a:(k->Option R)->k->Option R}{n:Nat}{d:k}{r:R}(h:bp a n d=some r)(I:k->γ->S)(p:γ)(A:s.le K (I d p))
  (l: ∀(i:k->Option R) (x:k) (g:γ),a i x=some r->cK K c (I x g) (Bl (λw=> ∃y o,i y=some r/\w.le K (I y o)) Q)):cK K (.loop c) s Q:=by
 refine Yf (ι:=(Nat×k)×γ) (λy=>I y.1.2 y.2) (λy=>bp a y.1.1 y.1.2=some r) (λy=>y.1.1) ((n,d),p) h A ?_;rintro⟨⟨m,x⟩,g⟩ z;cases m with
 |zero=>cases z
 |succ m=>
  refine vZ (l (bp a m) x g z) λe w q=>?_;cases e with
  |normal=>obtain⟨y,o,B,D⟩:=q;exact⟨((m,y),o),B,mV m,D⟩
  |exit=>exact q
  |goto=>exact q
  |ret=>exact q
  |panic=>exact q
  |outgrown=>exact q
theorem hq{j:k->Option R}{r:R}{x y:Code}(I:k->γ->S)
  (a:cK K x s (qd (λd=> ∃z g,j z=some r/\d.le K (I z g)) Q)) (c: ∀z g,j z=some r->cK K y (I z g) Q):cK K (.seq x y) s Q:=
 Y' (ι:=k×γ) (λi=>I i.1 i.2) (λi=>j i.1=some r) (vZ a (λe l q=>by
  cases e with
  |normal=>obtain⟨z,g,a,c⟩:=q;exact⟨(z,g),a,c⟩
  |exit=>exact q
  |goto=>exact q
  |ret=>exact q
  |panic=>exact q
  |outgrown=>exact q)) λi h=>c i.1 i.2 h
theorem abm{P:Program}{G:fe}{a:List (Nat×cj)}(d:dU P a)(c:Nat)(w:World)(X:Nat->Prop):dM.Fits ⟨P,G,a,c,0,g'⟩ (Ctx.pure P G w X c):=⟨d,rfl,rfl,rfl,rfl,rfl⟩
theorem abl{P:Program}{G:fe}{a:List (Nat×cj)}(h:dU P a)(d e:Nat)(w:World)(X:Nat->Prop)(c:Map):dM.Fits ⟨P,G,a,d,e,c⟩ (Ctx.dJ P G w X e c d):=⟨h,rfl,rfl,rfl,rfl,rfl⟩
theorem M'{P:Program}(a:P.funcs[f]? =some d)(e:(d.name== "runtime.NumGoroutine")=false)(h:d.body=some c):ji P f:=⟨d,a,e,by rw[h];rfl⟩
variable {P:Program} {G:fe} {cc:List (Nat×cj)}
end
abbrev ae:Int->List T:=kb
abbrev dW:UInt8->List T:=nB
abbrev bF:Bool->List T:=aax
abbrev c7:List UInt8->List T:=abc
abbrev a6{k:Type}(r:k->List T)(l:List k):List T:=[T.aD (l.map r)]
abbrev aE{k:Type}(r:k->List T)(l:List k):V:= .t (.aD (l.map r))
abbrev aF{k:Type}(e g a:Nat)(r:k->List T)(l:List k):E:= .arr e g a (l.map r)
abbrev ms{R:Type}(k g a:Nat)(r:R->List T)(l:List R):V:= .bc k g a 0 (l.map r).length
theorem OU(r:k->List T)(l:List k):(l.map r).length=l.length:=c5 ..
theorem yw(b:UInt8):IntKind.i64.wrap (b.toNat:Int)=(b.toNat:Int):=IntWalk.i64_in _ (by have:=UInt8.toNat_lt b;omega)
theorem iu(k:Nat){r:R->List T}(h: ∀x,(r x).length=k)(l:List R):Rows k (l.map r):=Rows.map l h
theorem ca(f:k->List T)(h:au l i=some x):(l.map f)[0+i.toNat]? =some (f x):=by rw[dt,ey,(mG h).2];rfl
theorem bI(f:k->List T)(h:au l i=some x):0<=i/\i<((l.map f).length:Int):=by
 obtain⟨c,a⟩:=mG h
 have:=(bR.1 a).1;simp;omega
theorem BA(f:k->List T)(h:au l i=some x)(e:(a.map f).length=(l.map f).length):0<=i/\i<((a.map f).length:Int):=by rw[e];exact bI f h
theorem str(f:k->List T)(h:b' l i x=some r):r.map f=(l.map f).set (0+i.toNat) (f x):=by obtain⟨_,_,rfl⟩:=sL h;rw[dt,List.map_set]
theorem oa{q:Prop}(h:p)(k:q):p/\q:=⟨h,k⟩
def kf(b:Int):Option Unit:=if b=0 then none else some ()
theorem rB{b:Int}{x:Unit}(h:kf b=some x):b≠0:=by intro e;rw[kf,a1 e] at h;cases h
theorem hh(f:k->R){y:R}(h:au l i=some x)(e:f x=y):au (l.map f) i=some y:=e▸Oi f h
theorem px{a:Int}(f:k->R)(h:sub l a (l.length:Int)=some r):sub (l.map f) a ((l.map f).length:Int)=some (r.map f):=by rw[c5];exact ra f h
theorem acp{n:Int}{b:UInt8}(h:n=(b.toNat:Int)):IntKind.i64.wrap n=(b.toNat:Int):=h▸yw b
def gv(C:dM)(a:List cr)(s:S):Option (cS×List dh):=match p' C 0 a s with
 |some (e,c,[])=>some (e,c)
 |_=>none
theorem ahh{K:Ctx}{C:dM}(m:C.Fits K)(i:List cr)(k:List Nat)(c:List (Nat×V))(d:List (Nat×Option E))(l:List (Nat×Bool))
  (h:mf (gv C i s) uh (uj s k c d)=mf (gv C i s) ui (uk True c d l)):s.le K (s.cl k c d l):=by
 obtain⟨e,q,a,n,o⟩:=OO (K:=K) trivial h;unfold gv at a;split at a
 ·rename_i p;cases a;exact(qR m p n).trans o
 cases a
def iY(c:List (Nat×cj))(s:S):List ResultVar->Option (List V)
 | []=>some []
 | .tmp t::d=>match iY c s d with
  |some e=>some (s.t t::e)
  |none=>none
 | .cell a t::d=>match tA c s.H t (s.t a) [],iY c s d with
  |some (v,[],[]),some e=>some (v::e)
  |_,_=>none
def nR:List V->V
 | [v]=>v
 |vs=> .bL vs
def lq(c:Array Value)(r:ResultVar):Sem Value:=match r with
 | .tmp t=>pure (c.getD t undef)
 | .cell a t=>do loadVar t (<-asAddr (c.getD a undef))
theorem DR(d:Func)(a:Array Value):Go.results d a=(do let c<-d.results.mapM (lq a);pure (if h:c.size=1 then c[0] else .tuple c)):=rfl
theorem Zx{P:Program}{i:List (Nat×cj)}(r:dU P i){K:Ctx}{a:Act}(m:Rel K D s a w){x:Nat}{t:TypeId}(h:tA i s.H t (s.t x) []=some (v,[],[])):
  ∃u,(lq a.tmps (.cell x t)).run P w= .ok u w/\bn D w (own K D s.H) v u:=by
 have y:=LS (d:=none) (ty:=0) (pos:= "") (af:= #[]) (g:=none) (x:= .tmp x) r h trivial
 obtain⟨u,c,z⟩:=y D w (own K D s.H) a.eval (λid e A=>(m.heap id e A).2) ⟨m.cZ x,trivial⟩;refine⟨u,?_,z⟩;have bJ:=m.cZ x;have n: ∃l,a.tmps.getD x undef= .pointer (some l):=by
  generalize a.tmps.getD x undef=q at bJ;unfold tA at h;split at h
  ·cases h
  split at h
  ·rename_i o;rw[o] at bJ;cases bJ with|ref _ _ b _=>exact⟨_,rfl⟩
  ·rename_i o;rw[o] at bJ;cases bJ with|aQ _ b B f _ _ _ _=>exact⟨_,rfl⟩
  ·split at h
   ·split at h<;>cases h
   ·split at h<;>cases h
   cases h
  cases h
 obtain⟨l,k⟩:=n;have F:a.eval (.tmp x)= .pointer (some l):=k;simp only[execOp,Instr.loadAt,F,Instr.sureAddr,Sem.run_bind,Sem.run_pure,Result.andThen_ok] at c;simp only[lq,k,asAddr,Sem.run_bind,Sem.run_pure,Result.andThen_ok];cases p:(loadVar t l).run P w with
 |ok I L=>rw[p] at c;simp at c;obtain⟨rfl,rfl⟩:=c;rfl
 |_=>rw[p] at c;cases c
theorem Gz{P:Program}{e:List (Nat×cj)}(n:dU P e){K:Ctx}{D:Map}{s:S}{a:Act}{w:World}(m:Rel K D s a w): ∀{k:List ResultVar} {l:List V},iY e s k=some l->
  l.length=k.length/\ ∀(i:Nat) r v,k[i]? =some r->l[i]? =some v-> ∃u,(lq a.tmps r).run P w= .ok u w/\bn D w (own K D s.H) v u
 | [],_,h=>by cases h;exact⟨rfl,λi r v h=>by simp at h⟩
 | .tmp t::k,l,h=>by
  simp only[iY] at h;split at h
  ·rename_i o p;cases h;obtain⟨aJ,a2⟩:=Gz n m p;refine⟨by simp[aJ],λi r v c d=>?_⟩;cases i with
   |zero=>simp at c d;subst c;subst d;exact⟨_,rfl,m.cZ t⟩
   |succ i=>simp at c d;exact a2 i r v c d
  cases h
 | .cell x t::k,l,h=>by
  simp only[iY] at h;split at h
  ·rename_i y o q p;cases h;obtain⟨aJ,a2⟩:=Gz n m p;refine⟨by simp[aJ],λi r v c d=>?_⟩;cases i with
   |zero=>simp at c d;subst c;subst d;exact Zx n m q
   |succ i=>simp at c d;exact a2 i r v c d
  cases h
theorem XK{P:Program}{a:Array Value}{r:ResultVar}(h:d.results= #[r])(c:(lq a r).run P w= .ok u w):(Go.results d a).run P w= .ok u w:=by rw[DR,h];simp[c]
theorem XJ{P:Program}{a:Array Value}{r c:ResultVar}{v:Value}(h:d.results= #[r,c])(e:(lq a r).run P w= .ok u w)(i:(lq a c).run P w= .ok v w):(Go.results d a).run P w= .ok (.tuple #[u,v]) w:=by rw[DR,h];simp[e,i]
theorem XI{P:Program}{a:Array Value}{r c:ResultVar}{v:Value}(h:d.results= #[r,e,c])(i:(lq a r).run P w= .ok u w)(k:(lq a e).run P w= .ok z w)(l:(lq a c).run P w= .ok v w):
  (Go.results d a).run P w= .ok (.tuple #[u,z,v]) w:=by rw[DR,h];simp[i,k,l]
theorem XH{P:Program}{a:Array Value}{r c i:ResultVar}{v x:Value}(h:d.results= #[r,e,c,i])(k:(lq a r).run P w= .ok u w)(l:(lq a e).run P w= .ok z w)(m:(lq a c).run P w= .ok v w)(n:(lq a i).run P w= .ok x w):
  (Go.results d a).run P w= .ok (.tuple #[u,z,v,x]) w:=by rw[DR,h];simp[k,l,m,n]
theorem Ku{P:Program}{l:List (Nat×cj)}(U:dU P l){K:Ctx}{a:Act}(W:Rel K D s a w){e:List ResultVar}(q:d.results.toList=e){k:List V}(h:iY l s e=some k)(X:Nat.ble e.length 4=true):
  ∃u,(Go.results d a.tmps).run P w= .ok u w/\bn D w (own K D s.H) (nR k) u:=by
 obtain⟨Y,p⟩:=Gz U W h;have q:d.results=e.toArray:=by rw[<-q]
 match e,k,Y,p,X with
 | [],[],_,_,_=>exact⟨_,results_none q _ _ _,.bL [] #[] rfl λi c u h _=>by simp at h⟩
 | [r],[v],_,p,_=>
  obtain⟨u,aJ,a2⟩:=p 0 r v rfl rfl;exact⟨u,XK q aJ,a2⟩
 | [r,z],[v,A],_,p,_=>
  obtain⟨u,aJ,a2⟩:=p 0 r v rfl rfl;obtain⟨R,B,F⟩:=p 1 z A rfl rfl;refine⟨_,XJ q aJ B,.bL _ _ rfl λi c u m o=>?_⟩
  match i with
  |0=>simp at m o;subst m;subst o;exact a2
  |1=>simp at m o;subst m;subst o;exact F
  |n+2=>simp at m
 | [r,z,x],[v,A,y],_,p,_=>
  obtain⟨u,aJ,a2⟩:=p 0 r v rfl rfl;obtain⟨R,B,F⟩:=p 1 z A rfl rfl;obtain⟨I,L,Q⟩:=p 2 x y rfl rfl;refine⟨_,XI q aJ B L,.bL _ _ rfl λi c u m o=>?_⟩
  match i with
  |0=>simp at m o;subst m;subst o;exact a2
  |1=>simp at m o;subst m;subst o;exact F
  |2=>simp at m o;subst m;subst o;exact Q
  |n+3=>simp at m
 | [r,z,x,b],[v,A,y,f],_,p,_=>
  obtain⟨u,aJ,a2⟩:=p 0 r v rfl rfl;obtain⟨R,B,F⟩:=p 1 z A rfl rfl;obtain⟨I,L,Q⟩:=p 2 x y rfl rfl;obtain⟨t,g,j⟩:=p 3 b f rfl rfl;refine⟨_,XH q aJ B L g,.bL _ _ rfl λi c u m o=>?_⟩
  match i with
  |0=>simp at m o;subst m;subst o;exact a2
  |1=>simp at m o;subst m;subst o;exact F
  |2=>simp at m o;subst m;subst o;exact Q
  |3=>simp at m o;subst m;subst o;exact j
  |n+4=>simp at m
def O6(c:List (Nat×cj))(d:List ResultVar)(r:V):Exit->S->Prop
 | .normal,s| .ret,s=> ∃a,iY c s d=some a/\dC (nR a) r
 |_,_=>False
def O5(d:List (Nat×cj))(e:List ResultVar)(r:V)(a:List E):Exit->S->Prop
 | .normal,s| .ret,s=> ∃c,iY d s e=some c/\dC (nR c) r/\r.ok (e4 a.length)=true/\lB s.H (e4 a.length) (eW a 0)
 |_,_=>False
section
variable {P:Program} {G:fe} {cc:List (Nat×cj)}
theorem Qo{r:V}{i:Nat}{a:List ResultVar}(A:dU P cc)(B:P.funcs[f]? =some d)(F:(d.name== "runtime.NumGoroutine")=false)(q:d.body=some c)(H:d.results.toList=a)(s:d.ntmps=i)
  (m:Nat.ble args.length i=true) (I:r.ok gx=true) (x:Nat.ble a.length 4=true)
  (h: ∀w X,dM.Fits ⟨P,G,cc,i,0,g'⟩ (Ctx.pure P G w X i)->cK (Ctx.pure P G w X i) c (start args) (O6 cc a r)):kW P G f args r:=by
 subst s;refine⟨M' B F q,?_⟩;intro w X L Q R D;have o:L.length<=d.ntmps:=by rw[D.length];exact ea m
 refine calls_of_wp B q (h w X (abm A _ w X) g' _ w _ (Rel.start Q R D o) ?_);intro e U W Y w' n k;have p:(∃y,iY cc U a=some y/\dC (nR y) r)->bodyPost P d (λe w'=> ∃u,e= .returned u/\Ext (λ_=>False) w w'/\bn g' w' X r u) .ret Y w':=by
  rintro⟨y,z,m⟩;obtain⟨u,g,bJ⟩:=Ku A k H z x;have bJ:=m _ _ _ _ bJ;refine⟨k.defers,u,g,u,rfl,?_,?_⟩
  ·exact k.ext.weaken λb _ ⟨id,h,_⟩=>by simp[Ctx.pure] at h
  exact bJ.under (u:=gx) (λb q=> .inl q) (λ_ h=>by simp[gx] at h) I
 cases e with
 |normal=>exact p n
 |ret=>exact p n
 |exit id=>exact n.elim
 |goto l=>exact n.elim
 |panic c=>exact n.elim
 |outgrown=>exact n.elim
def tI(a:Map):List E->Nat->Prop
 | [],_=>True
 | .arr _ g _ _::c,k=>(∃q,a k=some (q,g))/\tI a c (k+1)
 | .a8 _ _ g _ _::c,k=>(∃q,a k=some (q,g))/\tI a c (k+1)
 | .cells _::c,k=>True/\tI a c (k+1)
theorem LM{D:Map}: ∀(a:List E) (k:Nat),(∀(i:Nat) e g,a[i]? =some e->e.gen=some g-> ∃q,D (k+i)=some (q,g))->tI D a k
 | [],_,_=>trivial
 |e::a,k,h=>by
  have b7:=LM a (k+1) (λi e g c d=>by
   have:=h (i+1) e g (by simpa using c) d
   rwa [show k+(i+1)=k+1+i by omega] at this)
  cases e with
  |cells=>exact⟨trivial,b7⟩
  |arr _ g _ _=>exact⟨h 0 _ g rfl rfl,b7⟩
  |a8 _ _ g _ _=>exact⟨h 0 _ g rfl rfl,b7⟩
theorem afT{o:Func}{a out:List E}{r:V}{x y:Nat}{L:List ResultVar}(kC:dU P cc)(ij:P.funcs[f]? =some o)(cJ:(o.name== "runtime.NumGoroutine")=false)(a':o.body=some c)(b7:o.results.toList=L)(Q:o.ntmps=x)(R:a.length=y)
  (z:Nat.ble args.length x=true) (A:Nat.ble y out.length=true) (U:Nat.ble L.length 4=true)
  (h: ∀w X d,dM.Fits ⟨P,G,cc,x,y,d⟩ (Ctx.dJ P G w X y d x)->tI d a 0->cK (Ctx.dJ P G w X y d x) c (l2 a args) (O5 cc L r out)):jc P G f a args r out:=by
 subst Q;subst R;refine⟨M' ij cJ a',?_⟩;intro w X d us k5 hr aH fU;have B:us.length<=o.ntmps:=by rw[fU.length];exact ea z
 refine calls_of_wp ij a' (h w X d (abl kC _ _ w X d) (LM a 0 (λk e g W bM=>by
  rw[dt];exact(oT (aH.heap k _ W) bM).2)) d _ w _ (Rel.l2 k5 hr aH fU B) ?_)
 intro e Y D tz w' q m;have F:(∃j,iY cc Y L=some j/\dC (nR j) r/\r.ok (e4 out.length)=true/\lB Y.H (e4 out.length) (eW out 0))->
   bodyPost P o (λe w'=> ∃u,∃i:Unit,∃β,e= .returned u/\True/\Left d β a out w w' X r u) .ret tz w':=by
  rintro⟨j,v,M,N,hH⟩;obtain⟨u,hu,bJ⟩:=Ku kC m b7 v U;have bJ:=M _ _ _ _ bJ;have hm:a.length<=out.length:=ea A;let p:S:={t:=pD,H:=eW out 0,u:=e4 out.length}
  have I:mH a.length p.u=true:=by
   have: ∀n,n<=a.length->mH n p.u=true:=by
    intro n;induction n with
    |zero=>intro _;rfl
    |succ n my=>intro cJ;simp[mH,my O,show p.u n=true from jd.2 O]
   exact this _ (cQ _)
  have bP:=m.cut (s':=p) (oW.nil _ _) hH I;have eu:=Eh (K:=Ctx.dJ P G w X a.length d o.ntmps) (β:=D) (s:=Y) (s':=p) hH;refine⟨m.defers,u,hu,u,(),cut D p.u,rfl,trivial,?_⟩;refine⟨m.ext.weaken λb _ ⟨id,_,h⟩=>⟨id,h⟩,bP.base,bP.iW,?_,?_,bP.inj,bP.fresh,?_,bJ.under eu (λ_ h=>w4 h) N⟩
  ·intro k W;apply bP.dL;cases T:p.u k with
   |false=>rfl
   |true=>have:=jd.1 T;omega
  ·intro k b W;apply bP.ed;cases T:p.u k with
   |false=>rfl
   |true=>have:=jd.1 T;omega
  intro k e he;exact(bP.heap k e (by rw[<-yy] at he;exact he)).2
 cases e with
 |normal=>exact F q
 |ret=>exact F q
 |exit id=>exact q.elim
 |goto l=>exact q.elim
 |panic c=>exact q.elim
 |outgrown=>exact q.elim
def xf(r:V):Option (List V)->Option V
 |some a=>some (lD r (nR a))
 |none=>none
theorem O0{a:List ResultVar}{r:V}(h:xf r (iY cc s a)=some r): ∃c,iY cc s a=some c/\dC (nR c) r:=by
 cases d:iY cc s a with
 |none=>rw[d] at h;cases h
 |some c=>rw[d] at h;simp only[xf,Option.some.injEq] at h;exact⟨c,rfl,abR h⟩
theorem abQ{c:List ResultVar}{r:V}{a:List E}(h:(xf r (iY cc s c),tB s a 0,r.ok (e4 a.length)&&tZ (e4 a.length) a)=(some r,tv a,true)):
  ∃d,iY cc s c=some d/\dC (nR d) r/\r.ok (e4 a.length)=true/\lB s.H (e4 a.length) (eW a 0):=by
 simp only[Prod.mk.injEq,Bool.and_eq_true] at h;obtain⟨l,m,n,o⟩:=h;obtain⟨d,aJ,a2⟩:=O0 l;refine⟨d,aJ,a2,n,λk e i=>?_⟩;rw[yy] at i
 have:=L5 m k e i;rw[dt] at this;exact⟨this,jd.2 (bR.1 i).1,MT o k e i⟩
end
theorem r0(f:k->List T)(ph:k)(h:app l [y]=some r):app (List.map f l) [f ph]=some (List.map f (l++[ph])):=by obtain⟨a,_⟩:=vW h;unfold app;rw[a1 (by simpa using a),f'];rfl
theorem mj(f:k->List T)(l:List k)(ph:k):(List.map f (l++[ph]))[(List.map f l).length+0]? =some (f ph):=by rw[f',oL,gF (cQ _),jS];rfl
theorem uc(f:k->List T)(l:List k){r:List T}(e:r=f y):(List.map f (l++[ph])).set ((List.map f l).length+0) r=List.map f (l++[y]):=by subst e;rw[f',f',oL,mR _ _ (cQ _),jS];rfl
theorem rG(f:k->List T){x:List k}{r:List T}(h:app l [y]=some x)(e:r=f y):(List.map f (l++[ph])).set ((List.map f l).length+0) r=List.map f x:=by obtain⟨_,rfl⟩:=vW h;exact uc f l e
theorem rU(f:k->List T){x:List k}(a:k)(h:app l [y]=some x):(List.map f (l++[a])).length=(List.map f x).length:=by obtain⟨_,rfl⟩:=vW h;simp
theorem afj(f:k->List T)(h:l.isEmpty=false):List.map f l≠[]:=by
 cases l with
 |nil=>cases h
 |cons=>simp
theorem fJ(f:k->List T)(h:b' l i y=some r)(e:q=f y):(List.map f l).set (0+i.toNat) q=List.map f r:=by subst e;exact(str f h).symm
theorem hS(f:k->List T)(h:au l i=some x)(e:q=f x):(List.map f l).set (0+i.toNat) q=List.map f l:=by subst e;have a:=ca f h;obtain⟨d,c⟩:=bR.1 a;rw[<-c,List.set_getElem_self]
theorem cF(f:k->List T)(h:b' l i x=some r):(l.map f).length=(r.map f).length:=by obtain⟨_,_,rfl⟩:=sL h;simp
theorem jN{r:R}(h:(none:Option R)=some r):p:=by cases h
def j8{k:Type}(a b:List k):Option Unit:=if b.length=a.length then some () else none
theorem jm{b:List k}{u:Unit}(f:k->List T)(h:j8 a b=some u):(a.map f).length=(b.map f).length:=by
 unfold j8 at h;split at h
 ·simp;omega
 cases h
def Dm{k:Type}(f:k->List T):Option k->V
 |none=> .t .hA
 |some x=> .aQ (f x)
theorem abM(f:k->List T)(o:Option k)(b:Bool):(V.bL [Dm f o,aL b]).ok gx=true:=by cases o<;>rfl
theorem yN{P:Program}{G:fe}[Inhabited R]{r:R->List T}(h:o.isSome=true)(k:kW P G f args (V.bL [Dm r o,v])):kW P G f args (V.bL [V.aQ (r (o.getD default)),v]):=by
 cases o with
 |none=>cases h
 |some x=>exact k
theorem yM{P:Program}{G:fe}{r:R->List T}(h:o.isSome=false)(k:kW P G f args (V.bL [Dm r o,v])):kW P G f args (V.bL [V.t .hA,v]):=by
 cases o with
 |none=>exact k
 |some x=>cases h
theorem aby(f:k->List T)(l:List k):(l.map f).length=((l.take l.length).map f).length:=by rw[c6]
theorem Ml(f:k->List T)(l:List k)(a:0<=i)(c:i<(l.length:Int)):
  0<=i/\i<=((l.map f).length:Int)/\((l.map f).length:Int)<=((l.map f).length:Int)/\(i=0\/i<((l.map f).length:Int))/\i.toNat=0+i.toNat/\l.length-i.toNat=((l.map f).length:Int).toNat-i.toNat:=by rw[c5];omega
theorem O1(f:R->List T)(l:List R)(k:Nat):(l.take k).map f=(l.map f).take k:=tf
section
set_option linter.unusedVariables false
def eO{k:Type}(l:List k)(i j:Int):Nat:=i.toNat+(l.length-j.toNat)
def nh{k:Type}(l:List k)(i j:Int):List k:=l.take i.toNat++l.drop j.toNat++l.drop (eO l i j)
def j1{k:Type}(l:List k)(i j:Int)(z:k):List k:=l.take i.toNat++l.drop j.toNat++List.replicate (l.length-eO l i j) z
theorem Mw(l:List k)(a:0<=i)(c:i<=j)(d:j<=(l.length:Int)):(nh l i j).length=l.length:=by unfold nh eO;simp only[List.length_append,List.length_take,List.length_drop];omega
theorem acs(f:k->List T)(l:List k)(a:0<=i)(c:i<=j)(d:j<=(l.length:Int)):0<=i/\i<=j/\j<=(l.length:Int)/\(l.length:Int)<=((l.map f).length:Int):=by rw[c5];omega
theorem Pj(f:k->List T)(l:List k)(a:0<=i)(c:i<=j)(d:j<=(l.length:Int)):
  (0:Int)<=0/\(0:Int)<=i/\i<=((l.map f).length:Int)/\((0:Int)=0\/(0:Int)<((l.map f).length:Int))/\0=0+(0:Int).toNat/\i.toNat=i.toNat-(0:Int).toNat:=
 ⟨gH _,a,by rw[c5];omega,.inl rfl,rfl,rfl⟩
theorem acr(f:k->List T)(l:List k)(a:0<=i)(c:i<=j)(d:j<=(l.length:Int))(e: ¬j<(l.length:Int)):0<=j/\j=((l.map f).length:Int)/\((l.map f).length:Int)<=((l.map f).length:Int):=by rw[c5];omega
theorem abV(f:k->List T)(l:List k)(a:0<=i)(c:i<=j)(d:j<=(l.length:Int)):i.toNat+(l.length-j.toNat)<=(l.map f).length:=by rw[c5];omega
theorem abU(f:k->List T)(l:List k)(a:0<=i)(c:i<=j)(d:j<=(l.length:Int)):j.toNat+(l.length-j.toNat)<=(l.map f).length:=by rw[c5];omega
theorem abT(f:k->List T)(l:List k)(i j:Int):(nh l i j).map f=(l.map f).take i.toNat++((l.map f).drop j.toNat).take (l.length-j.toNat)++(l.map f).drop (i.toNat+(l.length-j.toNat)):=by unfold nh eO;rw[f',f',tf,List.map_drop,List.map_drop,hU (l:=(l.map f).drop j.toNat) (by rw[fs,c5];omega)]
theorem Pk(f:R->List T)(l r:List R){k:Nat}(d:0<k)(e:0<=i)(h:i<j)(n:j<=(l.length:Int))(a:r.length=l.length){m:Nat}(c:m=eO l i j):
  0<k/\(0:Int)<=(m:Int)/\(m:Int)<(l.length:Int)/\((0:Nat):Int)+(l.length:Int)<=((r.map f).length:Int)/\m=0+(m:Int).toNat/\l.length-m=(l.length:Int).toNat-(m:Int).toNat:=by rw[c5,a,c];unfold eO;omega
theorem acq(f:k->List T)(l:List k)(z:k)(c:0<=i)(h:i<j)(d:j<=(l.length:Int)):
  eO l i j+(l.length-eO l i j)<=((nh l i j).map f).length/\(j1 l i j z).map f=((nh l i j).map f).take (eO l i j)++List.replicate (l.length-eO l i j) (f z)++((nh l i j).map f).drop (eO l i j+(l.length-eO l i j)):=by
 have cE:=Mw l c (O:i<=j) d;have a:(l.take i.toNat++l.drop j.toNat).length=eO l i j:=by
  unfold eO;simp only[List.length_append,List.length_take,List.length_drop];omega
 have e:eO l i j<=l.length:=by unfold eO;omega
 refine⟨by rw[c5,cE];omega,?_⟩;rw[kR (as:=(nh l i j).map f) (by rw[c5,cE];omega),kS,<-tf];unfold j1 nh;rw[f',List.map_replicate,mQ (by rw[a];exact cQ _),hU (l:=l.take i.toNat++l.drop j.toNat) (by rw[a];exact cQ _)]
theorem abS(f:k->List T)(l:List k)(z:k)(c:0<=i)(d:i<j)(e:j<=(l.length:Int))(h: ¬j<(l.length:Int)):
  i.toNat+(l.length-i.toNat)<=(l.map f).length/\(j1 l i j z).map f=(l.map f).take i.toNat++List.replicate (l.length-i.toNat) (f z)++(l.map f).drop (i.toNat+(l.length-i.toNat)):=by
 refine⟨by rw[c5];omega,?_⟩;have a:eO l i j=i.toNat:=by unfold eO;omega
 unfold j1;rw[a,kR (as:=l) (i:=j.toNat) O,kS,kR (as:=l.map f) (by rw[c5];omega),kS,f',tf,List.map_replicate]
theorem Pl(f:k->List T)(l:List k)(z:k)(a:0<=i)(c:i<j)(d:j<=(l.length:Int)):eO l i j=(((j1 l i j z).take (eO l i j)).map f).length:=by unfold j1 eO;simp only[List.length_map,List.length_take,List.length_append,List.length_replicate,List.length_drop];omega
theorem Pm(l:List k)(a:j<=(l.length:Int))(c: ¬j<(l.length:Int)):i.toNat=eO l i j:=by unfold eO;omega
end
theorem vI(h:b' l i x=some r)(y:k):b' l i y=some (l.set i.toNat y):=by obtain⟨a,c,_⟩:=sL h;unfold b';rw[a1 ⟨a,c⟩]
theorem tH(h:b' l i x=some r)(y:k):au (l.set i.toNat y) i=some y:=by obtain⟨a,c,_⟩:=sL h;unfold au;rw[a1 a,gj O]
theorem vH(h:b' l i x=some r)(y:k):b' (l.set i.toNat y) i x=some r:=by obtain⟨a,c,rfl⟩:=sL h;unfold b';rw[a1 ⟨a,by rw[eS];exact c⟩,q']
theorem Bz{u:Unit}(f:k->List T)(c:j8 a l=some u)(h:au l i=some x):0<=i/\i<((a.map f).length:Int):=by have:=bI f h;rw[jm f c];exact this
theorem OY{u:Unit}(f:k->List T)(c:j8 a l=some u):(a.map f).length=l.length:=(jm f c).trans (OU f l)
theorem A2(h:b' l i x=some r):au r i=some x:=by obtain⟨a,c,rfl⟩:=sL h;unfold au;rw[a1 a,gj O]
end Go.Lift
