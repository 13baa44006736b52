/- Tools. -/
import Derived.Test.YtcihigfifglboabGreatHLiftV
namespace Go.Lift
open Go
section
def cQ.cat(a b:cQ):cQ:=⟨a.eF++b.eF,a.hs++b.hs,a.us++b.us⟩
def cQ.nil:cQ:=⟨[],[],[]⟩
theorem Ml{k:Type}: ∀(a b:List (Nat×k)) (f:Nat->k),dh f (a++b)=dh (dh f a) b
 | [],_,_=>rfl
 |(d,v)::a,b,f=>by simp only[List.cons_append,dh];exact Ml a b _
theorem nf(a b:cQ)(s:S):(a.cat b).app s=b.app (a.app s):=by unfold cQ.app cQ.cat;simp only[Ml]
theorem f9{k:Type}: ∀(l:List (Nat×k)) (f:Nat->k) (r:Nat),((∀v,(r,v)∉l)/\dh f l r=f r)\/ ∃v,(r,v)∈l/\dh f l r=v
 | [],_,_=> .inl ⟨λ_ h=>(List.not_mem_nil h).elim,rfl⟩
 |(d,v)::l,f,r=>by
  rcases f9 l (aU f d v) r with ⟨c,a⟩|⟨e,c,a⟩
  ·by_cases i:r=d
   ·subst i;exact .inr ⟨v,eU,by rw[dh,a,bW]⟩
   refine .inl ⟨λe h=>?_,by rw[dh,a,bX _ _ _ _ i]⟩;rcases dP.1 h with h|h
   ·cases h;exact i rfl
   exact c e h
  exact .inr ⟨e,ey _ c,by rw[dh,a]⟩
mutual
def lr:V->V->V
 | .t (.aE _),v=>np v
 | .agg cs,.agg a=> .agg (p8 cs a)
 | .bL cs,.bL a=> .bL (p8 cs a)
 | .c4,_=> .c4
 |_,v=>v
def p8:List V->List V->List V
 |c::cs,v::a=>lr c v::p8 cs a
 |_,a=>a
end
mutual
theorem FH: ∀c v:V,dB v (lr c v)
 | .t (.aE _),v=>by simp only[lr];exact tx v
 | .agg cs,.agg a=>by simp only[lr];exact dB.agg (AK cs a)
 | .bL cs,.bL a=>by simp only[lr];exact dB.bL (AK cs a)
 | .c4,v=>by simp only[lr];exact dB.c4 v
 | .t (.bool _),v| .t (.int _ _),v| .t (.str _),v| .t .fl,v| .t .hi,v| .t .gu,v| .t .nn,v| .t .err,v=>by simp only[lr];exact dB.refl v
 | .ref _ _,v| .aP _,v| .bc _ _ _ _ _,v| .cB _ _ _ _ _,v| .fn _ _,v=>by simp only[lr];exact dB.refl v
 | .agg _,.t _| .agg _,.bL _| .agg _,.ref _ _| .agg _,.aP _| .agg _,.bc _ _ _ _ _| .agg _,.cB _ _ _ _ _| .agg _,.fn _ _| .agg _,.c4=>by simp only[lr];exact dB.refl _
 | .bL _,.t _| .bL _,.agg _| .bL _,.ref _ _| .bL _,.aP _| .bL _,.bc _ _ _ _ _| .bL _,.cB _ _ _ _ _| .bL _,.fn _ _| .bL _,.c4=>by simp only[lr];exact dB.refl _
theorem AK: ∀cs a:List V,fp a (p8 cs a)
 |c::cs,v::a=>by simp only[p8];exact⟨FH c v,AK cs a⟩
 | [],a=>by simp only[p8];exact fp.refl a
 |_::_,[]=>by simp only[p8];exact trivial
end
def Bs:Option E->Option E->Option E
 |some (.cells cs),some (.cells a)=>some (.cells (p8 cs a))
 |some _,e=>e
 |none,_=>none
variable {c:List (List T)}{e:TypeId}{x:E}{β D:Map}{w:World}{r l:List Nat}{m k i n gen b L g:Nat}{q:Option Nat}{X Y:Nat->Prop}{u:Value}{o:Oper}
theorem NR{c e:Option E}(h:Bs c e=some x): ∃a,e=some a/\jm a x:=by
 unfold Bs at h;split at h
 ·cases h;exact⟨_,rfl,AK _ _⟩
 ·exact⟨x,h,jm.refl x⟩
 cases h
def tI(s:S):List (Nat×V)->List V
 | []=>[]
 |(i,v)::l=>lr v (s.t i)::tI s l
def tL(s:S):List (Nat×Option E)->List (Option E)
 | []=>[]
 |(k,e)::l=>Bs e (s.H k)::tL s l
def kh{k:Type}:List (Nat×k)->List k
 | []=>[]
 |(_,v)::l=>v::kh l
theorem Fc{s:S}: ∀{l:List (Nat×V)},tI s l=kh l-> ∀i v,(i,v)∈l->dB (s.t i) v
 |(a,c)::l,h,i,v,hm=>by
  simp only[tI,kh,List.cons.injEq] at h;rcases dP.1 hm with hm|hm
  ·cases hm;exact h.1▸FH _ _
  exact Fc h.2 i v hm
theorem Fq{s:S}: ∀{l:List (Nat×Option E)},tL s l=kh l-> ∀k e,(k,some e)∈l-> ∃a,s.H k=some a/\jm a e
 |(j2,a)::l,h,k,e,hm=>by
  simp only[tL,kh,List.cons.injEq] at h;rcases dP.1 hm with hm|hm
  ·cases hm;exact NR h.1
  exact Fq h.2 k e hm
def tk{k:Type}(a:List Nat):List (Nat×k)->Bool
 | []=>true
 |(i,_)::l=>ho i a&&tk a l
theorem ER{k:Type}{r:List Nat}: ∀{l:List (Nat×k)},tk r l=true-> ∀i v,(i,v)∈l->i∈r
 |(a,c)::l,h,i,v,hm=>by
  simp only[tk,Bool.and_eq_true] at h;rcases dP.1 hm with hm|hm
  ·cases hm;exact zR h.1
  exact ER h.2 i v hm
def w4{k:Type}:List (Nat×k)->List Nat
 | []=>[]
 |(i,_)::l=>i::w4 l
theorem Mv{k:Type}{i:Nat}: ∀{l:List (Nat×k)},i∈w4 l-> ∃v,(i,v)∈l
 |(d,a)::l,h=>by
  simp only[w4,List.mem_cons] at h;rcases h with rfl|h
  ·exact⟨a,eU⟩
  obtain⟨v,c⟩:=Mv h;exact⟨v,ey _ c⟩
def Bf(a:List Nat)(t:Nat->V):Nat->V:=λi=>bif ho i a then .c4 else t i
def S.cl(s:S)(a:List Nat)(c:List (Nat×V))(d:List (Nat×Option E))(e:List (Nat×Bool)):S:={t:=dh (Bf a s.t) c,H:=dh s.H d,u:=dh s.u e}
theorem Rel.I8{K:Ctx}{s c:S}{a:Act}(l:Rel K β s a w)(n:c.u=s.u)(x: ∀k e,c.H k=some e-> ∃m,s.H k=some m/\jm m e)(y: ∀i,dB (s.t i) (c.t i)):Rel K β c a w:=by
 have d: ∀b,own K β c.H b->own K β s.H b:=by
  rintro b (h|⟨id,p,q⟩)
  ·exact .inl h
  cases o:c.H id with
  |none=>exact bB o p
  |some e=>
   obtain⟨m,r,_⟩:=x id e o;exact .inr ⟨id,by rw[r];simp,q⟩
 refine {l with low:= ?_,dK:= ?_,ec:= ?_,heap:= ?_,cZ:= ?_}
 ·intro id h;rw[n];exact l.low id h
 ·intro id h;rw[n] at h;exact l.dK id h
 ·intro id b h;rw[n] at h;exact l.ec id b h
 ·intro id e o;obtain⟨m,p,q⟩:=x id e o;obtain⟨r,z⟩:=l.heap id m p;refine⟨by rw[n];exact r,?_⟩;exact(q.vc z).mono (Ext.refl _ _) (λb _=>d b) (du.refl _) (λ_ h=>h) (Shaped.refl _ _) λ_ _=>rfl
 intro i;exact(y i _ _ _ _ (l.cZ i)).mono (Ext.refl _ _) (λb _=>d b) (du.refl _) (Shaped.refl _ _)
theorem abi{K:Ctx}{s:S}{e:cQ}{d:List (Nat×V)}{c:List (Nat×Option E)}{m:List (Nat×Bool)}(A:e.us=m)(B:tk r e.eF=true)(D:tk (w4 c) e.hs=true)
  (F:tI (e.app s) d=kh d) (G:tL (e.app s) c=kh c):(e.app s).le K (s.cl r d c m):=by
 intro I a w L;refine⟨I,L.I8 ?_ ?_ ?_⟩
 ·show dh s.u m=dh s.u e.us;rw[A]
 ·intro k x o;have o:dh s.H c k=some x:=o;rcases f9 c s.H k with ⟨p,n⟩|⟨v,p,n⟩
  ·rw[n] at o;refine⟨x,?_,jm.refl x⟩;show dh s.H e.hs k=some x;rw[mm _ _ _ λv q=>?_]
   ·exact o
   obtain⟨Q,y⟩:=Mv (ER D k v q);exact p Q y
  rw[n] at o;subst o;exact Fq G k x p
 intro i;show dB _ (dh (Bf r s.t) d i);rcases f9 d (Bf r s.t) i with ⟨p,n⟩|⟨v,p,n⟩
 ·rw[n];unfold Bf;cases z:ho i r with
  |true=>exact dB.c4 _
  |false=>
   show dB (dh s.t e.eF i) (s.t i);rw[mm _ _ _ (λv q=>by
    have hm:=ER B i v q
    have: ∀{l:List Nat},i∈l->ho i l=true:=by
     intro l;induction l with
     |nil=>intro h;cases h
     |cons x l R=>
      intro h;simp only[ho];rcases dP.1 h with rfl|h
      ·simp
      cases Nat.beq x i with
      |true=>rfl
      |false=>exact R h
    rw[this hm] at z;cases z)]
   exact dB.refl _
 rw[n];exact Fc F i v p
theorem Mk{k:Type}(f:Nat->k)(i:Nat):aU f i (f i)=f:=by
 funext j;by_cases a:j=i
 ·subst a;rw[bW]
 rw[bX _ _ _ _ a]
def Map.move(a:Map)(k c gen:Nat)(q:Option Nat):Map:=
 ⟨λi=>bif Nat.beq i c then some (q,1) else bif Nat.beq i k then some (none,gen+1) else a i,λi b=>(i=c/\a.n k b)\/(i≠c/\i≠k/\a.n i b)⟩
theorem Gv(h:i≠k):Nat.beq i k=false:=by
 cases a:Nat.beq i k with
 |false=>rfl
 |true=>exact bB (cM a) h
theorem Fz(c:Map)(k a gen:Nat)(q:Option Nat):c.move k a gen q a=some (q,1):=by simp[Map.move]
theorem Fy(c:Map)(k a gen:Nat)(q:Option Nat)(h:k≠a):c.move k a gen q k=some (none,gen+1):=by simp[Map.move,Gv h]
theorem El(a:Map)(k c gen:Nat)(q:Option Nat)(id:Nat)(h:id≠k)(d:id≠c):a.move k c gen q id=a id:=by simp[Map.move,Gv h,Gv d]
theorem NW(c:Map)(k d gen:Nat)(q:Option Nat)(a b:Nat)(h:a≠k)(e:a≠d):(c.move k d gen q).n a b↔c.n a b:=by simp[Map.move,h,e]
theorem NB(d:k≠n)(e:D k=some (q,gen))(h:At (D.move k n gen q) i b):(i=n/\At D k b)\/(i≠k/\i≠n/\At D i b):=by
 rcases h with ⟨g,h⟩|⟨rfl,h⟩|⟨a,c,h⟩
 ·by_cases a:i=n
  ·subst a;rw[Fz] at h;cases h;exact .inl ⟨rfl,.inl ⟨gen,e⟩⟩
  by_cases c:i=k
  ·subst c;rw[Fy _ _ _ _ _ d] at h;cases h
  rw[El _ _ _ _ _ _ c a] at h;exact .inr ⟨c,a,.inl ⟨g,h⟩⟩
 ·exact .inl ⟨rfl,.inr h⟩
 exact .inr ⟨c,a,.inr h⟩
theorem V3{K:Ctx}{s:S}(i k b1 gen d B D:Nat){p:List (List T)}(M:Nat.ble K.da k=true)(R:k≠b1)(aI:s.t i= .bc k gen d B D)(U:s.H k=some (.arr e gen d p))(N:s.u b1=false):
  s.le K {t:=aU s.t i (.bc b1 1 d B D),H:=aU (aU s.H k none) b1 (some (.arr e 1 d p)),u:=aU s.u b1 true}:=by
 intro L a w h;have mj:=d' M;obtain⟨q,W⟩:=je (h.heap k _ U).2;have P:=(h.heap k _ U).2.1;have V:=(h.heap k _ U).1;have cv:=h.dK b1 N;have ac8:K.da<=b1:=by
  apply Nat.le_of_not_lt;intro hlt;rw[h.low b1 hlt] at N;cases N
 let m:=L.move k b1 gen q;have f:m b1=some (q,1):=Fz _ _ _ _ _;have cu:m k=some (none,gen+1):=Fy _ _ _ _ _ R;have E: ∀id,id≠k->id≠b1->m id=L id:=λid l y=>El _ _ _ _ _ _ l y;have r: ∀id b,At m id b->(id=b1/\At L k b)\/(id≠k/\id≠b1/\At L id b):=by
  intro id b G;exact NB R W G
 have X:du L m:=by
  intro id q2 g F;by_cases y:id=k
  ·subst y;rw[W] at F;cases F;exact .inr ⟨P,none,gen+1,cu,mL _⟩
  have l:id≠b1:=by intro e;subst e;rw[cv] at F;cases F
  exact .inl (by rw[E id y l];exact F)
 have A: ∀b,own K m (aU (aU s.H k none) b1 (some (.arr e 1 d p))) b->own K L s.H b:=by
  rintro b (F|⟨id,l,y⟩)
  ·exact .inl F
  rcases r id b y with ⟨rfl,z⟩|⟨z,Y,Q⟩
  ·exact .inr ⟨k,by rw[U];simp,z⟩
  rw[bX _ _ _ _ Y,bX _ _ _ _ z] at l;exact .inr ⟨id,l,Q⟩
 refine⟨m,{h with base:= ?_,low:= ?_,dK:= ?_,ec:= ?_,inj:= ?_,fresh:= ?_,heap:= ?_,cZ:= ?_}⟩
 ·exact h.base.keep λid hid=>E id O O
 ·intro id hid;show aU s.u b1 true id=true;rw[bX _ _ _ _ O];exact h.low id hid
 ·intro id hid;have c:aU s.u b1 true id=false:=hid;by_cases l:id=b1
  ·subst l;rw[bW] at c;cases c
  rw[bX _ _ _ _ l] at c;rw[E id (by intro e;subst e;rw[V] at c;cases c) l];exact h.dK id c
 ·intro id b hid G;have c:aU s.u b1 true id=false:=hid;rcases G with ⟨l,_⟩|⟨l,_,G⟩
  ·subst l;rw[bW] at c;cases c
  rw[bX _ _ _ _ l] at c;exact h.ec id b c G
 ·intro id j0 b l y;rcases r id b l with ⟨rfl,z⟩|⟨z,Y,Q⟩<;>rcases r j0 b y with ⟨e2,h6⟩|⟨h6,lF,kU⟩
  ·exact e2.symm
  ·exact bB (h.inj _ _ b kU z) h6
  ·subst e2;exact bB (h.inj _ _ b Q h6) z
  exact h.inj _ _ b Q kU
 ·intro id b G;rcases r id b G with ⟨rfl,z⟩|⟨z,Y,Q⟩
  ·refine⟨?_,(h.fresh _ _ z).2⟩;exact(h.fresh _ _ z).1
  exact h.fresh id b Q
 ·intro id e' o;have o:aU (aU s.H k none) b1 (some (.arr e 1 d p)) id=some e':=o;show aU s.u b1 true id=true/\cG m w (own K m (aU (aU s.H k none) b1 (some (.arr e 1 d p)))) id e';by_cases l:id=b1
  ·subst l;rw[bW] at o;cases o;refine⟨bW _ _ _,cO _,?_⟩;rcases(h.heap k _ U).2.2 with ⟨aK,a2⟩|⟨b,us,aK,a2,a3,a4,a5⟩
   ·rw[W] at aK;cases aK;exact .inl ⟨f,a2⟩
   rw[W] at aK;cases aK;exact .inr ⟨b,us,f,a2,a3,a4,λi j row x u c1 c2 eW=>(a5 i j row x u c1 c2 eW).mono (Ext.refl _ _) λb _=>A b⟩
  rw[bX _ _ _ _ l] at o⊢;by_cases y:id=k
  ·subst y;rw[bW] at o;cases o
  rw[bX _ _ _ _ y] at o;obtain⟨z,Y⟩:=h.heap id e' o;exact⟨z,Y.mono (Ext.refl _ _) (λb _=>A b) X (λx F=>by rw[E id y l];exact F) (Shaped.refl _ _) (λ_ _=>rfl) λb=>NW _ _ _ _ _ _ _ y l⟩
 intro j;show bn m w _ (aU s.t i (.bc b1 1 d B D) j) _;by_cases hj:j=i
 ·subst hj;rw[bW];have l:=h.cZ j;rw[aI] at l;generalize a.tmps.getD j undef=v at l;rcases fa l W with ⟨cap,b,n,hn,rfl,I,hw,hs,o3,cD,hm⟩|⟨I,rfl,rfl,rfl⟩
  ·subst I;exact .bc b1 1 d B D cap b n hn (cO _) f hw hs o3 cD hm
  subst I;exact .hh b1 1 d (cO _) f
 rw[bX _ _ _ _ hj];exact(h.cZ j).mono (Ext.refl _ _) (λb _=>A b) X (Shaped.refl _ _)
theorem cG.set{a:List V}{j:Nat}{c x:V}(h:cG β w X b (.cells a))(k:a[j]? =some c)(o: ∀u,bn β w X c u->bn β w X x u):cG β w X b (.cells (a.set j x)):=by
 obtain⟨p,q,ty,r,s,y,l⟩:=h;refine⟨p,q,ty,r,s,by simpa using y,λi v u d m=>?_⟩;by_cases n:i=j
 ·subst n;have e:=(bS.1 k).1;rw[hr e] at d;cases d;exact o u (l i c u k m)
 rw[jj (kL n)] at d;exact l i v u d m
theorem Un{K:Ctx}{s:S}(b k i j gen p:Nat){n:List (List T)}{L:List dQ}{Q:Nat}{l:List (List T)}{R:List (Nat×Nat×V)}(U:Nat.ble K.da k=true)(W:b≠k)
  (a':s.H b=some (.a8 L m Q l ((i,j,.bc k gen p 0 n.length)::R))) (hk:s.H k=some (.arr e gen p n)):
  s.le K {t:=s.t,H:=aU (aU s.H k none) b (some (.a8 L m Q l ((i,j,.t (.aE n))::R))),u:=s.u}:=by
 intro y a w h;have mj:=d' U;generalize fu:(some (.a8 L m Q l ((i,j,.t (.aE n))::R)):Option E)=N;have af2:N≠none:=by subst fu;simp
 have d: ∀o,own K y (aU (aU s.H k none) b N) o->own K y s.H o:=by
  rintro o (X|⟨id,q,G⟩)
  ·exact .inl X
  by_cases z:id=b
  ·subst z;exact .inr ⟨id,by rw[a'];simp,G⟩
  rw[bX _ _ _ _ z] at q;by_cases r:id=k
  ·subst r;rw[bW] at q;exact bB rfl q
  rw[bX _ _ _ _ r] at q;exact .inr ⟨id,q,G⟩
 have A: ∀o,At y k o-> ¬own K y (aU (aU s.H k none) b N) o:=by
  rintro o D (X|⟨id,q,G⟩)
  ·obtain⟨gb,ik⟩:=h.iu o X;rcases(h.fresh k o D).1 with Y|iD
   ·exact ik Y
   omega
  have:=h.inj _ _ _ G D;subst this;rw[bX _ _ _ _ (kL W),bW] at q;exact q rfl
 have f:=(h.heap k _ hk).2;refine⟨y,{h with heap:= ?_,cZ:= ?_}⟩
 ·intro id e' c;have c:aU (aU s.H k none) b N id=some e':=c;by_cases z:id=b
  ·subst z;rw[bW] at c;subst c;cases fu;obtain⟨r,I⟩:=h.heap id _ a';refine⟨r,I.1,?_⟩;rcases I.2 with ⟨aK,a2,a3⟩|⟨o,us,B,aK,a2,a3,a4,a5,hX,ix,ff⟩
   ·exact .inl ⟨aK,a2,a3⟩
   refine .inr ⟨o,us,B,aK,a2,a3,a4,λiE cW g x u cU cu eQ=>?_,hX,ix,ff⟩;have M:=a5 iE cW g x u cU cu eQ;refine⟨λv bI=>?_,λF=>?_⟩
   ·rcases dP.1 bI with e|bI
    ·simp only[Prod.mk.injEq] at e;obtain⟨rfl,rfl,rfl⟩:=e;obtain⟨P,d2⟩:=M.1 _ eU;exact⟨.t _ _ (f.read P d A),d2⟩
    obtain⟨P,d2⟩:=M.1 v (ey _ bI);exact⟨P.mono (Ext.refl _ _) (λb _=>d b) (du.refl _) (Shaped.refl _ _),d2⟩
   have hne: ¬(iE=i/\cW=j):=by rintro⟨rfl,rfl⟩;exact F _ eU
   refine(M.2 λv bI=>?_).mono (Ext.refl _ _) (λb _=>d b) λ_ _=>rfl;rcases dP.1 bI with e|bI
   ·simp only[Prod.mk.injEq] at e;exact hne ⟨e.1,e.2.1⟩
   exact F v (ey _ bI)
  rw[bX _ _ _ _ z] at c;by_cases r:id=k
  ·subst r;rw[bW] at c;cases c
  rw[bX _ _ _ _ r] at c;obtain⟨I,h6⟩:=h.heap id e' c;exact⟨I,h6.mono (Ext.refl _ _) (λb _=>d b) (du.refl _) (λ_ h=>h) (Shaped.refl _ _) λ_ _=>rfl⟩
 intro i;exact(h.cZ i).mono (Ext.refl _ _) (λb _=>d b) (du.refl _) (Shaped.refl _ _)
theorem Up{K:Ctx}{s:S}(b j k gen n:Nat){r:List V}(F:Nat.ble K.da k=true)(G:s.H b=some (.cells r))(W:r[j]? =some (.bc k gen n 0 c.length))(I:s.H k=some (.arr e gen n c)):
  s.le K {t:=s.t,H:=aU (aU s.H k none) b (some (.cells (r.set j (.t (.aE c))))),u:=s.u}:=by
 intro x a w h;have g:=d' F;have L:b≠k:=by intro e;subst e;rw[G] at I;cases I
 have l: ∀m,own K x (aU (aU s.H k none) b (some (.cells (r.set j (.t (.aE c)))))) m->own K x s.H m:=by
  rintro m (Q|⟨id,o,B⟩)
  ·exact .inl Q
  by_cases y:id=b
  ·subst y;exact .inr ⟨id,by rw[G];simp,B⟩
  rw[bX _ _ _ _ y] at o;by_cases p:id=k
  ·subst p;rw[bW] at o;exact bB rfl o
  rw[bX _ _ _ _ p] at o;exact .inr ⟨id,o,B⟩
 have z: ∀m,At x k m-> ¬own K x (aU (aU s.H k none) b (some (.cells (r.set j (.t (.aE c)))))) m:=by
  rintro m A (Q|⟨id,o,B⟩)
  ·obtain⟨gb,E⟩:=h.iu m Q;rcases(h.fresh k m A).1 with q|M
   ·exact E q
   omega
  have:=h.inj _ _ _ B A;subst this;rw[bX _ _ _ _ (kL L),bW] at o;exact o rfl
 have R:=(h.heap k _ I).2;refine⟨x,{h with heap:= ?_,cZ:= ?_}⟩
 ·intro id e' d;have d:aU (aU s.H k none) b (some (.cells (r.set j (.t (.aE c))))) id=some e':=d;by_cases y:id=b
  ·subst y;rw[bW] at d;cases d;obtain⟨p,U⟩:=h.heap id _ G;refine⟨p,?_⟩;obtain⟨m,N,ty,P,g2,g3,X⟩:=U;refine⟨m,N,ty,P,g2,by simpa using g3,λi v u D Y=>?_⟩;by_cases f:i=j
   ·subst f;have q:=(bS.1 W).1;rw[hr q] at D;cases D;exact .t _ _ (R.read (X i _ u W Y) l z)
   rw[jj (kL f)] at D;exact(X i v u D Y).mono (Ext.refl _ _) (λb _=>l b) (du.refl _) (Shaped.refl _ _)
  rw[bX _ _ _ _ y] at d;by_cases p:id=k
  ·subst p;rw[bW] at d;cases d
  rw[bX _ _ _ _ p] at d;obtain⟨U,h6⟩:=h.heap id e' d;exact⟨U,h6.mono (Ext.refl _ _) (λb _=>l b) (du.refl _) (λ_ h=>h) (Shaped.refl _ _) λ_ _=>rfl⟩
 intro i;exact(h.cZ i).mono (Ext.refl _ _) (λb _=>l b) (du.refl _) (Shaped.refl _ _)
theorem W8{K:Ctx}{s:S}{c:Nat}(b j k:Nat)(e:TypeId){A:List V}(F:s.u k=false)(U:s.H b=some (.cells A))(f:A[j]? =some (.t .fl)):
  s.le K {t:=s.t,H:=aU (aU s.H k (some (.arr e 1 c []))) b (some (.cells (A.set j (.bc k 1 c 0 0)))),u:=aU s.u k true}:=by
 intro p a w h;have cv:=h.dK k F;have W:b≠k:=by intro e;subst e;have:=(h.heap b _ U).1;rw[this] at F;cases F
 have q: ∀id x,p id=some x->p.put k (some (none,1)) id=some x:=λid x l=>by
  rw[eo _ _ _ _ (by intro e;subst e;rw[cv] at l;cases l)];exact l
 have G:=du.of q;have o: ∀id n,At (p.put k (some (none,1))) id n->id≠k/\At p id n:=λid n l=>by
  by_cases r:id=k
  ·subst r;rcases l with ⟨g,l⟩|l
   ·rw[iY] at l;cases l
   exact bB l (h.ec _ _ F)
  refine⟨r,?_⟩;rcases l with ⟨g,l⟩|l
  ·rw[eo _ _ _ _ r] at l;exact .inl ⟨g,l⟩
  exact .inr l
 have y: ∀n,own K (p.put k (some (none,1))) (aU (aU s.H k (some (.arr e 1 c []))) b (some (.cells (A.set j (.bc k 1 c 0 0))))) n->own K p s.H n:=by
  rintro n (l|⟨id,z,B⟩)
  ·exact .inl l
  obtain⟨X,I⟩:=o id n B;by_cases R:id=b
  ·subst R;exact .inr ⟨id,by rw[U];simp,I⟩
  rw[bX _ _ _ _ R,bX _ _ _ _ X] at z;exact .inr ⟨id,z,I⟩
 have L: ∀v u,bn p w (own K p s.H) v u->bn (p.put k (some (none,1))) w (own K (p.put k (some (none,1))) (aU (aU s.H k (some (.arr e 1 c []))) b (some (.cells (A.set j (.bc k 1 c 0 0)))))) v u:=
  λv u D=>D.mono (Ext.refl _ _) (λb _=>y b) G (Shaped.refl _ _)
 refine⟨p.put k (some (none,1)),{h with base:= ?_,low:= ?_,dK:= ?_,ec:= ?_,inj:= ?_,fresh:= ?_,heap:= ?_,cZ:=λi=>L _ _ (h.cZ i)}⟩
 ·refine h.base.keep λid hid=>?_
  have:=h.low id hid;rw[eo _ _ _ _ (by intro e;subst e;rw[F] at this;cases this)]
 ·intro id hid;show aU s.u k true id=true;by_cases e:id=k
  ·subst e;exact bW _ _ _
  rw[bX _ _ _ _ e];exact h.low id hid
 ·intro id hid;have d:aU s.u k true id=false:=hid;by_cases e:id=k
  ·subst e;rw[bW] at d;cases d
  rw[bX _ _ _ _ e] at d;rw[eo _ _ _ _ e];exact h.dK id d
 ·intro id b hid;have d:aU s.u k true id=false:=hid;by_cases e:id=k
  ·subst e;rw[bW] at d;cases d
  rw[bX _ _ _ _ e] at d;exact h.ec id b d
 ·intro id Q n z B;exact h.inj id Q n (o id n z).2 (o Q n B).2
 ·intro id n l;exact h.fresh id n (o id n l).2
 intro id e' m;have m:aU (aU s.H k (some (.arr e 1 c []))) b (some (.cells (A.set j (.bc k 1 c 0 0)))) id=some e':=m;show aU s.u k true id=true/\cG _ _ (own K _ (aU (aU s.H k (some (.arr e 1 c []))) b (some (.cells (A.set j (.bc k 1 c 0 0)))))) id e';by_cases I:id=b
 ·subst I;rw[bW] at m;cases m;rw[bX _ _ _ _ W];obtain⟨R,n,N,ty,P,T,g3,E⟩:=h.heap id _ U;refine⟨R,n,N,ty,q _ _ P,T,by simpa using g3,λi v u D M=>?_⟩;by_cases r:i=j
  ·subst r;have Y:=(bS.1 f).1;rw[hr Y] at D;cases D;have z:=E i _ u f M;cases z with
   |t _ _ B=>cases B;exact .hh k 1 c (cO _) (bW _ _ _)
  rw[jj (kL r)] at D;exact L _ _ (E i v u D M)
 rw[bX _ _ _ _ I] at m;by_cases r:id=k
 ·subst r;rw[bW] at m;cases m;exact⟨bW _ _ _,cO _,Or.inl ⟨bW _ _ _,rfl⟩⟩
 rw[bX _ _ _ _ r] at m;obtain⟨z,B⟩:=h.heap id e' m;exact⟨by rw[bX _ _ _ _ r];exact z,B.mono (Ext.refl _ _) (λb _=>y b) G (q id) (Shaped.refl _ _) λ_ _=>rfl⟩
def lO(k:Nat):Nat->Bool:=λid=>bif Nat.beq id k then false else true
def rR(k:Nat)(v:V):V:=bif v.ok (lO k) then v else .c4
def F8(k:Nat):E->Option E
 | .cells cs=>bif gr (lO k) cs then some (.cells cs) else none
 | .a8 d m gen a c=>bif t' (lO k) c then some (.a8 d m gen a c) else none
 |e=>some e
theorem A4(h:i≠k):lO k i=true:=by
 have:Nat.beq i k=false:=by cases a:Nat.beq i k with
  |false=>rfl
  |true=>exact bB (cM a) h
 simp[lO,this]
theorem wR(h:lO k i=true):i≠k:=by intro e;subst e;simp[lO] at h
def E.mD(n:Nat):E->E
 | .arr e _ z r=> .arr e n z r
 | .a8 a m _ r c=> .a8 a m n r c
 |e=>e
abbrev E.CH:E->E:=E.mD 1
def E.o4:E->List (Nat×Nat×V)
 | .a8 _ _ _ _ a=>a
 |_=>[]
theorem cG.mD{β':Map}{e:E}(h:cG β w X k e)(d:1<=n)(z:e.gen=some g)(s:β k=some (q,g))(y:β' L=some (q,n))(G: ∀b,β'.n L b↔β.n k b)(H: ∀b,Y b->X b)
  (Q: ∀i j v,(i,j,v)∈e.o4-> ∀u,bn β w X v u->bn β' w Y v u):cG β' w Y L (e.mD n):=by
 cases e with
 |cells=>cases z
 |arr ty R I l=>
  cases z;refine⟨d,?_⟩;rcases h.2 with ⟨aK,a2⟩|⟨b,A,aK,a2,a3,a4,a5⟩
  ·rw[s] at aK;cases aK;exact .inl ⟨y,a2⟩
  rw[s] at aK;cases aK;exact .inr ⟨b,A,y,a2,a3,a4,λi j a x u o p r=>(a5 i j a x u o p r).mono (Ext.refl _ _) λb _=>H b⟩
 |a8 W m R l f=>
  cases z;refine⟨d,?_⟩;rcases h.2 with ⟨aK,a2,a0⟩|⟨b,A,B,aK,a2,a3,a4,a5,hX,ix,ff⟩
  ·rw[s] at aK;cases aK;exact .inl ⟨y,a2,λc U=>a0 c ((G c).1 U)⟩
  rw[s] at aK;cases aK;exact .inr ⟨b,A,B,y,a2,a3,a4,λi j a x u o p r=>⟨λv D=>⟨Q i j v D _ ((a5 i j a x u o p r).1 v D).1,((a5 i j a x u o p r).1 v D).2⟩,λF=>((a5 i j a x u o p r).2 F).mono (Ext.refl _ _) (λc _=>H c) λ_ _=>rfl⟩,hX,ix,λc=>(G c).trans (ff c)⟩
theorem Rel.Qk{K:Ctx}{s s':S}{a:Act}(h:Rel K β s a w)(k g gen:Nat){e:E}{F:Option Nat}(B:s.H k=some e)(U:e.gen=some gen)(G:e.o4=[])(I:k<K.da)(L:K.gM k=some (F,g))
  (n:s'.u=s.u) (Q:s'.H k=some (e.mD (g+1))) (q:Option Nat) (D:β k=some (q,gen))
  (W: ∀id x,id≠k->s'.H id=some x->s.H id≠none/\ ∀X,(∀b,X b->own K β s.H b)->cG (β.put k (some (q,g+1))) w X id x)
  (N: ∀i,∀X,(∀b,X b->own K β s.H b)->bn (β.put k (some (q,g+1))) w X (s'.t i) (a.tmps.getD i undef)):Rel K (β.put k (some (q,g+1))) s' a w:=by
 have R:1<=gen:=(oL (h.heap k _ B).2 U).1;have o:=(h.heap k _ B).1;have p:1<=g/\ ∀b,q=some b->F=some b\/K.w0.heap.size<=b:=by
  rcases h.base k I with Y|⟨T,V,q2,g2,aK,a2,a3,a4,a5⟩
  ·rw[D,L] at Y;cases Y;exact⟨R,λb a'=> .inl a'⟩
  rw[L] at aK;cases aK;rw[D] at a3;cases a3;exact⟨a2,a5⟩
 have c: ∀id b,At (β.put k (some (q,g+1))) id b->At β id b:=λid b a'=>by
  rcases a' with ⟨P,a'⟩|a'
  ·by_cases d:id=k
   ·subst d;rw[iY] at a';cases a';exact .inl ⟨gen,D⟩
   rw[eo _ _ _ _ d] at a';exact .inl ⟨P,a'⟩
  exact .inr a'
 have l: ∀b,own K (β.put k (some (q,g+1))) s'.H b->own K β s.H b:=by
  rintro b (m|⟨id,r,z⟩)
  ·exact .inl m
  refine .inr ⟨id,?_,c id b z⟩;by_cases d:id=k
  ·subst d;rw[B];simp
  cases m:s'.H id with
  |none=>exact bB m r
  |some x=>exact(W id x d m).1
 refine {h with base:= ?_,low:= ?_,dK:= ?_,ec:=λid b hid=>h.ec id b (n▸hid),inj:= ?_,fresh:=λid b a'=>h.fresh id b (c id b a'),heap:= ?_,cZ:=λi=>N i _ l}
 ·intro id hid;by_cases d:id=k
  ·subst d;exact .inr ⟨F,g,q,g+1,L,p.1,bW _ _ _,mL _,p.2⟩
  rw[eo _ _ _ _ d];exact h.base id hid
 ·intro id hid;rw[n];exact h.low id hid
 ·intro id hid;rw[n] at hid;rw[eo _ _ _ _ (by intro e;subst e;rw[o] at hid;cases hid)];exact h.dK id hid
 ·intro id A b r z;exact h.inj id A b (c id b r) (c A b z)
 intro id x m;by_cases d:id=k
 ·subst d;rw[Q] at m;cases m;exact⟨by rw[n];exact o,(h.heap id _ B).2.mD O U D (bW _ _ _) (λ_=>Iff.rfl) l λi j v f=>by rw[G] at f;cases f⟩
 obtain⟨r,z⟩:=W id x d m;refine⟨?_,z _ l⟩;rw[n];cases M:s.H id with
 |none=>exact bB M r
 |some y=>exact(h.heap id y M).1
theorem L0(l:D k=some (q,gen))(h:bn D w X (.bc k gen i L m) u):bn (D.put k (some (q,g+1))) w Y (.bc k (g+1) i L m) u:=by
 rcases fa h l with ⟨c,b,n,d,rfl,a,o,p,e,r,s⟩|⟨a,rfl,rfl,rfl⟩
 ·subst a;exact .bc k (g+1) i L m c b n d O (bW _ _ _) o p e r s
 subst a;exact .hh k (g+1) i O (bW _ _ _)
theorem MA{v:V}(h:bn D w X v u)(a: ∀b,Y b->X b):bn (D.put k (some (q,g+1))) w Y (rR k v) u:=by
 unfold rR;cases c:v.ok (lO k) with
 |false=>exact .c4 _
 |true=>exact h.under a (λid hid=>eo _ _ _ _ (wR hid)) c
theorem LN{y:E}(h:cG D w X i x)(e: ∀b,Y b->X b)(l:i≠k)(a:F8 k x=some y):cG (D.put k (some (q,g+1))) w Y i y:=by
 unfold F8 at a;split at a
 ·rename_i cs;cases c:gr (lO k) cs with
  |false=>rw[c] at a;cases a
  |true=>rw[c] at a;cases a;exact h.under e (λi hid=>eo _ _ _ _ (wR hid)) (A4 l) c
 ·rename_i n;cases c:t' (lO k) n with
  |false=>rw[c] at a;cases a
  |true=>rw[c] at a;cases a;exact h.under e (λi hid=>eo _ _ _ _ (wR hid)) (A4 l) c
 cases a;refine h.under e (u:=lO k) (λi hid=>eo _ _ _ _ (wR hid)) (A4 l) ?_;cases x with
 |cells cs=>rename_i o _;exact bB rfl (o cs)
 |arr=>rfl
 |a8 p m gen d n=>rename_i _ o;exact bB rfl (o p m gen d n)
def p5(k:Nat)(H:Nat->Option E):Nat->Option E:=λid=>match H id with
 |some e=>F8 k e
 |none=>none
theorem D'{K:Ctx}{s:S}(i k g gen c d l:Nat){e:E}(G:Nat.blt k K.da=true)(I:s.t i= .bc k gen c d l)(A:s.H k=some e)(B:e.gen=some gen)(o:e.o4=[])(p: ∃q,K.gM k=some (q,g)):
  s.le K {t:=aU (λj=>rR k (s.t j)) i (.bc k (g+1) c d l),H:=aU (p5 k s.H) k (some (e.mD (g+1))),u:=s.u}:=by
 intro L a w h;obtain⟨Q,p⟩:=p;obtain⟨_,q,D⟩:=oL (h.heap k _ A).2 B;refine⟨_,h.Qk (s':={t:=aU (λj=>rR k (s.t j)) i (.bc k (g+1) c d l),H:=aU (p5 k s.H) k (some (e.mD (g+1))),u:=s.u}) k g gen A B o (by simpa[Nat.blt_eq] using G) p rfl (bW _ _ _) q D ?_ ?_⟩
 ·intro id x n m;have m:aU (p5 k s.H) k (some (e.mD (g+1))) id=some x:=m;rw[bX _ _ _ _ n] at m;unfold p5 at m;cases r:s.H id with
  |none=>rw[r] at m;cases m
  |some y=>
   rw[r] at m;exact⟨aW,λX z=>LN (h.heap id y r).2 z n m⟩
 intro j X z;show bn _ w X (aU (λj=>rR k (s.t j)) i (.bc k (g+1) c d l) j) _;by_cases F:j=i
 ·subst F;rw[bW];exact L0 D (I▸h.cZ j)
 rw[bX _ _ _ _ F];exact MA (h.cZ j) z
theorem nd{K:Ctx}{s:S}(b j k g gen c l m:Nat){e:E}{cs:List V}(cH:Nat.blt k K.da=true)(B:s.H b=some (.cells cs))(D:cs[j]? =some (.bc k gen c l m))(F:gr (lO k) (cs.set j .c4)=true)
  (z:s.H k=some e) (G:e.gen=some gen) (I:e.o4=[]) (L: ∃q,K.gM k=some (q,g)):
  s.le K {t:=λj=>rR k (s.t j),H:=aU (aU (p5 k s.H) k (some (e.mD (g+1)))) b (some (.cells (cs.set j (.bc k (g+1) c l m)))),u:=s.u}:=by
 intro Q a w h;obtain⟨oo,L⟩:=L;obtain⟨_,q,Y⟩:=oL (h.heap k _ z).2 G;have n:b≠k:=by intro e';subst e';rw[B] at z;cases z;cases G
 refine⟨_,h.Qk (s':={t:=λj=>rR k (s.t j),H:=aU (aU (p5 k s.H) k (some (e.mD (g+1)))) b (some (.cells (cs.set j (.bc k (g+1) c l m)))),u:=s.u}) k g gen z G I (by simpa[Nat.blt_eq] using cH) L rfl (by show aU _ b _ k=_;rw[bX _ _ _ _ (kL n),bW]) q Y ?_ ?_⟩
 ·intro id x o d;have d:aU (aU (p5 k s.H) k (some (e.mD (g+1)))) b (some (.cells (cs.set j (.bc k (g+1) c l m)))) id=some x:=d;by_cases p:id=b
  ·subst p;rw[bW] at d;cases d;refine⟨by rw[B];simp,λX r=>?_⟩;have f:=(h.heap id _ B).2;have h6:cG Q w (own K Q s.H) id (.cells (cs.set j .c4)):=f.set D λu _=> .c4 u;have lF:=h6.under (u:=lO k) (β':=Q.put k (some (q,g+1))) r (λid hid=>eo _ _ _ _ (wR hid)) (A4 n) F;obtain⟨gf,us,ty,M,N,g3,g4⟩:=lF;obtain⟨cu,q4,afz,P,T,f3,f4⟩:=f;rw[eo _ _ _ _ n,P] at M;cases M;rw[T] at N;cases N;refine⟨_,_,_,by rw[eo _ _ _ _ n];exact P,T,by simpa using f3,λi v u A hu=>?_⟩;by_cases R:i=j
   ·subst R;have U:=(bS.1 D).1;rw[hr U] at A;cases A;exact L0 Y (f4 i _ u D hu)
   rw[jj (kL R)] at A;exact g4 i v u (by rw[jj (kL R)];exact A) hu
  rw[bX _ _ _ _ p,bX _ _ _ _ o] at d;unfold p5 at d;cases W:s.H id with
  |none=>rw[W] at d;cases d
  |some y=>
   rw[W] at d;exact⟨aW,λX r=>LN (h.heap id y W).2 r o d⟩
 intro j X r;exact MA (h.cZ j) r
inductive mQ (p:V->V->Prop):V->V->Prop
 |same (v:V):mQ p v v
 |put {v dw:V} (h:p v dw):mQ p v dw
 |agg {cs G1:List V} (cD:G1.length=cs.length) (h: ∀(i:Nat) c O4,cs[i]? =some c->G1[i]? =some O4->mQ p c O4):mQ p (.agg cs) (.agg G1)
theorem Gx{p:V->V->Prop}{S:Map}{a:World}(e: ∀v u,bn S w X v u->bn D a Y v u)(k: ∀v x u,p v x->bn S w X v u->bn D a Y x u){v x:V}(h:mQ p v x): ∀u,bn S w X v u->bn D a Y x u:=by
 induction h with
 |same v=>exact e v
 |put h=>exact λu=>k _ _ u h
 |agg l h m=>
  intro u d;cases d with
  |agg _ n o q=>
   refine .agg _ n O λi r u c d=>?_;have aI:=(bS.1 c).1;have bP:=bs (show i<_ by rw[<-l];exact aI);exact m i _ r bP c u (q i _ u bP d)
def vU(p:V->V->Prop)(e d:E):Prop:=d=e\/ ∃cs a,e= .cells cs/\d= .cells a/\a.length=cs.length/\ ∀(i:Nat) c h,cs[i]? =some c->a[i]? =some h->mQ p c h
theorem vU.vc{p:V->V->Prop}{S:Map}(c: ∀x,S n=some x->D n=some x)(l: ∀e,cG S w X n e->cG D w Y n e)(m: ∀v u,bn S w X v u->bn D w Y v u)(o: ∀v d u,p v d->bn S w X v u->bn D w Y d u){e e':E}(h:vU p e e')(k:cG S w X n e):cG D w Y n e':=by
 rcases h with rfl|⟨cs,q,rfl,rfl,r,h⟩
 ·exact l _ k
 obtain⟨b,s,ty,y,z,G,A⟩:=k;refine⟨b,s,ty,c _ y,z,O,λi B u a F=>?_⟩;have aI:=(bS.1 a).1;have bP:=bs (show i<_ by rw[<-r];exact aI);exact Gx m o (h i _ B bP a) u (A i _ u bP F)
theorem Uo{K:Ctx}{s:S}(W:Nat->V)(o:Nat->Option E)(k gen d:Nat)(D:Nat.ble K.da k=true)(g:s.H k=some (.arr e gen d c))
  (j: ∀i,mQ (λv p=>v= .bc k gen d 0 c.length/\p= .t (.aE c)) (s.t i) (W i)) (F:o k=none)
  (X: ∀id q,o id=some q-> ∃r,s.H id=some r/\vU (λv p=>v= .bc k gen d 0 c.length/\p= .t (.aE c)) r q):s.le K {t:=W,H:=o,u:=s.u}:=by
 intro l a w h;have M:=d' D;have m: ∀n,own K l o n->own K l s.H n:=by
  rintro n (G|⟨id,x,y⟩)
  ·exact .inl G
  cases B:o id with
  |none=>exact bB B x
  |some q=>obtain⟨r,I,_⟩:=X id q B;exact .inr ⟨id,by rw[I];simp,y⟩
 have z: ∀n,At l k n-> ¬own K l o n:=by
  rintro n A (G|⟨id,x,y⟩)
  ·obtain⟨gb,N⟩:=h.iu n G;rcases(h.fresh k n A).1 with L|P
   ·exact N L
   omega
  have:=h.inj _ _ _ y A;subst this;exact x F
 have Q:=(h.heap k _ g).2;have Y: ∀v u,bn l w (own K l s.H) v u->bn l w (own K l o) v u:=λv u R=>R.mono (Ext.refl _ _) (λb _=>m b) (du.refl _) (Shaped.refl _ _);have f: ∀v p u,(v= .bc k gen d 0 c.length/\p= .t (.aE c))->bn l w (own K l s.H) v u->bn l w (own K l o) p u:=by
  rintro v p u ⟨rfl,rfl⟩ R;exact .t _ _ (Q.read R m z)
 refine⟨l,{h with heap:= ?_,cZ:= ?_}⟩
 ·intro id q U;obtain⟨r,x,y⟩:=X id q U;obtain⟨I,h4⟩:=h.heap id r x;exact⟨I,y.vc (λ_ h=>h) (λe B=>B.mono (Ext.refl _ _) (λb _=>m b) (du.refl _) (λ_ h=>h) (Shaped.refl _ _) λ_ _=>rfl) Y f h4⟩
 intro i;exact Gx Y f (j i) _ (h.cZ i)
theorem Vw{K:Ctx}{s:S}(lS:Nat->V)(A:Nat->Option E)(k b1 gen l R:Nat){D:E}(xv:Nat.ble K.da k=true)(U:k≠b1)(N:s.H k=some D)(bN:D.gen=some gen)(hu:s.u b1=false)
  (e4: ∀i,mQ (λv G=>v= .bc k gen l 0 R/\G= .bc b1 1 l 0 R) (s.t i) (lS i)) (acA:A k=none) (W:A b1=some D.CH)
  (hH: ∀id e',id≠b1->A id=some e'-> ∃D,s.H id=some D/\vU (λv G=>v= .bc k gen l 0 R/\G= .bc b1 1 l 0 R) D e'):
  s.le K {t:=lS,H:=A,u:=aU s.u b1 true}:=by
 intro B a w h;have mj:=d' xv;obtain⟨iC,q,P⟩:=oL (h.heap k _ N).2 bN;have Hv:=(h.heap k _ N).1;have cv:=h.dK b1 hu;have ac8:K.da<=b1:=by
  apply Nat.le_of_not_lt;intro hlt;rw[h.low b1 hlt] at hu;cases hu
 let d:=B.move k b1 gen q;have cU:d b1=some (q,1):=Fz _ _ _ _ _;have cu:d k=some (none,gen+1):=Fy _ _ _ _ _ U;have X: ∀id,id≠k->id≠b1->d id=B id:=λid m o=>El _ _ _ _ _ _ m o;have p: ∀id b,At d id b->(id=b1/\At B k b)\/(id≠k/\id≠b1/\At B id b):=by
  intro id b I;exact NB U P I
 have Y:du B d:=by
  intro id q2 g r;by_cases o:id=k
  ·subst o;rw[P] at r;cases r;exact .inr ⟨iC,none,gen+1,cu,mL _⟩
  have m:id≠b1:=by intro e;subst e;rw[cv] at r;cases r
  exact .inl (by rw[X id o m];exact r)
 have z: ∀b,own K d A b->own K B s.H b:=by
  rintro b (r|⟨id,m,o⟩)
  ·exact .inl r
  rcases p id b o with ⟨rfl,y⟩|⟨y,f,F⟩
  ·exact .inr ⟨k,by rw[N];simp,y⟩
  cases T:A id with
  |none=>exact bB T m
  |some e'=>obtain⟨D,L,_⟩:=hH id e' f T;exact .inr ⟨id,by rw[L];simp,F⟩
 have hm: ∀v u,bn B w (own K B s.H) v u->bn d w (own K d A) v u:=λv u bI=>bI.mono (Ext.refl _ _) (λb _=>z b) Y (Shaped.refl _ _);have hp: ∀v G u,(v= .bc k gen l 0 R/\G= .bc b1 1 l 0 R)->bn B w (own K B s.H) v u->bn d w (own K d A) G u:=by
  rintro v G u ⟨rfl,rfl⟩ bI;rcases fa bI P with ⟨cap,b,n,hn,rfl,Q,hw,hs,o3,cD,BN⟩|⟨Q,m,o,rfl⟩
  ·subst Q;exact .bc b1 1 l 0 _ cap b n hn (cO _) cU hw hs o3 cD BN
  subst Q;rw[o];exact .hh b1 1 l (cO _) cU
 refine⟨d,{h with base:= ?_,low:= ?_,dK:= ?_,ec:= ?_,inj:= ?_,fresh:= ?_,heap:= ?_,cZ:= ?_}⟩
 ·exact h.base.keep λid hid=>X id O O
 ·intro id hid;show aU s.u b1 true id=true;rw[bX _ _ _ _ O];exact h.low id hid
 ·intro id hid;have c:aU s.u b1 true id=false:=hid;by_cases m:id=b1
  ·subst m;rw[bW] at c;cases c
  rw[bX _ _ _ _ m] at c;rw[X id (by intro e;subst e;rw[Hv] at c;cases c) m];exact h.dK id c
 ·intro id b hid I;have c:aU s.u b1 true id=false:=hid;rcases I with ⟨m,_⟩|⟨m,_,I⟩
  ·subst m;rw[bW] at c;cases c
  rw[bX _ _ _ _ m] at c;exact h.ec id b c I
 ·intro id j0 b m o;rcases p id b m with ⟨rfl,y⟩|⟨y,f,F⟩<;>rcases p j0 b o with ⟨e2,L⟩|⟨L,lF,kU⟩
  ·exact e2.symm
  ·exact bB (h.inj _ _ b kU y) L
  ·subst e2;exact bB (h.inj _ _ b F L) y
  exact h.inj _ _ b F kU
 ·intro id b I;rcases p id b I with ⟨rfl,y⟩|⟨y,f,F⟩
  ·refine⟨?_,(h.fresh _ _ y).2⟩;exact(h.fresh _ _ y).1
  exact h.fresh id b F
 ·intro id e' r;have M:A id=some e':=r;clear r;show aU s.u b1 true id=true/\cG d w (own K d A) id e';by_cases m:id=b1
  ·subst m;rw[W] at M;cases M;exact⟨bW _ _ _,(h.heap k _ N).2.mD (cO _) bN P cU (λb=>by simp[d,Map.move]) z λ_ _ v _ u=>hm v u⟩
  have o:id≠k:=by intro e;subst e;rw[acA] at M;cases M
  obtain⟨D,F,L⟩:=hH id e' m M;obtain⟨y,f⟩:=h.heap id D F;rw[bX _ _ _ _ m];refine⟨y,L.vc (λx r=>by rw[X id o m];exact r) (λe T=>T.mono (Ext.refl _ _) (λb _=>z b) Y (λx r=>by rw[X id o m];exact r) (Shaped.refl _ _) (λ_ _=>rfl) λb=>NW _ _ _ _ _ _ _ o m) hm hp f⟩
 intro j;exact Gx hm hp (e4 j) _ (h.cZ j)
mutual
def pq(k g z n:Nat)(c:V):V->V×List df
 | .bc h gen a d e=>match Nat.beq h k&&Nat.beq d 0 with
  |true=>(c,[.q gen g,.q a z,.q e n])
  |false=>(.bc h gen a d e,[])
 | .agg cs=>(.agg (mA k g z n c cs).1,(mA k g z n c cs).2)
 |v=>(v,[])
def mA(k g z n:Nat)(a:V):List V->List V×List df
 | []=>([],[])
 |c::cs=>((pq k g z n a c).1::(mA k g z n a cs).1,(pq k g z n a c).2++(mA k g z n a cs).2)
end
theorem Eh(k g z n:Nat)(a:V): ∀cs,(mA k g z n a cs).1.length=cs.length
 | []=>rfl
 |c::cs=>by simp[mA,Eh k g z n a cs]
mutual
theorem N0(k g z n:Nat)(c:V): ∀v,ch (pq k g z n c v).2->mQ (λa b=>a= .bc k g z 0 n/\b=c) v (pq k g z n c v).1
 | .bc l gen i e m,h=>by
  unfold pq at h⊢;cases d:Nat.beq l k&&Nat.beq e 0 with
  |false=>exact .same _
  |true=>
   simp only[d] at h⊢;simp only[Bool.and_eq_true] at d;obtain⟨rfl,rfl,rfl,_⟩:=h;have o:=cM d.1;have p:=cM d.2;subst o;subst p;exact .put ⟨rfl,rfl⟩
 | .agg cs,h=>by
  simp only[pq] at h⊢;exact .agg (Eh _ _ _ _ _ _) (Gl k g z n c cs h)
 | .t _,_| .bL _,_| .ref _ _,_| .aP _,_| .cB _ _ _ _ _,_| .fn _ _,_| .c4,_=>by simp only[pq];exact .same _
theorem Gl(k g z n:Nat)(d:V): ∀cs,ch (mA k g z n d cs).2-> ∀(i:Nat) c l,cs[i]? =some c->(mA k g z n d cs).1[i]? =some l->mQ (λa b=>a= .bc k g z 0 n/\b=d) c l
 | [],_,i,c,l,h,_=>by simp at h
 |o::cs,m,0,c,l,h,e=>by
  simp only[mA] at m e;simp at h e;subst h;subst e;exact N0 k g z n d o (ch.app m).1
 |o::cs,m,i+1,c,l,h,e=>by simp only[mA] at m e;simp at h e;exact Gl k g z n d cs (ch.app m).2 i c l h e
end
def ib(k g z n:Nat)(a:V)(s:S):List Nat->List (Nat×V)×List df
 | []=>([],[])
 |i::is=>((i,(pq k g z n a (s.t i)).1)::(ib k g z n a s is).1,(pq k g z n a (s.t i)).2++(ib k g z n a s is).2)
def gv(k g z n:Nat)(a:V)(s:S):List Nat->List (Nat×Option E)×List df
 | []=>([],[])
 |b::c=>match s.H b with
  |some (.cells cs)=>((b,some (.cells (mA k g z n a cs).1))::(gv k g z n a s c).1,(mA k g z n a cs).2++(gv k g z n a s c).2)
  |_=>gv k g z n a s c
theorem Gk{k g z n:Nat}{x:V}{s:S}: ∀{is:List Nat},ch (ib k g z n x s is).2-> ∀i v,(i,v)∈(ib k g z n x s is).1->mQ (λa b=>a= .bc k g z 0 n/\b=x) (s.t i) v
 |i0::is,c,i,v,h=>by
  simp only[ib] at c h;rcases dP.1 h with h|h
  ·cases h;exact N0 _ _ _ _ _ _ (ch.app c).1
  exact Gk (ch.app c).2 i v h
theorem A1{k g z n:Nat}{x:V}{s:S}: ∀{i:List Nat},ch (gv k g z n x s i).2-> ∀b e,(b,e)∈(gv k g z n x s i).1-> ∃m o,s.H b=some m/\e=some o/\vU (λa b=>a= .bc k g z 0 n/\b=x) m o
 |p::i,c,b,e,h=>by
  unfold gv at c h;split at h
  ·rename_i cs d;simp only[d] at c;rcases dP.1 h with h|h
   ·cases h;exact⟨_,_,d,rfl,.inr ⟨cs,_,rfl,rfl,Eh _ _ _ _ _ _,Gl _ _ _ _ _ _ (ch.app c).1⟩⟩
   exact A1 (ch.app c).2 b e h
  rename_i d;split at c
  ·rename_i cs l;exact bB l (d cs)
  exact A1 c b e h
theorem ND{k:Nat}: ∀{l:List Nat},k∈l->ho k l=true
 |x::l,h=>by
  simp only[ho];rcases dP.1 h with rfl|h
  ·simp
  cases Nat.beq x k with
  |true=>rfl
  |false=>exact ND h
theorem wc(h:(!ho k l)=true):k∉l:=λa=>by rw[ND a] at h;cases h
theorem Nw{b1:Nat}(h:(!Nat.beq k b1)=true):k≠b1:=λe=>by subst e;simp at h
theorem wb{k g z n:Nat}{x:V}{s:S}: ∀{a:List Nat} {b:Nat} {e:Option E},(b,e)∈(gv k g z n x s a).1->b∈a
 |c::a,b,e,h=>by
  unfold gv at h;split at h
  ·rcases dP.1 h with h|h
   ·cases h;exact eU
   exact ey _ (wb h)
  exact ey _ (wb h)
theorem abc{K:Ctx}{s:S}{a:List (List T)}{L:List Nat}(h:Nat.ble K.da k=true)(m:s.H k=some (.arr e gen n a))(o:k∉r)
  (p:ch (ib k gen n a.length (.t (.aE a)) s L).2) (q:ch (gv k gen n a.length (.t (.aE a)) s r).2):
  s.le K ((⟨(ib k gen n a.length (.t (.aE a)) s L).1,(k,none)::(gv k gen n a.length (.t (.aE a)) s r).1,[]⟩:cQ).app s):=by
 refine Uo _ _ k gen n h m (λi=>?_) ?_ λid e' c=>?_
 ·rcases f9 (ib k gen n a.length (.t (.aE a)) s L).1 s.t i with ⟨_,d⟩|⟨v,l,d⟩
  ·rw[d];exact .same _
  rw[d];exact Gk p i v l
 ·show dh (aU s.H k none) _ k=none;rw[mm _ _ _ λv w=>o (wb w),bW]
 have c:dh (aU s.H k none) (gv k gen n a.length (.t (.aE a)) s r).1 id=some e':=c;rcases f9 (gv k gen n a.length (.t (.aE a)) s r).1 (aU s.H k none) id with ⟨_,d⟩|⟨v,l,d⟩
 ·rw[d] at c;by_cases hid:id=k
  ·subst hid;rw[bW] at c;cases c
  rw[bX _ _ _ _ hid] at c;exact⟨e',c,.inl rfl⟩
 rw[d] at c;subst c;obtain⟨x,B,y,z,A⟩:=A1 q id _ l;cases z;exact⟨x,y,A⟩
theorem OA{K:Ctx}{s:S}{W:E}(h:Nat.ble K.da k=true)(d:k≠L)(w:s.H k=some W)(x:W.gen=some gen)(y:s.u L=false)(z:k∉r)(o:L∉r)
  (A:ch (ib k gen n m (.bc L 1 n 0 m) s l).2) (B:ch (gv k gen n m (.bc L 1 n 0 m) s r).2):
  s.le K ((⟨(ib k gen n m (.bc L 1 n 0 m) s l).1,(k,none)::(L,some W.CH)::(gv k gen n m (.bc L 1 n 0 m) s r).1,[(L,true)]⟩:cQ).app s):=by
 refine Vw _ _ k L gen n m h d w x y (λi=>?_) ?_ ?_ λid e' e a=>?_
 ·rcases f9 (ib k gen n m (.bc L 1 n 0 m) s l).1 s.t i with ⟨_,c⟩|⟨v,p,c⟩
  ·rw[c];exact .same _
  rw[c];exact Gk A i v p
 ·show dh (aU (aU s.H k none) L _) _ k=none;rw[mm _ _ _ λv q=>z (wb q),bX _ _ _ _ d,bW]
 ·show dh (aU (aU s.H k none) L _) _ L=_;rw[mm _ _ _ λv q=>o (wb q),bW]
 have a:dh (aU (aU s.H k none) L (some W.CH)) (gv k gen n m (.bc L 1 n 0 m) s r).1 id=some e':=a;rcases f9 (gv k gen n m (.bc L 1 n 0 m) s r).1 (aU (aU s.H k none) L (some W.CH)) id with ⟨_,c⟩|⟨v,p,c⟩
 ·rw[c,bX _ _ _ _ e] at a;by_cases hid:id=k
  ·subst hid;rw[bW] at a;cases a
  rw[bX _ _ _ _ hid] at a;exact⟨e',a,.inl rfl⟩
 rw[c] at a;subst a;obtain⟨W,I,D,F,G⟩:=A1 B id _ p;cases F;exact⟨W,D,G⟩
theorem Um{K:Ctx}{s:S}(B:Nat->V)(k:Nat){F:List T}(G:Nat.ble K.da k=true)(R:s.H k=some (.cells (F.map .t)))
  (U: ∀i,B i=s.t i\/ ∃c,s.t i= .ref k c/\B i= .aP (F.drop c)):s.le K {t:=B,H:=aU s.H k none,u:=s.u}:=by
 intro q a w h;have W:=d' G;obtain⟨b,p,ty,D,X,L,Y⟩:=(h.heap k _ R).2;have m: ∀I,own K q (aU s.H k none) I->own K q s.H I:=by
  rintro I (r|⟨id,n,o⟩)
  ·exact .inl r
  by_cases hid:id=k
  ·subst hid;rw[bW] at n;exact bB rfl n
  rw[bX _ _ _ _ hid] at n;exact .inr ⟨id,n,o⟩
 have y: ¬own K q (aU s.H k none) b:=by
  rintro(r|⟨id,n,o⟩)
  ·obtain⟨gb,f⟩:=h.iu b r;rcases(h.fresh k b (.inl ⟨_,D⟩)).1 with d|g
   ·exact f d
   omega
  have:=h.inj _ _ _ o (.inl ⟨_,D⟩);subst this;rw[bW] at n;exact n rfl
 refine⟨q,{h with heap:= ?_,cZ:= ?_}⟩
 ·intro id e' l;have l:aU s.H k none id=some e':=l;by_cases hid:id=k
  ·subst hid;rw[bW] at l;cases l
  rw[bX _ _ _ _ hid] at l;obtain⟨n,o⟩:=h.heap id e' l;exact⟨n,o.mono (Ext.refl _ _) (λb _=>m b) (du.refl _) (λ_ h=>h) (Shaped.refl _ _) λ_ _=>rfl⟩
 intro j;show bn q w _ (B j) _;rcases U j with v|⟨c,n,o⟩
 ·rw[v];exact(h.cZ j).mono (Ext.refl _ _) (λb _=>m b) (du.refl _) (Shaped.refl _ _)
 rw[o];have Q:=h.cZ j;rw[n] at Q;obtain⟨cu,z,E⟩:=tl Q;rw[D] at z;cases z;rw[E];have a':=(h.fresh k b (.inl ⟨_,D⟩)).2;refine .aP _ b c (λi=>p.getD (c+i) undef) a' y (λi M=>?_) λi x r=>?_
 ·have d:c+i<p.size:=by simp at M L;omega
  simp[World.cell?,X,d]
 have A:F[c+i]? =some x:=by simpa using r
 have d:c+i<p.size:=by have:=(bS.1 A).1;simp at L;omega
 have N:=Y (c+i) (.t x) p[c+i] (by simp[A]) (by simp[d]);have e:p.getD (c+i) undef=p[c+i]:=by simp[d]
 rw[e];cases N with
 |t _ _ P=>exact P.mono (Ext.refl _ _) λb _=>m b
def Bz(k:Nat)(c:List T)(s:S):List Nat->Option (List (Nat×V))
 | []=>some []
 |i::is=>match s.t i with
  | .ref d a=>match Nat.beq d k,Bz k c s is with
   |true,some l=>some ((i,.aP (c.drop a))::l)
   |_,_=>none
  |_=>none
theorem Oe{k:Nat}{a:List T}{s:S}: ∀{is:List Nat} {l:List (Nat×V)},Bz k a s is=some l-> ∀i v,(i,v)∈l-> ∃c,s.t i= .ref k c/\v= .aP (a.drop c)
 | [],l,h,i,v,hm=>by cases h;cases hm
 |i0::is,l,h,i,v,hm=>by
  unfold Bz at h;split at h
  ·rename_i o c d;split at h
   ·rename_i p e m;cases h;have n:=cM e;subst n;rcases dP.1 hm with hm|hm
    ·cases hm;exact⟨c,d,rfl⟩
    exact Oe m i v hm
   cases h
  cases h
def w5(a:List (List T)):List Nat->List (Nat×V)
 | []=>[]
 |i::is=>(i,.t (.aE a))::w5 a is
def rT(k c a n:Nat)(s:S):List Nat->Option (List df)
 | []=>some []
 |i::is=>match s.t i with
  | .bc l gen d e h=>match Nat.beq l k&&Nat.beq e 0,rT k c a n s is with
   |true,some m=>some (.q gen c:: .q d a:: .q h n::m)
   |_,_=>none
  |_=>none
theorem NQ{k m L n:Nat}{s:S}: ∀{is:List Nat} {a:List df},rT k m L n s is=some a->ch a-> ∀i,i∈is->s.t i= .bc k m L 0 n
 | [],_,_,_,i,h=>by cases h
 |i0::is,a,h,c,i,aI=>by
  unfold rT at h;split at h
  ·rename_i z gen e l o p;split at h
   ·rename_i q d r;cases h;simp only[Bool.and_eq_true] at d;obtain⟨rfl,rfl,rfl,w⟩:=c;have x:=cM d.1;have y:=cM d.2;subst x;subst y;rcases dP.1 aI with rfl|aI
    ·exact p
    exact NQ r w i aI
   cases h
  cases h
theorem Mw{a:List (List T)}{j:Nat}{v:V}: ∀{is:List Nat},(j,v)∈w5 a is->j∈is/\v= .t (.aE a)
 |i::is,h=>by
  simp only[w5,List.mem_cons] at h;rcases h with h|h
  ·cases h;exact⟨eU,rfl⟩
  obtain⟨c,d⟩:=Mw h;exact⟨ey _ c,d⟩
def Bv{k:Type}:List k->Bool
 | []=>true
 |_::_=>false
theorem FX{k:Type}{l:List k}(h:Bv l=true):l=[]:=by
 cases l with
 |nil=>rfl
 |cons=>cases h
def iR(C:dM)(h:ct)(s:S):Option (Option (cQ×List df)):=
 match h with
 | .ja i k=>match s.t i,s.H k with
  | .bc w gen c D F,some (.arr _ A d a)=>match Nat.beq w k&&(Nat.beq D 0&&Nat.ble C.da k) with
   |true=>some (some (⟨[(i,.t (.aE a))],[(k,none)],[]⟩,[.q gen A,.q c d,.q F a.length]))
   |false=>some none
  |_,_=>some none
 | .r4 is k=>match s.H k with
  |some (.arr _ A d a)=>match Nat.ble C.da k,rT k A d a.length s is with
   |true,some Y=>some (some (⟨w5 a is,[(k,none)],[]⟩,Y))
   |_,_=>some none
  |_=>some none
 | .grow i k e=>match s.t i,s.u k,dy C.cb e with
  | .t .fl,false,some j=>some (some (⟨[(i,.bc k 1 j.size 0 0)],[(k,some (.arr e 1 j.size []))],[(k,true)]⟩,[]))
  |_,_,_=>some none
 | .len i n=>match s.t i with
  | .bc k gen c D F=>some (some (⟨[(i,.bc k gen c D n)],[],[]⟩,[.p (F=n)]))
  |_=>some none
 | .r3 k is=>match s.H k with
  |some (.cells f)=>match ls f,Nat.ble C.da k with
   |some cs,true=>match Bz k cs s is with
    |some l=>some (some (⟨l,[(k,none)],[]⟩,[]))
    |none=>some none
   |_,_=>some none
  |_=>some none
 | .bh k is L=>match s.H k with
  |some (.arr _ gen c a)=>match Nat.ble C.da k&& !ho k L with
   |true=>some (some (⟨(ib k gen c a.length (.t (.aE a)) s is).1,(k,none)::(gv k gen c a.length (.t (.aE a)) s L).1,[]⟩,(ib k gen c a.length (.t (.aE a)) s is).2++(gv k gen c a.length (.t (.aE a)) s L).2))
   |false=>some none
  |_=>some none
 | .ed k w is L=>match s.H k,s.u w with
  |some (.arr e gen c a),false=>match Nat.ble C.da k&&(!Nat.beq k w&&(!ho k L&& !ho w L)) with
   |true=>some (some (⟨(ib k gen c a.length (.bc w 1 c 0 a.length) s is).1,(k,none)::(w,some (.arr e 1 c a))::(gv k gen c a.length (.bc w 1 c 0 a.length) s L).1,[(w,true)]⟩,
     (ib k gen c a.length (.bc w 1 c 0 a.length) s is).2++(gv k gen c a.length (.bc w 1 c 0 a.length) s L).2))
   |false=>some none
  |some (.a8 r m gen a []),false=>match Nat.ble C.da k&&(!Nat.beq k w&&(!ho k L&& !ho w L)) with
   |true=>some (some (⟨(ib k gen (aO r m).size a.length (.bc w 1 (aO r m).size 0 a.length) s is).1,(k,none)::(w,some (.a8 r m 1 a []))::(gv k gen (aO r m).size a.length (.bc w 1 (aO r m).size 0 a.length) s L).1,[(w,true)]⟩,
     (ib k gen (aO r m).size a.length (.bc w 1 (aO r m).size 0 a.length) s is).2++(gv k gen (aO r m).size a.length (.bc w 1 (aO r m).size 0 a.length) s L).2))
   |false=>some none
  |_,_=>some none
 | .eD b j n=>match s.H b with
  |some (.cells cs)=>match cs[j]? with
   |some (.bc k gen c D F)=>some (some (⟨[],[(b,some (.cells (cs.set j (.bc k gen c D n))))],[]⟩,[.p (F=n)]))
   |_=>some none
  |_=>some none
 | .dt i k w=>match s.t i,s.H k,s.u w with
  | .bc j2 gen c D F,some (.arr e A d a),false=>match Nat.beq j2 k&&(Nat.ble C.da k&& !Nat.beq k w) with
   |true=>some (some (⟨[(i,.bc w 1 c D F)],[(k,none),(w,some (.arr e 1 d a))],[(w,true)]⟩,[.q gen A,.q c d]))
   |false=>some none
  |_,_,_=>some none
 | .BA b j k=>match s.H b,s.H k with
  |some (.cells cs),some (.arr _ A d a)=>match cs[j]?,Nat.ble C.da k with
   |some (.bc w gen c D F),true=>match Nat.beq w k&&Nat.beq D 0 with
    |true=>some (some (⟨[],[(k,none),(b,some (.cells (cs.set j (.t (.aE a)))))],[]⟩,[.q gen A,.q c d,.q F a.length]))
    |false=>some none
   |_,_=>some none
  |some (.a8 r m v U ((E,M,.bc w gen c D F)::I)),some (.arr _ A d a)=>match Nat.beq w k&&(Nat.beq D 0&&(Nat.ble C.da k&& !Nat.beq b k)) with
   |true=>some (some (⟨[],[(k,none),(b,some (.a8 r m v U ((E,M,.t (.aE a))::I)))],[]⟩,[.q gen A,.q c d,.q F a.length]))
   |false=>some none
  |_,_=>some none
 | .et b j k e=>match s.H b,s.u k,dy C.cb e with
  |some (.cells cs),false,some i=>match cs[j]? with
   |some (.t .fl)=>some (some (⟨[],[(k,some (.arr e 1 i.size [])),(b,some (.cells (cs.set j (.bc k 1 i.size 0 0))))],[(k,true)]⟩,[]))
   |_=>some none
  |_,_,_=>some none
 | .j8 k=>match s.H k with
  |some (.cells cs)=>some (some (⟨[],[(k,some (.cells (gJ cs)))],[]⟩,[]))
  |_=>some none
 | .dS k r m=>match s.H k with
  |some (.arr ty gen c a)=>match Bv (aO r m).bm||Bv a with
   |true=>some (some (⟨[],[(k,some (.a8 r m gen a []))],[]⟩,[.q (aO r m).ty ty,.q (aO r m).size c]))
   |false=>some none
  |some (.a8 Q X gen a I)=>match Nat.ble C.da k&&Bv (aO r m).bm with
   |true=>some (some (⟨[],[(k,some (.a8 r m gen a I))],[]⟩,[.q (aO r m).ty (aO Q X).ty,.q (aO r m).size (aO Q X).size]))
   |false=>some none
  |_=>some none
 | .db k=>match s.H k with
  |some (.a8 r m gen a [])=>match Nat.ble C.da k with
   |true=>some (some (⟨[],[(k,some (.arr (aO r m).ty gen (aO r m).size a))],[]⟩,[]))
   |false=>some none
  |_=>some none
 | .dV k w i j B=>match s.H k,s.u w with
  |some (.a8 r m gen a I),false=>match (aO r m).ei j,B[j]? with
   |some W,some (.aE G)=>some (some (⟨[],[(k,some (.a8 r m gen a ((i,j,.bc w 1 (aO r W).size 0 G.length)::I))),(w,some (.a8 r W 1 G []))],[(w,true)]⟩,.p (a[i]? =some B)::rV i j I))
   |_,_=>some none
  |_,_=>some none
 | .Pd k i j B=>match s.H k with
  |some (.a8 r m gen a I)=>match (aO r m).ei j,B[j]?,q' j I with
   |none,some x,true=>some (some (⟨[],[(k,some (.a8 r m gen a ((i,j,.t x)::I)))],[]⟩,[.p (a[i]? =some B)]))
   |_,_,_=>some none
  |_=>some none
 | .C6 k B R=>match s.H k with
  |some (.a8 r m gen a ((i,j,.t x)::I))=>match (aO r m).ei j,Nat.blt j (aO r m).size&&q' j I with
   |none,true=>some (some (⟨[],[(k,some (.a8 r m gen R I))],[]⟩,[.p (a[i]? =some B),.p (a.set i (B.set j x)=R)]))
   |some _,true=>match x with
    | .fl=>some (some (⟨[],[(k,some (.a8 r m gen R I))],[]⟩,[.p (a[i]? =some B),.p (a.set i (B.set j (.aE []))=R)]))
    |_=>some none
   |_,_=>some none
  |_=>some none
 | .BD i j k e=>match s.t i,s.u k,dy C.cb e with
  | .agg cs,false,some y=>match cs[j]? with
   |some (.t .fl)=>some (some (⟨[(i,.agg (cs.set j (.bc k 1 y.size 0 0)))],[(k,some (.arr e 1 y.size []))],[(k,true)]⟩,[]))
   |_=>some none
  |_,_,_=>some none
 | .dm k w B R=>match s.H k,s.H w with
  |some (.a8 r m gen a ((i,j,.bc cE g z o n)::I)),some (.a8 Q W N G [])=>match (aO r m).ei j,Nat.beq cE w&&(!Nat.beq k w&&(Nat.ble C.da w&&(Nat.beq o 0&&Nat.blt j (aO r m).size))) with
   |some P,true=>some (some (⟨[],[(w,none),(k,some (.a8 r m gen R I))],[]⟩,.q g N:: .q z (aO r W).size:: .p (n=G.length):: .q P W:: .p (Q=r):: .p (a[i]? =some B):: .p (a.set i (B.set j (.aE G))=R)::rV i j I))
   |_,_=>some none
  |_,_=>some none
 | .cut k n R=>match s.H k with
  |some (.arr e gen c a)=>some (some (⟨[],[(k,some (.arr e gen c R))],[]⟩,[.p (R=a.take n)]))
  |_=>some none
 |_=>none
def p4(C:dM)(a:Nat):List ct->S->Option (cQ×List df×List ct)
 | [],_=>some (.nil,[],[])
 | .at m::c,s=>match Nat.beq m a with
  |true=>p4 C a c s
  |false=>some (.nil,[],.at m::c)
 |h::c,s=>match iR C h s with
  |none=>some (.nil,[],h::c)
  |some none=>none
  |some (some (e,k))=>match p4 C a c (e.app s) with
   |some (l,d,i)=>some (e.cat l,k++d,i)
   |none=>none
section
variable {K:Ctx} {C:dM}
theorem Zd{K:Ctx}{s:S}(k n:Nat)(p:s.H k=some (.arr e gen L c)):s.le K {s with H:=aU s.H k (some (.arr e gen L (c.take n)))}:=by
 intro q a w h;refine⟨q,h.Iz k p λX l=>⟨l.1,?_⟩⟩;rcases l.2 with ⟨m,o⟩|⟨b,r,m,o,y,z,A⟩
 ·exact .inl ⟨m,by rw[o];simp⟩
 refine .inr ⟨b,r,m,o,gw (dz _ (List.length_take_le' _ _)) y,λd B=>z d (ga B),λi j d x u aK a2 a3=>?_⟩;rw[fA] at aK;split at aK
 ·exact A i j d x u aK a2 a3
 cases aK
theorem AF(r:C.Fits K){h:ct}{s:S}{e:cQ}{U:List df}(d:iR C h s=some (some (e,U)))(m:ch U):s.le K (e.app s):=by
 unfold iR at d;split at d
 ·split at d
  ·rename_i y n;split at d
   ·rename_i i;cases d;simp only[Bool.and_eq_true] at i;obtain⟨rfl,rfl,rfl,_⟩:=m;have z:=cM i.1;have F:=cM i.2.1;subst z;subst F;exact U6 _ _ _ _ (by rw[<-r.da];exact i.2.2) y n
   cases d
  cases d
 ·split at d
  ·rename_i n;split at d
   ·rename_i i W;cases d;refine J6 _ _ _ _ (by rw[<-r.da];exact i) (λj=>?_) n;rcases f9 (w5 _ _) s.t j with ⟨_,o⟩|⟨v,x,o⟩
    ·exact .inl o
    obtain⟨Y,rfl⟩:=Mw x;exact .inr ⟨o,NQ W m j Y⟩
   cases d
  cases d
 ·split at d
  ·rename_i y p q;cases d;exact Ze _ _ _ p y
  cases d
 ·split at d
  ·rename_i y;cases d;obtain⟨rfl,_⟩:=m;intro G a w H;refine⟨G,?_⟩;unfold cQ.app;simp only[dh];rw[<-y,Mk];exact H
  cases d
 ·split at d
  ·rename_i vs n;split at d
   ·rename_i cs Q i;split at d
    ·rename_i l b;cases d;have A:=n;rw[ov Q] at A;refine Um _ _ (by rw[<-r.da];exact i) A λj=>?_;rcases f9 l s.t j with ⟨_,o⟩|⟨v,x,o⟩
     ·exact .inl o
     obtain⟨R,f,g⟩:=Oe b j v x;exact .inr ⟨R,f,by rw[<-g];exact o⟩
    cases d
   cases d
  cases d
 ·split at d
  ·rename_i n;split at d
   ·rename_i i;cases d;simp only[Bool.and_eq_true] at i;obtain⟨I,L⟩:=ch.app m;exact abc (by rw[<-r.da];exact i.1) n (wc i.2) I L
   cases d
  cases d
 ·split at d
  ·rename_i n p;split at d
   ·rename_i i;cases d;simp only[Bool.and_eq_true] at i;obtain⟨I,L⟩:=ch.app m;exact OA (by rw[<-r.da];exact i.1) (Nw i.2.1) n rfl p (wc i.2.2.1) (wc i.2.2.2) I L
   cases d
  ·rename_i n p;split at d
   ·rename_i i;cases d;simp only[Bool.and_eq_true] at i;obtain⟨I,L⟩:=ch.app m;exact OA (by rw[<-r.da];exact i.1) (Nw i.2.1) n rfl p (wc i.2.2.1) (wc i.2.2.2) I L
   cases d
  cases d
 ·split at d
  ·rename_i i;split at d
   ·rename_i q;cases d;obtain⟨rfl,_⟩:=m;intro G a w H;refine⟨G,?_⟩;have F:=bS.1 q;have u: ∀{cs:List V} {j:Nat} {c:V},cs[j]? =some c->cs.set j c=cs:=by
     intro cs j c h;obtain⟨x,o⟩:=bS.1 h;rw[<-o,List.set_getElem_self]
    unfold cQ.app;simp only[dh];rw[u q,<-i,Mk];exact H
   cases d
  cases d
 ·split at d
  ·rename_i y n p;split at d
   ·rename_i i;cases d;simp only[Bool.and_eq_true,Bool.not_eq_true'] at i;obtain⟨rfl,rfl,_⟩:=m;have z:=cM i.1;subst z;exact V3 _ _ _ _ _ _ _ (by rw[<-r.da];exact i.2.1) (Nat.ne_of_beq_eq_false i.2.2) y n p
   cases d
  cases d
 ·split at d
  ·rename_i i n;split at d
   ·rename_i q E;split at d
    ·rename_i B;cases d;simp only[Bool.and_eq_true] at B;obtain⟨rfl,rfl,rfl,_⟩:=m;have z:=cM B.1;have F:=cM B.2;subst z;subst F;exact Up _ _ _ _ _ (by rw[<-r.da];exact E) i q n
    cases d
   cases d
  ·rename_i i n;split at d
   ·rename_i B;cases d;simp only[Bool.and_eq_true,Bool.not_eq_true'] at B;obtain⟨rfl,rfl,rfl,_⟩:=m;have z:=cM B.1;have F:=cM B.2.1;subst z;subst F;exact Un _ _ _ _ _ _ (by rw[<-r.da];exact B.2.2.1) (Nat.ne_of_beq_eq_false B.2.2.2) i n
   cases d
  cases d
 ·split at d
  ·rename_i i p y;split at d
   ·rename_i q;cases d;exact W8 _ _ _ _ p i q
   cases d
  cases d
 ·split at d
  ·rename_i k cs n;cases d;intro G a w H;exact⟨G,H.Iz _ n λX h=>(show jm (.cells _) (.cells _) from lQ cs).vc h⟩
  cases d
 ·split at d
  ·rename_i n;split at d
   ·rename_i i;cases d;obtain⟨x,o,_⟩:=m;refine W4 _ _ _ n x o ?_;rcases Bool.or_eq_true_iff.1 i with h|h
    ·exact .inr (FX h)
    exact .inl (FX h)
   cases d
  ·rename_i n;split at d
   ·rename_i i;cases d;obtain⟨x,o,_⟩:=m;simp only[Bool.and_eq_true] at i;exact W6 _ _ _ n (by rw[<-r.da];exact i.1) x o (FX i.2)
   cases d
  cases d
 ·split at d
  ·rename_i n;split at d
   ·rename_i i;cases d;exact W5 _ n (by rw[<-r.da];exact i)
   cases d
  cases d
 ·split at d
  ·rename_i n p;split at d
   ·rename_i D q;cases d;exact V4 _ _ _ _ _ n p m.1 q D (wu m.2)
   cases d
  cases d
 ·split at d
  ·rename_i n;split at d
   ·rename_i D q M;cases d;exact W7 _ _ _ n m.1 q D M
   cases d
  cases d
 ·split at d
  ·rename_i n;split at d
   ·rename_i D i;cases d;simp only[Bool.and_eq_true] at i;obtain⟨x,rfl,_⟩:=m;exact Vv _ _ _ n x i.1 D i.2
   ·rename_i D i;split at d
    ·cases d;simp only[Bool.and_eq_true] at i;obtain⟨x,rfl,_⟩:=m;exact V1 _ _ _ _ n x i.1 D i.2
    cases d
   cases d
  cases d
 ·split at d
  ·rename_i y p hy;split at d
   ·rename_i q;cases d;exact W9 _ _ _ _ p y q
   cases d
  cases d
 ·split at d
  ·rename_i n A;split at d
   ·rename_i D i;cases d;simp only[Bool.and_eq_true,Bool.not_eq_true'] at i;obtain⟨rfl,o,N,rfl,rfl,P,rfl,T⟩:=m;have z:=cM i.1;have F:=cM i.2.2.2.1;subst z;subst F;exact Ul _ _ _ _ _ _ _ _ n A o N (Nat.ne_of_beq_eq_false i.2.1) (by rw[<-r.da];exact i.2.2.1) P D i.2.2.2.2 (wu T)
   cases d
  cases d
 ·split at d
  ·rename_i n;cases d;obtain⟨rfl,_⟩:=m;exact Zd _ _ n
  cases d
 cases d
theorem qQ(m:C.Fits K){i:Nat}: ∀{n:List ct} {s:S} {e:cQ} {l:List df} {c:List ct},p4 C i n s=some (e,l,c)->ch l->s.le K (e.app s)
 | [],s,e,l,c,h,_=>by cases h;exact S.le.refl _ _
 |h::n,s,e,l,c,a,k=>by
  unfold p4 at a;split at a
  ·cases a;exact S.le.refl _ _
  ·split at a
   ·rename_i d _ _;cases d;exact qQ m a k
   cases a;exact S.le.refl _ _
  rename_i d;cases d;split at a
  ·cases a;exact S.le.refl _ _
  ·cases a
  rename_i z o p;split at a
  ·rename_i A q r w;cases a;obtain⟨x,y⟩:=ch.app k;rw[nf];exact(AF m p x).trans (qQ m w y)
  cases a
def iA(C:dM)(a:Array Oper):List Oper->List ct->S->Option (cQ×List df)
 | [],c,s=>match p4 C 0 c s with
  |some (e,q,[])=>some (e,q)
  |_=>none
 |o::l,c,s=>match p4 C (l.length+1) c s with
  |none=>none
  |some (d,h,i)=>match r1 C a o i (d.app s) with
   |none=>none
   |some (p,k,m)=>match iA C a l m (p.app (d.app s)) with
    |none=>none
    |some (r,n)=>some (d.cat (p.cat r),h++(k++n))
theorem N'(c:C.Fits K){V:Array Oper}{Q:S->Prop}: ∀{l:List Oper} {k:List ct} {s:S} {e:cQ} {d:List df},iA C V l k s=some (e,d)->ch d->p6 K V [] (e.app s) Q->p6 K V l s Q
 | [],k,s,e,d,h,a,i=>by
  simp only[iA] at h;split at h
  ·rename_i G n p;cases h;exact Kf (qQ c p a) i
  cases h
 |o::l,k,s,e,d,h,a,i=>by
  simp only[iA] at h;split at h
  ·cases h
  rename_i H q r w;split at h
  ·cases h
  rename_i I x y z;split at h
  ·cases h
  rename_i L A B;cases h;obtain⟨D,m⟩:=ch.app a;obtain⟨m,F⟩:=ch.app m;rw[nf,nf] at i;exact Kf (qQ c w D) (aao (Oa c z m) (N' c B F i))
abbrev rq:=Prop×List Nat×List (Nat×Bool)×Bool×List V×List (Option E)
def ud:rq:=(False,[],[],false,[],[])
def ue:rq:=(True,[],[],true,[],[])
def uf(s:S)(c:List Nat)(d:List (Nat×V))(a:List (Nat×Option E))(r:cQ×List df):rq:=
 (x4 r.2,u2 r.2,r.1.us,tk c r.1.eF&&tk (w4 a) r.1.hs,tI (r.1.app s) d,tL (r.1.app s) a)
def ug(a:Prop)(c:List (Nat×V))(d:List (Nat×Option E))(e:List (Nat×Bool))(r:cQ×List df):rq:=
 (a,u3 r.2,e,true,kh c,kh d)
def l5(x:Option (cQ×List df))(n:rq)(f:cQ×List df->rq):rq:=match x with
 |some r=>f r
 |none=>n
theorem On{x:Option (cQ×List df)}{s:S}{L:List Nat}{a:List (Nat×V)}{c:List (Nat×Option E)}{m:List (Nat×Bool)}{p:Prop}(i:p)
  (h:l5 x ud (uf s L a c)=l5 x ue (ug p a c m)): ∃e d,x=some (e,d)/\ch d/\(e.app s).le K (s.cl L a c m):=by
 cases x with
 |none=>simp[l5,ud,ue] at h
 |some r=>
  obtain⟨e,d⟩:=r;simp only[l5,uf,ug,Prod.mk.injEq,Bool.and_eq_true] at h;obtain⟨k,l,n,⟨o,q⟩,w,y⟩:=h;exact⟨e,d,rfl,ch.of (k▸i) l,abi n o q w y⟩
def tmps:List Operand->List Nat
 | []=>[]
 | .tmp t::a=>t::tmps a
 |_::a=>tmps a
def OH(a:Array Oper)(o:Oper):List Nat:=match o.guard with
 |none=>[]
 |some (j,_)=>match (a[j]?).bind (·.dst) with
  |some t=>[t]
  |none=>[]
def Bg(o:Oper)(a:List ct):List ct:=match o.guard with
 |none=>a
 |some _=>a.tail
def A5(a:Array Oper)(o:Oper)(c:List ct)(s:S):gz:=⟨OH a o++tmps o.op.operands.toList,uH o (o.op.operands.toList.map s.get) (Bg o c)⟩
theorem Fe{s a:S}: ∀{c:List Operand},(∀i,i∈tmps c->s.t i=a.t i)->c.map s.get=c.map a.get
 | [],_=>rfl
 | .tmp t::c,h=>by
  simp only[List.map_cons,List.cons.injEq];exact⟨h t eU,Fe λi d=>h i (ey _ d)⟩
 | .const _::c,h| .global _::c,h| .func _::c,h=>by simp only[List.map_cons,List.cons.injEq];exact⟨rfl,Fe h⟩
theorem VT{H a:Nat->Option E}(h: ∀k,k∈r->H k=a k):tV r H=tV r a:=by
 funext k;unfold tV;cases c:ho k r with
 |true=>exact h k (zR c)
 |false=>rfl
theorem VR{u a:Nat->Bool}(h: ∀k,k∈r->u k=a k):tU r u=tU r a:=by
 funext k;unfold tU;cases c:ho k r with
 |true=>exact h k (zR c)
 |false=>rfl
theorem Yg{s b:S}{a:List V}{hs:List ct}(h: ∀k,k∈uH o a hs->s.H k=b.H k/\s.u k=b.u k):qf C o a s hs=qf C o a b hs:=by unfold qf;rw[VT λk c=>(h k c).1,VR λk c=>(h k c).2]
theorem Yq{V:Array Oper}{c:List ct}{s a:S}(h:(A5 V o c s).same a s):r1 C V o c a=r1 C V o c s:=by
 obtain⟨n,w⟩:=h;have y:o.op.operands.toList.map a.get=o.op.operands.toList.map s.get:=Fe λi z=>n i (dZ.2 (.inr z));have q: ∀d,(∀k,k∈uH o (o.op.operands.toList.map s.get) d->k∈uH o (o.op.operands.toList.map s.get) (Bg o c))->qf C o (o.op.operands.toList.map s.get) a d=qf C o (o.op.operands.toList.map s.get) s d:=λd A=>
  Yg λk e=>w k (A k e)
 unfold r1;rw[y];cases l:o.guard with
 |none=>exact q c (λk e=>by simp only[Bg,l];exact e)
 |some p=>
  obtain⟨j,r⟩:=p;have m:uo V j a=uo V j s:=by
   unfold uo;cases B:(V[j]?).bind (·.dst) with
   |none=>rfl
   |some t=>
    have:=n t (dZ.2 (.inl (by unfold OH;rw[l];simp only[B];exact mK.2 rfl)));simp only[this]
  simp only[m];cases c with
  |nil=>rfl
  |cons x c=>
   have:=q c λk e=>by simp only[Bg,l,List.tail];exact e
   cases x<;>first|rfl|(dsimp only;rw[this])
def nS(C:dM)(a:Nat):List ct->S->Option (cQ×List df×List ct×gz)
 | .at m::hs,s=>match Nat.beq m a with
  |true=>nS C a hs s
  |false=>some (.nil,[],.at m::hs,⟨[],[]⟩)
 | .r4 is k::hs,s=>match iR C (.r4 is k) s with
  |some (some (e,h))=>match nS C a hs (e.app s) with
   |some (i,c,d,dR)=>some (e.cat i,h++c,d,⟨is++dR.eF,k::dR.k2⟩)
   |none=>none
  |_=>none
 | .bh k is l::hs,s=>match iR C (.bh k is l) s with
  |some (some (e,h))=>match nS C a hs (e.app s) with
   |some (i,c,d,dR)=>some (e.cat i,h++c,d,⟨is++dR.eF,k::(l++dR.k2)⟩)
   |none=>none
  |_=>none
 | .db k::hs,s=>match iR C (.db k) s with
  |some (some (e,h))=>match nS C a hs (e.app s) with
   |some (i,c,d,dR)=>some (e.cat i,h++c,d,⟨dR.eF,k::dR.k2⟩)
   |none=>none
  |_=>none
 |hs,_=>some (.nil,[],hs,⟨[],[]⟩)
theorem VQ{C:dM}{s a:S}(c:a.H k=s.H k):iR C (.db k) a=iR C (.db k) s:=by unfold iR;simp only[c]
theorem LF{k g z n:Nat}{s a:S}: ∀{is:List Nat},(∀i,i∈is->a.t i=s.t i)->rT k g z n a is=rT k g z n s is
 | [],_=>rfl
 |i::is,h=>by unfold rT;rw[h i eU,LF λx c=>h x (ey _ c)]
theorem Xb{s a:S}(c: ∀i,i∈r->a.t i=s.t i)(d:a.H k=s.H k):iR C (.r4 r k) a=iR C (.r4 r k) s:=by
 unfold iR;dsimp only;rw[d];split
 ·rw[LF c]
 rfl
theorem Me{k g z n:Nat}{v:V}{s a:S}: ∀{is:List Nat},(∀i,i∈is->a.t i=s.t i)->ib k g z n v a is=ib k g z n v s is
 | [],_=>rfl
 |i::is,h=>by simp only[ib,h i List.mem_cons_self,Me λx c=>h x (List.mem_cons_of_mem _ c)]
theorem Mf{k g z n:Nat}{v:V}{s a:S}: ∀{c:List Nat},(∀b,b∈c->a.H b=s.H b)->gv k g z n v a c=gv k g z n v s c
 | [],_=>rfl
 |b::c,h=>by unfold gv;rw[h b eU,Mf λx d=>h x (ey _ d)]
theorem VP{L:List Nat}{s a:S}(c: ∀i,i∈r->a.t i=s.t i)(d:a.H k=s.H k)(e: ∀b,b∈L->a.H b=s.H b):iR C (.bh k r L) a=iR C (.bh k r L) s:=by
 unfold iR;dsimp only;rw[d];split
 ·rw[Me c,Mf e]
 rfl
theorem FT{k:Type}{f g:Nat->k}{r:Nat}(h:f r=g r): ∀(l:List (Nat×k)),dh f l r=dh g l r:=by
 intro l;induction l generalizing f g with
 |nil=>exact h
 |cons p l c=>
  obtain⟨d,v⟩:=p;simp only[dh];apply c;by_cases a:r=d
  ·subst a;rw[bW,bW]
  rw[bX _ _ _ _ a,bX _ _ _ _ a];exact h
theorem Cx{r:gz}{s a:S}(e:cQ)(h:r.same a s):r.same (e.app a) (e.app s):=
 ⟨λi d=>FT (h.1 i d) _,λk c=>⟨FT (h.2 k c).1 _,FT (h.2 k c).2 _⟩⟩
theorem wy(w:C.Fits K){n:Nat}: ∀{z:List ct} {s:S} {e:cQ} {d:List df} {a:List ct} {dR:gz},nS C n z s=some (e,d,a,dR)->ch d-> ∀c,dR.same c s->c.le K (e.app c)
 | .at m::z,s,e,d,a,dR,h,o,c,l=>by
  unfold nS at h;split at h
  ·exact wy w h o c l
  cases h;exact S.le.refl _ _
 | .r4 is k::z,s,e,d,a,dR,h,o,c,l=>by
  unfold nS at h;split at h
  ·rename_i p r A;split at h
   ·rename_i Q B D F G;cases h;obtain⟨H,I⟩:=ch.app o;have q:iR C (.r4 is k) c=some (some (p,r)):=(Xb (λi x=>l.1 i (mJ _ x)) (l.2 k eU).1).trans A;rw[nf];exact(AF w q H).trans (wy w G I (p.app c) (Cx p ⟨λi x=>l.1 i (pJ _ x),λk L=>l.2 k (ey _ L)⟩))
   cases h
  cases h
 | .bh k is R::z,s,e,d,a,dR,h,o,c,l=>by
  unfold nS at h;split at h
  ·rename_i p r A;split at h
   ·rename_i Q B D F G;cases h;obtain⟨H,I⟩:=ch.app o;have q:iR C (.bh k is R) c=some (some (p,r)):=(VP (λi x=>l.1 i (mJ _ x)) (l.2 k eU).1 λb U=>(l.2 b (ey _ (mJ _ U))).1).trans A;rw[nf];exact(AF w q H).trans (wy w G I (p.app c) (Cx p ⟨λi x=>l.1 i (pJ _ x),λk L=>l.2 k (ey _ (pJ _ L))⟩))
   cases h
  cases h
 | .db k::z,s,e,d,a,dR,h,o,c,l=>by
  unfold nS at h;split at h
  ·rename_i p r A;split at h
   ·rename_i Q B D F G;cases h;obtain⟨H,I⟩:=ch.app o;have q:iR C (.db k) c=some (some (p,r)):=(VQ (l.2 k eU).1).trans A;rw[nf];exact(AF w q H).trans (wy w G I (p.app c) (Cx p ⟨l.1,λk L=>l.2 k (ey _ L)⟩))
   cases h
  cases h
 | [],s,e,d,a,dR,h,_,c,_=>by cases h;exact S.le.refl _ _
 | .dS _ _ _::_,s,e,d,a,dR,h,_,c,_| .dV _ _ _ _ _::_,s,e,d,a,dR,h,_,c,_| .dm _ _ _ _::_,s,e,d,a,dR,h,_,c,_| .lt _ _ _::_,s,e,d,a,dR,h,_,c,_| .Pd _ _ _ _::_,s,e,d,a,dR,h,_,c,_| .C6 _ _ _::_,s,e,d,a,dR,h,_,c,_| .BD _ _ _ _::_,s,e,d,a,dR,h,_,c,_| .cut _ _ _::_,s,e,d,a,dR,h,_,c,_
 | .row _::_,s,e,d,a,dR,h,_,c,_| .rows _::_,s,e,d,a,dR,h,_,c,_| .str _::_,s,e,d,a,dR,h,_,c,_| .int _::_,s,e,d,a,dR,h,_,c,_| .nat _::_,s,e,d,a,dR,h,_,c,_
 | .b _::_,s,e,d,a,dR,h,_,c,_| .y _::_,s,e,d,a,dR,h,_,c,_| .v _::_,s,e,d,a,dR,h,_,c,_| .ja _ _::_,s,e,d,a,dR,h,_,c,_| .grow _ _ _::_,s,e,d,a,dR,h,_,c,_
 | .j8 _::_,s,e,d,a,dR,h,_,c,_| .BA _ _ _::_,s,e,d,a,dR,h,_,c,_| .et _ _ _ _::_,s,e,d,a,dR,h,_,c,_| .afl _ _ _::_,s,e,d,a,dR,h,_,c,_| .afk _ _ _ _::_,s,e,d,a,dR,h,_,c,_
 | .len _ _::_,s,e,d,a,dR,h,_,c,_| .eD _ _ _::_,s,e,d,a,dR,h,_,c,_| .r3 _ _::_,s,e,d,a,dR,h,_,c,_| .ed _ _ _ _::_,s,e,d,a,dR,h,_,c,_| .dt _ _ _::_,s,e,d,a,dR,h,_,c,_| .dI _ _ _ _::_,s,e,d,a,dR,h,_,c,_=>by cases h;exact S.le.refl _ _
theorem hU.pre{ops:Array Oper}{s b c:S}(i:s.le K b)(h:hU K ops o b c):hU K ops o s c:=by
 intro k a w next Q l m
 obtain⟨d,e⟩:=i k a w l;exact h d a w next Q e m
def xf(C:dM)(a:Array Oper):List Oper->List ct->S->Option (List (cQ×gz)×List df)
 | [],h,_=>match h with
  | []=>some ([],[])
  |_=>none
 |o::l,h,s=>match nS C (l.length+1) h s with
  |none=>none
  |some (d,i,c,dR)=>match r1 C a o c (d.app s) with
   |none=>none
   |some (e,n,k)=>match xf C a l k (e.app (d.app s)) with
    |none=>none
    |some (p,m)=>some ((d.cat e,⟨dR.eF++(A5 a o c (d.app s)).eF,dR.k2++(A5 a o c (d.app s)).k2⟩)::p,i++(n++m))
def Bl:List (cQ×gz)->cQ
 | []=> .nil
 |(e,_)::a=>e.cat (Bl a)
theorem Gb(p:C.Fits K){V:Array Oper}{Q:S->Prop}: ∀{l:List Oper} {q:List ct} {s:S} {c:List (cQ×gz)} {d:List df},xf C V l q s=some (c,d)->ch d->Q ((Bl c).app s)->vQ K V l c s Q
 | [],q,s,c,d,h,_,m=>by
  simp only[xf] at h;split at h
  ·cases h;exact m
  cases h
 |o::l,q,s,c,d,h,r,m=>by
  simp only[xf] at h;split at h
  ·cases h
  rename_i n D w dR F;split at h
  ·cases h
  rename_i e G H I;split at h
  ·cases h
  rename_i L R U;cases h;obtain⟨W,x⟩:=ch.app r;obtain⟨x,X⟩:=ch.app x;simp only[Bl,nf] at m;refine⟨λB a=>?_,by rw[nf];exact Gb p U X m⟩;rw[nf];refine hU.pre (wy p F W B ⟨λi y=>a.1 i (mJ _ y),λk z=>a.2 k (mJ _ z)⟩) ?_;have A:(A5 V o w (n.app s)).same (n.app B) (n.app s):=Cx n ⟨λi y=>a.1 i (pJ _ y),λk z=>a.2 k (pJ _ z)⟩;exact Oa p ((Yq A).trans I) x
def lz(C:dM)(l:List Oper)(h:List ct)(s:S):Option (cQ×List df):=
 match p4 C l.length h s with
 |none=>none
 |some (d,a,c)=>match xf C l.toArray l c (d.app s) with
  |none=>none
  |some (e,i)=>match my l.toArray l.length 0 e&&rl 0 l with
   |true=>some (d.cat (Bl e),a++i)
   |false=>none
theorem N3{c:Code}{s s2:S}{Q:Exit->S->Prop}(h:cI K c s λe k=>match e with| .normal=>k.le K s2|_=>False)(n:Q .normal s2):cI K c s Q:=by
 intro o a w p x y;refine h o a w p x ?_;intro e k d l m q r;cases e with
 |normal=>obtain⟨i,z⟩:=q d l m r;exact y _ _ i l m n z
 |exit=>exact q.elim
 |goto=>exact q.elim
 |ret=>exact q.elim
 |panic=>exact q.elim
 |outgrown=>exact q.elim
theorem rd{l:List Oper}{s:S}{Q:Exit->S->Prop}(q:C.Fits K)(x:K.P.follows .mixedOrders=true)(r:List ct)(k:List Nat)(c:List (Nat×V))(d:List (Nat×Option E))(m:List (Nat×Bool)){p:Prop}(n:p)
  (h:l5 (lz C l r s) ud (uf s k c d)=l5 (lz C l r s) ue (ug p c d m)) (y:Q .normal (s.cl k c d m)):cI K (.region i l.toArray true) s Q:=by
 obtain⟨e,R,a,z,w⟩:=On (K:=K) n h;unfold lz at a;split at a
 ·cases a
 rename_i U A B D;split at a
 ·cases a
 rename_i F G H;split at a
 ·rename_i o;cases a;simp only[Bool.and_eq_true] at o;obtain⟨I,L⟩:=ch.app z;refine u4 (qQ q D I) (N3 (s2:=s.cl k c d m) (Mi F x o.1 o.2 (Gb q H L ?_)) y);rw[nf] at w;exact w
 cases a
def nI:List (Nat×E)->List (Nat×Option E)
 | []=>[]
 |(k,e)::l=>(k,some e)::nI l
def oP:List Nat->List (Nat×Bool)
 | []=>[]
 |k::l=>(k,true)::oP l
def a7(a:List (Nat×V))(c:List (Nat×E))(d:List Nat):S:={t:=dh pv a,H:=dh oH (nI c),u:=dh gp (oP d)}
def Bj(u:Nat->Bool):List (Nat×V)->Bool
 | []=>true
 |(_,v)::l=>v.ok u&&Bj u l
def Br(u:Nat->Bool):List (Nat×E)->Bool
 | []=>true
 |(k,e)::l=>u k&&(e.ok u&&Br u l)
def Bk(u:Nat->Bool):List Nat->Bool
 | []=>true
 |k::l=>u k&&Bk u l
theorem Na{u:Nat->Bool}: ∀{l:List (Nat×V)},Bj u l=true-> ∀i v,(i,v)∈l->v.ok u=true
 |(a,c)::l,h,i,v,hm=>by
  simp only[Bj,Bool.and_eq_true] at h;rcases dP.1 hm with hm|hm
  ·cases hm;exact h.1
  exact Na h.2 i v hm
theorem NN{u:Nat->Bool}: ∀{l:List (Nat×E)},Br u l=true-> ∀k e,(k,some e)∈nI l->u k=true/\e.ok u=true
 |(a,c)::l,h,i,v,hm=>by
  simp only[Br,Bool.and_eq_true] at h;simp only[nI] at hm;rcases dP.1 hm with hm|hm
  ·cases hm;exact⟨h.1,h.2.1⟩
  exact NN h.2.2 i v hm
theorem M'{u:Nat->Bool}: ∀{l:List Nat},Bk u l=true-> ∀k b,(k,b)∈oP l->u k=true
 |j2::l,h,k,b,hm=>by
  simp only[Bk,Bool.and_eq_true] at h;simp only[oP] at hm;rcases dP.1 hm with hm|hm
  ·cases hm;exact h.1
  exact M' h.2 k b hm
def Bn(e:Nat)(s:S)(c:List (Nat×V))(d:List (Nat×E))(a:List Nat):List V×List (Option E)×Bool:=
 (tI s c,tL s (nI d),Bj (dh gp (oP a)) c&&(Br (dh gp (oP a)) d&&(Bk s.u a&&mx e (dh gp (oP a)))))
theorem Qa{s:S}{a:List (Nat×V)}{c:List (Nat×E)}(h:Bn K.da s a c r=(kh a,kh (nI c),true)):s.le K (a7 a c r):=by
 simp only[Bn,Prod.mk.injEq,Bool.and_eq_true] at h;obtain⟨m,n,o,p,q,w⟩:=h;refine aat (s':=a7 a c r) ?_ ?_ ?_ w
 ·intro i;show dh pv a i= .c4\/(dB _ (dh pv a i)/\(dh pv a i).ok _=true)
  rcases f9 a pv i with ⟨aK,a2⟩|⟨v,aK,a2⟩
  ·exact .inl a2
  rw[a2];exact .inr ⟨Fc m i v aK,Na o i v aK⟩
 ·intro k e d;have d:dh oH (nI c) k=some e:=d;rcases f9 (nI c) oH k with ⟨aK,a2⟩|⟨v,aK,a2⟩
  ·rw[a2] at d;cases d
  rw[a2] at d;subst d;obtain⟨x,y⟩:=NN p k e aK;exact⟨Fq n k e aK,x,y⟩
 intro k l;have l:dh gp (oP r) k=true:=l;rcases f9 (oP r) gp k with ⟨aK,a2⟩|⟨v,aK,a2⟩
 ·rw[a2] at l;cases l
 exact M' q k v aK
theorem YV{ι:Type}{x y:Code}{s:S}{Q:Exit->S->Prop}(I:ι->S)(p:ι->Prop)(a:cI K x s (qc (λc=> ∃i,p i/\c.le K (I i)) Q))(d: ∀i,p i->cI K y (I i) Q):cI K (.seq x y) s Q:=by
 refine Ax (vR a λe l q=>?_);cases e with
 |normal=>obtain⟨i,h,k⟩:=q;exact u4 k (d i h)
 |exit=>exact q
 |goto=>exact q
 |ret=>exact q
 |panic=>exact q
 |outgrown=>exact q
theorem abI{v r:V}(h:lr r v=r):dB v r:=h▸FH r v
def tv(s:S):List E->Nat->List (Option E)
 | [],_=>[]
 |e::l,k=>Bs (some e) (s.H k)::tv s l (k+1)
def tr:List E->List (Option E)
 | []=>[]
 |e::l=>some e::tr l
def tT(u:Nat->Bool):List E->Bool
 | []=>true
 |e::l=>e.ok u&&tT u l
theorem LW{s:S}: ∀{l:List E} {k:Nat},tv s l k=tr l-> ∀i e,l[i]? =some e-> ∃a,s.H (k+i)=some a/\jm a e
 |a::l,k,h,0,e,c=>by
  simp only[tv,tr,List.cons.injEq] at h;simp at c;subst c;exact NR h.1
 |a::l,k,h,i+1,e,c=>by
  simp only[tv,tr,List.cons.injEq] at h
  have:=LW h.2 i e (by simpa using c)
  rwa [show k+1+i=k+(i+1) by omega] at this
theorem MK{u:Nat->Bool}: ∀{l:List E},tT u l=true-> ∀(i:Nat) e,l[i]? =some e->e.ok u=true
 |c::l,h,0,e,a=>by simp only[tT,Bool.and_eq_true] at h;simp at a;subst a;exact h.1
 |c::l,h,i+1,e,a=>by simp only[tT,Bool.and_eq_true] at h;exact MK h.2 i e (by simpa using a)
end
end
def bo{k R:Type}(a:(k->Option R)->k->Option R):Nat->k->Option R
 |0,_=>none
 |m+1,x=>a (bo a m) x
def aA{k R:Type}(j:k->Option R)(t:(k->Option R)->Option R):Option R:=t j
variable {k R γ:Type}{A o B:Option R}{r a l:List k}{f:FuncId}{c:Code}{d:Func}{s:S}{Q:Exit->S->Prop}{j i:Int}{x y ph:k}{p:Prop}{q:List T}{D:Map}{w:World}{v:V}{u z:Value}{e:ResultVar}{args:List V}
theorem hN{A:k->Option R}{t:(k->Option R)->Option R}{r:R}(h:aA A t=some r): ∃j,j=A/\t j=some r:=⟨A,rfl,h⟩
theorem cS{o:Option k}{f:k->Option R}{r:R}(h:o.bind f=some r): ∃x,o=some x/\f x=some r:=by
 cases o with
 |none=>cases h
 |some x=>exact⟨x,rfl,h⟩
theorem hB{c:Bool}{r:R}(a:c=true)(h:(bif c then A else B)=some r):A=some r:=by subst a;exact h
theorem hA{c:Bool}{r:R}(a:c=false)(h:(bif c then A else B)=some r):B=some r:=by subst a;exact h
theorem ar{a b:R}(h:some a=some b):a=b:=Option.some.inj h
section
variable {K:Ctx} {C:dM}
theorem wE{a:(k->Option R)->k->Option R}{n:Nat}{d:k}{r:R}(h:bo a n d=some r)(I:k->γ->S)(p:γ)(A:s.le K (I d p))
  (l: ∀(i:k->Option R) (x:k) (g:γ),a i x=some r->cI K c (I x g) (Bd (λw=> ∃y o,i y=some r/\w.le K (I y o)) Q)):cI K (.loop c) s Q:=by
 refine XY (ι:=(Nat×k)×γ) (λy=>I y.1.2 y.2) (λy=>bo a y.1.1 y.1.2=some r) (λy=>y.1.1) ((n,d),p) h A ?_;rintro⟨⟨m,x⟩,g⟩ z;cases m with
 |zero=>cases z
 |succ m=>
  refine vR (l (bo a m) x g z) λe w q=>?_;cases e with
  |normal=>obtain⟨y,o,B,D⟩:=q;exact⟨((m,y),o),B,mL m,D⟩
  |exit=>exact q
  |goto=>exact q
  |ret=>exact q
  |panic=>exact q
  |outgrown=>exact q
theorem hf{j:k->Option R}{r:R}{x y:Code}(I:k->γ->S)
  (a:cI K x s (qc (λd=> ∃z g,j z=some r/\d.le K (I z g)) Q)) (c: ∀z g,j z=some r->cI K y (I z g) Q):cI K (.seq x y) s Q:=
 YV (ι:=k×γ) (λi=>I i.1 i.2) (λi=>j i.1=some r) (vR a (λe l q=>by
  cases e with
  |normal=>obtain⟨z,g,a,c⟩:=q;exact⟨(z,g),a,c⟩
  |exit=>exact q
  |goto=>exact q
  |ret=>exact q
  |panic=>exact q
  |outgrown=>exact q)) λi h=>c i.1 i.2 h
theorem abe{P:Program}{G:fc}{a:List (Nat×cj)}(d:dU P a)(c:Nat)(w:World)(X:Nat->Prop):dM.Fits ⟨P,G,a,c,0,gS⟩ (Ctx.pure P G w X c):=⟨d,rfl,rfl,rfl,rfl,rfl⟩
theorem abd{P:Program}{G:fc}{a:List (Nat×cj)}(h:dU P a)(d e:Nat)(w:World)(X:Nat->Prop)(c:Map):dM.Fits ⟨P,G,a,d,e,c⟩ (Ctx.dI P G w X e c d):=⟨h,rfl,rfl,rfl,rfl,rfl⟩
theorem MH{P:Program}(a:P.funcs[f]? =some d)(e:(d.name== "runtime.NumGoroutine")=false)(h:d.body=some c):i' P f:=⟨d,a,e,by rw[h];rfl⟩
variable {P:Program} {G:fc} {cb:List (Nat×cj)}
end
abbrev ae:Int->List T:=j3
abbrev dW:UInt8->List T:=ns
abbrev bF:Bool->List T:=Zs
abbrev c7:List UInt8->List T:=aaM
abbrev aZ{k:Type}(r:k->List T)(l:List k):List T:=[T.aE (l.map r)]
abbrev aC{k:Type}(r:k->List T)(l:List k):V:= .t (.aE (l.map r))
abbrev aG{k:Type}(e g a:Nat)(r:k->List T)(l:List k):E:= .arr e g a (l.map r)
abbrev ms{R:Type}(k g a:Nat)(r:R->List T)(l:List R):V:= .bc k g a 0 (l.map r).length
theorem OU(r:k->List T)(l:List k):(l.map r).length=l.length:=c5 ..
theorem yq(b:UInt8):IntKind.i64.wrap (b.toNat:Int)=(b.toNat:Int):=IntWalk.i64_in _ (by have:=UInt8.toNat_lt b;omega)
theorem ic(k:Nat){r:R->List T}(h: ∀x,(r x).length=k)(l:List R):Rows k (l.map r):=Rows.map l h
theorem ca(f:k->List T)(h:au l i=some x):(l.map f)[0+i.toNat]? =some (f x):=by rw[dr,ev,(mw h).2];rfl
theorem bJ(f:k->List T)(h:au l i=some x):0<=i/\i<((l.map f).length:Int):=by
 obtain⟨c,a⟩:=mw h
 have:=(bS.1 a).1;simp;omega
theorem Bp(f:k->List T)(h:au l i=some x)(e:(a.map f).length=(l.map f).length):0<=i/\i<((a.map f).length:Int):=by rw[e];exact bJ f h
theorem str(f:k->List T)(h:b' l i x=some r):r.map f=(l.map f).set (0+i.toNat) (f x):=by obtain⟨_,_,rfl⟩:=sJ h;rw[dr,List.map_set]
theorem nU{q:Prop}(h:p)(k:q):p/\q:=⟨h,k⟩
def j8(b:Int):Option Unit:=if b=0 then none else some ()
theorem rz{b:Int}{x:Unit}(h:j8 b=some x):b≠0:=by intro e;rw[j8,a1 e] at h;cases h
theorem ha(f:k->R){y:R}(h:au l i=some x)(e:f x=y):au (l.map f) i=some y:=e▸Od f h
theorem pk{a:Int}(f:k->R)(h:sub l a (l.length:Int)=some r):sub (l.map f) a ((l.map f).length:Int)=some (r.map f):=by rw[c5];exact q3 f h
theorem ab7{n:Int}{b:UInt8}(h:n=(b.toNat:Int)):IntKind.i64.wrap n=(b.toNat:Int):=h▸yq b
def gm(C:dM)(a:List ct)(s:S):Option (cQ×List df):=match p4 C 0 a s with
 |some (e,c,[])=>some (e,c)
 |_=>none
theorem ag3{K:Ctx}{C:dM}(m:C.Fits K)(i:List ct)(k:List Nat)(c:List (Nat×V))(d:List (Nat×Option E))(l:List (Nat×Bool))
  (h:l5 (gm C i s) ud (uf s k c d)=l5 (gm C i s) ue (ug True c d l)):s.le K (s.cl k c d l):=by
 obtain⟨e,q,a,n,o⟩:=On (K:=K) trivial h;unfold gm at a;split at a
 ·rename_i p;cases a;exact(qQ m p n).trans o
 cases a
def iO(c:List (Nat×cj))(s:S):List ResultVar->Option (List V)
 | []=>some []
 | .tmp t::d=>match iO c s d with
  |some e=>some (s.t t::e)
  |none=>none
 | .cell a t::d=>match tE c s.H t (s.t a) [],iO c s d with
  |some (v,[],[]),some e=>some (v::e)
  |_,_=>none
def nK:List V->V
 | [v]=>v
 |vs=> .bL vs
def la(c:Array Value)(r:ResultVar):Sem Value:=match r with
 | .tmp t=>pure (c.getD t undef)
 | .cell a t=>do loadVar t (<-asAddr (c.getD a undef))
theorem DM(d:Func)(a:Array Value):Go.results d a=(do let c<-d.results.mapM (la a);pure (if h:c.size=1 then c[0] else .tuple c)):=rfl
theorem Z0{P:Program}{i:List (Nat×cj)}(r:dU P i){K:Ctx}{a:Act}(m:Rel K D s a w){x:Nat}{t:TypeId}(h:tE i s.H t (s.t x) []=some (v,[],[])):
  ∃u,(la a.tmps (.cell x t)).run P w= .ok u w/\bn D w (own K D s.H) v u:=by
 have y:=LK (d:=none) (ty:=0) (pos:= "") (af:= #[]) (g:=none) (x:= .tmp x) r h trivial
 obtain⟨u,c,z⟩:=y D w (own K D s.H) a.eval (λid e A=>(m.heap id e A).2) ⟨m.cZ x,trivial⟩;refine⟨u,?_,z⟩;have bI:=m.cZ x;have n: ∃l,a.tmps.getD x undef= .pointer (some l):=by
  generalize a.tmps.getD x undef=q at bI;unfold tE at h;split at h
  ·cases h
  split at h
  ·rename_i o;rw[o] at bI;cases bI with|ref _ _ b _=>exact⟨_,rfl⟩
  ·rename_i o;rw[o] at bI;cases bI with|aP _ b B f _ _ _ _=>exact⟨_,rfl⟩
  ·split at h
   ·split at h<;>cases h
   ·split at h<;>cases h
   cases h
  cases h
 obtain⟨l,k⟩:=n;have F:a.eval (.tmp x)= .pointer (some l):=k;simp only[execOp,Instr.loadAt,F,Instr.sureAddr,Sem.run_bind,Sem.run_pure,Result.andThen_ok] at c;simp only[la,k,asAddr,Sem.run_bind,Sem.run_pure,Result.andThen_ok];cases p:(loadVar t l).run P w with
 |ok I L=>rw[p] at c;simp at c;obtain⟨rfl,rfl⟩:=c;rfl
 |_=>rw[p] at c;cases c
theorem Gn{P:Program}{e:List (Nat×cj)}(n:dU P e){K:Ctx}{D:Map}{s:S}{a:Act}{w:World}(m:Rel K D s a w): ∀{k:List ResultVar} {l:List V},iO e s k=some l->
  l.length=k.length/\ ∀(i:Nat) r v,k[i]? =some r->l[i]? =some v-> ∃u,(la a.tmps r).run P w= .ok u w/\bn D w (own K D s.H) v u
 | [],_,h=>by cases h;exact⟨rfl,λi r v h=>by simp at h⟩
 | .tmp t::k,l,h=>by
  simp only[iO] at h;split at h
  ·rename_i o p;cases h;obtain⟨aK,a2⟩:=Gn n m p;refine⟨by simp[aK],λi r v c d=>?_⟩;cases i with
   |zero=>simp at c d;subst c;subst d;exact⟨_,rfl,m.cZ t⟩
   |succ i=>simp at c d;exact a2 i r v c d
  cases h
 | .cell x t::k,l,h=>by
  simp only[iO] at h;split at h
  ·rename_i y o q p;cases h;obtain⟨aK,a2⟩:=Gn n m p;refine⟨by simp[aK],λi r v c d=>?_⟩;cases i with
   |zero=>simp at c d;subst c;subst d;exact Z0 n m q
   |succ i=>simp at c d;exact a2 i r v c d
  cases h
theorem XS{P:Program}{a:Array Value}{r:ResultVar}(h:d.results= #[r])(c:(la a r).run P w= .ok u w):(Go.results d a).run P w= .ok u w:=by rw[DM,h];simp[c]
theorem XR{P:Program}{a:Array Value}{r c:ResultVar}{v:Value}(h:d.results= #[r,c])(e:(la a r).run P w= .ok u w)(i:(la a c).run P w= .ok v w):(Go.results d a).run P w= .ok (.tuple #[u,v]) w:=by rw[DM,h];simp[e,i]
theorem XQ{P:Program}{a:Array Value}{r c:ResultVar}{v:Value}(h:d.results= #[r,e,c])(i:(la a r).run P w= .ok u w)(k:(la a e).run P w= .ok z w)(l:(la a c).run P w= .ok v w):
  (Go.results d a).run P w= .ok (.tuple #[u,z,v]) w:=by rw[DM,h];simp[i,k,l]
theorem XP{P:Program}{a:Array Value}{r c i:ResultVar}{v x:Value}(h:d.results= #[r,e,c,i])(k:(la a r).run P w= .ok u w)(l:(la a e).run P w= .ok z w)(m:(la a c).run P w= .ok v w)(n:(la a i).run P w= .ok x w):
  (Go.results d a).run P w= .ok (.tuple #[u,z,v,x]) w:=by rw[DM,h];simp[k,l,m,n]
theorem Kl{P:Program}{l:List (Nat×cj)}(U:dU P l){K:Ctx}{a:Act}(W:Rel K D s a w){e:List ResultVar}(q:d.results.toList=e){k:List V}(h:iO l s e=some k)(X:Nat.ble e.length 4=true):
  ∃u,(Go.results d a.tmps).run P w= .ok u w/\bn D w (own K D s.H) (nK k) u:=by
 obtain⟨Y,p⟩:=Gn U W h;have q:d.results=e.toArray:=by rw[<-q]
 match e,k,Y,p,X with
 | [],[],_,_,_=>exact⟨_,results_none q _ _ _,.bL [] #[] rfl λi c u h _=>by simp at h⟩
 | [r],[v],_,p,_=>
  obtain⟨u,aK,a2⟩:=p 0 r v rfl rfl;exact⟨u,XS q aK,a2⟩
 | [r,z],[v,A],_,p,_=>
  obtain⟨u,aK,a2⟩:=p 0 r v rfl rfl;obtain⟨R,B,F⟩:=p 1 z A rfl rfl;refine⟨_,XR q aK B,.bL _ _ rfl λi c u m o=>?_⟩
  match i with
  |0=>simp at m o;subst m;subst o;exact a2
  |1=>simp at m o;subst m;subst o;exact F
  |n+2=>simp at m
 | [r,z,x],[v,A,y],_,p,_=>
  obtain⟨u,aK,a2⟩:=p 0 r v rfl rfl;obtain⟨R,B,F⟩:=p 1 z A rfl rfl;obtain⟨I,L,Q⟩:=p 2 x y rfl rfl;refine⟨_,XQ q aK B L,.bL _ _ rfl λi c u m o=>?_⟩
  match i with
  |0=>simp at m o;subst m;subst o;exact a2
  |1=>simp at m o;subst m;subst o;exact F
  |2=>simp at m o;subst m;subst o;exact Q
  |n+3=>simp at m
 | [r,z,x,b],[v,A,y,f],_,p,_=>
  obtain⟨u,aK,a2⟩:=p 0 r v rfl rfl;obtain⟨R,B,F⟩:=p 1 z A rfl rfl;obtain⟨I,L,Q⟩:=p 2 x y rfl rfl;obtain⟨t,g,j⟩:=p 3 b f rfl rfl;refine⟨_,XP q aK B L g,.bL _ _ rfl λi c u m o=>?_⟩
  match i with
  |0=>simp at m o;subst m;subst o;exact a2
  |1=>simp at m o;subst m;subst o;exact F
  |2=>simp at m o;subst m;subst o;exact Q
  |3=>simp at m o;subst m;subst o;exact j
  |n+4=>simp at m
def OQ(c:List (Nat×cj))(d:List ResultVar)(r:V):Exit->S->Prop
 | .normal,s| .ret,s=> ∃a,iO c s d=some a/\dB (nK a) r
 |_,_=>False
def OP(d:List (Nat×cj))(e:List ResultVar)(r:V)(a:List E):Exit->S->Prop
 | .normal,s| .ret,s=> ∃c,iO d s e=some c/\dB (nK c) r/\r.ok (eZ a.length)=true/\lo s.H (eZ a.length) (eT a 0)
 |_,_=>False
section
variable {P:Program} {G:fc} {cb:List (Nat×cj)}
theorem Qf{r:V}{i:Nat}{a:List ResultVar}(A:dU P cb)(B:P.funcs[f]? =some d)(F:(d.name== "runtime.NumGoroutine")=false)(q:d.body=some c)(H:d.results.toList=a)(s:d.ntmps=i)
  (m:Nat.ble args.length i=true) (I:r.ok gp=true) (x:Nat.ble a.length 4=true)
  (h: ∀w X,dM.Fits ⟨P,G,cb,i,0,gS⟩ (Ctx.pure P G w X i)->cI (Ctx.pure P G w X i) c (start args) (OQ cb a r)):kO P G f args r:=by
 subst s;refine⟨MH B F q,?_⟩;intro w X L Q R D;have o:L.length<=d.ntmps:=by rw[D.length];exact d' m
 refine calls_of_wp B q (h w X (abe A _ w X) gS _ w _ (Rel.start Q R D o) ?_);intro e U W Y w' n k;have p:(∃y,iO cb U a=some y/\dB (nK y) r)->bodyPost P d (λe w'=> ∃u,e= .returned u/\Ext (λ_=>False) w w'/\bn gS w' X r u) .ret Y w':=by
  rintro⟨y,z,m⟩;obtain⟨u,g,bI⟩:=Kl A k H z x;have bI:=m _ _ _ _ bI;refine⟨k.defers,u,g,u,rfl,?_,?_⟩
  ·exact k.ext.weaken λb _ ⟨id,h,_⟩=>by simp[Ctx.pure] at h
  exact bI.under (u:=gp) (λb q=> .inl q) (λ_ h=>by simp[gp] at h) I
 cases e with
 |normal=>exact p n
 |ret=>exact p n
 |exit id=>exact n.elim
 |goto l=>exact n.elim
 |panic c=>exact n.elim
 |outgrown=>exact n.elim
def tD(a:Map):List E->Nat->Prop
 | [],_=>True
 | .arr _ g _ _::c,k=>(∃q,a k=some (q,g))/\tD a c (k+1)
 | .a8 _ _ g _ _::c,k=>(∃q,a k=some (q,g))/\tD a c (k+1)
 | .cells _::c,k=>True/\tD a c (k+1)
theorem LD{D:Map}: ∀(a:List E) (k:Nat),(∀(i:Nat) e g,a[i]? =some e->e.gen=some g-> ∃q,D (k+i)=some (q,g))->tD D a k
 | [],_,_=>trivial
 |e::a,k,h=>by
  have b7:=LD a (k+1) (λi e g c d=>by
   have:=h (i+1) e g (by simpa using c) d
   rwa [show k+(i+1)=k+1+i by omega] at this)
  cases e with
  |cells=>exact⟨trivial,b7⟩
  |arr _ g _ _=>exact⟨h 0 _ g rfl rfl,b7⟩
  |a8 _ _ g _ _=>exact⟨h 0 _ g rfl rfl,b7⟩
theorem afD{o:Func}{a out:List E}{r:V}{x y:Nat}{L:List ResultVar}(kt:dU P cb)(h7:P.funcs[f]? =some o)(cH:(o.name== "runtime.NumGoroutine")=false)(a':o.body=some c)(b7:o.results.toList=L)(Q:o.ntmps=x)(R:a.length=y)
  (z:Nat.ble args.length x=true) (A:Nat.ble y out.length=true) (U:Nat.ble L.length 4=true)
  (h: ∀w X d,dM.Fits ⟨P,G,cb,x,y,d⟩ (Ctx.dI P G w X y d x)->tD d a 0->cI (Ctx.dI P G w X y d x) c (lR a args) (OP cb L r out)):iT P G f a args r out:=by
 subst Q;subst R;refine⟨MH h7 cH a',?_⟩;intro w X d us kV hd aI fO;have B:us.length<=o.ntmps:=by rw[fO.length];exact d' z
 refine calls_of_wp h7 a' (h w X d (abd kt _ _ w X d) (LD a 0 (λk e g W bN=>by
  rw[dr];exact(oL (aI.heap k _ W) bN).2)) d _ w _ (Rel.lR kV hd aI fO B) ?_)
 intro e Y D tu w' q m;have F:(∃j,iO cb Y L=some j/\dB (nK j) r/\r.ok (eZ out.length)=true/\lo Y.H (eZ out.length) (eT out 0))->
   bodyPost P o (λe w'=> ∃u,∃i:Unit,∃β,e= .returned u/\True/\Left d β a out w w' X r u) .ret tu w':=by
  rintro⟨j,v,M,N,hH⟩;obtain⟨u,hu,bI⟩:=Kl kt m b7 v U;have bI:=M _ _ _ _ bI;have hm:a.length<=out.length:=d' A;let p:S:={t:=pv,H:=eT out 0,u:=eZ out.length}
  have I:mx a.length p.u=true:=by
   have: ∀n,n<=a.length->mx n p.u=true:=by
    intro n;induction n with
    |zero=>intro _;rfl
    |succ n ml=>intro cH;simp[mx,ml O,show p.u n=true from iV.2 O]
   exact this _ (cO _)
  have bP:=m.cut (s':=p) (oN.nil _ _) hH I;have eu:=Ea (K:=Ctx.dI P G w X a.length d o.ntmps) (β:=D) (s:=Y) (s':=p) hH;refine⟨m.defers,u,hu,u,(),cut D p.u,rfl,trivial,?_⟩;refine⟨m.ext.weaken λb _ ⟨id,_,h⟩=>⟨id,h⟩,bP.base,bP.iM,?_,?_,bP.inj,bP.fresh,?_,bI.under eu (λ_ h=>wT h) N⟩
  ·intro k W;apply bP.dK;cases T:p.u k with
   |false=>rfl
   |true=>have:=iV.1 T;omega
  ·intro k b W;apply bP.ec;cases T:p.u k with
   |false=>rfl
   |true=>have:=iV.1 T;omega
  intro k e he;exact(bP.heap k e (by rw[<-yr] at he;exact he)).2
 cases e with
 |normal=>exact F q
 |ret=>exact F q
 |exit id=>exact q.elim
 |goto l=>exact q.elim
 |panic c=>exact q.elim
 |outgrown=>exact q.elim
def w6(r:V):Option (List V)->Option V
 |some a=>some (lr r (nK a))
 |none=>none
theorem OW{a:List ResultVar}{r:V}(h:w6 r (iO cb s a)=some r): ∃c,iO cb s a=some c/\dB (nK c) r:=by
 cases d:iO cb s a with
 |none=>rw[d] at h;cases h
 |some c=>rw[d] at h;simp only[w6,Option.some.injEq] at h;exact⟨c,rfl,abI h⟩
theorem abH{c:List ResultVar}{r:V}{a:List E}(h:(w6 r (iO cb s c),tv s a 0,r.ok (eZ a.length)&&tT (eZ a.length) a)=(some r,tr a,true)):
  ∃d,iO cb s c=some d/\dB (nK d) r/\r.ok (eZ a.length)=true/\lo s.H (eZ a.length) (eT a 0):=by
 simp only[Prod.mk.injEq,Bool.and_eq_true] at h;obtain⟨l,m,n,o⟩:=h;obtain⟨d,aK,a2⟩:=OW l;refine⟨d,aK,a2,n,λk e i=>?_⟩;rw[yr] at i
 have:=LW m k e i;rw[dr] at this;exact⟨this,iV.2 (bS.1 i).1,MK o k e i⟩
end
theorem rY(f:k->List T)(ph:k)(h:app l [y]=some r):app (List.map f l) [f ph]=some (List.map f (l++[ph])):=by obtain⟨a,_⟩:=vO h;unfold app;rw[a1 (by simpa using a),fU];rfl
theorem l9(f:k->List T)(l:List k)(ph:k):(List.map f (l++[ph]))[(List.map f l).length+0]? =some (f ph):=by rw[fU,oD,gX (cO _),kd];rfl
theorem tY(f:k->List T)(l:List k){r:List T}(e:r=f y):(List.map f (l++[ph])).set ((List.map f l).length+0) r=List.map f (l++[y]):=by subst e;rw[fU,fU,oD,mH _ _ (cO _),kd];rfl
theorem rG(f:k->List T){x:List k}{r:List T}(h:app l [y]=some x)(e:r=f y):(List.map f (l++[ph])).set ((List.map f l).length+0) r=List.map f x:=by obtain⟨_,rfl⟩:=vO h;exact tY f l e
theorem rW(f:k->List T){x:List k}(a:k)(h:app l [y]=some x):(List.map f (l++[a])).length=(List.map f x).length:=by obtain⟨_,rfl⟩:=vO h;simp
theorem ae3(f:k->List T)(h:l.isEmpty=false):List.map f l≠[]:=by
 cases l with
 |nil=>cases h
 |cons=>simp
theorem fH(f:k->List T)(h:b' l i y=some r)(e:q=f y):(List.map f l).set (0+i.toNat) q=List.map f r:=by subst e;exact(str f h).symm
theorem hJ(f:k->List T)(h:au l i=some x)(e:q=f x):(List.map f l).set (0+i.toNat) q=List.map f l:=by subst e;have a:=ca f h;obtain⟨d,c⟩:=bS.1 a;rw[<-c,List.set_getElem_self]
theorem cF(f:k->List T)(h:b' l i x=some r):(l.map f).length=(r.map f).length:=by obtain⟨_,_,rfl⟩:=sJ h;simp
theorem jC{r:R}(h:(none:Option R)=some r):p:=by cases h
def jY{k:Type}(a b:List k):Option Unit:=if b.length=a.length then some () else none
theorem jc{b:List k}{u:Unit}(f:k->List T)(h:jY a b=some u):(a.map f).length=(b.map f).length:=by
 unfold jY at h;split at h
 ·simp;omega
 cases h
def Dl{k:Type}(f:k->List T):Option k->V
 |none=> .t .hi
 |some x=> .aP (f x)
theorem abD(f:k->List T)(o:Option k)(b:Bool):(V.bL [Dl f o,aM b]).ok gp=true:=by cases o<;>rfl
theorem yI{P:Program}{G:fc}[Inhabited R]{r:R->List T}(h:o.isSome=true)(k:kO P G f args (V.bL [Dl r o,v])):kO P G f args (V.bL [V.aP (r (o.getD default)),v]):=by
 cases o with
 |none=>cases h
 |some x=>exact k
theorem yH{P:Program}{G:fc}{r:R->List T}(h:o.isSome=false)(k:kO P G f args (V.bL [Dl r o,v])):kO P G f args (V.bL [V.t .hi,v]):=by
 cases o with
 |none=>exact k
 |some x=>cases h
theorem aa9(f:k->List T)(l:List k):(l.map f).length=((l.take l.length).map f).length:=by rw[c6]
theorem Mj(f:k->List T)(l:List k)(a:0<=i)(c:i<(l.length:Int)):
  0<=i/\i<=((l.map f).length:Int)/\((l.map f).length:Int)<=((l.map f).length:Int)/\(i=0\/i<((l.map f).length:Int))/\i.toNat=0+i.toNat/\l.length-i.toNat=((l.map f).length:Int).toNat-i.toNat:=by rw[c5];omega
theorem OX(f:R->List T)(l:List R)(k:Nat):(l.take k).map f=(l.map f).take k:=tb
section
set_option linter.unusedVariables false
def eL{k:Type}(l:List k)(i j:Int):Nat:=i.toNat+(l.length-j.toNat)
def mZ{k:Type}(l:List k)(i j:Int):List k:=l.take i.toNat++l.drop j.toNat++l.drop (eL l i j)
def jP{k:Type}(l:List k)(i j:Int)(z:k):List k:=l.take i.toNat++l.drop j.toNat++List.replicate (l.length-eL l i j) z
theorem ME(l:List k)(a:0<=i)(c:i<=j)(d:j<=(l.length:Int)):(mZ l i j).length=l.length:=by unfold mZ eL;simp only[List.length_append,List.length_take,List.length_drop];omega
theorem ab'(f:k->List T)(l:List k)(a:0<=i)(c:i<=j)(d:j<=(l.length:Int)):0<=i/\i<=j/\j<=(l.length:Int)/\(l.length:Int)<=((l.map f).length:Int):=by rw[c5];omega
theorem O9(f:k->List T)(l:List k)(a:0<=i)(c:i<=j)(d:j<=(l.length:Int)):
  (0:Int)<=0/\(0:Int)<=i/\i<=((l.map f).length:Int)/\((0:Int)=0\/(0:Int)<((l.map f).length:Int))/\0=0+(0:Int).toNat/\i.toNat=i.toNat-(0:Int).toNat:=
 ⟨gx _,a,by rw[c5];omega,.inl rfl,rfl,rfl⟩
theorem ab9(f:k->List T)(l:List k)(a:0<=i)(c:i<=j)(d:j<=(l.length:Int))(e: ¬j<(l.length:Int)):0<=j/\j=((l.map f).length:Int)/\((l.map f).length:Int)<=((l.map f).length:Int):=by rw[c5];omega
theorem abA(f:k->List T)(l:List k)(a:0<=i)(c:i<=j)(d:j<=(l.length:Int)):i.toNat+(l.length-j.toNat)<=(l.map f).length:=by rw[c5];omega
theorem abL(f:k->List T)(l:List k)(a:0<=i)(c:i<=j)(d:j<=(l.length:Int)):j.toNat+(l.length-j.toNat)<=(l.map f).length:=by rw[c5];omega
theorem abK(f:k->List T)(l:List k)(i j:Int):(mZ l i j).map f=(l.map f).take i.toNat++((l.map f).drop j.toNat).take (l.length-j.toNat)++(l.map f).drop (i.toNat+(l.length-j.toNat)):=by unfold mZ eL;rw[fU,fU,tb,List.map_drop,List.map_drop,ji (l:=(l.map f).drop j.toNat) (by rw[fq,c5];omega)]
theorem O'(f:R->List T)(l r:List R){k:Nat}(d:0<k)(e:0<=i)(h:i<j)(n:j<=(l.length:Int))(a:r.length=l.length){m:Nat}(c:m=eL l i j):
  0<k/\(0:Int)<=(m:Int)/\(m:Int)<(l.length:Int)/\((0:Nat):Int)+(l.length:Int)<=((r.map f).length:Int)/\m=0+(m:Int).toNat/\l.length-m=(l.length:Int).toNat-(m:Int).toNat:=by rw[c5,a,c];unfold eL;omega
theorem ab8(f:k->List T)(l:List k)(z:k)(c:0<=i)(h:i<j)(d:j<=(l.length:Int)):
  eL l i j+(l.length-eL l i j)<=((mZ l i j).map f).length/\(jP l i j z).map f=((mZ l i j).map f).take (eL l i j)++List.replicate (l.length-eL l i j) (f z)++((mZ l i j).map f).drop (eL l i j+(l.length-eL l i j)):=by
 have cD:=ME l c (O:i<=j) d;have a:(l.take i.toNat++l.drop j.toNat).length=eL l i j:=by
  unfold eL;simp only[List.length_append,List.length_take,List.length_drop];omega
 have e:eL l i j<=l.length:=by unfold eL;omega
 refine⟨by rw[c5,cD];omega,?_⟩;rw[kJ (as:=(mZ l i j).map f) (by rw[c5,cD];omega),kK,<-tb];unfold jP mZ;rw[fU,List.map_replicate,pE (by rw[a];exact cO _),ji (l:=l.take i.toNat++l.drop j.toNat) (by rw[a];exact cO _)]
theorem abJ(f:k->List T)(l:List k)(z:k)(c:0<=i)(d:i<j)(e:j<=(l.length:Int))(h: ¬j<(l.length:Int)):
  i.toNat+(l.length-i.toNat)<=(l.map f).length/\(jP l i j z).map f=(l.map f).take i.toNat++List.replicate (l.length-i.toNat) (f z)++(l.map f).drop (i.toNat+(l.length-i.toNat)):=by
 refine⟨by rw[c5];omega,?_⟩;have a:eL l i j=i.toNat:=by unfold eL;omega
 unfold jP;rw[a,kJ (as:=l) (i:=j.toNat) O,kK,kJ (as:=l.map f) (by rw[c5];omega),kK,fU,tb,List.map_replicate]
theorem Pb(f:k->List T)(l:List k)(z:k)(a:0<=i)(c:i<j)(d:j<=(l.length:Int)):eL l i j=(((jP l i j z).take (eL l i j)).map f).length:=by unfold jP eL;simp only[List.length_map,List.length_take,List.length_append,List.length_replicate,List.length_drop];omega
theorem Pc(l:List k)(a:j<=(l.length:Int))(c: ¬j<(l.length:Int)):i.toNat=eL l i j:=by unfold eL;omega
end
theorem vA(h:b' l i x=some r)(y:k):b' l i y=some (l.set i.toNat y):=by obtain⟨a,c,_⟩:=sJ h;unfold b';rw[a1 ⟨a,c⟩]
theorem tC(h:b' l i x=some r)(y:k):au (l.set i.toNat y) i=some y:=by obtain⟨a,c,_⟩:=sJ h;unfold au;rw[a1 a,hr O]
theorem vz(h:b' l i x=some r)(y:k):b' (l.set i.toNat y) i x=some r:=by obtain⟨a,c,rfl⟩:=sJ h;unfold b';rw[a1 ⟨a,by rw[eV];exact c⟩,List.set_set]
theorem Bo{u:Unit}(f:k->List T)(c:jY a l=some u)(h:au l i=some x):0<=i/\i<((a.map f).length:Int):=by have:=bJ f h;rw[jc f c];exact this
theorem OT{u:Unit}(f:k->List T)(c:jY a l=some u):(a.map f).length=l.length:=(jc f c).trans (OU f l)
theorem A6(h:b' l i x=some r):au r i=some x:=by obtain⟨a,c,rfl⟩:=sJ h;unfold au;rw[a1 a,hr O]
end Go.Lift
