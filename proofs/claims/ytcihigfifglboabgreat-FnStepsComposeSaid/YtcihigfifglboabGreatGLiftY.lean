/- Tools. -/
import Derived.Test.YtcihigfifglboabGreatGLiftV
namespace Go.Lift
open Go
section
def cP.cat(a b:cP):cP:=⟨a.eD++b.eD,a.hs++b.hs,a.us++b.us⟩
def cP.nil:cP:=⟨[],[],[]⟩
theorem Mg{k:Type}: ∀(a b:List (Nat×k)) (f:Nat->k),de f (a++b)=de (de f a) b
 | [],_,_=>rfl
 |(d,v)::a,b,f=>by simp only[List.cons_append,de];exact Mg a b _
theorem nc(a b:cP)(s:S):(a.cat b).app s=b.app (a.app s):=by unfold cP.app cP.cat;simp only[Mg]
theorem mb{k:Type}: ∀(l:List (Nat×k)) (f:Nat->k) (r:Nat),((∀v,(r,v)∉l)/\de f l r=f r)\/ ∃v,(r,v)∈l/\de f l r=v
 | [],_,_=> .inl ⟨λ_ h=>(List.not_mem_nil h).elim,rfl⟩
 |(d,v)::l,f,r=>by
  rcases mb l (aU f d v) r with ⟨c,a⟩|⟨e,c,a⟩
  ·by_cases i:r=d
   ·subst i;exact .inr ⟨v,eR,by rw[de,a,bW]⟩
   refine .inl ⟨λe h=>?_,by rw[de,a,bX _ _ _ _ i]⟩;rcases dN.1 h with h|h
   ·cases h;exact i rfl
   exact c e h
  exact .inr ⟨e,ev _ c,by rw[de,a]⟩
mutual
def lo:V->V->V
 | .t (.aD _),v=>nm v
 | .agg cs,.agg a=> .agg (p4 cs a)
 | .bL cs,.bL a=> .bL (p4 cs a)
 | .c3,_=> .c3
 |_,v=>v
def p4:List V->List V->List V
 |c::cs,v::a=>lo c v::p4 cs a
 |_,a=>a
end
mutual
theorem FI: ∀c v:V,dz v (lo c v)
 | .t (.aD _),v=>by simp only[lo];exact tv v
 | .agg cs,.agg a=>by simp only[lo];exact dz.agg (AH cs a)
 | .bL cs,.bL a=>by simp only[lo];exact dz.bL (AH cs a)
 | .c3,v=>by simp only[lo];exact dz.c3 v
 | .t (.bool _),v| .t (.int _ _),v| .t (.str _),v| .t .fj,v| .t .hf,v| .t .gp,v| .t .nl,v| .t .err,v=>by simp only[lo];exact dz.refl v
 | .ref _ _,v| .aP _,v| .bc _ _ _ _ _,v| .cB _ _ _ _ _,v| .fn _ _,v=>by simp only[lo];exact dz.refl v
 | .agg _,.t _| .agg _,.bL _| .agg _,.ref _ _| .agg _,.aP _| .agg _,.bc _ _ _ _ _| .agg _,.cB _ _ _ _ _| .agg _,.fn _ _| .agg _,.c3=>by simp only[lo];exact dz.refl _
 | .bL _,.t _| .bL _,.agg _| .bL _,.ref _ _| .bL _,.aP _| .bL _,.bc _ _ _ _ _| .bL _,.cB _ _ _ _ _| .bL _,.fn _ _| .bL _,.c3=>by simp only[lo];exact dz.refl _
theorem AH: ∀cs a:List V,fo a (p4 cs a)
 |c::cs,v::a=>by simp only[p4];exact⟨FI c v,AH cs a⟩
 | [],a=>by simp only[p4];exact fo.refl a
 |_::_,[]=>by simp only[p4];exact trivial
end
def Bn:Option E->Option E->Option E
 |some (.cells cs),some (.cells a)=>some (.cells (p4 cs a))
 |some _,e=>e
 |none,_=>none
variable {c:List (List T)}{e:TypeId}{x:E}{β D:Map}{w:World}{r l:List Nat}{m k i n gen b L g:Nat}{q:Option Nat}{X Y:Nat->Prop}{u:Value}{o:Oper}
theorem NS{c e:Option E}(h:Bn c e=some x): ∃a,e=some a/\jh a x:=by
 unfold Bn at h;split at h
 ·cases h;exact⟨_,rfl,AH _ _⟩
 ·exact⟨x,h,jh.refl x⟩
 cases h
def tE(s:S):List (Nat×V)->List V
 | []=>[]
 |(i,v)::l=>lo v (s.t i)::tE s l
def tI(s:S):List (Nat×Option E)->List (Option E)
 | []=>[]
 |(k,e)::l=>Bn e (s.H k)::tI s l
def kd{k:Type}:List (Nat×k)->List k
 | []=>[]
 |(_,v)::l=>v::kd l
theorem Fc{s:S}: ∀{l:List (Nat×V)},tE s l=kd l-> ∀i v,(i,v)∈l->dz (s.t i) v
 |(a,c)::l,h,i,v,hm=>by
  simp only[tE,kd,List.cons.injEq] at h;rcases dN.1 hm with hm|hm
  ·cases hm;exact h.1▸FI _ _
  exact Fc h.2 i v hm
theorem Fs{s:S}: ∀{l:List (Nat×Option E)},tI s l=kd l-> ∀k e,(k,some e)∈l-> ∃a,s.H k=some a/\jh a e
 |(c,a)::l,h,k,e,hm=>by
  simp only[tI,kd,List.cons.injEq] at h;rcases dN.1 hm with hm|hm
  ·cases hm;exact NS h.1
  exact Fs h.2 k e hm
def rf{k:Type}(a:List Nat):List (Nat×k)->Bool
 | []=>true
 |(i,_)::l=>hn i a&&rf a l
theorem ET{k:Type}{r:List Nat}: ∀{l:List (Nat×k)},rf r l=true-> ∀i v,(i,v)∈l->i∈r
 |(a,c)::l,h,i,v,hm=>by
  simp only[rf,Bool.and_eq_true] at h;rcases dN.1 hm with hm|hm
  ·cases hm;exact zM h.1
  exact ET h.2 i v hm
def w5{k:Type}:List (Nat×k)->List Nat
 | []=>[]
 |(i,_)::l=>i::w5 l
theorem Mr{k:Type}{i:Nat}: ∀{l:List (Nat×k)},i∈w5 l-> ∃v,(i,v)∈l
 |(d,a)::l,h=>by
  simp only[w5,List.mem_cons] at h;rcases h with rfl|h
  ·exact⟨a,eR⟩
  obtain⟨v,c⟩:=Mr h;exact⟨v,ev _ c⟩
def Bb(a:List Nat)(t:Nat->V):Nat->V:=λi=>bif hn i a then .c3 else t i
def S.cl(s:S)(a:List Nat)(c:List (Nat×V))(d:List (Nat×Option E))(e:List (Nat×Bool)):S:={t:=de (Bb a s.t) c,H:=de s.H d,u:=de s.u e}
theorem Rel.I7{K:Ctx}{s c:S}{a:Act}(l:Rel K β s a w)(n:c.u=s.u)(x: ∀k e,c.H k=some e-> ∃m,s.H k=some m/\jh m e)(y: ∀i,dz (s.t i) (c.t i)):Rel K β c a w:=by
 have d: ∀b,own K β c.H b->own K β s.H b:=by
  rintro b (h|⟨id,p,q⟩)
  ·exact .inl h
  cases o:c.H id with
  |none=>exact bA o p
  |some e=>
   obtain⟨m,r,_⟩:=x id e o;exact .inr ⟨id,by rw[r];simp,q⟩
 refine {l with low:= ?_,dJ:= ?_,eb:= ?_,heap:= ?_,cZ:= ?_}
 ·intro id h;rw[n];exact l.low id h
 ·intro id h;rw[n] at h;exact l.dJ id h
 ·intro id b h;rw[n] at h;exact l.eb id b h
 ·intro id e o;obtain⟨m,p,q⟩:=x id e o;obtain⟨r,z⟩:=l.heap id m p;refine⟨by rw[n];exact r,?_⟩;exact(q.vc z).mono (Ext.refl _ _) (λb _=>d b) (dr.refl _) (λ_ h=>h) (Shaped.refl _ _) λ_ _=>rfl
 intro i;exact(y i _ _ _ _ (l.cZ i)).mono (Ext.refl _ _) (λb _=>d b) (dr.refl _) (Shaped.refl _ _)
theorem aa3{K:Ctx}{s:S}{e:cP}{d:List (Nat×V)}{c:List (Nat×Option E)}{m:List (Nat×Bool)}(A:e.us=m)(B:rf r e.eD=true)(D:rf (w5 c) e.hs=true)
  (F:tE (e.app s) d=kd d) (G:tI (e.app s) c=kd c):(e.app s).le K (s.cl r d c m):=by
 intro I a w L;refine⟨I,L.I7 ?_ ?_ ?_⟩
 ·show de s.u m=de s.u e.us;rw[A]
 ·intro k x o;have o:de s.H c k=some x:=o;rcases mb c s.H k with ⟨p,n⟩|⟨v,p,n⟩
  ·rw[n] at o;refine⟨x,?_,jh.refl x⟩;show de s.H e.hs k=some x;rw[mj _ _ _ λv q=>?_]
   ·exact o
   obtain⟨Q,y⟩:=Mr (ET D k v q);exact p Q y
  rw[n] at o;subst o;exact Fs G k x p
 intro i;show dz _ (de (Bb r s.t) d i);rcases mb d (Bb r s.t) i with ⟨p,n⟩|⟨v,p,n⟩
 ·rw[n];unfold Bb;cases z:hn i r with
  |true=>exact dz.c3 _
  |false=>
   show dz (de s.t e.eD i) (s.t i);rw[mj _ _ _ (λv q=>by
    have hm:=ET B i v q
    have: ∀{l:List Nat},i∈l->hn i l=true:=by
     intro l;induction l with
     |nil=>intro h;cases h
     |cons x l R=>
      intro h;simp only[hn];rcases dN.1 h with rfl|h
      ·simp
      cases Nat.beq x i with
      |true=>rfl
      |false=>exact R h
    rw[this hm] at z;cases z)]
   exact dz.refl _
 rw[n];exact Fc F i v p
theorem Mf{k:Type}(f:Nat->k)(i:Nat):aU f i (f i)=f:=by
 funext j;by_cases a:j=i
 ·subst a;rw[bW]
 rw[bX _ _ _ _ a]
def Map.move(a:Map)(k c gen:Nat)(q:Option Nat):Map:=
 ⟨λi=>bif Nat.beq i c then some (q,1) else bif Nat.beq i k then some (none,gen+1) else a i,λi b=>(i=c/\a.n k b)\/(i≠c/\i≠k/\a.n i b)⟩
theorem Gv(h:i≠k):Nat.beq i k=false:=by
 cases a:Nat.beq i k with
 |false=>rfl
 |true=>exact bA (cK a) h
theorem Fz(c:Map)(k a gen:Nat)(q:Option Nat):c.move k a gen q a=some (q,1):=by simp[Map.move]
theorem Fy(c:Map)(k a gen:Nat)(q:Option Nat)(h:k≠a):c.move k a gen q k=some (none,gen+1):=by simp[Map.move,Gv h]
theorem Ei(a:Map)(k c gen:Nat)(q:Option Nat)(id:Nat)(h:id≠k)(d:id≠c):a.move k c gen q id=a id:=by simp[Map.move,Gv h,Gv d]
theorem N7(c:Map)(k d gen:Nat)(q:Option Nat)(a b:Nat)(h:a≠k)(e:a≠d):(c.move k d gen q).n a b↔c.n a b:=by simp[Map.move,h,e]
theorem NC(d:k≠n)(e:D k=some (q,gen))(h:At (D.move k n gen q) i b):(i=n/\At D k b)\/(i≠k/\i≠n/\At D i b):=by
 rcases h with ⟨g,h⟩|⟨rfl,h⟩|⟨a,c,h⟩
 ·by_cases a:i=n
  ·subst a;rw[Fz] at h;cases h;exact .inl ⟨rfl,.inl ⟨gen,e⟩⟩
  by_cases c:i=k
  ·subst c;rw[Fy _ _ _ _ _ d] at h;cases h
  rw[Ei _ _ _ _ _ _ c a] at h;exact .inr ⟨c,a,.inl ⟨g,h⟩⟩
 ·exact .inl ⟨rfl,.inr h⟩
 exact .inr ⟨c,a,.inr h⟩
theorem V2{K:Ctx}{s:S}(i k b1 gen d B D:Nat){p:List (List T)}(M:Nat.ble K.c' k=true)(R:k≠b1)(aH:s.t i= .bc k gen d B D)(U:s.H k=some (.arr e gen d p))(N:s.u b1=false):
  s.le K {t:=aU s.t i (.bc b1 1 d B D),H:=aU (aU s.H k none) b1 (some (.arr e 1 d p)),u:=aU s.u b1 true}:=by
 intro L a w h;have mh:=ea M;obtain⟨q,W⟩:=i' (h.heap k _ U).2;have P:=(h.heap k _ U).2.1;have V:=(h.heap k _ U).1;have cv:=h.dJ b1 N;have ac3:K.c'<=b1:=by
  apply Nat.le_of_not_lt;intro hlt;rw[h.low b1 hlt] at N;cases N
 let m:=L.move k b1 gen q;have f:m b1=some (q,1):=Fz _ _ _ _ _;have cu:m k=some (none,gen+1):=Fy _ _ _ _ _ R;have E: ∀id,id≠k->id≠b1->m id=L id:=λid l y=>Ei _ _ _ _ _ _ l y;have r: ∀id b,At m id b->(id=b1/\At L k b)\/(id≠k/\id≠b1/\At L id b):=by
  intro id b G;exact NC R W G
 have X:dr L m:=by
  intro id q2 g F;by_cases y:id=k
  ·subst y;rw[W] at F;cases F;exact .inr ⟨P,none,gen+1,cu,mJ _⟩
  have l:id≠b1:=by intro e;subst e;rw[cv] at F;cases F
  exact .inl (by rw[E id y l];exact F)
 have A: ∀b,own K m (aU (aU s.H k none) b1 (some (.arr e 1 d p))) b->own K L s.H b:=by
  rintro b (F|⟨id,l,y⟩)
  ·exact .inl F
  rcases r id b y with ⟨rfl,z⟩|⟨z,Y,Q⟩
  ·exact .inr ⟨k,by rw[U];simp,z⟩
  rw[bX _ _ _ _ Y,bX _ _ _ _ z] at l;exact .inr ⟨id,l,Q⟩
 refine⟨m,{h with base:= ?_,low:= ?_,dJ:= ?_,eb:= ?_,inj:= ?_,fresh:= ?_,heap:= ?_,cZ:= ?_}⟩
 ·exact h.base.keep λid hid=>E id O O
 ·intro id hid;show aU s.u b1 true id=true;rw[bX _ _ _ _ O];exact h.low id hid
 ·intro id hid;have c:aU s.u b1 true id=false:=hid;by_cases l:id=b1
  ·subst l;rw[bW] at c;cases c
  rw[bX _ _ _ _ l] at c;rw[E id (by intro e;subst e;rw[V] at c;cases c) l];exact h.dJ id c
 ·intro id b hid G;have c:aU s.u b1 true id=false:=hid;rcases G with ⟨l,_⟩|⟨l,_,G⟩
  ·subst l;rw[bW] at c;cases c
  rw[bX _ _ _ _ l] at c;exact h.eb id b c G
 ·intro id jZ b l y;rcases r id b l with ⟨rfl,z⟩|⟨z,Y,Q⟩<;>rcases r jZ b y with ⟨e2,h6⟩|⟨h6,lD,kR⟩
  ·exact e2.symm
  ·exact bA (h.inj _ _ b kR z) h6
  ·subst e2;exact bA (h.inj _ _ b Q h6) z
  exact h.inj _ _ b Q kR
 ·intro id b G;rcases r id b G with ⟨rfl,z⟩|⟨z,Y,Q⟩
  ·refine⟨?_,(h.fresh _ _ z).2⟩;exact(h.fresh _ _ z).1
  exact h.fresh id b Q
 ·intro id e' o;have o:aU (aU s.H k none) b1 (some (.arr e 1 d p)) id=some e':=o;show aU s.u b1 true id=true/\cF m w (own K m (aU (aU s.H k none) b1 (some (.arr e 1 d p)))) id e';by_cases l:id=b1
  ·subst l;rw[bW] at o;cases o;refine⟨bW _ _ _,cN _,?_⟩;rcases(h.heap k _ U).2.2 with ⟨aJ,a2⟩|⟨b,us,aJ,a2,a3,a4,a5⟩
   ·rw[W] at aJ;cases aJ;exact .inl ⟨f,a2⟩
   rw[W] at aJ;cases aJ;exact .inr ⟨b,us,f,a2,a3,a4,λi j row x u c1 c2 eT=>(a5 i j row x u c1 c2 eT).mono (Ext.refl _ _) λb _=>A b⟩
  rw[bX _ _ _ _ l] at o⊢;by_cases y:id=k
  ·subst y;rw[bW] at o;cases o
  rw[bX _ _ _ _ y] at o;obtain⟨z,Y⟩:=h.heap id e' o;exact⟨z,Y.mono (Ext.refl _ _) (λb _=>A b) X (λx F=>by rw[E id y l];exact F) (Shaped.refl _ _) (λ_ _=>rfl) λb=>N7 _ _ _ _ _ _ _ y l⟩
 intro j;show bn m w _ (aU s.t i (.bc b1 1 d B D) j) _;by_cases hj:j=i
 ·subst hj;rw[bW];have l:=h.cZ j;rw[aH] at l;generalize a.tmps.getD j undef=v at l;rcases e8 l W with ⟨cap,b,n,hh,rfl,I,hw,hs,o0,cD,hm⟩|⟨I,rfl,rfl,rfl⟩
  ·subst I;exact .bc b1 1 d B D cap b n hh (cN _) f hw hs o0 cD hm
  subst I;exact .hd b1 1 d (cN _) f
 rw[bX _ _ _ _ hj];exact(h.cZ j).mono (Ext.refl _ _) (λb _=>A b) X (Shaped.refl _ _)
theorem cF.set{a:List V}{j:Nat}{c x:V}(h:cF β w X b (.cells a))(k:a[j]? =some c)(o: ∀u,bn β w X c u->bn β w X x u):cF β w X b (.cells (a.set j x)):=by
 obtain⟨p,q,ty,r,s,y,l⟩:=h;refine⟨p,q,ty,r,s,by simpa using y,λi v u d m=>?_⟩;by_cases n:i=j
 ·subst n;have e:=(bR.1 k).1;rw[hq e] at d;cases d;exact o u (l i c u k m)
 rw[je (kH n)] at d;exact l i v u d m
theorem Ul{K:Ctx}{s:S}(b k i j gen p:Nat){n:List (List T)}{L:List dO}{Q:Nat}{l:List (List T)}{R:List (Nat×Nat×V)}(U:Nat.ble K.c' k=true)(W:b≠k)
  (a8:s.H b=some (.a' L m Q l ((i,j,.bc k gen p 0 n.length)::R))) (hk:s.H k=some (.arr e gen p n)):
  s.le K {t:=s.t,H:=aU (aU s.H k none) b (some (.a' L m Q l ((i,j,.t (.aD n))::R))),u:=s.u}:=by
 intro y a w h;have mh:=ea U;generalize fr:(some (.a' L m Q l ((i,j,.t (.aD n))::R)):Option E)=N;have af1:N≠none:=by subst fr;simp
 have d: ∀o,own K y (aU (aU s.H k none) b N) o->own K y s.H o:=by
  rintro o (X|⟨id,q,G⟩)
  ·exact .inl X
  by_cases z:id=b
  ·subst z;exact .inr ⟨id,by rw[a8];simp,G⟩
  rw[bX _ _ _ _ z] at q;by_cases r:id=k
  ·subst r;rw[bW] at q;exact bA rfl q
  rw[bX _ _ _ _ r] at q;exact .inr ⟨id,q,G⟩
 have A: ∀o,At y k o-> ¬own K y (aU (aU s.H k none) b N) o:=by
  rintro o D (X|⟨id,q,G⟩)
  ·obtain⟨fZ,ih⟩:=h.il o X;rcases(h.fresh k o D).1 with Y|iC
   ·exact ih Y
   omega
  have:=h.inj _ _ _ G D;subst this;rw[bX _ _ _ _ (kH W),bW] at q;exact q rfl
 have f:=(h.heap k _ hk).2;refine⟨y,{h with heap:= ?_,cZ:= ?_}⟩
 ·intro id e' c;have c:aU (aU s.H k none) b N id=some e':=c;by_cases z:id=b
  ·subst z;rw[bW] at c;subst c;cases fr;obtain⟨r,I⟩:=h.heap id _ a8;refine⟨r,I.1,?_⟩;rcases I.2 with ⟨aJ,a2,a3⟩|⟨o,us,B,aJ,a2,a3,a4,a5,hV,iw,fc⟩
   ·exact .inl ⟨aJ,a2,a3⟩
   refine .inr ⟨o,us,B,aJ,a2,a3,a4,λiD cV g x u cT cu eN=>?_,hV,iw,fc⟩;have M:=a5 iD cV g x u cT cu eN;refine⟨λv bJ=>?_,λF=>?_⟩
   ·rcases dN.1 bJ with e|bJ
    ·simp only[Prod.mk.injEq] at e;obtain⟨rfl,rfl,rfl⟩:=e;obtain⟨P,d2⟩:=M.1 _ eR;exact⟨.t _ _ (f.read P d A),d2⟩
    obtain⟨P,d2⟩:=M.1 v (ev _ bJ);exact⟨P.mono (Ext.refl _ _) (λb _=>d b) (dr.refl _) (Shaped.refl _ _),d2⟩
   have hne: ¬(iD=i/\cV=j):=by rintro⟨rfl,rfl⟩;exact F _ eR
   refine(M.2 λv bJ=>?_).mono (Ext.refl _ _) (λb _=>d b) λ_ _=>rfl;rcases dN.1 bJ with e|bJ
   ·simp only[Prod.mk.injEq] at e;exact hne ⟨e.1,e.2.1⟩
   exact F v (ev _ bJ)
  rw[bX _ _ _ _ z] at c;by_cases r:id=k
  ·subst r;rw[bW] at c;cases c
  rw[bX _ _ _ _ r] at c;obtain⟨I,h6⟩:=h.heap id e' c;exact⟨I,h6.mono (Ext.refl _ _) (λb _=>d b) (dr.refl _) (λ_ h=>h) (Shaped.refl _ _) λ_ _=>rfl⟩
 intro i;exact(h.cZ i).mono (Ext.refl _ _) (λb _=>d b) (dr.refl _) (Shaped.refl _ _)
theorem Un{K:Ctx}{s:S}(b j k gen n:Nat){r:List V}(F:Nat.ble K.c' k=true)(G:s.H b=some (.cells r))(W:r[j]? =some (.bc k gen n 0 c.length))(I:s.H k=some (.arr e gen n c)):
  s.le K {t:=s.t,H:=aU (aU s.H k none) b (some (.cells (r.set j (.t (.aD c))))),u:=s.u}:=by
 intro x a w h;have g:=ea F;have L:b≠k:=by intro e;subst e;rw[G] at I;cases I
 have l: ∀m,own K x (aU (aU s.H k none) b (some (.cells (r.set j (.t (.aD c)))))) m->own K x s.H m:=by
  rintro m (Q|⟨id,o,B⟩)
  ·exact .inl Q
  by_cases y:id=b
  ·subst y;exact .inr ⟨id,by rw[G];simp,B⟩
  rw[bX _ _ _ _ y] at o;by_cases p:id=k
  ·subst p;rw[bW] at o;exact bA rfl o
  rw[bX _ _ _ _ p] at o;exact .inr ⟨id,o,B⟩
 have z: ∀m,At x k m-> ¬own K x (aU (aU s.H k none) b (some (.cells (r.set j (.t (.aD c)))))) m:=by
  rintro m A (Q|⟨id,o,B⟩)
  ·obtain⟨fZ,E⟩:=h.il m Q;rcases(h.fresh k m A).1 with q|M
   ·exact E q
   omega
  have:=h.inj _ _ _ B A;subst this;rw[bX _ _ _ _ (kH L),bW] at o;exact o rfl
 have R:=(h.heap k _ I).2;refine⟨x,{h with heap:= ?_,cZ:= ?_}⟩
 ·intro id e' d;have d:aU (aU s.H k none) b (some (.cells (r.set j (.t (.aD c))))) id=some e':=d;by_cases y:id=b
  ·subst y;rw[bW] at d;cases d;obtain⟨p,U⟩:=h.heap id _ G;refine⟨p,?_⟩;obtain⟨m,N,ty,P,g2,g3,X⟩:=U;refine⟨m,N,ty,P,g2,by simpa using g3,λi v u D Y=>?_⟩;by_cases f:i=j
   ·subst f;have q:=(bR.1 W).1;rw[hq q] at D;cases D;exact .t _ _ (R.read (X i _ u W Y) l z)
   rw[je (kH f)] at D;exact(X i v u D Y).mono (Ext.refl _ _) (λb _=>l b) (dr.refl _) (Shaped.refl _ _)
  rw[bX _ _ _ _ y] at d;by_cases p:id=k
  ·subst p;rw[bW] at d;cases d
  rw[bX _ _ _ _ p] at d;obtain⟨U,h6⟩:=h.heap id e' d;exact⟨U,h6.mono (Ext.refl _ _) (λb _=>l b) (dr.refl _) (λ_ h=>h) (Shaped.refl _ _) λ_ _=>rfl⟩
 intro i;exact(h.cZ i).mono (Ext.refl _ _) (λb _=>l b) (dr.refl _) (Shaped.refl _ _)
theorem WZ{K:Ctx}{s:S}{c:Nat}(b j k:Nat)(e:TypeId){A:List V}(F:s.u k=false)(U:s.H b=some (.cells A))(f:A[j]? =some (.t .fj)):
  s.le K {t:=s.t,H:=aU (aU s.H k (some (.arr e 1 c []))) b (some (.cells (A.set j (.bc k 1 c 0 0)))),u:=aU s.u k true}:=by
 intro p a w h;have cv:=h.dJ k F;have W:b≠k:=by intro e;subst e;have:=(h.heap b _ U).1;rw[this] at F;cases F
 have q: ∀id x,p id=some x->p.put k (some (none,1)) id=some x:=λid x l=>by
  rw[ek _ _ _ _ (by intro e;subst e;rw[cv] at l;cases l)];exact l
 have G:=dr.of q;have o: ∀id n,At (p.put k (some (none,1))) id n->id≠k/\At p id n:=λid n l=>by
  by_cases r:id=k
  ·subst r;rcases l with ⟨g,l⟩|l
   ·rw[iT] at l;cases l
   exact bA l (h.eb _ _ F)
  refine⟨r,?_⟩;rcases l with ⟨g,l⟩|l
  ·rw[ek _ _ _ _ r] at l;exact .inl ⟨g,l⟩
  exact .inr l
 have y: ∀n,own K (p.put k (some (none,1))) (aU (aU s.H k (some (.arr e 1 c []))) b (some (.cells (A.set j (.bc k 1 c 0 0))))) n->own K p s.H n:=by
  rintro n (l|⟨id,z,B⟩)
  ·exact .inl l
  obtain⟨X,I⟩:=o id n B;by_cases R:id=b
  ·subst R;exact .inr ⟨id,by rw[U];simp,I⟩
  rw[bX _ _ _ _ R,bX _ _ _ _ X] at z;exact .inr ⟨id,z,I⟩
 have L: ∀v u,bn p w (own K p s.H) v u->bn (p.put k (some (none,1))) w (own K (p.put k (some (none,1))) (aU (aU s.H k (some (.arr e 1 c []))) b (some (.cells (A.set j (.bc k 1 c 0 0)))))) v u:=
  λv u D=>D.mono (Ext.refl _ _) (λb _=>y b) G (Shaped.refl _ _)
 refine⟨p.put k (some (none,1)),{h with base:= ?_,low:= ?_,dJ:= ?_,eb:= ?_,inj:= ?_,fresh:= ?_,heap:= ?_,cZ:=λi=>L _ _ (h.cZ i)}⟩
 ·refine h.base.keep λid hid=>?_
  have:=h.low id hid;rw[ek _ _ _ _ (by intro e;subst e;rw[F] at this;cases this)]
 ·intro id hid;show aU s.u k true id=true;by_cases e:id=k
  ·subst e;exact bW _ _ _
  rw[bX _ _ _ _ e];exact h.low id hid
 ·intro id hid;have d:aU s.u k true id=false:=hid;by_cases e:id=k
  ·subst e;rw[bW] at d;cases d
  rw[bX _ _ _ _ e] at d;rw[ek _ _ _ _ e];exact h.dJ id d
 ·intro id b hid;have d:aU s.u k true id=false:=hid;by_cases e:id=k
  ·subst e;rw[bW] at d;cases d
  rw[bX _ _ _ _ e] at d;exact h.eb id b d
 ·intro id Q n z B;exact h.inj id Q n (o id n z).2 (o Q n B).2
 ·intro id n l;exact h.fresh id n (o id n l).2
 intro id e' m;have m:aU (aU s.H k (some (.arr e 1 c []))) b (some (.cells (A.set j (.bc k 1 c 0 0)))) id=some e':=m;show aU s.u k true id=true/\cF _ _ (own K _ (aU (aU s.H k (some (.arr e 1 c []))) b (some (.cells (A.set j (.bc k 1 c 0 0)))))) id e';by_cases I:id=b
 ·subst I;rw[bW] at m;cases m;rw[bX _ _ _ _ W];obtain⟨R,n,N,ty,P,T,g3,E⟩:=h.heap id _ U;refine⟨R,n,N,ty,q _ _ P,T,by simpa using g3,λi v u D M=>?_⟩;by_cases r:i=j
  ·subst r;have Y:=(bR.1 f).1;rw[hq Y] at D;cases D;have z:=E i _ u f M;cases z with
   |t _ _ B=>cases B;exact .hd k 1 c (cN _) (bW _ _ _)
  rw[je (kH r)] at D;exact L _ _ (E i v u D M)
 rw[bX _ _ _ _ I] at m;by_cases r:id=k
 ·subst r;rw[bW] at m;cases m;exact⟨bW _ _ _,cN _,Or.inl ⟨bW _ _ _,rfl⟩⟩
 rw[bX _ _ _ _ r] at m;obtain⟨z,B⟩:=h.heap id e' m;exact⟨by rw[bX _ _ _ _ r];exact z,B.mono (Ext.refl _ _) (λb _=>y b) G (q id) (Shaped.refl _ _) λ_ _=>rfl⟩
def lM(k:Nat):Nat->Bool:=λid=>bif Nat.beq id k then false else true
def rN(k:Nat)(v:V):V:=bif v.ok (lM k) then v else .c3
def Ga(k:Nat):E->Option E
 | .cells cs=>bif gn (lM k) cs then some (.cells cs) else none
 | .a' d m gen a c=>bif tX (lM k) c then some (.a' d m gen a c) else none
 |e=>some e
theorem AY(h:i≠k):lM k i=true:=by
 have:Nat.beq i k=false:=by cases a:Nat.beq i k with
  |false=>rfl
  |true=>exact bA (cK a) h
 simp[lM,this]
theorem wR(h:lM k i=true):i≠k:=by intro e;subst e;simp[lM] at h
def E.mB(n:Nat):E->E
 | .arr e _ z r=> .arr e n z r
 | .a' a m _ r c=> .a' a m n r c
 |e=>e
abbrev E.CD:E->E:=E.mB 1
def E.o1:E->List (Nat×Nat×V)
 | .a' _ _ _ _ a=>a
 |_=>[]
theorem cF.mB{β':Map}{e:E}(h:cF β w X k e)(d:1<=n)(z:e.gen=some g)(s:β k=some (q,g))(y:β' L=some (q,n))(G: ∀b,β'.n L b↔β.n k b)(H: ∀b,Y b->X b)
  (Q: ∀i j v,(i,j,v)∈e.o1-> ∀u,bn β w X v u->bn β' w Y v u):cF β' w Y L (e.mB n):=by
 cases e with
 |cells=>cases z
 |arr ty R I l=>
  cases z;refine⟨d,?_⟩;rcases h.2 with ⟨aJ,a2⟩|⟨b,A,aJ,a2,a3,a4,a5⟩
  ·rw[s] at aJ;cases aJ;exact .inl ⟨y,a2⟩
  rw[s] at aJ;cases aJ;exact .inr ⟨b,A,y,a2,a3,a4,λi j a x u o p r=>(a5 i j a x u o p r).mono (Ext.refl _ _) λb _=>H b⟩
 |a' W m R l f=>
  cases z;refine⟨d,?_⟩;rcases h.2 with ⟨aJ,a2,a0⟩|⟨b,A,B,aJ,a2,a3,a4,a5,hV,iw,fc⟩
  ·rw[s] at aJ;cases aJ;exact .inl ⟨y,a2,λc U=>a0 c ((G c).1 U)⟩
  rw[s] at aJ;cases aJ;exact .inr ⟨b,A,B,y,a2,a3,a4,λi j a x u o p r=>⟨λv D=>⟨Q i j v D _ ((a5 i j a x u o p r).1 v D).1,((a5 i j a x u o p r).1 v D).2⟩,λF=>((a5 i j a x u o p r).2 F).mono (Ext.refl _ _) (λc _=>H c) λ_ _=>rfl⟩,hV,iw,λc=>(G c).trans (fc c)⟩
theorem Rel.Qf{K:Ctx}{s s':S}{a:Act}(h:Rel K β s a w)(k g gen:Nat){e:E}{F:Option Nat}(B:s.H k=some e)(U:e.gen=some gen)(G:e.o1=[])(I:k<K.c')(L:K.gK k=some (F,g))
  (n:s'.u=s.u) (Q:s'.H k=some (e.mB (g+1))) (q:Option Nat) (D:β k=some (q,gen))
  (W: ∀id x,id≠k->s'.H id=some x->s.H id≠none/\ ∀X,(∀b,X b->own K β s.H b)->cF (β.put k (some (q,g+1))) w X id x)
  (N: ∀i,∀X,(∀b,X b->own K β s.H b)->bn (β.put k (some (q,g+1))) w X (s'.t i) (a.tmps.getD i undef)):Rel K (β.put k (some (q,g+1))) s' a w:=by
 have R:1<=gen:=(oJ (h.heap k _ B).2 U).1;have o:=(h.heap k _ B).1;have p:1<=g/\ ∀b,q=some b->F=some b\/K.w0.heap.size<=b:=by
  rcases h.base k I with Y|⟨T,V,q2,g2,aJ,a2,a3,a4,a5⟩
  ·rw[D,L] at Y;cases Y;exact⟨R,λb a8=> .inl a8⟩
  rw[L] at aJ;cases aJ;rw[D] at a3;cases a3;exact⟨a2,a5⟩
 have c: ∀id b,At (β.put k (some (q,g+1))) id b->At β id b:=λid b a8=>by
  rcases a8 with ⟨P,a8⟩|a8
  ·by_cases d:id=k
   ·subst d;rw[iT] at a8;cases a8;exact .inl ⟨gen,D⟩
   rw[ek _ _ _ _ d] at a8;exact .inl ⟨P,a8⟩
  exact .inr a8
 have l: ∀b,own K (β.put k (some (q,g+1))) s'.H b->own K β s.H b:=by
  rintro b (m|⟨id,r,z⟩)
  ·exact .inl m
  refine .inr ⟨id,?_,c id b z⟩;by_cases d:id=k
  ·subst d;rw[B];simp
  cases m:s'.H id with
  |none=>exact bA m r
  |some x=>exact(W id x d m).1
 refine {h with base:= ?_,low:= ?_,dJ:= ?_,eb:=λid b hid=>h.eb id b (n▸hid),inj:= ?_,fresh:=λid b a8=>h.fresh id b (c id b a8),heap:= ?_,cZ:=λi=>N i _ l}
 ·intro id hid;by_cases d:id=k
  ·subst d;exact .inr ⟨F,g,q,g+1,L,p.1,bW _ _ _,mJ _,p.2⟩
  rw[ek _ _ _ _ d];exact h.base id hid
 ·intro id hid;rw[n];exact h.low id hid
 ·intro id hid;rw[n] at hid;rw[ek _ _ _ _ (by intro e;subst e;rw[o] at hid;cases hid)];exact h.dJ id hid
 ·intro id A b r z;exact h.inj id A b (c id b r) (c A b z)
 intro id x m;by_cases d:id=k
 ·subst d;rw[Q] at m;cases m;exact⟨by rw[n];exact o,(h.heap id _ B).2.mB O U D (bW _ _ _) (λ_=>Iff.rfl) l λi j v f=>by rw[G] at f;cases f⟩
 obtain⟨r,z⟩:=W id x d m;refine⟨?_,z _ l⟩;rw[n];cases M:s.H id with
 |none=>exact bA M r
 |some y=>exact(h.heap id y M).1
theorem LY(l:D k=some (q,gen))(h:bn D w X (.bc k gen i L m) u):bn (D.put k (some (q,g+1))) w Y (.bc k (g+1) i L m) u:=by
 rcases e8 h l with ⟨c,b,n,d,rfl,a,o,p,e,r,s⟩|⟨a,rfl,rfl,rfl⟩
 ·subst a;exact .bc k (g+1) i L m c b n d O (bW _ _ _) o p e r s
 subst a;exact .hd k (g+1) i O (bW _ _ _)
theorem Mw{v:V}(h:bn D w X v u)(a: ∀b,Y b->X b):bn (D.put k (some (q,g+1))) w Y (rN k v) u:=by
 unfold rN;cases c:v.ok (lM k) with
 |false=>exact .c3 _
 |true=>exact h.under a (λid hid=>ek _ _ _ _ (wR hid)) c
theorem LK{y:E}(h:cF D w X i x)(e: ∀b,Y b->X b)(l:i≠k)(a:Ga k x=some y):cF (D.put k (some (q,g+1))) w Y i y:=by
 unfold Ga at a;split at a
 ·rename_i cs;cases c:gn (lM k) cs with
  |false=>rw[c] at a;cases a
  |true=>rw[c] at a;cases a;exact h.under e (λi hid=>ek _ _ _ _ (wR hid)) (AY l) c
 ·rename_i n;cases c:tX (lM k) n with
  |false=>rw[c] at a;cases a
  |true=>rw[c] at a;cases a;exact h.under e (λi hid=>ek _ _ _ _ (wR hid)) (AY l) c
 cases a;refine h.under e (u:=lM k) (λi hid=>ek _ _ _ _ (wR hid)) (AY l) ?_;cases x with
 |cells cs=>rename_i o _;exact bA rfl (o cs)
 |arr=>rfl
 |a' p m gen d n=>rename_i _ o;exact bA rfl (o p m gen d n)
def p0(k:Nat)(H:Nat->Option E):Nat->Option E:=λid=>match H id with
 |some e=>Ga k e
 |none=>none
theorem D7{K:Ctx}{s:S}(i k g gen c d l:Nat){e:E}(G:Nat.blt k K.c'=true)(I:s.t i= .bc k gen c d l)(A:s.H k=some e)(B:e.gen=some gen)(o:e.o1=[])(p: ∃q,K.gK k=some (q,g)):
  s.le K {t:=aU (λj=>rN k (s.t j)) i (.bc k (g+1) c d l),H:=aU (p0 k s.H) k (some (e.mB (g+1))),u:=s.u}:=by
 intro L a w h;obtain⟨Q,p⟩:=p;obtain⟨_,q,D⟩:=oJ (h.heap k _ A).2 B;refine⟨_,h.Qf (s':={t:=aU (λj=>rN k (s.t j)) i (.bc k (g+1) c d l),H:=aU (p0 k s.H) k (some (e.mB (g+1))),u:=s.u}) k g gen A B o (by simpa[Nat.blt_eq] using G) p rfl (bW _ _ _) q D ?_ ?_⟩
 ·intro id x n m;have m:aU (p0 k s.H) k (some (e.mB (g+1))) id=some x:=m;rw[bX _ _ _ _ n] at m;unfold p0 at m;cases r:s.H id with
  |none=>rw[r] at m;cases m
  |some y=>
   rw[r] at m;exact⟨aX,λX z=>LK (h.heap id y r).2 z n m⟩
 intro j X z;show bn _ w X (aU (λj=>rN k (s.t j)) i (.bc k (g+1) c d l) j) _;by_cases F:j=i
 ·subst F;rw[bW];exact LY D (I▸h.cZ j)
 rw[bX _ _ _ _ F];exact Mw (h.cZ j) z
theorem nb{K:Ctx}{s:S}(b j k g gen c l m:Nat){e:E}{cs:List V}(cG:Nat.blt k K.c'=true)(B:s.H b=some (.cells cs))(D:cs[j]? =some (.bc k gen c l m))(F:gn (lM k) (cs.set j .c3)=true)
  (z:s.H k=some e) (G:e.gen=some gen) (I:e.o1=[]) (L: ∃q,K.gK k=some (q,g)):
  s.le K {t:=λj=>rN k (s.t j),H:=aU (aU (p0 k s.H) k (some (e.mB (g+1)))) b (some (.cells (cs.set j (.bc k (g+1) c l m)))),u:=s.u}:=by
 intro Q a w h;obtain⟨oo,L⟩:=L;obtain⟨_,q,Y⟩:=oJ (h.heap k _ z).2 G;have n:b≠k:=by intro e';subst e';rw[B] at z;cases z;cases G
 refine⟨_,h.Qf (s':={t:=λj=>rN k (s.t j),H:=aU (aU (p0 k s.H) k (some (e.mB (g+1)))) b (some (.cells (cs.set j (.bc k (g+1) c l m)))),u:=s.u}) k g gen z G I (by simpa[Nat.blt_eq] using cG) L rfl (by show aU _ b _ k=_;rw[bX _ _ _ _ (kH n),bW]) q Y ?_ ?_⟩
 ·intro id x o d;have d:aU (aU (p0 k s.H) k (some (e.mB (g+1)))) b (some (.cells (cs.set j (.bc k (g+1) c l m)))) id=some x:=d;by_cases p:id=b
  ·subst p;rw[bW] at d;cases d;refine⟨by rw[B];simp,λX r=>?_⟩;have f:=(h.heap id _ B).2;have h6:cF Q w (own K Q s.H) id (.cells (cs.set j .c3)):=f.set D λu _=> .c3 u;have lD:=h6.under (u:=lM k) (β':=Q.put k (some (q,g+1))) r (λid hid=>ek _ _ _ _ (wR hid)) (AY n) F;obtain⟨ga,us,ty,M,N,g3,g4⟩:=lD;obtain⟨cu,qY,afw,P,T,f3,f4⟩:=f;rw[ek _ _ _ _ n,P] at M;cases M;rw[T] at N;cases N;refine⟨_,_,_,by rw[ek _ _ _ _ n];exact P,T,by simpa using f3,λi v u A hu=>?_⟩;by_cases R:i=j
   ·subst R;have U:=(bR.1 D).1;rw[hq U] at A;cases A;exact LY Y (f4 i _ u D hu)
   rw[je (kH R)] at A;exact g4 i v u (by rw[je (kH R)];exact A) hu
  rw[bX _ _ _ _ p,bX _ _ _ _ o] at d;unfold p0 at d;cases W:s.H id with
  |none=>rw[W] at d;cases d
  |some y=>
   rw[W] at d;exact⟨aX,λX r=>LK (h.heap id y W).2 r o d⟩
 intro j X r;exact Mw (h.cZ j) r
inductive mO (p:V->V->Prop):V->V->Prop
 |same (v:V):mO p v v
 |put {v du:V} (h:p v du):mO p v du
 |agg {cs G1:List V} (cD:G1.length=cs.length) (h: ∀(i:Nat) c O1,cs[i]? =some c->G1[i]? =some O1->mO p c O1):mO p (.agg cs) (.agg G1)
theorem Gx{p:V->V->Prop}{S:Map}{a:World}(e: ∀v u,bn S w X v u->bn D a Y v u)(k: ∀v x u,p v x->bn S w X v u->bn D a Y x u){v x:V}(h:mO p v x): ∀u,bn S w X v u->bn D a Y x u:=by
 induction h with
 |same v=>exact e v
 |put h=>exact λu=>k _ _ u h
 |agg l h m=>
  intro u d;cases d with
  |agg _ n o q=>
   refine .agg _ n O λi r u c d=>?_;have aH:=(bR.1 c).1;have bP:=bs (show i<_ by rw[<-l];exact aH);exact m i _ r bP c u (q i _ u bP d)
def vT(p:V->V->Prop)(e d:E):Prop:=d=e\/ ∃cs a,e= .cells cs/\d= .cells a/\a.length=cs.length/\ ∀(i:Nat) c h,cs[i]? =some c->a[i]? =some h->mO p c h
theorem vT.vc{p:V->V->Prop}{S:Map}(c: ∀x,S n=some x->D n=some x)(l: ∀e,cF S w X n e->cF D w Y n e)(m: ∀v u,bn S w X v u->bn D w Y v u)(o: ∀v d u,p v d->bn S w X v u->bn D w Y d u){e e':E}(h:vT p e e')(k:cF S w X n e):cF D w Y n e':=by
 rcases h with rfl|⟨cs,q,rfl,rfl,r,h⟩
 ·exact l _ k
 obtain⟨b,s,ty,y,z,G,A⟩:=k;refine⟨b,s,ty,c _ y,z,O,λi B u a F=>?_⟩;have aH:=(bR.1 a).1;have bP:=bs (show i<_ by rw[<-r];exact aH);exact Gx m o (h i _ B bP a) u (A i _ u bP F)
theorem Um{K:Ctx}{s:S}(W:Nat->V)(o:Nat->Option E)(k gen d:Nat)(D:Nat.ble K.c' k=true)(g:s.H k=some (.arr e gen d c))
  (j: ∀i,mO (λv p=>v= .bc k gen d 0 c.length/\p= .t (.aD c)) (s.t i) (W i)) (F:o k=none)
  (X: ∀id q,o id=some q-> ∃r,s.H id=some r/\vT (λv p=>v= .bc k gen d 0 c.length/\p= .t (.aD c)) r q):s.le K {t:=W,H:=o,u:=s.u}:=by
 intro l a w h;have M:=ea D;have m: ∀n,own K l o n->own K l s.H n:=by
  rintro n (G|⟨id,x,y⟩)
  ·exact .inl G
  cases B:o id with
  |none=>exact bA B x
  |some q=>obtain⟨r,I,_⟩:=X id q B;exact .inr ⟨id,by rw[I];simp,y⟩
 have z: ∀n,At l k n-> ¬own K l o n:=by
  rintro n A (G|⟨id,x,y⟩)
  ·obtain⟨fZ,N⟩:=h.il n G;rcases(h.fresh k n A).1 with L|P
   ·exact N L
   omega
  have:=h.inj _ _ _ y A;subst this;exact x F
 have Q:=(h.heap k _ g).2;have Y: ∀v u,bn l w (own K l s.H) v u->bn l w (own K l o) v u:=λv u R=>R.mono (Ext.refl _ _) (λb _=>m b) (dr.refl _) (Shaped.refl _ _);have f: ∀v p u,(v= .bc k gen d 0 c.length/\p= .t (.aD c))->bn l w (own K l s.H) v u->bn l w (own K l o) p u:=by
  rintro v p u ⟨rfl,rfl⟩ R;exact .t _ _ (Q.read R m z)
 refine⟨l,{h with heap:= ?_,cZ:= ?_}⟩
 ·intro id q U;obtain⟨r,x,y⟩:=X id q U;obtain⟨I,h4⟩:=h.heap id r x;exact⟨I,y.vc (λ_ h=>h) (λe B=>B.mono (Ext.refl _ _) (λb _=>m b) (dr.refl _) (λ_ h=>h) (Shaped.refl _ _) λ_ _=>rfl) Y f h4⟩
 intro i;exact Gx Y f (j i) _ (h.cZ i)
theorem UU{K:Ctx}{s:S}(lR:Nat->V)(A:Nat->Option E)(k b1 gen l R:Nat){D:E}(xv:Nat.ble K.c' k=true)(U:k≠b1)(N:s.H k=some D)(bO:D.gen=some gen)(hu:s.u b1=false)
  (eZ: ∀i,mO (λv G=>v= .bc k gen l 0 R/\G= .bc b1 1 l 0 R) (s.t i) (lR i)) (acv:A k=none) (W:A b1=some D.CD)
  (hH: ∀id e',id≠b1->A id=some e'-> ∃D,s.H id=some D/\vT (λv G=>v= .bc k gen l 0 R/\G= .bc b1 1 l 0 R) D e'):
  s.le K {t:=lR,H:=A,u:=aU s.u b1 true}:=by
 intro B a w h;have mh:=ea xv;obtain⟨iB,q,P⟩:=oJ (h.heap k _ N).2 bO;have Hy:=(h.heap k _ N).1;have cv:=h.dJ b1 hu;have ac3:K.c'<=b1:=by
  apply Nat.le_of_not_lt;intro hlt;rw[h.low b1 hlt] at hu;cases hu
 let d:=B.move k b1 gen q;have cT:d b1=some (q,1):=Fz _ _ _ _ _;have cu:d k=some (none,gen+1):=Fy _ _ _ _ _ U;have X: ∀id,id≠k->id≠b1->d id=B id:=λid m o=>Ei _ _ _ _ _ _ m o;have p: ∀id b,At d id b->(id=b1/\At B k b)\/(id≠k/\id≠b1/\At B id b):=by
  intro id b I;exact NC U P I
 have Y:dr B d:=by
  intro id q2 g r;by_cases o:id=k
  ·subst o;rw[P] at r;cases r;exact .inr ⟨iB,none,gen+1,cu,mJ _⟩
  have m:id≠b1:=by intro e;subst e;rw[cv] at r;cases r
  exact .inl (by rw[X id o m];exact r)
 have z: ∀b,own K d A b->own K B s.H b:=by
  rintro b (r|⟨id,m,o⟩)
  ·exact .inl r
  rcases p id b o with ⟨rfl,y⟩|⟨y,f,F⟩
  ·exact .inr ⟨k,by rw[N];simp,y⟩
  cases T:A id with
  |none=>exact bA T m
  |some e'=>obtain⟨D,L,_⟩:=hH id e' f T;exact .inr ⟨id,by rw[L];simp,F⟩
 have hm: ∀v u,bn B w (own K B s.H) v u->bn d w (own K d A) v u:=λv u bJ=>bJ.mono (Ext.refl _ _) (λb _=>z b) Y (Shaped.refl _ _);have hp: ∀v G u,(v= .bc k gen l 0 R/\G= .bc b1 1 l 0 R)->bn B w (own K B s.H) v u->bn d w (own K d A) G u:=by
  rintro v G u ⟨rfl,rfl⟩ bJ;rcases e8 bJ P with ⟨cap,b,n,hh,rfl,Q,hw,hs,o0,cD,BI⟩|⟨Q,m,o,rfl⟩
  ·subst Q;exact .bc b1 1 l 0 _ cap b n hh (cN _) cT hw hs o0 cD BI
  subst Q;rw[o];exact .hd b1 1 l (cN _) cT
 refine⟨d,{h with base:= ?_,low:= ?_,dJ:= ?_,eb:= ?_,inj:= ?_,fresh:= ?_,heap:= ?_,cZ:= ?_}⟩
 ·exact h.base.keep λid hid=>X id O O
 ·intro id hid;show aU s.u b1 true id=true;rw[bX _ _ _ _ O];exact h.low id hid
 ·intro id hid;have c:aU s.u b1 true id=false:=hid;by_cases m:id=b1
  ·subst m;rw[bW] at c;cases c
  rw[bX _ _ _ _ m] at c;rw[X id (by intro e;subst e;rw[Hy] at c;cases c) m];exact h.dJ id c
 ·intro id b hid I;have c:aU s.u b1 true id=false:=hid;rcases I with ⟨m,_⟩|⟨m,_,I⟩
  ·subst m;rw[bW] at c;cases c
  rw[bX _ _ _ _ m] at c;exact h.eb id b c I
 ·intro id jZ b m o;rcases p id b m with ⟨rfl,y⟩|⟨y,f,F⟩<;>rcases p jZ b o with ⟨e2,L⟩|⟨L,lD,kR⟩
  ·exact e2.symm
  ·exact bA (h.inj _ _ b kR y) L
  ·subst e2;exact bA (h.inj _ _ b F L) y
  exact h.inj _ _ b F kR
 ·intro id b I;rcases p id b I with ⟨rfl,y⟩|⟨y,f,F⟩
  ·refine⟨?_,(h.fresh _ _ y).2⟩;exact(h.fresh _ _ y).1
  exact h.fresh id b F
 ·intro id e' r;have M:A id=some e':=r;clear r;show aU s.u b1 true id=true/\cF d w (own K d A) id e';by_cases m:id=b1
  ·subst m;rw[W] at M;cases M;exact⟨bW _ _ _,(h.heap k _ N).2.mB (cN _) bO P cT (λb=>by simp[d,Map.move]) z λ_ _ v _ u=>hm v u⟩
  have o:id≠k:=by intro e;subst e;rw[acv] at M;cases M
  obtain⟨D,F,L⟩:=hH id e' m M;obtain⟨y,f⟩:=h.heap id D F;rw[bX _ _ _ _ m];refine⟨y,L.vc (λx r=>by rw[X id o m];exact r) (λe T=>T.mono (Ext.refl _ _) (λb _=>z b) Y (λx r=>by rw[X id o m];exact r) (Shaped.refl _ _) (λ_ _=>rfl) λb=>N7 _ _ _ _ _ _ _ o m) hm hp f⟩
 intro j;exact Gx hm hp (eZ j) _ (h.cZ j)
mutual
def pj(k g z n:Nat)(c:V):V->V×List dd
 | .bc h gen a d e=>match Nat.beq h k&&Nat.beq d 0 with
  |true=>(c,[.q gen g,.q a z,.q e n])
  |false=>(.bc h gen a d e,[])
 | .agg cs=>(.agg (mx k g z n c cs).1,(mx k g z n c cs).2)
 |v=>(v,[])
def mx(k g z n:Nat)(a:V):List V->List V×List dd
 | []=>([],[])
 |c::cs=>((pj k g z n a c).1::(mx k g z n a cs).1,(pj k g z n a c).2++(mx k g z n a cs).2)
end
theorem Ef(k g z n:Nat)(a:V): ∀cs,(mx k g z n a cs).1.length=cs.length
 | []=>rfl
 |c::cs=>by simp[mx,Ef k g z n a cs]
mutual
theorem NW(k g z n:Nat)(c:V): ∀v,ch (pj k g z n c v).2->mO (λa b=>a= .bc k g z 0 n/\b=c) v (pj k g z n c v).1
 | .bc l gen i e m,h=>by
  unfold pj at h⊢;cases d:Nat.beq l k&&Nat.beq e 0 with
  |false=>exact .same _
  |true=>
   simp only[d] at h⊢;simp only[Bool.and_eq_true] at d;obtain⟨rfl,rfl,rfl,_⟩:=h;have o:=cK d.1;have p:=cK d.2;subst o;subst p;exact .put ⟨rfl,rfl⟩
 | .agg cs,h=>by
  simp only[pj] at h⊢;exact .agg (Ef _ _ _ _ _ _) (Gn k g z n c cs h)
 | .t _,_| .bL _,_| .ref _ _,_| .aP _,_| .cB _ _ _ _ _,_| .fn _ _,_| .c3,_=>by simp only[pj];exact .same _
theorem Gn(k g z n:Nat)(d:V): ∀cs,ch (mx k g z n d cs).2-> ∀(i:Nat) c l,cs[i]? =some c->(mx k g z n d cs).1[i]? =some l->mO (λa b=>a= .bc k g z 0 n/\b=d) c l
 | [],_,i,c,l,h,_=>by simp at h
 |o::cs,m,0,c,l,h,e=>by
  simp only[mx] at m e;simp at h e;subst h;subst e;exact NW k g z n d o (ch.app m).1
 |o::cs,m,i+1,c,l,h,e=>by simp only[mx] at m e;simp at h e;exact Gn k g z n d cs (ch.app m).2 i c l h e
end
def h'(k g z n:Nat)(a:V)(s:S):List Nat->List (Nat×V)×List dd
 | []=>([],[])
 |i::is=>((i,(pj k g z n a (s.t i)).1)::(h' k g z n a s is).1,(pj k g z n a (s.t i)).2++(h' k g z n a s is).2)
def gq(k g z n:Nat)(a:V)(s:S):List Nat->List (Nat×Option E)×List dd
 | []=>([],[])
 |b::c=>match s.H b with
  |some (.cells cs)=>((b,some (.cells (mx k g z n a cs).1))::(gq k g z n a s c).1,(mx k g z n a cs).2++(gq k g z n a s c).2)
  |_=>gq k g z n a s c
theorem Gm{k g z n:Nat}{x:V}{s:S}: ∀{is:List Nat},ch (h' k g z n x s is).2-> ∀i v,(i,v)∈(h' k g z n x s is).1->mO (λa b=>a= .bc k g z 0 n/\b=x) (s.t i) v
 |i0::is,c,i,v,h=>by
  simp only[h'] at c h;rcases dN.1 h with h|h
  ·cases h;exact NW _ _ _ _ _ _ (ch.app c).1
  exact Gm (ch.app c).2 i v h
theorem AV{k g z n:Nat}{x:V}{s:S}: ∀{i:List Nat},ch (gq k g z n x s i).2-> ∀b e,(b,e)∈(gq k g z n x s i).1-> ∃m o,s.H b=some m/\e=some o/\vT (λa b=>a= .bc k g z 0 n/\b=x) m o
 |p::i,c,b,e,h=>by
  unfold gq at c h;split at h
  ·rename_i cs d;simp only[d] at c;rcases dN.1 h with h|h
   ·cases h;exact⟨_,_,d,rfl,.inr ⟨cs,_,rfl,rfl,Ef _ _ _ _ _ _,Gn _ _ _ _ _ _ (ch.app c).1⟩⟩
   exact AV (ch.app c).2 b e h
  rename_i d;split at c
  ·rename_i cs l;exact bA l (d cs)
  exact AV c b e h
theorem NF{k:Nat}: ∀{l:List Nat},k∈l->hn k l=true
 |x::l,h=>by
  simp only[hn];rcases dN.1 h with rfl|h
  ·simp
  cases Nat.beq x k with
  |true=>rfl
  |false=>exact NF h
theorem wc(h:(!hn k l)=true):k∉l:=λa=>by rw[NF a] at h;cases h
theorem Nu{b1:Nat}(h:(!Nat.beq k b1)=true):k≠b1:=λe=>by subst e;simp at h
theorem wb{k g z n:Nat}{x:V}{s:S}: ∀{a:List Nat} {b:Nat} {e:Option E},(b,e)∈(gq k g z n x s a).1->b∈a
 |c::a,b,e,h=>by
  unfold gq at h;split at h
  ·rcases dN.1 h with h|h
   ·cases h;exact eR
   exact ev _ (wb h)
  exact ev _ (wb h)
theorem abe{K:Ctx}{s:S}{a:List (List T)}{L:List Nat}(h:Nat.ble K.c' k=true)(m:s.H k=some (.arr e gen n a))(o:k∉r)
  (p:ch (h' k gen n a.length (.t (.aD a)) s L).2) (q:ch (gq k gen n a.length (.t (.aD a)) s r).2):
  s.le K ((⟨(h' k gen n a.length (.t (.aD a)) s L).1,(k,none)::(gq k gen n a.length (.t (.aD a)) s r).1,[]⟩:cP).app s):=by
 refine Um _ _ k gen n h m (λi=>?_) ?_ λid e' c=>?_
 ·rcases mb (h' k gen n a.length (.t (.aD a)) s L).1 s.t i with ⟨_,d⟩|⟨v,l,d⟩
  ·rw[d];exact .same _
  rw[d];exact Gm p i v l
 ·show de (aU s.H k none) _ k=none;rw[mj _ _ _ λv w=>o (wb w),bW]
 have c:de (aU s.H k none) (gq k gen n a.length (.t (.aD a)) s r).1 id=some e':=c;rcases mb (gq k gen n a.length (.t (.aD a)) s r).1 (aU s.H k none) id with ⟨_,d⟩|⟨v,l,d⟩
 ·rw[d] at c;by_cases hid:id=k
  ·subst hid;rw[bW] at c;cases c
  rw[bX _ _ _ _ hid] at c;exact⟨e',c,.inl rfl⟩
 rw[d] at c;subst c;obtain⟨x,B,y,z,A⟩:=AV q id _ l;cases z;exact⟨x,y,A⟩
theorem OB{K:Ctx}{s:S}{W:E}(h:Nat.ble K.c' k=true)(d:k≠L)(w:s.H k=some W)(x:W.gen=some gen)(y:s.u L=false)(z:k∉r)(o:L∉r)
  (A:ch (h' k gen n m (.bc L 1 n 0 m) s l).2) (B:ch (gq k gen n m (.bc L 1 n 0 m) s r).2):
  s.le K ((⟨(h' k gen n m (.bc L 1 n 0 m) s l).1,(k,none)::(L,some W.CD)::(gq k gen n m (.bc L 1 n 0 m) s r).1,[(L,true)]⟩:cP).app s):=by
 refine UU _ _ k L gen n m h d w x y (λi=>?_) ?_ ?_ λid e' e a=>?_
 ·rcases mb (h' k gen n m (.bc L 1 n 0 m) s l).1 s.t i with ⟨_,c⟩|⟨v,p,c⟩
  ·rw[c];exact .same _
  rw[c];exact Gm A i v p
 ·show de (aU (aU s.H k none) L _) _ k=none;rw[mj _ _ _ λv q=>z (wb q),bX _ _ _ _ d,bW]
 ·show de (aU (aU s.H k none) L _) _ L=_;rw[mj _ _ _ λv q=>o (wb q),bW]
 have a:de (aU (aU s.H k none) L (some W.CD)) (gq k gen n m (.bc L 1 n 0 m) s r).1 id=some e':=a;rcases mb (gq k gen n m (.bc L 1 n 0 m) s r).1 (aU (aU s.H k none) L (some W.CD)) id with ⟨_,c⟩|⟨v,p,c⟩
 ·rw[c,bX _ _ _ _ e] at a;by_cases hid:id=k
  ·subst hid;rw[bW] at a;cases a
  rw[bX _ _ _ _ hid] at a;exact⟨e',a,.inl rfl⟩
 rw[c] at a;subst a;obtain⟨W,I,D,F,G⟩:=AV B id _ p;cases F;exact⟨W,D,G⟩
theorem Uk{K:Ctx}{s:S}(B:Nat->V)(k:Nat){F:List T}(G:Nat.ble K.c' k=true)(R:s.H k=some (.cells (F.map .t)))
  (U: ∀i,B i=s.t i\/ ∃c,s.t i= .ref k c/\B i= .aP (F.drop c)):s.le K {t:=B,H:=aU s.H k none,u:=s.u}:=by
 intro q a w h;have W:=ea G;obtain⟨b,p,ty,D,X,L,Y⟩:=(h.heap k _ R).2;have m: ∀I,own K q (aU s.H k none) I->own K q s.H I:=by
  rintro I (r|⟨id,n,o⟩)
  ·exact .inl r
  by_cases hid:id=k
  ·subst hid;rw[bW] at n;exact bA rfl n
  rw[bX _ _ _ _ hid] at n;exact .inr ⟨id,n,o⟩
 have y: ¬own K q (aU s.H k none) b:=by
  rintro(r|⟨id,n,o⟩)
  ·obtain⟨fZ,f⟩:=h.il b r;rcases(h.fresh k b (.inl ⟨_,D⟩)).1 with d|g
   ·exact f d
   omega
  have:=h.inj _ _ _ o (.inl ⟨_,D⟩);subst this;rw[bW] at n;exact n rfl
 refine⟨q,{h with heap:= ?_,cZ:= ?_}⟩
 ·intro id e' l;have l:aU s.H k none id=some e':=l;by_cases hid:id=k
  ·subst hid;rw[bW] at l;cases l
  rw[bX _ _ _ _ hid] at l;obtain⟨n,o⟩:=h.heap id e' l;exact⟨n,o.mono (Ext.refl _ _) (λb _=>m b) (dr.refl _) (λ_ h=>h) (Shaped.refl _ _) λ_ _=>rfl⟩
 intro j;show bn q w _ (B j) _;rcases U j with v|⟨c,n,o⟩
 ·rw[v];exact(h.cZ j).mono (Ext.refl _ _) (λb _=>m b) (dr.refl _) (Shaped.refl _ _)
 rw[o];have Q:=h.cZ j;rw[n] at Q;obtain⟨cu,z,E⟩:=rh Q;rw[D] at z;cases z;rw[E];have a8:=(h.fresh k b (.inl ⟨_,D⟩)).2;refine .aP _ b c (λi=>p.getD (c+i) undef) a8 y (λi M=>?_) λi x r=>?_
 ·have d:c+i<p.size:=by simp at M L;omega
  simp[World.cell?,X,d]
 have A:F[c+i]? =some x:=by simpa using r
 have d:c+i<p.size:=by have:=(bR.1 A).1;simp at L;omega
 have N:=Y (c+i) (.t x) p[c+i] (by simp[A]) (by simp[d]);have e:p.getD (c+i) undef=p[c+i]:=by simp[d]
 rw[e];cases N with
 |t _ _ P=>exact P.mono (Ext.refl _ _) λb _=>m b
def Bt(k:Nat)(c:List T)(s:S):List Nat->Option (List (Nat×V))
 | []=>some []
 |i::is=>match s.t i with
  | .ref d a=>match Nat.beq d k,Bt k c s is with
   |true,some l=>some ((i,.aP (c.drop a))::l)
   |_,_=>none
  |_=>none
theorem N3{k:Nat}{a:List T}{s:S}: ∀{is:List Nat} {l:List (Nat×V)},Bt k a s is=some l-> ∀i v,(i,v)∈l-> ∃c,s.t i= .ref k c/\v= .aP (a.drop c)
 | [],l,h,i,v,hm=>by cases h;cases hm
 |i0::is,l,h,i,v,hm=>by
  unfold Bt at h;split at h
  ·rename_i o c d;split at h
   ·rename_i p e m;cases h;have n:=cK e;subst n;rcases dN.1 hm with hm|hm
    ·cases hm;exact⟨c,d,rfl⟩
    exact N3 m i v hm
   cases h
  cases h
def w6(a:List (List T)):List Nat->List (Nat×V)
 | []=>[]
 |i::is=>(i,.t (.aD a))::w6 a is
def rR(k c a n:Nat)(s:S):List Nat->Option (List dd)
 | []=>some []
 |i::is=>match s.t i with
  | .bc l gen d e h=>match Nat.beq l k&&Nat.beq e 0,rR k c a n s is with
   |true,some m=>some (.q gen c:: .q d a:: .q h n::m)
   |_,_=>none
  |_=>none
theorem NR{k m L n:Nat}{s:S}: ∀{is:List Nat} {a:List dd},rR k m L n s is=some a->ch a-> ∀i,i∈is->s.t i= .bc k m L 0 n
 | [],_,_,_,i,h=>by cases h
 |i0::is,a,h,c,i,aH=>by
  unfold rR at h;split at h
  ·rename_i z gen e l o p;split at h
   ·rename_i q d r;cases h;simp only[Bool.and_eq_true] at d;obtain⟨rfl,rfl,rfl,w⟩:=c;have x:=cK d.1;have y:=cK d.2;subst x;subst y;rcases dN.1 aH with rfl|aH
    ·exact p
    exact NR r w i aH
   cases h
  cases h
theorem Ms{a:List (List T)}{j:Nat}{v:V}: ∀{is:List Nat},(j,v)∈w6 a is->j∈is/\v= .t (.aD a)
 |i::is,h=>by
  simp only[w6,List.mem_cons] at h;rcases h with h|h
  ·cases h;exact⟨eR,rfl⟩
  obtain⟨c,d⟩:=Ms h;exact⟨ev _ c,d⟩
def Bg{k:Type}:List k->Bool
 | []=>true
 |_::_=>false
theorem FX{k:Type}{l:List k}(h:Bg l=true):l=[]:=by
 cases l with
 |nil=>rfl
 |cons=>cases h
def iO(C:dK)(h:ct)(s:S):Option (Option (cP×List dd)):=
 match h with
 | .iW i k=>match s.t i,s.H k with
  | .bc w gen c D F,some (.arr _ A d a)=>match Nat.beq w k&&(Nat.beq D 0&&Nat.ble C.c' k) with
   |true=>some (some (⟨[(i,.t (.aD a))],[(k,none)],[]⟩,[.q gen A,.q c d,.q F a.length]))
   |false=>some none
  |_,_=>some none
 | .rZ is k=>match s.H k with
  |some (.arr _ A d a)=>match Nat.ble C.c' k,rR k A d a.length s is with
   |true,some Y=>some (some (⟨w6 a is,[(k,none)],[]⟩,Y))
   |_,_=>some none
  |_=>some none
 | .grow i k e=>match s.t i,s.u k,dw C.cb e with
  | .t .fj,false,some j=>some (some (⟨[(i,.bc k 1 j.size 0 0)],[(k,some (.arr e 1 j.size []))],[(k,true)]⟩,[]))
  |_,_,_=>some none
 | .len i n=>match s.t i with
  | .bc k gen c D F=>some (some (⟨[(i,.bc k gen c D n)],[],[]⟩,[.p (F=n)]))
  |_=>some none
 | .rY k is=>match s.H k with
  |some (.cells f)=>match lq f,Nat.ble C.c' k with
   |some cs,true=>match Bt k cs s is with
    |some l=>some (some (⟨l,[(k,none)],[]⟩,[]))
    |none=>some none
   |_,_=>some none
  |_=>some none
 | .bh k is L=>match s.H k with
  |some (.arr _ gen c a)=>match Nat.ble C.c' k&& !hn k L with
   |true=>some (some (⟨(h' k gen c a.length (.t (.aD a)) s is).1,(k,none)::(gq k gen c a.length (.t (.aD a)) s L).1,[]⟩,(h' k gen c a.length (.t (.aD a)) s is).2++(gq k gen c a.length (.t (.aD a)) s L).2))
   |false=>some none
  |_=>some none
 | .ec k w is L=>match s.H k,s.u w with
  |some (.arr e gen c a),false=>match Nat.ble C.c' k&&(!Nat.beq k w&&(!hn k L&& !hn w L)) with
   |true=>some (some (⟨(h' k gen c a.length (.bc w 1 c 0 a.length) s is).1,(k,none)::(w,some (.arr e 1 c a))::(gq k gen c a.length (.bc w 1 c 0 a.length) s L).1,[(w,true)]⟩,
     (h' k gen c a.length (.bc w 1 c 0 a.length) s is).2++(gq k gen c a.length (.bc w 1 c 0 a.length) s L).2))
   |false=>some none
  |some (.a' r m gen a []),false=>match Nat.ble C.c' k&&(!Nat.beq k w&&(!hn k L&& !hn w L)) with
   |true=>some (some (⟨(h' k gen (aO r m).size a.length (.bc w 1 (aO r m).size 0 a.length) s is).1,(k,none)::(w,some (.a' r m 1 a []))::(gq k gen (aO r m).size a.length (.bc w 1 (aO r m).size 0 a.length) s L).1,[(w,true)]⟩,
     (h' k gen (aO r m).size a.length (.bc w 1 (aO r m).size 0 a.length) s is).2++(gq k gen (aO r m).size a.length (.bc w 1 (aO r m).size 0 a.length) s L).2))
   |false=>some none
  |_,_=>some none
 | .eB b j n=>match s.H b with
  |some (.cells cs)=>match cs[j]? with
   |some (.bc k gen c D F)=>some (some (⟨[],[(b,some (.cells (cs.set j (.bc k gen c D n))))],[]⟩,[.p (F=n)]))
   |_=>some none
  |_=>some none
 | .dq i k w=>match s.t i,s.H k,s.u w with
  | .bc v gen c D F,some (.arr e A d a),false=>match Nat.beq v k&&(Nat.ble C.c' k&& !Nat.beq k w) with
   |true=>some (some (⟨[(i,.bc w 1 c D F)],[(k,none),(w,some (.arr e 1 d a))],[(w,true)]⟩,[.q gen A,.q c d]))
   |false=>some none
  |_,_,_=>some none
 | .Bu b j k=>match s.H b,s.H k with
  |some (.cells cs),some (.arr _ A d a)=>match cs[j]?,Nat.ble C.c' k with
   |some (.bc w gen c D F),true=>match Nat.beq w k&&Nat.beq D 0 with
    |true=>some (some (⟨[],[(k,none),(b,some (.cells (cs.set j (.t (.aD a)))))],[]⟩,[.q gen A,.q c d,.q F a.length]))
    |false=>some none
   |_,_=>some none
  |some (.a' r m E U ((M,N,.bc w gen c D F)::I)),some (.arr _ A d a)=>match Nat.beq w k&&(Nat.beq D 0&&(Nat.ble C.c' k&& !Nat.beq b k)) with
   |true=>some (some (⟨[],[(k,none),(b,some (.a' r m E U ((M,N,.t (.aD a))::I)))],[]⟩,[.q gen A,.q c d,.q F a.length]))
   |false=>some none
  |_,_=>some none
 | .ep b j k e=>match s.H b,s.u k,dw C.cb e with
  |some (.cells cs),false,some i=>match cs[j]? with
   |some (.t .fj)=>some (some (⟨[],[(k,some (.arr e 1 i.size [])),(b,some (.cells (cs.set j (.bc k 1 i.size 0 0))))],[(k,true)]⟩,[]))
   |_=>some none
  |_,_,_=>some none
 | .jA k=>match s.H k with
  |some (.cells cs)=>some (some (⟨[],[(k,some (.cells (gH cs)))],[]⟩,[]))
  |_=>some none
 | .dR k r m=>match s.H k with
  |some (.arr ty gen c a)=>match Bg (aO r m).bm||Bg a with
   |true=>some (some (⟨[],[(k,some (.a' r m gen a []))],[]⟩,[.q (aO r m).ty ty,.q (aO r m).size c]))
   |false=>some none
  |some (.a' Q X gen a I)=>match Nat.ble C.c' k&&Bg (aO r m).bm with
   |true=>some (some (⟨[],[(k,some (.a' r m gen a I))],[]⟩,[.q (aO r m).ty (aO Q X).ty,.q (aO r m).size (aO Q X).size]))
   |false=>some none
  |_=>some none
 | .da k=>match s.H k with
  |some (.a' r m gen a [])=>match Nat.ble C.c' k with
   |true=>some (some (⟨[],[(k,some (.arr (aO r m).ty gen (aO r m).size a))],[]⟩,[]))
   |false=>some none
  |_=>some none
 | .dV k w i j B=>match s.H k,s.u w with
  |some (.a' r m gen a I),false=>match (aO r m).eg j,B[j]? with
   |some W,some (.aD G)=>some (some (⟨[],[(k,some (.a' r m gen a ((i,j,.bc w 1 (aO r W).size 0 G.length)::I))),(w,some (.a' r W 1 G []))],[(w,true)]⟩,.p (a[i]? =some B)::rS i j I))
   |_,_=>some none
  |_,_=>some none
 | .O8 k i j B=>match s.H k with
  |some (.a' r m gen a I)=>match (aO r m).eg j,B[j]?,q5 j I with
   |none,some x,true=>some (some (⟨[],[(k,some (.a' r m gen a ((i,j,.t x)::I)))],[]⟩,[.p (a[i]? =some B)]))
   |_,_,_=>some none
  |_=>some none
 | .CZ k B R=>match s.H k with
  |some (.a' r m gen a ((i,j,.t x)::I))=>match (aO r m).eg j,Nat.blt j (aO r m).size&&q5 j I with
   |none,true=>some (some (⟨[],[(k,some (.a' r m gen R I))],[]⟩,[.p (a[i]? =some B),.p (a.set i (B.set j x)=R)]))
   |some _,true=>match x with
    | .fj=>some (some (⟨[],[(k,some (.a' r m gen R I))],[]⟩,[.p (a[i]? =some B),.p (a.set i (B.set j (.aD []))=R)]))
    |_=>some none
   |_,_=>some none
  |_=>some none
 | .Bx i j k e=>match s.t i,s.u k,dw C.cb e with
  | .agg cs,false,some y=>match cs[j]? with
   |some (.t .fj)=>some (some (⟨[(i,.agg (cs.set j (.bc k 1 y.size 0 0)))],[(k,some (.arr e 1 y.size []))],[(k,true)]⟩,[]))
   |_=>some none
  |_,_,_=>some none
 | .di k w B R=>match s.H k,s.H w with
  |some (.a' r m gen a ((i,j,.bc P g z o n)::I)),some (.a' Q W T G [])=>match (aO r m).eg j,Nat.beq P w&&(!Nat.beq k w&&(Nat.ble C.c' w&&(Nat.beq o 0&&Nat.blt j (aO r m).size))) with
   |some V,true=>some (some (⟨[],[(w,none),(k,some (.a' r m gen R I))],[]⟩,.q g T:: .q z (aO r W).size:: .p (n=G.length):: .q V W:: .p (Q=r):: .p (a[i]? =some B):: .p (a.set i (B.set j (.aD G))=R)::rS i j I))
   |_,_=>some none
  |_,_=>some none
 | .cut k n R=>match s.H k with
  |some (.arr e gen c a)=>some (some (⟨[],[(k,some (.arr e gen c R))],[]⟩,[.p (R=a.take n)]))
  |_=>some none
 |_=>none
def pZ(C:dK)(a:Nat):List ct->S->Option (cP×List dd×List ct)
 | [],_=>some (.nil,[],[])
 | .at m::c,s=>match Nat.beq m a with
  |true=>pZ C a c s
  |false=>some (.nil,[],.at m::c)
 |h::c,s=>match iO C h s with
  |none=>some (.nil,[],h::c)
  |some none=>none
  |some (some (e,k))=>match pZ C a c (e.app s) with
   |some (l,d,i)=>some (e.cat l,k++d,i)
   |none=>none
section
variable {K:Ctx} {C:dK}
theorem Zb{K:Ctx}{s:S}(k n:Nat)(p:s.H k=some (.arr e gen L c)):s.le K {s with H:=aU s.H k (some (.arr e gen L (c.take n)))}:=by
 intro q a w h;refine⟨q,h.IC k p λX l=>⟨l.1,?_⟩⟩;rcases l.2 with ⟨m,o⟩|⟨b,r,m,o,y,z,A⟩
 ·exact .inl ⟨m,by rw[o];simp⟩
 refine .inr ⟨b,r,m,o,gr (dx _ (List.length_take_le' _ _)) y,λd B=>z d (fR B),λi j d x u aJ a2 a3=>?_⟩;rw[fy] at aJ;split at aJ
 ·exact A i j d x u aJ a2 a3
 cases aJ
theorem AD(r:C.Fits K){h:ct}{s:S}{e:cP}{U:List dd}(d:iO C h s=some (some (e,U)))(m:ch U):s.le K (e.app s):=by
 unfold iO at d;split at d
 ·split at d
  ·rename_i y n;split at d
   ·rename_i i;cases d;simp only[Bool.and_eq_true] at i;obtain⟨rfl,rfl,rfl,_⟩:=m;have z:=cK i.1;have F:=cK i.2.1;subst z;subst F;exact UW _ _ _ _ (by rw[<-r.c'];exact i.2.2) y n
   cases d
  cases d
 ·split at d
  ·rename_i n;split at d
   ·rename_i i W;cases d;refine J4 _ _ _ _ (by rw[<-r.c'];exact i) (λj=>?_) n;rcases mb (w6 _ _) s.t j with ⟨_,o⟩|⟨v,x,o⟩
    ·exact .inl o
    obtain⟨Y,rfl⟩:=Ms x;exact .inr ⟨o,NR W m j Y⟩
   cases d
  cases d
 ·split at d
  ·rename_i y p q;cases d;exact Zc _ _ _ p y
  cases d
 ·split at d
  ·rename_i y;cases d;obtain⟨rfl,_⟩:=m;intro G a w H;refine⟨G,?_⟩;unfold cP.app;simp only[de];rw[<-y,Mf];exact H
  cases d
 ·split at d
  ·rename_i vs n;split at d
   ·rename_i cs Q i;split at d
    ·rename_i l b;cases d;have A:=n;rw[ow Q] at A;refine Uk _ _ (by rw[<-r.c'];exact i) A λj=>?_;rcases mb l s.t j with ⟨_,o⟩|⟨v,x,o⟩
     ·exact .inl o
     obtain⟨R,f,g⟩:=N3 b j v x;exact .inr ⟨R,f,by rw[<-g];exact o⟩
    cases d
   cases d
  cases d
 ·split at d
  ·rename_i n;split at d
   ·rename_i i;cases d;simp only[Bool.and_eq_true] at i;obtain⟨I,L⟩:=ch.app m;exact abe (by rw[<-r.c'];exact i.1) n (wc i.2) I L
   cases d
  cases d
 ·split at d
  ·rename_i n p;split at d
   ·rename_i i;cases d;simp only[Bool.and_eq_true] at i;obtain⟨I,L⟩:=ch.app m;exact OB (by rw[<-r.c'];exact i.1) (Nu i.2.1) n rfl p (wc i.2.2.1) (wc i.2.2.2) I L
   cases d
  ·rename_i n p;split at d
   ·rename_i i;cases d;simp only[Bool.and_eq_true] at i;obtain⟨I,L⟩:=ch.app m;exact OB (by rw[<-r.c'];exact i.1) (Nu i.2.1) n rfl p (wc i.2.2.1) (wc i.2.2.2) I L
   cases d
  cases d
 ·split at d
  ·rename_i i;split at d
   ·rename_i q;cases d;obtain⟨rfl,_⟩:=m;intro G a w H;refine⟨G,?_⟩;have F:=bR.1 q;have u: ∀{cs:List V} {j:Nat} {c:V},cs[j]? =some c->cs.set j c=cs:=by
     intro cs j c h;obtain⟨x,o⟩:=bR.1 h;rw[<-o,List.set_getElem_self]
    unfold cP.app;simp only[de];rw[u q,<-i,Mf];exact H
   cases d
  cases d
 ·split at d
  ·rename_i y n p;split at d
   ·rename_i i;cases d;simp only[Bool.and_eq_true,Bool.not_eq_true'] at i;obtain⟨rfl,rfl,_⟩:=m;have z:=cK i.1;subst z;exact V2 _ _ _ _ _ _ _ (by rw[<-r.c'];exact i.2.1) (Nat.ne_of_beq_eq_false i.2.2) y n p
   cases d
  cases d
 ·split at d
  ·rename_i i n;split at d
   ·rename_i q E;split at d
    ·rename_i B;cases d;simp only[Bool.and_eq_true] at B;obtain⟨rfl,rfl,rfl,_⟩:=m;have z:=cK B.1;have F:=cK B.2;subst z;subst F;exact Un _ _ _ _ _ (by rw[<-r.c'];exact E) i q n
    cases d
   cases d
  ·rename_i i n;split at d
   ·rename_i B;cases d;simp only[Bool.and_eq_true,Bool.not_eq_true'] at B;obtain⟨rfl,rfl,rfl,_⟩:=m;have z:=cK B.1;have F:=cK B.2.1;subst z;subst F;exact Ul _ _ _ _ _ _ (by rw[<-r.c'];exact B.2.2.1) (Nat.ne_of_beq_eq_false B.2.2.2) i n
   cases d
  cases d
 ·split at d
  ·rename_i i p y;split at d
   ·rename_i q;cases d;exact WZ _ _ _ _ p i q
   cases d
  cases d
 ·split at d
  ·rename_i k cs n;cases d;intro G a w H;exact⟨G,H.IC _ n λX h=>(show jh (.cells _) (.cells _) from lP cs).vc h⟩
  cases d
 ·split at d
  ·rename_i n;split at d
   ·rename_i i;cases d;obtain⟨x,o,_⟩:=m;refine WV _ _ _ n x o ?_;rcases Bool.or_eq_true_iff.1 i with h|h
    ·exact .inr (FX h)
    exact .inl (FX h)
   cases d
  ·rename_i n;split at d
   ·rename_i i;cases d;obtain⟨x,o,_⟩:=m;simp only[Bool.and_eq_true] at i;exact WX _ _ _ n (by rw[<-r.c'];exact i.1) x o (FX i.2)
   cases d
  cases d
 ·split at d
  ·rename_i n;split at d
   ·rename_i i;cases d;exact WW _ n (by rw[<-r.c'];exact i)
   cases d
  cases d
 ·split at d
  ·rename_i n p;split at d
   ·rename_i D q;cases d;exact V3 _ _ _ _ _ n p m.1 q D (wv m.2)
   cases d
  cases d
 ·split at d
  ·rename_i n;split at d
   ·rename_i D q M;cases d;exact WY _ _ _ n m.1 q D M
   cases d
  cases d
 ·split at d
  ·rename_i n;split at d
   ·rename_i D i;cases d;simp only[Bool.and_eq_true] at i;obtain⟨x,rfl,_⟩:=m;exact UT _ _ _ n x i.1 D i.2
   ·rename_i D i;split at d
    ·cases d;simp only[Bool.and_eq_true] at i;obtain⟨x,rfl,_⟩:=m;exact V0 _ _ _ _ n x i.1 D i.2
    cases d
   cases d
  cases d
 ·split at d
  ·rename_i y p hy;split at d
   ·rename_i q;cases d;exact W3 _ _ _ _ p y q
   cases d
  cases d
 ·split at d
  ·rename_i n A;split at d
   ·rename_i D i;cases d;simp only[Bool.and_eq_true,Bool.not_eq_true'] at i;obtain⟨rfl,o,N,rfl,rfl,P,rfl,T⟩:=m;have z:=cK i.1;have F:=cK i.2.2.2.1;subst z;subst F;exact Uj _ _ _ _ _ _ _ _ n A o N (Nat.ne_of_beq_eq_false i.2.1) (by rw[<-r.c'];exact i.2.2.1) P D i.2.2.2.2 (wv T)
   cases d
  cases d
 ·split at d
  ·rename_i n;cases d;obtain⟨rfl,_⟩:=m;exact Zb _ _ n
  cases d
 cases d
theorem qM(m:C.Fits K){i:Nat}: ∀{n:List ct} {s:S} {e:cP} {l:List dd} {c:List ct},pZ C i n s=some (e,l,c)->ch l->s.le K (e.app s)
 | [],s,e,l,c,h,_=>by cases h;exact S.le.refl _ _
 |h::n,s,e,l,c,a,k=>by
  unfold pZ at a;split at a
  ·cases a;exact S.le.refl _ _
  ·split at a
   ·rename_i d _ _;cases d;exact qM m a k
   cases a;exact S.le.refl _ _
  rename_i d;cases d;split at a
  ·cases a;exact S.le.refl _ _
  ·cases a
  rename_i z o p;split at a
  ·rename_i A q r w;cases a;obtain⟨x,y⟩:=ch.app k;rw[nc];exact(AD m p x).trans (qM m w y)
  cases a
def iz(C:dK)(a:Array Oper):List Oper->List ct->S->Option (cP×List dd)
 | [],c,s=>match pZ C 0 c s with
  |some (e,q,[])=>some (e,q)
  |_=>none
 |o::l,c,s=>match pZ C (l.length+1) c s with
  |none=>none
  |some (d,h,i)=>match rW C a o i (d.app s) with
   |none=>none
   |some (p,k,m)=>match iz C a l m (p.app (d.app s)) with
    |none=>none
    |some (r,n)=>some (d.cat (p.cat r),h++(k++n))
theorem N5(c:C.Fits K){V:Array Oper}{Q:S->Prop}: ∀{l:List Oper} {k:List ct} {s:S} {e:cP} {d:List dd},iz C V l k s=some (e,d)->ch d->p1 K V [] (e.app s) Q->p1 K V l s Q
 | [],k,s,e,d,h,a,i=>by
  simp only[iz] at h;split at h
  ·rename_i G n p;cases h;exact Kg (qM c p a) i
  cases h
 |o::l,k,s,e,d,h,a,i=>by
  simp only[iz] at h;split at h
  ·cases h
  rename_i H q r w;split at h
  ·cases h
  rename_i I x y z;split at h
  ·cases h
  rename_i L A B;cases h;obtain⟨D,m⟩:=ch.app a;obtain⟨m,F⟩:=ch.app m;rw[nc,nc] at i;exact Kg (qM c w D) (aaf (N6 c z m) (N5 c B F i))
abbrev rm:=Prop×List Nat×List (Nat×Bool)×Bool×List V×List (Option E)
def ua:rm:=(False,[],[],false,[],[])
def ub:rm:=(True,[],[],true,[],[])
def uc(s:S)(c:List Nat)(d:List (Nat×V))(a:List (Nat×Option E))(r:cP×List dd):rm:=
 (x4 r.2,u2 r.2,r.1.us,rf c r.1.eD&&rf (w5 a) r.1.hs,tE (r.1.app s) d,tI (r.1.app s) a)
def ud(a:Prop)(c:List (Nat×V))(d:List (Nat×Option E))(e:List (Nat×Bool))(r:cP×List dd):rm:=
 (a,u3 r.2,e,true,kd c,kd d)
def l3(x:Option (cP×List dd))(n:rm)(f:cP×List dd->rm):rm:=match x with
 |some r=>f r
 |none=>n
theorem Oo{x:Option (cP×List dd)}{s:S}{L:List Nat}{a:List (Nat×V)}{c:List (Nat×Option E)}{m:List (Nat×Bool)}{p:Prop}(i:p)
  (h:l3 x ua (uc s L a c)=l3 x ub (ud p a c m)): ∃e d,x=some (e,d)/\ch d/\(e.app s).le K (s.cl L a c m):=by
 cases x with
 |none=>simp[l3,ua,ub] at h
 |some r=>
  obtain⟨e,d⟩:=r;simp only[l3,uc,ud,Prod.mk.injEq,Bool.and_eq_true] at h;obtain⟨k,l,n,⟨o,q⟩,w,y⟩:=h;exact⟨e,d,rfl,ch.of (k▸i) l,aa3 n o q w y⟩
def tmps:List Operand->List Nat
 | []=>[]
 | .tmp t::a=>t::tmps a
 |_::a=>tmps a
def OI(a:Array Oper)(o:Oper):List Nat:=match o.guard with
 |none=>[]
 |some (j,_)=>match (a[j]?).bind (·.dst) with
  |some t=>[t]
  |none=>[]
def Bc(o:Oper)(a:List ct):List ct:=match o.guard with
 |none=>a
 |some _=>a.tail
def AZ(a:Array Oper)(o:Oper)(c:List ct)(s:S):gw:=⟨OI a o++tmps o.op.operands.toList,uG o (o.op.operands.toList.map s.get) (Bc o c)⟩
theorem Fe{s a:S}: ∀{c:List Operand},(∀i,i∈tmps c->s.t i=a.t i)->c.map s.get=c.map a.get
 | [],_=>rfl
 | .tmp t::c,h=>by
  simp only[List.map_cons,List.cons.injEq];exact⟨h t eR,Fe λi d=>h i (ev _ d)⟩
 | .const _::c,h| .global _::c,h| .func _::c,h=>by simp only[List.map_cons,List.cons.injEq];exact⟨rfl,Fe h⟩
theorem VO{H a:Nat->Option E}(h: ∀k,k∈r->H k=a k):tS r H=tS r a:=by
 funext k;unfold tS;cases c:hn k r with
 |true=>exact h k (zM c)
 |false=>rfl
theorem VM{u a:Nat->Bool}(h: ∀k,k∈r->u k=a k):tR r u=tR r a:=by
 funext k;unfold tR;cases c:hn k r with
 |true=>exact h k (zM c)
 |false=>rfl
theorem Yc{s b:S}{a:List V}{hs:List ct}(h: ∀k,k∈uG o a hs->s.H k=b.H k/\s.u k=b.u k):qa C o a s hs=qa C o a b hs:=by unfold qa;rw[VO λk c=>(h k c).1,VM λk c=>(h k c).2]
theorem Yo{V:Array Oper}{c:List ct}{s a:S}(h:(AZ V o c s).same a s):rW C V o c a=rW C V o c s:=by
 obtain⟨n,w⟩:=h;have y:o.op.operands.toList.map a.get=o.op.operands.toList.map s.get:=Fe λi z=>n i (dZ.2 (.inr z));have q: ∀d,(∀k,k∈uG o (o.op.operands.toList.map s.get) d->k∈uG o (o.op.operands.toList.map s.get) (Bc o c))->qa C o (o.op.operands.toList.map s.get) a d=qa C o (o.op.operands.toList.map s.get) s d:=λd A=>
  Yc λk e=>w k (A k e)
 unfold rW;rw[y];cases l:o.guard with
 |none=>exact q c (λk e=>by simp only[Bc,l];exact e)
 |some p=>
  obtain⟨j,r⟩:=p;have m:uk V j a=uk V j s:=by
   unfold uk;cases B:(V[j]?).bind (·.dst) with
   |none=>rfl
   |some t=>
    have:=n t (dZ.2 (.inl (by unfold OI;rw[l];simp only[B];exact mI.2 rfl)));simp only[this]
  simp only[m];cases c with
  |nil=>rfl
  |cons x c=>
   have:=q c λk e=>by simp only[Bc,l,List.tail];exact e
   cases x<;>first|rfl|(dsimp only;rw[this])
def nR(C:dK)(a:Nat):List ct->S->Option (cP×List dd×List ct×gw)
 | .at m::hs,s=>match Nat.beq m a with
  |true=>nR C a hs s
  |false=>some (.nil,[],.at m::hs,⟨[],[]⟩)
 | .rZ is k::hs,s=>match iO C (.rZ is k) s with
  |some (some (e,h))=>match nR C a hs (e.app s) with
   |some (i,c,d,dQ)=>some (e.cat i,h++c,d,⟨is++dQ.eD,k::dQ.kY⟩)
   |none=>none
  |_=>none
 | .bh k is l::hs,s=>match iO C (.bh k is l) s with
  |some (some (e,h))=>match nR C a hs (e.app s) with
   |some (i,c,d,dQ)=>some (e.cat i,h++c,d,⟨is++dQ.eD,k::(l++dQ.kY)⟩)
   |none=>none
  |_=>none
 | .da k::hs,s=>match iO C (.da k) s with
  |some (some (e,h))=>match nR C a hs (e.app s) with
   |some (i,c,d,dQ)=>some (e.cat i,h++c,d,⟨dQ.eD,k::dQ.kY⟩)
   |none=>none
  |_=>none
 |hs,_=>some (.nil,[],hs,⟨[],[]⟩)
theorem VL{C:dK}{s a:S}(c:a.H k=s.H k):iO C (.da k) a=iO C (.da k) s:=by unfold iO;simp only[c]
theorem LB{k g z n:Nat}{s a:S}: ∀{is:List Nat},(∀i,i∈is->a.t i=s.t i)->rR k g z n a is=rR k g z n s is
 | [],_=>rfl
 |i::is,h=>by unfold rR;rw[h i eR,LB λx c=>h x (ev _ c)]
theorem W'{s a:S}(c: ∀i,i∈r->a.t i=s.t i)(d:a.H k=s.H k):iO C (.rZ r k) a=iO C (.rZ r k) s:=by
 unfold iO;dsimp only;rw[d];split
 ·rw[LB c]
 rfl
theorem Mb{k g z n:Nat}{v:V}{s a:S}: ∀{is:List Nat},(∀i,i∈is->a.t i=s.t i)->h' k g z n v a is=h' k g z n v s is
 | [],_=>rfl
 |i::is,h=>by simp only[h',h i List.mem_cons_self,Mb λx c=>h x (List.mem_cons_of_mem _ c)]
theorem MD{k g z n:Nat}{v:V}{s a:S}: ∀{c:List Nat},(∀b,b∈c->a.H b=s.H b)->gq k g z n v a c=gq k g z n v s c
 | [],_=>rfl
 |b::c,h=>by unfold gq;rw[h b eR,MD λx d=>h x (ev _ d)]
theorem VK{L:List Nat}{s a:S}(c: ∀i,i∈r->a.t i=s.t i)(d:a.H k=s.H k)(e: ∀b,b∈L->a.H b=s.H b):iO C (.bh k r L) a=iO C (.bh k r L) s:=by
 unfold iO;dsimp only;rw[d];split
 ·rw[Mb c,MD e]
 rfl
theorem FT{k:Type}{f g:Nat->k}{r:Nat}(h:f r=g r): ∀(l:List (Nat×k)),de f l r=de g l r:=by
 intro l;induction l generalizing f g with
 |nil=>exact h
 |cons p l c=>
  obtain⟨d,v⟩:=p;simp only[de];apply c;by_cases a:r=d
  ·subst a;rw[bW,bW]
  rw[bX _ _ _ _ a,bX _ _ _ _ a];exact h
theorem CB{r:gw}{s a:S}(e:cP)(h:r.same a s):r.same (e.app a) (e.app s):=
 ⟨λi d=>FT (h.1 i d) _,λk c=>⟨FT (h.2 k c).1 _,FT (h.2 k c).2 _⟩⟩
theorem wz(w:C.Fits K){n:Nat}: ∀{z:List ct} {s:S} {e:cP} {d:List dd} {a:List ct} {dQ:gw},nR C n z s=some (e,d,a,dQ)->ch d-> ∀c,dQ.same c s->c.le K (e.app c)
 | .at m::z,s,e,d,a,dQ,h,o,c,l=>by
  unfold nR at h;split at h
  ·exact wz w h o c l
  cases h;exact S.le.refl _ _
 | .rZ is k::z,s,e,d,a,dQ,h,o,c,l=>by
  unfold nR at h;split at h
  ·rename_i p r A;split at h
   ·rename_i Q B D F G;cases h;obtain⟨H,I⟩:=ch.app o;have q:iO C (.rZ is k) c=some (some (p,r)):=(W' (λi x=>l.1 i (mH _ x)) (l.2 k eR).1).trans A;rw[nc];exact(AD w q H).trans (wz w G I (p.app c) (CB p ⟨λi x=>l.1 i (pG _ x),λk L=>l.2 k (ev _ L)⟩))
   cases h
  cases h
 | .bh k is R::z,s,e,d,a,dQ,h,o,c,l=>by
  unfold nR at h;split at h
  ·rename_i p r A;split at h
   ·rename_i Q B D F G;cases h;obtain⟨H,I⟩:=ch.app o;have q:iO C (.bh k is R) c=some (some (p,r)):=(VK (λi x=>l.1 i (mH _ x)) (l.2 k eR).1 λb U=>(l.2 b (ev _ (mH _ U))).1).trans A;rw[nc];exact(AD w q H).trans (wz w G I (p.app c) (CB p ⟨λi x=>l.1 i (pG _ x),λk L=>l.2 k (ev _ (pG _ L))⟩))
   cases h
  cases h
 | .da k::z,s,e,d,a,dQ,h,o,c,l=>by
  unfold nR at h;split at h
  ·rename_i p r A;split at h
   ·rename_i Q B D F G;cases h;obtain⟨H,I⟩:=ch.app o;have q:iO C (.da k) c=some (some (p,r)):=(VL (l.2 k eR).1).trans A;rw[nc];exact(AD w q H).trans (wz w G I (p.app c) (CB p ⟨l.1,λk L=>l.2 k (ev _ L)⟩))
   cases h
  cases h
 | [],s,e,d,a,dQ,h,_,c,_=>by cases h;exact S.le.refl _ _
 | .dR _ _ _::_,s,e,d,a,dQ,h,_,c,_| .dV _ _ _ _ _::_,s,e,d,a,dQ,h,_,c,_| .di _ _ _ _::_,s,e,d,a,dQ,h,_,c,_| .lt _ _ _::_,s,e,d,a,dQ,h,_,c,_| .O8 _ _ _ _::_,s,e,d,a,dQ,h,_,c,_| .CZ _ _ _::_,s,e,d,a,dQ,h,_,c,_| .Bx _ _ _ _::_,s,e,d,a,dQ,h,_,c,_| .cut _ _ _::_,s,e,d,a,dQ,h,_,c,_
 | .row _::_,s,e,d,a,dQ,h,_,c,_| .rows _::_,s,e,d,a,dQ,h,_,c,_| .str _::_,s,e,d,a,dQ,h,_,c,_| .int _::_,s,e,d,a,dQ,h,_,c,_| .nat _::_,s,e,d,a,dQ,h,_,c,_
 | .b _::_,s,e,d,a,dQ,h,_,c,_| .y _::_,s,e,d,a,dQ,h,_,c,_| .v _::_,s,e,d,a,dQ,h,_,c,_| .iW _ _::_,s,e,d,a,dQ,h,_,c,_| .grow _ _ _::_,s,e,d,a,dQ,h,_,c,_
 | .jA _::_,s,e,d,a,dQ,h,_,c,_| .Bu _ _ _::_,s,e,d,a,dQ,h,_,c,_| .ep _ _ _ _::_,s,e,d,a,dQ,h,_,c,_| .afi _ _ _::_,s,e,d,a,dQ,h,_,c,_| .afh _ _ _ _::_,s,e,d,a,dQ,h,_,c,_
 | .len _ _::_,s,e,d,a,dQ,h,_,c,_| .eB _ _ _::_,s,e,d,a,dQ,h,_,c,_| .rY _ _::_,s,e,d,a,dQ,h,_,c,_| .ec _ _ _ _::_,s,e,d,a,dQ,h,_,c,_| .dq _ _ _::_,s,e,d,a,dQ,h,_,c,_| .dG _ _ _ _::_,s,e,d,a,dQ,h,_,c,_=>by cases h;exact S.le.refl _ _
theorem hS.pre{ops:Array Oper}{s b c:S}(i:s.le K b)(h:hS K ops o b c):hS K ops o s c:=by
 intro k a w next Q l m
 obtain⟨d,e⟩:=i k a w l;exact h d a w next Q e m
def xf(C:dK)(a:Array Oper):List Oper->List ct->S->Option (List (cP×gw)×List dd)
 | [],h,_=>match h with
  | []=>some ([],[])
  |_=>none
 |o::l,h,s=>match nR C (l.length+1) h s with
  |none=>none
  |some (d,i,c,dQ)=>match rW C a o c (d.app s) with
   |none=>none
   |some (e,n,k)=>match xf C a l k (e.app (d.app s)) with
    |none=>none
    |some (p,m)=>some ((d.cat e,⟨dQ.eD++(AZ a o c (d.app s)).eD,dQ.kY++(AZ a o c (d.app s)).kY⟩)::p,i++(n++m))
def Bf:List (cP×gw)->cP
 | []=> .nil
 |(e,_)::a=>e.cat (Bf a)
theorem Gg(p:C.Fits K){V:Array Oper}{Q:S->Prop}: ∀{l:List Oper} {q:List ct} {s:S} {c:List (cP×gw)} {d:List dd},xf C V l q s=some (c,d)->ch d->Q ((Bf c).app s)->vP K V l c s Q
 | [],q,s,c,d,h,_,m=>by
  simp only[xf] at h;split at h
  ·cases h;exact m
  cases h
 |o::l,q,s,c,d,h,r,m=>by
  simp only[xf] at h;split at h
  ·cases h
  rename_i n D w dQ F;split at h
  ·cases h
  rename_i e G H I;split at h
  ·cases h
  rename_i L R U;cases h;obtain⟨W,x⟩:=ch.app r;obtain⟨x,X⟩:=ch.app x;simp only[Bf,nc] at m;refine⟨λB a=>?_,by rw[nc];exact Gg p U X m⟩;rw[nc];refine hS.pre (wz p F W B ⟨λi y=>a.1 i (mH _ y),λk z=>a.2 k (mH _ z)⟩) ?_;have A:(AZ V o w (n.app s)).same (n.app B) (n.app s):=CB n ⟨λi y=>a.1 i (pG _ y),λk z=>a.2 k (pG _ z)⟩;exact N6 p ((Yo A).trans I) x
def lx(C:dK)(l:List Oper)(h:List ct)(s:S):Option (cP×List dd):=
 match pZ C l.length h s with
 |none=>none
 |some (d,a,c)=>match xf C l.toArray l c (d.app s) with
  |none=>none
  |some (e,i)=>match mw l.toArray l.length 0 e&&rj 0 l with
   |true=>some (d.cat (Bf e),a++i)
   |false=>none
theorem NZ{c:Code}{s s2:S}{Q:Exit->S->Prop}(h:cH K c s λe k=>match e with| .normal=>k.le K s2|_=>False)(n:Q .normal s2):cH K c s Q:=by
 intro o a w p x y;refine h o a w p x ?_;intro e k d l m q r;cases e with
 |normal=>obtain⟨i,z⟩:=q d l m r;exact y _ _ i l m n z
 |exit=>exact q.elim
 |goto=>exact q.elim
 |ret=>exact q.elim
 |panic=>exact q.elim
 |outgrown=>exact q.elim
theorem rd{l:List Oper}{s:S}{Q:Exit->S->Prop}(q:C.Fits K)(x:K.P.follows .mixedOrders=true)(r:List ct)(k:List Nat)(c:List (Nat×V))(d:List (Nat×Option E))(m:List (Nat×Bool)){p:Prop}(n:p)
  (h:l3 (lx C l r s) ua (uc s k c d)=l3 (lx C l r s) ub (ud p c d m)) (y:Q .normal (s.cl k c d m)):cH K (.region i l.toArray true) s Q:=by
 obtain⟨e,R,a,z,w⟩:=Oo (K:=K) n h;unfold lx at a;split at a
 ·cases a
 rename_i U A B D;split at a
 ·cases a
 rename_i F G H;split at a
 ·rename_i o;cases a;simp only[Bool.and_eq_true] at o;obtain⟨I,L⟩:=ch.app z;refine u4 (qM q D I) (NZ (s2:=s.cl k c d m) (Md F x o.1 o.2 (Gg q H L ?_)) y);rw[nc] at w;exact w
 cases a
def nH:List (Nat×E)->List (Nat×Option E)
 | []=>[]
 |(k,e)::l=>(k,some e)::nH l
def oN:List Nat->List (Nat×Bool)
 | []=>[]
 |k::l=>(k,true)::oN l
def a7(a:List (Nat×V))(c:List (Nat×E))(d:List Nat):S:={t:=de pr a,H:=de oF (nH c),u:=de gl (oN d)}
def Bo(u:Nat->Bool):List (Nat×V)->Bool
 | []=>true
 |(_,v)::l=>v.ok u&&Bo u l
def Bm(u:Nat->Bool):List (Nat×E)->Bool
 | []=>true
 |(k,e)::l=>u k&&(e.ok u&&Bm u l)
def Be(u:Nat->Bool):List Nat->Bool
 | []=>true
 |k::l=>u k&&Be u l
theorem M'{u:Nat->Bool}: ∀{l:List (Nat×V)},Bo u l=true-> ∀i v,(i,v)∈l->v.ok u=true
 |(a,c)::l,h,i,v,hm=>by
  simp only[Bo,Bool.and_eq_true] at h;rcases dN.1 hm with hm|hm
  ·cases hm;exact h.1
  exact M' h.2 i v hm
theorem NO{u:Nat->Bool}: ∀{l:List (Nat×E)},Bm u l=true-> ∀k e,(k,some e)∈nH l->u k=true/\e.ok u=true
 |(a,c)::l,h,i,v,hm=>by
  simp only[Bm,Bool.and_eq_true] at h;simp only[nH] at hm;rcases dN.1 hm with hm|hm
  ·cases hm;exact⟨h.1,h.2.1⟩
  exact NO h.2.2 i v hm
theorem M9{u:Nat->Bool}: ∀{l:List Nat},Be u l=true-> ∀k b,(k,b)∈oN l->u k=true
 |a::l,h,k,b,hm=>by
  simp only[Be,Bool.and_eq_true] at h;simp only[oN] at hm;rcases dN.1 hm with hm|hm
  ·cases hm;exact h.1
  exact M9 h.2 k b hm
def Bi(e:Nat)(s:S)(c:List (Nat×V))(d:List (Nat×E))(a:List Nat):List V×List (Option E)×Bool:=
 (tE s c,tI s (nH d),Bo (de gl (oN a)) c&&(Bm (de gl (oN a)) d&&(Be s.u a&&mv e (de gl (oN a)))))
theorem P6{s:S}{a:List (Nat×V)}{c:List (Nat×E)}(h:Bi K.c' s a c r=(kd a,kd (nH c),true)):s.le K (a7 a c r):=by
 simp only[Bi,Prod.mk.injEq,Bool.and_eq_true] at h;obtain⟨m,n,o,p,q,w⟩:=h;refine aan (s':=a7 a c r) ?_ ?_ ?_ w
 ·intro i;show de pr a i= .c3\/(dz _ (de pr a i)/\(de pr a i).ok _=true)
  rcases mb a pr i with ⟨aJ,a2⟩|⟨v,aJ,a2⟩
  ·exact .inl a2
  rw[a2];exact .inr ⟨Fc m i v aJ,M' o i v aJ⟩
 ·intro k e d;have d:de oF (nH c) k=some e:=d;rcases mb (nH c) oF k with ⟨aJ,a2⟩|⟨v,aJ,a2⟩
  ·rw[a2] at d;cases d
  rw[a2] at d;subst d;obtain⟨x,y⟩:=NO p k e aJ;exact⟨Fs n k e aJ,x,y⟩
 intro k l;have l:de gl (oN r) k=true:=l;rcases mb (oN r) gl k with ⟨aJ,a2⟩|⟨v,aJ,a2⟩
 ·rw[a2] at l;cases l
 exact M9 q k v aJ
theorem YX{ι:Type}{x y:Code}{s:S}{Q:Exit->S->Prop}(I:ι->S)(p:ι->Prop)(a:cH K x s (p7 (λc=> ∃i,p i/\c.le K (I i)) Q))(d: ∀i,p i->cH K y (I i) Q):cH K (.seq x y) s Q:=by
 refine Av (vR a λe l q=>?_);cases e with
 |normal=>obtain⟨i,h,k⟩:=q;exact u4 k (d i h)
 |exit=>exact q
 |goto=>exact q
 |ret=>exact q
 |panic=>exact q
 |outgrown=>exact q
theorem abA{v r:V}(h:lo r v=r):dz v r:=h▸FI r v
def ts(s:S):List E->Nat->List (Option E)
 | [],_=>[]
 |e::l,k=>Bn (some e) (s.H k)::ts s l (k+1)
def tl:List E->List (Option E)
 | []=>[]
 |e::l=>some e::tl l
def tQ(u:Nat->Bool):List E->Bool
 | []=>true
 |e::l=>e.ok u&&tQ u l
theorem LS{s:S}: ∀{l:List E} {k:Nat},ts s l k=tl l-> ∀i e,l[i]? =some e-> ∃a,s.H (k+i)=some a/\jh a e
 |a::l,k,h,0,e,c=>by
  simp only[ts,tl,List.cons.injEq] at h;simp at c;subst c;exact NS h.1
 |a::l,k,h,i+1,e,c=>by
  simp only[ts,tl,List.cons.injEq] at h
  have:=LS h.2 i e (by simpa using c)
  rwa [show k+1+i=k+(i+1) by omega] at this
theorem MI{u:Nat->Bool}: ∀{l:List E},tQ u l=true-> ∀(i:Nat) e,l[i]? =some e->e.ok u=true
 |c::l,h,0,e,a=>by simp only[tQ,Bool.and_eq_true] at h;simp at a;subst a;exact h.1
 |c::l,h,i+1,e,a=>by simp only[tQ,Bool.and_eq_true] at h;exact MI h.2 i e (by simpa using a)
end
end
def bo{k R:Type}(a:(k->Option R)->k->Option R):Nat->k->Option R
 |0,_=>none
 |m+1,x=>a (bo a m) x
def aA{k R:Type}(j:k->Option R)(t:(k->Option R)->Option R):Option R:=t j
variable {k R γ:Type}{A o B:Option R}{r a l:List k}{f:FuncId}{c:Code}{d:Func}{s:S}{Q:Exit->S->Prop}{j i:Int}{x y ph:k}{p:Prop}{q:List T}{D:Map}{w:World}{v:V}{u z:Value}{e:ResultVar}{args:List V}
theorem hJ{A:k->Option R}{t:(k->Option R)->Option R}{r:R}(h:aA A t=some r): ∃j,j=A/\t j=some r:=⟨A,rfl,h⟩
theorem cR{o:Option k}{f:k->Option R}{r:R}(h:o.bind f=some r): ∃x,o=some x/\f x=some r:=by
 cases o with
 |none=>cases h
 |some x=>exact⟨x,rfl,h⟩
theorem hA{c:Bool}{r:R}(a:c=true)(h:(bif c then A else B)=some r):A=some r:=by subst a;exact h
theorem hz{c:Bool}{r:R}(a:c=false)(h:(bif c then A else B)=some r):B=some r:=by subst a;exact h
theorem ar{a b:R}(h:some a=some b):a=b:=Option.some.inj h
section
variable {K:Ctx} {C:dK}
theorem wF{a:(k->Option R)->k->Option R}{n:Nat}{d:k}{r:R}(h:bo a n d=some r)(I:k->γ->S)(p:γ)(A:s.le K (I d p))
  (l: ∀(i:k->Option R) (x:k) (g:γ),a i x=some r->cH K c (I x g) (A' (λw=> ∃y o,i y=some r/\w.le K (I y o)) Q)):cH K (.loop c) s Q:=by
 refine XW (ι:=(Nat×k)×γ) (λy=>I y.1.2 y.2) (λy=>bo a y.1.1 y.1.2=some r) (λy=>y.1.1) ((n,d),p) h A ?_;rintro⟨⟨m,x⟩,g⟩ z;cases m with
 |zero=>cases z
 |succ m=>
  refine vR (l (bo a m) x g z) λe w q=>?_;cases e with
  |normal=>obtain⟨y,o,B,D⟩:=q;exact⟨((m,y),o),B,mJ m,D⟩
  |exit=>exact q
  |goto=>exact q
  |ret=>exact q
  |panic=>exact q
  |outgrown=>exact q
theorem hb{j:k->Option R}{r:R}{x y:Code}(I:k->γ->S)
  (a:cH K x s (p7 (λd=> ∃z g,j z=some r/\d.le K (I z g)) Q)) (c: ∀z g,j z=some r->cH K y (I z g) Q):cH K (.seq x y) s Q:=
 YX (ι:=k×γ) (λi=>I i.1 i.2) (λi=>j i.1=some r) (vR a (λe l q=>by
  cases e with
  |normal=>obtain⟨z,g,a,c⟩:=q;exact⟨(z,g),a,c⟩
  |exit=>exact q
  |goto=>exact q
  |ret=>exact q
  |panic=>exact q
  |outgrown=>exact q)) λi h=>c i.1 i.2 h
theorem abg{P:Program}{G:fa}{a:List (Nat×cj)}(d:dT P a)(c:Nat)(w:World)(X:Nat->Prop):dK.Fits ⟨P,G,a,c,0,gQ⟩ (Ctx.pure P G w X c):=⟨d,rfl,rfl,rfl,rfl,rfl⟩
theorem abf{P:Program}{G:fa}{a:List (Nat×cj)}(h:dT P a)(d e:Nat)(w:World)(X:Nat->Prop)(c:Map):dK.Fits ⟨P,G,a,d,e,c⟩ (Ctx.dG P G w X e c d):=⟨h,rfl,rfl,rfl,rfl,rfl⟩
theorem Mp{P:Program}(a:P.funcs[f]? =some d)(e:(d.name== "runtime.NumGoroutine")=false)(h:d.body=some c):iV P f:=⟨d,a,e,by rw[h];rfl⟩
variable {P:Program} {G:fa} {cb:List (Nat×cj)}
end
abbrev ae:Int->List T:=j1
abbrev dC:UInt8->List T:=np
abbrev bG:Bool->List T:=aah
abbrev c7:List UInt8->List T:=aaN
abbrev aZ{k:Type}(r:k->List T)(l:List k):List T:=[T.aD (l.map r)]
abbrev aC{k:Type}(r:k->List T)(l:List k):V:= .t (.aD (l.map r))
abbrev aE{k:Type}(e g a:Nat)(r:k->List T)(l:List k):E:= .arr e g a (l.map r)
abbrev ms{R:Type}(k g a:Nat)(r:R->List T)(l:List R):V:= .bc k g a 0 (l.map r).length
theorem OR(r:k->List T)(l:List k):(l.map r).length=l.length:=c6 ..
theorem yn(b:UInt8):IntKind.i64.wrap (b.toNat:Int)=(b.toNat:Int):=IntWalk.i64_in _ (by have:=UInt8.toNat_lt b;omega)
theorem ia(k:Nat){r:R->List T}(h: ∀x,(r x).length=k)(l:List R):Rows k (l.map r):=Rows.map l h
theorem ca(f:k->List T)(h:au l i=some x):(l.map f)[0+i.toNat]? =some (f x):=by rw[dp,et,(mu h).2];rfl
theorem bK(f:k->List T)(h:au l i=some x):0<=i/\i<((l.map f).length:Int):=by
 obtain⟨c,a⟩:=mu h
 have:=(bR.1 a).1;simp;omega
theorem Bk(f:k->List T)(h:au l i=some x)(e:(a.map f).length=(l.map f).length):0<=i/\i<((a.map f).length:Int):=by rw[e];exact bK f h
theorem str(f:k->List T)(h:b' l i x=some r):r.map f=(l.map f).set (0+i.toNat) (f x):=by obtain⟨_,_,rfl⟩:=sD h;rw[dp,List.map_set]
theorem nT{q:Prop}(h:p)(k:q):p/\q:=⟨h,k⟩
def jA(b:Int):Option Unit:=if b=0 then none else some ()
theorem pQ{b:Int}{x:Unit}(h:jA b=some x):b≠0:=by intro e;rw[jA,a1 e] at h;cases h
theorem gZ(f:k->R){y:R}(h:au l i=some x)(e:f x=y):au (l.map f) i=some y:=e▸N' f h
theorem oe{a:Int}(f:k->R)(h:sub l a (l.length:Int)=some r):sub (l.map f) a ((l.map f).length:Int)=some (r.map f):=by rw[c6];exact pn f h
theorem ab5{n:Int}{b:UInt8}(h:n=(b.toNat:Int)):IntKind.i64.wrap n=(b.toNat:Int):=h▸yn b
def gj(C:dK)(a:List ct)(s:S):Option (cP×List dd):=match pZ C 0 a s with
 |some (e,c,[])=>some (e,c)
 |_=>none
theorem ag4{K:Ctx}{C:dK}(m:C.Fits K)(i:List ct)(k:List Nat)(c:List (Nat×V))(d:List (Nat×Option E))(l:List (Nat×Bool))
  (h:l3 (gj C i s) ua (uc s k c d)=l3 (gj C i s) ub (ud True c d l)):s.le K (s.cl k c d l):=by
 obtain⟨e,q,a,n,o⟩:=Oo (K:=K) trivial h;unfold gj at a;split at a
 ·rename_i p;cases a;exact(qM m p n).trans o
 cases a
def iL(c:List (Nat×cj))(s:S):List ResultVar->Option (List V)
 | []=>some []
 | .tmp t::d=>match iL c s d with
  |some e=>some (s.t t::e)
  |none=>none
 | .cell a t::d=>match tr c s.H t (s.t a) [],iL c s d with
  |some (v,[],[]),some e=>some (v::e)
  |_,_=>none
def nJ:List V->V
 | [v]=>v
 |vs=> .bL vs
def k8(c:Array Value)(r:ResultVar):Sem Value:=match r with
 | .tmp t=>pure (c.getD t undef)
 | .cell a t=>do loadVar t (<-asAddr (c.getD a undef))
theorem DJ(d:Func)(a:Array Value):Go.results d a=(do let c<-d.results.mapM (k8 a);pure (if h:c.size=1 then c[0] else .tuple c)):=rfl
theorem ZW{P:Program}{i:List (Nat×cj)}(r:dT P i){K:Ctx}{a:Act}(m:Rel K D s a w){x:Nat}{t:TypeId}(h:tr i s.H t (s.t x) []=some (v,[],[])):
  ∃u,(k8 a.tmps (.cell x t)).run P w= .ok u w/\bn D w (own K D s.H) v u:=by
 have y:=LH (d:=none) (ty:=0) (pos:= "") (af:= #[]) (g:=none) (x:= .tmp x) r h trivial
 obtain⟨u,c,z⟩:=y D w (own K D s.H) a.eval (λid e A=>(m.heap id e A).2) ⟨m.cZ x,trivial⟩;refine⟨u,?_,z⟩;have bJ:=m.cZ x;have n: ∃l,a.tmps.getD x undef= .pointer (some l):=by
  generalize a.tmps.getD x undef=q at bJ;unfold tr at h;split at h
  ·cases h
  split at h
  ·rename_i o;rw[o] at bJ;cases bJ with|ref _ _ b _=>exact⟨_,rfl⟩
  ·rename_i o;rw[o] at bJ;cases bJ with|aP _ b B f _ _ _ _=>exact⟨_,rfl⟩
  ·split at h
   ·split at h<;>cases h
   ·split at h<;>cases h
   cases h
  cases h
 obtain⟨l,k⟩:=n;have F:a.eval (.tmp x)= .pointer (some l):=k;simp only[execOp,Instr.loadAt,F,Instr.sureAddr,Sem.run_bind,Sem.run_pure,Result.andThen_ok] at c;simp only[k8,k,asAddr,Sem.run_bind,Sem.run_pure,Result.andThen_ok];cases p:(loadVar t l).run P w with
 |ok I L=>rw[p] at c;simp at c;obtain⟨rfl,rfl⟩:=c;rfl
 |_=>rw[p] at c;cases c
theorem Gq{P:Program}{e:List (Nat×cj)}(n:dT P e){K:Ctx}{D:Map}{s:S}{a:Act}{w:World}(m:Rel K D s a w): ∀{k:List ResultVar} {l:List V},iL e s k=some l->
  l.length=k.length/\ ∀(i:Nat) r v,k[i]? =some r->l[i]? =some v-> ∃u,(k8 a.tmps r).run P w= .ok u w/\bn D w (own K D s.H) v u
 | [],_,h=>by cases h;exact⟨rfl,λi r v h=>by simp at h⟩
 | .tmp t::k,l,h=>by
  simp only[iL] at h;split at h
  ·rename_i o p;cases h;obtain⟨aJ,a2⟩:=Gq n m p;refine⟨by simp[aJ],λi r v c d=>?_⟩;cases i with
   |zero=>simp at c d;subst c;subst d;exact⟨_,rfl,m.cZ t⟩
   |succ i=>simp at c d;exact a2 i r v c d
  cases h
 | .cell x t::k,l,h=>by
  simp only[iL] at h;split at h
  ·rename_i y o q p;cases h;obtain⟨aJ,a2⟩:=Gq n m p;refine⟨by simp[aJ],λi r v c d=>?_⟩;cases i with
   |zero=>simp at c d;subst c;subst d;exact ZW n m q
   |succ i=>simp at c d;exact a2 i r v c d
  cases h
theorem Xr{P:Program}{a:Array Value}{r:ResultVar}(h:d.results= #[r])(c:(k8 a r).run P w= .ok u w):(Go.results d a).run P w= .ok u w:=by rw[DJ,h];simp[c]
theorem XQ{P:Program}{a:Array Value}{r c:ResultVar}{v:Value}(h:d.results= #[r,c])(e:(k8 a r).run P w= .ok u w)(i:(k8 a c).run P w= .ok v w):(Go.results d a).run P w= .ok (.tuple #[u,v]) w:=by rw[DJ,h];simp[e,i]
theorem XP{P:Program}{a:Array Value}{r c:ResultVar}{v:Value}(h:d.results= #[r,e,c])(i:(k8 a r).run P w= .ok u w)(k:(k8 a e).run P w= .ok z w)(l:(k8 a c).run P w= .ok v w):
  (Go.results d a).run P w= .ok (.tuple #[u,z,v]) w:=by rw[DJ,h];simp[i,k,l]
theorem XO{P:Program}{a:Array Value}{r c i:ResultVar}{v x:Value}(h:d.results= #[r,e,c,i])(k:(k8 a r).run P w= .ok u w)(l:(k8 a e).run P w= .ok z w)(m:(k8 a c).run P w= .ok v w)(n:(k8 a i).run P w= .ok x w):
  (Go.results d a).run P w= .ok (.tuple #[u,z,v,x]) w:=by rw[DJ,h];simp[k,l,m,n]
theorem Km{P:Program}{l:List (Nat×cj)}(U:dT P l){K:Ctx}{a:Act}(W:Rel K D s a w){e:List ResultVar}(q:d.results.toList=e){k:List V}(h:iL l s e=some k)(X:Nat.ble e.length 4=true):
  ∃u,(Go.results d a.tmps).run P w= .ok u w/\bn D w (own K D s.H) (nJ k) u:=by
 obtain⟨Y,p⟩:=Gq U W h;have q:d.results=e.toArray:=by rw[<-q]
 match e,k,Y,p,X with
 | [],[],_,_,_=>exact⟨_,results_none q _ _ _,.bL [] #[] rfl λi c u h _=>by simp at h⟩
 | [r],[v],_,p,_=>
  obtain⟨u,aJ,a2⟩:=p 0 r v rfl rfl;exact⟨u,Xr q aJ,a2⟩
 | [r,z],[v,A],_,p,_=>
  obtain⟨u,aJ,a2⟩:=p 0 r v rfl rfl;obtain⟨R,B,F⟩:=p 1 z A rfl rfl;refine⟨_,XQ q aJ B,.bL _ _ rfl λi c u m o=>?_⟩
  match i with
  |0=>simp at m o;subst m;subst o;exact a2
  |1=>simp at m o;subst m;subst o;exact F
  |n+2=>simp at m
 | [r,z,x],[v,A,y],_,p,_=>
  obtain⟨u,aJ,a2⟩:=p 0 r v rfl rfl;obtain⟨R,B,F⟩:=p 1 z A rfl rfl;obtain⟨I,L,Q⟩:=p 2 x y rfl rfl;refine⟨_,XP q aJ B L,.bL _ _ rfl λi c u m o=>?_⟩
  match i with
  |0=>simp at m o;subst m;subst o;exact a2
  |1=>simp at m o;subst m;subst o;exact F
  |2=>simp at m o;subst m;subst o;exact Q
  |n+3=>simp at m
 | [r,z,x,b],[v,A,y,f],_,p,_=>
  obtain⟨u,aJ,a2⟩:=p 0 r v rfl rfl;obtain⟨R,B,F⟩:=p 1 z A rfl rfl;obtain⟨I,L,Q⟩:=p 2 x y rfl rfl;obtain⟨t,g,j⟩:=p 3 b f rfl rfl;refine⟨_,XO q aJ B L g,.bL _ _ rfl λi c u m o=>?_⟩
  match i with
  |0=>simp at m o;subst m;subst o;exact a2
  |1=>simp at m o;subst m;subst o;exact F
  |2=>simp at m o;subst m;subst o;exact Q
  |3=>simp at m o;subst m;subst o;exact j
  |n+4=>simp at m
def OV(c:List (Nat×cj))(d:List ResultVar)(r:V):Exit->S->Prop
 | .normal,s| .ret,s=> ∃a,iL c s d=some a/\dz (nJ a) r
 |_,_=>False
def OU(d:List (Nat×cj))(e:List ResultVar)(r:V)(a:List E):Exit->S->Prop
 | .normal,s| .ret,s=> ∃c,iL d s e=some c/\dz (nJ c) r/\r.ok (eX a.length)=true/\ll s.H (eX a.length) (eQ a 0)
 |_,_=>False
section
variable {P:Program} {G:fa} {cb:List (Nat×cj)}
theorem Qa{r:V}{i:Nat}{a:List ResultVar}(A:dT P cb)(B:P.funcs[f]? =some d)(F:(d.name== "runtime.NumGoroutine")=false)(q:d.body=some c)(H:d.results.toList=a)(s:d.ntmps=i)
  (m:Nat.ble args.length i=true) (I:r.ok gl=true) (x:Nat.ble a.length 4=true)
  (h: ∀w X,dK.Fits ⟨P,G,cb,i,0,gQ⟩ (Ctx.pure P G w X i)->cH (Ctx.pure P G w X i) c (start args) (OV cb a r)):kK P G f args r:=by
 subst s;refine⟨Mp B F q,?_⟩;intro w X L Q R D;have o:L.length<=d.ntmps:=by rw[D.length];exact ea m
 refine calls_of_wp B q (h w X (abg A _ w X) gQ _ w _ (Rel.start Q R D o) ?_);intro e U W Y w' n k;have p:(∃y,iL cb U a=some y/\dz (nJ y) r)->bodyPost P d (λe w'=> ∃u,e= .returned u/\Ext (λ_=>False) w w'/\bn gQ w' X r u) .ret Y w':=by
  rintro⟨y,z,m⟩;obtain⟨u,g,bJ⟩:=Km A k H z x;have bJ:=m _ _ _ _ bJ;refine⟨k.defers,u,g,u,rfl,?_,?_⟩
  ·exact k.ext.weaken λb _ ⟨id,h,_⟩=>by simp[Ctx.pure] at h
  exact bJ.under (u:=gl) (λb q=> .inl q) (λ_ h=>by simp[gl] at h) I
 cases e with
 |normal=>exact p n
 |ret=>exact p n
 |exit id=>exact n.elim
 |goto l=>exact n.elim
 |panic c=>exact n.elim
 |outgrown=>exact n.elim
def tq(a:Map):List E->Nat->Prop
 | [],_=>True
 | .arr _ g _ _::c,k=>(∃q,a k=some (q,g))/\tq a c (k+1)
 | .a' _ _ g _ _::c,k=>(∃q,a k=some (q,g))/\tq a c (k+1)
 | .cells _::c,k=>True/\tq a c (k+1)
theorem LA{D:Map}: ∀(a:List E) (k:Nat),(∀(i:Nat) e g,a[i]? =some e->e.gen=some g-> ∃q,D (k+i)=some (q,g))->tq D a k
 | [],_,_=>trivial
 |e::a,k,h=>by
  have b7:=LA a (k+1) (λi e g c d=>by
   have:=h (i+1) e g (by simpa using c) d
   rwa [show k+(i+1)=k+1+i by omega] at this)
  cases e with
  |cells=>exact⟨trivial,b7⟩
  |arr _ g _ _=>exact⟨h 0 _ g rfl rfl,b7⟩
  |a' _ _ g _ _=>exact⟨h 0 _ g rfl rfl,b7⟩
theorem afA{o:Func}{a out:List E}{r:V}{x y:Nat}{L:List ResultVar}(kp:dT P cb)(hY:P.funcs[f]? =some o)(cG:(o.name== "runtime.NumGoroutine")=false)(a8:o.body=some c)(b7:o.results.toList=L)(Q:o.ntmps=x)(R:a.length=y)
  (z:Nat.ble args.length x=true) (A:Nat.ble y out.length=true) (U:Nat.ble L.length 4=true)
  (h: ∀w X d,dK.Fits ⟨P,G,cb,x,y,d⟩ (Ctx.dG P G w X y d x)->tq d a 0->cH (Ctx.dG P G w X y d x) c (lQ a args) (OU cb L r out)):iQ P G f a args r out:=by
 subst Q;subst R;refine⟨Mp hY cG a8,?_⟩;intro w X d us jV ha aH fM;have B:us.length<=o.ntmps:=by rw[fM.length];exact ea z
 refine calls_of_wp hY a8 (h w X d (abf kp _ _ w X d) (LA a 0 (λk e g W bO=>by
  rw[dp];exact(oJ (aH.heap k _ W) bO).2)) d _ w _ (Rel.lQ jV ha aH fM B) ?_)
 intro e Y D tp w' q m;have F:(∃j,iL cb Y L=some j/\dz (nJ j) r/\r.ok (eX out.length)=true/\ll Y.H (eX out.length) (eQ out 0))->
   bodyPost P o (λe w'=> ∃u,∃i:Unit,∃β,e= .returned u/\True/\Left d β a out w w' X r u) .ret tp w':=by
  rintro⟨j,v,M,N,hH⟩;obtain⟨u,hu,bJ⟩:=Km kp m b7 v U;have bJ:=M _ _ _ _ bJ;have hm:a.length<=out.length:=ea A;let p:S:={t:=pr,H:=eQ out 0,u:=eX out.length}
  have I:mv a.length p.u=true:=by
   have: ∀n,n<=a.length->mv n p.u=true:=by
    intro n;induction n with
    |zero=>intro _;rfl
    |succ n mi=>intro cG;simp[mv,mi O,show p.u n=true from iR.2 O]
   exact this _ (cN _)
  have bP:=m.cut (s':=p) (oL.nil _ _) hH I;have er:=D8 (K:=Ctx.dG P G w X a.length d o.ntmps) (β:=D) (s:=Y) (s':=p) hH;refine⟨m.defers,u,hu,u,(),cut D p.u,rfl,trivial,?_⟩;refine⟨m.ext.weaken λb _ ⟨id,_,h⟩=>⟨id,h⟩,bP.base,bP.iK,?_,?_,bP.inj,bP.fresh,?_,bJ.under er (λ_ h=>wT h) N⟩
  ·intro k W;apply bP.dJ;cases T:p.u k with
   |false=>rfl
   |true=>have:=iR.1 T;omega
  ·intro k b W;apply bP.eb;cases T:p.u k with
   |false=>rfl
   |true=>have:=iR.1 T;omega
  intro k e he;exact(bP.heap k e (by rw[<-yo] at he;exact he)).2
 cases e with
 |normal=>exact F q
 |ret=>exact F q
 |exit id=>exact q.elim
 |goto l=>exact q.elim
 |panic c=>exact q.elim
 |outgrown=>exact q.elim
def w3(r:V):Option (List V)->Option V
 |some a=>some (lo r (nJ a))
 |none=>none
theorem OK{a:List ResultVar}{r:V}(h:w3 r (iL cb s a)=some r): ∃c,iL cb s a=some c/\dz (nJ c) r:=by
 cases d:iL cb s a with
 |none=>rw[d] at h;cases h
 |some c=>rw[d] at h;simp only[w3,Option.some.injEq] at h;exact⟨c,rfl,abA h⟩
theorem abz{c:List ResultVar}{r:V}{a:List E}(h:(w3 r (iL cb s c),ts s a 0,r.ok (eX a.length)&&tQ (eX a.length) a)=(some r,tl a,true)):
  ∃d,iL cb s c=some d/\dz (nJ d) r/\r.ok (eX a.length)=true/\ll s.H (eX a.length) (eQ a 0):=by
 simp only[Prod.mk.injEq,Bool.and_eq_true] at h;obtain⟨l,m,n,o⟩:=h;obtain⟨d,aJ,a2⟩:=OK l;refine⟨d,aJ,a2,n,λk e i=>?_⟩;rw[yo] at i
 have:=LS m k e i;rw[dp] at this;exact⟨this,iR.2 (bR.1 i).1,MI o k e i⟩
end
theorem rU(f:k->List T)(ph:k)(h:app l [y]=some r):app (List.map f l) [f ph]=some (List.map f (l++[ph])):=by obtain⟨a,_⟩:=vO h;unfold app;rw[a1 (by simpa using a),fQ];rfl
theorem l7(f:k->List T)(l:List k)(ph:k):(List.map f (l++[ph]))[(List.map f l).length+0]? =some (f ph):=by rw[fQ,oC,gU (cN _),j'];rfl
theorem tV(f:k->List T)(l:List k){r:List T}(e:r=f y):(List.map f (l++[ph])).set ((List.map f l).length+0) r=List.map f (l++[y]):=by subst e;rw[fQ,fQ,oC,mF _ _ (cN _),j'];rfl
theorem rB(f:k->List T){x:List k}{r:List T}(h:app l [y]=some x)(e:r=f y):(List.map f (l++[ph])).set ((List.map f l).length+0) r=List.map f x:=by obtain⟨_,rfl⟩:=vO h;exact tV f l e
theorem rT(f:k->List T){x:List k}(a:k)(h:app l [y]=some x):(List.map f (l++[a])).length=(List.map f x).length:=by obtain⟨_,rfl⟩:=vO h;simp
theorem ae0(f:k->List T)(h:l.isEmpty=false):List.map f l≠[]:=by
 cases l with
 |nil=>cases h
 |cons=>simp
theorem fF(f:k->List T)(h:b' l i y=some r)(e:q=f y):(List.map f l).set (0+i.toNat) q=List.map f r:=by subst e;exact(str f h).symm
theorem hF(f:k->List T)(h:au l i=some x)(e:q=f x):(List.map f l).set (0+i.toNat) q=List.map f l:=by subst e;have a:=ca f h;obtain⟨d,c⟩:=bR.1 a;rw[<-c,List.set_getElem_self]
theorem cE(f:k->List T)(h:b' l i x=some r):(l.map f).length=(r.map f).length:=by obtain⟨_,_,rfl⟩:=sD h;simp
theorem jz{r:R}(h:(none:Option R)=some r):p:=by cases h
def jX{k:Type}(a b:List k):Option Unit:=if b.length=a.length then some () else none
theorem iY{b:List k}{u:Unit}(f:k->List T)(h:jX a b=some u):(a.map f).length=(b.map f).length:=by
 unfold jX at h;split at h
 ·simp;omega
 cases h
def Dd{k:Type}(f:k->List T):Option k->V
 |none=> .t .hf
 |some x=> .aP (f x)
theorem abH(f:k->List T)(o:Option k)(b:Bool):(V.bL [Dd f o,aL b]).ok gl=true:=by cases o<;>rfl
theorem yF{P:Program}{G:fa}[Inhabited R]{r:R->List T}(h:o.isSome=true)(k:kK P G f args (V.bL [Dd r o,v])):kK P G f args (V.bL [V.aP (r (o.getD default)),v]):=by
 cases o with
 |none=>cases h
 |some x=>exact k
theorem yE{P:Program}{G:fa}{r:R->List T}(h:o.isSome=false)(k:kK P G f args (V.bL [Dd r o,v])):kK P G f args (V.bL [V.t .hf,v]):=by
 cases o with
 |none=>exact k
 |some x=>cases h
theorem aba(f:k->List T)(l:List k):(l.map f).length=((l.take l.length).map f).length:=by rw[c4]
theorem Me(f:k->List T)(l:List k)(a:0<=i)(c:i<(l.length:Int)):
  0<=i/\i<=((l.map f).length:Int)/\((l.map f).length:Int)<=((l.map f).length:Int)/\(i=0\/i<((l.map f).length:Int))/\i.toNat=0+i.toNat/\l.length-i.toNat=((l.map f).length:Int).toNat-i.toNat:=by rw[c6];omega
theorem OL(f:R->List T)(l:List R)(k:Nat):(l.take k).map f=(l.map f).take k:=s8
section
set_option linter.unusedVariables false
def eJ{k:Type}(l:List k)(i j:Int):Nat:=i.toNat+(l.length-j.toNat)
def mX{k:Type}(l:List k)(i j:Int):List k:=l.take i.toNat++l.drop j.toNat++l.drop (eJ l i j)
def jN{k:Type}(l:List k)(i j:Int)(z:k):List k:=l.take i.toNat++l.drop j.toNat++List.replicate (l.length-eJ l i j) z
theorem MA(l:List k)(a:0<=i)(c:i<=j)(d:j<=(l.length:Int)):(mX l i j).length=l.length:=by unfold mX eJ;simp only[List.length_append,List.length_take,List.length_drop];omega
theorem ab8(f:k->List T)(l:List k)(a:0<=i)(c:i<=j)(d:j<=(l.length:Int)):0<=i/\i<=j/\j<=(l.length:Int)/\(l.length:Int)<=((l.map f).length:Int):=by rw[c6];omega
theorem O4(f:k->List T)(l:List k)(a:0<=i)(c:i<=j)(d:j<=(l.length:Int)):
  (0:Int)<=0/\(0:Int)<=i/\i<=((l.map f).length:Int)/\((0:Int)=0\/(0:Int)<((l.map f).length:Int))/\0=0+(0:Int).toNat/\i.toNat=i.toNat-(0:Int).toNat:=
 ⟨gu _,a,by rw[c6];omega,.inl rfl,rfl,rfl⟩
theorem ab7(f:k->List T)(l:List k)(a:0<=i)(c:i<=j)(d:j<=(l.length:Int))(e: ¬j<(l.length:Int)):0<=j/\j=((l.map f).length:Int)/\((l.map f).length:Int)<=((l.map f).length:Int):=by rw[c6];omega
theorem abE(f:k->List T)(l:List k)(a:0<=i)(c:i<=j)(d:j<=(l.length:Int)):i.toNat+(l.length-j.toNat)<=(l.map f).length:=by rw[c6];omega
theorem abD(f:k->List T)(l:List k)(a:0<=i)(c:i<=j)(d:j<=(l.length:Int)):j.toNat+(l.length-j.toNat)<=(l.map f).length:=by rw[c6];omega
theorem abC(f:k->List T)(l:List k)(i j:Int):(mX l i j).map f=(l.map f).take i.toNat++((l.map f).drop j.toNat).take (l.length-j.toNat)++(l.map f).drop (i.toNat+(l.length-j.toNat)):=by unfold mX eJ;rw[fQ,fQ,s8,List.map_drop,List.map_drop,jd (l:=(l.map f).drop j.toNat) (by rw[e6,c6];omega)]
theorem O5(f:R->List T)(l r:List R){k:Nat}(d:0<k)(e:0<=i)(h:i<j)(n:j<=(l.length:Int))(a:r.length=l.length){m:Nat}(c:m=eJ l i j):
  0<k/\(0:Int)<=(m:Int)/\(m:Int)<(l.length:Int)/\((0:Nat):Int)+(l.length:Int)<=((r.map f).length:Int)/\m=0+(m:Int).toNat/\l.length-m=(l.length:Int).toNat-(m:Int).toNat:=by rw[c6,a,c];unfold eJ;omega
theorem ab6(f:k->List T)(l:List k)(z:k)(c:0<=i)(h:i<j)(d:j<=(l.length:Int)):
  eJ l i j+(l.length-eJ l i j)<=((mX l i j).map f).length/\(jN l i j z).map f=((mX l i j).map f).take (eJ l i j)++List.replicate (l.length-eJ l i j) (f z)++((mX l i j).map f).drop (eJ l i j+(l.length-eJ l i j)):=by
 have cD:=MA l c (O:i<=j) d;have a:(l.take i.toNat++l.drop j.toNat).length=eJ l i j:=by
  unfold eJ;simp only[List.length_append,List.length_take,List.length_drop];omega
 have e:eJ l i j<=l.length:=by unfold eJ;omega
 refine⟨by rw[c6,cD];omega,?_⟩;rw[kF (as:=(mX l i j).map f) (by rw[c6,cD];omega),kG,<-s8];unfold jN mX;rw[fQ,List.map_replicate,pB (by rw[a];exact cN _),jd (l:=l.take i.toNat++l.drop j.toNat) (by rw[a];exact cN _)]
theorem abB(f:k->List T)(l:List k)(z:k)(c:0<=i)(d:i<j)(e:j<=(l.length:Int))(h: ¬j<(l.length:Int)):
  i.toNat+(l.length-i.toNat)<=(l.map f).length/\(jN l i j z).map f=(l.map f).take i.toNat++List.replicate (l.length-i.toNat) (f z)++(l.map f).drop (i.toNat+(l.length-i.toNat)):=by
 refine⟨by rw[c6];omega,?_⟩;have a:eJ l i j=i.toNat:=by unfold eJ;omega
 unfold jN;rw[a,kF (as:=l) (i:=j.toNat) O,kG,kF (as:=l.map f) (by rw[c6];omega),kG,fQ,s8,List.map_replicate]
theorem O6(f:k->List T)(l:List k)(z:k)(a:0<=i)(c:i<j)(d:j<=(l.length:Int)):eJ l i j=(((jN l i j z).take (eJ l i j)).map f).length:=by unfold jN eJ;simp only[List.length_map,List.length_take,List.length_append,List.length_replicate,List.length_drop];omega
theorem O7(l:List k)(a:j<=(l.length:Int))(c: ¬j<(l.length:Int)):i.toNat=eJ l i j:=by unfold eJ;omega
end
theorem vA(h:b' l i x=some r)(y:k):b' l i y=some (l.set i.toNat y):=by obtain⟨a,c,_⟩:=sD h;unfold b';rw[a1 ⟨a,c⟩]
theorem tA(h:b' l i x=some r)(y:k):au (l.set i.toNat y) i=some y:=by obtain⟨a,c,_⟩:=sD h;unfold au;rw[a1 a,hq O]
theorem vz(h:b' l i x=some r)(y:k):b' (l.set i.toNat y) i x=some r:=by obtain⟨a,c,rfl⟩:=sD h;unfold b';rw[a1 ⟨a,by rw[eS];exact c⟩,List.set_set]
theorem Bj{u:Unit}(f:k->List T)(c:jX a l=some u)(h:au l i=some x):0<=i/\i<((a.map f).length:Int):=by have:=bK f h;rw[iY f c];exact this
theorem OQ{u:Unit}(f:k->List T)(c:jX a l=some u):(a.map f).length=l.length:=(iY f c).trans (OR f l)
theorem A1(h:b' l i x=some r):au r i=some x:=by obtain⟨a,c,rfl⟩:=sD h;unfold au;rw[a1 a,hq O]
end Go.Lift
