/- Tools. -/
import Derived.Test.YtlbojjldejlgaaaGreatVLiftV
namespace Go.Lift
open Go
section
def cg.cat(a b:cg):cg:=⟨a.dW++b.dW,a.hs++b.hs,a.us++b.us⟩
def cg.nil:cg:=⟨[],[],[]⟩
theorem Et{k:Type}: ∀(a b:List (Nat×k)) (f:Nat->k),cO f (a++b)=cO (cO f a) b
 | [],_,_=>rfl
 |(d,v)::a,b,f=>by simp only[List.cons_append,cO];exact Et a b _
theorem kC(a b:cg)(s:S):(a.cat b).app s=b.app (a.app s):=by unfold cg.app cg.cat;simp only[Et]
theorem jR{k:Type}: ∀(l:List (Nat×k)) (f:Nat->k) (r:Nat),((∀v,(r,v)∉l)/\cO f l r=f r)\/ ∃v,(r,v)∈l/\cO f l r=v
 | [],_,_=> .inl ⟨λ_ h=>(List.not_mem_nil h).elim,rfl⟩
 |(d,v)::l,f,r=>by
  rcases jR l (aE f d v) r with ⟨b,a⟩|⟨c,b,a⟩
  ·by_cases e:r=d
   ·subst e;exact .inr ⟨v,ep,by rw[cO,a,bu]⟩
   refine .inl ⟨λc h=>?_,by rw[cO,a,bx _ _ _ _ e]⟩;rcases dz.1 h with h|h
   ·cases h;exact e rfl
   exact b c h
  exact .inr ⟨c,dU _ b,by rw[cO,a]⟩
mutual
def i':V->V->V
 | .t (.aa _),v=>kO v
 | .agg cs,.agg a=> .agg (mH cs a)
 | .bG cs,.bG a=> .bG (mH cs a)
 | .ct,_=> .ct
 |_,v=>v
def mH:List V->List V->List V
 |c::cs,v::a=>i' c v::mH cs a
 |_,a=>a
end
mutual
theorem y7: ∀c v:V,cX v (i' c v)
 | .t (.aa _),v=>by simp only[i'];exact H1 v
 | .agg cs,.agg a=>by simp only[i'];exact cX.agg (uA cs a)
 | .bG cs,.bG a=>by simp only[i'];exact cX.bG (uA cs a)
 | .ct,v=>by simp only[i'];exact cX.ct v
 | .t (.bool _),v| .t (.int _ _),v| .t (.str _),v| .t .en,v| .t .gW,v| .t .eO,v| .t .jw,v| .t .err,v=>by simp only[i'];exact cX.refl v
 | .ref _ _,v| .aP _,v| .aN _ _ _ _ _,v| .cd _ _ _ _ _,v| .fn _ _,v=>by simp only[i'];exact cX.refl v
 | .agg _,.t _| .agg _,.bG _| .agg _,.ref _ _| .agg _,.aP _| .agg _,.aN _ _ _ _ _| .agg _,.cd _ _ _ _ _| .agg _,.fn _ _| .agg _,.ct=>by simp only[i'];exact cX.refl _
 | .bG _,.t _| .bG _,.agg _| .bG _,.ref _ _| .bG _,.aP _| .bG _,.aN _ _ _ _ _| .bG _,.cd _ _ _ _ _| .bG _,.fn _ _| .bG _,.ct=>by simp only[i'];exact cX.refl _
theorem uA: ∀cs a:List V,ez a (mH cs a)
 |c::cs,v::a=>by simp only[mH];exact⟨y7 c v,uA cs a⟩
 | [],a=>by simp only[mH];exact ez.refl a
 |_::_,[]=>by simp only[mH];exact trivial
end
def vj:Option E->Option E->Option E
 |some (.cells cs),some (.cells a)=>some (.cells (mH cs a))
 |some _,e=>e
 |none,_=>none
variable {e:TypeId}{x:E}{β W:Map}{s a:S}{w:World}{r l:List Nat}{b:List (Nat×Option E)}{d:List (Nat×Bool)}{k i n gen L m g:Nat}{q:Option Nat}{p:V->V->Prop}{X j:Nat->Prop}{Q:Exit->S->Prop}{u:Value}{v:V}{o:Oper}
theorem Fu{c e:Option E}(h:vj c e=some x): ∃a,e=some a/\hF a x:=by
 unfold vj at h;split at h
 ·cases h;exact⟨_,rfl,uA _ _⟩
 ·exact⟨x,h,hF.refl x⟩
 cases h
def pQ(s:S):List (Nat×V)->List V
 | []=>[]
 |(i,v)::l=>i' v (s.t i)::pQ s l
def pL(s:S):List (Nat×Option E)->List (Option E)
 | []=>[]
 |(k,e)::l=>vj e (s.H k)::pL s l
def iz{k:Type}:List (Nat×k)->List k
 | []=>[]
 |(_,v)::l=>v::iz l
theorem yK{s:S}: ∀{l:List (Nat×V)},pQ s l=iz l-> ∀i v,(i,v)∈l->cX (s.t i) v
 |(a,b)::l,h,i,v,hm=>by
  simp only[pQ,iz,List.cons.injEq] at h;rcases dz.1 hm with hm|hm
  ·cases hm;exact h.1▸y7 _ _
  exact yK h.2 i v hm
theorem yZ{s:S}: ∀{l:List (Nat×Option E)},pL s l=iz l-> ∀k e,(k,some e)∈l-> ∃a,s.H k=some a/\hF a e
 |(j5,a)::l,h,k,e,hm=>by
  simp only[pL,iz,List.cons.injEq] at h;rcases dz.1 hm with hm|hm
  ·cases hm;exact Fu h.1
  exact yZ h.2 k e hm
def o2{k:Type}(a:List Nat):List (Nat×k)->Bool
 | []=>true
 |(i,_)::l=>gn i a&&o2 a l
theorem yq{k:Type}{r:List Nat}: ∀{l:List (Nat×k)},o2 r l=true-> ∀i v,(i,v)∈l->i∈r
 |(a,b)::l,h,i,v,hm=>by
  simp only[o2,Bool.and_eq_true] at h;rcases dz.1 hm with hm|hm
  ·cases hm;exact x8 h.1
  exact yq h.2 i v hm
def r0{k:Type}:List (Nat×k)->List Nat
 | []=>[]
 |(i,_)::l=>i::r0 l
theorem ET{k:Type}{i:Nat}: ∀{l:List (Nat×k)},i∈r0 l-> ∃v,(i,v)∈l
 |(c,a)::l,h=>by
  simp only[r0,List.mem_cons] at h;rcases h with rfl|h
  ·exact⟨a,ep⟩
  obtain⟨v,b⟩:=ET h;exact⟨v,dU _ b⟩
def u4(a:List Nat)(t:Nat->V):Nat->V:=λi=>bif gn i a then .ct else t i
def S.cl(s:S)(a:List Nat)(b:List (Nat×V))(c:List (Nat×Option E))(d:List (Nat×Bool)):S:={t:=cO (u4 a s.t) b,H:=cO s.H c,u:=cO s.u d}
theorem Rel.Cn{K:Ctx}{c:S}{a:Act}(l:Rel K β s a w)(n:c.u=s.u)(v: ∀k e,c.H k=some e-> ∃m,s.H k=some m/\hF m e)(x: ∀i,cX (s.t i) (c.t i)):Rel K β c a w:=by
 have d: ∀b,own K β c.H b->own K β s.H b:=by
  rintro b (h|⟨id,p,q⟩)
  ·exact .inl h
  cases o:c.H id with
  |none=>exact a7 o p
  |some e=>
   obtain⟨m,r,_⟩:=v id e o;exact .inr ⟨id,by rw[r];simp,q⟩
 refine {l with low:= ?_,cW:= ?_,du:= ?_,heap:= ?_,cu:= ?_}
 ·intro id h;rw[n];exact l.low id h
 ·intro id h;rw[n] at h;exact l.cW id h
 ·intro id b h;rw[n] at h;exact l.du id b h
 ·intro id e o;obtain⟨m,p,q⟩:=v id e o;obtain⟨r,y⟩:=l.heap id m p;refine⟨by rw[n];exact r,?_⟩;exact(q.q5 y).mono (Ext.refl _ _) (λb _=>d b) (cN.refl _) (λ_ h=>h) (Shaped.refl _ _) λ_ _=>rfl
 intro i;exact(x i _ _ _ _ (l.cu i)).mono (Ext.refl _ _) (λb _=>d b) (cN.refl _) (Shaped.refl _ _)
theorem Tx{K:Ctx}{e:cg}{c:List (Nat×V)}(y:e.us=d)(z:o2 r e.dW=true)(A:o2 (r0 b) e.hs=true)
  (B:pQ (e.app s) c=iz c) (D:pL (e.app s) b=iz b):(e.app s).le K (s.cl r c b d):=by
 intro F a w G;refine⟨F,G.Cn ?_ ?_ ?_⟩
 ·show cO s.u d=cO s.u e.us;rw[y]
 ·intro k x n;have n:cO s.H b k=some x:=n;rcases jR b s.H k with ⟨o,m⟩|⟨v,o,m⟩
  ·rw[m] at n;refine⟨x,?_,hF.refl x⟩;show cO s.H e.hs k=some x;rw[jV _ _ _ λv p=>?_]
   ·exact n
   obtain⟨R,L⟩:=ET (yq A k v p)
   grind
  rw[m] at n;subst n;exact yZ D k x o
 intro i;show cX _ (cO (u4 r s.t) c i);rcases jR c (u4 r s.t) i with ⟨o,m⟩|⟨v,o,m⟩
 ·rw[m];unfold u4;cases q:gn i r with
  |true=>exact cX.ct _
  |false=>
   show cX (cO s.t e.dW i) (s.t i);rw[jV _ _ _ (λv p=>by
    have hm:=yq z i v p
    have: ∀{l:List Nat},i∈l->gn i l=true:=by
     intro l;induction l with
     |nil=>intro h;cases h
     |cons x l Q=>
      intro h;simp only[gn];rcases dz.1 h with rfl|h
      ·simp
      cases Nat.beq x i with
      |true=>rfl
      |false=>exact Q h
    rw[this hm] at q;cases q)]
   exact cX.refl _
 rw[m];exact yK B i v o
theorem Es{k:Type}(f:Nat->k)(i:Nat):aE f i (f i)=f:=by
 funext j;by_cases a:j=i
 ·subst a;rw[bu]
 rw[bx _ _ _ _ a]
def Map.move(a:Map)(k c gen:Nat)(q:Option Nat):Map:=
 ⟨λi=>bif Nat.beq i c then some (q,1) else bif Nat.beq i k then some (none,gen+1) else a i,λi b=>(i=c/\a.n k b)\/(i≠c/\i≠k/\a.n i b)⟩
theorem zH(h:i≠k):Nat.beq i k=false:=by
 cases a:Nat.beq i k with
 |false=>rfl
 |true=>exact a7 (ca a) h
theorem yT(b:Map)(k a gen:Nat)(q:Option Nat):b.move k a gen q a=some (q,1):=by simp[Map.move]
theorem yS(b:Map)(k a gen:Nat)(q:Option Nat)(h:k≠a):b.move k a gen q k=some (none,gen+1):=by simp[Map.move,zH h]
theorem Cx(a:Map)(k b gen:Nat)(q:Option Nat)(id:Nat)(h:id≠k)(c:id≠b):a.move k b gen q id=a id:=by simp[Map.move,zH h,zH c]
theorem FV(c:Map)(k d gen:Nat)(q:Option Nat)(a b:Nat)(h:a≠k)(e:a≠d):(c.move k d gen q).n a b↔c.n a b:=by simp[Map.move,h,e]
theorem Ff(d:k≠n)(e:W k=some (q,gen)){b:Nat}(h:At (W.move k n gen q) i b):(i=n/\At W k b)\/(i≠k/\i≠n/\At W i b):=by
 rcases h with ⟨g,h⟩|⟨rfl,h⟩|⟨a,c,h⟩
 ·by_cases a:i=n
  ·subst a;rw[yT] at h;cases h;exact .inl ⟨rfl,.inl ⟨gen,e⟩⟩
  by_cases c:i=k
  ·subst c;rw[yS _ _ _ _ _ d] at h;cases h
  rw[Cx _ _ _ _ _ _ c a] at h;exact .inr ⟨c,a,.inl ⟨g,h⟩⟩
 ·exact .inl ⟨rfl,.inr h⟩
 exact .inr ⟨c,a,.inr h⟩
theorem Og{K:Ctx}(i k bz gen d B D:Nat){p:List (List T)}(N:Nat.ble K.cE k=true)(R:k≠bz)(aD:s.t i= .aN k gen d B D)(W:s.H k=some (.arr e gen d p))(P:s.u bz=false):
  s.le K {t:=aE s.t i (.aN bz 1 d B D),H:=aE (aE s.H k none) bz (some (.arr e 1 d p)),u:=aE s.u bz true}:=by
 intro L a w h;have j2:=eb N;obtain⟨q,E⟩:=hq (h.heap k _ W).2;have hl:=(h.heap k _ W).2.1;have U:=(h.heap k _ W).1;have cA:=h.cW bz P;have U6:K.cE<=bz:=by
  apply Nat.le_of_not_lt;intro V;rw[h.low bz V] at P;cases P
 let m:=L.move k bz gen q;have I:m bz=some (q,1):=yT _ _ _ _ _;have b2:m k=some (none,gen+1):=yS _ _ _ _ _ R;have Y: ∀id,id≠k->id≠bz->m id=L id:=λid l A=>Cx _ _ _ _ _ _ l A;have r: ∀id b,At m id b->(id=bz/\At L k b)\/(id≠k/\id≠bz/\At L id b):=by
  intro id b F;exact Ff R E F
 have X:cN L m:=by
  intro id q2 g M
  grind
 have z: ∀b,own K m (aE (aE s.H k none) bz (some (.arr e 1 d p))) b->own K L s.H b:=by
  rintro b (M|⟨id,l,A⟩)
  ·exact .inl M
  rcases r id b A with ⟨rfl,y⟩|⟨y,f,Q⟩
  ·exact .inr ⟨k,by rw[W];simp,y⟩
  rw[bx _ _ _ _ f,bx _ _ _ _ y] at l;exact .inr ⟨id,l,Q⟩
 refine⟨m,{h with base:= ?_,low:= ?_,cW:= ?_,du:= ?_,inj:= ?_,fresh:= ?_,heap:= ?_,cu:= ?_}⟩
 ·exact h.base.keep λid hid=>Y id O O
 ·intro id hid;show aE s.u bz true id=true;rw[bx _ _ _ _ O];exact h.low id hid
 ·intro id hid;have c:aE s.u bz true id=false:=hid;by_cases l:id=bz
  ·subst l;rw[bu] at c;cases c
  rw[bx _ _ _ _ l] at c;rw[Y id (by intro e;subst e;rw[U] at c;cases c) l];exact h.cW id c
 ·intro id b hid F;have c:aE s.u bz true id=false:=hid;rcases F with ⟨l,_⟩|⟨l,_,F⟩
  ·subst l;rw[bu] at c;cases c
  rw[bx _ _ _ _ l] at c;exact h.du id b c F
 ·intro id hT b l A;rcases r id b l with ⟨rfl,y⟩|⟨y,f,Q⟩<;>rcases r hT b A with ⟨e2,h6⟩|⟨h6,il,hS⟩
  ·exact e2.symm
  ·exact a7 (h.inj _ _ b hS y) h6
  ·subst e2;exact a7 (h.inj _ _ b Q h6) y
  exact h.inj _ _ b Q hS
 ·intro id b F;rcases r id b F with ⟨rfl,y⟩|⟨y,f,Q⟩
  ·refine⟨?_,(h.fresh _ _ y).2⟩;exact(h.fresh _ _ y).1
  exact h.fresh id b Q
 ·intro id e' o;have o:aE (aE s.H k none) bz (some (.arr e 1 d p)) id=some e':=o;show aE s.u bz true id=true/\b4 m w (own K m (aE (aE s.H k none) bz (some (.arr e 1 d p)))) id e';by_cases l:id=bz
  ·subst l;rw[bu] at o;cases o;refine⟨bu _ _ _,cL _,?_⟩;rcases(h.heap k _ W).2.2 with ⟨ay,a2⟩|⟨b,us,ay,a2,a3,a4,a5⟩
   ·rw[E] at ay;cases ay;exact .inl ⟨I,a2⟩
   rw[E] at ay;cases ay;exact .inr ⟨b,us,I,a2,a3,a4,λi j row x u c1 c2 c3=>(a5 i j row x u c1 c2 c3).mono (Ext.refl _ _) λb _=>z b⟩
  rw[bx _ _ _ _ l] at o⊢;by_cases A:id=k
  ·subst A;rw[bu] at o;cases o
  rw[bx _ _ _ _ A] at o;obtain⟨y,f⟩:=h.heap id e' o;exact⟨y,f.mono (Ext.refl _ _) (λb _=>z b) X (λx M=>by rw[Y id A l];exact M) (Shaped.refl _ _) (λ_ _=>rfl) λb=>FV _ _ _ _ _ _ _ A l⟩
 intro j;show aS m w _ (aE s.t i (.aN bz 1 d B D) j) _;by_cases hj:j=i
 ·subst hj;rw[bu];have l:=h.cu j;rw[aD] at l;generalize a.tmps.getD j undef=v at l;rcases ei l E with ⟨cap,b,n,gr,rfl,G,hw,hs,lZ,ch,hm⟩|⟨G,rfl,rfl,rfl⟩
  ·subst G;exact .aN bz 1 d B D cap b n gr (cL _) I hw hs lZ ch hm
  subst G;exact .fB bz 1 d (cL _) I
 rw[bx _ _ _ _ hj];exact(h.cu j).mono (Ext.refl _ _) (λb _=>z b) X (Shaped.refl _ _)
theorem b4.set{b:Nat}{a:List V}{j:Nat}{c x:V}(h:b4 β w X b (.cells a))(n:a[j]? =some c)(o: ∀u,aS β w X c u->aS β w X x u):b4 β w X b (.cells (a.set j x)):=by
 obtain⟨d,e,ty,k,l,m,p⟩:=h;refine⟨d,e,ty,k,l,by simpa using m,λi v u q r=>?_⟩
 grind
theorem L9{K:Ctx}(b k i j gen p:Nat){n:List (List T)}{L:List df}{Q:Nat}{l:List (List T)}{R:List (Nat×Nat×V)}(W:Nat.ble K.cE k=true)(X:b≠k)
  (aQ:s.H b=some (.av L m Q l ((i,j,.aN k gen p 0 n.length)::R))) (hk:s.H k=some (.arr e gen p n)):
  s.le K {t:=s.t,H:=aE (aE s.H k none) b (some (.av L m Q l ((i,j,.t (.aa n))::R))),u:=s.u}:=by
 intro y a w h;have j2:=eb W;generalize gT:(some (.av L m Q l ((i,j,.t (.aa n))::R)):Option E)=N;have XR:N≠none:=by subst gT;simp
 have d: ∀o,own K y (aE (aE s.H k none) b N) o->own K y s.H o:=by
  rintro o (f|⟨id,q,F⟩)
  ·exact .inl f
  by_cases z:id=b
  ·subst z;exact .inr ⟨id,by rw[aQ];simp,F⟩
  rw[bx _ _ _ _ z] at q;by_cases r:id=k
  ·subst r;rw[bu] at q;exact a7 rfl q
  rw[bx _ _ _ _ r] at q;exact .inr ⟨id,q,F⟩
 have A: ∀o,At y k o-> ¬own K y (aE (aE s.H k none) b N) o:=by
  rintro o D (f|⟨id,q,F⟩)
  ·obtain⟨kp,mq⟩:=h.gy o f;rcases(h.fresh k o D).1 with g|j0
   ·exact mq g
   omega
  have:=h.inj _ _ _ F D;subst this;rw[bx _ _ _ _ (Ne.symm X),bu] at q;exact q rfl
 have I:=(h.heap k _ hk).2;refine⟨y,{h with heap:= ?_,cu:= ?_}⟩
 ·intro id e' c;have c:aE (aE s.H k none) b N id=some e':=c;by_cases z:id=b
  ·subst z;rw[bu] at c;subst c;cases gT;obtain⟨r,G⟩:=h.heap id _ aQ;refine⟨r,G.1,?_⟩;rcases G.2 with ⟨ay,a2,a3⟩|⟨o,us,B,ay,a2,a3,a4,a5,hf,fC,eQ⟩
   ·exact .inl ⟨ay,a2,a3⟩
   refine .inr ⟨o,us,B,ay,a2,a3,a4,λgF cr M x u cF b2 eR=>?_,hf,fC,eQ⟩;have P:=a5 gF cr M x u cF b2 eR;refine⟨λv bF=>?_,λU=>?_⟩
   ·rcases dz.1 bF with e|bF
    ·simp only[Prod.mk.injEq] at e;obtain⟨rfl,rfl,rfl⟩:=e;obtain⟨Y,d2⟩:=P.1 _ ep;exact⟨.t _ _ (I.read Y d A),d2⟩
    obtain⟨Y,d2⟩:=P.1 v (dU _ bF);exact⟨Y.mono (Ext.refl _ _) (λb _=>d b) (cN.refl _) (Shaped.refl _ _),d2⟩
   have hne: ¬(gF=i/\cr=j):=by rintro⟨rfl,rfl⟩;exact U _ ep
   refine(P.2 λv bF=>?_).mono (Ext.refl _ _) (λb _=>d b) (λ_ _=>rfl)
   grind
  rw[bx _ _ _ _ z] at c;by_cases r:id=k
  ·subst r;rw[bu] at c;cases c
  rw[bx _ _ _ _ r] at c;obtain⟨G,h6⟩:=h.heap id e' c;exact⟨G,h6.mono (Ext.refl _ _) (λb _=>d b) (cN.refl _) (λ_ h=>h) (Shaped.refl _ _) λ_ _=>rfl⟩
 intro i;exact(h.cu i).mono (Ext.refl _ _) (λb _=>d b) (cN.refl _) (Shaped.refl _ _)
theorem Ma{K:Ctx}(b j k gen n:Nat){c:List (List T)}{r:List V}(F:Nat.ble K.cE k=true)(G:s.H b=some (.cells r))(f:r[j]? =some (.aN k gen n 0 c.length))(L:s.H k=some (.arr e gen n c)):
  s.le K {t:=s.t,H:=aE (aE s.H k none) b (some (.cells (r.set j (.t (.aa c))))),u:=s.u}:=by
 intro x a w h;have M:=eb F;have Q:b≠k:=by intro e;subst e;rw[G] at L;cases L
 have l: ∀m,own K x (aE (aE s.H k none) b (some (.cells (r.set j (.t (.aa c)))))) m->own K x s.H m:=by
  rintro m (R|⟨id,o,B⟩)
  ·exact .inl R
  by_cases y:id=b
  ·subst y;exact .inr ⟨id,by rw[G];simp,B⟩
  rw[bx _ _ _ _ y] at o;by_cases p:id=k
  ·subst p;rw[bu] at o;exact a7 rfl o
  rw[bx _ _ _ _ p] at o;exact .inr ⟨id,o,B⟩
 have z: ∀m,At x k m-> ¬own K x (aE (aE s.H k none) b (some (.cells (r.set j (.t (.aa c)))))) m:=by
  rintro m A (R|⟨id,o,B⟩)
  ·obtain⟨kp,N⟩:=h.gy m R;rcases(h.fresh k m A).1 with q|P
   ·exact N q
   omega
  have:=h.inj _ _ _ B A;subst this;rw[bx _ _ _ _ (Ne.symm Q),bu] at o;exact o rfl
 have W:=(h.heap k _ L).2;refine⟨x,{h with heap:= ?_,cu:= ?_}⟩
 ·intro id e' d;have d:aE (aE s.H k none) b (some (.cells (r.set j (.t (.aa c))))) id=some e':=d;by_cases y:id=b
  ·subst y;rw[bu] at d;cases d;obtain⟨p,X⟩:=h.heap id _ G;refine⟨p,?_⟩;obtain⟨m,U,ty,Y,g2,g3,g⟩:=X;refine⟨m,U,ty,Y,g2,by simpa using g3,λi v u D E=>?_⟩;by_cases I:i=j
   ·subst I;have q:=(bt.1 f).1;rw[hY q] at D;cases D;exact .t _ _ (W.read (g i _ u f E) l z)
   rw[km (Ne.symm I)] at D;exact(g i v u D E).mono (Ext.refl _ _) (λb _=>l b) (cN.refl _) (Shaped.refl _ _)
  rw[bx _ _ _ _ y] at d;by_cases p:id=k
  ·subst p;rw[bu] at d;cases d
  rw[bx _ _ _ _ p] at d;obtain⟨X,h6⟩:=h.heap id e' d;exact⟨X,h6.mono (Ext.refl _ _) (λb _=>l b) (cN.refl _) (λ_ h=>h) (Shaped.refl _ _) λ_ _=>rfl⟩
 intro i;exact(h.cu i).mono (Ext.refl _ _) (λb _=>l b) (cN.refl _) (Shaped.refl _ _)
theorem PD{K:Ctx}{c:Nat}(b j k:Nat)(e:TypeId){A:List V}(F:s.u k=false)(X:s.H b=some (.cells A))(M:A[j]? =some (.t .en)):
  s.le K {t:=s.t,H:=aE (aE s.H k (some (.arr e 1 c []))) b (some (.cells (A.set j (.aN k 1 c 0 0)))),u:=aE s.u k true}:=by
 intro p a w h;have cA:=h.cW k F;have f:b≠k:=by intro e;subst e;have:=(h.heap b _ X).1;rw[this] at F;cases F
 have q: ∀id x,p id=some x->p.put k (some (none,1)) id=some x:=λid x l=>by
  rw[dK _ _ _ _ (by intro e;subst e;rw[cA] at l;cases l)];exact l
 have G:=cN.of q;have o: ∀id n,At (p.put k (some (none,1))) id n->id≠k/\At p id n:=λid n l=>by
  by_cases r:id=k
  ·subst r;rcases l with ⟨g,l⟩|l
   ·rw[iF] at l;cases l
   exact a7 l (h.du _ _ F)
  refine⟨r,?_⟩;rcases l with ⟨g,l⟩|l
  ·rw[dK _ _ _ _ r] at l;exact .inl ⟨g,l⟩
  exact .inr l
 have y: ∀n,own K (p.put k (some (none,1))) (aE (aE s.H k (some (.arr e 1 c []))) b (some (.cells (A.set j (.aN k 1 c 0 0))))) n->own K p s.H n:=by
  rintro n (l|⟨id,z,B⟩)
  ·exact .inl l
  obtain⟨E,L⟩:=o id n B;by_cases W:id=b
  ·subst W;exact .inr ⟨id,by rw[X];simp,L⟩
  rw[bx _ _ _ _ W,bx _ _ _ _ E] at z;exact .inr ⟨id,z,L⟩
 have Q: ∀v u,aS p w (own K p s.H) v u->aS (p.put k (some (none,1))) w (own K (p.put k (some (none,1))) (aE (aE s.H k (some (.arr e 1 c []))) b (some (.cells (A.set j (.aN k 1 c 0 0)))))) v u:=
  λv u D=>D.mono (Ext.refl _ _) (λb _=>y b) G (Shaped.refl _ _)
 refine⟨p.put k (some (none,1)),{h with base:= ?_,low:= ?_,cW:= ?_,du:= ?_,inj:= ?_,fresh:= ?_,heap:= ?_,cu:=λi=>Q _ _ (h.cu i)}⟩
 ·refine h.base.keep λid hid=>?_
  have:=h.low id hid;rw[dK _ _ _ _ (by intro e;subst e;rw[F] at this;cases this)]
 ·intro id hid;show aE s.u k true id=true;by_cases e:id=k
  ·subst e;exact bu _ _ _
  rw[bx _ _ _ _ e];exact h.low id hid
 ·intro id hid;have d:aE s.u k true id=false:=hid;by_cases e:id=k
  ·subst e;rw[bu] at d;cases d
  rw[bx _ _ _ _ e] at d;rw[dK _ _ _ _ e];exact h.cW id d
 ·intro id b hid;have d:aE s.u k true id=false:=hid;by_cases e:id=k
  ·subst e;rw[bu] at d;cases d
  rw[bx _ _ _ _ e] at d;exact h.du id b d
 ·intro id R n z B;exact h.inj id R n (o id n z).2 (o R n B).2
 ·intro id n l;exact h.fresh id n (o id n l).2
 intro id e' m;have m:aE (aE s.H k (some (.arr e 1 c []))) b (some (.cells (A.set j (.aN k 1 c 0 0)))) id=some e':=m;show aE s.u k true id=true/\b4 _ _ (own K _ (aE (aE s.H k (some (.arr e 1 c []))) b (some (.cells (A.set j (.aN k 1 c 0 0)))))) id e';by_cases L:id=b
 ·subst L;rw[bu] at m;cases m;rw[bx _ _ _ _ f];obtain⟨W,n,T,ty,U,Y,g3,N⟩:=h.heap id _ X;refine⟨W,n,T,ty,q _ _ U,Y,by simpa using g3,λi v u D P=>?_⟩;by_cases r:i=j
  ·subst r;have I:=(bt.1 M).1;rw[hY I] at D;cases D;have z:=N i _ u M P;cases z with
   |t _ _ B=>cases B;exact .fB k 1 c (cL _) (bu _ _ _)
  rw[km (Ne.symm r)] at D;exact Q _ _ (N i v u D P)
 rw[bx _ _ _ _ L] at m;by_cases r:id=k
 ·subst r;rw[bu] at m;cases m;exact⟨bu _ _ _,cL _,Or.inl ⟨bu _ _ _,rfl⟩⟩
 rw[bx _ _ _ _ r] at m;obtain⟨z,B⟩:=h.heap id e' m;exact⟨by rw[bx _ _ _ _ r];exact z,B.mono (Ext.refl _ _) (λb _=>y b) G (q id) (Shaped.refl _ _) λ_ _=>rfl⟩
def jx(k:Nat):Nat->Bool:=λid=>bif Nat.beq id k then false else true
def ob(k:Nat)(v:V):V:=bif v.ok (jx k) then v else .ct
def zV(k:Nat):E->Option E
 | .cells cs=>bif e7 (jx k) cs then some (.cells cs) else none
 | .av c m gen a b=>bif pZ (jx k) b then some (.av c m gen a b) else none
 |e=>some e
theorem uY(h:i≠k):jx k i=true:=by
 have:Nat.beq i k=false:=by cases a:Nat.beq i k with
  |false=>rfl
  |true=>exact a7 (ca a) h
 simp[jx,this]
theorem rK(h:jx k i=true):i≠k:=by intro e;subst e;simp[jx] at h
def E.kg(n:Nat):E->E
 | .arr e _ z r=> .arr e n z r
 | .av a m _ r b=> .av a m n r b
 |e=>e
abbrev E.wQ:E->E:=E.kg 1
def E.oI:E->List (Nat×Nat×V)
 | .av _ _ _ _ a=>a
 |_=>[]
theorem b4.kg{β':Map}{N:Nat->Prop}{e:E}(h:b4 β w X k e)(d:1<=n)(z:e.gen=some g)(s:β k=some (q,g))(y:β' L=some (q,n))(G: ∀b,β'.n L b↔β.n k b)(H: ∀b,N b->X b)
  (R: ∀i j v,(i,j,v)∈e.oI-> ∀u,aS β w X v u->aS β' w N v u):b4 β' w N L (e.kg n):=by
 cases e with
 |cells=>cases z
 |arr ty W Q l=>
  cases z;refine⟨d,?_⟩;rcases h.2 with ⟨ay,a2⟩|⟨b,A,ay,a2,a3,a4,a5⟩
  ·rw[s] at ay;cases ay;exact .inl ⟨y,a2⟩
  rw[s] at ay;cases ay;exact .inr ⟨b,A,y,a2,a3,a4,λi j a x u o p r=>(a5 i j a x u o p r).mono (Ext.refl _ _) λb _=>H b⟩
 |av t m W l I=>
  cases z;refine⟨d,?_⟩;rcases h.2 with ⟨ay,a2,a0⟩|⟨b,A,B,ay,a2,a3,a4,a5,hf,fC,eQ⟩
  ·rw[s] at ay;cases ay;exact .inl ⟨y,a2,λc f=>a0 c ((G c).1 f)⟩
  rw[s] at ay;cases ay;exact .inr ⟨b,A,B,y,a2,a3,a4,λi j a x u o p r=>⟨λv D=>⟨R i j v D _ ((a5 i j a x u o p r).1 v D).1,((a5 i j a x u o p r).1 v D).2⟩,λF=>((a5 i j a x u o p r).2 F).mono (Ext.refl _ _) (λc _=>H c) λ_ _=>rfl⟩,hf,fC,λc=>(G c).trans (eQ c)⟩
theorem Rel.Ir{K:Ctx}{s':S}{a:Act}(h:Rel K β s a w)(k g gen:Nat){e:E}{F:Option Nat}(B:s.H k=some e)(f:e.gen=some gen)(G:e.oI=[])(L:k<K.cE)(Q:K.gd k=some (F,g))
  (n:s'.u=s.u) (R:s'.H k=some (e.kg (g+1))) (q:Option Nat) (D:β k=some (q,gen))
  (I: ∀id x,id≠k->s'.H id=some x->s.H id≠none/\ ∀X,(∀b,X b->own K β s.H b)->b4 (β.put k (some (q,g+1))) w X id x)
  (T: ∀i,∀X,(∀b,X b->own K β s.H b)->aS (β.put k (some (q,g+1))) w X (s'.t i) (a.tmps.getD i undef)):Rel K (β.put k (some (q,g+1))) s' a w:=by
 have W:1<=gen:=(me (h.heap k _ B).2 f).1;have o:=(h.heap k _ B).1;have p:1<=g/\ ∀b,q=some b->F=some b\/K.w0.heap.size<=b:=by
  rcases h.base k L with M|⟨V,Y,q2,g2,ay,a2,a3,a4,a5⟩
  ·rw[D,Q] at M;cases M;exact⟨W,λb aQ=> .inl aQ⟩
  rw[Q] at ay;cases ay;rw[D] at a3;cases a3;exact⟨a2,a5⟩
 have c: ∀id b,At (β.put k (some (q,g+1))) id b->At β id b:=λid b aQ=>by
  rcases aQ with ⟨U,aQ⟩|aQ
  ·by_cases d:id=k
   ·subst d;rw[iF] at aQ;cases aQ;exact .inl ⟨gen,D⟩
   rw[dK _ _ _ _ d] at aQ;exact .inl ⟨U,aQ⟩
  exact .inr aQ
 have l: ∀b,own K (β.put k (some (q,g+1))) s'.H b->own K β s.H b:=by
  rintro b (m|⟨id,r,z⟩)
  ·exact .inl m
  refine .inr ⟨id,?_,c id b z⟩;by_cases d:id=k
  ·subst d;rw[B];simp
  cases m:s'.H id with
  |none=>exact a7 m r
  |some x=>exact(I id x d m).1
 refine {h with base:= ?_,low:= ?_,cW:= ?_,du:=λid b hid=>h.du id b (n▸hid),inj:= ?_,fresh:=λid b aQ=>h.fresh id b (c id b aQ),heap:= ?_,cu:=λi=>T i _ l}
 ·intro id hid;by_cases d:id=k
  ·subst d;exact .inr ⟨F,g,q,g+1,Q,p.1,bu _ _ _,ly _,p.2⟩
  rw[dK _ _ _ _ d];exact h.base id hid
 ·intro id hid;rw[n];exact h.low id hid
 ·intro id hid;rw[n] at hid;rw[dK _ _ _ _ (by intro e;subst e;rw[o] at hid;cases hid)];exact h.cW id hid
 ·intro id A b r z;exact h.inj id A b (c id b r) (c A b z)
 intro id x m;by_cases d:id=k
 ·subst d;rw[R] at m;cases m;exact⟨by rw[n];exact o,(h.heap id _ B).2.kg O f D (bu _ _ _) (λ_=>Iff.rfl) l λi j v N=>by rw[G] at N;cases N⟩
 obtain⟨r,z⟩:=I id x d m;refine⟨?_,z _ l⟩;rw[n];cases P:s.H id with
 |none=>exact a7 P r
 |some y=>exact(h.heap id y P).1
theorem Eg(l:W k=some (q,gen))(h:aS W w X (.aN k gen i L m) u):aS (W.put k (some (q,g+1))) w j (.aN k (g+1) i L m) u:=by
 rcases ei h l with ⟨c,b,n,d,rfl,a,o,p,e,r,s⟩|⟨a,rfl,rfl,rfl⟩
 ·subst a;exact .aN k (g+1) i L m c b n d O (bu _ _ _) o p e r s
 subst a;exact .fB k (g+1) i O (bu _ _ _)
theorem EX(h:aS W w X v u)(a: ∀b,j b->X b):aS (W.put k (some (q,g+1))) w j (ob k v) u:=by
 unfold ob;cases c:v.ok (jx k) with
 |false=>exact .ct _
 |true=>exact h.under a (λid hid=>dK _ _ _ _ (rK hid)) c
theorem D3{y:E}(h:b4 W w X i x)(e: ∀b,j b->X b)(l:i≠k)(a:zV k x=some y):b4 (W.put k (some (q,g+1))) w j i y:=by
 unfold zV at a;split at a
 ·rename_i cs;cases c:e7 (jx k) cs with
  |false=>rw[c] at a;cases a
  |true=>rw[c] at a;cases a;exact h.under e (λi hid=>dK _ _ _ _ (rK hid)) (uY l) c
 ·rename_i n;cases c:pZ (jx k) n with
  |false=>rw[c] at a;cases a
  |true=>rw[c] at a;cases a;exact h.under e (λi hid=>dK _ _ _ _ (rK hid)) (uY l) c
 cases a;refine h.under e (u:=jx k) (λi hid=>dK _ _ _ _ (rK hid)) (uY l) ?_;cases x with
 |cells cs=>rename_i o _;exact a7 rfl (o cs)
 |arr=>rfl
 |av p m gen d n=>rename_i _ o;exact a7 rfl (o p m gen d n)
def mz(k:Nat)(H:Nat->Option E):Nat->Option E:=λid=>match H id with
 |some e=>zV k e
 |none=>none
theorem Ck{K:Ctx}(i k g gen b c d:Nat){e:E}(D:Nat.blt k K.cE=true)(F:s.t i= .aN k gen b c d)(v:s.H k=some e)(z:e.gen=some gen)(n:e.oI=[])(o: ∃q,K.gd k=some (q,g)):
  s.le K {t:=aE (λj=>ob k (s.t j)) i (.aN k (g+1) b c d),H:=aE (mz k s.H) k (some (e.kg (g+1))),u:=s.u}:=by
 intro G a w h;obtain⟨L,o⟩:=o;obtain⟨_,q,A⟩:=me (h.heap k _ v).2 z;refine⟨_,h.Ir (s':={t:=aE (λj=>ob k (s.t j)) i (.aN k (g+1) b c d),H:=aE (mz k s.H) k (some (e.kg (g+1))),u:=s.u}) k g gen v z n (by simpa[Nat.blt_eq] using D) o rfl (bu _ _ _) q A ?_ ?_⟩
 ·intro id x m l;have l:aE (mz k s.H) k (some (e.kg (g+1))) id=some x:=l;rw[bx _ _ _ _ m] at l;unfold mz at l;cases p:s.H id with
  |none=>rw[p] at l;cases l
  |some y=>
   rw[p] at l;exact⟨aV,λX r=>D3 (h.heap id y p).2 r m l⟩
 intro j X r;show aS _ w X (aE (λj=>ob k (s.t j)) i (.aN k (g+1) b c d) j) _;by_cases B:j=i
 ·subst B;rw[bu];exact Eg A (F▸h.cu j)
 rw[bx _ _ _ _ B];exact EX (h.cu j) r
theorem Cl{K:Ctx}(b j k g gen c l m:Nat){e:E}{cs:List V}(cn:Nat.blt k K.cE=true)(A:s.H b=some (.cells cs))(B:cs[j]? =some (.aN k gen c l m))(D:e7 (jx k) (cs.set j .ct)=true)
  (z:s.H k=some e) (F:e.gen=some gen) (G:e.oI=[]) (L: ∃q,K.gd k=some (q,g)):
  s.le K {t:=λj=>ob k (s.t j),H:=aE (aE (mz k s.H) k (some (e.kg (g+1)))) b (some (.cells (cs.set j (.aN k (g+1) c l m)))),u:=s.u}:=by
 intro Q a w h;obtain⟨nk,L⟩:=L;obtain⟨_,q,I⟩:=me (h.heap k _ z).2 F;have n:b≠k:=by intro e';subst e';rw[A] at z;cases z;cases F
 refine⟨_,h.Ir (s':={t:=λj=>ob k (s.t j),H:=aE (aE (mz k s.H) k (some (e.kg (g+1)))) b (some (.cells (cs.set j (.aN k (g+1) c l m)))),u:=s.u}) k g gen z F G (by simpa[Nat.blt_eq] using cn) L rfl (by show aE _ b _ k=_;rw[bx _ _ _ _ (Ne.symm n),bu]) q I ?_ ?_⟩
 ·intro id x o d;have d:aE (aE (mz k s.H) k (some (e.kg (g+1)))) b (some (.cells (cs.set j (.aN k (g+1) c l m)))) id=some x:=d;by_cases p:id=b
  ·subst p;rw[bu] at d;cases d;refine⟨by rw[A];simp,λX r=>?_⟩;have M:=(h.heap id _ A).2;have h6:b4 Q w (own K Q s.H) id (.cells (cs.set j .ct)):=M.set B λu _=> .ct u;have il:=h6.under (u:=jx k) (β':=Q.put k (some (q,g+1))) r (λid hid=>dK _ _ _ _ (rK hid)) (uY n) D;obtain⟨e4,us,ty,N,P,g3,g4⟩:=il;obtain⟨b2,nD,W7,T,U,f3,f4⟩:=M;rw[dK _ _ _ _ n,T] at N;cases N;rw[U] at P;cases P;refine⟨_,_,_,by rw[dK _ _ _ _ n];exact T,U,by simpa using f3,λi v u R hu=>?_⟩;by_cases Y:i=j
   ·subst Y;have W:=(bt.1 B).1;rw[hY W] at R;cases R;exact Eg I (f4 i _ u B hu)
   rw[km (Ne.symm Y)] at R
   grind
  rw[bx _ _ _ _ p,bx _ _ _ _ o] at d;unfold mz at d;cases f:s.H id with
  |none=>rw[f] at d;cases d
  |some y=>
   rw[f] at d;exact⟨aV,λX r=>D3 (h.heap id y f).2 r o d⟩
 intro j X r;exact EX (h.cu j) r
inductive ic (p:V->V->Prop):V->V->Prop
 |same (v:V):ic p v v
 |put {v c8:V} (h:p v c8):ic p v c8
 |agg {cs oo:List V} (ch:oo.length=cs.length) (h: ∀(i:Nat) c r5,cs[i]? =some c->oo[i]? =some r5->ic p c r5):ic p (.agg cs) (.agg oo)
theorem ic.tA{a:Map}{b:World}(e: ∀v u,aS a w X v u->aS W b j v u)(k: ∀v x u,p v x->aS a w X v u->aS W b j x u){x:V}(h:ic p v x): ∀u,aS a w X v u->aS W b j x u:=by
 induction h with
 |same v=>exact e v
 |put h=>exact λu=>k _ _ u h
 |agg l h m=>
  intro u d;cases d with
  |agg _ n o q=>
   refine .agg _ n O λi r u c d=>?_;have aD:=(bt.1 c).1;have bl:=bh (show i<_ by rw[<-l];exact aD);exact m i _ r bl c u (q i _ u bl d)
def rD(p:V->V->Prop)(e b:E):Prop:=b=e\/ ∃cs a,e= .cells cs/\b= .cells a/\a.length=cs.length/\ ∀(i:Nat) c d,cs[i]? =some c->a[i]? =some d->ic p c d
theorem rD.q5{a:Map}(d: ∀x,a n=some x->W n=some x)(m: ∀e,b4 a w X n e->b4 W w j n e)(o: ∀v u,aS a w X v u->aS W w j v u)(q: ∀v k u,p v k->aS a w X v u->aS W w j k u){e e':E}(h:rD p e e')(l:b4 a w X n e):b4 W w j n e':=by
 rcases h with rfl|⟨cs,r,rfl,rfl,s,h⟩
 ·exact m _ l
 obtain⟨b,y,ty,z,A,G,B⟩:=l;refine⟨b,y,ty,d _ z,A,O,λi D u c F=>?_⟩;have aD:=(bt.1 c).1;have bl:=bh (show i<_ by rw[<-s];exact aD);exact ic.tA o q (h i _ D bl c) u (B i _ u bl F)
theorem L'{K:Ctx}(X:Nat->V)(o:Nat->Option E)(k gen d:Nat){c:List (List T)}(D:Nat.ble K.cE k=true)(I:s.H k=some (.arr e gen d c))
  (M: ∀i,ic (λv p=>v= .aN k gen d 0 c.length/\p= .t (.aa c)) (s.t i) (X i)) (N:o k=none)
  (f: ∀id q,o id=some q-> ∃r,s.H id=some r/\rD (λv p=>v= .aN k gen d 0 c.length/\p= .t (.aa c)) r q):s.le K {t:=X,H:=o,u:=s.u}:=by
 intro l a w h;have P:=eb D;have m: ∀n,own K l o n->own K l s.H n:=by
  rintro n (F|⟨id,A,x⟩)
  ·exact .inl F
  cases B:o id with
  |none=>exact a7 B A
  |some q=>obtain⟨r,G,_⟩:=f id q B;exact .inr ⟨id,by rw[G];simp,x⟩
 have y: ∀n,At l k n-> ¬own K l o n:=by
  rintro n z (F|⟨id,A,x⟩)
  ·obtain⟨kp,U⟩:=h.gy n F;rcases(h.fresh k n z).1 with L|Y
   ·exact U L
   omega
  have:=h.inj _ _ _ x z
  grind
 have Q:=(h.heap k _ I).2;have g: ∀v u,aS l w (own K l s.H) v u->aS l w (own K l o) v u:=λv u R=>R.mono (Ext.refl _ _) (λb _=>m b) (cN.refl _) (Shaped.refl _ _);have j: ∀v p u,(v= .aN k gen d 0 c.length/\p= .t (.aa c))->aS l w (own K l s.H) v u->aS l w (own K l o) p u:=by
  rintro v p u ⟨rfl,rfl⟩ R;exact .t _ _ (Q.read R m y)
 refine⟨l,{h with heap:= ?_,cu:= ?_}⟩
 ·intro id q W;obtain⟨r,A,x⟩:=f id q W;obtain⟨G,h4⟩:=h.heap id r A;exact⟨G,x.q5 (λ_ h=>h) (λe B=>B.mono (Ext.refl _ _) (λb _=>m b) (cN.refl _) (λ_ h=>h) (Shaped.refl _ _) λ_ _=>rfl) g j h4⟩
 intro i;exact ic.tA g j (M i) _ (h.cu i)
theorem Ml{K:Ctx}(jA:Nat->V)(z:Nat->Option E)(k bz gen l W:Nat){B:E}(Y:Nat.ble K.cE k=true)(X:k≠bz)(P:s.H k=some B)(bE:B.gen=some gen)(hu:s.u bz=false)
  (eV: ∀i,ic (λv G=>v= .aN k gen l 0 W/\G= .aN bz 1 l 0 W) (s.t i) (jA i)) (Uz:z k=none) (f:z bz=some B.wQ)
  (hH: ∀id e',id≠bz->z id=some e'-> ∃B,s.H id=some B/\rD (λv G=>v= .aN k gen l 0 W/\G= .aN bz 1 l 0 W) B e'):
  s.le K {t:=jA,H:=z,u:=aE s.u bz true}:=by
 intro A a w h;have j2:=eb Y;obtain⟨hl,q,cK⟩:=me (h.heap k _ P).2 bE;have A6:=(h.heap k _ P).1;have cA:=h.cW bz hu;have U6:K.cE<=bz:=by
  apply Nat.le_of_not_lt;intro hlt;rw[h.low bz hlt] at hu;cases hu
 let d:=A.move k bz gen q;have cF:d bz=some (q,1):=yT _ _ _ _ _;have b2:d k=some (none,gen+1):=yS _ _ _ _ _ X;have T: ∀id,id≠k->id≠bz->d id=A id:=λid m r=>Cx _ _ _ _ _ _ m r;have o: ∀id b,At d id b->(id=bz/\At A k b)\/(id≠k/\id≠bz/\At A id b):=by
  intro id b L;exact Ff X cK L
 have I:cN A d:=by
  intro id q2 g D
  grind
 have y: ∀b,own K d z b->own K A s.H b:=by
  rintro b (D|⟨id,m,r⟩)
  ·exact .inl D
  rcases o id b r with ⟨rfl,p⟩|⟨p,M,F⟩
  ·exact .inr ⟨k,by rw[P];simp,p⟩
  cases U:z id with
  |none=>exact a7 U m
  |some e'=>obtain⟨B,Q,_⟩:=hH id e' M U;exact .inr ⟨id,by rw[Q];simp,F⟩
 have hm: ∀v u,aS A w (own K A s.H) v u->aS d w (own K d z) v u:=λv u bF=>bF.mono (Ext.refl _ _) (λb _=>y b) I (Shaped.refl _ _);have hp: ∀v G u,(v= .aN k gen l 0 W/\G= .aN bz 1 l 0 W)->aS A w (own K A s.H) v u->aS d w (own K d z) G u:=by
  rintro v G u ⟨rfl,rfl⟩ bF;rcases ei bF cK with ⟨cap,b,n,gr,rfl,R,hw,hs,lZ,ch,vF⟩|⟨R,m,r,rfl⟩
  ·subst R;exact .aN bz 1 l 0 _ cap b n gr (cL _) cF hw hs lZ ch vF
  subst R;rw[r];exact .fB bz 1 l (cL _) cF
 refine⟨d,{h with base:= ?_,low:= ?_,cW:= ?_,du:= ?_,inj:= ?_,fresh:= ?_,heap:= ?_,cu:= ?_}⟩
 ·exact h.base.keep λid hid=>T id O O
 ·intro id hid;show aE s.u bz true id=true;rw[bx _ _ _ _ O];exact h.low id hid
 ·intro id hid;have c:aE s.u bz true id=false:=hid;by_cases m:id=bz
  ·subst m;rw[bu] at c;cases c
  rw[bx _ _ _ _ m] at c;rw[T id (by intro e;subst e;rw[A6] at c;cases c) m];exact h.cW id c
 ·intro id b hid L;have c:aE s.u bz true id=false:=hid;rcases L with ⟨m,_⟩|⟨m,_,L⟩
  ·subst m;rw[bu] at c;cases c
  rw[bx _ _ _ _ m] at c;exact h.du id b c L
 ·intro id hT b m r;rcases o id b m with ⟨rfl,p⟩|⟨p,M,F⟩<;>rcases o hT b r with ⟨e2,Q⟩|⟨Q,il,hS⟩
  ·exact e2.symm
  ·exact a7 (h.inj _ _ b hS p) Q
  ·subst e2;exact a7 (h.inj _ _ b F Q) p
  exact h.inj _ _ b F hS
 ·intro id b L;rcases o id b L with ⟨rfl,p⟩|⟨p,M,F⟩
  ·refine⟨?_,(h.fresh _ _ p).2⟩;exact(h.fresh _ _ p).1
  exact h.fresh id b F
 ·intro id e' D;have N:z id=some e':=D;clear D;show aE s.u bz true id=true/\b4 d w (own K d z) id e';by_cases m:id=bz
  ·subst m;rw[f] at N;cases N;exact⟨bu _ _ _,(h.heap k _ P).2.kg (cL _) bE cK cF (λb=>by simp[d,Map.move]) y λ_ _ v _ u=>hm v u⟩
  have r:id≠k:=by intro e;subst e;rw[Uz] at N;cases N
  obtain⟨B,F,Q⟩:=hH id e' m N;obtain⟨p,M⟩:=h.heap id B F;rw[bx _ _ _ _ m];refine⟨p,Q.q5 (λx D=>by rw[T id r m];exact D) (λe U=>U.mono (Ext.refl _ _) (λb _=>y b) I (λx D=>by rw[T id r m];exact D) (Shaped.refl _ _) (λ_ _=>rfl) λb=>FV _ _ _ _ _ _ _ r m) hm hp M⟩
 intro j;exact ic.tA hm hp (eV j) _ (h.cu j)
mutual
def mc(k g z n:Nat)(b:V):V->V×List cR
 | .aN d gen a c len=>match Nat.beq d k&&Nat.beq c 0 with
  |true=>(b,[.q gen g,.q a z,.q len n])
  |false=>(.aN d gen a c len,[])
 | .agg cs=>(.agg (kd k g z n b cs).1,(kd k g z n b cs).2)
 |v=>(v,[])
def kd(k g z n:Nat)(a:V):List V->List V×List cR
 | []=>([],[])
 |c::cs=>((mc k g z n a c).1::(kd k g z n a cs).1,(mc k g z n a c).2++(kd k g z n a cs).2)
end
theorem Cu(k g z n:Nat)(a:V): ∀cs,(kd k g z n a cs).1.length=cs.length
 | []=>rfl
 |c::cs=>by simp[kd,Cu k g z n a cs]
mutual
theorem F3(k g z n:Nat)(c:V): ∀v,bS (mc k g z n c v).2->ic (λa b=>a= .aN k g z 0 n/\b=c) v (mc k g z n c v).1
 | .aN l gen i e len,h=>by
  unfold mc at h⊢;cases d:Nat.beq l k&&Nat.beq e 0 with
  |false=>exact .same _
  |true=>
   simp only[d] at h⊢;simp only[Bool.and_eq_true] at d;obtain⟨rfl,rfl,rfl,_⟩:=h;have m:=ca d.1;have o:=ca d.2;subst m;subst o;exact .put ⟨rfl,rfl⟩
 | .agg cs,h=>by
  simp only[mc] at h⊢;exact .agg (Cu _ _ _ _ _ _) (zv k g z n c cs h)
 | .t _,_| .bG _,_| .ref _ _,_| .aP _,_| .cd _ _ _ _ _,_| .fn _ _,_| .ct,_=>by simp only[mc];exact .same _
theorem zv(k g z n:Nat)(d:V): ∀cs,bS (kd k g z n d cs).2-> ∀(i:Nat) c l,cs[i]? =some c->(kd k g z n d cs).1[i]? =some l->ic (λa b=>a= .aN k g z 0 n/\b=d) c l
 | [],_,i,c,l,h,_=>by simp at h
 |o::cs,m,0,c,l,h,e=>by
  simp only[kd] at m e;simp at h e;subst h;subst e;exact F3 k g z n d o (bS.app m).1
 |o::cs,m,i+1,c,l,h,e=>by simp only[kd] at m e;simp at h e;exact zv k g z n d cs (bS.app m).2 i c l h e
end
def gq(k g z n:Nat)(a:V)(s:S):List Nat->List (Nat×V)×List cR
 | []=>([],[])
 |i::is=>((i,(mc k g z n a (s.t i)).1)::(gq k g z n a s is).1,(mc k g z n a (s.t i)).2++(gq k g z n a s is).2)
def eY(k g z n:Nat)(a:V)(s:S):List Nat->List (Nat×Option E)×List cR
 | []=>([],[])
 |b::c=>match s.H b with
  |some (.cells cs)=>((b,some (.cells (kd k g z n a cs).1))::(eY k g z n a s c).1,(kd k g z n a cs).2++(eY k g z n a s c).2)
  |_=>eY k g z n a s c
theorem zu{k g z n:Nat}{x:V}{s:S}: ∀{is:List Nat},bS (gq k g z n x s is).2-> ∀i v,(i,v)∈(gq k g z n x s is).1->ic (λa b=>a= .aN k g z 0 n/\b=x) (s.t i) v
 |i0::is,c,i,v,h=>by
  simp only[gq] at c h;rcases dz.1 h with h|h
  ·cases h;exact F3 _ _ _ _ _ _ (bS.app c).1
  exact zu (bS.app c).2 i v h
theorem uU{k g z n:Nat}{x:V}{s:S}: ∀{i:List Nat},bS (eY k g z n x s i).2-> ∀b e,(b,e)∈(eY k g z n x s i).1-> ∃m o,s.H b=some m/\e=some o/\rD (λa b=>a= .aN k g z 0 n/\b=x) m o
 |p::i,c,b,e,h=>by
  unfold eY at c h;split at h
  ·rename_i cs d;simp only[d] at c;rcases dz.1 h with h|h
   ·cases h;exact⟨_,_,d,rfl,.inr ⟨cs,_,rfl,rfl,Cu _ _ _ _ _ _,zv _ _ _ _ _ _ (bS.app c).1⟩⟩
   exact uU (bS.app c).2 b e h
  rename_i d;split at c
  ·rename_i cs l;exact a7 l (d cs)
  exact uU c b e h
theorem Fi{k:Nat}: ∀{l:List Nat},k∈l->gn k l=true
 |x::l,h=>by
  simp only[gn];rcases dz.1 h with rfl|h
  ·simp
  cases Nat.beq x k with
  |true=>rfl
  |false=>exact Fi h
theorem tM(h:(!gn k l)=true):k∉l:=λa=>by rw[Fi a] at h;cases h
theorem FL{bz:Nat}(h:(!Nat.beq k bz)=true):k≠bz:=λe=>by subst e;simp at h
theorem tL{k g z n:Nat}{x:V}{s:S}: ∀{a:List Nat} {b:Nat} {e:Option E},(b,e)∈(eY k g z n x s a).1->b∈a
 |c::a,b,e,h=>by
  unfold eY at h;split at h
  ·rcases dz.1 h with h|h
   ·cases h;exact ep
   exact dU _ (tL h)
  exact dU _ (tL h)
theorem TN{K:Ctx}{a:List (List T)}{L:List Nat}(d:Nat.ble K.cE k=true)(l:s.H k=some (.arr e gen n a))(m:k∉r)
  (o:bS (gq k gen n a.length (.t (.aa a)) s L).2) (p:bS (eY k gen n a.length (.t (.aa a)) s r).2):
  s.le K ((⟨(gq k gen n a.length (.t (.aa a)) s L).1,(k,none)::(eY k gen n a.length (.t (.aa a)) s r).1,[]⟩:cg).app s):=by
 refine L' _ _ k gen n d l (λi=>?_) ?_ λid e' b=>?_
 ·rcases jR (gq k gen n a.length (.t (.aa a)) s L).1 s.t i with ⟨_,c⟩|⟨v,h,c⟩
  ·rw[c];exact .same _
  rw[c];exact zu o i v h
 ·show cO (aE s.H k none) _ k=none;rw[jV _ _ _ λv q=>m (tL q),bu]
 have b:cO (aE s.H k none) (eY k gen n a.length (.t (.aa a)) s r).1 id=some e':=b;rcases jR (eY k gen n a.length (.t (.aa a)) s r).1 (aE s.H k none) id with ⟨_,c⟩|⟨v,h,c⟩
 ·rw[c] at b;by_cases hid:id=k
  ·subst hid;rw[bu] at b;cases b
  rw[bx _ _ _ _ hid] at b;exact⟨e',b,.inl rfl⟩
 rw[c] at b;subst b;obtain⟨w,x,y,z,A⟩:=uU p id _ h
 grind
theorem Gy{K:Ctx}{T:E}(e:Nat.ble K.cE k=true)(c:k≠L)(q:s.H k=some T)(w:T.gen=some gen)(x:s.u L=false)(y:k∉r)(h:L∉r)
  (z:bS (gq k gen n m (.aN L 1 n 0 m) s l).2) (A:bS (eY k gen n m (.aN L 1 n 0 m) s r).2):
  s.le K ((⟨(gq k gen n m (.aN L 1 n 0 m) s l).1,(k,none)::(L,some T.wQ)::(eY k gen n m (.aN L 1 n 0 m) s r).1,[(L,true)]⟩:cg).app s):=by
 refine Ml _ _ k L gen n m e c q w x (λi=>?_) ?_ ?_ λid e' d a=>?_
 ·rcases jR (gq k gen n m (.aN L 1 n 0 m) s l).1 s.t i with ⟨_,b⟩|⟨v,o,b⟩
  ·rw[b];exact .same _
  rw[b];exact zu z i v o
 ·show cO (aE (aE s.H k none) L _) _ k=none;rw[jV _ _ _ λv p=>y (tL p),bx _ _ _ _ c,bu]
 ·show cO (aE (aE s.H k none) L _) _ L=_;rw[jV _ _ _ λv p=>h (tL p),bu]
 have a:cO (aE (aE s.H k none) L (some T.wQ)) (eY k gen n m (.aN L 1 n 0 m) s r).1 id=some e':=a;rcases jR (eY k gen n m (.aN L 1 n 0 m) s r).1 (aE (aE s.H k none) L (some T.wQ)) id with ⟨_,b⟩|⟨v,o,b⟩
 ·rw[b,bx _ _ _ _ d] at a;by_cases hid:id=k
  ·subst hid;rw[bu] at a;cases a
  rw[bx _ _ _ _ hid] at a;exact⟨e',a,.inl rfl⟩
 rw[b] at a;subst a;obtain⟨T,B,D,F,G⟩:=uU A id _ o
 grind
theorem L8{K:Ctx}(A:Nat->V)(k:Nat){D:List T}(F:Nat.ble K.cE k=true)(R:s.H k=some (.cells (D.map .t)))
  (W: ∀i,A i=s.t i\/ ∃c,s.t i= .ref k c/\A i= .aP (D.drop c)):s.le K {t:=A,H:=aE s.H k none,u:=s.u}:=by
 intro q a w h;have X:=eb F;obtain⟨b,p,ty,B,f,L,g⟩:=(h.heap k _ R).2;have m: ∀G,own K q (aE s.H k none) G->own K q s.H G:=by
  rintro G (r|⟨id,n,o⟩)
  ·exact .inl r
  by_cases hid:id=k
  ·subst hid;rw[bu] at n;exact a7 rfl n
  rw[bx _ _ _ _ hid] at n;exact .inr ⟨id,n,o⟩
 have v: ¬own K q (aE s.H k none) b:=by
  rintro(r|⟨id,n,o⟩)
  ·obtain⟨kp,E⟩:=h.gy b r;rcases(h.fresh k b (.inl ⟨_,B⟩)).1 with d|I
   ·exact E d
   omega
  have:=h.inj _ _ _ o (.inl ⟨_,B⟩);subst this;rw[bu] at n;exact n rfl
 refine⟨q,{h with heap:= ?_,cu:= ?_}⟩
 ·intro id e' l;have l:aE s.H k none id=some e':=l;by_cases hid:id=k
  ·subst hid;rw[bu] at l;cases l
  rw[bx _ _ _ _ hid] at l;obtain⟨n,o⟩:=h.heap id e' l;exact⟨n,o.mono (Ext.refl _ _) (λb _=>m b) (cN.refl _) (λ_ h=>h) (Shaped.refl _ _) λ_ _=>rfl⟩
 intro j;show aS q w _ (A j) _;rcases W j with M|⟨c,n,o⟩
 ·rw[M];exact(h.cu j).mono (Ext.refl _ _) (λb _=>m b) (cN.refl _) (Shaped.refl _ _)
 rw[o];have Q:=h.cu j;rw[n] at Q;obtain⟨b2,y,N⟩:=o4 Q;rw[B] at y;cases y;rw[N];have aQ:=(h.fresh k b (.inl ⟨_,B⟩)).2;refine .aP _ b c (λi=>p.getD (c+i) undef) aQ v (λi P=>?_) λi x r=>?_
 ·have d:c+i<p.size:=by simp at P L;omega
  simp[World.cell?,f,d]
 have z:D[c+i]? =some x:=by simpa using r
 have d:c+i<p.size:=by have:=(bt.1 z).1;simp at L;omega
 have U:=g (c+i) (.t x) p[c+i] (by simp[z]) (by simp[d]);have e:p.getD (c+i) undef=p[c+i]:=by simp[d]
 rw[e];cases U with
 |t _ _ Y=>exact Y.mono (Ext.refl _ _) λb _=>m b
def vA(k:Nat)(b:List T)(s:S):List Nat->Option (List (Nat×V))
 | []=>some []
 |i::is=>match s.t i with
  | .ref c a=>match Nat.beq c k,vA k b s is with
   |true,some l=>some ((i,.aP (b.drop a))::l)
   |_,_=>none
  |_=>none
theorem F2{k:Nat}{a:List T}{s:S}: ∀{is:List Nat} {l:List (Nat×V)},vA k a s is=some l-> ∀i v,(i,v)∈l-> ∃b,s.t i= .ref k b/\v= .aP (a.drop b)
 | [],l,h,i,v,hm=>by cases h;cases hm
 |i0::is,l,h,i,v,hm=>by
  unfold vA at h;split at h
  ·rename_i n b c;split at h
   ·rename_i o d e;cases h;have m:=ca d;subst m;rcases dz.1 hm with hm|hm
    ·cases hm;exact⟨b,c,rfl⟩
    exact F2 e i v hm
   cases h
  cases h
def r1(a:List (List T)):List Nat->List (Nat×V)
 | []=>[]
 |i::is=>(i,.t (.aa a))::r1 a is
def og(k b a n:Nat)(s:S):List Nat->Option (List cR)
 | []=>some []
 |i::is=>match s.t i with
  | .aN e gen c d len=>match Nat.beq e k&&Nat.beq d 0,og k b a n s is with
   |true,some h=>some (.q gen b:: .q c a:: .q len n::h)
   |_,_=>none
  |_=>none
theorem Ft{k m L n:Nat}{s:S}: ∀{is:List Nat} {a:List cR},og k m L n s is=some a->bS a-> ∀i,i∈is->s.t i= .aN k m L 0 n
 | [],_,_,_,i,h=>by cases h
 |i0::is,a,h,b,i,aD=>by
  unfold og at h;split at h
  ·rename_i w gen d e len l;split at h
   ·rename_i o c p;cases h;simp only[Bool.and_eq_true] at c;obtain⟨rfl,rfl,rfl,q⟩:=b;have r:=ca c.1;have v:=ca c.2;subst r;subst v;rcases dz.1 aD with rfl|aD
    ·exact l
    exact Ft p q i aD
   cases h
  cases h
theorem EU{a:List (List T)}{j:Nat}{v:V}: ∀{is:List Nat},(j,v)∈r1 a is->j∈is/\v= .t (.aa a)
 |i::is,h=>by
  simp only[r1,List.mem_cons] at h;rcases h with h|h
  ·cases h;exact⟨ep,rfl⟩
  obtain⟨b,c⟩:=EU h;exact⟨dU _ b,c⟩
def vb{k:Type}:List k->Bool
 | []=>true
 |_::_=>false
theorem zq{k:Type}{l:List k}(h:vb l=true):l=[]:=by
 cases l with
 |nil=>rfl
 |cons=>cases h
def gZ(C:dc)(h:bV)(s:S):Option (Option (cg×List cR)):=
 match h with
 | .ee i k=>match s.t i,s.H k with
  | .aN v gen c B len,some (.arr _ w d a)=>match Nat.beq v k&&(Nat.beq B 0&&Nat.ble C.cE k) with
   |true=>some (some (⟨[(i,.t (.aa a))],[(k,none)],[]⟩,[.q gen w,.q c d,.q len a.length]))
   |false=>some none
  |_,_=>some none
 | .oC is k=>match s.H k with
  |some (.arr _ w d a)=>match Nat.ble C.cE k,og k w d a.length s is with
   |true,some f=>some (some (⟨r1 a is,[(k,none)],[]⟩,f))
   |_,_=>some none
  |_=>some none
 | .grow i k e=>match s.t i,s.u k,cT C.bQ e with
  | .t .en,false,some j=>some (some (⟨[(i,.aN k 1 j.size 0 0)],[(k,some (.arr e 1 j.size []))],[(k,true)]⟩,[]))
  |_,_,_=>some none
 | .len i n=>match s.t i with
  | .aN k gen c B len=>some (some (⟨[(i,.aN k gen c B n)],[],[]⟩,[.p (len=n)]))
  |_=>some none
 | .sg k is=>match s.H k with
  |some (.cells E)=>match iX E,Nat.ble C.cE k with
   |some cs,true=>match vA k cs s is with
    |some l=>some (some (⟨l,[(k,none)],[]⟩,[]))
    |none=>some none
   |_,_=>some none
  |_=>some none
 | .cb k is G=>match s.H k with
  |some (.arr _ gen c a)=>match Nat.ble C.cE k&& !gn k G with
   |true=>some (some (⟨(gq k gen c a.length (.t (.aa a)) s is).1,(k,none)::(eY k gen c a.length (.t (.aa a)) s G).1,[]⟩,(gq k gen c a.length (.t (.aa a)) s is).2++(eY k gen c a.length (.t (.aa a)) s G).2))
   |false=>some none
  |_=>some none
 | .bX k v is G=>match s.H k,s.u v with
  |some (.arr e gen c a),false=>match Nat.ble C.cE k&&(!Nat.beq k v&&(!gn k G&& !gn v G)) with
   |true=>some (some (⟨(gq k gen c a.length (.aN v 1 c 0 a.length) s is).1,(k,none)::(v,some (.arr e 1 c a))::(eY k gen c a.length (.aN v 1 c 0 a.length) s G).1,[(v,true)]⟩,
     (gq k gen c a.length (.aN v 1 c 0 a.length) s is).2++(eY k gen c a.length (.aN v 1 c 0 a.length) s G).2))
   |false=>some none
  |some (.av r m gen a []),false=>match Nat.ble C.cE k&&(!Nat.beq k v&&(!gn k G&& !gn v G)) with
   |true=>some (some (⟨(gq k gen (Y r m).size a.length (.aN v 1 (Y r m).size 0 a.length) s is).1,(k,none)::(v,some (.av r m 1 a []))::(eY k gen (Y r m).size a.length (.aN v 1 (Y r m).size 0 a.length) s G).1,[(v,true)]⟩,
     (gq k gen (Y r m).size a.length (.aN v 1 (Y r m).size 0 a.length) s is).2++(eY k gen (Y r m).size a.length (.aN v 1 (Y r m).size 0 a.length) s G).2))
   |false=>some none
  |_,_=>some none
 | .gV b j n=>match s.H b with
  |some (.cells cs)=>match cs[j]? with
   |some (.aN k gen c B len)=>some (some (⟨[],[(b,some (.cells (cs.set j (.aN k gen c B n))))],[]⟩,[.p (len=n)]))
   |_=>some none
  |_=>some none
 | .c7 i k v=>match s.t i,s.H k,s.u v with
  | .aN j5 gen c B len,some (.arr e w d a),false=>match Nat.beq j5 k&&(Nat.ble C.cE k&& !Nat.beq k v) with
   |true=>some (some (⟨[(i,.aN v 1 c B len)],[(k,none),(v,some (.arr e 1 d a))],[(v,true)]⟩,[.q gen w,.q c d]))
   |false=>some none
  |_,_,_=>some none
 | .G1 b j k=>match s.H b,s.H k with
  |some (.cells cs),some (.arr _ w d a)=>match cs[j]?,Nat.ble C.cE k with
   |some (.aN v gen c B len),true=>match Nat.beq v k&&Nat.beq B 0 with
    |true=>some (some (⟨[],[(k,none),(b,some (.cells (cs.set j (.t (.aa a)))))],[]⟩,[.q gen w,.q c d,.q len a.length]))
    |false=>some none
   |_,_=>some none
  |some (.av r m I Q ((M,N,.aN v gen c B len)::F)),some (.arr _ w d a)=>match Nat.beq v k&&(Nat.beq B 0&&(Nat.ble C.cE k&& !Nat.beq b k)) with
   |true=>some (some (⟨[],[(k,none),(b,some (.av r m I Q ((M,N,.t (.aa a))::F)))],[]⟩,[.q gen w,.q c d,.q len a.length]))
   |false=>some none
  |_,_=>some none
 | .dC b j k e=>match s.H b,s.u k,cT C.bQ e with
  |some (.cells cs),false,some i=>match cs[j]? with
   |some (.t .en)=>some (some (⟨[],[(k,some (.arr e 1 i.size [])),(b,some (.cells (cs.set j (.aN k 1 i.size 0 0))))],[(k,true)]⟩,[]))
   |_=>some none
  |_,_,_=>some none
 | .BN k=>match s.H k with
  |some (.cells cs)=>some (some (⟨[],[(k,some (.cells (fg cs)))],[]⟩,[]))
  |_=>some none
 | .cQ k r m=>match s.H k with
  |some (.arr ty gen c a)=>match vb (Y r m).aJ||vb a with
   |true=>some (some (⟨[],[(k,some (.av r m gen a []))],[]⟩,[.q (Y r m).ty ty,.q (Y r m).size c]))
   |false=>some none
  |some (.av L X gen a F)=>match Nat.ble C.cE k&&vb (Y r m).aJ with
   |true=>some (some (⟨[],[(k,some (.av r m gen a F))],[]⟩,[.q (Y r m).ty (Y L X).ty,.q (Y r m).size (Y L X).size]))
   |false=>some none
  |_=>some none
 | .fW k=>match s.H k with
  |some (.av r m gen a [])=>match Nat.ble C.cE k with
   |true=>some (some (⟨[],[(k,some (.arr (Y r m).ty gen (Y r m).size a))],[]⟩,[]))
   |false=>some none
  |_=>some none
 | .dX k v i j A=>match s.H k,s.u v with
  |some (.av r m gen a F),false=>match (Y r m).dv j,A[j]? with
   |some W,some (.aa D)=>some (some (⟨[],[(k,some (.av r m gen a ((i,j,.aN v 1 (Y r W).size 0 D.length)::F))),(v,some (.av r W 1 D []))],[(v,true)]⟩,.p (a[i]? =some A)::oe i j F))
   |_,_=>some none
  |_,_=>some none
 | .fm k i j A=>match s.H k with
  |some (.av r m gen a F)=>match (Y r m).dv j,A[j]?,ni j F with
   |none,some x,true=>some (some (⟨[],[(k,some (.av r m gen a ((i,j,.t x)::F)))],[]⟩,[.p (a[i]? =some A)]))
   |_,_,_=>some none
  |_=>some none
 | .fr k A R=>match s.H k with
  |some (.av r m gen a ((i,j,.t x)::F))=>match (Y r m).dv j,Nat.blt j (Y r m).size&&ni j F with
   |none,true=>some (some (⟨[],[(k,some (.av r m gen R F))],[]⟩,[.p (a[i]? =some A),.p (a.set i (A.set j x)=R)]))
   |some _,true=>match x with
    | .en=>some (some (⟨[],[(k,some (.av r m gen R F))],[]⟩,[.p (a[i]? =some A),.p (a.set i (A.set j (.aa []))=R)]))
    |_=>some none
   |_,_=>some none
  |_=>some none
 | .G2 i j k e=>match s.t i,s.u k,cT C.bQ e with
  | .agg cs,false,some y=>match cs[j]? with
   |some (.t .en)=>some (some (⟨[(i,.agg (cs.set j (.aN k 1 y.size 0 0)))],[(k,some (.arr e 1 y.size []))],[(k,true)]⟩,[]))
   |_=>some none
  |_,_,_=>some none
 | .cS k v A R=>match s.H k,s.H v with
  |some (.av r m gen a ((i,j,.aN b0 g z o n)::F)),some (.av L W P D [])=>match (Y r m).dv j,Nat.beq b0 v&&(!Nat.beq k v&&(Nat.ble C.cE v&&(Nat.beq o 0&&Nat.blt j (Y r m).size))) with
   |some T,true=>some (some (⟨[],[(v,none),(k,some (.av r m gen R F))],[]⟩,.q g P:: .q z (Y r W).size:: .p (n=D.length):: .q T W:: .p (L=r):: .p (a[i]? =some A):: .p (a.set i (A.set j (.aa D))=R)::oe i j F))
   |_,_=>some none
  |_,_=>some none
 | .cut k n R=>match s.H k with
  |some (.arr e gen c a)=>some (some (⟨[],[(k,some (.arr e gen c R))],[]⟩,[.p (R=a.take n)]))
  |_=>some none
 |_=>none
def my(C:dc)(a:Nat):List bV->S->Option (cg×List cR×List bV)
 | [],_=>some (.nil,[],[])
 | .at m::b,s=>match Nat.beq m a with
  |true=>my C a b s
  |false=>some (.nil,[],.at m::b)
 |h::b,s=>match gZ C h s with
  |none=>some (.nil,[],h::b)
  |some none=>none
  |some (some (e,i))=>match my C a b (e.app s) with
   |some (k,c,d)=>some (e.cat k,i++c,d)
   |none=>none
section
variable {K:Ctx}{C:dc}
theorem QB{K:Ctx}(k n:Nat){c:List (List T)}(p:s.H k=some (.arr e gen L c)):s.le K {s with H:=aE s.H k (some (.arr e gen L (c.take n)))}:=by
 intro q a w h;refine⟨q,h.BW k p λX d=>⟨d.1,?_⟩⟩;rcases d.2 with ⟨m,o⟩|⟨b,r,m,o,v,y,A⟩
 ·exact .inl ⟨m,by rw[o];simp⟩
 refine .inr ⟨b,r,m,o,dS (dq _ (List.length_take_le' _ _)) v,λl z=>y l (hA z),λi j l x u ay a2 a3=>?_⟩
 grind
theorem uu(q:C.Fits K){h:bV}{e:cg}{R:List cR}(b:gZ C h s=some (some (e,R)))(i:bS R):s.le K (e.app s):=by
 unfold gZ at b;split at b
 ·split at b
  ·rename_i x m;split at b
   ·rename_i d;cases b;simp only[Bool.and_eq_true] at d;obtain⟨rfl,rfl,rfl,_⟩:=i;have y:=ca d.1;have D:=ca d.2.1;subst y;subst D;exact Mm _ _ _ _ (by rw[<-q.cE];exact d.2.2) x m
   cases b
  cases b
 ·split at b
  ·rename_i m;split at b
   ·rename_i d W;cases b;refine C1 _ _ _ _ (by rw[<-q.cE];exact d) (λj=>?_) m;rcases jR (r1 _ _) s.t j with ⟨_,n⟩|⟨v,r,n⟩
    ·exact .inl n
    obtain⟨f,rfl⟩:=EU r;exact .inr ⟨n,Ft W i j f⟩
   cases b
  cases b
 ·split at b
  ·rename_i x o p;cases b;exact QC _ _ _ o x
  cases b
 ·split at b
  ·rename_i x;cases b;obtain⟨rfl,_⟩:=i;intro F a w G;refine⟨F,?_⟩;unfold cg.app;simp only[cO];rw[<-x,Es];exact G
  cases b
 ·split at b
  ·rename_i U m;split at b
   ·rename_i cs Q d;split at b
    ·rename_i l g;cases b;have z:=m;rw[lo Q] at z;refine L8 _ _ (by rw[<-q.cE];exact d) z λj=>?_;rcases jR l s.t j with ⟨_,n⟩|⟨v,r,n⟩
     ·exact .inl n
     obtain⟨u,Y,c2⟩:=F2 g j v r
     grind
    cases b
   cases b
  cases b
 ·split at b
  ·rename_i m;split at b
   ·rename_i d;cases b;simp only[Bool.and_eq_true] at d;obtain⟨H,L⟩:=bS.app i;exact TN (by rw[<-q.cE];exact d.1) m (tM d.2) H L
   cases b
  cases b
 ·split at b
  ·rename_i m o;split at b
   ·rename_i d;cases b;simp only[Bool.and_eq_true] at d;obtain⟨H,L⟩:=bS.app i;exact Gy (by rw[<-q.cE];exact d.1) (FL d.2.1) m rfl o (tM d.2.2.1) (tM d.2.2.2) H L
   cases b
  ·rename_i m o;split at b
   ·rename_i d;cases b;simp only[Bool.and_eq_true] at d;obtain⟨H,L⟩:=bS.app i;exact Gy (by rw[<-q.cE];exact d.1) (FL d.2.1) m rfl o (tM d.2.2.1) (tM d.2.2.2) H L
   cases b
  cases b
 ·split at b
  ·rename_i d;split at b
   ·rename_i p;cases b;obtain⟨rfl,_⟩:=i;intro F a w G;refine⟨F,?_⟩;have D:=bt.1 p;have E: ∀{cs:List V} {j:Nat} {c:V},cs[j]? =some c->cs.set j c=cs:=by
     intro cs j c h;obtain⟨r,n⟩:=bt.1 h;rw[<-n,List.set_getElem_self]
    unfold cg.app;simp only[cO];rw[E p,<-d,Es];exact G
   cases b
  cases b
 ·split at b
  ·rename_i x m o;split at b
   ·rename_i d;cases b;simp only[Bool.and_eq_true,Bool.not_eq_true'] at d;obtain⟨rfl,rfl,_⟩:=i;have y:=ca d.1;subst y;exact Og _ _ _ _ _ _ _ (by rw[<-q.cE];exact d.2.1) (Nat.ne_of_beq_eq_false d.2.2) x m o
   cases b
  cases b
 ·split at b
  ·rename_i d m;split at b
   ·rename_i p I;split at b
    ·rename_i A;cases b;simp only[Bool.and_eq_true] at A;obtain⟨rfl,rfl,rfl,_⟩:=i;have y:=ca A.1;have D:=ca A.2;subst y;subst D;exact Ma _ _ _ _ _ (by rw[<-q.cE];exact I) d p m
    cases b
   cases b
  ·rename_i d m;split at b
   ·rename_i A;cases b;simp only[Bool.and_eq_true,Bool.not_eq_true'] at A;obtain⟨rfl,rfl,rfl,_⟩:=i;have y:=ca A.1;have D:=ca A.2.1;subst y;subst D;exact L9 _ _ _ _ _ _ (by rw[<-q.cE];exact A.2.2.1) (Nat.ne_of_beq_eq_false A.2.2.2) d m
   cases b
  cases b
 ·split at b
  ·rename_i d o x;split at b
   ·rename_i p;cases b;exact PD _ _ _ _ o d p
   cases b
  cases b
 ·split at b
  ·rename_i k cs m;cases b;intro F a w G;exact⟨F,G.BW _ m λX h=>(show hF (.cells _) (.cells _) from jv cs).q5 h⟩
  cases b
 ·split at b
  ·rename_i m;split at b
   ·rename_i d;cases b;obtain⟨r,n,_⟩:=i;refine Pz _ _ _ m r n ?_;rcases Bool.or_eq_true_iff.1 d with h|h
    ·exact .inr (zq h)
    exact .inl (zq h)
   cases b
  ·rename_i m;split at b
   ·rename_i d;cases b;obtain⟨r,n,_⟩:=i;simp only[Bool.and_eq_true] at d;exact PB _ _ _ m (by rw[<-q.cE];exact d.1) r n (zq d.2)
   cases b
  cases b
 ·split at b
  ·rename_i m;split at b
   ·rename_i d;cases b;exact PA _ m (by rw[<-q.cE];exact d)
   cases b
  cases b
 ·split at b
  ·rename_i m o;split at b
   ·rename_i B p;cases b;exact Oh _ _ _ _ _ m o i.1 p B (tV i.2)
   cases b
  cases b
 ·split at b
  ·rename_i m;split at b
   ·rename_i B p M;cases b;exact PC _ _ _ m i.1 p B M
   cases b
  cases b
 ·split at b
  ·rename_i m;split at b
   ·rename_i B d;cases b;simp only[Bool.and_eq_true] at d;obtain⟨r,rfl,_⟩:=i;exact Mk _ _ _ m r d.1 B d.2
   ·rename_i B d;split at b
    ·cases b;simp only[Bool.and_eq_true] at d;obtain⟨r,rfl,_⟩:=i;exact NH _ _ _ _ m r d.1 B d.2
    cases b
   cases b
  cases b
 ·split at b
  ·rename_i x o hy;split at b
   ·rename_i p;cases b;exact PE _ _ _ _ o x p
   cases b
  cases b
 ·split at b
  ·rename_i m z;split at b
   ·rename_i B d;cases b;simp only[Bool.and_eq_true,Bool.not_eq_true'] at d;obtain⟨rfl,n,N,rfl,rfl,P,rfl,T⟩:=i;have y:=ca d.1;have D:=ca d.2.2.2.1;subst y;subst D;exact L7 _ _ _ _ _ _ _ _ m z n N (Nat.ne_of_beq_eq_false d.2.1) (by rw[<-q.cE];exact d.2.2.1) P B d.2.2.2.2 (tV T)
   cases b
  cases b
 ·split at b
  ·rename_i m;cases b;obtain⟨rfl,_⟩:=i;exact QB _ _ m
  cases b
 cases b
theorem nd(l:C.Fits K){i:Nat}: ∀{m:List bV} {s:S} {e:cg} {k:List cR} {b:List bV},my C i m s=some (e,k,b)->bS k->s.le K (e.app s)
 | [],s,e,k,b,h,_=>by cases h;exact S.le.refl _ _
 |h::m,s,e,k,b,a,d=>by
  unfold my at a;split at a
  ·cases a;exact S.le.refl _ _
  ·split at a
   ·rename_i c _ _;cases c;exact nd l a d
   cases a;exact S.le.refl _ _
  rename_i c;cases c;split at a
  ·cases a;exact S.le.refl _ _
  ·cases a
  rename_i x n o;split at a
  ·rename_i y p q r;cases a;obtain⟨v,w⟩:=bS.app d;rw[kC];exact(uu l o v).trans (nd l r w)
  cases a
def gD(C:dc)(a:Array Oper):List Oper->List bV->S->Option (cg×List cR)
 | [],b,s=>match my C 0 b s with
  |some (e,p,[])=>some (e,p)
  |_=>none
 |o::l,b,s=>match my C (l.length+1) b s with
  |none=>none
  |some (c,d,h)=>match ov C a o h (c.app s) with
   |none=>none
   |some (n,i,k)=>match gD C a l k (n.app (c.app s)) with
    |none=>none
    |some (q,m)=>some (c.cat (n.cat q),d++(i++m))
theorem Gi(c:C.Fits K){b:Array Oper}{Q:S->Prop}: ∀{l:List Oper} {k:List bV} {s:S} {e:cg} {d:List cR},gD C b l k s=some (e,d)->bS d->mF K b [] (e.app s) Q->mF K b l s Q
 | [],k,s,e,d,h,a,i=>by
  simp only[gD] at h;split at h
  ·rename_i F n p;cases h;exact C4 (nd c p a) i
  cases h
 |o::l,k,s,e,d,h,a,i=>by
  simp only[gD] at h;split at h
  ·cases h
  rename_i G q r v;split at h
  ·cases h
  rename_i H w x y;split at h
  ·cases h
  rename_i L z A;cases h;obtain⟨B,m⟩:=bS.app a;obtain⟨m,D⟩:=bS.app m;rw[kC,kC] at i;exact C4 (nd c v B) (SQ (Gj c y m) (Gi c A D i))
abbrev nU:=Prop×List Nat×List (Nat×Bool)×Bool×List V×List (Option E)
def p5:nU:=(False,[],[],false,[],[])
def p6:nU:=(True,[],[],true,[],[])
def p7(s:S)(b:List Nat)(c:List (Nat×V))(a:List (Nat×Option E))(r:cg×List cR):nU:=
 (tk r.2,qS r.2,r.1.us,o2 b r.1.dW&&o2 (r0 a) r.1.hs,pQ (r.1.app s) c,pL (r.1.app s) a)
def p8(a:Prop)(b:List (Nat×V))(c:List (Nat×Option E))(d:List (Nat×Bool))(r:cg×List cR):nU:=
 (a,qT r.2,d,true,iz b,iz c)
def kf(x:Option (cg×List cR))(n:nU)(f:cg×List cR->nU):nU:=match x with
 |some r=>f r
 |none=>n
theorem Gt{x:Option (cg×List cR)}{L:List Nat}{a:List (Nat×V)}{P:Prop}(i:P)
  (h:kf x p5 (p7 s L a b)=kf x p6 (p8 P a b d)): ∃e c,x=some (e,c)/\bS c/\(e.app s).le K (s.cl L a b d):=by
 cases x with
 |none=>simp[kf,p5,p6] at h
 |some r=>
  obtain⟨e,c⟩:=r;simp only[kf,p7,p8,Prod.mk.injEq,Bool.and_eq_true] at h;obtain⟨k,l,m,⟨n,o⟩,p,q⟩:=h;exact⟨e,c,rfl,bS.of (k▸i) l,Tx m n o p q⟩
def tmps:List Operand->List Nat
 | []=>[]
 | .tmp t::a=>t::tmps a
 |_::a=>tmps a
def Gp(a:Array Oper)(o:Oper):List Nat:=match o.guard with
 |none=>[]
 |some (j,_)=>match (a[j]?).bind (·.dst) with
  |some t=>[t]
  |none=>[]
def u7(o:Oper)(a:List bV):List bV:=match o.guard with
 |none=>a
 |some _=>a.tail
def uZ(a:Array Oper)(o:Oper)(b:List bV)(s:S):fc:=⟨Gp a o++tmps o.op.operands.toList,qv o (o.op.operands.toList.map s.get) (u7 o b)⟩
theorem yL{s a:S}: ∀{b:List Operand},(∀i,i∈tmps b->s.t i=a.t i)->b.map s.get=b.map a.get
 | [],_=>rfl
 | .tmp t::b,h=>by
  simp only[List.map_cons,List.cons.injEq];exact⟨h t ep,yL λi c=>h i (dU _ c)⟩
 | .const _::b,h| .global _::b,h| .func _::b,h=>by simp only[List.map_cons,List.cons.injEq];exact⟨rfl,yL h⟩
theorem Nd{H a:Nat->Option E}(h: ∀k,k∈r->H k=a k):pV r H=pV r a:=by
 funext k;unfold pV;cases b:gn k r with
 |true=>exact h k (x8 b)
 |false=>rfl
theorem Nb{u a:Nat->Bool}(h: ∀k,k∈r->u k=a k):pU r u=pU r a:=by
 funext k;unfold pU;cases b:gn k r with
 |true=>exact h k (x8 b)
 |false=>rfl
theorem QO{b:S}{a:List V}{hs:List bV}(h: ∀k,k∈qv o a hs->s.H k=b.H k/\s.u k=b.u k):mQ C o a s hs=mQ C o a b hs:=by unfold mQ;rw[Nd λk c=>(h k c).1,Nb λk c=>(h k c).2]
theorem QJ{b:Array Oper}{n:List bV}(h:(uZ b o n s).same a s):ov C b o n a=ov C b o n s:=by
 obtain⟨m,v⟩:=h;have w:o.op.operands.toList.map a.get=o.op.operands.toList.map s.get:=yL λi y=>m i (ff.2 (.inr y));have q: ∀c,(∀k,k∈qv o (o.op.operands.toList.map s.get) c->k∈qv o (o.op.operands.toList.map s.get) (u7 o n))->mQ C o (o.op.operands.toList.map s.get) a c=mQ C o (o.op.operands.toList.map s.get) s c:=λc z=>
  QO λk d=>v k (z k d)
 unfold ov;rw[w];cases e:o.guard with
 |none=>exact q n (λk d=>by simp only[u7,e];exact d)
 |some p=>
  obtain⟨j,r⟩:=p;have l:ql b j a=ql b j s:=by
   unfold ql;cases A:(b[j]?).bind (·.dst) with
   |none=>rfl
   |some t=>
    have:=m t (ff.2 (.inl (by unfold Gp;rw[e];simp only[A];exact rj.2 rfl)));simp only[this]
  simp only[l];cases n with
  |nil=>rfl
  |cons x n=>
   have:=q n λk d=>by simp only[u7,e,List.tail];exact d
   cases x<;>first|rfl|(dsimp only;rw[this])
def kZ(C:dc)(a:Nat):List bV->S->Option (cg×List cR×List bV×fc)
 | .at m::hs,s=>match Nat.beq m a with
  |true=>kZ C a hs s
  |false=>some (.nil,[],.at m::hs,⟨[],[]⟩)
 | .oC is k::hs,s=>match gZ C (.oC is k) s with
  |some (some (e,d))=>match kZ C a hs (e.app s) with
   |some (h,b,c,di)=>some (e.cat h,d++b,c,⟨is++di.dW,k::di.lj⟩)
   |none=>none
  |_=>none
 | .cb k is i::hs,s=>match gZ C (.cb k is i) s with
  |some (some (e,d))=>match kZ C a hs (e.app s) with
   |some (h,b,c,di)=>some (e.cat h,d++b,c,⟨is++di.dW,k::(i++di.lj)⟩)
   |none=>none
  |_=>none
 | .fW k::hs,s=>match gZ C (.fW k) s with
  |some (some (e,d))=>match kZ C a hs (e.app s) with
   |some (h,b,c,di)=>some (e.cat h,d++b,c,⟨di.dW,k::di.lj⟩)
   |none=>none
  |_=>none
 |hs,_=>some (.nil,[],hs,⟨[],[]⟩)
theorem M8{C:dc}(b:a.H k=s.H k):gZ C (.fW k) a=gZ C (.fW k) s:=by
 unfold gZ
 grind
theorem DW{k g z n:Nat}{s a:S}: ∀{is:List Nat},(∀i,i∈is->a.t i=s.t i)->og k g z n a is=og k g z n s is
 | [],_=>rfl
 |i::is,h=>by unfold og;rw[h i ep,DW λx b=>h x (dU _ b)]
theorem O3(b: ∀i,i∈r->a.t i=s.t i)(c:a.H k=s.H k):gZ C (.oC r k) a=gZ C (.oC r k) s:=by
 unfold gZ;dsimp only;rw[c];split
 ·rw[DW b]
 rfl
theorem ED{k g z n:Nat}{v:V}{s a:S}: ∀{is:List Nat},(∀i,i∈is->a.t i=s.t i)->gq k g z n v a is=gq k g z n v s is
 | [],_=>rfl
 |i::is,h=>by simp only[gq,h i List.mem_cons_self,ED λx b=>h x (List.mem_cons_of_mem _ b)]
theorem EE{k g z n:Nat}{v:V}{s a:S}: ∀{c:List Nat},(∀b,b∈c->a.H b=s.H b)->eY k g z n v a c=eY k g z n v s c
 | [],_=>rfl
 |b::c,h=>by unfold eY;rw[h b ep,EE λx d=>h x (dU _ d)]
theorem M7{L:List Nat}(c: ∀i,i∈r->a.t i=s.t i)(d:a.H k=s.H k)(e: ∀b,b∈L->a.H b=s.H b):gZ C (.cb k r L) a=gZ C (.cb k r L) s:=by
 unfold gZ;dsimp only;rw[d];split
 ·rw[ED c,EE e]
 rfl
theorem zi{k:Type}{f g:Nat->k}{r:Nat}(h:f r=g r): ∀(l:List (Nat×k)),cO f l r=cO g l r:=by
 intro l;induction l generalizing f g with
 |nil=>exact h
 |cons p l b=>
  obtain⟨d,v⟩:=p;simp only[cO];apply b;by_cases a:r=d
  ·subst a;rw[bu,bu]
  rw[bx _ _ _ _ a,bx _ _ _ _ a];exact h
theorem vS{r:fc}(e:cg)(h:r.same a s):r.same (e.app a) (e.app s):=
 ⟨λi c=>zi (h.1 i c) _,λk b=>⟨zi (h.2 k b).1 _,zi (h.2 k b).2 _⟩⟩
theorem ru(w:C.Fits K){n:Nat}: ∀{z:List bV} {s:S} {e:cg} {d:List cR} {a:List bV} {di:fc},kZ C n z s=some (e,d,a,di)->bS d-> ∀c,di.same c s->c.le K (e.app c)
 | .at m::z,s,e,d,a,di,h,o,c,l=>by
  unfold kZ at h;split at h
  ·exact ru w h o c l
  cases h;exact S.le.refl _ _
 | .oC is k::z,s,e,d,a,di,h,o,c,l=>by
  unfold kZ at h;split at h
  ·rename_i p r A;split at h
   ·rename_i R B D F G;cases h;obtain⟨H,L⟩:=bS.app o;have q:gZ C (.oC is k) c=some (some (p,r)):=(O3 (λi x=>l.1 i (lv _ x)) (l.2 k ep).1).trans A;rw[kC];exact(uu w q H).trans (ru w G L (p.app c) (vS p ⟨λi x=>l.1 i (nJ _ x),λk Q=>l.2 k (dU _ Q)⟩))
   cases h
  cases h
 | .cb k is W::z,s,e,d,a,di,h,o,c,l=>by
  unfold kZ at h;split at h
  ·rename_i p r A;split at h
   ·rename_i R B D F G;cases h;obtain⟨H,L⟩:=bS.app o;have q:gZ C (.cb k is W) c=some (some (p,r)):=(M7 (λi x=>l.1 i (lv _ x)) (l.2 k ep).1 λb X=>(l.2 b (dU _ (lv _ X))).1).trans A;rw[kC];exact(uu w q H).trans (ru w G L (p.app c) (vS p ⟨λi x=>l.1 i (nJ _ x),λk Q=>l.2 k (dU _ (nJ _ Q))⟩))
   cases h
  cases h
 | .fW k::z,s,e,d,a,di,h,o,c,l=>by
  unfold kZ at h;split at h
  ·rename_i p r A;split at h
   ·rename_i R B D F G;cases h;obtain⟨H,L⟩:=bS.app o;have q:gZ C (.fW k) c=some (some (p,r)):=(M8 (l.2 k ep).1).trans A;rw[kC];exact(uu w q H).trans (ru w G L (p.app c) (vS p ⟨l.1,λk Q=>l.2 k (dU _ Q)⟩))
   cases h
  cases h
 | [],s,e,d,a,di,h,_,c,_=>by cases h;exact S.le.refl _ _
 | .cQ _ _ _::_,s,e,d,a,di,h,_,c,_| .dX _ _ _ _ _::_,s,e,d,a,di,h,_,c,_| .cS _ _ _ _::_,s,e,d,a,di,h,_,c,_| .lt _ _ _::_,s,e,d,a,di,h,_,c,_| .fm _ _ _ _::_,s,e,d,a,di,h,_,c,_| .fr _ _ _::_,s,e,d,a,di,h,_,c,_| .G2 _ _ _ _::_,s,e,d,a,di,h,_,c,_| .cut _ _ _::_,s,e,d,a,di,h,_,c,_
 | .row _::_,s,e,d,a,di,h,_,c,_| .rows _::_,s,e,d,a,di,h,_,c,_| .str _::_,s,e,d,a,di,h,_,c,_| .int _::_,s,e,d,a,di,h,_,c,_| .nat _::_,s,e,d,a,di,h,_,c,_
 | .b _::_,s,e,d,a,di,h,_,c,_| .y _::_,s,e,d,a,di,h,_,c,_| .v _::_,s,e,d,a,di,h,_,c,_| .ee _ _::_,s,e,d,a,di,h,_,c,_| .grow _ _ _::_,s,e,d,a,di,h,_,c,_
 | .BN _::_,s,e,d,a,di,h,_,c,_| .G1 _ _ _::_,s,e,d,a,di,h,_,c,_| .dC _ _ _ _::_,s,e,d,a,di,h,_,c,_| .WW _ _ _::_,s,e,d,a,di,h,_,c,_| .WV _ _ _ _::_,s,e,d,a,di,h,_,c,_
 | .len _ _::_,s,e,d,a,di,h,_,c,_| .gV _ _ _::_,s,e,d,a,di,h,_,c,_| .sg _ _::_,s,e,d,a,di,h,_,c,_| .bX _ _ _ _::_,s,e,d,a,di,h,_,c,_| .c7 _ _ _::_,s,e,d,a,di,h,_,c,_| .ec _ _ _ _::_,s,e,d,a,di,h,_,c,_=>by cases h;exact S.le.refl _ _
theorem gf.pre{ops:Array Oper}{b c:S}(i:s.le K b)(h:gf K ops o b c):gf K ops o s c:=by
 intro k a w next Q l m
 obtain⟨d,e⟩:=i k a w l;exact h d a w next Q e m
def sb(C:dc)(a:Array Oper):List Oper->List bV->S->Option (List (cg×fc)×List cR)
 | [],d,_=>match d with
  | []=>some ([],[])
  |_=>none
 |o::l,d,s=>match kZ C (l.length+1) d s with
  |none=>none
  |some (c,h,b,di)=>match ov C a o b (c.app s) with
   |none=>none
   |some (e,m,i)=>match sb C a l i (e.app (c.app s)) with
    |none=>none
    |some (n,k)=>some ((c.cat e,⟨di.dW++(uZ a o b (c.app s)).dW,di.lj++(uZ a o b (c.app s)).lj⟩)::n,h++(m++k))
def vl:List (cg×fc)->cg
 | []=> .nil
 |(e,_)::a=>e.cat (vl a)
theorem zO(p:C.Fits K){b:Array Oper}{Q:S->Prop}: ∀{l:List Oper} {q:List bV} {s:S} {c:List (cg×fc)} {d:List cR},sb C b l q s=some (c,d)->bS d->Q ((vl c).app s)->rC K b l c s Q
 | [],q,s,c,d,h,_,m=>by
  simp only[sb] at h;split at h
  ·cases h;exact m
  cases h
 |o::l,q,s,c,d,h,r,m=>by
  simp only[sb] at h;split at h
  ·cases h
  rename_i n B v di D;split at h
  ·cases h
  rename_i e F G H;split at h
  ·cases h
  rename_i L R W;cases h;obtain⟨X,w⟩:=bS.app r;obtain⟨w,f⟩:=bS.app w;simp only[vl,kC] at m;refine⟨λA a=>?_,by rw[kC];exact zO p W f m⟩;rw[kC];refine gf.pre (ru p D X A ⟨λi x=>a.1 i (lv _ x),λk y=>a.2 k (lv _ y)⟩) ?_;have z:(uZ b o v (n.app s)).same (n.app A) (n.app s):=vS n ⟨λi x=>a.1 i (nJ _ x),λk y=>a.2 k (nJ _ y)⟩;exact Gj p ((QJ z).trans H) w
def jg(C:dc)(l:List Oper)(e:List bV)(s:S):Option (cg×List cR):=
 match my C l.length e s with
 |none=>none
 |some (c,a,b)=>match sb C l.toArray l b (c.app s) with
  |none=>none
  |some (d,h)=>match kc l.toArray l.length 0 d&&o9 0 l with
   |true=>some (c.cat (vl d),a++h)
   |false=>none
theorem FR{c:Code}{s2:S}(h:b5 K c s λe i=>match e with| .normal=>i.le K s2|_=>False)(m:Q .normal s2):b5 K c s Q:=by
 intro n a w o p v;refine h n a w o p ?_;intro e i b k l q r;cases e with
 |normal=>obtain⟨d,x⟩:=q b k l r;exact v _ _ d k l m x
 |exit=>exact q.elim
 |goto=>exact q.elim
 |ret=>exact q.elim
 |panic=>exact q.elim
 |outgrown=>exact q.elim
theorem rd{l:List Oper}(o:C.Fits K)(v:K.P.follows .mixedOrders=true)(q:List bV)(d:List Nat)(b:List (Nat×V))(c:List (Nat×Option E))(k:List (Nat×Bool)){p:Prop}(m:p)
  (h:kf (jg C l q s) p5 (p7 s d b c)=kf (jg C l q s) p6 (p8 p b c k)) (w:Q .normal (s.cl d b c k)):b5 K (.region i l.toArray true) s Q:=by
 obtain⟨e,L,a,x,r⟩:=Gt (K:=K) m h;unfold jg at a;split at a
 ·cases a
 rename_i R y z A;split at a
 ·cases a
 rename_i B D F;split at a
 ·rename_i n;cases a;simp only[Bool.and_eq_true] at n;obtain⟨G,H⟩:=bS.app x;refine qC (nd o A G) (FR (s2:=s.cl d b c k) (EH B v n.1 n.2 (zO o F H ?_)) w);rw[kC] at r;exact r
 cases a
def lD:List (Nat×E)->List (Nat×Option E)
 | []=>[]
 |(k,e)::l=>(k,some e)::lD l
def mr:List Nat->List (Nat×Bool)
 | []=>[]
 |k::l=>(k,true)::mr l
def bw(a:List (Nat×V))(b:List (Nat×E))(c:List Nat):S:={t:=cO m6 a,H:=cO j9 (lD b),u:=cO e6 (mr c)}
def vc(u:Nat->Bool):List (Nat×V)->Bool
 | []=>true
 |(_,v)::l=>v.ok u&&vc u l
def vi(u:Nat->Bool):List (Nat×E)->Bool
 | []=>true
 |(k,e)::l=>u k&&(e.ok u&&vi u l)
def ve(u:Nat->Bool):List Nat->Bool
 | []=>true
 |k::l=>u k&&ve u l
theorem Fx{u:Nat->Bool}: ∀{l:List (Nat×V)},vc u l=true-> ∀i v,(i,v)∈l->v.ok u=true
 |(a,b)::l,h,i,v,hm=>by
  simp only[vc,Bool.and_eq_true] at h;rcases dz.1 hm with hm|hm
  ·cases hm;exact h.1
  exact Fx h.2 i v hm
theorem Fp{u:Nat->Bool}: ∀{l:List (Nat×E)},vi u l=true-> ∀k e,(k,some e)∈lD l->u k=true/\e.ok u=true
 |(a,b)::l,h,i,v,hm=>by
  simp only[vi,Bool.and_eq_true] at h;simp only[lD] at hm;rcases dz.1 hm with hm|hm
  ·cases hm;exact⟨h.1,h.2.1⟩
  exact Fp h.2.2 i v hm
theorem Fw{u:Nat->Bool}: ∀{l:List Nat},ve u l=true-> ∀k b,(k,b)∈mr l->u k=true
 |j5::l,h,k,b,hm=>by
  simp only[ve,Bool.and_eq_true] at h;simp only[mr] at hm;rcases dz.1 hm with hm|hm
  ·cases hm;exact h.1
  exact Fw h.2 k b hm
def vh(d:Nat)(s:S)(b:List (Nat×V))(c:List (Nat×E))(a:List Nat):List V×List (Option E)×Bool:=
 (pQ s b,pL s (lD c),vc (cO e6 (mr a)) b&&(vi (cO e6 (mr a)) c&&(ve s.u a&&j4 d (cO e6 (mr a)))))
theorem H6{a:List (Nat×V)}{b:List (Nat×E)}(h:vh K.cE s a b r=(iz a,iz (lD b),true)):s.le K (bw a b r):=by
 simp only[vh,Prod.mk.injEq,Bool.and_eq_true] at h;obtain⟨l,m,n,o,p,q⟩:=h;refine RQ (s':=bw a b r) ?_ ?_ ?_ q
 ·intro i;show cO m6 a i= .ct\/(cX _ (cO m6 a i)/\(cO m6 a i).ok _=true)
  rcases jR a m6 i with ⟨ay,a2⟩|⟨v,ay,a2⟩
  ·exact .inl a2
  rw[a2];exact .inr ⟨yK l i v ay,Fx n i v ay⟩
 ·intro k e c;have c:cO j9 (lD b) k=some e:=c;rcases jR (lD b) j9 k with ⟨ay,a2⟩|⟨v,ay,a2⟩
  ·rw[a2] at c;cases c
  rw[a2] at c;subst c;obtain⟨w,x⟩:=Fp o k e ay;exact⟨yZ m k e ay,w,x⟩
 intro k d;have d:cO e6 (mr r) k=true:=d;rcases jR (mr r) e6 k with ⟨ay,a2⟩|⟨v,ay,a2⟩
 ·rw[a2] at d;cases d
 exact Fw p k v ay
theorem Rs{ι:Type}{x y:Code}(I:ι->S)(p:ι->Prop)(a:b5 K x s (mG (λb=> ∃i,p i/\b.le K (I i)) Q))(c: ∀i,p i->b5 K y (I i) Q):b5 K (.seq x y) s Q:=by
 refine uj (tE a λe k q=>?_);cases e with
 |normal=>obtain⟨i,d,h⟩:=q;exact qC h (c i d)
 |exit=>exact q
 |goto=>exact q
 |ret=>exact q
 |panic=>exact q
 |outgrown=>exact q
theorem TU{r:V}(h:i' r v=r):cX v r:=h▸y7 r v
def pw(s:S):List E->Nat->List (Option E)
 | [],_=>[]
 |e::l,k=>vj (some e) (s.H k)::pw s l (k+1)
def rp:List E->List (Option E)
 | []=>[]
 |e::l=>some e::rp l
def pT(u:Nat->Bool):List E->Bool
 | []=>true
 |e::l=>e.ok u&&pT u l
theorem Ed{s:S}: ∀{l:List E} {k:Nat},pw s l k=rp l-> ∀i e,l[i]? =some e-> ∃a,s.H (k+i)=some a/\hF a e
 |a::l,k,h,0,e,b=>by
  simp only[pw,rp,List.cons.injEq] at h;simp at b;subst b;exact Fu h.1
 |a::l,k,h,i+1,e,b=>by
  simp only[pw,rp,List.cons.injEq] at h
  have:=Ed h.2 i e (by simpa using b)
  rwa [show k+1+i=k+(i+1) by omega] at this
theorem En{u:Nat->Bool}: ∀{l:List E},pT u l=true-> ∀(i:Nat) e,l[i]? =some e->e.ok u=true
 |b::l,h,0,e,a=>by simp only[pT,Bool.and_eq_true] at h;simp at a;subst a;exact h.1
 |b::l,h,i+1,e,a=>by simp only[pT,Bool.and_eq_true] at h;exact En h.2 i e (by simpa using a)
end
end
def ba{k R:Type}(a:(k->Option R)->k->Option R):Nat->k->Option R
 |0,_=>none
 |m+1,x=>a (ba a m) x
def aY{k R:Type}(j:k->Option R)(t:(k->Option R)->Option R):Option R:=t j
variable {k R γ:Type}{a:Array Value}{r l:List k}{o A B:Option R}{f:FuncId}{c:Code}{b:ResultVar}{s:S}{Q:Exit->S->Prop}{x y ph:k}{d:Func}{i:Int}{p:Prop}{q:List T}{W:Map}{w:World}{v:V}{u z:Value}{args:List V}
theorem od{a:k->Option R}{t:(k->Option R)->Option R}{r:R}(h:aY a t=some r): ∃j,j=a/\t j=some r:=⟨a,rfl,h⟩
theorem cV{o:Option k}{f:k->Option R}{r:R}(h:o.bind f=some r): ∃x,o=some x/\f x=some r:=by
 cases o with
 |none=>cases h
 |some x=>exact⟨x,rfl,h⟩
theorem As{c:Bool}{r:R}(a:c=true)(h:(bif c then A else B)=some r):A=some r:=by subst a;exact h
theorem Ar{c:Bool}{r:R}(a:c=false)(h:(bif c then A else B)=some r):B=some r:=by subst a;exact h
theorem ao{a b:R}(h:some a=some b):a=b:=Option.some.inj h
section
variable {K:Ctx}{C:dc}
theorem zD{a:(k->Option R)->k->Option R}{n:Nat}{b:k}{r:R}(h:ba a n b=some r)(I:k->γ->S)(o:γ)(w:s.le K (I b o))
  (i: ∀(d:k->Option R) (x:k) (g:γ),a d x=some r->b5 K c (I x g) (va (λp=> ∃y l,d y=some r/\p.le K (I y l)) Q)):b5 K (.loop c) s Q:=by
 refine PN (ι:=(Nat×k)×γ) (λy=>I y.1.2 y.2) (λy=>ba a y.1.1 y.1.2=some r) (λy=>y.1.1) ((n,b),o) h w ?_;rintro⟨⟨m,x⟩,g⟩ v;cases m with
 |zero=>cases v
 |succ m=>
  refine tE (i (ba a m) x g v) λe p q=>?_;cases e with
  |normal=>obtain⟨y,l,z,A⟩:=q;exact⟨((m,y),l),z,ly m,A⟩
  |exit=>exact q
  |goto=>exact q
  |ret=>exact q
  |panic=>exact q
  |outgrown=>exact q
theorem nu{j:k->Option R}{r:R}{x y:Code}(I:k->γ->S)
  (a:b5 K x s (mG (λc=> ∃z g,j z=some r/\c.le K (I z g)) Q)) (b: ∀z g,j z=some r->b5 K y (I z g) Q):b5 K (.seq x y) s Q:=
 Rs (ι:=k×γ) (λi=>I i.1 i.2) (λi=>j i.1=some r) (tE a (λe h q=>by
  cases e with
  |normal=>obtain⟨z,g,a,b⟩:=q;exact⟨(z,g),a,b⟩
  |exit=>exact q
  |goto=>exact q
  |ret=>exact q
  |panic=>exact q
  |outgrown=>exact q)) λi d=>b i.1 i.2 d
theorem TQ{P:Program}{G:ef}{a:List (Nat×bM)}(c:dm P a)(b:Nat)(w:World)(X:Nat->Prop):dc.Fits ⟨P,G,a,b,0,d7⟩ (Ctx.pure P G w X b):=⟨c,rfl,rfl,rfl,rfl,rfl⟩
theorem TP{P:Program}{G:ef}{a:List (Nat×bM)}(e:dm P a)(c d:Nat)(w:World)(X:Nat->Prop)(b:Map):dc.Fits ⟨P,G,a,c,d,b⟩ (Ctx.ec P G w X d b c):=⟨e,rfl,rfl,rfl,rfl,rfl⟩
theorem E1{P:Program}(a:P.funcs[f]? =some d)(b:(d.name== "runtime.NumGoroutine")=false)(e:d.body=some c):hP P f:=⟨d,a,b,by rw[e];rfl⟩
variable {P:Program}{G:ef}{bQ:List (Nat×bM)}
end
abbrev U:Int->List T:=hU
abbrev aK{k:Type}(r:k->List T)(l:List k):List T:=[T.aa (l.map r)]
abbrev ax{k:Type}(r:k->List T)(l:List k):V:= .t (.aa (l.map r))
abbrev aW{k:Type}(e g a:Nat)(r:k->List T)(l:List k):E:= .arr e g a (l.map r)
abbrev ms{R:Type}(k g a:Nat)(r:R->List T)(l:List R):V:= .aN k g a 0 (l.map r).length
theorem GO(r:k->List T)(l:List k):(l.map r).length=l.length:=dL ..
theorem iv(k:Nat){r:R->List T}(h: ∀x,(r x).length=k)(l:List R):Rows k (l.map r):=Rows.map l h
theorem bY(f:k->List T)(h:aH l i=some x):(l.map f)[0+i.toNat]? =some (f x):=by rw[dn,dT,(o3 h).2];rfl
theorem cq(f:k->List T)(h:aH l i=some x):0<=i/\i<((l.map f).length:Int):=by
 obtain⟨a,b⟩:=o3 h
 grind
theorem str(f:k->List T)(h:dh l i x=some r):r.map f=(l.map f).set (0+i.toNat) (f x):=by obtain⟨_,_,rfl⟩:=tp h;rw[dn,List.map_set]
theorem dZ(f:k->List T){y:List T}(h:aH l i=some x)(e:f x=y):(l.map f)[0+i.toNat]? =some y:=e▸bY f h
theorem eA{q:Prop}(h:p)(k:q):p/\q:=⟨h,k⟩
def BN(b:Int):Option Unit:=if b=0 then none else some ()
theorem fi(f:k->R){y:R}(h:aH l i=some x)(e:f x=y):aH (l.map f) i=some y:=e▸FZ f h
theorem O7{a:Int}(f:k->R)(h:sub l a (l.length:Int)=some r):sub (l.map f) a ((l.map f).length:Int)=some (r.map f):=by rw[dL];exact zl f h
def eZ(C:dc)(a:List bV)(s:S):Option (cg×List cR):=match my C 0 a s with
 |some (e,b,[])=>some (e,b)
 |_=>none
theorem Ww{K:Ctx}{C:dc}(l:C.Fits K)(d:List bV)(i:List Nat)(b:List (Nat×V))(c:List (Nat×Option E))(k:List (Nat×Bool))
  (h:kf (eZ C d s) p5 (p7 s i b c)=kf (eZ C d s) p6 (p8 True b c k)):s.le K (s.cl i b c k):=by
 obtain⟨e,p,a,m,n⟩:=Gt (K:=K) trivial h;unfold eZ at a;split at a
 ·rename_i o;cases a;exact(nd l o m).trans n
 cases a
def gH(b:List (Nat×bM))(s:S):List ResultVar->Option (List V)
 | []=>some []
 | .tmp t::c=>match gH b s c with
  |some d=>some (s.t t::d)
  |none=>none
 | .cell a t::c=>match pC b s.H t (s.t a) [],gH b s c with
  |some (v,[],[]),some d=>some (v::d)
  |_,_=>none
def lE:List V->V
 | [v]=>v
 |vs=> .bG vs
def iT(b:Array Value)(r:ResultVar):Sem Value:=match r with
 | .tmp t=>pure (b.getD t undef)
 | .cell a t=>do loadVar t (<-asAddr (b.getD a undef))
theorem wM(c:Func)(a:Array Value):Go.results c a=(do let b<-c.results.mapM (iT a);pure (if h:b.size=1 then b[0] else .tuple b)):=rfl
theorem QQ{P:Program}{c:List (Nat×bM)}(r:dm P c){K:Ctx}{a:Act}(m:Rel K W s a w){x:Nat}{t:TypeId}(h:pC c s.H t (s.t x) []=some (v,[],[])):
  ∃u,(iT a.tmps (.cell x t)).run P w= .ok u w/\aS W w (own K W s.H) v u:=by
 have y:=D0 (d:=none) (ty:=0) (pos:= "") (af:= #[]) (g:=none) (x:= .tmp x) r h trivial
 obtain⟨u,i,z⟩:=y W w (own K W s.H) a.eval (λid e A=>(m.heap id e A).2) ⟨m.cu x,trivial⟩;refine⟨u,?_,z⟩;have bF:=m.cu x;have n: ∃l,a.tmps.getD x undef= .pointer (some l):=by
  generalize a.tmps.getD x undef=q at bF;unfold pC at h;split at h
  ·cases h
  split at h
  ·rename_i o;rw[o] at bF;cases bF with|ref _ _ b _=>exact⟨_,rfl⟩
  ·rename_i o;rw[o] at bF;cases bF with|aP _ b B f _ _ _ _=>exact⟨_,rfl⟩
  ·split at h
   ·split at h<;>cases h
   ·split at h<;>cases h
   cases h
  cases h
 obtain⟨l,k⟩:=n;have D:a.eval (.tmp x)= .pointer (some l):=k;simp only[execOp,Instr.loadAt,D,Instr.sureAddr,Sem.run_bind,Sem.run_pure,Result.andThen_ok] at i;simp only[iT,k,asAddr,Sem.run_bind,Sem.run_pure,Result.andThen_ok];cases p:(loadVar t l).run P w with
 |ok F L=>rw[p] at i;simp at i;obtain⟨rfl,rfl⟩:=i;rfl
 |_=>rw[p] at i;cases i
theorem zx{P:Program}{c:List (Nat×bM)}(m:dm P c){K:Ctx}{W:Map}{s:S}{a:Act}{w:World}(l:Rel K W s a w): ∀{e:List ResultVar} {k:List V},gH c s e=some k->
  k.length=e.length/\ ∀(i:Nat) r v,e[i]? =some r->k[i]? =some v-> ∃u,(iT a.tmps r).run P w= .ok u w/\aS W w (own K W s.H) v u
 | [],_,h=>by cases h;exact⟨rfl,λi r v h=>by simp at h⟩
 | .tmp t::e,k,h=>by
  simp only[gH] at h;split at h
  ·rename_i n o;cases h;obtain⟨ay,a2⟩:=zx m l o;refine⟨by simp[ay],λi r v b d=>?_⟩;cases i with
   |zero=>simp at b d;subst b;subst d;exact⟨_,rfl,l.cu t⟩
   |succ i=>simp at b d;exact a2 i r v b d
  cases h
 | .cell x t::e,k,h=>by
  simp only[gH] at h;split at h
  ·rename_i q n p o;cases h;obtain⟨ay,a2⟩:=zx m l o;refine⟨by simp[ay],λi r v b d=>?_⟩;cases i with
   |zero=>simp at b d;subst b;subst d;exact QQ m l p
   |succ i=>simp at b d;exact a2 i r v b d
  cases h
theorem Qi{P:Program}{r:ResultVar}(h:d.results= #[r])(b:(iT a r).run P w= .ok u w):(Go.results d a).run P w= .ok u w:=by rw[wM,h];simp[b]
theorem Qh{P:Program}{r:ResultVar}{v:Value}(h:d.results= #[r,b])(c:(iT a r).run P w= .ok u w)(e:(iT a b).run P w= .ok v w):(Go.results d a).run P w= .ok (.tuple #[u,v]) w:=by rw[wM,h];simp[c,e]
theorem Qg{P:Program}{r c:ResultVar}{v:Value}(h:d.results= #[r,c,b])(e:(iT a r).run P w= .ok u w)(i:(iT a c).run P w= .ok z w)(k:(iT a b).run P w= .ok v w):
  (Go.results d a).run P w= .ok (.tuple #[u,z,v]) w:=by rw[wM,h];simp[e,i,k]
theorem Qf{P:Program}{r c e:ResultVar}{v x:Value}(h:d.results= #[r,c,b,e])(i:(iT a r).run P w= .ok u w)(k:(iT a c).run P w= .ok z w)(l:(iT a b).run P w= .ok v w)(m:(iT a e).run P w= .ok x w):
  (Go.results d a).run P w= .ok (.tuple #[u,z,v,x]) w:=by rw[wM,h];simp[i,k,l,m]
theorem C9{P:Program}{e:List (Nat×bM)}(R:dm P e){K:Ctx}{a:Act}(X:Rel K W s a w){b:List ResultVar}(p:d.results.toList=b){k:List V}(h:gH e s b=some k)(f:Nat.ble b.length 4=true):
  ∃u,(Go.results d a.tmps).run P w= .ok u w/\aS W w (own K W s.H) (lE k) u:=by
 obtain⟨g,o⟩:=zx R X h;have p:d.results=b.toArray:=by rw[<-p]
 match b,k,g,o,f with
 | [],[],_,_,_=>exact⟨_,results_none p _ _ _,.bG [] #[] rfl λi c u h _=>by simp at h⟩
 | [r],[v],_,o,_=>
  obtain⟨u,ay,a2⟩:=o 0 r v rfl rfl;exact⟨u,Qi p ay,a2⟩
 | [r,y],[v,z],_,o,_=>
  obtain⟨u,ay,a2⟩:=o 0 r v rfl rfl;obtain⟨Q,A,B⟩:=o 1 y z rfl rfl;refine⟨_,Qh p ay A,.bG _ _ rfl λi c u l m=>?_⟩
  match i with
  |0=>simp at l m;subst l;subst m;exact a2
  |1=>simp at l m;subst l;subst m;exact B
  |n+2=>simp at l
 | [r,y,q],[v,z,x],_,o,_=>
  obtain⟨u,ay,a2⟩:=o 0 r v rfl rfl;obtain⟨Q,A,B⟩:=o 1 y z rfl rfl;obtain⟨D,F,L⟩:=o 2 q x rfl rfl;refine⟨_,Qg p ay A F,.bG _ _ rfl λi c u l m=>?_⟩
  match i with
  |0=>simp at l m;subst l;subst m;exact a2
  |1=>simp at l m;subst l;subst m;exact B
  |2=>simp at l m;subst l;subst m;exact L
  |n+3=>simp at l
 | [r,y,q,j],[v,z,x,t],_,o,_=>
  obtain⟨u,ay,a2⟩:=o 0 r v rfl rfl;obtain⟨Q,A,B⟩:=o 1 y z rfl rfl;obtain⟨D,F,L⟩:=o 2 q x rfl rfl;obtain⟨M,E,I⟩:=o 3 j t rfl rfl;refine⟨_,Qf p ay A F E,.bG _ _ rfl λi c u l m=>?_⟩
  match i with
  |0=>simp at l m;subst l;subst m;exact a2
  |1=>simp at l m;subst l;subst m;exact B
  |2=>simp at l m;subst l;subst m;exact L
  |3=>simp at l m;subst l;subst m;exact I
  |n+4=>simp at l
def GM(b:List (Nat×bM))(c:List ResultVar)(r:V):Exit->S->Prop
 | .normal,s| .ret,s=> ∃a,gH b s c=some a/\cX (lE a) r
 |_,_=>False
def GL(c:List (Nat×bM))(d:List ResultVar)(r:V)(a:List E):Exit->S->Prop
 | .normal,s| .ret,s=> ∃b,gH c s d=some b/\cX (lE b) r/\r.ok (eg a.length)=true/\iZ s.H (eg a.length) (dy a 0)
 |_,_=>False
section
variable {P:Program}{G:ef}{bQ:List (Nat×bM)}
theorem Ih{r:V}{i:Nat}{a:List ResultVar}(z:dm P bQ)(A:P.funcs[f]? =some d)(D:(d.name== "runtime.NumGoroutine")=false)(q:d.body=some c)(F:d.results.toList=a)(s:d.ntmps=i)
  (m:Nat.ble args.length i=true) (H:r.ok e6=true) (v:Nat.ble a.length 4=true)
  (h: ∀w X,dc.Fits ⟨P,G,bQ,i,0,d7⟩ (Ctx.pure P G w X i)->b5 (Ctx.pure P G w X i) c (start args) (GM bQ a r)):hJ P G f args r:=by
 subst s;refine⟨E1 A D q,?_⟩;intro w X L Q R B;have o:L.length<=d.ntmps:=by rw[B.length];exact eb m
 refine calls_of_wp A q (h w X (TQ z _ w X) d7 _ w _ (Rel.start Q R B o) ?_);intro e W g j w' n k;have p:(∃x,gH bQ W a=some x/\cX (lE x) r)->bodyPost P d (λe w'=> ∃u,e= .returned u/\Ext (λ_=>False) w w'/\aS d7 w' X r u) .ret j w':=by
  rintro⟨x,y,m⟩;obtain⟨u,t,bF⟩:=C9 z k F y v;have bF:=m _ _ _ _ bF;refine⟨k.defers,u,t,u,rfl,?_,?_⟩
  ·exact k.ext.weaken λb _ ⟨id,h,_⟩=>by simp[Ctx.pure] at h
  exact bF.under (u:=e6) (λb q=> .inl q) (λ_ h=>by simp[e6] at h) H
 cases e with
 |normal=>exact p n
 |ret=>exact p n
 |exit id=>exact n.elim
 |goto l=>exact n.elim
 |panic c=>exact n.elim
 |outgrown=>exact n.elim
def pB(a:Map):List E->Nat->Prop
 | [],_=>True
 | .arr _ g _ _::b,k=>(∃q,a k=some (q,g))/\pB a b (k+1)
 | .av _ _ g _ _::b,k=>(∃q,a k=some (q,g))/\pB a b (k+1)
 | .cells _::b,k=>True/\pB a b (k+1)
theorem DV{W:Map}: ∀(a:List E) (k:Nat),(∀(i:Nat) e g,a[i]? =some e->e.gen=some g-> ∃q,W (k+i)=some (q,g))->pB W a k
 | [],_,_=>trivial
 |e::a,k,h=>by
  have bH:=DV a (k+1) (λi e g b c=>by
   have:=h (i+1) e g (by simpa using b) c
   rwa [show k+(i+1)=k+1+i by omega] at this)
  cases e with
  |cells=>exact⟨trivial,bH⟩
  |arr _ g _ _=>exact⟨h 0 _ g rfl rfl,bH⟩
  |av _ _ g _ _=>exact⟨h 0 _ g rfl rfl,bH⟩
theorem Xg{o:Func}{a out:List E}{r:V}{v x:Nat}{L:List ResultVar}(iI:dm P bQ)(gj:P.funcs[f]? =some o)(cn:(o.name== "runtime.NumGoroutine")=false)(aQ:o.body=some c)(bH:o.results.toList=L)(Q:o.ntmps=v)(R:a.length=x)
  (y:Nat.ble args.length v=true) (z:Nat.ble x out.length=true) (W:Nat.ble L.length 4=true)
  (h: ∀w X d,dc.Fits ⟨P,G,bQ,v,x,d⟩ (Ctx.ec P G w X x d v)->pB d a 0->b5 (Ctx.ec P G w X x d v) c (kQ a args) (GL bQ L r out)):gO P G f a args r out:=by
 subst Q;subst R;refine⟨E1 gj cn aQ,?_⟩;intro w X d us iH e8 aD fE;have A:us.length<=o.ntmps:=by rw[fE.length];exact eb y
 refine calls_of_wp gj aQ (h w X d (TP iI _ _ w X d) (DV a 0 (λk e g j bE=>by
  rw[dn];exact(me (aD.heap k _ j) bE).2)) d _ w _ (Rel.kQ iH e8 aD fE A) ?_)
 intro e I B pH w' q m;have D:(∃M,gH bQ I L=some M/\cX (lE M) r/\r.ok (eg out.length)=true/\iZ I.H (eg out.length) (dy out 0))->
   bodyPost P o (λe w'=> ∃u,∃i:Unit,∃β,e= .returned u/\True/\Left d β a out w w' X r u) .ret pH w':=by
  rintro⟨M,N,T,U,hH⟩;obtain⟨u,hu,bF⟩:=C9 iI m bH N W;have bF:=T _ _ _ _ bF;have hm:a.length<=out.length:=eb z;let p:S:={t:=m6,H:=dy out 0,u:=eg out.length}
  have F:j4 a.length p.u=true:=by
   have: ∀n,n<=a.length->j4 n p.u=true:=by
    intro n;induction n with
    |zero=>intro _;rfl
    |succ n l5=>intro cn;simp[j4,l5 O,show p.u n=true from gP.2 O]
   exact this _ (cL _)
  have bl:=m.cut (s':=p) (lK.nil _ _) hH F;have dG:=Cm (K:=Ctx.ec P G w X a.length d o.ntmps) (β:=B) (s:=I) (s':=p) hH;refine⟨m.defers,u,hu,u,(),cut B p.u,rfl,trivial,?_⟩;refine⟨m.ext.weaken λb _ ⟨id,_,h⟩=>⟨id,h⟩,bl.base,bl.gI,?_,?_,bl.inj,bl.fresh,?_,bF.under dG (λ_ h=>rQ h) U⟩
  ·intro k j;apply bl.cW;cases Y:p.u k with
   |false=>rfl
   |true=>have:=gP.1 Y;omega
  ·intro k b j;apply bl.du;cases Y:p.u k with
   |false=>rfl
   |true=>have:=gP.1 Y;omega
  intro k e he;exact(bl.heap k e (by rw[<-qF] at he;exact he)).2
 cases e with
 |normal=>exact D q
 |ret=>exact D q
 |exit id=>exact q.elim
 |goto l=>exact q.elim
 |panic c=>exact q.elim
 |outgrown=>exact q.elim
def rY(r:V):Option (List V)->Option V
 |some a=>some (i' r (lE a))
 |none=>none
theorem GQ{a:List ResultVar}{r:V}(h:rY r (gH bQ s a)=some r): ∃b,gH bQ s a=some b/\cX (lE b) r:=by
 cases c:gH bQ s a with
 |none=>rw[c] at h;cases h
 |some b=>rw[c] at h;simp only[rY,Option.some.injEq] at h;exact⟨b,rfl,TU h⟩
theorem Tw{b:List ResultVar}{r:V}{a:List E}(h:(rY r (gH bQ s b),pw s a 0,r.ok (eg a.length)&&pT (eg a.length) a)=(some r,rp a,true)):
  ∃c,gH bQ s b=some c/\cX (lE c) r/\r.ok (eg a.length)=true/\iZ s.H (eg a.length) (dy a 0):=by
 simp only[Prod.mk.injEq,Bool.and_eq_true] at h;obtain⟨i,l,m,n⟩:=h;obtain⟨c,ay,a2⟩:=GQ i;refine⟨c,ay,a2,m,λk e d=>?_⟩;rw[qF] at d
 have:=Ed l k e d;rw[dn] at this;exact⟨this,gP.2 (bt.1 d).1,En n k e d⟩
end
theorem jO(f:k->List T)(ph:k)(h:app l [y]=some r):app (List.map f l) [f ph]=some (List.map f (l++[ph])):=by
 obtain⟨a,_⟩:=q4 h;unfold app
 grind
theorem fH(f:k->List T)(l:List k)(ph:k):(List.map f (l++[ph]))[(List.map f l).length+0]? =some (f ph):=by grind
theorem k0(f:k->List T)(l:List k){r:List T}(e:r=f y):(List.map f (l++[ph])).set ((List.map f l).length+0) r=List.map f (l++[y]):=by grind
theorem ke(f:k->List T){x:List k}{r:List T}(h:app l [y]=some x)(e:r=f y):(List.map f (l++[ph])).set ((List.map f l).length+0) r=List.map f x:=by
 obtain⟨_,rfl⟩:=q4 h
 grind
theorem jM(f:k->List T){x:List k}(a:k)(h:app l [y]=some x):(List.map f (l++[a])).length=(List.map f x).length:=by obtain⟨_,rfl⟩:=q4 h;simp
theorem pY(f:k->List T)(h:dh l i y=some r)(e:q=f y):(List.map f l).set (0+i.toNat) q=List.map f r:=by subst e;exact(str f h).symm
theorem Aa(f:k->List T)(h:aH l i=some x)(e:q=f x):(List.map f l).set (0+i.toNat) q=List.map f l:=by subst e;have a:=bY f h;obtain⟨c,b⟩:=bt.1 a;rw[<-b,List.set_getElem_self]
theorem eD(f:k->List T)(h:dh l i x=some r):(l.map f).length=(r.map f).length:=by obtain⟨_,_,rfl⟩:=tp h;simp
theorem H8{r:R}(h:(none:Option R)=some r):p:=by cases h
def er{k:Type}(a b:List k):Option Unit:=if b.length=a.length then some () else none
theorem kN{a b:List k}{u:Unit}(f:k->List T)(h:er a b=some u):(a.map f).length=(b.map f).length:=by
 unfold er at h
 grind
def xg{k:Type}(f:k->List T):Option k->V
 |none=> .t .gW
 |some x=> .aP (f x)
theorem TA(f:k->List T)(o:Option k)(b:Bool):(V.bG [xg f o,aZ b]).ok e6=true:=by cases o<;>rfl
theorem Xf{P:Program}{G:ef}[Inhabited R]{r:R->List T}(h:o.isSome=true)(k:hJ P G f args (V.bG [xg r o,v])):hJ P G f args (V.bG [V.aP (r (o.getD default)),v]):=by
 cases o with
 |none=>cases h
 |some x=>exact k
theorem Xe{P:Program}{G:ef}{r:R->List T}(h:o.isSome=false)(k:hJ P G f args (V.bG [xg r o,v])):hJ P G f args (V.bG [V.t .gW,v]):=by
 cases o with
 |none=>exact k
 |some x=>cases h
section
set_option linter.unusedVariables false
end
theorem Ey(h:dh l i x=some r)(y:k):dh l i y=some (l.set i.toNat y):=by
 obtain⟨a,b,_⟩:=tp h;unfold dh
 grind
theorem F0(h:dh l i x=some r)(y:k):aH (l.set i.toNat y) i=some y:=by
 obtain⟨a,b,_⟩:=tp h;unfold aH
 grind
theorem Ex(h:dh l i x=some r)(y:k):dh (l.set i.toNat y) i x=some r:=by obtain⟨a,b,rfl⟩:=tp h;unfold dh;rw[bn ⟨a,by rw[pg];exact b⟩,List.set_set]
theorem GP{a:List k}{u:Unit}(f:k->List T)(b:er a l=some u)(h:aH l i=some x):0<=i/\i<((a.map f).length:Int):=by have:=cq f h;rw[kN f b];exact this
theorem Tp{a:List k}{u:Unit}(f:k->List T)(b:er a l=some u):(a.map f).length=l.length:=(kN f b).trans (GO f l)
end Go.Lift
