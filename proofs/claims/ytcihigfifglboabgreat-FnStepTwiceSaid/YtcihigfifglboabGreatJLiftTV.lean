/- Tools. -/
import Derived.Test.YtcihigfifglboabGreatJLiftAB
import Derived.Laws.BitsAllLaws
import Derived.Laws.BytesArg
import Derived.Laws.StructEq
namespace Go.Lift
open Go
section
variable {D β:Map}{w:World}{X:Nat->Prop}{i m k b n:Nat}{G:List dQ}{a:Act}{U hs:List (Nat×Nat×V)}{e:TypeId}{v c:List (List T)}{l:List T}{x:T}
theorem ts{gen:Nat}{a:List (List T)}(h:cH D w X i (.a8 G m gen a U)): ∃q,D i=some (q,gen):=by
 rcases h.2 with ⟨c,_⟩|⟨b,e,_,c,_⟩
 ·exact⟨_,c⟩
 exact⟨_,c⟩
def Map.drop(a:Map)(k:Nat):Map:=⟨a.f,λid b=>id≠k/\a.n id b⟩
theorem oE(h:At (D.drop k) i b):At D i b:=by
 rcases h with h|h
 ·exact .inl h
 exact .inr h.2
theorem Rel.drop{K:Ctx}{s:S}(h:Rel K β s a w)(k:Nat)(e':E)(x:s.H k≠none)
  (B:cH (β.drop k) w (own K (β.drop k) (aU s.H k (some e'))) k e'):Rel K (β.drop k) {s with H:=aU s.H k (some e')} a w:=by
 have l: ∀b,own K (β.drop k) (aU s.H k (some e')) b->own K β s.H b:=by
  rintro b (c|⟨id,m,o⟩)
  ·exact .inl c
  refine .inr ⟨id,λp=>?_,oE o⟩;by_cases n:id=k
  ·subst n;exact x p
  rw[bX _ _ _ _ n] at m;exact m p
 have y:dv β (β.drop k):=λ_ _ _ c=> .inl c;refine {h with base:=λid hid=>h.base id hid,dL:=λid hid=>h.dL id hid,ed:=λid b hid q=>h.ed id b hid q.2,inj:=λid r b m o=>h.inj id r b (oE m) (oE o),fresh:=λid b q=>h.fresh id b (oE q),heap:= ?_,cZ:=λi=>(h.cZ i).mono (Ext.refl _ _) (λb _=>l b) y (Shaped.refl _ _)};intro id e c;have c:aU s.H k (some e') id=some e:=c;by_cases n:id=k
 ·subst n;rw[bW] at c;cases c;cases A:s.H id with
  |none=>exact bB A x
  |some p=>exact⟨(h.heap id p A).1,B⟩
 rw[bX _ _ _ _ n] at c;obtain⟨m,o⟩:=h.heap id e c;exact⟨m,o.mono (Ext.refl _ _) (λb _=>l b) y (λ_ h=>h) (Shaped.refl _ _) (λ_ _=>rfl) λb=>⟨λh=>h.2,λh=>⟨n,h⟩⟩⟩
theorem WO{K:Ctx}{s:S}(k:Nat){gen:Nat}(l:List dQ)(m:Nat)(y:s.H k=some (.arr e gen n v))(r:(aO l m).ty=e)(A:(aO l m).size=n)
  (B:v=[]\/(aO l m).bm=[]):s.le K {s with H:=aU s.H k (some (.a8 l m gen v []))}:=by
 intro F a w h;refine⟨_,h.drop k (.a8 l m gen v []) (by rw[y];simp) ?_⟩;have o:=(h.heap k _ y).2;subst r;subst A;refine⟨o.1,?_⟩;have p: ∀b,own K (F.drop k) (aU s.H k (some (.a8 l m gen v []))) b->own K F s.H b:=by
  rintro b (L|⟨id,r,A⟩)
  ·exact .inl L
  refine .inr ⟨id,λC=>?_,oE A⟩;by_cases G:id=k
  ·subst G;rw[y] at C;cases C
  rw[bX _ _ _ _ G] at r;exact r C
 rcases o.2 with ⟨aJ,a2⟩|⟨b,Q,aJ,a2,a3,a4,a5⟩
 ·exact .inl ⟨aJ,a2,λc q=>q.1 rfl⟩
 refine .inr ⟨b,Q,λ_ _ _=>False,aJ,a2,a3,a4,λi j D x u I R U=>Cell.of ?_,λ_ _ _ h=>h.elim,λ_ _ _ _ _ h=>h.elim,λc=>⟨λq=>bB rfl q.1,λ⟨_,_,q⟩=>q.elim⟩⟩;rcases B with rfl|B
 ·simp at I
 have:(aO l m).ek j=none:=by unfold dQ.ek;rw[B];rfl
 rw[this];exact .jj _ _ _ ((a5 i j D x u I R U).mono (Ext.refl _ _) λb _=>p b) λ_ h=>h
theorem WQ{K:Ctx}{s:S}(k:Nat){gen:Nat}(r:s.H k=some (.a8 G m gen v []))(p:Nat.ble K.c' k=true):
  s.le K {s with H:=aU s.H k (some (.arr (aO G m).ty gen (aO G m).size v))}:=by
 have Q:=ea p;intro q a w h;refine⟨_,h.drop k (.arr (aO G m).ty gen (aO G m).size v) (by rw[r];simp) ?_⟩;have l:=(h.heap k _ r).2;have n: ∀b,own K (q.drop k) (aU s.H k (some (.arr (aO G m).ty gen (aO G m).size v))) b->own K q s.H b:=by
  rintro b (o|⟨id,y,e⟩)
  ·exact .inl o
  refine .inr ⟨id,λA=>?_,oE e⟩;by_cases F:id=k
  ·subst F;rw[r] at A;cases A
  rw[bX _ _ _ _ F] at y;exact y A
 refine⟨l.1,?_⟩;rcases l.2 with ⟨aJ,a2,_⟩|⟨b,R,B,aJ,a2,a3,a4,a5,ig,iH,fh⟩
 ·exact .inl ⟨aJ,a2⟩
 refine .inr ⟨b,R,aJ,a2,a3,a4,λi j C x u U W X=>(a5 i j C x u U W X).none.yt n ?_⟩;intro c I o;have p:At q k c:= .inr ((fh c).2 ⟨i,j,I⟩);rcases o with o|⟨id,y,e⟩
 ·obtain⟨M,Y⟩:=h.iD c o;rcases(h.fresh k c p).1 with D|f
  ·exact Y D
  omega
 have:=h.inj _ _ _ (oE e) p;subst this;rcases e with ⟨g,e⟩|e
 ·have L:q id=some (some c,g):=e;rw[aJ] at L;cases L;exact(ig i j _ I).2.2 rfl
 exact e.1 rfl
def Map.split(c:Map)(k a:Nat)(q:Option Nat)(N:Nat->Prop):Map:=
 ⟨λi=>bif Nat.beq i a then some (q,1) else c i,λid b=>(id=a/\N b)\/(id=k/\id≠a/\c.n k b/\ ¬N b/\q≠some b)\/(id≠a/\id≠k/\c.n id b)⟩
theorem NM(h:i≠k):Nat.beq i k=false:=by
 cases a:Nat.beq i k with
 |false=>rfl
 |true=>exact bB (cN a) h
theorem yQ(c:Map)(k a:Nat)(q:Option Nat)(N:Nat->Prop):c.split k a q N a=some (q,1):=by simp[Map.split]
theorem u5(a:Map)(k c:Nat)(q:Option Nat)(N:Nat->Prop)(id:Nat)(h:id≠c):a.split k c q N id=a id:=by simp[Map.split,NM h]
theorem XZ{D:Map}{k L:Nat}{q:Option Nat}{N:Nat->Prop}(o: ∀b,q=some b->D.n k b)(p: ∀b,N b->D.n k b){i b:Nat}(h:At (D.split k L q N) i b):
  (i=L/\D.n k b/\(q=some b\/N b))\/(i≠L/\At D i b/\(i=k->(∃g,D k=some (some b,g))\/(¬N b/\q≠some b))):=by
 rcases h with ⟨g,h⟩|⟨rfl,h⟩|⟨rfl,a,c,l,r⟩|⟨a,c,l⟩
 ·by_cases m:i=L
  ·subst m;rw[yQ] at h;cases h;exact .inl ⟨rfl,o _ rfl,.inl rfl⟩
  rw[u5 _ _ _ _ _ _ m] at h;exact .inr ⟨m,.inl ⟨g,h⟩,λe=> .inl ⟨g,e▸h⟩⟩
 ·exact .inl ⟨rfl,p b h,.inr h⟩
 ·exact .inr ⟨a,.inr c,λ_=> .inr ⟨l,r⟩⟩
 exact .inr ⟨a,.inr l,λe=>bB e c⟩
theorem Rel.split{K:Ctx}{s:S}(h:Rel K β s a w)(k b1:Nat)(q:Option Nat)(N:Nat->Prop)(r y:E)(W:s.H k≠none)(R:s.u b1=false)
  (dj: ∀b,q=some b->β.n k b/\ ¬N b) (fx: ∀b,N b->β.n k b) (p: ∀b g,β k=some (some b,g)-> ¬β.n k b)
  (X:(∀b,own K (β.split k b1 q N) (aU (aU s.H k (some r)) b1 (some y)) b->own K β s.H b)->cH (β.split k b1 q N) w (own K (β.split k b1 q N) (aU (aU s.H k (some r)) b1 (some y))) k r)
  (Y:(∀b,own K (β.split k b1 q N) (aU (aU s.H k (some r)) b1 (some y)) b->own K β s.H b)->cH (β.split k b1 q N) w (own K (β.split k b1 q N) (aU (aU s.H k (some r)) b1 (some y))) b1 y):
  Rel K (β.split k b1 q N) {t:=s.t,H:=aU (aU s.H k (some r)) b1 (some y),u:=aU s.u b1 true} a w:=by
 have I:s.u k=true:=by
  cases V:s.H k with
  |none=>exact bB V W
  |some U=>exact(h.heap k U V).1
 have hne:k≠b1:=by intro e;subst e;rw[I] at R;cases R
 have A:= @XZ β k b1 q N (λb L=>(dj b L).1) fx;have m: ∀b,own K (β.split k b1 q N) (aU (aU s.H k (some r)) b1 (some y)) b->own K β s.H b:=by
  rintro b (l|⟨id,o,Q⟩)
  ·exact .inl l
  rcases A Q with ⟨_,f,_⟩|⟨f,h4,_⟩
  ·exact .inr ⟨k,W,.inr f⟩
  refine .inr ⟨id,λU=>?_,h4⟩;rw[bX _ _ _ _ f] at o;by_cases F:id=k
  ·subst F;exact W U
  rw[bX _ _ _ _ F] at o;exact o U
 have G:=h.dL b1 R;have C: ∀id x,β id=some x->β.split k b1 q N id=some x:=λid x l=>by
  rw[u5 _ _ _ _ _ _ (by intro e;subst e;rw[G] at l;cases l)];exact l
 have hm:dv β (β.split k b1 q N):=dv.of C;refine {h with base:= ?_,low:= ?_,dL:= ?_,ed:= ?_,inj:= ?_,fresh:= ?_,heap:= ?_,cZ:=λi=>(h.cZ i).mono (Ext.refl _ _) (λb _=>m b) hm (Shaped.refl _ _)}
 ·refine h.base.keep λid hid=>u5 _ _ _ _ _ _ ?_;intro e;subst e;have:=h.low id hid;rw[R] at this;cases this
 ·intro id hid;show aU s.u b1 true id=true;by_cases e:id=b1
  ·subst e;exact bW _ _ _
  rw[bX _ _ _ _ e];exact h.low id hid
 ·intro id hid;have c:aU s.u b1 true id=false:=hid;by_cases e:id=b1
  ·subst e;rw[bW] at c;cases c
  rw[bX _ _ _ _ e] at c;rw[u5 _ _ _ _ _ _ e];exact h.dL id c
 ·intro id b hid L;have c:aU s.u b1 true id=false:=hid;have e:id≠b1:=by intro e;subst e;rw[bW] at c;cases c
  rw[bX _ _ _ _ e] at c;rcases L with ⟨o,_⟩|⟨rfl,_,o,_⟩|⟨_,_,o⟩
  ·exact e o
  ·exact h.ed _ b c o
  exact h.ed id b c o
 ·intro id j' b o Q;rcases A o with ⟨rfl,aJ,a2⟩|⟨aJ,a2,a3⟩<;>rcases A Q with ⟨c0,j,D⟩|⟨j,D,eZ⟩
  ·exact c0.symm
  ·have:=h.inj _ _ b (.inr aJ) D;subst this;rcases eZ rfl with ⟨g,v⟩|⟨M,T⟩
   ·exact bB aJ (p b g v)
   rcases a2 with a2|a2
   ·exact bB a2 T
   exact bB a2 M
  ·subst c0
   have:=h.inj _ _ b (.inr j) a2;subst this;rcases a3 rfl with ⟨g,v⟩|⟨M,T⟩
   ·exact bB j (p b g v)
   rcases D with D|D
   ·exact bB D T
   exact bB D M
  exact h.inj _ _ b a2 D
 ·intro id b L;rcases A L with ⟨_,aJ,_⟩|⟨_,a2,_⟩
  ·exact h.fresh k b (.inr aJ)
  exact h.fresh id b a2
 intro id e l;have l:aU (aU s.H k (some r)) b1 (some y) id=some e:=l;show aU s.u b1 true id=true/\cH _ w (own K _ (aU (aU s.H k (some r)) b1 (some y))) id e;by_cases F:id=b1
 ·subst F;rw[bW] at l;cases l;exact⟨bW _ _ _,Y m⟩
 rw[bX _ _ _ _ F] at l⊢;by_cases B:id=k
 ·subst B;rw[bW] at l;cases l;exact⟨I,X m⟩
 rw[bX _ _ _ _ B] at l;obtain⟨o,Q⟩:=h.heap id e l;exact⟨o,Q.mono (Ext.refl _ _) (λb _=>m b) hm (C id) (Shaped.refl _ _) (λ_ _=>rfl) (λb=>⟨λh=>by
  rcases h with ⟨h,_⟩|⟨h,_⟩|⟨_,_,h⟩
  ·exact bB h F
  ·exact bB h B
  exact h,λh=> .inr (.inr ⟨F,B,h⟩)⟩)⟩
def rb(j:Nat):List (Nat×Nat×V)->Bool
 | []=>true
 |h::a=> !(Nat.beq h.2.1 j)&&rb j a
theorem y9{j:Nat}: ∀{a:List (Nat×Nat×V)},rb j a=true-> ∀i v,(i,j,v)∉a
 | [],_,_,_,h=>by cases h
 |h::a,c,i,v,hm=>by
  simp only[rb,Bool.and_eq_true,Bool.not_eq_true'] at c;rcases dP.1 hm with rfl|hm
  ·simp at c
  exact y9 c.2 i v hm
theorem Wk{K:Ctx}{s:S}(k b1 i j R:Nat){r:List dQ}{gen:Nat}{C:List (List T)}{W:List T}{l:List (List T)}{M:List (Nat×Nat×V)}(hk:s.H k=some (.a8 r m gen C M))(hu:s.u b1=false)
  (aH:C[i]? =some W) (hj:W[j]? =some (.aD l)) (hm:(aO r m).ek j=some R) (F: ∀v,(i,j,v)∉M):
  s.le K {t:=s.t,H:=aU (aU s.H k (some (.a8 r m gen C ((i,j,.bc b1 1 (aO r R).size 0 l.length)::M)))) b1 (some (.a8 r R 1 l [])),u:=aU s.u b1 true}:=by
 intro Y a w h;have HM:=(h.heap k _ hk).1;have I:k≠b1:=by intro e;subst e;rw[HM] at hu;cases hu
 have hQ:=(h.heap k _ hk).2;rcases hQ.2 with ⟨aJ,a2,_⟩|⟨b,us,B,aJ,a2,a3,a4,a5,ig,iH,fh⟩
 ·rw[a2] at aH;simp at aH
 have hlt:=(bR.1 aH).1;have hjs:j<(aO r m).size:=by rw[<-a4 W (bE aH)];exact(bR.1 hj).1
 have f:i*(aO r m).size+j<us.size:=by
  have:(i+1)*(aO r m).size<=C.length*(aO r m).size:=dA _ hlt;rw[dp] at this;omega
 have p:=(a5 i j W _ us[i*(aO r m).size+j] aH hj (hG f)).2 λv=>F v;rw[hm] at p;have L: ∀c g,Y k=some (some c,g)-> ¬Y.n k c:=by
  intro c g F cJ;rw[aJ] at F;cases F;obtain⟨y,A,G⟩:=(fh b).1 cJ;exact(ig y A b G).2.2 rfl
 generalize ag_:us[i*(aO r m).size+j]=U at p
 -- the cell's value under the new map, and the rest of the rows
 have Q: ∀(q:Option Nat) (N:Nat->Prop),(∀c,B i j c↔(q=some c\/N c))->(∀(X:Nat->Prop),bn (Y.split k b1 q N) w X (.bc b1 1 (aO r R).size 0 l.length) U)->
   ∀X,(∀c,X c->own K Y s.H c)->cH (Y.split k b1 q N) w X k (.a8 r m gen C ((i,j,.bc b1 1 (aO r R).size 0 l.length)::M)):=by
  intro q N fG bJ X hr;have hm':dv Y (Y.split k b1 q N):=dv.of (λid x hx=>by
   have:id≠b1:=by intro e;subst e;rw[h.dL _ hu] at hx;cases hx
   rw[u5 _ _ _ _ _ _ this];exact hx)
  refine⟨hQ.1,.inr ⟨b,us,λy A c=>B y A c/\ ¬(y=i/\A=j),by rw[u5 _ _ _ _ _ _ I];exact aJ,a2,a3,a4,λy A D x u cU cu eT=>⟨λv H5=>?_,λcJ=>?_⟩,
   λy A c F=>ig y A c F.1,λi1 sA i2 iQ c h1 h2=>iH _ _ _ _ c h1.1 h2.1,λc=>?_⟩⟩
  ·rcases dP.1 H5 with e|H5
   ·simp only[Prod.mk.injEq] at e;obtain⟨rfl,rfl,rfl⟩:=e
    have:u=U:=by
     rw[<-ag_];rw[hG f] at eT;exact(Option.some.inj eT).symm
    subst this;exact⟨bJ X,λc F=>F.2 ⟨rfl,rfl⟩⟩
   obtain⟨c1,c2⟩:=(a5 y A D x u cU cu eT).1 v H5;exact⟨c1.mono (Ext.refl _ _) (λc _=>hr c) hm' (Shaped.refl _ _),λc hx=>c2 c hx.1⟩
  ·have adG: ¬(y=i/\A=j):=by rintro⟨rfl,rfl⟩;exact cJ _ eX
   exact(((a5 y A D x u cU cu eT).2 λv bJ=>cJ v (eA _ bJ)).mono (Ext.refl _ _) (λc _=>hr c) λ_ _=>rfl).iff λc=>⟨λh=>h.1,λh=>⟨h,adG⟩⟩
  constructor
  ·rintro(⟨h1,_⟩|⟨_,_,h1,h2,h3⟩|⟨_,h1,_⟩)
   ·exact bB h1 I
   ·obtain⟨y,A,G⟩:=(fh c).1 h1;refine⟨y,A,G,?_⟩;rintro⟨rfl,rfl⟩;rcases(fG c).1 G with h4|h4
    ·exact h3 h4
    exact h2 h4
   exact bB rfl h1
  rintro⟨y,A,G,cJ⟩;refine .inr (.inl ⟨rfl,I,(fh c).2 ⟨y,A,G⟩,λh4=>?_,λh4=>?_⟩)
  ·exact cJ (iH _ _ _ _ c G ((fG c).2 (.inr h4)))
  exact cJ (iH _ _ _ _ c G ((fG c).2 (.inl h4)))
 generalize Pz:B i j=ahA at p Q;cases p with
 |nil _ _ fx=>
  refine⟨_,h.split k b1 none (λ_=>False) _ (.a8 r R 1 [] []) (by rw[hk];simp) hu (λb G=>by cases G) (λ_ h=>h.elim) L (λo=>Q none (λ_=>False) (λc=>⟨λh=>bB h (fx c),λh=>by rcases h with h|h;cases h;exact h.elim⟩)
   (λX=> .hz b1 1 _ (cQ _) (yQ _ _ _ _ _)) _ o) λo=>⟨cQ _,.inl ⟨yQ _ _ _ _ _,rfl,λc F=>?_⟩⟩⟩
  rcases F with ⟨_,h⟩|⟨h,_⟩|⟨h,_⟩
  ·exact h
  ·exact I h.symm
  exact h rfl
 |own _ _ cu cap q3 rr _ hw M HS cE k' b7 fG cv fx=>
  have sl:Y.n k cu:=(fh cu).2 ⟨i,j,by rw[Pz];exact(fx cu).2 (.inl rfl)⟩;refine⟨_,h.split k b1 (some cu) (λc=> ∃i j,rr i j c) _ (.a8 r R 1 l []) (by rw[hk];simp) hu (λb G=>by cases G;exact⟨sl,λ⟨y,A,mr⟩=>(fG y A _ mr).2.2 rfl⟩)
   (λc F=>(fh c).2 ⟨i,j,by rw[Pz];exact(fx c).2 (.inr F)⟩) L
   (λo=>Q (some cu) (λc=> ∃i j,rr i j c) (λc=>⟨λh=>by rcases(fx c).1 h with h|h;exact .inl (by rw[h]);exact .inr h,λh=>(fx c).2 (by rcases h with h|h;cases h;exact .inl rfl;exact .inr h)⟩)
    (λX=>?_) _ o) λo=>⟨cQ _,.inr ⟨cu,q3,rr,yQ _ _ _ _ _,hw,by rw[M];exact dA _ cE,k',λy A D x u c1 c2 eZ=>Cell.of ((b7 y A D x u c1 c2 eZ).mono (Ext.refl _ _) (λc _=>o c) λ_ _=>rfl),fG,cv,λc=>?_⟩⟩⟩
  ·have:=bn.bc (β:=Y.split k b1 (some cu) λc=> ∃i j,rr i j c) (w:=w) (X:=X) b1 1 (aO r R).size 0 l.length cap cu q3.size (aO r R).ty (cQ _) (yQ _ _ _ _ _) (jt.1 hw).1 (by unfold World.shape?;rw[hw]) (by rw[dt];exact M.symm) cE HS;rw[gi] at this;exact this
  constructor
  ·rintro(⟨_,h⟩|⟨h,_⟩|⟨h,_⟩)
   ·exact h
   ·exact bB h.symm I
   exact bB rfl h
  intro h;exact .inl ⟨rfl,h⟩
def Map.merge(a:Map)(k c gen:Nat):Map:=
 ⟨λi=>bif Nat.beq i c then some (none,gen+1) else a i,λid b=>(id=k/\(a.n k b\/At a c b))\/(id≠k/\id≠c/\a.n id b)⟩
theorem L'(c:Map)(k a gen:Nat):c.merge k a gen a=some (none,gen+1):=by simp[Map.merge]
theorem u7(a:Map)(k c gen id:Nat)(h:id≠c):a.merge k c gen id=a id:=by simp[Map.merge,NM h]
theorem YG{D:Map}{k i gen n b:Nat}(a:k≠i)(h:At (D.merge k i gen) n b):n≠i/\(At D n b\/(n=k/\At D i b)):=by
 rcases h with ⟨g,h⟩|⟨rfl,h⟩|⟨m,e,l⟩
 ·by_cases c:n=i
  ·subst c;rw[L'] at h;cases h
  rw[u7 _ _ _ _ _ c] at h;exact⟨c,.inl (.inl ⟨g,h⟩)⟩
 ·rcases h with h|h
  ·exact⟨a,.inl (.inr h)⟩
  exact⟨a,.inr ⟨rfl,h⟩⟩
 exact⟨e,.inl (.inr l)⟩
theorem Rel.merge{K:Ctx}{s:S}(h:Rel K β s a w)(k c gen:Nat)(q:Option Nat)(A:E)(f:s.H k≠none)(F:s.H c≠none)(Q:k≠c)(j:K.c'<=c)(v:β c=some (q,gen))(M:1<=gen)
  (R:(∀b,own K (β.merge k c gen) (aU (aU s.H c none) k (some A)) b->own K β s.H b)->dv β (β.merge k c gen)->cH (β.merge k c gen) w (own K (β.merge k c gen) (aU (aU s.H c none) k (some A))) k A):
  Rel K (β.merge k c gen) {t:=s.t,H:=aU (aU s.H c none) k (some A),u:=s.u} a w:=by
 have U:s.u c=true:=by
  cases G:s.H c with
  |none=>exact bB G F
  |some C=>exact(h.heap c C G).1
 have y:s.u k=true:=by
  cases G:s.H k with
  |none=>exact bB G f
  |some C=>exact(h.heap k C G).1
 have p:=fun {id b}=> @YG β k c gen id b Q;have n: ∀b,own K (β.merge k c gen) (aU (aU s.H c none) k (some A)) b->own K β s.H b:=by
  rintro b (m|⟨id,D,I⟩)
  ·exact .inl m
  obtain⟨W,B|⟨rfl,B⟩⟩:=p I
  ·refine .inr ⟨id,λC=>?_,B⟩;by_cases o:id=k
   ·subst o;exact f C
   rw[bX _ _ _ _ o,bX _ _ _ _ W] at D;exact D C
  exact .inr ⟨c,F,B⟩
 have X:dv β (β.merge k c gen):=by
  intro id V g1 m;by_cases o:id=c
  ·subst o;rw[v] at m;cases m;exact .inr ⟨M,none,gen+1,L' _ _ _ _,mV _⟩
  exact .inl (by rw[u7 _ _ _ _ _ o];exact m)
 refine {h with base:= ?_,dL:= ?_,ed:= ?_,inj:= ?_,fresh:= ?_,heap:= ?_,cZ:=λi=>(h.cZ i).mono (Ext.refl _ _) (λb _=>n b) X (Shaped.refl _ _)}
 ·exact h.base.keep λid hid=>u7 _ _ _ _ _ O
 ·intro id hid;have l:s.u id=false:=hid;rw[u7 _ _ _ _ _ (by intro e;subst e;rw[U] at l;cases l)];exact h.dL id l
 ·intro id b hid Y;have l:s.u id=false:=hid;rcases Y with ⟨rfl,_⟩|⟨_,_,W⟩
  ·rw[y] at l;cases l
  exact h.ed id b l W
 ·intro id N b D I;obtain⟨aJ,a2|⟨rfl,a2⟩⟩:=p D<;>obtain⟨T,L|⟨rfl,L⟩⟩:=p I
  ·exact h.inj _ _ b a2 L
  ·exact bB (h.inj _ _ b a2 L) aJ
  ·exact bB (h.inj _ _ b L a2) T
  rfl
 ·intro id b Y;obtain⟨_,B|⟨_,B⟩⟩:=p Y
  ·exact h.fresh id b B
  exact h.fresh c b B
 intro id e m;have m:aU (aU s.H c none) k (some A) id=some e:=m;show s.u id=true/\cH _ w (own K _ (aU (aU s.H c none) k (some A))) id e;by_cases o:id=k
 ·subst o;rw[bW] at m;cases m;exact⟨y,R n X⟩
 rw[bX _ _ _ _ o] at m;by_cases r:id=c
 ·subst r;rw[bW] at m;cases m
 rw[bX _ _ _ _ r] at m;obtain⟨D,I⟩:=h.heap id e m;exact⟨D,I.mono (Ext.refl _ _) (λb _=>n b) X (λx m=>by rw[u7 _ _ _ _ _ r];exact m) (Shaped.refl _ _) (λ_ _=>rfl) (λb=>⟨λh=>by
  rcases h with ⟨h,_⟩|⟨_,_,h⟩
  ·exact bB h o
  exact h,λh=> .inr ⟨o,r,h⟩⟩)⟩
theorem Ux{K:Ctx}{s:S}(k F i j m2 lM z n:Nat){D:List dQ}{gen:Nat}{p:List (List T)}{o:List T}{l:List (List T)}(hk:s.H k=some (.a8 D m gen p ((i,j,.bc F lM z 0 n)::hs)))
  (o':s.H F=some (.a8 D m2 lM l [])) (eM:z=(aO D m2).size) (cJ:n=l.length) (hne:k≠F) (mx:Nat.ble K.c' F=true) (aH:p[i]? =some o) (hm:(aO D m).ek j=some m2) (adp:Nat.blt j (aO D m).size=true) (bP: ∀v,(i,j,v)∉hs):
  s.le K {t:=s.t,H:=aU (aU s.H F none) k (some (.a8 D m gen (p.set i (o.set j (.aD l))) hs)),u:=s.u}:=by
 subst eM;subst cJ;intro Y a w h;have mx:=ea mx;obtain⟨q,dj⟩:=ts (h.heap F _ o').2;have hQ:=(h.heap k _ hk).2;have L:=(h.heap F _ o').2;refine⟨_,h.merge k F lM q (.a8 D m gen (p.set i (o.set j (.aD l))) hs) (by rw[hk];simp) (by rw[o'];simp) hne mx dj L.1 λQ hm'=>⟨hQ.1,?_⟩⟩;rcases hQ.2 with ⟨aJ,a2,_⟩|⟨b,us,B,aJ,a2,a3,a4,a5,ig,iH,fh⟩
 ·rw[a2] at aH;simp at aH
 have f:=(bR.1 aH).1
 -- the blocks of the slice
 have M:At Y k b:= .inl ⟨_,aJ⟩;have adr: ∀(u:Value),bn Y w (own K Y s.H) (.bc F lM (aO D m2).size 0 l.length) u->
   gK D w (own K (Y.merge k F lM) (aU (aU s.H F none) k (some (.a8 D m gen (p.set i (o.set j (.aD l))) hs)))) (some m2) (.aD l) u (λc=>At Y F c):=by
  intro u hu;rcases fa hu dj with ⟨cap,cu,n2,hD,rfl,jI,hw,N,sn,cE,HS⟩|⟨jI,_,h0,rfl⟩
  ·subst jI;rcases L.2 with ⟨c1,_⟩|⟨eT,q3,rr,c1,c2,eZ,fj,jC,kx,ni,j2⟩
   ·rw[dj] at c1;cases c1
   rw[dj] at c1;cases c1;rw[gi];have H4:q3.size=cap*(aO D m2).size:=by
    unfold World.shape? at N;rw[c2] at N;simp at N;rw[N.2,<-sn,dt]
   refine .own m2 l cu cap q3 rr _ c2 H4 HS cE fj (λy A R x u d1 d2 d3=>(jC y A R x u d1 d2 d3).none.mono (Ext.refl _ _) (λc _=>Q c) λ_ _=>rfl) kx ni λc=>⟨?_,?_⟩
   ·rintro(⟨g,bM⟩|bM)
    ·rw[dj] at bM;cases bM;exact .inl rfl
    exact .inr ((j2 c).1 bM)
   rintro(rfl|bM)
   ·exact .inl ⟨_,dj⟩
   exact .inr ((j2 c).2 bM)
  subst jI
  have:l=[]:=kQ h0;subst this;refine .nil m2 _ λc bP=>?_;rcases bP with ⟨g,bM⟩|bM
  ·rw[dj] at bM;cases bM
  rcases L.2 with ⟨_,_,eZ⟩|⟨eT,q3,rr,c1,_⟩
  ·exact eZ c bM
  rw[dj] at c1;cases c1
 have U: ∀c,At Y F c-> ¬At Y k c:=λc C I=>hne (h.inj _ _ c I C);have Pt: ∀y A c,B y A c->At Y k c:=λy A c bP=> .inr ((fh c).2 ⟨y,A,bP⟩);have hjs: ∀(x:T),o[j]? =some x->j<(aO D m).size:=λx hx=>by rw[<-a4 o (bE aH)];exact(bR.1 hx).1
 have hrl:o.length=(aO D m).size:=a4 o (bE aH);by_cases W:j<o.length
 ·have BP:i*(aO D m).size+j<us.size:=by
   have:(i+1)*(aO D m).size<=p.length*(aO D m).size:=dA _ f;rw[dp] at this;omega
  have Hz:=a5 i j o o[j] us[i*(aO D m).size+j] aH (br W) (hG BP);obtain⟨uE,acF⟩:=Hz.1 _ eX;refine .inr ⟨b,us,λy A c=>B y A c\/(y=i/\A=j/\At Y F c),by rw[u7 _ _ _ _ _ hne];exact aJ,a2,by simpa using a3,?_,?_,?_,?_,?_⟩
  ·intro r b7;rcases q7 b7 with b7|rfl
   ·exact a4 r b7
   simpa using hrl
  ·intro y A R x u cU cu eT;by_cases BQ:y=i/\A=j
   ·obtain⟨rfl,rfl⟩:=BQ;rw[gj f] at cU;cases cU;rw[gj W] at cu;cases cu;rw[hG BP] at eT;cases eT;refine⟨λv bJ=>bB bJ (bP v),λ_=>?_⟩;rw[hm];refine(adr _ uE).iff λc=>⟨λh=>?_,λh=> .inr ⟨rfl,rfl,h⟩⟩
    rcases h with h|⟨_,_,h⟩
    ·exact bB h (acF c)
    exact h
   have hold: ∃G hY,p[y]? =some G/\G[A]? =some hY/\hY=x:=by
    by_cases xD:y=i
    ·subst xD;rw[gj f] at cU;cases cU;rw[ix (by intro e;exact BQ ⟨rfl,e.symm⟩)] at cu;exact⟨o,x,aH,cu,rfl⟩
    rw[ix (kT xD)] at cU;exact⟨R,x,cU,cu,rfl⟩
   obtain⟨G,hY,d1,d2,rfl⟩:=hold;have o8:=a5 y A G hY u d1 d2 eT;have PK: ∀c,(B y A c\/(y=i/\A=j/\At Y F c))↔B y A c:=λc=>⟨λh=>by
    rcases h with h|⟨C,I,_⟩
    ·exact h
    exact bB ⟨C,I⟩ BQ,.inl⟩
   refine⟨λv bJ=>?_,λcJ=>?_⟩
   ·obtain⟨C,I⟩:=o8.1 v (eA _ bJ);exact⟨C.mono (Ext.refl _ _) (λc _=>Q c) hm' (Shaped.refl _ _),λc hx=>I c ((PK c).1 hx)⟩
   refine((o8.2 λv bJ=>?_).mono (Ext.refl _ _) (λc _=>Q c) λ_ _=>rfl).iff PK;rcases dP.1 bJ with e|bJ
   ·cases e;exact BQ ⟨rfl,rfl⟩
   exact cJ v bJ
  ·intro y A c X;rcases X with X|⟨rfl,rfl,X⟩
   ·simpa using ig y A c X
   refine⟨by simpa using f,O,λe=>?_⟩;subst e;exact U c X M
  ·intro i1 sA i2 iQ c C I;rcases C with C|⟨rfl,rfl,C⟩<;>rcases I with I|⟨rfl,rfl,I⟩
   ·exact iH _ _ _ _ c C I
   ·exact bB (Pt _ _ c C) (U c I)
   ·exact bB (Pt _ _ c I) (U c C)
   exact⟨rfl,rfl⟩
  intro c;constructor
  ·rintro(⟨_,C|C⟩|⟨C,_⟩)
   ·obtain⟨y,A,X⟩:=(fh c).1 C;exact⟨y,A,.inl X⟩
   ·exact⟨i,j,.inr ⟨rfl,rfl,C⟩⟩
   exact bB rfl C
  rintro⟨y,A,X|⟨_,_,X⟩⟩
  ·exact .inl ⟨rfl,.inl ((fh c).2 ⟨y,A,X⟩)⟩
  exact .inl ⟨rfl,.inr X⟩
 exact bB (by rw[hrl];simpa[Nat.blt_eq] using adp) W
theorem Rel.II{K:Ctx}{s:S}(h:Rel K β s a w)(k:Nat)(e e':E)(q:s.H k=some e)(r:cH β w (own K β s.H) k e->cH β w (own K β s.H) k e'):
  Rel K β {s with H:=aU s.H k (some e')} a w:=by
 have c: ∀b,own K β (aU s.H k (some e')) b->own K β s.H b:=by
  rintro b (l|⟨id,m,n⟩)
  ·exact .inl l
  refine .inr ⟨id,λp=>?_,n⟩;by_cases o:id=k
  ·subst o;rw[q] at p;cases p
  rw[bX _ _ _ _ o] at m;exact m p
 refine {h with heap:= ?_,cZ:=λi=>(h.cZ i).mono (Ext.refl _ _) (λb _=>c b) (dv.refl _) (Shaped.refl _ _)};intro id x l;have l:aU s.H k (some e') id=some x:=l;by_cases o:id=k
 ·subst o;rw[bW] at l;cases l;obtain⟨m,n⟩:=h.heap id e q;exact⟨m,(r n).mono (Ext.refl _ _) (λb _=>c b) (dv.refl _) (λ_ h=>h) (Shaped.refl _ _) λ_ _=>rfl⟩
 rw[bX _ _ _ _ o] at l;obtain⟨m,n⟩:=h.heap id x l;exact⟨m,n.mono (Ext.refl _ _) (λb _=>c b) (dv.refl _) (λ_ h=>h) (Shaped.refl _ _) λ_ _=>rfl⟩
theorem WS{K:Ctx}{s:S}(k i j:Nat){gen:Nat}(A:s.H k=some (.a8 G m gen c U))(q:c[i]? =some l)(C:l[j]? =some x)(D:(aO G m).ek j=none)(F:rb j U=true):
  s.le K {s with H:=aU s.H k (some (.a8 G m gen c ((i,j,.t x)::U)))}:=by
 intro I a w h;refine⟨I,h.II k _ (.a8 G m gen c ((i,j,.t x)::U)) A λo=>?_⟩;refine⟨o.1,?_⟩;rcases o.2 with ⟨aJ,a2,_⟩|⟨b,L,B,aJ,a2,a3,a4,a5,ig,iH,fh⟩
 ·rw[a2] at q;simp at q
 refine .inr ⟨b,L,B,aJ,a2,a3,a4,λQ R p W u r y X=>?_,ig,iH,fh⟩;have n:=a5 Q R p W u r y X;refine⟨λv bJ=>?_,λY=>n.2 λv bJ=>Y v (eA _ bJ)⟩;rcases dP.1 bJ with e|bJ
 ·simp only[Prod.mk.injEq] at e;obtain⟨rfl,rfl,rfl⟩:=e;rw[q] at r;cases r;rw[C] at y;cases y
  have:=n.2 λv=>y9 F _ _;rw[D] at this;cases this with|jj _ _ _ h f=>exact⟨.t _ _ h,f⟩
 exact n.1 v bJ
theorem U5{K:Ctx}{s:S}(k i j:Nat){D:List dQ}{gen:Nat}{n:List (List T)}{Y:List (Nat×Nat×V)}(hk:s.H k=some (.a8 D m gen n ((i,j,.t x)::Y)))(F:n[i]? =some l)(M:Nat.blt j (aO D m).size=true)(hm:(aO D m).ek j=none)(bP:rb j Y=true):
  s.le K {s with H:=aU s.H k (some (.a8 D m gen (n.set i (l.set j x)) Y))}:=by
 intro β a w h;refine⟨β,h.II k _ (.a8 D m gen (n.set i (l.set j x)) Y) hk λI=>?_⟩;refine⟨I.1,?_⟩;rcases I.2 with ⟨aJ,a2,_⟩|⟨b,us,B,aJ,a2,a3,a4,a5,ig,iH,fh⟩
 ·rw[a2] at F;simp at F
 have L:=(bR.1 F).1;have Q:l.length=(aO D m).size:=a4 l (bE F);have q:j<l.length:=by rw[Q];simpa[Nat.blt_eq] using M
 refine .inr ⟨b,us,B,aJ,a2,by simpa using a3,λr N=>?_,λy A R kn u G U eT=>?_,λy A c a'=>by simpa using ig y A c a',iH,fh⟩
 ·rcases q7 N with N|rfl
  ·exact a4 r N
  simpa using Q
 by_cases C:y=i/\A=j
 ·obtain⟨rfl,rfl⟩:=C;rw[gj L] at G;cases G;rw[gj q] at U;cases U;have p:=(a5 y A l l[A] u F (br q) eT).1 _ eX;refine⟨λv bJ=>bB bJ (y9 bP _ _),λ_=>?_⟩;rw[hm];obtain⟨h1,h2⟩:=p;cases h1 with|t _ _ h1=>exact .jj _ _ _ h1 h2
 have W: ∃o f,n[y]? =some o/\o[A]? =some f/\f=kn:=by
  by_cases X:y=i
  ·subst X;rw[gj L] at G;cases G;rw[ix (by intro e;exact C ⟨rfl,e.symm⟩)] at U;exact⟨l,kn,F,U,rfl⟩
  rw[ix (kT X)] at G;exact⟨R,kn,G,U,rfl⟩
 obtain⟨o,f,d1,d2,rfl⟩:=W;have p:=a5 y A o f u d1 d2 eT;refine⟨λv bJ=>p.1 v (eA _ bJ),λcJ=>p.2 λv bJ=>?_⟩;rcases dP.1 bJ with e|bJ
 ·cases e;exact C ⟨rfl,rfl⟩
 exact cJ v bJ
theorem Wh{K:Ctx}{s:S}(k i j m2:Nat){C:List dQ}{gen:Nat}{n:List (List T)}{X:List (Nat×Nat×V)}(hk:s.H k=some (.a8 C m gen n ((i,j,.t .fo)::X)))(D:n[i]? =some l)(f:Nat.blt j (aO C m).size=true)(hm:(aO C m).ek j=some m2)(bP:rb j X=true):
  s.le K {s with H:=aU s.H k (some (.a8 C m gen (n.set i (l.set j (.aD []))) X))}:=by
 intro β a w h;refine⟨β,h.II k _ (.a8 C m gen (n.set i (l.set j (.aD []))) X) hk λG=>?_⟩;refine⟨G.1,?_⟩;rcases G.2 with ⟨aJ,a2,_⟩|⟨b,us,B,aJ,a2,a3,a4,a5,ig,iH,fh⟩
 ·rw[a2] at D;simp at D
 have I:=(bR.1 D).1;have L:l.length=(aO C m).size:=a4 l (bE D);have q:j<l.length:=by rw[L];simpa[Nat.blt_eq] using f
 refine .inr ⟨b,us,B,aJ,a2,by simpa using a3,λr M=>?_,λx y Q N u F R eT=>?_,λx y c a'=>by simpa using ig x y c a',iH,fh⟩
 ·rcases q7 M with M|rfl
  ·exact a4 r M
  simpa using L
 by_cases A:x=i/\y=j
 ·obtain⟨rfl,rfl⟩:=A;rw[gj I] at F;cases F;rw[gj q] at R;cases R;have p:=(a5 x y l l[y] u D (br q) eT).1 _ eX;refine⟨λv bJ=>bB bJ (y9 bP _ _),λ_=>?_⟩;rw[hm];obtain⟨h1,h2⟩:=p;cases h1 with|t _ _ h1=>cases h1 with|fo=>exact .nil _ _ h2
 have U: ∃o Y,n[x]? =some o/\o[y]? =some Y/\Y=N:=by
  by_cases W:x=i
  ·subst W;rw[gj I] at F;cases F;rw[ix (by intro e;exact A ⟨rfl,e.symm⟩)] at R;exact⟨l,N,D,R,rfl⟩
  rw[ix (kT W)] at F;exact⟨Q,N,F,R,rfl⟩
 obtain⟨o,Y,d1,d2,rfl⟩:=U;have p:=a5 x y o Y u d1 d2 eT;refine⟨λv bJ=>p.1 v (eA _ bJ),λcJ=>p.2 λv bJ=>?_⟩;rcases dP.1 bJ with e|bJ
 ·cases e;exact A ⟨rfl,rfl⟩
 exact cJ v bJ
theorem WR{K:Ctx}{s:S}(k:Nat){L:List dQ}{gen:Nat}{e:List (List T)}{C:List (Nat×Nat×V)}(l:List dQ)(o:Nat)(G:s.H k=some (.a8 L m gen e C))(I:Nat.ble K.c' k=true)
  (h1:(aO l o).ty=(aO L m).ty) (Q:(aO l o).size=(aO L m).size) (h3:(aO l o).bm=[]):
  s.le K {s with H:=aU s.H k (some (.a8 l o gen e C))}:=by
 have mx:=ea I;have D: ∀j,(aO l o).ek j=none:=λj=>by unfold dQ.ek;rw[h3];rfl
 intro A a w h;have r:=(h.heap k _ G).2;have F:dv A (A.drop k):=λ_ _ _ y=> .inl y;rcases r.2 with ⟨aJ,a2,a3⟩|⟨b,us,B,aJ,a2,a3,a4,a5,ig,iH,fh⟩
 ·exact⟨_,h.drop k (.a8 l o gen e C) (by rw[G];simp) ⟨r.1,.inl ⟨aJ,a2,λc n=>n.1 rfl⟩⟩⟩
 refine⟨_,h.drop k (.a8 l o gen e C) (by rw[G];simp) ⟨r.1,.inr ⟨b,us,λ_ _ _=>False,aJ,by rw[h1];exact a2,by rw[Q];exact a3,by rw[Q];exact a4,?_,λ_ _ _ n=>n.elim,λ_ _ _ _ _ n=>n.elim,λc=>⟨λn=>(n.1 rfl).elim,λ⟨_,_,n⟩=>n.elim⟩⟩⟩⟩;intro i j R x u cU cu f;rw[Q] at f;have M:=a5 i j R x u cU cu f;generalize N:own K (A.drop k) (aU s.H k (some (.a8 l o gen e C)))=ie;have p: ∀b,ie b->own K A s.H b:=by
  subst N;rintro b (y|⟨id,U,q⟩)
  ·exact .inl y
  refine .inr ⟨id,λW=>?_,oE q⟩;by_cases aH:id=k
  ·subst aH;rw[G] at W;cases W
  rw[bX _ _ _ _ aH] at U;exact U W
 refine⟨λv bJ=>⟨(M.1 v bJ).1.mono (Ext.refl _ _) (λb _=>p b) F (Shaped.refl _ _),λ_ n=>n⟩,λX=>?_⟩;rw[D];refine .jj _ _ _ ((M.2 X).yt p ?_) λ_ n=>n;intro c n y;subst N;have I:At A k c:= .inr ((fh c).2 ⟨i,j,n⟩);rcases y with y|⟨id,U,q⟩
 ·obtain⟨gk,iA⟩:=h.iD c y;rcases(h.fresh k c I).1 with Y|iN
  ·exact iA Y
  omega
 have:=h.inj _ _ _ (oE q) I;subst this;rcases q with ⟨g,q⟩|q
 ·have g3:A id=some (some c,g):=q;rw[aJ] at g3;cases g3;exact(ig i j _ n).2.2 rfl
 exact q.1 rfl
def E.gen:E->Option Nat
 | .cells _=>none
 | .arr _ g _ _=>some g
 | .a8 _ _ g _ _=>some g
theorem oT{g:Nat}{e:E}(h:cH D w X i e)(c:e.gen=some g):1<=g/\ ∃q,D i=some (q,g):=by
 cases e with
 |cells cs=>cases c
 |arr ty l size a=>
  cases c;exact⟨h.1,by rcases h.2 with ⟨k,_⟩|⟨b,n,k,_⟩<;>exact⟨_,k⟩⟩
 |a8 o m l a p=>
  cases c;exact⟨h.1,ts h⟩
theorem Rel.aff{K:Ctx}{s:S}(h:Rel K β s a w)(k:Nat)(e e':E)(g:Nat)(j:s.H k=some e)(bM:e.gen=some g)(C:Array Value)(D:TypeId)
  (he: ∀(y:Map) (f:Nat->Prop) (F:World),F=w.alloc (.cells C D)->y k=some (some w.heap.size,g+1)->(∀b,y.n k b↔β.n k b)->(∀v u,bn β w (own K β s.H) v u->bn y F f v u)->
   (∀x u,cX w (own K β s.H) x u->cX F f x u)->(∀M m x u N,(∀b,N b->β.n k b)->gK M w (own K β s.H) m x u N->gK M F f m x u N)->cH y F f k e'):
  Rel K (β.put k (some (some w.heap.size,g+1))) {s with H:=aU s.H k (some e')} a (w.alloc (.cells C D)):=by
 have c: ∀X,Ext X w (w.alloc (.cells C D)):=λX=>Ext.alloc X w _;have G:s.u k=true:=(h.heap k _ j).1;obtain⟨I,oC,L⟩:=oT (h.heap k _ j).2 bM;have l: ∀id b,At (β.put k (some (some w.heap.size,g+1))) id b->(id=k/\b=w.heap.size)\/At β id b:=λid b a'=>by
  rcases a' with ⟨g,a'⟩|a'
  ·by_cases q:id=k
   ·subst q;rw[jg] at a';cases a';exact .inl ⟨rfl,rfl⟩
   rw[ep _ _ _ _ q] at a';exact .inr (.inl ⟨g,a'⟩)
  exact .inr (.inr a')
 have o: ∀b,b<w.heap.size->own K (β.put k (some (some w.heap.size,g+1))) (aU s.H k (some e')) b->own K β s.H b:=by
  rintro b hlt (Q|⟨id,B,R⟩)
  ·exact .inl Q
  rcases l id b R with ⟨rfl,rfl⟩|A
  ·omega
  refine .inr ⟨id,λT=>?_,A⟩;by_cases q:id=k
  ·subst q;rw[j] at T;cases T
  rw[bX _ _ _ _ q] at B;exact B T
 have U:Shaped β w (w.alloc (.cells C D)):=qo (c _);have W:=AF oC (some w.heap.size) I L;have Y: ∀v u,bn β w (own K β s.H) v u->bn (β.put k (some (some w.heap.size,g+1))) (w.alloc (.cells C D)) (own K (β.put k (some (some w.heap.size,g+1))) (aU s.H k (some e'))) v u:=
  λv u bJ=>bJ.mono (c _) o W U
 refine {ext:=h.ext.trans ((c λ_=>False).weaken λ_ _ h=>h.elim),oi:=h.oi,ow:=h.ow,iD:=h.iD,qC:=h.qC,base:= ?_,iW:=h.iW.ext h.ext.size (c _),low:=h.low,dL:= ?_,ed:=λid b hid=>h.ed id b hid,inj:= ?_,fresh:= ?_,heap:= ?_,cZ:=λi=>Y _ _ (h.cZ i),nt:=h.nt,defers:=h.defers}
 ·exact h.base.grow k g oC (some w.heap.size) L I (jg _ _ _) (λb a'=>by cases a';exact .inr h.ext.size) λid q=>ep _ _ _ _ q
 ·intro id hid;have r:s.u id=false:=hid;by_cases e:id=k
  ·subst e;rw[G] at r;cases r
  rw[ep _ _ _ _ e];exact h.dL id r
 ·intro id V b B R;rcases l id b B with ⟨rfl,rfl⟩|A<;>rcases l V _ R with ⟨rfl,e⟩|h4
  ·rfl
  ·have:=(h.fresh _ _ h4).2;omega
  ·subst e;have:=(h.fresh _ _ A).2;omega
  exact h.inj _ _ _ A h4
 ·intro id b a';rcases l id b a' with ⟨rfl,rfl⟩|A
  ·exact⟨.inr h.ext.size,aV⟩
  exact⟨(h.fresh _ _ A).1,by have:=(h.fresh _ _ A).2;simp;omega⟩
 intro id e2 p;have p:aU s.H k (some e') id=some e2:=p;show s.u id=true/\cH _ _ (own K _ (aU s.H k (some e'))) id e2;by_cases q:id=k
 ·subst q;rw[bW] at p;cases p;exact⟨G,he _ _ _ rfl (jg _ _ _) (λ_=>Iff.rfl) Y (λx u Q=>Q.mono (c _) o) λM m x u N fx b7=>b7.mono (c _) o λb a'=>yE _ _ _ (h.fresh id b (.inr (fx b a'))).2⟩
 rw[bX _ _ _ _ q] at p;obtain⟨B,R⟩:=h.heap id e2 p;refine⟨B,R.mono (c _) o W (λx Q=>by rw[ep _ _ _ _ q];exact Q) U λb a'=>yE _ _ _ (h.fresh id b a').2⟩
theorem Rel.ab4{K:Ctx}{s:S}(h:Rel K β s a w)(k:Nat)(e e':E)(g:Nat)(q:Option Nat)(I:β k=some (q,g))(A:1<=g)(W:s.H k=some e)
  (X: ∀(r:Map) (L:Nat->Prop),r k=some (q,g+1)->(∀b,r.n k b↔β.n k b)->(∀v u,bn β w (own K β s.H) v u->bn r w L v u)->(∀b,L b->own K β s.H b)->cH r w L k e'):
  Rel K (β.put k (some (q,g+1))) {s with H:=aU s.H k (some e')} a w:=by
 have B:s.u k=true:=(h.heap k _ W).1;have c: ∀id b,At (β.put k (some (q,g+1))) id b->At β id b:=λid b a'=>by
  rcases a' with ⟨g,a'⟩|a'
  ·by_cases m:id=k
   ·subst m;rw[jg] at a';cases a';exact .inl ⟨_,I⟩
   rw[ep _ _ _ _ m] at a';exact .inl ⟨g,a'⟩
  exact .inr a'
 have o: ∀b,own K (β.put k (some (q,g+1))) (aU s.H k (some e')) b->own K β s.H b:=by
  rintro b (Q|⟨id,y,C⟩)
  ·exact .inl Q
  refine .inr ⟨id,λR=>?_,c id b C⟩;by_cases m:id=k
  ·subst m;rw[W] at R;cases R
  rw[bX _ _ _ _ m] at y;exact y R
 have D:=AF q q A I;have F: ∀v u,bn β w (own K β s.H) v u->bn (β.put k (some (q,g+1))) w (own K (β.put k (some (q,g+1))) (aU s.H k (some e'))) v u:=λv u Y=>Y.mono (Ext.refl _ _) (λb _=>o b) D (Shaped.refl _ _);refine {h with base:= ?_,dL:= ?_,inj:= ?_,fresh:=λid b a'=>h.fresh id b (c id b a'),heap:= ?_,cZ:=λi=>F _ _ (h.cZ i)}
 ·exact h.base.grow k g q q I A (bW _ _ _) (λb a'=> .inl a') λid m=>ep _ _ _ _ m
 ·intro id hid;have p:s.u id=false:=hid;by_cases e:id=k
  ·subst e;rw[B] at p;cases p
  rw[ep _ _ _ _ e];exact h.dL id p
 ·intro id G b y C;exact h.inj id G b (c id b y) (c G b C)
 intro id U l;have l:aU s.H k (some e') id=some U:=l;show s.u id=true/\cH _ _ (own K _ (aU s.H k (some e'))) id U;by_cases m:id=k
 ·subst m;rw[bW] at l;cases l;exact⟨B,X _ _ (jg _ _ _) (λ_=>Iff.rfl) F o⟩
 rw[bX _ _ _ _ m] at l;obtain⟨y,C⟩:=h.heap id U l;exact⟨y,C.mono (Ext.refl _ _) (λb _=>o b) D (λx Q=>by rw[ep _ _ _ _ m];exact Q) (Shaped.refl _ _) λ_ _=>rfl⟩
theorem Xs{size:Nat}{a:List (List T)}(o y p:List Value)(A:a.length=n)(B:o.length=n*size)(Q:y.length=c.length*size)(G: ∀e,e∈a->e.length=size)(C: ∀e,e∈c->e.length=size){R:Nat->Nat->T->Value->Prop}
  (I: ∀(i j:Nat) (e:List T) (x:T) (u:Value),a[i]? =some e->e[j]? =some x->o[i*size+j]? =some u->R i j x u)
  (L: ∀(i j:Nat) (e:List T) (x:T) (u:Value),c[i]? =some e->e[j]? =some x->y[i*size+j]? =some u->R (n+i) j x u):
  ∀(i j:Nat) (e:List T) (x:T) (u:Value),(a++c)[i]? =some e->e[j]? =some x->(o++y++p)[i*size+j]? =some u->R i j x u:=by
 intro i j e x u l w h;by_cases q:i<a.length
 ·rw[gG q] at l;have m:j<size:=by rw[<-G e (bE l)];exact(bR.1 w).1
  have k:i*size+j<o.length:=by rw[B,<-A];exact mF q m
  rw[gG bQ,gG k] at h;exact I i j e x u l w h
 rw[gF O] at l;have m:j<size:=by rw[<-C e (bE l)];exact(bR.1 w).1
 have D:=(bR.1 l).1;have k:=mF (size:=size) D m;have F:o.length<=i*size+j:=by rw[B,<-A];have:=dA size (O:a.length<=i);omega
 have r:i*size+j-o.length=(i-a.length)*size+j:=by rw[B,<-A,th];have:=dA size (O:a.length<=i);omega
 rw[gG bQ,gF F,r] at h
 have:=L _ j e x u l w h;rw[show n+(i-a.length)=i by omega] at this;exact this
def h7(n:Nat):List (Nat×Nat×V)->List (Nat×Nat×V)
 | []=>[]
 |h::hs=>(n+h.1,h.2.1,h.2.2)::h7 n hs
theorem Ac{n:Nat}: ∀{hs:List (Nat×Nat×V)} {i j:Nat} {v:V},(i,j,v)∈h7 n hs↔ ∃k,i=n+k/\(k,j,v)∈hs
 | [],_,_,_=>by simp[h7]
 |h::hs,i,j,v=>by
  simp only[h7,List.mem_cons,Prod.mk.injEq,Ac (hs:=hs)];constructor
  ·rintro(⟨l,e,m⟩|⟨k,l,e⟩)
   ·exact⟨h.1,l,.inl (by obtain⟨a,b,c⟩:=h;cases e;cases m;rfl)⟩
   exact⟨k,l,.inr e⟩
  rintro⟨k,l,e|e⟩
  ·subst e;exact .inl ⟨l,rfl,rfl⟩
  exact .inr ⟨k,l,e⟩
def zP(n:Map)(w:World)(X:Nat->Prop)(c:Nat)(a:List (List T))(m:List (Nat×Nat×V))(u:Value):Prop:=
 ∃(b e l:Nat) (k:List Value),u= .slice (some ⟨b,e,none⟩) a.length l/\k.length=a.length*c/\
  (∀(j:Nat) x,k[j]? =some x->w.cell? ⟨b,e+j,none⟩=some x)/\(∀x,x∈k->x.oneCell'=true)/\
  ∀(i j:Nat) (h:List T) (x:T) (y:Value),a[i]? =some h->h[j]? =some x->k[i*c+j]? =some y->(∀v,(i,j,v)∈m->bn n w X v y)/\((∀v,(i,j,v)∉m)->cX w X x y)
def tC:List (Nat×Nat×V)->Bool
 | []=>true
 |h::a=>h.2.2.one&&tC a
theorem KZ: ∀{a:List (Nat×Nat×V)} {i j:Nat} {v:V},tC a=true->(i,j,v)∈a->v.one=true
 | [],_,_,_,_,h=>by cases h
 |h::a,i,j,v,c,hm=>by
  simp only[tC,Bool.and_eq_true] at c;rcases dP.1 hm with rfl|hm
  ·exact c.1
  exact KZ c.2 hm
def wJ(d:dQ)(n:Nat)(a:List (Nat×Nat×V)):Bool:=
 (List.range n).all λi=>d.bm.all λp=>a.any λh=>Nat.beq h.1 i&&Nat.beq h.2.1 p.1
theorem LB: ∀{l:List (Nat×Nat)} {j m:Nat},tQ l j=some m->(j,m)∈l
 | [],_,_,h=>by cases h
 |p::l,j,m,h=>by
  simp only[tQ] at h;cases a:Nat.beq p.1 j with
  |true=>rw[a] at h;cases h;rw[<-cN a];exact eX
  |false=>rw[a] at h;exact eA _ (LB h)
theorem K'{d:dQ}(h:wJ d n hs=true){j:Nat}(e:i<n)(k:d.ek j=some m): ∃v,(i,j,v)∈hs:=by have l:=fB.1 h i (tc.2 e);have o:=fB.1 l (j,m) (LB k);obtain⟨⟨a,b,v⟩,p,c⟩:=iz.1 o;simp only[Bool.and_eq_true] at c;have q:=cN c.1;have r:=cN c.2;subst q;subst r;exact⟨v,p⟩
theorem zP.of{K:Ctx}{s:S}(h:Rel K β s a w){g:Nat}{l:List dQ}{A:List (Nat×Nat×V)}{u:Value}(hk:s.H k=some (.a8 l m g c A))(cJ:n=c.length)
  (hu:bn β w (own K β s.H) (.bc k g (aO l m).size 0 n) u) (f:0<c.length) (eu:tC A=true) (bP:wJ (aO l m) c.length A=true):zP β w (own K β s.H) (aO l m).size c A u:=by
 subst cJ;have R:=(h.heap k _ hk).2;rcases R.2 with ⟨_,F,_⟩|⟨b,M,B,aJ,a2,a3,a4,a5,ig,iH,fh⟩
 ·rw[F] at f;simp at f
 rcases fa hu aJ with ⟨U,gm,Iq,hD,rfl,W,hw,ik,sn,cE,hm⟩|⟨W,_⟩
 ·cases W;rw[gi];have p: ∀(i j:Nat) (o:List T) (x:T) (y:Value),c[i]? =some o->o[j]? =some x->M[i*(aO l m).size+j]? =some y->
    (∀v,(i,j,v)∈A->bn β w (own K β s.H) v y)/\((∀v,(i,j,v)∉A)->cX w (own K β s.H) x y):=by
   intro i j o x y C F D;have G:=a5 i j o x y C F D;refine⟨λv q=>(G.1 v q).1,λI=>?_⟩;have N:=G.2 I;have L:(aO l m).ek j=none:=by
    cases X:(aO l m).ek j with
    |none=>rfl
    |some ahi=>
     obtain⟨v,q⟩:=K' bP (bR.1 C).1 X;exact bB q (I v)
   rw[L] at N;cases N with|jj _ _ _ h _=>exact h
  refine⟨b,0,U,M.toList.take (c.length*(aO l m).size),rfl,bQ,λj x r=>?_,λx hx=>?_,λi j o x y C F D=>?_⟩
  ·rw[ft] at r;split at r
   ·simp only[World.cell?,a2,Nat.zero_add];simpa using r
   cases r
  ·obtain⟨j,r⟩:=km.1 hx;rw[ft] at r;split at r
   ·rename_i Q;have eM:0<(aO l m).size:=Nat.pos_of_ne_zero λe=>by rw[e] at Q;omega
    have C:j / (aO l m).size<c.length:=by rw[vz eM];exact Q
    have F:=Nat.mod_lt j eM;have D:=a4 _ (fC C);have he:j / (aO l m).size*(aO l m).size+j%(aO l m).size=j:=by rw[Nat.mul_comm];exact Nat.div_add_mod ..
    obtain⟨c1,c2⟩:=p (j / (aO l m).size) (j%(aO l m).size) _ _ x (br C) (br (by omega:j%(aO l m).size<(c[j / (aO l m).size]).length)) (by rw[he];simpa using r);by_cases q: ∃v,(j / (aO l m).size,j%(aO l m).size,v)∈A
    ·obtain⟨v,q⟩:=q;exact(c1 v q).iU (KZ eu q)
    exact(c2 λv Y=>q ⟨v,Y⟩).iU
   cases r
  rw[ft] at D;split at D
  ·exact p i j o x y C F (by simpa using D)
  cases D
 cases W
theorem Rel.ab3{K:Ctx}{s:S}{t:TypeId}{u:TypeDesc}{z:Value}{gen G bytes:Nat}(h:Rel K β s a w)(k:Nat)(r:List dQ)(m:Nat)(l o:List (List T))(C:List (Nat×Nat×V))(hk:s.H k=some (.a8 r m gen l []))(uA:(aO r m).size=G)(nr:(aO r m).ty=e)(ty:TypeId)
  (hu:K.P.underlying t=some (.slice e)) (he:cd K.P e u z G bytes) (qu:z.cells.size=G) (hs: ∀p,p∈l->p.length=G) (k9: ∀p,p∈o->p.length=G) (v x:Value) (bJ:bn β w (own K β s.H) (.bc k gen G 0 l.length) v)
  (hx:zP β w (own K β s.H) G o C x) (HW:0<o.length) (ac3:wJ (aO r m) o.length C=true) (a':(l.length+o.length)*bytes<=140737488355328) (hm:l.length+o.length<=maxLen):
  ∃dx w' D,(Builtin.append_ #[t,t] ty #[v,x]).run K.P w= .ok dx w'/\Rel K D {s with H:=aU s.H k (some (.a8 r m (gen+1) (l++o) (h7 l.length C)))} a w'/\
   bn D w' (own K D (aU s.H k (some (.a8 r m (gen+1) (l++o) (h7 l.length C))))) (.bc k (gen+1) G 0 (l.length+o.length)) dx:=by
 subst uA;subst nr;obtain⟨q,dj⟩:=ts (h.heap k _ hk).2;have iM:=(h.heap k _ hk).2.1;obtain⟨_,i,mv,hi2,N,uC⟩:=id he;have hm':l.length+o.length<=9223372036854775807:=by unfold maxLen at hm;omega
 have jH:=(h.heap k _ hk).2.2;have xI: ∀p,p∈l++o->p.length=(aO r m).size:=λp sp=>by
  rcases d'.1 sp with h|h
  ·exact hs p h
  exact k9 p h
 obtain⟨cu,off,BD,Q,sv,oj,xL,la,hwr⟩:=hx;have H8: ∀j y,Q[j]? =some y->w.cell? ((⟨cu,off,none⟩:Addr).add j)=some y:=λj y hy=>by rw[jh];exact xL j y hy
 have kE:(l.length+o.length)*i.bytes<=140737488355328:=by rw[uC];exact a'
 have ads: ∀i j,i<o.length->(∀v,(i,j,v)∉C)->(aO r m).ek j=none:=λi j aH jJ=>by
  cases hkk:(aO r m).ek j with
  |none=>rfl
  |some ahi=>
   obtain⟨v,bJ⟩:=K' ac3 aH hkk;exact bB bJ (jJ v)
 -- the cells of old and new rows, in whatever world
 have f: ∀(B:Nat->Nat->Nat->Prop) (D:Map) (w':World) (ie:Nat->Prop),(∀v u,bn β w (own K β s.H) v u->bn D w' ie v u)->(∀x u,cX w (own K β s.H) x u->cX w' ie x u)->
   (∀i j c,B i j c->i<l.length)-> ∀(X rest:List Value),X.length=l.length*(aO r m).size->
   (∀(i j:Nat) (p:List T) (x:T) (u:Value),l[i]? =some p->p[j]? =some x->X[i*(aO r m).size+j]? =some u->gK r w' ie ((aO r m).ek j) x u (B i j))->
   ∀(i j:Nat) (p:List T) (x:T) (u:Value),(l++o)[i]? =some p->p[j]? =some x->(X++Q++rest)[i*(aO r m).size+j]? =some u->Cell r m (h7 l.length C) D w' ie i j x u (B i j):=by
  intro B D w' ie k8 lS fG X rest pf so;refine Xs X Q rest rfl pf oj hs k9 (R:=λi j x u=>Cell r m (h7 l.length C) D w' ie i j x u (B i j)) (λi j p x u h1 h2 h3=>⟨λv bJ=>?_,λ_=>so i j p x u h1 h2 h3⟩) λi j p x u h1 h2 h3=>⟨λv bJ=>?_,λjJ=>?_⟩
  ·obtain⟨iO,e1,_⟩:=Ac.1 bJ
   have:=(bR.1 h1).1;omega
  ·obtain⟨iO,e1,e2⟩:=Ac.1 bJ
   have:iO=i:=O
   subst this;exact⟨k8 _ _ ((hwr iO j p x u h1 h2 h3).1 v e2),λc I=>by have:=fG _ _ _ I;omega⟩
  have PW: ∀v,(i,j,v)∉C:=λv bJ=>jJ v (Ac.2 ⟨i,rfl,bJ⟩);rw[ads i j (bR.1 h1).1 PW];exact .jj _ _ _ (lS _ _ ((hwr i j p x u h1 h2 h3).2 PW)) (λc I=>by have:=fG _ _ _ I;omega)
 -- a new block
 have finish: ∀(B:Nat->Nat->Nat->Prop) (X:List Value) (A:Nat),X.length=l.length*(aO r m).size->l.length+o.length<=A->A<=maxLen->
   (∀(i j:Nat) (p:List T) (x:T) (u:Value),l[i]? =some p->p[j]? =some x->X[i*(aO r m).size+j]? =some u->gK r w (own K β s.H) ((aO r m).ek j) x u (B i j))->
   (∀i j c,B i j c->i<l.length/\j<(aO r m).size)->(∀i j iO cW c,B i j c->B iO cW c->i=iO/\j=cW)->(∀c,β.n k c↔ ∃i j,B i j c)->
   ∃D,Rel K D {s with H:=aU s.H k (some (.a8 r m (gen+1) (l++o) (h7 l.length C)))} a (w.drew.alloc (.cells (X.toArray++Q.toArray++Builtin.zeroCells z.cells (A-(l.length+o.length))) (aO r m).ty))/\
    bn D (w.drew.alloc (.cells (X.toArray++Q.toArray++Builtin.zeroCells z.cells (A-(l.length+o.length))) (aO r m).ty)) (own K D (aU s.H k (some (.a8 r m (gen+1) (l++o) (h7 l.length C))))) (.bc k (gen+1) (aO r m).size 0 (l.length+o.length)) (.slice (some ⟨w.heap.size,0,none⟩) (l.length+o.length) A):=by
  intro B X A pf PF hcm H3 fG cv fx;have xH:(X.toArray++Q.toArray++Builtin.zeroCells z.cells (A-(l.length+o.length))).size=A*(aO r m).size:=by
   simp only[Array.size_append,List.size_toArray,size_zeroCells,qu,pf,oj,<-Nat.add_mul];congr 1;omega
  have uB:=vV h;have sk:=uB.aff k _ (.a8 r m (gen+1) (l++o) (h7 l.length C)) gen hk rfl (X.toArray++Q.toArray++Builtin.zeroCells z.cells (A-(l.length+o.length))) (aO r m).ty
   (λD ie w' hw' H' cJ k8 lS so=>⟨O,.inr ⟨w.heap.size,_,B,H',by subst hw';exact jB w.drew _,by rw[xH,dE];exact dA _ PF,xI,
    λi j p x u aJ a2 a3=>f B D w' ie (λv u H6=>k8 v u (H6.mono (Ext.drew _ _) (λ_ _ h=>h) (dv.refl _) (qo (Ext.drew _ _)))) (λx u H9=>lS x u (H9.mono (Ext.drew _ _) λ_ _ h=>h)) (λi j c I=>(fG i j c I).1) X (Builtin.zeroCells z.cells (A-(l.length+o.length))).toList pf
     (λi j p x u cU cu eT=>so r _ x u (B i j) (λc I=>(fx c).2 ⟨i,j,I⟩) ((H3 i j p x u cU cu eT).mono (Ext.drew _ _) (λ_ _ h=>h) λ_ _=>rfl)) i j p x u aJ a2 (by simpa[<-Array.getElem?_toList] using a3),
    λi j c I=>⟨by have:=(fG i j c I).1;rw[dE];omega,(fG i j c I).2,λe0=>by have:=(h.fresh k c (.inr ((fx c).2 ⟨i,j,I⟩))).2;rw[e0] at this;exact Nat.lt_irrefl _ this⟩,cv,λc=>(cJ c).trans (fx c)⟩⟩)
  refine⟨_,sk,?_⟩;have il:bn (β.put k (some (some w.heap.size,gen+1))) (w.drew.alloc (.cells (X.toArray++Q.toArray++Builtin.zeroCells z.cells (A-(l.length+o.length))) (aO r m).ty)) (own K (β.put k (some (some w.heap.size,gen+1))) (aU s.H k (some (.a8 r m (gen+1) (l++o) (h7 l.length C))))) (.bc k (gen+1) (aO r m).size 0 (l.length+o.length)) (.slice (some ⟨w.heap.size,0*(aO r m).size,none⟩) (l.length+o.length) A):=by
   have qt:=jB w.drew (.cells (X.toArray++Q.toArray++Builtin.zeroCells z.cells (A-(l.length+o.length))) (aO r m).ty);refine .bc k (gen+1) (aO r m).size 0 _ A w.heap.size (A*(aO r m).size) (aO r m).ty O (bW _ _ _) aV ?_ (by rw[dt]) PF hcm;have HT:(w.drew.alloc (.cells (X.toArray++Q.toArray++Builtin.zeroCells z.cells (A-(l.length+o.length))) (aO r m).ty)).heap[w.heap.size]? =some (.cells (X.toArray++Q.toArray++Builtin.zeroCells z.cells (A-(l.length+o.length))) (aO r m).ty):=qt;unfold World.shape?;rw[HT];simp only[xH]
  rw[gi] at il;exact il
 subst sv;rcases fa bJ dj with ⟨U,b,n,hD,rfl,kD,hw,ik,sn,cE,mw⟩|⟨kD,_,HN,rfl⟩
 rotate_left
 ·have pd:l=[]:=kQ HN;subst pd;have L:=run_append_nil (P:=K.P) w t ty (aO r m).ty i z hu mv hi2 ⟨cu,off,none⟩ o.length BD Q (by rw[N];exact oj) H8 HW O (by simp at kE;omega);subst kD;have adH: ∀c,¬β.n k c:=by
   rcases jH with ⟨_,_,h0⟩|⟨b,X,B,h1,_⟩
   ·exact h0
   rw[dj] at h1;cases h1
  obtain⟨D,f1,f2⟩:=finish (λ_ _ _=>False) [] (grownCap w o.length 0 (aO r m).ty) aV (by simpa using grownCap_ge w o.length 0 (aO r m).ty) (grownCap_le_maxLen w _ 0 (aO r m).ty (by unfold maxLen;simp at hm';omega)) (λi j p x u h1 _ _=>by simp at h1)
   (λ_ _ _ h=>h.elim) (λ_ _ _ _ _ h=>h.elim) λc=>⟨λI=>bB I (adH c),λ⟨_,_,h⟩=>h.elim⟩
  simp only[List.length_nil,Nat.zero_add] at f1 f2⊢;exact⟨_,_,D,by rw[L];simp,f1,f2⟩
 subst kD;rcases jH with ⟨g1,_⟩|⟨gm,F,B,g1,g2,g3,g4,g5,g6,g7,g8⟩
 ·rw[dj] at g1;cases g1
 rw[dj] at g1;cases g1;have k7:F.size=U*(aO r m).size:=by
  unfold World.shape? at ik;rw[g2] at ik;simp at ik;rw[<-sn] at ik;rw[dt] at ik;exact ik.2
 have sq:(F.toList.take (l.length*(aO r m).size)).length=l.length*(aO r m).size:=bQ
 have lS: ∀(i j:Nat) (p:List T) (x:T) (u:Value),l[i]? =some p->p[j]? =some x->(F.toList.take (l.length*(aO r m).size))[i*(aO r m).size+j]? =some u->gK r w (own K β s.H) ((aO r m).ek j) x u (B i j):=by
  intro i j p x u h1 h2 h3;rw[ft] at h3;split at h3
  ·exact(g5 i j p x u h1 h2 (by simpa using h3)).none
  cases h3
 simp only[Nat.zero_mul];by_cases Y:l.length+o.length<=U
 ·have nu:l.length*(aO r m).size+Q.length<=F.size:=by rw[oj,k7,<-dp];exact dA _ Y
  have L:=run_append_room (P:=K.P) w t ty (aO r m).ty i hu mv b l.length U F g2 ⟨cu,off,none⟩ o.length BD Q (by rw[N];exact oj) H8 la Y (by rw[N];exact nu);rw[N] at L;have M:(F.toList.take (l.length*(aO r m).size)++Q++F.toList.drop (l.length*(aO r m).size+Q.length)).toArray.size=F.size:=by
   simp;omega
  generalize lQ:w.setRow b (F.toList.take (l.length*(aO r m).size)++Q++F.toList.drop (l.length*(aO r m).size+Q.length)).toArray=W at L;have adM:own K β s.H b:= .inr ⟨k,by rw[hk];simp,.inl ⟨_,dj⟩⟩;have HE:Ext (own K β s.H) w W:=by
   subst lQ;exact⟨rfl,rfl,rfl,aV,λkk _ hx=>setRow_other _ _ _ _ λe0=>hx (e0▸adM)⟩
  have ad0:Shaped β w W:=by subst lQ;intro gm _;exact DG g2 M gm
  have hrel:=h.setRow k b (.inl ⟨_,dj⟩) F (aO r m).ty g2 (F.toList.take (l.length*(aO r m).size)++Q++F.toList.drop (l.length*(aO r m).size+Q.length)).toArray M (.a8 r m gen (l++o) (h7 l.length C)) (by rw[hk];simp)
   ⟨iM,Or.inr ⟨b,_,B,dj,setRow_heap _ _ _ _ _ _ g2,by rw[M,k7,dE];exact dA _ Y,xI,
    λi j p x u aJ a2 a3=>by
     rw[lQ];exact f B β W (own K β s.H) (λv u H6=>H6.mono HE (λ_ _ h=>h) (dv.refl _) ad0) (λx u H9=>H9.mono HE λ_ _ h=>h) (λi j c I=>(g6 i j c I).1) _ _ sq
      (λi j p x u cU cu eT=>(lS i j p x u cU cu eT).mono HE (λ_ _ h=>h) λc I=>by subst lQ;exact setRow_other _ _ _ _ (g6 i j c I).2.2) i j p x u aJ a2 (by simpa using a3),
    λi j c I=>⟨by have:=(g6 i j c I).1;rw[dE];omega,(g6 i j c I).2⟩,g7,g8⟩⟩
  rw[lQ] at hrel;have xF:=hrel.ab4 k (.a8 r m gen (l++o) (h7 l.length C)) (.a8 r m (gen+1) (l++o) (h7 l.length C)) gen (some b) dj iM (bW _ _ _) (λD ie H' cJ k8 hr=>by
   have hQ:=(hrel.heap k _ (bW _ _ _)).2;rcases hQ.2 with ⟨e1,_⟩|⟨gm,e7,Rr,e1,e2,mo,xm,xn,ag3,ag4,ag5⟩
   ·rw[dj] at e1;cases e1
   rw[dj] at e1;cases e1;exact⟨O,.inr ⟨b,e7,Rr,H',e2,mo,xm,λi j p x u c1 c2 eZ=>⟨λv bJ=>⟨k8 _ _ ((xn i j p x u c1 c2 eZ).1 v bJ).1,((xn i j p x u c1 c2 eZ).1 v bJ).2⟩,λjJ=>((xn i j p x u c1 c2 eZ).2 jJ).mono (Ext.refl _ _) (λc _=>hr c) λ_ _=>rfl⟩,ag3,ag4,λc=>(cJ c).trans (ag5 c)⟩⟩)
  have xv:aU (aU s.H k (some (.a8 r m gen (l++o) (h7 l.length C)))) k (some (.a8 r m (gen+1) (l++o) (h7 l.length C)))=aU s.H k (some (.a8 r m (gen+1) (l++o) (h7 l.length C))):=by
   funext j;by_cases hj:j=k
   ·subst hj;rw[bW,bW]
   rw[bX _ _ _ _ hj,bX _ _ _ _ hj,bX _ _ _ _ hj]
  simp only[xv] at xF;refine⟨_,_,_,L,xF,?_⟩;have il:bn (β.put k (some (some b,gen+1))) W (own K (β.put k (some (some b,gen+1))) (aU s.H k (some (.a8 r m (gen+1) (l++o) (h7 l.length C))))) (.bc k (gen+1) (aO r m).size 0 (l.length+o.length)) (.slice (some ⟨b,0*(aO r m).size,none⟩) (l.length+o.length) U):=by
   refine .bc k (gen+1) (aO r m).size 0 _ U b (U*(aO r m).size) (aO r m).ty O (bW _ _ _) (by subst lQ;simpa using hw) ?_ (by rw[dt]) Y mw;subst lQ;unfold World.shape?;rw[setRow_heap _ _ _ _ _ _ g2];simp only[M,k7]
  rw[gi] at il;exact il
 have holds: ∀j u,(F.toList.take (l.length*(aO r m).size))[j]? =some u->w.cell? ((⟨b,0,none⟩:Addr).add j)=some u:=by
  intro j u hj;rw[jh,dt];rw[ft] at hj;split at hj
  ·simp only[World.cell?,g2];simpa using hj
  cases hj
 have L:=run_append_grow (P:=K.P) w t ty (aO r m).ty i z hu mv hi2 ⟨b,0,none⟩ l.length U (F.toList.take (l.length*(aO r m).size)) (by rw[N];exact sq) holds ⟨cu,off,none⟩ o.length BD Q (by rw[N];exact oj) H8 O O (growslice_fits O kE);obtain⟨D,f1,f2⟩:=finish B (F.toList.take (l.length*(aO r m).size)) (grownCap w (l.length+o.length) U (aO r m).ty) sq (grownCap_ge w _ U (aO r m).ty) (grownCap_le_maxLen w _ U (aO r m).ty hm) lS (λi j c I=>⟨(g6 i j c I).1,(g6 i j c I).2.1⟩) g7 g8;exact⟨_,_,D,L,f1,f2⟩
def p8(a:Nat)(c:List V):List (Nat×Nat×V)->List (Nat×Nat×V)
 | []=>[]
 |h::e=>(h.1,h.2.1,match Nat.ble a h.2.1,c[h.2.1-a]? with
  |true,some v=>v
  |_,_=>h.2.2)::p8 a c e
theorem Aw{off:Nat}{vs:List V}{i j:Nat}{v:V}: ∀{a:List (Nat×Nat×V)},(i,j,v)∈a-> ∃c,(i,j,c)∈p8 off vs a
 |h::a,hm=>by
  rcases dP.1 hm with rfl|hm
  ·exact⟨_,eX⟩
  obtain⟨c,e⟩:=Aw hm;exact⟨c,eA _ e⟩
theorem zu{off:Nat}{vs:List V}{i j:Nat}{v:V}: ∀{c:List (Nat×Nat×V)},(i,j,v)∈p8 off vs c-> ∃a,(i,j,a)∈c/\(off<=j-> ∀x,vs[j-off]? =some x->v=x)/\(¬(off<=j/\j<off+vs.length)->v=a)
 |h::c,hm=>by
  rcases dP.1 hm with e|hm
  ·simp only[Prod.mk.injEq] at e;obtain⟨rfl,rfl,rfl⟩:=e;refine⟨h.2.2,eX,λl x k=>?_,λm=>?_⟩
   ·rw[Nat.ble_eq_true_of_le l,k]
   split
   ·rename_i v n k
    have:=(bR.1 k).1
    have:=ea n;exact bB ⟨this,O⟩ m
   rfl
  obtain⟨a,o,p⟩:=zu hm;exact⟨a,eA _ o,p⟩
theorem WE{gen:Nat}{a:List (List T)}(h:cH D w X k (.a8 G m gen a U)){c:T}(o:a[i]? =some l)(r:l[n]? =some c):
  ∃(b:Nat) (e:Array Value) (N:Nat->Prop) (x:Value),D k=some (some b,gen)/\w.heap[b]? =some (.cells e (aO G m).ty (0,0))/\e[i*(aO G m).size+n]? =some x/\Cell G m U D w X i n c x N:=by
 rcases h.2 with ⟨_,q,_⟩|⟨b,e,B,y,q,I,A,C,_⟩
 ·rw[q] at o;simp at o
 have F:i<a.length:=(bR.1 o).1;have L:n<(aO G m).size:=by
  have:=(bR.1 r).1;rw[A l (bE o)] at this;exact this
 have p:i*(aO G m).size+n<e.size:=by
  have:(i+1)*(aO G m).size<=a.length*(aO G m).size:=dA _ F;rw[dp] at this;omega
 exact⟨b,e,_,e[i*(aO G m).size+n],y,q,by simp[p],C i n l c _ o r (by simp[p])⟩
section nO
variable {P:Program} {H:Nat->Option E} {d:Option Tmp} {ty:TypeId} {pos:String} {af:Array Edge} {g:Option (Nat×Bool)}
variable {t:TypeId} {u:TypeDesc} {z:Value} {size bytes:Nat}
theorem Dg(x:Operand)(o gen i a:Nat)(n:List dQ)(m:Nat)(B:Nat)(e:List (List T))(p:List (Nat×Nat×V))(l:List T)(c:T)(v:V)(G:cd P t u z size bytes)(I:kt u=false)(L:H o=some (.a8 n m gen e p))(Q:(aO n m).size=B)
  (R:e[i]? =some l) (U:l[a]? =some c) (q:(i,a,v)∈p\/((∀v,(i,a,v)∉p)/\(aO n m).ek a=none/\v= .t c)):
  b9 P H ⟨d,.load t x,ty,pos,af,g⟩ [.cC o gen B i a] v:=by
 subst Q;intro β w X ρ W Y;obtain⟨b,us,N,y,f,j,C,D⟩:=WE (W o _ L) R U;obtain⟨gm,r,M⟩:=oB Y.1 f;cases r;have hlt:=(jt.1 C).1;have k:w.cell? ⟨b,i*(aO n m).size+a,none⟩=some y:=by
  simp only[World.cell?,j];exact C
 refine⟨y,?_,?_⟩
 ·simp[execOp,M,Instr.loadAt,Instr.sureAddr,G.CR w I k]
 rcases q with q|⟨A,hk,rfl⟩
 ·exact(D.1 v q).1
 have F:=D.2 A;rw[hk] at F;cases F with|jj _ _ _ h _=>exact .t _ _ h
theorem JU(x:Operand)(A gen i a:Nat)(k:List dQ)(m:Nat)(L:Nat)(e:List (List T))(Q:List (Nat×Nat×V))(h:List T)(C:List V)(R:cd P t u z size bytes)(U:kt u=true)(W:H A=some (.a8 k m gen e Q))(Y:(aO k m).size=L)
  (n:e[i]? =some h) (cE:a+size<=h.length) (o:C.length=size) (f: ∀j v,C[j]? =some v->(i,a+j,v)∈Q):
  b9 P H ⟨d,.load t x,ty,pos,af,g⟩ [.cC A gen L i a] (.agg C):=by
 subst Y;intro β w X ρ M N;rcases(M A _ W).2 with ⟨_,D,_⟩|⟨b,F,B,h1,D,h3,h4,h5,_⟩
 ·rw[D] at n;simp at n
 obtain⟨gm,G,hx⟩:=oB N.1 h1;cases G;have aH:i<e.length:=(bR.1 n).1;have hrl:h.length=(aO k m).size:=h4 h (bE n);have p: ∀j,j<size->i*(aO k m).size+a+j<F.size:=by
  intro j q
  have:(i+1)*(aO k m).size<=e.length*(aO k m).size:=dA _ aH;rw[dp] at this;omega
 have l: ∀j,j<size->w.cell? ⟨b,i*(aO k m).size+a+j,none⟩=some (F.getD (i*(aO k m).size+a+j) undef):=λj q=>by
  have:=p j q;simp[World.cell?,D,this]
 refine⟨_,by simp[execOp,hx,Instr.loadAt,Instr.sureAddr,R.CS w U l];rfl,?_⟩;refine .agg _ _ (by simp[o]) λj c v r y=>?_;have q:j<size:=by
  have:=(bR.1 r).1;omega
 simp only[List.getElem?_toArray,List.getElem?_map,List.getElem?_range q,Option.map_some,Option.some.injEq] at y;have I:=br (O:a+j<h.length)
 have:=p j q;have h6:=(h5 i (a+j) h _ F[i*(aO k m).size+a+j] n I (by rw[<-pP];simp[this])).1 c (f j c r);rw[<-y];simp only[Array.getElem?_eq_getElem this,Option.getD_some];exact h6.1
theorem T1(x:Operand)(n gen o i c k a:Nat)(C:Array Field)(h:Field)(F:TypeDesc)(G:Value)(l p:Nat)(I:P.underlying t=some (.struct C))(L:C[k]? =some h)(Q:h.offset=a)(r:cd P h.type F G l p)(y:(l==0)=false)
  (e:E) (R:H n=some e) (U:e.gen=some gen):b9 P H ⟨d,.fieldAddr t x k,ty,pos,af,g⟩ [.cC n gen o i c] (.cC n gen o i (c+a)):=by
 intro j w X v W Y;obtain⟨A,q,D⟩:=oT (W n _ R) U;obtain⟨b,B,f⟩:=oB Y.1 D;subst B;have m:l≠0:=by simpa using y
 refine⟨.pointer (some ⟨b,i*o+(c+a),none⟩),?_,.cC _ _ _ _ _ _ A D⟩;simp[execOp,f,Instr.fieldAt,run_underlying I,L,Instr.sureAddr,fieldPlace,r.run_sizeOf,m,jh,Q,Nat.add_assoc]
theorem TZ(x y:Operand)(e:TypeId)(k gen a c n:Nat)(r:E)(C:H k=some r)(D:r.gen=some gen)(F:P.underlying t=some (.slice e))(G:cd P e u z size bytes)(W:n<c):
  b9 P H ⟨d,.indexAddr t x y,ty,pos,af,g⟩ [.bc k gen size a c,.t (.int .i64 (n:Nat))] (.cC k gen size (a+n) 0):=by
 intro Y w X I L l;have cJ:=dF l.2.1;generalize A:I x=v at l;have i:=l.1;simp only[A] at i;obtain⟨o,q,B⟩:=oT (L k _ C) D;rcases fa i B with ⟨Q,b,m,R,rfl,p,f,j,U,M,N⟩|⟨_,_,T,_⟩
 ·subst p;refine⟨.pointer (some ⟨b,(a+n)*size+0,none⟩),?_,.cC _ _ _ _ _ b o B⟩;simp[execOp,A,cJ,Instr.indexAt,asIntOf,run_underlying F,G.run_sizeOf,jh,Nat.add_mul];intro h;omega
 omega
theorem UX(x:Operand)(e:TypeId)(l gen h i c:Nat)(p:P.underlying t=some (.slice e))(n:E)(r:H l=some n)(y:n.gen=some gen):b9 P H ⟨d,.call {callee:= .builtin .len,args:= #[x],argTypes:= #[t]},ty,pos,af,g⟩ [.bc l gen h i c] (.t (.int .i64 (c:Nat))):=by
 intro A w X o B C;obtain⟨a,cap,k⟩: ∃a cap,o x= .slice a c cap:=by
  have D:bn A w X (.bc l gen h i c) (o x):=C.1;obtain⟨_,q,F⟩:=oT (B l _ r) y;rcases fa D F with ⟨cap,b,m,G,k,_⟩|⟨_,_,I,k⟩
  ·exact⟨_,_,k⟩
  exact⟨none,0,by rw[I];exact k⟩
 refine⟨.int .i64 (c:Nat),?_,.t _ _ (.int _ _)⟩;simp[execOp,resolve,invoke,builtin,k,Builtin.len_,run_underlying p,goInt]
end nO
section ops
variable {K:Ctx} {s:S} {d:Option Tmp} {ty:TypeId} {pos:String} {af:Array Edge} {g:Option (Nat×Bool)}
variable {t:TypeId} {u:TypeDesc} {z:Value} {gen size bytes:Nat}
theorem XE(k b f j:Nat)(x y:Operand)(e:TypeId)(r A:List dQ)(m v:Nat)(h c:List (List T))(l:List (Nat×Nat×V))(M: ∀i,d=some i->Nat.blt i K.nt=true)(N:s.get x= .bc k gen size 0 h.length)(hy:s.get y= .bc b f size 0 j)(hk:s.H k=some (.a8 r m gen h []))(G:s.H b=some (.a8 A v f c l))
  (I:aO A v=aO r m) (L:j=c.length) (hu:K.P.underlying t=some (.slice e)) (he:cd K.P e u z size bytes) (R:Nat.beq z.cells.size size=true) (U:(aO r m).size=size) (nr:(aO r m).ty=e) (hs: ∀n,n∈h->n.length=size) (W: ∀n,n∈c->n.length=size)
  (o:0<c.length) (p:wJ (aO r m) c.length l=true) (eu:tC l=true) (a':(h.length+c.length)*bytes<=140737488355328) (hm:h.length+c.length<=9223372036854775807):
  dT K ⟨d,.call {callee:= .builtin .append,args:= #[x,y],argTypes:= #[t,t]},ty,pos,af,g⟩ s
   (({s with H:=aU s.H k (some (.a8 r m (gen+1) (h++c) (h7 h.length l)))}:S).put d (.bc k (gen+1) size 0 (h.length+c.length))):=by
 intro β a w next Q F X
 have B:=F.get x;rw[N] at B;have C:=F.get y;rw[hy] at C;have q:=zP.of F G L (by rw[I,U];exact C) o eu (by rw[I];exact p);rw[I,U] at q;obtain⟨dx,w',Y,h1,h2,h4⟩:=F.ab3 k r m h c l hk U nr ty hu he (cN R) hs W _ _ B q o p a' (by unfold maxLen;omega);unfold Oper.wp;have D:(execOp a.eval ⟨d,.call {callee:= .builtin .append,args:= #[x,y],argTypes:= #[t,t]},ty,pos,af,g⟩).run K.P w= .ok (.value dx) w':=by
  simp[execOp,resolve,invoke,builtin,h1]
 rw[D];exact X Y _ w' (h2.put d M h4)
theorem TQ(x y:Operand)(id i off:Nat)(k:List dQ)(m:Nat)(o:List (List T))(F:List T)(v:V)(hs:List (Nat×Nat×V))(hx:s.get x= .cC id gen size i off)(bJ:s.get y=v)(sr:v.val=true)(nv:nF v.cs=true)
  (hH:s.H id=some (.a8 k m gen o hs)) (eM:(aO k m).size=size) {l:Nat} (e6:cd K.P t u z l bytes) (H2:v.cs.length=l) (HW:0<l) (G:o[i]? =some F) (cE:off+l<=F.length)
  (mv: ∀n cW U,(n,cW,U)∈hs->off<=cW->cW<off+l->n=i) (hi2: ∀j,j<l-> ∃U,(i,off+j,U)∈hs):
  dT K ⟨none,.store t x y,ty,pos,af,g⟩ s {s with H:=aU s.H id (some (.a8 k m gen o (p8 off v.cs hs)))}:=by
 subst eM;intro β a w next Q b7 hk
 have xM:=b7.get x;rw[hx] at xM;have hQ:=(b7.heap id _ hH).2;rcases hQ.2 with ⟨_,h2,_⟩|⟨b,p,B,h1,h2,h3,h4,h5,h6,lP,k4⟩
 ·rw[h2] at G;simp at G
 obtain⟨gm,jI,sv⟩:=oB xM h1;cases jI;have aH:=(bR.1 G).1;have hrl:F.length=(aO k m).size:=h4 F (bE G);have BP:i*(aO k m).size+off+l<=p.size:=by
  have:(i+1)*(aO k m).size<=o.length*(aO k m).size:=dA _ aH;rw[dp] at this;omega
 have lT:=b7.get y;rw[bJ] at lT;obtain⟨c1,c2⟩:=lT.cells sr;have I:(a.eval y).cells.size=l:=c1.trans H2;have W: ∀e∈(a.eval y).cells.toList,e.oneCell'=true:=by
  intro e he;obtain⟨j,hj⟩:=km.1 he;have hj':(a.eval y).cells[j]? =some e:=by simpa using hj
  have hlt:=(jt.1 hj').1;have bP:=br (O:j<v.cs.length);exact(c2 j _ e bP hj').iU (zc nv bP)
 unfold Oper.wp;have xG:=CZ e6 w b (i*(aO k m).size+off) p _ (a.eval y) h2 I O W;have X:(execOp a.eval ⟨none,.store t x y,ty,pos,af,g⟩).run K.P w= .ok .skip (w.setRow b (p.toList.take (i*(aO k m).size+off)++(a.eval y).cells.toList++p.toList.drop (i*(aO k m).size+off+(a.eval y).cells.toList.length)).toArray):=by
  simp only[execOp,sv,Instr.storeAt,Instr.sureAddr,Sem.run_bind,Sem.run_pure,Result.andThen_ok,xG]
 rw[X];have hlen:(p.toList.take (i*(aO k m).size+off)++(a.eval y).cells.toList++p.toList.drop (i*(aO k m).size+off+(a.eval y).cells.toList.length)).length=p.size:=by
  simp[I];omega
 have Y:own K β s.H b:= .inr ⟨id,by rw[hH];simp,.inl ⟨_,h1⟩⟩;generalize f:(p.toList.take (i*(aO k m).size+off)++(a.eval y).cells.toList++p.toList.drop (i*(aO k m).size+off+(a.eval y).cells.toList.length)).toArray=q at*;have r:q.size=p.size:=by rw[<-f];simpa using hlen
 have L:Ext (own K β s.H) w (w.setRow b q):=⟨rfl,rfl,rfl,aV,λkk _ hx=>setRow_other _ _ _ _ λe0=>hx (e0▸Y)⟩
 have R:Shaped β w (w.setRow b q):=λgm _=>DG h2 r gm;refine hk β _ _ (Rel.setRow b7 id b (.inl ⟨_,h1⟩) p _ h2 q r (.a8 k m gen o (p8 off v.cs hs)) (by rw[hH];simp) ?_);refine⟨hQ.1,.inr ⟨b,q,B,h1,setRow_heap _ _ _ _ _ _ h2,by rw[r];exact h3,h4,λn cW A kn l4 aJ a2 a3=>?_,h6,lP,k4⟩⟩;have hjs:cW<(aO k m).size:=by rw[<-h4 A (bE aJ)];exact(bR.1 a2).1
 by_cases M:n=i/\off<=cW/\cW<off+l
 ·obtain⟨rfl,HL,PL⟩:=M;obtain⟨U,N⟩:=hi2 (cW-off) O;rw[show off+(cW-off)=cW by omega] at N;have C:=h5 n cW A kn p[n*(aO k m).size+cW] aJ a2 (by rw[hG O]);have adB: ∃v1,(n,cW,v1)∈p8 off v.cs hs:=Aw N;obtain⟨v1,lR⟩:=adB;refine⟨λdx D=>⟨?_,(C.1 U N).2⟩,λjJ=>bB lR (jJ v1)⟩;obtain⟨_,_,q2,_⟩:=zu D;have BN:=br (O:cW-off<v.cs.length);have e:=q2 HL _ BN
  have:(a.eval y).cells[cW-off]? =some l4:=by
   rw[<-f] at a3;simp only[List.getElem?_toArray] at a3;rw[gG (by simp[I];omega),gF bQ] at a3;have mo:n*(aO k m).size+cW-(p.toList.take (n*(aO k m).size+off)).length=cW-off:=by
    rw[cG,l5];omega
   rw[mo] at a3;simpa using a3
  rw[e];exact(c2 _ _ l4 BN this).mono L (λ_ _ h=>h) (dv.refl _) R
 have hne:n*(aO k m).size+cW<i*(aO k m).size+off\/i*(aO k m).size+off+l<=n*(aO k m).size+cW:=by
  rcases Nat.lt_trichotomy n i with h|h|h
  ·have:=dA (aO k m).size (O:n+1<=i);rw[dp] at this;omega
  ·subst h
   have: ¬(off<=cW/\cW<off+l):=λh=>M ⟨rfl,h⟩;omega
  have:=dA (aO k m).size (O:i+1<=n);rw[dp] at this;omega
 have C:p[n*(aO k m).size+cW]? =some l4:=by
  rw[<-f] at a3;simp only[List.getElem?_toArray,List.getElem?_append,List.length_append,List.length_take,List.getElem?_take,List.getElem?_drop,Array.length_toList,I] at a3;rw[show min (i*(aO k m).size+off) p.size=i*(aO k m).size+off by omega] at a3;rcases hne with hlt|iN
  ·rw[a1 O,a1 O,a1 O] at a3;simpa using a3
  rw[aY O] at a3;rw[show i*(aO k m).size+off+l+(n*(aO k m).size+cW-(i*(aO k m).size+off+l))=n*(aO k m).size+cW by omega] at a3;simpa using a3
 have o8:=h5 n cW A kn l4 aJ a2 C;have hc1:=o8.mono (β':=β) L (λ_ _ h=>h) (dv.refl _) R λc bP=>setRow_other _ _ _ _ (h6 _ _ _ bP).2.2;refine⟨λdx D=>?_,λjJ=>hc1.2 λdx D=>?_⟩
 ·obtain⟨U,lp,_,py⟩:=zu D;have adJ: ¬(off<=cW/\cW<off+v.cs.length):=λh=>M ⟨mv _ _ _ lp h.1 O,h.1,O⟩;rw[py adJ];exact hc1.1 U lp
 obtain⟨v1,lR⟩:=Aw (off:=off) (vs:=v.cs) D;exact jJ v1 lR
theorem Tv(x y:Operand)(id i off:Nat)(k:List dQ)(m:Nat)(o:List (List T))(G:List T)(v:V)(hs:List (Nat×Nat×V))(hx:s.get x= .cC id gen size i off)(bJ:s.get y=v)(sr:v.val=true)(nv:nF v.cs=true)
  (hH:s.H id=some (.a8 k m gen o hs)) (eM:(aO k m).size=size) {l:Nat} (e6:cd K.P t u z l bytes) (H2:v.cs.length=l) (HW:0<l) (I:o[i]? =some G) (cE:off+l<=G.length)
  {L:List (Nat×Nat×V)} (qp: ∀n cW dx,(n,cW,dx)∈L-> ∃F,(n,cW,F)∈hs/\((n=i/\off<=cW/\cW<off+l)->v.cs[cW-off]? =some dx)/\(¬(n=i/\off<=cW/\cW<off+l)->dx=F)) (fG: ∀n cW F,(n,cW,F)∈hs-> ∃v1,(n,cW,v1)∈L) (hi2: ∀j,j<l-> ∃F,(i,off+j,F)∈hs):
  dT K ⟨none,.store t x y,ty,pos,af,g⟩ s {s with H:=aU s.H id (some (.a8 k m gen o L))}:=by
 subst eM;intro β a w next Q b7 hk
 have xM:=b7.get x;rw[hx] at xM;have hQ:=(b7.heap id _ hH).2;rcases hQ.2 with ⟨_,h2,_⟩|⟨b,p,B,h1,h2,h3,h4,h5,h6,lP,k4⟩
 ·rw[h2] at I;simp at I
 obtain⟨gm,jI,sv⟩:=oB xM h1;cases jI;have aH:=(bR.1 I).1;have hrl:G.length=(aO k m).size:=h4 G (bE I);have BP:i*(aO k m).size+off+l<=p.size:=by
  have:(i+1)*(aO k m).size<=o.length*(aO k m).size:=dA _ aH;rw[dp] at this;omega
 have lT:=b7.get y;rw[bJ] at lT;obtain⟨c1,c2⟩:=lT.cells sr;have R:(a.eval y).cells.size=l:=c1.trans H2;have X: ∀e∈(a.eval y).cells.toList,e.oneCell'=true:=by
  intro e he;obtain⟨j,hj⟩:=km.1 he;have hj':(a.eval y).cells[j]? =some e:=by simpa using hj
  have hlt:=(jt.1 hj').1;have bP:=br (O:j<v.cs.length);exact(c2 j _ e bP hj').iU (zc nv bP)
 unfold Oper.wp;have xG:=CZ e6 w b (i*(aO k m).size+off) p _ (a.eval y) h2 R O X;have Y:(execOp a.eval ⟨none,.store t x y,ty,pos,af,g⟩).run K.P w= .ok .skip (w.setRow b (p.toList.take (i*(aO k m).size+off)++(a.eval y).cells.toList++p.toList.drop (i*(aO k m).size+off+(a.eval y).cells.toList.length)).toArray):=by
  simp only[execOp,sv,Instr.storeAt,Instr.sureAddr,Sem.run_bind,Sem.run_pure,Result.andThen_ok,xG]
 rw[Y];have hlen:(p.toList.take (i*(aO k m).size+off)++(a.eval y).cells.toList++p.toList.drop (i*(aO k m).size+off+(a.eval y).cells.toList.length)).length=p.size:=by
  simp[R];omega
 have f:own K β s.H b:= .inr ⟨id,by rw[hH];simp,.inl ⟨_,h1⟩⟩;generalize M:(p.toList.take (i*(aO k m).size+off)++(a.eval y).cells.toList++p.toList.drop (i*(aO k m).size+off+(a.eval y).cells.toList.length)).toArray=q at*;have r:q.size=p.size:=by rw[<-M];simpa using hlen
 have U:Ext (own K β s.H) w (w.setRow b q):=⟨rfl,rfl,rfl,aV,λkk _ hx=>setRow_other _ _ _ _ λe0=>hx (e0▸f)⟩
 have W:Shaped β w (w.setRow b q):=λgm _=>DG h2 r gm;refine hk β _ _ (Rel.setRow b7 id b (.inl ⟨_,h1⟩) p _ h2 q r (.a8 k m gen o L) (by rw[hH];simp) ?_);refine⟨hQ.1,.inr ⟨b,q,B,h1,setRow_heap _ _ _ _ _ _ h2,by rw[r];exact h3,h4,λn cW A kn l4 aJ a2 a3=>?_,h6,lP,k4⟩⟩;have hjs:cW<(aO k m).size:=by rw[<-h4 A (bE aJ)];exact(bR.1 a2).1
 by_cases N:n=i/\off<=cW/\cW<off+l
 ·obtain⟨rfl,HL,PL⟩:=N;obtain⟨F,HR⟩:=hi2 (cW-off) O;rw[show off+(cW-off)=cW by omega] at HR;have C:=h5 n cW A kn p[n*(aO k m).size+cW] aJ a2 (by rw[hG O]);obtain⟨v1,lR⟩:=fG _ _ _ HR;refine⟨λdx D=>⟨?_,(C.1 F HR).2⟩,λjJ=>bB lR (jJ v1)⟩;obtain⟨_,_,q2,_⟩:=qp _ _ _ D;have BN:=q2 ⟨rfl,HL,PL⟩
  have:(a.eval y).cells[cW-off]? =some l4:=by
   rw[<-M] at a3;simp only[List.getElem?_toArray] at a3;rw[gG (by simp[R];omega),gF bQ] at a3;have mo:n*(aO k m).size+cW-(p.toList.take (n*(aO k m).size+off)).length=cW-off:=by
    rw[cG,l5];omega
   rw[mo] at a3;simpa using a3
  exact(c2 _ _ l4 BN this).mono U (λ_ _ h=>h) (dv.refl _) W
 have hne:n*(aO k m).size+cW<i*(aO k m).size+off\/i*(aO k m).size+off+l<=n*(aO k m).size+cW:=by
  rcases Nat.lt_trichotomy n i with h|h|h
  ·have:=dA (aO k m).size (O:n+1<=i);rw[dp] at this;omega
  ·subst h
   have: ¬(off<=cW/\cW<off+l):=λh=>N ⟨rfl,h⟩;omega
  have:=dA (aO k m).size (O:i+1<=n);rw[dp] at this;omega
 have C:p[n*(aO k m).size+cW]? =some l4:=by
  rw[<-M] at a3;simp only[List.getElem?_toArray,List.getElem?_append,List.length_append,List.length_take,List.getElem?_take,List.getElem?_drop,Array.length_toList,R] at a3;rw[show min (i*(aO k m).size+off) p.size=i*(aO k m).size+off by omega] at a3;rcases hne with hlt|iN
  ·rw[a1 O,a1 O,a1 O] at a3;simpa using a3
  rw[aY O] at a3;rw[show i*(aO k m).size+off+l+(n*(aO k m).size+cW-(i*(aO k m).size+off+l))=n*(aO k m).size+cW by omega] at a3;simpa using a3
 have o8:=h5 n cW A kn l4 aJ a2 C;have hc1:=o8.mono (β':=β) U (λ_ _ h=>h) (dv.refl _) W λc bP=>setRow_other _ _ _ _ (h6 _ _ _ bP).2.2;refine⟨λdx D=>?_,λjJ=>hc1.2 λdx D=>?_⟩
 ·obtain⟨F,lp,_,py⟩:=qp _ _ _ D;rw[py N];exact hc1.1 F lp
 obtain⟨v1,lR⟩:=fG _ _ _ D;exact jJ v1 lR
end ops
def E.gen?:E->Option Nat
 | .cells _=>none
 | .arr _ gen _ _=>some gen
 | .a8 _ _ gen _ _=>some gen
theorem AW{g:Nat}{W:E}(c:W.gen? =some g)(h:cH D w X i W):1<=g/\ ∃q,D i=some (q,g):=by
 cases W with
 |cells cs=>cases c
 |arr ty gen size a=>cases c;exact⟨h.1,jq h⟩
 |a8 e m gen a k=>cases c;exact⟨h.1,ts h⟩
section nO
variable {P:Program} {H:Nat->Option E} {d:Option Tmp} {ty:TypeId} {pos:String} {af:Array Edge} {g:Option (Nat×Bool)}
variable {t:TypeId} {u:TypeDesc} {z:Value} {size bytes:Nat}
def qe(c:Nat)(h i:Option Operand)(e:Operand->Value)(a b:Nat):Prop:=
 (match h with|some x=>e x= .int .i64 (a:Nat)|none=>a=0)/\(match i with|some x=>e x= .int .i64 (b:Nat)|none=>b=c)
theorem AP{P:Program}{len a:Nat}{k e:Option Operand}{c:Operand->Value}(h:qe len k e c a b)(n:a<=b)(o:b<=i)(w:World):(Instr.sliceBounds true len i (k.map c) (e.map c) none).run P w= .ok (a,b,i) w:=by
 obtain⟨m,l⟩:=h;cases k with
 |none=>
  have m:a=0:=m;subst m;cases e with
  |none=>
   have l:b=len:=l;subst l;simp[Instr.sliceBounds]
  |some y=>
   have l:c y=_:=l;simp[Instr.sliceBounds,l,jD w b i _ o]
 |some x=>
  have m:c x=_:=m;cases e with
  |none=>
   have l:b=len:=l;subst l;simp[Instr.sliceBounds,m,jD w a b _ n]
  |some y=>
   have l:c y=_:=l;simp[Instr.sliceBounds,m,l,jD w b i _ o,jD w a b _ n]
theorem aaj(x:Operand)(r y:Option Operand)(e:TypeId)(m gen h c a b:Nat)(L:E)(Y:H m=some L)(f:L.gen? =some gen)(Q:P.underlying t=some (.slice e))(R:cd P e u z size bytes)
  (j:a<=b) (h2:b<=c) (h3:a=0\/a<c) {i:List V} (v: ∀A w X (k:Operand->Value),dw A w X i (r.toList.map k++y.toList.map k)->qe c r y k a b):
  b9 P H ⟨d,.slice t x r y none,ty,pos,af,g⟩ (.bc m gen size h c::i) (.bc m gen size (h+a) (b-a)):=by
 intro A w X k M D;obtain⟨B,q,F⟩:=AW f (M m _ Y);have D:dw A w X (.bc m gen size h c::i) (k x::(r.toList.map k++y.toList.map k)):=by
  cases r<;>cases y<;>simpa[Op.operands] using D
 have C:qe c r y k a b:=v A w X k D.2;have N:bn A w X (.bc m gen size h c) (k x):=D.1;rcases fa N F with ⟨l,U,n,G,o,p,T,hs,cJ,cE,hm⟩|⟨p,h0,I,o⟩
 ·subst p;refine⟨.slice (some ⟨U,(h+a)*size,none⟩) (b-a) (l-a),?_,.bc m gen size (h+a) (b-a) (l-a) U n G B F T hs (by rw[<-cJ];congr 1;omega) O O⟩;simp only[execOp,Sem.run_bind,Instr.sliceAt,Instr.slice,run_underlying Q,Result.andThen_ok,o,Option.map_none,Option.map_some,AP C j (O:b<=l),R.run_sizeOf,Sem.run_pure];by_cases W:l=a
  ·rw[a1 W]
   have:a=0:=O
   subst this;simp
  rw[aY W];simp[jh,Nat.add_mul]
 subst p;subst h0;subst I;have e1:b=0:=O
 have e2:a=0:=O
 subst e1;subst e2;refine⟨.slice none 0 0,?_,.hz m gen size B F⟩;simp only[execOp,Sem.run_bind,Instr.sliceAt,Instr.slice,run_underlying Q,Result.andThen_ok,o,Option.map_none,AP C (Nat.le_refl _) (Nat.le_refl 0),R.run_sizeOf,Sem.run_pure];simp
theorem Y3(x:Operand)(p q:Option Operand)(e f:TypeId)(m gen c h a b:Nat)(l:List (List T))(j:H m=some (.arr f gen size l))(v:P.underlying t=some (.slice e))(M:cd P e u z size bytes)
  (N:0<size) (h1:a<b) (U:c+b<=l.length) {i:List V} (a': ∀r w X (k:Operand->Value),dw r w X i (p.toList.map k++q.toList.map k)->qe h p q k a b):
  b9 P H ⟨d,.slice t x p q none,ty,pos,af,g⟩ (.bc m gen size c h::i) (.bc m gen size (c+a) (b-a)):=by
 intro r w X k jH D;have y:=jH m _ j;have F:=y.1;have D:dw r w X (.bc m gen size c h::i) (k x::(p.toList.map k++q.toList.map k)):=by
  cases p<;>cases q<;>simpa[Op.operands] using D
 have G:qe h p q k a b:=a' r w X k D.2;have hx:bn r w X (.bc m gen size c h) (k x):=D.1;rcases y.2 with ⟨I,L⟩|⟨W,us,I,g2,g3,g4,g5⟩
 ·subst L;simp at U;omega
 rcases fa hx I with ⟨cap,gm,n,Q,R,o,hw,A,Y,cE,hm⟩|⟨o,_⟩
 ·cases o;have B:us.size=n:=by
   unfold World.shape? at A;rw[g2] at A;simp at A;exact A.2
  have C:b<=cap:=by
   have h3:(c+b)*size<=(c+cap)*size:=by
    rw[Y,<-B];exact gE (dA _ U) g3
   have:=Nat.le_of_mul_le_mul_right h3 N;omega
  refine⟨.slice (some ⟨W,(c+a)*size,none⟩) (b-a) (cap-a),?_,.bc m gen size (c+a) (b-a) (cap-a) W n Q F I hw A (by rw[<-Y];congr 1;omega) O O⟩;simp only[execOp,Sem.run_bind,Instr.sliceAt,Instr.slice,run_underlying v,Result.andThen_ok,R,Option.map_none,Option.map_some,AP G (O:a<=b) C,M.run_sizeOf,Sem.run_pure];rw[aY (show¬cap=a by omega)];simp[jh,Nat.add_mul]
 cases o
theorem Y4(x:Operand)(o p:Option Operand)(e:TypeId)(r gen h m c a:Nat)(G:E)(L:H r=some G)(Q:G.gen? =some gen)(R:P.underlying t=some (.slice e))(U:cd P e u z size bytes)
  (N:a<=c) {i:List V} (W: ∀y w X (k:Operand->Value),dw y w X i (o.toList.map k++p.toList.map k)->qe c o p k a a):
  b9 P H ⟨d,.slice t x o p none,ty,pos,af,g⟩ (.bc r gen h m c::i) (.t (.aD [])):=by
 intro y w X k Y A;obtain⟨b,q,f⟩:=AW Q (Y r _ L);have A:dw y w X (.bc r gen h m c::i) (k x::(o.toList.map k++p.toList.map k)):=by
  cases o<;>cases p<;>simpa[Op.operands] using A
 have C:qe c o p k a a:=W y w X k A.2;have j:bn y w X (.bc r gen h m c) (k x):=A.1;obtain⟨B,cap,l,I⟩: ∃B cap,k x= .slice B c cap/\c<=cap:=by
  rcases fa j f with ⟨cap,T,n,v,l,D,hw,hs,cJ,M,hm⟩|⟨D,h0,F,l⟩
  ·exact⟨_,cap,l,M⟩
  exact⟨none,0,by rw[F];exact l,O⟩
 refine⟨.slice (if cap=a then B else B.map (·.add (a*size))) (a-a) (cap-a),?_,.t _ _ (by rw[jS];exact .fY _ _)⟩;simp only[execOp,Sem.run_bind,Instr.sliceAt,Instr.slice,run_underlying R,Result.andThen_ok,l,Option.map_none,AP C (Nat.le_refl _) (O:a<=cap),U.run_sizeOf,Sem.run_pure]
theorem Uf(x:Operand)(e gen a i c:Nat)(h:E)(m:H e=some h)(n:h.gen? =some gen):b9 P H ⟨d,.nilCheck x,ty,pos,af,g⟩ [.cC e gen a i c] (.cC e gen a i c):=by intro o w X k p r;obtain⟨y,q,A⟩:=AW n (p e _ m);have l:bn o w X (.cC e gen a i c) (k x):=r.1;obtain⟨b,_,B⟩:=oB l A;exact⟨k x,by simp[execOp,B],l⟩
theorem X8(x C D F:Operand)(e:TypeId)(o gen h l i a b c:Nat)(G:E)(Q:H o=some G)(R:G.gen? =some gen)(U:P.underlying t=some (.slice e))(W:cd P e u z size bytes)
  (Y:a<=b) (f:b<=c) (h3:c<=i):b9 P H ⟨d,.slice t x (some C) (some D) (some F),ty,pos,af,g⟩ [.bc o gen h l i,.t (.int .i64 (a:Nat)),.t (.int .i64 (b:Nat)),.t (.int .i64 (c:Nat))] .c4:=by
 intro j w X m v p;obtain⟨M,q,N⟩:=AW R (v o _ Q);have T:bn j w X (.bc o gen h l i) (m x):=p.1;have y:m C=_:=dF p.2.1;have V:m D=_:=dF p.2.2.1;have I:m F=_:=dF p.2.2.2.1;obtain⟨r,cap,k,L⟩: ∃r cap,m x= .slice r i cap/\i<=cap:=by
  rcases fa T N with ⟨cap,gm,n,hD,k,A,hw,hs,cJ,y,I⟩|⟨A,h0,B,k⟩
  ·exact⟨_,cap,k,y⟩
  exact⟨none,0,by rw[B];exact k,O⟩
 refine⟨.slice (if c=a then r else r.map (·.add (a*size))) (b-a) (c-a),?_,.c4 _⟩;simp[execOp,k,y,V,I,Instr.sliceAt,Instr.slice,run_underlying U,Instr.sliceBounds,jD w c cap _ O,jD w b c _ f,jD w a b _ Y,W.run_sizeOf]
end nO
section steps
variable {K:Ctx} {s:S} {d:Option Tmp} {ty:TypeId} {pos:String} {af:Array Edge} {g:Option (Nat×Bool)}
variable {t:TypeId} {u:TypeDesc} {z:Value} {size bytes gen:Nat}
theorem M9(Q:Rel K D s a w)(q b:Nat)(e:TypeId)(o c:List (List T))(r n:Array Value)(G:s.H q=some (.arr e gen size o))(y:D q=some (some b,gen))(p:w.heap[b]? =some (.cells r e (0,0)))
  (I:n.size=r.size) (R:c.length*size<=r.size) (A: ∀l,l∈c->l.length=size)
  (bP: ∀(i j:Nat) (l:List T) (x:T) (u:Value),c[i]? =some l->l[j]? =some x->n[i*size+j]? =some u->(∃(F:Nat) (m:List T),o[F]? =some m/\m[j]? =some x/\r[F*size+j]? =some u)\/(∀w X,cX w X x u)):
  Rel K D {s with H:=aU s.H q (some (.arr e gen size c))} a (w.setRow b n):=by
 refine Rel.setRow Q q b (.inl ⟨_,y⟩) r e p n I (.arr e gen size c) (by rw[G];simp) ?_;have L:own K D s.H b:= .inr ⟨q,by rw[G];simp,.inl ⟨_,y⟩⟩;have B:=(Q.heap q _ G).2;refine⟨B.1,.inr ⟨b,n,y,setRow_heap _ _ _ _ _ _ p,O,A,λi j l x u aJ a2 a3=>?_⟩⟩;rcases bP i j l x u aJ a2 a3 with ⟨F,m,W,Y,f⟩|bP
 ·rcases B.2 with ⟨C,_⟩|⟨cu,v,C,U,h3,h4,M⟩
  ·rw[y] at C;cases C
  rw[y] at C;cases C;rw[p] at U;cases U;exact(M F j m x u W Y f).mono ⟨rfl,rfl,rfl,aV,λk _ N=>setRow_other _ _ _ _ λV=>N (V▸L)⟩ λ_ _ h=>h
 exact bP _ _
theorem Rel.yr(k:Rel K β s a w)(c:Nat)(e:E)(l:s.H c=some e):Rel K β {s with H:=aU s.H c (some e)} a w:=by
 have:aU s.H c (some e)=s.H:=by
  funext i;by_cases h:i=c
  ·subst h;rw[bW,l]
  rw[bX _ _ _ _ h]
 rw[this];exact k
end steps
end
section
def di{k:Type}(f:Nat->k):List (Nat×k)->Nat->k
 | []=>f
 |(d,v)::r=>di (aU f d v) r
theorem mz{k:Type}: ∀(l:List (Nat×k)) (f:Nat->k) (r:Nat),(∀v,(r,v)∉l)->di f l r=f r
 | [],_,_,_=>rfl
 |(d,v)::l,f,r,h=>by rw[di,mz l _ r λa c=>h a (eA _ c),bX _ _ _ _ (by intro e;subst e;exact h v (eX ..))]
theorem AM{k:Type}: ∀(l:List (Nat×k)) (f g:Nat->k) (r:Nat),(∃v,(r,v)∈l)->di f l r=di g l r
 | [],_,_,_,⟨v,h⟩=>by simp at h
 |(d,v)::l,f,g,r,h=>by
  simp only[di];by_cases c: ∃a,(r,a)∈l
  ·exact AM l _ _ r c
  have i:r=d:=by
   obtain⟨a,bJ⟩:=h;rcases dP.1 bJ with e|bJ
   ·cases e;rfl
   exact bB ⟨a,bJ⟩ c
  subst i;rw[mz l _ r λa bJ=>c ⟨a,bJ⟩,mz l _ r λa bJ=>c ⟨a,bJ⟩,bW,bW]
structure cS where
 eH:List (Nat×V)
 hs:List (Nat×Option E):=[]
 us:List (Nat×Bool):=[]
def cS.app(e:cS)(s:S):S:={t:=di s.t e.eH,H:=di s.H e.hs,u:=di s.u e.us}
structure gJ where
 eH:List Nat
 lb:List Nat:=[]
def gJ.same(r:gJ)(s a:S):Prop:=(∀i,i∈r.eH->s.t i=a.t i)/\ ∀k,k∈r.lb->s.H k=a.H k/\s.u k=a.u k
def ib(K:Ctx)(ops:Array Oper)(o:Oper)(s h:S):Prop:=
 ∀i a w next Q,Rel K i s a w->(∀c d e,Rel K c h d e->next d e)->
  if Region.wanted o (yielded ops a.tmps) then o.wp K.P a w next Q\/(o.asks K.P a w/\LetsOut Q) else next (a.put o.dst undef) w
variable {K:Ctx}{ops:Array Oper}{o:Oper}{s:S}{j t:Nat}{want:Bool}
theorem ib.of{b:S}(c:o.guard=none)(h:dT K o s b):ib K ops o s b:=by
 intro β a w next Q d e
 rw[a1 (by simp[Region.wanted,c])];exact .inl (h β a w next Q d e)
theorem ib.gP{s':S}(d:o.guard=some (j,want))(e:(ops[j]?).bind (·.dst)=some t)(i:s.t t= .t (.bool want))(h:dT K o s s'):ib K ops o s s':=by
 intro β a w next Q c k
 have l:yielded ops a.tmps j=some want:=by unfold yielded;rw[e];simp[c.bool i]
 rw[a1 (by simp[Region.wanted,d,l])];exact .inl (h β a w next Q c k)
theorem ib.out(d:o.guard=some (j,want))(e:(ops[j]?).bind (·.dst)=some t)(h:s.t t= .t (.bool (!want)))(k: ∀i,o.dst=some i->Nat.blt i K.nt=true):ib K ops o s (s.put o.dst (.bL [])):=by
 intro l a w next Q c m
 have n:yielded ops a.tmps j=some (!want):=by unfold yielded;rw[e];simp[c.bool h]
 rw[aY (by simp[Region.wanted,d,n])];exact m l _ w (c.put o.dst k ML)
theorem ib.skip(d:o.guard=some (j,want))(e:(ops[j]?).bind (·.dst)=some t)(h:s.t t= .bL [])(k: ∀i,o.dst=some i->Nat.blt i K.nt=true):ib K ops o s (s.put o.dst (.bL [])):=by
 intro l a w next Q c m
 have hw:=c.afS (ops:=ops) (want:=want) e h;rw[aY (by simp[Region.wanted,d,hw])];exact m l _ w (c.put o.dst k ML)
def gT{k:Type}:List (List (Nat×k))->Nat->(Nat->Bool)->(Nat->k)->Nat->k
 | [],_,_,f=>f
 |l::bY,i,L,f=>gT bY (i+1) L (bif L i then di f l else f)
theorem DQ{k:Type}: ∀(bY:List (List (Nat×k))) (i:Nat) (L a:Nat->Bool) (f c:Nat->k) (r:Nat),f r=c r->(∀j l,bY[j]? =some l->(∃v,(r,v)∈l)->L (i+j)=a (i+j))->gT bY i L f r=gT bY i a c r
 | [],_,_,_,_,_,_,h,_=>h
 |l::bY,i,L,a,f,c,r,h,m=>by
  simp only[gT];refine DQ bY (i+1) L a _ _ r ?_ λj n o d=>by have:=m (j+1) n o d;rwa [show i+(j+1)=i+1+j by omega] at this
  by_cases e: ∃v,(r,v)∈l
  ·have:=m 0 l rfl e;rw[oL] at this;rw[<-this];cases L i with
   |true=>exact AM l _ _ r e
   |false=>exact h
  have p: ∀g:Nat->k,di g l r=g r:=λg=>mz l g r λv d=>e ⟨v,d⟩;cases L i<;>cases a i<;>simp only[cond_true,cond_false,p]<;>exact h
theorem L3{R:Type}: ∀(bY:List (List (Nat×R))) (i:Nat) (L:Nat->Bool) (f:Nat->R) (r k:Nat) (l:List (Nat×R)),bY[k]? =some l->(∃v,(r,v)∈l)->L (i+k)=true->
  (∀j e,k<j->bY[j]? =some e->(∃v,(r,v)∈e)->L (i+j)=false)-> ∀g:Nat->R,gT bY i L f r=di g l r
 |h::bY,i,L,f,r,0,l,c,m,n,a,g=>by
  simp at c;subst c;simp only[gT];rw[oL] at n;rw[n,cond_true,DQ bY (i+1) L (λ_=>false) (di f h) (di g h) r (AM h _ _ r m) (λj e o d=>by
   have:=a (j+1) e O o d
   rwa [show i+(j+1)=i+1+j by omega] at this)]
  have p: ∀(bY:List (List (Nat×R))) (i:Nat) (f:Nat->R),gT bY i (λ_=>false) f=f:=by
   intro bY;induction bY with
   |nil=>intro _ _;rfl
   |cons l bY q=>intro i f;simp only[gT,cond_false];exact q _ _
  rw[p]
 |h::bY,i,L,f,r,k+1,l,c,m,n,a,g=>by
  simp at c;simp only[gT];exact L3 bY (i+1) L _ r k l c m (by rwa [show i+1+k=i+(k+1) by omega]) (λj e s o d=>by
   have:=a (j+1) e O o d
   rwa [show i+(j+1)=i+1+j by omega] at this) g
 | [],_,_,_,_,_,_,c,_,_,_,_=>by simp at c
def iC(a:List cS)(i:Nat)(L:Nat->Bool)(s:S):S:={t:=gT (a.map (·.eH)) i L s.t,H:=gT (a.map (·.hs)) i L s.H,u:=gT (a.map (·.us)) i L s.u}
def mB(a:Array Oper):Nat->Nat->Nat->Bool
 |0,_,_=>false
 |f+1,i,j=>match a[j]? with
  |none=>false
  |some o=>o.after.toList.any λe=>Region.binds .any e&&(Nat.beq e.on i||mB a f i e.on)
def ln{k:Type}(l:List (Nat×k))(r:List Nat):Bool:=l.any λp=>r.any λx=>Nat.beq p.1 x
def oA{k R:Type}(l:List (Nat×k))(m:List (Nat×R)):Bool:=l.any λp=>m.any λq=>Nat.beq p.1 q.1
def ly(e:cS)(r:gJ)(a:cS)(c:gJ):Bool:=
 ln e.eH c.eH||ln a.eH r.eH||oA e.eH a.eH||ln e.hs c.lb||ln a.hs r.lb||oA e.hs a.hs||ln e.us c.lb||ln a.us r.lb||oA e.us a.us
def mI(c:Array Oper)(n:Nat):Nat->List (cS×gJ)->Bool
 |_,[]=>true
 |i,(e,r)::a=>go i e r (i+1) a&&mI c n (i+1) a
where
 go (i:Nat) (e:cS) (r:gJ):Nat->List (cS×gJ)->Bool
  |_,[]=>true
  |j,(d,h)::a=>(!ly e r d h||mB c n i j)&&go i e r (j+1) a
def rq:Nat->List Oper->Bool
 |_,[]=>true
 |i,o::a=>o.after.toList.all (λe=> !Region.binds .any e||Nat.blt e.on i)&&rq (i+1) a
theorem MS{V:Array Oper}{n i:Nat}{e:cS}{r:gJ}: ∀(l:List (cS×gJ)) (j:Nat),mI.go V n i e r j l=true-> ∀(k:Nat) a c,l[k]? =some (a,c)->ly e r a c=true->mB V n i (j+k)=true
 | [],_,_,_,_,_,h,_=>by simp at h
 |(o,p)::l,j,h,0,a,c,d,m=>by
  simp at d;obtain⟨rfl,rfl⟩:=d;simp only[mI.go,Bool.and_eq_true,m,Bool.not_true,Bool.false_or] at h;exact h.1
 |(o,p)::l,j,h,k+1,a,c,d,m=>by
  simp at d;simp only[mI.go,Bool.and_eq_true] at h
  have:=MS l (j+1) h.2 k a c d m
  rwa [show j+1+k=j+(k+1) by omega] at this
theorem DS{V:Array Oper}{n:Nat}: ∀(l:List (cS×gJ)) (a:Nat),mI V n a l=true-> ∀(i j:Nat) e r c d,l[i]? =some (e,r)->l[j]? =some (c,d)->i<j->ly e r c d=true->mB V n (a+i) (a+j)=true
 | [],_,_,_,_,_,_,_,_,h,_,_,_=>by simp at h
 |(q,s)::l,a,h,0,j,e,r,c,d,k,m,o,p=>by
  simp at k;obtain⟨rfl,rfl⟩:=k;simp only[mI,Bool.and_eq_true] at h;cases j with
  |zero=>omega
  |succ j=>
   simp at m
   have:=MS l (a+1) h.1 j c d m p
   rwa [show a+1+j=a+(j+1) by omega] at this
 |(q,s)::l,a,h,i+1,j,e,r,c,d,k,m,o,p=>by
  simp only[mI,Bool.and_eq_true] at h;cases j with
  |zero=>omega
  |succ j=>
   simp at k m
   have:=DS l (a+1) h.2 i j e r c d k m O p
   rwa [show a+1+i=a+(i+1) by omega,show a+1+j=a+(j+1) by omega] at this
theorem Wn(e:cS)(r:gJ)(a:cS)(c:gJ):ly e r a c=ly a c e r:=by
 have d: ∀{n o:Type} (l:List (Nat×n)) (m:List (Nat×o)),oA l m=oA m l:=by
  intro n o l m;rw[fg];simp only[oA,List.any_eq_true];constructor
  ·rintro⟨p,i,q,k,h⟩;exact⟨q,k,p,i,by have:=cN h;simp[this]⟩
  rintro⟨p,i,q,k,h⟩;exact⟨q,k,p,i,by have:=cN h;simp[this]⟩
 unfold ly;rw[d e.eH,d e.hs,d e.us];cases ln e.eH c.eH<;>cases ln a.eH r.eH<;>cases oA a.eH e.eH<;>cases ln e.hs c.lb<;>cases ln a.hs r.lb<;>cases oA a.hs e.hs<;>cases ln e.us c.lb<;>cases ln a.us r.lb<;>rfl
def Ol(c:Array Oper)(a:Array Bool):Prop:= ∀j o,c[j]? =some o->a.getD j true=true-> ∀e∈o.after,Region.binds .any e=true->a.getD e.on false=true
theorem Jk{V:Array Oper}{a:Array Bool}(m:Ol V a): ∀(f i j:Nat),mB V f i j=true->(∀o,V[j]? =some o-> ∀e∈o.after,Region.binds .any e=true->a.getD e.on false=true)->a.getD i false=true
 |0,_,_,h,_=>by simp[mB] at h
 |f+1,i,j,h,n=>by
  unfold mB at h;cases k:V[j]? with
  |none=>rw[k] at h;simp at h
  |some o=>
   rw[k] at h;simp only[List.any_eq_true,Bool.and_eq_true,Bool.or_eq_true] at h;obtain⟨e,p,q,c⟩:=h;have cE:=n o k e (by simpa using p) q;rcases c with c|c
   ·have:=cN c;rw[<-this];exact cE
   refine Jk m f i e.on c λr l=>m e.on r l ?_;rw[pM] at cE⊢;cases d:a[e.on]? with
   |none=>rw[d] at cE;simp at cE
   |some b=>rw[d] at cE;simpa using cE
def vX(K:Ctx)(a:Array Oper):List Oper->List (cS×gJ)->S->(S->Prop)->Prop
 | [],[],s,Q=>Q s
 |o::os,(e,r)::d,s,Q=>(∀c,r.same c s->ib K a o c (e.app c))/\vX K a os d (e.app s) Q
 |_,_,_,_=>False
end
section
theorem KT{k:Type}: ∀(bY:List (List (Nat×k))) (i:Nat) (L:Nat->Bool) (f:Nat->k),gT bY (i+1) L f=gT bY i (λj=>L (j+1)) f
 | [],_,_,_=>rfl
 |l::bY,i,L,f=>by simp only[gT];exact KT bY (i+1) L _
theorem EZ(e:cS)(a:List cS)(L:Nat->Bool)(s:S):iC (e::a) 0 L s=iC a 0 (λj=>L (j+1)) (bif L 0 then e.app s else s):=by unfold iC;simp only[List.map_cons,gT,Nat.zero_add,KT];cases L 0<;>rfl
theorem y7{K:Ctx}{V:Array Oper}: ∀(l:List Oper) (es:List (cS×gJ)) (s:S) (Q:S->Prop),vX K V l es s Q->
  l.length=es.length/\Q (iC (es.map (·.1)) 0 (λ_=>true) s)/\
  ∀(i:Nat) o e r,l[i]? =some o->es[i]? =some (e,r)-> ∀c,r.same c (iC (es.map (·.1)) 0 (λj=>Nat.blt j i) s)->ib K V o c (e.app c)
 | [],[],s,Q,h=>⟨rfl,h,λi o e r d=>by simp at d⟩
 |o::os,(e,r)::es,s,Q,h=>by
  obtain⟨p,q⟩:=h;obtain⟨aJ,a2,a3⟩:=y7 os es _ Q q;refine⟨by simp[aJ],?_,?_⟩
  ·simp only[List.map_cons,EZ,cond_true];exact a2
  intro i w x y d k c a;cases i with
  |zero=>
   simp at d k;obtain⟨rfl,rfl⟩:=k;subst d;refine p c ?_
   have:iC (List.map (·.1) ((e,r)::es)) 0 (λj=>Nat.blt j 0) s=s:=by
    simp only[List.map_cons,EZ];have m: ∀{n:Type} (bY:List (List (Nat×n))) (i:Nat) (f:Nat->n),gT bY i (λj=>Nat.blt (j+1) 0) f=f:=by
     intro n bY;induction bY with
     |nil=>intro _ _;rfl
     |cons l bY z=>intro i f;simp only[gT];exact z _ _
    show iC (es.map (·.1)) 0 (λj=>Nat.blt (j+1) 0) s=s;unfold iC;simp only[m]
   rw[this] at a;exact a
  |succ i=>
   simp at d k;refine a3 i w x y d k c ?_;simp only[List.map_cons,EZ] at a;exact a
 | [],_::_,_,_,h=>h.elim
 |_::_,[],_,_,h=>h.elim
variable {k:Type}{r:gJ}{x n i:Nat}{v:k}{a:Array Bool}{e:cS}
theorem E5{l:List (Nat×k)}{r:List Nat}(h:(x,v)∈l)(a:x∈r):ln l r=true:=by unfold ln;rw[iz];exact⟨(x,v),h,by rw[iz];exact⟨x,a,aV⟩⟩
theorem D8{R:Type}{l:List (Nat×k)}{m:List (Nat×R)}{a:R}(h:(x,v)∈l)(c:(x,a)∈m):oA l m=true:=by unfold oA;rw[iz];exact⟨(x,v),h,by rw[iz];exact⟨(x,a),c,aV⟩⟩
section
variable {K:Ctx} {l:List Oper} {es:List (cS×gJ)} {s:S}
theorem FE{V:Array Oper}(proj:cS->List (Nat×k))(G:mI V n 0 es=true)(H:es[i]? =some (e,r))(f:Nat->k)(x:Nat)
  (m: ∀c d v,(x,v)∈proj c->ly e r c d=true)
  (o: ∀j,mB V n j i=true->a.getD j false=true) (q: ∀j,j<es.length->mB V n i j=true->a.getD j true=false) (z:a.getD i true=false):
  gT ((es.map (·.1)).map proj) 0 (λj=>a.getD j true) f x=gT ((es.map (·.1)).map proj) 0 (λj=>Nat.blt j i) f x:=by
 refine DQ _ 0 _ _ f f x rfl ?_;intro j Q h ⟨v,I⟩;rw[dt];simp only[List.map_map,List.getElem?_map] at h;cases w:es[j]? with
 |none=>rw[w] at h;cases h
 |some p=>
  obtain⟨c,d⟩:=p;rw[w] at h;simp at h;subst h;have A:j<es.length:=(bR.1 w).1;rcases Nat.lt_trichotomy j i with y|rfl|B
  ·have a':=DS es 0 G j i c d e r w H y (by rw[Wn];exact m c d v I);rw[dt,dt] at a';have C:=o j a';have L:Nat.blt j i=true:=by simpa[Nat.blt_eq] using y
   rw[L];rw[pM] at C⊢;cases D:a[j]? with
   |none=>rfl
   |some b=>rw[D] at C;simpa using C
  ·rw[z];symm;cases a':Nat.blt j j with
   |false=>rfl
   |true=>simp[Nat.blt_eq] at a'
  have a':=DS es 0 G i j e r c d H w B (m c d v I);rw[dt,dt] at a';rw[q j A a'];symm;cases F:Nat.blt j i with
  |false=>rfl
  |true=>simp[Nat.blt_eq] at F;omega
theorem ES{V:Array Oper}(proj:cS->List (Nat×k))(L:mI V n 0 es=true)(H:es[i]? =some (e,r))(f:Nat->k)(B:i<a.size)
  (C: ∀x m A v Q,(x,v)∈proj m->(x,Q)∈proj e->ly e r m A=true) (o: ∀j,j<es.length->mB V n i j=true->a.getD j true=false) (R:a.getD i true=false):
  di (gT ((es.map (·.1)).map proj) 0 (λj=>a.getD j true) f) (proj e)=gT ((es.map (·.1)).map proj) 0 (λj=>(a.setIfInBounds i true).getD j true) f:=by
 funext x;have h: ∀j,j≠i->(a.setIfInBounds i true).getD j true=a.getD j true:=λj D=>by
  simp[Array.getD_eq_getD_getElem?,Array.getElem?_setIfInBounds_ne (Ne.symm D)]
 have F:(a.setIfInBounds i true).getD i true=true:=by
  simp[Array.getD_eq_getD_getElem?,B]
 have q:((es.map (·.1)).map proj)[i]? =some (proj e):=by simp[H]
 by_cases G: ∃v,(x,v)∈proj e
 ·obtain⟨I,w⟩:=G;symm;refine L3 _ 0 _ f x i (proj e) q ⟨I,w⟩ (by rw[dt];exact F) ?_ _;intro j U D c ⟨v,y⟩;rw[dt,h j O];simp only[List.map_map,List.getElem?_map] at c;cases d:es[j]? with
  |none=>rw[d] at c;cases c
  |some p=>
   obtain⟨m,A⟩:=p;rw[d] at c;simp at c;subst c;have a':=DS es 0 L i j e r m A H d D (C x m A v I y w);rw[dt,dt] at a';exact o j (bR.1 d).1 a'
 rw[mz _ _ _ λv y=>G ⟨v,y⟩];refine DQ _ 0 _ _ f f x rfl ?_;intro j U c y;rw[dt];by_cases z:j=i
 ·subst z;rw[q] at c;cases c;exact bB y G
 exact(h j z).symm
theorem K9: ∀(l:List Oper) (a:Nat),rq a l=true-> ∀(i:Nat) o,l[i]? =some o-> ∀e∈o.after,Region.binds .any e=true->e.on<a+i
 | [],_,_,_,_,h=>by simp at h
 |o::l,a,h,0,n,c=>by
  simp at c;subst c;intro e k m;simp only[rq,Bool.and_eq_true,List.all_eq_true,Bool.or_eq_true] at h;rcases h.1 e (by simpa using k) with d|d
  ·rw[m] at d;cases d
  simpa[Nat.blt_eq] using d
 |o::l,a,h,i+1,n,c=>by
  simp at c;simp only[rq,Bool.and_eq_true] at h;intro e k m
  have:=K9 l (a+1) h.2 i n c e k m;omega
theorem Zf{Q:S->Prop}{wA:Exit->Act->World->Prop}(hp:mI l.toArray l.length 0 es=true)(he:rq 0 l=true)(cv:vX K l.toArray l es s Q)
  (Hq: ∀f a w,Rel K f (iC (es.map (·.1)) 0 (λ_=>true) s) a w->wA .normal a w):
  ∀(d:Nat) (c:Array Bool) (U:List Nat),c.size=l.length->U.Nodup->U.length=d->(∀i,c.getD i true=false↔i∈U)->Ol l.toArray c->
   ∀f a w,Rel K f (iC (es.map (·.1)) 0 (λj=>c.getD j true) s) a w->wpAny K.P .any l.toArray wA d c a w:=by
 obtain⟨hlen,_,adL⟩:=y7 l es s Q cv
 -- if nothing is ready, all is done
 have hall: ∀(c:Array Bool) (U:List Nat),c.size=l.length->(∀i,c.getD i true=false↔i∈U)->U≠[]->Region.ready .any l.toArray c≠[]:=by
  intro c U L R g;have key: ∀n,(∃i,i∈U/\i<=n)-> ∃m,m∈U/\ ∀j,j<m->j∉U:=by
   intro n;induction n with
   |zero=>rintro⟨i,aH,hle⟩;exact⟨0,by rwa [show i=0 by omega] at aH,λj W=>O⟩
   |succ n my=>
    rintro⟨i,aH,hle⟩;by_cases h: ∃i,i∈U/\i<=n
    ·exact my h
    have:i=n+1:=by
     rcases Nat.lt_or_ge i (n+1) with E|iN
     ·exact bB ⟨i,aH,O⟩ h
     omega
    subst this;exact⟨n+1,aH,λj W adn=>h ⟨j,adn,O⟩⟩
  obtain⟨x,hx⟩:=Dd U g;obtain⟨m,hm,adC⟩:=key x ⟨x,hx,cQ _⟩;have M:=(R m).2 hm;have PS:m<l.length:=by
   rcases Nat.lt_or_ge m l.length with h|h
   ·exact h
   rw[pM,Array.getElem?_eq_none O] at M;cases M
  intro D
  have:m∈Region.ready .any l.toArray c:=by
   rw[mem_ready];refine⟨M,l[m],by simp[PS],λe ac6 X=>?_⟩;have E:=K9 l 0 he m l[m] (br PS) e ac6 X;rw[dt] at E;have BU:=adC e.on E;have C:c.getD e.on true≠false:=λh=>BU ((R e.on).1 h);have F:e.on<c.size:=O
   simp only[Array.getD_eq_getD_getElem?,Array.getElem?_eq_getElem F,Option.getD_some] at C⊢;simpa using C
  rw[D] at this;simp at this
 have N: ∀(c:Array Bool),(∀i,c.getD i true=true)->iC (es.map (·.1)) 0 (λj=>c.getD j true) s=iC (es.map (·.1)) 0 (λ_=>true) s:=by
  intro c h
  have:(λj=>c.getD j true)=λ_=>true:=funext h;rw[this]
 intro d;induction d with
 |zero=>
  intro c U L T A R bP f a w b7;have D:U=[]:=kQ A;subst D;have G: ∀i,c.getD i true=true:=λi=>by
   cases h:c.getD i true with
   |true=>rfl
   |false=>have:=(R i).1 h;simp at this
  refine⟨?_,Hq f a w (by rw[<-N c G];exact b7)⟩;cases adV:Region.ready .any l.toArray c with
  |nil=>rfl
  |cons x xs=>
   have:x∈Region.ready .any l.toArray c:=by rw[adV];simp
   rw[mem_ready] at this;rw[G x] at this;exact bB this.1 aV
 |succ d my=>
  intro c U L T A R bP f a w b7;have g:U≠[]:=by intro e;subst e;simp at A
  refine⟨λh=>bB h (hall c U L R g),λi aH=>?_⟩;obtain⟨y,o,eu,Y⟩:=mem_ready.1 aH;have BR:i<l.length:=by
   rcases Nat.lt_or_ge i l.length with h|h
   ·exact h
   rw[Array.getElem?_eq_none (by simpa using h)] at eu;cases eu
  have HP:l[i]? =some o:=by simpa using eu
  obtain⟨⟨e,r⟩,B⟩: ∃p,es[i]? =some p:=⟨es[i]' O,by simp[show i<es.length by omega]⟩
  have I: ∀j,mB l.toArray l.length j i=true->c.getD j false=true:=λj X=>Jk bP _ j i X λCv z=>by rw[eu] at z;cases z;exact Y
  have q: ∀j,j<es.length->mB l.toArray l.length i j=true->c.getD j true=false:=λj W X=>by
   cases adw:c.getD j true with
   |false=>rfl
   |true=>
    have C:=Jk bP _ i j X λCv z=>bP j Cv z adw;have F:i<c.size:=O
    simp only[Array.getD_eq_getD_getElem?,Array.getElem?_eq_getElem F,Option.getD_some] at C y;rw[y] at C;cases C
  have V:r.same (iC (es.map (·.1)) 0 (λj=>c.getD j true) s) (iC (es.map (·.1)) 0 (λj=>Nat.blt j i) s):=by
   refine⟨λx hx=>?_,λk hk=>⟨?_,?_⟩⟩
   ·exact FE (·.eH) hp B s.t x (λb yi v bJ=>by simp[ly,E5 bJ hx]) I q y
   ·exact FE (·.hs) hp B s.H k (λb yi v bJ=>by simp[ly,E5 bJ hk]) I q y
   exact FE (·.us) hp B s.u k (λb yi v bJ=>by simp[ly,E5 bJ hk]) I q y
  have ad3:e.app (iC (es.map (·.1)) 0 (λj=>c.getD j true) s)=iC (es.map (·.1)) 0 (λj=>(c.setIfInBounds i true).getD j true) s:=by
   unfold cS.app iC;simp only[S.mk.injEq];refine⟨?_,?_,?_⟩
   ·exact ES (·.eH) hp B s.t O (λx b yi v dx C h2=>by simp[ly,D8 h2 C]) q y
   ·exact ES (·.hs) hp B s.H O (λx b yi v dx C h2=>by simp[ly,D8 h2 C]) q y
   exact ES (·.us) hp B s.u O (λx b yi v dx C h2=>by simp[ly,D8 h2 C]) q y
  have adK:=adL i o e r HP B _ V;have ac': ∀β' tz w',Rel K β' (e.app (iC (es.map (·.1)) 0 (λj=>c.getD j true) s)) tz w'->wpAny K.P .any l.toArray wA d (c.setIfInBounds i true) tz w':=by
   intro β' tz w' P0;rw[ad3] at P0;have adg:=(R i).1 y;refine my (c.setIfInBounds i true) (U.erase i) (by simpa using L) (T.erase i) (by rw[List.length_erase_of_mem adg];omega) (λj=>?_) ?_ β' tz w' P0
   ·rw[T.mem_erase_iff];by_cases W:j=i
    ·subst W;simp[Array.getD_eq_getD_getElem?,show j<c.size by omega]
    simp only[Array.getD_eq_getD_getElem?,Array.getElem?_setIfInBounds_ne (Ne.symm W)]
    have:=R j;rw[pM] at this;rw[this];simp[W]
   intro j Cv z W b PI X;by_cases PM:j=i
   ·subst PM;rw[eu] at z;cases z;exact getD_set_true (Y b PI X)
   have C:c.getD j true=true:=by
    simpa only[Array.getD_eq_getD_getElem?,Array.getElem?_setIfInBounds_ne (Ne.symm PM)] using W
   exact getD_set_true (bP j Cv z C b PI X)
  have adz:=adK f a w (wpAny K.P .any l.toArray wA d (c.setIfInBounds i true)) wA b7 ac';unfold wpOp;rw[eu];exact adz
theorem Mk{Q:Exit->S->Prop}(d:List (cS×gJ))(D:K.P.follows .mixedOrders=true)(F:mI l.toArray l.length 0 d=true)(G:rq 0 l=true)
  (k:vX K l.toArray l d s λH=>Q .normal H):cK K (.region n l.toArray true) s Q:=by
 intro m a w X p I;obtain⟨_,R,_⟩:=y7 l d s _ k;refine wp_region_any D ?_;have q:Rel K m s a {w with drawn:=w.drawn+1}:=vV p;have U:iC (d.map (·.1)) 0 (λj=>(Array.replicate l.toArray.size false).getD j true) s=s:=by
  have A:=(y7 l d s _ k).1;have c: ∀{r:Type} (bY:List (List (Nat×r))) (L:Nat->Bool) (i:Nat) (f:Nat->r),(∀j,j<bY.length->L (i+j)=false)->gT bY i L f=f:=by
   intro r bY L;induction bY with
   |nil=>intro _ _ _;rfl
   |cons x bY W=>
    intro i f h;simp only[gT];have B:=h 0 aV;rw[oL] at B;rw[B,cond_false];exact W (i+1) f λj e=>by have:=h (j+1) bQ;rwa [show i+(j+1)=i+1+j by omega] at this
  have y: ∀j,j<d.length->(Array.replicate l.toArray.size false).getD (0+j) true=false:=λj e=>by
   rw[dt,pM,yI,a1 bQ];rfl
  unfold iC;rw[c _ _ _ _ (by simpa using y),c _ _ _ _ (by simpa using y),c _ _ _ _ (by simpa using y)]
 refine Zf F G k (λm a w p=>I _ _ _ _ _ R p) l.toArray.size (Array.replicate l.toArray.size false) (List.range l.length) aV List.nodup_range aV (λi=>?_) ?_ m a _ (by rw[U];exact q)
 ·rw[pM,yI,tc];by_cases h:i<l.length
  ·rw[a1 (by simpa using h)];simp[h]
  rw[aY (by simpa using h)];simp[h]
 intro j o C e;rw[pM,yI] at e;have z:j<l.length:=by
  rcases Nat.lt_or_ge j l.length with h|h
  ·exact h
  rw[Array.getElem?_eq_none (by simpa using h)] at C;cases C
 rw[a1 (by simpa using z)] at e;cases e
end
end
abbrev aa(n:Int):V:= .t (.int .i64 n)
abbrev vG(b:UInt8):V:= .t (.int .u8 (b.toNat:Nat))
abbrev aL(b:Bool):V:= .t (.bool b)
abbrev bD(s:List UInt8):V:= .t (.str s)
abbrev Q'(a:List (List T)):V:= .t (.aD a)
abbrev kb(n:Int):List T:=[.int .i64 n]
abbrev nB(b:UInt8):List T:=[.int .u8 (b.toNat:Nat)]
abbrev aax(b:Bool):List T:=[.bool b]
abbrev abc(s:List UInt8):List T:=[.str s]
def ji(P:Program)(f:FuncId):Prop:= ∃a,P.funcs[f]? =some a/\(a.name== "runtime.NumGoroutine")=false/\a.body.isNone=false
section
variable {K:Ctx} {s:S} {Q:Exit->S->Prop}
variable {l:List Oper}
theorem Ko{V:Array Oper}{Q:S->Prop}{b:S}(i:s.le K b)(h:qb K V l b Q):qb K V l s Q:=
  λk a w m n o=>let ⟨c,e⟩:=i k a w n;h c a w m e o
theorem Sf{i:Nat}(m:S)(h:qb K l.toArray l s λn=>n.le K m)(o:Q .normal m):cK K (.region i l.toArray false) s Q:=by intro p a w q r x;refine wp_region_lit (h p a w q r λn c y A B e=>?_);obtain⟨C,k⟩:=B c y A e;exact x _ _ _ _ _ o k
theorem b9.eq{P:Program}{H:Nat->Option E}{o:Oper}{a:List V}{v dx:V}(h:b9 P H o a v)(e:v=dx):b9 P H o a dx:=e▸h
section
variable {K:Ctx} {s:S} {d:Option Tmp} {ty:TypeId} {pos:String} {af:Array Edge} {g:Option (Nat×Bool)}
variable {t:TypeId} {u:TypeDesc} {z:Value} {gen size bytes:Nat}
end
end
theorem j7(b:Bool){P:Prop}(a:b=false->P)(c:b=true->P):P:=by
 cases b with
 |false=>exact a rfl
 |true=>exact c rfl
theorem fr.of_eq{e a:List V}(h:e=a):fr e a:=h▸fr.refl e
section
variable {K:Ctx} {s:S} {ops:Array Oper} {rest:List Oper} {Q:S->Prop} {d:Nat} {ty:TypeId} {pos:String} {af:Array Edge} {j:Nat} {want:Bool} {t:Nat}
end
section
mutual
def V.du(L:List Nat):V->V
  | .ref id a=> .ref (L.getD id 0) a
  | .bc id gen c a d=> .bc (L.getD id 0) gen c a d
  | .cC id gen c i a=> .cC (L.getD id 0) gen c i a
  | .agg cs=> .agg (iR L cs)
  | .bL cs=> .bL (iR L cs)
  | .fn f cs=> .fn f (iR L cs)
  | .t x=> .t x
  | .aQ x=> .aQ x
  | .c4=> .c4
def iR(L:List Nat):List V->List V
  | []=>[]
  |c::cs=>c.du L::iR L cs
end
def E.du(L:List Nat):E->E
  | .cells cs=> .cells (iR L cs)
  | .arr ty gen c a=> .arr ty gen c a
  | .a8 d m gen a e=> .a8 d m gen a (e.map λh=>(h.1,h.2.1,h.2.2.du L))
theorem pj{L:List Nat}: ∀cs:List V,(iR L cs).length=cs.length
  | []=>rfl
  |c::cs=>by simp[iR,pj cs]
theorem FD{L:List Nat}: ∀(cs:List V) (i:Nat),(iR L cs)[i]? =(cs[i]?).map (V.du L)
  | [],_=>by simp[iR]
  |c::cs,0=>by simp[iR]
  |c::cs,i+1=>by simp[iR,FD cs i]
variable {L:List Nat}{D:Map}{w:World}{X:Nat->Prop}
theorem zq{a:List V}{i:Nat}{c:V}(h:(iR L a)[i]? =some c): ∃d,a[i]? =some d/\c=d.du L:=by
  rw[FD] at h;cases e:a[i]? with
  |none=>rw[e] at h;simp at h
  |some d=>rw[e] at h;simp at h;exact⟨d,rfl,h.symm⟩
theorem bn.du{β:Map}{v:V}{u:Value}(h:bn β w X v u)(e: ∀k x,β k=some x->D (L.getD k 0)=some x):bn D w X (v.du L) u:=by
  induction h with
  |t x v h=>exact .t x v h
  |agg cs s o _ y=>exact .agg _ s (by rw[pj];exact o) (λi c u p z=>by obtain⟨A,B,rfl⟩:=zq p;exact y i A u B z)
  |bL cs s o _ y=>exact .bL _ s (by rw[pj];exact o) (λi c u p z=>by obtain⟨A,B,rfl⟩:=zq p;exact y i A u B z)
  |ref id d b l=>exact .ref _ d b (e _ _ l)
  |aQ cells b d f l G p H=>exact .aQ cells b d f l G p H
  |bc id gen a d r C b n ty m l I K Q o R=>exact .bc _ gen a d r C b n ty m (e _ _ l) I K Q o R
  |hz id gen a m l=>exact .hz _ gen a m (e _ _ l)
  |lh id gen a d r v q g F l m=>exact .lh _ gen a d r v q g F (e _ _ l) m
  |cC id gen a i d b m l=>exact .cC _ gen a i d b m (e _ _ l)
  |lI id gen a i d v q g F l m=>exact .lI _ gen a i d v q g F (e _ _ l) m
  |fn f cs s o _ y=>exact .fn f _ s (by rw[pj];exact o) (λi c u p z=>by obtain⟨A,B,rfl⟩:=zq p;exact y i A u B z)
  |c4 v=>exact .c4 v
def jr(L:List Nat)(a:Map):Map:=⟨λk=>(L[k]?).bind a,λk b=> ∃id,L[k]? =some id/\a.n id b⟩
def e4:Nat->(Nat->Bool)
  |0=>gx
  |n+1=>aU (e4 n) n true
theorem jd: ∀{n k:Nat},e4 n k=true↔k<n
  |0,k=>by simp[e4,gx]
  |n+1,k=>by
    by_cases h:k=n
    · subst h;simp[e4,bW]
    · rw[e4,bX _ _ _ _ h,jd];omega
mutual
theorem bn.pL{β:Map}{w:World}{X:Nat->Prop}{L:List Nat}: ∀(v:V) (u:Value),bn β w X (v.du L) u->v.ok (e4 L.length)=true->bn (jr L β) w X v u
  | .t x,u,h,_=>by
    simp only[V.du] at h;cases h with|t _ _ h=>exact .t _ _ h
  | .aQ x,u,h,_=>by
    simp only[V.du] at h;cases h with|aQ _ b l f a D r s=>exact .aQ _ b l f a D r s
  | .c4,u,_,_=> .c4 u
  | .ref id l,u,h,d=>by
    have e:id<L.length:=jd.1 (by simpa[V.ok] using d);have o:jr L β id=β (L.getD id 0):=by simp[jr,List.getElem?_eq_getElem e]
    simp only[V.du] at h;cases h with|ref _ _ b a=>exact .ref _ _ b (by rw[o];exact a)
  | .bc id gen y l F,u,h,d=>by
    have e:id<L.length:=jd.1 (by simpa[V.ok] using d);have o:jr L β id=β (L.getD id 0):=by simp[jr,List.getElem?_eq_getElem e]
    simp only[V.du] at h;cases h with
    |bc _ _ _ _ _ A b n ty m a G k H d B=>exact .bc _ _ _ _ _ A b n ty m (by rw[o];exact a) G k H d B
    |hz _ _ _ m a=>exact .hz _ _ _ m (by rw[o];exact a)
    |lh _ _ _ _ _ _ q g C a m=>exact .lh _ _ _ _ _ _ q g C (by rw[o];exact a) m
  | .cC id gen y i l,u,h,d=>by
    have e:id<L.length:=jd.1 (by simpa[V.ok] using d);have o:jr L β id=β (L.getD id 0):=by simp[jr,List.getElem?_eq_getElem e]
    simp only[V.du] at h;cases h with
    |cC _ _ _ _ _ b m a=>exact .cC _ _ _ _ _ b m (by rw[o];exact a)
    |lI _ _ _ _ _ _ q g C a m=>exact .lI _ _ _ _ _ _ q g C (by rw[o];exact a) m
  | .agg cs,u,h,d=>by
    simp only[V.du] at h;cases h with
    |agg _ p k s=>exact .agg _ p (by rw[pj] at k;exact k) (λi c u r z=>zM cs (λi=>p[i]?) (by simpa[V.ok] using d) s i c u r z)
  | .bL cs,u,h,d=>by
    simp only[V.du] at h;cases h with
    |bL _ p k s=>exact .bL _ p (by rw[pj] at k;exact k) (λi c u r z=>zM cs (λi=>p[i]?) (by simpa[V.ok] using d) s i c u r z)
  | .fn f cs,u,h,d=>by
    simp only[V.du] at h;cases h with
    |fn _ _ p k s=>exact .fn _ _ p (by rw[pj] at k;exact k) λi c u r z=>zM cs (λi=>p[i]?) (by simpa[V.ok] using d) s i c u r z
theorem zM{D:Map}{w:World}{X:Nat->Prop}{L:List Nat}: ∀(cs:List V) (U:Nat->Option Value),gz (e4 L.length) cs=true->
    (∀i c u,(iR L cs)[i]? =some c->U i=some u->bn D w X c u)-> ∀(i:Nat) c u,cs[i]? =some c->U i=some u->bn (jr L D) w X c u
  | [],_,_,_,_,_,_,h,_=>by simp at h
  |c::cs,U,a,h,0,_,u,d,e=>by
    simp at d;subst d;simp[gz] at a;exact bn.pL c u (h 0 _ u (by simp[iR]) e) a.1
  |c::cs,U,a,h,i+1,k,u,d,e=>by simp at d;simp[gz] at a;exact zM cs (λi=>U (i+1)) a.2 (λi c u l m=>h (i+1) c u (by simpa[iR] using l) m) i k u d e
end
theorem dw.pL{β:Map}{w:World}{X:Nat->Prop}{L:List Nat}: ∀{a:List V} {c:List Value},dw β w X (iR L a) c->gz (e4 L.length) a=true->dw (jr L β) w X a c
  | [],[],_,_=>trivial
  |v::a,u::c,h,d=>by
    simp[gz] at d;exact⟨bn.pL v u h.1 d.1,dw.pL h.2 d.2⟩
  | [],_::_,h,_=>h.elim
  |_::_,[],h,_=>h.elim
def eW:List E->Nat->(Nat->Option E)
  | [],_=>oO
  |e::a,k=>aU (eW a (k+1)) k (some e)
theorem LD: ∀(a:List E) (k i:Nat),eW a k (k+i)=a[i]?
  | [],_,_=>by simp[eW,oO]
  |e::a,k,0=>by rw[oL,eW,bW];simp
  |e::a,k,i+1=>by rw[eW,bX _ _ _ _ O,show k+(i+1)=(k+1)+i by omega,LD a (k+1) i];simp
theorem yy(a:List E)(i:Nat):eW a 0 i=a[i]? :=by have:=LD a 0 i;rwa [dt] at this
def lZ(X:Nat->Prop)(a:Map)(H:Nat->Option E)(b:Nat):Prop:=X b\/ ∃id,H id≠none/\At a id b
structure ze (G:fe) (gP:List E) (β:Map) (w:World) (X:Nat->Prop):Prop where
  dL: ∀k,gP.length<=k->β k=none
  ed: ∀k b,gP.length<=k-> ¬β.n k b
  inj: ∀id j' b,At β id b->At β j' b->id=j'
  place: ∀k b,At β k b->b<w.heap.size/\ ¬X b/\G.x5<=b
  heap: ∀k e,gP[k]? =some e->cH β w (lZ X β (eW gP 0)) k e
structure Left (gU β:Map) (gP out:List E) (w w':World) (X:Nat->Prop) (r:V) (u:Value):Prop where
  ext:Ext (λb=> ∃k,At gU k b) w w'
  base:kp gP.length gU β w.heap.size
  iW:Shaped gU w w'
  dL: ∀k,out.length<=k->β k=none
  ed: ∀k b,out.length<=k-> ¬β.n k b
  inj: ∀id j' b,At β id b->At β j' b->id=j'
  fresh: ∀k b,At β k b->((∃b1,b1<gP.length/\At gU b1 b)\/w.heap.size<=b)/\b<w'.heap.size
  heap: ∀k e,out[k]? =some e->cH β w' (lZ X β (eW out 0)) k e
  res:bn β w' (lZ X β (eW out 0)) r u
def JT(P:Program)(G:fe)(f:FuncId)(c:List E)(args:List V){ι:Type}(k:ι->Prop)(r:ι->V)(d:ι->List E):Prop:=
  ∀(w:World) (X:Nat->Prop) (a:Map) (h:List Value),G.ok w->(∀b,X b->b<w.heap.size)->ze G c a w X->dw a w (lZ X a (eW c 0)) args h->
    Calls P f h.toArray w λe l=> ∃u i m,e= .returned u/\k i/\Left a m c (d i) w l X (r i) u
def Ctx.dJ(P:Program)(G:fe)(w:World)(X:Nat->Prop)(c':Nat)(gU:Map)(nt:Nat):Ctx:={P,G,w0:=w,X,c',gU,nt}
def l2(a:List E)(args:List V):S:={t:=tt args 0,H:=eW a 0,u:=e4 a.length}
theorem Rel.l2{P:Program}{G:fe}{nt:Nat}{a:List E}{args:List V}{c:List Value}(q:G.ok w)(r: ∀b,X b->b<w.heap.size)(d:ze G a D w X)
    (h:dw D w (lZ X D (eW a 0)) args c) (x:c.length<=nt):
    Rel (Ctx.dJ P G w X a.length D nt) D (Lift.l2 a args) {tmps:=c.toArray++Array.replicate (nt-c.toArray.size) undef,defers:=[]} w:=by
  have l: ∀id b,At D id b->id<a.length:=by
    rintro id b (⟨g,h⟩|h)
    · apply ta;intro k;rw[d.dL id k] at h;cases h
    · exact ta λk=>d.ed id b k h
  refine {ext:=Ext.refl _ _,oi:=q,ow:= ?_,iD:= ?_,base:=kp.refl _ _ _,iW:=Shaped.refl _ _,low:=λid h=>jd.2 h,dL:= ?_,ed:= ?_,
           qC:=d.inj,inj:=d.inj,fresh:=λid b h=>⟨.inl ⟨id,l id b h,h⟩,(d.place id b h).1⟩,heap:= ?_,cZ:= ?_,nt:= ?_,defers:=rfl}
  · rintro b ⟨id,_,h⟩;exact(d.place id b h).2.2
  · intro b p;exact⟨r b p,λ⟨id,_,h⟩=>(d.place id b h).2.1 p⟩
  · intro id hid;apply d.dL;apply Nat.le_of_not_lt;intro l;have o:=jd.2 l;have m:e4 a.length id=false:=hid;rw[o] at m;cases m
  · intro id b hid h;have o:=jd.2 (l id b (.inr h));have m:e4 a.length id=false:=hid;rw[o] at m;cases m
  · intro id e s;have n:a[id]? =some e:=by rw[<-yy];exact s
    refine⟨jd.2 ?_,d.heap id e n⟩;apply ta;intro k;rw[q8 k] at n;cases n
  · intro i;have o:=D2 args c 0 h i;rw[dt] at o;have m:(c.toArray++Array.replicate (nt-c.toArray.size) undef).getD i undef=c.getD i undef:=by
      simp only[Array.getD_eq_getD_getElem?,List.getD_eq_getElem?_getD,Array.getElem?_append];by_cases d:i<c.length
      · rw[a1 (by simpa using d)];simp
      · rw[aY (by simpa using d)];rw[yI];rw[q8 O];split<;>rfl
    simp only[m];exact o
  · simp[Ctx.dJ];omega
end
section
def lk{R:Type}(f:Nat->R):List Nat->(Nat->R)->(Nat->R)
 | [],_=>f
 |l::L,g=>aU (lk f L λk=>g (k+1)) l (g 0)
theorem nn{k:Type}{f:Nat->k}: ∀{L:List Nat} {g:Nat->k} {id:Nat},id∉L->lk f L g id=f id
 | [],_,_,_=>rfl
 |l::L,g,id,h=>by simp at h;rw[lk,bX _ _ _ _ h.1];exact nn h.2
theorem ot{R:Type}{f:Nat->R}: ∀{L:List Nat} {g:Nat->R} {k id:Nat},L.Nodup->L[k]? =some id->lk f L g id=g k
 | [],_,_,_,_,h=>by simp at h
 |l::L,g,0,id,_,h=>by simp at h;subst h;rw[lk,bW]
 |l::L,g,k+1,id,a,h=>by simp at h a;have c:id≠l:=λe=>a.1 (e▸bE h);rw[lk,bX _ _ _ _ c];exact ot (g:=λk=>g (k+1)) a.2 h
theorem E3: ∀{L:List Nat} {i j id:Nat},L.Nodup->L[i]? =some id->L[j]? =some id->i=j
 | [],_,_,_,_,h,_=>by simp at h
 |l::L,0,0,_,_,_,_=>rfl
 |l::L,0,j+1,id,a,h,c=>by simp at h c a;subst h;exact bB (bE c) a.1
 |l::L,i+1,0,id,a,h,c=>by simp at h c a;subst c;exact bB (bE h) a.1
 |l::L,i+1,j+1,id,a,h,c=>by simp at h c a;rw[E3 a.2 h c]
def S.after(s:S)(L:List Nat)(a:List E):S:=
 {t:=s.t,H:=lk s.H L λk=>(a[k]?).map (E.du L),u:=lk s.u L (λ_=>true)}
def Ei(K:Ctx)(o:Oper)(s:S){k:Type}(h:k->Prop)(l:k->S):Prop:=
 ∀m a w next Q,Rel K m s a w->(∀i,h i-> ∀c d e,Rel K c (l i) d e->next d e)->o.wp K.P a w next Q
variable {β:Map}{w:World}{X:Nat->Prop}{L:List Nat}{k:Nat}{e:E}{f:FuncId}
theorem cH.pL{id:Nat}(h:cH β w X id (e.du L))(C:L[k]? =some id)(F:e.ok (e4 L.length)=true):cH (jr L β) w X k e:=by
 have l:jr L β k=β id:=by simp[jr,C]
 cases e with
 |cells cs=>
  obtain⟨b,o,ty,a,d,s,D⟩:=h;rw[pj] at s;refine⟨b,o,ty,by rw[l];exact a,d,s,λi c u y K=>?_⟩;exact bn.pL c u (D i _ u (by rw[FD,y];rfl) K) (vw F y)
 |arr ty gen G p=>
  refine⟨h.1,?_⟩;rcases h.2 with ⟨a,d⟩|⟨b,o,a,d⟩
  ·exact .inl ⟨by rw[l];exact a,d⟩
  exact .inr ⟨b,o,by rw[l];exact a,d⟩
 |a8 t m gen p M=>
  refine⟨h.1,?_⟩;have H: ∀c,(jr L β).n k c↔β.n id c:=λc=>⟨λ⟨Q,a,d⟩=>by rw[C] at a;cases a;exact d,λh=>⟨id,C,h⟩⟩
  rcases h.2 with ⟨a,d,R⟩|⟨b,o,B,a,d,s,D,I,U,W,Y⟩
  ·exact .inl ⟨by rw[l];exact a,d,λc y=>R c ((H c).1 y)⟩
  refine .inr ⟨b,o,B,by rw[l];exact a,d,s,D,λi j q x u aJ a2 a3=>⟨λv z=>?_,λf=>?_⟩,U,W,λc=>(H c).trans (Y c)⟩
  ·have A:=(I i j q x u aJ a2 a3).1 (v.du L) (eP.2 ⟨_,z,rfl⟩);exact⟨bn.pL v u A.1 (FF F z),A.2⟩
  refine(I i j q x u aJ a2 a3).2 λv z=>?_;obtain⟨⟨N,P,g⟩,A,r⟩:=eP.1 z;simp only[Prod.mk.injEq] at r;obtain⟨rfl,rfl,rfl⟩:=r;exact f g A
theorem cH.du{β':Map}{K:Nat->Prop}{D:Nat}(h:cH β w X k e)(U:L[k]? =some D)(o: ∀k x,β k=some x->β' (L.getD k 0)=some x)(F: ∀b,K b->X b)(Q: ∀b,β'.n D b↔β.n k b):cH β' w K D (e.du L):=by
 have q: ∀x,β k=some x->β' D=some x:=λx G=>by have:=o k x G;rwa [ez,U] at this
 cases e with
 |cells cs=>
  obtain⟨b,r,ty,a,d,s,y⟩:=h;refine⟨b,r,ty,q _ a,d,by rw[pj];exact s,λi c u H W=>?_⟩;obtain⟨Y,p,rfl⟩:=zq H;exact((y i Y u p W).du o).mono (Ext.refl _ _) (λb _=>F b) (dv.refl _) (Shaped.refl _ _)
 |arr ty gen R z=>
  refine⟨h.1,?_⟩;rcases h.2 with ⟨a,d⟩|⟨b,r,a,d,s,y,p⟩
  ·exact .inl ⟨q _ a,d⟩
  exact .inr ⟨b,r,q _ a,d,s,y,λi j l x u aJ a2 a3=>(p i j l x u aJ a2 a3).mono (Ext.refl _ _) λb _=>F b⟩
 |a8 S m gen z T=>
  refine⟨h.1,?_⟩;rcases h.2 with ⟨a,d,f⟩|⟨b,r,B,a,d,s,y,p,g,t,M⟩
  ·exact .inl ⟨q _ a,d,λc H=>f c ((Q c).1 H)⟩
  refine .inr ⟨b,r,B,q _ a,d,s,y,λi j l x u aJ a2 a3=>⟨λv I=>?_,λG=>?_⟩,g,t,λc=>(Q c).trans (M c)⟩
  ·obtain⟨⟨V,cW,N⟩,P,A⟩:=eP.1 I;simp only[Prod.mk.injEq] at A;obtain⟨rfl,rfl,rfl⟩:=A;have C:=(p _ _ l x u aJ a2 a3).1 N P;exact⟨(C.1.du o).mono (Ext.refl _ _) (λb _=>F b) (dv.refl _) (Shaped.refl _ _),C.2⟩
  exact((p i j l x u aJ a2 a3).2 λv I=>G (v.du L) (eP.2 ⟨_,I,rfl⟩)).mono (Ext.refl _ _) (λb _=>F b) λ_ _=>rfl
theorem dw.app{β:Map}{w:World}{X:Nat->Prop}: ∀{d a:List V} {e c:List Value},dw β w X d e->dw β w X a c->dw β w X (d++a) (e++c)
 | [],_,[],_,_,h=>h
 |_::_,_,_::_,_,h,k=>⟨h.1,dw.app h.2 k⟩
 | [],_,_::_,_,h,_=>h.elim
 |_::_,_,[],_,h,_=>h.elim
theorem EL{D:Map}{w:World}{X:Nat->Prop}: ∀{d:List V} {e:List Value},e.length=d.length->(∀(i:Nat) c u,d[i]? =some c->e[i]? =some u->bn D w X c u)->dw D w X d e
 | [],[],_,_=>trivial
 |v::d,u::e,a,h=>⟨h 0 v u rfl rfl,EL (by simpa using a) λi c u k l=>h (i+1) c u (by simpa using k) (by simpa using l)⟩
 | [],_::_,a,_=>by simp at a
 |_::_,[],a,_=>by simp at a
theorem bn.He{a:List V}{u:Value}(h:bn β w X (.fn f a) u): ∃d:Array Value,u= .func (.func f) #[] d/\dw β w X a d.toList:=by
 cases h with
 |fn _ _ d e h=>exact⟨d,rfl,EL (by simpa using e) λi c u k l=>h i c u k (by simpa using l)⟩
theorem WV{K:Ctx}{s:S}{o:Oper}{xs:Array Operand}{Q6:Array TypeId}{gP:List E}{args:List V}{ι:Type}{ma:ι->Prop}{r:ι->V}{F:ι->List E}(Hf:Operand)(L news:List Nat)
  (Pf:List V) (eu:o.op= .call {callee:= .value Hf,args:=xs,argTypes:=Q6}) (adb:s.get Hf= .fn f Pf)
  (ij:ji K.P f) (cv: ∀i,o.dst=some i->Nat.blt i K.nt=true) (bJ:fr (xs.toList.map s.get++Pf) (iR L args)) (cE:gz (e4 L.length) args=true)
  (sg:gP.length=L.length) (hH: ∀(k:Nat) (e:E),gP[k]? =some e-> ∃id,L[k]? =some id/\s.H id=some (e.du L)/\e.ok (e4 L.length)=true)
  (N:(L++news).Nodup) (qt: ∀id,id∈news->s.u id=false) (HU: ∀i,(F i).length=(L++news).length)
  (h:JT K.P K.G f gP args ma r F):Ei K o s ma (λi=>(s.after (L++news) (F i)).put o.dst ((r i).du (L++news))):=by
 obtain⟨fn,ac7,ac8,ac9⟩:=ij;intro R a w next Q p l
 have pb:fn.name≠ "runtime.NumGoroutine" :=by simpa using ac8
 have kD:fn.body≠none:=by intro e;simp[e] at ac9
 obtain⟨us,ac1,H4⟩:=(adb▸p.get Hf).He;have xG:(execOp a.eval o).run K.P w= .ok (.enter f (xs.map a.eval++us)) w:=by
  simp[execOp,eu,resolve,Deferred.ofValue,ac1,invoke,callFunc,ac7,pb,kD]
 unfold Oper.wp;rw[xG,Oper.upon_enter];let z:Map:=jr L R;let ie:Nat->Prop:=λb=>own K R s.H b/\ ¬ ∃k,At z k b;have jI: ∀k g b,z k=some (some b,g)-> ∃id,L[k]? =some id/\R id=some (some b,g):=by
  intro k g b h;cases l:L[k]? with
  |none=>simp[z,jr,l] at h
  |some id=>simp[z,jr,l] at h;exact⟨id,rfl,h⟩
 have U: ∀k b,At z k b-> ∃id,L[k]? =some id/\At R id b:=by
  rintro k b (⟨g,h⟩|⟨id,m,y⟩)
  ·obtain⟨id,m,y⟩:=jI k g b h;exact⟨id,m,.inl ⟨g,y⟩⟩
  exact⟨id,m,.inr y⟩
 have acS: ∀(k id:Nat),L[k]? =some id->s.H id≠none:=by
  intro k id l;have hlt:k<gP.length:=by rw[sg];exact(bR.1 l).1
  obtain⟨D,m,y,_⟩:=hH k _ (br hlt);rw[l] at m;cases m;rw[y];simp
 have X: ∀k b,At z k b->own K R s.H b:=by
  intro k b h;obtain⟨id,m,y⟩:=U k b h;exact .inr ⟨id,acS k id m,y⟩
 have PX: ∀b,lZ ie z (eW gP 0) b->own K R s.H b:=by
  rintro b (h|⟨k,_,y⟩)
  ·exact h.1
  exact X k b y
 have Hn: ∀k b,At z k b->K.M b\/K.w0.heap.size<=b:=by
  intro k b h;obtain⟨id,m,y⟩:=U k b h;exact(p.fresh id b y).1
 have xH: ∀b,own K R s.H b->b<w.heap.size:=by
  rintro b (Y|⟨id,_,a'⟩)
  ·exact l6 (p.iD b Y).1 p.ext.size
  exact(p.fresh id b a').2
 have adF:L.Nodup:=(List.nodup_append.1 N).1;have adl:ze K.G gP z w ie:=by
  refine⟨?_,?_,?_,?_,?_⟩
  ·intro k l;rw[sg] at l;simp[z,jr,List.getElem?_eq_none l]
  ·rintro k b l ⟨id,m,_⟩;rw[sg] at l;rw[q8 l] at m;cases m
  ·intro k b1 b h mr;obtain⟨id,m,y⟩:=U k b h;obtain⟨D,acD,h2'⟩:=U b1 b mr;have he:=p.inj id D b y h2';subst he;have l:=(bR.1 m).1;exact E3 adF m acD
  ·intro k b B;refine⟨xH b (X k b B),λY=>Y.2 ⟨k,B⟩,?_⟩;rcases Hn k b B with A|A
   ·exact p.ow b A
   exact gE p.oi.1 A
  intro k e he;obtain⟨id,m,y,h4⟩:=hH k e he;have hQ:=cH.pL (p.heap id _ y).2 m h4;exact hQ.mono (Ext.refl _ _) (λb _=>PX b) (dv.refl _) (λ_ h=>h) (Shaped.refl _ _) λ_ _=>rfl
 have acW:=(dw.pL (((p.oh xs.toList).app H4).le bJ) cE).mono (Ext.refl _ _) (λb _=>PX b) (dv.refl _) (Shaped.refl _ _);have bP:=h w ie z _ p.BH (λb a'=>xH b a'.1) adl acW;have he:(List.map a.eval xs.toList++us.toList).toArray=xs.map a.eval++us:=by rw[<-vD,<-Array.toList_append]
 rw[he] at bP;refine bP.mono ?_;rintro e w' ⟨u,i,I,rfl,aek,d⟩;let C:=L++news;let t:Map:=⟨lk R C I,λid b=>(id∉C/\R.n id b)\/ ∃k,C[k]? =some id/\I.n k b⟩
 let s2:=s.after C (F i);have adx: ∀k,k<L.length->C[k]? =L[k]? :=λk l=>gG l;have W: ∀id,id∈C-> ∃k:Nat,C[k]? =some id/\k<(F i).length:=by
  intro id hid;obtain⟨k,l,e⟩:=List.mem_iff_getElem.1 hid;exact⟨k,bR.2 ⟨l,e⟩,by rw[HU];exact l⟩
 have v': ∀id,id∉C->t id=R id:=λid h=>nn h;have zd: ∀k id,C[k]? =some id->t id=I k:=λk id h=>ot N h;have Ju: ∀k id,k<L.length->C[k]? =some id->(I k=R id)\/ ∃q g vf lM,R id=some (q,g)/\1<=g/\I k=some (vf,lM)/\g<lM/\ ∀b,vf=some b->q=some b\/w.heap.size<=b:=by
  intro k id l h;have a':=d.base k (by rw[sg];exact l);rw[adx k l] at h;have e:z k=R id:=by simp[z,jr,h]
  rw[e] at a';exact a'
 have PU: ∀k id,L.length<=k->C[k]? =some id->id∈news:=by
  intro k id l h;rw[gF l] at h;exact bE h
 have Jv:dv R t:=by
  intro id q g Y;by_cases hid:id∈C
  ·obtain⟨k,l,_⟩:=W id hid;by_cases T:k<L.length
   ·rw[zd k id l];rcases Ju k id T l with e|⟨lp,g1,vf,lM,aJ,a2,a3,a4,_⟩
    ·exact .inl (e.trans Y)
    rw[Y] at aJ;cases aJ;exact .inr ⟨a2,vf,lM,a3,a4⟩
   have:=p.dL id (qt id (PU k id O l));rw[this] at Y;cases Y
  exact .inl (by rw[v' id hid];exact Y)
 have acP: ∀k id,C[k]? =some id->s2.H id=((F i)[k]?).map (E.du C):=λk id h=>ot N h;have Py: ∀id,id∉C->s2.H id=s.H id:=λid h=>nn h;have BU: ∀id b,id∉C->At R id b-> ¬ ∃k,At z k b:=by
  rintro id b hid a' ⟨k,h⟩;obtain⟨D,m,y⟩:=U k b h
  have:=p.inj id D b a' y;subst this;exact hid (mT _ (bE m))
 have BM: ∀id b,At t id b->(id∉C/\At R id b)\/ ∃k,C[k]? =some id/\At I k b:=by
  rintro id b (⟨g,h⟩|⟨m,y⟩|⟨k,m,y⟩)
  ·by_cases hid:id∈C
   ·obtain⟨k,l,_⟩:=W id hid;rw[zd k id l] at h;exact .inr ⟨k,l,.inl ⟨g,h⟩⟩
   rw[v' id hid] at h;exact .inl ⟨hid,.inl ⟨g,h⟩⟩
  ·exact .inl ⟨m,.inr y⟩
  exact .inr ⟨k,m,.inr y⟩
 have hO: ∀b,own K t s2.H b->lZ ie I (eW (F i) 0) b:=by
  rintro b (Y|⟨id,m,y⟩)
  ·refine .inl ⟨.inl Y,?_⟩;rintro⟨k,B⟩;rcases Hn k b B with A|A
   ·exact(p.iD b Y).2 A
   have:=(p.iD b Y).1;omega
  rcases BM id b y with ⟨hid,h2'⟩|⟨k,l,B⟩
  ·rw[Py id hid] at m;exact .inl ⟨.inr ⟨id,m,h2'⟩,BU id b hid h2'⟩
  have T:k<(F i).length:=by rw[HU];exact(bR.1 l).1
  refine .inr ⟨k,?_,B⟩;rw[yy,br T];simp
 have agh: ∀k b,At I k b->k<(F i).length:=by
  rintro k b (⟨g,h⟩|h)
  ·apply ta;intro hle;rw[d.dL k hle] at h;cases h
  exact ta λhle=>d.ed k b hle h
 have PA: ∀b,b<w.heap.size->own K t s2.H b->own K R s.H b:=by
  intro b PE a';rcases hO b a' with m|⟨k,_,B⟩
  ·exact m.1
  rcases(d.fresh k b B).1 with ⟨b1,_,A⟩|A
  ·exact X b1 b A
  omega
 have Pw:Ext (own K R s.H) w w':=d.ext.weaken λb _ ⟨k,B⟩=>X k b B;have PD:Shaped R w w':=λb a'=>d.iW b a';have P1: ∀k x,I k=some x->t (C.getD k 0)=some x:=by
  intro k x Y;have hlt:k<(F i).length:=by
   apply ta;intro hle;rw[d.dL k hle] at Y;cases Y
  rw[HU] at hlt;have bM:C[k]? =some C[k]:=br hlt;rw[ez,bM];exact(zd k _ bM).trans Y
 have hold: ∀k b,At I k b->(∃id,id∈C/\At R id b)\/w.heap.size<=b:=by
  intro k b a';rcases(d.fresh k b a').1 with ⟨b1,A,h4⟩|A
  ·obtain⟨D,e1,e2⟩:=U b1 b h4;exact .inl ⟨D,mT _ (bE e1),e2⟩
  exact .inr A
 have hrel:Rel K t s2 a w':=by
  refine {p with ext:= ?_,base:= ?_,iW:= ?_,low:= ?_,dL:= ?_,ed:= ?_,inj:= ?_,fresh:= ?_,heap:= ?_,cZ:= ?_}
  ·refine p.ext.trans' (d.ext.weaken ?_);rintro b _ ⟨k,B⟩ ⟨m,y⟩;rcases Hn k b B with A|A
   ·exact y A
   omega
  ·refine p.base.more λid hid=>?_;by_cases v:id∈C
   ·obtain⟨k,l,_⟩:=W id v;by_cases T:k<L.length
    ·rw[zd k id l];rcases Ju k id T l with e|⟨q,g,vf,lM,aJ,a2,a3,a4,a5⟩
     ·exact .inl e
     exact .inr ⟨q,g,vf,lM,aJ,a2,a3,a4,λb a'=>by
      rcases a5 b a' with c|c
      ·exact .inl c
      exact .inr (gE p.ext.size c)⟩
    have m:=qt id (PU k id O l);rw[p.low id hid] at m;cases m
   exact .inl (v' id v)
  ·intro b A;exact(d.iW b (l6 A p.ext.size)).trans (p.iW b A)
  ·intro id hid;by_cases v:id∈C
   ·obtain⟨k,l,_⟩:=W id v;exact ot (f:=s.u) (g:=λ_=>true) N l
   exact(nn v).trans (p.low id hid)
  ·intro id hid;by_cases v:id∈C
   ·obtain⟨k,l,_⟩:=W id v
    have:s2.u id=true:=ot (f:=s.u) (g:=λ_=>true) N l;rw[this] at hid;cases hid
   rw[v' id v];exact p.dL id ((nn (f:=s.u) (g:=λ_=>true) v).symm.trans hid)
  ·rintro id b hid (⟨m,y⟩|⟨k,l,y⟩)
   ·exact p.ed id b ((nn (f:=s.u) (g:=λ_=>true) m).symm.trans hid) y
   have:s2.u id=true:=ot (f:=s.u) (g:=λ_=>true) N l;rw[this] at hid;cases hid
  ·intro id D b m y;rcases BM id b m with ⟨m1,aJ⟩|⟨k,l,aJ⟩<;>rcases BM D b y with ⟨m2,a2⟩|⟨b1,o',a2⟩
   ·exact p.inj id D b aJ a2
   ·rcases hold b1 b a2 with ⟨xO,A,h4⟩|A
    ·have:=p.inj id xO b aJ h4;subst this;exact bB A m1
    have:=(p.fresh id b aJ).2;omega
   ·rcases hold k b aJ with ⟨xO,A,h4⟩|A
    ·have:=p.inj D xO b a2 h4;subst this;exact bB A m2
    have:=(p.fresh D b a2).2;omega
   have:=d.inj k b1 b aJ a2;subst this;rw[l] at o';cases o';rfl
  ·intro id b m;rcases BM id b m with ⟨_,aJ⟩|⟨k,l,aJ⟩
   ·exact⟨(p.fresh id b aJ).1,l6 (p.fresh id b aJ).2 d.ext.size⟩
   refine⟨?_,(d.fresh k b aJ).2⟩;rcases hold k b aJ with ⟨xO,_,A⟩|A
   ·exact(p.fresh xO b A).1
   exact .inr (gE p.ext.size A)
  ·intro id e he;by_cases v:id∈C
   ·obtain⟨k,l,T⟩:=W id v;refine⟨ot (f:=s.u) (g:=λ_=>true) N l,?_⟩;rw[acP k id l,br T] at he;simp at he;subst he;exact cH.du (d.heap k _ (br T)) l P1 hO (λb=>⟨λh=>by
     rcases h with ⟨m,_⟩|⟨b1,m,y⟩
     ·exact bB v m
     have:=E3 N m l;subst this;exact y,λh=> .inr ⟨k,l,h⟩⟩)
   rw[Py id v] at he;obtain⟨m,y⟩:=p.heap id e he;refine⟨(nn (f:=s.u) (g:=λ_=>true) v).trans m,?_⟩;exact y.mono Pw PA Jv (λx Y=>by rw[v' id v];exact Y) PD (λb a'=>d.ext.keep b (p.fresh id b a').2 (BU id b v a')) (λb=>⟨λh=>by
    rcases h with ⟨_,h⟩|⟨b1,m,_⟩
    ·exact h
    exact bB (bE m) v,λh=> .inl ⟨v,h⟩⟩)
  intro j;exact(p.cZ j).mono Pw PA Jv PD
 exact l i aek t _ w' (hrel.put o.dst cv ((d.res.du P1).mono (Ext.refl _ _) (λb _=>hO b) (dv.refl _) (Shaped.refl _ _)))
end
section
variable {K:Ctx} {s:S} {d:Option Tmp} {ty:TypeId} {pos:String} {af:Array Edge} {g:Option (Nat×Bool)} {f:FuncId} {xs:Array Operand} {Q6:Array TypeId} {args:List V} {ι:Type} {ma:ι->Prop} {r:ι->V} {out:ι->List E}
theorem Ei.j{o:Oper}{u:Unit->Prop}{c:Unit->S}(h:Ei K o s u c):dT K o s (c ()):=
 λβ a w next Q e i=>h β a w next Q e λ_ _=>i
variable {ops:Array Oper} {rest:List Oper} {Q:S->Prop} {op:Op}
end
theorem Uw(a b:Nat)(c:a<9223372036854775808)(e:b<9223372036854775808):bits .xor .i64 (a:Int) (b:Int)=((a ^^^ b:Nat):Int):=by have h:a ^^^ b<2^63:=Nat.xor_lt_two_pow O O;show IntKind.i64.wrap ((BitVec.ofInt 64 (a:Int) ^^^ BitVec.ofInt 64 (b:Int)).toNat:Int)=_;rw[BitVec.toNat_xor,ofInt_u64 a O,ofInt_u64 b O];exact IntWalk.i64_in _ O
section
variable {P:Program} {H:Nat->Option E} {d:Option Tmp} {ty:TypeId} {pos:String} {af:Array Edge} {g:Option (Nat×Bool)}
theorem Nl(n:Int):IntKind.u8.wrap n=((UInt8.ofInt n).toNat:Int):=by
 have:IntKind.u8.wrap n=n%256:=by simp[IntKind.wrap,IntKind.bits,IntKind.signed]
 rw[this];simp[UInt8.ofInt];omega
theorem aa6(a b:UInt8):IntKind.u8.wrap ((a.toNat:Int)-(b.toNat:Int))=((a-b).toNat:Int):=by rw[Nl];congr 2;apply UInt8.toNat_inj.1;have c:=UInt8.toNat_lt a;have e:=UInt8.toNat_lt b;simp[UInt8.ofInt,UInt8.toNat_sub];omega
theorem Uj(x:Operand)(c k e:TypeId)(l:List UInt8)(B:P.underlying c=some (.slice e))(C:P.underlying e=some (.int .u8))(D:P.underlying k=some .string):
  b9 P H ⟨d,.convert c k x,ty,pos,af,g⟩ [Q' (l.map nB)] (bD l):=by
 intro j w X F _ u;refine⟨.string ⟨l.toArray⟩,?_,.t _ _ (.str l)⟩;have L:bn j w X (Q' (l.map nB)) (F x):=u.1;simp only[execOp];suffices (convert c k (F x)).run P w= .ok (.string ⟨l.toArray⟩) w by
  simp only[Sem.run_bind,this,Result.andThen_ok,Sem.run_pure]
 generalize F x=y at L⊢;cases L with
 |t _ _ h=>
  generalize Q:l.map nB=R at h;cases h with
  |fY a m=>
   have p:l=[]:=by simpa using Q
   subst p;rw[run_convert_bytes_string w c k e _ _ _ B C D];cases a with
   |none=>simp[Conv.bytesToString];rfl
   |some a=>
    rw[run_bytesToString w a 0 m [] (by simp[loadCells,loadCellsFrom,Sem.run_pure])];rfl
  |aD _ b n r m f N S U G v I=>
   subst Q;cases p:l with
   |nil=>
    subst p
    have:=run_convert_bytes_arg (P:=P) w c e B C b n 0 m [] rfl (λi W=>O) k D;exact this
   |cons y T=>
    rw[<-p];have o:r=1:=by
     have:=G (nB y) (by rw[p];simp);simpa using this.symm
    subst o;have M: ∀(i:Nat) (z:UInt8),l[i]? =some z->f i 0= .int .u8 (z.toNat:Int):=by
     intro i z s;have Y:=I i 0 (nB z) (.int .u8 (z.toNat:Nat)) (by rw[ey,s];rfl) rfl;generalize f i 0=q at Y⊢;cases Y;rfl
    have:=run_convert_bytes_arg (P:=P) w c e B C b n (l.map nB).length m (l.map λz=>(z.toNat:Int)) aV (λi W=>by
     have A:i<l.length:=by simpa using W
     have s:l[i]? =some l[i]:=br A;have K:=v i 0 (by simpa using A) O;rw[M i _ s] at K;rw[show n+i*1+0=n+i by omega] at K;rw[K];simp[List.getD_eq_getElem?_getD,s]) k D
    rw[this];congr 2;simp only[strOfNums,List.map_map];congr 2;apply List.ext_getElem?;intro i;rw[ey];cases s:l[i]? with
    |none=>rfl
    |some z=>simp
end
section
variable {K:Ctx} {s:S} {d:Option Tmp} {ty:TypeId} {pos:String} {af:Array Edge} {g:Option (Nat×Bool)}
variable {t:TypeId} {u:TypeDesc} {z:Value} {size bytes:Nat}
theorem YJ(k:Nat)(r:s.u k=false)(e:TypeId)(y: ∀i,d=some i->Nat.blt i K.nt=true)(A:K.P.underlying t=some (.slice e))(B:cd K.P e u z size bytes):
  dT K ⟨d,.buildSlice t 0 #[],ty,pos,af,g⟩ s ((s.new k (.arr e 1 size [])).put d (.bc k 1 size 0 0)):=by
 intro p a w next Q C m
 have c:(execOp a.eval ⟨d,.buildSlice t 0 #[],ty,pos,af,g⟩).run K.P w= .ok (.value (.slice (some ⟨w.heap.size,0,none⟩) 0 0)) (w.alloc (.cells #[] e)):=by
  simp only[execOp,Instr.buildSlice,Sem.run_bind,run_underlying A,Result.andThen_ok,B.run_sizeOf,Nat.zero_mul,show¬(0>2^24) by decide,if_false,if_true];simp only[Instr.fill,Sem.run_bind,Sem.run_pure,Result.andThen_ok,show Array.range 0= #[] from by simp[Array.range],List.map_toArray,List.map_nil];rfl
 unfold Oper.wp;rw[c];have l:=C.new k 1 r #[] e (.arr e 1 size []) λD R U F G I=>⟨cQ _,Or.inr ⟨w.heap.size,_,G,by subst F;exact jB _ _,aV,λ_ h=>by simp at h,λi j L x u h=>by simp at h⟩⟩
 have n:(w.alloc (.cells #[] e)).heap.size=w.heap.size+1:=World.size_alloc ..;have o:(w.alloc (.cells #[] e)).shape? w.heap.size=some (e,0):=by unfold World.shape?;rw[jB];simp
 have q:bn (p.put k (some (some w.heap.size,1))) (w.alloc (.cells #[] e)) (own K (p.put k (some (some w.heap.size,1))) (s.new k (.arr e 1 size [])).H) (.bc k 1 size 0 0)
   (.slice (some ⟨w.heap.size,0*size,none⟩) 0 0):= .bc k 1 size 0 0 0 w.heap.size 0 e (cQ _) (bW _ _ _) (n▸mV _) o aV (cQ _) (by unfold maxLen;omega)
 rw[gi] at q;exact m _ _ _ (l.put d y q)
end
def GY:Option TypeDesc->Bool
 |some (.int .i64)=>true
 |_=>false
theorem YO{o:Option TypeDesc}(h:GY o=true):o=some (.int .i64):=by
 unfold GY at h;split at h
 ·rfl
 cases h
def vu(P:Program):List Field->Nat->Bool
 | [],_=>true
 |f::a,i=>f.name != "_" &&GY (P.underlying f.type)&&Nat.beq f.offset i&&vu P a (i+1)
theorem Iu{P:Program}{w:World}{xs ys:Array Value}: ∀(a:List Field) (i:Nat) (ms c:List Int),vu P a i=true->ms.length=a.length->c.length=a.length->
  (∀(j:Nat) m,ms[j]? =some m->xs[i+j]? =some (.int .i64 m))->(∀(j:Nat) m,c[j]? =some m->ys[i+j]? =some (.int .i64 m))->
  (Op.eqFields 9999 xs ys a).run P w= .ok (decide (ms=c)) w
 | [],i,ms,c,_,e,h,_,_=>by
  have B:ms=[]:=by simpa using e
  have C:c=[]:=by simpa using h
  subst B;subst C;simp[Op.eqFields]
 |f::a,i,[],c,_,e,_,_,_=>by simp at e
 |f::a,i,m::ms,[],_,_,h,_,_=>by simp at h
 |f::a,i,m::ms,n::c,x,e,h,y,z=>by
  simp only[vu,Bool.and_eq_true] at x;obtain⟨⟨⟨D,l⟩,eu⟩,F⟩:=x;have l:=YO l;have eu:=cN eu;have o:f.name≠ "_" :=by simpa using D
  have A: ∀(cs:Array Value) (v:Value),cs[i]? =some v->(part f.type cs f.offset).run P w= .ok v w:=by
   intro cs v G;rw[eu];simp[part,isAgg,run_underlying l,G]
  have p:=y 0 m rfl;have r:=z 0 n rfl;have I:=Iu (P:=P) (w:=w) a (i+1) ms c F (by simpa using e) (by simpa using h)
   (λj q s=>by rw[show i+1+j=i+(j+1) by omega];exact y (j+1) q (by simpa using s))
   λj q s=>by rw[show i+1+j=i+(j+1) by omega];exact z (j+1) q (by simpa using s)
  simp only[Op.eqFields,o,ne_eq,not_false_eq_true,if_true,Sem.run_bind,A xs _ p,A ys _ r,Result.andThen_ok,run_equalIn_int w 9998 f.type .i64 .i64 m n l];by_cases k:m=n
  ·subst k;simp[I]
  simp[k]
section
variable {P:Program} {H:Nat->Option E} {d:Option Tmp} {ty:TypeId} {pos:String} {af:Array Edge} {g:Option (Nat×Bool)}
theorem AA{D:Map}{w:World}{X:Nat->Prop}{e:List Int}{u:Value}(h:bn D w X (.agg (e.map aa)) u): ∃a:Array Value,u= .agg a/\ ∀(j:Nat) m,e[j]? =some m->a[j]? =some (.int .i64 m):=by
 cases h with
 |agg _ a n o=>
  refine⟨a,rfl,λj m i=>?_⟩;have c:j<a.size:=by
   rw[n,c5];exact(bR.1 i).1
  have k:a[j]? =some a[j]:=hG c;have l:=o j (aa m) _ (by rw[ey,i];rfl) k;rw[k];generalize a[j]=q at l;cases l with|t _ _ h=>cases h;rfl
theorem U'(x y:Operand)(t r:TypeId)(a c:List Int)(s:P.underlying t=some (.struct (P.fieldsOf t)))(z:P.stoodInHeld t=false)(A:P.eqGuardType P.depth t=false)
  (B:vu P (P.fieldsOf t).toList 0=true) (e:Nat.beq a.length (P.fieldsOf t).size=true) (h:Nat.beq c.length (P.fieldsOf t).size=true):
  b9 P H ⟨d,.binOp .neq t x y r,ty,pos,af,g⟩ [.agg (a.map aa),.agg (c.map aa)] (aL (!decide (a=c))):=by
 intro D w X p _ q;obtain⟨i,k,ev⟩:=AA q.1;obtain⟨l,n,cz⟩:=AA q.2.1;refine⟨.bool (!decide (a=c)),?_,.t _ _ (.bool _)⟩;have e:=cN e;have h:=cN h;have C:=Iu (P:=P) (w:=w) (xs:=i) (ys:=l) (P.fieldsOf t).toList 0 a c B (by simpa using e) (by simpa using h) (λj m o=>by simpa using ev j m o) λj m o=>by simpa using cz j m o
 have k:p x=_:=k;have n:p y=_:=n;simp only[execOp,k,n,Sem.run_bind,run_eqGuard_agg w .neq t x y i l A,Result.andThen_ok,run_neq_struct,run_equalIn_struct w 9999 t i l s z,C,Sem.run_pure]
theorem U2(x y:Operand)(t r:TypeId)(a c:List Int)(s:P.underlying t=some (.struct (P.fieldsOf t)))(z:P.stoodInHeld t=false)(A:P.eqGuardType P.depth t=false)
  (B:vu P (P.fieldsOf t).toList 0=true) (e:Nat.beq a.length (P.fieldsOf t).size=true) (h:Nat.beq c.length (P.fieldsOf t).size=true):
  b9 P H ⟨d,.binOp .eql t x y r,ty,pos,af,g⟩ [.agg (a.map aa),.agg (c.map aa)] (aL (decide (a=c))):=by
 intro D w X p _ q;obtain⟨i,k,ev⟩:=AA q.1;obtain⟨l,n,cz⟩:=AA q.2.1;refine⟨.bool (decide (a=c)),?_,.t _ _ (.bool _)⟩;have e:=cN e;have h:=cN h;have C:=Iu (P:=P) (w:=w) (xs:=i) (ys:=l) (P.fieldsOf t).toList 0 a c B (by simpa using e) (by simpa using h) (λj m o=>by simpa using ev j m o) λj m o=>by simpa using cz j m o
 have k:p x=_:=k;have n:p y=_:=n;simp only[execOp,k,n,Sem.run_bind,run_eqGuard_agg w .eql t x y i l A,Result.andThen_ok,run_eql_struct,run_equalIn_struct w 9999 t i l s z,C,Sem.run_pure]
end
def zN(P:Program)(t:TypeId)(n:Nat):Prop:=P.underlying t=some (.struct (P.fieldsOf t))/\P.stoodInHeld t=false/\P.eqGuardType P.depth t=false/\vu P (P.fieldsOf t).toList 0=true/\(P.fieldsOf t).size=n
section
variable {P:Program} {H:Nat->Option E} {d:Option Tmp} {ty:TypeId} {pos:String} {af:Array Edge} {g:Option (Nat×Bool)}
theorem X'(x y:Operand)(t l:TypeId){n:Nat}(i k:List Int)(h:zN P t n)(m:Nat.beq i.length n=true)(o:Nat.beq k.length n=true):
  b9 P H ⟨d,.binOp .neq t x y l,ty,pos,af,g⟩ [.agg (i.map aa),.agg (k.map aa)] (aL (!decide (i=k))):=by obtain⟨a,b,c,e,f⟩:=h;exact U' x y t l i k a b c e (by rw[f];exact m) (by rw[f];exact o)
theorem Yb(x y:Operand)(t l:TypeId){n:Nat}(i k:List Int)(h:zN P t n)(m:Nat.beq i.length n=true)(o:Nat.beq k.length n=true):
  b9 P H ⟨d,.binOp .eql t x y l,ty,pos,af,g⟩ [.agg (i.map aa),.agg (k.map aa)] (aL (decide (i=k))):=by obtain⟨a,b,c,e,f⟩:=h;exact U2 x y t l i k a b c e (by rw[f];exact m) (by rw[f];exact o)
end
inductive Et where
 |bool
 |int (k:IntKind)
 |string
 |slice (e:Nat)
 |array (n e:Nat)
 |struct (ahD:List (Nat×Nat))
 |P'
 |other
structure cj where
 u:Et
 z:Value
 size:Nat
 bytes:Nat
 places:Array (Nat×Nat)
def Et.agg:Et->Bool
 | .struct _=>true
 | .array _ _=>true
 |_=>false
def cj.is(P:Program)(i:cj)(u:TypeDesc):Prop:=match i.u with
 | .bool=>u= .bool
 | .int k=>u= .int k
 | .string=>u= .string
 | .slice e=>u= .slice e
 | .array n e=>u= .array n e
 | .struct l=> ∃a,u= .struct a/\a.toList.map (λf=>(f.type,f.offset))=l/\ ∀w,(a.mapM (m:=Sem) λf:Field=>do pure (f.offset,<-sizeOf f.type)).run P w= .ok i.places w
 | .P'=> ∃m,u= .interface m
 | .other=>kt u=false
def cj.ok(P:Program)(t:TypeId)(i:cj):Prop:= ∃u,cd P t u i.z i.size i.bytes/\i.is P u
variable {P:Program}{t:TypeId}{i:cj}{a b n:Int}{k R:Type}{x:k}{r l:List k}
theorem cj.ok.agg(h:i.ok P t): ∃u,cd P t u i.z i.size i.bytes/\kt u=i.u.agg:=by
 obtain⟨u,e,c⟩:=h;refine⟨u,e,?_⟩;unfold cj.is at c;split at c
 ·rename_i a;rw[a,c];rfl
 ·rename_i a;rw[a,c];rfl
 ·rename_i a;rw[a,c];rfl
 ·rename_i a;rw[a,c];rfl
 ·rename_i a;rw[a,c];rfl
 ·rename_i a;rw[a];obtain⟨k,d,_⟩:=c;rw[d];rfl
 ·rename_i a;rw[a];obtain⟨m,d⟩:=c;rw[d];rfl
 rename_i a;rw[a,c];rfl
theorem cj.ok.iw(h:i.ok P t):(i.u= .bool->P.underlying t=some .bool)/\(∀k,i.u= .int k->P.underlying t=some (.int k))/\(i.u= .string->P.underlying t=some .string)/\
  ∀e,i.u= .slice e->P.underlying t=some (.slice e):=by obtain⟨u,d,c⟩:=h;refine⟨λa=>?_,λk a=>?_,λa=>?_,λe a=>?_⟩<;>simp only[cj.is,a] at c<;>rw[<-c]<;>exact d.1
theorem cj.ok.st{l:List (Nat×Nat)}(h:i.ok P t)(d:i.u= .struct l): ∃a,cd P t (.struct a) i.z i.size i.bytes/\a.toList.map (λf=>(f.type,f.offset))=l/\ ∀w,(a.mapM (m:=Sem) λf:Field=>do pure (f.offset,<-sizeOf f.type)).run P w= .ok i.places w:=by obtain⟨u,e,c⟩:=h;simp only[cj.is,d] at c;obtain⟨a,rfl,k,n⟩:=c;exact⟨a,e,k,n⟩
def dz:List (Nat×cj)->Nat->Option cj
 | [],_=>none
 |(t,i)::l,k=>bif Nat.beq t k then some i else dz l k
def dU(P:Program)(a:List (Nat×cj)):Prop:= ∀t i,dz a t=some i->i.ok P t
theorem dU.nil:dU P []:=λ_ _ h=>by cases h
theorem dU.cons{a:List (Nat×cj)}{t:Nat}(h:i.ok P t)(e:dU P a):dU P ((t,i)::a):=by
 intro k j c;simp only[dz] at c;cases d:Nat.beq t k with
 |true=>rw[d] at c;cases c;rw[<-cN d];exact h
 |false=>rw[d] at c;exact e k j c
inductive cr where
 |row (r:List T)
 |rows (r:List (List T))
 |str (s:List UInt8)
 |int (n:Int)
 |nat (n:Nat)
 |b (w:Bool)
 |y (b:UInt8)
 |v (v:V)
 |jj (slot k:Nat)
 |r7 (cZ:List Nat) (k:Nat)
 |grow (slot k:Nat) (e:TypeId)
 |kf (k:Nat)
 |BF (b j k:Nat)
 |et (b j k:Nat) (e:TypeId)
 |afC (i k g:Nat)
 |afB (b j k g:Nat)
 |len (slot n:Nat)
 |eF (b j n:Nat)
 |r6 (k:Nat) (cZ:List Nat)
 |bj (k:Nat) (cZ blocks:List Nat)
 |ee (k b1:Nat) (cZ blocks:List Nat)
 |at (rem:Nat)
 |du (slot k b1:Nat)
 |dJ (L news:List Nat) (r:V) (out:List E)
 |dS (k:Nat) (fq:List dQ) (m:Nat)
 |dc (k:Nat)
 |dV (k b1 i j:Nat) (row:List T)
 |dn (k b1:Nat) (row:List T) (R:List (List T))
 |lt (k:Nat) (fq:List dQ) (m:Nat)
 |Pn (k i j:Nat) (row:List T)
 |C' (k:Nat) (row:List T) (R:List (List T))
 |BI (i j k:Nat) (e:TypeId)
 |cut (k n:Nat) (R:List (List T))
inductive dh where
 |p (p:Prop)
 |q (a b:Nat)
def cf:List dh->Prop
 | []=>True
 | .p p::l=>p/\cf l
 | .q a b::l=>a=b/\cf l
def x':List dh->Prop
 | []=>True
 | .p p::l=>p/\x' l
 | .q _ _::l=>x' l
def u':List dh->List Nat
 | []=>[]
 | .p _::l=>u' l
 | .q a _::l=>a::u' l
def va:List dh->List Nat
 | []=>[]
 | .p _::l=>va l
 | .q _ b::l=>b::va l
theorem cf.of: ∀{l:List dh},x' l->u' l=va l->cf l
 | [],_,_=>trivial
 | .p _::_,h,k=>⟨h.1,cf.of h.2 k⟩
 | .q _ _::_,h,k=>by simp only[u',va,List.cons.injEq] at k;exact⟨k.1,cf.of h k.2⟩
theorem cf.app: ∀{l m:List dh},cf (l++m)->cf l/\cf m
 | [],_,h=>⟨trivial,h⟩
 | .p _::_,_,h=>⟨⟨h.1,(cf.app h.2).1⟩,(cf.app h.2).2⟩
 | .q _ _::_,_,h=>⟨⟨h.1,(cf.app h.2).1⟩,(cf.app h.2).2⟩
def au{k:Type}(l:List k)(i:Int):Option k:=if 0<=i then l[i.toNat]? else none
def sub{k:Type}(l:List k)(a b:Int):Option (List k):=if 0<=a/\a<=b/\b<=l.length then some ((l.take b.toNat).drop a.toNat) else none
def cat(a b:List UInt8):Option (List UInt8):=if(a.length:Int)+b.length<=9223372036854775807 then some (a++b) else none
def app{k:Type}(a b:List k):Option (List k):=if a.length+b.length<=1000000000 then some (a++b) else none
def mk{k:Type}(n:Int)(x:k):Option (List k):=if 0<=n/\n<=1000000000 then some (List.replicate n.toNat x) else none
def b'{k:Type}(l:List k)(i:Int)(x:k):Option (List k):=if 0<=i/\i<l.length then some (l.set i.toNat x) else none
def wr(n:Int):Int:=IntKind.i64.wrap n
theorem mG{i:Int}(h:au l i=some x):0<=i/\l[i.toNat]? =some x:=by
 unfold au at h;split at h
 ·exact⟨‹_›,h⟩
 cases h
theorem Oi{i:Int}(f:k->R)(h:au l i=some x):au (l.map f) i=some (f x):=by obtain⟨a,c⟩:=mG h;unfold au;rw[a1 a,ey,c];rfl
theorem zQ(h:sub l a b=some r):0<=a/\a<=b/\b<=l.length/\r=(l.take b.toNat).drop a.toNat:=by
 unfold sub at h;split at h
 ·rename_i c;cases h;exact⟨c.1,c.2.1,c.2.2,rfl⟩
 cases h
theorem ra(f:k->R)(h:sub l a b=some r):sub (l.map f) a b=some (r.map f):=by obtain⟨c,d,e,rfl⟩:=zQ h;unfold sub;rw[a1 ⟨c,d,by simpa using e⟩,List.map_drop,tf]
theorem vW{a b:List k}(h:app a b=some r):a.length+b.length<=1000000000/\r=a++b:=by
 unfold app at h;split at h
 ·cases h;exact⟨‹_›,rfl⟩
 cases h
theorem b8{a b:List k}(f:k->R)(h:app a b=some r):app (a.map f) (b.map f)=some (r.map f):=by obtain⟨c,rfl⟩:=vW h;unfold app;rw[a1 (by simpa using c),f']
theorem pE(h:mk n x=some r):0<=n/\n<=1000000000/\r=List.replicate n.toNat x:=by
 unfold mk at h;split at h
 ·rename_i a;cases h;exact⟨a.1,a.2,rfl⟩
 cases h
theorem tF(f:k->R)(h:mk n x=some r):mk n (f x)=some (r.map f):=by obtain⟨a,c,rfl⟩:=pE h;unfold mk;rw[a1 ⟨a,c⟩,List.map_replicate]
theorem sL{i:Int}(h:b' l i x=some r):0<=i/\i<l.length/\r=l.set i.toNat x:=by
 unfold b' at h;split at h
 ·rename_i a;cases h;exact⟨a.1,a.2,rfl⟩
 cases h
theorem Zh{a b r:List UInt8}(h:cat a b=some r):(a.length:Int)+b.length<=9223372036854775807/\r=a++b:=by
 unfold cat at h;split at h
 ·cases h;exact⟨‹_›,rfl⟩
 cases h
mutual
def ny:V->V
 | .t .fo=> .t (.aD [])
 | .agg cs=> .agg (gS cs)
 | .bL cs=> .bL (gS cs)
 | .t (.aD r)=> .t (.aD r)
 | .t (.int k n)=> .t (.int k n)
 | .t (.bool b)=> .t (.bool b)
 | .t (.str s)=> .t (.str s)
 |v=>v
def gS:List V->List V
 | []=>[]
 |c::cs=>ny c::gS cs
end
mutual
theorem tD: ∀v:V,dC v (ny v)
 | .t .fo=>dC.nil
 | .t (.aD _)| .t (.int _ _)| .t (.bool _)| .t (.str _)| .t .hA| .t .gA| .t .nx| .t .err=>dC.refl _
 | .agg cs=>dC.agg (l0 cs)
 | .bL cs=>dC.bL (l0 cs)
 | .ref _ _| .aQ _| .bc _ _ _ _ _| .cC _ _ _ _ _| .fn _ _| .c4=>dC.refl _
theorem l0: ∀cs:List V,fr cs (gS cs)
 | []=>trivial
 |c::cs=>⟨tD c,l0 cs⟩
end
theorem sH: ∀cs:List V,(gS cs).length=cs.length
 | []=>rfl
 |c::cs=>by simp[gS,sH cs]
def ue(k:Option Nat):List V->List V
 | [.t .fo]=>match k with
  |some _=>[.t .fo]
  |none=>gS [.t .fo]
 |vs=>gS vs
theorem ZB(k:Option Nat)(a:List V):fr a (ue k a):=by
 unfold ue;split
 ·split
  ·exact fr.refl _
  exact l0 _
 exact l0 _
theorem UT(k:Option Nat)(a:List V):(ue k a).length=a.length:=by
 unfold ue;split
 ·split
  ·rfl
  exact sH _
 exact sH _
def yv:V->Option T
 | .t x=>some x
 |_=>none
def lF:List V->Option (List T)
 | []=>some []
 |v::a=>match yv v,lF a with
  |some x,some c=>some (x::c)
  |_,_=>none
theorem oF: ∀{a:List V} {c:List T},lF a=some c->a=c.map .t
 | [],_,h=>by cases h;rfl
 |v::a,c,h=>by
  simp only[lF] at h;split at h
  ·rename_i x i e d;cases h;have d:=oF d;cases v<;>simp[yv] at e;subst e;subst d;rfl
  cases h
def wW:List V->Option (List Int)
 | []=>some []
 | .t (.int .i64 m)::a=>match wW a with
  |some ms=>some (m::ms)
  |none=>none
 |_=>none
theorem yU: ∀{a:List V} {ms:List Int},wW a=some ms->a=ms.map aa
 | [],_,h=>by cases h;rfl
 |v::a,ms,h=>by
  unfold wW at h;split at h
  ·rename_i c;cases c
  ·rename_i m d c;cases c;split at h
   ·rename_i e i;cases h;rw[yU i];rfl
   cases h
  cases h
abbrev hL:=Option (V×List dh×List cr)
def OL(a:BinOp)(m n:Int):Option Bool:=
 match a with
 | .eql=>some (decide (m=n))
 | .neq=>some (!decide (m=n))
 | .lss=>some (decide (m<n))
 | .leq=>some (decide (m<=n))
 | .gtr=>some (decide (n<m))
 | .geq=>some (decide (n<=m))
 |_=>none
def Om(a:BinOp):Bool:=
 match a with
 | .and| .or| .xor| .andNot=>true
 |_=>false
def GV(op:BinOp)(k:IntKind)(m n:Int)(a:List cr):hL:=
 match op with
 | .add=>some (.t (.int k (k.wrap (m+n))),[],a)
 | .sub=>some (.t (.int k (k.wrap (m-n))),[],a)
 | .mul=>some (.t (.int k (k.wrap (m*n))),[],a)
 | .quo=>some (.t (.int k (k.wrap (m.tdiv n))),[.p (n≠0)],a)
 | .rem=>some (.t (.int k (m.tmod n)),[.p (n≠0)],a)
 | .and=>some (.t (.int k (bits .and k m n)),[],a)
 | .or=>some (.t (.int k (bits .or k m n)),[],a)
 | .xor=>some (.t (.int k (bits .xor k m n)),[],a)
 | .andNot=>some (.t (.int k (bits .andNot k m n)),[],a)
 | .shl| .shr=>none
 |op=>match OL op m n with
  |some b=>some (.t (.bool b),[],a)
  |none=>none
def GP(c:BinOp)(m n:List UInt8)(a:List cr):hL:=
 match c,a with
 | .add,.str r::a=>some (.t (.str r),[.p (cat m n=some r)],a)
 | .eql,a=>some (.t (.bool (decide (m=n))),[],a)
 | .neq,a=>some (.t (.bool (!decide (m=n))),[],a)
 | .geq,a=>some (.t (.bool (!Op.bytesLess m n)),[],a)
 | .lss,a=>some (.t (.bool (Op.bytesLess m n)),[],a)
 | .gtr,a=>some (.t (.bool (!Op.bytesLess m n&& !m==n)),[],a)
 | .leq,a=>some (.t (.bool (Op.bytesLess m n||m==n)),[],a)
 |_,_=>none
def Gn:Option cj->Bool
 |some i=>match i.u with
  | .bool=>true
  |_=>false
 |none=>false
def GZ(P:Program)(e:List (Nat×cj))(d:BinOp)(t:TypeId)(v w:V)(a:List cr):hL:=
 match v,w with
 | .t (.int k m),.t (.int h n)=>if k=h then GV d k m n a else none
 | .t (.str m),.t (.str n)=>GP d m n a
 | .t (.bool p),.t (.bool q)=>match Gn (dz e t),d with
  |true,.eql=>some (.t (.bool (p==q)),[],a)
  |true,.neq=>some (.t (.bool (!(p==q))),[],a)
  |_,_=>none
 | .agg cs,.agg i=>match wW cs,wW i,d,a with
  |some ms,some c,.eql,.b b::a=>some (.t (.bool b),[.p (zN P t ms.length),.q c.length ms.length,.p (decide (ms=c)=b)],a)
  |some ms,some c,.neq,.b b::a=>some (.t (.bool (!b)),[.p (zN P t ms.length),.q c.length ms.length,.p (decide (ms=c)=b)],a)
  |_,_,_,_=>none
 |_,_=>none
def GX:Option cj->Bool
 |some i=>match i.u with
  | .P'=>true
  |_=>false
 |none=>false
def po:Operand->Bool
 | .const _=>true
 |_=>false
def GJ(c:List (Nat×cj))(d:BinOp)(t:TypeId)(x y:Operand)(v w:V)(a:List cr):hL:=
 match GX (dz c t),po x||po y,v,w,d with
 |true,true,.t .err,.t .gA,.eql=>some (.t (.bool false),[],a)
 |true,true,.t .err,.t .gA,.neq=>some (.t (.bool true),[],a)
 |true,true,.t .gA,.t .gA,.eql=>some (.t (.bool true),[],a)
 |true,true,.t .gA,.t .gA,.neq=>some (.t (.bool false),[],a)
 |_,_,_,_,_=>none
def G5(c:UnOp)(v:V)(a:List cr):hL:=
 match c,v with
 | .not,.t (.bool b)=>some (.t (.bool (!b)),[],a)
 | .neg,.t (.int k n)=>some (.t (.int k (k.wrap (0-n))),[],a)
 |_,_=>none
def Fy(a:List (Nat×cj)):Option cj->Bool
 |some i=>match i.u with
  | .slice e=>match dz a e with
   |some j=>match j.u with
    | .int .u8=>true
    |_=>false
   |none=>false
  |_=>false
 |none=>false
def Gg(d:List (Nat×cj))(e h:TypeId)(v:V)(a:List cr):hL:=
 match dz d e,dz d h with
 |some i,some j=>match j.u,v,a with
  | .int k,.t (.int _ n),.int m::a=>some (.t (.int k m),[.p (k.wrap n=m)],a)
  | .int .u8,.t (.int _ n),.y m::a=>some (.t (.int .u8 (m.toNat:Nat)),[.p (UInt8.ofInt n=m)],a)
  | .string,.t (.aD c),.str l::a=>match Fy d (some i) with
   |true=>some (.t (.str l),[.p (c=l.map nB)],a)
   |false=>none
  |_,_,_=>none
 |_,_=>none
def tA(n:List (Nat×cj))(H:Nat->Option E)(t:TypeId)(v:V)(h:List cr):hL:=
 match dz n t with
 |none=>none
 |some i=>match v with
  | .ref id a=>match H id with
   |some (.cells cs)=>match i.u.agg with
    |true=>match Nat.ble (a+i.size) cs.length with
     |true=>some (.agg ((cs.drop a).take i.size),[],h)
     |false=>none
    |false=>match cs[a]? with
     |some c=>some (c,[],h)
     |none=>none
   |_=>none
  | .aQ cs=>match i.u.agg with
   |true=>match Nat.ble i.size cs.length with
    |true=>some (.agg ((cs.take i.size).map .t),[],h)
    |false=>none
   |false=>match cs with
    |c::_=>some (.t c,[],h)
    | []=>none
  | .cC id gen m k a=>match H id,i.u.agg,h with
   |some (.arr _ d l e),false,.row r::h=>match r[a]? with
    |some c=>some (.t c,[.q d gen,.q l m,.p (e[k]? =some r)],h)
    |none=>none
   |some (.arr _ d l e),true,.row r::h=>match Nat.ble (a+i.size) r.length with
    |true=>some (.agg (((r.drop a).take i.size).map .t),[.q d gen,.q l m,.p (e[k]? =some r)],h)
    |false=>none
   |_,_,_=>none
  |_=>none
def rK(j:Nat):List (Nat×Nat×V)->Option (Nat×V)
 | []=>none
 |h::a=>bif Nat.beq h.2.1 j then some (h.1,h.2.2) else rK j a
def rF(a:List (Nat×Nat×V)):Nat->Nat->Option (List (Nat×V))
 |_,0=>some []
 |j,n+1=>match rK j a,rF a (j+1) n with
  |some x,some l=>some (x::l)
  |_,_=>none
def rM(k:Nat):List (Nat×V)->List dh
 | []=>[]
 |x::l=> .q x.1 k::rM k l
def rZ(i j:Nat):List (Nat×Nat×V)->List dh
 | []=>[]
 |h::a=>bif Nat.beq h.2.1 j then .p (i≠h.1)::rZ i j a else rZ i j a
theorem wE{i j:Nat}: ∀{c:List (Nat×Nat×V)},cf (rZ i j c)-> ∀v,(i,j,v)∉c
 | [],_,_,h=>by cases h
 |h::c,a,v,hm=>by
  unfold rZ at a;cases d:Nat.beq h.2.1 j with
  |true=>
   rw[d] at a;rcases dP.1 hm with rfl|hm
   ·exact a.1 rfl
   exact wE a.2 v hm
  |false=>
   rw[d] at a;rcases dP.1 hm with rfl|hm
   ·simp at d
   exact wE a v hm
def F3(y:List (Nat×cj))(H:Nat->Option E)(t:TypeId)(v:V)(h:List cr):hL:=
 match dz y t,v,h with
 |some i,.cC id gen o k a,.row r::h=>match H id with
  |some (.a8 n m d e s)=>match i.u.agg with
   |false=>match r[a]?,rK a s with
    |some c,none=>match (aO n m).ek a with
     |none=>some (.t c,[.q d gen,.q (aO n m).size o,.p (e[k]? =some r)],h)
     |some _=>none
    |some _,some (w,x)=>some (x,[.q d gen,.q (aO n m).size o,.p (e[k]? =some r),.q w k],h)
    |none,_=>none
   |true=>match Nat.ble (a+i.size) r.length,rF s a i.size with
    |true,some l=>some (.agg (l.map (·.2)),.q d gen:: .q (aO n m).size o:: .p (e[k]? =some r)::rM k l,h)
    |_,_=>none
  |_=>none
 |some i,.cC id gen o k a,.int q:: .row r::h=>match H id with
  |some (.a8 n m d e s)=>match i.u.agg,r[a]?,s[q.toNat]? with
   |false,some _,some (w,z,x)=>some (x,[.q d gen,.q (aO n m).size o,.p (e[k]? =some r),.q w k,.q z a],h)
   |true,_,_=>match Nat.ble (a+i.size) r.length,rF (s.drop q.toNat) a i.size with
    |true,some l=>some (.agg (l.map (·.2)),.q d gen:: .q (aO n m).size o:: .p (e[k]? =some r)::rM k l,h)
    |_,_=>none
   |_,_,_=>none
  |_=>none
 |some i,.cC id gen o k a,.nat _:: .row r::h=>match H id with
  |some (.a8 n m d e s)=>match i.u.agg,r[a]?,(aO n m).ek a with
   |false,some c,none=>some (.t c,.q d gen:: .q (aO n m).size o:: .p (e[k]? =some r)::rZ k a s,h)
   |_,_,_=>none
  |_=>none
 |_,_,_=>none
def GL(e:List (Nat×cj))(t:TypeId)(k:Nat)(v:V)(h:List cr):hL:=
 match dz e t with
 |none=>none
 |some i=>match i.u with
  | .struct l=>match l[k]? with
   |none=>none
   |some a=>match dz e a.1 with
    |none=>none
    |some j=>match v with
     | .agg d=>match j.u.agg with
      |true=>match Nat.ble (a.2+j.size) d.length with
       |true=>some (.agg ((d.drop a.2).take j.size),[],h)
       |false=>none
      |false=>match d[a.2]? with
       |some c=>some (c,[],h)
       |none=>none
     |_=>none
  |_=>none
def FM(m:List (Nat×cj))(H:Nat->Option E)(t:TypeId)(k:Nat)(v:V)(e:List cr):hL:=
 match dz m t with
 |none=>none
 |some i=>match i.u with
  | .struct o=>match o[k]? with
   |none=>none
   |some a=>match dz m a.1 with
    |none=>none
    |some j=>match Nat.beq j.size 0 with
     |true=>none
     |false=>match v with
      | .ref id d=>some (.ref id (d+a.2),[],e)
      | .aQ cs=>some (.aQ (cs.drop a.2),[],e)
      | .cC id gen h n d=>match H id with
       |some (.arr _ c l _)=>some (.cC id gen h n (d+a.2),[.q c gen,.q l h],e)
       |some (.a8 _ _ c _ _)=>some (.cC id gen h n (d+a.2),[.q c gen],e)
       |_=>none
      |_=>none
  |_=>none
def GK(s:List (Nat×cj))(H:Nat->Option E)(t:TypeId)(v w:V)(h:List cr):hL:=
 match dz s t with
 |none=>none
 |some i=>match i.u with
  | .slice e=>match dz s e with
   |none=>none
   |some j=>match v,w with
    | .t (.aD l),.t (.int .i64 n)=>match h with
     | .row r::h=>match Nat.beq r.length j.size with
      |true=>some (.aQ r,[.p (au l n=some r)],h)
      |false=>none
     |_=>none
    | .bc id gen a d o,.t (.int .i64 n)=>match H id,Nat.beq a j.size with
     |some (.arr _ c x _),true=>some (.cC id gen a (d+n.toNat) 0,[.q c gen,.q x a,.p (0<=n/\n<(o:Int))],h)
     |some (.a8 _ _ c _ _),true=>some (.cC id gen a (d+n.toNat) 0,[.q c gen,.p (0<=n/\n<(o:Int))],h)
     |_,_=>none
    |_,_=>none
  | .array m e=>match dz s e with
   |none=>none
   |some j=>match v,w,h with
    | .ref id d,.t (.int .i64 n),.nat k::h=>match Nat.ble (k+1) m with
     |true=>some (.ref id (d+k*j.size),[.p (n=(k:Int))],h)
     |false=>none
    |_,_,_=>none
  |_=>none
def wV:Option cj->Bool
 |some i=>match i.u with
  | .string=>true
  |_=>false
 |none=>false
def w7:Option cj->Bool
 |some i=>match i.u with
  | .slice _=>true
  |_=>false
 |none=>false
def GQ(d:List (Nat×cj))(e:BinOp)(t:TypeId)(v w:V)(c:List cr):hL:=
 match w7 (dz d t),v,w,e,c with
 |true,.t (.aD a),.t .fo,.eql,.b false::c=>some (.t (.bool false),[.p (a≠[])],c)
 |_,_,_,_,_=>none
def F4(c:List (Nat×cj))(t:TypeId)(v w:V)(a:List cr):hL:=
 match wV (dz c t),v,w,a with
 |true,.t (.str l),.t (.int .i64 n),.y b::a=>some (.t (.int .u8 (b.toNat:Nat)),[.p (au l n=some b)],a)
 |_,_,_,_=>none
def rR(d e:Option Operand)(c:Nat)(h:List V):Option (Int×Int):=
 match d,e,h with
 |some _,some _,[.t (.int .i64 a),.t (.int .i64 b)]=>some (a,b)
 |some _,none,[.t (.int .i64 a)]=>some (a,(c:Int))
 |none,some _,[.t (.int .i64 b)]=>some (0,b)
 |_,_,_=>none
def F2(s:List (Nat×cj))(H:Nat->Option E)(t:TypeId)(y z:Option Operand)(w:List V)(h:List cr):hL:=
 match w with
 | .t (.str l)::x=>match wV (dz s t),rR y z l.length x,h with
  |true,some (a,b),.str r::h=>some (.t (.str r),[.p (sub l a b=some r)],h)
  |_,_,_=>none
 | .t (.aD d)::x=>match dz s t with
  |none=>none
  |some i=>match i.u with
   | .slice e=>match dz s e,rR y z d.length x,h with
    |some j,some (a,b),.rows r::h=>some (.t (.aD r),[.p (sub d a b=some r),.p (Rows j.size d)],h)
    |_,_,_=>none
   |_=>none
 | .bc id gen c n k::x=>match dz s t,(H id).bind E.gen? with
  |some i,some B=>match i.u with
   | .slice e=>match dz s e,rR y z k x,h with
    |some j,some (a,b),.nat o:: .nat m::h=>some (.bc id gen c o m,[.q B gen,.q c j.size,.p (0<=a/\a<=b/\b<=k/\(a=0\/a<k)/\o=n+a.toNat/\m=b.toNat-a.toNat)],h)
    |some _,some (a,b),.int 0::h=>some (.t (.aD []),[.q B gen,.p (0<=a/\a=b/\b<=k)],h)
    |some j,some (a,b),.int 1:: .nat o:: .nat m::h=>match H id with
     |some (.arr _ C A d)=>some (.bc id gen c o m,[.q C gen,.q A c,.q c j.size,.p (0<c/\0<=a/\a<b/\n+b<=d.length/\o=n+a.toNat/\m=b.toNat-a.toNat)],h)
     |_=>none
    |_,_,_=>none
   |_=>none
  |_,_=>none
 |_=>none
def Fu(k:List (Nat×cj))(H:Nat->Option E)(t:TypeId)(d:List V)(l:List cr):hL:=
 match d with
 | [.bc id gen _ _ h,.t (.int .i64 a),.t (.int .i64 b),.t (.int .i64 c)]=>match dz k t,(H id).bind E.gen? with
  |some i,some m=>match i.u with
   | .slice e=>match dz k e with
    |some _=>some (.c4,[.q m gen,.p (0<=a/\a<=b/\b<=c/\c<=h)],l)
    |none=>none
   |_=>none
  |_,_=>none
 |_=>none
def Gh(k:List (Nat×cj))(t:TypeId)(d:List V)(h:List cr):hL:=
 match d,h with
 | [.t (.aD a),.t (.int .i64 b),.t (.int .i64 c)],.rows r::h=>match dz k t with
  |some i=>match i.u with
   | .slice e=>match dz k e with
    |some j=>some (.t (.aD r),[.p (sub a 0 b=some r/\c=b),.p (Rows j.size a)],h)
    |none=>none
   |_=>none
  |none=>none
 |_,_=>none
def GU(i:List (Nat×cj))(H:Nat->Option E)(t:TypeId)(v:V)(c:List cr):hL:=
 match v,c with
 | .t (.str l),c=>match wV (dz i t) with
  |true=>some (.t (.int .i64 (l.length:Nat)),[],c)
  |false=>none
 | .t (.aD d),.nat n::c=>match w7 (dz i t) with
  |true=>some (.t (.int .i64 (n:Nat)),[.p (d.length=n)],c)
  |false=>none
 | .bc id gen e _ h,.nat n::c=>match H id,w7 (dz i t) with
  |some (.arr _ a k _),true=>some (.t (.int .i64 (n:Nat)),[.q a gen,.q k e,.p (h=n)],c)
  |some (.a8 _ _ a _ _),true=>some (.t (.int .i64 (n:Nat)),[.q a gen,.p (h=n)],c)
  |_,_=>none
 |_,_=>none
def EN(h:List (Nat×cj))(H:Nat->Option E)(b:Builtin)(c:List TypeId)(i:List Operand)(a:List V)(d:List cr):hL:=
 match b,c,i,a with
 | .len,[t],[_],[v]=>GU h H t v d
 | .max,_,[_,_],[.t (.int k m),.t (.int e n)]=>if k=e then some (.t (.int k (max m n)),[],d) else none
 | .min,_,[_,_],[.t (.int k m),.t (.int e n)]=>if k=e then some (.t (.int k (min m n)),[],d) else none
 |_,_,_,_=>none
def GR(H:Nat->Option E)(v:V)(a:List cr):hL:=
 match v with
 | .cC id gen _ _ _=>match (H id).bind E.gen? with
  |some c=>some (v,[.q c gen],a)
  |none=>none
 | .ref _ _=>some (v,[],a)
 | .aQ _=>some (v,[],a)
 | .fn _ _=>some (v,[],a)
 |_=>none
def FO(d:List (Nat×cj))(t:TypeId)(c:List Nat)(a:List V)(e:List cr):hL:=
 match dz d t with
 |none=>none
 |some i=>match i.u with
  | .struct _=>match (gX i.z).val,Nat.beq c.length a.length,kP (i.places[·]?) (gX i.z).cs (c.zip a) with
   |true,true,some cs=>some (.agg cs,[],e)
   |_,_,_=>none
  |_=>none
def xp(P:Program)(h:List (Nat×cj))(H:Nat->Option E)(l:Op)(a:List V)(e:List cr):hL:=
 match l with
 | .move _=>match a with
  | [v]=>some (v,[],e)
  |_=>none
 | .assign _=>match a with
  | [v]=>some (v,[],e)
  |_=>none
 | .pick _ _ _=>match a,e with
  | [.t (.bool b),v,w],.b c::e=>some (bif c then v else w,[.p (b=c)],e)
  |_,_=>none
 | .load t _=>match a with
  | [v]=>match tA h H t v e with
   |some r=>some r
   |none=>F3 h H t v e
  |_=>none
 | .nilCheck _=>match a with
  | [v]=>GR H v e
  |_=>none
 | .binOp o t x y _=>match a with
  | [v,w]=>match GZ P h o t v w e with
   |some r=>some r
   |none=>match GJ h o t x y v w e with
    |some r=>some r
    |none=>GQ h o t v w e
  |_=>none
 | .unOp o _ _=>match a with
  | [v]=>G5 o v e
  |_=>none
 | .convert s d _=>match a with
  | [v]=>Gg h s d v e
  |_=>none
 | .makeFunc m first _=>match m,first.toList with
  | .func f,[]=>some (.fn f a,[],e)
  |_,_=>none
 | .slice t _ bf i mE=>match mE with
  |none=>F2 h H t bf i a e
  |some _=>match bf,i with
   |some _,some _=>Fu h H t a e
   |none,some _=>Gh h t a e
   |_,_=>none
 | .fieldAddr t _ k=>match a with
  | [v]=>FM h H t k v e
  |_=>none
 | .field t _ k=>match a with
  | [v]=>GL h t k v e
  |_=>none
 | .indexAddr t _ _=>match a with
  | [v,w]=>GK h H t v w e
  |_=>none
 | .index t _ _=>match a with
  | [v,w]=>F4 h t v w e
  |_=>none
 | .extract _ k=>match a with
  | [.bL n]=>match n[k]? with
   |some v=>some (v,[],e)
   |none=>none
  |_=>none
 | .build t q=>FO h t (q.toList.map (·.1)) a e
 | .call c=>match c.callee with
  | .builtin b=>EN h H b c.argTypes.toList c.args.toList a e
  |_=>none
 |_=>none
end Go.Lift
