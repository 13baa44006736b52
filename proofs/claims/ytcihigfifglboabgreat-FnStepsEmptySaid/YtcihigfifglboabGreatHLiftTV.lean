/- Tools. -/
import Derived.Test.YtcihigfifglboabGreatHLiftAB
import Derived.Laws.BitsAllLaws
import Derived.Laws.BytesArg
import Derived.Laws.StructEq
namespace Go.Lift
open Go
section
variable {D β:Map}{w:World}{X:Nat->Prop}{i m k b n:Nat}{G:List dQ}{a:Act}{U hs:List (Nat×Nat×V)}{e:TypeId}{v c:List (List T)}{l:List T}{x:T}
theorem tn{gen:Nat}{a:List (List T)}(h:cG D w X i (.a8 G m gen a U)): ∃q,D i=some (q,gen):=by
 rcases h.2 with ⟨c,_⟩|⟨b,e,_,c,_⟩
 ·exact⟨_,c⟩
 exact⟨_,c⟩
def Map.drop(a:Map)(k:Nat):Map:=⟨a.f,λid b=>id≠k/\a.n id b⟩
theorem oq(h:At (D.drop k) i b):At D i b:=by
 rcases h with h|h
 ·exact .inl h
 exact .inr h.2
theorem Rel.drop{K:Ctx}{s:S}(h:Rel K β s a w)(k:Nat)(e':E)(x:s.H k≠none)
  (B:cG (β.drop k) w (own K (β.drop k) (aU s.H k (some e'))) k e'):Rel K (β.drop k) {s with H:=aU s.H k (some e')} a w:=by
 have l: ∀b,own K (β.drop k) (aU s.H k (some e')) b->own K β s.H b:=by
  rintro b (c|⟨id,m,o⟩)
  ·exact .inl c
  refine .inr ⟨id,λp=>?_,oq o⟩;by_cases n:id=k
  ·subst n;exact x p
  rw[bX _ _ _ _ n] at m;exact m p
 have y:du β (β.drop k):=λ_ _ _ c=> .inl c;refine {h with base:=λid hid=>h.base id hid,dK:=λid hid=>h.dK id hid,ec:=λid b hid q=>h.ec id b hid q.2,inj:=λid r b m o=>h.inj id r b (oq m) (oq o),fresh:=λid b q=>h.fresh id b (oq q),heap:= ?_,cZ:=λi=>(h.cZ i).mono (Ext.refl _ _) (λb _=>l b) y (Shaped.refl _ _)};intro id e c;have c:aU s.H k (some e') id=some e:=c;by_cases n:id=k
 ·subst n;rw[bW] at c;cases c;cases A:s.H id with
  |none=>exact bB A x
  |some p=>exact⟨(h.heap id p A).1,B⟩
 rw[bX _ _ _ _ n] at c;obtain⟨m,o⟩:=h.heap id e c;exact⟨m,o.mono (Ext.refl _ _) (λb _=>l b) y (λ_ h=>h) (Shaped.refl _ _) (λ_ _=>rfl) λb=>⟨λh=>h.2,λh=>⟨n,h⟩⟩⟩
theorem W4{K:Ctx}{s:S}(k:Nat){gen:Nat}(l:List dQ)(m:Nat)(y:s.H k=some (.arr e gen n v))(r:(aO l m).ty=e)(A:(aO l m).size=n)
  (B:v=[]\/(aO l m).bm=[]):s.le K {s with H:=aU s.H k (some (.a8 l m gen v []))}:=by
 intro F a w h;refine⟨_,h.drop k (.a8 l m gen v []) (by rw[y];simp) ?_⟩;have o:=(h.heap k _ y).2;subst r;subst A;refine⟨o.1,?_⟩;have p: ∀b,own K (F.drop k) (aU s.H k (some (.a8 l m gen v []))) b->own K F s.H b:=by
  rintro b (L|⟨id,r,A⟩)
  ·exact .inl L
  refine .inr ⟨id,λC=>?_,oq A⟩;by_cases G:id=k
  ·subst G;rw[y] at C;cases C
  rw[bX _ _ _ _ G] at r;exact r C
 rcases o.2 with ⟨aK,a2⟩|⟨b,Q,aK,a2,a3,a4,a5⟩
 ·exact .inl ⟨aK,a2,λc q=>q.1 rfl⟩
 refine .inr ⟨b,Q,λ_ _ _=>False,aK,a2,a3,a4,λi j D x u I R U=>Cell.of ?_,λ_ _ _ h=>h.elim,λ_ _ _ _ _ h=>h.elim,λc=>⟨λq=>bB rfl q.1,λ⟨_,_,q⟩=>q.elim⟩⟩;rcases B with rfl|B
 ·simp at I
 have:(aO l m).ei j=none:=by unfold dQ.ei;rw[B];rfl
 rw[this];exact .ja _ _ _ ((a5 i j D x u I R U).mono (Ext.refl _ _) λb _=>p b) λ_ h=>h
theorem W5{K:Ctx}{s:S}(k:Nat){gen:Nat}(r:s.H k=some (.a8 G m gen v []))(p:Nat.ble K.da k=true):
  s.le K {s with H:=aU s.H k (some (.arr (aO G m).ty gen (aO G m).size v))}:=by
 have Q:=d' p;intro q a w h;refine⟨_,h.drop k (.arr (aO G m).ty gen (aO G m).size v) (by rw[r];simp) ?_⟩;have l:=(h.heap k _ r).2;have n: ∀b,own K (q.drop k) (aU s.H k (some (.arr (aO G m).ty gen (aO G m).size v))) b->own K q s.H b:=by
  rintro b (o|⟨id,y,e⟩)
  ·exact .inl o
  refine .inr ⟨id,λA=>?_,oq e⟩;by_cases F:id=k
  ·subst F;rw[r] at A;cases A
  rw[bX _ _ _ _ F] at y;exact y A
 refine⟨l.1,?_⟩;rcases l.2 with ⟨aK,a2,_⟩|⟨b,R,B,aK,a2,a3,a4,a5,hX,ix,ff⟩
 ·exact .inl ⟨aK,a2⟩
 refine .inr ⟨b,R,aK,a2,a3,a4,λi j C x u U W X=>(a5 i j C x u U W X).none.yl n ?_⟩;intro c I o;have p:At q k c:= .inr ((ff c).2 ⟨i,j,I⟩);rcases o with o|⟨id,y,e⟩
 ·obtain⟨M,Y⟩:=h.iu c o;rcases(h.fresh k c p).1 with D|f
  ·exact Y D
  omega
 have:=h.inj _ _ _ (oq e) p;subst this;rcases e with ⟨g,e⟩|e
 ·have L:q id=some (some c,g):=e;rw[aK] at L;cases L;exact(hX i j _ I).2.2 rfl
 exact e.1 rfl
def Map.split(c:Map)(k a:Nat)(q:Option Nat)(N:Nat->Prop):Map:=
 ⟨λi=>bif Nat.beq i a then some (q,1) else c i,λid b=>(id=a/\N b)\/(id=k/\id≠a/\c.n k b/\ ¬N b/\q≠some b)\/(id≠a/\id≠k/\c.n id b)⟩
theorem M6(h:i≠k):Nat.beq i k=false:=by
 cases a:Nat.beq i k with
 |false=>rfl
 |true=>exact bB (cM a) h
theorem yL(c:Map)(k a:Nat)(q:Option Nat)(N:Nat->Prop):c.split k a q N a=some (q,1):=by simp[Map.split]
theorem uY(a:Map)(k c:Nat)(q:Option Nat)(N:Nat->Prop)(id:Nat)(h:id≠c):a.split k c q N id=a id:=by simp[Map.split,M6 h]
theorem XG{D:Map}{k L:Nat}{q:Option Nat}{N:Nat->Prop}(o: ∀b,q=some b->D.n k b)(p: ∀b,N b->D.n k b){i b:Nat}(h:At (D.split k L q N) i b):
  (i=L/\D.n k b/\(q=some b\/N b))\/(i≠L/\At D i b/\(i=k->(∃g,D k=some (some b,g))\/(¬N b/\q≠some b))):=by
 rcases h with ⟨g,h⟩|⟨rfl,h⟩|⟨rfl,a,c,l,r⟩|⟨a,c,l⟩
 ·by_cases m:i=L
  ·subst m;rw[yL] at h;cases h;exact .inl ⟨rfl,o _ rfl,.inl rfl⟩
  rw[uY _ _ _ _ _ _ m] at h;exact .inr ⟨m,.inl ⟨g,h⟩,λe=> .inl ⟨g,e▸h⟩⟩
 ·exact .inl ⟨rfl,p b h,.inr h⟩
 ·exact .inr ⟨a,.inr c,λ_=> .inr ⟨l,r⟩⟩
 exact .inr ⟨a,.inr l,λe=>bB e c⟩
theorem Rel.split{K:Ctx}{s:S}(h:Rel K β s a w)(k b1:Nat)(q:Option Nat)(N:Nat->Prop)(r y:E)(W:s.H k≠none)(R:s.u b1=false)
  (di: ∀b,q=some b->β.n k b/\ ¬N b) (fu: ∀b,N b->β.n k b) (p: ∀b g,β k=some (some b,g)-> ¬β.n k b)
  (X:(∀b,own K (β.split k b1 q N) (aU (aU s.H k (some r)) b1 (some y)) b->own K β s.H b)->cG (β.split k b1 q N) w (own K (β.split k b1 q N) (aU (aU s.H k (some r)) b1 (some y))) k r)
  (Y:(∀b,own K (β.split k b1 q N) (aU (aU s.H k (some r)) b1 (some y)) b->own K β s.H b)->cG (β.split k b1 q N) w (own K (β.split k b1 q N) (aU (aU s.H k (some r)) b1 (some y))) b1 y):
  Rel K (β.split k b1 q N) {t:=s.t,H:=aU (aU s.H k (some r)) b1 (some y),u:=aU s.u b1 true} a w:=by
 have I:s.u k=true:=by
  cases V:s.H k with
  |none=>exact bB V W
  |some U=>exact(h.heap k U V).1
 have hne:k≠b1:=by intro e;subst e;rw[I] at R;cases R
 have A:= @XG β k b1 q N (λb L=>(di b L).1) fu;have m: ∀b,own K (β.split k b1 q N) (aU (aU s.H k (some r)) b1 (some y)) b->own K β s.H b:=by
  rintro b (l|⟨id,o,Q⟩)
  ·exact .inl l
  rcases A Q with ⟨_,f,_⟩|⟨f,h4,_⟩
  ·exact .inr ⟨k,W,.inr f⟩
  refine .inr ⟨id,λU=>?_,h4⟩;rw[bX _ _ _ _ f] at o;by_cases F:id=k
  ·subst F;exact W U
  rw[bX _ _ _ _ F] at o;exact o U
 have G:=h.dK b1 R;have C: ∀id x,β id=some x->β.split k b1 q N id=some x:=λid x l=>by
  rw[uY _ _ _ _ _ _ (by intro e;subst e;rw[G] at l;cases l)];exact l
 have hm:du β (β.split k b1 q N):=du.of C;refine {h with base:= ?_,low:= ?_,dK:= ?_,ec:= ?_,inj:= ?_,fresh:= ?_,heap:= ?_,cZ:=λi=>(h.cZ i).mono (Ext.refl _ _) (λb _=>m b) hm (Shaped.refl _ _)}
 ·refine h.base.keep λid hid=>uY _ _ _ _ _ _ ?_;intro e;subst e;have:=h.low id hid;rw[R] at this;cases this
 ·intro id hid;show aU s.u b1 true id=true;by_cases e:id=b1
  ·subst e;exact bW _ _ _
  rw[bX _ _ _ _ e];exact h.low id hid
 ·intro id hid;have c:aU s.u b1 true id=false:=hid;by_cases e:id=b1
  ·subst e;rw[bW] at c;cases c
  rw[bX _ _ _ _ e] at c;rw[uY _ _ _ _ _ _ e];exact h.dK id c
 ·intro id b hid L;have c:aU s.u b1 true id=false:=hid;have e:id≠b1:=by intro e;subst e;rw[bW] at c;cases c
  rw[bX _ _ _ _ e] at c;rcases L with ⟨o,_⟩|⟨rfl,_,o,_⟩|⟨_,_,o⟩
  ·exact e o
  ·exact h.ec _ b c o
  exact h.ec id b c o
 ·intro id j0 b o Q;rcases A o with ⟨rfl,aK,a2⟩|⟨aK,a2,a3⟩<;>rcases A Q with ⟨c0,j,D⟩|⟨j,D,eW⟩
  ·exact c0.symm
  ·have:=h.inj _ _ b (.inr aK) D;subst this;rcases eW rfl with ⟨g,v⟩|⟨M,T⟩
   ·exact bB aK (p b g v)
   rcases a2 with a2|a2
   ·exact bB a2 T
   exact bB a2 M
  ·subst c0
   have:=h.inj _ _ b (.inr j) a2;subst this;rcases a3 rfl with ⟨g,v⟩|⟨M,T⟩
   ·exact bB j (p b g v)
   rcases D with D|D
   ·exact bB D T
   exact bB D M
  exact h.inj _ _ b a2 D
 ·intro id b L;rcases A L with ⟨_,aK,_⟩|⟨_,a2,_⟩
  ·exact h.fresh k b (.inr aK)
  exact h.fresh id b a2
 intro id e l;have l:aU (aU s.H k (some r)) b1 (some y) id=some e:=l;show aU s.u b1 true id=true/\cG _ w (own K _ (aU (aU s.H k (some r)) b1 (some y))) id e;by_cases F:id=b1
 ·subst F;rw[bW] at l;cases l;exact⟨bW _ _ _,Y m⟩
 rw[bX _ _ _ _ F] at l⊢;by_cases B:id=k
 ·subst B;rw[bW] at l;cases l;exact⟨I,X m⟩
 rw[bX _ _ _ _ B] at l;obtain⟨o,Q⟩:=h.heap id e l;exact⟨o,Q.mono (Ext.refl _ _) (λb _=>m b) hm (C id) (Shaped.refl _ _) (λ_ _=>rfl) (λb=>⟨λh=>by
  rcases h with ⟨h,_⟩|⟨h,_⟩|⟨_,_,h⟩
  ·exact bB h F
  ·exact bB h B
  exact h,λh=> .inr (.inr ⟨F,B,h⟩)⟩)⟩
def q'(j:Nat):List (Nat×Nat×V)->Bool
 | []=>true
 |h::a=> !(Nat.beq h.2.1 j)&&q' j a
theorem y4{j:Nat}: ∀{a:List (Nat×Nat×V)},q' j a=true-> ∀i v,(i,j,v)∉a
 | [],_,_,_,h=>by cases h
 |h::a,c,i,v,hm=>by
  simp only[q',Bool.and_eq_true,Bool.not_eq_true'] at c;rcases dP.1 hm with rfl|hm
  ·simp at c
  exact y4 c.2 i v hm
theorem V4{K:Ctx}{s:S}(k b1 i j R:Nat){r:List dQ}{gen:Nat}{C:List (List T)}{W:List T}{l:List (List T)}{M:List (Nat×Nat×V)}(hk:s.H k=some (.a8 r m gen C M))(hu:s.u b1=false)
  (aI:C[i]? =some W) (hj:W[j]? =some (.aE l)) (hm:(aO r m).ei j=some R) (F: ∀v,(i,j,v)∉M):
  s.le K {t:=s.t,H:=aU (aU s.H k (some (.a8 r m gen C ((i,j,.bc b1 1 (aO r R).size 0 l.length)::M)))) b1 (some (.a8 r R 1 l [])),u:=aU s.u b1 true}:=by
 intro Y a w h;have Hv:=(h.heap k _ hk).1;have I:k≠b1:=by intro e;subst e;rw[Hv] at hu;cases hu
 have hF:=(h.heap k _ hk).2;rcases hF.2 with ⟨aK,a2,_⟩|⟨b,us,B,aK,a2,a3,a4,a5,hX,ix,ff⟩
 ·rw[a2] at aI;simp at aI
 have hlt:=(bS.1 aI).1;have hjs:j<(aO r m).size:=by rw[<-a4 W (bE aI)];exact(bS.1 hj).1
 have f:i*(aO r m).size+j<us.size:=by
  have:(i+1)*(aO r m).size<=C.length*(aO r m).size:=dz _ hlt;rw[dn] at this;omega
 have p:=(a5 i j W _ us[i*(aO r m).size+j] aI hj (ht f)).2 λv=>F v;rw[hm] at p;have L: ∀c g,Y k=some (some c,g)-> ¬Y.n k c:=by
  intro c g F cH;rw[aK] at F;cases F;obtain⟨y,A,G⟩:=(ff b).1 cH;exact(hX y A b G).2.2 rfl
 generalize agU:us[i*(aO r m).size+j]=U at p
 -- the cell's value under the new map, and the rest of the rows
 have Q: ∀(q:Option Nat) (N:Nat->Prop),(∀c,B i j c↔(q=some c\/N c))->(∀(X:Nat->Prop),bn (Y.split k b1 q N) w X (.bc b1 1 (aO r R).size 0 l.length) U)->
   ∀X,(∀c,X c->own K Y s.H c)->cG (Y.split k b1 q N) w X k (.a8 r m gen C ((i,j,.bc b1 1 (aO r R).size 0 l.length)::M)):=by
  intro q N fF bI X hd;have hm':du Y (Y.split k b1 q N):=du.of (λid x hx=>by
   have:id≠b1:=by intro e;subst e;rw[h.dK _ hu] at hx;cases hx
   rw[uY _ _ _ _ _ _ this];exact hx)
  refine⟨hF.1,.inr ⟨b,us,λy A c=>B y A c/\ ¬(y=i/\A=j),by rw[uY _ _ _ _ _ _ I];exact aK,a2,a3,a4,λy A D x u cU cu eQ=>⟨λv HU=>?_,λcH=>?_⟩,
   λy A c F=>hX y A c F.1,λi1 sx i2 iG c h1 h2=>ix _ _ _ _ c h1.1 h2.1,λc=>?_⟩⟩
  ·rcases dP.1 HU with e|HU
   ·simp only[Prod.mk.injEq] at e;obtain⟨rfl,rfl,rfl⟩:=e
    have:u=U:=by
     rw[<-agU];rw[ht f] at eQ;exact(Option.some.inj eQ).symm
    subst this;exact⟨bI X,λc F=>F.2 ⟨rfl,rfl⟩⟩
   obtain⟨c1,c2⟩:=(a5 y A D x u cU cu eQ).1 v HU;exact⟨c1.mono (Ext.refl _ _) (λc _=>hd c) hm' (Shaped.refl _ _),λc hx=>c2 c hx.1⟩
  ·have adp: ¬(y=i/\A=j):=by rintro⟨rfl,rfl⟩;exact cH _ eU
   exact(((a5 y A D x u cU cu eQ).2 λv bI=>cH v (ey _ bI)).mono (Ext.refl _ _) (λc _=>hd c) λ_ _=>rfl).iff λc=>⟨λh=>h.1,λh=>⟨h,adp⟩⟩
  constructor
  ·rintro(⟨h1,_⟩|⟨_,_,h1,h2,h3⟩|⟨_,h1,_⟩)
   ·exact bB h1 I
   ·obtain⟨y,A,G⟩:=(ff c).1 h1;refine⟨y,A,G,?_⟩;rintro⟨rfl,rfl⟩;rcases(fF c).1 G with h4|h4
    ·exact h3 h4
    exact h2 h4
   exact bB rfl h1
  rintro⟨y,A,G,cH⟩;refine .inr (.inl ⟨rfl,I,(ff c).2 ⟨y,A,G⟩,λh4=>?_,λh4=>?_⟩)
  ·exact cH (ix _ _ _ _ c G ((fF c).2 (.inr h4)))
  exact cH (ix _ _ _ _ c G ((fF c).2 (.inl h4)))
 generalize Pq:B i j=ahk at p Q;cases p with
 |nil _ _ fu=>
  refine⟨_,h.split k b1 none (λ_=>False) _ (.a8 r R 1 [] []) (by rw[hk];simp) hu (λb G=>by cases G) (λ_ h=>h.elim) L (λo=>Q none (λ_=>False) (λc=>⟨λh=>bB h (fu c),λh=>by rcases h with h|h;cases h;exact h.elim⟩)
   (λX=> .hh b1 1 _ (cO _) (yL _ _ _ _ _)) _ o) λo=>⟨cO _,.inl ⟨yL _ _ _ _ _,rfl,λc F=>?_⟩⟩⟩
  rcases F with ⟨_,h⟩|⟨h,_⟩|⟨h,_⟩
  ·exact h
  ·exact I h.symm
  exact h rfl
 |own _ _ cu cap q4 rn _ hw M HE cD k0 b7 fF cv fu=>
  have si:Y.n k cu:=(ff cu).2 ⟨i,j,by rw[Pq];exact(fu cu).2 (.inl rfl)⟩;refine⟨_,h.split k b1 (some cu) (λc=> ∃i j,rn i j c) _ (.a8 r R 1 l []) (by rw[hk];simp) hu (λb G=>by cases G;exact⟨si,λ⟨y,A,mf⟩=>(fF y A _ mf).2.2 rfl⟩)
   (λc F=>(ff c).2 ⟨i,j,by rw[Pq];exact(fu c).2 (.inr F)⟩) L
   (λo=>Q (some cu) (λc=> ∃i j,rn i j c) (λc=>⟨λh=>by rcases(fu c).1 h with h|h;exact .inl (by rw[h]);exact .inr h,λh=>(fu c).2 (by rcases h with h|h;cases h;exact .inl rfl;exact .inr h)⟩)
    (λX=>?_) _ o) λo=>⟨cO _,.inr ⟨cu,q4,rn,yL _ _ _ _ _,hw,by rw[M];exact dz _ cD,k0,λy A D x u c1 c2 eW=>Cell.of ((b7 y A D x u c1 c2 eW).mono (Ext.refl _ _) (λc _=>o c) λ_ _=>rfl),fF,cv,λc=>?_⟩⟩⟩
  ·have:=bn.bc (β:=Y.split k b1 (some cu) λc=> ∃i j,rn i j c) (w:=w) (X:=X) b1 1 (aO r R).size 0 l.length cap cu q4.size (aO r R).ty (cO _) (yL _ _ _ _ _) (jh.1 hw).1 (by unfold World.shape?;rw[hw]) (by rw[dr];exact M.symm) cD HE;rw[f'] at this;exact this
  constructor
  ·rintro(⟨_,h⟩|⟨h,_⟩|⟨h,_⟩)
   ·exact h
   ·exact bB h.symm I
   exact bB rfl h
  intro h;exact .inl ⟨rfl,h⟩
def Map.merge(a:Map)(k c gen:Nat):Map:=
 ⟨λi=>bif Nat.beq i c then some (none,gen+1) else a i,λid b=>(id=k/\(a.n k b\/At a c b))\/(id≠k/\id≠c/\a.n id b)⟩
theorem L1(c:Map)(k a gen:Nat):c.merge k a gen a=some (none,gen+1):=by simp[Map.merge]
theorem u0(a:Map)(k c gen id:Nat)(h:id≠c):a.merge k c gen id=a id:=by simp[Map.merge,M6 h]
theorem XA{D:Map}{k i gen n b:Nat}(a:k≠i)(h:At (D.merge k i gen) n b):n≠i/\(At D n b\/(n=k/\At D i b)):=by
 rcases h with ⟨g,h⟩|⟨rfl,h⟩|⟨m,e,l⟩
 ·by_cases c:n=i
  ·subst c;rw[L1] at h;cases h
  rw[u0 _ _ _ _ _ c] at h;exact⟨c,.inl (.inl ⟨g,h⟩)⟩
 ·rcases h with h|h
  ·exact⟨a,.inl (.inr h)⟩
  exact⟨a,.inr ⟨rfl,h⟩⟩
 exact⟨e,.inl (.inr l)⟩
theorem Rel.merge{K:Ctx}{s:S}(h:Rel K β s a w)(k c gen:Nat)(q:Option Nat)(A:E)(f:s.H k≠none)(F:s.H c≠none)(Q:k≠c)(j:K.da<=c)(v:β c=some (q,gen))(M:1<=gen)
  (R:(∀b,own K (β.merge k c gen) (aU (aU s.H c none) k (some A)) b->own K β s.H b)->du β (β.merge k c gen)->cG (β.merge k c gen) w (own K (β.merge k c gen) (aU (aU s.H c none) k (some A))) k A):
  Rel K (β.merge k c gen) {t:=s.t,H:=aU (aU s.H c none) k (some A),u:=s.u} a w:=by
 have U:s.u c=true:=by
  cases G:s.H c with
  |none=>exact bB G F
  |some C=>exact(h.heap c C G).1
 have y:s.u k=true:=by
  cases G:s.H k with
  |none=>exact bB G f
  |some C=>exact(h.heap k C G).1
 have p:=fun {id b}=> @XA β k c gen id b Q;have n: ∀b,own K (β.merge k c gen) (aU (aU s.H c none) k (some A)) b->own K β s.H b:=by
  rintro b (m|⟨id,D,I⟩)
  ·exact .inl m
  obtain⟨W,B|⟨rfl,B⟩⟩:=p I
  ·refine .inr ⟨id,λC=>?_,B⟩;by_cases o:id=k
   ·subst o;exact f C
   rw[bX _ _ _ _ o,bX _ _ _ _ W] at D;exact D C
  exact .inr ⟨c,F,B⟩
 have X:du β (β.merge k c gen):=by
  intro id V g1 m;by_cases o:id=c
  ·subst o;rw[v] at m;cases m;exact .inr ⟨M,none,gen+1,L1 _ _ _ _,mL _⟩
  exact .inl (by rw[u0 _ _ _ _ _ o];exact m)
 refine {h with base:= ?_,dK:= ?_,ec:= ?_,inj:= ?_,fresh:= ?_,heap:= ?_,cZ:=λi=>(h.cZ i).mono (Ext.refl _ _) (λb _=>n b) X (Shaped.refl _ _)}
 ·exact h.base.keep λid hid=>u0 _ _ _ _ _ O
 ·intro id hid;have l:s.u id=false:=hid;rw[u0 _ _ _ _ _ (by intro e;subst e;rw[U] at l;cases l)];exact h.dK id l
 ·intro id b hid Y;have l:s.u id=false:=hid;rcases Y with ⟨rfl,_⟩|⟨_,_,W⟩
  ·rw[y] at l;cases l
  exact h.ec id b l W
 ·intro id N b D I;obtain⟨aK,a2|⟨rfl,a2⟩⟩:=p D<;>obtain⟨T,L|⟨rfl,L⟩⟩:=p I
  ·exact h.inj _ _ b a2 L
  ·exact bB (h.inj _ _ b a2 L) aK
  ·exact bB (h.inj _ _ b L a2) T
  rfl
 ·intro id b Y;obtain⟨_,B|⟨_,B⟩⟩:=p Y
  ·exact h.fresh id b B
  exact h.fresh c b B
 intro id e m;have m:aU (aU s.H c none) k (some A) id=some e:=m;show s.u id=true/\cG _ w (own K _ (aU (aU s.H c none) k (some A))) id e;by_cases o:id=k
 ·subst o;rw[bW] at m;cases m;exact⟨y,R n X⟩
 rw[bX _ _ _ _ o] at m;by_cases r:id=c
 ·subst r;rw[bW] at m;cases m
 rw[bX _ _ _ _ r] at m;obtain⟨D,I⟩:=h.heap id e m;exact⟨D,I.mono (Ext.refl _ _) (λb _=>n b) X (λx m=>by rw[u0 _ _ _ _ _ r];exact m) (Shaped.refl _ _) (λ_ _=>rfl) (λb=>⟨λh=>by
  rcases h with ⟨h,_⟩|⟨_,_,h⟩
  ·exact bB h o
  exact h,λh=> .inr ⟨o,r,h⟩⟩)⟩
theorem Ul{K:Ctx}{s:S}(k F i j m2 lC z n:Nat){D:List dQ}{gen:Nat}{p:List (List T)}{o:List T}{l:List (List T)}(hk:s.H k=some (.a8 D m gen p ((i,j,.bc F lC z 0 n)::hs)))
  (o1:s.H F=some (.a8 D m2 lC l [])) (eJ:z=(aO D m2).size) (cH:n=l.length) (hne:k≠F) (mj:Nat.ble K.da F=true) (aI:p[i]? =some o) (hm:(aO D m).ei j=some m2) (ac7:Nat.blt j (aO D m).size=true) (bP: ∀v,(i,j,v)∉hs):
  s.le K {t:=s.t,H:=aU (aU s.H F none) k (some (.a8 D m gen (p.set i (o.set j (.aE l))) hs)),u:=s.u}:=by
 subst eJ;subst cH;intro Y a w h;have mj:=d' mj;obtain⟨q,di⟩:=tn (h.heap F _ o1).2;have hF:=(h.heap k _ hk).2;have L:=(h.heap F _ o1).2;refine⟨_,h.merge k F lC q (.a8 D m gen (p.set i (o.set j (.aE l))) hs) (by rw[hk];simp) (by rw[o1];simp) hne mj di L.1 λQ hm'=>⟨hF.1,?_⟩⟩;rcases hF.2 with ⟨aK,a2,_⟩|⟨b,us,B,aK,a2,a3,a4,a5,hX,ix,ff⟩
 ·rw[a2] at aI;simp at aI
 have f:=(bS.1 aI).1
 -- the blocks of the slice
 have M:At Y k b:= .inl ⟨_,aK⟩;have ac9: ∀(u:Value),bn Y w (own K Y s.H) (.bc F lC (aO D m2).size 0 l.length) u->
   gA D w (own K (Y.merge k F lC) (aU (aU s.H F none) k (some (.a8 D m gen (p.set i (o.set j (.aE l))) hs)))) (some m2) (.aE l) u (λc=>At Y F c):=by
  intro u hu;rcases fa hu di with ⟨cap,cu,n2,hn,rfl,jx,hw,N,sj,cD,HE⟩|⟨jx,_,h0,rfl⟩
  ·subst jx;rcases L.2 with ⟨c1,_⟩|⟨eQ,q4,rn,c1,c2,eW,fh,jq,ko,m',jS⟩
   ·rw[di] at c1;cases c1
   rw[di] at c1;cases c1;rw[f'];have HT:q4.size=cap*(aO D m2).size:=by
    unfold World.shape? at N;rw[c2] at N;simp at N;rw[N.2,<-sj,dr]
   refine .own m2 l cu cap q4 rn _ c2 HT HE cD fh (λy A R x u d1 d2 d3=>(jq y A R x u d1 d2 d3).none.mono (Ext.refl _ _) (λc _=>Q c) λ_ _=>rfl) ko m' λc=>⟨?_,?_⟩
   ·rintro(⟨g,bN⟩|bN)
    ·rw[di] at bN;cases bN;exact .inl rfl
    exact .inr ((jS c).1 bN)
   rintro(rfl|bN)
   ·exact .inl ⟨_,di⟩
   exact .inr ((jS c).2 bN)
  subst jx
  have:l=[]:=kI h0;subst this;refine .nil m2 _ λc bP=>?_;rcases bP with ⟨g,bN⟩|bN
  ·rw[di] at bN;cases bN
  rcases L.2 with ⟨_,_,eW⟩|⟨eQ,q4,rn,c1,_⟩
  ·exact eW c bN
  rw[di] at c1;cases c1
 have U: ∀c,At Y F c-> ¬At Y k c:=λc C I=>hne (h.inj _ _ c I C);have Pk: ∀y A c,B y A c->At Y k c:=λy A c bP=> .inr ((ff c).2 ⟨y,A,bP⟩);have hjs: ∀(x:T),o[j]? =some x->j<(aO D m).size:=λx hx=>by rw[<-a4 o (bE aI)];exact(bS.1 hx).1
 have hrl:o.length=(aO D m).size:=a4 o (bE aI);by_cases W:j<o.length
 ·have BK:i*(aO D m).size+j<us.size:=by
   have:(i+1)*(aO D m).size<=p.length*(aO D m).size:=dz _ f;rw[dn] at this;omega
  have Ho:=a5 i j o o[j] us[i*(aO D m).size+j] aI (bs W) (ht BK);obtain⟨uz,acn⟩:=Ho.1 _ eU;refine .inr ⟨b,us,λy A c=>B y A c\/(y=i/\A=j/\At Y F c),by rw[u0 _ _ _ _ _ hne];exact aK,a2,by simpa using a3,?_,?_,?_,?_,?_⟩
  ·intro r b7;rcases q7 b7 with b7|rfl
   ·exact a4 r b7
   simpa using hrl
  ·intro y A R x u cU cu eQ;by_cases BL:y=i/\A=j
   ·obtain⟨rfl,rfl⟩:=BL;rw[hr f] at cU;cases cU;rw[hr W] at cu;cases cu;rw[ht BK] at eQ;cases eQ;refine⟨λv bI=>bB bI (bP v),λ_=>?_⟩;rw[hm];refine(ac9 _ uz).iff λc=>⟨λh=>?_,λh=> .inr ⟨rfl,rfl,h⟩⟩
    rcases h with h|⟨_,_,h⟩
    ·exact bB h (acn c)
    exact h
   have hold: ∃G hQ,p[y]? =some G/\G[A]? =some hQ/\hQ=x:=by
    by_cases xu:y=i
    ·subst xu;rw[hr f] at cU;cases cU;rw[jj (by intro e;exact BL ⟨rfl,e.symm⟩)] at cu;exact⟨o,x,aI,cu,rfl⟩
    rw[jj (kL xu)] at cU;exact⟨R,x,cU,cu,rfl⟩
   obtain⟨G,hQ,d1,d2,rfl⟩:=hold;have oZ:=a5 y A G hQ u d1 d2 eQ;have PB: ∀c,(B y A c\/(y=i/\A=j/\At Y F c))↔B y A c:=λc=>⟨λh=>by
    rcases h with h|⟨C,I,_⟩
    ·exact h
    exact bB ⟨C,I⟩ BL,.inl⟩
   refine⟨λv bI=>?_,λcH=>?_⟩
   ·obtain⟨C,I⟩:=oZ.1 v (ey _ bI);exact⟨C.mono (Ext.refl _ _) (λc _=>Q c) hm' (Shaped.refl _ _),λc hx=>I c ((PB c).1 hx)⟩
   refine((oZ.2 λv bI=>?_).mono (Ext.refl _ _) (λc _=>Q c) λ_ _=>rfl).iff PB;rcases dP.1 bI with e|bI
   ·cases e;exact BL ⟨rfl,rfl⟩
   exact cH v bI
  ·intro y A c X;rcases X with X|⟨rfl,rfl,X⟩
   ·simpa using hX y A c X
   refine⟨by simpa using f,O,λe=>?_⟩;subst e;exact U c X M
  ·intro i1 sx i2 iG c C I;rcases C with C|⟨rfl,rfl,C⟩<;>rcases I with I|⟨rfl,rfl,I⟩
   ·exact ix _ _ _ _ c C I
   ·exact bB (Pk _ _ c C) (U c I)
   ·exact bB (Pk _ _ c I) (U c C)
   exact⟨rfl,rfl⟩
  intro c;constructor
  ·rintro(⟨_,C|C⟩|⟨C,_⟩)
   ·obtain⟨y,A,X⟩:=(ff c).1 C;exact⟨y,A,.inl X⟩
   ·exact⟨i,j,.inr ⟨rfl,rfl,C⟩⟩
   exact bB rfl C
  rintro⟨y,A,X|⟨_,_,X⟩⟩
  ·exact .inl ⟨rfl,.inl ((ff c).2 ⟨y,A,X⟩)⟩
  exact .inl ⟨rfl,.inr X⟩
 exact bB (by rw[hrl];simpa[Nat.blt_eq] using ac7) W
theorem Rel.IA{K:Ctx}{s:S}(h:Rel K β s a w)(k:Nat)(e e':E)(q:s.H k=some e)(r:cG β w (own K β s.H) k e->cG β w (own K β s.H) k e'):
  Rel K β {s with H:=aU s.H k (some e')} a w:=by
 have c: ∀b,own K β (aU s.H k (some e')) b->own K β s.H b:=by
  rintro b (l|⟨id,m,n⟩)
  ·exact .inl l
  refine .inr ⟨id,λp=>?_,n⟩;by_cases o:id=k
  ·subst o;rw[q] at p;cases p
  rw[bX _ _ _ _ o] at m;exact m p
 refine {h with heap:= ?_,cZ:=λi=>(h.cZ i).mono (Ext.refl _ _) (λb _=>c b) (du.refl _) (Shaped.refl _ _)};intro id x l;have l:aU s.H k (some e') id=some x:=l;by_cases o:id=k
 ·subst o;rw[bW] at l;cases l;obtain⟨m,n⟩:=h.heap id e q;exact⟨m,(r n).mono (Ext.refl _ _) (λb _=>c b) (du.refl _) (λ_ h=>h) (Shaped.refl _ _) λ_ _=>rfl⟩
 rw[bX _ _ _ _ o] at l;obtain⟨m,n⟩:=h.heap id x l;exact⟨m,n.mono (Ext.refl _ _) (λb _=>c b) (du.refl _) (λ_ h=>h) (Shaped.refl _ _) λ_ _=>rfl⟩
theorem W7{K:Ctx}{s:S}(k i j:Nat){gen:Nat}(A:s.H k=some (.a8 G m gen c U))(q:c[i]? =some l)(C:l[j]? =some x)(D:(aO G m).ei j=none)(F:q' j U=true):
  s.le K {s with H:=aU s.H k (some (.a8 G m gen c ((i,j,.t x)::U)))}:=by
 intro I a w h;refine⟨I,h.IA k _ (.a8 G m gen c ((i,j,.t x)::U)) A λo=>?_⟩;refine⟨o.1,?_⟩;rcases o.2 with ⟨aK,a2,_⟩|⟨b,L,B,aK,a2,a3,a4,a5,hX,ix,ff⟩
 ·rw[a2] at q;simp at q
 refine .inr ⟨b,L,B,aK,a2,a3,a4,λQ R p W u r y X=>?_,hX,ix,ff⟩;have n:=a5 Q R p W u r y X;refine⟨λv bI=>?_,λY=>n.2 λv bI=>Y v (ey _ bI)⟩;rcases dP.1 bI with e|bI
 ·simp only[Prod.mk.injEq] at e;obtain⟨rfl,rfl,rfl⟩:=e;rw[q] at r;cases r;rw[C] at y;cases y
  have:=n.2 λv=>y4 F _ _;rw[D] at this;cases this with|ja _ _ _ h f=>exact⟨.t _ _ h,f⟩
 exact n.1 v bI
theorem Vv{K:Ctx}{s:S}(k i j:Nat){D:List dQ}{gen:Nat}{n:List (List T)}{Y:List (Nat×Nat×V)}(hk:s.H k=some (.a8 D m gen n ((i,j,.t x)::Y)))(F:n[i]? =some l)(M:Nat.blt j (aO D m).size=true)(hm:(aO D m).ei j=none)(bP:q' j Y=true):
  s.le K {s with H:=aU s.H k (some (.a8 D m gen (n.set i (l.set j x)) Y))}:=by
 intro β a w h;refine⟨β,h.IA k _ (.a8 D m gen (n.set i (l.set j x)) Y) hk λI=>?_⟩;refine⟨I.1,?_⟩;rcases I.2 with ⟨aK,a2,_⟩|⟨b,us,B,aK,a2,a3,a4,a5,hX,ix,ff⟩
 ·rw[a2] at F;simp at F
 have L:=(bS.1 F).1;have Q:l.length=(aO D m).size:=a4 l (bE F);have q:j<l.length:=by rw[Q];simpa[Nat.blt_eq] using M
 refine .inr ⟨b,us,B,aK,a2,by simpa using a3,λr N=>?_,λy A R ke u G U eQ=>?_,λy A c a'=>by simpa using hX y A c a',ix,ff⟩
 ·rcases q7 N with N|rfl
  ·exact a4 r N
  simpa using Q
 by_cases C:y=i/\A=j
 ·obtain⟨rfl,rfl⟩:=C;rw[hr L] at G;cases G;rw[hr q] at U;cases U;have p:=(a5 y A l l[A] u F (bs q) eQ).1 _ eU;refine⟨λv bI=>bB bI (y4 bP _ _),λ_=>?_⟩;rw[hm];obtain⟨h1,h2⟩:=p;cases h1 with|t _ _ h1=>exact .ja _ _ _ h1 h2
 have W: ∃o f,n[y]? =some o/\o[A]? =some f/\f=ke:=by
  by_cases X:y=i
  ·subst X;rw[hr L] at G;cases G;rw[jj (by intro e;exact C ⟨rfl,e.symm⟩)] at U;exact⟨l,ke,F,U,rfl⟩
  rw[jj (kL X)] at G;exact⟨R,ke,G,U,rfl⟩
 obtain⟨o,f,d1,d2,rfl⟩:=W;have p:=a5 y A o f u d1 d2 eQ;refine⟨λv bI=>p.1 v (ey _ bI),λcH=>p.2 λv bI=>?_⟩;rcases dP.1 bI with e|bI
 ·cases e;exact C ⟨rfl,rfl⟩
 exact cH v bI
theorem V1{K:Ctx}{s:S}(k i j m2:Nat){C:List dQ}{gen:Nat}{n:List (List T)}{X:List (Nat×Nat×V)}(hk:s.H k=some (.a8 C m gen n ((i,j,.t .fl)::X)))(D:n[i]? =some l)(f:Nat.blt j (aO C m).size=true)(hm:(aO C m).ei j=some m2)(bP:q' j X=true):
  s.le K {s with H:=aU s.H k (some (.a8 C m gen (n.set i (l.set j (.aE []))) X))}:=by
 intro β a w h;refine⟨β,h.IA k _ (.a8 C m gen (n.set i (l.set j (.aE []))) X) hk λG=>?_⟩;refine⟨G.1,?_⟩;rcases G.2 with ⟨aK,a2,_⟩|⟨b,us,B,aK,a2,a3,a4,a5,hX,ix,ff⟩
 ·rw[a2] at D;simp at D
 have I:=(bS.1 D).1;have L:l.length=(aO C m).size:=a4 l (bE D);have q:j<l.length:=by rw[L];simpa[Nat.blt_eq] using f
 refine .inr ⟨b,us,B,aK,a2,by simpa using a3,λr M=>?_,λx y Q N u F R eQ=>?_,λx y c a'=>by simpa using hX x y c a',ix,ff⟩
 ·rcases q7 M with M|rfl
  ·exact a4 r M
  simpa using L
 by_cases A:x=i/\y=j
 ·obtain⟨rfl,rfl⟩:=A;rw[hr I] at F;cases F;rw[hr q] at R;cases R;have p:=(a5 x y l l[y] u D (bs q) eQ).1 _ eU;refine⟨λv bI=>bB bI (y4 bP _ _),λ_=>?_⟩;rw[hm];obtain⟨h1,h2⟩:=p;cases h1 with|t _ _ h1=>cases h1 with|fl=>exact .nil _ _ h2
 have U: ∃o Y,n[x]? =some o/\o[y]? =some Y/\Y=N:=by
  by_cases W:x=i
  ·subst W;rw[hr I] at F;cases F;rw[jj (by intro e;exact A ⟨rfl,e.symm⟩)] at R;exact⟨l,N,D,R,rfl⟩
  rw[jj (kL W)] at F;exact⟨Q,N,F,R,rfl⟩
 obtain⟨o,Y,d1,d2,rfl⟩:=U;have p:=a5 x y o Y u d1 d2 eQ;refine⟨λv bI=>p.1 v (ey _ bI),λcH=>p.2 λv bI=>?_⟩;rcases dP.1 bI with e|bI
 ·cases e;exact A ⟨rfl,rfl⟩
 exact cH v bI
theorem W6{K:Ctx}{s:S}(k:Nat){L:List dQ}{gen:Nat}{e:List (List T)}{C:List (Nat×Nat×V)}(l:List dQ)(o:Nat)(G:s.H k=some (.a8 L m gen e C))(I:Nat.ble K.da k=true)
  (h1:(aO l o).ty=(aO L m).ty) (Q:(aO l o).size=(aO L m).size) (h3:(aO l o).bm=[]):
  s.le K {s with H:=aU s.H k (some (.a8 l o gen e C))}:=by
 have mj:=d' I;have D: ∀j,(aO l o).ei j=none:=λj=>by unfold dQ.ei;rw[h3];rfl
 intro A a w h;have r:=(h.heap k _ G).2;have F:du A (A.drop k):=λ_ _ _ y=> .inl y;rcases r.2 with ⟨aK,a2,a3⟩|⟨b,us,B,aK,a2,a3,a4,a5,hX,ix,ff⟩
 ·exact⟨_,h.drop k (.a8 l o gen e C) (by rw[G];simp) ⟨r.1,.inl ⟨aK,a2,λc n=>n.1 rfl⟩⟩⟩
 refine⟨_,h.drop k (.a8 l o gen e C) (by rw[G];simp) ⟨r.1,.inr ⟨b,us,λ_ _ _=>False,aK,by rw[h1];exact a2,by rw[Q];exact a3,by rw[Q];exact a4,?_,λ_ _ _ n=>n.elim,λ_ _ _ _ _ n=>n.elim,λc=>⟨λn=>(n.1 rfl).elim,λ⟨_,_,n⟩=>n.elim⟩⟩⟩⟩;intro i j R x u cU cu f;rw[Q] at f;have M:=a5 i j R x u cU cu f;generalize N:own K (A.drop k) (aU s.H k (some (.a8 l o gen e C)))=hW;have p: ∀b,hW b->own K A s.H b:=by
  subst N;rintro b (y|⟨id,U,q⟩)
  ·exact .inl y
  refine .inr ⟨id,λW=>?_,oq q⟩;by_cases aI:id=k
  ·subst aI;rw[G] at W;cases W
  rw[bX _ _ _ _ aI] at U;exact U W
 refine⟨λv bI=>⟨(M.1 v bI).1.mono (Ext.refl _ _) (λb _=>p b) F (Shaped.refl _ _),λ_ n=>n⟩,λX=>?_⟩;rw[D];refine .ja _ _ _ ((M.2 X).yl p ?_) λ_ n=>n;intro c n y;subst N;have I:At A k c:= .inr ((ff c).2 ⟨i,j,n⟩);rcases y with y|⟨id,U,q⟩
 ·obtain⟨gb,ik⟩:=h.iu c y;rcases(h.fresh k c I).1 with Y|iD
  ·exact ik Y
  omega
 have:=h.inj _ _ _ (oq q) I;subst this;rcases q with ⟨g,q⟩|q
 ·have g3:A id=some (some c,g):=q;rw[aK] at g3;cases g3;exact(hX i j _ n).2.2 rfl
 exact q.1 rfl
def E.gen:E->Option Nat
 | .cells _=>none
 | .arr _ g _ _=>some g
 | .a8 _ _ g _ _=>some g
theorem oL{g:Nat}{e:E}(h:cG D w X i e)(c:e.gen=some g):1<=g/\ ∃q,D i=some (q,g):=by
 cases e with
 |cells cs=>cases c
 |arr ty l size a=>
  cases c;exact⟨h.1,by rcases h.2 with ⟨k,_⟩|⟨b,n,k,_⟩<;>exact⟨_,k⟩⟩
 |a8 o m l a p=>
  cases c;exact⟨h.1,tn h⟩
theorem Rel.aeZ{K:Ctx}{s:S}(h:Rel K β s a w)(k:Nat)(e e':E)(g:Nat)(j:s.H k=some e)(bN:e.gen=some g)(C:Array Value)(D:TypeId)
  (he: ∀(y:Map) (f:Nat->Prop) (F:World),F=w.alloc (.cells C D)->y k=some (some w.heap.size,g+1)->(∀b,y.n k b↔β.n k b)->(∀v u,bn β w (own K β s.H) v u->bn y F f v u)->
   (∀x u,cX w (own K β s.H) x u->cX F f x u)->(∀M m x u N,(∀b,N b->β.n k b)->gA M w (own K β s.H) m x u N->gA M F f m x u N)->cG y F f k e'):
  Rel K (β.put k (some (some w.heap.size,g+1))) {s with H:=aU s.H k (some e')} a (w.alloc (.cells C D)):=by
 have c: ∀X,Ext X w (w.alloc (.cells C D)):=λX=>Ext.alloc X w _;have G:s.u k=true:=(h.heap k _ j).1;obtain⟨I,oo,L⟩:=oL (h.heap k _ j).2 bN;have l: ∀id b,At (β.put k (some (some w.heap.size,g+1))) id b->(id=k/\b=w.heap.size)\/At β id b:=λid b a'=>by
  rcases a' with ⟨g,a'⟩|a'
  ·by_cases q:id=k
   ·subst q;rw[iY] at a';cases a';exact .inl ⟨rfl,rfl⟩
   rw[eo _ _ _ _ q] at a';exact .inr (.inl ⟨g,a'⟩)
  exact .inr (.inr a')
 have o: ∀b,b<w.heap.size->own K (β.put k (some (some w.heap.size,g+1))) (aU s.H k (some e')) b->own K β s.H b:=by
  rintro b hlt (Q|⟨id,B,R⟩)
  ·exact .inl Q
  rcases l id b R with ⟨rfl,rfl⟩|A
  ·omega
  refine .inr ⟨id,λT=>?_,A⟩;by_cases q:id=k
  ·subst q;rw[j] at T;cases T
  rw[bX _ _ _ _ q] at B;exact B T
 have U:Shaped β w (w.alloc (.cells C D)):=qm (c _);have W:=AO oo (some w.heap.size) I L;have Y: ∀v u,bn β w (own K β s.H) v u->bn (β.put k (some (some w.heap.size,g+1))) (w.alloc (.cells C D)) (own K (β.put k (some (some w.heap.size,g+1))) (aU s.H k (some e'))) v u:=
  λv u bI=>bI.mono (c _) o W U
 refine {ext:=h.ext.trans ((c λ_=>False).weaken λ_ _ h=>h.elim),n0:=h.n0,og:=h.og,iu:=h.iu,qA:=h.qA,base:= ?_,iM:=h.iM.ext h.ext.size (c _),low:=h.low,dK:= ?_,ec:=λid b hid=>h.ec id b hid,inj:= ?_,fresh:= ?_,heap:= ?_,cZ:=λi=>Y _ _ (h.cZ i),nt:=h.nt,defers:=h.defers}
 ·exact h.base.grow k g oo (some w.heap.size) L I (iY _ _ _) (λb a'=>by cases a';exact .inr h.ext.size) λid q=>eo _ _ _ _ q
 ·intro id hid;have r:s.u id=false:=hid;by_cases e:id=k
  ·subst e;rw[G] at r;cases r
  rw[eo _ _ _ _ e];exact h.dK id r
 ·intro id V b B R;rcases l id b B with ⟨rfl,rfl⟩|A<;>rcases l V _ R with ⟨rfl,e⟩|h4
  ·rfl
  ·have:=(h.fresh _ _ h4).2;omega
  ·subst e;have:=(h.fresh _ _ A).2;omega
  exact h.inj _ _ _ A h4
 ·intro id b a';rcases l id b a' with ⟨rfl,rfl⟩|A
  ·exact⟨.inr h.ext.size,aW⟩
  exact⟨(h.fresh _ _ A).1,by have:=(h.fresh _ _ A).2;simp;omega⟩
 intro id e2 p;have p:aU s.H k (some e') id=some e2:=p;show s.u id=true/\cG _ _ (own K _ (aU s.H k (some e'))) id e2;by_cases q:id=k
 ·subst q;rw[bW] at p;cases p;exact⟨G,he _ _ _ rfl (iY _ _ _) (λ_=>Iff.rfl) Y (λx u Q=>Q.mono (c _) o) λM m x u N fu b7=>b7.mono (c _) o λb a'=>yy _ _ _ (h.fresh id b (.inr (fu b a'))).2⟩
 rw[bX _ _ _ _ q] at p;obtain⟨B,R⟩:=h.heap id e2 p;refine⟨B,R.mono (c _) o W (λx Q=>by rw[eo _ _ _ _ q];exact Q) U λb a'=>yy _ _ _ (h.fresh id b a').2⟩
theorem Rel.abN{K:Ctx}{s:S}(h:Rel K β s a w)(k:Nat)(e e':E)(g:Nat)(q:Option Nat)(I:β k=some (q,g))(A:1<=g)(W:s.H k=some e)
  (X: ∀(r:Map) (L:Nat->Prop),r k=some (q,g+1)->(∀b,r.n k b↔β.n k b)->(∀v u,bn β w (own K β s.H) v u->bn r w L v u)->(∀b,L b->own K β s.H b)->cG r w L k e'):
  Rel K (β.put k (some (q,g+1))) {s with H:=aU s.H k (some e')} a w:=by
 have B:s.u k=true:=(h.heap k _ W).1;have c: ∀id b,At (β.put k (some (q,g+1))) id b->At β id b:=λid b a'=>by
  rcases a' with ⟨g,a'⟩|a'
  ·by_cases m:id=k
   ·subst m;rw[iY] at a';cases a';exact .inl ⟨_,I⟩
   rw[eo _ _ _ _ m] at a';exact .inl ⟨g,a'⟩
  exact .inr a'
 have o: ∀b,own K (β.put k (some (q,g+1))) (aU s.H k (some e')) b->own K β s.H b:=by
  rintro b (Q|⟨id,y,C⟩)
  ·exact .inl Q
  refine .inr ⟨id,λR=>?_,c id b C⟩;by_cases m:id=k
  ·subst m;rw[W] at R;cases R
  rw[bX _ _ _ _ m] at y;exact y R
 have D:=AO q q A I;have F: ∀v u,bn β w (own K β s.H) v u->bn (β.put k (some (q,g+1))) w (own K (β.put k (some (q,g+1))) (aU s.H k (some e'))) v u:=λv u Y=>Y.mono (Ext.refl _ _) (λb _=>o b) D (Shaped.refl _ _);refine {h with base:= ?_,dK:= ?_,inj:= ?_,fresh:=λid b a'=>h.fresh id b (c id b a'),heap:= ?_,cZ:=λi=>F _ _ (h.cZ i)}
 ·exact h.base.grow k g q q I A (bW _ _ _) (λb a'=> .inl a') λid m=>eo _ _ _ _ m
 ·intro id hid;have p:s.u id=false:=hid;by_cases e:id=k
  ·subst e;rw[B] at p;cases p
  rw[eo _ _ _ _ e];exact h.dK id p
 ·intro id G b y C;exact h.inj id G b (c id b y) (c G b C)
 intro id U l;have l:aU s.H k (some e') id=some U:=l;show s.u id=true/\cG _ _ (own K _ (aU s.H k (some e'))) id U;by_cases m:id=k
 ·subst m;rw[bW] at l;cases l;exact⟨B,X _ _ (iY _ _ _) (λ_=>Iff.rfl) F o⟩
 rw[bX _ _ _ _ m] at l;obtain⟨y,C⟩:=h.heap id U l;exact⟨y,C.mono (Ext.refl _ _) (λb _=>o b) D (λx Q=>by rw[eo _ _ _ _ m];exact Q) (Shaped.refl _ _) λ_ _=>rfl⟩
theorem Xa{size:Nat}{a:List (List T)}(o y p:List Value)(A:a.length=n)(B:o.length=n*size)(Q:y.length=c.length*size)(G: ∀e,e∈a->e.length=size)(C: ∀e,e∈c->e.length=size){R:Nat->Nat->T->Value->Prop}
  (I: ∀(i j:Nat) (e:List T) (x:T) (u:Value),a[i]? =some e->e[j]? =some x->o[i*size+j]? =some u->R i j x u)
  (L: ∀(i j:Nat) (e:List T) (x:T) (u:Value),c[i]? =some e->e[j]? =some x->y[i*size+j]? =some u->R (n+i) j x u):
  ∀(i j:Nat) (e:List T) (x:T) (u:Value),(a++c)[i]? =some e->e[j]? =some x->(o++y++p)[i*size+j]? =some u->R i j x u:=by
 intro i j e x u l w h;by_cases q:i<a.length
 ·rw[gL q] at l;have m:j<size:=by rw[<-G e (bE l)];exact(bS.1 w).1
  have k:i*size+j<o.length:=by rw[B,<-A];exact mv q m
  rw[gL bQ,gL k] at h;exact I i j e x u l w h
 rw[gX O] at l;have m:j<size:=by rw[<-C e (bE l)];exact(bS.1 w).1
 have D:=(bS.1 l).1;have k:=mv (size:=size) D m;have F:o.length<=i*size+j:=by rw[B,<-A];have:=dz size (O:a.length<=i);omega
 have r:i*size+j-o.length=(i-a.length)*size+j:=by rw[B,<-A,tc];have:=dz size (O:a.length<=i);omega
 rw[gL bQ,gX F,r] at h
 have:=L _ j e x u l w h;rw[show n+(i-a.length)=i by omega] at this;exact this
def hP(n:Nat):List (Nat×Nat×V)->List (Nat×Nat×V)
 | []=>[]
 |h::hs=>(n+h.1,h.2.1,h.2.2)::hP n hs
theorem z6{n:Nat}: ∀{hs:List (Nat×Nat×V)} {i j:Nat} {v:V},(i,j,v)∈hP n hs↔ ∃k,i=n+k/\(k,j,v)∈hs
 | [],_,_,_=>by simp[hP]
 |h::hs,i,j,v=>by
  simp only[hP,List.mem_cons,Prod.mk.injEq,z6 (hs:=hs)];constructor
  ·rintro(⟨l,e,m⟩|⟨k,l,e⟩)
   ·exact⟨h.1,l,.inl (by obtain⟨a,b,c⟩:=h;cases e;cases m;rfl)⟩
   exact⟨k,l,.inr e⟩
  rintro⟨k,l,e|e⟩
  ·subst e;exact .inl ⟨l,rfl,rfl⟩
  exact .inr ⟨k,l,e⟩
def zK(n:Map)(w:World)(X:Nat->Prop)(c:Nat)(a:List (List T))(m:List (Nat×Nat×V))(u:Value):Prop:=
 ∃(b e l:Nat) (k:List Value),u= .slice (some ⟨b,e,none⟩) a.length l/\k.length=a.length*c/\
  (∀(j:Nat) x,k[j]? =some x->w.cell? ⟨b,e+j,none⟩=some x)/\(∀x,x∈k->x.oneCell'=true)/\
  ∀(i j:Nat) (h:List T) (x:T) (y:Value),a[i]? =some h->h[j]? =some x->k[i*c+j]? =some y->(∀v,(i,j,v)∈m->bn n w X v y)/\((∀v,(i,j,v)∉m)->cX w X x y)
def tw:List (Nat×Nat×V)->Bool
 | []=>true
 |h::a=>h.2.2.one&&tw a
theorem KU: ∀{a:List (Nat×Nat×V)} {i j:Nat} {v:V},tw a=true->(i,j,v)∈a->v.one=true
 | [],_,_,_,_,h=>by cases h
 |h::a,i,j,v,c,hm=>by
  simp only[tw,Bool.and_eq_true] at c;rcases dP.1 hm with rfl|hm
  ·exact c.1
  exact KU c.2 hm
def wz(d:dQ)(n:Nat)(a:List (Nat×Nat×V)):Bool:=
 (List.range n).all λi=>d.bm.all λp=>a.any λh=>Nat.beq h.1 i&&Nat.beq h.2.1 p.1
theorem L4: ∀{l:List (Nat×Nat)} {j m:Nat},tW l j=some m->(j,m)∈l
 | [],_,_,h=>by cases h
 |p::l,j,m,h=>by
  simp only[tW] at h;cases a:Nat.beq p.1 j with
  |true=>rw[a] at h;cases h;rw[<-cM a];exact eU
  |false=>rw[a] at h;exact ey _ (L4 h)
theorem K4{d:dQ}(h:wz d n hs=true){j:Nat}(e:i<n)(k:d.ei j=some m): ∃v,(i,j,v)∈hs:=by have l:=fy.1 h i (s8.2 e);have o:=fy.1 l (j,m) (L4 k);obtain⟨⟨a,b,v⟩,p,c⟩:=ij.1 o;simp only[Bool.and_eq_true] at c;have q:=cM c.1;have r:=cM c.2;subst q;subst r;exact⟨v,p⟩
theorem zK.of{K:Ctx}{s:S}(h:Rel K β s a w){g:Nat}{l:List dQ}{A:List (Nat×Nat×V)}{u:Value}(hk:s.H k=some (.a8 l m g c A))(cH:n=c.length)
  (hu:bn β w (own K β s.H) (.bc k g (aO l m).size 0 n) u) (f:0<c.length) (eu:tw A=true) (bP:wz (aO l m) c.length A=true):zK β w (own K β s.H) (aO l m).size c A u:=by
 subst cH;have R:=(h.heap k _ hk).2;rcases R.2 with ⟨_,F,_⟩|⟨b,M,B,aK,a2,a3,a4,a5,hX,ix,ff⟩
 ·rw[F] at f;simp at f
 rcases fa hu aK with ⟨U,gf,Ig,hn,rfl,W,hw,h8,sj,cD,hm⟩|⟨W,_⟩
 ·cases W;rw[f'];have p: ∀(i j:Nat) (o:List T) (x:T) (y:Value),c[i]? =some o->o[j]? =some x->M[i*(aO l m).size+j]? =some y->
    (∀v,(i,j,v)∈A->bn β w (own K β s.H) v y)/\((∀v,(i,j,v)∉A)->cX w (own K β s.H) x y):=by
   intro i j o x y C F D;have G:=a5 i j o x y C F D;refine⟨λv q=>(G.1 v q).1,λI=>?_⟩;have N:=G.2 I;have L:(aO l m).ei j=none:=by
    cases X:(aO l m).ei j with
    |none=>rfl
    |some ag4=>
     obtain⟨v,q⟩:=K4 bP (bS.1 C).1 X;exact bB q (I v)
   rw[L] at N;cases N with|ja _ _ _ h _=>exact h
  refine⟨b,0,U,M.toList.take (c.length*(aO l m).size),rfl,bQ,λj x r=>?_,λx hx=>?_,λi j o x y C F D=>?_⟩
  ·rw[fA] at r;split at r
   ·simp only[World.cell?,a2,Nat.zero_add];simpa using r
   cases r
  ·obtain⟨j,r⟩:=kc.1 hx;rw[fA] at r;split at r
   ·rename_i Q;have eJ:0<(aO l m).size:=Nat.pos_of_ne_zero λe=>by rw[e] at Q;omega
    have C:j / (aO l m).size<c.length:=by rw[vq eJ];exact Q
    have F:=Nat.mod_lt j eJ;have D:=a4 _ (fz C);have he:j / (aO l m).size*(aO l m).size+j%(aO l m).size=j:=by rw[Nat.mul_comm];exact Nat.div_add_mod ..
    obtain⟨c1,c2⟩:=p (j / (aO l m).size) (j%(aO l m).size) _ _ x (bs C) (bs (by omega:j%(aO l m).size<(c[j / (aO l m).size]).length)) (by rw[he];simpa using r);by_cases q: ∃v,(j / (aO l m).size,j%(aO l m).size,v)∈A
    ·obtain⟨v,q⟩:=q;exact(c1 v q).iK (KU eu q)
    exact(c2 λv Y=>q ⟨v,Y⟩).iK
   cases r
  rw[fA] at D;split at D
  ·exact p i j o x y C F (by simpa using D)
  cases D
 cases W
theorem Rel.abM{K:Ctx}{s:S}{t:TypeId}{u:TypeDesc}{z:Value}{gen G bytes:Nat}(h:Rel K β s a w)(k:Nat)(r:List dQ)(m:Nat)(l o:List (List T))(C:List (Nat×Nat×V))(hk:s.H k=some (.a8 r m gen l []))(uv:(aO r m).size=G)(ni:(aO r m).ty=e)(ty:TypeId)
  (hu:K.P.underlying t=some (.slice e)) (he:cd K.P e u z G bytes) (qs:z.cells.size=G) (hs: ∀p,p∈l->p.length=G) (kZ: ∀p,p∈o->p.length=G) (v x:Value) (bI:bn β w (own K β s.H) (.bc k gen G 0 l.length) v)
  (hx:zK β w (own K β s.H) G o C x) (HL:0<o.length) (acM:wz (aO r m) o.length C=true) (a':(l.length+o.length)*bytes<=140737488355328) (hm:l.length+o.length<=maxLen):
  ∃dw w' D,(Builtin.append_ #[t,t] ty #[v,x]).run K.P w= .ok dw w'/\Rel K D {s with H:=aU s.H k (some (.a8 r m (gen+1) (l++o) (hP l.length C)))} a w'/\
   bn D w' (own K D (aU s.H k (some (.a8 r m (gen+1) (l++o) (hP l.length C))))) (.bc k (gen+1) G 0 (l.length+o.length)) dw:=by
 subst uv;subst ni;obtain⟨q,di⟩:=tn (h.heap k _ hk).2;have iC:=(h.heap k _ hk).2.1;obtain⟨_,i,mh,hi2,N,ux⟩:=id he;have hm':l.length+o.length<=9223372036854775807:=by unfold maxLen at hm;omega
 have jw:=(h.heap k _ hk).2.2;have xz: ∀p,p∈l++o->p.length=(aO r m).size:=λp sl=>by
  rcases dZ.1 sl with h|h
  ·exact hs p h
  exact kZ p h
 obtain⟨cu,off,Bx,Q,sr,n',xC,k1,hwr⟩:=hx;have HX: ∀j y,Q[j]? =some y->w.cell? ((⟨cu,off,none⟩:Addr).add j)=some y:=λj y hy=>by rw[iZ];exact xC j y hy
 have kv:(l.length+o.length)*i.bytes<=140737488355328:=by rw[ux];exact a'
 have ac': ∀i j,i<o.length->(∀v,(i,j,v)∉C)->(aO r m).ei j=none:=λi j aI jy=>by
  cases hkk:(aO r m).ei j with
  |none=>rfl
  |some ag4=>
   obtain⟨v,bI⟩:=K4 acM aI hkk;exact bB bI (jy v)
 -- the cells of old and new rows, in whatever world
 have f: ∀(B:Nat->Nat->Nat->Prop) (D:Map) (w':World) (hW:Nat->Prop),(∀v u,bn β w (own K β s.H) v u->bn D w' hW v u)->(∀x u,cX w (own K β s.H) x u->cX w' hW x u)->
   (∀i j c,B i j c->i<l.length)-> ∀(X rest:List Value),X.length=l.length*(aO r m).size->
   (∀(i j:Nat) (p:List T) (x:T) (u:Value),l[i]? =some p->p[j]? =some x->X[i*(aO r m).size+j]? =some u->gA r w' hW ((aO r m).ei j) x u (B i j))->
   ∀(i j:Nat) (p:List T) (x:T) (u:Value),(l++o)[i]? =some p->p[j]? =some x->(X++Q++rest)[i*(aO r m).size+j]? =some u->Cell r m (hP l.length C) D w' hW i j x u (B i j):=by
  intro B D w' hW kY lI fF X rest o7 sk;refine Xa X Q rest rfl o7 n' hs kZ (R:=λi j x u=>Cell r m (hP l.length C) D w' hW i j x u (B i j)) (λi j p x u h1 h2 h3=>⟨λv bI=>?_,λ_=>sk i j p x u h1 h2 h3⟩) λi j p x u h1 h2 h3=>⟨λv bI=>?_,λjy=>?_⟩
  ·obtain⟨iE,e1,_⟩:=z6.1 bI
   have:=(bS.1 h1).1;omega
  ·obtain⟨iE,e1,e2⟩:=z6.1 bI
   have:iE=i:=O
   subst this;exact⟨kY _ _ ((hwr iE j p x u h1 h2 h3).1 v e2),λc I=>by have:=fF _ _ _ I;omega⟩
  have PM: ∀v,(i,j,v)∉C:=λv bI=>jy v (z6.2 ⟨i,rfl,bI⟩);rw[ac' i j (bS.1 h1).1 PM];exact .ja _ _ _ (lI _ _ ((hwr i j p x u h1 h2 h3).2 PM)) (λc I=>by have:=fF _ _ _ I;omega)
 -- a new block
 have finish: ∀(B:Nat->Nat->Nat->Prop) (X:List Value) (A:Nat),X.length=l.length*(aO r m).size->l.length+o.length<=A->A<=maxLen->
   (∀(i j:Nat) (p:List T) (x:T) (u:Value),l[i]? =some p->p[j]? =some x->X[i*(aO r m).size+j]? =some u->gA r w (own K β s.H) ((aO r m).ei j) x u (B i j))->
   (∀i j c,B i j c->i<l.length/\j<(aO r m).size)->(∀i j iE cW c,B i j c->B iE cW c->i=iE/\j=cW)->(∀c,β.n k c↔ ∃i j,B i j c)->
   ∃D,Rel K D {s with H:=aU s.H k (some (.a8 r m (gen+1) (l++o) (hP l.length C)))} a (w.drew.alloc (.cells (X.toArray++Q.toArray++Builtin.zeroCells z.cells (A-(l.length+o.length))) (aO r m).ty))/\
    bn D (w.drew.alloc (.cells (X.toArray++Q.toArray++Builtin.zeroCells z.cells (A-(l.length+o.length))) (aO r m).ty)) (own K D (aU s.H k (some (.a8 r m (gen+1) (l++o) (hP l.length C))))) (.bc k (gen+1) (aO r m).size 0 (l.length+o.length)) (.slice (some ⟨w.heap.size,0,none⟩) (l.length+o.length) A):=by
  intro B X A o7 Pw hcm HS fF cv fu;have xy:(X.toArray++Q.toArray++Builtin.zeroCells z.cells (A-(l.length+o.length))).size=A*(aO r m).size:=by
   simp only[Array.size_append,List.size_toArray,size_zeroCells,qs,o7,n',<-Nat.add_mul];congr 1;omega
  have uw:=vN h;have sg:=uw.aeZ k _ (.a8 r m (gen+1) (l++o) (hP l.length C)) gen hk rfl (X.toArray++Q.toArray++Builtin.zeroCells z.cells (A-(l.length+o.length))) (aO r m).ty
   (λD hW w' hw' HZ cH kY lI sk=>⟨O,.inr ⟨w.heap.size,_,B,HZ,by subst hw';exact jr w.drew _,by rw[xy,dD];exact dz _ Pw,xz,
    λi j p x u aK a2 a3=>f B D w' hW (λv u HV=>kY v u (HV.mono (Ext.drew _ _) (λ_ _ h=>h) (du.refl _) (qm (Ext.drew _ _)))) (λx u HY=>lI x u (HY.mono (Ext.drew _ _) λ_ _ h=>h)) (λi j c I=>(fF i j c I).1) X (Builtin.zeroCells z.cells (A-(l.length+o.length))).toList o7
     (λi j p x u cU cu eQ=>sk r _ x u (B i j) (λc I=>(fu c).2 ⟨i,j,I⟩) ((HS i j p x u cU cu eQ).mono (Ext.drew _ _) (λ_ _ h=>h) λ_ _=>rfl)) i j p x u aK a2 (by simpa[<-Array.getElem?_toList] using a3),
    λi j c I=>⟨by have:=(fF i j c I).1;rw[dD];omega,(fF i j c I).2,λe0=>by have:=(h.fresh k c (.inr ((fu c).2 ⟨i,j,I⟩))).2;rw[e0] at this;exact Nat.lt_irrefl _ this⟩,cv,λc=>(cH c).trans (fu c)⟩⟩)
  refine⟨_,sg,?_⟩;have h':bn (β.put k (some (some w.heap.size,gen+1))) (w.drew.alloc (.cells (X.toArray++Q.toArray++Builtin.zeroCells z.cells (A-(l.length+o.length))) (aO r m).ty)) (own K (β.put k (some (some w.heap.size,gen+1))) (aU s.H k (some (.a8 r m (gen+1) (l++o) (hP l.length C))))) (.bc k (gen+1) (aO r m).size 0 (l.length+o.length)) (.slice (some ⟨w.heap.size,0*(aO r m).size,none⟩) (l.length+o.length) A):=by
   have qq:=jr w.drew (.cells (X.toArray++Q.toArray++Builtin.zeroCells z.cells (A-(l.length+o.length))) (aO r m).ty);refine .bc k (gen+1) (aO r m).size 0 _ A w.heap.size (A*(aO r m).size) (aO r m).ty O (bW _ _ _) aW ?_ (by rw[dr]) Pw hcm;have HG:(w.drew.alloc (.cells (X.toArray++Q.toArray++Builtin.zeroCells z.cells (A-(l.length+o.length))) (aO r m).ty)).heap[w.heap.size]? =some (.cells (X.toArray++Q.toArray++Builtin.zeroCells z.cells (A-(l.length+o.length))) (aO r m).ty):=qq;unfold World.shape?;rw[HG];simp only[xy]
  rw[f'] at h';exact h'
 subst sr;rcases fa bI di with ⟨U,b,n,hn,rfl,ku,hw,h8,sj,cD,mi⟩|⟨ku,_,Hw,rfl⟩
 rotate_left
 ·have o5:l=[]:=kI Hw;subst o5;have L:=run_append_nil (P:=K.P) w t ty (aO r m).ty i z hu mh hi2 ⟨cu,off,none⟩ o.length Bx Q (by rw[N];exact n') HX HL O (by simp at kv;omega);subst ku;have adq: ∀c,¬β.n k c:=by
   rcases jw with ⟨_,_,h0⟩|⟨b,X,B,h1,_⟩
   ·exact h0
   rw[di] at h1;cases h1
  obtain⟨D,f1,f2⟩:=finish (λ_ _ _=>False) [] (grownCap w o.length 0 (aO r m).ty) aW (by simpa using grownCap_ge w o.length 0 (aO r m).ty) (grownCap_le_maxLen w _ 0 (aO r m).ty (by unfold maxLen;simp at hm';omega)) (λi j p x u h1 _ _=>by simp at h1)
   (λ_ _ _ h=>h.elim) (λ_ _ _ _ _ h=>h.elim) λc=>⟨λI=>bB I (adq c),λ⟨_,_,h⟩=>h.elim⟩
  simp only[List.length_nil,Nat.zero_add] at f1 f2⊢;exact⟨_,_,D,by rw[L];simp,f1,f2⟩
 subst ku;rcases jw with ⟨g1,_⟩|⟨gf,F,B,g1,g2,g3,g4,g5,g6,g7,g8⟩
 ·rw[di] at g1;cases g1
 rw[di] at g1;cases g1;have kX:F.size=U*(aO r m).size:=by
  unfold World.shape? at h8;rw[g2] at h8;simp at h8;rw[<-sj] at h8;rw[dr] at h8;exact h8.2
 have sn:(F.toList.take (l.length*(aO r m).size)).length=l.length*(aO r m).size:=bQ
 have lI: ∀(i j:Nat) (p:List T) (x:T) (u:Value),l[i]? =some p->p[j]? =some x->(F.toList.take (l.length*(aO r m).size))[i*(aO r m).size+j]? =some u->gA r w (own K β s.H) ((aO r m).ei j) x u (B i j):=by
  intro i j p x u h1 h2 h3;rw[fA] at h3;split at h3
  ·exact(g5 i j p x u h1 h2 (by simpa using h3)).none
  cases h3
 simp only[Nat.zero_mul];by_cases Y:l.length+o.length<=U
 ·have nk:l.length*(aO r m).size+Q.length<=F.size:=by rw[n',kX,<-dn];exact dz _ Y
  have L:=run_append_room (P:=K.P) w t ty (aO r m).ty i hu mh b l.length U F g2 ⟨cu,off,none⟩ o.length Bx Q (by rw[N];exact n') HX k1 Y (by rw[N];exact nk);rw[N] at L;have M:(F.toList.take (l.length*(aO r m).size)++Q++F.toList.drop (l.length*(aO r m).size+Q.length)).toArray.size=F.size:=by
   simp;omega
  generalize lG:w.setRow b (F.toList.take (l.length*(aO r m).size)++Q++F.toList.drop (l.length*(aO r m).size+Q.length)).toArray=W at L;have adv:own K β s.H b:= .inr ⟨k,by rw[hk];simp,.inl ⟨_,di⟩⟩;have Hq:Ext (own K β s.H) w W:=by
   subst lG;exact⟨rfl,rfl,rfl,aW,λkk _ hx=>setRow_other _ _ _ _ λe0=>hx (e0▸adv)⟩
  have adJ:Shaped β w W:=by subst lG;intro gf _;exact DB g2 M gf
  have hrel:=h.setRow k b (.inl ⟨_,di⟩) F (aO r m).ty g2 (F.toList.take (l.length*(aO r m).size)++Q++F.toList.drop (l.length*(aO r m).size+Q.length)).toArray M (.a8 r m gen (l++o) (hP l.length C)) (by rw[hk];simp)
   ⟨iC,Or.inr ⟨b,_,B,di,setRow_heap _ _ _ _ _ _ g2,by rw[M,kX,dD];exact dz _ Y,xz,
    λi j p x u aK a2 a3=>by
     rw[lG];exact f B β W (own K β s.H) (λv u HV=>HV.mono Hq (λ_ _ h=>h) (du.refl _) adJ) (λx u HY=>HY.mono Hq λ_ _ h=>h) (λi j c I=>(g6 i j c I).1) _ _ sn
      (λi j p x u cU cu eQ=>(lI i j p x u cU cu eQ).mono Hq (λ_ _ h=>h) λc I=>by subst lG;exact setRow_other _ _ _ _ (g6 i j c I).2.2) i j p x u aK a2 (by simpa using a3),
    λi j c I=>⟨by have:=(g6 i j c I).1;rw[dD];omega,(g6 i j c I).2⟩,g7,g8⟩⟩
  rw[lG] at hrel;have xw:=hrel.abN k (.a8 r m gen (l++o) (hP l.length C)) (.a8 r m (gen+1) (l++o) (hP l.length C)) gen (some b) di iC (bW _ _ _) (λD hW HZ cH kY hd=>by
   have hF:=(hrel.heap k _ (bW _ _ _)).2;rcases hF.2 with ⟨e1,_⟩|⟨gf,e5,Rj,e1,e2,me,xd,xe,agN,agO,agP⟩
   ·rw[di] at e1;cases e1
   rw[di] at e1;cases e1;exact⟨O,.inr ⟨b,e5,Rj,HZ,e2,me,xd,λi j p x u c1 c2 eW=>⟨λv bI=>⟨kY _ _ ((xe i j p x u c1 c2 eW).1 v bI).1,((xe i j p x u c1 c2 eW).1 v bI).2⟩,λjy=>((xe i j p x u c1 c2 eW).2 jy).mono (Ext.refl _ _) (λc _=>hd c) λ_ _=>rfl⟩,agN,agO,λc=>(cH c).trans (agP c)⟩⟩)
  have xl:aU (aU s.H k (some (.a8 r m gen (l++o) (hP l.length C)))) k (some (.a8 r m (gen+1) (l++o) (hP l.length C)))=aU s.H k (some (.a8 r m (gen+1) (l++o) (hP l.length C))):=by
   funext j;by_cases hj:j=k
   ·subst hj;rw[bW,bW]
   rw[bX _ _ _ _ hj,bX _ _ _ _ hj,bX _ _ _ _ hj]
  simp only[xl] at xw;refine⟨_,_,_,L,xw,?_⟩;have h':bn (β.put k (some (some b,gen+1))) W (own K (β.put k (some (some b,gen+1))) (aU s.H k (some (.a8 r m (gen+1) (l++o) (hP l.length C))))) (.bc k (gen+1) (aO r m).size 0 (l.length+o.length)) (.slice (some ⟨b,0*(aO r m).size,none⟩) (l.length+o.length) U):=by
   refine .bc k (gen+1) (aO r m).size 0 _ U b (U*(aO r m).size) (aO r m).ty O (bW _ _ _) (by subst lG;simpa using hw) ?_ (by rw[dr]) Y mi;subst lG;unfold World.shape?;rw[setRow_heap _ _ _ _ _ _ g2];simp only[M,kX]
  rw[f'] at h';exact h'
 have holds: ∀j u,(F.toList.take (l.length*(aO r m).size))[j]? =some u->w.cell? ((⟨b,0,none⟩:Addr).add j)=some u:=by
  intro j u hj;rw[iZ,dr];rw[fA] at hj;split at hj
  ·simp only[World.cell?,g2];simpa using hj
  cases hj
 have L:=run_append_grow (P:=K.P) w t ty (aO r m).ty i z hu mh hi2 ⟨b,0,none⟩ l.length U (F.toList.take (l.length*(aO r m).size)) (by rw[N];exact sn) holds ⟨cu,off,none⟩ o.length Bx Q (by rw[N];exact n') HX O O (growslice_fits O kv);obtain⟨D,f1,f2⟩:=finish B (F.toList.take (l.length*(aO r m).size)) (grownCap w (l.length+o.length) U (aO r m).ty) sn (grownCap_ge w _ U (aO r m).ty) (grownCap_le_maxLen w _ U (aO r m).ty hm) lI (λi j c I=>⟨(g6 i j c I).1,(g6 i j c I).2.1⟩) g7 g8;exact⟨_,_,D,L,f1,f2⟩
def p1(a:Nat)(c:List V):List (Nat×Nat×V)->List (Nat×Nat×V)
 | []=>[]
 |h::e=>(h.1,h.2.1,match Nat.ble a h.2.1,c[h.2.1-a]? with
  |true,some v=>v
  |_,_=>h.2.2)::p1 a c e
theorem Aq{off:Nat}{vs:List V}{i j:Nat}{v:V}: ∀{a:List (Nat×Nat×V)},(i,j,v)∈a-> ∃c,(i,j,c)∈p1 off vs a
 |h::a,hm=>by
  rcases dP.1 hm with rfl|hm
  ·exact⟨_,eU⟩
  obtain⟨c,e⟩:=Aq hm;exact⟨c,ey _ e⟩
theorem zp{off:Nat}{vs:List V}{i j:Nat}{v:V}: ∀{c:List (Nat×Nat×V)},(i,j,v)∈p1 off vs c-> ∃a,(i,j,a)∈c/\(off<=j-> ∀x,vs[j-off]? =some x->v=x)/\(¬(off<=j/\j<off+vs.length)->v=a)
 |h::c,hm=>by
  rcases dP.1 hm with e|hm
  ·simp only[Prod.mk.injEq] at e;obtain⟨rfl,rfl,rfl⟩:=e;refine⟨h.2.2,eU,λl x k=>?_,λm=>?_⟩
   ·rw[Nat.ble_eq_true_of_le l,k]
   split
   ·rename_i v n k
    have:=(bS.1 k).1
    have:=d' n;exact bB ⟨this,O⟩ m
   rfl
  obtain⟨a,o,p⟩:=zp hm;exact⟨a,ey _ o,p⟩
theorem WH{gen:Nat}{a:List (List T)}(h:cG D w X k (.a8 G m gen a U)){c:T}(o:a[i]? =some l)(r:l[n]? =some c):
  ∃(b:Nat) (e:Array Value) (N:Nat->Prop) (x:Value),D k=some (some b,gen)/\w.heap[b]? =some (.cells e (aO G m).ty (0,0))/\e[i*(aO G m).size+n]? =some x/\Cell G m U D w X i n c x N:=by
 rcases h.2 with ⟨_,q,_⟩|⟨b,e,B,y,q,I,A,C,_⟩
 ·rw[q] at o;simp at o
 have F:i<a.length:=(bS.1 o).1;have L:n<(aO G m).size:=by
  have:=(bS.1 r).1;rw[A l (bE o)] at this;exact this
 have p:i*(aO G m).size+n<e.size:=by
  have:(i+1)*(aO G m).size<=a.length*(aO G m).size:=dz _ F;rw[dn] at this;omega
 exact⟨b,e,_,e[i*(aO G m).size+n],y,q,by simp[p],C i n l c _ o r (by simp[p])⟩
section nH
variable {P:Program} {H:Nat->Option E} {d:Option Tmp} {ty:TypeId} {pos:String} {af:Array Edge} {g:Option (Nat×Bool)}
variable {t:TypeId} {u:TypeDesc} {z:Value} {size bytes:Nat}
theorem C3(x:Operand)(o gen i a:Nat)(n:List dQ)(m:Nat)(B:Nat)(e:List (List T))(p:List (Nat×Nat×V))(l:List T)(c:T)(v:V)(G:cd P t u z size bytes)(I:km u=false)(L:H o=some (.a8 n m gen e p))(Q:(aO n m).size=B)
  (R:e[i]? =some l) (U:l[a]? =some c) (q:(i,a,v)∈p\/((∀v,(i,a,v)∉p)/\(aO n m).ei a=none/\v= .t c)):
  b9 P H ⟨d,.load t x,ty,pos,af,g⟩ [.cB o gen B i a] v:=by
 subst Q;intro β w X ρ W Y;obtain⟨b,us,N,y,f,j,C,D⟩:=WH (W o _ L) R U;obtain⟨gf,r,M⟩:=om Y.1 f;cases r;have hlt:=(jh.1 C).1;have k:w.cell? ⟨b,i*(aO n m).size+a,none⟩=some y:=by
  simp only[World.cell?,j];exact C
 refine⟨y,?_,?_⟩
 ·simp[execOp,M,Instr.loadAt,Instr.sureAddr,G.CK w I k]
 rcases q with q|⟨A,hk,rfl⟩
 ·exact(D.1 v q).1
 have F:=D.2 A;rw[hk] at F;cases F with|ja _ _ _ h _=>exact .t _ _ h
theorem JO(x:Operand)(A gen i a:Nat)(k:List dQ)(m:Nat)(L:Nat)(e:List (List T))(Q:List (Nat×Nat×V))(h:List T)(C:List V)(R:cd P t u z size bytes)(U:km u=true)(W:H A=some (.a8 k m gen e Q))(Y:(aO k m).size=L)
  (n:e[i]? =some h) (cD:a+size<=h.length) (o:C.length=size) (f: ∀j v,C[j]? =some v->(i,a+j,v)∈Q):
  b9 P H ⟨d,.load t x,ty,pos,af,g⟩ [.cB A gen L i a] (.agg C):=by
 subst Y;intro β w X ρ M N;rcases(M A _ W).2 with ⟨_,D,_⟩|⟨b,F,B,h1,D,h3,h4,h5,_⟩
 ·rw[D] at n;simp at n
 obtain⟨gf,G,hx⟩:=om N.1 h1;cases G;have aI:i<e.length:=(bS.1 n).1;have hrl:h.length=(aO k m).size:=h4 h (bE n);have p: ∀j,j<size->i*(aO k m).size+a+j<F.size:=by
  intro j q
  have:(i+1)*(aO k m).size<=e.length*(aO k m).size:=dz _ aI;rw[dn] at this;omega
 have l: ∀j,j<size->w.cell? ⟨b,i*(aO k m).size+a+j,none⟩=some (F.getD (i*(aO k m).size+a+j) undef):=λj q=>by
  have:=p j q;simp[World.cell?,D,this]
 refine⟨_,by simp[execOp,hx,Instr.loadAt,Instr.sureAddr,R.CL w U l];rfl,?_⟩;refine .agg _ _ (by simp[o]) λj c v r y=>?_;have q:j<size:=by
  have:=(bS.1 r).1;omega
 simp only[List.getElem?_toArray,List.getElem?_map,List.getElem?_range q,Option.map_some,Option.some.injEq] at y;have I:=bs (O:a+j<h.length)
 have:=p j q;have h6:=(h5 i (a+j) h _ F[i*(aO k m).size+a+j] n I (by rw[<-pH];simp[this])).1 c (f j c r);rw[<-y];simp only[Array.getElem?_eq_getElem this,Option.getD_some];exact h6.1
theorem TH(x:Operand)(n gen o i c k a:Nat)(C:Array Field)(h:Field)(F:TypeDesc)(G:Value)(l p:Nat)(I:P.underlying t=some (.struct C))(L:C[k]? =some h)(Q:h.offset=a)(r:cd P h.type F G l p)(y:(l==0)=false)
  (e:E) (R:H n=some e) (U:e.gen=some gen):b9 P H ⟨d,.fieldAddr t x k,ty,pos,af,g⟩ [.cB n gen o i c] (.cB n gen o i (c+a)):=by
 intro j w X v W Y;obtain⟨A,q,D⟩:=oL (W n _ R) U;obtain⟨b,B,f⟩:=om Y.1 D;subst B;have m:l≠0:=by simpa using y
 refine⟨.pointer (some ⟨b,i*o+(c+a),none⟩),?_,.cB _ _ _ _ _ _ A D⟩;simp[execOp,f,Instr.fieldAt,run_underlying I,L,Instr.sureAddr,fieldPlace,r.run_sizeOf,m,iZ,Q,Nat.add_assoc]
theorem TF(x y:Operand)(e:TypeId)(k gen a c n:Nat)(r:E)(C:H k=some r)(D:r.gen=some gen)(F:P.underlying t=some (.slice e))(G:cd P e u z size bytes)(W:n<c):
  b9 P H ⟨d,.indexAddr t x y,ty,pos,af,g⟩ [.bc k gen size a c,.t (.int .i64 (n:Nat))] (.cB k gen size (a+n) 0):=by
 intro Y w X I L l;have cH:=dE l.2.1;generalize A:I x=v at l;have i:=l.1;simp only[A] at i;obtain⟨o,q,B⟩:=oL (L k _ C) D;rcases fa i B with ⟨Q,b,m,R,rfl,p,f,j,U,M,N⟩|⟨_,_,T,_⟩
 ·subst p;refine⟨.pointer (some ⟨b,(a+n)*size+0,none⟩),?_,.cB _ _ _ _ _ b o B⟩;simp[execOp,A,cH,Instr.indexAt,asIntOf,run_underlying F,G.run_sizeOf,iZ,Nat.add_mul];intro h;omega
 omega
theorem Vc(x:Operand)(e:TypeId)(l gen h i c:Nat)(p:P.underlying t=some (.slice e))(n:E)(r:H l=some n)(y:n.gen=some gen):b9 P H ⟨d,.call {callee:= .builtin .len,args:= #[x],argTypes:= #[t]},ty,pos,af,g⟩ [.bc l gen h i c] (.t (.int .i64 (c:Nat))):=by
 intro A w X o B C;obtain⟨a,cap,k⟩: ∃a cap,o x= .slice a c cap:=by
  have D:bn A w X (.bc l gen h i c) (o x):=C.1;obtain⟨_,q,F⟩:=oL (B l _ r) y;rcases fa D F with ⟨cap,b,m,G,k,_⟩|⟨_,_,I,k⟩
  ·exact⟨_,_,k⟩
  exact⟨none,0,by rw[I];exact k⟩
 refine⟨.int .i64 (c:Nat),?_,.t _ _ (.int _ _)⟩;simp[execOp,resolve,invoke,builtin,k,Builtin.len_,run_underlying p,goInt]
end nH
section ops
variable {K:Ctx} {s:S} {d:Option Tmp} {ty:TypeId} {pos:String} {af:Array Edge} {g:Option (Nat×Bool)}
variable {t:TypeId} {u:TypeDesc} {z:Value} {gen size bytes:Nat}
theorem Xl(k b f j:Nat)(x y:Operand)(e:TypeId)(r A:List dQ)(m v:Nat)(h c:List (List T))(l:List (Nat×Nat×V))(M: ∀i,d=some i->Nat.blt i K.nt=true)(N:s.get x= .bc k gen size 0 h.length)(hy:s.get y= .bc b f size 0 j)(hk:s.H k=some (.a8 r m gen h []))(G:s.H b=some (.a8 A v f c l))
  (I:aO A v=aO r m) (L:j=c.length) (hu:K.P.underlying t=some (.slice e)) (he:cd K.P e u z size bytes) (R:Nat.beq z.cells.size size=true) (U:(aO r m).size=size) (ni:(aO r m).ty=e) (hs: ∀n,n∈h->n.length=size) (W: ∀n,n∈c->n.length=size)
  (o:0<c.length) (p:wz (aO r m) c.length l=true) (eu:tw l=true) (a':(h.length+c.length)*bytes<=140737488355328) (hm:h.length+c.length<=9223372036854775807):
  dT K ⟨d,.call {callee:= .builtin .append,args:= #[x,y],argTypes:= #[t,t]},ty,pos,af,g⟩ s
   (({s with H:=aU s.H k (some (.a8 r m (gen+1) (h++c) (hP h.length l)))}:S).put d (.bc k (gen+1) size 0 (h.length+c.length))):=by
 intro β a w next Q F X
 have B:=F.get x;rw[N] at B;have C:=F.get y;rw[hy] at C;have q:=zK.of F G L (by rw[I,U];exact C) o eu (by rw[I];exact p);rw[I,U] at q;obtain⟨dw,w',Y,h1,h2,h4⟩:=F.abM k r m h c l hk U ni ty hu he (cM R) hs W _ _ B q o p a' (by unfold maxLen;omega);unfold Oper.wp;have D:(execOp a.eval ⟨d,.call {callee:= .builtin .append,args:= #[x,y],argTypes:= #[t,t]},ty,pos,af,g⟩).run K.P w= .ok (.value dw) w':=by
  simp[execOp,resolve,invoke,builtin,h1]
 rw[D];exact X Y _ w' (h2.put d M h4)
theorem T3(x y:Operand)(id i off:Nat)(k:List dQ)(m:Nat)(o:List (List T))(F:List T)(v:V)(hs:List (Nat×Nat×V))(hx:s.get x= .cB id gen size i off)(bI:s.get y=v)(so:v.val=true)(nl:ny v.cs=true)
  (hH:s.H id=some (.a8 k m gen o hs)) (eJ:(aO k m).size=size) {l:Nat} (e4:cd K.P t u z l bytes) (HR:v.cs.length=l) (HL:0<l) (G:o[i]? =some F) (cD:off+l<=F.length)
  (mh: ∀n cW U,(n,cW,U)∈hs->off<=cW->cW<off+l->n=i) (hi2: ∀j,j<l-> ∃U,(i,off+j,U)∈hs):
  dT K ⟨none,.store t x y,ty,pos,af,g⟩ s {s with H:=aU s.H id (some (.a8 k m gen o (p1 off v.cs hs)))}:=by
 subst eJ;intro β a w next Q b7 hk
 have xD:=b7.get x;rw[hx] at xD;have hF:=(b7.heap id _ hH).2;rcases hF.2 with ⟨_,h2,_⟩|⟨b,p,B,h1,h2,h3,h4,h5,h6,lF,kU⟩
 ·rw[h2] at G;simp at G
 obtain⟨gf,jx,sr⟩:=om xD h1;cases jx;have aI:=(bS.1 G).1;have hrl:F.length=(aO k m).size:=h4 F (bE G);have BK:i*(aO k m).size+off+l<=p.size:=by
  have:(i+1)*(aO k m).size<=o.length*(aO k m).size:=dz _ aI;rw[dn] at this;omega
 have lJ:=b7.get y;rw[bI] at lJ;obtain⟨c1,c2⟩:=lJ.cells so;have I:(a.eval y).cells.size=l:=c1.trans HR;have W: ∀e∈(a.eval y).cells.toList,e.oneCell'=true:=by
  intro e he;obtain⟨j,hj⟩:=kc.1 he;have hj':(a.eval y).cells[j]? =some e:=by simpa using hj
  have hlt:=(jh.1 hj').1;have bP:=bs (O:j<v.cs.length);exact(c2 j _ e bP hj').iK (y7 nl bP)
 unfold Oper.wp;have xx:=CU e4 w b (i*(aO k m).size+off) p _ (a.eval y) h2 I O W;have X:(execOp a.eval ⟨none,.store t x y,ty,pos,af,g⟩).run K.P w= .ok .skip (w.setRow b (p.toList.take (i*(aO k m).size+off)++(a.eval y).cells.toList++p.toList.drop (i*(aO k m).size+off+(a.eval y).cells.toList.length)).toArray):=by
  simp only[execOp,sr,Instr.storeAt,Instr.sureAddr,Sem.run_bind,Sem.run_pure,Result.andThen_ok,xx]
 rw[X];have hlen:(p.toList.take (i*(aO k m).size+off)++(a.eval y).cells.toList++p.toList.drop (i*(aO k m).size+off+(a.eval y).cells.toList.length)).length=p.size:=by
  simp[I];omega
 have Y:own K β s.H b:= .inr ⟨id,by rw[hH];simp,.inl ⟨_,h1⟩⟩;generalize f:(p.toList.take (i*(aO k m).size+off)++(a.eval y).cells.toList++p.toList.drop (i*(aO k m).size+off+(a.eval y).cells.toList.length)).toArray=q at*;have r:q.size=p.size:=by rw[<-f];simpa using hlen
 have L:Ext (own K β s.H) w (w.setRow b q):=⟨rfl,rfl,rfl,aW,λkk _ hx=>setRow_other _ _ _ _ λe0=>hx (e0▸Y)⟩
 have R:Shaped β w (w.setRow b q):=λgf _=>DB h2 r gf;refine hk β _ _ (Rel.setRow b7 id b (.inl ⟨_,h1⟩) p _ h2 q r (.a8 k m gen o (p1 off v.cs hs)) (by rw[hH];simp) ?_);refine⟨hF.1,.inr ⟨b,q,B,h1,setRow_heap _ _ _ _ _ _ h2,by rw[r];exact h3,h4,λn cW A ke lT aK a2 a3=>?_,h6,lF,kU⟩⟩;have hjs:cW<(aO k m).size:=by rw[<-h4 A (bE aK)];exact(bS.1 a2).1
 by_cases M:n=i/\off<=cW/\cW<off+l
 ·obtain⟨rfl,Hu,PC⟩:=M;obtain⟨U,N⟩:=hi2 (cW-off) O;rw[show off+(cW-off)=cW by omega] at N;have C:=h5 n cW A ke p[n*(aO k m).size+cW] aK a2 (by rw[ht O]);have adk: ∃v1,(n,cW,v1)∈p1 off v.cs hs:=Aq N;obtain⟨v1,lH⟩:=adk;refine⟨λdw D=>⟨?_,(C.1 U N).2⟩,λjy=>bB lH (jy v1)⟩;obtain⟨_,_,q2,_⟩:=zp D;have BI:=bs (O:cW-off<v.cs.length);have e:=q2 Hu _ BI
  have:(a.eval y).cells[cW-off]? =some lT:=by
   rw[<-f] at a3;simp only[List.getElem?_toArray] at a3;rw[gL (by simp[I];omega),gX bQ] at a3;have me:n*(aO k m).size+cW-(p.toList.take (n*(aO k m).size+off)).length=cW-off:=by
    rw[cL,lU];omega
   rw[me] at a3;simpa using a3
  rw[e];exact(c2 _ _ lT BI this).mono L (λ_ _ h=>h) (du.refl _) R
 have hne:n*(aO k m).size+cW<i*(aO k m).size+off\/i*(aO k m).size+off+l<=n*(aO k m).size+cW:=by
  rcases Nat.lt_trichotomy n i with h|h|h
  ·have:=dz (aO k m).size (O:n+1<=i);rw[dn] at this;omega
  ·subst h
   have: ¬(off<=cW/\cW<off+l):=λh=>M ⟨rfl,h⟩;omega
  have:=dz (aO k m).size (O:i+1<=n);rw[dn] at this;omega
 have C:p[n*(aO k m).size+cW]? =some lT:=by
  rw[<-f] at a3;simp only[List.getElem?_toArray,List.getElem?_append,List.length_append,List.length_take,List.getElem?_take,List.getElem?_drop,Array.length_toList,I] at a3;rw[show min (i*(aO k m).size+off) p.size=i*(aO k m).size+off by omega] at a3;rcases hne with hlt|iD
  ·rw[a1 O,a1 O,a1 O] at a3;simpa using a3
  rw[a6 O] at a3;rw[show i*(aO k m).size+off+l+(n*(aO k m).size+cW-(i*(aO k m).size+off+l))=n*(aO k m).size+cW by omega] at a3;simpa using a3
 have oZ:=h5 n cW A ke lT aK a2 C;have hc1:=oZ.mono (β':=β) L (λ_ _ h=>h) (du.refl _) R λc bP=>setRow_other _ _ _ _ (h6 _ _ _ bP).2.2;refine⟨λdw D=>?_,λjy=>hc1.2 λdw D=>?_⟩
 ·obtain⟨U,k',_,pn⟩:=zp D;have ads: ¬(off<=cW/\cW<off+v.cs.length):=λh=>M ⟨mh _ _ _ k' h.1 O,h.1,O⟩;rw[pn ads];exact hc1.1 U k'
 obtain⟨v1,lH⟩:=Aq (off:=off) (vs:=v.cs) D;exact jy v1 lH
theorem Tf(x y:Operand)(id i off:Nat)(k:List dQ)(m:Nat)(o:List (List T))(G:List T)(v:V)(hs:List (Nat×Nat×V))(hx:s.get x= .cB id gen size i off)(bI:s.get y=v)(so:v.val=true)(nl:ny v.cs=true)
  (hH:s.H id=some (.a8 k m gen o hs)) (eJ:(aO k m).size=size) {l:Nat} (e4:cd K.P t u z l bytes) (HR:v.cs.length=l) (HL:0<l) (I:o[i]? =some G) (cD:off+l<=G.length)
  {L:List (Nat×Nat×V)} (qn: ∀n cW dw,(n,cW,dw)∈L-> ∃F,(n,cW,F)∈hs/\((n=i/\off<=cW/\cW<off+l)->v.cs[cW-off]? =some dw)/\(¬(n=i/\off<=cW/\cW<off+l)->dw=F)) (fF: ∀n cW F,(n,cW,F)∈hs-> ∃v1,(n,cW,v1)∈L) (hi2: ∀j,j<l-> ∃F,(i,off+j,F)∈hs):
  dT K ⟨none,.store t x y,ty,pos,af,g⟩ s {s with H:=aU s.H id (some (.a8 k m gen o L))}:=by
 subst eJ;intro β a w next Q b7 hk
 have xD:=b7.get x;rw[hx] at xD;have hF:=(b7.heap id _ hH).2;rcases hF.2 with ⟨_,h2,_⟩|⟨b,p,B,h1,h2,h3,h4,h5,h6,lF,kU⟩
 ·rw[h2] at I;simp at I
 obtain⟨gf,jx,sr⟩:=om xD h1;cases jx;have aI:=(bS.1 I).1;have hrl:G.length=(aO k m).size:=h4 G (bE I);have BK:i*(aO k m).size+off+l<=p.size:=by
  have:(i+1)*(aO k m).size<=o.length*(aO k m).size:=dz _ aI;rw[dn] at this;omega
 have lJ:=b7.get y;rw[bI] at lJ;obtain⟨c1,c2⟩:=lJ.cells so;have R:(a.eval y).cells.size=l:=c1.trans HR;have X: ∀e∈(a.eval y).cells.toList,e.oneCell'=true:=by
  intro e he;obtain⟨j,hj⟩:=kc.1 he;have hj':(a.eval y).cells[j]? =some e:=by simpa using hj
  have hlt:=(jh.1 hj').1;have bP:=bs (O:j<v.cs.length);exact(c2 j _ e bP hj').iK (y7 nl bP)
 unfold Oper.wp;have xx:=CU e4 w b (i*(aO k m).size+off) p _ (a.eval y) h2 R O X;have Y:(execOp a.eval ⟨none,.store t x y,ty,pos,af,g⟩).run K.P w= .ok .skip (w.setRow b (p.toList.take (i*(aO k m).size+off)++(a.eval y).cells.toList++p.toList.drop (i*(aO k m).size+off+(a.eval y).cells.toList.length)).toArray):=by
  simp only[execOp,sr,Instr.storeAt,Instr.sureAddr,Sem.run_bind,Sem.run_pure,Result.andThen_ok,xx]
 rw[Y];have hlen:(p.toList.take (i*(aO k m).size+off)++(a.eval y).cells.toList++p.toList.drop (i*(aO k m).size+off+(a.eval y).cells.toList.length)).length=p.size:=by
  simp[R];omega
 have f:own K β s.H b:= .inr ⟨id,by rw[hH];simp,.inl ⟨_,h1⟩⟩;generalize M:(p.toList.take (i*(aO k m).size+off)++(a.eval y).cells.toList++p.toList.drop (i*(aO k m).size+off+(a.eval y).cells.toList.length)).toArray=q at*;have r:q.size=p.size:=by rw[<-M];simpa using hlen
 have U:Ext (own K β s.H) w (w.setRow b q):=⟨rfl,rfl,rfl,aW,λkk _ hx=>setRow_other _ _ _ _ λe0=>hx (e0▸f)⟩
 have W:Shaped β w (w.setRow b q):=λgf _=>DB h2 r gf;refine hk β _ _ (Rel.setRow b7 id b (.inl ⟨_,h1⟩) p _ h2 q r (.a8 k m gen o L) (by rw[hH];simp) ?_);refine⟨hF.1,.inr ⟨b,q,B,h1,setRow_heap _ _ _ _ _ _ h2,by rw[r];exact h3,h4,λn cW A ke lT aK a2 a3=>?_,h6,lF,kU⟩⟩;have hjs:cW<(aO k m).size:=by rw[<-h4 A (bE aK)];exact(bS.1 a2).1
 by_cases N:n=i/\off<=cW/\cW<off+l
 ·obtain⟨rfl,Hu,PC⟩:=N;obtain⟨F,HB⟩:=hi2 (cW-off) O;rw[show off+(cW-off)=cW by omega] at HB;have C:=h5 n cW A ke p[n*(aO k m).size+cW] aK a2 (by rw[ht O]);obtain⟨v1,lH⟩:=fF _ _ _ HB;refine⟨λdw D=>⟨?_,(C.1 F HB).2⟩,λjy=>bB lH (jy v1)⟩;obtain⟨_,_,q2,_⟩:=qn _ _ _ D;have BI:=q2 ⟨rfl,Hu,PC⟩
  have:(a.eval y).cells[cW-off]? =some lT:=by
   rw[<-M] at a3;simp only[List.getElem?_toArray] at a3;rw[gL (by simp[R];omega),gX bQ] at a3;have me:n*(aO k m).size+cW-(p.toList.take (n*(aO k m).size+off)).length=cW-off:=by
    rw[cL,lU];omega
   rw[me] at a3;simpa using a3
  exact(c2 _ _ lT BI this).mono U (λ_ _ h=>h) (du.refl _) W
 have hne:n*(aO k m).size+cW<i*(aO k m).size+off\/i*(aO k m).size+off+l<=n*(aO k m).size+cW:=by
  rcases Nat.lt_trichotomy n i with h|h|h
  ·have:=dz (aO k m).size (O:n+1<=i);rw[dn] at this;omega
  ·subst h
   have: ¬(off<=cW/\cW<off+l):=λh=>N ⟨rfl,h⟩;omega
  have:=dz (aO k m).size (O:i+1<=n);rw[dn] at this;omega
 have C:p[n*(aO k m).size+cW]? =some lT:=by
  rw[<-M] at a3;simp only[List.getElem?_toArray,List.getElem?_append,List.length_append,List.length_take,List.getElem?_take,List.getElem?_drop,Array.length_toList,R] at a3;rw[show min (i*(aO k m).size+off) p.size=i*(aO k m).size+off by omega] at a3;rcases hne with hlt|iD
  ·rw[a1 O,a1 O,a1 O] at a3;simpa using a3
  rw[a6 O] at a3;rw[show i*(aO k m).size+off+l+(n*(aO k m).size+cW-(i*(aO k m).size+off+l))=n*(aO k m).size+cW by omega] at a3;simpa using a3
 have oZ:=h5 n cW A ke lT aK a2 C;have hc1:=oZ.mono (β':=β) U (λ_ _ h=>h) (du.refl _) W λc bP=>setRow_other _ _ _ _ (h6 _ _ _ bP).2.2;refine⟨λdw D=>?_,λjy=>hc1.2 λdw D=>?_⟩
 ·obtain⟨F,k',_,pn⟩:=qn _ _ _ D;rw[pn N];exact hc1.1 F k'
 obtain⟨v1,lH⟩:=fF _ _ _ D;exact jy v1 lH
end ops
def E.gen?:E->Option Nat
 | .cells _=>none
 | .arr _ gen _ _=>some gen
 | .a8 _ _ gen _ _=>some gen
theorem AJ{g:Nat}{W:E}(c:W.gen? =some g)(h:cG D w X i W):1<=g/\ ∃q,D i=some (q,g):=by
 cases W with
 |cells cs=>cases c
 |arr ty gen size a=>cases c;exact⟨h.1,je h⟩
 |a8 e m gen a k=>cases c;exact⟨h.1,tn h⟩
section nH
variable {P:Program} {H:Nat->Option E} {d:Option Tmp} {ty:TypeId} {pos:String} {af:Array Edge} {g:Option (Nat×Bool)}
variable {t:TypeId} {u:TypeDesc} {z:Value} {size bytes:Nat}
def qb(c:Nat)(h i:Option Operand)(e:Operand->Value)(a b:Nat):Prop:=
 (match h with|some x=>e x= .int .i64 (a:Nat)|none=>a=0)/\(match i with|some x=>e x= .int .i64 (b:Nat)|none=>b=c)
theorem AB{P:Program}{len a:Nat}{k e:Option Operand}{c:Operand->Value}(h:qb len k e c a b)(n:a<=b)(o:b<=i)(w:World):(Instr.sliceBounds true len i (k.map c) (e.map c) none).run P w= .ok (a,b,i) w:=by
 obtain⟨m,l⟩:=h;cases k with
 |none=>
  have m:a=0:=m;subst m;cases e with
  |none=>
   have l:b=len:=l;subst l;simp[Instr.sliceBounds]
  |some y=>
   have l:c y=_:=l;simp[Instr.sliceBounds,l,js w b i _ o]
 |some x=>
  have m:c x=_:=m;cases e with
  |none=>
   have l:b=len:=l;subst l;simp[Instr.sliceBounds,m,js w a b _ n]
  |some y=>
   have l:c y=_:=l;simp[Instr.sliceBounds,m,l,js w b i _ o,js w a b _ n]
theorem aaa(x:Operand)(r y:Option Operand)(e:TypeId)(m gen h c a b:Nat)(L:E)(Y:H m=some L)(f:L.gen? =some gen)(Q:P.underlying t=some (.slice e))(R:cd P e u z size bytes)
  (j:a<=b) (h2:b<=c) (h3:a=0\/a<c) {i:List V} (v: ∀A w X (k:Operand->Value),dv A w X i (r.toList.map k++y.toList.map k)->qb c r y k a b):
  b9 P H ⟨d,.slice t x r y none,ty,pos,af,g⟩ (.bc m gen size h c::i) (.bc m gen size (h+a) (b-a)):=by
 intro A w X k M D;obtain⟨B,q,F⟩:=AJ f (M m _ Y);have D:dv A w X (.bc m gen size h c::i) (k x::(r.toList.map k++y.toList.map k)):=by
  cases r<;>cases y<;>simpa[Op.operands] using D
 have C:qb c r y k a b:=v A w X k D.2;have N:bn A w X (.bc m gen size h c) (k x):=D.1;rcases fa N F with ⟨l,U,n,G,o,p,T,hs,cH,cD,hm⟩|⟨p,h0,I,o⟩
 ·subst p;refine⟨.slice (some ⟨U,(h+a)*size,none⟩) (b-a) (l-a),?_,.bc m gen size (h+a) (b-a) (l-a) U n G B F T hs (by rw[<-cH];congr 1;omega) O O⟩;simp only[execOp,Sem.run_bind,Instr.sliceAt,Instr.slice,run_underlying Q,Result.andThen_ok,o,Option.map_none,Option.map_some,AB C j (O:b<=l),R.run_sizeOf,Sem.run_pure];by_cases W:l=a
  ·rw[a1 W]
   have:a=0:=O
   subst this;simp
  rw[a6 W];simp[iZ,Nat.add_mul]
 subst p;subst h0;subst I;have e1:b=0:=O
 have e2:a=0:=O
 subst e1;subst e2;refine⟨.slice none 0 0,?_,.hh m gen size B F⟩;simp only[execOp,Sem.run_bind,Instr.sliceAt,Instr.slice,run_underlying Q,Result.andThen_ok,o,Option.map_none,AB C (Nat.le_refl _) (Nat.le_refl 0),R.run_sizeOf,Sem.run_pure];simp
theorem Zi(x:Operand)(p q:Option Operand)(e f:TypeId)(m gen c h a b:Nat)(l:List (List T))(j:H m=some (.arr f gen size l))(v:P.underlying t=some (.slice e))(M:cd P e u z size bytes)
  (N:0<size) (h1:a<b) (U:c+b<=l.length) {i:List V} (a': ∀r w X (k:Operand->Value),dv r w X i (p.toList.map k++q.toList.map k)->qb h p q k a b):
  b9 P H ⟨d,.slice t x p q none,ty,pos,af,g⟩ (.bc m gen size c h::i) (.bc m gen size (c+a) (b-a)):=by
 intro r w X k jw D;have y:=jw m _ j;have F:=y.1;have D:dv r w X (.bc m gen size c h::i) (k x::(p.toList.map k++q.toList.map k)):=by
  cases p<;>cases q<;>simpa[Op.operands] using D
 have G:qb h p q k a b:=a' r w X k D.2;have hx:bn r w X (.bc m gen size c h) (k x):=D.1;rcases y.2 with ⟨I,L⟩|⟨W,us,I,g2,g3,g4,g5⟩
 ·subst L;simp at U;omega
 rcases fa hx I with ⟨cap,gf,n,Q,R,o,hw,A,Y,cD,hm⟩|⟨o,_⟩
 ·cases o;have B:us.size=n:=by
   unfold World.shape? at A;rw[g2] at A;simp at A;exact A.2
  have C:b<=cap:=by
   have h3:(c+b)*size<=(c+cap)*size:=by
    rw[Y,<-B];exact gw (dz _ U) g3
   have:=Nat.le_of_mul_le_mul_right h3 N;omega
  refine⟨.slice (some ⟨W,(c+a)*size,none⟩) (b-a) (cap-a),?_,.bc m gen size (c+a) (b-a) (cap-a) W n Q F I hw A (by rw[<-Y];congr 1;omega) O O⟩;simp only[execOp,Sem.run_bind,Instr.sliceAt,Instr.slice,run_underlying v,Result.andThen_ok,R,Option.map_none,Option.map_some,AB G (O:a<=b) C,M.run_sizeOf,Sem.run_pure];rw[a6 (show¬cap=a by omega)];simp[iZ,Nat.add_mul]
 cases o
theorem Zj(x:Operand)(o p:Option Operand)(e:TypeId)(r gen h m c a:Nat)(G:E)(L:H r=some G)(Q:G.gen? =some gen)(R:P.underlying t=some (.slice e))(U:cd P e u z size bytes)
  (N:a<=c) {i:List V} (W: ∀y w X (k:Operand->Value),dv y w X i (o.toList.map k++p.toList.map k)->qb c o p k a a):
  b9 P H ⟨d,.slice t x o p none,ty,pos,af,g⟩ (.bc r gen h m c::i) (.t (.aE [])):=by
 intro y w X k Y A;obtain⟨b,q,f⟩:=AJ Q (Y r _ L);have A:dv y w X (.bc r gen h m c::i) (k x::(o.toList.map k++p.toList.map k)):=by
  cases o<;>cases p<;>simpa[Op.operands] using A
 have C:qb c o p k a a:=W y w X k A.2;have j:bn y w X (.bc r gen h m c) (k x):=A.1;obtain⟨B,cap,l,I⟩: ∃B cap,k x= .slice B c cap/\c<=cap:=by
  rcases fa j f with ⟨cap,T,n,v,l,D,hw,hs,cH,M,hm⟩|⟨D,h0,F,l⟩
  ·exact⟨_,cap,l,M⟩
  exact⟨none,0,by rw[F];exact l,O⟩
 refine⟨.slice (if cap=a then B else B.map (·.add (a*size))) (a-a) (cap-a),?_,.t _ _ (by rw[kd];exact .fS _ _)⟩;simp only[execOp,Sem.run_bind,Instr.sliceAt,Instr.slice,run_underlying R,Result.andThen_ok,l,Option.map_none,AB C (Nat.le_refl _) (O:a<=cap),U.run_sizeOf,Sem.run_pure]
theorem T9(x:Operand)(e gen a i c:Nat)(h:E)(m:H e=some h)(n:h.gen? =some gen):b9 P H ⟨d,.nilCheck x,ty,pos,af,g⟩ [.cB e gen a i c] (.cB e gen a i c):=by intro o w X k p r;obtain⟨y,q,A⟩:=AJ n (p e _ m);have l:bn o w X (.cB e gen a i c) (k x):=r.1;obtain⟨b,_,B⟩:=om l A;exact⟨k x,by simp[execOp,B],l⟩
theorem WL(x C D F:Operand)(e:TypeId)(o gen h l i a b c:Nat)(G:E)(Q:H o=some G)(R:G.gen? =some gen)(U:P.underlying t=some (.slice e))(W:cd P e u z size bytes)
  (Y:a<=b) (f:b<=c) (h3:c<=i):b9 P H ⟨d,.slice t x (some C) (some D) (some F),ty,pos,af,g⟩ [.bc o gen h l i,.t (.int .i64 (a:Nat)),.t (.int .i64 (b:Nat)),.t (.int .i64 (c:Nat))] .c4:=by
 intro j w X m v p;obtain⟨M,q,N⟩:=AJ R (v o _ Q);have T:bn j w X (.bc o gen h l i) (m x):=p.1;have y:m C=_:=dE p.2.1;have V:m D=_:=dE p.2.2.1;have I:m F=_:=dE p.2.2.2.1;obtain⟨r,cap,k,L⟩: ∃r cap,m x= .slice r i cap/\i<=cap:=by
  rcases fa T N with ⟨cap,gf,n,hn,k,A,hw,hs,cH,y,I⟩|⟨A,h0,B,k⟩
  ·exact⟨_,cap,k,y⟩
  exact⟨none,0,by rw[B];exact k,O⟩
 refine⟨.slice (if c=a then r else r.map (·.add (a*size))) (b-a) (c-a),?_,.c4 _⟩;simp[execOp,k,y,V,I,Instr.sliceAt,Instr.slice,run_underlying U,Instr.sliceBounds,js w c cap _ O,js w b c _ f,js w a b _ Y,W.run_sizeOf]
end nH
section steps
variable {K:Ctx} {s:S} {d:Option Tmp} {ty:TypeId} {pos:String} {af:Array Edge} {g:Option (Nat×Bool)}
variable {t:TypeId} {u:TypeDesc} {z:Value} {size bytes gen:Nat}
theorem MR(Q:Rel K D s a w)(q b:Nat)(e:TypeId)(o c:List (List T))(r n:Array Value)(G:s.H q=some (.arr e gen size o))(y:D q=some (some b,gen))(p:w.heap[b]? =some (.cells r e (0,0)))
  (I:n.size=r.size) (R:c.length*size<=r.size) (A: ∀l,l∈c->l.length=size)
  (bP: ∀(i j:Nat) (l:List T) (x:T) (u:Value),c[i]? =some l->l[j]? =some x->n[i*size+j]? =some u->(∃(F:Nat) (m:List T),o[F]? =some m/\m[j]? =some x/\r[F*size+j]? =some u)\/(∀w X,cX w X x u)):
  Rel K D {s with H:=aU s.H q (some (.arr e gen size c))} a (w.setRow b n):=by
 refine Rel.setRow Q q b (.inl ⟨_,y⟩) r e p n I (.arr e gen size c) (by rw[G];simp) ?_;have L:own K D s.H b:= .inr ⟨q,by rw[G];simp,.inl ⟨_,y⟩⟩;have B:=(Q.heap q _ G).2;refine⟨B.1,.inr ⟨b,n,y,setRow_heap _ _ _ _ _ _ p,O,A,λi j l x u aK a2 a3=>?_⟩⟩;rcases bP i j l x u aK a2 a3 with ⟨F,m,W,Y,f⟩|bP
 ·rcases B.2 with ⟨C,_⟩|⟨cu,v,C,U,h3,h4,M⟩
  ·rw[y] at C;cases C
  rw[y] at C;cases C;rw[p] at U;cases U;exact(M F j m x u W Y f).mono ⟨rfl,rfl,rfl,aW,λk _ N=>setRow_other _ _ _ _ λV=>N (V▸L)⟩ λ_ _ h=>h
 exact bP _ _
theorem Rel.yk(k:Rel K β s a w)(c:Nat)(e:E)(l:s.H c=some e):Rel K β {s with H:=aU s.H c (some e)} a w:=by
 have:aU s.H c (some e)=s.H:=by
  funext i;by_cases h:i=c
  ·subst h;rw[bW,l]
  rw[bX _ _ _ _ h]
 rw[this];exact k
end steps
end
section
def dh{k:Type}(f:Nat->k):List (Nat×k)->Nat->k
 | []=>f
 |(d,v)::r=>dh (aU f d v) r
theorem mm{k:Type}: ∀(l:List (Nat×k)) (f:Nat->k) (r:Nat),(∀v,(r,v)∉l)->dh f l r=f r
 | [],_,_,_=>rfl
 |(d,v)::l,f,r,h=>by rw[dh,mm l _ r λa c=>h a (ey _ c),bX _ _ _ _ (by intro e;subst e;exact h v (eU ..))]
theorem Ay{k:Type}: ∀(l:List (Nat×k)) (f g:Nat->k) (r:Nat),(∃v,(r,v)∈l)->dh f l r=dh g l r
 | [],_,_,_,⟨v,h⟩=>by simp at h
 |(d,v)::l,f,g,r,h=>by
  simp only[dh];by_cases c: ∃a,(r,a)∈l
  ·exact Ay l _ _ r c
  have i:r=d:=by
   obtain⟨a,bI⟩:=h;rcases dP.1 bI with e|bI
   ·cases e;rfl
   exact bB ⟨a,bI⟩ c
  subst i;rw[mm l _ r λa bI=>c ⟨a,bI⟩,mm l _ r λa bI=>c ⟨a,bI⟩,bW,bW]
structure cQ where
 eF:List (Nat×V)
 hs:List (Nat×Option E):=[]
 us:List (Nat×Bool):=[]
def cQ.app(e:cQ)(s:S):S:={t:=dh s.t e.eF,H:=dh s.H e.hs,u:=dh s.u e.us}
structure gz where
 eF:List Nat
 k2:List Nat:=[]
def gz.same(r:gz)(s a:S):Prop:=(∀i,i∈r.eF->s.t i=a.t i)/\ ∀k,k∈r.k2->s.H k=a.H k/\s.u k=a.u k
def hU(K:Ctx)(ops:Array Oper)(o:Oper)(s h:S):Prop:=
 ∀i a w next Q,Rel K i s a w->(∀c d e,Rel K c h d e->next d e)->
  if Region.wanted o (yielded ops a.tmps) then o.wp K.P a w next Q\/(o.asks K.P a w/\LetsOut Q) else next (a.put o.dst undef) w
variable {K:Ctx}{ops:Array Oper}{o:Oper}{s:S}{j t:Nat}{want:Bool}
theorem hU.of{b:S}(c:o.guard=none)(h:dT K o s b):hU K ops o s b:=by
 intro β a w next Q d e
 rw[a1 (by simp[Region.wanted,c])];exact .inl (h β a w next Q d e)
theorem hU.gG{s':S}(d:o.guard=some (j,want))(e:(ops[j]?).bind (·.dst)=some t)(i:s.t t= .t (.bool want))(h:dT K o s s'):hU K ops o s s':=by
 intro β a w next Q c k
 have l:yielded ops a.tmps j=some want:=by unfold yielded;rw[e];simp[c.bool i]
 rw[a1 (by simp[Region.wanted,d,l])];exact .inl (h β a w next Q c k)
theorem hU.out(d:o.guard=some (j,want))(e:(ops[j]?).bind (·.dst)=some t)(h:s.t t= .t (.bool (!want)))(k: ∀i,o.dst=some i->Nat.blt i K.nt=true):hU K ops o s (s.put o.dst (.bL [])):=by
 intro l a w next Q c m
 have n:yielded ops a.tmps j=some (!want):=by unfold yielded;rw[e];simp[c.bool h]
 rw[a6 (by simp[Region.wanted,d,n])];exact m l _ w (c.put o.dst k Md)
theorem hU.skip(d:o.guard=some (j,want))(e:(ops[j]?).bind (·.dst)=some t)(h:s.t t= .bL [])(k: ∀i,o.dst=some i->Nat.blt i K.nt=true):hU K ops o s (s.put o.dst (.bL [])):=by
 intro l a w next Q c m
 have hw:=c.afC (ops:=ops) (want:=want) e h;rw[a6 (by simp[Region.wanted,d,hw])];exact m l _ w (c.put o.dst k Md)
def gK{k:Type}:List (List (Nat×k))->Nat->(Nat->Bool)->(Nat->k)->Nat->k
 | [],_,_,f=>f
 |l::bY,i,L,f=>gK bY (i+1) L (bif L i then dh f l else f)
theorem DL{k:Type}: ∀(bY:List (List (Nat×k))) (i:Nat) (L a:Nat->Bool) (f c:Nat->k) (r:Nat),f r=c r->(∀j l,bY[j]? =some l->(∃v,(r,v)∈l)->L (i+j)=a (i+j))->gK bY i L f r=gK bY i a c r
 | [],_,_,_,_,_,_,h,_=>h
 |l::bY,i,L,a,f,c,r,h,m=>by
  simp only[gK];refine DL bY (i+1) L a _ _ r ?_ λj n o d=>by have:=m (j+1) n o d;rwa [show i+(j+1)=i+1+j by omega] at this
  by_cases e: ∃v,(r,v)∈l
  ·have:=m 0 l rfl e;rw[oD] at this;rw[<-this];cases L i with
   |true=>exact Ay l _ _ r e
   |false=>exact h
  have p: ∀g:Nat->k,dh g l r=g r:=λg=>mm l g r λv d=>e ⟨v,d⟩;cases L i<;>cases a i<;>simp only[cond_true,cond_false,p]<;>exact h
theorem LU{R:Type}: ∀(bY:List (List (Nat×R))) (i:Nat) (L:Nat->Bool) (f:Nat->R) (r k:Nat) (l:List (Nat×R)),bY[k]? =some l->(∃v,(r,v)∈l)->L (i+k)=true->
  (∀j e,k<j->bY[j]? =some e->(∃v,(r,v)∈e)->L (i+j)=false)-> ∀g:Nat->R,gK bY i L f r=dh g l r
 |h::bY,i,L,f,r,0,l,c,m,n,a,g=>by
  simp at c;subst c;simp only[gK];rw[oD] at n;rw[n,cond_true,DL bY (i+1) L (λ_=>false) (dh f h) (dh g h) r (Ay h _ _ r m) (λj e o d=>by
   have:=a (j+1) e O o d
   rwa [show i+(j+1)=i+1+j by omega] at this)]
  have p: ∀(bY:List (List (Nat×R))) (i:Nat) (f:Nat->R),gK bY i (λ_=>false) f=f:=by
   intro bY;induction bY with
   |nil=>intro _ _;rfl
   |cons l bY q=>intro i f;simp only[gK,cond_false];exact q _ _
  rw[p]
 |h::bY,i,L,f,r,k+1,l,c,m,n,a,g=>by
  simp at c;simp only[gK];exact LU bY (i+1) L _ r k l c m (by rwa [show i+1+k=i+(k+1) by omega]) (λj e s o d=>by
   have:=a (j+1) e O o d
   rwa [show i+(j+1)=i+1+j by omega] at this) g
 | [],_,_,_,_,_,_,c,_,_,_,_=>by simp at c
def im(a:List cQ)(i:Nat)(L:Nat->Bool)(s:S):S:={t:=gK (a.map (·.eF)) i L s.t,H:=gK (a.map (·.hs)) i L s.H,u:=gK (a.map (·.us)) i L s.u}
def mo(a:Array Oper):Nat->Nat->Nat->Bool
 |0,_,_=>false
 |f+1,i,j=>match a[j]? with
  |none=>false
  |some o=>o.after.toList.any λe=>Region.binds .any e&&(Nat.beq e.on i||mo a f i e.on)
def k7{k:Type}(l:List (Nat×k))(r:List Nat):Bool:=l.any λp=>r.any λx=>Nat.beq p.1 x
def oj{k R:Type}(l:List (Nat×k))(m:List (Nat×R)):Bool:=l.any λp=>m.any λq=>Nat.beq p.1 q.1
def lk(e:cQ)(r:gz)(a:cQ)(c:gz):Bool:=
 k7 e.eF c.eF||k7 a.eF r.eF||oj e.eF a.eF||k7 e.hs c.k2||k7 a.hs r.k2||oj e.hs a.hs||k7 e.us c.k2||k7 a.us r.k2||oj e.us a.us
def my(c:Array Oper)(n:Nat):Nat->List (cQ×gz)->Bool
 |_,[]=>true
 |i,(e,r)::a=>go i e r (i+1) a&&my c n (i+1) a
where
 go (i:Nat) (e:cQ) (r:gz):Nat->List (cQ×gz)->Bool
  |_,[]=>true
  |j,(d,h)::a=>(!lk e r d h||mo c n i j)&&go i e r (j+1) a
def rl:Nat->List Oper->Bool
 |_,[]=>true
 |i,o::a=>o.after.toList.all (λe=> !Region.binds .any e||Nat.blt e.on i)&&rl (i+1) a
theorem MJ{V:Array Oper}{n i:Nat}{e:cQ}{r:gz}: ∀(l:List (cQ×gz)) (j:Nat),my.go V n i e r j l=true-> ∀(k:Nat) a c,l[k]? =some (a,c)->lk e r a c=true->mo V n i (j+k)=true
 | [],_,_,_,_,_,h,_=>by simp at h
 |(o,p)::l,j,h,0,a,c,d,m=>by
  simp at d;obtain⟨rfl,rfl⟩:=d;simp only[my.go,Bool.and_eq_true,m,Bool.not_true,Bool.false_or] at h;exact h.1
 |(o,p)::l,j,h,k+1,a,c,d,m=>by
  simp at d;simp only[my.go,Bool.and_eq_true] at h
  have:=MJ l (j+1) h.2 k a c d m
  rwa [show j+1+k=j+(k+1) by omega] at this
theorem DN{V:Array Oper}{n:Nat}: ∀(l:List (cQ×gz)) (a:Nat),my V n a l=true-> ∀(i j:Nat) e r c d,l[i]? =some (e,r)->l[j]? =some (c,d)->i<j->lk e r c d=true->mo V n (a+i) (a+j)=true
 | [],_,_,_,_,_,_,_,_,h,_,_,_=>by simp at h
 |(q,s)::l,a,h,0,j,e,r,c,d,k,m,o,p=>by
  simp at k;obtain⟨rfl,rfl⟩:=k;simp only[my,Bool.and_eq_true] at h;cases j with
  |zero=>omega
  |succ j=>
   simp at m
   have:=MJ l (a+1) h.1 j c d m p
   rwa [show a+1+j=a+(j+1) by omega] at this
 |(q,s)::l,a,h,i+1,j,e,r,c,d,k,m,o,p=>by
  simp only[my,Bool.and_eq_true] at h;cases j with
  |zero=>omega
  |succ j=>
   simp at k m
   have:=DN l (a+1) h.2 i j e r c d k m O p
   rwa [show a+1+i=a+(i+1) by omega,show a+1+j=a+(j+1) by omega] at this
theorem Vz(e:cQ)(r:gz)(a:cQ)(c:gz):lk e r a c=lk a c e r:=by
 have d: ∀{n o:Type} (l:List (Nat×n)) (m:List (Nat×o)),oj l m=oj m l:=by
  intro n o l m;rw[e8];simp only[oj,List.any_eq_true];constructor
  ·rintro⟨p,i,q,k,h⟩;exact⟨q,k,p,i,by have:=cM h;simp[this]⟩
  rintro⟨p,i,q,k,h⟩;exact⟨q,k,p,i,by have:=cM h;simp[this]⟩
 unfold lk;rw[d e.eF,d e.hs,d e.us];cases k7 e.eF c.eF<;>cases k7 a.eF r.eF<;>cases oj a.eF e.eF<;>cases k7 e.hs c.k2<;>cases k7 a.hs r.k2<;>cases oj a.hs e.hs<;>cases k7 e.us c.k2<;>cases k7 a.us r.k2<;>rfl
def Om(c:Array Oper)(a:Array Bool):Prop:= ∀j o,c[j]? =some o->a.getD j true=true-> ∀e∈o.after,Region.binds .any e=true->a.getD e.on false=true
theorem IZ{V:Array Oper}{a:Array Bool}(m:Om V a): ∀(f i j:Nat),mo V f i j=true->(∀o,V[j]? =some o-> ∀e∈o.after,Region.binds .any e=true->a.getD e.on false=true)->a.getD i false=true
 |0,_,_,h,_=>by simp[mo] at h
 |f+1,i,j,h,n=>by
  unfold mo at h;cases k:V[j]? with
  |none=>rw[k] at h;simp at h
  |some o=>
   rw[k] at h;simp only[List.any_eq_true,Bool.and_eq_true,Bool.or_eq_true] at h;obtain⟨e,p,q,c⟩:=h;have cD:=n o k e (by simpa using p) q;rcases c with c|c
   ·have:=cM c;rw[<-this];exact cD
   refine IZ m f i e.on c λr l=>m e.on r l ?_;rw[pF] at cD⊢;cases d:a[e.on]? with
   |none=>rw[d] at cD;simp at cD
   |some b=>rw[d] at cD;simpa using cD
def vQ(K:Ctx)(a:Array Oper):List Oper->List (cQ×gz)->S->(S->Prop)->Prop
 | [],[],s,Q=>Q s
 |o::os,(e,r)::d,s,Q=>(∀c,r.same c s->hU K a o c (e.app c))/\vQ K a os d (e.app s) Q
 |_,_,_,_=>False
end
section
theorem Ku{k:Type}: ∀(bY:List (List (Nat×k))) (i:Nat) (L:Nat->Bool) (f:Nat->k),gK bY (i+1) L f=gK bY i (λj=>L (j+1)) f
 | [],_,_,_=>rfl
 |l::bY,i,L,f=>by simp only[gK];exact Ku bY (i+1) L _
theorem EM(e:cQ)(a:List cQ)(L:Nat->Bool)(s:S):im (e::a) 0 L s=im a 0 (λj=>L (j+1)) (bif L 0 then e.app s else s):=by unfold im;simp only[List.map_cons,gK,Nat.zero_add,Ku];cases L 0<;>rfl
theorem y2{K:Ctx}{V:Array Oper}: ∀(l:List Oper) (es:List (cQ×gz)) (s:S) (Q:S->Prop),vQ K V l es s Q->
  l.length=es.length/\Q (im (es.map (·.1)) 0 (λ_=>true) s)/\
  ∀(i:Nat) o e r,l[i]? =some o->es[i]? =some (e,r)-> ∀c,r.same c (im (es.map (·.1)) 0 (λj=>Nat.blt j i) s)->hU K V o c (e.app c)
 | [],[],s,Q,h=>⟨rfl,h,λi o e r d=>by simp at d⟩
 |o::os,(e,r)::es,s,Q,h=>by
  obtain⟨p,q⟩:=h;obtain⟨aK,a2,a3⟩:=y2 os es _ Q q;refine⟨by simp[aK],?_,?_⟩
  ·simp only[List.map_cons,EM,cond_true];exact a2
  intro i w x y d k c a;cases i with
  |zero=>
   simp at d k;obtain⟨rfl,rfl⟩:=k;subst d;refine p c ?_
   have:im (List.map (·.1) ((e,r)::es)) 0 (λj=>Nat.blt j 0) s=s:=by
    simp only[List.map_cons,EM];have m: ∀{n:Type} (bY:List (List (Nat×n))) (i:Nat) (f:Nat->n),gK bY i (λj=>Nat.blt (j+1) 0) f=f:=by
     intro n bY;induction bY with
     |nil=>intro _ _;rfl
     |cons l bY z=>intro i f;simp only[gK];exact z _ _
    show im (es.map (·.1)) 0 (λj=>Nat.blt (j+1) 0) s=s;unfold im;simp only[m]
   rw[this] at a;exact a
  |succ i=>
   simp at d k;refine a3 i w x y d k c ?_;simp only[List.map_cons,EM] at a;exact a
 | [],_::_,_,_,h=>h.elim
 |_::_,[],_,_,h=>h.elim
variable {k:Type}{r:gz}{x n i:Nat}{v:k}{a:Array Bool}{e:cQ}
theorem ES{l:List (Nat×k)}{r:List Nat}(h:(x,v)∈l)(a:x∈r):k7 l r=true:=by unfold k7;rw[ij];exact⟨(x,v),h,by rw[ij];exact⟨x,a,aW⟩⟩
theorem D2{R:Type}{l:List (Nat×k)}{m:List (Nat×R)}{a:R}(h:(x,v)∈l)(c:(x,a)∈m):oj l m=true:=by unfold oj;rw[ij];exact⟨(x,v),h,by rw[ij];exact⟨(x,a),c,aW⟩⟩
section
variable {K:Ctx} {l:List Oper} {es:List (cQ×gz)} {s:S}
theorem Fv{V:Array Oper}(proj:cQ->List (Nat×k))(G:my V n 0 es=true)(H:es[i]? =some (e,r))(f:Nat->k)(x:Nat)
  (m: ∀c d v,(x,v)∈proj c->lk e r c d=true)
  (o: ∀j,mo V n j i=true->a.getD j false=true) (q: ∀j,j<es.length->mo V n i j=true->a.getD j true=false) (z:a.getD i true=false):
  gK ((es.map (·.1)).map proj) 0 (λj=>a.getD j true) f x=gK ((es.map (·.1)).map proj) 0 (λj=>Nat.blt j i) f x:=by
 refine DL _ 0 _ _ f f x rfl ?_;intro j Q h ⟨v,I⟩;rw[dr];simp only[List.map_map,List.getElem?_map] at h;cases w:es[j]? with
 |none=>rw[w] at h;cases h
 |some p=>
  obtain⟨c,d⟩:=p;rw[w] at h;simp at h;subst h;have A:j<es.length:=(bS.1 w).1;rcases Nat.lt_trichotomy j i with y|rfl|B
  ·have a':=DN es 0 G j i c d e r w H y (by rw[Vz];exact m c d v I);rw[dr,dr] at a';have C:=o j a';have L:Nat.blt j i=true:=by simpa[Nat.blt_eq] using y
   rw[L];rw[pF] at C⊢;cases D:a[j]? with
   |none=>rfl
   |some b=>rw[D] at C;simpa using C
  ·rw[z];symm;cases a':Nat.blt j j with
   |false=>rfl
   |true=>simp[Nat.blt_eq] at a'
  have a':=DN es 0 G i j e r c d H w B (m c d v I);rw[dr,dr] at a';rw[q j A a'];symm;cases F:Nat.blt j i with
  |false=>rfl
  |true=>simp[Nat.blt_eq] at F;omega
theorem EH{V:Array Oper}(proj:cQ->List (Nat×k))(L:my V n 0 es=true)(H:es[i]? =some (e,r))(f:Nat->k)(B:i<a.size)
  (C: ∀x m A v Q,(x,v)∈proj m->(x,Q)∈proj e->lk e r m A=true) (o: ∀j,j<es.length->mo V n i j=true->a.getD j true=false) (R:a.getD i true=false):
  dh (gK ((es.map (·.1)).map proj) 0 (λj=>a.getD j true) f) (proj e)=gK ((es.map (·.1)).map proj) 0 (λj=>(a.setIfInBounds i true).getD j true) f:=by
 funext x;have h: ∀j,j≠i->(a.setIfInBounds i true).getD j true=a.getD j true:=λj D=>by
  simp[Array.getD_eq_getD_getElem?,Array.getElem?_setIfInBounds_ne (Ne.symm D)]
 have F:(a.setIfInBounds i true).getD i true=true:=by
  simp[Array.getD_eq_getD_getElem?,B]
 have q:((es.map (·.1)).map proj)[i]? =some (proj e):=by simp[H]
 by_cases G: ∃v,(x,v)∈proj e
 ·obtain⟨I,w⟩:=G;symm;refine LU _ 0 _ f x i (proj e) q ⟨I,w⟩ (by rw[dr];exact F) ?_ _;intro j U D c ⟨v,y⟩;rw[dr,h j O];simp only[List.map_map,List.getElem?_map] at c;cases d:es[j]? with
  |none=>rw[d] at c;cases c
  |some p=>
   obtain⟨m,A⟩:=p;rw[d] at c;simp at c;subst c;have a':=DN es 0 L i j e r m A H d D (C x m A v I y w);rw[dr,dr] at a';exact o j (bS.1 d).1 a'
 rw[mm _ _ _ λv y=>G ⟨v,y⟩];refine DL _ 0 _ _ f f x rfl ?_;intro j U c y;rw[dr];by_cases z:j=i
 ·subst z;rw[q] at c;cases c;exact bB y G
 exact(h j z).symm
theorem K3: ∀(l:List Oper) (a:Nat),rl a l=true-> ∀(i:Nat) o,l[i]? =some o-> ∀e∈o.after,Region.binds .any e=true->e.on<a+i
 | [],_,_,_,_,h=>by simp at h
 |o::l,a,h,0,n,c=>by
  simp at c;subst c;intro e k m;simp only[rl,Bool.and_eq_true,List.all_eq_true,Bool.or_eq_true] at h;rcases h.1 e (by simpa using k) with d|d
  ·rw[m] at d;cases d
  simpa[Nat.blt_eq] using d
 |o::l,a,h,i+1,n,c=>by
  simp at c;simp only[rl,Bool.and_eq_true] at h;intro e k m
  have:=K3 l (a+1) h.2 i n c e k m;omega
theorem Yi{Q:S->Prop}{wk:Exit->Act->World->Prop}(hp:my l.toArray l.length 0 es=true)(he:rl 0 l=true)(cv:vQ K l.toArray l es s Q)
  (Hg: ∀f a w,Rel K f (im (es.map (·.1)) 0 (λ_=>true) s) a w->wk .normal a w):
  ∀(d:Nat) (c:Array Bool) (U:List Nat),c.size=l.length->U.Nodup->U.length=d->(∀i,c.getD i true=false↔i∈U)->Om l.toArray c->
   ∀f a w,Rel K f (im (es.map (·.1)) 0 (λj=>c.getD j true) s) a w->wpAny K.P .any l.toArray wk d c a w:=by
 obtain⟨hlen,_,adu⟩:=y2 l es s Q cv
 -- if nothing is ready, all is done
 have hall: ∀(c:Array Bool) (U:List Nat),c.size=l.length->(∀i,c.getD i true=false↔i∈U)->U≠[]->Region.ready .any l.toArray c≠[]:=by
  intro c U L R g;have key: ∀n,(∃i,i∈U/\i<=n)-> ∃m,m∈U/\ ∀j,j<m->j∉U:=by
   intro n;induction n with
   |zero=>rintro⟨i,aI,hle⟩;exact⟨0,by rwa [show i=0 by omega] at aI,λj W=>O⟩
   |succ n ml=>
    rintro⟨i,aI,hle⟩;by_cases h: ∃i,i∈U/\i<=n
    ·exact ml h
    have:i=n+1:=by
     rcases Nat.lt_or_ge i (n+1) with E|iD
     ·exact bB ⟨i,aI,O⟩ h
     omega
    subst this;exact⟨n+1,aI,λj W ac5=>h ⟨j,ac5,O⟩⟩
  obtain⟨x,hx⟩:=C' U g;obtain⟨m,hm,adl⟩:=key x ⟨x,hx,cO _⟩;have M:=(R m).2 hm;have PI:m<l.length:=by
   rcases Nat.lt_or_ge m l.length with h|h
   ·exact h
   rw[pF,Array.getElem?_eq_none O] at M;cases M
  intro D
  have:m∈Region.ready .any l.toArray c:=by
   rw[mem_ready];refine⟨M,l[m],by simp[PI],λe acP X=>?_⟩;have E:=K3 l 0 he m l[m] (bs PI) e acP X;rw[dr] at E;have BP:=adl e.on E;have C:c.getD e.on true≠false:=λh=>BP ((R e.on).1 h);have F:e.on<c.size:=O
   simp only[Array.getD_eq_getD_getElem?,Array.getElem?_eq_getElem F,Option.getD_some] at C⊢;simpa using C
  rw[D] at this;simp at this
 have N: ∀(c:Array Bool),(∀i,c.getD i true=true)->im (es.map (·.1)) 0 (λj=>c.getD j true) s=im (es.map (·.1)) 0 (λ_=>true) s:=by
  intro c h
  have:(λj=>c.getD j true)=λ_=>true:=funext h;rw[this]
 intro d;induction d with
 |zero=>
  intro c U L T A R bP f a w b7;have D:U=[]:=kI A;subst D;have G: ∀i,c.getD i true=true:=λi=>by
   cases h:c.getD i true with
   |true=>rfl
   |false=>have:=(R i).1 h;simp at this
  refine⟨?_,Hg f a w (by rw[<-N c G];exact b7)⟩;cases adE:Region.ready .any l.toArray c with
  |nil=>rfl
  |cons x xs=>
   have:x∈Region.ready .any l.toArray c:=by rw[adE];simp
   rw[mem_ready] at this;rw[G x] at this;exact bB this.1 aW
 |succ d ml=>
  intro c U L T A R bP f a w b7;have g:U≠[]:=by intro e;subst e;simp at A
  refine⟨λh=>bB h (hall c U L R g),λi aI=>?_⟩;obtain⟨y,o,eu,Y⟩:=mem_ready.1 aI;have BM:i<l.length:=by
   rcases Nat.lt_or_ge i l.length with h|h
   ·exact h
   rw[Array.getElem?_eq_none (by simpa using h)] at eu;cases eu
  have Hy:l[i]? =some o:=by simpa using eu
  obtain⟨⟨e,r⟩,B⟩: ∃p,es[i]? =some p:=⟨es[i]' O,by simp[show i<es.length by omega]⟩
  have I: ∀j,mo l.toArray l.length j i=true->c.getD j false=true:=λj X=>IZ bP _ j i X λCp z=>by rw[eu] at z;cases z;exact Y
  have q: ∀j,j<es.length->mo l.toArray l.length i j=true->c.getD j true=false:=λj W X=>by
   cases adf:c.getD j true with
   |false=>rfl
   |true=>
    have C:=IZ bP _ i j X λCp z=>bP j Cp z adf;have F:i<c.size:=O
    simp only[Array.getD_eq_getD_getElem?,Array.getElem?_eq_getElem F,Option.getD_some] at C y;rw[y] at C;cases C
  have V:r.same (im (es.map (·.1)) 0 (λj=>c.getD j true) s) (im (es.map (·.1)) 0 (λj=>Nat.blt j i) s):=by
   refine⟨λx hx=>?_,λk hk=>⟨?_,?_⟩⟩
   ·exact Fv (·.eF) hp B s.t x (λb yc v bI=>by simp[lk,ES bI hx]) I q y
   ·exact Fv (·.hs) hp B s.H k (λb yc v bI=>by simp[lk,ES bI hk]) I q y
   exact Fv (·.us) hp B s.u k (λb yc v bI=>by simp[lk,ES bI hk]) I q y
  have adM:e.app (im (es.map (·.1)) 0 (λj=>c.getD j true) s)=im (es.map (·.1)) 0 (λj=>(c.setIfInBounds i true).getD j true) s:=by
   unfold cQ.app im;simp only[S.mk.injEq];refine⟨?_,?_,?_⟩
   ·exact EH (·.eF) hp B s.t O (λx b yc v dw C h2=>by simp[lk,D2 h2 C]) q y
   ·exact EH (·.hs) hp B s.H O (λx b yc v dw C h2=>by simp[lk,D2 h2 C]) q y
   exact EH (·.us) hp B s.u O (λx b yc v dw C h2=>by simp[lk,D2 h2 C]) q y
  have adt:=adu i o e r Hy B _ V;have acT: ∀β' tu w',Rel K β' (e.app (im (es.map (·.1)) 0 (λj=>c.getD j true) s)) tu w'->wpAny K.P .any l.toArray wk d (c.setIfInBounds i true) tu w':=by
   intro β' tu w' PR;rw[adM] at PR;have acY:=(R i).1 y;refine ml (c.setIfInBounds i true) (U.erase i) (by simpa using L) (T.erase i) (by rw[List.length_erase_of_mem acY];omega) (λj=>?_) ?_ β' tu w' PR
   ·rw[T.mem_erase_iff];by_cases W:j=i
    ·subst W;simp[Array.getD_eq_getD_getElem?,show j<c.size by omega]
    simp only[Array.getD_eq_getD_getElem?,Array.getElem?_setIfInBounds_ne (Ne.symm W)]
    have:=R j;rw[pF] at this;rw[this];simp[W]
   intro j Cp z W b Pz X;by_cases PD:j=i
   ·subst PD;rw[eu] at z;cases z;exact getD_set_true (Y b Pz X)
   have C:c.getD j true=true:=by
    simpa only[Array.getD_eq_getD_getElem?,Array.getElem?_setIfInBounds_ne (Ne.symm PD)] using W
   exact getD_set_true (bP j Cp z C b Pz X)
  have adi:=adt f a w (wpAny K.P .any l.toArray wk d (c.setIfInBounds i true)) wk b7 acT;unfold wpOp;rw[eu];exact adi
theorem Mi{Q:Exit->S->Prop}(d:List (cQ×gz))(D:K.P.follows .mixedOrders=true)(F:my l.toArray l.length 0 d=true)(G:rl 0 l=true)
  (k:vQ K l.toArray l d s λH=>Q .normal H):cI K (.region n l.toArray true) s Q:=by
 intro m a w X p I;obtain⟨_,R,_⟩:=y2 l d s _ k;refine wp_region_any D ?_;have q:Rel K m s a {w with drawn:=w.drawn+1}:=vN p;have U:im (d.map (·.1)) 0 (λj=>(Array.replicate l.toArray.size false).getD j true) s=s:=by
  have A:=(y2 l d s _ k).1;have c: ∀{r:Type} (bY:List (List (Nat×r))) (L:Nat->Bool) (i:Nat) (f:Nat->r),(∀j,j<bY.length->L (i+j)=false)->gK bY i L f=f:=by
   intro r bY L;induction bY with
   |nil=>intro _ _ _;rfl
   |cons x bY W=>
    intro i f h;simp only[gK];have B:=h 0 aW;rw[oD] at B;rw[B,cond_false];exact W (i+1) f λj e=>by have:=h (j+1) bQ;rwa [show i+(j+1)=i+1+j by omega] at this
  have y: ∀j,j<d.length->(Array.replicate l.toArray.size false).getD (0+j) true=false:=λj e=>by
   rw[dr,pF,yD,a1 bQ];rfl
  unfold im;rw[c _ _ _ _ (by simpa using y),c _ _ _ _ (by simpa using y),c _ _ _ _ (by simpa using y)]
 refine Yi F G k (λm a w p=>I _ _ _ _ _ R p) l.toArray.size (Array.replicate l.toArray.size false) (List.range l.length) aW List.nodup_range aW (λi=>?_) ?_ m a _ (by rw[U];exact q)
 ·rw[pF,yD,s8];by_cases h:i<l.length
  ·rw[a1 (by simpa using h)];simp[h]
  rw[a6 (by simpa using h)];simp[h]
 intro j o C e;rw[pF,yD] at e;have z:j<l.length:=by
  rcases Nat.lt_or_ge j l.length with h|h
  ·exact h
  rw[Array.getElem?_eq_none (by simpa using h)] at C;cases C
 rw[a1 (by simpa using z)] at e;cases e
end
end
abbrev aa(n:Int):V:= .t (.int .i64 n)
abbrev vy(b:UInt8):V:= .t (.int .u8 (b.toNat:Nat))
abbrev aM(b:Bool):V:= .t (.bool b)
abbrev bD(s:List UInt8):V:= .t (.str s)
abbrev Q1(a:List (List T)):V:= .t (.aE a)
abbrev j3(n:Int):List T:=[.int .i64 n]
abbrev ns(b:UInt8):List T:=[.int .u8 (b.toNat:Nat)]
abbrev Zs(b:Bool):List T:=[.bool b]
abbrev aaM(s:List UInt8):List T:=[.str s]
def i'(P:Program)(f:FuncId):Prop:= ∃a,P.funcs[f]? =some a/\(a.name== "runtime.NumGoroutine")=false/\a.body.isNone=false
section
variable {K:Ctx} {s:S} {Q:Exit->S->Prop}
variable {l:List Oper}
theorem Kf{V:Array Oper}{Q:S->Prop}{b:S}(i:s.le K b)(h:p6 K V l b Q):p6 K V l s Q:=
  λk a w m n o=>let ⟨c,e⟩:=i k a w n;h c a w m e o
theorem Sc{i:Nat}(m:S)(h:p6 K l.toArray l s λn=>n.le K m)(o:Q .normal m):cI K (.region i l.toArray false) s Q:=by intro p a w q r x;refine wp_region_lit (h p a w q r λn c y A B e=>?_);obtain⟨C,k⟩:=B c y A e;exact x _ _ _ _ _ o k
theorem b9.eq{P:Program}{H:Nat->Option E}{o:Oper}{a:List V}{v dw:V}(h:b9 P H o a v)(e:v=dw):b9 P H o a dw:=e▸h
section
variable {K:Ctx} {s:S} {d:Option Tmp} {ty:TypeId} {pos:String} {af:Array Edge} {g:Option (Nat×Bool)}
variable {t:TypeId} {u:TypeDesc} {z:Value} {gen size bytes:Nat}
end
end
theorem jX(b:Bool){P:Prop}(a:b=false->P)(c:b=true->P):P:=by
 cases b with
 |false=>exact a rfl
 |true=>exact c rfl
theorem fp.of_eq{e a:List V}(h:e=a):fp e a:=h▸fp.refl e
section
variable {K:Ctx} {s:S} {ops:Array Oper} {rest:List Oper} {Q:S->Prop} {d:Nat} {ty:TypeId} {pos:String} {af:Array Edge} {j:Nat} {want:Bool} {t:Nat}
end
section
mutual
def V.dt(L:List Nat):V->V
  | .ref id a=> .ref (L.getD id 0) a
  | .bc id gen c a d=> .bc (L.getD id 0) gen c a d
  | .cB id gen c i a=> .cB (L.getD id 0) gen c i a
  | .agg cs=> .agg (iH L cs)
  | .bL cs=> .bL (iH L cs)
  | .fn f cs=> .fn f (iH L cs)
  | .t x=> .t x
  | .aP x=> .aP x
  | .c4=> .c4
def iH(L:List Nat):List V->List V
  | []=>[]
  |c::cs=>c.dt L::iH L cs
end
def E.dt(L:List Nat):E->E
  | .cells cs=> .cells (iH L cs)
  | .arr ty gen c a=> .arr ty gen c a
  | .a8 d m gen a e=> .a8 d m gen a (e.map λh=>(h.1,h.2.1,h.2.2.dt L))
theorem o9{L:List Nat}: ∀cs:List V,(iH L cs).length=cs.length
  | []=>rfl
  |c::cs=>by simp[iH,o9 cs]
theorem Fu{L:List Nat}: ∀(cs:List V) (i:Nat),(iH L cs)[i]? =(cs[i]?).map (V.dt L)
  | [],_=>by simp[iH]
  |c::cs,0=>by simp[iH]
  |c::cs,i+1=>by simp[iH,Fu cs i]
variable {L:List Nat}{D:Map}{w:World}{X:Nat->Prop}
theorem zl{a:List V}{i:Nat}{c:V}(h:(iH L a)[i]? =some c): ∃d,a[i]? =some d/\c=d.dt L:=by
  rw[Fu] at h;cases e:a[i]? with
  |none=>rw[e] at h;simp at h
  |some d=>rw[e] at h;simp at h;exact⟨d,rfl,h.symm⟩
theorem bn.dt{β:Map}{v:V}{u:Value}(h:bn β w X v u)(e: ∀k x,β k=some x->D (L.getD k 0)=some x):bn D w X (v.dt L) u:=by
  induction h with
  |t x v h=>exact .t x v h
  |agg cs s o _ y=>exact .agg _ s (by rw[o9];exact o) (λi c u p z=>by obtain⟨A,B,rfl⟩:=zl p;exact y i A u B z)
  |bL cs s o _ y=>exact .bL _ s (by rw[o9];exact o) (λi c u p z=>by obtain⟨A,B,rfl⟩:=zl p;exact y i A u B z)
  |ref id d b l=>exact .ref _ d b (e _ _ l)
  |aP cells b d f l G p H=>exact .aP cells b d f l G p H
  |bc id gen a d r C b n ty m l I K Q o R=>exact .bc _ gen a d r C b n ty m (e _ _ l) I K Q o R
  |hh id gen a m l=>exact .hh _ gen a m (e _ _ l)
  |k5 id gen a d r v q g F l m=>exact .k5 _ gen a d r v q g F (e _ _ l) m
  |cB id gen a i d b m l=>exact .cB _ gen a i d b m (e _ _ l)
  |ly id gen a i d v q g F l m=>exact .ly _ gen a i d v q g F (e _ _ l) m
  |fn f cs s o _ y=>exact .fn f _ s (by rw[o9];exact o) (λi c u p z=>by obtain⟨A,B,rfl⟩:=zl p;exact y i A u B z)
  |c4 v=>exact .c4 v
def jf(L:List Nat)(a:Map):Map:=⟨λk=>(L[k]?).bind a,λk b=> ∃id,L[k]? =some id/\a.n id b⟩
def eZ:Nat->(Nat->Bool)
  |0=>gp
  |n+1=>aU (eZ n) n true
theorem iV: ∀{n k:Nat},eZ n k=true↔k<n
  |0,k=>by simp[eZ,gp]
  |n+1,k=>by
    by_cases h:k=n
    · subst h;simp[eZ,bW]
    · rw[eZ,bX _ _ _ _ h,iV];omega
mutual
theorem bn.pD{β:Map}{w:World}{X:Nat->Prop}{L:List Nat}: ∀(v:V) (u:Value),bn β w X (v.dt L) u->v.ok (eZ L.length)=true->bn (jf L β) w X v u
  | .t x,u,h,_=>by
    simp only[V.dt] at h;cases h with|t _ _ h=>exact .t _ _ h
  | .aP x,u,h,_=>by
    simp only[V.dt] at h;cases h with|aP _ b l f a D r s=>exact .aP _ b l f a D r s
  | .c4,u,_,_=> .c4 u
  | .ref id l,u,h,d=>by
    have e:id<L.length:=iV.1 (by simpa[V.ok] using d);have o:jf L β id=β (L.getD id 0):=by simp[jf,List.getElem?_eq_getElem e]
    simp only[V.dt] at h;cases h with|ref _ _ b a=>exact .ref _ _ b (by rw[o];exact a)
  | .bc id gen y l F,u,h,d=>by
    have e:id<L.length:=iV.1 (by simpa[V.ok] using d);have o:jf L β id=β (L.getD id 0):=by simp[jf,List.getElem?_eq_getElem e]
    simp only[V.dt] at h;cases h with
    |bc _ _ _ _ _ A b n ty m a G k H d B=>exact .bc _ _ _ _ _ A b n ty m (by rw[o];exact a) G k H d B
    |hh _ _ _ m a=>exact .hh _ _ _ m (by rw[o];exact a)
    |k5 _ _ _ _ _ _ q g C a m=>exact .k5 _ _ _ _ _ _ q g C (by rw[o];exact a) m
  | .cB id gen y i l,u,h,d=>by
    have e:id<L.length:=iV.1 (by simpa[V.ok] using d);have o:jf L β id=β (L.getD id 0):=by simp[jf,List.getElem?_eq_getElem e]
    simp only[V.dt] at h;cases h with
    |cB _ _ _ _ _ b m a=>exact .cB _ _ _ _ _ b m (by rw[o];exact a)
    |ly _ _ _ _ _ _ q g C a m=>exact .ly _ _ _ _ _ _ q g C (by rw[o];exact a) m
  | .agg cs,u,h,d=>by
    simp only[V.dt] at h;cases h with
    |agg _ p k s=>exact .agg _ p (by rw[o9] at k;exact k) (λi c u r z=>zH cs (λi=>p[i]?) (by simpa[V.ok] using d) s i c u r z)
  | .bL cs,u,h,d=>by
    simp only[V.dt] at h;cases h with
    |bL _ p k s=>exact .bL _ p (by rw[o9] at k;exact k) (λi c u r z=>zH cs (λi=>p[i]?) (by simpa[V.ok] using d) s i c u r z)
  | .fn f cs,u,h,d=>by
    simp only[V.dt] at h;cases h with
    |fn _ _ p k s=>exact .fn _ _ p (by rw[o9] at k;exact k) λi c u r z=>zH cs (λi=>p[i]?) (by simpa[V.ok] using d) s i c u r z
theorem zH{D:Map}{w:World}{X:Nat->Prop}{L:List Nat}: ∀(cs:List V) (U:Nat->Option Value),gr (eZ L.length) cs=true->
    (∀i c u,(iH L cs)[i]? =some c->U i=some u->bn D w X c u)-> ∀(i:Nat) c u,cs[i]? =some c->U i=some u->bn (jf L D) w X c u
  | [],_,_,_,_,_,_,h,_=>by simp at h
  |c::cs,U,a,h,0,_,u,d,e=>by
    simp at d;subst d;simp[gr] at a;exact bn.pD c u (h 0 _ u (by simp[iH]) e) a.1
  |c::cs,U,a,h,i+1,k,u,d,e=>by simp at d;simp[gr] at a;exact zH cs (λi=>U (i+1)) a.2 (λi c u l m=>h (i+1) c u (by simpa[iH] using l) m) i k u d e
end
theorem dv.pD{β:Map}{w:World}{X:Nat->Prop}{L:List Nat}: ∀{a:List V} {c:List Value},dv β w X (iH L a) c->gr (eZ L.length) a=true->dv (jf L β) w X a c
  | [],[],_,_=>trivial
  |v::a,u::c,h,d=>by
    simp[gr] at d;exact⟨bn.pD v u h.1 d.1,dv.pD h.2 d.2⟩
  | [],_::_,h,_=>h.elim
  |_::_,[],h,_=>h.elim
def eT:List E->Nat->(Nat->Option E)
  | [],_=>oH
  |e::a,k=>aU (eT a (k+1)) k (some e)
theorem L6: ∀(a:List E) (k i:Nat),eT a k (k+i)=a[i]?
  | [],_,_=>by simp[eT,oH]
  |e::a,k,0=>by rw[oD,eT,bW];simp
  |e::a,k,i+1=>by rw[eT,bX _ _ _ _ O,show k+(i+1)=(k+1)+i by omega,L6 a (k+1) i];simp
theorem yr(a:List E)(i:Nat):eT a 0 i=a[i]? :=by have:=L6 a 0 i;rwa [dr] at this
def lP(X:Nat->Prop)(a:Map)(H:Nat->Option E)(b:Nat):Prop:=X b\/ ∃id,H id≠none/\At a id b
structure y9 (G:fc) (gG:List E) (β:Map) (w:World) (X:Nat->Prop):Prop where
  dK: ∀k,gG.length<=k->β k=none
  ec: ∀k b,gG.length<=k-> ¬β.n k b
  inj: ∀id j0 b,At β id b->At β j0 b->id=j0
  place: ∀k b,At β k b->b<w.heap.size/\ ¬X b/\G.xX<=b
  heap: ∀k e,gG[k]? =some e->cG β w (lP X β (eT gG 0)) k e
structure Left (gM β:Map) (gG out:List E) (w w':World) (X:Nat->Prop) (r:V) (u:Value):Prop where
  ext:Ext (λb=> ∃k,At gM k b) w w'
  base:kg gG.length gM β w.heap.size
  iM:Shaped gM w w'
  dK: ∀k,out.length<=k->β k=none
  ec: ∀k b,out.length<=k-> ¬β.n k b
  inj: ∀id j0 b,At β id b->At β j0 b->id=j0
  fresh: ∀k b,At β k b->((∃b1,b1<gG.length/\At gM b1 b)\/w.heap.size<=b)/\b<w'.heap.size
  heap: ∀k e,out[k]? =some e->cG β w' (lP X β (eT out 0)) k e
  res:bn β w' (lP X β (eT out 0)) r u
def JN(P:Program)(G:fc)(f:FuncId)(c:List E)(args:List V){ι:Type}(k:ι->Prop)(r:ι->V)(d:ι->List E):Prop:=
  ∀(w:World) (X:Nat->Prop) (a:Map) (h:List Value),G.ok w->(∀b,X b->b<w.heap.size)->y9 G c a w X->dv a w (lP X a (eT c 0)) args h->
    Calls P f h.toArray w λe l=> ∃u i m,e= .returned u/\k i/\Left a m c (d i) w l X (r i) u
def Ctx.dI(P:Program)(G:fc)(w:World)(X:Nat->Prop)(da:Nat)(gM:Map)(nt:Nat):Ctx:={P,G,w0:=w,X,da,gM,nt}
def lR(a:List E)(args:List V):S:={t:=tp args 0,H:=eT a 0,u:=eZ a.length}
theorem Rel.lR{P:Program}{G:fc}{nt:Nat}{a:List E}{args:List V}{c:List Value}(q:G.ok w)(r: ∀b,X b->b<w.heap.size)(d:y9 G a D w X)
    (h:dv D w (lP X D (eT a 0)) args c) (x:c.length<=nt):
    Rel (Ctx.dI P G w X a.length D nt) D (Lift.lR a args) {tmps:=c.toArray++Array.replicate (nt-c.toArray.size) undef,defers:=[]} w:=by
  have l: ∀id b,At D id b->id<a.length:=by
    rintro id b (⟨g,h⟩|h)
    · apply s3;intro k;rw[d.dK id k] at h;cases h
    · exact s3 λk=>d.ec id b k h
  refine {ext:=Ext.refl _ _,n0:=q,og:= ?_,iu:= ?_,base:=kg.refl _ _ _,iM:=Shaped.refl _ _,low:=λid h=>iV.2 h,dK:= ?_,ec:= ?_,
           qA:=d.inj,inj:=d.inj,fresh:=λid b h=>⟨.inl ⟨id,l id b h,h⟩,(d.place id b h).1⟩,heap:= ?_,cZ:= ?_,nt:= ?_,defers:=rfl}
  · rintro b ⟨id,_,h⟩;exact(d.place id b h).2.2
  · intro b p;exact⟨r b p,λ⟨id,_,h⟩=>(d.place id b h).2.1 p⟩
  · intro id hid;apply d.dK;apply Nat.le_of_not_lt;intro l;have o:=iV.2 l;have m:eZ a.length id=false:=hid;rw[o] at m;cases m
  · intro id b hid h;have o:=iV.2 (l id b (.inr h));have m:eZ a.length id=false:=hid;rw[o] at m;cases m
  · intro id e s;have n:a[id]? =some e:=by rw[<-yr];exact s
    refine⟨iV.2 ?_,d.heap id e n⟩;apply s3;intro k;rw[q8 k] at n;cases n
  · intro i;have o:=DW args c 0 h i;rw[dr] at o;have m:(c.toArray++Array.replicate (nt-c.toArray.size) undef).getD i undef=c.getD i undef:=by
      simp only[Array.getD_eq_getD_getElem?,List.getD_eq_getElem?_getD,Array.getElem?_append];by_cases d:i<c.length
      · rw[a1 (by simpa using d)];simp
      · rw[a6 (by simpa using d)];rw[yD];rw[q8 O];split<;>rfl
    simp only[m];exact o
  · simp[Ctx.dI];omega
end
section
def k8{R:Type}(f:Nat->R):List Nat->(Nat->R)->(Nat->R)
 | [],_=>f
 |l::L,g=>aU (k8 f L λk=>g (k+1)) l (g 0)
theorem ng{k:Type}{f:Nat->k}: ∀{L:List Nat} {g:Nat->k} {id:Nat},id∉L->k8 f L g id=f id
 | [],_,_,_=>rfl
 |l::L,g,id,h=>by simp at h;rw[k8,bX _ _ _ _ h.1];exact ng h.2
theorem od{R:Type}{f:Nat->R}: ∀{L:List Nat} {g:Nat->R} {k id:Nat},L.Nodup->L[k]? =some id->k8 f L g id=g k
 | [],_,_,_,_,h=>by simp at h
 |l::L,g,0,id,_,h=>by simp at h;subst h;rw[k8,bW]
 |l::L,g,k+1,id,a,h=>by simp at h a;have c:id≠l:=λe=>a.1 (e▸bE h);rw[k8,bX _ _ _ _ c];exact od (g:=λk=>g (k+1)) a.2 h
theorem EP: ∀{L:List Nat} {i j id:Nat},L.Nodup->L[i]? =some id->L[j]? =some id->i=j
 | [],_,_,_,_,h,_=>by simp at h
 |l::L,0,0,_,_,_,_=>rfl
 |l::L,0,j+1,id,a,h,c=>by simp at h c a;subst h;exact bB (bE c) a.1
 |l::L,i+1,0,id,a,h,c=>by simp at h c a;subst c;exact bB (bE h) a.1
 |l::L,i+1,j+1,id,a,h,c=>by simp at h c a;rw[EP a.2 h c]
def S.after(s:S)(L:List Nat)(a:List E):S:=
 {t:=s.t,H:=k8 s.H L λk=>(a[k]?).map (E.dt L),u:=k8 s.u L (λ_=>true)}
def Eb(K:Ctx)(o:Oper)(s:S){k:Type}(h:k->Prop)(l:k->S):Prop:=
 ∀m a w next Q,Rel K m s a w->(∀i,h i-> ∀c d e,Rel K c (l i) d e->next d e)->o.wp K.P a w next Q
variable {β:Map}{w:World}{X:Nat->Prop}{L:List Nat}{k:Nat}{e:E}{f:FuncId}
theorem cG.pD{id:Nat}(h:cG β w X id (e.dt L))(C:L[k]? =some id)(F:e.ok (eZ L.length)=true):cG (jf L β) w X k e:=by
 have l:jf L β k=β id:=by simp[jf,C]
 cases e with
 |cells cs=>
  obtain⟨b,o,ty,a,d,s,D⟩:=h;rw[o9] at s;refine⟨b,o,ty,by rw[l];exact a,d,s,λi c u y K=>?_⟩;exact bn.pD c u (D i _ u (by rw[Fu,y];rfl) K) (vo F y)
 |arr ty gen G p=>
  refine⟨h.1,?_⟩;rcases h.2 with ⟨a,d⟩|⟨b,o,a,d⟩
  ·exact .inl ⟨by rw[l];exact a,d⟩
  exact .inr ⟨b,o,by rw[l];exact a,d⟩
 |a8 t m gen p M=>
  refine⟨h.1,?_⟩;have H: ∀c,(jf L β).n k c↔β.n id c:=λc=>⟨λ⟨Q,a,d⟩=>by rw[C] at a;cases a;exact d,λh=>⟨id,C,h⟩⟩
  rcases h.2 with ⟨a,d,R⟩|⟨b,o,B,a,d,s,D,I,U,W,Y⟩
  ·exact .inl ⟨by rw[l];exact a,d,λc y=>R c ((H c).1 y)⟩
  refine .inr ⟨b,o,B,by rw[l];exact a,d,s,D,λi j q x u aK a2 a3=>⟨λv z=>?_,λf=>?_⟩,U,W,λc=>(H c).trans (Y c)⟩
  ·have A:=(I i j q x u aK a2 a3).1 (v.dt L) (eM.2 ⟨_,z,rfl⟩);exact⟨bn.pD v u A.1 (Fw F z),A.2⟩
  refine(I i j q x u aK a2 a3).2 λv z=>?_;obtain⟨⟨N,P,g⟩,A,r⟩:=eM.1 z;simp only[Prod.mk.injEq] at r;obtain⟨rfl,rfl,rfl⟩:=r;exact f g A
theorem cG.dt{β':Map}{K:Nat->Prop}{D:Nat}(h:cG β w X k e)(U:L[k]? =some D)(o: ∀k x,β k=some x->β' (L.getD k 0)=some x)(F: ∀b,K b->X b)(Q: ∀b,β'.n D b↔β.n k b):cG β' w K D (e.dt L):=by
 have q: ∀x,β k=some x->β' D=some x:=λx G=>by have:=o k x G;rwa [ew,U] at this
 cases e with
 |cells cs=>
  obtain⟨b,r,ty,a,d,s,y⟩:=h;refine⟨b,r,ty,q _ a,d,by rw[o9];exact s,λi c u H W=>?_⟩;obtain⟨Y,p,rfl⟩:=zl H;exact((y i Y u p W).dt o).mono (Ext.refl _ _) (λb _=>F b) (du.refl _) (Shaped.refl _ _)
 |arr ty gen R z=>
  refine⟨h.1,?_⟩;rcases h.2 with ⟨a,d⟩|⟨b,r,a,d,s,y,p⟩
  ·exact .inl ⟨q _ a,d⟩
  exact .inr ⟨b,r,q _ a,d,s,y,λi j l x u aK a2 a3=>(p i j l x u aK a2 a3).mono (Ext.refl _ _) λb _=>F b⟩
 |a8 S m gen z T=>
  refine⟨h.1,?_⟩;rcases h.2 with ⟨a,d,f⟩|⟨b,r,B,a,d,s,y,p,g,t,M⟩
  ·exact .inl ⟨q _ a,d,λc H=>f c ((Q c).1 H)⟩
  refine .inr ⟨b,r,B,q _ a,d,s,y,λi j l x u aK a2 a3=>⟨λv I=>?_,λG=>?_⟩,g,t,λc=>(Q c).trans (M c)⟩
  ·obtain⟨⟨V,cW,N⟩,P,A⟩:=eM.1 I;simp only[Prod.mk.injEq] at A;obtain⟨rfl,rfl,rfl⟩:=A;have C:=(p _ _ l x u aK a2 a3).1 N P;exact⟨(C.1.dt o).mono (Ext.refl _ _) (λb _=>F b) (du.refl _) (Shaped.refl _ _),C.2⟩
  exact((p i j l x u aK a2 a3).2 λv I=>G (v.dt L) (eM.2 ⟨_,I,rfl⟩)).mono (Ext.refl _ _) (λb _=>F b) λ_ _=>rfl
theorem dv.app{β:Map}{w:World}{X:Nat->Prop}: ∀{d a:List V} {e c:List Value},dv β w X d e->dv β w X a c->dv β w X (d++a) (e++c)
 | [],_,[],_,_,h=>h
 |_::_,_,_::_,_,h,k=>⟨h.1,dv.app h.2 k⟩
 | [],_,_::_,_,h,_=>h.elim
 |_::_,_,[],_,h,_=>h.elim
theorem EE{D:Map}{w:World}{X:Nat->Prop}: ∀{d:List V} {e:List Value},e.length=d.length->(∀(i:Nat) c u,d[i]? =some c->e[i]? =some u->bn D w X c u)->dv D w X d e
 | [],[],_,_=>trivial
 |v::d,u::e,a,h=>⟨h 0 v u rfl rfl,EE (by simpa using a) λi c u k l=>h (i+1) c u (by simpa using k) (by simpa using l)⟩
 | [],_::_,a,_=>by simp at a
 |_::_,[],a,_=>by simp at a
theorem bn.G5{a:List V}{u:Value}(h:bn β w X (.fn f a) u): ∃d:Array Value,u= .func (.func f) #[] d/\dv β w X a d.toList:=by
 cases h with
 |fn _ _ d e h=>exact⟨d,rfl,EE (by simpa using e) λi c u k l=>h i c u k (by simpa using l)⟩
theorem W'{K:Ctx}{s:S}{o:Oper}{xs:Array Operand}{QX:Array TypeId}{gG:List E}{args:List V}{ι:Type}{l1:ι->Prop}{r:ι->V}{F:ι->List E}(G6:Operand)(L news:List Nat)
  (O6:List V) (eu:o.op= .call {callee:= .value G6,args:=xs,argTypes:=QX}) (acV:s.get G6= .fn f O6)
  (h7:i' K.P f) (cv: ∀i,o.dst=some i->Nat.blt i K.nt=true) (bI:fp (xs.toList.map s.get++O6) (iH L args)) (cD:gr (eZ L.length) args=true)
  (sd:gG.length=L.length) (hH: ∀(k:Nat) (e:E),gG[k]? =some e-> ∃id,L[k]? =some id/\s.H id=some (e.dt L)/\e.ok (eZ L.length)=true)
  (N:(L++news).Nodup) (qq: ∀id,id∈news->s.u id=false) (HI: ∀i,(F i).length=(L++news).length)
  (h:JN K.P K.G f gG args l1 r F):Eb K o s l1 (λi=>(s.after (L++news) (F i)).put o.dst ((r i).dt (L++news))):=by
 obtain⟨fn,acQ,acR,acS⟩:=h7;intro R a w next Q p l
 have o3:fn.name≠ "runtime.NumGoroutine" :=by simpa using acR
 have ku:fn.body≠none:=by intro e;simp[e] at acS
 obtain⟨us,acK,HT⟩:=(acV▸p.get G6).G5;have xx:(execOp a.eval o).run K.P w= .ok (.enter f (xs.map a.eval++us)) w:=by
  simp[execOp,eu,resolve,Deferred.ofValue,acK,invoke,callFunc,acQ,o3,ku]
 unfold Oper.wp;rw[xx,Oper.upon_enter];let z:Map:=jf L R;let hW:Nat->Prop:=λb=>own K R s.H b/\ ¬ ∃k,At z k b;have jx: ∀k g b,z k=some (some b,g)-> ∃id,L[k]? =some id/\R id=some (some b,g):=by
  intro k g b h;cases l:L[k]? with
  |none=>simp[z,jf,l] at h
  |some id=>simp[z,jf,l] at h;exact⟨id,rfl,h⟩
 have U: ∀k b,At z k b-> ∃id,L[k]? =some id/\At R id b:=by
  rintro k b (⟨g,h⟩|⟨id,m,y⟩)
  ·obtain⟨id,m,y⟩:=jx k g b h;exact⟨id,m,.inl ⟨g,y⟩⟩
  exact⟨id,m,.inr y⟩
 have acB: ∀(k id:Nat),L[k]? =some id->s.H id≠none:=by
  intro k id l;have hlt:k<gG.length:=by rw[sd];exact(bS.1 l).1
  obtain⟨D,m,y,_⟩:=hH k _ (bs hlt);rw[l] at m;cases m;rw[y];simp
 have X: ∀k b,At z k b->own K R s.H b:=by
  intro k b h;obtain⟨id,m,y⟩:=U k b h;exact .inr ⟨id,acB k id m,y⟩
 have PN: ∀b,lP hW z (eT gG 0) b->own K R s.H b:=by
  rintro b (h|⟨k,_,y⟩)
  ·exact h.1
  exact X k b y
 have Hd: ∀k b,At z k b->K.M b\/K.w0.heap.size<=b:=by
  intro k b h;obtain⟨id,m,y⟩:=U k b h;exact(p.fresh id b y).1
 have xy: ∀b,own K R s.H b->b<w.heap.size:=by
  rintro b (Y|⟨id,_,a'⟩)
  ·exact lV (p.iu b Y).1 p.ext.size
  exact(p.fresh id b a').2
 have ado:L.Nodup:=(List.nodup_append.1 N).1;have ac3:y9 K.G gG z w hW:=by
  refine⟨?_,?_,?_,?_,?_⟩
  ·intro k l;rw[sd] at l;simp[z,jf,List.getElem?_eq_none l]
  ·rintro k b l ⟨id,m,_⟩;rw[sd] at l;rw[q8 l] at m;cases m
  ·intro k b1 b h mf;obtain⟨id,m,y⟩:=U k b h;obtain⟨D,ack,h2'⟩:=U b1 b mf;have he:=p.inj id D b y h2';subst he;have l:=(bS.1 m).1;exact EP ado m ack
  ·intro k b B;refine⟨xy b (X k b B),λY=>Y.2 ⟨k,B⟩,?_⟩;rcases Hd k b B with A|A
   ·exact p.og b A
   exact gw p.n0.1 A
  intro k e he;obtain⟨id,m,y,h4⟩:=hH k e he;have hF:=cG.pD (p.heap id _ y).2 m h4;exact hF.mono (Ext.refl _ _) (λb _=>PN b) (du.refl _) (λ_ h=>h) (Shaped.refl _ _) λ_ _=>rfl
 have acF:=(dv.pD (((p.nZ xs.toList).app HT).le bI) cD).mono (Ext.refl _ _) (λb _=>PN b) (du.refl _) (Shaped.refl _ _);have bP:=h w hW z _ p.BC (λb a'=>xy b a'.1) ac3 acF;have he:(List.map a.eval xs.toList++us.toList).toArray=xs.map a.eval++us:=by rw[<-vw,<-Array.toList_append]
 rw[he] at bP;refine bP.mono ?_;rintro e w' ⟨u,i,I,rfl,ad4,d⟩;let C:=L++news;let t:Map:=⟨k8 R C I,λid b=>(id∉C/\R.n id b)\/ ∃k,C[k]? =some id/\I.n k b⟩
 let s2:=s.after C (F i);have adg: ∀k,k<L.length->C[k]? =L[k]? :=λk l=>gL l;have W: ∀id,id∈C-> ∃k:Nat,C[k]? =some id/\k<(F i).length:=by
  intro id hid;obtain⟨k,l,e⟩:=List.mem_iff_getElem.1 hid;exact⟨k,bS.2 ⟨l,e⟩,by rw[HI];exact l⟩
 have vW: ∀id,id∉C->t id=R id:=λid h=>ng h;have y8: ∀k id,C[k]? =some id->t id=I k:=λk id h=>od N h;have Jn: ∀k id,k<L.length->C[k]? =some id->(I k=R id)\/ ∃q g u9 lC,R id=some (q,g)/\1<=g/\I k=some (u9,lC)/\g<lC/\ ∀b,u9=some b->q=some b\/w.heap.size<=b:=by
  intro k id l h;have a':=d.base k (by rw[sd];exact l);rw[adg k l] at h;have e:z k=R id:=by simp[z,jf,h]
  rw[e] at a';exact a'
 have PK: ∀k id,L.length<=k->C[k]? =some id->id∈news:=by
  intro k id l h;rw[gX l] at h;exact bE h
 have Jo:du R t:=by
  intro id q g Y;by_cases hid:id∈C
  ·obtain⟨k,l,_⟩:=W id hid;by_cases T:k<L.length
   ·rw[y8 k id l];rcases Jn k id T l with e|⟨k',g1,u9,lC,aK,a2,a3,a4,_⟩
    ·exact .inl (e.trans Y)
    rw[Y] at aK;cases aK;exact .inr ⟨a2,u9,lC,a3,a4⟩
   have:=p.dK id (qq id (PK k id O l));rw[this] at Y;cases Y
  exact .inl (by rw[vW id hid];exact Y)
 have acy: ∀k id,C[k]? =some id->s2.H id=((F i)[k]?).map (E.dt C):=λk id h=>od N h;have Pp: ∀id,id∉C->s2.H id=s.H id:=λid h=>ng h;have BP: ∀id b,id∉C->At R id b-> ¬ ∃k,At z k b:=by
  rintro id b hid a' ⟨k,h⟩;obtain⟨D,m,y⟩:=U k b h
  have:=p.inj id D b a' y;subst this;exact hid (mJ _ (bE m))
 have BH: ∀id b,At t id b->(id∉C/\At R id b)\/ ∃k,C[k]? =some id/\At I k b:=by
  rintro id b (⟨g,h⟩|⟨m,y⟩|⟨k,m,y⟩)
  ·by_cases hid:id∈C
   ·obtain⟨k,l,_⟩:=W id hid;rw[y8 k id l] at h;exact .inr ⟨k,l,.inl ⟨g,h⟩⟩
   rw[vW id hid] at h;exact .inl ⟨hid,.inl ⟨g,h⟩⟩
  ·exact .inl ⟨m,.inr y⟩
  exact .inr ⟨k,m,.inr y⟩
 have hO: ∀b,own K t s2.H b->lP hW I (eT (F i) 0) b:=by
  rintro b (Y|⟨id,m,y⟩)
  ·refine .inl ⟨.inl Y,?_⟩;rintro⟨k,B⟩;rcases Hd k b B with A|A
   ·exact(p.iu b Y).2 A
   have:=(p.iu b Y).1;omega
  rcases BH id b y with ⟨hid,h2'⟩|⟨k,l,B⟩
  ·rw[Pp id hid] at m;exact .inl ⟨.inr ⟨id,m,h2'⟩,BP id b hid h2'⟩
  have T:k<(F i).length:=by rw[HI];exact(bS.1 l).1
  refine .inr ⟨k,?_,B⟩;rw[yr,bs T];simp
 have af1: ∀k b,At I k b->k<(F i).length:=by
  rintro k b (⟨g,h⟩|h)
  ·apply s3;intro hle;rw[d.dK k hle] at h;cases h
  exact s3 λhle=>d.ec k b hle h
 have Pr: ∀b,b<w.heap.size->own K t s2.H b->own K R s.H b:=by
  intro b Pv a';rcases hO b a' with m|⟨k,_,B⟩
  ·exact m.1
  rcases(d.fresh k b B).1 with ⟨b1,_,A⟩|A
  ·exact X b1 b A
  omega
 have Pn:Ext (own K R s.H) w w':=d.ext.weaken λb _ ⟨k,B⟩=>X k b B;have Pu:Shaped R w w':=λb a'=>d.iM b a';have PS: ∀k x,I k=some x->t (C.getD k 0)=some x:=by
  intro k x Y;have hlt:k<(F i).length:=by
   apply s3;intro hle;rw[d.dK k hle] at Y;cases Y
  rw[HI] at hlt;have bN:C[k]? =some C[k]:=bs hlt;rw[ew,bN];exact(y8 k _ bN).trans Y
 have hold: ∀k b,At I k b->(∃id,id∈C/\At R id b)\/w.heap.size<=b:=by
  intro k b a';rcases(d.fresh k b a').1 with ⟨b1,A,h4⟩|A
  ·obtain⟨D,e1,e2⟩:=U b1 b h4;exact .inl ⟨D,mJ _ (bE e1),e2⟩
  exact .inr A
 have hrel:Rel K t s2 a w':=by
  refine {p with ext:= ?_,base:= ?_,iM:= ?_,low:= ?_,dK:= ?_,ec:= ?_,inj:= ?_,fresh:= ?_,heap:= ?_,cZ:= ?_}
  ·refine p.ext.trans' (d.ext.weaken ?_);rintro b _ ⟨k,B⟩ ⟨m,y⟩;rcases Hd k b B with A|A
   ·exact y A
   omega
  ·refine p.base.more λid hid=>?_;by_cases v:id∈C
   ·obtain⟨k,l,_⟩:=W id v;by_cases T:k<L.length
    ·rw[y8 k id l];rcases Jn k id T l with e|⟨q,g,u9,lC,aK,a2,a3,a4,a5⟩
     ·exact .inl e
     exact .inr ⟨q,g,u9,lC,aK,a2,a3,a4,λb a'=>by
      rcases a5 b a' with c|c
      ·exact .inl c
      exact .inr (gw p.ext.size c)⟩
    have m:=qq id (PK k id O l);rw[p.low id hid] at m;cases m
   exact .inl (vW id v)
  ·intro b A;exact(d.iM b (lV A p.ext.size)).trans (p.iM b A)
  ·intro id hid;by_cases v:id∈C
   ·obtain⟨k,l,_⟩:=W id v;exact od (f:=s.u) (g:=λ_=>true) N l
   exact(ng v).trans (p.low id hid)
  ·intro id hid;by_cases v:id∈C
   ·obtain⟨k,l,_⟩:=W id v
    have:s2.u id=true:=od (f:=s.u) (g:=λ_=>true) N l;rw[this] at hid;cases hid
   rw[vW id v];exact p.dK id ((ng (f:=s.u) (g:=λ_=>true) v).symm.trans hid)
  ·rintro id b hid (⟨m,y⟩|⟨k,l,y⟩)
   ·exact p.ec id b ((ng (f:=s.u) (g:=λ_=>true) m).symm.trans hid) y
   have:s2.u id=true:=od (f:=s.u) (g:=λ_=>true) N l;rw[this] at hid;cases hid
  ·intro id D b m y;rcases BH id b m with ⟨m1,aK⟩|⟨k,l,aK⟩<;>rcases BH D b y with ⟨m2,a2⟩|⟨b1,o1,a2⟩
   ·exact p.inj id D b aK a2
   ·rcases hold b1 b a2 with ⟨xF,A,h4⟩|A
    ·have:=p.inj id xF b aK h4;subst this;exact bB A m1
    have:=(p.fresh id b aK).2;omega
   ·rcases hold k b aK with ⟨xF,A,h4⟩|A
    ·have:=p.inj D xF b a2 h4;subst this;exact bB A m2
    have:=(p.fresh D b a2).2;omega
   have:=d.inj k b1 b aK a2;subst this;rw[l] at o1;cases o1;rfl
  ·intro id b m;rcases BH id b m with ⟨_,aK⟩|⟨k,l,aK⟩
   ·exact⟨(p.fresh id b aK).1,lV (p.fresh id b aK).2 d.ext.size⟩
   refine⟨?_,(d.fresh k b aK).2⟩;rcases hold k b aK with ⟨xF,_,A⟩|A
   ·exact(p.fresh xF b A).1
   exact .inr (gw p.ext.size A)
  ·intro id e he;by_cases v:id∈C
   ·obtain⟨k,l,T⟩:=W id v;refine⟨od (f:=s.u) (g:=λ_=>true) N l,?_⟩;rw[acy k id l,bs T] at he;simp at he;subst he;exact cG.dt (d.heap k _ (bs T)) l PS hO (λb=>⟨λh=>by
     rcases h with ⟨m,_⟩|⟨b1,m,y⟩
     ·exact bB v m
     have:=EP N m l;subst this;exact y,λh=> .inr ⟨k,l,h⟩⟩)
   rw[Pp id v] at he;obtain⟨m,y⟩:=p.heap id e he;refine⟨(ng (f:=s.u) (g:=λ_=>true) v).trans m,?_⟩;exact y.mono Pn Pr Jo (λx Y=>by rw[vW id v];exact Y) Pu (λb a'=>d.ext.keep b (p.fresh id b a').2 (BP id b v a')) (λb=>⟨λh=>by
    rcases h with ⟨_,h⟩|⟨b1,m,_⟩
    ·exact h
    exact bB (bE m) v,λh=> .inl ⟨v,h⟩⟩)
  intro j;exact(p.cZ j).mono Pn Pr Jo Pu
 exact l i ad4 t _ w' (hrel.put o.dst cv ((d.res.dt PS).mono (Ext.refl _ _) (λb _=>hO b) (du.refl _) (Shaped.refl _ _)))
end
section
variable {K:Ctx} {s:S} {d:Option Tmp} {ty:TypeId} {pos:String} {af:Array Edge} {g:Option (Nat×Bool)} {f:FuncId} {xs:Array Operand} {QX:Array TypeId} {args:List V} {ι:Type} {l1:ι->Prop} {r:ι->V} {out:ι->List E}
theorem Eb.j{o:Oper}{u:Unit->Prop}{c:Unit->S}(h:Eb K o s u c):dT K o s (c ()):=
 λβ a w next Q e i=>h β a w next Q e λ_ _=>i
variable {ops:Array Oper} {rest:List Oper} {Q:S->Prop} {op:Op}
end
theorem Uk(a b:Nat)(c:a<9223372036854775808)(e:b<9223372036854775808):bits .xor .i64 (a:Int) (b:Int)=((a ^^^ b:Nat):Int):=by have h:a ^^^ b<2^63:=Nat.xor_lt_two_pow O O;show IntKind.i64.wrap ((BitVec.ofInt 64 (a:Int) ^^^ BitVec.ofInt 64 (b:Int)).toNat:Int)=_;rw[BitVec.toNat_xor,ofInt_u64 a O,ofInt_u64 b O];exact IntWalk.i64_in _ O
section
variable {P:Program} {H:Nat->Option E} {d:Option Tmp} {ty:TypeId} {pos:String} {af:Array Edge} {g:Option (Nat×Bool)}
theorem M9(n:Int):IntKind.u8.wrap n=((UInt8.ofInt n).toNat:Int):=by
 have:IntKind.u8.wrap n=n%256:=by simp[IntKind.wrap,IntKind.bits,IntKind.signed]
 rw[this];simp[UInt8.ofInt];omega
theorem Z'(a b:UInt8):IntKind.u8.wrap ((a.toNat:Int)-(b.toNat:Int))=((a-b).toNat:Int):=by rw[M9];congr 2;apply UInt8.toNat_inj.1;have c:=UInt8.toNat_lt a;have e:=UInt8.toNat_lt b;simp[UInt8.ofInt,UInt8.toNat_sub];omega
theorem Uc(x:Operand)(c k e:TypeId)(l:List UInt8)(B:P.underlying c=some (.slice e))(C:P.underlying e=some (.int .u8))(D:P.underlying k=some .string):
  b9 P H ⟨d,.convert c k x,ty,pos,af,g⟩ [Q1 (l.map ns)] (bD l):=by
 intro j w X F _ u;refine⟨.string ⟨l.toArray⟩,?_,.t _ _ (.str l)⟩;have L:bn j w X (Q1 (l.map ns)) (F x):=u.1;simp only[execOp];suffices (convert c k (F x)).run P w= .ok (.string ⟨l.toArray⟩) w by
  simp only[Sem.run_bind,this,Result.andThen_ok,Sem.run_pure]
 generalize F x=y at L⊢;cases L with
 |t _ _ h=>
  generalize Q:l.map ns=R at h;cases h with
  |fS a m=>
   have p:l=[]:=by simpa using Q
   subst p;rw[run_convert_bytes_string w c k e _ _ _ B C D];cases a with
   |none=>simp[Conv.bytesToString];rfl
   |some a=>
    rw[run_bytesToString w a 0 m [] (by simp[loadCells,loadCellsFrom,Sem.run_pure])];rfl
  |aE _ b n r m f N S U G v I=>
   subst Q;cases p:l with
   |nil=>
    subst p
    have:=run_convert_bytes_arg (P:=P) w c e B C b n 0 m [] rfl (λi W=>O) k D;exact this
   |cons y T=>
    rw[<-p];have o:r=1:=by
     have:=G (ns y) (by rw[p];simp);simpa using this.symm
    subst o;have M: ∀(i:Nat) (z:UInt8),l[i]? =some z->f i 0= .int .u8 (z.toNat:Int):=by
     intro i z s;have Y:=I i 0 (ns z) (.int .u8 (z.toNat:Nat)) (by rw[ev,s];rfl) rfl;generalize f i 0=q at Y⊢;cases Y;rfl
    have:=run_convert_bytes_arg (P:=P) w c e B C b n (l.map ns).length m (l.map λz=>(z.toNat:Int)) aW (λi W=>by
     have A:i<l.length:=by simpa using W
     have s:l[i]? =some l[i]:=bs A;have K:=v i 0 (by simpa using A) O;rw[M i _ s] at K;rw[show n+i*1+0=n+i by omega] at K;rw[K];simp[List.getD_eq_getElem?_getD,s]) k D
    rw[this];congr 2;simp only[strOfNums,List.map_map];congr 2;apply List.ext_getElem?;intro i;rw[ev];cases s:l[i]? with
    |none=>rfl
    |some z=>simp
end
section
variable {K:Ctx} {s:S} {d:Option Tmp} {ty:TypeId} {pos:String} {af:Array Edge} {g:Option (Nat×Bool)}
variable {t:TypeId} {u:TypeDesc} {z:Value} {size bytes:Nat}
theorem Yv(k:Nat)(r:s.u k=false)(e:TypeId)(y: ∀i,d=some i->Nat.blt i K.nt=true)(A:K.P.underlying t=some (.slice e))(B:cd K.P e u z size bytes):
  dT K ⟨d,.buildSlice t 0 #[],ty,pos,af,g⟩ s ((s.new k (.arr e 1 size [])).put d (.bc k 1 size 0 0)):=by
 intro p a w next Q C m
 have c:(execOp a.eval ⟨d,.buildSlice t 0 #[],ty,pos,af,g⟩).run K.P w= .ok (.value (.slice (some ⟨w.heap.size,0,none⟩) 0 0)) (w.alloc (.cells #[] e)):=by
  simp only[execOp,Instr.buildSlice,Sem.run_bind,run_underlying A,Result.andThen_ok,B.run_sizeOf,Nat.zero_mul,show¬(0>2^24) by decide,if_false,if_true];simp only[Instr.fill,Sem.run_bind,Sem.run_pure,Result.andThen_ok,show Array.range 0= #[] from by simp[Array.range],List.map_toArray,List.map_nil];rfl
 unfold Oper.wp;rw[c];have l:=C.new k 1 r #[] e (.arr e 1 size []) λD R U F G I=>⟨cO _,Or.inr ⟨w.heap.size,_,G,by subst F;exact jr _ _,aW,λ_ h=>by simp at h,λi j L x u h=>by simp at h⟩⟩
 have n:(w.alloc (.cells #[] e)).heap.size=w.heap.size+1:=World.size_alloc ..;have o:(w.alloc (.cells #[] e)).shape? w.heap.size=some (e,0):=by unfold World.shape?;rw[jr];simp
 have q:bn (p.put k (some (some w.heap.size,1))) (w.alloc (.cells #[] e)) (own K (p.put k (some (some w.heap.size,1))) (s.new k (.arr e 1 size [])).H) (.bc k 1 size 0 0)
   (.slice (some ⟨w.heap.size,0*size,none⟩) 0 0):= .bc k 1 size 0 0 0 w.heap.size 0 e (cO _) (bW _ _ _) (n▸mL _) o aW (cO _) (by unfold maxLen;omega)
 rw[f'] at q;exact m _ _ _ (l.put d y q)
end
def GO:Option TypeDesc->Bool
 |some (.int .i64)=>true
 |_=>false
theorem YA{o:Option TypeDesc}(h:GO o=true):o=some (.int .i64):=by
 unfold GO at h;split at h
 ·rfl
 cases h
def vm(P:Program):List Field->Nat->Bool
 | [],_=>true
 |f::a,i=>f.name != "_" &&GO (P.underlying f.type)&&Nat.beq f.offset i&&vm P a (i+1)
theorem Il{P:Program}{w:World}{xs ys:Array Value}: ∀(a:List Field) (i:Nat) (ms c:List Int),vm P a i=true->ms.length=a.length->c.length=a.length->
  (∀(j:Nat) m,ms[j]? =some m->xs[i+j]? =some (.int .i64 m))->(∀(j:Nat) m,c[j]? =some m->ys[i+j]? =some (.int .i64 m))->
  (Op.eqFields 9999 xs ys a).run P w= .ok (decide (ms=c)) w
 | [],i,ms,c,_,e,h,_,_=>by
  have B:ms=[]:=by simpa using e
  have C:c=[]:=by simpa using h
  subst B;subst C;simp[Op.eqFields]
 |f::a,i,[],c,_,e,_,_,_=>by simp at e
 |f::a,i,m::ms,[],_,_,h,_,_=>by simp at h
 |f::a,i,m::ms,n::c,x,e,h,y,z=>by
  simp only[vm,Bool.and_eq_true] at x;obtain⟨⟨⟨D,l⟩,eu⟩,F⟩:=x;have l:=YA l;have eu:=cM eu;have o:f.name≠ "_" :=by simpa using D
  have A: ∀(cs:Array Value) (v:Value),cs[i]? =some v->(part f.type cs f.offset).run P w= .ok v w:=by
   intro cs v G;rw[eu];simp[part,isAgg,run_underlying l,G]
  have p:=y 0 m rfl;have r:=z 0 n rfl;have I:=Il (P:=P) (w:=w) a (i+1) ms c F (by simpa using e) (by simpa using h)
   (λj q s=>by rw[show i+1+j=i+(j+1) by omega];exact y (j+1) q (by simpa using s))
   λj q s=>by rw[show i+1+j=i+(j+1) by omega];exact z (j+1) q (by simpa using s)
  simp only[Op.eqFields,o,ne_eq,not_false_eq_true,if_true,Sem.run_bind,A xs _ p,A ys _ r,Result.andThen_ok,run_equalIn_int w 9998 f.type .i64 .i64 m n l];by_cases k:m=n
  ·subst k;simp[I]
  simp[k]
section
variable {P:Program} {H:Nat->Option E} {d:Option Tmp} {ty:TypeId} {pos:String} {af:Array Edge} {g:Option (Nat×Bool)}
theorem Aw{D:Map}{w:World}{X:Nat->Prop}{e:List Int}{u:Value}(h:bn D w X (.agg (e.map aa)) u): ∃a:Array Value,u= .agg a/\ ∀(j:Nat) m,e[j]? =some m->a[j]? =some (.int .i64 m):=by
 cases h with
 |agg _ a n o=>
  refine⟨a,rfl,λj m i=>?_⟩;have c:j<a.size:=by
   rw[n,c5];exact(bS.1 i).1
  have k:a[j]? =some a[j]:=ht c;have l:=o j (aa m) _ (by rw[ev,i];rfl) k;rw[k];generalize a[j]=q at l;cases l with|t _ _ h=>cases h;rfl
theorem U9(x y:Operand)(t r:TypeId)(a c:List Int)(s:P.underlying t=some (.struct (P.fieldsOf t)))(z:P.stoodInHeld t=false)(A:P.eqGuardType P.depth t=false)
  (B:vm P (P.fieldsOf t).toList 0=true) (e:Nat.beq a.length (P.fieldsOf t).size=true) (h:Nat.beq c.length (P.fieldsOf t).size=true):
  b9 P H ⟨d,.binOp .neq t x y r,ty,pos,af,g⟩ [.agg (a.map aa),.agg (c.map aa)] (aM (!decide (a=c))):=by
 intro D w X p _ q;obtain⟨i,k,eO⟩:=Aw q.1;obtain⟨l,n,cE⟩:=Aw q.2.1;refine⟨.bool (!decide (a=c)),?_,.t _ _ (.bool _)⟩;have e:=cM e;have h:=cM h;have C:=Il (P:=P) (w:=w) (xs:=i) (ys:=l) (P.fieldsOf t).toList 0 a c B (by simpa using e) (by simpa using h) (λj m o=>by simpa using eO j m o) λj m o=>by simpa using cE j m o
 have k:p x=_:=k;have n:p y=_:=n;simp only[execOp,k,n,Sem.run_bind,run_eqGuard_agg w .neq t x y i l A,Result.andThen_ok,run_neq_struct,run_equalIn_struct w 9999 t i l s z,C,Sem.run_pure]
theorem Vf(x y:Operand)(t r:TypeId)(a c:List Int)(s:P.underlying t=some (.struct (P.fieldsOf t)))(z:P.stoodInHeld t=false)(A:P.eqGuardType P.depth t=false)
  (B:vm P (P.fieldsOf t).toList 0=true) (e:Nat.beq a.length (P.fieldsOf t).size=true) (h:Nat.beq c.length (P.fieldsOf t).size=true):
  b9 P H ⟨d,.binOp .eql t x y r,ty,pos,af,g⟩ [.agg (a.map aa),.agg (c.map aa)] (aM (decide (a=c))):=by
 intro D w X p _ q;obtain⟨i,k,eO⟩:=Aw q.1;obtain⟨l,n,cE⟩:=Aw q.2.1;refine⟨.bool (decide (a=c)),?_,.t _ _ (.bool _)⟩;have e:=cM e;have h:=cM h;have C:=Il (P:=P) (w:=w) (xs:=i) (ys:=l) (P.fieldsOf t).toList 0 a c B (by simpa using e) (by simpa using h) (λj m o=>by simpa using eO j m o) λj m o=>by simpa using cE j m o
 have k:p x=_:=k;have n:p y=_:=n;simp only[execOp,k,n,Sem.run_bind,run_eqGuard_agg w .eql t x y i l A,Result.andThen_ok,run_eql_struct,run_equalIn_struct w 9999 t i l s z,C,Sem.run_pure]
end
def zI(P:Program)(t:TypeId)(n:Nat):Prop:=P.underlying t=some (.struct (P.fieldsOf t))/\P.stoodInHeld t=false/\P.eqGuardType P.depth t=false/\vm P (P.fieldsOf t).toList 0=true/\(P.fieldsOf t).size=n
section
variable {P:Program} {H:Nat->Option E} {d:Option Tmp} {ty:TypeId} {pos:String} {af:Array Edge} {g:Option (Nat×Bool)}
theorem WN(x y:Operand)(t l:TypeId){n:Nat}(i k:List Int)(h:zI P t n)(m:Nat.beq i.length n=true)(o:Nat.beq k.length n=true):
  b9 P H ⟨d,.binOp .neq t x y l,ty,pos,af,g⟩ [.agg (i.map aa),.agg (k.map aa)] (aM (!decide (i=k))):=by obtain⟨a,b,c,e,f⟩:=h;exact U9 x y t l i k a b c e (by rw[f];exact m) (by rw[f];exact o)
theorem WQ(x y:Operand)(t l:TypeId){n:Nat}(i k:List Int)(h:zI P t n)(m:Nat.beq i.length n=true)(o:Nat.beq k.length n=true):
  b9 P H ⟨d,.binOp .eql t x y l,ty,pos,af,g⟩ [.agg (i.map aa),.agg (k.map aa)] (aM (decide (i=k))):=by obtain⟨a,b,c,e,f⟩:=h;exact Vf x y t l i k a b c e (by rw[f];exact m) (by rw[f];exact o)
end
inductive Em where
 |bool
 |int (k:IntKind)
 |string
 |slice (e:Nat)
 |array (n e:Nat)
 |struct (ahn:List (Nat×Nat))
 |P1
 |other
structure cj where
 u:Em
 z:Value
 size:Nat
 bytes:Nat
 places:Array (Nat×Nat)
def Em.agg:Em->Bool
 | .struct _=>true
 | .array _ _=>true
 |_=>false
def cj.is(P:Program)(i:cj)(u:TypeDesc):Prop:=match i.u with
 | .bool=>u= .bool
 | .int k=>u= .int k
 | .string=>u= .string
 | .slice e=>u= .slice e
 | .array n e=>u= .array n e
 | .struct l=> ∃a,u= .struct a/\a.toList.map (λf=>(f.type,f.offset))=l/\ ∀w,(a.mapM (m:=Sem) λf:Field=>do pure (f.offset,<-sizeOf f.type)).run P w= .ok i.places w
 | .P1=> ∃m,u= .interface m
 | .other=>km u=false
def cj.ok(P:Program)(t:TypeId)(i:cj):Prop:= ∃u,cd P t u i.z i.size i.bytes/\i.is P u
variable {P:Program}{t:TypeId}{i:cj}{a b n:Int}{k R:Type}{x:k}{r l:List k}
theorem cj.ok.agg(h:i.ok P t): ∃u,cd P t u i.z i.size i.bytes/\km u=i.u.agg:=by
 obtain⟨u,e,c⟩:=h;refine⟨u,e,?_⟩;unfold cj.is at c;split at c
 ·rename_i a;rw[a,c];rfl
 ·rename_i a;rw[a,c];rfl
 ·rename_i a;rw[a,c];rfl
 ·rename_i a;rw[a,c];rfl
 ·rename_i a;rw[a,c];rfl
 ·rename_i a;rw[a];obtain⟨k,d,_⟩:=c;rw[d];rfl
 ·rename_i a;rw[a];obtain⟨m,d⟩:=c;rw[d];rfl
 rename_i a;rw[a,c];rfl
theorem cj.ok.ig(h:i.ok P t):(i.u= .bool->P.underlying t=some .bool)/\(∀k,i.u= .int k->P.underlying t=some (.int k))/\(i.u= .string->P.underlying t=some .string)/\
  ∀e,i.u= .slice e->P.underlying t=some (.slice e):=by obtain⟨u,d,c⟩:=h;refine⟨λa=>?_,λk a=>?_,λa=>?_,λe a=>?_⟩<;>simp only[cj.is,a] at c<;>rw[<-c]<;>exact d.1
theorem cj.ok.st{l:List (Nat×Nat)}(h:i.ok P t)(d:i.u= .struct l): ∃a,cd P t (.struct a) i.z i.size i.bytes/\a.toList.map (λf=>(f.type,f.offset))=l/\ ∀w,(a.mapM (m:=Sem) λf:Field=>do pure (f.offset,<-sizeOf f.type)).run P w= .ok i.places w:=by obtain⟨u,e,c⟩:=h;simp only[cj.is,d] at c;obtain⟨a,rfl,k,n⟩:=c;exact⟨a,e,k,n⟩
def dy:List (Nat×cj)->Nat->Option cj
 | [],_=>none
 |(t,i)::l,k=>bif Nat.beq t k then some i else dy l k
def dU(P:Program)(a:List (Nat×cj)):Prop:= ∀t i,dy a t=some i->i.ok P t
theorem dU.nil:dU P []:=λ_ _ h=>by cases h
theorem dU.cons{a:List (Nat×cj)}{t:Nat}(h:i.ok P t)(e:dU P a):dU P ((t,i)::a):=by
 intro k j c;simp only[dy] at c;cases d:Nat.beq t k with
 |true=>rw[d] at c;cases c;rw[<-cM d];exact h
 |false=>rw[d] at c;exact e k j c
inductive ct where
 |row (r:List T)
 |rows (r:List (List T))
 |str (s:List UInt8)
 |int (n:Int)
 |nat (n:Nat)
 |b (w:Bool)
 |y (b:UInt8)
 |v (v:V)
 |ja (slot k:Nat)
 |r4 (cZ:List Nat) (k:Nat)
 |grow (slot k:Nat) (e:TypeId)
 |j8 (k:Nat)
 |BA (b j k:Nat)
 |et (b j k:Nat) (e:TypeId)
 |afl (i k g:Nat)
 |afk (b j k g:Nat)
 |len (slot n:Nat)
 |eD (b j n:Nat)
 |r3 (k:Nat) (cZ:List Nat)
 |bh (k:Nat) (cZ blocks:List Nat)
 |ed (k b1:Nat) (cZ blocks:List Nat)
 |at (rem:Nat)
 |dt (slot k b1:Nat)
 |dI (L news:List Nat) (r:V) (out:List E)
 |dS (k:Nat) (fo:List dQ) (m:Nat)
 |db (k:Nat)
 |dV (k b1 i j:Nat) (row:List T)
 |dm (k b1:Nat) (row:List T) (R:List (List T))
 |lt (k:Nat) (fo:List dQ) (m:Nat)
 |Pd (k i j:Nat) (row:List T)
 |C6 (k:Nat) (row:List T) (R:List (List T))
 |BD (i j k:Nat) (e:TypeId)
 |cut (k n:Nat) (R:List (List T))
inductive df where
 |p (p:Prop)
 |q (a b:Nat)
def ch:List df->Prop
 | []=>True
 | .p p::l=>p/\ch l
 | .q a b::l=>a=b/\ch l
def x4:List df->Prop
 | []=>True
 | .p p::l=>p/\x4 l
 | .q _ _::l=>x4 l
def u2:List df->List Nat
 | []=>[]
 | .p _::l=>u2 l
 | .q a _::l=>a::u2 l
def u3:List df->List Nat
 | []=>[]
 | .p _::l=>u3 l
 | .q _ b::l=>b::u3 l
theorem ch.of: ∀{l:List df},x4 l->u2 l=u3 l->ch l
 | [],_,_=>trivial
 | .p _::_,h,k=>⟨h.1,ch.of h.2 k⟩
 | .q _ _::_,h,k=>by simp only[u2,u3,List.cons.injEq] at k;exact⟨k.1,ch.of h k.2⟩
theorem ch.app: ∀{l m:List df},ch (l++m)->ch l/\ch m
 | [],_,h=>⟨trivial,h⟩
 | .p _::_,_,h=>⟨⟨h.1,(ch.app h.2).1⟩,(ch.app h.2).2⟩
 | .q _ _::_,_,h=>⟨⟨h.1,(ch.app h.2).1⟩,(ch.app h.2).2⟩
def au{k:Type}(l:List k)(i:Int):Option k:=if 0<=i then l[i.toNat]? else none
def sub{k:Type}(l:List k)(a b:Int):Option (List k):=if 0<=a/\a<=b/\b<=l.length then some ((l.take b.toNat).drop a.toNat) else none
def cat(a b:List UInt8):Option (List UInt8):=if(a.length:Int)+b.length<=9223372036854775807 then some (a++b) else none
def app{k:Type}(a b:List k):Option (List k):=if a.length+b.length<=1000000000 then some (a++b) else none
def mk{k:Type}(n:Int)(x:k):Option (List k):=if 0<=n/\n<=1000000000 then some (List.replicate n.toNat x) else none
def b'{k:Type}(l:List k)(i:Int)(x:k):Option (List k):=if 0<=i/\i<l.length then some (l.set i.toNat x) else none
def wr(n:Int):Int:=IntKind.i64.wrap n
theorem mw{i:Int}(h:au l i=some x):0<=i/\l[i.toNat]? =some x:=by
 unfold au at h;split at h
 ·exact⟨‹_›,h⟩
 cases h
theorem Od{i:Int}(f:k->R)(h:au l i=some x):au (l.map f) i=some (f x):=by obtain⟨a,c⟩:=mw h;unfold au;rw[a1 a,ev,c];rfl
theorem zL(h:sub l a b=some r):0<=a/\a<=b/\b<=l.length/\r=(l.take b.toNat).drop a.toNat:=by
 unfold sub at h;split at h
 ·rename_i c;cases h;exact⟨c.1,c.2.1,c.2.2,rfl⟩
 cases h
theorem q3(f:k->R)(h:sub l a b=some r):sub (l.map f) a b=some (r.map f):=by obtain⟨c,d,e,rfl⟩:=zL h;unfold sub;rw[a1 ⟨c,d,by simpa using e⟩,List.map_drop,tb]
theorem vO{a b:List k}(h:app a b=some r):a.length+b.length<=1000000000/\r=a++b:=by
 unfold app at h;split at h
 ·cases h;exact⟨‹_›,rfl⟩
 cases h
theorem b8{a b:List k}(f:k->R)(h:app a b=some r):app (a.map f) (b.map f)=some (r.map f):=by obtain⟨c,rfl⟩:=vO h;unfold app;rw[a1 (by simpa using c),fU]
theorem pw(h:mk n x=some r):0<=n/\n<=1000000000/\r=List.replicate n.toNat x:=by
 unfold mk at h;split at h
 ·rename_i a;cases h;exact⟨a.1,a.2,rfl⟩
 cases h
theorem tA(f:k->R)(h:mk n x=some r):mk n (f x)=some (r.map f):=by obtain⟨a,c,rfl⟩:=pw h;unfold mk;rw[a1 ⟨a,c⟩,List.map_replicate]
theorem sJ{i:Int}(h:b' l i x=some r):0<=i/\i<l.length/\r=l.set i.toNat x:=by
 unfold b' at h;split at h
 ·rename_i a;cases h;exact⟨a.1,a.2,rfl⟩
 cases h
theorem Y'{a b r:List UInt8}(h:cat a b=some r):(a.length:Int)+b.length<=9223372036854775807/\r=a++b:=by
 unfold cat at h;split at h
 ·cases h;exact⟨‹_›,rfl⟩
 cases h
mutual
def np:V->V
 | .t .fl=> .t (.aE [])
 | .agg cs=> .agg (gJ cs)
 | .bL cs=> .bL (gJ cs)
 | .t (.aE r)=> .t (.aE r)
 | .t (.int k n)=> .t (.int k n)
 | .t (.bool b)=> .t (.bool b)
 | .t (.str s)=> .t (.str s)
 |v=>v
def gJ:List V->List V
 | []=>[]
 |c::cs=>np c::gJ cs
end
mutual
theorem tx: ∀v:V,dB v (np v)
 | .t .fl=>dB.nil
 | .t (.aE _)| .t (.int _ _)| .t (.bool _)| .t (.str _)| .t .hi| .t .gu| .t .nn| .t .err=>dB.refl _
 | .agg cs=>dB.agg (lQ cs)
 | .bL cs=>dB.bL (lQ cs)
 | .ref _ _| .aP _| .bc _ _ _ _ _| .cB _ _ _ _ _| .fn _ _| .c4=>dB.refl _
theorem lQ: ∀cs:List V,fp cs (gJ cs)
 | []=>trivial
 |c::cs=>⟨tx c,lQ cs⟩
end
theorem sF: ∀cs:List V,(gJ cs).length=cs.length
 | []=>rfl
 |c::cs=>by simp[gJ,sF cs]
def ua(k:Option Nat):List V->List V
 | [.t .fl]=>match k with
  |some _=>[.t .fl]
  |none=>gJ [.t .fl]
 |vs=>gJ vs
theorem Z4(k:Option Nat)(a:List V):fp a (ua k a):=by
 unfold ua;split
 ·split
  ·exact fp.refl _
  exact lQ _
 exact lQ _
theorem UO(k:Option Nat)(a:List V):(ua k a).length=a.length:=by
 unfold ua;split
 ·split
  ·rfl
  exact sF _
 exact sF _
def yp:V->Option T
 | .t x=>some x
 |_=>none
def ls:List V->Option (List T)
 | []=>some []
 |v::a=>match yp v,ls a with
  |some x,some c=>some (x::c)
  |_,_=>none
theorem ov: ∀{a:List V} {c:List T},ls a=some c->a=c.map .t
 | [],_,h=>by cases h;rfl
 |v::a,c,h=>by
  simp only[ls] at h;split at h
  ·rename_i x i e d;cases h;have d:=ov d;cases v<;>simp[yp] at e;subst e;subst d;rfl
  cases h
def wM:List V->Option (List Int)
 | []=>some []
 | .t (.int .i64 m)::a=>match wM a with
  |some ms=>some (m::ms)
  |none=>none
 |_=>none
theorem yQ: ∀{a:List V} {ms:List Int},wM a=some ms->a=ms.map aa
 | [],_,h=>by cases h;rfl
 |v::a,ms,h=>by
  unfold wM at h;split at h
  ·rename_i c;cases c
  ·rename_i m d c;cases c;split at h
   ·rename_i e i;cases h;rw[yQ i];rfl
   cases h
  cases h
abbrev hz:=Option (V×List df×List ct)
def OJ(a:BinOp)(m n:Int):Option Bool:=
 match a with
 | .eql=>some (decide (m=n))
 | .neq=>some (!decide (m=n))
 | .lss=>some (decide (m<n))
 | .leq=>some (decide (m<=n))
 | .gtr=>some (decide (n<m))
 | .geq=>some (decide (n<=m))
 |_=>none
def Ob(a:BinOp):Bool:=
 match a with
 | .and| .or| .xor| .andNot=>true
 |_=>false
def GH(op:BinOp)(k:IntKind)(m n:Int)(a:List ct):hz:=
 match op with
 | .add=>some (.t (.int k (k.wrap (m+n))),[],a)
 | .sub=>some (.t (.int k (k.wrap (m-n))),[],a)
 | .mul=>some (.t (.int k (k.wrap (m*n))),[],a)
 | .quo=>some (.t (.int k (k.wrap (m.tdiv n))),[.p (n≠0)],a)
 | .rem=>some (.t (.int k (m.tmod n)),[.p (n≠0)],a)
 | .and=>some (.t (.int k (bits .and k m n)),[],a)
 | .or=>some (.t (.int k (bits .or k m n)),[],a)
 | .xor=>some (.t (.int k (bits .xor k m n)),[],a)
 | .andNot=>some (.t (.int k (bits .andNot k m n)),[],a)
 | .shl| .shr=>none
 |op=>match OJ op m n with
  |some b=>some (.t (.bool b),[],a)
  |none=>none
def GB(c:BinOp)(m n:List UInt8)(a:List ct):hz:=
 match c,a with
 | .add,.str r::a=>some (.t (.str r),[.p (cat m n=some r)],a)
 | .eql,a=>some (.t (.bool (decide (m=n))),[],a)
 | .neq,a=>some (.t (.bool (!decide (m=n))),[],a)
 | .geq,a=>some (.t (.bool (!Op.bytesLess m n)),[],a)
 | .lss,a=>some (.t (.bool (Op.bytesLess m n)),[],a)
 | .gtr,a=>some (.t (.bool (!Op.bytesLess m n&& !m==n)),[],a)
 | .leq,a=>some (.t (.bool (Op.bytesLess m n||m==n)),[],a)
 |_,_=>none
def Gt:Option cj->Bool
 |some i=>match i.u with
  | .bool=>true
  |_=>false
 |none=>false
def GM(P:Program)(e:List (Nat×cj))(d:BinOp)(t:TypeId)(v w:V)(a:List ct):hz:=
 match v,w with
 | .t (.int k m),.t (.int h n)=>if k=h then GH d k m n a else none
 | .t (.str m),.t (.str n)=>GB d m n a
 | .t (.bool p),.t (.bool q)=>match Gt (dy e t),d with
  |true,.eql=>some (.t (.bool (p==q)),[],a)
  |true,.neq=>some (.t (.bool (!(p==q))),[],a)
  |_,_=>none
 | .agg cs,.agg i=>match wM cs,wM i,d,a with
  |some ms,some c,.eql,.b b::a=>some (.t (.bool b),[.p (zI P t ms.length),.q c.length ms.length,.p (decide (ms=c)=b)],a)
  |some ms,some c,.neq,.b b::a=>some (.t (.bool (!b)),[.p (zI P t ms.length),.q c.length ms.length,.p (decide (ms=c)=b)],a)
  |_,_,_,_=>none
 |_,_=>none
def GN:Option cj->Bool
 |some i=>match i.u with
  | .P1=>true
  |_=>false
 |none=>false
def pb:Operand->Bool
 | .const _=>true
 |_=>false
def GI(c:List (Nat×cj))(d:BinOp)(t:TypeId)(x y:Operand)(v w:V)(a:List ct):hz:=
 match GN (dy c t),pb x||pb y,v,w,d with
 |true,true,.t .err,.t .gu,.eql=>some (.t (.bool false),[],a)
 |true,true,.t .err,.t .gu,.neq=>some (.t (.bool true),[],a)
 |true,true,.t .gu,.t .gu,.eql=>some (.t (.bool true),[],a)
 |true,true,.t .gu,.t .gu,.neq=>some (.t (.bool false),[],a)
 |_,_,_,_,_=>none
def GS(c:UnOp)(v:V)(a:List ct):hz:=
 match c,v with
 | .not,.t (.bool b)=>some (.t (.bool (!b)),[],a)
 | .neg,.t (.int k n)=>some (.t (.int k (k.wrap (0-n))),[],a)
 |_,_=>none
def Fo(a:List (Nat×cj)):Option cj->Bool
 |some i=>match i.u with
  | .slice e=>match dy a e with
   |some j=>match j.u with
    | .int .u8=>true
    |_=>false
   |none=>false
  |_=>false
 |none=>false
def Gd(d:List (Nat×cj))(e h:TypeId)(v:V)(a:List ct):hz:=
 match dy d e,dy d h with
 |some i,some j=>match j.u,v,a with
  | .int k,.t (.int _ n),.int m::a=>some (.t (.int k m),[.p (k.wrap n=m)],a)
  | .int .u8,.t (.int _ n),.y m::a=>some (.t (.int .u8 (m.toNat:Nat)),[.p (UInt8.ofInt n=m)],a)
  | .string,.t (.aE c),.str l::a=>match Fo d (some i) with
   |true=>some (.t (.str l),[.p (c=l.map ns)],a)
   |false=>none
  |_,_,_=>none
 |_,_=>none
def tE(n:List (Nat×cj))(H:Nat->Option E)(t:TypeId)(v:V)(h:List ct):hz:=
 match dy n t with
 |none=>none
 |some i=>match v with
  | .ref id a=>match H id with
   |some (.cells cs)=>match i.u.agg with
    |true=>match Nat.ble (a+i.size) cs.length with
     |true=>some (.agg ((cs.drop a).take i.size),[],h)
     |false=>none
    |false=>match cs[a]? with
     |some c=>some (c,[],h)
     |none=>none
   |_=>none
  | .aP cs=>match i.u.agg with
   |true=>match Nat.ble i.size cs.length with
    |true=>some (.agg ((cs.take i.size).map .t),[],h)
    |false=>none
   |false=>match cs with
    |c::_=>some (.t c,[],h)
    | []=>none
  | .cB id gen m k a=>match H id,i.u.agg,h with
   |some (.arr _ d l e),false,.row r::h=>match r[a]? with
    |some c=>some (.t c,[.q d gen,.q l m,.p (e[k]? =some r)],h)
    |none=>none
   |some (.arr _ d l e),true,.row r::h=>match Nat.ble (a+i.size) r.length with
    |true=>some (.agg (((r.drop a).take i.size).map .t),[.q d gen,.q l m,.p (e[k]? =some r)],h)
    |false=>none
   |_,_,_=>none
  |_=>none
def rI(j:Nat):List (Nat×Nat×V)->Option (Nat×V)
 | []=>none
 |h::a=>bif Nat.beq h.2.1 j then some (h.1,h.2.2) else rI j a
def rD(a:List (Nat×Nat×V)):Nat->Nat->Option (List (Nat×V))
 |_,0=>some []
 |j,n+1=>match rI j a,rD a (j+1) n with
  |some x,some l=>some (x::l)
  |_,_=>none
def rL(k:Nat):List (Nat×V)->List df
 | []=>[]
 |x::l=> .q x.1 k::rL k l
def rV(i j:Nat):List (Nat×Nat×V)->List df
 | []=>[]
 |h::a=>bif Nat.beq h.2.1 j then .p (i≠h.1)::rV i j a else rV i j a
theorem wu{i j:Nat}: ∀{c:List (Nat×Nat×V)},ch (rV i j c)-> ∀v,(i,j,v)∉c
 | [],_,_,h=>by cases h
 |h::c,a,v,hm=>by
  unfold rV at a;cases d:Nat.beq h.2.1 j with
  |true=>
   rw[d] at a;rcases dP.1 hm with rfl|hm
   ·exact a.1 rfl
   exact wu a.2 v hm
  |false=>
   rw[d] at a;rcases dP.1 hm with rfl|hm
   ·simp at d
   exact wu a v hm
def FK(y:List (Nat×cj))(H:Nat->Option E)(t:TypeId)(v:V)(h:List ct):hz:=
 match dy y t,v,h with
 |some i,.cB id gen o k a,.row r::h=>match H id with
  |some (.a8 n m d e s)=>match i.u.agg with
   |false=>match r[a]?,rI a s with
    |some c,none=>match (aO n m).ei a with
     |none=>some (.t c,[.q d gen,.q (aO n m).size o,.p (e[k]? =some r)],h)
     |some _=>none
    |some _,some (w,x)=>some (x,[.q d gen,.q (aO n m).size o,.p (e[k]? =some r),.q w k],h)
    |none,_=>none
   |true=>match Nat.ble (a+i.size) r.length,rD s a i.size with
    |true,some l=>some (.agg (l.map (·.2)),.q d gen:: .q (aO n m).size o:: .p (e[k]? =some r)::rL k l,h)
    |_,_=>none
  |_=>none
 |some i,.cB id gen o k a,.int q:: .row r::h=>match H id with
  |some (.a8 n m d e s)=>match i.u.agg,r[a]?,s[q.toNat]? with
   |false,some _,some (w,z,x)=>some (x,[.q d gen,.q (aO n m).size o,.p (e[k]? =some r),.q w k,.q z a],h)
   |true,_,_=>match Nat.ble (a+i.size) r.length,rD (s.drop q.toNat) a i.size with
    |true,some l=>some (.agg (l.map (·.2)),.q d gen:: .q (aO n m).size o:: .p (e[k]? =some r)::rL k l,h)
    |_,_=>none
   |_,_,_=>none
  |_=>none
 |some i,.cB id gen o k a,.nat _:: .row r::h=>match H id with
  |some (.a8 n m d e s)=>match i.u.agg,r[a]?,(aO n m).ei a with
   |false,some c,none=>some (.t c,.q d gen:: .q (aO n m).size o:: .p (e[k]? =some r)::rV k a s,h)
   |_,_,_=>none
  |_=>none
 |_,_,_=>none
def GK(e:List (Nat×cj))(t:TypeId)(k:Nat)(v:V)(h:List ct):hz:=
 match dy e t with
 |none=>none
 |some i=>match i.u with
  | .struct l=>match l[k]? with
   |none=>none
   |some a=>match dy e a.1 with
    |none=>none
    |some j=>match v with
     | .agg d=>match j.u.agg with
      |true=>match Nat.ble (a.2+j.size) d.length with
       |true=>some (.agg ((d.drop a.2).take j.size),[],h)
       |false=>none
      |false=>match d[a.2]? with
       |some c=>some (c,[],h)
       |none=>none
     |_=>none
  |_=>none
def FM(m:List (Nat×cj))(H:Nat->Option E)(t:TypeId)(k:Nat)(v:V)(e:List ct):hz:=
 match dy m t with
 |none=>none
 |some i=>match i.u with
  | .struct o=>match o[k]? with
   |none=>none
   |some a=>match dy m a.1 with
    |none=>none
    |some j=>match Nat.beq j.size 0 with
     |true=>none
     |false=>match v with
      | .ref id d=>some (.ref id (d+a.2),[],e)
      | .aP cs=>some (.aP (cs.drop a.2),[],e)
      | .cB id gen h n d=>match H id with
       |some (.arr _ c l _)=>some (.cB id gen h n (d+a.2),[.q c gen,.q l h],e)
       |some (.a8 _ _ c _ _)=>some (.cB id gen h n (d+a.2),[.q c gen],e)
       |_=>none
      |_=>none
  |_=>none
def GJ(s:List (Nat×cj))(H:Nat->Option E)(t:TypeId)(v w:V)(h:List ct):hz:=
 match dy s t with
 |none=>none
 |some i=>match i.u with
  | .slice e=>match dy s e with
   |none=>none
   |some j=>match v,w with
    | .t (.aE l),.t (.int .i64 n)=>match h with
     | .row r::h=>match Nat.beq r.length j.size with
      |true=>some (.aP r,[.p (au l n=some r)],h)
      |false=>none
     |_=>none
    | .bc id gen a d o,.t (.int .i64 n)=>match H id,Nat.beq a j.size with
     |some (.arr _ c x _),true=>some (.cB id gen a (d+n.toNat) 0,[.q c gen,.q x a,.p (0<=n/\n<(o:Int))],h)
     |some (.a8 _ _ c _ _),true=>some (.cB id gen a (d+n.toNat) 0,[.q c gen,.p (0<=n/\n<(o:Int))],h)
     |_,_=>none
    |_,_=>none
  | .array m e=>match dy s e with
   |none=>none
   |some j=>match v,w,h with
    | .ref id d,.t (.int .i64 n),.nat k::h=>match Nat.ble (k+1) m with
     |true=>some (.ref id (d+k*j.size),[.p (n=(k:Int))],h)
     |false=>none
    |_,_,_=>none
  |_=>none
def wL:Option cj->Bool
 |some i=>match i.u with
  | .string=>true
  |_=>false
 |none=>false
def wX:Option cj->Bool
 |some i=>match i.u with
  | .slice _=>true
  |_=>false
 |none=>false
def GC(d:List (Nat×cj))(e:BinOp)(t:TypeId)(v w:V)(c:List ct):hz:=
 match wX (dy d t),v,w,e,c with
 |true,.t (.aE a),.t .fl,.eql,.b false::c=>some (.t (.bool false),[.p (a≠[])],c)
 |_,_,_,_,_=>none
def FL(c:List (Nat×cj))(t:TypeId)(v w:V)(a:List ct):hz:=
 match wL (dy c t),v,w,a with
 |true,.t (.str l),.t (.int .i64 n),.y b::a=>some (.t (.int .u8 (b.toNat:Nat)),[.p (au l n=some b)],a)
 |_,_,_,_=>none
def rJ(d e:Option Operand)(c:Nat)(h:List V):Option (Int×Int):=
 match d,e,h with
 |some _,some _,[.t (.int .i64 a),.t (.int .i64 b)]=>some (a,b)
 |some _,none,[.t (.int .i64 a)]=>some (a,(c:Int))
 |none,some _,[.t (.int .i64 b)]=>some (0,b)
 |_,_,_=>none
def FJ(s:List (Nat×cj))(H:Nat->Option E)(t:TypeId)(y z:Option Operand)(w:List V)(h:List ct):hz:=
 match w with
 | .t (.str l)::x=>match wL (dy s t),rJ y z l.length x,h with
  |true,some (a,b),.str r::h=>some (.t (.str r),[.p (sub l a b=some r)],h)
  |_,_,_=>none
 | .t (.aE d)::x=>match dy s t with
  |none=>none
  |some i=>match i.u with
   | .slice e=>match dy s e,rJ y z d.length x,h with
    |some j,some (a,b),.rows r::h=>some (.t (.aE r),[.p (sub d a b=some r),.p (Rows j.size d)],h)
    |_,_,_=>none
   |_=>none
 | .bc id gen c n k::x=>match dy s t,(H id).bind E.gen? with
  |some i,some B=>match i.u with
   | .slice e=>match dy s e,rJ y z k x,h with
    |some j,some (a,b),.nat o:: .nat m::h=>some (.bc id gen c o m,[.q B gen,.q c j.size,.p (0<=a/\a<=b/\b<=k/\(a=0\/a<k)/\o=n+a.toNat/\m=b.toNat-a.toNat)],h)
    |some _,some (a,b),.int 0::h=>some (.t (.aE []),[.q B gen,.p (0<=a/\a=b/\b<=k)],h)
    |some j,some (a,b),.int 1:: .nat o:: .nat m::h=>match H id with
     |some (.arr _ C A d)=>some (.bc id gen c o m,[.q C gen,.q A c,.q c j.size,.p (0<c/\0<=a/\a<b/\n+b<=d.length/\o=n+a.toNat/\m=b.toNat-a.toNat)],h)
     |_=>none
    |_,_,_=>none
   |_=>none
  |_,_=>none
 |_=>none
def Fk(k:List (Nat×cj))(H:Nat->Option E)(t:TypeId)(d:List V)(l:List ct):hz:=
 match d with
 | [.bc id gen _ _ h,.t (.int .i64 a),.t (.int .i64 b),.t (.int .i64 c)]=>match dy k t,(H id).bind E.gen? with
  |some i,some m=>match i.u with
   | .slice e=>match dy k e with
    |some _=>some (.c4,[.q m gen,.p (0<=a/\a<=b/\b<=c/\c<=h)],l)
    |none=>none
   |_=>none
  |_,_=>none
 |_=>none
def Ge(k:List (Nat×cj))(t:TypeId)(d:List V)(h:List ct):hz:=
 match d,h with
 | [.t (.aE a),.t (.int .i64 b),.t (.int .i64 c)],.rows r::h=>match dy k t with
  |some i=>match i.u with
   | .slice e=>match dy k e with
    |some j=>some (.t (.aE r),[.p (sub a 0 b=some r/\c=b),.p (Rows j.size a)],h)
    |none=>none
   |_=>none
  |none=>none
 |_,_=>none
def GG(i:List (Nat×cj))(H:Nat->Option E)(t:TypeId)(v:V)(c:List ct):hz:=
 match v,c with
 | .t (.str l),c=>match wL (dy i t) with
  |true=>some (.t (.int .i64 (l.length:Nat)),[],c)
  |false=>none
 | .t (.aE d),.nat n::c=>match wX (dy i t) with
  |true=>some (.t (.int .i64 (n:Nat)),[.p (d.length=n)],c)
  |false=>none
 | .bc id gen e _ h,.nat n::c=>match H id,wX (dy i t) with
  |some (.arr _ a k _),true=>some (.t (.int .i64 (n:Nat)),[.q a gen,.q k e,.p (h=n)],c)
  |some (.a8 _ _ a _ _),true=>some (.t (.int .i64 (n:Nat)),[.q a gen,.p (h=n)],c)
  |_,_=>none
 |_,_=>none
def EX(h:List (Nat×cj))(H:Nat->Option E)(b:Builtin)(c:List TypeId)(i:List Operand)(a:List V)(d:List ct):hz:=
 match b,c,i,a with
 | .len,[t],[_],[v]=>GG h H t v d
 | .max,_,[_,_],[.t (.int k m),.t (.int e n)]=>if k=e then some (.t (.int k (max m n)),[],d) else none
 | .min,_,[_,_],[.t (.int k m),.t (.int e n)]=>if k=e then some (.t (.int k (min m n)),[],d) else none
 |_,_,_,_=>none
def GD(H:Nat->Option E)(v:V)(a:List ct):hz:=
 match v with
 | .cB id gen _ _ _=>match (H id).bind E.gen? with
  |some c=>some (v,[.q c gen],a)
  |none=>none
 | .ref _ _=>some (v,[],a)
 | .aP _=>some (v,[],a)
 | .fn _ _=>some (v,[],a)
 |_=>none
def FO(d:List (Nat×cj))(t:TypeId)(c:List Nat)(a:List V)(e:List ct):hz:=
 match dy d t with
 |none=>none
 |some i=>match i.u with
  | .struct _=>match (gP i.z).val,Nat.beq c.length a.length,kH (i.places[·]?) (gP i.z).cs (c.zip a) with
   |true,true,some cs=>some (.agg cs,[],e)
   |_,_,_=>none
  |_=>none
def xg(P:Program)(h:List (Nat×cj))(H:Nat->Option E)(l:Op)(a:List V)(e:List ct):hz:=
 match l with
 | .move _=>match a with
  | [v]=>some (v,[],e)
  |_=>none
 | .assign _=>match a with
  | [v]=>some (v,[],e)
  |_=>none
 | .pick _ _ _=>match a,e with
  | [.t (.bool b),v,w],.b c::e=>some (bif c then v else w,[.p (b=c)],e)
  |_,_=>none
 | .load t _=>match a with
  | [v]=>match tE h H t v e with
   |some r=>some r
   |none=>FK h H t v e
  |_=>none
 | .nilCheck _=>match a with
  | [v]=>GD H v e
  |_=>none
 | .binOp o t x y _=>match a with
  | [v,w]=>match GM P h o t v w e with
   |some r=>some r
   |none=>match GI h o t x y v w e with
    |some r=>some r
    |none=>GC h o t v w e
  |_=>none
 | .unOp o _ _=>match a with
  | [v]=>GS o v e
  |_=>none
 | .convert s d _=>match a with
  | [v]=>Gd h s d v e
  |_=>none
 | .makeFunc m first _=>match m,first.toList with
  | .func f,[]=>some (.fn f a,[],e)
  |_,_=>none
 | .slice t _ bf i mu=>match mu with
  |none=>FJ h H t bf i a e
  |some _=>match bf,i with
   |some _,some _=>Fk h H t a e
   |none,some _=>Ge h t a e
   |_,_=>none
 | .fieldAddr t _ k=>match a with
  | [v]=>FM h H t k v e
  |_=>none
 | .field t _ k=>match a with
  | [v]=>GK h t k v e
  |_=>none
 | .indexAddr t _ _=>match a with
  | [v,w]=>GJ h H t v w e
  |_=>none
 | .index t _ _=>match a with
  | [v,w]=>FL h t v w e
  |_=>none
 | .extract _ k=>match a with
  | [.bL n]=>match n[k]? with
   |some v=>some (v,[],e)
   |none=>none
  |_=>none
 | .build t q=>FO h t (q.toList.map (·.1)) a e
 | .call c=>match c.callee with
  | .builtin b=>EX h H b c.argTypes.toList c.args.toList a e
  |_=>none
 |_=>none
end Go.Lift
