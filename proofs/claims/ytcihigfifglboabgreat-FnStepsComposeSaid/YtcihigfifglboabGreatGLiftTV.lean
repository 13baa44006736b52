/- Tools. -/
import Derived.Test.YtcihigfifglboabGreatGLiftAB
import Derived.Laws.BitsAllLaws
import Derived.Laws.BytesArg
import Derived.Laws.StructEq
namespace Go.Lift
open Go
section
variable {D β:Map}{w:World}{X:Nat->Prop}{i m k b n:Nat}{G:List dO}{a:Act}{U hs:List (Nat×Nat×V)}{e:TypeId}{v c:List (List T)}{l:List T}{x:T}
theorem th{gen:Nat}{a:List (List T)}(h:cF D w X i (.a' G m gen a U)): ∃q,D i=some (q,gen):=by
 rcases h.2 with ⟨c,_⟩|⟨b,e,_,c,_⟩
 ·exact⟨_,c⟩
 exact⟨_,c⟩
def Map.drop(a:Map)(k:Nat):Map:=⟨a.f,λid b=>id≠k/\a.n id b⟩
theorem ot(h:At (D.drop k) i b):At D i b:=by
 rcases h with h|h
 ·exact .inl h
 exact .inr h.2
theorem Rel.drop{K:Ctx}{s:S}(h:Rel K β s a w)(k:Nat)(e':E)(x:s.H k≠none)
  (B:cF (β.drop k) w (own K (β.drop k) (aU s.H k (some e'))) k e'):Rel K (β.drop k) {s with H:=aU s.H k (some e')} a w:=by
 have l: ∀b,own K (β.drop k) (aU s.H k (some e')) b->own K β s.H b:=by
  rintro b (c|⟨id,m,o⟩)
  ·exact .inl c
  refine .inr ⟨id,λp=>?_,ot o⟩;by_cases n:id=k
  ·subst n;exact x p
  rw[bX _ _ _ _ n] at m;exact m p
 have y:dr β (β.drop k):=λ_ _ _ c=> .inl c;refine {h with base:=λid hid=>h.base id hid,dJ:=λid hid=>h.dJ id hid,eb:=λid b hid q=>h.eb id b hid q.2,inj:=λid r b m o=>h.inj id r b (ot m) (ot o),fresh:=λid b q=>h.fresh id b (ot q),heap:= ?_,cZ:=λi=>(h.cZ i).mono (Ext.refl _ _) (λb _=>l b) y (Shaped.refl _ _)};intro id e c;have c:aU s.H k (some e') id=some e:=c;by_cases n:id=k
 ·subst n;rw[bW] at c;cases c;cases A:s.H id with
  |none=>exact bA A x
  |some p=>exact⟨(h.heap id p A).1,B⟩
 rw[bX _ _ _ _ n] at c;obtain⟨m,o⟩:=h.heap id e c;exact⟨m,o.mono (Ext.refl _ _) (λb _=>l b) y (λ_ h=>h) (Shaped.refl _ _) (λ_ _=>rfl) λb=>⟨λh=>h.2,λh=>⟨n,h⟩⟩⟩
theorem WV{K:Ctx}{s:S}(k:Nat){gen:Nat}(l:List dO)(m:Nat)(y:s.H k=some (.arr e gen n v))(r:(aO l m).ty=e)(A:(aO l m).size=n)
  (B:v=[]\/(aO l m).bm=[]):s.le K {s with H:=aU s.H k (some (.a' l m gen v []))}:=by
 intro F a w h;refine⟨_,h.drop k (.a' l m gen v []) (by rw[y];simp) ?_⟩;have o:=(h.heap k _ y).2;subst r;subst A;refine⟨o.1,?_⟩;have p: ∀b,own K (F.drop k) (aU s.H k (some (.a' l m gen v []))) b->own K F s.H b:=by
  rintro b (L|⟨id,r,A⟩)
  ·exact .inl L
  refine .inr ⟨id,λC=>?_,ot A⟩;by_cases G:id=k
  ·subst G;rw[y] at C;cases C
  rw[bX _ _ _ _ G] at r;exact r C
 rcases o.2 with ⟨aJ,a2⟩|⟨b,Q,aJ,a2,a3,a4,a5⟩
 ·exact .inl ⟨aJ,a2,λc q=>q.1 rfl⟩
 refine .inr ⟨b,Q,λ_ _ _=>False,aJ,a2,a3,a4,λi j D x u I R U=>Cell.of ?_,λ_ _ _ h=>h.elim,λ_ _ _ _ _ h=>h.elim,λc=>⟨λq=>bA rfl q.1,λ⟨_,_,q⟩=>q.elim⟩⟩;rcases B with rfl|B
 ·simp at I
 have:(aO l m).eg j=none:=by unfold dO.eg;rw[B];rfl
 rw[this];exact .iW _ _ _ ((a5 i j D x u I R U).mono (Ext.refl _ _) λb _=>p b) λ_ h=>h
theorem WW{K:Ctx}{s:S}(k:Nat){gen:Nat}(r:s.H k=some (.a' G m gen v []))(p:Nat.ble K.c' k=true):
  s.le K {s with H:=aU s.H k (some (.arr (aO G m).ty gen (aO G m).size v))}:=by
 have Q:=ea p;intro q a w h;refine⟨_,h.drop k (.arr (aO G m).ty gen (aO G m).size v) (by rw[r];simp) ?_⟩;have l:=(h.heap k _ r).2;have n: ∀b,own K (q.drop k) (aU s.H k (some (.arr (aO G m).ty gen (aO G m).size v))) b->own K q s.H b:=by
  rintro b (o|⟨id,y,e⟩)
  ·exact .inl o
  refine .inr ⟨id,λA=>?_,ot e⟩;by_cases F:id=k
  ·subst F;rw[r] at A;cases A
  rw[bX _ _ _ _ F] at y;exact y A
 refine⟨l.1,?_⟩;rcases l.2 with ⟨aJ,a2,_⟩|⟨b,R,B,aJ,a2,a3,a4,a5,hV,iw,fc⟩
 ·exact .inl ⟨aJ,a2⟩
 refine .inr ⟨b,R,aJ,a2,a3,a4,λi j C x u U W X=>(a5 i j C x u U W X).none.yj n ?_⟩;intro c I o;have p:At q k c:= .inr ((fc c).2 ⟨i,j,I⟩);rcases o with o|⟨id,y,e⟩
 ·obtain⟨M,Y⟩:=h.il c o;rcases(h.fresh k c p).1 with D|f
  ·exact Y D
  omega
 have:=h.inj _ _ _ (ot e) p;subst this;rcases e with ⟨g,e⟩|e
 ·have L:q id=some (some c,g):=e;rw[aJ] at L;cases L;exact(hV i j _ I).2.2 rfl
 exact e.1 rfl
def Map.split(c:Map)(k a:Nat)(q:Option Nat)(N:Nat->Prop):Map:=
 ⟨λi=>bif Nat.beq i a then some (q,1) else c i,λid b=>(id=a/\N b)\/(id=k/\id≠a/\c.n k b/\ ¬N b/\q≠some b)\/(id≠a/\id≠k/\c.n id b)⟩
theorem Nz(h:i≠k):Nat.beq i k=false:=by
 cases a:Nat.beq i k with
 |false=>rfl
 |true=>exact bA (cK a) h
theorem yI(c:Map)(k a:Nat)(q:Option Nat)(N:Nat->Prop):c.split k a q N a=some (q,1):=by simp[Map.split]
theorem uY(a:Map)(k c:Nat)(q:Option Nat)(N:Nat->Prop)(id:Nat)(h:id≠c):a.split k c q N id=a id:=by simp[Map.split,Nz h]
theorem XF{D:Map}{k L:Nat}{q:Option Nat}{N:Nat->Prop}(o: ∀b,q=some b->D.n k b)(p: ∀b,N b->D.n k b){i b:Nat}(h:At (D.split k L q N) i b):
  (i=L/\D.n k b/\(q=some b\/N b))\/(i≠L/\At D i b/\(i=k->(∃g,D k=some (some b,g))\/(¬N b/\q≠some b))):=by
 rcases h with ⟨g,h⟩|⟨rfl,h⟩|⟨rfl,a,c,l,r⟩|⟨a,c,l⟩
 ·by_cases m:i=L
  ·subst m;rw[yI] at h;cases h;exact .inl ⟨rfl,o _ rfl,.inl rfl⟩
  rw[uY _ _ _ _ _ _ m] at h;exact .inr ⟨m,.inl ⟨g,h⟩,λe=> .inl ⟨g,e▸h⟩⟩
 ·exact .inl ⟨rfl,p b h,.inr h⟩
 ·exact .inr ⟨a,.inr c,λ_=> .inr ⟨l,r⟩⟩
 exact .inr ⟨a,.inr l,λe=>bA e c⟩
theorem Rel.split{K:Ctx}{s:S}(h:Rel K β s a w)(k b1:Nat)(q:Option Nat)(N:Nat->Prop)(r y:E)(W:s.H k≠none)(R:s.u b1=false)
  (df: ∀b,q=some b->β.n k b/\ ¬N b) (fr: ∀b,N b->β.n k b) (p: ∀b g,β k=some (some b,g)-> ¬β.n k b)
  (X:(∀b,own K (β.split k b1 q N) (aU (aU s.H k (some r)) b1 (some y)) b->own K β s.H b)->cF (β.split k b1 q N) w (own K (β.split k b1 q N) (aU (aU s.H k (some r)) b1 (some y))) k r)
  (Y:(∀b,own K (β.split k b1 q N) (aU (aU s.H k (some r)) b1 (some y)) b->own K β s.H b)->cF (β.split k b1 q N) w (own K (β.split k b1 q N) (aU (aU s.H k (some r)) b1 (some y))) b1 y):
  Rel K (β.split k b1 q N) {t:=s.t,H:=aU (aU s.H k (some r)) b1 (some y),u:=aU s.u b1 true} a w:=by
 have I:s.u k=true:=by
  cases V:s.H k with
  |none=>exact bA V W
  |some U=>exact(h.heap k U V).1
 have hne:k≠b1:=by intro e;subst e;rw[I] at R;cases R
 have A:= @XF β k b1 q N (λb L=>(df b L).1) fr;have m: ∀b,own K (β.split k b1 q N) (aU (aU s.H k (some r)) b1 (some y)) b->own K β s.H b:=by
  rintro b (l|⟨id,o,Q⟩)
  ·exact .inl l
  rcases A Q with ⟨_,f,_⟩|⟨f,h4,_⟩
  ·exact .inr ⟨k,W,.inr f⟩
  refine .inr ⟨id,λU=>?_,h4⟩;rw[bX _ _ _ _ f] at o;by_cases F:id=k
  ·subst F;exact W U
  rw[bX _ _ _ _ F] at o;exact o U
 have G:=h.dJ b1 R;have C: ∀id x,β id=some x->β.split k b1 q N id=some x:=λid x l=>by
  rw[uY _ _ _ _ _ _ (by intro e;subst e;rw[G] at l;cases l)];exact l
 have hm:dr β (β.split k b1 q N):=dr.of C;refine {h with base:= ?_,low:= ?_,dJ:= ?_,eb:= ?_,inj:= ?_,fresh:= ?_,heap:= ?_,cZ:=λi=>(h.cZ i).mono (Ext.refl _ _) (λb _=>m b) hm (Shaped.refl _ _)}
 ·refine h.base.keep λid hid=>uY _ _ _ _ _ _ ?_;intro e;subst e;have:=h.low id hid;rw[R] at this;cases this
 ·intro id hid;show aU s.u b1 true id=true;by_cases e:id=b1
  ·subst e;exact bW _ _ _
  rw[bX _ _ _ _ e];exact h.low id hid
 ·intro id hid;have c:aU s.u b1 true id=false:=hid;by_cases e:id=b1
  ·subst e;rw[bW] at c;cases c
  rw[bX _ _ _ _ e] at c;rw[uY _ _ _ _ _ _ e];exact h.dJ id c
 ·intro id b hid L;have c:aU s.u b1 true id=false:=hid;have e:id≠b1:=by intro e;subst e;rw[bW] at c;cases c
  rw[bX _ _ _ _ e] at c;rcases L with ⟨o,_⟩|⟨rfl,_,o,_⟩|⟨_,_,o⟩
  ·exact e o
  ·exact h.eb _ b c o
  exact h.eb id b c o
 ·intro id jZ b o Q;rcases A o with ⟨rfl,aJ,a2⟩|⟨aJ,a2,a3⟩<;>rcases A Q with ⟨c0,j,D⟩|⟨j,D,eT⟩
  ·exact c0.symm
  ·have:=h.inj _ _ b (.inr aJ) D;subst this;rcases eT rfl with ⟨g,v⟩|⟨M,T⟩
   ·exact bA aJ (p b g v)
   rcases a2 with a2|a2
   ·exact bA a2 T
   exact bA a2 M
  ·subst c0
   have:=h.inj _ _ b (.inr j) a2;subst this;rcases a3 rfl with ⟨g,v⟩|⟨M,T⟩
   ·exact bA j (p b g v)
   rcases D with D|D
   ·exact bA D T
   exact bA D M
  exact h.inj _ _ b a2 D
 ·intro id b L;rcases A L with ⟨_,aJ,_⟩|⟨_,a2,_⟩
  ·exact h.fresh k b (.inr aJ)
  exact h.fresh id b a2
 intro id e l;have l:aU (aU s.H k (some r)) b1 (some y) id=some e:=l;show aU s.u b1 true id=true/\cF _ w (own K _ (aU (aU s.H k (some r)) b1 (some y))) id e;by_cases F:id=b1
 ·subst F;rw[bW] at l;cases l;exact⟨bW _ _ _,Y m⟩
 rw[bX _ _ _ _ F] at l⊢;by_cases B:id=k
 ·subst B;rw[bW] at l;cases l;exact⟨I,X m⟩
 rw[bX _ _ _ _ B] at l;obtain⟨o,Q⟩:=h.heap id e l;exact⟨o,Q.mono (Ext.refl _ _) (λb _=>m b) hm (C id) (Shaped.refl _ _) (λ_ _=>rfl) (λb=>⟨λh=>by
  rcases h with ⟨h,_⟩|⟨h,_⟩|⟨_,_,h⟩
  ·exact bA h F
  ·exact bA h B
  exact h,λh=> .inr (.inr ⟨F,B,h⟩)⟩)⟩
def q5(j:Nat):List (Nat×Nat×V)->Bool
 | []=>true
 |h::a=> !(Nat.beq h.2.1 j)&&q5 j a
theorem y2{j:Nat}: ∀{a:List (Nat×Nat×V)},q5 j a=true-> ∀i v,(i,j,v)∉a
 | [],_,_,_,h=>by cases h
 |h::a,c,i,v,hm=>by
  simp only[q5,Bool.and_eq_true,Bool.not_eq_true'] at c;rcases dN.1 hm with rfl|hm
  ·simp at c
  exact y2 c.2 i v hm
theorem V3{K:Ctx}{s:S}(k b1 i j R:Nat){r:List dO}{gen:Nat}{C:List (List T)}{W:List T}{l:List (List T)}{M:List (Nat×Nat×V)}(hk:s.H k=some (.a' r m gen C M))(hu:s.u b1=false)
  (aH:C[i]? =some W) (hj:W[j]? =some (.aD l)) (hm:(aO r m).eg j=some R) (F: ∀v,(i,j,v)∉M):
  s.le K {t:=s.t,H:=aU (aU s.H k (some (.a' r m gen C ((i,j,.bc b1 1 (aO r R).size 0 l.length)::M)))) b1 (some (.a' r R 1 l [])),u:=aU s.u b1 true}:=by
 intro Y a w h;have Hy:=(h.heap k _ hk).1;have I:k≠b1:=by intro e;subst e;rw[Hy] at hu;cases hu
 have hE:=(h.heap k _ hk).2;rcases hE.2 with ⟨aJ,a2,_⟩|⟨b,us,B,aJ,a2,a3,a4,a5,hV,iw,fc⟩
 ·rw[a2] at aH;simp at aH
 have hlt:=(bR.1 aH).1;have hjs:j<(aO r m).size:=by rw[<-a4 W (bF aH)];exact(bR.1 hj).1
 have f:i*(aO r m).size+j<us.size:=by
  have:(i+1)*(aO r m).size<=C.length*(aO r m).size:=dx _ hlt;rw[dj] at this;omega
 have p:=(a5 i j W _ us[i*(aO r m).size+j] aH hj (hr f)).2 λv=>F v;rw[hm] at p;have L: ∀c g,Y k=some (some c,g)-> ¬Y.n k c:=by
  intro c g F cG;rw[aJ] at F;cases F;obtain⟨y,A,G⟩:=(fc b).1 cG;exact(hV y A b G).2.2 rfl
 generalize agT:us[i*(aO r m).size+j]=U at p
 -- the cell's value under the new map, and the rest of the rows
 have Q: ∀(q:Option Nat) (N:Nat->Prop),(∀c,B i j c↔(q=some c\/N c))->(∀(X:Nat->Prop),bn (Y.split k b1 q N) w X (.bc b1 1 (aO r R).size 0 l.length) U)->
   ∀X,(∀c,X c->own K Y s.H c)->cF (Y.split k b1 q N) w X k (.a' r m gen C ((i,j,.bc b1 1 (aO r R).size 0 l.length)::M)):=by
  intro q N fD bJ X ha;have hm':dr Y (Y.split k b1 q N):=dr.of (λid x hx=>by
   have:id≠b1:=by intro e;subst e;rw[h.dJ _ hu] at hx;cases hx
   rw[uY _ _ _ _ _ _ this];exact hx)
  refine⟨hE.1,.inr ⟨b,us,λy A c=>B y A c/\ ¬(y=i/\A=j),by rw[uY _ _ _ _ _ _ I];exact aJ,a2,a3,a4,λy A D x u cT cu eN=>⟨λv HW=>?_,λcG=>?_⟩,
   λy A c F=>hV y A c F.1,λi1 sq i2 iF c h1 h2=>iw _ _ _ _ c h1.1 h2.1,λc=>?_⟩⟩
  ·rcases dN.1 HW with e|HW
   ·simp only[Prod.mk.injEq] at e;obtain⟨rfl,rfl,rfl⟩:=e
    have:u=U:=by
     rw[<-agT];rw[hr f] at eN;exact(Option.some.inj eN).symm
    subst this;exact⟨bJ X,λc F=>F.2 ⟨rfl,rfl⟩⟩
   obtain⟨c1,c2⟩:=(a5 y A D x u cT cu eN).1 v HW;exact⟨c1.mono (Ext.refl _ _) (λc _=>ha c) hm' (Shaped.refl _ _),λc hx=>c2 c hx.1⟩
  ·have adk: ¬(y=i/\A=j):=by rintro⟨rfl,rfl⟩;exact cG _ eR
   exact(((a5 y A D x u cT cu eN).2 λv bJ=>cG v (ev _ bJ)).mono (Ext.refl _ _) (λc _=>ha c) λ_ _=>rfl).iff λc=>⟨λh=>h.1,λh=>⟨h,adk⟩⟩
  constructor
  ·rintro(⟨h1,_⟩|⟨_,_,h1,h2,h3⟩|⟨_,h1,_⟩)
   ·exact bA h1 I
   ·obtain⟨y,A,G⟩:=(fc c).1 h1;refine⟨y,A,G,?_⟩;rintro⟨rfl,rfl⟩;rcases(fD c).1 G with h4|h4
    ·exact h3 h4
    exact h2 h4
   exact bA rfl h1
  rintro⟨y,A,G,cG⟩;refine .inr (.inl ⟨rfl,I,(fc c).2 ⟨y,A,G⟩,λh4=>?_,λh4=>?_⟩)
  ·exact cG (iw _ _ _ _ c G ((fD c).2 (.inr h4)))
  exact cG (iw _ _ _ _ c G ((fD c).2 (.inl h4)))
 generalize Pl:B i j=ahl at p Q;cases p with
 |nil _ _ fr=>
  refine⟨_,h.split k b1 none (λ_=>False) _ (.a' r R 1 [] []) (by rw[hk];simp) hu (λb G=>by cases G) (λ_ h=>h.elim) L (λo=>Q none (λ_=>False) (λc=>⟨λh=>bA h (fr c),λh=>by rcases h with h|h;cases h;exact h.elim⟩)
   (λX=> .hd b1 1 _ (cN _) (yI _ _ _ _ _)) _ o) λo=>⟨cN _,.inl ⟨yI _ _ _ _ _,rfl,λc F=>?_⟩⟩⟩
  rcases F with ⟨_,h⟩|⟨h,_⟩|⟨h,_⟩
  ·exact h
  ·exact I h.symm
  exact h rfl
 |own _ _ cu cap qY rk _ hw M HI cD kW b7 fD cv fr=>
  have sc:Y.n k cu:=(fc cu).2 ⟨i,j,by rw[Pl];exact(fr cu).2 (.inl rfl)⟩;refine⟨_,h.split k b1 (some cu) (λc=> ∃i j,rk i j c) _ (.a' r R 1 l []) (by rw[hk];simp) hu (λb G=>by cases G;exact⟨sc,λ⟨y,A,mc⟩=>(fD y A _ mc).2.2 rfl⟩)
   (λc F=>(fc c).2 ⟨i,j,by rw[Pl];exact(fr c).2 (.inr F)⟩) L
   (λo=>Q (some cu) (λc=> ∃i j,rk i j c) (λc=>⟨λh=>by rcases(fr c).1 h with h|h;exact .inl (by rw[h]);exact .inr h,λh=>(fr c).2 (by rcases h with h|h;cases h;exact .inl rfl;exact .inr h)⟩)
    (λX=>?_) _ o) λo=>⟨cN _,.inr ⟨cu,qY,rk,yI _ _ _ _ _,hw,by rw[M];exact dx _ cD,kW,λy A D x u c1 c2 eT=>Cell.of ((b7 y A D x u c1 c2 eT).mono (Ext.refl _ _) (λc _=>o c) λ_ _=>rfl),fD,cv,λc=>?_⟩⟩⟩
  ·have:=bn.bc (β:=Y.split k b1 (some cu) λc=> ∃i j,rk i j c) (w:=w) (X:=X) b1 1 (aO r R).size 0 l.length cap cu qY.size (aO r R).ty (cN _) (yI _ _ _ _ _) (jc.1 hw).1 (by unfold World.shape?;rw[hw]) (by rw[dp];exact M.symm) cD HI;rw[fY] at this;exact this
  constructor
  ·rintro(⟨_,h⟩|⟨h,_⟩|⟨h,_⟩)
   ·exact h
   ·exact bA h.symm I
   exact bA rfl h
  intro h;exact .inl ⟨rfl,h⟩
def Map.merge(a:Map)(k c gen:Nat):Map:=
 ⟨λi=>bif Nat.beq i c then some (none,gen+1) else a i,λid b=>(id=k/\(a.n k b\/At a c b))\/(id≠k/\id≠c/\a.n id b)⟩
theorem LZ(c:Map)(k a gen:Nat):c.merge k a gen a=some (none,gen+1):=by simp[Map.merge]
theorem u0(a:Map)(k c gen id:Nat)(h:id≠c):a.merge k c gen id=a id:=by simp[Map.merge,Nz h]
theorem Yr{D:Map}{k i gen n b:Nat}(a:k≠i)(h:At (D.merge k i gen) n b):n≠i/\(At D n b\/(n=k/\At D i b)):=by
 rcases h with ⟨g,h⟩|⟨rfl,h⟩|⟨m,e,l⟩
 ·by_cases c:n=i
  ·subst c;rw[LZ] at h;cases h
  rw[u0 _ _ _ _ _ c] at h;exact⟨c,.inl (.inl ⟨g,h⟩)⟩
 ·rcases h with h|h
  ·exact⟨a,.inl (.inr h)⟩
  exact⟨a,.inr ⟨rfl,h⟩⟩
 exact⟨e,.inl (.inr l)⟩
theorem Rel.merge{K:Ctx}{s:S}(h:Rel K β s a w)(k c gen:Nat)(q:Option Nat)(A:E)(f:s.H k≠none)(F:s.H c≠none)(Q:k≠c)(j:K.c'<=c)(v:β c=some (q,gen))(M:1<=gen)
  (R:(∀b,own K (β.merge k c gen) (aU (aU s.H c none) k (some A)) b->own K β s.H b)->dr β (β.merge k c gen)->cF (β.merge k c gen) w (own K (β.merge k c gen) (aU (aU s.H c none) k (some A))) k A):
  Rel K (β.merge k c gen) {t:=s.t,H:=aU (aU s.H c none) k (some A),u:=s.u} a w:=by
 have U:s.u c=true:=by
  cases G:s.H c with
  |none=>exact bA G F
  |some C=>exact(h.heap c C G).1
 have y:s.u k=true:=by
  cases G:s.H k with
  |none=>exact bA G f
  |some C=>exact(h.heap k C G).1
 have p:=fun {id b}=> @Yr β k c gen id b Q;have n: ∀b,own K (β.merge k c gen) (aU (aU s.H c none) k (some A)) b->own K β s.H b:=by
  rintro b (m|⟨id,D,I⟩)
  ·exact .inl m
  obtain⟨W,B|⟨rfl,B⟩⟩:=p I
  ·refine .inr ⟨id,λC=>?_,B⟩;by_cases o:id=k
   ·subst o;exact f C
   rw[bX _ _ _ _ o,bX _ _ _ _ W] at D;exact D C
  exact .inr ⟨c,F,B⟩
 have X:dr β (β.merge k c gen):=by
  intro id V g1 m;by_cases o:id=c
  ·subst o;rw[v] at m;cases m;exact .inr ⟨M,none,gen+1,LZ _ _ _ _,mJ _⟩
  exact .inl (by rw[u0 _ _ _ _ _ o];exact m)
 refine {h with base:= ?_,dJ:= ?_,eb:= ?_,inj:= ?_,fresh:= ?_,heap:= ?_,cZ:=λi=>(h.cZ i).mono (Ext.refl _ _) (λb _=>n b) X (Shaped.refl _ _)}
 ·exact h.base.keep λid hid=>u0 _ _ _ _ _ O
 ·intro id hid;have l:s.u id=false:=hid;rw[u0 _ _ _ _ _ (by intro e;subst e;rw[U] at l;cases l)];exact h.dJ id l
 ·intro id b hid Y;have l:s.u id=false:=hid;rcases Y with ⟨rfl,_⟩|⟨_,_,W⟩
  ·rw[y] at l;cases l
  exact h.eb id b l W
 ·intro id N b D I;obtain⟨aJ,a2|⟨rfl,a2⟩⟩:=p D<;>obtain⟨T,L|⟨rfl,L⟩⟩:=p I
  ·exact h.inj _ _ b a2 L
  ·exact bA (h.inj _ _ b a2 L) aJ
  ·exact bA (h.inj _ _ b L a2) T
  rfl
 ·intro id b Y;obtain⟨_,B|⟨_,B⟩⟩:=p Y
  ·exact h.fresh id b B
  exact h.fresh c b B
 intro id e m;have m:aU (aU s.H c none) k (some A) id=some e:=m;show s.u id=true/\cF _ w (own K _ (aU (aU s.H c none) k (some A))) id e;by_cases o:id=k
 ·subst o;rw[bW] at m;cases m;exact⟨y,R n X⟩
 rw[bX _ _ _ _ o] at m;by_cases r:id=c
 ·subst r;rw[bW] at m;cases m
 rw[bX _ _ _ _ r] at m;obtain⟨D,I⟩:=h.heap id e m;exact⟨D,I.mono (Ext.refl _ _) (λb _=>n b) X (λx m=>by rw[u0 _ _ _ _ _ r];exact m) (Shaped.refl _ _) (λ_ _=>rfl) (λb=>⟨λh=>by
  rcases h with ⟨h,_⟩|⟨_,_,h⟩
  ·exact bA h o
  exact h,λh=> .inr ⟨o,r,h⟩⟩)⟩
theorem Uj{K:Ctx}{s:S}(k F i j m2 lA z n:Nat){D:List dO}{gen:Nat}{p:List (List T)}{o:List T}{l:List (List T)}(hk:s.H k=some (.a' D m gen p ((i,j,.bc F lA z 0 n)::hs)))
  (oY:s.H F=some (.a' D m2 lA l [])) (eH:z=(aO D m2).size) (cG:n=l.length) (hne:k≠F) (mh:Nat.ble K.c' F=true) (aH:p[i]? =some o) (hm:(aO D m).eg j=some m2) (ac2:Nat.blt j (aO D m).size=true) (bP: ∀v,(i,j,v)∉hs):
  s.le K {t:=s.t,H:=aU (aU s.H F none) k (some (.a' D m gen (p.set i (o.set j (.aD l))) hs)),u:=s.u}:=by
 subst eH;subst cG;intro Y a w h;have mh:=ea mh;obtain⟨q,df⟩:=th (h.heap F _ oY).2;have hE:=(h.heap k _ hk).2;have L:=(h.heap F _ oY).2;refine⟨_,h.merge k F lA q (.a' D m gen (p.set i (o.set j (.aD l))) hs) (by rw[hk];simp) (by rw[oY];simp) hne mh df L.1 λQ hm'=>⟨hE.1,?_⟩⟩;rcases hE.2 with ⟨aJ,a2,_⟩|⟨b,us,B,aJ,a2,a3,a4,a5,hV,iw,fc⟩
 ·rw[a2] at aH;simp at aH
 have f:=(bR.1 aH).1
 -- the blocks of the slice
 have M:At Y k b:= .inl ⟨_,aJ⟩;have ac4: ∀(u:Value),bn Y w (own K Y s.H) (.bc F lA (aO D m2).size 0 l.length) u->
   gx D w (own K (Y.merge k F lA) (aU (aU s.H F none) k (some (.a' D m gen (p.set i (o.set j (.aD l))) hs)))) (some m2) (.aD l) u (λc=>At Y F c):=by
  intro u hu;rcases e8 hu df with ⟨cap,cu,n2,hh,rfl,ju,hw,N,sd,cD,HI⟩|⟨ju,_,h0,rfl⟩
  ·subst ju;rcases L.2 with ⟨c1,_⟩|⟨eN,qY,rk,c1,c2,eT,ff,jm,kj,mY,jQ⟩
   ·rw[df] at c1;cases c1
   rw[df] at c1;cases c1;rw[fY];have HV:qY.size=cap*(aO D m2).size:=by
    unfold World.shape? at N;rw[c2] at N;simp at N;rw[N.2,<-sd,dp]
   refine .own m2 l cu cap qY rk _ c2 HV HI cD ff (λy A R x u d1 d2 d3=>(jm y A R x u d1 d2 d3).none.mono (Ext.refl _ _) (λc _=>Q c) λ_ _=>rfl) kj mY λc=>⟨?_,?_⟩
   ·rintro(⟨g,bO⟩|bO)
    ·rw[df] at bO;cases bO;exact .inl rfl
    exact .inr ((jQ c).1 bO)
   rintro(rfl|bO)
   ·exact .inl ⟨_,df⟩
   exact .inr ((jQ c).2 bO)
  subst ju
  have:l=[]:=kE h0;subst this;refine .nil m2 _ λc bP=>?_;rcases bP with ⟨g,bO⟩|bO
  ·rw[df] at bO;cases bO
  rcases L.2 with ⟨_,_,eT⟩|⟨eN,qY,rk,c1,_⟩
  ·exact eT c bO
  rw[df] at c1;cases c1
 have U: ∀c,At Y F c-> ¬At Y k c:=λc C I=>hne (h.inj _ _ c I C);have Pe: ∀y A c,B y A c->At Y k c:=λy A c bP=> .inr ((fc c).2 ⟨y,A,bP⟩);have hjs: ∀(x:T),o[j]? =some x->j<(aO D m).size:=λx hx=>by rw[<-a4 o (bF aH)];exact(bR.1 hx).1
 have hrl:o.length=(aO D m).size:=a4 o (bF aH);by_cases W:j<o.length
 ·have BF:i*(aO D m).size+j<us.size:=by
   have:(i+1)*(aO D m).size<=p.length*(aO D m).size:=dx _ f;rw[dj] at this;omega
  have Hq:=a5 i j o o[j] us[i*(aO D m).size+j] aH (bs W) (hr BF);obtain⟨ux,ach⟩:=Hq.1 _ eR;refine .inr ⟨b,us,λy A c=>B y A c\/(y=i/\A=j/\At Y F c),by rw[u0 _ _ _ _ _ hne];exact aJ,a2,by simpa using a3,?_,?_,?_,?_,?_⟩
  ·intro r b7;rcases q3 b7 with b7|rfl
   ·exact a4 r b7
   simpa using hrl
  ·intro y A R x u cT cu eN;by_cases BG:y=i/\A=j
   ·obtain⟨rfl,rfl⟩:=BG;rw[hq f] at cT;cases cT;rw[hq W] at cu;cases cu;rw[hr BF] at eN;cases eN;refine⟨λv bJ=>bA bJ (bP v),λ_=>?_⟩;rw[hm];refine(ac4 _ ux).iff λc=>⟨λh=>?_,λh=> .inr ⟨rfl,rfl,h⟩⟩
    rcases h with h|⟨_,_,h⟩
    ·exact bA h (ach c)
    exact h
   have hold: ∃G hM,p[y]? =some G/\G[A]? =some hM/\hM=x:=by
    by_cases xu:y=i
    ·subst xu;rw[hq f] at cT;cases cT;rw[je (by intro e;exact BG ⟨rfl,e.symm⟩)] at cu;exact⟨o,x,aH,cu,rfl⟩
    rw[je (kH xu)] at cT;exact⟨R,x,cT,cu,rfl⟩
   obtain⟨G,hM,d1,d2,rfl⟩:=hold;have oW:=a5 y A G hM u d1 d2 eN;have Pw: ∀c,(B y A c\/(y=i/\A=j/\At Y F c))↔B y A c:=λc=>⟨λh=>by
    rcases h with h|⟨C,I,_⟩
    ·exact h
    exact bA ⟨C,I⟩ BG,.inl⟩
   refine⟨λv bJ=>?_,λcG=>?_⟩
   ·obtain⟨C,I⟩:=oW.1 v (ev _ bJ);exact⟨C.mono (Ext.refl _ _) (λc _=>Q c) hm' (Shaped.refl _ _),λc hx=>I c ((Pw c).1 hx)⟩
   refine((oW.2 λv bJ=>?_).mono (Ext.refl _ _) (λc _=>Q c) λ_ _=>rfl).iff Pw;rcases dN.1 bJ with e|bJ
   ·cases e;exact BG ⟨rfl,rfl⟩
   exact cG v bJ
  ·intro y A c X;rcases X with X|⟨rfl,rfl,X⟩
   ·simpa using hV y A c X
   refine⟨by simpa using f,O,λe=>?_⟩;subst e;exact U c X M
  ·intro i1 sq i2 iF c C I;rcases C with C|⟨rfl,rfl,C⟩<;>rcases I with I|⟨rfl,rfl,I⟩
   ·exact iw _ _ _ _ c C I
   ·exact bA (Pe _ _ c C) (U c I)
   ·exact bA (Pe _ _ c I) (U c C)
   exact⟨rfl,rfl⟩
  intro c;constructor
  ·rintro(⟨_,C|C⟩|⟨C,_⟩)
   ·obtain⟨y,A,X⟩:=(fc c).1 C;exact⟨y,A,.inl X⟩
   ·exact⟨i,j,.inr ⟨rfl,rfl,C⟩⟩
   exact bA rfl C
  rintro⟨y,A,X|⟨_,_,X⟩⟩
  ·exact .inl ⟨rfl,.inl ((fc c).2 ⟨y,A,X⟩)⟩
  exact .inl ⟨rfl,.inr X⟩
 exact bA (by rw[hrl];simpa[Nat.blt_eq] using ac2) W
theorem Rel.ID{K:Ctx}{s:S}(h:Rel K β s a w)(k:Nat)(e e':E)(q:s.H k=some e)(r:cF β w (own K β s.H) k e->cF β w (own K β s.H) k e'):
  Rel K β {s with H:=aU s.H k (some e')} a w:=by
 have c: ∀b,own K β (aU s.H k (some e')) b->own K β s.H b:=by
  rintro b (l|⟨id,m,n⟩)
  ·exact .inl l
  refine .inr ⟨id,λp=>?_,n⟩;by_cases o:id=k
  ·subst o;rw[q] at p;cases p
  rw[bX _ _ _ _ o] at m;exact m p
 refine {h with heap:= ?_,cZ:=λi=>(h.cZ i).mono (Ext.refl _ _) (λb _=>c b) (dr.refl _) (Shaped.refl _ _)};intro id x l;have l:aU s.H k (some e') id=some x:=l;by_cases o:id=k
 ·subst o;rw[bW] at l;cases l;obtain⟨m,n⟩:=h.heap id e q;exact⟨m,(r n).mono (Ext.refl _ _) (λb _=>c b) (dr.refl _) (λ_ h=>h) (Shaped.refl _ _) λ_ _=>rfl⟩
 rw[bX _ _ _ _ o] at l;obtain⟨m,n⟩:=h.heap id x l;exact⟨m,n.mono (Ext.refl _ _) (λb _=>c b) (dr.refl _) (λ_ h=>h) (Shaped.refl _ _) λ_ _=>rfl⟩
theorem WY{K:Ctx}{s:S}(k i j:Nat){gen:Nat}(A:s.H k=some (.a' G m gen c U))(q:c[i]? =some l)(C:l[j]? =some x)(D:(aO G m).eg j=none)(F:q5 j U=true):
  s.le K {s with H:=aU s.H k (some (.a' G m gen c ((i,j,.t x)::U)))}:=by
 intro I a w h;refine⟨I,h.ID k _ (.a' G m gen c ((i,j,.t x)::U)) A λo=>?_⟩;refine⟨o.1,?_⟩;rcases o.2 with ⟨aJ,a2,_⟩|⟨b,L,B,aJ,a2,a3,a4,a5,hV,iw,fc⟩
 ·rw[a2] at q;simp at q
 refine .inr ⟨b,L,B,aJ,a2,a3,a4,λQ R p W u r y X=>?_,hV,iw,fc⟩;have n:=a5 Q R p W u r y X;refine⟨λv bJ=>?_,λY=>n.2 λv bJ=>Y v (ev _ bJ)⟩;rcases dN.1 bJ with e|bJ
 ·simp only[Prod.mk.injEq] at e;obtain⟨rfl,rfl,rfl⟩:=e;rw[q] at r;cases r;rw[C] at y;cases y
  have:=n.2 λv=>y2 F _ _;rw[D] at this;cases this with|iW _ _ _ h f=>exact⟨.t _ _ h,f⟩
 exact n.1 v bJ
theorem UT{K:Ctx}{s:S}(k i j:Nat){D:List dO}{gen:Nat}{n:List (List T)}{Y:List (Nat×Nat×V)}(hk:s.H k=some (.a' D m gen n ((i,j,.t x)::Y)))(F:n[i]? =some l)(M:Nat.blt j (aO D m).size=true)(hm:(aO D m).eg j=none)(bP:q5 j Y=true):
  s.le K {s with H:=aU s.H k (some (.a' D m gen (n.set i (l.set j x)) Y))}:=by
 intro β a w h;refine⟨β,h.ID k _ (.a' D m gen (n.set i (l.set j x)) Y) hk λI=>?_⟩;refine⟨I.1,?_⟩;rcases I.2 with ⟨aJ,a2,_⟩|⟨b,us,B,aJ,a2,a3,a4,a5,hV,iw,fc⟩
 ·rw[a2] at F;simp at F
 have L:=(bR.1 F).1;have Q:l.length=(aO D m).size:=a4 l (bF F);have q:j<l.length:=by rw[Q];simpa[Nat.blt_eq] using M
 refine .inr ⟨b,us,B,aJ,a2,by simpa using a3,λr N=>?_,λy A R ka u G U eN=>?_,λy A c a8=>by simpa using hV y A c a8,iw,fc⟩
 ·rcases q3 N with N|rfl
  ·exact a4 r N
  simpa using Q
 by_cases C:y=i/\A=j
 ·obtain⟨rfl,rfl⟩:=C;rw[hq L] at G;cases G;rw[hq q] at U;cases U;have p:=(a5 y A l l[A] u F (bs q) eN).1 _ eR;refine⟨λv bJ=>bA bJ (y2 bP _ _),λ_=>?_⟩;rw[hm];obtain⟨h1,h2⟩:=p;cases h1 with|t _ _ h1=>exact .iW _ _ _ h1 h2
 have W: ∃o f,n[y]? =some o/\o[A]? =some f/\f=ka:=by
  by_cases X:y=i
  ·subst X;rw[hq L] at G;cases G;rw[je (by intro e;exact C ⟨rfl,e.symm⟩)] at U;exact⟨l,ka,F,U,rfl⟩
  rw[je (kH X)] at G;exact⟨R,ka,G,U,rfl⟩
 obtain⟨o,f,d1,d2,rfl⟩:=W;have p:=a5 y A o f u d1 d2 eN;refine⟨λv bJ=>p.1 v (ev _ bJ),λcG=>p.2 λv bJ=>?_⟩;rcases dN.1 bJ with e|bJ
 ·cases e;exact C ⟨rfl,rfl⟩
 exact cG v bJ
theorem V0{K:Ctx}{s:S}(k i j m2:Nat){C:List dO}{gen:Nat}{n:List (List T)}{X:List (Nat×Nat×V)}(hk:s.H k=some (.a' C m gen n ((i,j,.t .fj)::X)))(D:n[i]? =some l)(f:Nat.blt j (aO C m).size=true)(hm:(aO C m).eg j=some m2)(bP:q5 j X=true):
  s.le K {s with H:=aU s.H k (some (.a' C m gen (n.set i (l.set j (.aD []))) X))}:=by
 intro β a w h;refine⟨β,h.ID k _ (.a' C m gen (n.set i (l.set j (.aD []))) X) hk λG=>?_⟩;refine⟨G.1,?_⟩;rcases G.2 with ⟨aJ,a2,_⟩|⟨b,us,B,aJ,a2,a3,a4,a5,hV,iw,fc⟩
 ·rw[a2] at D;simp at D
 have I:=(bR.1 D).1;have L:l.length=(aO C m).size:=a4 l (bF D);have q:j<l.length:=by rw[L];simpa[Nat.blt_eq] using f
 refine .inr ⟨b,us,B,aJ,a2,by simpa using a3,λr M=>?_,λx y Q N u F R eN=>?_,λx y c a8=>by simpa using hV x y c a8,iw,fc⟩
 ·rcases q3 M with M|rfl
  ·exact a4 r M
  simpa using L
 by_cases A:x=i/\y=j
 ·obtain⟨rfl,rfl⟩:=A;rw[hq I] at F;cases F;rw[hq q] at R;cases R;have p:=(a5 x y l l[y] u D (bs q) eN).1 _ eR;refine⟨λv bJ=>bA bJ (y2 bP _ _),λ_=>?_⟩;rw[hm];obtain⟨h1,h2⟩:=p;cases h1 with|t _ _ h1=>cases h1 with|fj=>exact .nil _ _ h2
 have U: ∃o Y,n[x]? =some o/\o[y]? =some Y/\Y=N:=by
  by_cases W:x=i
  ·subst W;rw[hq I] at F;cases F;rw[je (by intro e;exact A ⟨rfl,e.symm⟩)] at R;exact⟨l,N,D,R,rfl⟩
  rw[je (kH W)] at F;exact⟨Q,N,F,R,rfl⟩
 obtain⟨o,Y,d1,d2,rfl⟩:=U;have p:=a5 x y o Y u d1 d2 eN;refine⟨λv bJ=>p.1 v (ev _ bJ),λcG=>p.2 λv bJ=>?_⟩;rcases dN.1 bJ with e|bJ
 ·cases e;exact A ⟨rfl,rfl⟩
 exact cG v bJ
theorem WX{K:Ctx}{s:S}(k:Nat){L:List dO}{gen:Nat}{e:List (List T)}{C:List (Nat×Nat×V)}(l:List dO)(o:Nat)(G:s.H k=some (.a' L m gen e C))(I:Nat.ble K.c' k=true)
  (h1:(aO l o).ty=(aO L m).ty) (Q:(aO l o).size=(aO L m).size) (h3:(aO l o).bm=[]):
  s.le K {s with H:=aU s.H k (some (.a' l o gen e C))}:=by
 have mh:=ea I;have D: ∀j,(aO l o).eg j=none:=λj=>by unfold dO.eg;rw[h3];rfl
 intro A a w h;have r:=(h.heap k _ G).2;have F:dr A (A.drop k):=λ_ _ _ y=> .inl y;rcases r.2 with ⟨aJ,a2,a3⟩|⟨b,us,B,aJ,a2,a3,a4,a5,hV,iw,fc⟩
 ·exact⟨_,h.drop k (.a' l o gen e C) (by rw[G];simp) ⟨r.1,.inl ⟨aJ,a2,λc n=>n.1 rfl⟩⟩⟩
 refine⟨_,h.drop k (.a' l o gen e C) (by rw[G];simp) ⟨r.1,.inr ⟨b,us,λ_ _ _=>False,aJ,by rw[h1];exact a2,by rw[Q];exact a3,by rw[Q];exact a4,?_,λ_ _ _ n=>n.elim,λ_ _ _ _ _ n=>n.elim,λc=>⟨λn=>(n.1 rfl).elim,λ⟨_,_,n⟩=>n.elim⟩⟩⟩⟩;intro i j R x u cT cu f;rw[Q] at f;have M:=a5 i j R x u cT cu f;generalize N:own K (A.drop k) (aU s.H k (some (.a' l o gen e C)))=hU;have p: ∀b,hU b->own K A s.H b:=by
  subst N;rintro b (y|⟨id,U,q⟩)
  ·exact .inl y
  refine .inr ⟨id,λW=>?_,ot q⟩;by_cases aH:id=k
  ·subst aH;rw[G] at W;cases W
  rw[bX _ _ _ _ aH] at U;exact U W
 refine⟨λv bJ=>⟨(M.1 v bJ).1.mono (Ext.refl _ _) (λb _=>p b) F (Shaped.refl _ _),λ_ n=>n⟩,λX=>?_⟩;rw[D];refine .iW _ _ _ ((M.2 X).yj p ?_) λ_ n=>n;intro c n y;subst N;have I:At A k c:= .inr ((fc c).2 ⟨i,j,n⟩);rcases y with y|⟨id,U,q⟩
 ·obtain⟨fZ,ih⟩:=h.il c y;rcases(h.fresh k c I).1 with Y|iC
  ·exact ih Y
  omega
 have:=h.inj _ _ _ (ot q) I;subst this;rcases q with ⟨g,q⟩|q
 ·have g3:A id=some (some c,g):=q;rw[aJ] at g3;cases g3;exact(hV i j _ n).2.2 rfl
 exact q.1 rfl
def E.gen:E->Option Nat
 | .cells _=>none
 | .arr _ g _ _=>some g
 | .a' _ _ g _ _=>some g
theorem oJ{g:Nat}{e:E}(h:cF D w X i e)(c:e.gen=some g):1<=g/\ ∃q,D i=some (q,g):=by
 cases e with
 |cells cs=>cases c
 |arr ty l size a=>
  cases c;exact⟨h.1,by rcases h.2 with ⟨k,_⟩|⟨b,n,k,_⟩<;>exact⟨_,k⟩⟩
 |a' o m l a p=>
  cases c;exact⟨h.1,th h⟩
theorem Rel.aeW{K:Ctx}{s:S}(h:Rel K β s a w)(k:Nat)(e e':E)(g:Nat)(j:s.H k=some e)(bO:e.gen=some g)(C:Array Value)(D:TypeId)
  (he: ∀(y:Map) (f:Nat->Prop) (F:World),F=w.alloc (.cells C D)->y k=some (some w.heap.size,g+1)->(∀b,y.n k b↔β.n k b)->(∀v u,bn β w (own K β s.H) v u->bn y F f v u)->
   (∀x u,cW w (own K β s.H) x u->cW F f x u)->(∀M m x u N,(∀b,N b->β.n k b)->gx M w (own K β s.H) m x u N->gx M F f m x u N)->cF y F f k e'):
  Rel K (β.put k (some (some w.heap.size,g+1))) {s with H:=aU s.H k (some e')} a (w.alloc (.cells C D)):=by
 have c: ∀X,Ext X w (w.alloc (.cells C D)):=λX=>Ext.alloc X w _;have G:s.u k=true:=(h.heap k _ j).1;obtain⟨I,oo,L⟩:=oJ (h.heap k _ j).2 bO;have l: ∀id b,At (β.put k (some (some w.heap.size,g+1))) id b->(id=k/\b=w.heap.size)\/At β id b:=λid b a8=>by
  rcases a8 with ⟨g,a8⟩|a8
  ·by_cases q:id=k
   ·subst q;rw[iT] at a8;cases a8;exact .inl ⟨rfl,rfl⟩
   rw[ek _ _ _ _ q] at a8;exact .inr (.inl ⟨g,a8⟩)
  exact .inr (.inr a8)
 have o: ∀b,b<w.heap.size->own K (β.put k (some (some w.heap.size,g+1))) (aU s.H k (some e')) b->own K β s.H b:=by
  rintro b hlt (Q|⟨id,B,R⟩)
  ·exact .inl Q
  rcases l id b R with ⟨rfl,rfl⟩|A
  ·omega
  refine .inr ⟨id,λT=>?_,A⟩;by_cases q:id=k
  ·subst q;rw[j] at T;cases T
  rw[bX _ _ _ _ q] at B;exact B T
 have U:Shaped β w (w.alloc (.cells C D)):=qh (c _);have W:=AM oo (some w.heap.size) I L;have Y: ∀v u,bn β w (own K β s.H) v u->bn (β.put k (some (some w.heap.size,g+1))) (w.alloc (.cells C D)) (own K (β.put k (some (some w.heap.size,g+1))) (aU s.H k (some e'))) v u:=
  λv u bJ=>bJ.mono (c _) o W U
 refine {ext:=h.ext.trans ((c λ_=>False).weaken λ_ _ h=>h.elim),nZ:=h.nZ,og:=h.og,il:=h.il,qv:=h.qv,base:= ?_,iK:=h.iK.ext h.ext.size (c _),low:=h.low,dJ:= ?_,eb:=λid b hid=>h.eb id b hid,inj:= ?_,fresh:= ?_,heap:= ?_,cZ:=λi=>Y _ _ (h.cZ i),nt:=h.nt,defers:=h.defers}
 ·exact h.base.grow k g oo (some w.heap.size) L I (iT _ _ _) (λb a8=>by cases a8;exact .inr h.ext.size) λid q=>ek _ _ _ _ q
 ·intro id hid;have r:s.u id=false:=hid;by_cases e:id=k
  ·subst e;rw[G] at r;cases r
  rw[ek _ _ _ _ e];exact h.dJ id r
 ·intro id V b B R;rcases l id b B with ⟨rfl,rfl⟩|A<;>rcases l V _ R with ⟨rfl,e⟩|h4
  ·rfl
  ·have:=(h.fresh _ _ h4).2;omega
  ·subst e;have:=(h.fresh _ _ A).2;omega
  exact h.inj _ _ _ A h4
 ·intro id b a8;rcases l id b a8 with ⟨rfl,rfl⟩|A
  ·exact⟨.inr h.ext.size,aX⟩
  exact⟨(h.fresh _ _ A).1,by have:=(h.fresh _ _ A).2;simp;omega⟩
 intro id e2 p;have p:aU s.H k (some e') id=some e2:=p;show s.u id=true/\cF _ _ (own K _ (aU s.H k (some e'))) id e2;by_cases q:id=k
 ·subst q;rw[bW] at p;cases p;exact⟨G,he _ _ _ rfl (iT _ _ _) (λ_=>Iff.rfl) Y (λx u Q=>Q.mono (c _) o) λM m x u N fr b7=>b7.mono (c _) o λb a8=>yv _ _ _ (h.fresh id b (.inr (fr b a8))).2⟩
 rw[bX _ _ _ _ q] at p;obtain⟨B,R⟩:=h.heap id e2 p;refine⟨B,R.mono (c _) o W (λx Q=>by rw[ek _ _ _ _ q];exact Q) U λb a8=>yv _ _ _ (h.fresh id b a8).2⟩
theorem Rel.abM{K:Ctx}{s:S}(h:Rel K β s a w)(k:Nat)(e e':E)(g:Nat)(q:Option Nat)(I:β k=some (q,g))(A:1<=g)(W:s.H k=some e)
  (X: ∀(r:Map) (L:Nat->Prop),r k=some (q,g+1)->(∀b,r.n k b↔β.n k b)->(∀v u,bn β w (own K β s.H) v u->bn r w L v u)->(∀b,L b->own K β s.H b)->cF r w L k e'):
  Rel K (β.put k (some (q,g+1))) {s with H:=aU s.H k (some e')} a w:=by
 have B:s.u k=true:=(h.heap k _ W).1;have c: ∀id b,At (β.put k (some (q,g+1))) id b->At β id b:=λid b a8=>by
  rcases a8 with ⟨g,a8⟩|a8
  ·by_cases m:id=k
   ·subst m;rw[iT] at a8;cases a8;exact .inl ⟨_,I⟩
   rw[ek _ _ _ _ m] at a8;exact .inl ⟨g,a8⟩
  exact .inr a8
 have o: ∀b,own K (β.put k (some (q,g+1))) (aU s.H k (some e')) b->own K β s.H b:=by
  rintro b (Q|⟨id,y,C⟩)
  ·exact .inl Q
  refine .inr ⟨id,λR=>?_,c id b C⟩;by_cases m:id=k
  ·subst m;rw[W] at R;cases R
  rw[bX _ _ _ _ m] at y;exact y R
 have D:=AM q q A I;have F: ∀v u,bn β w (own K β s.H) v u->bn (β.put k (some (q,g+1))) w (own K (β.put k (some (q,g+1))) (aU s.H k (some e'))) v u:=λv u Y=>Y.mono (Ext.refl _ _) (λb _=>o b) D (Shaped.refl _ _);refine {h with base:= ?_,dJ:= ?_,inj:= ?_,fresh:=λid b a8=>h.fresh id b (c id b a8),heap:= ?_,cZ:=λi=>F _ _ (h.cZ i)}
 ·exact h.base.grow k g q q I A (bW _ _ _) (λb a8=> .inl a8) λid m=>ek _ _ _ _ m
 ·intro id hid;have p:s.u id=false:=hid;by_cases e:id=k
  ·subst e;rw[B] at p;cases p
  rw[ek _ _ _ _ e];exact h.dJ id p
 ·intro id G b y C;exact h.inj id G b (c id b y) (c G b C)
 intro id U l;have l:aU s.H k (some e') id=some U:=l;show s.u id=true/\cF _ _ (own K _ (aU s.H k (some e'))) id U;by_cases m:id=k
 ·subst m;rw[bW] at l;cases l;exact⟨B,X _ _ (iT _ _ _) (λ_=>Iff.rfl) F o⟩
 rw[bX _ _ _ _ m] at l;obtain⟨y,C⟩:=h.heap id U l;exact⟨y,C.mono (Ext.refl _ _) (λb _=>o b) D (λx Q=>by rw[ek _ _ _ _ m];exact Q) (Shaped.refl _ _) λ_ _=>rfl⟩
theorem W9{size:Nat}{a:List (List T)}(o y p:List Value)(A:a.length=n)(B:o.length=n*size)(Q:y.length=c.length*size)(G: ∀e,e∈a->e.length=size)(C: ∀e,e∈c->e.length=size){R:Nat->Nat->T->Value->Prop}
  (I: ∀(i j:Nat) (e:List T) (x:T) (u:Value),a[i]? =some e->e[j]? =some x->o[i*size+j]? =some u->R i j x u)
  (L: ∀(i j:Nat) (e:List T) (x:T) (u:Value),c[i]? =some e->e[j]? =some x->y[i*size+j]? =some u->R (n+i) j x u):
  ∀(i j:Nat) (e:List T) (x:T) (u:Value),(a++c)[i]? =some e->e[j]? =some x->(o++y++p)[i*size+j]? =some u->R i j x u:=by
 intro i j e x u l w h;by_cases q:i<a.length
 ·rw[gJ q] at l;have m:j<size:=by rw[<-G e (bF l)];exact(bR.1 w).1
  have k:i*size+j<o.length:=by rw[B,<-A];exact mr q m
  rw[gJ bQ,gJ k] at h;exact I i j e x u l w h
 rw[gU O] at l;have m:j<size:=by rw[<-C e (bF l)];exact(bR.1 w).1
 have D:=(bR.1 l).1;have k:=mr (size:=size) D m;have F:o.length<=i*size+j:=by rw[B,<-A];have:=dx size (O:a.length<=i);omega
 have r:i*size+j-o.length=(i-a.length)*size+j:=by rw[B,<-A,s9];have:=dx size (O:a.length<=i);omega
 rw[gJ bQ,gU F,r] at h
 have:=L _ j e x u l w h;rw[show n+(i-a.length)=i by omega] at this;exact this
def hK(n:Nat):List (Nat×Nat×V)->List (Nat×Nat×V)
 | []=>[]
 |h::hs=>(n+h.1,h.2.1,h.2.2)::hK n hs
theorem zW{n:Nat}: ∀{hs:List (Nat×Nat×V)} {i j:Nat} {v:V},(i,j,v)∈hK n hs↔ ∃k,i=n+k/\(k,j,v)∈hs
 | [],_,_,_=>by simp[hK]
 |h::hs,i,j,v=>by
  simp only[hK,List.mem_cons,Prod.mk.injEq,zW (hs:=hs)];constructor
  ·rintro(⟨l,e,m⟩|⟨k,l,e⟩)
   ·exact⟨h.1,l,.inl (by obtain⟨a,b,c⟩:=h;cases e;cases m;rfl)⟩
   exact⟨k,l,.inr e⟩
  rintro⟨k,l,e|e⟩
  ·subst e;exact .inl ⟨l,rfl,rfl⟩
  exact .inr ⟨k,l,e⟩
def zG(n:Map)(w:World)(X:Nat->Prop)(c:Nat)(a:List (List T))(m:List (Nat×Nat×V))(u:Value):Prop:=
 ∃(b e l:Nat) (k:List Value),u= .slice (some ⟨b,e,none⟩) a.length l/\k.length=a.length*c/\
  (∀(j:Nat) x,k[j]? =some x->w.cell? ⟨b,e+j,none⟩=some x)/\(∀x,x∈k->x.oneCell'=true)/\
  ∀(i j:Nat) (h:List T) (x:T) (y:Value),a[i]? =some h->h[j]? =some x->k[i*c+j]? =some y->(∀v,(i,j,v)∈m->bn n w X v y)/\((∀v,(i,j,v)∉m)->cW w X x y)
def tt:List (Nat×Nat×V)->Bool
 | []=>true
 |h::a=>h.2.2.one&&tt a
theorem KS: ∀{a:List (Nat×Nat×V)} {i j:Nat} {v:V},tt a=true->(i,j,v)∈a->v.one=true
 | [],_,_,_,_,h=>by cases h
 |h::a,i,j,v,c,hm=>by
  simp only[tt,Bool.and_eq_true] at c;rcases dN.1 hm with rfl|hm
  ·exact c.1
  exact KS c.2 hm
def wA(d:dO)(n:Nat)(a:List (Nat×Nat×V)):Bool:=
 (List.range n).all λi=>d.bm.all λp=>a.any λh=>Nat.beq h.1 i&&Nat.beq h.2.1 p.1
theorem L2: ∀{l:List (Nat×Nat)} {j m:Nat},tT l j=some m->(j,m)∈l
 | [],_,_,h=>by cases h
 |p::l,j,m,h=>by
  simp only[tT] at h;cases a:Nat.beq p.1 j with
  |true=>rw[a] at h;cases h;rw[<-cK a];exact eR
  |false=>rw[a] at h;exact ev _ (L2 h)
theorem K1{d:dO}(h:wA d n hs=true){j:Nat}(e:i<n)(k:d.eg j=some m): ∃v,(i,j,v)∈hs:=by have l:=fw.1 h i (s0.2 e);have o:=fw.1 l (j,m) (L2 k);obtain⟨⟨a,b,v⟩,p,c⟩:=ig.1 o;simp only[Bool.and_eq_true] at c;have q:=cK c.1;have r:=cK c.2;subst q;subst r;exact⟨v,p⟩
theorem zG.of{K:Ctx}{s:S}(h:Rel K β s a w){g:Nat}{l:List dO}{A:List (Nat×Nat×V)}{u:Value}(hk:s.H k=some (.a' l m g c A))(cG:n=c.length)
  (hu:bn β w (own K β s.H) (.bc k g (aO l m).size 0 n) u) (f:0<c.length) (er:tt A=true) (bP:wA (aO l m) c.length A=true):zG β w (own K β s.H) (aO l m).size c A u:=by
 subst cG;have R:=(h.heap k _ hk).2;rcases R.2 with ⟨_,F,_⟩|⟨b,M,B,aJ,a2,a3,a4,a5,hV,iw,fc⟩
 ·rw[F] at f;simp at f
 rcases e8 hu aJ with ⟨U,ga,Ii,hh,rfl,W,hw,hZ,sd,cD,hm⟩|⟨W,_⟩
 ·cases W;rw[fY];have p: ∀(i j:Nat) (o:List T) (x:T) (y:Value),c[i]? =some o->o[j]? =some x->M[i*(aO l m).size+j]? =some y->
    (∀v,(i,j,v)∈A->bn β w (own K β s.H) v y)/\((∀v,(i,j,v)∉A)->cW w (own K β s.H) x y):=by
   intro i j o x y C F D;have G:=a5 i j o x y C F D;refine⟨λv q=>(G.1 v q).1,λI=>?_⟩;have N:=G.2 I;have L:(aO l m).eg j=none:=by
    cases X:(aO l m).eg j with
    |none=>rfl
    |some ag5=>
     obtain⟨v,q⟩:=K1 bP (bR.1 C).1 X;exact bA q (I v)
   rw[L] at N;cases N with|iW _ _ _ h _=>exact h
  refine⟨b,0,U,M.toList.take (c.length*(aO l m).size),rfl,bQ,λj x r=>?_,λx hx=>?_,λi j o x y C F D=>?_⟩
  ·rw[fy] at r;split at r
   ·simp only[World.cell?,a2,Nat.zero_add];simpa using r
   cases r
  ·obtain⟨j,r⟩:=j9.1 hx;rw[fy] at r;split at r
   ·rename_i Q;have eH:0<(aO l m).size:=Nat.pos_of_ne_zero λe=>by rw[e] at Q;omega
    have C:j / (aO l m).size<c.length:=by rw[vr eH];exact Q
    have F:=Nat.mod_lt j eH;have D:=a4 _ (fx C);have he:j / (aO l m).size*(aO l m).size+j%(aO l m).size=j:=by rw[Nat.mul_comm];exact Nat.div_add_mod ..
    obtain⟨c1,c2⟩:=p (j / (aO l m).size) (j%(aO l m).size) _ _ x (bs C) (bs (by omega:j%(aO l m).size<(c[j / (aO l m).size]).length)) (by rw[he];simpa using r);by_cases q: ∃v,(j / (aO l m).size,j%(aO l m).size,v)∈A
    ·obtain⟨v,q⟩:=q;exact(c1 v q).iJ (KS er q)
    exact(c2 λv Y=>q ⟨v,Y⟩).iJ
   cases r
  rw[fy] at D;split at D
  ·exact p i j o x y C F (by simpa using D)
  cases D
 cases W
theorem Rel.abL{K:Ctx}{s:S}{t:TypeId}{u:TypeDesc}{z:Value}{gen G bytes:Nat}(h:Rel K β s a w)(k:Nat)(r:List dO)(m:Nat)(l o:List (List T))(C:List (Nat×Nat×V))(hk:s.H k=some (.a' r m gen l []))(ur:(aO r m).size=G)(ng:(aO r m).ty=e)(ty:TypeId)
  (hu:K.P.underlying t=some (.slice e)) (he:cd K.P e u z G bytes) (qm:z.cells.size=G) (hs: ∀p,p∈l->p.length=G) (kV: ∀p,p∈o->p.length=G) (v x:Value) (bJ:bn β w (own K β s.H) (.bc k gen G 0 l.length) v)
  (hx:zG β w (own K β s.H) G o C x) (HN:0<o.length) (acH:wA (aO r m) o.length C=true) (a8:(l.length+o.length)*bytes<=140737488355328) (hm:l.length+o.length<=maxLen):
  ∃du w' D,(Builtin.append_ #[t,t] ty #[v,x]).run K.P w= .ok du w'/\Rel K D {s with H:=aU s.H k (some (.a' r m (gen+1) (l++o) (hK l.length C)))} a w'/\
   bn D w' (own K D (aU s.H k (some (.a' r m (gen+1) (l++o) (hK l.length C))))) (.bc k (gen+1) G 0 (l.length+o.length)) du:=by
 subst ur;subst ng;obtain⟨q,df⟩:=th (h.heap k _ hk).2;have iB:=(h.heap k _ hk).2.1;obtain⟨_,i,mf,hi2,N,uv⟩:=id he;have hm':l.length+o.length<=9223372036854775807:=by unfold maxLen at hm;omega
 have jt:=(h.heap k _ hk).2.2;have xz: ∀p,p∈l++o->p.length=(aO r m).size:=λp sf=>by
  rcases dZ.1 sf with h|h
  ·exact hs p h
  exact kV p h
 obtain⟨cu,off,Bs,Q,sl,n0,xC,kX,hwr⟩:=hx;have HZ: ∀j y,Q[j]? =some y->w.cell? ((⟨cu,off,none⟩:Addr).add j)=some y:=λj y hy=>by rw[iU];exact xC j y hy
 have kr:(l.length+o.length)*i.bytes<=140737488355328:=by rw[uv];exact a8
 have ac5: ∀i j,i<o.length->(∀v,(i,j,v)∉C)->(aO r m).eg j=none:=λi j aH jv=>by
  cases hkk:(aO r m).eg j with
  |none=>rfl
  |some ag5=>
   obtain⟨v,bJ⟩:=K1 acH aH hkk;exact bA bJ (jv v)
 -- the cells of old and new rows, in whatever world
 have f: ∀(B:Nat->Nat->Nat->Prop) (D:Map) (w':World) (hU:Nat->Prop),(∀v u,bn β w (own K β s.H) v u->bn D w' hU v u)->(∀x u,cW w (own K β s.H) x u->cW w' hU x u)->
   (∀i j c,B i j c->i<l.length)-> ∀(X rest:List Value),X.length=l.length*(aO r m).size->
   (∀(i j:Nat) (p:List T) (x:T) (u:Value),l[i]? =some p->p[j]? =some x->X[i*(aO r m).size+j]? =some u->gx r w' hU ((aO r m).eg j) x u (B i j))->
   ∀(i j:Nat) (p:List T) (x:T) (u:Value),(l++o)[i]? =some p->p[j]? =some x->(X++Q++rest)[i*(aO r m).size+j]? =some u->Cell r m (hK l.length C) D w' hU i j x u (B i j):=by
  intro B D w' hU kU lG fD X rest o4 se;refine W9 X Q rest rfl o4 n0 hs kV (R:=λi j x u=>Cell r m (hK l.length C) D w' hU i j x u (B i j)) (λi j p x u h1 h2 h3=>⟨λv bJ=>?_,λ_=>se i j p x u h1 h2 h3⟩) λi j p x u h1 h2 h3=>⟨λv bJ=>?_,λjv=>?_⟩
  ·obtain⟨iD,e1,_⟩:=zW.1 bJ
   have:=(bR.1 h1).1;omega
  ·obtain⟨iD,e1,e2⟩:=zW.1 bJ
   have:iD=i:=O
   subst this;exact⟨kU _ _ ((hwr iD j p x u h1 h2 h3).1 v e2),λc I=>by have:=fD _ _ _ I;omega⟩
  have PH: ∀v,(i,j,v)∉C:=λv bJ=>jv v (zW.2 ⟨i,rfl,bJ⟩);rw[ac5 i j (bR.1 h1).1 PH];exact .iW _ _ _ (lG _ _ ((hwr i j p x u h1 h2 h3).2 PH)) (λc I=>by have:=fD _ _ _ I;omega)
 -- a new block
 have finish: ∀(B:Nat->Nat->Nat->Prop) (X:List Value) (A:Nat),X.length=l.length*(aO r m).size->l.length+o.length<=A->A<=maxLen->
   (∀(i j:Nat) (p:List T) (x:T) (u:Value),l[i]? =some p->p[j]? =some x->X[i*(aO r m).size+j]? =some u->gx r w (own K β s.H) ((aO r m).eg j) x u (B i j))->
   (∀i j c,B i j c->i<l.length/\j<(aO r m).size)->(∀i j iD cV c,B i j c->B iD cV c->i=iD/\j=cV)->(∀c,β.n k c↔ ∃i j,B i j c)->
   ∃D,Rel K D {s with H:=aU s.H k (some (.a' r m (gen+1) (l++o) (hK l.length C)))} a (w.drew.alloc (.cells (X.toArray++Q.toArray++Builtin.zeroCells z.cells (A-(l.length+o.length))) (aO r m).ty))/\
    bn D (w.drew.alloc (.cells (X.toArray++Q.toArray++Builtin.zeroCells z.cells (A-(l.length+o.length))) (aO r m).ty)) (own K D (aU s.H k (some (.a' r m (gen+1) (l++o) (hK l.length C))))) (.bc k (gen+1) (aO r m).size 0 (l.length+o.length)) (.slice (some ⟨w.heap.size,0,none⟩) (l.length+o.length) A):=by
  intro B X A o4 Pr hcm HU fD cv fr;have xy:(X.toArray++Q.toArray++Builtin.zeroCells z.cells (A-(l.length+o.length))).size=A*(aO r m).size:=by
   simp only[Array.size_append,List.size_toArray,size_zeroCells,qm,o4,n0,<-Nat.add_mul];congr 1;omega
  have uu:=vN h;have sb:=uu.aeW k _ (.a' r m (gen+1) (l++o) (hK l.length C)) gen hk rfl (X.toArray++Q.toArray++Builtin.zeroCells z.cells (A-(l.length+o.length))) (aO r m).ty
   (λD hU w' hw' H2 cG kU lG se=>⟨O,.inr ⟨w.heap.size,_,B,H2,by subst hw';exact jl w.drew _,by rw[xy,dB];exact dx _ Pr,xz,
    λi j p x u aJ a2 a3=>f B D w' hU (λv u HX=>kU v u (HX.mono (Ext.drew _ _) (λ_ _ h=>h) (dr.refl _) (qh (Ext.drew _ _)))) (λx u H0=>lG x u (H0.mono (Ext.drew _ _) λ_ _ h=>h)) (λi j c I=>(fD i j c I).1) X (Builtin.zeroCells z.cells (A-(l.length+o.length))).toList o4
     (λi j p x u cT cu eN=>se r _ x u (B i j) (λc I=>(fr c).2 ⟨i,j,I⟩) ((HU i j p x u cT cu eN).mono (Ext.drew _ _) (λ_ _ h=>h) λ_ _=>rfl)) i j p x u aJ a2 (by simpa[<-Array.getElem?_toList] using a3),
    λi j c I=>⟨by have:=(fD i j c I).1;rw[dB];omega,(fD i j c I).2,λe0=>by have:=(h.fresh k c (.inr ((fr c).2 ⟨i,j,I⟩))).2;rw[e0] at this;exact Nat.lt_irrefl _ this⟩,cv,λc=>(cG c).trans (fr c)⟩⟩)
  refine⟨_,sb,?_⟩;have h7:bn (β.put k (some (some w.heap.size,gen+1))) (w.drew.alloc (.cells (X.toArray++Q.toArray++Builtin.zeroCells z.cells (A-(l.length+o.length))) (aO r m).ty)) (own K (β.put k (some (some w.heap.size,gen+1))) (aU s.H k (some (.a' r m (gen+1) (l++o) (hK l.length C))))) (.bc k (gen+1) (aO r m).size 0 (l.length+o.length)) (.slice (some ⟨w.heap.size,0*(aO r m).size,none⟩) (l.length+o.length) A):=by
   have ql:=jl w.drew (.cells (X.toArray++Q.toArray++Builtin.zeroCells z.cells (A-(l.length+o.length))) (aO r m).ty);refine .bc k (gen+1) (aO r m).size 0 _ A w.heap.size (A*(aO r m).size) (aO r m).ty O (bW _ _ _) aX ?_ (by rw[dp]) Pr hcm;have HJ:(w.drew.alloc (.cells (X.toArray++Q.toArray++Builtin.zeroCells z.cells (A-(l.length+o.length))) (aO r m).ty)).heap[w.heap.size]? =some (.cells (X.toArray++Q.toArray++Builtin.zeroCells z.cells (A-(l.length+o.length))) (aO r m).ty):=ql;unfold World.shape?;rw[HJ];simp only[xy]
  rw[fY] at h7;exact h7
 subst sl;rcases e8 bJ df with ⟨U,b,n,hh,rfl,kq,hw,hZ,sd,cD,mg⟩|⟨kq,_,Hz,rfl⟩
 rotate_left
 ·have o2:l=[]:=kE Hz;subst o2;have L:=run_append_nil (P:=K.P) w t ty (aO r m).ty i z hu mf hi2 ⟨cu,off,none⟩ o.length Bs Q (by rw[N];exact n0) HZ HN O (by simp at kr;omega);subst kq;have adl: ∀c,¬β.n k c:=by
   rcases jt with ⟨_,_,h0⟩|⟨b,X,B,h1,_⟩
   ·exact h0
   rw[df] at h1;cases h1
  obtain⟨D,f1,f2⟩:=finish (λ_ _ _=>False) [] (grownCap w o.length 0 (aO r m).ty) aX (by simpa using grownCap_ge w o.length 0 (aO r m).ty) (grownCap_le_maxLen w _ 0 (aO r m).ty (by unfold maxLen;simp at hm';omega)) (λi j p x u h1 _ _=>by simp at h1)
   (λ_ _ _ h=>h.elim) (λ_ _ _ _ _ h=>h.elim) λc=>⟨λI=>bA I (adl c),λ⟨_,_,h⟩=>h.elim⟩
  simp only[List.length_nil,Nat.zero_add] at f1 f2⊢;exact⟨_,_,D,by rw[L];simp,f1,f2⟩
 subst kq;rcases jt with ⟨g1,_⟩|⟨ga,F,B,g1,g2,g3,g4,g5,g6,g7,g8⟩
 ·rw[df] at g1;cases g1
 rw[df] at g1;cases g1;have kT:F.size=U*(aO r m).size:=by
  unfold World.shape? at hZ;rw[g2] at hZ;simp at hZ;rw[<-sd] at hZ;rw[dp] at hZ;exact hZ.2
 have sg:(F.toList.take (l.length*(aO r m).size)).length=l.length*(aO r m).size:=bQ
 have lG: ∀(i j:Nat) (p:List T) (x:T) (u:Value),l[i]? =some p->p[j]? =some x->(F.toList.take (l.length*(aO r m).size))[i*(aO r m).size+j]? =some u->gx r w (own K β s.H) ((aO r m).eg j) x u (B i j):=by
  intro i j p x u h1 h2 h3;rw[fy] at h3;split at h3
  ·exact(g5 i j p x u h1 h2 (by simpa using h3)).none
  cases h3
 simp only[Nat.zero_mul];by_cases Y:l.length+o.length<=U
 ·have ni:l.length*(aO r m).size+Q.length<=F.size:=by rw[n0,kT,<-dj];exact dx _ Y
  have L:=run_append_room (P:=K.P) w t ty (aO r m).ty i hu mf b l.length U F g2 ⟨cu,off,none⟩ o.length Bs Q (by rw[N];exact n0) HZ kX Y (by rw[N];exact ni);rw[N] at L;have M:(F.toList.take (l.length*(aO r m).size)++Q++F.toList.drop (l.length*(aO r m).size+Q.length)).toArray.size=F.size:=by
   simp;omega
  generalize lE:w.setRow b (F.toList.take (l.length*(aO r m).size)++Q++F.toList.drop (l.length*(aO r m).size+Q.length)).toArray=W at L;have adq:own K β s.H b:= .inr ⟨k,by rw[hk];simp,.inl ⟨_,df⟩⟩;have Hs:Ext (own K β s.H) w W:=by
   subst lE;exact⟨rfl,rfl,rfl,aX,λkk _ hx=>setRow_other _ _ _ _ λe0=>hx (e0▸adq)⟩
  have adE:Shaped β w W:=by subst lE;intro ga _;exact Dy g2 M ga
  have hrel:=h.setRow k b (.inl ⟨_,df⟩) F (aO r m).ty g2 (F.toList.take (l.length*(aO r m).size)++Q++F.toList.drop (l.length*(aO r m).size+Q.length)).toArray M (.a' r m gen (l++o) (hK l.length C)) (by rw[hk];simp)
   ⟨iB,Or.inr ⟨b,_,B,df,setRow_heap _ _ _ _ _ _ g2,by rw[M,kT,dB];exact dx _ Y,xz,
    λi j p x u aJ a2 a3=>by
     rw[lE];exact f B β W (own K β s.H) (λv u HX=>HX.mono Hs (λ_ _ h=>h) (dr.refl _) adE) (λx u H0=>H0.mono Hs λ_ _ h=>h) (λi j c I=>(g6 i j c I).1) _ _ sg
      (λi j p x u cT cu eN=>(lG i j p x u cT cu eN).mono Hs (λ_ _ h=>h) λc I=>by subst lE;exact setRow_other _ _ _ _ (g6 i j c I).2.2) i j p x u aJ a2 (by simpa using a3),
    λi j c I=>⟨by have:=(g6 i j c I).1;rw[dB];omega,(g6 i j c I).2⟩,g7,g8⟩⟩
  rw[lE] at hrel;have xw:=hrel.abM k (.a' r m gen (l++o) (hK l.length C)) (.a' r m (gen+1) (l++o) (hK l.length C)) gen (some b) df iB (bW _ _ _) (λD hU H2 cG kU ha=>by
   have hE:=(hrel.heap k _ (bW _ _ _)).2;rcases hE.2 with ⟨e1,_⟩|⟨ga,e3,Rc,e1,e2,kQ,xd,xe,agO,agP,agQ⟩
   ·rw[df] at e1;cases e1
   rw[df] at e1;cases e1;exact⟨O,.inr ⟨b,e3,Rc,H2,e2,kQ,xd,λi j p x u c1 c2 eT=>⟨λv bJ=>⟨kU _ _ ((xe i j p x u c1 c2 eT).1 v bJ).1,((xe i j p x u c1 c2 eT).1 v bJ).2⟩,λjv=>((xe i j p x u c1 c2 eT).2 jv).mono (Ext.refl _ _) (λc _=>ha c) λ_ _=>rfl⟩,agO,agP,λc=>(cG c).trans (agQ c)⟩⟩)
  have xl:aU (aU s.H k (some (.a' r m gen (l++o) (hK l.length C)))) k (some (.a' r m (gen+1) (l++o) (hK l.length C)))=aU s.H k (some (.a' r m (gen+1) (l++o) (hK l.length C))):=by
   funext j;by_cases hj:j=k
   ·subst hj;rw[bW,bW]
   rw[bX _ _ _ _ hj,bX _ _ _ _ hj,bX _ _ _ _ hj]
  simp only[xl] at xw;refine⟨_,_,_,L,xw,?_⟩;have h7:bn (β.put k (some (some b,gen+1))) W (own K (β.put k (some (some b,gen+1))) (aU s.H k (some (.a' r m (gen+1) (l++o) (hK l.length C))))) (.bc k (gen+1) (aO r m).size 0 (l.length+o.length)) (.slice (some ⟨b,0*(aO r m).size,none⟩) (l.length+o.length) U):=by
   refine .bc k (gen+1) (aO r m).size 0 _ U b (U*(aO r m).size) (aO r m).ty O (bW _ _ _) (by subst lE;simpa using hw) ?_ (by rw[dp]) Y mg;subst lE;unfold World.shape?;rw[setRow_heap _ _ _ _ _ _ g2];simp only[M,kT]
  rw[fY] at h7;exact h7
 have holds: ∀j u,(F.toList.take (l.length*(aO r m).size))[j]? =some u->w.cell? ((⟨b,0,none⟩:Addr).add j)=some u:=by
  intro j u hj;rw[iU,dp];rw[fy] at hj;split at hj
  ·simp only[World.cell?,g2];simpa using hj
  cases hj
 have L:=run_append_grow (P:=K.P) w t ty (aO r m).ty i z hu mf hi2 ⟨b,0,none⟩ l.length U (F.toList.take (l.length*(aO r m).size)) (by rw[N];exact sg) holds ⟨cu,off,none⟩ o.length Bs Q (by rw[N];exact n0) HZ O O (growslice_fits O kr);obtain⟨D,f1,f2⟩:=finish B (F.toList.take (l.length*(aO r m).size)) (grownCap w (l.length+o.length) U (aO r m).ty) sg (grownCap_ge w _ U (aO r m).ty) (grownCap_le_maxLen w _ U (aO r m).ty hm) lG (λi j c I=>⟨(g6 i j c I).1,(g6 i j c I).2.1⟩) g7 g8;exact⟨_,_,D,L,f1,f2⟩
def pX(a:Nat)(c:List V):List (Nat×Nat×V)->List (Nat×Nat×V)
 | []=>[]
 |h::e=>(h.1,h.2.1,match Nat.ble a h.2.1,c[h.2.1-a]? with
  |true,some v=>v
  |_,_=>h.2.2)::pX a c e
theorem Am{off:Nat}{vs:List V}{i j:Nat}{v:V}: ∀{a:List (Nat×Nat×V)},(i,j,v)∈a-> ∃c,(i,j,c)∈pX off vs a
 |h::a,hm=>by
  rcases dN.1 hm with rfl|hm
  ·exact⟨_,eR⟩
  obtain⟨c,e⟩:=Am hm;exact⟨c,ev _ e⟩
theorem zl{off:Nat}{vs:List V}{i j:Nat}{v:V}: ∀{c:List (Nat×Nat×V)},(i,j,v)∈pX off vs c-> ∃a,(i,j,a)∈c/\(off<=j-> ∀x,vs[j-off]? =some x->v=x)/\(¬(off<=j/\j<off+vs.length)->v=a)
 |h::c,hm=>by
  rcases dN.1 hm with e|hm
  ·simp only[Prod.mk.injEq] at e;obtain⟨rfl,rfl,rfl⟩:=e;refine⟨h.2.2,eR,λl x k=>?_,λm=>?_⟩
   ·rw[Nat.ble_eq_true_of_le l,k]
   split
   ·rename_i v n k
    have:=(bR.1 k).1
    have:=ea n;exact bA ⟨this,O⟩ m
   rfl
  obtain⟨a,o,p⟩:=zl hm;exact⟨a,ev _ o,p⟩
theorem Wr{gen:Nat}{a:List (List T)}(h:cF D w X k (.a' G m gen a U)){c:T}(o:a[i]? =some l)(r:l[n]? =some c):
  ∃(b:Nat) (e:Array Value) (N:Nat->Prop) (x:Value),D k=some (some b,gen)/\w.heap[b]? =some (.cells e (aO G m).ty (0,0))/\e[i*(aO G m).size+n]? =some x/\Cell G m U D w X i n c x N:=by
 rcases h.2 with ⟨_,q,_⟩|⟨b,e,B,y,q,I,A,C,_⟩
 ·rw[q] at o;simp at o
 have F:i<a.length:=(bR.1 o).1;have L:n<(aO G m).size:=by
  have:=(bR.1 r).1;rw[A l (bF o)] at this;exact this
 have p:i*(aO G m).size+n<e.size:=by
  have:(i+1)*(aO G m).size<=a.length*(aO G m).size:=dx _ F;rw[dj] at this;omega
 exact⟨b,e,_,e[i*(aO G m).size+n],y,q,by simp[p],C i n l c _ o r (by simp[p])⟩
section nG
variable {P:Program} {H:Nat->Option E} {d:Option Tmp} {ty:TypeId} {pos:String} {af:Array Edge} {g:Option (Nat×Bool)}
variable {t:TypeId} {u:TypeDesc} {z:Value} {size bytes:Nat}
theorem C7(x:Operand)(o gen i a:Nat)(n:List dO)(m:Nat)(B:Nat)(e:List (List T))(p:List (Nat×Nat×V))(l:List T)(c:T)(v:V)(G:cd P t u z size bytes)(I:kh u=false)(L:H o=some (.a' n m gen e p))(Q:(aO n m).size=B)
  (R:e[i]? =some l) (U:l[a]? =some c) (q:(i,a,v)∈p\/((∀v,(i,a,v)∉p)/\(aO n m).eg a=none/\v= .t c)):
  b9 P H ⟨d,.load t x,ty,pos,af,g⟩ [.cB o gen B i a] v:=by
 subst Q;intro β w X ρ W Y;obtain⟨b,us,N,y,f,j,C,D⟩:=Wr (W o _ L) R U;obtain⟨ga,r,M⟩:=om Y.1 f;cases r;have hlt:=(jc.1 C).1;have k:w.cell? ⟨b,i*(aO n m).size+a,none⟩=some y:=by
  simp only[World.cell?,j];exact C
 refine⟨y,?_,?_⟩
 ·simp[execOp,M,Instr.loadAt,Instr.sureAddr,G.CG w I k]
 rcases q with q|⟨A,hk,rfl⟩
 ·exact(D.1 v q).1
 have F:=D.2 A;rw[hk] at F;cases F with|iW _ _ _ h _=>exact .t _ _ h
theorem JM(x:Operand)(A gen i a:Nat)(k:List dO)(m:Nat)(L:Nat)(e:List (List T))(Q:List (Nat×Nat×V))(h:List T)(C:List V)(R:cd P t u z size bytes)(U:kh u=true)(W:H A=some (.a' k m gen e Q))(Y:(aO k m).size=L)
  (n:e[i]? =some h) (cD:a+size<=h.length) (o:C.length=size) (f: ∀j v,C[j]? =some v->(i,a+j,v)∈Q):
  b9 P H ⟨d,.load t x,ty,pos,af,g⟩ [.cB A gen L i a] (.agg C):=by
 subst Y;intro β w X ρ M N;rcases(M A _ W).2 with ⟨_,D,_⟩|⟨b,F,B,h1,D,h3,h4,h5,_⟩
 ·rw[D] at n;simp at n
 obtain⟨ga,G,hx⟩:=om N.1 h1;cases G;have aH:i<e.length:=(bR.1 n).1;have hrl:h.length=(aO k m).size:=h4 h (bF n);have p: ∀j,j<size->i*(aO k m).size+a+j<F.size:=by
  intro j q
  have:(i+1)*(aO k m).size<=e.length*(aO k m).size:=dx _ aH;rw[dj] at this;omega
 have l: ∀j,j<size->w.cell? ⟨b,i*(aO k m).size+a+j,none⟩=some (F.getD (i*(aO k m).size+a+j) undef):=λj q=>by
  have:=p j q;simp[World.cell?,D,this]
 refine⟨_,by simp[execOp,hx,Instr.loadAt,Instr.sureAddr,R.CH w U l];rfl,?_⟩;refine .agg _ _ (by simp[o]) λj c v r y=>?_;have q:j<size:=by
  have:=(bR.1 r).1;omega
 simp only[List.getElem?_toArray,List.getElem?_map,List.getElem?_range q,Option.map_some,Option.some.injEq] at y;have I:=bs (O:a+j<h.length)
 have:=p j q;have h6:=(h5 i (a+j) h _ F[i*(aO k m).size+a+j] n I (by rw[<-pE];simp[this])).1 c (f j c r);rw[<-y];simp only[Array.getElem?_eq_getElem this,Option.getD_some];exact h6.1
theorem TE(x:Operand)(n gen o i c k a:Nat)(C:Array Field)(h:Field)(F:TypeDesc)(G:Value)(l p:Nat)(I:P.underlying t=some (.struct C))(L:C[k]? =some h)(Q:h.offset=a)(r:cd P h.type F G l p)(y:(l==0)=false)
  (e:E) (R:H n=some e) (U:e.gen=some gen):b9 P H ⟨d,.fieldAddr t x k,ty,pos,af,g⟩ [.cB n gen o i c] (.cB n gen o i (c+a)):=by
 intro j w X v W Y;obtain⟨A,q,D⟩:=oJ (W n _ R) U;obtain⟨b,B,f⟩:=om Y.1 D;subst B;have m:l≠0:=by simpa using y
 refine⟨.pointer (some ⟨b,i*o+(c+a),none⟩),?_,.cB _ _ _ _ _ _ A D⟩;simp[execOp,f,Instr.fieldAt,run_underlying I,L,Instr.sureAddr,fieldPlace,r.run_sizeOf,m,iU,Q,Nat.add_assoc]
theorem TC(x y:Operand)(e:TypeId)(k gen a c n:Nat)(r:E)(C:H k=some r)(D:r.gen=some gen)(F:P.underlying t=some (.slice e))(G:cd P e u z size bytes)(W:n<c):
  b9 P H ⟨d,.indexAddr t x y,ty,pos,af,g⟩ [.bc k gen size a c,.t (.int .i64 (n:Nat))] (.cB k gen size (a+n) 0):=by
 intro Y w X I L l;have cG:=dD l.2.1;generalize A:I x=v at l;have i:=l.1;simp only[A] at i;obtain⟨o,q,B⟩:=oJ (L k _ C) D;rcases e8 i B with ⟨Q,b,m,R,rfl,p,f,j,U,M,N⟩|⟨_,_,T,_⟩
 ·subst p;refine⟨.pointer (some ⟨b,(a+n)*size+0,none⟩),?_,.cB _ _ _ _ _ b o B⟩;simp[execOp,A,cG,Instr.indexAt,asIntOf,run_underlying F,G.run_sizeOf,iU,Nat.add_mul];intro h;omega
 omega
theorem U5(x:Operand)(e:TypeId)(l gen h i c:Nat)(p:P.underlying t=some (.slice e))(n:E)(r:H l=some n)(y:n.gen=some gen):b9 P H ⟨d,.call {callee:= .builtin .len,args:= #[x],argTypes:= #[t]},ty,pos,af,g⟩ [.bc l gen h i c] (.t (.int .i64 (c:Nat))):=by
 intro A w X o B C;obtain⟨a,cap,k⟩: ∃a cap,o x= .slice a c cap:=by
  have D:bn A w X (.bc l gen h i c) (o x):=C.1;obtain⟨_,q,F⟩:=oJ (B l _ r) y;rcases e8 D F with ⟨cap,b,m,G,k,_⟩|⟨_,_,I,k⟩
  ·exact⟨_,_,k⟩
  exact⟨none,0,by rw[I];exact k⟩
 refine⟨.int .i64 (c:Nat),?_,.t _ _ (.int _ _)⟩;simp[execOp,resolve,invoke,builtin,k,Builtin.len_,run_underlying p,goInt]
end nG
section ops
variable {K:Ctx} {s:S} {d:Option Tmp} {ty:TypeId} {pos:String} {af:Array Edge} {g:Option (Nat×Bool)}
variable {t:TypeId} {u:TypeDesc} {z:Value} {gen size bytes:Nat}
theorem Xi(k b f j:Nat)(x y:Operand)(e:TypeId)(r A:List dO)(m v:Nat)(h c:List (List T))(l:List (Nat×Nat×V))(M: ∀i,d=some i->Nat.blt i K.nt=true)(N:s.get x= .bc k gen size 0 h.length)(hy:s.get y= .bc b f size 0 j)(hk:s.H k=some (.a' r m gen h []))(G:s.H b=some (.a' A v f c l))
  (I:aO A v=aO r m) (L:j=c.length) (hu:K.P.underlying t=some (.slice e)) (he:cd K.P e u z size bytes) (R:Nat.beq z.cells.size size=true) (U:(aO r m).size=size) (ng:(aO r m).ty=e) (hs: ∀n,n∈h->n.length=size) (W: ∀n,n∈c->n.length=size)
  (o:0<c.length) (p:wA (aO r m) c.length l=true) (er:tt l=true) (a8:(h.length+c.length)*bytes<=140737488355328) (hm:h.length+c.length<=9223372036854775807):
  dS K ⟨d,.call {callee:= .builtin .append,args:= #[x,y],argTypes:= #[t,t]},ty,pos,af,g⟩ s
   (({s with H:=aU s.H k (some (.a' r m (gen+1) (h++c) (hK h.length l)))}:S).put d (.bc k (gen+1) size 0 (h.length+c.length))):=by
 intro β a w next Q F X
 have B:=F.get x;rw[N] at B;have C:=F.get y;rw[hy] at C;have q:=zG.of F G L (by rw[I,U];exact C) o er (by rw[I];exact p);rw[I,U] at q;obtain⟨du,w',Y,h1,h2,h4⟩:=F.abL k r m h c l hk U ng ty hu he (cK R) hs W _ _ B q o p a8 (by unfold maxLen;omega);unfold Oper.wp;have D:(execOp a.eval ⟨d,.call {callee:= .builtin .append,args:= #[x,y],argTypes:= #[t,t]},ty,pos,af,g⟩).run K.P w= .ok (.value du) w':=by
  simp[execOp,resolve,invoke,builtin,h1]
 rw[D];exact X Y _ w' (h2.put d M h4)
theorem T0(x y:Operand)(id i off:Nat)(k:List dO)(m:Nat)(o:List (List T))(F:List T)(v:V)(hs:List (Nat×Nat×V))(hx:s.get x= .cB id gen size i off)(bJ:s.get y=v)(si:v.val=true)(nj:nw v.cs=true)
  (hH:s.H id=some (.a' k m gen o hs)) (eH:(aO k m).size=size) {l:Nat} (eZ:cd K.P t u z l bytes) (HT:v.cs.length=l) (HN:0<l) (G:o[i]? =some F) (cD:off+l<=F.length)
  (mf: ∀n cV U,(n,cV,U)∈hs->off<=cV->cV<off+l->n=i) (hi2: ∀j,j<l-> ∃U,(i,off+j,U)∈hs):
  dS K ⟨none,.store t x y,ty,pos,af,g⟩ s {s with H:=aU s.H id (some (.a' k m gen o (pX off v.cs hs)))}:=by
 subst eH;intro β a w next Q b7 hk
 have xD:=b7.get x;rw[hx] at xD;have hE:=(b7.heap id _ hH).2;rcases hE.2 with ⟨_,h2,_⟩|⟨b,p,B,h1,h2,h3,h4,h5,h6,lD,kR⟩
 ·rw[h2] at G;simp at G
 obtain⟨ga,ju,sl⟩:=om xD h1;cases ju;have aH:=(bR.1 G).1;have hrl:F.length=(aO k m).size:=h4 F (bF G);have BF:i*(aO k m).size+off+l<=p.size:=by
  have:(i+1)*(aO k m).size<=o.length*(aO k m).size:=dx _ aH;rw[dj] at this;omega
 have lH:=b7.get y;rw[bJ] at lH;obtain⟨c1,c2⟩:=lH.cells si;have I:(a.eval y).cells.size=l:=c1.trans HT;have W: ∀e∈(a.eval y).cells.toList,e.oneCell'=true:=by
  intro e he;obtain⟨j,hj⟩:=j9.1 he;have hj':(a.eval y).cells[j]? =some e:=by simpa using hj
  have hlt:=(jc.1 hj').1;have bP:=bs (O:j<v.cs.length);exact(c2 j _ e bP hj').iJ (y5 nj bP)
 unfold Oper.wp;have xx:=CQ eZ w b (i*(aO k m).size+off) p _ (a.eval y) h2 I O W;have X:(execOp a.eval ⟨none,.store t x y,ty,pos,af,g⟩).run K.P w= .ok .skip (w.setRow b (p.toList.take (i*(aO k m).size+off)++(a.eval y).cells.toList++p.toList.drop (i*(aO k m).size+off+(a.eval y).cells.toList.length)).toArray):=by
  simp only[execOp,sl,Instr.storeAt,Instr.sureAddr,Sem.run_bind,Sem.run_pure,Result.andThen_ok,xx]
 rw[X];have hlen:(p.toList.take (i*(aO k m).size+off)++(a.eval y).cells.toList++p.toList.drop (i*(aO k m).size+off+(a.eval y).cells.toList.length)).length=p.size:=by
  simp[I];omega
 have Y:own K β s.H b:= .inr ⟨id,by rw[hH];simp,.inl ⟨_,h1⟩⟩;generalize f:(p.toList.take (i*(aO k m).size+off)++(a.eval y).cells.toList++p.toList.drop (i*(aO k m).size+off+(a.eval y).cells.toList.length)).toArray=q at*;have r:q.size=p.size:=by rw[<-f];simpa using hlen
 have L:Ext (own K β s.H) w (w.setRow b q):=⟨rfl,rfl,rfl,aX,λkk _ hx=>setRow_other _ _ _ _ λe0=>hx (e0▸Y)⟩
 have R:Shaped β w (w.setRow b q):=λga _=>Dy h2 r ga;refine hk β _ _ (Rel.setRow b7 id b (.inl ⟨_,h1⟩) p _ h2 q r (.a' k m gen o (pX off v.cs hs)) (by rw[hH];simp) ?_);refine⟨hE.1,.inr ⟨b,q,B,h1,setRow_heap _ _ _ _ _ _ h2,by rw[r];exact h3,h4,λn cV A ka lS aJ a2 a3=>?_,h6,lD,kR⟩⟩;have hjs:cV<(aO k m).size:=by rw[<-h4 A (bF aJ)];exact(bR.1 a2).1
 by_cases M:n=i/\off<=cV/\cV<off+l
 ·obtain⟨rfl,Hw,Px⟩:=M;obtain⟨U,N⟩:=hi2 (cV-off) O;rw[show off+(cV-off)=cV by omega] at N;have C:=h5 n cV A ka p[n*(aO k m).size+cV] aJ a2 (by rw[hr O]);have adf: ∃v1,(n,cV,v1)∈pX off v.cs hs:=Am N;obtain⟨v1,lF⟩:=adf;refine⟨λdu D=>⟨?_,(C.1 U N).2⟩,λjv=>bA lF (jv v1)⟩;obtain⟨_,_,q2,_⟩:=zl D;have BD:=bs (O:cV-off<v.cs.length);have e:=q2 Hw _ BD
  have:(a.eval y).cells[cV-off]? =some lS:=by
   rw[<-f] at a3;simp only[List.getElem?_toArray] at a3;rw[gJ (by simp[I];omega),gU bQ] at a3;have kQ:n*(aO k m).size+cV-(p.toList.take (n*(aO k m).size+off)).length=cV-off:=by
    rw[cJ,lT];omega
   rw[kQ] at a3;simpa using a3
  rw[e];exact(c2 _ _ lS BD this).mono L (λ_ _ h=>h) (dr.refl _) R
 have hne:n*(aO k m).size+cV<i*(aO k m).size+off\/i*(aO k m).size+off+l<=n*(aO k m).size+cV:=by
  rcases Nat.lt_trichotomy n i with h|h|h
  ·have:=dx (aO k m).size (O:n+1<=i);rw[dj] at this;omega
  ·subst h
   have: ¬(off<=cV/\cV<off+l):=λh=>M ⟨rfl,h⟩;omega
  have:=dx (aO k m).size (O:i+1<=n);rw[dj] at this;omega
 have C:p[n*(aO k m).size+cV]? =some lS:=by
  rw[<-f] at a3;simp only[List.getElem?_toArray,List.getElem?_append,List.length_append,List.length_take,List.getElem?_take,List.getElem?_drop,Array.length_toList,I] at a3;rw[show min (i*(aO k m).size+off) p.size=i*(aO k m).size+off by omega] at a3;rcases hne with hlt|iC
  ·rw[a1 O,a1 O,a1 O] at a3;simpa using a3
  rw[a6 O] at a3;rw[show i*(aO k m).size+off+l+(n*(aO k m).size+cV-(i*(aO k m).size+off+l))=n*(aO k m).size+cV by omega] at a3;simpa using a3
 have oW:=h5 n cV A ka lS aJ a2 C;have hc1:=oW.mono (β':=β) L (λ_ _ h=>h) (dr.refl _) R λc bP=>setRow_other _ _ _ _ (h6 _ _ _ bP).2.2;refine⟨λdu D=>?_,λjv=>hc1.2 λdu D=>?_⟩
 ·obtain⟨U,k7,_,pf⟩:=zl D;have adn: ¬(off<=cV/\cV<off+v.cs.length):=λh=>M ⟨mf _ _ _ k7 h.1 O,h.1,O⟩;rw[pf adn];exact hc1.1 U k7
 obtain⟨v1,lF⟩:=Am (off:=off) (vs:=v.cs) D;exact jv v1 lF
theorem Td(x y:Operand)(id i off:Nat)(k:List dO)(m:Nat)(o:List (List T))(G:List T)(v:V)(hs:List (Nat×Nat×V))(hx:s.get x= .cB id gen size i off)(bJ:s.get y=v)(si:v.val=true)(nj:nw v.cs=true)
  (hH:s.H id=some (.a' k m gen o hs)) (eH:(aO k m).size=size) {l:Nat} (eZ:cd K.P t u z l bytes) (HT:v.cs.length=l) (HN:0<l) (I:o[i]? =some G) (cD:off+l<=G.length)
  {L:List (Nat×Nat×V)} (qi: ∀n cV du,(n,cV,du)∈L-> ∃F,(n,cV,F)∈hs/\((n=i/\off<=cV/\cV<off+l)->v.cs[cV-off]? =some du)/\(¬(n=i/\off<=cV/\cV<off+l)->du=F)) (fD: ∀n cV F,(n,cV,F)∈hs-> ∃v1,(n,cV,v1)∈L) (hi2: ∀j,j<l-> ∃F,(i,off+j,F)∈hs):
  dS K ⟨none,.store t x y,ty,pos,af,g⟩ s {s with H:=aU s.H id (some (.a' k m gen o L))}:=by
 subst eH;intro β a w next Q b7 hk
 have xD:=b7.get x;rw[hx] at xD;have hE:=(b7.heap id _ hH).2;rcases hE.2 with ⟨_,h2,_⟩|⟨b,p,B,h1,h2,h3,h4,h5,h6,lD,kR⟩
 ·rw[h2] at I;simp at I
 obtain⟨ga,ju,sl⟩:=om xD h1;cases ju;have aH:=(bR.1 I).1;have hrl:G.length=(aO k m).size:=h4 G (bF I);have BF:i*(aO k m).size+off+l<=p.size:=by
  have:(i+1)*(aO k m).size<=o.length*(aO k m).size:=dx _ aH;rw[dj] at this;omega
 have lH:=b7.get y;rw[bJ] at lH;obtain⟨c1,c2⟩:=lH.cells si;have R:(a.eval y).cells.size=l:=c1.trans HT;have X: ∀e∈(a.eval y).cells.toList,e.oneCell'=true:=by
  intro e he;obtain⟨j,hj⟩:=j9.1 he;have hj':(a.eval y).cells[j]? =some e:=by simpa using hj
  have hlt:=(jc.1 hj').1;have bP:=bs (O:j<v.cs.length);exact(c2 j _ e bP hj').iJ (y5 nj bP)
 unfold Oper.wp;have xx:=CQ eZ w b (i*(aO k m).size+off) p _ (a.eval y) h2 R O X;have Y:(execOp a.eval ⟨none,.store t x y,ty,pos,af,g⟩).run K.P w= .ok .skip (w.setRow b (p.toList.take (i*(aO k m).size+off)++(a.eval y).cells.toList++p.toList.drop (i*(aO k m).size+off+(a.eval y).cells.toList.length)).toArray):=by
  simp only[execOp,sl,Instr.storeAt,Instr.sureAddr,Sem.run_bind,Sem.run_pure,Result.andThen_ok,xx]
 rw[Y];have hlen:(p.toList.take (i*(aO k m).size+off)++(a.eval y).cells.toList++p.toList.drop (i*(aO k m).size+off+(a.eval y).cells.toList.length)).length=p.size:=by
  simp[R];omega
 have f:own K β s.H b:= .inr ⟨id,by rw[hH];simp,.inl ⟨_,h1⟩⟩;generalize M:(p.toList.take (i*(aO k m).size+off)++(a.eval y).cells.toList++p.toList.drop (i*(aO k m).size+off+(a.eval y).cells.toList.length)).toArray=q at*;have r:q.size=p.size:=by rw[<-M];simpa using hlen
 have U:Ext (own K β s.H) w (w.setRow b q):=⟨rfl,rfl,rfl,aX,λkk _ hx=>setRow_other _ _ _ _ λe0=>hx (e0▸f)⟩
 have W:Shaped β w (w.setRow b q):=λga _=>Dy h2 r ga;refine hk β _ _ (Rel.setRow b7 id b (.inl ⟨_,h1⟩) p _ h2 q r (.a' k m gen o L) (by rw[hH];simp) ?_);refine⟨hE.1,.inr ⟨b,q,B,h1,setRow_heap _ _ _ _ _ _ h2,by rw[r];exact h3,h4,λn cV A ka lS aJ a2 a3=>?_,h6,lD,kR⟩⟩;have hjs:cV<(aO k m).size:=by rw[<-h4 A (bF aJ)];exact(bR.1 a2).1
 by_cases N:n=i/\off<=cV/\cV<off+l
 ·obtain⟨rfl,Hw,Px⟩:=N;obtain⟨F,HG⟩:=hi2 (cV-off) O;rw[show off+(cV-off)=cV by omega] at HG;have C:=h5 n cV A ka p[n*(aO k m).size+cV] aJ a2 (by rw[hr O]);obtain⟨v1,lF⟩:=fD _ _ _ HG;refine⟨λdu D=>⟨?_,(C.1 F HG).2⟩,λjv=>bA lF (jv v1)⟩;obtain⟨_,_,q2,_⟩:=qi _ _ _ D;have BD:=q2 ⟨rfl,Hw,Px⟩
  have:(a.eval y).cells[cV-off]? =some lS:=by
   rw[<-M] at a3;simp only[List.getElem?_toArray] at a3;rw[gJ (by simp[R];omega),gU bQ] at a3;have kQ:n*(aO k m).size+cV-(p.toList.take (n*(aO k m).size+off)).length=cV-off:=by
    rw[cJ,lT];omega
   rw[kQ] at a3;simpa using a3
  exact(c2 _ _ lS BD this).mono U (λ_ _ h=>h) (dr.refl _) W
 have hne:n*(aO k m).size+cV<i*(aO k m).size+off\/i*(aO k m).size+off+l<=n*(aO k m).size+cV:=by
  rcases Nat.lt_trichotomy n i with h|h|h
  ·have:=dx (aO k m).size (O:n+1<=i);rw[dj] at this;omega
  ·subst h
   have: ¬(off<=cV/\cV<off+l):=λh=>N ⟨rfl,h⟩;omega
  have:=dx (aO k m).size (O:i+1<=n);rw[dj] at this;omega
 have C:p[n*(aO k m).size+cV]? =some lS:=by
  rw[<-M] at a3;simp only[List.getElem?_toArray,List.getElem?_append,List.length_append,List.length_take,List.getElem?_take,List.getElem?_drop,Array.length_toList,R] at a3;rw[show min (i*(aO k m).size+off) p.size=i*(aO k m).size+off by omega] at a3;rcases hne with hlt|iC
  ·rw[a1 O,a1 O,a1 O] at a3;simpa using a3
  rw[a6 O] at a3;rw[show i*(aO k m).size+off+l+(n*(aO k m).size+cV-(i*(aO k m).size+off+l))=n*(aO k m).size+cV by omega] at a3;simpa using a3
 have oW:=h5 n cV A ka lS aJ a2 C;have hc1:=oW.mono (β':=β) U (λ_ _ h=>h) (dr.refl _) W λc bP=>setRow_other _ _ _ _ (h6 _ _ _ bP).2.2;refine⟨λdu D=>?_,λjv=>hc1.2 λdu D=>?_⟩
 ·obtain⟨F,k7,_,pf⟩:=qi _ _ _ D;rw[pf N];exact hc1.1 F k7
 obtain⟨v1,lF⟩:=fD _ _ _ D;exact jv v1 lF
end ops
def E.gen?:E->Option Nat
 | .cells _=>none
 | .arr _ gen _ _=>some gen
 | .a' _ _ gen _ _=>some gen
theorem AG{g:Nat}{W:E}(c:W.gen? =some g)(h:cF D w X i W):1<=g/\ ∃q,D i=some (q,g):=by
 cases W with
 |cells cs=>cases c
 |arr ty gen size a=>cases c;exact⟨h.1,i' h⟩
 |a' e m gen a k=>cases c;exact⟨h.1,th h⟩
section nG
variable {P:Program} {H:Nat->Option E} {d:Option Tmp} {ty:TypeId} {pos:String} {af:Array Edge} {g:Option (Nat×Bool)}
variable {t:TypeId} {u:TypeDesc} {z:Value} {size bytes:Nat}
def p8(c:Nat)(h i:Option Operand)(e:Operand->Value)(a b:Nat):Prop:=
 (match h with|some x=>e x= .int .i64 (a:Nat)|none=>a=0)/\(match i with|some x=>e x= .int .i64 (b:Nat)|none=>b=c)
theorem Az{P:Program}{len a:Nat}{k e:Option Operand}{c:Operand->Value}(h:p8 len k e c a b)(n:a<=b)(o:b<=i)(w:World):(Instr.sliceBounds true len i (k.map c) (e.map c) none).run P w= .ok (a,b,i) w:=by
 obtain⟨m,l⟩:=h;cases k with
 |none=>
  have m:a=0:=m;subst m;cases e with
  |none=>
   have l:b=len:=l;subst l;simp[Instr.sliceBounds]
  |some y=>
   have l:c y=_:=l;simp[Instr.sliceBounds,l,jo w b i _ o]
 |some x=>
  have m:c x=_:=m;cases e with
  |none=>
   have l:b=len:=l;subst l;simp[Instr.sliceBounds,m,jo w a b _ n]
  |some y=>
   have l:c y=_:=l;simp[Instr.sliceBounds,m,l,jo w b i _ o,jo w a b _ n]
theorem Z2(x:Operand)(r y:Option Operand)(e:TypeId)(m gen h c a b:Nat)(L:E)(Y:H m=some L)(f:L.gen? =some gen)(Q:P.underlying t=some (.slice e))(R:cd P e u z size bytes)
  (j:a<=b) (h2:b<=c) (h3:a=0\/a<c) {i:List V} (v: ∀A w X (k:Operand->Value),dt A w X i (r.toList.map k++y.toList.map k)->p8 c r y k a b):
  b9 P H ⟨d,.slice t x r y none,ty,pos,af,g⟩ (.bc m gen size h c::i) (.bc m gen size (h+a) (b-a)):=by
 intro A w X k M D;obtain⟨B,q,F⟩:=AG f (M m _ Y);have D:dt A w X (.bc m gen size h c::i) (k x::(r.toList.map k++y.toList.map k)):=by
  cases r<;>cases y<;>simpa[Op.operands] using D
 have C:p8 c r y k a b:=v A w X k D.2;have N:bn A w X (.bc m gen size h c) (k x):=D.1;rcases e8 N F with ⟨l,U,n,G,o,p,T,hs,cG,cD,hm⟩|⟨p,h0,I,o⟩
 ·subst p;refine⟨.slice (some ⟨U,(h+a)*size,none⟩) (b-a) (l-a),?_,.bc m gen size (h+a) (b-a) (l-a) U n G B F T hs (by rw[<-cG];congr 1;omega) O O⟩;simp only[execOp,Sem.run_bind,Instr.sliceAt,Instr.slice,run_underlying Q,Result.andThen_ok,o,Option.map_none,Option.map_some,Az C j (O:b<=l),R.run_sizeOf,Sem.run_pure];by_cases W:l=a
  ·rw[a1 W]
   have:a=0:=O
   subst this;simp
  rw[a6 W];simp[iU,Nat.add_mul]
 subst p;subst h0;subst I;have e1:b=0:=O
 have e2:a=0:=O
 subst e1;subst e2;refine⟨.slice none 0 0,?_,.hd m gen size B F⟩;simp only[execOp,Sem.run_bind,Instr.sliceAt,Instr.slice,run_underlying Q,Result.andThen_ok,o,Option.map_none,Az C (Nat.le_refl _) (Nat.le_refl 0),R.run_sizeOf,Sem.run_pure];simp
theorem YQ(x:Operand)(p q:Option Operand)(e f:TypeId)(m gen c h a b:Nat)(l:List (List T))(j:H m=some (.arr f gen size l))(v:P.underlying t=some (.slice e))(M:cd P e u z size bytes)
  (N:0<size) (h1:a<b) (U:c+b<=l.length) {i:List V} (a8: ∀r w X (k:Operand->Value),dt r w X i (p.toList.map k++q.toList.map k)->p8 h p q k a b):
  b9 P H ⟨d,.slice t x p q none,ty,pos,af,g⟩ (.bc m gen size c h::i) (.bc m gen size (c+a) (b-a)):=by
 intro r w X k jt D;have y:=jt m _ j;have F:=y.1;have D:dt r w X (.bc m gen size c h::i) (k x::(p.toList.map k++q.toList.map k)):=by
  cases p<;>cases q<;>simpa[Op.operands] using D
 have G:p8 h p q k a b:=a8 r w X k D.2;have hx:bn r w X (.bc m gen size c h) (k x):=D.1;rcases y.2 with ⟨I,L⟩|⟨W,us,I,g2,g3,g4,g5⟩
 ·subst L;simp at U;omega
 rcases e8 hx I with ⟨cap,ga,n,Q,R,o,hw,A,Y,cD,hm⟩|⟨o,_⟩
 ·cases o;have B:us.size=n:=by
   unfold World.shape? at A;rw[g2] at A;simp at A;exact A.2
  have C:b<=cap:=by
   have h3:(c+b)*size<=(c+cap)*size:=by
    rw[Y,<-B];exact gr (dx _ U) g3
   have:=Nat.le_of_mul_le_mul_right h3 N;omega
  refine⟨.slice (some ⟨W,(c+a)*size,none⟩) (b-a) (cap-a),?_,.bc m gen size (c+a) (b-a) (cap-a) W n Q F I hw A (by rw[<-Y];congr 1;omega) O O⟩;simp only[execOp,Sem.run_bind,Instr.sliceAt,Instr.slice,run_underlying v,Result.andThen_ok,R,Option.map_none,Option.map_some,Az G (O:a<=b) C,M.run_sizeOf,Sem.run_pure];rw[a6 (show¬cap=a by omega)];simp[iU,Nat.add_mul]
 cases o
theorem YR(x:Operand)(o p:Option Operand)(e:TypeId)(r gen h m c a:Nat)(G:E)(L:H r=some G)(Q:G.gen? =some gen)(R:P.underlying t=some (.slice e))(U:cd P e u z size bytes)
  (N:a<=c) {i:List V} (W: ∀y w X (k:Operand->Value),dt y w X i (o.toList.map k++p.toList.map k)->p8 c o p k a a):
  b9 P H ⟨d,.slice t x o p none,ty,pos,af,g⟩ (.bc r gen h m c::i) (.t (.aD [])):=by
 intro y w X k Y A;obtain⟨b,q,f⟩:=AG Q (Y r _ L);have A:dt y w X (.bc r gen h m c::i) (k x::(o.toList.map k++p.toList.map k)):=by
  cases o<;>cases p<;>simpa[Op.operands] using A
 have C:p8 c o p k a a:=W y w X k A.2;have j:bn y w X (.bc r gen h m c) (k x):=A.1;obtain⟨B,cap,l,I⟩: ∃B cap,k x= .slice B c cap/\c<=cap:=by
  rcases e8 j f with ⟨cap,T,n,v,l,D,hw,hs,cG,M,hm⟩|⟨D,h0,F,l⟩
  ·exact⟨_,cap,l,M⟩
  exact⟨none,0,by rw[F];exact l,O⟩
 refine⟨.slice (if cap=a then B else B.map (·.add (a*size))) (a-a) (cap-a),?_,.t _ _ (by rw[j'];exact .fO _ _)⟩;simp only[execOp,Sem.run_bind,Instr.sliceAt,Instr.slice,run_underlying R,Result.andThen_ok,l,Option.map_none,Az C (Nat.le_refl _) (O:a<=cap),U.run_sizeOf,Sem.run_pure]
theorem T7(x:Operand)(e gen a i c:Nat)(h:E)(m:H e=some h)(n:h.gen? =some gen):b9 P H ⟨d,.nilCheck x,ty,pos,af,g⟩ [.cB e gen a i c] (.cB e gen a i c):=by intro o w X k p r;obtain⟨y,q,A⟩:=AG n (p e _ m);have l:bn o w X (.cB e gen a i c) (k x):=r.1;obtain⟨b,_,B⟩:=om l A;exact⟨k x,by simp[execOp,B],l⟩
theorem WD(x C D F:Operand)(e:TypeId)(o gen h l i a b c:Nat)(G:E)(Q:H o=some G)(R:G.gen? =some gen)(U:P.underlying t=some (.slice e))(W:cd P e u z size bytes)
  (Y:a<=b) (f:b<=c) (h3:c<=i):b9 P H ⟨d,.slice t x (some C) (some D) (some F),ty,pos,af,g⟩ [.bc o gen h l i,.t (.int .i64 (a:Nat)),.t (.int .i64 (b:Nat)),.t (.int .i64 (c:Nat))] .c3:=by
 intro j w X m v p;obtain⟨M,q,N⟩:=AG R (v o _ Q);have T:bn j w X (.bc o gen h l i) (m x):=p.1;have y:m C=_:=dD p.2.1;have V:m D=_:=dD p.2.2.1;have I:m F=_:=dD p.2.2.2.1;obtain⟨r,cap,k,L⟩: ∃r cap,m x= .slice r i cap/\i<=cap:=by
  rcases e8 T N with ⟨cap,ga,n,hh,k,A,hw,hs,cG,y,I⟩|⟨A,h0,B,k⟩
  ·exact⟨_,cap,k,y⟩
  exact⟨none,0,by rw[B];exact k,O⟩
 refine⟨.slice (if c=a then r else r.map (·.add (a*size))) (b-a) (c-a),?_,.c3 _⟩;simp[execOp,k,y,V,I,Instr.sliceAt,Instr.slice,run_underlying U,Instr.sliceBounds,jo w c cap _ O,jo w b c _ f,jo w a b _ Y,W.run_sizeOf]
end nG
section steps
variable {K:Ctx} {s:S} {d:Option Tmp} {ty:TypeId} {pos:String} {af:Array Edge} {g:Option (Nat×Bool)}
variable {t:TypeId} {u:TypeDesc} {z:Value} {size bytes gen:Nat}
theorem MP(Q:Rel K D s a w)(q b:Nat)(e:TypeId)(o c:List (List T))(r n:Array Value)(G:s.H q=some (.arr e gen size o))(y:D q=some (some b,gen))(p:w.heap[b]? =some (.cells r e (0,0)))
  (I:n.size=r.size) (R:c.length*size<=r.size) (A: ∀l,l∈c->l.length=size)
  (bP: ∀(i j:Nat) (l:List T) (x:T) (u:Value),c[i]? =some l->l[j]? =some x->n[i*size+j]? =some u->(∃(F:Nat) (m:List T),o[F]? =some m/\m[j]? =some x/\r[F*size+j]? =some u)\/(∀w X,cW w X x u)):
  Rel K D {s with H:=aU s.H q (some (.arr e gen size c))} a (w.setRow b n):=by
 refine Rel.setRow Q q b (.inl ⟨_,y⟩) r e p n I (.arr e gen size c) (by rw[G];simp) ?_;have L:own K D s.H b:= .inr ⟨q,by rw[G];simp,.inl ⟨_,y⟩⟩;have B:=(Q.heap q _ G).2;refine⟨B.1,.inr ⟨b,n,y,setRow_heap _ _ _ _ _ _ p,O,A,λi j l x u aJ a2 a3=>?_⟩⟩;rcases bP i j l x u aJ a2 a3 with ⟨F,m,W,Y,f⟩|bP
 ·rcases B.2 with ⟨C,_⟩|⟨cu,v,C,U,h3,h4,M⟩
  ·rw[y] at C;cases C
  rw[y] at C;cases C;rw[p] at U;cases U;exact(M F j m x u W Y f).mono ⟨rfl,rfl,rfl,aX,λk _ N=>setRow_other _ _ _ _ λV=>N (V▸L)⟩ λ_ _ h=>h
 exact bP _ _
theorem Rel.yi(k:Rel K β s a w)(c:Nat)(e:E)(l:s.H c=some e):Rel K β {s with H:=aU s.H c (some e)} a w:=by
 have:aU s.H c (some e)=s.H:=by
  funext i;by_cases h:i=c
  ·subst h;rw[bW,l]
  rw[bX _ _ _ _ h]
 rw[this];exact k
end steps
end
section
def de{k:Type}(f:Nat->k):List (Nat×k)->Nat->k
 | []=>f
 |(d,v)::r=>de (aU f d v) r
theorem mj{k:Type}: ∀(l:List (Nat×k)) (f:Nat->k) (r:Nat),(∀v,(r,v)∉l)->de f l r=f r
 | [],_,_,_=>rfl
 |(d,v)::l,f,r,h=>by rw[de,mj l _ r λa c=>h a (ev _ c),bX _ _ _ _ (by intro e;subst e;exact h v (eR ..))]
theorem Aw{k:Type}: ∀(l:List (Nat×k)) (f g:Nat->k) (r:Nat),(∃v,(r,v)∈l)->de f l r=de g l r
 | [],_,_,_,⟨v,h⟩=>by simp at h
 |(d,v)::l,f,g,r,h=>by
  simp only[de];by_cases c: ∃a,(r,a)∈l
  ·exact Aw l _ _ r c
  have i:r=d:=by
   obtain⟨a,bJ⟩:=h;rcases dN.1 bJ with e|bJ
   ·cases e;rfl
   exact bA ⟨a,bJ⟩ c
  subst i;rw[mj l _ r λa bJ=>c ⟨a,bJ⟩,mj l _ r λa bJ=>c ⟨a,bJ⟩,bW,bW]
structure cP where
 eD:List (Nat×V)
 hs:List (Nat×Option E):=[]
 us:List (Nat×Bool):=[]
def cP.app(e:cP)(s:S):S:={t:=de s.t e.eD,H:=de s.H e.hs,u:=de s.u e.us}
structure gw where
 eD:List Nat
 kY:List Nat:=[]
def gw.same(r:gw)(s a:S):Prop:=(∀i,i∈r.eD->s.t i=a.t i)/\ ∀k,k∈r.kY->s.H k=a.H k/\s.u k=a.u k
def hS(K:Ctx)(ops:Array Oper)(o:Oper)(s h:S):Prop:=
 ∀i a w next Q,Rel K i s a w->(∀c d e,Rel K c h d e->next d e)->
  if Region.wanted o (yielded ops a.tmps) then o.wp K.P a w next Q\/(o.asks K.P a w/\LetsOut Q) else next (a.put o.dst undef) w
variable {K:Ctx}{ops:Array Oper}{o:Oper}{s:S}{j t:Nat}{want:Bool}
theorem hS.of{b:S}(c:o.guard=none)(h:dS K o s b):hS K ops o s b:=by
 intro β a w next Q d e
 rw[a1 (by simp[Region.wanted,c])];exact .inl (h β a w next Q d e)
theorem hS.gE{s':S}(d:o.guard=some (j,want))(e:(ops[j]?).bind (·.dst)=some t)(i:s.t t= .t (.bool want))(h:dS K o s s'):hS K ops o s s':=by
 intro β a w next Q c k
 have l:yielded ops a.tmps j=some want:=by unfold yielded;rw[e];simp[c.bool i]
 rw[a1 (by simp[Region.wanted,d,l])];exact .inl (h β a w next Q c k)
theorem hS.out(d:o.guard=some (j,want))(e:(ops[j]?).bind (·.dst)=some t)(h:s.t t= .t (.bool (!want)))(k: ∀i,o.dst=some i->Nat.blt i K.nt=true):hS K ops o s (s.put o.dst (.bL [])):=by
 intro l a w next Q c m
 have n:yielded ops a.tmps j=some (!want):=by unfold yielded;rw[e];simp[c.bool h]
 rw[a6 (by simp[Region.wanted,d,n])];exact m l _ w (c.put o.dst k L')
theorem hS.skip(d:o.guard=some (j,want))(e:(ops[j]?).bind (·.dst)=some t)(h:s.t t= .bL [])(k: ∀i,o.dst=some i->Nat.blt i K.nt=true):hS K ops o s (s.put o.dst (.bL [])):=by
 intro l a w next Q c m
 have hw:=c.afz (ops:=ops) (want:=want) e h;rw[a6 (by simp[Region.wanted,d,hw])];exact m l _ w (c.put o.dst k L')
def gI{k:Type}:List (List (Nat×k))->Nat->(Nat->Bool)->(Nat->k)->Nat->k
 | [],_,_,f=>f
 |l::bZ,i,L,f=>gI bZ (i+1) L (bif L i then de f l else f)
theorem DI{k:Type}: ∀(bZ:List (List (Nat×k))) (i:Nat) (L a:Nat->Bool) (f c:Nat->k) (r:Nat),f r=c r->(∀j l,bZ[j]? =some l->(∃v,(r,v)∈l)->L (i+j)=a (i+j))->gI bZ i L f r=gI bZ i a c r
 | [],_,_,_,_,_,_,h,_=>h
 |l::bZ,i,L,a,f,c,r,h,m=>by
  simp only[gI];refine DI bZ (i+1) L a _ _ r ?_ λj n o d=>by have:=m (j+1) n o d;rwa [show i+(j+1)=i+1+j by omega] at this
  by_cases e: ∃v,(r,v)∈l
  ·have:=m 0 l rfl e;rw[oC] at this;rw[<-this];cases L i with
   |true=>exact Aw l _ _ r e
   |false=>exact h
  have p: ∀g:Nat->k,de g l r=g r:=λg=>mj l g r λv d=>e ⟨v,d⟩;cases L i<;>cases a i<;>simp only[cond_true,cond_false,p]<;>exact h
theorem LQ{R:Type}: ∀(bZ:List (List (Nat×R))) (i:Nat) (L:Nat->Bool) (f:Nat->R) (r k:Nat) (l:List (Nat×R)),bZ[k]? =some l->(∃v,(r,v)∈l)->L (i+k)=true->
  (∀j e,k<j->bZ[j]? =some e->(∃v,(r,v)∈e)->L (i+j)=false)-> ∀g:Nat->R,gI bZ i L f r=de g l r
 |h::bZ,i,L,f,r,0,l,c,m,n,a,g=>by
  simp at c;subst c;simp only[gI];rw[oC] at n;rw[n,cond_true,DI bZ (i+1) L (λ_=>false) (de f h) (de g h) r (Aw h _ _ r m) (λj e o d=>by
   have:=a (j+1) e O o d
   rwa [show i+(j+1)=i+1+j by omega] at this)]
  have p: ∀(bZ:List (List (Nat×R))) (i:Nat) (f:Nat->R),gI bZ i (λ_=>false) f=f:=by
   intro bZ;induction bZ with
   |nil=>intro _ _;rfl
   |cons l bZ q=>intro i f;simp only[gI,cond_false];exact q _ _
  rw[p]
 |h::bZ,i,L,f,r,k+1,l,c,m,n,a,g=>by
  simp at c;simp only[gI];exact LQ bZ (i+1) L _ r k l c m (by rwa [show i+1+k=i+(k+1) by omega]) (λj e s o d=>by
   have:=a (j+1) e O o d
   rwa [show i+(j+1)=i+1+j by omega] at this) g
 | [],_,_,_,_,_,_,c,_,_,_,_=>by simp at c
def im(a:List cP)(i:Nat)(L:Nat->Bool)(s:S):S:={t:=gI (a.map (·.eD)) i L s.t,H:=gI (a.map (·.hs)) i L s.H,u:=gI (a.map (·.us)) i L s.u}
def mm(a:Array Oper):Nat->Nat->Nat->Bool
 |0,_,_=>false
 |f+1,i,j=>match a[j]? with
  |none=>false
  |some o=>o.after.toList.any λe=>Region.binds .any e&&(Nat.beq e.on i||mm a f i e.on)
def k4{k:Type}(l:List (Nat×k))(r:List Nat):Bool:=l.any λp=>r.any λx=>Nat.beq p.1 x
def oj{k R:Type}(l:List (Nat×k))(m:List (Nat×R)):Bool:=l.any λp=>m.any λq=>Nat.beq p.1 q.1
def lh(e:cP)(r:gw)(a:cP)(c:gw):Bool:=
 k4 e.eD c.eD||k4 a.eD r.eD||oj e.eD a.eD||k4 e.hs c.kY||k4 a.hs r.kY||oj e.hs a.hs||k4 e.us c.kY||k4 a.us r.kY||oj e.us a.us
def mw(c:Array Oper)(n:Nat):Nat->List (cP×gw)->Bool
 |_,[]=>true
 |i,(e,r)::a=>go i e r (i+1) a&&mw c n (i+1) a
where
 go (i:Nat) (e:cP) (r:gw):Nat->List (cP×gw)->Bool
  |_,[]=>true
  |j,(d,h)::a=>(!lh e r d h||mm c n i j)&&go i e r (j+1) a
def rj:Nat->List Oper->Bool
 |_,[]=>true
 |i,o::a=>o.after.toList.all (λe=> !Region.binds .any e||Nat.blt e.on i)&&rj (i+1) a
theorem MH{V:Array Oper}{n i:Nat}{e:cP}{r:gw}: ∀(l:List (cP×gw)) (j:Nat),mw.go V n i e r j l=true-> ∀(k:Nat) a c,l[k]? =some (a,c)->lh e r a c=true->mm V n i (j+k)=true
 | [],_,_,_,_,_,h,_=>by simp at h
 |(o,p)::l,j,h,0,a,c,d,m=>by
  simp at d;obtain⟨rfl,rfl⟩:=d;simp only[mw.go,Bool.and_eq_true,m,Bool.not_true,Bool.false_or] at h;exact h.1
 |(o,p)::l,j,h,k+1,a,c,d,m=>by
  simp at d;simp only[mw.go,Bool.and_eq_true] at h
  have:=MH l (j+1) h.2 k a c d m
  rwa [show j+1+k=j+(k+1) by omega] at this
theorem DK{V:Array Oper}{n:Nat}: ∀(l:List (cP×gw)) (a:Nat),mw V n a l=true-> ∀(i j:Nat) e r c d,l[i]? =some (e,r)->l[j]? =some (c,d)->i<j->lh e r c d=true->mm V n (a+i) (a+j)=true
 | [],_,_,_,_,_,_,_,_,h,_,_,_=>by simp at h
 |(q,s)::l,a,h,0,j,e,r,c,d,k,m,o,p=>by
  simp at k;obtain⟨rfl,rfl⟩:=k;simp only[mw,Bool.and_eq_true] at h;cases j with
  |zero=>omega
  |succ j=>
   simp at m
   have:=MH l (a+1) h.1 j c d m p
   rwa [show a+1+j=a+(j+1) by omega] at this
 |(q,s)::l,a,h,i+1,j,e,r,c,d,k,m,o,p=>by
  simp only[mw,Bool.and_eq_true] at h;cases j with
  |zero=>omega
  |succ j=>
   simp at k m
   have:=DK l (a+1) h.2 i j e r c d k m O p
   rwa [show a+1+i=a+(i+1) by omega,show a+1+j=a+(j+1) by omega] at this
theorem V4(e:cP)(r:gw)(a:cP)(c:gw):lh e r a c=lh a c e r:=by
 have d: ∀{n o:Type} (l:List (Nat×n)) (m:List (Nat×o)),oj l m=oj m l:=by
  intro n o l m;rw[e5];simp only[oj,List.any_eq_true];constructor
  ·rintro⟨p,i,q,k,h⟩;exact⟨q,k,p,i,by have:=cK h;simp[this]⟩
  rintro⟨p,i,q,k,h⟩;exact⟨q,k,p,i,by have:=cK h;simp[this]⟩
 unfold lh;rw[d e.eD,d e.hs,d e.us];cases k4 e.eD c.eD<;>cases k4 a.eD r.eD<;>cases oj a.eD e.eD<;>cases k4 e.hs c.kY<;>cases k4 a.hs r.kY<;>cases oj a.hs e.hs<;>cases k4 e.us c.kY<;>cases k4 a.us r.kY<;>rfl
def Oj(c:Array Oper)(a:Array Bool):Prop:= ∀j o,c[j]? =some o->a.getD j true=true-> ∀e∈o.after,Region.binds .any e=true->a.getD e.on false=true
theorem Jd{V:Array Oper}{a:Array Bool}(m:Oj V a): ∀(f i j:Nat),mm V f i j=true->(∀o,V[j]? =some o-> ∀e∈o.after,Region.binds .any e=true->a.getD e.on false=true)->a.getD i false=true
 |0,_,_,h,_=>by simp[mm] at h
 |f+1,i,j,h,n=>by
  unfold mm at h;cases k:V[j]? with
  |none=>rw[k] at h;simp at h
  |some o=>
   rw[k] at h;simp only[List.any_eq_true,Bool.and_eq_true,Bool.or_eq_true] at h;obtain⟨e,p,q,c⟩:=h;have cD:=n o k e (by simpa using p) q;rcases c with c|c
   ·have:=cK c;rw[<-this];exact cD
   refine Jd m f i e.on c λr l=>m e.on r l ?_;rw[pC] at cD⊢;cases d:a[e.on]? with
   |none=>rw[d] at cD;simp at cD
   |some b=>rw[d] at cD;simpa using cD
def vP(K:Ctx)(a:Array Oper):List Oper->List (cP×gw)->S->(S->Prop)->Prop
 | [],[],s,Q=>Q s
 |o::os,(e,r)::d,s,Q=>(∀c,r.same c s->hS K a o c (e.app c))/\vP K a os d (e.app s) Q
 |_,_,_,_=>False
end
section
theorem KM{k:Type}: ∀(bZ:List (List (Nat×k))) (i:Nat) (L:Nat->Bool) (f:Nat->k),gI bZ (i+1) L f=gI bZ i (λj=>L (j+1)) f
 | [],_,_,_=>rfl
 |l::bZ,i,L,f=>by simp only[gI];exact KM bZ (i+1) L _
theorem EO(e:cP)(a:List cP)(L:Nat->Bool)(s:S):im (e::a) 0 L s=im a 0 (λj=>L (j+1)) (bif L 0 then e.app s else s):=by unfold im;simp only[List.map_cons,gI,Nat.zero_add,KM];cases L 0<;>rfl
theorem y0{K:Ctx}{V:Array Oper}: ∀(l:List Oper) (es:List (cP×gw)) (s:S) (Q:S->Prop),vP K V l es s Q->
  l.length=es.length/\Q (im (es.map (·.1)) 0 (λ_=>true) s)/\
  ∀(i:Nat) o e r,l[i]? =some o->es[i]? =some (e,r)-> ∀c,r.same c (im (es.map (·.1)) 0 (λj=>Nat.blt j i) s)->hS K V o c (e.app c)
 | [],[],s,Q,h=>⟨rfl,h,λi o e r d=>by simp at d⟩
 |o::os,(e,r)::es,s,Q,h=>by
  obtain⟨p,q⟩:=h;obtain⟨aJ,a2,a3⟩:=y0 os es _ Q q;refine⟨by simp[aJ],?_,?_⟩
  ·simp only[List.map_cons,EO,cond_true];exact a2
  intro i w x y d k c a;cases i with
  |zero=>
   simp at d k;obtain⟨rfl,rfl⟩:=k;subst d;refine p c ?_
   have:im (List.map (·.1) ((e,r)::es)) 0 (λj=>Nat.blt j 0) s=s:=by
    simp only[List.map_cons,EO];have m: ∀{n:Type} (bZ:List (List (Nat×n))) (i:Nat) (f:Nat->n),gI bZ i (λj=>Nat.blt (j+1) 0) f=f:=by
     intro n bZ;induction bZ with
     |nil=>intro _ _;rfl
     |cons l bZ z=>intro i f;simp only[gI];exact z _ _
    show im (es.map (·.1)) 0 (λj=>Nat.blt (j+1) 0) s=s;unfold im;simp only[m]
   rw[this] at a;exact a
  |succ i=>
   simp at d k;refine a3 i w x y d k c ?_;simp only[List.map_cons,EO] at a;exact a
 | [],_::_,_,_,h=>h.elim
 |_::_,[],_,_,h=>h.elim
variable {k:Type}{r:gw}{x n i:Nat}{v:k}{a:Array Bool}{e:cP}
theorem EU{l:List (Nat×k)}{r:List Nat}(h:(x,v)∈l)(a:x∈r):k4 l r=true:=by unfold k4;rw[ig];exact⟨(x,v),h,by rw[ig];exact⟨x,a,aX⟩⟩
theorem DZ{R:Type}{l:List (Nat×k)}{m:List (Nat×R)}{a:R}(h:(x,v)∈l)(c:(x,a)∈m):oj l m=true:=by unfold oj;rw[ig];exact⟨(x,v),h,by rw[ig];exact⟨(x,a),c,aX⟩⟩
section
variable {K:Ctx} {l:List Oper} {es:List (cP×gw)} {s:S}
theorem Fv{V:Array Oper}(proj:cP->List (Nat×k))(G:mw V n 0 es=true)(H:es[i]? =some (e,r))(f:Nat->k)(x:Nat)
  (m: ∀c d v,(x,v)∈proj c->lh e r c d=true)
  (o: ∀j,mm V n j i=true->a.getD j false=true) (q: ∀j,j<es.length->mm V n i j=true->a.getD j true=false) (z:a.getD i true=false):
  gI ((es.map (·.1)).map proj) 0 (λj=>a.getD j true) f x=gI ((es.map (·.1)).map proj) 0 (λj=>Nat.blt j i) f x:=by
 refine DI _ 0 _ _ f f x rfl ?_;intro j Q h ⟨v,I⟩;rw[dp];simp only[List.map_map,List.getElem?_map] at h;cases w:es[j]? with
 |none=>rw[w] at h;cases h
 |some p=>
  obtain⟨c,d⟩:=p;rw[w] at h;simp at h;subst h;have A:j<es.length:=(bR.1 w).1;rcases Nat.lt_trichotomy j i with y|rfl|B
  ·have a8:=DK es 0 G j i c d e r w H y (by rw[V4];exact m c d v I);rw[dp,dp] at a8;have C:=o j a8;have L:Nat.blt j i=true:=by simpa[Nat.blt_eq] using y
   rw[L];rw[pC] at C⊢;cases D:a[j]? with
   |none=>rfl
   |some b=>rw[D] at C;simpa using C
  ·rw[z];symm;cases a8:Nat.blt j j with
   |false=>rfl
   |true=>simp[Nat.blt_eq] at a8
  have a8:=DK es 0 G i j e r c d H w B (m c d v I);rw[dp,dp] at a8;rw[q j A a8];symm;cases F:Nat.blt j i with
  |false=>rfl
  |true=>simp[Nat.blt_eq] at F;omega
theorem EI{V:Array Oper}(proj:cP->List (Nat×k))(L:mw V n 0 es=true)(H:es[i]? =some (e,r))(f:Nat->k)(B:i<a.size)
  (C: ∀x m A v Q,(x,v)∈proj m->(x,Q)∈proj e->lh e r m A=true) (o: ∀j,j<es.length->mm V n i j=true->a.getD j true=false) (R:a.getD i true=false):
  de (gI ((es.map (·.1)).map proj) 0 (λj=>a.getD j true) f) (proj e)=gI ((es.map (·.1)).map proj) 0 (λj=>(a.setIfInBounds i true).getD j true) f:=by
 funext x;have h: ∀j,j≠i->(a.setIfInBounds i true).getD j true=a.getD j true:=λj D=>by
  simp[Array.getD_eq_getD_getElem?,Array.getElem?_setIfInBounds_ne (Ne.symm D)]
 have F:(a.setIfInBounds i true).getD i true=true:=by
  simp[Array.getD_eq_getD_getElem?,B]
 have q:((es.map (·.1)).map proj)[i]? =some (proj e):=by simp[H]
 by_cases G: ∃v,(x,v)∈proj e
 ·obtain⟨I,w⟩:=G;symm;refine LQ _ 0 _ f x i (proj e) q ⟨I,w⟩ (by rw[dp];exact F) ?_ _;intro j U D c ⟨v,y⟩;rw[dp,h j O];simp only[List.map_map,List.getElem?_map] at c;cases d:es[j]? with
  |none=>rw[d] at c;cases c
  |some p=>
   obtain⟨m,A⟩:=p;rw[d] at c;simp at c;subst c;have a8:=DK es 0 L i j e r m A H d D (C x m A v I y w);rw[dp,dp] at a8;exact o j (bR.1 d).1 a8
 rw[mj _ _ _ λv y=>G ⟨v,y⟩];refine DI _ 0 _ _ f f x rfl ?_;intro j U c y;rw[dp];by_cases z:j=i
 ·subst z;rw[q] at c;cases c;exact bA y G
 exact(h j z).symm
theorem KZ: ∀(l:List Oper) (a:Nat),rj a l=true-> ∀(i:Nat) o,l[i]? =some o-> ∀e∈o.after,Region.binds .any e=true->e.on<a+i
 | [],_,_,_,_,h=>by simp at h
 |o::l,a,h,0,n,c=>by
  simp at c;subst c;intro e k m;simp only[rj,Bool.and_eq_true,List.all_eq_true,Bool.or_eq_true] at h;rcases h.1 e (by simpa using k) with d|d
  ·rw[m] at d;cases d
  simpa[Nat.blt_eq] using d
 |o::l,a,h,i+1,n,c=>by
  simp at c;simp only[rj,Bool.and_eq_true] at h;intro e k m
  have:=KZ l (a+1) h.2 i n c e k m;omega
theorem Ye{Q:S->Prop}{wm:Exit->Act->World->Prop}(hp:mw l.toArray l.length 0 es=true)(he:rj 0 l=true)(cv:vP K l.toArray l es s Q)
  (Hi: ∀f a w,Rel K f (im (es.map (·.1)) 0 (λ_=>true) s) a w->wm .normal a w):
  ∀(d:Nat) (c:Array Bool) (U:List Nat),c.size=l.length->U.Nodup->U.length=d->(∀i,c.getD i true=false↔i∈U)->Oj l.toArray c->
   ∀f a w,Rel K f (im (es.map (·.1)) 0 (λj=>c.getD j true) s) a w->wpAny K.P .any l.toArray wm d c a w:=by
 obtain⟨hlen,_,adp⟩:=y0 l es s Q cv
 -- if nothing is ready, all is done
 have hall: ∀(c:Array Bool) (U:List Nat),c.size=l.length->(∀i,c.getD i true=false↔i∈U)->U≠[]->Region.ready .any l.toArray c≠[]:=by
  intro c U L R g;have key: ∀n,(∃i,i∈U/\i<=n)-> ∃m,m∈U/\ ∀j,j<m->j∉U:=by
   intro n;induction n with
   |zero=>rintro⟨i,aH,hle⟩;exact⟨0,by rwa [show i=0 by omega] at aH,λj W=>O⟩
   |succ n mi=>
    rintro⟨i,aH,hle⟩;by_cases h: ∃i,i∈U/\i<=n
    ·exact mi h
    have:i=n+1:=by
     rcases Nat.lt_or_ge i (n+1) with E|iC
     ·exact bA ⟨i,aH,O⟩ h
     omega
    subst this;exact⟨n+1,aH,λj W ac0=>h ⟨j,ac0,O⟩⟩
  obtain⟨x,hx⟩:=C4 U g;obtain⟨m,hm,adg⟩:=key x ⟨x,hx,cN _⟩;have M:=(R m).2 hm;have PD:m<l.length:=by
   rcases Nat.lt_or_ge m l.length with h|h
   ·exact h
   rw[pC,Array.getElem?_eq_none O] at M;cases M
  intro D
  have:m∈Region.ready .any l.toArray c:=by
   rw[mem_ready];refine⟨M,l[m],by simp[PD],λe acK X=>?_⟩;have E:=KZ l 0 he m l[m] (bs PD) e acK X;rw[dp] at E;have BK:=adg e.on E;have C:c.getD e.on true≠false:=λh=>BK ((R e.on).1 h);have F:e.on<c.size:=O
   simp only[Array.getD_eq_getD_getElem?,Array.getElem?_eq_getElem F,Option.getD_some] at C⊢;simpa using C
  rw[D] at this;simp at this
 have N: ∀(c:Array Bool),(∀i,c.getD i true=true)->im (es.map (·.1)) 0 (λj=>c.getD j true) s=im (es.map (·.1)) 0 (λ_=>true) s:=by
  intro c h
  have:(λj=>c.getD j true)=λ_=>true:=funext h;rw[this]
 intro d;induction d with
 |zero=>
  intro c U L T A R bP f a w b7;have D:U=[]:=kE A;subst D;have G: ∀i,c.getD i true=true:=λi=>by
   cases h:c.getD i true with
   |true=>rfl
   |false=>have:=(R i).1 h;simp at this
  refine⟨?_,Hi f a w (by rw[<-N c G];exact b7)⟩;cases adz:Region.ready .any l.toArray c with
  |nil=>rfl
  |cons x xs=>
   have:x∈Region.ready .any l.toArray c:=by rw[adz];simp
   rw[mem_ready] at this;rw[G x] at this;exact bA this.1 aX
 |succ d mi=>
  intro c U L T A R bP f a w b7;have g:U≠[]:=by intro e;subst e;simp at A
  refine⟨λh=>bA h (hall c U L R g),λi aH=>?_⟩;obtain⟨y,o,er,Y⟩:=mem_ready.1 aH;have BH:i<l.length:=by
   rcases Nat.lt_or_ge i l.length with h|h
   ·exact h
   rw[Array.getElem?_eq_none (by simpa using h)] at er;cases er
  have HB:l[i]? =some o:=by simpa using er
  obtain⟨⟨e,r⟩,B⟩: ∃p,es[i]? =some p:=⟨es[i]' O,by simp[show i<es.length by omega]⟩
  have I: ∀j,mm l.toArray l.length j i=true->c.getD j false=true:=λj X=>Jd bP _ j i X λCk z=>by rw[er] at z;cases z;exact Y
  have q: ∀j,j<es.length->mm l.toArray l.length i j=true->c.getD j true=false:=λj W X=>by
   cases ac9:c.getD j true with
   |false=>rfl
   |true=>
    have C:=Jd bP _ i j X λCk z=>bP j Ck z ac9;have F:i<c.size:=O
    simp only[Array.getD_eq_getD_getElem?,Array.getElem?_eq_getElem F,Option.getD_some] at C y;rw[y] at C;cases C
  have V:r.same (im (es.map (·.1)) 0 (λj=>c.getD j true) s) (im (es.map (·.1)) 0 (λj=>Nat.blt j i) s):=by
   refine⟨λx hx=>?_,λk hk=>⟨?_,?_⟩⟩
   ·exact Fv (·.eD) hp B s.t x (λb ya v bJ=>by simp[lh,EU bJ hx]) I q y
   ·exact Fv (·.hs) hp B s.H k (λb ya v bJ=>by simp[lh,EU bJ hk]) I q y
   exact Fv (·.us) hp B s.u k (λb ya v bJ=>by simp[lh,EU bJ hk]) I q y
  have adH:e.app (im (es.map (·.1)) 0 (λj=>c.getD j true) s)=im (es.map (·.1)) 0 (λj=>(c.setIfInBounds i true).getD j true) s:=by
   unfold cP.app im;simp only[S.mk.injEq];refine⟨?_,?_,?_⟩
   ·exact EI (·.eD) hp B s.t O (λx b ya v du C h2=>by simp[lh,DZ h2 C]) q y
   ·exact EI (·.hs) hp B s.H O (λx b ya v du C h2=>by simp[lh,DZ h2 C]) q y
   exact EI (·.us) hp B s.u O (λx b ya v du C h2=>by simp[lh,DZ h2 C]) q y
  have ado:=adp i o e r HB B _ V;have acO: ∀β' tp w',Rel K β' (e.app (im (es.map (·.1)) 0 (λj=>c.getD j true) s)) tp w'->wpAny K.P .any l.toArray wm d (c.setIfInBounds i true) tp w':=by
   intro β' tp w' PL;rw[adH] at PL;have acT:=(R i).1 y;refine mi (c.setIfInBounds i true) (U.erase i) (by simpa using L) (T.erase i) (by rw[List.length_erase_of_mem acT];omega) (λj=>?_) ?_ β' tp w' PL
   ·rw[T.mem_erase_iff];by_cases W:j=i
    ·subst W;simp[Array.getD_eq_getD_getElem?,show j<c.size by omega]
    simp only[Array.getD_eq_getD_getElem?,Array.getElem?_setIfInBounds_ne (Ne.symm W)]
    have:=R j;rw[pC] at this;rw[this];simp[W]
   intro j Ck z W b Pu X;by_cases Py:j=i
   ·subst Py;rw[er] at z;cases z;exact getD_set_true (Y b Pu X)
   have C:c.getD j true=true:=by
    simpa only[Array.getD_eq_getD_getElem?,Array.getElem?_setIfInBounds_ne (Ne.symm Py)] using W
   exact getD_set_true (bP j Ck z C b Pu X)
  have adb:=ado f a w (wpAny K.P .any l.toArray wm d (c.setIfInBounds i true)) wm b7 acO;unfold wpOp;rw[er];exact adb
theorem Md{Q:Exit->S->Prop}(d:List (cP×gw))(D:K.P.follows .mixedOrders=true)(F:mw l.toArray l.length 0 d=true)(G:rj 0 l=true)
  (k:vP K l.toArray l d s λH=>Q .normal H):cH K (.region n l.toArray true) s Q:=by
 intro m a w X p I;obtain⟨_,R,_⟩:=y0 l d s _ k;refine wp_region_any D ?_;have q:Rel K m s a {w with drawn:=w.drawn+1}:=vN p;have U:im (d.map (·.1)) 0 (λj=>(Array.replicate l.toArray.size false).getD j true) s=s:=by
  have A:=(y0 l d s _ k).1;have c: ∀{r:Type} (bZ:List (List (Nat×r))) (L:Nat->Bool) (i:Nat) (f:Nat->r),(∀j,j<bZ.length->L (i+j)=false)->gI bZ i L f=f:=by
   intro r bZ L;induction bZ with
   |nil=>intro _ _ _;rfl
   |cons x bZ W=>
    intro i f h;simp only[gI];have B:=h 0 aX;rw[oC] at B;rw[B,cond_false];exact W (i+1) f λj e=>by have:=h (j+1) bQ;rwa [show i+(j+1)=i+1+j by omega] at this
  have y: ∀j,j<d.length->(Array.replicate l.toArray.size false).getD (0+j) true=false:=λj e=>by
   rw[dp,pC,yA,a1 bQ];rfl
  unfold im;rw[c _ _ _ _ (by simpa using y),c _ _ _ _ (by simpa using y),c _ _ _ _ (by simpa using y)]
 refine Ye F G k (λm a w p=>I _ _ _ _ _ R p) l.toArray.size (Array.replicate l.toArray.size false) (List.range l.length) aX List.nodup_range aX (λi=>?_) ?_ m a _ (by rw[U];exact q)
 ·rw[pC,yA,s0];by_cases h:i<l.length
  ·rw[a1 (by simpa using h)];simp[h]
  rw[a6 (by simpa using h)];simp[h]
 intro j o C e;rw[pC,yA] at e;have z:j<l.length:=by
  rcases Nat.lt_or_ge j l.length with h|h
  ·exact h
  rw[Array.getElem?_eq_none (by simpa using h)] at C;cases C
 rw[a1 (by simpa using z)] at e;cases e
end
end
abbrev aa(n:Int):V:= .t (.int .i64 n)
abbrev vy(b:UInt8):V:= .t (.int .u8 (b.toNat:Nat))
abbrev aL(b:Bool):V:= .t (.bool b)
abbrev bD(s:List UInt8):V:= .t (.str s)
abbrev QW(a:List (List T)):V:= .t (.aD a)
abbrev j1(n:Int):List T:=[.int .i64 n]
abbrev np(b:UInt8):List T:=[.int .u8 (b.toNat:Nat)]
abbrev aah(b:Bool):List T:=[.bool b]
abbrev aaN(s:List UInt8):List T:=[.str s]
def iV(P:Program)(f:FuncId):Prop:= ∃a,P.funcs[f]? =some a/\(a.name== "runtime.NumGoroutine")=false/\a.body.isNone=false
section
variable {K:Ctx} {s:S} {Q:Exit->S->Prop}
variable {l:List Oper}
theorem Kg{V:Array Oper}{Q:S->Prop}{b:S}(i:s.le K b)(h:p1 K V l b Q):p1 K V l s Q:=
  λk a w m n o=>let ⟨c,e⟩:=i k a w n;h c a w m e o
theorem R5{i:Nat}(m:S)(h:p1 K l.toArray l s λn=>n.le K m)(o:Q .normal m):cH K (.region i l.toArray false) s Q:=by intro p a w q r x;refine wp_region_lit (h p a w q r λn c y A B e=>?_);obtain⟨C,k⟩:=B c y A e;exact x _ _ _ _ _ o k
theorem b9.eq{P:Program}{H:Nat->Option E}{o:Oper}{a:List V}{v du:V}(h:b9 P H o a v)(e:v=du):b9 P H o a du:=e▸h
section
variable {K:Ctx} {s:S} {d:Option Tmp} {ty:TypeId} {pos:String} {af:Array Edge} {g:Option (Nat×Bool)}
variable {t:TypeId} {u:TypeDesc} {z:Value} {gen size bytes:Nat}
end
end
theorem jW(b:Bool){P:Prop}(a:b=false->P)(c:b=true->P):P:=by
 cases b with
 |false=>exact a rfl
 |true=>exact c rfl
theorem fo.of_eq{e a:List V}(h:e=a):fo e a:=h▸fo.refl e
section
variable {K:Ctx} {s:S} {ops:Array Oper} {rest:List Oper} {Q:S->Prop} {d:Nat} {ty:TypeId} {pos:String} {af:Array Edge} {j:Nat} {want:Bool} {t:Nat}
end
section
mutual
def V.dq(L:List Nat):V->V
  | .ref id a=> .ref (L.getD id 0) a
  | .bc id gen c a d=> .bc (L.getD id 0) gen c a d
  | .cB id gen c i a=> .cB (L.getD id 0) gen c i a
  | .agg cs=> .agg (iG L cs)
  | .bL cs=> .bL (iG L cs)
  | .fn f cs=> .fn f (iG L cs)
  | .t x=> .t x
  | .aP x=> .aP x
  | .c3=> .c3
def iG(L:List Nat):List V->List V
  | []=>[]
  |c::cs=>c.dq L::iG L cs
end
def E.dq(L:List Nat):E->E
  | .cells cs=> .cells (iG L cs)
  | .arr ty gen c a=> .arr ty gen c a
  | .a' d m gen a e=> .a' d m gen a (e.map λh=>(h.1,h.2.1,h.2.2.dq L))
theorem o6{L:List Nat}: ∀cs:List V,(iG L cs).length=cs.length
  | []=>rfl
  |c::cs=>by simp[iG,o6 cs]
theorem Fu{L:List Nat}: ∀(cs:List V) (i:Nat),(iG L cs)[i]? =(cs[i]?).map (V.dq L)
  | [],_=>by simp[iG]
  |c::cs,0=>by simp[iG]
  |c::cs,i+1=>by simp[iG,Fu cs i]
variable {L:List Nat}{D:Map}{w:World}{X:Nat->Prop}
theorem zi{a:List V}{i:Nat}{c:V}(h:(iG L a)[i]? =some c): ∃d,a[i]? =some d/\c=d.dq L:=by
  rw[Fu] at h;cases e:a[i]? with
  |none=>rw[e] at h;simp at h
  |some d=>rw[e] at h;simp at h;exact⟨d,rfl,h.symm⟩
theorem bn.dq{β:Map}{v:V}{u:Value}(h:bn β w X v u)(e: ∀k x,β k=some x->D (L.getD k 0)=some x):bn D w X (v.dq L) u:=by
  induction h with
  |t x v h=>exact .t x v h
  |agg cs s o _ y=>exact .agg _ s (by rw[o6];exact o) (λi c u p z=>by obtain⟨A,B,rfl⟩:=zi p;exact y i A u B z)
  |bL cs s o _ y=>exact .bL _ s (by rw[o6];exact o) (λi c u p z=>by obtain⟨A,B,rfl⟩:=zi p;exact y i A u B z)
  |ref id d b l=>exact .ref _ d b (e _ _ l)
  |aP cells b d f l G p H=>exact .aP cells b d f l G p H
  |bc id gen a d r C b n ty m l I K Q o R=>exact .bc _ gen a d r C b n ty m (e _ _ l) I K Q o R
  |hd id gen a m l=>exact .hd _ gen a m (e _ _ l)
  |k1 id gen a d r v q g F l m=>exact .k1 _ gen a d r v q g F (e _ _ l) m
  |cB id gen a i d b m l=>exact .cB _ gen a i d b m (e _ _ l)
  |lv id gen a i d v q g F l m=>exact .lv _ gen a i d v q g F (e _ _ l) m
  |fn f cs s o _ y=>exact .fn f _ s (by rw[o6];exact o) (λi c u p z=>by obtain⟨A,B,rfl⟩:=zi p;exact y i A u B z)
  |c3 v=>exact .c3 v
def ja(L:List Nat)(a:Map):Map:=⟨λk=>(L[k]?).bind a,λk b=> ∃id,L[k]? =some id/\a.n id b⟩
def eX:Nat->(Nat->Bool)
  |0=>gl
  |n+1=>aU (eX n) n true
theorem iR: ∀{n k:Nat},eX n k=true↔k<n
  |0,k=>by simp[eX,gl]
  |n+1,k=>by
    by_cases h:k=n
    · subst h;simp[eX,bW]
    · rw[eX,bX _ _ _ _ h,iR];omega
mutual
theorem bn.pA{β:Map}{w:World}{X:Nat->Prop}{L:List Nat}: ∀(v:V) (u:Value),bn β w X (v.dq L) u->v.ok (eX L.length)=true->bn (ja L β) w X v u
  | .t x,u,h,_=>by
    simp only[V.dq] at h;cases h with|t _ _ h=>exact .t _ _ h
  | .aP x,u,h,_=>by
    simp only[V.dq] at h;cases h with|aP _ b l f a D r s=>exact .aP _ b l f a D r s
  | .c3,u,_,_=> .c3 u
  | .ref id l,u,h,d=>by
    have e:id<L.length:=iR.1 (by simpa[V.ok] using d);have o:ja L β id=β (L.getD id 0):=by simp[ja,List.getElem?_eq_getElem e]
    simp only[V.dq] at h;cases h with|ref _ _ b a=>exact .ref _ _ b (by rw[o];exact a)
  | .bc id gen y l F,u,h,d=>by
    have e:id<L.length:=iR.1 (by simpa[V.ok] using d);have o:ja L β id=β (L.getD id 0):=by simp[ja,List.getElem?_eq_getElem e]
    simp only[V.dq] at h;cases h with
    |bc _ _ _ _ _ A b n ty m a G k H d B=>exact .bc _ _ _ _ _ A b n ty m (by rw[o];exact a) G k H d B
    |hd _ _ _ m a=>exact .hd _ _ _ m (by rw[o];exact a)
    |k1 _ _ _ _ _ _ q g C a m=>exact .k1 _ _ _ _ _ _ q g C (by rw[o];exact a) m
  | .cB id gen y i l,u,h,d=>by
    have e:id<L.length:=iR.1 (by simpa[V.ok] using d);have o:ja L β id=β (L.getD id 0):=by simp[ja,List.getElem?_eq_getElem e]
    simp only[V.dq] at h;cases h with
    |cB _ _ _ _ _ b m a=>exact .cB _ _ _ _ _ b m (by rw[o];exact a)
    |lv _ _ _ _ _ _ q g C a m=>exact .lv _ _ _ _ _ _ q g C (by rw[o];exact a) m
  | .agg cs,u,h,d=>by
    simp only[V.dq] at h;cases h with
    |agg _ p k s=>exact .agg _ p (by rw[o6] at k;exact k) (λi c u r z=>zD cs (λi=>p[i]?) (by simpa[V.ok] using d) s i c u r z)
  | .bL cs,u,h,d=>by
    simp only[V.dq] at h;cases h with
    |bL _ p k s=>exact .bL _ p (by rw[o6] at k;exact k) (λi c u r z=>zD cs (λi=>p[i]?) (by simpa[V.ok] using d) s i c u r z)
  | .fn f cs,u,h,d=>by
    simp only[V.dq] at h;cases h with
    |fn _ _ p k s=>exact .fn _ _ p (by rw[o6] at k;exact k) λi c u r z=>zD cs (λi=>p[i]?) (by simpa[V.ok] using d) s i c u r z
theorem zD{D:Map}{w:World}{X:Nat->Prop}{L:List Nat}: ∀(cs:List V) (U:Nat->Option Value),gn (eX L.length) cs=true->
    (∀i c u,(iG L cs)[i]? =some c->U i=some u->bn D w X c u)-> ∀(i:Nat) c u,cs[i]? =some c->U i=some u->bn (ja L D) w X c u
  | [],_,_,_,_,_,_,h,_=>by simp at h
  |c::cs,U,a,h,0,_,u,d,e=>by
    simp at d;subst d;simp[gn] at a;exact bn.pA c u (h 0 _ u (by simp[iG]) e) a.1
  |c::cs,U,a,h,i+1,k,u,d,e=>by simp at d;simp[gn] at a;exact zD cs (λi=>U (i+1)) a.2 (λi c u l m=>h (i+1) c u (by simpa[iG] using l) m) i k u d e
end
theorem dt.pA{β:Map}{w:World}{X:Nat->Prop}{L:List Nat}: ∀{a:List V} {c:List Value},dt β w X (iG L a) c->gn (eX L.length) a=true->dt (ja L β) w X a c
  | [],[],_,_=>trivial
  |v::a,u::c,h,d=>by
    simp[gn] at d;exact⟨bn.pA v u h.1 d.1,dt.pA h.2 d.2⟩
  | [],_::_,h,_=>h.elim
  |_::_,[],h,_=>h.elim
def eQ:List E->Nat->(Nat->Option E)
  | [],_=>oF
  |e::a,k=>aU (eQ a (k+1)) k (some e)
theorem L4: ∀(a:List E) (k i:Nat),eQ a k (k+i)=a[i]?
  | [],_,_=>by simp[eQ,oF]
  |e::a,k,0=>by rw[oC,eQ,bW];simp
  |e::a,k,i+1=>by rw[eQ,bX _ _ _ _ O,show k+(i+1)=(k+1)+i by omega,L4 a (k+1) i];simp
theorem yo(a:List E)(i:Nat):eQ a 0 i=a[i]? :=by have:=L4 a 0 i;rwa [dp] at this
def lN(X:Nat->Prop)(a:Map)(H:Nat->Option E)(b:Nat):Prop:=X b\/ ∃id,H id≠none/\At a id b
structure y7 (G:fa) (gE:List E) (β:Map) (w:World) (X:Nat->Prop):Prop where
  dJ: ∀k,gE.length<=k->β k=none
  eb: ∀k b,gE.length<=k-> ¬β.n k b
  inj: ∀id jZ b,At β id b->At β jZ b->id=jZ
  place: ∀k b,At β k b->b<w.heap.size/\ ¬X b/\G.xX<=b
  heap: ∀k e,gE[k]? =some e->cF β w (lN X β (eQ gE 0)) k e
structure Left (gK β:Map) (gE out:List E) (w w':World) (X:Nat->Prop) (r:V) (u:Value):Prop where
  ext:Ext (λb=> ∃k,At gK k b) w w'
  base:kc gE.length gK β w.heap.size
  iK:Shaped gK w w'
  dJ: ∀k,out.length<=k->β k=none
  eb: ∀k b,out.length<=k-> ¬β.n k b
  inj: ∀id jZ b,At β id b->At β jZ b->id=jZ
  fresh: ∀k b,At β k b->((∃b1,b1<gE.length/\At gK b1 b)\/w.heap.size<=b)/\b<w'.heap.size
  heap: ∀k e,out[k]? =some e->cF β w' (lN X β (eQ out 0)) k e
  res:bn β w' (lN X β (eQ out 0)) r u
def JL(P:Program)(G:fa)(f:FuncId)(c:List E)(args:List V){ι:Type}(k:ι->Prop)(r:ι->V)(d:ι->List E):Prop:=
  ∀(w:World) (X:Nat->Prop) (a:Map) (h:List Value),G.ok w->(∀b,X b->b<w.heap.size)->y7 G c a w X->dt a w (lN X a (eQ c 0)) args h->
    Calls P f h.toArray w λe l=> ∃u i m,e= .returned u/\k i/\Left a m c (d i) w l X (r i) u
def Ctx.dG(P:Program)(G:fa)(w:World)(X:Nat->Prop)(c':Nat)(gK:Map)(nt:Nat):Ctx:={P,G,w0:=w,X,c',gK,nt}
def lQ(a:List E)(args:List V):S:={t:=tj args 0,H:=eQ a 0,u:=eX a.length}
theorem Rel.lQ{P:Program}{G:fa}{nt:Nat}{a:List E}{args:List V}{c:List Value}(q:G.ok w)(r: ∀b,X b->b<w.heap.size)(d:y7 G a D w X)
    (h:dt D w (lN X D (eQ a 0)) args c) (x:c.length<=nt):
    Rel (Ctx.dG P G w X a.length D nt) D (Lift.lQ a args) {tmps:=c.toArray++Array.replicate (nt-c.toArray.size) undef,defers:=[]} w:=by
  have l: ∀id b,At D id b->id<a.length:=by
    rintro id b (⟨g,h⟩|h)
    · apply sX;intro k;rw[d.dJ id k] at h;cases h
    · exact sX λk=>d.eb id b k h
  refine {ext:=Ext.refl _ _,nZ:=q,og:= ?_,il:= ?_,base:=kc.refl _ _ _,iK:=Shaped.refl _ _,low:=λid h=>iR.2 h,dJ:= ?_,eb:= ?_,
           qv:=d.inj,inj:=d.inj,fresh:=λid b h=>⟨.inl ⟨id,l id b h,h⟩,(d.place id b h).1⟩,heap:= ?_,cZ:= ?_,nt:= ?_,defers:=rfl}
  · rintro b ⟨id,_,h⟩;exact(d.place id b h).2.2
  · intro b p;exact⟨r b p,λ⟨id,_,h⟩=>(d.place id b h).2.1 p⟩
  · intro id hid;apply d.dJ;apply Nat.le_of_not_lt;intro l;have o:=iR.2 l;have m:eX a.length id=false:=hid;rw[o] at m;cases m
  · intro id b hid h;have o:=iR.2 (l id b (.inr h));have m:eX a.length id=false:=hid;rw[o] at m;cases m
  · intro id e s;have n:a[id]? =some e:=by rw[<-yo];exact s
    refine⟨iR.2 ?_,d.heap id e n⟩;apply sX;intro k;rw[q4 k] at n;cases n
  · intro i;have o:=DT args c 0 h i;rw[dp] at o;have m:(c.toArray++Array.replicate (nt-c.toArray.size) undef).getD i undef=c.getD i undef:=by
      simp only[Array.getD_eq_getD_getElem?,List.getD_eq_getElem?_getD,Array.getElem?_append];by_cases d:i<c.length
      · rw[a1 (by simpa using d)];simp
      · rw[a6 (by simpa using d)];rw[yA];rw[q4 O];split<;>rfl
    simp only[m];exact o
  · simp[Ctx.dG];omega
end
section
def k5{R:Type}(f:Nat->R):List Nat->(Nat->R)->(Nat->R)
 | [],_=>f
 |l::L,g=>aU (k5 f L λk=>g (k+1)) l (g 0)
theorem nd{k:Type}{f:Nat->k}: ∀{L:List Nat} {g:Nat->k} {id:Nat},id∉L->k5 f L g id=f id
 | [],_,_,_=>rfl
 |l::L,g,id,h=>by simp at h;rw[k5,bX _ _ _ _ h.1];exact nd h.2
theorem oc{R:Type}{f:Nat->R}: ∀{L:List Nat} {g:Nat->R} {k id:Nat},L.Nodup->L[k]? =some id->k5 f L g id=g k
 | [],_,_,_,_,h=>by simp at h
 |l::L,g,0,id,_,h=>by simp at h;subst h;rw[k5,bW]
 |l::L,g,k+1,id,a,h=>by simp at h a;have c:id≠l:=λe=>a.1 (e▸bF h);rw[k5,bX _ _ _ _ c];exact oc (g:=λk=>g (k+1)) a.2 h
theorem ES: ∀{L:List Nat} {i j id:Nat},L.Nodup->L[i]? =some id->L[j]? =some id->i=j
 | [],_,_,_,_,h,_=>by simp at h
 |l::L,0,0,_,_,_,_=>rfl
 |l::L,0,j+1,id,a,h,c=>by simp at h c a;subst h;exact bA (bF c) a.1
 |l::L,i+1,0,id,a,h,c=>by simp at h c a;subst c;exact bA (bF h) a.1
 |l::L,i+1,j+1,id,a,h,c=>by simp at h c a;rw[ES a.2 h c]
def S.after(s:S)(L:List Nat)(a:List E):S:=
 {t:=s.t,H:=k5 s.H L λk=>(a[k]?).map (E.dq L),u:=k5 s.u L (λ_=>true)}
def D9(K:Ctx)(o:Oper)(s:S){k:Type}(h:k->Prop)(l:k->S):Prop:=
 ∀m a w next Q,Rel K m s a w->(∀i,h i-> ∀c d e,Rel K c (l i) d e->next d e)->o.wp K.P a w next Q
variable {β:Map}{w:World}{X:Nat->Prop}{L:List Nat}{k:Nat}{e:E}{f:FuncId}
theorem cF.pA{id:Nat}(h:cF β w X id (e.dq L))(C:L[k]? =some id)(F:e.ok (eX L.length)=true):cF (ja L β) w X k e:=by
 have l:ja L β k=β id:=by simp[ja,C]
 cases e with
 |cells cs=>
  obtain⟨b,o,ty,a,d,s,D⟩:=h;rw[o6] at s;refine⟨b,o,ty,by rw[l];exact a,d,s,λi c u y K=>?_⟩;exact bn.pA c u (D i _ u (by rw[Fu,y];rfl) K) (vp F y)
 |arr ty gen G p=>
  refine⟨h.1,?_⟩;rcases h.2 with ⟨a,d⟩|⟨b,o,a,d⟩
  ·exact .inl ⟨by rw[l];exact a,d⟩
  exact .inr ⟨b,o,by rw[l];exact a,d⟩
 |a' t m gen p M=>
  refine⟨h.1,?_⟩;have H: ∀c,(ja L β).n k c↔β.n id c:=λc=>⟨λ⟨Q,a,d⟩=>by rw[C] at a;cases a;exact d,λh=>⟨id,C,h⟩⟩
  rcases h.2 with ⟨a,d,R⟩|⟨b,o,B,a,d,s,D,I,U,W,Y⟩
  ·exact .inl ⟨by rw[l];exact a,d,λc y=>R c ((H c).1 y)⟩
  refine .inr ⟨b,o,B,by rw[l];exact a,d,s,D,λi j q x u aJ a2 a3=>⟨λv z=>?_,λf=>?_⟩,U,W,λc=>(H c).trans (Y c)⟩
  ·have A:=(I i j q x u aJ a2 a3).1 (v.dq L) (eK.2 ⟨_,z,rfl⟩);exact⟨bn.pA v u A.1 (Fw F z),A.2⟩
  refine(I i j q x u aJ a2 a3).2 λv z=>?_;obtain⟨⟨N,P,g⟩,A,r⟩:=eK.1 z;simp only[Prod.mk.injEq] at r;obtain⟨rfl,rfl,rfl⟩:=r;exact f g A
theorem cF.dq{β':Map}{K:Nat->Prop}{D:Nat}(h:cF β w X k e)(U:L[k]? =some D)(o: ∀k x,β k=some x->β' (L.getD k 0)=some x)(F: ∀b,K b->X b)(Q: ∀b,β'.n D b↔β.n k b):cF β' w K D (e.dq L):=by
 have q: ∀x,β k=some x->β' D=some x:=λx G=>by have:=o k x G;rwa [eu,U] at this
 cases e with
 |cells cs=>
  obtain⟨b,r,ty,a,d,s,y⟩:=h;refine⟨b,r,ty,q _ a,d,by rw[o6];exact s,λi c u H W=>?_⟩;obtain⟨Y,p,rfl⟩:=zi H;exact((y i Y u p W).dq o).mono (Ext.refl _ _) (λb _=>F b) (dr.refl _) (Shaped.refl _ _)
 |arr ty gen R z=>
  refine⟨h.1,?_⟩;rcases h.2 with ⟨a,d⟩|⟨b,r,a,d,s,y,p⟩
  ·exact .inl ⟨q _ a,d⟩
  exact .inr ⟨b,r,q _ a,d,s,y,λi j l x u aJ a2 a3=>(p i j l x u aJ a2 a3).mono (Ext.refl _ _) λb _=>F b⟩
 |a' S m gen z T=>
  refine⟨h.1,?_⟩;rcases h.2 with ⟨a,d,f⟩|⟨b,r,B,a,d,s,y,p,g,t,M⟩
  ·exact .inl ⟨q _ a,d,λc H=>f c ((Q c).1 H)⟩
  refine .inr ⟨b,r,B,q _ a,d,s,y,λi j l x u aJ a2 a3=>⟨λv I=>?_,λG=>?_⟩,g,t,λc=>(Q c).trans (M c)⟩
  ·obtain⟨⟨V,cV,N⟩,P,A⟩:=eK.1 I;simp only[Prod.mk.injEq] at A;obtain⟨rfl,rfl,rfl⟩:=A;have C:=(p _ _ l x u aJ a2 a3).1 N P;exact⟨(C.1.dq o).mono (Ext.refl _ _) (λb _=>F b) (dr.refl _) (Shaped.refl _ _),C.2⟩
  exact((p i j l x u aJ a2 a3).2 λv I=>G (v.dq L) (eK.2 ⟨_,I,rfl⟩)).mono (Ext.refl _ _) (λb _=>F b) λ_ _=>rfl
theorem dt.app{β:Map}{w:World}{X:Nat->Prop}: ∀{d a:List V} {e c:List Value},dt β w X d e->dt β w X a c->dt β w X (d++a) (e++c)
 | [],_,[],_,_,h=>h
 |_::_,_,_::_,_,h,k=>⟨h.1,dt.app h.2 k⟩
 | [],_,_::_,_,h,_=>h.elim
 |_::_,_,[],_,h,_=>h.elim
theorem EC{D:Map}{w:World}{X:Nat->Prop}: ∀{d:List V} {e:List Value},e.length=d.length->(∀(i:Nat) c u,d[i]? =some c->e[i]? =some u->bn D w X c u)->dt D w X d e
 | [],[],_,_=>trivial
 |v::d,u::e,a,h=>⟨h 0 v u rfl rfl,EC (by simpa using a) λi c u k l=>h (i+1) c u (by simpa using k) (by simpa using l)⟩
 | [],_::_,a,_=>by simp at a
 |_::_,[],a,_=>by simp at a
theorem bn.G7{a:List V}{u:Value}(h:bn β w X (.fn f a) u): ∃d:Array Value,u= .func (.func f) #[] d/\dt β w X a d.toList:=by
 cases h with
 |fn _ _ d e h=>exact⟨d,rfl,EC (by simpa using e) λi c u k l=>h i c u k (by simpa using l)⟩
theorem W4{K:Ctx}{s:S}{o:Oper}{xs:Array Operand}{QS:Array TypeId}{gE:List E}{args:List V}{ι:Type}{lZ:ι->Prop}{r:ι->V}{F:ι->List E}(G8:Operand)(L news:List Nat)
  (O2:List V) (er:o.op= .call {callee:= .value G8,args:=xs,argTypes:=QS}) (acQ:s.get G8= .fn f O2)
  (hY:iV K.P f) (cv: ∀i,o.dst=some i->Nat.blt i K.nt=true) (bJ:fo (xs.toList.map s.get++O2) (iG L args)) (cD:gn (eX L.length) args=true)
  (r9:gE.length=L.length) (hH: ∀(k:Nat) (e:E),gE[k]? =some e-> ∃id,L[k]? =some id/\s.H id=some (e.dq L)/\e.ok (eX L.length)=true)
  (N:(L++news).Nodup) (ql: ∀id,id∈news->s.u id=false) (HL: ∀i,(F i).length=(L++news).length)
  (h:JL K.P K.G f gE args lZ r F):D9 K o s lZ (λi=>(s.after (L++news) (F i)).put o.dst ((r i).dq (L++news))):=by
 obtain⟨fn,acL,acM,acN⟩:=hY;intro R a w next Q p l
 have o0:fn.name≠ "runtime.NumGoroutine" :=by simpa using acM
 have kq:fn.body≠none:=by intro e;simp[e] at acN
 obtain⟨us,acF,HV⟩:=(acQ▸p.get G8).G7;have xx:(execOp a.eval o).run K.P w= .ok (.enter f (xs.map a.eval++us)) w:=by
  simp[execOp,er,resolve,Deferred.ofValue,acF,invoke,callFunc,acL,o0,kq]
 unfold Oper.wp;rw[xx,Oper.upon_enter];let z:Map:=ja L R;let hU:Nat->Prop:=λb=>own K R s.H b/\ ¬ ∃k,At z k b;have ju: ∀k g b,z k=some (some b,g)-> ∃id,L[k]? =some id/\R id=some (some b,g):=by
  intro k g b h;cases l:L[k]? with
  |none=>simp[z,ja,l] at h
  |some id=>simp[z,ja,l] at h;exact⟨id,rfl,h⟩
 have U: ∀k b,At z k b-> ∃id,L[k]? =some id/\At R id b:=by
  rintro k b (⟨g,h⟩|⟨id,m,y⟩)
  ·obtain⟨id,m,y⟩:=ju k g b h;exact⟨id,m,.inl ⟨g,y⟩⟩
  exact⟨id,m,.inr y⟩
 have acw: ∀(k id:Nat),L[k]? =some id->s.H id≠none:=by
  intro k id l;have hlt:k<gE.length:=by rw[r9];exact(bR.1 l).1
  obtain⟨D,m,y,_⟩:=hH k _ (bs hlt);rw[l] at m;cases m;rw[y];simp
 have X: ∀k b,At z k b->own K R s.H b:=by
  intro k b h;obtain⟨id,m,y⟩:=U k b h;exact .inr ⟨id,acw k id m,y⟩
 have PI: ∀b,lN hU z (eQ gE 0) b->own K R s.H b:=by
  rintro b (h|⟨k,_,y⟩)
  ·exact h.1
  exact X k b y
 have Hf: ∀k b,At z k b->K.M b\/K.w0.heap.size<=b:=by
  intro k b h;obtain⟨id,m,y⟩:=U k b h;exact(p.fresh id b y).1
 have xy: ∀b,own K R s.H b->b<w.heap.size:=by
  rintro b (Y|⟨id,_,a8⟩)
  ·exact lU (p.il b Y).1 p.ext.size
  exact(p.fresh id b a8).2
 have adj:L.Nodup:=(List.nodup_append.1 N).1;have acY:y7 K.G gE z w hU:=by
  refine⟨?_,?_,?_,?_,?_⟩
  ·intro k l;rw[r9] at l;simp[z,ja,List.getElem?_eq_none l]
  ·rintro k b l ⟨id,m,_⟩;rw[r9] at l;rw[q4 l] at m;cases m
  ·intro k b1 b h mc;obtain⟨id,m,y⟩:=U k b h;obtain⟨D,acf,h2'⟩:=U b1 b mc;have he:=p.inj id D b y h2';subst he;have l:=(bR.1 m).1;exact ES adj m acf
  ·intro k b B;refine⟨xy b (X k b B),λY=>Y.2 ⟨k,B⟩,?_⟩;rcases Hf k b B with A|A
   ·exact p.og b A
   exact gr p.nZ.1 A
  intro k e he;obtain⟨id,m,y,h4⟩:=hH k e he;have hE:=cF.pA (p.heap id _ y).2 m h4;exact hE.mono (Ext.refl _ _) (λb _=>PI b) (dr.refl _) (λ_ h=>h) (Shaped.refl _ _) λ_ _=>rfl
 have acA:=(dt.pA (((p.nY xs.toList).app HV).le bJ) cD).mono (Ext.refl _ _) (λb _=>PI b) (dr.refl _) (Shaped.refl _ _);have bP:=h w hU z _ p.Bw (λb a8=>xy b a8.1) acY acA;have he:(List.map a.eval xs.toList++us.toList).toArray=xs.map a.eval++us:=by rw[<-vw,<-Array.toList_append]
 rw[he] at bP;refine bP.mono ?_;rintro e w' ⟨u,i,I,rfl,adZ,d⟩;let C:=L++news;let t:Map:=⟨k5 R C I,λid b=>(id∉C/\R.n id b)\/ ∃k,C[k]? =some id/\I.n k b⟩
 let s2:=s.after C (F i);have ac': ∀k,k<L.length->C[k]? =L[k]? :=λk l=>gJ l;have W: ∀id,id∈C-> ∃k:Nat,C[k]? =some id/\k<(F i).length:=by
  intro id hid;obtain⟨k,l,e⟩:=List.mem_iff_getElem.1 hid;exact⟨k,bR.2 ⟨l,e⟩,by rw[HL];exact l⟩
 have vU: ∀id,id∉C->t id=R id:=λid h=>nd h;have y6: ∀k id,C[k]? =some id->t id=I k:=λk id h=>oc N h;have Jn: ∀k id,k<L.length->C[k]? =some id->(I k=R id)\/ ∃q g u9 lA,R id=some (q,g)/\1<=g/\I k=some (u9,lA)/\g<lA/\ ∀b,u9=some b->q=some b\/w.heap.size<=b:=by
  intro k id l h;have a8:=d.base k (by rw[r9];exact l);rw[ac' k l] at h;have e:z k=R id:=by simp[z,ja,h]
  rw[e] at a8;exact a8
 have PF: ∀k id,L.length<=k->C[k]? =some id->id∈news:=by
  intro k id l h;rw[gU l] at h;exact bF h
 have Jo:dr R t:=by
  intro id q g Y;by_cases hid:id∈C
  ·obtain⟨k,l,_⟩:=W id hid;by_cases T:k<L.length
   ·rw[y6 k id l];rcases Jn k id T l with e|⟨k7,g1,u9,lA,aJ,a2,a3,a4,_⟩
    ·exact .inl (e.trans Y)
    rw[Y] at aJ;cases aJ;exact .inr ⟨a2,u9,lA,a3,a4⟩
   have:=p.dJ id (ql id (PF k id O l));rw[this] at Y;cases Y
  exact .inl (by rw[vU id hid];exact Y)
 have acs: ∀k id,C[k]? =some id->s2.H id=((F i)[k]?).map (E.dq C):=λk id h=>oc N h;have Pk: ∀id,id∉C->s2.H id=s.H id:=λid h=>nd h;have BK: ∀id b,id∉C->At R id b-> ¬ ∃k,At z k b:=by
  rintro id b hid a8 ⟨k,h⟩;obtain⟨D,m,y⟩:=U k b h
  have:=p.inj id D b a8 y;subst this;exact hid (mH _ (bF m))
 have BC: ∀id b,At t id b->(id∉C/\At R id b)\/ ∃k,C[k]? =some id/\At I k b:=by
  rintro id b (⟨g,h⟩|⟨m,y⟩|⟨k,m,y⟩)
  ·by_cases hid:id∈C
   ·obtain⟨k,l,_⟩:=W id hid;rw[y6 k id l] at h;exact .inr ⟨k,l,.inl ⟨g,h⟩⟩
   rw[vU id hid] at h;exact .inl ⟨hid,.inl ⟨g,h⟩⟩
  ·exact .inl ⟨m,.inr y⟩
  exact .inr ⟨k,m,.inr y⟩
 have hO: ∀b,own K t s2.H b->lN hU I (eQ (F i) 0) b:=by
  rintro b (Y|⟨id,m,y⟩)
  ·refine .inl ⟨.inl Y,?_⟩;rintro⟨k,B⟩;rcases Hf k b B with A|A
   ·exact(p.il b Y).2 A
   have:=(p.il b Y).1;omega
  rcases BC id b y with ⟨hid,h2'⟩|⟨k,l,B⟩
  ·rw[Pk id hid] at m;exact .inl ⟨.inr ⟨id,m,h2'⟩,BK id b hid h2'⟩
  have T:k<(F i).length:=by rw[HL];exact(bR.1 l).1
  refine .inr ⟨k,?_,B⟩;rw[yo,bs T];simp
 have af0: ∀k b,At I k b->k<(F i).length:=by
  rintro k b (⟨g,h⟩|h)
  ·apply sX;intro hle;rw[d.dJ k hle] at h;cases h
  exact sX λhle=>d.eb k b hle h
 have Pm: ∀b,b<w.heap.size->own K t s2.H b->own K R s.H b:=by
  intro b Pq a8;rcases hO b a8 with m|⟨k,_,B⟩
  ·exact m.1
  rcases(d.fresh k b B).1 with ⟨b1,_,A⟩|A
  ·exact X b1 b A
  omega
 have Ph:Ext (own K R s.H) w w':=d.ext.weaken λb _ ⟨k,B⟩=>X k b B;have Pp:Shaped R w w':=λb a8=>d.iK b a8;have PM: ∀k x,I k=some x->t (C.getD k 0)=some x:=by
  intro k x Y;have hlt:k<(F i).length:=by
   apply sX;intro hle;rw[d.dJ k hle] at Y;cases Y
  rw[HL] at hlt;have bO:C[k]? =some C[k]:=bs hlt;rw[eu,bO];exact(y6 k _ bO).trans Y
 have hold: ∀k b,At I k b->(∃id,id∈C/\At R id b)\/w.heap.size<=b:=by
  intro k b a8;rcases(d.fresh k b a8).1 with ⟨b1,A,h4⟩|A
  ·obtain⟨D,e1,e2⟩:=U b1 b h4;exact .inl ⟨D,mH _ (bF e1),e2⟩
  exact .inr A
 have hrel:Rel K t s2 a w':=by
  refine {p with ext:= ?_,base:= ?_,iK:= ?_,low:= ?_,dJ:= ?_,eb:= ?_,inj:= ?_,fresh:= ?_,heap:= ?_,cZ:= ?_}
  ·refine p.ext.trans' (d.ext.weaken ?_);rintro b _ ⟨k,B⟩ ⟨m,y⟩;rcases Hf k b B with A|A
   ·exact y A
   omega
  ·refine p.base.more λid hid=>?_;by_cases v:id∈C
   ·obtain⟨k,l,_⟩:=W id v;by_cases T:k<L.length
    ·rw[y6 k id l];rcases Jn k id T l with e|⟨q,g,u9,lA,aJ,a2,a3,a4,a5⟩
     ·exact .inl e
     exact .inr ⟨q,g,u9,lA,aJ,a2,a3,a4,λb a8=>by
      rcases a5 b a8 with c|c
      ·exact .inl c
      exact .inr (gr p.ext.size c)⟩
    have m:=ql id (PF k id O l);rw[p.low id hid] at m;cases m
   exact .inl (vU id v)
  ·intro b A;exact(d.iK b (lU A p.ext.size)).trans (p.iK b A)
  ·intro id hid;by_cases v:id∈C
   ·obtain⟨k,l,_⟩:=W id v;exact oc (f:=s.u) (g:=λ_=>true) N l
   exact(nd v).trans (p.low id hid)
  ·intro id hid;by_cases v:id∈C
   ·obtain⟨k,l,_⟩:=W id v
    have:s2.u id=true:=oc (f:=s.u) (g:=λ_=>true) N l;rw[this] at hid;cases hid
   rw[vU id v];exact p.dJ id ((nd (f:=s.u) (g:=λ_=>true) v).symm.trans hid)
  ·rintro id b hid (⟨m,y⟩|⟨k,l,y⟩)
   ·exact p.eb id b ((nd (f:=s.u) (g:=λ_=>true) m).symm.trans hid) y
   have:s2.u id=true:=oc (f:=s.u) (g:=λ_=>true) N l;rw[this] at hid;cases hid
  ·intro id D b m y;rcases BC id b m with ⟨m1,aJ⟩|⟨k,l,aJ⟩<;>rcases BC D b y with ⟨m2,a2⟩|⟨b1,oY,a2⟩
   ·exact p.inj id D b aJ a2
   ·rcases hold b1 b a2 with ⟨xG,A,h4⟩|A
    ·have:=p.inj id xG b aJ h4;subst this;exact bA A m1
    have:=(p.fresh id b aJ).2;omega
   ·rcases hold k b aJ with ⟨xG,A,h4⟩|A
    ·have:=p.inj D xG b a2 h4;subst this;exact bA A m2
    have:=(p.fresh D b a2).2;omega
   have:=d.inj k b1 b aJ a2;subst this;rw[l] at oY;cases oY;rfl
  ·intro id b m;rcases BC id b m with ⟨_,aJ⟩|⟨k,l,aJ⟩
   ·exact⟨(p.fresh id b aJ).1,lU (p.fresh id b aJ).2 d.ext.size⟩
   refine⟨?_,(d.fresh k b aJ).2⟩;rcases hold k b aJ with ⟨xG,_,A⟩|A
   ·exact(p.fresh xG b A).1
   exact .inr (gr p.ext.size A)
  ·intro id e he;by_cases v:id∈C
   ·obtain⟨k,l,T⟩:=W id v;refine⟨oc (f:=s.u) (g:=λ_=>true) N l,?_⟩;rw[acs k id l,bs T] at he;simp at he;subst he;exact cF.dq (d.heap k _ (bs T)) l PM hO (λb=>⟨λh=>by
     rcases h with ⟨m,_⟩|⟨b1,m,y⟩
     ·exact bA v m
     have:=ES N m l;subst this;exact y,λh=> .inr ⟨k,l,h⟩⟩)
   rw[Pk id v] at he;obtain⟨m,y⟩:=p.heap id e he;refine⟨(nd (f:=s.u) (g:=λ_=>true) v).trans m,?_⟩;exact y.mono Ph Pm Jo (λx Y=>by rw[vU id v];exact Y) Pp (λb a8=>d.ext.keep b (p.fresh id b a8).2 (BK id b v a8)) (λb=>⟨λh=>by
    rcases h with ⟨_,h⟩|⟨b1,m,_⟩
    ·exact h
    exact bA (bF m) v,λh=> .inl ⟨v,h⟩⟩)
  intro j;exact(p.cZ j).mono Ph Pm Jo Pp
 exact l i adZ t _ w' (hrel.put o.dst cv ((d.res.dq PM).mono (Ext.refl _ _) (λb _=>hO b) (dr.refl _) (Shaped.refl _ _)))
end
section
variable {K:Ctx} {s:S} {d:Option Tmp} {ty:TypeId} {pos:String} {af:Array Edge} {g:Option (Nat×Bool)} {f:FuncId} {xs:Array Operand} {QS:Array TypeId} {args:List V} {ι:Type} {lZ:ι->Prop} {r:ι->V} {out:ι->List E}
theorem D9.j{o:Oper}{u:Unit->Prop}{c:Unit->S}(h:D9 K o s u c):dS K o s (c ()):=
 λβ a w next Q e i=>h β a w next Q e λ_ _=>i
variable {ops:Array Oper} {rest:List Oper} {Q:S->Prop} {op:Op}
end
theorem Ui(a b:Nat)(c:a<9223372036854775808)(e:b<9223372036854775808):bits .xor .i64 (a:Int) (b:Int)=((a ^^^ b:Nat):Int):=by have h:a ^^^ b<2^63:=Nat.xor_lt_two_pow O O;show IntKind.i64.wrap ((BitVec.ofInt 64 (a:Int) ^^^ BitVec.ofInt 64 (b:Int)).toNat:Int)=_;rw[BitVec.toNat_xor,ofInt_u64 a O,ofInt_u64 b O];exact IntWalk.i64_in _ O
section
variable {P:Program} {H:Nat->Option E} {d:Option Tmp} {ty:TypeId} {pos:String} {af:Array Edge} {g:Option (Nat×Bool)}
theorem M8(n:Int):IntKind.u8.wrap n=((UInt8.ofInt n).toNat:Int):=by
 have:IntKind.u8.wrap n=n%256:=by simp[IntKind.wrap,IntKind.bits,IntKind.signed]
 rw[this];simp[UInt8.ofInt];omega
theorem aaG(a b:UInt8):IntKind.u8.wrap ((a.toNat:Int)-(b.toNat:Int))=((a-b).toNat:Int):=by rw[M8];congr 2;apply UInt8.toNat_inj.1;have c:=UInt8.toNat_lt a;have e:=UInt8.toNat_lt b;simp[UInt8.ofInt,UInt8.toNat_sub];omega
theorem Ua(x:Operand)(c k e:TypeId)(l:List UInt8)(B:P.underlying c=some (.slice e))(C:P.underlying e=some (.int .u8))(D:P.underlying k=some .string):
  b9 P H ⟨d,.convert c k x,ty,pos,af,g⟩ [QW (l.map np)] (bD l):=by
 intro j w X F _ u;refine⟨.string ⟨l.toArray⟩,?_,.t _ _ (.str l)⟩;have L:bn j w X (QW (l.map np)) (F x):=u.1;simp only[execOp];suffices (convert c k (F x)).run P w= .ok (.string ⟨l.toArray⟩) w by
  simp only[Sem.run_bind,this,Result.andThen_ok,Sem.run_pure]
 generalize F x=y at L⊢;cases L with
 |t _ _ h=>
  generalize Q:l.map np=R at h;cases h with
  |fO a m=>
   have p:l=[]:=by simpa using Q
   subst p;rw[run_convert_bytes_string w c k e _ _ _ B C D];cases a with
   |none=>simp[Conv.bytesToString];rfl
   |some a=>
    rw[run_bytesToString w a 0 m [] (by simp[loadCells,loadCellsFrom,Sem.run_pure])];rfl
  |aD _ b n r m f N S U G v I=>
   subst Q;cases p:l with
   |nil=>
    subst p
    have:=run_convert_bytes_arg (P:=P) w c e B C b n 0 m [] rfl (λi W=>O) k D;exact this
   |cons y T=>
    rw[<-p];have o:r=1:=by
     have:=G (np y) (by rw[p];simp);simpa using this.symm
    subst o;have M: ∀(i:Nat) (z:UInt8),l[i]? =some z->f i 0= .int .u8 (z.toNat:Int):=by
     intro i z s;have Y:=I i 0 (np z) (.int .u8 (z.toNat:Nat)) (by rw[et,s];rfl) rfl;generalize f i 0=q at Y⊢;cases Y;rfl
    have:=run_convert_bytes_arg (P:=P) w c e B C b n (l.map np).length m (l.map λz=>(z.toNat:Int)) aX (λi W=>by
     have A:i<l.length:=by simpa using W
     have s:l[i]? =some l[i]:=bs A;have K:=v i 0 (by simpa using A) O;rw[M i _ s] at K;rw[show n+i*1+0=n+i by omega] at K;rw[K];simp[List.getD_eq_getElem?_getD,s]) k D
    rw[this];congr 2;simp only[strOfNums,List.map_map];congr 2;apply List.ext_getElem?;intro i;rw[et];cases s:l[i]? with
    |none=>rfl
    |some z=>simp
end
section
variable {K:Ctx} {s:S} {d:Option Tmp} {ty:TypeId} {pos:String} {af:Array Edge} {g:Option (Nat×Bool)}
variable {t:TypeId} {u:TypeDesc} {z:Value} {size bytes:Nat}
theorem Yu(k:Nat)(r:s.u k=false)(e:TypeId)(y: ∀i,d=some i->Nat.blt i K.nt=true)(A:K.P.underlying t=some (.slice e))(B:cd K.P e u z size bytes):
  dS K ⟨d,.buildSlice t 0 #[],ty,pos,af,g⟩ s ((s.new k (.arr e 1 size [])).put d (.bc k 1 size 0 0)):=by
 intro p a w next Q C m
 have c:(execOp a.eval ⟨d,.buildSlice t 0 #[],ty,pos,af,g⟩).run K.P w= .ok (.value (.slice (some ⟨w.heap.size,0,none⟩) 0 0)) (w.alloc (.cells #[] e)):=by
  simp only[execOp,Instr.buildSlice,Sem.run_bind,run_underlying A,Result.andThen_ok,B.run_sizeOf,Nat.zero_mul,show¬(0>2^24) by decide,if_false,if_true];simp only[Instr.fill,Sem.run_bind,Sem.run_pure,Result.andThen_ok,show Array.range 0= #[] from by simp[Array.range],List.map_toArray,List.map_nil];rfl
 unfold Oper.wp;rw[c];have l:=C.new k 1 r #[] e (.arr e 1 size []) λD R U F G I=>⟨cN _,Or.inr ⟨w.heap.size,_,G,by subst F;exact jl _ _,aX,λ_ h=>by simp at h,λi j L x u h=>by simp at h⟩⟩
 have n:(w.alloc (.cells #[] e)).heap.size=w.heap.size+1:=World.size_alloc ..;have o:(w.alloc (.cells #[] e)).shape? w.heap.size=some (e,0):=by unfold World.shape?;rw[jl];simp
 have q:bn (p.put k (some (some w.heap.size,1))) (w.alloc (.cells #[] e)) (own K (p.put k (some (some w.heap.size,1))) (s.new k (.arr e 1 size [])).H) (.bc k 1 size 0 0)
   (.slice (some ⟨w.heap.size,0*size,none⟩) 0 0):= .bc k 1 size 0 0 0 w.heap.size 0 e (cN _) (bW _ _ _) (n▸mJ _) o aX (cN _) (by unfold maxLen;omega)
 rw[fY] at q;exact m _ _ _ (l.put d y q)
end
def GN:Option TypeDesc->Bool
 |some (.int .i64)=>true
 |_=>false
theorem Yz{o:Option TypeDesc}(h:GN o=true):o=some (.int .i64):=by
 unfold GN at h;split at h
 ·rfl
 cases h
def vn(P:Program):List Field->Nat->Bool
 | [],_=>true
 |f::a,i=>f.name != "_" &&GN (P.underlying f.type)&&Nat.beq f.offset i&&vn P a (i+1)
theorem Io{P:Program}{w:World}{xs ys:Array Value}: ∀(a:List Field) (i:Nat) (ms c:List Int),vn P a i=true->ms.length=a.length->c.length=a.length->
  (∀(j:Nat) m,ms[j]? =some m->xs[i+j]? =some (.int .i64 m))->(∀(j:Nat) m,c[j]? =some m->ys[i+j]? =some (.int .i64 m))->
  (Op.eqFields 9999 xs ys a).run P w= .ok (decide (ms=c)) w
 | [],i,ms,c,_,e,h,_,_=>by
  have B:ms=[]:=by simpa using e
  have C:c=[]:=by simpa using h
  subst B;subst C;simp[Op.eqFields]
 |f::a,i,[],c,_,e,_,_,_=>by simp at e
 |f::a,i,m::ms,[],_,_,h,_,_=>by simp at h
 |f::a,i,m::ms,n::c,x,e,h,y,z=>by
  simp only[vn,Bool.and_eq_true] at x;obtain⟨⟨⟨D,l⟩,er⟩,F⟩:=x;have l:=Yz l;have er:=cK er;have o:f.name≠ "_" :=by simpa using D
  have A: ∀(cs:Array Value) (v:Value),cs[i]? =some v->(part f.type cs f.offset).run P w= .ok v w:=by
   intro cs v G;rw[er];simp[part,isAgg,run_underlying l,G]
  have p:=y 0 m rfl;have r:=z 0 n rfl;have I:=Io (P:=P) (w:=w) a (i+1) ms c F (by simpa using e) (by simpa using h)
   (λj q s=>by rw[show i+1+j=i+(j+1) by omega];exact y (j+1) q (by simpa using s))
   λj q s=>by rw[show i+1+j=i+(j+1) by omega];exact z (j+1) q (by simpa using s)
  simp only[Op.eqFields,o,ne_eq,not_false_eq_true,if_true,Sem.run_bind,A xs _ p,A ys _ r,Result.andThen_ok,run_equalIn_int w 9998 f.type .i64 .i64 m n l];by_cases k:m=n
  ·subst k;simp[I]
  simp[k]
section
variable {P:Program} {H:Nat->Option E} {d:Option Tmp} {ty:TypeId} {pos:String} {af:Array Edge} {g:Option (Nat×Bool)}
theorem Aq{D:Map}{w:World}{X:Nat->Prop}{e:List Int}{u:Value}(h:bn D w X (.agg (e.map aa)) u): ∃a:Array Value,u= .agg a/\ ∀(j:Nat) m,e[j]? =some m->a[j]? =some (.int .i64 m):=by
 cases h with
 |agg _ a n o=>
  refine⟨a,rfl,λj m i=>?_⟩;have c:j<a.size:=by
   rw[n,c6];exact(bR.1 i).1
  have k:a[j]? =some a[j]:=hr c;have l:=o j (aa m) _ (by rw[et,i];rfl) k;rw[k];generalize a[j]=q at l;cases l with|t _ _ h=>cases h;rfl
theorem UZ(x y:Operand)(t r:TypeId)(a c:List Int)(s:P.underlying t=some (.struct (P.fieldsOf t)))(z:P.stoodInHeld t=false)(A:P.eqGuardType P.depth t=false)
  (B:vn P (P.fieldsOf t).toList 0=true) (e:Nat.beq a.length (P.fieldsOf t).size=true) (h:Nat.beq c.length (P.fieldsOf t).size=true):
  b9 P H ⟨d,.binOp .neq t x y r,ty,pos,af,g⟩ [.agg (a.map aa),.agg (c.map aa)] (aL (!decide (a=c))):=by
 intro G w X p _ q;obtain⟨i,k,C⟩:=Aq q.1;obtain⟨l,n,D⟩:=Aq q.2.1;refine⟨.bool (!decide (a=c)),?_,.t _ _ (.bool _)⟩;have e:=cK e;have h:=cK h;have F:=Io (P:=P) (w:=w) (xs:=i) (ys:=l) (P.fieldsOf t).toList 0 a c B (by simpa using e) (by simpa using h) (λj m o=>by simpa using C j m o) λj m o=>by simpa using D j m o
 have k:p x=_:=k;have n:p y=_:=n;simp only[execOp,k,n,Sem.run_bind,run_eqGuard_agg w .neq t x y i l A,Result.andThen_ok,run_neq_struct,run_equalIn_struct w 9999 t i l s z,F,Sem.run_pure]
theorem U8(x y:Operand)(t r:TypeId)(a c:List Int)(s:P.underlying t=some (.struct (P.fieldsOf t)))(z:P.stoodInHeld t=false)(A:P.eqGuardType P.depth t=false)
  (B:vn P (P.fieldsOf t).toList 0=true) (e:Nat.beq a.length (P.fieldsOf t).size=true) (h:Nat.beq c.length (P.fieldsOf t).size=true):
  b9 P H ⟨d,.binOp .eql t x y r,ty,pos,af,g⟩ [.agg (a.map aa),.agg (c.map aa)] (aL (decide (a=c))):=by
 intro G w X p _ q;obtain⟨i,k,C⟩:=Aq q.1;obtain⟨l,n,D⟩:=Aq q.2.1;refine⟨.bool (decide (a=c)),?_,.t _ _ (.bool _)⟩;have e:=cK e;have h:=cK h;have F:=Io (P:=P) (w:=w) (xs:=i) (ys:=l) (P.fieldsOf t).toList 0 a c B (by simpa using e) (by simpa using h) (λj m o=>by simpa using C j m o) λj m o=>by simpa using D j m o
 have k:p x=_:=k;have n:p y=_:=n;simp only[execOp,k,n,Sem.run_bind,run_eqGuard_agg w .eql t x y i l A,Result.andThen_ok,run_eql_struct,run_equalIn_struct w 9999 t i l s z,F,Sem.run_pure]
end
def zE(P:Program)(t:TypeId)(n:Nat):Prop:=P.underlying t=some (.struct (P.fieldsOf t))/\P.stoodInHeld t=false/\P.eqGuardType P.depth t=false/\vn P (P.fieldsOf t).toList 0=true/\(P.fieldsOf t).size=n
section
variable {P:Program} {H:Nat->Option E} {d:Option Tmp} {ty:TypeId} {pos:String} {af:Array Edge} {g:Option (Nat×Bool)}
theorem XR(x y:Operand)(t l:TypeId){n:Nat}(i k:List Int)(h:zE P t n)(m:Nat.beq i.length n=true)(o:Nat.beq k.length n=true):
  b9 P H ⟨d,.binOp .neq t x y l,ty,pos,af,g⟩ [.agg (i.map aa),.agg (k.map aa)] (aL (!decide (i=k))):=by obtain⟨a,b,c,e,f⟩:=h;exact UZ x y t l i k a b c e (by rw[f];exact m) (by rw[f];exact o)
theorem XT(x y:Operand)(t l:TypeId){n:Nat}(i k:List Int)(h:zE P t n)(m:Nat.beq i.length n=true)(o:Nat.beq k.length n=true):
  b9 P H ⟨d,.binOp .eql t x y l,ty,pos,af,g⟩ [.agg (i.map aa),.agg (k.map aa)] (aL (decide (i=k))):=by obtain⟨a,b,c,e,f⟩:=h;exact U8 x y t l i k a b c e (by rw[f];exact m) (by rw[f];exact o)
end
inductive Ej where
 |bool
 |int (k:IntKind)
 |string
 |slice (e:Nat)
 |array (n e:Nat)
 |struct (aho:List (Nat×Nat))
 |PW
 |other
structure cj where
 u:Ej
 z:Value
 size:Nat
 bytes:Nat
 places:Array (Nat×Nat)
def Ej.agg:Ej->Bool
 | .struct _=>true
 | .array _ _=>true
 |_=>false
def cj.is(P:Program)(i:cj)(u:TypeDesc):Prop:=match i.u with
 | .bool=>u= .bool
 | .int k=>u= .int k
 | .string=>u= .string
 | .slice e=>u= .slice e
 | .array n e=>u= .array n e
 | .struct l=> ∃a,u= .struct a/\a.toList.map (λf=>(f.type,f.offset))=l/\ ∀w,(a.mapM (m:=Sem) λf:Field=>do pure (f.offset,<-sizeOf f.type)).run P w= .ok i.places w
 | .PW=> ∃m,u= .interface m
 | .other=>kh u=false
def cj.ok(P:Program)(t:TypeId)(i:cj):Prop:= ∃u,cd P t u i.z i.size i.bytes/\i.is P u
variable {P:Program}{t:TypeId}{i:cj}{a b n:Int}{k R:Type}{x:k}{r l:List k}
theorem cj.ok.agg(h:i.ok P t): ∃u,cd P t u i.z i.size i.bytes/\kh u=i.u.agg:=by
 obtain⟨u,e,c⟩:=h;refine⟨u,e,?_⟩;unfold cj.is at c;split at c
 ·rename_i a;rw[a,c];rfl
 ·rename_i a;rw[a,c];rfl
 ·rename_i a;rw[a,c];rfl
 ·rename_i a;rw[a,c];rfl
 ·rename_i a;rw[a,c];rfl
 ·rename_i a;rw[a];obtain⟨k,d,_⟩:=c;rw[d];rfl
 ·rename_i a;rw[a];obtain⟨m,d⟩:=c;rw[d];rfl
 rename_i a;rw[a,c];rfl
theorem cj.ok.ic(h:i.ok P t):(i.u= .bool->P.underlying t=some .bool)/\(∀k,i.u= .int k->P.underlying t=some (.int k))/\(i.u= .string->P.underlying t=some .string)/\
  ∀e,i.u= .slice e->P.underlying t=some (.slice e):=by obtain⟨u,d,c⟩:=h;refine⟨λa=>?_,λk a=>?_,λa=>?_,λe a=>?_⟩<;>simp only[cj.is,a] at c<;>rw[<-c]<;>exact d.1
theorem cj.ok.st{l:List (Nat×Nat)}(h:i.ok P t)(d:i.u= .struct l): ∃a,cd P t (.struct a) i.z i.size i.bytes/\a.toList.map (λf=>(f.type,f.offset))=l/\ ∀w,(a.mapM (m:=Sem) λf:Field=>do pure (f.offset,<-sizeOf f.type)).run P w= .ok i.places w:=by obtain⟨u,e,c⟩:=h;simp only[cj.is,d] at c;obtain⟨a,rfl,k,n⟩:=c;exact⟨a,e,k,n⟩
def dw:List (Nat×cj)->Nat->Option cj
 | [],_=>none
 |(t,i)::l,k=>bif Nat.beq t k then some i else dw l k
def dT(P:Program)(a:List (Nat×cj)):Prop:= ∀t i,dw a t=some i->i.ok P t
theorem dT.nil:dT P []:=λ_ _ h=>by cases h
theorem dT.cons{a:List (Nat×cj)}{t:Nat}(h:i.ok P t)(e:dT P a):dT P ((t,i)::a):=by
 intro k j c;simp only[dw] at c;cases d:Nat.beq t k with
 |true=>rw[d] at c;cases c;rw[<-cK d];exact h
 |false=>rw[d] at c;exact e k j c
inductive ct where
 |row (r:List T)
 |rows (r:List (List T))
 |str (s:List UInt8)
 |int (n:Int)
 |nat (n:Nat)
 |b (w:Bool)
 |y (b:UInt8)
 |v (v:V)
 |iW (slot k:Nat)
 |rZ (cZ:List Nat) (k:Nat)
 |grow (slot k:Nat) (e:TypeId)
 |jA (k:Nat)
 |Bu (b j k:Nat)
 |ep (b j k:Nat) (e:TypeId)
 |afi (i k g:Nat)
 |afh (b j k g:Nat)
 |len (slot n:Nat)
 |eB (b j n:Nat)
 |rY (k:Nat) (cZ:List Nat)
 |bh (k:Nat) (cZ blocks:List Nat)
 |ec (k b1:Nat) (cZ blocks:List Nat)
 |at (rem:Nat)
 |dq (slot k b1:Nat)
 |dG (L news:List Nat) (r:V) (out:List E)
 |dR (k:Nat) (fm:List dO) (m:Nat)
 |da (k:Nat)
 |dV (k b1 i j:Nat) (row:List T)
 |di (k b1:Nat) (row:List T) (R:List (List T))
 |lt (k:Nat) (fm:List dO) (m:Nat)
 |O8 (k i j:Nat) (row:List T)
 |CZ (k:Nat) (row:List T) (R:List (List T))
 |Bx (i j k:Nat) (e:TypeId)
 |cut (k n:Nat) (R:List (List T))
inductive dd where
 |p (p:Prop)
 |q (a b:Nat)
def ch:List dd->Prop
 | []=>True
 | .p p::l=>p/\ch l
 | .q a b::l=>a=b/\ch l
def x4:List dd->Prop
 | []=>True
 | .p p::l=>p/\x4 l
 | .q _ _::l=>x4 l
def u2:List dd->List Nat
 | []=>[]
 | .p _::l=>u2 l
 | .q a _::l=>a::u2 l
def u3:List dd->List Nat
 | []=>[]
 | .p _::l=>u3 l
 | .q _ b::l=>b::u3 l
theorem ch.of: ∀{l:List dd},x4 l->u2 l=u3 l->ch l
 | [],_,_=>trivial
 | .p _::_,h,k=>⟨h.1,ch.of h.2 k⟩
 | .q _ _::_,h,k=>by simp only[u2,u3,List.cons.injEq] at k;exact⟨k.1,ch.of h k.2⟩
theorem ch.app: ∀{l m:List dd},ch (l++m)->ch l/\ch m
 | [],_,h=>⟨trivial,h⟩
 | .p _::_,_,h=>⟨⟨h.1,(ch.app h.2).1⟩,(ch.app h.2).2⟩
 | .q _ _::_,_,h=>⟨⟨h.1,(ch.app h.2).1⟩,(ch.app h.2).2⟩
def au{k:Type}(l:List k)(i:Int):Option k:=if 0<=i then l[i.toNat]? else none
def sub{k:Type}(l:List k)(a b:Int):Option (List k):=if 0<=a/\a<=b/\b<=l.length then some ((l.take b.toNat).drop a.toNat) else none
def cat(a b:List UInt8):Option (List UInt8):=if(a.length:Int)+b.length<=9223372036854775807 then some (a++b) else none
def app{k:Type}(a b:List k):Option (List k):=if a.length+b.length<=1000000000 then some (a++b) else none
def mk{k:Type}(n:Int)(x:k):Option (List k):=if 0<=n/\n<=1000000000 then some (List.replicate n.toNat x) else none
def b'{k:Type}(l:List k)(i:Int)(x:k):Option (List k):=if 0<=i/\i<l.length then some (l.set i.toNat x) else none
def wr(n:Int):Int:=IntKind.i64.wrap n
theorem mu{i:Int}(h:au l i=some x):0<=i/\l[i.toNat]? =some x:=by
 unfold au at h;split at h
 ·exact⟨‹_›,h⟩
 cases h
theorem N'{i:Int}(f:k->R)(h:au l i=some x):au (l.map f) i=some (f x):=by obtain⟨a,c⟩:=mu h;unfold au;rw[a1 a,et,c];rfl
theorem zH(h:sub l a b=some r):0<=a/\a<=b/\b<=l.length/\r=(l.take b.toNat).drop a.toNat:=by
 unfold sub at h;split at h
 ·rename_i c;cases h;exact⟨c.1,c.2.1,c.2.2,rfl⟩
 cases h
theorem pn(f:k->R)(h:sub l a b=some r):sub (l.map f) a b=some (r.map f):=by obtain⟨c,d,e,rfl⟩:=zH h;unfold sub;rw[a1 ⟨c,d,by simpa using e⟩,List.map_drop,s8]
theorem vO{a b:List k}(h:app a b=some r):a.length+b.length<=1000000000/\r=a++b:=by
 unfold app at h;split at h
 ·cases h;exact⟨‹_›,rfl⟩
 cases h
theorem b8{a b:List k}(f:k->R)(h:app a b=some r):app (a.map f) (b.map f)=some (r.map f):=by obtain⟨c,rfl⟩:=vO h;unfold app;rw[a1 (by simpa using c),fQ]
theorem ps(h:mk n x=some r):0<=n/\n<=1000000000/\r=List.replicate n.toNat x:=by
 unfold mk at h;split at h
 ·rename_i a;cases h;exact⟨a.1,a.2,rfl⟩
 cases h
theorem tx(f:k->R)(h:mk n x=some r):mk n (f x)=some (r.map f):=by obtain⟨a,c,rfl⟩:=ps h;unfold mk;rw[a1 ⟨a,c⟩,List.map_replicate]
theorem sD{i:Int}(h:b' l i x=some r):0<=i/\i<l.length/\r=l.set i.toNat x:=by
 unfold b' at h;split at h
 ·rename_i a;cases h;exact⟨a.1,a.2,rfl⟩
 cases h
theorem Y8{a b r:List UInt8}(h:cat a b=some r):(a.length:Int)+b.length<=9223372036854775807/\r=a++b:=by
 unfold cat at h;split at h
 ·cases h;exact⟨‹_›,rfl⟩
 cases h
mutual
def nm:V->V
 | .t .fj=> .t (.aD [])
 | .agg cs=> .agg (gH cs)
 | .bL cs=> .bL (gH cs)
 | .t (.aD r)=> .t (.aD r)
 | .t (.int k n)=> .t (.int k n)
 | .t (.bool b)=> .t (.bool b)
 | .t (.str s)=> .t (.str s)
 |v=>v
def gH:List V->List V
 | []=>[]
 |c::cs=>nm c::gH cs
end
mutual
theorem tv: ∀v:V,dz v (nm v)
 | .t .fj=>dz.nil
 | .t (.aD _)| .t (.int _ _)| .t (.bool _)| .t (.str _)| .t .hf| .t .gp| .t .nl| .t .err=>dz.refl _
 | .agg cs=>dz.agg (lP cs)
 | .bL cs=>dz.bL (lP cs)
 | .ref _ _| .aP _| .bc _ _ _ _ _| .cB _ _ _ _ _| .fn _ _| .c3=>dz.refl _
theorem lP: ∀cs:List V,fo cs (gH cs)
 | []=>trivial
 |c::cs=>⟨tv c,lP cs⟩
end
theorem sy: ∀cs:List V,(gH cs).length=cs.length
 | []=>rfl
 |c::cs=>by simp[gH,sy cs]
def tY(k:Option Nat):List V->List V
 | [.t .fj]=>match k with
  |some _=>[.t .fj]
  |none=>gH [.t .fj]
 |vs=>gH vs
theorem Z0(k:Option Nat)(a:List V):fo a (tY k a):=by
 unfold tY;split
 ·split
  ·exact fo.refl _
  exact lP _
 exact lP _
theorem UJ(k:Option Nat)(a:List V):(tY k a).length=a.length:=by
 unfold tY;split
 ·split
  ·rfl
  exact sy _
 exact sy _
def ym:V->Option T
 | .t x=>some x
 |_=>none
def lq:List V->Option (List T)
 | []=>some []
 |v::a=>match ym v,lq a with
  |some x,some c=>some (x::c)
  |_,_=>none
theorem ow: ∀{a:List V} {c:List T},lq a=some c->a=c.map .t
 | [],_,h=>by cases h;rfl
 |v::a,c,h=>by
  simp only[lq] at h;split at h
  ·rename_i x i e d;cases h;have d:=ow d;cases v<;>simp[ym] at e;subst e;subst d;rfl
  cases h
def wN:List V->Option (List Int)
 | []=>some []
 | .t (.int .i64 m)::a=>match wN a with
  |some ms=>some (m::ms)
  |none=>none
 |_=>none
theorem yN: ∀{a:List V} {ms:List Int},wN a=some ms->a=ms.map aa
 | [],_,h=>by cases h;rfl
 |v::a,ms,h=>by
  unfold wN at h;split at h
  ·rename_i c;cases c
  ·rename_i m d c;cases c;split at h
   ·rename_i e i;cases h;rw[yN i];rfl
   cases h
  cases h
abbrev hv:=Option (V×List dd×List ct)
def Ol(a:BinOp)(m n:Int):Option Bool:=
 match a with
 | .eql=>some (decide (m=n))
 | .neq=>some (!decide (m=n))
 | .lss=>some (decide (m<n))
 | .leq=>some (decide (m<=n))
 | .gtr=>some (decide (n<m))
 | .geq=>some (decide (n<=m))
 |_=>none
def N1(a:BinOp):Bool:=
 match a with
 | .and| .or| .xor| .andNot=>true
 |_=>false
def GI(op:BinOp)(k:IntKind)(m n:Int)(a:List ct):hv:=
 match op with
 | .add=>some (.t (.int k (k.wrap (m+n))),[],a)
 | .sub=>some (.t (.int k (k.wrap (m-n))),[],a)
 | .mul=>some (.t (.int k (k.wrap (m*n))),[],a)
 | .quo=>some (.t (.int k (k.wrap (m.tdiv n))),[.p (n≠0)],a)
 | .rem=>some (.t (.int k (m.tmod n)),[.p (n≠0)],a)
 | .and=>some (.t (.int k (bits .and k m n)),[],a)
 | .or=>some (.t (.int k (bits .or k m n)),[],a)
 | .xor=>some (.t (.int k (bits .xor k m n)),[],a)
 | .andNot=>some (.t (.int k (bits .andNot k m n)),[],a)
 | .shl| .shr=>none
 |op=>match Ol op m n with
  |some b=>some (.t (.bool b),[],a)
  |none=>none
def GC(c:BinOp)(m n:List UInt8)(a:List ct):hv:=
 match c,a with
 | .add,.str r::a=>some (.t (.str r),[.p (cat m n=some r)],a)
 | .eql,a=>some (.t (.bool (decide (m=n))),[],a)
 | .neq,a=>some (.t (.bool (!decide (m=n))),[],a)
 | .geq,a=>some (.t (.bool (!Op.bytesLess m n)),[],a)
 | .lss,a=>some (.t (.bool (Op.bytesLess m n)),[],a)
 | .gtr,a=>some (.t (.bool (!Op.bytesLess m n&& !m==n)),[],a)
 | .leq,a=>some (.t (.bool (Op.bytesLess m n||m==n)),[],a)
 |_,_=>none
def Gc:Option cj->Bool
 |some i=>match i.u with
  | .bool=>true
  |_=>false
 |none=>false
def GA(P:Program)(e:List (Nat×cj))(d:BinOp)(t:TypeId)(v w:V)(a:List ct):hv:=
 match v,w with
 | .t (.int k m),.t (.int h n)=>if k=h then GI d k m n a else none
 | .t (.str m),.t (.str n)=>GC d m n a
 | .t (.bool p),.t (.bool q)=>match Gc (dw e t),d with
  |true,.eql=>some (.t (.bool (p==q)),[],a)
  |true,.neq=>some (.t (.bool (!(p==q))),[],a)
  |_,_=>none
 | .agg cs,.agg i=>match wN cs,wN i,d,a with
  |some ms,some c,.eql,.b b::a=>some (.t (.bool b),[.p (zE P t ms.length),.q c.length ms.length,.p (decide (ms=c)=b)],a)
  |some ms,some c,.neq,.b b::a=>some (.t (.bool (!b)),[.p (zE P t ms.length),.q c.length ms.length,.p (decide (ms=c)=b)],a)
  |_,_,_,_=>none
 |_,_=>none
def GM:Option cj->Bool
 |some i=>match i.u with
  | .PW=>true
  |_=>false
 |none=>false
def o9:Operand->Bool
 | .const _=>true
 |_=>false
def GJ(c:List (Nat×cj))(d:BinOp)(t:TypeId)(x y:Operand)(v w:V)(a:List ct):hv:=
 match GM (dw c t),o9 x||o9 y,v,w,d with
 |true,true,.t .err,.t .gp,.eql=>some (.t (.bool false),[],a)
 |true,true,.t .err,.t .gp,.neq=>some (.t (.bool true),[],a)
 |true,true,.t .gp,.t .gp,.eql=>some (.t (.bool true),[],a)
 |true,true,.t .gp,.t .gp,.neq=>some (.t (.bool false),[],a)
 |_,_,_,_,_=>none
def GU(c:UnOp)(v:V)(a:List ct):hv:=
 match c,v with
 | .not,.t (.bool b)=>some (.t (.bool (!b)),[],a)
 | .neg,.t (.int k n)=>some (.t (.int k (k.wrap (0-n))),[],a)
 |_,_=>none
def Fp(a:List (Nat×cj)):Option cj->Bool
 |some i=>match i.u with
  | .slice e=>match dw a e with
   |some j=>match j.u with
    | .int .u8=>true
    |_=>false
   |none=>false
  |_=>false
 |none=>false
def Gi(d:List (Nat×cj))(e h:TypeId)(v:V)(a:List ct):hv:=
 match dw d e,dw d h with
 |some i,some j=>match j.u,v,a with
  | .int k,.t (.int _ n),.int m::a=>some (.t (.int k m),[.p (k.wrap n=m)],a)
  | .int .u8,.t (.int _ n),.y m::a=>some (.t (.int .u8 (m.toNat:Nat)),[.p (UInt8.ofInt n=m)],a)
  | .string,.t (.aD c),.str l::a=>match Fp d (some i) with
   |true=>some (.t (.str l),[.p (c=l.map np)],a)
   |false=>none
  |_,_,_=>none
 |_,_=>none
def tr(n:List (Nat×cj))(H:Nat->Option E)(t:TypeId)(v:V)(h:List ct):hv:=
 match dw n t with
 |none=>none
 |some i=>match v with
  | .ref id a=>match H id with
   |some (.cells cs)=>match i.u.agg with
    |true=>match Nat.ble (a+i.size) cs.length with
     |true=>some (.agg ((cs.drop a).take i.size),[],h)
     |false=>none
    |false=>match cs[a]? with
     |some c=>some (c,[],h)
     |none=>none
   |_=>none
  | .aP cs=>match i.u.agg with
   |true=>match Nat.ble i.size cs.length with
    |true=>some (.agg ((cs.take i.size).map .t),[],h)
    |false=>none
   |false=>match cs with
    |c::_=>some (.t c,[],h)
    | []=>none
  | .cB id gen m k a=>match H id,i.u.agg,h with
   |some (.arr _ d l e),false,.row r::h=>match r[a]? with
    |some c=>some (.t c,[.q d gen,.q l m,.p (e[k]? =some r)],h)
    |none=>none
   |some (.arr _ d l e),true,.row r::h=>match Nat.ble (a+i.size) r.length with
    |true=>some (.agg (((r.drop a).take i.size).map .t),[.q d gen,.q l m,.p (e[k]? =some r)],h)
    |false=>none
   |_,_,_=>none
  |_=>none
def rD(j:Nat):List (Nat×Nat×V)->Option (Nat×V)
 | []=>none
 |h::a=>bif Nat.beq h.2.1 j then some (h.1,h.2.2) else rD j a
def rz(a:List (Nat×Nat×V)):Nat->Nat->Option (List (Nat×V))
 |_,0=>some []
 |j,n+1=>match rD j a,rz a (j+1) n with
  |some x,some l=>some (x::l)
  |_,_=>none
def rG(k:Nat):List (Nat×V)->List dd
 | []=>[]
 |x::l=> .q x.1 k::rG k l
def rS(i j:Nat):List (Nat×Nat×V)->List dd
 | []=>[]
 |h::a=>bif Nat.beq h.2.1 j then .p (i≠h.1)::rS i j a else rS i j a
theorem wv{i j:Nat}: ∀{c:List (Nat×Nat×V)},ch (rS i j c)-> ∀v,(i,j,v)∉c
 | [],_,_,h=>by cases h
 |h::c,a,v,hm=>by
  unfold rS at a;cases d:Nat.beq h.2.1 j with
  |true=>
   rw[d] at a;rcases dN.1 hm with rfl|hm
   ·exact a.1 rfl
   exact wv a.2 v hm
  |false=>
   rw[d] at a;rcases dN.1 hm with rfl|hm
   ·simp at d
   exact wv a v hm
def FL(y:List (Nat×cj))(H:Nat->Option E)(t:TypeId)(v:V)(h:List ct):hv:=
 match dw y t,v,h with
 |some i,.cB id gen o k a,.row r::h=>match H id with
  |some (.a' n m d e s)=>match i.u.agg with
   |false=>match r[a]?,rD a s with
    |some c,none=>match (aO n m).eg a with
     |none=>some (.t c,[.q d gen,.q (aO n m).size o,.p (e[k]? =some r)],h)
     |some _=>none
    |some _,some (w,x)=>some (x,[.q d gen,.q (aO n m).size o,.p (e[k]? =some r),.q w k],h)
    |none,_=>none
   |true=>match Nat.ble (a+i.size) r.length,rz s a i.size with
    |true,some l=>some (.agg (l.map (·.2)),.q d gen:: .q (aO n m).size o:: .p (e[k]? =some r)::rG k l,h)
    |_,_=>none
  |_=>none
 |some i,.cB id gen o k a,.int q:: .row r::h=>match H id with
  |some (.a' n m d e s)=>match i.u.agg,r[a]?,s[q.toNat]? with
   |false,some _,some (w,z,x)=>some (x,[.q d gen,.q (aO n m).size o,.p (e[k]? =some r),.q w k,.q z a],h)
   |true,_,_=>match Nat.ble (a+i.size) r.length,rz (s.drop q.toNat) a i.size with
    |true,some l=>some (.agg (l.map (·.2)),.q d gen:: .q (aO n m).size o:: .p (e[k]? =some r)::rG k l,h)
    |_,_=>none
   |_,_,_=>none
  |_=>none
 |some i,.cB id gen o k a,.nat _:: .row r::h=>match H id with
  |some (.a' n m d e s)=>match i.u.agg,r[a]?,(aO n m).eg a with
   |false,some c,none=>some (.t c,.q d gen:: .q (aO n m).size o:: .p (e[k]? =some r)::rS k a s,h)
   |_,_,_=>none
  |_=>none
 |_,_,_=>none
def GL(e:List (Nat×cj))(t:TypeId)(k:Nat)(v:V)(h:List ct):hv:=
 match dw e t with
 |none=>none
 |some i=>match i.u with
  | .struct l=>match l[k]? with
   |none=>none
   |some a=>match dw e a.1 with
    |none=>none
    |some j=>match v with
     | .agg d=>match j.u.agg with
      |true=>match Nat.ble (a.2+j.size) d.length with
       |true=>some (.agg ((d.drop a.2).take j.size),[],h)
       |false=>none
      |false=>match d[a.2]? with
       |some c=>some (c,[],h)
       |none=>none
     |_=>none
  |_=>none
def FN(m:List (Nat×cj))(H:Nat->Option E)(t:TypeId)(k:Nat)(v:V)(e:List ct):hv:=
 match dw m t with
 |none=>none
 |some i=>match i.u with
  | .struct o=>match o[k]? with
   |none=>none
   |some a=>match dw m a.1 with
    |none=>none
    |some j=>match Nat.beq j.size 0 with
     |true=>none
     |false=>match v with
      | .ref id d=>some (.ref id (d+a.2),[],e)
      | .aP cs=>some (.aP (cs.drop a.2),[],e)
      | .cB id gen h n d=>match H id with
       |some (.arr _ c l _)=>some (.cB id gen h n (d+a.2),[.q c gen,.q l h],e)
       |some (.a' _ _ c _ _)=>some (.cB id gen h n (d+a.2),[.q c gen],e)
       |_=>none
      |_=>none
  |_=>none
def GK(s:List (Nat×cj))(H:Nat->Option E)(t:TypeId)(v w:V)(h:List ct):hv:=
 match dw s t with
 |none=>none
 |some i=>match i.u with
  | .slice e=>match dw s e with
   |none=>none
   |some j=>match v,w with
    | .t (.aD l),.t (.int .i64 n)=>match h with
     | .row r::h=>match Nat.beq r.length j.size with
      |true=>some (.aP r,[.p (au l n=some r)],h)
      |false=>none
     |_=>none
    | .bc id gen a d o,.t (.int .i64 n)=>match H id,Nat.beq a j.size with
     |some (.arr _ c x _),true=>some (.cB id gen a (d+n.toNat) 0,[.q c gen,.q x a,.p (0<=n/\n<(o:Int))],h)
     |some (.a' _ _ c _ _),true=>some (.cB id gen a (d+n.toNat) 0,[.q c gen,.p (0<=n/\n<(o:Int))],h)
     |_,_=>none
    |_,_=>none
  | .array m e=>match dw s e with
   |none=>none
   |some j=>match v,w,h with
    | .ref id d,.t (.int .i64 n),.nat k::h=>match Nat.ble (k+1) m with
     |true=>some (.ref id (d+k*j.size),[.p (n=(k:Int))],h)
     |false=>none
    |_,_,_=>none
  |_=>none
def wM:Option cj->Bool
 |some i=>match i.u with
  | .string=>true
  |_=>false
 |none=>false
def wX:Option cj->Bool
 |some i=>match i.u with
  | .slice _=>true
  |_=>false
 |none=>false
def GD(d:List (Nat×cj))(e:BinOp)(t:TypeId)(v w:V)(c:List ct):hv:=
 match wX (dw d t),v,w,e,c with
 |true,.t (.aD a),.t .fj,.eql,.b false::c=>some (.t (.bool false),[.p (a≠[])],c)
 |_,_,_,_,_=>none
def FM(c:List (Nat×cj))(t:TypeId)(v w:V)(a:List ct):hv:=
 match wM (dw c t),v,w,a with
 |true,.t (.str l),.t (.int .i64 n),.y b::a=>some (.t (.int .u8 (b.toNat:Nat)),[.p (au l n=some b)],a)
 |_,_,_,_=>none
def rE(d e:Option Operand)(c:Nat)(h:List V):Option (Int×Int):=
 match d,e,h with
 |some _,some _,[.t (.int .i64 a),.t (.int .i64 b)]=>some (a,b)
 |some _,none,[.t (.int .i64 a)]=>some (a,(c:Int))
 |none,some _,[.t (.int .i64 b)]=>some (0,b)
 |_,_,_=>none
def FK(s:List (Nat×cj))(H:Nat->Option E)(t:TypeId)(y z:Option Operand)(w:List V)(h:List ct):hv:=
 match w with
 | .t (.str l)::x=>match wM (dw s t),rE y z l.length x,h with
  |true,some (a,b),.str r::h=>some (.t (.str r),[.p (sub l a b=some r)],h)
  |_,_,_=>none
 | .t (.aD d)::x=>match dw s t with
  |none=>none
  |some i=>match i.u with
   | .slice e=>match dw s e,rE y z d.length x,h with
    |some j,some (a,b),.rows r::h=>some (.t (.aD r),[.p (sub d a b=some r),.p (Rows j.size d)],h)
    |_,_,_=>none
   |_=>none
 | .bc id gen c n k::x=>match dw s t,(H id).bind E.gen? with
  |some i,some B=>match i.u with
   | .slice e=>match dw s e,rE y z k x,h with
    |some j,some (a,b),.nat o:: .nat m::h=>some (.bc id gen c o m,[.q B gen,.q c j.size,.p (0<=a/\a<=b/\b<=k/\(a=0\/a<k)/\o=n+a.toNat/\m=b.toNat-a.toNat)],h)
    |some _,some (a,b),.int 0::h=>some (.t (.aD []),[.q B gen,.p (0<=a/\a=b/\b<=k)],h)
    |some j,some (a,b),.int 1:: .nat o:: .nat m::h=>match H id with
     |some (.arr _ C A d)=>some (.bc id gen c o m,[.q C gen,.q A c,.q c j.size,.p (0<c/\0<=a/\a<b/\n+b<=d.length/\o=n+a.toNat/\m=b.toNat-a.toNat)],h)
     |_=>none
    |_,_,_=>none
   |_=>none
  |_,_=>none
 |_=>none
def Fl(k:List (Nat×cj))(H:Nat->Option E)(t:TypeId)(d:List V)(l:List ct):hv:=
 match d with
 | [.bc id gen _ _ h,.t (.int .i64 a),.t (.int .i64 b),.t (.int .i64 c)]=>match dw k t,(H id).bind E.gen? with
  |some i,some m=>match i.u with
   | .slice e=>match dw k e with
    |some _=>some (.c3,[.q m gen,.p (0<=a/\a<=b/\b<=c/\c<=h)],l)
    |none=>none
   |_=>none
  |_,_=>none
 |_=>none
def Gj(k:List (Nat×cj))(t:TypeId)(d:List V)(h:List ct):hv:=
 match d,h with
 | [.t (.aD a),.t (.int .i64 b),.t (.int .i64 c)],.rows r::h=>match dw k t with
  |some i=>match i.u with
   | .slice e=>match dw k e with
    |some j=>some (.t (.aD r),[.p (sub a 0 b=some r/\c=b),.p (Rows j.size a)],h)
    |none=>none
   |_=>none
  |none=>none
 |_,_=>none
def GH(i:List (Nat×cj))(H:Nat->Option E)(t:TypeId)(v:V)(c:List ct):hv:=
 match v,c with
 | .t (.str l),c=>match wM (dw i t) with
  |true=>some (.t (.int .i64 (l.length:Nat)),[],c)
  |false=>none
 | .t (.aD d),.nat n::c=>match wX (dw i t) with
  |true=>some (.t (.int .i64 (n:Nat)),[.p (d.length=n)],c)
  |false=>none
 | .bc id gen e _ h,.nat n::c=>match H id,wX (dw i t) with
  |some (.arr _ a k _),true=>some (.t (.int .i64 (n:Nat)),[.q a gen,.q k e,.p (h=n)],c)
  |some (.a' _ _ a _ _),true=>some (.t (.int .i64 (n:Nat)),[.q a gen,.p (h=n)],c)
  |_,_=>none
 |_,_=>none
def EE(h:List (Nat×cj))(H:Nat->Option E)(b:Builtin)(c:List TypeId)(i:List Operand)(a:List V)(d:List ct):hv:=
 match b,c,i,a with
 | .len,[t],[_],[v]=>GH h H t v d
 | .max,_,[_,_],[.t (.int k m),.t (.int e n)]=>if k=e then some (.t (.int k (max m n)),[],d) else none
 | .min,_,[_,_],[.t (.int k m),.t (.int e n)]=>if k=e then some (.t (.int k (min m n)),[],d) else none
 |_,_,_,_=>none
def GF(H:Nat->Option E)(v:V)(a:List ct):hv:=
 match v with
 | .cB id gen _ _ _=>match (H id).bind E.gen? with
  |some c=>some (v,[.q c gen],a)
  |none=>none
 | .ref _ _=>some (v,[],a)
 | .aP _=>some (v,[],a)
 | .fn _ _=>some (v,[],a)
 |_=>none
def FP(d:List (Nat×cj))(t:TypeId)(c:List Nat)(a:List V)(e:List ct):hv:=
 match dw d t with
 |none=>none
 |some i=>match i.u with
  | .struct _=>match (gM i.z).val,Nat.beq c.length a.length,kD (i.places[·]?) (gM i.z).cs (c.zip a) with
   |true,true,some cs=>some (.agg cs,[],e)
   |_,_,_=>none
  |_=>none
def xg(P:Program)(h:List (Nat×cj))(H:Nat->Option E)(l:Op)(a:List V)(e:List ct):hv:=
 match l with
 | .move _=>match a with
  | [v]=>some (v,[],e)
  |_=>none
 | .assign _=>match a with
  | [v]=>some (v,[],e)
  |_=>none
 | .pick _ _ _=>match a,e with
  | [.t (.bool b),v,w],.b c::e=>some (bif c then v else w,[.p (b=c)],e)
  |_,_=>none
 | .load t _=>match a with
  | [v]=>match tr h H t v e with
   |some r=>some r
   |none=>FL h H t v e
  |_=>none
 | .nilCheck _=>match a with
  | [v]=>GF H v e
  |_=>none
 | .binOp o t x y _=>match a with
  | [v,w]=>match GA P h o t v w e with
   |some r=>some r
   |none=>match GJ h o t x y v w e with
    |some r=>some r
    |none=>GD h o t v w e
  |_=>none
 | .unOp o _ _=>match a with
  | [v]=>GU o v e
  |_=>none
 | .convert s d _=>match a with
  | [v]=>Gi h s d v e
  |_=>none
 | .makeFunc m first _=>match m,first.toList with
  | .func f,[]=>some (.fn f a,[],e)
  |_,_=>none
 | .slice t _ bf i mq=>match mq with
  |none=>FK h H t bf i a e
  |some _=>match bf,i with
   |some _,some _=>Fl h H t a e
   |none,some _=>Gj h t a e
   |_,_=>none
 | .fieldAddr t _ k=>match a with
  | [v]=>FN h H t k v e
  |_=>none
 | .field t _ k=>match a with
  | [v]=>GL h t k v e
  |_=>none
 | .indexAddr t _ _=>match a with
  | [v,w]=>GK h H t v w e
  |_=>none
 | .index t _ _=>match a with
  | [v,w]=>FM h t v w e
  |_=>none
 | .extract _ k=>match a with
  | [.bL n]=>match n[k]? with
   |some v=>some (v,[],e)
   |none=>none
  |_=>none
 | .build t q=>FP h t (q.toList.map (·.1)) a e
 | .call c=>match c.callee with
  | .builtin b=>EE h H b c.argTypes.toList c.args.toList a e
  |_=>none
 |_=>none
end Go.Lift
