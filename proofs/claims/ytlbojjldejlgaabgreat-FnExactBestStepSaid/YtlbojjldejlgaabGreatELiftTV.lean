/- Tools. -/
import Derived.Test.YtlbojjldejlgaabGreatELiftAB
import Derived.Laws.BitsAllLaws
import Derived.Laws.BytesArg
import Derived.Laws.StructEq
namespace Go.Lift
open Go
section
variable {G β:Map}{w:World}{X:Nat->Prop}{n m k b i:Nat}{a:Act}{e:TypeId}{o hs:List (Nat×Nat×V)}
theorem s0{c:List dG}{gen:Nat}{a:List (List T)}{e:List (Nat×Nat×V)}(h:cy G w X n (.a6 c m gen a e)): ∃q,G n=some (q,gen):=by
 rcases h.2 with ⟨i,_⟩|⟨b,k,_,i,_⟩
 ·exact⟨_,i⟩
 exact⟨_,i⟩
def Map.drop(a:Map)(k:Nat):Map:=⟨a.f,λid b=>id≠k/\a.n id b⟩
theorem nZ(h:At (G.drop k) n b):At G n b:=by
 rcases h with h|h
 ·exact .inl h
 exact .inr h.2
theorem Rel.drop{K:Ctx}{s:S}(h:Rel K β s a w)(k:Nat)(e':E)(x:s.H k≠none)
  (B:cy (β.drop k) w (own K (β.drop k) (aQ s.H k (some e'))) k e'):Rel K (β.drop k) {s with H:=aQ s.H k (some e')} a w:=by
 have l: ∀b,own K (β.drop k) (aQ s.H k (some e')) b->own K β s.H b:=by
  rintro b (c|⟨id,m,o⟩)
  ·exact .inl c
  refine .inr ⟨id,λp=>?_,nZ o⟩;by_cases n:id=k
  ·subst n;exact x p
  rw[bR _ _ _ _ n] at m;exact m p
 have y:de β (β.drop k):=λ_ _ _ c=> .inl c;refine {h with base:=λid hid=>h.base id hid,dB:=λid hid=>h.dB id hid,dX:=λid b hid q=>h.dX id b hid q.2,inj:=λid r b m o=>h.inj id r b (nZ m) (nZ o),fresh:=λid b q=>h.fresh id b (nZ q),heap:= ?_,cU:=λi=>(h.cU i).mono (Ext.refl _ _) (λb _=>l b) y (Shaped.refl _ _)};intro id e c;have c:aQ s.H k (some e') id=some e:=c;by_cases n:id=k
 ·subst n;rw[bQ] at c;cases c;cases A:s.H id with
  |none=>exact bt A x
  |some p=>exact⟨(h.heap id p A).1,B⟩
 rw[bR _ _ _ _ n] at c;obtain⟨m,o⟩:=h.heap id e c;exact⟨m,o.mono (Ext.refl _ _) (λb _=>l b) y (λ_ h=>h) (Shaped.refl _ _) (λ_ _=>rfl) λb=>⟨λh=>h.2,λh=>⟨n,h⟩⟩⟩
theorem ZD{K:Ctx}{s:S}(k:Nat){gen:Nat}{v:List (List T)}(l:List dG)(m:Nat)(y:s.H k=some (.arr e gen n v))(r:(U l m).ty=e)(A:(U l m).size=n)
  (B:v=[]\/(U l m).bj=[]):s.le K {s with H:=aQ s.H k (some (.a6 l m gen v []))}:=by
 intro F a w h;refine⟨_,h.drop k (.a6 l m gen v []) (by rw[y];simp) ?_⟩;have o:=(h.heap k _ y).2;subst r;subst A;refine⟨o.1,?_⟩;have p: ∀b,own K (F.drop k) (aQ s.H k (some (.a6 l m gen v []))) b->own K F s.H b:=by
  rintro b (Q|⟨id,r,A⟩)
  ·exact .inl Q
  refine .inr ⟨id,λC=>?_,nZ A⟩;by_cases G:id=k
  ·subst G;rw[y] at C;cases C
  rw[bR _ _ _ _ G] at r;exact r C
 rcases o.2 with ⟨aH,a2⟩|⟨b,R,aH,a2,a3,a4,a5⟩
 ·exact .inl ⟨aH,a2,λc q=>q.1 rfl⟩
 refine .inr ⟨b,R,λ_ _ _=>False,aH,a2,a3,a4,λi j D x u L W X=>Cell.of ?_,λ_ _ _ h=>h.elim,λ_ _ _ _ _ h=>h.elim,λc=>⟨λq=>bt rfl q.1,λ⟨_,_,q⟩=>q.elim⟩⟩;rcases B with rfl|B
 ·simp at L
 have:(U l m).ej j=none:=by unfold dG.ej;rw[B];rfl
 rw[this];exact .iG _ _ _ ((a5 i j D x u L W X).mono (Ext.refl _ _) λb _=>p b) λ_ h=>h
theorem ZE{K:Ctx}{s:S}(k:Nat){e:List dG}{gen:Nat}{v:List (List T)}(y:s.H k=some (.a6 e m gen v []))(q:Nat.ble K.c6 k=true):
  s.le K {s with H:=aQ s.H k (some (.arr (U e m).ty gen (U e m).size v))}:=by
 have L:=eB q;intro r a w h;refine⟨_,h.drop k (.arr (U e m).ty gen (U e m).size v) (by rw[y];simp) ?_⟩;have n:=(h.heap k _ y).2;have o: ∀b,own K (r.drop k) (aQ s.H k (some (.arr (U e m).ty gen (U e m).size v))) b->own K r s.H b:=by
  rintro b (p|⟨id,A,l⟩)
  ·exact .inl p
  refine .inr ⟨id,λC=>?_,nZ l⟩;by_cases G:id=k
  ·subst G;rw[y] at C;cases C
  rw[bR _ _ _ _ G] at A;exact A C
 refine⟨n.1,?_⟩;rcases n.2 with ⟨aH,a2,_⟩|⟨b,Q,B,aH,a2,a3,a4,a5,iY,ib,e9⟩
 ·exact .inl ⟨aH,a2⟩
 refine .inr ⟨b,Q,aH,a2,a3,a4,λi j D x u R W X=>(a5 i j D x u R W X).none.yn o ?_⟩;intro c f p;have q:At r k c:= .inr ((e9 c).2 ⟨i,j,f⟩);rcases p with p|⟨id,A,l⟩
 ·obtain⟨N,I⟩:=h.ia c p;rcases(h.fresh k c q).1 with F|M
  ·exact I F
  omega
 have:=h.inj _ _ _ (nZ l) q;subst this;rcases l with ⟨g,l⟩|l
 ·have V:r id=some (some c,g):=l
  grind
 exact l.1 rfl
def Map.split(c:Map)(k a:Nat)(q:Option Nat)(N:Nat->Prop):Map:=
 ⟨λi=>bif Nat.beq i a then some (q,1) else c i,λid b=>(id=a/\N b)\/(id=k/\id≠a/\c.n k b/\ ¬N b/\q≠some b)\/(id≠a/\id≠k/\c.n id b)⟩
theorem Og(h:i≠k):Nat.beq i k=false:=by
 cases a:Nat.beq i k with
 |false=>rfl
 |true=>exact bt (cH a) h
theorem yG(b:Map)(k a:Nat)(q:Option Nat)(N:Nat->Prop):b.split k a q N a=some (q,1):=by simp[Map.split]
theorem uX(a:Map)(k b:Nat)(q:Option Nat)(N:Nat->Prop)(id:Nat)(h:id≠b):a.split k b q N id=a id:=by simp[Map.split,Og h]
theorem aag{G:Map}{k m:Nat}{q:Option Nat}{N:Nat->Prop}(p: ∀b,q=some b->G.n k b)(r: ∀b,N b->G.n k b){i b:Nat}(h:At (G.split k m q N) i b):
  (i=m/\G.n k b/\(q=some b\/N b))\/(i≠m/\At G i b/\(i=k->(∃g,G k=some (some b,g))\/(¬N b/\q≠some b))):=by
 rcases h with ⟨g,h⟩|⟨rfl,h⟩|⟨rfl,a,c,l,w⟩|⟨a,c,l⟩
 ·by_cases o:i=m
  ·subst o;rw[yG] at h;cases h;exact .inl ⟨rfl,p _ rfl,.inl rfl⟩
  rw[uX _ _ _ _ _ _ o] at h;exact .inr ⟨o,.inl ⟨g,h⟩,λe=> .inl ⟨g,e▸h⟩⟩
 ·exact .inl ⟨rfl,r b h,.inr h⟩
 ·exact .inr ⟨a,.inr c,λ_=> .inr ⟨l,w⟩⟩
 exact .inr ⟨a,.inr l,λe=>bt e c⟩
theorem Rel.split{K:Ctx}{s:S}(h:Rel K β s a w)(k b0:Nat)(q:Option Nat)(N:Nat->Prop)(p r:E)(R:s.H k≠none)(L:s.u b0=false)
  (V: ∀b,q=some b->β.n k b/\ ¬N b) (Y: ∀b,N b->β.n k b) (W: ∀b g,β k=some (some b,g)-> ¬β.n k b)
  (aie:(∀b,own K (β.split k b0 q N) (aQ (aQ s.H k (some p)) b0 (some r)) b->own K β s.H b)->cy (β.split k b0 q N) w (own K (β.split k b0 q N) (aQ (aQ s.H k (some p)) b0 (some r))) k p)
  (X:(∀b,own K (β.split k b0 q N) (aQ (aQ s.H k (some p)) b0 (some r)) b->own K β s.H b)->cy (β.split k b0 q N) w (own K (β.split k b0 q N) (aQ (aQ s.H k (some p)) b0 (some r))) b0 r):
  Rel K (β.split k b0 q N) {t:=s.t,H:=aQ (aQ s.H k (some p)) b0 (some r),u:=aQ s.u b0 true} a w:=by
 have f:s.u k=true:=by
  cases I:s.H k with
  |none=>exact bt I R
  |some Q=>exact(h.heap k Q I).1
 have hne:k≠b0:=by intro e;subst e;rw[f] at L;cases L
 have y:= @aag β k b0 q N (λb F=>(V b F).1) Y;have o: ∀b,own K (β.split k b0 q N) (aQ (aQ s.H k (some p)) b0 (some r)) b->own K β s.H b:=by
  rintro b (l|⟨id,m,G⟩)
  ·exact .inl l
  rcases y G with ⟨_,j,_⟩|⟨j,h4,_⟩
  ·exact .inr ⟨k,R,.inr j⟩
  refine .inr ⟨id,λQ=>?_,h4⟩;rw[bR _ _ _ _ j] at m;by_cases C:id=k
  ·subst C;exact R Q
  rw[bR _ _ _ _ C] at m;exact m Q
 have D:=h.dB b0 L;have B: ∀id x,β id=some x->β.split k b0 q N id=some x:=λid x l=>by
  rw[uX _ _ _ _ _ _ (by intro e;subst e;rw[D] at l;cases l)];exact l
 have M:de β (β.split k b0 q N):=de.of B;refine {h with base:= ?_,low:= ?_,dB:= ?_,dX:= ?_,inj:= ?_,fresh:= ?_,heap:= ?_,cU:=λi=>(h.cU i).mono (Ext.refl _ _) (λb _=>o b) M (Shaped.refl _ _)}
 ·refine h.base.keep λid hid=>uX _ _ _ _ _ _ ?_;intro e;subst e;have:=h.low id hid;rw[L] at this;cases this
 ·intro id hid;show aQ s.u b0 true id=true;by_cases e:id=b0
  ·subst e;exact bQ _ _ _
  rw[bR _ _ _ _ e];exact h.low id hid
 ·intro id hid;have c:aQ s.u b0 true id=false:=hid;by_cases e:id=b0
  ·subst e;rw[bQ] at c;cases c
  rw[bR _ _ _ _ e] at c;rw[uX _ _ _ _ _ _ e];exact h.dB id c
 ·intro id b hid F;have c:aQ s.u b0 true id=false:=hid;have e:id≠b0:=by intro e;subst e;rw[bQ] at c;cases c
  rw[bR _ _ _ _ e] at c;rcases F with ⟨m,_⟩|⟨rfl,_,m,_⟩|⟨_,_,m⟩
  ·exact e m
  ·exact h.dX _ b c m
  exact h.dX id b c m
 ·intro id jI b m G;rcases y m with ⟨rfl,aH,a2⟩|⟨aH,a2,a3⟩<;>rcases y G with ⟨T,U,v⟩|⟨U,v,c3⟩
  ·exact T.symm
  ·have:=h.inj _ _ b (.inr aH) v
   grind
  ·subst T
   have:=h.inj _ _ b (.inr U) a2
   grind
  exact h.inj _ _ b a2 v
 ·intro id b F;rcases y F with ⟨_,aH,_⟩|⟨_,a2,_⟩
  ·exact h.fresh k b (.inr aH)
  exact h.fresh id b a2
 intro id e l;have l:aQ (aQ s.H k (some p)) b0 (some r) id=some e:=l;show aQ s.u b0 true id=true/\cy _ w (own K _ (aQ (aQ s.H k (some p)) b0 (some r))) id e;by_cases C:id=b0
 ·subst C;rw[bQ] at l;cases l;exact⟨bQ _ _ _,X o⟩
 rw[bR _ _ _ _ C] at l⊢;by_cases A:id=k
 ·subst A;rw[bQ] at l;cases l
  grind
 rw[bR _ _ _ _ A] at l;obtain⟨m,G⟩:=h.heap id e l;exact⟨m,G.mono (Ext.refl _ _) (λb _=>o b) M (B id) (Shaped.refl _ _) (λ_ _=>rfl) (λb=>⟨λh=>by
  rcases h with ⟨h,_⟩|⟨h,_⟩|⟨_,_,h⟩
  ·exact bt h C
  ·exact bt h A
  exact h,λh=> .inr (.inr ⟨C,A,h⟩)⟩)⟩
def qP(j:Nat):List (Nat×Nat×V)->Bool
 | []=>true
 |h::a=> !(Nat.beq h.2.1 j)&&qP j a
theorem yX{j:Nat}: ∀{a:List (Nat×Nat×V)},qP j a=true-> ∀i v,(i,j,v)∉a
 | [],_,_,_,h=>by cases h
 |h::a,b,i,v,hm=>by
  simp only[qP,Bool.and_eq_true,Bool.not_eq_true'] at b;rcases dI.1 hm with rfl|hm
  ·simp at b
  exact yX b.2 i v hm
theorem XH{K:Ctx}{s:S}(k b0 i j R:Nat){r:List dG}{gen:Nat}{y:List (List T)}{W:List T}{l:List (List T)}{Y:List (Nat×Nat×V)}(hk:s.H k=some (.a6 r m gen y Y))(hu:s.u b0=false)
  (aD:y[i]? =some W) (hj:W[j]? =some (.ay l)) (hm:(U r m).ej j=some R) (f: ∀v,(i,j,v)∉Y):
  s.le K {t:=s.t,H:=aQ (aQ s.H k (some (.a6 r m gen y ((i,j,.a7 b0 1 (U r R).size 0 l.length)::Y)))) b0 (some (.a6 r R 1 l [])),u:=aQ s.u b0 true}:=by
 intro I a w h;have Is:=(h.heap k _ hk).1;have F:k≠b0:=by intro e;subst e;rw[Is] at hu;cases hu
 have hd:=(h.heap k _ hk).2;rcases hd.2 with ⟨aH,a2,_⟩|⟨b,us,B,aH,a2,a3,a4,a5,iY,ib,e9⟩
 ·rw[a2] at aD;simp at aD
 have hlt:=(bM.1 aD).1;have hjs:j<(U r m).size:=by rw[<-a4 W (bC aD)];exact(bM.1 hj).1
 have M:i*(U r m).size+j<us.size:=by
  have:(i+1)*(U r m).size<=y.length*(U r m).size:=dt _ hlt
  grind
 have p:=(a5 i j W _ us[i*(U r m).size+j] aD hj (gY M)).2 λv=>f v;rw[hm] at p;have G: ∀c g,I k=some (some c,g)-> ¬I.n k c:=by
  grind
 generalize ai2:us[i*(U r m).size+j]=JU at p
 -- the cell's value under the new map, and the rest of the rows
 have L: ∀(q:Option Nat) (N:Nat->Prop),(∀c,B i j c↔(q=some c\/N c))->(∀(X:Nat->Prop),bh (I.split k b0 q N) w X (.a7 b0 1 (U r R).size 0 l.length) JU)->
   ∀X,(∀c,X c->own K I s.H c)->cy (I.split k b0 q N) w X k (.a6 r m gen y ((i,j,.a7 b0 1 (U r R).size 0 l.length)::Y)):=by
  intro q N di bI X gb;have hm':de I (I.split k b0 q N):=de.of (λid x hx=>by
   have:id≠b0:=by intro e;subst e;rw[h.dB _ hu] at hx;cases hx
   rw[uX _ _ _ _ _ _ this];exact hx)
  refine⟨hd.1,.inr ⟨b,us,λA C c=>B A C c/\ ¬(A=i/\C=j),by rw[uX _ _ _ _ _ _ F];exact aH,a2,a3,a4,λA C D x u cS cd eK=>⟨λv IG=>?_,λcu=>?_⟩,
   λA C c f=>iY A C c f.1,λi1 xI i2 mU c h1 h2=>ib _ _ _ _ c h1.1 h2.1,λc=>?_⟩⟩
  ·rcases dI.1 IG with e|IG
   ·simp only[Prod.mk.injEq] at e;obtain⟨rfl,rfl,rfl⟩:=e
    have:u=JU:=by
     rw[<-ai2];rw[gY M] at eK;exact(Option.some.inj eK).symm
    subst this;exact⟨bI X,λc f=>f.2 ⟨rfl,rfl⟩⟩
   obtain⟨c1,c2⟩:=(a5 A C D x u cS cd eK).1 v IG;exact⟨c1.mono (Ext.refl _ _) (λc _=>gb c) hm' (Shaped.refl _ _),λc hx=>c2 c hx.1⟩
  ·have afP: ¬(A=i/\C=j):=by rintro⟨rfl,rfl⟩;exact cu _ eH
   exact(((a5 A C D x u cS cd eK).2 λv bI=>cu v (eu _ bI)).mono (Ext.refl _ _) (λc _=>gb c) λ_ _=>rfl).iff λc=>⟨λh=>h.1,λh=>⟨h,afP⟩⟩
  constructor
  ·rintro(⟨h1,_⟩|⟨_,_,h1,h2,h3⟩|⟨_,h1,_⟩)
   ·exact bt h1 F
   ·obtain⟨A,C,Q⟩:=(e9 c).1 h1;refine⟨A,C,Q,?_⟩;rintro⟨rfl,rfl⟩;rcases(di c).1 Q with h4|h4
    ·exact h3 h4
    exact h2 h4
   exact bt rfl h1
  rintro⟨A,C,Q,cu⟩;refine .inr (.inl ⟨rfl,F,(e9 c).2 ⟨A,C,Q⟩,λh4=>?_,λh4=>?_⟩)
  ·exact cu (ib _ _ _ _ c Q ((di c).2 (.inr h4)))
  exact cu (ib _ _ _ _ c Q ((di c).2 (.inl h4)))
 generalize P9:B i j=N0 at p L;cases p with
 |nil _ _ ey=>
  refine⟨_,h.split k b0 none (λ_=>False) _ (.a6 r R 1 [] []) (by rw[hk];simp) hu (λb Q=>by cases Q) (λ_ h=>h.elim) G (λo=>L none (λ_=>False) (λc=>⟨λh=>bt h (ey c),λh=>by rcases h with h|h;cases h;exact h.elim⟩)
   (λX=> .gT b0 1 _ (cD _) (yG _ _ _ _ _)) _ o) λo=>⟨cD _,.inl ⟨yG _ _ _ _ _,rfl,λc f=>?_⟩⟩⟩
  rcases f with ⟨_,h⟩|⟨h,_⟩|⟨h,_⟩
  ·exact h
  ·exact F h.symm
  exact h rfl
 |own _ _ cd cap qF q0 _ hw Y uw b9 kH bO di cn ey=>
  have r0:I.n k cd:=(e9 cd).2 ⟨i,j,by rw[P9];exact(ey cd).2 (.inl rfl)⟩;refine⟨_,h.split k b0 (some cd) (λc=> ∃i j,q0 i j c) _ (.a6 r R 1 l []) (by rw[hk];simp) hu (λb Q=>by cases Q;exact⟨r0,λ⟨A,C,h'⟩=>(di A C _ h').2.2 rfl⟩)
   (λc f=>(e9 c).2 ⟨i,j,by rw[P9];exact(ey c).2 (.inr f)⟩) G
   (λo=>L (some cd) (λc=> ∃i j,q0 i j c) (λc=>⟨λh=>by rcases(ey c).1 h with h|h;exact .inl (by rw[h]);exact .inr h,λh=>(ey c).2 (by rcases h with h|h;cases h;exact .inl rfl;exact .inr h)⟩)
    (λX=>?_) _ o) λo=>⟨cD _,.inr ⟨cd,qF,q0,yG _ _ _ _ _,hw,by rw[Y];exact dt _ b9,kH,λA C D x u c1 c2 c3=>Cell.of ((bO A C D x u c1 c2 c3).mono (Ext.refl _ _) (λc _=>o c) λ_ _=>rfl),di,cn,λc=>?_⟩⟩⟩
  ·have:=bh.a7 (β:=I.split k b0 (some cd) λc=> ∃i j,q0 i j c) (w:=w) (X:=X) b0 1 (U r R).size 0 l.length cap cd qF.size (U r R).ty (cD _) (yG _ _ _ _ _) (iP.1 hw).1 (by unfold World.shape?;rw[hw]) (by rw[dn];exact Y.symm) b9 uw;rw[fT] at this;exact this
  constructor
  ·rintro(⟨_,h⟩|⟨h,_⟩|⟨h,_⟩)
   ·exact h
   ·exact bt h.symm F
   exact bt rfl h
  intro h;exact .inl ⟨rfl,h⟩
def Map.merge(a:Map)(k c gen:Nat):Map:=
 ⟨λi=>bif Nat.beq i c then some (none,gen+1) else a i,λid b=>(id=k/\(a.n k b\/At a c b))\/(id≠k/\id≠c/\a.n id b)⟩
theorem LZ(b:Map)(k a gen:Nat):b.merge k a gen a=some (none,gen+1):=by simp[Map.merge]
theorem uZ(a:Map)(k b gen id:Nat)(h:id≠b):a.merge k b gen id=a id:=by simp[Map.merge,Og h]
theorem Z'{G:Map}{k n gen i b:Nat}(a:k≠n)(h:At (G.merge k n gen) i b):i≠n/\(At G i b\/(i=k/\At G n b)):=by
 rcases h with ⟨g,h⟩|⟨rfl,h⟩|⟨m,e,l⟩
 ·by_cases c:i=n
  ·subst c;rw[LZ] at h;cases h
  rw[uZ _ _ _ _ _ c] at h;exact⟨c,.inl (.inl ⟨g,h⟩)⟩
 ·rcases h with h|h
  ·exact⟨a,.inl (.inr h)⟩
  exact⟨a,.inr ⟨rfl,h⟩⟩
 exact⟨e,.inl (.inr l)⟩
theorem Rel.merge{K:Ctx}{s:S}(h:Rel K β s a w)(k c gen:Nat)(q:Option Nat)(y:E)(j:s.H k≠none)(D:s.H c≠none)(R:k≠c)(I:K.c6<=c)(M:β c=some (q,gen))(N:1<=gen)
  (T:(∀b,own K (β.merge k c gen) (aQ (aQ s.H c none) k (some y)) b->own K β s.H b)->de β (β.merge k c gen)->cy (β.merge k c gen) w (own K (β.merge k c gen) (aQ (aQ s.H c none) k (some y))) k y):
  Rel K (β.merge k c gen) {t:=s.t,H:=aQ (aQ s.H c none) k (some y),u:=s.u} a w:=by
 have W:s.u c=true:=by
  cases F:s.H c with
  |none=>exact bt F D
  |some B=>exact(h.heap c B F).1
 have G:s.u k=true:=by
  cases F:s.H k with
  |none=>exact bt F j
  |some B=>exact(h.heap k B F).1
 have o:=fun {id b}=> @Z' β k c gen id b R;have r: ∀b,own K (β.merge k c gen) (aQ (aQ s.H c none) k (some y)) b->own K β s.H b:=by
  rintro b (m|⟨id,C,L⟩)
  ·exact .inl m
  obtain⟨X,A|⟨rfl,A⟩⟩:=o L
  ·refine .inr ⟨id,λB=>?_,A⟩;by_cases n:id=k
   ·subst n;exact j B
   rw[bR _ _ _ _ n,bR _ _ _ _ X] at C;exact C B
  exact .inr ⟨c,D,A⟩
 have v:de β (β.merge k c gen):=by
  intro id Y g1 m;by_cases n:id=c
  ·subst n;rw[M] at m;cases m;exact .inr ⟨N,none,gen+1,LZ _ _ _ _,ob _⟩
  exact .inl (by rw[uZ _ _ _ _ _ n];exact m)
 refine {h with base:= ?_,dB:= ?_,dX:= ?_,inj:= ?_,fresh:= ?_,heap:= ?_,cU:=λi=>(h.cU i).mono (Ext.refl _ _) (λb _=>r b) v (Shaped.refl _ _)}
 ·exact h.base.keep λid hid=>uZ _ _ _ _ _ O
 ·intro id hid;have l:s.u id=false:=hid;rw[uZ _ _ _ _ _ (by intro e;subst e;rw[W] at l;cases l)];exact h.dB id l
 ·intro id b hid f;have l:s.u id=false:=hid;rcases f with ⟨rfl,_⟩|⟨_,_,X⟩
  ·rw[G] at l;cases l
  exact h.dX id b l X
 ·intro id U b C L;obtain⟨aH,a2|⟨rfl,a2⟩⟩:=o C<;>obtain⟨V,Q|⟨rfl,Q⟩⟩:=o L
  ·exact h.inj _ _ b a2 Q
  ·exact bt (h.inj _ _ b a2 Q) aH
  ·exact bt (h.inj _ _ b Q a2) V
  rfl
 ·intro id b f;obtain⟨_,A|⟨_,A⟩⟩:=o f
  ·exact h.fresh id b A
  exact h.fresh c b A
 intro id e m;have m:aQ (aQ s.H c none) k (some y) id=some e:=m;show s.u id=true/\cy _ w (own K _ (aQ (aQ s.H c none) k (some y))) id e;by_cases n:id=k
 ·subst n;rw[bQ] at m;cases m
  grind
 rw[bR _ _ _ _ n] at m;by_cases p:id=c
 ·subst p;rw[bQ] at m;cases m
 rw[bR _ _ _ _ p] at m;obtain⟨C,L⟩:=h.heap id e m;exact⟨C,L.mono (Ext.refl _ _) (λb _=>r b) v (λx m=>by rw[uZ _ _ _ _ _ p];exact m) (Shaped.refl _ _) (λ_ _=>rfl) (λb=>⟨λh=>by
  rcases h with ⟨h,_⟩|⟨_,_,h⟩
  ·exact bt h n
  exact h,λh=> .inr ⟨n,p,h⟩⟩)⟩
theorem UY{K:Ctx}{s:S}(k F i j m2 k' z n:Nat){D:List dG}{gen:Nat}{p:List (List T)}{o:List T}{l:List (List T)}(hk:s.H k=some (.a6 D m gen p ((i,j,.a7 F k' z 0 n)::hs)))
  (oO:s.H F=some (.a6 D m2 k' l [])) (eG:z=(U D m2).size) (cu:n=l.length) (hne:k≠F) (l0:Nat.ble K.c6 F=true) (aD:p[i]? =some o) (hm:(U D m).ej j=some m2) (Iq:Nat.blt j (U D m).size=true) (bB: ∀v,(i,j,v)∉hs):
  s.le K {t:=s.t,H:=aQ (aQ s.H F none) k (some (.a6 D m gen (p.set i (o.set j (.ay l))) hs)),u:=s.u}:=by
 subst eG;subst cu;intro M a w h;have l0:=eB l0;obtain⟨q,hq⟩:=s0 (h.heap F _ oO).2;have hd:=(h.heap k _ hk).2;have Q:=(h.heap F _ oO).2;refine⟨_,h.merge k F k' q (.a6 D m gen (p.set i (o.set j (.ay l))) hs) (by rw[hk];simp) (by rw[oO];simp) hne l0 hq Q.1 λR hm'=>⟨hd.1,?_⟩⟩;rcases hd.2 with ⟨aH,a2,_⟩|⟨b,us,B,aH,a2,a3,a4,a5,iY,ib,e9⟩
 ·rw[a2] at aD;simp at aD
 have N:=(bM.1 aD).1
 -- the blocks of the slice
 have Y:At M k b:= .inl ⟨_,aH⟩;have afC: ∀(u:Value),bh M w (own K M s.H) (.a7 F k' (U D m2).size 0 l.length) u->
   gl D w (own K (M.merge k F k') (aQ (aQ s.H F none) k (some (.a6 D m gen (p.set i (o.set j (.ay l))) hs)))) (some m2) (.ay l) u (λc=>At M F c):=by
  intro u hu;rcases eT hu hq with ⟨cap,cd,n2,gV,rfl,jc,hw,gd,r1,b9,uw⟩|⟨jc,_,h0,rfl⟩
  ·subst jc;rcases Q.2 with ⟨c1,_⟩|⟨eK,qF,q0,c1,c2,c3,c4,c5,mJ,rJ,ky⟩
   ·rw[hq] at c1;cases c1
   rw[hq] at c1;cases c1;rw[fT];have IF:qF.size=cap*(U D m2).size:=by
    unfold World.shape? at gd;rw[c2] at gd;simp at gd;rw[gd.2,<-r1,dn]
   refine .own m2 l cd cap qF q0 _ c2 IF uw b9 c4 (λy A W x u d1 d2 d3=>(c5 y A W x u d1 d2 d3).none.mono (Ext.refl _ _) (λc _=>R c) λ_ _=>rfl) mJ rJ λc=>⟨?_,?_⟩
   ·rintro(⟨g,bE⟩|bE)
    ·rw[hq] at bE;cases bE;exact .inl rfl
    exact .inr ((ky c).1 bE)
   rintro(rfl|bE)
   ·exact .inl ⟨_,hq⟩
   exact .inr ((ky c).2 bE)
  subst jc
  have:l=[]:=km h0;subst this;refine .nil m2 _ λc bB=>?_;rcases bB with ⟨g,bE⟩|bE
  ·rw[hq] at bE;cases bE
  rcases Q.2 with ⟨_,_,c3⟩|⟨eK,qF,q0,c1,_⟩
  ·exact c3 c bE
  rw[hq] at c1;cases c1
 have X: ∀c,At M F c-> ¬At M k c:=λc C L=>hne (h.inj _ _ c L C);have P3: ∀y A c,B y A c->At M k c:=λy A c bB=> .inr ((e9 c).2 ⟨y,A,bB⟩);have hjs: ∀(x:T),o[j]? =some x->j<(U D m).size:=λx hx=>by rw[<-a4 o (bC aD)];exact(bM.1 hx).1
 have hrl:o.length=(U D m).size:=a4 o (bC aD);by_cases f:j<o.length
 ·have BG:i*(U D m).size+j<us.size:=by
   have:(i+1)*(U D m).size<=p.length*(U D m).size:=dt _ N;rw[dC] at this;omega
  have hcell:=a5 i j o o[j] us[i*(U D m).size+j] aD (bg f) (gY BG);obtain⟨uy,aeP⟩:=hcell.1 _ eH;refine .inr ⟨b,us,λy A c=>B y A c\/(y=i/\A=j/\At M F c),by rw[uZ _ _ _ _ _ hne];exact aH,a2,by simpa using a3,?_,?_,?_,?_,?_⟩
  ·intro r bO;rcases qM bO with bO|rfl
   ·exact a4 r bO
   simpa using hrl
  ·intro y A W x u cS cd eK;by_cases p9:y=i/\A=j
   ·obtain⟨rfl,rfl⟩:=p9;rw[ir N] at cS;cases cS;rw[ir f] at cd;cases cd;rw[gY BG] at eK;cases eK;refine⟨λv bI=>bt bI (bB v),λ_=>?_⟩;rw[hm];refine(afC _ uy).iff λc=>⟨λh=>?_,λh=> .inr ⟨rfl,rfl,h⟩⟩
    rcases h with h|⟨_,_,h⟩
    ·exact bt h (aeP c)
    exact h
   have hold: ∃G hz,p[y]? =some G/\G[A]? =some hz/\hz=x:=by
    by_cases xx:y=i
    ·subst xx;rw[ir N] at cS;cases cS;rw[jT (by intro e;exact p9 ⟨rfl,e.symm⟩)] at cd;exact⟨o,x,aD,cd,rfl⟩
    rw[jT (kV xx)] at cS;exact⟨W,x,cS,cd,rfl⟩
   obtain⟨G,hz,d1,d2,rfl⟩:=hold;have oM:=a5 y A G hz u d1 d2 eK;have Qj: ∀c,(B y A c\/(y=i/\A=j/\At M F c))↔B y A c:=λc=>⟨λh=>by
    rcases h with h|⟨C,L,_⟩
    ·exact h
    exact bt ⟨C,L⟩ p9,.inl⟩
   refine⟨λv bI=>?_,λcu=>?_⟩
   ·obtain⟨C,L⟩:=oM.1 v (eu _ bI);exact⟨C.mono (Ext.refl _ _) (λc _=>R c) hm' (Shaped.refl _ _),λc hx=>L c ((Qj c).1 hx)⟩
   refine((oM.2 λv bI=>?_).mono (Ext.refl _ _) (λc _=>R c) λ_ _=>rfl).iff Qj;rcases dI.1 bI with e|bI
   ·cases e;exact p9 ⟨rfl,rfl⟩
   exact cu v bI
  ·intro y A c I;rcases I with I|⟨rfl,rfl,I⟩
   ·simpa using iY y A c I
   refine⟨by simpa using N,O,λe=>?_⟩;subst e;exact X c I Y
  ·intro i1 xI i2 mU c C L;rcases C with C|⟨rfl,rfl,C⟩<;>rcases L with L|⟨rfl,rfl,L⟩
   ·exact ib _ _ _ _ c C L
   ·exact bt (P3 _ _ c C) (X c L)
   ·exact bt (P3 _ _ c L) (X c C)
   exact⟨rfl,rfl⟩
  intro c;constructor
  ·rintro(⟨_,C|C⟩|⟨C,_⟩)
   ·obtain⟨y,A,I⟩:=(e9 c).1 C;exact⟨y,A,.inl I⟩
   ·exact⟨i,j,.inr ⟨rfl,rfl,C⟩⟩
   exact bt rfl C
  rintro⟨y,A,I|⟨_,_,I⟩⟩
  ·exact .inl ⟨rfl,.inl ((e9 c).2 ⟨y,A,I⟩)⟩
  exact .inl ⟨rfl,.inr I⟩
 exact bt (by rw[hrl];simpa[Nat.blt_eq] using Iq) f
theorem Rel.Jq{K:Ctx}{s:S}(h:Rel K β s a w)(k:Nat)(e e':E)(q:s.H k=some e)(r:cy β w (own K β s.H) k e->cy β w (own K β s.H) k e'):
  Rel K β {s with H:=aQ s.H k (some e')} a w:=by
 have c: ∀b,own K β (aQ s.H k (some e')) b->own K β s.H b:=by
  rintro b (l|⟨id,m,n⟩)
  ·exact .inl l
  refine .inr ⟨id,λp=>?_,n⟩;by_cases o:id=k
  ·subst o;rw[q] at p;cases p
  rw[bR _ _ _ _ o] at m;exact m p
 refine {h with heap:= ?_,cU:=λi=>(h.cU i).mono (Ext.refl _ _) (λb _=>c b) (de.refl _) (Shaped.refl _ _)};intro id x l;have l:aQ s.H k (some e') id=some x:=l;by_cases o:id=k
 ·subst o;rw[bQ] at l;cases l;obtain⟨m,n⟩:=h.heap id e q;exact⟨m,(r n).mono (Ext.refl _ _) (λb _=>c b) (de.refl _) (λ_ h=>h) (Shaped.refl _ _) λ_ _=>rfl⟩
 rw[bR _ _ _ _ o] at l;obtain⟨m,n⟩:=h.heap id x l;exact⟨m,n.mono (Ext.refl _ _) (λb _=>c b) (de.refl _) (λ_ h=>h) (Shaped.refl _ _) λ_ _=>rfl⟩
theorem ZG{K:Ctx}{s:S}(k i j:Nat){n:List dG}{gen:Nat}{c:List (List T)}{l:List T}{x:T}(D:s.H k=some (.a6 n m gen c o))(y:c[i]? =some l)(F:l[j]? =some x)(G:(U n m).ej j=none)(L:qP j o=true):
  s.le K {s with H:=aQ s.H k (some (.a6 n m gen c ((i,j,.t x)::o)))}:=by
 intro Q a w h;refine⟨Q,h.Jq k _ (.a6 n m gen c ((i,j,.t x)::o)) D λq=>?_⟩;refine⟨q.1,?_⟩;rcases q.2 with ⟨aH,a2,_⟩|⟨b,R,B,aH,a2,a3,a4,a5,iY,ib,e9⟩
 ·rw[a2] at y;simp at y
 refine .inr ⟨b,R,B,aH,a2,a3,a4,λW X r f u A C I=>?_,iY,ib,e9⟩;have p:=a5 W X r f u A C I;refine⟨λv bI=>?_,λM=>p.2 λv bI=>M v (eu _ bI)⟩;rcases dI.1 bI with e|bI
 ·simp only[Prod.mk.injEq] at e;obtain⟨rfl,rfl,rfl⟩:=e;rw[y] at A;cases A;rw[F] at C;cases C
  have:=p.2 λv=>yX L _ _;rw[G] at this;cases this with|iG _ _ _ h N=>exact⟨.t _ _ h,N⟩
 exact p.1 v bI
theorem WX{K:Ctx}{s:S}(k i j:Nat){C:List dG}{gen:Nat}{n:List (List T)}{l:List T}{x:T}{M:List (Nat×Nat×V)}(hk:s.H k=some (.a6 C m gen n ((i,j,.t x)::M)))(D:n[i]? =some l)(Iq:Nat.blt j (U C m).size=true)(hm:(U C m).ej j=none)(bB:qP j M=true):
  s.le K {s with H:=aQ s.H k (some (.a6 C m gen (n.set i (l.set j x)) M))}:=by
 intro β a w h;refine⟨β,h.Jq k _ (.a6 C m gen (n.set i (l.set j x)) M) hk λG=>?_⟩;refine⟨G.1,?_⟩;rcases G.2 with ⟨aH,a2,_⟩|⟨b,us,B,aH,a2,a3,a4,a5,iY,ib,e9⟩
 ·rw[a2] at D;simp at D
 have L:=(bM.1 D).1;have Q:l.length=(U C m).size:=a4 l (bC D);have q:j<l.length:=by rw[Q];simpa[Nat.blt_eq] using Iq
 refine .inr ⟨b,us,B,aH,a2,by simpa using a3,λr bO=>?_,λy A R hW u F W eK=>?_,λy A c aV=>by simpa using iY y A c aV,ib,e9⟩
 ·rcases qM bO with bO|rfl
  ·exact a4 r bO
  simpa using Q
 by_cases X:y=i/\A=j
 ·obtain⟨rfl,rfl⟩:=X;rw[ir L] at F;cases F;rw[ir q] at W;cases W;have p:=(a5 y A l l[A] u D (bg q) eK).1 _ eH;refine⟨λv N=>bt N (yX bB _ _),λ_=>?_⟩;rw[hm];obtain⟨h1,h2⟩:=p;cases h1 with|t _ _ h1=>exact .iG _ _ _ h1 h2
 have f: ∃o Y,n[y]? =some o/\o[A]? =some Y/\Y=hW:=by
  by_cases I:y=i
  ·subst I;rw[ir L] at F;cases F;rw[jT (by intro e;exact X ⟨rfl,e.symm⟩)] at W;exact⟨l,hW,D,W,rfl⟩
  rw[jT (kV I)] at F;exact⟨R,hW,F,W,rfl⟩
 obtain⟨o,Y,d1,d2,rfl⟩:=f;have p:=a5 y A o Y u d1 d2 eK;refine⟨λv N=>p.1 v (eu _ N),λcu=>p.2 λv N=>?_⟩
 grind
theorem XE{K:Ctx}{s:S}(k i j m2:Nat){A:List dG}{gen:Nat}{n:List (List T)}{l:List T}{I:List (Nat×Nat×V)}(hk:s.H k=some (.a6 A m gen n ((i,j,.t .e5)::I)))(C:n[i]? =some l)(Y:Nat.blt j (U A m).size=true)(hm:(U A m).ej j=some m2)(bB:qP j I=true):
  s.le K {s with H:=aQ s.H k (some (.a6 A m gen (n.set i (l.set j (.ay []))) I))}:=by
 intro β a w h;refine⟨β,h.Jq k _ (.a6 A m gen (n.set i (l.set j (.ay []))) I) hk λF=>?_⟩;refine⟨F.1,?_⟩;rcases F.2 with ⟨aH,a2,_⟩|⟨b,us,B,aH,a2,a3,a4,a5,iY,ib,e9⟩
 ·rw[a2] at C;simp at C
 have G:=(bM.1 C).1;have L:l.length=(U A m).size:=a4 l (bC C);have q:j<l.length:=by rw[L];simpa[Nat.blt_eq] using Y
 refine .inr ⟨b,us,B,aH,a2,by simpa using a3,λr bO=>?_,λx y Q hW u D R eK=>?_,λx y c aV=>by simpa using iY x y c aV,ib,e9⟩
 ·rcases qM bO with bO|rfl
  ·exact a4 r bO
  simpa using L
 by_cases W:x=i/\y=j
 ·obtain⟨rfl,rfl⟩:=W;rw[ir G] at D;cases D;rw[ir q] at R;cases R;have p:=(a5 x y l l[y] u C (bg q) eK).1 _ eH;refine⟨λv M=>bt M (yX bB _ _),λ_=>?_⟩;rw[hm];obtain⟨h1,h2⟩:=p;cases h1 with|t _ _ h1=>cases h1 with|e5=>exact .nil _ _ h2
 have X: ∃o N,n[x]? =some o/\o[y]? =some N/\N=hW:=by
  by_cases f:x=i
  ·subst f;rw[ir G] at D;cases D;rw[jT (by intro e;exact W ⟨rfl,e.symm⟩)] at R;exact⟨l,hW,C,R,rfl⟩
  rw[jT (kV f)] at D;exact⟨Q,hW,D,R,rfl⟩
 obtain⟨o,N,d1,d2,rfl⟩:=X;have p:=a5 x y o N u d1 d2 eK;refine⟨λv M=>p.1 v (eu _ M),λcu=>p.2 λv M=>?_⟩
 grind
theorem ZF{K:Ctx}{s:S}(k:Nat){Q:List dG}{gen:Nat}{e:List (List T)}{C:List (Nat×Nat×V)}(l:List dG)(o:Nat)(G:s.H k=some (.a6 Q m gen e C))(L:Nat.ble K.c6 k=true)
  (h1:(U l o).ty=(U Q m).ty) (R:(U l o).size=(U Q m).size) (h3:(U l o).bj=[]):
  s.le K {s with H:=aQ s.H k (some (.a6 l o gen e C))}:=by
 have l0:=eB L;have D: ∀j,(U l o).ej j=none:=λj=>by unfold dG.ej;rw[h3];rfl
 intro A a w h;have r:=(h.heap k _ G).2;have F:de A (A.drop k):=λ_ _ _ y=> .inl y;rcases r.2 with ⟨aH,a2,a3⟩|⟨b,us,B,aH,a2,a3,a4,a5,iY,ib,e9⟩
 ·exact⟨_,h.drop k (.a6 l o gen e C) (by rw[G];simp) ⟨r.1,.inl ⟨aH,a2,λc n=>n.1 rfl⟩⟩⟩
 refine⟨_,h.drop k (.a6 l o gen e C) (by rw[G];simp) ⟨r.1,.inr ⟨b,us,λ_ _ _=>False,aH,by rw[h1];exact a2,by rw[R];exact a3,by rw[R];exact a4,?_,λ_ _ _ n=>n.elim,λ_ _ _ _ _ n=>n.elim,λc=>⟨λn=>(n.1 rfl).elim,λ⟨_,_,n⟩=>n.elim⟩⟩⟩⟩;intro i j W x u cS cd N;rw[R] at N;have Y:=a5 i j W x u cS cd N;generalize gb:own K (A.drop k) (aQ s.H k (some (.a6 l o gen e C)))=hJ;have p: ∀b,hJ b->own K A s.H b:=by
  subst gb;rintro b (y|⟨id,X,q⟩)
  ·exact .inl y
  refine .inr ⟨id,λf=>?_,nZ q⟩;by_cases aD:id=k
  ·subst aD;rw[G] at f;cases f
  rw[bR _ _ _ _ aD] at X;exact X f
 refine⟨λv bI=>⟨(Y.1 v bI).1.mono (Ext.refl _ _) (λb _=>p b) F (Shaped.refl _ _),λ_ n=>n⟩,λI=>?_⟩;rw[D];refine .iG _ _ _ ((Y.2 I).yn p ?_) λ_ n=>n;intro c n y;subst gb;have L:At A k c:= .inr ((e9 c).2 ⟨i,j,n⟩);rcases y with y|⟨id,X,q⟩
 ·obtain⟨gK,iT⟩:=h.ia c y;rcases(h.fresh k c L).1 with M|iI
  ·exact iT M
  omega
 have:=h.inj _ _ _ (nZ q) L;subst this;rcases q with ⟨g,q⟩|q
 ·have g3:A id=some (some c,g):=q
  grind
 exact q.1 rfl
def E.gen:E->Option Nat
 | .cells _=>none
 | .arr _ g _ _=>some g
 | .a6 _ _ g _ _=>some g
theorem ps{g:Nat}{e:E}(h:cy G w X n e)(c:e.gen=some g):1<=g/\ ∃q,G n=some (q,g):=by
 cases e with
 |cells cs=>cases c
 |arr ty k size a=>
  cases c;exact⟨h.1,by rcases h.2 with ⟨i,_⟩|⟨b,l,i,_⟩<;>exact⟨_,i⟩⟩
 |a6 o m k a p=>
  cases c;exact⟨h.1,s0 h⟩
theorem Rel.ahm{K:Ctx}{s:S}(h:Rel K β s a w)(k:Nat)(e e':E)(g:Nat)(T:s.H k=some e)(bE:e.gen=some g)(C:Array Value)(D:TypeId)
  (he: ∀(y:Map) (M:Nat->Prop) (F:World),F=w.alloc (.cells C D)->y k=some (some w.heap.size,g+1)->(∀b,y.n k b↔β.n k b)->(∀v u,bh β w (own K β s.H) v u->bh y F M v u)->
   (∀x u,cL w (own K β s.H) x u->cL F M x u)->(∀U m x u N,(∀b,N b->β.n k b)->gl U w (own K β s.H) m x u N->gl U F M m x u N)->cy y F M k e'):
  Rel K (β.put k (some (some w.heap.size,g+1))) {s with H:=aQ s.H k (some e')} a (w.alloc (.cells C D)):=by
 have c: ∀X,Ext X w (w.alloc (.cells C D)):=λX=>Ext.alloc X w _;have G:s.u k=true:=(h.heap k _ T).1;obtain⟨L,nU,Q⟩:=ps (h.heap k _ T).2 bE;have l: ∀id b,At (β.put k (some (some w.heap.size,g+1))) id b->(id=k/\b=w.heap.size)\/At β id b:=λid b aV=>by
  rcases aV with ⟨g,aV⟩|aV
  ·by_cases q:id=k
   ·subst q;rw[iF] at aV;cases aV;exact .inl ⟨rfl,rfl⟩
   rw[eo _ _ _ _ q] at aV;exact .inr (.inl ⟨g,aV⟩)
  exact .inr (.inr aV)
 have o: ∀b,b<w.heap.size->own K (β.put k (some (some w.heap.size,g+1))) (aQ s.H k (some e')) b->own K β s.H b:=by
  rintro b hlt (R|⟨id,B,W⟩)
  ·exact .inl R
  rcases l id b W with ⟨rfl,rfl⟩|A
  ·omega
  refine .inr ⟨id,λV=>?_,A⟩;by_cases q:id=k
  ·subst q;rw[T] at V;cases V
  rw[bR _ _ _ _ q] at B;exact B V
 have f:Shaped β w (w.alloc (.cells C D)):=p8 (c _);have j:=AK nU (some w.heap.size) L Q;have I: ∀v u,bh β w (own K β s.H) v u->bh (β.put k (some (some w.heap.size,g+1))) (w.alloc (.cells C D)) (own K (β.put k (some (some w.heap.size,g+1))) (aQ s.H k (some e'))) v u:=
  λv u bI=>bI.mono (c _) o j f
 refine {ext:=h.ext.trans ((c λ_=>False).weaken λ_ _ h=>h.elim),nK:=h.nK,nS:=h.nS,ia:=h.ia,qi:=h.qi,base:= ?_,iq:=h.iq.ext h.ext.size (c _),low:=h.low,dB:= ?_,dX:=λid b hid=>h.dX id b hid,inj:= ?_,fresh:= ?_,heap:= ?_,cU:=λi=>I _ _ (h.cU i),nt:=h.nt,defers:=h.defers}
 ·exact h.base.grow k g nU (some w.heap.size) Q L (iF _ _ _) (λb aV=>by cases aV;exact .inr h.ext.size) λid q=>eo _ _ _ _ q
 ·intro id hid;have r:s.u id=false:=hid;by_cases e:id=k
  ·subst e;rw[G] at r;cases r
  rw[eo _ _ _ _ e];exact h.dB id r
 ·intro id Y b B W;rcases l id b B with ⟨rfl,rfl⟩|A<;>rcases l Y _ W with ⟨rfl,e⟩|h4
  ·rfl
  ·have:=(h.fresh _ _ h4).2;omega
  ·subst e;have:=(h.fresh _ _ A).2;omega
  exact h.inj _ _ _ A h4
 ·intro id b aV;rcases l id b aV with ⟨rfl,rfl⟩|A
  ·exact⟨.inr h.ext.size,a1⟩
  exact⟨(h.fresh _ _ A).1,by have:=(h.fresh _ _ A).2;simp;omega⟩
 intro id e2 p;have p:aQ s.H k (some e') id=some e2:=p;show s.u id=true/\cy _ _ (own K _ (aQ s.H k (some e'))) id e2;by_cases q:id=k
 ·subst q;rw[bQ] at p;cases p;exact⟨G,he _ _ _ rfl (iF _ _ _) (λ_=>Iff.rfl) I (λx u R=>R.mono (c _) o) λU m x u N ey bO=>bO.mono (c _) o λb aV=>heap_alloc _ _ _ (h.fresh id b (.inr (ey b aV))).2⟩
 rw[bR _ _ _ _ q] at p;obtain⟨B,W⟩:=h.heap id e2 p;refine⟨B,W.mono (c _) o j (λx R=>by rw[eo _ _ _ _ q];exact R) f λb aV=>heap_alloc _ _ _ (h.fresh id b aV).2⟩
theorem Rel.ael{K:Ctx}{s:S}(h:Rel K β s a w)(k:Nat)(e e':E)(g:Nat)(q:Option Nat)(L:β k=some (q,g))(A:1<=g)(f:s.H k=some e)
  (j: ∀(r:Map) (Q:Nat->Prop),r k=some (q,g+1)->(∀b,r.n k b↔β.n k b)->(∀v u,bh β w (own K β s.H) v u->bh r w Q v u)->(∀b,Q b->own K β s.H b)->cy r w Q k e'):
  Rel K (β.put k (some (q,g+1))) {s with H:=aQ s.H k (some e')} a w:=by
 have B:s.u k=true:=(h.heap k _ f).1;have c: ∀id b,At (β.put k (some (q,g+1))) id b->At β id b:=λid b aV=>by
  rcases aV with ⟨g,aV⟩|aV
  ·by_cases m:id=k
   ·subst m;rw[iF] at aV;cases aV;exact .inl ⟨_,L⟩
   rw[eo _ _ _ _ m] at aV;exact .inl ⟨g,aV⟩
  exact .inr aV
 have o: ∀b,own K (β.put k (some (q,g+1))) (aQ s.H k (some e')) b->own K β s.H b:=by
  rintro b (R|⟨id,y,C⟩)
  ·exact .inl R
  refine .inr ⟨id,λW=>?_,c id b C⟩;by_cases m:id=k
  ·subst m;rw[f] at W;cases W
  rw[bR _ _ _ _ m] at y;exact y W
 have D:=AK q q A L;have F: ∀v u,bh β w (own K β s.H) v u->bh (β.put k (some (q,g+1))) w (own K (β.put k (some (q,g+1))) (aQ s.H k (some e'))) v u:=λv u I=>I.mono (Ext.refl _ _) (λb _=>o b) D (Shaped.refl _ _);refine {h with base:= ?_,dB:= ?_,inj:= ?_,fresh:=λid b aV=>h.fresh id b (c id b aV),heap:= ?_,cU:=λi=>F _ _ (h.cU i)}
 ·exact h.base.grow k g q q L A (bQ _ _ _) (λb aV=> .inl aV) λid m=>eo _ _ _ _ m
 ·intro id hid;have p:s.u id=false:=hid;by_cases e:id=k
  ·subst e;rw[B] at p;cases p
  rw[eo _ _ _ _ e];exact h.dB id p
 ·intro id G b y C;exact h.inj id G b (c id b y) (c G b C)
 intro id X l;have l:aQ s.H k (some e') id=some X:=l;show s.u id=true/\cy _ _ (own K _ (aQ s.H k (some e'))) id X;by_cases m:id=k
 ·subst m;rw[bQ] at l;cases l;exact⟨B,j _ _ (iF _ _ _) (λ_=>Iff.rfl) F o⟩
 rw[bR _ _ _ _ m] at l;obtain⟨y,C⟩:=h.heap id X l;exact⟨y,C.mono (Ext.refl _ _) (λb _=>o b) D (λx R=>by rw[eo _ _ _ _ m];exact R) (Shaped.refl _ _) λ_ _=>rfl⟩
theorem YY{size:Nat}{a c:List (List T)}(o p h:List Value)(y:a.length=n)(A:o.length=n*size)(D:p.length=c.length*size)(B: ∀b,b∈a->b.length=size)(q: ∀b,b∈c->b.length=size){R:Nat->Nat->T->Value->Prop}
  (F: ∀(i j:Nat) (b:List T) (x:T) (u:Value),a[i]? =some b->b[j]? =some x->o[i*size+j]? =some u->R i j x u)
  (G: ∀(i j:Nat) (b:List T) (x:T) (u:Value),c[i]? =some b->b[j]? =some x->p[i*size+j]? =some u->R (n+i) j x u):
  ∀(i j:Nat) (b:List T) (x:T) (u:Value),(a++c)[i]? =some b->b[j]? =some x->(o++p++h)[i*size+j]? =some u->R i j x u:=by
 intro i j b x u k w C;by_cases l:i<a.length
 ·rw[iu l] at k;have e:j<size:=by rw[<-B b (bC k)];exact(bM.1 w).1
  have m:i*size+j<o.length:=by rw[A,<-y];exact l8 l e
  grind
 rw[hi O] at k;have e:j<size:=by rw[<-q b (bC k)];exact(bM.1 w).1
 have r:=(bM.1 k).1;have m:=l8 (size:=size) r e
 grind
def ho(n:Nat):List (Nat×Nat×V)->List (Nat×Nat×V)
 | []=>[]
 |h::hs=>(n+h.1,h.2.1,h.2.2)::ho n hs
theorem z8{n:Nat}: ∀{hs:List (Nat×Nat×V)} {i j:Nat} {v:V},(i,j,v)∈ho n hs↔ ∃k,i=n+k/\(k,j,v)∈hs
 | [],_,_,_=>by simp[ho]
 |h::hs,i,j,v=>by
  simp only[ho,List.mem_cons,Prod.mk.injEq,z8 (hs:=hs)];constructor
  ·rintro(⟨l,e,m⟩|⟨k,l,e⟩)
   ·exact⟨h.1,l,.inl (by obtain⟨a,b,c⟩:=h;cases e;cases m;rfl)⟩
   exact⟨k,l,.inr e⟩
  rintro⟨k,l,e|e⟩
  ·subst e;exact .inl ⟨l,rfl,rfl⟩
  exact .inr ⟨k,l,e⟩
def zF(n:Map)(w:World)(X:Nat->Prop)(c:Nat)(a:List (List T))(m:List (Nat×Nat×V))(u:Value):Prop:=
 ∃(b e l:Nat) (k:List Value),u= .slice (some ⟨b,e,none⟩) a.length l/\k.length=a.length*c/\
  (∀(j:Nat) x,k[j]? =some x->w.cell? ⟨b,e+j,none⟩=some x)/\(∀x,x∈k->x.oneCell'=true)/\
  ∀(i j:Nat) (h:List T) (x:T) (y:Value),a[i]? =some h->h[j]? =some x->k[i*c+j]? =some y->(∀v,(i,j,v)∈m->bh n w X v y)/\((∀v,(i,j,v)∉m)->cL w X x y)
def tg:List (Nat×Nat×V)->Bool
 | []=>true
 |h::a=>h.2.2.one&&tg a
theorem Lh: ∀{a:List (Nat×Nat×V)} {i j:Nat} {v:V},tg a=true->(i,j,v)∈a->v.one=true
 | [],_,_,_,_,h=>by cases h
 |h::a,i,j,v,b,hm=>by
  simp only[tg,Bool.and_eq_true] at b;rcases dI.1 hm with rfl|hm
  ·exact b.1
  exact Lh b.2 hm
def wv(d:dG)(n:Nat)(a:List (Nat×Nat×V)):Bool:=
 (List.range n).all λi=>d.bj.all λp=>a.any λh=>Nat.beq h.1 i&&Nat.beq h.2.1 p.1
theorem L2: ∀{l:List (Nat×Nat)} {j m:Nat},tw l j=some m->(j,m)∈l
 | [],_,_,h=>by cases h
 |p::l,j,m,h=>by
  simp only[tw] at h;cases a:Nat.beq p.1 j with
  |true=>rw[a] at h;cases h;rw[<-cH a];exact eH
  |false=>rw[a] at h;exact eu _ (L2 h)
theorem Lx{d:dG}(h:wv d n hs=true){j:Nat}(e:i<n)(k:d.ej j=some m): ∃v,(i,j,v)∈hs:=by
 have l:=fC.1 h i (n'.2 e);have o:=fC.1 l (j,m) (L2 k);obtain⟨⟨a,b,v⟩,p,c⟩:=hV.1 o;simp only[Bool.and_eq_true] at c;have q:=cH c.1;have r:=cH c.2
 grind
theorem zF.of{K:Ctx}{s:S}(h:Rel K β s a w){g:Nat}{l:List dG}{c:List (List T)}{r:List (Nat×Nat×V)}{u:Value}(hk:s.H k=some (.a6 l m g c r))(cu:n=c.length)
  (hu:bh β w (own K β s.H) (.a7 k g (U l m).size 0 n) u) (N:0<c.length) (dY:tg r=true) (bB:wv (U l m) c.length r=true):zF β w (own K β s.H) (U l m).size c r u:=by
 subst cu;have W:=(h.heap k _ hk).2;rcases W.2 with ⟨_,D,_⟩|⟨b,Y,B,aH,a2,a3,a4,a5,iY,ib,e9⟩
 ·rw[D] at N;simp at N
 rcases eT hu aH with ⟨X,fH,I',gV,rfl,f,hw,gd,r1,b9,hm⟩|⟨f,_⟩
 ·cases f;rw[fT];have A: ∀(i j:Nat) (o:List T) (x:T) (y:Value),c[i]? =some o->o[j]? =some x->Y[i*(U l m).size+j]? =some y->
    (∀v,(i,j,v)∈r->bh β w (own K β s.H) v y)/\((∀v,(i,j,v)∉r)->cL w (own K β s.H) x y):=by
   intro i j o x y C D R;have F:=a5 i j o x y C D R;refine⟨λv p=>(F.1 v p).1,λG=>?_⟩;have h6:=F.2 G;have L:(U l m).ej j=none:=by
    cases I:(U l m).ej j with
    |none=>rfl
    |some ai_=>
     obtain⟨v,p⟩:=Lx bB (bM.1 C).1 I;exact bt p (G v)
   rw[L] at h6;cases h6 with|iG _ _ _ h _=>exact h
  refine⟨b,0,X,Y.toList.take (c.length*(U l m).size),rfl,bX,λj x q=>?_,λx hx=>?_,λi j o x y C D R=>?_⟩
  ·rw[fL] at q;split at q
   ·simp only[World.cell?,a2,Nat.zero_add];simpa using q
   cases q
  ·obtain⟨j,q⟩:=iQ.1 hx;rw[fL] at q;split at q
   ·rename_i Q;have eG:0<(U l m).size:=Nat.pos_of_ne_zero λe=>by rw[e] at Q;omega
    have C:j / (U l m).size<c.length:=by rw[vo eG];exact Q
    have D:=Nat.mod_lt j eG;have R:=a4 _ (ft C);have he:j / (U l m).size*(U l m).size+j%(U l m).size=j:=by rw[Nat.mul_comm];exact Nat.div_add_mod ..
    obtain⟨c1,c2⟩:=A (j / (U l m).size) (j%(U l m).size) _ _ x (bg C) (bg (by omega:j%(U l m).size<(c[j / (U l m).size]).length)) (by rw[he];simpa using q);by_cases p: ∃v,(j / (U l m).size,j%(U l m).size,v)∈r
    ·obtain⟨v,p⟩:=p;exact(c1 v p).im (Lh dY p)
    exact(c2 λv M=>p ⟨v,M⟩).im
   cases q
  rw[fL] at R
  grind
 cases f
theorem Rel.aek{K:Ctx}{s:S}{t:TypeId}{u:TypeDesc}{z:Value}{gen G bytes:Nat}(h:Rel K β s a w)(k:Nat)(r:List dG)(m:Nat)(l o:List (List T))(C:List (Nat×Nat×V))(hk:s.H k=some (.a6 r m gen l []))(uu:(U r m).size=G)(mP:(U r m).ty=e)(ty:TypeId)
  (hu:K.P.underlying t=some (.slice e)) (he:b4 K.P e u z G bytes) (qb:z.cells.size=G) (hs: ∀p,p∈l->p.length=G) (hs': ∀p,p∈o->p.length=G) (v x:Value) (bI:bh β w (own K β s.H) (.a7 k gen G 0 l.length) v)
  (hx:zF β w (own K β s.H) G o C x) (Iy:0<o.length) (afb:wv (U r m) o.length C=true) (aV:(l.length+o.length)*bytes<=140737488355328) (hm:l.length+o.length<=maxLen):
  ∃c8 w' D,(Builtin.append_ #[t,t] ty #[v,x]).run K.P w= .ok c8 w'/\Rel K D {s with H:=aQ s.H k (some (.a6 r m (gen+1) (l++o) (ho l.length C)))} a w'/\
   bh D w' (own K D (aQ s.H k (some (.a6 r m (gen+1) (l++o) (ho l.length C))))) (.a7 k (gen+1) G 0 (l.length+o.length)) c8:=by
 subst uu;subst mP;obtain⟨q,hq⟩:=s0 (h.heap k _ hk).2;have ig:=(h.heap k _ hk).2.1;obtain⟨_,i,lY,hi2,ka,rV⟩:=id he;have hm':l.length+o.length<=9223372036854775807:=by unfold maxLen at hm;omega
 have hE:=(h.heap k _ hk).2.2;have xD: ∀p,p∈l++o->p.length=(U r m).size:=λp qa=>by
  rcases ef.1 qa with h|h
  ·exact hs p h
  exact hs' p h
 obtain⟨cd,off,Bs,X,r8,nL,xF,kI,hwr⟩:=hx;have IJ: ∀j y,X[j]? =some y->w.cell? ((⟨cd,off,none⟩:Addr).add j)=some y:=λj y hy=>by rw[iE];exact xF j y hy
 have j':(l.length+o.length)*i.bytes<=140737488355328:=by rw[rV];exact aV
 have afD: ∀i j,i<o.length->(∀v,(i,j,v)∉C)->(U r m).ej j=none:=λi j aD jd=>by
  cases hkk:(U r m).ej j with
  |none=>rfl
  |some ai_=>
   obtain⟨v,bI⟩:=Lx afb aD hkk;exact bt bI (jd v)
 -- the cells of old and new rows, in whatever world
 have N: ∀(B:Nat->Nat->Nat->Prop) (D:Map) (w':World) (hJ:Nat->Prop),(∀v u,bh β w (own K β s.H) v u->bh D w' hJ v u)->(∀x u,cL w (own K β s.H) x u->cL w' hJ x u)->
   (∀i j c,B i j c->i<l.length)-> ∀(I rest:List Value),I.length=l.length*(U r m).size->
   (∀(i j:Nat) (p:List T) (x:T) (u:Value),l[i]? =some p->p[j]? =some x->I[i*(U r m).size+j]? =some u->gl r w' hJ ((U r m).ej j) x u (B i j))->
   ∀(i j:Nat) (p:List T) (x:T) (u:Value),(l++o)[i]? =some p->p[j]? =some x->(I++X++rest)[i*(U r m).size+j]? =some u->Cell r m (ho l.length C) D w' hJ i j x u (B i j):=by
  intro B D w' hJ kG ll di I rest oT r2;refine YY I X rest rfl oT nL hs hs' (R:=λi j x u=>Cell r m (ho l.length C) D w' hJ i j x u (B i j)) (λi j p x u h1 h2 h3=>⟨λv bI=>?_,λ_=>r2 i j p x u h1 h2 h3⟩) λi j p x u h1 h2 h3=>⟨λv bI=>?_,λjd=>?_⟩
  ·obtain⟨ih,e1,_⟩:=z8.1 bI
   have:=(bM.1 h1).1;omega
  ·obtain⟨ih,e1,e2⟩:=z8.1 bI
   have:ih=i:=O
   subst this;exact⟨kG _ _ ((hwr ih j p x u h1 h2 h3).1 v e2),λc L=>by have:=di _ _ _ L;omega⟩
  have Qu: ∀v,(i,j,v)∉C:=λv bI=>jd v (z8.2 ⟨i,rfl,bI⟩);rw[afD i j (bM.1 h1).1 Qu];exact .iG _ _ _ (ll _ _ ((hwr i j p x u h1 h2 h3).2 Qu)) (λc L=>by have:=di _ _ _ L;omega)
 -- a new block
 have finish: ∀(B:Nat->Nat->Nat->Prop) (I:List Value) (A:Nat),I.length=l.length*(U r m).size->l.length+o.length<=A->A<=maxLen->
   (∀(i j:Nat) (p:List T) (x:T) (u:Value),l[i]? =some p->p[j]? =some x->I[i*(U r m).size+j]? =some u->gl r w (own K β s.H) ((U r m).ej j) x u (B i j))->
   (∀i j c,B i j c->i<l.length/\j<(U r m).size)->(∀i j ih cR c,B i j c->B ih cR c->i=ih/\j=cR)->(∀c,β.n k c↔ ∃i j,B i j c)->
   ∃D,Rel K D {s with H:=aQ s.H k (some (.a6 r m (gen+1) (l++o) (ho l.length C)))} a (w.drew.alloc (.cells (I.toArray++X.toArray++Builtin.zeroCells z.cells (A-(l.length+o.length))) (U r m).ty))/\
    bh D (w.drew.alloc (.cells (I.toArray++X.toArray++Builtin.zeroCells z.cells (A-(l.length+o.length))) (U r m).ty)) (own K D (aQ s.H k (some (.a6 r m (gen+1) (l++o) (ho l.length C))))) (.a7 k (gen+1) (U r m).size 0 (l.length+o.length)) (.slice (some ⟨w.heap.size,0,none⟩) (l.length+o.length) A):=by
  intro B I A oT Qe hcm IE di cn ey;have xC:(I.toArray++X.toArray++Builtin.zeroCells z.cells (A-(l.length+o.length))).size=A*(U r m).size:=by
   simp only[Array.size_append,List.size_toArray,size_zeroCells,qb,oT,nL,<-Nat.add_mul];congr 1;omega
  have uv:=vN h;have rZ:=uv.ahm k _ (.a6 r m (gen+1) (l++o) (ho l.length C)) gen hk rfl (I.toArray++X.toArray++Builtin.zeroCells z.cells (A-(l.length+o.length))) (U r m).ty
   (λD hJ w' hw' IL cu kG ll r2=>⟨O,.inr ⟨w.heap.size,_,B,IL,by subst hw';exact iZ w.drew _,by rw[xC,cP];exact dt _ Qe,xD,
    λi j p x u aH a2 a3=>N B D w' hJ (λv u IH=>kG v u (IH.mono (Ext.drew _ _) (λ_ _ h=>h) (de.refl _) (p8 (Ext.drew _ _)))) (λx u IK=>ll x u (IK.mono (Ext.drew _ _) λ_ _ h=>h)) (λi j c L=>(di i j c L).1) I (Builtin.zeroCells z.cells (A-(l.length+o.length))).toList oT
     (λi j p x u cS cd eK=>r2 r _ x u (B i j) (λc L=>(ey c).2 ⟨i,j,L⟩) ((IE i j p x u cS cd eK).mono (Ext.drew _ _) (λ_ _ h=>h) λ_ _=>rfl)) i j p x u aH a2 (by simpa[<-Array.getElem?_toList] using a3),
    λi j c L=>⟨by have:=(di i j c L).1;rw[cP];omega,(di i j c L).2,λe0=>by have:=(h.fresh k c (.inr ((ey c).2 ⟨i,j,L⟩))).2;rw[e0] at this;exact Nat.lt_irrefl _ this⟩,cn,λc=>(cu c).trans (ey c)⟩⟩)
  refine⟨_,rZ,?_⟩;have hN:bh (β.put k (some (some w.heap.size,gen+1))) (w.drew.alloc (.cells (I.toArray++X.toArray++Builtin.zeroCells z.cells (A-(l.length+o.length))) (U r m).ty)) (own K (β.put k (some (some w.heap.size,gen+1))) (aQ s.H k (some (.a6 r m (gen+1) (l++o) (ho l.length C))))) (.a7 k (gen+1) (U r m).size 0 (l.length+o.length)) (.slice (some ⟨w.heap.size,0*(U r m).size,none⟩) (l.length+o.length) A):=by
   have p':=iZ w.drew (.cells (I.toArray++X.toArray++Builtin.zeroCells z.cells (A-(l.length+o.length))) (U r m).ty);refine .a7 k (gen+1) (U r m).size 0 _ A w.heap.size (A*(U r m).size) (U r m).ty O (bQ _ _ _) a1 ?_ (by rw[dn]) Qe hcm;have Iv:(w.drew.alloc (.cells (I.toArray++X.toArray++Builtin.zeroCells z.cells (A-(l.length+o.length))) (U r m).ty)).heap[w.heap.size]? =some (.cells (I.toArray++X.toArray++Builtin.zeroCells z.cells (A-(l.length+o.length))) (U r m).ty):=p';unfold World.shape?;rw[Iv];simp only[xC]
  rw[fT] at hN;exact hN
 subst r8;rcases eT bI hq with ⟨f,b,n,gV,rfl,hb',hw,gd,r1,b9,lZ⟩|⟨hb',_,It,rfl⟩
 rotate_left
 ·have oR:l=[]:=km It;subst oR;have Q:=run_append_nil (P:=K.P) w t ty (U r m).ty i z hu lY hi2 ⟨cd,off,none⟩ o.length Bs X (by rw[ka];exact nL) IJ Iy O (by simp at j';omega);subst hb';have afQ: ∀c,¬β.n k c:=by
   rcases hE with ⟨_,_,h0⟩|⟨b,I,B,h1,_⟩
   ·exact h0
   rw[hq] at h1;cases h1
  obtain⟨D,f1,f2⟩:=finish (λ_ _ _=>False) [] (grownCap w o.length 0 (U r m).ty) a1 (by simpa using grownCap_ge w o.length 0 (U r m).ty) (grownCap_le_maxLen w _ 0 (U r m).ty (by unfold maxLen;simp at hm';omega)) (λi j p x u h1 _ _=>by simp at h1)
   (λ_ _ _ h=>h.elim) (λ_ _ _ _ _ h=>h.elim) λc=>⟨λL=>bt L (afQ c),λ⟨_,_,h⟩=>h.elim⟩
  simp only[List.length_nil,Nat.zero_add] at f1 f2⊢;exact⟨_,_,D,by rw[Q];simp,f1,f2⟩
 subst hb';rcases hE with ⟨g1,_⟩|⟨fH,F,B,g1,g2,g3,g4,g5,g6,g7,g8⟩
 ·rw[hq] at g1;cases g1
 rw[hq] at g1;cases g1;have kE:F.size=f*(U r m).size:=by
  unfold World.shape? at gd;rw[g2] at gd;simp at gd;rw[<-r1] at gd;rw[dn] at gd;exact gd.2
 have r4:(F.toList.take (l.length*(U r m).size)).length=l.length*(U r m).size:=bX
 have ll: ∀(i j:Nat) (p:List T) (x:T) (u:Value),l[i]? =some p->p[j]? =some x->(F.toList.take (l.length*(U r m).size))[i*(U r m).size+j]? =some u->gl r w (own K β s.H) ((U r m).ej j) x u (B i j):=by
  intro i j p x u h1 h2 h3;rw[fL] at h3;split at h3
  ·exact(g5 i j p x u h1 h2 (by simpa using h3)).none
  cases h3
 simp only[Nat.zero_mul];by_cases M:l.length+o.length<=f
 ·have mR:l.length*(U r m).size+X.length<=F.size:=by rw[nL,kE,<-dC];exact dt _ M
  have Q:=run_append_room (P:=K.P) w t ty (U r m).ty i hu lY b l.length f F g2 ⟨cd,off,none⟩ o.length Bs X (by rw[ka];exact nL) IJ kI M (by rw[ka];exact mR);rw[ka] at Q;have Y:(F.toList.take (l.length*(U r m).size)++X++F.toList.drop (l.length*(U r m).size+X.length)).toArray.size=F.size:=by
   simp;omega
  generalize lj:w.setRow b (F.toList.take (l.length*(U r m).size)++X++F.toList.drop (l.length*(U r m).size+X.length)).toArray=W at Q;have afV:own K β s.H b:= .inr ⟨k,by rw[hk];simp,.inl ⟨_,hq⟩⟩;have Ij:Ext (own K β s.H) w W:=by
   subst lj;exact⟨rfl,rfl,rfl,a1,λkk _ hx=>setRow_other _ _ _ _ λe0=>hx (e0▸afV)⟩
  have af9:Shaped β w W:=by subst lj;intro fH _;exact DC g2 Y fH
  have hrel:=h.setRow k b (.inl ⟨_,hq⟩) F (U r m).ty g2 (F.toList.take (l.length*(U r m).size)++X++F.toList.drop (l.length*(U r m).size+X.length)).toArray Y (.a6 r m gen (l++o) (ho l.length C)) (by rw[hk];simp)
   ⟨ig,Or.inr ⟨b,_,B,hq,setRow_heap _ _ _ _ _ _ g2,by rw[Y,kE,cP];exact dt _ M,xD,
    λi j p x u aH a2 a3=>by
     rw[lj];exact N B β W (own K β s.H) (λv u IH=>IH.mono Ij (λ_ _ h=>h) (de.refl _) af9) (λx u IK=>IK.mono Ij λ_ _ h=>h) (λi j c L=>(g6 i j c L).1) _ _ r4
      (λi j p x u cS cd eK=>(ll i j p x u cS cd eK).mono Ij (λ_ _ h=>h) λc L=>by subst lj;exact setRow_other _ _ _ _ (g6 i j c L).2.2) i j p x u aH a2 (by simpa using a3),
    λi j c L=>⟨by have:=(g6 i j c L).1;rw[cP];omega,(g6 i j c L).2⟩,g7,g8⟩⟩
  rw[lj] at hrel;have xA:=hrel.ael k (.a6 r m gen (l++o) (ho l.length C)) (.a6 r m (gen+1) (l++o) (ho l.length C)) gen (some b) hq ig (bQ _ _ _) (λD hJ IL cu kG gb=>by
   have hd:=(hrel.heap k _ (bQ _ _ _)).2;rcases hd.2 with ⟨e1,_⟩|⟨fH,eP,Sj,e1,e2,lX,xf,xg,aiW,aiX,aiY⟩
   ·rw[hq] at e1;cases e1
   rw[hq] at e1;cases e1;exact⟨O,.inr ⟨b,eP,Sj,IL,e2,lX,xf,λi j p x u c1 c2 c3=>⟨λv bI=>⟨kG _ _ ((xg i j p x u c1 c2 c3).1 v bI).1,((xg i j p x u c1 c2 c3).1 v bI).2⟩,λjd=>((xg i j p x u c1 c2 c3).2 jd).mono (Ext.refl _ _) (λc _=>gb c) λ_ _=>rfl⟩,aiW,aiX,λc=>(cu c).trans (aiY c)⟩⟩)
  have xp:aQ (aQ s.H k (some (.a6 r m gen (l++o) (ho l.length C)))) k (some (.a6 r m (gen+1) (l++o) (ho l.length C)))=aQ s.H k (some (.a6 r m (gen+1) (l++o) (ho l.length C))):=by
   funext j;by_cases hj:j=k
   ·subst hj;rw[bQ,bQ]
   rw[bR _ _ _ _ hj,bR _ _ _ _ hj,bR _ _ _ _ hj]
  simp only[xp] at xA;refine⟨_,_,_,Q,xA,?_⟩;have hN:bh (β.put k (some (some b,gen+1))) W (own K (β.put k (some (some b,gen+1))) (aQ s.H k (some (.a6 r m (gen+1) (l++o) (ho l.length C))))) (.a7 k (gen+1) (U r m).size 0 (l.length+o.length)) (.slice (some ⟨b,0*(U r m).size,none⟩) (l.length+o.length) f):=by
   refine .a7 k (gen+1) (U r m).size 0 _ f b (f*(U r m).size) (U r m).ty O (bQ _ _ _) (by subst lj;simpa using hw) ?_ (by rw[dn]) M lZ;subst lj;unfold World.shape?;rw[setRow_heap _ _ _ _ _ _ g2];simp only[Y,kE]
  rw[fT] at hN;exact hN
 have holds: ∀j u,(F.toList.take (l.length*(U r m).size))[j]? =some u->w.cell? ((⟨b,0,none⟩:Addr).add j)=some u:=by
  intro j u hj;rw[iE,dn];rw[fL] at hj;split at hj
  ·simp only[World.cell?,g2];simpa using hj
  cases hj
 have Q:=run_append_grow (P:=K.P) w t ty (U r m).ty i z hu lY hi2 ⟨b,0,none⟩ l.length f (F.toList.take (l.length*(U r m).size)) (by rw[ka];exact r4) holds ⟨cd,off,none⟩ o.length Bs X (by rw[ka];exact nL) IJ O O (growslice_fits O j');obtain⟨D,f1,f2⟩:=finish B (F.toList.take (l.length*(U r m).size)) (grownCap w (l.length+o.length) f (U r m).ty) r4 (grownCap_ge w _ f (U r m).ty) (grownCap_le_maxLen w _ f (U r m).ty hm) ll (λi j c L=>⟨(g6 i j c L).1,(g6 i j c L).2.1⟩) g7 g8;exact⟨_,_,D,Q,f1,f2⟩
def pN(a:Nat)(b:List V):List (Nat×Nat×V)->List (Nat×Nat×V)
 | []=>[]
 |h::c=>(h.1,h.2.1,match Nat.ble a h.2.1,b[h.2.1-a]? with
  |true,some v=>v
  |_,_=>h.2.2)::pN a b c
theorem zR{off:Nat}{vs:List V}{i j:Nat}{v:V}: ∀{a:List (Nat×Nat×V)},(i,j,v)∈a-> ∃b,(i,j,b)∈pN off vs a
 |h::a,hm=>by
  rcases dI.1 hm with rfl|hm
  ·exact⟨_,eH⟩
  obtain⟨b,c⟩:=zR hm;exact⟨b,eu _ c⟩
theorem zg{off:Nat}{vs:List V}{i j:Nat}{v:V}: ∀{b:List (Nat×Nat×V)},(i,j,v)∈pN off vs b-> ∃a,(i,j,a)∈b/\(off<=j-> ∀x,vs[j-off]? =some x->v=x)/\(¬(off<=j/\j<off+vs.length)->v=a)
 |h::b,hm=>by
  rcases dI.1 hm with e|hm
  ·simp only[Prod.mk.injEq] at e;obtain⟨rfl,rfl,rfl⟩:=e;refine⟨h.2.2,eH,λk x c=>?_,λl=>?_⟩
   ·rw[Nat.ble_eq_true_of_le k,c]
   split
   ·rename_i v m c
    have:=(bM.1 c).1
    have:=eB m;exact bt ⟨this,O⟩ l
   rfl
  obtain⟨a,n,o⟩:=zg hm;exact⟨a,eu _ n,o⟩
theorem YF{e:List dG}{gen:Nat}{a:List (List T)}(h:cy G w X k (.a6 e m gen a o)){l:List T}{c:T}(r:a[i]? =some l)(A:l[n]? =some c):
  ∃(b:Nat) (p:Array Value) (N:Nat->Prop) (x:Value),G k=some (some b,gen)/\w.heap[b]? =some (.cells p (U e m).ty (0,0))/\p[i*(U e m).size+n]? =some x/\Cell e m o G w X i n c x N:=by
 rcases h.2 with ⟨_,y,_⟩|⟨b,p,B,C,y,L,Q,D,_⟩
 ·rw[y] at r;simp at r
 have F:i<a.length:=(bM.1 r).1;have R:n<(U e m).size:=by
  grind
 have q:i*(U e m).size+n<p.size:=by
  have:(i+1)*(U e m).size<=a.length*(U e m).size:=dt _ F
  grind
 exact⟨b,p,_,p[i*(U e m).size+n],C,y,by simp[q],D i n l c _ r A (by simp[q])⟩
section nl
variable {P:Program}{H:Nat->Option E}{d:Option Tmp}{ty:TypeId}{pos:String}{af:Array Edge}{g:Option (Nat×Bool)}
variable {t:TypeId}{u:TypeDesc}{z:Value}{size bytes:Nat}
theorem C4(x:Operand)(o gen i a:Nat)(n:List dG)(m:Nat)(B:Nat)(e:List (List T))(p:List (Nat×Nat×V))(l:List T)(c:T)(v:V)(G:b4 P t u z size bytes)(L:j2 u=false)(Q:H o=some (.a6 n m gen e p))(R:(U n m).size=B)
  (W:e[i]? =some l) (f:l[a]? =some c) (q:(i,a,v)∈p\/((∀v,(i,a,v)∉p)/\(U n m).ej a=none/\v= .t c)):
  b5 P H ⟨d,.load t x,ty,pos,af,g⟩ [.ct o gen B i a] v:=by
 subst R;intro β w X ρ j I;obtain⟨b,us,N,y,M,Y,C,D⟩:=YF (j o _ Q) W f;obtain⟨fH,r,hx⟩:=m9 I.1 M;cases r;have hlt:=(iP.1 C).1;have k:w.cell? ⟨b,i*(U n m).size+a,none⟩=some y:=by
  simp only[World.cell?,Y];exact C
 refine⟨y,?_,?_⟩
 ·simp[execOp,hx,Instr.loadAt,Instr.sureAddr,G.CH w L k]
 rcases q with q|⟨A,hk,rfl⟩
 ·exact(D.1 v q).1
 have F:=D.2 A;rw[hk] at F;cases F with|iG _ _ _ h _=>exact .t _ _ h
theorem Km(x:Operand)(r gen i a:Nat)(k:List dG)(m:Nat)(Q:Nat)(e:List (List T))(R:List (Nat×Nat×V))(h:List T)(y:List V)(W:b4 P t u z size bytes)(f:j2 u=true)(I:H r=some (.a6 k m gen e R))(M:(U k m).size=Q)
  (n:e[i]? =some h) (b9:a+size<=h.length) (o:y.length=size) (N: ∀j v,y[j]? =some v->(i,a+j,v)∈R):
  b5 P H ⟨d,.load t x,ty,pos,af,g⟩ [.ct r gen Q i a] (.agg y):=by
 subst M;intro β w X ρ Y fP;rcases(Y r _ I).2 with ⟨_,A,_⟩|⟨b,C,B,h1,A,h3,h4,h5,_⟩
 ·rw[A] at n;simp at n
 obtain⟨fH,D,hx⟩:=m9 fP.1 h1;cases D;have aD:i<e.length:=(bM.1 n).1;have hrl:h.length=(U k m).size:=h4 h (bC n);have p: ∀j,j<size->i*(U k m).size+a+j<C.size:=by
  intro j q
  have:(i+1)*(U k m).size<=e.length*(U k m).size:=dt _ aD
  grind
 have l: ∀j,j<size->w.cell? ⟨b,i*(U k m).size+a+j,none⟩=some (C.getD (i*(U k m).size+a+j) undef):=λj q=>by
  have:=p j q;simp[World.cell?,A,this]
 refine⟨_,by simp[execOp,hx,Instr.loadAt,Instr.sureAddr,W.CI w f l];rfl,?_⟩;refine .agg _ _ (by simp[o]) λj c v F G=>?_;have q:j<size:=by
  grind
 simp only[List.getElem?_toArray,List.getElem?_map,List.getElem?_range q,Option.map_some,Option.some.injEq] at G;have L:=bg (O:a+j<h.length)
 have:=p j q;have h6:=(h5 i (a+j) h _ C[i*(U k m).size+a+j] n L (by rw[<-pf];simp[this])).1 c (N j c F)
 grind
theorem UR(x:Operand)(n gen o i c k a:Nat)(C:Array Field)(h:Field)(F:TypeDesc)(G:Value)(l p:Nat)(L:P.underlying t=some (.struct C))(Q:C[k]? =some h)(R:h.offset=a)(r:b4 P h.type F G l p)(y:(l==0)=false)
  (e:E) (W:H n=some e) (f:e.gen=some gen):b5 P H ⟨d,.fieldAddr t x k,ty,pos,af,g⟩ [.ct n gen o i c] (.ct n gen o i (c+a)):=by
 intro M w X N j v;obtain⟨A,q,D⟩:=ps (j n _ W) f;obtain⟨b,B,I⟩:=m9 v.1 D;subst B;have m:l≠0:=by simpa using y
 refine⟨.pointer (some ⟨b,i*o+(c+a),none⟩),?_,.ct _ _ _ _ _ _ A D⟩;simp[execOp,I,Instr.fieldAt,run_underlying L,Q,Instr.sureAddr,fieldPlace,r.run_sizeOf,m,iE,R,Nat.add_assoc]
theorem UP(x y:Operand)(e:TypeId)(i gen a c n:Nat)(p:E)(B:H i=some p)(C:p.gen=some gen)(D:P.underlying t=some (.slice e))(F:b4 P e u z size bytes)(f:n<c):
  b5 P H ⟨d,.indexAddr t x y,ty,pos,af,g⟩ [.a7 i gen size a c,.t (.int .i64 (n:Nat))] (.ct i gen size (a+n) 0):=by
 intro j w X G L k;have cu:=du k.2.1;generalize r:G x=v at k;have h:=k.1;simp only[r] at h;obtain⟨l,q,A⟩:=ps (L i _ B) C;rcases eT h A with ⟨Q,b,m,R,rfl,o,I,M,W,N,T⟩|⟨_,_,U,_⟩
 ·subst o;refine⟨.pointer (some ⟨b,(a+n)*size+0,none⟩),?_,.ct _ _ _ _ _ b l A⟩;simp[execOp,r,cu,Instr.indexAt,asIntOf,run_underlying D,F.run_sizeOf,iE,Nat.add_mul]
  grind
 omega
theorem WH(x:Operand)(e:TypeId)(l gen h i c:Nat)(p:P.underlying t=some (.slice e))(n:E)(r:H l=some n)(y:n.gen=some gen):b5 P H ⟨d,.call {callee:= .builtin .len,args:= #[x],argTypes:= #[t]},ty,pos,af,g⟩ [.a7 l gen h i c] (.t (.int .i64 (c:Nat))):=by
 intro A w X o B C;obtain⟨a,cap,k⟩: ∃a cap,o x= .slice a c cap:=by
  have D:bh A w X (.a7 l gen h i c) (o x):=C.1;obtain⟨_,q,F⟩:=ps (B l _ r) y;rcases eT D F with ⟨cap,b,m,G,k,_⟩|⟨_,_,L,k⟩
  ·exact⟨_,_,k⟩
  exact⟨none,0,by rw[L];exact k⟩
 refine⟨.int .i64 (c:Nat),?_,.t _ _ (.int _ _)⟩;simp[execOp,resolve,invoke,builtin,k,Builtin.len_,run_underlying p,goInt]
end nl
section ops
variable {K:Ctx}{s:S}{d:Option Tmp}{ty:TypeId}{pos:String}{af:Array Edge}{g:Option (Nat×Bool)}
variable {t:TypeId}{u:TypeDesc}{z:Value}{gen size bytes:Nat}
theorem Yq(k v I M:Nat)(x y:Operand)(e:TypeId)(q r:List dG)(m N:Nat)(c b:List (List T))(h:List (Nat×Nat×V))(Y: ∀i,d=some i->Nat.blt i K.nt=true)(hx:s.get x= .a7 k gen size 0 c.length)(hy:s.get y= .a7 v I size 0 M)(hk:s.H k=some (.a6 q m gen c []))(F:s.H v=some (.a6 r N I b h))
  (G:U r N=U q m) (L:M=b.length) (hu:K.P.underlying t=some (.slice e)) (he:b4 K.P e u z size bytes) (R:Nat.beq z.cells.size size=true) (W:(U q m).size=size) (mP:(U q m).ty=e) (hs: ∀l,l∈c->l.length=size) (X: ∀l,l∈b->l.length=size)
  (n:0<b.length) (o:wv (U q m) b.length h=true) (dY:tg h=true) (aV:(c.length+b.length)*bytes<=140737488355328) (hm:c.length+b.length<=9223372036854775807):
  dL K ⟨d,.call {callee:= .builtin .append,args:= #[x,y],argTypes:= #[t,t]},ty,pos,af,g⟩ s
   (({s with H:=aQ s.H k (some (.a6 q m (gen+1) (c++b) (ho c.length h)))}:S).put d (.a7 k (gen+1) size 0 (c.length+b.length))):=by
 intro β a w next Q D f
 have A:=D.get x;rw[hx] at A;have B:=D.get y;rw[hy] at B;have p:=zF.of D F L (by rw[G,W];exact B) n dY (by rw[G];exact o);rw[G,W] at p;obtain⟨c8,w',j,h1,h2,h4⟩:=D.aek k q m c b h hk W mP ty hu he (cH R) hs X _ _ A p n o aV (by unfold maxLen;omega);unfold Oper.wp;have C:(execOp a.eval ⟨d,.call {callee:= .builtin .append,args:= #[x,y],argTypes:= #[t,t]},ty,pos,af,g⟩).run K.P w= .ok (.value c8) w':=by
  simp[execOp,resolve,invoke,builtin,h1]
 rw[C];exact f j _ w' (h2.put d Y h4)
theorem Vm(x y:Operand)(id i off:Nat)(k:List dG)(m:Nat)(o:List (List T))(F:List T)(v:V)(hs:List (Nat×Nat×V))(hx:s.get x= .ct id gen size i off)(bI:s.get y=v)(r5:v.val=true)(kF:nf v.cs=true)
  (hH:s.H id=some (.a6 k m gen o hs)) (eG:(U k m).size=size) {l:Nat} (eO:b4 K.P t u z l bytes) (ID:v.cs.length=l) (Iy:0<l) (G:o[i]? =some F) (b9:off+l<=F.length)
  (lY: ∀n cR X,(n,cR,X)∈hs->off<=cR->cR<off+l->n=i) (hi2: ∀j,j<l-> ∃X,(i,off+j,X)∈hs):
  dL K ⟨none,.store t x y,ty,pos,af,g⟩ s {s with H:=aQ s.H id (some (.a6 k m gen o (pN off v.cs hs)))}:=by
 subst eG;intro β a w next Q bO hk
 have xG:=bO.get x;rw[hx] at xG;have hd:=(bO.heap id _ hH).2;rcases hd.2 with ⟨_,h2,_⟩|⟨b,p,B,h1,h2,h3,h4,h5,h6,lg,kC⟩
 ·rw[h2] at G;simp at G
 obtain⟨fH,jc,r8⟩:=m9 xG h1;cases jc;have aD:=(bM.1 G).1;have hrl:F.length=(U k m).size:=h4 F (bC G);have BG:i*(U k m).size+off+l<=p.size:=by
  have:(i+1)*(U k m).size<=o.length*(U k m).size:=dt _ aD;rw[dC] at this;omega
 have ln:=bO.get y;rw[bI] at ln;obtain⟨c1,c2⟩:=ln.cells r5;have L:(a.eval y).cells.size=l:=c1.trans ID;have f: ∀e∈(a.eval y).cells.toList,e.oneCell'=true:=by
  intro e he;obtain⟨j,hj⟩:=iQ.1 he;have hj':(a.eval y).cells[j]? =some e:=by simpa using hj
  have hlt:=(iP.1 hj').1;have bB:=bg (O:j<v.cs.length);exact(c2 j _ e bB hj').im (y0 kF bB)
 unfold Oper.wp;have xB:=CJ eO w b (i*(U k m).size+off) p _ (a.eval y) h2 L O f;have I:(execOp a.eval ⟨none,.store t x y,ty,pos,af,g⟩).run K.P w= .ok .skip (w.setRow b (p.toList.take (i*(U k m).size+off)++(a.eval y).cells.toList++p.toList.drop (i*(U k m).size+off+(a.eval y).cells.toList.length)).toArray):=by
  simp only[execOp,r8,Instr.storeAt,Instr.sureAddr,Sem.run_bind,Sem.run_pure,Result.andThen_ok,xB]
 rw[I];have hlen:(p.toList.take (i*(U k m).size+off)++(a.eval y).cells.toList++p.toList.drop (i*(U k m).size+off+(a.eval y).cells.toList.length)).length=p.size:=by
  simp[L];omega
 have M:own K β s.H b:= .inr ⟨id,by rw[hH];simp,.inl ⟨_,h1⟩⟩;generalize N:(p.toList.take (i*(U k m).size+off)++(a.eval y).cells.toList++p.toList.drop (i*(U k m).size+off+(a.eval y).cells.toList.length)).toArray=q at*;have r:q.size=p.size:=by rw[<-N];simpa using hlen
 have R:Ext (own K β s.H) w (w.setRow b q):=⟨rfl,rfl,rfl,a1,λkk _ hx=>setRow_other _ _ _ _ λe0=>hx (e0▸M)⟩
 have W:Shaped β w (w.setRow b q):=λfH _=>DC h2 r fH;refine hk β _ _ (Rel.setRow bO id b (.inl ⟨_,h1⟩) p _ h2 q r (.a6 k m gen o (pN off v.cs hs)) (by rw[hH];simp) ?_);refine⟨hd.1,.inr ⟨b,q,B,h1,setRow_heap _ _ _ _ _ _ h2,by rw[r];exact h3,h4,λn cR A hW lC aH a2 a3=>?_,h6,lg,kC⟩⟩;have hjs:cR<(U k m).size:=by rw[<-h4 A (bC aH)];exact(bM.1 a2).1
 by_cases Y:n=i/\off<=cR/\cR<off+l
 ·obtain⟨rfl,Io,xy⟩:=Y;obtain⟨X,rY⟩:=hi2 (cR-off) O;rw[show off+(cR-off)=cR by omega] at rY;have C:=h5 n cR A hW p[n*(U k m).size+cR] aH a2 (by rw[gY O]);have afK: ∃v1,(n,cR,v1)∈pN off v.cs hs:=zR rY;obtain⟨v1,lk⟩:=afK;refine⟨λc8 D=>⟨?_,(C.1 X rY).2⟩,λjd=>bt lk (jd v1)⟩;obtain⟨_,_,q2,_⟩:=zg D;have BE:=bg (O:cR-off<v.cs.length);have e:=q2 Io _ BE
  have:(a.eval y).cells[cR-off]? =some lC:=by
   rw[<-N] at a3;simp only[List.getElem?_toArray] at a3;rw[iu (by simp[L];omega),hi bX] at a3;have lX:n*(U k m).size+cR-(p.toList.take (n*(U k m).size+off)).length=cR-off:=by
    rw[cq,ni];omega
   rw[lX] at a3;simpa using a3
  rw[e];exact(c2 _ _ lC BE this).mono R (λ_ _ h=>h) (de.refl _) W
 have hne:n*(U k m).size+cR<i*(U k m).size+off\/i*(U k m).size+off+l<=n*(U k m).size+cR:=by
  rcases Nat.lt_trichotomy n i with h|h|h
  ·have:=dt (U k m).size (O:n+1<=i);rw[dC] at this;omega
  ·subst h
   have: ¬(off<=cR/\cR<off+l):=λh=>Y ⟨rfl,h⟩;omega
  have:=dt (U k m).size (O:i+1<=n);rw[dC] at this;omega
 have C:p[n*(U k m).size+cR]? =some lC:=by
  rw[<-N] at a3;simp only[List.getElem?_toArray,List.getElem?_append,List.length_append,List.length_take,List.getElem?_take,List.getElem?_drop,Array.length_toList,L] at a3;rw[show min (i*(U k m).size+off) p.size=i*(U k m).size+off by omega] at a3;rcases hne with hlt|iI
  ·rw[aW O,aW O,aW O] at a3;simpa using a3
  rw[aT O] at a3;rw[show i*(U k m).size+off+l+(n*(U k m).size+cR-(i*(U k m).size+off+l))=n*(U k m).size+cR by omega] at a3;simpa using a3
 have oM:=h5 n cR A hW lC aH a2 C;have hc1:=oM.mono (β':=β) R (λ_ _ h=>h) (de.refl _) W λc bB=>setRow_other _ _ _ _ (h6 _ _ _ bB).2.2;refine⟨λc8 D=>?_,λjd=>hc1.2 λc8 D=>?_⟩
 ·obtain⟨X,lz,_,qu⟩:=zg D;have afS: ¬(off<=cR/\cR<off+v.cs.length):=λh=>Y ⟨lY _ _ _ lz h.1 O,h.1,O⟩;rw[qu afS];exact hc1.1 X lz
 obtain⟨v1,lk⟩:=zR (off:=off) (vs:=v.cs) D;exact jd v1 lk
theorem TX(x y:Operand)(id i off:Nat)(k:List dG)(m:Nat)(o:List (List T))(G:List T)(v:V)(hs:List (Nat×Nat×V))(hx:s.get x= .ct id gen size i off)(bI:s.get y=v)(r5:v.val=true)(kF:nf v.cs=true)
  (hH:s.H id=some (.a6 k m gen o hs)) (eG:(U k m).size=size) {l:Nat} (eO:b4 K.P t u z l bytes) (ID:v.cs.length=l) (Iy:0<l) (L:o[i]? =some G) (b9:off+l<=G.length)
  {R:List (Nat×Nat×V)} (lh: ∀n cR c8,(n,cR,c8)∈R-> ∃F,(n,cR,F)∈hs/\((n=i/\off<=cR/\cR<off+l)->v.cs[cR-off]? =some c8)/\(¬(n=i/\off<=cR/\cR<off+l)->c8=F)) (di: ∀n cR F,(n,cR,F)∈hs-> ∃v1,(n,cR,v1)∈R) (hi2: ∀j,j<l-> ∃F,(i,off+j,F)∈hs):
  dL K ⟨none,.store t x y,ty,pos,af,g⟩ s {s with H:=aQ s.H id (some (.a6 k m gen o R))}:=by
 subst eG;intro β a w next Q bO hk
 have xG:=bO.get x;rw[hx] at xG;have hd:=(bO.heap id _ hH).2;rcases hd.2 with ⟨_,h2,_⟩|⟨b,p,B,h1,h2,h3,h4,h5,h6,lg,kC⟩
 ·rw[h2] at L;simp at L
 obtain⟨fH,jc,r8⟩:=m9 xG h1;cases jc;have aD:=(bM.1 L).1;have hrl:G.length=(U k m).size:=h4 G (bC L);have BG:i*(U k m).size+off+l<=p.size:=by
  have:(i+1)*(U k m).size<=o.length*(U k m).size:=dt _ aD;rw[dC] at this;omega
 have ln:=bO.get y;rw[bI] at ln;obtain⟨c1,c2⟩:=ln.cells r5;have W:(a.eval y).cells.size=l:=c1.trans ID;have I: ∀e∈(a.eval y).cells.toList,e.oneCell'=true:=by
  intro e he;obtain⟨j,hj⟩:=iQ.1 he;have hj':(a.eval y).cells[j]? =some e:=by simpa using hj
  have hlt:=(iP.1 hj').1;have bB:=bg (O:j<v.cs.length);exact(c2 j _ e bB hj').im (y0 kF bB)
 unfold Oper.wp;have xB:=CJ eO w b (i*(U k m).size+off) p _ (a.eval y) h2 W O I;have M:(execOp a.eval ⟨none,.store t x y,ty,pos,af,g⟩).run K.P w= .ok .skip (w.setRow b (p.toList.take (i*(U k m).size+off)++(a.eval y).cells.toList++p.toList.drop (i*(U k m).size+off+(a.eval y).cells.toList.length)).toArray):=by
  simp only[execOp,r8,Instr.storeAt,Instr.sureAddr,Sem.run_bind,Sem.run_pure,Result.andThen_ok,xB]
 rw[M];have hlen:(p.toList.take (i*(U k m).size+off)++(a.eval y).cells.toList++p.toList.drop (i*(U k m).size+off+(a.eval y).cells.toList.length)).length=p.size:=by
  simp[W];omega
 have N:own K β s.H b:= .inr ⟨id,by rw[hH];simp,.inl ⟨_,h1⟩⟩;generalize Y:(p.toList.take (i*(U k m).size+off)++(a.eval y).cells.toList++p.toList.drop (i*(U k m).size+off+(a.eval y).cells.toList.length)).toArray=q at*;have r:q.size=p.size:=by rw[<-Y];simpa using hlen
 have X:Ext (own K β s.H) w (w.setRow b q):=⟨rfl,rfl,rfl,a1,λkk _ hx=>setRow_other _ _ _ _ λe0=>hx (e0▸N)⟩
 have f:Shaped β w (w.setRow b q):=λfH _=>DC h2 r fH;refine hk β _ _ (Rel.setRow bO id b (.inl ⟨_,h1⟩) p _ h2 q r (.a6 k m gen o R) (by rw[hH];simp) ?_);refine⟨hd.1,.inr ⟨b,q,B,h1,setRow_heap _ _ _ _ _ _ h2,by rw[r];exact h3,h4,λn cR A hW lC aH a2 a3=>?_,h6,lg,kC⟩⟩;have hjs:cR<(U k m).size:=by rw[<-h4 A (bC aH)];exact(bM.1 a2).1
 by_cases p9:n=i/\off<=cR/\cR<off+l
 ·obtain⟨rfl,Io,xy⟩:=p9;obtain⟨F,rY⟩:=hi2 (cR-off) O;rw[show off+(cR-off)=cR by omega] at rY;have C:=h5 n cR A hW p[n*(U k m).size+cR] aH a2 (by rw[gY O]);obtain⟨v1,lk⟩:=di _ _ _ rY;refine⟨λc8 D=>⟨?_,(C.1 F rY).2⟩,λjd=>bt lk (jd v1)⟩;obtain⟨_,_,q2,_⟩:=lh _ _ _ D;have BE:=q2 ⟨rfl,Io,xy⟩
  have:(a.eval y).cells[cR-off]? =some lC:=by
   rw[<-Y] at a3;simp only[List.getElem?_toArray] at a3;rw[iu (by simp[W];omega),hi bX] at a3;have lX:n*(U k m).size+cR-(p.toList.take (n*(U k m).size+off)).length=cR-off:=by
    rw[cq,ni];omega
   rw[lX] at a3;simpa using a3
  exact(c2 _ _ lC BE this).mono X (λ_ _ h=>h) (de.refl _) f
 have hne:n*(U k m).size+cR<i*(U k m).size+off\/i*(U k m).size+off+l<=n*(U k m).size+cR:=by
  rcases Nat.lt_trichotomy n i with h|h|h
  ·have:=dt (U k m).size (O:n+1<=i);rw[dC] at this;omega
  ·subst h
   have: ¬(off<=cR/\cR<off+l):=λh=>p9 ⟨rfl,h⟩;omega
  have:=dt (U k m).size (O:i+1<=n);rw[dC] at this;omega
 have C:p[n*(U k m).size+cR]? =some lC:=by
  rw[<-Y] at a3;simp only[List.getElem?_toArray,List.getElem?_append,List.length_append,List.length_take,List.getElem?_take,List.getElem?_drop,Array.length_toList,W] at a3;rw[show min (i*(U k m).size+off) p.size=i*(U k m).size+off by omega] at a3;rcases hne with hlt|iI
  ·rw[aW O,aW O,aW O] at a3;simpa using a3
  rw[aT O] at a3;rw[show i*(U k m).size+off+l+(n*(U k m).size+cR-(i*(U k m).size+off+l))=n*(U k m).size+cR by omega] at a3;simpa using a3
 have oM:=h5 n cR A hW lC aH a2 C;have hc1:=oM.mono (β':=β) X (λ_ _ h=>h) (de.refl _) f λc bB=>setRow_other _ _ _ _ (h6 _ _ _ bB).2.2;refine⟨λc8 D=>?_,λjd=>hc1.2 λc8 D=>?_⟩
 ·obtain⟨F,lz,_,qu⟩:=lh _ _ _ D;rw[qu p9];exact hc1.1 F lz
 obtain⟨v1,lk⟩:=di _ _ _ D;exact jd v1 lk
end ops
def E.gen?:E->Option Nat
 | .cells _=>none
 | .arr _ gen _ _=>some gen
 | .a6 _ _ gen _ _=>some gen
theorem AE{g:Nat}{T:E}(b:T.gen? =some g)(h:cy G w X n T):1<=g/\ ∃q,G n=some (q,g):=by
 cases T with
 |cells cs=>cases b
 |arr ty gen size a=>cases b;exact⟨h.1,iK h⟩
 |a6 c m gen a e=>cases b;exact⟨h.1,s0 h⟩
section nl
variable {P:Program}{H:Nat->Option E}{d:Option Tmp}{ty:TypeId}{pos:String}{af:Array Edge}{g:Option (Nat×Bool)}
variable {t:TypeId}{u:TypeDesc}{z:Value}{size bytes:Nat}
def pW(c:Nat)(h i:Option Operand)(e:Operand->Value)(a b:Nat):Prop:=
 (match h with|some x=>e x= .int .i64 (a:Nat)|none=>a=0)/\(match i with|some x=>e x= .int .i64 (b:Nat)|none=>b=c)
theorem Aw{P:Program}{len a:Nat}{i e:Option Operand}{c:Operand->Value}(h:pW len i e c a b)(m:a<=b)(o:b<=n)(w:World):(Instr.sliceBounds true len n (i.map c) (e.map c) none).run P w= .ok (a,b,n) w:=by
 obtain⟨l,k⟩:=h;cases i with
 |none=>
  have l:a=0:=l;subst l;cases e with
  |none=>
   have k:b=len:=k;subst k;simp[Instr.sliceBounds]
  |some y=>
   have k:c y=_:=k;simp[Instr.sliceBounds,k,d5 w b n _ o]
 |some x=>
  have l:c x=_:=l;cases e with
  |none=>
   have k:b=len:=k;subst k;simp[Instr.sliceBounds,l,d5 w a b _ m]
  |some y=>
   have k:c y=_:=k;simp[Instr.sliceBounds,l,k,d5 w b n _ o,d5 w a b _ m]
theorem acw(x:Operand)(r y:Option Operand)(e:TypeId)(m gen h c a b:Nat)(Q:E)(v:H m=some Q)(I:Q.gen? =some gen)(R:P.underlying t=some (.slice e))(W:b4 P e u z size bytes)
  (M:a<=b) (h2:b<=c) (h3:a=0\/a<c) {i:List V} (N: ∀A w X (k:Operand->Value),dh A w X i (r.toList.map k++y.toList.map k)->pW c r y k a b):
  b5 P H ⟨d,.slice t x r y none,ty,pos,af,g⟩ (.a7 m gen size h c::i) (.a7 m gen size (h+a) (b-a)):=by
 intro A w X k T D;obtain⟨B,q,F⟩:=AE I (T m _ v);have D:dh A w X (.a7 m gen size h c::i) (k x::(r.toList.map k++y.toList.map k)):=by
  cases r<;>cases y<;>simpa[Op.operands] using D
 have C:pW c r y k a b:=N A w X k D.2;have U:bh A w X (.a7 m gen size h c) (k x):=D.1;rcases eT U F with ⟨l,f,n,G,o,p,Y,hs,cu,b9,hm⟩|⟨p,h0,L,o⟩
 ·subst p;refine⟨.slice (some ⟨f,(h+a)*size,none⟩) (b-a) (l-a),?_,.a7 m gen size (h+a) (b-a) (l-a) f n G B F Y hs (by rw[<-cu];congr 1;omega) O O⟩;simp only[execOp,Sem.run_bind,Instr.sliceAt,Instr.slice,run_underlying R,Result.andThen_ok,o,Option.map_none,Option.map_some,Aw C M (O:b<=l),W.run_sizeOf,Sem.run_pure];by_cases j:l=a
  ·rw[aW j]
   grind
  rw[aT j];simp[iE,Nat.add_mul]
 subst p;subst h0;subst L;have e1:b=0:=O
 have e2:a=0:=O
 subst e1;subst e2;refine⟨.slice none 0 0,?_,.gT m gen size B F⟩;simp only[execOp,Sem.run_bind,Instr.sliceAt,Instr.slice,run_underlying R,Result.andThen_ok,o,Option.map_none,Aw C (Nat.le_refl _) (Nat.le_refl 0),W.run_sizeOf,Sem.run_pure];simp
theorem abv(x:Operand)(p q:Option Operand)(e I:TypeId)(m gen c h a b:Nat)(l:List (List T))(M:H m=some (.arr I gen size l))(N:P.underlying t=some (.slice e))(U:b4 P e u z size bytes)
  (Y:0<size) (h1:a<b) (W:c+b<=l.length) {i:List V} (aV: ∀r w X (k:Operand->Value),dh r w X i (p.toList.map k++q.toList.map k)->pW h p q k a b):
  b5 P H ⟨d,.slice t x p q none,ty,pos,af,g⟩ (.a7 m gen size c h::i) (.a7 m gen size (c+a) (b-a)):=by
 intro r w X k hE C;have y:=hE m _ M;have D:=y.1;have C:dh r w X (.a7 m gen size c h::i) (k x::(p.toList.map k++q.toList.map k)):=by
  cases p<;>cases q<;>simpa[Op.operands] using C
 have F:pW h p q k a b:=aV r w X k C.2;have hx:bh r w X (.a7 m gen size c h) (k x):=C.1;rcases y.2 with ⟨G,L⟩|⟨f,us,G,g2,g3,g4,g5⟩
 ·subst L;simp at W;omega
 rcases eT hx G with ⟨cap,fH,n,Q,R,o,hw,j,v,b9,hm⟩|⟨o,_⟩
 ·cases o;have A:us.size=n:=by
   unfold World.shape? at j
   grind
  have B:b<=cap:=by
   have h3:(c+b)*size<=(c+cap)*size:=by
    rw[v,<-A];exact fF (dt _ W) g3
   have:=Nat.le_of_mul_le_mul_right h3 Y;omega
  refine⟨.slice (some ⟨f,(c+a)*size,none⟩) (b-a) (cap-a),?_,.a7 m gen size (c+a) (b-a) (cap-a) f n Q D G hw j (by rw[<-v];congr 1;omega) O O⟩;simp only[execOp,Sem.run_bind,Instr.sliceAt,Instr.slice,run_underlying N,Result.andThen_ok,R,Option.map_none,Option.map_some,Aw F (O:a<=b) B,U.run_sizeOf,Sem.run_pure];rw[aT (show¬cap=a by omega)];simp[iE,Nat.add_mul]
 cases o
theorem abw(x:Operand)(m o:Option Operand)(e:TypeId)(p gen c l b a:Nat)(F:E)(L:H p=some F)(Q:F.gen? =some gen)(R:P.underlying t=some (.slice e))(W:b4 P e u z size bytes)
  (U:a<=b) {h:List V} (f: ∀r w X (i:Operand->Value),dh r w X h (m.toList.map i++o.toList.map i)->pW b m o i a a):
  b5 P H ⟨d,.slice t x m o none,ty,pos,af,g⟩ (.a7 p gen c l b::h) (.t (.ay [])):=by
 intro r w X i j y;obtain⟨v,q,I⟩:=AE Q (j p _ L);have y:dh r w X (.a7 p gen c l b::h) (i x::(m.toList.map i++o.toList.map i)):=by
  cases m<;>cases o<;>simpa[Op.operands] using y
 have B:pW b m o i a a:=f r w X i y.2;have M:bh r w X (.a7 p gen c l b) (i x):=y.1;obtain⟨A,cap,k,G⟩: ∃A cap,i x= .slice A b cap/\b<=cap:=by
  rcases eT M I with ⟨cap,Y,n,N,k,C,hw,hs,cu,T,hm⟩|⟨C,h0,D,k⟩
  ·exact⟨_,cap,k,T⟩
  exact⟨none,0,by rw[D];exact k,O⟩
 refine⟨.slice (if cap=a then A else A.map (·.add (a*size))) (a-a) (cap-a),?_,.t _ _ (by rw[kp];exact .fB _ _)⟩;simp only[execOp,Sem.run_bind,Instr.sliceAt,Instr.slice,run_underlying R,Result.andThen_ok,k,Option.map_none,Aw B (Nat.le_refl _) (O:a<=cap),W.run_sizeOf,Sem.run_pure]
theorem VK(x:Operand)(e gen a i c:Nat)(h:E)(m:H e=some h)(n:h.gen? =some gen):b5 P H ⟨d,.nilCheck x,ty,pos,af,g⟩ [.ct e gen a i c] (.ct e gen a i c):=by intro o w X k p r;obtain⟨y,q,A⟩:=AE n (p e _ m);have l:bh o w X (.ct e gen a i c) (k x):=r.1;obtain⟨b,_,B⟩:=m9 l A;exact⟨k x,by simp[execOp,B],l⟩
theorem ZK(x C D F:Operand)(e:TypeId)(o gen h l i a b c:Nat)(G:E)(R:H o=some G)(W:G.gen? =some gen)(f:P.underlying t=some (.slice e))(j:b4 P e u z size bytes)
  (v:a<=b) (I:b<=c) (h3:c<=i):b5 P H ⟨d,.slice t x (some C) (some D) (some F),ty,pos,af,g⟩ [.a7 o gen h l i,.t (.int .i64 (a:Nat)),.t (.int .i64 (b:Nat)),.t (.int .i64 (c:Nat))] .cX:=by
 intro M w X m N p;obtain⟨T,q,U⟩:=AE W (N o _ R);have V:bh M w X (.a7 o gen h l i) (m x):=p.1;have y:m C=_:=du p.2.1;have Y:m D=_:=du p.2.2.1;have L:m F=_:=du p.2.2.2.1;obtain⟨r,cap,k,Q⟩: ∃r cap,m x= .slice r i cap/\i<=cap:=by
  rcases eT V U with ⟨cap,fH,n,gV,k,A,hw,hs,cu,y,L⟩|⟨A,h0,B,k⟩
  ·exact⟨_,cap,k,y⟩
  exact⟨none,0,by rw[B];exact k,O⟩
 refine⟨.slice (if c=a then r else r.map (·.add (a*size))) (b-a) (c-a),?_,.cX _⟩;simp[execOp,k,y,Y,L,Instr.sliceAt,Instr.slice,run_underlying f,Instr.sliceBounds,d5 w c cap _ O,d5 w b c _ I,d5 w a b _ v,j.run_sizeOf]
end nl
section steps
variable {K:Ctx}{s:S}{d:Option Tmp}{ty:TypeId}{pos:String}{af:Array Edge}{g:Option (Nat×Bool)}
variable {t:TypeId}{u:TypeDesc}{z:Value}{size bytes gen:Nat}
theorem Nx{D:Map}(R:Rel K D s a w)(q b:Nat)(e:TypeId)(o c:List (List T))(r n:Array Value)(G:s.H q=some (.arr e gen size o))(y:D q=some (some b,gen))(p:w.heap[b]? =some (.cells r e (0,0)))
  (L:n.size=r.size) (W:c.length*size<=r.size) (A: ∀l,l∈c->l.length=size)
  (bB: ∀(i j:Nat) (l:List T) (x:T) (u:Value),c[i]? =some l->l[j]? =some x->n[i*size+j]? =some u->(∃(F:Nat) (m:List T),o[F]? =some m/\m[j]? =some x/\r[F*size+j]? =some u)\/(∀w X,cL w X x u)):
  Rel K D {s with H:=aQ s.H q (some (.arr e gen size c))} a (w.setRow b n):=by
 refine Rel.setRow R q b (.inl ⟨_,y⟩) r e p n L (.arr e gen size c) (by rw[G];simp) ?_;have Q:own K D s.H b:= .inr ⟨q,by rw[G];simp,.inl ⟨_,y⟩⟩;have B:=(R.heap q _ G).2;refine⟨B.1,.inr ⟨b,n,y,setRow_heap _ _ _ _ _ _ p,O,A,λi j l x u aH a2 a3=>?_⟩⟩;rcases bB i j l x u aH a2 a3 with ⟨F,m,v,I,M⟩|bB
 ·rcases B.2 with ⟨C,_⟩|⟨cd,N,C,f,h3,h4,U⟩
  ·rw[y] at C;cases C
  rw[y] at C;cases C;rw[p] at f;cases f;exact(U F j m x u v I M).mono ⟨rfl,rfl,rfl,a1,λk _ V=>setRow_other _ _ _ _ λY=>V (Y▸Q)⟩ λ_ _ h=>h
 exact bB _ _
theorem Rel.ym(h:Rel K β s a w)(b:Nat)(c:E)(k:s.H b=some c):Rel K β {s with H:=aQ s.H b (some c)} a w:=by
 have:aQ s.H b (some c)=s.H:=by
  funext i;by_cases e:i=b
  ·subst e;rw[bQ,k]
  rw[bR _ _ _ _ e]
 rw[this];exact h
end steps
end
section
def d4{a:Type}(f:Nat->a):List (Nat×a)->Nat->a
 | []=>f
 |(d,v)::r=>d4 (aQ f d v) r
theorem l3{a:Type}: ∀(l:List (Nat×a)) (f:Nat->a) (r:Nat),(∀v,(r,v)∉l)->d4 f l r=f r
 | [],_,_,_=>rfl
 |(d,v)::l,f,r,h=>by rw[d4,l3 l _ r λb c=>h b (eu _ c),bR _ _ _ _ (by intro e;subst e;exact h v (eH ..))]
theorem As{a:Type}: ∀(l:List (Nat×a)) (f g:Nat->a) (r:Nat),(∃v,(r,v)∈l)->d4 f l r=d4 g l r
 | [],_,_,_,⟨v,h⟩=>by simp at h
 |(d,v)::l,f,g,r,h=>by
  simp only[d4];by_cases c: ∃b,(r,b)∈l
  ·exact As l _ _ r c
  have i:r=d:=by
   obtain⟨b,bI⟩:=h;rcases dI.1 bI with e|bI
   ·cases e;rfl
   exact bt ⟨b,bI⟩ c
  subst i;rw[l3 l _ r λb bI=>c ⟨b,bI⟩,l3 l _ r λb bI=>c ⟨b,bI⟩,bQ,bQ]
structure cM where
 e7:List (Nat×V)
 hs:List (Nat×Option E):=[]
 us:List (Nat×Bool):=[]
def cM.app(e:cM)(s:S):S:={t:=d4 s.t e.e7,H:=d4 s.H e.hs,u:=d4 s.u e.us}
structure gk where
 e7:List Nat
 nR:List Nat:=[]
def gk.same(r:gk)(s a:S):Prop:=(∀i,i∈r.e7->s.t i=a.t i)/\ ∀k,k∈r.nR->s.H k=a.H k/\s.u k=a.u k
def hD(K:Ctx)(ops:Array Oper)(o:Oper)(s e:S):Prop:=
 ∀h a w next Q,Rel K h s a w->(∀b c d,Rel K b e c d->next c d)->
  if Region.wanted o (yielded ops a.tmps) then o.wp K.P a w next Q\/(o.asks K.P a w/\LetsOut Q) else next (a.put o.dst undef) w
variable {K:Ctx}{ops:Array Oper}{o:Oper}{s:S}{j t:Nat}{want:Bool}
theorem hD.of{b:S}(c:o.guard=none)(h:dL K o s b):hD K ops o s b:=by
 intro β a w next Q d e
 rw[aW (by simp[Region.wanted,c])];exact .inl (h β a w next Q d e)
theorem hD.gq{s':S}(c:o.guard=some (j,want))(d:(ops[j]?).bind (·.dst)=some t)(e:s.t t= .t (.bool want))(h:dL K o s s'):hD K ops o s s':=by
 intro β a w next Q b i
 have k:yielded ops a.tmps j=some want:=by unfold yielded;rw[d];simp[b.bool e]
 rw[aW (by simp[Region.wanted,c,k])];exact .inl (h β a w next Q b i)
theorem hD.out(c:o.guard=some (j,want))(d:(ops[j]?).bind (·.dst)=some t)(e:s.t t= .t (.bool (!want)))(h: ∀i,o.dst=some i->Nat.blt i K.nt=true):hD K ops o s (s.put o.dst (.bJ [])):=by
 intro k a w next Q b l
 have m:yielded ops a.tmps j=some (!want):=by unfold yielded;rw[d];simp[b.bool e]
 rw[aT (by simp[Region.wanted,c,m])];exact l k _ w (b.put o.dst h MR)
theorem hD.skip(c:o.guard=some (j,want))(d:(ops[j]?).bind (·.dst)=some t)(e:s.t t= .bJ [])(h: ∀i,o.dst=some i->Nat.blt i K.nt=true):hD K ops o s (s.put o.dst (.bJ [])):=by
 intro k a w next Q b l
 have hw:=b.ahP (ops:=ops) (want:=want) d e;rw[aT (by simp[Region.wanted,c,hw])];exact l k _ w (b.put o.dst h MR)
def gw{a:Type}:List (List (Nat×a))->Nat->(Nat->Bool)->(Nat->a)->Nat->a
 | [],_,_,f=>f
 |l::b2,i,L,f=>gw b2 (i+1) L (bif L i then d4 f l else f)
theorem DM{a:Type}: ∀(b2:List (List (Nat×a))) (i:Nat) (L b:Nat->Bool) (f c:Nat->a) (r:Nat),f r=c r->(∀j l,b2[j]? =some l->(∃v,(r,v)∈l)->L (i+j)=b (i+j))->gw b2 i L f r=gw b2 i b c r
 | [],_,_,_,_,_,_,h,_=>h
 |l::b2,i,L,b,f,c,r,h,k=>by
  simp only[gw];refine DM b2 (i+1) L b _ _ r ?_ λj m n d=>by have:=k (j+1) m n d;rwa [show i+(j+1)=i+1+j by omega] at this
  by_cases e: ∃v,(r,v)∈l
  ·have:=k 0 l rfl e;rw[qO] at this;rw[<-this];cases L i with
   |true=>exact As l _ _ r e
   |false=>exact h
  have o: ∀g:Nat->a,d4 g l r=g r:=λg=>l3 l g r λv d=>e ⟨v,d⟩;cases L i<;>cases b i<;>simp only[cond_true,cond_false,o]<;>exact h
theorem Mf{a:Type}: ∀(b2:List (List (Nat×a))) (i:Nat) (L:Nat->Bool) (f:Nat->a) (r k:Nat) (l:List (Nat×a)),b2[k]? =some l->(∃v,(r,v)∈l)->L (i+k)=true->
  (∀j e,k<j->b2[j]? =some e->(∃v,(r,v)∈e)->L (i+j)=false)-> ∀g:Nat->a,gw b2 i L f r=d4 g l r
 |h::b2,i,L,f,r,0,l,c,m,n,b,g=>by
  simp at c;subst c;simp only[gw];rw[qO] at n;rw[n,cond_true,DM b2 (i+1) L (λ_=>false) (d4 f h) (d4 g h) r (As h _ _ r m) (λj e o d=>by
   have:=b (j+1) e O o d
   rwa [show i+(j+1)=i+1+j by omega] at this)]
  have p: ∀(b2:List (List (Nat×a))) (i:Nat) (f:Nat->a),gw b2 i (λ_=>false) f=f:=by
   intro b2;induction b2 with
   |nil=>intro _ _;rfl
   |cons l b2 q=>intro i f;simp only[gw,cond_false];exact q _ _
  rw[p]
 |h::b2,i,L,f,r,k+1,l,c,m,n,b,g=>by
  simp at c;simp only[gw];exact Mf b2 (i+1) L _ r k l c m (by rwa [show i+1+k=i+(k+1) by omega]) (λj e s o d=>by
   have:=b (j+1) e O o d
   rwa [show i+(j+1)=i+1+j by omega] at this) g
 | [],_,_,_,_,_,_,c,_,_,_,_=>by simp at c
def hX(a:List cM)(i:Nat)(L:Nat->Bool)(s:S):S:={t:=gw (a.map (·.e7)) i L s.t,H:=gw (a.map (·.hs)) i L s.H,u:=gw (a.map (·.us)) i L s.u}
def l4(a:Array Oper):Nat->Nat->Nat->Bool
 |0,_,_=>false
 |f+1,i,j=>match a[j]? with
  |none=>false
  |some o=>o.after.toList.any λe=>Region.binds .any e&&(Nat.beq e.on i||l4 a f i e.on)
def pD{a:Type}(l:List (Nat×a))(r:List Nat):Bool:=l.any λp=>r.any λx=>Nat.beq p.1 x
def qy{a R:Type}(l:List (Nat×a))(m:List (Nat×R)):Bool:=l.any λp=>m.any λq=>Nat.beq p.1 q.1
def kX(e:cM)(r:gk)(a:cM)(b:gk):Bool:=
 pD e.e7 b.e7||pD a.e7 r.e7||qy e.e7 a.e7||pD e.hs b.nR||pD a.hs r.nR||qy e.hs a.hs||pD e.us b.nR||pD a.us r.nR||qy e.us a.us
def mb(b:Array Oper)(n:Nat):Nat->List (cM×gk)->Bool
 |_,[]=>true
 |i,(e,r)::a=>go i e r (i+1) a&&mb b n (i+1) a
where
 go (i:Nat) (e:cM) (r:gk):Nat->List (cM×gk)->Bool
  |_,[]=>true
  |j,(c,d)::a=>(!kX e r c d||l4 b n i j)&&go i e r (j+1) a
def sY:Nat->List Oper->Bool
 |_,[]=>true
 |i,o::a=>o.after.toList.all (λe=> !Region.binds .any e||Nat.blt e.on i)&&sY (i+1) a
theorem MW{b:Array Oper}{n i:Nat}{e:cM}{r:gk}: ∀(l:List (cM×gk)) (j:Nat),mb.go b n i e r j l=true-> ∀(k:Nat) a c,l[k]? =some (a,c)->kX e r a c=true->l4 b n i (j+k)=true
 | [],_,_,_,_,_,h,_=>by simp at h
 |(o,p)::l,j,h,0,a,c,d,m=>by
  simp at d;obtain⟨rfl,rfl⟩:=d;simp only[mb.go,Bool.and_eq_true,m,Bool.not_true,Bool.false_or] at h;exact h.1
 |(o,p)::l,j,h,k+1,a,c,d,m=>by
  simp at d;simp only[mb.go,Bool.and_eq_true] at h
  have:=MW l (j+1) h.2 k a c d m
  rwa [show j+1+k=j+(k+1) by omega] at this
theorem DO{b:Array Oper}{n:Nat}: ∀(l:List (cM×gk)) (a:Nat),mb b n a l=true-> ∀(i j:Nat) e r c d,l[i]? =some (e,r)->l[j]? =some (c,d)->i<j->kX e r c d=true->l4 b n (a+i) (a+j)=true
 | [],_,_,_,_,_,_,_,_,h,_,_,_=>by simp at h
 |(q,s)::l,a,h,0,j,e,r,c,d,k,m,o,p=>by
  simp at k;obtain⟨rfl,rfl⟩:=k;simp only[mb,Bool.and_eq_true] at h;cases j with
  |zero=>omega
  |succ j=>
   simp at m
   have:=MW l (a+1) h.1 j c d m p
   rwa [show a+1+j=a+(j+1) by omega] at this
 |(q,s)::l,a,h,i+1,j,e,r,c,d,k,m,o,p=>by
  simp only[mb,Bool.and_eq_true] at h;cases j with
  |zero=>omega
  |succ j=>
   simp at k m
   have:=DO l (a+1) h.2 i j e r c d k m O p
   rwa [show a+1+i=a+(i+1) by omega,show a+1+j=a+(j+1) by omega] at this
theorem W6(e:cM)(r:gk)(c:cM)(d:gk):kX e r c d=kX c d e r:=by
 have n: ∀{i k:Type} (l:List (Nat×i)) (m:List (Nat×k)),qy l m=qy m l:=by
  intro i k l m;rw[fD];simp only[qy,List.any_eq_true];constructor
  ·rintro⟨p,a,q,b,h⟩;exact⟨q,b,p,a,by have:=cH h;simp[this]⟩
  rintro⟨p,a,q,b,h⟩;exact⟨q,b,p,a,by have:=cH h;simp[this]⟩
 unfold kX
 grind
def O9(b:Array Oper)(a:Array Bool):Prop:= ∀j o,b[j]? =some o->a.getD j true=true-> ∀e∈o.after,Region.binds .any e=true->a.getD e.on false=true
theorem JJ{c:Array Oper}{a:Array Bool}(n:O9 c a): ∀(f i j:Nat),l4 c f i j=true->(∀o,c[j]? =some o-> ∀e∈o.after,Region.binds .any e=true->a.getD e.on false=true)->a.getD i false=true
 |0,_,_,h,_=>by simp[l4] at h
 |f+1,i,j,h,p=>by
  unfold l4 at h;cases l:c[j]? with
  |none=>rw[l] at h;simp at h
  |some o=>
   rw[l] at h;simp only[List.any_eq_true,Bool.and_eq_true,Bool.or_eq_true] at h;obtain⟨e,q,r,d⟩:=h;have b9:=p o l e (by simpa using q) r;rcases d with d|d
   ·have:=cH d;rw[<-this];exact b9
   refine JJ n f i e.on d λs m=>n e.on s m ?_;rw[qL] at b9⊢;cases k:a[e.on]? with
   |none=>rw[k] at b9;simp at b9
   |some b=>rw[k] at b9;simpa using b9
def vV(K:Ctx)(a:Array Oper):List Oper->List (cM×gk)->S->(S->Prop)->Prop
 | [],[],s,Q=>Q s
 |o::os,(e,r)::c,s,Q=>(∀b,r.same b s->hD K a o b (e.app b))/\vV K a os c (e.app s) Q
 |_,_,_,_=>False
end
set_option linter.unusedVariables false
set_option linter.unusedSimpArgs false
section
theorem La{a:Type}: ∀(b2:List (List (Nat×a))) (i:Nat) (L:Nat->Bool) (f:Nat->a),gw b2 (i+1) L f=gw b2 i (λj=>L (j+1)) f
 | [],_,_,_=>rfl
 |l::b2,i,L,f=>by simp only[gw];exact La b2 (i+1) L _
theorem ER(e:cM)(a:List cM)(L:Nat->Bool)(s:S):hX (e::a) 0 L s=hX a 0 (λj=>L (j+1)) (bif L 0 then e.app s else s):=by unfold hX;simp only[List.map_cons,gw,Nat.zero_add,La];cases L 0<;>rfl
theorem DX{K:Ctx}{b:Array Oper}: ∀(l:List Oper) (es:List (cM×gk)) (s:S) (Q:S->Prop),vV K b l es s Q->
  l.length=es.length/\Q (hX (es.map (·.1)) 0 (λ_=>true) s)/\
  ∀(i:Nat) o e r,l[i]? =some o->es[i]? =some (e,r)-> ∀c,r.same c (hX (es.map (·.1)) 0 (λj=>Nat.blt j i) s)->hD K b o c (e.app c)
 | [],[],s,Q,h=>⟨rfl,h,λi o e r d=>by simp at d⟩
 |o::os,(e,r)::es,s,Q,h=>by
  obtain⟨p,q⟩:=h;obtain⟨aH,a2,a3⟩:=DX os es _ Q q;refine⟨by simp[aH],?_,?_⟩
  ·simp only[List.map_cons,ER,cond_true];exact a2
  intro i w x y d k c a;cases i with
  |zero=>
   simp at d k;obtain⟨rfl,rfl⟩:=k;subst d;refine p c ?_
   have:hX (List.map (·.1) ((e,r)::es)) 0 (λj=>Nat.blt j 0) s=s:=by
    simp only[List.map_cons,ER];have m: ∀{n:Type} (b2:List (List (Nat×n))) (i:Nat) (f:Nat->n),gw b2 i (λj=>Nat.blt (j+1) 0) f=f:=by
     intro n b2;induction b2 with
     |nil=>intro _ _;rfl
     |cons l b2 z=>intro i f;simp only[gw];exact z _ _
    show hX (es.map (·.1)) 0 (λj=>Nat.blt (j+1) 0) s=s;unfold hX;simp only[m]
   rw[this] at a;exact a
  |succ i=>
   simp at d k;refine a3 i w x y d k c ?_;simp only[List.map_cons,ER] at a;exact a
 | [],_::_,_,_,h=>h.elim
 |_::_,[],_,_,h=>h.elim
variable {a R:Type}{r:gk}{x n i:Nat}{v:a}{e:cM}
theorem Fh{l:List (Nat×a)}{r:List Nat}(h:(x,v)∈l)(b:x∈r):pD l r=true:=by unfold pD;rw[hV];exact⟨(x,v),h,by rw[hV];exact⟨x,b,a1⟩⟩
theorem Ea{l:List (Nat×a)}{m:List (Nat×R)}{b:R}(h:(x,v)∈l)(c:(x,b)∈m):qy l m=true:=by unfold qy;rw[hV];exact⟨(x,v),h,by rw[hV];exact⟨(x,b),c,a1⟩⟩
section
variable {K:Ctx}{l:List Oper}{es:List (cM×gk)}{s:S}
theorem FE{c:Array Oper}(proj:cM->List (Nat×R))(G:mb c n 0 es=true){a:Array Bool}(H:es[i]? =some (e,r))(f:Nat->R)(x:Nat)
  (m: ∀d h v,(x,v)∈proj d->kX e r d h=true)
  (o: ∀j,l4 c n j i=true->a.getD j false=true) (q: ∀j,j<es.length->l4 c n i j=true->a.getD j true=false) (z:a.getD i true=false):
  gw ((es.map (·.1)).map proj) 0 (λj=>a.getD j true) f x=gw ((es.map (·.1)).map proj) 0 (λj=>Nat.blt j i) f x:=by
 refine DM _ 0 _ _ f f x rfl ?_;intro j W k ⟨v,L⟩;rw[dn];simp only[List.map_map,List.getElem?_map] at k;cases w:es[j]? with
 |none=>rw[w] at k;cases k
 |some p=>
  obtain⟨d,h⟩:=p;rw[w] at k;simp at k;subst k;have A:j<es.length:=(bM.1 w).1;rcases Nat.lt_trichotomy j i with y|rfl|B
  ·have aV:=DO es 0 G j i d h e r w H y (by rw[W6];exact m d h v L);rw[dn,dn] at aV;have C:=o j aV;have Q:Nat.blt j i=true:=by simpa[Nat.blt_eq] using y
   rw[Q];rw[qL] at C⊢;cases D:a[j]? with
   |none=>rfl
   |some b=>rw[D] at C;simpa using C
  ·rw[z];symm;cases aV:Nat.blt j j with
   |false=>rfl
   |true=>simp[Nat.blt_eq] at aV
  have aV:=DO es 0 G i j e r d h H w B (m d h v L);rw[dn,dn] at aV;rw[q j A aV];symm;cases F:Nat.blt j i with
  |false=>rfl
  |true=>simp[Nat.blt_eq] at F;omega
theorem Ft{b:Array Oper}(proj:cM->List (Nat×R))(H:mb b n 0 es=true){a:Array Bool}(D:es[i]? =some (e,r))(f:Nat->R)(w:i<a.size)
  (y: ∀x h q v L,(x,v)∈proj h->(x,L)∈proj e->kX e r h q=true) (k: ∀j,j<es.length->l4 b n i j=true->a.getD j true=false) (Q:a.getD i true=false):
  d4 (gw ((es.map (·.1)).map proj) 0 (λj=>a.getD j true) f) (proj e)=gw ((es.map (·.1)).map proj) 0 (λj=>(a.setIfInBounds i true).getD j true) f:=by
 funext x;have m: ∀j,j≠i->(a.setIfInBounds i true).getD j true=a.getD j true:=λj z=>by
  simp[Array.getD_eq_getD_getElem?,Array.getElem?_setIfInBounds_ne (Ne.symm z)]
 have A:(a.setIfInBounds i true).getD i true=true:=by
  simp[Array.getD_eq_getD_getElem?,w]
 have B:((es.map (·.1)).map proj)[i]? =some (proj e):=by simp[D]
 by_cases F: ∃v,(x,v)∈proj e
 ·obtain⟨G,o⟩:=F;symm;refine Mf _ 0 _ f x i (proj e) B ⟨G,o⟩ (by rw[dn];exact A) ?_ _;intro j W z d ⟨v,C⟩;rw[dn,m j O];simp only[List.map_map,List.getElem?_map] at d;cases c:es[j]? with
  |none=>rw[c] at d;cases d
  |some p=>
   obtain⟨h,q⟩:=p;rw[c] at d;simp at d;subst d;have aV:=DO es 0 H i j e r h q D c z (y x h q v G C o);rw[dn,dn] at aV;exact k j (bM.1 c).1 aV
 rw[l3 _ _ _ λv C=>F ⟨v,C⟩];refine DM _ 0 _ _ f f x rfl ?_
 grind
theorem Lw: ∀(l:List Oper) (a:Nat),sY a l=true-> ∀(i:Nat) o,l[i]? =some o-> ∀e∈o.after,Region.binds .any e=true->e.on<a+i
 | [],_,_,_,_,h=>by simp at h
 |o::l,a,h,0,m,b=>by
  simp at b;subst b;intro e d k;simp only[sY,Bool.and_eq_true,List.all_eq_true,Bool.or_eq_true] at h;rcases h.1 e (by simpa using d) with c|c
  ·rw[k] at c;cases c
  simpa[Nat.blt_eq] using c
 |o::l,a,h,i+1,m,b=>by
  simp at b;simp only[sY,Bool.and_eq_true] at h;intro e d k
  have:=Lw l (a+1) h.2 i m b e d k;omega
theorem aaF{Q:S->Prop}{wo:Exit->Act->World->Prop}(hp:mb l.toArray l.length 0 es=true)(he:sY 0 l=true)(cn:vV K l.toArray l es s Q)
  (H8: ∀g a w,Rel K g (hX (es.map (·.1)) 0 (λ_=>true) s) a w->wo .normal a w):
  ∀(c:Nat) (b:Array Bool) (y:List Nat),b.size=l.length->y.Nodup->y.length=c->(∀i,b.getD i true=false↔i∈y)->O9 l.toArray b->
   ∀g a w,Rel K g (hX (es.map (·.1)) 0 (λj=>b.getD j true) s) a w->wpAny K.P .any l.toArray wo c b a w:=by
 obtain⟨hlen,_,afU⟩:=DX l es s Q cn
 -- if nothing is ready, all is done
 have hall: ∀(b:Array Bool) (y:List Nat),b.size=l.length->(∀i,b.getD i true=false↔i∈y)->y≠[]->Region.ready .any l.toArray b≠[]:=by
  intro b y G E I;have key: ∀n,(∃i,i∈y/\i<=n)-> ∃m,m∈y/\ ∀j,j<m->j∉y:=by
   intro n;induction n with
   |zero=>rintro⟨i,aD,hle⟩;exact⟨0,by rwa [show i=0 by omega] at aD,λj L=>O⟩
   |succ n l2=>
    rintro⟨i,aD,hle⟩;by_cases h: ∃i,i∈y/\i<=n
    ·exact l2 h
    have:i=n+1:=by
     rcases Nat.lt_or_ge i (n+1) with hlt|iI
     ·exact bt ⟨i,aD,O⟩ h
     omega
    subst this;exact⟨n+1,aD,λj L afz=>h ⟨j,afz,O⟩⟩
  obtain⟨x,hx⟩:=Dj y I;obtain⟨m,hm,aip⟩:=key x ⟨x,hx,cD _⟩;have afL:=(E m).2 hm;have Qp:m<l.length:=by
   grind
  intro R
  have:m∈Region.ready .any l.toArray b:=by
   rw[mem_ready];refine⟨afL,l[m],by simp[Qp],λe afe W=>?_⟩;have hlt:=Lw l 0 he m l[m] (bg Qp) e afe W
   grind
  grind
 have M: ∀(b:Array Bool),(∀i,b.getD i true=true)->hX (es.map (·.1)) 0 (λj=>b.getD j true) s=hX (es.map (·.1)) 0 (λ_=>true) s:=by
  grind
 intro c;induction c with
 |zero=>
  intro b y G N A E bB g a w bO;have R:y=[]:=km A;subst R;have C: ∀i,b.getD i true=true:=λi=>by
   cases h:b.getD i true with
   |true=>rfl
   |false=>have:=(E i).1 h;simp at this
  refine⟨?_,H8 g a w (by rw[<-M b C];exact bO)⟩;cases af4:Region.ready .any l.toArray b with
  |nil=>rfl
  |cons x xs=>
   have:x∈Region.ready .any l.toArray b:=by rw[af4];simp
   rw[mem_ready] at this;rw[C x] at this;exact bt this.1 a1
 |succ c l2=>
  intro b y G N A E bB g a w bO;have I:y≠[]:=by intro e;subst e;simp at A
  refine⟨λh=>bt h (hall b y G E I),λi aD=>?_⟩;obtain⟨q,o,dY,X⟩:=mem_ready.1 aD;have BH:i<l.length:=by
   rcases Nat.lt_or_ge i l.length with h|h
   ·exact h
   rw[Array.getElem?_eq_none (by simpa using h)] at dY;cases dY
  have rX:l[i]? =some o:=by simpa using dY
  obtain⟨⟨e,r⟩,B⟩: ∃p,es[i]? =some p:=⟨es[i]' O,by simp[show i<es.length by omega]⟩
  have D: ∀j,l4 l.toArray l.length j i=true->b.getD j false=true:=λj W=>JJ bB _ j i W λCl z=>by rw[dY] at z;cases z;exact X
  have d: ∀j,j<es.length->l4 l.toArray l.length i j=true->b.getD j true=false:=λj L W=>by
   cases afG:b.getD j true with
   |false=>rfl
   |true=>
    have F:=JJ bB _ i j W λCl z=>bB j Cl z afG;have agb:i<b.size:=O
    simp only[Array.getD_eq_getD_getElem?,Array.getElem?_eq_getElem agb,Option.getD_some] at F q;rw[q] at F;cases F
  have T:r.same (hX (es.map (·.1)) 0 (λj=>b.getD j true) s) (hX (es.map (·.1)) 0 (λj=>Nat.blt j i) s):=by
   refine⟨λx hx=>?_,λk hk=>⟨?_,?_⟩⟩
   ·exact FE (·.e7) hp B s.t x (λf yj v bI=>by simp[kX,Fh bI hx]) D d q
   ·exact FE (·.hs) hp B s.H k (λf yj v bI=>by simp[kX,Fh bI hk]) D d q
   exact FE (·.us) hp B s.u k (λf yj v bI=>by simp[kX,Fh bI hk]) D d q
  have U:e.app (hX (es.map (·.1)) 0 (λj=>b.getD j true) s)=hX (es.map (·.1)) 0 (λj=>(b.setIfInBounds i true).getD j true) s:=by
   unfold cM.app hX;simp only[S.mk.injEq];refine⟨?_,?_,?_⟩
   ·exact Ft (·.e7) hp B s.t O (λx f yj v c8 F h2=>by simp[kX,Ea h2 F]) d q
   ·exact Ft (·.hs) hp B s.H O (λx f yj v c8 F h2=>by simp[kX,Ea h2 F]) d q
   exact Ft (·.us) hp B s.u O (λx f yj v c8 F h2=>by simp[kX,Ea h2 F]) d q
  have BK:=afU i o e r rX B _ T;have afm: ∀V te w',Rel K V (e.app (hX (es.map (·.1)) 0 (λj=>b.getD j true) s)) te w'->wpAny K.P .any l.toArray wo c (b.setIfInBounds i true) te w':=by
   intro V te w' Qz;rw[U] at Qz;have afs:=(E i).1 q;refine l2 (b.setIfInBounds i true) (y.erase i) (by simpa using G) (N.erase i) (by rw[List.length_erase_of_mem afs];omega) (λj=>?_) ?_ V te w' Qz
   ·rw[N.mem_erase_iff];by_cases L:j=i
    ·subst L;simp[Array.getD_eq_getD_getElem?,show j<b.size by omega]
    simp only[Array.getD_eq_getD_getElem?,Array.getElem?_setIfInBounds_ne (Ne.symm L)]
    have:=E j;rw[qL] at this;rw[this];simp[L]
   intro j Cl z L f Qh W;by_cases Qk:j=i
   ·subst Qk;rw[dY] at z;cases z;exact getD_set_true (X f Qh W)
   have F:b.getD j true=true:=by
    simpa only[Array.getD_eq_getD_getElem?,Array.getElem?_setIfInBounds_ne (Ne.symm Qk)] using L
   exact getD_set_true (bB j Cl z F f Qh W)
  have Y:=BK g a w (wpAny K.P .any l.toArray wo c (b.setIfInBounds i true)) wo bO afm;unfold wpOp;rw[dY];exact Y
theorem M0{Q:Exit->S->Prop}(c:List (cM×gk))(A:K.P.follows .mixedOrders=true)(B:mb l.toArray l.length 0 c=true)(C:sY 0 l=true)
  (d:vV K l.toArray l c s λD=>Q .normal D):cz K (.region n l.toArray true) s Q:=by
 intro e a w W k F;obtain⟨_,G,_⟩:=DX l c s _ d;refine wp_region_any A ?_;have m:Rel K e s a {w with drawn:=w.drawn+1}:=vN k;have H:hX (c.map (·.1)) 0 (λj=>(Array.replicate l.toArray.size false).getD j true) s=s:=by
  have y:=(DX l c s _ d).1;have b: ∀{p:Type} (b2:List (List (Nat×p))) (L:Nat->Bool) (i:Nat) (f:Nat->p),(∀j,j<b2.length->L (i+j)=false)->gw b2 i L f=f:=by
   intro p b2 L;induction b2 with
   |nil=>intro _ _ _;rfl
   |cons x b2 R=>
    intro i f h;simp only[gw];have z:=h 0 a1;rw[qO] at z;rw[z,cond_false];exact R (i+1) f λj q=>by have:=h (j+1) bX;rwa [show i+(j+1)=i+1+j by omega] at this
  have r: ∀j,j<c.length->(Array.replicate l.toArray.size false).getD (0+j) true=false:=λj q=>by
   rw[dn,qL,Array.getElem?_replicate,aW bX];rfl
  unfold hX;rw[b _ _ _ _ (by simpa using r),b _ _ _ _ (by simpa using r),b _ _ _ _ (by simpa using r)]
 refine aaF B C d (λe a w k=>F _ _ _ _ _ G k) l.toArray.size (Array.replicate l.toArray.size false) (List.range l.length) a1 List.nodup_range a1 (λi=>?_) ?_ e a _ (by rw[H];exact m)
 ·rw[qL,Array.getElem?_replicate,n']
  grind
 intro j o X q;rw[qL,Array.getElem?_replicate] at q
 grind
end
end
abbrev Y(n:Int):V:= .t (.int .i64 n)
abbrev aM(b:Bool):V:= .t (.bool b)
abbrev cG(s:List UInt8):V:= .t (.str s)
abbrev R4(a:List (List T)):V:= .t (.ay a)
abbrev hP(n:Int):List T:=[.int .i64 n]
abbrev qR(b:UInt8):List T:=[.int .u8 (b.toNat:Nat)]
abbrev acF(b:Bool):List T:=[.bool b]
def d7(P:Program)(f:FuncId):Prop:= ∃a,P.funcs[f]? =some a/\(a.name== "runtime.NumGoroutine")=false/\a.body.isNone=false
section
variable {K:Ctx}{s:S}{Q:Exit->S->Prop}
variable {l:List Oper}
theorem KS{b:Array Oper}{Q:S->Prop}{c:S}(k:s.le K c)(h:pR K b l c Q):pR K b l s Q:=
  λm a w n o p=>let ⟨e,i⟩:=k m a w o;h e a w n i p
theorem Tg{n:Nat}(i:S)(h:pR K l.toArray l s λk=>k.le K i)(m:Q .normal i):cz K (.region n l.toArray false) s Q:=by intro o a w p q r;refine wp_region_lit (h o a w p q λk b x y A c=>?_);obtain⟨B,e⟩:=A b x y c;exact r _ _ _ _ _ m e
theorem b5.eq{P:Program}{H:Nat->Option E}{o:Oper}{Y:List V}{v c8:V}(h:b5 P H o Y v)(e:v=c8):b5 P H o Y c8:=e▸h
section
variable {K:Ctx}{s:S}{d:Option Tmp}{ty:TypeId}{pos:String}{af:Array Edge}{g:Option (Nat×Bool)}
variable {t:TypeId}{u:TypeDesc}{z:Value}{gen size bytes:Nat}
end
end
theorem jE(b:Bool){P:Prop}(a:b=false->P)(c:b=true->P):P:=by
 cases b with
 |false=>exact a rfl
 |true=>exact c rfl
theorem e8.of_eq{a Y:List V}(h:a=Y):e8 a Y:=h▸e8.refl a
section
variable {K:Ctx}{s:S}{ops:Array Oper}{rest:List Oper}{Q:S->Prop}{d:Nat}{ty:TypeId}{pos:String}{af:Array Edge}{j:Nat}{want:Bool}{t:Nat}
end
section
mutual
def V.dA(L:List Nat):V->V
  | .ref id a=> .ref (L.getD id 0) a
  | .a7 id gen b a len=> .a7 (L.getD id 0) gen b a len
  | .ct id gen b i a=> .ct (L.getD id 0) gen b i a
  | .agg cs=> .agg (ij L cs)
  | .bJ cs=> .bJ (ij L cs)
  | .fn f cs=> .fn f (ij L cs)
  | .t x=> .t x
  | .aK x=> .aK x
  | .cX=> .cX
def ij(L:List Nat):List V->List V
  | []=>[]
  |c::cs=>c.dA L::ij L cs
end
def E.dA(L:List Nat):E->E
  | .cells cs=> .cells (ij L cs)
  | .arr ty gen b a=> .arr ty gen b a
  | .a6 c m gen a d=> .a6 c m gen a (d.map λh=>(h.1,h.2.1,h.2.2.dA L))
theorem oU{L:List Nat}: ∀cs:List V,(ij L cs).length=cs.length
  | []=>rfl
  |c::cs=>by simp[ij,oU cs]
theorem FC{L:List Nat}: ∀(cs:List V) (i:Nat),(ij L cs)[i]? =(cs[i]?).map (V.dA L)
  | [],_=>by simp[ij]
  |c::cs,0=>by simp[ij]
  |c::cs,i+1=>by simp[ij,FC cs i]
variable {L:List Nat}{w:World}{X:Nat->Prop}
theorem zd{Y:List V}{i:Nat}{c:V}(h:(ij L Y)[i]? =some c): ∃a,Y[i]? =some a/\c=a.dA L:=by
  rw[FC] at h
  grind
theorem bh.dA{β G:Map}{v:V}{u:Value}(h:bh β w X v u)(e: ∀k x,β k=some x->G (L.getD k 0)=some x):bh G w X (v.dA L) u:=by
  induction h with
  |t x v h=>exact .t x v h
  |agg cs r o _ s=>exact .agg _ r (by rw[oU];exact o) (λi c u p y=>by obtain⟨z,A,rfl⟩:=zd p;exact s i z u A y)
  |bJ cs r o _ s=>exact .bJ _ r (by rw[oU];exact o) (λi c u p y=>by obtain⟨z,A,rfl⟩:=zd p;exact s i z u A y)
  |ref id d b l=>exact .ref _ d b (e _ _ l)
  |aK cells b d f l D p F=>exact .aK cells b d f l D p F
  |a7 id gen a d len B b n ty m l H K Q o R=>exact .a7 _ gen a d len B b n ty m (e _ _ l) H K Q o R
  |gT id gen a m l=>exact .gT _ gen a m (e _ _ l)
  |kM id gen a d len v q g C l m=>exact .kM _ gen a d len v q g C (e _ _ l) m
  |ct id gen a i d b m l=>exact .ct _ gen a i d b m (e _ _ l)
  |k5 id gen a i d v q g C l m=>exact .k5 _ gen a i d v q g C (e _ _ l) m
  |fn f cs r o _ s=>exact .fn f _ r (by rw[oU];exact o) (λi c u p y=>by obtain⟨z,A,rfl⟩:=zd p;exact s i z u A y)
  |cX v=>exact .cX v
def iN(L:List Nat)(a:Map):Map:=⟨λk=>(L[k]?).bind a,λk b=> ∃id,L[k]? =some id/\a.n id b⟩
def eN:Nat->(Nat->Bool)
  |0=>gf
  |n+1=>aQ (eN n) n true
theorem iB: ∀{n k:Nat},eN n k=true↔k<n
  |0,k=>by simp[eN,gf]
  |n+1,k=>by
    by_cases h:k=n
    · subst h;simp[eN,bQ]
    · rw[eN,bR _ _ _ _ h,iB];omega
mutual
theorem bh.pd{β:Map}{w:World}{X:Nat->Prop}{L:List Nat}: ∀(v:V) (u:Value),bh β w X (v.dA L) u->v.ok (eN L.length)=true->bh (iN L β) w X v u
  | .t x,u,h,_=>by
    simp only[V.dA] at h;cases h with|t _ _ h=>exact .t _ _ h
  | .aK x,u,h,_=>by
    simp only[V.dA] at h;cases h with|aK _ b l f a D r s=>exact .aK _ b l f a D r s
  | .cX,u,_,_=> .cX u
  | .ref id l,u,h,d=>by
    have e:id<L.length:=iB.1 (by simpa[V.ok] using d);have o:iN L β id=β (L.getD id 0):=by simp[iN,List.getElem?_eq_getElem e]
    simp only[V.dA] at h;cases h with|ref _ _ b a=>exact .ref _ _ b (by rw[o];exact a)
  | .a7 id gen y l len,u,h,d=>by
    have e:id<L.length:=iB.1 (by simpa[V.ok] using d);have o:iN L β id=β (L.getD id 0):=by simp[iN,List.getElem?_eq_getElem e]
    simp only[V.dA] at h;cases h with
    |a7 _ _ _ _ _ A b n ty m a F k G d B=>exact .a7 _ _ _ _ _ A b n ty m (by rw[o];exact a) F k G d B
    |gT _ _ _ m a=>exact .gT _ _ _ m (by rw[o];exact a)
    |kM _ _ _ _ _ _ q g C a m=>exact .kM _ _ _ _ _ _ q g C (by rw[o];exact a) m
  | .ct id gen y i l,u,h,d=>by
    have e:id<L.length:=iB.1 (by simpa[V.ok] using d);have o:iN L β id=β (L.getD id 0):=by simp[iN,List.getElem?_eq_getElem e]
    simp only[V.dA] at h;cases h with
    |ct _ _ _ _ _ b m a=>exact .ct _ _ _ _ _ b m (by rw[o];exact a)
    |k5 _ _ _ _ _ _ q g C a m=>exact .k5 _ _ _ _ _ _ q g C (by rw[o];exact a) m
  | .agg cs,u,h,d=>by
    simp only[V.dA] at h;cases h with
    |agg _ p k s=>exact .agg _ p (by rw[oU] at k;exact k) (λi c u r z=>zA cs (λi=>p[i]?) (by simpa[V.ok] using d) s i c u r z)
  | .bJ cs,u,h,d=>by
    simp only[V.dA] at h;cases h with
    |bJ _ p k s=>exact .bJ _ p (by rw[oU] at k;exact k) (λi c u r z=>zA cs (λi=>p[i]?) (by simpa[V.ok] using d) s i c u r z)
  | .fn f cs,u,h,d=>by
    simp only[V.dA] at h;cases h with
    |fn _ _ p k s=>exact .fn _ _ p (by rw[oU] at k;exact k) λi c u r z=>zA cs (λi=>p[i]?) (by simpa[V.ok] using d) s i c u r z
theorem zA{G:Map}{w:World}{X:Nat->Prop}{L:List Nat}: ∀(cs:List V) (a:Nat->Option Value),gg (eN L.length) cs=true->
    (∀i c u,(ij L cs)[i]? =some c->a i=some u->bh G w X c u)-> ∀(i:Nat) c u,cs[i]? =some c->a i=some u->bh (iN L G) w X c u
  | [],_,_,_,_,_,_,h,_=>by simp at h
  |c::cs,a,b,h,0,_,u,d,e=>by
    simp at d;subst d;simp[gg] at b;exact bh.pd c u (h 0 _ u (by simp[ij]) e) b.1
  |c::cs,a,b,h,i+1,k,u,d,e=>by simp at d;simp[gg] at b;exact zA cs (λi=>a (i+1)) b.2 (λi c u l m=>h (i+1) c u (by simpa[ij] using l) m) i k u d e
end
theorem dh.pd{β:Map}{w:World}{X:Nat->Prop}{L:List Nat}: ∀{a:List V} {b:List Value},dh β w X (ij L a) b->gg (eN L.length) a=true->dh (iN L β) w X a b
  | [],[],_,_=>trivial
  |v::a,u::b,h,c=>by
    simp[gg] at c;exact⟨bh.pd v u h.1 c.1,dh.pd h.2 c.2⟩
  | [],_::_,h,_=>h.elim
  |_::_,[],h,_=>h.elim
def eJ:List E->Nat->(Nat->Option E)
  | [],_=>og
  |e::a,k=>aQ (eJ a (k+1)) k (some e)
theorem L4: ∀(a:List E) (k i:Nat),eJ a k (k+i)=a[i]?
  | [],_,_=>by simp[eJ,og]
  |e::a,k,0=>by rw[qO,eJ,bQ];simp
  |e::a,k,i+1=>by rw[eJ,bR _ _ _ _ O,show k+(i+1)=(k+1)+i by omega,L4 a (k+1) i];simp
theorem yw(a:List E)(i:Nat):eJ a 0 i=a[i]? :=by have:=L4 a 0 i;rwa [dn] at this
def lu(X:Nat->Prop)(a:Map)(H:Nat->Option E)(b:Nat):Prop:=X b\/ ∃id,H id≠none/\At a id b
structure y2 (G:eS) (gq:List E) (β:Map) (w:World) (X:Nat->Prop):Prop where
  dB: ∀k,gq.length<=k->β k=none
  dX: ∀k b,gq.length<=k-> ¬β.n k b
  inj: ∀id jI b,At β id b->At β jI b->id=jI
  place: ∀k b,At β k b->b<w.heap.size/\ ¬X b/\G.x0<=b
  heap: ∀k e,gq[k]? =some e->cy β w (lu X β (eJ gq 0)) k e
structure Left (hA β:Map) (gq out:List E) (w w':World) (X:Nat->Prop) (r:V) (u:Value):Prop where
  ext:Ext (λb=> ∃k,At hA k b) w w'
  base:jW gq.length hA β w.heap.size
  iq:Shaped hA w w'
  dB: ∀k,out.length<=k->β k=none
  dX: ∀k b,out.length<=k-> ¬β.n k b
  inj: ∀id jI b,At β id b->At β jI b->id=jI
  fresh: ∀k b,At β k b->((∃b0,b0<gq.length/\At hA b0 b)\/w.heap.size<=b)/\b<w'.heap.size
  heap: ∀k e,out[k]? =some e->cy β w' (lu X β (eJ out 0)) k e
  res:bh β w' (lu X β (eJ out 0)) r u
def Kl(P:Program)(G:eS)(f:FuncId)(c:List E)(args:List V){ι:Type}(k:ι->Prop)(r:ι->V)(d:ι->List E):Prop:=
  ∀(w:World) (X:Nat->Prop) (a:Map) (h:List Value),G.ok w->(∀b,X b->b<w.heap.size)->y2 G c a w X->dh a w (lu X a (eJ c 0)) args h->
    Calls P f h.toArray w λe l=> ∃u i m,e= .returned u/\k i/\Left a m c (d i) w l X (r i) u
def Ctx.dy(P:Program)(G:eS)(w:World)(X:Nat->Prop)(c6:Nat)(hA:Map)(nt:Nat):Ctx:={P,G,w0:=w,X,c6,hA,nt}
def lA(a:List E)(args:List V):S:={t:=s3 args 0,H:=eJ a 0,u:=eN a.length}
theorem Rel.lA{P:Program}{G:eS}{nt:Nat}{a:List E}{U:Map}{args:List V}{c:List Value}(q:G.ok w)(r: ∀b,X b->b<w.heap.size)(d:y2 G a U w X)
    (h:dh U w (lu X U (eJ a 0)) args c) (x:c.length<=nt):
    Rel (Ctx.dy P G w X a.length U nt) U (Lift.lA a args) {tmps:=c.toArray++Array.replicate (nt-c.toArray.size) undef,defers:=[]} w:=by
  have k: ∀id b,At U id b->id<a.length:=by
    rintro id b (⟨g,h⟩|h)
    · apply vt;intro l;rw[d.dB id l] at h;cases h
    · exact vt λl=>d.dX id b l h
  refine {ext:=Ext.refl _ _,nK:=q,nS:= ?_,ia:= ?_,base:=jW.refl _ _ _,iq:=Shaped.refl _ _,low:=λid h=>iB.2 h,dB:= ?_,dX:= ?_,
           qi:=d.inj,inj:=d.inj,fresh:=λid b h=>⟨.inl ⟨id,k id b h,h⟩,(d.place id b h).1⟩,heap:= ?_,cU:= ?_,nt:= ?_,defers:=rfl}
  · rintro b ⟨id,_,h⟩;exact(d.place id b h).2.2
  · intro b p;exact⟨r b p,λ⟨id,_,h⟩=>(d.place id b h).2.1 p⟩
  · intro id hid;apply d.dB;apply Nat.le_of_not_lt;intro k;have m:=iB.2 k;have n:eN a.length id=false:=hid
    grind
  · intro id b hid h;have m:=iB.2 (k id b (.inr h));have n:eN a.length id=false:=hid
    grind
  · intro id e s;have o:a[id]? =some e:=by rw[<-yw];exact s
    refine⟨iB.2 ?_,d.heap id e o⟩
    grind
  · intro i;have m:=D6 args c 0 h i;rw[dn] at m;have n:(c.toArray++Array.replicate (nt-c.toArray.size) undef).getD i undef=c.getD i undef:=by
      simp only[Array.getD_eq_getD_getElem?,List.getD_eq_getElem?_getD,Array.getElem?_append]
      grind
    simp only[n];exact m
  · simp[Ctx.dy];omega
end
section
def kO{a:Type}(f:Nat->a):List Nat->(Nat->a)->(Nat->a)
 | [],_=>f
 |l::L,g=>aQ (kO f L λk=>g (k+1)) l (g 0)
theorem mN{a:Type}{f:Nat->a}: ∀{L:List Nat} {g:Nat->a} {id:Nat},id∉L->kO f L g id=f id
 | [],_,_,_=>rfl
 |l::L,g,id,h=>by simp at h;rw[kO,bR _ _ _ _ h.1];exact mN h.2
theorem nQ{a:Type}{f:Nat->a}: ∀{L:List Nat} {g:Nat->a} {k id:Nat},L.Nodup->L[k]? =some id->kO f L g id=g k
 | [],_,_,_,_,h=>by simp at h
 |l::L,g,0,id,_,h=>by simp at h;subst h;rw[kO,bQ]
 |l::L,g,k+1,id,b,h=>by simp at h b;have c:id≠l:=λe=>b.1 (e▸bC h);rw[kO,bR _ _ _ _ c];exact nQ (g:=λk=>g (k+1)) b.2 h
theorem Ff: ∀{L:List Nat} {i j id:Nat},L.Nodup->L[i]? =some id->L[j]? =some id->i=j
 | [],_,_,_,_,h,_=>by simp at h
 |l::L,0,0,_,_,_,_=>rfl
 |l::L,0,j+1,id,a,h,b=>by simp at h b a;subst h;exact bt (bC b) a.1
 |l::L,i+1,0,id,a,h,b=>by simp at h b a;subst b;exact bt (bC h) a.1
 |l::L,i+1,j+1,id,a,h,b=>by simp at h b a;rw[Ff a.2 h b]
def S.after(s:S)(L:List Nat)(a:List E):S:=
 {t:=s.t,H:=kO s.H L λk=>(a[k]?).map (E.dA L),u:=kO s.u L (λ_=>true)}
def El(K:Ctx)(o:Oper)(s:S){R:Type}(e:R->Prop)(h:R->S):Prop:=
 ∀k a w next Q,Rel K k s a w->(∀i,e i-> ∀b c d,Rel K b (h i) c d->next c d)->o.wp K.P a w next Q
variable {β:Map}{w:World}{X:Nat->Prop}{L:List Nat}{k:Nat}{e:E}{f:FuncId}
theorem cy.pd{id:Nat}(h:cy β w X id (e.dA L))(C:L[k]? =some id)(F:e.ok (eN L.length)=true):cy (iN L β) w X k e:=by
 have l:iN L β k=β id:=by simp[iN,C]
 cases e with
 |cells cs=>
  obtain⟨b,o,ty,a,d,s,D⟩:=h;rw[oU] at s;refine⟨b,o,ty,by rw[l];exact a,d,s,λi c u y Q=>?_⟩;exact bh.pd c u (D i _ u (by rw[FC,y];rfl) Q) (vl F y)
 |arr ty gen G p=>
  refine⟨h.1,?_⟩;rcases h.2 with ⟨a,d⟩|⟨b,o,a,d⟩
  ·exact .inl ⟨by rw[l];exact a,d⟩
  exact .inr ⟨b,o,by rw[l];exact a,d⟩
 |a6 N m gen p P=>
  refine⟨h.1,?_⟩;have H: ∀c,(iN L β).n k c↔β.n id c:=λc=>⟨λ⟨R,a,d⟩=>by rw[C] at a;cases a;exact d,λh=>⟨id,C,h⟩⟩
  rcases h.2 with ⟨a,d,W⟩|⟨b,o,B,a,d,s,D,K,f,g,t⟩
  ·exact .inl ⟨by rw[l];exact a,d,λc y=>W c ((H c).1 y)⟩
  refine .inr ⟨b,o,B,by rw[l];exact a,d,s,D,λi j q x u aH a2 a3=>⟨λv z=>?_,λI=>?_⟩,f,g,λc=>(H c).trans (t c)⟩
  ·have A:=(K i j q x u aH a2 a3).1 (v.dA L) (et.2 ⟨_,z,rfl⟩);exact⟨bh.pd v u A.1 (FF F z),A.2⟩
  refine(K i j q x u aH a2 a3).2 λv z=>?_;obtain⟨⟨S,T,M⟩,A,r⟩:=et.1 z;simp only[Prod.mk.injEq] at r;obtain⟨rfl,rfl,rfl⟩:=r;exact I M A
theorem cy.dA{β':Map}{Q:Nat->Prop}{D:Nat}(h:cy β w X k e)(f:L[k]? =some D)(o: ∀k x,β k=some x->β' (L.getD k 0)=some x)(F: ∀b,Q b->X b)(R: ∀b,β'.n D b↔β.n k b):cy β' w Q D (e.dA L):=by
 have q: ∀x,β k=some x->β' D=some x:=λx G=>by have:=o k x G;rwa [ek,f] at this
 cases e with
 |cells cs=>
  obtain⟨b,r,ty,a,d,s,y⟩:=h;refine⟨b,r,ty,q _ a,d,by rw[oU];exact s,λi c u H g=>?_⟩;obtain⟨t,p,rfl⟩:=zd H;exact((y i t u p g).dA o).mono (Ext.refl _ _) (λb _=>F b) (de.refl _) (Shaped.refl _ _)
 |arr ty gen W z=>
  refine⟨h.1,?_⟩;rcases h.2 with ⟨a,d⟩|⟨b,r,a,d,s,y,p⟩
  ·exact .inl ⟨q _ a,d⟩
  exact .inr ⟨b,r,q _ a,d,s,y,λi j l x u aH a2 a3=>(p i j l x u aH a2 a3).mono (Ext.refl _ _) λb _=>F b⟩
 |a6 U m gen z V=>
  refine⟨h.1,?_⟩;rcases h.2 with ⟨a,d,I⟩|⟨b,r,B,a,d,s,y,p,M,N,P⟩
  ·exact .inl ⟨q _ a,d,λc H=>I c ((R c).1 H)⟩
  refine .inr ⟨b,r,B,q _ a,d,s,y,λi j l x u aH a2 a3=>⟨λv K=>?_,λG=>?_⟩,M,N,λc=>(R c).trans (P c)⟩
  ·obtain⟨⟨Y,cR,S⟩,T,A⟩:=et.1 K;simp only[Prod.mk.injEq] at A;obtain⟨rfl,rfl,rfl⟩:=A;have C:=(p _ _ l x u aH a2 a3).1 S T;exact⟨(C.1.dA o).mono (Ext.refl _ _) (λb _=>F b) (de.refl _) (Shaped.refl _ _),C.2⟩
  exact((p i j l x u aH a2 a3).2 λv K=>G (v.dA L) (et.2 ⟨_,K,rfl⟩)).mono (Ext.refl _ _) (λb _=>F b) λ_ _=>rfl
theorem dh.app{β:Map}{w:World}{X:Nat->Prop}: ∀{c a:List V} {d b:List Value},dh β w X c d->dh β w X a b->dh β w X (c++a) (d++b)
 | [],_,[],_,_,h=>h
 |_::_,_,_::_,_,h,k=>⟨h.1,dh.app h.2 k⟩
 | [],_,_::_,_,h,_=>h.elim
 |_::_,_,[],_,h,_=>h.elim
theorem EN{G:Map}{w:World}{X:Nat->Prop}: ∀{b:List V} {d:List Value},d.length=b.length->(∀(i:Nat) c u,b[i]? =some c->d[i]? =some u->bh G w X c u)->dh G w X b d
 | [],[],_,_=>trivial
 |v::b,u::d,a,h=>⟨h 0 v u rfl rfl,EN (by simpa using a) λi c u e k=>h (i+1) c u (by simpa using e) (by simpa using k)⟩
 | [],_::_,a,_=>by simp at a
 |_::_,[],a,_=>by simp at a
theorem bh.HV{Y:List V}{u:Value}(h:bh β w X (.fn f Y) u): ∃a:Array Value,u= .func (.func f) #[] a/\dh β w X Y a.toList:=by
 cases h with
 |fn _ _ a b h=>exact⟨a,rfl,EN (by simpa using b) λi c u d e=>h i c u d (by simpa using e)⟩
theorem ZJ{K:Ctx}{s:S}{o:Oper}{xs:Array Operand}{RQ:Array TypeId}{gq:List E}{args:List V}{ι:Type}{lK:ι->Prop}{r:ι->V}{F:ι->List E}(HW:Operand)(L news:List Nat)
  (PL:List V) (dY:o.op= .call {callee:= .value HW,args:=xs,argTypes:=RQ}) (afo:s.get HW= .fn f PL)
  (hM:d7 K.P f) (cn: ∀i,o.dst=some i->Nat.blt i K.nt=true) (bI:e8 (xs.toList.map s.get++PL) (ij L args)) (b9:gg (eN L.length) args=true)
  (um:gq.length=L.length) (hH: ∀(k:Nat) (e:E),gq[k]? =some e-> ∃id,L[k]? =some id/\s.H id=some (e.dA L)/\e.ok (eN L.length)=true)
  (U:(L++news).Nodup) (p': ∀id,id∈news->s.u id=false) (Iw: ∀i,(F i).length=(L++news).length)
  (h:Kl K.P K.G f gq args lK r F):El K o s lK (λi=>(s.after (L++news) (F i)).put o.dst ((r i).dA (L++news))):=by
 obtain⟨fn,afj,afk,afl⟩:=hM;intro W a w next Q p l
 have oQ:fn.name≠ "runtime.NumGoroutine" :=by simpa using afk
 have hb':fn.body≠none:=by intro e;simp[e] at afl
 obtain⟨us,ae',IF⟩:=(afo▸p.get HW).HV;have xB:(execOp a.eval o).run K.P w= .ok (.enter f (xs.map a.eval++us)) w:=by
  simp[execOp,dY,resolve,Deferred.ofValue,ae',invoke,callFunc,afj,oQ,hb']
 unfold Oper.wp;rw[xB,Oper.upon_enter];let z:Map:=iN L W;let hJ:Nat->Prop:=λb=>own K W s.H b/\ ¬ ∃k,At z k b;have jc: ∀k g b,z k=some (some b,g)-> ∃id,L[k]? =some id/\W id=some (some b,g):=by
  intro k g b h;cases l:L[k]? with
  |none=>simp[z,iN,l] at h
  |some id=>simp[z,iN,l] at h;exact⟨id,rfl,h⟩
 have X: ∀k b,At z k b-> ∃id,L[k]? =some id/\At W id b:=by
  rintro k b (⟨g,h⟩|⟨id,m,y⟩)
  ·obtain⟨id,m,y⟩:=jc k g b h;exact⟨id,m,.inl ⟨g,y⟩⟩
  exact⟨id,m,.inr y⟩
 have ae1: ∀(k id:Nat),L[k]? =some id->s.H id≠none:=by
  intro k id l;have hlt:k<gq.length:=by rw[um];exact(bM.1 l).1
  obtain⟨D,m,y,_⟩:=hH k _ (bg hlt);rw[l] at m;cases m;rw[y];simp
 have v: ∀k b,At z k b->own K W s.H b:=by
  intro k b h;obtain⟨id,m,y⟩:=X k b h;exact .inr ⟨id,ae1 k id m,y⟩
 have Qw: ∀b,lu hJ z (eJ gq 0) b->own K W s.H b:=by
  rintro b (h|⟨k,_,y⟩)
  ·exact h.1
  exact v k b y
 have H5: ∀k b,At z k b->K.M b\/K.w0.heap.size<=b:=by
  intro k b h;obtain⟨id,m,y⟩:=X k b h;exact(p.fresh id b y).1
 have xC: ∀b,own K W s.H b->b<w.heap.size:=by
  rintro b (I|⟨id,_,aV⟩)
  ·exact lF (p.ia b I).1 p.ext.size
  exact(p.fresh id b aV).2
 have afO:L.Nodup:=(List.nodup_append.1 U).1;have afx:y2 K.G gq z w hJ:=by
  refine⟨?_,?_,?_,?_,?_⟩
  ·intro k l;rw[um] at l;simp[z,iN,List.getElem?_eq_none l]
  ·rintro k b l ⟨id,m,_⟩;rw[um] at l;rw[yC l] at m;cases m
  ·intro k b0 b h h';obtain⟨id,m,y⟩:=X k b h;obtain⟨D,aeN,h2'⟩:=X b0 b h';have he:=p.inj id D b y h2';subst he;have l:=(bM.1 m).1;exact Ff afO m aeN
  ·intro k b B;refine⟨xC b (v k b B),λI=>I.2 ⟨k,B⟩,?_⟩;rcases H5 k b B with A|A
   ·exact p.nS b A
   exact fF p.nK.1 A
  intro k e he;obtain⟨id,m,y,h4⟩:=hH k e he;have hd:=cy.pd (p.heap id _ y).2 m h4;exact hd.mono (Ext.refl _ _) (λb _=>Qw b) (de.refl _) (λ_ h=>h) (Shaped.refl _ _) λ_ _=>rfl
 have ae5:=(dh.pd (((p.nJ xs.toList).app IF).le bI) b9).mono (Ext.refl _ _) (λb _=>Qw b) (de.refl _) (Shaped.refl _ _);have bB:=h w hJ z _ p.BA (λb aV=>xC b aV.1) afx ae5;have he:(List.map a.eval xs.toList++us.toList).toArray=xs.map a.eval++us:=by rw[<-vr,<-Array.toList_append]
 rw[he] at bB;refine bB.mono ?_;rintro e w' ⟨u,i,R,rfl,agu,d⟩;let C:=L++news;let N:Map:=⟨kO W C R,λid b=>(id∉C/\W.n id b)\/ ∃k,C[k]? =some id/\R.n k b⟩
 let s2:=s.after C (F i);have afH: ∀k,k<L.length->C[k]? =L[k]? :=λk l=>iu l;have t: ∀id,id∈C-> ∃k:Nat,C[k]? =some id/\k<(F i).length:=by
  intro id hid;obtain⟨k,l,e⟩:=List.mem_iff_getElem.1 hid;exact⟨k,bM.2 ⟨l,e⟩,by rw[Iw];exact l⟩
 have F1: ∀id,id∉C->N id=W id:=λid h=>mN h;have y1: ∀k id,C[k]? =some id->N id=R k:=λk id h=>nQ U h;have JZ: ∀k id,k<L.length->C[k]? =some id->(R k=W id)\/ ∃q g u7 k',W id=some (q,g)/\1<=g/\R k=some (u7,k')/\g<k'/\ ∀b,u7=some b->q=some b\/w.heap.size<=b:=by
  intro k id l h;have aV:=d.base k (by rw[um];exact l);rw[afH k l] at h;have e:z k=W id:=by simp[z,iN,h]
  rw[e] at aV;exact aV
 have Qr: ∀k id,L.length<=k->C[k]? =some id->id∈news:=by
  intro k id l h;rw[hi l] at h;exact bC h
 have J0:de W N:=by
  intro id q g I;by_cases hid:id∈C
  ·obtain⟨k,l,_⟩:=t id hid;by_cases Y:k<L.length
   ·rw[y1 k id l];rcases JZ k id Y l with e|⟨lz,g1,u7,k',aH,a2,a3,a4,_⟩
    ·exact .inl (e.trans I)
    rw[I] at aH;cases aH;exact .inr ⟨a2,u7,k',a3,a4⟩
   have:=p.dB id (p' id (Qr k id O l));rw[this] at I;cases I
  exact .inl (by rw[F1 id hid];exact I)
 have aeY: ∀k id,C[k]? =some id->s2.H id=((F i)[k]?).map (E.dA C):=λk id h=>nQ U h;have P8: ∀id,id∉C->s2.H id=s.H id:=λid h=>mN h;have Qv: ∀id b,id∉C->At W id b-> ¬ ∃k,At z k b:=by
  rintro id b hid aV ⟨k,h⟩;obtain⟨D,m,y⟩:=X k b h
  have:=p.inj id D b aV y;subst this;exact hid (lD _ (bC m))
 have BD: ∀id b,At N id b->(id∉C/\At W id b)\/ ∃k,C[k]? =some id/\At R k b:=by
  rintro id b (⟨g,h⟩|⟨m,y⟩|⟨k,m,y⟩)
  ·by_cases hid:id∈C
   ·obtain⟨k,l,_⟩:=t id hid;rw[y1 k id l] at h;exact .inr ⟨k,l,.inl ⟨g,h⟩⟩
   rw[F1 id hid] at h;exact .inl ⟨hid,.inl ⟨g,h⟩⟩
  ·exact .inl ⟨m,.inr y⟩
  exact .inr ⟨k,m,.inr y⟩
 have hO: ∀b,own K N s2.H b->lu hJ R (eJ (F i) 0) b:=by
  rintro b (I|⟨id,m,y⟩)
  ·refine .inl ⟨.inl I,?_⟩;rintro⟨k,B⟩;rcases H5 k b B with A|A
   ·exact(p.ia b I).2 A
   have:=(p.ia b I).1;omega
  rcases BD id b y with ⟨hid,h2'⟩|⟨k,l,B⟩
  ·rw[P8 id hid] at m;exact .inl ⟨.inr ⟨id,m,h2'⟩,Qv id b hid h2'⟩
  have Y:k<(F i).length:=by rw[Iw];exact(bM.1 l).1
  refine .inr ⟨k,?_,B⟩;rw[yw,bg Y];simp
 have ah7: ∀k b,At R k b->k<(F i).length:=by
  rintro k b (⟨g,h⟩|h)
  ·apply vt;intro hle;rw[d.dB k hle] at h;cases h
  exact vt λhle=>d.dX k b hle h
 have P': ∀b,b<w.heap.size->own K N s2.H b->own K W s.H b:=by
  intro b Qd aV;rcases hO b aV with m|⟨k,_,B⟩
  ·exact m.1
  rcases(d.fresh k b B).1 with ⟨b0,_,A⟩|A
  ·exact v b0 b A
  omega
 have P6:Ext (own K W s.H) w w':=d.ext.weaken λb _ ⟨k,B⟩=>v k b B;have Qc:Shaped W w w':=λb aV=>d.iq b aV;have QA: ∀k x,R k=some x->N (C.getD k 0)=some x:=by
  intro k x I;have hlt:k<(F i).length:=by
   apply vt;intro hle;rw[d.dB k hle] at I;cases I
  rw[Iw] at hlt;have bE:C[k]? =some C[k]:=bg hlt;rw[ek,bE];exact(y1 k _ bE).trans I
 have hold: ∀k b,At R k b->(∃id,id∈C/\At W id b)\/w.heap.size<=b:=by
  intro k b aV;rcases(d.fresh k b aV).1 with ⟨b0,A,h4⟩|A
  ·obtain⟨D,e1,e2⟩:=X b0 b h4;exact .inl ⟨D,lD _ (bC e1),e2⟩
  exact .inr A
 have hrel:Rel K N s2 a w':=by
  refine {p with ext:= ?_,base:= ?_,iq:= ?_,low:= ?_,dB:= ?_,dX:= ?_,inj:= ?_,fresh:= ?_,heap:= ?_,cU:= ?_}
  ·refine p.ext.trans' (d.ext.weaken ?_);rintro b _ ⟨k,B⟩ ⟨m,y⟩;rcases H5 k b B with A|A
   ·exact y A
   omega
  ·refine p.base.more λid hid=>?_;by_cases T:id∈C
   ·obtain⟨k,l,_⟩:=t id T;by_cases Y:k<L.length
    ·rw[y1 k id l];rcases JZ k id Y l with e|⟨q,g,u7,k',aH,a2,a3,a4,a5⟩
     ·exact .inl e
     exact .inr ⟨q,g,u7,k',aH,a2,a3,a4,λb aV=>by
      rcases a5 b aV with c|c
      ·exact .inl c
      exact .inr (fF p.ext.size c)⟩
    have m:=p' id (Qr k id O l);rw[p.low id hid] at m;cases m
   exact .inl (F1 id T)
  ·intro b A;exact(d.iq b (lF A p.ext.size)).trans (p.iq b A)
  ·intro id hid;by_cases T:id∈C
   ·obtain⟨k,l,_⟩:=t id T;exact nQ (f:=s.u) (g:=λ_=>true) U l
   exact(mN T).trans (p.low id hid)
  ·intro id hid;by_cases T:id∈C
   ·obtain⟨k,l,_⟩:=t id T
    have:s2.u id=true:=nQ (f:=s.u) (g:=λ_=>true) U l;rw[this] at hid;cases hid
   rw[F1 id T];exact p.dB id ((mN (f:=s.u) (g:=λ_=>true) T).symm.trans hid)
  ·rintro id b hid (⟨m,y⟩|⟨k,l,y⟩)
   ·exact p.dX id b ((mN (f:=s.u) (g:=λ_=>true) m).symm.trans hid) y
   have:s2.u id=true:=nQ (f:=s.u) (g:=λ_=>true) U l;rw[this] at hid;cases hid
  ·intro id D b m y;rcases BD id b m with ⟨m1,aH⟩|⟨k,l,aH⟩<;>rcases BD D b y with ⟨m2,a2⟩|⟨b0,oO,a2⟩
   ·exact p.inj id D b aH a2
   ·rcases hold b0 b a2 with ⟨xH,A,h4⟩|A
    ·have:=p.inj id xH b aH h4;subst this;exact bt A m1
    have:=(p.fresh id b aH).2;omega
   ·rcases hold k b aH with ⟨xH,A,h4⟩|A
    ·have:=p.inj D xH b a2 h4;subst this;exact bt A m2
    have:=(p.fresh D b a2).2;omega
   have:=d.inj k b0 b aH a2;subst this;rw[l] at oO;cases oO;rfl
  ·intro id b m;rcases BD id b m with ⟨_,aH⟩|⟨k,l,aH⟩
   ·exact⟨(p.fresh id b aH).1,lF (p.fresh id b aH).2 d.ext.size⟩
   refine⟨?_,(d.fresh k b aH).2⟩;rcases hold k b aH with ⟨xH,_,A⟩|A
   ·exact(p.fresh xH b A).1
   exact .inr (fF p.ext.size A)
  ·intro id e he;by_cases T:id∈C
   ·obtain⟨k,l,Y⟩:=t id T;refine⟨nQ (f:=s.u) (g:=λ_=>true) U l,?_⟩;rw[aeY k id l,bg Y] at he;simp at he;subst he;exact cy.dA (d.heap k _ (bg Y)) l QA hO (λb=>⟨λh=>by
     rcases h with ⟨m,_⟩|⟨b0,m,y⟩
     ·exact bt T m
     have:=Ff U m l;subst this;exact y,λh=> .inr ⟨k,l,h⟩⟩)
   rw[P8 id T] at he;obtain⟨m,y⟩:=p.heap id e he;refine⟨(mN (f:=s.u) (g:=λ_=>true) T).trans m,?_⟩;exact y.mono P6 P' J0 (λx I=>by rw[F1 id T];exact I) Qc (λb aV=>d.ext.keep b (p.fresh id b aV).2 (Qv id b T aV)) (λb=>⟨λh=>by
    rcases h with ⟨_,h⟩|⟨b0,m,_⟩
    ·exact h
    exact bt (bC m) T,λh=> .inl ⟨T,h⟩⟩)
  intro j;exact(p.cU j).mono P6 P' J0 Qc
 exact l i agu N _ w' (hrel.put o.dst cn ((d.res.dA QA).mono (Ext.refl _ _) (λb _=>hO b) (de.refl _) (Shaped.refl _ _)))
end
section
variable {K:Ctx}{s:S}{d:Option Tmp}{ty:TypeId}{pos:String}{af:Array Edge}{g:Option (Nat×Bool)}{f:FuncId}{xs:Array Operand}{RQ:Array TypeId}{args:List V}{ι:Type}{lK:ι->Prop}{r:ι->V}{out:ι->List E}
theorem El.j{o:Oper}{u:Unit->Prop}{b:Unit->S}(h:El K o s u b):dL K o s (b ()):=
 λβ a w next Q c e=>h β a w next Q c λ_ _=>e
variable {ops:Array Oper}{rest:List Oper}{Q:S->Prop}{op:Op}
end
section
variable {P:Program}{H:Nat->Option E}{d:Option Tmp}{ty:TypeId}{pos:String}{af:Array Edge}{g:Option (Nat×Bool)}
theorem aa6(n:Int):IntKind.u8.wrap n=((UInt8.ofInt n).toNat:Int):=by
 have:IntKind.u8.wrap n=n%256:=by simp[IntKind.wrap,IntKind.bits,IntKind.signed]
 rw[this];simp[UInt8.ofInt];omega
theorem VO(x:Operand)(c k e:TypeId)(l:List UInt8)(B:P.underlying c=some (.slice e))(C:P.underlying e=some (.int .u8))(D:P.underlying k=some .string):
  b5 P H ⟨d,.convert c k x,ty,pos,af,g⟩ [R4 (l.map qR)] (cG l):=by
 intro I w X F _ M;refine⟨.string ⟨l.toArray⟩,?_,.t _ _ (.str l)⟩;have Q:bh I w X (R4 (l.map qR)) (F x):=M.1;simp only[execOp];suffices (convert c k (F x)).run P w= .ok (.string ⟨l.toArray⟩) w by
  simp only[Sem.run_bind,this,Result.andThen_ok,Sem.run_pure]
 generalize F x=y at Q⊢;cases Q with
 |t _ _ h=>
  generalize R:l.map qR=W at h;cases h with
  |fB a m=>
   have p:l=[]:=by simpa using R
   subst p;rw[run_convert_bytes_string w c k e _ _ _ B C D];cases a with
   |none=>simp[Conv.bytesToString];rfl
   |some a=>
    rw[run_bytesToString w a 0 m [] (by simp[loadCells,loadCellsFrom,Sem.run_pure])];rfl
  |ay _ b n r m f T U j G N K=>
   subst R;cases p:l with
   |nil=>
    subst p
    have:=run_convert_bytes_arg (P:=P) w c e B C b n 0 m [] rfl (λi u=>O) k D;exact this
   |cons y V=>
    rw[<-p];have o:r=1:=by
     have:=G (qR y) (by rw[p];simp);simpa using this.symm
    subst o;have S: ∀(i:Nat) (z:UInt8),l[i]? =some z->f i 0= .int .u8 (z.toNat:Int):=by
     intro i z s;have v:=K i 0 (qR z) (.int .u8 (z.toNat:Nat)) (by rw[er,s];rfl) rfl;generalize f i 0=q at v⊢;cases v;rfl
    have:=run_convert_bytes_arg (P:=P) w c e B C b n (l.map qR).length m (l.map λz=>(z.toNat:Int)) a1 (λi u=>by
     have A:i<l.length:=by simpa using u
     have s:l[i]? =some l[i]:=bg A;have L:=N i 0 (by simpa using A) O;rw[S i _ s] at L;rw[show n+i*1+0=n+i by omega] at L;rw[L];simp[List.getD_eq_getElem?_getD,s]) k D
    rw[this];congr 2;simp only[strOfNums,List.map_map];congr 2;apply List.ext_getElem?;intro i;rw[er];cases s:l[i]? with
    |none=>rfl
    |some z=>simp
end
section
variable {K:Ctx}{s:S}{d:Option Tmp}{ty:TypeId}{pos:String}{af:Array Edge}{g:Option (Nat×Bool)}
variable {t:TypeId}{u:TypeDesc}{z:Value}{size bytes:Nat}
theorem ZP(k:Nat)(q:s.u k=false)(e:TypeId)(r: ∀i,d=some i->Nat.blt i K.nt=true)(y:K.P.underlying t=some (.slice e))(A:b4 K.P e u z size bytes):
  dL K ⟨d,.buildSlice t 0 #[],ty,pos,af,g⟩ s ((s.new k (.arr e 1 size [])).put d (.a7 k 1 size 0 0)):=by
 intro o a w next Q B l
 have b:(execOp a.eval ⟨d,.buildSlice t 0 #[],ty,pos,af,g⟩).run K.P w= .ok (.value (.slice (some ⟨w.heap.size,0,none⟩) 0 0)) (w.alloc (.cells #[] e)):=by
  simp only[execOp,Instr.buildSlice,Sem.run_bind,run_underlying y,Result.andThen_ok,A.run_sizeOf,Nat.zero_mul,show¬(0>2^24) by decide,if_false,if_true];simp only[Instr.fill,Sem.run_bind,Sem.run_pure,Result.andThen_ok,show Array.range 0= #[] from by simp[Array.range],List.map_toArray,List.map_nil];rfl
 unfold Oper.wp;rw[b];have c:=B.new k 1 q #[] e (.arr e 1 size []) λC R W D F G=>⟨cD _,Or.inr ⟨w.heap.size,_,F,by subst D;exact iZ _ _,a1,λ_ h=>by simp at h,λi j L x u h=>by simp at h⟩⟩
 have m:(w.alloc (.cells #[] e)).heap.size=w.heap.size+1:=World.size_alloc ..;have n:(w.alloc (.cells #[] e)).shape? w.heap.size=some (e,0):=by unfold World.shape?;rw[iZ];simp
 have p:bh (o.put k (some (some w.heap.size,1))) (w.alloc (.cells #[] e)) (own K (o.put k (some (some w.heap.size,1))) (s.new k (.arr e 1 size [])).H) (.a7 k 1 size 0 0)
   (.slice (some ⟨w.heap.size,0*size,none⟩) 0 0):= .a7 k 1 size 0 0 0 w.heap.size 0 e (cD _) (bQ _ _ _) (m▸ob _) n a1 (cD _) (by unfold maxLen;omega)
 rw[fT] at p;exact l _ _ _ (c.put d r p)
end
def Hj:Option TypeDesc->Bool
 |some (.int .i64)=>true
 |_=>false
theorem aaG{o:Option TypeDesc}(h:Hj o=true):o=some (.int .i64):=by
 unfold Hj at h
 grind
def vb(P:Program):List Field->Nat->Bool
 | [],_=>true
 |f::a,i=>f.name != "_" &&Hj (P.underlying f.type)&&Nat.beq f.offset i&&vb P a (i+1)
theorem Je{P:Program}{w:World}{xs ys:Array Value}: ∀(a:List Field) (i:Nat) (ms b:List Int),vb P a i=true->ms.length=a.length->b.length=a.length->
  (∀(j:Nat) m,ms[j]? =some m->xs[i+j]? =some (.int .i64 m))->(∀(j:Nat) m,b[j]? =some m->ys[i+j]? =some (.int .i64 m))->
  (Op.eqFields 9999 xs ys a).run P w= .ok (decide (ms=b)) w
 | [],i,ms,b,_,c,e,_,_=>by
  have A:ms=[]:=by simpa using c
  have B:b=[]:=by simpa using e
  subst A;subst B;simp[Op.eqFields]
 |f::a,i,[],b,_,c,_,_,_=>by simp at c
 |f::a,i,m::ms,[],_,_,e,_,_=>by simp at e
 |f::a,i,m::ms,n::b,s,c,e,x,y=>by
  simp only[vb,Bool.and_eq_true] at s;obtain⟨⟨⟨C,k⟩,dY⟩,D⟩:=s;have k:=aaG k;have dY:=cH dY;have l:f.name≠ "_" :=by simpa using C
  have z: ∀(cs:Array Value) (v:Value),cs[i]? =some v->(part f.type cs f.offset).run P w= .ok v w:=by
   intro cs v F;rw[dY];simp[part,isAgg,run_underlying k,F]
  have o:=x 0 m rfl;have p:=y 0 n rfl;have G:=Je (P:=P) (w:=w) a (i+1) ms b D (by simpa using c) (by simpa using e)
   (λj q r=>by rw[show i+1+j=i+(j+1) by omega];exact x (j+1) q (by simpa using r))
   λj q r=>by rw[show i+1+j=i+(j+1) by omega];exact y (j+1) q (by simpa using r)
  simp only[Op.eqFields,l,ne_eq,not_false_eq_true,if_true,Sem.run_bind,z xs _ o,z ys _ p,Result.andThen_ok,run_equalIn_int w 9998 f.type .i64 .i64 m n k];by_cases h:m=n
  ·subst h;simp[G]
  simp[h]
section
variable {P:Program}{H:Nat->Option E}{d:Option Tmp}{ty:TypeId}{pos:String}{af:Array Edge}{g:Option (Nat×Bool)}
theorem Ap{G:Map}{w:World}{X:Nat->Prop}{e:List Int}{u:Value}(h:bh G w X (.agg (e.map Y)) u): ∃a:Array Value,u= .agg a/\ ∀(j:Nat) m,e[j]? =some m->a[j]? =some (.int .i64 m):=by
 cases h with
 |agg _ a l n=>
  refine⟨a,rfl,λj m c=>?_⟩;have b:j<a.size:=by
   rw[l,dj];exact(bM.1 c).1
  have i:a[j]? =some a[j]:=gY b;have k:=n j (Y m) _ (by rw[er,c];rfl) i;rw[i];generalize a[j]=q at k;cases k with|t _ _ h=>cases h;rfl
theorem WC(x y:Operand)(t q:TypeId)(a b:List Int)(r:P.underlying t=some (.struct (P.fieldsOf t)))(s:P.stoodInHeld t=false)(z:P.eqGuardType P.depth t=false)
  (A:vb P (P.fieldsOf t).toList 0=true) (c:Nat.beq a.length (P.fieldsOf t).size=true) (e:Nat.beq b.length (P.fieldsOf t).size=true):
  b5 P H ⟨d,.binOp .neq t x y q,ty,pos,af,g⟩ [.agg (a.map Y),.agg (b.map Y)] (aM (!decide (a=b))):=by
 intro C w X o _ p;obtain⟨h,i,ez⟩:=Ap p.1;obtain⟨k,l,cv⟩:=Ap p.2.1;refine⟨.bool (!decide (a=b)),?_,.t _ _ (.bool _)⟩;have c:=cH c;have e:=cH e;have B:=Je (P:=P) (w:=w) (xs:=h) (ys:=k) (P.fieldsOf t).toList 0 a b A (by simpa using c) (by simpa using e) (λj m n=>by simpa using ez j m n) λj m n=>by simpa using cv j m n
 have i:o x=_:=i;have l:o y=_:=l;simp only[execOp,i,l,Sem.run_bind,run_eqGuard_agg w .neq t x y h k z,Result.andThen_ok,run_neq_struct,run_equalIn_struct w 9999 t h k r s,B,Sem.run_pure]
theorem WK(x y:Operand)(t q:TypeId)(a b:List Int)(r:P.underlying t=some (.struct (P.fieldsOf t)))(s:P.stoodInHeld t=false)(z:P.eqGuardType P.depth t=false)
  (A:vb P (P.fieldsOf t).toList 0=true) (c:Nat.beq a.length (P.fieldsOf t).size=true) (e:Nat.beq b.length (P.fieldsOf t).size=true):
  b5 P H ⟨d,.binOp .eql t x y q,ty,pos,af,g⟩ [.agg (a.map Y),.agg (b.map Y)] (aM (decide (a=b))):=by
 intro C w X o _ p;obtain⟨h,i,ez⟩:=Ap p.1;obtain⟨k,l,cv⟩:=Ap p.2.1;refine⟨.bool (decide (a=b)),?_,.t _ _ (.bool _)⟩;have c:=cH c;have e:=cH e;have B:=Je (P:=P) (w:=w) (xs:=h) (ys:=k) (P.fieldsOf t).toList 0 a b A (by simpa using c) (by simpa using e) (λj m n=>by simpa using ez j m n) λj m n=>by simpa using cv j m n
 have i:o x=_:=i;have l:o y=_:=l;simp only[execOp,i,l,Sem.run_bind,run_eqGuard_agg w .eql t x y h k z,Result.andThen_ok,run_eql_struct,run_equalIn_struct w 9999 t h k r s,B,Sem.run_pure]
end
def zD(P:Program)(t:TypeId)(n:Nat):Prop:=P.underlying t=some (.struct (P.fieldsOf t))/\P.stoodInHeld t=false/\P.eqGuardType P.depth t=false/\vb P (P.fieldsOf t).toList 0=true/\(P.fieldsOf t).size=n
section
variable {P:Program}{H:Nat->Option E}{d:Option Tmp}{ty:TypeId}{pos:String}{af:Array Edge}{g:Option (Nat×Bool)}
theorem ZM(x y:Operand)(t l:TypeId){n:Nat}(i k:List Int)(h:zD P t n)(m:Nat.beq i.length n=true)(o:Nat.beq k.length n=true):
  b5 P H ⟨d,.binOp .neq t x y l,ty,pos,af,g⟩ [.agg (i.map Y),.agg (k.map Y)] (aM (!decide (i=k))):=by obtain⟨a,b,c,e,f⟩:=h;exact WC x y t l i k a b c e (by rw[f];exact m) (by rw[f];exact o)
theorem Zd(x y:Operand)(t l:TypeId){n:Nat}(i k:List Int)(h:zD P t n)(m:Nat.beq i.length n=true)(o:Nat.beq k.length n=true):
  b5 P H ⟨d,.binOp .eql t x y l,ty,pos,af,g⟩ [.agg (i.map Y),.agg (k.map Y)] (aM (decide (i=k))):=by obtain⟨a,b,c,e,f⟩:=h;exact WK x y t l i k a b c e (by rw[f];exact m) (by rw[f];exact o)
end
inductive Ev where
 |bool
 |int (k:IntKind)
 |string
 |slice (e:Nat)
 |array (n e:Nat)
 |struct (ajp:List (Nat×Nat))
 |QI
 |other
structure b6 where
 u:Ev
 z:Value
 size:Nat
 bytes:Nat
 places:Array (Nat×Nat)
def Ev.agg:Ev->Bool
 | .struct _=>true
 | .array _ _=>true
 |_=>false
def b6.is(P:Program)(i:b6)(u:TypeDesc):Prop:=match i.u with
 | .bool=>u= .bool
 | .int k=>u= .int k
 | .string=>u= .string
 | .slice e=>u= .slice e
 | .array n e=>u= .array n e
 | .struct l=> ∃a,u= .struct a/\a.toList.map (λf=>(f.type,f.offset))=l/\ ∀w,(a.mapM (m:=Sem) λf:Field=>do pure (f.offset,<-sizeOf f.type)).run P w= .ok i.places w
 | .QI=> ∃m,u= .interface m
 | .other=>j2 u=false
def b6.ok(P:Program)(t:TypeId)(i:b6):Prop:= ∃u,b4 P t u i.z i.size i.bytes/\i.is P u
variable {P:Program}{t:TypeId}{i:b6}{a R c:Type}{x:a}{r:List R}{b n:Int}{l:List a}
theorem b6.ok.agg(h:i.ok P t): ∃u,b4 P t u i.z i.size i.bytes/\j2 u=i.u.agg:=by
 obtain⟨u,d,b⟩:=h;refine⟨u,d,?_⟩;unfold b6.is at b;split at b
 ·rename_i a;rw[a,b];rfl
 ·rename_i a;rw[a,b];rfl
 ·rename_i a;rw[a,b];rfl
 ·rename_i a;rw[a,b];rfl
 ·rename_i a;rw[a,b];rfl
 ·rename_i a;rw[a];obtain⟨e,c,_⟩:=b;rw[c];rfl
 ·rename_i a;rw[a];obtain⟨m,c⟩:=b;rw[c];rfl
 rename_i a;rw[a,b];rfl
theorem b6.ok.hU(h:i.ok P t):(i.u= .bool->P.underlying t=some .bool)/\(∀k,i.u= .int k->P.underlying t=some (.int k))/\(i.u= .string->P.underlying t=some .string)/\
  ∀e,i.u= .slice e->P.underlying t=some (.slice e):=by obtain⟨u,c,b⟩:=h;refine⟨λa=>?_,λk a=>?_,λa=>?_,λe a=>?_⟩<;>simp only[b6.is,a] at b<;>rw[<-b]<;>exact c.1
theorem b6.ok.st{l:List (Nat×Nat)}(h:i.ok P t)(b:i.u= .struct l): ∃a,b4 P t (.struct a) i.z i.size i.bytes/\a.toList.map (λf=>(f.type,f.offset))=l/\ ∀w,(a.mapM (m:=Sem) λf:Field=>do pure (f.offset,<-sizeOf f.type)).run P w= .ok i.places w:=by
 obtain⟨u,d,c⟩:=h;simp only[b6.is,b] at c
 grind
def dm:List (Nat×b6)->Nat->Option b6
 | [],_=>none
 |(t,i)::l,k=>bif Nat.beq t k then some i else dm l k
def dM(P:Program)(a:List (Nat×b6)):Prop:= ∀t i,dm a t=some i->i.ok P t
theorem dM.nil:dM P []:=λ_ _ h=>by cases h
theorem dM.cons{a:List (Nat×b6)}{t:Nat}(h:i.ok P t)(d:dM P a):dM P ((t,i)::a):=by
 intro k j b;simp only[dm] at b;cases c:Nat.beq t k with
 |true=>rw[c] at b;cases b;rw[<-cH c];exact h
 |false=>rw[c] at b;exact d k j b
inductive ch where
 |row (r:List T)
 |rows (r:List (List T))
 |str (s:List UInt8)
 |int (n:Int)
 |nat (n:Nat)
 |b (w:Bool)
 |y (b:UInt8)
 |v (v:V)
 |iG (slot k:Nat)
 |rO (cU:List Nat) (k:Nat)
 |grow (slot k:Nat) (e:TypeId)
 |o2 (k:Nat)
 |Bx (b j k:Nat)
 |eU (b j k:Nat) (e:TypeId)
 |ahH (i k g:Nat)
 |ahG (b j k g:Nat)
 |len (slot n:Nat)
 |ff (b j n:Nat)
 |rN (k:Nat) (cU:List Nat)
 |bu (k:Nat) (cU blocks:List Nat)
 |dR (k b0:Nat) (cU blocks:List Nat)
 |at (rem:Nat)
 |dA (slot k b0:Nat)
 |dy (L news:List Nat) (r:V) (out:List E)
 |ee (k:Nat) (fN:List dG) (m:Nat)
 |ed (k:Nat)
 |eb (k b0 i j:Nat) (row:List T)
 |dD (k b0:Nat) (row:List T) (R:List (List T))
 |lt (k:Nat) (fN:List dG) (m:Nat)
 |PZ (k i j:Nat) (row:List T)
 |Dg (k:Nat) (row:List T) (R:List (List T))
 |P0 (i j k:Nat) (e:TypeId)
 |cut (k n:Nat) (R:List (List T))
inductive df where
 |p (p:Prop)
 |q (a b:Nat)
def cc:List df->Prop
 | []=>True
 | .p p::l=>p/\cc l
 | .q a b::l=>a=b/\cc l
def x':List df->Prop
 | []=>True
 | .p p::l=>p/\x' l
 | .q _ _::l=>x' l
def u1:List df->List Nat
 | []=>[]
 | .p _::l=>u1 l
 | .q a _::l=>a::u1 l
def u2:List df->List Nat
 | []=>[]
 | .p _::l=>u2 l
 | .q _ b::l=>b::u2 l
theorem cc.of: ∀{l:List df},x' l->u1 l=u2 l->cc l
 | [],_,_=>trivial
 | .p _::_,h,k=>⟨h.1,cc.of h.2 k⟩
 | .q _ _::_,h,k=>by simp only[u1,u2,List.cons.injEq] at k;exact⟨k.1,cc.of h k.2⟩
theorem cc.app: ∀{l m:List df},cc (l++m)->cc l/\cc m
 | [],_,h=>⟨trivial,h⟩
 | .p _::_,_,h=>⟨⟨h.1,(cc.app h.2).1⟩,(cc.app h.2).2⟩
 | .q _ _::_,_,h=>⟨⟨h.1,(cc.app h.2).1⟩,(cc.app h.2).2⟩
def av{a:Type}(l:List a)(i:Int):Option a:=if 0<=i then l[i.toNat]? else none
def sub{R:Type}(l:List R)(a b:Int):Option (List R):=if 0<=a/\a<=b/\b<=l.length then some ((l.take b.toNat).drop a.toNat) else none
def cat(a b:List UInt8):Option (List UInt8):=if(a.length:Int)+b.length<=9223372036854775807 then some (a++b) else none
def app{R:Type}(a b:List R):Option (List R):=if a.length+b.length<=1000000000 then some (a++b) else none
def mk{a:Type}(n:Int)(x:a):Option (List a):=if 0<=n/\n<=1000000000 then some (List.replicate n.toNat x) else none
def ca{a:Type}(l:List a)(i:Int)(x:a):Option (List a):=if 0<=i/\i<l.length then some (l.set i.toNat x) else none
def wr(n:Int):Int:=IntKind.i64.wrap n
theorem l9{i:Int}(h:av l i=some x):0<=i/\l[i.toNat]? =some x:=by
 unfold av at h
 grind
theorem OD{i:Int}(f:a->R)(h:av l i=some x):av (l.map f) i=some (f x):=by
 obtain⟨b,c⟩:=l9 h;unfold av
 grind
theorem Ab{l:List R}{a:Int}(h:sub l a b=some r):0<=a/\a<=b/\b<=l.length/\r=(l.take b.toNat).drop a.toNat:=by
 unfold sub at h
 grind
theorem o6{l:List R}{a:Int}(f:R->c)(h:sub l a b=some r):sub (l.map f) a b=some (r.map f):=by obtain⟨d,e,i,rfl⟩:=Ab h;unfold sub;rw[aW ⟨d,e,by simpa using i⟩,List.map_drop,sN]
theorem vO{a b:List R}(h:app a b=some r):a.length+b.length<=1000000000/\r=a++b:=by
 unfold app at h
 grind
theorem b8{a b:List R}(f:R->c)(h:app a b=some r):app (a.map f) (b.map f)=some (r.map f):=by
 obtain⟨d,rfl⟩:=vO h;unfold app
 grind
theorem jG{r:List a}(h:mk n x=some r):0<=n/\n<=1000000000/\r=List.replicate n.toNat x:=by
 unfold mk at h
 grind
theorem ly{r:List a}(f:a->R)(h:mk n x=some r):mk n (f x)=some (r.map f):=by obtain⟨b,c,rfl⟩:=jG h;unfold mk;rw[aW ⟨b,c⟩,List.map_replicate]
theorem sj{r:List a}{i:Int}(h:ca l i x=some r):0<=i/\i<l.length/\r=l.set i.toNat x:=by
 unfold ca at h
 grind
theorem aar{a b r:List UInt8}(h:cat a b=some r):(a.length:Int)+b.length<=9223372036854775807/\r=a++b:=by
 unfold cat at h
 grind
mutual
def mY:V->V
 | .t .e5=> .t (.ay [])
 | .agg cs=> .agg (gu cs)
 | .bJ cs=> .bJ (gu cs)
 | .t (.ay r)=> .t (.ay r)
 | .t (.int k n)=> .t (.int k n)
 | .t (.bool b)=> .t (.bool b)
 | .t (.str s)=> .t (.str s)
 |v=>v
def gu:List V->List V
 | []=>[]
 |c::cs=>mY c::gu cs
end
mutual
theorem tm: ∀v:V,dq v (mY v)
 | .t .e5=>dq.nil
 | .t (.ay _)| .t (.int _ _)| .t (.bool _)| .t (.str _)| .t .gF| .t .gh| .t .mX| .t .err=>dq.refl _
 | .agg cs=>dq.agg (lx cs)
 | .bJ cs=>dq.bJ (lx cs)
 | .ref _ _| .aK _| .a7 _ _ _ _ _| .ct _ _ _ _ _| .fn _ _| .cX=>dq.refl _
theorem lx: ∀cs:List V,e8 cs (gu cs)
 | []=>trivial
 |c::cs=>⟨tm c,lx cs⟩
end
theorem sf: ∀cs:List V,(gu cs).length=cs.length
 | []=>rfl
 |c::cs=>by simp[gu,sf cs]
def tS(k:Option Nat):List V->List V
 | [.t .e5]=>match k with
  |some _=>[.t .e5]
  |none=>gu [.t .e5]
 |vs=>gu vs
theorem abJ(k:Option Nat)(a:List V):e8 a (tS k a):=by
 unfold tS;split
 ·split
  ·exact e8.refl _
  exact lx _
 exact lx _
theorem VF(k:Option Nat)(a:List V):(tS k a).length=a.length:=by
 unfold tS;split
 ·split
  ·rfl
  exact sf _
 exact sf _
def yA:V->Option T
 | .t x=>some x
 |_=>none
def k3:List V->Option (List T)
 | []=>some []
 |v::a=>match yA v,k3 a with
  |some x,some b=>some (x::b)
  |_,_=>none
theorem nV: ∀{a:List V} {b:List T},k3 a=some b->a=b.map .t
 | [],_,h=>by cases h;rfl
 |v::a,b,h=>by
  simp only[k3] at h;split at h
  ·rename_i x e d c;cases h;have c:=nV c;cases v<;>simp[yA] at d;subst d;subst c;rfl
  cases h
def wS:List V->Option (List Int)
 | []=>some []
 | .t (.int .i64 m)::a=>match wS a with
  |some ms=>some (m::ms)
  |none=>none
 |_=>none
theorem yQ: ∀{a:List V} {ms:List Int},wS a=some ms->a=ms.map Y
 | [],_,h=>by cases h;rfl
 |v::a,ms,h=>by
  unfold wS at h;split at h
  ·rename_i b;cases b
  ·rename_i m c b;cases b;split at h
   ·rename_i d e;cases h;rw[yQ e];rfl
   cases h
  cases h
abbrev ha:=Option (V×List df×List ch)
def Pm(a:BinOp)(m n:Int):Option Bool:=
 match a with
 | .eql=>some (decide (m=n))
 | .neq=>some (!decide (m=n))
 | .lss=>some (decide (m<n))
 | .leq=>some (decide (m<=n))
 | .gtr=>some (decide (n<m))
 | .geq=>some (decide (n<=m))
 |_=>none
def OX(a:BinOp):Bool:=
 match a with
 | .and| .or| .xor| .andNot=>true
 |_=>false
def Hb(op:BinOp)(k:IntKind)(m n:Int)(a:List ch):ha:=
 match op with
 | .add=>some (.t (.int k (k.wrap (m+n))),[],a)
 | .sub=>some (.t (.int k (k.wrap (m-n))),[],a)
 | .mul=>some (.t (.int k (k.wrap (m*n))),[],a)
 | .quo=>some (.t (.int k (k.wrap (m.tdiv n))),[.p (n≠0)],a)
 | .rem=>some (.t (.int k (m.tmod n)),[.p (n≠0)],a)
 | .and=>some (.t (.int k (bits .and k m n)),[],a)
 | .or=>some (.t (.int k (bits .or k m n)),[],a)
 | .xor=>some (.t (.int k (bits .xor k m n)),[],a)
 | .andNot=>some (.t (.int k (bits .andNot k m n)),[],a)
 | .shl| .shr=>none
 |op=>match Pm op m n with
  |some b=>some (.t (.bool b),[],a)
  |none=>none
def Hl(b:BinOp)(m n:List UInt8)(a:List ch):ha:=
 match b,a with
 | .add,.str r::a=>some (.t (.str r),[.p (cat m n=some r)],a)
 | .eql,a=>some (.t (.bool (decide (m=n))),[],a)
 | .neq,a=>some (.t (.bool (!decide (m=n))),[],a)
 | .geq,a=>some (.t (.bool (!Op.bytesLess m n)),[],a)
 | .lss,a=>some (.t (.bool (Op.bytesLess m n)),[],a)
 | .gtr,a=>some (.t (.bool (!Op.bytesLess m n&& !m==n)),[],a)
 | .leq,a=>some (.t (.bool (Op.bytesLess m n||m==n)),[],a)
 |_,_=>none
def GZ:Option b6->Bool
 |some i=>match i.u with
  | .bool=>true
  |_=>false
 |none=>false
def Hg(P:Program)(e:List (Nat×b6))(d:BinOp)(t:TypeId)(v w:V)(a:List ch):ha:=
 match v,w with
 | .t (.int k m),.t (.int h n)=>if k=h then Hb d k m n a else none
 | .t (.str m),.t (.str n)=>Hl d m n a
 | .t (.bool p),.t (.bool q)=>match GZ (dm e t),d with
  |true,.eql=>some (.t (.bool (p==q)),[],a)
  |true,.neq=>some (.t (.bool (!(p==q))),[],a)
  |_,_=>none
 | .agg cs,.agg i=>match wS cs,wS i,d,a with
  |some ms,some c,.eql,.b b::a=>some (.t (.bool b),[.p (zD P t ms.length),.q c.length ms.length,.p (decide (ms=c)=b)],a)
  |some ms,some c,.neq,.b b::a=>some (.t (.bool (!b)),[.p (zD P t ms.length),.q c.length ms.length,.p (decide (ms=c)=b)],a)
  |_,_,_,_=>none
 |_,_=>none
def Hi:Option b6->Bool
 |some i=>match i.u with
  | .QI=>true
  |_=>false
 |none=>false
def oY:Operand->Bool
 | .const _=>true
 |_=>false
def Hc(b:List (Nat×b6))(c:BinOp)(t:TypeId)(x y:Operand)(v w:V)(a:List ch):ha:=
 match Hi (dm b t),oY x||oY y,v,w,c with
 |true,true,.t .err,.t .gh,.eql=>some (.t (.bool false),[],a)
 |true,true,.t .err,.t .gh,.neq=>some (.t (.bool true),[],a)
 |true,true,.t .gh,.t .gh,.eql=>some (.t (.bool true),[],a)
 |true,true,.t .gh,.t .gh,.neq=>some (.t (.bool false),[],a)
 |_,_,_,_,_=>none
def Hu(c:UnOp)(v:V)(a:List ch):ha:=
 match c,v with
 | .not,.t (.bool b)=>some (.t (.bool (!b)),[],a)
 | .neg,.t (.int k n)=>some (.t (.int k (k.wrap (0-n))),[],a)
 |_,_=>none
def FW(a:List (Nat×b6)):Option b6->Bool
 |some i=>match i.u with
  | .slice e=>match dm a e with
   |some j=>match j.u with
    | .int .u8=>true
    |_=>false
   |none=>false
  |_=>false
 |none=>false
def GK(c:List (Nat×b6))(d e:TypeId)(v:V)(a:List ch):ha:=
 match dm c d,dm c e with
 |some i,some j=>match j.u,v,a with
  | .int h,.t (.int _ n),.int m::a=>some (.t (.int h m),[.p (h.wrap n=m)],a)
  | .int .u8,.t (.int _ n),.y m::a=>some (.t (.int .u8 (m.toNat:Nat)),[.p (UInt8.ofInt n=m)],a)
  | .string,.t (.ay b),.str l::a=>match FW c (some i) with
   |true=>some (.t (.str l),[.p (b=l.map qR)],a)
   |false=>none
  |_,_,_=>none
 |_,_=>none
def tu(m:List (Nat×b6))(H:Nat->Option E)(t:TypeId)(v:V)(e:List ch):ha:=
 match dm m t with
 |none=>none
 |some i=>match v with
  | .ref id a=>match H id with
   |some (.cells cs)=>match i.u.agg with
    |true=>match Nat.ble (a+i.size) cs.length with
     |true=>some (.agg ((cs.drop a).take i.size),[],e)
     |false=>none
    |false=>match cs[a]? with
     |some c=>some (c,[],e)
     |none=>none
   |_=>none
  | .aK cs=>match i.u.agg with
   |true=>match Nat.ble i.size cs.length with
    |true=>some (.agg ((cs.take i.size).map .t),[],e)
    |false=>none
   |false=>match cs with
    |c::_=>some (.t c,[],e)
    | []=>none
  | .ct id gen l k a=>match H id,i.u.agg,e with
   |some (.arr _ b h d),false,.row r::e=>match r[a]? with
    |some c=>some (.t c,[.q b gen,.q h l,.p (d[k]? =some r)],e)
    |none=>none
   |some (.arr _ b h d),true,.row r::e=>match Nat.ble (a+i.size) r.length with
    |true=>some (.agg (((r.drop a).take i.size).map .t),[.q b gen,.q h l,.p (d[k]? =some r)],e)
    |false=>none
   |_,_,_=>none
  |_=>none
def rA(j:Nat):List (Nat×Nat×V)->Option (Nat×V)
 | []=>none
 |h::a=>bif Nat.beq h.2.1 j then some (h.1,h.2.2) else rA j a
def rj(a:List (Nat×Nat×V)):Nat->Nat->Option (List (Nat×V))
 |_,0=>some []
 |j,n+1=>match rA j a,rj a (j+1) n with
  |some x,some l=>some (x::l)
  |_,_=>none
def ru(k:Nat):List (Nat×V)->List df
 | []=>[]
 |x::l=> .q x.1 k::ru k l
def rF(i j:Nat):List (Nat×Nat×V)->List df
 | []=>[]
 |h::a=>bif Nat.beq h.2.1 j then .p (i≠h.1)::rF i j a else rF i j a
theorem wy{i j:Nat}: ∀{b:List (Nat×Nat×V)},cc (rF i j b)-> ∀v,(i,j,v)∉b
 | [],_,_,h=>by cases h
 |h::b,a,v,hm=>by
  unfold rF at a;cases c:Nat.beq h.2.1 j with
  |true=>
   rw[c] at a;rcases dI.1 hm with rfl|hm
   ·exact a.1 rfl
   exact wy a.2 v hm
  |false=>
   rw[c] at a;rcases dI.1 hm with rfl|hm
   ·simp at c
   exact wy a v hm
def Gs(x:List (Nat×b6))(H:Nat->Option E)(t:TypeId)(v:V)(e:List ch):ha:=
 match dm x t,v,e with
 |some i,.ct id gen n k a,.row r::e=>match H id with
  |some (.a6 h m b d o)=>match i.u.agg with
   |false=>match r[a]?,rA a o with
    |some c,none=>match (U h m).ej a with
     |none=>some (.t c,[.q b gen,.q (U h m).size n,.p (d[k]? =some r)],e)
     |some _=>none
    |some _,some (s,w)=>some (w,[.q b gen,.q (U h m).size n,.p (d[k]? =some r),.q s k],e)
    |none,_=>none
   |true=>match Nat.ble (a+i.size) r.length,rj o a i.size with
    |true,some l=>some (.agg (l.map (·.2)),.q b gen:: .q (U h m).size n:: .p (d[k]? =some r)::ru k l,e)
    |_,_=>none
  |_=>none
 |some i,.ct id gen n k a,.int q:: .row r::e=>match H id with
  |some (.a6 h m b d o)=>match i.u.agg,r[a]?,o[q.toNat]? with
   |false,some _,some (s,y,w)=>some (w,[.q b gen,.q (U h m).size n,.p (d[k]? =some r),.q s k,.q y a],e)
   |true,_,_=>match Nat.ble (a+i.size) r.length,rj (o.drop q.toNat) a i.size with
    |true,some l=>some (.agg (l.map (·.2)),.q b gen:: .q (U h m).size n:: .p (d[k]? =some r)::ru k l,e)
    |_,_=>none
   |_,_,_=>none
  |_=>none
 |some i,.ct id gen n k a,.nat _:: .row r::e=>match H id with
  |some (.a6 h m b d o)=>match i.u.agg,r[a]?,(U h m).ej a with
   |false,some c,none=>some (.t c,.q b gen:: .q (U h m).size n:: .p (d[k]? =some r)::rF k a o,e)
   |_,_,_=>none
  |_=>none
 |_,_,_=>none
def He(d:List (Nat×b6))(t:TypeId)(k:Nat)(v:V)(e:List ch):ha:=
 match dm d t with
 |none=>none
 |some i=>match i.u with
  | .struct h=>match h[k]? with
   |none=>none
   |some a=>match dm d a.1 with
    |none=>none
    |some j=>match v with
     | .agg b=>match j.u.agg with
      |true=>match Nat.ble (a.2+j.size) b.length with
       |true=>some (.agg ((b.drop a.2).take j.size),[],e)
       |false=>none
      |false=>match b[a.2]? with
       |some c=>some (c,[],e)
       |none=>none
     |_=>none
  |_=>none
def Gu(l:List (Nat×b6))(H:Nat->Option E)(t:TypeId)(k:Nat)(v:V)(d:List ch):ha:=
 match dm l t with
 |none=>none
 |some i=>match i.u with
  | .struct m=>match m[k]? with
   |none=>none
   |some a=>match dm l a.1 with
    |none=>none
    |some j=>match Nat.beq j.size 0 with
     |true=>none
     |false=>match v with
      | .ref id c=>some (.ref id (c+a.2),[],d)
      | .aK cs=>some (.aK (cs.drop a.2),[],d)
      | .ct id gen e n c=>match H id with
       |some (.arr _ b h _)=>some (.ct id gen e n (c+a.2),[.q b gen,.q h e],d)
       |some (.a6 _ _ b _ _)=>some (.ct id gen e n (c+a.2),[.q b gen],d)
       |_=>none
      |_=>none
  |_=>none
def Hd(l:List (Nat×b6))(H:Nat->Option E)(t:TypeId)(v w:V)(d:List ch):ha:=
 match dm l t with
 |none=>none
 |some i=>match i.u with
  | .slice e=>match dm l e with
   |none=>none
   |some j=>match v,w with
    | .t (.ay h),.t (.int .i64 n)=>match d with
     | .row r::d=>match Nat.beq r.length j.size with
      |true=>some (.aK r,[.p (av h n=some r)],d)
      |false=>none
     |_=>none
    | .a7 id gen a c len,.t (.int .i64 n)=>match H id,Nat.beq a j.size with
     |some (.arr _ b o _),true=>some (.ct id gen a (c+n.toNat) 0,[.q b gen,.q o a,.p (0<=n/\n<(len:Int))],d)
     |some (.a6 _ _ b _ _),true=>some (.ct id gen a (c+n.toNat) 0,[.q b gen,.p (0<=n/\n<(len:Int))],d)
     |_,_=>none
    |_,_=>none
  | .array m e=>match dm l e with
   |none=>none
   |some j=>match v,w,d with
    | .ref id c,.t (.int .i64 n),.nat k::d=>match Nat.ble (k+1) m with
     |true=>some (.ref id (c+k*j.size),[.p (n=(k:Int))],d)
     |false=>none
    |_,_,_=>none
  |_=>none
def wJ:Option b6->Bool
 |some i=>match i.u with
  | .string=>true
  |_=>false
 |none=>false
def w1:Option b6->Bool
 |some i=>match i.u with
  | .slice _=>true
  |_=>false
 |none=>false
def Hm(d:List (Nat×b6))(e:BinOp)(t:TypeId)(v w:V)(c:List ch):ha:=
 match w1 (dm d t),v,w,e,c with
 |true,.t (.ay a),.t .e5,.eql,.b false::c=>some (.t (.bool false),[.p (a≠[])],c)
 |_,_,_,_,_=>none
def Gt(c:List (Nat×b6))(t:TypeId)(v w:V)(a:List ch):ha:=
 match wJ (dm c t),v,w,a with
 |true,.t (.str l),.t (.int .i64 n),.y b::a=>some (.t (.int .u8 (b.toNat:Nat)),[.p (av l n=some b)],a)
 |_,_,_,_=>none
def rr(d e:Option Operand)(c:Nat)(h:List V):Option (Int×Int):=
 match d,e,h with
 |some _,some _,[.t (.int .i64 a),.t (.int .i64 b)]=>some (a,b)
 |some _,none,[.t (.int .i64 a)]=>some (a,(c:Int))
 |none,some _,[.t (.int .i64 b)]=>some (0,b)
 |_,_,_=>none
def Gr(n:List (Nat×b6))(H:Nat->Option E)(t:TypeId)(x y:Option Operand)(s:List V)(h:List ch):ha:=
 match s with
 | .t (.str l)::w=>match wJ (dm n t),rr x y l.length w,h with
  |true,some (a,b),.str r::h=>some (.t (.str r),[.p (sub l a b=some r)],h)
  |_,_,_=>none
 | .t (.ay d)::w=>match dm n t with
  |none=>none
  |some i=>match i.u with
   | .slice e=>match dm n e,rr x y d.length w,h with
    |some j,some (a,b),.rows r::h=>some (.t (.ay r),[.p (sub d a b=some r),.p (Rows j.size d)],h)
    |_,_,_=>none
   |_=>none
 | .a7 id gen c k len::w=>match dm n t,(H id).bind E.gen? with
  |some i,some A=>match i.u with
   | .slice e=>match dm n e,rr x y len w,h with
    |some j,some (a,b),.nat o:: .nat m::h=>some (.a7 id gen c o m,[.q A gen,.q c j.size,.p (0<=a/\a<=b/\b<=len/\(a=0\/a<len)/\o=k+a.toNat/\m=b.toNat-a.toNat)],h)
    |some _,some (a,b),.int 0::h=>some (.t (.ay []),[.q A gen,.p (0<=a/\a=b/\b<=len)],h)
    |some j,some (a,b),.int 1:: .nat o:: .nat m::h=>match H id with
     |some (.arr _ B z d)=>some (.a7 id gen c o m,[.q B gen,.q z c,.q c j.size,.p (0<c/\0<=a/\a<b/\k+b<=d.length/\o=k+a.toNat/\m=b.toNat-a.toNat)],h)
     |_=>none
    |_,_,_=>none
   |_=>none
  |_,_=>none
 |_=>none
def FR(h:List (Nat×b6))(H:Nat->Option E)(t:TypeId)(d:List V)(k:List ch):ha:=
 match d with
 | [.a7 id gen _ _ len,.t (.int .i64 a),.t (.int .i64 b),.t (.int .i64 c)]=>match dm h t,(H id).bind E.gen? with
  |some i,some l=>match i.u with
   | .slice e=>match dm h e with
    |some _=>some (.cX,[.q l gen,.p (0<=a/\a<=b/\b<=c/\c<=len)],k)
    |none=>none
   |_=>none
  |_,_=>none
 |_=>none
def GL(k:List (Nat×b6))(t:TypeId)(d:List V)(h:List ch):ha:=
 match d,h with
 | [.t (.ay a),.t (.int .i64 b),.t (.int .i64 c)],.rows r::h=>match dm k t with
  |some i=>match i.u with
   | .slice e=>match dm k e with
    |some j=>some (.t (.ay r),[.p (sub a 0 b=some r/\c=b),.p (Rows j.size a)],h)
    |none=>none
   |_=>none
  |none=>none
 |_,_=>none
def Ha(e:List (Nat×b6))(H:Nat->Option E)(t:TypeId)(v:V)(b:List ch):ha:=
 match v,b with
 | .t (.str l),b=>match wJ (dm e t) with
  |true=>some (.t (.int .i64 (l.length:Nat)),[],b)
  |false=>none
 | .t (.ay c),.nat n::b=>match w1 (dm e t) with
  |true=>some (.t (.int .i64 (n:Nat)),[.p (c.length=n)],b)
  |false=>none
 | .a7 id gen d _ len,.nat n::b=>match H id,w1 (dm e t) with
  |some (.arr _ a h _),true=>some (.t (.int .i64 (n:Nat)),[.q a gen,.q h d,.p (len=n)],b)
  |some (.a6 _ _ a _ _),true=>some (.t (.int .i64 (n:Nat)),[.q a gen,.p (len=n)],b)
  |_,_=>none
 |_,_=>none
def Fo(h:List (Nat×b6))(H:Nat->Option E)(b:Builtin)(c:List TypeId)(i:List Operand)(a:List V)(d:List ch):ha:=
 match b,c,i,a with
 | .len,[t],[_],[v]=>Ha h H t v d
 | .max,_,[_,_],[.t (.int k m),.t (.int e n)]=>if k=e then some (.t (.int k (max m n)),[],d) else none
 | .min,_,[_,_],[.t (.int k m),.t (.int e n)]=>if k=e then some (.t (.int k (min m n)),[],d) else none
 |_,_,_,_=>none
def Hn(H:Nat->Option E)(v:V)(a:List ch):ha:=
 match v with
 | .ct id gen _ _ _=>match (H id).bind E.gen? with
  |some b=>some (v,[.q b gen],a)
  |none=>none
 | .ref _ _=>some (v,[],a)
 | .aK _=>some (v,[],a)
 | .fn _ _=>some (v,[],a)
 |_=>none
def Gw(c:List (Nat×b6))(t:TypeId)(b:List Nat)(a:List V)(d:List ch):ha:=
 match dm c t with
 |none=>none
 |some i=>match i.u with
  | .struct _=>match (gB i.z).val,Nat.beq b.length a.length,kl (i.places[·]?) (gB i.z).cs (b.zip a) with
   |true,true,some cs=>some (.agg cs,[],d)
   |_,_,_=>none
  |_=>none
def xk(P:Program)(h:List (Nat×b6))(H:Nat->Option E)(l:Op)(a:List V)(e:List ch):ha:=
 match l with
 | .move _=>match a with
  | [v]=>some (v,[],e)
  |_=>none
 | .assign _=>match a with
  | [v]=>some (v,[],e)
  |_=>none
 | .pick _ _ _=>match a,e with
  | [.t (.bool b),v,w],.b c::e=>some (bif c then v else w,[.p (b=c)],e)
  |_,_=>none
 | .load t _=>match a with
  | [v]=>match tu h H t v e with
   |some r=>some r
   |none=>Gs h H t v e
  |_=>none
 | .nilCheck _=>match a with
  | [v]=>Hn H v e
  |_=>none
 | .binOp o t x y _=>match a with
  | [v,w]=>match Hg P h o t v w e with
   |some r=>some r
   |none=>match Hc h o t x y v w e with
    |some r=>some r
    |none=>Hm h o t v w e
  |_=>none
 | .unOp o _ _=>match a with
  | [v]=>Hu o v e
  |_=>none
 | .convert s d _=>match a with
  | [v]=>GK h s d v e
  |_=>none
 | .makeFunc m first _=>match m,first.toList with
  | .func f,[]=>some (.fn f a,[],e)
  |_,_=>none
 | .slice t _ lo i l7=>match l7 with
  |none=>Gr h H t lo i a e
  |some _=>match lo,i with
   |some _,some _=>FR h H t a e
   |none,some _=>GL h t a e
   |_,_=>none
 | .fieldAddr t _ k=>match a with
  | [v]=>Gu h H t k v e
  |_=>none
 | .field t _ k=>match a with
  | [v]=>He h t k v e
  |_=>none
 | .indexAddr t _ _=>match a with
  | [v,w]=>Hd h H t v w e
  |_=>none
 | .index t _ _=>match a with
  | [v,w]=>Gt h t v w e
  |_=>none
 | .extract _ k=>match a with
  | [.bJ n]=>match n[k]? with
   |some v=>some (v,[],e)
   |none=>none
  |_=>none
 | .build t q=>Gw h t (q.toList.map (·.1)) a e
 | .call c=>match c.callee with
  | .builtin b=>Fo h H b c.argTypes.toList c.args.toList a e
  |_=>none
 |_=>none
end Go.Lift
