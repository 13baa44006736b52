/- Tools. -/
import Derived.Test.YtlklcemjbgpcnaaGreatOLiftAB
import Derived.Laws.BitsAllLaws
import Derived.Laws.BytesArg
import Derived.Laws.StructEq
namespace Go.Lift
open Go
open Option renaming some -> aa, none -> aj, map_some -> gS
open Bool renaming true -> ab, false -> ak, and_eq_true -> cx
open Decidable renaming decide -> ai
open Go.Result renaming andThen_ok -> fc
open Go.Builtin renaming zeroCells -> ea, append_ -> iX
open List renaming map_cons -> hL
open Go.World renaming shape? -> gj
open Go.Sem renaming run_bind -> fo, run_pure -> j6
open Nat renaming beq -> cc, blt -> dw, ble -> dD
section
variable {G β:Map}{w:World}{X:Nat->Prop}{n m k b i:Nat}{a:Act}{e:TypeId}{hs:List (Nat×Nat×V)}
theorem uD{c:List dM}{gen:Nat}{a:List (List T)}{e:List (Nat×Nat×V)}(h:cY G w X n (.aN c m gen a e)): ∃q,G n=aa (q,gen):=by
 rcases h.2 with ⟨i,_⟩|⟨b,k,_,i,_⟩
 ·exact⟨_,i⟩
 exact⟨_,i⟩
def Map.drop(a:Map)(k:Nat):Map:=⟨a.f,λid b=>id≠k/\a.n id b⟩
theorem og(h:At (G.drop k) n b):At G n b:=by
 rcases h with h|h
 ·exact .inl h
 exact .inr h.2
theorem Rel.drop{K:Ctx}{s:S}(h:Rel K β s a w)(k:Nat)(e':E)(x:s.H k≠aj)
  (B:cY (β.drop k) w (own K (β.drop k) (aZ s.H k (aa e'))) k e'):Rel K (β.drop k) {s with H:=aZ s.H k (aa e')} a w:=by
 have l: ∀b,own K (β.drop k) (aZ s.H k (aa e')) b->own K β s.H b:=by
  rintro b (c|⟨id,m,o⟩)
  ·exact .inl c
  refine .inr ⟨id,λp=>?_,og o⟩;by_cases n:id=k
  ·subst n;exact x p
  rw[cg _ _ _ _ n] at m;exact m p
 have y:dX β (β.drop k):=λ_ _ _ c=> .inl c;refine {h with base:=λid hid=>h.base id hid,dT:=λid hid=>h.dT id hid,ev:=λid b hid q=>h.ev id b hid q.2,inj:=λid r b m o=>h.inj id r b (og m) (og o),fresh:=λid b q=>h.fresh id b (og q),heap:= ?_,dB:=λi=>(h.dB i).mono (Ext.refl _ _) (λb _=>l b) y (Shaped.refl _ _)};intro id e c;have c:aZ s.H k (aa e') id=aa e:=c;by_cases n:id=k
 ·subst n;rw[cd] at c;cases c;cases A:s.H id with
  |none=>exact bs A x
  |some p=>exact⟨(h.heap id p A).1,B⟩
 rw[cg _ _ _ _ n] at c;obtain⟨m,o⟩:=h.heap id e c;exact⟨m,o.mono (Ext.refl _ _) (λb _=>l b) y (λ_ h=>h) (Shaped.refl _ _) (λ_ _=>rfl) λb=>⟨λh=>h.2,λh=>⟨n,h⟩⟩⟩
theorem Om{K:Ctx}{s:S}(k:Nat){gen:Nat}{v:List (List T)}(l:List dM)(m:Nat)(y:s.H k=aa (.arr e gen n v))(r:(aR l m).ty=e)(A:(aR l m).size=n)
  (B:v=[]\/(aR l m).bm=[]):s.le K {s with H:=aZ s.H k (aa (.aN l m gen v []))}:=by
 intro F a w h;refine⟨_,h.drop k (.aN l m gen v []) (by rw[y];simp) ?_⟩;have o:=(h.heap k _ y).2;subst r;subst A;refine⟨o.1,?_⟩;have p: ∀b,own K (F.drop k) (aZ s.H k (aa (.aN l m gen v []))) b->own K F s.H b:=by
  rintro b (Q|⟨id,r,A⟩)
  ·exact .inl Q
  refine .inr ⟨id,λC=>?_,og A⟩;by_cases G:id=k
  ·subst G;rw[y] at C;cases C
  rw[cg _ _ _ _ G] at r;exact r C
 rcases o.2 with ⟨aL,a2⟩|⟨b,R,aL,a2,a3,a4,a5⟩
 ·exact .inl ⟨aL,a2,λc q=>q.1 rfl⟩
 refine .inr ⟨b,R,λ_ _ _=>False,aL,a2,a3,a4,λi j D x u L W X=>Cell.of ?_,λ_ _ _ h=>h.elim,λ_ _ _ _ _ h=>h.elim,λc=>⟨λq=>bs rfl q.1,λ⟨_,_,q⟩=>q.elim⟩⟩;rcases B with rfl|B
 ·simp at L
 have:(aR l m).ej j=aj:=by unfold dM.ej;rw[B];rfl
 rw[this];exact .fs _ _ _ ((a5 i j D x u L W X).mono (Ext.refl _ _) λb _=>p b) λ_ h=>h
theorem ach{K:Ctx}{s:S}(k:Nat){e:List dM}{gen:Nat}{v:List (List T)}(y:s.H k=aa (.aN e m gen v []))(q:dD K.dZ k=ab):
  s.le K {s with H:=aZ s.H k (aa (.arr (aR e m).ty gen (aR e m).size v))}:=by
 have L:=fg q;intro r a w h;refine⟨_,h.drop k (.arr (aR e m).ty gen (aR e m).size v) (by rw[y];simp) ?_⟩;have n:=(h.heap k _ y).2;have o: ∀b,own K (r.drop k) (aZ s.H k (aa (.arr (aR e m).ty gen (aR e m).size v))) b->own K r s.H b:=by
  rintro b (p|⟨id,A,l⟩)
  ·exact .inl p
  refine .inr ⟨id,λC=>?_,og l⟩;by_cases G:id=k
  ·subst G;rw[y] at C;cases C
  rw[cg _ _ _ _ G] at A;exact A C
 refine⟨n.1,?_⟩;rcases n.2 with ⟨aL,a2,_⟩|⟨b,Q,B,aL,a2,a3,a4,a5,jP,hM,fH⟩
 ·exact .inl ⟨aL,a2⟩
 refine .inr ⟨b,Q,aL,a2,a3,a4,λi j D x u R W X=>(a5 i j D x u R W X).none.wW o ?_⟩;intro c f p;have q:At r k c:= .inr ((fH c).2 ⟨i,j,f⟩);rcases p with p|⟨id,A,l⟩
 ·obtain⟨N,I⟩:=h.jK c p;rcases(h.fresh k c q).1 with F|M
  ·exact I F
  omega
 have:=h.inj _ _ _ (og l) q;subst this;rcases l with ⟨g,l⟩|l
 ·have U:r id=aa (aa c,g):=l
  grind
 exact l.1 rfl
def Map.split(c:Map)(k a:Nat)(q:Option Nat)(N:Nat->Prop):Map:=
 ⟨λi=>bif cc i a then aa (q,1) else c i,λid b=>(id=a/\N b)\/(id=k/\id≠a/\c.n k b/\ ¬N b/\q≠aa b)\/(id≠a/\id≠k/\c.n id b)⟩
theorem P2(h:i≠k):cc i k=ak:=by
 cases a:cc i k with
 |false=>rfl
 |true=>exact bs (m0 a) h
theorem Aq(b:Map)(k a:Nat)(q:Option Nat)(N:Nat->Prop):b.split k a q N a=aa (q,1):=by simp[Map.split]
theorem wE(a:Map)(k b:Nat)(q:Option Nat)(N:Nat->Prop)(id:Nat)(h:id≠b):a.split k b q N id=a id:=by simp[Map.split,P2 h]
theorem adb{G:Map}{k m:Nat}{q:Option Nat}{N:Nat->Prop}(p: ∀b,q=aa b->G.n k b)(r: ∀b,N b->G.n k b){i b:Nat}(h:At (G.split k m q N) i b):
  (i=m/\G.n k b/\(q=aa b\/N b))\/(i≠m/\At G i b/\(i=k->(∃g,G k=aa (aa b,g))\/(¬N b/\q≠aa b))):=by
 rcases h with ⟨g,h⟩|⟨rfl,h⟩|⟨rfl,a,c,l,w⟩|⟨a,c,l⟩
 ·by_cases o:i=m
  ·subst o;rw[Aq] at h;cases h;exact .inl ⟨rfl,p _ rfl,.inl rfl⟩
  rw[wE _ _ _ _ _ _ o] at h;exact .inr ⟨o,.inl ⟨g,h⟩,λe=> .inl ⟨g,e▸h⟩⟩
 ·exact .inl ⟨rfl,r b h,.inr h⟩
 ·exact .inr ⟨a,.inr c,λ_=> .inr ⟨l,w⟩⟩
 exact .inr ⟨a,.inr l,λe=>bs e c⟩
theorem Rel.split{K:Ctx}{s:S}(h:Rel K β s a w)(k cE:Nat)(q:Option Nat)(N:Nat->Prop)(p r:E)(R:s.H k≠aj)(L:s.u cE=ak)
  (V: ∀b,q=aa b->β.n k b/\ ¬N b) (Y: ∀b,N b->β.n k b) (W: ∀b g,β k=aa (aa b,g)-> ¬β.n k b)
  (alb:(∀b,own K (β.split k cE q N) (aZ (aZ s.H k (aa p)) cE (aa r)) b->own K β s.H b)->cY (β.split k cE q N) w (own K (β.split k cE q N) (aZ (aZ s.H k (aa p)) cE (aa r))) k p)
  (X:(∀b,own K (β.split k cE q N) (aZ (aZ s.H k (aa p)) cE (aa r)) b->own K β s.H b)->cY (β.split k cE q N) w (own K (β.split k cE q N) (aZ (aZ s.H k (aa p)) cE (aa r))) cE r):
  Rel K (β.split k cE q N) {t:=s.t,H:=aZ (aZ s.H k (aa p)) cE (aa r),u:=aZ s.u cE ab} a w:=by
 have f:s.u k=ab:=by
  cases I:s.H k with
  |none=>exact bs I R
  |some Q=>exact(h.heap k Q I).1
 have hne:k≠cE:=by intro e;subst e;rw[f] at L;cases L
 have y:= @adb β k cE q N (λb F=>(V b F).1) Y;have o: ∀b,own K (β.split k cE q N) (aZ (aZ s.H k (aa p)) cE (aa r)) b->own K β s.H b:=by
  rintro b (l|⟨id,m,G⟩)
  ·exact .inl l
  rcases y G with ⟨_,j,_⟩|⟨j,h4,_⟩
  ·exact .inr ⟨k,R,.inr j⟩
  refine .inr ⟨id,λQ=>?_,h4⟩;rw[cg _ _ _ _ j] at m;by_cases C:id=k
  ·subst C;exact R Q
  rw[cg _ _ _ _ C] at m;exact m Q
 have D:=h.dT cE L;have B: ∀id x,β id=aa x->β.split k cE q N id=aa x:=λid x l=>by
  rw[wE _ _ _ _ _ _ (by intro e;subst e;rw[D] at l;cases l)];exact l
 have M:dX β (β.split k cE q N):=dX.of B;refine {h with base:= ?_,low:= ?_,dT:= ?_,ev:= ?_,inj:= ?_,fresh:= ?_,heap:= ?_,dB:=λi=>(h.dB i).mono (Ext.refl _ _) (λb _=>o b) M (Shaped.refl _ _)}
 ·refine h.base.keep λid hid=>wE _ _ _ _ _ _ ?_;intro e;subst e;have:=h.low id hid;rw[L] at this;cases this
 ·intro id hid;show aZ s.u cE ab id=ab;by_cases e:id=cE
  ·subst e;exact cd _ _ _
  rw[cg _ _ _ _ e];exact h.low id hid
 ·intro id hid;have c:aZ s.u cE ab id=ak:=hid;by_cases e:id=cE
  ·subst e;rw[cd] at c;cases c
  rw[cg _ _ _ _ e] at c;rw[wE _ _ _ _ _ _ e];exact h.dT id c
 ·intro id b hid F;have c:aZ s.u cE ab id=ak:=hid;have e:id≠cE:=by intro e;subst e;rw[cd] at c;cases c
  rw[cg _ _ _ _ e] at c;rcases F with ⟨m,_⟩|⟨rfl,_,m,_⟩|⟨_,_,m⟩
  ·exact e m
  ·exact h.ev _ b c m
  exact h.ev id b c m
 ·intro id lD b m G;rcases y m with ⟨rfl,aL,a2⟩|⟨aL,a2,a3⟩<;>rcases y G with ⟨T,U,v⟩|⟨U,v,c3⟩
  ·exact T.symm
  ·have:=h.inj _ _ b (.inr aL) v
   grind
  ·subst T
   have:=h.inj _ _ b (.inr U) a2
   grind
  exact h.inj _ _ b a2 v
 ·intro id b F;rcases y F with ⟨_,aL,_⟩|⟨_,a2,_⟩
  ·exact h.fresh k b (.inr aL)
  exact h.fresh id b a2
 intro id e l;have l:aZ (aZ s.H k (aa p)) cE (aa r) id=aa e:=l;show aZ s.u cE ab id=ab/\cY _ w (own K _ (aZ (aZ s.H k (aa p)) cE (aa r))) id e;by_cases C:id=cE
 ·subst C;rw[cd] at l;cases l;exact⟨cd _ _ _,X o⟩
 rw[cg _ _ _ _ C] at l⊢;by_cases A:id=k
 ·subst A;rw[cd] at l;cases l
  grind
 rw[cg _ _ _ _ A] at l;obtain⟨m,G⟩:=h.heap id e l;exact⟨m,G.mono (Ext.refl _ _) (λb _=>o b) M (B id) (Shaped.refl _ _) (λ_ _=>rfl) (λb=>⟨λh=>by
  rcases h with ⟨h,_⟩|⟨h,_⟩|⟨_,_,h⟩
  ·exact bs h C
  ·exact bs h A
  exact h,λh=> .inr (.inr ⟨C,A,h⟩)⟩)⟩
def sc(j:Nat):List (Nat×Nat×V)->Bool
 | []=>ab
 |h::a=> !(cc h.2.1 j)&&sc j a
theorem AZ{j:Nat}: ∀{a:List (Nat×Nat×V)},sc j a=ab-> ∀i v,(i,j,v)∉a
 | [],_,_,_,h=>by cases h
 |h::a,b,i,v,hm=>by
  simp only[sc,cx,Bool.not_eq_true'] at b;rcases d'.1 hm with rfl|hm
  ·simp at b
  exact AZ b.2 i v hm
theorem abx{K:Ctx}{s:S}(k cE i j R:Nat){r:List dM}{gen:Nat}{y:List (List T)}{W:List T}{l:List (List T)}{U:List (Nat×Nat×V)}(hk:s.H k=aa (.aN r m gen y U))(hu:s.u cE=ak)
  (aJ:y[i]? =aa W) (hj:W[j]? =aa (.bE l)) (hm:(aR r m).ej j=aa R) (f: ∀v,(i,j,v)∉U):
  s.le K {t:=s.t,H:=aZ (aZ s.H k (aa (.aN r m gen y ((i,j,.bo cE 1 (aR r R).size 0 l.length)::U)))) cE (aa (.aN r R 1 l [])),u:=aZ s.u cE ab}:=by
 intro I a w h;have Ke:=(h.heap k _ hk).1;have F:k≠cE:=by intro e;subst e;rw[Ke] at hu;cases hu
 have jB:=(h.heap k _ hk).2;rcases jB.2 with ⟨aL,a2,_⟩|⟨b,us,B,aL,a2,a3,a4,a5,jP,hM,fH⟩
 ·rw[a2] at aJ;simp at aJ
 have hlt:=(b5.1 aJ).1;have hjs:j<(aR r m).size:=by rw[<-a4 W (bT aJ)];exact(b5.1 hj).1
 have M:i*(aR r m).size+j<us.size:=by
  have:(i+1)*(aR r m).size<=y.length*(aR r m).size:=dU _ hlt
  grind
 have p:=(a5 i j W _ us[i*(aR r m).size+j] aJ hj (h8 M)).2 λv=>f v;rw[hm] at p;have G: ∀c g,I k=aa (aa c,g)-> ¬I.n k c:=by
  grind
 generalize al3:us[i*(aR r m).size+j]=Lp at p
 -- the cell's value under the new map, and the rest of the rows
 have L: ∀(q:Option Nat) (N:Nat->Prop),(∀c,B i j c↔(q=aa c\/N c))->(∀(X:Nat->Prop),bt (I.split k cE q N) w X (.bo cE 1 (aR r R).size 0 l.length) Lp)->
   ∀X,(∀c,X c->own K I s.H c)->cY (I.split k cE q N) w X k (.aN r m gen y ((i,j,.bo cE 1 (aR r R).size 0 l.length)::U)):=by
  intro q N dQ bZ X gZ;have hm':dX I (I.split k cE q N):=dX.of (λid x hx=>by
   have:id≠cE:=by intro e;subst e;rw[h.dT _ hu] at hx;cases hx
   rw[wE _ _ _ _ _ _ this];exact hx)
  refine⟨jB.1,.inr ⟨b,us,λA C c=>B A C c/\ ¬(A=i/\C=j),by rw[wE _ _ _ _ _ _ F];exact aL,a2,a3,a4,λA C D x u dd cB fi=>⟨λv Y=>?_,λcK=>?_⟩,
   λA C c f=>jP A C c f.1,λi1 ze i2 n0 c h1 h2=>hM _ _ _ _ c h1.1 h2.1,λc=>?_⟩⟩
  ·rcases d'.1 Y with e|Y
   ·simp only[Prod.mk.injEq] at e;obtain⟨rfl,rfl,rfl⟩:=e
    have:u=Lp:=by
     rw[<-al3];rw[h8 M] at fi;exact(Option.some.inj fi).symm
    subst this;exact⟨bZ X,λc f=>f.2 ⟨rfl,rfl⟩⟩
   obtain⟨c1,c2⟩:=(a5 A C D x u dd cB fi).1 v Y;exact⟨c1.mono (Ext.refl _ _) (λc _=>gZ c) hm' (Shaped.refl _ _),λc hx=>c2 c hx.1⟩
  ·have aiJ: ¬(A=i/\C=j):=by rintro⟨rfl,rfl⟩;exact cK _ ff
   exact(((a5 A C D x u dd cB fi).2 λv bZ=>cK v (eZ _ bZ)).mono (Ext.refl _ _) (λc _=>gZ c) λ_ _=>rfl).iff λc=>⟨λh=>h.1,λh=>⟨h,aiJ⟩⟩
  constructor
  ·rintro(⟨h1,_⟩|⟨_,_,h1,h2,h3⟩|⟨_,h1,_⟩)
   ·exact bs h1 F
   ·obtain⟨A,C,Q⟩:=(fH c).1 h1;refine⟨A,C,Q,?_⟩;rintro⟨rfl,rfl⟩;rcases(dQ c).1 Q with h4|h4
    ·exact h3 h4
    exact h2 h4
   exact bs rfl h1
  rintro⟨A,C,Q,cK⟩;refine .inr (.inl ⟨rfl,F,(fH c).2 ⟨A,C,Q⟩,λh4=>?_,λh4=>?_⟩)
  ·exact cK (hM _ _ _ _ c Q ((dQ c).2 (.inr h4)))
  exact cK (hM _ _ _ _ c Q ((dQ c).2 (.inl h4)))
 generalize Sd:B i j=N0 at p L;cases p with
 |nil _ _ eW=>
  refine⟨_,h.split k cE aj (λ_=>False) _ (.aN r R 1 [] []) (by rw[hk];simp) hu (λb Q=>by cases Q) (λ_ h=>h.elim) G (λo=>L aj (λ_=>False) (λc=>⟨λh=>bs h (eW c),λh=>by rcases h with h|h;cases h;exact h.elim⟩)
   (λX=> .hb cE 1 _ (da _) (Aq _ _ _ _ _)) _ o) λo=>⟨da _,.inl ⟨Aq _ _ _ _ _,rfl,λc f=>?_⟩⟩⟩
  rcases f with ⟨_,h⟩|⟨h,_⟩|⟨h,_⟩
  ·exact h
  ·exact F h.symm
  exact h rfl
 |own _ _ cB cap rV si _ hw U vP cC lA b8 dQ cO eW=>
  have tq:I.n k cB:=(fH cB).2 ⟨i,j,by rw[Sd];exact(eW cB).2 (.inl rfl)⟩;refine⟨_,h.split k cE (aa cB) (λc=> ∃i j,si i j c) _ (.aN r R 1 l []) (by rw[hk];simp) hu (λb Q=>by cases Q;exact⟨tq,λ⟨A,C,h'⟩=>(dQ A C _ h').2.2 rfl⟩)
   (λc f=>(fH c).2 ⟨i,j,by rw[Sd];exact(eW c).2 (.inr f)⟩) G
   (λo=>L (aa cB) (λc=> ∃i j,si i j c) (λc=>⟨λh=>by rcases(eW c).1 h with h|h;exact .inl (by rw[h]);exact .inr h,λh=>(eW c).2 (by rcases h with h|h;cases h;exact .inl rfl;exact .inr h)⟩)
    (λX=>?_) _ o) λo=>⟨da _,.inr ⟨cB,rV,si,Aq _ _ _ _ _,hw,by rw[U];exact dU _ cC,lA,λA C D x u c1 c2 c3=>Cell.of ((b8 A C D x u c1 c2 c3).mono (Ext.refl _ _) (λc _=>o c) λ_ _=>rfl),dQ,cO,λc=>?_⟩⟩⟩
  ·have:=bt.bo (β:=I.split k cE (aa cB) λc=> ∃i j,si i j c) (w:=w) (X:=X) cE 1 (aR r R).size 0 l.length cap cB rV.size (aR r R).ty (da _) (Aq _ _ _ _ _) (iR.1 hw).1 (by unfold gj;rw[hw]) (by rw[dI];exact U.symm) cC vP;rw[gQ] at this;exact this
  constructor
  ·rintro(⟨_,h⟩|⟨h,_⟩|⟨h,_⟩)
   ·exact h
   ·exact bs h.symm F
   exact bs rfl h
  intro h;exact .inl ⟨rfl,h⟩
def Map.merge(a:Map)(k c gen:Nat):Map:=
 ⟨λi=>bif cc i c then aa (aj,gen+1) else a i,λid b=>(id=k/\(a.n k b\/At a c b))\/(id≠k/\id≠c/\a.n id b)⟩
theorem Ox(b:Map)(k a gen:Nat):b.merge k a gen a=aa (aj,gen+1):=by simp[Map.merge]
theorem wH(a:Map)(k b gen id:Nat)(h:id≠b):a.merge k b gen id=a id:=by simp[Map.merge,P2 h]
theorem adB{G:Map}{k n gen i b:Nat}(a:k≠n)(h:At (G.merge k n gen) i b):i≠n/\(At G i b\/(i=k/\At G n b)):=by
 rcases h with ⟨g,h⟩|⟨rfl,h⟩|⟨m,e,l⟩
 ·by_cases c:i=n
  ·subst c;rw[Ox] at h;cases h
  rw[wH _ _ _ _ _ c] at h;exact⟨c,.inl (.inl ⟨g,h⟩)⟩
 ·rcases h with h|h
  ·exact⟨a,.inl (.inr h)⟩
  exact⟨a,.inr ⟨rfl,h⟩⟩
 exact⟨e,.inl (.inr l)⟩
theorem Rel.merge{K:Ctx}{s:S}(h:Rel K β s a w)(k c gen:Nat)(q:Option Nat)(y:E)(j:s.H k≠aj)(D:s.H c≠aj)(R:k≠c)(I:K.dZ<=c)(M:β c=aa (q,gen))(N:1<=gen)
  (T:(∀b,own K (β.merge k c gen) (aZ (aZ s.H c aj) k (aa y)) b->own K β s.H b)->dX β (β.merge k c gen)->cY (β.merge k c gen) w (own K (β.merge k c gen) (aZ (aZ s.H c aj) k (aa y))) k y):
  Rel K (β.merge k c gen) {t:=s.t,H:=aZ (aZ s.H c aj) k (aa y),u:=s.u} a w:=by
 have W:s.u c=ab:=by
  cases F:s.H c with
  |none=>exact bs F D
  |some B=>exact(h.heap c B F).1
 have G:s.u k=ab:=by
  cases F:s.H k with
  |none=>exact bs F j
  |some B=>exact(h.heap k B F).1
 have o:=fun {id b}=> @adB β k c gen id b R;have r: ∀b,own K (β.merge k c gen) (aZ (aZ s.H c aj) k (aa y)) b->own K β s.H b:=by
  rintro b (m|⟨id,C,L⟩)
  ·exact .inl m
  obtain⟨X,A|⟨rfl,A⟩⟩:=o L
  ·refine .inr ⟨id,λB=>?_,A⟩;by_cases n:id=k
   ·subst n;exact j B
   rw[cg _ _ _ _ n,cg _ _ _ _ X] at C;exact C B
  exact .inr ⟨c,D,A⟩
 have v:dX β (β.merge k c gen):=by
  intro id Y g1 m;by_cases n:id=c
  ·subst n;rw[M] at m;cases m;exact .inr ⟨N,aj,gen+1,Ox _ _ _ _,pt _⟩
  exact .inl (by rw[wH _ _ _ _ _ n];exact m)
 refine {h with base:= ?_,dT:= ?_,ev:= ?_,inj:= ?_,fresh:= ?_,heap:= ?_,dB:=λi=>(h.dB i).mono (Ext.refl _ _) (λb _=>r b) v (Shaped.refl _ _)}
 ·exact h.base.keep λid hid=>wH _ _ _ _ _ O
 ·intro id hid;have l:s.u id=ak:=hid;rw[wH _ _ _ _ _ (by intro e;subst e;rw[W] at l;cases l)];exact h.dT id l
 ·intro id b hid f;have l:s.u id=ak:=hid;rcases f with ⟨rfl,_⟩|⟨_,_,X⟩
  ·rw[G] at l;cases l
  exact h.ev id b l X
 ·intro id U b C L;obtain⟨aL,a2|⟨rfl,a2⟩⟩:=o C<;>obtain⟨V,Q|⟨rfl,Q⟩⟩:=o L
  ·exact h.inj _ _ b a2 Q
  ·exact bs (h.inj _ _ b a2 Q) aL
  ·exact bs (h.inj _ _ b Q a2) V
  rfl
 ·intro id b f;obtain⟨_,A|⟨_,A⟩⟩:=o f
  ·exact h.fresh id b A
  exact h.fresh c b A
 intro id e m;have m:aZ (aZ s.H c aj) k (aa y) id=aa e:=m;show s.u id=ab/\cY _ w (own K _ (aZ (aZ s.H c aj) k (aa y))) id e;by_cases n:id=k
 ·subst n;rw[cd] at m;cases m
  grind
 rw[cg _ _ _ _ n] at m;by_cases p:id=c
 ·subst p;rw[cd] at m;cases m
 rw[cg _ _ _ _ p] at m;obtain⟨C,L⟩:=h.heap id e m;exact⟨C,L.mono (Ext.refl _ _) (λb _=>r b) v (λx m=>by rw[wH _ _ _ _ _ p];exact m) (Shaped.refl _ _) (λ_ _=>rfl) (λb=>⟨λh=>by
  rcases h with ⟨h,_⟩|⟨_,_,h⟩
  ·exact bs h n
  exact h,λh=> .inr ⟨n,p,h⟩⟩)⟩
theorem YL{K:Ctx}{s:S}(k F i j m2 l9 z n:Nat){D:List dM}{gen:Nat}{p:List (List T)}{o:List T}{l:List (List T)}(hk:s.H k=aa (.aN D m gen p ((i,j,.bo F l9 z 0 n)::hs)))
  (pY:s.H F=aa (.aN D m2 l9 l [])) (ep:z=(aR D m2).size) (cK:n=l.length) (hne:k≠F) (nT:dD K.dZ F=ab) (aJ:p[i]? =aa o) (hm:(aR D m).ej j=aa m2) (aiw:dw j (aR D m).size=ab) (bS: ∀v,(i,j,v)∉hs):
  s.le K {t:=s.t,H:=aZ (aZ s.H F aj) k (aa (.aN D m gen (p.set i (o.set j (.bE l))) hs)),u:=s.u}:=by
 subst ep;subst cK;intro M a w h;have nT:=fg nT;obtain⟨q,hq⟩:=uD (h.heap F _ pY).2;have jB:=(h.heap k _ hk).2;have Q:=(h.heap F _ pY).2;refine⟨_,h.merge k F l9 q (.aN D m gen (p.set i (o.set j (.bE l))) hs) (by rw[hk];simp) (by rw[pY];simp) hne nT hq Q.1 λR hm'=>⟨jB.1,?_⟩⟩;rcases jB.2 with ⟨aL,a2,_⟩|⟨b,us,B,aL,a2,a3,a4,a5,jP,hM,fH⟩
 ·rw[a2] at aJ;simp at aJ
 have N:=(b5.1 aJ).1
 -- the blocks of the slice
 have U:At M k b:= .inl ⟨_,aL⟩;have aix: ∀(u:Value),bt M w (own K M s.H) (.bo F l9 (aR D m2).size 0 l.length) u->
   gk D w (own K (M.merge k F l9) (aZ (aZ s.H F aj) k (aa (.aN D m gen (p.set i (o.set j (.bE l))) hs)))) (aa m2) (.bE l) u (λc=>At M F c):=by
  intro u hu;rcases fl hu hq with ⟨cap,cB,n2,jn,rfl,k1,hw,Y,p1,cC,vP⟩|⟨k1,_,h0,rfl⟩
  ·subst k1;rcases Q.2 with ⟨c1,_⟩|⟨fi,rV,si,c1,c2,c3,c4,c5,nN,s3,iF⟩
   ·rw[hq] at c1;cases c1
   rw[hq] at c1;cases c1;rw[gQ];have Kp:rV.size=cap*(aR D m2).size:=by
    unfold gj at Y;rw[c2] at Y;simp at Y;rw[Y.2,<-p1,dI]
   refine .own m2 l cB cap rV si _ c2 Kp vP cC c4 (λy A W x u d1 d2 d3=>(c5 y A W x u d1 d2 d3).none.mono (Ext.refl _ _) (λc _=>R c) λ_ _=>rfl) nN s3 λc=>⟨?_,?_⟩
   ·rintro(⟨g,bV⟩|bV)
    ·rw[hq] at bV;cases bV;exact .inl rfl
    exact .inr ((iF c).1 bV)
   rintro(rfl|bV)
   ·exact .inl ⟨_,hq⟩
   exact .inr ((iF c).2 bV)
  subst k1
  have:l=[]:=ns h0;subst this;refine .nil m2 _ λc bS=>?_;rcases bS with ⟨g,bV⟩|bV
  ·rw[hq] at bV;cases bV
  rcases Q.2 with ⟨_,_,c3⟩|⟨fi,rV,si,c1,_⟩
  ·exact c3 c bV
  rw[hq] at c1;cases c1
 have X: ∀c,At M F c-> ¬At M k c:=λc C L=>hne (h.inj _ _ c L C);have R8: ∀y A c,B y A c->At M k c:=λy A c bS=> .inr ((fH c).2 ⟨y,A,bS⟩);have hjs: ∀(x:T),o[j]? =aa x->j<(aR D m).size:=λx hx=>by rw[<-a4 o (bT aJ)];exact(b5.1 hx).1
 have hrl:o.length=(aR D m).size:=a4 o (bT aJ);by_cases f:j<o.length
 ·have Ka:i*(aR D m).size+j<us.size:=by
   have:(i+1)*(aR D m).size<=p.length*(aR D m).size:=dU _ N;rw[ed] at this;omega
  have hcell:=a5 i j o o[j] us[i*(aR D m).size+j] aJ (bu f) (h8 Ka);obtain⟨vQ,ahI⟩:=hcell.1 _ ff;refine .inr ⟨b,us,λy A c=>B y A c\/(y=i/\A=j/\At M F c),by rw[wH _ _ _ _ _ hne];exact aL,a2,by simpa using a3,?_,?_,?_,?_,?_⟩
  ·intro r b8;rcases xd b8 with b8|rfl
   ·exact a4 r b8
   simpa using hrl
  ·intro y A W x u dd cB fi;by_cases DD:y=i/\A=j
   ·obtain⟨rfl,rfl⟩:=DD;rw[iQ N] at dd;cases dd;rw[iQ f] at cB;cases cB;rw[h8 Ka] at fi;cases fi;refine⟨λv bZ=>bs bZ (bS v),λ_=>?_⟩;rw[hm];refine(aix _ vQ).iff λc=>⟨λh=>?_,λh=> .inr ⟨rfl,rfl,h⟩⟩
    rcases h with h|⟨_,_,h⟩
    ·exact bs h (ahI c)
    exact h
   have hold: ∃G iv,p[y]? =aa G/\G[A]? =aa iv/\iv=x:=by
    by_cases y0:y=i
    ·subst y0;rw[iQ N] at dd;cases dd;rw[mw (by intro e;exact DD ⟨rfl,e.symm⟩)] at cB;exact⟨o,x,aJ,cB,rfl⟩
    rw[mw (Ne.symm y0)] at dd;exact⟨W,x,dd,cB,rfl⟩
   obtain⟨G,iv,d1,d2,rfl⟩:=hold;have tj:=a5 y A G iv u d1 d2 fi;have Sw: ∀c,(B y A c\/(y=i/\A=j/\At M F c))↔B y A c:=λc=>⟨λh=>by
    rcases h with h|⟨C,L,_⟩
    ·exact h
    exact bs ⟨C,L⟩ DD,.inl⟩
   refine⟨λv bZ=>?_,λcK=>?_⟩
   ·obtain⟨C,L⟩:=tj.1 v (eZ _ bZ);exact⟨C.mono (Ext.refl _ _) (λc _=>R c) hm' (Shaped.refl _ _),λc hx=>L c ((Sw c).1 hx)⟩
   refine((tj.2 λv bZ=>?_).mono (Ext.refl _ _) (λc _=>R c) λ_ _=>rfl).iff Sw;rcases d'.1 bZ with e|bZ
   ·cases e;exact DD ⟨rfl,rfl⟩
   exact cK v bZ
  ·intro y A c I;rcases I with I|⟨rfl,rfl,I⟩
   ·simpa using jP y A c I
   refine⟨by simpa using N,O,λe=>?_⟩;subst e;exact X c I U
  ·intro i1 ze i2 n0 c C L;rcases C with C|⟨rfl,rfl,C⟩<;>rcases L with L|⟨rfl,rfl,L⟩
   ·exact hM _ _ _ _ c C L
   ·exact bs (R8 _ _ c C) (X c L)
   ·exact bs (R8 _ _ c L) (X c C)
   exact⟨rfl,rfl⟩
  intro c;constructor
  ·rintro(⟨_,C|C⟩|⟨C,_⟩)
   ·obtain⟨y,A,I⟩:=(fH c).1 C;exact⟨y,A,.inl I⟩
   ·exact⟨i,j,.inr ⟨rfl,rfl,C⟩⟩
   exact bs rfl C
  rintro⟨y,A,I|⟨_,_,I⟩⟩
  ·exact .inl ⟨rfl,.inl ((fH c).2 ⟨y,A,I⟩)⟩
  exact .inl ⟨rfl,.inr I⟩
 exact bs (by rw[hrl];simpa[Nat.blt_eq] using aiw) f
theorem Rel.KW{K:Ctx}{s:S}(h:Rel K β s a w)(k:Nat)(e e':E)(q:s.H k=aa e)(r:cY β w (own K β s.H) k e->cY β w (own K β s.H) k e'):
  Rel K β {s with H:=aZ s.H k (aa e')} a w:=by
 have c: ∀b,own K β (aZ s.H k (aa e')) b->own K β s.H b:=by
  rintro b (l|⟨id,m,n⟩)
  ·exact .inl l
  refine .inr ⟨id,λp=>?_,n⟩;by_cases o:id=k
  ·subst o;rw[q] at p;cases p
  rw[cg _ _ _ _ o] at m;exact m p
 refine {h with heap:= ?_,dB:=λi=>(h.dB i).mono (Ext.refl _ _) (λb _=>c b) (dX.refl _) (Shaped.refl _ _)};intro id x l;have l:aZ s.H k (aa e') id=aa x:=l;by_cases o:id=k
 ·subst o;rw[cd] at l;cases l;obtain⟨m,n⟩:=h.heap id e q;exact⟨m,(r n).mono (Ext.refl _ _) (λb _=>c b) (dX.refl _) (λ_ h=>h) (Shaped.refl _ _) λ_ _=>rfl⟩
 rw[cg _ _ _ _ o] at l;obtain⟨m,n⟩:=h.heap id x l;exact⟨m,n.mono (Ext.refl _ _) (λb _=>c b) (dX.refl _) (λ_ h=>h) (Shaped.refl _ _) λ_ _=>rfl⟩
theorem acj{K:Ctx}{s:S}(k i j:Nat){l:List dM}{gen:Nat}{c:List (List T)}{q:List T}{x:T}{n:List (Nat×Nat×V)}(D:s.H k=aa (.aN l m gen c n))(y:c[i]? =aa q)(F:q[j]? =aa x)(G:(aR l m).ej j=aj)(L:sc j n=ab):
  s.le K {s with H:=aZ s.H k (aa (.aN l m gen c ((i,j,.t x)::n)))}:=by
 intro Q a w h;refine⟨Q,h.KW k _ (.aN l m gen c ((i,j,.t x)::n)) D λp=>?_⟩;refine⟨p.1,?_⟩;rcases p.2 with ⟨aL,a2,_⟩|⟨b,R,B,aL,a2,a3,a4,a5,jP,hM,fH⟩
 ·rw[a2] at y;simp at y
 refine .inr ⟨b,R,B,aL,a2,a3,a4,λW X r f u A C I=>?_,jP,hM,fH⟩;have o:=a5 W X r f u A C I;refine⟨λv bZ=>?_,λM=>o.2 λv bZ=>M v (eZ _ bZ)⟩;rcases d'.1 bZ with e|bZ
 ·simp only[Prod.mk.injEq] at e;obtain⟨rfl,rfl,rfl⟩:=e;rw[y] at A;cases A;rw[F] at C;cases C
  have:=o.2 λv=>AZ L _ _;rw[G] at this;cases this with|fs _ _ _ h N=>exact⟨.t _ _ h,N⟩
 exact o.1 v bZ
theorem ZV{K:Ctx}{s:S}(k i j:Nat){C:List dM}{gen:Nat}{n:List (List T)}{l:List T}{x:T}{M:List (Nat×Nat×V)}(hk:s.H k=aa (.aN C m gen n ((i,j,.t x)::M)))(D:n[i]? =aa l)(Y:dw j (aR C m).size=ab)(hm:(aR C m).ej j=aj)(bS:sc j M=ab):
  s.le K {s with H:=aZ s.H k (aa (.aN C m gen (n.set i (l.set j x)) M))}:=by
 intro β a w h;refine⟨β,h.KW k _ (.aN C m gen (n.set i (l.set j x)) M) hk λG=>?_⟩;refine⟨G.1,?_⟩;rcases G.2 with ⟨aL,a2,_⟩|⟨b,us,B,aL,a2,a3,a4,a5,jP,hM,fH⟩
 ·rw[a2] at D;simp at D
 have L:=(b5.1 D).1;have Q:l.length=(aR C m).size:=a4 l (bT D);have q:j<l.length:=by rw[Q];simpa[Nat.blt_eq] using Y
 refine .inr ⟨b,us,B,aL,a2,by simpa using a3,λr b8=>?_,λy A R j2 u F W fi=>?_,λy A c a1=>by simpa using jP y A c a1,hM,fH⟩
 ·rcases xd b8 with b8|rfl
  ·exact a4 r b8
  simpa using Q
 by_cases X:y=i/\A=j
 ·obtain⟨rfl,rfl⟩:=X;rw[iQ L] at F;cases F;rw[iQ q] at W;cases W;have p:=(a5 y A l l[A] u D (bu q) fi).1 _ ff;refine⟨λv N=>bs N (AZ bS _ _),λ_=>?_⟩;rw[hm];obtain⟨h1,h2⟩:=p;cases h1 with|t _ _ h1=>exact .fs _ _ _ h1 h2
 have f: ∃o U,n[y]? =aa o/\o[A]? =aa U/\U=j2:=by
  by_cases I:y=i
  ·subst I;rw[iQ L] at F;cases F;rw[mw (by intro e;exact X ⟨rfl,e.symm⟩)] at W;exact⟨l,j2,D,W,rfl⟩
  rw[mw (Ne.symm I)] at F;exact⟨R,j2,F,W,rfl⟩
 obtain⟨o,U,d1,d2,rfl⟩:=f;have p:=a5 y A o U u d1 d2 fi;refine⟨λv N=>p.1 v (eZ _ N),λcK=>p.2 λv N=>?_⟩
 grind
theorem abu{K:Ctx}{s:S}(k i j m2:Nat){A:List dM}{gen:Nat}{n:List (List T)}{l:List T}{I:List (Nat×Nat×V)}(hk:s.H k=aa (.aN A m gen n ((i,j,.t .fp)::I)))(C:n[i]? =aa l)(U:dw j (aR A m).size=ab)(hm:(aR A m).ej j=aa m2)(bS:sc j I=ab):
  s.le K {s with H:=aZ s.H k (aa (.aN A m gen (n.set i (l.set j (.bE []))) I))}:=by
 intro β a w h;refine⟨β,h.KW k _ (.aN A m gen (n.set i (l.set j (.bE []))) I) hk λF=>?_⟩;refine⟨F.1,?_⟩;rcases F.2 with ⟨aL,a2,_⟩|⟨b,us,B,aL,a2,a3,a4,a5,jP,hM,fH⟩
 ·rw[a2] at C;simp at C
 have G:=(b5.1 C).1;have L:l.length=(aR A m).size:=a4 l (bT C);have q:j<l.length:=by rw[L];simpa[Nat.blt_eq] using U
 refine .inr ⟨b,us,B,aL,a2,by simpa using a3,λr Y=>?_,λx y Q j2 u D R fi=>?_,λx y c a1=>by simpa using jP x y c a1,hM,fH⟩
 ·rcases xd Y with Y|rfl
  ·exact a4 r Y
  simpa using L
 by_cases W:x=i/\y=j
 ·obtain⟨rfl,rfl⟩:=W;rw[iQ G] at D;cases D;rw[iQ q] at R;cases R;have p:=(a5 x y l l[y] u C (bu q) fi).1 _ ff;refine⟨λv M=>bs M (AZ bS _ _),λ_=>?_⟩;rw[hm];obtain⟨h1,h2⟩:=p;cases h1 with|t _ _ h1=>cases h1 with|fp=>exact .nil _ _ h2
 have X: ∃o N,n[x]? =aa o/\o[y]? =aa N/\N=j2:=by
  by_cases f:x=i
  ·subst f;rw[iQ G] at D;cases D;rw[mw (by intro e;exact W ⟨rfl,e.symm⟩)] at R;exact⟨l,j2,C,R,rfl⟩
  rw[mw (Ne.symm f)] at D;exact⟨Q,j2,D,R,rfl⟩
 obtain⟨o,N,d1,d2,rfl⟩:=X;have p:=a5 x y o N u d1 d2 fi;refine⟨λv M=>p.1 v (eZ _ M),λcK=>p.2 λv M=>?_⟩
 grind
theorem aci{K:Ctx}{s:S}(k:Nat){Q:List dM}{gen:Nat}{e:List (List T)}{C:List (Nat×Nat×V)}(l:List dM)(o:Nat)(G:s.H k=aa (.aN Q m gen e C))(L:dD K.dZ k=ab)
  (h1:(aR l o).ty=(aR Q m).ty) (R:(aR l o).size=(aR Q m).size) (h3:(aR l o).bm=[]):
  s.le K {s with H:=aZ s.H k (aa (.aN l o gen e C))}:=by
 have nT:=fg L;have D: ∀j,(aR l o).ej j=aj:=λj=>by unfold dM.ej;rw[h3];rfl
 intro A a w h;have r:=(h.heap k _ G).2;have F:dX A (A.drop k):=λ_ _ _ y=> .inl y;rcases r.2 with ⟨aL,a2,a3⟩|⟨b,us,B,aL,a2,a3,a4,a5,jP,hM,fH⟩
 ·exact⟨_,h.drop k (.aN l o gen e C) (by rw[G];simp) ⟨r.1,.inl ⟨aL,a2,λc n=>n.1 rfl⟩⟩⟩
 refine⟨_,h.drop k (.aN l o gen e C) (by rw[G];simp) ⟨r.1,.inr ⟨b,us,λ_ _ _=>False,aL,by rw[h1];exact a2,by rw[R];exact a3,by rw[R];exact a4,?_,λ_ _ _ n=>n.elim,λ_ _ _ _ _ n=>n.elim,λc=>⟨λn=>(n.1 rfl).elim,λ⟨_,_,n⟩=>n.elim⟩⟩⟩⟩;intro i j W x u dd cB N;rw[R] at N;have U:=a5 i j W x u dd cB N;generalize Y:own K (A.drop k) (aZ s.H k (aa (.aN l o gen e C)))=X';have p: ∀b,X' b->own K A s.H b:=by
  subst Y;rintro b (y|⟨id,X,q⟩)
  ·exact .inl y
  refine .inr ⟨id,λf=>?_,og q⟩;by_cases aJ:id=k
  ·subst aJ;rw[G] at f;cases f
  rw[cg _ _ _ _ aJ] at X;exact X f
 refine⟨λv bZ=>⟨(U.1 v bZ).1.mono (Ext.refl _ _) (λb _=>p b) F (Shaped.refl _ _),λ_ n=>n⟩,λI=>?_⟩;rw[D];refine .fs _ _ _ ((U.2 I).wW p ?_) λ_ n=>n;intro c n y;subst Y;have L:At A k c:= .inr ((fH c).2 ⟨i,j,n⟩);rcases y with y|⟨id,X,q⟩
 ·obtain⟨hl,j3⟩:=h.jK c y;rcases(h.fresh k c L).1 with M|k3
  ·exact j3 M
  omega
 have:=h.inj _ _ _ (og q) L;subst this;rcases q with ⟨g,q⟩|q
 ·have g3:A id=aa (aa c,g):=q
  grind
 exact q.1 rfl
def E.gen:E->Option Nat
 | .cells _=>aj
 | .arr _ g _ _=>aa g
 | .aN _ _ g _ _=>aa g
theorem pA{g:Nat}{e:E}(h:cY G w X n e)(c:e.gen=aa g):1<=g/\ ∃q,G n=aa (q,g):=by
 cases e with
 |cells cs=>cases c
 |arr ty k size a=>
  cases c;exact⟨h.1,by rcases h.2 with ⟨i,_⟩|⟨b,l,i,_⟩<;>exact⟨_,i⟩⟩
 |aN o m k a p=>
  cases c;exact⟨h.1,uD h⟩
theorem Rel.akm{K:Ctx}{s:S}(h:Rel K β s a w)(k:Nat)(e e':E)(g:Nat)(T:s.H k=aa e)(bV:e.gen=aa g)(C:Array Value)(D:TypeId)
  (he: ∀(y:Map) (M:Nat->Prop) (F:World),F=w.alloc (.cells C D)->y k=aa (aa w.heap.size,g+1)->(∀b,y.n k b↔β.n k b)->(∀v u,bt β w (own K β s.H) v u->bt y F M v u)->
   (∀x u,cV w (own K β s.H) x u->cV F M x u)->(∀U m x u N,(∀b,N b->β.n k b)->gk U w (own K β s.H) m x u N->gk U F M m x u N)->cY y F M k e'):
  Rel K (β.put k (aa (aa w.heap.size,g+1))) {s with H:=aZ s.H k (aa e')} a (w.alloc (.cells C D)):=by
 have c: ∀X,Ext X w (w.alloc (.cells C D)):=λX=>Ext.alloc X w _;have G:s.u k=ab:=(h.heap k _ T).1;obtain⟨L,tQ,Q⟩:=pA (h.heap k _ T).2 bV;have l: ∀id b,At (β.put k (aa (aa w.heap.size,g+1))) id b->(id=k/\b=w.heap.size)\/At β id b:=λid b a1=>by
  rcases a1 with ⟨g,a1⟩|a1
  ·by_cases q:id=k
   ·subst q;rw[iG] at a1;cases a1;exact .inl ⟨rfl,rfl⟩
   rw[eS _ _ _ _ q] at a1;exact .inr (.inl ⟨g,a1⟩)
  exact .inr (.inr a1)
 have o: ∀b,b<w.heap.size->own K (β.put k (aa (aa w.heap.size,g+1))) (aZ s.H k (aa e')) b->own K β s.H b:=by
  rintro b hlt (R|⟨id,B,W⟩)
  ·exact .inl R
  rcases l id b W with ⟨rfl,rfl⟩|A
  ·omega
  refine .inr ⟨id,λV=>?_,A⟩;by_cases q:id=k
  ·subst q;rw[T] at V;cases V
  rw[cg _ _ _ _ q] at B;exact B V
 have f:Shaped β w (w.alloc (.cells C D)):=f8 (c _);have j:=Ct tQ (aa w.heap.size) L Q;have I: ∀v u,bt β w (own K β s.H) v u->bt (β.put k (aa (aa w.heap.size,g+1))) (w.alloc (.cells C D)) (own K (β.put k (aa (aa w.heap.size,g+1))) (aZ s.H k (aa e'))) v u:=
  λv u bZ=>bZ.mono (c _) o j f
 refine {ext:=h.ext.trans ((c λ_=>False).weaken λ_ _ h=>h.elim),oY:=h.oY,o7:=h.o7,jK:=h.jK,rs:=h.rs,base:= ?_,jm:=h.jm.ext h.ext.size (c _),low:=h.low,dT:= ?_,ev:=λid b hid=>h.ev id b hid,inj:= ?_,fresh:= ?_,heap:= ?_,dB:=λi=>I _ _ (h.dB i),nt:=h.nt,defers:=h.defers}
 ·exact h.base.grow k g tQ (aa w.heap.size) Q L (iG _ _ _) (λb a1=>by cases a1;exact .inr h.ext.size) λid q=>eS _ _ _ _ q
 ·intro id hid;have r:s.u id=ak:=hid;by_cases e:id=k
  ·subst e;rw[G] at r;cases r
  rw[eS _ _ _ _ e];exact h.dT id r
 ·intro id Y b B W;rcases l id b B with ⟨rfl,rfl⟩|A<;>rcases l Y _ W with ⟨rfl,e⟩|h4
  ·rfl
  ·have:=(h.fresh _ _ h4).2;omega
  ·subst e;have:=(h.fresh _ _ A).2;omega
  exact h.inj _ _ _ A h4
 ·intro id b a1;rcases l id b a1 with ⟨rfl,rfl⟩|A
  ·exact⟨.inr h.ext.size,a7⟩
  exact⟨(h.fresh _ _ A).1,by have:=(h.fresh _ _ A).2;simp;omega⟩
 intro id e2 p;have p:aZ s.H k (aa e') id=aa e2:=p;show s.u id=ab/\cY _ _ (own K _ (aZ s.H k (aa e'))) id e2;by_cases q:id=k
 ·subst q;rw[cd] at p;cases p;exact⟨G,he _ _ _ rfl (iG _ _ _) (λ_=>Iff.rfl) I (λx u R=>R.mono (c _) o) λU m x u N eW b8=>b8.mono (c _) o λb a1=>heap_alloc _ _ _ (h.fresh id b (.inr (eW b a1))).2⟩
 rw[cg _ _ _ _ q] at p;obtain⟨B,W⟩:=h.heap id e2 p;refine⟨B,W.mono (c _) o j (λx R=>by rw[eS _ _ _ _ q];exact R) f λb a1=>heap_alloc _ _ _ (h.fresh id b a1).2⟩
theorem Rel.RP{K:Ctx}{s:S}(h:Rel K β s a w)(k:Nat)(e e':E)(g:Nat)(q:Option Nat)(L:β k=aa (q,g))(A:1<=g)(f:s.H k=aa e)
  (j: ∀(r:Map) (Q:Nat->Prop),r k=aa (q,g+1)->(∀b,r.n k b↔β.n k b)->(∀v u,bt β w (own K β s.H) v u->bt r w Q v u)->(∀b,Q b->own K β s.H b)->cY r w Q k e'):
  Rel K (β.put k (aa (q,g+1))) {s with H:=aZ s.H k (aa e')} a w:=by
 have B:s.u k=ab:=(h.heap k _ f).1;have c: ∀id b,At (β.put k (aa (q,g+1))) id b->At β id b:=λid b a1=>by
  rcases a1 with ⟨g,a1⟩|a1
  ·by_cases m:id=k
   ·subst m;rw[iG] at a1;cases a1;exact .inl ⟨_,L⟩
   rw[eS _ _ _ _ m] at a1;exact .inl ⟨g,a1⟩
  exact .inr a1
 have o: ∀b,own K (β.put k (aa (q,g+1))) (aZ s.H k (aa e')) b->own K β s.H b:=by
  rintro b (R|⟨id,y,C⟩)
  ·exact .inl R
  refine .inr ⟨id,λW=>?_,c id b C⟩;by_cases m:id=k
  ·subst m;rw[f] at W;cases W
  rw[cg _ _ _ _ m] at y;exact y W
 have D:=Ct q q A L;have F: ∀v u,bt β w (own K β s.H) v u->bt (β.put k (aa (q,g+1))) w (own K (β.put k (aa (q,g+1))) (aZ s.H k (aa e'))) v u:=λv u I=>I.mono (Ext.refl _ _) (λb _=>o b) D (Shaped.refl _ _);refine {h with base:= ?_,dT:= ?_,inj:= ?_,fresh:=λid b a1=>h.fresh id b (c id b a1),heap:= ?_,dB:=λi=>F _ _ (h.dB i)}
 ·exact h.base.grow k g q q L A (cd _ _ _) (λb a1=> .inl a1) λid m=>eS _ _ _ _ m
 ·intro id hid;have p:s.u id=ak:=hid;by_cases e:id=k
  ·subst e;rw[B] at p;cases p
  rw[eS _ _ _ _ e];exact h.dT id p
 ·intro id G b y C;exact h.inj id G b (c id b y) (c G b C)
 intro id X l;have l:aZ s.H k (aa e') id=aa X:=l;show s.u id=ab/\cY _ _ (own K _ (aZ s.H k (aa e'))) id X;by_cases m:id=k
 ·subst m;rw[cd] at l;cases l;exact⟨B,j _ _ (iG _ _ _) (λ_=>Iff.rfl) F o⟩
 rw[cg _ _ _ _ m] at l;obtain⟨y,C⟩:=h.heap id X l;exact⟨y,C.mono (Ext.refl _ _) (λb _=>o b) D (λx R=>by rw[eS _ _ _ _ m];exact R) (Shaped.refl _ _) λ_ _=>rfl⟩
theorem abC{size:Nat}{a c:List (List T)}(o p h:List Value)(y:a.length=n)(A:o.length=n*size)(D:p.length=c.length*size)(B: ∀b,b∈a->b.length=size)(q: ∀b,b∈c->b.length=size){R:Nat->Nat->T->Value->Prop}
  (F: ∀(i j:Nat) (b:List T) (x:T) (u:Value),a[i]? =aa b->b[j]? =aa x->o[i*size+j]? =aa u->R i j x u)
  (G: ∀(i j:Nat) (b:List T) (x:T) (u:Value),c[i]? =aa b->b[j]? =aa x->p[i*size+j]? =aa u->R (n+i) j x u):
  ∀(i j:Nat) (b:List T) (x:T) (u:Value),(a++c)[i]? =aa b->b[j]? =aa x->(o++p++h)[i*size+j]? =aa u->R i j x u:=by
 intro i j b x u k w C;by_cases l:i<a.length
 ·rw[jI l] at k;have e:j<size:=by rw[<-B b (bT k)];exact(b5.1 w).1
  have m:i*size+j<o.length:=by rw[A,<-y];exact pc l e
  grind
 rw[jr O] at k;have e:j<size:=by rw[<-q b (bT k)];exact(b5.1 w).1
 have r:=(b5.1 k).1;have m:=pc (size:=size) r e
 grind
def ix(n:Nat):List (Nat×Nat×V)->List (Nat×Nat×V)
 | []=>[]
 |h::hs=>(n+h.1,h.2.1,h.2.2)::ix n hs
theorem Ck{n:Nat}: ∀{hs:List (Nat×Nat×V)} {i j:Nat} {v:V},(i,j,v)∈ix n hs↔ ∃k,i=n+k/\(k,j,v)∈hs
 | [],_,_,_=>by simp[ix]
 |h::hs,i,j,v=>by
  simp only[ix,List.mem_cons,Prod.mk.injEq,Ck (hs:=hs)];constructor
  ·rintro(⟨l,e,m⟩|⟨k,l,e⟩)
   ·exact⟨h.1,l,.inl (by obtain⟨a,b,c⟩:=h;cases e;cases m;rfl)⟩
   exact⟨k,l,.inr e⟩
  rintro⟨k,l,e|e⟩
  ·subst e;exact .inl ⟨l,rfl,rfl⟩
  exact .inr ⟨k,l,e⟩
def Bj(n:Map)(w:World)(X:Nat->Prop)(c:Nat)(a:List (List T))(m:List (Nat×Nat×V))(u:Value):Prop:=
 ∃(b e l:Nat) (k:List Value),u= .slice (aa ⟨b,e,aj⟩) a.length l/\k.length=a.length*c/\
  (∀(j:Nat) x,k[j]? =aa x->w.cell? ⟨b,e+j,aj⟩=aa x)/\(∀x,x∈k->x.oneCell'=ab)/\
  ∀(i j:Nat) (h:List T) (x:T) (y:Value),a[i]? =aa h->h[j]? =aa x->k[i*c+j]? =aa y->(∀v,(i,j,v)∈m->bt n w X v y)/\((∀v,(i,j,v)∉m)->cV w X x y)
def uU:List (Nat×Nat×V)->Bool
 | []=>ab
 |h::a=>h.2.2.one&&uU a
theorem Ni: ∀{a:List (Nat×Nat×V)} {i j:Nat} {v:V},uU a=ab->(i,j,v)∈a->v.one=ab
 | [],_,_,_,_,h=>by cases h
 |h::a,i,j,v,b,hm=>by
  simp only[uU,cx] at b;rcases d'.1 hm with rfl|hm
  ·exact b.1
  exact Ni b.2 hm
def uM(d:dM)(n:Nat)(a:List (Nat×Nat×V)):Bool:=
 (List.range n).all λi=>d.bm.all λp=>a.any λh=>cc h.1 i&&cc h.2.1 p.1
theorem OA: ∀{l:List (Nat×Nat)} {j m:Nat},vm l j=aa m->(j,m)∈l
 | [],_,_,h=>by cases h
 |p::l,j,m,h=>by
  simp only[vm] at h;cases a:cc p.1 j with
  |true=>rw[a] at h;cases h;rw[<-m0 a];exact ff
  |false=>rw[a] at h;exact eZ _ (OA h)
theorem NA{d:dM}(h:uM d n hs=ab){j:Nat}(e:i<n)(k:d.ej j=aa m): ∃v,(i,j,v)∈hs:=by
 have l:=gD.1 h i (qt.2 e);have o:=gD.1 l (j,m) (OA k);obtain⟨⟨a,b,v⟩,p,c⟩:=jo.1 o;simp only[cx] at c;have q:=m0 c.1;have r:=m0 c.2
 grind
theorem Bj.of{K:Ctx}{s:S}(h:Rel K β s a w){g:Nat}{l:List dM}{c:List (List T)}{r:List (Nat×Nat×V)}{u:Value}(hk:s.H k=aa (.aN l m g c r))(cK:n=c.length)
  (hu:bt β w (own K β s.H) (.bo k g (aR l m).size 0 n) u) (N:0<c.length) (et:uU r=ab) (bS:uM (aR l m) c.length r=ab):Bj β w (own K β s.H) (aR l m).size c r u:=by
 subst cK;have W:=(h.heap k _ hk).2;rcases W.2 with ⟨_,D,_⟩|⟨b,U,B,aL,a2,a3,a4,a5,jP,hM,fH⟩
 ·rw[D] at N;simp at N
 rcases fl hu aL with ⟨X,hr,KI,jn,rfl,f,hw,hU,p1,cC,hm⟩|⟨f,_⟩
 ·cases f;rw[gQ];have A: ∀(i j:Nat) (o:List T) (x:T) (y:Value),c[i]? =aa o->o[j]? =aa x->U[i*(aR l m).size+j]? =aa y->
    (∀v,(i,j,v)∈r->bt β w (own K β s.H) v y)/\((∀v,(i,j,v)∉r)->cV w (own K β s.H) x y):=by
   intro i j o x y C D R;have F:=a5 i j o x y C D R;refine⟨λv p=>(F.1 v p).1,λG=>?_⟩;have Y:=F.2 G;have L:(aR l m).ej j=aj:=by
    cases I:(aR l m).ej j with
    |none=>rfl
    |some al_=>
     obtain⟨v,p⟩:=NA bS (b5.1 C).1 I;exact bs p (G v)
   rw[L] at Y;cases Y with|fs _ _ _ h _=>exact h
  refine⟨b,0,X,U.toList.take (c.length*(aR l m).size),rfl,b6,λj x q=>?_,λx hx=>?_,λi j o x y C D R=>?_⟩
  ·rw[gC] at q;split at q
   ·simp only[World.cell?,a2,Nat.zero_add];simpa using q
   cases q
  ·obtain⟨j,q⟩:=j1.1 hx;rw[gC] at q;split at q
   ·rename_i Q;have ep:0<(aR l m).size:=Nat.pos_of_ne_zero λe=>by rw[e] at Q;omega
    have C:j / (aR l m).size<c.length:=by rw[xa ep];exact Q
    have D:=Nat.mod_lt j ep;have R:=a4 _ (gg C);have he:j / (aR l m).size*(aR l m).size+j%(aR l m).size=j:=by rw[Nat.mul_comm];exact Nat.div_add_mod ..
    obtain⟨c1,c2⟩:=A (j / (aR l m).size) (j%(aR l m).size) _ _ x (bu C) (bu (by omega:j%(aR l m).size<(c[j / (aR l m).size]).length)) (by rw[he];simpa using q);by_cases p: ∃v,(j / (aR l m).size,j%(aR l m).size,v)∈r
    ·obtain⟨v,p⟩:=p;exact(c1 v p).jF (Ni et p)
    exact(c2 λv M=>p ⟨v,M⟩).jF
   cases q
  rw[gC] at R
  grind
 cases f
theorem Rel.RN{K:Ctx}{s:S}{t:TypeId}{u:TypeDesc}{z:Value}{gen G bytes:Nat}(h:Rel K β s a w)(k:Nat)(r:List dM)(m:Nat)(l o:List (List T))(C:List (Nat×Nat×V))(hk:s.H k=aa (.aN r m gen l []))(vM:(aR r m).size=G)(nQ:(aR r m).ty=e)(ty:TypeId)
  (hu:K.P.underlying t=aa (.slice e)) (he:cr K.P e u z G bytes) (o1:z.cells.size=G) (hs: ∀p,p∈l->p.length=G) (hs': ∀p,p∈o->p.length=G) (v x:Value) (bZ:bt β w (own K β s.H) (.bo k gen G 0 l.length) v)
  (hx:Bj β w (own K β s.H) G o C x) (SL:0<o.length) (ah4:uM (aR r m) o.length C=ab) (a1:(l.length+o.length)*bytes<=140737488355328) (hm:l.length+o.length<=maxLen):
  ∃dC w' D,(iX #[t,t] ty #[v,x]).run K.P w= .ok dC w'/\Rel K D {s with H:=aZ s.H k (aa (.aN r m (gen+1) (l++o) (ix l.length C)))} a w'/\
   bt D w' (own K D (aZ s.H k (aa (.aN r m (gen+1) (l++o) (ix l.length C))))) (.bo k (gen+1) G 0 (l.length+o.length)) dC:=by
 subst vM;subst nQ;obtain⟨q,hq⟩:=uD (h.heap k _ hk).2;have jc:=(h.heap k _ hk).2.1;obtain⟨_,i,oZ,hi2,Y,rl⟩:=id he;have hm':l.length+o.length<=9223372036854775807:=by unfold maxLen at hm;omega
 have hE:=(h.heap k _ hk).2.2;have y6: ∀p,p∈l++o->p.length=(aR r m).size:=λp rn=>by
  rcases eY.1 rn with h|h
  ·exact hs p h
  exact hs' p h
 obtain⟨cB,off,Dr,X,za,o0,y',lC,hwr⟩:=hx;have Ks: ∀j y,X[j]? =aa y->w.cell? ((⟨cB,off,aj⟩:Addr).add j)=aa y:=λj y hy=>by rw[jA];exact y' j y hy
 have k2:(l.length+o.length)*i.bytes<=140737488355328:=by rw[rl];exact a1
 have aiy: ∀i j,i<o.length->(∀v,(i,j,v)∉C)->(aR r m).ej j=aj:=λi j aJ mg=>by
  cases hkk:(aR r m).ej j with
  |none=>rfl
  |some al_=>
   obtain⟨v,bZ⟩:=NA ah4 aJ hkk;exact bs bZ (mg v)
 -- the cells of old and new rows, in whatever world
 have N: ∀(B:Nat->Nat->Nat->Prop) (D:Map) (w':World) (X':Nat->Prop),(∀v u,bt β w (own K β s.H) v u->bt D w' X' v u)->(∀x u,cV w (own K β s.H) x u->cV w' X' x u)->
   (∀i j c,B i j c->i<l.length)-> ∀(I rest:List Value),I.length=l.length*(aR r m).size->
   (∀(i j:Nat) (p:List T) (x:T) (u:Value),l[i]? =aa p->p[j]? =aa x->I[i*(aR r m).size+j]? =aa u->gk r w' X' ((aR r m).ej j) x u (B i j))->
   ∀(i j:Nat) (p:List T) (x:T) (u:Value),(l++o)[i]? =aa p->p[j]? =aa x->(I++X++rest)[i*(aR r m).size+j]? =aa u->Cell r m (ix l.length C) D w' X' i j x u (B i j):=by
  intro B D w' X' lz mh dQ I rest p4 tr;refine abC I X rest rfl p4 o0 hs hs' (R:=λi j x u=>Cell r m (ix l.length C) D w' X' i j x u (B i j)) (λi j p x u h1 h2 h3=>⟨λv bZ=>?_,λ_=>tr i j p x u h1 h2 h3⟩) λi j p x u h1 h2 h3=>⟨λv bZ=>?_,λmg=>?_⟩
  ·obtain⟨jd,e1,_⟩:=Ck.1 bZ
   have:=(b5.1 h1).1;omega
  ·obtain⟨jd,e1,e2⟩:=Ck.1 bZ
   have:jd=i:=O
   subst this;exact⟨lz _ _ ((hwr jd j p x u h1 h2 h3).1 v e2),λc L=>by have:=dQ _ _ _ L;omega⟩
  have SH: ∀v,(i,j,v)∉C:=λv bZ=>mg v (Ck.2 ⟨i,rfl,bZ⟩);rw[aiy i j (b5.1 h1).1 SH];exact .fs _ _ _ (mh _ _ ((hwr i j p x u h1 h2 h3).2 SH)) (λc L=>by have:=dQ _ _ _ L;omega)
 -- a new block
 have finish: ∀(B:Nat->Nat->Nat->Prop) (I:List Value) (A:Nat),I.length=l.length*(aR r m).size->l.length+o.length<=A->A<=maxLen->
   (∀(i j:Nat) (p:List T) (x:T) (u:Value),l[i]? =aa p->p[j]? =aa x->I[i*(aR r m).size+j]? =aa u->gk r w (own K β s.H) ((aR r m).ej j) x u (B i j))->
   (∀i j c,B i j c->i<l.length/\j<(aR r m).size)->(∀i j jd ey c,B i j c->B jd ey c->i=jd/\j=ey)->(∀c,β.n k c↔ ∃i j,B i j c)->
   ∃D,Rel K D {s with H:=aZ s.H k (aa (.aN r m (gen+1) (l++o) (ix l.length C)))} a (w.drew.alloc (.cells (I.toArray++X.toArray++ea z.cells (A-(l.length+o.length))) (aR r m).ty))/\
    bt D (w.drew.alloc (.cells (I.toArray++X.toArray++ea z.cells (A-(l.length+o.length))) (aR r m).ty)) (own K D (aZ s.H k (aa (.aN r m (gen+1) (l++o) (ix l.length C))))) (.bo k (gen+1) (aR r m).size 0 (l.length+o.length)) (.slice (aa ⟨w.heap.size,0,aj⟩) (l.length+o.length) A):=by
  intro B I A p4 Sr hcm Ko dQ cO eW;have y5:(I.toArray++X.toArray++ea z.cells (A-(l.length+o.length))).size=A*(aR r m).size:=by
   simp only[Array.size_append,List.size_toArray,size_zeroCells,o1,p4,o0,<-Nat.add_mul];congr 1;omega
  have vO:=uA h;have tn:=vO.akm k _ (.aN r m (gen+1) (l++o) (ix l.length C)) gen hk rfl (I.toArray++X.toArray++ea z.cells (A-(l.length+o.length))) (aR r m).ty
   (λD X' w' hw' Ku cK lz mh tr=>⟨O,.inr ⟨w.heap.size,_,B,Ku,by subst hw';exact jQ w.drew _,by rw[y5,dm];exact dU _ Sr,y6,
    λi j p x u aL a2 a3=>N B D w' X' (λv u Kq=>lz v u (Kq.mono (Ext.drew _ _) (λ_ _ h=>h) (dX.refl _) (f8 (Ext.drew _ _)))) (λx u Kt=>mh x u (Kt.mono (Ext.drew _ _) λ_ _ h=>h)) (λi j c L=>(dQ i j c L).1) I (ea z.cells (A-(l.length+o.length))).toList p4
     (λi j p x u dd cB fi=>tr r _ x u (B i j) (λc L=>(eW c).2 ⟨i,j,L⟩) ((Ko i j p x u dd cB fi).mono (Ext.drew _ _) (λ_ _ h=>h) λ_ _=>rfl)) i j p x u aL a2 (by simpa[<-Array.getElem?_toList] using a3),
    λi j c L=>⟨by have:=(dQ i j c L).1;rw[dm];omega,(dQ i j c L).2,λe0=>by have:=(h.fresh k c (.inr ((eW c).2 ⟨i,j,L⟩))).2;rw[e0] at this;exact Nat.lt_irrefl _ this⟩,cO,λc=>(cK c).trans (eW c)⟩⟩)
  refine⟨_,tn,?_⟩;have lB:bt (β.put k (aa (aa w.heap.size,gen+1))) (w.drew.alloc (.cells (I.toArray++X.toArray++ea z.cells (A-(l.length+o.length))) (aR r m).ty)) (own K (β.put k (aa (aa w.heap.size,gen+1))) (aZ s.H k (aa (.aN r m (gen+1) (l++o) (ix l.length C))))) (.bo k (gen+1) (aR r m).size 0 (l.length+o.length)) (.slice (aa ⟨w.heap.size,0*(aR r m).size,aj⟩) (l.length+o.length) A):=by
   have rm:=jQ w.drew (.cells (I.toArray++X.toArray++ea z.cells (A-(l.length+o.length))) (aR r m).ty);refine .bo k (gen+1) (aR r m).size 0 _ A w.heap.size (A*(aR r m).size) (aR r m).ty O (cd _ _ _) a7 ?_ (by rw[dI]) Sr hcm;have Kg:(w.drew.alloc (.cells (I.toArray++X.toArray++ea z.cells (A-(l.length+o.length))) (aR r m).ty)).heap[w.heap.size]? =aa (.cells (I.toArray++X.toArray++ea z.cells (A-(l.length+o.length))) (aR r m).ty):=rm;unfold gj;rw[Kg];simp only[y5]
  rw[gQ] at lB;exact lB
 subst za;rcases fl bZ hq with ⟨f,b,n,jn,rfl,hb',hw,hU,p1,cC,ly⟩|⟨hb',_,Kf,rfl⟩
 rotate_left
 ·have p2:l=[]:=ns Kf;subst p2;have Q:=run_append_nil (P:=K.P) w t ty (aR r m).ty i z hu oZ hi2 ⟨cB,off,aj⟩ o.length Dr X (by rw[Y];exact o0) Ks SL O (by simp at k2;omega);subst hb';have aiK: ∀c,¬β.n k c:=by
   rcases hE with ⟨_,_,h0⟩|⟨b,I,B,h1,_⟩
   ·exact h0
   rw[hq] at h1;cases h1
  obtain⟨D,f1,f2⟩:=finish (λ_ _ _=>False) [] (grownCap w o.length 0 (aR r m).ty) a7 (by simpa using grownCap_ge w o.length 0 (aR r m).ty) (grownCap_le_maxLen w _ 0 (aR r m).ty (by unfold maxLen;simp at hm';omega)) (λi j p x u h1 _ _=>by simp at h1)
   (λ_ _ _ h=>h.elim) (λ_ _ _ _ _ h=>h.elim) λc=>⟨λL=>bs L (aiK c),λ⟨_,_,h⟩=>h.elim⟩
  simp only[List.length_nil,Nat.zero_add] at f1 f2⊢;exact⟨_,_,D,by rw[Q];simp,f1,f2⟩
 subst hb';rcases hE with ⟨g1,_⟩|⟨hr,F,B,g1,g2,g3,g4,g5,g6,g7,g8⟩
 ·rw[hq] at g1;cases g1
 rw[hq] at g1;cases g1;have lx:F.size=f*(aR r m).size:=by
  unfold gj at hU;rw[g2] at hU;simp at hU;rw[<-p1] at hU;rw[dI] at hU;exact hU.2
 have ts:(F.toList.take (l.length*(aR r m).size)).length=l.length*(aR r m).size:=b6
 have mh: ∀(i j:Nat) (p:List T) (x:T) (u:Value),l[i]? =aa p->p[j]? =aa x->(F.toList.take (l.length*(aR r m).size))[i*(aR r m).size+j]? =aa u->gk r w (own K β s.H) ((aR r m).ej j) x u (B i j):=by
  intro i j p x u h1 h2 h3;rw[gC] at h3;split at h3
  ·exact(g5 i j p x u h1 h2 (by simpa using h3)).none
  cases h3
 simp only[Nat.zero_mul];by_cases M:l.length+o.length<=f
 ·have nS:l.length*(aR r m).size+X.length<=F.size:=by rw[o0,lx,<-ed];exact dU _ M
  have Q:=run_append_room (P:=K.P) w t ty (aR r m).ty i hu oZ b l.length f F g2 ⟨cB,off,aj⟩ o.length Dr X (by rw[Y];exact o0) Ks lC M (by rw[Y];exact nS);rw[Y] at Q;have U:(F.toList.take (l.length*(aR r m).size)++X++F.toList.drop (l.length*(aR r m).size+X.length)).toArray.size=F.size:=by
   simp;omega
  generalize mf:w.setRow b (F.toList.take (l.length*(aR r m).size)++X++F.toList.drop (l.length*(aR r m).size+X.length)).toArray=W at Q;have aiO:own K β s.H b:= .inr ⟨k,by rw[hk];simp,.inl ⟨_,hq⟩⟩;have J8:Ext (own K β s.H) w W:=by
   subst mf;exact⟨rfl,rfl,rfl,a7,λkk _ hx=>setRow_other _ _ _ _ λe0=>hx (e0▸aiO)⟩
  have ai2:Shaped β w W:=by subst mf;intro hr _;exact Gu g2 U hr
  have hrel:=h.setRow k b (.inl ⟨_,hq⟩) F (aR r m).ty g2 (F.toList.take (l.length*(aR r m).size)++X++F.toList.drop (l.length*(aR r m).size+X.length)).toArray U (.aN r m gen (l++o) (ix l.length C)) (by rw[hk];simp)
   ⟨jc,Or.inr ⟨b,_,B,hq,setRow_heap _ _ _ _ _ _ g2,by rw[U,lx,dm];exact dU _ M,y6,
    λi j p x u aL a2 a3=>by
     rw[mf];exact N B β W (own K β s.H) (λv u Kq=>Kq.mono J8 (λ_ _ h=>h) (dX.refl _) ai2) (λx u Kt=>Kt.mono J8 λ_ _ h=>h) (λi j c L=>(g6 i j c L).1) _ _ ts
      (λi j p x u dd cB fi=>(mh i j p x u dd cB fi).mono J8 (λ_ _ h=>h) λc L=>by subst mf;exact setRow_other _ _ _ _ (g6 i j c L).2.2) i j p x u aL a2 (by simpa using a3),
    λi j c L=>⟨by have:=(g6 i j c L).1;rw[dm];omega,(g6 i j c L).2⟩,g7,g8⟩⟩
  rw[mf] at hrel;have y4:=hrel.RP k (.aN r m gen (l++o) (ix l.length C)) (.aN r m (gen+1) (l++o) (ix l.length C)) gen (aa b) hq jc (cd _ _ _) (λD X' Ku cK lz gZ=>by
   have jB:=(hrel.heap k _ (cd _ _ _)).2;rcases jB.2 with ⟨e1,_⟩|⟨hr,fq,UB,e1,e2,mP,yJ,pS,alX,alY,alZ⟩
   ·rw[hq] at e1;cases e1
   rw[hq] at e1;cases e1;exact⟨O,.inr ⟨b,fq,UB,Ku,e2,mP,yJ,λi j p x u c1 c2 c3=>⟨λv bZ=>⟨lz _ _ ((pS i j p x u c1 c2 c3).1 v bZ).1,((pS i j p x u c1 c2 c3).1 v bZ).2⟩,λmg=>((pS i j p x u c1 c2 c3).2 mg).mono (Ext.refl _ _) (λc _=>gZ c) λ_ _=>rfl⟩,alX,alY,λc=>(cK c).trans (alZ c)⟩⟩)
  have yT:aZ (aZ s.H k (aa (.aN r m gen (l++o) (ix l.length C)))) k (aa (.aN r m (gen+1) (l++o) (ix l.length C)))=aZ s.H k (aa (.aN r m (gen+1) (l++o) (ix l.length C))):=by
   funext j;by_cases hj:j=k
   ·subst hj;rw[cd,cd]
   rw[cg _ _ _ _ hj,cg _ _ _ _ hj,cg _ _ _ _ hj]
  simp only[yT] at y4;refine⟨_,_,_,Q,y4,?_⟩;have lB:bt (β.put k (aa (aa b,gen+1))) W (own K (β.put k (aa (aa b,gen+1))) (aZ s.H k (aa (.aN r m (gen+1) (l++o) (ix l.length C))))) (.bo k (gen+1) (aR r m).size 0 (l.length+o.length)) (.slice (aa ⟨b,0*(aR r m).size,aj⟩) (l.length+o.length) f):=by
   refine .bo k (gen+1) (aR r m).size 0 _ f b (f*(aR r m).size) (aR r m).ty O (cd _ _ _) (by subst mf;simpa using hw) ?_ (by rw[dI]) M ly;subst mf;unfold gj;rw[setRow_heap _ _ _ _ _ _ g2];simp only[U,lx]
  rw[gQ] at lB;exact lB
 have holds: ∀j u,(F.toList.take (l.length*(aR r m).size))[j]? =aa u->w.cell? ((⟨b,0,aj⟩:Addr).add j)=aa u:=by
  intro j u hj;rw[jA,dI];rw[gC] at hj;split at hj
  ·simp only[World.cell?,g2];simpa using hj
  cases hj
 have Q:=run_append_grow (P:=K.P) w t ty (aR r m).ty i z hu oZ hi2 ⟨b,0,aj⟩ l.length f (F.toList.take (l.length*(aR r m).size)) (by rw[Y];exact ts) holds ⟨cB,off,aj⟩ o.length Dr X (by rw[Y];exact o0) Ks O O (growslice_fits O k2);obtain⟨D,f1,f2⟩:=finish B (F.toList.take (l.length*(aR r m).size)) (grownCap w (l.length+o.length) f (aR r m).ty) ts (grownCap_ge w _ f (aR r m).ty) (grownCap_le_maxLen w _ f (aR r m).ty hm) mh (λi j c L=>⟨(g6 i j c L).1,(g6 i j c L).2.1⟩) g7 g8;exact⟨_,_,D,Q,f1,f2⟩
def u5(a:Nat)(b:List V):List (Nat×Nat×V)->List (Nat×Nat×V)
 | []=>[]
 |h::c=>(h.1,h.2.1,match dD a h.2.1,b[h.2.1-a]? with
  |true,aa v=>v
  |_,_=>h.2.2)::u5 a b c
theorem Hj{off:Nat}{vs:List V}{i j:Nat}{v:V}: ∀{a:List (Nat×Nat×V)},(i,j,v)∈a-> ∃b,(i,j,b)∈u5 off vs a
 |h::a,hm=>by
  rcases d'.1 hm with rfl|hm
  ·exact⟨_,ff⟩
  obtain⟨b,c⟩:=Hj hm;exact⟨b,eZ _ c⟩
theorem G4{n:Nat}{Y:List V}{i j:Nat}{v:V}: ∀{b:List (Nat×Nat×V)},(i,j,v)∈u5 n Y b-> ∃a,(i,j,a)∈b/\(n<=j-> ∀x,Y[j-n]? =aa x->v=x)/\(¬(n<=j/\j<n+Y.length)->v=a)
 |h::b,hm=>by
  rcases d'.1 hm with e|hm
  ·simp only[Prod.mk.injEq] at e;obtain⟨rfl,rfl,rfl⟩:=e;refine⟨h.2.2,ff,λk x c=>?_,λl=>?_⟩
   ·rw[Nat.ble_eq_true_of_le k,c]
   split
   ·rename_i v m c
    have:=(b5.1 c).1
    have:=fg m;exact bs ⟨this,O⟩ l
   rfl
  obtain⟨a,o,p⟩:=G4 hm;exact⟨a,eZ _ o,p⟩
theorem abJ{e:List dM}{gen:Nat}{a:List (List T)}{l:List (Nat×Nat×V)}(h:cY G w X k (.aN e m gen a l)){q:List T}{c:T}(r:a[i]? =aa q)(A:q[n]? =aa c):
  ∃(b:Nat) (o:Array Value) (N:Nat->Prop) (x:Value),G k=aa (aa b,gen)/\w.heap[b]? =aa (.cells o (aR e m).ty (0,0))/\o[i*(aR e m).size+n]? =aa x/\Cell e m l G w X i n c x N:=by
 rcases h.2 with ⟨_,y,_⟩|⟨b,o,B,C,y,L,Q,D,_⟩
 ·rw[y] at r;simp at r
 have F:i<a.length:=(b5.1 r).1;have R:n<(aR e m).size:=by
  grind
 have p:i*(aR e m).size+n<o.size:=by
  have:(i+1)*(aR e m).size<=a.length*(aR e m).size:=dU _ F
  grind
 exact⟨b,o,_,o[i*(aR e m).size+n],C,y,by simp[p],D i n q c _ r A (by simp[p])⟩
section oB
variable {P:Program}{H:Nat->Option E}{d:Option Tmp}{ty:TypeId}{pos:String}{af:Array Edge}{g:Option (Nat×Bool)}
variable {t:TypeId}{u:TypeDesc}{z:Value}{size bytes:Nat}
theorem E9(x:Operand)(o gen i a:Nat)(n:List dM)(m:Nat)(B:Nat)(e:List (List T))(p:List (Nat×Nat×V))(l:List T)(c:T)(v:V)(G:cr P t u z size bytes)(L:kU u=ak)(Q:H o=aa (.aN n m gen e p))(R:(aR n m).size=B)
  (W:e[i]? =aa l) (f:l[a]? =aa c) (q:(i,a,v)∈p\/((∀v,(i,a,v)∉p)/\(aR n m).ej a=aj/\v= .t c)):
  cv P H ⟨d,.load t x,ty,pos,af,g⟩ [.cR o gen B i a] v:=by
 subst R;intro β w X ρ j I;obtain⟨b,us,N,y,M,U,C,D⟩:=abJ (j o _ Q) W f;obtain⟨hr,r,Y⟩:=qg I.1 M;cases r;have hlt:=(iR.1 C).1;have k:w.cell? ⟨b,i*(aR n m).size+a,aj⟩=aa y:=by
  simp only[World.cell?,U];exact C
 refine⟨y,?_,?_⟩
 ·simp[execOp,Y,Instr.loadAt,Instr.sureAddr,G.Er w L k]
 rcases q with q|⟨A,hk,rfl⟩
 ·exact(D.1 v q).1
 have F:=D.2 A;rw[hk] at F;cases F with|fs _ _ _ h _=>exact .t _ _ h
theorem Mv(x:Operand)(r gen i a:Nat)(k:List dM)(m:Nat)(Q:Nat)(e:List (List T))(R:List (Nat×Nat×V))(h:List T)(y:List V)(W:cr P t u z size bytes)(f:kU u=ab)(I:H r=aa (.aN k m gen e R))(M:(aR k m).size=Q)
  (n:e[i]? =aa h) (cC:a+size<=h.length) (o:y.length=size) (N: ∀j v,y[j]? =aa v->(i,a+j,v)∈R):
  cv P H ⟨d,.load t x,ty,pos,af,g⟩ [.cR r gen Q i a] (.agg y):=by
 subst M;intro β w X ρ U Y;rcases(U r _ I).2 with ⟨_,A,_⟩|⟨b,C,B,h1,A,h3,h4,h5,_⟩
 ·rw[A] at n;simp at n
 obtain⟨hr,D,hx⟩:=qg Y.1 h1;cases D;have aJ:i<e.length:=(b5.1 n).1;have hrl:h.length=(aR k m).size:=h4 h (bT n);have p: ∀j,j<size->i*(aR k m).size+a+j<C.size:=by
  intro j q
  have:(i+1)*(aR k m).size<=e.length*(aR k m).size:=dU _ aJ
  grind
 have l: ∀j,j<size->w.cell? ⟨b,i*(aR k m).size+a+j,aj⟩=aa (C.getD (i*(aR k m).size+a+j) undef):=λj q=>by
  have:=p j q;simp[World.cell?,A,this]
 refine⟨_,by simp[execOp,hx,Instr.loadAt,Instr.sureAddr,W.Es w f l];rfl,?_⟩;refine .agg _ _ (by simp[o]) λj c v F G=>?_;have q:j<size:=by
  grind
 simp only[List.getElem?_toArray,List.getElem?_map,List.getElem?_range q,gS,Option.some.injEq] at G;have L:=bu (O:a+j<h.length)
 have:=p j q;have h6:=(h5 i (a+j) h _ C[i*(aR k m).size+a+j] n L (by rw[<-qu];simp[this])).1 c (N j c F)
 grind
theorem Yt(x:Operand)(n gen o i c k a:Nat)(C:Array Field)(h:Field)(F:TypeDesc)(G:Value)(l p:Nat)(L:P.underlying t=aa (.struct C))(Q:C[k]? =aa h)(R:h.offset=a)(r:cr P h.type F G l p)(y:(l==0)=ak)
  (e:E) (W:H n=aa e) (f:e.gen=aa gen):cv P H ⟨d,.fieldAddr t x k,ty,pos,af,g⟩ [.cR n gen o i c] (.cR n gen o i (c+a)):=by
 intro M w X N j v;obtain⟨A,q,D⟩:=pA (j n _ W) f;obtain⟨b,B,I⟩:=qg v.1 D;subst B;have m:l≠0:=by simpa using y
 refine⟨.pointer (aa ⟨b,i*o+(c+a),aj⟩),?_,.cR _ _ _ _ _ _ A D⟩;simp[execOp,I,Instr.fieldAt,run_underlying L,Q,Instr.sureAddr,fieldPlace,r.run_sizeOf,m,jA,R,Nat.add_assoc]
theorem Yr(x y:Operand)(e:TypeId)(i gen a c n:Nat)(p:E)(B:H i=aa p)(C:p.gen=aa gen)(D:P.underlying t=aa (.slice e))(F:cr P e u z size bytes)(f:n<c):
  cv P H ⟨d,.indexAddr t x y,ty,pos,af,g⟩ [.bo i gen size a c,.t (.int .i64 (n:Nat))] (.cR i gen size (a+n) 0):=by
 intro j w X G L k;have cK:=dS k.2.1;generalize r:G x=v at k;have h:=k.1;simp only[r] at h;obtain⟨l,q,A⟩:=pA (L i _ B) C;rcases fl h A with ⟨Q,b,m,R,rfl,o,I,M,W,N,T⟩|⟨_,_,U,_⟩
 ·subst o;refine⟨.pointer (aa ⟨b,(a+n)*size+0,aj⟩),?_,.cR _ _ _ _ _ b l A⟩;simp[execOp,r,cK,Instr.indexAt,asIntOf,run_underlying D,F.run_sizeOf,jA,Nat.add_mul]
  grind
 omega
theorem aaA(x:Operand)(e:TypeId)(l gen h i c:Nat)(p:P.underlying t=aa (.slice e))(n:E)(r:H l=aa n)(y:n.gen=aa gen):cv P H ⟨d,.call {callee:= .builtin .len,args:= #[x],argTypes:= #[t]},ty,pos,af,g⟩ [.bo l gen h i c] (.t (.int .i64 (c:Nat))):=by
 intro A w X o B C;obtain⟨a,cap,k⟩: ∃a cap,o x= .slice a c cap:=by
  have D:bt A w X (.bo l gen h i c) (o x):=C.1;obtain⟨_,q,F⟩:=pA (B l _ r) y;rcases fl D F with ⟨cap,b,m,G,k,_⟩|⟨_,_,L,k⟩
  ·exact⟨_,_,k⟩
  exact⟨aj,0,by rw[L];exact k⟩
 refine⟨.int .i64 (c:Nat),?_,.t _ _ (.int _ _)⟩;simp[execOp,resolve,invoke,builtin,k,Builtin.len_,run_underlying p,goInt]
end oB
section ops
variable {K:Ctx}{s:S}{d:Option Tmp}{ty:TypeId}{pos:String}{af:Array Edge}{g:Option (Nat×Bool)}
variable {t:TypeId}{u:TypeDesc}{z:Value}{gen size bytes:Nat}
theorem acv(k v I M:Nat)(x y:Operand)(e:TypeId)(q r:List dM)(m N:Nat)(c b:List (List T))(h:List (Nat×Nat×V))(U: ∀i,d=aa i->dw i K.nt=ab)(Y:s.get x= .bo k gen size 0 c.length)(hy:s.get y= .bo v I size 0 M)(hk:s.H k=aa (.aN q m gen c []))(F:s.H v=aa (.aN r N I b h))
  (G:aR r N=aR q m) (L:M=b.length) (hu:K.P.underlying t=aa (.slice e)) (he:cr K.P e u z size bytes) (R:cc z.cells.size size=ab) (W:(aR q m).size=size) (nQ:(aR q m).ty=e) (hs: ∀l,l∈c->l.length=size) (X: ∀l,l∈b->l.length=size)
  (n:0<b.length) (o:uM (aR q m) b.length h=ab) (et:uU h=ab) (a1:(c.length+b.length)*bytes<=140737488355328) (hm:c.length+b.length<=9223372036854775807):
  ef K ⟨d,.call {callee:= .builtin .append,args:= #[x,y],argTypes:= #[t,t]},ty,pos,af,g⟩ s
   (({s with H:=aZ s.H k (aa (.aN q m (gen+1) (c++b) (ix c.length h)))}:S).put d (.bo k (gen+1) size 0 (c.length+b.length))):=by
 intro β a w next Q D f
 have A:=D.get x;rw[Y] at A;have B:=D.get y;rw[hy] at B;have p:=Bj.of D F L (by rw[G,W];exact B) n et (by rw[G];exact o);rw[G,W] at p;obtain⟨dC,w',j,h1,h2,h4⟩:=D.RN k q m c b h hk W nQ ty hu he (m0 R) hs X _ _ A p n o a1 (by unfold maxLen;omega);unfold Oper.wp;have C:(execOp a.eval ⟨d,.call {callee:= .builtin .append,args:= #[x,y],argTypes:= #[t,t]},ty,pos,af,g⟩).run K.P w= .ok (.value dC) w':=by
  simp[execOp,resolve,invoke,builtin,h1]
 rw[C];exact f j _ w' (h2.put d U h4)
theorem Qa{R:Type}(f:Nat->R)(k:Nat)(a b:R):aZ (aZ f k a) k b=aZ f k b:=by funext i;unfold aZ;cases cc i k<;>rfl
theorem Ol(s:S)(d:Option Tmp)(v:V):(s.put d v).H=s.H:=by cases d<;>rfl
theorem abt(s:S)(d:Option Tmp)(v:V)(F:Nat->Option E):({s.put d v with H:=F}:S)=({s with H:=F}:S).put d v:=by cases d<;>rfl
theorem abw{K:Ctx}{s:S}(k:Nat){Γ:List dM}{gen:Nat}{c:List (List T)}(o:s.H k=aa (.aN Γ m gen c []))(C:(aR Γ m).bm=[]):
  s.le K {s with H:=aZ s.H k (aa (.arr (aR Γ m).ty gen (aR Γ m).size c))}:=by
 intro r a w h;refine⟨_,h.drop k (.arr (aR Γ m).ty gen (aR Γ m).size c) (by rw[o];simp) ?_⟩;have e:=(h.heap k _ o).2;refine⟨e.1,?_⟩;have l: ∀b,own K (r.drop k) (aZ s.H k (aa (.arr (aR Γ m).ty gen (aR Γ m).size c))) b->own K r s.H b:=by
  rintro b (D|⟨id,y,F⟩)
  ·exact .inl D
  refine .inr ⟨id,λp=>?_,og F⟩;by_cases A:id=k
  ·subst A;rw[o] at p;cases p
  rw[cg _ _ _ _ A] at y;exact y p
 rcases e.2 with ⟨aL,a2,_⟩|⟨b,G,B,aL,a2,a3,a4,a5,_⟩
 ·exact .inl ⟨aL,a2⟩
 refine .inr ⟨b,G,aL,a2,a3,a4,λi j q x u L Q R=>?_⟩;have n:=(a5 i j q x u L Q R).none;rw[show(aR Γ m).ej j=aj by unfold dM.ej;rw[C];rfl] at n;cases n with
 |fs _ _ _ n _=>exact n.mono (Ext.refl _ _) λb _=>l b
theorem adF(k:Nat)(x y:Operand)(e:TypeId)(c l:List (List T))(cO: ∀i,d=aa i->dw i K.nt=ab)(hx:s.get x= .bo k gen size 0 c.length)(hy:dO (s.get y) (.t (.bE l)))(hk:s.H k=aa (.arr e gen size c))
  (hu:K.P.underlying t=aa (.slice e)) (he:cr K.P e u z size bytes) (o1:cc z.cells.size size=ab) (hp:dw 0 size=ab) (hs:Rows size c) (C:Rows size l)
  (a1:(c.length+l.length)*bytes<=140737488355328) (hm:c.length+l.length<=9223372036854775807):
  ef K ⟨d,.call {callee:= .builtin .append,args:= #[x,y],argTypes:= #[t,t]},ty,pos,af,g⟩ s
   (({s with H:=aZ s.H k (aa (.arr e (gen+1) size (c++l)))}:S).put d (.bo k (gen+1) size 0 (c.length+l.length))):=by
 intro β a w next Q L hkk
 suffices H: ∃R w',(iX #[t,t] ty #[a.eval x,a.eval y]).run K.P w= .ok R w'/\ ∃o,Rel K o (({s with H:=aZ s.H k (aa (.arr e (gen+1) size (c++l)))}:S).put d (.bo k (gen+1) size 0 (c.length+l.length))) (a.put d R) w' by
  obtain⟨R,w',W,o,h2⟩:=H;unfold Oper.wp;have X:(execOp a.eval ⟨d,.call {callee:= .builtin .append,args:= #[x,y],argTypes:= #[t,t]},ty,pos,af,g⟩).run K.P w= .ok (.value R) w':=by
   simp[execOp,resolve,invoke,builtin,W]
  rw[X];exact hkk o _ w' h2
 have f:0<size:=by simpa[Nat.blt_eq] using hp
 by_cases cK:l=[]
 ·subst cK;have p:=L.get x;rw[hx] at p;obtain⟨jc,q,I⟩:=pA (L.heap k _ hk).2 rfl;obtain⟨_,i,M,hi2,pX,rl⟩:=id he;obtain⟨N,cap,ajm⟩: ∃N cap,a.eval y= .slice N 0 cap:=by
   rcases BK (hy _ _ _ _ (L.get y)) C f with (⟨h,_⟩|⟨b,U,cap,us,h,_⟩)|⟨_,N,cap,h⟩
   ·exact⟨_,_,h⟩
   ·exact⟨_,_,h⟩
   exact⟨_,_,h⟩
  have vN:=L.RP k (.arr e gen size c) (.arr e (gen+1) size c) gen q I jc hk (λo X' W _ _ h4=>⟨O,by
   rcases(L.heap k _ hk).2.2 with ⟨D,V⟩|⟨b,us,D,V,c3,c4,c5⟩
   ·rw[I] at D;cases D;exact .inl ⟨W,V⟩
   rw[I] at D;cases D;exact .inr ⟨b,us,W,V,c3,c4,λi j F x u d1 d2 d3=>(c5 i j F x u d1 d2 d3).mono (Ext.refl _ _) λb _=>h4 b⟩⟩)
  refine⟨a.eval x,w,?_,β.put k (aa (q,gen+1)),?_⟩
  ·rw[ajm];rcases fl p I with ⟨B,b,n,Y,r,A,hw,hU,p1,cC,ly⟩|⟨A,_,_,r⟩<;>rw[r]
   ·cases N<;>simp[iX,run_underlying hu,sizeOf,typeInfo,M,Builtin.lenOf,Builtin.firstCells,cC,storeCells,loadCells,loadCellsFrom]
   cases N<;>simp[iX,run_underlying hu,sizeOf,typeInfo,M,Builtin.lenOf,Builtin.firstCells,loadCells,loadCellsFrom]
  rw[jq];refine vN.put d cO ?_;simp only[List.length_nil,Nat.add_zero];rcases fl p I with ⟨B,b,n,Y,r,A,hw,hU,p1,cC,ly⟩|⟨A,_,y1,r⟩<;>rw[r]<;>subst A
  ·exact .bo k (gen+1) size 0 _ B b n Y O (iG _ _ _) hw hU p1 cC ly
  rw[y1];exact .hb k (gen+1) size O (iG _ _ _)
 obtain⟨akU,G⟩:=Om k [⟨e,size,[]⟩] 0 hk rfl rfl (.inr rfl) β a w L;have p:bt akU w _ (s.get x) _:=G.get x;rw[hx] at p;have mT:=hy _ _ _ _ (G.get y);rcases BK mT C f with (⟨_,h⟩|⟨b,U,cap,us,W,h2,h3,h4,h5⟩)|⟨h,_⟩
 ·exact bs h cK
 ·obtain⟨R,w',o,e1,e2,mP⟩:=G.RN k [⟨e,size,[]⟩] 0 c l [] (cd _ _ _) rfl rfl ty hu he (m0 o1) hs C _ _ p ⟨b,U,cap,us,W,h2,h3,h4,λi j F x y D V c3=>⟨λv bZ=>by(cases bZ),λ_=>h5 i j F x y D V c3⟩⟩ (List.length_pos_iff.2 cK) (by simp[uM,aR]) a1 (by unfold maxLen;omega);obtain⟨akV,pS⟩:=abw (Γ:=[⟨e,size,[]⟩]) (m:=0) k (by rw[Ol];exact cd _ _ _) rfl o _ _ (e2.put d cO mP);rw[Ol] at pS;refine⟨R,w',e1,akV,?_⟩;rw[abt,Qa,Qa] at pS;exact pS
 exact bs h cK
theorem LZ(x y:Operand)(id i off:Nat)(k:List dM)(m:Nat)(o:List (List T))(G:List T)(v:V)(hs:List (Nat×Nat×V))(hx:s.get x= .cR id gen size i off)(bZ:s.get y=v)(y8:v.val=ab)(mS:oz v.cs=ab)
  (hH:s.H id=aa (.aN k m gen o hs)) (ep:(aR k m).size=size) {l:Nat} (fB:cr K.P t u z l bytes) (ai':v.cs.length=l) (SL:0<l) (L:o[i]? =aa G) (cC:off+l<=G.length)
  {R:List (Nat×Nat×V)} (mc: ∀n ey dC,(n,ey,dC)∈R-> ∃F,(n,ey,F)∈hs/\((n=i/\off<=ey/\ey<off+l)->v.cs[ey-off]? =aa dC)/\(¬(n=i/\off<=ey/\ey<off+l)->dC=F)) (dQ: ∀n ey F,(n,ey,F)∈hs-> ∃v1,(n,ey,v1)∈R) (hi2: ∀j,j<l-> ∃F,(i,off+j,F)∈hs):
  ef K ⟨aj,.store t x y,ty,pos,af,g⟩ s {s with H:=aZ s.H id (aa (.aN k m gen o R))}:=by
 subst ep;intro β a w next Q b8 hk
 have SZ:=b8.get x;rw[hx] at SZ;have jB:=(b8.heap id _ hH).2;rcases jB.2 with ⟨_,h2,_⟩|⟨b,p,B,h1,h2,h3,h4,h5,h6,mR,nP⟩
 ·rw[h2] at L;simp at L
 obtain⟨hr,k1,za⟩:=qg SZ h1;cases k1;have aJ:=(b5.1 L).1;have hrl:G.length=(aR k m).size:=h4 G (bT L);have Ka:i*(aR k m).size+off+l<=p.size:=by
  have:(i+1)*(aR k m).size<=o.length*(aR k m).size:=dU _ aJ;rw[ed] at this;omega
 have mT:=b8.get y;rw[bZ] at mT;obtain⟨c1,c2⟩:=mT.cells y8;have W:(a.eval y).cells.size=l:=c1.trans ai';have I: ∀e∈(a.eval y).cells.toList,e.oneCell'=ab:=by
  intro e he;obtain⟨j,hj⟩:=j1.1 he;have hj':(a.eval y).cells[j]? =aa e:=by simpa using hj
  have hlt:=(iR.1 hj').1;have bS:=bu (O:j<v.cs.length);exact(c2 j _ e bS hj').jF (Gz mS bS)
 unfold Oper.wp;have Kl:=FD fB w b (i*(aR k m).size+off) p _ (a.eval y) h2 W O I;have M:(execOp a.eval ⟨aj,.store t x y,ty,pos,af,g⟩).run K.P w= .ok .skip (w.setRow b (p.toList.take (i*(aR k m).size+off)++(a.eval y).cells.toList++p.toList.drop (i*(aR k m).size+off+(a.eval y).cells.toList.length)).toArray):=by
  simp only[execOp,za,Instr.storeAt,Instr.sureAddr,fo,j6,fc,Kl]
 rw[M];have hlen:(p.toList.take (i*(aR k m).size+off)++(a.eval y).cells.toList++p.toList.drop (i*(aR k m).size+off+(a.eval y).cells.toList.length)).length=p.size:=by
  simp[W];omega
 have N:own K β s.H b:= .inr ⟨id,by rw[hH];simp,.inl ⟨_,h1⟩⟩;generalize U:(p.toList.take (i*(aR k m).size+off)++(a.eval y).cells.toList++p.toList.drop (i*(aR k m).size+off+(a.eval y).cells.toList.length)).toArray=q at*;have r:q.size=p.size:=by rw[<-U];simpa using hlen
 have X:Ext (own K β s.H) w (w.setRow b q):=⟨rfl,rfl,rfl,a7,λkk _ hx=>setRow_other _ _ _ _ λe0=>hx (e0▸N)⟩
 have f:Shaped β w (w.setRow b q):=λhr _=>Gu h2 r hr;refine hk β _ _ (Rel.setRow b8 id b (.inl ⟨_,h1⟩) p _ h2 q r (.aN k m gen o R) (by rw[hH];simp) ?_);refine⟨jB.1,.inr ⟨b,q,B,h1,setRow_heap _ _ _ _ _ _ h2,by rw[r];exact h3,h4,λn ey A j2 rU aL a2 a3=>?_,h6,mR,nP⟩⟩;have hjs:ey<(aR k m).size:=by rw[<-h4 A (bT aL)];exact(b5.1 a2).1
 by_cases Y:n=i/\off<=ey/\ey<off+l
 ·obtain⟨rfl,ait,DF⟩:=Y;obtain⟨F,y2⟩:=hi2 (ey-off) O;rw[show off+(ey-off)=ey by omega] at y2;have C:=h5 n ey A j2 p[n*(aR k m).size+ey] aL a2 (by rw[h8 O]);obtain⟨v1,p0⟩:=dQ _ _ _ y2;refine⟨λdC D=>⟨?_,(C.1 F y2).2⟩,λmg=>bs p0 (mg v1)⟩;obtain⟨_,_,q2,_⟩:=mc _ _ _ D;have ah5:=q2 ⟨rfl,ait,DF⟩
  have:(a.eval y).cells[ey-off]? =aa rU:=by
   rw[<-U] at a3;simp only[List.getElem?_toArray] at a3;rw[jI (by simp[W];omega),jr b6] at a3;have mP:n*(aR k m).size+ey-(p.toList.take (n*(aR k m).size+off)).length=ey-off:=by
    rw[c7,pr];omega
   rw[mP] at a3;simpa using a3
  exact(c2 _ _ rU ah5 this).mono X (λ_ _ h=>h) (dX.refl _) f
 have hne:n*(aR k m).size+ey<i*(aR k m).size+off\/i*(aR k m).size+off+l<=n*(aR k m).size+ey:=by
  rcases Nat.lt_trichotomy n i with h|h|h
  ·have:=dU (aR k m).size (O:n+1<=i);rw[ed] at this;omega
  ·subst h
   have: ¬(off<=ey/\ey<off+l):=λh=>Y ⟨rfl,h⟩;omega
  have:=dU (aR k m).size (O:i+1<=n);rw[ed] at this;omega
 have C:p[n*(aR k m).size+ey]? =aa rU:=by
  rw[<-U] at a3;simp only[List.getElem?_toArray,List.getElem?_append,List.length_append,List.length_take,List.getElem?_take,List.getElem?_drop,Array.length_toList,W] at a3;rw[show min (i*(aR k m).size+off) p.size=i*(aR k m).size+off by omega] at a3;rcases hne with hlt|k3
  ·rw[bb O,bb O,bb O] at a3;simpa using a3
  rw[a8 O] at a3;rw[show i*(aR k m).size+off+l+(n*(aR k m).size+ey-(i*(aR k m).size+off+l))=n*(aR k m).size+ey by omega] at a3;simpa using a3
 have tj:=h5 n ey A j2 rU aL a2 C;have hc1:=tj.mono (β':=β) X (λ_ _ h=>h) (dX.refl _) f λc bS=>setRow_other _ _ _ _ (h6 _ _ _ bS).2.2;refine⟨λdC D=>?_,λmg=>hc1.2 λdC D=>?_⟩
 ·obtain⟨F,pb,_,wM⟩:=mc _ _ _ D;rw[wM Y];exact hc1.1 F pb
 obtain⟨v1,p0⟩:=dQ _ _ _ D;exact mg v1 p0
theorem Yy(x y:Operand)(w i a:Nat)(A:List dM)(m:Nat)(b:List (List T))(e:List T)(v:V)(n:List (Nat×Nat×V))(W:s.get x= .cR w gen size i a)(X:s.get y=v)(o:v.val=ab)(p:oz v.cs=ab)
  (f:s.H w=aa (.aN A m gen b n)) (I:(aR A m).size=size) {c:Nat} (M:cr K.P t u z c bytes) (C:v.cs.length=c) (q:0<c) (D:b[i]? =aa e) (N:a+c<=e.length)
  (F: ∀r k l,(r,k,l)∈n->a<=k->k<a+c->r=i) (G: ∀j,j<c-> ∃l,(i,a+j,l)∈n):
  ef K ⟨aj,.store t x y,ty,pos,af,g⟩ s {s with H:=aZ s.H w (aa (.aN A m gen b (u5 a v.cs n)))}:=by refine LZ x y w i a A m b e v n W X o p f I M C q D N (λr k dC L=>?_) (λr k l L=>Hj L) G;obtain⟨l,Q,U,Y⟩:=G4 L;refine⟨l,Q,λ⟨_,B,h2⟩=>?_,λh=>Y λ⟨B,h2⟩=>h ⟨F r k l Q B O,B,O⟩⟩;have R:=bu (O:k-a<v.cs.length);rw[R,U B _ R]
end ops
def E.gen?:E->Option Nat
 | .cells _=>aj
 | .arr _ gen _ _=>aa gen
 | .aN _ _ gen _ _=>aa gen
theorem CG{g:Nat}{T:E}(b:T.gen? =aa g)(h:cY G w X n T):1<=g/\ ∃q,G n=aa (q,g):=by
 cases T with
 |cells cs=>cases b
 |arr ty gen size a=>cases b;exact⟨h.1,kx h⟩
 |aN c m gen a e=>cases b;exact⟨h.1,uD h⟩
section oB
variable {P:Program}{H:Nat->Option E}{d:Option Tmp}{ty:TypeId}{pos:String}{af:Array Edge}{g:Option (Nat×Bool)}
variable {t:TypeId}{u:TypeDesc}{z:Value}{size bytes:Nat}
def q4(c:Nat)(h i:Option Operand)(e:Operand->Value)(a b:Nat):Prop:=
 (match h with|some x=>e x= .int .i64 (a:Nat)|none=>a=0)/\(match i with|some x=>e x= .int .i64 (b:Nat)|none=>b=c)
theorem CA{P:Program}{len a:Nat}{i e:Option Operand}{c:Operand->Value}(h:q4 len i e c a b)(m:a<=b)(o:b<=n)(w:World):(Instr.sliceBounds ab len n (i.map c) (e.map c) aj).run P w= .ok (a,b,n) w:=by
 obtain⟨l,k⟩:=h;cases i with
 |none=>
  have l:a=0:=l;subst l;cases e with
  |none=>
   have k:b=len:=k;subst k;simp[Instr.sliceBounds]
  |some y=>
   have k:c y=_:=k;simp[Instr.sliceBounds,k,jS w b n _ o]
 |some x=>
  have l:c x=_:=l;cases e with
  |none=>
   have k:b=len:=k;subst k;simp[Instr.sliceBounds,l,jS w a b _ m]
  |some y=>
   have k:c y=_:=k;simp[Instr.sliceBounds,l,k,jS w b n _ o,jS w a b _ m]
theorem age(x:Operand)(r y:Option Operand)(e:TypeId)(m gen h c a b:Nat)(Q:E)(v:H m=aa Q)(I:Q.gen? =aa gen)(R:P.underlying t=aa (.slice e))(W:cr P e u z size bytes)
  (M:a<=b) (h2:b<=c) (h3:a=0\/a<c) {i:List V} (N: ∀A w X (k:Operand->Value),dx A w X i (r.toList.map k++y.toList.map k)->q4 c r y k a b):
  cv P H ⟨d,.slice t x r y aj,ty,pos,af,g⟩ (.bo m gen size h c::i) (.bo m gen size (h+a) (b-a)):=by
 intro A w X k T D;obtain⟨B,q,F⟩:=CG I (T m _ v);have D:dx A w X (.bo m gen size h c::i) (k x::(r.toList.map k++y.toList.map k)):=by
  cases r<;>cases y<;>simpa[Op.operands] using D
 have C:q4 c r y k a b:=N A w X k D.2;have U:bt A w X (.bo m gen size h c) (k x):=D.1;rcases fl U F with ⟨l,f,n,G,o,p,Y,hs,cK,cC,hm⟩|⟨p,h0,L,o⟩
 ·subst p;refine⟨.slice (aa ⟨f,(h+a)*size,aj⟩) (b-a) (l-a),?_,.bo m gen size (h+a) (b-a) (l-a) f n G B F Y hs (by rw[<-cK];congr 1;omega) O O⟩;simp only[execOp,fo,Instr.sliceAt,Instr.slice,run_underlying R,fc,o,Option.map_none,gS,CA C M (O:b<=l),W.run_sizeOf,j6];by_cases j:l=a
  ·rw[bb j]
   grind
  rw[a8 j];simp[jA,Nat.add_mul]
 subst p;subst h0;subst L;have e1:b=0:=O
 have e2:a=0:=O
 subst e1;subst e2;refine⟨.slice aj 0 0,?_,.hb m gen size B F⟩;simp only[execOp,fo,Instr.sliceAt,Instr.slice,run_underlying R,fc,o,Option.map_none,CA C (Nat.le_refl _) (Nat.le_refl 0),W.run_sizeOf,j6];simp
theorem ae4(x:Operand)(p q:Option Operand)(e I:TypeId)(m gen c h a b:Nat)(l:List (List T))(M:H m=aa (.arr I gen size l))(N:P.underlying t=aa (.slice e))(U:cr P e u z size bytes)
  (Y:0<size) (h1:a<b) (W:c+b<=l.length) {i:List V} (a1: ∀r w X (k:Operand->Value),dx r w X i (p.toList.map k++q.toList.map k)->q4 h p q k a b):
  cv P H ⟨d,.slice t x p q aj,ty,pos,af,g⟩ (.bo m gen size c h::i) (.bo m gen size (c+a) (b-a)):=by
 intro r w X k hE C;have y:=hE m _ M;have D:=y.1;have C:dx r w X (.bo m gen size c h::i) (k x::(p.toList.map k++q.toList.map k)):=by
  cases p<;>cases q<;>simpa[Op.operands] using C
 have F:q4 h p q k a b:=a1 r w X k C.2;have hx:bt r w X (.bo m gen size c h) (k x):=C.1;rcases y.2 with ⟨G,L⟩|⟨f,us,G,g2,g3,g4,g5⟩
 ·subst L;simp at W;omega
 rcases fl hx G with ⟨cap,hr,n,Q,R,o,hw,j,v,cC,hm⟩|⟨o,_⟩
 ·cases o;have A:us.size=n:=by
   unfold gj at j
   grind
  have B:b<=cap:=by
   have h3:(c+b)*size<=(c+cap)*size:=by
    rw[v,<-A];exact eR (dU _ W) g3
   have:=Nat.le_of_mul_le_mul_right h3 Y;omega
  refine⟨.slice (aa ⟨f,(c+a)*size,aj⟩) (b-a) (cap-a),?_,.bo m gen size (c+a) (b-a) (cap-a) f n Q D G hw j (by rw[<-v];congr 1;omega) O O⟩;simp only[execOp,fo,Instr.sliceAt,Instr.slice,run_underlying N,fc,R,Option.map_none,gS,CA F (O:a<=b) B,U.run_sizeOf,j6];rw[a8 (show¬cap=a by omega)];simp[jA,Nat.add_mul]
 cases o
theorem ae5(x:Operand)(m o:Option Operand)(e:TypeId)(p gen c l b a:Nat)(F:E)(L:H p=aa F)(Q:F.gen? =aa gen)(R:P.underlying t=aa (.slice e))(W:cr P e u z size bytes)
  (U:a<=b) {h:List V} (f: ∀r w X (i:Operand->Value),dx r w X h (m.toList.map i++o.toList.map i)->q4 b m o i a a):
  cv P H ⟨d,.slice t x m o aj,ty,pos,af,g⟩ (.bo p gen c l b::h) (.t (.bE [])):=by
 intro r w X i j y;obtain⟨v,q,I⟩:=CG Q (j p _ L);have y:dx r w X (.bo p gen c l b::h) (i x::(m.toList.map i++o.toList.map i)):=by
  cases m<;>cases o<;>simpa[Op.operands] using y
 have B:q4 b m o i a a:=f r w X i y.2;have M:bt r w X (.bo p gen c l b) (i x):=y.1;obtain⟨A,cap,k,G⟩: ∃A cap,i x= .slice A b cap/\b<=cap:=by
  rcases fl M I with ⟨cap,Y,n,N,k,C,hw,hs,cK,T,hm⟩|⟨C,h0,D,k⟩
  ·exact⟨_,cap,k,T⟩
  exact⟨aj,0,by rw[D];exact k,O⟩
 refine⟨.slice (if cap=a then A else A.map (·.add (a*size))) (a-a) (cap-a),?_,.t _ _ (by rw[lP];exact .fW _ _)⟩;simp only[execOp,fo,Instr.sliceAt,Instr.slice,run_underlying R,fc,k,Option.map_none,CA B (Nat.le_refl _) (O:a<=cap),W.run_sizeOf,j6]
theorem YT(x:Operand)(e gen a i c:Nat)(h:E)(m:H e=aa h)(n:h.gen? =aa gen):cv P H ⟨d,.nilCheck x,ty,pos,af,g⟩ [.cR e gen a i c] (.cR e gen a i c):=by intro o w X k p r;obtain⟨y,q,A⟩:=CG n (p e _ m);have l:bt o w X (.cR e gen a i c) (k x):=r.1;obtain⟨b,_,B⟩:=qg l A;exact⟨k x,by simp[execOp,B],l⟩
theorem abX(x C D F:Operand)(e:TypeId)(o gen h l i a b c:Nat)(G:E)(R:H o=aa G)(W:G.gen? =aa gen)(f:P.underlying t=aa (.slice e))(j:cr P e u z size bytes)
  (v:a<=b) (I:b<=c) (h3:c<=i):cv P H ⟨d,.slice t x (aa C) (aa D) (aa F),ty,pos,af,g⟩ [.bo o gen h l i,.t (.int .i64 (a:Nat)),.t (.int .i64 (b:Nat)),.t (.int .i64 (c:Nat))] .dp:=by
 intro M w X m N p;obtain⟨T,q,U⟩:=CG W (N o _ R);have V:bt M w X (.bo o gen h l i) (m x):=p.1;have y:m C=_:=dS p.2.1;have Y:m D=_:=dS p.2.2.1;have L:m F=_:=dS p.2.2.2.1;obtain⟨r,cap,k,Q⟩: ∃r cap,m x= .slice r i cap/\i<=cap:=by
  rcases fl V U with ⟨cap,hr,n,jn,k,A,hw,hs,cK,y,L⟩|⟨A,h0,B,k⟩
  ·exact⟨_,cap,k,y⟩
  exact⟨aj,0,by rw[B];exact k,O⟩
 refine⟨.slice (if c=a then r else r.map (·.add (a*size))) (b-a) (c-a),?_,.dp _⟩;simp[execOp,k,y,Y,L,Instr.sliceAt,Instr.slice,run_underlying f,Instr.sliceBounds,jS w c cap _ O,jS w b c _ I,jS w a b _ v,j.run_sizeOf]
end oB
section steps
variable {K:Ctx}{s:S}{d:Option Tmp}{ty:TypeId}{pos:String}{af:Array Edge}{g:Option (Nat×Bool)}
variable {t:TypeId}{u:TypeDesc}{z:Value}{size bytes gen:Nat}
theorem Pl{D:Map}(R:Rel K D s a w)(q b:Nat)(e:TypeId)(o c:List (List T))(r n:Array Value)(G:s.H q=aa (.arr e gen size o))(y:D q=aa (aa b,gen))(p:w.heap[b]? =aa (.cells r e (0,0)))
  (L:n.size=r.size) (W:c.length*size<=r.size) (A: ∀l,l∈c->l.length=size)
  (bS: ∀(i j:Nat) (l:List T) (x:T) (u:Value),c[i]? =aa l->l[j]? =aa x->n[i*size+j]? =aa u->(∃(F:Nat) (m:List T),o[F]? =aa m/\m[j]? =aa x/\r[F*size+j]? =aa u)\/(∀w X,cV w X x u)):
  Rel K D {s with H:=aZ s.H q (aa (.arr e gen size c))} a (w.setRow b n):=by
 refine Rel.setRow R q b (.inl ⟨_,y⟩) r e p n L (.arr e gen size c) (by rw[G];simp) ?_;have Q:own K D s.H b:= .inr ⟨q,by rw[G];simp,.inl ⟨_,y⟩⟩;have B:=(R.heap q _ G).2;refine⟨B.1,.inr ⟨b,n,y,setRow_heap _ _ _ _ _ _ p,O,A,λi j l x u aL a2 a3=>?_⟩⟩;rcases bS i j l x u aL a2 a3 with ⟨F,m,v,I,M⟩|bS
 ·rcases B.2 with ⟨C,_⟩|⟨cB,N,C,f,h3,h4,U⟩
  ·rw[y] at C;cases C
  rw[y] at C;cases C;rw[p] at f;cases f;exact(U F j m x u v I M).mono ⟨rfl,rfl,rfl,a7,λk _ V=>setRow_other _ _ _ _ λY=>V (Y▸Q)⟩ λ_ _ h=>h
 exact bS _ _
theorem Rel.z1(h:Rel K β s a w)(b:Nat)(c:E)(k:s.H b=aa c):Rel K β {s with H:=aZ s.H b (aa c)} a w:=by
 have:aZ s.H b (aa c)=s.H:=by
  funext i;by_cases e:i=b
  ·subst e;rw[cd,k]
  rw[cg _ _ _ _ e]
 rw[this];exact h
end steps
end
section
def dA{a:Type}(f:Nat->a):List (Nat×a)->Nat->a
 | []=>f
 |(d,v)::r=>dA (aZ f d v) r
theorem mW{a:Type}: ∀(l:List (Nat×a)) (f:Nat->a) (r:Nat),(∀v,(r,v)∉l)->dA f l r=f r
 | [],_,_,_=>rfl
 |(d,v)::l,f,r,h=>by rw[dA,mW l _ r λb c=>h b (eZ _ c),cg _ _ _ _ (by intro e;subst e;exact h v (ff ..))]
theorem Cx{a:Type}: ∀(l:List (Nat×a)) (f g:Nat->a) (r:Nat),(∃v,(r,v)∈l)->dA f l r=dA g l r
 | [],_,_,_,⟨v,h⟩=>by simp at h
 |(d,v)::l,f,g,r,h=>by
  simp only[dA];by_cases c: ∃b,(r,b)∈l
  ·exact Cx l _ _ r c
  have i:r=d:=by
   obtain⟨b,bZ⟩:=h;rcases d'.1 bZ with e|bZ
   ·cases e;rfl
   exact bs ⟨b,bZ⟩ c
  subst i;rw[mW l _ r λb bZ=>c ⟨b,bZ⟩,mW l _ r λb bZ=>c ⟨b,bZ⟩,cd,cd]
structure df where
 e9:List (Nat×V)
 hs:List (Nat×Option E):=[]
 us:List (Nat×Bool):=[]
def df.app(e:df)(s:S):S:={t:=dA s.t e.e9,H:=dA s.H e.hs,u:=dA s.u e.us}
structure gU where
 e9:List Nat
 p':List Nat:=[]
def gU.same(r:gU)(s a:S):Prop:=(∀i,i∈r.e9->s.t i=a.t i)/\ ∀k,k∈r.p'->s.H k=a.H k/\s.u k=a.u k
def iC(K:Ctx)(ops:Array Oper)(o:Oper)(s e:S):Prop:=
 ∀h a w next Q,Rel K h s a w->(∀b c d,Rel K b e c d->next c d)->
  if Region.wanted o (yielded ops a.tmps) then o.wp K.P a w next Q\/(o.asks K.P a w/\LetsOut Q) else next (a.put o.dst undef) w
variable {K:Ctx}{ops:Array Oper}{o:Oper}{s:S}{j t:Nat}{want:Bool}
theorem iC.of{b:S}(c:o.guard=aj)(h:ef K o s b):iC K ops o s b:=by
 intro β a w next Q d e
 rw[bb (by simp[Region.wanted,c])];exact .inl (h β a w next Q d e)
theorem iC.ft{s':S}(c:o.guard=aa (j,want))(d:(ops[j]?).bind (·.dst)=aa t)(e:s.t t= .t (.bool want))(h:ef K o s s'):iC K ops o s s':=by
 intro β a w next Q b i
 have k:yielded ops a.tmps j=aa want:=by unfold yielded;rw[d];simp[b.bool e]
 rw[bb (by simp[Region.wanted,c,k])];exact .inl (h β a w next Q b i)
theorem iC.out(c:o.guard=aa (j,want))(d:(ops[j]?).bind (·.dst)=aa t)(e:s.t t= .t (.bool (!want)))(h: ∀i,o.dst=aa i->dw i K.nt=ab):iC K ops o s (s.put o.dst (.bX [])):=by
 intro k a w next Q b l
 have m:yielded ops a.tmps j=aa (!want):=by unfold yielded;rw[d];simp[b.bool e]
 rw[a8 (by simp[Region.wanted,c,m])];exact l k _ w (b.put o.dst h Pb)
theorem iC.skip(c:o.guard=aa (j,want))(d:(ops[j]?).bind (·.dst)=aa t)(e:s.t t= .bX [])(h: ∀i,o.dst=aa i->dw i K.nt=ab):iC K ops o s (s.put o.dst (.bX [])):=by
 intro k a w next Q b l
 have hw:=b.akK (ops:=ops) (want:=want) d e;rw[a8 (by simp[Region.wanted,c,hw])];exact l k _ w (b.put o.dst h Pb)
def hf{a:Type}:List (List (Nat×a))->Nat->(Nat->Bool)->(Nat->a)->Nat->a
 | [],_,_,f=>f
 |l::cb,i,L,f=>hf cb (i+1) L (bif L i then dA f l else f)
theorem AJ{a:Type}: ∀(cb:List (List (Nat×a))) (i:Nat) (L b:Nat->Bool) (f c:Nat->a) (r:Nat),f r=c r->(∀j l,cb[j]? =aa l->(∃v,(r,v)∈l)->L (i+j)=b (i+j))->hf cb i L f r=hf cb i b c r
 | [],_,_,_,_,_,_,h,_=>h
 |l::cb,i,L,b,f,c,r,h,k=>by
  simp only[hf];refine AJ cb (i+1) L b _ _ r ?_ λj m n d=>by have:=k (j+1) m n d;rwa [show i+(j+1)=i+1+j by omega] at this
  by_cases e: ∃v,(r,v)∈l
  ·have:=k 0 l rfl e;rw[r0] at this;rw[<-this];cases L i with
   |true=>exact Cx l _ _ r e
   |false=>exact h
  have o: ∀g:Nat->a,dA g l r=g r:=λg=>mW l g r λv d=>e ⟨v,d⟩;cases L i<;>cases b i<;>simp only[cond_true,cond_false,o]<;>exact h
theorem NW{a:Type}: ∀(cb:List (List (Nat×a))) (i:Nat) (L:Nat->Bool) (f:Nat->a) (r k:Nat) (l:List (Nat×a)),cb[k]? =aa l->(∃v,(r,v)∈l)->L (i+k)=ab->
  (∀j e,k<j->cb[j]? =aa e->(∃v,(r,v)∈e)->L (i+j)=ak)-> ∀g:Nat->a,hf cb i L f r=dA g l r
 |h::cb,i,L,f,r,0,l,c,m,n,b,g=>by
  simp at c;subst c;simp only[hf];rw[r0] at n;rw[n,cond_true,AJ cb (i+1) L (λ_=>ak) (dA f h) (dA g h) r (Cx h _ _ r m) (λj e o d=>by
   have:=b (j+1) e O o d
   rwa [show i+(j+1)=i+1+j by omega] at this)]
  have p: ∀(cb:List (List (Nat×a))) (i:Nat) (f:Nat->a),hf cb i (λ_=>ak) f=f:=by
   intro cb;induction cb with
   |nil=>intro _ _;rfl
   |cons l cb q=>intro i f;simp only[hf,cond_false];exact q _ _
  rw[p]
 |h::cb,i,L,f,r,k+1,l,c,m,n,b,g=>by
  simp at c;simp only[hf];exact NW cb (i+1) L _ r k l c m (by rwa [show i+1+k=i+(k+1) by omega]) (λj e s o d=>by
   have:=b (j+1) e O o d
   rwa [show i+(j+1)=i+1+j by omega] at this) g
 | [],_,_,_,_,_,_,c,_,_,_,_=>by simp at c
def iS(a:List df)(i:Nat)(L:Nat->Bool)(s:S):S:={t:=hf (a.map (·.e9)) i L s.t,H:=hf (a.map (·.hs)) i L s.H,u:=hf (a.map (·.us)) i L s.u}
def mX(a:Array Oper):Nat->Nat->Nat->Bool
 |0,_,_=>ak
 |f+1,i,j=>match a[j]? with
  |none=>ak
  |some o=>o.after.toList.any λe=>Region.binds .any e&&(cc e.on i||mX a f i e.on)
def qN{a:Type}(l:List (Nat×a))(r:List Nat):Bool:=l.any λp=>r.any λx=>cc p.1 x
def rN{a R:Type}(l:List (Nat×a))(m:List (Nat×R)):Bool:=l.any λp=>m.any λq=>cc p.1 q.1
def lS(e:df)(r:gU)(a:df)(b:gU):Bool:=
 qN e.e9 b.e9||qN a.e9 r.e9||rN e.e9 a.e9||qN e.hs b.p'||qN a.hs r.p'||rN e.hs a.hs||qN e.us b.p'||qN a.us r.p'||rN e.us a.us
def nc(b:Array Oper)(n:Nat):Nat->List (df×gU)->Bool
 |_,[]=>ab
 |i,(e,r)::a=>go i e r (i+1) a&&nc b n (i+1) a
where
 go (i:Nat) (e:df) (r:gU):Nat->List (df×gU)->Bool
  |_,[]=>ab
  |j,(c,d)::a=>(!lS e r c d||mX b n i j)&&go i e r (j+1) a
def sq:Nat->List Oper->Bool
 |_,[]=>ab
 |i,o::a=>o.after.toList.all (λe=> !Region.binds .any e||dw e.on i)&&sq (i+1) a
theorem Pg{b:Array Oper}{n i:Nat}{e:df}{r:gU}: ∀(l:List (df×gU)) (j:Nat),nc.go b n i e r j l=ab-> ∀(k:Nat) a c,l[k]? =aa (a,c)->lS e r a c=ab->mX b n i (j+k)=ab
 | [],_,_,_,_,_,h,_=>by simp at h
 |(o,p)::l,j,h,0,a,c,d,m=>by
  simp at d;obtain⟨rfl,rfl⟩:=d;simp only[nc.go,cx,m,Bool.not_true,Bool.false_or] at h;exact h.1
 |(o,p)::l,j,h,k+1,a,c,d,m=>by
  simp at d;simp only[nc.go,cx] at h
  have:=Pg l (j+1) h.2 k a c d m
  rwa [show j+1+k=j+(k+1) by omega] at this
theorem AL{b:Array Oper}{n:Nat}: ∀(l:List (df×gU)) (a:Nat),nc b n a l=ab-> ∀(i j:Nat) e r c d,l[i]? =aa (e,r)->l[j]? =aa (c,d)->i<j->lS e r c d=ab->mX b n (a+i) (a+j)=ab
 | [],_,_,_,_,_,_,_,_,h,_,_,_=>by simp at h
 |(q,s)::l,a,h,0,j,e,r,c,d,k,m,o,p=>by
  simp at k;obtain⟨rfl,rfl⟩:=k;simp only[nc,cx] at h;cases j with
  |zero=>omega
  |succ j=>
   simp at m
   have:=Pg l (a+1) h.1 j c d m p
   rwa [show a+1+j=a+(j+1) by omega] at this
 |(q,s)::l,a,h,i+1,j,e,r,c,d,k,m,o,p=>by
  simp only[nc,cx] at h;cases j with
  |zero=>omega
  |succ j=>
   simp at k m
   have:=AL l (a+1) h.2 i j e r c d k m O p
   rwa [show a+1+i=a+(i+1) by omega,show a+1+j=a+(j+1) by omega] at this
theorem aaW(e:df)(r:gU)(c:df)(d:gU):lS e r c d=lS c d e r:=by
 have n: ∀{i k:Type} (l:List (Nat×i)) (m:List (Nat×k)),rN l m=rN m l:=by
  intro i k l m;rw[hK];simp only[rN,List.any_eq_true];constructor
  ·rintro⟨p,a,q,b,h⟩;exact⟨q,b,p,a,by have:=m0 h;simp[this]⟩
  rintro⟨p,a,q,b,h⟩;exact⟨q,b,p,a,by have:=m0 h;simp[this]⟩
 unfold lS
 grind
def QZ(b:Array Oper)(a:Array Bool):Prop:= ∀j o,b[j]? =aa o->a.getD j ab=ab-> ∀e∈o.after,Region.binds .any e=ab->a.getD e.on ak=ab
theorem Lm{c:Array Oper}{a:Array Bool}(n:QZ c a): ∀(f i j:Nat),mX c f i j=ab->(∀o,c[j]? =aa o-> ∀e∈o.after,Region.binds .any e=ab->a.getD e.on ak=ab)->a.getD i ak=ab
 |0,_,_,h,_=>by simp[mX] at h
 |f+1,i,j,h,p=>by
  unfold mX at h;cases l:c[j]? with
  |none=>rw[l] at h;simp at h
  |some o=>
   rw[l] at h;simp only[List.any_eq_true,cx,Bool.or_eq_true] at h;obtain⟨e,q,r,d⟩:=h;have cC:=p o l e (by simpa using q) r;rcases d with d|d
   ·have:=m0 d;rw[<-this];exact cC
   refine Lm n f i e.on d λs m=>n e.on s m ?_;rw[r2] at cC⊢;cases k:a[e.on]? with
   |none=>rw[k] at cC;simp at cC
   |some b=>rw[k] at cC;simpa using cC
def xD(K:Ctx)(a:Array Oper):List Oper->List (df×gU)->S->(S->Prop)->Prop
 | [],[],s,Q=>Q s
 |o::os,(e,r)::c,s,Q=>(∀b,r.same b s->iC K a o b (e.app b))/\xD K a os c (e.app s) Q
 |_,_,_,_=>False
end
set_option linter.unusedVariables false
set_option linter.unusedSimpArgs false
section
theorem Nb{a:Type}: ∀(cb:List (List (Nat×a))) (i:Nat) (L:Nat->Bool) (f:Nat->a),hf cb (i+1) L f=hf cb i (λj=>L (j+1)) f
 | [],_,_,_=>rfl
 |l::cb,i,L,f=>by simp only[hf];exact Nb cb (i+1) L _
theorem GG(e:df)(a:List df)(L:Nat->Bool)(s:S):iS (e::a) 0 L s=iS a 0 (λj=>L (j+1)) (bif L 0 then e.app s else s):=by unfold iS;simp only[hL,hf,Nat.zero_add,Nb];cases L 0<;>rfl
theorem AX{K:Ctx}{b:Array Oper}: ∀(l:List Oper) (es:List (df×gU)) (s:S) (Q:S->Prop),xD K b l es s Q->
  l.length=es.length/\Q (iS (es.map (·.1)) 0 (λ_=>ab) s)/\
  ∀(i:Nat) o e r,l[i]? =aa o->es[i]? =aa (e,r)-> ∀c,r.same c (iS (es.map (·.1)) 0 (λj=>dw j i) s)->iC K b o c (e.app c)
 | [],[],s,Q,h=>⟨rfl,h,λi o e r d=>by simp at d⟩
 |o::os,(e,r)::es,s,Q,h=>by
  obtain⟨p,q⟩:=h;obtain⟨aL,a2,a3⟩:=AX os es _ Q q;refine⟨by simp[aL],?_,?_⟩
  ·simp only[hL,GG,cond_true];exact a2
  intro i w x y d k c a;cases i with
  |zero=>
   simp at d k;obtain⟨rfl,rfl⟩:=k;subst d;refine p c ?_
   have:iS (List.map (·.1) ((e,r)::es)) 0 (λj=>dw j 0) s=s:=by
    simp only[hL,GG];have m: ∀{n:Type} (cb:List (List (Nat×n))) (i:Nat) (f:Nat->n),hf cb i (λj=>dw (j+1) 0) f=f:=by
     intro n cb;induction cb with
     |nil=>intro _ _;rfl
     |cons l cb z=>intro i f;simp only[hf];exact z _ _
    show iS (es.map (·.1)) 0 (λj=>dw (j+1) 0) s=s;unfold iS;simp only[m]
   rw[this] at a;exact a
  |succ i=>
   simp at d k;refine a3 i w x y d k c ?_;simp only[hL,GG] at a;exact a
 | [],_::_,_,_,h=>h.elim
 |_::_,[],_,_,h=>h.elim
variable {a R:Type}{r:gU}{x n i:Nat}{v:a}{e:df}
theorem G8{l:List (Nat×a)}{r:List Nat}(h:(x,v)∈l)(b:x∈r):qN l r=ab:=by unfold qN;rw[jo];exact⟨(x,v),h,by rw[jo];exact⟨x,b,a7⟩⟩
theorem FT{l:List (Nat×a)}{m:List (Nat×R)}{b:R}(h:(x,v)∈l)(c:(x,b)∈m):rN l m=ab:=by unfold rN;rw[jo];exact⟨(x,v),h,by rw[jo];exact⟨(x,b),c,a7⟩⟩
section
variable {K:Ctx}{l:List Oper}{es:List (df×gU)}{s:S}
theorem Hd{c:Array Oper}(proj:df->List (Nat×R))(G:nc c n 0 es=ab){a:Array Bool}(H:es[i]? =aa (e,r))(f:Nat->R)(x:Nat)
  (m: ∀d h v,(x,v)∈proj d->lS e r d h=ab)
  (o: ∀j,mX c n j i=ab->a.getD j ak=ab) (q: ∀j,j<es.length->mX c n i j=ab->a.getD j ab=ak) (z:a.getD i ab=ak):
  hf ((es.map (·.1)).map proj) 0 (λj=>a.getD j ab) f x=hf ((es.map (·.1)).map proj) 0 (λj=>dw j i) f x:=by
 refine AJ _ 0 _ _ f f x rfl ?_;intro j W k ⟨v,L⟩;rw[dI];simp only[List.map_map,List.getElem?_map] at k;cases w:es[j]? with
 |none=>rw[w] at k;cases k
 |some p=>
  obtain⟨d,h⟩:=p;rw[w] at k;simp at k;subst k;have A:j<es.length:=(b5.1 w).1;rcases Nat.lt_trichotomy j i with y|rfl|B
  ·have a1:=AL es 0 G j i d h e r w H y (by rw[aaW];exact m d h v L);rw[dI,dI] at a1;have C:=o j a1;have Q:dw j i=ab:=by simpa[Nat.blt_eq] using y
   rw[Q];rw[r2] at C⊢;cases D:a[j]? with
   |none=>rfl
   |some b=>rw[D] at C;simpa using C
  ·rw[z];symm;cases a1:dw j j with
   |false=>rfl
   |true=>simp[Nat.blt_eq] at a1
  have a1:=AL es 0 G i j e r d h H w B (m d h v L);rw[dI,dI] at a1;rw[q j A a1];symm;cases F:dw j i with
  |false=>rfl
  |true=>simp[Nat.blt_eq] at F;omega
theorem GZ{b:Array Oper}(proj:df->List (Nat×R))(H:nc b n 0 es=ab){a:Array Bool}(D:es[i]? =aa (e,r))(f:Nat->R)(w:i<a.size)
  (y: ∀x h q v L,(x,v)∈proj h->(x,L)∈proj e->lS e r h q=ab) (k: ∀j,j<es.length->mX b n i j=ab->a.getD j ab=ak) (Q:a.getD i ab=ak):
  dA (hf ((es.map (·.1)).map proj) 0 (λj=>a.getD j ab) f) (proj e)=hf ((es.map (·.1)).map proj) 0 (λj=>(a.setIfInBounds i ab).getD j ab) f:=by
 funext x;have m: ∀j,j≠i->(a.setIfInBounds i ab).getD j ab=a.getD j ab:=λj z=>by
  simp[Array.getD_eq_getD_getElem?,Array.getElem?_setIfInBounds_ne (Ne.symm z)]
 have A:(a.setIfInBounds i ab).getD i ab=ab:=by
  simp[Array.getD_eq_getD_getElem?,w]
 have B:((es.map (·.1)).map proj)[i]? =aa (proj e):=by simp[D]
 by_cases F: ∃v,(x,v)∈proj e
 ·obtain⟨G,o⟩:=F;symm;refine NW _ 0 _ f x i (proj e) B ⟨G,o⟩ (by rw[dI];exact A) ?_ _;intro j W z d ⟨v,C⟩;rw[dI,m j O];simp only[List.map_map,List.getElem?_map] at d;cases c:es[j]? with
  |none=>rw[c] at d;cases d
  |some p=>
   obtain⟨h,q⟩:=p;rw[c] at d;simp at d;subst d;have a1:=AL es 0 H i j e r h q D c z (y x h q v G C o);rw[dI,dI] at a1;exact k j (b5.1 c).1 a1
 rw[mW _ _ _ λv C=>F ⟨v,C⟩];refine AJ _ 0 _ _ f f x rfl ?_
 grind
theorem Nz: ∀(l:List Oper) (a:Nat),sq a l=ab-> ∀(i:Nat) o,l[i]? =aa o-> ∀e∈o.after,Region.binds .any e=ab->e.on<a+i
 | [],_,_,_,_,h=>by simp at h
 |o::l,a,h,0,m,b=>by
  simp at b;subst b;intro e d k;simp only[sq,cx,List.all_eq_true,Bool.or_eq_true] at h;rcases h.1 e (by simpa using d) with c|c
  ·rw[k] at c;cases c
  simpa[Nat.blt_eq] using c
 |o::l,a,h,i+1,m,b=>by
  simp at b;simp only[sq,cx] at h;intro e d k
  have:=Nz l (a+1) h.2 i m b e d k;omega
theorem ad9{Q:S->Prop}{x1:Exit->Act->World->Prop}(hp:nc l.toArray l.length 0 es=ab)(he:sq 0 l=ab)(cO:xD K l.toArray l es s Q)
  (JZ: ∀g a w,Rel K g (iS (es.map (·.1)) 0 (λ_=>ab) s) a w->x1 .normal a w):
  ∀(c:Nat) (b:Array Bool) (y:List Nat),b.size=l.length->y.Nodup->y.length=c->(∀i,b.getD i ab=ak↔i∈y)->QZ l.toArray b->
   ∀g a w,Rel K g (iS (es.map (·.1)) 0 (λj=>b.getD j ab) s) a w->wpAny K.P .any l.toArray x1 c b a w:=by
 obtain⟨hlen,_,aiN⟩:=AX l es s Q cO
 -- if nothing is ready, all is done
 have hall: ∀(b:Array Bool) (y:List Nat),b.size=l.length->(∀i,b.getD i ab=ak↔i∈y)->y≠[]->Region.ready .any l.toArray b≠[]:=by
  intro b y G E I;have key: ∀n,(∃i,i∈y/\i<=n)-> ∃m,m∈y/\ ∀j,j<m->j∉y:=by
   intro n;induction n with
   |zero=>rintro⟨i,aJ,hle⟩;exact⟨0,by rwa [show i=0 by omega] at aJ,λj L=>O⟩
   |succ n mU=>
    rintro⟨i,aJ,hle⟩;by_cases h: ∃i,i∈y/\i<=n
    ·exact mU h
    have:i=n+1:=by
     rcases Nat.lt_or_ge i (n+1) with hlt|k3
     ·exact bs ⟨i,aJ,O⟩ h
     omega
    subst this;exact⟨n+1,aJ,λj L aiu=>h ⟨j,aiu,O⟩⟩
  obtain⟨x,hx⟩:=ET y I;obtain⟨m,hm,alm⟩:=key x ⟨x,hx,da _⟩;have aiF:=(E m).2 hm;have SC:m<l.length:=by
   grind
  intro R
  have:m∈Region.ready .any l.toArray b:=by
   rw[mem_ready];refine⟨aiF,l[m],by simp[SC],λe ah8 W=>?_⟩;have hlt:=Nz l 0 he m l[m] (bu SC) e ah8 W
   grind
  grind
 have M: ∀(b:Array Bool),(∀i,b.getD i ab=ab)->iS (es.map (·.1)) 0 (λj=>b.getD j ab) s=iS (es.map (·.1)) 0 (λ_=>ab) s:=by
  grind
 intro c;induction c with
 |zero=>
  intro b y G N A E bS g a w b8;have R:y=[]:=ns A;subst R;have C: ∀i,b.getD i ab=ab:=λi=>by
   cases h:b.getD i ab with
   |true=>rfl
   |false=>have:=(E i).1 h;simp at this
  refine⟨?_,JZ g a w (by rw[<-M b C];exact b8)⟩;cases aiX:Region.ready .any l.toArray b with
  |nil=>rfl
  |cons x xs=>
   have:x∈Region.ready .any l.toArray b:=by rw[aiX];simp
   rw[mem_ready] at this;rw[C x] at this;exact bs this.1 a7
 |succ c mU=>
  intro b y G N A E bS g a w b8;have I:y≠[]:=by intro e;subst e;simp at A
  refine⟨λh=>bs h (hall b y G E I),λi aJ=>?_⟩;obtain⟨q,o,et,X⟩:=mem_ready.1 aJ;have DE:i<l.length:=by
   rcases Nat.lt_or_ge i l.length with h|h
   ·exact h
   rw[Array.getElem?_eq_none (by simpa using h)] at et;cases et
  have tm:l[i]? =aa o:=by simpa using et
  obtain⟨⟨e,r⟩,B⟩: ∃p,es[i]? =aa p:=⟨es[i]' O,by simp[show i<es.length by omega]⟩
  have D: ∀j,mX l.toArray l.length j i=ab->b.getD j ak=ab:=λj W=>Lm bS _ j i W λD9 z=>by rw[et] at z;cases z;exact X
  have d: ∀j,j<es.length->mX l.toArray l.length i j=ab->b.getD j ab=ak:=λj L W=>by
   cases aiB:b.getD j ab with
   |false=>rfl
   |true=>
    have F:=Lm bS _ i j W λD9 z=>bS j D9 z aiB;have ai5:i<b.size:=O
    simp only[Array.getD_eq_getD_getElem?,Array.getElem?_eq_getElem ai5,Option.getD_some] at F q;rw[q] at F;cases F
  have T:r.same (iS (es.map (·.1)) 0 (λj=>b.getD j ab) s) (iS (es.map (·.1)) 0 (λj=>dw j i) s):=by
   refine⟨λx hx=>?_,λk hk=>⟨?_,?_⟩⟩
   ·exact Hd (·.e9) hp B s.t x (λf zN v bZ=>by simp[lS,G8 bZ hx]) D d q
   ·exact Hd (·.hs) hp B s.H k (λf zN v bZ=>by simp[lS,G8 bZ hk]) D d q
   exact Hd (·.us) hp B s.u k (λf zN v bZ=>by simp[lS,G8 bZ hk]) D d q
  have U:e.app (iS (es.map (·.1)) 0 (λj=>b.getD j ab) s)=iS (es.map (·.1)) 0 (λj=>(b.setIfInBounds i ab).getD j ab) s:=by
   unfold df.app iS;simp only[S.mk.injEq];refine⟨?_,?_,?_⟩
   ·exact GZ (·.e9) hp B s.t O (λx f zN v dC F h2=>by simp[lS,FT h2 F]) d q
   ·exact GZ (·.hs) hp B s.H O (λx f zN v dC F h2=>by simp[lS,FT h2 F]) d q
   exact GZ (·.us) hp B s.u O (λx f zN v dC F h2=>by simp[lS,FT h2 F]) d q
  have DI:=aiN i o e r tm B _ T;have aif: ∀V uN w',Rel K V (e.app (iS (es.map (·.1)) 0 (λj=>b.getD j ab) s)) uN w'->wpAny K.P .any l.toArray x1 c (b.setIfInBounds i ab) uN w':=by
   intro V uN w' SN;rw[U] at SN;have aim:=(E i).1 q;refine mU (b.setIfInBounds i ab) (y.erase i) (by simpa using G) (N.erase i) (by rw[List.length_erase_of_mem aim];omega) (λj=>?_) ?_ V uN w' SN
   ·rw[N.mem_erase_iff];by_cases L:j=i
    ·subst L;simp[Array.getD_eq_getD_getElem?,show j<b.size by omega]
    simp only[Array.getD_eq_getD_getElem?,Array.getElem?_setIfInBounds_ne (Ne.symm L)]
    have:=E j;rw[r2] at this;rw[this];simp[L]
   intro j D9 z L f Su W;by_cases Sx:j=i
   ·subst Sx;rw[et] at z;cases z;exact getD_set_true (X f Su W)
   have F:b.getD j ab=ab:=by
    simpa only[Array.getD_eq_getD_getElem?,Array.getElem?_setIfInBounds_ne (Ne.symm Sx)] using L
   exact getD_set_true (bS j D9 z F f Su W)
  have Y:=DI g a w (wpAny K.P .any l.toArray x1 c (b.setIfInBounds i ab)) x1 b8 aif;unfold wpOp;rw[et];exact Y
theorem OR{Q:Exit->S->Prop}(c:List (df×gU))(A:K.P.follows .mixedOrders=ab)(B:nc l.toArray l.length 0 c=ab)(C:sq 0 l=ab)
  (d:xD K l.toArray l c s λD=>Q .normal D):cX K (.region n l.toArray ab) s Q:=by
 intro e a w W k F;obtain⟨_,G,_⟩:=AX l c s _ d;refine wp_region_any A ?_;have m:Rel K e s a {w with drawn:=w.drawn+1}:=uA k;have H:iS (c.map (·.1)) 0 (λj=>(Array.replicate l.toArray.size ak).getD j ab) s=s:=by
  have y:=(AX l c s _ d).1;have b: ∀{p:Type} (cb:List (List (Nat×p))) (L:Nat->Bool) (i:Nat) (f:Nat->p),(∀j,j<cb.length->L (i+j)=ak)->hf cb i L f=f:=by
   intro p cb L;induction cb with
   |nil=>intro _ _ _;rfl
   |cons x cb R=>
    intro i f h;simp only[hf];have z:=h 0 a7;rw[r0] at z;rw[z,cond_false];exact R (i+1) f λj q=>by have:=h (j+1) b6;rwa [show i+(j+1)=i+1+j by omega] at this
  have r: ∀j,j<c.length->(Array.replicate l.toArray.size ak).getD (0+j) ab=ak:=λj q=>by
   rw[dI,r2,Array.getElem?_replicate,bb b6];rfl
  unfold iS;rw[b _ _ _ _ (by simpa using r),b _ _ _ _ (by simpa using r),b _ _ _ _ (by simpa using r)]
 refine ad9 B C d (λe a w k=>F _ _ _ _ _ G k) l.toArray.size (Array.replicate l.toArray.size ak) (List.range l.length) a7 List.nodup_range a7 (λi=>?_) ?_ e a _ (by rw[H];exact m)
 ·rw[r2,Array.getElem?_replicate,qt]
  grind
 intro j o X q;rw[r2,Array.getElem?_replicate] at q
 grind
end
end
abbrev Y(n:Int):V:= .t (.int .i64 n)
abbrev aT(b:Bool):V:= .t (.bool b)
abbrev cH(s:List UInt8):V:= .t (.str s)
abbrev Uo(a:List (List T)):V:= .t (.bE a)
abbrev iJ(n:Int):List T:=[.int .i64 n]
abbrev qn(b:UInt8):List T:=[.int .u8 (b.toNat:Nat)]
abbrev afm(b:Bool):List T:=[.bool b]
def iH(P:Program)(f:FuncId):Prop:= ∃a,P.funcs[f]? =aa a/\(a.name== "runtime.NumGoroutine")=ak/\a.body.isNone=ak
section
variable {K:Ctx}{s:S}{Q:Exit->S->Prop}
variable {l:List Oper}
theorem MP{b:Array Oper}{Q:S->Prop}{c:S}(k:s.le K c)(h:qX K b l c Q):qX K b l s Q:=
  λm a w n o p=>let ⟨e,i⟩:=k m a w o;h e a w n i p
theorem WD{n:Nat}(i:S)(h:qX K l.toArray l s λk=>k.le K i)(m:Q .normal i):cX K (.region n l.toArray ak) s Q:=by intro o a w p q r;refine wp_region_lit (h o a w p q λk b x y A c=>?_);obtain⟨B,e⟩:=A b x y c;exact r _ _ _ _ _ m e
theorem cv.eq{P:Program}{H:Nat->Option E}{o:Oper}{Y:List V}{v dC:V}(h:cv P H o Y v)(e:v=dC):cv P H o Y dC:=e▸h
section
variable {K:Ctx}{s:S}{d:Option Tmp}{ty:TypeId}{pos:String}{af:Array Edge}{g:Option (Nat×Bool)}
variable {t:TypeId}{u:TypeDesc}{z:Value}{gen size bytes:Nat}
end
end
theorem kp(b:Bool){P:Prop}(a:b=ak->P)(c:b=ab->P):P:=by
 cases b with
 |false=>exact a rfl
 |true=>exact c rfl
theorem fG.of_eq{a Y:List V}(h:a=Y):fG a Y:=h▸fG.refl a
section
variable {K:Ctx}{s:S}{ops:Array Oper}{rest:List Oper}{Q:S->Prop}{d:Nat}{ty:TypeId}{pos:String}{af:Array Edge}{j:Nat}{want:Bool}{t:Nat}
end
section
mutual
def V.ek(L:List Nat):V->V
  | .ref id a=> .ref (L.getD id 0) a
  | .bo id gen b a len=> .bo (L.getD id 0) gen b a len
  | .cR id gen b i a=> .cR (L.getD id 0) gen b i a
  | .agg cs=> .agg (jg L cs)
  | .bX cs=> .bX (jg L cs)
  | .fn f cs=> .fn f (jg L cs)
  | .t x=> .t x
  | .aS x=> .aS x
  | .dp=> .dp
def jg(L:List Nat):List V->List V
  | []=>[]
  |c::cs=>c.ek L::jg L cs
end
def E.ek(L:List Nat):E->E
  | .cells cs=> .cells (jg L cs)
  | .arr ty gen b a=> .arr ty gen b a
  | .aN c m gen a d=> .aN c m gen a (d.map λh=>(h.1,h.2.1,h.2.2.ek L))
def E.flat:E->Bool
  | .cells _=>ab
  |_=>ak
theorem p7{L:List Nat}: ∀cs:List V,(jg L cs).length=cs.length
  | []=>rfl
  |c::cs=>by simp[jg,p7 cs]
theorem Hi{L:List Nat}: ∀(cs:List V) (i:Nat),(jg L cs)[i]? =(cs[i]?).map (V.ek L)
  | [],_=>by simp[jg]
  |c::cs,0=>by simp[jg]
  |c::cs,i+1=>by simp[jg,Hi cs i]
variable {L:List Nat}{w:World}{X:Nat->Prop}
theorem Bm{Y:List V}{i:Nat}{c:V}(h:(jg L Y)[i]? =aa c): ∃a,Y[i]? =aa a/\c=a.ek L:=by
  rw[Hi] at h
  grind
theorem bt.ek{β β':Map}{v:V}{u:Value}(h:bt β w X v u)(e: ∀k x,β k=aa x->β' (L.getD k 0)=aa x):bt β' w X (v.ek L) u:=by
  induction h with
  |t x v h=>exact .t x v h
  |agg cs r o _ s=>exact .agg _ r (by rw[p7];exact o) (λi c u p y=>by obtain⟨z,A,rfl⟩:=Bm p;exact s i z u A y)
  |bX cs r o _ s=>exact .bX _ r (by rw[p7];exact o) (λi c u p y=>by obtain⟨z,A,rfl⟩:=Bm p;exact s i z u A y)
  |ref id d b l=>exact .ref _ d b (e _ _ l)
  |aS cells b d f l D p F=>exact .aS cells b d f l D p F
  |bo id gen a d len B b n ty m l G H K o Q=>exact .bo _ gen a d len B b n ty m (e _ _ l) G H K o Q
  |hb id gen a m l=>exact .hb _ gen a m (e _ _ l)
  |ks id gen a d len v q g C l m=>exact .ks _ gen a d len v q g C (e _ _ l) m
  |cR id gen a i d b m l=>exact .cR _ gen a i d b m (e _ _ l)
  |ls id gen a i d v q g C l m=>exact .ls _ gen a i d v q g C (e _ _ l) m
  |fn f cs r o _ s=>exact .fn f _ r (by rw[p7];exact o) (λi c u p y=>by obtain⟨z,A,rfl⟩:=Bm p;exact s i z u A y)
  |dp v=>exact .dp v
def jH(L:List Nat)(a:Map):Map:=⟨λk=>(L[k]?).bind a,λk b=> ∃id,L[k]? =aa id/\a.n id b⟩
def d6:Nat->(Nat->Bool)
  |0=>gK
  |n+1=>aZ (d6 n) n ab
theorem jx: ∀{n k:Nat},d6 n k=ab↔k<n
  |0,k=>by simp[d6,gK]
  |n+1,k=>by
    by_cases h:k=n
    · subst h;simp[d6,cd]
    · rw[d6,cg _ _ _ _ h,jx];omega
mutual
theorem bt.qp{β:Map}{w:World}{X:Nat->Prop}{L:List Nat}: ∀(v:V) (u:Value),bt β w X (v.ek L) u->v.ok (d6 L.length)=ab->bt (jH L β) w X v u
  | .t x,u,h,_=>by
    simp only[V.ek] at h;cases h with|t _ _ h=>exact .t _ _ h
  | .aS x,u,h,_=>by
    simp only[V.ek] at h;cases h with|aS _ b l f a D r s=>exact .aS _ b l f a D r s
  | .dp,u,_,_=> .dp u
  | .ref id l,u,h,d=>by
    have e:id<L.length:=jx.1 (by simpa[V.ok] using d);have o:jH L β id=β (L.getD id 0):=by simp[jH,List.getElem?_eq_getElem e]
    simp only[V.ek] at h;cases h with|ref _ _ b a=>exact .ref _ _ b (by rw[o];exact a)
  | .bo id gen y l len,u,h,d=>by
    have e:id<L.length:=jx.1 (by simpa[V.ok] using d);have o:jH L β id=β (L.getD id 0):=by simp[jH,List.getElem?_eq_getElem e]
    simp only[V.ek] at h;cases h with
    |bo _ _ _ _ _ A b n ty m a F k G d B=>exact .bo _ _ _ _ _ A b n ty m (by rw[o];exact a) F k G d B
    |hb _ _ _ m a=>exact .hb _ _ _ m (by rw[o];exact a)
    |ks _ _ _ _ _ _ q g C a m=>exact .ks _ _ _ _ _ _ q g C (by rw[o];exact a) m
  | .cR id gen y i l,u,h,d=>by
    have e:id<L.length:=jx.1 (by simpa[V.ok] using d);have o:jH L β id=β (L.getD id 0):=by simp[jH,List.getElem?_eq_getElem e]
    simp only[V.ek] at h;cases h with
    |cR _ _ _ _ _ b m a=>exact .cR _ _ _ _ _ b m (by rw[o];exact a)
    |ls _ _ _ _ _ _ q g C a m=>exact .ls _ _ _ _ _ _ q g C (by rw[o];exact a) m
  | .agg cs,u,h,d=>by
    simp only[V.ek] at h;cases h with
    |agg _ p k s=>exact .agg _ p (by rw[p7] at k;exact k) (λi c u r z=>BL cs (λi=>p[i]?) (by simpa[V.ok] using d) s i c u r z)
  | .bX cs,u,h,d=>by
    simp only[V.ek] at h;cases h with
    |bX _ p k s=>exact .bX _ p (by rw[p7] at k;exact k) (λi c u r z=>BL cs (λi=>p[i]?) (by simpa[V.ok] using d) s i c u r z)
  | .fn f cs,u,h,d=>by
    simp only[V.ek] at h;cases h with
    |fn _ _ p k s=>exact .fn _ _ p (by rw[p7] at k;exact k) λi c u r z=>BL cs (λi=>p[i]?) (by simpa[V.ok] using d) s i c u r z
theorem BL{G:Map}{w:World}{X:Nat->Prop}{L:List Nat}: ∀(cs:List V) (a:Nat->Option Value),gL (d6 L.length) cs=ab->
    (∀i c u,(jg L cs)[i]? =aa c->a i=aa u->bt G w X c u)-> ∀(i:Nat) c u,cs[i]? =aa c->a i=aa u->bt (jH L G) w X c u
  | [],_,_,_,_,_,_,h,_=>by simp at h
  |c::cs,a,b,h,0,_,u,d,e=>by
    simp at d;subst d;simp[gL] at b;exact bt.qp c u (h 0 _ u (by simp[jg]) e) b.1
  |c::cs,a,b,h,i+1,k,u,d,e=>by simp at d;simp[gL] at b;exact BL cs (λi=>a (i+1)) b.2 (λi c u l m=>h (i+1) c u (by simpa[jg] using l) m) i k u d e
end
theorem dx.qp{β:Map}{w:World}{X:Nat->Prop}{L:List Nat}: ∀{a:List V} {b:List Value},dx β w X (jg L a) b->gL (d6 L.length) a=ab->dx (jH L β) w X a b
  | [],[],_,_=>trivial
  |v::a,u::b,h,c=>by
    simp[gL] at c;exact⟨bt.qp v u h.1 c.1,dx.qp h.2 c.2⟩
  | [],_::_,h,_=>h.elim
  |_::_,[],h,_=>h.elim
def er:List E->Nat->(Nat->Option E)
  | [],_=>nl
  |e::a,k=>aZ (er a (k+1)) k (aa e)
theorem OC: ∀(a:List E) (k i:Nat),er a k (k+i)=a[i]?
  | [],_,_=>by simp[er,nl]
  |e::a,k,0=>by rw[r0,er,cd];simp
  |e::a,k,i+1=>by rw[er,cg _ _ _ _ O,show k+(i+1)=(k+1)+i by omega,OC a (k+1) i];simp
theorem wQ(a:List E)(i:Nat):er a 0 i=a[i]? :=by have:=OC a 0 i;rwa [dI] at this
def hZ(X:Nat->Prop)(a:Map)(H:Nat->Option E)(b:Nat):Prop:=X b\/ ∃id,H id≠aj/\At a id b
structure qE (G:fe) (ft:List E) (β:Map) (w:World) (X:Nat->Prop):Prop where
  dT: ∀k,ft.length<=k->β k=aj
  ev: ∀k b,ft.length<=k-> ¬β.n k b
  inj: ∀id lD b,At β id b->At β lD b->id=lD
  place: ∀k b,At β k b->b<w.heap.size/\ ¬X b/\G.zw<=b
  heap: ∀k e,ft[k]? =aa e->cY β w (hZ X β (er ft 0)) k e
structure Left (ic β:Map) (ft out:List E) (w w':World) (X:Nat->Prop) (r:V) (u:Value):Prop where
  ext:Ext (λb=> ∃k,At ic k b) w w'
  base:kL ft.length ic β w.heap.size
  jm:Shaped ic w w'
  dT: ∀k,out.length<=k->β k=aj
  ev: ∀k b,out.length<=k-> ¬β.n k b
  inj: ∀id lD b,At β id b->At β lD b->id=lD
  fresh: ∀k b,At β k b->((∃cE,cE<ft.length/\At ic cE b)\/w.heap.size<=b)/\b<w'.heap.size
  heap: ∀k e,out[k]? =aa e->cY β w' (hZ X β (er out 0)) k e
  res:bt β w' (hZ X β (er out 0)) r u
def LU(P:Program)(G:fe)(f:FuncId)(c:List E)(args:List V){ι:Type}(k:ι->Prop)(r:ι->V)(d:ι->List E):Prop:=
  ∀(w:World) (X:Nat->Prop) (a:Map) (h:List Value),G.ok w->(∀b,X b->b<w.heap.size)->qE G c a w X->dx a w (hZ X a (er c 0)) args h->
    Calls P f h.toArray w λe l=> ∃u i m,e= .returned u/\k i/\Left a m c (d i) w l X (r i) u
def Ctx.dL(P:Program)(G:fe)(w:World)(X:Nat->Prop)(dZ:Nat)(ic:Map)(nt:Nat):Ctx:={P,G,w0:=w,X,dZ,ic,nt}
def mr(a:List E)(args:List V):S:={t:=uE args 0,H:=er a 0,u:=d6 a.length}
theorem Rel.mr{P:Program}{G:fe}{nt:Nat}{a:List E}{U:Map}{args:List V}{c:List Value}(q:G.ok w)(r: ∀b,X b->b<w.heap.size)(d:qE G a U w X)
    (h:dx U w (hZ X U (er a 0)) args c) (x:c.length<=nt):
    Rel (Ctx.dL P G w X a.length U nt) U (Lift.mr a args) {tmps:=c.toArray++Array.replicate (nt-c.toArray.size) undef,defers:=[]} w:=by
  have k: ∀id b,At U id b->id<a.length:=by
    rintro id b (⟨g,h⟩|h)
    · apply oj;intro l;rw[d.dT id l] at h;cases h
    · exact oj λl=>d.ev id b l h
  refine {ext:=Ext.refl _ _,oY:=q,o7:= ?_,jK:= ?_,base:=kL.refl _ _ _,jm:=Shaped.refl _ _,low:=λid h=>jx.2 h,dT:= ?_,ev:= ?_,
           rs:=d.inj,inj:=d.inj,fresh:=λid b h=>⟨.inl ⟨id,k id b h,h⟩,(d.place id b h).1⟩,heap:= ?_,dB:= ?_,nt:= ?_,defers:=rfl}
  · rintro b ⟨id,_,h⟩;exact(d.place id b h).2.2
  · intro b p;exact⟨r b p,λ⟨id,_,h⟩=>(d.place id b h).2.1 p⟩
  · intro id hid;apply d.dT;apply Nat.le_of_not_lt;intro k;have m:=jx.2 k;have n:d6 a.length id=ak:=hid
    grind
  · intro id b hid h;have m:=jx.2 (k id b (.inr h));have n:d6 a.length id=ak:=hid
    grind
  · intro id e s;have o:a[id]? =aa e:=by rw[<-wQ];exact s
    refine⟨jx.2 ?_,d.heap id e o⟩
    grind
  · intro i;have m:=FM args c 0 h i;rw[dI] at m;have n:(c.toArray++Array.replicate (nt-c.toArray.size) undef).getD i undef=c.getD i undef:=by
      simp only[Array.getD_eq_getD_getElem?,List.getD_eq_getElem?_getD,Array.getElem?_append]
      grind
    simp only[n];exact m
  · simp[Ctx.dL];omega
end
section
def lJ{a:Type}(f:Nat->a):List Nat->(Nat->a)->(Nat->a)
 | [],_=>f
 |l::L,g=>aZ (lJ f L λk=>g (k+1)) l (g 0)
theorem nX{a:Type}{f:Nat->a}: ∀{L:List Nat} {g:Nat->a} {id:Nat},id∉L->lJ f L g id=f id
 | [],_,_,_=>rfl
 |l::L,g,id,h=>by simp at h;rw[lJ,cg _ _ _ _ h.1];exact nX h.2
theorem o5{a:Type}{f:Nat->a}: ∀{L:List Nat} {g:Nat->a} {k id:Nat},L.Nodup->L[k]? =aa id->lJ f L g id=g k
 | [],_,_,_,_,h=>by simp at h
 |l::L,g,0,id,_,h=>by simp at h;subst h;rw[lJ,cd]
 |l::L,g,k+1,id,b,h=>by simp at h b;have c:id≠l:=λe=>b.1 (e▸bT h);rw[lJ,cg _ _ _ _ c];exact o5 (g:=λk=>g (k+1)) b.2 h
theorem G6: ∀{L:List Nat} {i j id:Nat},L.Nodup->L[i]? =aa id->L[j]? =aa id->i=j
 | [],_,_,_,_,h,_=>by simp at h
 |l::L,0,0,_,_,_,_=>rfl
 |l::L,0,j+1,id,a,h,b=>by simp at h b a;subst h;exact bs (bT b) a.1
 |l::L,i+1,0,id,a,h,b=>by simp at h b a;subst b;exact bs (bT h) a.1
 |l::L,i+1,j+1,id,a,h,b=>by simp at h b a;rw[G6 a.2 h b]
def S.after(s:S)(L:List Nat)(a:List E):S:=
 {t:=s.t,H:=lJ s.H L λk=>(a[k]?).map (E.ek L),u:=lJ s.u L (λ_=>ab)}
def F2(K:Ctx)(o:Oper)(s:S){R:Type}(e:R->Prop)(h:R->S):Prop:=
 ∀k a w next Q,Rel K k s a w->(∀i,e i-> ∀b c d,Rel K b (h i) c d->next c d)->o.wp K.P a w next Q
variable {β:Map}{w:World}{X:Nat->Prop}{L:List Nat}{k:Nat}{e:E}{f:FuncId}
theorem cY.qp{id:Nat}(h:cY β w X id (e.ek L))(C:L[k]? =aa id)(F:e.ok (d6 L.length)=ab):cY (jH L β) w X k e:=by
 have l:jH L β k=β id:=by simp[jH,C]
 cases e with
 |cells cs=>
  obtain⟨b,o,ty,a,d,s,D⟩:=h;rw[p7] at s;refine⟨b,o,ty,by rw[l];exact a,d,s,λi c u y Q=>?_⟩;exact bt.qp c u (D i _ u (by rw[Hi,y];rfl) Q) (xg F y)
 |arr ty gen G p=>
  refine⟨h.1,?_⟩;rcases h.2 with ⟨a,d⟩|⟨b,o,a,d⟩
  ·exact .inl ⟨by rw[l];exact a,d⟩
  exact .inr ⟨b,o,by rw[l];exact a,d⟩
 |aN N m gen p P=>
  refine⟨h.1,?_⟩;have H: ∀c,(jH L β).n k c↔β.n id c:=λc=>⟨λ⟨R,a,d⟩=>by rw[C] at a;cases a;exact d,λh=>⟨id,C,h⟩⟩
  rcases h.2 with ⟨a,d,W⟩|⟨b,o,B,a,d,s,D,K,f,g,t⟩
  ·exact .inl ⟨by rw[l];exact a,d,λc y=>W c ((H c).1 y)⟩
  refine .inr ⟨b,o,B,by rw[l];exact a,d,s,D,λi j q x u aL a2 a3=>⟨λv z=>?_,λI=>?_⟩,f,g,λc=>(H c).trans (t c)⟩
  ·have A:=(K i j q x u aL a2 a3).1 (v.ek L) (eK.2 ⟨_,z,rfl⟩);exact⟨bt.qp v u A.1 (He F z),A.2⟩
  refine(K i j q x u aL a2 a3).2 λv z=>?_;obtain⟨⟨S,T,M⟩,A,r⟩:=eK.1 z;simp only[Prod.mk.injEq] at r;obtain⟨rfl,rfl,rfl⟩:=r;exact I M A
theorem cY.ek{β':Map}{X':Nat->Prop}{C:Nat}(h:cY β w X k e)(W:L[k]? =aa C)(o: ∀k x,β k=aa x->β' (L.getD k 0)=aa x)(F: ∀b,X' b->X b)(Q: ∀b,β'.n C b↔β.n k b):cY β' w X' C (e.ek L):=by
 have q: ∀x,β k=aa x->β' C=aa x:=λx G=>by have:=o k x G;rwa [fh,W] at this
 cases e with
 |cells cs=>
  obtain⟨b,r,ty,a,d,s,y⟩:=h;refine⟨b,r,ty,q _ a,d,by rw[p7];exact s,λi c u H f=>?_⟩;obtain⟨g,p,rfl⟩:=Bm H;exact((y i g u p f).ek o).mono (Ext.refl _ _) (λb _=>F b) (dX.refl _) (Shaped.refl _ _)
 |arr ty gen R z=>
  refine⟨h.1,?_⟩;rcases h.2 with ⟨a,d⟩|⟨b,r,a,d,s,y,p⟩
  ·exact .inl ⟨q _ a,d⟩
  exact .inr ⟨b,r,q _ a,d,s,y,λi j l x u aL a2 a3=>(p i j l x u aL a2 a3).mono (Ext.refl _ _) λb _=>F b⟩
 |aN T m gen z U=>
  refine⟨h.1,?_⟩;rcases h.2 with ⟨a,d,t⟩|⟨b,r,B,a,d,s,y,p,I,M,N⟩
  ·exact .inl ⟨q _ a,d,λc H=>t c ((Q c).1 H)⟩
  refine .inr ⟨b,r,B,q _ a,d,s,y,λi j l x u aL a2 a3=>⟨λv K=>?_,λG=>?_⟩,I,M,λc=>(Q c).trans (N c)⟩
  ·obtain⟨⟨V,Y,P⟩,S,A⟩:=eK.1 K;simp only[Prod.mk.injEq] at A;obtain⟨rfl,rfl,rfl⟩:=A;have D:=(p _ _ l x u aL a2 a3).1 P S;exact⟨(D.1.ek o).mono (Ext.refl _ _) (λb _=>F b) (dX.refl _) (Shaped.refl _ _),D.2⟩
  exact((p i j l x u aL a2 a3).2 λv K=>G (v.ek L) (eK.2 ⟨_,K,rfl⟩)).mono (Ext.refl _ _) (λb _=>F b) λ_ _=>rfl
theorem dx.app{β:Map}{w:World}{X:Nat->Prop}: ∀{c a:List V} {d b:List Value},dx β w X c d->dx β w X a b->dx β w X (c++a) (d++b)
 | [],_,[],_,_,h=>h
 |_::_,_,_::_,_,h,k=>⟨h.1,dx.app h.2 k⟩
 | [],_,_::_,_,h,_=>h.elim
 |_::_,_,[],_,h,_=>h.elim
theorem GA{G:Map}{w:World}{X:Nat->Prop}: ∀{b:List V} {d:List Value},d.length=b.length->(∀(i:Nat) c u,b[i]? =aa c->d[i]? =aa u->bt G w X c u)->dx G w X b d
 | [],[],_,_=>trivial
 |v::b,u::d,a,h=>⟨h 0 v u rfl rfl,GA (by simpa using a) λi c u e k=>h (i+1) c u (by simpa using e) (by simpa using k)⟩
 | [],_::_,a,_=>by simp at a
 |_::_,[],a,_=>by simp at a
theorem bt.JN{Y:List V}{u:Value}(h:bt β w X (.fn f Y) u): ∃a:Array Value,u= .func (.func f) #[] a/\dx β w X Y a.toList:=by
 cases h with
 |fn _ _ a b h=>exact⟨a,rfl,GA (by simpa using b) λi c u d e=>h i c u d (by simpa using e)⟩
theorem acn{K:Ctx}{s:S}{o:Oper}{xs:Array Operand}{Uf:Array TypeId}{ft:List E}{args:List V}{ι:Type}{mC:ι->Prop}{r:ι->V}{F:ι->List E}(JO:Operand)(L news:List Nat)
  (RS:List V) (et:o.op= .call {callee:= .value JO,args:=xs,argTypes:=Uf}) (aii:s.get JO= .fn f RS)
  (iI:iH K.P f) (cO: ∀i,o.dst=aa i->dw i K.nt=ab) (bZ:fG (xs.toList.map s.get++RS) (jg L args)) (cC:gL (d6 L.length) args=ab)
  (vI:ft.length=L.length) (hH: ∀(k:Nat) (e:E),ft[k]? =aa e-> ∃id,L[k]? =aa id/\s.H id=aa (e.ek L)/\e.ok (d6 L.length)=ab)
  (U:(L++news).Nodup) (rm: ∀id,id∈news->s.u id=ak) (Kh: ∀i,(F i).length=(L++news).length)
  (h:LU K.P K.G f ft args mC r F):F2 K o s mC (λi=>(s.after (L++news) (F i)).put o.dst ((r i).ek (L++news))):=by
 obtain⟨fn,aic,aid,aie⟩:=iI;intro W a w next Q p l
 have tp:fn.name≠ "runtime.NumGoroutine" :=by simpa using aid
 have hb':fn.body≠aj:=by intro e;simp[e] at aie
 obtain⟨us,ah2,Kp⟩:=(aii▸p.get JO).JN;have Kl:(execOp a.eval o).run K.P w= .ok (.enter f (xs.map a.eval++us)) w:=by
  simp[execOp,et,resolve,Deferred.ofValue,ah2,invoke,callFunc,aic,tp,hb']
 unfold Oper.wp;rw[Kl,Oper.upon_enter];let z:Map:=jH L W;let X':Nat->Prop:=λb=>own K W s.H b/\ ¬ ∃k,At z k b;have k1: ∀k g b,z k=aa (aa b,g)-> ∃id,L[k]? =aa id/\W id=aa (aa b,g):=by
  intro k g b h;cases l:L[k]? with
  |none=>simp[z,jH,l] at h
  |some id=>simp[z,jH,l] at h;exact⟨id,rfl,h⟩
 have X: ∀k b,At z k b-> ∃id,L[k]? =aa id/\At W id b:=by
  rintro k b (⟨g,h⟩|⟨id,m,y⟩)
  ·obtain⟨id,m,y⟩:=k1 k g b h;exact⟨id,m,.inl ⟨g,y⟩⟩
  exact⟨id,m,.inr y⟩
 have ahU: ∀(k id:Nat),L[k]? =aa id->s.H id≠aj:=by
  intro k id l;have hlt:k<ft.length:=by rw[vI];exact(b5.1 l).1
  obtain⟨D,m,y,_⟩:=hH k _ (bu hlt);rw[l] at m;cases m;rw[y];simp
 have v: ∀k b,At z k b->own K W s.H b:=by
  intro k b h;obtain⟨id,m,y⟩:=X k b h;exact .inr ⟨id,ahU k id m,y⟩
 have SJ: ∀b,hZ X' z (er ft 0) b->own K W s.H b:=by
  rintro b (h|⟨k,_,y⟩)
  ·exact h.1
  exact v k b y
 have JW: ∀k b,At z k b->K.M b\/K.w0.heap.size<=b:=by
  intro k b h;obtain⟨id,m,y⟩:=X k b h;exact(p.fresh id b y).1
 have y5: ∀b,own K W s.H b->b<w.heap.size:=by
  rintro b (I|⟨id,_,a1⟩)
  ·exact lN (p.jK b I).1 p.ext.size
  exact(p.fresh id b a1).2
 have aiI:L.Nodup:=(List.nodup_append.1 U).1;have air:qE K.G ft z w X':=by
  refine⟨?_,?_,?_,?_,?_⟩
  ·intro k l;rw[vI] at l;simp[z,jH,List.getElem?_eq_none l]
  ·rintro k b l ⟨id,m,_⟩;rw[vI] at l;rw[EW l] at m;cases m
  ·intro k cE b h h';obtain⟨id,m,y⟩:=X k b h;obtain⟨D,ahG,h2'⟩:=X cE b h';have he:=p.inj id D b y h2';subst he;have l:=(b5.1 m).1;exact G6 aiI m ahG
  ·intro k b B;refine⟨y5 b (v k b B),λI=>I.2 ⟨k,B⟩,?_⟩;rcases JW k b B with A|A
   ·exact p.o7 b A
   exact eR p.oY.1 A
  intro k e he;obtain⟨id,m,y,h4⟩:=hH k e he;have jB:=cY.qp (p.heap id _ y).2 m h4;exact jB.mono (Ext.refl _ _) (λb _=>SJ b) (dX.refl _) (λ_ h=>h) (Shaped.refl _ _) λ_ _=>rfl
 have ahY:=(dx.qp (((p.oX xs.toList).app Kp).le bZ) cC).mono (Ext.refl _ _) (λb _=>SJ b) (dX.refl _) (Shaped.refl _ _);have bS:=h w X' z _ p.Dy (λb a1=>y5 b a1.1) air ahY;have he:(List.map a.eval xs.toList++us.toList).toArray=xs.map a.eval++us:=by rw[<-xc,<-Array.toList_append]
 rw[he] at bS;refine bS.mono ?_;rintro e w' ⟨u,i,R,rfl,aju,d⟩;let C:=L++news;let N:Map:=⟨lJ W C R,λid b=>(id∉C/\W.n id b)\/ ∃k,C[k]? =aa id/\R.n k b⟩
 let s2:=s.after C (F i);have aiC: ∀k,k<L.length->C[k]? =L[k]? :=λk l=>jI l;have t: ∀id,id∈C-> ∃k:Nat,C[k]? =aa id/\k<(F i).length:=by
  intro id hid;obtain⟨k,l,e⟩:=List.mem_iff_getElem.1 hid;exact⟨k,b5.2 ⟨l,e⟩,by rw[Kh];exact l⟩
 have F1: ∀id,id∉C->N id=W id:=λid h=>nX h;have AO: ∀k id,C[k]? =aa id->N id=R k:=λk id h=>o5 U h;have Ly: ∀k id,k<L.length->C[k]? =aa id->(R k=W id)\/ ∃q g wL l9,W id=aa (q,g)/\1<=g/\R k=aa (wL,l9)/\g<l9/\ ∀b,wL=aa b->q=aa b\/w.heap.size<=b:=by
  intro k id l h;have a1:=d.base k (by rw[vI];exact l);rw[aiC k l] at h;have e:z k=W id:=by simp[z,jH,h]
  rw[e] at a1;exact a1
 have SE: ∀k id,L.length<=k->C[k]? =aa id->id∈news:=by
  intro k id l h;rw[jr l] at h;exact bT h
 have LA:dX W N:=by
  intro id q g I;by_cases hid:id∈C
  ·obtain⟨k,l,_⟩:=t id hid;by_cases Y:k<L.length
   ·rw[AO k id l];rcases Ly k id Y l with e|⟨pb,g1,wL,l9,aL,a2,a3,a4,_⟩
    ·exact .inl (e.trans I)
    rw[I] at aL;cases aL;exact .inr ⟨a2,wL,l9,a3,a4⟩
   have:=p.dT id (rm id (SE k id O l));rw[this] at I;cases I
  exact .inl (by rw[F1 id hid];exact I)
 have ahR: ∀k id,C[k]? =aa id->s2.H id=((F i)[k]?).map (E.ek C):=λk id h=>o5 U h;have Sc: ∀id,id∉C->s2.H id=s.H id:=λid h=>nX h;have SI: ∀id b,id∉C->At W id b-> ¬ ∃k,At z k b:=by
  rintro id b hid a1 ⟨k,h⟩;obtain⟨D,m,y⟩:=X k b h
  have:=p.inj id D b a1 y;subst this;exact hid (pq _ (bT m))
 have DB: ∀id b,At N id b->(id∉C/\At W id b)\/ ∃k,C[k]? =aa id/\At R k b:=by
  rintro id b (⟨g,h⟩|⟨m,y⟩|⟨k,m,y⟩)
  ·by_cases hid:id∈C
   ·obtain⟨k,l,_⟩:=t id hid;rw[AO k id l] at h;exact .inr ⟨k,l,.inl ⟨g,h⟩⟩
   rw[F1 id hid] at h;exact .inl ⟨hid,.inl ⟨g,h⟩⟩
  ·exact .inl ⟨m,.inr y⟩
  exact .inr ⟨k,m,.inr y⟩
 have hO: ∀b,own K N s2.H b->hZ X' R (er (F i) 0) b:=by
  rintro b (I|⟨id,m,y⟩)
  ·refine .inl ⟨.inl I,?_⟩;rintro⟨k,B⟩;rcases JW k b B with A|A
   ·exact(p.jK b I).2 A
   have:=(p.jK b I).1;omega
  rcases DB id b y with ⟨hid,h2'⟩|⟨k,l,B⟩
  ·rw[Sc id hid] at m;exact .inl ⟨.inr ⟨id,m,h2'⟩,SI id b hid h2'⟩
  have Y:k<(F i).length:=by rw[Kh];exact(b5.1 l).1
  refine .inr ⟨k,?_,B⟩;rw[wQ,bu Y];simp
 have ak4: ∀k b,At R k b->k<(F i).length:=by
  rintro k b (⟨g,h⟩|h)
  ·apply oj;intro hle;rw[d.dT k hle] at h;cases h
  exact oj λhle=>d.ev k b hle h
 have Se: ∀b,b<w.heap.size->own K N s2.H b->own K W s.H b:=by
  intro b Sq a1;rcases hO b a1 with m|⟨k,_,B⟩
  ·exact m.1
  rcases(d.fresh k b B).1 with ⟨cE,_,A⟩|A
  ·exact v cE b A
  omega
 have Sa:Ext (own K W s.H) w w':=d.ext.weaken λb _ ⟨k,B⟩=>v k b B;have Sh:Shaped W w w':=λb a1=>d.jm b a1;have SO: ∀k x,R k=aa x->N (C.getD k 0)=aa x:=by
  intro k x I;have hlt:k<(F i).length:=by
   apply oj;intro hle;rw[d.dT k hle] at I;cases I
  rw[Kh] at hlt;have bV:C[k]? =aa C[k]:=bu hlt;rw[fh,bV];exact(AO k _ bV).trans I
 have hold: ∀k b,At R k b->(∃id,id∈C/\At W id b)\/w.heap.size<=b:=by
  intro k b a1;rcases(d.fresh k b a1).1 with ⟨cE,A,h4⟩|A
  ·obtain⟨D,e1,e2⟩:=X cE b h4;exact .inl ⟨D,pq _ (bT e1),e2⟩
  exact .inr A
 have hrel:Rel K N s2 a w':=by
  refine {p with ext:= ?_,base:= ?_,jm:= ?_,low:= ?_,dT:= ?_,ev:= ?_,inj:= ?_,fresh:= ?_,heap:= ?_,dB:= ?_}
  ·refine p.ext.trans' (d.ext.weaken ?_);rintro b _ ⟨k,B⟩ ⟨m,y⟩;rcases JW k b B with A|A
   ·exact y A
   omega
  ·refine p.base.more λid hid=>?_;by_cases T:id∈C
   ·obtain⟨k,l,_⟩:=t id T;by_cases Y:k<L.length
    ·rw[AO k id l];rcases Ly k id Y l with e|⟨q,g,wL,l9,aL,a2,a3,a4,a5⟩
     ·exact .inl e
     exact .inr ⟨q,g,wL,l9,aL,a2,a3,a4,λb a1=>by
      rcases a5 b a1 with c|c
      ·exact .inl c
      exact .inr (eR p.ext.size c)⟩
    have m:=rm id (SE k id O l);rw[p.low id hid] at m;cases m
   exact .inl (F1 id T)
  ·intro b A;exact(d.jm b (lN A p.ext.size)).trans (p.jm b A)
  ·intro id hid;by_cases T:id∈C
   ·obtain⟨k,l,_⟩:=t id T;exact o5 (f:=s.u) (g:=λ_=>ab) U l
   exact(nX T).trans (p.low id hid)
  ·intro id hid;by_cases T:id∈C
   ·obtain⟨k,l,_⟩:=t id T
    have:s2.u id=ab:=o5 (f:=s.u) (g:=λ_=>ab) U l;rw[this] at hid;cases hid
   rw[F1 id T];exact p.dT id ((nX (f:=s.u) (g:=λ_=>ab) T).symm.trans hid)
  ·rintro id b hid (⟨m,y⟩|⟨k,l,y⟩)
   ·exact p.ev id b ((nX (f:=s.u) (g:=λ_=>ab) m).symm.trans hid) y
   have:s2.u id=ab:=o5 (f:=s.u) (g:=λ_=>ab) U l;rw[this] at hid;cases hid
  ·intro id D b m y;rcases DB id b m with ⟨m1,aL⟩|⟨k,l,aL⟩<;>rcases DB D b y with ⟨m2,a2⟩|⟨cE,pY,a2⟩
   ·exact p.inj id D b aL a2
   ·rcases hold cE b a2 with ⟨zd,A,h4⟩|A
    ·have:=p.inj id zd b aL h4;subst this;exact bs A m1
    have:=(p.fresh id b aL).2;omega
   ·rcases hold k b aL with ⟨zd,A,h4⟩|A
    ·have:=p.inj D zd b a2 h4;subst this;exact bs A m2
    have:=(p.fresh D b a2).2;omega
   have:=d.inj k cE b aL a2;subst this;rw[l] at pY;cases pY;rfl
  ·intro id b m;rcases DB id b m with ⟨_,aL⟩|⟨k,l,aL⟩
   ·exact⟨(p.fresh id b aL).1,lN (p.fresh id b aL).2 d.ext.size⟩
   refine⟨?_,(d.fresh k b aL).2⟩;rcases hold k b aL with ⟨zd,_,A⟩|A
   ·exact(p.fresh zd b A).1
   exact .inr (eR p.ext.size A)
  ·intro id e he;by_cases T:id∈C
   ·obtain⟨k,l,Y⟩:=t id T;refine⟨o5 (f:=s.u) (g:=λ_=>ab) U l,?_⟩;rw[ahR k id l,bu Y] at he;simp at he;subst he;exact cY.ek (d.heap k _ (bu Y)) l SO hO (λb=>⟨λh=>by
     rcases h with ⟨m,_⟩|⟨cE,m,y⟩
     ·exact bs T m
     have:=G6 U m l;subst this;exact y,λh=> .inr ⟨k,l,h⟩⟩)
   rw[Sc id T] at he;obtain⟨m,y⟩:=p.heap id e he;refine⟨(nX (f:=s.u) (g:=λ_=>ab) T).trans m,?_⟩;exact y.mono Sa Se LA (λx I=>by rw[F1 id T];exact I) Sh (λb a1=>d.ext.keep b (p.fresh id b a1).2 (SI id b T a1)) (λb=>⟨λh=>by
    rcases h with ⟨_,h⟩|⟨cE,m,_⟩
    ·exact h
    exact bs (bT m) T,λh=> .inl ⟨T,h⟩⟩)
  intro j;exact(p.dB j).mono Sa Se LA Sh
 exact l i aju N _ w' (hrel.put o.dst cO ((d.res.ek SO).mono (Ext.refl _ _) (λb _=>hO b) (dX.refl _) (Shaped.refl _ _)))
end
section
variable {K:Ctx}{s:S}{d:Option Tmp}{ty:TypeId}{pos:String}{af:Array Edge}{g:Option (Nat×Bool)}{f:FuncId}{xs:Array Operand}{Uf:Array TypeId}{args:List V}{ι:Type}{mC:ι->Prop}{r:ι->V}{out:ι->List E}
theorem F2.j{o:Oper}{u:Unit->Prop}{b:Unit->S}(h:F2 K o s u b):ef K o s (b ()):=
 λβ a w next Q c e=>h β a w next Q c λ_ _=>e
variable {ops:Array Oper}{rest:List Oper}{Q:S->Prop}{op:Op}
end
section
variable {P:Program}{H:Nat->Option E}{d:Option Tmp}{ty:TypeId}{pos:String}{af:Array Edge}{g:Option (Nat×Bool)}
theorem ae'(n:Int):IntKind.u8.wrap n=((UInt8.ofInt n).toNat:Int):=by
 have:IntKind.u8.wrap n=n%256:=by simp[IntKind.wrap,IntKind.bits,IntKind.signed]
 rw[this];simp[UInt8.ofInt];omega
theorem YX(x:Operand)(c k e:TypeId)(l:List UInt8)(B:P.underlying c=aa (.slice e))(C:P.underlying e=aa (.int .u8))(D:P.underlying k=aa .string):
  cv P H ⟨d,.convert c k x,ty,pos,af,g⟩ [Uo (l.map qn)] (cH l):=by
 intro I w X F _ M;refine⟨.string ⟨l.toArray⟩,?_,.t _ _ (.str l)⟩;have Q:bt I w X (Uo (l.map qn)) (F x):=M.1;simp only[execOp];suffices (convert c k (F x)).run P w= .ok (.string ⟨l.toArray⟩) w by
  simp only[fo,this,fc,j6]
 generalize F x=y at Q⊢;cases Q with
 |t _ _ h=>
  generalize R:l.map qn=W at h;cases h with
  |fW a m=>
   have p:l=[]:=by simpa using R
   subst p;rw[run_convert_bytes_string w c k e _ _ _ B C D];cases a with
   |none=>simp[Conv.bytesToString];rfl
   |some a=>
    rw[run_bytesToString w a 0 m [] (by simp[loadCells,loadCellsFrom,j6])];rfl
  |bE _ b n r m f T U j G N K=>
   subst R;cases p:l with
   |nil=>
    subst p
    have:=run_convert_bytes_arg (P:=P) w c e B C b n 0 m [] rfl (λi u=>O) k D;exact this
   |cons y V=>
    rw[<-p];have o:r=1:=by
     have:=G (qn y) (by rw[p];simp);simpa using this.symm
    subst o;have S: ∀(i:Nat) (z:UInt8),l[i]? =aa z->f i 0= .int .u8 (z.toNat:Int):=by
     intro i z s;have v:=K i 0 (qn z) (.int .u8 (z.toNat:Nat)) (by rw[eQ,s];rfl) rfl;generalize f i 0=q at v⊢;cases v;rfl
    have:=run_convert_bytes_arg (P:=P) w c e B C b n (l.map qn).length m (l.map λz=>(z.toNat:Int)) a7 (λi u=>by
     have A:i<l.length:=by simpa using u
     have s:l[i]? =aa l[i]:=bu A;have L:=N i 0 (by simpa using A) O;rw[S i _ s] at L;rw[show n+i*1+0=n+i by omega] at L;rw[L];simp[List.getD_eq_getElem?_getD,s]) k D
    rw[this];congr 2;simp only[strOfNums,List.map_map];congr 2;apply List.ext_getElem?;intro i;rw[eQ];cases s:l[i]? with
    |none=>rfl
    |some z=>simp
end
section
variable {K:Ctx}{s:S}{d:Option Tmp}{ty:TypeId}{pos:String}{af:Array Edge}{g:Option (Nat×Bool)}
variable {t:TypeId}{u:TypeDesc}{z:Value}{size bytes:Nat}
theorem adE(k:Nat)(q:s.u k=ak)(e:TypeId)(r: ∀i,d=aa i->dw i K.nt=ab)(y:K.P.underlying t=aa (.slice e))(A:cr K.P e u z size bytes):
  ef K ⟨d,.buildSlice t 0 #[],ty,pos,af,g⟩ s ((s.new k (.arr e 1 size [])).put d (.bo k 1 size 0 0)):=by
 intro o a w next Q B l
 have b:(execOp a.eval ⟨d,.buildSlice t 0 #[],ty,pos,af,g⟩).run K.P w= .ok (.value (.slice (aa ⟨w.heap.size,0,aj⟩) 0 0)) (w.alloc (.cells #[] e)):=by
  simp only[execOp,Instr.buildSlice,fo,run_underlying y,fc,A.run_sizeOf,Nat.zero_mul,show¬(0>2^24) by decide,if_false,if_true];simp only[Instr.fill,fo,j6,fc,show Array.range 0= #[] from by simp[Array.range],List.map_toArray,List.map_nil];rfl
 unfold Oper.wp;rw[b];have c:=B.new k 1 q #[] e (.arr e 1 size []) λC R W D F G=>⟨da _,Or.inr ⟨w.heap.size,_,F,by subst D;exact jQ _ _,a7,λ_ h=>by simp at h,λi j L x u h=>by simp at h⟩⟩
 have m:(w.alloc (.cells #[] e)).heap.size=w.heap.size+1:=World.size_alloc ..;have n:(w.alloc (.cells #[] e)).shape? w.heap.size=aa (e,0):=by unfold gj;rw[jQ];simp
 have p:bt (o.put k (aa (aa w.heap.size,1))) (w.alloc (.cells #[] e)) (own K (o.put k (aa (aa w.heap.size,1))) (s.new k (.arr e 1 size [])).H) (.bo k 1 size 0 0)
   (.slice (aa ⟨w.heap.size,0*size,aj⟩) 0 0):= .bo k 1 size 0 0 0 w.heap.size 0 e (da _) (cd _ _ _) (m▸pt _) n a7 (da _) (by unfold maxLen;omega)
 rw[gQ] at p;exact l _ _ _ (c.put d r p)
end
def Ja:Option TypeDesc->Bool
 |some (.int .i64)=>ab
 |_=>ak
theorem adJ{o:Option TypeDesc}(h:Ja o=ab):o=aa (.int .i64):=by
 unfold Ja at h
 grind
def w8(P:Program):List Field->Nat->Bool
 | [],_=>ab
 |f::a,i=>f.name != "_" &&Ja (P.underlying f.type)&&cc f.offset i&&w8 P a (i+1)
theorem KN{P:Program}{w:World}{xs ys:Array Value}: ∀(a:List Field) (i:Nat) (ms b:List Int),w8 P a i=ab->ms.length=a.length->b.length=a.length->
  (∀(j:Nat) m,ms[j]? =aa m->xs[i+j]? =aa (.int .i64 m))->(∀(j:Nat) m,b[j]? =aa m->ys[i+j]? =aa (.int .i64 m))->
  (Op.eqFields 9999 xs ys a).run P w= .ok (ai (ms=b)) w
 | [],i,ms,b,_,c,e,_,_=>by
  have A:ms=[]:=by simpa using c
  have B:b=[]:=by simpa using e
  subst A;subst B;simp[Op.eqFields]
 |f::a,i,[],b,_,c,_,_,_=>by simp at c
 |f::a,i,m::ms,[],_,_,e,_,_=>by simp at e
 |f::a,i,m::ms,n::b,s,c,e,x,y=>by
  simp only[w8,cx] at s;obtain⟨⟨⟨C,k⟩,et⟩,D⟩:=s;have k:=adJ k;have et:=m0 et;have l:f.name≠ "_" :=by simpa using C
  have z: ∀(cs:Array Value) (v:Value),cs[i]? =aa v->(part f.type cs f.offset).run P w= .ok v w:=by
   intro cs v F;rw[et];simp[part,isAgg,run_underlying k,F]
  have o:=x 0 m rfl;have p:=y 0 n rfl;have G:=KN (P:=P) (w:=w) a (i+1) ms b D (by simpa using c) (by simpa using e)
   (λj q r=>by rw[show i+1+j=i+(j+1) by omega];exact x (j+1) q (by simpa using r))
   λj q r=>by rw[show i+1+j=i+(j+1) by omega];exact y (j+1) q (by simpa using r)
  simp only[Op.eqFields,l,ne_eq,not_false_eq_true,if_true,fo,z xs _ o,z ys _ p,fc,run_equalIn_int w 9998 f.type .i64 .i64 m n k];by_cases h:m=n
  ·subst h;simp[G]
  simp[h]
section
variable {P:Program}{H:Nat->Option E}{d:Option Tmp}{ty:TypeId}{pos:String}{af:Array Edge}{g:Option (Nat×Bool)}
theorem Cj{G:Map}{w:World}{X:Nat->Prop}{e:List Int}{u:Value}(h:bt G w X (.agg (e.map Y)) u): ∃a:Array Value,u= .agg a/\ ∀(j:Nat) m,e[j]? =aa m->a[j]? =aa (.int .i64 m):=by
 cases h with
 |agg _ a l n=>
  refine⟨a,rfl,λj m c=>?_⟩;have b:j<a.size:=by
   rw[l,dJ];exact(b5.1 c).1
  have i:a[j]? =aa a[j]:=h8 b;have k:=n j (Y m) _ (by rw[eQ,c];rfl) i;rw[i];generalize a[j]=q at k;cases k with|t _ _ h=>cases h;rfl
theorem aaw(x y:Operand)(t q:TypeId)(a b:List Int)(r:P.underlying t=aa (.struct (P.fieldsOf t)))(s:P.stoodInHeld t=ak)(z:P.eqGuardType P.depth t=ak)
  (A:w8 P (P.fieldsOf t).toList 0=ab) (c:cc a.length (P.fieldsOf t).size=ab) (e:cc b.length (P.fieldsOf t).size=ab):
  cv P H ⟨d,.binOp .neq t x y q,ty,pos,af,g⟩ [.agg (a.map Y),.agg (b.map Y)] (aT (!decide (a=b))):=by
 intro C w X o _ p;obtain⟨h,i,ct⟩:=Cj p.1;obtain⟨k,l,cS⟩:=Cj p.2.1;refine⟨.bool (!decide (a=b)),?_,.t _ _ (.bool _)⟩;have c:=m0 c;have e:=m0 e;have B:=KN (P:=P) (w:=w) (xs:=h) (ys:=k) (P.fieldsOf t).toList 0 a b A (by simpa using c) (by simpa using e) (λj m n=>by simpa using ct j m n) λj m n=>by simpa using cS j m n
 have i:o x=_:=i;have l:o y=_:=l;simp only[execOp,i,l,fo,run_eqGuard_agg w .neq t x y h k z,fc,run_neq_struct,run_equalIn_struct w 9999 t h k r s,B,j6]
theorem aaD(x y:Operand)(t q:TypeId)(a b:List Int)(r:P.underlying t=aa (.struct (P.fieldsOf t)))(s:P.stoodInHeld t=ak)(z:P.eqGuardType P.depth t=ak)
  (A:w8 P (P.fieldsOf t).toList 0=ab) (c:cc a.length (P.fieldsOf t).size=ab) (e:cc b.length (P.fieldsOf t).size=ab):
  cv P H ⟨d,.binOp .eql t x y q,ty,pos,af,g⟩ [.agg (a.map Y),.agg (b.map Y)] (aT (ai (a=b))):=by
 intro C w X o _ p;obtain⟨h,i,ct⟩:=Cj p.1;obtain⟨k,l,cS⟩:=Cj p.2.1;refine⟨.bool (ai (a=b)),?_,.t _ _ (.bool _)⟩;have c:=m0 c;have e:=m0 e;have B:=KN (P:=P) (w:=w) (xs:=h) (ys:=k) (P.fieldsOf t).toList 0 a b A (by simpa using c) (by simpa using e) (λj m n=>by simpa using ct j m n) λj m n=>by simpa using cS j m n
 have i:o x=_:=i;have l:o y=_:=l;simp only[execOp,i,l,fo,run_eqGuard_agg w .eql t x y h k z,fc,run_eql_struct,run_equalIn_struct w 9999 t h k r s,B,j6]
end
def Bh(P:Program)(t:TypeId)(n:Nat):Prop:=P.underlying t=aa (.struct (P.fieldsOf t))/\P.stoodInHeld t=ak/\P.eqGuardType P.depth t=ak/\w8 P (P.fieldsOf t).toList 0=ab/\(P.fieldsOf t).size=n
section
variable {P:Program}{H:Nat->Option E}{d:Option Tmp}{ty:TypeId}{pos:String}{af:Array Edge}{g:Option (Nat×Bool)}
theorem abZ(x y:Operand)(t l:TypeId){n:Nat}(i k:List Int)(h:Bh P t n)(m:cc i.length n=ab)(o:cc k.length n=ab):
  cv P H ⟨d,.binOp .neq t x y l,ty,pos,af,g⟩ [.agg (i.map Y),.agg (k.map Y)] (aT (!decide (i=k))):=by obtain⟨a,b,c,e,f⟩:=h;exact aaw x y t l i k a b c e (by rw[f];exact m) (by rw[f];exact o)
theorem ab1(x y:Operand)(t l:TypeId){n:Nat}(i k:List Int)(h:Bh P t n)(m:cc i.length n=ab)(o:cc k.length n=ab):
  cv P H ⟨d,.binOp .eql t x y l,ty,pos,af,g⟩ [.agg (i.map Y),.agg (k.map Y)] (aT (ai (i=k))):=by obtain⟨a,b,c,e,f⟩:=h;exact aaD x y t l i k a b c e (by rw[f];exact m) (by rw[f];exact o)
end
inductive Gb where
 |bool
 |int (k:IntKind)
 |string
 |slice (e:Nat)
 |array (n e:Nat)
 |struct (aml:List (Nat×Nat))
 |S2
 |other
structure cu where
 u:Gb
 z:Value
 size:Nat
 bytes:Nat
 places:Array (Nat×Nat)
def Gb.agg:Gb->Bool
 | .struct _=>ab
 | .array _ _=>ab
 |_=>ak
def cu.is(P:Program)(i:cu)(u:TypeDesc):Prop:=match i.u with
 | .bool=>u= .bool
 | .int k=>u= .int k
 | .string=>u= .string
 | .slice e=>u= .slice e
 | .array n e=>u= .array n e
 | .struct l=> ∃a,u= .struct a/\a.toList.map (λf=>(f.type,f.offset))=l/\ ∀w,(a.mapM (m:=Sem) λf:Field=>do pure (f.offset,<-sizeOf f.type)).run P w= .ok i.places w
 | .S2=> ∃m,u= .interface m
 | .other=>kU u=ak
def cu.ok(P:Program)(t:TypeId)(i:cu):Prop:= ∃u,cr P t u i.z i.size i.bytes/\i.is P u
variable {P:Program}{t:TypeId}{i:cu}{a R c:Type}{x:a}{r:List R}{b n:Int}{l:List a}
theorem cu.ok.agg(h:i.ok P t): ∃u,cr P t u i.z i.size i.bytes/\kU u=i.u.agg:=by
 obtain⟨u,d,b⟩:=h;refine⟨u,d,?_⟩;unfold cu.is at b;split at b
 ·rename_i a;rw[a,b];rfl
 ·rename_i a;rw[a,b];rfl
 ·rename_i a;rw[a,b];rfl
 ·rename_i a;rw[a,b];rfl
 ·rename_i a;rw[a,b];rfl
 ·rename_i a;rw[a];obtain⟨e,c,_⟩:=b;rw[c];rfl
 ·rename_i a;rw[a];obtain⟨m,c⟩:=b;rw[c];rfl
 rename_i a;rw[a,b];rfl
theorem cu.ok.iP(h:i.ok P t):(i.u= .bool->P.underlying t=aa .bool)/\(∀k,i.u= .int k->P.underlying t=aa (.int k))/\(i.u= .string->P.underlying t=aa .string)/\
  ∀e,i.u= .slice e->P.underlying t=aa (.slice e):=by obtain⟨u,c,b⟩:=h;refine⟨λa=>?_,λk a=>?_,λa=>?_,λe a=>?_⟩<;>simp only[cu.is,a] at b<;>rw[<-b]<;>exact c.1
theorem cu.ok.st{l:List (Nat×Nat)}(h:i.ok P t)(b:i.u= .struct l): ∃a,cr P t (.struct a) i.z i.size i.bytes/\a.toList.map (λf=>(f.type,f.offset))=l/\ ∀w,(a.mapM (m:=Sem) λf:Field=>do pure (f.offset,<-sizeOf f.type)).run P w= .ok i.places w:=by
 obtain⟨u,d,c⟩:=h;simp only[cu.is,b] at c
 grind
def dG:List (Nat×cu)->Nat->Option cu
 | [],_=>aj
 |(t,i)::l,k=>bif cc t k then aa i else dG l k
def eg(P:Program)(a:List (Nat×cu)):Prop:= ∀t i,dG a t=aa i->i.ok P t
theorem eg.nil:eg P []:=λ_ _ h=>by cases h
theorem eg.cons{a:List (Nat×cu)}{t:Nat}(h:i.ok P t)(d:eg P a):eg P ((t,i)::a):=by
 intro k j b;simp only[dG] at b;cases c:cc t k with
 |true=>rw[c] at b;cases b;rw[<-m0 c];exact h
 |false=>rw[c] at b;exact d k j b
inductive cM where
 |row (r:List T)
 |rows (r:List (List T))
 |str (s:List UInt8)
 |int (n:Int)
 |nat (n:Nat)
 |b (w:Bool)
 |y (b:UInt8)
 |v (v:V)
 |grow (slot k:Nat) (e:TypeId)
 |Dx (b j k:Nat)
 |eC (b j k:Nat) (e:TypeId)
 |len (slot n:Nat)
 |e6 (b j n:Nat)
 |tc (k:Nat) (dB:List Nat)
 |bN (k:Nat) (dB blocks:List Nat)
 |cL (k cE:Nat) (dB blocks:List Nat)
 |at (rem:Nat)
 |dL (L news:List Nat) (r:V) (out:List E)
 |dq (k:Nat) (Γ:List dM) (m:Nat)
 |en (k:Nat)
 |dt (k cE i j:Nat) (row:List T)
 |cP (k cE:Nat) (row:List T) (R:List (List T))
 |lt (k:Nat) (Γ:List dM) (m:Nat)
 |gY (k i j:Nat) (row:List T)
 |gB (k:Nat) (row:List T) (R:List (List T))
 |R5 (i j k:Nat) (e:TypeId)
 |cut (k n:Nat) (R:List (List T))
inductive dN where
 |p (p:Prop)
 |q (a b:Nat)
def cI:List dN->Prop
 | []=>True
 | .p p::l=>p/\cI l
 | .q a b::l=>a=b/\cI l
def zA:List dN->Prop
 | []=>True
 | .p p::l=>p/\zA l
 | .q _ _::l=>zA l
def wC:List dN->List Nat
 | []=>[]
 | .p _::l=>wC l
 | .q a _::l=>a::wC l
def wD:List dN->List Nat
 | []=>[]
 | .p _::l=>wD l
 | .q _ b::l=>b::wD l
theorem cI.of: ∀{l:List dN},zA l->wC l=wD l->cI l
 | [],_,_=>trivial
 | .p _::_,h,k=>⟨h.1,cI.of h.2 k⟩
 | .q _ _::_,h,k=>by simp only[wC,wD,List.cons.injEq] at k;exact⟨k.1,cI.of h k.2⟩
theorem cI.app: ∀{l m:List dN},cI (l++m)->cI l/\cI m
 | [],_,h=>⟨trivial,h⟩
 | .p _::_,_,h=>⟨⟨h.1,(cI.app h.2).1⟩,(cI.app h.2).2⟩
 | .q _ _::_,_,h=>⟨⟨h.1,(cI.app h.2).1⟩,(cI.app h.2).2⟩
def aD{α:Type}(l:List α)(i:Int):Option α:=if 0<=i then l[i.toNat]? else aj
def sub{R:Type}(l:List R)(a b:Int):Option (List R):=if 0<=a/\a<=b/\b<=l.length then aa ((l.take b.toNat).drop a.toNat) else aj
def cat(a b:List UInt8):Option (List UInt8):=if(a.length:Int)+b.length<=9223372036854775807 then aa (a++b) else aj
def app{R:Type}(a b:List R):Option (List R):=if a.length+b.length<=1000000000 then aa (a++b) else aj
def mk{a:Type}(n:Int)(x:a):Option (List a):=if 0<=n/\n<=1000000000 then aa (List.replicate n.toNat x) else aj
def cn{a:Type}(l:List a)(i:Int)(x:a):Option (List a):=if 0<=i/\i<l.length then aa (l.set i.toNat x) else aj
def wr(n:Int):Int:=IntKind.i64.wrap n
theorem na{i:Int}(h:aD l i=aa x):0<=i/\l[i.toNat]? =aa x:=by
 unfold aD at h
 grind
theorem QQ{i:Int}(f:a->R)(h:aD l i=aa x):aD (l.map f) i=aa (f x):=by
 obtain⟨b,c⟩:=na h;unfold aD
 grind
theorem Ce{l:List R}{a:Int}(h:sub l a b=aa r):0<=a/\a<=b/\b<=l.length/\r=(l.take b.toNat).drop a.toNat:=by
 unfold sub at h
 grind
theorem qk{l:List R}{a:Int}(f:R->c)(h:sub l a b=aa r):sub (l.map f) a b=aa (r.map f):=by obtain⟨d,e,i,rfl⟩:=Ce h;unfold sub;rw[bb ⟨d,e,by simpa using i⟩,List.map_drop,uj]
theorem uB{a b:List R}(h:app a b=aa r):a.length+b.length<=1000000000/\r=a++b:=by
 unfold app at h
 grind
theorem cy{a b:List R}(f:R->c)(h:app a b=aa r):app (a.map f) (b.map f)=aa (r.map f):=by
 obtain⟨d,rfl⟩:=uB h;unfold app
 grind
theorem kq{r:List a}(h:mk n x=aa r):0<=n/\n<=1000000000/\r=List.replicate n.toNat x:=by
 unfold mk at h
 grind
theorem mo{r:List a}(f:a->R)(h:mk n x=aa r):mk n (f x)=aa (r.map f):=by obtain⟨b,c,rfl⟩:=kq h;unfold mk;rw[bb ⟨b,c⟩,List.map_replicate]
theorem tS{r:List a}{i:Int}(h:cn l i x=aa r):0<=i/\i<l.length/\r=l.set i.toNat x:=by
 unfold cn at h
 grind
theorem ad'{a b r:List UInt8}(h:cat a b=aa r):(a.length:Int)+b.length<=9223372036854775807/\r=a++b:=by
 unfold cat at h
 grind
mutual
def oc:V->V
 | .t .fp=> .t (.bE [])
 | .agg cs=> .agg (hD cs)
 | .bX cs=> .bX (hD cs)
 | .t (.bE r)=> .t (.bE r)
 | .t (.int k n)=> .t (.int k n)
 | .t (.bool b)=> .t (.bool b)
 | .t (.str s)=> .t (.str s)
 |v=>v
def hD:List V->List V
 | []=>[]
 |c::cs=>oc c::hD cs
end
mutual
theorem uV: ∀v:V,dO v (oc v)
 | .t .fp=>dO.nil
 | .t (.bE _)| .t (.int _ _)| .t (.bool _)| .t (.str _)| .t .gM| .t .gn| .t .mm| .t .err=>dO.refl _
 | .agg cs=>dO.agg (nk cs)
 | .bX cs=>dO.bX (nk cs)
 | .ref _ _| .aS _| .bo _ _ _ _ _| .cR _ _ _ _ _| .fn _ _| .dp=>dO.refl _
theorem nk: ∀cs:List V,fG cs (hD cs)
 | []=>trivial
 |c::cs=>⟨uV c,nk cs⟩
end
theorem tN: ∀cs:List V,(hD cs).length=cs.length
 | []=>rfl
 |c::cs=>by simp[hD,tN cs]
def vq(k:Option Nat):List V->List V
 | [.t .fp]=>match k with
  |some _=>[.t .fp]
  |none=>hD [.t .fp]
 |vs=>hD vs
theorem afV(k:Option Nat)(a:List V):fG a (vq k a):=by
 unfold vq;split
 ·split
  ·exact fG.refl _
  exact nk _
 exact nk _
theorem ZD(k:Option Nat)(a:List V):(vq k a).length=a.length:=by
 unfold vq;split
 ·split
  ·rfl
  exact tN _
 exact tN _
def z7:V->Option T
 | .t x=>aa x
 |_=>aj
def lX:List V->Option (List T)
 | []=>aa []
 |v::a=>match z7 v,lX a with
  |some x,aa b=>aa (x::b)
  |_,_=>aj
theorem pe: ∀{a:List V} {b:List T},lX a=aa b->a=b.map .t
 | [],_,h=>by cases h;rfl
 |v::a,b,h=>by
  simp only[lX] at h;split at h
  ·rename_i x e d c;cases h;have c:=pe c;cases v<;>simp[z7] at d;subst d;subst c;rfl
  cases h
def yp:List V->Option (List Int)
 | []=>aa []
 | .t (.int .i64 m)::a=>match yp a with
  |some ms=>aa (m::ms)
  |none=>aj
 |_=>aj
theorem Av: ∀{a:List V} {ms:List Int},yp a=aa ms->a=ms.map Y
 | [],_,h=>by cases h;rfl
 |v::a,ms,h=>by
  unfold yp at h;split at h
  ·rename_i b;cases b
  ·rename_i m c b;cases b;split at h
   ·rename_i d e;cases h;rw[Av e];rfl
   cases h
  cases h
abbrev ih:=Option (V×List dN×List cM)
def Rk(a:BinOp)(m n:Int):Option Bool:=
 match a with
 | .eql=>aa (ai (m=n))
 | .neq=>aa (!decide (m=n))
 | .lss=>aa (ai (m<n))
 | .leq=>aa (ai (m<=n))
 | .gtr=>aa (ai (n<m))
 | .geq=>aa (ai (n<=m))
 |_=>aj
def Rf(a:BinOp):Bool:=
 match a with
 | .and| .or| .xor| .andNot=>ab
 |_=>ak
def Jk(op:BinOp)(k:IntKind)(m n:Int)(a:List cM):ih:=
 match op with
 | .add=>aa (.t (.int k (k.wrap (m+n))),[],a)
 | .sub=>aa (.t (.int k (k.wrap (m-n))),[],a)
 | .mul=>aa (.t (.int k (k.wrap (m*n))),[],a)
 | .quo=>aa (.t (.int k (k.wrap (m.tdiv n))),[.p (n≠0)],a)
 | .rem=>aa (.t (.int k (m.tmod n)),[.p (n≠0)],a)
 | .and=>aa (.t (.int k (bits .and k m n)),[],a)
 | .or=>aa (.t (.int k (bits .or k m n)),[],a)
 | .xor=>aa (.t (.int k (bits .xor k m n)),[],a)
 | .andNot=>aa (.t (.int k (bits .andNot k m n)),[],a)
 | .shl| .shr=>aj
 |op=>match Rk op m n with
  |some b=>aa (.t (.bool b),[],a)
  |none=>aj
def I8(b:BinOp)(m n:List UInt8)(a:List cM):ih:=
 match b,a with
 | .add,.str r::a=>aa (.t (.str r),[.p (cat m n=aa r)],a)
 | .eql,a=>aa (.t (.bool (ai (m=n))),[],a)
 | .neq,a=>aa (.t (.bool (!decide (m=n))),[],a)
 | .geq,a=>aa (.t (.bool (!Op.bytesLess m n)),[],a)
 | .lss,a=>aa (.t (.bool (Op.bytesLess m n)),[],a)
 | .gtr,a=>aa (.t (.bool (!Op.bytesLess m n&& !m==n)),[],a)
 | .leq,a=>aa (.t (.bool (Op.bytesLess m n||m==n)),[],a)
 |_,_=>aj
def Io:Option cu->Bool
 |some i=>match i.u with
  | .bool=>ab
  |_=>ak
 |none=>ak
def Jp(P:Program)(e:List (Nat×cu))(d:BinOp)(t:TypeId)(v w:V)(a:List cM):ih:=
 match v,w with
 | .t (.int k m),.t (.int h n)=>if k=h then Jk d k m n a else aj
 | .t (.str m),.t (.str n)=>I8 d m n a
 | .t (.bool p),.t (.bool q)=>match Io (dG e t),d with
  |true,.eql=>aa (.t (.bool (p==q)),[],a)
  |true,.neq=>aa (.t (.bool (!(p==q))),[],a)
  |_,_=>aj
 | .agg cs,.agg i=>match yp cs,yp i,d,a with
  |some ms,aa c,.eql,.b b::a=>aa (.t (.bool b),[.p (Bh P t ms.length),.q c.length ms.length,.p (ai (ms=c)=b)],a)
  |some ms,aa c,.neq,.b b::a=>aa (.t (.bool (!b)),[.p (Bh P t ms.length),.q c.length ms.length,.p (ai (ms=c)=b)],a)
  |_,_,_,_=>aj
 |_,_=>aj
def I':Option cu->Bool
 |some i=>match i.u with
  | .S2=>ab
  |_=>ak
 |none=>ak
def p6:Operand->Bool
 | .const _=>ab
 |_=>ak
def Jl(b:List (Nat×cu))(c:BinOp)(t:TypeId)(x y:Operand)(v w:V)(a:List cM):ih:=
 match I' (dG b t),p6 x||p6 y,v,w,c with
 |true,ab,.t .err,.t .gn,.eql=>aa (.t (.bool ak),[],a)
 |true,ab,.t .err,.t .gn,.neq=>aa (.t (.bool ab),[],a)
 |true,ab,.t .gn,.t .gn,.eql=>aa (.t (.bool ab),[],a)
 |true,ab,.t .gn,.t .gn,.neq=>aa (.t (.bool ak),[],a)
 |_,_,_,_,_=>aj
def Ju(c:UnOp)(v:V)(a:List cM):ih:=
 match c,v with
 | .not,.t (.bool b)=>aa (.t (.bool (!b)),[],a)
 | .neg,.t (.int k n)=>aa (.t (.int k (k.wrap (0-n))),[],a)
 |_,_=>aj
def HJ(a:List (Nat×cu)):Option cu->Bool
 |some i=>match i.u with
  | .slice e=>match dG a e with
   |some j=>match j.u with
    | .int .u8=>ab
    |_=>ak
   |none=>ak
  |_=>ak
 |none=>ak
def IL(c:List (Nat×cu))(d e:TypeId)(v:V)(a:List cM):ih:=
 match dG c d,dG c e with
 |some i,aa j=>match j.u,v,a with
  | .int h,.t (.int _ n),.int m::a=>aa (.t (.int h m),[.p (h.wrap n=m)],a)
  | .int .u8,.t (.int _ n),.y m::a=>aa (.t (.int .u8 (m.toNat:Nat)),[.p (UInt8.ofInt n=m)],a)
  | .string,.t (.bE b),.str l::a=>match HJ c (aa i) with
   |true=>aa (.t (.str l),[.p (b=l.map qn)],a)
   |false=>aj
  |_,_,_=>aj
 |_,_=>aj
def uR(m:List (Nat×cu))(H:Nat->Option E)(t:TypeId)(v:V)(e:List cM):ih:=
 match dG m t with
 |none=>aj
 |some i=>match v with
  | .ref id a=>match H id with
   |some (.cells cs)=>match i.u.agg with
    |true=>match dD (a+i.size) cs.length with
     |true=>aa (.agg ((cs.drop a).take i.size),[],e)
     |false=>aj
    |false=>match cs[a]? with
     |some c=>aa (c,[],e)
     |none=>aj
   |_=>aj
  | .aS cs=>match i.u.agg with
   |true=>match dD i.size cs.length with
    |true=>aa (.agg ((cs.take i.size).map .t),[],e)
    |false=>aj
   |false=>match cs with
    |c::_=>aa (.t c,[],e)
    | []=>aj
  | .cR id gen l k a=>match H id,i.u.agg,e with
   |some (.arr _ b h d),ak,.row r::e=>match r[a]? with
    |some c=>aa (.t c,[.q b gen,.q h l,.p (d[k]? =aa r)],e)
    |none=>aj
   |some (.arr _ b h d),ab,.row r::e=>match dD (a+i.size) r.length with
    |true=>aa (.agg (((r.drop a).take i.size).map .t),[.q b gen,.q h l,.p (d[k]? =aa r)],e)
    |false=>aj
   |_,_,_=>aj
  |_=>aj
def sN(j:Nat):List (Nat×Nat×V)->Option (Nat×V)
 | []=>aj
 |h::a=>bif cc h.2.1 j then aa (h.1,h.2.2) else sN j a
def sy(a:List (Nat×Nat×V)):Nat->Nat->Option (List (Nat×V))
 |_,0=>aa []
 |j,n+1=>match sN j a,sy a (j+1) n with
  |some x,aa l=>aa (x::l)
  |_,_=>aj
def sR(k:Nat):List (Nat×V)->List dN
 | []=>[]
 |x::l=> .q x.1 k::sR k l
def sX(i j:Nat):List (Nat×Nat×V)->List dN
 | []=>[]
 |h::a=>bif cc h.2.1 j then .p (i≠h.1)::sX i j a else sX i j a
theorem x5{i j:Nat}: ∀{b:List (Nat×Nat×V)},cI (sX i j b)-> ∀v,(i,j,v)∉b
 | [],_,_,h=>by cases h
 |h::b,a,v,hm=>by
  unfold sX at a;cases c:cc h.2.1 j with
  |true=>
   rw[c] at a;rcases d'.1 hm with rfl|hm
   ·exact a.1 rfl
   exact x5 a.2 v hm
  |false=>
   rw[c] at a;rcases d'.1 hm with rfl|hm
   ·simp at c
   exact x5 a v hm
def H8(x:List (Nat×cu))(H:Nat->Option E)(t:TypeId)(v:V)(e:List cM):ih:=
 match dG x t,v,e with
 |some i,.cR id gen n k a,.row r::e=>match H id with
  |some (.aN h m b d o)=>match i.u.agg with
   |false=>match r[a]?,sN a o with
    |some c,aj=>match (aR h m).ej a with
     |none=>aa (.t c,[.q b gen,.q (aR h m).size n,.p (d[k]? =aa r)],e)
     |some _=>aj
    |some _,aa (s,w)=>aa (w,[.q b gen,.q (aR h m).size n,.p (d[k]? =aa r),.q s k],e)
    |none,_=>aj
   |true=>match dD (a+i.size) r.length,sy o a i.size with
    |true,aa l=>aa (.agg (l.map (·.2)),.q b gen:: .q (aR h m).size n:: .p (d[k]? =aa r)::sR k l,e)
    |_,_=>aj
  |_=>aj
 |some i,.cR id gen n k a,.int q:: .row r::e=>match H id with
  |some (.aN h m b d o)=>match i.u.agg,r[a]?,o[q.toNat]? with
   |false,aa _,aa (s,y,w)=>aa (w,[.q b gen,.q (aR h m).size n,.p (d[k]? =aa r),.q s k,.q y a],e)
   |true,_,_=>match dD (a+i.size) r.length,sy (o.drop q.toNat) a i.size with
    |true,aa l=>aa (.agg (l.map (·.2)),.q b gen:: .q (aR h m).size n:: .p (d[k]? =aa r)::sR k l,e)
    |_,_=>aj
   |_,_,_=>aj
  |_=>aj
 |some i,.cR id gen n k a,.nat _:: .row r::e=>match H id with
  |some (.aN h m b d o)=>match i.u.agg,r[a]?,(aR h m).ej a with
   |false,aa c,aj=>aa (.t c,.q b gen:: .q (aR h m).size n:: .p (d[k]? =aa r)::sX k a o,e)
   |_,_,_=>aj
  |_=>aj
 |_,_,_=>aj
def Jn(d:List (Nat×cu))(t:TypeId)(k:Nat)(v:V)(e:List cM):ih:=
 match dG d t with
 |none=>aj
 |some i=>match i.u with
  | .struct h=>match h[k]? with
   |none=>aj
   |some a=>match dG d a.1 with
    |none=>aj
    |some j=>match v with
     | .agg b=>match j.u.agg with
      |true=>match dD (a.2+j.size) b.length with
       |true=>aa (.agg ((b.drop a.2).take j.size),[],e)
       |false=>aj
      |false=>match b[a.2]? with
       |some c=>aa (c,[],e)
       |none=>aj
     |_=>aj
  |_=>aj
def HS(l:List (Nat×cu))(H:Nat->Option E)(t:TypeId)(k:Nat)(v:V)(d:List cM):ih:=
 match dG l t with
 |none=>aj
 |some i=>match i.u with
  | .struct m=>match m[k]? with
   |none=>aj
   |some a=>match dG l a.1 with
    |none=>aj
    |some j=>match cc j.size 0 with
     |true=>aj
     |false=>match v with
      | .ref id c=>aa (.ref id (c+a.2),[],d)
      | .aS cs=>aa (.aS (cs.drop a.2),[],d)
      | .cR id gen e n c=>match H id with
       |some (.arr _ b h _)=>aa (.cR id gen e n (c+a.2),[.q b gen,.q h e],d)
       |some (.aN _ _ b _ _)=>aa (.cR id gen e n (c+a.2),[.q b gen],d)
       |_=>aj
      |_=>aj
  |_=>aj
def Jm(l:List (Nat×cu))(H:Nat->Option E)(t:TypeId)(v w:V)(d:List cM):ih:=
 match dG l t with
 |none=>aj
 |some i=>match i.u with
  | .slice e=>match dG l e with
   |none=>aj
   |some j=>match v,w with
    | .t (.bE h),.t (.int .i64 n)=>match d with
     | .row r::d=>match cc r.length j.size with
      |true=>aa (.aS r,[.p (aD h n=aa r)],d)
      |false=>aj
     |_=>aj
    | .bo id gen a c len,.t (.int .i64 n)=>match H id,cc a j.size with
     |some (.arr _ b o _),ab=>aa (.cR id gen a (c+n.toNat) 0,[.q b gen,.q o a,.p (0<=n/\n<(len:Int))],d)
     |some (.aN _ _ b _ _),ab=>aa (.cR id gen a (c+n.toNat) 0,[.q b gen,.p (0<=n/\n<(len:Int))],d)
     |_,_=>aj
    |_,_=>aj
  | .array m e=>match dG l e with
   |none=>aj
   |some j=>match v,w,d with
    | .ref id c,.t (.int .i64 n),.nat k::d=>match dD (k+1) m with
     |true=>aa (.ref id (c+k*j.size),[.p (n=(k:Int))],d)
     |false=>aj
    |_,_,_=>aj
  |_=>aj
def yo:Option cu->Bool
 |some i=>match i.u with
  | .string=>ab
  |_=>ak
 |none=>ak
def yv:Option cu->Bool
 |some i=>match i.u with
  | .slice _=>ab
  |_=>ak
 |none=>ak
def I9(d:List (Nat×cu))(e:BinOp)(t:TypeId)(v w:V)(c:List cM):ih:=
 match yv (dG d t),v,w,e,c with
 |true,.t (.bE a),.t .fp,.eql,.b ak::c=>aa (.t (.bool ak),[.p (a≠[])],c)
 |_,_,_,_,_=>aj
def H9(c:List (Nat×cu))(t:TypeId)(v w:V)(a:List cM):ih:=
 match yo (dG c t),v,w,a with
 |true,.t (.str l),.t (.int .i64 n),.y b::a=>aa (.t (.int .u8 (b.toNat:Nat)),[.p (aD l n=aa b)],a)
 |_,_,_,_=>aj
def sO(d e:Option Operand)(c:Nat)(h:List V):Option (Int×Int):=
 match d,e,h with
 |some _,aa _,[.t (.int .i64 a),.t (.int .i64 b)]=>aa (a,b)
 |some _,aj,[.t (.int .i64 a)]=>aa (a,(c:Int))
 |none,aa _,[.t (.int .i64 b)]=>aa (0,b)
 |_,_,_=>aj
def H7(n:List (Nat×cu))(H:Nat->Option E)(t:TypeId)(x y:Option Operand)(s:List V)(h:List cM):ih:=
 match s with
 | .t (.str l)::w=>match yo (dG n t),sO x y l.length w,h with
  |true,aa (a,b),.str r::h=>aa (.t (.str r),[.p (sub l a b=aa r)],h)
  |_,_,_=>aj
 | .t (.bE d)::w=>match dG n t with
  |none=>aj
  |some i=>match i.u with
   | .slice e=>match dG n e,sO x y d.length w,h with
    |some j,aa (a,b),.rows r::h=>aa (.t (.bE r),[.p (sub d a b=aa r),.p (Rows j.size d)],h)
    |_,_,_=>aj
   |_=>aj
 | .bo id gen c k len::w=>match dG n t,(H id).bind E.gen? with
  |some i,aa A=>match i.u with
   | .slice e=>match dG n e,sO x y len w,h with
    |some j,aa (a,b),.nat o:: .nat m::h=>aa (.bo id gen c o m,[.q A gen,.q c j.size,.p (0<=a/\a<=b/\b<=len/\(a=0\/a<len)/\o=k+a.toNat/\m=b.toNat-a.toNat)],h)
    |some _,aa (a,b),.int 0::h=>aa (.t (.bE []),[.q A gen,.p (0<=a/\a=b/\b<=len)],h)
    |some j,aa (a,b),.int 1:: .nat o:: .nat m::h=>match H id with
     |some (.arr _ B z d)=>aa (.bo id gen c o m,[.q B gen,.q z c,.q c j.size,.p (0<c/\0<=a/\a<b/\k+b<=d.length/\o=k+a.toNat/\m=b.toNat-a.toNat)],h)
     |_=>aj
    |_,_,_=>aj
   |_=>aj
  |_,_=>aj
 |_=>aj
def Hz(h:List (Nat×cu))(H:Nat->Option E)(t:TypeId)(d:List V)(k:List cM):ih:=
 match d with
 | [.bo id gen _ _ len,.t (.int .i64 a),.t (.int .i64 b),.t (.int .i64 c)]=>match dG h t,(H id).bind E.gen? with
  |some i,aa l=>match i.u with
   | .slice e=>match dG h e with
    |some _=>aa (.dp,[.q l gen,.p (0<=a/\a<=b/\b<=c/\c<=len)],k)
    |none=>aj
   |_=>aj
  |_,_=>aj
 |_=>aj
def IM(k:List (Nat×cu))(t:TypeId)(d:List V)(h:List cM):ih:=
 match d,h with
 | [.t (.bE a),.t (.int .i64 b),.t (.int .i64 c)],.rows r::h=>match dG k t with
  |some i=>match i.u with
   | .slice e=>match dG k e with
    |some j=>aa (.t (.bE r),[.p (sub a 0 b=aa r/\c=b),.p (Rows j.size a)],h)
    |none=>aj
   |_=>aj
  |none=>aj
 |_,_=>aj
def Jj(e:List (Nat×cu))(H:Nat->Option E)(t:TypeId)(v:V)(b:List cM):ih:=
 match v,b with
 | .t (.str l),b=>match yo (dG e t) with
  |true=>aa (.t (.int .i64 (l.length:Nat)),[],b)
  |false=>aj
 | .t (.bE c),.nat n::b=>match yv (dG e t) with
  |true=>aa (.t (.int .i64 (n:Nat)),[.p (c.length=n)],b)
  |false=>aj
 | .bo id gen d _ len,.nat n::b=>match H id,yv (dG e t) with
  |some (.arr _ a h _),ab=>aa (.t (.int .i64 (n:Nat)),[.q a gen,.q h d,.p (len=n)],b)
  |some (.aN _ _ a _ _),ab=>aa (.t (.int .i64 (n:Nat)),[.q a gen,.p (len=n)],b)
  |_,_=>aj
 |_,_=>aj
def GV(h:List (Nat×cu))(H:Nat->Option E)(b:Builtin)(c:List TypeId)(i:List Operand)(a:List V)(d:List cM):ih:=
 match b,c,i,a with
 | .len,[t],[_],[v]=>Jj h H t v d
 | .max,_,[_,_],[.t (.int k m),.t (.int e n)]=>if k=e then aa (.t (.int k (max m n)),[],d) else aj
 | .min,_,[_,_],[.t (.int k m),.t (.int e n)]=>if k=e then aa (.t (.int k (min m n)),[],d) else aj
 |_,_,_,_=>aj
def Jh(H:Nat->Option E)(v:V)(a:List cM):ih:=
 match v with
 | .cR id gen _ _ _=>match (H id).bind E.gen? with
  |some b=>aa (v,[.q b gen],a)
  |none=>aj
 | .ref _ _=>aa (v,[],a)
 | .aS _=>aa (v,[],a)
 | .fn _ _=>aa (v,[],a)
 |_=>aj
def HU(c:List (Nat×cu))(t:TypeId)(b:List Nat)(a:List V)(d:List cM):ih:=
 match dG c t with
 |none=>aj
 |some i=>match i.u with
  | .struct _=>match (hz i.z).val,cc b.length a.length,lg (i.places[·]?) (hz i.z).cs (b.zip a) with
   |true,ab,aa cs=>aa (.agg cs,[],d)
   |_,_,_=>aj
  |_=>aj
def yN(P:Program)(h:List (Nat×cu))(H:Nat->Option E)(l:Op)(a:List V)(e:List cM):ih:=
 match l with
 | .move _=>match a with
  | [v]=>aa (v,[],e)
  |_=>aj
 | .assign _=>match a with
  | [v]=>aa (v,[],e)
  |_=>aj
 | .pick _ _ _=>match a,e with
  | [.t (.bool b),v,w],.b c::e=>aa (bif c then v else w,[.p (b=c)],e)
  |_,_=>aj
 | .load t _=>match a with
  | [v]=>match uR h H t v e with
   |some r=>aa r
   |none=>H8 h H t v e
  |_=>aj
 | .nilCheck _=>match a with
  | [v]=>Jh H v e
  |_=>aj
 | .binOp o t x y _=>match a with
  | [v,w]=>match Jp P h o t v w e with
   |some r=>aa r
   |none=>match Jl h o t x y v w e with
    |some r=>aa r
    |none=>I9 h o t v w e
  |_=>aj
 | .unOp o _ _=>match a with
  | [v]=>Ju o v e
  |_=>aj
 | .convert s d _=>match a with
  | [v]=>IL h s d v e
  |_=>aj
 | .makeFunc m first _=>match m,first.toList with
  | .func f,[]=>aa (.fn f a,[],e)
  |_,_=>aj
 | .slice t _ lo i m'=>match m' with
  |none=>H7 h H t lo i a e
  |some _=>match lo,i with
   |some _,aa _=>Hz h H t a e
   |none,aa _=>IM h t a e
   |_,_=>aj
 | .fieldAddr t _ k=>match a with
  | [v]=>HS h H t k v e
  |_=>aj
 | .field t _ k=>match a with
  | [v]=>Jn h t k v e
  |_=>aj
 | .indexAddr t _ _=>match a with
  | [v,w]=>Jm h H t v w e
  |_=>aj
 | .index t _ _=>match a with
  | [v,w]=>H9 h t v w e
  |_=>aj
 | .extract _ k=>match a with
  | [.bX n]=>match n[k]? with
   |some v=>aa (v,[],e)
   |none=>aj
  |_=>aj
 | .build t q=>HU h t (q.toList.map (·.1)) a e
 | .call c=>match c.callee with
  | .builtin b=>GV h H b c.argTypes.toList c.args.toList a e
  |_=>aj
 |_=>aj
end Go.Lift
