/- Tools. -/
import Derived.Test.YtfegpkfpnpjgeaaGreatBLiftAB
import Derived.Laws.BitsAllLaws
import Derived.Laws.BytesArg
import Derived.Laws.StructEq
namespace Go.Lift
open Go
section
variable {G β:Map}{w:World}{X:Nat->Prop}{n m k b i:Nat}{W:List dN}{a:Act}{e:TypeId}{v c:List (List T)}{l:List T}{hs:List (Nat×Nat×V)}{x:T}
theorem tG{gen:Nat}{a:List (List T)}{D:List (Nat×Nat×V)}(h:cC G w X n (.a7 W m gen a D)): ∃q,G n=some (q,gen):=by
 rcases h.2 with ⟨c,_⟩|⟨b,e,_,c,_⟩
 ·exact⟨_,c⟩
 exact⟨_,c⟩
def Map.drop(a:Map)(k:Nat):Map:=⟨a.f,λid b=>id≠k/\a.n id b⟩
theorem oM(h:At (G.drop k) n b):At G n b:=by
 rcases h with h|h
 ·exact .inl h
 exact .inr h.2
theorem Rel.drop{K:Ctx}{s:S}(h:Rel K β s a w)(k:Nat)(e':E)(x:s.H k≠none)
  (B:cC (β.drop k) w (own K (β.drop k) (aS s.H k (some e'))) k e'):Rel K (β.drop k) {s with H:=aS s.H k (some e')} a w:=by
 have l: ∀b,own K (β.drop k) (aS s.H k (some e')) b->own K β s.H b:=by
  rintro b (c|⟨id,m,o⟩)
  ·exact .inl c
  refine .inr ⟨id,λp=>?_,oM o⟩;by_cases n:id=k
  ·subst n;exact x p
  rw[bQ _ _ _ _ n] at m;exact m p
 have y:di β (β.drop k):=λ_ _ _ c=> .inl c;refine {h with base:=λid hid=>h.base id hid,dF:=λid hid=>h.dF id hid,ea:=λid b hid q=>h.ea id b hid q.2,inj:=λid r b m o=>h.inj id r b (oM m) (oM o),fresh:=λid b q=>h.fresh id b (oM q),heap:= ?_,cW:=λi=>(h.cW i).mono (Ext.refl _ _) (λb _=>l b) y (Shaped.refl _ _)};intro id e c;have c:aS s.H k (some e') id=some e:=c;by_cases n:id=k
 ·subst n;rw[bP] at c;cases c;cases A:s.H id with
  |none=>exact bz A x
  |some p=>exact⟨(h.heap id p A).1,B⟩
 rw[bQ _ _ _ _ n] at c;obtain⟨m,o⟩:=h.heap id e c;exact⟨m,o.mono (Ext.refl _ _) (λb _=>l b) y (λ_ h=>h) (Shaped.refl _ _) (λ_ _=>rfl) λb=>⟨λh=>h.2,λh=>⟨n,h⟩⟩⟩
theorem Yg{K:Ctx}{s:S}(k:Nat){gen:Nat}(l:List dN)(m:Nat)(y:s.H k=some (.arr e gen n v))(r:(U l m).ty=e)(A:(U l m).size=n)
  (B:v=[]\/(U l m).bm=[]):s.le K {s with H:=aS s.H k (some (.a7 l m gen v []))}:=by
 intro G a w h;refine⟨_,h.drop k (.a7 l m gen v []) (by rw[y];simp) ?_⟩;have o:=(h.heap k _ y).2;subst r;subst A;refine⟨o.1,?_⟩;have p: ∀b,own K (G.drop k) (aS s.H k (some (.a7 l m gen v []))) b->own K G s.H b:=by
  rintro b (R|⟨id,r,A⟩)
  ·exact .inl R
  refine .inr ⟨id,λC=>?_,oM A⟩;by_cases L:id=k
  ·subst L;rw[y] at C;cases C
  rw[bQ _ _ _ _ L] at r;exact r C
 rcases o.2 with ⟨aI,a2⟩|⟨b,W,aI,a2,a3,a4,a5⟩
 ·exact .inl ⟨aI,a2,λc q=>q.1 rfl⟩
 refine .inr ⟨b,W,λ_ _ _=>False,aI,a2,a3,a4,λi j F x u Q X f=>Cell.of ?_,λ_ _ _ h=>h.elim,λ_ _ _ _ _ h=>h.elim,λc=>⟨λq=>bz rfl q.1,λ⟨_,_,q⟩=>q.elim⟩⟩;rcases B with rfl|B
 ·simp at Q
 have:(U l m).en j=none:=by unfold dN.en;rw[B];rfl
 rw[this];exact .jh _ _ _ ((a5 i j F x u Q X f).mono (Ext.refl _ _) λb _=>p b) λ_ h=>h
theorem Yh{K:Ctx}{s:S}(k:Nat){gen:Nat}(r:s.H k=some (.a7 W m gen v []))(p:Nat.ble K.c6 k=true):
  s.le K {s with H:=aS s.H k (some (.arr (U W m).ty gen (U W m).size v))}:=by
 have L:=dY p;intro q a w h;refine⟨_,h.drop k (.arr (U W m).ty gen (U W m).size v) (by rw[r];simp) ?_⟩;have l:=(h.heap k _ r).2;have n: ∀b,own K (q.drop k) (aS s.H k (some (.arr (U W m).ty gen (U W m).size v))) b->own K q s.H b:=by
  rintro b (o|⟨id,y,e⟩)
  ·exact .inl o
  refine .inr ⟨id,λA=>?_,oM e⟩;by_cases G:id=k
  ·subst G;rw[r] at A;cases A
  rw[bQ _ _ _ _ G] at y;exact y A
 refine⟨l.1,?_⟩;rcases l.2 with ⟨aI,a2,_⟩|⟨b,Q,B,aI,a2,a3,a4,a5,jz,iH,fi⟩
 ·exact .inl ⟨aI,a2⟩
 refine .inr ⟨b,Q,aI,a2,a3,a4,λi j C x u R X f=>(a5 i j C x u R X f).none.yP n ?_⟩;intro c D o;have p:At q k c:= .inr ((fi c).2 ⟨i,j,D⟩);rcases o with o|⟨id,y,e⟩
 ·obtain⟨N,I⟩:=h.iz c o;rcases(h.fresh k c p).1 with F|M
  ·exact I F
  omega
 have:=h.inj _ _ _ (oM e) p;subst this;rcases e with ⟨g,e⟩|e
 ·have V:q id=some (some c,g):=e
  grind
 exact e.1 rfl
def Map.split(c:Map)(k a:Nat)(q:Option Nat)(N:Nat->Prop):Map:=
 ⟨λi=>bif Nat.beq i a then some (q,1) else c i,λid b=>(id=a/\N b)\/(id=k/\id≠a/\c.n k b/\ ¬N b/\q≠some b)\/(id≠a/\id≠k/\c.n id b)⟩
theorem N7(h:i≠k):Nat.beq i k=false:=by
 cases a:Nat.beq i k with
 |false=>rfl
 |true=>exact bz (cL a) h
theorem y9(c:Map)(k a:Nat)(q:Option Nat)(N:Nat->Prop):c.split k a q N a=some (q,1):=by simp[Map.split]
theorem vk(a:Map)(k c:Nat)(q:Option Nat)(N:Nat->Prop)(id:Nat)(h:id≠c):a.split k c q N id=a id:=by simp[Map.split,N7 h]
theorem Zv{G:Map}{k m:Nat}{q:Option Nat}{N:Nat->Prop}(p: ∀b,q=some b->G.n k b)(r: ∀b,N b->G.n k b){i b:Nat}(h:At (G.split k m q N) i b):
  (i=m/\G.n k b/\(q=some b\/N b))\/(i≠m/\At G i b/\(i=k->(∃g,G k=some (some b,g))\/(¬N b/\q≠some b))):=by
 rcases h with ⟨g,h⟩|⟨rfl,h⟩|⟨rfl,a,c,l,w⟩|⟨a,c,l⟩
 ·by_cases o:i=m
  ·subst o;rw[y9] at h;cases h;exact .inl ⟨rfl,p _ rfl,.inl rfl⟩
  rw[vk _ _ _ _ _ _ o] at h;exact .inr ⟨o,.inl ⟨g,h⟩,λe=> .inl ⟨g,e▸h⟩⟩
 ·exact .inl ⟨rfl,r b h,.inr h⟩
 ·exact .inr ⟨a,.inr c,λ_=> .inr ⟨l,w⟩⟩
 exact .inr ⟨a,.inr l,λe=>bz e c⟩
theorem Rel.split{K:Ctx}{s:S}(h:Rel K β s a w)(k bZ:Nat)(q:Option Nat)(N:Nat->Prop)(p r:E)(W:s.H k≠none)(Q:s.u bZ=false)
  (V: ∀b,q=some b->β.n k b/\ ¬N b) (Y: ∀b,N b->β.n k b) (X: ∀b g,β k=some (some b,g)-> ¬β.n k b)
  (ahA:(∀b,own K (β.split k bZ q N) (aS (aS s.H k (some p)) bZ (some r)) b->own K β s.H b)->cC (β.split k bZ q N) w (own K (β.split k bZ q N) (aS (aS s.H k (some p)) bZ (some r))) k p)
  (f:(∀b,own K (β.split k bZ q N) (aS (aS s.H k (some p)) bZ (some r)) b->own K β s.H b)->cC (β.split k bZ q N) w (own K (β.split k bZ q N) (aS (aS s.H k (some p)) bZ (some r))) bZ r):
  Rel K (β.split k bZ q N) {t:=s.t,H:=aS (aS s.H k (some p)) bZ (some r),u:=aS s.u bZ true} a w:=by
 have j:s.u k=true:=by
  cases I:s.H k with
  |none=>exact bz I W
  |some R=>exact(h.heap k R I).1
 have hne:k≠bZ:=by intro e;subst e;rw[j] at Q;cases Q
 have y:= @Zv β k bZ q N (λb G=>(V b G).1) Y;have o: ∀b,own K (β.split k bZ q N) (aS (aS s.H k (some p)) bZ (some r)) b->own K β s.H b:=by
  rintro b (l|⟨id,m,L⟩)
  ·exact .inl l
  rcases y L with ⟨_,v,_⟩|⟨v,h4,_⟩
  ·exact .inr ⟨k,W,.inr v⟩
  refine .inr ⟨id,λR=>?_,h4⟩;rw[bQ _ _ _ _ v] at m;by_cases C:id=k
  ·subst C;exact W R
  rw[bQ _ _ _ _ C] at m;exact m R
 have F:=h.dF bZ Q;have B: ∀id x,β id=some x->β.split k bZ q N id=some x:=λid x l=>by
  rw[vk _ _ _ _ _ _ (by intro e;subst e;rw[F] at l;cases l)];exact l
 have M:di β (β.split k bZ q N):=di.of B;refine {h with base:= ?_,low:= ?_,dF:= ?_,ea:= ?_,inj:= ?_,fresh:= ?_,heap:= ?_,cW:=λi=>(h.cW i).mono (Ext.refl _ _) (λb _=>o b) M (Shaped.refl _ _)}
 ·refine h.base.keep λid hid=>vk _ _ _ _ _ _ ?_;intro e;subst e;have:=h.low id hid;rw[Q] at this;cases this
 ·intro id hid;show aS s.u bZ true id=true;by_cases e:id=bZ
  ·subst e;exact bP _ _ _
  rw[bQ _ _ _ _ e];exact h.low id hid
 ·intro id hid;have c:aS s.u bZ true id=false:=hid;by_cases e:id=bZ
  ·subst e;rw[bP] at c;cases c
  rw[bQ _ _ _ _ e] at c;rw[vk _ _ _ _ _ _ e];exact h.dF id c
 ·intro id b hid G;have c:aS s.u bZ true id=false:=hid;have e:id≠bZ:=by intro e;subst e;rw[bP] at c;cases c
  rw[bQ _ _ _ _ e] at c;rcases G with ⟨m,_⟩|⟨rfl,_,m,_⟩|⟨_,_,m⟩
  ·exact e m
  ·exact h.ea _ b c m
  exact h.ea id b c m
 ·intro id j4 b m L;rcases y m with ⟨rfl,aI,a2⟩|⟨aI,a2,a3⟩<;>rcases y L with ⟨T,U,D⟩|⟨U,D,dT⟩
  ·exact T.symm
  ·have:=h.inj _ _ b (.inr aI) D
   grind
  ·subst T
   have:=h.inj _ _ b (.inr U) a2
   grind
  exact h.inj _ _ b a2 D
 ·intro id b G;rcases y G with ⟨_,aI,_⟩|⟨_,a2,_⟩
  ·exact h.fresh k b (.inr aI)
  exact h.fresh id b a2
 intro id e l;have l:aS (aS s.H k (some p)) bZ (some r) id=some e:=l;show aS s.u bZ true id=true/\cC _ w (own K _ (aS (aS s.H k (some p)) bZ (some r))) id e;by_cases C:id=bZ
 ·subst C;rw[bP] at l;cases l;exact⟨bP _ _ _,f o⟩
 rw[bQ _ _ _ _ C] at l⊢;by_cases A:id=k
 ·subst A;rw[bP] at l;cases l
  grind
 rw[bQ _ _ _ _ A] at l;obtain⟨m,L⟩:=h.heap id e l;exact⟨m,L.mono (Ext.refl _ _) (λb _=>o b) M (B id) (Shaped.refl _ _) (λ_ _=>rfl) (λb=>⟨λh=>by
  rcases h with ⟨h,_⟩|⟨h,_⟩|⟨_,_,h⟩
  ·exact bz h C
  ·exact bz h A
  exact h,λh=> .inr (.inr ⟨C,A,h⟩)⟩)⟩
def rr(j:Nat):List (Nat×Nat×V)->Bool
 | []=>true
 |h::a=> !(Nat.beq h.2.1 j)&&rr j a
theorem zu{j:Nat}: ∀{a:List (Nat×Nat×V)},rr j a=true-> ∀i v,(i,j,v)∉a
 | [],_,_,_,h=>by cases h
 |h::a,c,i,v,hm=>by
  simp only[rr,Bool.and_eq_true,Bool.not_eq_true'] at c;rcases dL.1 hm with rfl|hm
  ·simp at c
  exact zu c.2 i v hm
theorem XD{K:Ctx}{s:S}(k bZ i j f:Nat){r:List dN}{gen:Nat}{y:List (List T)}{D:List T}{l:List (List T)}(hk:s.H k=some (.a7 r m gen y hs))(hu:s.u bZ=false)
  (aE:y[i]? =some D) (hj:D[j]? =some (.aA l)) (hm:(U r m).en j=some f) (I: ∀v,(i,j,v)∉hs):
  s.le K {t:=s.t,H:=aS (aS s.H k (some (.a7 r m gen y ((i,j,.a8 bZ 1 (U r f).size 0 l.length)::hs)))) bZ (some (.a7 r f 1 l [])),u:=aS s.u bZ true}:=by
 intro M a w h;have Ik:=(h.heap k _ hk).1;have L:k≠bZ:=by intro e;subst e;rw[Ik] at hu;cases hu
 have hN:=(h.heap k _ hk).2;rcases hN.2 with ⟨aI,a2,_⟩|⟨b,us,B,aI,a2,a3,a4,a5,jz,iH,fi⟩
 ·rw[a2] at aE;simp at aE
 have hlt:=(bU.1 aE).1;have hjs:j<(U r m).size:=by rw[<-a4 D (bE aE)];exact(bU.1 hj).1
 have Y:i*(U r m).size+j<us.size:=by
  have:(i+1)*(U r m).size<=y.length*(U r m).size:=dx _ hlt
  grind
 have p:=(a5 i j D _ us[i*(U r m).size+j] aE hj (hr Y)).2 λv=>I v;rw[hm] at p;have Q: ∀c g,M k=some (some c,g)-> ¬M.n k c:=by
  grind
 generalize aim:us[i*(U r m).size+j]=A at p
 -- the cell's value under the new map, and the rest of the rows
 have R: ∀(q:Option Nat) (N:Nat->Prop),(∀c,B i j c↔(q=some c\/N c))->(∀(X:Nat->Prop),bk (M.split k bZ q N) w X (.a8 bZ 1 (U r f).size 0 l.length) A)->
   ∀X,(∀c,X c->own K M s.H c)->cC (M.split k bZ q N) w X k (.a7 r m gen y ((i,j,.a8 bZ 1 (U r f).size 0 l.length)::hs)):=by
  intro q N dm bL X gp;have hm':di M (M.split k bZ q N):=di.of (λid x hx=>by
   have:id≠bZ:=by intro e;subst e;rw[h.dF _ hu] at hx;cases hx
   rw[vk _ _ _ _ _ _ this];exact hx)
  refine⟨hN.1,.inr ⟨b,us,λC F c=>B C F c/\ ¬(C=i/\F=j),by rw[vk _ _ _ _ _ _ L];exact aI,a2,a3,a4,λC F G x u cQ cd eO=>⟨λv Iz=>?_,λcy=>?_⟩,
   λC F c I=>jz C F c I.1,λi1 qO i2 iN c h1 h2=>iH _ _ _ _ c h1.1 h2.1,λc=>?_⟩⟩
  ·rcases dL.1 Iz with e|Iz
   ·simp only[Prod.mk.injEq] at e;obtain⟨rfl,rfl,rfl⟩:=e
    have:u=A:=by
     rw[<-aim];rw[hr Y] at eO;exact(Option.some.inj eO).symm
    subst this;exact⟨bL X,λc I=>I.2 ⟨rfl,rfl⟩⟩
   obtain⟨c1,c2⟩:=(a5 C F G x u cQ cd eO).1 v Iz;exact⟨c1.mono (Ext.refl _ _) (λc _=>gp c) hm' (Shaped.refl _ _),λc hx=>c2 c hx.1⟩
  ·have aeK: ¬(C=i/\F=j):=by rintro⟨rfl,rfl⟩;exact cy _ eM
   exact(((a5 C F G x u cQ cd eO).2 λv bL=>cy v (ew _ bL)).mono (Ext.refl _ _) (λc _=>gp c) λ_ _=>rfl).iff λc=>⟨λh=>h.1,λh=>⟨h,aeK⟩⟩
  constructor
  ·rintro(⟨h1,_⟩|⟨_,_,h1,h2,h3⟩|⟨_,h1,_⟩)
   ·exact bz h1 L
   ·obtain⟨C,F,W⟩:=(fi c).1 h1;refine⟨C,F,W,?_⟩;rintro⟨rfl,rfl⟩;rcases(dm c).1 W with h4|h4
    ·exact h3 h4
    exact h2 h4
   exact bz rfl h1
  rintro⟨C,F,W,cy⟩;refine .inr (.inl ⟨rfl,L,(fi c).2 ⟨C,F,W⟩,λh4=>?_,λh4=>?_⟩)
  ·exact cy (iH _ _ _ _ c W ((dm c).2 (.inr h4)))
  exact cy (iH _ _ _ _ c W ((dm c).2 (.inl h4)))
 generalize P9:B i j=N0 at p R;cases p with
 |nil _ _ eu=>
  refine⟨_,h.split k bZ none (λ_=>False) _ (.a7 r f 1 [] []) (by rw[hk];simp) hu (λb W=>by cases W) (λ_ h=>h.elim) Q (λo=>R none (λ_=>False) (λc=>⟨λh=>bz h (eu c),λh=>by rcases h with h|h;cases h;exact h.elim⟩)
   (λX=> .hi bZ 1 _ (cJ _) (y9 _ _ _ _ _)) _ o) λo=>⟨cJ _,.inl ⟨y9 _ _ _ _ _,rfl,λc I=>?_⟩⟩⟩
  rcases I with ⟨_,h⟩|⟨h,_⟩|⟨h,_⟩
  ·exact h
  ·exact L h.symm
  exact h rfl
 |own _ _ cd cap rh rC _ hw hs uR b8 k3 bR dm cu eu=>
  have sC:M.n k cd:=(fi cd).2 ⟨i,j,by rw[P9];exact(eu cd).2 (.inl rfl)⟩;refine⟨_,h.split k bZ (some cd) (λc=> ∃i j,rC i j c) _ (.a7 r f 1 l []) (by rw[hk];simp) hu (λb W=>by cases W;exact⟨sC,λ⟨C,F,h'⟩=>(dm C F _ h').2.2 rfl⟩)
   (λc I=>(fi c).2 ⟨i,j,by rw[P9];exact(eu c).2 (.inr I)⟩) Q
   (λo=>R (some cd) (λc=> ∃i j,rC i j c) (λc=>⟨λh=>by rcases(eu c).1 h with h|h;exact .inl (by rw[h]);exact .inr h,λh=>(eu c).2 (by rcases h with h|h;cases h;exact .inl rfl;exact .inr h)⟩)
    (λX=>?_) _ o) λo=>⟨cJ _,.inr ⟨cd,rh,rC,y9 _ _ _ _ _,hw,by rw[hs];exact dx _ b8,k3,λC F G x u c1 c2 dT=>Cell.of ((bR C F G x u c1 c2 dT).mono (Ext.refl _ _) (λc _=>o c) λ_ _=>rfl),dm,cu,λc=>?_⟩⟩⟩
  ·have:=bk.a8 (β:=M.split k bZ (some cd) λc=> ∃i j,rC i j c) (w:=w) (X:=X) bZ 1 (U r f).size 0 l.length cap cd rh.size (U r f).ty (cJ _) (y9 _ _ _ _ _) (js.1 hw).1 (by unfold World.shape?;rw[hw]) (by rw[dt];exact hs.symm) b8 uR;rw[ga] at this;exact this
  constructor
  ·rintro(⟨_,h⟩|⟨h,_⟩|⟨h,_⟩)
   ·exact h
   ·exact bz h.symm L
   exact bz rfl h
  intro h;exact .inl ⟨rfl,h⟩
def Map.merge(a:Map)(k c gen:Nat):Map:=
 ⟨λi=>bif Nat.beq i c then some (none,gen+1) else a i,λid b=>(id=k/\(a.n k b\/At a c b))\/(id≠k/\id≠c/\a.n id b)⟩
theorem Mo(c:Map)(k a gen:Nat):c.merge k a gen a=some (none,gen+1):=by simp[Map.merge]
theorem vm(a:Map)(k c gen id:Nat)(h:id≠c):a.merge k c gen id=a id:=by simp[Map.merge,N7 h]
theorem YS{G:Map}{k n gen i b:Nat}(a:k≠n)(h:At (G.merge k n gen) i b):i≠n/\(At G i b\/(i=k/\At G n b)):=by
 rcases h with ⟨g,h⟩|⟨rfl,h⟩|⟨m,e,l⟩
 ·by_cases c:i=n
  ·subst c;rw[Mo] at h;cases h
  rw[vm _ _ _ _ _ c] at h;exact⟨c,.inl (.inl ⟨g,h⟩)⟩
 ·rcases h with h|h
  ·exact⟨a,.inl (.inr h)⟩
  exact⟨a,.inr ⟨rfl,h⟩⟩
 exact⟨e,.inl (.inr l)⟩
theorem Rel.merge{K:Ctx}{s:S}(h:Rel K β s a w)(k c gen:Nat)(q:Option Nat)(y:E)(v:s.H k≠none)(F:s.H c≠none)(W:k≠c)(I:K.c6<=c)(M:β c=some (q,gen))(N:1<=gen)
  (T:(∀b,own K (β.merge k c gen) (aS (aS s.H c none) k (some y)) b->own K β s.H b)->di β (β.merge k c gen)->cC (β.merge k c gen) w (own K (β.merge k c gen) (aS (aS s.H c none) k (some y))) k y):
  Rel K (β.merge k c gen) {t:=s.t,H:=aS (aS s.H c none) k (some y),u:=s.u} a w:=by
 have X:s.u c=true:=by
  cases G:s.H c with
  |none=>exact bz G F
  |some B=>exact(h.heap c B G).1
 have L:s.u k=true:=by
  cases G:s.H k with
  |none=>exact bz G v
  |some B=>exact(h.heap k B G).1
 have o:=fun {id b}=> @YS β k c gen id b W;have r: ∀b,own K (β.merge k c gen) (aS (aS s.H c none) k (some y)) b->own K β s.H b:=by
  rintro b (m|⟨id,C,Q⟩)
  ·exact .inl m
  obtain⟨f,A|⟨rfl,A⟩⟩:=o Q
  ·refine .inr ⟨id,λB=>?_,A⟩;by_cases n:id=k
   ·subst n;exact v B
   rw[bQ _ _ _ _ n,bQ _ _ _ _ f] at C;exact C B
  exact .inr ⟨c,F,A⟩
 have D:di β (β.merge k c gen):=by
  intro id Y g1 m;by_cases n:id=c
  ·subst n;rw[M] at m;cases m;exact .inr ⟨N,none,gen+1,Mo _ _ _ _,oV _⟩
  exact .inl (by rw[vm _ _ _ _ _ n];exact m)
 refine {h with base:= ?_,dF:= ?_,ea:= ?_,inj:= ?_,fresh:= ?_,heap:= ?_,cW:=λi=>(h.cW i).mono (Ext.refl _ _) (λb _=>r b) D (Shaped.refl _ _)}
 ·exact h.base.keep λid hid=>vm _ _ _ _ _ O
 ·intro id hid;have l:s.u id=false:=hid;rw[vm _ _ _ _ _ (by intro e;subst e;rw[X] at l;cases l)];exact h.dF id l
 ·intro id b hid j;have l:s.u id=false:=hid;rcases j with ⟨rfl,_⟩|⟨_,_,f⟩
  ·rw[L] at l;cases l
  exact h.ea id b l f
 ·intro id U b C Q;obtain⟨aI,a2|⟨rfl,a2⟩⟩:=o C<;>obtain⟨V,R|⟨rfl,R⟩⟩:=o Q
  ·exact h.inj _ _ b a2 R
  ·exact bz (h.inj _ _ b a2 R) aI
  ·exact bz (h.inj _ _ b R a2) V
  rfl
 ·intro id b j;obtain⟨_,A|⟨_,A⟩⟩:=o j
  ·exact h.fresh id b A
  exact h.fresh c b A
 intro id e m;have m:aS (aS s.H c none) k (some y) id=some e:=m;show s.u id=true/\cC _ w (own K _ (aS (aS s.H c none) k (some y))) id e;by_cases n:id=k
 ·subst n;rw[bP] at m;cases m
  grind
 rw[bQ _ _ _ _ n] at m;by_cases p:id=c
 ·subst p;rw[bP] at m;cases m
 rw[bQ _ _ _ _ p] at m;obtain⟨C,Q⟩:=h.heap id e m;exact⟨C,Q.mono (Ext.refl _ _) (λb _=>r b) D (λx m=>by rw[vm _ _ _ _ _ p];exact m) (Shaped.refl _ _) (λ_ _=>rfl) (λb=>⟨λh=>by
  rcases h with ⟨h,_⟩|⟨_,_,h⟩
  ·exact bz h n
  exact h,λh=> .inr ⟨n,p,h⟩⟩)⟩
theorem Va{K:Ctx}{s:S}(k G i j m2 lI z n:Nat){F:List dN}{gen:Nat}{p:List (List T)}{o:List T}{l:List (List T)}(hk:s.H k=some (.a7 F m gen p ((i,j,.a8 G lI z 0 n)::hs)))
  (pn:s.H G=some (.a7 F m2 lI l [])) (eD:z=(U F m2).size) (cy:n=l.length) (hne:k≠G) (mw:Nat.ble K.c6 G=true) (aE:p[i]? =some o) (hm:(U F m).en j=some m2) (Ii:Nat.blt j (U F m).size=true) (bG: ∀v,(i,j,v)∉hs):
  s.le K {t:=s.t,H:=aS (aS s.H G none) k (some (.a7 F m gen (p.set i (o.set j (.aA l))) hs)),u:=s.u}:=by
 subst eD;subst cy;intro M a w h;have mw:=dY mw;obtain⟨q,hq⟩:=tG (h.heap G _ pn).2;have hN:=(h.heap k _ hk).2;have R:=(h.heap G _ pn).2;refine⟨_,h.merge k G lI q (.a7 F m gen (p.set i (o.set j (.aA l))) hs) (by rw[hk];simp) (by rw[pn];simp) hne mw hq R.1 λW hm'=>⟨hN.1,?_⟩⟩;rcases hN.2 with ⟨aI,a2,_⟩|⟨b,us,B,aI,a2,a3,a4,a5,jz,iH,fi⟩
 ·rw[a2] at aE;simp at aE
 have N:=(bU.1 aE).1
 -- the blocks of the slice
 have Y:At M k b:= .inl ⟨_,aI⟩;have aex: ∀(u:Value),bk M w (own K M s.H) (.a8 G lI (U F m2).size 0 l.length) u->
   gA F w (own K (M.merge k G lI) (aS (aS s.H G none) k (some (.a7 F m gen (p.set i (o.set j (.aA l))) hs)))) (some m2) (.aA l) u (λc=>At M G c):=by
  intro u hu;rcases e3 hu hq with ⟨cap,cd,n2,hn,rfl,jG,hw,gq,sD,b8,uR⟩|⟨jG,_,h0,rfl⟩
  ·subst jG;rcases R.2 with ⟨c1,_⟩|⟨eO,rh,rC,c1,c2,dT,eS,fM,iI,kq,ib⟩
   ·rw[hq] at c1;cases c1
   rw[hq] at c1;cases c1;rw[ga];have Iy:rh.size=cap*(U F m2).size:=by
    unfold World.shape? at gq;rw[c2] at gq;simp at gq;rw[gq.2,<-sD,dt]
   refine .own m2 l cd cap rh rC _ c2 Iy uR b8 eS (λy A X x u d1 d2 d3=>(fM y A X x u d1 d2 d3).none.mono (Ext.refl _ _) (λc _=>W c) λ_ _=>rfl) iI kq λc=>⟨?_,?_⟩
   ·rintro(⟨g,bI⟩|bI)
    ·rw[hq] at bI;cases bI;exact .inl rfl
    exact .inr ((ib c).1 bI)
   rintro(rfl|bI)
   ·exact .inl ⟨_,hq⟩
   exact .inr ((ib c).2 bI)
  subst jG
  have:l=[]:=l1 h0;subst this;refine .nil m2 _ λc bG=>?_;rcases bG with ⟨g,bI⟩|bI
  ·rw[hq] at bI;cases bI
  rcases R.2 with ⟨_,_,dT⟩|⟨eO,rh,rC,c1,_⟩
  ·exact dT c bI
  rw[hq] at c1;cases c1
 have f: ∀c,At M G c-> ¬At M k c:=λc C Q=>hne (h.inj _ _ c Q C);have P3: ∀y A c,B y A c->At M k c:=λy A c bG=> .inr ((fi c).2 ⟨y,A,bG⟩);have hjs: ∀(x:T),o[j]? =some x->j<(U F m).size:=λx hx=>by rw[<-a4 o (bE aE)];exact(bU.1 hx).1
 have hrl:o.length=(U F m).size:=a4 o (bE aE);by_cases D:j<o.length
 ·have Cb:i*(U F m).size+j<us.size:=by
   have:(i+1)*(U F m).size<=p.length*(U F m).size:=dx _ N;rw[dG] at this;omega
  have hcell:=a5 i j o o[j] us[i*(U F m).size+j] aE (bo D) (hr Cb);obtain⟨uT,adK⟩:=hcell.1 _ eM;refine .inr ⟨b,us,λy A c=>B y A c\/(y=i/\A=j/\At M G c),by rw[vm _ _ _ _ _ hne];exact aI,a2,by simpa using a3,?_,?_,?_,?_,?_⟩
  ·intro r bR;rcases vU bR with bR|rfl
   ·exact a4 r bR
   simpa using hrl
  ·intro y A X x u cQ cd eO;by_cases qB:y=i/\A=j
   ·obtain⟨rfl,rfl⟩:=qB;rw[jr N] at cQ;cases cQ;rw[jr D] at cd;cases cd;rw[hr Cb] at eO;cases eO;refine⟨λv bL=>bz bL (bG v),λ_=>?_⟩;rw[hm];refine(aex _ uT).iff λc=>⟨λh=>?_,λh=> .inr ⟨rfl,rfl,h⟩⟩
    rcases h with h|⟨_,_,h⟩
    ·exact bz h (adK c)
    exact h
   have hold: ∃L hV,p[y]? =some L/\L[A]? =some hV/\hV=x:=by
    by_cases xX:y=i
    ·subst xX;rw[jr N] at cQ;cases cQ;rw[lg (by intro e;exact qB ⟨rfl,e.symm⟩)] at cd;exact⟨o,x,aE,cd,rfl⟩
    rw[lg (lk xX)] at cQ;exact⟨X,x,cQ,cd,rfl⟩
   obtain⟨L,hV,d1,d2,rfl⟩:=hold;have pj:=a5 y A L hV u d1 d2 eO;have Qj: ∀c,(B y A c\/(y=i/\A=j/\At M G c))↔B y A c:=λc=>⟨λh=>by
    rcases h with h|⟨C,Q,_⟩
    ·exact h
    exact bz ⟨C,Q⟩ qB,.inl⟩
   refine⟨λv bL=>?_,λcy=>?_⟩
   ·obtain⟨C,Q⟩:=pj.1 v (ew _ bL);exact⟨C.mono (Ext.refl _ _) (λc _=>W c) hm' (Shaped.refl _ _),λc hx=>Q c ((Qj c).1 hx)⟩
   refine((pj.2 λv bL=>?_).mono (Ext.refl _ _) (λc _=>W c) λ_ _=>rfl).iff Qj;rcases dL.1 bL with e|bL
   ·cases e;exact qB ⟨rfl,rfl⟩
   exact cy v bL
  ·intro y A c I;rcases I with I|⟨rfl,rfl,I⟩
   ·simpa using jz y A c I
   refine⟨by simpa using N,O,λe=>?_⟩;subst e;exact f c I Y
  ·intro i1 qO i2 iN c C Q;rcases C with C|⟨rfl,rfl,C⟩<;>rcases Q with Q|⟨rfl,rfl,Q⟩
   ·exact iH _ _ _ _ c C Q
   ·exact bz (P3 _ _ c C) (f c Q)
   ·exact bz (P3 _ _ c Q) (f c C)
   exact⟨rfl,rfl⟩
  intro c;constructor
  ·rintro(⟨_,C|C⟩|⟨C,_⟩)
   ·obtain⟨y,A,I⟩:=(fi c).1 C;exact⟨y,A,.inl I⟩
   ·exact⟨i,j,.inr ⟨rfl,rfl,C⟩⟩
   exact bz rfl C
  rintro⟨y,A,I|⟨_,_,I⟩⟩
  ·exact .inl ⟨rfl,.inl ((fi c).2 ⟨y,A,I⟩)⟩
  exact .inl ⟨rfl,.inr I⟩
 exact bz (by rw[hrl];simpa[Nat.blt_eq] using Ii) D
theorem Rel.Jl{K:Ctx}{s:S}(h:Rel K β s a w)(k:Nat)(e e':E)(q:s.H k=some e)(r:cC β w (own K β s.H) k e->cC β w (own K β s.H) k e'):
  Rel K β {s with H:=aS s.H k (some e')} a w:=by
 have c: ∀b,own K β (aS s.H k (some e')) b->own K β s.H b:=by
  rintro b (l|⟨id,m,n⟩)
  ·exact .inl l
  refine .inr ⟨id,λp=>?_,n⟩;by_cases o:id=k
  ·subst o;rw[q] at p;cases p
  rw[bQ _ _ _ _ o] at m;exact m p
 refine {h with heap:= ?_,cW:=λi=>(h.cW i).mono (Ext.refl _ _) (λb _=>c b) (di.refl _) (Shaped.refl _ _)};intro id x l;have l:aS s.H k (some e') id=some x:=l;by_cases o:id=k
 ·subst o;rw[bP] at l;cases l;obtain⟨m,n⟩:=h.heap id e q;exact⟨m,(r n).mono (Ext.refl _ _) (λb _=>c b) (di.refl _) (λ_ h=>h) (Shaped.refl _ _) λ_ _=>rfl⟩
 rw[bQ _ _ _ _ o] at l;obtain⟨m,n⟩:=h.heap id x l;exact⟨m,n.mono (Ext.refl _ _) (λb _=>c b) (di.refl _) (λ_ h=>h) (Shaped.refl _ _) λ_ _=>rfl⟩
theorem Yj{K:Ctx}{s:S}(k i j:Nat){gen:Nat}{D:List (Nat×Nat×V)}(A:s.H k=some (.a7 W m gen c D))(q:c[i]? =some l)(C:l[j]? =some x)(F:(U W m).en j=none)(G:rr j D=true):
  s.le K {s with H:=aS s.H k (some (.a7 W m gen c ((i,j,.t x)::D)))}:=by
 intro L a w h;refine⟨L,h.Jl k _ (.a7 W m gen c ((i,j,.t x)::D)) A λo=>?_⟩;refine⟨o.1,?_⟩;rcases o.2 with ⟨aI,a2,_⟩|⟨b,Q,B,aI,a2,a3,a4,a5,jz,iH,fi⟩
 ·rw[a2] at q;simp at q
 refine .inr ⟨b,Q,B,aI,a2,a3,a4,λR X p f u r y I=>?_,jz,iH,fi⟩;have n:=a5 R X p f u r y I;refine⟨λv bL=>?_,λM=>n.2 λv bL=>M v (ew _ bL)⟩;rcases dL.1 bL with e|bL
 ·simp only[Prod.mk.injEq] at e;obtain⟨rfl,rfl,rfl⟩:=e;rw[q] at r;cases r;rw[C] at y;cases y
  have:=n.2 λv=>zu G _ _;rw[F] at this;cases this with|jh _ _ _ h N=>exact⟨.t _ _ h,N⟩
 exact n.1 v bL
theorem Wx{K:Ctx}{s:S}(k i j:Nat){C:List dN}{gen:Nat}{n:List (List T)}{M:List (Nat×Nat×V)}(hk:s.H k=some (.a7 C m gen n ((i,j,.t x)::M)))(F:n[i]? =some l)(Ii:Nat.blt j (U C m).size=true)(hm:(U C m).en j=none)(bG:rr j M=true):
  s.le K {s with H:=aS s.H k (some (.a7 C m gen (n.set i (l.set j x)) M))}:=by
 intro β a w h;refine⟨β,h.Jl k _ (.a7 C m gen (n.set i (l.set j x)) M) hk λL=>?_⟩;refine⟨L.1,?_⟩;rcases L.2 with ⟨aI,a2,_⟩|⟨b,us,B,aI,a2,a3,a4,a5,jz,iH,fi⟩
 ·rw[a2] at F;simp at F
 have Q:=(bU.1 F).1;have R:l.length=(U C m).size:=a4 l (bE F);have q:j<l.length:=by rw[R];simpa[Nat.blt_eq] using Ii
 refine .inr ⟨b,us,B,aI,a2,by simpa using a3,λr bR=>?_,λy A W ix u G X eO=>?_,λy A c aY=>by simpa using jz y A c aY,iH,fi⟩
 ·rcases vU bR with bR|rfl
  ·exact a4 r bR
  simpa using R
 by_cases f:y=i/\A=j
 ·obtain⟨rfl,rfl⟩:=f;rw[jr Q] at G;cases G;rw[jr q] at X;cases X;have p:=(a5 y A l l[A] u F (bo q) eO).1 _ eM;refine⟨λv N=>bz N (zu bG _ _),λ_=>?_⟩;rw[hm];obtain⟨h1,h2⟩:=p;cases h1 with|t _ _ h1=>exact .jh _ _ _ h1 h2
 have D: ∃o Y,n[y]? =some o/\o[A]? =some Y/\Y=ix:=by
  by_cases I:y=i
  ·subst I;rw[jr Q] at G;cases G;rw[lg (by intro e;exact f ⟨rfl,e.symm⟩)] at X;exact⟨l,ix,F,X,rfl⟩
  rw[lg (lk I)] at G;exact⟨W,ix,G,X,rfl⟩
 obtain⟨o,Y,d1,d2,rfl⟩:=D;have p:=a5 y A o Y u d1 d2 eO;refine⟨λv N=>p.1 v (ew _ N),λcy=>p.2 λv N=>?_⟩
 grind
theorem XA{K:Ctx}{s:S}(k i j m2:Nat){A:List dN}{gen:Nat}{n:List (List T)}{I:List (Nat×Nat×V)}(hk:s.H k=some (.a7 A m gen n ((i,j,.t .fe)::I)))(C:n[i]? =some l)(Y:Nat.blt j (U A m).size=true)(hm:(U A m).en j=some m2)(bG:rr j I=true):
  s.le K {s with H:=aS s.H k (some (.a7 A m gen (n.set i (l.set j (.aA []))) I))}:=by
 intro β a w h;refine⟨β,h.Jl k _ (.a7 A m gen (n.set i (l.set j (.aA []))) I) hk λG=>?_⟩;refine⟨G.1,?_⟩;rcases G.2 with ⟨aI,a2,_⟩|⟨b,us,B,aI,a2,a3,a4,a5,jz,iH,fi⟩
 ·rw[a2] at C;simp at C
 have L:=(bU.1 C).1;have Q:l.length=(U A m).size:=a4 l (bE C);have q:j<l.length:=by rw[Q];simpa[Nat.blt_eq] using Y
 refine .inr ⟨b,us,B,aI,a2,by simpa using a3,λr bR=>?_,λx y R ix u F W eO=>?_,λx y c aY=>by simpa using jz x y c aY,iH,fi⟩
 ·rcases vU bR with bR|rfl
  ·exact a4 r bR
  simpa using Q
 by_cases X:x=i/\y=j
 ·obtain⟨rfl,rfl⟩:=X;rw[jr L] at F;cases F;rw[jr q] at W;cases W;have p:=(a5 x y l l[y] u C (bo q) eO).1 _ eM;refine⟨λv M=>bz M (zu bG _ _),λ_=>?_⟩;rw[hm];obtain⟨h1,h2⟩:=p;cases h1 with|t _ _ h1=>cases h1 with|fe=>exact .nil _ _ h2
 have f: ∃o N,n[x]? =some o/\o[y]? =some N/\N=ix:=by
  by_cases D:x=i
  ·subst D;rw[jr L] at F;cases F;rw[lg (by intro e;exact X ⟨rfl,e.symm⟩)] at W;exact⟨l,ix,C,W,rfl⟩
  rw[lg (lk D)] at F;exact⟨R,ix,F,W,rfl⟩
 obtain⟨o,N,d1,d2,rfl⟩:=f;have p:=a5 x y o N u d1 d2 eO;refine⟨λv M=>p.1 v (ew _ M),λcy=>p.2 λv M=>?_⟩
 grind
theorem Yi{K:Ctx}{s:S}(k:Nat){R:List dN}{gen:Nat}{e:List (List T)}{C:List (Nat×Nat×V)}(l:List dN)(o:Nat)(L:s.H k=some (.a7 R m gen e C))(Q:Nat.ble K.c6 k=true)
  (h1:(U l o).ty=(U R m).ty) (W:(U l o).size=(U R m).size) (h3:(U l o).bm=[]):
  s.le K {s with H:=aS s.H k (some (.a7 l o gen e C))}:=by
 have mw:=dY Q;have F: ∀j,(U l o).en j=none:=λj=>by unfold dN.en;rw[h3];rfl
 intro A a w h;have r:=(h.heap k _ L).2;have G:di A (A.drop k):=λ_ _ _ y=> .inl y;rcases r.2 with ⟨aI,a2,a3⟩|⟨b,us,B,aI,a2,a3,a4,a5,jz,iH,fi⟩
 ·exact⟨_,h.drop k (.a7 l o gen e C) (by rw[L];simp) ⟨r.1,.inl ⟨aI,a2,λc n=>n.1 rfl⟩⟩⟩
 refine⟨_,h.drop k (.a7 l o gen e C) (by rw[L];simp) ⟨r.1,.inr ⟨b,us,λ_ _ _=>False,aI,by rw[h1];exact a2,by rw[W];exact a3,by rw[W];exact a4,?_,λ_ _ _ n=>n.elim,λ_ _ _ _ _ n=>n.elim,λc=>⟨λn=>(n.1 rfl).elim,λ⟨_,_,n⟩=>n.elim⟩⟩⟩⟩;intro i j X x u cQ cd N;rw[W] at N;have Y:=a5 i j X x u cQ cd N;generalize gp:own K (A.drop k) (aS s.H k (some (.a7 l o gen e C)))=h8;have p: ∀b,h8 b->own K A s.H b:=by
  subst gp;rintro b (y|⟨id,f,q⟩)
  ·exact .inl y
  refine .inr ⟨id,λD=>?_,oM q⟩;by_cases aE:id=k
  ·subst aE;rw[L] at D;cases D
  rw[bQ _ _ _ _ aE] at f;exact f D
 refine⟨λv bL=>⟨(Y.1 v bL).1.mono (Ext.refl _ _) (λb _=>p b) G (Shaped.refl _ _),λ_ n=>n⟩,λI=>?_⟩;rw[F];refine .jh _ _ _ ((Y.2 I).yP p ?_) λ_ n=>n;intro c n y;subst gp;have Q:At A k c:= .inr ((fi c).2 ⟨i,j,n⟩);rcases y with y|⟨id,f,q⟩
 ·obtain⟨e5,hz⟩:=h.iz c y;rcases(h.fresh k c Q).1 with M|ji
  ·exact hz M
  omega
 have:=h.inj _ _ _ (oM q) Q;subst this;rcases q with ⟨g,q⟩|q
 ·have g3:A id=some (some c,g):=q
  grind
 exact q.1 rfl
def E.gen:E->Option Nat
 | .cells _=>none
 | .arr _ g _ _=>some g
 | .a7 _ _ g _ _=>some g
theorem o3{g:Nat}{e:E}(h:cC G w X n e)(c:e.gen=some g):1<=g/\ ∃q,G n=some (q,g):=by
 cases e with
 |cells cs=>cases c
 |arr ty k size a=>
  cases c;exact⟨h.1,by rcases h.2 with ⟨i,_⟩|⟨b,l,i,_⟩<;>exact⟨_,i⟩⟩
 |a7 o m k a p=>
  cases c;exact⟨h.1,tG h⟩
theorem Rel.agr{K:Ctx}{s:S}(h:Rel K β s a w)(k:Nat)(e e':E)(g:Nat)(T:s.H k=some e)(bI:e.gen=some g)(C:Array Value)(F:TypeId)
  (he: ∀(y:Map) (M:Nat->Prop) (G:World),G=w.alloc (.cells C F)->y k=some (some w.heap.size,g+1)->(∀b,y.n k b↔β.n k b)->(∀v u,bk β w (own K β s.H) v u->bk y G M v u)->
   (∀x u,cP w (own K β s.H) x u->cP G M x u)->(∀U m x u N,(∀b,N b->β.n k b)->gA U w (own K β s.H) m x u N->gA U G M m x u N)->cC y G M k e'):
  Rel K (β.put k (some (some w.heap.size,g+1))) {s with H:=aS s.H k (some e')} a (w.alloc (.cells C F)):=by
 have c: ∀X,Ext X w (w.alloc (.cells C F)):=λX=>Ext.alloc X w _;have L:s.u k=true:=(h.heap k _ T).1;obtain⟨Q,oH,R⟩:=o3 (h.heap k _ T).2 bI;have l: ∀id b,At (β.put k (some (some w.heap.size,g+1))) id b->(id=k/\b=w.heap.size)\/At β id b:=λid b aY=>by
  rcases aY with ⟨g,aY⟩|aY
  ·by_cases q:id=k
   ·subst q;rw[jf] at aY;cases aY;exact .inl ⟨rfl,rfl⟩
   rw[ep _ _ _ _ q] at aY;exact .inr (.inl ⟨g,aY⟩)
  exact .inr (.inr aY)
 have o: ∀b,b<w.heap.size->own K (β.put k (some (some w.heap.size,g+1))) (aS s.H k (some e')) b->own K β s.H b:=by
  rintro b hlt (W|⟨id,B,f⟩)
  ·exact .inl W
  rcases l id b f with ⟨rfl,rfl⟩|A
  ·omega
  refine .inr ⟨id,λV=>?_,A⟩;by_cases q:id=k
  ·subst q;rw[T] at V;cases V
  rw[bQ _ _ _ _ q] at B;exact B V
 have j:Shaped β w (w.alloc (.cells C F)):=qA (c _);have D:=Bi oH (some w.heap.size) Q R;have I: ∀v u,bk β w (own K β s.H) v u->bk (β.put k (some (some w.heap.size,g+1))) (w.alloc (.cells C F)) (own K (β.put k (some (some w.heap.size,g+1))) (aS s.H k (some e'))) v u:=
  λv u bL=>bL.mono (c _) o D j
 refine {ext:=h.ext.trans ((c λ_=>False).weaken λ_ _ h=>h.elim),ot:=h.ot,oC:=h.oC,iz:=h.iz,qL:=h.qL,base:= ?_,iT:=h.iT.ext h.ext.size (c _),low:=h.low,dF:= ?_,ea:=λid b hid=>h.ea id b hid,inj:= ?_,fresh:= ?_,heap:= ?_,cW:=λi=>I _ _ (h.cW i),nt:=h.nt,defers:=h.defers}
 ·exact h.base.grow k g oH (some w.heap.size) R Q (jf _ _ _) (λb aY=>by cases aY;exact .inr h.ext.size) λid q=>ep _ _ _ _ q
 ·intro id hid;have r:s.u id=false:=hid;by_cases e:id=k
  ·subst e;rw[L] at r;cases r
  rw[ep _ _ _ _ e];exact h.dF id r
 ·intro id Y b B f;rcases l id b B with ⟨rfl,rfl⟩|A<;>rcases l Y _ f with ⟨rfl,e⟩|h4
  ·rfl
  ·have:=(h.fresh _ _ h4).2;omega
  ·subst e;have:=(h.fresh _ _ A).2;omega
  exact h.inj _ _ _ A h4
 ·intro id b aY;rcases l id b aY with ⟨rfl,rfl⟩|A
  ·exact⟨.inr h.ext.size,aP⟩
  exact⟨(h.fresh _ _ A).1,by have:=(h.fresh _ _ A).2;simp;omega⟩
 intro id e2 p;have p:aS s.H k (some e') id=some e2:=p;show s.u id=true/\cC _ _ (own K _ (aS s.H k (some e'))) id e2;by_cases q:id=k
 ·subst q;rw[bP] at p;cases p;exact⟨L,he _ _ _ rfl (jf _ _ _) (λ_=>Iff.rfl) I (λx u W=>W.mono (c _) o) λU m x u N eu bR=>bR.mono (c _) o λb aY=>heap_alloc _ _ _ (h.fresh id b (.inr (eu b aY))).2⟩
 rw[bQ _ _ _ _ q] at p;obtain⟨B,f⟩:=h.heap id e2 p;refine⟨B,f.mono (c _) o D (λx W=>by rw[ep _ _ _ _ q];exact W) j λb aY=>heap_alloc _ _ _ (h.fresh id b aY).2⟩
theorem Rel.ac'{K:Ctx}{s:S}(h:Rel K β s a w)(k:Nat)(e e':E)(g:Nat)(q:Option Nat)(Q:β k=some (q,g))(A:1<=g)(j:s.H k=some e)
  (D: ∀(r:Map) (R:Nat->Prop),r k=some (q,g+1)->(∀b,r.n k b↔β.n k b)->(∀v u,bk β w (own K β s.H) v u->bk r w R v u)->(∀b,R b->own K β s.H b)->cC r w R k e'):
  Rel K (β.put k (some (q,g+1))) {s with H:=aS s.H k (some e')} a w:=by
 have B:s.u k=true:=(h.heap k _ j).1;have c: ∀id b,At (β.put k (some (q,g+1))) id b->At β id b:=λid b aY=>by
  rcases aY with ⟨g,aY⟩|aY
  ·by_cases m:id=k
   ·subst m;rw[jf] at aY;cases aY;exact .inl ⟨_,Q⟩
   rw[ep _ _ _ _ m] at aY;exact .inl ⟨g,aY⟩
  exact .inr aY
 have o: ∀b,own K (β.put k (some (q,g+1))) (aS s.H k (some e')) b->own K β s.H b:=by
  rintro b (W|⟨id,y,C⟩)
  ·exact .inl W
  refine .inr ⟨id,λX=>?_,c id b C⟩;by_cases m:id=k
  ·subst m;rw[j] at X;cases X
  rw[bQ _ _ _ _ m] at y;exact y X
 have F:=Bi q q A Q;have G: ∀v u,bk β w (own K β s.H) v u->bk (β.put k (some (q,g+1))) w (own K (β.put k (some (q,g+1))) (aS s.H k (some e'))) v u:=λv u I=>I.mono (Ext.refl _ _) (λb _=>o b) F (Shaped.refl _ _);refine {h with base:= ?_,dF:= ?_,inj:= ?_,fresh:=λid b aY=>h.fresh id b (c id b aY),heap:= ?_,cW:=λi=>G _ _ (h.cW i)}
 ·exact h.base.grow k g q q Q A (bP _ _ _) (λb aY=> .inl aY) λid m=>ep _ _ _ _ m
 ·intro id hid;have p:s.u id=false:=hid;by_cases e:id=k
  ·subst e;rw[B] at p;cases p
  rw[ep _ _ _ _ e];exact h.dF id p
 ·intro id L b y C;exact h.inj id L b (c id b y) (c L b C)
 intro id f l;have l:aS s.H k (some e') id=some f:=l;show s.u id=true/\cC _ _ (own K _ (aS s.H k (some e'))) id f;by_cases m:id=k
 ·subst m;rw[bP] at l;cases l;exact⟨B,D _ _ (jf _ _ _) (λ_=>Iff.rfl) G o⟩
 rw[bQ _ _ _ _ m] at l;obtain⟨y,C⟩:=h.heap id f l;exact⟨y,C.mono (Ext.refl _ _) (λb _=>o b) F (λx W=>by rw[ep _ _ _ _ m];exact W) (Shaped.refl _ _) λ_ _=>rfl⟩
theorem X4{size:Nat}{a:List (List T)}(p q k:List Value)(A:a.length=n)(B:p.length=n*size)(G:q.length=c.length*size)(C: ∀e,e∈a->e.length=size)(r: ∀e,e∈c->e.length=size){R:Nat->Nat->T->Value->Prop}
  (L: ∀(i j:Nat) (e:List T) (x:T) (u:Value),a[i]? =some e->e[j]? =some x->p[i*size+j]? =some u->R i j x u)
  (Q: ∀(i j:Nat) (e:List T) (x:T) (u:Value),c[i]? =some e->e[j]? =some x->q[i*size+j]? =some u->R (n+i) j x u):
  ∀(i j:Nat) (e:List T) (x:T) (u:Value),(a++c)[i]? =some e->e[j]? =some x->(p++q++k)[i*size+j]? =some u->R i j x u:=by
 intro i j e x u l y F;by_cases m:i<a.length
 ·rw[jS m] at l;have h:j<size:=by rw[<-C e (bE l)];exact(bU.1 y).1
  have o:i*size+j<p.length:=by rw[B,<-A];exact mF m h
  grind
 rw[jt O] at l;have h:j<size:=by rw[<-r e (bE l)];exact(bU.1 y).1
 have w:=(bU.1 l).1;have o:=mF (size:=size) w h
 grind
def hW(n:Nat):List (Nat×Nat×V)->List (Nat×Nat×V)
 | []=>[]
 |h::hs=>(n+h.1,h.2.1,h.2.2)::hW n hs
theorem AY{n:Nat}: ∀{hs:List (Nat×Nat×V)} {i j:Nat} {v:V},(i,j,v)∈hW n hs↔ ∃k,i=n+k/\(k,j,v)∈hs
 | [],_,_,_=>by simp[hW]
 |h::hs,i,j,v=>by
  simp only[hW,List.mem_cons,Prod.mk.injEq,AY (hs:=hs)];constructor
  ·rintro(⟨l,e,m⟩|⟨k,l,e⟩)
   ·exact⟨h.1,l,.inl (by obtain⟨a,b,c⟩:=h;cases e;cases m;rfl)⟩
   exact⟨k,l,.inr e⟩
  rintro⟨k,l,e|e⟩
  ·subst e;exact .inl ⟨l,rfl,rfl⟩
  exact .inr ⟨k,l,e⟩
def Ai(n:Map)(w:World)(X:Nat->Prop)(c:Nat)(a:List (List T))(m:List (Nat×Nat×V))(u:Value):Prop:=
 ∃(b e l:Nat) (k:List Value),u= .slice (some ⟨b,e,none⟩) a.length l/\k.length=a.length*c/\
  (∀(j:Nat) x,k[j]? =some x->w.cell? ⟨b,e+j,none⟩=some x)/\(∀x,x∈k->x.oneCell'=true)/\
  ∀(i j:Nat) (h:List T) (x:T) (y:Value),a[i]? =some h->h[j]? =some x->k[i*c+j]? =some y->(∀v,(i,j,v)∈m->bk n w X v y)/\((∀v,(i,j,v)∉m)->cP w X x y)
def tO:List (Nat×Nat×V)->Bool
 | []=>true
 |h::a=>h.2.2.one&&tO a
theorem Lk: ∀{a:List (Nat×Nat×V)} {i j:Nat} {v:V},tO a=true->(i,j,v)∈a->v.one=true
 | [],_,_,_,_,h=>by cases h
 |h::a,i,j,v,c,hm=>by
  simp only[tO,Bool.and_eq_true] at c;rcases dL.1 hm with rfl|hm
  ·exact c.1
  exact Lk c.2 hm
def w3(d:dN)(n:Nat)(a:List (Nat×Nat×V)):Bool:=
 (List.range n).all λi=>d.bm.all λp=>a.any λh=>Nat.beq h.1 i&&Nat.beq h.2.1 p.1
theorem L3: ∀{l:List (Nat×Nat)} {j m:Nat},tY l j=some m->(j,m)∈l
 | [],_,_,h=>by cases h
 |p::l,j,m,h=>by
  simp only[tY] at h;cases a:Nat.beq p.1 j with
  |true=>rw[a] at h;cases h;rw[<-cL a];exact eM
  |false=>rw[a] at h;exact ew _ (L3 h)
theorem LF{d:dN}(h:w3 d n hs=true){j:Nat}(e:i<n)(k:d.en j=some m): ∃v,(i,j,v)∈hs:=by
 have l:=fZ.1 h i (pU.2 e);have o:=fZ.1 l (j,m) (L3 k);obtain⟨⟨a,b,v⟩,p,c⟩:=iU.1 o;simp only[Bool.and_eq_true] at c;have q:=cL c.1;have r:=cL c.2
 grind
theorem Ai.of{K:Ctx}{s:S}(h:Rel K β s a w){g:Nat}{l:List dN}{r:List (Nat×Nat×V)}{u:Value}(hk:s.H k=some (.a7 l m g c r))(cy:n=c.length)
  (hu:bk β w (own K β s.H) (.a8 k g (U l m).size 0 n) u) (N:0<c.length) (ec:tO r=true) (bG:w3 (U l m) c.length r=true):Ai β w (own K β s.H) (U l m).size c r u:=by
 subst cy;have X:=(h.heap k _ hk).2;rcases X.2 with ⟨_,F,_⟩|⟨b,Y,B,aI,a2,a3,a4,a5,jz,iH,fi⟩
 ·rw[F] at N;simp at N
 rcases e3 hu aI with ⟨f,fL,I7,hn,rfl,D,hw,gq,sD,b8,hm⟩|⟨D,_⟩
 ·cases D;rw[ga];have A: ∀(i j:Nat) (o:List T) (x:T) (y:Value),c[i]? =some o->o[j]? =some x->Y[i*(U l m).size+j]? =some y->
    (∀v,(i,j,v)∈r->bk β w (own K β s.H) v y)/\((∀v,(i,j,v)∉r)->cP w (own K β s.H) x y):=by
   intro i j o x y C F W;have G:=a5 i j o x y C F W;refine⟨λv p=>(G.1 v p).1,λL=>?_⟩;have h6:=G.2 L;have Q:(U l m).en j=none:=by
    cases I:(U l m).en j with
    |none=>rfl
    |some ait=>
     obtain⟨v,p⟩:=LF bG (bU.1 C).1 I;exact bz p (L v)
   rw[Q] at h6;cases h6 with|jh _ _ _ h _=>exact h
  refine⟨b,0,f,Y.toList.take (c.length*(U l m).size),rfl,bN,λj x q=>?_,λx hx=>?_,λi j o x y C F W=>?_⟩
  ·rw[fS] at q;split at q
   ·simp only[World.cell?,a2,Nat.zero_add];simpa using q
   cases q
  ·obtain⟨j,q⟩:=kf.1 hx;rw[fS] at q;split at q
   ·rename_i R;have eD:0<(U l m).size:=Nat.pos_of_ne_zero λe=>by rw[e] at R;omega
    have C:j / (U l m).size<c.length:=by rw[vQ eD];exact R
    have F:=Nat.mod_lt j eD;have W:=a4 _ (fJ C);have he:j / (U l m).size*(U l m).size+j%(U l m).size=j:=by rw[Nat.mul_comm];exact Nat.div_add_mod ..
    obtain⟨c1,c2⟩:=A (j / (U l m).size) (j%(U l m).size) _ _ x (bo C) (bo (by omega:j%(U l m).size<(c[j / (U l m).size]).length)) (by rw[he];simpa using q);by_cases p: ∃v,(j / (U l m).size,j%(U l m).size,v)∈r
    ·obtain⟨v,p⟩:=p;exact(c1 v p).iR (Lk ec p)
    exact(c2 λv M=>p ⟨v,M⟩).iR
   cases q
  rw[fS] at W
  grind
 cases D
theorem Rel.ac9{K:Ctx}{s:S}{t:TypeId}{u:TypeDesc}{z:Value}{gen L bytes:Nat}(h:Rel K β s a w)(k:Nat)(r:List dN)(m:Nat)(l o:List (List T))(C:List (Nat×Nat×V))(hk:s.H k=some (.a7 r m gen l []))(uP:(U r m).size=L)(nv:(U r m).ty=e)(ty:TypeId)
  (hu:K.P.underlying t=some (.slice e)) (he:ca K.P e u z L bytes) (qE:z.cells.size=L) (hs: ∀p,p∈l->p.length=L) (hs': ∀p,p∈o->p.length=L) (v x:Value) (bL:bk β w (own K β s.H) (.a8 k gen L 0 l.length) v)
  (hx:Ai β w (own K β s.H) L o C x) (Ir:0<o.length) (ad7:w3 (U r m) o.length C=true) (aY:(l.length+o.length)*bytes<=140737488355328) (hm:l.length+o.length<=maxLen):
  ∃c9 w' F,(Builtin.append_ #[t,t] ty #[v,x]).run K.P w= .ok c9 w'/\Rel K F {s with H:=aS s.H k (some (.a7 r m (gen+1) (l++o) (hW l.length C)))} a w'/\
   bk F w' (own K F (aS s.H k (some (.a7 r m (gen+1) (l++o) (hW l.length C))))) (.a8 k (gen+1) L 0 (l.length+o.length)) c9:=by
 subst uP;subst nv;obtain⟨q,hq⟩:=tG (h.heap k _ hk).2;have iL:=(h.heap k _ hk).2.1;obtain⟨_,i,mu,hi2,kz,sw⟩:=id he;have hm':l.length+o.length<=9223372036854775807:=by unfold maxLen at hm;omega
 have hE:=(h.heap k _ hk).2.2;have x4: ∀p,p∈l++o->p.length=(U r m).size:=λp qD=>by
  rcases eh.1 qD with h|h
  ·exact hs p h
  exact hs' p h
 obtain⟨cd,off,B2,f,sK,ov,x6,k4,hwr⟩:=hx;have IC: ∀j y,f[j]? =some y->w.cell? ((⟨cd,off,none⟩:Addr).add j)=some y:=λj y hy=>by rw[jg];exact x6 j y hy
 have ky:(l.length+o.length)*i.bytes<=140737488355328:=by rw[sw];exact aY
 have aey: ∀i j,i<o.length->(∀v,(i,j,v)∉C)->(U r m).en j=none:=λi j aE jH=>by
  cases hkk:(U r m).en j with
  |none=>rfl
  |some ait=>
   obtain⟨v,bL⟩:=LF ad7 aE hkk;exact bz bL (jH v)
 -- the cells of old and new rows, in whatever world
 have N: ∀(B:Nat->Nat->Nat->Prop) (F:Map) (w':World) (h8:Nat->Prop),(∀v u,bk β w (own K β s.H) v u->bk F w' h8 v u)->(∀x u,cP w (own K β s.H) x u->cP w' h8 x u)->
   (∀i j c,B i j c->i<l.length)-> ∀(I rest:List Value),I.length=l.length*(U r m).size->
   (∀(i j:Nat) (p:List T) (x:T) (u:Value),l[i]? =some p->p[j]? =some x->I[i*(U r m).size+j]? =some u->gA r w' h8 ((U r m).en j) x u (B i j))->
   ∀(i j:Nat) (p:List T) (x:T) (u:Value),(l++o)[i]? =some p->p[j]? =some x->(I++f++rest)[i*(U r m).size+j]? =some u->Cell r m (hW l.length C) F w' h8 i j x u (B i j):=by
  intro B F w' h8 k2 lP dm I rest pt sE;refine X4 I f rest rfl pt ov hs hs' (R:=λi j x u=>Cell r m (hW l.length C) F w' h8 i j x u (B i j)) (λi j p x u h1 h2 h3=>⟨λv bL=>?_,λ_=>sE i j p x u h1 h2 h3⟩) λi j p x u h1 h2 h3=>⟨λv bL=>?_,λjH=>?_⟩
  ·obtain⟨iM,e1,_⟩:=AY.1 bL
   have:=(bU.1 h1).1;omega
  ·obtain⟨iM,e1,e2⟩:=AY.1 bL
   have:iM=i:=O
   subst this;exact⟨k2 _ _ ((hwr iM j p x u h1 h2 h3).1 v e2),λc Q=>by have:=dm _ _ _ Q;omega⟩
  have Qu: ∀v,(i,j,v)∉C:=λv bL=>jH v (AY.2 ⟨i,rfl,bL⟩);rw[aey i j (bU.1 h1).1 Qu];exact .jh _ _ _ (lP _ _ ((hwr i j p x u h1 h2 h3).2 Qu)) (λc Q=>by have:=dm _ _ _ Q;omega)
 -- a new block
 have finish: ∀(B:Nat->Nat->Nat->Prop) (I:List Value) (A:Nat),I.length=l.length*(U r m).size->l.length+o.length<=A->A<=maxLen->
   (∀(i j:Nat) (p:List T) (x:T) (u:Value),l[i]? =some p->p[j]? =some x->I[i*(U r m).size+j]? =some u->gA r w (own K β s.H) ((U r m).en j) x u (B i j))->
   (∀i j c,B i j c->i<l.length/\j<(U r m).size)->(∀i j iM cT c,B i j c->B iM cT c->i=iM/\j=cT)->(∀c,β.n k c↔ ∃i j,B i j c)->
   ∃F,Rel K F {s with H:=aS s.H k (some (.a7 r m (gen+1) (l++o) (hW l.length C)))} a (w.drew.alloc (.cells (I.toArray++f.toArray++Builtin.zeroCells z.cells (A-(l.length+o.length))) (U r m).ty))/\
    bk F (w.drew.alloc (.cells (I.toArray++f.toArray++Builtin.zeroCells z.cells (A-(l.length+o.length))) (U r m).ty)) (own K F (aS s.H k (some (.a7 r m (gen+1) (l++o) (hW l.length C))))) (.a8 k (gen+1) (U r m).size 0 (l.length+o.length)) (.slice (some ⟨w.heap.size,0,none⟩) (l.length+o.length) A):=by
  intro B I A pt Qe hcm Ix dm cu eu;have x3:(I.toArray++f.toArray++Builtin.zeroCells z.cells (A-(l.length+o.length))).size=A*(U r m).size:=by
   simp only[Array.size_append,List.size_toArray,size_zeroCells,qE,pt,ov,<-Nat.add_mul];congr 1;omega
  have uQ:=wk h;have sB:=uQ.agr k _ (.a7 r m (gen+1) (l++o) (hW l.length C)) gen hk rfl (I.toArray++f.toArray++Builtin.zeroCells z.cells (A-(l.length+o.length))) (U r m).ty
   (λF h8 w' hw' IF cy k2 lP sE=>⟨O,.inr ⟨w.heap.size,_,B,IF,by subst hw';exact jA w.drew _,by rw[x3,cV];exact dx _ Qe,x4,
    λi j p x u aI a2 a3=>N B F w' h8 (λv u IA=>k2 v u (IA.mono (Ext.drew _ _) (λ_ _ h=>h) (di.refl _) (qA (Ext.drew _ _)))) (λx u IE=>lP x u (IE.mono (Ext.drew _ _) λ_ _ h=>h)) (λi j c Q=>(dm i j c Q).1) I (Builtin.zeroCells z.cells (A-(l.length+o.length))).toList pt
     (λi j p x u cQ cd eO=>sE r _ x u (B i j) (λc Q=>(eu c).2 ⟨i,j,Q⟩) ((Ix i j p x u cQ cd eO).mono (Ext.drew _ _) (λ_ _ h=>h) λ_ _=>rfl)) i j p x u aI a2 (by simpa[<-Array.getElem?_toList] using a3),
    λi j c Q=>⟨by have:=(dm i j c Q).1;rw[cV];omega,(dm i j c Q).2,λe0=>by have:=(h.fresh k c (.inr ((eu c).2 ⟨i,j,Q⟩))).2;rw[e0] at this;exact Nat.lt_irrefl _ this⟩,cu,λc=>(cy c).trans (eu c)⟩⟩)
  refine⟨_,sB,?_⟩;have il:bk (β.put k (some (some w.heap.size,gen+1))) (w.drew.alloc (.cells (I.toArray++f.toArray++Builtin.zeroCells z.cells (A-(l.length+o.length))) (U r m).ty)) (own K (β.put k (some (some w.heap.size,gen+1))) (aS s.H k (some (.a7 r m (gen+1) (l++o) (hW l.length C))))) (.a8 k (gen+1) (U r m).size 0 (l.length+o.length)) (.slice (some ⟨w.heap.size,0*(U r m).size,none⟩) (l.length+o.length) A):=by
   have qC:=jA w.drew (.cells (I.toArray++f.toArray++Builtin.zeroCells z.cells (A-(l.length+o.length))) (U r m).ty);refine .a8 k (gen+1) (U r m).size 0 _ A w.heap.size (A*(U r m).size) (U r m).ty O (bP _ _ _) aP ?_ (by rw[dt]) Qe hcm;have Ip:(w.drew.alloc (.cells (I.toArray++f.toArray++Builtin.zeroCells z.cells (A-(l.length+o.length))) (U r m).ty)).heap[w.heap.size]? =some (.cells (I.toArray++f.toArray++Builtin.zeroCells z.cells (A-(l.length+o.length))) (U r m).ty):=qC;unfold World.shape?;rw[Ip];simp only[x3]
  rw[ga] at il;exact il
 subst sK;rcases e3 bL hq with ⟨D,b,n,hn,rfl,hb',hw,gq,sD,b8,mv⟩|⟨hb',_,Il,rfl⟩
 rotate_left
 ·have pr:l=[]:=l1 Il;subst pr;have X:=run_append_nil (P:=K.P) w t ty (U r m).ty i z hu mu hi2 ⟨cd,off,none⟩ o.length B2 f (by rw[kz];exact ov) IC Ir O (by simp at ky;omega);subst hb';have aeL: ∀c,¬β.n k c:=by
   rcases hE with ⟨_,_,h0⟩|⟨b,I,B,h1,_⟩
   ·exact h0
   rw[hq] at h1;cases h1
  obtain⟨F,f1,f2⟩:=finish (λ_ _ _=>False) [] (grownCap w o.length 0 (U r m).ty) aP (by simpa using grownCap_ge w o.length 0 (U r m).ty) (grownCap_le_maxLen w _ 0 (U r m).ty (by unfold maxLen;simp at hm';omega)) (λi j p x u h1 _ _=>by simp at h1)
   (λ_ _ _ h=>h.elim) (λ_ _ _ _ _ h=>h.elim) λc=>⟨λQ=>bz Q (aeL c),λ⟨_,_,h⟩=>h.elim⟩
  simp only[List.length_nil,Nat.zero_add] at f1 f2⊢;exact⟨_,_,F,by rw[X];simp,f1,f2⟩
 subst hb';rcases hE with ⟨g1,_⟩|⟨fL,G,B,g1,g2,g3,g4,g5,g6,g7,g8⟩
 ·rw[hq] at g1;cases g1
 rw[hq] at g1;cases g1;have k0:G.size=D*(U r m).size:=by
  unfold World.shape? at gq;rw[g2] at gq;simp at gq;rw[<-sD] at gq;rw[dt] at gq;exact gq.2
 have sG:(G.toList.take (l.length*(U r m).size)).length=l.length*(U r m).size:=bN
 have lP: ∀(i j:Nat) (p:List T) (x:T) (u:Value),l[i]? =some p->p[j]? =some x->(G.toList.take (l.length*(U r m).size))[i*(U r m).size+j]? =some u->gA r w (own K β s.H) ((U r m).en j) x u (B i j):=by
  intro i j p x u h1 h2 h3;rw[fS] at h3;split at h3
  ·exact(g5 i j p x u h1 h2 (by simpa using h3)).none
  cases h3
 simp only[Nat.zero_mul];by_cases M:l.length+o.length<=D
 ·have nx:l.length*(U r m).size+f.length<=G.size:=by rw[ov,k0,<-dG];exact dx _ M
  have X:=run_append_room (P:=K.P) w t ty (U r m).ty i hu mu b l.length D G g2 ⟨cd,off,none⟩ o.length B2 f (by rw[kz];exact ov) IC k4 M (by rw[kz];exact nx);rw[kz] at X;have Y:(G.toList.take (l.length*(U r m).size)++f++G.toList.drop (l.length*(U r m).size+f.length)).toArray.size=G.size:=by
   simp;omega
  generalize lN:w.setRow b (G.toList.take (l.length*(U r m).size)++f++G.toList.drop (l.length*(U r m).size+f.length)).toArray=W at X;have aeQ:own K β s.H b:= .inr ⟨k,by rw[hk];simp,.inl ⟨_,hq⟩⟩;have Ia:Ext (own K β s.H) w W:=by
   subst lN;exact⟨rfl,rfl,rfl,aP,λkk _ hx=>setRow_other _ _ _ _ λe0=>hx (e0▸aeQ)⟩
  have ae4:Shaped β w W:=by subst lN;intro fL _;exact D1 g2 Y fL
  have hrel:=h.setRow k b (.inl ⟨_,hq⟩) G (U r m).ty g2 (G.toList.take (l.length*(U r m).size)++f++G.toList.drop (l.length*(U r m).size+f.length)).toArray Y (.a7 r m gen (l++o) (hW l.length C)) (by rw[hk];simp)
   ⟨iL,Or.inr ⟨b,_,B,hq,setRow_heap _ _ _ _ _ _ g2,by rw[Y,k0,cV];exact dx _ M,x4,
    λi j p x u aI a2 a3=>by
     rw[lN];exact N B β W (own K β s.H) (λv u IA=>IA.mono Ia (λ_ _ h=>h) (di.refl _) ae4) (λx u IE=>IE.mono Ia λ_ _ h=>h) (λi j c Q=>(g6 i j c Q).1) _ _ sG
      (λi j p x u cQ cd eO=>(lP i j p x u cQ cd eO).mono Ia (λ_ _ h=>h) λc Q=>by subst lN;exact setRow_other _ _ _ _ (g6 i j c Q).2.2) i j p x u aI a2 (by simpa using a3),
    λi j c Q=>⟨by have:=(g6 i j c Q).1;rw[cV];omega,(g6 i j c Q).2⟩,g7,g8⟩⟩
  rw[lN] at hrel;have x1:=hrel.ac' k (.a7 r m gen (l++o) (hW l.length C)) (.a7 r m (gen+1) (l++o) (hW l.length C)) gen (some b) hq iL (bP _ _ _) (λF h8 IF cy k2 gp=>by
   have hN:=(hrel.heap k _ (bP _ _ _)).2;rcases hN.2 with ⟨e1,_⟩|⟨fL,eW,R9,e1,e2,mq,xI,xJ,aie,aif,aih⟩
   ·rw[hq] at e1;cases e1
   rw[hq] at e1;cases e1;exact⟨O,.inr ⟨b,eW,R9,IF,e2,mq,xI,λi j p x u c1 c2 dT=>⟨λv bL=>⟨k2 _ _ ((xJ i j p x u c1 c2 dT).1 v bL).1,((xJ i j p x u c1 c2 dT).1 v bL).2⟩,λjH=>((xJ i j p x u c1 c2 dT).2 jH).mono (Ext.refl _ _) (λc _=>gp c) λ_ _=>rfl⟩,aie,aif,λc=>(cy c).trans (aih c)⟩⟩)
  have xP:aS (aS s.H k (some (.a7 r m gen (l++o) (hW l.length C)))) k (some (.a7 r m (gen+1) (l++o) (hW l.length C)))=aS s.H k (some (.a7 r m (gen+1) (l++o) (hW l.length C))):=by
   funext j;by_cases hj:j=k
   ·subst hj;rw[bP,bP]
   rw[bQ _ _ _ _ hj,bQ _ _ _ _ hj,bQ _ _ _ _ hj]
  simp only[xP] at x1;refine⟨_,_,_,X,x1,?_⟩;have il:bk (β.put k (some (some b,gen+1))) W (own K (β.put k (some (some b,gen+1))) (aS s.H k (some (.a7 r m (gen+1) (l++o) (hW l.length C))))) (.a8 k (gen+1) (U r m).size 0 (l.length+o.length)) (.slice (some ⟨b,0*(U r m).size,none⟩) (l.length+o.length) D):=by
   refine .a8 k (gen+1) (U r m).size 0 _ D b (D*(U r m).size) (U r m).ty O (bP _ _ _) (by subst lN;simpa using hw) ?_ (by rw[dt]) M mv;subst lN;unfold World.shape?;rw[setRow_heap _ _ _ _ _ _ g2];simp only[Y,k0]
  rw[ga] at il;exact il
 have holds: ∀j u,(G.toList.take (l.length*(U r m).size))[j]? =some u->w.cell? ((⟨b,0,none⟩:Addr).add j)=some u:=by
  intro j u hj;rw[jg,dt];rw[fS] at hj;split at hj
  ·simp only[World.cell?,g2];simpa using hj
  cases hj
 have X:=run_append_grow (P:=K.P) w t ty (U r m).ty i z hu mu hi2 ⟨b,0,none⟩ l.length D (G.toList.take (l.length*(U r m).size)) (by rw[kz];exact sG) holds ⟨cd,off,none⟩ o.length B2 f (by rw[kz];exact ov) IC O O (growslice_fits O ky);obtain⟨F,f1,f2⟩:=finish B (G.toList.take (l.length*(U r m).size)) (grownCap w (l.length+o.length) D (U r m).ty) sG (grownCap_ge w _ D (U r m).ty) (grownCap_le_maxLen w _ D (U r m).ty hm) lP (λi j c Q=>⟨(g6 i j c Q).1,(g6 i j c Q).2.1⟩) g7 g8;exact⟨_,_,F,X,f1,f2⟩
def qb(a:Nat)(c:List V):List (Nat×Nat×V)->List (Nat×Nat×V)
 | []=>[]
 |h::e=>(h.1,h.2.1,match Nat.ble a h.2.1,c[h.2.1-a]? with
  |true,some v=>v
  |_,_=>h.2.2)::qb a c e
theorem AD{off:Nat}{vs:List V}{i j:Nat}{v:V}: ∀{a:List (Nat×Nat×V)},(i,j,v)∈a-> ∃c,(i,j,c)∈qb off vs a
 |h::a,hm=>by
  rcases dL.1 hm with rfl|hm
  ·exact⟨_,eM⟩
  obtain⟨c,e⟩:=AD hm;exact⟨c,ew _ e⟩
theorem zR{off:Nat}{vs:List V}{i j:Nat}{v:V}: ∀{c:List (Nat×Nat×V)},(i,j,v)∈qb off vs c-> ∃a,(i,j,a)∈c/\(off<=j-> ∀x,vs[j-off]? =some x->v=x)/\(¬(off<=j/\j<off+vs.length)->v=a)
 |h::c,hm=>by
  rcases dL.1 hm with e|hm
  ·simp only[Prod.mk.injEq] at e;obtain⟨rfl,rfl,rfl⟩:=e;refine⟨h.2.2,eM,λl x k=>?_,λm=>?_⟩
   ·rw[Nat.ble_eq_true_of_le l,k]
   split
   ·rename_i v n k
    have:=(bU.1 k).1
    have:=dY n;exact bz ⟨this,O⟩ m
   rfl
  obtain⟨a,o,p⟩:=zR hm;exact⟨a,ew _ o,p⟩
theorem XO{gen:Nat}{a:List (List T)}{D:List (Nat×Nat×V)}(h:cC G w X k (.a7 W m gen a D)){c:T}(p:a[i]? =some l)(r:l[n]? =some c):
  ∃(b:Nat) (e:Array Value) (N:Nat->Prop) (x:Value),G k=some (some b,gen)/\w.heap[b]? =some (.cells e (U W m).ty (0,0))/\e[i*(U W m).size+n]? =some x/\Cell W m D G w X i n c x N:=by
 rcases h.2 with ⟨_,q,_⟩|⟨b,e,B,y,q,F,L,A,_⟩
 ·rw[q] at p;simp at p
 have C:i<a.length:=(bU.1 p).1;have Q:n<(U W m).size:=by
  grind
 have o:i*(U W m).size+n<e.size:=by
  have:(i+1)*(U W m).size<=a.length*(U W m).size:=dx _ C
  grind
 exact⟨b,e,_,e[i*(U W m).size+n],y,q,by simp[o],A i n l c _ p r (by simp[o])⟩
section nT
variable {P:Program}{H:Nat->Option E}{d:Option Tmp}{ty:TypeId}{pos:String}{af:Array Edge}{g:Option (Nat×Bool)}
variable {t:TypeId}{u:TypeDesc}{z:Value}{size bytes:Nat}
theorem DA(x:Operand)(o gen i a:Nat)(n:List dN)(m:Nat)(B:Nat)(e:List (List T))(p:List (Nat×Nat×V))(l:List T)(c:T)(v:V)(L:ca P t u z size bytes)(Q:ko u=false)(R:H o=some (.a7 n m gen e p))(W:(U n m).size=B)
  (f:e[i]? =some l) (j:l[a]? =some c) (q:(i,a,v)∈p\/((∀v,(i,a,v)∉p)/\(U n m).en a=none/\v= .t c)):
  b4 P H ⟨d,.load t x,ty,pos,af,g⟩ [.cw o gen B i a] v:=by
 subst W;intro β w X ρ D I;obtain⟨b,us,N,y,M,Y,C,F⟩:=XO (D o _ R) f j;obtain⟨fL,r,hx⟩:=oG I.1 M;cases r;have hlt:=(js.1 C).1;have k:w.cell? ⟨b,i*(U n m).size+a,none⟩=some y:=by
  simp only[World.cell?,Y];exact C
 refine⟨y,?_,?_⟩
 ·simp[execOp,hx,Instr.loadAt,Instr.sureAddr,L.C' w Q k]
 rcases q with q|⟨A,hk,rfl⟩
 ·exact(F.1 v q).1
 have G:=F.2 A;rw[hk] at G;cases G with|jh _ _ _ h _=>exact .t _ _ h
theorem Kx(x:Operand)(r gen i a:Nat)(k:List dN)(m:Nat)(R:Nat)(e:List (List T))(W:List (Nat×Nat×V))(h:List T)(y:List V)(f:ca P t u z size bytes)(D:ko u=true)(I:H r=some (.a7 k m gen e W))(M:(U k m).size=R)
  (n:e[i]? =some h) (b8:a+size<=h.length) (o:y.length=size) (N: ∀j v,y[j]? =some v->(i,a+j,v)∈W):
  b4 P H ⟨d,.load t x,ty,pos,af,g⟩ [.cw r gen R i a] (.agg y):=by
 subst M;intro β w X ρ Y fP;rcases(Y r _ I).2 with ⟨_,A,_⟩|⟨b,C,B,h1,A,h3,h4,h5,_⟩
 ·rw[A] at n;simp at n
 obtain⟨fL,F,hx⟩:=oG fP.1 h1;cases F;have aE:i<e.length:=(bU.1 n).1;have hrl:h.length=(U k m).size:=h4 h (bE n);have p: ∀j,j<size->i*(U k m).size+a+j<C.size:=by
  intro j q
  have:(i+1)*(U k m).size<=e.length*(U k m).size:=dx _ aE
  grind
 have l: ∀j,j<size->w.cell? ⟨b,i*(U k m).size+a+j,none⟩=some (C.getD (i*(U k m).size+a+j) undef):=λj q=>by
  have:=p j q;simp[World.cell?,A,this]
 refine⟨_,by simp[execOp,hx,Instr.loadAt,Instr.sureAddr,f.Da w D l];rfl,?_⟩;refine .agg _ _ (by simp[o]) λj c v G L=>?_;have q:j<size:=by
  grind
 simp only[List.getElem?_toArray,List.getElem?_map,List.getElem?_range q,Option.map_some,Option.some.injEq] at L;have Q:=bo (O:a+j<h.length)
 have:=p j q;have h6:=(h5 i (a+j) h _ C[i*(U k m).size+a+j] n Q (by rw[<-pV];simp[this])).1 c (N j c G)
 grind
theorem UH(x:Operand)(n gen o i c k a:Nat)(C:Array Field)(h:Field)(G:TypeDesc)(L:Value)(l p:Nat)(Q:P.underlying t=some (.struct C))(R:C[k]? =some h)(W:h.offset=a)(r:ca P h.type G L l p)(y:(l==0)=false)
  (e:E) (f:H n=some e) (j:e.gen=some gen):b4 P H ⟨d,.fieldAddr t x k,ty,pos,af,g⟩ [.cw n gen o i c] (.cw n gen o i (c+a)):=by
 intro M w X N v D;obtain⟨A,q,F⟩:=o3 (v n _ f) j;obtain⟨b,B,I⟩:=oG D.1 F;subst B;have m:l≠0:=by simpa using y
 refine⟨.pointer (some ⟨b,i*o+(c+a),none⟩),?_,.cw _ _ _ _ _ _ A F⟩;simp[execOp,I,Instr.fieldAt,run_underlying Q,R,Instr.sureAddr,fieldPlace,r.run_sizeOf,m,jg,W,Nat.add_assoc]
theorem UF(x y:Operand)(e:TypeId)(i gen a c n:Nat)(p:E)(B:H i=some p)(C:p.gen=some gen)(F:P.underlying t=some (.slice e))(G:ca P e u z size bytes)(j:n<c):
  b4 P H ⟨d,.indexAddr t x y,ty,pos,af,g⟩ [.a8 i gen size a c,.t (.int .i64 (n:Nat))] (.cw i gen size (a+n) 0):=by
 intro D w X L Q k;have cy:=dy k.2.1;generalize r:L x=v at k;have h:=k.1;simp only[r] at h;obtain⟨l,q,A⟩:=o3 (Q i _ B) C;rcases e3 h A with ⟨R,b,m,W,rfl,o,I,M,f,N,T⟩|⟨_,_,U,_⟩
 ·subst o;refine⟨.pointer (some ⟨b,(a+n)*size+0,none⟩),?_,.cw _ _ _ _ _ b l A⟩;simp[execOp,r,cy,Instr.indexAt,asIntOf,run_underlying F,G.run_sizeOf,jg,Nat.add_mul]
  grind
 omega
theorem WH(x:Operand)(e:TypeId)(l gen h i c:Nat)(p:P.underlying t=some (.slice e))(n:E)(r:H l=some n)(y:n.gen=some gen):b4 P H ⟨d,.call {callee:= .builtin .len,args:= #[x],argTypes:= #[t]},ty,pos,af,g⟩ [.a8 l gen h i c] (.t (.int .i64 (c:Nat))):=by
 intro A w X o B C;obtain⟨a,cap,k⟩: ∃a cap,o x= .slice a c cap:=by
  have F:bk A w X (.a8 l gen h i c) (o x):=C.1;obtain⟨_,q,G⟩:=o3 (B l _ r) y;rcases e3 F G with ⟨cap,b,m,L,k,_⟩|⟨_,_,Q,k⟩
  ·exact⟨_,_,k⟩
  exact⟨none,0,by rw[Q];exact k⟩
 refine⟨.int .i64 (c:Nat),?_,.t _ _ (.int _ _)⟩;simp[execOp,resolve,invoke,builtin,k,Builtin.len_,run_underlying p,goInt]
end nT
section ops
variable {K:Ctx}{s:S}{d:Option Tmp}{ty:TypeId}{pos:String}{af:Array Edge}{g:Option (Nat×Bool)}
variable {t:TypeId}{u:TypeDesc}{z:Value}{gen size bytes:Nat}
theorem Yv(k D I M:Nat)(x y:Operand)(e:TypeId)(r A:List dN)(m N:Nat)(h c:List (List T))(l:List (Nat×Nat×V))(Y: ∀i,d=some i->Nat.blt i K.nt=true)(hx:s.get x= .a8 k gen size 0 h.length)(hy:s.get y= .a8 D I size 0 M)(hk:s.H k=some (.a7 r m gen h []))(L:s.H D=some (.a7 A N I c l))
  (R:U A N=U r m) (W:M=c.length) (hu:K.P.underlying t=some (.slice e)) (he:ca K.P e u z size bytes) (X:Nat.beq z.cells.size size=true) (b:(U r m).size=size) (nv:(U r m).ty=e) (hs: ∀n,n∈h->n.length=size) (f: ∀n,n∈c->n.length=size)
  (o:0<c.length) (p:w3 (U r m) c.length l=true) (ec:tO l=true) (aY:(h.length+c.length)*bytes<=140737488355328) (hm:h.length+c.length<=9223372036854775807):
  dO K ⟨d,.call {callee:= .builtin .append,args:= #[x,y],argTypes:= #[t,t]},ty,pos,af,g⟩ s
   (({s with H:=aS s.H k (some (.a7 r m (gen+1) (h++c) (hW h.length l)))}:S).put d (.a8 k (gen+1) size 0 (h.length+c.length))):=by
 intro β a w next Q G j
 have B:=G.get x;rw[hx] at B;have C:=G.get y;rw[hy] at C;have q:=Ai.of G L W (by rw[R,b];exact C) o ec (by rw[R];exact p);rw[R,b] at q;obtain⟨c9,w',v,h1,h2,h4⟩:=G.ac9 k r m h c l hk b nv ty hu he (cL X) hs f _ _ B q o p aY (by unfold maxLen;omega);unfold Oper.wp;have F:(execOp a.eval ⟨d,.call {callee:= .builtin .append,args:= #[x,y],argTypes:= #[t,t]},ty,pos,af,g⟩).run K.P w= .ok (.value c9) w':=by
  simp[execOp,resolve,invoke,builtin,h1]
 rw[F];exact j v _ w' (h2.put d Y h4)
theorem Uz(x y:Operand)(id i off:Nat)(k:List dN)(m:Nat)(o:List (List T))(G:List T)(v:V)(hs:List (Nat×Nat×V))(hx:s.get x= .cw id gen size i off)(bL:s.get y=v)(sH:v.val=true)(k1:nK v.cs=true)
  (hH:s.H id=some (.a7 k m gen o hs)) (eD:(U k m).size=size) {l:Nat} (fc:ca K.P t u z l bytes) (Iw:v.cs.length=l) (Ir:0<l) (L:o[i]? =some G) (b8:off+l<=G.length)
  (mu: ∀n cT f,(n,cT,f)∈hs->off<=cT->cT<off+l->n=i) (hi2: ∀j,j<l-> ∃f,(i,off+j,f)∈hs):
  dO K ⟨none,.store t x y,ty,pos,af,g⟩ s {s with H:=aS s.H id (some (.a7 k m gen o (qb off v.cs hs)))}:=by
 subst eD;intro β a w next Q bR hk
 have x8:=bR.get x;rw[hx] at x8;have hN:=(bR.heap id _ hH).2;rcases hN.2 with ⟨_,h2,_⟩|⟨b,p,B,h1,h2,h3,h4,h5,h6,lL,kX⟩
 ·rw[h2] at L;simp at L
 obtain⟨fL,jG,sK⟩:=oG x8 h1;cases jG;have aE:=(bU.1 L).1;have hrl:G.length=(U k m).size:=h4 G (bE L);have Cb:i*(U k m).size+off+l<=p.size:=by
  have:(i+1)*(U k m).size<=o.length*(U k m).size:=dx _ aE;rw[dG] at this;omega
 have lQ:=bR.get y;rw[bL] at lQ;obtain⟨c1,c2⟩:=lQ.cells sH;have R:(a.eval y).cells.size=l:=c1.trans Iw;have D: ∀e∈(a.eval y).cells.toList,e.oneCell'=true:=by
  intro e he;obtain⟨j,hj⟩:=kf.1 he;have hj':(a.eval y).cells[j]? =some e:=by simpa using hj
  have hlt:=(js.1 hj').1;have bG:=bo (O:j<v.cs.length);exact(c2 j _ e bG hj').iR (zz k1 bG)
 unfold Oper.wp;have x2:=Db fc w b (i*(U k m).size+off) p _ (a.eval y) h2 R O D;have I:(execOp a.eval ⟨none,.store t x y,ty,pos,af,g⟩).run K.P w= .ok .skip (w.setRow b (p.toList.take (i*(U k m).size+off)++(a.eval y).cells.toList++p.toList.drop (i*(U k m).size+off+(a.eval y).cells.toList.length)).toArray):=by
  simp only[execOp,sK,Instr.storeAt,Instr.sureAddr,Sem.run_bind,Sem.run_pure,Result.andThen_ok,x2]
 rw[I];have hlen:(p.toList.take (i*(U k m).size+off)++(a.eval y).cells.toList++p.toList.drop (i*(U k m).size+off+(a.eval y).cells.toList.length)).length=p.size:=by
  simp[R];omega
 have M:own K β s.H b:= .inr ⟨id,by rw[hH];simp,.inl ⟨_,h1⟩⟩;generalize N:(p.toList.take (i*(U k m).size+off)++(a.eval y).cells.toList++p.toList.drop (i*(U k m).size+off+(a.eval y).cells.toList.length)).toArray=q at*;have r:q.size=p.size:=by rw[<-N];simpa using hlen
 have W:Ext (own K β s.H) w (w.setRow b q):=⟨rfl,rfl,rfl,aP,λkk _ hx=>setRow_other _ _ _ _ λe0=>hx (e0▸M)⟩
 have X:Shaped β w (w.setRow b q):=λfL _=>D1 h2 r fL;refine hk β _ _ (Rel.setRow bR id b (.inl ⟨_,h1⟩) p _ h2 q r (.a7 k m gen o (qb off v.cs hs)) (by rw[hH];simp) ?_);refine⟨hN.1,.inr ⟨b,q,B,h1,setRow_heap _ _ _ _ _ _ h2,by rw[r];exact h3,h4,λn cT A ix l0 aI a2 a3=>?_,h6,lL,kX⟩⟩;have hjs:cT<(U k m).size:=by rw[<-h4 A (bE aI)];exact(bU.1 a2).1
 by_cases Y:n=i/\off<=cT/\cT<off+l
 ·obtain⟨rfl,Ig,xY⟩:=Y;obtain⟨f,sA⟩:=hi2 (cT-off) O;rw[show off+(cT-off)=cT by omega] at sA;have C:=h5 n cT A ix p[n*(U k m).size+cT] aI a2 (by rw[hr O]);have aeF: ∃v1,(n,cT,v1)∈qb off v.cs hs:=AD sA;obtain⟨v1,lO⟩:=aeF;refine⟨λc9 F=>⟨?_,(C.1 f sA).2⟩,λjH=>bz lO (jH v1)⟩;obtain⟨_,_,q2,_⟩:=zR F;have B':=bo (O:cT-off<v.cs.length);have e:=q2 Ig _ B'
  have:(a.eval y).cells[cT-off]? =some l0:=by
   rw[<-N] at a3;simp only[List.getElem?_toArray] at a3;rw[jS (by simp[R];omega),jt bN] at a3;have mq:n*(U k m).size+cT-(p.toList.take (n*(U k m).size+off)).length=cT-off:=by
    rw[cE,oU];omega
   rw[mq] at a3;simpa using a3
  rw[e];exact(c2 _ _ l0 B' this).mono W (λ_ _ h=>h) (di.refl _) X
 have hne:n*(U k m).size+cT<i*(U k m).size+off\/i*(U k m).size+off+l<=n*(U k m).size+cT:=by
  rcases Nat.lt_trichotomy n i with h|h|h
  ·have:=dx (U k m).size (O:n+1<=i);rw[dG] at this;omega
  ·subst h
   have: ¬(off<=cT/\cT<off+l):=λh=>Y ⟨rfl,h⟩;omega
  have:=dx (U k m).size (O:i+1<=n);rw[dG] at this;omega
 have C:p[n*(U k m).size+cT]? =some l0:=by
  rw[<-N] at a3;simp only[List.getElem?_toArray,List.getElem?_append,List.length_append,List.length_take,List.getElem?_take,List.getElem?_drop,Array.length_toList,R] at a3;rw[show min (i*(U k m).size+off) p.size=i*(U k m).size+off by omega] at a3;rcases hne with hlt|ji
  ·rw[a1 O,a1 O,a1 O] at a3;simpa using a3
  rw[aZ O] at a3;rw[show i*(U k m).size+off+l+(n*(U k m).size+cT-(i*(U k m).size+off+l))=n*(U k m).size+cT by omega] at a3;simpa using a3
 have pj:=h5 n cT A ix l0 aI a2 C;have hc1:=pj.mono (β':=β) W (λ_ _ h=>h) (di.refl _) X λc bG=>setRow_other _ _ _ _ (h6 _ _ _ bG).2.2;refine⟨λc9 F=>?_,λjH=>hc1.2 λc9 F=>?_⟩
 ·obtain⟨f,lb,_,qZ⟩:=zR F;have aeN: ¬(off<=cT/\cT<off+v.cs.length):=λh=>Y ⟨mu _ _ _ lb h.1 O,h.1,O⟩;rw[qZ aeN];exact hc1.1 f lb
 obtain⟨v1,lO⟩:=AD (off:=off) (vs:=v.cs) F;exact jH v1 lO
theorem TO(x y:Operand)(id i off:Nat)(k:List dN)(m:Nat)(o:List (List T))(L:List T)(v:V)(hs:List (Nat×Nat×V))(hx:s.get x= .cw id gen size i off)(bL:s.get y=v)(sH:v.val=true)(k1:nK v.cs=true)
  (hH:s.H id=some (.a7 k m gen o hs)) (eD:(U k m).size=size) {l:Nat} (fc:ca K.P t u z l bytes) (Iw:v.cs.length=l) (Ir:0<l) (R:o[i]? =some L) (b8:off+l<=L.length)
  {W:List (Nat×Nat×V)} (lM: ∀n cT c9,(n,cT,c9)∈W-> ∃G,(n,cT,G)∈hs/\((n=i/\off<=cT/\cT<off+l)->v.cs[cT-off]? =some c9)/\(¬(n=i/\off<=cT/\cT<off+l)->c9=G)) (dm: ∀n cT G,(n,cT,G)∈hs-> ∃v1,(n,cT,v1)∈W) (hi2: ∀j,j<l-> ∃G,(i,off+j,G)∈hs):
  dO K ⟨none,.store t x y,ty,pos,af,g⟩ s {s with H:=aS s.H id (some (.a7 k m gen o W))}:=by
 subst eD;intro β a w next Q bR hk
 have x8:=bR.get x;rw[hx] at x8;have hN:=(bR.heap id _ hH).2;rcases hN.2 with ⟨_,h2,_⟩|⟨b,p,B,h1,h2,h3,h4,h5,h6,lL,kX⟩
 ·rw[h2] at R;simp at R
 obtain⟨fL,jG,sK⟩:=oG x8 h1;cases jG;have aE:=(bU.1 R).1;have hrl:L.length=(U k m).size:=h4 L (bE R);have Cb:i*(U k m).size+off+l<=p.size:=by
  have:(i+1)*(U k m).size<=o.length*(U k m).size:=dx _ aE;rw[dG] at this;omega
 have lQ:=bR.get y;rw[bL] at lQ;obtain⟨c1,c2⟩:=lQ.cells sH;have X:(a.eval y).cells.size=l:=c1.trans Iw;have I: ∀e∈(a.eval y).cells.toList,e.oneCell'=true:=by
  intro e he;obtain⟨j,hj⟩:=kf.1 he;have hj':(a.eval y).cells[j]? =some e:=by simpa using hj
  have hlt:=(js.1 hj').1;have bG:=bo (O:j<v.cs.length);exact(c2 j _ e bG hj').iR (zz k1 bG)
 unfold Oper.wp;have x2:=Db fc w b (i*(U k m).size+off) p _ (a.eval y) h2 X O I;have M:(execOp a.eval ⟨none,.store t x y,ty,pos,af,g⟩).run K.P w= .ok .skip (w.setRow b (p.toList.take (i*(U k m).size+off)++(a.eval y).cells.toList++p.toList.drop (i*(U k m).size+off+(a.eval y).cells.toList.length)).toArray):=by
  simp only[execOp,sK,Instr.storeAt,Instr.sureAddr,Sem.run_bind,Sem.run_pure,Result.andThen_ok,x2]
 rw[M];have hlen:(p.toList.take (i*(U k m).size+off)++(a.eval y).cells.toList++p.toList.drop (i*(U k m).size+off+(a.eval y).cells.toList.length)).length=p.size:=by
  simp[X];omega
 have N:own K β s.H b:= .inr ⟨id,by rw[hH];simp,.inl ⟨_,h1⟩⟩;generalize Y:(p.toList.take (i*(U k m).size+off)++(a.eval y).cells.toList++p.toList.drop (i*(U k m).size+off+(a.eval y).cells.toList.length)).toArray=q at*;have r:q.size=p.size:=by rw[<-Y];simpa using hlen
 have f:Ext (own K β s.H) w (w.setRow b q):=⟨rfl,rfl,rfl,aP,λkk _ hx=>setRow_other _ _ _ _ λe0=>hx (e0▸N)⟩
 have D:Shaped β w (w.setRow b q):=λfL _=>D1 h2 r fL;refine hk β _ _ (Rel.setRow bR id b (.inl ⟨_,h1⟩) p _ h2 q r (.a7 k m gen o W) (by rw[hH];simp) ?_);refine⟨hN.1,.inr ⟨b,q,B,h1,setRow_heap _ _ _ _ _ _ h2,by rw[r];exact h3,h4,λn cT A ix l0 aI a2 a3=>?_,h6,lL,kX⟩⟩;have hjs:cT<(U k m).size:=by rw[<-h4 A (bE aI)];exact(bU.1 a2).1
 by_cases qB:n=i/\off<=cT/\cT<off+l
 ·obtain⟨rfl,Ig,xY⟩:=qB;obtain⟨G,sA⟩:=hi2 (cT-off) O;rw[show off+(cT-off)=cT by omega] at sA;have C:=h5 n cT A ix p[n*(U k m).size+cT] aI a2 (by rw[hr O]);obtain⟨v1,lO⟩:=dm _ _ _ sA;refine⟨λc9 F=>⟨?_,(C.1 G sA).2⟩,λjH=>bz lO (jH v1)⟩;obtain⟨_,_,q2,_⟩:=lM _ _ _ F;have B':=q2 ⟨rfl,Ig,xY⟩
  have:(a.eval y).cells[cT-off]? =some l0:=by
   rw[<-Y] at a3;simp only[List.getElem?_toArray] at a3;rw[jS (by simp[X];omega),jt bN] at a3;have mq:n*(U k m).size+cT-(p.toList.take (n*(U k m).size+off)).length=cT-off:=by
    rw[cE,oU];omega
   rw[mq] at a3;simpa using a3
  exact(c2 _ _ l0 B' this).mono f (λ_ _ h=>h) (di.refl _) D
 have hne:n*(U k m).size+cT<i*(U k m).size+off\/i*(U k m).size+off+l<=n*(U k m).size+cT:=by
  rcases Nat.lt_trichotomy n i with h|h|h
  ·have:=dx (U k m).size (O:n+1<=i);rw[dG] at this;omega
  ·subst h
   have: ¬(off<=cT/\cT<off+l):=λh=>qB ⟨rfl,h⟩;omega
  have:=dx (U k m).size (O:i+1<=n);rw[dG] at this;omega
 have C:p[n*(U k m).size+cT]? =some l0:=by
  rw[<-Y] at a3;simp only[List.getElem?_toArray,List.getElem?_append,List.length_append,List.length_take,List.getElem?_take,List.getElem?_drop,Array.length_toList,X] at a3;rw[show min (i*(U k m).size+off) p.size=i*(U k m).size+off by omega] at a3;rcases hne with hlt|ji
  ·rw[a1 O,a1 O,a1 O] at a3;simpa using a3
  rw[aZ O] at a3;rw[show i*(U k m).size+off+l+(n*(U k m).size+cT-(i*(U k m).size+off+l))=n*(U k m).size+cT by omega] at a3;simpa using a3
 have pj:=h5 n cT A ix l0 aI a2 C;have hc1:=pj.mono (β':=β) f (λ_ _ h=>h) (di.refl _) D λc bG=>setRow_other _ _ _ _ (h6 _ _ _ bG).2.2;refine⟨λc9 F=>?_,λjH=>hc1.2 λc9 F=>?_⟩
 ·obtain⟨G,lb,_,qZ⟩:=lM _ _ _ F;rw[qZ qB];exact hc1.1 G lb
 obtain⟨v1,lO⟩:=dm _ _ _ F;exact jH v1 lO
end ops
def E.gen?:E->Option Nat
 | .cells _=>none
 | .arr _ gen _ _=>some gen
 | .a7 _ _ gen _ _=>some gen
theorem Bd{g:Nat}{I:E}(c:I.gen? =some g)(h:cC G w X n I):1<=g/\ ∃q,G n=some (q,g):=by
 cases I with
 |cells cs=>cases c
 |arr ty gen size a=>cases c;exact⟨h.1,jl h⟩
 |a7 e m gen a i=>cases c;exact⟨h.1,tG h⟩
section nT
variable {P:Program}{H:Nat->Option E}{d:Option Tmp}{ty:TypeId}{pos:String}{af:Array Edge}{g:Option (Nat×Bool)}
variable {t:TypeId}{u:TypeDesc}{z:Value}{size bytes:Nat}
def qn(c:Nat)(h i:Option Operand)(e:Operand->Value)(a b:Nat):Prop:=
 (match h with|some x=>e x= .int .i64 (a:Nat)|none=>a=0)/\(match i with|some x=>e x= .int .i64 (b:Nat)|none=>b=c)
theorem A8{P:Program}{len a:Nat}{i e:Option Operand}{c:Operand->Value}(h:qn len i e c a b)(m:a<=b)(o:b<=n)(w:World):(Instr.sliceBounds true len n (i.map c) (e.map c) none).run P w= .ok (a,b,n) w:=by
 obtain⟨l,k⟩:=h;cases i with
 |none=>
  have l:a=0:=l;subst l;cases e with
  |none=>
   have k:b=len:=k;subst k;simp[Instr.sliceBounds]
  |some y=>
   have k:c y=_:=k;simp[Instr.sliceBounds,k,jD w b n _ o]
 |some x=>
  have l:c x=_:=l;cases e with
  |none=>
   have k:b=len:=k;subst k;simp[Instr.sliceBounds,l,jD w a b _ m]
  |some y=>
   have k:c y=_:=k;simp[Instr.sliceBounds,l,k,jD w b n _ o,jD w a b _ m]
theorem abt(x:Operand)(r y:Option Operand)(e:TypeId)(m gen h c a b:Nat)(R:E)(D:H m=some R)(I:R.gen? =some gen)(W:P.underlying t=some (.slice e))(f:ca P e u z size bytes)
  (M:a<=b) (h2:b<=c) (h3:a=0\/a<c) {i:List V} (N: ∀A w X (k:Operand->Value),dj A w X i (r.toList.map k++y.toList.map k)->qn c r y k a b):
  b4 P H ⟨d,.slice t x r y none,ty,pos,af,g⟩ (.a8 m gen size h c::i) (.a8 m gen size (h+a) (b-a)):=by
 intro A w X k T F;obtain⟨B,q,G⟩:=Bd I (T m _ D);have F:dj A w X (.a8 m gen size h c::i) (k x::(r.toList.map k++y.toList.map k)):=by
  cases r<;>cases y<;>simpa[Op.operands] using F
 have C:qn c r y k a b:=N A w X k F.2;have U:bk A w X (.a8 m gen size h c) (k x):=F.1;rcases e3 U G with ⟨l,j,n,L,o,p,Y,hs,cy,b8,hm⟩|⟨p,h0,Q,o⟩
 ·subst p;refine⟨.slice (some ⟨j,(h+a)*size,none⟩) (b-a) (l-a),?_,.a8 m gen size (h+a) (b-a) (l-a) j n L B G Y hs (by rw[<-cy];congr 1;omega) O O⟩;simp only[execOp,Sem.run_bind,Instr.sliceAt,Instr.slice,run_underlying W,Result.andThen_ok,o,Option.map_none,Option.map_some,A8 C M (O:b<=l),f.run_sizeOf,Sem.run_pure];by_cases v:l=a
  ·rw[a1 v]
   grind
  rw[aZ v];simp[jg,Nat.add_mul]
 subst p;subst h0;subst Q;have e1:b=0:=O
 have e2:a=0:=O
 subst e1;subst e2;refine⟨.slice none 0 0,?_,.hi m gen size B G⟩;simp only[execOp,Sem.run_bind,Instr.sliceAt,Instr.slice,run_underlying W,Result.andThen_ok,o,Option.map_none,A8 C (Nat.le_refl _) (Nat.le_refl 0),f.run_sizeOf,Sem.run_pure];simp
theorem aab(x:Operand)(p q:Option Operand)(e I:TypeId)(m gen c h a b:Nat)(l:List (List T))(M:H m=some (.arr I gen size l))(N:P.underlying t=some (.slice e))(U:ca P e u z size bytes)
  (Y:0<size) (h1:a<b) (f:c+b<=l.length) {i:List V} (aY: ∀r w X (k:Operand->Value),dj r w X i (p.toList.map k++q.toList.map k)->qn h p q k a b):
  b4 P H ⟨d,.slice t x p q none,ty,pos,af,g⟩ (.a8 m gen size c h::i) (.a8 m gen size (c+a) (b-a)):=by
 intro r w X k hE C;have y:=hE m _ M;have F:=y.1;have C:dj r w X (.a8 m gen size c h::i) (k x::(p.toList.map k++q.toList.map k)):=by
  cases p<;>cases q<;>simpa[Op.operands] using C
 have G:qn h p q k a b:=aY r w X k C.2;have hx:bk r w X (.a8 m gen size c h) (k x):=C.1;rcases y.2 with ⟨L,Q⟩|⟨j,us,L,g2,g3,g4,g5⟩
 ·subst Q;simp at f;omega
 rcases e3 hx L with ⟨cap,fL,n,R,W,o,hw,v,D,b8,hm⟩|⟨o,_⟩
 ·cases o;have A:us.size=n:=by
   unfold World.shape? at v
   grind
  have B:b<=cap:=by
   have h3:(c+b)*size<=(c+cap)*size:=by
    rw[D,<-A];exact f' (dx _ f) g3
   have:=Nat.le_of_mul_le_mul_right h3 Y;omega
  refine⟨.slice (some ⟨j,(c+a)*size,none⟩) (b-a) (cap-a),?_,.a8 m gen size (c+a) (b-a) (cap-a) j n R F L hw v (by rw[<-D];congr 1;omega) O O⟩;simp only[execOp,Sem.run_bind,Instr.sliceAt,Instr.slice,run_underlying N,Result.andThen_ok,W,Option.map_none,Option.map_some,A8 G (O:a<=b) B,U.run_sizeOf,Sem.run_pure];rw[aZ (show¬cap=a by omega)];simp[jg,Nat.add_mul]
 cases o
theorem aac(x:Operand)(o p:Option Operand)(e:TypeId)(r gen h m c a:Nat)(L:E)(R:H r=some L)(W:L.gen? =some gen)(b:P.underlying t=some (.slice e))(f:ca P e u z size bytes)
  (U:a<=c) {i:List V} (j: ∀y w X (k:Operand->Value),dj y w X i (o.toList.map k++p.toList.map k)->qn c o p k a a):
  b4 P H ⟨d,.slice t x o p none,ty,pos,af,g⟩ (.a8 r gen h m c::i) (.t (.aA [])):=by
 intro y w X k v A;obtain⟨D,q,I⟩:=Bd W (v r _ R);have A:dj y w X (.a8 r gen h m c::i) (k x::(o.toList.map k++p.toList.map k)):=by
  cases o<;>cases p<;>simpa[Op.operands] using A
 have C:qn c o p k a a:=j y w X k A.2;have M:bk y w X (.a8 r gen h m c) (k x):=A.1;obtain⟨B,cap,l,Q⟩: ∃B cap,k x= .slice B c cap/\c<=cap:=by
  rcases e3 M I with ⟨cap,Y,n,N,l,F,hw,hs,cy,T,hm⟩|⟨F,h0,G,l⟩
  ·exact⟨_,cap,l,T⟩
  exact⟨none,0,by rw[G];exact l,O⟩
 refine⟨.slice (if cap=a then B else B.map (·.add (a*size))) (a-a) (cap-a),?_,.t _ _ (by rw[nM];exact .fI _ _)⟩;simp only[execOp,Sem.run_bind,Instr.sliceAt,Instr.slice,run_underlying b,Result.andThen_ok,l,Option.map_none,A8 C (Nat.le_refl _) (O:a<=cap),f.run_sizeOf,Sem.run_pure]
theorem Vy(x:Operand)(e gen a i c:Nat)(h:E)(m:H e=some h)(n:h.gen? =some gen):b4 P H ⟨d,.nilCheck x,ty,pos,af,g⟩ [.cw e gen a i c] (.cw e gen a i c):=by intro o w X k p r;obtain⟨y,q,A⟩:=Bd n (p e _ m);have l:bk o w X (.cw e gen a i c) (k x):=r.1;obtain⟨b,_,B⟩:=oG l A;exact⟨k x,by simp[execOp,B],l⟩
theorem Yn(x C F G:Operand)(e:TypeId)(o gen h l i a b c:Nat)(L:E)(W:H o=some L)(f:L.gen? =some gen)(j:P.underlying t=some (.slice e))(v:ca P e u z size bytes)
  (D:a<=b) (I:b<=c) (h3:c<=i):b4 P H ⟨d,.slice t x (some C) (some F) (some G),ty,pos,af,g⟩ [.a8 o gen h l i,.t (.int .i64 (a:Nat)),.t (.int .i64 (b:Nat)),.t (.int .i64 (c:Nat))] .cY:=by
 intro M w X m N p;obtain⟨T,q,U⟩:=Bd f (N o _ W);have V:bk M w X (.a8 o gen h l i) (m x):=p.1;have y:m C=_:=dy p.2.1;have Y:m F=_:=dy p.2.2.1;have Q:m G=_:=dy p.2.2.2.1;obtain⟨r,cap,k,R⟩: ∃r cap,m x= .slice r i cap/\i<=cap:=by
  rcases e3 V U with ⟨cap,fL,n,hn,k,A,hw,hs,cy,y,Q⟩|⟨A,h0,B,k⟩
  ·exact⟨_,cap,k,y⟩
  exact⟨none,0,by rw[B];exact k,O⟩
 refine⟨.slice (if c=a then r else r.map (·.add (a*size))) (b-a) (c-a),?_,.cY _⟩;simp[execOp,k,y,Y,Q,Instr.sliceAt,Instr.slice,run_underlying j,Instr.sliceBounds,jD w c cap _ O,jD w b c _ I,jD w a b _ D,v.run_sizeOf]
end nT
section steps
variable {K:Ctx}{s:S}{d:Option Tmp}{ty:TypeId}{pos:String}{af:Array Edge}{g:Option (Nat×Bool)}
variable {t:TypeId}{u:TypeDesc}{z:Value}{size bytes gen:Nat}
theorem NG{F:Map}(W:Rel K F s a w)(q b:Nat)(e:TypeId)(o c:List (List T))(r n:Array Value)(L:s.H q=some (.arr e gen size o))(y:F q=some (some b,gen))(p:w.heap[b]? =some (.cells r e (0,0)))
  (Q:n.size=r.size) (f:c.length*size<=r.size) (A: ∀l,l∈c->l.length=size)
  (bG: ∀(i j:Nat) (l:List T) (x:T) (u:Value),c[i]? =some l->l[j]? =some x->n[i*size+j]? =some u->(∃(G:Nat) (m:List T),o[G]? =some m/\m[j]? =some x/\r[G*size+j]? =some u)\/(∀w X,cP w X x u)):
  Rel K F {s with H:=aS s.H q (some (.arr e gen size c))} a (w.setRow b n):=by
 refine Rel.setRow W q b (.inl ⟨_,y⟩) r e p n Q (.arr e gen size c) (by rw[L];simp) ?_;have R:own K F s.H b:= .inr ⟨q,by rw[L];simp,.inl ⟨_,y⟩⟩;have B:=(W.heap q _ L).2;refine⟨B.1,.inr ⟨b,n,y,setRow_heap _ _ _ _ _ _ p,O,A,λi j l x u aI a2 a3=>?_⟩⟩;rcases bG i j l x u aI a2 a3 with ⟨G,m,D,I,M⟩|bG
 ·rcases B.2 with ⟨C,_⟩|⟨cd,N,C,v,h3,h4,U⟩
  ·rw[y] at C;cases C
  rw[y] at C;cases C;rw[p] at v;cases v;exact(U G j m x u D I M).mono ⟨rfl,rfl,rfl,aP,λk _ V=>setRow_other _ _ _ _ λY=>V (Y▸R)⟩ λ_ _ h=>h
 exact bG _ _
theorem Rel.yO(k:Rel K β s a w)(c:Nat)(e:E)(l:s.H c=some e):Rel K β {s with H:=aS s.H c (some e)} a w:=by
 have:aS s.H c (some e)=s.H:=by
  funext i;by_cases h:i=c
  ·subst h;rw[bP,l]
  rw[bQ _ _ _ _ h]
 rw[this];exact k
end steps
end
section
def df{a:Type}(f:Nat->a):List (Nat×a)->Nat->a
 | []=>f
 |(d,v)::r=>df (aS f d v) r
theorem mz{a:Type}: ∀(l:List (Nat×a)) (f:Nat->a) (r:Nat),(∀v,(r,v)∉l)->df f l r=f r
 | [],_,_,_=>rfl
 |(d,v)::l,f,r,h=>by rw[df,mz l _ r λc i=>h c (ew _ i),bQ _ _ _ _ (by intro e;subst e;exact h v (eM ..))]
theorem A5{a:Type}: ∀(l:List (Nat×a)) (f g:Nat->a) (r:Nat),(∃v,(r,v)∈l)->df f l r=df g l r
 | [],_,_,_,⟨v,h⟩=>by simp at h
 |(d,v)::l,f,g,r,h=>by
  simp only[df];by_cases i: ∃c,(r,c)∈l
  ·exact A5 l _ _ r i
  have k:r=d:=by
   obtain⟨c,bL⟩:=h;rcases dL.1 bL with e|bL
   ·cases e;rfl
   exact bz ⟨c,bL⟩ i
  subst k;rw[mz l _ r λc bL=>i ⟨c,bL⟩,mz l _ r λc bL=>i ⟨c,bL⟩,bP,bP]
structure cN where
 fg:List (Nat×V)
 hs:List (Nat×Option E):=[]
 us:List (Nat×Bool):=[]
def cN.app(e:cN)(s:S):S:={t:=df s.t e.fg,H:=df s.H e.hs,u:=df s.u e.us}
structure gz where
 fg:List Nat
 oB:List Nat:=[]
def gz.same(r:gz)(s a:S):Prop:=(∀i,i∈r.fg->s.t i=a.t i)/\ ∀k,k∈r.oB->s.H k=a.H k/\s.u k=a.u k
def hZ(K:Ctx)(ops:Array Oper)(o:Oper)(s h:S):Prop:=
 ∀i a w next Q,Rel K i s a w->(∀c d e,Rel K c h d e->next d e)->
  if Region.wanted o (yielded ops a.tmps) then o.wp K.P a w next Q\/(o.asks K.P a w/\LetsOut Q) else next (a.put o.dst undef) w
variable {K:Ctx}{ops:Array Oper}{o:Oper}{s:S}{j t:Nat}{want:Bool}
theorem hZ.of{b:S}(c:o.guard=none)(h:dO K o s b):hZ K ops o s b:=by
 intro β a w next Q d e
 rw[a1 (by simp[Region.wanted,c])];exact .inl (h β a w next Q d e)
theorem hZ.gF{s':S}(d:o.guard=some (j,want))(e:(ops[j]?).bind (·.dst)=some t)(i:s.t t= .t (.bool want))(h:dO K o s s'):hZ K ops o s s':=by
 intro β a w next Q c k
 have l:yielded ops a.tmps j=some want:=by unfold yielded;rw[e];simp[c.bool i]
 rw[a1 (by simp[Region.wanted,d,l])];exact .inl (h β a w next Q c k)
theorem hZ.out(d:o.guard=some (j,want))(e:(ops[j]?).bind (·.dst)=some t)(h:s.t t= .t (.bool (!want)))(k: ∀i,o.dst=some i->Nat.blt i K.nt=true):hZ K ops o s (s.put o.dst (.bH [])):=by
 intro l a w next Q c m
 have n:yielded ops a.tmps j=some (!want):=by unfold yielded;rw[e];simp[c.bool h]
 rw[aZ (by simp[Region.wanted,d,n])];exact m l _ w (c.put o.dst k MT)
theorem hZ.skip(d:o.guard=some (j,want))(e:(ops[j]?).bind (·.dst)=some t)(h:s.t t= .bH [])(k: ∀i,o.dst=some i->Nat.blt i K.nt=true):hZ K ops o s (s.put o.dst (.bH [])):=by
 intro l a w next Q c m
 have hw:=c.ag6 (ops:=ops) (want:=want) e h;rw[aZ (by simp[Region.wanted,d,hw])];exact m l _ w (c.put o.dst k MT)
def gK{a:Type}:List (List (Nat×a))->Nat->(Nat->Bool)->(Nat->a)->Nat->a
 | [],_,_,f=>f
 |l::bS,i,L,f=>gK bS (i+1) L (bif L i then df f l else f)
theorem Eb{a:Type}: ∀(bS:List (List (Nat×a))) (i:Nat) (L c:Nat->Bool) (f d:Nat->a) (r:Nat),f r=d r->(∀j l,bS[j]? =some l->(∃v,(r,v)∈l)->L (i+j)=c (i+j))->gK bS i L f r=gK bS i c d r
 | [],_,_,_,_,_,_,h,_=>h
 |l::bS,i,L,c,f,d,r,h,m=>by
  simp only[gK];refine Eb bS (i+1) L c _ _ r ?_ λj n o e=>by have:=m (j+1) n o e;rwa [show i+(j+1)=i+1+j by omega] at this
  by_cases k: ∃v,(r,v)∈l
  ·have:=m 0 l rfl k;rw[rm] at this;rw[<-this];cases L i with
   |true=>exact A5 l _ _ r k
   |false=>exact h
  have p: ∀g:Nat->a,df g l r=g r:=λg=>mz l g r λv e=>k ⟨v,e⟩;cases L i<;>cases c i<;>simp only[cond_true,cond_false,p]<;>exact h
theorem Mg{a:Type}: ∀(bS:List (List (Nat×a))) (i:Nat) (L:Nat->Bool) (f:Nat->a) (r k:Nat) (l:List (Nat×a)),bS[k]? =some l->(∃v,(r,v)∈l)->L (i+k)=true->
  (∀j h,k<j->bS[j]? =some h->(∃v,(r,v)∈h)->L (i+j)=false)-> ∀g:Nat->a,gK bS i L f r=df g l r
 |m::bS,i,L,f,r,0,l,d,n,o,c,g=>by
  simp at d;subst d;simp only[gK];rw[rm] at o;rw[o,cond_true,Eb bS (i+1) L (λ_=>false) (df f m) (df g m) r (A5 m _ _ r n) (λj h p e=>by
   have:=c (j+1) h O p e
   rwa [show i+(j+1)=i+1+j by omega] at this)]
  have q: ∀(bS:List (List (Nat×a))) (i:Nat) (f:Nat->a),gK bS i (λ_=>false) f=f:=by
   intro bS;induction bS with
   |nil=>intro _ _;rfl
   |cons l bS s=>intro i f;simp only[gK,cond_false];exact s _ _
  rw[q]
 |m::bS,i,L,f,r,k+1,l,d,n,o,c,g=>by
  simp at d;simp only[gK];exact Mg bS (i+1) L _ r k l d n (by rwa [show i+1+k=i+(k+1) by omega]) (λj h w p e=>by
   have:=c (j+1) h O p e
   rwa [show i+(j+1)=i+1+j by omega] at this) g
 | [],_,_,_,_,_,_,d,_,_,_,_=>by simp at d
def iA(a:List cN)(i:Nat)(L:Nat->Bool)(s:S):S:={t:=gK (a.map (·.fg)) i L s.t,H:=gK (a.map (·.hs)) i L s.H,u:=gK (a.map (·.us)) i L s.u}
def mB(a:Array Oper):Nat->Nat->Nat->Bool
 |0,_,_=>false
 |f+1,i,j=>match a[j]? with
  |none=>false
  |some o=>o.after.toList.any λe=>Region.binds .any e&&(Nat.beq e.on i||mB a f i e.on)
def p7{a:Type}(l:List (Nat×a))(r:List Nat):Bool:=l.any λp=>r.any λx=>Nat.beq p.1 x
def q0{a R:Type}(l:List (Nat×a))(m:List (Nat×R)):Bool:=l.any λp=>m.any λq=>Nat.beq p.1 q.1
def lq(e:cN)(r:gz)(a:cN)(c:gz):Bool:=
 p7 e.fg c.fg||p7 a.fg r.fg||q0 e.fg a.fg||p7 e.hs c.oB||p7 a.hs r.oB||q0 e.hs a.hs||p7 e.us c.oB||p7 a.us r.oB||q0 e.us a.us
def mI(c:Array Oper)(n:Nat):Nat->List (cN×gz)->Bool
 |_,[]=>true
 |i,(e,r)::a=>go i e r (i+1) a&&mI c n (i+1) a
where
 go (i:Nat) (e:cN) (r:gz):Nat->List (cN×gz)->Bool
  |_,[]=>true
  |j,(d,h)::a=>(!lq e r d h||mB c n i j)&&go i e r (j+1) a
def rD:Nat->List Oper->Bool
 |_,[]=>true
 |i,o::a=>o.after.toList.all (λe=> !Region.binds .any e||Nat.blt e.on i)&&rD (i+1) a
theorem MY{V:Array Oper}{n i:Nat}{e:cN}{r:gz}: ∀(l:List (cN×gz)) (j:Nat),mI.go V n i e r j l=true-> ∀(k:Nat) a c,l[k]? =some (a,c)->lq e r a c=true->mB V n i (j+k)=true
 | [],_,_,_,_,_,h,_=>by simp at h
 |(o,p)::l,j,h,0,a,c,d,m=>by
  simp at d;obtain⟨rfl,rfl⟩:=d;simp only[mI.go,Bool.and_eq_true,m,Bool.not_true,Bool.false_or] at h;exact h.1
 |(o,p)::l,j,h,k+1,a,c,d,m=>by
  simp at d;simp only[mI.go,Bool.and_eq_true] at h
  have:=MY l (j+1) h.2 k a c d m
  rwa [show j+1+k=j+(k+1) by omega] at this
theorem zj{V:Array Oper}{n:Nat}: ∀(l:List (cN×gz)) (a:Nat),mI V n a l=true-> ∀(i j:Nat) e r c d,l[i]? =some (e,r)->l[j]? =some (c,d)->i<j->lq e r c d=true->mB V n (a+i) (a+j)=true
 | [],_,_,_,_,_,_,_,_,h,_,_,_=>by simp at h
 |(q,s)::l,a,h,0,j,e,r,c,d,k,m,o,p=>by
  simp at k;obtain⟨rfl,rfl⟩:=k;simp only[mI,Bool.and_eq_true] at h;cases j with
  |zero=>omega
  |succ j=>
   simp at m
   have:=MY l (a+1) h.1 j c d m p
   rwa [show a+1+j=a+(j+1) by omega] at this
 |(q,s)::l,a,h,i+1,j,e,r,c,d,k,m,o,p=>by
  simp only[mI,Bool.and_eq_true] at h;cases j with
  |zero=>omega
  |succ j=>
   simp at k m
   have:=zj l (a+1) h.2 i j e r c d k m O p
   rwa [show a+1+i=a+(i+1) by omega,show a+1+j=a+(j+1) by omega] at this
theorem W4(e:cN)(r:gz)(d:cN)(i:gz):lq e r d i=lq d i e r:=by
 have o: ∀{k n:Type} (l:List (Nat×k)) (m:List (Nat×n)),q0 l m=q0 m l:=by
  intro k n l m;rw[gL];simp only[q0,List.any_eq_true];constructor
  ·rintro⟨p,a,q,c,h⟩;exact⟨q,c,p,a,by have:=cL h;simp[this]⟩
  rintro⟨p,a,q,c,h⟩;exact⟨q,c,p,a,by have:=cL h;simp[this]⟩
 unfold lq
 grind
def O7(c:Array Oper)(a:Array Bool):Prop:= ∀j o,c[j]? =some o->a.getD j true=true-> ∀e∈o.after,Region.binds .any e=true->a.getD e.on false=true
theorem JS{V:Array Oper}{a:Array Bool}(m:O7 V a): ∀(f i j:Nat),mB V f i j=true->(∀o,V[j]? =some o-> ∀e∈o.after,Region.binds .any e=true->a.getD e.on false=true)->a.getD i false=true
 |0,_,_,h,_=>by simp[mB] at h
 |f+1,i,j,h,n=>by
  unfold mB at h;cases k:V[j]? with
  |none=>rw[k] at h;simp at h
  |some o=>
   rw[k] at h;simp only[List.any_eq_true,Bool.and_eq_true,Bool.or_eq_true] at h;obtain⟨e,p,q,c⟩:=h;have b8:=n o k e (by simpa using p) q;rcases c with c|c
   ·have:=cL c;rw[<-this];exact b8
   refine JS m f i e.on c λr l=>m e.on r l ?_;rw[rn] at b8⊢;cases d:a[e.on]? with
   |none=>rw[d] at b8;simp at b8
   |some b=>rw[d] at b8;simpa using b8
def wo(K:Ctx)(a:Array Oper):List Oper->List (cN×gz)->S->(S->Prop)->Prop
 | [],[],s,Q=>Q s
 |o::os,(e,r)::d,s,Q=>(∀c,r.same c s->hZ K a o c (e.app c))/\wo K a os d (e.app s) Q
 |_,_,_,_=>False
end
set_option linter.unusedVariables false
set_option linter.unusedSimpArgs false
section
theorem Lw{a:Type}: ∀(bS:List (List (Nat×a))) (i:Nat) (L:Nat->Bool) (f:Nat->a),gK bS (i+1) L f=gK bS i (λj=>L (j+1)) f
 | [],_,_,_=>rfl
 |l::bS,i,L,f=>by simp only[gK];exact Lw bS (i+1) L _
theorem Fi(e:cN)(a:List cN)(L:Nat->Bool)(s:S):iA (e::a) 0 L s=iA a 0 (λj=>L (j+1)) (bif L 0 then e.app s else s):=by unfold iA;simp only[List.map_cons,gK,Nat.zero_add,Lw];cases L 0<;>rfl
theorem zs{K:Ctx}{V:Array Oper}: ∀(l:List Oper) (es:List (cN×gz)) (s:S) (Q:S->Prop),wo K V l es s Q->
  l.length=es.length/\Q (iA (es.map (·.1)) 0 (λ_=>true) s)/\
  ∀(i:Nat) o e r,l[i]? =some o->es[i]? =some (e,r)-> ∀c,r.same c (iA (es.map (·.1)) 0 (λj=>Nat.blt j i) s)->hZ K V o c (e.app c)
 | [],[],s,Q,h=>⟨rfl,h,λi o e r d=>by simp at d⟩
 |o::os,(e,r)::es,s,Q,h=>by
  obtain⟨p,q⟩:=h;obtain⟨aI,a2,a3⟩:=zs os es _ Q q;refine⟨by simp[aI],?_,?_⟩
  ·simp only[List.map_cons,Fi,cond_true];exact a2
  intro i w x y d k c a;cases i with
  |zero=>
   simp at d k;obtain⟨rfl,rfl⟩:=k;subst d;refine p c ?_
   have:iA (List.map (·.1) ((e,r)::es)) 0 (λj=>Nat.blt j 0) s=s:=by
    simp only[List.map_cons,Fi];have m: ∀{n:Type} (bS:List (List (Nat×n))) (i:Nat) (f:Nat->n),gK bS i (λj=>Nat.blt (j+1) 0) f=f:=by
     intro n bS;induction bS with
     |nil=>intro _ _;rfl
     |cons l bS z=>intro i f;simp only[gK];exact z _ _
    show iA (es.map (·.1)) 0 (λj=>Nat.blt (j+1) 0) s=s;unfold iA;simp only[m]
   rw[this] at a;exact a
  |succ i=>
   simp at d k;refine a3 i w x y d k c ?_;simp only[List.map_cons,Fi] at a;exact a
 | [],_::_,_,_,h=>h.elim
 |_::_,[],_,_,h=>h.elim
variable {a R:Type}{r:gz}{x n i:Nat}{v:a}{e:cN}
theorem Fm{l:List (Nat×a)}{r:List Nat}(h:(x,v)∈l)(c:x∈r):p7 l r=true:=by unfold p7;rw[iU];exact⟨(x,v),h,by rw[iU];exact⟨x,c,aP⟩⟩
theorem Et{l:List (Nat×a)}{m:List (Nat×R)}{c:R}(h:(x,v)∈l)(d:(x,c)∈m):q0 l m=true:=by unfold q0;rw[iU];exact⟨(x,v),h,by rw[iU];exact⟨(x,c),d,aP⟩⟩
section
variable {K:Ctx}{l:List Oper}{es:List (cN×gz)}{s:S}
theorem FH{V:Array Oper}(proj:cN->List (Nat×R))(G:mI V n 0 es=true){a:Array Bool}(H:es[i]? =some (e,r))(f:Nat->R)(x:Nat)
  (k: ∀c d v,(x,v)∈proj c->lq e r c d=true)
  (m: ∀j,mB V n j i=true->a.getD j false=true) (o: ∀j,j<es.length->mB V n i j=true->a.getD j true=false) (y:a.getD i true=false):
  gK ((es.map (·.1)).map proj) 0 (λj=>a.getD j true) f x=gK ((es.map (·.1)).map proj) 0 (λj=>Nat.blt j i) f x:=by
 refine Eb _ 0 _ _ f f x rfl ?_;intro j W h ⟨v,L⟩;rw[dt];simp only[List.map_map,List.getElem?_map] at h;cases q:es[j]? with
 |none=>rw[q] at h;cases h
 |some p=>
  obtain⟨c,d⟩:=p;rw[q] at h;simp at h;subst h;have z:j<es.length:=(bU.1 q).1;rcases Nat.lt_trichotomy j i with w|rfl|A
  ·have aY:=zj es 0 G j i c d e r q H w (by rw[W4];exact k c d v L);rw[dt,dt] at aY;have B:=m j aY;have Q:Nat.blt j i=true:=by simpa[Nat.blt_eq] using w
   rw[Q];rw[rn] at B⊢;cases C:a[j]? with
   |none=>rfl
   |some b=>rw[C] at B;simpa using B
  ·rw[y];symm;cases aY:Nat.blt j j with
   |false=>rfl
   |true=>simp[Nat.blt_eq] at aY
  have aY:=zj es 0 G i j e r c d H q A (k c d v L);rw[dt,dt] at aY;rw[o j z aY];symm;cases F:Nat.blt j i with
  |false=>rfl
  |true=>simp[Nat.blt_eq] at F;omega
theorem Fy{V:Array Oper}(proj:cN->List (Nat×R))(L:mI V n 0 es=true){a:Array Bool}(F:es[i]? =some (e,r))(f:Nat->R)(w:i<a.size)
  (y: ∀x h q v Q,(x,v)∈proj h->(x,Q)∈proj e->lq e r h q=true) (k: ∀j,j<es.length->mB V n i j=true->a.getD j true=false) (W:a.getD i true=false):
  df (gK ((es.map (·.1)).map proj) 0 (λj=>a.getD j true) f) (proj e)=gK ((es.map (·.1)).map proj) 0 (λj=>(a.setIfInBounds i true).getD j true) f:=by
 funext x;have m: ∀j,j≠i->(a.setIfInBounds i true).getD j true=a.getD j true:=λj z=>by
  simp[Array.getD_eq_getD_getElem?,Array.getElem?_setIfInBounds_ne (Ne.symm z)]
 have A:(a.setIfInBounds i true).getD i true=true:=by
  simp[Array.getD_eq_getD_getElem?,w]
 have B:((es.map (·.1)).map proj)[i]? =some (proj e):=by simp[F]
 by_cases G: ∃v,(x,v)∈proj e
 ·obtain⟨H,o⟩:=G;symm;refine Mg _ 0 _ f x i (proj e) B ⟨H,o⟩ (by rw[dt];exact A) ?_ _;intro j X z d ⟨v,C⟩;rw[dt,m j O];simp only[List.map_map,List.getElem?_map] at d;cases c:es[j]? with
  |none=>rw[c] at d;cases d
  |some p=>
   obtain⟨h,q⟩:=p;rw[c] at d;simp at d;subst d;have aY:=zj es 0 L i j e r h q F c z (y x h q v H C o);rw[dt,dt] at aY;exact k j (bU.1 c).1 aY
 rw[mz _ _ _ λv C=>G ⟨v,C⟩];refine Eb _ 0 _ _ f f x rfl ?_
 grind
theorem LD: ∀(l:List Oper) (a:Nat),rD a l=true-> ∀(i:Nat) o,l[i]? =some o-> ∀e∈o.after,Region.binds .any e=true->e.on<a+i
 | [],_,_,_,_,h=>by simp at h
 |o::l,a,h,0,n,c=>by
  simp at c;subst c;intro e k m;simp only[rD,Bool.and_eq_true,List.all_eq_true,Bool.or_eq_true] at h;rcases h.1 e (by simpa using k) with d|d
  ·rw[m] at d;cases d
  simpa[Nat.blt_eq] using d
 |o::l,a,h,i+1,n,c=>by
  simp at c;simp only[rD,Bool.and_eq_true] at h;intro e k m
  have:=LD l (a+1) h.2 i n c e k m;omega
theorem ZO{Q:S->Prop}{wP:Exit->Act->World->Prop}(hp:mI l.toArray l.length 0 es=true)(he:rD 0 l=true)(cu:wo K l.toArray l es s Q)
  (H0: ∀D a w,Rel K D (iA (es.map (·.1)) 0 (λ_=>true) s) a w->wP .normal a w):
  ∀(d:Nat) (c:Array Bool) (A:List Nat),c.size=l.length->A.Nodup->A.length=d->(∀i,c.getD i true=false↔i∈A)->O7 l.toArray c->
   ∀D a w,Rel K D (iA (es.map (·.1)) 0 (λj=>c.getD j true) s) a w->wpAny K.P .any l.toArray wP d c a w:=by
 obtain⟨hlen,_,aeP⟩:=zs l es s Q cu
 -- if nothing is ready, all is done
 have hall: ∀(c:Array Bool) (A:List Nat),c.size=l.length->(∀i,c.getD i true=false↔i∈A)->A≠[]->Region.ready .any l.toArray c≠[]:=by
  intro c A R E I;have key: ∀n,(∃i,i∈A/\i<=n)-> ∃m,m∈A/\ ∀j,j<m->j∉A:=by
   intro n;induction n with
   |zero=>rintro⟨i,aE,hle⟩;exact⟨0,by rwa [show i=0 by omega] at aE,λj W=>O⟩
   |succ n my=>
    rintro⟨i,aE,hle⟩;by_cases h: ∃i,i∈A/\i<=n
    ·exact my h
    have:i=n+1:=by
     rcases Nat.lt_or_ge i (n+1) with hlt|ji
     ·exact bz ⟨i,aE,O⟩ h
     omega
    subst this;exact⟨n+1,aE,λj W aeu=>h ⟨j,aeu,O⟩⟩
  obtain⟨x,hx⟩:=Dw A I;obtain⟨m,hm,ahI⟩:=key x ⟨x,hx,cJ _⟩;have aeG:=(E m).2 hm;have Qp:m<l.length:=by
   grind
  intro X
  have:m∈Region.ready .any l.toArray c:=by
   rw[mem_ready];refine⟨aeG,l[m],by simp[Qp],λe ad' b=>?_⟩;have hlt:=LD l 0 he m l[m] (bo Qp) e ad' b
   grind
  grind
 have M: ∀(c:Array Bool),(∀i,c.getD i true=true)->iA (es.map (·.1)) 0 (λj=>c.getD j true) s=iA (es.map (·.1)) 0 (λ_=>true) s:=by
  grind
 intro d;induction d with
 |zero=>
  intro c A R N B E bG D a w bR;have X:A=[]:=l1 B;subst X;have F: ∀i,c.getD i true=true:=λi=>by
   cases h:c.getD i true with
   |true=>rfl
   |false=>have:=(E i).1 h;simp at this
  refine⟨?_,H0 D a w (by rw[<-M c F];exact bR)⟩;cases aeZ:Region.ready .any l.toArray c with
  |nil=>rfl
  |cons x xs=>
   have:x∈Region.ready .any l.toArray c:=by rw[aeZ];simp
   rw[mem_ready] at this;rw[F x] at this;exact bz this.1 aP
 |succ d my=>
  intro c A R N B E bG D a w bR;have I:A≠[]:=by intro e;subst e;simp at B
  refine⟨λh=>bz h (hall c A R E I),λi aE=>?_⟩;obtain⟨y,o,ec,f⟩:=mem_ready.1 aE;have Cc:i<l.length:=by
   rcases Nat.lt_or_ge i l.length with h|h
   ·exact h
   rw[Array.getElem?_eq_none (by simpa using h)] at ec;cases ec
  have sy:l[i]? =some o:=by simpa using ec
  obtain⟨⟨e,r⟩,C⟩: ∃p,es[i]? =some p:=⟨es[i]' O,by simp[show i<es.length by omega]⟩
  have G: ∀j,mB l.toArray l.length j i=true->c.getD j false=true:=λj b=>JS bG _ j i b λCO z=>by rw[ec] at z;cases z;exact f
  have q: ∀j,j<es.length->mB l.toArray l.length i j=true->c.getD j true=false:=λj W b=>by
   cases aeB:c.getD j true with
   |false=>rfl
   |true=>
    have L:=JS bG _ i j b λCO z=>bG j CO z aeB;have ae7:i<c.size:=O
    simp only[Array.getD_eq_getD_getElem?,Array.getElem?_eq_getElem ae7,Option.getD_some] at L y;rw[y] at L;cases L
  have T:r.same (iA (es.map (·.1)) 0 (λj=>c.getD j true) s) (iA (es.map (·.1)) 0 (λj=>Nat.blt j i) s):=by
   refine⟨λx hx=>?_,λk hk=>⟨?_,?_⟩⟩
   ·exact FH (·.fg) hp C s.t x (λg yH v bL=>by simp[lq,Fm bL hx]) G q y
   ·exact FH (·.hs) hp C s.H k (λg yH v bL=>by simp[lq,Fm bL hk]) G q y
   exact FH (·.us) hp C s.u k (λg yH v bL=>by simp[lq,Fm bL hk]) G q y
  have U:e.app (iA (es.map (·.1)) 0 (λj=>c.getD j true) s)=iA (es.map (·.1)) 0 (λj=>(c.setIfInBounds i true).getD j true) s:=by
   unfold cN.app iA;simp only[S.mk.injEq];refine⟨?_,?_,?_⟩
   ·exact Fy (·.fg) hp C s.t O (λx g yH v c9 L h2=>by simp[lq,Et h2 L]) q y
   ·exact Fy (·.hs) hp C s.H O (λx g yH v c9 L h2=>by simp[lq,Et h2 L]) q y
   exact Fy (·.us) hp C s.u O (λx g yH v c9 L h2=>by simp[lq,Et h2 L]) q y
  have Cf:=aeP i o e r sy C _ T;have aeh: ∀V tM w',Rel K V (e.app (iA (es.map (·.1)) 0 (λj=>c.getD j true) s)) tM w'->wpAny K.P .any l.toArray wP d (c.setIfInBounds i true) tM w':=by
   intro V tM w' Qz;rw[U] at Qz;have aen:=(E i).1 y;refine my (c.setIfInBounds i true) (A.erase i) (by simpa using R) (N.erase i) (by rw[List.length_erase_of_mem aen];omega) (λj=>?_) ?_ V tM w' Qz
   ·rw[N.mem_erase_iff];by_cases W:j=i
    ·subst W;simp[Array.getD_eq_getD_getElem?,show j<c.size by omega]
    simp only[Array.getD_eq_getD_getElem?,Array.getElem?_setIfInBounds_ne (Ne.symm W)]
    have:=E j;rw[rn] at this;rw[this];simp[W]
   intro j CO z W g Qh b;by_cases Qk:j=i
   ·subst Qk;rw[ec] at z;cases z;exact getD_set_true (f g Qh b)
   have L:c.getD j true=true:=by
    simpa only[Array.getD_eq_getD_getElem?,Array.getElem?_setIfInBounds_ne (Ne.symm Qk)] using W
   exact getD_set_true (bG j CO z L g Qh b)
  have Y:=Cf D a w (wpAny K.P .any l.toArray wP d (c.setIfInBounds i true)) wP bR aeh;unfold wpOp;rw[ec];exact Y
theorem M5{Q:Exit->S->Prop}(d:List (cN×gz))(B:K.P.follows .mixedOrders=true)(C:mI l.toArray l.length 0 d=true)(F:rD 0 l=true)
  (e:wo K l.toArray l d s λG=>Q .normal G):cD K (.region n l.toArray true) s Q:=by
 intro k a w b m H;obtain⟨_,R,_⟩:=zs l d s _ e;refine wp_region_any B ?_;have p:Rel K k s a {w with drawn:=w.drawn+1}:=wk m;have W:iA (d.map (·.1)) 0 (λj=>(Array.replicate l.toArray.size false).getD j true) s=s:=by
  have z:=(zs l d s _ e).1;have c: ∀{q:Type} (bS:List (List (Nat×q))) (L:Nat->Bool) (i:Nat) (f:Nat->q),(∀j,j<bS.length->L (i+j)=false)->gK bS i L f=f:=by
   intro q bS L;induction bS with
   |nil=>intro _ _ _;rfl
   |cons x bS X=>
    intro i f h;simp only[gK];have A:=h 0 aP;rw[rm] at A;rw[A,cond_false];exact X (i+1) f λj r=>by have:=h (j+1) bN;rwa [show i+(j+1)=i+1+j by omega] at this
  have y: ∀j,j<d.length->(Array.replicate l.toArray.size false).getD (0+j) true=false:=λj r=>by
   rw[dt,rn,Array.getElem?_replicate,a1 bN];rfl
  unfold iA;rw[c _ _ _ _ (by simpa using y),c _ _ _ _ (by simpa using y),c _ _ _ _ (by simpa using y)]
 refine ZO C F e (λk a w m=>H _ _ _ _ _ R m) l.toArray.size (Array.replicate l.toArray.size false) (List.range l.length) aP List.nodup_range aP (λi=>?_) ?_ k a _ (by rw[W];exact p)
 ·rw[rn,Array.getElem?_replicate,pU]
  grind
 intro j o g r;rw[rn,Array.getElem?_replicate] at r
 grind
end
end
abbrev Y(n:Int):V:= .t (.int .i64 n)
abbrev vX(b:UInt8):V:= .t (.int .u8 (b.toNat:Nat))
abbrev aM(b:Bool):V:= .t (.bool b)
abbrev bC(s:List UInt8):V:= .t (.str s)
abbrev RP(a:List (List T)):V:= .t (.aA a)
abbrev im(n:Int):List T:=[.int .i64 n]
abbrev nG(b:UInt8):List T:=[.int .u8 (b.toNat:Nat)]
abbrev abD(b:Bool):List T:=[.bool b]
abbrev ab'(s:List UInt8):List T:=[.str s]
def ig(P:Program)(f:FuncId):Prop:= ∃a,P.funcs[f]? =some a/\(a.name== "runtime.NumGoroutine")=false/\a.body.isNone=false
section
variable {K:Ctx}{s:S}{Q:Exit->S->Prop}
variable {l:List Oper}
theorem KV{V:Array Oper}{Q:S->Prop}{b:S}(i:s.le K b)(h:qi K V l b Q):qi K V l s Q:=
  λk a w m n o=>let ⟨c,e⟩:=i k a w n;h c a w m e o
theorem S5{n:Nat}(k:S)(h:qi K l.toArray l s λm=>m.le K k)(o:Q .normal k):cD K (.region n l.toArray false) s Q:=by intro p a w q r x;refine wp_region_lit (h p a w q r λm c y A B e=>?_);obtain⟨C,i⟩:=B c y A e;exact x _ _ _ _ _ o i
theorem b4.eq{P:Program}{H:Nat->Option E}{o:Oper}{U:List V}{v c9:V}(h:b4 P H o U v)(e:v=c9):b4 P H o U c9:=e▸h
section
variable {K:Ctx}{s:S}{d:Option Tmp}{ty:TypeId}{pos:String}{af:Array Edge}{g:Option (Nat×Bool)}
variable {t:TypeId}{u:TypeDesc}{z:Value}{gen size bytes:Nat}
end
end
theorem j6(b:Bool){P:Prop}(a:b=false->P)(c:b=true->P):P:=by
 cases b with
 |false=>exact a rfl
 |true=>exact c rfl
theorem fh.of_eq{Y U:List V}(h:Y=U):fh Y U:=h▸fh.refl Y
section
variable {K:Ctx}{s:S}{ops:Array Oper}{rest:List Oper}{Q:S->Prop}{d:Nat}{ty:TypeId}{pos:String}{af:Array Edge}{j:Nat}{want:Bool}{t:Nat}
end
section
mutual
def V.dp(L:List Nat):V->V
  | .ref id a=> .ref (L.getD id 0) a
  | .a8 id gen c a d=> .a8 (L.getD id 0) gen c a d
  | .cw id gen c i a=> .cw (L.getD id 0) gen c i a
  | .agg cs=> .agg (iO L cs)
  | .bH cs=> .bH (iO L cs)
  | .fn f cs=> .fn f (iO L cs)
  | .t x=> .t x
  | .aL x=> .aL x
  | .cY=> .cY
def iO(L:List Nat):List V->List V
  | []=>[]
  |c::cs=>c.dp L::iO L cs
end
def E.dp(L:List Nat):E->E
  | .cells cs=> .cells (iO L cs)
  | .arr ty gen c a=> .arr ty gen c a
  | .a7 d m gen a e=> .a7 d m gen a (e.map λh=>(h.1,h.2.1,h.2.2.dp L))
theorem pv{L:List Nat}: ∀cs:List V,(iO L cs).length=cs.length
  | []=>rfl
  |c::cs=>by simp[iO,pv cs]
theorem FG{L:List Nat}: ∀(cs:List V) (i:Nat),(iO L cs)[i]? =(cs[i]?).map (V.dp L)
  | [],_=>by simp[iO]
  |c::cs,0=>by simp[iO]
  |c::cs,i+1=>by simp[iO,FG cs i]
variable {L:List Nat}{w:World}{X:Nat->Prop}
theorem zO{U:List V}{i:Nat}{c:V}(h:(iO L U)[i]? =some c): ∃a,U[i]? =some a/\c=a.dp L:=by
  rw[FG] at h
  grind
theorem bk.dp{β G:Map}{v:V}{u:Value}(h:bk β w X v u)(e: ∀k x,β k=some x->G (L.getD k 0)=some x):bk G w X (v.dp L) u:=by
  induction h with
  |t x v h=>exact .t x v h
  |agg cs s o _ y=>exact .agg _ s (by rw[pv];exact o) (λi c u p z=>by obtain⟨A,B,rfl⟩:=zO p;exact y i A u B z)
  |bH cs s o _ y=>exact .bH _ s (by rw[pv];exact o) (λi c u p z=>by obtain⟨A,B,rfl⟩:=zO p;exact y i A u B z)
  |ref id d b l=>exact .ref _ d b (e _ _ l)
  |aL cells b d f l H p K=>exact .aL cells b d f l H p K
  |a8 id gen a d r C b n ty m l Q R W o j=>exact .a8 _ gen a d r C b n ty m (e _ _ l) Q R W o j
  |hi id gen a m l=>exact .hi _ gen a m (e _ _ l)
  |k7 id gen a d r v q g F l m=>exact .k7 _ gen a d r v q g F (e _ _ l) m
  |cw id gen a i d b m l=>exact .cw _ gen a i d b m (e _ _ l)
  |lD id gen a i d v q g F l m=>exact .lD _ gen a i d v q g F (e _ _ l) m
  |fn f cs s o _ y=>exact .fn f _ s (by rw[pv];exact o) (λi c u p z=>by obtain⟨A,B,rfl⟩:=zO p;exact y i A u B z)
  |cY v=>exact .cY v
def jn(L:List Nat)(a:Map):Map:=⟨λk=>(L[k]?).bind a,λk b=> ∃id,L[k]? =some id/\a.n id b⟩
def d5:Nat->(Nat->Bool)
  |0=>gr
  |n+1=>aS (d5 n) n true
theorem jd: ∀{n k:Nat},d5 n k=true↔k<n
  |0,k=>by simp[d5,gr]
  |n+1,k=>by
    by_cases h:k=n
    · subst h;simp[d5,bP]
    · rw[d5,bQ _ _ _ _ h,jd];omega
mutual
theorem bk.pS{β:Map}{w:World}{X:Nat->Prop}{L:List Nat}: ∀(v:V) (u:Value),bk β w X (v.dp L) u->v.ok (d5 L.length)=true->bk (jn L β) w X v u
  | .t x,u,h,_=>by
    simp only[V.dp] at h;cases h with|t _ _ h=>exact .t _ _ h
  | .aL x,u,h,_=>by
    simp only[V.dp] at h;cases h with|aL _ b l f a F r s=>exact .aL _ b l f a F r s
  | .cY,u,_,_=> .cY u
  | .ref id l,u,h,d=>by
    have e:id<L.length:=jd.1 (by simpa[V.ok] using d);have o:jn L β id=β (L.getD id 0):=by simp[jn,List.getElem?_eq_getElem e]
    simp only[V.dp] at h;cases h with|ref _ _ b a=>exact .ref _ _ b (by rw[o];exact a)
  | .a8 id gen y l G,u,h,d=>by
    have e:id<L.length:=jd.1 (by simpa[V.ok] using d);have o:jn L β id=β (L.getD id 0):=by simp[jn,List.getElem?_eq_getElem e]
    simp only[V.dp] at h;cases h with
    |a8 _ _ _ _ _ A b n ty m a H k K d B=>exact .a8 _ _ _ _ _ A b n ty m (by rw[o];exact a) H k K d B
    |hi _ _ _ m a=>exact .hi _ _ _ m (by rw[o];exact a)
    |k7 _ _ _ _ _ _ q g C a m=>exact .k7 _ _ _ _ _ _ q g C (by rw[o];exact a) m
  | .cw id gen y i l,u,h,d=>by
    have e:id<L.length:=jd.1 (by simpa[V.ok] using d);have o:jn L β id=β (L.getD id 0):=by simp[jn,List.getElem?_eq_getElem e]
    simp only[V.dp] at h;cases h with
    |cw _ _ _ _ _ b m a=>exact .cw _ _ _ _ _ b m (by rw[o];exact a)
    |lD _ _ _ _ _ _ q g C a m=>exact .lD _ _ _ _ _ _ q g C (by rw[o];exact a) m
  | .agg cs,u,h,d=>by
    simp only[V.dp] at h;cases h with
    |agg _ p k s=>exact .agg _ p (by rw[pv] at k;exact k) (λi c u r z=>Ag cs (λi=>p[i]?) (by simpa[V.ok] using d) s i c u r z)
  | .bH cs,u,h,d=>by
    simp only[V.dp] at h;cases h with
    |bH _ p k s=>exact .bH _ p (by rw[pv] at k;exact k) (λi c u r z=>Ag cs (λi=>p[i]?) (by simpa[V.ok] using d) s i c u r z)
  | .fn f cs,u,h,d=>by
    simp only[V.dp] at h;cases h with
    |fn _ _ p k s=>exact .fn _ _ p (by rw[pv] at k;exact k) λi c u r z=>Ag cs (λi=>p[i]?) (by simpa[V.ok] using d) s i c u r z
theorem Ag{G:Map}{w:World}{X:Nat->Prop}{L:List Nat}: ∀(cs:List V) (A:Nat->Option Value),gv (d5 L.length) cs=true->
    (∀i c u,(iO L cs)[i]? =some c->A i=some u->bk G w X c u)-> ∀(i:Nat) c u,cs[i]? =some c->A i=some u->bk (jn L G) w X c u
  | [],_,_,_,_,_,_,h,_=>by simp at h
  |c::cs,A,a,h,0,_,u,d,e=>by
    simp at d;subst d;simp[gv] at a;exact bk.pS c u (h 0 _ u (by simp[iO]) e) a.1
  |c::cs,A,a,h,i+1,k,u,d,e=>by simp at d;simp[gv] at a;exact Ag cs (λi=>A (i+1)) a.2 (λi c u l m=>h (i+1) c u (by simpa[iO] using l) m) i k u d e
end
theorem dj.pS{β:Map}{w:World}{X:Nat->Prop}{L:List Nat}: ∀{a:List V} {c:List Value},dj β w X (iO L a) c->gv (d5 L.length) a=true->dj (jn L β) w X a c
  | [],[],_,_=>trivial
  |v::a,u::c,h,d=>by
    simp[gv] at d;exact⟨bk.pS v u h.1 d.1,dj.pS h.2 d.2⟩
  | [],_::_,h,_=>h.elim
  |_::_,[],h,_=>h.elim
def eN:List E->Nat->(Nat->Option E)
  | [],_=>oX
  |e::a,k=>aS (eN a (k+1)) k (some e)
theorem L5: ∀(a:List E) (k i:Nat),eN a k (k+i)=a[i]?
  | [],_,_=>by simp[eN,oX]
  |e::a,k,0=>by rw[rm,eN,bP];simp
  |e::a,k,i+1=>by rw[eN,bQ _ _ _ _ O,show k+(i+1)=(k+1)+i by omega,L5 a (k+1) i];simp
theorem yV(a:List E)(i:Nat):eN a 0 i=a[i]? :=by have:=L5 a 0 i;rwa [dt] at this
def lW(X:Nat->Prop)(a:Map)(H:Nat->Option E)(b:Nat):Prop:=X b\/ ∃id,H id≠none/\At a id b
structure zB (G:eY) (gF:List E) (β:Map) (w:World) (X:Nat->Prop):Prop where
  dF: ∀k,gF.length<=k->β k=none
  ea: ∀k b,gF.length<=k-> ¬β.n k b
  inj: ∀id j4 b,At β id b->At β j4 b->id=j4
  place: ∀k b,At β k b->b<w.heap.size/\ ¬X b/\G.yt<=b
  heap: ∀k e,gF[k]? =some e->cC β w (lW X β (eN gF 0)) k e
structure Left (fW β:Map) (gF out:List E) (w w':World) (X:Nat->Prop) (r:V) (u:Value):Prop where
  ext:Ext (λb=> ∃k,At fW k b) w w'
  base:kh gF.length fW β w.heap.size
  iT:Shaped fW w w'
  dF: ∀k,out.length<=k->β k=none
  ea: ∀k b,out.length<=k-> ¬β.n k b
  inj: ∀id j4 b,At β id b->At β j4 b->id=j4
  fresh: ∀k b,At β k b->((∃bZ,bZ<gF.length/\At fW bZ b)\/w.heap.size<=b)/\b<w'.heap.size
  heap: ∀k e,out[k]? =some e->cC β w' (lW X β (eN out 0)) k e
  res:bk β w' (lW X β (eN out 0)) r u
def Kp(P:Program)(G:eY)(f:FuncId)(c:List E)(args:List V){ι:Type}(k:ι->Prop)(r:ι->V)(d:ι->List E):Prop:=
  ∀(w:World) (X:Nat->Prop) (a:Map) (h:List Value),G.ok w->(∀b,X b->b<w.heap.size)->zB G c a w X->dj a w (lW X a (eN c 0)) args h->
    Calls P f h.toArray w λe l=> ∃u i m,e= .returned u/\k i/\Left a m c (d i) w l X (r i) u
def Ctx.dC(P:Program)(G:eY)(w:World)(X:Nat->Prop)(c6:Nat)(fW:Map)(nt:Nat):Ctx:={P,G,w0:=w,X,c6,fW,nt}
def lY(a:List E)(args:List V):S:={t:=tH args 0,H:=eN a 0,u:=d5 a.length}
theorem Rel.lY{P:Program}{G:eY}{nt:Nat}{a:List E}{S:Map}{args:List V}{c:List Value}(q:G.ok w)(r: ∀b,X b->b<w.heap.size)(d:zB G a S w X)
    (h:dj S w (lW X S (eN a 0)) args c) (x:c.length<=nt):
    Rel (Ctx.dC P G w X a.length S nt) S (Lift.lY a args) {tmps:=c.toArray++Array.replicate (nt-c.toArray.size) undef,defers:=[]} w:=by
  have k: ∀id b,At S id b->id<a.length:=by
    rintro id b (⟨g,h⟩|h)
    · apply vT;intro l;rw[d.dF id l] at h;cases h
    · exact vT λl=>d.ea id b l h
  refine {ext:=Ext.refl _ _,ot:=q,oC:= ?_,iz:= ?_,base:=kh.refl _ _ _,iT:=Shaped.refl _ _,low:=λid h=>jd.2 h,dF:= ?_,ea:= ?_,
           qL:=d.inj,inj:=d.inj,fresh:=λid b h=>⟨.inl ⟨id,k id b h,h⟩,(d.place id b h).1⟩,heap:= ?_,cW:= ?_,nt:= ?_,defers:=rfl}
  · rintro b ⟨id,_,h⟩;exact(d.place id b h).2.2
  · intro b p;exact⟨r b p,λ⟨id,_,h⟩=>(d.place id b h).2.1 p⟩
  · intro id hid;apply d.dF;apply Nat.le_of_not_lt;intro k;have m:=jd.2 k;have n:d5 a.length id=false:=hid
    grind
  · intro id b hid h;have m:=jd.2 (k id b (.inr h));have n:d5 a.length id=false:=hid
    grind
  · intro id e s;have o:a[id]? =some e:=by rw[<-yV];exact s
    refine⟨jd.2 ?_,d.heap id e o⟩
    grind
  · intro i;have m:=En args c 0 h i;rw[dt] at m;have n:(c.toArray++Array.replicate (nt-c.toArray.size) undef).getD i undef=c.getD i undef:=by
      simp only[Array.getD_eq_getD_getElem?,List.getD_eq_getElem?_getD,Array.getElem?_append]
      grind
    simp only[n];exact m
  · simp[Ctx.dC];omega
end
section
def k9{a:Type}(f:Nat->a):List Nat->(Nat->a)->(Nat->a)
 | [],_=>f
 |l::L,g=>aS (k9 f L λk=>g (k+1)) l (g 0)
theorem ns{a:Type}{f:Nat->a}: ∀{L:List Nat} {g:Nat->a} {id:Nat},id∉L->k9 f L g id=f id
 | [],_,_,_=>rfl
 |l::L,g,id,h=>by simp at h;rw[k9,bQ _ _ _ _ h.1];exact ns h.2
theorem oA{a:Type}{f:Nat->a}: ∀{L:List Nat} {g:Nat->a} {k id:Nat},L.Nodup->L[k]? =some id->k9 f L g id=g k
 | [],_,_,_,_,h=>by simp at h
 |l::L,g,0,id,_,h=>by simp at h;subst h;rw[k9,bP]
 |l::L,g,k+1,id,c,h=>by simp at h c;have d:id≠l:=λe=>c.1 (e▸bE h);rw[k9,bQ _ _ _ _ d];exact oA (g:=λk=>g (k+1)) c.2 h
theorem E': ∀{L:List Nat} {i j id:Nat},L.Nodup->L[i]? =some id->L[j]? =some id->i=j
 | [],_,_,_,_,h,_=>by simp at h
 |l::L,0,0,_,_,_,_=>rfl
 |l::L,0,j+1,id,a,h,c=>by simp at h c a;subst h;exact bz (bE c) a.1
 |l::L,i+1,0,id,a,h,c=>by simp at h c a;subst c;exact bz (bE h) a.1
 |l::L,i+1,j+1,id,a,h,c=>by simp at h c a;rw[E' a.2 h c]
def S.after(s:S)(L:List Nat)(a:List E):S:=
 {t:=s.t,H:=k9 s.H L λk=>(a[k]?).map (E.dp L),u:=k9 s.u L (λ_=>true)}
def ED(K:Ctx)(o:Oper)(s:S){R:Type}(h:R->Prop)(k:R->S):Prop:=
 ∀l a w next Q,Rel K l s a w->(∀i,h i-> ∀c d e,Rel K c (k i) d e->next d e)->o.wp K.P a w next Q
variable {β:Map}{w:World}{X:Nat->Prop}{L:List Nat}{k:Nat}{e:E}{f:FuncId}
theorem cC.pS{id:Nat}(h:cC β w X id (e.dp L))(C:L[k]? =some id)(G:e.ok (d5 L.length)=true):cC (jn L β) w X k e:=by
 have l:jn L β k=β id:=by simp[jn,C]
 cases e with
 |cells cs=>
  obtain⟨b,o,ty,a,d,s,F⟩:=h;rw[pv] at s;refine⟨b,o,ty,by rw[l];exact a,d,s,λi c u y R=>?_⟩;exact bk.pS c u (F i _ u (by rw[FG,y];rfl) R) (vO G y)
 |arr ty gen H p=>
  refine⟨h.1,?_⟩;rcases h.2 with ⟨a,d⟩|⟨b,o,a,d⟩
  ·exact .inl ⟨by rw[l];exact a,d⟩
  exact .inr ⟨b,o,by rw[l];exact a,d⟩
 |a7 N m gen p P=>
  refine⟨h.1,?_⟩;have K: ∀c,(jn L β).n k c↔β.n id c:=λc=>⟨λ⟨W,a,d⟩=>by rw[C] at a;cases a;exact d,λh=>⟨id,C,h⟩⟩
  rcases h.2 with ⟨a,d,f⟩|⟨b,o,B,a,d,s,F,Q,g,t,D⟩
  ·exact .inl ⟨by rw[l];exact a,d,λc y=>f c ((K c).1 y)⟩
  refine .inr ⟨b,o,B,by rw[l];exact a,d,s,F,λi j q x u aI a2 a3=>⟨λv z=>?_,λI=>?_⟩,g,t,λc=>(K c).trans (D c)⟩
  ·have A:=(Q i j q x u aI a2 a3).1 (v.dp L) (ey.2 ⟨_,z,rfl⟩);exact⟨bk.pS v u A.1 (FI G z),A.2⟩
  refine(Q i j q x u aI a2 a3).2 λv z=>?_;obtain⟨⟨S,T,M⟩,A,r⟩:=ey.1 z;simp only[Prod.mk.injEq] at r;obtain⟨rfl,rfl,rfl⟩:=r;exact I M A
theorem cC.dp{β':Map}{R:Nat->Prop}{F:Nat}(h:cC β w X k e)(g:L[k]? =some F)(o: ∀k x,β k=some x->β' (L.getD k 0)=some x)(G: ∀b,R b->X b)(W: ∀b,β'.n F b↔β.n k b):cC β' w R F (e.dp L):=by
 have q: ∀x,β k=some x->β' F=some x:=λx H=>by have:=o k x H;rwa [eL,g] at this
 cases e with
 |cells cs=>
  obtain⟨b,r,ty,a,d,s,y⟩:=h;refine⟨b,r,ty,q _ a,d,by rw[pv];exact s,λi c u K t=>?_⟩;obtain⟨D,p,rfl⟩:=zO K;exact((y i D u p t).dp o).mono (Ext.refl _ _) (λb _=>G b) (di.refl _) (Shaped.refl _ _)
 |arr ty gen f z=>
  refine⟨h.1,?_⟩;rcases h.2 with ⟨a,d⟩|⟨b,r,a,d,s,y,p⟩
  ·exact .inl ⟨q _ a,d⟩
  exact .inr ⟨b,r,q _ a,d,s,y,λi j l x u aI a2 a3=>(p i j l x u aI a2 a3).mono (Ext.refl _ _) λb _=>G b⟩
 |a7 U m gen z V=>
  refine⟨h.1,?_⟩;rcases h.2 with ⟨a,d,I⟩|⟨b,r,B,a,d,s,y,p,M,N,P⟩
  ·exact .inl ⟨q _ a,d,λc K=>I c ((W c).1 K)⟩
  refine .inr ⟨b,r,B,q _ a,d,s,y,λi j l x u aI a2 a3=>⟨λv Q=>?_,λH=>?_⟩,M,N,λc=>(W c).trans (P c)⟩
  ·obtain⟨⟨Y,cT,S⟩,T,A⟩:=ey.1 Q;simp only[Prod.mk.injEq] at A;obtain⟨rfl,rfl,rfl⟩:=A;have C:=(p _ _ l x u aI a2 a3).1 S T;exact⟨(C.1.dp o).mono (Ext.refl _ _) (λb _=>G b) (di.refl _) (Shaped.refl _ _),C.2⟩
  exact((p i j l x u aI a2 a3).2 λv Q=>H (v.dp L) (ey.2 ⟨_,Q,rfl⟩)).mono (Ext.refl _ _) (λb _=>G b) λ_ _=>rfl
theorem dj.app{β:Map}{w:World}{X:Nat->Prop}: ∀{d a:List V} {e c:List Value},dj β w X d e->dj β w X a c->dj β w X (d++a) (e++c)
 | [],_,[],_,_,h=>h
 |_::_,_,_::_,_,h,k=>⟨h.1,dj.app h.2 k⟩
 | [],_,_::_,_,h,_=>h.elim
 |_::_,_,[],_,h,_=>h.elim
theorem E7{G:Map}{w:World}{X:Nat->Prop}: ∀{d:List V} {e:List Value},e.length=d.length->(∀(i:Nat) c u,d[i]? =some c->e[i]? =some u->bk G w X c u)->dj G w X d e
 | [],[],_,_=>trivial
 |v::d,u::e,a,h=>⟨h 0 v u rfl rfl,E7 (by simpa using a) λi c u k l=>h (i+1) c u (by simpa using k) (by simpa using l)⟩
 | [],_::_,a,_=>by simp at a
 |_::_,[],a,_=>by simp at a
theorem bk.HN{U:List V}{u:Value}(h:bk β w X (.fn f U) u): ∃a:Array Value,u= .func (.func f) #[] a/\dj β w X U a.toList:=by
 cases h with
 |fn _ _ a d h=>exact⟨a,rfl,E7 (by simpa using d) λi c u e k=>h i c u e (by simpa using k)⟩
theorem Ym{K:Ctx}{s:S}{o:Oper}{xs:Array Operand}{RJ:Array TypeId}{gF:List E}{args:List V}{ι:Type}{l9:ι->Prop}{r:ι->V}{R:ι->List E}(HP:Operand)(L news:List Nat)
  (PQ:List V) (ec:o.op= .call {callee:= .value HP,args:=xs,argTypes:=RJ}) (aej:s.get HP= .fn f PQ)
  (ik:ig K.P f) (cu: ∀i,o.dst=some i->Nat.blt i K.nt=true) (bL:fh (xs.toList.map s.get++PQ) (iO L args)) (b8:gv (d5 L.length) args=true)
  (su:gF.length=L.length) (hH: ∀(k:Nat) (e:E),gF[k]? =some e-> ∃id,L[k]? =some id/\s.H id=some (e.dp L)/\e.ok (d5 L.length)=true)
  (U:(L++news).Nodup) (qC: ∀id,id∈news->s.u id=false) (Iq: ∀i,(R i).length=(L++news).length)
  (h:Kp K.P K.G f gF args l9 r R):ED K o s l9 (λi=>(s.after (L++news) (R i)).put o.dst ((r i).dp (L++news))):=by
 obtain⟨fn,aee,aef,aeg⟩:=ik;intro X a w next Q p l
 have pq:fn.name≠ "runtime.NumGoroutine" :=by simpa using aef
 have hb':fn.body≠none:=by intro e;simp[e] at aeg
 obtain⟨us,ad5,Iy⟩:=(aej▸p.get HP).HN;have x2:(execOp a.eval o).run K.P w= .ok (.enter f (xs.map a.eval++us)) w:=by
  simp[execOp,ec,resolve,Deferred.ofValue,ad5,invoke,callFunc,aee,pq,hb']
 unfold Oper.wp;rw[x2,Oper.upon_enter];let z:Map:=jn L X;let h8:Nat->Prop:=λb=>own K X s.H b/\ ¬ ∃k,At z k b;have jG: ∀k g b,z k=some (some b,g)-> ∃id,L[k]? =some id/\X id=some (some b,g):=by
  intro k g b h;cases l:L[k]? with
  |none=>simp[z,jn,l] at h
  |some id=>simp[z,jn,l] at h;exact⟨id,rfl,h⟩
 have t: ∀k b,At z k b-> ∃id,L[k]? =some id/\At X id b:=by
  rintro k b (⟨g,h⟩|⟨id,m,y⟩)
  ·obtain⟨id,m,y⟩:=jG k g b h;exact⟨id,m,.inl ⟨g,y⟩⟩
  exact⟨id,m,.inr y⟩
 have adW: ∀(k id:Nat),L[k]? =some id->s.H id≠none:=by
  intro k id l;have hlt:k<gF.length:=by rw[su];exact(bU.1 l).1
  obtain⟨F,m,y,_⟩:=hH k _ (bo hlt);rw[l] at m;cases m;rw[y];simp
 have D: ∀k b,At z k b->own K X s.H b:=by
  intro k b h;obtain⟨id,m,y⟩:=t k b h;exact .inr ⟨id,adW k id m,y⟩
 have Qw: ∀b,lW h8 z (eN gF 0) b->own K X s.H b:=by
  rintro b (h|⟨k,_,y⟩)
  ·exact h.1
  exact D k b y
 have HX: ∀k b,At z k b->K.M b\/K.w0.heap.size<=b:=by
  intro k b h;obtain⟨id,m,y⟩:=t k b h;exact(p.fresh id b y).1
 have x3: ∀b,own K X s.H b->b<w.heap.size:=by
  rintro b (I|⟨id,_,aY⟩)
  ·exact l2 (p.iz b I).1 p.ext.size
  exact(p.fresh id b aY).2
 have aeJ:L.Nodup:=(List.nodup_append.1 U).1;have aes:zB K.G gF z w h8:=by
  refine⟨?_,?_,?_,?_,?_⟩
  ·intro k l;rw[su] at l;simp[z,jn,List.getElem?_eq_none l]
  ·rintro k b l ⟨id,m,_⟩;rw[su] at l;rw[Dy l] at m;cases m
  ·intro k bZ b h h';obtain⟨id,m,y⟩:=t k b h;obtain⟨F,adI,h2'⟩:=t bZ b h';have he:=p.inj id F b y h2';subst he;have l:=(bU.1 m).1;exact E' aeJ m adI
  ·intro k b B;refine⟨x3 b (D k b B),λI=>I.2 ⟨k,B⟩,?_⟩;rcases HX k b B with A|A
   ·exact p.oC b A
   exact f' p.ot.1 A
  intro k e he;obtain⟨id,m,y,h4⟩:=hH k e he;have hN:=cC.pS (p.heap id _ y).2 m h4;exact hN.mono (Ext.refl _ _) (λb _=>Qw b) (di.refl _) (λ_ h=>h) (Shaped.refl _ _) λ_ _=>rfl
 have ad0:=(dj.pS (((p.oq xs.toList).app Iy).le bL) b8).mono (Ext.refl _ _) (λb _=>Qw b) (di.refl _) (Shaped.refl _ _);have bG:=h w h8 z _ p.B5 (λb aY=>x3 b aY.1) aes ad0;have he:(List.map a.eval xs.toList++us.toList).toArray=xs.map a.eval++us:=by rw[<-vS,<-Array.toList_append]
 rw[he] at bG;refine bG.mono ?_;rintro e w' ⟨u,i,W,rfl,afq,d⟩;let C:=L++news;let N:Map:=⟨k9 X C W,λid b=>(id∉C/\X.n id b)\/ ∃k,C[k]? =some id/\W.n k b⟩
 let s2:=s.after C (R i);have aeC: ∀k,k<L.length->C[k]? =L[k]? :=λk l=>jS l;have v: ∀id,id∈C-> ∃k:Nat,C[k]? =some id/\k<(R i).length:=by
  intro id hid;obtain⟨k,l,e⟩:=List.mem_iff_getElem.1 hid;exact⟨k,bU.2 ⟨l,e⟩,by rw[Iq];exact l⟩
 have F1: ∀id,id∉C->N id=X id:=λid h=>ns h;have zA: ∀k id,C[k]? =some id->N id=W k:=λk id h=>oA U h;have J3: ∀k id,k<L.length->C[k]? =some id->(W k=X id)\/ ∃q g vu lI,X id=some (q,g)/\1<=g/\W k=some (vu,lI)/\g<lI/\ ∀b,vu=some b->q=some b\/w.heap.size<=b:=by
  intro k id l h;have aY:=d.base k (by rw[su];exact l);rw[aeC k l] at h;have e:z k=X id:=by simp[z,jn,h]
  rw[e] at aY;exact aY
 have Qr: ∀k id,L.length<=k->C[k]? =some id->id∈news:=by
  intro k id l h;rw[jt l] at h;exact bE h
 have J4:di X N:=by
  intro id q g I;by_cases hid:id∈C
  ·obtain⟨k,l,_⟩:=v id hid;by_cases Y:k<L.length
   ·rw[zA k id l];rcases J3 k id Y l with e|⟨lb,g1,vu,lI,aI,a2,a3,a4,_⟩
    ·exact .inl (e.trans I)
    rw[I] at aI;cases aI;exact .inr ⟨a2,vu,lI,a3,a4⟩
   have:=p.dF id (qC id (Qr k id O l));rw[this] at I;cases I
  exact .inl (by rw[F1 id hid];exact I)
 have adT: ∀k id,C[k]? =some id->s2.H id=((R i)[k]?).map (E.dp C):=λk id h=>oA U h;have P8: ∀id,id∉C->s2.H id=s.H id:=λid h=>ns h;have Qv: ∀id b,id∉C->At X id b-> ¬ ∃k,At z k b:=by
  rintro id b hid aY ⟨k,h⟩;obtain⟨F,m,y⟩:=t k b h
  have:=p.inj id F b aY y;subst this;exact hid (oT _ (bE m))
 have B9: ∀id b,At N id b->(id∉C/\At X id b)\/ ∃k,C[k]? =some id/\At W k b:=by
  rintro id b (⟨g,h⟩|⟨m,y⟩|⟨k,m,y⟩)
  ·by_cases hid:id∈C
   ·obtain⟨k,l,_⟩:=v id hid;rw[zA k id l] at h;exact .inr ⟨k,l,.inl ⟨g,h⟩⟩
   rw[F1 id hid] at h;exact .inl ⟨hid,.inl ⟨g,h⟩⟩
  ·exact .inl ⟨m,.inr y⟩
  exact .inr ⟨k,m,.inr y⟩
 have hO: ∀b,own K N s2.H b->lW h8 W (eN (R i) 0) b:=by
  rintro b (I|⟨id,m,y⟩)
  ·refine .inl ⟨.inl I,?_⟩;rintro⟨k,B⟩;rcases HX k b B with A|A
   ·exact(p.iz b I).2 A
   have:=(p.iz b I).1;omega
  rcases B9 id b y with ⟨hid,h2'⟩|⟨k,l,B⟩
  ·rw[P8 id hid] at m;exact .inl ⟨.inr ⟨id,m,h2'⟩,Qv id b hid h2'⟩
  have Y:k<(R i).length:=by rw[Iq];exact(bU.1 l).1
  refine .inr ⟨k,?_,B⟩;rw[yV,bo Y];simp
 have ahr: ∀k b,At W k b->k<(R i).length:=by
  rintro k b (⟨g,h⟩|h)
  ·apply vT;intro hle;rw[d.dF k hle] at h;cases h
  exact vT λhle=>d.ea k b hle h
 have P': ∀b,b<w.heap.size->own K N s2.H b->own K X s.H b:=by
  intro b Qd aY;rcases hO b aY with m|⟨k,_,B⟩
  ·exact m.1
  rcases(d.fresh k b B).1 with ⟨bZ,_,A⟩|A
  ·exact D bZ b A
  omega
 have P6:Ext (own K X s.H) w w':=d.ext.weaken λb _ ⟨k,B⟩=>D k b B;have Qc:Shaped X w w':=λb aY=>d.iT b aY;have QA: ∀k x,W k=some x->N (C.getD k 0)=some x:=by
  intro k x I;have hlt:k<(R i).length:=by
   apply vT;intro hle;rw[d.dF k hle] at I;cases I
  rw[Iq] at hlt;have bI:C[k]? =some C[k]:=bo hlt;rw[eL,bI];exact(zA k _ bI).trans I
 have hold: ∀k b,At W k b->(∃id,id∈C/\At X id b)\/w.heap.size<=b:=by
  intro k b aY;rcases(d.fresh k b aY).1 with ⟨bZ,A,h4⟩|A
  ·obtain⟨F,e1,e2⟩:=t bZ b h4;exact .inl ⟨F,oT _ (bE e1),e2⟩
  exact .inr A
 have hrel:Rel K N s2 a w':=by
  refine {p with ext:= ?_,base:= ?_,iT:= ?_,low:= ?_,dF:= ?_,ea:= ?_,inj:= ?_,fresh:= ?_,heap:= ?_,cW:= ?_}
  ·refine p.ext.trans' (d.ext.weaken ?_);rintro b _ ⟨k,B⟩ ⟨m,y⟩;rcases HX k b B with A|A
   ·exact y A
   omega
  ·refine p.base.more λid hid=>?_;by_cases T:id∈C
   ·obtain⟨k,l,_⟩:=v id T;by_cases Y:k<L.length
    ·rw[zA k id l];rcases J3 k id Y l with e|⟨q,g,vu,lI,aI,a2,a3,a4,a5⟩
     ·exact .inl e
     exact .inr ⟨q,g,vu,lI,aI,a2,a3,a4,λb aY=>by
      rcases a5 b aY with c|c
      ·exact .inl c
      exact .inr (f' p.ext.size c)⟩
    have m:=qC id (Qr k id O l);rw[p.low id hid] at m;cases m
   exact .inl (F1 id T)
  ·intro b A;exact(d.iT b (l2 A p.ext.size)).trans (p.iT b A)
  ·intro id hid;by_cases T:id∈C
   ·obtain⟨k,l,_⟩:=v id T;exact oA (f:=s.u) (g:=λ_=>true) U l
   exact(ns T).trans (p.low id hid)
  ·intro id hid;by_cases T:id∈C
   ·obtain⟨k,l,_⟩:=v id T
    have:s2.u id=true:=oA (f:=s.u) (g:=λ_=>true) U l;rw[this] at hid;cases hid
   rw[F1 id T];exact p.dF id ((ns (f:=s.u) (g:=λ_=>true) T).symm.trans hid)
  ·rintro id b hid (⟨m,y⟩|⟨k,l,y⟩)
   ·exact p.ea id b ((ns (f:=s.u) (g:=λ_=>true) m).symm.trans hid) y
   have:s2.u id=true:=oA (f:=s.u) (g:=λ_=>true) U l;rw[this] at hid;cases hid
  ·intro id F b m y;rcases B9 id b m with ⟨m1,aI⟩|⟨k,l,aI⟩<;>rcases B9 F b y with ⟨m2,a2⟩|⟨bZ,pn,a2⟩
   ·exact p.inj id F b aI a2
   ·rcases hold bZ b a2 with ⟨x',A,h4⟩|A
    ·have:=p.inj id x' b aI h4;subst this;exact bz A m1
    have:=(p.fresh id b aI).2;omega
   ·rcases hold k b aI with ⟨x',A,h4⟩|A
    ·have:=p.inj F x' b a2 h4;subst this;exact bz A m2
    have:=(p.fresh F b a2).2;omega
   have:=d.inj k bZ b aI a2;subst this;rw[l] at pn;cases pn;rfl
  ·intro id b m;rcases B9 id b m with ⟨_,aI⟩|⟨k,l,aI⟩
   ·exact⟨(p.fresh id b aI).1,l2 (p.fresh id b aI).2 d.ext.size⟩
   refine⟨?_,(d.fresh k b aI).2⟩;rcases hold k b aI with ⟨x',_,A⟩|A
   ·exact(p.fresh x' b A).1
   exact .inr (f' p.ext.size A)
  ·intro id e he;by_cases T:id∈C
   ·obtain⟨k,l,Y⟩:=v id T;refine⟨oA (f:=s.u) (g:=λ_=>true) U l,?_⟩;rw[adT k id l,bo Y] at he;simp at he;subst he;exact cC.dp (d.heap k _ (bo Y)) l QA hO (λb=>⟨λh=>by
     rcases h with ⟨m,_⟩|⟨bZ,m,y⟩
     ·exact bz T m
     have:=E' U m l;subst this;exact y,λh=> .inr ⟨k,l,h⟩⟩)
   rw[P8 id T] at he;obtain⟨m,y⟩:=p.heap id e he;refine⟨(ns (f:=s.u) (g:=λ_=>true) T).trans m,?_⟩;exact y.mono P6 P' J4 (λx I=>by rw[F1 id T];exact I) Qc (λb aY=>d.ext.keep b (p.fresh id b aY).2 (Qv id b T aY)) (λb=>⟨λh=>by
    rcases h with ⟨_,h⟩|⟨bZ,m,_⟩
    ·exact h
    exact bz (bE m) T,λh=> .inl ⟨T,h⟩⟩)
  intro j;exact(p.cW j).mono P6 P' J4 Qc
 exact l i afq N _ w' (hrel.put o.dst cu ((d.res.dp QA).mono (Ext.refl _ _) (λb _=>hO b) (di.refl _) (Shaped.refl _ _)))
end
section
variable {K:Ctx}{s:S}{d:Option Tmp}{ty:TypeId}{pos:String}{af:Array Edge}{g:Option (Nat×Bool)}{f:FuncId}{xs:Array Operand}{RJ:Array TypeId}{args:List V}{ι:Type}{l9:ι->Prop}{r:ι->V}{out:ι->List E}
theorem ED.j{o:Oper}{u:Unit->Prop}{c:Unit->S}(h:ED K o s u c):dO K o s (c ()):=
 λβ a w next Q e i=>h β a w next Q e λ_ _=>i
variable {ops:Array Oper}{rest:List Oper}{Q:S->Prop}{op:Op}
end
theorem U9(a b:Nat)(c:a<9223372036854775808)(e:b<9223372036854775808):bits .xor .i64 (a:Int) (b:Int)=((a ^^^ b:Nat):Int):=by have h:a ^^^ b<2^63:=Nat.xor_lt_two_pow O O;show IntKind.i64.wrap ((BitVec.ofInt 64 (a:Int) ^^^ BitVec.ofInt 64 (b:Int)).toNat:Int)=_;rw[BitVec.toNat_xor,ofInt_u64 a O,ofInt_u64 b O];exact IntWalk.i64_in _ O
section
variable {P:Program}{H:Nat->Option E}{d:Option Tmp}{ty:TypeId}{pos:String}{af:Array Edge}{g:Option (Nat×Bool)}
theorem Od(n:Int):IntKind.u8.wrap n=((UInt8.ofInt n).toNat:Int):=by
 have:IntKind.u8.wrap n=n%256:=by simp[IntKind.wrap,IntKind.bits,IntKind.signed]
 rw[this];simp[UInt8.ofInt];omega
theorem ab3(a b:UInt8):IntKind.u8.wrap ((a.toNat:Int)-(b.toNat:Int))=((a-b).toNat:Int):=by rw[Od];congr 2;apply UInt8.toNat_inj.1;have c:=UInt8.toNat_lt a;have e:=UInt8.toNat_lt b;simp[UInt8.ofInt,UInt8.toNat_sub];omega
theorem VC(x:Operand)(c k e:TypeId)(l:List UInt8)(B:P.underlying c=some (.slice e))(C:P.underlying e=some (.int .u8))(F:P.underlying k=some .string):
  b4 P H ⟨d,.convert c k x,ty,pos,af,g⟩ [RP (l.map nG)] (bC l):=by
 intro I w X G _ M;refine⟨.string ⟨l.toArray⟩,?_,.t _ _ (.str l)⟩;have R:bk I w X (RP (l.map nG)) (G x):=M.1;simp only[execOp];suffices (convert c k (G x)).run P w= .ok (.string ⟨l.toArray⟩) w by
  simp only[Sem.run_bind,this,Result.andThen_ok,Sem.run_pure]
 generalize G x=y at R⊢;cases R with
 |t _ _ h=>
  generalize W:l.map nG=j at h;cases h with
  |fI a m=>
   have p:l=[]:=by simpa using W
   subst p;rw[run_convert_bytes_string w c k e _ _ _ B C F];cases a with
   |none=>simp[Conv.bytesToString];rfl
   |some a=>
    rw[run_bytesToString w a 0 m [] (by simp[loadCells,loadCellsFrom,Sem.run_pure])];rfl
  |aA _ b n r m f T U u K N L=>
   subst W;cases p:l with
   |nil=>
    subst p
    have:=run_convert_bytes_arg (P:=P) w c e B C b n 0 m [] rfl (λi v=>O) k F;exact this
   |cons y V=>
    rw[<-p];have o:r=1:=by
     have:=K (nG y) (by rw[p];simp);simpa using this.symm
    subst o;have S: ∀(i:Nat) (z:UInt8),l[i]? =some z->f i 0= .int .u8 (z.toNat:Int):=by
     intro i z s;have D:=L i 0 (nG z) (.int .u8 (z.toNat:Nat)) (by rw[ev,s];rfl) rfl;generalize f i 0=q at D⊢;cases D;rfl
    have:=run_convert_bytes_arg (P:=P) w c e B C b n (l.map nG).length m (l.map λz=>(z.toNat:Int)) aP (λi v=>by
     have A:i<l.length:=by simpa using v
     have s:l[i]? =some l[i]:=bo A;have Q:=N i 0 (by simpa using A) O;rw[S i _ s] at Q;rw[show n+i*1+0=n+i by omega] at Q;rw[Q];simp[List.getD_eq_getElem?_getD,s]) k F
    rw[this];congr 2;simp only[strOfNums,List.map_map];congr 2;apply List.ext_getElem?;intro i;rw[ev];cases s:l[i]? with
    |none=>rfl
    |some z=>simp
end
section
variable {K:Ctx}{s:S}{d:Option Tmp}{ty:TypeId}{pos:String}{af:Array Edge}{g:Option (Nat×Bool)}
variable {t:TypeId}{u:TypeDesc}{z:Value}{size bytes:Nat}
theorem YV(k:Nat)(r:s.u k=false)(e:TypeId)(y: ∀i,d=some i->Nat.blt i K.nt=true)(A:K.P.underlying t=some (.slice e))(B:ca K.P e u z size bytes):
  dO K ⟨d,.buildSlice t 0 #[],ty,pos,af,g⟩ s ((s.new k (.arr e 1 size [])).put d (.a8 k 1 size 0 0)):=by
 intro p a w next Q C m
 have c:(execOp a.eval ⟨d,.buildSlice t 0 #[],ty,pos,af,g⟩).run K.P w= .ok (.value (.slice (some ⟨w.heap.size,0,none⟩) 0 0)) (w.alloc (.cells #[] e)):=by
  simp only[execOp,Instr.buildSlice,Sem.run_bind,run_underlying A,Result.andThen_ok,B.run_sizeOf,Nat.zero_mul,show¬(0>2^24) by decide,if_false,if_true];simp only[Instr.fill,Sem.run_bind,Sem.run_pure,Result.andThen_ok,show Array.range 0= #[] from by simp[Array.range],List.map_toArray,List.map_nil];rfl
 unfold Oper.wp;rw[c];have l:=C.new k 1 r #[] e (.arr e 1 size []) λF X b G L R=>⟨cJ _,Or.inr ⟨w.heap.size,_,L,by subst G;exact jA _ _,aP,λ_ h=>by simp at h,λi j W x u h=>by simp at h⟩⟩
 have n:(w.alloc (.cells #[] e)).heap.size=w.heap.size+1:=World.size_alloc ..;have o:(w.alloc (.cells #[] e)).shape? w.heap.size=some (e,0):=by unfold World.shape?;rw[jA];simp
 have q:bk (p.put k (some (some w.heap.size,1))) (w.alloc (.cells #[] e)) (own K (p.put k (some (some w.heap.size,1))) (s.new k (.arr e 1 size [])).H) (.a8 k 1 size 0 0)
   (.slice (some ⟨w.heap.size,0*size,none⟩) 0 0):= .a8 k 1 size 0 0 0 w.heap.size 0 e (cJ _) (bP _ _ _) (n▸oV _) o aP (cJ _) (by unfold maxLen;omega)
 rw[ga] at q;exact m _ _ _ (l.put d y q)
end
def Hk:Option TypeDesc->Bool
 |some (.int .i64)=>true
 |_=>false
theorem ZR{o:Option TypeDesc}(h:Hk o=true):o=some (.int .i64):=by
 unfold Hk at h
 grind
def vM(P:Program):List Field->Nat->Bool
 | [],_=>true
 |f::a,i=>f.name != "_" &&Hk (P.underlying f.type)&&Nat.beq f.offset i&&vM P a (i+1)
theorem Ja{P:Program}{w:World}{xs ys:Array Value}: ∀(a:List Field) (i:Nat) (ms c:List Int),vM P a i=true->ms.length=a.length->c.length=a.length->
  (∀(j:Nat) m,ms[j]? =some m->xs[i+j]? =some (.int .i64 m))->(∀(j:Nat) m,c[j]? =some m->ys[i+j]? =some (.int .i64 m))->
  (Op.eqFields 9999 xs ys a).run P w= .ok (decide (ms=c)) w
 | [],i,ms,c,_,e,h,_,_=>by
  have B:ms=[]:=by simpa using e
  have C:c=[]:=by simpa using h
  subst B;subst C;simp[Op.eqFields]
 |f::a,i,[],c,_,e,_,_,_=>by simp at e
 |f::a,i,m::ms,[],_,_,h,_,_=>by simp at h
 |f::a,i,m::ms,n::c,x,e,h,y,z=>by
  simp only[vM,Bool.and_eq_true] at x;obtain⟨⟨⟨F,l⟩,ec⟩,G⟩:=x;have l:=ZR l;have ec:=cL ec;have o:f.name≠ "_" :=by simpa using F
  have A: ∀(cs:Array Value) (v:Value),cs[i]? =some v->(part f.type cs f.offset).run P w= .ok v w:=by
   intro cs v K;rw[ec];simp[part,isAgg,run_underlying l,K]
  have p:=y 0 m rfl;have r:=z 0 n rfl;have L:=Ja (P:=P) (w:=w) a (i+1) ms c G (by simpa using e) (by simpa using h)
   (λj q s=>by rw[show i+1+j=i+(j+1) by omega];exact y (j+1) q (by simpa using s))
   λj q s=>by rw[show i+1+j=i+(j+1) by omega];exact z (j+1) q (by simpa using s)
  simp only[Op.eqFields,o,ne_eq,not_false_eq_true,if_true,Sem.run_bind,A xs _ p,A ys _ r,Result.andThen_ok,run_equalIn_int w 9998 f.type .i64 .i64 m n l];by_cases k:m=n
  ·subst k;simp[L]
  simp[k]
section
variable {P:Program}{H:Nat->Option E}{d:Option Tmp}{ty:TypeId}{pos:String}{af:Array Edge}{g:Option (Nat×Bool)}
theorem AX{G:Map}{w:World}{X:Nat->Prop}{e:List Int}{u:Value}(h:bk G w X (.agg (e.map Y)) u): ∃a:Array Value,u= .agg a/\ ∀(j:Nat) m,e[j]? =some m->a[j]? =some (.int .i64 m):=by
 cases h with
 |agg _ a n o=>
  refine⟨a,rfl,λj m i=>?_⟩;have c:j<a.size:=by
   rw[n,dn];exact(bU.1 i).1
  have k:a[j]? =some a[j]:=hr c;have l:=o j (Y m) _ (by rw[ev,i];rfl) k;rw[k];generalize a[j]=q at l;cases l with|t _ _ h=>cases h;rfl
theorem WC(x y:Operand)(t r:TypeId)(a c:List Int)(s:P.underlying t=some (.struct (P.fieldsOf t)))(z:P.stoodInHeld t=false)(A:P.eqGuardType P.depth t=false)
  (B:vM P (P.fieldsOf t).toList 0=true) (e:Nat.beq a.length (P.fieldsOf t).size=true) (h:Nat.beq c.length (P.fieldsOf t).size=true):
  b4 P H ⟨d,.binOp .neq t x y r,ty,pos,af,g⟩ [.agg (a.map Y),.agg (c.map Y)] (aM (!decide (a=c))):=by
 intro F w X p _ q;obtain⟨i,k,eI⟩:=AX q.1;obtain⟨l,n,cx⟩:=AX q.2.1;refine⟨.bool (!decide (a=c)),?_,.t _ _ (.bool _)⟩;have e:=cL e;have h:=cL h;have C:=Ja (P:=P) (w:=w) (xs:=i) (ys:=l) (P.fieldsOf t).toList 0 a c B (by simpa using e) (by simpa using h) (λj m o=>by simpa using eI j m o) λj m o=>by simpa using cx j m o
 have k:p x=_:=k;have n:p y=_:=n;simp only[execOp,k,n,Sem.run_bind,run_eqGuard_agg w .neq t x y i l A,Result.andThen_ok,run_neq_struct,run_equalIn_struct w 9999 t i l s z,C,Sem.run_pure]
theorem WK(x y:Operand)(t r:TypeId)(a c:List Int)(s:P.underlying t=some (.struct (P.fieldsOf t)))(z:P.stoodInHeld t=false)(A:P.eqGuardType P.depth t=false)
  (B:vM P (P.fieldsOf t).toList 0=true) (e:Nat.beq a.length (P.fieldsOf t).size=true) (h:Nat.beq c.length (P.fieldsOf t).size=true):
  b4 P H ⟨d,.binOp .eql t x y r,ty,pos,af,g⟩ [.agg (a.map Y),.agg (c.map Y)] (aM (decide (a=c))):=by
 intro F w X p _ q;obtain⟨i,k,eI⟩:=AX q.1;obtain⟨l,n,cx⟩:=AX q.2.1;refine⟨.bool (decide (a=c)),?_,.t _ _ (.bool _)⟩;have e:=cL e;have h:=cL h;have C:=Ja (P:=P) (w:=w) (xs:=i) (ys:=l) (P.fieldsOf t).toList 0 a c B (by simpa using e) (by simpa using h) (λj m o=>by simpa using eI j m o) λj m o=>by simpa using cx j m o
 have k:p x=_:=k;have n:p y=_:=n;simp only[execOp,k,n,Sem.run_bind,run_eqGuard_agg w .eql t x y i l A,Result.andThen_ok,run_eql_struct,run_equalIn_struct w 9999 t i l s z,C,Sem.run_pure]
end
def wQ(P:Program)(t:TypeId)(n:Nat):Prop:=P.underlying t=some (.struct (P.fieldsOf t))/\P.stoodInHeld t=false/\P.eqGuardType P.depth t=false/\vM P (P.fieldsOf t).toList 0=true/\(P.fieldsOf t).size=n
section
variable {P:Program}{H:Nat->Option E}{d:Option Tmp}{ty:TypeId}{pos:String}{af:Array Edge}{g:Option (Nat×Bool)}
theorem Yp(x y:Operand)(t l:TypeId){n:Nat}(i k:List Int)(h:wQ P t n)(m:Nat.beq i.length n=true)(o:Nat.beq k.length n=true):
  b4 P H ⟨d,.binOp .neq t x y l,ty,pos,af,g⟩ [.agg (i.map Y),.agg (k.map Y)] (aM (!decide (i=k))):=by obtain⟨a,b,c,e,f⟩:=h;exact WC x y t l i k a b c e (by rw[f];exact m) (by rw[f];exact o)
theorem Yr(x y:Operand)(t l:TypeId){n:Nat}(i k:List Int)(h:wQ P t n)(m:Nat.beq i.length n=true)(o:Nat.beq k.length n=true):
  b4 P H ⟨d,.binOp .eql t x y l,ty,pos,af,g⟩ [.agg (i.map Y),.agg (k.map Y)] (aM (decide (i=k))):=by obtain⟨a,b,c,e,f⟩:=h;exact WK x y t l i k a b c e (by rw[f];exact m) (by rw[f];exact o)
end
inductive EH where
 |bool
 |int (k:IntKind)
 |string
 |slice (e:Nat)
 |array (n e:Nat)
 |struct (aiK:List (Nat×Nat))
 |QI
 |other
structure cf where
 u:EH
 z:Value
 size:Nat
 bytes:Nat
 places:Array (Nat×Nat)
def EH.agg:EH->Bool
 | .struct _=>true
 | .array _ _=>true
 |_=>false
def cf.is(P:Program)(i:cf)(u:TypeDesc):Prop:=match i.u with
 | .bool=>u= .bool
 | .int k=>u= .int k
 | .string=>u= .string
 | .slice e=>u= .slice e
 | .array n e=>u= .array n e
 | .struct l=> ∃a,u= .struct a/\a.toList.map (λf=>(f.type,f.offset))=l/\ ∀w,(a.mapM (m:=Sem) λf:Field=>do pure (f.offset,<-sizeOf f.type)).run P w= .ok i.places w
 | .QI=> ∃m,u= .interface m
 | .other=>ko u=false
def cf.ok(P:Program)(t:TypeId)(i:cf):Prop:= ∃u,ca P t u i.z i.size i.bytes/\i.is P u
variable {P:Program}{t:TypeId}{i:cf}{a R c:Type}{x:a}{r:List R}{b n:Int}{l:List a}
theorem cf.ok.agg(h:i.ok P t): ∃u,ca P t u i.z i.size i.bytes/\ko u=i.u.agg:=by
 obtain⟨u,e,c⟩:=h;refine⟨u,e,?_⟩;unfold cf.is at c;split at c
 ·rename_i a;rw[a,c];rfl
 ·rename_i a;rw[a,c];rfl
 ·rename_i a;rw[a,c];rfl
 ·rename_i a;rw[a,c];rfl
 ·rename_i a;rw[a,c];rfl
 ·rename_i a;rw[a];obtain⟨k,d,_⟩:=c;rw[d];rfl
 ·rename_i a;rw[a];obtain⟨m,d⟩:=c;rw[d];rfl
 rename_i a;rw[a,c];rfl
theorem cf.ok.iw(h:i.ok P t):(i.u= .bool->P.underlying t=some .bool)/\(∀k,i.u= .int k->P.underlying t=some (.int k))/\(i.u= .string->P.underlying t=some .string)/\
  ∀e,i.u= .slice e->P.underlying t=some (.slice e):=by obtain⟨u,d,c⟩:=h;refine⟨λa=>?_,λk a=>?_,λa=>?_,λe a=>?_⟩<;>simp only[cf.is,a] at c<;>rw[<-c]<;>exact d.1
theorem cf.ok.st{l:List (Nat×Nat)}(h:i.ok P t)(c:i.u= .struct l): ∃a,ca P t (.struct a) i.z i.size i.bytes/\a.toList.map (λf=>(f.type,f.offset))=l/\ ∀w,(a.mapM (m:=Sem) λf:Field=>do pure (f.offset,<-sizeOf f.type)).run P w= .ok i.places w:=by
 obtain⟨u,e,d⟩:=h;simp only[cf.is,c] at d
 grind
def dr:List (Nat×cf)->Nat->Option cf
 | [],_=>none
 |(t,i)::l,k=>bif Nat.beq t k then some i else dr l k
def dP(P:Program)(a:List (Nat×cf)):Prop:= ∀t i,dr a t=some i->i.ok P t
theorem dP.nil:dP P []:=λ_ _ h=>by cases h
theorem dP.cons{a:List (Nat×cf)}{t:Nat}(h:i.ok P t)(e:dP P a):dP P ((t,i)::a):=by
 intro k j c;simp only[dr] at c;cases d:Nat.beq t k with
 |true=>rw[d] at c;cases c;rw[<-cL d];exact h
 |false=>rw[d] at c;exact e k j c
inductive cq where
 |row (r:List T)
 |rows (r:List (List T))
 |str (s:List UInt8)
 |int (n:Int)
 |nat (n:Nat)
 |b (w:Bool)
 |y (b:UInt8)
 |v (v:V)
 |jh (slot k:Nat)
 |sk (cW:List Nat) (k:Nat)
 |grow (slot k:Nat) (e:TypeId)
 |kb (k:Nat)
 |B4 (b j k:Nat)
 |et (b j k:Nat) (e:TypeId)
 |agO (i k g:Nat)
 |agN (b j k g:Nat)
 |len (slot n:Nat)
 |eE (b j n:Nat)
 |sj (k:Nat) (cW:List Nat)
 |bf (k:Nat) (cW blocks:List Nat)
 |ed (k bZ:Nat) (cW blocks:List Nat)
 |at (rem:Nat)
 |dp (slot k bZ:Nat)
 |dC (L news:List Nat) (r:V) (out:List E)
 |dM (k:Nat) (fV:List dN) (m:Nat)
 |c8 (k:Nat)
 |dR (k bZ i j:Nat) (row:List T)
 |dh (k bZ:Nat) (row:List T) (R:List (List T))
 |lt (k:Nat) (fV:List dN) (m:Nat)
 |PX (k i j:Nat) (row:List T)
 |Ds (k:Nat) (row:List T) (R:List (List T))
 |B6 (i j k:Nat) (e:TypeId)
 |cut (k n:Nat) (R:List (List T))
inductive dc where
 |p (p:Prop)
 |q (a b:Nat)
def cc:List dc->Prop
 | []=>True
 | .p p::l=>p/\cc l
 | .q a b::l=>a=b/\cc l
def yy:List dc->Prop
 | []=>True
 | .p p::l=>p/\yy l
 | .q _ _::l=>yy l
def vp:List dc->List Nat
 | []=>[]
 | .p _::l=>vp l
 | .q a _::l=>a::vp l
def vq:List dc->List Nat
 | []=>[]
 | .p _::l=>vq l
 | .q _ b::l=>b::vq l
theorem cc.of: ∀{l:List dc},yy l->vp l=vq l->cc l
 | [],_,_=>trivial
 | .p _::_,h,k=>⟨h.1,cc.of h.2 k⟩
 | .q _ _::_,h,k=>by simp only[vp,vq,List.cons.injEq] at k;exact⟨k.1,cc.of h k.2⟩
theorem cc.app: ∀{l m:List dc},cc (l++m)->cc l/\cc m
 | [],_,h=>⟨trivial,h⟩
 | .p _::_,_,h=>⟨⟨h.1,(cc.app h.2).1⟩,(cc.app h.2).2⟩
 | .q _ _::_,_,h=>⟨⟨h.1,(cc.app h.2).1⟩,(cc.app h.2).2⟩
def ar{a:Type}(l:List a)(i:Int):Option a:=if 0<=i then l[i.toNat]? else none
def sub{R:Type}(l:List R)(a b:Int):Option (List R):=if 0<=a/\a<=b/\b<=l.length then some ((l.take b.toNat).drop a.toNat) else none
def cat(a b:List UInt8):Option (List UInt8):=if(a.length:Int)+b.length<=9223372036854775807 then some (a++b) else none
def app{R:Type}(a b:List R):Option (List R):=if a.length+b.length<=1000000000 then some (a++b) else none
def mk{a:Type}(n:Int)(x:a):Option (List a):=if 0<=n/\n<=1000000000 then some (List.replicate n.toNat x) else none
def b6{a:Type}(l:List a)(i:Int)(x:a):Option (List a):=if 0<=i/\i<l.length then some (l.set i.toNat x) else none
def wr(n:Int):Int:=IntKind.i64.wrap n
theorem mG{i:Int}(h:ar l i=some x):0<=i/\l[i.toNat]? =some x:=by
 unfold ar at h
 grind
theorem OX{i:Int}(f:a->R)(h:ar l i=some x):ar (l.map f) i=some (f x):=by
 obtain⟨c,d⟩:=mG h;unfold ar
 grind
theorem AK{l:List R}{a:Int}(h:sub l a b=some r):0<=a/\a<=b/\b<=l.length/\r=(l.take b.toNat).drop a.toNat:=by
 unfold sub at h
 grind
theorem nE{l:List R}{a:Int}(f:R->c)(h:sub l a b=some r):sub (l.map f) a b=some (r.map f):=by obtain⟨d,e,i,rfl⟩:=AK h;unfold sub;rw[a1 ⟨d,e,by simpa using i⟩,List.map_drop,tv]
theorem wm{a b:List R}(h:app a b=some r):a.length+b.length<=1000000000/\r=a++b:=by
 unfold app at h
 grind
theorem bW{a b:List R}(f:R->c)(h:app a b=some r):app (a.map f) (b.map f)=some (r.map f):=by
 obtain⟨d,rfl⟩:=wm h;unfold app
 grind
theorem pO{r:List a}(h:mk n x=some r):0<=n/\n<=1000000000/\r=List.replicate n.toNat x:=by
 unfold mk at h
 grind
theorem tR{r:List a}(f:a->R)(h:mk n x=some r):mk n (f x)=some (r.map f):=by obtain⟨c,d,rfl⟩:=pO h;unfold mk;rw[a1 ⟨c,d⟩,List.map_replicate]
theorem sZ{r:List a}{i:Int}(h:b6 l i x=some r):0<=i/\i<l.length/\r=l.set i.toNat x:=by
 unfold b6 at h
 grind
theorem Zz{a b r:List UInt8}(h:cat a b=some r):(a.length:Int)+b.length<=9223372036854775807/\r=a++b:=by
 unfold cat at h
 grind
mutual
def nC:V->V
 | .t .fe=> .t (.aA [])
 | .agg cs=> .agg (gJ cs)
 | .bH cs=> .bH (gJ cs)
 | .t (.aA r)=> .t (.aA r)
 | .t (.int k n)=> .t (.int k n)
 | .t (.bool b)=> .t (.bool b)
 | .t (.str s)=> .t (.str s)
 |v=>v
def gJ:List V->List V
 | []=>[]
 |c::cs=>nC c::gJ cs
end
mutual
theorem tP: ∀v:V,dv v (nC v)
 | .t .fe=>dv.nil
 | .t (.aA _)| .t (.int _ _)| .t (.bool _)| .t (.str _)| .t .gV| .t .gw| .t .nB| .t .err=>dv.refl _
 | .agg cs=>dv.agg (lX cs)
 | .bH cs=>dv.bH (lX cs)
 | .ref _ _| .aL _| .a8 _ _ _ _ _| .cw _ _ _ _ _| .fn _ _| .cY=>dv.refl _
theorem lX: ∀cs:List V,fh cs (gJ cs)
 | []=>trivial
 |c::cs=>⟨tP c,lX cs⟩
end
theorem sV: ∀cs:List V,(gJ cs).length=cs.length
 | []=>rfl
 |c::cs=>by simp[gJ,sV cs]
def uu(k:Option Nat):List V->List V
 | [.t .fe]=>match k with
  |some _=>[.t .fe]
  |none=>gJ [.t .fe]
 |vs=>gJ vs
theorem abi(k:Option Nat)(a:List V):fh a (uu k a):=by
 unfold uu;split
 ·split
  ·exact fh.refl _
  exact lX _
 exact lX _
theorem Vv(k:Option Nat)(a:List V):(uu k a).length=a.length:=by
 unfold uu;split
 ·split
  ·rfl
  exact sV _
 exact sV _
def yQ:V->Option T
 | .t x=>some x
 |_=>none
def ly:List V->Option (List T)
 | []=>some []
 |v::a=>match yQ v,ly a with
  |some x,some c=>some (x::c)
  |_,_=>none
theorem oJ: ∀{a:List V} {c:List T},ly a=some c->a=c.map .t
 | [],_,h=>by cases h;rfl
 |v::a,c,h=>by
  simp only[ly] at h;split at h
  ·rename_i x i e d;cases h;have d:=oJ d;cases v<;>simp[yQ] at e;subst e;subst d;rfl
  cases h
def xj:List V->Option (List Int)
 | []=>some []
 | .t (.int .i64 m)::a=>match xj a with
  |some ms=>some (m::ms)
  |none=>none
 |_=>none
theorem zc: ∀{a:List V} {ms:List Int},xj a=some ms->a=ms.map Y
 | [],_,h=>by cases h;rfl
 |v::a,ms,h=>by
  unfold xj at h;split at h
  ·rename_i c;cases c
  ·rename_i m d c;cases c;split at h
   ·rename_i e i;cases h;rw[zc i];rfl
   cases h
  cases h
abbrev hF:=Option (V×List dc×List cq)
def Pe(a:BinOp)(m n:Int):Option Bool:=
 match a with
 | .eql=>some (decide (m=n))
 | .neq=>some (!decide (m=n))
 | .lss=>some (decide (m<n))
 | .leq=>some (decide (m<=n))
 | .gtr=>some (decide (n<m))
 | .geq=>some (decide (n<=m))
 |_=>none
def OV(a:BinOp):Bool:=
 match a with
 | .and| .or| .xor| .andNot=>true
 |_=>false
def Hd(op:BinOp)(k:IntKind)(m n:Int)(a:List cq):hF:=
 match op with
 | .add=>some (.t (.int k (k.wrap (m+n))),[],a)
 | .sub=>some (.t (.int k (k.wrap (m-n))),[],a)
 | .mul=>some (.t (.int k (k.wrap (m*n))),[],a)
 | .quo=>some (.t (.int k (k.wrap (m.tdiv n))),[.p (n≠0)],a)
 | .rem=>some (.t (.int k (m.tmod n)),[.p (n≠0)],a)
 | .and=>some (.t (.int k (bits .and k m n)),[],a)
 | .or=>some (.t (.int k (bits .or k m n)),[],a)
 | .xor=>some (.t (.int k (bits .xor k m n)),[],a)
 | .andNot=>some (.t (.int k (bits .andNot k m n)),[],a)
 | .shl| .shr=>none
 |op=>match Pe op m n with
  |some b=>some (.t (.bool b),[],a)
  |none=>none
def Hn(c:BinOp)(m n:List UInt8)(a:List cq):hF:=
 match c,a with
 | .add,.str r::a=>some (.t (.str r),[.p (cat m n=some r)],a)
 | .eql,a=>some (.t (.bool (decide (m=n))),[],a)
 | .neq,a=>some (.t (.bool (!decide (m=n))),[],a)
 | .geq,a=>some (.t (.bool (!Op.bytesLess m n)),[],a)
 | .lss,a=>some (.t (.bool (Op.bytesLess m n)),[],a)
 | .gtr,a=>some (.t (.bool (!Op.bytesLess m n&& !m==n)),[],a)
 | .leq,a=>some (.t (.bool (Op.bytesLess m n||m==n)),[],a)
 |_,_=>none
def GU:Option cf->Bool
 |some i=>match i.u with
  | .bool=>true
  |_=>false
 |none=>false
def Hi(P:Program)(e:List (Nat×cf))(d:BinOp)(t:TypeId)(v w:V)(a:List cq):hF:=
 match v,w with
 | .t (.int k m),.t (.int h n)=>if k=h then Hd d k m n a else none
 | .t (.str m),.t (.str n)=>Hn d m n a
 | .t (.bool p),.t (.bool q)=>match GU (dr e t),d with
  |true,.eql=>some (.t (.bool (p==q)),[],a)
  |true,.neq=>some (.t (.bool (!(p==q))),[],a)
  |_,_=>none
 | .agg cs,.agg i=>match xj cs,xj i,d,a with
  |some ms,some c,.eql,.b b::a=>some (.t (.bool b),[.p (wQ P t ms.length),.q c.length ms.length,.p (decide (ms=c)=b)],a)
  |some ms,some c,.neq,.b b::a=>some (.t (.bool (!b)),[.p (wQ P t ms.length),.q c.length ms.length,.p (decide (ms=c)=b)],a)
  |_,_,_,_=>none
 |_,_=>none
def Hj:Option cf->Bool
 |some i=>match i.u with
  | .QI=>true
  |_=>false
 |none=>false
def py:Operand->Bool
 | .const _=>true
 |_=>false
def He(c:List (Nat×cf))(d:BinOp)(t:TypeId)(x y:Operand)(v w:V)(a:List cq):hF:=
 match Hj (dr c t),py x||py y,v,w,d with
 |true,true,.t .err,.t .gw,.eql=>some (.t (.bool false),[],a)
 |true,true,.t .err,.t .gw,.neq=>some (.t (.bool true),[],a)
 |true,true,.t .gw,.t .gw,.eql=>some (.t (.bool true),[],a)
 |true,true,.t .gw,.t .gw,.neq=>some (.t (.bool false),[],a)
 |_,_,_,_,_=>none
def Hs(c:UnOp)(v:V)(a:List cq):hF:=
 match c,v with
 | .not,.t (.bool b)=>some (.t (.bool (!b)),[],a)
 | .neg,.t (.int k n)=>some (.t (.int k (k.wrap (0-n))),[],a)
 |_,_=>none
def FF(a:List (Nat×cf)):Option cf->Bool
 |some i=>match i.u with
  | .slice e=>match dr a e with
   |some j=>match j.u with
    | .int .u8=>true
    |_=>false
   |none=>false
  |_=>false
 |none=>false
def G0(d:List (Nat×cf))(e h:TypeId)(v:V)(a:List cq):hF:=
 match dr d e,dr d h with
 |some i,some j=>match j.u,v,a with
  | .int k,.t (.int _ n),.int m::a=>some (.t (.int k m),[.p (k.wrap n=m)],a)
  | .int .u8,.t (.int _ n),.y m::a=>some (.t (.int .u8 (m.toNat:Nat)),[.p (UInt8.ofInt n=m)],a)
  | .string,.t (.aA c),.str l::a=>match FF d (some i) with
   |true=>some (.t (.str l),[.p (c=l.map nG)],a)
   |false=>none
  |_,_,_=>none
 |_,_=>none
def tX(n:List (Nat×cf))(H:Nat->Option E)(t:TypeId)(v:V)(h:List cq):hF:=
 match dr n t with
 |none=>none
 |some i=>match v with
  | .ref id a=>match H id with
   |some (.cells cs)=>match i.u.agg with
    |true=>match Nat.ble (a+i.size) cs.length with
     |true=>some (.agg ((cs.drop a).take i.size),[],h)
     |false=>none
    |false=>match cs[a]? with
     |some c=>some (c,[],h)
     |none=>none
   |_=>none
  | .aL cs=>match i.u.agg with
   |true=>match Nat.ble i.size cs.length with
    |true=>some (.agg ((cs.take i.size).map .t),[],h)
    |false=>none
   |false=>match cs with
    |c::_=>some (.t c,[],h)
    | []=>none
  | .cw id gen m k a=>match H id,i.u.agg,h with
   |some (.arr _ d l e),false,.row r::h=>match r[a]? with
    |some c=>some (.t c,[.q d gen,.q l m,.p (e[k]? =some r)],h)
    |none=>none
   |some (.arr _ d l e),true,.row r::h=>match Nat.ble (a+i.size) r.length with
    |true=>some (.agg (((r.drop a).take i.size).map .t),[.q d gen,.q l m,.p (e[k]? =some r)],h)
    |false=>none
   |_,_,_=>none
  |_=>none
def r3(j:Nat):List (Nat×Nat×V)->Option (Nat×V)
 | []=>none
 |h::a=>bif Nat.beq h.2.1 j then some (h.1,h.2.2) else r3 j a
def rQ(a:List (Nat×Nat×V)):Nat->Nat->Option (List (Nat×V))
 |_,0=>some []
 |j,n+1=>match r3 j a,rQ a (j+1) n with
  |some x,some l=>some (x::l)
  |_,_=>none
def rZ(k:Nat):List (Nat×V)->List dc
 | []=>[]
 |x::l=> .q x.1 k::rZ k l
def r6(i j:Nat):List (Nat×Nat×V)->List dc
 | []=>[]
 |h::a=>bif Nat.beq h.2.1 j then .p (i≠h.1)::r6 i j a else r6 i j a
theorem wU{i j:Nat}: ∀{c:List (Nat×Nat×V)},cc (r6 i j c)-> ∀v,(i,j,v)∉c
 | [],_,_,h=>by cases h
 |h::c,a,v,hm=>by
  unfold r6 at a;cases d:Nat.beq h.2.1 j with
  |true=>
   rw[d] at a;rcases dL.1 hm with rfl|hm
   ·exact a.1 rfl
   exact wU a.2 v hm
  |false=>
   rw[d] at a;rcases dL.1 hm with rfl|hm
   ·simp at d
   exact wU a v hm
def Gr(y:List (Nat×cf))(H:Nat->Option E)(t:TypeId)(v:V)(h:List cq):hF:=
 match dr y t,v,h with
 |some i,.cw id gen o k a,.row r::h=>match H id with
  |some (.a7 n m d e s)=>match i.u.agg with
   |false=>match r[a]?,r3 a s with
    |some c,none=>match (U n m).en a with
     |none=>some (.t c,[.q d gen,.q (U n m).size o,.p (e[k]? =some r)],h)
     |some _=>none
    |some _,some (w,x)=>some (x,[.q d gen,.q (U n m).size o,.p (e[k]? =some r),.q w k],h)
    |none,_=>none
   |true=>match Nat.ble (a+i.size) r.length,rQ s a i.size with
    |true,some l=>some (.agg (l.map (·.2)),.q d gen:: .q (U n m).size o:: .p (e[k]? =some r)::rZ k l,h)
    |_,_=>none
  |_=>none
 |some i,.cw id gen o k a,.int q:: .row r::h=>match H id with
  |some (.a7 n m d e s)=>match i.u.agg,r[a]?,s[q.toNat]? with
   |false,some _,some (w,z,x)=>some (x,[.q d gen,.q (U n m).size o,.p (e[k]? =some r),.q w k,.q z a],h)
   |true,_,_=>match Nat.ble (a+i.size) r.length,rQ (s.drop q.toNat) a i.size with
    |true,some l=>some (.agg (l.map (·.2)),.q d gen:: .q (U n m).size o:: .p (e[k]? =some r)::rZ k l,h)
    |_,_=>none
   |_,_,_=>none
  |_=>none
 |some i,.cw id gen o k a,.nat _:: .row r::h=>match H id with
  |some (.a7 n m d e s)=>match i.u.agg,r[a]?,(U n m).en a with
   |false,some c,none=>some (.t c,.q d gen:: .q (U n m).size o:: .p (e[k]? =some r)::r6 k a s,h)
   |_,_,_=>none
  |_=>none
 |_,_,_=>none
def Hg(e:List (Nat×cf))(t:TypeId)(k:Nat)(v:V)(h:List cq):hF:=
 match dr e t with
 |none=>none
 |some i=>match i.u with
  | .struct l=>match l[k]? with
   |none=>none
   |some a=>match dr e a.1 with
    |none=>none
    |some j=>match v with
     | .agg d=>match j.u.agg with
      |true=>match Nat.ble (a.2+j.size) d.length with
       |true=>some (.agg ((d.drop a.2).take j.size),[],h)
       |false=>none
      |false=>match d[a.2]? with
       |some c=>some (c,[],h)
       |none=>none
     |_=>none
  |_=>none
def Gt(m:List (Nat×cf))(H:Nat->Option E)(t:TypeId)(k:Nat)(v:V)(e:List cq):hF:=
 match dr m t with
 |none=>none
 |some i=>match i.u with
  | .struct o=>match o[k]? with
   |none=>none
   |some a=>match dr m a.1 with
    |none=>none
    |some j=>match Nat.beq j.size 0 with
     |true=>none
     |false=>match v with
      | .ref id d=>some (.ref id (d+a.2),[],e)
      | .aL cs=>some (.aL (cs.drop a.2),[],e)
      | .cw id gen h n d=>match H id with
       |some (.arr _ c l _)=>some (.cw id gen h n (d+a.2),[.q c gen,.q l h],e)
       |some (.a7 _ _ c _ _)=>some (.cw id gen h n (d+a.2),[.q c gen],e)
       |_=>none
      |_=>none
  |_=>none
def Hf(s:List (Nat×cf))(H:Nat->Option E)(t:TypeId)(v w:V)(h:List cq):hF:=
 match dr s t with
 |none=>none
 |some i=>match i.u with
  | .slice e=>match dr s e with
   |none=>none
   |some j=>match v,w with
    | .t (.aA l),.t (.int .i64 n)=>match h with
     | .row r::h=>match Nat.beq r.length j.size with
      |true=>some (.aL r,[.p (ar l n=some r)],h)
      |false=>none
     |_=>none
    | .a8 id gen a d o,.t (.int .i64 n)=>match H id,Nat.beq a j.size with
     |some (.arr _ c x _),true=>some (.cw id gen a (d+n.toNat) 0,[.q c gen,.q x a,.p (0<=n/\n<(o:Int))],h)
     |some (.a7 _ _ c _ _),true=>some (.cw id gen a (d+n.toNat) 0,[.q c gen,.p (0<=n/\n<(o:Int))],h)
     |_,_=>none
    |_,_=>none
  | .array m e=>match dr s e with
   |none=>none
   |some j=>match v,w,h with
    | .ref id d,.t (.int .i64 n),.nat k::h=>match Nat.ble (k+1) m with
     |true=>some (.ref id (d+k*j.size),[.p (n=(k:Int))],h)
     |false=>none
    |_,_,_=>none
  |_=>none
def xa:Option cf->Bool
 |some i=>match i.u with
  | .string=>true
  |_=>false
 |none=>false
def xp:Option cf->Bool
 |some i=>match i.u with
  | .slice _=>true
  |_=>false
 |none=>false
def Ho(d:List (Nat×cf))(e:BinOp)(t:TypeId)(v w:V)(c:List cq):hF:=
 match xp (dr d t),v,w,e,c with
 |true,.t (.aA a),.t .fe,.eql,.b false::c=>some (.t (.bool false),[.p (a≠[])],c)
 |_,_,_,_,_=>none
def Gs(c:List (Nat×cf))(t:TypeId)(v w:V)(a:List cq):hF:=
 match xa (dr c t),v,w,a with
 |true,.t (.str l),.t (.int .i64 n),.y b::a=>some (.t (.int .u8 (b.toNat:Nat)),[.p (ar l n=some b)],a)
 |_,_,_,_=>none
def r4(d e:Option Operand)(c:Nat)(h:List V):Option (Int×Int):=
 match d,e,h with
 |some _,some _,[.t (.int .i64 a),.t (.int .i64 b)]=>some (a,b)
 |some _,none,[.t (.int .i64 a)]=>some (a,(c:Int))
 |none,some _,[.t (.int .i64 b)]=>some (0,b)
 |_,_,_=>none
def Gq(s:List (Nat×cf))(H:Nat->Option E)(t:TypeId)(y z:Option Operand)(w:List V)(h:List cq):hF:=
 match w with
 | .t (.str l)::x=>match xa (dr s t),r4 y z l.length x,h with
  |true,some (a,b),.str r::h=>some (.t (.str r),[.p (sub l a b=some r)],h)
  |_,_,_=>none
 | .t (.aA d)::x=>match dr s t with
  |none=>none
  |some i=>match i.u with
   | .slice e=>match dr s e,r4 y z d.length x,h with
    |some j,some (a,b),.rows r::h=>some (.t (.aA r),[.p (sub d a b=some r),.p (Rows j.size d)],h)
    |_,_,_=>none
   |_=>none
 | .a8 id gen c n k::x=>match dr s t,(H id).bind E.gen? with
  |some i,some B=>match i.u with
   | .slice e=>match dr s e,r4 y z k x,h with
    |some j,some (a,b),.nat o:: .nat m::h=>some (.a8 id gen c o m,[.q B gen,.q c j.size,.p (0<=a/\a<=b/\b<=k/\(a=0\/a<k)/\o=n+a.toNat/\m=b.toNat-a.toNat)],h)
    |some _,some (a,b),.int 0::h=>some (.t (.aA []),[.q B gen,.p (0<=a/\a=b/\b<=k)],h)
    |some j,some (a,b),.int 1:: .nat o:: .nat m::h=>match H id with
     |some (.arr _ C A d)=>some (.a8 id gen c o m,[.q C gen,.q A c,.q c j.size,.p (0<c/\0<=a/\a<b/\n+b<=d.length/\o=n+a.toNat/\m=b.toNat-a.toNat)],h)
     |_=>none
    |_,_,_=>none
   |_=>none
  |_,_=>none
 |_=>none
def F8(k:List (Nat×cf))(H:Nat->Option E)(t:TypeId)(d:List V)(l:List cq):hF:=
 match d with
 | [.a8 id gen _ _ h,.t (.int .i64 a),.t (.int .i64 b),.t (.int .i64 c)]=>match dr k t,(H id).bind E.gen? with
  |some i,some m=>match i.u with
   | .slice e=>match dr k e with
    |some _=>some (.cY,[.q m gen,.p (0<=a/\a<=b/\b<=c/\c<=h)],l)
    |none=>none
   |_=>none
  |_,_=>none
 |_=>none
def G1(k:List (Nat×cf))(t:TypeId)(d:List V)(h:List cq):hF:=
 match d,h with
 | [.t (.aA a),.t (.int .i64 b),.t (.int .i64 c)],.rows r::h=>match dr k t with
  |some i=>match i.u with
   | .slice e=>match dr k e with
    |some j=>some (.t (.aA r),[.p (sub a 0 b=some r/\c=b),.p (Rows j.size a)],h)
    |none=>none
   |_=>none
  |none=>none
 |_,_=>none
def Hc(i:List (Nat×cf))(H:Nat->Option E)(t:TypeId)(v:V)(c:List cq):hF:=
 match v,c with
 | .t (.str l),c=>match xa (dr i t) with
  |true=>some (.t (.int .i64 (l.length:Nat)),[],c)
  |false=>none
 | .t (.aA d),.nat n::c=>match xp (dr i t) with
  |true=>some (.t (.int .i64 (n:Nat)),[.p (d.length=n)],c)
  |false=>none
 | .a8 id gen e _ h,.nat n::c=>match H id,xp (dr i t) with
  |some (.arr _ a k _),true=>some (.t (.int .i64 (n:Nat)),[.q a gen,.q k e,.p (h=n)],c)
  |some (.a7 _ _ a _ _),true=>some (.t (.int .i64 (n:Nat)),[.q a gen,.p (h=n)],c)
  |_,_=>none
 |_,_=>none
def Fu(h:List (Nat×cf))(H:Nat->Option E)(b:Builtin)(c:List TypeId)(i:List Operand)(a:List V)(d:List cq):hF:=
 match b,c,i,a with
 | .len,[t],[_],[v]=>Hc h H t v d
 | .max,_,[_,_],[.t (.int k m),.t (.int e n)]=>if k=e then some (.t (.int k (max m n)),[],d) else none
 | .min,_,[_,_],[.t (.int k m),.t (.int e n)]=>if k=e then some (.t (.int k (min m n)),[],d) else none
 |_,_,_,_=>none
def Ha(H:Nat->Option E)(v:V)(a:List cq):hF:=
 match v with
 | .cw id gen _ _ _=>match (H id).bind E.gen? with
  |some c=>some (v,[.q c gen],a)
  |none=>none
 | .ref _ _=>some (v,[],a)
 | .aL _=>some (v,[],a)
 | .fn _ _=>some (v,[],a)
 |_=>none
def Gv(d:List (Nat×cf))(t:TypeId)(c:List Nat)(a:List V)(e:List cq):hF:=
 match dr d t with
 |none=>none
 |some i=>match i.u with
  | .struct _=>match (gQ i.z).val,Nat.beq c.length a.length,kM (i.places[·]?) (gQ i.z).cs (c.zip a) with
   |true,true,some cs=>some (.agg cs,[],e)
   |_,_,_=>none
  |_=>none
def xL(P:Program)(h:List (Nat×cf))(H:Nat->Option E)(l:Op)(a:List V)(e:List cq):hF:=
 match l with
 | .move _=>match a with
  | [v]=>some (v,[],e)
  |_=>none
 | .assign _=>match a with
  | [v]=>some (v,[],e)
  |_=>none
 | .pick _ _ _=>match a,e with
  | [.t (.bool b),v,w],.b c::e=>some (bif c then v else w,[.p (b=c)],e)
  |_,_=>none
 | .load t _=>match a with
  | [v]=>match tX h H t v e with
   |some r=>some r
   |none=>Gr h H t v e
  |_=>none
 | .nilCheck _=>match a with
  | [v]=>Ha H v e
  |_=>none
 | .binOp o t x y _=>match a with
  | [v,w]=>match Hi P h o t v w e with
   |some r=>some r
   |none=>match He h o t x y v w e with
    |some r=>some r
    |none=>Ho h o t v w e
  |_=>none
 | .unOp o _ _=>match a with
  | [v]=>Hs o v e
  |_=>none
 | .convert s d _=>match a with
  | [v]=>G0 h s d v e
  |_=>none
 | .makeFunc m first _=>match m,first.toList with
  | .func f,[]=>some (.fn f a,[],e)
  |_,_=>none
 | .slice t _ lo i mE=>match mE with
  |none=>Gq h H t lo i a e
  |some _=>match lo,i with
   |some _,some _=>F8 h H t a e
   |none,some _=>G1 h t a e
   |_,_=>none
 | .fieldAddr t _ k=>match a with
  | [v]=>Gt h H t k v e
  |_=>none
 | .field t _ k=>match a with
  | [v]=>Hg h t k v e
  |_=>none
 | .indexAddr t _ _=>match a with
  | [v,w]=>Hf h H t v w e
  |_=>none
 | .index t _ _=>match a with
  | [v,w]=>Gs h t v w e
  |_=>none
 | .extract _ k=>match a with
  | [.bH n]=>match n[k]? with
   |some v=>some (v,[],e)
   |none=>none
  |_=>none
 | .build t q=>Gv h t (q.toList.map (·.1)) a e
 | .call c=>match c.callee with
  | .builtin b=>Fu h H b c.argTypes.toList c.args.toList a e
  |_=>none
 |_=>none
end Go.Lift
