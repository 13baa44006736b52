/- Tools. -/
import Derived.Test.YteifkndfpnkalabGreatXLiftAB
import Derived.Laws.BitsAllLaws
import Derived.Laws.BytesArg
import Derived.Laws.StructEq
namespace Go.Lift
open Go
open Option renaming some -> aa, none -> ak, map_some -> gN
open Bool renaming true -> ab, false -> al, and_eq_true -> cB
open Go.Result renaming andThen_ok -> eV
open Go.Builtin renaming zeroCells -> ei
open List renaming map_cons -> hg
open Go.World renaming shape? -> jb
open Go.Sem renaming run_bind -> e5, run_pure -> hh
open Nat renaming beq -> b7, blt -> dp, ble -> dC
section
variable {W β:Map}{w:World}{X:Nat->Prop}{i m k b n j:Nat}{a:Act}{e:TypeId}{hs:List (Nat×Nat×V)}
theorem rW{c:List dy}{gen:Nat}{a:List (List T)}{Y:List (Nat×Nat×V)}(h:c4 W w X i (.aC c m gen a Y)): ∃q,W i=aa (q,gen):=by
 rcases h.2 with ⟨e,_⟩|⟨b,k,_,e,_⟩
 ·exact⟨_,e⟩
 exact⟨_,e⟩
def Map.drop(a:Map)(k:Nat):Map:=⟨a.f,λid b=>id≠k/\a.n id b⟩
theorem nN(h:At (W.drop k) i b):At W i b:=by
 rcases h with h|h
 ·exact .inl h
 exact .inr h.2
theorem Rel.drop{K:Ctx}{s:S}(h:Rel K β s a w)(k:Nat)(e':E)(x:s.H k≠ak)
  (B:c4 (β.drop k) w (own K (β.drop k) (a' s.H k (aa e'))) k e'):Rel K (β.drop k) {s with H:=a' s.H k (aa e')} a w:=by
 have l: ∀b,own K (β.drop k) (a' s.H k (aa e')) b->own K β s.H b:=by
  rintro b (c|⟨id,m,o⟩)
  ·exact .inl c
  refine .inr ⟨id,λp=>?_,nN o⟩;by_cases n:id=k
  ·subst n;exact x p
  rw[cr _ _ _ _ n] at m;exact m p
 have y:dT β (β.drop k):=λ_ _ _ c=> .inl c;refine {h with base:=λid hid=>h.base id hid,d':=λid hid=>h.d' id hid,eB:=λid b hid q=>h.eB id b hid q.2,inj:=λid r b m o=>h.inj id r b (nN m) (nN o),fresh:=λid b q=>h.fresh id b (nN q),heap:= ?_,dB:=λi=>(h.dB i).mono (Ext.refl _ _) (λb _=>l b) y (Shaped.refl _ _)};intro id e c;have c:a' s.H k (aa e') id=aa e:=c;by_cases n:id=k
 ·subst n;rw[cy] at c;cases c;cases A:s.H id with
  |none=>exact br A x
  |some p=>exact⟨(h.heap id p A).1,B⟩
 rw[cr _ _ _ _ n] at c;obtain⟨m,o⟩:=h.heap id e c;exact⟨m,o.mono (Ext.refl _ _) (λb _=>l b) y (λ_ h=>h) (Shaped.refl _ _) (λ_ _=>rfl) λb=>⟨λh=>h.2,λh=>⟨n,h⟩⟩⟩
theorem Ga{K:Ctx}{s:S}(k:Nat){gen:Nat}{v:List (List T)}(l:List dy)(m:Nat)(y:s.H k=aa (.arr e gen n v))(r:(U l m).ty=e)(A:(U l m).size=n)
  (B:v=[]\/(U l m).a1=[]):s.le K {s with H:=a' s.H k (aa (.aC l m gen v []))}:=by
 intro F a w h;refine⟨_,h.drop k (.aC l m gen v []) (by rw[y];simp) ?_⟩;have o:=(h.heap k _ y).2;subst r;subst A;refine⟨o.1,?_⟩;have p: ∀b,own K (F.drop k) (a' s.H k (aa (.aC l m gen v []))) b->own K F s.H b:=by
  rintro b (Q|⟨id,r,A⟩)
  ·exact .inl Q
  refine .inr ⟨id,λC=>?_,nN A⟩;by_cases G:id=k
  ·subst G;rw[y] at C;cases C
  rw[cr _ _ _ _ G] at r;exact r C
 rcases o.2 with ⟨aP,a2⟩|⟨b,R,aP,a2,a3,a4,a5⟩
 ·exact .inl ⟨aP,a2,λc q=>q.1 rfl⟩
 refine .inr ⟨b,R,λ_ _ _=>False,aP,a2,a3,a4,λi j D x u L W X=>Cell.of ?_,λ_ _ _ h=>h.elim,λ_ _ _ _ _ h=>h.elim,λc=>⟨λq=>br rfl q.1,λ⟨_,_,q⟩=>q.elim⟩⟩;rcases B with rfl|B
 ·simp at L
 have:(U l m).ed j=ak:=by unfold dy.ed;rw[B];rfl
 rw[this];exact .fm _ _ _ ((a5 i j D x u L W X).mono (Ext.refl _ _) λb _=>p b) λ_ h=>h
theorem aa2{K:Ctx}{s:S}(k:Nat){e:List dy}{gen:Nat}{v:List (List T)}(y:s.H k=aa (.aC e m gen v []))(q:dC K.eg k=ab):
  s.le K {s with H:=a' s.H k (aa (.arr (U e m).ty gen (U e m).size v))}:=by
 have L:=e9 q;intro r a w h;refine⟨_,h.drop k (.arr (U e m).ty gen (U e m).size v) (by rw[y];simp) ?_⟩;have n:=(h.heap k _ y).2;have o: ∀b,own K (r.drop k) (a' s.H k (aa (.arr (U e m).ty gen (U e m).size v))) b->own K r s.H b:=by
  rintro b (p|⟨id,A,l⟩)
  ·exact .inl p
  refine .inr ⟨id,λC=>?_,nN l⟩;by_cases G:id=k
  ·subst G;rw[y] at C;cases C
  rw[cr _ _ _ _ G] at A;exact A C
 refine⟨n.1,?_⟩;rcases n.2 with ⟨aP,a2,_⟩|⟨b,Q,B,aP,a2,a3,a4,a5,jx,hB,fI⟩
 ·exact .inl ⟨aP,a2⟩
 refine .inr ⟨b,Q,aP,a2,a3,a4,λi j D x u R W X=>(a5 i j D x u R W X).none.wU o ?_⟩;intro c f p;have q:At r k c:= .inr ((fI c).2 ⟨i,j,f⟩);rcases p with p|⟨id,A,l⟩
 ·obtain⟨N,I⟩:=h.ko c p;rcases(h.fresh k c q).1 with F|M
  ·exact I F
  omega
 have:=h.inj _ _ _ (nN l) q;subst this;rcases l with ⟨g,l⟩|l
 ·have V:r id=aa (aa c,g):=l
  grind
 exact l.1 rfl
def Map.split(c:Map)(k a:Nat)(q:Option Nat)(N:Nat->Prop):Map:=
 ⟨λi=>bif b7 i a then aa (q,1) else c i,λid b=>(id=a/\N b)\/(id=k/\id≠a/\c.n k b/\ ¬N b/\q≠aa b)\/(id≠a/\id≠k/\c.n id b)⟩
theorem OK(h:i≠k):b7 i k=al:=by
 cases a:b7 i k with
 |false=>rfl
 |true=>exact br (db a) h
theorem Ad(b:Map)(k a:Nat)(q:Option Nat)(N:Nat->Prop):b.split k a q N a=aa (q,1):=by simp[Map.split]
theorem wx(a:Map)(k b:Nat)(q:Option Nat)(N:Nat->Prop)(id:Nat)(h:id≠b):a.split k b q N id=a id:=by simp[Map.split,OK h]
theorem abt{W:Map}{k L:Nat}{q:Option Nat}{N:Nat->Prop}(o: ∀b,q=aa b->W.n k b)(p: ∀b,N b->W.n k b){i b:Nat}(h:At (W.split k L q N) i b):
  (i=L/\W.n k b/\(q=aa b\/N b))\/(i≠L/\At W i b/\(i=k->(∃g,W k=aa (aa b,g))\/(¬N b/\q≠aa b))):=by
 rcases h with ⟨g,h⟩|⟨rfl,h⟩|⟨rfl,a,c,l,r⟩|⟨a,c,l⟩
 ·by_cases m:i=L
  ·subst m;rw[Ad] at h;cases h;exact .inl ⟨rfl,o _ rfl,.inl rfl⟩
  rw[wx _ _ _ _ _ _ m] at h;exact .inr ⟨m,.inl ⟨g,h⟩,λe=> .inl ⟨g,e▸h⟩⟩
 ·exact .inl ⟨rfl,p b h,.inr h⟩
 ·exact .inr ⟨a,.inr c,λ_=> .inr ⟨l,r⟩⟩
 exact .inr ⟨a,.inr l,λe=>br e c⟩
theorem Rel.split{K:Ctx}{s:S}(h:Rel K β s a w)(k cD:Nat)(q:Option Nat)(N:Nat->Prop)(p r:E)(R:s.H k≠ak)(L:s.u cD=al)
  (V: ∀b,q=aa b->β.n k b/\ ¬N b) (Y: ∀b,N b->β.n k b) (W: ∀b g,β k=aa (aa b,g)-> ¬β.n k b)
  (ajX:(∀b,own K (β.split k cD q N) (a' (a' s.H k (aa p)) cD (aa r)) b->own K β s.H b)->c4 (β.split k cD q N) w (own K (β.split k cD q N) (a' (a' s.H k (aa p)) cD (aa r))) k p)
  (X:(∀b,own K (β.split k cD q N) (a' (a' s.H k (aa p)) cD (aa r)) b->own K β s.H b)->c4 (β.split k cD q N) w (own K (β.split k cD q N) (a' (a' s.H k (aa p)) cD (aa r))) cD r):
  Rel K (β.split k cD q N) {t:=s.t,H:=a' (a' s.H k (aa p)) cD (aa r),u:=a' s.u cD ab} a w:=by
 have f:s.u k=ab:=by
  cases I:s.H k with
  |none=>exact br I R
  |some Q=>exact(h.heap k Q I).1
 have hne:k≠cD:=by intro e;subst e;rw[f] at L;cases L
 have y:= @abt β k cD q N (λb F=>(V b F).1) Y;have o: ∀b,own K (β.split k cD q N) (a' (a' s.H k (aa p)) cD (aa r)) b->own K β s.H b:=by
  rintro b (l|⟨id,m,G⟩)
  ·exact .inl l
  rcases y G with ⟨_,j,_⟩|⟨j,h4,_⟩
  ·exact .inr ⟨k,R,.inr j⟩
  refine .inr ⟨id,λQ=>?_,h4⟩;rw[cr _ _ _ _ j] at m;by_cases C:id=k
  ·subst C;exact R Q
  rw[cr _ _ _ _ C] at m;exact m Q
 have D:=h.d' cD L;have B: ∀id x,β id=aa x->β.split k cD q N id=aa x:=λid x l=>by
  rw[wx _ _ _ _ _ _ (by intro e;subst e;rw[D] at l;cases l)];exact l
 have M:dT β (β.split k cD q N):=dT.of B;refine {h with base:= ?_,low:= ?_,d':= ?_,eB:= ?_,inj:= ?_,fresh:= ?_,heap:= ?_,dB:=λi=>(h.dB i).mono (Ext.refl _ _) (λb _=>o b) M (Shaped.refl _ _)}
 ·refine h.base.keep λid hid=>wx _ _ _ _ _ _ ?_;intro e;subst e;have:=h.low id hid;rw[L] at this;cases this
 ·intro id hid;show a' s.u cD ab id=ab;by_cases e:id=cD
  ·subst e;exact cy _ _ _
  rw[cr _ _ _ _ e];exact h.low id hid
 ·intro id hid;have c:a' s.u cD ab id=al:=hid;by_cases e:id=cD
  ·subst e;rw[cy] at c;cases c
  rw[cr _ _ _ _ e] at c;rw[wx _ _ _ _ _ _ e];exact h.d' id c
 ·intro id b hid F;have c:a' s.u cD ab id=al:=hid;have e:id≠cD:=by intro e;subst e;rw[cy] at c;cases c
  rw[cr _ _ _ _ e] at c;rcases F with ⟨m,_⟩|⟨rfl,_,m,_⟩|⟨_,_,m⟩
  ·exact e m
  ·exact h.eB _ b c m
  exact h.eB id b c m
 ·intro id k' b m G;rcases y m with ⟨rfl,aP,a2⟩|⟨aP,a2,a3⟩<;>rcases y G with ⟨T,U,v⟩|⟨U,v,fi⟩
  ·exact T.symm
  ·have:=h.inj _ _ b (.inr aP) v
   grind
  ·subst T
   have:=h.inj _ _ b (.inr U) a2
   grind
  exact h.inj _ _ b a2 v
 ·intro id b F;rcases y F with ⟨_,aP,_⟩|⟨_,a2,_⟩
  ·exact h.fresh k b (.inr aP)
  exact h.fresh id b a2
 intro id e l;have l:a' (a' s.H k (aa p)) cD (aa r) id=aa e:=l;show a' s.u cD ab id=ab/\c4 _ w (own K _ (a' (a' s.H k (aa p)) cD (aa r))) id e;by_cases C:id=cD
 ·subst C;rw[cy] at l;cases l;exact⟨cy _ _ _,X o⟩
 rw[cr _ _ _ _ C] at l⊢;by_cases A:id=k
 ·subst A;rw[cy] at l;cases l
  grind
 rw[cr _ _ _ _ A] at l;obtain⟨m,G⟩:=h.heap id e l;exact⟨m,G.mono (Ext.refl _ _) (λb _=>o b) M (B id) (Shaped.refl _ _) (λ_ _=>rfl) (λb=>⟨λh=>by
  rcases h with ⟨h,_⟩|⟨h,_⟩|⟨_,_,h⟩
  ·exact br h C
  ·exact br h A
  exact h,λh=> .inr (.inr ⟨C,A,h⟩)⟩)⟩
def uB(j:Nat):List (Nat×Nat×V)->Bool
 | []=>ab
 |h::a=> !(b7 h.2.1 j)&&uB j a
theorem FL{j:Nat}: ∀{a:List (Nat×Nat×V)},uB j a=ab-> ∀i v,(i,j,v)∉a
 | [],_,_,_,h=>by cases h
 |h::a,b,i,v,hm=>by
  simp only[uB,cB,Bool.not_eq_true'] at b;rcases eh.1 hm with rfl|hm
  ·simp at b
  exact FL b.2 i v hm
theorem aal{K:Ctx}{s:S}(k cD i j R:Nat){r:List dy}{gen:Nat}{y:List (List T)}{W:List T}{l:List (List T)}{Y:List (Nat×Nat×V)}(hk:s.H k=aa (.aC r m gen y Y))(hu:s.u cD=al)
  (aL:y[i]? =aa W) (hj:W[j]? =aa (.bH l)) (hm:(U r m).ed j=aa R) (f: ∀v,(i,j,v)∉Y):
  s.le K {t:=s.t,H:=a' (a' s.H k (aa (.aC r m gen y ((i,j,.bd cD 1 (U r R).size 0 l.length)::Y)))) cD (aa (.aC r R 1 l [])),u:=a' s.u cD ab}:=by
 intro I a w h;have ahp:=(h.heap k _ hk).1;have F:k≠cD:=by intro e;subst e;rw[ahp] at hu;cases hu
 have hK:=(h.heap k _ hk).2;rcases hK.2 with ⟨aP,a2,_⟩|⟨b,us,B,aP,a2,a3,a4,a5,jx,hB,fI⟩
 ·rw[a2] at aL;simp at aL
 have hlt:=(d6.1 aL).1;have hjs:j<(U r m).size:=by rw[<-a4 W (bX aL)];exact(d6.1 hj).1
 have M:i*(U r m).size+j<us.size:=by
  have:(i+1)*(U r m).size<=y.length*(U r m).size:=dR _ hlt
  grind
 have p:=(a5 i j W _ us[i*(U r m).size+j] aL hj (hR M)).2 λv=>f v;rw[hm] at p;have G: ∀c g,I k=aa (aa c,g)-> ¬I.n k c:=by
  grind
 generalize akN:us[i*(U r m).size+j]=KL at p
 -- the cell's value under the new map, and the rest of the rows
 have L: ∀(q:Option Nat) (N:Nat->Prop),(∀c,B i j c↔(q=aa c\/N c))->(∀(X:Nat->Prop),bC (I.split k cD q N) w X (.bd cD 1 (U r R).size 0 l.length) KL)->
   ∀X,(∀c,X c->own K I s.H c)->c4 (I.split k cD q N) w X k (.aC r m gen y ((i,j,.bd cD 1 (U r R).size 0 l.length)::Y)):=by
  intro q N fC bx X gi;have hm':dT I (I.split k cD q N):=dT.of (λid x hx=>by
   have:id≠cD:=by intro e;subst e;rw[h.d' _ hu] at hx;cases hx
   rw[wx _ _ _ _ _ _ this];exact hx)
  refine⟨hK.1,.inr ⟨b,us,λA C c=>B A C c/\ ¬(A=i/\C=j),by rw[wx _ _ _ _ _ _ F];exact aP,a2,a3,a4,λA C D x u dm cM fJ=>⟨λv JO=>?_,λca=>?_⟩,
   λA C c f=>jx A C c f.1,λi1 y2 i2 nJ c h1 h2=>hB _ _ _ _ c h1.1 h2.1,λc=>?_⟩⟩
  ·rcases eh.1 JO with e|JO
   ·simp only[Prod.mk.injEq] at e;obtain⟨rfl,rfl,rfl⟩:=e
    have:u=KL:=by
     rw[<-akN];rw[hR M] at fJ;exact(Option.some.inj fJ).symm
    subst this;exact⟨bx X,λc f=>f.2 ⟨rfl,rfl⟩⟩
   obtain⟨c1,c2⟩:=(a5 A C D x u dm cM fJ).1 v JO;exact⟨c1.mono (Ext.refl _ _) (λc _=>gi c) hm' (Shaped.refl _ _),λc hx=>c2 c hx.1⟩
  ·have ahE: ¬(A=i/\C=j):=by rintro⟨rfl,rfl⟩;exact ca _ fh
   exact(((a5 A C D x u dm cM fJ).2 λv bx=>ca v (eW _ bx)).mono (Ext.refl _ _) (λc _=>gi c) λ_ _=>rfl).iff λc=>⟨λh=>h.1,λh=>⟨h,ahE⟩⟩
  constructor
  ·rintro(⟨h1,_⟩|⟨_,_,h1,h2,h3⟩|⟨_,h1,_⟩)
   ·exact br h1 F
   ·obtain⟨A,C,Q⟩:=(fI c).1 h1;refine⟨A,C,Q,?_⟩;rintro⟨rfl,rfl⟩;rcases(fC c).1 Q with h4|h4
    ·exact h3 h4
    exact h2 h4
   exact br rfl h1
  rintro⟨A,C,Q,ca⟩;refine .inr (.inl ⟨rfl,F,(fI c).2 ⟨A,C,Q⟩,λh4=>?_,λh4=>?_⟩)
  ·exact ca (hB _ _ _ _ c Q ((fC c).2 (.inr h4)))
  exact ca (hB _ _ _ _ c Q ((fC c).2 (.inl h4)))
 generalize Rk:B i j=ak_ at p L;cases p with
 |nil _ _ f'=>
  refine⟨_,h.split k cD ak (λ_=>False) _ (.aC r R 1 [] []) (by rw[hk];simp) hu (λb Q=>by cases Q) (λ_ h=>h.elim) G (λo=>L ak (λ_=>False) (λc=>⟨λh=>br h (f' c),λh=>by rcases h with h|h;cases h;exact h.elim⟩)
   (λX=> .ho cD 1 _ (df _) (Ad _ _ _ _ _)) _ o) λo=>⟨df _,.inl ⟨Ad _ _ _ _ _,rfl,λc f=>?_⟩⟩⟩
  rcases f with ⟨_,h⟩|⟨h,_⟩|⟨h,_⟩
  ·exact h
  ·exact F h.symm
  exact h rfl
 |own _ _ cM cap rM r7 _ hw Y JH cS kL b6 fC cJ f'=>
  have nE:I.n k cM:=(fI cM).2 ⟨i,j,by rw[Rk];exact(f' cM).2 (.inl rfl)⟩;refine⟨_,h.split k cD (aa cM) (λc=> ∃i j,r7 i j c) _ (.aC r R 1 l []) (by rw[hk];simp) hu (λb Q=>by cases Q;exact⟨nE,λ⟨A,C,yG⟩=>(fC A C _ yG).2.2 rfl⟩)
   (λc f=>(fI c).2 ⟨i,j,by rw[Rk];exact(f' c).2 (.inr f)⟩) G
   (λo=>L (aa cM) (λc=> ∃i j,r7 i j c) (λc=>⟨λh=>by rcases(f' c).1 h with h|h;exact .inl (by rw[h]);exact .inr h,λh=>(f' c).2 (by rcases h with h|h;cases h;exact .inl rfl;exact .inr h)⟩)
    (λX=>?_) _ o) λo=>⟨df _,.inr ⟨cM,rM,r7,Ad _ _ _ _ _,hw,by rw[Y];exact dR _ cS,kL,λA C D x u c1 c2 fi=>Cell.of ((b6 A C D x u c1 c2 fi).mono (Ext.refl _ _) (λc _=>o c) λ_ _=>rfl),fC,cJ,λc=>?_⟩⟩⟩
  ·have:=bC.bd (β:=I.split k cD (aa cM) λc=> ∃i j,r7 i j c) (w:=w) (X:=X) cD 1 (U r R).size 0 l.length cap cM rM.size (U r R).ty (df _) (Ad _ _ _ _ _) (iE.1 hw).1 (by unfold jb;rw[hw]) (by rw[dA];exact Y.symm) cS JH;rw[gL] at this;exact this
  constructor
  ·rintro(⟨_,h⟩|⟨h,_⟩|⟨h,_⟩)
   ·exact h
   ·exact br h.symm F
   exact br rfl h
  intro h;exact .inl ⟨rfl,h⟩
def Map.merge(a:Map)(k c gen:Nat):Map:=
 ⟨λi=>bif b7 i c then aa (ak,gen+1) else a i,λid b=>(id=k/\(a.n k b\/At a c b))\/(id≠k/\id≠c/\a.n id b)⟩
theorem NK(b:Map)(k a gen:Nat):b.merge k a gen a=aa (ak,gen+1):=by simp[Map.merge]
theorem wE(a:Map)(k b gen id:Nat)(h:id≠b):a.merge k b gen id=a id:=by simp[Map.merge,OK h]
theorem ace{W:Map}{k i gen n b:Nat}(a:k≠i)(h:At (W.merge k i gen) n b):n≠i/\(At W n b\/(n=k/\At W i b)):=by
 rcases h with ⟨g,h⟩|⟨rfl,h⟩|⟨m,e,l⟩
 ·by_cases c:n=i
  ·subst c;rw[NK] at h;cases h
  rw[wE _ _ _ _ _ c] at h;exact⟨c,.inl (.inl ⟨g,h⟩)⟩
 ·rcases h with h|h
  ·exact⟨a,.inl (.inr h)⟩
  exact⟨a,.inr ⟨rfl,h⟩⟩
 exact⟨e,.inl (.inr l)⟩
theorem Rel.merge{K:Ctx}{s:S}(h:Rel K β s a w)(k c gen:Nat)(q:Option Nat)(y:E)(j:s.H k≠ak)(D:s.H c≠ak)(R:k≠c)(I:K.eg<=c)(M:β c=aa (q,gen))(N:1<=gen)
  (T:(∀b,own K (β.merge k c gen) (a' (a' s.H c ak) k (aa y)) b->own K β s.H b)->dT β (β.merge k c gen)->c4 (β.merge k c gen) w (own K (β.merge k c gen) (a' (a' s.H c ak) k (aa y))) k y):
  Rel K (β.merge k c gen) {t:=s.t,H:=a' (a' s.H c ak) k (aa y),u:=s.u} a w:=by
 have W:s.u c=ab:=by
  cases F:s.H c with
  |none=>exact br F D
  |some B=>exact(h.heap c B F).1
 have G:s.u k=ab:=by
  cases F:s.H k with
  |none=>exact br F j
  |some B=>exact(h.heap k B F).1
 have o:=fun {id b}=> @ace β k c gen id b R;have r: ∀b,own K (β.merge k c gen) (a' (a' s.H c ak) k (aa y)) b->own K β s.H b:=by
  rintro b (m|⟨id,C,L⟩)
  ·exact .inl m
  obtain⟨X,A|⟨rfl,A⟩⟩:=o L
  ·refine .inr ⟨id,λB=>?_,A⟩;by_cases n:id=k
   ·subst n;exact j B
   rw[cr _ _ _ _ n,cr _ _ _ _ X] at C;exact C B
  exact .inr ⟨c,D,A⟩
 have v:dT β (β.merge k c gen):=by
  intro id Y g1 m;by_cases n:id=c
  ·subst n;rw[M] at m;cases m;exact .inr ⟨N,ak,gen+1,NK _ _ _ _,nf _⟩
  exact .inl (by rw[wE _ _ _ _ _ n];exact m)
 refine {h with base:= ?_,d':= ?_,eB:= ?_,inj:= ?_,fresh:= ?_,heap:= ?_,dB:=λi=>(h.dB i).mono (Ext.refl _ _) (λb _=>r b) v (Shaped.refl _ _)}
 ·exact h.base.keep λid hid=>wE _ _ _ _ _ O
 ·intro id hid;have l:s.u id=al:=hid;rw[wE _ _ _ _ _ (by intro e;subst e;rw[W] at l;cases l)];exact h.d' id l
 ·intro id b hid f;have l:s.u id=al:=hid;rcases f with ⟨rfl,_⟩|⟨_,_,X⟩
  ·rw[G] at l;cases l
  exact h.eB id b l X
 ·intro id U b C L;obtain⟨aP,a2|⟨rfl,a2⟩⟩:=o C<;>obtain⟨V,Q|⟨rfl,Q⟩⟩:=o L
  ·exact h.inj _ _ b a2 Q
  ·exact br (h.inj _ _ b a2 Q) aP
  ·exact br (h.inj _ _ b Q a2) V
  rfl
 ·intro id b f;obtain⟨_,A|⟨_,A⟩⟩:=o f
  ·exact h.fresh id b A
  exact h.fresh c b A
 intro id e m;have m:a' (a' s.H c ak) k (aa y) id=aa e:=m;show s.u id=ab/\c4 _ w (own K _ (a' (a' s.H c ak) k (aa y))) id e;by_cases n:id=k
 ·subst n;rw[cy] at m;cases m
  grind
 rw[cr _ _ _ _ n] at m;by_cases p:id=c
 ·subst p;rw[cy] at m;cases m
 rw[cr _ _ _ _ p] at m;obtain⟨C,L⟩:=h.heap id e m;exact⟨C,L.mono (Ext.refl _ _) (λb _=>r b) v (λx m=>by rw[wE _ _ _ _ _ p];exact m) (Shaped.refl _ _) (λ_ _=>rfl) (λb=>⟨λh=>by
  rcases h with ⟨h,_⟩|⟨_,_,h⟩
  ·exact br h n
  exact h,λh=> .inr ⟨n,p,h⟩⟩)⟩
theorem Xg{K:Ctx}{s:S}(k F i j m2 lJ z n:Nat){D:List dy}{gen:Nat}{p:List (List T)}{o:List T}{l:List (List T)}(hk:s.H k=aa (.aC D m gen p ((i,j,.bd F lJ z 0 n)::hs)))
  (pF:s.H F=aa (.aC D m2 lJ l [])) (et:z=(U D m2).size) (ca:n=l.length) (hne:k≠F) (s8:dC K.eg F=ab) (aL:p[i]? =aa o) (hm:(U D m).ed j=aa m2) (JC:dp j (U D m).size=ab) (bU: ∀v,(i,j,v)∉hs):
  s.le K {t:=s.t,H:=a' (a' s.H F ak) k (aa (.aC D m gen (p.set i (o.set j (.bH l))) hs)),u:=s.u}:=by
 subst et;subst ca;intro M a w h;have s8:=e9 s8;obtain⟨q,dr⟩:=rW (h.heap F _ pF).2;have hK:=(h.heap k _ hk).2;have Q:=(h.heap F _ pF).2;refine⟨_,h.merge k F lJ q (.aC D m gen (p.set i (o.set j (.bH l))) hs) (by rw[hk];simp) (by rw[pF];simp) hne s8 dr Q.1 λR hm'=>⟨hK.1,?_⟩⟩;rcases hK.2 with ⟨aP,a2,_⟩|⟨b,us,B,aP,a2,a3,a4,a5,jx,hB,fI⟩
 ·rw[a2] at aL;simp at aL
 have N:=(d6.1 aL).1
 -- the blocks of the slice
 have Y:At M k b:= .inl ⟨_,aP⟩;have ahn: ∀(u:Value),bC M w (own K M s.H) (.bd F lJ (U D m2).size 0 l.length) u->
   fP D w (own K (M.merge k F lJ) (a' (a' s.H F ak) k (aa (.aC D m gen (p.set i (o.set j (.bH l))) hs)))) (aa m2) (.bH l) u (λc=>At M F c):=by
  intro u hu;rcases fb hu dr with ⟨cap,cM,n2,iC,rfl,iS,hw,gj,pH,cS,JH⟩|⟨iS,_,h0,rfl⟩
  ·subst iS;rcases Q.2 with ⟨c1,_⟩|⟨fJ,rM,r7,c1,c2,fi,h7,ny,sM,pt,jZ⟩
   ·rw[dr] at c1;cases c1
   rw[dr] at c1;cases c1;rw[gL];have vF:rM.size=cap*(U D m2).size:=by
    unfold jb at gj;rw[c2] at gj;simp at gj;rw[gj.2,<-pH,dA]
   refine .own m2 l cM cap rM r7 _ c2 vF JH cS h7 (λy A W x u d1 d2 d3=>(ny y A W x u d1 d2 d3).none.mono (Ext.refl _ _) (λc _=>R c) λ_ _=>rfl) sM pt λc=>⟨?_,?_⟩
   ·rintro(⟨g,bV⟩|bV)
    ·rw[dr] at bV;cases bV;exact .inl rfl
    exact .inr ((jZ c).1 bV)
   rintro(rfl|bV)
   ·exact .inl ⟨_,dr⟩
   exact .inr ((jZ c).2 bV)
  subst iS
  have:l=[]:=nQ h0;subst this;refine .nil m2 _ λc bU=>?_;rcases bU with ⟨g,bV⟩|bV
  ·rw[dr] at bV;cases bV
  rcases Q.2 with ⟨_,_,fi⟩|⟨fJ,rM,r7,c1,_⟩
  ·exact fi c bV
  rw[dr] at c1;cases c1
 have X: ∀c,At M F c-> ¬At M k c:=λc C L=>hne (h.inj _ _ c L C);have Rb: ∀y A c,B y A c->At M k c:=λy A c bU=> .inr ((fI c).2 ⟨y,A,bU⟩);have hjs: ∀(x:T),o[j]? =aa x->j<(U D m).size:=λx hx=>by rw[<-a4 o (bX aL)];exact(d6.1 hx).1
 have hrl:o.length=(U D m).size:=a4 o (bX aL);by_cases f:j<o.length
 ·have JA:i*(U D m).size+j<us.size:=by
   have:(i+1)*(U D m).size<=p.length*(U D m).size:=dR _ N;rw[dN] at this;omega
  have yN:=a5 i j o o[j] us[i*(U D m).size+j] aL (bD f) (hR JA);obtain⟨tc,agG⟩:=yN.1 _ fh;refine .inr ⟨b,us,λy A c=>B y A c\/(y=i/\A=j/\At M F c),by rw[wE _ _ _ _ _ hne];exact aP,a2,by simpa using a3,?_,?_,?_,?_,?_⟩
  ·intro r b6;rcases xd b6 with b6|rfl
   ·exact a4 r b6
   simpa using hrl
  ·intro y A W x u dm cM fJ;by_cases q7:y=i/\A=j
   ·obtain⟨rfl,rfl⟩:=q7;rw[ia N] at dm;cases dm;rw[ia f] at cM;cases cM;rw[hR JA] at fJ;cases fJ;refine⟨λv bx=>br bx (bU v),λ_=>?_⟩;rw[hm];refine(ahn _ tc).iff λc=>⟨λh=>?_,λh=> .inr ⟨rfl,rfl,h⟩⟩
    rcases h with h|⟨_,_,h⟩
    ·exact br h (agG c)
    exact h
   have hold: ∃G hU,p[y]? =aa G/\G[A]? =aa hU/\hU=x:=by
    by_cases yP:y=i
    ·subst yP;rw[ia N] at dm;cases dm;rw[lp (by intro e;exact q7 ⟨rfl,e.symm⟩)] at cM;exact⟨o,x,aL,cM,rfl⟩
    rw[lp (Ne.symm yP)] at dm;exact⟨W,x,dm,cM,rfl⟩
   obtain⟨G,hU,d1,d2,rfl⟩:=hold;have sZ:=a5 y A G hU u d1 d2 fJ;have RD: ∀c,(B y A c\/(y=i/\A=j/\At M F c))↔B y A c:=λc=>⟨λh=>by
    rcases h with h|⟨C,L,_⟩
    ·exact h
    exact br ⟨C,L⟩ q7,.inl⟩
   refine⟨λv bx=>?_,λca=>?_⟩
   ·obtain⟨C,L⟩:=sZ.1 v (eW _ bx);exact⟨C.mono (Ext.refl _ _) (λc _=>R c) hm' (Shaped.refl _ _),λc hx=>L c ((RD c).1 hx)⟩
   refine((sZ.2 λv bx=>?_).mono (Ext.refl _ _) (λc _=>R c) λ_ _=>rfl).iff RD;rcases eh.1 bx with e|bx
   ·cases e;exact q7 ⟨rfl,rfl⟩
   exact ca v bx
  ·intro y A c I;rcases I with I|⟨rfl,rfl,I⟩
   ·simpa using jx y A c I
   refine⟨by simpa using N,O,λe=>?_⟩;subst e;exact X c I Y
  ·intro i1 y2 i2 nJ c C L;rcases C with C|⟨rfl,rfl,C⟩<;>rcases L with L|⟨rfl,rfl,L⟩
   ·exact hB _ _ _ _ c C L
   ·exact br (Rb _ _ c C) (X c L)
   ·exact br (Rb _ _ c L) (X c C)
   exact⟨rfl,rfl⟩
  intro c;constructor
  ·rintro(⟨_,C|C⟩|⟨C,_⟩)
   ·obtain⟨y,A,I⟩:=(fI c).1 C;exact⟨y,A,.inl I⟩
   ·exact⟨i,j,.inr ⟨rfl,rfl,C⟩⟩
   exact br rfl C
  rintro⟨y,A,I|⟨_,_,I⟩⟩
  ·exact .inl ⟨rfl,.inl ((fI c).2 ⟨y,A,I⟩)⟩
  exact .inl ⟨rfl,.inr I⟩
 exact br (by rw[hrl];simpa[Nat.blt_eq] using JC) f
theorem Rel.Kj{K:Ctx}{s:S}(h:Rel K β s a w)(k:Nat)(e e':E)(q:s.H k=aa e)(r:c4 β w (own K β s.H) k e->c4 β w (own K β s.H) k e'):
  Rel K β {s with H:=a' s.H k (aa e')} a w:=by
 have c: ∀b,own K β (a' s.H k (aa e')) b->own K β s.H b:=by
  rintro b (l|⟨id,m,n⟩)
  ·exact .inl l
  refine .inr ⟨id,λp=>?_,n⟩;by_cases o:id=k
  ·subst o;rw[q] at p;cases p
  rw[cr _ _ _ _ o] at m;exact m p
 refine {h with heap:= ?_,dB:=λi=>(h.dB i).mono (Ext.refl _ _) (λb _=>c b) (dT.refl _) (Shaped.refl _ _)};intro id x l;have l:a' s.H k (aa e') id=aa x:=l;by_cases o:id=k
 ·subst o;rw[cy] at l;cases l;obtain⟨m,n⟩:=h.heap id e q;exact⟨m,(r n).mono (Ext.refl _ _) (λb _=>c b) (dT.refl _) (λ_ h=>h) (Shaped.refl _ _) λ_ _=>rfl⟩
 rw[cr _ _ _ _ o] at l;obtain⟨m,n⟩:=h.heap id x l;exact⟨m,n.mono (Ext.refl _ _) (λb _=>c b) (dT.refl _) (λ_ h=>h) (Shaped.refl _ _) λ_ _=>rfl⟩
theorem aaC{K:Ctx}{s:S}(k i j:Nat){l:List dy}{gen:Nat}{c:List (List T)}{q:List T}{x:T}{Y:List (Nat×Nat×V)}(C:s.H k=aa (.aC l m gen c Y))(r:c[i]? =aa q)(D:q[j]? =aa x)(F:(U l m).ed j=ak)(G: ∀v,(i,j,v)∉Y):
  s.le K {s with H:=a' s.H k (aa (.aC l m gen c ((i,j,.t x)::Y)))}:=by
 intro L a w h;refine⟨L,h.Kj k _ (.aC l m gen c ((i,j,.t x)::Y)) C λo=>?_⟩;refine⟨o.1,?_⟩;rcases o.2 with ⟨aP,a2,_⟩|⟨b,Q,B,aP,a2,a3,a4,a5,jx,hB,fI⟩
 ·rw[a2] at r;simp at r
 refine .inr ⟨b,Q,B,aP,a2,a3,a4,λR W p X u y A f=>?_,jx,hB,fI⟩;have n:=a5 R W p X u y A f;refine⟨λv bx=>?_,λI=>n.2 λv bx=>I v (eW _ bx)⟩;rcases eh.1 bx with e|bx
 ·simp only[Prod.mk.injEq] at e;obtain⟨rfl,rfl,rfl⟩:=e;rw[r] at y;cases y;rw[D] at A;cases A
  have:=n.2 G;rw[F] at this;cases this with|fm _ _ _ h M=>exact⟨.t _ _ h,M⟩
 exact n.1 v bx
theorem Ys{K:Ctx}{s:S}(k i j:Nat){C:List dy}{gen:Nat}{n:List (List T)}{l:List T}{x:T}{M:List (Nat×Nat×V)}(hk:s.H k=aa (.aC C m gen n ((i,j,.t x)::M)))(D:n[i]? =aa l)(JC:dp j (U C m).size=ab)(hm:(U C m).ed j=ak)(bU:uB j M=ab):
  s.le K {s with H:=a' s.H k (aa (.aC C m gen (n.set i (l.set j x)) M))}:=by
 intro β a w h;refine⟨β,h.Kj k _ (.aC C m gen (n.set i (l.set j x)) M) hk λG=>?_⟩;refine⟨G.1,?_⟩;rcases G.2 with ⟨aP,a2,_⟩|⟨b,us,B,aP,a2,a3,a4,a5,jx,hB,fI⟩
 ·rw[a2] at D;simp at D
 have L:=(d6.1 D).1;have Q:l.length=(U C m).size:=a4 l (bX D);have q:j<l.length:=by rw[Q];simpa[Nat.blt_eq] using JC
 refine .inr ⟨b,us,B,aP,a2,by simpa using a3,λr b6=>?_,λy A R jO u F W fJ=>?_,λy A c bw=>by simpa using jx y A c bw,hB,fI⟩
 ·rcases xd b6 with b6|rfl
  ·exact a4 r b6
  simpa using Q
 by_cases X:y=i/\A=j
 ·obtain⟨rfl,rfl⟩:=X;rw[ia L] at F;cases F;rw[ia q] at W;cases W;have p:=(a5 y A l l[A] u D (bD q) fJ).1 _ fh;refine⟨λv N=>br N (FL bU _ _),λ_=>?_⟩;rw[hm];obtain⟨h1,h2⟩:=p;cases h1 with|t _ _ h1=>exact .fm _ _ _ h1 h2
 have f: ∃o Y,n[y]? =aa o/\o[A]? =aa Y/\Y=jO:=by
  by_cases I:y=i
  ·subst I;rw[ia L] at F;cases F;rw[lp (by intro e;exact X ⟨rfl,e.symm⟩)] at W;exact⟨l,jO,D,W,rfl⟩
  rw[lp (Ne.symm I)] at F;exact⟨R,jO,F,W,rfl⟩
 obtain⟨o,Y,d1,d2,rfl⟩:=f;have p:=a5 y A o Y u d1 d2 fJ;refine⟨λv N=>p.1 v (eW _ N),λca=>p.2 λv N=>?_⟩
 grind
theorem aaj{K:Ctx}{s:S}(k i j m2:Nat){A:List dy}{gen:Nat}{n:List (List T)}{l:List T}{I:List (Nat×Nat×V)}(hk:s.H k=aa (.aC A m gen n ((i,j,.t .fp)::I)))(C:n[i]? =aa l)(Y:dp j (U A m).size=ab)(hm:(U A m).ed j=aa m2)(bU:uB j I=ab):
  s.le K {s with H:=a' s.H k (aa (.aC A m gen (n.set i (l.set j (.bH []))) I))}:=by
 intro β a w h;refine⟨β,h.Kj k _ (.aC A m gen (n.set i (l.set j (.bH []))) I) hk λF=>?_⟩;refine⟨F.1,?_⟩;rcases F.2 with ⟨aP,a2,_⟩|⟨b,us,B,aP,a2,a3,a4,a5,jx,hB,fI⟩
 ·rw[a2] at C;simp at C
 have G:=(d6.1 C).1;have L:l.length=(U A m).size:=a4 l (bX C);have q:j<l.length:=by rw[L];simpa[Nat.blt_eq] using Y
 refine .inr ⟨b,us,B,aP,a2,by simpa using a3,λr b6=>?_,λx y Q jO u D R fJ=>?_,λx y c bw=>by simpa using jx x y c bw,hB,fI⟩
 ·rcases xd b6 with b6|rfl
  ·exact a4 r b6
  simpa using L
 by_cases W:x=i/\y=j
 ·obtain⟨rfl,rfl⟩:=W;rw[ia G] at D;cases D;rw[ia q] at R;cases R;have p:=(a5 x y l l[y] u C (bD q) fJ).1 _ fh;refine⟨λv M=>br M (FL bU _ _),λ_=>?_⟩;rw[hm];obtain⟨h1,h2⟩:=p;cases h1 with|t _ _ h1=>cases h1 with|fp=>exact .nil _ _ h2
 have X: ∃o N,n[x]? =aa o/\o[y]? =aa N/\N=jO:=by
  by_cases f:x=i
  ·subst f;rw[ia G] at D;cases D;rw[lp (by intro e;exact W ⟨rfl,e.symm⟩)] at R;exact⟨l,jO,C,R,rfl⟩
  rw[lp (Ne.symm f)] at D;exact⟨Q,jO,D,R,rfl⟩
 obtain⟨o,N,d1,d2,rfl⟩:=X;have p:=a5 x y o N u d1 d2 fJ;refine⟨λv M=>p.1 v (eW _ M),λca=>p.2 λv M=>?_⟩
 grind
theorem aa3{K:Ctx}{s:S}(k:Nat){Q:List dy}{gen:Nat}{e:List (List T)}{C:List (Nat×Nat×V)}(l:List dy)(o:Nat)(G:s.H k=aa (.aC Q m gen e C))(L:dC K.eg k=ab)
  (h1:(U l o).ty=(U Q m).ty) (R:(U l o).size=(U Q m).size) (h3:(U l o).a1=[]):
  s.le K {s with H:=a' s.H k (aa (.aC l o gen e C))}:=by
 have s8:=e9 L;have D: ∀j,(U l o).ed j=ak:=λj=>by unfold dy.ed;rw[h3];rfl
 intro A a w h;have r:=(h.heap k _ G).2;have F:dT A (A.drop k):=λ_ _ _ y=> .inl y;rcases r.2 with ⟨aP,a2,a3⟩|⟨b,us,B,aP,a2,a3,a4,a5,jx,hB,fI⟩
 ·exact⟨_,h.drop k (.aC l o gen e C) (by rw[G];simp) ⟨r.1,.inl ⟨aP,a2,λc n=>n.1 rfl⟩⟩⟩
 refine⟨_,h.drop k (.aC l o gen e C) (by rw[G];simp) ⟨r.1,.inr ⟨b,us,λ_ _ _=>False,aP,by rw[h1];exact a2,by rw[R];exact a3,by rw[R];exact a4,?_,λ_ _ _ n=>n.elim,λ_ _ _ _ _ n=>n.elim,λc=>⟨λn=>(n.1 rfl).elim,λ⟨_,_,n⟩=>n.elim⟩⟩⟩⟩;intro i j W x u dm cM N;rw[R] at N;have Y:=a5 i j W x u dm cM N;generalize gi:own K (A.drop k) (a' s.H k (aa (.aC l o gen e C)))=X';have p: ∀b,X' b->own K A s.H b:=by
  subst gi;rintro b (y|⟨id,X,q⟩)
  ·exact .inl y
  refine .inr ⟨id,λf=>?_,nN q⟩;by_cases aL:id=k
  ·subst aL;rw[G] at f;cases f
  rw[cr _ _ _ _ aL] at X;exact X f
 refine⟨λv bx=>⟨(Y.1 v bx).1.mono (Ext.refl _ _) (λb _=>p b) F (Shaped.refl _ _),λ_ n=>n⟩,λI=>?_⟩;rw[D];refine .fm _ _ _ ((Y.2 I).wU p ?_) λ_ n=>n;intro c n y;subst gi;have L:At A k c:= .inr ((fI c).2 ⟨i,j,n⟩);rcases y with y|⟨id,X,q⟩
 ·obtain⟨ja,kW⟩:=h.ko c y;rcases(h.fresh k c L).1 with M|kJ
  ·exact kW M
  omega
 have:=h.inj _ _ _ (nN q) L;subst this;rcases q with ⟨g,q⟩|q
 ·have g3:A id=aa (aa c,g):=q
  grind
 exact q.1 rfl
def E.gen:E->Option Nat
 | .cells _=>ak
 | .arr _ g _ _=>aa g
 | .aC _ _ g _ _=>aa g
theorem nY{g:Nat}{e:E}(h:c4 W w X i e)(c:e.gen=aa g):1<=g/\ ∃q,W i=aa (q,g):=by
 cases e with
 |cells cs=>cases c
 |arr ty l size a=>
  cases c;exact⟨h.1,by rcases h.2 with ⟨k,_⟩|⟨b,n,k,_⟩<;>exact⟨_,k⟩⟩
 |aC o m l a p=>
  cases c;exact⟨h.1,rW h⟩
theorem Rel.Sl{K:Ctx}{s:S}(h:Rel K β s a w)(k:Nat)(e e':E)(g:Nat)(T:s.H k=aa e)(bV:e.gen=aa g)(C:Array Value)(D:TypeId)
  (he: ∀(y:Map) (M:Nat->Prop) (F:World),F=w.alloc (.cells C D)->y k=aa (aa w.heap.size,g+1)->(∀b,y.n k b↔β.n k b)->(∀v u,bC β w (own K β s.H) v u->bC y F M v u)->
   (∀x u,c7 w (own K β s.H) x u->c7 F M x u)->(∀U m x u N,(∀b,N b->β.n k b)->fP U w (own K β s.H) m x u N->fP U F M m x u N)->c4 y F M k e'):
  Rel K (β.put k (aa (aa w.heap.size,g+1))) {s with H:=a' s.H k (aa e')} a (w.alloc (.cells C D)):=by
 have c: ∀X,Ext X w (w.alloc (.cells C D)):=λX=>Ext.alloc X w _;have G:s.u k=ab:=(h.heap k _ T).1;obtain⟨L,tE,Q⟩:=nY (h.heap k _ T).2 bV;have l: ∀id b,At (β.put k (aa (aa w.heap.size,g+1))) id b->(id=k/\b=w.heap.size)\/At β id b:=λid b bw=>by
  rcases bw with ⟨g,bw⟩|bw
  ·by_cases q:id=k
   ·subst q;rw[jC] at bw;cases bw;exact .inl ⟨rfl,rfl⟩
   rw[fy _ _ _ _ q] at bw;exact .inr (.inl ⟨g,bw⟩)
  exact .inr (.inr bw)
 have o: ∀b,b<w.heap.size->own K (β.put k (aa (aa w.heap.size,g+1))) (a' s.H k (aa e')) b->own K β s.H b:=by
  rintro b hlt (R|⟨id,B,W⟩)
  ·exact .inl R
  rcases l id b W with ⟨rfl,rfl⟩|A
  ·omega
  refine .inr ⟨id,λV=>?_,A⟩;by_cases q:id=k
  ·subst q;rw[T] at V;cases V
  rw[cr _ _ _ _ q] at B;exact B V
 have f:Shaped β w (w.alloc (.cells C D)):=q3 (c _);have j:=Pj tE (aa w.heap.size) L Q;have I: ∀v u,bC β w (own K β s.H) v u->bC (β.put k (aa (aa w.heap.size,g+1))) (w.alloc (.cells C D)) (own K (β.put k (aa (aa w.heap.size,g+1))) (a' s.H k (aa e'))) v u:=
  λv u bx=>bx.mono (c _) o j f
 refine {ext:=h.ext.trans ((c λ_=>False).weaken λ_ _ h=>h.elim),q4:=h.q4,rs:=h.rs,ko:=h.ko,vQ:=h.vQ,base:= ?_,jK:=h.jK.ext h.ext.size (c _),low:=h.low,d':= ?_,eB:=λid b hid=>h.eB id b hid,inj:= ?_,fresh:= ?_,heap:= ?_,dB:=λi=>I _ _ (h.dB i),nt:=h.nt,defers:=h.defers}
 ·exact h.base.grow k g tE (aa w.heap.size) Q L (jC _ _ _) (λb bw=>by cases bw;exact .inr h.ext.size) λid q=>fy _ _ _ _ q
 ·intro id hid;have r:s.u id=al:=hid;by_cases e:id=k
  ·subst e;rw[G] at r;cases r
  rw[fy _ _ _ _ e];exact h.d' id r
 ·intro id Y b B W;rcases l id b B with ⟨rfl,rfl⟩|A<;>rcases l Y _ W with ⟨rfl,e⟩|h4
  ·rfl
  ·have:=(h.fresh _ _ h4).2;omega
  ·subst e;have:=(h.fresh _ _ A).2;omega
  exact h.inj _ _ _ A h4
 ·intro id b bw;rcases l id b bw with ⟨rfl,rfl⟩|A
  ·exact⟨.inr h.ext.size,bl⟩
  exact⟨(h.fresh _ _ A).1,by have:=(h.fresh _ _ A).2;simp;omega⟩
 intro id e2 p;have p:a' s.H k (aa e') id=aa e2:=p;show s.u id=ab/\c4 _ _ (own K _ (a' s.H k (aa e'))) id e2;by_cases q:id=k
 ·subst q;rw[cy] at p;cases p;exact⟨G,he _ _ _ rfl (jC _ _ _) (λ_=>Iff.rfl) I (λx u R=>R.mono (c _) o) λU m x u N f' b6=>b6.mono (c _) o λb bw=>Az _ _ _ (h.fresh id b (.inr (f' b bw))).2⟩
 rw[cr _ _ _ _ q] at p;obtain⟨B,W⟩:=h.heap id e2 p;refine⟨B,W.mono (c _) o j (λx R=>by rw[fy _ _ _ _ q];exact R) f λb bw=>Az _ _ _ (h.fresh id b bw).2⟩
theorem Rel.IQ{K:Ctx}{s:S}(h:Rel K β s a w)(k:Nat)(e e':E)(g:Nat)(q:Option Nat)(L:β k=aa (q,g))(A:1<=g)(f:s.H k=aa e)
  (j: ∀(r:Map) (Q:Nat->Prop),r k=aa (q,g+1)->(∀b,r.n k b↔β.n k b)->(∀v u,bC β w (own K β s.H) v u->bC r w Q v u)->(∀b,Q b->own K β s.H b)->c4 r w Q k e'):
  Rel K (β.put k (aa (q,g+1))) {s with H:=a' s.H k (aa e')} a w:=by
 have B:s.u k=ab:=(h.heap k _ f).1;have c: ∀id b,At (β.put k (aa (q,g+1))) id b->At β id b:=λid b bw=>by
  rcases bw with ⟨g,bw⟩|bw
  ·by_cases m:id=k
   ·subst m;rw[jC] at bw;cases bw;exact .inl ⟨_,L⟩
   rw[fy _ _ _ _ m] at bw;exact .inl ⟨g,bw⟩
  exact .inr bw
 have o: ∀b,own K (β.put k (aa (q,g+1))) (a' s.H k (aa e')) b->own K β s.H b:=by
  rintro b (R|⟨id,y,C⟩)
  ·exact .inl R
  refine .inr ⟨id,λW=>?_,c id b C⟩;by_cases m:id=k
  ·subst m;rw[f] at W;cases W
  rw[cr _ _ _ _ m] at y;exact y W
 have D:=Pj q q A L;have F: ∀v u,bC β w (own K β s.H) v u->bC (β.put k (aa (q,g+1))) w (own K (β.put k (aa (q,g+1))) (a' s.H k (aa e'))) v u:=λv u I=>I.mono (Ext.refl _ _) (λb _=>o b) D (Shaped.refl _ _);refine {h with base:= ?_,d':= ?_,inj:= ?_,fresh:=λid b bw=>h.fresh id b (c id b bw),heap:= ?_,dB:=λi=>F _ _ (h.dB i)}
 ·exact h.base.grow k g q q L A (cy _ _ _) (λb bw=> .inl bw) λid m=>fy _ _ _ _ m
 ·intro id hid;have p:s.u id=al:=hid;by_cases e:id=k
  ·subst e;rw[B] at p;cases p
  rw[fy _ _ _ _ e];exact h.d' id p
 ·intro id G b y C;exact h.inj id G b (c id b y) (c G b C)
 intro id X l;have l:a' s.H k (aa e') id=aa X:=l;show s.u id=ab/\c4 _ _ (own K _ (a' s.H k (aa e'))) id X;by_cases m:id=k
 ·subst m;rw[cy] at l;cases l;exact⟨B,j _ _ (jC _ _ _) (λ_=>Iff.rfl) F o⟩
 rw[cr _ _ _ _ m] at l;obtain⟨y,C⟩:=h.heap id X l;exact⟨y,C.mono (Ext.refl _ _) (λb _=>o b) D (λx R=>by rw[fy _ _ _ _ m];exact R) (Shaped.refl _ _) λ_ _=>rfl⟩
theorem aba{size:Nat}{a c:List (List T)}(o p h:List Value)(y:a.length=n)(A:o.length=n*size)(D:p.length=c.length*size)(B: ∀b,b∈a->b.length=size)(q: ∀b,b∈c->b.length=size){R:Nat->Nat->T->Value->Prop}
  (F: ∀(i j:Nat) (b:List T) (x:T) (u:Value),a[i]? =aa b->b[j]? =aa x->o[i*size+j]? =aa u->R i j x u)
  (G: ∀(i j:Nat) (b:List T) (x:T) (u:Value),c[i]? =aa b->b[j]? =aa x->p[i*size+j]? =aa u->R (n+i) j x u):
  ∀(i j:Nat) (b:List T) (x:T) (u:Value),(a++c)[i]? =aa b->b[j]? =aa x->(o++p++h)[i*size+j]? =aa u->R i j x u:=by
 intro i j b x u k w C;by_cases l:i<a.length
 ·rw[hz l] at k;have e:j<size:=by rw[<-B b (bX k)];exact(d6.1 w).1
  have m:i*size+j<o.length:=by rw[A,<-y];exact lV l e
  grind
 rw[ic O] at k;have e:j<size:=by rw[<-q b (bX k)];exact(d6.1 w).1
 have r:=(d6.1 k).1;have m:=lV (size:=size) r e
 grind
def ij(n:Nat):List (Nat×Nat×V)->List (Nat×Nat×V)
 | []=>[]
 |h::hs=>(n+h.1,h.2.1,h.2.2)::ij n hs
theorem BZ{n:Nat}: ∀{hs:List (Nat×Nat×V)} {i j:Nat} {v:V},(i,j,v)∈ij n hs↔ ∃k,i=n+k/\(k,j,v)∈hs
 | [],_,_,_=>by simp[ij]
 |h::hs,i,j,v=>by
  simp only[ij,List.mem_cons,Prod.mk.injEq,BZ (hs:=hs)];constructor
  ·rintro(⟨l,e,m⟩|⟨k,l,e⟩)
   ·exact⟨h.1,l,.inl (by obtain⟨a,b,c⟩:=h;cases e;cases m;rfl)⟩
   exact⟨k,l,.inr e⟩
  rintro⟨k,l,e|e⟩
  ·subst e;exact .inl ⟨l,rfl,rfl⟩
  exact .inr ⟨k,l,e⟩
def Bk(n:Map)(w:World)(X:Nat->Prop)(c:Nat)(a:List (List T))(m:List (Nat×Nat×V))(u:Value):Prop:=
 ∃(b e l:Nat) (k:List Value),u= .slice (aa ⟨b,e,ak⟩) a.length l/\k.length=a.length*c/\
  (∀(j:Nat) x,k[j]? =aa x->w.cell? ⟨b,e+j,ak⟩=aa x)/\(∀x,x∈k->x.oneCell'=ab)/\
  ∀(i j:Nat) (h:List T) (x:T) (y:Value),a[i]? =aa h->h[j]? =aa x->k[i*c+j]? =aa y->(∀v,(i,j,v)∈m->bC n w X v y)/\((∀v,(i,j,v)∉m)->c7 w X x y)
def uO:List (Nat×Nat×V)->Bool
 | []=>ab
 |h::a=>h.2.2.one&&uO a
theorem MD: ∀{a:List (Nat×Nat×V)} {i j:Nat} {v:V},uO a=ab->(i,j,v)∈a->v.one=ab
 | [],_,_,_,_,h=>by cases h
 |h::a,i,j,v,b,hm=>by
  simp only[uO,cB] at b;rcases eh.1 hm with rfl|hm
  ·exact b.1
  exact MD b.2 hm
def sc(d:dy)(n:Nat)(a:List (Nat×Nat×V)):Bool:=
 (List.range n).all λi=>d.a1.all λp=>a.any λh=>b7 h.1 i&&b7 h.2.1 p.1
theorem NN: ∀{l:List (Nat×Nat)} {j m:Nat},uY l j=aa m->(j,m)∈l
 | [],_,_,h=>by cases h
 |p::l,j,m,h=>by
  simp only[uY] at h;cases a:b7 p.1 j with
  |true=>rw[a] at h;cases h;rw[<-db a];exact fh
  |false=>rw[a] at h;exact eW _ (NN h)
theorem Mn{d:dy}(h:sc d n hs=ab)(e:i<n)(k:d.ed j=aa m): ∃v,(i,j,v)∈hs:=by
 have l:=gx.1 h i (xe.2 e);have o:=gx.1 l (j,m) (NN k);obtain⟨⟨a,b,v⟩,p,c⟩:=iZ.1 o;simp only[cB] at c;have q:=db c.1;have r:=db c.2
 grind
theorem Bk.of{K:Ctx}{s:S}(h:Rel K β s a w){g:Nat}{l:List dy}{c:List (List T)}{r:List (Nat×Nat×V)}{u:Value}(hk:s.H k=aa (.aC l m g c r))(ca:n=c.length)
  (hu:bC β w (own K β s.H) (.bd k g (U l m).size 0 n) u) (N:0<c.length) (c6:uO r=ab) (bU:sc (U l m) c.length r=ab):Bk β w (own K β s.H) (U l m).size c r u:=by
 subst ca;have W:=(h.heap k _ hk).2;rcases W.2 with ⟨_,D,_⟩|⟨b,Y,B,aP,a2,a3,a4,a5,jx,hB,fI⟩
 ·rw[D] at N;simp at N
 rcases fb hu aP with ⟨X,hY,wh,iC,rfl,f,hw,gj,pH,cS,hm⟩|⟨f,_⟩
 ·cases f;rw[gL];have A: ∀(i j:Nat) (o:List T) (x:T) (y:Value),c[i]? =aa o->o[j]? =aa x->Y[i*(U l m).size+j]? =aa y->
    (∀v,(i,j,v)∈r->bC β w (own K β s.H) v y)/\((∀v,(i,j,v)∉r)->c7 w (own K β s.H) x y):=by
   intro i j o x y C D R;have F:=a5 i j o x y C D R;refine⟨λv p=>(F.1 v p).1,λG=>?_⟩;have h6:=F.2 G;have L:(U l m).ed j=ak:=by
    cases I:(U l m).ed j with
    |none=>rfl
    |some akV=>
     obtain⟨v,p⟩:=Mn bU (d6.1 C).1 I;exact br p (G v)
   rw[L] at h6;cases h6 with|fm _ _ _ h _=>exact h
  refine⟨b,0,X,Y.toList.take (c.length*(U l m).size),rfl,cd,λj x q=>?_,λx hx=>?_,λi j o x y C D R=>?_⟩
  ·rw[fs] at q;split at q
   ·simp only[World.cell?,a2,Nat.zero_add];simpa using q
   cases q
  ·obtain⟨j,q⟩:=jq.1 hx;rw[fs] at q;split at q
   ·rename_i Q;have et:0<(U l m).size:=Nat.pos_of_ne_zero λe=>by rw[e] at Q;omega
    have C:j / (U l m).size<c.length:=by rw[rP et];exact Q
    have D:=rS j et;have R:=a4 _ (fV C);have he:j / (U l m).size*(U l m).size+j%(U l m).size=j:=by rw[Nat.mul_comm];exact Nat.div_add_mod ..
    obtain⟨c1,c2⟩:=A (j / (U l m).size) (j%(U l m).size) _ _ x (bD C) (bD (by omega:j%(U l m).size<(c[j / (U l m).size]).length)) (by rw[he];simpa using q);by_cases p: ∃v,(j / (U l m).size,j%(U l m).size,v)∈r
    ·obtain⟨v,p⟩:=p;exact(c1 v p).hP (MD c6 p)
    exact(c2 λv M=>p ⟨v,M⟩).hP
   cases q
  rw[fs] at R
  grind
 cases f
theorem Rel.IP{K:Ctx}{s:S}{t:TypeId}{u:TypeDesc}{z:Value}{gen size bytes:Nat}(h:Rel K β s a w)(k:Nat)(r:List dy)(m:Nat)(l o:List (List T))(C:List (Nat×Nat×V))(hk:s.H k=aa (.aC r m gen l []))(k8:(U r m).size=size)(j8:(U r m).ty=e)(ty:TypeId)
  (hu:K.P.underlying t=aa (.slice e)) (he:cj K.P e u z size bytes) (oN:z.cells.size=size) (hs: ∀p,p∈l->p.length=size) (Dm: ∀p,p∈o->p.length=size) (v x:Value) (bx:bC β w (own K β s.H) (.bd k gen size 0 l.length) v)
  (hx:Bk β w (own K β s.H) size o C x) (RT:0<o.length) (ag0:sc (U r m) o.length C=ab) (bw:(l.length+o.length)*bytes<=140737488355328) (hm:l.length+o.length<=maxLen):
  ∃ec w' D,(Builtin.append_ #[t,t] ty #[v,x]).run K.P w= .ok ec w'/\Rel K D {s with H:=a' s.H k (aa (.aC r m (gen+1) (l++o) (ij l.length C)))} a w'/\
   bC D w' (own K D (a' s.H k (aa (.aC r m (gen+1) (l++o) (ij l.length C))))) (.bd k (gen+1) size 0 (l.length+o.length)) ec:=by
 subst k8;subst j8;obtain⟨q,dr⟩:=rW (h.heap k _ hk).2;have jk:=(h.heap k _ hk).2.1;obtain⟨_,i,mF,hi2,Y,s3⟩:=id he;have hm':l.length+o.length<=9223372036854775807:=by unfold maxLen at hm;omega
 have kI:=(h.heap k _ hk).2.2;have R0: ∀p,p∈l++o->p.length=(U r m).size:=λp vD=>by
  rcases eX.1 vD with h|h
  ·exact hs p h
  exact Dm p h
 obtain⟨cM,off,C3,Q,mH,oM,JS,mG,hwr⟩:=hx;have JT: ∀j y,Q[j]? =aa y->w.cell? ((⟨cM,off,ak⟩:Addr).add j)=aa y:=λj y hy=>by rw[jD];exact JS j y hy
 have k9:(l.length+o.length)*i.bytes<=140737488355328:=by rw[s3];exact bw
 have aho: ∀i j,i<o.length->(∀v,(i,j,v)∉C)->(U r m).ed j=ak:=λi j aL lQ=>by
  cases hkk:(U r m).ed j with
  |none=>rfl
  |some akV=>
   obtain⟨v,bx⟩:=Mn ag0 aL hkk;exact br bx (lQ v)
 -- the cells of old and new rows, in whatever world
 have M: ∀(B:Nat->Nat->Nat->Prop) (D:Map) (w':World) (X':Nat->Prop),(∀v u,bC β w (own K β s.H) v u->bC D w' X' v u)->(∀x u,c7 w (own K β s.H) x u->c7 w' X' x u)->
   (∀i j c,B i j c->i<l.length)-> ∀(f rest:List Value),f.length=l.length*(U r m).size->
   (∀(i j:Nat) (p:List T) (x:T) (u:Value),l[i]? =aa p->p[j]? =aa x->f[i*(U r m).size+j]? =aa u->fP r w' X' ((U r m).ed j) x u (B i j))->
   ∀(i j:Nat) (p:List T) (x:T) (u:Value),(l++o)[i]? =aa p->p[j]? =aa x->(f++Q++rest)[i*(U r m).size+j]? =aa u->Cell r m (ij l.length C) D w' X' i j x u (B i j):=by
  intro B D w' X' lR oL fC f rest q9 ta;refine aba f Q rest rfl q9 oM hs Dm (R:=λi j x u=>Cell r m (ij l.length C) D w' X' i j x u (B i j)) (λi j p x u h1 h2 h3=>⟨λv bx=>?_,λ_=>ta i j p x u h1 h2 h3⟩) λi j p x u h1 h2 h3=>⟨λv bx=>?_,λlQ=>?_⟩
  ·obtain⟨gU,e1,_⟩:=BZ.1 bx
   have:=(d6.1 h1).1;omega
  ·obtain⟨gU,e1,e2⟩:=BZ.1 bx
   have:gU=i:=O
   subst this;exact⟨lR _ _ ((hwr gU j p x u h1 h2 h3).1 v e2),λc G=>by have:=fC _ _ _ G;omega⟩
  have RP: ∀v,(i,j,v)∉C:=λv bx=>lQ v (BZ.2 ⟨i,rfl,bx⟩);rw[aho i j (d6.1 h1).1 RP];exact .fm _ _ _ (oL _ _ ((hwr i j p x u h1 h2 h3).2 RP)) (λc G=>by have:=fC _ _ _ G;omega)
 -- a new block
 have finish: ∀(B:Nat->Nat->Nat->Prop) (f:List Value) (A:Nat),f.length=l.length*(U r m).size->l.length+o.length<=A->A<=maxLen->
   (∀(i j:Nat) (p:List T) (x:T) (u:Value),l[i]? =aa p->p[j]? =aa x->f[i*(U r m).size+j]? =aa u->fP r w (own K β s.H) ((U r m).ed j) x u (B i j))->
   (∀i j c,B i j c->i<l.length/\j<(U r m).size)->(∀i j gU ey c,B i j c->B gU ey c->i=gU/\j=ey)->(∀c,β.n k c↔ ∃i j,B i j c)->
   ∃D,Rel K D {s with H:=a' s.H k (aa (.aC r m (gen+1) (l++o) (ij l.length C)))} a (w.drew.alloc (.cells (f.toArray++Q.toArray++ei z.cells (A-(l.length+o.length))) (U r m).ty))/\
    bC D (w.drew.alloc (.cells (f.toArray++Q.toArray++ei z.cells (A-(l.length+o.length))) (U r m).ty)) (own K D (a' s.H k (aa (.aC r m (gen+1) (l++o) (ij l.length C))))) (.bd k (gen+1) (U r m).size 0 (l.length+o.length)) (.slice (aa ⟨w.heap.size,0,ak⟩) (l.length+o.length) A):=by
  intro B f A q9 Rx hcm ah4 fC cJ f';have yU:(f.toArray++Q.toArray++ei z.cells (A-(l.length+o.length))).size=A*(U r m).size:=by
   simp only[Array.size_append,List.size_toArray,size_zeroCells,oN,q9,oM,<-Nat.add_mul];congr 1;omega
  have vy:=xR h;have yS:=vy.Sl k _ (.aC r m (gen+1) (l++o) (ij l.length C)) gen hk rfl (f.toArray++Q.toArray++ei z.cells (A-(l.length+o.length))) (U r m).ty
   (λD X' w' hw' JV ca lR oL ta=>⟨O,.inr ⟨w.heap.size,_,B,JV,by subst hw';exact j0 w.drew _,by rw[yU,dQ];exact dR _ Rx,R0,
    λi j p x u aP a2 a3=>M B D w' X' (λv u JQ=>lR v u (JQ.mono (Ext.drew _ _) (λ_ _ h=>h) (dT.refl _) (q3 (Ext.drew _ _)))) (λx u JU=>oL x u (JU.mono (Ext.drew _ _) λ_ _ h=>h)) (λi j c G=>(fC i j c G).1) f (ei z.cells (A-(l.length+o.length))).toList q9
     (λi j p x u dm cM fJ=>ta r _ x u (B i j) (λc G=>(f' c).2 ⟨i,j,G⟩) ((ah4 i j p x u dm cM fJ).mono (Ext.drew _ _) (λ_ _ h=>h) λ_ _=>rfl)) i j p x u aP a2 (by simpa[<-Array.getElem?_toList] using a3),
    λi j c G=>⟨by have:=(fC i j c G).1;rw[dQ];omega,(fC i j c G).2,λe0=>by have:=(h.fresh k c (.inr ((f' c).2 ⟨i,j,G⟩))).2;rw[e0] at this;exact Nat.lt_irrefl _ this⟩,cJ,λc=>(ca c).trans (f' c)⟩⟩)
  refine⟨_,yS,?_⟩;have jE:bC (β.put k (aa (aa w.heap.size,gen+1))) (w.drew.alloc (.cells (f.toArray++Q.toArray++ei z.cells (A-(l.length+o.length))) (U r m).ty)) (own K (β.put k (aa (aa w.heap.size,gen+1))) (a' s.H k (aa (.aC r m (gen+1) (l++o) (ij l.length C))))) (.bd k (gen+1) (U r m).size 0 (l.length+o.length)) (.slice (aa ⟨w.heap.size,0*(U r m).size,ak⟩) (l.length+o.length) A):=by
   have vB:=j0 w.drew (.cells (f.toArray++Q.toArray++ei z.cells (A-(l.length+o.length))) (U r m).ty);refine .bd k (gen+1) (U r m).size 0 _ A w.heap.size (A*(U r m).size) (U r m).ty O (cy _ _ _) bl ?_ (by rw[dA]) Rx hcm;have ahD:(w.drew.alloc (.cells (f.toArray++Q.toArray++ei z.cells (A-(l.length+o.length))) (U r m).ty)).heap[w.heap.size]? =aa (.cells (f.toArray++Q.toArray++ei z.cells (A-(l.length+o.length))) (U r m).ty):=vB;unfold jb;rw[ahD];simp only[yU]
  rw[gL] at jE;exact jE
 subst mH;rcases fb bx dr with ⟨X,b,n,iC,rfl,j9,hw,gj,pH,cS,pG⟩|⟨j9,_,ahu,rfl⟩
 rotate_left
 ·have s9:l=[]:=nQ ahu;subst s9;have L:=run_append_nil (P:=K.P) w t ty (U r m).ty i z hu mF hi2 ⟨cM,off,ak⟩ o.length C3 Q (by rw[Y];exact oM) JT RT O (by simp at k9;omega);subst j9;have ahF: ∀c,¬β.n k c:=by
   rcases kI with ⟨_,_,h0⟩|⟨b,f,B,h1,_⟩
   ·exact h0
   rw[dr] at h1;cases h1
  obtain⟨D,f1,f2⟩:=finish (λ_ _ _=>False) [] (grownCap w o.length 0 (U r m).ty) bl (by simpa using grownCap_ge w o.length 0 (U r m).ty) (grownCap_le_maxLen w _ 0 (U r m).ty (by unfold maxLen;simp at hm';omega)) (λi j p x u h1 _ _=>by simp at h1)
   (λ_ _ _ h=>h.elim) (λ_ _ _ _ _ h=>h.elim) λc=>⟨λG=>br G (ahF c),λ⟨_,_,h⟩=>h.elim⟩
  simp only[List.length_nil,Nat.zero_add] at f1 f2⊢;exact⟨_,_,D,by rw[L];simp,f1,f2⟩
 subst j9;rcases kI with ⟨g1,_⟩|⟨hY,F,B,g1,g2,g3,g4,g5,g6,g7,g8⟩
 ·rw[dr] at g1;cases g1
 rw[dr] at g1;cases g1;have oI:F.size=X*(U r m).size:=by
  unfold jb at gj;rw[g2] at gj;simp at gj;rw[<-pH] at gj;rw[dA] at gj;exact gj.2
 have vE:(F.toList.take (l.length*(U r m).size)).length=l.length*(U r m).size:=cd
 have oL: ∀(i j:Nat) (p:List T) (x:T) (u:Value),l[i]? =aa p->p[j]? =aa x->(F.toList.take (l.length*(U r m).size))[i*(U r m).size+j]? =aa u->fP r w (own K β s.H) ((U r m).ed j) x u (B i j):=by
  intro i j p x u h1 h2 h3;rw[fs] at h3;split at h3
  ·exact(g5 i j p x u h1 h2 (by simpa using h3)).none
  cases h3
 simp only[Nat.zero_mul];by_cases I:l.length+o.length<=X
 ·have mE:l.length*(U r m).size+Q.length<=F.size:=by rw[oM,oI,<-dN];exact dR _ I
  have L:=run_append_room (P:=K.P) w t ty (U r m).ty i hu mF b l.length X F g2 ⟨cM,off,ak⟩ o.length C3 Q (by rw[Y];exact oM) JT mG I (by rw[Y];exact mE);rw[Y] at L;have N:(F.toList.take (l.length*(U r m).size)++Q++F.toList.drop (l.length*(U r m).size+Q.length)).toArray.size=F.size:=by
   simp;omega
  generalize lO:w.setRow b (F.toList.take (l.length*(U r m).size)++Q++F.toList.drop (l.length*(U r m).size+Q.length)).toArray=W at L;have JK:own K β s.H b:= .inr ⟨k,by rw[hk];simp,.inl ⟨_,dr⟩⟩;have Jy:Ext (own K β s.H) w W:=by
   subst lO;exact⟨rfl,rfl,rfl,bl,λkk _ hx=>setRow_other _ _ _ _ λe0=>hx (e0▸JK)⟩
  have ahW:Shaped β w W:=by subst lO;intro hY _;exact Fz g2 N hY
  have hrel:=h.setRow k b (.inl ⟨_,dr⟩) F (U r m).ty g2 (F.toList.take (l.length*(U r m).size)++Q++F.toList.drop (l.length*(U r m).size+Q.length)).toArray N (.aC r m gen (l++o) (ij l.length C)) (by rw[hk];simp)
   ⟨jk,Or.inr ⟨b,_,B,dr,setRow_heap _ _ _ _ _ _ g2,by rw[N,oI,dQ];exact dR _ I,R0,
    λi j p x u aP a2 a3=>by
     rw[lO];exact M B β W (own K β s.H) (λv u JQ=>JQ.mono Jy (λ_ _ h=>h) (dT.refl _) ahW) (λx u JU=>JU.mono Jy λ_ _ h=>h) (λi j c G=>(g6 i j c G).1) _ _ vE
      (λi j p x u dm cM fJ=>(oL i j p x u dm cM fJ).mono Jy (λ_ _ h=>h) λc G=>by subst lO;exact setRow_other _ _ _ _ (g6 i j c G).2.2) i j p x u aP a2 (by simpa using a3),
    λi j c G=>⟨by have:=(g6 i j c G).1;rw[dQ];omega,(g6 i j c G).2⟩,g7,g8⟩⟩
  rw[lO] at hrel;have RW:=hrel.IQ k (.aC r m gen (l++o) (ij l.length C)) (.aC r m (gen+1) (l++o) (ij l.length C)) gen (aa b) dr jk (cy _ _ _) (λD X' JV ca lR gi=>by
   have hK:=(hrel.heap k _ (cy _ _ _)).2;rcases hK.2 with ⟨e1,_⟩|⟨hY,fq,TQ,e1,e2,mA,py,k6,akH,akI,akJ⟩
   ·rw[dr] at e1;cases e1
   rw[dr] at e1;cases e1;exact⟨O,.inr ⟨b,fq,TQ,JV,e2,mA,py,λi j p x u c1 c2 fi=>⟨λv bx=>⟨lR _ _ ((k6 i j p x u c1 c2 fi).1 v bx).1,((k6 i j p x u c1 c2 fi).1 v bx).2⟩,λlQ=>((k6 i j p x u c1 c2 fi).2 lQ).mono (Ext.refl _ _) (λc _=>gi c) λ_ _=>rfl⟩,akH,akI,λc=>(ca c).trans (akJ c)⟩⟩)
  have Jl:a' (a' s.H k (aa (.aC r m gen (l++o) (ij l.length C)))) k (aa (.aC r m (gen+1) (l++o) (ij l.length C)))=a' s.H k (aa (.aC r m (gen+1) (l++o) (ij l.length C))):=by
   funext j;by_cases hj:j=k
   ·subst hj;rw[cy,cy]
   rw[cr _ _ _ _ hj,cr _ _ _ _ hj,cr _ _ _ _ hj]
  simp only[Jl] at RW;refine⟨_,_,_,L,RW,?_⟩;have jE:bC (β.put k (aa (aa b,gen+1))) W (own K (β.put k (aa (aa b,gen+1))) (a' s.H k (aa (.aC r m (gen+1) (l++o) (ij l.length C))))) (.bd k (gen+1) (U r m).size 0 (l.length+o.length)) (.slice (aa ⟨b,0*(U r m).size,ak⟩) (l.length+o.length) X):=by
   refine .bd k (gen+1) (U r m).size 0 _ X b (X*(U r m).size) (U r m).ty O (cy _ _ _) (by subst lO;simpa using hw) ?_ (by rw[dA]) I pG;subst lO;unfold jb;rw[setRow_heap _ _ _ _ _ _ g2];simp only[N,oI]
  rw[gL] at jE;exact jE
 have holds: ∀j u,(F.toList.take (l.length*(U r m).size))[j]? =aa u->w.cell? ((⟨b,0,ak⟩:Addr).add j)=aa u:=by
  intro j u hj;rw[jD,dA];rw[fs] at hj;split at hj
  ·simp only[World.cell?,g2];simpa using hj
  cases hj
 have L:=run_append_grow (P:=K.P) w t ty (U r m).ty i z hu mF hi2 ⟨b,0,ak⟩ l.length X (F.toList.take (l.length*(U r m).size)) (by rw[Y];exact vE) holds ⟨cM,off,ak⟩ o.length C3 Q (by rw[Y];exact oM) JT O O (growslice_fits O k9);obtain⟨D,f1,f2⟩:=finish B (F.toList.take (l.length*(U r m).size)) (grownCap w (l.length+o.length) X (U r m).ty) vE (grownCap_ge w _ X (U r m).ty) (grownCap_le_maxLen w _ X (U r m).ty hm) oL (λi j c G=>⟨(g6 i j c G).1,(g6 i j c G).2.1⟩) g7 g8;exact⟨_,_,D,L,f1,f2⟩
def u9(a:Nat)(b:List V):List (Nat×Nat×V)->List (Nat×Nat×V)
 | []=>[]
 |h::c=>(h.1,h.2.1,match dC a h.2.1,b[h.2.1-a]? with
  |true,aa v=>v
  |_,_=>h.2.2)::u9 a b c
theorem GF{off:Nat}{vs:List V}{i j:Nat}{v:V}: ∀{a:List (Nat×Nat×V)},(i,j,v)∈a-> ∃b,(i,j,b)∈u9 off vs a
 |h::a,hm=>by
  rcases eh.1 hm with rfl|hm
  ·exact⟨_,fh⟩
  obtain⟨b,c⟩:=GF hm;exact⟨b,eW _ c⟩
theorem GA{n:Nat}{a:List V}{i j:Nat}{v:V}: ∀{c:List (Nat×Nat×V)},(i,j,v)∈u9 n a c-> ∃b,(i,j,b)∈c/\(n<=j-> ∀x,a[j-n]? =aa x->v=x)/\(¬(n<=j/\j<n+a.length)->v=b)
 |h::c,hm=>by
  rcases eh.1 hm with e|hm
  ·simp only[Prod.mk.injEq] at e;obtain⟨rfl,rfl,rfl⟩:=e;refine⟨h.2.2,fh,λl x k=>?_,λm=>?_⟩
   ·rw[Nat.ble_eq_true_of_le l,k]
   split
   ·rename_i v o k
    have:=(d6.1 k).1
    have:=e9 o;exact br ⟨this,O⟩ m
   rfl
  obtain⟨b,p,q⟩:=GA hm;exact⟨b,eW _ p,q⟩
theorem aaz{e:List dy}{gen:Nat}{a:List (List T)}{Y:List (Nat×Nat×V)}(h:c4 W w X k (.aC e m gen a Y)){q:List T}{c:T}(p:a[i]? =aa q)(y:q[n]? =aa c):
  ∃(b:Nat) (l:Array Value) (N:Nat->Prop) (x:Value),W k=aa (aa b,gen)/\w.heap[b]? =aa (.cells l (U e m).ty (0,0))/\l[i*(U e m).size+n]? =aa x/\Cell e m Y W w X i n c x N:=by
 rcases h.2 with ⟨_,r,_⟩|⟨b,l,B,A,r,F,G,C,_⟩
 ·rw[r] at p;simp at p
 have D:i<a.length:=(d6.1 p).1;have L:n<(U e m).size:=by
  grind
 have o:i*(U e m).size+n<l.size:=by
  have:(i+1)*(U e m).size<=a.length*(U e m).size:=dR _ D
  grind
 exact⟨b,l,_,l[i*(U e m).size+n],A,r,by simp[o],C i n q c _ p y (by simp[o])⟩
section ob
variable {P:Program}{H:Nat->Option E}{d:Option Tmp}{ty:TypeId}{pos:String}{af:Array Edge}{g:Option (Nat×Bool)}
variable {t:TypeId}{u:TypeDesc}{z:Value}{size bytes:Nat}
theorem Ew(x:Operand)(o gen i a:Nat)(n:List dy)(m:Nat)(B:Nat)(e:List (List T))(p:List (Nat×Nat×V))(l:List T)(c:T)(v:V)(G:cj P t u z size bytes)(L:kC u=al)(Q:H o=aa (.aC n m gen e p))(R:(U n m).size=B)
  (W:e[i]? =aa l) (f:l[a]? =aa c) (q:(i,a,v)∈p\/((∀v,(i,a,v)∉p)/\(U n m).ed a=ak/\v= .t c)):
  cw P H ⟨d,.load t x,ty,pos,af,g⟩ [.cR o gen B i a] v:=by
 subst R;intro β w X ρ j I;obtain⟨b,us,N,y,M,Y,C,D⟩:=aaz (j o _ Q) W f;obtain⟨hY,r,hx⟩:=p2 I.1 M;cases r;have hlt:=(iE.1 C).1;have k:w.cell? ⟨b,i*(U n m).size+a,ak⟩=aa y:=by
  simp only[World.cell?,Y];exact C
 refine⟨y,?_,?_⟩
 ·simp[execOp,hx,Instr.loadAt,Instr.sureAddr,G.D0 w L k]
 rcases q with q|⟨A,hk,rfl⟩
 ·exact(D.1 v q).1
 have F:=D.2 A;rw[hk] at F;cases F with|fm _ _ _ h _=>exact .t _ _ h
theorem Ly(x:Operand)(r gen i a:Nat)(k:List dy)(m:Nat)(Q:Nat)(e:List (List T))(R:List (Nat×Nat×V))(h:List T)(y:List V)(W:cj P t u z size bytes)(f:kC u=ab)(I:H r=aa (.aC k m gen e R))(M:(U k m).size=Q)
  (n:e[i]? =aa h) (cS:a+size<=h.length) (o:y.length=size) (N: ∀j v,y[j]? =aa v->(i,a+j,v)∈R):
  cw P H ⟨d,.load t x,ty,pos,af,g⟩ [.cR r gen Q i a] (.agg y):=by
 subst M;intro β w X ρ Y gT;rcases(Y r _ I).2 with ⟨_,A,_⟩|⟨b,C,B,h1,A,h3,h4,h5,_⟩
 ·rw[A] at n;simp at n
 obtain⟨hY,D,hx⟩:=p2 gT.1 h1;cases D;have aL:i<e.length:=(d6.1 n).1;have hrl:h.length=(U k m).size:=h4 h (bX n);have p: ∀j,j<size->i*(U k m).size+a+j<C.size:=by
  intro j q
  have:(i+1)*(U k m).size<=e.length*(U k m).size:=dR _ aL
  grind
 have l: ∀j,j<size->w.cell? ⟨b,i*(U k m).size+a+j,ak⟩=aa (C.getD (i*(U k m).size+a+j) undef):=λj q=>by
  have:=p j q;simp[World.cell?,A,this]
 refine⟨_,by simp[execOp,hx,Instr.loadAt,Instr.sureAddr,W.D1 w f l];rfl,?_⟩;refine .agg _ _ (by simp[o]) λj c v F G=>?_;have q:j<size:=by
  grind
 simp only[List.getElem?_toArray,List.getElem?_map,List.getElem?_range q,gN,Option.some.injEq] at G;have L:=bD (O:a+j<h.length)
 have:=p j q;have h6:=(h5 i (a+j) h _ C[i*(U k m).size+a+j] n L (by rw[<-nR];simp[this])).1 c (N j c F)
 grind
theorem W9(x:Operand)(n gen o i c k a:Nat)(C:Array Field)(h:Field)(F:TypeDesc)(G:Value)(l p:Nat)(L:P.underlying t=aa (.struct C))(Q:C[k]? =aa h)(R:h.offset=a)(r:cj P h.type F G l p)(y:(l==0)=al)
  (e:E) (W:H n=aa e) (f:e.gen=aa gen):cw P H ⟨d,.fieldAddr t x k,ty,pos,af,g⟩ [.cR n gen o i c] (.cR n gen o i (c+a)):=by
 intro M w X N j v;obtain⟨A,q,D⟩:=nY (j n _ W) f;obtain⟨b,B,I⟩:=p2 v.1 D;subst B;have m:l≠0:=by simpa using y
 refine⟨.pointer (aa ⟨b,i*o+(c+a),ak⟩),?_,.cR _ _ _ _ _ _ A D⟩;simp[execOp,I,Instr.fieldAt,run_underlying L,Q,Instr.sureAddr,fieldPlace,r.run_sizeOf,m,jD,R,Nat.add_assoc]
theorem W7(x y:Operand)(e:TypeId)(i gen a c n:Nat)(p:E)(B:H i=aa p)(C:p.gen=aa gen)(D:P.underlying t=aa (.slice e))(F:cj P e u z size bytes)(f:n<c):
  cw P H ⟨d,.indexAddr t x y,ty,pos,af,g⟩ [.bd i gen size a c,.t (.int .i64 (n:Nat))] (.cR i gen size (a+n) 0):=by
 intro j w X G L k;have ca:=dO k.2.1;generalize r:G x=v at k;have h:=k.1;simp only[r] at h;obtain⟨l,q,A⟩:=nY (L i _ B) C;rcases fb h A with ⟨Q,b,m,R,rfl,o,I,M,W,N,T⟩|⟨_,_,U,_⟩
 ·subst o;refine⟨.pointer (aa ⟨b,(a+n)*size+0,ak⟩),?_,.cR _ _ _ _ _ b l A⟩;simp[execOp,r,ca,Instr.indexAt,asIntOf,run_underlying D,F.run_sizeOf,jD,Nat.add_mul]
  grind
 omega
theorem Y'(x:Operand)(e:TypeId)(l gen h i c:Nat)(p:P.underlying t=aa (.slice e))(n:E)(r:H l=aa n)(y:n.gen=aa gen):cw P H ⟨d,.call {callee:= .builtin .len,args:= #[x],argTypes:= #[t]},ty,pos,af,g⟩ [.bd l gen h i c] (.t (.int .i64 (c:Nat))):=by
 intro A w X o B C;obtain⟨a,cap,k⟩: ∃a cap,o x= .slice a c cap:=by
  have D:bC A w X (.bd l gen h i c) (o x):=C.1;obtain⟨_,q,F⟩:=nY (B l _ r) y;rcases fb D F with ⟨cap,b,m,G,k,_⟩|⟨_,_,L,k⟩
  ·exact⟨_,_,k⟩
  exact⟨ak,0,by rw[L];exact k⟩
 refine⟨.int .i64 (c:Nat),?_,.t _ _ (.int _ _)⟩;simp[execOp,resolve,invoke,builtin,k,Builtin.len_,run_underlying p,goInt]
end ob
section ops
variable {K:Ctx}{s:S}{d:Option Tmp}{ty:TypeId}{pos:String}{af:Array Edge}{g:Option (Nat×Bool)}
variable {t:TypeId}{u:TypeDesc}{z:Value}{gen size bytes:Nat}
theorem abh(k v I M:Nat)(x y:Operand)(e:TypeId)(q r:List dy)(m N:Nat)(c b:List (List T))(h:List (Nat×Nat×V))(Y: ∀i,d=aa i->dp i K.nt=ab)(hx:s.get x= .bd k gen size 0 c.length)(hy:s.get y= .bd v I size 0 M)(hk:s.H k=aa (.aC q m gen c []))(F:s.H v=aa (.aC r N I b h))
  (G:U r N=U q m) (L:M=b.length) (hu:K.P.underlying t=aa (.slice e)) (he:cj K.P e u z size bytes) (R:b7 z.cells.size size=ab) (W:(U q m).size=size) (j8:(U q m).ty=e) (hs: ∀l,l∈c->l.length=size) (X: ∀l,l∈b->l.length=size)
  (n:0<b.length) (o:sc (U q m) b.length h=ab) (c6:uO h=ab) (bw:(c.length+b.length)*bytes<=140737488355328) (hm:c.length+b.length<=9223372036854775807):
  dZ K ⟨d,.call {callee:= .builtin .append,args:= #[x,y],argTypes:= #[t,t]},ty,pos,af,g⟩ s
   (({s with H:=a' s.H k (aa (.aC q m (gen+1) (c++b) (ij c.length h)))}:S).put d (.bd k (gen+1) size 0 (c.length+b.length))):=by
 intro β a w next Q D f
 have A:=D.get x;rw[hx] at A;have B:=D.get y;rw[hy] at B;have p:=Bk.of D F L (by rw[G,W];exact B) n c6 (by rw[G];exact o);rw[G,W] at p;obtain⟨ec,w',j,h1,h2,h4⟩:=D.IP k q m c b h hk W j8 ty hu he (db R) hs X _ _ A p n o bw (by unfold maxLen;omega);unfold Oper.wp;have C:(execOp a.eval ⟨d,.call {callee:= .builtin .append,args:= #[x,y],argTypes:= #[t,t]},ty,pos,af,g⟩).run K.P w= .ok (.value ec) w':=by
  simp[execOp,resolve,invoke,builtin,h1]
 rw[C];exact f j _ w' (h2.put d Y h4)
theorem B6{R:Type}(f:Nat->R)(k:Nat)(a b:R):a' (a' f k a) k b=a' f k b:=by funext i;unfold a';cases b7 i k<;>rfl
theorem F'(s:S)(d:Option Tmp)(v:V):(s.put d v).H=s.H:=by cases d<;>rfl
theorem ML(s:S)(d:Option Tmp)(v:V)(F:Nat->Option E):({s.put d v with H:=F}:S)=({s with H:=F}:S).put d v:=by cases d<;>rfl
theorem MM{K:Ctx}{s:S}(k:Nat){Γ:List dy}{gen:Nat}{c:List (List T)}(o:s.H k=aa (.aC Γ m gen c []))(C:(U Γ m).a1=[]):
  s.le K {s with H:=a' s.H k (aa (.arr (U Γ m).ty gen (U Γ m).size c))}:=by
 intro r a w h;refine⟨_,h.drop k (.arr (U Γ m).ty gen (U Γ m).size c) (by rw[o];simp) ?_⟩;have e:=(h.heap k _ o).2;refine⟨e.1,?_⟩;have l: ∀b,own K (r.drop k) (a' s.H k (aa (.arr (U Γ m).ty gen (U Γ m).size c))) b->own K r s.H b:=by
  rintro b (D|⟨id,y,F⟩)
  ·exact .inl D
  refine .inr ⟨id,λp=>?_,nN F⟩;by_cases A:id=k
  ·subst A;rw[o] at p;cases p
  rw[cr _ _ _ _ A] at y;exact y p
 rcases e.2 with ⟨aP,a2,_⟩|⟨b,G,B,aP,a2,a3,a4,a5,_⟩
 ·exact .inl ⟨aP,a2⟩
 refine .inr ⟨b,G,aP,a2,a3,a4,λi j q x u L Q R=>?_⟩;have n:=(a5 i j q x u L Q R).none;rw[show(U Γ m).ed j=ak by unfold dy.ed;rw[C];rfl] at n;cases n with
 |fm _ _ _ n _=>exact n.mono (Ext.refl _ _) λb _=>l b
theorem acj(k:Nat)(x y:Operand)(e:TypeId)(c l:List (List T))(cJ: ∀i,d=aa i->dp i K.nt=ab)(hx:s.get x= .bd k gen size 0 c.length)(hy:dK (s.get y) (.t (.bH l)))(hk:s.H k=aa (.arr e gen size c))
  (hu:K.P.underlying t=aa (.slice e)) (he:cj K.P e u z size bytes) (oN:b7 z.cells.size size=ab) (hp:dp 0 size=ab) (hs:Rows size c) (C:Rows size l)
  (bw:(c.length+l.length)*bytes<=140737488355328) (hm:c.length+l.length<=9223372036854775807):
  dZ K ⟨d,.call {callee:= .builtin .append,args:= #[x,y],argTypes:= #[t,t]},ty,pos,af,g⟩ s
   (({s with H:=a' s.H k (aa (.arr e (gen+1) size (c++l)))}:S).put d (.bd k (gen+1) size 0 (c.length+l.length))):=by
 intro β a w next Q L hkk
 suffices H: ∃R w',(Builtin.append_ #[t,t] ty #[a.eval x,a.eval y]).run K.P w= .ok R w'/\ ∃o,Rel K o (({s with H:=a' s.H k (aa (.arr e (gen+1) size (c++l)))}:S).put d (.bd k (gen+1) size 0 (c.length+l.length))) (a.put d R) w' by
  obtain⟨R,w',W,o,h2⟩:=H;unfold Oper.wp;have X:(execOp a.eval ⟨d,.call {callee:= .builtin .append,args:= #[x,y],argTypes:= #[t,t]},ty,pos,af,g⟩).run K.P w= .ok (.value R) w':=by
   simp[execOp,resolve,invoke,builtin,W]
  rw[X];exact hkk o _ w' h2
 have f:0<size:=by simpa[Nat.blt_eq] using hp
 by_cases ca:l=[]
 ·subst ca;have p:=L.get x;rw[hx] at p;obtain⟨jk,q,I⟩:=nY (L.heap k _ hk).2 rfl;obtain⟨_,i,M,hi2,lP,s3⟩:=id he;obtain⟨N,cap,ah9⟩: ∃N cap,a.eval y= .slice N 0 cap:=by
   rcases Bg (hy _ _ _ _ (L.get y)) C f with (⟨h,_⟩|⟨b,V,cap,us,h,_⟩)|⟨_,N,cap,h⟩
   ·exact⟨_,_,h⟩
   ·exact⟨_,_,h⟩
   exact⟨_,_,h⟩
  have vx:=L.IQ k (.arr e gen size c) (.arr e (gen+1) size c) gen q I jk hk (λo X' W _ _ h4=>⟨O,by
   rcases(L.heap k _ hk).2.2 with ⟨D,Y⟩|⟨b,us,D,Y,fi,h7,ny⟩
   ·rw[I] at D;cases D;exact .inl ⟨W,Y⟩
   rw[I] at D;cases D;exact .inr ⟨b,us,W,Y,fi,h7,λi j F x u d1 d2 d3=>(ny i j F x u d1 d2 d3).mono (Ext.refl _ _) λb _=>h4 b⟩⟩)
  refine⟨a.eval x,w,?_,β.put k (aa (q,gen+1)),?_⟩
  ·rw[ah9];rcases fb p I with ⟨B,b,n,iC,r,A,hw,gj,pH,cS,pG⟩|⟨A,_,_,r⟩<;>rw[r]
   ·cases N<;>simp[Builtin.append_,run_underlying hu,sizeOf,typeInfo,M,Builtin.lenOf,Builtin.firstCells,cS,storeCells,loadCells,loadCellsFrom]
   cases N<;>simp[Builtin.append_,run_underlying hu,sizeOf,typeInfo,M,Builtin.lenOf,Builtin.firstCells,loadCells,loadCellsFrom]
  rw[jr];refine vx.put d cJ ?_;simp only[List.length_nil,Nat.add_zero];rcases fb p I with ⟨B,b,n,iC,r,A,hw,gj,pH,cS,pG⟩|⟨A,_,JF,r⟩<;>rw[r]<;>subst A
  ·exact .bd k (gen+1) size 0 _ B b n iC O (jC _ _ _) hw gj pH cS pG
  rw[JF];exact .ho k (gen+1) size O (jC _ _ _)
 obtain⟨xu,G⟩:=Ga k [⟨e,size,[]⟩] 0 hk rfl rfl (.inr rfl) β a w L;have p:bC xu w _ (s.get x) _:=G.get x;rw[hx] at p;have kM:=hy _ _ _ _ (G.get y);rcases Bg kM C f with (⟨_,h⟩|⟨b,V,cap,us,W,h2,h3,h4,h5⟩)|⟨h,_⟩
 ·exact br h ca
 ·obtain⟨R,w',o,e1,e2,mA⟩:=G.IP k [⟨e,size,[]⟩] 0 c l [] (cy _ _ _) rfl rfl ty hu he (db oN) hs C _ _ p ⟨b,V,cap,us,W,h2,h3,h4,λi j F x y D Y fi=>⟨λv bx=>by(cases bx),λ_=>h5 i j F x y D Y fi⟩⟩ (List.length_pos_iff.2 ca) (by simp[sc,U]) bw (by unfold maxLen;omega);obtain⟨TP,k6⟩:=MM (Γ:=[⟨e,size,[]⟩]) (m:=0) k (by rw[F'];exact cy _ _ _) rfl o _ _ (e2.put d cJ mA);rw[F'] at k6;refine⟨R,w',e1,TP,?_⟩;rw[ML,B6,B6] at k6;exact k6
 exact br h ca
theorem La(x y:Operand)(id i off:Nat)(k:List dy)(m:Nat)(o:List (List T))(G:List T)(v:V)(hs:List (Nat×Nat×V))(hx:s.get x= .cR id gen size i off)(bx:s.get y=v)(yV:v.val=ab)(nF:n0 v.cs=ab)
  (hH:s.H id=aa (.aC k m gen o hs)) (et:(U k m).size=size) {l:Nat} (fo:cj K.P t u z l bytes) (ah2:v.cs.length=l) (RT:0<l) (L:o[i]? =aa G) (cS:off+l<=G.length)
  {R:List (Nat×Nat×V)} (q5: ∀n ey ec,(n,ey,ec)∈R-> ∃F,(n,ey,F)∈hs/\((n=i/\off<=ey/\ey<off+l)->v.cs[ey-off]? =aa ec)/\(¬(n=i/\off<=ey/\ey<off+l)->ec=F)) (fC: ∀n ey F,(n,ey,F)∈hs-> ∃v1,(n,ey,v1)∈R) (hi2: ∀j,j<l-> ∃F,(i,off+j,F)∈hs):
  dZ K ⟨ak,.store t x y,ty,pos,af,g⟩ s {s with H:=a' s.H id (aa (.aC k m gen o R))}:=by
 subst et;intro β a w next Q b6 hk
 have yX:=b6.get x;rw[hx] at yX;have hK:=(b6.heap id _ hH).2;rcases hK.2 with ⟨_,h2,_⟩|⟨b,p,B,h1,h2,h3,h4,h5,h6,lM,mC⟩
 ·rw[h2] at L;simp at L
 obtain⟨hY,iS,mH⟩:=p2 yX h1;cases iS;have aL:=(d6.1 L).1;have hrl:G.length=(U k m).size:=h4 G (bX L);have JA:i*(U k m).size+off+l<=p.size:=by
  have:(i+1)*(U k m).size<=o.length*(U k m).size:=dR _ aL;rw[dN] at this;omega
 have kM:=b6.get y;rw[bx] at kM;obtain⟨c1,c2⟩:=kM.cells yV;have W:(a.eval y).cells.size=l:=c1.trans ah2;have I: ∀e∈(a.eval y).cells.toList,e.oneCell'=ab:=by
  intro e he;obtain⟨j,hj⟩:=jq.1 he;have hj':(a.eval y).cells[j]? =aa e:=by simpa using hj
  have hlt:=(iE.1 hj').1;have bU:=bD (O:j<v.cs.length);exact(c2 j _ e bU hj').hP (FW nF bU)
 unfold Oper.wp;have yT:=EY fo w b (i*(U k m).size+off) p _ (a.eval y) h2 W O I;have M:(execOp a.eval ⟨ak,.store t x y,ty,pos,af,g⟩).run K.P w= .ok .skip (w.setRow b (p.toList.take (i*(U k m).size+off)++(a.eval y).cells.toList++p.toList.drop (i*(U k m).size+off+(a.eval y).cells.toList.length)).toArray):=by
  simp only[execOp,mH,Instr.storeAt,Instr.sureAddr,e5,hh,eV,yT]
 rw[M];have hlen:(p.toList.take (i*(U k m).size+off)++(a.eval y).cells.toList++p.toList.drop (i*(U k m).size+off+(a.eval y).cells.toList.length)).length=p.size:=by
  simp[W];omega
 have N:own K β s.H b:= .inr ⟨id,by rw[hH];simp,.inl ⟨_,h1⟩⟩;generalize Y:(p.toList.take (i*(U k m).size+off)++(a.eval y).cells.toList++p.toList.drop (i*(U k m).size+off+(a.eval y).cells.toList.length)).toArray=q at*;have r:q.size=p.size:=by rw[<-Y];simpa using hlen
 have X:Ext (own K β s.H) w (w.setRow b q):=⟨rfl,rfl,rfl,bl,λkk _ hx=>setRow_other _ _ _ _ λe0=>hx (e0▸N)⟩
 have f:Shaped β w (w.setRow b q):=λhY _=>Fz h2 r hY;refine hk β _ _ (Rel.setRow b6 id b (.inl ⟨_,h1⟩) p _ h2 q r (.aC k m gen o R) (by rw[hH];simp) ?_);refine⟨hK.1,.inr ⟨b,q,B,h1,setRow_heap _ _ _ _ _ _ h2,by rw[r];exact h3,h4,λn ey A jO rL aP a2 a3=>?_,h6,lM,mC⟩⟩;have hjs:ey<(U k m).size:=by rw[<-h4 A (bX aP)];exact(d6.1 a2).1
 by_cases q7:n=i/\off<=ey/\ey<off+l
 ·obtain⟨rfl,ahk,ahl⟩:=q7;obtain⟨F,yQ⟩:=hi2 (ey-off) O;rw[show off+(ey-off)=ey by omega] at yQ;have C:=h5 n ey A jO p[n*(U k m).size+ey] aP a2 (by rw[hR O]);obtain⟨v1,yR⟩:=fC _ _ _ yQ;refine⟨λec D=>⟨?_,(C.1 F yQ).2⟩,λlQ=>br yR (lQ v1)⟩;obtain⟨_,_,q2,_⟩:=q5 _ _ _ D;have ag1:=q2 ⟨rfl,ahk,ahl⟩
  have:(a.eval y).cells[ey-off]? =aa rL:=by
   rw[<-Y] at a3;simp only[List.getElem?_toArray] at a3;rw[hz (by simp[W];omega),ic cd] at a3;have mA:n*(U k m).size+ey-(p.toList.take (n*(U k m).size+off)).length=ey-off:=by
    rw[c8,l3];omega
   rw[mA] at a3;simpa using a3
  exact(c2 _ _ rL ag1 this).mono X (λ_ _ h=>h) (dT.refl _) f
 have hne:n*(U k m).size+ey<i*(U k m).size+off\/i*(U k m).size+off+l<=n*(U k m).size+ey:=by
  rcases Nat.lt_trichotomy n i with h|h|h
  ·have:=dR (U k m).size (O:n+1<=i);rw[dN] at this;omega
  ·subst h
   have: ¬(off<=ey/\ey<off+l):=λh=>q7 ⟨rfl,h⟩;omega
  have:=dR (U k m).size (O:i+1<=n);rw[dN] at this;omega
 have C:p[n*(U k m).size+ey]? =aa rL:=by
  rw[<-Y] at a3;simp only[List.getElem?_toArray,List.getElem?_append,List.length_append,List.length_take,List.getElem?_take,List.getElem?_drop,Array.length_toList,W] at a3;rw[show min (i*(U k m).size+off) p.size=i*(U k m).size+off by omega] at a3;rcases hne with hlt|kJ
  ·rw[bg O,bg O,bg O] at a3;simpa using a3
  rw[be O] at a3;rw[show i*(U k m).size+off+l+(n*(U k m).size+ey-(i*(U k m).size+off+l))=n*(U k m).size+ey by omega] at a3;simpa using a3
 have sZ:=h5 n ey A jO rL aP a2 C;have hc1:=sZ.mono (β':=β) X (λ_ _ h=>h) (dT.refl _) f λc bU=>setRow_other _ _ _ _ (h6 _ _ _ bU).2.2;refine⟨λec D=>?_,λlQ=>hc1.2 λec D=>?_⟩
 ·obtain⟨F,mQ,_,rA⟩:=q5 _ _ _ D;rw[rA q7];exact hc1.1 F mQ
 obtain⟨v1,yR⟩:=fC _ _ _ D;exact lQ v1 yR
theorem WT(x y:Operand)(w i a:Nat)(A:List dy)(m:Nat)(b:List (List T))(e:List T)(v:V)(n:List (Nat×Nat×V))(W:s.get x= .cR w gen size i a)(X:s.get y=v)(o:v.val=ab)(p:n0 v.cs=ab)
  (f:s.H w=aa (.aC A m gen b n)) (I:(U A m).size=size) {c:Nat} (M:cj K.P t u z c bytes) (C:v.cs.length=c) (q:0<c) (D:b[i]? =aa e) (N:a+c<=e.length)
  (F: ∀r k l,(r,k,l)∈n->a<=k->k<a+c->r=i) (G: ∀j,j<c-> ∃l,(i,a+j,l)∈n):
  dZ K ⟨ak,.store t x y,ty,pos,af,g⟩ s {s with H:=a' s.H w (aa (.aC A m gen b (u9 a v.cs n)))}:=by refine La x y w i a A m b e v n W X o p f I M C q D N (λr k ec L=>?_) (λr k l L=>GF L) G;obtain⟨l,Q,Y,g3⟩:=GA L;refine⟨l,Q,λ⟨_,B,h2⟩=>?_,λh=>g3 λ⟨B,h2⟩=>h ⟨F r k l Q B O,B,O⟩⟩;have R:=bD (O:k-a<v.cs.length);rw[R,Y B _ R]
end ops
def Map.sub(a:Map)(k:Nat)(N:Nat->Prop):Map:=⟨a.f,λid b=>a.n id b/\(id=k->N b)⟩
theorem x'{N:Nat->Prop}(h:At (W.sub k N) i b):At W i b:=by
 rcases h with h|h
 ·exact .inl h
 exact .inr h.1
theorem Rel.sub{K:Ctx}{s:S}(h:Rel K β s a w)(k:Nat)(N:Nat->Prop)(e':E)(x:s.H k≠ak)
  (B:c4 (β.sub k N) w (own K (β.sub k N) (a' s.H k (aa e'))) k e'):Rel K (β.sub k N) {s with H:=a' s.H k (aa e')} a w:=by
 have l: ∀b,own K (β.sub k N) (a' s.H k (aa e')) b->own K β s.H b:=by
  rintro b (c|⟨id,m,o⟩)
  ·exact .inl c
  refine .inr ⟨id,λp=>?_,x' o⟩;by_cases n:id=k
  ·subst n;exact x p
  rw[cr _ _ _ _ n] at m;exact m p
 have y:dT β (β.sub k N):=λ_ _ _ c=> .inl c;refine {h with base:=λid hid=>h.base id hid,d':=λid hid=>h.d' id hid,eB:=λid b hid q=>h.eB id b hid q.1,inj:=λid r b m o=>h.inj id r b (x' m) (x' o),fresh:=λid b q=>h.fresh id b (x' q),heap:= ?_,dB:=λi=>(h.dB i).mono (Ext.refl _ _) (λb _=>l b) y (Shaped.refl _ _)};intro id e c;have c:a' s.H k (aa e') id=aa e:=c;by_cases n:id=k
 ·subst n;rw[cy] at c;cases c;cases A:s.H id with
  |none=>exact br A x
  |some p=>exact⟨(h.heap id p A).1,B⟩
 rw[cr _ _ _ _ n] at c;obtain⟨m,o⟩:=h.heap id e c;exact⟨m,o.mono (Ext.refl _ _) (λb _=>l b) y (λ_ h=>h) (Shaped.refl _ _) (λ_ _=>rfl) λb=>⟨λh=>h.1,λh=>⟨h,λe=>br e n⟩⟩⟩
theorem Rel.pick{K:Ctx}{s:S}(h:Rel K β s a w)(k:Nat){p:List dy}{gen X:Nat}{r:List (List T)}{f:List (Nat×Nat×V)}(hk:s.H k=aa (.aC p m gen r f))(et:(U p m).size=X)
   {us:Array Value} (dr:β k=aa (aa b,gen)) (bw:w.heap[b]? =aa (.cells us (U p m).ty (0,0)))
  {w':World} {C:Array Value} (hs:C.size=us.size) (j9:w'.heap[b]? =aa (.cells C (U p m).ty (0,0))) (I:Ext (λx=>x=b) w w') (l:List (List T)) (cS:l.length*X<=us.size) (R: ∀o,o∈l->o.length=X)
  (W:Nat) (y:List (Nat×Nat×V)) (oJ: ∀i j v,(i,j,v)∈y->W<=i/\v= .c') (ahb: ∀i j,W<=i->i<l.length->j<X->(i,j,V.c')∈y) (G:Nat->Nat)
  (aik: ∀i,i<W->i<l.length->G i<r.length/\l[i]? =r[G i]? /\(∀j v,(G i,j,v)∉f)/\ ∀j,j<X->C[i*X+j]? =us[G i*X+j]?) (ahh: ∀i L,i<W->L<W->i<l.length->L<l.length->G i=G L->i=L):
  ∃β',(∀id,β' id=β id)/\Rel K β' {s with H:=a' s.H k (aa (.aC p m gen l y))} a w':=by
 subst et;have M:s.H k≠ak:=by rw[hk];simp
 obtain⟨jk,hK⟩:=(h.heap k _ hk).2;obtain⟨B,kL,Y,Re,agH,Rc⟩: ∃B:Nat->Nat->Nat->Prop,(∀o,o∈r->o.length=(U p m).size)/\
   (∀(i j:Nat) (o:List T) (x:T) (u:Value),r[i]? =aa o->o[j]? =aa x->us[i*(U p m).size+j]? =aa u->Cell p m f β w (own K β s.H) i j x u (B i j))/\
   (∀i j c,B i j c->i<r.length/\j<(U p m).size/\c≠b)/\(∀i j L ey c,B i j c->B L ey c->i=L/\j=ey)/\ ∀c,β.n k c↔ ∃i j,B i j c:=by
  rcases hK with ⟨A,_⟩|⟨cM,rM,B,A,Q,h3,h4,h5,h6,lM,mC⟩
  ·rw[dr] at A;cases A
  rw[dr] at A;cases A;rw[bw] at Q;cases Q;exact⟨B,h4,h5,h6,lM,mC⟩
 have JK:own K β s.H b:= .inr ⟨k,M,.inl ⟨_,dr⟩⟩;have Rw:b<w.heap.size:=(iE.1 bw).1
 -- the block told anew, its rows not told
 have q5:=h.setRow k b (.inl ⟨_,dr⟩) us (U p m).ty bw C hs (.arr (U p m).ty gen 1 []) M ⟨jk,.inr ⟨b,C,dr,setRow_heap _ _ _ _ _ _ bw,bl,bl,λi j o x u A=>by simp at A⟩⟩;have fC:Rel K β {s with H:=a' s.H k (aa (.arr (U p m).ty gen 1 []))} a w':=by
  refine q5.grow ⟨I.os,I.tape,I.output,?_,λx hx _=>?_⟩
  ·have:=I.size;simpa using this
  by_cases e:x=b
  ·subst e;rw[j9,setRow_heap _ _ _ _ _ _ bw]
  rw[setRow_other _ _ _ _ e];exact I.keep x (by simpa using hx) e
 obtain⟨N,f'⟩: ∃N:Nat->Prop,N=λc=> ∃i j,i<W/\i<l.length/\B (G i) j c:=⟨_,rfl⟩
 refine⟨β.sub k N,λ_=>rfl,?_⟩;have hC:=fC.sub k N (.aC p m gen l y) (by show a' s.H k _ k≠ak;rw[cy];simp) ?_
 ·have e:a' (a' s.H k (aa (E.arr (U p m).ty gen 1 []))) k (aa (.aC p m gen l y))=a' s.H k (aa (.aC p m gen l y)):=by
   funext i;by_cases D:i=k
   ·subst D;rw[cy,cy]
   rw[cr _ _ _ _ D,cr _ _ _ _ D,cr _ _ _ _ D]
  have Rf:Rel K _ {s with H:=a' (a' s.H k (aa (E.arr (U p m).ty gen 1 []))) k (aa (.aC p m gen l y))} a w':=hC;rw[e] at Rf;exact Rf
 have gi: ∀x,own K (β.sub k N) (a' (a' s.H k (aa (E.arr (U p m).ty gen 1 []))) k (aa (.aC p m gen l y))) x->own K β s.H x:=by
  rintro x (hx|⟨id,A,Q⟩)
  ·exact .inl hx
  refine .inr ⟨id,λe0=>?_,x' Q⟩;by_cases D:id=k
  ·subst D;exact M e0
  rw[cr _ _ _ _ D,cr _ _ _ _ D] at A;exact A e0
 have agK:Ext (own K β s.H) w w':=I.weaken λx _ e=>by rw[show x=b from e];exact JK
 refine⟨jk,.inr ⟨b,C,λi j c=>i<W/\i<l.length/\B (G i) j c,dr,j9,O,R,λi j o x u A Q h3=>?_,λi j c bU=>⟨bU.2.1,(Re _ j c bU.2.2).2⟩,λi j L ey c bU F=>?_,λc=>?_⟩⟩
 ·have q8:=(d6.1 A).1;have RF:j<(U p m).size:=by rw[<-R o (bX A)];exact(d6.1 Q).1
  by_cases D:i<W
  ·obtain⟨a0,aP,a2,a3⟩:=aik i D q8;rw[aP] at A;rw[a3 j RF] at h3;have bU:=(Y (G i) j o x u A Q h3).2 (a2 j);have F:=bU.mono agK (λx _=>gi x) λc sZ=>I.keep c (h.fresh k c (.inr ((Rc c).2 ⟨_,j,sZ⟩))).2 (Re _ j c sZ).2.2;exact⟨λv bx=>br (oJ _ _ _ bx).1 O,λ_=>F.iff λc=>⟨λq=>q.2.2,λq=>⟨D,q8,q⟩⟩⟩
  refine⟨λv bx=>?_,λca=>br (ahb i j O q8 RF) (ca _)⟩;obtain⟨_,rfl⟩:=oJ _ _ _ bx;exact⟨.c' u,λc bU=>D bU.1⟩
 ·obtain⟨e1,e2⟩:=agH _ _ _ _ c bU.2.2 F.2.2;exact⟨ahh i L bU.1 F.1 bU.2.1 F.2.1 e1,e2⟩
 subst f';constructor
 ·rintro⟨_,Q⟩;obtain⟨i,j,q⟩:=Q rfl;exact⟨i,j,q⟩
 rintro⟨i,j,q⟩;exact⟨(Rc c).2 ⟨_,j,q.2.2⟩,λ_=>⟨i,j,q⟩⟩
def tR(a c b:Nat):List (Nat×Nat×V):=(List.range c).flatMap λi=>(List.range b).map λj=>(a+i,j,.c')
theorem B8{a c:Nat}{v:V}:(i,j,v)∈tR a c n↔a<=i/\i<a+c/\j<n/\v= .c':=by
 unfold tR;simp only[List.mem_flatMap,List.mem_range,List.mem_map,Prod.mk.injEq];constructor
 ·rintro⟨k,e,l,b,rfl,rfl,rfl⟩;exact⟨O,O,b,rfl⟩
 rintro⟨e,b,h,rfl⟩;exact⟨i-a,O,j,h,O,rfl,rfl⟩
theorem fP.hP{c:List dy}{m:Option Nat}{x:T}{v:Value}{N:Nat->Prop}(h:fP c w X m x v N):v.oneCell'=ab:=by
 cases h with
 |fm _ _ _ h _=>exact h.hP
 |nil=>rfl
 |own=>rfl
theorem Md{a:Array Value}:Ext (λx=>x=b) w (w.setRow b a):=⟨rfl,rfl,rfl,bl,λ_ _ c=>setRow_other _ _ _ _ c⟩
def E.gen?:E->Option Nat
 | .cells _=>ak
 | .arr _ gen _ _=>aa gen
 | .aC _ _ gen _ _=>aa gen
theorem x6{g:Nat}{T:E}(b:T.gen? =aa g)(h:c4 W w X i T):1<=g/\ ∃q,W i=aa (q,g):=by
 cases T with
 |cells cs=>cases b
 |arr ty gen size a=>cases b;exact⟨h.1,l0 h⟩
 |aC c m gen a e=>cases b;exact⟨h.1,rW h⟩
section ob
variable {P:Program}{H:Nat->Option E}{d:Option Tmp}{ty:TypeId}{pos:String}{af:Array Edge}{g:Option (Nat×Bool)}
variable {t:TypeId}{u:TypeDesc}{z:Value}{size bytes:Nat}
def qQ(c:Nat)(h i:Option Operand)(e:Operand->Value)(a b:Nat):Prop:=
 (match h with|some x=>e x= .int .i64 (a:Nat)|none=>a=0)/\(match i with|some x=>e x= .int .i64 (b:Nat)|none=>b=c)
theorem Ca{P:Program}{len a:Nat}{k e:Option Operand}{c:Operand->Value}(h:qQ len k e c a b)(n:a<=b)(o:b<=i)(w:World):(Instr.sliceBounds ab len i (k.map c) (e.map c) ak).run P w= .ok (a,b,i) w:=by
 obtain⟨m,l⟩:=h;cases k with
 |none=>
  have m:a=0:=m;subst m;cases e with
  |none=>
   have l:b=len:=l;subst l;simp[Instr.sliceBounds]
  |some y=>
   have l:c y=_:=l;simp[Instr.sliceBounds,l,jz w b i _ o]
 |some x=>
  have m:c x=_:=m;cases e with
  |none=>
   have l:b=len:=l;subst l;simp[Instr.sliceBounds,m,jz w a b _ n]
  |some y=>
   have l:c y=_:=l;simp[Instr.sliceBounds,m,l,jz w b i _ o,jz w a b _ n]
theorem aeH(x:Operand)(r y:Option Operand)(e:TypeId)(m gen h c a b:Nat)(Q:E)(v:H m=aa Q)(I:Q.gen? =aa gen)(R:P.underlying t=aa (.slice e))(W:cj P e u z size bytes)
  (M:a<=b) (h2:b<=c) (h3:a=0\/a<c) {i:List V} (N: ∀A w X (k:Operand->Value),du A w X i (r.toList.map k++y.toList.map k)->qQ c r y k a b):
  cw P H ⟨d,.slice t x r y ak,ty,pos,af,g⟩ (.bd m gen size h c::i) (.bd m gen size (h+a) (b-a)):=by
 intro A w X k T D;obtain⟨B,q,F⟩:=x6 I (T m _ v);have D:du A w X (.bd m gen size h c::i) (k x::(r.toList.map k++y.toList.map k)):=by
  cases r<;>cases y<;>simpa[Op.operands] using D
 have C:qQ c r y k a b:=N A w X k D.2;have U:bC A w X (.bd m gen size h c) (k x):=D.1;rcases fb U F with ⟨l,f,n,G,o,p,Y,hs,ca,cS,hm⟩|⟨p,h0,L,o⟩
 ·subst p;refine⟨.slice (aa ⟨f,(h+a)*size,ak⟩) (b-a) (l-a),?_,.bd m gen size (h+a) (b-a) (l-a) f n G B F Y hs (by rw[<-ca];congr 1;omega) O O⟩;simp only[execOp,e5,Instr.sliceAt,Instr.slice,run_underlying R,eV,o,Option.map_none,gN,Ca C M (O:b<=l),W.run_sizeOf,hh];by_cases j:l=a
  ·rw[bg j]
   grind
  rw[be j];simp[jD,Nat.add_mul]
 subst p;subst h0;subst L;have e1:b=0:=O
 have e2:a=0:=O
 subst e1;subst e2;refine⟨.slice ak 0 0,?_,.ho m gen size B F⟩;simp only[execOp,e5,Instr.sliceAt,Instr.slice,run_underlying R,eV,o,Option.map_none,Ca C (Nat.le_refl _) (Nat.le_refl 0),W.run_sizeOf,hh];simp
def Ft(c:E)(gen a:Nat)(b:List (List T)):Prop:=(∃e,c= .arr e gen a b)\/ ∃h m i,c= .aC h m gen b i/\(U h m).size=a
theorem Ft.tO{gen:Nat}{a:List (List T)}{c:E}(h:Ft c gen i a)(k:c4 W w X n c):
  (W n=aa (ak,gen)/\a=[])\/ ∃b p ty,W n=aa (aa b,gen)/\w.heap[b]? =aa (.cells p ty (0,0))/\a.length*i<=p.size:=by
 rcases h with ⟨e,rfl⟩|⟨r,m,x,rfl,rfl⟩
 ·rcases k.2 with ⟨l,o⟩|⟨b,p,l,o,q,_⟩
  ·exact .inl ⟨l,o⟩
  exact .inr ⟨b,p,e,l,o,q⟩
 rcases k.2 with ⟨l,o,_⟩|⟨b,p,B,l,o,q,_⟩
 ·exact .inl ⟨l,o⟩
 exact .inr ⟨b,p,_,l,o,q⟩
theorem OP(x:Operand)(p q:Option Operand)(e:TypeId)(m gen c h a b:Nat)(l:List (List T))(F:E)(M:H m=aa F)(N:F.gen? =aa gen)(U:Ft F gen size l)(Y:P.underlying t=aa (.slice e))(he:cj P e u z size bytes)
  (hp:0<size) (h1:a<b) (j:c+b<=l.length) {i:List V} (bw: ∀r w X (k:Operand->Value),du r w X i (p.toList.map k++q.toList.map k)->qQ h p q k a b):
  cw P H ⟨d,.slice t x p q ak,ty,pos,af,g⟩ (.bd m gen size c h::i) (.bd m gen size (c+a) (b-a)):=by
 intro r w X k kI D;have y:=kI m _ M;have G:1<=gen:=(x6 N y).1;have D:du r w X (.bd m gen size c h::i) (k x::(p.toList.map k++q.toList.map k)):=by
  cases p<;>cases q<;>simpa[Op.operands] using D
 have L:qQ h p q k a b:=bw r w X k D.2;have hx:bC r w X (.bd m gen size c h) (k x):=D.1;rcases U.tO y with ⟨Q,R⟩|⟨v,us,_,Q,g2,g3⟩
 ·subst R;simp at j;omega
 rcases fb hx Q with ⟨cap,hY,n,W,f,o,hw,A,I,cS,hm⟩|⟨o,_⟩
 ·cases o;have B:us.size=n:=by
   unfold jb at A;rw[g2] at A;simp at A;exact A.2
  have C:b<=cap:=by
   have h3:(c+b)*size<=(c+cap)*size:=by
    rw[I,<-B];exact eO (dR _ j) g3
   have:=Nat.le_of_mul_le_mul_right h3 hp;omega
  refine⟨.slice (aa ⟨v,(c+a)*size,ak⟩) (b-a) (cap-a),?_,.bd m gen size (c+a) (b-a) (cap-a) v n W G Q hw A (by rw[<-I];congr 1;omega) O O⟩;simp only[execOp,e5,Instr.sliceAt,Instr.slice,run_underlying Y,eV,f,Option.map_none,gN,Ca L (O:a<=b) C,he.run_sizeOf,hh];rw[be (show¬cap=a by omega)];simp[jD,Nat.add_mul]
 cases o
theorem adK(x:Operand)(m o:Option Operand)(e:TypeId)(p gen c l b a:Nat)(F:E)(L:H p=aa F)(Q:F.gen? =aa gen)(R:P.underlying t=aa (.slice e))(W:cj P e u z size bytes)
  (U:a<=b) {h:List V} (f: ∀r w X (i:Operand->Value),du r w X h (m.toList.map i++o.toList.map i)->qQ b m o i a a):
  cw P H ⟨d,.slice t x m o ak,ty,pos,af,g⟩ (.bd p gen c l b::h) (.t (.bH [])):=by
 intro r w X i j y;obtain⟨v,q,I⟩:=x6 Q (j p _ L);have y:du r w X (.bd p gen c l b::h) (i x::(m.toList.map i++o.toList.map i)):=by
  cases m<;>cases o<;>simpa[Op.operands] using y
 have B:qQ b m o i a a:=f r w X i y.2;have M:bC r w X (.bd p gen c l b) (i x):=y.1;obtain⟨A,cap,k,G⟩: ∃A cap,i x= .slice A b cap/\b<=cap:=by
  rcases fb M I with ⟨cap,Y,n,N,k,C,hw,hs,ca,T,hm⟩|⟨C,h0,D,k⟩
  ·exact⟨_,cap,k,T⟩
  exact⟨ak,0,by rw[D];exact k,O⟩
 refine⟨.slice (if cap=a then A else A.map (·.add (a*size))) (a-a) (cap-a),?_,.t _ _ (by rw[l6];exact .gd _ _)⟩;simp only[execOp,e5,Instr.sliceAt,Instr.slice,run_underlying R,eV,k,Option.map_none,Ca B (Nat.le_refl _) (O:a<=cap),W.run_sizeOf,hh]
theorem Xo(x:Operand)(e gen a i c:Nat)(h:E)(m:H e=aa h)(n:h.gen? =aa gen):cw P H ⟨d,.nilCheck x,ty,pos,af,g⟩ [.cR e gen a i c] (.cR e gen a i c):=by intro o w X k p r;obtain⟨y,q,A⟩:=x6 n (p e _ m);have l:bC o w X (.cR e gen a i c) (k x):=r.1;obtain⟨b,_,B⟩:=p2 l A;exact⟨k x,by simp[execOp,B],l⟩
theorem abT(x C D F:Operand)(e:TypeId)(o gen h l i a b c:Nat)(G:E)(R:H o=aa G)(W:G.gen? =aa gen)(f:P.underlying t=aa (.slice e))(j:cj P e u z size bytes)
  (v:a<=b) (I:b<=c) (h3:c<=i):cw P H ⟨d,.slice t x (aa C) (aa D) (aa F),ty,pos,af,g⟩ [.bd o gen h l i,.t (.int .i64 (a:Nat)),.t (.int .i64 (b:Nat)),.t (.int .i64 (c:Nat))] .c':=by
 intro M w X m N p;obtain⟨T,q,U⟩:=x6 W (N o _ R);have V:bC M w X (.bd o gen h l i) (m x):=p.1;have y:m C=_:=dO p.2.1;have Y:m D=_:=dO p.2.2.1;have L:m F=_:=dO p.2.2.2.1;obtain⟨r,cap,k,Q⟩: ∃r cap,m x= .slice r i cap/\i<=cap:=by
  rcases fb V U with ⟨cap,hY,n,iC,k,A,hw,hs,ca,y,L⟩|⟨A,h0,B,k⟩
  ·exact⟨_,cap,k,y⟩
  exact⟨ak,0,by rw[B];exact k,O⟩
 refine⟨.slice (if c=a then r else r.map (·.add (a*size))) (b-a) (c-a),?_,.c' _⟩;simp[execOp,k,y,Y,L,Instr.sliceAt,Instr.slice,run_underlying f,Instr.sliceBounds,jz w c cap _ O,jz w b c _ I,jz w a b _ v,j.run_sizeOf]
end ob
section steps
variable {K:Ctx}{s:S}{d:Option Tmp}{ty:TypeId}{pos:String}{af:Array Edge}{g:Option (Nat×Bool)}
variable {t:TypeId}{u:TypeDesc}{z:Value}{size bytes gen:Nat}
theorem Ox{D:Map}(R:Rel K D s a w)(q b:Nat)(e:TypeId)(o c:List (List T))(r n:Array Value)(G:s.H q=aa (.arr e gen size o))(y:D q=aa (aa b,gen))(p:w.heap[b]? =aa (.cells r e (0,0)))
  (L:n.size=r.size) (W:c.length*size<=r.size) (A: ∀l,l∈c->l.length=size)
  (bU: ∀(i j:Nat) (l:List T) (x:T) (u:Value),c[i]? =aa l->l[j]? =aa x->n[i*size+j]? =aa u->(∃(F:Nat) (m:List T),o[F]? =aa m/\m[j]? =aa x/\r[F*size+j]? =aa u)\/(∀w X,c7 w X x u)):
  Rel K D {s with H:=a' s.H q (aa (.arr e gen size c))} a (w.setRow b n):=by
 refine Rel.setRow R q b (.inl ⟨_,y⟩) r e p n L (.arr e gen size c) (by rw[G];simp) ?_;have Q:own K D s.H b:= .inr ⟨q,by rw[G];simp,.inl ⟨_,y⟩⟩;have B:=(R.heap q _ G).2;refine⟨B.1,.inr ⟨b,n,y,setRow_heap _ _ _ _ _ _ p,O,A,λi j l x u aP a2 a3=>?_⟩⟩;rcases bU i j l x u aP a2 a3 with ⟨F,m,v,I,M⟩|bU
 ·rcases B.2 with ⟨C,_⟩|⟨cM,N,C,f,h3,h4,U⟩
  ·rw[y] at C;cases C
  rw[y] at C;cases C;rw[p] at f;cases f;exact(U F j m x u v I M).mono ⟨rfl,rfl,rfl,bl,λk _ V=>setRow_other _ _ _ _ λY=>V (Y▸Q)⟩ λ_ _ h=>h
 exact bU _ _
theorem Rel.zI(h:Rel K β s a w)(b:Nat)(c:E)(k:s.H b=aa c):Rel K β {s with H:=a' s.H b (aa c)} a w:=by
 have:a' s.H b (aa c)=s.H:=by
  funext i;by_cases e:i=b
  ·subst e;rw[cy,k]
  rw[cr _ _ _ _ e]
 rw[this];exact h
end steps
end
section
def dz{k:Type}(f:Nat->k):List (Nat×k)->Nat->k
 | []=>f
 |(d,v)::r=>dz (a' f d v) r
theorem mK{k:Type}: ∀(l:List (Nat×k)) (f:Nat->k) (r:Nat),(∀v,(r,v)∉l)->dz f l r=f r
 | [],_,_,_=>rfl
 |(d,v)::l,f,r,h=>by rw[dz,mK l _ r λa b=>h a (eW _ b),cr _ _ _ _ (by intro e;subst e;exact h v (fh ..))]
theorem B7{k:Type}: ∀(l:List (Nat×k)) (f g:Nat->k) (r:Nat),(∃v,(r,v)∈l)->dz f l r=dz g l r
 | [],_,_,_,⟨v,h⟩=>by simp at h
 |(d,v)::l,f,g,r,h=>by
  simp only[dz];by_cases b: ∃a,(r,a)∈l
  ·exact B7 l _ _ r b
  have c:r=d:=by
   obtain⟨a,bx⟩:=h;rcases eh.1 bx with e|bx
   ·cases e;rfl
   exact br ⟨a,bx⟩ b
  subst c;rw[mK l _ r λa bx=>b ⟨a,bx⟩,mK l _ r λa bx=>b ⟨a,bx⟩,cy,cy]
structure dd where
 e3:List (Nat×V)
 hs:List (Nat×Option E):=[]
 us:List (Nat×Bool):=[]
def dd.app(e:dd)(s:S):S:={t:=dz s.t e.e3,H:=dz s.H e.hs,u:=dz s.u e.us}
structure gP where
 e3:List Nat
 pW:List Nat:=[]
def gP.same(r:gP)(s a:S):Prop:=(∀i,i∈r.e3->s.t i=a.t i)/\ ∀k,k∈r.pW->s.H k=a.H k/\s.u k=a.u k
def iq(K:Ctx)(ops:Array Oper)(o:Oper)(s e:S):Prop:=
 ∀h a w next Q,Rel K h s a w->(∀b c d,Rel K b e c d->next c d)->
  if Region.wanted o (yielded ops a.tmps) then o.wp K.P a w next Q\/(o.asks K.P a w/\LetsOut Q) else next (a.put o.dst undef) w
variable {K:Ctx}{ops:Array Oper}{o:Oper}{s:S}{j t:Nat}{want:Bool}
theorem iq.of{b:S}(c:o.guard=ak)(h:dZ K o s b):iq K ops o s b:=by
 intro β a w next Q d e
 rw[bg (by simp[Region.wanted,c])];exact .inl (h β a w next Q d e)
theorem iq.fu{s':S}(c:o.guard=aa (j,want))(d:(ops[j]?).bind (·.dst)=aa t)(e:s.t t= .t (.bool want))(h:dZ K o s s'):iq K ops o s s':=by
 intro β a w next Q b i
 have k:yielded ops a.tmps j=aa want:=by unfold yielded;rw[d];simp[b.bool e]
 rw[bg (by simp[Region.wanted,c,k])];exact .inl (h β a w next Q b i)
theorem iq.out(c:o.guard=aa (j,want))(d:(ops[j]?).bind (·.dst)=aa t)(e:s.t t= .t (.bool (!want)))(h: ∀i,o.dst=aa i->dp i K.nt=ab):iq K ops o s (s.put o.dst (.bZ [])):=by
 intro k a w next Q b l
 have m:yielded ops a.tmps j=aa (!want):=by unfold yielded;rw[d];simp[b.bool e]
 rw[be (by simp[Region.wanted,c,m])];exact l k _ w (b.put o.dst h Oa)
theorem iq.skip(c:o.guard=aa (j,want))(d:(ops[j]?).bind (·.dst)=aa t)(e:s.t t= .bZ [])(h: ∀i,o.dst=aa i->dp i K.nt=ab):iq K ops o s (s.put o.dst (.bZ [])):=by
 intro k a w next Q b l
 have hw:=b.ajs (ops:=ops) (want:=want) d e;rw[be (by simp[Region.wanted,c,hw])];exact l k _ w (b.put o.dst h Oa)
def ha{k:Type}:List (List (Nat×k))->Nat->(Nat->Bool)->(Nat->k)->Nat->k
 | [],_,_,f=>f
 |l::cb,i,L,f=>ha cb (i+1) L (bif L i then dz f l else f)
theorem Ap{k:Type}: ∀(cb:List (List (Nat×k))) (i:Nat) (L a:Nat->Bool) (f b:Nat->k) (r:Nat),f r=b r->(∀j l,cb[j]? =aa l->(∃v,(r,v)∈l)->L (i+j)=a (i+j))->ha cb i L f r=ha cb i a b r
 | [],_,_,_,_,_,_,h,_=>h
 |l::cb,i,L,a,f,b,r,h,e=>by
  simp only[ha];refine Ap cb (i+1) L a _ _ r ?_ λj m n c=>by have:=e (j+1) m n c;rwa [show i+(j+1)=i+1+j by omega] at this
  by_cases d: ∃v,(r,v)∈l
  ·have:=e 0 l rfl d;rw[nS] at this;rw[<-this];cases L i with
   |true=>exact B7 l _ _ r d
   |false=>exact h
  have o: ∀g:Nat->k,dz g l r=g r:=λg=>mK l g r λv c=>d ⟨v,c⟩;cases L i<;>cases a i<;>simp only[cond_true,cond_false,o]<;>exact h
theorem NC{R:Type}: ∀(cb:List (List (Nat×R))) (i:Nat) (L:Nat->Bool) (f:Nat->R) (r k:Nat) (l:List (Nat×R)),cb[k]? =aa l->(∃v,(r,v)∈l)->L (i+k)=ab->
  (∀j d,k<j->cb[j]? =aa d->(∃v,(r,v)∈d)->L (i+j)=al)-> ∀g:Nat->R,ha cb i L f r=dz g l r
 |e::cb,i,L,f,r,0,l,b,h,m,a,g=>by
  simp at b;subst b;simp only[ha];rw[nS] at m;rw[m,cond_true,Ap cb (i+1) L (λ_=>al) (dz f e) (dz g e) r (B7 e _ _ r h) (λj d n c=>by
   have:=a (j+1) d O n c
   rwa [show i+(j+1)=i+1+j by omega] at this)]
  have o: ∀(cb:List (List (Nat×R))) (i:Nat) (f:Nat->R),ha cb i (λ_=>al) f=f:=by
   intro cb;induction cb with
   |nil=>intro _ _;rfl
   |cons l cb p=>intro i f;simp only[ha,cond_false];exact p _ _
  rw[o]
 |e::cb,i,L,f,r,k+1,l,b,h,m,a,g=>by
  simp at b;simp only[ha];exact NC cb (i+1) L _ r k l b h (by rwa [show i+1+k=i+(k+1) by omega]) (λj d q n c=>by
   have:=a (j+1) d O n c
   rwa [show i+(j+1)=i+1+j by omega] at this) g
 | [],_,_,_,_,_,_,b,_,_,_,_=>by simp at b
def iF(a:List dd)(i:Nat)(L:Nat->Bool)(s:S):S:={t:=ha (a.map (·.e3)) i L s.t,H:=ha (a.map (·.hs)) i L s.H,u:=ha (a.map (·.us)) i L s.u}
def mL(a:Array Oper):Nat->Nat->Nat->Bool
 |0,_,_=>al
 |f+1,i,j=>match a[j]? with
  |none=>al
  |some o=>o.after.toList.any λe=>Region.binds .any e&&(b7 e.on i||mL a f i e.on)
def qz{k:Type}(l:List (Nat×k))(r:List Nat):Bool:=l.any λp=>r.any λx=>b7 p.1 x
def rD{k R:Type}(l:List (Nat×k))(m:List (Nat×R)):Bool:=l.any λp=>m.any λq=>b7 p.1 q.1
def lx(e:dd)(r:gP)(a:dd)(b:gP):Bool:=
 qz e.e3 b.e3||qz a.e3 r.e3||rD e.e3 a.e3||qz e.hs b.pW||qz a.hs r.pW||rD e.hs a.hs||qz e.us b.pW||qz a.us r.pW||rD e.us a.us
def mP(b:Array Oper)(n:Nat):Nat->List (dd×gP)->Bool
 |_,[]=>ab
 |i,(e,r)::a=>go i e r (i+1) a&&mP b n (i+1) a
where
 go (i:Nat) (e:dd) (r:gP):Nat->List (dd×gP)->Bool
  |_,[]=>ab
  |j,(c,d)::a=>(!lx e r c d||mL b n i j)&&go i e r (j+1) a
def sb:Nat->List Oper->Bool
 |_,[]=>ab
 |i,o::a=>o.after.toList.all (λe=> !Region.binds .any e||dp e.on i)&&sb (i+1) a
theorem Of{b:Array Oper}{n i:Nat}{e:dd}{r:gP}: ∀(l:List (dd×gP)) (j:Nat),mP.go b n i e r j l=ab-> ∀(k:Nat) a c,l[k]? =aa (a,c)->lx e r a c=ab->mL b n i (j+k)=ab
 | [],_,_,_,_,_,h,_=>by simp at h
 |(o,p)::l,j,h,0,a,c,d,m=>by
  simp at d;obtain⟨rfl,rfl⟩:=d;simp only[mP.go,cB,m,Bool.not_true,Bool.false_or] at h;exact h.1
 |(o,p)::l,j,h,k+1,a,c,d,m=>by
  simp at d;simp only[mP.go,cB] at h
  have:=Of l (j+1) h.2 k a c d m
  rwa [show j+1+k=j+(k+1) by omega] at this
theorem Ar{b:Array Oper}{n:Nat}: ∀(l:List (dd×gP)) (a:Nat),mP b n a l=ab-> ∀(i j:Nat) e r c d,l[i]? =aa (e,r)->l[j]? =aa (c,d)->i<j->lx e r c d=ab->mL b n (a+i) (a+j)=ab
 | [],_,_,_,_,_,_,_,_,h,_,_,_=>by simp at h
 |(q,s)::l,a,h,0,j,e,r,c,d,k,m,o,p=>by
  simp at k;obtain⟨rfl,rfl⟩:=k;simp only[mP,cB] at h;cases j with
  |zero=>omega
  |succ j=>
   simp at m
   have:=Of l (a+1) h.1 j c d m p
   rwa [show a+1+j=a+(j+1) by omega] at this
 |(q,s)::l,a,h,i+1,j,e,r,c,d,k,m,o,p=>by
  simp only[mP,cB] at h;cases j with
  |zero=>omega
  |succ j=>
   simp at k m
   have:=Ar l (a+1) h.2 i j e r c d k m O p
   rwa [show a+1+i=a+(i+1) by omega,show a+1+j=a+(j+1) by omega] at this
theorem ZF(e:dd)(r:gP)(c:dd)(d:gP):lx e r c d=lx c d e r:=by
 have n: ∀{i k:Type} (l:List (Nat×i)) (m:List (Nat×k)),rD l m=rD m l:=by
  intro i k l m;rw[hv];simp only[rD,List.any_eq_true];constructor
  ·rintro⟨p,a,q,b,h⟩;exact⟨q,b,p,a,by have:=db h;simp[this]⟩
  rintro⟨p,a,q,b,h⟩;exact⟨q,b,p,a,by have:=db h;simp[this]⟩
 unfold lx
 grind
def P8(b:Array Oper)(a:Array Bool):Prop:= ∀j o,b[j]? =aa o->a.getD j ab=ab-> ∀e∈o.after,Region.binds .any e=ab->a.getD e.on al=ab
theorem KH{c:Array Oper}{a:Array Bool}(n:P8 c a): ∀(f i j:Nat),mL c f i j=ab->(∀o,c[j]? =aa o-> ∀e∈o.after,Region.binds .any e=ab->a.getD e.on al=ab)->a.getD i al=ab
 |0,_,_,h,_=>by simp[mL] at h
 |f+1,i,j,h,p=>by
  unfold mL at h;cases l:c[j]? with
  |none=>rw[l] at h;simp at h
  |some o=>
   rw[l] at h;simp only[List.any_eq_true,cB,Bool.or_eq_true] at h;obtain⟨e,q,r,d⟩:=h;have cS:=p o l e (by simpa using q) r;rcases d with d|d
   ·have:=db d;rw[<-this];exact cS
   refine KH n f i e.on d λs m=>n e.on s m ?_;rw[rO] at cS⊢;cases k:a[e.on]? with
   |none=>rw[k] at cS;simp at cS
   |some b=>rw[k] at cS;simpa using cS
def xw(K:Ctx)(a:Array Oper):List Oper->List (dd×gP)->S->(S->Prop)->Prop
 | [],[],s,Q=>Q s
 |o::os,(e,r)::c,s,Q=>(∀b,r.same b s->iq K a o b (e.app b))/\xw K a os c (e.app s) Q
 |_,_,_,_=>False
end
set_option linter.unusedVariables false
set_option linter.unusedSimpArgs false
section
theorem L9{k:Type}: ∀(cb:List (List (Nat×k))) (i:Nat) (L:Nat->Bool) (f:Nat->k),ha cb (i+1) L f=ha cb i (λj=>L (j+1)) f
 | [],_,_,_=>rfl
 |l::cb,i,L,f=>by simp only[ha];exact L9 cb (i+1) L _
theorem Gy(e:dd)(a:List dd)(L:Nat->Bool)(s:S):iF (e::a) 0 L s=iF a 0 (λj=>L (j+1)) (bif L 0 then e.app s else s):=by unfold iF;simp only[hg,ha,Nat.zero_add,L9];cases L 0<;>rfl
theorem AA{K:Ctx}{b:Array Oper}: ∀(l:List Oper) (es:List (dd×gP)) (s:S) (Q:S->Prop),xw K b l es s Q->
  l.length=es.length/\Q (iF (es.map (·.1)) 0 (λ_=>ab) s)/\
  ∀(i:Nat) o e r,l[i]? =aa o->es[i]? =aa (e,r)-> ∀c,r.same c (iF (es.map (·.1)) 0 (λj=>dp j i) s)->iq K b o c (e.app c)
 | [],[],s,Q,h=>⟨rfl,h,λi o e r d=>by simp at d⟩
 |o::os,(e,r)::es,s,Q,h=>by
  obtain⟨p,q⟩:=h;obtain⟨aP,a2,a3⟩:=AA os es _ Q q;refine⟨by simp[aP],?_,?_⟩
  ·simp only[hg,Gy,cond_true];exact a2
  intro i w x y d k c a;cases i with
  |zero=>
   simp at d k;obtain⟨rfl,rfl⟩:=k;subst d;refine p c ?_
   have:iF (List.map (·.1) ((e,r)::es)) 0 (λj=>dp j 0) s=s:=by
    simp only[hg,Gy];have m: ∀{n:Type} (cb:List (List (Nat×n))) (i:Nat) (f:Nat->n),ha cb i (λj=>dp (j+1) 0) f=f:=by
     intro n cb;induction cb with
     |nil=>intro _ _;rfl
     |cons l cb z=>intro i f;simp only[ha];exact z _ _
    show iF (es.map (·.1)) 0 (λj=>dp (j+1) 0) s=s;unfold iF;simp only[m]
   rw[this] at a;exact a
  |succ i=>
   simp at d k;refine a3 i w x y d k c ?_;simp only[hg,Gy] at a;exact a
 | [],_::_,_,_,h=>h.elim
 |_::_,[],_,_,h=>h.elim
variable {k:Type}{r:gP}{x n i:Nat}{v:k}{a:Array Bool}{e:dd}
theorem Gc{l:List (Nat×k)}{r:List Nat}(h:(x,v)∈l)(a:x∈r):qz l r=ab:=by unfold qz;rw[iZ];exact⟨(x,v),h,by rw[iZ];exact⟨x,a,bl⟩⟩
theorem Fb{R:Type}{l:List (Nat×k)}{m:List (Nat×R)}{a:R}(h:(x,v)∈l)(b:(x,a)∈m):rD l m=ab:=by unfold rD;rw[iZ];exact⟨(x,v),h,by rw[iZ];exact⟨(x,a),b,bl⟩⟩
section
variable {K:Ctx}{l:List Oper}{es:List (dd×gP)}{s:S}
theorem G6{c:Array Oper}(proj:dd->List (Nat×k))(H:mP c n 0 es=ab)(L:es[i]? =aa (e,r))(f:Nat->k)(x:Nat)
  (o: ∀d h v,(x,v)∈proj d->lx e r d h=ab)
  (q: ∀j,mL c n j i=ab->a.getD j al=ab) (w: ∀j,j<es.length->mL c n i j=ab->a.getD j ab=al) (A:a.getD i ab=al):
  ha ((es.map (·.1)).map proj) 0 (λj=>a.getD j ab) f x=ha ((es.map (·.1)).map proj) 0 (λj=>dp j i) f x:=by
 refine Ap _ 0 _ _ f f x rfl ?_;intro j W m ⟨v,Q⟩;rw[dA];simp only[List.map_map,List.getElem?_map] at m;cases y:es[j]? with
 |none=>rw[y] at m;cases m
 |some p=>
  obtain⟨d,h⟩:=p;rw[y] at m;simp at m;subst m;have B:j<es.length:=(d6.1 y).1;rcases Nat.lt_trichotomy j i with z|rfl|C
  ·have bw:=Ar es 0 H j i d h e r y L z (by rw[ZF];exact o d h v Q);rw[dA,dA] at bw;have D:=q j bw;have R:dp j i=ab:=by simpa[Nat.blt_eq] using z
   rw[R];rw[rO] at D⊢;cases F:a[j]? with
   |none=>rfl
   |some b=>rw[F] at D;simpa using D
  ·rw[A];symm;cases bw:dp j j with
   |false=>rfl
   |true=>simp[Nat.blt_eq] at bw
  have bw:=Ar es 0 H i j e r d h L y C (o d h v Q);rw[dA,dA] at bw;rw[w j B bw];symm;cases G:dp j i with
  |false=>rfl
  |true=>simp[Nat.blt_eq] at G;omega
theorem Gm{b:Array Oper}(proj:dd->List (Nat×k))(L:mP b n 0 es=ab)(F:es[i]? =aa (e,r))(f:Nat->k)(y:i<a.size)
  (z: ∀x h w v Q,(x,v)∈proj h->(x,Q)∈proj e->lx e r h w=ab) (m: ∀j,j<es.length->mL b n i j=ab->a.getD j ab=al) (R:a.getD i ab=al):
  dz (ha ((es.map (·.1)).map proj) 0 (λj=>a.getD j ab) f) (proj e)=ha ((es.map (·.1)).map proj) 0 (λj=>(a.setIfInBounds i ab).getD j ab) f:=by
 funext x;have o: ∀j,j≠i->(a.setIfInBounds i ab).getD j ab=a.getD j ab:=λj A=>by
  simp[Array.getD_eq_getD_getElem?,Array.getElem?_setIfInBounds_ne (Ne.symm A)]
 have B:(a.setIfInBounds i ab).getD i ab=ab:=by
  simp[Array.getD_eq_getD_getElem?,y]
 have C:((es.map (·.1)).map proj)[i]? =aa (proj e):=by simp[F]
 by_cases G: ∃v,(x,v)∈proj e
 ·obtain⟨H,q⟩:=G;symm;refine NC _ 0 _ f x i (proj e) C ⟨H,q⟩ (by rw[dA];exact B) ?_ _;intro j W A d ⟨v,D⟩;rw[dA,o j O];simp only[List.map_map,List.getElem?_map] at d;cases c:es[j]? with
  |none=>rw[c] at d;cases d
  |some p=>
   obtain⟨h,w⟩:=p;rw[c] at d;simp at d;subst d;have bw:=Ar es 0 L i j e r h w F c A (z x h w v H D q);rw[dA,dA] at bw;exact m j (d6.1 c).1 bw
 rw[mK _ _ _ λv D=>G ⟨v,D⟩];refine Ap _ 0 _ _ f f x rfl ?_
 grind
theorem Mm: ∀(l:List Oper) (a:Nat),sb a l=ab-> ∀(i:Nat) o,l[i]? =aa o-> ∀e∈o.after,Region.binds .any e=ab->e.on<a+i
 | [],_,_,_,_,h=>by simp at h
 |o::l,a,h,0,m,b=>by
  simp at b;subst b;intro e d k;simp only[sb,cB,List.all_eq_true,Bool.or_eq_true] at h;rcases h.1 e (by simpa using d) with c|c
  ·rw[k] at c;cases c
  simpa[Nat.blt_eq] using c
 |o::l,a,h,i+1,m,b=>by
  simp at b;simp only[sb,cB] at h;intro e d k
  have:=Mm l (a+1) h.2 i m b e d k;omega
theorem acT{Q:S->Prop}{xW:Exit->Act->World->Prop}(hp:mP l.toArray l.length 0 es=ab)(he:sb 0 l=ab)(cJ:xw K l.toArray l es s Q)
  (Jq: ∀g a w,Rel K g (iF (es.map (·.1)) 0 (λ_=>ab) s) a w->xW .normal a w):
  ∀(c:Nat) (b:Array Bool) (y:List Nat),b.size=l.length->y.Nodup->y.length=c->(∀i,b.getD i ab=al↔i∈y)->P8 l.toArray b->
   ∀g a w,Rel K g (iF (es.map (·.1)) 0 (λj=>b.getD j ab) s) a w->wpAny K.P .any l.toArray xW c b a w:=by
 obtain⟨hlen,_,ahH⟩:=AA l es s Q cJ
 -- if nothing is ready, all is done
 have hall: ∀(b:Array Bool) (y:List Nat),b.size=l.length->(∀i,b.getD i ab=al↔i∈y)->y≠[]->Region.ready .any l.toArray b≠[]:=by
  intro b y G E I;have key: ∀n,(∃i,i∈y/\i<=n)-> ∃m,m∈y/\ ∀j,j<m->j∉y:=by
   intro n;induction n with
   |zero=>rintro⟨i,aL,hle⟩;exact⟨0,by rwa [show i=0 by omega] at aL,λj L=>O⟩
   |succ n mI=>
    rintro⟨i,aL,hle⟩;by_cases h: ∃i,i∈y/\i<=n
    ·exact mI h
    have:i=n+1:=by
     rcases Nat.lt_or_ge i (n+1) with hlt|kJ
     ·exact br ⟨i,aL,O⟩ h
     omega
    subst this;exact⟨n+1,aL,λj L ahm=>h ⟨j,ahm,O⟩⟩
  obtain⟨x,hx⟩:=Ek y I;obtain⟨m,hm,aj6⟩:=key x ⟨x,hx,df _⟩;have ahz:=(E m).2 hm;have RM:m<l.length:=by
   grind
  intro R
  have:m∈Region.ready .any l.toArray b:=by
   rw[mem_ready];refine⟨ahz,l[m],by simp[RM],λe ag3 W=>?_⟩;have hlt:=Mm l 0 he m l[m] (bD RM) e ag3 W
   grind
  grind
 have M: ∀(b:Array Bool),(∀i,b.getD i ab=ab)->iF (es.map (·.1)) 0 (λj=>b.getD j ab) s=iF (es.map (·.1)) 0 (λ_=>ab) s:=by
  grind
 intro c;induction c with
 |zero=>
  intro b y G N A E bU g a w b6;have R:y=[]:=nQ A;subst R;have C: ∀i,b.getD i ab=ab:=λi=>by
   cases h:b.getD i ab with
   |true=>rfl
   |false=>have:=(E i).1 h;simp at this
  refine⟨?_,Jq g a w (by rw[<-M b C];exact b6)⟩;cases ahP:Region.ready .any l.toArray b with
  |nil=>rfl
  |cons x xs=>
   have:x∈Region.ready .any l.toArray b:=by rw[ahP];simp
   rw[mem_ready] at this;rw[C x] at this;exact br this.1 bl
 |succ c mI=>
  intro b y G N A E bU g a w b6;have I:y≠[]:=by intro e;subst e;simp at A
  refine⟨λh=>br h (hall b y G E I),λi aL=>?_⟩;obtain⟨q,o,c6,X⟩:=mem_ready.1 aL;have q8:i<l.length:=by
   rcases Nat.lt_or_ge i l.length with h|h
   ·exact h
   rw[Array.getElem?_eq_none (by simpa using h)] at c6;cases c6
  have JE:l[i]? =aa o:=by simpa using c6
  obtain⟨⟨e,r⟩,B⟩: ∃p,es[i]? =aa p:=⟨es[i]' O,by simp[show i<es.length by omega]⟩
  have D: ∀j,mL l.toArray l.length j i=ab->b.getD j al=ab:=λj W=>KH bU _ j i W λDL z=>by rw[c6] at z;cases z;exact X
  have d: ∀j,j<es.length->mL l.toArray l.length i j=ab->b.getD j ab=al:=λj L W=>by
   cases ahv:b.getD j ab with
   |false=>rfl
   |true=>
    have F:=KH bU _ i j W λDL z=>bU j DL z ahv;have ahY:i<b.size:=O
    simp only[Array.getD_eq_getD_getElem?,Array.getElem?_eq_getElem ahY,Option.getD_some] at F q;rw[q] at F;cases F
  have T:r.same (iF (es.map (·.1)) 0 (λj=>b.getD j ab) s) (iF (es.map (·.1)) 0 (λj=>dp j i) s):=by
   refine⟨λx hx=>?_,λk hk=>⟨?_,?_⟩⟩
   ·exact G6 (·.e3) hp B s.t x (λf zv v bx=>by simp[lx,Gc bx hx]) D d q
   ·exact G6 (·.hs) hp B s.H k (λf zv v bx=>by simp[lx,Gc bx hk]) D d q
   exact G6 (·.us) hp B s.u k (λf zv v bx=>by simp[lx,Gc bx hk]) D d q
  have U:e.app (iF (es.map (·.1)) 0 (λj=>b.getD j ab) s)=iF (es.map (·.1)) 0 (λj=>(b.setIfInBounds i ab).getD j ab) s:=by
   unfold dd.app iF;simp only[S.mk.injEq];refine⟨?_,?_,?_⟩
   ·exact Gm (·.e3) hp B s.t O (λx f zv v ec F h2=>by simp[lx,Fb h2 F]) d q
   ·exact Gm (·.hs) hp B s.H O (λx f zv v ec F h2=>by simp[lx,Fb h2 F]) d q
   exact Gm (·.us) hp B s.u O (λx f zv v ec F h2=>by simp[lx,Fb h2 F]) d q
  have ahG:=ahH i o e r JE B _ T;have ag7: ∀V pj w',Rel K V (e.app (iF (es.map (·.1)) 0 (λj=>b.getD j ab) s)) pj w'->wpAny K.P .any l.toArray xW c (b.setIfInBounds i ab) pj w':=by
   intro V pj w' RV;rw[U] at RV;have ahd:=(E i).1 q;refine mI (b.setIfInBounds i ab) (y.erase i) (by simpa using G) (N.erase i) (by rw[List.length_erase_of_mem ahd];omega) (λj=>?_) ?_ V pj w' RV
   ·rw[N.mem_erase_iff];by_cases L:j=i
    ·subst L;simp[Array.getD_eq_getD_getElem?,show j<b.size by omega]
    simp only[Array.getD_eq_getD_getElem?,Array.getElem?_setIfInBounds_ne (Ne.symm L)]
    have:=E j;rw[rO] at this;rw[this];simp[L]
   intro j DL z L f RA W;by_cases RE:j=i
   ·subst RE;rw[c6] at z;cases z;exact getD_set_true (X f RA W)
   have F:b.getD j ab=ab:=by
    simpa only[Array.getD_eq_getD_getElem?,Array.getElem?_setIfInBounds_ne (Ne.symm RE)] using L
   exact getD_set_true (bU j DL z F f RA W)
  have Y:=ahG g a w (wpAny K.P .any l.toArray xW c (b.setIfInBounds i ab)) xW b6 ag7;unfold wpOp;rw[c6];exact Y
theorem NV{Q:Exit->S->Prop}(c:List (dd×gP))(A:K.P.follows .mixedOrders=ab)(B:mP l.toArray l.length 0 c=ab)(C:sb 0 l=ab)
  (d:xw K l.toArray l c s λD=>Q .normal D):cW K (.region n l.toArray ab) s Q:=by
 intro e a w W k F;obtain⟨_,G,_⟩:=AA l c s _ d;refine wp_region_any A ?_;have m:Rel K e s a {w with drawn:=w.drawn+1}:=xR k;have H:iF (c.map (·.1)) 0 (λj=>(Array.replicate l.toArray.size al).getD j ab) s=s:=by
  have y:=(AA l c s _ d).1;have b: ∀{p:Type} (cb:List (List (Nat×p))) (L:Nat->Bool) (i:Nat) (f:Nat->p),(∀j,j<cb.length->L (i+j)=al)->ha cb i L f=f:=by
   intro p cb L;induction cb with
   |nil=>intro _ _ _;rfl
   |cons x cb R=>
    intro i f h;simp only[ha];have z:=h 0 bl;rw[nS] at z;rw[z,cond_false];exact R (i+1) f λj q=>by have:=h (j+1) cd;rwa [show i+(j+1)=i+1+j by omega] at this
  have r: ∀j,j<c.length->(Array.replicate l.toArray.size al).getD (0+j) ab=al:=λj q=>by
   rw[dA,rO,Array.getElem?_replicate,bg cd];rfl
  unfold iF;rw[b _ _ _ _ (by simpa using r),b _ _ _ _ (by simpa using r),b _ _ _ _ (by simpa using r)]
 refine acT B C d (λe a w k=>F _ _ _ _ _ G k) l.toArray.size (Array.replicate l.toArray.size al) (List.range l.length) bl List.nodup_range bl (λi=>?_) ?_ e a _ (by rw[H];exact m)
 ·rw[rO,Array.getElem?_replicate,xe]
  grind
 intro j o X q;rw[rO,Array.getElem?_replicate] at q
 grind
end
end
abbrev Y(n:Int):V:= .t (.int .i64 n)
abbrev aY(b:Bool):V:= .t (.bool b)
abbrev cc(s:List UInt8):V:= .t (.str s)
abbrev TA(a:List (List T)):V:= .t (.bH a)
abbrev ke(n:Int):List T:=[.int .i64 n]
abbrev p'(b:UInt8):List T:=[.int .u8 (b.toNat:Nat)]
abbrev aee(b:Bool):List T:=[.bool b]
def ji(P:Program)(f:FuncId):Prop:= ∃a,P.funcs[f]? =aa a/\(a.name== "runtime.NumGoroutine")=al/\a.body.isNone=al
section
variable {K:Ctx}{s:S}{Q:Exit->S->Prop}
variable {l:List Oper}
theorem LO{b:Array Oper}{Q:S->Prop}{c:S}(k:s.le K c)(h:qI K b l c Q):qI K b l s Q:=
  λm a w n o p=>let ⟨e,i⟩:=k m a w o;h e a w n i p
theorem Vq{i:Nat}(k:S)(h:qI K l.toArray l s λm=>m.le K k)(n:Q .normal k):cW K (.region i l.toArray al) s Q:=by intro o a w p q r;refine wp_region_lit (h o a w p q λm b x y A c=>?_);obtain⟨B,e⟩:=A b x y c;exact r _ _ _ _ _ n e
theorem cw.eq{P:Program}{H:Nat->Option E}{o:Oper}{a:List V}{v ec:V}(h:cw P H o a v)(e:v=ec):cw P H o a ec:=e▸h
section
variable {K:Ctx}{s:S}{d:Option Tmp}{ty:TypeId}{pos:String}{af:Array Edge}{g:Option (Nat×Bool)}
variable {t:TypeId}{u:TypeDesc}{z:Value}{gen size bytes:Nat}
end
end
theorem iQ(b:Bool){P:Prop}(a:b=al->P)(c:b=ab->P):P:=by
 cases b with
 |false=>exact a rfl
 |true=>exact c rfl
theorem fH.of_eq{b a:List V}(h:b=a):fH b a:=h▸fH.refl b
section
variable {K:Ctx}{s:S}{ops:Array Oper}{rest:List Oper}{Q:S->Prop}{d:Nat}{ty:TypeId}{pos:String}{af:Array Edge}{j:Nat}{want:Bool}{t:Nat}
end
section
mutual
def V.ek(L:List Nat):V->V
  | .ref id a=> .ref (L.getD id 0) a
  | .bd id gen b a len=> .bd (L.getD id 0) gen b a len
  | .cR id gen b i a=> .cR (L.getD id 0) gen b i a
  | .agg cs=> .agg (iW L cs)
  | .bZ cs=> .bZ (iW L cs)
  | .fn f cs=> .fn f (iW L cs)
  | .t x=> .t x
  | .aU x=> .aU x
  | .c'=> .c'
def iW(L:List Nat):List V->List V
  | []=>[]
  |c::cs=>c.ek L::iW L cs
end
def E.ek(L:List Nat):E->E
  | .cells cs=> .cells (iW L cs)
  | .arr ty gen b a=> .arr ty gen b a
  | .aC Γ m gen a c=> .aC Γ m gen a (c.map λh=>(h.1,h.2.1,h.2.2.ek L))
def E.flat:E->Bool
  | .cells _=>ab
  |_=>al
theorem pN{L:List Nat}: ∀cs:List V,(iW L cs).length=cs.length
  | []=>rfl
  |c::cs=>by simp[iW,pN cs]
theorem GD{L:List Nat}: ∀(cs:List V) (i:Nat),(iW L cs)[i]? =(cs[i]?).map (V.ek L)
  | [],_=>by simp[iW]
  |c::cs,0=>by simp[iW]
  |c::cs,i+1=>by simp[iW,GD cs i]
variable {L:List Nat}{w:World}{X:Nat->Prop}
theorem AS{a:List V}{i:Nat}{c:V}(h:(iW L a)[i]? =aa c): ∃b,a[i]? =aa b/\c=b.ek L:=by
  rw[GD] at h
  grind
theorem bC.ek{β β':Map}{v:V}{u:Value}(h:bC β w X v u)(e: ∀k x,β k=aa x->β' (L.getD k 0)=aa x):bC β' w X (v.ek L) u:=by
  induction h with
  |t x v h=>exact .t x v h
  |agg cs r o _ s=>exact .agg _ r (by rw[pN];exact o) (λi c u p y=>by obtain⟨z,A,rfl⟩:=AS p;exact s i z u A y)
  |bZ cs r o _ s=>exact .bZ _ r (by rw[pN];exact o) (λi c u p y=>by obtain⟨z,A,rfl⟩:=AS p;exact s i z u A y)
  |ref id d b l=>exact .ref _ d b (e _ _ l)
  |aU cells b d f l D p F=>exact .aU cells b d f l D p F
  |bd id gen a d len B b n ty m l G H K o Q=>exact .bd _ gen a d len B b n ty m (e _ _ l) G H K o Q
  |ho id gen a m l=>exact .ho _ gen a m (e _ _ l)
  |kc id gen a d len v q g C l m=>exact .kc _ gen a d len v q g C (e _ _ l) m
  |cR id gen a i d b m l=>exact .cR _ gen a i d b m (e _ _ l)
  |k7 id gen a i d v q g C l m=>exact .k7 _ gen a i d v q g C (e _ _ l) m
  |fn f cs r o _ s=>exact .fn f _ r (by rw[pN];exact o) (λi c u p y=>by obtain⟨z,A,rfl⟩:=AS p;exact s i z u A y)
  |c' v=>exact .c' v
def jo(L:List Nat)(a:Map):Map:=⟨λk=>(L[k]?).bind a,λk b=> ∃id,L[k]? =aa id/\a.n id b⟩
def fj:Nat->(Nat->Bool)
  |0=>gH
  |n+1=>a' (fj n) n ab
theorem jg: ∀{n k:Nat},fj n k=ab↔k<n
  |0,k=>by simp[fj,gH]
  |n+1,k=>by
    by_cases h:k=n
    · subst h;simp[fj,cy]
    · rw[fj,cr _ _ _ _ h,jg];omega
mutual
theorem bC.qd{β:Map}{w:World}{X:Nat->Prop}{L:List Nat}: ∀(v:V) (u:Value),bC β w X (v.ek L) u->v.ok (fj L.length)=ab->bC (jo L β) w X v u
  | .t x,u,h,_=>by
    simp only[V.ek] at h;cases h with|t _ _ h=>exact .t _ _ h
  | .aU x,u,h,_=>by
    simp only[V.ek] at h;cases h with|aU _ b l f a D r s=>exact .aU _ b l f a D r s
  | .c',u,_,_=> .c' u
  | .ref id l,u,h,d=>by
    have e:id<L.length:=jg.1 (by simpa[V.ok] using d);have o:jo L β id=β (L.getD id 0):=by simp[jo,List.getElem?_eq_getElem e]
    simp only[V.ek] at h;cases h with|ref _ _ b a=>exact .ref _ _ b (by rw[o];exact a)
  | .bd id gen y l len,u,h,d=>by
    have e:id<L.length:=jg.1 (by simpa[V.ok] using d);have o:jo L β id=β (L.getD id 0):=by simp[jo,List.getElem?_eq_getElem e]
    simp only[V.ek] at h;cases h with
    |bd _ _ _ _ _ A b n ty m a F k G d B=>exact .bd _ _ _ _ _ A b n ty m (by rw[o];exact a) F k G d B
    |ho _ _ _ m a=>exact .ho _ _ _ m (by rw[o];exact a)
    |kc _ _ _ _ _ _ q g C a m=>exact .kc _ _ _ _ _ _ q g C (by rw[o];exact a) m
  | .cR id gen y i l,u,h,d=>by
    have e:id<L.length:=jg.1 (by simpa[V.ok] using d);have o:jo L β id=β (L.getD id 0):=by simp[jo,List.getElem?_eq_getElem e]
    simp only[V.ek] at h;cases h with
    |cR _ _ _ _ _ b m a=>exact .cR _ _ _ _ _ b m (by rw[o];exact a)
    |k7 _ _ _ _ _ _ q g C a m=>exact .k7 _ _ _ _ _ _ q g C (by rw[o];exact a) m
  | .agg cs,u,h,d=>by
    simp only[V.ek] at h;cases h with
    |agg _ p k s=>exact .agg _ p (by rw[pN] at k;exact k) (λi c u r z=>Bh cs (λi=>p[i]?) (by simpa[V.ok] using d) s i c u r z)
  | .bZ cs,u,h,d=>by
    simp only[V.ek] at h;cases h with
    |bZ _ p k s=>exact .bZ _ p (by rw[pN] at k;exact k) (λi c u r z=>Bh cs (λi=>p[i]?) (by simpa[V.ok] using d) s i c u r z)
  | .fn f cs,u,h,d=>by
    simp only[V.ek] at h;cases h with
    |fn _ _ p k s=>exact .fn _ _ p (by rw[pN] at k;exact k) λi c u r z=>Bh cs (λi=>p[i]?) (by simpa[V.ok] using d) s i c u r z
theorem Bh{W:Map}{w:World}{X:Nat->Prop}{L:List Nat}: ∀(cs:List V) (a:Nat->Option Value),gI (fj L.length) cs=ab->
    (∀i c u,(iW L cs)[i]? =aa c->a i=aa u->bC W w X c u)-> ∀(i:Nat) c u,cs[i]? =aa c->a i=aa u->bC (jo L W) w X c u
  | [],_,_,_,_,_,_,h,_=>by simp at h
  |c::cs,a,b,h,0,_,u,d,e=>by
    simp at d;subst d;simp[gI] at b;exact bC.qd c u (h 0 _ u (by simp[iW]) e) b.1
  |c::cs,a,b,h,i+1,k,u,d,e=>by simp at d;simp[gI] at b;exact Bh cs (λi=>a (i+1)) b.2 (λi c u l m=>h (i+1) c u (by simpa[iW] using l) m) i k u d e
end
theorem du.qd{β:Map}{w:World}{X:Nat->Prop}{L:List Nat}: ∀{a:List V} {b:List Value},du β w X (iW L a) b->gI (fj L.length) a=ab->du (jo L β) w X a b
  | [],[],_,_=>trivial
  |v::a,u::b,h,c=>by
    simp[gI] at c;exact⟨bC.qd v u h.1 c.1,du.qd h.2 c.2⟩
  | [],_::_,h,_=>h.elim
  |_::_,[],h,_=>h.elim
def ev:List E->Nat->(Nat->Option E)
  | [],_=>mS
  |e::a,k=>a' (ev a (k+1)) k (aa e)
theorem Nc: ∀(a:List E) (k i:Nat),ev a k (k+i)=a[i]?
  | [],_,_=>by simp[ev,mS]
  |e::a,k,0=>by rw[nS,ev,cy];simp
  |e::a,k,i+1=>by rw[ev,cr _ _ _ _ O,show k+(i+1)=(k+1)+i by omega,Nc a (k+1) i];simp
theorem wO(a:List E)(i:Nat):ev a 0 i=a[i]? :=by have:=Nc a 0 i;rwa [dA] at this
def hQ(X:Nat->Prop)(a:Map)(H:Nat->Option E)(b:Nat):Prop:=X b\/ ∃id,H id≠ak/\At a id b
structure qx (G:fg) (fu:List E) (β:Map) (w:World) (X:Nat->Prop):Prop where
  d': ∀k,fu.length<=k->β k=ak
  eB: ∀k b,fu.length<=k-> ¬β.n k b
  inj: ∀id k' b,At β id b->At β k' b->id=k'
  place: ∀k b,At β k b->b<w.heap.size/\ ¬X b/\G.zd<=b
  heap: ∀k e,fu[k]? =aa e->c4 β w (hQ X β (ev fu 0)) k e
structure Left (hi β:Map) (fu out:List E) (w w':World) (X:Nat->Prop) (r:V) (u:Value):Prop where
  ext:Ext (λb=> ∃k,At hi k b) w w'
  base:ks fu.length hi β w.heap.size
  jK:Shaped hi w w'
  d': ∀k,out.length<=k->β k=ak
  eB: ∀k b,out.length<=k-> ¬β.n k b
  inj: ∀id k' b,At β id b->At β k' b->id=k'
  fresh: ∀k b,At β k b->((∃cD,cD<fu.length/\At hi cD b)\/w.heap.size<=b)/\b<w'.heap.size
  heap: ∀k e,out[k]? =aa e->c4 β w' (hQ X β (ev out 0)) k e
  res:bC β w' (hQ X β (ev out 0)) r u
def Lm(P:Program)(G:fg)(f:FuncId)(c:List E)(args:List V){ι:Type}(k:ι->Prop)(r:ι->V)(d:ι->List E):Prop:=
  ∀(w:World) (X:Nat->Prop) (a:Map) (h:List Value),G.ok w->(∀b,X b->b<w.heap.size)->qx G c a w X->du a w (hQ X a (ev c 0)) args h->
    Calls P f h.toArray w λe l=> ∃u i m,e= .returned u/\k i/\Left a m c (d i) w l X (r i) u
def Ctx.dD(P:Program)(G:fg)(w:World)(X:Nat->Prop)(eg:Nat)(hi:Map)(nt:Nat):Ctx:={P,G,w0:=w,X,eg,hi,nt}
def l1(a:List E)(args:List V):S:={t:=ur args 0,H:=ev a 0,u:=fj a.length}
theorem Rel.l1{P:Program}{G:fg}{nt:Nat}{a:List E}{W:Map}{args:List V}{c:List Value}(q:G.ok w)(r: ∀b,X b->b<w.heap.size)(d:qx G a W w X)
    (h:du W w (hQ X W (ev a 0)) args c) (x:c.length<=nt):
    Rel (Ctx.dD P G w X a.length W nt) W (Lift.l1 a args) {tmps:=c.toArray++Array.replicate (nt-c.toArray.size) undef,defers:=[]} w:=by
  have k: ∀id b,At W id b->id<a.length:=by
    rintro id b (⟨g,h⟩|h)
    · apply nV;intro l;rw[d.d' id l] at h;cases h
    · exact nV λl=>d.eB id b l h
  refine {ext:=Ext.refl _ _,q4:=q,rs:= ?_,ko:= ?_,base:=ks.refl _ _ _,jK:=Shaped.refl _ _,low:=λid h=>jg.2 h,d':= ?_,eB:= ?_,
           vQ:=d.inj,inj:=d.inj,fresh:=λid b h=>⟨.inl ⟨id,k id b h,h⟩,(d.place id b h).1⟩,heap:= ?_,dB:= ?_,nt:= ?_,defers:=rfl}
  · rintro b ⟨id,_,h⟩;exact(d.place id b h).2.2
  · intro b p;exact⟨r b p,λ⟨id,_,h⟩=>(d.place id b h).2.1 p⟩
  · intro id hid;apply d.d';apply Nat.le_of_not_lt;intro k;have m:=jg.2 k;have n:fj a.length id=al:=hid
    grind
  · intro id b hid h;have m:=jg.2 (k id b (.inr h));have n:fj a.length id=al:=hid
    grind
  · intro id e s;have o:a[id]? =aa e:=by rw[<-wO];exact s
    refine⟨jg.2 ?_,d.heap id e o⟩
    grind
  · intro i;have m:=E8 args c 0 h i;rw[dA] at m;have n:(c.toArray++Array.replicate (nt-c.toArray.size) undef).getD i undef=c.getD i undef:=by
      simp only[Array.getD_eq_getD_getElem?,List.getD_eq_getElem?_getD,Array.getElem?_append]
      grind
    simp only[n];exact m
  · simp[Ctx.dD];omega
end
section
def lj{R:Type}(f:Nat->R):List Nat->(Nat->R)->(Nat->R)
 | [],_=>f
 |l::L,g=>a' (lj f L λk=>g (k+1)) l (g 0)
theorem nH{k:Type}{f:Nat->k}: ∀{L:List Nat} {g:Nat->k} {id:Nat},id∉L->lj f L g id=f id
 | [],_,_,_=>rfl
 |l::L,g,id,h=>by simp at h;rw[lj,cr _ _ _ _ h.1];exact nH h.2
theorem oS{R:Type}{f:Nat->R}: ∀{L:List Nat} {g:Nat->R} {k id:Nat},L.Nodup->L[k]? =aa id->lj f L g id=g k
 | [],_,_,_,_,h=>by simp at h
 |l::L,g,0,id,_,h=>by simp at h;subst h;rw[lj,cy]
 |l::L,g,k+1,id,a,h=>by simp at h a;have b:id≠l:=λe=>a.1 (e▸bX h);rw[lj,cr _ _ _ _ b];exact oS (g:=λk=>g (k+1)) a.2 h
theorem GC: ∀{L:List Nat} {i j id:Nat},L.Nodup->L[i]? =aa id->L[j]? =aa id->i=j
 | [],_,_,_,_,h,_=>by simp at h
 |l::L,0,0,_,_,_,_=>rfl
 |l::L,0,j+1,id,a,h,b=>by simp at h b a;subst h;exact br (bX b) a.1
 |l::L,i+1,0,id,a,h,b=>by simp at h b a;subst b;exact br (bX h) a.1
 |l::L,i+1,j+1,id,a,h,b=>by simp at h b a;rw[GC a.2 h b]
def S.after(s:S)(L:List Nat)(a:List E):S:=
 {t:=s.t,H:=lj s.H L λk=>(a[k]?).map (E.ek L),u:=lj s.u L (λ_=>ab)}
def Fp(K:Ctx)(o:Oper)(s:S){k:Type}(e:k->Prop)(h:k->S):Prop:=
 ∀l a w next Q,Rel K l s a w->(∀i,e i-> ∀b c d,Rel K b (h i) c d->next c d)->o.wp K.P a w next Q
variable {β:Map}{w:World}{X:Nat->Prop}{L:List Nat}{k:Nat}{e:E}{f:FuncId}
theorem c4.qd{id:Nat}(h:c4 β w X id (e.ek L))(C:L[k]? =aa id)(F:e.ok (fj L.length)=ab):c4 (jo L β) w X k e:=by
 have l:jo L β k=β id:=by simp[jo,C]
 cases e with
 |cells cs=>
  obtain⟨b,o,ty,a,d,s,D⟩:=h;rw[pN] at s;refine⟨b,o,ty,by rw[l];exact a,d,s,λi c u y Q=>?_⟩;exact bC.qd c u (D i _ u (by rw[GD,y];rfl) Q) (w7 F y)
 |arr ty gen G p=>
  refine⟨h.1,?_⟩;rcases h.2 with ⟨a,d⟩|⟨b,o,a,d⟩
  ·exact .inl ⟨by rw[l];exact a,d⟩
  exact .inr ⟨b,o,by rw[l];exact a,d⟩
 |aC N m gen p P=>
  refine⟨h.1,?_⟩;have H: ∀c,(jo L β).n k c↔β.n id c:=λc=>⟨λ⟨R,a,d⟩=>by rw[C] at a;cases a;exact d,λh=>⟨id,C,h⟩⟩
  rcases h.2 with ⟨a,d,W⟩|⟨b,o,B,a,d,s,D,K,f,g,t⟩
  ·exact .inl ⟨by rw[l];exact a,d,λc y=>W c ((H c).1 y)⟩
  refine .inr ⟨b,o,B,by rw[l];exact a,d,s,D,λi j q x u aP a2 a3=>⟨λv z=>?_,λI=>?_⟩,f,g,λc=>(H c).trans (t c)⟩
  ·have A:=(K i j q x u aP a2 a3).1 (v.ek L) (eH.2 ⟨_,z,rfl⟩);exact⟨bC.qd v u A.1 (G7 F z),A.2⟩
  refine(K i j q x u aP a2 a3).2 λv z=>?_;obtain⟨⟨S,T,M⟩,A,r⟩:=eH.1 z;simp only[Prod.mk.injEq] at r;obtain⟨rfl,rfl,rfl⟩:=r;exact I M A
theorem c4.ek{β':Map}{X':Nat->Prop}{C:Nat}(h:c4 β w X k e)(W:L[k]? =aa C)(o: ∀k x,β k=aa x->β' (L.getD k 0)=aa x)(F: ∀b,X' b->X b)(Q: ∀b,β'.n C b↔β.n k b):c4 β' w X' C (e.ek L):=by
 have q: ∀x,β k=aa x->β' C=aa x:=λx G=>by have:=o k x G;rwa [fa,W] at this
 cases e with
 |cells cs=>
  obtain⟨b,r,ty,a,d,s,y⟩:=h;refine⟨b,r,ty,q _ a,d,by rw[pN];exact s,λi c u H f=>?_⟩;obtain⟨g,p,rfl⟩:=AS H;exact((y i g u p f).ek o).mono (Ext.refl _ _) (λb _=>F b) (dT.refl _) (Shaped.refl _ _)
 |arr ty gen R z=>
  refine⟨h.1,?_⟩;rcases h.2 with ⟨a,d⟩|⟨b,r,a,d,s,y,p⟩
  ·exact .inl ⟨q _ a,d⟩
  exact .inr ⟨b,r,q _ a,d,s,y,λi j l x u aP a2 a3=>(p i j l x u aP a2 a3).mono (Ext.refl _ _) λb _=>F b⟩
 |aC T m gen z U=>
  refine⟨h.1,?_⟩;rcases h.2 with ⟨a,d,t⟩|⟨b,r,B,a,d,s,y,p,I,M,N⟩
  ·exact .inl ⟨q _ a,d,λc H=>t c ((Q c).1 H)⟩
  refine .inr ⟨b,r,B,q _ a,d,s,y,λi j l x u aP a2 a3=>⟨λv K=>?_,λG=>?_⟩,I,M,λc=>(Q c).trans (N c)⟩
  ·obtain⟨⟨V,Y,P⟩,S,A⟩:=eH.1 K;simp only[Prod.mk.injEq] at A;obtain⟨rfl,rfl,rfl⟩:=A;have D:=(p _ _ l x u aP a2 a3).1 P S;exact⟨(D.1.ek o).mono (Ext.refl _ _) (λb _=>F b) (dT.refl _) (Shaped.refl _ _),D.2⟩
  exact((p i j l x u aP a2 a3).2 λv K=>G (v.ek L) (eH.2 ⟨_,K,rfl⟩)).mono (Ext.refl _ _) (λb _=>F b) λ_ _=>rfl
theorem du.app{β:Map}{w:World}{X:Nat->Prop}: ∀{c a:List V} {d b:List Value},du β w X c d->du β w X a b->du β w X (c++a) (d++b)
 | [],_,[],_,_,h=>h
 |_::_,_,_::_,_,h,k=>⟨h.1,du.app h.2 k⟩
 | [],_,_::_,_,h,_=>h.elim
 |_::_,_,[],_,h,_=>h.elim
theorem FX{W:Map}{w:World}{X:Nat->Prop}: ∀{b:List V} {d:List Value},d.length=b.length->(∀(i:Nat) c u,b[i]? =aa c->d[i]? =aa u->bC W w X c u)->du W w X b d
 | [],[],_,_=>trivial
 |v::b,u::d,a,h=>⟨h 0 v u rfl rfl,FX (by simpa using a) λi c u e k=>h (i+1) c u (by simpa using e) (by simpa using k)⟩
 | [],_::_,a,_=>by simp at a
 |_::_,[],a,_=>by simp at a
theorem bC.Jc{a:List V}{u:Value}(h:bC β w X (.fn f a) u): ∃b:Array Value,u= .func (.func f) #[] b/\du β w X a b.toList:=by
 cases h with
 |fn _ _ b d h=>exact⟨b,rfl,FX (by simpa using d) λi c u e k=>h i c u e (by simpa using k)⟩
theorem aaF{K:Ctx}{s:S}{o:Oper}{xs:Array Operand}{Tp:Array TypeId}{fu:List E}{args:List V}{ι:Type}{mh:ι->Prop}{r:ι->V}{F:ι->List E}(Jd:Operand)(L news:List Nat)
  (QY:List V) (c6:o.op= .call {callee:= .value Jd,args:=xs,argTypes:=Tp}) (ag9:s.get Jd= .fn f QY)
  (iw:ji K.P f) (cJ: ∀i,o.dst=aa i->dp i K.nt=ab) (bx:fH (xs.toList.map s.get++QY) (iW L args)) (cS:gI (fj L.length) args=ab)
  (vr:fu.length=L.length) (hH: ∀(k:Nat) (e:E),fu[k]? =aa e-> ∃id,L[k]? =aa id/\s.H id=aa (e.ek L)/\e.ok (fj L.length)=ab)
  (U:(L++news).Nodup) (vB: ∀id,id∈news->s.u id=al) (JI: ∀i,(F i).length=(L++news).length)
  (h:Lm K.P K.G f fu args mh r F):Fp K o s mh (λi=>(s.after (L++news) (F i)).put o.dst ((r i).ek (L++news))):=by
 obtain⟨fn,ag4,ag5,ag6⟩:=iw;intro W a w next Q p l
 have s6:fn.name≠ "runtime.NumGoroutine" :=by simpa using ag5
 have j9:fn.body≠ak:=by intro e;simp[e] at ag6
 obtain⟨us,agY,vF⟩:=(ag9▸p.get Jd).Jc;have yT:(execOp a.eval o).run K.P w= .ok (.enter f (xs.map a.eval++us)) w:=by
  simp[execOp,c6,resolve,Deferred.ofValue,agY,invoke,callFunc,ag4,s6,j9]
 unfold Oper.wp;rw[yT,Oper.upon_enter];let z:Map:=jo L W;let X':Nat->Prop:=λb=>own K W s.H b/\ ¬ ∃k,At z k b;have iS: ∀k g b,z k=aa (aa b,g)-> ∃id,L[k]? =aa id/\W id=aa (aa b,g):=by
  intro k g b h;cases l:L[k]? with
  |none=>simp[z,jo,l] at h
  |some id=>simp[z,jo,l] at h;exact⟨id,rfl,h⟩
 have X: ∀k b,At z k b-> ∃id,L[k]? =aa id/\At W id b:=by
  rintro k b (⟨g,h⟩|⟨id,m,y⟩)
  ·obtain⟨id,m,y⟩:=iS k g b h;exact⟨id,m,.inl ⟨g,y⟩⟩
  exact⟨id,m,.inr y⟩
 have agS: ∀(k id:Nat),L[k]? =aa id->s.H id≠ak:=by
  intro k id l;have hlt:k<fu.length:=by rw[vr];exact(d6.1 l).1
  obtain⟨D,m,y,_⟩:=hH k _ (bD hlt);rw[l] at m;cases m;rw[y];simp
 have v: ∀k b,At z k b->own K W s.H b:=by
  intro k b h;obtain⟨id,m,y⟩:=X k b h;exact .inr ⟨id,agS k id m,y⟩
 have RR: ∀b,hQ X' z (ev fu 0) b->own K W s.H b:=by
  rintro b (h|⟨k,_,y⟩)
  ·exact h.1
  exact v k b y
 have Jn: ∀k b,At z k b->K.M b\/K.w0.heap.size<=b:=by
  intro k b h;obtain⟨id,m,y⟩:=X k b h;exact(p.fresh id b y).1
 have yU: ∀b,own K W s.H b->b<w.heap.size:=by
  rintro b (I|⟨id,_,bw⟩)
  ·exact lq (p.ko b I).1 p.ext.size
  exact(p.fresh id b bw).2
 have ahC:L.Nodup:=(List.nodup_append.1 U).1;have ahi:qx K.G fu z w X':=by
  refine⟨?_,?_,?_,?_,?_⟩
  ·intro k l;rw[vr] at l;simp[z,jo,List.getElem?_eq_none l]
  ·rintro k b l ⟨id,m,_⟩;rw[vr] at l;rw[El l] at m;cases m
  ·intro k cD b h yG;obtain⟨id,m,y⟩:=X k b h;obtain⟨D,agE,h2'⟩:=X cD b yG;have he:=p.inj id D b y h2';subst he;have l:=(d6.1 m).1;exact GC ahC m agE
  ·intro k b B;refine⟨yU b (v k b B),λI=>I.2 ⟨k,B⟩,?_⟩;rcases Jn k b B with A|A
   ·exact p.rs b A
   exact eO p.q4.1 A
  intro k e he;obtain⟨id,m,y,h4⟩:=hH k e he;have hK:=c4.qd (p.heap id _ y).2 m h4;exact hK.mono (Ext.refl _ _) (λb _=>RR b) (dT.refl _) (λ_ h=>h) (Shaped.refl _ _) λ_ _=>rfl
 have agV:=(du.qd (((p.oG xs.toList).app vF).le bx) cS).mono (Ext.refl _ _) (λb _=>RR b) (dT.refl _) (Shaped.refl _ _);have bU:=h w X' z _ p.Df (λb bw=>yU b bw.1) ahi agV;have he:(List.map a.eval xs.toList++us.toList).toArray=xs.map a.eval++us:=by rw[<-xb,<-Array.toList_append]
 rw[he] at bU;refine bU.mono ?_;rintro e w' ⟨u,i,R,rfl,ain,d⟩;let C:=L++news;let N:Map:=⟨lj W C R,λid b=>(id∉C/\W.n id b)\/ ∃k,C[k]? =aa id/\R.n k b⟩
 let s2:=s.after C (F i);have ahw: ∀k,k<L.length->C[k]? =L[k]? :=λk l=>hz l;have t: ∀id,id∈C-> ∃k:Nat,C[k]? =aa id/\k<(F i).length:=by
  intro id hid;obtain⟨k,l,e⟩:=List.mem_iff_getElem.1 hid;exact⟨k,d6.2 ⟨l,e⟩,by rw[JI];exact l⟩
 have xy: ∀id,id∉C->N id=W id:=λid h=>nH h;have AE: ∀k id,C[k]? =aa id->N id=R k:=λk id h=>oS U h;have KT: ∀k id,k<L.length->C[k]? =aa id->(R k=W id)\/ ∃q g wJ lJ,W id=aa (q,g)/\1<=g/\R k=aa (wJ,lJ)/\g<lJ/\ ∀b,wJ=aa b->q=aa b\/w.heap.size<=b:=by
  intro k id l h;have bw:=d.base k (by rw[vr];exact l);rw[ahw k l] at h;have e:z k=W id:=by simp[z,jo,h]
  rw[e] at bw;exact bw
 have RN: ∀k id,L.length<=k->C[k]? =aa id->id∈news:=by
  intro k id l h;rw[ic l] at h;exact bX h
 have KU:dT W N:=by
  intro id q g I;by_cases hid:id∈C
  ·obtain⟨k,l,_⟩:=t id hid;by_cases Y:k<L.length
   ·rw[AE k id l];rcases KT k id Y l with e|⟨mQ,g1,wJ,lJ,aP,a2,a3,a4,_⟩
    ·exact .inl (e.trans I)
    rw[I] at aP;cases aP;exact .inr ⟨a2,wJ,lJ,a3,a4⟩
   have:=p.d' id (vB id (RN k id O l));rw[this] at I;cases I
  exact .inl (by rw[xy id hid];exact I)
 have agP: ∀k id,C[k]? =aa id->s2.H id=((F i)[k]?).map (E.ek C):=λk id h=>oS U h;have Rj: ∀id,id∉C->s2.H id=s.H id:=λid h=>nH h;have RQ: ∀id b,id∉C->At W id b-> ¬ ∃k,At z k b:=by
  rintro id b hid bw ⟨k,h⟩;obtain⟨D,m,y⟩:=X k b h
  have:=p.inj id D b bw y;subst this;exact hid (nU _ (bX m))
 have Dh: ∀id b,At N id b->(id∉C/\At W id b)\/ ∃k,C[k]? =aa id/\At R k b:=by
  rintro id b (⟨g,h⟩|⟨m,y⟩|⟨k,m,y⟩)
  ·by_cases hid:id∈C
   ·obtain⟨k,l,_⟩:=t id hid;rw[AE k id l] at h;exact .inr ⟨k,l,.inl ⟨g,h⟩⟩
   rw[xy id hid] at h;exact .inl ⟨hid,.inl ⟨g,h⟩⟩
  ·exact .inl ⟨m,.inr y⟩
  exact .inr ⟨k,m,.inr y⟩
 have hO: ∀b,own K N s2.H b->hQ X' R (ev (F i) 0) b:=by
  rintro b (I|⟨id,m,y⟩)
  ·refine .inl ⟨.inl I,?_⟩;rintro⟨k,B⟩;rcases Jn k b B with A|A
   ·exact(p.ko b I).2 A
   have:=(p.ko b I).1;omega
  rcases Dh id b y with ⟨hid,h2'⟩|⟨k,l,B⟩
  ·rw[Rj id hid] at m;exact .inl ⟨.inr ⟨id,m,h2'⟩,RQ id b hid h2'⟩
  have Y:k<(F i).length:=by rw[JI];exact(d6.1 l).1
  refine .inr ⟨k,?_,B⟩;rw[wO,bD Y];simp
 have ajP: ∀k b,At R k b->k<(F i).length:=by
  rintro k b (⟨g,h⟩|h)
  ·apply nV;intro hle;rw[d.d' k hle] at h;cases h
  exact nV λhle=>d.eB k b hle h
 have Rl: ∀b,b<w.heap.size->own K N s2.H b->own K W s.H b:=by
  intro b Rw bw;rcases hO b bw with m|⟨k,_,B⟩
  ·exact m.1
  rcases(d.fresh k b B).1 with ⟨cD,_,A⟩|A
  ·exact v cD b A
  omega
 have Rg:Ext (own K W s.H) w w':=d.ext.weaken λb _ ⟨k,B⟩=>v k b B;have Rp:Shaped W w w':=λb bw=>d.jK b bw;have RX: ∀k x,R k=aa x->N (C.getD k 0)=aa x:=by
  intro k x I;have hlt:k<(F i).length:=by
   apply nV;intro hle;rw[d.d' k hle] at I;cases I
  rw[JI] at hlt;have bV:C[k]? =aa C[k]:=bD hlt;rw[fa,bV];exact(AE k _ bV).trans I
 have hold: ∀k b,At R k b->(∃id,id∈C/\At W id b)\/w.heap.size<=b:=by
  intro k b bw;rcases(d.fresh k b bw).1 with ⟨cD,A,h4⟩|A
  ·obtain⟨D,e1,e2⟩:=X cD b h4;exact .inl ⟨D,nU _ (bX e1),e2⟩
  exact .inr A
 have hrel:Rel K N s2 a w':=by
  refine {p with ext:= ?_,base:= ?_,jK:= ?_,low:= ?_,d':= ?_,eB:= ?_,inj:= ?_,fresh:= ?_,heap:= ?_,dB:= ?_}
  ·refine p.ext.trans' (d.ext.weaken ?_);rintro b _ ⟨k,B⟩ ⟨m,y⟩;rcases Jn k b B with A|A
   ·exact y A
   omega
  ·refine p.base.more λid hid=>?_;by_cases T:id∈C
   ·obtain⟨k,l,_⟩:=t id T;by_cases Y:k<L.length
    ·rw[AE k id l];rcases KT k id Y l with e|⟨q,g,wJ,lJ,aP,a2,a3,a4,a5⟩
     ·exact .inl e
     exact .inr ⟨q,g,wJ,lJ,aP,a2,a3,a4,λb bw=>by
      rcases a5 b bw with c|c
      ·exact .inl c
      exact .inr (eO p.ext.size c)⟩
    have m:=vB id (RN k id O l);rw[p.low id hid] at m;cases m
   exact .inl (xy id T)
  ·intro b A;exact(d.jK b (lq A p.ext.size)).trans (p.jK b A)
  ·intro id hid;by_cases T:id∈C
   ·obtain⟨k,l,_⟩:=t id T;exact oS (f:=s.u) (g:=λ_=>ab) U l
   exact(nH T).trans (p.low id hid)
  ·intro id hid;by_cases T:id∈C
   ·obtain⟨k,l,_⟩:=t id T
    have:s2.u id=ab:=oS (f:=s.u) (g:=λ_=>ab) U l;rw[this] at hid;cases hid
   rw[xy id T];exact p.d' id ((nH (f:=s.u) (g:=λ_=>ab) T).symm.trans hid)
  ·rintro id b hid (⟨m,y⟩|⟨k,l,y⟩)
   ·exact p.eB id b ((nH (f:=s.u) (g:=λ_=>ab) m).symm.trans hid) y
   have:s2.u id=ab:=oS (f:=s.u) (g:=λ_=>ab) U l;rw[this] at hid;cases hid
  ·intro id D b m y;rcases Dh id b m with ⟨m1,aP⟩|⟨k,l,aP⟩<;>rcases Dh D b y with ⟨m2,a2⟩|⟨cD,pF,a2⟩
   ·exact p.inj id D b aP a2
   ·rcases hold cD b a2 with ⟨y1,A,h4⟩|A
    ·have:=p.inj id y1 b aP h4;subst this;exact br A m1
    have:=(p.fresh id b aP).2;omega
   ·rcases hold k b aP with ⟨y1,A,h4⟩|A
    ·have:=p.inj D y1 b a2 h4;subst this;exact br A m2
    have:=(p.fresh D b a2).2;omega
   have:=d.inj k cD b aP a2;subst this;rw[l] at pF;cases pF;rfl
  ·intro id b m;rcases Dh id b m with ⟨_,aP⟩|⟨k,l,aP⟩
   ·exact⟨(p.fresh id b aP).1,lq (p.fresh id b aP).2 d.ext.size⟩
   refine⟨?_,(d.fresh k b aP).2⟩;rcases hold k b aP with ⟨y1,_,A⟩|A
   ·exact(p.fresh y1 b A).1
   exact .inr (eO p.ext.size A)
  ·intro id e he;by_cases T:id∈C
   ·obtain⟨k,l,Y⟩:=t id T;refine⟨oS (f:=s.u) (g:=λ_=>ab) U l,?_⟩;rw[agP k id l,bD Y] at he;simp at he;subst he;exact c4.ek (d.heap k _ (bD Y)) l RX hO (λb=>⟨λh=>by
     rcases h with ⟨m,_⟩|⟨cD,m,y⟩
     ·exact br T m
     have:=GC U m l;subst this;exact y,λh=> .inr ⟨k,l,h⟩⟩)
   rw[Rj id T] at he;obtain⟨m,y⟩:=p.heap id e he;refine⟨(nH (f:=s.u) (g:=λ_=>ab) T).trans m,?_⟩;exact y.mono Rg Rl KU (λx I=>by rw[xy id T];exact I) Rp (λb bw=>d.ext.keep b (p.fresh id b bw).2 (RQ id b T bw)) (λb=>⟨λh=>by
    rcases h with ⟨_,h⟩|⟨cD,m,_⟩
    ·exact h
    exact br (bX m) T,λh=> .inl ⟨T,h⟩⟩)
  intro j;exact(p.dB j).mono Rg Rl KU Rp
 exact l i ain N _ w' (hrel.put o.dst cJ ((d.res.ek RX).mono (Ext.refl _ _) (λb _=>hO b) (dT.refl _) (Shaped.refl _ _)))
end
section
variable {K:Ctx}{s:S}{d:Option Tmp}{ty:TypeId}{pos:String}{af:Array Edge}{g:Option (Nat×Bool)}{f:FuncId}{xs:Array Operand}{Tp:Array TypeId}{args:List V}{ι:Type}{mh:ι->Prop}{r:ι->V}{out:ι->List E}
theorem Fp.j{o:Oper}{u:Unit->Prop}{b:Unit->S}(h:Fp K o s u b):dZ K o s (b ()):=
 λβ a w next Q c e=>h β a w next Q c λ_ _=>e
variable {ops:Array Oper}{rest:List Oper}{Q:S->Prop}{op:Op}
end
section
variable {P:Program}{H:Nat->Option E}{d:Option Tmp}{ty:TypeId}{pos:String}{af:Array Edge}{g:Option (Nat×Bool)}
theorem adP(n:Int):IntKind.u8.wrap n=((UInt8.ofInt n).toNat:Int):=by
 have:IntKind.u8.wrap n=n%256:=by simp[IntKind.wrap,IntKind.bits,IntKind.signed]
 rw[this];simp[UInt8.ofInt];omega
theorem Xs(x:Operand)(c k e:TypeId)(l:List UInt8)(B:P.underlying c=aa (.slice e))(C:P.underlying e=aa (.int .u8))(D:P.underlying k=aa .string):
  cw P H ⟨d,.convert c k x,ty,pos,af,g⟩ [TA (l.map p')] (cc l):=by
 intro I w X F _ M;refine⟨.string ⟨l.toArray⟩,?_,.t _ _ (.str l)⟩;have Q:bC I w X (TA (l.map p')) (F x):=M.1;simp only[execOp];suffices (convert c k (F x)).run P w= .ok (.string ⟨l.toArray⟩) w by
  simp only[e5,this,eV,hh]
 generalize F x=y at Q⊢;cases Q with
 |t _ _ h=>
  generalize R:l.map p'=W at h;cases h with
  |gd a m=>
   have p:l=[]:=by simpa using R
   subst p;rw[run_convert_bytes_string w c k e _ _ _ B C D];cases a with
   |none=>simp[Conv.bytesToString];rfl
   |some a=>
    rw[run_bytesToString w a 0 m [] (by simp[loadCells,loadCellsFrom,hh])];rfl
  |bH _ b n r m f T U j G N K=>
   subst R;cases p:l with
   |nil=>
    subst p
    have:=run_convert_bytes_arg (P:=P) w c e B C b n 0 m [] rfl (λi u=>O) k D;exact this
   |cons y V=>
    rw[<-p];have o:r=1:=by
     have:=G (p' y) (by rw[p];simp);simpa using this.symm
    subst o;have S: ∀(i:Nat) (z:UInt8),l[i]? =aa z->f i 0= .int .u8 (z.toNat:Int):=by
     intro i z s;have v:=K i 0 (p' z) (.int .u8 (z.toNat:Nat)) (by rw[eG,s];rfl) rfl;generalize f i 0=q at v⊢;cases v;rfl
    have:=run_convert_bytes_arg (P:=P) w c e B C b n (l.map p').length m (l.map λz=>(z.toNat:Int)) bl (λi u=>by
     have A:i<l.length:=by simpa using u
     have s:l[i]? =aa l[i]:=bD A;have L:=N i 0 (by simpa using A) O;rw[S i _ s] at L;rw[show n+i*1+0=n+i by omega] at L;rw[L];simp[List.getD_eq_getElem?_getD,s]) k D
    rw[this];congr 2;simp only[strOfNums,List.map_map];congr 2;apply List.ext_getElem?;intro i;rw[eG];cases s:l[i]? with
    |none=>rfl
    |some z=>simp
end
section
variable {K:Ctx}{s:S}{d:Option Tmp}{ty:TypeId}{pos:String}{af:Array Edge}{g:Option (Nat×Bool)}
variable {t:TypeId}{u:TypeDesc}{z:Value}{size bytes:Nat}
theorem aci(k:Nat)(q:s.u k=al)(e:TypeId)(r: ∀i,d=aa i->dp i K.nt=ab)(y:K.P.underlying t=aa (.slice e))(A:cj K.P e u z size bytes):
  dZ K ⟨d,.buildSlice t 0 #[],ty,pos,af,g⟩ s ((s.new k (.arr e 1 size [])).put d (.bd k 1 size 0 0)):=by
 intro o a w next Q B l
 have b:(execOp a.eval ⟨d,.buildSlice t 0 #[],ty,pos,af,g⟩).run K.P w= .ok (.value (.slice (aa ⟨w.heap.size,0,ak⟩) 0 0)) (w.alloc (.cells #[] e)):=by
  simp only[execOp,Instr.buildSlice,e5,run_underlying y,eV,A.run_sizeOf,Nat.zero_mul,show¬(0>2^24) by decide,if_false,if_true];simp only[Instr.fill,e5,hh,eV,show Array.range 0= #[] from by simp[Array.range],List.map_toArray,List.map_nil];rfl
 unfold Oper.wp;rw[b];have c:=B.new k 1 q #[] e (.arr e 1 size []) λC R W D F G=>⟨df _,Or.inr ⟨w.heap.size,_,F,by subst D;exact j0 _ _,bl,λ_ h=>by simp at h,λi j L x u h=>by simp at h⟩⟩
 have m:(w.alloc (.cells #[] e)).heap.size=w.heap.size+1:=World.size_alloc ..;have n:(w.alloc (.cells #[] e)).shape? w.heap.size=aa (e,0):=by unfold jb;rw[j0];simp
 have p:bC (o.put k (aa (aa w.heap.size,1))) (w.alloc (.cells #[] e)) (own K (o.put k (aa (aa w.heap.size,1))) (s.new k (.arr e 1 size [])).H) (.bd k 1 size 0 0)
   (.slice (aa ⟨w.heap.size,0*size,ak⟩) 0 0):= .bd k 1 size 0 0 0 w.heap.size 0 e (df _) (cy _ _ _) (m▸nf _) n bl (df _) (by unfold maxLen;omega)
 rw[gL] at p;exact l _ _ _ (c.put d r p)
end
def Iq:Option TypeDesc->Bool
 |some (.int .i64)=>ab
 |_=>al
theorem aco{o:Option TypeDesc}(h:Iq o=ab):o=aa (.int .i64):=by
 unfold Iq at h
 grind
def w3(P:Program):List Field->Nat->Bool
 | [],_=>ab
 |f::a,i=>f.name != "_" &&Iq (P.underlying f.type)&&b7 f.offset i&&w3 P a (i+1)
theorem Kc{P:Program}{w:World}{xs ys:Array Value}: ∀(a:List Field) (i:Nat) (ms b:List Int),w3 P a i=ab->ms.length=a.length->b.length=a.length->
  (∀(j:Nat) m,ms[j]? =aa m->xs[i+j]? =aa (.int .i64 m))->(∀(j:Nat) m,b[j]? =aa m->ys[i+j]? =aa (.int .i64 m))->
  (Op.eqFields 9999 xs ys a).run P w= .ok (decide (ms=b)) w
 | [],i,ms,b,_,c,e,_,_=>by
  have A:ms=[]:=by simpa using c
  have B:b=[]:=by simpa using e
  subst A;subst B;simp[Op.eqFields]
 |f::a,i,[],b,_,c,_,_,_=>by simp at c
 |f::a,i,m::ms,[],_,_,e,_,_=>by simp at e
 |f::a,i,m::ms,n::b,s,c,e,x,y=>by
  simp only[w3,cB] at s;obtain⟨⟨⟨C,k⟩,c6⟩,D⟩:=s;have k:=aco k;have c6:=db c6;have l:f.name≠ "_" :=by simpa using C
  have z: ∀(cs:Array Value) (v:Value),cs[i]? =aa v->(part f.type cs f.offset).run P w= .ok v w:=by
   intro cs v F;rw[c6];simp[part,isAgg,run_underlying k,F]
  have o:=x 0 m rfl;have p:=y 0 n rfl;have G:=Kc (P:=P) (w:=w) a (i+1) ms b D (by simpa using c) (by simpa using e)
   (λj q r=>by rw[show i+1+j=i+(j+1) by omega];exact x (j+1) q (by simpa using r))
   λj q r=>by rw[show i+1+j=i+(j+1) by omega];exact y (j+1) q (by simpa using r)
  simp only[Op.eqFields,l,ne_eq,not_false_eq_true,if_true,e5,z xs _ o,z ys _ p,eV,run_equalIn_int w 9998 f.type .i64 .i64 m n k];by_cases h:m=n
  ·subst h;simp[G]
  simp[h]
section
variable {P:Program}{H:Nat->Option E}{d:Option Tmp}{ty:TypeId}{pos:String}{af:Array Edge}{g:Option (Nat×Bool)}
theorem BR{W:Map}{w:World}{X:Nat->Prop}{e:List Int}{u:Value}(h:bC W w X (.agg (e.map Y)) u): ∃a:Array Value,u= .agg a/\ ∀(j:Nat) m,e[j]? =aa m->a[j]? =aa (.int .i64 m):=by
 cases h with
 |agg _ a l n=>
  refine⟨a,rfl,λj m c=>?_⟩;have b:j<a.size:=by
   rw[l,dH];exact(d6.1 c).1
  have i:a[j]? =aa a[j]:=hR b;have k:=n j (Y m) _ (by rw[eG,c];rfl) i;rw[i];generalize a[j]=q at k;cases k with|t _ _ h=>cases h;rfl
theorem Ye(x y:Operand)(t q:TypeId)(a b:List Int)(r:P.underlying t=aa (.struct (P.fieldsOf t)))(s:P.stoodInHeld t=al)(z:P.eqGuardType P.depth t=al)
  (A:w3 P (P.fieldsOf t).toList 0=ab) (c:b7 a.length (P.fieldsOf t).size=ab) (e:b7 b.length (P.fieldsOf t).size=ab):
  cw P H ⟨d,.binOp .neq t x y q,ty,pos,af,g⟩ [.agg (a.map Y),.agg (b.map Y)] (aY (!decide (a=b))):=by
 intro C w X o _ p;obtain⟨h,i,cA⟩:=BR p.1;obtain⟨k,l,cP⟩:=BR p.2.1;refine⟨.bool (!decide (a=b)),?_,.t _ _ (.bool _)⟩;have c:=db c;have e:=db e;have B:=Kc (P:=P) (w:=w) (xs:=h) (ys:=k) (P.fieldsOf t).toList 0 a b A (by simpa using c) (by simpa using e) (λj m n=>by simpa using cA j m n) λj m n=>by simpa using cP j m n
 have i:o x=_:=i;have l:o y=_:=l;simp only[execOp,i,l,e5,run_eqGuard_agg w .neq t x y h k z,eV,run_neq_struct,run_equalIn_struct w 9999 t h k r s,B,hh]
theorem Zc(x y:Operand)(t q:TypeId)(a b:List Int)(r:P.underlying t=aa (.struct (P.fieldsOf t)))(s:P.stoodInHeld t=al)(z:P.eqGuardType P.depth t=al)
  (A:w3 P (P.fieldsOf t).toList 0=ab) (c:b7 a.length (P.fieldsOf t).size=ab) (e:b7 b.length (P.fieldsOf t).size=ab):
  cw P H ⟨d,.binOp .eql t x y q,ty,pos,af,g⟩ [.agg (a.map Y),.agg (b.map Y)] (aY (decide (a=b))):=by
 intro C w X o _ p;obtain⟨h,i,cA⟩:=BR p.1;obtain⟨k,l,cP⟩:=BR p.2.1;refine⟨.bool (decide (a=b)),?_,.t _ _ (.bool _)⟩;have c:=db c;have e:=db e;have B:=Kc (P:=P) (w:=w) (xs:=h) (ys:=k) (P.fieldsOf t).toList 0 a b A (by simpa using c) (by simpa using e) (λj m n=>by simpa using cA j m n) λj m n=>by simpa using cP j m n
 have i:o x=_:=i;have l:o y=_:=l;simp only[execOp,i,l,e5,run_eqGuard_agg w .eql t x y h k z,eV,run_eql_struct,run_equalIn_struct w 9999 t h k r s,B,hh]
end
def Bi(P:Program)(t:TypeId)(n:Nat):Prop:=P.underlying t=aa (.struct (P.fieldsOf t))/\P.stoodInHeld t=al/\P.eqGuardType P.depth t=al/\w3 P (P.fieldsOf t).toList 0=ab/\(P.fieldsOf t).size=n
section
variable {P:Program}{H:Nat->Option E}{d:Option Tmp}{ty:TypeId}{pos:String}{af:Array Edge}{g:Option (Nat×Bool)}
theorem abV(x y:Operand)(t l:TypeId){n:Nat}(i k:List Int)(h:Bi P t n)(m:b7 i.length n=ab)(o:b7 k.length n=ab):
  cw P H ⟨d,.binOp .neq t x y l,ty,pos,af,g⟩ [.agg (i.map Y),.agg (k.map Y)] (aY (!decide (i=k))):=by obtain⟨a,b,c,e,f⟩:=h;exact Ye x y t l i k a b c e (by rw[f];exact m) (by rw[f];exact o)
theorem abX(x y:Operand)(t l:TypeId){n:Nat}(i k:List Int)(h:Bi P t n)(m:b7 i.length n=ab)(o:b7 k.length n=ab):
  cw P H ⟨d,.binOp .eql t x y l,ty,pos,af,g⟩ [.agg (i.map Y),.agg (k.map Y)] (aY (decide (i=k))):=by obtain⟨a,b,c,e,f⟩:=h;exact Zc x y t l i k a b c e (by rw[f];exact m) (by rw[f];exact o)
end
end Go.Lift
