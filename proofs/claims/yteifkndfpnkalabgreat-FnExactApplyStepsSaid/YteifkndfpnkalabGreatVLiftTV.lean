/- Tools. -/
import Derived.Test.YteifkndfpnkalabGreatVLiftAB
import Derived.Laws.BitsAllLaws
import Derived.Laws.BytesArg
import Derived.Laws.StructEq
namespace Go.Lift
open Go
open Option renaming some -> aa, none -> ak, map_some -> gP
open Bool renaming true -> ab, false -> al, and_eq_true -> cB
open Go.Result renaming andThen_ok -> eV
open Go.Builtin renaming zeroCells -> eh
open List renaming map_cons -> hg
open Go.World renaming shape? -> iZ
open Go.Sem renaming run_bind -> e4, run_pure -> hh
open Nat renaming beq -> b8, blt -> dn, ble -> dA
section
variable {G β:Map}{w:World}{X:Nat->Prop}{i m k b n j:Nat}{a:Act}{e:TypeId}{hs:List (Nat×Nat×V)}
theorem rN{c:List dw}{gen:Nat}{a:List (List T)}{e:List (Nat×Nat×V)}(h:c4 G w X i (.aC c m gen a e)): ∃q,G i=aa (q,gen):=by
 rcases h.2 with ⟨k,_⟩|⟨b,l,_,k,_⟩
 ·exact⟨_,k⟩
 exact⟨_,k⟩
def Map.drop(a:Map)(k:Nat):Map:=⟨a.f,λid b=>id≠k/\a.n id b⟩
theorem nO(h:At (G.drop k) i b):At G i b:=by
 rcases h with h|h
 ·exact .inl h
 exact .inr h.2
theorem Rel.drop{K:Ctx}{s:S}(h:Rel K β s a w)(k:Nat)(e':E)(x:s.H k≠ak)
  (B:c4 (β.drop k) w (own K (β.drop k) (bb s.H k (aa e'))) k e'):Rel K (β.drop k) {s with H:=bb s.H k (aa e')} a w:=by
 have l: ∀b,own K (β.drop k) (bb s.H k (aa e')) b->own K β s.H b:=by
  rintro b (c|⟨id,m,o⟩)
  ·exact .inl c
  refine .inr ⟨id,λp=>?_,nO o⟩;by_cases n:id=k
  ·subst n;exact x p
  rw[cu _ _ _ _ n] at m;exact m p
 have y:dT β (β.drop k):=λ_ _ _ c=> .inl c;refine {h with base:=λid hid=>h.base id hid,dY:=λid hid=>h.dY id hid,eB:=λid b hid q=>h.eB id b hid q.2,inj:=λid r b m o=>h.inj id r b (nO m) (nO o),fresh:=λid b q=>h.fresh id b (nO q),heap:= ?_,dz:=λi=>(h.dz i).mono (Ext.refl _ _) (λb _=>l b) y (Shaped.refl _ _)};intro id e c;have c:bb s.H k (aa e') id=aa e:=c;by_cases n:id=k
 ·subst n;rw[cy] at c;cases c;cases A:s.H id with
  |none=>exact br A x
  |some p=>exact⟨(h.heap id p A).1,B⟩
 rw[cu _ _ _ _ n] at c;obtain⟨m,o⟩:=h.heap id e c;exact⟨m,o.mono (Ext.refl _ _) (λb _=>l b) y (λ_ h=>h) (Shaped.refl _ _) (λ_ _=>rfl) λb=>⟨λh=>h.2,λh=>⟨n,h⟩⟩⟩
theorem GJ{K:Ctx}{s:S}(k:Nat){gen:Nat}{v:List (List T)}(l:List dw)(m:Nat)(y:s.H k=aa (.arr e gen n v))(r:(U l m).ty=e)(A:(U l m).size=n)
  (B:v=[]\/(U l m).aZ=[]):s.le K {s with H:=bb s.H k (aa (.aC l m gen v []))}:=by
 intro F a w h;refine⟨_,h.drop k (.aC l m gen v []) (by rw[y];simp) ?_⟩;have o:=(h.heap k _ y).2;subst r;subst A;refine⟨o.1,?_⟩;have p: ∀b,own K (F.drop k) (bb s.H k (aa (.aC l m gen v []))) b->own K F s.H b:=by
  rintro b (Q|⟨id,r,A⟩)
  ·exact .inl Q
  refine .inr ⟨id,λC=>?_,nO A⟩;by_cases G:id=k
  ·subst G;rw[y] at C;cases C
  rw[cu _ _ _ _ G] at r;exact r C
 rcases o.2 with ⟨aP,a2⟩|⟨b,R,aP,a2,a3,a4,a5⟩
 ·exact .inl ⟨aP,a2,λc q=>q.1 rfl⟩
 refine .inr ⟨b,R,λ_ _ _=>False,aP,a2,a3,a4,λi j D x u L W X=>Cell.of ?_,λ_ _ _ h=>h.elim,λ_ _ _ _ _ h=>h.elim,λc=>⟨λq=>br rfl q.1,λ⟨_,_,q⟩=>q.elim⟩⟩;rcases B with rfl|B
 ·simp at L
 have:(U l m).eb j=ak:=by unfold dw.eb;rw[B];rfl
 rw[this];exact .fm _ _ _ ((a5 i j D x u L W X).mono (Ext.refl _ _) λb _=>p b) λ_ h=>h
theorem aaS{K:Ctx}{s:S}(k:Nat){e:List dw}{gen:Nat}{v:List (List T)}(y:s.H k=aa (.aC e m gen v []))(q:dA K.ef k=ab):
  s.le K {s with H:=bb s.H k (aa (.arr (U e m).ty gen (U e m).size v))}:=by
 have L:=fb q;intro r a w h;refine⟨_,h.drop k (.arr (U e m).ty gen (U e m).size v) (by rw[y];simp) ?_⟩;have n:=(h.heap k _ y).2;have o: ∀b,own K (r.drop k) (bb s.H k (aa (.arr (U e m).ty gen (U e m).size v))) b->own K r s.H b:=by
  rintro b (p|⟨id,A,l⟩)
  ·exact .inl p
  refine .inr ⟨id,λC=>?_,nO l⟩;by_cases G:id=k
  ·subst G;rw[y] at C;cases C
  rw[cu _ _ _ _ G] at A;exact A C
 refine⟨n.1,?_⟩;rcases n.2 with ⟨aP,a2,_⟩|⟨b,Q,B,aP,a2,a3,a4,a5,jx,hB,fI⟩
 ·exact .inl ⟨aP,a2⟩
 refine .inr ⟨b,Q,aP,a2,a3,a4,λi j D x u R W X=>(a5 i j D x u R W X).none.wK o ?_⟩;intro c f p;have q:At r k c:= .inr ((fI c).2 ⟨i,j,f⟩);rcases p with p|⟨id,A,l⟩
 ·obtain⟨N,I⟩:=h.kq c p;rcases(h.fresh k c q).1 with F|M
  ·exact I F
  omega
 have:=h.inj _ _ _ (nO l) q;subst this;rcases l with ⟨g,l⟩|l
 ·have V:r id=aa (aa c,g):=l
  grind
 exact l.1 rfl
def Map.split(c:Map)(k a:Nat)(q:Option Nat)(N:Nat->Prop):Map:=
 ⟨λi=>bif b8 i a then aa (q,1) else c i,λid b=>(id=a/\N b)\/(id=k/\id≠a/\c.n k b/\ ¬N b/\q≠aa b)\/(id≠a/\id≠k/\c.n id b)⟩
theorem OR(h:i≠k):b8 i k=al:=by
 cases a:b8 i k with
 |false=>rfl
 |true=>exact br (dc a) h
theorem z7(b:Map)(k a:Nat)(q:Option Nat)(N:Nat->Prop):b.split k a q N a=aa (q,1):=by simp[Map.split]
theorem wu(a:Map)(k b:Nat)(q:Option Nat)(N:Nat->Prop)(id:Nat)(h:id≠b):a.split k b q N id=a id:=by simp[Map.split,OR h]
theorem abj{G:Map}{k L:Nat}{q:Option Nat}{N:Nat->Prop}(o: ∀b,q=aa b->G.n k b)(p: ∀b,N b->G.n k b){i b:Nat}(h:At (G.split k L q N) i b):
  (i=L/\G.n k b/\(q=aa b\/N b))\/(i≠L/\At G i b/\(i=k->(∃g,G k=aa (aa b,g))\/(¬N b/\q≠aa b))):=by
 rcases h with ⟨g,h⟩|⟨rfl,h⟩|⟨rfl,a,c,l,r⟩|⟨a,c,l⟩
 ·by_cases m:i=L
  ·subst m;rw[z7] at h;cases h;exact .inl ⟨rfl,o _ rfl,.inl rfl⟩
  rw[wu _ _ _ _ _ _ m] at h;exact .inr ⟨m,.inl ⟨g,h⟩,λe=> .inl ⟨g,e▸h⟩⟩
 ·exact .inl ⟨rfl,p b h,.inr h⟩
 ·exact .inr ⟨a,.inr c,λ_=> .inr ⟨l,r⟩⟩
 exact .inr ⟨a,.inr l,λe=>br e c⟩
theorem Rel.split{K:Ctx}{s:S}(h:Rel K β s a w)(k cD:Nat)(q:Option Nat)(N:Nat->Prop)(p r:E)(R:s.H k≠ak)(L:s.u cD=al)
  (V: ∀b,q=aa b->β.n k b/\ ¬N b) (Y: ∀b,N b->β.n k b) (W: ∀b g,β k=aa (aa b,g)-> ¬β.n k b)
  (aj0:(∀b,own K (β.split k cD q N) (bb (bb s.H k (aa p)) cD (aa r)) b->own K β s.H b)->c4 (β.split k cD q N) w (own K (β.split k cD q N) (bb (bb s.H k (aa p)) cD (aa r))) k p)
  (X:(∀b,own K (β.split k cD q N) (bb (bb s.H k (aa p)) cD (aa r)) b->own K β s.H b)->c4 (β.split k cD q N) w (own K (β.split k cD q N) (bb (bb s.H k (aa p)) cD (aa r))) cD r):
  Rel K (β.split k cD q N) {t:=s.t,H:=bb (bb s.H k (aa p)) cD (aa r),u:=bb s.u cD ab} a w:=by
 have f:s.u k=ab:=by
  cases I:s.H k with
  |none=>exact br I R
  |some Q=>exact(h.heap k Q I).1
 have hne:k≠cD:=by intro e;subst e;rw[f] at L;cases L
 have y:= @abj β k cD q N (λb F=>(V b F).1) Y;have o: ∀b,own K (β.split k cD q N) (bb (bb s.H k (aa p)) cD (aa r)) b->own K β s.H b:=by
  rintro b (l|⟨id,m,G⟩)
  ·exact .inl l
  rcases y G with ⟨_,j,_⟩|⟨j,h4,_⟩
  ·exact .inr ⟨k,R,.inr j⟩
  refine .inr ⟨id,λQ=>?_,h4⟩;rw[cu _ _ _ _ j] at m;by_cases C:id=k
  ·subst C;exact R Q
  rw[cu _ _ _ _ C] at m;exact m Q
 have D:=h.dY cD L;have B: ∀id x,β id=aa x->β.split k cD q N id=aa x:=λid x l=>by
  rw[wu _ _ _ _ _ _ (by intro e;subst e;rw[D] at l;cases l)];exact l
 have M:dT β (β.split k cD q N):=dT.of B;refine {h with base:= ?_,low:= ?_,dY:= ?_,eB:= ?_,inj:= ?_,fresh:= ?_,heap:= ?_,dz:=λi=>(h.dz i).mono (Ext.refl _ _) (λb _=>o b) M (Shaped.refl _ _)}
 ·refine h.base.keep λid hid=>wu _ _ _ _ _ _ ?_;intro e;subst e;have:=h.low id hid;rw[L] at this;cases this
 ·intro id hid;show bb s.u cD ab id=ab;by_cases e:id=cD
  ·subst e;exact cy _ _ _
  rw[cu _ _ _ _ e];exact h.low id hid
 ·intro id hid;have c:bb s.u cD ab id=al:=hid;by_cases e:id=cD
  ·subst e;rw[cy] at c;cases c
  rw[cu _ _ _ _ e] at c;rw[wu _ _ _ _ _ _ e];exact h.dY id c
 ·intro id b hid F;have c:bb s.u cD ab id=al:=hid;have e:id≠cD:=by intro e;subst e;rw[cy] at c;cases c
  rw[cu _ _ _ _ e] at c;rcases F with ⟨m,_⟩|⟨rfl,_,m,_⟩|⟨_,_,m⟩
  ·exact e m
  ·exact h.eB _ b c m
  exact h.eB id b c m
 ·intro id lf b m G;rcases y m with ⟨rfl,aP,a2⟩|⟨aP,a2,a3⟩<;>rcases y G with ⟨T,U,v⟩|⟨U,v,e5⟩
  ·exact T.symm
  ·have:=h.inj _ _ b (.inr aP) v
   grind
  ·subst T
   have:=h.inj _ _ b (.inr U) a2
   grind
  exact h.inj _ _ b a2 v
 ·intro id b F;rcases y F with ⟨_,aP,_⟩|⟨_,a2,_⟩
  ·exact h.fresh k b (.inr aP)
  exact h.fresh id b a2
 intro id e l;have l:bb (bb s.H k (aa p)) cD (aa r) id=aa e:=l;show bb s.u cD ab id=ab/\c4 _ w (own K _ (bb (bb s.H k (aa p)) cD (aa r))) id e;by_cases C:id=cD
 ·subst C;rw[cy] at l;cases l;exact⟨cy _ _ _,X o⟩
 rw[cu _ _ _ _ C] at l⊢;by_cases A:id=k
 ·subst A;rw[cy] at l;cases l
  grind
 rw[cu _ _ _ _ A] at l;obtain⟨m,G⟩:=h.heap id e l;exact⟨m,G.mono (Ext.refl _ _) (λb _=>o b) M (B id) (Shaped.refl _ _) (λ_ _=>rfl) (λb=>⟨λh=>by
  rcases h with ⟨h,_⟩|⟨h,_⟩|⟨_,_,h⟩
  ·exact br h C
  ·exact br h A
  exact h,λh=> .inr (.inr ⟨C,A,h⟩)⟩)⟩
def uE(j:Nat):List (Nat×Nat×V)->Bool
 | []=>ab
 |h::a=> !(b8 h.2.1 j)&&uE j a
theorem FT{j:Nat}: ∀{a:List (Nat×Nat×V)},uE j a=ab-> ∀i v,(i,j,v)∉a
 | [],_,_,_,h=>by cases h
 |h::a,b,i,v,hm=>by
  simp only[uE,cB,Bool.not_eq_true'] at b;rcases eg.1 hm with rfl|hm
  ·simp at b
  exact FT b.2 i v hm
theorem aag{K:Ctx}{s:S}(k cD i j R:Nat){r:List dw}{gen:Nat}{y:List (List T)}{W:List T}{l:List (List T)}{Y:List (Nat×Nat×V)}(hk:s.H k=aa (.aC r m gen y Y))(hu:s.u cD=al)
  (aL:y[i]? =aa W) (hj:W[j]? =aa (.bG l)) (hm:(U r m).eb j=aa R) (f: ∀v,(i,j,v)∉Y):
  s.le K {t:=s.t,H:=bb (bb s.H k (aa (.aC r m gen y ((i,j,.bf cD 1 (U r R).size 0 l.length)::Y)))) cD (aa (.aC r R 1 l [])),u:=bb s.u cD ab}:=by
 intro I a w h;have ahn:=(h.heap k _ hk).1;have F:k≠cD:=by intro e;subst e;rw[ahn] at hu;cases hu
 have hK:=(h.heap k _ hk).2;rcases hK.2 with ⟨aP,a2,_⟩|⟨b,us,B,aP,a2,a3,a4,a5,jx,hB,fI⟩
 ·rw[a2] at aL;simp at aL
 have hlt:=(d0.1 aL).1;have hjs:j<(U r m).size:=by rw[<-a4 W (bX aL)];exact(d0.1 hj).1
 have M:i*(U r m).size+j<us.size:=by
  have:(i+1)*(U r m).size<=y.length*(U r m).size:=dQ _ hlt
  grind
 have p:=(a5 i j W _ us[i*(U r m).size+j] aL hj (hT M)).2 λv=>f v;rw[hm] at p;have G: ∀c g,I k=aa (aa c,g)-> ¬I.n k c:=by
  grind
 generalize akU:us[i*(U r m).size+j]=KQ at p
 -- the cell's value under the new map, and the rest of the rows
 have L: ∀(q:Option Nat) (N:Nat->Prop),(∀c,B i j c↔(q=aa c\/N c))->(∀(X:Nat->Prop),bB (I.split k cD q N) w X (.bf cD 1 (U r R).size 0 l.length) KQ)->
   ∀X,(∀c,X c->own K I s.H c)->c4 (I.split k cD q N) w X k (.aC r m gen y ((i,j,.bf cD 1 (U r R).size 0 l.length)::Y)):=by
  intro q N fC bR X gj;have hm':dT I (I.split k cD q N):=dT.of (λid x hx=>by
   have:id≠cD:=by intro e;subst e;rw[h.dY _ hu] at hx;cases hx
   rw[wu _ _ _ _ _ _ this];exact hx)
  refine⟨hK.1,.inr ⟨b,us,λA C c=>B A C c/\ ¬(A=i/\C=j),by rw[wu _ _ _ _ _ _ F];exact aP,a2,a3,a4,λA C D x u dm cL fJ=>⟨λv JR=>?_,λcR=>?_⟩,
   λA C c f=>jx A C c f.1,λi1 yT i2 nI c h1 h2=>hB _ _ _ _ c h1.1 h2.1,λc=>?_⟩⟩
  ·rcases eg.1 JR with e|JR
   ·simp only[Prod.mk.injEq] at e;obtain⟨rfl,rfl,rfl⟩:=e
    have:u=KQ:=by
     rw[<-akU];rw[hT M] at fJ;exact(Option.some.inj fJ).symm
    subst this;exact⟨bR X,λc f=>f.2 ⟨rfl,rfl⟩⟩
   obtain⟨c1,c2⟩:=(a5 A C D x u dm cL fJ).1 v JR;exact⟨c1.mono (Ext.refl _ _) (λc _=>gj c) hm' (Shaped.refl _ _),λc hx=>c2 c hx.1⟩
  ·have ahC: ¬(A=i/\C=j):=by rintro⟨rfl,rfl⟩;exact cR _ fi
   exact(((a5 A C D x u dm cL fJ).2 λv bR=>cR v (eW _ bR)).mono (Ext.refl _ _) (λc _=>gj c) λ_ _=>rfl).iff λc=>⟨λh=>h.1,λh=>⟨h,ahC⟩⟩
  constructor
  ·rintro(⟨h1,_⟩|⟨_,_,h1,h2,h3⟩|⟨_,h1,_⟩)
   ·exact br h1 F
   ·obtain⟨A,C,Q⟩:=(fI c).1 h1;refine⟨A,C,Q,?_⟩;rintro⟨rfl,rfl⟩;rcases(fC c).1 Q with h4|h4
    ·exact h3 h4
    exact h2 h4
   exact br rfl h1
  rintro⟨A,C,Q,cR⟩;refine .inr (.inl ⟨rfl,F,(fI c).2 ⟨A,C,Q⟩,λh4=>?_,λh4=>?_⟩)
  ·exact cR (hB _ _ _ _ c Q ((fC c).2 (.inr h4)))
  exact cR (hB _ _ _ _ c Q ((fC c).2 (.inl h4)))
 generalize Ro:B i j=ali at p L;cases p with
 |nil _ _ gd=>
  refine⟨_,h.split k cD ak (λ_=>False) _ (.aC r R 1 [] []) (by rw[hk];simp) hu (λb Q=>by cases Q) (λ_ h=>h.elim) G (λo=>L ak (λ_=>False) (λc=>⟨λh=>br h (gd c),λh=>by rcases h with h|h;cases h;exact h.elim⟩)
   (λX=> .hq cD 1 _ (df _) (z7 _ _ _ _ _)) _ o) λo=>⟨df _,.inl ⟨z7 _ _ _ _ _,rfl,λc f=>?_⟩⟩⟩
  rcases f with ⟨_,h⟩|⟨h,_⟩|⟨h,_⟩
  ·exact h
  ·exact F h.symm
  exact h rfl
 |own _ _ cL cap rD rX _ hw Y JK hl kN b5 fC cI gd=>
  have nE:I.n k cL:=(fI cL).2 ⟨i,j,by rw[Ro];exact(gd cL).2 (.inl rfl)⟩;refine⟨_,h.split k cD (aa cL) (λc=> ∃i j,rX i j c) _ (.aC r R 1 l []) (by rw[hk];simp) hu (λb Q=>by cases Q;exact⟨nE,λ⟨A,C,yx⟩=>(fC A C _ yx).2.2 rfl⟩)
   (λc f=>(fI c).2 ⟨i,j,by rw[Ro];exact(gd c).2 (.inr f)⟩) G
   (λo=>L (aa cL) (λc=> ∃i j,rX i j c) (λc=>⟨λh=>by rcases(gd c).1 h with h|h;exact .inl (by rw[h]);exact .inr h,λh=>(gd c).2 (by rcases h with h|h;cases h;exact .inl rfl;exact .inr h)⟩)
    (λX=>?_) _ o) λo=>⟨df _,.inr ⟨cL,rD,rX,z7 _ _ _ _ _,hw,by rw[Y];exact dQ _ hl,kN,λA C D x u c1 c2 e5=>Cell.of ((b5 A C D x u c1 c2 e5).mono (Ext.refl _ _) (λc _=>o c) λ_ _=>rfl),fC,cI,λc=>?_⟩⟩⟩
  ·have:=bB.bf (β:=I.split k cD (aa cL) λc=> ∃i j,rX i j c) (w:=w) (X:=X) cD 1 (U r R).size 0 l.length cap cL rD.size (U r R).ty (df _) (z7 _ _ _ _ _) (iD.1 hw).1 (by unfold iZ;rw[hw]) (by rw[dy];exact Y.symm) hl JK;rw[gN] at this;exact this
  constructor
  ·rintro(⟨_,h⟩|⟨h,_⟩|⟨h,_⟩)
   ·exact h
   ·exact br h.symm F
   exact br rfl h
  intro h;exact .inl ⟨rfl,h⟩
def Map.merge(a:Map)(k c gen:Nat):Map:=
 ⟨λi=>bif b8 i c then aa (ak,gen+1) else a i,λid b=>(id=k/\(a.n k b\/At a c b))\/(id≠k/\id≠c/\a.n id b)⟩
theorem Nb(b:Map)(k a gen:Nat):b.merge k a gen a=aa (ak,gen+1):=by simp[Map.merge]
theorem wm(a:Map)(k b gen id:Nat)(h:id≠b):a.merge k b gen id=a id:=by simp[Map.merge,OR h]
theorem ab6{G:Map}{k i gen n b:Nat}(a:k≠i)(h:At (G.merge k i gen) n b):n≠i/\(At G n b\/(n=k/\At G i b)):=by
 rcases h with ⟨g,h⟩|⟨rfl,h⟩|⟨m,e,l⟩
 ·by_cases c:n=i
  ·subst c;rw[Nb] at h;cases h
  rw[wm _ _ _ _ _ c] at h;exact⟨c,.inl (.inl ⟨g,h⟩)⟩
 ·rcases h with h|h
  ·exact⟨a,.inl (.inr h)⟩
  exact⟨a,.inr ⟨rfl,h⟩⟩
 exact⟨e,.inl (.inr l)⟩
theorem Rel.merge{K:Ctx}{s:S}(h:Rel K β s a w)(k c gen:Nat)(q:Option Nat)(y:E)(j:s.H k≠ak)(D:s.H c≠ak)(R:k≠c)(I:K.ef<=c)(M:β c=aa (q,gen))(N:1<=gen)
  (T:(∀b,own K (β.merge k c gen) (bb (bb s.H c ak) k (aa y)) b->own K β s.H b)->dT β (β.merge k c gen)->c4 (β.merge k c gen) w (own K (β.merge k c gen) (bb (bb s.H c ak) k (aa y))) k y):
  Rel K (β.merge k c gen) {t:=s.t,H:=bb (bb s.H c ak) k (aa y),u:=s.u} a w:=by
 have W:s.u c=ab:=by
  cases F:s.H c with
  |none=>exact br F D
  |some B=>exact(h.heap c B F).1
 have G:s.u k=ab:=by
  cases F:s.H k with
  |none=>exact br F j
  |some B=>exact(h.heap k B F).1
 have o:=fun {id b}=> @ab6 β k c gen id b R;have r: ∀b,own K (β.merge k c gen) (bb (bb s.H c ak) k (aa y)) b->own K β s.H b:=by
  rintro b (m|⟨id,C,L⟩)
  ·exact .inl m
  obtain⟨X,A|⟨rfl,A⟩⟩:=o L
  ·refine .inr ⟨id,λB=>?_,A⟩;by_cases n:id=k
   ·subst n;exact j B
   rw[cu _ _ _ _ n,cu _ _ _ _ X] at C;exact C B
  exact .inr ⟨c,D,A⟩
 have v:dT β (β.merge k c gen):=by
  intro id Y g1 m;by_cases n:id=c
  ·subst n;rw[M] at m;cases m;exact .inr ⟨N,ak,gen+1,Nb _ _ _ _,nh _⟩
  exact .inl (by rw[wm _ _ _ _ _ n];exact m)
 refine {h with base:= ?_,dY:= ?_,eB:= ?_,inj:= ?_,fresh:= ?_,heap:= ?_,dz:=λi=>(h.dz i).mono (Ext.refl _ _) (λb _=>r b) v (Shaped.refl _ _)}
 ·exact h.base.keep λid hid=>wm _ _ _ _ _ O
 ·intro id hid;have l:s.u id=al:=hid;rw[wm _ _ _ _ _ (by intro e;subst e;rw[W] at l;cases l)];exact h.dY id l
 ·intro id b hid f;have l:s.u id=al:=hid;rcases f with ⟨rfl,_⟩|⟨_,_,X⟩
  ·rw[G] at l;cases l
  exact h.eB id b l X
 ·intro id U b C L;obtain⟨aP,a2|⟨rfl,a2⟩⟩:=o C<;>obtain⟨V,Q|⟨rfl,Q⟩⟩:=o L
  ·exact h.inj _ _ b a2 Q
  ·exact br (h.inj _ _ b a2 Q) aP
  ·exact br (h.inj _ _ b Q a2) V
  rfl
 ·intro id b f;obtain⟨_,A|⟨_,A⟩⟩:=o f
  ·exact h.fresh id b A
  exact h.fresh c b A
 intro id e m;have m:bb (bb s.H c ak) k (aa y) id=aa e:=m;show s.u id=ab/\c4 _ w (own K _ (bb (bb s.H c ak) k (aa y))) id e;by_cases n:id=k
 ·subst n;rw[cy] at m;cases m
  grind
 rw[cu _ _ _ _ n] at m;by_cases p:id=c
 ·subst p;rw[cy] at m;cases m
 rw[cu _ _ _ _ p] at m;obtain⟨C,L⟩:=h.heap id e m;exact⟨C,L.mono (Ext.refl _ _) (λb _=>r b) v (λx m=>by rw[wm _ _ _ _ _ p];exact m) (Shaped.refl _ _) (λ_ _=>rfl) (λb=>⟨λh=>by
  rcases h with ⟨h,_⟩|⟨_,_,h⟩
  ·exact br h n
  exact h,λh=> .inr ⟨n,p,h⟩⟩)⟩
theorem Xm{K:Ctx}{s:S}(k F i j m2 lQ z n:Nat){D:List dw}{gen:Nat}{p:List (List T)}{o:List T}{l:List (List T)}(hk:s.H k=aa (.aC D m gen p ((i,j,.bf F lQ z 0 n)::hs)))
  (pA:s.H F=aa (.aC D m2 lQ l [])) (er:z=(U D m2).size) (cR:n=l.length) (hne:k≠F) (sY:dA K.ef F=ab) (aL:p[i]? =aa o) (hm:(U D m).eb j=aa m2) (JF:dn j (U D m).size=ab) (bW: ∀v,(i,j,v)∉hs):
  s.le K {t:=s.t,H:=bb (bb s.H F ak) k (aa (.aC D m gen (p.set i (o.set j (.bG l))) hs)),u:=s.u}:=by
 subst er;subst cR;intro M a w h;have sY:=fb sY;obtain⟨q,dp⟩:=rN (h.heap F _ pA).2;have hK:=(h.heap k _ hk).2;have Q:=(h.heap F _ pA).2;refine⟨_,h.merge k F lQ q (.aC D m gen (p.set i (o.set j (.bG l))) hs) (by rw[hk];simp) (by rw[pA];simp) hne sY dp Q.1 λR hm'=>⟨hK.1,?_⟩⟩;rcases hK.2 with ⟨aP,a2,_⟩|⟨b,us,B,aP,a2,a3,a4,a5,jx,hB,fI⟩
 ·rw[a2] at aL;simp at aL
 have N:=(d0.1 aL).1
 -- the blocks of the slice
 have Y:At M k b:= .inl ⟨_,aP⟩;have ahl: ∀(u:Value),bB M w (own K M s.H) (.bf F lQ (U D m2).size 0 l.length) u->
   fP D w (own K (M.merge k F lQ) (bb (bb s.H F ak) k (aa (.aC D m gen (p.set i (o.set j (.bG l))) hs)))) (aa m2) (.bG l) u (λc=>At M F c):=by
  intro u hu;rcases ff hu dp with ⟨cap,cL,n2,iB,rfl,iP,hw,gk,pC,hl,JK⟩|⟨iP,_,h0,rfl⟩
  ·subst iP;rcases Q.2 with ⟨c1,_⟩|⟨fJ,rD,rX,c1,c2,e5,h',lK,pr,sD,jd⟩
   ·rw[dp] at c1;cases c1
   rw[dp] at c1;cases c1;rw[gN];have vH:rD.size=cap*(U D m2).size:=by
    unfold iZ at gk;rw[c2] at gk;simp at gk;rw[gk.2,<-pC,dy]
   refine .own m2 l cL cap rD rX _ c2 vH JK hl h' (λy A W x u d1 d2 d3=>(lK y A W x u d1 d2 d3).none.mono (Ext.refl _ _) (λc _=>R c) λ_ _=>rfl) pr sD λc=>⟨?_,?_⟩
   ·rintro(⟨g,bV⟩|bV)
    ·rw[dp] at bV;cases bV;exact .inl rfl
    exact .inr ((jd c).1 bV)
   rintro(rfl|bV)
   ·exact .inl ⟨_,dp⟩
   exact .inr ((jd c).2 bV)
  subst iP
  have:l=[]:=nT h0;subst this;refine .nil m2 _ λc bW=>?_;rcases bW with ⟨g,bV⟩|bV
  ·rw[dp] at bV;cases bV
  rcases Q.2 with ⟨_,_,e5⟩|⟨fJ,rD,rX,c1,_⟩
  ·exact e5 c bV
  rw[dp] at c1;cases c1
 have X: ∀c,At M F c-> ¬At M k c:=λc C L=>hne (h.inj _ _ c L C);have Rg: ∀y A c,B y A c->At M k c:=λy A c bW=> .inr ((fI c).2 ⟨y,A,bW⟩);have hjs: ∀(x:T),o[j]? =aa x->j<(U D m).size:=λx hx=>by rw[<-a4 o (bX aL)];exact(d0.1 hx).1
 have hrl:o.length=(U D m).size:=a4 o (bX aL);by_cases f:j<o.length
 ·have JD:i*(U D m).size+j<us.size:=by
   have:(i+1)*(U D m).size<=p.length*(U D m).size:=dQ _ N;rw[dN] at this;omega
  have yE:=a5 i j o o[j] us[i*(U D m).size+j] aL (bC f) (hT JD);obtain⟨s4,agE⟩:=yE.1 _ fi;refine .inr ⟨b,us,λy A c=>B y A c\/(y=i/\A=j/\At M F c),by rw[wm _ _ _ _ _ hne];exact aP,a2,by simpa using a3,?_,?_,?_,?_,?_⟩
  ·intro r b5;rcases w4 b5 with b5|rfl
   ·exact a4 r b5
   simpa using hrl
  ·intro y A W x u dm cL fJ;by_cases qY:y=i/\A=j
   ·obtain⟨rfl,rfl⟩:=qY;rw[hR N] at dm;cases dm;rw[hR f] at cL;cases cL;rw[hT JD] at fJ;cases fJ;refine⟨λv bR=>br bR (bW v),λ_=>?_⟩;rw[hm];refine(ahl _ s4).iff λc=>⟨λh=>?_,λh=> .inr ⟨rfl,rfl,h⟩⟩
    rcases h with h|⟨_,_,h⟩
    ·exact br h (agE c)
    exact h
   have hold: ∃G hW,p[y]? =aa G/\G[A]? =aa hW/\hW=x:=by
    by_cases yG:y=i
    ·subst yG;rw[hR N] at dm;cases dm;rw[ls (by intro e;exact qY ⟨rfl,e.symm⟩)] at cL;exact⟨o,x,aL,cL,rfl⟩
    rw[ls (Ne.symm yG)] at dm;exact⟨W,x,dm,cL,rfl⟩
   obtain⟨G,hW,d1,d2,rfl⟩:=hold;have sT:=a5 y A G hW u d1 d2 fJ;have RH: ∀c,(B y A c\/(y=i/\A=j/\At M F c))↔B y A c:=λc=>⟨λh=>by
    rcases h with h|⟨C,L,_⟩
    ·exact h
    exact br ⟨C,L⟩ qY,.inl⟩
   refine⟨λv bR=>?_,λcR=>?_⟩
   ·obtain⟨C,L⟩:=sT.1 v (eW _ bR);exact⟨C.mono (Ext.refl _ _) (λc _=>R c) hm' (Shaped.refl _ _),λc hx=>L c ((RH c).1 hx)⟩
   refine((sT.2 λv bR=>?_).mono (Ext.refl _ _) (λc _=>R c) λ_ _=>rfl).iff RH;rcases eg.1 bR with e|bR
   ·cases e;exact qY ⟨rfl,rfl⟩
   exact cR v bR
  ·intro y A c I;rcases I with I|⟨rfl,rfl,I⟩
   ·simpa using jx y A c I
   refine⟨by simpa using N,O,λe=>?_⟩;subst e;exact X c I Y
  ·intro i1 yT i2 nI c C L;rcases C with C|⟨rfl,rfl,C⟩<;>rcases L with L|⟨rfl,rfl,L⟩
   ·exact hB _ _ _ _ c C L
   ·exact br (Rg _ _ c C) (X c L)
   ·exact br (Rg _ _ c L) (X c C)
   exact⟨rfl,rfl⟩
  intro c;constructor
  ·rintro(⟨_,C|C⟩|⟨C,_⟩)
   ·obtain⟨y,A,I⟩:=(fI c).1 C;exact⟨y,A,.inl I⟩
   ·exact⟨i,j,.inr ⟨rfl,rfl,C⟩⟩
   exact br rfl C
  rintro⟨y,A,I|⟨_,_,I⟩⟩
  ·exact .inl ⟨rfl,.inl ((fI c).2 ⟨y,A,I⟩)⟩
  exact .inl ⟨rfl,.inr I⟩
 exact br (by rw[hrl];simpa[Nat.blt_eq] using JF) f
theorem Rel.Ko{K:Ctx}{s:S}(h:Rel K β s a w)(k:Nat)(e e':E)(q:s.H k=aa e)(r:c4 β w (own K β s.H) k e->c4 β w (own K β s.H) k e'):
  Rel K β {s with H:=bb s.H k (aa e')} a w:=by
 have c: ∀b,own K β (bb s.H k (aa e')) b->own K β s.H b:=by
  rintro b (l|⟨id,m,n⟩)
  ·exact .inl l
  refine .inr ⟨id,λp=>?_,n⟩;by_cases o:id=k
  ·subst o;rw[q] at p;cases p
  rw[cu _ _ _ _ o] at m;exact m p
 refine {h with heap:= ?_,dz:=λi=>(h.dz i).mono (Ext.refl _ _) (λb _=>c b) (dT.refl _) (Shaped.refl _ _)};intro id x l;have l:bb s.H k (aa e') id=aa x:=l;by_cases o:id=k
 ·subst o;rw[cy] at l;cases l;obtain⟨m,n⟩:=h.heap id e q;exact⟨m,(r n).mono (Ext.refl _ _) (λb _=>c b) (dT.refl _) (λ_ h=>h) (Shaped.refl _ _) λ_ _=>rfl⟩
 rw[cu _ _ _ _ o] at l;obtain⟨m,n⟩:=h.heap id x l;exact⟨m,n.mono (Ext.refl _ _) (λb _=>c b) (dT.refl _) (λ_ h=>h) (Shaped.refl _ _) λ_ _=>rfl⟩
theorem aaU{K:Ctx}{s:S}(k i j:Nat){l:List dw}{gen:Nat}{c:List (List T)}{q:List T}{x:T}{n:List (Nat×Nat×V)}(D:s.H k=aa (.aC l m gen c n))(y:c[i]? =aa q)(F:q[j]? =aa x)(G:(U l m).eb j=ak)(L: ∀v,(i,j,v)∉n):
  s.le K {s with H:=bb s.H k (aa (.aC l m gen c ((i,j,.t x)::n)))}:=by
 intro Q a w h;refine⟨Q,h.Ko k _ (.aC l m gen c ((i,j,.t x)::n)) D λp=>?_⟩;refine⟨p.1,?_⟩;rcases p.2 with ⟨aP,a2,_⟩|⟨b,R,B,aP,a2,a3,a4,a5,jx,hB,fI⟩
 ·rw[a2] at y;simp at y
 refine .inr ⟨b,R,B,aP,a2,a3,a4,λW X r f u A C I=>?_,jx,hB,fI⟩;have o:=a5 W X r f u A C I;refine⟨λv bR=>?_,λM=>o.2 λv bR=>M v (eW _ bR)⟩;rcases eg.1 bR with e|bR
 ·simp only[Prod.mk.injEq] at e;obtain⟨rfl,rfl,rfl⟩:=e;rw[y] at A;cases A;rw[F] at C;cases C
  have:=o.2 L;rw[G] at this;cases this with|fm _ _ _ h N=>exact⟨.t _ _ h,N⟩
 exact o.1 v bR
theorem Ya{K:Ctx}{s:S}(k i j:Nat){C:List dw}{gen:Nat}{n:List (List T)}{l:List T}{x:T}{M:List (Nat×Nat×V)}(hk:s.H k=aa (.aC C m gen n ((i,j,.t x)::M)))(D:n[i]? =aa l)(JF:dn j (U C m).size=ab)(hm:(U C m).eb j=ak)(bW:uE j M=ab):
  s.le K {s with H:=bb s.H k (aa (.aC C m gen (n.set i (l.set j x)) M))}:=by
 intro β a w h;refine⟨β,h.Ko k _ (.aC C m gen (n.set i (l.set j x)) M) hk λG=>?_⟩;refine⟨G.1,?_⟩;rcases G.2 with ⟨aP,a2,_⟩|⟨b,us,B,aP,a2,a3,a4,a5,jx,hB,fI⟩
 ·rw[a2] at D;simp at D
 have L:=(d0.1 D).1;have Q:l.length=(U C m).size:=a4 l (bX D);have q:j<l.length:=by rw[Q];simpa[Nat.blt_eq] using JF
 refine .inr ⟨b,us,B,aP,a2,by simpa using a3,λr b5=>?_,λy A R jP u F W fJ=>?_,λy A c bA=>by simpa using jx y A c bA,hB,fI⟩
 ·rcases w4 b5 with b5|rfl
  ·exact a4 r b5
  simpa using Q
 by_cases X:y=i/\A=j
 ·obtain⟨rfl,rfl⟩:=X;rw[hR L] at F;cases F;rw[hR q] at W;cases W;have p:=(a5 y A l l[A] u D (bC q) fJ).1 _ fi;refine⟨λv N=>br N (FT bW _ _),λ_=>?_⟩;rw[hm];obtain⟨h1,h2⟩:=p;cases h1 with|t _ _ h1=>exact .fm _ _ _ h1 h2
 have f: ∃o Y,n[y]? =aa o/\o[A]? =aa Y/\Y=jP:=by
  by_cases I:y=i
  ·subst I;rw[hR L] at F;cases F;rw[ls (by intro e;exact X ⟨rfl,e.symm⟩)] at W;exact⟨l,jP,D,W,rfl⟩
  rw[ls (Ne.symm I)] at F;exact⟨R,jP,F,W,rfl⟩
 obtain⟨o,Y,d1,d2,rfl⟩:=f;have p:=a5 y A o Y u d1 d2 fJ;refine⟨λv N=>p.1 v (eW _ N),λcR=>p.2 λv N=>?_⟩
 grind
theorem aae{K:Ctx}{s:S}(k i j m2:Nat){A:List dw}{gen:Nat}{n:List (List T)}{l:List T}{I:List (Nat×Nat×V)}(hk:s.H k=aa (.aC A m gen n ((i,j,.t .fp)::I)))(C:n[i]? =aa l)(Y:dn j (U A m).size=ab)(hm:(U A m).eb j=aa m2)(bW:uE j I=ab):
  s.le K {s with H:=bb s.H k (aa (.aC A m gen (n.set i (l.set j (.bG []))) I))}:=by
 intro β a w h;refine⟨β,h.Ko k _ (.aC A m gen (n.set i (l.set j (.bG []))) I) hk λF=>?_⟩;refine⟨F.1,?_⟩;rcases F.2 with ⟨aP,a2,_⟩|⟨b,us,B,aP,a2,a3,a4,a5,jx,hB,fI⟩
 ·rw[a2] at C;simp at C
 have G:=(d0.1 C).1;have L:l.length=(U A m).size:=a4 l (bX C);have q:j<l.length:=by rw[L];simpa[Nat.blt_eq] using Y
 refine .inr ⟨b,us,B,aP,a2,by simpa using a3,λr b5=>?_,λx y Q jP u D R fJ=>?_,λx y c bA=>by simpa using jx x y c bA,hB,fI⟩
 ·rcases w4 b5 with b5|rfl
  ·exact a4 r b5
  simpa using L
 by_cases W:x=i/\y=j
 ·obtain⟨rfl,rfl⟩:=W;rw[hR G] at D;cases D;rw[hR q] at R;cases R;have p:=(a5 x y l l[y] u C (bC q) fJ).1 _ fi;refine⟨λv M=>br M (FT bW _ _),λ_=>?_⟩;rw[hm];obtain⟨h1,h2⟩:=p;cases h1 with|t _ _ h1=>cases h1 with|fp=>exact .nil _ _ h2
 have X: ∃o N,n[x]? =aa o/\o[y]? =aa N/\N=jP:=by
  by_cases f:x=i
  ·subst f;rw[hR G] at D;cases D;rw[ls (by intro e;exact W ⟨rfl,e.symm⟩)] at R;exact⟨l,jP,C,R,rfl⟩
  rw[ls (Ne.symm f)] at D;exact⟨Q,jP,D,R,rfl⟩
 obtain⟨o,N,d1,d2,rfl⟩:=X;have p:=a5 x y o N u d1 d2 fJ;refine⟨λv M=>p.1 v (eW _ M),λcR=>p.2 λv M=>?_⟩
 grind
theorem aaT{K:Ctx}{s:S}(k:Nat){Q:List dw}{gen:Nat}{e:List (List T)}{C:List (Nat×Nat×V)}(l:List dw)(o:Nat)(G:s.H k=aa (.aC Q m gen e C))(L:dA K.ef k=ab)
  (h1:(U l o).ty=(U Q m).ty) (R:(U l o).size=(U Q m).size) (h3:(U l o).aZ=[]):
  s.le K {s with H:=bb s.H k (aa (.aC l o gen e C))}:=by
 have sY:=fb L;have D: ∀j,(U l o).eb j=ak:=λj=>by unfold dw.eb;rw[h3];rfl
 intro A a w h;have r:=(h.heap k _ G).2;have F:dT A (A.drop k):=λ_ _ _ y=> .inl y;rcases r.2 with ⟨aP,a2,a3⟩|⟨b,us,B,aP,a2,a3,a4,a5,jx,hB,fI⟩
 ·exact⟨_,h.drop k (.aC l o gen e C) (by rw[G];simp) ⟨r.1,.inl ⟨aP,a2,λc n=>n.1 rfl⟩⟩⟩
 refine⟨_,h.drop k (.aC l o gen e C) (by rw[G];simp) ⟨r.1,.inr ⟨b,us,λ_ _ _=>False,aP,by rw[h1];exact a2,by rw[R];exact a3,by rw[R];exact a4,?_,λ_ _ _ n=>n.elim,λ_ _ _ _ _ n=>n.elim,λc=>⟨λn=>(n.1 rfl).elim,λ⟨_,_,n⟩=>n.elim⟩⟩⟩⟩;intro i j W x u dm cL N;rw[R] at N;have Y:=a5 i j W x u dm cL N;generalize gj:own K (A.drop k) (bb s.H k (aa (.aC l o gen e C)))=X';have p: ∀b,X' b->own K A s.H b:=by
  subst gj;rintro b (y|⟨id,X,q⟩)
  ·exact .inl y
  refine .inr ⟨id,λf=>?_,nO q⟩;by_cases aL:id=k
  ·subst aL;rw[G] at f;cases f
  rw[cu _ _ _ _ aL] at X;exact X f
 refine⟨λv bR=>⟨(Y.1 v bR).1.mono (Ext.refl _ _) (λb _=>p b) F (Shaped.refl _ _),λ_ n=>n⟩,λI=>?_⟩;rw[D];refine .fm _ _ _ ((Y.2 I).wK p ?_) λ_ n=>n;intro c n y;subst gj;have L:At A k c:= .inr ((fI c).2 ⟨i,j,n⟩);rcases y with y|⟨id,X,q⟩
 ·obtain⟨iY,k0⟩:=h.kq c y;rcases(h.fresh k c L).1 with M|kL
  ·exact k0 M
  omega
 have:=h.inj _ _ _ (nO q) L;subst this;rcases q with ⟨g,q⟩|q
 ·have g3:A id=aa (aa c,g):=q
  grind
 exact q.1 rfl
def E.gen:E->Option Nat
 | .cells _=>ak
 | .arr _ g _ _=>aa g
 | .aC _ _ g _ _=>aa g
theorem n0{g:Nat}{e:E}(h:c4 G w X i e)(c:e.gen=aa g):1<=g/\ ∃q,G i=aa (q,g):=by
 cases e with
 |cells cs=>cases c
 |arr ty l size a=>
  cases c;exact⟨h.1,by rcases h.2 with ⟨k,_⟩|⟨b,n,k,_⟩<;>exact⟨_,k⟩⟩
 |aC o m l a p=>
  cases c;exact⟨h.1,rN h⟩
theorem Rel.Sm{K:Ctx}{s:S}(h:Rel K β s a w)(k:Nat)(e e':E)(g:Nat)(T:s.H k=aa e)(bV:e.gen=aa g)(C:Array Value)(D:TypeId)
  (he: ∀(y:Map) (M:Nat->Prop) (F:World),F=w.alloc (.cells C D)->y k=aa (aa w.heap.size,g+1)->(∀b,y.n k b↔β.n k b)->(∀v u,bB β w (own K β s.H) v u->bB y F M v u)->
   (∀x u,c8 w (own K β s.H) x u->c8 F M x u)->(∀U m x u N,(∀b,N b->β.n k b)->fP U w (own K β s.H) m x u N->fP U F M m x u N)->c4 y F M k e'):
  Rel K (β.put k (aa (aa w.heap.size,g+1))) {s with H:=bb s.H k (aa e')} a (w.alloc (.cells C D)):=by
 have c: ∀X,Ext X w (w.alloc (.cells C D)):=λX=>Ext.alloc X w _;have G:s.u k=ab:=(h.heap k _ T).1;obtain⟨L,tG,Q⟩:=n0 (h.heap k _ T).2 bV;have l: ∀id b,At (β.put k (aa (aa w.heap.size,g+1))) id b->(id=k/\b=w.heap.size)\/At β id b:=λid b bA=>by
  rcases bA with ⟨g,bA⟩|bA
  ·by_cases q:id=k
   ·subst q;rw[f5] at bA;cases bA;exact .inl ⟨rfl,rfl⟩
   rw[fw _ _ _ _ q] at bA;exact .inr (.inl ⟨g,bA⟩)
  exact .inr (.inr bA)
 have o: ∀b,b<w.heap.size->own K (β.put k (aa (aa w.heap.size,g+1))) (bb s.H k (aa e')) b->own K β s.H b:=by
  rintro b hlt (R|⟨id,B,W⟩)
  ·exact .inl R
  rcases l id b W with ⟨rfl,rfl⟩|A
  ·omega
  refine .inr ⟨id,λV=>?_,A⟩;by_cases q:id=k
  ·subst q;rw[T] at V;cases V
  rw[cu _ _ _ _ q] at B;exact B V
 have f:Shaped β w (w.alloc (.cells C D)):=qU (c _);have j:=Po tG (aa w.heap.size) L Q;have I: ∀v u,bB β w (own K β s.H) v u->bB (β.put k (aa (aa w.heap.size,g+1))) (w.alloc (.cells C D)) (own K (β.put k (aa (aa w.heap.size,g+1))) (bb s.H k (aa e'))) v u:=
  λv u bR=>bR.mono (c _) o j f
 refine {ext:=h.ext.trans ((c λ_=>False).weaken λ_ _ h=>h.elim),qV:=h.qV,ri:=h.ri,kq:=h.kq,vS:=h.vS,base:= ?_,jL:=h.jL.ext h.ext.size (c _),low:=h.low,dY:= ?_,eB:=λid b hid=>h.eB id b hid,inj:= ?_,fresh:= ?_,heap:= ?_,dz:=λi=>I _ _ (h.dz i),nt:=h.nt,defers:=h.defers}
 ·exact h.base.grow k g tG (aa w.heap.size) Q L (f5 _ _ _) (λb bA=>by cases bA;exact .inr h.ext.size) λid q=>fw _ _ _ _ q
 ·intro id hid;have r:s.u id=al:=hid;by_cases e:id=k
  ·subst e;rw[G] at r;cases r
  rw[fw _ _ _ _ e];exact h.dY id r
 ·intro id Y b B W;rcases l id b B with ⟨rfl,rfl⟩|A<;>rcases l Y _ W with ⟨rfl,e⟩|h4
  ·rfl
  ·have:=(h.fresh _ _ h4).2;omega
  ·subst e;have:=(h.fresh _ _ A).2;omega
  exact h.inj _ _ _ A h4
 ·intro id b bA;rcases l id b bA with ⟨rfl,rfl⟩|A
  ·exact⟨.inr h.ext.size,bl⟩
  exact⟨(h.fresh _ _ A).1,by have:=(h.fresh _ _ A).2;simp;omega⟩
 intro id e2 p;have p:bb s.H k (aa e') id=aa e2:=p;show s.u id=ab/\c4 _ _ (own K _ (bb s.H k (aa e'))) id e2;by_cases q:id=k
 ·subst q;rw[cy] at p;cases p;exact⟨G,he _ _ _ rfl (f5 _ _ _) (λ_=>Iff.rfl) I (λx u R=>R.mono (c _) o) λU m x u N gd b5=>b5.mono (c _) o λb bA=>AA _ _ _ (h.fresh id b (.inr (gd b bA))).2⟩
 rw[cu _ _ _ _ q] at p;obtain⟨B,W⟩:=h.heap id e2 p;refine⟨B,W.mono (c _) o j (λx R=>by rw[fw _ _ _ _ q];exact R) f λb bA=>AA _ _ _ (h.fresh id b bA).2⟩
theorem Rel.IX{K:Ctx}{s:S}(h:Rel K β s a w)(k:Nat)(e e':E)(g:Nat)(q:Option Nat)(L:β k=aa (q,g))(A:1<=g)(f:s.H k=aa e)
  (j: ∀(r:Map) (Q:Nat->Prop),r k=aa (q,g+1)->(∀b,r.n k b↔β.n k b)->(∀v u,bB β w (own K β s.H) v u->bB r w Q v u)->(∀b,Q b->own K β s.H b)->c4 r w Q k e'):
  Rel K (β.put k (aa (q,g+1))) {s with H:=bb s.H k (aa e')} a w:=by
 have B:s.u k=ab:=(h.heap k _ f).1;have c: ∀id b,At (β.put k (aa (q,g+1))) id b->At β id b:=λid b bA=>by
  rcases bA with ⟨g,bA⟩|bA
  ·by_cases m:id=k
   ·subst m;rw[f5] at bA;cases bA;exact .inl ⟨_,L⟩
   rw[fw _ _ _ _ m] at bA;exact .inl ⟨g,bA⟩
  exact .inr bA
 have o: ∀b,own K (β.put k (aa (q,g+1))) (bb s.H k (aa e')) b->own K β s.H b:=by
  rintro b (R|⟨id,y,C⟩)
  ·exact .inl R
  refine .inr ⟨id,λW=>?_,c id b C⟩;by_cases m:id=k
  ·subst m;rw[f] at W;cases W
  rw[cu _ _ _ _ m] at y;exact y W
 have D:=Po q q A L;have F: ∀v u,bB β w (own K β s.H) v u->bB (β.put k (aa (q,g+1))) w (own K (β.put k (aa (q,g+1))) (bb s.H k (aa e'))) v u:=λv u I=>I.mono (Ext.refl _ _) (λb _=>o b) D (Shaped.refl _ _);refine {h with base:= ?_,dY:= ?_,inj:= ?_,fresh:=λid b bA=>h.fresh id b (c id b bA),heap:= ?_,dz:=λi=>F _ _ (h.dz i)}
 ·exact h.base.grow k g q q L A (cy _ _ _) (λb bA=> .inl bA) λid m=>fw _ _ _ _ m
 ·intro id hid;have p:s.u id=al:=hid;by_cases e:id=k
  ·subst e;rw[B] at p;cases p
  rw[fw _ _ _ _ e];exact h.dY id p
 ·intro id G b y C;exact h.inj id G b (c id b y) (c G b C)
 intro id X l;have l:bb s.H k (aa e') id=aa X:=l;show s.u id=ab/\c4 _ _ (own K _ (bb s.H k (aa e'))) id X;by_cases m:id=k
 ·subst m;rw[cy] at l;cases l;exact⟨B,j _ _ (f5 _ _ _) (λ_=>Iff.rfl) F o⟩
 rw[cu _ _ _ _ m] at l;obtain⟨y,C⟩:=h.heap id X l;exact⟨y,C.mono (Ext.refl _ _) (λb _=>o b) D (λx R=>by rw[fw _ _ _ _ m];exact R) (Shaped.refl _ _) λ_ _=>rfl⟩
theorem aa3{size:Nat}{a c:List (List T)}(o p h:List Value)(y:a.length=n)(A:o.length=n*size)(D:p.length=c.length*size)(B: ∀b,b∈a->b.length=size)(q: ∀b,b∈c->b.length=size){R:Nat->Nat->T->Value->Prop}
  (F: ∀(i j:Nat) (b:List T) (x:T) (u:Value),a[i]? =aa b->b[j]? =aa x->o[i*size+j]? =aa u->R i j x u)
  (G: ∀(i j:Nat) (b:List T) (x:T) (u:Value),c[i]? =aa b->b[j]? =aa x->p[i*size+j]? =aa u->R (n+i) j x u):
  ∀(i j:Nat) (b:List T) (x:T) (u:Value),(a++c)[i]? =aa b->b[j]? =aa x->(o++p++h)[i*size+j]? =aa u->R i j x u:=by
 intro i j b x u k w C;by_cases l:i<a.length
 ·rw[hz l] at k;have e:j<size:=by rw[<-B b (bX k)];exact(d0.1 w).1
  have m:i*size+j<o.length:=by rw[A,<-y];exact m6 l e
  grind
 rw[hS O] at k;have e:j<size:=by rw[<-q b (bX k)];exact(d0.1 w).1
 have r:=(d0.1 k).1;have m:=m6 (size:=size) r e
 grind
def ij(n:Nat):List (Nat×Nat×V)->List (Nat×Nat×V)
 | []=>[]
 |h::hs=>(n+h.1,h.2.1,h.2.2)::ij n hs
theorem BZ{n:Nat}: ∀{hs:List (Nat×Nat×V)} {i j:Nat} {v:V},(i,j,v)∈ij n hs↔ ∃k,i=n+k/\(k,j,v)∈hs
 | [],_,_,_=>by simp[ij]
 |h::hs,i,j,v=>by
  simp only[ij,List.mem_cons,Prod.mk.injEq,BZ (hs:=hs)];constructor
  ·rintro(⟨l,e,m⟩|⟨k,l,e⟩)
   ·exact⟨h.1,l,.inl (by obtain⟨a,b,c⟩:=h;cases e;cases m;rfl)⟩
   exact⟨k,l,.inr e⟩
  rintro⟨k,l,e|e⟩
  ·subst e;exact .inl ⟨l,rfl,rfl⟩
  exact .inr ⟨k,l,e⟩
def Bk(n:Map)(w:World)(X:Nat->Prop)(c:Nat)(a:List (List T))(m:List (Nat×Nat×V))(u:Value):Prop:=
 ∃(b e l:Nat) (k:List Value),u= .slice (aa ⟨b,e,ak⟩) a.length l/\k.length=a.length*c/\
  (∀(j:Nat) x,k[j]? =aa x->w.cell? ⟨b,e+j,ak⟩=aa x)/\(∀x,x∈k->x.oneCell'=ab)/\
  ∀(i j:Nat) (h:List T) (x:T) (y:Value),a[i]? =aa h->h[j]? =aa x->k[i*c+j]? =aa y->(∀v,(i,j,v)∈m->bB n w X v y)/\((∀v,(i,j,v)∉m)->c8 w X x y)
def uU:List (Nat×Nat×V)->Bool
 | []=>ab
 |h::a=>h.2.2.one&&uU a
theorem MC: ∀{a:List (Nat×Nat×V)} {i j:Nat} {v:V},uU a=ab->(i,j,v)∈a->v.one=ab
 | [],_,_,_,_,h=>by cases h
 |h::a,i,j,v,b,hm=>by
  simp only[uU,cB] at b;rcases eg.1 hm with rfl|hm
  ·exact b.1
  exact MC b.2 hm
def r4(d:dw)(n:Nat)(a:List (Nat×Nat×V)):Bool:=
 (List.range n).all λi=>d.aZ.all λp=>a.any λh=>b8 h.1 i&&b8 h.2.1 p.1
theorem Nf: ∀{l:List (Nat×Nat)} {j m:Nat},uZ l j=aa m->(j,m)∈l
 | [],_,_,h=>by cases h
 |p::l,j,m,h=>by
  simp only[uZ] at h;cases a:b8 p.1 j with
  |true=>rw[a] at h;cases h;rw[<-dc a];exact fi
  |false=>rw[a] at h;exact eW _ (Nf h)
theorem MM{d:dw}(h:r4 d n hs=ab)(e:i<n)(k:d.eb j=aa m): ∃v,(i,j,v)∈hs:=by
 have l:=gy.1 h i (w5.2 e);have o:=gy.1 l (j,m) (Nf k);obtain⟨⟨a,b,v⟩,p,c⟩:=iW.1 o;simp only[cB] at c;have q:=dc c.1;have r:=dc c.2
 grind
theorem Bk.of{K:Ctx}{s:S}(h:Rel K β s a w){g:Nat}{l:List dw}{c:List (List T)}{r:List (Nat×Nat×V)}{u:Value}(hk:s.H k=aa (.aC l m g c r))(cR:n=c.length)
  (hu:bB β w (own K β s.H) (.bf k g (U l m).size 0 n) u) (N:0<c.length) (ep:uU r=ab) (bW:r4 (U l m) c.length r=ab):Bk β w (own K β s.H) (U l m).size c r u:=by
 subst cR;have W:=(h.heap k _ hk).2;rcases W.2 with ⟨_,D,_⟩|⟨b,Y,B,aP,a2,a3,a4,a5,jx,hB,fI⟩
 ·rw[D] at N;simp at N
 rcases ff hu aP with ⟨X,h7,wb,iB,rfl,f,hw,gk,pC,hl,hm⟩|⟨f,_⟩
 ·cases f;rw[gN];have A: ∀(i j:Nat) (o:List T) (x:T) (y:Value),c[i]? =aa o->o[j]? =aa x->Y[i*(U l m).size+j]? =aa y->
    (∀v,(i,j,v)∈r->bB β w (own K β s.H) v y)/\((∀v,(i,j,v)∉r)->c8 w (own K β s.H) x y):=by
   intro i j o x y C D R;have F:=a5 i j o x y C D R;refine⟨λv p=>(F.1 v p).1,λG=>?_⟩;have h6:=F.2 G;have L:(U l m).eb j=ak:=by
    cases I:(U l m).eb j with
    |none=>rfl
    |some ak4=>
     obtain⟨v,p⟩:=MM bW (d0.1 C).1 I;exact br p (G v)
   rw[L] at h6;cases h6 with|fm _ _ _ h _=>exact h
  refine⟨b,0,X,Y.toList.take (c.length*(U l m).size),rfl,ca,λj x q=>?_,λx hx=>?_,λi j o x y C D R=>?_⟩
  ·rw[fs] at q;split at q
   ·simp only[World.cell?,a2,Nat.zero_add];simpa using q
   cases q
  ·obtain⟨j,q⟩:=jq.1 hx;rw[fs] at q;split at q
   ·rename_i Q;have er:0<(U l m).size:=Nat.pos_of_ne_zero λe=>by rw[e] at Q;omega
    have C:j / (U l m).size<c.length:=by rw[rI er];exact Q
    have D:=rK j er;have R:=a4 _ (fW C);have he:j / (U l m).size*(U l m).size+j%(U l m).size=j:=by rw[Nat.mul_comm];exact Nat.div_add_mod ..
    obtain⟨c1,c2⟩:=A (j / (U l m).size) (j%(U l m).size) _ _ x (bC C) (bC (by omega:j%(U l m).size<(c[j / (U l m).size]).length)) (by rw[he];simpa using q);by_cases p: ∃v,(j / (U l m).size,j%(U l m).size,v)∈r
    ·obtain⟨v,p⟩:=p;exact(c1 v p).hP (MC ep p)
    exact(c2 λv M=>p ⟨v,M⟩).hP
   cases q
  rw[fs] at R
  grind
 cases f
theorem Rel.IW{K:Ctx}{s:S}{t:TypeId}{u:TypeDesc}{z:Value}{gen size bytes:Nat}(h:Rel K β s a w)(k:Nat)(r:List dw)(m:Nat)(l o:List (List T))(C:List (Nat×Nat×V))(hk:s.H k=aa (.aC r m gen l []))(la:(U r m).size=size)(j':(U r m).ty=e)(ty:TypeId)
  (hu:K.P.underlying t=aa (.slice e)) (he:cn K.P e u z size bytes) (oM:z.cells.size=size) (hs: ∀p,p∈l->p.length=size) (Dm: ∀p,p∈o->p.length=size) (v x:Value) (bR:bB β w (own K β s.H) (.bf k gen size 0 l.length) v)
  (hx:Bk β w (own K β s.H) size o C x) (RX:0<o.length) (agY:r4 (U r m) o.length C=ab) (bA:(l.length+o.length)*bytes<=140737488355328) (hm:l.length+o.length<=maxLen):
  ∃ea w' D,(Builtin.append_ #[t,t] ty #[v,x]).run K.P w= .ok ea w'/\Rel K D {s with H:=bb s.H k (aa (.aC r m (gen+1) (l++o) (ij l.length C)))} a w'/\
   bB D w' (own K D (bb s.H k (aa (.aC r m (gen+1) (l++o) (ij l.length C))))) (.bf k (gen+1) size 0 (l.length+o.length)) ea:=by
 subst la;subst j';obtain⟨q,dp⟩:=rN (h.heap k _ hk).2;have jj:=(h.heap k _ hk).2.1;obtain⟨_,i,mI,hi2,Y,sV⟩:=id he;have hm':l.length+o.length<=9223372036854775807:=by unfold maxLen at hm;omega
 have kK:=(h.heap k _ hk).2.2;have R4: ∀p,p∈l++o->p.length=(U r m).size:=λp vF=>by
  rcases eX.1 vF with h|h
  ·exact hs p h
  exact Dm p h
 obtain⟨cL,off,C3,Q,mK,oL,JV,mJ,hwr⟩:=hx;have JW: ∀j y,Q[j]? =aa y->w.cell? ((⟨cL,off,ak⟩:Addr).add j)=aa y:=λj y hy=>by rw[jC];exact JV j y hy
 have lb:(l.length+o.length)*i.bytes<=140737488355328:=by rw[sV];exact bA
 have ahm: ∀i j,i<o.length->(∀v,(i,j,v)∉C)->(U r m).eb j=ak:=λi j aL lX=>by
  cases hkk:(U r m).eb j with
  |none=>rfl
  |some ak4=>
   obtain⟨v,bR⟩:=MM agY aL hkk;exact br bR (lX v)
 -- the cells of old and new rows, in whatever world
 have M: ∀(B:Nat->Nat->Nat->Prop) (D:Map) (w':World) (X':Nat->Prop),(∀v u,bB β w (own K β s.H) v u->bB D w' X' v u)->(∀x u,c8 w (own K β s.H) x u->c8 w' X' x u)->
   (∀i j c,B i j c->i<l.length)-> ∀(f rest:List Value),f.length=l.length*(U r m).size->
   (∀(i j:Nat) (p:List T) (x:T) (u:Value),l[i]? =aa p->p[j]? =aa x->f[i*(U r m).size+j]? =aa u->fP r w' X' ((U r m).eb j) x u (B i j))->
   ∀(i j:Nat) (p:List T) (x:T) (u:Value),(l++o)[i]? =aa p->p[j]? =aa x->(f++Q++rest)[i*(U r m).size+j]? =aa u->Cell r m (ij l.length C) D w' X' i j x u (B i j):=by
  intro B D w' X' lY oK fC f rest q0 s0;refine aa3 f Q rest rfl q0 oL hs Dm (R:=λi j x u=>Cell r m (ij l.length C) D w' X' i j x u (B i j)) (λi j p x u h1 h2 h3=>⟨λv bR=>?_,λ_=>s0 i j p x u h1 h2 h3⟩) λi j p x u h1 h2 h3=>⟨λv bR=>?_,λlX=>?_⟩
  ·obtain⟨gW,e1,_⟩:=BZ.1 bR
   have:=(d0.1 h1).1;omega
  ·obtain⟨gW,e1,e2⟩:=BZ.1 bR
   have:gW=i:=O
   subst this;exact⟨lY _ _ ((hwr gW j p x u h1 h2 h3).1 v e2),λc G=>by have:=fC _ _ _ G;omega⟩
  have RT: ∀v,(i,j,v)∉C:=λv bR=>lX v (BZ.2 ⟨i,rfl,bR⟩);rw[ahm i j (d0.1 h1).1 RT];exact .fm _ _ _ (oK _ _ ((hwr i j p x u h1 h2 h3).2 RT)) (λc G=>by have:=fC _ _ _ G;omega)
 -- a new block
 have finish: ∀(B:Nat->Nat->Nat->Prop) (f:List Value) (A:Nat),f.length=l.length*(U r m).size->l.length+o.length<=A->A<=maxLen->
   (∀(i j:Nat) (p:List T) (x:T) (u:Value),l[i]? =aa p->p[j]? =aa x->f[i*(U r m).size+j]? =aa u->fP r w (own K β s.H) ((U r m).eb j) x u (B i j))->
   (∀i j c,B i j c->i<l.length/\j<(U r m).size)->(∀i j gW ey c,B i j c->B gW ey c->i=gW/\j=ey)->(∀c,β.n k c↔ ∃i j,B i j c)->
   ∃D,Rel K D {s with H:=bb s.H k (aa (.aC r m (gen+1) (l++o) (ij l.length C)))} a (w.drew.alloc (.cells (f.toArray++Q.toArray++eh z.cells (A-(l.length+o.length))) (U r m).ty))/\
    bB D (w.drew.alloc (.cells (f.toArray++Q.toArray++eh z.cells (A-(l.length+o.length))) (U r m).ty)) (own K D (bb s.H k (aa (.aC r m (gen+1) (l++o) (ij l.length C))))) (.bf k (gen+1) (U r m).size 0 (l.length+o.length)) (.slice (aa ⟨w.heap.size,0,ak⟩) (l.length+o.length) A):=by
  intro B f A q0 RB hcm ah4 fC cI gd;have yL:(f.toArray++Q.toArray++eh z.cells (A-(l.length+o.length))).size=A*(U r m).size:=by
   simp only[Array.size_append,List.size_toArray,size_zeroCells,oM,q0,oL,<-Nat.add_mul];congr 1;omega
  have vA:=xH h;have yJ:=vA.Sm k _ (.aC r m (gen+1) (l++o) (ij l.length C)) gen hk rfl (f.toArray++Q.toArray++eh z.cells (A-(l.length+o.length))) (U r m).ty
   (λD X' w' hw' JY cR lY oK s0=>⟨O,.inr ⟨w.heap.size,_,B,JY,by subst hw';exact j2 w.drew _,by rw[yL,dP];exact dQ _ RB,R4,
    λi j p x u aP a2 a3=>M B D w' X' (λv u JT=>lY v u (JT.mono (Ext.drew _ _) (λ_ _ h=>h) (dT.refl _) (qU (Ext.drew _ _)))) (λx u JX=>oK x u (JX.mono (Ext.drew _ _) λ_ _ h=>h)) (λi j c G=>(fC i j c G).1) f (eh z.cells (A-(l.length+o.length))).toList q0
     (λi j p x u dm cL fJ=>s0 r _ x u (B i j) (λc G=>(gd c).2 ⟨i,j,G⟩) ((ah4 i j p x u dm cL fJ).mono (Ext.drew _ _) (λ_ _ h=>h) λ_ _=>rfl)) i j p x u aP a2 (by simpa[<-Array.getElem?_toList] using a3),
    λi j c G=>⟨by have:=(fC i j c G).1;rw[dP];omega,(fC i j c G).2,λe0=>by have:=(h.fresh k c (.inr ((gd c).2 ⟨i,j,G⟩))).2;rw[e0] at this;exact Nat.lt_irrefl _ this⟩,cI,λc=>(cR c).trans (gd c)⟩⟩)
  refine⟨_,yJ,?_⟩;have jD:bB (β.put k (aa (aa w.heap.size,gen+1))) (w.drew.alloc (.cells (f.toArray++Q.toArray++eh z.cells (A-(l.length+o.length))) (U r m).ty)) (own K (β.put k (aa (aa w.heap.size,gen+1))) (bb s.H k (aa (.aC r m (gen+1) (l++o) (ij l.length C))))) (.bf k (gen+1) (U r m).size 0 (l.length+o.length)) (.slice (aa ⟨w.heap.size,0*(U r m).size,ak⟩) (l.length+o.length) A):=by
   have vD:=j2 w.drew (.cells (f.toArray++Q.toArray++eh z.cells (A-(l.length+o.length))) (U r m).ty);refine .bf k (gen+1) (U r m).size 0 _ A w.heap.size (A*(U r m).size) (U r m).ty O (cy _ _ _) bl ?_ (by rw[dy]) RB hcm;have ahB:(w.drew.alloc (.cells (f.toArray++Q.toArray++eh z.cells (A-(l.length+o.length))) (U r m).ty)).heap[w.heap.size]? =aa (.cells (f.toArray++Q.toArray++eh z.cells (A-(l.length+o.length))) (U r m).ty):=vD;unfold iZ;rw[ahB];simp only[yL]
  rw[gN] at jD;exact jD
 subst mK;rcases ff bR dp with ⟨X,b,n,iB,rfl,ka,hw,gk,pC,hl,pB⟩|⟨ka,_,ahs,rfl⟩
 rotate_left
 ·have sZ:l=[]:=nT ahs;subst sZ;have L:=run_append_nil (P:=K.P) w t ty (U r m).ty i z hu mI hi2 ⟨cL,off,ak⟩ o.length C3 Q (by rw[Y];exact oL) JW RX O (by simp at lb;omega);subst ka;have ahD: ∀c,¬β.n k c:=by
   rcases kK with ⟨_,_,h0⟩|⟨b,f,B,h1,_⟩
   ·exact h0
   rw[dp] at h1;cases h1
  obtain⟨D,f1,f2⟩:=finish (λ_ _ _=>False) [] (grownCap w o.length 0 (U r m).ty) bl (by simpa using grownCap_ge w o.length 0 (U r m).ty) (grownCap_le_maxLen w _ 0 (U r m).ty (by unfold maxLen;simp at hm';omega)) (λi j p x u h1 _ _=>by simp at h1)
   (λ_ _ _ h=>h.elim) (λ_ _ _ _ _ h=>h.elim) λc=>⟨λG=>br G (ahD c),λ⟨_,_,h⟩=>h.elim⟩
  simp only[List.length_nil,Nat.zero_add] at f1 f2⊢;exact⟨_,_,D,by rw[L];simp,f1,f2⟩
 subst ka;rcases kK with ⟨g1,_⟩|⟨h7,F,B,g1,g2,g3,g4,g5,g6,g7,g8⟩
 ·rw[dp] at g1;cases g1
 rw[dp] at g1;cases g1;have oH:F.size=X*(U r m).size:=by
  unfold iZ at gk;rw[g2] at gk;simp at gk;rw[<-pC] at gk;rw[dy] at gk;exact gk.2
 have vG:(F.toList.take (l.length*(U r m).size)).length=l.length*(U r m).size:=ca
 have oK: ∀(i j:Nat) (p:List T) (x:T) (u:Value),l[i]? =aa p->p[j]? =aa x->(F.toList.take (l.length*(U r m).size))[i*(U r m).size+j]? =aa u->fP r w (own K β s.H) ((U r m).eb j) x u (B i j):=by
  intro i j p x u h1 h2 h3;rw[fs] at h3;split at h3
  ·exact(g5 i j p x u h1 h2 (by simpa using h3)).none
  cases h3
 simp only[Nat.zero_mul];by_cases I:l.length+o.length<=X
 ·have mH:l.length*(U r m).size+Q.length<=F.size:=by rw[oL,oH,<-dN];exact dQ _ I
  have L:=run_append_room (P:=K.P) w t ty (U r m).ty i hu mI b l.length X F g2 ⟨cL,off,ak⟩ o.length C3 Q (by rw[Y];exact oL) JW mJ I (by rw[Y];exact mH);rw[Y] at L;have N:(F.toList.take (l.length*(U r m).size)++Q++F.toList.drop (l.length*(U r m).size+Q.length)).toArray.size=F.size:=by
   simp;omega
  generalize lV:w.setRow b (F.toList.take (l.length*(U r m).size)++Q++F.toList.drop (l.length*(U r m).size+Q.length)).toArray=W at L;have JN:own K β s.H b:= .inr ⟨k,by rw[hk];simp,.inl ⟨_,dp⟩⟩;have JB:Ext (own K β s.H) w W:=by
   subst lV;exact⟨rfl,rfl,rfl,bl,λkk _ hx=>setRow_other _ _ _ _ λe0=>hx (e0▸JN)⟩
  have ahU:Shaped β w W:=by subst lV;intro h7 _;exact FG g2 N h7
  have hrel:=h.setRow k b (.inl ⟨_,dp⟩) F (U r m).ty g2 (F.toList.take (l.length*(U r m).size)++Q++F.toList.drop (l.length*(U r m).size+Q.length)).toArray N (.aC r m gen (l++o) (ij l.length C)) (by rw[hk];simp)
   ⟨jj,Or.inr ⟨b,_,B,dp,setRow_heap _ _ _ _ _ _ g2,by rw[N,oH,dP];exact dQ _ I,R4,
    λi j p x u aP a2 a3=>by
     rw[lV];exact M B β W (own K β s.H) (λv u JT=>JT.mono JB (λ_ _ h=>h) (dT.refl _) ahU) (λx u JX=>JX.mono JB λ_ _ h=>h) (λi j c G=>(g6 i j c G).1) _ _ vG
      (λi j p x u dm cL fJ=>(oK i j p x u dm cL fJ).mono JB (λ_ _ h=>h) λc G=>by subst lV;exact setRow_other _ _ _ _ (g6 i j c G).2.2) i j p x u aP a2 (by simpa using a3),
    λi j c G=>⟨by have:=(g6 i j c G).1;rw[dP];omega,(g6 i j c G).2⟩,g7,g8⟩⟩
  rw[lV] at hrel;have R0:=hrel.IX k (.aC r m gen (l++o) (ij l.length C)) (.aC r m (gen+1) (l++o) (ij l.length C)) gen (aa b) dp jj (cy _ _ _) (λD X' JY cR lY gj=>by
   have hK:=(hrel.heap k _ (cy _ _ _)).2;rcases hK.2 with ⟨e1,_⟩|⟨h7,fq,TT,e1,e2,mD,pt,k9,akO,akP,akQ⟩
   ·rw[dp] at e1;cases e1
   rw[dp] at e1;cases e1;exact⟨O,.inr ⟨b,fq,TT,JY,e2,mD,pt,λi j p x u c1 c2 e5=>⟨λv bR=>⟨lY _ _ ((k9 i j p x u c1 c2 e5).1 v bR).1,((k9 i j p x u c1 c2 e5).1 v bR).2⟩,λlX=>((k9 i j p x u c1 c2 e5).2 lX).mono (Ext.refl _ _) (λc _=>gj c) λ_ _=>rfl⟩,akO,akP,λc=>(cR c).trans (akQ c)⟩⟩)
  have Jo:bb (bb s.H k (aa (.aC r m gen (l++o) (ij l.length C)))) k (aa (.aC r m (gen+1) (l++o) (ij l.length C)))=bb s.H k (aa (.aC r m (gen+1) (l++o) (ij l.length C))):=by
   funext j;by_cases hj:j=k
   ·subst hj;rw[cy,cy]
   rw[cu _ _ _ _ hj,cu _ _ _ _ hj,cu _ _ _ _ hj]
  simp only[Jo] at R0;refine⟨_,_,_,L,R0,?_⟩;have jD:bB (β.put k (aa (aa b,gen+1))) W (own K (β.put k (aa (aa b,gen+1))) (bb s.H k (aa (.aC r m (gen+1) (l++o) (ij l.length C))))) (.bf k (gen+1) (U r m).size 0 (l.length+o.length)) (.slice (aa ⟨b,0*(U r m).size,ak⟩) (l.length+o.length) X):=by
   refine .bf k (gen+1) (U r m).size 0 _ X b (X*(U r m).size) (U r m).ty O (cy _ _ _) (by subst lV;simpa using hw) ?_ (by rw[dy]) I pB;subst lV;unfold iZ;rw[setRow_heap _ _ _ _ _ _ g2];simp only[N,oH]
  rw[gN] at jD;exact jD
 have holds: ∀j u,(F.toList.take (l.length*(U r m).size))[j]? =aa u->w.cell? ((⟨b,0,ak⟩:Addr).add j)=aa u:=by
  intro j u hj;rw[jC,dy];rw[fs] at hj;split at hj
  ·simp only[World.cell?,g2];simpa using hj
  cases hj
 have L:=run_append_grow (P:=K.P) w t ty (U r m).ty i z hu mI hi2 ⟨b,0,ak⟩ l.length X (F.toList.take (l.length*(U r m).size)) (by rw[Y];exact vG) holds ⟨cL,off,ak⟩ o.length C3 Q (by rw[Y];exact oL) JW O O (growslice_fits O lb);obtain⟨D,f1,f2⟩:=finish B (F.toList.take (l.length*(U r m).size)) (grownCap w (l.length+o.length) X (U r m).ty) vG (grownCap_ge w _ X (U r m).ty) (grownCap_le_maxLen w _ X (U r m).ty hm) oK (λi j c G=>⟨(g6 i j c G).1,(g6 i j c G).2.1⟩) g7 g8;exact⟨_,_,D,L,f1,f2⟩
def u9(a:Nat)(b:List V):List (Nat×Nat×V)->List (Nat×Nat×V)
 | []=>[]
 |h::c=>(h.1,h.2.1,match dA a h.2.1,b[h.2.1-a]? with
  |true,aa v=>v
  |_,_=>h.2.2)::u9 a b c
theorem G'{off:Nat}{vs:List V}{i j:Nat}{v:V}: ∀{a:List (Nat×Nat×V)},(i,j,v)∈a-> ∃b,(i,j,b)∈u9 off vs a
 |h::a,hm=>by
  rcases eg.1 hm with rfl|hm
  ·exact⟨_,fi⟩
  obtain⟨b,c⟩:=G' hm;exact⟨b,eW _ c⟩
theorem GH{n:Nat}{Y:List V}{i j:Nat}{v:V}: ∀{b:List (Nat×Nat×V)},(i,j,v)∈u9 n Y b-> ∃a,(i,j,a)∈b/\(n<=j-> ∀x,Y[j-n]? =aa x->v=x)/\(¬(n<=j/\j<n+Y.length)->v=a)
 |h::b,hm=>by
  rcases eg.1 hm with e|hm
  ·simp only[Prod.mk.injEq] at e;obtain⟨rfl,rfl,rfl⟩:=e;refine⟨h.2.2,fi,λk x c=>?_,λl=>?_⟩
   ·rw[Nat.ble_eq_true_of_le k,c]
   split
   ·rename_i v m c
    have:=(d0.1 c).1
    have:=fb m;exact br ⟨this,O⟩ l
   rfl
  obtain⟨a,o,p⟩:=GH hm;exact⟨a,eW _ o,p⟩
theorem aau{e:List dw}{gen:Nat}{a:List (List T)}{l:List (Nat×Nat×V)}(h:c4 G w X k (.aC e m gen a l)){q:List T}{c:T}(r:a[i]? =aa q)(A:q[n]? =aa c):
  ∃(b:Nat) (o:Array Value) (N:Nat->Prop) (x:Value),G k=aa (aa b,gen)/\w.heap[b]? =aa (.cells o (U e m).ty (0,0))/\o[i*(U e m).size+n]? =aa x/\Cell e m l G w X i n c x N:=by
 rcases h.2 with ⟨_,y,_⟩|⟨b,o,B,C,y,L,Q,D,_⟩
 ·rw[y] at r;simp at r
 have F:i<a.length:=(d0.1 r).1;have R:n<(U e m).size:=by
  grind
 have p:i*(U e m).size+n<o.size:=by
  have:(i+1)*(U e m).size<=a.length*(U e m).size:=dQ _ F
  grind
 exact⟨b,o,_,o[i*(U e m).size+n],C,y,by simp[p],D i n q c _ r A (by simp[p])⟩
section oa
variable {P:Program}{H:Nat->Option E}{d:Option Tmp}{ty:TypeId}{pos:String}{af:Array Edge}{g:Option (Nat×Bool)}
variable {t:TypeId}{u:TypeDesc}{z:Value}{size bytes:Nat}
theorem ED(x:Operand)(o gen i a:Nat)(n:List dw)(m:Nat)(B:Nat)(e:List (List T))(p:List (Nat×Nat×V))(l:List T)(c:T)(v:V)(G:cn P t u z size bytes)(L:kF u=al)(Q:H o=aa (.aC n m gen e p))(R:(U n m).size=B)
  (W:e[i]? =aa l) (f:l[a]? =aa c) (q:(i,a,v)∈p\/((∀v,(i,a,v)∉p)/\(U n m).eb a=ak/\v= .t c)):
  cw P H ⟨d,.load t x,ty,pos,af,g⟩ [.cQ o gen B i a] v:=by
 subst R;intro β w X ρ j I;obtain⟨b,us,N,y,M,Y,C,D⟩:=aau (j o _ Q) W f;obtain⟨h7,r,hx⟩:=pR I.1 M;cases r;have hlt:=(iD.1 C).1;have k:w.cell? ⟨b,i*(U n m).size+a,ak⟩=aa y:=by
  simp only[World.cell?,Y];exact C
 refine⟨y,?_,?_⟩
 ·simp[execOp,hx,Instr.loadAt,Instr.sureAddr,G.D3 w L k]
 rcases q with q|⟨A,hk,rfl⟩
 ·exact(D.1 v q).1
 have F:=D.2 A;rw[hk] at F;cases F with|fm _ _ _ h _=>exact .t _ _ h
theorem LC(x:Operand)(r gen i a:Nat)(k:List dw)(m:Nat)(Q:Nat)(e:List (List T))(R:List (Nat×Nat×V))(h:List T)(y:List V)(W:cn P t u z size bytes)(f:kF u=ab)(I:H r=aa (.aC k m gen e R))(M:(U k m).size=Q)
  (n:e[i]? =aa h) (hl:a+size<=h.length) (o:y.length=size) (N: ∀j v,y[j]? =aa v->(i,a+j,v)∈R):
  cw P H ⟨d,.load t x,ty,pos,af,g⟩ [.cQ r gen Q i a] (.agg y):=by
 subst M;intro β w X ρ Y gV;rcases(Y r _ I).2 with ⟨_,A,_⟩|⟨b,C,B,h1,A,h3,h4,h5,_⟩
 ·rw[A] at n;simp at n
 obtain⟨h7,D,hx⟩:=pR gV.1 h1;cases D;have aL:i<e.length:=(d0.1 n).1;have hrl:h.length=(U k m).size:=h4 h (bX n);have p: ∀j,j<size->i*(U k m).size+a+j<C.size:=by
  intro j q
  have:(i+1)*(U k m).size<=e.length*(U k m).size:=dQ _ aL
  grind
 have l: ∀j,j<size->w.cell? ⟨b,i*(U k m).size+a+j,ak⟩=aa (C.getD (i*(U k m).size+a+j) undef):=λj q=>by
  have:=p j q;simp[World.cell?,A,this]
 refine⟨_,by simp[execOp,hx,Instr.loadAt,Instr.sureAddr,W.D4 w f l];rfl,?_⟩;refine .agg _ _ (by simp[o]) λj c v F G=>?_;have q:j<size:=by
  grind
 simp only[List.getElem?_toArray,List.getElem?_map,List.getElem?_range q,gP,Option.some.injEq] at G;have L:=bC (O:a+j<h.length)
 have:=p j q;have h6:=(h5 i (a+j) h _ C[i*(U k m).size+a+j] n L (by rw[<-nU];simp[this])).1 c (N j c F)
 grind
theorem Xd(x:Operand)(n gen o i c k a:Nat)(C:Array Field)(h:Field)(F:TypeDesc)(G:Value)(l p:Nat)(L:P.underlying t=aa (.struct C))(Q:C[k]? =aa h)(R:h.offset=a)(r:cn P h.type F G l p)(y:(l==0)=al)
  (e:E) (W:H n=aa e) (f:e.gen=aa gen):cw P H ⟨d,.fieldAddr t x k,ty,pos,af,g⟩ [.cQ n gen o i c] (.cQ n gen o i (c+a)):=by
 intro M w X N j v;obtain⟨A,q,D⟩:=n0 (j n _ W) f;obtain⟨b,B,I⟩:=pR v.1 D;subst B;have m:l≠0:=by simpa using y
 refine⟨.pointer (aa ⟨b,i*o+(c+a),ak⟩),?_,.cQ _ _ _ _ _ _ A D⟩;simp[execOp,I,Instr.fieldAt,run_underlying L,Q,Instr.sureAddr,fieldPlace,r.run_sizeOf,m,jC,R,Nat.add_assoc]
theorem Xb(x y:Operand)(e:TypeId)(i gen a c n:Nat)(p:E)(B:H i=aa p)(C:p.gen=aa gen)(D:P.underlying t=aa (.slice e))(F:cn P e u z size bytes)(f:n<c):
  cw P H ⟨d,.indexAddr t x y,ty,pos,af,g⟩ [.bf i gen size a c,.t (.int .i64 (n:Nat))] (.cQ i gen size (a+n) 0):=by
 intro j w X G L k;have cR:=dO k.2.1;generalize r:G x=v at k;have h:=k.1;simp only[r] at h;obtain⟨l,q,A⟩:=n0 (L i _ B) C;rcases ff h A with ⟨Q,b,m,R,rfl,o,I,M,W,N,T⟩|⟨_,_,U,_⟩
 ·subst o;refine⟨.pointer (aa ⟨b,(a+n)*size+0,ak⟩),?_,.cQ _ _ _ _ _ b l A⟩;simp[execOp,r,cR,Instr.indexAt,asIntOf,run_underlying D,F.run_sizeOf,jC,Nat.add_mul]
  grind
 omega
theorem Zf(x:Operand)(e:TypeId)(l gen h i c:Nat)(p:P.underlying t=aa (.slice e))(n:E)(r:H l=aa n)(y:n.gen=aa gen):cw P H ⟨d,.call {callee:= .builtin .len,args:= #[x],argTypes:= #[t]},ty,pos,af,g⟩ [.bf l gen h i c] (.t (.int .i64 (c:Nat))):=by
 intro A w X o B C;obtain⟨a,cap,k⟩: ∃a cap,o x= .slice a c cap:=by
  have D:bB A w X (.bf l gen h i c) (o x):=C.1;obtain⟨_,q,F⟩:=n0 (B l _ r) y;rcases ff D F with ⟨cap,b,m,G,k,_⟩|⟨_,_,L,k⟩
  ·exact⟨_,_,k⟩
  exact⟨ak,0,by rw[L];exact k⟩
 refine⟨.int .i64 (c:Nat),?_,.t _ _ (.int _ _)⟩;simp[execOp,resolve,invoke,builtin,k,Builtin.len_,run_underlying p,goInt]
end oa
section ops
variable {K:Ctx}{s:S}{d:Option Tmp}{ty:TypeId}{pos:String}{af:Array Edge}{g:Option (Nat×Bool)}
variable {t:TypeId}{u:TypeDesc}{z:Value}{gen size bytes:Nat}
theorem aa'(k v I M:Nat)(x y:Operand)(e:TypeId)(q r:List dw)(m N:Nat)(c b:List (List T))(h:List (Nat×Nat×V))(Y: ∀i,d=aa i->dn i K.nt=ab)(hx:s.get x= .bf k gen size 0 c.length)(hy:s.get y= .bf v I size 0 M)(hk:s.H k=aa (.aC q m gen c []))(F:s.H v=aa (.aC r N I b h))
  (G:U r N=U q m) (L:M=b.length) (hu:K.P.underlying t=aa (.slice e)) (he:cn K.P e u z size bytes) (R:b8 z.cells.size size=ab) (W:(U q m).size=size) (j':(U q m).ty=e) (hs: ∀l,l∈c->l.length=size) (X: ∀l,l∈b->l.length=size)
  (n:0<b.length) (o:r4 (U q m) b.length h=ab) (ep:uU h=ab) (bA:(c.length+b.length)*bytes<=140737488355328) (hm:c.length+b.length<=9223372036854775807):
  dX K ⟨d,.call {callee:= .builtin .append,args:= #[x,y],argTypes:= #[t,t]},ty,pos,af,g⟩ s
   (({s with H:=bb s.H k (aa (.aC q m (gen+1) (c++b) (ij c.length h)))}:S).put d (.bf k (gen+1) size 0 (c.length+b.length))):=by
 intro β a w next Q D f
 have A:=D.get x;rw[hx] at A;have B:=D.get y;rw[hy] at B;have p:=Bk.of D F L (by rw[G,W];exact B) n ep (by rw[G];exact o);rw[G,W] at p;obtain⟨ea,w',j,h1,h2,h4⟩:=D.IW k q m c b h hk W j' ty hu he (dc R) hs X _ _ A p n o bA (by unfold maxLen;omega);unfold Oper.wp;have C:(execOp a.eval ⟨d,.call {callee:= .builtin .append,args:= #[x,y],argTypes:= #[t,t]},ty,pos,af,g⟩).run K.P w= .ok (.value ea) w':=by
  simp[execOp,resolve,invoke,builtin,h1]
 rw[C];exact f j _ w' (h2.put d Y h4)
theorem B5{R:Type}(f:Nat->R)(k:Nat)(a b:R):bb (bb f k a) k b=bb f k b:=by funext i;unfold bb;cases b8 i k<;>rfl
theorem GI(s:S)(d:Option Tmp)(v:V):(s.put d v).H=s.H:=by cases d<;>rfl
theorem MK(s:S)(d:Option Tmp)(v:V)(F:Nat->Option E):({s.put d v with H:=F}:S)=({s with H:=F}:S).put d v:=by cases d<;>rfl
theorem ML{K:Ctx}{s:S}(k:Nat){Γ:List dw}{gen:Nat}{c:List (List T)}(o:s.H k=aa (.aC Γ m gen c []))(C:(U Γ m).aZ=[]):
  s.le K {s with H:=bb s.H k (aa (.arr (U Γ m).ty gen (U Γ m).size c))}:=by
 intro r a w h;refine⟨_,h.drop k (.arr (U Γ m).ty gen (U Γ m).size c) (by rw[o];simp) ?_⟩;have e:=(h.heap k _ o).2;refine⟨e.1,?_⟩;have l: ∀b,own K (r.drop k) (bb s.H k (aa (.arr (U Γ m).ty gen (U Γ m).size c))) b->own K r s.H b:=by
  rintro b (D|⟨id,y,F⟩)
  ·exact .inl D
  refine .inr ⟨id,λp=>?_,nO F⟩;by_cases A:id=k
  ·subst A;rw[o] at p;cases p
  rw[cu _ _ _ _ A] at y;exact y p
 rcases e.2 with ⟨aP,a2,_⟩|⟨b,G,B,aP,a2,a3,a4,a5,_⟩
 ·exact .inl ⟨aP,a2⟩
 refine .inr ⟨b,G,aP,a2,a3,a4,λi j q x u L Q R=>?_⟩;have n:=(a5 i j q x u L Q R).none;rw[show(U Γ m).eb j=ak by unfold dw.eb;rw[C];rfl] at n;cases n with
 |fm _ _ _ n _=>exact n.mono (Ext.refl _ _) λb _=>l b
theorem aca(k:Nat)(x y:Operand)(e:TypeId)(c l:List (List T))(cI: ∀i,d=aa i->dn i K.nt=ab)(hx:s.get x= .bf k gen size 0 c.length)(hy:dI (s.get y) (.t (.bG l)))(hk:s.H k=aa (.arr e gen size c))
  (hu:K.P.underlying t=aa (.slice e)) (he:cn K.P e u z size bytes) (oM:b8 z.cells.size size=ab) (hp:dn 0 size=ab) (hs:Rows size c) (C:Rows size l)
  (bA:(c.length+l.length)*bytes<=140737488355328) (hm:c.length+l.length<=9223372036854775807):
  dX K ⟨d,.call {callee:= .builtin .append,args:= #[x,y],argTypes:= #[t,t]},ty,pos,af,g⟩ s
   (({s with H:=bb s.H k (aa (.arr e (gen+1) size (c++l)))}:S).put d (.bf k (gen+1) size 0 (c.length+l.length))):=by
 intro β a w next Q L hkk
 suffices H: ∃R w',(Builtin.append_ #[t,t] ty #[a.eval x,a.eval y]).run K.P w= .ok R w'/\ ∃o,Rel K o (({s with H:=bb s.H k (aa (.arr e (gen+1) size (c++l)))}:S).put d (.bf k (gen+1) size 0 (c.length+l.length))) (a.put d R) w' by
  obtain⟨R,w',W,o,h2⟩:=H;unfold Oper.wp;have X:(execOp a.eval ⟨d,.call {callee:= .builtin .append,args:= #[x,y],argTypes:= #[t,t]},ty,pos,af,g⟩).run K.P w= .ok (.value R) w':=by
   simp[execOp,resolve,invoke,builtin,W]
  rw[X];exact hkk o _ w' h2
 have f:0<size:=by simpa[Nat.blt_eq] using hp
 by_cases cR:l=[]
 ·subst cR;have p:=L.get x;rw[hx] at p;obtain⟨jj,q,I⟩:=n0 (L.heap k _ hk).2 rfl;obtain⟨_,i,M,hi2,lW,sV⟩:=id he;obtain⟨N,cap,ah9⟩: ∃N cap,a.eval y= .slice N 0 cap:=by
   rcases Bg (hy _ _ _ _ (L.get y)) C f with (⟨h,_⟩|⟨b,V,cap,us,h,_⟩)|⟨_,N,cap,h⟩
   ·exact⟨_,_,h⟩
   ·exact⟨_,_,h⟩
   exact⟨_,_,h⟩
  have vz:=L.IX k (.arr e gen size c) (.arr e (gen+1) size c) gen q I jj hk (λo X' W _ _ h4=>⟨O,by
   rcases(L.heap k _ hk).2.2 with ⟨D,Y⟩|⟨b,us,D,Y,e5,h',lK⟩
   ·rw[I] at D;cases D;exact .inl ⟨W,Y⟩
   rw[I] at D;cases D;exact .inr ⟨b,us,W,Y,e5,h',λi j F x u d1 d2 d3=>(lK i j F x u d1 d2 d3).mono (Ext.refl _ _) λb _=>h4 b⟩⟩)
  refine⟨a.eval x,w,?_,β.put k (aa (q,gen+1)),?_⟩
  ·rw[ah9];rcases ff p I with ⟨B,b,n,iB,r,A,hw,gk,pC,hl,pB⟩|⟨A,_,_,r⟩<;>rw[r]
   ·cases N<;>simp[Builtin.append_,run_underlying hu,sizeOf,typeInfo,M,Builtin.lenOf,Builtin.firstCells,hl,storeCells,loadCells,loadCellsFrom]
   cases N<;>simp[Builtin.append_,run_underlying hu,sizeOf,typeInfo,M,Builtin.lenOf,Builtin.firstCells,loadCells,loadCellsFrom]
  rw[jr];refine vz.put d cI ?_;simp only[List.length_nil,Nat.add_zero];rcases ff p I with ⟨B,b,n,iB,r,A,hw,gk,pC,hl,pB⟩|⟨A,_,JI,r⟩<;>rw[r]<;>subst A
  ·exact .bf k (gen+1) size 0 _ B b n iB O (f5 _ _ _) hw gk pC hl pB
  rw[JI];exact .hq k (gen+1) size O (f5 _ _ _)
 obtain⟨xj,G⟩:=GJ k [⟨e,size,[]⟩] 0 hk rfl rfl (.inr rfl) β a w L;have p:bB xj w _ (s.get x) _:=G.get x;rw[hx] at p;have kO:=hy _ _ _ _ (G.get y);rcases Bg kO C f with (⟨_,h⟩|⟨b,V,cap,us,W,h2,h3,h4,h5⟩)|⟨h,_⟩
 ·exact br h cR
 ·obtain⟨R,w',o,e1,e2,mD⟩:=G.IW k [⟨e,size,[]⟩] 0 c l [] (cy _ _ _) rfl rfl ty hu he (dc oM) hs C _ _ p ⟨b,V,cap,us,W,h2,h3,h4,λi j F x y D Y e5=>⟨λv bR=>by(cases bR),λ_=>h5 i j F x y D Y e5⟩⟩ (List.length_pos_iff.2 cR) (by simp[r4,U]) bA (by unfold maxLen;omega);obtain⟨TS,k9⟩:=ML (Γ:=[⟨e,size,[]⟩]) (m:=0) k (by rw[GI];exact cy _ _ _) rfl o _ _ (e2.put d cI mD);rw[GI] at k9;refine⟨R,w',e1,TS,?_⟩;rw[MK,B5,B5] at k9;exact k9
 exact br h cR
theorem Le(x y:Operand)(id i off:Nat)(k:List dw)(m:Nat)(o:List (List T))(G:List T)(v:V)(hs:List (Nat×Nat×V))(hx:s.get x= .cQ id gen size i off)(bR:s.get y=v)(yM:v.val=ab)(nF:nS v.cs=ab)
  (hH:s.H id=aa (.aC k m gen o hs)) (er:(U k m).size=size) {l:Nat} (fo:cn K.P t u z l bytes) (ah0:v.cs.length=l) (RX:0<l) (L:o[i]? =aa G) (hl:off+l<=G.length)
  {R:List (Nat×Nat×V)} (qW: ∀n ey ea,(n,ey,ea)∈R-> ∃F,(n,ey,F)∈hs/\((n=i/\off<=ey/\ey<off+l)->v.cs[ey-off]? =aa ea)/\(¬(n=i/\off<=ey/\ey<off+l)->ea=F)) (fC: ∀n ey F,(n,ey,F)∈hs-> ∃v1,(n,ey,v1)∈R) (hi2: ∀j,j<l-> ∃F,(i,off+j,F)∈hs):
  dX K ⟨ak,.store t x y,ty,pos,af,g⟩ s {s with H:=bb s.H id (aa (.aC k m gen o R))}:=by
 subst er;intro β a w next Q b5 hk
 have yO:=b5.get x;rw[hx] at yO;have hK:=(b5.heap id _ hH).2;rcases hK.2 with ⟨_,h2,_⟩|⟨b,p,B,h1,h2,h3,h4,h5,h6,lT,mF⟩
 ·rw[h2] at L;simp at L
 obtain⟨h7,iP,mK⟩:=pR yO h1;cases iP;have aL:=(d0.1 L).1;have hrl:G.length=(U k m).size:=h4 G (bX L);have JD:i*(U k m).size+off+l<=p.size:=by
  have:(i+1)*(U k m).size<=o.length*(U k m).size:=dQ _ aL;rw[dN] at this;omega
 have kO:=b5.get y;rw[bR] at kO;obtain⟨c1,c2⟩:=kO.cells yM;have W:(a.eval y).cells.size=l:=c1.trans ah0;have I: ∀e∈(a.eval y).cells.toList,e.oneCell'=ab:=by
  intro e he;obtain⟨j,hj⟩:=jq.1 he;have hj':(a.eval y).cells[j]? =aa e:=by simpa using hj
  have hlt:=(iD.1 hj').1;have bW:=bC (O:j<v.cs.length);exact(c2 j _ e bW hj').hP (F1 nF bW)
 unfold Oper.wp;have yK:=E4 fo w b (i*(U k m).size+off) p _ (a.eval y) h2 W O I;have M:(execOp a.eval ⟨ak,.store t x y,ty,pos,af,g⟩).run K.P w= .ok .skip (w.setRow b (p.toList.take (i*(U k m).size+off)++(a.eval y).cells.toList++p.toList.drop (i*(U k m).size+off+(a.eval y).cells.toList.length)).toArray):=by
  simp only[execOp,mK,Instr.storeAt,Instr.sureAddr,e4,hh,eV,yK]
 rw[M];have hlen:(p.toList.take (i*(U k m).size+off)++(a.eval y).cells.toList++p.toList.drop (i*(U k m).size+off+(a.eval y).cells.toList.length)).length=p.size:=by
  simp[W];omega
 have N:own K β s.H b:= .inr ⟨id,by rw[hH];simp,.inl ⟨_,h1⟩⟩;generalize Y:(p.toList.take (i*(U k m).size+off)++(a.eval y).cells.toList++p.toList.drop (i*(U k m).size+off+(a.eval y).cells.toList.length)).toArray=q at*;have r:q.size=p.size:=by rw[<-Y];simpa using hlen
 have X:Ext (own K β s.H) w (w.setRow b q):=⟨rfl,rfl,rfl,bl,λkk _ hx=>setRow_other _ _ _ _ λe0=>hx (e0▸N)⟩
 have f:Shaped β w (w.setRow b q):=λh7 _=>FG h2 r h7;refine hk β _ _ (Rel.setRow b5 id b (.inl ⟨_,h1⟩) p _ h2 q r (.aC k m gen o R) (by rw[hH];simp) ?_);refine⟨hK.1,.inr ⟨b,q,B,h1,setRow_heap _ _ _ _ _ _ h2,by rw[r];exact h3,h4,λn ey A jP rC aP a2 a3=>?_,h6,lT,mF⟩⟩;have hjs:ey<(U k m).size:=by rw[<-h4 A (bX aP)];exact(d0.1 a2).1
 by_cases qY:n=i/\off<=ey/\ey<off+l
 ·obtain⟨rfl,ahi,ahj⟩:=qY;obtain⟨F,yH⟩:=hi2 (ey-off) O;rw[show off+(ey-off)=ey by omega] at yH;have C:=h5 n ey A jP p[n*(U k m).size+ey] aP a2 (by rw[hT O]);obtain⟨v1,yI⟩:=fC _ _ _ yH;refine⟨λea D=>⟨?_,(C.1 F yH).2⟩,λlX=>br yI (lX v1)⟩;obtain⟨_,_,q2,_⟩:=qW _ _ _ D;have agZ:=q2 ⟨rfl,ahi,ahj⟩
  have:(a.eval y).cells[ey-off]? =aa rC:=by
   rw[<-Y] at a3;simp only[List.getElem?_toArray] at a3;rw[hz (by simp[W];omega),hS ca] at a3;have mD:n*(U k m).size+ey-(p.toList.take (n*(U k m).size+off)).length=ey-off:=by
    rw[c6,l7];omega
   rw[mD] at a3;simpa using a3
  exact(c2 _ _ rC agZ this).mono X (λ_ _ h=>h) (dT.refl _) f
 have hne:n*(U k m).size+ey<i*(U k m).size+off\/i*(U k m).size+off+l<=n*(U k m).size+ey:=by
  rcases Nat.lt_trichotomy n i with h|h|h
  ·have:=dQ (U k m).size (O:n+1<=i);rw[dN] at this;omega
  ·subst h
   have: ¬(off<=ey/\ey<off+l):=λh=>qY ⟨rfl,h⟩;omega
  have:=dQ (U k m).size (O:i+1<=n);rw[dN] at this;omega
 have C:p[n*(U k m).size+ey]? =aa rC:=by
  rw[<-Y] at a3;simp only[List.getElem?_toArray,List.getElem?_append,List.length_append,List.length_take,List.getElem?_take,List.getElem?_drop,Array.length_toList,W] at a3;rw[show min (i*(U k m).size+off) p.size=i*(U k m).size+off by omega] at a3;rcases hne with hlt|kL
  ·rw[bg O,bg O,bg O] at a3;simpa using a3
  rw[be O] at a3;rw[show i*(U k m).size+off+l+(n*(U k m).size+ey-(i*(U k m).size+off+l))=n*(U k m).size+ey by omega] at a3;simpa using a3
 have sT:=h5 n ey A jP rC aP a2 C;have hc1:=sT.mono (β':=β) X (λ_ _ h=>h) (dT.refl _) f λc bW=>setRow_other _ _ _ _ (h6 _ _ _ bW).2.2;refine⟨λea D=>?_,λlX=>hc1.2 λea D=>?_⟩
 ·obtain⟨F,mT,_,rm⟩:=qW _ _ _ D;rw[rm qY];exact hc1.1 F mT
 obtain⟨v1,yI⟩:=fC _ _ _ D;exact lX v1 yI
theorem WZ(x y:Operand)(w i a:Nat)(A:List dw)(m:Nat)(b:List (List T))(e:List T)(v:V)(n:List (Nat×Nat×V))(W:s.get x= .cQ w gen size i a)(X:s.get y=v)(o:v.val=ab)(p:nS v.cs=ab)
  (f:s.H w=aa (.aC A m gen b n)) (I:(U A m).size=size) {c:Nat} (M:cn K.P t u z c bytes) (C:v.cs.length=c) (q:0<c) (D:b[i]? =aa e) (N:a+c<=e.length)
  (F: ∀r k l,(r,k,l)∈n->a<=k->k<a+c->r=i) (G: ∀j,j<c-> ∃l,(i,a+j,l)∈n):
  dX K ⟨ak,.store t x y,ty,pos,af,g⟩ s {s with H:=bb s.H w (aa (.aC A m gen b (u9 a v.cs n)))}:=by refine Le x y w i a A m b e v n W X o p f I M C q D N (λr k ea L=>?_) (λr k l L=>G' L) G;obtain⟨l,Q,Y,g3⟩:=GH L;refine⟨l,Q,λ⟨_,B,h2⟩=>?_,λh=>g3 λ⟨B,h2⟩=>h ⟨F r k l Q B O,B,O⟩⟩;have R:=bC (O:k-a<v.cs.length);rw[R,Y B _ R]
end ops
def Map.sub(a:Map)(k:Nat)(N:Nat->Prop):Map:=⟨a.f,λid b=>a.n id b/\(id=k->N b)⟩
theorem x0{N:Nat->Prop}(h:At (G.sub k N) i b):At G i b:=by
 rcases h with h|h
 ·exact .inl h
 exact .inr h.1
theorem Rel.sub{K:Ctx}{s:S}(h:Rel K β s a w)(k:Nat)(N:Nat->Prop)(e':E)(x:s.H k≠ak)
  (B:c4 (β.sub k N) w (own K (β.sub k N) (bb s.H k (aa e'))) k e'):Rel K (β.sub k N) {s with H:=bb s.H k (aa e')} a w:=by
 have l: ∀b,own K (β.sub k N) (bb s.H k (aa e')) b->own K β s.H b:=by
  rintro b (c|⟨id,m,o⟩)
  ·exact .inl c
  refine .inr ⟨id,λp=>?_,x0 o⟩;by_cases n:id=k
  ·subst n;exact x p
  rw[cu _ _ _ _ n] at m;exact m p
 have y:dT β (β.sub k N):=λ_ _ _ c=> .inl c;refine {h with base:=λid hid=>h.base id hid,dY:=λid hid=>h.dY id hid,eB:=λid b hid q=>h.eB id b hid q.1,inj:=λid r b m o=>h.inj id r b (x0 m) (x0 o),fresh:=λid b q=>h.fresh id b (x0 q),heap:= ?_,dz:=λi=>(h.dz i).mono (Ext.refl _ _) (λb _=>l b) y (Shaped.refl _ _)};intro id e c;have c:bb s.H k (aa e') id=aa e:=c;by_cases n:id=k
 ·subst n;rw[cy] at c;cases c;cases A:s.H id with
  |none=>exact br A x
  |some p=>exact⟨(h.heap id p A).1,B⟩
 rw[cu _ _ _ _ n] at c;obtain⟨m,o⟩:=h.heap id e c;exact⟨m,o.mono (Ext.refl _ _) (λb _=>l b) y (λ_ h=>h) (Shaped.refl _ _) (λ_ _=>rfl) λb=>⟨λh=>h.1,λh=>⟨h,λe=>br e n⟩⟩⟩
theorem Rel.pick{K:Ctx}{s:S}(h:Rel K β s a w)(k:Nat){p:List dw}{gen X:Nat}{r:List (List T)}{f:List (Nat×Nat×V)}(hk:s.H k=aa (.aC p m gen r f))(er:(U p m).size=X)
   {us:Array Value} (dp:β k=aa (aa b,gen)) (bA:w.heap[b]? =aa (.cells us (U p m).ty (0,0)))
  {w':World} {C:Array Value} (hs:C.size=us.size) (ka:w'.heap[b]? =aa (.cells C (U p m).ty (0,0))) (I:Ext (λx=>x=b) w w') (l:List (List T)) (hl:l.length*X<=us.size) (R: ∀o,o∈l->o.length=X)
  (W:Nat) (y:List (Nat×Nat×V)) (oI: ∀i j v,(i,j,v)∈y->W<=i/\v= .c') (ag': ∀i j,W<=i->i<l.length->j<X->(i,j,V.c')∈y) (G:Nat->Nat)
  (aik: ∀i,i<W->i<l.length->G i<r.length/\l[i]? =r[G i]? /\(∀j v,(G i,j,v)∉f)/\ ∀j,j<X->C[i*X+j]? =us[G i*X+j]?) (ahf: ∀i L,i<W->L<W->i<l.length->L<l.length->G i=G L->i=L):
  ∃β',(∀id,β' id=β id)/\Rel K β' {s with H:=bb s.H k (aa (.aC p m gen l y))} a w':=by
 subst er;have M:s.H k≠ak:=by rw[hk];simp
 obtain⟨jj,hK⟩:=(h.heap k _ hk).2;obtain⟨B,kN,Y,Ri,agF,Rh⟩: ∃B:Nat->Nat->Nat->Prop,(∀o,o∈r->o.length=(U p m).size)/\
   (∀(i j:Nat) (o:List T) (x:T) (u:Value),r[i]? =aa o->o[j]? =aa x->us[i*(U p m).size+j]? =aa u->Cell p m f β w (own K β s.H) i j x u (B i j))/\
   (∀i j c,B i j c->i<r.length/\j<(U p m).size/\c≠b)/\(∀i j L ey c,B i j c->B L ey c->i=L/\j=ey)/\ ∀c,β.n k c↔ ∃i j,B i j c:=by
  rcases hK with ⟨A,_⟩|⟨cL,rD,B,A,Q,h3,h4,h5,h6,lT,mF⟩
  ·rw[dp] at A;cases A
  rw[dp] at A;cases A;rw[bA] at Q;cases Q;exact⟨B,h4,h5,h6,lT,mF⟩
 have JN:own K β s.H b:= .inr ⟨k,M,.inl ⟨_,dp⟩⟩;have RA:b<w.heap.size:=(iD.1 bA).1
 -- the block told anew, its rows not told
 have qW:=h.setRow k b (.inl ⟨_,dp⟩) us (U p m).ty bA C hs (.arr (U p m).ty gen 1 []) M ⟨jj,.inr ⟨b,C,dp,setRow_heap _ _ _ _ _ _ bA,bl,bl,λi j o x u A=>by simp at A⟩⟩;have fC:Rel K β {s with H:=bb s.H k (aa (.arr (U p m).ty gen 1 []))} a w':=by
  refine qW.grow ⟨I.os,I.tape,I.output,?_,λx hx _=>?_⟩
  ·have:=I.size;simpa using this
  by_cases e:x=b
  ·subst e;rw[ka,setRow_heap _ _ _ _ _ _ bA]
  rw[setRow_other _ _ _ _ e];exact I.keep x (by simpa using hx) e
 obtain⟨N,gd⟩: ∃N:Nat->Prop,N=λc=> ∃i j,i<W/\i<l.length/\B (G i) j c:=⟨_,rfl⟩
 refine⟨β.sub k N,λ_=>rfl,?_⟩;have hC:=fC.sub k N (.aC p m gen l y) (by show bb s.H k _ k≠ak;rw[cy];simp) ?_
 ·have e:bb (bb s.H k (aa (E.arr (U p m).ty gen 1 []))) k (aa (.aC p m gen l y))=bb s.H k (aa (.aC p m gen l y)):=by
   funext i;by_cases D:i=k
   ·subst D;rw[cy,cy]
   rw[cu _ _ _ _ D,cu _ _ _ _ D,cu _ _ _ _ D]
  have Rj:Rel K _ {s with H:=bb (bb s.H k (aa (E.arr (U p m).ty gen 1 []))) k (aa (.aC p m gen l y))} a w':=hC;rw[e] at Rj;exact Rj
 have gj: ∀x,own K (β.sub k N) (bb (bb s.H k (aa (E.arr (U p m).ty gen 1 []))) k (aa (.aC p m gen l y))) x->own K β s.H x:=by
  rintro x (hx|⟨id,A,Q⟩)
  ·exact .inl hx
  refine .inr ⟨id,λe0=>?_,x0 Q⟩;by_cases D:id=k
  ·subst D;exact M e0
  rw[cu _ _ _ _ D,cu _ _ _ _ D] at A;exact A e0
 have agI:Ext (own K β s.H) w w':=I.weaken λx _ e=>by rw[show x=b from e];exact JN
 refine⟨jj,.inr ⟨b,C,λi j c=>i<W/\i<l.length/\B (G i) j c,dp,ka,O,R,λi j o x u A Q h3=>?_,λi j c bW=>⟨bW.2.1,(Ri _ j c bW.2.2).2⟩,λi j L ey c bW F=>?_,λc=>?_⟩⟩
 ·have qZ:=(d0.1 A).1;have RJ:j<(U p m).size:=by rw[<-R o (bX A)];exact(d0.1 Q).1
  by_cases D:i<W
  ·obtain⟨a0,aP,a2,a3⟩:=aik i D qZ;rw[aP] at A;rw[a3 j RJ] at h3;have bW:=(Y (G i) j o x u A Q h3).2 (a2 j);have F:=bW.mono agI (λx _=>gj x) λc sT=>I.keep c (h.fresh k c (.inr ((Rh c).2 ⟨_,j,sT⟩))).2 (Ri _ j c sT).2.2;exact⟨λv bR=>br (oI _ _ _ bR).1 O,λ_=>F.iff λc=>⟨λq=>q.2.2,λq=>⟨D,qZ,q⟩⟩⟩
  refine⟨λv bR=>?_,λcR=>br (ag' i j O qZ RJ) (cR _)⟩;obtain⟨_,rfl⟩:=oI _ _ _ bR;exact⟨.c' u,λc bW=>D bW.1⟩
 ·obtain⟨e1,e2⟩:=agF _ _ _ _ c bW.2.2 F.2.2;exact⟨ahf i L bW.1 F.1 bW.2.1 F.2.1 e1,e2⟩
 subst gd;constructor
 ·rintro⟨_,Q⟩;obtain⟨i,j,q⟩:=Q rfl;exact⟨i,j,q⟩
 rintro⟨i,j,q⟩;exact⟨(Rh c).2 ⟨_,j,q.2.2⟩,λ_=>⟨i,j,q⟩⟩
def tT(a c b:Nat):List (Nat×Nat×V):=(List.range c).flatMap λi=>(List.range b).map λj=>(a+i,j,.c')
theorem B7{a c:Nat}{v:V}:(i,j,v)∈tT a c n↔a<=i/\i<a+c/\j<n/\v= .c':=by
 unfold tT;simp only[List.mem_flatMap,List.mem_range,List.mem_map,Prod.mk.injEq];constructor
 ·rintro⟨k,e,l,b,rfl,rfl,rfl⟩;exact⟨O,O,b,rfl⟩
 rintro⟨e,b,h,rfl⟩;exact⟨i-a,O,j,h,O,rfl,rfl⟩
theorem fP.hP{c:List dw}{m:Option Nat}{x:T}{v:Value}{N:Nat->Prop}(h:fP c w X m x v N):v.oneCell'=ab:=by
 cases h with
 |fm _ _ _ h _=>exact h.hP
 |nil=>rfl
 |own=>rfl
theorem Mj{a:Array Value}:Ext (λx=>x=b) w (w.setRow b a):=⟨rfl,rfl,rfl,bl,λ_ _ c=>setRow_other _ _ _ _ c⟩
def E.gen?:E->Option Nat
 | .cells _=>ak
 | .arr _ gen _ _=>aa gen
 | .aC _ _ gen _ _=>aa gen
theorem xW{g:Nat}{T:E}(b:T.gen? =aa g)(h:c4 G w X i T):1<=g/\ ∃q,G i=aa (q,g):=by
 cases T with
 |cells cs=>cases b
 |arr ty gen size a=>cases b;exact⟨h.1,l3 h⟩
 |aC c m gen a e=>cases b;exact⟨h.1,rN h⟩
section oa
variable {P:Program}{H:Nat->Option E}{d:Option Tmp}{ty:TypeId}{pos:String}{af:Array Edge}{g:Option (Nat×Bool)}
variable {t:TypeId}{u:TypeDesc}{z:Value}{size bytes:Nat}
def qJ(c:Nat)(h i:Option Operand)(e:Operand->Value)(a b:Nat):Prop:=
 (match h with|some x=>e x= .int .i64 (a:Nat)|none=>a=0)/\(match i with|some x=>e x= .int .i64 (b:Nat)|none=>b=c)
theorem B'{P:Program}{len a:Nat}{k e:Option Operand}{c:Operand->Value}(h:qJ len k e c a b)(n:a<=b)(o:b<=i)(w:World):(Instr.sliceBounds ab len i (k.map c) (e.map c) ak).run P w= .ok (a,b,i) w:=by
 obtain⟨m,l⟩:=h;cases k with
 |none=>
  have m:a=0:=m;subst m;cases e with
  |none=>
   have l:b=len:=l;subst l;simp[Instr.sliceBounds]
  |some y=>
   have l:c y=_:=l;simp[Instr.sliceBounds,l,jz w b i _ o]
 |some x=>
  have m:c x=_:=m;cases e with
  |none=>
   have l:b=len:=l;subst l;simp[Instr.sliceBounds,m,jz w a b _ n]
  |some y=>
   have l:c y=_:=l;simp[Instr.sliceBounds,m,l,jz w b i _ o,jz w a b _ n]
theorem aeD(x:Operand)(r y:Option Operand)(e:TypeId)(m gen h c a b:Nat)(Q:E)(v:H m=aa Q)(I:Q.gen? =aa gen)(R:P.underlying t=aa (.slice e))(W:cn P e u z size bytes)
  (M:a<=b) (h2:b<=c) (h3:a=0\/a<c) {i:List V} (N: ∀A w X (k:Operand->Value),dr A w X i (r.toList.map k++y.toList.map k)->qJ c r y k a b):
  cw P H ⟨d,.slice t x r y ak,ty,pos,af,g⟩ (.bf m gen size h c::i) (.bf m gen size (h+a) (b-a)):=by
 intro A w X k T D;obtain⟨B,q,F⟩:=xW I (T m _ v);have D:dr A w X (.bf m gen size h c::i) (k x::(r.toList.map k++y.toList.map k)):=by
  cases r<;>cases y<;>simpa[Op.operands] using D
 have C:qJ c r y k a b:=N A w X k D.2;have U:bB A w X (.bf m gen size h c) (k x):=D.1;rcases ff U F with ⟨l,f,n,G,o,p,Y,hs,cR,hl,hm⟩|⟨p,h0,L,o⟩
 ·subst p;refine⟨.slice (aa ⟨f,(h+a)*size,ak⟩) (b-a) (l-a),?_,.bf m gen size (h+a) (b-a) (l-a) f n G B F Y hs (by rw[<-cR];congr 1;omega) O O⟩;simp only[execOp,e4,Instr.sliceAt,Instr.slice,run_underlying R,eV,o,Option.map_none,gP,B' C M (O:b<=l),W.run_sizeOf,hh];by_cases j:l=a
  ·rw[bg j]
   grind
  rw[be j];simp[jC,Nat.add_mul]
 subst p;subst h0;subst L;have e1:b=0:=O
 have e2:a=0:=O
 subst e1;subst e2;refine⟨.slice ak 0 0,?_,.hq m gen size B F⟩;simp only[execOp,e4,Instr.sliceAt,Instr.slice,run_underlying R,eV,o,Option.map_none,B' C (Nat.le_refl _) (Nat.le_refl 0),W.run_sizeOf,hh];simp
def FA(c:E)(gen a:Nat)(b:List (List T)):Prop:=(∃e,c= .arr e gen a b)\/ ∃h m i,c= .aC h m gen b i/\(U h m).size=a
theorem FA.tQ{gen:Nat}{a:List (List T)}{c:E}(h:FA c gen i a)(k:c4 G w X n c):
  (G n=aa (ak,gen)/\a=[])\/ ∃b p ty,G n=aa (aa b,gen)/\w.heap[b]? =aa (.cells p ty (0,0))/\a.length*i<=p.size:=by
 rcases h with ⟨e,rfl⟩|⟨r,m,x,rfl,rfl⟩
 ·rcases k.2 with ⟨l,o⟩|⟨b,p,l,o,q,_⟩
  ·exact .inl ⟨l,o⟩
  exact .inr ⟨b,p,e,l,o,q⟩
 rcases k.2 with ⟨l,o,_⟩|⟨b,p,B,l,o,q,_⟩
 ·exact .inl ⟨l,o⟩
 exact .inr ⟨b,p,_,l,o,q⟩
theorem OU(x:Operand)(p q:Option Operand)(e:TypeId)(m gen c h a b:Nat)(l:List (List T))(F:E)(M:H m=aa F)(N:F.gen? =aa gen)(U:FA F gen size l)(Y:P.underlying t=aa (.slice e))(he:cn P e u z size bytes)
  (hp:0<size) (h1:a<b) (j:c+b<=l.length) {i:List V} (bA: ∀r w X (k:Operand->Value),dr r w X i (p.toList.map k++q.toList.map k)->qJ h p q k a b):
  cw P H ⟨d,.slice t x p q ak,ty,pos,af,g⟩ (.bf m gen size c h::i) (.bf m gen size (c+a) (b-a)):=by
 intro r w X k kK D;have y:=kK m _ M;have G:1<=gen:=(xW N y).1;have D:dr r w X (.bf m gen size c h::i) (k x::(p.toList.map k++q.toList.map k)):=by
  cases p<;>cases q<;>simpa[Op.operands] using D
 have L:qJ h p q k a b:=bA r w X k D.2;have hx:bB r w X (.bf m gen size c h) (k x):=D.1;rcases U.tQ y with ⟨Q,R⟩|⟨v,us,_,Q,g2,g3⟩
 ·subst R;simp at j;omega
 rcases ff hx Q with ⟨cap,h7,n,W,f,o,hw,A,I,hl,hm⟩|⟨o,_⟩
 ·cases o;have B:us.size=n:=by
   unfold iZ at A;rw[g2] at A;simp at A;exact A.2
  have C:b<=cap:=by
   have h3:(c+b)*size<=(c+cap)*size:=by
    rw[I,<-B];exact eO (dQ _ j) g3
   have:=Nat.le_of_mul_le_mul_right h3 hp;omega
  refine⟨.slice (aa ⟨v,(c+a)*size,ak⟩) (b-a) (cap-a),?_,.bf m gen size (c+a) (b-a) (cap-a) v n W G Q hw A (by rw[<-I];congr 1;omega) O O⟩;simp only[execOp,e4,Instr.sliceAt,Instr.slice,run_underlying Y,eV,f,Option.map_none,gP,B' L (O:a<=b) C,he.run_sizeOf,hh];rw[be (show¬cap=a by omega)];simp[jC,Nat.add_mul]
 cases o
theorem adA(x:Operand)(m o:Option Operand)(e:TypeId)(p gen c l b a:Nat)(F:E)(L:H p=aa F)(Q:F.gen? =aa gen)(R:P.underlying t=aa (.slice e))(W:cn P e u z size bytes)
  (U:a<=b) {h:List V} (f: ∀r w X (i:Operand->Value),dr r w X h (m.toList.map i++o.toList.map i)->qJ b m o i a a):
  cw P H ⟨d,.slice t x m o ak,ty,pos,af,g⟩ (.bf p gen c l b::h) (.t (.bG [])):=by
 intro r w X i j y;obtain⟨v,q,I⟩:=xW Q (j p _ L);have y:dr r w X (.bf p gen c l b::h) (i x::(m.toList.map i++o.toList.map i)):=by
  cases m<;>cases o<;>simpa[Op.operands] using y
 have B:qJ b m o i a a:=f r w X i y.2;have M:bB r w X (.bf p gen c l b) (i x):=y.1;obtain⟨A,cap,k,G⟩: ∃A cap,i x= .slice A b cap/\b<=cap:=by
  rcases ff M I with ⟨cap,Y,n,N,k,C,hw,hs,cR,T,hm⟩|⟨C,h0,D,k⟩
  ·exact⟨_,cap,k,T⟩
  exact⟨ak,0,by rw[D];exact k,O⟩
 refine⟨.slice (if cap=a then A else A.map (·.add (a*size))) (a-a) (cap-a),?_,.t _ _ (by rw[kX];exact .gh _ _)⟩;simp only[execOp,e4,Instr.sliceAt,Instr.slice,run_underlying R,eV,k,Option.map_none,B' B (Nat.le_refl _) (O:a<=cap),W.run_sizeOf,hh]
theorem Xu(x:Operand)(e gen a i c:Nat)(h:E)(m:H e=aa h)(n:h.gen? =aa gen):cw P H ⟨d,.nilCheck x,ty,pos,af,g⟩ [.cQ e gen a i c] (.cQ e gen a i c):=by intro o w X k p r;obtain⟨y,q,A⟩:=xW n (p e _ m);have l:bB o w X (.cQ e gen a i c) (k x):=r.1;obtain⟨b,_,B⟩:=pR l A;exact⟨k x,by simp[execOp,B],l⟩
theorem aaw(x C D F:Operand)(e:TypeId)(o gen h l i a b c:Nat)(G:E)(R:H o=aa G)(W:G.gen? =aa gen)(f:P.underlying t=aa (.slice e))(j:cn P e u z size bytes)
  (v:a<=b) (I:b<=c) (h3:c<=i):cw P H ⟨d,.slice t x (aa C) (aa D) (aa F),ty,pos,af,g⟩ [.bf o gen h l i,.t (.int .i64 (a:Nat)),.t (.int .i64 (b:Nat)),.t (.int .i64 (c:Nat))] .c':=by
 intro M w X m N p;obtain⟨T,q,U⟩:=xW W (N o _ R);have V:bB M w X (.bf o gen h l i) (m x):=p.1;have y:m C=_:=dO p.2.1;have Y:m D=_:=dO p.2.2.1;have L:m F=_:=dO p.2.2.2.1;obtain⟨r,cap,k,Q⟩: ∃r cap,m x= .slice r i cap/\i<=cap:=by
  rcases ff V U with ⟨cap,h7,n,iB,k,A,hw,hs,cR,y,L⟩|⟨A,h0,B,k⟩
  ·exact⟨_,cap,k,y⟩
  exact⟨ak,0,by rw[B];exact k,O⟩
 refine⟨.slice (if c=a then r else r.map (·.add (a*size))) (b-a) (c-a),?_,.c' _⟩;simp[execOp,k,y,Y,L,Instr.sliceAt,Instr.slice,run_underlying f,Instr.sliceBounds,jz w c cap _ O,jz w b c _ I,jz w a b _ v,j.run_sizeOf]
end oa
section steps
variable {K:Ctx}{s:S}{d:Option Tmp}{ty:TypeId}{pos:String}{af:Array Edge}{g:Option (Nat×Bool)}
variable {t:TypeId}{u:TypeDesc}{z:Value}{size bytes gen:Nat}
theorem Ov{D:Map}(R:Rel K D s a w)(q b:Nat)(e:TypeId)(o c:List (List T))(r n:Array Value)(G:s.H q=aa (.arr e gen size o))(y:D q=aa (aa b,gen))(p:w.heap[b]? =aa (.cells r e (0,0)))
  (L:n.size=r.size) (W:c.length*size<=r.size) (A: ∀l,l∈c->l.length=size)
  (bW: ∀(i j:Nat) (l:List T) (x:T) (u:Value),c[i]? =aa l->l[j]? =aa x->n[i*size+j]? =aa u->(∃(F:Nat) (m:List T),o[F]? =aa m/\m[j]? =aa x/\r[F*size+j]? =aa u)\/(∀w X,c8 w X x u)):
  Rel K D {s with H:=bb s.H q (aa (.arr e gen size c))} a (w.setRow b n):=by
 refine Rel.setRow R q b (.inl ⟨_,y⟩) r e p n L (.arr e gen size c) (by rw[G];simp) ?_;have Q:own K D s.H b:= .inr ⟨q,by rw[G];simp,.inl ⟨_,y⟩⟩;have B:=(R.heap q _ G).2;refine⟨B.1,.inr ⟨b,n,y,setRow_heap _ _ _ _ _ _ p,O,A,λi j l x u aP a2 a3=>?_⟩⟩;rcases bW i j l x u aP a2 a3 with ⟨F,m,v,I,M⟩|bW
 ·rcases B.2 with ⟨C,_⟩|⟨cL,N,C,f,h3,h4,U⟩
  ·rw[y] at C;cases C
  rw[y] at C;cases C;rw[p] at f;cases f;exact(U F j m x u v I M).mono ⟨rfl,rfl,rfl,bl,λk _ V=>setRow_other _ _ _ _ λY=>V (Y▸Q)⟩ λ_ _ h=>h
 exact bW _ _
theorem Rel.zD(h:Rel K β s a w)(b:Nat)(c:E)(k:s.H b=aa c):Rel K β {s with H:=bb s.H b (aa c)} a w:=by
 have:bb s.H b (aa c)=s.H:=by
  funext i;by_cases e:i=b
  ·subst e;rw[cy,k]
  rw[cu _ _ _ _ e]
 rw[this];exact h
end steps
end
section
def dx{k:Type}(f:Nat->k):List (Nat×k)->Nat->k
 | []=>f
 |(d,v)::r=>dx (bb f d v) r
theorem mM{k:Type}: ∀(l:List (Nat×k)) (f:Nat->k) (r:Nat),(∀v,(r,v)∉l)->dx f l r=f r
 | [],_,_,_=>rfl
 |(d,v)::l,f,r,h=>by rw[dx,mM l _ r λa b=>h a (eW _ b),cu _ _ _ _ (by intro e;subst e;exact h v (fi ..))]
theorem B6{k:Type}: ∀(l:List (Nat×k)) (f g:Nat->k) (r:Nat),(∃v,(r,v)∈l)->dx f l r=dx g l r
 | [],_,_,_,⟨v,h⟩=>by simp at h
 |(d,v)::l,f,g,r,h=>by
  simp only[dx];by_cases b: ∃a,(r,a)∈l
  ·exact B6 l _ _ r b
  have c:r=d:=by
   obtain⟨a,bR⟩:=h;rcases eg.1 bR with e|bR
   ·cases e;rfl
   exact br ⟨a,bR⟩ b
  subst c;rw[mM l _ r λa bR=>b ⟨a,bR⟩,mM l _ r λa bR=>b ⟨a,bR⟩,cy,cy]
structure dd where
 ts:List (Nat×V)
 hs:List (Nat×Option E):=[]
 us:List (Nat×Bool):=[]
def dd.app(e:dd)(s:S):S:={t:=dx s.t e.ts,H:=dx s.H e.hs,u:=dx s.u e.us}
structure gR where
 ts:List Nat
 pL:List Nat:=[]
def gR.same(r:gR)(s a:S):Prop:=(∀i,i∈r.ts->s.t i=a.t i)/\ ∀k,k∈r.pL->s.H k=a.H k/\s.u k=a.u k
def iq(K:Ctx)(ops:Array Oper)(o:Oper)(s e:S):Prop:=
 ∀h a w next Q,Rel K h s a w->(∀b c d,Rel K b e c d->next c d)->
  if Region.wanted o (yielded ops a.tmps) then o.wp K.P a w next Q\/(o.asks K.P a w/\LetsOut Q) else next (a.put o.dst undef) w
variable {K:Ctx}{ops:Array Oper}{o:Oper}{s:S}{j t:Nat}{want:Bool}
theorem iq.of{b:S}(c:o.guard=ak)(h:dX K o s b):iq K ops o s b:=by
 intro β a w next Q d e
 rw[bg (by simp[Region.wanted,c])];exact .inl (h β a w next Q d e)
theorem iq.fu{s':S}(c:o.guard=aa (j,want))(d:(ops[j]?).bind (·.dst)=aa t)(e:s.t t= .t (.bool want))(h:dX K o s s'):iq K ops o s s':=by
 intro β a w next Q b i
 have k:yielded ops a.tmps j=aa want:=by unfold yielded;rw[d];simp[b.bool e]
 rw[bg (by simp[Region.wanted,c,k])];exact .inl (h β a w next Q b i)
theorem iq.out(c:o.guard=aa (j,want))(d:(ops[j]?).bind (·.dst)=aa t)(e:s.t t= .t (.bool (!want)))(h: ∀i,o.dst=aa i->dn i K.nt=ab):iq K ops o s (s.put o.dst (.bY [])):=by
 intro k a w next Q b l
 have m:yielded ops a.tmps j=aa (!want):=by unfold yielded;rw[d];simp[b.bool e]
 rw[be (by simp[Region.wanted,c,m])];exact l k _ w (b.put o.dst h Oj)
theorem iq.skip(c:o.guard=aa (j,want))(d:(ops[j]?).bind (·.dst)=aa t)(e:s.t t= .bY [])(h: ∀i,o.dst=aa i->dn i K.nt=ab):iq K ops o s (s.put o.dst (.bY [])):=by
 intro k a w next Q b l
 have hw:=b.ajv (ops:=ops) (want:=want) d e;rw[be (by simp[Region.wanted,c,hw])];exact l k _ w (b.put o.dst h Oj)
def hb{k:Type}:List (List (Nat×k))->Nat->(Nat->Bool)->(Nat->k)->Nat->k
 | [],_,_,f=>f
 |l::cb,i,L,f=>hb cb (i+1) L (bif L i then dx f l else f)
theorem Ap{k:Type}: ∀(cb:List (List (Nat×k))) (i:Nat) (L a:Nat->Bool) (f b:Nat->k) (r:Nat),f r=b r->(∀j l,cb[j]? =aa l->(∃v,(r,v)∈l)->L (i+j)=a (i+j))->hb cb i L f r=hb cb i a b r
 | [],_,_,_,_,_,_,h,_=>h
 |l::cb,i,L,a,f,b,r,h,e=>by
  simp only[hb];refine Ap cb (i+1) L a _ _ r ?_ λj m n c=>by have:=e (j+1) m n c;rwa [show i+(j+1)=i+1+j by omega] at this
  by_cases d: ∃v,(r,v)∈l
  ·have:=e 0 l rfl d;rw[nV] at this;rw[<-this];cases L i with
   |true=>exact B6 l _ _ r d
   |false=>exact h
  have o: ∀g:Nat->k,dx g l r=g r:=λg=>mM l g r λv c=>d ⟨v,c⟩;cases L i<;>cases a i<;>simp only[cond_true,cond_false,o]<;>exact h
theorem NI{R:Type}: ∀(cb:List (List (Nat×R))) (i:Nat) (L:Nat->Bool) (f:Nat->R) (r k:Nat) (l:List (Nat×R)),cb[k]? =aa l->(∃v,(r,v)∈l)->L (i+k)=ab->
  (∀j d,k<j->cb[j]? =aa d->(∃v,(r,v)∈d)->L (i+j)=al)-> ∀g:Nat->R,hb cb i L f r=dx g l r
 |e::cb,i,L,f,r,0,l,b,h,m,a,g=>by
  simp at b;subst b;simp only[hb];rw[nV] at m;rw[m,cond_true,Ap cb (i+1) L (λ_=>al) (dx f e) (dx g e) r (B6 e _ _ r h) (λj d n c=>by
   have:=a (j+1) d O n c
   rwa [show i+(j+1)=i+1+j by omega] at this)]
  have o: ∀(cb:List (List (Nat×R))) (i:Nat) (f:Nat->R),hb cb i (λ_=>al) f=f:=by
   intro cb;induction cb with
   |nil=>intro _ _;rfl
   |cons l cb p=>intro i f;simp only[hb,cond_false];exact p _ _
  rw[o]
 |e::cb,i,L,f,r,k+1,l,b,h,m,a,g=>by
  simp at b;simp only[hb];exact NI cb (i+1) L _ r k l b h (by rwa [show i+1+k=i+(k+1) by omega]) (λj d q n c=>by
   have:=a (j+1) d O n c
   rwa [show i+(j+1)=i+1+j by omega] at this) g
 | [],_,_,_,_,_,_,b,_,_,_,_=>by simp at b
def iE(a:List dd)(i:Nat)(L:Nat->Bool)(s:S):S:={t:=hb (a.map (·.ts)) i L s.t,H:=hb (a.map (·.hs)) i L s.H,u:=hb (a.map (·.us)) i L s.u}
def mN(a:Array Oper):Nat->Nat->Nat->Bool
 |0,_,_=>al
 |f+1,i,j=>match a[j]? with
  |none=>al
  |some o=>o.after.toList.any λe=>Region.binds .any e&&(b8 e.on i||mN a f i e.on)
def qo{k:Type}(l:List (Nat×k))(r:List Nat):Bool:=l.any λp=>r.any λx=>b8 p.1 x
def rq{k R:Type}(l:List (Nat×k))(m:List (Nat×R)):Bool:=l.any λp=>m.any λq=>b8 p.1 q.1
def lC(e:dd)(r:gR)(a:dd)(b:gR):Bool:=
 qo e.ts b.ts||qo a.ts r.ts||rq e.ts a.ts||qo e.hs b.pL||qo a.hs r.pL||rq e.hs a.hs||qo e.us b.pL||qo a.us r.pL||rq e.us a.us
def mS(b:Array Oper)(n:Nat):Nat->List (dd×gR)->Bool
 |_,[]=>ab
 |i,(e,r)::a=>go i e r (i+1) a&&mS b n (i+1) a
where
 go (i:Nat) (e:dd) (r:gR):Nat->List (dd×gR)->Bool
  |_,[]=>ab
  |j,(c,d)::a=>(!lC e r c d||mN b n i j)&&go i e r (j+1) a
def r3:Nat->List Oper->Bool
 |_,[]=>ab
 |i,o::a=>o.after.toList.all (λe=> !Region.binds .any e||dn e.on i)&&r3 (i+1) a
theorem N1{b:Array Oper}{n i:Nat}{e:dd}{r:gR}: ∀(l:List (dd×gR)) (j:Nat),mS.go b n i e r j l=ab-> ∀(k:Nat) a c,l[k]? =aa (a,c)->lC e r a c=ab->mN b n i (j+k)=ab
 | [],_,_,_,_,_,h,_=>by simp at h
 |(o,p)::l,j,h,0,a,c,d,m=>by
  simp at d;obtain⟨rfl,rfl⟩:=d;simp only[mS.go,cB,m,Bool.not_true,Bool.false_or] at h;exact h.1
 |(o,p)::l,j,h,k+1,a,c,d,m=>by
  simp at d;simp only[mS.go,cB] at h
  have:=N1 l (j+1) h.2 k a c d m
  rwa [show j+1+k=j+(k+1) by omega] at this
theorem Ar{b:Array Oper}{n:Nat}: ∀(l:List (dd×gR)) (a:Nat),mS b n a l=ab-> ∀(i j:Nat) e r c d,l[i]? =aa (e,r)->l[j]? =aa (c,d)->i<j->lC e r c d=ab->mN b n (a+i) (a+j)=ab
 | [],_,_,_,_,_,_,_,_,h,_,_,_=>by simp at h
 |(q,s)::l,a,h,0,j,e,r,c,d,k,m,o,p=>by
  simp at k;obtain⟨rfl,rfl⟩:=k;simp only[mS,cB] at h;cases j with
  |zero=>omega
  |succ j=>
   simp at m
   have:=N1 l (a+1) h.1 j c d m p
   rwa [show a+1+j=a+(j+1) by omega] at this
 |(q,s)::l,a,h,i+1,j,e,r,c,d,k,m,o,p=>by
  simp only[mS,cB] at h;cases j with
  |zero=>omega
  |succ j=>
   simp at k m
   have:=Ar l (a+1) h.2 i j e r c d k m O p
   rwa [show a+1+i=a+(i+1) by omega,show a+1+j=a+(j+1) by omega] at this
theorem ZB(e:dd)(r:gR)(c:dd)(d:gR):lC e r c d=lC c d e r:=by
 have n: ∀{i k:Type} (l:List (Nat×i)) (m:List (Nat×k)),rq l m=rq m l:=by
  intro i k l m;rw[gM];simp only[rq,List.any_eq_true];constructor
  ·rintro⟨p,a,q,b,h⟩;exact⟨q,b,p,a,by have:=dc h;simp[this]⟩
  rintro⟨p,a,q,b,h⟩;exact⟨q,b,p,a,by have:=dc h;simp[this]⟩
 unfold lC
 grind
def P'(b:Array Oper)(a:Array Bool):Prop:= ∀j o,b[j]? =aa o->a.getD j ab=ab-> ∀e∈o.after,Region.binds .any e=ab->a.getD e.on al=ab
theorem KM{c:Array Oper}{a:Array Bool}(n:P' c a): ∀(f i j:Nat),mN c f i j=ab->(∀o,c[j]? =aa o-> ∀e∈o.after,Region.binds .any e=ab->a.getD e.on al=ab)->a.getD i al=ab
 |0,_,_,h,_=>by simp[mN] at h
 |f+1,i,j,h,p=>by
  unfold mN at h;cases l:c[j]? with
  |none=>rw[l] at h;simp at h
  |some o=>
   rw[l] at h;simp only[List.any_eq_true,cB,Bool.or_eq_true] at h;obtain⟨e,q,r,d⟩:=h;have hl:=p o l e (by simpa using q) r;rcases d with d|d
   ·have:=dc d;rw[<-this];exact hl
   refine KM n f i e.on d λs m=>n e.on s m ?_;rw[rH] at hl⊢;cases k:a[e.on]? with
   |none=>rw[k] at hl;simp at hl
   |some b=>rw[k] at hl;simpa using hl
def xl(K:Ctx)(a:Array Oper):List Oper->List (dd×gR)->S->(S->Prop)->Prop
 | [],[],s,Q=>Q s
 |o::os,(e,r)::c,s,Q=>(∀b,r.same b s->iq K a o b (e.app b))/\xl K a os c (e.app s) Q
 |_,_,_,_=>False
end
set_option linter.unusedVariables false
set_option linter.unusedSimpArgs false
section
theorem Mf{k:Type}: ∀(cb:List (List (Nat×k))) (i:Nat) (L:Nat->Bool) (f:Nat->k),hb cb (i+1) L f=hb cb i (λj=>L (j+1)) f
 | [],_,_,_=>rfl
 |l::cb,i,L,f=>by simp only[hb];exact Mf cb (i+1) L _
theorem GF(e:dd)(a:List dd)(L:Nat->Bool)(s:S):iE (e::a) 0 L s=iE a 0 (λj=>L (j+1)) (bif L 0 then e.app s else s):=by unfold iE;simp only[hg,hb,Nat.zero_add,Mf];cases L 0<;>rfl
theorem AB{K:Ctx}{b:Array Oper}: ∀(l:List Oper) (es:List (dd×gR)) (s:S) (Q:S->Prop),xl K b l es s Q->
  l.length=es.length/\Q (iE (es.map (·.1)) 0 (λ_=>ab) s)/\
  ∀(i:Nat) o e r,l[i]? =aa o->es[i]? =aa (e,r)-> ∀c,r.same c (iE (es.map (·.1)) 0 (λj=>dn j i) s)->iq K b o c (e.app c)
 | [],[],s,Q,h=>⟨rfl,h,λi o e r d=>by simp at d⟩
 |o::os,(e,r)::es,s,Q,h=>by
  obtain⟨p,q⟩:=h;obtain⟨aP,a2,a3⟩:=AB os es _ Q q;refine⟨by simp[aP],?_,?_⟩
  ·simp only[hg,GF,cond_true];exact a2
  intro i w x y d k c a;cases i with
  |zero=>
   simp at d k;obtain⟨rfl,rfl⟩:=k;subst d;refine p c ?_
   have:iE (List.map (·.1) ((e,r)::es)) 0 (λj=>dn j 0) s=s:=by
    simp only[hg,GF];have m: ∀{n:Type} (cb:List (List (Nat×n))) (i:Nat) (f:Nat->n),hb cb i (λj=>dn (j+1) 0) f=f:=by
     intro n cb;induction cb with
     |nil=>intro _ _;rfl
     |cons l cb z=>intro i f;simp only[hb];exact z _ _
    show iE (es.map (·.1)) 0 (λj=>dn (j+1) 0) s=s;unfold iE;simp only[m]
   rw[this] at a;exact a
  |succ i=>
   simp at d k;refine a3 i w x y d k c ?_;simp only[hg,GF] at a;exact a
 | [],_::_,_,_,h=>h.elim
 |_::_,[],_,_,h=>h.elim
variable {k:Type}{r:gR}{x n i:Nat}{v:k}{a:Array Bool}{e:dd}
theorem Gf{l:List (Nat×k)}{r:List Nat}(h:(x,v)∈l)(a:x∈r):qo l r=ab:=by unfold qo;rw[iW];exact⟨(x,v),h,by rw[iW];exact⟨x,a,bl⟩⟩
theorem Fj{R:Type}{l:List (Nat×k)}{m:List (Nat×R)}{a:R}(h:(x,v)∈l)(b:(x,a)∈m):rq l m=ab:=by unfold rq;rw[iW];exact⟨(x,v),h,by rw[iW];exact⟨(x,a),b,bl⟩⟩
section
variable {K:Ctx}{l:List Oper}{es:List (dd×gR)}{s:S}
theorem Hb{c:Array Oper}(proj:dd->List (Nat×k))(H:mS c n 0 es=ab)(L:es[i]? =aa (e,r))(f:Nat->k)(x:Nat)
  (o: ∀d h v,(x,v)∈proj d->lC e r d h=ab)
  (q: ∀j,mN c n j i=ab->a.getD j al=ab) (w: ∀j,j<es.length->mN c n i j=ab->a.getD j ab=al) (A:a.getD i ab=al):
  hb ((es.map (·.1)).map proj) 0 (λj=>a.getD j ab) f x=hb ((es.map (·.1)).map proj) 0 (λj=>dn j i) f x:=by
 refine Ap _ 0 _ _ f f x rfl ?_;intro j W m ⟨v,Q⟩;rw[dy];simp only[List.map_map,List.getElem?_map] at m;cases y:es[j]? with
 |none=>rw[y] at m;cases m
 |some p=>
  obtain⟨d,h⟩:=p;rw[y] at m;simp at m;subst m;have B:j<es.length:=(d0.1 y).1;rcases Nat.lt_trichotomy j i with z|rfl|C
  ·have bA:=Ar es 0 H j i d h e r y L z (by rw[ZB];exact o d h v Q);rw[dy,dy] at bA;have D:=q j bA;have R:dn j i=ab:=by simpa[Nat.blt_eq] using z
   rw[R];rw[rH] at D⊢;cases F:a[j]? with
   |none=>rfl
   |some b=>rw[F] at D;simpa using D
  ·rw[A];symm;cases bA:dn j j with
   |false=>rfl
   |true=>simp[Nat.blt_eq] at bA
  have bA:=Ar es 0 H i j e r d h L y C (o d h v Q);rw[dy,dy] at bA;rw[w j B bA];symm;cases G:dn j i with
  |false=>rfl
  |true=>simp[Nat.blt_eq] at G;omega
theorem Gq{b:Array Oper}(proj:dd->List (Nat×k))(L:mS b n 0 es=ab)(F:es[i]? =aa (e,r))(f:Nat->k)(y:i<a.size)
  (z: ∀x h w v Q,(x,v)∈proj h->(x,Q)∈proj e->lC e r h w=ab) (m: ∀j,j<es.length->mN b n i j=ab->a.getD j ab=al) (R:a.getD i ab=al):
  dx (hb ((es.map (·.1)).map proj) 0 (λj=>a.getD j ab) f) (proj e)=hb ((es.map (·.1)).map proj) 0 (λj=>(a.setIfInBounds i ab).getD j ab) f:=by
 funext x;have o: ∀j,j≠i->(a.setIfInBounds i ab).getD j ab=a.getD j ab:=λj A=>by
  simp[Array.getD_eq_getD_getElem?,Array.getElem?_setIfInBounds_ne (Ne.symm A)]
 have B:(a.setIfInBounds i ab).getD i ab=ab:=by
  simp[Array.getD_eq_getD_getElem?,y]
 have C:((es.map (·.1)).map proj)[i]? =aa (proj e):=by simp[F]
 by_cases G: ∃v,(x,v)∈proj e
 ·obtain⟨H,q⟩:=G;symm;refine NI _ 0 _ f x i (proj e) C ⟨H,q⟩ (by rw[dy];exact B) ?_ _;intro j W A d ⟨v,D⟩;rw[dy,o j O];simp only[List.map_map,List.getElem?_map] at d;cases c:es[j]? with
  |none=>rw[c] at d;cases d
  |some p=>
   obtain⟨h,w⟩:=p;rw[c] at d;simp at d;subst d;have bA:=Ar es 0 L i j e r h w F c A (z x h w v H D q);rw[dy,dy] at bA;exact m j (d0.1 c).1 bA
 rw[mM _ _ _ λv D=>G ⟨v,D⟩];refine Ap _ 0 _ _ f f x rfl ?_
 grind
theorem Mo: ∀(l:List Oper) (a:Nat),r3 a l=ab-> ∀(i:Nat) o,l[i]? =aa o-> ∀e∈o.after,Region.binds .any e=ab->e.on<a+i
 | [],_,_,_,_,h=>by simp at h
 |o::l,a,h,0,m,b=>by
  simp at b;subst b;intro e d k;simp only[r3,cB,List.all_eq_true,Bool.or_eq_true] at h;rcases h.1 e (by simpa using d) with c|c
  ·rw[k] at c;cases c
  simpa[Nat.blt_eq] using c
 |o::l,a,h,i+1,m,b=>by
  simp at b;simp only[r3,cB] at h;intro e d k
  have:=Mo l (a+1) h.2 i m b e d k;omega
theorem acJ{Q:S->Prop}{xM:Exit->Act->World->Prop}(hp:mS l.toArray l.length 0 es=ab)(he:r3 0 l=ab)(cI:xl K l.toArray l es s Q)
  (Jt: ∀g a w,Rel K g (iE (es.map (·.1)) 0 (λ_=>ab) s) a w->xM .normal a w):
  ∀(c:Nat) (b:Array Bool) (y:List Nat),b.size=l.length->y.Nodup->y.length=c->(∀i,b.getD i ab=al↔i∈y)->P' l.toArray b->
   ∀g a w,Rel K g (iE (es.map (·.1)) 0 (λj=>b.getD j ab) s) a w->wpAny K.P .any l.toArray xM c b a w:=by
 obtain⟨hlen,_,ahF⟩:=AB l es s Q cI
 -- if nothing is ready, all is done
 have hall: ∀(b:Array Bool) (y:List Nat),b.size=l.length->(∀i,b.getD i ab=al↔i∈y)->y≠[]->Region.ready .any l.toArray b≠[]:=by
  intro b y G E I;have key: ∀n,(∃i,i∈y/\i<=n)-> ∃m,m∈y/\ ∀j,j<m->j∉y:=by
   intro n;induction n with
   |zero=>rintro⟨i,aL,hle⟩;exact⟨0,by rwa [show i=0 by omega] at aL,λj L=>O⟩
   |succ n mL=>
    rintro⟨i,aL,hle⟩;by_cases h: ∃i,i∈y/\i<=n
    ·exact mL h
    have:i=n+1:=by
     rcases Nat.lt_or_ge i (n+1) with hlt|kL
     ·exact br ⟨i,aL,O⟩ h
     omega
    subst this;exact⟨n+1,aL,λj L ahk=>h ⟨j,ahk,O⟩⟩
  obtain⟨x,hx⟩:=Ep y I;obtain⟨m,hm,aj9⟩:=key x ⟨x,hx,df _⟩;have ahx:=(E m).2 hm;have RQ:m<l.length:=by
   grind
  intro R
  have:m∈Region.ready .any l.toArray b:=by
   rw[mem_ready];refine⟨ahx,l[m],by simp[RQ],λe ag1 W=>?_⟩;have hlt:=Mo l 0 he m l[m] (bC RQ) e ag1 W
   grind
  grind
 have M: ∀(b:Array Bool),(∀i,b.getD i ab=ab)->iE (es.map (·.1)) 0 (λj=>b.getD j ab) s=iE (es.map (·.1)) 0 (λ_=>ab) s:=by
  grind
 intro c;induction c with
 |zero=>
  intro b y G N A E bW g a w b5;have R:y=[]:=nT A;subst R;have C: ∀i,b.getD i ab=ab:=λi=>by
   cases h:b.getD i ab with
   |true=>rfl
   |false=>have:=(E i).1 h;simp at this
  refine⟨?_,Jt g a w (by rw[<-M b C];exact b5)⟩;cases ahN:Region.ready .any l.toArray b with
  |nil=>rfl
  |cons x xs=>
   have:x∈Region.ready .any l.toArray b:=by rw[ahN];simp
   rw[mem_ready] at this;rw[C x] at this;exact br this.1 bl
 |succ c mL=>
  intro b y G N A E bW g a w b5;have I:y≠[]:=by intro e;subst e;simp at A
  refine⟨λh=>br h (hall b y G E I),λi aL=>?_⟩;obtain⟨q,o,ep,X⟩:=mem_ready.1 aL;have qZ:i<l.length:=by
   rcases Nat.lt_or_ge i l.length with h|h
   ·exact h
   rw[Array.getElem?_eq_none (by simpa using h)] at ep;cases ep
  have JH:l[i]? =aa o:=by simpa using ep
  obtain⟨⟨e,r⟩,B⟩: ∃p,es[i]? =aa p:=⟨es[i]' O,by simp[show i<es.length by omega]⟩
  have D: ∀j,mN l.toArray l.length j i=ab->b.getD j al=ab:=λj W=>KM bW _ j i W λDL z=>by rw[ep] at z;cases z;exact X
  have d: ∀j,j<es.length->mN l.toArray l.length i j=ab->b.getD j ab=al:=λj L W=>by
   cases aht:b.getD j ab with
   |false=>rfl
   |true=>
    have F:=KM bW _ i j W λDL z=>bW j DL z aht;have ahW:i<b.size:=O
    simp only[Array.getD_eq_getD_getElem?,Array.getElem?_eq_getElem ahW,Option.getD_some] at F q;rw[q] at F;cases F
  have T:r.same (iE (es.map (·.1)) 0 (λj=>b.getD j ab) s) (iE (es.map (·.1)) 0 (λj=>dn j i) s):=by
   refine⟨λx hx=>?_,λk hk=>⟨?_,?_⟩⟩
   ·exact Hb (·.ts) hp B s.t x (λf zp v bR=>by simp[lC,Gf bR hx]) D d q
   ·exact Hb (·.hs) hp B s.H k (λf zp v bR=>by simp[lC,Gf bR hk]) D d q
   exact Hb (·.us) hp B s.u k (λf zp v bR=>by simp[lC,Gf bR hk]) D d q
  have U:e.app (iE (es.map (·.1)) 0 (λj=>b.getD j ab) s)=iE (es.map (·.1)) 0 (λj=>(b.setIfInBounds i ab).getD j ab) s:=by
   unfold dd.app iE;simp only[S.mk.injEq];refine⟨?_,?_,?_⟩
   ·exact Gq (·.ts) hp B s.t O (λx f zp v ea F h2=>by simp[lC,Fj h2 F]) d q
   ·exact Gq (·.hs) hp B s.H O (λx f zp v ea F h2=>by simp[lC,Fj h2 F]) d q
   exact Gq (·.us) hp B s.u O (λx f zp v ea F h2=>by simp[lC,Fj h2 F]) d q
  have ahE:=ahF i o e r JH B _ T;have ag5: ∀V pf w',Rel K V (e.app (iE (es.map (·.1)) 0 (λj=>b.getD j ab) s)) pf w'->wpAny K.P .any l.toArray xM c (b.setIfInBounds i ab) pf w':=by
   intro V pf w' RZ;rw[U] at RZ;have ahb:=(E i).1 q;refine mL (b.setIfInBounds i ab) (y.erase i) (by simpa using G) (N.erase i) (by rw[List.length_erase_of_mem ahb];omega) (λj=>?_) ?_ V pf w' RZ
   ·rw[N.mem_erase_iff];by_cases L:j=i
    ·subst L;simp[Array.getD_eq_getD_getElem?,show j<b.size by omega]
    simp only[Array.getD_eq_getD_getElem?,Array.getElem?_setIfInBounds_ne (Ne.symm L)]
    have:=E j;rw[rH] at this;rw[this];simp[L]
   intro j DL z L f RE W;by_cases RI:j=i
   ·subst RI;rw[ep] at z;cases z;exact getD_set_true (X f RE W)
   have F:b.getD j ab=ab:=by
    simpa only[Array.getD_eq_getD_getElem?,Array.getElem?_setIfInBounds_ne (Ne.symm RI)] using L
   exact getD_set_true (bW j DL z F f RE W)
  have Y:=ahE g a w (wpAny K.P .any l.toArray xM c (b.setIfInBounds i ab)) xM b5 ag5;unfold wpOp;rw[ep];exact Y
theorem NS{Q:Exit->S->Prop}(c:List (dd×gR))(A:K.P.follows .mixedOrders=ab)(B:mS l.toArray l.length 0 c=ab)(C:r3 0 l=ab)
  (d:xl K l.toArray l c s λD=>Q .normal D):cY K (.region n l.toArray ab) s Q:=by
 intro e a w W k F;obtain⟨_,G,_⟩:=AB l c s _ d;refine wp_region_any A ?_;have m:Rel K e s a {w with drawn:=w.drawn+1}:=xH k;have H:iE (c.map (·.1)) 0 (λj=>(Array.replicate l.toArray.size al).getD j ab) s=s:=by
  have y:=(AB l c s _ d).1;have b: ∀{p:Type} (cb:List (List (Nat×p))) (L:Nat->Bool) (i:Nat) (f:Nat->p),(∀j,j<cb.length->L (i+j)=al)->hb cb i L f=f:=by
   intro p cb L;induction cb with
   |nil=>intro _ _ _;rfl
   |cons x cb R=>
    intro i f h;simp only[hb];have z:=h 0 bl;rw[nV] at z;rw[z,cond_false];exact R (i+1) f λj q=>by have:=h (j+1) ca;rwa [show i+(j+1)=i+1+j by omega] at this
  have r: ∀j,j<c.length->(Array.replicate l.toArray.size al).getD (0+j) ab=al:=λj q=>by
   rw[dy,rH,Array.getElem?_replicate,bg ca];rfl
  unfold iE;rw[b _ _ _ _ (by simpa using r),b _ _ _ _ (by simpa using r),b _ _ _ _ (by simpa using r)]
 refine acJ B C d (λe a w k=>F _ _ _ _ _ G k) l.toArray.size (Array.replicate l.toArray.size al) (List.range l.length) bl List.nodup_range bl (λi=>?_) ?_ e a _ (by rw[H];exact m)
 ·rw[rH,Array.getElem?_replicate,w5]
  grind
 intro j o X q;rw[rH,Array.getElem?_replicate] at q
 grind
end
end
abbrev Y(n:Int):V:= .t (.int .i64 n)
abbrev aW(b:Bool):V:= .t (.bool b)
abbrev cc(s:List UInt8):V:= .t (.str s)
abbrev TA(a:List (List T)):V:= .t (.bG a)
abbrev kf(n:Int):List T:=[.int .i64 n]
abbrev t8(b:UInt8):List T:=[.int .u8 (b.toNat:Nat)]
abbrev ad9(b:Bool):List T:=[.bool b]
def jh(P:Program)(f:FuncId):Prop:= ∃a,P.funcs[f]? =aa a/\(a.name== "runtime.NumGoroutine")=al/\a.body.isNone=al
section
variable {K:Ctx}{s:S}{Q:Exit->S->Prop}
variable {l:List Oper}
theorem LU{b:Array Oper}{Q:S->Prop}{c:S}(k:s.le K c)(h:qy K b l c Q):qy K b l s Q:=
  λm a w n o p=>let ⟨e,i⟩:=k m a w o;h e a w n i p
theorem Vd{i:Nat}(k:S)(h:qy K l.toArray l s λm=>m.le K k)(n:Q .normal k):cY K (.region i l.toArray al) s Q:=by intro o a w p q r;refine wp_region_lit (h o a w p q λm b x y A c=>?_);obtain⟨B,e⟩:=A b x y c;exact r _ _ _ _ _ n e
theorem cw.eq{P:Program}{H:Nat->Option E}{o:Oper}{Y:List V}{v ea:V}(h:cw P H o Y v)(e:v=ea):cw P H o Y ea:=e▸h
section
variable {K:Ctx}{s:S}{d:Option Tmp}{ty:TypeId}{pos:String}{af:Array Edge}{g:Option (Nat×Bool)}
variable {t:TypeId}{u:TypeDesc}{z:Value}{gen size bytes:Nat}
end
end
theorem iN(b:Bool){P:Prop}(a:b=al->P)(c:b=ab->P):P:=by
 cases b with
 |false=>exact a rfl
 |true=>exact c rfl
theorem fH.of_eq{a Y:List V}(h:a=Y):fH a Y:=h▸fH.refl a
section
variable {K:Ctx}{s:S}{ops:Array Oper}{rest:List Oper}{Q:S->Prop}{d:Nat}{ty:TypeId}{pos:String}{af:Array Edge}{j:Nat}{want:Bool}{t:Nat}
end
section
mutual
def V.ej(L:List Nat):V->V
  | .ref id a=> .ref (L.getD id 0) a
  | .bf id gen b a len=> .bf (L.getD id 0) gen b a len
  | .cQ id gen b i a=> .cQ (L.getD id 0) gen b i a
  | .agg cs=> .agg (iT L cs)
  | .bY cs=> .bY (iT L cs)
  | .fn f cs=> .fn f (iT L cs)
  | .t x=> .t x
  | .aU x=> .aU x
  | .c'=> .c'
def iT(L:List Nat):List V->List V
  | []=>[]
  |c::cs=>c.ej L::iT L cs
end
def E.ej(L:List Nat):E->E
  | .cells cs=> .cells (iT L cs)
  | .arr ty gen b a=> .arr ty gen b a
  | .aC Γ m gen a c=> .aC Γ m gen a (c.map λh=>(h.1,h.2.1,h.2.2.ej L))
def E.flat:E->Bool
  | .cells _=>ab
  |_=>al
theorem pG{L:List Nat}: ∀cs:List V,(iT L cs).length=cs.length
  | []=>rfl
  |c::cs=>by simp[iT,pG cs]
theorem G9{L:List Nat}: ∀(cs:List V) (i:Nat),(iT L cs)[i]? =(cs[i]?).map (V.ej L)
  | [],_=>by simp[iT]
  |c::cs,0=>by simp[iT]
  |c::cs,i+1=>by simp[iT,G9 cs i]
variable {L:List Nat}{w:World}{X:Nat->Prop}
theorem AU{Y:List V}{i:Nat}{c:V}(h:(iT L Y)[i]? =aa c): ∃a,Y[i]? =aa a/\c=a.ej L:=by
  rw[G9] at h
  grind
theorem bB.ej{β β':Map}{v:V}{u:Value}(h:bB β w X v u)(e: ∀k x,β k=aa x->β' (L.getD k 0)=aa x):bB β' w X (v.ej L) u:=by
  induction h with
  |t x v h=>exact .t x v h
  |agg cs r o _ s=>exact .agg _ r (by rw[pG];exact o) (λi c u p y=>by obtain⟨z,A,rfl⟩:=AU p;exact s i z u A y)
  |bY cs r o _ s=>exact .bY _ r (by rw[pG];exact o) (λi c u p y=>by obtain⟨z,A,rfl⟩:=AU p;exact s i z u A y)
  |ref id d b l=>exact .ref _ d b (e _ _ l)
  |aU cells b d f l D p F=>exact .aU cells b d f l D p F
  |bf id gen a d len B b n ty m l G H K o Q=>exact .bf _ gen a d len B b n ty m (e _ _ l) G H K o Q
  |hq id gen a m l=>exact .hq _ gen a m (e _ _ l)
  |kd id gen a d len v q g C l m=>exact .kd _ gen a d len v q g C (e _ _ l) m
  |cQ id gen a i d b m l=>exact .cQ _ gen a i d b m (e _ _ l)
  |k' id gen a i d v q g C l m=>exact .k' _ gen a i d v q g C (e _ _ l) m
  |fn f cs r o _ s=>exact .fn f _ r (by rw[pG];exact o) (λi c u p y=>by obtain⟨z,A,rfl⟩:=AU p;exact s i z u A y)
  |c' v=>exact .c' v
def jo(L:List Nat)(a:Map):Map:=⟨λk=>(L[k]?).bind a,λk b=> ∃id,L[k]? =aa id/\a.n id b⟩
def fj:Nat->(Nat->Bool)
  |0=>gG
  |n+1=>bb (fj n) n ab
theorem je: ∀{n k:Nat},fj n k=ab↔k<n
  |0,k=>by simp[fj,gG]
  |n+1,k=>by
    by_cases h:k=n
    · subst h;simp[fj,cy]
    · rw[fj,cu _ _ _ _ h,je];omega
mutual
theorem bB.p2{β:Map}{w:World}{X:Nat->Prop}{L:List Nat}: ∀(v:V) (u:Value),bB β w X (v.ej L) u->v.ok (fj L.length)=ab->bB (jo L β) w X v u
  | .t x,u,h,_=>by
    simp only[V.ej] at h;cases h with|t _ _ h=>exact .t _ _ h
  | .aU x,u,h,_=>by
    simp only[V.ej] at h;cases h with|aU _ b l f a D r s=>exact .aU _ b l f a D r s
  | .c',u,_,_=> .c' u
  | .ref id l,u,h,d=>by
    have e:id<L.length:=je.1 (by simpa[V.ok] using d);have o:jo L β id=β (L.getD id 0):=by simp[jo,List.getElem?_eq_getElem e]
    simp only[V.ej] at h;cases h with|ref _ _ b a=>exact .ref _ _ b (by rw[o];exact a)
  | .bf id gen y l len,u,h,d=>by
    have e:id<L.length:=je.1 (by simpa[V.ok] using d);have o:jo L β id=β (L.getD id 0):=by simp[jo,List.getElem?_eq_getElem e]
    simp only[V.ej] at h;cases h with
    |bf _ _ _ _ _ A b n ty m a F k G d B=>exact .bf _ _ _ _ _ A b n ty m (by rw[o];exact a) F k G d B
    |hq _ _ _ m a=>exact .hq _ _ _ m (by rw[o];exact a)
    |kd _ _ _ _ _ _ q g C a m=>exact .kd _ _ _ _ _ _ q g C (by rw[o];exact a) m
  | .cQ id gen y i l,u,h,d=>by
    have e:id<L.length:=je.1 (by simpa[V.ok] using d);have o:jo L β id=β (L.getD id 0):=by simp[jo,List.getElem?_eq_getElem e]
    simp only[V.ej] at h;cases h with
    |cQ _ _ _ _ _ b m a=>exact .cQ _ _ _ _ _ b m (by rw[o];exact a)
    |k' _ _ _ _ _ _ q g C a m=>exact .k' _ _ _ _ _ _ q g C (by rw[o];exact a) m
  | .agg cs,u,h,d=>by
    simp only[V.ej] at h;cases h with
    |agg _ p k s=>exact .agg _ p (by rw[pG] at k;exact k) (λi c u r z=>Bh cs (λi=>p[i]?) (by simpa[V.ok] using d) s i c u r z)
  | .bY cs,u,h,d=>by
    simp only[V.ej] at h;cases h with
    |bY _ p k s=>exact .bY _ p (by rw[pG] at k;exact k) (λi c u r z=>Bh cs (λi=>p[i]?) (by simpa[V.ok] using d) s i c u r z)
  | .fn f cs,u,h,d=>by
    simp only[V.ej] at h;cases h with
    |fn _ _ p k s=>exact .fn _ _ p (by rw[pG] at k;exact k) λi c u r z=>Bh cs (λi=>p[i]?) (by simpa[V.ok] using d) s i c u r z
theorem Bh{G:Map}{w:World}{X:Nat->Prop}{L:List Nat}: ∀(cs:List V) (a:Nat->Option Value),gI (fj L.length) cs=ab->
    (∀i c u,(iT L cs)[i]? =aa c->a i=aa u->bB G w X c u)-> ∀(i:Nat) c u,cs[i]? =aa c->a i=aa u->bB (jo L G) w X c u
  | [],_,_,_,_,_,_,h,_=>by simp at h
  |c::cs,a,b,h,0,_,u,d,e=>by
    simp at d;subst d;simp[gI] at b;exact bB.p2 c u (h 0 _ u (by simp[iT]) e) b.1
  |c::cs,a,b,h,i+1,k,u,d,e=>by simp at d;simp[gI] at b;exact Bh cs (λi=>a (i+1)) b.2 (λi c u l m=>h (i+1) c u (by simpa[iT] using l) m) i k u d e
end
theorem dr.p2{β:Map}{w:World}{X:Nat->Prop}{L:List Nat}: ∀{a:List V} {b:List Value},dr β w X (iT L a) b->gI (fj L.length) a=ab->dr (jo L β) w X a b
  | [],[],_,_=>trivial
  |v::a,u::b,h,c=>by
    simp[gI] at c;exact⟨bB.p2 v u h.1 c.1,dr.p2 h.2 c.2⟩
  | [],_::_,h,_=>h.elim
  |_::_,[],h,_=>h.elim
def eu:List E->Nat->(Nat->Option E)
  | [],_=>mY
  |e::a,k=>bb (eu a (k+1)) k (aa e)
theorem Nh: ∀(a:List E) (k i:Nat),eu a k (k+i)=a[i]?
  | [],_,_=>by simp[eu,mY]
  |e::a,k,0=>by rw[nV,eu,cy];simp
  |e::a,k,i+1=>by rw[eu,cu _ _ _ _ O,show k+(i+1)=(k+1)+i by omega,Nh a (k+1) i];simp
theorem wF(a:List E)(i:Nat):eu a 0 i=a[i]? :=by have:=Nh a 0 i;rwa [dy] at this
def hQ(X:Nat->Prop)(a:Map)(H:Nat->Option E)(b:Nat):Prop:=X b\/ ∃id,H id≠ak/\At a id b
structure qh (G:fh) (fu:List E) (β:Map) (w:World) (X:Nat->Prop):Prop where
  dY: ∀k,fu.length<=k->β k=ak
  eB: ∀k b,fu.length<=k-> ¬β.n k b
  inj: ∀id lf b,At β id b->At β lf b->id=lf
  place: ∀k b,At β k b->b<w.heap.size/\ ¬X b/\G.za<=b
  heap: ∀k e,fu[k]? =aa e->c4 β w (hQ X β (eu fu 0)) k e
structure Left (hi β:Map) (fu out:List E) (w w':World) (X:Nat->Prop) (r:V) (u:Value):Prop where
  ext:Ext (λb=> ∃k,At hi k b) w w'
  base:ku fu.length hi β w.heap.size
  jL:Shaped hi w w'
  dY: ∀k,out.length<=k->β k=ak
  eB: ∀k b,out.length<=k-> ¬β.n k b
  inj: ∀id lf b,At β id b->At β lf b->id=lf
  fresh: ∀k b,At β k b->((∃cD,cD<fu.length/\At hi cD b)\/w.heap.size<=b)/\b<w'.heap.size
  heap: ∀k e,out[k]? =aa e->c4 β w' (hQ X β (eu out 0)) k e
  res:bB β w' (hQ X β (eu out 0)) r u
def Lo(P:Program)(G:fh)(f:FuncId)(c:List E)(args:List V){ι:Type}(k:ι->Prop)(r:ι->V)(d:ι->List E):Prop:=
  ∀(w:World) (X:Nat->Prop) (a:Map) (h:List Value),G.ok w->(∀b,X b->b<w.heap.size)->qh G c a w X->dr a w (hQ X a (eu c 0)) args h->
    Calls P f h.toArray w λe l=> ∃u i m,e= .returned u/\k i/\Left a m c (d i) w l X (r i) u
def Ctx.dB(P:Program)(G:fh)(w:World)(X:Nat->Prop)(ef:Nat)(hi:Map)(nt:Nat):Ctx:={P,G,w0:=w,X,ef,hi,nt}
def l4(a:List E)(args:List V):S:={t:=ux args 0,H:=eu a 0,u:=fj a.length}
theorem Rel.l4{P:Program}{G:fh}{nt:Nat}{a:List E}{U:Map}{args:List V}{c:List Value}(q:G.ok w)(r: ∀b,X b->b<w.heap.size)(d:qh G a U w X)
    (h:dr U w (hQ X U (eu a 0)) args c) (x:c.length<=nt):
    Rel (Ctx.dB P G w X a.length U nt) U (Lift.l4 a args) {tmps:=c.toArray++Array.replicate (nt-c.toArray.size) undef,defers:=[]} w:=by
  have k: ∀id b,At U id b->id<a.length:=by
    rintro id b (⟨g,h⟩|h)
    · apply nX;intro l;rw[d.dY id l] at h;cases h
    · exact nX λl=>d.eB id b l h
  refine {ext:=Ext.refl _ _,qV:=q,ri:= ?_,kq:= ?_,base:=ku.refl _ _ _,jL:=Shaped.refl _ _,low:=λid h=>je.2 h,dY:= ?_,eB:= ?_,
           vS:=d.inj,inj:=d.inj,fresh:=λid b h=>⟨.inl ⟨id,k id b h,h⟩,(d.place id b h).1⟩,heap:= ?_,dz:= ?_,nt:= ?_,defers:=rfl}
  · rintro b ⟨id,_,h⟩;exact(d.place id b h).2.2
  · intro b p;exact⟨r b p,λ⟨id,_,h⟩=>(d.place id b h).2.1 p⟩
  · intro id hid;apply d.dY;apply Nat.le_of_not_lt;intro k;have m:=je.2 k;have n:fj a.length id=al:=hid
    grind
  · intro id b hid h;have m:=je.2 (k id b (.inr h));have n:fj a.length id=al:=hid
    grind
  · intro id e s;have o:a[id]? =aa e:=by rw[<-wF];exact s
    refine⟨je.2 ?_,d.heap id e o⟩
    grind
  · intro i;have m:=H1 args c 0 h i;rw[dy] at m;have n:(c.toArray++Array.replicate (nt-c.toArray.size) undef).getD i undef=c.getD i undef:=by
      simp only[Array.getD_eq_getD_getElem?,List.getD_eq_getElem?_getD,Array.getElem?_append]
      grind
    simp only[n];exact m
  · simp[Ctx.dB];omega
end
section
def ll{R:Type}(f:Nat->R):List Nat->(Nat->R)->(Nat->R)
 | [],_=>f
 |l::L,g=>bb (ll f L λk=>g (k+1)) l (g 0)
theorem nG{k:Type}{f:Nat->k}: ∀{L:List Nat} {g:Nat->k} {id:Nat},id∉L->ll f L g id=f id
 | [],_,_,_=>rfl
 |l::L,g,id,h=>by simp at h;rw[ll,cu _ _ _ _ h.1];exact nG h.2
theorem oQ{R:Type}{f:Nat->R}: ∀{L:List Nat} {g:Nat->R} {k id:Nat},L.Nodup->L[k]? =aa id->ll f L g id=g k
 | [],_,_,_,_,h=>by simp at h
 |l::L,g,0,id,_,h=>by simp at h;subst h;rw[ll,cy]
 |l::L,g,k+1,id,a,h=>by simp at h a;have b:id≠l:=λe=>a.1 (e▸bX h);rw[ll,cu _ _ _ _ b];exact oQ (g:=λk=>g (k+1)) a.2 h
theorem Gd: ∀{L:List Nat} {i j id:Nat},L.Nodup->L[i]? =aa id->L[j]? =aa id->i=j
 | [],_,_,_,_,h,_=>by simp at h
 |l::L,0,0,_,_,_,_=>rfl
 |l::L,0,j+1,id,a,h,b=>by simp at h b a;subst h;exact br (bX b) a.1
 |l::L,i+1,0,id,a,h,b=>by simp at h b a;subst b;exact br (bX h) a.1
 |l::L,i+1,j+1,id,a,h,b=>by simp at h b a;rw[Gd a.2 h b]
def S.after(s:S)(L:List Nat)(a:List E):S:=
 {t:=s.t,H:=ll s.H L λk=>(a[k]?).map (E.ej L),u:=ll s.u L (λ_=>ab)}
def Fx(K:Ctx)(o:Oper)(s:S){k:Type}(e:k->Prop)(h:k->S):Prop:=
 ∀l a w next Q,Rel K l s a w->(∀i,e i-> ∀b c d,Rel K b (h i) c d->next c d)->o.wp K.P a w next Q
variable {β:Map}{w:World}{X:Nat->Prop}{L:List Nat}{k:Nat}{e:E}{f:FuncId}
theorem c4.p2{id:Nat}(h:c4 β w X id (e.ej L))(C:L[k]? =aa id)(F:e.ok (fj L.length)=ab):c4 (jo L β) w X k e:=by
 have l:jo L β k=β id:=by simp[jo,C]
 cases e with
 |cells cs=>
  obtain⟨b,o,ty,a,d,s,D⟩:=h;rw[pG] at s;refine⟨b,o,ty,by rw[l];exact a,d,s,λi c u y Q=>?_⟩;exact bB.p2 c u (D i _ u (by rw[G9,y];rfl) Q) (wX F y)
 |arr ty gen G p=>
  refine⟨h.1,?_⟩;rcases h.2 with ⟨a,d⟩|⟨b,o,a,d⟩
  ·exact .inl ⟨by rw[l];exact a,d⟩
  exact .inr ⟨b,o,by rw[l];exact a,d⟩
 |aC N m gen p P=>
  refine⟨h.1,?_⟩;have H: ∀c,(jo L β).n k c↔β.n id c:=λc=>⟨λ⟨R,a,d⟩=>by rw[C] at a;cases a;exact d,λh=>⟨id,C,h⟩⟩
  rcases h.2 with ⟨a,d,W⟩|⟨b,o,B,a,d,s,D,K,f,g,t⟩
  ·exact .inl ⟨by rw[l];exact a,d,λc y=>W c ((H c).1 y)⟩
  refine .inr ⟨b,o,B,by rw[l];exact a,d,s,D,λi j q x u aP a2 a3=>⟨λv z=>?_,λI=>?_⟩,f,g,λc=>(H c).trans (t c)⟩
  ·have A:=(K i j q x u aP a2 a3).1 (v.ej L) (eH.2 ⟨_,z,rfl⟩);exact⟨bB.p2 v u A.1 (Hc F z),A.2⟩
  refine(K i j q x u aP a2 a3).2 λv z=>?_;obtain⟨⟨S,T,M⟩,A,r⟩:=eH.1 z;simp only[Prod.mk.injEq] at r;obtain⟨rfl,rfl,rfl⟩:=r;exact I M A
theorem c4.ej{β':Map}{X':Nat->Prop}{C:Nat}(h:c4 β w X k e)(W:L[k]? =aa C)(o: ∀k x,β k=aa x->β' (L.getD k 0)=aa x)(F: ∀b,X' b->X b)(Q: ∀b,β'.n C b↔β.n k b):c4 β' w X' C (e.ej L):=by
 have q: ∀x,β k=aa x->β' C=aa x:=λx G=>by have:=o k x G;rwa [fc,W] at this
 cases e with
 |cells cs=>
  obtain⟨b,r,ty,a,d,s,y⟩:=h;refine⟨b,r,ty,q _ a,d,by rw[pG];exact s,λi c u H f=>?_⟩;obtain⟨g,p,rfl⟩:=AU H;exact((y i g u p f).ej o).mono (Ext.refl _ _) (λb _=>F b) (dT.refl _) (Shaped.refl _ _)
 |arr ty gen R z=>
  refine⟨h.1,?_⟩;rcases h.2 with ⟨a,d⟩|⟨b,r,a,d,s,y,p⟩
  ·exact .inl ⟨q _ a,d⟩
  exact .inr ⟨b,r,q _ a,d,s,y,λi j l x u aP a2 a3=>(p i j l x u aP a2 a3).mono (Ext.refl _ _) λb _=>F b⟩
 |aC T m gen z U=>
  refine⟨h.1,?_⟩;rcases h.2 with ⟨a,d,t⟩|⟨b,r,B,a,d,s,y,p,I,M,N⟩
  ·exact .inl ⟨q _ a,d,λc H=>t c ((Q c).1 H)⟩
  refine .inr ⟨b,r,B,q _ a,d,s,y,λi j l x u aP a2 a3=>⟨λv K=>?_,λG=>?_⟩,I,M,λc=>(Q c).trans (N c)⟩
  ·obtain⟨⟨V,Y,P⟩,S,A⟩:=eH.1 K;simp only[Prod.mk.injEq] at A;obtain⟨rfl,rfl,rfl⟩:=A;have D:=(p _ _ l x u aP a2 a3).1 P S;exact⟨(D.1.ej o).mono (Ext.refl _ _) (λb _=>F b) (dT.refl _) (Shaped.refl _ _),D.2⟩
  exact((p i j l x u aP a2 a3).2 λv K=>G (v.ej L) (eH.2 ⟨_,K,rfl⟩)).mono (Ext.refl _ _) (λb _=>F b) λ_ _=>rfl
theorem dr.app{β:Map}{w:World}{X:Nat->Prop}: ∀{c a:List V} {d b:List Value},dr β w X c d->dr β w X a b->dr β w X (c++a) (d++b)
 | [],_,[],_,_,h=>h
 |_::_,_,_::_,_,h,k=>⟨h.1,dr.app h.2 k⟩
 | [],_,_::_,_,h,_=>h.elim
 |_::_,_,[],_,h,_=>h.elim
theorem F2{G:Map}{w:World}{X:Nat->Prop}: ∀{b:List V} {d:List Value},d.length=b.length->(∀(i:Nat) c u,b[i]? =aa c->d[i]? =aa u->bB G w X c u)->dr G w X b d
 | [],[],_,_=>trivial
 |v::b,u::d,a,h=>⟨h 0 v u rfl rfl,F2 (by simpa using a) λi c u e k=>h (i+1) c u (by simpa using e) (by simpa using k)⟩
 | [],_::_,a,_=>by simp at a
 |_::_,[],a,_=>by simp at a
theorem bB.Jf{Y:List V}{u:Value}(h:bB β w X (.fn f Y) u): ∃a:Array Value,u= .func (.func f) #[] a/\dr β w X Y a.toList:=by
 cases h with
 |fn _ _ a b h=>exact⟨a,rfl,F2 (by simpa using b) λi c u d e=>h i c u d (by simpa using e)⟩
theorem aav{K:Ctx}{s:S}{o:Oper}{xs:Array Operand}{Tr:Array TypeId}{fu:List E}{args:List V}{ι:Type}{ml:ι->Prop}{r:ι->V}{F:ι->List E}(Jg:Operand)(L news:List Nat)
  (Q2:List V) (ep:o.op= .call {callee:= .value Jg,args:=xs,argTypes:=Tr}) (ag7:s.get Jg= .fn f Q2)
  (iv:jh K.P f) (cI: ∀i,o.dst=aa i->dn i K.nt=ab) (bR:fH (xs.toList.map s.get++Q2) (iT L args)) (hl:gI (fj L.length) args=ab)
  (vu:fu.length=L.length) (hH: ∀(k:Nat) (e:E),fu[k]? =aa e-> ∃id,L[k]? =aa id/\s.H id=aa (e.ej L)/\e.ok (fj L.length)=ab)
  (U:(L++news).Nodup) (vD: ∀id,id∈news->s.u id=al) (JL: ∀i,(F i).length=(L++news).length)
  (h:Lo K.P K.G f fu args ml r F):Fx K o s ml (λi=>(s.after (L++news) (F i)).put o.dst ((r i).ej (L++news))):=by
 obtain⟨fn,ag2,ag3,ag4⟩:=iv;intro W a w next Q p l
 have sX:fn.name≠ "runtime.NumGoroutine" :=by simpa using ag3
 have ka:fn.body≠ak:=by intro e;simp[e] at ag4
 obtain⟨us,agW,vH⟩:=(ag7▸p.get Jg).Jf;have yK:(execOp a.eval o).run K.P w= .ok (.enter f (xs.map a.eval++us)) w:=by
  simp[execOp,ep,resolve,Deferred.ofValue,agW,invoke,callFunc,ag2,sX,ka]
 unfold Oper.wp;rw[yK,Oper.upon_enter];let z:Map:=jo L W;let X':Nat->Prop:=λb=>own K W s.H b/\ ¬ ∃k,At z k b;have iP: ∀k g b,z k=aa (aa b,g)-> ∃id,L[k]? =aa id/\W id=aa (aa b,g):=by
  intro k g b h;cases l:L[k]? with
  |none=>simp[z,jo,l] at h
  |some id=>simp[z,jo,l] at h;exact⟨id,rfl,h⟩
 have X: ∀k b,At z k b-> ∃id,L[k]? =aa id/\At W id b:=by
  rintro k b (⟨g,h⟩|⟨id,m,y⟩)
  ·obtain⟨id,m,y⟩:=iP k g b h;exact⟨id,m,.inl ⟨g,y⟩⟩
  exact⟨id,m,.inr y⟩
 have agQ: ∀(k id:Nat),L[k]? =aa id->s.H id≠ak:=by
  intro k id l;have hlt:k<fu.length:=by rw[vu];exact(d0.1 l).1
  obtain⟨D,m,y,_⟩:=hH k _ (bC hlt);rw[l] at m;cases m;rw[y];simp
 have v: ∀k b,At z k b->own K W s.H b:=by
  intro k b h;obtain⟨id,m,y⟩:=X k b h;exact .inr ⟨id,agQ k id m,y⟩
 have RV: ∀b,hQ X' z (eu fu 0) b->own K W s.H b:=by
  rintro b (h|⟨k,_,y⟩)
  ·exact h.1
  exact v k b y
 have Jq: ∀k b,At z k b->K.M b\/K.w0.heap.size<=b:=by
  intro k b h;obtain⟨id,m,y⟩:=X k b h;exact(p.fresh id b y).1
 have yL: ∀b,own K W s.H b->b<w.heap.size:=by
  rintro b (I|⟨id,_,bA⟩)
  ·exact lu (p.kq b I).1 p.ext.size
  exact(p.fresh id b bA).2
 have ahA:L.Nodup:=(List.nodup_append.1 U).1;have ahg:qh K.G fu z w X':=by
  refine⟨?_,?_,?_,?_,?_⟩
  ·intro k l;rw[vu] at l;simp[z,jo,List.getElem?_eq_none l]
  ·rintro k b l ⟨id,m,_⟩;rw[vu] at l;rw[Er l] at m;cases m
  ·intro k cD b h yx;obtain⟨id,m,y⟩:=X k b h;obtain⟨D,agC,h2'⟩:=X cD b yx;have he:=p.inj id D b y h2';subst he;have l:=(d0.1 m).1;exact Gd ahA m agC
  ·intro k b B;refine⟨yL b (v k b B),λI=>I.2 ⟨k,B⟩,?_⟩;rcases Jq k b B with A|A
   ·exact p.ri b A
   exact eO p.qV.1 A
  intro k e he;obtain⟨id,m,y,h4⟩:=hH k e he;have hK:=c4.p2 (p.heap id _ y).2 m h4;exact hK.mono (Ext.refl _ _) (λb _=>RV b) (dT.refl _) (λ_ h=>h) (Shaped.refl _ _) λ_ _=>rfl
 have agT:=(dr.p2 (((p.oF xs.toList).app vH).le bR) hl).mono (Ext.refl _ _) (λb _=>RV b) (dT.refl _) (Shaped.refl _ _);have bW:=h w X' z _ p.Df (λb bA=>yL b bA.1) ahg agT;have he:(List.map a.eval xs.toList++us.toList).toArray=xs.map a.eval++us:=by rw[<-w2,<-Array.toList_append]
 rw[he] at bW;refine bW.mono ?_;rintro e w' ⟨u,i,R,rfl,ain,d⟩;let C:=L++news;let N:Map:=⟨ll W C R,λid b=>(id∉C/\W.n id b)\/ ∃k,C[k]? =aa id/\R.n k b⟩
 let s2:=s.after C (F i);have ahu: ∀k,k<L.length->C[k]? =L[k]? :=λk l=>hz l;have t: ∀id,id∈C-> ∃k:Nat,C[k]? =aa id/\k<(F i).length:=by
  intro id hid;obtain⟨k,l,e⟩:=List.mem_iff_getElem.1 hid;exact⟨k,d0.2 ⟨l,e⟩,by rw[JL];exact l⟩
 have xn: ∀id,id∉C->N id=W id:=λid h=>nG h;have AG: ∀k id,C[k]? =aa id->N id=R k:=λk id h=>oQ U h;have KT: ∀k id,k<L.length->C[k]? =aa id->(R k=W id)\/ ∃q g wA lQ,W id=aa (q,g)/\1<=g/\R k=aa (wA,lQ)/\g<lQ/\ ∀b,wA=aa b->q=aa b\/w.heap.size<=b:=by
  intro k id l h;have bA:=d.base k (by rw[vu];exact l);rw[ahu k l] at h;have e:z k=W id:=by simp[z,jo,h]
  rw[e] at bA;exact bA
 have RR: ∀k id,L.length<=k->C[k]? =aa id->id∈news:=by
  intro k id l h;rw[hS l] at h;exact bX h
 have KU:dT W N:=by
  intro id q g I;by_cases hid:id∈C
  ·obtain⟨k,l,_⟩:=t id hid;by_cases Y:k<L.length
   ·rw[AG k id l];rcases KT k id Y l with e|⟨mT,g1,wA,lQ,aP,a2,a3,a4,_⟩
    ·exact .inl (e.trans I)
    rw[I] at aP;cases aP;exact .inr ⟨a2,wA,lQ,a3,a4⟩
   have:=p.dY id (vD id (RR k id O l));rw[this] at I;cases I
  exact .inl (by rw[xn id hid];exact I)
 have agN: ∀k id,C[k]? =aa id->s2.H id=((F i)[k]?).map (E.ej C):=λk id h=>oQ U h;have Rn: ∀id,id∉C->s2.H id=s.H id:=λid h=>nG h;have RU: ∀id b,id∉C->At W id b-> ¬ ∃k,At z k b:=by
  rintro id b hid bA ⟨k,h⟩;obtain⟨D,m,y⟩:=X k b h
  have:=p.inj id D b bA y;subst this;exact hid (nW _ (bX m))
 have Dh: ∀id b,At N id b->(id∉C/\At W id b)\/ ∃k,C[k]? =aa id/\At R k b:=by
  rintro id b (⟨g,h⟩|⟨m,y⟩|⟨k,m,y⟩)
  ·by_cases hid:id∈C
   ·obtain⟨k,l,_⟩:=t id hid;rw[AG k id l] at h;exact .inr ⟨k,l,.inl ⟨g,h⟩⟩
   rw[xn id hid] at h;exact .inl ⟨hid,.inl ⟨g,h⟩⟩
  ·exact .inl ⟨m,.inr y⟩
  exact .inr ⟨k,m,.inr y⟩
 have hO: ∀b,own K N s2.H b->hQ X' R (eu (F i) 0) b:=by
  rintro b (I|⟨id,m,y⟩)
  ·refine .inl ⟨.inl I,?_⟩;rintro⟨k,B⟩;rcases Jq k b B with A|A
   ·exact(p.kq b I).2 A
   have:=(p.kq b I).1;omega
  rcases Dh id b y with ⟨hid,h2'⟩|⟨k,l,B⟩
  ·rw[Rn id hid] at m;exact .inl ⟨.inr ⟨id,m,h2'⟩,RU id b hid h2'⟩
  have Y:k<(F i).length:=by rw[JL];exact(d0.1 l).1
  refine .inr ⟨k,?_,B⟩;rw[wF,bC Y];simp
 have ajS: ∀k b,At R k b->k<(F i).length:=by
  rintro k b (⟨g,h⟩|h)
  ·apply nX;intro hle;rw[d.dY k hle] at h;cases h
  exact nX λhle=>d.eB k b hle h
 have Rp: ∀b,b<w.heap.size->own K N s2.H b->own K W s.H b:=by
  intro b RA bA;rcases hO b bA with m|⟨k,_,B⟩
  ·exact m.1
  rcases(d.fresh k b B).1 with ⟨cD,_,A⟩|A
  ·exact v cD b A
  omega
 have Rk:Ext (own K W s.H) w w':=d.ext.weaken λb _ ⟨k,B⟩=>v k b B;have Rt:Shaped W w w':=λb bA=>d.jL b bA;have R1: ∀k x,R k=aa x->N (C.getD k 0)=aa x:=by
  intro k x I;have hlt:k<(F i).length:=by
   apply nX;intro hle;rw[d.dY k hle] at I;cases I
  rw[JL] at hlt;have bV:C[k]? =aa C[k]:=bC hlt;rw[fc,bV];exact(AG k _ bV).trans I
 have hold: ∀k b,At R k b->(∃id,id∈C/\At W id b)\/w.heap.size<=b:=by
  intro k b bA;rcases(d.fresh k b bA).1 with ⟨cD,A,h4⟩|A
  ·obtain⟨D,e1,e2⟩:=X cD b h4;exact .inl ⟨D,nW _ (bX e1),e2⟩
  exact .inr A
 have hrel:Rel K N s2 a w':=by
  refine {p with ext:= ?_,base:= ?_,jL:= ?_,low:= ?_,dY:= ?_,eB:= ?_,inj:= ?_,fresh:= ?_,heap:= ?_,dz:= ?_}
  ·refine p.ext.trans' (d.ext.weaken ?_);rintro b _ ⟨k,B⟩ ⟨m,y⟩;rcases Jq k b B with A|A
   ·exact y A
   omega
  ·refine p.base.more λid hid=>?_;by_cases T:id∈C
   ·obtain⟨k,l,_⟩:=t id T;by_cases Y:k<L.length
    ·rw[AG k id l];rcases KT k id Y l with e|⟨q,g,wA,lQ,aP,a2,a3,a4,a5⟩
     ·exact .inl e
     exact .inr ⟨q,g,wA,lQ,aP,a2,a3,a4,λb bA=>by
      rcases a5 b bA with c|c
      ·exact .inl c
      exact .inr (eO p.ext.size c)⟩
    have m:=vD id (RR k id O l);rw[p.low id hid] at m;cases m
   exact .inl (xn id T)
  ·intro b A;exact(d.jL b (lu A p.ext.size)).trans (p.jL b A)
  ·intro id hid;by_cases T:id∈C
   ·obtain⟨k,l,_⟩:=t id T;exact oQ (f:=s.u) (g:=λ_=>ab) U l
   exact(nG T).trans (p.low id hid)
  ·intro id hid;by_cases T:id∈C
   ·obtain⟨k,l,_⟩:=t id T
    have:s2.u id=ab:=oQ (f:=s.u) (g:=λ_=>ab) U l;rw[this] at hid;cases hid
   rw[xn id T];exact p.dY id ((nG (f:=s.u) (g:=λ_=>ab) T).symm.trans hid)
  ·rintro id b hid (⟨m,y⟩|⟨k,l,y⟩)
   ·exact p.eB id b ((nG (f:=s.u) (g:=λ_=>ab) m).symm.trans hid) y
   have:s2.u id=ab:=oQ (f:=s.u) (g:=λ_=>ab) U l;rw[this] at hid;cases hid
  ·intro id D b m y;rcases Dh id b m with ⟨m1,aP⟩|⟨k,l,aP⟩<;>rcases Dh D b y with ⟨m2,a2⟩|⟨cD,pA,a2⟩
   ·exact p.inj id D b aP a2
   ·rcases hold cD b a2 with ⟨yS,A,h4⟩|A
    ·have:=p.inj id yS b aP h4;subst this;exact br A m1
    have:=(p.fresh id b aP).2;omega
   ·rcases hold k b aP with ⟨yS,A,h4⟩|A
    ·have:=p.inj D yS b a2 h4;subst this;exact br A m2
    have:=(p.fresh D b a2).2;omega
   have:=d.inj k cD b aP a2;subst this;rw[l] at pA;cases pA;rfl
  ·intro id b m;rcases Dh id b m with ⟨_,aP⟩|⟨k,l,aP⟩
   ·exact⟨(p.fresh id b aP).1,lu (p.fresh id b aP).2 d.ext.size⟩
   refine⟨?_,(d.fresh k b aP).2⟩;rcases hold k b aP with ⟨yS,_,A⟩|A
   ·exact(p.fresh yS b A).1
   exact .inr (eO p.ext.size A)
  ·intro id e he;by_cases T:id∈C
   ·obtain⟨k,l,Y⟩:=t id T;refine⟨oQ (f:=s.u) (g:=λ_=>ab) U l,?_⟩;rw[agN k id l,bC Y] at he;simp at he;subst he;exact c4.ej (d.heap k _ (bC Y)) l R1 hO (λb=>⟨λh=>by
     rcases h with ⟨m,_⟩|⟨cD,m,y⟩
     ·exact br T m
     have:=Gd U m l;subst this;exact y,λh=> .inr ⟨k,l,h⟩⟩)
   rw[Rn id T] at he;obtain⟨m,y⟩:=p.heap id e he;refine⟨(nG (f:=s.u) (g:=λ_=>ab) T).trans m,?_⟩;exact y.mono Rk Rp KU (λx I=>by rw[xn id T];exact I) Rt (λb bA=>d.ext.keep b (p.fresh id b bA).2 (RU id b T bA)) (λb=>⟨λh=>by
    rcases h with ⟨_,h⟩|⟨cD,m,_⟩
    ·exact h
    exact br (bX m) T,λh=> .inl ⟨T,h⟩⟩)
  intro j;exact(p.dz j).mono Rk Rp KU Rt
 exact l i ain N _ w' (hrel.put o.dst cI ((d.res.ej R1).mono (Ext.refl _ _) (λb _=>hO b) (dT.refl _) (Shaped.refl _ _)))
end
section
variable {K:Ctx}{s:S}{d:Option Tmp}{ty:TypeId}{pos:String}{af:Array Edge}{g:Option (Nat×Bool)}{f:FuncId}{xs:Array Operand}{Tr:Array TypeId}{args:List V}{ι:Type}{ml:ι->Prop}{r:ι->V}{out:ι->List E}
theorem Fx.j{o:Oper}{u:Unit->Prop}{b:Unit->S}(h:Fx K o s u b):dX K o s (b ()):=
 λβ a w next Q c e=>h β a w next Q c λ_ _=>e
variable {ops:Array Oper}{rest:List Oper}{Q:S->Prop}{op:Op}
end
section
variable {P:Program}{H:Nat->Option E}{d:Option Tmp}{ty:TypeId}{pos:String}{af:Array Edge}{g:Option (Nat×Bool)}
theorem adF(n:Int):IntKind.u8.wrap n=((UInt8.ofInt n).toNat:Int):=by
 have:IntKind.u8.wrap n=n%256:=by simp[IntKind.wrap,IntKind.bits,IntKind.signed]
 rw[this];simp[UInt8.ofInt];omega
theorem Xg(x:Operand)(c k e:TypeId)(l:List UInt8)(B:P.underlying c=aa (.slice e))(C:P.underlying e=aa (.int .u8))(D:P.underlying k=aa .string):
  cw P H ⟨d,.convert c k x,ty,pos,af,g⟩ [TA (l.map t8)] (cc l):=by
 intro I w X F _ M;refine⟨.string ⟨l.toArray⟩,?_,.t _ _ (.str l)⟩;have Q:bB I w X (TA (l.map t8)) (F x):=M.1;simp only[execOp];suffices (convert c k (F x)).run P w= .ok (.string ⟨l.toArray⟩) w by
  simp only[e4,this,eV,hh]
 generalize F x=y at Q⊢;cases Q with
 |t _ _ h=>
  generalize R:l.map t8=W at h;cases h with
  |gh a m=>
   have p:l=[]:=by simpa using R
   subst p;rw[run_convert_bytes_string w c k e _ _ _ B C D];cases a with
   |none=>simp[Conv.bytesToString];rfl
   |some a=>
    rw[run_bytesToString w a 0 m [] (by simp[loadCells,loadCellsFrom,hh])];rfl
  |bG _ b n r m f T U j G N K=>
   subst R;cases p:l with
   |nil=>
    subst p
    have:=run_convert_bytes_arg (P:=P) w c e B C b n 0 m [] rfl (λi u=>O) k D;exact this
   |cons y V=>
    rw[<-p];have o:r=1:=by
     have:=G (t8 y) (by rw[p];simp);simpa using this.symm
    subst o;have S: ∀(i:Nat) (z:UInt8),l[i]? =aa z->f i 0= .int .u8 (z.toNat:Int):=by
     intro i z s;have v:=K i 0 (t8 z) (.int .u8 (z.toNat:Nat)) (by rw[eG,s];rfl) rfl;generalize f i 0=q at v⊢;cases v;rfl
    have:=run_convert_bytes_arg (P:=P) w c e B C b n (l.map t8).length m (l.map λz=>(z.toNat:Int)) bl (λi u=>by
     have A:i<l.length:=by simpa using u
     have s:l[i]? =aa l[i]:=bC A;have L:=N i 0 (by simpa using A) O;rw[S i _ s] at L;rw[show n+i*1+0=n+i by omega] at L;rw[L];simp[List.getD_eq_getElem?_getD,s]) k D
    rw[this];congr 2;simp only[strOfNums,List.map_map];congr 2;apply List.ext_getElem?;intro i;rw[eG];cases s:l[i]? with
    |none=>rfl
    |some z=>simp
end
section
variable {K:Ctx}{s:S}{d:Option Tmp}{ty:TypeId}{pos:String}{af:Array Edge}{g:Option (Nat×Bool)}
variable {t:TypeId}{u:TypeDesc}{z:Value}{size bytes:Nat}
theorem ab'(k:Nat)(q:s.u k=al)(e:TypeId)(r: ∀i,d=aa i->dn i K.nt=ab)(y:K.P.underlying t=aa (.slice e))(A:cn K.P e u z size bytes):
  dX K ⟨d,.buildSlice t 0 #[],ty,pos,af,g⟩ s ((s.new k (.arr e 1 size [])).put d (.bf k 1 size 0 0)):=by
 intro o a w next Q B l
 have b:(execOp a.eval ⟨d,.buildSlice t 0 #[],ty,pos,af,g⟩).run K.P w= .ok (.value (.slice (aa ⟨w.heap.size,0,ak⟩) 0 0)) (w.alloc (.cells #[] e)):=by
  simp only[execOp,Instr.buildSlice,e4,run_underlying y,eV,A.run_sizeOf,Nat.zero_mul,show¬(0>2^24) by decide,if_false,if_true];simp only[Instr.fill,e4,hh,eV,show Array.range 0= #[] from by simp[Array.range],List.map_toArray,List.map_nil];rfl
 unfold Oper.wp;rw[b];have c:=B.new k 1 q #[] e (.arr e 1 size []) λC R W D F G=>⟨df _,Or.inr ⟨w.heap.size,_,F,by subst D;exact j2 _ _,bl,λ_ h=>by simp at h,λi j L x u h=>by simp at h⟩⟩
 have m:(w.alloc (.cells #[] e)).heap.size=w.heap.size+1:=World.size_alloc ..;have n:(w.alloc (.cells #[] e)).shape? w.heap.size=aa (e,0):=by unfold iZ;rw[j2];simp
 have p:bB (o.put k (aa (aa w.heap.size,1))) (w.alloc (.cells #[] e)) (own K (o.put k (aa (aa w.heap.size,1))) (s.new k (.arr e 1 size [])).H) (.bf k 1 size 0 0)
   (.slice (aa ⟨w.heap.size,0*size,ak⟩) 0 0):= .bf k 1 size 0 0 0 w.heap.size 0 e (df _) (cy _ _ _) (m▸nh _) n bl (df _) (by unfold maxLen;omega)
 rw[gN] at p;exact l _ _ _ (c.put d r p)
end
def Iu:Option TypeDesc->Bool
 |some (.int .i64)=>ab
 |_=>al
theorem acf{o:Option TypeDesc}(h:Iu o=ab):o=aa (.int .i64):=by
 unfold Iu at h
 grind
def wT(P:Program):List Field->Nat->Bool
 | [],_=>ab
 |f::a,i=>f.name != "_" &&Iu (P.underlying f.type)&&b8 f.offset i&&wT P a (i+1)
theorem Kh{P:Program}{w:World}{xs ys:Array Value}: ∀(a:List Field) (i:Nat) (ms b:List Int),wT P a i=ab->ms.length=a.length->b.length=a.length->
  (∀(j:Nat) m,ms[j]? =aa m->xs[i+j]? =aa (.int .i64 m))->(∀(j:Nat) m,b[j]? =aa m->ys[i+j]? =aa (.int .i64 m))->
  (Op.eqFields 9999 xs ys a).run P w= .ok (decide (ms=b)) w
 | [],i,ms,b,_,c,e,_,_=>by
  have A:ms=[]:=by simpa using c
  have B:b=[]:=by simpa using e
  subst A;subst B;simp[Op.eqFields]
 |f::a,i,[],b,_,c,_,_,_=>by simp at c
 |f::a,i,m::ms,[],_,_,e,_,_=>by simp at e
 |f::a,i,m::ms,n::b,s,c,e,x,y=>by
  simp only[wT,cB] at s;obtain⟨⟨⟨C,k⟩,ep⟩,D⟩:=s;have k:=acf k;have ep:=dc ep;have l:f.name≠ "_" :=by simpa using C
  have z: ∀(cs:Array Value) (v:Value),cs[i]? =aa v->(part f.type cs f.offset).run P w= .ok v w:=by
   intro cs v F;rw[ep];simp[part,isAgg,run_underlying k,F]
  have o:=x 0 m rfl;have p:=y 0 n rfl;have G:=Kh (P:=P) (w:=w) a (i+1) ms b D (by simpa using c) (by simpa using e)
   (λj q r=>by rw[show i+1+j=i+(j+1) by omega];exact x (j+1) q (by simpa using r))
   λj q r=>by rw[show i+1+j=i+(j+1) by omega];exact y (j+1) q (by simpa using r)
  simp only[Op.eqFields,l,ne_eq,not_false_eq_true,if_true,e4,z xs _ o,z ys _ p,eV,run_equalIn_int w 9998 f.type .i64 .i64 m n k];by_cases h:m=n
  ·subst h;simp[G]
  simp[h]
section
variable {P:Program}{H:Nat->Option E}{d:Option Tmp}{ty:TypeId}{pos:String}{af:Array Edge}{g:Option (Nat×Bool)}
theorem BN{G:Map}{w:World}{X:Nat->Prop}{e:List Int}{u:Value}(h:bB G w X (.agg (e.map Y)) u): ∃a:Array Value,u= .agg a/\ ∀(j:Nat) m,e[j]? =aa m->a[j]? =aa (.int .i64 m):=by
 cases h with
 |agg _ a l n=>
  refine⟨a,rfl,λj m c=>?_⟩;have b:j<a.size:=by
   rw[l,dF];exact(d0.1 c).1
  have i:a[j]? =aa a[j]:=hT b;have k:=n j (Y m) _ (by rw[eG,c];rfl) i;rw[i];generalize a[j]=q at k;cases k with|t _ _ h=>cases h;rfl
theorem Zb(x y:Operand)(t q:TypeId)(a b:List Int)(r:P.underlying t=aa (.struct (P.fieldsOf t)))(s:P.stoodInHeld t=al)(z:P.eqGuardType P.depth t=al)
  (A:wT P (P.fieldsOf t).toList 0=ab) (c:b8 a.length (P.fieldsOf t).size=ab) (e:b8 b.length (P.fieldsOf t).size=ab):
  cw P H ⟨d,.binOp .neq t x y q,ty,pos,af,g⟩ [.agg (a.map Y),.agg (b.map Y)] (aW (!decide (a=b))):=by
 intro C w X o _ p;obtain⟨h,i,cA⟩:=BN p.1;obtain⟨k,l,cO⟩:=BN p.2.1;refine⟨.bool (!decide (a=b)),?_,.t _ _ (.bool _)⟩;have c:=dc c;have e:=dc e;have B:=Kh (P:=P) (w:=w) (xs:=h) (ys:=k) (P.fieldsOf t).toList 0 a b A (by simpa using c) (by simpa using e) (λj m n=>by simpa using cA j m n) λj m n=>by simpa using cO j m n
 have i:o x=_:=i;have l:o y=_:=l;simp only[execOp,i,l,e4,run_eqGuard_agg w .neq t x y h k z,eV,run_neq_struct,run_equalIn_struct w 9999 t h k r s,B,hh]
theorem Zi(x y:Operand)(t q:TypeId)(a b:List Int)(r:P.underlying t=aa (.struct (P.fieldsOf t)))(s:P.stoodInHeld t=al)(z:P.eqGuardType P.depth t=al)
  (A:wT P (P.fieldsOf t).toList 0=ab) (c:b8 a.length (P.fieldsOf t).size=ab) (e:b8 b.length (P.fieldsOf t).size=ab):
  cw P H ⟨d,.binOp .eql t x y q,ty,pos,af,g⟩ [.agg (a.map Y),.agg (b.map Y)] (aW (decide (a=b))):=by
 intro C w X o _ p;obtain⟨h,i,cA⟩:=BN p.1;obtain⟨k,l,cO⟩:=BN p.2.1;refine⟨.bool (decide (a=b)),?_,.t _ _ (.bool _)⟩;have c:=dc c;have e:=dc e;have B:=Kh (P:=P) (w:=w) (xs:=h) (ys:=k) (P.fieldsOf t).toList 0 a b A (by simpa using c) (by simpa using e) (λj m n=>by simpa using cA j m n) λj m n=>by simpa using cO j m n
 have i:o x=_:=i;have l:o y=_:=l;simp only[execOp,i,l,e4,run_eqGuard_agg w .eql t x y h k z,eV,run_eql_struct,run_equalIn_struct w 9999 t h k r s,B,hh]
end
def Bi(P:Program)(t:TypeId)(n:Nat):Prop:=P.underlying t=aa (.struct (P.fieldsOf t))/\P.stoodInHeld t=al/\P.eqGuardType P.depth t=al/\wT P (P.fieldsOf t).toList 0=ab/\(P.fieldsOf t).size=n
section
variable {P:Program}{H:Nat->Option E}{d:Option Tmp}{ty:TypeId}{pos:String}{af:Array Edge}{g:Option (Nat×Bool)}
theorem aay(x y:Operand)(t l:TypeId){n:Nat}(i k:List Int)(h:Bi P t n)(m:b8 i.length n=ab)(o:b8 k.length n=ab):
  cw P H ⟨d,.binOp .neq t x y l,ty,pos,af,g⟩ [.agg (i.map Y),.agg (k.map Y)] (aW (!decide (i=k))):=by obtain⟨a,b,c,e,f⟩:=h;exact Zb x y t l i k a b c e (by rw[f];exact m) (by rw[f];exact o)
theorem abN(x y:Operand)(t l:TypeId){n:Nat}(i k:List Int)(h:Bi P t n)(m:b8 i.length n=ab)(o:b8 k.length n=ab):
  cw P H ⟨d,.binOp .eql t x y l,ty,pos,af,g⟩ [.agg (i.map Y),.agg (k.map Y)] (aW (decide (i=k))):=by obtain⟨a,b,c,e,f⟩:=h;exact Zi x y t l i k a b c e (by rw[f];exact m) (by rw[f];exact o)
end
end Go.Lift
