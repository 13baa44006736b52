/- Tools. -/
import Derived.Test.YteifkndfpnkalacGreatQLiftAB
import Derived.Laws.BitsAllLaws
import Derived.Laws.BytesArg
import Derived.Laws.StructEq
namespace Go.Lift
open Go
open Option renaming some -> aa, none -> aj
open Bool renaming true -> ab, false -> ak, and_eq_true -> b5
open Decidable renaming decide -> ah
open Go.Result renaming andThen_ok -> fb
open Go.Builtin renaming zeroCells -> iA
open List renaming map_cons -> hX
open Go.Sem renaming run_bind -> ff
open Nat renaming beq -> b4, blt -> df, ble -> cY
section
variable {w:World}{X:Nat->Prop}{n m k b i:Nat}{a:Act}{β:Map}{hs:List (Nat×Nat×V)}
theorem tr{U:Map}{D:List dt}{gen:Nat}{a:List (List T)}{I:List (Nat×Nat×V)}(h:cN U w X n (.bd D m gen a I)): ∃q,U n=aa (q,gen):=by
 rcases h.2 with ⟨c,_⟩|⟨b,e,_,c,_⟩
 ·exact⟨_,c⟩
 exact⟨_,c⟩
def Map.drop(a:Map)(k:Nat):Map:=⟨a.f,λid b=>id≠k/\a.n id b⟩
theorem nz{X:Map}(h:At (X.drop k) n b):At X n b:=by
 rcases h with h|h
 ·exact .inl h
 exact .inr h.2
theorem Rel.drop{K:Ctx}{s:S}(h:Rel K β s a w)(k:Nat)(e':E)(x:s.H k≠aj)
  (B:cN (β.drop k) w (own K (β.drop k) (bc s.H k (aa e'))) k e'):Rel K (β.drop k) {s with H:=bc s.H k (aa e')} a w:=by
 have l: ∀b,own K (β.drop k) (bc s.H k (aa e')) b->own K β s.H b:=by
  rintro b (c|⟨id,m,o⟩)
  ·exact .inl c
  refine .inr ⟨id,λp=>?_,nz o⟩;by_cases n:id=k
  ·subst n;exact x p
  rw[cb _ _ _ _ n] at m;exact m p
 have y:dS β (β.drop k):=λ_ _ _ c=> .inl c;refine {h with base:=λid hid=>h.base id hid,eh:=λid hid=>h.eh id hid,eQ:=λid b hid q=>h.eQ id b hid q.2,inj:=λid r b m o=>h.inj id r b (nz m) (nz o),fresh:=λid b q=>h.fresh id b (nz q),heap:= ?_,dB:=λi=>(h.dB i).mono (Ext.refl _ _) (λb _=>l b) y (Shaped.refl _ _)};intro id e c;have c:bc s.H k (aa e') id=aa e:=c;by_cases n:id=k
 ·subst n;rw[cc] at c;cases c;cases A:s.H id with
  |none=>exact bz A x
  |some p=>exact⟨(h.heap id p A).1,B⟩
 rw[cb _ _ _ _ n] at c;obtain⟨m,o⟩:=h.heap id e c;exact⟨m,o.mono (Ext.refl _ _) (λb _=>l b) y (λ_ h=>h) (Shaped.refl _ _) (λ_ _=>rfl) λb=>⟨λh=>h.2,λh=>⟨n,h⟩⟩⟩
theorem Mg{K:Ctx}{s:S}(k:Nat){l:TypeId}{gen:Nat}{e:List (List T)}(o:List dt)(m:Nat)(A:s.H k=aa (.arr l gen n e))(y:(aR o m).ty=l)(B:(aR o m).size=n)
  (C:e=[]\/(aR o m).bk=[]):s.le K {s with H:=bc s.H k (aa (.bd o m gen e []))}:=by
 intro L a w h;refine⟨_,h.drop k (.bd o m gen e []) (by rw[A];simp) ?_⟩;have p:=(h.heap k _ A).2;subst y;subst B;refine⟨p.1,?_⟩;have q: ∀b,own K (L.drop k) (bc s.H k (aa (.bd o m gen e []))) b->own K L s.H b:=by
  rintro b (W|⟨id,y,B⟩)
  ·exact .inl W
  refine .inr ⟨id,λF=>?_,nz B⟩;by_cases Q:id=k
  ·subst Q;rw[A] at F;cases F
  rw[cb _ _ _ _ Q] at y;exact y F
 rcases p.2 with ⟨aS,a2⟩|⟨b,X,aS,a2,a3,a4,a5⟩
 ·exact .inl ⟨aS,a2,λc r=>r.1 rfl⟩
 refine .inr ⟨b,X,λ_ _ _=>False,aS,a2,a3,a4,λi j G x u R Z f=>Cell.of ?_,λ_ _ _ h=>h.elim,λ_ _ _ _ _ h=>h.elim,λc=>⟨λr=>bz rfl r.1,λ⟨_,_,r⟩=>r.elim⟩⟩;rcases C with rfl|C
 ·simp at R
 have:(aR o m).eA j=aj:=by unfold dt.eA;rw[C];rfl
 rw[this];exact .kj _ _ _ ((a5 i j G x u R Z f).mono (Ext.refl _ _) λb _=>q b) λ_ h=>h
theorem Y'{K:Ctx}{s:S}(k:Nat){D:List dt}{gen:Nat}{e:List (List T)}(y:s.H k=aa (.bd D m gen e []))(q:cY K.dL k=ab):
  s.le K {s with H:=bc s.H k (aa (.arr (aR D m).ty gen (aR D m).size e))}:=by
 have Q:=eG q;intro r a w h;refine⟨_,h.drop k (.arr (aR D m).ty gen (aR D m).size e) (by rw[y];simp) ?_⟩;have n:=(h.heap k _ y).2;have o: ∀b,own K (r.drop k) (bc s.H k (aa (.arr (aR D m).ty gen (aR D m).size e))) b->own K r s.H b:=by
  rintro b (p|⟨id,A,l⟩)
  ·exact .inl p
  refine .inr ⟨id,λC=>?_,nz l⟩;by_cases L:id=k
  ·subst L;rw[y] at C;cases C
  rw[cb _ _ _ _ L] at A;exact A C
 refine⟨n.1,?_⟩;rcases n.2 with ⟨aS,a2,_⟩|⟨b,R,B,aS,a2,a3,a4,a5,jN,jb,fW⟩
 ·exact .inl ⟨aS,a2⟩
 refine .inr ⟨b,R,aS,a2,a3,a4,λi j F x u W X Z=>(a5 i j F x u W X Z).none.yl o ?_⟩;intro c f p;have q:At r k c:= .inr ((fW c).2 ⟨i,j,f⟩);rcases p with p|⟨id,A,l⟩
 ·obtain⟨M,v⟩:=h.kz c p;rcases(h.fresh k c q).1 with G|I
  ·exact v G
  omega
 have:=h.inj _ _ _ (nz l) q;subst this;rcases l with ⟨g,l⟩|l
 ·have N:r id=aa (aa c,g):=l
  grind
 exact l.1 rfl
def Map.split(c:Map)(k a:Nat)(q:Option Nat)(N:Nat->Prop):Map:=
 ⟨λi=>bif b4 i a then aa (q,1) else c i,λid b=>(id=a/\N b)\/(id=k/\id≠a/\c.n k b/\ ¬N b/\q≠aa b)\/(id≠a/\id≠k/\c.n id b)⟩
theorem Oo(h:i≠k):b4 i k=ak:=by
 cases a:b4 i k with
 |false=>rfl
 |true=>exact bz (c4 a) h
theorem yQ(c:Map)(k a:Nat)(q:Option Nat)(N:Nat->Prop):c.split k a q N a=aa (q,1):=by simp[Map.split]
theorem uY(a:Map)(k c:Nat)(q:Option Nat)(N:Nat->Prop)(id:Nat)(h:id≠c):a.split k c q N id=a id:=by simp[Map.split,Oo h]
theorem ZQ{X:Map}{k m:Nat}{q:Option Nat}{N:Nat->Prop}(p: ∀b,q=aa b->X.n k b)(r: ∀b,N b->X.n k b){i b:Nat}(h:At (X.split k m q N) i b):
  (i=m/\X.n k b/\(q=aa b\/N b))\/(i≠m/\At X i b/\(i=k->(∃g,X k=aa (aa b,g))\/(¬N b/\q≠aa b))):=by
 rcases h with ⟨g,h⟩|⟨rfl,h⟩|⟨rfl,a,c,l,w⟩|⟨a,c,l⟩
 ·by_cases o:i=m
  ·subst o;rw[yQ] at h;cases h;exact .inl ⟨rfl,p _ rfl,.inl rfl⟩
  rw[uY _ _ _ _ _ _ o] at h;exact .inr ⟨o,.inl ⟨g,h⟩,λe=> .inl ⟨g,e▸h⟩⟩
 ·exact .inl ⟨rfl,r b h,.inr h⟩
 ·exact .inr ⟨a,.inr c,λ_=> .inr ⟨l,w⟩⟩
 exact .inr ⟨a,.inr l,λe=>bz e c⟩
theorem Rel.split{K:Ctx}{s:S}(h:Rel K β s a w)(k ct:Nat)(q:Option Nat)(N:Nat->Prop)(p r:E)(W:s.H k≠aj)(Q:s.u ct=ak)
  (U: ∀b,q=aa b->β.n k b/\ ¬N b) (V: ∀b,N b->β.n k b) (X: ∀b g,β k=aa (aa b,g)-> ¬β.n k b)
  (aiq:(∀b,own K (β.split k ct q N) (bc (bc s.H k (aa p)) ct (aa r)) b->own K β s.H b)->cN (β.split k ct q N) w (own K (β.split k ct q N) (bc (bc s.H k (aa p)) ct (aa r))) k p)
  (Z:(∀b,own K (β.split k ct q N) (bc (bc s.H k (aa p)) ct (aa r)) b->own K β s.H b)->cN (β.split k ct q N) w (own K (β.split k ct q N) (bc (bc s.H k (aa p)) ct (aa r))) ct r):
  Rel K (β.split k ct q N) {t:=s.t,H:=bc (bc s.H k (aa p)) ct (aa r),u:=bc s.u ct ab} a w:=by
 have f:s.u k=ab:=by
  cases D:s.H k with
  |none=>exact bz D W
  |some R=>exact(h.heap k R D).1
 have hne:k≠ct:=by intro e;subst e;rw[f] at Q;cases Q
 have y:= @ZQ β k ct q N (λb G=>(U b G).1) V;have o: ∀b,own K (β.split k ct q N) (bc (bc s.H k (aa p)) ct (aa r)) b->own K β s.H b:=by
  rintro b (l|⟨id,m,L⟩)
  ·exact .inl l
  rcases y L with ⟨_,j,_⟩|⟨j,h4,_⟩
  ·exact .inr ⟨k,W,.inr j⟩
  refine .inr ⟨id,λR=>?_,h4⟩;rw[cb _ _ _ _ j] at m;by_cases C:id=k
  ·subst C;exact W R
  rw[cb _ _ _ _ C] at m;exact m R
 have F:=h.eh ct Q;have B: ∀id x,β id=aa x->β.split k ct q N id=aa x:=λid x l=>by
  rw[uY _ _ _ _ _ _ (by intro e;subst e;rw[F] at l;cases l)];exact l
 have I:dS β (β.split k ct q N):=dS.of B;refine {h with base:= ?_,low:= ?_,eh:= ?_,eQ:= ?_,inj:= ?_,fresh:= ?_,heap:= ?_,dB:=λi=>(h.dB i).mono (Ext.refl _ _) (λb _=>o b) I (Shaped.refl _ _)}
 ·refine h.base.keep λid hid=>uY _ _ _ _ _ _ ?_;intro e;subst e;have:=h.low id hid;rw[Q] at this;cases this
 ·intro id hid;show bc s.u ct ab id=ab;by_cases e:id=ct
  ·subst e;exact cc _ _ _
  rw[cb _ _ _ _ e];exact h.low id hid
 ·intro id hid;have c:bc s.u ct ab id=ak:=hid;by_cases e:id=ct
  ·subst e;rw[cc] at c;cases c
  rw[cb _ _ _ _ e] at c;rw[uY _ _ _ _ _ _ e];exact h.eh id c
 ·intro id b hid G;have c:bc s.u ct ab id=ak:=hid;have e:id≠ct:=by intro e;subst e;rw[cc] at c;cases c
  rw[cb _ _ _ _ e] at c;rcases G with ⟨m,_⟩|⟨rfl,_,m,_⟩|⟨_,_,m⟩
  ·exact e m
  ·exact h.eQ _ b c m
  exact h.eQ id b c m
 ·intro id lk b m L;rcases y m with ⟨rfl,aS,a2⟩|⟨aS,a2,a3⟩<;>rcases y L with ⟨M,T,v⟩|⟨T,v,eu⟩
  ·exact M.symm
  ·have:=h.inj _ _ b (.inr aS) v
   grind
  ·subst M
   have:=h.inj _ _ b (.inr T) a2
   grind
  exact h.inj _ _ b a2 v
 ·intro id b G;rcases y G with ⟨_,aS,_⟩|⟨_,a2,_⟩
  ·exact h.fresh k b (.inr aS)
  exact h.fresh id b a2
 intro id e l;have l:bc (bc s.H k (aa p)) ct (aa r) id=aa e:=l;show bc s.u ct ab id=ab/\cN _ w (own K _ (bc (bc s.H k (aa p)) ct (aa r))) id e;by_cases C:id=ct
 ·subst C;rw[cc] at l;cases l;exact⟨cc _ _ _,Z o⟩
 rw[cb _ _ _ _ C] at l⊢;by_cases A:id=k
 ·subst A;rw[cc] at l;cases l
  grind
 rw[cb _ _ _ _ A] at l;obtain⟨m,L⟩:=h.heap id e l;exact⟨m,L.mono (Ext.refl _ _) (λb _=>o b) I (B id) (Shaped.refl _ _) (λ_ _=>rfl) (λb=>⟨λh=>by
  rcases h with ⟨h,_⟩|⟨h,_⟩|⟨_,_,h⟩
  ·exact bz h C
  ·exact bz h A
  exact h,λh=> .inr (.inr ⟨C,A,h⟩)⟩)⟩
def rq(j:Nat):List (Nat×Nat×V)->Bool
 | []=>ab
 |h::a=> !(b4 h.2.1 j)&&rq j a
theorem zb{j:Nat}: ∀{a:List (Nat×Nat×V)},rq j a=ab-> ∀i v,(i,j,v)∉a
 | [],_,_,_,h=>by cases h
 |h::a,c,i,v,hm=>by
  simp only[rq,b5,Bool.not_eq_true'] at c;rcases ef.1 hm with rfl|hm
  ·simp at c
  exact zb c.2 i v hm
theorem Xp{K:Ctx}{s:S}(k ct i j W:Nat){r:List dt}{gen:Nat}{y:List (List T)}{Z:List T}{l:List (List T)}{M:List (Nat×Nat×V)}(hk:s.H k=aa (.bd r m gen y M))(hu:s.u ct=ak)
  (aP:y[i]? =aa Z) (hj:Z[j]? =aa (.bD l)) (hm:(aR r m).eA j=aa W) (f: ∀v,(i,j,v)∉M):
  s.le K {t:=s.t,H:=bc (bc s.H k (aa (.bd r m gen y ((i,j,.bn ct 1 (aR r W).size 0 l.length)::M)))) ct (aa (.bd r W 1 l [])),u:=bc s.u ct ab}:=by
 intro D a w h;have HG:=(h.heap k _ hk).1;have G:k≠ct:=by intro e;subst e;rw[HG] at hu;cases hu
 have jz:=(h.heap k _ hk).2;rcases jz.2 with ⟨aS,a2,_⟩|⟨b,us,B,aS,a2,a3,a4,a5,jN,jb,fW⟩
 ·rw[a2] at aP;simp at aP
 have hlt:=(bX.1 aP).1;have hjs:j<(aR r m).size:=by rw[<-a4 Z (bJ aP)];exact(bX.1 hj).1
 have I:i*(aR r m).size+j<us.size:=by
  have:(i+1)*(aR r m).size<=y.length*(aR r m).size:=eL _ hlt
  grind
 have p:=(a5 i j Z _ us[i*(aR r m).size+j] aP hj (jo I)).2 λv=>f v;rw[hm] at p;have L: ∀c g,D k=aa (aa c,g)-> ¬D.n k c:=by
  grind
 generalize ajd:us[i*(aR r m).size+j]=Je at p
 -- the cell's value under the new map, and the rest of the rows
 have Q: ∀(q:Option Nat) (N:Nat->Prop),(∀c,B i j c↔(q=aa c\/N c))->(∀(X:Nat->Prop),bp (D.split k ct q N) w X (.bn ct 1 (aR r W).size 0 l.length) Je)->
   ∀X,(∀c,X c->own K D s.H c)->cN (D.split k ct q N) w X k (.bd r m gen y ((i,j,.bn ct 1 (aR r W).size 0 l.length)::M)):=by
  intro q N dV bR X iJ;have hm':dS D (D.split k ct q N):=dS.of (λid x hx=>by
   have:id≠ct:=by intro e;subst e;rw[h.eh _ hu] at hx;cases hx
   rw[uY _ _ _ _ _ _ this];exact hx)
  refine⟨jz.1,.inr ⟨b,us,λA C c=>B A C c/\ ¬(A=i/\C=j),by rw[uY _ _ _ _ _ _ G];exact aS,a2,a3,a4,λA C F x u di cI hG=>⟨λv U=>?_,λcG=>?_⟩,
   λA C c f=>jN A C c f.1,λi1 pF i2 kY c h1 h2=>jb _ _ _ _ c h1.1 h2.1,λc=>?_⟩⟩
  ·rcases ef.1 U with e|U
   ·simp only[Prod.mk.injEq] at e;obtain⟨rfl,rfl,rfl⟩:=e
    have:u=Je:=by
     rw[<-ajd];rw[jo I] at hG;exact(Option.some.inj hG).symm
    subst this;exact⟨bR X,λc f=>f.2 ⟨rfl,rfl⟩⟩
   obtain⟨c1,c2⟩:=(a5 A C F x u di cI hG).1 v U;exact⟨c1.mono (Ext.refl _ _) (λc _=>iJ c) hm' (Shaped.refl _ _),λc hx=>c2 c hx.1⟩
  ·have afB: ¬(A=i/\C=j):=by rintro⟨rfl,rfl⟩;exact cG _ en
   exact(((a5 A C F x u di cI hG).2 λv bR=>cG v (ec _ bR)).mono (Ext.refl _ _) (λc _=>iJ c) λ_ _=>rfl).iff λc=>⟨λh=>h.1,λh=>⟨h,afB⟩⟩
  constructor
  ·rintro(⟨h1,_⟩|⟨_,_,h1,h2,h3⟩|⟨_,h1,_⟩)
   ·exact bz h1 G
   ·obtain⟨A,C,R⟩:=(fW c).1 h1;refine⟨A,C,R,?_⟩;rintro⟨rfl,rfl⟩;rcases(dV c).1 R with h4|h4
    ·exact h3 h4
    exact h2 h4
   exact bz rfl h1
  rintro⟨A,C,R,cG⟩;refine .inr (.inl ⟨rfl,G,(fW c).2 ⟨A,C,R⟩,λh4=>?_,λh4=>?_⟩)
  ·exact cG (jb _ _ _ _ c R ((dV c).2 (.inr h4)))
  exact cG (jb _ _ _ _ c R ((dV c).2 (.inl h4)))
 generalize Qd:B i j=N0 at p Q;cases p with
 |nil _ _ fC=>
  refine⟨_,h.split k ct aj (λ_=>False) _ (.bd r W 1 [] []) (by rw[hk];simp) hu (λb R=>by cases R) (λ_ h=>h.elim) L (λo=>Q aj (λ_=>False) (λc=>⟨λh=>bz h (fC c),λh=>by rcases h with h|h;cases h;exact h.elim⟩)
   (λX=> .iO ct 1 _ (cV _) (yQ _ _ _ _ _)) _ o) λo=>⟨cV _,.inl ⟨yQ _ _ _ _ _,rfl,λc f=>?_⟩⟩⟩
  rcases f with ⟨_,h⟩|⟨h,_⟩|⟨h,_⟩
  ·exact h
  ·exact G h.symm
  exact h rfl
 |own _ _ cI cap rf rD _ hw M uA cC lj b3 dV cM fC=>
  have sp:D.n k cI:=(fW cI).2 ⟨i,j,by rw[Qd];exact(fC cI).2 (.inl rfl)⟩;refine⟨_,h.split k ct (aa cI) (λc=> ∃i j,rD i j c) _ (.bd r W 1 l []) (by rw[hk];simp) hu (λb R=>by cases R;exact⟨sp,λ⟨A,C,h'⟩=>(dV A C _ h').2.2 rfl⟩)
   (λc f=>(fW c).2 ⟨i,j,by rw[Qd];exact(fC c).2 (.inr f)⟩) L
   (λo=>Q (aa cI) (λc=> ∃i j,rD i j c) (λc=>⟨λh=>by rcases(fC c).1 h with h|h;exact .inl (by rw[h]);exact .inr h,λh=>(fC c).2 (by rcases h with h|h;cases h;exact .inl rfl;exact .inr h)⟩)
    (λX=>?_) _ o) λo=>⟨cV _,.inr ⟨cI,rf,rD,yQ _ _ _ _ _,hw,by rw[M];exact eL _ cC,lj,λA C F x u c1 c2 eu=>Cell.of ((b3 A C F x u c1 c2 eu).mono (Ext.refl _ _) (λc _=>o c) λ_ _=>rfl),dV,cM,λc=>?_⟩⟩⟩
  ·have:=bp.bn (β:=D.split k ct (aa cI) λc=> ∃i j,rD i j c) (w:=w) (X:=X) ct 1 (aR r W).size 0 l.length cap cI rf.size (aR r W).ty (cV _) (yQ _ _ _ _ _) (kv.1 hw).1 (by unfold World.shape?;rw[hw]) (by rw[eg];exact M.symm) cC uA;rw[iq] at this;exact this
  constructor
  ·rintro(⟨_,h⟩|⟨h,_⟩|⟨h,_⟩)
   ·exact h
   ·exact bz h.symm G
   exact bz rfl h
  intro h;exact .inl ⟨rfl,h⟩
def Map.merge(a:Map)(k c gen:Nat):Map:=
 ⟨λi=>bif b4 i c then aa (aj,gen+1) else a i,λid b=>(id=k/\(a.n k b\/At a c b))\/(id≠k/\id≠c/\a.n id b)⟩
theorem LA(c:Map)(k a gen:Nat):c.merge k a gen a=aa (aj,gen+1):=by simp[Map.merge]
theorem u1(a:Map)(k c gen id:Nat)(h:id≠c):a.merge k c gen id=a id:=by simp[Map.merge,Oo h]
theorem ZJ{X:Map}{k n gen i b:Nat}(a:k≠n)(h:At (X.merge k n gen) i b):i≠n/\(At X i b\/(i=k/\At X n b)):=by
 rcases h with ⟨g,h⟩|⟨rfl,h⟩|⟨m,e,l⟩
 ·by_cases c:i=n
  ·subst c;rw[LA] at h;cases h
  rw[u1 _ _ _ _ _ c] at h;exact⟨c,.inl (.inl ⟨g,h⟩)⟩
 ·rcases h with h|h
  ·exact⟨a,.inl (.inr h)⟩
  exact⟨a,.inr ⟨rfl,h⟩⟩
 exact⟨e,.inl (.inr l)⟩
theorem Rel.merge{K:Ctx}{s:S}(h:Rel K β s a w)(k c gen:Nat)(q:Option Nat)(y:E)(j:s.H k≠aj)(F:s.H c≠aj)(W:k≠c)(D:K.dL<=c)(I:β c=aa (q,gen))(M:1<=gen)
  (N:(∀b,own K (β.merge k c gen) (bc (bc s.H c aj) k (aa y)) b->own K β s.H b)->dS β (β.merge k c gen)->cN (β.merge k c gen) w (own K (β.merge k c gen) (bc (bc s.H c aj) k (aa y))) k y):
  Rel K (β.merge k c gen) {t:=s.t,H:=bc (bc s.H c aj) k (aa y),u:=s.u} a w:=by
 have X:s.u c=ab:=by
  cases G:s.H c with
  |none=>exact bz G F
  |some B=>exact(h.heap c B G).1
 have L:s.u k=ab:=by
  cases G:s.H k with
  |none=>exact bz G j
  |some B=>exact(h.heap k B G).1
 have o:=fun {id b}=> @ZJ β k c gen id b W;have r: ∀b,own K (β.merge k c gen) (bc (bc s.H c aj) k (aa y)) b->own K β s.H b:=by
  rintro b (m|⟨id,C,Q⟩)
  ·exact .inl m
  obtain⟨Z,A|⟨rfl,A⟩⟩:=o Q
  ·refine .inr ⟨id,λB=>?_,A⟩;by_cases n:id=k
   ·subst n;exact j B
   rw[cb _ _ _ _ n,cb _ _ _ _ Z] at C;exact C B
  exact .inr ⟨c,F,A⟩
 have v:dS β (β.merge k c gen):=by
  intro id V g1 m;by_cases n:id=c
  ·subst n;rw[I] at m;cases m;exact .inr ⟨M,aj,gen+1,LA _ _ _ _,oO _⟩
  exact .inl (by rw[u1 _ _ _ _ _ n];exact m)
 refine {h with base:= ?_,eh:= ?_,eQ:= ?_,inj:= ?_,fresh:= ?_,heap:= ?_,dB:=λi=>(h.dB i).mono (Ext.refl _ _) (λb _=>r b) v (Shaped.refl _ _)}
 ·exact h.base.keep λid hid=>u1 _ _ _ _ _ O
 ·intro id hid;have l:s.u id=ak:=hid;rw[u1 _ _ _ _ _ (by intro e;subst e;rw[X] at l;cases l)];exact h.eh id l
 ·intro id b hid f;have l:s.u id=ak:=hid;rcases f with ⟨rfl,_⟩|⟨_,_,Z⟩
  ·rw[L] at l;cases l
  exact h.eQ id b l Z
 ·intro id T b C Q;obtain⟨aS,a2|⟨rfl,a2⟩⟩:=o C<;>obtain⟨U,R|⟨rfl,R⟩⟩:=o Q
  ·exact h.inj _ _ b a2 R
  ·exact bz (h.inj _ _ b a2 R) aS
  ·exact bz (h.inj _ _ b R a2) U
  rfl
 ·intro id b f;obtain⟨_,A|⟨_,A⟩⟩:=o f
  ·exact h.fresh id b A
  exact h.fresh c b A
 intro id e m;have m:bc (bc s.H c aj) k (aa y) id=aa e:=m;show s.u id=ab/\cN _ w (own K _ (bc (bc s.H c aj) k (aa y))) id e;by_cases n:id=k
 ·subst n;rw[cc] at m;cases m
  grind
 rw[cb _ _ _ _ n] at m;by_cases p:id=c
 ·subst p;rw[cc] at m;cases m
 rw[cb _ _ _ _ p] at m;obtain⟨C,Q⟩:=h.heap id e m;exact⟨C,Q.mono (Ext.refl _ _) (λb _=>r b) v (λx m=>by rw[u1 _ _ _ _ _ p];exact m) (Shaped.refl _ _) (λ_ _=>rfl) (λb=>⟨λh=>by
  rcases h with ⟨h,_⟩|⟨_,_,h⟩
  ·exact bz h n
  exact h,λh=> .inr ⟨n,p,h⟩⟩)⟩
theorem U9{K:Ctx}{s:S}(k G i j m2 lP z n:Nat){F:List dt}{gen:Nat}{p:List (List T)}{o:List T}{l:List (List T)}(hk:s.H k=aa (.bd F m gen p ((i,j,.bn G lP z 0 n)::hs)))
  (pv:s.H G=aa (.bd F m2 lP l [])) (e4:z=(aR F m2).size) (cG:n=l.length) (hne:k≠G) (qK:cY K.dL G=ab) (aP:p[i]? =aa o) (hm:(aR F m).eA j=aa m2) (afn:df j (aR F m).size=ab) (bN: ∀v,(i,j,v)∉hs):
  s.le K {t:=s.t,H:=bc (bc s.H G aj) k (aa (.bd F m gen (p.set i (o.set j (.bD l))) hs)),u:=s.u}:=by
 subst e4;subst cG;intro I a w h;have qK:=eG qK;obtain⟨q,hq⟩:=tr (h.heap G _ pv).2;have jz:=(h.heap k _ hk).2;have R:=(h.heap G _ pv).2;refine⟨_,h.merge k G lP q (.bd F m gen (p.set i (o.set j (.bD l))) hs) (by rw[hk];simp) (by rw[pv];simp) hne qK hq R.1 λW hm'=>⟨jz.1,?_⟩⟩;rcases jz.2 with ⟨aS,a2,_⟩|⟨b,us,B,aS,a2,a3,a4,a5,jN,jb,fW⟩
 ·rw[a2] at aP;simp at aP
 have M:=(bX.1 aP).1
 -- the blocks of the slice
 have N:At I k b:= .inl ⟨_,aS⟩;have afo: ∀(u:Value),bp I w (own K I s.H) (.bn G lP (aR F m2).size 0 l.length) u->
   gP F w (own K (I.merge k G lP) (bc (bc s.H G aj) k (aa (.bd F m gen (p.set i (o.set j (.bD l))) hs)))) (aa m2) (.bD l) u (λc=>At I G c):=by
  intro u hu;rcases fY hu hq with ⟨cap,cI,n2,l5,rfl,kU,hw,U,sq,cC,uA⟩|⟨kU,_,h0,rfl⟩
  ·subst kU;rcases R.2 with ⟨c1,_⟩|⟨hG,rf,rD,c1,c2,eu,fA,gA,jQ,nh,ke⟩
   ·rw[hq] at c1;cases c1
   rw[hq] at c1;cases c1;rw[iq];have HQ:rf.size=cap*(aR F m2).size:=by
    unfold World.shape? at U;rw[c2] at U;simp at U;rw[U.2,<-sq,eg]
   refine .own m2 l cI cap rf rD _ c2 HQ uA cC fA (λy A X x u d1 d2 d3=>(gA y A X x u d1 d2 d3).none.mono (Ext.refl _ _) (λc _=>W c) λ_ _=>rfl) jQ nh λc=>⟨?_,?_⟩
   ·rintro(⟨g,bG⟩|bG)
    ·rw[hq] at bG;cases bG;exact .inl rfl
    exact .inr ((ke c).1 bG)
   rintro(rfl|bG)
   ·exact .inl ⟨_,hq⟩
   exact .inr ((ke c).2 bG)
  subst kU
  have:l=[]:=nH h0;subst this;refine .nil m2 _ λc bN=>?_;rcases bN with ⟨g,bG⟩|bG
  ·rw[hq] at bG;cases bG
  rcases R.2 with ⟨_,_,eu⟩|⟨hG,rf,rD,c1,_⟩
  ·exact eu c bG
  rw[hq] at c1;cases c1
 have Z: ∀c,At I G c-> ¬At I k c:=λc C Q=>hne (h.inj _ _ c Q C);have P9: ∀y A c,B y A c->At I k c:=λy A c bN=> .inr ((fW c).2 ⟨y,A,bN⟩);have hjs: ∀(x:T),o[j]? =aa x->j<(aR F m).size:=λx hx=>by rw[<-a4 o (bJ aP)];exact(bX.1 hx).1
 have hrl:o.length=(aR F m).size:=a4 o (bJ aP);by_cases f:j<o.length
 ·have Hz:i*(aR F m).size+j<us.size:=by
   have:(i+1)*(aR F m).size<=p.length*(aR F m).size:=eL _ M;rw[fc] at this;omega
  have hcell:=a5 i j o o[j] us[i*(aR F m).size+j] aP (bo f) (jo Hz);obtain⟨af1,aeC⟩:=hcell.1 _ en;refine .inr ⟨b,us,λy A c=>B y A c\/(y=i/\A=j/\At I G c),by rw[u1 _ _ _ _ _ hne];exact aS,a2,by simpa using a3,?_,?_,?_,?_,?_⟩
  ·intro r b3;rcases td b3 with b3|rfl
   ·exact a4 r b3
   simpa using hrl
  ·intro y A X x u di cI hG;by_cases BI:y=i/\A=j
   ·obtain⟨rfl,rfl⟩:=BI;rw[hU M] at di;cases di;rw[hU f] at cI;cases cI;rw[jo Hz] at hG;cases hG;refine⟨λv bR=>bz bR (bN v),λ_=>?_⟩;rw[hm];refine(afo _ af1).iff λc=>⟨λh=>?_,λh=> .inr ⟨rfl,rfl,h⟩⟩
    rcases h with h|⟨_,_,h⟩
    ·exact bz h (aeC c)
    exact h
   have hold: ∃L k8,p[y]? =aa L/\L[A]? =aa k8/\k8=x:=by
    by_cases xu:y=i
    ·subst xu;rw[hU M] at di;cases di;rw[jm (by intro e;exact BI ⟨rfl,e.symm⟩)] at cI;exact⟨o,x,aP,cI,rfl⟩
    rw[jm (Ne.symm xu)] at di;exact⟨X,x,di,cI,rfl⟩
   obtain⟨L,k8,d1,d2,rfl⟩:=hold;have sf:=a5 y A L k8 u d1 d2 hG;have Qn: ∀c,(B y A c\/(y=i/\A=j/\At I G c))↔B y A c:=λc=>⟨λh=>by
    rcases h with h|⟨C,Q,_⟩
    ·exact h
    exact bz ⟨C,Q⟩ BI,.inl⟩
   refine⟨λv bR=>?_,λcG=>?_⟩
   ·obtain⟨C,Q⟩:=sf.1 v (ec _ bR);exact⟨C.mono (Ext.refl _ _) (λc _=>W c) hm' (Shaped.refl _ _),λc hx=>Q c ((Qn c).1 hx)⟩
   refine((sf.2 λv bR=>?_).mono (Ext.refl _ _) (λc _=>W c) λ_ _=>rfl).iff Qn;rcases ef.1 bR with e|bR
   ·cases e;exact BI ⟨rfl,rfl⟩
   exact cG v bR
  ·intro y A c D;rcases D with D|⟨rfl,rfl,D⟩
   ·simpa using jN y A c D
   refine⟨by simpa using M,O,λe=>?_⟩;subst e;exact Z c D N
  ·intro i1 pF i2 kY c C Q;rcases C with C|⟨rfl,rfl,C⟩<;>rcases Q with Q|⟨rfl,rfl,Q⟩
   ·exact jb _ _ _ _ c C Q
   ·exact bz (P9 _ _ c C) (Z c Q)
   ·exact bz (P9 _ _ c Q) (Z c C)
   exact⟨rfl,rfl⟩
  intro c;constructor
  ·rintro(⟨_,C|C⟩|⟨C,_⟩)
   ·obtain⟨y,A,D⟩:=(fW c).1 C;exact⟨y,A,.inl D⟩
   ·exact⟨i,j,.inr ⟨rfl,rfl,C⟩⟩
   exact bz rfl C
  rintro⟨y,A,D|⟨_,_,D⟩⟩
  ·exact .inl ⟨rfl,.inl ((fW c).2 ⟨y,A,D⟩)⟩
  exact .inl ⟨rfl,.inr D⟩
 exact bz (by rw[hrl];simpa[Nat.blt_eq] using afn) f
theorem Rel.ID{K:Ctx}{s:S}(h:Rel K β s a w)(k:Nat)(e e':E)(q:s.H k=aa e)(r:cN β w (own K β s.H) k e->cN β w (own K β s.H) k e'):
  Rel K β {s with H:=bc s.H k (aa e')} a w:=by
 have c: ∀b,own K β (bc s.H k (aa e')) b->own K β s.H b:=by
  rintro b (l|⟨id,m,n⟩)
  ·exact .inl l
  refine .inr ⟨id,λp=>?_,n⟩;by_cases o:id=k
  ·subst o;rw[q] at p;cases p
  rw[cb _ _ _ _ o] at m;exact m p
 refine {h with heap:= ?_,dB:=λi=>(h.dB i).mono (Ext.refl _ _) (λb _=>c b) (dS.refl _) (Shaped.refl _ _)};intro id x l;have l:bc s.H k (aa e') id=aa x:=l;by_cases o:id=k
 ·subst o;rw[cc] at l;cases l;obtain⟨m,n⟩:=h.heap id e q;exact⟨m,(r n).mono (Ext.refl _ _) (λb _=>c b) (dS.refl _) (λ_ h=>h) (Shaped.refl _ _) λ_ _=>rfl⟩
 rw[cb _ _ _ _ o] at l;obtain⟨m,n⟩:=h.heap id x l;exact⟨m,n.mono (Ext.refl _ _) (λb _=>c b) (dS.refl _) (λ_ h=>h) (Shaped.refl _ _) λ_ _=>rfl⟩
theorem Zb{K:Ctx}{s:S}(k i j:Nat){D:List dt}{gen:Nat}{c:List (List T)}{l:List T}{x:T}{I:List (Nat×Nat×V)}(A:s.H k=aa (.bd D m gen c I))(q:c[i]? =aa l)(C:l[j]? =aa x)(F:(aR D m).eA j=aj)(G:rq j I=ab):
  s.le K {s with H:=bc s.H k (aa (.bd D m gen c ((i,j,.t x)::I)))}:=by
 intro L a w h;refine⟨L,h.ID k _ (.bd D m gen c ((i,j,.t x)::I)) A λo=>?_⟩;refine⟨o.1,?_⟩;rcases o.2 with ⟨aS,a2,_⟩|⟨b,Q,B,aS,a2,a3,a4,a5,jN,jb,fW⟩
 ·rw[a2] at q;simp at q
 refine .inr ⟨b,Q,B,aS,a2,a3,a4,λR W p X u r y Z=>?_,jN,jb,fW⟩;have n:=a5 R W p X u r y Z;refine⟨λv bR=>?_,λf=>n.2 λv bR=>f v (ec _ bR)⟩;rcases ef.1 bR with e|bR
 ·simp only[Prod.mk.injEq] at e;obtain⟨rfl,rfl,rfl⟩:=e;rw[q] at r;cases r;rw[C] at y;cases y
  have:=n.2 λv=>zb G _ _;rw[F] at this;cases this with|kj _ _ _ h M=>exact⟨.t _ _ h,M⟩
 exact n.1 v bR
theorem Wz{K:Ctx}{s:S}(k i j:Nat){C:List dt}{gen:Nat}{n:List (List T)}{l:List T}{x:T}{I:List (Nat×Nat×V)}(hk:s.H k=aa (.bd C m gen n ((i,j,.t x)::I)))(F:n[i]? =aa l)(U:df j (aR C m).size=ab)(hm:(aR C m).eA j=aj)(bN:rq j I=ab):
  s.le K {s with H:=bc s.H k (aa (.bd C m gen (n.set i (l.set j x)) I))}:=by
 intro β a w h;refine⟨β,h.ID k _ (.bd C m gen (n.set i (l.set j x)) I) hk λL=>?_⟩;refine⟨L.1,?_⟩;rcases L.2 with ⟨aS,a2,_⟩|⟨b,us,B,aS,a2,a3,a4,a5,jN,jb,fW⟩
 ·rw[a2] at F;simp at F
 have Q:=(bX.1 F).1;have R:l.length=(aR C m).size:=a4 l (bJ F);have q:j<l.length:=by rw[R];simpa[Nat.blt_eq] using U
 refine .inr ⟨b,us,B,aS,a2,by simpa using a3,λr b3=>?_,λy A W j4 u G X hG=>?_,λy A c a7=>by simpa using jN y A c a7,jb,fW⟩
 ·rcases td b3 with b3|rfl
  ·exact a4 r b3
  simpa using R
 by_cases Z:y=i/\A=j
 ·obtain⟨rfl,rfl⟩:=Z;rw[hU Q] at G;cases G;rw[hU q] at X;cases X;have p:=(a5 y A l l[A] u F (bo q) hG).1 _ en;refine⟨λv M=>bz M (zb bN _ _),λ_=>?_⟩;rw[hm];obtain⟨h1,h2⟩:=p;cases h1 with|t _ _ h1=>exact .kj _ _ _ h1 h2
 have f: ∃o N,n[y]? =aa o/\o[A]? =aa N/\N=j4:=by
  by_cases D:y=i
  ·subst D;rw[hU Q] at G;cases G;rw[jm (by intro e;exact Z ⟨rfl,e.symm⟩)] at X;exact⟨l,j4,F,X,rfl⟩
  rw[jm (Ne.symm D)] at G;exact⟨W,j4,G,X,rfl⟩
 obtain⟨o,N,d1,d2,rfl⟩:=f;have p:=a5 y A o N u d1 d2 hG;refine⟨λv M=>p.1 v (ec _ M),λcG=>p.2 λv M=>?_⟩
 grind
theorem Xm{K:Ctx}{s:S}(k i j m2:Nat){A:List dt}{gen:Nat}{n:List (List T)}{l:List T}{D:List (Nat×Nat×V)}(hk:s.H k=aa (.bd A m gen n ((i,j,.t .fF)::D)))(C:n[i]? =aa l)(N:df j (aR A m).size=ab)(hm:(aR A m).eA j=aa m2)(bN:rq j D=ab):
  s.le K {s with H:=bc s.H k (aa (.bd A m gen (n.set i (l.set j (.bD []))) D))}:=by
 intro β a w h;refine⟨β,h.ID k _ (.bd A m gen (n.set i (l.set j (.bD []))) D) hk λG=>?_⟩;refine⟨G.1,?_⟩;rcases G.2 with ⟨aS,a2,_⟩|⟨b,us,B,aS,a2,a3,a4,a5,jN,jb,fW⟩
 ·rw[a2] at C;simp at C
 have L:=(bX.1 C).1;have Q:l.length=(aR A m).size:=a4 l (bJ C);have q:j<l.length:=by rw[Q];simpa[Nat.blt_eq] using N
 refine .inr ⟨b,us,B,aS,a2,by simpa using a3,λr U=>?_,λx y R j4 u F W hG=>?_,λx y c a7=>by simpa using jN x y c a7,jb,fW⟩
 ·rcases td U with U|rfl
  ·exact a4 r U
  simpa using Q
 by_cases X:x=i/\y=j
 ·obtain⟨rfl,rfl⟩:=X;rw[hU L] at F;cases F;rw[hU q] at W;cases W;have p:=(a5 x y l l[y] u C (bo q) hG).1 _ en;refine⟨λv I=>bz I (zb bN _ _),λ_=>?_⟩;rw[hm];obtain⟨h1,h2⟩:=p;cases h1 with|t _ _ h1=>cases h1 with|fF=>exact .nil _ _ h2
 have Z: ∃o M,n[x]? =aa o/\o[y]? =aa M/\M=j4:=by
  by_cases f:x=i
  ·subst f;rw[hU L] at F;cases F;rw[jm (by intro e;exact X ⟨rfl,e.symm⟩)] at W;exact⟨l,j4,C,W,rfl⟩
  rw[jm (Ne.symm f)] at F;exact⟨R,j4,F,W,rfl⟩
 obtain⟨o,M,d1,d2,rfl⟩:=Z;have p:=a5 x y o M u d1 d2 hG;refine⟨λv I=>p.1 v (ec _ I),λcG=>p.2 λv I=>?_⟩
 grind
theorem Za{K:Ctx}{s:S}(k:Nat){R:List dt}{gen:Nat}{e:List (List T)}{C:List (Nat×Nat×V)}(l:List dt)(o:Nat)(L:s.H k=aa (.bd R m gen e C))(Q:cY K.dL k=ab)
  (h1:(aR l o).ty=(aR R m).ty) (W:(aR l o).size=(aR R m).size) (h3:(aR l o).bk=[]):
  s.le K {s with H:=bc s.H k (aa (.bd l o gen e C))}:=by
 have qK:=eG Q;have F: ∀j,(aR l o).eA j=aj:=λj=>by unfold dt.eA;rw[h3];rfl
 intro A a w h;have r:=(h.heap k _ L).2;have G:dS A (A.drop k):=λ_ _ _ y=> .inl y;rcases r.2 with ⟨aS,a2,a3⟩|⟨b,us,B,aS,a2,a3,a4,a5,jN,jb,fW⟩
 ·exact⟨_,h.drop k (.bd l o gen e C) (by rw[L];simp) ⟨r.1,.inl ⟨aS,a2,λc n=>n.1 rfl⟩⟩⟩
 refine⟨_,h.drop k (.bd l o gen e C) (by rw[L];simp) ⟨r.1,.inr ⟨b,us,λ_ _ _=>False,aS,by rw[h1];exact a2,by rw[W];exact a3,by rw[W];exact a4,?_,λ_ _ _ n=>n.elim,λ_ _ _ _ _ n=>n.elim,λc=>⟨λn=>(n.1 rfl).elim,λ⟨_,_,n⟩=>n.elim⟩⟩⟩⟩;intro i j X x u di cI M;rw[W] at M;have N:=a5 i j X x u di cI M;generalize U:own K (A.drop k) (bc s.H k (aa (.bd l o gen e C)))=h8;have p: ∀b,h8 b->own K A s.H b:=by
  subst U;rintro b (y|⟨id,Z,q⟩)
  ·exact .inl y
  refine .inr ⟨id,λf=>?_,nz q⟩;by_cases aP:id=k
  ·subst aP;rw[L] at f;cases f
  rw[cb _ _ _ _ aP] at Z;exact Z f
 refine⟨λv bR=>⟨(N.1 v bR).1.mono (Ext.refl _ _) (λb _=>p b) G (Shaped.refl _ _),λ_ n=>n⟩,λD=>?_⟩;rw[F];refine .kj _ _ _ ((N.2 D).yl p ?_) λ_ n=>n;intro c n y;subst U;have Q:At A k c:= .inr ((fW c).2 ⟨i,j,n⟩);rcases y with y|⟨id,Z,q⟩
 ·obtain⟨hW,j5⟩:=h.kz c y;rcases(h.fresh k c Q).1 with I|kW
  ·exact j5 I
  omega
 have:=h.inj _ _ _ (nz q) Q;subst this;rcases q with ⟨g,q⟩|q
 ·have g3:A id=aa (aa c,g):=q
  grind
 exact q.1 rfl
def E.gen:E->Option Nat
 | .cells _=>aj
 | .arr _ g _ _=>aa g
 | .bd _ _ g _ _=>aa g
theorem oZ{T:Map}{g:Nat}{e:E}(h:cN T w X n e)(c:e.gen=aa g):1<=g/\ ∃q,T n=aa (q,g):=by
 cases e with
 |cells cs=>cases c
 |arr ty k size a=>
  cases c;exact⟨h.1,by rcases h.2 with ⟨i,_⟩|⟨b,l,i,_⟩<;>exact⟨_,i⟩⟩
 |bd o m k a p=>
  cases c;exact⟨h.1,tr h⟩
theorem Rel.Q7{K:Ctx}{s:S}(h:Rel K β s a w)(k:Nat)(e e':E)(g:Nat)(M:s.H k=aa e)(bG:e.gen=aa g)(C:Array Value)(F:TypeId)
  (he: ∀(y:Map) (I:Nat->Prop) (G:World),G=w.alloc (.cells C F)->y k=aa (aa w.heap.size,g+1)->(∀b,y.n k b↔β.n k b)->(∀v u,bp β w (own K β s.H) v u->bp y G I v u)->
   (∀x u,dh w (own K β s.H) x u->dh G I x u)->(∀T m x u N,(∀b,N b->β.n k b)->gP T w (own K β s.H) m x u N->gP T G I m x u N)->cN y G I k e'):
  Rel K (β.put k (aa (aa w.heap.size,g+1))) {s with H:=bc s.H k (aa e')} a (w.alloc (.cells C F)):=by
 have c: ∀X,Ext X w (w.alloc (.cells C F)):=λX=>Ext.alloc X w _;have L:s.u k=ab:=(h.heap k _ M).1;obtain⟨Q,ye,R⟩:=oZ (h.heap k _ M).2 bG;have l: ∀id b,At (β.put k (aa (aa w.heap.size,g+1))) id b->(id=k/\b=w.heap.size)\/At β id b:=λid b a7=>by
  rcases a7 with ⟨g,a7⟩|a7
  ·by_cases q:id=k
   ·subst q;rw[lW] at a7;cases a7;exact .inl ⟨rfl,rfl⟩
   rw[fz _ _ _ _ q] at a7;exact .inr (.inl ⟨g,a7⟩)
  exact .inr (.inr a7)
 have o: ∀b,b<w.heap.size->own K (β.put k (aa (aa w.heap.size,g+1))) (bc s.H k (aa e')) b->own K β s.H b:=by
  rintro b hlt (W|⟨id,B,Z⟩)
  ·exact .inl W
  rcases l id b Z with ⟨rfl,rfl⟩|A
  ·omega
  refine .inr ⟨id,λU=>?_,A⟩;by_cases q:id=k
  ·subst q;rw[M] at U;cases U
  rw[cb _ _ _ _ q] at B;exact B U
 have f:Shaped β w (w.alloc (.cells C F)):=i8 (c _);have j:=N8 ye (aa w.heap.size) Q R;have D: ∀v u,bp β w (own K β s.H) v u->bp (β.put k (aa (aa w.heap.size,g+1))) (w.alloc (.cells C F)) (own K (β.put k (aa (aa w.heap.size,g+1))) (bc s.H k (aa e'))) v u:=
  λv u bR=>bR.mono (c _) o j f
 refine {ext:=h.ext.trans ((c λ_=>False).weaken λ_ _ h=>h.elim),qH:=h.qH,qY:=h.qY,kz:=h.kz,uN:=h.uN,base:= ?_,j1:=h.j1.ext h.ext.size (c _),low:=h.low,eh:= ?_,eQ:=λid b hid=>h.eQ id b hid,inj:= ?_,fresh:= ?_,heap:= ?_,dB:=λi=>D _ _ (h.dB i),nt:=h.nt,defers:=h.defers}
 ·exact h.base.grow k g ye (aa w.heap.size) R Q (lW _ _ _) (λb a7=>by cases a7;exact .inr h.ext.size) λid q=>fz _ _ _ _ q
 ·intro id hid;have r:s.u id=ak:=hid;by_cases e:id=k
  ·subst e;rw[L] at r;cases r
  rw[fz _ _ _ _ e];exact h.eh id r
 ·intro id V b B Z;rcases l id b B with ⟨rfl,rfl⟩|A<;>rcases l V _ Z with ⟨rfl,e⟩|h4
  ·rfl
  ·have:=(h.fresh _ _ h4).2;omega
  ·subst e;have:=(h.fresh _ _ A).2;omega
  exact h.inj _ _ _ A h4
 ·intro id b a7;rcases l id b a7 with ⟨rfl,rfl⟩|A
  ·exact⟨.inr h.ext.size,aW⟩
  exact⟨(h.fresh _ _ A).1,by have:=(h.fresh _ _ A).2;simp;omega⟩
 intro id e2 p;have p:bc s.H k (aa e') id=aa e2:=p;show s.u id=ab/\cN _ _ (own K _ (bc s.H k (aa e'))) id e2;by_cases q:id=k
 ·subst q;rw[cc] at p;cases p;exact⟨L,he _ _ _ rfl (lW _ _ _) (λ_=>Iff.rfl) D (λx u W=>W.mono (c _) o) λT m x u N fC b3=>b3.mono (c _) o λb a7=>heap_alloc _ _ _ (h.fresh id b (.inr (fC b a7))).2⟩
 rw[cb _ _ _ _ q] at p;obtain⟨B,Z⟩:=h.heap id e2 p;refine⟨B,Z.mono (c _) o j (λx W=>by rw[fz _ _ _ _ q];exact W) f λb a7=>heap_alloc _ _ _ (h.fresh id b a7).2⟩
theorem Rel.PV{K:Ctx}{s:S}(h:Rel K β s a w)(k:Nat)(e e':E)(g:Nat)(q:Option Nat)(Q:β k=aa (q,g))(A:1<=g)(f:s.H k=aa e)
  (j: ∀(r:Map) (R:Nat->Prop),r k=aa (q,g+1)->(∀b,r.n k b↔β.n k b)->(∀v u,bp β w (own K β s.H) v u->bp r w R v u)->(∀b,R b->own K β s.H b)->cN r w R k e'):
  Rel K (β.put k (aa (q,g+1))) {s with H:=bc s.H k (aa e')} a w:=by
 have B:s.u k=ab:=(h.heap k _ f).1;have c: ∀id b,At (β.put k (aa (q,g+1))) id b->At β id b:=λid b a7=>by
  rcases a7 with ⟨g,a7⟩|a7
  ·by_cases m:id=k
   ·subst m;rw[lW] at a7;cases a7;exact .inl ⟨_,Q⟩
   rw[fz _ _ _ _ m] at a7;exact .inl ⟨g,a7⟩
  exact .inr a7
 have o: ∀b,own K (β.put k (aa (q,g+1))) (bc s.H k (aa e')) b->own K β s.H b:=by
  rintro b (W|⟨id,y,C⟩)
  ·exact .inl W
  refine .inr ⟨id,λX=>?_,c id b C⟩;by_cases m:id=k
  ·subst m;rw[f] at X;cases X
  rw[cb _ _ _ _ m] at y;exact y X
 have F:=N8 q q A Q;have G: ∀v u,bp β w (own K β s.H) v u->bp (β.put k (aa (q,g+1))) w (own K (β.put k (aa (q,g+1))) (bc s.H k (aa e'))) v u:=λv u D=>D.mono (Ext.refl _ _) (λb _=>o b) F (Shaped.refl _ _);refine {h with base:= ?_,eh:= ?_,inj:= ?_,fresh:=λid b a7=>h.fresh id b (c id b a7),heap:= ?_,dB:=λi=>G _ _ (h.dB i)}
 ·exact h.base.grow k g q q Q A (cc _ _ _) (λb a7=> .inl a7) λid m=>fz _ _ _ _ m
 ·intro id hid;have p:s.u id=ak:=hid;by_cases e:id=k
  ·subst e;rw[B] at p;cases p
  rw[fz _ _ _ _ e];exact h.eh id p
 ·intro id L b y C;exact h.inj id L b (c id b y) (c L b C)
 intro id Z l;have l:bc s.H k (aa e') id=aa Z:=l;show s.u id=ab/\cN _ _ (own K _ (bc s.H k (aa e'))) id Z;by_cases m:id=k
 ·subst m;rw[cc] at l;cases l;exact⟨B,j _ _ (lW _ _ _) (λ_=>Iff.rfl) G o⟩
 rw[cb _ _ _ _ m] at l;obtain⟨y,C⟩:=h.heap id Z l;exact⟨y,C.mono (Ext.refl _ _) (λb _=>o b) F (λx W=>by rw[fz _ _ _ _ m];exact W) (Shaped.refl _ _) λ_ _=>rfl⟩
theorem YA{size:Nat}{a c:List (List T)}(p q k:List Value)(A:a.length=n)(B:p.length=n*size)(G:q.length=c.length*size)(C: ∀e,e∈a->e.length=size)(r: ∀e,e∈c->e.length=size){R:Nat->Nat->T->Value->Prop}
  (L: ∀(i j:Nat) (e:List T) (x:T) (u:Value),a[i]? =aa e->e[j]? =aa x->p[i*size+j]? =aa u->R i j x u)
  (Q: ∀(i j:Nat) (e:List T) (x:T) (u:Value),c[i]? =aa e->e[j]? =aa x->q[i*size+j]? =aa u->R (n+i) j x u):
  ∀(i j:Nat) (e:List T) (x:T) (u:Value),(a++c)[i]? =aa e->e[j]? =aa x->(p++q++k)[i*size+j]? =aa u->R i j x u:=by
 intro i j e x u l y F;by_cases m:i<a.length
 ·rw[iV m] at l;have h:j<size:=by rw[<-C e (bJ l)];exact(bX.1 y).1
  have o:i*size+j<p.length:=by rw[B,<-A];exact oI m h
  grind
 rw[hT O] at l;have h:j<size:=by rw[<-r e (bJ l)];exact(bX.1 y).1
 have w:=(bX.1 l).1;have o:=oI (size:=size) w h
 grind
def iy(n:Nat):List (Nat×Nat×V)->List (Nat×Nat×V)
 | []=>[]
 |h::hs=>(n+h.1,h.2.1,h.2.2)::iy n hs
theorem Ar{n:Nat}: ∀{hs:List (Nat×Nat×V)} {i j:Nat} {v:V},(i,j,v)∈iy n hs↔ ∃k,i=n+k/\(k,j,v)∈hs
 | [],_,_,_=>by simp[iy]
 |h::hs,i,j,v=>by
  simp only[iy,List.mem_cons,Prod.mk.injEq,Ar (hs:=hs)];constructor
  ·rintro(⟨l,e,m⟩|⟨k,l,e⟩)
   ·exact⟨h.1,l,.inl (by obtain⟨a,b,c⟩:=h;cases e;cases m;rfl)⟩
   exact⟨k,l,.inr e⟩
  rintro⟨k,l,e|e⟩
  ·subst e;exact .inl ⟨l,rfl,rfl⟩
  exact .inr ⟨k,l,e⟩
def zN(n:Map)(w:World)(X:Nat->Prop)(c:Nat)(a:List (List T))(m:List (Nat×Nat×V))(u:Value):Prop:=
 ∃(b e l:Nat) (k:List Value),u= .slice (aa ⟨b,e,aj⟩) a.length l/\k.length=a.length*c/\
  (∀(j:Nat) x,k[j]? =aa x->w.cell? ⟨b,e+j,aj⟩=aa x)/\(∀x,x∈k->x.oneCell'=ab)/\
  ∀(i j:Nat) (h:List T) (x:T) (y:Value),a[i]? =aa h->h[j]? =aa x->k[i*c+j]? =aa y->(∀v,(i,j,v)∈m->bp n w X v y)/\((∀v,(i,j,v)∉m)->dh w X x y)
def tF:List (Nat×Nat×V)->Bool
 | []=>ab
 |h::a=>h.2.2.one&&tF a
theorem KG: ∀{a:List (Nat×Nat×V)} {i j:Nat} {v:V},tF a=ab->(i,j,v)∈a->v.one=ab
 | [],_,_,_,_,h=>by cases h
 |h::a,i,j,v,c,hm=>by
  simp only[tF,b5] at c;rcases ef.1 hm with rfl|hm
  ·exact c.1
  exact KG c.2 hm
def tz(d:dt)(n:Nat)(a:List (Nat×Nat×V)):Bool:=
 (List.range n).all λi=>d.bk.all λp=>a.any λh=>b4 h.1 i&&b4 h.2.1 p.1
theorem LF: ∀{l:List (Nat×Nat)} {j m:Nat},tQ l j=aa m->(j,m)∈l
 | [],_,_,h=>by cases h
 |p::l,j,m,h=>by
  simp only[tQ] at h;cases a:b4 p.1 j with
  |true=>rw[a] at h;cases h;rw[<-c4 a];exact en
  |false=>rw[a] at h;exact ec _ (LF h)
theorem KS{d:dt}(h:tz d n hs=ab){j:Nat}(e:i<n)(k:d.eA j=aa m): ∃v,(i,j,v)∈hs:=by
 have l:=gq.1 h i (p5.2 e);have o:=gq.1 l (j,m) (LF k);obtain⟨⟨a,b,v⟩,p,c⟩:=jE.1 o;simp only[b5] at c;have q:=c4 c.1;have r:=c4 c.2
 grind
theorem zN.of{K:Ctx}{s:S}(h:Rel K β s a w){g:Nat}{l:List dt}{c:List (List T)}{r:List (Nat×Nat×V)}{u:Value}(hk:s.H k=aa (.bd l m g c r))(cG:n=c.length)
  (hu:bp β w (own K β s.H) (.bn k g (aR l m).size 0 n) u) (M:0<c.length) (ew:tF r=ab) (bN:tz (aR l m) c.length r=ab):zN β w (own K β s.H) (aR l m).size c r u:=by
 subst cG;have X:=(h.heap k _ hk).2;rcases X.2 with ⟨_,F,_⟩|⟨b,N,B,aS,a2,a3,a4,a5,jN,jb,fW⟩
 ·rw[F] at M;simp at M
 rcases fY hu aS with ⟨Z,hF,Ig,l5,rfl,f,hw,iL,sq,cC,hm⟩|⟨f,_⟩
 ·cases f;rw[iq];have A: ∀(i j:Nat) (o:List T) (x:T) (y:Value),c[i]? =aa o->o[j]? =aa x->N[i*(aR l m).size+j]? =aa y->
    (∀v,(i,j,v)∈r->bp β w (own K β s.H) v y)/\((∀v,(i,j,v)∉r)->dh w (own K β s.H) x y):=by
   intro i j o x y C F W;have G:=a5 i j o x y C F W;refine⟨λv p=>(G.1 v p).1,λL=>?_⟩;have U:=G.2 L;have Q:(aR l m).eA j=aj:=by
    cases D:(aR l m).eA j with
    |none=>rfl
    |some ajn=>
     obtain⟨v,p⟩:=KS bN (bX.1 C).1 D;exact bz p (L v)
   rw[Q] at U;cases U with|kj _ _ _ h _=>exact h
  refine⟨b,0,Z,N.toList.take (c.length*(aR l m).size),rfl,bZ,λj x q=>?_,λx hx=>?_,λi j o x y C F W=>?_⟩
  ·rw[hS] at q;split at q
   ·simp only[World.cell?,a2,Nat.zero_add];simpa using q
   cases q
  ·obtain⟨j,q⟩:=kx.1 hx;rw[hS] at q;split at q
   ·rename_i R;have e4:0<(aR l m).size:=Nat.pos_of_ne_zero λe=>by rw[e] at R;omega
    have C:j / (aR l m).size<c.length:=by rw[yD e4];exact R
    have F:=Nat.mod_lt j e4;have W:=a4 _ (gp C);have he:j / (aR l m).size*(aR l m).size+j%(aR l m).size=j:=by rw[Nat.mul_comm];exact Nat.div_add_mod ..
    obtain⟨c1,c2⟩:=A (j / (aR l m).size) (j%(aR l m).size) _ _ x (bo C) (bo (by omega:j%(aR l m).size<(c[j / (aR l m).size]).length)) (by rw[he];simpa using q);by_cases p: ∃v,(j / (aR l m).size,j%(aR l m).size,v)∈r
    ·obtain⟨v,p⟩:=p;exact(c1 v p).jZ (KG ew p)
    exact(c2 λv I=>p ⟨v,I⟩).jZ
   cases q
  rw[hS] at W
  grind
 cases f
theorem Rel.PO{K:Ctx}{s:S}{t e:TypeId}{u:TypeDesc}{z:Value}{gen L bytes:Nat}(h:Rel K β s a w)(k:Nat)(r:List dt)(m:Nat)(l o:List (List T))(C:List (Nat×Nat×V))(hk:s.H k=aa (.bd r m gen l []))(uy:(aR r m).size=L)(nr:(aR r m).ty=e)(ty:TypeId)
  (hu:K.P.underlying t=aa (.slice e)) (he:cj K.P e u z L bytes) (xC:z.cells.size=L) (hs: ∀p,p∈l->p.length=L) (hs': ∀p,p∈o->p.length=L) (v x:Value) (bR:bp β w (own K β s.H) (.bn k gen L 0 l.length) v)
  (hx:zN β w (own K β s.H) L o C x) (QA:0<o.length) (aeV:tz (aR r m) o.length C=ab) (a7:(l.length+o.length)*bytes<=140737488355328) (hm:l.length+o.length<=maxLen):
  ∃dO w' F,(Builtin.append_ #[t,t] ty #[v,x]).run K.P w= .ok dO w'/\Rel K F {s with H:=bc s.H k (aa (.bd r m (gen+1) (l++o) (iy l.length C)))} a w'/\
   bp F w' (own K F (bc s.H k (aa (.bd r m (gen+1) (l++o) (iy l.length C))))) (.bn k (gen+1) L 0 (l.length+o.length)) dO:=by
 subst uy;subst nr;obtain⟨q,hq⟩:=tr (h.heap k _ hk).2;have kV:=(h.heap k _ hk).2.1;obtain⟨_,i,oo,hi2,U,uz⟩:=id he;have hm':l.length+o.length<=9223372036854775807:=by unfold maxLen at hm;omega
 have hE:=(h.heap k _ hk).2.2;have QF: ∀p,p∈l++o->p.length=(aR r m).size:=λp uB=>by
  rcases eS.1 uB with h|h
  ·exact hs p h
  exact hs' p h
 obtain⟨cI,off,BB,Z,xB,ot,HS,qM,hwr⟩:=hx;have HT: ∀j y,Z[j]? =aa y->w.cell? ((⟨cI,off,aj⟩:Addr).add j)=aa y:=λj y hy=>by rw[kl];exact HS j y hy
 have qJ:(l.length+o.length)*i.bytes<=140737488355328:=by rw[uz];exact a7
 have afp: ∀i j,i<o.length->(∀v,(i,j,v)∉C)->(aR r m).eA j=aj:=λi j aP lT=>by
  cases hkk:(aR r m).eA j with
  |none=>rfl
  |some ajn=>
   obtain⟨v,bR⟩:=KS aeV aP hkk;exact bz bR (lT v)
 -- the cells of old and new rows, in whatever world
 have M: ∀(B:Nat->Nat->Nat->Prop) (F:Map) (w':World) (h8:Nat->Prop),(∀v u,bp β w (own K β s.H) v u->bp F w' h8 v u)->(∀x u,dh w (own K β s.H) x u->dh w' h8 x u)->
   (∀i j c,B i j c->i<l.length)-> ∀(D rest:List Value),D.length=l.length*(aR r m).size->
   (∀(i j:Nat) (p:List T) (x:T) (u:Value),l[i]? =aa p->p[j]? =aa x->D[i*(aR r m).size+j]? =aa u->gP r w' h8 ((aR r m).eA j) x u (B i j))->
   ∀(i j:Nat) (p:List T) (x:T) (u:Value),(l++o)[i]? =aa p->p[j]? =aa x->(D++Z++rest)[i*(aR r m).size+j]? =aa u->Cell r m (iy l.length C) F w' h8 i j x u (B i j):=by
  intro B F w' h8 py oq dV D rest uC ss;refine YA D Z rest rfl uC ot hs hs' (R:=λi j x u=>Cell r m (iy l.length C) F w' h8 i j x u (B i j)) (λi j p x u h1 h2 h3=>⟨λv bR=>?_,λ_=>ss i j p x u h1 h2 h3⟩) λi j p x u h1 h2 h3=>⟨λv bR=>?_,λlT=>?_⟩
  ·obtain⟨je,e1,_⟩:=Ar.1 bR
   have:=(bX.1 h1).1;omega
  ·obtain⟨je,e1,e2⟩:=Ar.1 bR
   have:je=i:=O
   subst this;exact⟨py _ _ ((hwr je j p x u h1 h2 h3).1 v e2),λc Q=>by have:=dV _ _ _ Q;omega⟩
  have Qw: ∀v,(i,j,v)∉C:=λv bR=>lT v (Ar.2 ⟨i,rfl,bR⟩);rw[afp i j (bX.1 h1).1 Qw];exact .kj _ _ _ (oq _ _ ((hwr i j p x u h1 h2 h3).2 Qw)) (λc Q=>by have:=dV _ _ _ Q;omega)
 -- a new block
 have finish: ∀(B:Nat->Nat->Nat->Prop) (D:List Value) (A:Nat),D.length=l.length*(aR r m).size->l.length+o.length<=A->A<=maxLen->
   (∀(i j:Nat) (p:List T) (x:T) (u:Value),l[i]? =aa p->p[j]? =aa x->D[i*(aR r m).size+j]? =aa u->gP r w (own K β s.H) ((aR r m).eA j) x u (B i j))->
   (∀i j c,B i j c->i<l.length/\j<(aR r m).size)->(∀i j je ei c,B i j c->B je ei c->i=je/\j=ei)->(∀c,β.n k c↔ ∃i j,B i j c)->
   ∃F,Rel K F {s with H:=bc s.H k (aa (.bd r m (gen+1) (l++o) (iy l.length C)))} a (w.drew.alloc (.cells (D.toArray++Z.toArray++iA z.cells (A-(l.length+o.length))) (aR r m).ty))/\
    bp F (w.drew.alloc (.cells (D.toArray++Z.toArray++iA z.cells (A-(l.length+o.length))) (aR r m).ty)) (own K F (bc s.H k (aa (.bd r m (gen+1) (l++o) (iy l.length C))))) (.bn k (gen+1) (aR r m).size 0 (l.length+o.length)) (.slice (aa ⟨w.heap.size,0,aj⟩) (l.length+o.length) A):=by
  intro B D A uC Qi hcm af0 dV cM fC;have xx:(D.toArray++Z.toArray++iA z.cells (A-(l.length+o.length))).size=A*(aR r m).size:=by
   simp only[Array.size_append,List.size_toArray,size_zeroCells,xC,uC,ot,<-Nat.add_mul];congr 1;omega
  have aeY:=M0 h;have afx:=aeY.Q7 k _ (.bd r m (gen+1) (l++o) (iy l.length C)) gen hk rfl (D.toArray++Z.toArray++iA z.cells (A-(l.length+o.length))) (aR r m).ty
   (λF h8 w' hw' HW cG py oq ss=>⟨O,.inr ⟨w.heap.size,_,B,HW,by subst hw';exact lf w.drew _,by rw[xx,dp];exact eL _ Qi,QF,
    λi j p x u aS a2 a3=>M B F w' h8 (λv u HR=>py v u (HR.mono (Ext.drew _ _) (λ_ _ h=>h) (dS.refl _) (i8 (Ext.drew _ _)))) (λx u HV=>oq x u (HV.mono (Ext.drew _ _) λ_ _ h=>h)) (λi j c Q=>(dV i j c Q).1) D (iA z.cells (A-(l.length+o.length))).toList uC
     (λi j p x u di cI hG=>ss r _ x u (B i j) (λc Q=>(fC c).2 ⟨i,j,Q⟩) ((af0 i j p x u di cI hG).mono (Ext.drew _ _) (λ_ _ h=>h) λ_ _=>rfl)) i j p x u aS a2 (by simpa[<-Array.getElem?_toList] using a3),
    λi j c Q=>⟨by have:=(dV i j c Q).1;rw[dp];omega,(dV i j c Q).2,λe0=>by have:=(h.fresh k c (.inr ((fC c).2 ⟨i,j,Q⟩))).2;rw[e0] at this;exact Nat.lt_irrefl _ this⟩,cM,λc=>(cG c).trans (fC c)⟩⟩)
  refine⟨_,afx,?_⟩;have qL:bp (β.put k (aa (aa w.heap.size,gen+1))) (w.drew.alloc (.cells (D.toArray++Z.toArray++iA z.cells (A-(l.length+o.length))) (aR r m).ty)) (own K (β.put k (aa (aa w.heap.size,gen+1))) (bc s.H k (aa (.bd r m (gen+1) (l++o) (iy l.length C))))) (.bn k (gen+1) (aR r m).size 0 (l.length+o.length)) (.slice (aa ⟨w.heap.size,0*(aR r m).size,aj⟩) (l.length+o.length) A):=by
   have BN:=lf w.drew (.cells (D.toArray++Z.toArray++iA z.cells (A-(l.length+o.length))) (aR r m).ty);refine .bn k (gen+1) (aR r m).size 0 _ A w.heap.size (A*(aR r m).size) (aR r m).ty O (cc _ _ _) aW ?_ (by rw[eg]) Qi hcm;have afA:(w.drew.alloc (.cells (D.toArray++Z.toArray++iA z.cells (A-(l.length+o.length))) (aR r m).ty)).heap[w.heap.size]? =aa (.cells (D.toArray++Z.toArray++iA z.cells (A-(l.length+o.length))) (aR r m).ty):=BN;unfold World.shape?;rw[afA];simp only[xx]
  rw[iq] at qL;exact qL
 subst xB;rcases fY bR hq with ⟨f,b,n,l5,rfl,hb',hw,iL,sq,cC,sn⟩|⟨hb',_,afr,rfl⟩
 rotate_left
 ·have sr:l=[]:=nH afr;subst sr;have X:=run_append_nil (P:=K.P) w t ty (aR r m).ty i z hu oo hi2 ⟨cI,off,aj⟩ o.length BB Z (by rw[U];exact ot) HT QA O (by simp at qJ;omega);subst hb';have afC: ∀c,¬β.n k c:=by
   rcases hE with ⟨_,_,h0⟩|⟨b,D,B,h1,_⟩
   ·exact h0
   rw[hq] at h1;cases h1
  obtain⟨F,f1,f2⟩:=finish (λ_ _ _=>False) [] (grownCap w o.length 0 (aR r m).ty) aW (by simpa using grownCap_ge w o.length 0 (aR r m).ty) (grownCap_le_maxLen w _ 0 (aR r m).ty (by unfold maxLen;simp at hm';omega)) (λi j p x u h1 _ _=>by simp at h1)
   (λ_ _ _ h=>h.elim) (λ_ _ _ _ _ h=>h.elim) λc=>⟨λQ=>bz Q (afC c),λ⟨_,_,h⟩=>h.elim⟩
  simp only[List.length_nil,Nat.zero_add] at f1 f2⊢;exact⟨_,_,F,by rw[X];simp,f1,f2⟩
 subst hb';rcases hE with ⟨g1,_⟩|⟨hF,G,B,g1,g2,g3,g4,g5,g6,g7,g8⟩
 ·rw[hq] at g1;cases g1
 rw[hq] at g1;cases g1;have si:G.size=f*(aR r m).size:=by
  unfold World.shape? at iL;rw[g2] at iL;simp at iL;rw[<-sq] at iL;rw[eg] at iL;exact iL.2
 have HP:(G.toList.take (l.length*(aR r m).size)).length=l.length*(aR r m).size:=bZ
 have oq: ∀(i j:Nat) (p:List T) (x:T) (u:Value),l[i]? =aa p->p[j]? =aa x->(G.toList.take (l.length*(aR r m).size))[i*(aR r m).size+j]? =aa u->gP r w (own K β s.H) ((aR r m).eA j) x u (B i j):=by
  intro i j p x u h1 h2 h3;rw[hS] at h3;split at h3
  ·exact(g5 i j p x u h1 h2 (by simpa using h3)).none
  cases h3
 simp only[Nat.zero_mul];by_cases I:l.length+o.length<=f
 ·have xr:l.length*(aR r m).size+Z.length<=G.size:=by rw[ot,si,<-fc];exact eL _ I
  have X:=run_append_room (P:=K.P) w t ty (aR r m).ty i hu oo b l.length f G g2 ⟨cI,off,aj⟩ o.length BB Z (by rw[U];exact ot) HT qM I (by rw[U];exact xr);rw[U] at X;have N:(G.toList.take (l.length*(aR r m).size)++Z++G.toList.drop (l.length*(aR r m).size+Z.length)).toArray.size=G.size:=by
   simp;omega
  generalize lS:w.setRow b (G.toList.take (l.length*(aR r m).size)++Z++G.toList.drop (l.length*(aR r m).size+Z.length)).toArray=W at X;have afG:own K β s.H b:= .inr ⟨k,by rw[hk];simp,.inl ⟨_,hq⟩⟩;have Hy:Ext (own K β s.H) w W:=by
   subst lS;exact⟨rfl,rfl,rfl,aW,λkk _ hx=>setRow_other _ _ _ _ λe0=>hx (e0▸afG)⟩
  have afS:Shaped β w W:=by subst lS;intro hF _;exact Eh g2 N hF
  have hrel:=h.setRow k b (.inl ⟨_,hq⟩) G (aR r m).ty g2 (G.toList.take (l.length*(aR r m).size)++Z++G.toList.drop (l.length*(aR r m).size+Z.length)).toArray N (.bd r m gen (l++o) (iy l.length C)) (by rw[hk];simp)
   ⟨kV,Or.inr ⟨b,_,B,hq,setRow_heap _ _ _ _ _ _ g2,by rw[N,si,dp];exact eL _ I,QF,
    λi j p x u aS a2 a3=>by
     rw[lS];exact M B β W (own K β s.H) (λv u HR=>HR.mono Hy (λ_ _ h=>h) (dS.refl _) afS) (λx u HV=>HV.mono Hy λ_ _ h=>h) (λi j c Q=>(g6 i j c Q).1) _ _ HP
      (λi j p x u di cI hG=>(oq i j p x u di cI hG).mono Hy (λ_ _ h=>h) λc Q=>by subst lS;exact setRow_other _ _ _ _ (g6 i j c Q).2.2) i j p x u aS a2 (by simpa using a3),
    λi j c Q=>⟨by have:=(g6 i j c Q).1;rw[dp];omega,(g6 i j c Q).2⟩,g7,g8⟩⟩
  rw[lS] at hrel;have QD:=hrel.PV k (.bd r m gen (l++o) (iy l.length C)) (.bd r m (gen+1) (l++o) (iy l.length C)) gen (aa b) hq kV (cc _ _ _) (λF h8 HW cG py iJ=>by
   have jz:=(hrel.heap k _ (cc _ _ _)).2;rcases jz.2 with ⟨e1,_⟩|⟨hF,fm,Sc,e1,e2,mu,xi,pn,ai8,ai9,ai_⟩
   ·rw[hq] at e1;cases e1
   rw[hq] at e1;cases e1;exact⟨O,.inr ⟨b,fm,Sc,HW,e2,mu,xi,λi j p x u c1 c2 eu=>⟨λv bR=>⟨py _ _ ((pn i j p x u c1 c2 eu).1 v bR).1,((pn i j p x u c1 c2 eu).1 v bR).2⟩,λlT=>((pn i j p x u c1 c2 eu).2 lT).mono (Ext.refl _ _) (λc _=>iJ c) λ_ _=>rfl⟩,ai8,ai9,λc=>(cG c).trans (ai_ c)⟩⟩)
  have aeI:bc (bc s.H k (aa (.bd r m gen (l++o) (iy l.length C)))) k (aa (.bd r m (gen+1) (l++o) (iy l.length C)))=bc s.H k (aa (.bd r m (gen+1) (l++o) (iy l.length C))):=by
   funext j;by_cases hj:j=k
   ·subst hj;rw[cc,cc]
   rw[cb _ _ _ _ hj,cb _ _ _ _ hj,cb _ _ _ _ hj]
  simp only[aeI] at QD;refine⟨_,_,_,X,QD,?_⟩;have qL:bp (β.put k (aa (aa b,gen+1))) W (own K (β.put k (aa (aa b,gen+1))) (bc s.H k (aa (.bd r m (gen+1) (l++o) (iy l.length C))))) (.bn k (gen+1) (aR r m).size 0 (l.length+o.length)) (.slice (aa ⟨b,0*(aR r m).size,aj⟩) (l.length+o.length) f):=by
   refine .bn k (gen+1) (aR r m).size 0 _ f b (f*(aR r m).size) (aR r m).ty O (cc _ _ _) (by subst lS;simpa using hw) ?_ (by rw[eg]) I sn;subst lS;unfold World.shape?;rw[setRow_heap _ _ _ _ _ _ g2];simp only[N,si]
  rw[iq] at qL;exact qL
 have holds: ∀j u,(G.toList.take (l.length*(aR r m).size))[j]? =aa u->w.cell? ((⟨b,0,aj⟩:Addr).add j)=aa u:=by
  intro j u hj;rw[kl,eg];rw[hS] at hj;split at hj
  ·simp only[World.cell?,g2];simpa using hj
  cases hj
 have X:=run_append_grow (P:=K.P) w t ty (aR r m).ty i z hu oo hi2 ⟨b,0,aj⟩ l.length f (G.toList.take (l.length*(aR r m).size)) (by rw[U];exact HP) holds ⟨cI,off,aj⟩ o.length BB Z (by rw[U];exact ot) HT O O (growslice_fits O qJ);obtain⟨F,f1,f2⟩:=finish B (G.toList.take (l.length*(aR r m).size)) (grownCap w (l.length+o.length) f (aR r m).ty) HP (grownCap_ge w _ f (aR r m).ty) (grownCap_le_maxLen w _ f (aR r m).ty hm) oq (λi j c Q=>⟨(g6 i j c Q).1,(g6 i j c Q).2.1⟩) g7 g8;exact⟨_,_,F,X,f1,f2⟩
def tW(a:Nat)(c:List V):List (Nat×Nat×V)->List (Nat×Nat×V)
 | []=>[]
 |h::e=>(h.1,h.2.1,match cY a h.2.1,c[h.2.1-a]? with
  |true,aa v=>v
  |_,_=>h.2.2)::tW a c e
theorem Fe{off:Nat}{vs:List V}{i j:Nat}{v:V}: ∀{a:List (Nat×Nat×V)},(i,j,v)∈a-> ∃c,(i,j,c)∈tW off vs a
 |h::a,hm=>by
  rcases ef.1 hm with rfl|hm
  ·exact⟨_,en⟩
  obtain⟨c,e⟩:=Fe hm;exact⟨c,ec _ e⟩
theorem EM{n:Nat}{a:List V}{i j:Nat}{v:V}: ∀{k:List (Nat×Nat×V)},(i,j,v)∈tW n a k-> ∃c,(i,j,c)∈k/\(n<=j-> ∀x,a[j-n]? =aa x->v=x)/\(¬(n<=j/\j<n+a.length)->v=c)
 |h::k,hm=>by
  rcases ef.1 hm with e|hm
  ·simp only[Prod.mk.injEq] at e;obtain⟨rfl,rfl,rfl⟩:=e;refine⟨h.2.2,en,λm x l=>?_,λo=>?_⟩
   ·rw[Nat.ble_eq_true_of_le m,l]
   split
   ·rename_i v p l
    have:=(bX.1 l).1
    have:=eG p;exact bz ⟨this,O⟩ o
   rfl
  obtain⟨c,q,r⟩:=EM hm;exact⟨c,ec _ q,r⟩
theorem Yq{U:Map}{D:List dt}{gen:Nat}{a:List (List T)}{I:List (Nat×Nat×V)}(h:cN U w X k (.bd D m gen a I)){l:List T}{c:T}(p:a[i]? =aa l)(r:l[n]? =aa c):
  ∃(b:Nat) (e:Array Value) (N:Nat->Prop) (x:Value),U k=aa (aa b,gen)/\w.heap[b]? =aa (.cells e (aR D m).ty (0,0))/\e[i*(aR D m).size+n]? =aa x/\Cell D m I U w X i n c x N:=by
 rcases h.2 with ⟨_,q,_⟩|⟨b,e,B,y,q,F,G,A,_⟩
 ·rw[q] at p;simp at p
 have C:i<a.length:=(bX.1 p).1;have L:n<(aR D m).size:=by
  grind
 have o:i*(aR D m).size+n<e.size:=by
  have:(i+1)*(aR D m).size<=a.length*(aR D m).size:=eL _ C
  grind
 exact⟨b,e,_,e[i*(aR D m).size+n],y,q,by simp[o],A i n l c _ p r (by simp[o])⟩
section nS
variable {P:Program}{H:Nat->Option E}{d:Option Tmp}{ty:TypeId}{pos:String}{af:Array Edge}{g:Option (Nat×Bool)}
variable {t:TypeId}{u:TypeDesc}{z:Value}{size bytes:Nat}
theorem C'(x:Operand)(o gen i a:Nat)(n:List dt)(m:Nat)(B:Nat)(e:List (List T))(p:List (Nat×Nat×V))(l:List T)(c:T)(v:V)(L:cj P t u z size bytes)(Q:kK u=ak)(R:H o=aa (.bd n m gen e p))(W:(aR n m).size=B)
  (Z:e[i]? =aa l) (f:l[a]? =aa c) (q:(i,a,v)∈p\/((∀v,(i,a,v)∉p)/\(aR n m).eA a=aj/\v= .t c)):
  b9 P H ⟨d,.load t x,ty,pos,af,g⟩ [.cK o gen B i a] v:=by
 subst W;intro β w X ρ j D;obtain⟨b,us,N,y,I,M,C,F⟩:=Yq (j o _ R) Z f;obtain⟨hF,r,U⟩:=pQ D.1 I;cases r;have hlt:=(kv.1 C).1;have k:w.cell? ⟨b,i*(aR n m).size+a,aj⟩=aa y:=by
  simp only[World.cell?,M];exact C
 refine⟨y,?_,?_⟩
 ·simp[execOp,U,Instr.loadAt,Instr.sureAddr,L.CG w Q k]
 rcases q with q|⟨A,hk,rfl⟩
 ·exact(F.1 v q).1
 have G:=F.2 A;rw[hk] at G;cases G with|kj _ _ _ h _=>exact .t _ _ h
theorem JW(x:Operand)(r gen i a:Nat)(k:List dt)(m:Nat)(R:Nat)(e:List (List T))(W:List (Nat×Nat×V))(h:List T)(y:List V)(Z:cj P t u z size bytes)(f:kK u=ab)(D:H r=aa (.bd k m gen e W))(I:(aR k m).size=R)
  (n:e[i]? =aa h) (cC:a+size<=h.length) (o:y.length=size) (M: ∀j v,y[j]? =aa v->(i,a+j,v)∈W):
  b9 P H ⟨d,.load t x,ty,pos,af,g⟩ [.cK r gen R i a] (.agg y):=by
 subst I;intro β w X ρ N U;rcases(N r _ D).2 with ⟨_,A,_⟩|⟨b,C,B,h1,A,h3,h4,h5,_⟩
 ·rw[A] at n;simp at n
 obtain⟨hF,F,hx⟩:=pQ U.1 h1;cases F;have aP:i<e.length:=(bX.1 n).1;have hrl:h.length=(aR k m).size:=h4 h (bJ n);have p: ∀j,j<size->i*(aR k m).size+a+j<C.size:=by
  intro j q
  have:(i+1)*(aR k m).size<=e.length*(aR k m).size:=eL _ aP
  grind
 have l: ∀j,j<size->w.cell? ⟨b,i*(aR k m).size+a+j,aj⟩=aa (C.getD (i*(aR k m).size+a+j) undef):=λj q=>by
  have:=p j q;simp[World.cell?,A,this]
 refine⟨_,by simp[execOp,hx,Instr.loadAt,Instr.sureAddr,Z.CH w f l];rfl,?_⟩;refine .agg _ _ (by simp[o]) λj c v G L=>?_;have q:j<size:=by
  grind
 simp only[List.getElem?_toArray,List.getElem?_map,List.getElem?_range q,Option.map_some,Option.some.injEq] at L;have Q:=bo (O:a+j<h.length)
 have:=p j q;have h6:=(h5 i (a+j) h _ C[i*(aR k m).size+a+j] n Q (by rw[<-rj];simp[this])).1 c (M j c G)
 grind
theorem UM(x:Operand)(n gen o i c k a:Nat)(C:Array Field)(h:Field)(G:TypeDesc)(L:Value)(l p:Nat)(Q:P.underlying t=aa (.struct C))(R:C[k]? =aa h)(W:h.offset=a)(r:cj P h.type G L l p)(y:(l==0)=ak)
  (e:E) (Z:H n=aa e) (f:e.gen=aa gen):b9 P H ⟨d,.fieldAddr t x k,ty,pos,af,g⟩ [.cK n gen o i c] (.cK n gen o i (c+a)):=by
 intro I w X M j v;obtain⟨A,q,F⟩:=oZ (j n _ Z) f;obtain⟨b,B,D⟩:=pQ v.1 F;subst B;have m:l≠0:=by simpa using y
 refine⟨.pointer (aa ⟨b,i*o+(c+a),aj⟩),?_,.cK _ _ _ _ _ _ A F⟩;simp[execOp,D,Instr.fieldAt,run_underlying Q,R,Instr.sureAddr,fieldPlace,r.run_sizeOf,m,kl,W,Nat.add_assoc]
theorem UK(x y:Operand)(e:TypeId)(i gen a c n:Nat)(p:E)(B:H i=aa p)(C:p.gen=aa gen)(F:P.underlying t=aa (.slice e))(G:cj P e u z size bytes)(f:n<c):
  b9 P H ⟨d,.indexAddr t x y,ty,pos,af,g⟩ [.bn i gen size a c,.t (.int .i64 (n:Nat))] (.cK i gen size (a+n) 0):=by
 intro j w X L Q k;have cG:=dI k.2.1;generalize r:L x=v at k;have h:=k.1;simp only[r] at h;obtain⟨l,q,A⟩:=oZ (Q i _ B) C;rcases fY h A with ⟨R,b,m,W,rfl,o,D,I,Z,M,N⟩|⟨_,_,T,_⟩
 ·subst o;refine⟨.pointer (aa ⟨b,(a+n)*size+0,aj⟩),?_,.cK _ _ _ _ _ b l A⟩;simp[execOp,r,cG,Instr.indexAt,asIntOf,run_underlying F,G.run_sizeOf,kl,Nat.add_mul]
  grind
 omega
theorem Wg(x:Operand)(e:TypeId)(l gen h i c:Nat)(p:P.underlying t=aa (.slice e))(n:E)(r:H l=aa n)(y:n.gen=aa gen):b9 P H ⟨d,.call {callee:= .builtin .len,args:= #[x],argTypes:= #[t]},ty,pos,af,g⟩ [.bn l gen h i c] (.t (.int .i64 (c:Nat))):=by
 intro A w X o B C;obtain⟨a,cap,k⟩: ∃a cap,o x= .slice a c cap:=by
  have F:bp A w X (.bn l gen h i c) (o x):=C.1;obtain⟨_,q,G⟩:=oZ (B l _ r) y;rcases fY F G with ⟨cap,b,m,L,k,_⟩|⟨_,_,Q,k⟩
  ·exact⟨_,_,k⟩
  exact⟨aj,0,by rw[Q];exact k⟩
 refine⟨.int .i64 (c:Nat),?_,.t _ _ (.int _ _)⟩;simp[execOp,resolve,invoke,builtin,k,Builtin.len_,run_underlying p,goInt]
end nS
section ops
variable {K:Ctx}{s:S}{d:Option Tmp}{ty:TypeId}{pos:String}{af:Array Edge}{g:Option (Nat×Bool)}
variable {t:TypeId}{u:TypeDesc}{z:Value}{gen size bytes:Nat}
theorem X'(k v D I:Nat)(x y:Operand)(e:TypeId)(r A:List dt)(m M:Nat)(h c:List (List T))(l:List (Nat×Nat×V))(N: ∀i,d=aa i->df i K.nt=ab)(U:s.get x= .bn k gen size 0 h.length)(hy:s.get y= .bn v D size 0 I)(hk:s.H k=aa (.bd r m gen h []))(L:s.H v=aa (.bd A M D c l))
  (R:aR A M=aR r m) (W:I=c.length) (hu:K.P.underlying t=aa (.slice e)) (he:cj K.P e u z size bytes) (X:b4 z.cells.size size=ab) (Z:(aR r m).size=size) (nr:(aR r m).ty=e) (hs: ∀n,n∈h->n.length=size) (b: ∀n,n∈c->n.length=size)
  (o:0<c.length) (p:tz (aR r m) c.length l=ab) (ew:tF l=ab) (a7:(h.length+c.length)*bytes<=140737488355328) (hm:h.length+c.length<=9223372036854775807):
  dY K ⟨d,.call {callee:= .builtin .append,args:= #[x,y],argTypes:= #[t,t]},ty,pos,af,g⟩ s
   (({s with H:=bc s.H k (aa (.bd r m (gen+1) (h++c) (iy h.length l)))}:S).put d (.bn k (gen+1) size 0 (h.length+c.length))):=by
 intro β a w next Q G f
 have B:=G.get x;rw[U] at B;have C:=G.get y;rw[hy] at C;have q:=zN.of G L W (by rw[R,Z];exact C) o ew (by rw[R];exact p);rw[R,Z] at q;obtain⟨dO,w',j,h1,h2,h4⟩:=G.PO k r m h c l hk Z nr ty hu he (c4 X) hs b _ _ B q o p a7 (by unfold maxLen;omega);unfold Oper.wp;have F:(execOp a.eval ⟨d,.call {callee:= .builtin .append,args:= #[x,y],argTypes:= #[t,t]},ty,pos,af,g⟩).run K.P w= .ok (.value dO) w':=by
  simp[execOp,resolve,invoke,builtin,h1]
 rw[F];exact f j _ w' (h2.put d N h4)
theorem NJ{R:Type}(f:Nat->R)(k:Nat)(a b:R):bc (bc f k a) k b=bc f k b:=by funext i;unfold bc;cases b4 i k<;>rfl
theorem Mf(s:S)(d:Option Tmp)(v:V):(s.put d v).H=s.H:=by cases d<;>rfl
theorem Xl(s:S)(d:Option Tmp)(v:V)(F:Nat->Option E):({s.put d v with H:=F}:S)=({s with H:=F}:S).put d v:=by cases d<;>rfl
theorem Xo{K:Ctx}{s:S}(k:Nat){Γ:List dt}{gen:Nat}{c:List (List T)}(o:s.H k=aa (.bd Γ m gen c []))(C:(aR Γ m).bk=[]):
  s.le K {s with H:=bc s.H k (aa (.arr (aR Γ m).ty gen (aR Γ m).size c))}:=by
 intro r a w h;refine⟨_,h.drop k (.arr (aR Γ m).ty gen (aR Γ m).size c) (by rw[o];simp) ?_⟩;have e:=(h.heap k _ o).2;refine⟨e.1,?_⟩;have l: ∀b,own K (r.drop k) (bc s.H k (aa (.arr (aR Γ m).ty gen (aR Γ m).size c))) b->own K r s.H b:=by
  rintro b (F|⟨id,y,G⟩)
  ·exact .inl F
  refine .inr ⟨id,λp=>?_,nz G⟩;by_cases A:id=k
  ·subst A;rw[o] at p;cases p
  rw[cb _ _ _ _ A] at y;exact y p
 rcases e.2 with ⟨aS,a2,_⟩|⟨b,L,B,aS,a2,a3,a4,a5,_⟩
 ·exact .inl ⟨aS,a2⟩
 refine .inr ⟨b,L,aS,a2,a3,a4,λi j q x u Q R W=>?_⟩;have n:=(a5 i j q x u Q R W).none;rw[show(aR Γ m).eA j=aj by unfold dt.eA;rw[C];rfl] at n;cases n with
 |kj _ _ _ n _=>exact n.mono (Ext.refl _ _) λb _=>l b
theorem Zq(k:Nat)(x y:Operand)(e:TypeId)(c l:List (List T))(cM: ∀i,d=aa i->df i K.nt=ab)(hx:s.get x= .bn k gen size 0 c.length)(hy:dC (s.get y) (.t (.bD l)))(hk:s.H k=aa (.arr e gen size c))
  (hu:K.P.underlying t=aa (.slice e)) (he:cj K.P e u z size bytes) (xC:b4 z.cells.size size=ab) (hp:df 0 size=ab) (hs:Rows size c) (C:Rows size l)
  (a7:(c.length+l.length)*bytes<=140737488355328) (hm:c.length+l.length<=9223372036854775807):
  dY K ⟨d,.call {callee:= .builtin .append,args:= #[x,y],argTypes:= #[t,t]},ty,pos,af,g⟩ s
   (({s with H:=bc s.H k (aa (.arr e (gen+1) size (c++l)))}:S).put d (.bn k (gen+1) size 0 (c.length+l.length))):=by
 intro β a w next Q R hkk
 suffices H: ∃W w',(Builtin.append_ #[t,t] ty #[a.eval x,a.eval y]).run K.P w= .ok W w'/\ ∃o,Rel K o (({s with H:=bc s.H k (aa (.arr e (gen+1) size (c++l)))}:S).put d (.bn k (gen+1) size 0 (c.length+l.length))) (a.put d W) w' by
  obtain⟨W,w',X,o,h2⟩:=H;unfold Oper.wp;have Z:(execOp a.eval ⟨d,.call {callee:= .builtin .append,args:= #[x,y],argTypes:= #[t,t]},ty,pos,af,g⟩).run K.P w= .ok (.value W) w':=by
   simp[execOp,resolve,invoke,builtin,X]
  rw[Z];exact hkk o _ w' h2
 have f:0<size:=by simpa[Nat.blt_eq] using hp
 by_cases cG:l=[]
 ·subst cG;have p:=R.get x;rw[hx] at p;obtain⟨kV,q,D⟩:=oZ (R.heap k _ hk).2 rfl;obtain⟨_,i,I,hi2,sj,uz⟩:=id he;obtain⟨M,cap,af9⟩: ∃M cap,a.eval y= .slice M 0 cap:=by
   rcases zK (hy _ _ _ _ (R.get y)) C f with (⟨h,_⟩|⟨b,N,cap,us,h,_⟩)|⟨_,M,cap,h⟩
   ·exact⟨_,_,h⟩
   ·exact⟨_,_,h⟩
   exact⟨_,_,h⟩
  have BF:=R.PV k (.arr e gen size c) (.arr e (gen+1) size c) gen q D kV hk (λo h8 X _ _ h4=>⟨O,by
   rcases(R.heap k _ hk).2.2 with ⟨F,U⟩|⟨b,us,F,U,eu,fA,gA⟩
   ·rw[D] at F;cases F;exact .inl ⟨X,U⟩
   rw[D] at F;cases F;exact .inr ⟨b,us,X,U,eu,fA,λi j G x u d1 d2 d3=>(gA i j G x u d1 d2 d3).mono (Ext.refl _ _) λb _=>h4 b⟩⟩)
  refine⟨a.eval x,w,?_,β.put k (aa (q,gen+1)),?_⟩
  ·rw[af9];rcases fY p D with ⟨B,b,n,V,r,A,hw,iL,sq,cC,sn⟩|⟨A,_,_,r⟩<;>rw[r]
   ·cases M<;>simp[Builtin.append_,run_underlying hu,sizeOf,typeInfo,I,Builtin.lenOf,Builtin.firstCells,cC,storeCells,loadCells,loadCellsFrom]
   cases M<;>simp[Builtin.append_,run_underlying hu,sizeOf,typeInfo,I,Builtin.lenOf,Builtin.firstCells,loadCells,loadCellsFrom]
  rw[jn];refine BF.put d cM ?_;simp only[List.length_nil,Nat.add_zero];rcases fY p D with ⟨B,b,n,V,r,A,hw,iL,sq,cC,sn⟩|⟨A,_,afu,r⟩<;>rw[r]<;>subst A
  ·exact .bn k (gen+1) size 0 _ B b n V O (lW _ _ _) hw iL sq cC sn
  rw[afu];exact .iO k (gen+1) size O (lW _ _ _)
 obtain⟨ah2,L⟩:=Mg k [⟨e,size,[]⟩] 0 hk rfl rfl (.inr rfl) β a w R;have p:bp ah2 w _ (s.get x) _:=L.get x;rw[hx] at p;have mx:=hy _ _ _ _ (L.get y);rcases zK mx C f with (⟨_,h⟩|⟨b,N,cap,us,X,h2,h3,h4,h5⟩)|⟨h,_⟩
 ·exact bz h cG
 ·obtain⟨W,w',o,e1,e2,mu⟩:=L.PO k [⟨e,size,[]⟩] 0 c l [] (cc _ _ _) rfl rfl ty hu he (c4 xC) hs C _ _ p ⟨b,N,cap,us,X,h2,h3,h4,λi j G x y F U eu=>⟨λv bR=>by(cases bR),λ_=>h5 i j G x y F U eu⟩⟩ (List.length_pos_iff.2 cG) (by simp[tz,aR]) a7 (by unfold maxLen;omega);obtain⟨ah3,pn⟩:=Xo (Γ:=[⟨e,size,[]⟩]) (m:=0) k (by rw[Mf];exact cc _ _ _) rfl o _ _ (e2.put d cM mu);rw[Mf] at pn;refine⟨W,w',e1,ah3,?_⟩;rw[Xl,NJ,NJ] at pn;exact pn
 exact bz h cG
theorem JB(x y:Operand)(id i off:Nat)(k:List dt)(m:Nat)(o:List (List T))(L:List T)(v:V)(hs:List (Nat×Nat×V))(hx:s.get x= .cK id gen size i off)(bR:s.get y=v)(xy:v.val=ab)(mw:nG v.cs=ab)
  (hH:s.H id=aa (.bd k m gen o hs)) (e4:(aR k m).size=size) {l:Nat} (gF:cj K.P t u z l bytes) (afZ:v.cs.length=l) (QA:0<l) (R:o[i]? =aa L) (cC:off+l<=L.length)
  {W:List (Nat×Nat×V)} (lR: ∀n ei dO,(n,ei,dO)∈W-> ∃G,(n,ei,G)∈hs/\((n=i/\off<=ei/\ei<off+l)->v.cs[ei-off]? =aa dO)/\(¬(n=i/\off<=ei/\ei<off+l)->dO=G)) (dV: ∀n ei G,(n,ei,G)∈hs-> ∃v1,(n,ei,v1)∈W) (hi2: ∀j,j<l-> ∃G,(i,off+j,G)∈hs):
  dY K ⟨aj,.store t x y,ty,pos,af,g⟩ s {s with H:=bc s.H id (aa (.bd k m gen o W))}:=by
 subst e4;intro β a w next Q b3 hk
 have QN:=b3.get x;rw[hx] at QN;have jz:=(b3.heap id _ hH).2;rcases jz.2 with ⟨_,h2,_⟩|⟨b,p,B,h1,h2,h3,h4,h5,h6,oj,pt⟩
 ·rw[h2] at R;simp at R
 obtain⟨hF,kU,xB⟩:=pQ QN h1;cases kU;have aP:=(bX.1 R).1;have hrl:L.length=(aR k m).size:=h4 L (bJ R);have Hz:i*(aR k m).size+off+l<=p.size:=by
  have:(i+1)*(aR k m).size<=o.length*(aR k m).size:=eL _ aP;rw[fc] at this;omega
 have mx:=b3.get y;rw[bR] at mx;obtain⟨c1,c2⟩:=mx.cells xy;have X:(a.eval y).cells.size=l:=c1.trans afZ;have D: ∀e∈(a.eval y).cells.toList,e.oneCell'=ab:=by
  intro e he;obtain⟨j,hj⟩:=kx.1 he;have hj':(a.eval y).cells[j]? =aa e:=by simpa using hj
  have hlt:=(kv.1 hj').1;have bN:=bo (O:j<v.cs.length);exact(c2 j _ e bN hj').jZ (EG mw bN)
 unfold Oper.wp;have HN:=Jd gF w b (i*(aR k m).size+off) p _ (a.eval y) h2 X O D;have I:(execOp a.eval ⟨aj,.store t x y,ty,pos,af,g⟩).run K.P w= .ok .skip (w.setRow b (p.toList.take (i*(aR k m).size+off)++(a.eval y).cells.toList++p.toList.drop (i*(aR k m).size+off+(a.eval y).cells.toList.length)).toArray):=by
  simp only[execOp,xB,Instr.storeAt,Instr.sureAddr,ff,Sem.run_pure,fb,HN]
 rw[I];have hlen:(p.toList.take (i*(aR k m).size+off)++(a.eval y).cells.toList++p.toList.drop (i*(aR k m).size+off+(a.eval y).cells.toList.length)).length=p.size:=by
  simp[X];omega
 have M:own K β s.H b:= .inr ⟨id,by rw[hH];simp,.inl ⟨_,h1⟩⟩;generalize N:(p.toList.take (i*(aR k m).size+off)++(a.eval y).cells.toList++p.toList.drop (i*(aR k m).size+off+(a.eval y).cells.toList.length)).toArray=q at*;have r:q.size=p.size:=by rw[<-N];simpa using hlen
 have Z:Ext (own K β s.H) w (w.setRow b q):=⟨rfl,rfl,rfl,aW,λkk _ hx=>setRow_other _ _ _ _ λe0=>hx (e0▸M)⟩
 have f:Shaped β w (w.setRow b q):=λhF _=>Eh h2 r hF;refine hk β _ _ (Rel.setRow b3 id b (.inl ⟨_,h1⟩) p _ h2 q r (.bd k m gen o W) (by rw[hH];simp) ?_);refine⟨jz.1,.inr ⟨b,q,B,h1,setRow_heap _ _ _ _ _ _ h2,by rw[r];exact h3,h4,λn ei A j4 re aS a2 a3=>?_,h6,oj,pt⟩⟩;have hjs:ei<(aR k m).size:=by rw[<-h4 A (bJ aS)];exact(bX.1 a2).1
 by_cases U:n=i/\off<=ei/\ei<off+l
 ·obtain⟨rfl,afk,BK⟩:=U;obtain⟨G,HI⟩:=hi2 (ei-off) O;rw[show off+(ei-off)=ei by omega] at HI;have C:=h5 n ei A j4 p[n*(aR k m).size+ei] aS a2 (by rw[jo O]);obtain⟨v1,px⟩:=dV _ _ _ HI;refine⟨λdO F=>⟨?_,(C.1 G HI).2⟩,λlT=>bz px (lT v1)⟩;obtain⟨_,_,q2,_⟩:=lR _ _ _ F;have aeW:=q2 ⟨rfl,afk,BK⟩
  have:(a.eval y).cells[ei-off]? =aa re:=by
   rw[<-N] at a3;simp only[List.getElem?_toArray] at a3;rw[iV (by simp[X];omega),hT bZ] at a3;have mu:n*(aR k m).size+ei-(p.toList.take (n*(aR k m).size+off)).length=ei-off:=by
    rw[dr,p9];omega
   rw[mu] at a3;simpa using a3
  exact(c2 _ _ re aeW this).mono Z (λ_ _ h=>h) (dS.refl _) f
 have hne:n*(aR k m).size+ei<i*(aR k m).size+off\/i*(aR k m).size+off+l<=n*(aR k m).size+ei:=by
  rcases Nat.lt_trichotomy n i with h|h|h
  ·have:=eL (aR k m).size (O:n+1<=i);rw[fc] at this;omega
  ·subst h
   have: ¬(off<=ei/\ei<off+l):=λh=>U ⟨rfl,h⟩;omega
  have:=eL (aR k m).size (O:i+1<=n);rw[fc] at this;omega
 have C:p[n*(aR k m).size+ei]? =aa re:=by
  rw[<-N] at a3;simp only[List.getElem?_toArray,List.getElem?_append,List.length_append,List.length_take,List.getElem?_take,List.getElem?_drop,Array.length_toList,X] at a3;rw[show min (i*(aR k m).size+off) p.size=i*(aR k m).size+off by omega] at a3;rcases hne with hlt|kW
  ·rw[aX O,aX O,aX O] at a3;simpa using a3
  rw[aY O] at a3;rw[show i*(aR k m).size+off+l+(n*(aR k m).size+ei-(i*(aR k m).size+off+l))=n*(aR k m).size+ei by omega] at a3;simpa using a3
 have sf:=h5 n ei A j4 re aS a2 C;have hc1:=sf.mono (β':=β) Z (λ_ _ h=>h) (dS.refl _) f λc bN=>setRow_other _ _ _ _ (h6 _ _ _ bN).2.2;refine⟨λdO F=>?_,λlT=>hc1.2 λdO F=>?_⟩
 ·obtain⟨G,nB,_,vb⟩:=lR _ _ _ F;rw[vb U];exact hc1.1 G nB
 obtain⟨v1,px⟩:=dV _ _ _ F;exact lT v1 px
theorem Ux(x y:Operand)(A i a:Nat)(B:List dt)(m:Nat)(c:List (List T))(k:List T)(v:V)(o:List (Nat×Nat×V))(Z:s.get x= .cK A gen size i a)(b:s.get y=v)(p:v.val=ab)(q:nG v.cs=ab)
  (f:s.H A=aa (.bd B m gen c o)) (D:(aR B m).size=size) {e:Nat} (I:cj K.P t u z e bytes) (F:v.cs.length=e) (r:0<e) (G:c[i]? =aa k) (M:a+e<=k.length)
  (L: ∀w l n,(w,l,n)∈o->a<=l->l<a+e->w=i) (Q: ∀j,j<e-> ∃n,(i,a+j,n)∈o):
  dY K ⟨aj,.store t x y,ty,pos,af,g⟩ s {s with H:=bc s.H A (aa (.bd B m gen c (tW a v.cs o)))}:=by refine JB x y A i a B m c k v o Z b p q f D I F r G M (λw l dO R=>?_) (λw l n R=>Fe R) Q;obtain⟨n,W,N,U⟩:=EM R;refine⟨n,W,λ⟨_,C,h2⟩=>?_,λh=>U λ⟨C,h2⟩=>h ⟨L w l n W C O,C,O⟩⟩;have X:=bo (O:l-a<v.cs.length);rw[X,N C _ X]
end ops
def E.gen?:E->Option Nat
 | .cells _=>aj
 | .arr _ gen _ _=>aa gen
 | .bd _ _ gen _ _=>aa gen
theorem AL{T:Map}{g:Nat}{e:E}(c:e.gen? =aa g)(h:cN T w X n e):1<=g/\ ∃q,T n=aa (q,g):=by
 cases e with
 |cells cs=>cases c
 |arr ty gen size a=>cases c;exact⟨h.1,l3 h⟩
 |bd i m gen a k=>cases c;exact⟨h.1,tr h⟩
section nS
variable {P:Program}{H:Nat->Option E}{d:Option Tmp}{ty:TypeId}{pos:String}{af:Array Edge}{g:Option (Nat×Bool)}
variable {t:TypeId}{u:TypeDesc}{z:Value}{size bytes:Nat}
def qv(c:Nat)(h i:Option Operand)(e:Operand->Value)(a b:Nat):Prop:=
 (match h with|some x=>e x= .int .i64 (a:Nat)|none=>a=0)/\(match i with|some x=>e x= .int .i64 (b:Nat)|none=>b=c)
theorem AG{P:Program}{len a:Nat}{i e:Option Operand}{c:Operand->Value}(h:qv len i e c a b)(m:a<=b)(o:b<=n)(w:World):(Instr.sliceBounds ab len n (i.map c) (e.map c) aj).run P w= .ok (a,b,n) w:=by
 obtain⟨l,k⟩:=h;cases i with
 |none=>
  have l:a=0:=l;subst l;cases e with
  |none=>
   have k:b=len:=k;subst k;simp[Instr.sliceBounds]
  |some y=>
   have k:c y=_:=k;simp[Instr.sliceBounds,k,jS w b n _ o]
 |some x=>
  have l:c x=_:=l;cases e with
  |none=>
   have k:b=len:=k;subst k;simp[Instr.sliceBounds,l,jS w a b _ m]
  |some y=>
   have k:c y=_:=k;simp[Instr.sliceBounds,l,k,jS w b n _ o,jS w a b _ m]
theorem acV(x:Operand)(r y:Option Operand)(e:TypeId)(m gen h c a b:Nat)(R:E)(v:H m=aa R)(D:R.gen? =aa gen)(W:P.underlying t=aa (.slice e))(Z:cj P e u z size bytes)
  (I:a<=b) (h2:b<=c) (h3:a=0\/a<c) {i:List V} (M: ∀A w X (k:Operand->Value),dw A w X i (r.toList.map k++y.toList.map k)->qv c r y k a b):
  b9 P H ⟨d,.slice t x r y aj,ty,pos,af,g⟩ (.bn m gen size h c::i) (.bn m gen size (h+a) (b-a)):=by
 intro A w X k N F;obtain⟨B,q,G⟩:=AL D (N m _ v);have F:dw A w X (.bn m gen size h c::i) (k x::(r.toList.map k++y.toList.map k)):=by
  cases r<;>cases y<;>simpa[Op.operands] using F
 have C:qv c r y k a b:=M A w X k F.2;have T:bp A w X (.bn m gen size h c) (k x):=F.1;rcases fY T G with ⟨l,f,n,L,o,p,U,hs,cG,cC,hm⟩|⟨p,h0,Q,o⟩
 ·subst p;refine⟨.slice (aa ⟨f,(h+a)*size,aj⟩) (b-a) (l-a),?_,.bn m gen size (h+a) (b-a) (l-a) f n L B G U hs (by rw[<-cG];congr 1;omega) O O⟩;simp only[execOp,ff,Instr.sliceAt,Instr.slice,run_underlying W,fb,o,Option.map_none,Option.map_some,AG C I (O:b<=l),Z.run_sizeOf,Sem.run_pure];by_cases j:l=a
  ·rw[aX j]
   grind
  rw[aY j];simp[kl,Nat.add_mul]
 subst p;subst h0;subst Q;have e1:b=0:=O
 have e2:a=0:=O
 subst e1;subst e2;refine⟨.slice aj 0 0,?_,.iO m gen size B G⟩;simp only[execOp,ff,Instr.sliceAt,Instr.slice,run_underlying W,fb,o,Option.map_none,AG C (Nat.le_refl _) (Nat.le_refl 0),Z.run_sizeOf,Sem.run_pure];simp
theorem aaL(x:Operand)(p q:Option Operand)(e D:TypeId)(m gen c h a b:Nat)(l:List (List T))(I:H m=aa (.arr D gen size l))(M:P.underlying t=aa (.slice e))(N:cj P e u z size bytes)
  (U:0<size) (h1:a<b) (Z:c+b<=l.length) {i:List V} (a7: ∀r w X (k:Operand->Value),dw r w X i (p.toList.map k++q.toList.map k)->qv h p q k a b):
  b9 P H ⟨d,.slice t x p q aj,ty,pos,af,g⟩ (.bn m gen size c h::i) (.bn m gen size (c+a) (b-a)):=by
 intro r w X k hE C;have y:=hE m _ I;have F:=y.1;have C:dw r w X (.bn m gen size c h::i) (k x::(p.toList.map k++q.toList.map k)):=by
  cases p<;>cases q<;>simpa[Op.operands] using C
 have G:qv h p q k a b:=a7 r w X k C.2;have hx:bp r w X (.bn m gen size c h) (k x):=C.1;rcases y.2 with ⟨L,Q⟩|⟨f,us,L,g2,g3,g4,g5⟩
 ·subst Q;simp at Z;omega
 rcases fY hx L with ⟨cap,hF,n,R,W,o,hw,j,v,cC,hm⟩|⟨o,_⟩
 ·cases o;have A:us.size=n:=by
   unfold World.shape? at j
   grind
  have B:b<=cap:=by
   have h3:(c+b)*size<=(c+cap)*size:=by
    rw[v,<-A];exact hA (eL _ Z) g3
   have:=Nat.le_of_mul_le_mul_right h3 U;omega
  refine⟨.slice (aa ⟨f,(c+a)*size,aj⟩) (b-a) (cap-a),?_,.bn m gen size (c+a) (b-a) (cap-a) f n R F L hw j (by rw[<-v];congr 1;omega) O O⟩;simp only[execOp,ff,Instr.sliceAt,Instr.slice,run_underlying M,fb,W,Option.map_none,Option.map_some,AG G (O:a<=b) B,N.run_sizeOf,Sem.run_pure];rw[aY (show¬cap=a by omega)];simp[kl,Nat.add_mul]
 cases o
theorem aaM(x:Operand)(o p:Option Operand)(e:TypeId)(r gen h m c a:Nat)(L:E)(R:H r=aa L)(W:L.gen? =aa gen)(Z:P.underlying t=aa (.slice e))(b:cj P e u z size bytes)
  (T:a<=c) {i:List V} (f: ∀y w X (k:Operand->Value),dw y w X i (o.toList.map k++p.toList.map k)->qv c o p k a a):
  b9 P H ⟨d,.slice t x o p aj,ty,pos,af,g⟩ (.bn r gen h m c::i) (.t (.bD [])):=by
 intro y w X k j A;obtain⟨v,q,D⟩:=AL W (j r _ R);have A:dw y w X (.bn r gen h m c::i) (k x::(o.toList.map k++p.toList.map k)):=by
  cases o<;>cases p<;>simpa[Op.operands] using A
 have C:qv c o p k a a:=f y w X k A.2;have I:bp y w X (.bn r gen h m c) (k x):=A.1;obtain⟨B,cap,l,Q⟩: ∃B cap,k x= .slice B c cap/\c<=cap:=by
  rcases fY I D with ⟨cap,U,n,M,l,F,hw,hs,cG,N,hm⟩|⟨F,h0,G,l⟩
  ·exact⟨_,cap,l,N⟩
  exact⟨aj,0,by rw[G];exact l,O⟩
 refine⟨.slice (if cap=a then B else B.map (·.add (a*size))) (a-a) (cap-a),?_,.t _ _ (by rw[lu];exact .gn _ _)⟩;simp only[execOp,ff,Instr.sliceAt,Instr.slice,run_underlying Z,fb,l,Option.map_none,AG C (Nat.le_refl _) (O:a<=cap),b.run_sizeOf,Sem.run_pure]
theorem UQ(x:Operand)(e gen a i c:Nat)(h:E)(m:H e=aa h)(n:h.gen? =aa gen):b9 P H ⟨d,.nilCheck x,ty,pos,af,g⟩ [.cK e gen a i c] (.cK e gen a i c):=by intro o w X k p r;obtain⟨y,q,A⟩:=AL n (p e _ m);have l:bp o w X (.cK e gen a i c) (k x):=r.1;obtain⟨b,_,B⟩:=pQ l A;exact⟨k x,by simp[execOp,B],l⟩
theorem Zf(x C F G:Operand)(e:TypeId)(o gen h l i a b c:Nat)(L:E)(W:H o=aa L)(Z:L.gen? =aa gen)(f:P.underlying t=aa (.slice e))(j:cj P e u z size bytes)
  (v:a<=b) (D:b<=c) (h3:c<=i):b9 P H ⟨d,.slice t x (aa C) (aa F) (aa G),ty,pos,af,g⟩ [.bn o gen h l i,.t (.int .i64 (a:Nat)),.t (.int .i64 (b:Nat)),.t (.int .i64 (c:Nat))] .c9:=by
 intro I w X m M p;obtain⟨N,q,T⟩:=AL Z (M o _ W);have U:bp I w X (.bn o gen h l i) (m x):=p.1;have y:m C=_:=dI p.2.1;have V:m F=_:=dI p.2.2.1;have Q:m G=_:=dI p.2.2.2.1;obtain⟨r,cap,k,R⟩: ∃r cap,m x= .slice r i cap/\i<=cap:=by
  rcases fY U T with ⟨cap,hF,n,l5,k,A,hw,hs,cG,y,Q⟩|⟨A,h0,B,k⟩
  ·exact⟨_,cap,k,y⟩
  exact⟨aj,0,by rw[B];exact k,O⟩
 refine⟨.slice (if c=a then r else r.map (·.add (a*size))) (b-a) (c-a),?_,.c9 _⟩;simp[execOp,k,y,V,Q,Instr.sliceAt,Instr.slice,run_underlying f,Instr.sliceBounds,jS w c cap _ O,jS w b c _ D,jS w a b _ v,j.run_sizeOf]
end nS
section steps
variable {K:Ctx}{s:S}{d:Option Tmp}{ty:TypeId}{pos:String}{af:Array Edge}{g:Option (Nat×Bool)}
variable {t:TypeId}{u:TypeDesc}{z:Value}{size bytes gen:Nat}
theorem Nt{F:Map}(W:Rel K F s a w)(q b:Nat)(e:TypeId)(o c:List (List T))(r n:Array Value)(L:s.H q=aa (.arr e gen size o))(y:F q=aa (aa b,gen))(p:w.heap[b]? =aa (.cells r e (0,0)))
  (Q:n.size=r.size) (Z:c.length*size<=r.size) (A: ∀l,l∈c->l.length=size)
  (bN: ∀(i j:Nat) (l:List T) (x:T) (u:Value),c[i]? =aa l->l[j]? =aa x->n[i*size+j]? =aa u->(∃(G:Nat) (m:List T),o[G]? =aa m/\m[j]? =aa x/\r[G*size+j]? =aa u)\/(∀w X,dh w X x u)):
  Rel K F {s with H:=bc s.H q (aa (.arr e gen size c))} a (w.setRow b n):=by
 refine Rel.setRow W q b (.inl ⟨_,y⟩) r e p n Q (.arr e gen size c) (by rw[L];simp) ?_;have R:own K F s.H b:= .inr ⟨q,by rw[L];simp,.inl ⟨_,y⟩⟩;have B:=(W.heap q _ L).2;refine⟨B.1,.inr ⟨b,n,y,setRow_heap _ _ _ _ _ _ p,O,A,λi j l x u aS a2 a3=>?_⟩⟩;rcases bN i j l x u aS a2 a3 with ⟨G,m,v,D,I⟩|bN
 ·rcases B.2 with ⟨C,_⟩|⟨cI,M,C,f,h3,h4,N⟩
  ·rw[y] at C;cases C
  rw[y] at C;cases C;rw[p] at f;cases f;exact(N G j m x u v D I).mono ⟨rfl,rfl,rfl,aW,λk _ U=>setRow_other _ _ _ _ λV=>U (V▸R)⟩ λ_ _ h=>h
 exact bN _ _
theorem Rel.yk(k:Rel K β s a w)(c:Nat)(e:E)(l:s.H c=aa e):Rel K β {s with H:=bc s.H c (aa e)} a w:=by
 have:bc s.H c (aa e)=s.H:=by
  funext i;by_cases h:i=c
  ·subst h;rw[cc,l]
  rw[cb _ _ _ _ h]
 rw[this];exact k
end steps
end
section
def dn{a:Type}(f:Nat->a):List (Nat×a)->Nat->a
 | []=>f
 |(d,v)::r=>dn (bc f d v) r
theorem mz{a:Type}: ∀(l:List (Nat×a)) (f:Nat->a) (r:Nat),(∀v,(r,v)∉l)->dn f l r=f r
 | [],_,_,_=>rfl
 |(d,v)::l,f,r,h=>by rw[dn,mz l _ r λc i=>h c (ec _ i),cb _ _ _ _ (by intro e;subst e;exact h v (en ..))]
theorem AA{a:Type}: ∀(l:List (Nat×a)) (f g:Nat->a) (r:Nat),(∃v,(r,v)∈l)->dn f l r=dn g l r
 | [],_,_,_,⟨v,h⟩=>by simp at h
 |(d,v)::l,f,g,r,h=>by
  simp only[dn];by_cases i: ∃c,(r,c)∈l
  ·exact AA l _ _ r i
  have k:r=d:=by
   obtain⟨c,bR⟩:=h;rcases ef.1 bR with e|bR
   ·cases e;rfl
   exact bz ⟨c,bR⟩ i
  subst k;rw[mz l _ r λc bR=>i ⟨c,bR⟩,mz l _ r λc bR=>i ⟨c,bR⟩,cc,cc]
structure cX where
 fL:List (Nat×V)
 hs:List (Nat×Option E):=[]
 us:List (Nat×Bool):=[]
def cX.app(e:cX)(s:S):S:={t:=dn s.t e.fL,H:=dn s.H e.hs,u:=dn s.u e.us}
structure gO where
 fL:List Nat
 pI:List Nat:=[]
def gO.same(r:gO)(s a:S):Prop:=(∀i,i∈r.fL->s.t i=a.t i)/\ ∀k,k∈r.pI->s.H k=a.H k/\s.u k=a.u k
def iC(K:Ctx)(ops:Array Oper)(o:Oper)(s h:S):Prop:=
 ∀i a w next Q,Rel K i s a w->(∀c d e,Rel K c h d e->next d e)->
  if Region.wanted o (yielded ops a.tmps) then o.wp K.P a w next Q\/(o.asks K.P a w/\LetsOut Q) else next (a.put o.dst undef) w
variable {K:Ctx}{ops:Array Oper}{o:Oper}{s:S}{j t:Nat}{want:Bool}
theorem iC.of{b:S}(c:o.guard=aj)(h:dY K o s b):iC K ops o s b:=by
 intro β a w next Q d e
 rw[aX (by simp[Region.wanted,c])];exact .inl (h β a w next Q d e)
theorem iC.gW{s':S}(d:o.guard=aa (j,want))(e:(ops[j]?).bind (·.dst)=aa t)(i:s.t t= .t (.bool want))(h:dY K o s s'):iC K ops o s s':=by
 intro β a w next Q c k
 have l:yielded ops a.tmps j=aa want:=by unfold yielded;rw[e];simp[c.bool i]
 rw[aX (by simp[Region.wanted,d,l])];exact .inl (h β a w next Q c k)
theorem iC.out(d:o.guard=aa (j,want))(e:(ops[j]?).bind (·.dst)=aa t)(h:s.t t= .t (.bool (!want)))(k: ∀i,o.dst=aa i->df i K.nt=ab):iC K ops o s (s.put o.dst (.bQ [])):=by
 intro l a w next Q c m
 have n:yielded ops a.tmps j=aa (!want):=by unfold yielded;rw[e];simp[c.bool h]
 rw[aY (by simp[Region.wanted,d,n])];exact m l _ w (c.put o.dst k Mv)
theorem iC.skip(d:o.guard=aa (j,want))(e:(ops[j]?).bind (·.dst)=aa t)(h:s.t t= .bQ [])(k: ∀i,o.dst=aa i->df i K.nt=ab):iC K ops o s (s.put o.dst (.bQ [])):=by
 intro l a w next Q c m
 have hw:=c.ahO (ops:=ops) (want:=want) e h;rw[aY (by simp[Region.wanted,d,hw])];exact m l _ w (c.put o.dst k Mv)
def gY{a:Type}:List (List (Nat×a))->Nat->(Nat->Bool)->(Nat->a)->Nat->a
 | [],_,_,f=>f
 |l::bH,i,L,f=>gY bH (i+1) L (bif L i then dn f l else f)
theorem DA{a:Type}: ∀(bH:List (List (Nat×a))) (i:Nat) (L c:Nat->Bool) (f d:Nat->a) (r:Nat),f r=d r->(∀j l,bH[j]? =aa l->(∃v,(r,v)∈l)->L (i+j)=c (i+j))->gY bH i L f r=gY bH i c d r
 | [],_,_,_,_,_,_,h,_=>h
 |l::bH,i,L,c,f,d,r,h,m=>by
  simp only[gY];refine DA bH (i+1) L c _ _ r ?_ λj n o e=>by have:=m (j+1) n o e;rwa [show i+(j+1)=i+1+j by omega] at this
  by_cases k: ∃v,(r,v)∈l
  ·have:=m 0 l rfl k;rw[rl] at this;rw[<-this];cases L i with
   |true=>exact AA l _ _ r k
   |false=>exact h
  have p: ∀g:Nat->a,dn g l r=g r:=λg=>mz l g r λv e=>k ⟨v,e⟩;cases L i<;>cases c i<;>simp only[cond_true,cond_false,p]<;>exact h
theorem L2{a:Type}: ∀(bH:List (List (Nat×a))) (i:Nat) (L:Nat->Bool) (f:Nat->a) (r k:Nat) (l:List (Nat×a)),bH[k]? =aa l->(∃v,(r,v)∈l)->L (i+k)=ab->
  (∀j h,k<j->bH[j]? =aa h->(∃v,(r,v)∈h)->L (i+j)=ak)-> ∀g:Nat->a,gY bH i L f r=dn g l r
 |m::bH,i,L,f,r,0,l,d,n,o,c,g=>by
  simp at d;subst d;simp only[gY];rw[rl] at o;rw[o,cond_true,DA bH (i+1) L (λ_=>ak) (dn f m) (dn g m) r (AA m _ _ r n) (λj h p e=>by
   have:=c (j+1) h O p e
   rwa [show i+(j+1)=i+1+j by omega] at this)]
  have q: ∀(bH:List (List (Nat×a))) (i:Nat) (f:Nat->a),gY bH i (λ_=>ak) f=f:=by
   intro bH;induction bH with
   |nil=>intro _ _;rfl
   |cons l bH s=>intro i f;simp only[gY,cond_false];exact s _ _
  rw[q]
 |m::bH,i,L,f,r,k+1,l,d,n,o,c,g=>by
  simp at d;simp only[gY];exact L2 bH (i+1) L _ r k l d n (by rwa [show i+1+k=i+(k+1) by omega]) (λj h w p e=>by
   have:=c (j+1) h O p e
   rwa [show i+(j+1)=i+1+j by omega] at this) g
 | [],_,_,_,_,_,_,d,_,_,_,_=>by simp at d
def iY(a:List cX)(i:Nat)(L:Nat->Bool)(s:S):S:={t:=gY (a.map (·.fL)) i L s.t,H:=gY (a.map (·.hs)) i L s.H,u:=gY (a.map (·.us)) i L s.u}
def mC(a:Array Oper):Nat->Nat->Nat->Bool
 |0,_,_=>ak
 |f+1,i,j=>match a[j]? with
  |none=>ak
  |some o=>o.after.toList.any λe=>Region.binds .any e&&(b4 e.on i||mC a f i e.on)
def qf{a:Type}(l:List (Nat×a))(r:List Nat):Bool:=l.any λp=>r.any λx=>b4 p.1 x
def q3{a R:Type}(l:List (Nat×a))(m:List (Nat×R)):Bool:=l.any λp=>m.any λq=>b4 p.1 q.1
def ly(e:cX)(r:gO)(a:cX)(c:gO):Bool:=
 qf e.fL c.fL||qf a.fL r.fL||q3 e.fL a.fL||qf e.hs c.pI||qf a.hs r.pI||q3 e.hs a.hs||qf e.us c.pI||qf a.us r.pI||q3 e.us a.us
def mJ(c:Array Oper)(n:Nat):Nat->List (cX×gO)->Bool
 |_,[]=>ab
 |i,(e,r)::a=>go i e r (i+1) a&&mJ c n (i+1) a
where
 go (i:Nat) (e:cX) (r:gO):Nat->List (cX×gO)->Bool
  |_,[]=>ab
  |j,(d,h)::a=>(!ly e r d h||mC c n i j)&&go i e r (j+1) a
def rB:Nat->List Oper->Bool
 |_,[]=>ab
 |i,o::a=>o.after.toList.all (λe=> !Region.binds .any e||df e.on i)&&rB (i+1) a
theorem MH{V:Array Oper}{n i:Nat}{e:cX}{r:gO}: ∀(l:List (cX×gO)) (j:Nat),mJ.go V n i e r j l=ab-> ∀(k:Nat) a c,l[k]? =aa (a,c)->ly e r a c=ab->mC V n i (j+k)=ab
 | [],_,_,_,_,_,h,_=>by simp at h
 |(o,p)::l,j,h,0,a,c,d,m=>by
  simp at d;obtain⟨rfl,rfl⟩:=d;simp only[mJ.go,b5,m,Bool.not_true,Bool.false_or] at h;exact h.1
 |(o,p)::l,j,h,k+1,a,c,d,m=>by
  simp at d;simp only[mJ.go,b5] at h
  have:=MH l (j+1) h.2 k a c d m
  rwa [show j+1+k=j+(k+1) by omega] at this
theorem DC{V:Array Oper}{n:Nat}: ∀(l:List (cX×gO)) (a:Nat),mJ V n a l=ab-> ∀(i j:Nat) e r c d,l[i]? =aa (e,r)->l[j]? =aa (c,d)->i<j->ly e r c d=ab->mC V n (a+i) (a+j)=ab
 | [],_,_,_,_,_,_,_,_,h,_,_,_=>by simp at h
 |(q,s)::l,a,h,0,j,e,r,c,d,k,m,o,p=>by
  simp at k;obtain⟨rfl,rfl⟩:=k;simp only[mJ,b5] at h;cases j with
  |zero=>omega
  |succ j=>
   simp at m
   have:=MH l (a+1) h.1 j c d m p
   rwa [show a+1+j=a+(j+1) by omega] at this
 |(q,s)::l,a,h,i+1,j,e,r,c,d,k,m,o,p=>by
  simp only[mJ,b5] at h;cases j with
  |zero=>omega
  |succ j=>
   simp at k m
   have:=DC l (a+1) h.2 i j e r c d k m O p
   rwa [show a+1+i=a+(i+1) by omega,show a+1+j=a+(j+1) by omega] at this
theorem WH(e:cX)(r:gO)(d:cX)(i:gO):ly e r d i=ly d i e r:=by
 have o: ∀{k n:Type} (l:List (Nat×k)) (m:List (Nat×n)),q3 l m=q3 m l:=by
  intro k n l m;rw[hz];simp only[q3,List.any_eq_true];constructor
  ·rintro⟨p,a,q,c,h⟩;exact⟨q,c,p,a,by have:=c4 h;simp[this]⟩
  rintro⟨p,a,q,c,h⟩;exact⟨q,c,p,a,by have:=c4 h;simp[this]⟩
 unfold ly
 grind
def Pf(c:Array Oper)(a:Array Bool):Prop:= ∀j o,c[j]? =aa o->a.getD j ab=ab-> ∀e∈o.after,Region.binds .any e=ab->a.getD e.on ak=ab
theorem I9{V:Array Oper}{a:Array Bool}(m:Pf V a): ∀(f i j:Nat),mC V f i j=ab->(∀o,V[j]? =aa o-> ∀e∈o.after,Region.binds .any e=ab->a.getD e.on ak=ab)->a.getD i ak=ab
 |0,_,_,h,_=>by simp[mC] at h
 |f+1,i,j,h,n=>by
  unfold mC at h;cases k:V[j]? with
  |none=>rw[k] at h;simp at h
  |some o=>
   rw[k] at h;simp only[List.any_eq_true,b5,Bool.or_eq_true] at h;obtain⟨e,p,q,c⟩:=h;have cC:=n o k e (by simpa using p) q;rcases c with c|c
   ·have:=c4 c;rw[<-this];exact cC
   refine I9 m f i e.on c λr l=>m e.on r l ?_;rw[rk] at cC⊢;cases d:a[e.on]? with
   |none=>rw[d] at cC;simp at cC
   |some b=>rw[d] at cC;simpa using cC
def vV(K:Ctx)(a:Array Oper):List Oper->List (cX×gO)->S->(S->Prop)->Prop
 | [],[],s,Q=>Q s
 |o::os,(e,r)::d,s,Q=>(∀c,r.same c s->iC K a o c (e.app c))/\vV K a os d (e.app s) Q
 |_,_,_,_=>False
end
set_option linter.unusedVariables false
set_option linter.unusedSimpArgs false
section
theorem KC{a:Type}: ∀(bH:List (List (Nat×a))) (i:Nat) (L:Nat->Bool) (f:Nat->a),gY bH (i+1) L f=gY bH i (λj=>L (j+1)) f
 | [],_,_,_=>rfl
 |l::bH,i,L,f=>by simp only[gY];exact KC bH (i+1) L _
theorem EL(e:cX)(a:List cX)(L:Nat->Bool)(s:S):iY (e::a) 0 L s=iY a 0 (λj=>L (j+1)) (bif L 0 then e.app s else s):=by unfold iY;simp only[hX,gY,Nat.zero_add,KC];cases L 0<;>rfl
theorem y'{K:Ctx}{V:Array Oper}: ∀(l:List Oper) (es:List (cX×gO)) (s:S) (Q:S->Prop),vV K V l es s Q->
  l.length=es.length/\Q (iY (es.map (·.1)) 0 (λ_=>ab) s)/\
  ∀(i:Nat) o e r,l[i]? =aa o->es[i]? =aa (e,r)-> ∀c,r.same c (iY (es.map (·.1)) 0 (λj=>df j i) s)->iC K V o c (e.app c)
 | [],[],s,Q,h=>⟨rfl,h,λi o e r d=>by simp at d⟩
 |o::os,(e,r)::es,s,Q,h=>by
  obtain⟨p,q⟩:=h;obtain⟨aS,a2,a3⟩:=y' os es _ Q q;refine⟨by simp[aS],?_,?_⟩
  ·simp only[hX,EL,cond_true];exact a2
  intro i w x y d k c a;cases i with
  |zero=>
   simp at d k;obtain⟨rfl,rfl⟩:=k;subst d;refine p c ?_
   have:iY (List.map (·.1) ((e,r)::es)) 0 (λj=>df j 0) s=s:=by
    simp only[hX,EL];have m: ∀{n:Type} (bH:List (List (Nat×n))) (i:Nat) (f:Nat->n),gY bH i (λj=>df (j+1) 0) f=f:=by
     intro n bH;induction bH with
     |nil=>intro _ _;rfl
     |cons l bH z=>intro i f;simp only[gY];exact z _ _
    show iY (es.map (·.1)) 0 (λj=>df (j+1) 0) s=s;unfold iY;simp only[m]
   rw[this] at a;exact a
  |succ i=>
   simp at d k;refine a3 i w x y d k c ?_;simp only[hX,EL] at a;exact a
 | [],_::_,_,_,h=>h.elim
 |_::_,[],_,_,h=>h.elim
variable {a R:Type}{r:gO}{x n i:Nat}{v:a}{e:cX}
theorem E4{l:List (Nat×a)}{r:List Nat}(h:(x,v)∈l)(c:x∈r):qf l r=ab:=by unfold qf;rw[jE];exact⟨(x,v),h,by rw[jE];exact⟨x,c,aW⟩⟩
theorem DY{l:List (Nat×a)}{m:List (Nat×R)}{c:R}(h:(x,v)∈l)(d:(x,c)∈m):q3 l m=ab:=by unfold q3;rw[jE];exact⟨(x,v),h,by rw[jE];exact⟨(x,c),d,aW⟩⟩
section
variable {K:Ctx}{l:List Oper}{es:List (cX×gO)}{s:S}
theorem Fg{V:Array Oper}(proj:cX->List (Nat×R))(G:mJ V n 0 es=ab){a:Array Bool}(H:es[i]? =aa (e,r))(f:Nat->R)(x:Nat)
  (k: ∀c d v,(x,v)∈proj c->ly e r c d=ab)
  (m: ∀j,mC V n j i=ab->a.getD j ak=ab) (o: ∀j,j<es.length->mC V n i j=ab->a.getD j ab=ak) (y:a.getD i ab=ak):
  gY ((es.map (·.1)).map proj) 0 (λj=>a.getD j ab) f x=gY ((es.map (·.1)).map proj) 0 (λj=>df j i) f x:=by
 refine DA _ 0 _ _ f f x rfl ?_;intro j W h ⟨v,L⟩;rw[eg];simp only[List.map_map,List.getElem?_map] at h;cases q:es[j]? with
 |none=>rw[q] at h;cases h
 |some p=>
  obtain⟨c,d⟩:=p;rw[q] at h;simp at h;subst h;have z:j<es.length:=(bX.1 q).1;rcases Nat.lt_trichotomy j i with w|rfl|A
  ·have a7:=DC es 0 G j i c d e r q H w (by rw[WH];exact k c d v L);rw[eg,eg] at a7;have B:=m j a7;have Q:df j i=ab:=by simpa[Nat.blt_eq] using w
   rw[Q];rw[rk] at B⊢;cases C:a[j]? with
   |none=>rfl
   |some b=>rw[C] at B;simpa using B
  ·rw[y];symm;cases a7:df j j with
   |false=>rfl
   |true=>simp[Nat.blt_eq] at a7
  have a7:=DC es 0 G i j e r c d H q A (k c d v L);rw[eg,eg] at a7;rw[o j z a7];symm;cases F:df j i with
  |false=>rfl
  |true=>simp[Nat.blt_eq] at F;omega
theorem ET{V:Array Oper}(proj:cX->List (Nat×R))(L:mJ V n 0 es=ab){a:Array Bool}(F:es[i]? =aa (e,r))(f:Nat->R)(w:i<a.size)
  (y: ∀x h q v Q,(x,v)∈proj h->(x,Q)∈proj e->ly e r h q=ab) (k: ∀j,j<es.length->mC V n i j=ab->a.getD j ab=ak) (W:a.getD i ab=ak):
  dn (gY ((es.map (·.1)).map proj) 0 (λj=>a.getD j ab) f) (proj e)=gY ((es.map (·.1)).map proj) 0 (λj=>(a.setIfInBounds i ab).getD j ab) f:=by
 funext x;have m: ∀j,j≠i->(a.setIfInBounds i ab).getD j ab=a.getD j ab:=λj z=>by
  simp[Array.getD_eq_getD_getElem?,Array.getElem?_setIfInBounds_ne (Ne.symm z)]
 have A:(a.setIfInBounds i ab).getD i ab=ab:=by
  simp[Array.getD_eq_getD_getElem?,w]
 have B:((es.map (·.1)).map proj)[i]? =aa (proj e):=by simp[F]
 by_cases G: ∃v,(x,v)∈proj e
 ·obtain⟨H,o⟩:=G;symm;refine L2 _ 0 _ f x i (proj e) B ⟨H,o⟩ (by rw[eg];exact A) ?_ _;intro j X z d ⟨v,C⟩;rw[eg,m j O];simp only[List.map_map,List.getElem?_map] at d;cases c:es[j]? with
  |none=>rw[c] at d;cases d
  |some p=>
   obtain⟨h,q⟩:=p;rw[c] at d;simp at d;subst d;have a7:=DC es 0 L i j e r h q F c z (y x h q v H C o);rw[eg,eg] at a7;exact k j (bX.1 c).1 a7
 rw[mz _ _ _ λv C=>G ⟨v,C⟩];refine DA _ 0 _ _ f f x rfl ?_
 grind
theorem Lh: ∀(l:List Oper) (a:Nat),rB a l=ab-> ∀(i:Nat) o,l[i]? =aa o-> ∀e∈o.after,Region.binds .any e=ab->e.on<a+i
 | [],_,_,_,_,h=>by simp at h
 |o::l,a,h,0,n,c=>by
  simp at c;subst c;intro e k m;simp only[rB,b5,List.all_eq_true,Bool.or_eq_true] at h;rcases h.1 e (by simpa using k) with d|d
  ·rw[m] at d;cases d
  simpa[Nat.blt_eq] using d
 |o::l,a,h,i+1,n,c=>by
  simp at c;simp only[rB,b5] at h;intro e k m
  have:=Lh l (a+1) h.2 i n c e k m;omega
theorem Z4{Q:S->Prop}{wx:Exit->Act->World->Prop}(hp:mJ l.toArray l.length 0 es=ab)(he:rB 0 l=ab)(cM:vV K l.toArray l es s Q)
  (Ht: ∀g a w,Rel K g (iY (es.map (·.1)) 0 (λ_=>ab) s) a w->wx .normal a w):
  ∀(d:Nat) (c:Array Bool) (z:List Nat),c.size=l.length->z.Nodup->z.length=d->(∀i,c.getD i ab=ak↔i∈z)->Pf l.toArray c->
   ∀g a w,Rel K g (iY (es.map (·.1)) 0 (λj=>c.getD j ab) s) a w->wpAny K.P .any l.toArray wx d c a w:=by
 obtain⟨hlen,_,afE⟩:=y' l es s Q cM
 -- if nothing is ready, all is done
 have hall: ∀(c:Array Bool) (z:List Nat),c.size=l.length->(∀i,c.getD i ab=ak↔i∈z)->z≠[]->Region.ready .any l.toArray c≠[]:=by
  intro c z R D E;have key: ∀n,(∃i,i∈z/\i<=n)-> ∃m,m∈z/\ ∀j,j<m->j∉z:=by
   intro n;induction n with
   |zero=>rintro⟨i,aP,hle⟩;exact⟨0,by rwa [show i=0 by omega] at aP,λj W=>O⟩
   |succ n my=>
    rintro⟨i,aP,hle⟩;by_cases h: ∃i,i∈z/\i<=n
    ·exact my h
    have:i=n+1:=by
     rcases Nat.lt_or_ge i (n+1) with hlt|kW
     ·exact bz ⟨i,aP,O⟩ h
     omega
    subst this;exact⟨n+1,aP,λj W afl=>h ⟨j,afl,O⟩⟩
  obtain⟨x,hx⟩:=C5 z E;obtain⟨m,hm,aiA⟩:=key x ⟨x,hx,cV _⟩;have afw:=(D m).2 hm;have Qr:m<l.length:=by
   grind
  intro X
  have:m∈Region.ready .any l.toArray c:=by
   rw[mem_ready];refine⟨afw,l[m],by simp[Qr],λe ae1 Z=>?_⟩;have hlt:=Lh l 0 he m l[m] (bo Qr) e ae1 Z
   grind
  grind
 have I: ∀(c:Array Bool),(∀i,c.getD i ab=ab)->iY (es.map (·.1)) 0 (λj=>c.getD j ab) s=iY (es.map (·.1)) 0 (λ_=>ab) s:=by
  grind
 intro d;induction d with
 |zero=>
  intro c z R M B D bN g a w b3;have X:z=[]:=nH B;subst X;have F: ∀i,c.getD i ab=ab:=λi=>by
   cases h:c.getD i ab with
   |true=>rfl
   |false=>have:=(D i).1 h;simp at this
  refine⟨?_,Ht g a w (by rw[<-I c F];exact b3)⟩;cases afN:Region.ready .any l.toArray c with
  |nil=>rfl
  |cons x xs=>
   have:x∈Region.ready .any l.toArray c:=by rw[afN];simp
   rw[mem_ready] at this;rw[F x] at this;exact bz this.1 aW
 |succ d my=>
  intro c z R M B D bN g a w b3;have E:z≠[]:=by intro e;subst e;simp at B
  refine⟨λh=>bz h (hall c z R D E),λi aP=>?_⟩;obtain⟨y,o,ew,b⟩:=mem_ready.1 aP;have BJ:i<l.length:=by
   rcases Nat.lt_or_ge i l.length with h|h
   ·exact h
   rw[Array.getElem?_eq_none (by simpa using h)] at ew;cases ew
  have sl:l[i]? =aa o:=by simpa using ew
  obtain⟨⟨e,r⟩,C⟩: ∃p,es[i]? =aa p:=⟨es[i]' O,by simp[show i<es.length by omega]⟩
  have G: ∀j,mC l.toArray l.length j i=ab->c.getD j ak=ab:=λj Z=>I9 bN _ j i Z λCm A=>by rw[ew] at A;cases A;exact b
  have q: ∀j,j<es.length->mC l.toArray l.length i j=ab->c.getD j ab=ak:=λj W Z=>by
   cases afs:c.getD j ab with
   |false=>rfl
   |true=>
    have L:=I9 bN _ i j Z λCm A=>bN j Cm A afs;have afU:i<c.size:=O
    simp only[Array.getD_eq_getD_getElem?,Array.getElem?_eq_getElem afU,Option.getD_some] at L y;rw[y] at L;cases L
  have N:r.same (iY (es.map (·.1)) 0 (λj=>c.getD j ab) s) (iY (es.map (·.1)) 0 (λj=>df j i) s):=by
   refine⟨λx hx=>?_,λk hk=>⟨?_,?_⟩⟩
   ·exact Fg (·.fL) hp C s.t x (λf yf v bR=>by simp[ly,E4 bR hx]) G q y
   ·exact Fg (·.hs) hp C s.H k (λf yf v bR=>by simp[ly,E4 bR hk]) G q y
   exact Fg (·.us) hp C s.u k (λf yf v bR=>by simp[ly,E4 bR hk]) G q y
  have T:e.app (iY (es.map (·.1)) 0 (λj=>c.getD j ab) s)=iY (es.map (·.1)) 0 (λj=>(c.setIfInBounds i ab).getD j ab) s:=by
   unfold cX.app iY;simp only[S.mk.injEq];refine⟨?_,?_,?_⟩
   ·exact ET (·.fL) hp C s.t O (λx f yf v dO L h2=>by simp[ly,DY h2 L]) q y
   ·exact ET (·.hs) hp C s.H O (λx f yf v dO L h2=>by simp[ly,DY h2 L]) q y
   exact ET (·.us) hp C s.u O (λx f yf v dO L h2=>by simp[ly,DY h2 L]) q y
  have BO:=afE i o e r sl C _ N;have ae9: ∀U tB w',Rel K U (e.app (iY (es.map (·.1)) 0 (λj=>c.getD j ab) s)) tB w'->wpAny K.P .any l.toArray wx d (c.setIfInBounds i ab) tB w':=by
   intro U tB w' QC;rw[T] at QC;have afe:=(D i).1 y;refine my (c.setIfInBounds i ab) (z.erase i) (by simpa using R) (M.erase i) (by rw[List.length_erase_of_mem afe];omega) (λj=>?_) ?_ U tB w' QC
   ·rw[M.mem_erase_iff];by_cases W:j=i
    ·subst W;simp[Array.getD_eq_getD_getElem?,show j<c.size by omega]
    simp only[Array.getD_eq_getD_getElem?,Array.getElem?_setIfInBounds_ne (Ne.symm W)]
    have:=D j;rw[rk] at this;rw[this];simp[W]
   intro j Cm A W f Ql Z;by_cases Qo:j=i
   ·subst Qo;rw[ew] at A;cases A;exact getD_set_true (b f Ql Z)
   have L:c.getD j ab=ab:=by
    simpa only[Array.getD_eq_getD_getElem?,Array.getElem?_setIfInBounds_ne (Ne.symm Qo)] using W
   exact getD_set_true (bN j Cm A L f Ql Z)
  have V:=BO g a w (wpAny K.P .any l.toArray wx d (c.setIfInBounds i ab)) wx b3 ae9;unfold wpOp;rw[ew];exact V
theorem ML{Q:Exit->S->Prop}(d:List (cX×gO))(B:K.P.follows .mixedOrders=ab)(C:mJ l.toArray l.length 0 d=ab)(F:rB 0 l=ab)
  (e:vV K l.toArray l d s λG=>Q .normal G):cJ K (.region n l.toArray ab) s Q:=by
 intro k a w Z m H;obtain⟨_,R,_⟩:=y' l d s _ e;refine wp_region_any B ?_;have p:Rel K k s a {w with drawn:=w.drawn+1}:=M0 m;have W:iY (d.map (·.1)) 0 (λj=>(Array.replicate l.toArray.size ak).getD j ab) s=s:=by
  have z:=(y' l d s _ e).1;have c: ∀{q:Type} (bH:List (List (Nat×q))) (L:Nat->Bool) (i:Nat) (f:Nat->q),(∀j,j<bH.length->L (i+j)=ak)->gY bH i L f=f:=by
   intro q bH L;induction bH with
   |nil=>intro _ _ _;rfl
   |cons x bH X=>
    intro i f h;simp only[gY];have A:=h 0 aW;rw[rl] at A;rw[A,cond_false];exact X (i+1) f λj r=>by have:=h (j+1) bZ;rwa [show i+(j+1)=i+1+j by omega] at this
  have y: ∀j,j<d.length->(Array.replicate l.toArray.size ak).getD (0+j) ab=ak:=λj r=>by
   rw[eg,rk,Array.getElem?_replicate,aX bZ];rfl
  unfold iY;rw[c _ _ _ _ (by simpa using y),c _ _ _ _ (by simpa using y),c _ _ _ _ (by simpa using y)]
 refine Z4 C F e (λk a w m=>H _ _ _ _ _ R m) l.toArray.size (Array.replicate l.toArray.size ak) (List.range l.length) aW List.nodup_range aW (λi=>?_) ?_ k a _ (by rw[W];exact p)
 ·rw[rk,Array.getElem?_replicate,p5]
  grind
 intro j o b r;rw[rk,Array.getElem?_replicate] at r
 grind
end
end
abbrev U(n:Int):V:= .t (.int .i64 n)
abbrev vG(b:UInt8):V:= .t (.int .u8 (b.toNat:Nat))
abbrev aO(b:Bool):V:= .t (.bool b)
abbrev bB(s:List UInt8):V:= .t (.str s)
abbrev RY(a:List (List T)):V:= .t (.bD a)
abbrev iM(n:Int):List T:=[.int .i64 n]
abbrev nA(b:UInt8):List T:=[.int .u8 (b.toNat:Nat)]
abbrev ach(b:Bool):List T:=[.bool b]
abbrev acF(s:List UInt8):List T:=[.str s]
def jy(P:Program)(f:FuncId):Prop:= ∃a,P.funcs[f]? =aa a/\(a.name== "runtime.NumGoroutine")=ak/\a.body.isNone=ak
section
variable {K:Ctx}{s:S}{Q:Exit->S->Prop}
variable {l:List Oper}
theorem Kh{V:Array Oper}{Q:S->Prop}{b:S}(i:s.le K b)(h:qs K V l b Q):qs K V l s Q:=
  λk a w m n o=>let ⟨c,e⟩:=i k a w n;h c a w m e o
theorem Tp{n:Nat}(k:S)(h:qs K l.toArray l s λm=>m.le K k)(o:Q .normal k):cJ K (.region n l.toArray ak) s Q:=by intro p a w q r x;refine wp_region_lit (h p a w q r λm c y A B e=>?_);obtain⟨C,i⟩:=B c y A e;exact x _ _ _ _ _ o i
theorem b9.eq{P:Program}{H:Nat->Option E}{o:Oper}{a:List V}{v dO:V}(h:b9 P H o a v)(e:v=dO):b9 P H o a dO:=e▸h
section
variable {K:Ctx}{s:S}{d:Option Tmp}{ty:TypeId}{pos:String}{af:Array Edge}{g:Option (Nat×Bool)}
variable {t:TypeId}{u:TypeDesc}{z:Value}{gen size bytes:Nat}
end
end
theorem rn(b:Bool){P:Prop}(a:b=ak->P)(c:b=ab->P):P:=by
 cases b with
 |false=>exact a rfl
 |true=>exact c rfl
theorem fG.of_eq{e a:List V}(h:e=a):fG e a:=h▸fG.refl e
section
variable {K:Ctx}{s:S}{ops:Array Oper}{rest:List Oper}{Q:S->Prop}{d:Nat}{ty:TypeId}{pos:String}{af:Array Edge}{j:Nat}{want:Bool}{t:Nat}
end
section
mutual
def V.ee(L:List Nat):V->V
  | .ref id a=> .ref (L.getD id 0) a
  | .bn id gen c a d=> .bn (L.getD id 0) gen c a d
  | .cK id gen c i a=> .cK (L.getD id 0) gen c i a
  | .agg cs=> .agg (jg L cs)
  | .bQ cs=> .bQ (jg L cs)
  | .fn f cs=> .fn f (jg L cs)
  | .t x=> .t x
  | .aQ x=> .aQ x
  | .c9=> .c9
def jg(L:List Nat):List V->List V
  | []=>[]
  |c::cs=>c.ee L::jg L cs
end
def E.ee(L:List Nat):E->E
  | .cells cs=> .cells (jg L cs)
  | .arr ty gen c a=> .arr ty gen c a
  | .bd d m gen a e=> .bd d m gen a (e.map λh=>(h.1,h.2.1,h.2.2.ee L))
theorem pz{L:List Nat}: ∀cs:List V,(jg L cs).length=cs.length
  | []=>rfl
  |c::cs=>by simp[jg,pz cs]
theorem Fc{L:List Nat}: ∀(cs:List V) (i:Nat),(jg L cs)[i]? =(cs[i]?).map (V.ee L)
  | [],_=>by simp[jg]
  |c::cs,0=>by simp[jg]
  |c::cs,i+1=>by simp[jg,Fc cs i]
variable {L:List Nat}{w:World}{X:Nat->Prop}
theorem zw{a:List V}{i:Nat}{c:V}(h:(jg L a)[i]? =aa c): ∃d,a[i]? =aa d/\c=d.ee L:=by
  rw[Fc] at h
  grind
theorem bp.ee{β T:Map}{v:V}{u:Value}(h:bp β w X v u)(e: ∀k x,β k=aa x->T (L.getD k 0)=aa x):bp T w X (v.ee L) u:=by
  induction h with
  |t x v h=>exact .t x v h
  |agg cs s o _ y=>exact .agg _ s (by rw[pz];exact o) (λi c u p z=>by obtain⟨A,B,rfl⟩:=zw p;exact y i A u B z)
  |bQ cs s o _ y=>exact .bQ _ s (by rw[pz];exact o) (λi c u p z=>by obtain⟨A,B,rfl⟩:=zw p;exact y i A u B z)
  |ref id d b l=>exact .ref _ d b (e _ _ l)
  |aQ cells b d f l G p H=>exact .aQ cells b d f l G p H
  |bn id gen a d r C b n ty m l K Q R o W=>exact .bn _ gen a d r C b n ty m (e _ _ l) K Q R o W
  |iO id gen a m l=>exact .iO _ gen a m (e _ _ l)
  |ln id gen a d r v q g F l m=>exact .ln _ gen a d r v q g F (e _ _ l) m
  |cK id gen a i d b m l=>exact .cK _ gen a i d b m (e _ _ l)
  |lM id gen a i d v q g F l m=>exact .lM _ gen a i d v q g F (e _ _ l) m
  |fn f cs s o _ y=>exact .fn f _ s (by rw[pz];exact o) (λi c u p z=>by obtain⟨A,B,rfl⟩:=zw p;exact y i A u B z)
  |c9 v=>exact .c9 v
def jC(L:List Nat)(a:Map):Map:=⟨λk=>(L[k]?).bind a,λk b=> ∃id,L[k]? =aa id/\a.n id b⟩
def fh:Nat->(Nat->Bool)
  |0=>gG
  |n+1=>bc (fh n) n ab
theorem ju: ∀{n k:Nat},fh n k=ab↔k<n
  |0,k=>by simp[fh,gG]
  |n+1,k=>by
    by_cases h:k=n
    · subst h;simp[fh,cc]
    · rw[fh,cb _ _ _ _ h,ju];omega
mutual
theorem bp.p3{β:Map}{w:World}{X:Nat->Prop}{L:List Nat}: ∀(v:V) (u:Value),bp β w X (v.ee L) u->v.ok (fh L.length)=ab->bp (jC L β) w X v u
  | .t x,u,h,_=>by
    simp only[V.ee] at h;cases h with|t _ _ h=>exact .t _ _ h
  | .aQ x,u,h,_=>by
    simp only[V.ee] at h;cases h with|aQ _ b l f a F r s=>exact .aQ _ b l f a F r s
  | .c9,u,_,_=> .c9 u
  | .ref id l,u,h,d=>by
    have e:id<L.length:=ju.1 (by simpa[V.ok] using d);have o:jC L β id=β (L.getD id 0):=by simp[jC,List.getElem?_eq_getElem e]
    simp only[V.ee] at h;cases h with|ref _ _ b a=>exact .ref _ _ b (by rw[o];exact a)
  | .bn id gen y l G,u,h,d=>by
    have e:id<L.length:=ju.1 (by simpa[V.ok] using d);have o:jC L β id=β (L.getD id 0):=by simp[jC,List.getElem?_eq_getElem e]
    simp only[V.ee] at h;cases h with
    |bn _ _ _ _ _ A b n ty m a H k K d B=>exact .bn _ _ _ _ _ A b n ty m (by rw[o];exact a) H k K d B
    |iO _ _ _ m a=>exact .iO _ _ _ m (by rw[o];exact a)
    |ln _ _ _ _ _ _ q g C a m=>exact .ln _ _ _ _ _ _ q g C (by rw[o];exact a) m
  | .cK id gen y i l,u,h,d=>by
    have e:id<L.length:=ju.1 (by simpa[V.ok] using d);have o:jC L β id=β (L.getD id 0):=by simp[jC,List.getElem?_eq_getElem e]
    simp only[V.ee] at h;cases h with
    |cK _ _ _ _ _ b m a=>exact .cK _ _ _ _ _ b m (by rw[o];exact a)
    |lM _ _ _ _ _ _ q g C a m=>exact .lM _ _ _ _ _ _ q g C (by rw[o];exact a) m
  | .agg cs,u,h,d=>by
    simp only[V.ee] at h;cases h with
    |agg _ p k s=>exact .agg _ p (by rw[pz] at k;exact k) (λi c u r z=>zL cs (λi=>p[i]?) (by simpa[V.ok] using d) s i c u r z)
  | .bQ cs,u,h,d=>by
    simp only[V.ee] at h;cases h with
    |bQ _ p k s=>exact .bQ _ p (by rw[pz] at k;exact k) (λi c u r z=>zL cs (λi=>p[i]?) (by simpa[V.ok] using d) s i c u r z)
  | .fn f cs,u,h,d=>by
    simp only[V.ee] at h;cases h with
    |fn _ _ p k s=>exact .fn _ _ p (by rw[pz] at k;exact k) λi c u r z=>zL cs (λi=>p[i]?) (by simpa[V.ok] using d) s i c u r z
theorem zL{T:Map}{w:World}{X:Nat->Prop}{L:List Nat}: ∀(cs:List V) (a:Nat->Option Value),gI (fh L.length) cs=ab->
    (∀i c u,(jg L cs)[i]? =aa c->a i=aa u->bp T w X c u)-> ∀(i:Nat) c u,cs[i]? =aa c->a i=aa u->bp (jC L T) w X c u
  | [],_,_,_,_,_,_,h,_=>by simp at h
  |c::cs,a,d,h,0,_,u,e,k=>by
    simp at e;subst e;simp[gI] at d;exact bp.p3 c u (h 0 _ u (by simp[jg]) k) d.1
  |c::cs,a,d,h,i+1,l,u,e,k=>by simp at e;simp[gI] at d;exact zL cs (λi=>a (i+1)) d.2 (λi c u m n=>h (i+1) c u (by simpa[jg] using m) n) i l u e k
end
theorem dw.p3{β:Map}{w:World}{X:Nat->Prop}{L:List Nat}: ∀{a:List V} {c:List Value},dw β w X (jg L a) c->gI (fh L.length) a=ab->dw (jC L β) w X a c
  | [],[],_,_=>trivial
  |v::a,u::c,h,d=>by
    simp[gI] at d;exact⟨bp.p3 v u h.1 d.1,dw.p3 h.2 d.2⟩
  | [],_::_,h,_=>h.elim
  |_::_,[],h,_=>h.elim
def fw:List E->Nat->(Nat->Option E)
  | [],_=>oS
  |e::a,k=>bc (fw a (k+1)) k (aa e)
theorem LH: ∀(a:List E) (k i:Nat),fw a k (k+i)=a[i]?
  | [],_,_=>by simp[fw,oS]
  |e::a,k,0=>by rw[rl,fw,cc];simp
  |e::a,k,i+1=>by rw[fw,cb _ _ _ _ O,show k+(i+1)=(k+1)+i by omega,LH a (k+1) i];simp
theorem yr(a:List E)(i:Nat):fw a 0 i=a[i]? :=by have:=LH a 0 i;rwa [eg] at this
def mI(X:Nat->Prop)(a:Map)(H:Nat->Option E)(b:Nat):Prop:=X b\/ ∃id,H id≠aj/\At a id b
structure zh (G:fq) (gW:List E) (β:Map) (w:World) (X:Nat->Prop):Prop where
  eh: ∀k,gW.length<=k->β k=aj
  eQ: ∀k b,gW.length<=k-> ¬β.n k b
  inj: ∀id lk b,At β id b->At β lk b->id=lk
  place: ∀k b,At β k b->b<w.heap.size/\ ¬X b/\G.x2<=b
  heap: ∀k e,gW[k]? =aa e->cN β w (mI X β (fw gW 0)) k e
structure Left (gM β:Map) (gW out:List E) (w w':World) (X:Nat->Prop) (r:V) (u:Value):Prop where
  ext:Ext (λb=> ∃k,At gM k b) w w'
  base:kB gW.length gM β w.heap.size
  j1:Shaped gM w w'
  eh: ∀k,out.length<=k->β k=aj
  eQ: ∀k b,out.length<=k-> ¬β.n k b
  inj: ∀id lk b,At β id b->At β lk b->id=lk
  fresh: ∀k b,At β k b->((∃ct,ct<gW.length/\At gM ct b)\/w.heap.size<=b)/\b<w'.heap.size
  heap: ∀k e,out[k]? =aa e->cN β w' (mI X β (fw out 0)) k e
  res:bp β w' (mI X β (fw out 0)) r u
def JN(P:Program)(G:fq)(f:FuncId)(c:List E)(args:List V){ι:Type}(k:ι->Prop)(r:ι->V)(d:ι->List E):Prop:=
  ∀(w:World) (X:Nat->Prop) (a:Map) (h:List Value),G.ok w->(∀b,X b->b<w.heap.size)->zh G c a w X->dw a w (mI X a (fw c 0)) args h->
    Calls P f h.toArray w λe l=> ∃u i m,e= .returned u/\k i/\Left a m c (d i) w l X (r i) u
def Ctx.fo(P:Program)(G:fq)(w:World)(X:Nat->Prop)(dL:Nat)(gM:Map)(nt:Nat):Ctx:={P,G,w0:=w,X,dL,gM,nt}
def nD(a:List E)(args:List V):S:={t:=ts args 0,H:=fw a 0,u:=fh a.length}
theorem Rel.nD{P:Program}{G:fq}{nt:Nat}{a:List E}{T:Map}{args:List V}{c:List Value}(q:G.ok w)(r: ∀b,X b->b<w.heap.size)(d:zh G a T w X)
    (h:dw T w (mI X T (fw a 0)) args c) (x:c.length<=nt):
    Rel (Ctx.fo P G w X a.length T nt) T (Lift.nD a args) {tmps:=c.toArray++Array.replicate (nt-c.toArray.size) undef,defers:=[]} w:=by
  have k: ∀id b,At T id b->id<a.length:=by
    rintro id b (⟨g,h⟩|h)
    · apply vB;intro l;rw[d.eh id l] at h;cases h
    · exact vB λl=>d.eQ id b l h
  refine {ext:=Ext.refl _ _,qH:=q,qY:= ?_,kz:= ?_,base:=kB.refl _ _ _,j1:=Shaped.refl _ _,low:=λid h=>ju.2 h,eh:= ?_,eQ:= ?_,
           uN:=d.inj,inj:=d.inj,fresh:=λid b h=>⟨.inl ⟨id,k id b h,h⟩,(d.place id b h).1⟩,heap:= ?_,dB:= ?_,nt:= ?_,defers:=rfl}
  · rintro b ⟨id,_,h⟩;exact(d.place id b h).2.2
  · intro b p;exact⟨r b p,λ⟨id,_,h⟩=>(d.place id b h).2.1 p⟩
  · intro id hid;apply d.eh;apply Nat.le_of_not_lt;intro k;have m:=ju.2 k;have n:fh a.length id=ak:=hid
    grind
  · intro id b hid h;have m:=ju.2 (k id b (.inr h));have n:fh a.length id=ak:=hid
    grind
  · intro id e s;have o:a[id]? =aa e:=by rw[<-yr];exact s
    refine⟨ju.2 ?_,d.heap id e o⟩
    grind
  · intro i;have m:=DQ args c 0 h i;rw[eg] at m;have n:(c.toArray++Array.replicate (nt-c.toArray.size) undef).getD i undef=c.getD i undef:=by
      simp only[Array.getD_eq_getD_getElem?,List.getD_eq_getElem?_getD,Array.getElem?_append]
      grind
    simp only[n];exact m
  · simp[Ctx.fo];omega
end
section
def lq{a:Type}(f:Nat->a):List Nat->(Nat->a)->(Nat->a)
 | [],_=>f
 |l::L,g=>bc (lq f L λk=>g (k+1)) l (g 0)
theorem nn{a:Type}{f:Nat->a}: ∀{L:List Nat} {g:Nat->a} {id:Nat},id∉L->lq f L g id=f id
 | [],_,_,_=>rfl
 |l::L,g,id,h=>by simp at h;rw[lq,cb _ _ _ _ h.1];exact nn h.2
theorem oA{a:Type}{f:Nat->a}: ∀{L:List Nat} {g:Nat->a} {k id:Nat},L.Nodup->L[k]? =aa id->lq f L g id=g k
 | [],_,_,_,_,h=>by simp at h
 |l::L,g,0,id,_,h=>by simp at h;subst h;rw[lq,cc]
 |l::L,g,k+1,id,c,h=>by simp at h c;have d:id≠l:=λe=>c.1 (e▸bJ h);rw[lq,cb _ _ _ _ d];exact oA (g:=λk=>g (k+1)) c.2 h
theorem E1: ∀{L:List Nat} {i j id:Nat},L.Nodup->L[i]? =aa id->L[j]? =aa id->i=j
 | [],_,_,_,_,h,_=>by simp at h
 |l::L,0,0,_,_,_,_=>rfl
 |l::L,0,j+1,id,a,h,c=>by simp at h c a;subst h;exact bz (bJ c) a.1
 |l::L,i+1,0,id,a,h,c=>by simp at h c a;subst c;exact bz (bJ h) a.1
 |l::L,i+1,j+1,id,a,h,c=>by simp at h c a;rw[E1 a.2 h c]
def S.after(s:S)(L:List Nat)(a:List E):S:=
 {t:=s.t,H:=lq s.H L λk=>(a[k]?).map (E.ee L),u:=lq s.u L (λ_=>ab)}
def Ec(K:Ctx)(o:Oper)(s:S){R:Type}(h:R->Prop)(k:R->S):Prop:=
 ∀l a w next Q,Rel K l s a w->(∀i,h i-> ∀c d e,Rel K c (k i) d e->next d e)->o.wp K.P a w next Q
variable {β:Map}{w:World}{X:Nat->Prop}{L:List Nat}{k:Nat}{e:E}{f:FuncId}
theorem cN.p3{id:Nat}(h:cN β w X id (e.ee L))(C:L[k]? =aa id)(G:e.ok (fh L.length)=ab):cN (jC L β) w X k e:=by
 have l:jC L β k=β id:=by simp[jC,C]
 cases e with
 |cells cs=>
  obtain⟨b,o,ty,a,d,s,F⟩:=h;rw[pz] at s;refine⟨b,o,ty,by rw[l];exact a,d,s,λi c u y R=>?_⟩;exact bp.p3 c u (F i _ u (by rw[Fc,y];rfl) R) (vy G y)
 |arr ty gen H p=>
  refine⟨h.1,?_⟩;rcases h.2 with ⟨a,d⟩|⟨b,o,a,d⟩
  ·exact .inl ⟨by rw[l];exact a,d⟩
  exact .inr ⟨b,o,by rw[l];exact a,d⟩
 |bd M m gen p N=>
  refine⟨h.1,?_⟩;have K: ∀c,(jC L β).n k c↔β.n id c:=λc=>⟨λ⟨W,a,d⟩=>by rw[C] at a;cases a;exact d,λh=>⟨id,C,h⟩⟩
  rcases h.2 with ⟨a,d,Z⟩|⟨b,o,B,a,d,s,F,Q,f,g,t⟩
  ·exact .inl ⟨by rw[l];exact a,d,λc y=>Z c ((K c).1 y)⟩
  refine .inr ⟨b,o,B,by rw[l];exact a,d,s,F,λi j q x u aS a2 a3=>⟨λv z=>?_,λD=>?_⟩,f,g,λc=>(K c).trans (t c)⟩
  ·have A:=(Q i j q x u aS a2 a3).1 (v.ee L) (eo.2 ⟨_,z,rfl⟩);exact⟨bp.p3 v u A.1 (Fh G z),A.2⟩
  refine(Q i j q x u aS a2 a3).2 λv z=>?_;obtain⟨⟨P,S,I⟩,A,r⟩:=eo.1 z;simp only[Prod.mk.injEq] at r;obtain⟨rfl,rfl,rfl⟩:=r;exact D I A
theorem cN.ee{β':Map}{R:Nat->Prop}{F:Nat}(h:cN β w X k e)(f:L[k]? =aa F)(o: ∀k x,β k=aa x->β' (L.getD k 0)=aa x)(G: ∀b,R b->X b)(W: ∀b,β'.n F b↔β.n k b):cN β' w R F (e.ee L):=by
 have q: ∀x,β k=aa x->β' F=aa x:=λx H=>by have:=o k x H;rwa [eB,f] at this
 cases e with
 |cells cs=>
  obtain⟨b,r,ty,a,d,s,y⟩:=h;refine⟨b,r,ty,q _ a,d,by rw[pz];exact s,λi c u K g=>?_⟩;obtain⟨t,p,rfl⟩:=zw K;exact((y i t u p g).ee o).mono (Ext.refl _ _) (λb _=>G b) (dS.refl _) (Shaped.refl _ _)
 |arr ty gen Z z=>
  refine⟨h.1,?_⟩;rcases h.2 with ⟨a,d⟩|⟨b,r,a,d,s,y,p⟩
  ·exact .inl ⟨q _ a,d⟩
  exact .inr ⟨b,r,q _ a,d,s,y,λi j l x u aS a2 a3=>(p i j l x u aS a2 a3).mono (Ext.refl _ _) λb _=>G b⟩
 |bd T m gen z U=>
  refine⟨h.1,?_⟩;rcases h.2 with ⟨a,d,D⟩|⟨b,r,B,a,d,s,y,p,I,M,N⟩
  ·exact .inl ⟨q _ a,d,λc K=>D c ((W c).1 K)⟩
  refine .inr ⟨b,r,B,q _ a,d,s,y,λi j l x u aS a2 a3=>⟨λv Q=>?_,λH=>?_⟩,I,M,λc=>(W c).trans (N c)⟩
  ·obtain⟨⟨V,ei,P⟩,S,A⟩:=eo.1 Q;simp only[Prod.mk.injEq] at A;obtain⟨rfl,rfl,rfl⟩:=A;have C:=(p _ _ l x u aS a2 a3).1 P S;exact⟨(C.1.ee o).mono (Ext.refl _ _) (λb _=>G b) (dS.refl _) (Shaped.refl _ _),C.2⟩
  exact((p i j l x u aS a2 a3).2 λv Q=>H (v.ee L) (eo.2 ⟨_,Q,rfl⟩)).mono (Ext.refl _ _) (λb _=>G b) λ_ _=>rfl
theorem dw.app{β:Map}{w:World}{X:Nat->Prop}: ∀{d a:List V} {e c:List Value},dw β w X d e->dw β w X a c->dw β w X (d++a) (e++c)
 | [],_,[],_,_,h=>h
 |_::_,_,_::_,_,h,k=>⟨h.1,dw.app h.2 k⟩
 | [],_,_::_,_,h,_=>h.elim
 |_::_,_,[],_,h,_=>h.elim
theorem EH{T:Map}{w:World}{X:Nat->Prop}: ∀{d:List V} {e:List Value},e.length=d.length->(∀(i:Nat) c u,d[i]? =aa c->e[i]? =aa u->bp T w X c u)->dw T w X d e
 | [],[],_,_=>trivial
 |v::d,u::e,a,h=>⟨h 0 v u rfl rfl,EH (by simpa using a) λi c u k l=>h (i+1) c u (by simpa using k) (by simpa using l)⟩
 | [],_::_,a,_=>by simp at a
 |_::_,[],a,_=>by simp at a
theorem bp.Hk{a:List V}{u:Value}(h:bp β w X (.fn f a) u): ∃d:Array Value,u= .func (.func f) #[] d/\dw β w X a d.toList:=by
 cases h with
 |fn _ _ d e h=>exact⟨d,rfl,EH (by simpa using e) λi c u k l=>h i c u k (by simpa using l)⟩
theorem Ze{K:Ctx}{s:S}{o:Oper}{xs:Array Operand}{RV:Array TypeId}{gW:List E}{args:List V}{ι:Type}{mh:ι->Prop}{r:ι->V}{R:ι->List E}(Hl:Operand)(L news:List Nat)
  (PY:List V) (ew:o.op= .call {callee:= .value Hl,args:=xs,argTypes:=RV}) (afa:s.get Hl= .fn f PY)
  (iK:jy K.P f) (cM: ∀i,o.dst=aa i->df i K.nt=ab) (bR:fG (xs.toList.map s.get++PY) (jg L args)) (cC:gI (fh L.length) args=ab)
  (qI:gW.length=L.length) (hH: ∀(k:Nat) (e:E),gW[k]? =aa e-> ∃id,L[k]? =aa id/\s.H id=aa (e.ee L)/\e.ok (fh L.length)=ab)
  (T:(L++news).Nodup) (BN: ∀id,id∈news->s.u id=ak) (HJ: ∀i,(R i).length=(L++news).length)
  (h:JN K.P K.G f gW args mh r R):Ec K o s mh (λi=>(s.after (L++news) (R i)).put o.dst ((r i).ee (L++news))):=by
 obtain⟨fn,ae6,ae7,ae8⟩:=iK;intro X a w next Q p l
 have so:fn.name≠ "runtime.NumGoroutine" :=by simpa using ae7
 have hb':fn.body≠aj:=by intro e;simp[e] at ae8
 obtain⟨us,aeU,HQ⟩:=(afa▸p.get Hl).Hk;have HN:(execOp a.eval o).run K.P w= .ok (.enter f (xs.map a.eval++us)) w:=by
  simp[execOp,ew,resolve,Deferred.ofValue,aeU,invoke,callFunc,ae6,so,hb']
 unfold Oper.wp;rw[HN,Oper.upon_enter];let z:Map:=jC L X;let h8:Nat->Prop:=λb=>own K X s.H b/\ ¬ ∃k,At z k b;have kU: ∀k g b,z k=aa (aa b,g)-> ∃id,L[k]? =aa id/\X id=aa (aa b,g):=by
  intro k g b h;cases l:L[k]? with
  |none=>simp[z,jC,l] at h
  |some id=>simp[z,jC,l] at h;exact⟨id,rfl,h⟩
 have Z: ∀k b,At z k b-> ∃id,L[k]? =aa id/\At X id b:=by
  rintro k b (⟨g,h⟩|⟨id,m,y⟩)
  ·obtain⟨id,m,y⟩:=kU k g b h;exact⟨id,m,.inl ⟨g,y⟩⟩
  exact⟨id,m,.inr y⟩
 have aeM: ∀(k id:Nat),L[k]? =aa id->s.H id≠aj:=by
  intro k id l;have hlt:k<gW.length:=by rw[qI];exact(bX.1 l).1
  obtain⟨F,m,y,_⟩:=hH k _ (bo hlt);rw[l] at m;cases m;rw[y];simp
 have v: ∀k b,At z k b->own K X s.H b:=by
  intro k b h;obtain⟨id,m,y⟩:=Z k b h;exact .inr ⟨id,aeM k id m,y⟩
 have Qy: ∀b,mI h8 z (fw gW 0) b->own K X s.H b:=by
  rintro b (h|⟨k,_,y⟩)
  ·exact h.1
  exact v k b y
 have Hs: ∀k b,At z k b->K.M b\/K.w0.heap.size<=b:=by
  intro k b h;obtain⟨id,m,y⟩:=Z k b h;exact(p.fresh id b y).1
 have xx: ∀b,own K X s.H b->b<w.heap.size:=by
  rintro b (D|⟨id,_,a7⟩)
  ·exact l9 (p.kz b D).1 p.ext.size
  exact(p.fresh id b a7).2
 have afz:L.Nodup:=(List.nodup_append.1 T).1;have afj:zh K.G gW z w h8:=by
  refine⟨?_,?_,?_,?_,?_⟩
  ·intro k l;rw[qI] at l;simp[z,jC,List.getElem?_eq_none l]
  ·rintro k b l ⟨id,m,_⟩;rw[qI] at l;rw[tb l] at m;cases m
  ·intro k ct b h h';obtain⟨id,m,y⟩:=Z k b h;obtain⟨F,aeB,h2'⟩:=Z ct b h';have he:=p.inj id F b y h2';subst he;have l:=(bX.1 m).1;exact E1 afz m aeB
  ·intro k b B;refine⟨xx b (v k b B),λD=>D.2 ⟨k,B⟩,?_⟩;rcases Hs k b B with A|A
   ·exact p.qY b A
   exact hA p.qH.1 A
  intro k e he;obtain⟨id,m,y,h4⟩:=hH k e he;have jz:=cN.p3 (p.heap id _ y).2 m h4;exact jz.mono (Ext.refl _ _) (λb _=>Qy b) (dS.refl _) (λ_ h=>h) (Shaped.refl _ _) λ_ _=>rfl
 have aeO:=(dw.p3 (((p.oi xs.toList).app HQ).le bR) cC).mono (Ext.refl _ _) (λb _=>Qy b) (dS.refl _) (Shaped.refl _ _);have bN:=h w h8 z _ p.BD (λb a7=>xx b a7.1) afj aeO;have he:(List.map a.eval xs.toList++us.toList).toArray=xs.map a.eval++us:=by rw[<-vA,<-Array.toList_append]
 rw[he] at bN;refine bN.mono ?_;rintro e w' ⟨u,i,W,rfl,agf,d⟩;let C:=L++news;let I:Map:=⟨lq X C W,λid b=>(id∉C/\X.n id b)\/ ∃k,C[k]? =aa id/\W.n k b⟩
 let s2:=s.after C (R i);have aft: ∀k,k<L.length->C[k]? =L[k]? :=λk l=>iV l;have t: ∀id,id∈C-> ∃k:Nat,C[k]? =aa id/\k<(R i).length:=by
  intro id hid;obtain⟨k,l,e⟩:=List.mem_iff_getElem.1 hid;exact⟨k,bX.2 ⟨l,e⟩,by rw[HJ];exact l⟩
 have F1: ∀id,id∉C->I id=X id:=λid h=>nn h;have zg: ∀k id,C[k]? =aa id->I id=W k:=λk id h=>oA T h;have Jm: ∀k id,k<L.length->C[k]? =aa id->(W k=X id)\/ ∃q g va lP,X id=aa (q,g)/\1<=g/\W k=aa (va,lP)/\g<lP/\ ∀b,va=aa b->q=aa b\/w.heap.size<=b:=by
  intro k id l h;have a7:=d.base k (by rw[qI];exact l);rw[aft k l] at h;have e:z k=X id:=by simp[z,jC,h]
  rw[e] at a7;exact a7
 have Qt: ∀k id,L.length<=k->C[k]? =aa id->id∈news:=by
  intro k id l h;rw[hT l] at h;exact bJ h
 have Jn:dS X I:=by
  intro id q g D;by_cases hid:id∈C
  ·obtain⟨k,l,_⟩:=t id hid;by_cases U:k<L.length
   ·rw[zg k id l];rcases Jm k id U l with e|⟨nB,g1,va,lP,aS,a2,a3,a4,_⟩
    ·exact .inl (e.trans D)
    rw[D] at aS;cases aS;exact .inr ⟨a2,va,lP,a3,a4⟩
   have:=p.eh id (BN id (Qt k id O l));rw[this] at D;cases D
  exact .inl (by rw[F1 id hid];exact D)
 have aeH: ∀k id,C[k]? =aa id->s2.H id=((R i)[k]?).map (E.ee C):=λk id h=>oA T h;have Qc: ∀id,id∉C->s2.H id=s.H id:=λid h=>nn h;have Qx: ∀id b,id∉C->At X id b-> ¬ ∃k,At z k b:=by
  rintro id b hid a7 ⟨k,h⟩;obtain⟨F,m,y⟩:=Z k b h
  have:=p.inj id F b a7 y;subst this;exact hid (l7 _ (bJ m))
 have BG: ∀id b,At I id b->(id∉C/\At X id b)\/ ∃k,C[k]? =aa id/\At W k b:=by
  rintro id b (⟨g,h⟩|⟨m,y⟩|⟨k,m,y⟩)
  ·by_cases hid:id∈C
   ·obtain⟨k,l,_⟩:=t id hid;rw[zg k id l] at h;exact .inr ⟨k,l,.inl ⟨g,h⟩⟩
   rw[F1 id hid] at h;exact .inl ⟨hid,.inl ⟨g,h⟩⟩
  ·exact .inl ⟨m,.inr y⟩
  exact .inr ⟨k,m,.inr y⟩
 have hO: ∀b,own K I s2.H b->mI h8 W (fw (R i) 0) b:=by
  rintro b (D|⟨id,m,y⟩)
  ·refine .inl ⟨.inl D,?_⟩;rintro⟨k,B⟩;rcases Hs k b B with A|A
   ·exact(p.kz b D).2 A
   have:=(p.kz b D).1;omega
  rcases BG id b y with ⟨hid,h2'⟩|⟨k,l,B⟩
  ·rw[Qc id hid] at m;exact .inl ⟨.inr ⟨id,m,h2'⟩,Qx id b hid h2'⟩
  have U:k<(R i).length:=by rw[HJ];exact(bX.1 l).1
  refine .inr ⟨k,?_,B⟩;rw[yr,bo U];simp
 have aih: ∀k b,At W k b->k<(R i).length:=by
  rintro k b (⟨g,h⟩|h)
  ·apply vB;intro hle;rw[d.eh k hle] at h;cases h
  exact vB λhle=>d.eQ k b hle h
 have Qe: ∀b,b<w.heap.size->own K I s2.H b->own K X s.H b:=by
  intro b aeS a7;rcases hO b a7 with m|⟨k,_,B⟩
  ·exact m.1
  rcases(d.fresh k b B).1 with ⟨ct,_,A⟩|A
  ·exact v ct b A
  omega
 have Qb:Ext (own K X s.H) w w':=d.ext.weaken λb _ ⟨k,B⟩=>v k b B;have Qg:Shaped X w w':=λb a7=>d.j1 b a7;have QE: ∀k x,W k=aa x->I (C.getD k 0)=aa x:=by
  intro k x D;have hlt:k<(R i).length:=by
   apply vB;intro hle;rw[d.eh k hle] at D;cases D
  rw[HJ] at hlt;have bG:C[k]? =aa C[k]:=bo hlt;rw[eB,bG];exact(zg k _ bG).trans D
 have hold: ∀k b,At W k b->(∃id,id∈C/\At X id b)\/w.heap.size<=b:=by
  intro k b a7;rcases(d.fresh k b a7).1 with ⟨ct,A,h4⟩|A
  ·obtain⟨F,e1,e2⟩:=Z ct b h4;exact .inl ⟨F,l7 _ (bJ e1),e2⟩
  exact .inr A
 have hrel:Rel K I s2 a w':=by
  refine {p with ext:= ?_,base:= ?_,j1:= ?_,low:= ?_,eh:= ?_,eQ:= ?_,inj:= ?_,fresh:= ?_,heap:= ?_,dB:= ?_}
  ·refine p.ext.trans' (d.ext.weaken ?_);rintro b _ ⟨k,B⟩ ⟨m,y⟩;rcases Hs k b B with A|A
   ·exact y A
   omega
  ·refine p.base.more λid hid=>?_;by_cases N:id∈C
   ·obtain⟨k,l,_⟩:=t id N;by_cases U:k<L.length
    ·rw[zg k id l];rcases Jm k id U l with e|⟨q,g,va,lP,aS,a2,a3,a4,a5⟩
     ·exact .inl e
     exact .inr ⟨q,g,va,lP,aS,a2,a3,a4,λb a7=>by
      rcases a5 b a7 with c|c
      ·exact .inl c
      exact .inr (hA p.ext.size c)⟩
    have m:=BN id (Qt k id O l);rw[p.low id hid] at m;cases m
   exact .inl (F1 id N)
  ·intro b A;exact(d.j1 b (l9 A p.ext.size)).trans (p.j1 b A)
  ·intro id hid;by_cases N:id∈C
   ·obtain⟨k,l,_⟩:=t id N;exact oA (f:=s.u) (g:=λ_=>ab) T l
   exact(nn N).trans (p.low id hid)
  ·intro id hid;by_cases N:id∈C
   ·obtain⟨k,l,_⟩:=t id N
    have:s2.u id=ab:=oA (f:=s.u) (g:=λ_=>ab) T l;rw[this] at hid;cases hid
   rw[F1 id N];exact p.eh id ((nn (f:=s.u) (g:=λ_=>ab) N).symm.trans hid)
  ·rintro id b hid (⟨m,y⟩|⟨k,l,y⟩)
   ·exact p.eQ id b ((nn (f:=s.u) (g:=λ_=>ab) m).symm.trans hid) y
   have:s2.u id=ab:=oA (f:=s.u) (g:=λ_=>ab) T l;rw[this] at hid;cases hid
  ·intro id F b m y;rcases BG id b m with ⟨m1,aS⟩|⟨k,l,aS⟩<;>rcases BG F b y with ⟨m2,a2⟩|⟨ct,pv,a2⟩
   ·exact p.inj id F b aS a2
   ·rcases hold ct b a2 with ⟨xG,A,h4⟩|A
    ·have:=p.inj id xG b aS h4;subst this;exact bz A m1
    have:=(p.fresh id b aS).2;omega
   ·rcases hold k b aS with ⟨xG,A,h4⟩|A
    ·have:=p.inj F xG b a2 h4;subst this;exact bz A m2
    have:=(p.fresh F b a2).2;omega
   have:=d.inj k ct b aS a2;subst this;rw[l] at pv;cases pv;rfl
  ·intro id b m;rcases BG id b m with ⟨_,aS⟩|⟨k,l,aS⟩
   ·exact⟨(p.fresh id b aS).1,l9 (p.fresh id b aS).2 d.ext.size⟩
   refine⟨?_,(d.fresh k b aS).2⟩;rcases hold k b aS with ⟨xG,_,A⟩|A
   ·exact(p.fresh xG b A).1
   exact .inr (hA p.ext.size A)
  ·intro id e he;by_cases N:id∈C
   ·obtain⟨k,l,U⟩:=t id N;refine⟨oA (f:=s.u) (g:=λ_=>ab) T l,?_⟩;rw[aeH k id l,bo U] at he;simp at he;subst he;exact cN.ee (d.heap k _ (bo U)) l QE hO (λb=>⟨λh=>by
     rcases h with ⟨m,_⟩|⟨ct,m,y⟩
     ·exact bz N m
     have:=E1 T m l;subst this;exact y,λh=> .inr ⟨k,l,h⟩⟩)
   rw[Qc id N] at he;obtain⟨m,y⟩:=p.heap id e he;refine⟨(nn (f:=s.u) (g:=λ_=>ab) N).trans m,?_⟩;exact y.mono Qb Qe Jn (λx D=>by rw[F1 id N];exact D) Qg (λb a7=>d.ext.keep b (p.fresh id b a7).2 (Qx id b N a7)) (λb=>⟨λh=>by
    rcases h with ⟨_,h⟩|⟨ct,m,_⟩
    ·exact h
    exact bz (bJ m) N,λh=> .inl ⟨N,h⟩⟩)
  intro j;exact(p.dB j).mono Qb Qe Jn Qg
 exact l i agf I _ w' (hrel.put o.dst cM ((d.res.ee QE).mono (Ext.refl _ _) (λb _=>hO b) (dS.refl _) (Shaped.refl _ _)))
end
section
variable {K:Ctx}{s:S}{d:Option Tmp}{ty:TypeId}{pos:String}{af:Array Edge}{g:Option (Nat×Bool)}{f:FuncId}{xs:Array Operand}{RV:Array TypeId}{args:List V}{ι:Type}{mh:ι->Prop}{r:ι->V}{out:ι->List E}
theorem Ec.j{o:Oper}{u:Unit->Prop}{c:Unit->S}(h:Ec K o s u c):dY K o s (c ()):=
 λβ a w next Q e i=>h β a w next Q e λ_ _=>i
variable {ops:Array Oper}{rest:List Oper}{Q:S->Prop}{op:Op}
end
theorem U8(a b:Nat)(c:a<9223372036854775808)(e:b<9223372036854775808):bits .xor .i64 (a:Int) (b:Int)=((a ^^^ b:Nat):Int):=by have h:a ^^^ b<2^63:=Nat.xor_lt_two_pow O O;show IntKind.i64.wrap ((BitVec.ofInt 64 (a:Int) ^^^ BitVec.ofInt 64 (b:Int)).toNat:Int)=_;rw[BitVec.toNat_xor,ofInt_u64 a O,ofInt_u64 b O];exact IntWalk.i64_in _ O
section
variable {P:Program}{H:Nat->Option E}{d:Option Tmp}{ty:TypeId}{pos:String}{af:Array Edge}{g:Option (Nat×Bool)}
theorem NF(n:Int):IntKind.u8.wrap n=((UInt8.ofInt n).toNat:Int):=by
 have:IntKind.u8.wrap n=n%256:=by simp[IntKind.wrap,IntKind.bits,IntKind.signed]
 rw[this];simp[UInt8.ofInt];omega
theorem adb(a b:UInt8):IntKind.u8.wrap ((a.toNat:Int)-(b.toNat:Int))=((a-b).toNat:Int):=by rw[NF];congr 2;apply UInt8.toNat_inj.1;have c:=UInt8.toNat_lt a;have e:=UInt8.toNat_lt b;simp[UInt8.ofInt,UInt8.toNat_sub];omega
theorem Vr(x:Operand)(c k e:TypeId)(l:List UInt8)(B:P.underlying c=aa (.slice e))(C:P.underlying e=aa (.int .u8))(F:P.underlying k=aa .string):
  b9 P H ⟨d,.convert c k x,ty,pos,af,g⟩ [RY (l.map nA)] (bB l):=by
 intro D w X G _ I;refine⟨.string ⟨l.toArray⟩,?_,.t _ _ (.str l)⟩;have R:bp D w X (RY (l.map nA)) (G x):=I.1;simp only[execOp];suffices (convert c k (G x)).run P w= .ok (.string ⟨l.toArray⟩) w by
  simp only[ff,this,fb,Sem.run_pure]
 generalize G x=y at R⊢;cases R with
 |t _ _ h=>
  generalize W:l.map nA=Z at h;cases h with
  |gn a m=>
   have p:l=[]:=by simpa using W
   subst p;rw[run_convert_bytes_string w c k e _ _ _ B C F];cases a with
   |none=>simp[Conv.bytesToString];rfl
   |some a=>
    rw[run_bytesToString w a 0 m [] (by simp[loadCells,loadCellsFrom,Sem.run_pure])];rfl
  |bD _ b n r m f S T j K M L=>
   subst W;cases p:l with
   |nil=>
    subst p
    have:=run_convert_bytes_arg (P:=P) w c e B C b n 0 m [] rfl (λi u=>O) k F;exact this
   |cons y U=>
    rw[<-p];have o:r=1:=by
     have:=K (nA y) (by rw[p];simp);simpa using this.symm
    subst o;have N: ∀(i:Nat) (z:UInt8),l[i]? =aa z->f i 0= .int .u8 (z.toNat:Int):=by
     intro i z s;have v:=L i 0 (nA z) (.int .u8 (z.toNat:Nat)) (by rw[ek,s];rfl) rfl;generalize f i 0=q at v⊢;cases v;rfl
    have:=run_convert_bytes_arg (P:=P) w c e B C b n (l.map nA).length m (l.map λz=>(z.toNat:Int)) aW (λi u=>by
     have A:i<l.length:=by simpa using u
     have s:l[i]? =aa l[i]:=bo A;have Q:=M i 0 (by simpa using A) O;rw[N i _ s] at Q;rw[show n+i*1+0=n+i by omega] at Q;rw[Q];simp[List.getD_eq_getElem?_getD,s]) k F
    rw[this];congr 2;simp only[strOfNums,List.map_map];congr 2;apply List.ext_getElem?;intro i;rw[ek];cases s:l[i]? with
    |none=>rfl
    |some z=>simp
end
section
variable {K:Ctx}{s:S}{d:Option Tmp}{ty:TypeId}{pos:String}{af:Array Edge}{g:Option (Nat×Bool)}
variable {t:TypeId}{u:TypeDesc}{z:Value}{size bytes:Nat}
theorem Zp(k:Nat)(r:s.u k=ak)(e:TypeId)(y: ∀i,d=aa i->df i K.nt=ab)(A:K.P.underlying t=aa (.slice e))(B:cj K.P e u z size bytes):
  dY K ⟨d,.buildSlice t 0 #[],ty,pos,af,g⟩ s ((s.new k (.arr e 1 size [])).put d (.bn k 1 size 0 0)):=by
 intro p a w next Q C m
 have c:(execOp a.eval ⟨d,.buildSlice t 0 #[],ty,pos,af,g⟩).run K.P w= .ok (.value (.slice (aa ⟨w.heap.size,0,aj⟩) 0 0)) (w.alloc (.cells #[] e)):=by
  simp only[execOp,Instr.buildSlice,ff,run_underlying A,fb,B.run_sizeOf,Nat.zero_mul,show¬(0>2^24) by decide,if_false,if_true];simp only[Instr.fill,ff,Sem.run_pure,fb,show Array.range 0= #[] from by simp[Array.range],List.map_toArray,List.map_nil];rfl
 unfold Oper.wp;rw[c];have l:=C.new k 1 r #[] e (.arr e 1 size []) λF X Z G L R=>⟨cV _,Or.inr ⟨w.heap.size,_,L,by subst G;exact lf _ _,aW,λ_ h=>by simp at h,λi j W x u h=>by simp at h⟩⟩
 have n:(w.alloc (.cells #[] e)).heap.size=w.heap.size+1:=World.size_alloc ..;have o:(w.alloc (.cells #[] e)).shape? w.heap.size=aa (e,0):=by unfold World.shape?;rw[lf];simp
 have q:bp (p.put k (aa (aa w.heap.size,1))) (w.alloc (.cells #[] e)) (own K (p.put k (aa (aa w.heap.size,1))) (s.new k (.arr e 1 size [])).H) (.bn k 1 size 0 0)
   (.slice (aa ⟨w.heap.size,0*size,aj⟩) 0 0):= .bn k 1 size 0 0 0 w.heap.size 0 e (cV _) (cc _ _ _) (n▸oO _) o aW (cV _) (by unfold maxLen;omega)
 rw[iq] at q;exact m _ _ _ (l.put d y q)
end
def GZ:Option TypeDesc->Bool
 |some (.int .i64)=>ab
 |_=>ak
theorem aal{o:Option TypeDesc}(h:GZ o=ab):o=aa (.int .i64):=by
 unfold GZ at h
 grind
def vq(P:Program):List Field->Nat->Bool
 | [],_=>ab
 |f::a,i=>f.name != "_" &&GZ (P.underlying f.type)&&b4 f.offset i&&vq P a (i+1)
theorem Ik{P:Program}{w:World}{xs ys:Array Value}: ∀(a:List Field) (i:Nat) (ms c:List Int),vq P a i=ab->ms.length=a.length->c.length=a.length->
  (∀(j:Nat) m,ms[j]? =aa m->xs[i+j]? =aa (.int .i64 m))->(∀(j:Nat) m,c[j]? =aa m->ys[i+j]? =aa (.int .i64 m))->
  (Op.eqFields 9999 xs ys a).run P w= .ok (ah (ms=c)) w
 | [],i,ms,c,_,e,h,_,_=>by
  have B:ms=[]:=by simpa using e
  have C:c=[]:=by simpa using h
  subst B;subst C;simp[Op.eqFields]
 |f::a,i,[],c,_,e,_,_,_=>by simp at e
 |f::a,i,m::ms,[],_,_,h,_,_=>by simp at h
 |f::a,i,m::ms,n::c,x,e,h,y,z=>by
  simp only[vq,b5] at x;obtain⟨⟨⟨F,l⟩,ew⟩,G⟩:=x;have l:=aal l;have ew:=c4 ew;have o:f.name≠ "_" :=by simpa using F
  have A: ∀(cs:Array Value) (v:Value),cs[i]? =aa v->(part f.type cs f.offset).run P w= .ok v w:=by
   intro cs v K;rw[ew];simp[part,isAgg,run_underlying l,K]
  have p:=y 0 m rfl;have r:=z 0 n rfl;have L:=Ik (P:=P) (w:=w) a (i+1) ms c G (by simpa using e) (by simpa using h)
   (λj q s=>by rw[show i+1+j=i+(j+1) by omega];exact y (j+1) q (by simpa using s))
   λj q s=>by rw[show i+1+j=i+(j+1) by omega];exact z (j+1) q (by simpa using s)
  simp only[Op.eqFields,o,ne_eq,not_false_eq_true,if_true,ff,A xs _ p,A ys _ r,fb,run_equalIn_int w 9998 f.type .i64 .i64 m n l];by_cases k:m=n
  ·subst k;simp[L]
  simp[k]
section
variable {P:Program}{H:Nat->Option E}{d:Option Tmp}{ty:TypeId}{pos:String}{af:Array Edge}{g:Option (Nat×Bool)}
theorem Al{T:Map}{w:World}{X:Nat->Prop}{e:List Int}{u:Value}(h:bp T w X (.agg (e.map U)) u): ∃a:Array Value,u= .agg a/\ ∀(j:Nat) m,e[j]? =aa m->a[j]? =aa (.int .i64 m):=by
 cases h with
 |agg _ a n o=>
  refine⟨a,rfl,λj m i=>?_⟩;have c:j<a.size:=by
   rw[n,dz];exact(bX.1 i).1
  have k:a[j]? =aa a[j]:=jo c;have l:=o j (U m) _ (by rw[ek,i];rfl) k;rw[k];generalize a[j]=q at l;cases l with|t _ _ h=>cases h;rfl
theorem Wc(x y:Operand)(t r:TypeId)(a c:List Int)(s:P.underlying t=aa (.struct (P.fieldsOf t)))(z:P.stoodInHeld t=ak)(A:P.eqGuardType P.depth t=ak)
  (B:vq P (P.fieldsOf t).toList 0=ab) (e:b4 a.length (P.fieldsOf t).size=ab) (h:b4 c.length (P.fieldsOf t).size=ab):
  b9 P H ⟨d,.binOp .neq t x y r,ty,pos,af,g⟩ [.agg (a.map U),.agg (c.map U)] (aO (!decide (a=c))):=by
 intro F w X p _ q;obtain⟨i,k,eK⟩:=Al q.1;obtain⟨l,n,cy⟩:=Al q.2.1;refine⟨.bool (!decide (a=c)),?_,.t _ _ (.bool _)⟩;have e:=c4 e;have h:=c4 h;have C:=Ik (P:=P) (w:=w) (xs:=i) (ys:=l) (P.fieldsOf t).toList 0 a c B (by simpa using e) (by simpa using h) (λj m o=>by simpa using eK j m o) λj m o=>by simpa using cy j m o
 have k:p x=_:=k;have n:p y=_:=n;simp only[execOp,k,n,ff,run_eqGuard_agg w .neq t x y i l A,fb,run_neq_struct,run_equalIn_struct w 9999 t i l s z,C,Sem.run_pure]
theorem Wj(x y:Operand)(t r:TypeId)(a c:List Int)(s:P.underlying t=aa (.struct (P.fieldsOf t)))(z:P.stoodInHeld t=ak)(A:P.eqGuardType P.depth t=ak)
  (B:vq P (P.fieldsOf t).toList 0=ab) (e:b4 a.length (P.fieldsOf t).size=ab) (h:b4 c.length (P.fieldsOf t).size=ab):
  b9 P H ⟨d,.binOp .eql t x y r,ty,pos,af,g⟩ [.agg (a.map U),.agg (c.map U)] (aO (ah (a=c))):=by
 intro F w X p _ q;obtain⟨i,k,eK⟩:=Al q.1;obtain⟨l,n,cy⟩:=Al q.2.1;refine⟨.bool (ah (a=c)),?_,.t _ _ (.bool _)⟩;have e:=c4 e;have h:=c4 h;have C:=Ik (P:=P) (w:=w) (xs:=i) (ys:=l) (P.fieldsOf t).toList 0 a c B (by simpa using e) (by simpa using h) (λj m o=>by simpa using eK j m o) λj m o=>by simpa using cy j m o
 have k:p x=_:=k;have n:p y=_:=n;simp only[execOp,k,n,ff,run_eqGuard_agg w .eql t x y i l A,fb,run_eql_struct,run_equalIn_struct w 9999 t i l s z,C,Sem.run_pure]
end
def wy(P:Program)(t:TypeId)(n:Nat):Prop:=P.underlying t=aa (.struct (P.fieldsOf t))/\P.stoodInHeld t=ak/\P.eqGuardType P.depth t=ak/\vq P (P.fieldsOf t).toList 0=ab/\(P.fieldsOf t).size=n
section
variable {P:Program}{H:Nat->Option E}{d:Option Tmp}{ty:TypeId}{pos:String}{af:Array Edge}{g:Option (Nat×Bool)}
theorem Zh(x y:Operand)(t l:TypeId){n:Nat}(i k:List Int)(h:wy P t n)(m:b4 i.length n=ab)(o:b4 k.length n=ab):
  b9 P H ⟨d,.binOp .neq t x y l,ty,pos,af,g⟩ [.agg (i.map U),.agg (k.map U)] (aO (!decide (i=k))):=by obtain⟨a,b,c,e,f⟩:=h;exact Wc x y t l i k a b c e (by rw[f];exact m) (by rw[f];exact o)
theorem Zj(x y:Operand)(t l:TypeId){n:Nat}(i k:List Int)(h:wy P t n)(m:b4 i.length n=ab)(o:b4 k.length n=ab):
  b9 P H ⟨d,.binOp .eql t x y l,ty,pos,af,g⟩ [.agg (i.map U),.agg (k.map U)] (aO (ah (i=k))):=by obtain⟨a,b,c,e,f⟩:=h;exact Wj x y t l i k a b c e (by rw[f];exact m) (by rw[f];exact o)
end
inductive Eg where
 |bool
 |int (k:IntKind)
 |string
 |slice (e:Nat)
 |array (n e:Nat)
 |struct (ajI:List (Nat×Nat))
 |QP
 |other
structure cn where
 u:Eg
 z:Value
 size:Nat
 bytes:Nat
 places:Array (Nat×Nat)
def Eg.agg:Eg->Bool
 | .struct _=>ab
 | .array _ _=>ab
 |_=>ak
def cn.is(P:Program)(i:cn)(u:TypeDesc):Prop:=match i.u with
 | .bool=>u= .bool
 | .int k=>u= .int k
 | .string=>u= .string
 | .slice e=>u= .slice e
 | .array n e=>u= .array n e
 | .struct l=> ∃a,u= .struct a/\a.toList.map (λf=>(f.type,f.offset))=l/\ ∀w,(a.mapM (m:=Sem) λf:Field=>do pure (f.offset,<-sizeOf f.type)).run P w= .ok i.places w
 | .QP=> ∃m,u= .interface m
 | .other=>kK u=ak
def cn.ok(P:Program)(t:TypeId)(i:cn):Prop:= ∃u,cj P t u i.z i.size i.bytes/\i.is P u
variable {P:Program}{t:TypeId}{i:cn}{a R W:Type}{x:a}{r:List R}{b n:Int}{l:List a}
theorem cn.ok.agg(h:i.ok P t): ∃u,cj P t u i.z i.size i.bytes/\kK u=i.u.agg:=by
 obtain⟨u,e,c⟩:=h;refine⟨u,e,?_⟩;unfold cn.is at c;split at c
 ·rename_i a;rw[a,c];rfl
 ·rename_i a;rw[a,c];rfl
 ·rename_i a;rw[a,c];rfl
 ·rename_i a;rw[a,c];rfl
 ·rename_i a;rw[a,c];rfl
 ·rename_i a;rw[a];obtain⟨k,d,_⟩:=c;rw[d];rfl
 ·rename_i a;rw[a];obtain⟨m,d⟩:=c;rw[d];rfl
 rename_i a;rw[a,c];rfl
theorem cn.ok.iU(h:i.ok P t):(i.u= .bool->P.underlying t=aa .bool)/\(∀k,i.u= .int k->P.underlying t=aa (.int k))/\(i.u= .string->P.underlying t=aa .string)/\
  ∀e,i.u= .slice e->P.underlying t=aa (.slice e):=by obtain⟨u,d,c⟩:=h;refine⟨λa=>?_,λk a=>?_,λa=>?_,λe a=>?_⟩<;>simp only[cn.is,a] at c<;>rw[<-c]<;>exact d.1
theorem cn.ok.st{l:List (Nat×Nat)}(h:i.ok P t)(c:i.u= .struct l): ∃a,cj P t (.struct a) i.z i.size i.bytes/\a.toList.map (λf=>(f.type,f.offset))=l/\ ∀w,(a.mapM (m:=Sem) λf:Field=>do pure (f.offset,<-sizeOf f.type)).run P w= .ok i.places w:=by
 obtain⟨u,e,d⟩:=h;simp only[cn.is,c] at d
 grind
def dy:List (Nat×cn)->Nat->Option cn
 | [],_=>aj
 |(t,i)::l,k=>bif b4 t k then aa i else dy l k
def dZ(P:Program)(a:List (Nat×cn)):Prop:= ∀t i,dy a t=aa i->i.ok P t
theorem dZ.nil:dZ P []:=λ_ _ h=>by cases h
theorem dZ.cons{a:List (Nat×cn)}{t:Nat}(h:i.ok P t)(e:dZ P a):dZ P ((t,i)::a):=by
 intro k j c;simp only[dy] at c;cases d:b4 t k with
 |true=>rw[d] at c;cases c;rw[<-c4 d];exact h
 |false=>rw[d] at c;exact e k j c
inductive cq where
 |row (r:List T)
 |rows (r:List (List T))
 |str (s:List UInt8)
 |int (n:Int)
 |nat (n:Nat)
 |b (w:Bool)
 |y (b:UInt8)
 |v (v:V)
 |grow (slot k:Nat) (e:TypeId)
 |Ho (b j k:Nat)
 |e3 (b j k:Nat) (e:TypeId)
 |len (slot n:Nat)
 |fJ (b j n:Nat)
 |xm (k:Nat) (dB:List Nat)
 |bC (k:Nat) (dB blocks:List Nat)
 |d' (k ct:Nat) (dB blocks:List Nat)
 |at (rem:Nat)
 |fo (L news:List Nat) (r:V) (out:List E)
 |eR (k:Nat) (Γ:List dt) (m:Nat)
 |dN (k:Nat)
 |fj (k ct i j:Nat) (row:List T)
 |ez (k ct:Nat) (row:List T) (R:List (List T))
 |lt (k:Nat) (Γ:List dt) (m:Nat)
 |P5 (k i j:Nat) (row:List T)
 |IM (k:Nat) (row:List T) (R:List (List T))
 |BE (i j k:Nat) (e:TypeId)
 |cut (k n:Nat) (R:List (List T))
inductive du where
 |p (p:Prop)
 |q (a b:Nat)
def cr:List du->Prop
 | []=>True
 | .p p::l=>p/\cr l
 | .q a b::l=>a=b/\cr l
def x9:List du->Prop
 | []=>True
 | .p p::l=>p/\x9 l
 | .q _ _::l=>x9 l
def u3:List du->List Nat
 | []=>[]
 | .p _::l=>u3 l
 | .q a _::l=>a::u3 l
def u4:List du->List Nat
 | []=>[]
 | .p _::l=>u4 l
 | .q _ b::l=>b::u4 l
theorem cr.of: ∀{l:List du},x9 l->u3 l=u4 l->cr l
 | [],_,_=>trivial
 | .p _::_,h,k=>⟨h.1,cr.of h.2 k⟩
 | .q _ _::_,h,k=>by simp only[u3,u4,List.cons.injEq] at k;exact⟨k.1,cr.of h k.2⟩
theorem cr.app: ∀{l m:List du},cr (l++m)->cr l/\cr m
 | [],_,h=>⟨trivial,h⟩
 | .p _::_,_,h=>⟨⟨h.1,(cr.app h.2).1⟩,(cr.app h.2).2⟩
 | .q _ _::_,_,h=>⟨⟨h.1,(cr.app h.2).1⟩,(cr.app h.2).2⟩
def az{a:Type}(l:List a)(i:Int):Option a:=if 0<=i then l[i.toNat]? else aj
def sub{R:Type}(l:List R)(a b:Int):Option (List R):=if 0<=a/\a<=b/\b<=l.length then aa ((l.take b.toNat).drop a.toNat) else aj
def cat(a b:List UInt8):Option (List UInt8):=if(a.length:Int)+b.length<=9223372036854775807 then aa (a++b) else aj
def app{R:Type}(a b:List R):Option (List R):=if a.length+b.length<=1000000000 then aa (a++b) else aj
def mk{a:Type}(n:Int)(x:a):Option (List a):=if 0<=n/\n<=1000000000 then aa (List.replicate n.toNat x) else aj
def cA{a:Type}(l:List a)(i:Int)(x:a):Option (List a):=if 0<=i/\i<l.length then aa (l.set i.toNat x) else aj
def wr(n:Int):Int:=IntKind.i64.wrap n
theorem mG{i:Int}(h:az l i=aa x):0<=i/\l[i.toNat]? =aa x:=by
 unfold az at h
 grind
theorem O0{i:Int}(f:a->R)(h:az l i=aa x):az (l.map f) i=aa (f x):=by
 obtain⟨c,d⟩:=mG h;unfold az
 grind
theorem Ah{l:List R}{a:Int}(h:sub l a b=aa r):0<=a/\a<=b/\b<=l.length/\r=(l.take b.toNat).drop a.toNat:=by
 unfold sub at h
 grind
theorem rm{l:List R}{a:Int}(f:R->W)(h:sub l a b=aa r):sub (l.map f) a b=aa (r.map f):=by obtain⟨c,d,e,rfl⟩:=Ah h;unfold sub;rw[aX ⟨c,d,by simpa using e⟩,List.map_drop,List.map_take]
theorem vU{a b:List R}(h:app a b=aa r):a.length+b.length<=1000000000/\r=a++b:=by
 unfold app at h
 grind
theorem b6{a b:List R}(f:R->W)(h:app a b=aa r):app (a.map f) (b.map f)=aa (r.map f):=by
 obtain⟨c,rfl⟩:=vU h;unfold app
 grind
theorem oJ{r:List a}(h:mk n x=aa r):0<=n/\n<=1000000000/\r=List.replicate n.toNat x:=by
 unfold mk at h
 grind
theorem rL{r:List a}(f:a->R)(h:mk n x=aa r):mk n (f x)=aa (r.map f):=by obtain⟨c,d,rfl⟩:=oJ h;unfold mk;rw[aX ⟨c,d⟩,List.map_replicate]
theorem sN{r:List a}{i:Int}(h:cA l i x=aa r):0<=i/\i<l.length/\r=l.set i.toNat x:=by
 unfold cA at h
 grind
theorem aa0{a b r:List UInt8}(h:cat a b=aa r):(a.length:Int)+b.length<=9223372036854775807/\r=a++b:=by
 unfold cat at h
 grind
mutual
def nx:V->V
 | .t .fF=> .t (.bD [])
 | .agg cs=> .agg (hl cs)
 | .bQ cs=> .bQ (hl cs)
 | .t (.bD r)=> .t (.bD r)
 | .t (.int k n)=> .t (.int k n)
 | .t (.bool b)=> .t (.bool b)
 | .t (.str s)=> .t (.str s)
 |v=>v
def hl:List V->List V
 | []=>[]
 |c::cs=>nx c::hl cs
end
mutual
theorem tG: ∀v:V,dC v (nx v)
 | .t .fF=>dC.nil
 | .t (.bD _)| .t (.int _ _)| .t (.bool _)| .t (.str _)| .t .hP| .t .gJ| .t .nw| .t .err=>dC.refl _
 | .agg cs=>dC.agg (mL cs)
 | .bQ cs=>dC.bQ (mL cs)
 | .ref _ _| .aQ _| .bn _ _ _ _ _| .cK _ _ _ _ _| .fn _ _| .c9=>dC.refl _
theorem mL: ∀cs:List V,fG cs (hl cs)
 | []=>trivial
 |c::cs=>⟨tG c,mL cs⟩
end
theorem sI: ∀cs:List V,(hl cs).length=cs.length
 | []=>rfl
 |c::cs=>by simp[hl,sI cs]
def ud(k:Option Nat):List V->List V
 | [.t .fF]=>match k with
  |some _=>[.t .fF]
  |none=>hl [.t .fF]
 |vs=>hl vs
theorem abn(k:Option Nat)(a:List V):fG a (ud k a):=by
 unfold ud;split
 ·split
  ·exact fG.refl _
  exact mL _
 exact mL _
theorem Vq(k:Option Nat)(a:List V):(ud k a).length=a.length:=by
 unfold ud;split
 ·split
  ·rfl
  exact sI _
 exact sI _
def yn:V->Option T
 | .t x=>aa x
 |_=>aj
def lE:List V->Option (List T)
 | []=>aa []
 |v::a=>match yn v,lE a with
  |some x,aa c=>aa (x::c)
  |_,_=>aj
theorem oG: ∀{a:List V} {c:List T},lE a=aa c->a=c.map .t
 | [],_,h=>by cases h;rfl
 |v::a,c,h=>by
  simp only[lE] at h;split at h
  ·rename_i x i e d;cases h;have d:=oG d;cases v<;>simp[yn] at e;subst e;subst d;rfl
  cases h
def wM:List V->Option (List Int)
 | []=>aa []
 | .t (.int .i64 m)::a=>match wM a with
  |some ms=>aa (m::ms)
  |none=>aj
 |_=>aj
theorem yV: ∀{a:List V} {ms:List Int},wM a=aa ms->a=ms.map U
 | [],_,h=>by cases h;rfl
 |v::a,ms,h=>by
  unfold wM at h;split at h
  ·rename_i c;cases c
  ·rename_i m d c;cases c;split at h
   ·rename_i e i;cases h;rw[yV i];rfl
   cases h
  cases h
abbrev h7:=Option (V×List du×List cq)
def Pj(a:BinOp)(m n:Int):Option Bool:=
 match a with
 | .eql=>aa (ah (m=n))
 | .neq=>aa (!decide (m=n))
 | .lss=>aa (ah (m<n))
 | .leq=>aa (ah (m<=n))
 | .gtr=>aa (ah (n<m))
 | .geq=>aa (ah (n<=m))
 |_=>aj
def OZ(a:BinOp):Bool:=
 match a with
 | .and| .or| .xor| .andNot=>ab
 |_=>ak
def GR(op:BinOp)(k:IntKind)(m n:Int)(a:List cq):h7:=
 match op with
 | .add=>aa (.t (.int k (k.wrap (m+n))),[],a)
 | .sub=>aa (.t (.int k (k.wrap (m-n))),[],a)
 | .mul=>aa (.t (.int k (k.wrap (m*n))),[],a)
 | .quo=>aa (.t (.int k (k.wrap (m.tdiv n))),[.p (n≠0)],a)
 | .rem=>aa (.t (.int k (m.tmod n)),[.p (n≠0)],a)
 | .and=>aa (.t (.int k (bits .and k m n)),[],a)
 | .or=>aa (.t (.int k (bits .or k m n)),[],a)
 | .xor=>aa (.t (.int k (bits .xor k m n)),[],a)
 | .andNot=>aa (.t (.int k (bits .andNot k m n)),[],a)
 | .shl| .shr=>aj
 |op=>match Pj op m n with
  |some b=>aa (.t (.bool b),[],a)
  |none=>aj
def G1(c:BinOp)(m n:List UInt8)(a:List cq):h7:=
 match c,a with
 | .add,.str r::a=>aa (.t (.str r),[.p (cat m n=aa r)],a)
 | .eql,a=>aa (.t (.bool (ah (m=n))),[],a)
 | .neq,a=>aa (.t (.bool (!decide (m=n))),[],a)
 | .geq,a=>aa (.t (.bool (!Op.bytesLess m n)),[],a)
 | .lss,a=>aa (.t (.bool (Op.bytesLess m n)),[],a)
 | .gtr,a=>aa (.t (.bool (!Op.bytesLess m n&& !m==n)),[],a)
 | .leq,a=>aa (.t (.bool (Op.bytesLess m n||m==n)),[],a)
 |_,_=>aj
def GB:Option cn->Bool
 |some i=>match i.u with
  | .bool=>ab
  |_=>ak
 |none=>ak
def GX(P:Program)(e:List (Nat×cn))(d:BinOp)(t:TypeId)(v w:V)(a:List cq):h7:=
 match v,w with
 | .t (.int k m),.t (.int h n)=>if k=h then GR d k m n a else aj
 | .t (.str m),.t (.str n)=>G1 d m n a
 | .t (.bool p),.t (.bool q)=>match GB (dy e t),d with
  |true,.eql=>aa (.t (.bool (p==q)),[],a)
  |true,.neq=>aa (.t (.bool (!(p==q))),[],a)
  |_,_=>aj
 | .agg cs,.agg i=>match wM cs,wM i,d,a with
  |some ms,aa c,.eql,.b b::a=>aa (.t (.bool b),[.p (wy P t ms.length),.q c.length ms.length,.p (ah (ms=c)=b)],a)
  |some ms,aa c,.neq,.b b::a=>aa (.t (.bool (!b)),[.p (wy P t ms.length),.q c.length ms.length,.p (ah (ms=c)=b)],a)
  |_,_,_,_=>aj
 |_,_=>aj
def GY:Option cn->Bool
 |some i=>match i.u with
  | .QP=>ab
  |_=>ak
 |none=>ak
def pE:Operand->Bool
 | .const _=>ab
 |_=>ak
def GS(c:List (Nat×cn))(d:BinOp)(t:TypeId)(x y:Operand)(v w:V)(a:List cq):h7:=
 match GY (dy c t),pE x||pE y,v,w,d with
 |true,ab,.t .err,.t .gJ,.eql=>aa (.t (.bool ak),[],a)
 |true,ab,.t .err,.t .gJ,.neq=>aa (.t (.bool ab),[],a)
 |true,ab,.t .gJ,.t .gJ,.eql=>aa (.t (.bool ab),[],a)
 |true,ab,.t .gJ,.t .gJ,.neq=>aa (.t (.bool ak),[],a)
 |_,_,_,_,_=>aj
def G6(c:UnOp)(v:V)(a:List cq):h7:=
 match c,v with
 | .not,.t (.bool b)=>aa (.t (.bool (!b)),[],a)
 | .neg,.t (.int k n)=>aa (.t (.int k (k.wrap (0-n))),[],a)
 |_,_=>aj
def Fb(a:List (Nat×cn)):Option cn->Bool
 |some i=>match i.u with
  | .slice e=>match dy a e with
   |some j=>match j.u with
    | .int .u8=>ab
    |_=>ak
   |none=>ak
  |_=>ak
 |none=>ak
def Gq(d:List (Nat×cn))(e h:TypeId)(v:V)(a:List cq):h7:=
 match dy d e,dy d h with
 |some i,aa j=>match j.u,v,a with
  | .int k,.t (.int _ n),.int m::a=>aa (.t (.int k m),[.p (k.wrap n=m)],a)
  | .int .u8,.t (.int _ n),.y m::a=>aa (.t (.int .u8 (m.toNat:Nat)),[.p (UInt8.ofInt n=m)],a)
  | .string,.t (.bD c),.str l::a=>match Fb d (aa i) with
   |true=>aa (.t (.str l),[.p (c=l.map nA)],a)
   |false=>aj
  |_,_,_=>aj
 |_,_=>aj
def tD(n:List (Nat×cn))(H:Nat->Option E)(t:TypeId)(v:V)(h:List cq):h7:=
 match dy n t with
 |none=>aj
 |some i=>match v with
  | .ref id a=>match H id with
   |some (.cells cs)=>match i.u.agg with
    |true=>match cY (a+i.size) cs.length with
     |true=>aa (.agg ((cs.drop a).take i.size),[],h)
     |false=>aj
    |false=>match cs[a]? with
     |some c=>aa (c,[],h)
     |none=>aj
   |_=>aj
  | .aQ cs=>match i.u.agg with
   |true=>match cY i.size cs.length with
    |true=>aa (.agg ((cs.take i.size).map .t),[],h)
    |false=>aj
   |false=>match cs with
    |c::_=>aa (.t c,[],h)
    | []=>aj
  | .cK id gen m k a=>match H id,i.u.agg,h with
   |some (.arr _ d l e),ak,.row r::h=>match r[a]? with
    |some c=>aa (.t c,[.q d gen,.q l m,.p (e[k]? =aa r)],h)
    |none=>aj
   |some (.arr _ d l e),ab,.row r::h=>match cY (a+i.size) r.length with
    |true=>aa (.agg (((r.drop a).take i.size).map .t),[.q d gen,.q l m,.p (e[k]? =aa r)],h)
    |false=>aj
   |_,_,_=>aj
  |_=>aj
def rW(j:Nat):List (Nat×Nat×V)->Option (Nat×V)
 | []=>aj
 |h::a=>bif b4 h.2.1 j then aa (h.1,h.2.2) else rW j a
def rP(a:List (Nat×Nat×V)):Nat->Nat->Option (List (Nat×V))
 |_,0=>aa []
 |j,n+1=>match rW j a,rP a (j+1) n with
  |some x,aa l=>aa (x::l)
  |_,_=>aj
def rU(k:Nat):List (Nat×V)->List du
 | []=>[]
 |x::l=> .q x.1 k::rU k l
def r1(i j:Nat):List (Nat×Nat×V)->List du
 | []=>[]
 |h::a=>bif b4 h.2.1 j then .p (i≠h.1)::r1 i j a else r1 i j a
theorem wB{i j:Nat}: ∀{c:List (Nat×Nat×V)},cr (r1 i j c)-> ∀v,(i,j,v)∉c
 | [],_,_,h=>by cases h
 |h::c,a,v,hm=>by
  unfold r1 at a;cases d:b4 h.2.1 j with
  |true=>
   rw[d] at a;rcases ef.1 hm with rfl|hm
   ·exact a.1 rfl
   exact wB a.2 v hm
  |false=>
   rw[d] at a;rcases ef.1 hm with rfl|hm
   ·simp at d
   exact wB a v hm
def F6(y:List (Nat×cn))(H:Nat->Option E)(t:TypeId)(v:V)(h:List cq):h7:=
 match dy y t,v,h with
 |some i,.cK id gen o k a,.row r::h=>match H id with
  |some (.bd n m d e s)=>match i.u.agg with
   |false=>match r[a]?,rW a s with
    |some c,aj=>match (aR n m).eA a with
     |none=>aa (.t c,[.q d gen,.q (aR n m).size o,.p (e[k]? =aa r)],h)
     |some _=>aj
    |some _,aa (w,x)=>aa (x,[.q d gen,.q (aR n m).size o,.p (e[k]? =aa r),.q w k],h)
    |none,_=>aj
   |true=>match cY (a+i.size) r.length,rP s a i.size with
    |true,aa l=>aa (.agg (l.map (·.2)),.q d gen:: .q (aR n m).size o:: .p (e[k]? =aa r)::rU k l,h)
    |_,_=>aj
  |_=>aj
 |some i,.cK id gen o k a,.int q:: .row r::h=>match H id with
  |some (.bd n m d e s)=>match i.u.agg,r[a]?,s[q.toNat]? with
   |false,aa _,aa (w,z,x)=>aa (x,[.q d gen,.q (aR n m).size o,.p (e[k]? =aa r),.q w k,.q z a],h)
   |true,_,_=>match cY (a+i.size) r.length,rP (s.drop q.toNat) a i.size with
    |true,aa l=>aa (.agg (l.map (·.2)),.q d gen:: .q (aR n m).size o:: .p (e[k]? =aa r)::rU k l,h)
    |_,_=>aj
   |_,_,_=>aj
  |_=>aj
 |some i,.cK id gen o k a,.nat _:: .row r::h=>match H id with
  |some (.bd n m d e s)=>match i.u.agg,r[a]?,(aR n m).eA a with
   |false,aa c,aj=>aa (.t c,.q d gen:: .q (aR n m).size o:: .p (e[k]? =aa r)::r1 k a s,h)
   |_,_,_=>aj
  |_=>aj
 |_,_,_=>aj
def GV(e:List (Nat×cn))(t:TypeId)(k:Nat)(v:V)(h:List cq):h7:=
 match dy e t with
 |none=>aj
 |some i=>match i.u with
  | .struct l=>match l[k]? with
   |none=>aj
   |some a=>match dy e a.1 with
    |none=>aj
    |some j=>match v with
     | .agg d=>match j.u.agg with
      |true=>match cY (a.2+j.size) d.length with
       |true=>aa (.agg ((d.drop a.2).take j.size),[],h)
       |false=>aj
      |false=>match d[a.2]? with
       |some c=>aa (c,[],h)
       |none=>aj
     |_=>aj
  |_=>aj
def F8(m:List (Nat×cn))(H:Nat->Option E)(t:TypeId)(k:Nat)(v:V)(e:List cq):h7:=
 match dy m t with
 |none=>aj
 |some i=>match i.u with
  | .struct o=>match o[k]? with
   |none=>aj
   |some a=>match dy m a.1 with
    |none=>aj
    |some j=>match b4 j.size 0 with
     |true=>aj
     |false=>match v with
      | .ref id d=>aa (.ref id (d+a.2),[],e)
      | .aQ cs=>aa (.aQ (cs.drop a.2),[],e)
      | .cK id gen h n d=>match H id with
       |some (.arr _ c l _)=>aa (.cK id gen h n (d+a.2),[.q c gen,.q l h],e)
       |some (.bd _ _ c _ _)=>aa (.cK id gen h n (d+a.2),[.q c gen],e)
       |_=>aj
      |_=>aj
  |_=>aj
def GU(s:List (Nat×cn))(H:Nat->Option E)(t:TypeId)(v w:V)(h:List cq):h7:=
 match dy s t with
 |none=>aj
 |some i=>match i.u with
  | .slice e=>match dy s e with
   |none=>aj
   |some j=>match v,w with
    | .t (.bD l),.t (.int .i64 n)=>match h with
     | .row r::h=>match b4 r.length j.size with
      |true=>aa (.aQ r,[.p (az l n=aa r)],h)
      |false=>aj
     |_=>aj
    | .bn id gen a d o,.t (.int .i64 n)=>match H id,b4 a j.size with
     |some (.arr _ c x _),ab=>aa (.cK id gen a (d+n.toNat) 0,[.q c gen,.q x a,.p (0<=n/\n<(o:Int))],h)
     |some (.bd _ _ c _ _),ab=>aa (.cK id gen a (d+n.toNat) 0,[.q c gen,.p (0<=n/\n<(o:Int))],h)
     |_,_=>aj
    |_,_=>aj
  | .array m e=>match dy s e with
   |none=>aj
   |some j=>match v,w,h with
    | .ref id d,.t (.int .i64 n),.nat k::h=>match cY (k+1) m with
     |true=>aa (.ref id (d+k*j.size),[.p (n=(k:Int))],h)
     |false=>aj
    |_,_,_=>aj
  |_=>aj
def wL:Option cn->Bool
 |some i=>match i.u with
  | .string=>ab
  |_=>ak
 |none=>ak
def w7:Option cn->Bool
 |some i=>match i.u with
  | .slice _=>ab
  |_=>ak
 |none=>ak
def GN(d:List (Nat×cn))(e:BinOp)(t:TypeId)(v w:V)(c:List cq):h7:=
 match w7 (dy d t),v,w,e,c with
 |true,.t (.bD a),.t .fF,.eql,.b ak::c=>aa (.t (.bool ak),[.p (a≠[])],c)
 |_,_,_,_,_=>aj
def F7(c:List (Nat×cn))(t:TypeId)(v w:V)(a:List cq):h7:=
 match wL (dy c t),v,w,a with
 |true,.t (.str l),.t (.int .i64 n),.y b::a=>aa (.t (.int .u8 (b.toNat:Nat)),[.p (az l n=aa b)],a)
 |_,_,_,_=>aj
def rX(d e:Option Operand)(c:Nat)(h:List V):Option (Int×Int):=
 match d,e,h with
 |some _,aa _,[.t (.int .i64 a),.t (.int .i64 b)]=>aa (a,b)
 |some _,aj,[.t (.int .i64 a)]=>aa (a,(c:Int))
 |none,aa _,[.t (.int .i64 b)]=>aa (0,b)
 |_,_,_=>aj
def F5(s:List (Nat×cn))(H:Nat->Option E)(t:TypeId)(y z:Option Operand)(w:List V)(h:List cq):h7:=
 match w with
 | .t (.str l)::x=>match wL (dy s t),rX y z l.length x,h with
  |true,aa (a,b),.str r::h=>aa (.t (.str r),[.p (sub l a b=aa r)],h)
  |_,_,_=>aj
 | .t (.bD d)::x=>match dy s t with
  |none=>aj
  |some i=>match i.u with
   | .slice e=>match dy s e,rX y z d.length x,h with
    |some j,aa (a,b),.rows r::h=>aa (.t (.bD r),[.p (sub d a b=aa r),.p (Rows j.size d)],h)
    |_,_,_=>aj
   |_=>aj
 | .bn id gen c n k::x=>match dy s t,(H id).bind E.gen? with
  |some i,aa B=>match i.u with
   | .slice e=>match dy s e,rX y z k x,h with
    |some j,aa (a,b),.nat o:: .nat m::h=>aa (.bn id gen c o m,[.q B gen,.q c j.size,.p (0<=a/\a<=b/\b<=k/\(a=0\/a<k)/\o=n+a.toNat/\m=b.toNat-a.toNat)],h)
    |some _,aa (a,b),.int 0::h=>aa (.t (.bD []),[.q B gen,.p (0<=a/\a=b/\b<=k)],h)
    |some j,aa (a,b),.int 1:: .nat o:: .nat m::h=>match H id with
     |some (.arr _ C A d)=>aa (.bn id gen c o m,[.q C gen,.q A c,.q c j.size,.p (0<c/\0<=a/\a<b/\n+b<=d.length/\o=n+a.toNat/\m=b.toNat-a.toNat)],h)
     |_=>aj
    |_,_,_=>aj
   |_=>aj
  |_,_=>aj
 |_=>aj
def FD(k:List (Nat×cn))(H:Nat->Option E)(t:TypeId)(d:List V)(l:List cq):h7:=
 match d with
 | [.bn id gen _ _ h,.t (.int .i64 a),.t (.int .i64 b),.t (.int .i64 c)]=>match dy k t,(H id).bind E.gen? with
  |some i,aa m=>match i.u with
   | .slice e=>match dy k e with
    |some _=>aa (.c9,[.q m gen,.p (0<=a/\a<=b/\b<=c/\c<=h)],l)
    |none=>aj
   |_=>aj
  |_,_=>aj
 |_=>aj
def Gr(k:List (Nat×cn))(t:TypeId)(d:List V)(h:List cq):h7:=
 match d,h with
 | [.t (.bD a),.t (.int .i64 b),.t (.int .i64 c)],.rows r::h=>match dy k t with
  |some i=>match i.u with
   | .slice e=>match dy k e with
    |some j=>aa (.t (.bD r),[.p (sub a 0 b=aa r/\c=b),.p (Rows j.size a)],h)
    |none=>aj
   |_=>aj
  |none=>aj
 |_,_=>aj
def GQ(i:List (Nat×cn))(H:Nat->Option E)(t:TypeId)(v:V)(c:List cq):h7:=
 match v,c with
 | .t (.str l),c=>match wL (dy i t) with
  |true=>aa (.t (.int .i64 (l.length:Nat)),[],c)
  |false=>aj
 | .t (.bD d),.nat n::c=>match w7 (dy i t) with
  |true=>aa (.t (.int .i64 (n:Nat)),[.p (d.length=n)],c)
  |false=>aj
 | .bn id gen e _ h,.nat n::c=>match H id,w7 (dy i t) with
  |some (.arr _ a k _),ab=>aa (.t (.int .i64 (n:Nat)),[.q a gen,.q k e,.p (h=n)],c)
  |some (.bd _ _ a _ _),ab=>aa (.t (.int .i64 (n:Nat)),[.q a gen,.p (h=n)],c)
  |_,_=>aj
 |_,_=>aj
def EP(h:List (Nat×cn))(H:Nat->Option E)(b:Builtin)(c:List TypeId)(i:List Operand)(a:List V)(d:List cq):h7:=
 match b,c,i,a with
 | .len,[t],[_],[v]=>GQ h H t v d
 | .max,_,[_,_],[.t (.int k m),.t (.int e n)]=>if k=e then aa (.t (.int k (max m n)),[],d) else aj
 | .min,_,[_,_],[.t (.int k m),.t (.int e n)]=>if k=e then aa (.t (.int k (min m n)),[],d) else aj
 |_,_,_,_=>aj
def GO(H:Nat->Option E)(v:V)(a:List cq):h7:=
 match v with
 | .cK id gen _ _ _=>match (H id).bind E.gen? with
  |some c=>aa (v,[.q c gen],a)
  |none=>aj
 | .ref _ _=>aa (v,[],a)
 | .aQ _=>aa (v,[],a)
 | .fn _ _=>aa (v,[],a)
 |_=>aj
def F'(d:List (Nat×cn))(t:TypeId)(c:List Nat)(a:List V)(e:List cq):h7:=
 match dy d t with
 |none=>aj
 |some i=>match i.u with
  | .struct _=>match (ha i.z).val,b4 c.length a.length,k5 (i.places[·]?) (ha i.z).cs (c.zip a) with
   |true,ab,aa cs=>aa (.agg cs,[],e)
   |_,_,_=>aj
  |_=>aj
def xk(P:Program)(h:List (Nat×cn))(H:Nat->Option E)(l:Op)(a:List V)(e:List cq):h7:=
 match l with
 | .move _=>match a with
  | [v]=>aa (v,[],e)
  |_=>aj
 | .assign _=>match a with
  | [v]=>aa (v,[],e)
  |_=>aj
 | .pick _ _ _=>match a,e with
  | [.t (.bool b),v,w],.b c::e=>aa (bif c then v else w,[.p (b=c)],e)
  |_,_=>aj
 | .load t _=>match a with
  | [v]=>match tD h H t v e with
   |some r=>aa r
   |none=>F6 h H t v e
  |_=>aj
 | .nilCheck _=>match a with
  | [v]=>GO H v e
  |_=>aj
 | .binOp o t x y _=>match a with
  | [v,w]=>match GX P h o t v w e with
   |some r=>aa r
   |none=>match GS h o t x y v w e with
    |some r=>aa r
    |none=>GN h o t v w e
  |_=>aj
 | .unOp o _ _=>match a with
  | [v]=>G6 o v e
  |_=>aj
 | .convert s d _=>match a with
  | [v]=>Gq h s d v e
  |_=>aj
 | .makeFunc m first _=>match m,first.toList with
  | .func f,[]=>aa (.fn f a,[],e)
  |_,_=>aj
 | .slice t _ lo i kn=>match kn with
  |none=>F5 h H t lo i a e
  |some _=>match lo,i with
   |some _,aa _=>FD h H t a e
   |none,aa _=>Gr h t a e
   |_,_=>aj
 | .fieldAddr t _ k=>match a with
  | [v]=>F8 h H t k v e
  |_=>aj
 | .field t _ k=>match a with
  | [v]=>GV h t k v e
  |_=>aj
 | .indexAddr t _ _=>match a with
  | [v,w]=>GU h H t v w e
  |_=>aj
 | .index t _ _=>match a with
  | [v,w]=>F7 h t v w e
  |_=>aj
 | .extract _ k=>match a with
  | [.bQ n]=>match n[k]? with
   |some v=>aa (v,[],e)
   |none=>aj
  |_=>aj
 | .build t q=>F' h t (q.toList.map (·.1)) a e
 | .call c=>match c.callee with
  | .builtin b=>EP h H b c.argTypes.toList c.args.toList a e
  |_=>aj
 |_=>aj
end Go.Lift
