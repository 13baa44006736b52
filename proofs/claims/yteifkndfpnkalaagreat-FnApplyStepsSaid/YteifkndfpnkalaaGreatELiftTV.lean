/- Tools. -/
import Derived.Test.YteifkndfpnkalaaGreatELiftAB
import Derived.Laws.BitsAllLaws
import Derived.Laws.BytesArg
import Derived.Laws.StructEq
namespace Go.Lift
open Go
open Option renaming some -> aa, none -> aj, map_some -> hv
open Bool renaming true -> ab, false -> ak, and_eq_true -> b9
open Decidable renaming decide -> ag
open Go.Result renaming andThen_ok -> fu
open Go.Builtin renaming zeroCells -> eS
open List renaming map_cons -> gf
open Go.World renaming shape? -> hz
open Go.Sem renaming run_bind -> fx, run_pure -> kF
open Nat renaming beq -> b5, blt -> dt, ble -> db
section
variable {W β:Map}{w:World}{X:Nat->Prop}{i m k b n:Nat}{a:Act}{e:TypeId}{v c:List (List T)}{l:List T}{hs:List (Nat×Nat×V)}{x:T}
theorem uY{D:List dB}{gen:Nat}{a:List (List T)}{I:List (Nat×Nat×V)}(h:cX W w X i (.a7 D m gen a I)): ∃q,W i=aa (q,gen):=by
 rcases h.2 with ⟨c,_⟩|⟨b,e,_,c,_⟩
 ·exact⟨_,c⟩
 exact⟨_,c⟩
def Map.drop(a:Map)(k:Nat):Map:=⟨a.f,λid b=>id≠k/\a.n id b⟩
theorem oF(h:At (W.drop k) i b):At W i b:=by
 rcases h with h|h
 ·exact .inl h
 exact .inr h.2
theorem Rel.drop{K:Ctx}{s:S}(h:Rel K β s a w)(k:Nat)(e':E)(r:s.H k≠aj)
  (A:cX (β.drop k) w (own K (β.drop k) (a8 s.H k (aa e'))) k e'):Rel K (β.drop k) {s with H:=a8 s.H k (aa e')} a w:=by
 have l: ∀b,own K (β.drop k) (a8 s.H k (aa e')) b->own K β s.H b:=by
  rintro b (c|⟨id,m,n⟩)
  ·exact .inl c
  refine .inr ⟨id,λo=>?_,oF n⟩;by_cases hi:id=k
  ·subst hi;exact r o
  rw[cb _ _ _ _ hi] at m;exact m o
 have x:ed β (β.drop k):=λ_ _ _ c=> .inl c;refine {h with base:=λid hid=>h.base id hid,eF:=λid hid=>h.eF id hid,e9:=λid b hid p=>h.e9 id b hid p.2,inj:=λid q b m n=>h.inj id q b (oF m) (oF n),fresh:=λid b p=>h.fresh id b (oF p),heap:= ?_,dC:=λi=>(h.dC i).mono (Ext.refl _ _) (λb _=>l b) x (Shaped.refl _ _)};intro id e c;have c:a8 s.H k (aa e') id=aa e:=c;by_cases hi:id=k
 ·subst hi;rw[cd] at c;cases c;cases y:s.H id with
  |none=>exact bB y r
  |some o=>exact⟨(h.heap id o y).1,A⟩
 rw[cb _ _ _ _ hi] at c;obtain⟨m,n⟩:=h.heap id e c;exact⟨m,n.mono (Ext.refl _ _) (λb _=>l b) x (λ_ h=>h) (Shaped.refl _ _) (λ_ _=>rfl) λb=>⟨λh=>h.2,λh=>⟨hi,h⟩⟩⟩
theorem G5{K:Ctx}{s:S}(k:Nat){gen:Nat}(l:List dB)(m:Nat)(y:s.H k=aa (.arr e gen n v))(r:(aU l m).ty=e)(A:(aU l m).size=n)
  (B:v=[]\/(aU l m).bk=[]):s.le K {s with H:=a8 s.H k (aa (.a7 l m gen v []))}:=by
 intro G a w h;refine⟨_,h.drop k (.a7 l m gen v []) (by rw[y];simp) ?_⟩;have o:=(h.heap k _ y).2;subst r;subst A;refine⟨o.1,?_⟩;have p: ∀b,own K (G.drop k) (a8 s.H k (aa (.a7 l m gen v []))) b->own K G s.H b:=by
  rintro b (R|⟨id,r,A⟩)
  ·exact .inl R
  refine .inr ⟨id,λC=>?_,oF A⟩;by_cases L:id=k
  ·subst L;rw[y] at C;cases C
  rw[cb _ _ _ _ L] at r;exact r C
 rcases o.2 with ⟨aN,a2⟩|⟨b,W,aN,a2,a3,a4,a5⟩
 ·exact .inl ⟨aN,a2,λc q=>q.1 rfl⟩
 refine .inr ⟨b,W,λ_ _ _=>False,aN,a2,a3,a4,λi j F x u Q X Z=>Cell.of ?_,λ_ _ _ h=>h.elim,λ_ _ _ _ _ h=>h.elim,λc=>⟨λq=>bB rfl q.1,λ⟨_,_,q⟩=>q.elim⟩⟩;rcases B with rfl|B
 ·simp at Q
 have:(aU l m).eV j=aj:=by unfold dB.eV;rw[B];rfl
 rw[this];exact .kS _ _ _ ((a5 i j F x u Q X Z).mono (Ext.refl _ _) λb _=>p b) λ_ h=>h
theorem aav{K:Ctx}{s:S}(k:Nat){D:List dB}{gen:Nat}(r:s.H k=aa (.a7 D m gen v []))(p:db K.dV k=ab):
  s.le K {s with H:=a8 s.H k (aa (.arr (aU D m).ty gen (aU D m).size v))}:=by
 have L:=eP p;intro q a w h;refine⟨_,h.drop k (.arr (aU D m).ty gen (aU D m).size v) (by rw[r];simp) ?_⟩;have l:=(h.heap k _ r).2;have n: ∀b,own K (q.drop k) (a8 s.H k (aa (.arr (aU D m).ty gen (aU D m).size v))) b->own K q s.H b:=by
  rintro b (o|⟨id,y,e⟩)
  ·exact .inl o
  refine .inr ⟨id,λA=>?_,oF e⟩;by_cases G:id=k
  ·subst G;rw[r] at A;cases A
  rw[cb _ _ _ _ G] at y;exact y A
 refine⟨l.1,?_⟩;rcases l.2 with ⟨aN,a2,_⟩|⟨b,Q,B,aN,a2,a3,a4,a5,kj,jC,fV⟩
 ·exact .inl ⟨aN,a2⟩
 refine .inr ⟨b,Q,aN,a2,a3,a4,λi j C x u R W X=>(a5 i j C x u R W X).none.zO n ?_⟩;intro c Z o;have p:At q k c:= .inr ((fV c).2 ⟨i,j,Z⟩);rcases o with o|⟨id,y,e⟩
 ·obtain⟨M,f⟩:=h.k9 c o;rcases(h.fresh k c p).1 with F|I
  ·exact f F
  omega
 have:=h.inj _ _ _ (oF e) p;subst this;rcases e with ⟨g,e⟩|e
 ·have N:q id=aa (aa c,g):=e
  grind
 exact e.1 rfl
def Map.split(c:Map)(k a:Nat)(q:Option Nat)(N:Nat->Prop):Map:=
 ⟨λi=>bif b5 i a then aa (q,1) else c i,λid b=>(id=a/\N b)\/(id=k/\id≠a/\c.n k b/\ ¬N b/\q≠aa b)\/(id≠a/\id≠k/\c.n id b)⟩
theorem Qt(h:i≠k):b5 i k=ak:=by
 cases a:b5 i k with
 |false=>rfl
 |true=>exact bB (de a) h
theorem Ah(c:Map)(k a:Nat)(q:Option Nat)(N:Nat->Prop):c.split k a q N a=aa (q,1):=by simp[Map.split]
theorem wC(a:Map)(k c:Nat)(q:Option Nat)(N:Nat->Prop)(id:Nat)(h:id≠c):a.split k c q N id=a id:=by simp[Map.split,Qt h]
theorem abJ{W:Map}{k L:Nat}{q:Option Nat}{N:Nat->Prop}(o: ∀b,q=aa b->W.n k b)(p: ∀b,N b->W.n k b){i b:Nat}(h:At (W.split k L q N) i b):
  (i=L/\W.n k b/\(q=aa b\/N b))\/(i≠L/\At W i b/\(i=k->(∃g,W k=aa (aa b,g))\/(¬N b/\q≠aa b))):=by
 rcases h with ⟨g,h⟩|⟨rfl,h⟩|⟨rfl,a,c,l,r⟩|⟨a,c,l⟩
 ·by_cases m:i=L
  ·subst m;rw[Ah] at h;cases h;exact .inl ⟨rfl,o _ rfl,.inl rfl⟩
  rw[wC _ _ _ _ _ _ m] at h;exact .inr ⟨m,.inl ⟨g,h⟩,λe=> .inl ⟨g,e▸h⟩⟩
 ·exact .inl ⟨rfl,p b h,.inr h⟩
 ·exact .inr ⟨a,.inr c,λ_=> .inr ⟨l,r⟩⟩
 exact .inr ⟨a,.inr l,λe=>bB e c⟩
theorem Rel.split{K:Ctx}{s:S}(h:Rel K β s a w)(k cz:Nat)(q:Option Nat)(N:Nat->Prop)(p r:E)(W:s.H k≠aj)(Q:s.u cz=ak)
  (U: ∀b,q=aa b->β.n k b/\ ¬N b) (V: ∀b,N b->β.n k b) (X: ∀b g,β k=aa (aa b,g)-> ¬β.n k b)
  (akK:(∀b,own K (β.split k cz q N) (a8 (a8 s.H k (aa p)) cz (aa r)) b->own K β s.H b)->cX (β.split k cz q N) w (own K (β.split k cz q N) (a8 (a8 s.H k (aa p)) cz (aa r))) k p)
  (Z:(∀b,own K (β.split k cz q N) (a8 (a8 s.H k (aa p)) cz (aa r)) b->own K β s.H b)->cX (β.split k cz q N) w (own K (β.split k cz q N) (a8 (a8 s.H k (aa p)) cz (aa r))) cz r):
  Rel K (β.split k cz q N) {t:=s.t,H:=a8 (a8 s.H k (aa p)) cz (aa r),u:=a8 s.u cz ab} a w:=by
 have f:s.u k=ab:=by
  cases D:s.H k with
  |none=>exact bB D W
  |some R=>exact(h.heap k R D).1
 have hne:k≠cz:=by intro e;subst e;rw[f] at Q;cases Q
 have y:= @abJ β k cz q N (λb G=>(U b G).1) V;have o: ∀b,own K (β.split k cz q N) (a8 (a8 s.H k (aa p)) cz (aa r)) b->own K β s.H b:=by
  rintro b (l|⟨id,m,L⟩)
  ·exact .inl l
  rcases y L with ⟨_,j,_⟩|⟨j,h4,_⟩
  ·exact .inr ⟨k,W,.inr j⟩
  refine .inr ⟨id,λR=>?_,h4⟩;rw[cb _ _ _ _ j] at m;by_cases C:id=k
  ·subst C;exact W R
  rw[cb _ _ _ _ C] at m;exact m R
 have F:=h.eF cz Q;have B: ∀id x,β id=aa x->β.split k cz q N id=aa x:=λid x l=>by
  rw[wC _ _ _ _ _ _ (by intro e;subst e;rw[F] at l;cases l)];exact l
 have I:ed β (β.split k cz q N):=ed.of B;refine {h with base:= ?_,low:= ?_,eF:= ?_,e9:= ?_,inj:= ?_,fresh:= ?_,heap:= ?_,dC:=λi=>(h.dC i).mono (Ext.refl _ _) (λb _=>o b) I (Shaped.refl _ _)}
 ·refine h.base.keep λid hid=>wC _ _ _ _ _ _ ?_;intro e;subst e;have:=h.low id hid;rw[Q] at this;cases this
 ·intro id hid;show a8 s.u cz ab id=ab;by_cases e:id=cz
  ·subst e;exact cd _ _ _
  rw[cb _ _ _ _ e];exact h.low id hid
 ·intro id hid;have c:a8 s.u cz ab id=ak:=hid;by_cases e:id=cz
  ·subst e;rw[cd] at c;cases c
  rw[cb _ _ _ _ e] at c;rw[wC _ _ _ _ _ _ e];exact h.eF id c
 ·intro id b hid G;have c:a8 s.u cz ab id=ak:=hid;have e:id≠cz:=by intro e;subst e;rw[cd] at c;cases c
  rw[cb _ _ _ _ e] at c;rcases G with ⟨m,_⟩|⟨rfl,_,m,_⟩|⟨_,_,m⟩
  ·exact e m
  ·exact h.e9 _ b c m
  exact h.e9 id b c m
 ·intro id lZ b m L;rcases y m with ⟨rfl,aN,a2⟩|⟨aN,a2,a3⟩<;>rcases y L with ⟨M,T,v⟩|⟨T,v,eE⟩
  ·exact M.symm
  ·have:=h.inj _ _ b (.inr aN) v
   grind
  ·subst M
   have:=h.inj _ _ b (.inr T) a2
   grind
  exact h.inj _ _ b a2 v
 ·intro id b G;rcases y G with ⟨_,aN,_⟩|⟨_,a2,_⟩
  ·exact h.fresh k b (.inr aN)
  exact h.fresh id b a2
 intro id e l;have l:a8 (a8 s.H k (aa p)) cz (aa r) id=aa e:=l;show a8 s.u cz ab id=ab/\cX _ w (own K _ (a8 (a8 s.H k (aa p)) cz (aa r))) id e;by_cases C:id=cz
 ·subst C;rw[cd] at l;cases l;exact⟨cd _ _ _,Z o⟩
 rw[cb _ _ _ _ C] at l⊢;by_cases A:id=k
 ·subst A;rw[cd] at l;cases l
  grind
 rw[cb _ _ _ _ A] at l;obtain⟨m,L⟩:=h.heap id e l;exact⟨m,L.mono (Ext.refl _ _) (λb _=>o b) I (B id) (Shaped.refl _ _) (λ_ _=>rfl) (λb=>⟨λh=>by
  rcases h with ⟨h,_⟩|⟨h,_⟩|⟨_,_,h⟩
  ·exact bB h C
  ·exact bB h A
  exact h,λh=> .inr (.inr ⟨C,A,h⟩)⟩)⟩
def sC(j:Nat):List (Nat×Nat×V)->Bool
 | []=>ab
 |h::a=> !(b5 h.2.1 j)&&sC j a
theorem AO{j:Nat}: ∀{a:List (Nat×Nat×V)},sC j a=ab-> ∀i v,(i,j,v)∉a
 | [],_,_,_,h=>by cases h
 |h::a,c,i,v,hm=>by
  simp only[sC,b9,Bool.not_eq_true'] at c;rcases ez.1 hm with rfl|hm
  ·simp at c
  exact AO c.2 i v hm
theorem ZV{K:Ctx}{s:S}(k cz i j W:Nat){r:List dB}{gen:Nat}{y:List (List T)}{Z:List T}{l:List (List T)}{M:List (Nat×Nat×V)}(hk:s.H k=aa (.a7 r m gen y M))(hu:s.u cz=ak)
  (hi:y[i]? =aa Z) (hj:Z[j]? =aa (.bE l)) (hm:(aU r m).eV j=aa W) (f: ∀v,(i,j,v)∉M):
  s.le K {t:=s.t,H:=a8 (a8 s.H k (aa (.a7 r m gen y ((i,j,.bg cz 1 (aU r W).size 0 l.length)::M)))) cz (aa (.a7 r W 1 l [])),u:=a8 s.u cz ab}:=by
 intro D a w h;have JJ:=(h.heap k _ hk).1;have G:k≠cz:=by intro e;subst e;rw[JJ] at hu;cases hu
 have j4:=(h.heap k _ hk).2;rcases j4.2 with ⟨aN,a2,_⟩|⟨b,us,B,aN,a2,a3,a4,a5,kj,jC,fV⟩
 ·rw[a2] at hi;simp at hi
 have hlt:=(bS.1 hi).1;have hjs:j<(aU r m).size:=by rw[<-a4 Z (bx hi)];exact(bS.1 hj).1
 have I:i*(aU r m).size+j<us.size:=by
  have:(i+1)*(aU r m).size<=y.length*(aU r m).size:=eh _ hlt
  grind
 have p:=(a5 i j Z _ us[i*(aU r m).size+j] hi hj (iY I)).2 λv=>f v;rw[hm] at p;have L: ∀c g,D k=aa (aa c,g)-> ¬D.n k c:=by
  grind
 generalize alC:us[i*(aU r m).size+j]=Le at p
 -- the cell's value under the new map, and the rest of the rows
 have Q: ∀(q:Option Nat) (N:Nat->Prop),(∀c,B i j c↔(q=aa c\/N c))->(∀(X:Nat->Prop),bq (D.split k cz q N) w X (.bg cz 1 (aU r W).size 0 l.length) Le)->
   ∀X,(∀c,X c->own K D s.H c)->cX (D.split k cz q N) w X k (.a7 r m gen y ((i,j,.bg cz 1 (aU r W).size 0 l.length)::M)):=by
  intro q N gm bW X iv;have hm':ed D (D.split k cz q N):=ed.of (λid x hx=>by
   have:id≠cz:=by intro e;subst e;rw[h.eF _ hu] at hx;cases hx
   rw[wC _ _ _ _ _ _ this];exact hx)
  refine⟨j4.1,.inr ⟨b,us,λA C c=>B A C c/\ ¬(A=i/\C=j),by rw[wC _ _ _ _ _ _ G];exact aN,a2,a3,a4,λA C F x u dc cS fP=>⟨λv U=>?_,λcY=>?_⟩,
   λA C c f=>kj A C c f.1,λi1 rW i2 jJ c h1 h2=>jC _ _ _ _ c h1.1 h2.1,λc=>?_⟩⟩
  ·rcases ez.1 U with e|U
   ·simp only[Prod.mk.injEq] at e;obtain⟨rfl,rfl,rfl⟩:=e
    have:u=Le:=by
     rw[<-alC];rw[iY I] at fP;exact(Option.some.inj fP).symm
    subst this;exact⟨bW X,λc f=>f.2 ⟨rfl,rfl⟩⟩
   obtain⟨c1,c2⟩:=(a5 A C F x u dc cS fP).1 v U;exact⟨c1.mono (Ext.refl _ _) (λc _=>iv c) hm' (Shaped.refl _ _),λc hx=>c2 c hx.1⟩
  ·have ahT: ¬(A=i/\C=j):=by rintro⟨rfl,rfl⟩;exact cY _ eD
   exact(((a5 A C F x u dc cS fP).2 λv bW=>cY v (eo _ bW)).mono (Ext.refl _ _) (λc _=>iv c) λ_ _=>rfl).iff λc=>⟨λh=>h.1,λh=>⟨h,ahT⟩⟩
  constructor
  ·rintro(⟨h1,_⟩|⟨_,_,h1,h2,h3⟩|⟨_,h1,_⟩)
   ·exact bB h1 G
   ·obtain⟨A,C,R⟩:=(fV c).1 h1;refine⟨A,C,R,?_⟩;rintro⟨rfl,rfl⟩;rcases(gm c).1 R with h4|h4
    ·exact h3 h4
    exact h2 h4
   exact bB rfl h1
  rintro⟨A,C,R,cY⟩;refine .inr (.inl ⟨rfl,G,(fV c).2 ⟨A,C,R⟩,λh4=>?_,λh4=>?_⟩)
  ·exact cY (jC _ _ _ _ c R ((gm c).2 (.inr h4)))
  exact cY (jC _ _ _ _ c R ((gm c).2 (.inl h4)))
 generalize Sm:B i j=alW at p Q;cases p with
 |nil _ _ gz=>
  refine⟨_,h.split k cz aj (λ_=>False) _ (.a7 r W 1 [] []) (by rw[hk];simp) hu (λb R=>by cases R) (λ_ h=>h.elim) L (λo=>Q aj (λ_=>False) (λc=>⟨λh=>bB h (gz c),λh=>by rcases h with h|h;cases h;exact h.elim⟩)
   (λX=> .iT cz 1 _ (cR _) (Ah _ _ _ _ _)) _ o) λo=>⟨cR _,.inl ⟨Ah _ _ _ _ _,rfl,λc f=>?_⟩⟩⟩
  rcases f with ⟨_,h⟩|⟨h,_⟩|⟨h,_⟩
  ·exact h
  ·exact G h.symm
  exact h rfl
 |own _ _ cS cap sr sG _ hw M JN cI lX b8 gm cD gz=>
  have tG:D.n k cS:=(fV cS).2 ⟨i,j,by rw[Sm];exact(gz cS).2 (.inl rfl)⟩;refine⟨_,h.split k cz (aa cS) (λc=> ∃i j,sG i j c) _ (.a7 r W 1 l []) (by rw[hk];simp) hu (λb R=>by cases R;exact⟨tG,λ⟨A,C,nv⟩=>(gm A C _ nv).2.2 rfl⟩)
   (λc f=>(fV c).2 ⟨i,j,by rw[Sm];exact(gz c).2 (.inr f)⟩) L
   (λo=>Q (aa cS) (λc=> ∃i j,sG i j c) (λc=>⟨λh=>by rcases(gz c).1 h with h|h;exact .inl (by rw[h]);exact .inr h,λh=>(gz c).2 (by rcases h with h|h;cases h;exact .inl rfl;exact .inr h)⟩)
    (λX=>?_) _ o) λo=>⟨cR _,.inr ⟨cS,sr,sG,Ah _ _ _ _ _,hw,by rw[M];exact eh _ cI,lX,λA C F x u c1 c2 eE=>Cell.of ((b8 A C F x u c1 c2 eE).mono (Ext.refl _ _) (λc _=>o c) λ_ _=>rfl),gm,cD,λc=>?_⟩⟩⟩
  ·have:=bq.bg (β:=D.split k cz (aa cS) λc=> ∃i j,sG i j c) (w:=w) (X:=X) cz 1 (aU r W).size 0 l.length cap cS sr.size (aU r W).ty (cR _) (Ah _ _ _ _ _) (kB.1 hw).1 (by unfold hz;rw[hw]) (by rw[dQ];exact M.symm) cI JN;rw[ik] at this;exact this
  constructor
  ·rintro(⟨_,h⟩|⟨h,_⟩|⟨h,_⟩)
   ·exact h
   ·exact bB h.symm G
   exact bB rfl h
  intro h;exact .inl ⟨rfl,h⟩
def Map.merge(a:Map)(k c gen:Nat):Map:=
 ⟨λi=>bif b5 i c then aa (aj,gen+1) else a i,λid b=>(id=k/\(a.n k b\/At a c b))\/(id≠k/\id≠c/\a.n id b)⟩
theorem N2(c:Map)(k a gen:Nat):c.merge k a gen a=aa (aj,gen+1):=by simp[Map.merge]
theorem wA(a:Map)(k c gen id:Nat)(h:id≠c):a.merge k c gen id=a id:=by simp[Map.merge,Qt h]
theorem ab6{W:Map}{k i gen n b:Nat}(a:k≠i)(h:At (W.merge k i gen) n b):n≠i/\(At W n b\/(n=k/\At W i b)):=by
 rcases h with ⟨g,h⟩|⟨rfl,h⟩|⟨m,e,l⟩
 ·by_cases c:n=i
  ·subst c;rw[N2] at h;cases h
  rw[wA _ _ _ _ _ c] at h;exact⟨c,.inl (.inl ⟨g,h⟩)⟩
 ·rcases h with h|h
  ·exact⟨a,.inl (.inr h)⟩
  exact⟨a,.inr ⟨rfl,h⟩⟩
 exact⟨e,.inl (.inr l)⟩
theorem Rel.merge{K:Ctx}{s:S}(h:Rel K β s a w)(k c gen:Nat)(q:Option Nat)(y:E)(j:s.H k≠aj)(F:s.H c≠aj)(W:k≠c)(D:K.dV<=c)(I:β c=aa (q,gen))(M:1<=gen)
  (N:(∀b,own K (β.merge k c gen) (a8 (a8 s.H c aj) k (aa y)) b->own K β s.H b)->ed β (β.merge k c gen)->cX (β.merge k c gen) w (own K (β.merge k c gen) (a8 (a8 s.H c aj) k (aa y))) k y):
  Rel K (β.merge k c gen) {t:=s.t,H:=a8 (a8 s.H c aj) k (aa y),u:=s.u} a w:=by
 have X:s.u c=ab:=by
  cases G:s.H c with
  |none=>exact bB G F
  |some B=>exact(h.heap c B G).1
 have L:s.u k=ab:=by
  cases G:s.H k with
  |none=>exact bB G j
  |some B=>exact(h.heap k B G).1
 have o:=fun {id b}=> @ab6 β k c gen id b W;have r: ∀b,own K (β.merge k c gen) (a8 (a8 s.H c aj) k (aa y)) b->own K β s.H b:=by
  rintro b (m|⟨id,C,Q⟩)
  ·exact .inl m
  obtain⟨Z,A|⟨rfl,A⟩⟩:=o Q
  ·refine .inr ⟨id,λB=>?_,A⟩;by_cases n:id=k
   ·subst n;exact j B
   rw[cb _ _ _ _ n,cb _ _ _ _ Z] at C;exact C B
  exact .inr ⟨c,F,A⟩
 have v:ed β (β.merge k c gen):=by
  intro id V g1 m;by_cases n:id=c
  ·subst n;rw[I] at m;cases m;exact .inr ⟨M,aj,gen+1,N2 _ _ _ _,pF _⟩
  exact .inl (by rw[wA _ _ _ _ _ n];exact m)
 refine {h with base:= ?_,eF:= ?_,e9:= ?_,inj:= ?_,fresh:= ?_,heap:= ?_,dC:=λi=>(h.dC i).mono (Ext.refl _ _) (λb _=>r b) v (Shaped.refl _ _)}
 ·exact h.base.keep λid hid=>wA _ _ _ _ _ O
 ·intro id hid;have l:s.u id=ak:=hid;rw[wA _ _ _ _ _ (by intro e;subst e;rw[X] at l;cases l)];exact h.eF id l
 ·intro id b hid f;have l:s.u id=ak:=hid;rcases f with ⟨rfl,_⟩|⟨_,_,Z⟩
  ·rw[L] at l;cases l
  exact h.e9 id b l Z
 ·intro id T b C Q;obtain⟨aN,a2|⟨rfl,a2⟩⟩:=o C<;>obtain⟨U,R|⟨rfl,R⟩⟩:=o Q
  ·exact h.inj _ _ b a2 R
  ·exact bB (h.inj _ _ b a2 R) aN
  ·exact bB (h.inj _ _ b R a2) U
  rfl
 ·intro id b f;obtain⟨_,A|⟨_,A⟩⟩:=o f
  ·exact h.fresh id b A
  exact h.fresh c b A
 intro id e m;have m:a8 (a8 s.H c aj) k (aa y) id=aa e:=m;show s.u id=ab/\cX _ w (own K _ (a8 (a8 s.H c aj) k (aa y))) id e;by_cases n:id=k
 ·subst n;rw[cd] at m;cases m
  grind
 rw[cb _ _ _ _ n] at m;by_cases p:id=c
 ·subst p;rw[cd] at m;cases m
 rw[cb _ _ _ _ p] at m;obtain⟨C,Q⟩:=h.heap id e m;exact⟨C,Q.mono (Ext.refl _ _) (λb _=>r b) v (λx m=>by rw[wA _ _ _ _ _ p];exact m) (Shaped.refl _ _) (λ_ _=>rfl) (λb=>⟨λh=>by
  rcases h with ⟨h,_⟩|⟨_,_,h⟩
  ·exact bB h n
  exact h,λh=> .inr ⟨n,p,h⟩⟩)⟩
theorem Xv{K:Ctx}{s:S}(k G i j m2 mE z n:Nat){F:List dB}{gen:Nat}{p:List (List T)}{o:List T}{l:List (List T)}(hk:s.H k=aa (.a7 F m gen p ((i,j,.bg G mE z 0 n)::hs)))
  (qn:s.H G=aa (.a7 F m2 mE l [])) (fr:z=(aU F m2).size) (cY:n=l.length) (hne:k≠G) (rL:db K.dV G=ab) (hi:p[i]? =aa o) (hm:(aU F m).eV j=aa m2) (ahD:dt j (aU F m).size=ab) (bT: ∀v,(i,j,v)∉hs):
  s.le K {t:=s.t,H:=a8 (a8 s.H G aj) k (aa (.a7 F m gen (p.set i (o.set j (.bE l))) hs)),u:=s.u}:=by
 subst fr;subst cY;intro I a w h;have rL:=eP rL;obtain⟨q,dI⟩:=uY (h.heap G _ qn).2;have j4:=(h.heap k _ hk).2;have R:=(h.heap G _ qn).2;refine⟨_,h.merge k G mE q (.a7 F m gen (p.set i (o.set j (.bE l))) hs) (by rw[hk];simp) (by rw[qn];simp) hne rL dI R.1 λW hm'=>⟨j4.1,?_⟩⟩;rcases j4.2 with ⟨aN,a2,_⟩|⟨b,us,B,aN,a2,a3,a4,a5,kj,jC,fV⟩
 ·rw[a2] at hi;simp at hi
 have M:=(bS.1 hi).1
 -- the blocks of the slice
 have N:At I k b:= .inl ⟨_,aN⟩;have ahE: ∀(u:Value),bq I w (own K I s.H) (.bg G mE (aU F m2).size 0 l.length) u->
   hB F w (own K (I.merge k G mE) (a8 (a8 s.H G aj) k (aa (.a7 F m gen (p.set i (o.set j (.bE l))) hs)))) (aa m2) (.bE l) u (λc=>At I G c):=by
  intro u hu;rcases d4 hu dI with ⟨cap,cS,n2,lH,rfl,lA,hw,U,qs,cI,JN⟩|⟨lA,_,h0,rfl⟩
  ·subst lA;rcases R.2 with ⟨c1,_⟩|⟨fP,sr,sG,c1,c2,eE,fy,hU,lr,oc,jY⟩
   ·rw[dI] at c1;cases c1
   rw[dI] at c1;cases c1;rw[ik];have JW:sr.size=cap*(aU F m2).size:=by
    unfold hz at U;rw[c2] at U;simp at U;rw[U.2,<-qs,dQ]
   refine .own m2 l cS cap sr sG _ c2 JW JN cI fy (λy A X x u d1 d2 d3=>(hU y A X x u d1 d2 d3).none.mono (Ext.refl _ _) (λc _=>W c) λ_ _=>rfl) lr oc λc=>⟨?_,?_⟩
   ·rintro(⟨g,bL⟩|bL)
    ·rw[dI] at bL;cases bL;exact .inl rfl
    exact .inr ((jY c).1 bL)
   rintro(rfl|bL)
   ·exact .inl ⟨_,dI⟩
   exact .inr ((jY c).2 bL)
  subst lA
  have:l=[]:=oN h0;subst this;refine .nil m2 _ λc bT=>?_;rcases bT with ⟨g,bL⟩|bL
  ·rw[dI] at bL;cases bL
  rcases R.2 with ⟨_,_,eE⟩|⟨fP,sr,sG,c1,_⟩
  ·exact eE c bL
  rw[dI] at c1;cases c1
 have Z: ∀c,At I G c-> ¬At I k c:=λc C Q=>hne (h.inj _ _ c Q C);have Sf: ∀y A c,B y A c->At I k c:=λy A c bT=> .inr ((fV c).2 ⟨y,A,bT⟩);have hjs: ∀(x:T),o[j]? =aa x->j<(aU F m).size:=λx hx=>by rw[<-a4 o (bx hi)];exact(bS.1 hx).1
 have hrl:o.length=(aU F m).size:=a4 o (bx hi);by_cases f:j<o.length
 ·have JG:i*(aU F m).size+j<us.size:=by
   have:(i+1)*(aU F m).size<=p.length*(aU F m).size:=eh _ M;rw[eu] at this;omega
  have JC:=a5 i j o o[j] us[i*(aU F m).size+j] hi (bp f) (iY JG);obtain⟨tJ,agU⟩:=JC.1 _ eD;refine .inr ⟨b,us,λy A c=>B y A c\/(y=i/\A=j/\At I G c),by rw[wA _ _ _ _ _ hne];exact aN,a2,by simpa using a3,?_,?_,?_,?_,?_⟩
  ·intro r b8;rcases uI b8 with b8|rfl
   ·exact a4 r b8
   simpa using hrl
  ·intro y A X x u dc cS fP;by_cases Dz:y=i/\A=j
   ·obtain⟨rfl,rfl⟩:=Dz;rw[gD M] at dc;cases dc;rw[gD f] at cS;cases cS;rw[iY JG] at fP;cases fP;refine⟨λv bW=>bB bW (bT v),λ_=>?_⟩;rw[hm];refine(ahE _ tJ).iff λc=>⟨λh=>?_,λh=> .inr ⟨rfl,rfl,h⟩⟩
    rcases h with h|⟨_,_,h⟩
    ·exact bB h (agU c)
    exact h
   have hold: ∃L iH,p[y]? =aa L/\L[A]? =aa iH/\iH=x:=by
    by_cases yT:y=i
    ·subst yT;rw[gD M] at dc;cases dc;rw[js (by intro e;exact Dz ⟨rfl,e.symm⟩)] at cS;exact⟨o,x,hi,cS,rfl⟩
    rw[js (Ne.symm yT)] at dc;exact⟨X,x,dc,cS,rfl⟩
   obtain⟨L,iH,d1,d2,rfl⟩:=hold;have tC:=a5 y A L iH u d1 d2 fP;have SA: ∀c,(B y A c\/(y=i/\A=j/\At I G c))↔B y A c:=λc=>⟨λh=>by
    rcases h with h|⟨C,Q,_⟩
    ·exact h
    exact bB ⟨C,Q⟩ Dz,.inl⟩
   refine⟨λv bW=>?_,λcY=>?_⟩
   ·obtain⟨C,Q⟩:=tC.1 v (eo _ bW);exact⟨C.mono (Ext.refl _ _) (λc _=>W c) hm' (Shaped.refl _ _),λc hx=>Q c ((SA c).1 hx)⟩
   refine((tC.2 λv bW=>?_).mono (Ext.refl _ _) (λc _=>W c) λ_ _=>rfl).iff SA;rcases ez.1 bW with e|bW
   ·cases e;exact Dz ⟨rfl,rfl⟩
   exact cY v bW
  ·intro y A c D;rcases D with D|⟨rfl,rfl,D⟩
   ·simpa using kj y A c D
   refine⟨by simpa using M,O,λe=>?_⟩;subst e;exact Z c D N
  ·intro i1 rW i2 jJ c C Q;rcases C with C|⟨rfl,rfl,C⟩<;>rcases Q with Q|⟨rfl,rfl,Q⟩
   ·exact jC _ _ _ _ c C Q
   ·exact bB (Sf _ _ c C) (Z c Q)
   ·exact bB (Sf _ _ c Q) (Z c C)
   exact⟨rfl,rfl⟩
  intro c;constructor
  ·rintro(⟨_,C|C⟩|⟨C,_⟩)
   ·obtain⟨y,A,D⟩:=(fV c).1 C;exact⟨y,A,.inl D⟩
   ·exact⟨i,j,.inr ⟨rfl,rfl,C⟩⟩
   exact bB rfl C
  rintro⟨y,A,D|⟨_,_,D⟩⟩
  ·exact .inl ⟨rfl,.inl ((fV c).2 ⟨y,A,D⟩)⟩
  exact .inl ⟨rfl,.inr D⟩
 exact bB (by rw[hrl];simpa[Nat.blt_eq] using ahD) f
theorem Rel.KD{K:Ctx}{s:S}(h:Rel K β s a w)(k:Nat)(e e':E)(q:s.H k=aa e)(r:cX β w (own K β s.H) k e->cX β w (own K β s.H) k e'):
  Rel K β {s with H:=a8 s.H k (aa e')} a w:=by
 have c: ∀b,own K β (a8 s.H k (aa e')) b->own K β s.H b:=by
  rintro b (l|⟨id,m,n⟩)
  ·exact .inl l
  refine .inr ⟨id,λp=>?_,n⟩;by_cases o:id=k
  ·subst o;rw[q] at p;cases p
  rw[cb _ _ _ _ o] at m;exact m p
 refine {h with heap:= ?_,dC:=λi=>(h.dC i).mono (Ext.refl _ _) (λb _=>c b) (ed.refl _) (Shaped.refl _ _)};intro id x l;have l:a8 s.H k (aa e') id=aa x:=l;by_cases o:id=k
 ·subst o;rw[cd] at l;cases l;obtain⟨m,n⟩:=h.heap id e q;exact⟨m,(r n).mono (Ext.refl _ _) (λb _=>c b) (ed.refl _) (λ_ h=>h) (Shaped.refl _ _) λ_ _=>rfl⟩
 rw[cb _ _ _ _ o] at l;obtain⟨m,n⟩:=h.heap id x l;exact⟨m,n.mono (Ext.refl _ _) (λb _=>c b) (ed.refl _) (λ_ h=>h) (Shaped.refl _ _) λ_ _=>rfl⟩
theorem aax{K:Ctx}{s:S}(k i j:Nat){D:List dB}{gen:Nat}{I:List (Nat×Nat×V)}(A:s.H k=aa (.a7 D m gen c I))(q:c[i]? =aa l)(C:l[j]? =aa x)(F:(aU D m).eV j=aj)(G:sC j I=ab):
  s.le K {s with H:=a8 s.H k (aa (.a7 D m gen c ((i,j,.t x)::I)))}:=by
 intro L a w h;refine⟨L,h.KD k _ (.a7 D m gen c ((i,j,.t x)::I)) A λo=>?_⟩;refine⟨o.1,?_⟩;rcases o.2 with ⟨aN,a2,_⟩|⟨b,Q,B,aN,a2,a3,a4,a5,kj,jC,fV⟩
 ·rw[a2] at q;simp at q
 refine .inr ⟨b,Q,B,aN,a2,a3,a4,λR W p X u r y Z=>?_,kj,jC,fV⟩;have n:=a5 R W p X u r y Z;refine⟨λv bW=>?_,λf=>n.2 λv bW=>f v (eo _ bW)⟩;rcases ez.1 bW with e|bW
 ·simp only[Prod.mk.injEq] at e;obtain⟨rfl,rfl,rfl⟩:=e;rw[q] at r;cases r;rw[C] at y;cases y
  have:=n.2 λv=>AO G _ _;rw[F] at this;cases this with|kS _ _ _ h M=>exact⟨.t _ _ h,M⟩
 exact n.1 v bW
theorem Zg{K:Ctx}{s:S}(k i j:Nat){C:List dB}{gen:Nat}{n:List (List T)}{I:List (Nat×Nat×V)}(hk:s.H k=aa (.a7 C m gen n ((i,j,.t x)::I)))(F:n[i]? =aa l)(U:dt j (aU C m).size=ab)(hm:(aU C m).eV j=aj)(bT:sC j I=ab):
  s.le K {s with H:=a8 s.H k (aa (.a7 C m gen (n.set i (l.set j x)) I))}:=by
 intro β a w h;refine⟨β,h.KD k _ (.a7 C m gen (n.set i (l.set j x)) I) hk λL=>?_⟩;refine⟨L.1,?_⟩;rcases L.2 with ⟨aN,a2,_⟩|⟨b,us,B,aN,a2,a3,a4,a5,kj,jC,fV⟩
 ·rw[a2] at F;simp at F
 have Q:=(bS.1 F).1;have R:l.length=(aU C m).size:=a4 l (bx F);have q:j<l.length:=by rw[R];simpa[Nat.blt_eq] using U
 refine .inr ⟨b,us,B,aN,a2,by simpa using a3,λr b8=>?_,λy A W kD u G X fP=>?_,λy A c bb=>by simpa using kj y A c bb,jC,fV⟩
 ·rcases uI b8 with b8|rfl
  ·exact a4 r b8
  simpa using R
 by_cases Z:y=i/\A=j
 ·obtain⟨rfl,rfl⟩:=Z;rw[gD Q] at G;cases G;rw[gD q] at X;cases X;have p:=(a5 y A l l[A] u F (bp q) fP).1 _ eD;refine⟨λv M=>bB M (AO bT _ _),λ_=>?_⟩;rw[hm];obtain⟨h1,h2⟩:=p;cases h1 with|t _ _ h1=>exact .kS _ _ _ h1 h2
 have f: ∃o N,n[y]? =aa o/\o[A]? =aa N/\N=kD:=by
  by_cases D:y=i
  ·subst D;rw[gD Q] at G;cases G;rw[js (by intro e;exact Z ⟨rfl,e.symm⟩)] at X;exact⟨l,kD,F,X,rfl⟩
  rw[js (Ne.symm D)] at G;exact⟨W,kD,G,X,rfl⟩
 obtain⟨o,N,d1,d2,rfl⟩:=f;have p:=a5 y A o N u d1 d2 fP;refine⟨λv M=>p.1 v (eo _ M),λcY=>p.2 λv M=>?_⟩
 grind
theorem ZT{K:Ctx}{s:S}(k i j m2:Nat){A:List dB}{gen:Nat}{n:List (List T)}{D:List (Nat×Nat×V)}(hk:s.H k=aa (.a7 A m gen n ((i,j,.t .fT)::D)))(C:n[i]? =aa l)(N:dt j (aU A m).size=ab)(hm:(aU A m).eV j=aa m2)(bT:sC j D=ab):
  s.le K {s with H:=a8 s.H k (aa (.a7 A m gen (n.set i (l.set j (.bE []))) D))}:=by
 intro β a w h;refine⟨β,h.KD k _ (.a7 A m gen (n.set i (l.set j (.bE []))) D) hk λG=>?_⟩;refine⟨G.1,?_⟩;rcases G.2 with ⟨aN,a2,_⟩|⟨b,us,B,aN,a2,a3,a4,a5,kj,jC,fV⟩
 ·rw[a2] at C;simp at C
 have L:=(bS.1 C).1;have Q:l.length=(aU A m).size:=a4 l (bx C);have q:j<l.length:=by rw[Q];simpa[Nat.blt_eq] using N
 refine .inr ⟨b,us,B,aN,a2,by simpa using a3,λr U=>?_,λx y R kD u F W fP=>?_,λx y c bb=>by simpa using kj x y c bb,jC,fV⟩
 ·rcases uI U with U|rfl
  ·exact a4 r U
  simpa using Q
 by_cases X:x=i/\y=j
 ·obtain⟨rfl,rfl⟩:=X;rw[gD L] at F;cases F;rw[gD q] at W;cases W;have p:=(a5 x y l l[y] u C (bp q) fP).1 _ eD;refine⟨λv I=>bB I (AO bT _ _),λ_=>?_⟩;rw[hm];obtain⟨h1,h2⟩:=p;cases h1 with|t _ _ h1=>cases h1 with|fT=>exact .nil _ _ h2
 have Z: ∃o M,n[x]? =aa o/\o[y]? =aa M/\M=kD:=by
  by_cases f:x=i
  ·subst f;rw[gD L] at F;cases F;rw[js (by intro e;exact X ⟨rfl,e.symm⟩)] at W;exact⟨l,kD,C,W,rfl⟩
  rw[js (Ne.symm f)] at F;exact⟨R,kD,F,W,rfl⟩
 obtain⟨o,M,d1,d2,rfl⟩:=Z;have p:=a5 x y o M u d1 d2 fP;refine⟨λv I=>p.1 v (eo _ I),λcY=>p.2 λv I=>?_⟩
 grind
theorem aaw{K:Ctx}{s:S}(k:Nat){R:List dB}{gen:Nat}{e:List (List T)}{C:List (Nat×Nat×V)}(l:List dB)(o:Nat)(L:s.H k=aa (.a7 R m gen e C))(Q:db K.dV k=ab)
  (h1:(aU l o).ty=(aU R m).ty) (W:(aU l o).size=(aU R m).size) (h3:(aU l o).bk=[]):
  s.le K {s with H:=a8 s.H k (aa (.a7 l o gen e C))}:=by
 have rL:=eP Q;have F: ∀j,(aU l o).eV j=aj:=λj=>by unfold dB.eV;rw[h3];rfl
 intro A a w h;have r:=(h.heap k _ L).2;have G:ed A (A.drop k):=λ_ _ _ y=> .inl y;rcases r.2 with ⟨aN,a2,a3⟩|⟨b,us,B,aN,a2,a3,a4,a5,kj,jC,fV⟩
 ·exact⟨_,h.drop k (.a7 l o gen e C) (by rw[L];simp) ⟨r.1,.inl ⟨aN,a2,λc n=>n.1 rfl⟩⟩⟩
 refine⟨_,h.drop k (.a7 l o gen e C) (by rw[L];simp) ⟨r.1,.inr ⟨b,us,λ_ _ _=>False,aN,by rw[h1];exact a2,by rw[W];exact a3,by rw[W];exact a4,?_,λ_ _ _ n=>n.elim,λ_ _ _ _ _ n=>n.elim,λc=>⟨λn=>(n.1 rfl).elim,λ⟨_,_,n⟩=>n.elim⟩⟩⟩⟩;intro i j X x u dc cS M;rw[W] at M;have N:=a5 i j X x u dc cS M;generalize U:own K (A.drop k) (a8 s.H k (aa (.a7 l o gen e C)))=iM;have p: ∀b,iM b->own K A s.H b:=by
  subst U;rintro b (y|⟨id,Z,q⟩)
  ·exact .inl y
  refine .inr ⟨id,λf=>?_,oF q⟩;by_cases hi:id=k
  ·subst hi;rw[L] at f;cases f
  rw[cb _ _ _ _ hi] at Z;exact Z f
 refine⟨λv bW=>⟨(N.1 v bW).1.mono (Ext.refl _ _) (λb _=>p b) G (Shaped.refl _ _),λ_ n=>n⟩,λD=>?_⟩;rw[F];refine .kS _ _ _ ((N.2 D).zO p ?_) λ_ n=>n;intro c n y;subst U;have Q:At A k c:= .inr ((fV c).2 ⟨i,j,n⟩);rcases y with y|⟨id,Z,q⟩
 ·obtain⟨ht,jS⟩:=h.k9 c y;rcases(h.fresh k c Q).1 with I|kr
  ·exact jS I
  omega
 have:=h.inj _ _ _ (oF q) Q;subst this;rcases q with ⟨g,q⟩|q
 ·have g3:A id=aa (aa c,g):=q
  grind
 exact q.1 rfl
def E.gen:E->Option Nat
 | .cells _=>aj
 | .arr _ g _ _=>aa g
 | .a7 _ _ g _ _=>aa g
theorem pU{g:Nat}{e:E}(h:cX W w X i e)(c:e.gen=aa g):1<=g/\ ∃q,W i=aa (q,g):=by
 cases e with
 |cells cs=>cases c
 |arr ty l size a=>
  cases c;exact⟨h.1,by rcases h.2 with ⟨k,_⟩|⟨b,n,k,_⟩<;>exact⟨_,k⟩⟩
 |a7 o m l a p=>
  cases c;exact⟨h.1,uY h⟩
theorem Rel.Tl{K:Ctx}{s:S}(h:Rel K β s a w)(k:Nat)(e e':E)(g:Nat)(M:s.H k=aa e)(bL:e.gen=aa g)(C:Array Value)(F:TypeId)
  (he: ∀(y:Map) (I:Nat->Prop) (G:World),G=w.alloc (.cells C F)->y k=aa (aa w.heap.size,g+1)->(∀b,y.n k b↔β.n k b)->(∀v u,bq β w (own K β s.H) v u->bq y G I v u)->
   (∀x u,df w (own K β s.H) x u->df G I x u)->(∀T m x u N,(∀b,N b->β.n k b)->hB T w (own K β s.H) m x u N->hB T G I m x u N)->cX y G I k e'):
  Rel K (β.put k (aa (aa w.heap.size,g+1))) {s with H:=a8 s.H k (aa e')} a (w.alloc (.cells C F)):=by
 have c: ∀X,Ext X w (w.alloc (.cells C F)):=λX=>Ext.alloc X w _;have L:s.u k=ab:=(h.heap k _ M).1;obtain⟨Q,uh,R⟩:=pU (h.heap k _ M).2 bL;have l: ∀id b,At (β.put k (aa (aa w.heap.size,g+1))) id b->(id=k/\b=w.heap.size)\/At β id b:=λid b bb=>by
  rcases bb with ⟨g,bb⟩|bb
  ·by_cases q:id=k
   ·subst q;rw[kp] at bb;cases bb;exact .inl ⟨rfl,rfl⟩
   rw[fR _ _ _ _ q] at bb;exact .inr (.inl ⟨g,bb⟩)
  exact .inr (.inr bb)
 have o: ∀b,b<w.heap.size->own K (β.put k (aa (aa w.heap.size,g+1))) (a8 s.H k (aa e')) b->own K β s.H b:=by
  rintro b hlt (W|⟨id,B,Z⟩)
  ·exact .inl W
  rcases l id b Z with ⟨rfl,rfl⟩|A
  ·omega
  refine .inr ⟨id,λU=>?_,A⟩;by_cases q:id=k
  ·subst q;rw[M] at U;cases U
  rw[cb _ _ _ _ q] at B;exact B U
 have f:Shaped β w (w.alloc (.cells C F)):=tV (c _);have j:=Qm uh (aa w.heap.size) Q R;have D: ∀v u,bq β w (own K β s.H) v u->bq (β.put k (aa (aa w.heap.size,g+1))) (w.alloc (.cells C F)) (own K (β.put k (aa (aa w.heap.size,g+1))) (a8 s.H k (aa e'))) v u:=
  λv u bW=>bW.mono (c _) o j f
 refine {ext:=h.ext.trans ((c λ_=>False).weaken λ_ _ h=>h.elim),rH:=h.rH,r6:=h.r6,k9:=h.k9,wc:=h.wc,base:= ?_,kA:=h.kA.ext h.ext.size (c _),low:=h.low,eF:= ?_,e9:=λid b hid=>h.e9 id b hid,inj:= ?_,fresh:= ?_,heap:= ?_,dC:=λi=>D _ _ (h.dC i),nt:=h.nt,defers:=h.defers}
 ·exact h.base.grow k g uh (aa w.heap.size) R Q (kp _ _ _) (λb bb=>by cases bb;exact .inr h.ext.size) λid q=>fR _ _ _ _ q
 ·intro id hid;have r:s.u id=ak:=hid;by_cases e:id=k
  ·subst e;rw[L] at r;cases r
  rw[fR _ _ _ _ e];exact h.eF id r
 ·intro id V b B Z;rcases l id b B with ⟨rfl,rfl⟩|A<;>rcases l V _ Z with ⟨rfl,e⟩|h4
  ·rfl
  ·have:=(h.fresh _ _ h4).2;omega
  ·subst e;have:=(h.fresh _ _ A).2;omega
  exact h.inj _ _ _ A h4
 ·intro id b bb;rcases l id b bb with ⟨rfl,rfl⟩|A
  ·exact⟨.inr h.ext.size,aX⟩
  exact⟨(h.fresh _ _ A).1,by have:=(h.fresh _ _ A).2;simp;omega⟩
 intro id e2 p;have p:a8 s.H k (aa e') id=aa e2:=p;show s.u id=ab/\cX _ _ (own K _ (a8 s.H k (aa e'))) id e2;by_cases q:id=k
 ·subst q;rw[cd] at p;cases p;exact⟨L,he _ _ _ rfl (kp _ _ _) (λ_=>Iff.rfl) D (λx u W=>W.mono (c _) o) λT m x u N gz b8=>b8.mono (c _) o λb bb=>AL _ _ _ (h.fresh id b (.inr (gz b bb))).2⟩
 rw[cb _ _ _ _ q] at p;obtain⟨B,Z⟩:=h.heap id e2 p;refine⟨B,Z.mono (c _) o j (λx W=>by rw[fR _ _ _ _ q];exact W) f λb bb=>AL _ _ _ (h.fresh id b bb).2⟩
theorem Rel.Ja{K:Ctx}{s:S}(h:Rel K β s a w)(k:Nat)(e e':E)(g:Nat)(q:Option Nat)(Q:β k=aa (q,g))(A:1<=g)(f:s.H k=aa e)
  (j: ∀(r:Map) (R:Nat->Prop),r k=aa (q,g+1)->(∀b,r.n k b↔β.n k b)->(∀v u,bq β w (own K β s.H) v u->bq r w R v u)->(∀b,R b->own K β s.H b)->cX r w R k e'):
  Rel K (β.put k (aa (q,g+1))) {s with H:=a8 s.H k (aa e')} a w:=by
 have B:s.u k=ab:=(h.heap k _ f).1;have c: ∀id b,At (β.put k (aa (q,g+1))) id b->At β id b:=λid b bb=>by
  rcases bb with ⟨g,bb⟩|bb
  ·by_cases m:id=k
   ·subst m;rw[kp] at bb;cases bb;exact .inl ⟨_,Q⟩
   rw[fR _ _ _ _ m] at bb;exact .inl ⟨g,bb⟩
  exact .inr bb
 have o: ∀b,own K (β.put k (aa (q,g+1))) (a8 s.H k (aa e')) b->own K β s.H b:=by
  rintro b (W|⟨id,y,C⟩)
  ·exact .inl W
  refine .inr ⟨id,λX=>?_,c id b C⟩;by_cases m:id=k
  ·subst m;rw[f] at X;cases X
  rw[cb _ _ _ _ m] at y;exact y X
 have F:=Qm q q A Q;have G: ∀v u,bq β w (own K β s.H) v u->bq (β.put k (aa (q,g+1))) w (own K (β.put k (aa (q,g+1))) (a8 s.H k (aa e'))) v u:=λv u D=>D.mono (Ext.refl _ _) (λb _=>o b) F (Shaped.refl _ _);refine {h with base:= ?_,eF:= ?_,inj:= ?_,fresh:=λid b bb=>h.fresh id b (c id b bb),heap:= ?_,dC:=λi=>G _ _ (h.dC i)}
 ·exact h.base.grow k g q q Q A (cd _ _ _) (λb bb=> .inl bb) λid m=>fR _ _ _ _ m
 ·intro id hid;have p:s.u id=ak:=hid;by_cases e:id=k
  ·subst e;rw[B] at p;cases p
  rw[fR _ _ _ _ e];exact h.eF id p
 ·intro id L b y C;exact h.inj id L b (c id b y) (c L b C)
 intro id Z l;have l:a8 s.H k (aa e') id=aa Z:=l;show s.u id=ab/\cX _ _ (own K _ (a8 s.H k (aa e'))) id Z;by_cases m:id=k
 ·subst m;rw[cd] at l;cases l;exact⟨B,j _ _ (kp _ _ _) (λ_=>Iff.rfl) G o⟩
 rw[cb _ _ _ _ m] at l;obtain⟨y,C⟩:=h.heap id Z l;exact⟨y,C.mono (Ext.refl _ _) (λb _=>o b) F (λx W=>by rw[fR _ _ _ _ m];exact W) (Shaped.refl _ _) λ_ _=>rfl⟩
theorem aa5{size:Nat}{a:List (List T)}(p q k:List Value)(A:a.length=n)(B:p.length=n*size)(G:q.length=c.length*size)(C: ∀e,e∈a->e.length=size)(r: ∀e,e∈c->e.length=size){R:Nat->Nat->T->Value->Prop}
  (L: ∀(i j:Nat) (e:List T) (x:T) (u:Value),a[i]? =aa e->e[j]? =aa x->p[i*size+j]? =aa u->R i j x u)
  (Q: ∀(i j:Nat) (e:List T) (x:T) (u:Value),c[i]? =aa e->e[j]? =aa x->q[i*size+j]? =aa u->R (n+i) j x u):
  ∀(i j:Nat) (e:List T) (x:T) (u:Value),(a++c)[i]? =aa e->e[j]? =aa x->(p++q++k)[i*size+j]? =aa u->R i j x u:=by
 intro i j e x u l y F;by_cases m:i<a.length
 ·rw[jq m] at l;have h:j<size:=by rw[<-C e (bx l)];exact(bS.1 y).1
  have o:i*size+j<p.length:=by rw[B,<-A];exact px m h
  grind
 rw[iE O] at l;have h:j<size:=by rw[<-r e (bx l)];exact(bS.1 y).1
 have w:=(bS.1 l).1;have o:=px (size:=size) w h
 grind
def jb(n:Nat):List (Nat×Nat×V)->List (Nat×Nat×V)
 | []=>[]
 |h::hs=>(n+h.1,h.2.1,h.2.2)::jb n hs
theorem BN{n:Nat}: ∀{hs:List (Nat×Nat×V)} {i j:Nat} {v:V},(i,j,v)∈jb n hs↔ ∃k,i=n+k/\(k,j,v)∈hs
 | [],_,_,_=>by simp[jb]
 |h::hs,i,j,v=>by
  simp only[jb,List.mem_cons,Prod.mk.injEq,BN (hs:=hs)];constructor
  ·rintro(⟨l,e,m⟩|⟨k,l,e⟩)
   ·exact⟨h.1,l,.inl (by obtain⟨a,b,c⟩:=h;cases e;cases m;rfl)⟩
   exact⟨k,l,.inr e⟩
  rintro⟨k,l,e|e⟩
  ·subst e;exact .inl ⟨l,rfl,rfl⟩
  exact .inr ⟨k,l,e⟩
def Bk(n:Map)(w:World)(X:Nat->Prop)(c:Nat)(a:List (List T))(m:List (Nat×Nat×V))(u:Value):Prop:=
 ∃(b e l:Nat) (k:List Value),u= .slice (aa ⟨b,e,aj⟩) a.length l/\k.length=a.length*c/\
  (∀(j:Nat) x,k[j]? =aa x->w.cell? ⟨b,e+j,aj⟩=aa x)/\(∀x,x∈k->x.oneCell'=ab)/\
  ∀(i j:Nat) (h:List T) (x:T) (y:Value),a[i]? =aa h->h[j]? =aa x->k[i*c+j]? =aa y->(∀v,(i,j,v)∈m->bq n w X v y)/\((∀v,(i,j,v)∉m)->df w X x y)
def u9:List (Nat×Nat×V)->Bool
 | []=>ab
 |h::a=>h.2.2.one&&u9 a
theorem MX: ∀{a:List (Nat×Nat×V)} {i j:Nat} {v:V},u9 a=ab->(i,j,v)∈a->v.one=ab
 | [],_,_,_,_,h=>by cases h
 |h::a,i,j,v,c,hm=>by
  simp only[u9,b9] at c;rcases ez.1 hm with rfl|hm
  ·exact c.1
  exact MX c.2 hm
def sO(d:dB)(n:Nat)(a:List (Nat×Nat×V)):Bool:=
 (List.range n).all λi=>d.bk.all λp=>a.any λh=>b5 h.1 i&&b5 h.2.1 p.1
theorem N5: ∀{l:List (Nat×Nat)} {j m:Nat},vo l j=aa m->(j,m)∈l
 | [],_,_,h=>by cases h
 |p::l,j,m,h=>by
  simp only[vo] at h;cases a:b5 p.1 j with
  |true=>rw[a] at h;cases h;rw[<-de a];exact eD
  |false=>rw[a] at h;exact eo _ (N5 h)
theorem ND{d:dB}(h:sO d n hs=ab){j:Nat}(e:i<n)(k:d.eV j=aa m): ∃v,(i,j,v)∈hs:=by
 have l:=gQ.1 h i (w6.2 e);have o:=gQ.1 l (j,m) (N5 k);obtain⟨⟨a,b,v⟩,p,c⟩:=iX.1 o;simp only[b9] at c;have q:=de c.1;have r:=de c.2
 grind
theorem Bk.of{K:Ctx}{s:S}(h:Rel K β s a w){g:Nat}{l:List dB}{r:List (Nat×Nat×V)}{u:Value}(hk:s.H k=aa (.a7 l m g c r))(cY:n=c.length)
  (hu:bq β w (own K β s.H) (.bg k g (aU l m).size 0 n) u) (M:0<c.length) (fc:u9 r=ab) (bT:sO (aU l m) c.length r=ab):Bk β w (own K β s.H) (aU l m).size c r u:=by
 subst cY;have X:=(h.heap k _ hk).2;rcases X.2 with ⟨_,F,_⟩|⟨b,N,B,aN,a2,a3,a4,a5,kj,jC,fV⟩
 ·rw[F] at M;simp at M
 rcases d4 hu aN with ⟨Z,jf,Km,lH,rfl,f,hw,iw,qs,cI,hm⟩|⟨f,_⟩
 ·cases f;rw[ik];have A: ∀(i j:Nat) (o:List T) (x:T) (y:Value),c[i]? =aa o->o[j]? =aa x->N[i*(aU l m).size+j]? =aa y->
    (∀v,(i,j,v)∈r->bq β w (own K β s.H) v y)/\((∀v,(i,j,v)∉r)->df w (own K β s.H) x y):=by
   intro i j o x y C F W;have G:=a5 i j o x y C F W;refine⟨λv p=>(G.1 v p).1,λL=>?_⟩;have U:=G.2 L;have Q:(aU l m).eV j=aj:=by
    cases D:(aU l m).eV j with
    |none=>rfl
    |some alK=>
     obtain⟨v,p⟩:=ND bT (bS.1 C).1 D;exact bB p (L v)
   rw[Q] at U;cases U with|kS _ _ _ h _=>exact h
  refine⟨b,0,Z,N.toList.take (c.length*(aU l m).size),rfl,bQ,λj x q=>?_,λx hx=>?_,λi j o x y C F W=>?_⟩
  ·rw[g'] at q;split at q
   ·simp only[World.cell?,a2,Nat.zero_add];simpa using q
   cases q
  ·obtain⟨j,q⟩:=jQ.1 hx;rw[g'] at q;split at q
   ·rename_i R;have fr:0<(aU l m).size:=Nat.pos_of_ne_zero λe=>by rw[e] at R;omega
    have C:j / (aU l m).size<c.length:=by rw[w2 fr];exact R
    have F:=Nat.mod_lt j fr;have W:=a4 _ (gC C);have he:j / (aU l m).size*(aU l m).size+j%(aU l m).size=j:=by rw[Nat.mul_comm];exact Nat.div_add_mod ..
    obtain⟨c1,c2⟩:=A (j / (aU l m).size) (j%(aU l m).size) _ _ x (bp C) (bp (by omega:j%(aU l m).size<(c[j / (aU l m).size]).length)) (by rw[he];simpa using q);by_cases p: ∃v,(j / (aU l m).size,j%(aU l m).size,v)∈r
    ·obtain⟨v,p⟩:=p;exact(c1 v p).j7 (MX fc p)
    exact(c2 λv I=>p ⟨v,I⟩).j7
   cases q
  rw[g'] at W
  grind
 cases f
theorem Rel.I8{K:Ctx}{s:S}{t:TypeId}{u:TypeDesc}{z:Value}{gen size bytes:Nat}(h:Rel K β s a w)(k:Nat)(r:List dB)(m:Nat)(l o:List (List T))(C:List (Nat×Nat×V))(hk:s.H k=aa (.a7 r m gen l []))(vM:(aU r m).size=size)(oq:(aU r m).ty=e)(ty:TypeId)
  (hu:K.P.underlying t=aa (.slice e)) (he:ct K.P e u z size bytes) (rN:z.cells.size=size) (hs: ∀p,p∈l->p.length=size) (DE: ∀p,p∈o->p.length=size) (v x:Value) (bW:bq β w (own K β s.H) (.bg k gen size 0 l.length) v)
  (hx:Bk β w (own K β s.H) size o C x) (SO:0<o.length) (ahf:sO (aU r m) o.length C=ab) (bb:(l.length+o.length)*bytes<=140737488355328) (hm:l.length+o.length<=maxLen):
  ∃ef w' F,(Builtin.append_ #[t,t] ty #[v,x]).run K.P w= .ok ef w'/\Rel K F {s with H:=a8 s.H k (aa (.a7 r m (gen+1) (l++o) (jb l.length C)))} a w'/\
   bq F w' (own K F (a8 s.H k (aa (.a7 r m (gen+1) (l++o) (jb l.length C))))) (.bg k (gen+1) size 0 (l.length+o.length)) ef:=by
 subst vM;subst oq;obtain⟨q,dI⟩:=uY (h.heap k _ hk).2;have kq:=(h.heap k _ hk).2.1;obtain⟨_,i,pj,hi2,N,vQ⟩:=id he;have hm':l.length+o.length<=9223372036854775807:=by unfold maxLen at hm;omega
 have ly:=(h.heap k _ hk).2.2;have SV: ∀p,p∈l++o->p.length=(aU r m).size:=λp vS=>by
  rcases eC.1 vS with h|h
  ·exact hs p h
  exact DE p h
 obtain⟨cS,off,Dn,X,tL,U,JZ,nx,hwr⟩:=hx;have J0: ∀j y,X[j]? =aa y->w.cell? ((⟨cS,off,aj⟩:Addr).add j)=aa y:=λj y hy=>by rw[kU];exact JZ j y hy
 have nw:(l.length+o.length)*i.bytes<=140737488355328:=by rw[vQ];exact bb
 have ahF: ∀i j,i<o.length->(∀v,(i,j,v)∉C)->(aU r m).eV j=aj:=λi j hi mJ=>by
  cases hkk:(aU r m).eV j with
  |none=>rfl
  |some alK=>
   obtain⟨v,bW⟩:=ND ahf hi hkk;exact bB bW (mJ v)
 -- the cells of old and new rows, in whatever world
 have I: ∀(B:Nat->Nat->Nat->Prop) (F:Map) (w':World) (iM:Nat->Prop),(∀v u,bq β w (own K β s.H) v u->bq F w' iM v u)->(∀x u,df w (own K β s.H) x u->df w' iM x u)->
   (∀i j c,B i j c->i<l.length)-> ∀(f rest:List Value),f.length=l.length*(aU r m).size->
   (∀(i j:Nat) (p:List T) (x:T) (u:Value),l[i]? =aa p->p[j]? =aa x->f[i*(aU r m).size+j]? =aa u->hB r w' iM ((aU r m).eV j) x u (B i j))->
   ∀(i j:Nat) (p:List T) (x:T) (u:Value),(l++o)[i]? =aa p->p[j]? =aa x->(f++X++rest)[i*(aU r m).size+j]? =aa u->Cell r m (jb l.length C) F w' iM i j x u (B i j):=by
  intro B F w' iM mK pk gm f rest vT tI;refine aa5 f X rest rfl vT U hs DE (R:=λi j x u=>Cell r m (jb l.length C) F w' iM i j x u (B i j)) (λi j p x u h1 h2 h3=>⟨λv bW=>?_,λ_=>tI i j p x u h1 h2 h3⟩) λi j p x u h1 h2 h3=>⟨λv bW=>?_,λmJ=>?_⟩
  ·obtain⟨jI,e1,_⟩:=BN.1 bW
   have:=(bS.1 h1).1;omega
  ·obtain⟨jI,e1,e2⟩:=BN.1 bW
   have:jI=i:=O
   subst this;exact⟨mK _ _ ((hwr jI j p x u h1 h2 h3).1 v e2),λc L=>by have:=gm _ _ _ L;omega⟩
  have SK: ∀v,(i,j,v)∉C:=λv bW=>mJ v (BN.2 ⟨i,rfl,bW⟩);rw[ahF i j (bS.1 h1).1 SK];exact .kS _ _ _ (pk _ _ ((hwr i j p x u h1 h2 h3).2 SK)) (λc L=>by have:=gm _ _ _ L;omega)
 -- a new block
 have finish: ∀(B:Nat->Nat->Nat->Prop) (f:List Value) (A:Nat),f.length=l.length*(aU r m).size->l.length+o.length<=A->A<=maxLen->
   (∀(i j:Nat) (p:List T) (x:T) (u:Value),l[i]? =aa p->p[j]? =aa x->f[i*(aU r m).size+j]? =aa u->hB r w (own K β s.H) ((aU r m).eV j) x u (B i j))->
   (∀i j c,B i j c->i<l.length/\j<(aU r m).size)->(∀i j jI eH c,B i j c->B jI eH c->i=jI/\j=eH)->(∀c,β.n k c↔ ∃i j,B i j c)->
   ∃F,Rel K F {s with H:=a8 s.H k (aa (.a7 r m (gen+1) (l++o) (jb l.length C)))} a (w.drew.alloc (.cells (f.toArray++X.toArray++eS z.cells (A-(l.length+o.length))) (aU r m).ty))/\
    bq F (w.drew.alloc (.cells (f.toArray++X.toArray++eS z.cells (A-(l.length+o.length))) (aU r m).ty)) (own K F (a8 s.H k (aa (.a7 r m (gen+1) (l++o) (jb l.length C))))) (.bg k (gen+1) (aU r m).size 0 (l.length+o.length)) (.slice (aa ⟨w.heap.size,0,aj⟩) (l.length+o.length) A):=by
  intro B f A vT Su hcm aik gm cD gz;have yW:(f.toArray++X.toArray++eS z.cells (A-(l.length+o.length))).size=A*(aU r m).size:=by
   simp only[Array.size_append,List.size_toArray,size_zeroCells,rN,vT,U,<-Nat.add_mul];congr 1;omega
  have vP:=xT h;have yU:=vP.Tl k _ (.a7 r m (gen+1) (l++o) (jb l.length C)) gen hk rfl (f.toArray++X.toArray++eS z.cells (A-(l.length+o.length))) (aU r m).ty
   (λF iM w' hw' J4 cY mK pk tI=>⟨O,.inr ⟨w.heap.size,_,B,J4,by subst hw';exact kP w.drew _,by rw[yW,ea];exact eh _ Su,SV,
    λi j p x u aN a2 a3=>I B F w' iM (λv u JX=>mK v u (JX.mono (Ext.drew _ _) (λ_ _ h=>h) (ed.refl _) (tV (Ext.drew _ _)))) (λx u J3=>pk x u (J3.mono (Ext.drew _ _) λ_ _ h=>h)) (λi j c L=>(gm i j c L).1) f (eS z.cells (A-(l.length+o.length))).toList vT
     (λi j p x u dc cS fP=>tI r _ x u (B i j) (λc L=>(gz c).2 ⟨i,j,L⟩) ((aik i j p x u dc cS fP).mono (Ext.drew _ _) (λ_ _ h=>h) λ_ _=>rfl)) i j p x u aN a2 (by simpa[<-Array.getElem?_toList] using a3),
    λi j c L=>⟨by have:=(gm i j c L).1;rw[ea];omega,(gm i j c L).2,λe0=>by have:=(h.fresh k c (.inr ((gz c).2 ⟨i,j,L⟩))).2;rw[e0] at this;exact Nat.lt_irrefl _ this⟩,cD,λc=>(cY c).trans (gz c)⟩⟩)
  refine⟨_,yU,?_⟩;have lY:bq (β.put k (aa (aa w.heap.size,gen+1))) (w.drew.alloc (.cells (f.toArray++X.toArray++eS z.cells (A-(l.length+o.length))) (aU r m).ty)) (own K (β.put k (aa (aa w.heap.size,gen+1))) (a8 s.H k (aa (.a7 r m (gen+1) (l++o) (jb l.length C))))) (.bg k (gen+1) (aU r m).size 0 (l.length+o.length)) (.slice (aa ⟨w.heap.size,0*(aU r m).size,aj⟩) (l.length+o.length) A):=by
   have vR:=kP w.drew (.cells (f.toArray++X.toArray++eS z.cells (A-(l.length+o.length))) (aU r m).ty);refine .bg k (gen+1) (aU r m).size 0 _ A w.heap.size (A*(aU r m).size) (aU r m).ty O (cd _ _ _) aX ?_ (by rw[dQ]) Su hcm;have ahS:(w.drew.alloc (.cells (f.toArray++X.toArray++eS z.cells (A-(l.length+o.length))) (aU r m).ty)).heap[w.heap.size]? =aa (.cells (f.toArray++X.toArray++eS z.cells (A-(l.length+o.length))) (aU r m).ty):=vR;unfold hz;rw[ahS];simp only[yW]
  rw[ik] at lY;exact lY
 subst tL;rcases d4 bW dI with ⟨Z,b,n,lH,rfl,mI,hw,iw,qs,cI,qq⟩|⟨mI,_,ahJ,rfl⟩
 rotate_left
 ·have tH:l=[]:=oN ahJ;subst tH;have Q:=run_append_nil (P:=K.P) w t ty (aU r m).ty i z hu pj hi2 ⟨cS,off,aj⟩ o.length Dn X (by rw[N];exact U) J0 SO O (by simp at nw;omega);subst mI;have ahU: ∀c,¬β.n k c:=by
   rcases ly with ⟨_,_,h0⟩|⟨b,f,B,h1,_⟩
   ·exact h0
   rw[dI] at h1;cases h1
  obtain⟨F,f1,f2⟩:=finish (λ_ _ _=>False) [] (grownCap w o.length 0 (aU r m).ty) aX (by simpa using grownCap_ge w o.length 0 (aU r m).ty) (grownCap_le_maxLen w _ 0 (aU r m).ty (by unfold maxLen;simp at hm';omega)) (λi j p x u h1 _ _=>by simp at h1)
   (λ_ _ _ h=>h.elim) (λ_ _ _ _ _ h=>h.elim) λc=>⟨λL=>bB L (ahU c),λ⟨_,_,h⟩=>h.elim⟩
  simp only[List.length_nil,Nat.zero_add] at f1 f2⊢;exact⟨_,_,F,by rw[Q];simp,f1,f2⟩
 subst mI;rcases ly with ⟨g1,_⟩|⟨jf,G,B,g1,g2,g3,g4,g5,g6,g7,g8⟩
 ·rw[dI] at g1;cases g1
 rw[dI] at g1;cases g1;have pg:G.size=Z*(aU r m).size:=by
  unfold hz at iw;rw[g2] at iw;simp at iw;rw[<-qs] at iw;rw[dQ] at iw;exact iw.2
 have JU:(G.toList.take (l.length*(aU r m).size)).length=l.length*(aU r m).size:=bQ
 have pk: ∀(i j:Nat) (p:List T) (x:T) (u:Value),l[i]? =aa p->p[j]? =aa x->(G.toList.take (l.length*(aU r m).size))[i*(aU r m).size+j]? =aa u->hB r w (own K β s.H) ((aU r m).eV j) x u (B i j):=by
  intro i j p x u h1 h2 h3;rw[g'] at h3;split at h3
  ·exact(g5 i j p x u h1 h2 (by simpa using h3)).none
  cases h3
 simp only[Nat.zero_mul];by_cases D:l.length+o.length<=Z
 ·have qk:l.length*(aU r m).size+X.length<=G.size:=by rw[U,pg,<-eu];exact eh _ D
  have Q:=run_append_room (P:=K.P) w t ty (aU r m).ty i hu pj b l.length Z G g2 ⟨cS,off,aj⟩ o.length Dn X (by rw[N];exact U) J0 nx D (by rw[N];exact qk);rw[N] at Q;have M:(G.toList.take (l.length*(aU r m).size)++X++G.toList.drop (l.length*(aU r m).size+X.length)).toArray.size=G.size:=by
   simp;omega
  generalize mH:w.setRow b (G.toList.take (l.length*(aU r m).size)++X++G.toList.drop (l.length*(aU r m).size+X.length)).toArray=W at Q;have ahX:own K β s.H b:= .inr ⟨k,by rw[hk];simp,.inl ⟨_,dI⟩⟩;have JE:Ext (own K β s.H) w W:=by
   subst mH;exact⟨rfl,rfl,rfl,aX,λkk _ hx=>setRow_other _ _ _ _ λe0=>hx (e0▸ahX)⟩
  have aia:Shaped β w W:=by subst mH;intro jf _;exact F7 g2 M jf
  have hrel:=h.setRow k b (.inl ⟨_,dI⟩) G (aU r m).ty g2 (G.toList.take (l.length*(aU r m).size)++X++G.toList.drop (l.length*(aU r m).size+X.length)).toArray M (.a7 r m gen (l++o) (jb l.length C)) (by rw[hk];simp)
   ⟨kq,Or.inr ⟨b,_,B,dI,setRow_heap _ _ _ _ _ _ g2,by rw[M,pg,ea];exact eh _ D,SV,
    λi j p x u aN a2 a3=>by
     rw[mH];exact I B β W (own K β s.H) (λv u JX=>JX.mono JE (λ_ _ h=>h) (ed.refl _) aia) (λx u J3=>J3.mono JE λ_ _ h=>h) (λi j c L=>(g6 i j c L).1) _ _ JU
      (λi j p x u dc cS fP=>(pk i j p x u dc cS fP).mono JE (λ_ _ h=>h) λc L=>by subst mH;exact setRow_other _ _ _ _ (g6 i j c L).2.2) i j p x u aN a2 (by simpa using a3),
    λi j c L=>⟨by have:=(g6 i j c L).1;rw[ea];omega,(g6 i j c L).2⟩,g7,g8⟩⟩
  rw[mH] at hrel;have SR:=hrel.Ja k (.a7 r m gen (l++o) (jb l.length C)) (.a7 r m (gen+1) (l++o) (jb l.length C)) gen (aa b) dI kq (cd _ _ _) (λF iM J4 cY mK iv=>by
   have j4:=(hrel.heap k _ (cd _ _ _)).2;rcases j4.2 with ⟨e1,_⟩|⟨jf,fE,Un,e1,e2,nu,tn,lW,alv,alw,alx⟩
   ·rw[dI] at e1;cases e1
   rw[dI] at e1;cases e1;exact⟨O,.inr ⟨b,fE,Un,J4,e2,nu,tn,λi j p x u c1 c2 eE=>⟨λv bW=>⟨mK _ _ ((lW i j p x u c1 c2 eE).1 v bW).1,((lW i j p x u c1 c2 eE).1 v bW).2⟩,λmJ=>((lW i j p x u c1 c2 eE).2 mJ).mono (Ext.refl _ _) (λc _=>iv c) λ_ _=>rfl⟩,alv,alw,λc=>(cY c).trans (alx c)⟩⟩)
  have Js:a8 (a8 s.H k (aa (.a7 r m gen (l++o) (jb l.length C)))) k (aa (.a7 r m (gen+1) (l++o) (jb l.length C)))=a8 s.H k (aa (.a7 r m (gen+1) (l++o) (jb l.length C))):=by
   funext j;by_cases hj:j=k
   ·subst hj;rw[cd,cd]
   rw[cb _ _ _ _ hj,cb _ _ _ _ hj,cb _ _ _ _ hj]
  simp only[Js] at SR;refine⟨_,_,_,Q,SR,?_⟩;have lY:bq (β.put k (aa (aa b,gen+1))) W (own K (β.put k (aa (aa b,gen+1))) (a8 s.H k (aa (.a7 r m (gen+1) (l++o) (jb l.length C))))) (.bg k (gen+1) (aU r m).size 0 (l.length+o.length)) (.slice (aa ⟨b,0*(aU r m).size,aj⟩) (l.length+o.length) Z):=by
   refine .bg k (gen+1) (aU r m).size 0 _ Z b (Z*(aU r m).size) (aU r m).ty O (cd _ _ _) (by subst mH;simpa using hw) ?_ (by rw[dQ]) D qq;subst mH;unfold hz;rw[setRow_heap _ _ _ _ _ _ g2];simp only[M,pg]
  rw[ik] at lY;exact lY
 have holds: ∀j u,(G.toList.take (l.length*(aU r m).size))[j]? =aa u->w.cell? ((⟨b,0,aj⟩:Addr).add j)=aa u:=by
  intro j u hj;rw[kU,dQ];rw[g'] at hj;split at hj
  ·simp only[World.cell?,g2];simpa using hj
  cases hj
 have Q:=run_append_grow (P:=K.P) w t ty (aU r m).ty i z hu pj hi2 ⟨b,0,aj⟩ l.length Z (G.toList.take (l.length*(aU r m).size)) (by rw[N];exact JU) holds ⟨cS,off,aj⟩ o.length Dn X (by rw[N];exact U) J0 O O (growslice_fits O nw);obtain⟨F,f1,f2⟩:=finish B (G.toList.take (l.length*(aU r m).size)) (grownCap w (l.length+o.length) Z (aU r m).ty) JU (grownCap_ge w _ Z (aU r m).ty) (grownCap_le_maxLen w _ Z (aU r m).ty hm) pk (λi j c L=>⟨(g6 i j c L).1,(g6 i j c L).2.1⟩) g7 g8;exact⟨_,_,F,Q,f1,f2⟩
def vk(a:Nat)(c:List V):List (Nat×Nat×V)->List (Nat×Nat×V)
 | []=>[]
 |h::e=>(h.1,h.2.1,match db a h.2.1,c[h.2.1-a]? with
  |true,aa v=>v
  |_,_=>h.2.2)::vk a c e
theorem Hn{off:Nat}{vs:List V}{i j:Nat}{v:V}: ∀{a:List (Nat×Nat×V)},(i,j,v)∈a-> ∃c,(i,j,c)∈vk off vs a
 |h::a,hm=>by
  rcases ez.1 hm with rfl|hm
  ·exact⟨_,eD⟩
  obtain⟨c,e⟩:=Hn hm;exact⟨c,eo _ e⟩
theorem GG{n:Nat}{a:List V}{i j:Nat}{v:V}: ∀{k:List (Nat×Nat×V)},(i,j,v)∈vk n a k-> ∃c,(i,j,c)∈k/\(n<=j-> ∀x,a[j-n]? =aa x->v=x)/\(¬(n<=j/\j<n+a.length)->v=c)
 |h::k,hm=>by
  rcases ez.1 hm with e|hm
  ·simp only[Prod.mk.injEq] at e;obtain⟨rfl,rfl,rfl⟩:=e;refine⟨h.2.2,eD,λm x l=>?_,λo=>?_⟩
   ·rw[Nat.ble_eq_true_of_le m,l]
   split
   ·rename_i v p l
    have:=(bS.1 l).1
    have:=eP p;exact bB ⟨this,O⟩ o
   rfl
  obtain⟨c,q,r⟩:=GG hm;exact⟨c,eo _ q,r⟩
theorem aaj{D:List dB}{gen:Nat}{a:List (List T)}{I:List (Nat×Nat×V)}(h:cX W w X k (.a7 D m gen a I)){c:T}(p:a[i]? =aa l)(r:l[n]? =aa c):
  ∃(b:Nat) (e:Array Value) (N:Nat->Prop) (x:Value),W k=aa (aa b,gen)/\w.heap[b]? =aa (.cells e (aU D m).ty (0,0))/\e[i*(aU D m).size+n]? =aa x/\Cell D m I W w X i n c x N:=by
 rcases h.2 with ⟨_,q,_⟩|⟨b,e,B,y,q,F,G,A,_⟩
 ·rw[q] at p;simp at p
 have C:i<a.length:=(bS.1 p).1;have L:n<(aU D m).size:=by
  grind
 have o:i*(aU D m).size+n<e.size:=by
  have:(i+1)*(aU D m).size<=a.length*(aU D m).size:=eh _ C
  grind
 exact⟨b,e,_,e[i*(aU D m).size+n],y,q,by simp[o],A i n l c _ p r (by simp[o])⟩
section oV
variable {P:Program}{H:Nat->Option E}{d:Option Tmp}{ty:TypeId}{pos:String}{af:Array Edge}{g:Option (Nat×Bool)}
variable {t:TypeId}{u:TypeDesc}{z:Value}{size bytes:Nat}
theorem Fb(x:Operand)(o gen i a:Nat)(n:List dB)(m:Nat)(B:Nat)(e:List (List T))(p:List (Nat×Nat×V))(l:List T)(c:T)(v:V)(L:ct P t u z size bytes)(Q:ll u=ak)(R:H o=aa (.a7 n m gen e p))(W:(aU n m).size=B)
  (Z:e[i]? =aa l) (f:l[a]? =aa c) (q:(i,a,v)∈p\/((∀v,(i,a,v)∉p)/\(aU n m).eV a=aj/\v= .t c)):
  cc P H ⟨d,.load t x,ty,pos,af,g⟩ [.cK o gen B i a] v:=by
 subst W;intro β w X ρ j D;obtain⟨b,us,N,y,I,M,C,F⟩:=aaj (j o _ R) Z f;obtain⟨jf,r,U⟩:=qO D.1 I;cases r;have hlt:=(kB.1 C).1;have k:w.cell? ⟨b,i*(aU n m).size+a,aj⟩=aa y:=by
  simp only[World.cell?,M];exact C
 refine⟨y,?_,?_⟩
 ·simp[execOp,U,Instr.loadAt,Instr.sureAddr,L.Ew w Q k]
 rcases q with q|⟨A,hk,rfl⟩
 ·exact(F.1 v q).1
 have G:=F.2 A;rw[hk] at G;cases G with|kS _ _ _ h _=>exact .t _ _ h
theorem L8(x:Operand)(r gen i a:Nat)(k:List dB)(m:Nat)(R:Nat)(e:List (List T))(W:List (Nat×Nat×V))(h:List T)(y:List V)(Z:ct P t u z size bytes)(f:ll u=ab)(D:H r=aa (.a7 k m gen e W))(I:(aU k m).size=R)
  (n:e[i]? =aa h) (cI:a+size<=h.length) (o:y.length=size) (M: ∀j v,y[j]? =aa v->(i,a+j,v)∈W):
  cc P H ⟨d,.load t x,ty,pos,af,g⟩ [.cK r gen R i a] (.agg y):=by
 subst I;intro β w X ρ N U;rcases(N r _ D).2 with ⟨_,A,_⟩|⟨b,C,B,h1,A,h3,h4,h5,_⟩
 ·rw[A] at n;simp at n
 obtain⟨jf,F,hx⟩:=qO U.1 h1;cases F;have hi:i<e.length:=(bS.1 n).1;have hrl:h.length=(aU k m).size:=h4 h (bx n);have p: ∀j,j<size->i*(aU k m).size+a+j<C.size:=by
  intro j q
  have:(i+1)*(aU k m).size<=e.length*(aU k m).size:=eh _ hi
  grind
 have l: ∀j,j<size->w.cell? ⟨b,i*(aU k m).size+a+j,aj⟩=aa (C.getD (i*(aU k m).size+a+j) undef):=λj q=>by
  have:=p j q;simp[World.cell?,A,this]
 refine⟨_,by simp[execOp,hx,Instr.loadAt,Instr.sureAddr,Z.Ex w f l];rfl,?_⟩;refine .agg _ _ (by simp[o]) λj c v G L=>?_;have q:j<size:=by
  grind
 simp only[List.getElem?_toArray,List.getElem?_map,List.getElem?_range q,hv,Option.some.injEq] at L;have Q:=bp (O:a+j<h.length)
 have:=p j q;have h6:=(h5 i (a+j) h _ C[i*(aU k m).size+a+j] n Q (by rw[<-q8];simp[this])).1 c (M j c G)
 grind
theorem Xu(x:Operand)(n gen o i c k a:Nat)(C:Array Field)(h:Field)(G:TypeDesc)(L:Value)(l p:Nat)(Q:P.underlying t=aa (.struct C))(R:C[k]? =aa h)(W:h.offset=a)(r:ct P h.type G L l p)(y:(l==0)=ak)
  (e:E) (Z:H n=aa e) (f:e.gen=aa gen):cc P H ⟨d,.fieldAddr t x k,ty,pos,af,g⟩ [.cK n gen o i c] (.cK n gen o i (c+a)):=by
 intro I w X M j v;obtain⟨A,q,F⟩:=pU (j n _ Z) f;obtain⟨b,B,D⟩:=qO v.1 F;subst B;have m:l≠0:=by simpa using y
 refine⟨.pointer (aa ⟨b,i*o+(c+a),aj⟩),?_,.cK _ _ _ _ _ _ A F⟩;simp[execOp,D,Instr.fieldAt,run_underlying Q,R,Instr.sureAddr,fieldPlace,r.run_sizeOf,m,kU,W,Nat.add_assoc]
theorem Xs(x y:Operand)(e:TypeId)(i gen a c n:Nat)(p:E)(B:H i=aa p)(C:p.gen=aa gen)(F:P.underlying t=aa (.slice e))(G:ct P e u z size bytes)(f:n<c):
  cc P H ⟨d,.indexAddr t x y,ty,pos,af,g⟩ [.bg i gen size a c,.t (.int .i64 (n:Nat))] (.cK i gen size (a+n) 0):=by
 intro j w X L Q k;have cY:=dP k.2.1;generalize r:L x=v at k;have h:=k.1;simp only[r] at h;obtain⟨l,q,A⟩:=pU (Q i _ B) C;rcases d4 h A with ⟨R,b,m,W,rfl,o,D,I,Z,M,N⟩|⟨_,_,T,_⟩
 ·subst o;refine⟨.pointer (aa ⟨b,(a+n)*size+0,aj⟩),?_,.cK _ _ _ _ _ b l A⟩;simp[execOp,r,cY,Instr.indexAt,asIntOf,run_underlying F,G.run_sizeOf,kU,Nat.add_mul]
  grind
 omega
theorem YY(x:Operand)(e:TypeId)(l gen h i c:Nat)(p:P.underlying t=aa (.slice e))(n:E)(r:H l=aa n)(y:n.gen=aa gen):cc P H ⟨d,.call {callee:= .builtin .len,args:= #[x],argTypes:= #[t]},ty,pos,af,g⟩ [.bg l gen h i c] (.t (.int .i64 (c:Nat))):=by
 intro A w X o B C;obtain⟨a,cap,k⟩: ∃a cap,o x= .slice a c cap:=by
  have F:bq A w X (.bg l gen h i c) (o x):=C.1;obtain⟨_,q,G⟩:=pU (B l _ r) y;rcases d4 F G with ⟨cap,b,m,L,k,_⟩|⟨_,_,Q,k⟩
  ·exact⟨_,_,k⟩
  exact⟨aj,0,by rw[Q];exact k⟩
 refine⟨.int .i64 (c:Nat),?_,.t _ _ (.int _ _)⟩;simp[execOp,resolve,invoke,builtin,k,Builtin.len_,run_underlying p,goInt]
end oV
section ops
variable {K:Ctx}{s:S}{d:Option Tmp}{ty:TypeId}{pos:String}{af:Array Edge}{g:Option (Nat×Bool)}
variable {t:TypeId}{u:TypeDesc}{z:Value}{gen size bytes:Nat}
theorem abi(k v D I:Nat)(x y:Operand)(e:TypeId)(r A:List dB)(m M:Nat)(h c:List (List T))(l:List (Nat×Nat×V))(N: ∀i,d=aa i->dt i K.nt=ab)(U:s.get x= .bg k gen size 0 h.length)(hy:s.get y= .bg v D size 0 I)(hk:s.H k=aa (.a7 r m gen h []))(L:s.H v=aa (.a7 A M D c l))
  (R:aU A M=aU r m) (W:I=c.length) (hu:K.P.underlying t=aa (.slice e)) (he:ct K.P e u z size bytes) (X:b5 z.cells.size size=ab) (Z:(aU r m).size=size) (oq:(aU r m).ty=e) (hs: ∀n,n∈h->n.length=size) (b: ∀n,n∈c->n.length=size)
  (o:0<c.length) (p:sO (aU r m) c.length l=ab) (fc:u9 l=ab) (bb:(h.length+c.length)*bytes<=140737488355328) (hm:h.length+c.length<=9223372036854775807):
  ej K ⟨d,.call {callee:= .builtin .append,args:= #[x,y],argTypes:= #[t,t]},ty,pos,af,g⟩ s
   (({s with H:=a8 s.H k (aa (.a7 r m (gen+1) (h++c) (jb h.length l)))}:S).put d (.bg k (gen+1) size 0 (h.length+c.length))):=by
 intro β a w next Q G f
 have B:=G.get x;rw[U] at B;have C:=G.get y;rw[hy] at C;have q:=Bk.of G L W (by rw[R,Z];exact C) o fc (by rw[R];exact p);rw[R,Z] at q;obtain⟨ef,w',j,h1,h2,h4⟩:=G.I8 k r m h c l hk Z oq ty hu he (de X) hs b _ _ B q o p bb (by unfold maxLen;omega);unfold Oper.wp;have F:(execOp a.eval ⟨d,.call {callee:= .builtin .append,args:= #[x,y],argTypes:= #[t,t]},ty,pos,af,g⟩).run K.P w= .ok (.value ef) w':=by
  simp[execOp,resolve,invoke,builtin,h1]
 rw[F];exact f j _ w' (h2.put d N h4)
theorem Ct{R:Type}(f:Nat->R)(k:Nat)(a b:R):a8 (a8 f k a) k b=a8 f k b:=by funext i;unfold a8;cases b5 i k<;>rfl
theorem G4(s:S)(d:Option Tmp)(v:V):(s.put d v).H=s.H:=by cases d<;>rfl
theorem NJ(s:S)(d:Option Tmp)(v:V)(F:Nat->Option E):({s.put d v with H:=F}:S)=({s with H:=F}:S).put d v:=by cases d<;>rfl
theorem NK{K:Ctx}{s:S}(k:Nat){Γ:List dB}{gen:Nat}(o:s.H k=aa (.a7 Γ m gen c []))(C:(aU Γ m).bk=[]):
  s.le K {s with H:=a8 s.H k (aa (.arr (aU Γ m).ty gen (aU Γ m).size c))}:=by
 intro r a w h;refine⟨_,h.drop k (.arr (aU Γ m).ty gen (aU Γ m).size c) (by rw[o];simp) ?_⟩;have e:=(h.heap k _ o).2;refine⟨e.1,?_⟩;have l: ∀b,own K (r.drop k) (a8 s.H k (aa (.arr (aU Γ m).ty gen (aU Γ m).size c))) b->own K r s.H b:=by
  rintro b (F|⟨id,y,G⟩)
  ·exact .inl F
  refine .inr ⟨id,λp=>?_,oF G⟩;by_cases A:id=k
  ·subst A;rw[o] at p;cases p
  rw[cb _ _ _ _ A] at y;exact y p
 rcases e.2 with ⟨aN,a2,_⟩|⟨b,L,B,aN,a2,a3,a4,a5,_⟩
 ·exact .inl ⟨aN,a2⟩
 refine .inr ⟨b,L,aN,a2,a3,a4,λi j q x u Q R W=>?_⟩;have n:=(a5 i j q x u Q R W).none;rw[show(aU Γ m).eV j=aj by unfold dB.eV;rw[C];rfl] at n;cases n with
 |kS _ _ _ n _=>exact n.mono (Ext.refl _ _) λb _=>l b
theorem ace(k:Nat)(x y:Operand)(e:TypeId)(c l:List (List T))(cD: ∀i,d=aa i->dt i K.nt=ab)(hx:s.get x= .bg k gen size 0 c.length)(hy:dN (s.get y) (.t (.bE l)))(hk:s.H k=aa (.arr e gen size c))
  (hu:K.P.underlying t=aa (.slice e)) (he:ct K.P e u z size bytes) (rN:b5 z.cells.size size=ab) (hp:dt 0 size=ab) (hs:Rows size c) (C:Rows size l)
  (bb:(c.length+l.length)*bytes<=140737488355328) (hm:c.length+l.length<=9223372036854775807):
  ej K ⟨d,.call {callee:= .builtin .append,args:= #[x,y],argTypes:= #[t,t]},ty,pos,af,g⟩ s
   (({s with H:=a8 s.H k (aa (.arr e (gen+1) size (c++l)))}:S).put d (.bg k (gen+1) size 0 (c.length+l.length))):=by
 intro β a w next Q R hkk
 suffices H: ∃W w',(Builtin.append_ #[t,t] ty #[a.eval x,a.eval y]).run K.P w= .ok W w'/\ ∃o,Rel K o (({s with H:=a8 s.H k (aa (.arr e (gen+1) size (c++l)))}:S).put d (.bg k (gen+1) size 0 (c.length+l.length))) (a.put d W) w' by
  obtain⟨W,w',X,o,h2⟩:=H;unfold Oper.wp;have Z:(execOp a.eval ⟨d,.call {callee:= .builtin .append,args:= #[x,y],argTypes:= #[t,t]},ty,pos,af,g⟩).run K.P w= .ok (.value W) w':=by
   simp[execOp,resolve,invoke,builtin,X]
  rw[Z];exact hkk o _ w' h2
 have f:0<size:=by simpa[Nat.blt_eq] using hp
 by_cases cY:l=[]
 ·subst cY;have p:=R.get x;rw[hx] at p;obtain⟨kq,q,D⟩:=pU (R.heap k _ hk).2 rfl;obtain⟨_,i,I,hi2,qm,vQ⟩:=id he;obtain⟨M,cap,air⟩: ∃M cap,a.eval y= .slice M 0 cap:=by
   rcases Bv (hy _ _ _ _ (R.get y)) C f with (⟨h,_⟩|⟨b,N,cap,us,h,_⟩)|⟨_,M,cap,h⟩
   ·exact⟨_,_,h⟩
   ·exact⟨_,_,h⟩
   exact⟨_,_,h⟩
  have vO:=R.Ja k (.arr e gen size c) (.arr e (gen+1) size c) gen q D kq hk (λo iM X _ _ h4=>⟨O,by
   rcases(R.heap k _ hk).2.2 with ⟨F,U⟩|⟨b,us,F,U,eE,fy,hU⟩
   ·rw[D] at F;cases F;exact .inl ⟨X,U⟩
   rw[D] at F;cases F;exact .inr ⟨b,us,X,U,eE,fy,λi j G x u d1 d2 d3=>(hU i j G x u d1 d2 d3).mono (Ext.refl _ _) λb _=>h4 b⟩⟩)
  refine⟨a.eval x,w,?_,β.put k (aa (q,gen+1)),?_⟩
  ·rw[air];rcases d4 p D with ⟨B,b,n,V,r,A,hw,iw,qs,cI,qq⟩|⟨A,_,_,r⟩<;>rw[r]
   ·cases M<;>simp[Builtin.append_,run_underlying hu,sizeOf,typeInfo,I,Builtin.lenOf,Builtin.firstCells,cI,storeCells,loadCells,loadCellsFrom]
   cases M<;>simp[Builtin.append_,run_underlying hu,sizeOf,typeInfo,I,Builtin.lenOf,Builtin.firstCells,loadCells,loadCellsFrom]
  rw[ke];refine vO.put d cD ?_;simp only[List.length_nil,Nat.add_zero];rcases d4 p D with ⟨B,b,n,V,r,A,hw,iw,qs,cI,qq⟩|⟨A,_,JL,r⟩<;>rw[r]<;>subst A
  ·exact .bg k (gen+1) size 0 _ B b n V O (kp _ _ _) hw iw qs cI qq
  rw[JL];exact .iT k (gen+1) size O (kp _ _ _)
 obtain⟨xm,L⟩:=G5 k [⟨e,size,[]⟩] 0 hk rfl rfl (.inr rfl) β a w R;have p:bq xm w _ (s.get x) _:=L.get x;rw[hx] at p;have ny:=hy _ _ _ _ (L.get y);rcases Bv ny C f with (⟨_,h⟩|⟨b,N,cap,us,X,h2,h3,h4,h5⟩)|⟨h,_⟩
 ·exact bB h cY
 ·obtain⟨W,w',o,e1,e2,nu⟩:=L.I8 k [⟨e,size,[]⟩] 0 c l [] (cd _ _ _) rfl rfl ty hu he (de rN) hs C _ _ p ⟨b,N,cap,us,X,h2,h3,h4,λi j G x y F U eE=>⟨λv bW=>by(cases bW),λ_=>h5 i j G x y F U eE⟩⟩ (List.length_pos_iff.2 cY) (by simp[sO,aU]) bb (by unfold maxLen;omega);obtain⟨Um,lW⟩:=NK (Γ:=[⟨e,size,[]⟩]) (m:=0) k (by rw[G4];exact cd _ _ _) rfl o _ _ (e2.put d cD nu);rw[G4] at lW;refine⟨W,w',e1,Um,?_⟩;rw[NJ,Ct,Ct] at lW;exact lW
 exact bB h cY
theorem LL(x y:Operand)(id i off:Nat)(k:List dB)(m:Nat)(o:List (List T))(L:List T)(v:V)(hs:List (Nat×Nat×V))(hx:s.get x= .cK id gen size i off)(bW:s.get y=v)(yY:v.val=ab)(qu:oR v.cs=ab)
  (hH:s.H id=aa (.a7 k m gen o hs)) (fr:(aU k m).size=size) {l:Nat} (gJ:ct K.P t u z l bytes) (aii:v.cs.length=l) (SO:0<l) (R:o[i]? =aa L) (cI:off+l<=L.length)
  {W:List (Nat×Nat×V)} (rI: ∀n eH ef,(n,eH,ef)∈W-> ∃G,(n,eH,G)∈hs/\((n=i/\off<=eH/\eH<off+l)->v.cs[eH-off]? =aa ef)/\(¬(n=i/\off<=eH/\eH<off+l)->ef=G)) (gm: ∀n eH G,(n,eH,G)∈hs-> ∃v1,(n,eH,v1)∈W) (hi2: ∀j,j<l-> ∃G,(i,off+j,G)∈hs):
  ej K ⟨aj,.store t x y,ty,pos,af,g⟩ s {s with H:=a8 s.H id (aa (.a7 k m gen o W))}:=by
 subst fr;intro β a w next Q b8 hk
 have S4:=b8.get x;rw[hx] at S4;have j4:=(b8.heap id _ hH).2;rcases j4.2 with ⟨_,h2,_⟩|⟨b,p,B,h1,h2,h3,h4,h5,h6,pe,qj⟩
 ·rw[h2] at R;simp at R
 obtain⟨jf,lA,tL⟩:=qO S4 h1;cases lA;have hi:=(bS.1 R).1;have hrl:L.length=(aU k m).size:=h4 L (bx R);have JG:i*(aU k m).size+off+l<=p.size:=by
  have:(i+1)*(aU k m).size<=o.length*(aU k m).size:=eh _ hi;rw[eu] at this;omega
 have ny:=b8.get y;rw[bW] at ny;obtain⟨c1,c2⟩:=ny.cells yY;have X:(a.eval y).cells.size=l:=c1.trans aii;have D: ∀e∈(a.eval y).cells.toList,e.oneCell'=ab:=by
  intro e he;obtain⟨j,hj⟩:=jQ.1 he;have hj':(a.eval y).cells[j]? =aa e:=by simpa using hj
  have hlt:=(kB.1 hj').1;have bT:=bp (O:j<v.cs.length);exact(c2 j _ e bT hj').j7 (Gf qu bT)
 unfold Oper.wp;have JS:=FC gJ w b (i*(aU k m).size+off) p _ (a.eval y) h2 X O D;have I:(execOp a.eval ⟨aj,.store t x y,ty,pos,af,g⟩).run K.P w= .ok .skip (w.setRow b (p.toList.take (i*(aU k m).size+off)++(a.eval y).cells.toList++p.toList.drop (i*(aU k m).size+off+(a.eval y).cells.toList.length)).toArray):=by
  simp only[execOp,tL,Instr.storeAt,Instr.sureAddr,fx,kF,fu,JS]
 rw[I];have hlen:(p.toList.take (i*(aU k m).size+off)++(a.eval y).cells.toList++p.toList.drop (i*(aU k m).size+off+(a.eval y).cells.toList.length)).length=p.size:=by
  simp[X];omega
 have M:own K β s.H b:= .inr ⟨id,by rw[hH];simp,.inl ⟨_,h1⟩⟩;generalize N:(p.toList.take (i*(aU k m).size+off)++(a.eval y).cells.toList++p.toList.drop (i*(aU k m).size+off+(a.eval y).cells.toList.length)).toArray=q at*;have r:q.size=p.size:=by rw[<-N];simpa using hlen
 have Z:Ext (own K β s.H) w (w.setRow b q):=⟨rfl,rfl,rfl,aX,λkk _ hx=>setRow_other _ _ _ _ λe0=>hx (e0▸M)⟩
 have f:Shaped β w (w.setRow b q):=λjf _=>F7 h2 r jf;refine hk β _ _ (Rel.setRow b8 id b (.inl ⟨_,h1⟩) p _ h2 q r (.a7 k m gen o W) (by rw[hH];simp) ?_);refine⟨j4.1,.inr ⟨b,q,B,h1,setRow_heap _ _ _ _ _ _ h2,by rw[r];exact h3,h4,λn eH A kD sq aN a2 a3=>?_,h6,pe,qj⟩⟩;have hjs:eH<(aU k m).size:=by rw[<-h4 A (bx aN)];exact(bS.1 a2).1
 by_cases U:n=i/\off<=eH/\eH<off+l
 ·obtain⟨rfl,ahz,ahA⟩:=U;obtain⟨G,JM⟩:=hi2 (eH-off) O;rw[show off+(eH-off)=eH by omega] at JM;have C:=h5 n eH A kD p[n*(aU k m).size+eH] aN a2 (by rw[iY O]);obtain⟨v1,qp⟩:=gm _ _ _ JM;refine⟨λef F=>⟨?_,(C.1 G JM).2⟩,λmJ=>bB qp (mJ v1)⟩;obtain⟨_,_,q2,_⟩:=rI _ _ _ F;have ahg:=q2 ⟨rfl,ahz,ahA⟩
  have:(a.eval y).cells[eH-off]? =aa sq:=by
   rw[<-N] at a3;simp only[List.getElem?_toArray] at a3;rw[jq (by simp[X];omega),iE bQ] at a3;have nu:n*(aU k m).size+eH-(p.toList.take (n*(aU k m).size+off)).length=eH-off:=by
    rw[cZ,rb];omega
   rw[nu] at a3;simpa using a3
  exact(c2 _ _ sq ahg this).mono Z (λ_ _ h=>h) (ed.refl _) f
 have hne:n*(aU k m).size+eH<i*(aU k m).size+off\/i*(aU k m).size+off+l<=n*(aU k m).size+eH:=by
  rcases Nat.lt_trichotomy n i with h|h|h
  ·have:=eh (aU k m).size (O:n+1<=i);rw[eu] at this;omega
  ·subst h
   have: ¬(off<=eH/\eH<off+l):=λh=>U ⟨rfl,h⟩;omega
  have:=eh (aU k m).size (O:i+1<=n);rw[eu] at this;omega
 have C:p[n*(aU k m).size+eH]? =aa sq:=by
  rw[<-N] at a3;simp only[List.getElem?_toArray,List.getElem?_append,List.length_append,List.length_take,List.getElem?_take,List.getElem?_drop,Array.length_toList,X] at a3;rw[show min (i*(aU k m).size+off) p.size=i*(aU k m).size+off by omega] at a3;rcases hne with hlt|kr
  ·rw[aR O,aR O,aR O] at a3;simpa using a3
  rw[aP O] at a3;rw[show i*(aU k m).size+off+l+(n*(aU k m).size+eH-(i*(aU k m).size+off+l))=n*(aU k m).size+eH by omega] at a3;simpa using a3
 have tC:=h5 n eH A kD sq aN a2 C;have hc1:=tC.mono (β':=β) Z (λ_ _ h=>h) (ed.refl _) f λc bT=>setRow_other _ _ _ _ (h6 _ _ _ bT).2.2;refine⟨λef F=>?_,λmJ=>hc1.2 λef F=>?_⟩
 ·obtain⟨G,oG,_,ui⟩:=rI _ _ _ F;rw[ui U];exact hc1.1 G oG
 obtain⟨v1,qp⟩:=gm _ _ _ F;exact mJ v1 qp
theorem Xj(x y:Operand)(A i a:Nat)(B:List dB)(m:Nat)(c:List (List T))(k:List T)(v:V)(o:List (Nat×Nat×V))(Z:s.get x= .cK A gen size i a)(b:s.get y=v)(p:v.val=ab)(q:oR v.cs=ab)
  (f:s.H A=aa (.a7 B m gen c o)) (D:(aU B m).size=size) {e:Nat} (I:ct K.P t u z e bytes) (F:v.cs.length=e) (r:0<e) (G:c[i]? =aa k) (M:a+e<=k.length)
  (L: ∀w l n,(w,l,n)∈o->a<=l->l<a+e->w=i) (Q: ∀j,j<e-> ∃n,(i,a+j,n)∈o):
  ej K ⟨aj,.store t x y,ty,pos,af,g⟩ s {s with H:=a8 s.H A (aa (.a7 B m gen c (vk a v.cs o)))}:=by refine LL x y A i a B m c k v o Z b p q f D I F r G M (λw l ef R=>?_) (λw l n R=>Hn R) Q;obtain⟨n,W,N,U⟩:=GG R;refine⟨n,W,λ⟨_,C,h2⟩=>?_,λh=>U λ⟨C,h2⟩=>h ⟨L w l n W C O,C,O⟩⟩;have X:=bp (O:l-a<v.cs.length);rw[X,N C _ X]
end ops
def E.gen?:E->Option Nat
 | .cells _=>aj
 | .arr _ gen _ _=>aa gen
 | .a7 _ _ gen _ _=>aa gen
theorem Ce{g:Nat}{e:E}(c:e.gen? =aa g)(h:cX W w X i e):1<=g/\ ∃q,W i=aa (q,g):=by
 cases e with
 |cells cs=>cases c
 |arr ty gen size a=>cases c;exact⟨h.1,l8 h⟩
 |a7 k m gen a l=>cases c;exact⟨h.1,uY h⟩
section oV
variable {P:Program}{H:Nat->Option E}{d:Option Tmp}{ty:TypeId}{pos:String}{af:Array Edge}{g:Option (Nat×Bool)}
variable {t:TypeId}{u:TypeDesc}{z:Value}{size bytes:Nat}
def rB(c:Nat)(h i:Option Operand)(e:Operand->Value)(a b:Nat):Prop:=
 (match h with|some x=>e x= .int .i64 (a:Nat)|none=>a=0)/\(match i with|some x=>e x= .int .i64 (b:Nat)|none=>b=c)
theorem Cz{P:Program}{len a:Nat}{k e:Option Operand}{c:Operand->Value}(h:rB len k e c a b)(n:a<=b)(o:b<=i)(w:World):(Instr.sliceBounds ab len i (k.map c) (e.map c) aj).run P w= .ok (a,b,i) w:=by
 obtain⟨m,l⟩:=h;cases k with
 |none=>
  have m:a=0:=m;subst m;cases e with
  |none=>
   have l:b=len:=l;subst l;simp[Instr.sliceBounds]
  |some y=>
   have l:c y=_:=l;simp[Instr.sliceBounds,l,km w b i _ o]
 |some x=>
  have m:c x=_:=m;cases e with
  |none=>
   have l:b=len:=l;subst l;simp[Instr.sliceBounds,m,km w a b _ n]
  |some y=>
   have l:c y=_:=l;simp[Instr.sliceBounds,m,l,km w b i _ o,km w a b _ n]
theorem aeT(x:Operand)(r y:Option Operand)(e:TypeId)(m gen h c a b:Nat)(R:E)(v:H m=aa R)(D:R.gen? =aa gen)(W:P.underlying t=aa (.slice e))(Z:ct P e u z size bytes)
  (I:a<=b) (h2:b<=c) (h3:a=0\/a<c) {i:List V} (M: ∀A w X (k:Operand->Value),dH A w X i (r.toList.map k++y.toList.map k)->rB c r y k a b):
  cc P H ⟨d,.slice t x r y aj,ty,pos,af,g⟩ (.bg m gen size h c::i) (.bg m gen size (h+a) (b-a)):=by
 intro A w X k N F;obtain⟨B,q,G⟩:=Ce D (N m _ v);have F:dH A w X (.bg m gen size h c::i) (k x::(r.toList.map k++y.toList.map k)):=by
  cases r<;>cases y<;>simpa[Op.operands] using F
 have C:rB c r y k a b:=M A w X k F.2;have T:bq A w X (.bg m gen size h c) (k x):=F.1;rcases d4 T G with ⟨l,f,n,L,o,p,U,hs,cY,cI,hm⟩|⟨p,h0,Q,o⟩
 ·subst p;refine⟨.slice (aa ⟨f,(h+a)*size,aj⟩) (b-a) (l-a),?_,.bg m gen size (h+a) (b-a) (l-a) f n L B G U hs (by rw[<-cY];congr 1;omega) O O⟩;simp only[execOp,fx,Instr.sliceAt,Instr.slice,run_underlying W,fu,o,Option.map_none,hv,Cz C I (O:b<=l),Z.run_sizeOf,kF];by_cases j:l=a
  ·rw[aR j]
   grind
  rw[aP j];simp[kU,Nat.add_mul]
 subst p;subst h0;subst Q;have e1:b=0:=O
 have e2:a=0:=O
 subst e1;subst e2;refine⟨.slice aj 0 0,?_,.iT m gen size B G⟩;simp only[execOp,fx,Instr.sliceAt,Instr.slice,run_underlying W,fu,o,Option.map_none,Cz C (Nat.le_refl _) (Nat.le_refl 0),Z.run_sizeOf,kF];simp
theorem adK(x:Operand)(p q:Option Operand)(e D:TypeId)(m gen c h a b:Nat)(l:List (List T))(I:H m=aa (.arr D gen size l))(M:P.underlying t=aa (.slice e))(N:ct P e u z size bytes)
  (U:0<size) (h1:a<b) (Z:c+b<=l.length) {i:List V} (bb: ∀r w X (k:Operand->Value),dH r w X i (p.toList.map k++q.toList.map k)->rB h p q k a b):
  cc P H ⟨d,.slice t x p q aj,ty,pos,af,g⟩ (.bg m gen size c h::i) (.bg m gen size (c+a) (b-a)):=by
 intro r w X k ly C;have y:=ly m _ I;have F:=y.1;have C:dH r w X (.bg m gen size c h::i) (k x::(p.toList.map k++q.toList.map k)):=by
  cases p<;>cases q<;>simpa[Op.operands] using C
 have G:rB h p q k a b:=bb r w X k C.2;have hx:bq r w X (.bg m gen size c h) (k x):=C.1;rcases y.2 with ⟨L,Q⟩|⟨f,us,L,g2,g3,g4,g5⟩
 ·subst Q;simp at Z;omega
 rcases d4 hx L with ⟨cap,jf,n,R,W,o,hw,j,v,cI,hm⟩|⟨o,_⟩
 ·cases o;have A:us.size=n:=by
   unfold hz at j
   grind
  have B:b<=cap:=by
   have h3:(c+b)*size<=(c+cap)*size:=by
    rw[v,<-A];exact iF (eh _ Z) g3
   have:=Nat.le_of_mul_le_mul_right h3 U;omega
  refine⟨.slice (aa ⟨f,(c+a)*size,aj⟩) (b-a) (cap-a),?_,.bg m gen size (c+a) (b-a) (cap-a) f n R F L hw j (by rw[<-v];congr 1;omega) O O⟩;simp only[execOp,fx,Instr.sliceAt,Instr.slice,run_underlying M,fu,W,Option.map_none,hv,Cz G (O:a<=b) B,N.run_sizeOf,kF];rw[aP (show¬cap=a by omega)];simp[kU,Nat.add_mul]
 cases o
theorem adL(x:Operand)(o p:Option Operand)(e:TypeId)(r gen h m c a:Nat)(L:E)(R:H r=aa L)(W:L.gen? =aa gen)(Z:P.underlying t=aa (.slice e))(b:ct P e u z size bytes)
  (T:a<=c) {i:List V} (f: ∀y w X (k:Operand->Value),dH y w X i (o.toList.map k++p.toList.map k)->rB c o p k a a):
  cc P H ⟨d,.slice t x o p aj,ty,pos,af,g⟩ (.bg r gen h m c::i) (.t (.bE [])):=by
 intro y w X k j A;obtain⟨v,q,D⟩:=Ce W (j r _ R);have A:dH y w X (.bg r gen h m c::i) (k x::(o.toList.map k++p.toList.map k)):=by
  cases o<;>cases p<;>simpa[Op.operands] using A
 have C:rB c o p k a a:=f y w X k A.2;have I:bq y w X (.bg r gen h m c) (k x):=A.1;obtain⟨B,cap,l,Q⟩: ∃B cap,k x= .slice B c cap/\c<=cap:=by
  rcases d4 I D with ⟨cap,U,n,M,l,F,hw,hs,cY,N,hm⟩|⟨F,h0,G,l⟩
  ·exact⟨_,cap,l,N⟩
  exact⟨aj,0,by rw[G];exact l,O⟩
 refine⟨.slice (if cap=a then B else B.map (·.add (a*size))) (a-a) (cap-a),?_,.t _ _ (by rw[kC];exact .gX _ _)⟩;simp only[execOp,fx,Instr.sliceAt,Instr.slice,run_underlying Z,fu,l,Option.map_none,Cz C (Nat.le_refl _) (O:a<=cap),b.run_sizeOf,kF]
theorem X9(x:Operand)(e gen a i c:Nat)(h:E)(m:H e=aa h)(n:h.gen? =aa gen):cc P H ⟨d,.nilCheck x,ty,pos,af,g⟩ [.cK e gen a i c] (.cK e gen a i c):=by intro o w X k p r;obtain⟨y,q,A⟩:=Ce n (p e _ m);have l:bq o w X (.cK e gen a i c) (k x):=r.1;obtain⟨b,_,B⟩:=qO l A;exact⟨k x,by simp[execOp,B],l⟩
theorem abN(x C F G:Operand)(e:TypeId)(o gen h l i a b c:Nat)(L:E)(W:H o=aa L)(Z:L.gen? =aa gen)(f:P.underlying t=aa (.slice e))(j:ct P e u z size bytes)
  (v:a<=b) (D:b<=c) (h3:c<=i):cc P H ⟨d,.slice t x (aa C) (aa F) (aa G),ty,pos,af,g⟩ [.bg o gen h l i,.t (.int .i64 (a:Nat)),.t (.int .i64 (b:Nat)),.t (.int .i64 (c:Nat))] .dh:=by
 intro I w X m M p;obtain⟨N,q,T⟩:=Ce Z (M o _ W);have U:bq I w X (.bg o gen h l i) (m x):=p.1;have y:m C=_:=dP p.2.1;have V:m F=_:=dP p.2.2.1;have Q:m G=_:=dP p.2.2.2.1;obtain⟨r,cap,k,R⟩: ∃r cap,m x= .slice r i cap/\i<=cap:=by
  rcases d4 U T with ⟨cap,jf,n,lH,k,A,hw,hs,cY,y,Q⟩|⟨A,h0,B,k⟩
  ·exact⟨_,cap,k,y⟩
  exact⟨aj,0,by rw[B];exact k,O⟩
 refine⟨.slice (if c=a then r else r.map (·.add (a*size))) (b-a) (c-a),?_,.dh _⟩;simp[execOp,k,y,V,Q,Instr.sliceAt,Instr.slice,run_underlying f,Instr.sliceBounds,km w c cap _ O,km w b c _ D,km w a b _ v,j.run_sizeOf]
end oV
section steps
variable {K:Ctx}{s:S}{d:Option Tmp}{ty:TypeId}{pos:String}{af:Array Edge}{g:Option (Nat×Bool)}
variable {t:TypeId}{u:TypeDesc}{z:Value}{size bytes gen:Nat}
theorem PN{F:Map}(W:Rel K F s a w)(q b:Nat)(e:TypeId)(o c:List (List T))(r n:Array Value)(L:s.H q=aa (.arr e gen size o))(y:F q=aa (aa b,gen))(p:w.heap[b]? =aa (.cells r e (0,0)))
  (Q:n.size=r.size) (Z:c.length*size<=r.size) (A: ∀l,l∈c->l.length=size)
  (bT: ∀(i j:Nat) (l:List T) (x:T) (u:Value),c[i]? =aa l->l[j]? =aa x->n[i*size+j]? =aa u->(∃(G:Nat) (m:List T),o[G]? =aa m/\m[j]? =aa x/\r[G*size+j]? =aa u)\/(∀w X,df w X x u)):
  Rel K F {s with H:=a8 s.H q (aa (.arr e gen size c))} a (w.setRow b n):=by
 refine Rel.setRow W q b (.inl ⟨_,y⟩) r e p n Q (.arr e gen size c) (by rw[L];simp) ?_;have R:own K F s.H b:= .inr ⟨q,by rw[L];simp,.inl ⟨_,y⟩⟩;have B:=(W.heap q _ L).2;refine⟨B.1,.inr ⟨b,n,y,setRow_heap _ _ _ _ _ _ p,O,A,λi j l x u aN a2 a3=>?_⟩⟩;rcases bT i j l x u aN a2 a3 with ⟨G,m,v,D,I⟩|bT
 ·rcases B.2 with ⟨C,_⟩|⟨cS,M,C,f,h3,h4,N⟩
  ·rw[y] at C;cases C
  rw[y] at C;cases C;rw[p] at f;cases f;exact(N G j m x u v D I).mono ⟨rfl,rfl,rfl,aX,λk _ U=>setRow_other _ _ _ _ λV=>U (V▸R)⟩ λ_ _ h=>h
 exact bT _ _
theorem Rel.zN(k:Rel K β s a w)(c:Nat)(e:E)(l:s.H c=aa e):Rel K β {s with H:=a8 s.H c (aa e)} a w:=by
 have:a8 s.H c (aa e)=s.H:=by
  funext i;by_cases h:i=c
  ·subst h;rw[cd,l]
  rw[cb _ _ _ _ h]
 rw[this];exact k
end steps
end
section
def dw{k:Type}(f:Nat->k):List (Nat×k)->Nat->k
 | []=>f
 |(d,v)::r=>dw (a8 f d v) r
theorem nB{k:Type}: ∀(l:List (Nat×k)) (f:Nat->k) (r:Nat),(∀v,(r,v)∉l)->dw f l r=f r
 | [],_,_,_=>rfl
 |(d,v)::l,f,r,h=>by rw[dw,nB l _ r λa c=>h a (eo _ c),cb _ _ _ _ (by intro e;subst e;exact h v (eD ..))]
theorem Cu{k:Type}: ∀(l:List (Nat×k)) (f g:Nat->k) (r:Nat),(∃v,(r,v)∈l)->dw f l r=dw g l r
 | [],_,_,_,⟨v,h⟩=>by simp at h
 |(d,v)::l,f,g,r,h=>by
  simp only[dw];by_cases c: ∃a,(r,a)∈l
  ·exact Cu l _ _ r c
  have i:r=d:=by
   obtain⟨a,bW⟩:=h;rcases ez.1 bW with e|bW
   ·cases e;rfl
   exact bB ⟨a,bW⟩ c
  subst i;rw[nB l _ r λa bW=>c ⟨a,bW⟩,nB l _ r λa bW=>c ⟨a,bW⟩,cd,cd]
structure c8 where
 gb:List (Nat×V)
 hs:List (Nat×Option E):=[]
 us:List (Nat×Bool):=[]
def c8.app(e:c8)(s:S):S:={t:=dw s.t e.gb,H:=dw s.H e.hs,u:=dw s.u e.us}
structure hA where
 gb:List Nat
 qE:List Nat:=[]
def hA.same(r:hA)(s a:S):Prop:=(∀i,i∈r.gb->s.t i=a.t i)/\ ∀k,k∈r.qE->s.H k=a.H k/\s.u k=a.u k
def je(K:Ctx)(ops:Array Oper)(o:Oper)(s h:S):Prop:=
 ∀i a w next Q,Rel K i s a w->(∀c d e,Rel K c h d e->next d e)->
  if Region.wanted o (yielded ops a.tmps) then o.wp K.P a w next Q\/(o.asks K.P a w/\LetsOut Q) else next (a.put o.dst undef) w
variable {K:Ctx}{ops:Array Oper}{o:Oper}{s:S}{j t:Nat}{want:Bool}
theorem je.of{b:S}(c:o.guard=aj)(h:ej K o s b):je K ops o s b:=by
 intro β a w next Q d e
 rw[aR (by simp[Region.wanted,c])];exact .inl (h β a w next Q d e)
theorem je.hM{s':S}(d:o.guard=aa (j,want))(e:(ops[j]?).bind (·.dst)=aa t)(i:s.t t= .t (.bool want))(h:ej K o s s'):je K ops o s s':=by
 intro β a w next Q c k
 have l:yielded ops a.tmps j=aa want:=by unfold yielded;rw[e];simp[c.bool i]
 rw[aR (by simp[Region.wanted,d,l])];exact .inl (h β a w next Q c k)
theorem je.out(d:o.guard=aa (j,want))(e:(ops[j]?).bind (·.dst)=aa t)(h:s.t t= .t (.bool (!want)))(k: ∀i,o.dst=aa i->dt i K.nt=ab):je K ops o s (s.put o.dst (.bM [])):=by
 intro l a w next Q c m
 have n:yielded ops a.tmps j=aa (!want):=by unfold yielded;rw[e];simp[c.bool h]
 rw[aP (by simp[Region.wanted,d,n])];exact m l _ w (c.put o.dst k OT)
theorem je.skip(d:o.guard=aa (j,want))(e:(ops[j]?).bind (·.dst)=aa t)(h:s.t t= .bM [])(k: ∀i,o.dst=aa i->dt i K.nt=ab):je K ops o s (s.put o.dst (.bM [])):=by
 intro l a w next Q c m
 have hw:=c.ake (ops:=ops) (want:=want) e h;rw[aP (by simp[Region.wanted,d,hw])];exact m l _ w (c.put o.dst k OT)
def hQ{k:Type}:List (List (Nat×k))->Nat->(Nat->Bool)->(Nat->k)->Nat->k
 | [],_,_,f=>f
 |l::ls,i,L,f=>hQ ls (i+1) L (bif L i then dw f l else f)
theorem Ay{k:Type}: ∀(ls:List (List (Nat×k))) (i:Nat) (L a:Nat->Bool) (f c:Nat->k) (r:Nat),f r=c r->(∀j l,ls[j]? =aa l->(∃v,(r,v)∈l)->L (i+j)=a (i+j))->hQ ls i L f r=hQ ls i a c r
 | [],_,_,_,_,_,_,h,_=>h
 |l::ls,i,L,a,f,c,r,h,m=>by
  simp only[hQ];refine Ay ls (i+1) L a _ _ r ?_ λj n o d=>by have:=m (j+1) n o d;rwa [show i+(j+1)=i+1+j by omega] at this
  by_cases e: ∃v,(r,v)∈l
  ·have:=m 0 l rfl e;rw[sw] at this;rw[<-this];cases L i with
   |true=>exact Cu l _ _ r e
   |false=>exact h
  have p: ∀g:Nat->k,dw g l r=g r:=λg=>nB l g r λv d=>e ⟨v,d⟩;cases L i<;>cases a i<;>simp only[cond_true,cond_false,p]<;>exact h
theorem NT{R:Type}: ∀(ls:List (List (Nat×R))) (i:Nat) (L:Nat->Bool) (f:Nat->R) (r k:Nat) (l:List (Nat×R)),ls[k]? =aa l->(∃v,(r,v)∈l)->L (i+k)=ab->
  (∀j e,k<j->ls[j]? =aa e->(∃v,(r,v)∈e)->L (i+j)=ak)-> ∀g:Nat->R,hQ ls i L f r=dw g l r
 |h::ls,i,L,f,r,0,l,c,m,n,a,g=>by
  simp at c;subst c;simp only[hQ];rw[sw] at n;rw[n,cond_true,Ay ls (i+1) L (λ_=>ak) (dw f h) (dw g h) r (Cu h _ _ r m) (λj e o d=>by
   have:=a (j+1) e O o d
   rwa [show i+(j+1)=i+1+j by omega] at this)]
  have p: ∀(ls:List (List (Nat×R))) (i:Nat) (f:Nat->R),hQ ls i (λ_=>ak) f=f:=by
   intro ls;induction ls with
   |nil=>intro _ _;rfl
   |cons l ls q=>intro i f;simp only[hQ,cond_false];exact q _ _
  rw[p]
 |h::ls,i,L,f,r,k+1,l,c,m,n,a,g=>by
  simp at c;simp only[hQ];exact NT ls (i+1) L _ r k l c m (by rwa [show i+1+k=i+(k+1) by omega]) (λj e s o d=>by
   have:=a (j+1) e O o d
   rwa [show i+(j+1)=i+1+j by omega] at this) g
 | [],_,_,_,_,_,_,c,_,_,_,_=>by simp at c
def jw(a:List c8)(i:Nat)(L:Nat->Bool)(s:S):S:={t:=hQ (a.map (·.gb)) i L s.t,H:=hQ (a.map (·.hs)) i L s.H,u:=hQ (a.map (·.us)) i L s.u}
def nD(a:Array Oper):Nat->Nat->Nat->Bool
 |0,_,_=>ak
 |f+1,i,j=>match a[j]? with
  |none=>ak
  |some o=>o.after.toList.any λe=>Region.binds .any e&&(b5 e.on i||nD a f i e.on)
def rj{k:Type}(l:List (Nat×k))(r:List Nat):Bool:=l.any λp=>r.any λx=>b5 p.1 x
def sd{k R:Type}(l:List (Nat×k))(m:List (Nat×R)):Bool:=l.any λp=>m.any λq=>b5 p.1 q.1
def mi(e:c8)(r:hA)(a:c8)(c:hA):Bool:=
 rj e.gb c.gb||rj a.gb r.gb||sd e.gb a.gb||rj e.hs c.qE||rj a.hs r.qE||sd e.hs a.hs||rj e.us c.qE||rj a.us r.qE||sd e.us a.us
def nH(c:Array Oper)(n:Nat):Nat->List (c8×hA)->Bool
 |_,[]=>ab
 |i,(e,r)::a=>go i e r (i+1) a&&nH c n (i+1) a
where
 go (i:Nat) (e:c8) (r:hA):Nat->List (c8×hA)->Bool
  |_,[]=>ab
  |j,(d,h)::a=>(!mi e r d h||nD c n i j)&&go i e r (j+1) a
def sN:Nat->List Oper->Bool
 |_,[]=>ab
 |i,o::a=>o.after.toList.all (λe=> !Region.binds .any e||dt e.on i)&&sN (i+1) a
theorem O5{V:Array Oper}{n i:Nat}{e:c8}{r:hA}: ∀(l:List (c8×hA)) (j:Nat),nH.go V n i e r j l=ab-> ∀(k:Nat) a c,l[k]? =aa (a,c)->mi e r a c=ab->nD V n i (j+k)=ab
 | [],_,_,_,_,_,h,_=>by simp at h
 |(o,p)::l,j,h,0,a,c,d,m=>by
  simp at d;obtain⟨rfl,rfl⟩:=d;simp only[nH.go,b9,m,Bool.not_true,Bool.false_or] at h;exact h.1
 |(o,p)::l,j,h,k+1,a,c,d,m=>by
  simp at d;simp only[nH.go,b9] at h
  have:=O5 l (j+1) h.2 k a c d m
  rwa [show j+1+k=j+(k+1) by omega] at this
theorem AA{V:Array Oper}{n:Nat}: ∀(l:List (c8×hA)) (a:Nat),nH V n a l=ab-> ∀(i j:Nat) e r c d,l[i]? =aa (e,r)->l[j]? =aa (c,d)->i<j->mi e r c d=ab->nD V n (a+i) (a+j)=ab
 | [],_,_,_,_,_,_,_,_,h,_,_,_=>by simp at h
 |(q,s)::l,a,h,0,j,e,r,c,d,k,m,o,p=>by
  simp at k;obtain⟨rfl,rfl⟩:=k;simp only[nH,b9] at h;cases j with
  |zero=>omega
  |succ j=>
   simp at m
   have:=O5 l (a+1) h.1 j c d m p
   rwa [show a+1+j=a+(j+1) by omega] at this
 |(q,s)::l,a,h,i+1,j,e,r,c,d,k,m,o,p=>by
  simp only[nH,b9] at h;cases j with
  |zero=>omega
  |succ j=>
   simp at k m
   have:=AA l (a+1) h.2 i j e r c d k m O p
   rwa [show a+1+i=a+(i+1) by omega,show a+1+j=a+(j+1) by omega] at this
theorem Zl(e:c8)(r:hA)(d:c8)(i:hA):mi e r d i=mi d i e r:=by
 have o: ∀{k n:Type} (l:List (Nat×k)) (m:List (Nat×n)),sd l m=sd m l:=by
  intro k n l m;rw[ij];simp only[sd,List.any_eq_true];constructor
  ·rintro⟨p,a,q,c,h⟩;exact⟨q,c,p,a,by have:=de h;simp[this]⟩
  rintro⟨p,a,q,c,h⟩;exact⟨q,c,p,a,by have:=de h;simp[this]⟩
 unfold mi
 grind
def Q8(c:Array Oper)(a:Array Bool):Prop:= ∀j o,c[j]? =aa o->a.getD j ab=ab-> ∀e∈o.after,Region.binds .any e=ab->a.getD e.on ak=ab
theorem Lb{V:Array Oper}{a:Array Bool}(m:Q8 V a): ∀(f i j:Nat),nD V f i j=ab->(∀o,V[j]? =aa o-> ∀e∈o.after,Region.binds .any e=ab->a.getD e.on ak=ab)->a.getD i ak=ab
 |0,_,_,h,_=>by simp[nD] at h
 |f+1,i,j,h,n=>by
  unfold nD at h;cases k:V[j]? with
  |none=>rw[k] at h;simp at h
  |some o=>
   rw[k] at h;simp only[List.any_eq_true,b9,Bool.or_eq_true] at h;obtain⟨e,p,q,c⟩:=h;have cI:=n o k e (by simpa using p) q;rcases c with c|c
   ·have:=de c;rw[<-this];exact cI
   refine Lb m f i e.on c λr l=>m e.on r l ?_;rw[su] at cI⊢;cases d:a[e.on]? with
   |none=>rw[d] at cI;simp at cI
   |some b=>rw[d] at cI;simpa using cI
def xv(K:Ctx)(a:Array Oper):List Oper->List (c8×hA)->S->(S->Prop)->Prop
 | [],[],s,Q=>Q s
 |o::os,(e,r)::d,s,Q=>(∀c,r.same c s->je K a o c (e.app c))/\xv K a os d (e.app s) Q
 |_,_,_,_=>False
end
set_option linter.unusedVariables false
set_option linter.unusedSimpArgs false
section
theorem Nd{k:Type}: ∀(ls:List (List (Nat×k))) (i:Nat) (L:Nat->Bool) (f:Nat->k),hQ ls (i+1) L f=hQ ls i (λj=>L (j+1)) f
 | [],_,_,_=>rfl
 |l::ls,i,L,f=>by simp only[hQ];exact Nd ls (i+1) L _
theorem GF(e:c8)(a:List c8)(L:Nat->Bool)(s:S):jw (e::a) 0 L s=jw a 0 (λj=>L (j+1)) (bif L 0 then e.app s else s):=by unfold jw;simp only[gf,hQ,Nat.zero_add,Nd];cases L 0<;>rfl
theorem AM{K:Ctx}{V:Array Oper}: ∀(l:List Oper) (es:List (c8×hA)) (s:S) (Q:S->Prop),xv K V l es s Q->
  l.length=es.length/\Q (jw (es.map (·.1)) 0 (λ_=>ab) s)/\
  ∀(i:Nat) o e r,l[i]? =aa o->es[i]? =aa (e,r)-> ∀c,r.same c (jw (es.map (·.1)) 0 (λj=>dt j i) s)->je K V o c (e.app c)
 | [],[],s,Q,h=>⟨rfl,h,λi o e r d=>by simp at d⟩
 |o::os,(e,r)::es,s,Q,h=>by
  obtain⟨p,q⟩:=h;obtain⟨aN,a2,a3⟩:=AM os es _ Q q;refine⟨by simp[aN],?_,?_⟩
  ·simp only[gf,GF,cond_true];exact a2
  intro i w x y d k c a;cases i with
  |zero=>
   simp at d k;obtain⟨rfl,rfl⟩:=k;subst d;refine p c ?_
   have:jw (List.map (·.1) ((e,r)::es)) 0 (λj=>dt j 0) s=s:=by
    simp only[gf,GF];have m: ∀{n:Type} (ls:List (List (Nat×n))) (i:Nat) (f:Nat->n),hQ ls i (λj=>dt (j+1) 0) f=f:=by
     intro n ls;induction ls with
     |nil=>intro _ _;rfl
     |cons l ls z=>intro i f;simp only[hQ];exact z _ _
    show jw (es.map (·.1)) 0 (λj=>dt (j+1) 0) s=s;unfold jw;simp only[m]
   rw[this] at a;exact a
  |succ i=>
   simp at d k;refine a3 i w x y d k c ?_;simp only[gf,GF] at a;exact a
 | [],_::_,_,_,h=>h.elim
 |_::_,[],_,_,h=>h.elim
variable {k:Type}{r:hA}{x n i:Nat}{v:k}{a:Array Bool}{e:c8}
theorem GO{l:List (Nat×k)}{r:List Nat}(h:(x,v)∈l)(a:x∈r):rj l r=ab:=by unfold rj;rw[iX];exact⟨(x,v),h,by rw[iX];exact⟨x,a,aX⟩⟩
theorem FR{R:Type}{l:List (Nat×k)}{m:List (Nat×R)}{a:R}(h:(x,v)∈l)(c:(x,a)∈m):sd l m=ab:=by unfold sd;rw[iX];exact⟨(x,v),h,by rw[iX];exact⟨(x,a),c,aX⟩⟩
section
variable {K:Ctx}{l:List Oper}{es:List (c8×hA)}{s:S}
theorem Hc{V:Array Oper}(proj:c8->List (Nat×k))(H:nH V n 0 es=ab)(L:es[i]? =aa (e,r))(f:Nat->k)(x:Nat)
  (m: ∀c d v,(x,v)∈proj c->mi e r c d=ab)
  (o: ∀j,nD V n j i=ab->a.getD j ak=ab) (q: ∀j,j<es.length->nD V n i j=ab->a.getD j ab=ak) (z:a.getD i ab=ak):
  hQ ((es.map (·.1)).map proj) 0 (λj=>a.getD j ab) f x=hQ ((es.map (·.1)).map proj) 0 (λj=>dt j i) f x:=by
 refine Ay _ 0 _ _ f f x rfl ?_;intro j W h ⟨v,Q⟩;rw[dQ];simp only[List.map_map,List.getElem?_map] at h;cases w:es[j]? with
 |none=>rw[w] at h;cases h
 |some p=>
  obtain⟨c,d⟩:=p;rw[w] at h;simp at h;subst h;have A:j<es.length:=(bS.1 w).1;rcases Nat.lt_trichotomy j i with y|rfl|B
  ·have bb:=AA es 0 H j i c d e r w L y (by rw[Zl];exact m c d v Q);rw[dQ,dQ] at bb;have C:=o j bb;have R:dt j i=ab:=by simpa[Nat.blt_eq] using y
   rw[R];rw[su] at C⊢;cases F:a[j]? with
   |none=>rfl
   |some b=>rw[F] at C;simpa using C
  ·rw[z];symm;cases bb:dt j j with
   |false=>rfl
   |true=>simp[Nat.blt_eq] at bb
  have bb:=AA es 0 H i j e r c d L w B (m c d v Q);rw[dQ,dQ] at bb;rw[q j A bb];symm;cases G:dt j i with
  |false=>rfl
  |true=>simp[Nat.blt_eq] at G;omega
theorem G0{V:Array Oper}(proj:c8->List (Nat×k))(Q:nH V n 0 es=ab)(G:es[i]? =aa (e,r))(f:Nat->k)(y:i<a.size)
  (z: ∀x h w v R,(x,v)∈proj h->(x,R)∈proj e->mi e r h w=ab) (m: ∀j,j<es.length->nD V n i j=ab->a.getD j ab=ak) (W:a.getD i ab=ak):
  dw (hQ ((es.map (·.1)).map proj) 0 (λj=>a.getD j ab) f) (proj e)=hQ ((es.map (·.1)).map proj) 0 (λj=>(a.setIfInBounds i ab).getD j ab) f:=by
 funext x;have o: ∀j,j≠i->(a.setIfInBounds i ab).getD j ab=a.getD j ab:=λj A=>by
  simp[Array.getD_eq_getD_getElem?,Array.getElem?_setIfInBounds_ne (Ne.symm A)]
 have B:(a.setIfInBounds i ab).getD i ab=ab:=by
  simp[Array.getD_eq_getD_getElem?,y]
 have C:((es.map (·.1)).map proj)[i]? =aa (proj e):=by simp[G]
 by_cases H: ∃v,(x,v)∈proj e
 ·obtain⟨L,q⟩:=H;symm;refine NT _ 0 _ f x i (proj e) C ⟨L,q⟩ (by rw[dQ];exact B) ?_ _;intro j X A d ⟨v,F⟩;rw[dQ,o j O];simp only[List.map_map,List.getElem?_map] at d;cases c:es[j]? with
  |none=>rw[c] at d;cases d
  |some p=>
   obtain⟨h,w⟩:=p;rw[c] at d;simp at d;subst d;have bb:=AA es 0 Q i j e r h w G c A (z x h w v L F q);rw[dQ,dQ] at bb;exact m j (bS.1 c).1 bb
 rw[nB _ _ _ λv F=>H ⟨v,F⟩];refine Ay _ 0 _ _ f f x rfl ?_
 grind
theorem NC: ∀(l:List Oper) (a:Nat),sN a l=ab-> ∀(i:Nat) o,l[i]? =aa o-> ∀e∈o.after,Region.binds .any e=ab->e.on<a+i
 | [],_,_,_,_,h=>by simp at h
 |o::l,a,h,0,n,c=>by
  simp at c;subst c;intro e k m;simp only[sN,b9,List.all_eq_true,Bool.or_eq_true] at h;rcases h.1 e (by simpa using k) with d|d
  ·rw[m] at d;cases d
  simpa[Nat.blt_eq] using d
 |o::l,a,h,i+1,n,c=>by
  simp at c;simp only[sN,b9] at h;intro e k m
  have:=NC l (a+1) h.2 i n c e k m;omega
theorem acQ{Q:S->Prop}{xV:Exit->Act->World->Prop}(hp:nH l.toArray l.length 0 es=ab)(he:sN 0 l=ab)(cD:xv K l.toArray l es s Q)
  (Jx: ∀g a w,Rel K g (jw (es.map (·.1)) 0 (λ_=>ab) s) a w->xV .normal a w):
  ∀(d:Nat) (c:Array Bool) (z:List Nat),c.size=l.length->z.Nodup->z.length=d->(∀i,c.getD i ab=ak↔i∈z)->Q8 l.toArray c->
   ∀g a w,Rel K g (jw (es.map (·.1)) 0 (λj=>c.getD j ab) s) a w->wpAny K.P .any l.toArray xV d c a w:=by
 obtain⟨hlen,_,ahW⟩:=AM l es s Q cD
 -- if nothing is ready, all is done
 have hall: ∀(c:Array Bool) (z:List Nat),c.size=l.length->(∀i,c.getD i ab=ak↔i∈z)->z≠[]->Region.ready .any l.toArray c≠[]:=by
  intro c z R D E;have key: ∀n,(∃i,i∈z/\i<=n)-> ∃m,m∈z/\ ∀j,j<m->j∉z:=by
   intro n;induction n with
   |zero=>rintro⟨i,hi,hle⟩;exact⟨0,by rwa [show i=0 by omega] at hi,λj W=>O⟩
   |succ n nz=>
    rintro⟨i,hi,hle⟩;by_cases h: ∃i,i∈z/\i<=n
    ·exact nz h
    have:i=n+1:=by
     rcases Nat.lt_or_ge i (n+1) with hlt|kr
     ·exact bB ⟨i,hi,O⟩ h
     omega
    subst this;exact⟨n+1,hi,λj W ahB=>h ⟨j,ahB,O⟩⟩
  obtain⟨x,hx⟩:=EZ z E;obtain⟨m,hm,akU⟩:=key x ⟨x,hx,cR _⟩;have ahO:=(D m).2 hm;have SG:m<l.length:=by
   grind
  intro X
  have:m∈Region.ready .any l.toArray c:=by
   rw[mem_ready];refine⟨ahO,l[m],by simp[SG],λe ahj Z=>?_⟩;have hlt:=NC l 0 he m l[m] (bp SG) e ahj Z
   grind
  grind
 have I: ∀(c:Array Bool),(∀i,c.getD i ab=ab)->jw (es.map (·.1)) 0 (λj=>c.getD j ab) s=jw (es.map (·.1)) 0 (λ_=>ab) s:=by
  grind
 intro d;induction d with
 |zero=>
  intro c z R M B D bT g a w b8;have X:z=[]:=oN B;subst X;have F: ∀i,c.getD i ab=ab:=λi=>by
   cases h:c.getD i ab with
   |true=>rfl
   |false=>have:=(D i).1 h;simp at this
  refine⟨?_,Jx g a w (by rw[<-I c F];exact b8)⟩;cases ah5:Region.ready .any l.toArray c with
  |nil=>rfl
  |cons x xs=>
   have:x∈Region.ready .any l.toArray c:=by rw[ah5];simp
   rw[mem_ready] at this;rw[F x] at this;exact bB this.1 aX
 |succ d nz=>
  intro c z R M B D bT g a w b8;have E:z≠[]:=by intro e;subst e;simp at B
  refine⟨λh=>bB h (hall c z R D E),λi hi=>?_⟩;obtain⟨y,o,fc,b⟩:=mem_ready.1 hi;have DA:i<l.length:=by
   rcases Nat.lt_or_ge i l.length with h|h
   ·exact h
   rw[Array.getElem?_eq_none (by simpa using h)] at fc;cases fc
  have JK:l[i]? =aa o:=by simpa using fc
  obtain⟨⟨e,r⟩,C⟩: ∃p,es[i]? =aa p:=⟨es[i]' O,by simp[show i<es.length by omega]⟩
  have G: ∀j,nD l.toArray l.length j i=ab->c.getD j ak=ab:=λj Z=>Lb bT _ j i Z λEa A=>by rw[fc] at A;cases A;exact b
  have q: ∀j,j<es.length->nD l.toArray l.length i j=ab->c.getD j ab=ak:=λj W Z=>by
   cases ahK:c.getD j ab with
   |false=>rfl
   |true=>
    have L:=Lb bT _ i j Z λEa A=>bT j Ea A ahK;have aic:i<c.size:=O
    simp only[Array.getD_eq_getD_getElem?,Array.getElem?_eq_getElem aic,Option.getD_some] at L y;rw[y] at L;cases L
  have N:r.same (jw (es.map (·.1)) 0 (λj=>c.getD j ab) s) (jw (es.map (·.1)) 0 (λj=>dt j i) s):=by
   refine⟨λx hx=>?_,λk hk=>⟨?_,?_⟩⟩
   ·exact Hc (·.gb) hp C s.t x (λf zF v bW=>by simp[mi,GO bW hx]) G q y
   ·exact Hc (·.hs) hp C s.H k (λf zF v bW=>by simp[mi,GO bW hk]) G q y
   exact Hc (·.us) hp C s.u k (λf zF v bW=>by simp[mi,GO bW hk]) G q y
  have T:e.app (jw (es.map (·.1)) 0 (λj=>c.getD j ab) s)=jw (es.map (·.1)) 0 (λj=>(c.setIfInBounds i ab).getD j ab) s:=by
   unfold c8.app jw;simp only[S.mk.injEq];refine⟨?_,?_,?_⟩
   ·exact G0 (·.gb) hp C s.t O (λx f zF v ef L h2=>by simp[mi,FR h2 L]) q y
   ·exact G0 (·.hs) hp C s.H O (λx f zF v ef L h2=>by simp[mi,FR h2 L]) q y
   exact G0 (·.us) hp C s.u O (λx f zF v ef L h2=>by simp[mi,FR h2 L]) q y
  have ahV:=ahW i o e r JK C _ N;have ahn: ∀U p0 w',Rel K U (e.app (jw (es.map (·.1)) 0 (λj=>c.getD j ab) s)) p0 w'->wpAny K.P .any l.toArray xV d (c.setIfInBounds i ab) p0 w':=by
   intro U p0 w' SQ;rw[T] at SQ;have ahs:=(D i).1 y;refine nz (c.setIfInBounds i ab) (z.erase i) (by simpa using R) (M.erase i) (by rw[List.length_erase_of_mem ahs];omega) (λj=>?_) ?_ U p0 w' SQ
   ·rw[M.mem_erase_iff];by_cases W:j=i
    ·subst W;simp[Array.getD_eq_getD_getElem?,show j<c.size by omega]
    simp only[Array.getD_eq_getD_getElem?,Array.getElem?_setIfInBounds_ne (Ne.symm W)]
    have:=D j;rw[su] at this;rw[this];simp[W]
   intro j Ea A W f Sx Z;by_cases SB:j=i
   ·subst SB;rw[fc] at A;cases A;exact getD_set_true (b f Sx Z)
   have L:c.getD j ab=ab:=by
    simpa only[Array.getD_eq_getD_getElem?,Array.getElem?_setIfInBounds_ne (Ne.symm SB)] using W
   exact getD_set_true (bT j Ea A L f Sx Z)
  have V:=ahV g a w (wpAny K.P .any l.toArray xV d (c.setIfInBounds i ab)) xV b8 ahn;unfold wpOp;rw[fc];exact V
theorem O7{Q:Exit->S->Prop}(d:List (c8×hA))(B:K.P.follows .mixedOrders=ab)(C:nH l.toArray l.length 0 d=ab)(F:sN 0 l=ab)
  (e:xv K l.toArray l d s λG=>Q .normal G):cU K (.region n l.toArray ab) s Q:=by
 intro k a w Z m H;obtain⟨_,R,_⟩:=AM l d s _ e;refine wp_region_any B ?_;have p:Rel K k s a {w with drawn:=w.drawn+1}:=xT m;have W:jw (d.map (·.1)) 0 (λj=>(Array.replicate l.toArray.size ak).getD j ab) s=s:=by
  have z:=(AM l d s _ e).1;have c: ∀{q:Type} (ls:List (List (Nat×q))) (L:Nat->Bool) (i:Nat) (f:Nat->q),(∀j,j<ls.length->L (i+j)=ak)->hQ ls i L f=f:=by
   intro q ls L;induction ls with
   |nil=>intro _ _ _;rfl
   |cons x ls X=>
    intro i f h;simp only[hQ];have A:=h 0 aX;rw[sw] at A;rw[A,cond_false];exact X (i+1) f λj r=>by have:=h (j+1) bQ;rwa [show i+(j+1)=i+1+j by omega] at this
  have y: ∀j,j<d.length->(Array.replicate l.toArray.size ak).getD (0+j) ab=ak:=λj r=>by
   rw[dQ,su,Array.getElem?_replicate,aR bQ];rfl
  unfold jw;rw[c _ _ _ _ (by simpa using y),c _ _ _ _ (by simpa using y),c _ _ _ _ (by simpa using y)]
 refine acQ C F e (λk a w m=>H _ _ _ _ _ R m) l.toArray.size (Array.replicate l.toArray.size ak) (List.range l.length) aX List.nodup_range aX (λi=>?_) ?_ k a _ (by rw[W];exact p)
 ·rw[su,Array.getElem?_replicate,w6]
  grind
 intro j o b r;rw[su,Array.getElem?_replicate] at r
 grind
end
end
abbrev U(n:Int):V:= .t (.int .i64 n)
abbrev w8(b:UInt8):V:= .t (.int .u8 (b.toNat:Nat))
abbrev aL(b:Bool):V:= .t (.bool b)
abbrev bA(s:List UInt8):V:= .t (.str s)
abbrev Ub(a:List (List T)):V:= .t (.bE a)
abbrev k0(n:Int):List T:=[.int .i64 n]
abbrev oH(b:UInt8):List T:=[.int .u8 (b.toNat:Nat)]
abbrev ae0(b:Bool):List T:=[.bool b]
abbrev afP(s:List UInt8):List T:=[.str s]
def j2(P:Program)(f:FuncId):Prop:= ∃a,P.funcs[f]? =aa a/\(a.name== "runtime.NumGoroutine")=ak/\a.body.isNone=ak
section
variable {K:Ctx}{s:S}{Q:Exit->S->Prop}
variable {l:List Oper}
theorem MD{V:Array Oper}{Q:S->Prop}{b:S}(i:s.le K b)(h:rv K V l b Q):rv K V l s Q:=
  λk a w m n o=>let ⟨c,e⟩:=i k a w n;h c a w m e o
theorem VH{i:Nat}(m:S)(h:rv K l.toArray l s λn=>n.le K m)(o:Q .normal m):cU K (.region i l.toArray ak) s Q:=by intro p a w q r x;refine wp_region_lit (h p a w q r λn c y A B e=>?_);obtain⟨C,k⟩:=B c y A e;exact x _ _ _ _ _ o k
theorem cc.eq{P:Program}{H:Nat->Option E}{o:Oper}{a:List V}{v ef:V}(h:cc P H o a v)(e:v=ef):cc P H o a ef:=e▸h
section
variable {K:Ctx}{s:S}{d:Option Tmp}{ty:TypeId}{pos:String}{af:Array Edge}{g:Option (Nat×Bool)}
variable {t:TypeId}{u:TypeDesc}{z:Value}{gen size bytes:Nat}
end
end
theorem kW(b:Bool){P:Prop}(a:b=ak->P)(c:b=ab->P):P:=by
 cases b with
 |false=>exact a rfl
 |true=>exact c rfl
theorem fU.of_eq{e a:List V}(h:e=a):fU e a:=h▸fU.refl e
section
variable {K:Ctx}{s:S}{ops:Array Oper}{rest:List Oper}{Q:S->Prop}{d:Nat}{ty:TypeId}{pos:String}{af:Array Edge}{j:Nat}{want:Bool}{t:Nat}
end
section
mutual
def V.eB(L:List Nat):V->V
  | .ref id a=> .ref (L.getD id 0) a
  | .bg id gen c a d=> .bg (L.getD id 0) gen c a d
  | .cK id gen c i a=> .cK (L.getD id 0) gen c i a
  | .agg cs=> .agg (jL L cs)
  | .bM cs=> .bM (jL L cs)
  | .fn f cs=> .fn f (jL L cs)
  | .t x=> .t x
  | .aS x=> .aS x
  | .dh=> .dh
def jL(L:List Nat):List V->List V
  | []=>[]
  |c::cs=>c.eB L::jL L cs
end
def E.eB(L:List Nat):E->E
  | .cells cs=> .cells (jL L cs)
  | .arr ty gen c a=> .arr ty gen c a
  | .a7 Γ m gen a d=> .a7 Γ m gen a (d.map λh=>(h.1,h.2.1,h.2.2.eB L))
theorem qx{L:List Nat}: ∀cs:List V,(jL L cs).length=cs.length
  | []=>rfl
  |c::cs=>by simp[jL,qx cs]
theorem Hm{L:List Nat}: ∀(cs:List V) (i:Nat),(jL L cs)[i]? =(cs[i]?).map (V.eB L)
  | [],_=>by simp[jL]
  |c::cs,0=>by simp[jL]
  |c::cs,i+1=>by simp[jL,Hm cs i]
variable {L:List Nat}{W:Map}{w:World}{X:Nat->Prop}
theorem A9{a:List V}{i:Nat}{c:V}(h:(jL L a)[i]? =aa c): ∃d,a[i]? =aa d/\c=d.eB L:=by
  rw[Hm] at h
  grind
theorem bq.eB{β:Map}{v:V}{u:Value}(h:bq β w X v u)(e: ∀k x,β k=aa x->W (L.getD k 0)=aa x):bq W w X (v.eB L) u:=by
  induction h with
  |t x v h=>exact .t x v h
  |agg cs s o _ y=>exact .agg _ s (by rw[qx];exact o) (λi c u p z=>by obtain⟨A,B,rfl⟩:=A9 p;exact y i A u B z)
  |bM cs s o _ y=>exact .bM _ s (by rw[qx];exact o) (λi c u p z=>by obtain⟨A,B,rfl⟩:=A9 p;exact y i A u B z)
  |ref id d b l=>exact .ref _ d b (e _ _ l)
  |aS cells b d f l G p H=>exact .aS cells b d f l G p H
  |bg id gen a d r C b n ty m l K Q R o Z=>exact .bg _ gen a d r C b n ty m (e _ _ l) K Q R o Z
  |iT id gen a m l=>exact .iT _ gen a m (e _ _ l)
  |l3 id gen a d r v q g F l m=>exact .l3 _ gen a d r v q g F (e _ _ l) m
  |cK id gen a i d b m l=>exact .cK _ gen a i d b m (e _ _ l)
  |mz id gen a i d v q g F l m=>exact .mz _ gen a i d v q g F (e _ _ l) m
  |fn f cs s o _ y=>exact .fn f _ s (by rw[qx];exact o) (λi c u p z=>by obtain⟨A,B,rfl⟩:=A9 p;exact y i A u B z)
  |dh v=>exact .dh v
def j'(L:List Nat)(a:Map):Map:=⟨λk=>(L[k]?).bind a,λk b=> ∃id,L[k]? =aa id/\a.n id b⟩
def fA:Nat->(Nat->Bool)
  |0=>hh
  |n+1=>a8 (fA n) n ab
theorem jZ: ∀{n k:Nat},fA n k=ab↔k<n
  |0,k=>by simp[fA,hh]
  |n+1,k=>by
    by_cases h:k=n
    · subst h;simp[fA,cd]
    · rw[fA,cb _ _ _ _ h,jZ];omega
mutual
theorem bq.q4{β:Map}{w:World}{X:Nat->Prop}{L:List Nat}: ∀(v:V) (u:Value),bq β w X (v.eB L) u->v.ok (fA L.length)=ab->bq (j' L β) w X v u
  | .t x,u,h,_=>by
    simp only[V.eB] at h;cases h with|t _ _ h=>exact .t _ _ h
  | .aS x,u,h,_=>by
    simp only[V.eB] at h;cases h with|aS _ b l f a F r s=>exact .aS _ b l f a F r s
  | .dh,u,_,_=> .dh u
  | .ref id l,u,h,d=>by
    have e:id<L.length:=jZ.1 (by simpa[V.ok] using d);have o:j' L β id=β (L.getD id 0):=by simp[j',List.getElem?_eq_getElem e]
    simp only[V.eB] at h;cases h with|ref _ _ b a=>exact .ref _ _ b (by rw[o];exact a)
  | .bg id gen y l G,u,h,d=>by
    have e:id<L.length:=jZ.1 (by simpa[V.ok] using d);have o:j' L β id=β (L.getD id 0):=by simp[j',List.getElem?_eq_getElem e]
    simp only[V.eB] at h;cases h with
    |bg _ _ _ _ _ A b n ty m a H k K d B=>exact .bg _ _ _ _ _ A b n ty m (by rw[o];exact a) H k K d B
    |iT _ _ _ m a=>exact .iT _ _ _ m (by rw[o];exact a)
    |l3 _ _ _ _ _ _ q g C a m=>exact .l3 _ _ _ _ _ _ q g C (by rw[o];exact a) m
  | .cK id gen y i l,u,h,d=>by
    have e:id<L.length:=jZ.1 (by simpa[V.ok] using d);have o:j' L β id=β (L.getD id 0):=by simp[j',List.getElem?_eq_getElem e]
    simp only[V.eB] at h;cases h with
    |cK _ _ _ _ _ b m a=>exact .cK _ _ _ _ _ b m (by rw[o];exact a)
    |mz _ _ _ _ _ _ q g C a m=>exact .mz _ _ _ _ _ _ q g C (by rw[o];exact a) m
  | .agg cs,u,h,d=>by
    simp only[V.eB] at h;cases h with
    |agg _ p k s=>exact .agg _ p (by rw[qx] at k;exact k) (λi c u r z=>Bw cs (λi=>p[i]?) (by simpa[V.ok] using d) s i c u r z)
  | .bM cs,u,h,d=>by
    simp only[V.eB] at h;cases h with
    |bM _ p k s=>exact .bM _ p (by rw[qx] at k;exact k) (λi c u r z=>Bw cs (λi=>p[i]?) (by simpa[V.ok] using d) s i c u r z)
  | .fn f cs,u,h,d=>by
    simp only[V.eB] at h;cases h with
    |fn _ _ p k s=>exact .fn _ _ p (by rw[qx] at k;exact k) λi c u r z=>Bw cs (λi=>p[i]?) (by simpa[V.ok] using d) s i c u r z
theorem Bw{W:Map}{w:World}{X:Nat->Prop}{L:List Nat}: ∀(cs:List V) (a:Nat->Option Value),hl (fA L.length) cs=ab->
    (∀i c u,(jL L cs)[i]? =aa c->a i=aa u->bq W w X c u)-> ∀(i:Nat) c u,cs[i]? =aa c->a i=aa u->bq (j' L W) w X c u
  | [],_,_,_,_,_,_,h,_=>by simp at h
  |c::cs,a,d,h,0,_,u,e,k=>by
    simp at e;subst e;simp[hl] at d;exact bq.q4 c u (h 0 _ u (by simp[jL]) k) d.1
  |c::cs,a,d,h,i+1,l,u,e,k=>by simp at e;simp[hl] at d;exact Bw cs (λi=>a (i+1)) d.2 (λi c u m n=>h (i+1) c u (by simpa[jL] using m) n) i l u e k
end
theorem dH.q4{β:Map}{w:World}{X:Nat->Prop}{L:List Nat}: ∀{a:List V} {c:List Value},dH β w X (jL L a) c->hl (fA L.length) a=ab->dH (j' L β) w X a c
  | [],[],_,_=>trivial
  |v::a,u::c,h,d=>by
    simp[hl] at d;exact⟨bq.q4 v u h.1 d.1,dH.q4 h.2 d.2⟩
  | [],_::_,h,_=>h.elim
  |_::_,[],h,_=>h.elim
def ft:List E->Nat->(Nat->Option E)
  | [],_=>pR
  |e::a,k=>a8 (ft a (k+1)) k (aa e)
theorem N7: ∀(a:List E) (k i:Nat),ft a k (k+i)=a[i]?
  | [],_,_=>by simp[ft,pR]
  |e::a,k,0=>by rw[sw,ft,cd];simp
  |e::a,k,i+1=>by rw[ft,cb _ _ _ _ O,show k+(i+1)=(k+1)+i by omega,N7 a (k+1) i];simp
theorem z1(a:List E)(i:Nat):ft a 0 i=a[i]? :=by have:=N7 a 0 i;rwa [dQ] at this
def mS(X:Nat->Prop)(a:Map)(H:Nat->Option E)(b:Nat):Prop:=X b\/ ∃id,H id≠aj/\At a id b
structure AS (G:fL) (hM:List E) (β:Map) (w:World) (X:Nat->Prop):Prop where
  eF: ∀k,hM.length<=k->β k=aj
  e9: ∀k b,hM.length<=k-> ¬β.n k b
  inj: ∀id lZ b,At β id b->At β lZ b->id=lZ
  place: ∀k b,At β k b->b<w.heap.size/\ ¬X b/\G.zq<=b
  heap: ∀k e,hM[k]? =aa e->cX β w (mS X β (ft hM 0)) k e
structure Left (hb β:Map) (hM out:List E) (w w':World) (X:Nat->Prop) (r:V) (u:Value):Prop where
  ext:Ext (λb=> ∃k,At hb k b) w w'
  base:lb hM.length hb β w.heap.size
  kA:Shaped hb w w'
  eF: ∀k,out.length<=k->β k=aj
  e9: ∀k b,out.length<=k-> ¬β.n k b
  inj: ∀id lZ b,At β id b->At β lZ b->id=lZ
  fresh: ∀k b,At β k b->((∃cz,cz<hM.length/\At hb cz b)\/w.heap.size<=b)/\b<w'.heap.size
  heap: ∀k e,out[k]? =aa e->cX β w' (mS X β (ft out 0)) k e
  res:bq β w' (mS X β (ft out 0)) r u
def LK(P:Program)(G:fL)(f:FuncId)(c:List E)(args:List V){ι:Type}(k:ι->Prop)(r:ι->V)(d:ι->List E):Prop:=
  ∀(w:World) (X:Nat->Prop) (a:Map) (h:List Value),G.ok w->(∀b,X b->b<w.heap.size)->AS G c a w X->dH a w (mS X a (ft c 0)) args h->
    Calls P f h.toArray w λe l=> ∃u i m,e= .returned u/\k i/\Left a m c (d i) w l X (r i) u
def Ctx.dR(P:Program)(G:fL)(w:World)(X:Nat->Prop)(dV:Nat)(hb:Map)(nt:Nat):Ctx:={P,G,w0:=w,X,dV,hb,nt}
def mT(a:List E)(args:List V):S:={t:=uZ args 0,H:=ft a 0,u:=fA a.length}
theorem Rel.mT{P:Program}{G:fL}{nt:Nat}{a:List E}{args:List V}{c:List Value}(q:G.ok w)(r: ∀b,X b->b<w.heap.size)(d:AS G a W w X)
    (h:dH W w (mS X W (ft a 0)) args c) (x:c.length<=nt):
    Rel (Ctx.dR P G w X a.length W nt) W (Lift.mT a args) {tmps:=c.toArray++Array.replicate (nt-c.toArray.size) undef,defers:=[]} w:=by
  have k: ∀id b,At W id b->id<a.length:=by
    rintro id b (⟨g,h⟩|h)
    · apply w5;intro l;rw[d.eF id l] at h;cases h
    · exact w5 λl=>d.e9 id b l h
  refine {ext:=Ext.refl _ _,rH:=q,r6:= ?_,k9:= ?_,base:=lb.refl _ _ _,kA:=Shaped.refl _ _,low:=λid h=>jZ.2 h,eF:= ?_,e9:= ?_,
           wc:=d.inj,inj:=d.inj,fresh:=λid b h=>⟨.inl ⟨id,k id b h,h⟩,(d.place id b h).1⟩,heap:= ?_,dC:= ?_,nt:= ?_,defers:=rfl}
  · rintro b ⟨id,_,h⟩;exact(d.place id b h).2.2
  · intro b p;exact⟨r b p,λ⟨id,_,h⟩=>(d.place id b h).2.1 p⟩
  · intro id hid;apply d.eF;apply Nat.le_of_not_lt;intro k;have m:=jZ.2 k;have n:fA a.length id=ak:=hid
    grind
  · intro id b hid h;have m:=jZ.2 (k id b (.inr h));have n:fA a.length id=ak:=hid
    grind
  · intro id e s;have o:a[id]? =aa e:=by rw[<-z1];exact s
    refine⟨jZ.2 ?_,d.heap id e o⟩
    grind
  · intro i;have m:=FM args c 0 h i;rw[dQ] at m;have n:(c.toArray++Array.replicate (nt-c.toArray.size) undef).getD i undef=c.getD i undef:=by
      simp only[Array.getD_eq_getD_getElem?,List.getD_eq_getElem?_getD,Array.getElem?_append]
      grind
    simp only[n];exact m
  · simp[Ctx.dR];omega
end
section
def l4{R:Type}(f:Nat->R):List Nat->(Nat->R)->(Nat->R)
 | [],_=>f
 |l::L,g=>a8 (l4 f L λk=>g (k+1)) l (g 0)
theorem ov{k:Type}{f:Nat->k}: ∀{L:List Nat} {g:Nat->k} {id:Nat},id∉L->l4 f L g id=f id
 | [],_,_,_=>rfl
 |l::L,g,id,h=>by simp at h;rw[l4,cb _ _ _ _ h.1];exact ov h.2
theorem pq{R:Type}{f:Nat->R}: ∀{L:List Nat} {g:Nat->R} {k id:Nat},L.Nodup->L[k]? =aa id->l4 f L g id=g k
 | [],_,_,_,_,h=>by simp at h
 |l::L,g,0,id,_,h=>by simp at h;subst h;rw[l4,cd]
 |l::L,g,k+1,id,a,h=>by simp at h a;have c:id≠l:=λe=>a.1 (e▸bx h);rw[l4,cb _ _ _ _ c];exact pq (g:=λk=>g (k+1)) a.2 h
theorem GK: ∀{L:List Nat} {i j id:Nat},L.Nodup->L[i]? =aa id->L[j]? =aa id->i=j
 | [],_,_,_,_,h,_=>by simp at h
 |l::L,0,0,_,_,_,_=>rfl
 |l::L,0,j+1,id,a,h,c=>by simp at h c a;subst h;exact bB (bx c) a.1
 |l::L,i+1,0,id,a,h,c=>by simp at h c a;subst c;exact bB (bx h) a.1
 |l::L,i+1,j+1,id,a,h,c=>by simp at h c a;rw[GK a.2 h c]
def S.after(s:S)(L:List Nat)(a:List E):S:=
 {t:=s.t,H:=l4 s.H L λk=>(a[k]?).map (E.eB L),u:=l4 s.u L (λ_=>ab)}
def FZ(K:Ctx)(o:Oper)(s:S){k:Type}(h:k->Prop)(l:k->S):Prop:=
 ∀m a w next Q,Rel K m s a w->(∀i,h i-> ∀c d e,Rel K c (l i) d e->next d e)->o.wp K.P a w next Q
variable {β:Map}{w:World}{X:Nat->Prop}{L:List Nat}{k:Nat}{e:E}{f:FuncId}
theorem cX.q4{id:Nat}(h:cX β w X id (e.eB L))(C:L[k]? =aa id)(G:e.ok (fA L.length)=ab):cX (j' L β) w X k e:=by
 have l:j' L β k=β id:=by simp[j',C]
 cases e with
 |cells cs=>
  obtain⟨b,o,ty,a,d,s,F⟩:=h;rw[qx] at s;refine⟨b,o,ty,by rw[l];exact a,d,s,λi c u y R=>?_⟩;exact bq.q4 c u (F i _ u (by rw[Hm,y];rfl) R) (w1 G y)
 |arr ty gen H p=>
  refine⟨h.1,?_⟩;rcases h.2 with ⟨a,d⟩|⟨b,o,a,d⟩
  ·exact .inl ⟨by rw[l];exact a,d⟩
  exact .inr ⟨b,o,by rw[l];exact a,d⟩
 |a7 M m gen p N=>
  refine⟨h.1,?_⟩;have K: ∀c,(j' L β).n k c↔β.n id c:=λc=>⟨λ⟨W,a,d⟩=>by rw[C] at a;cases a;exact d,λh=>⟨id,C,h⟩⟩
  rcases h.2 with ⟨a,d,Z⟩|⟨b,o,B,a,d,s,F,Q,f,g,t⟩
  ·exact .inl ⟨by rw[l];exact a,d,λc y=>Z c ((K c).1 y)⟩
  refine .inr ⟨b,o,B,by rw[l];exact a,d,s,F,λi j q x u aN a2 a3=>⟨λv z=>?_,λD=>?_⟩,f,g,λc=>(K c).trans (t c)⟩
  ·have A:=(Q i j q x u aN a2 a3).1 (v.eB L) (eA.2 ⟨_,z,rfl⟩);exact⟨bq.q4 v u A.1 (Hd G z),A.2⟩
  refine(Q i j q x u aN a2 a3).2 λv z=>?_;obtain⟨⟨P,S,I⟩,A,r⟩:=eA.1 z;simp only[Prod.mk.injEq] at r;obtain⟨rfl,rfl,rfl⟩:=r;exact D I A
theorem cX.eB{β':Map}{R:Nat->Prop}{F:Nat}(h:cX β w X k e)(f:L[k]? =aa F)(o: ∀k x,β k=aa x->β' (L.getD k 0)=aa x)(G: ∀b,R b->X b)(W: ∀b,β'.n F b↔β.n k b):cX β' w R F (e.eB L):=by
 have q: ∀x,β k=aa x->β' F=aa x:=λx H=>by have:=o k x H;rwa [eQ,f] at this
 cases e with
 |cells cs=>
  obtain⟨b,r,ty,a,d,s,y⟩:=h;refine⟨b,r,ty,q _ a,d,by rw[qx];exact s,λi c u K g=>?_⟩;obtain⟨t,p,rfl⟩:=A9 K;exact((y i t u p g).eB o).mono (Ext.refl _ _) (λb _=>G b) (ed.refl _) (Shaped.refl _ _)
 |arr ty gen Z z=>
  refine⟨h.1,?_⟩;rcases h.2 with ⟨a,d⟩|⟨b,r,a,d,s,y,p⟩
  ·exact .inl ⟨q _ a,d⟩
  exact .inr ⟨b,r,q _ a,d,s,y,λi j l x u aN a2 a3=>(p i j l x u aN a2 a3).mono (Ext.refl _ _) λb _=>G b⟩
 |a7 T m gen z U=>
  refine⟨h.1,?_⟩;rcases h.2 with ⟨a,d,D⟩|⟨b,r,B,a,d,s,y,p,I,M,N⟩
  ·exact .inl ⟨q _ a,d,λc K=>D c ((W c).1 K)⟩
  refine .inr ⟨b,r,B,q _ a,d,s,y,λi j l x u aN a2 a3=>⟨λv Q=>?_,λH=>?_⟩,I,M,λc=>(W c).trans (N c)⟩
  ·obtain⟨⟨V,eH,P⟩,S,A⟩:=eA.1 Q;simp only[Prod.mk.injEq] at A;obtain⟨rfl,rfl,rfl⟩:=A;have C:=(p _ _ l x u aN a2 a3).1 P S;exact⟨(C.1.eB o).mono (Ext.refl _ _) (λb _=>G b) (ed.refl _) (Shaped.refl _ _),C.2⟩
  exact((p i j l x u aN a2 a3).2 λv Q=>H (v.eB L) (eA.2 ⟨_,Q,rfl⟩)).mono (Ext.refl _ _) (λb _=>G b) λ_ _=>rfl
theorem dH.app{β:Map}{w:World}{X:Nat->Prop}: ∀{d a:List V} {e c:List Value},dH β w X d e->dH β w X a c->dH β w X (d++a) (e++c)
 | [],_,[],_,_,h=>h
 |_::_,_,_::_,_,h,k=>⟨h.1,dH.app h.2 k⟩
 | [],_,_::_,_,h,_=>h.elim
 |_::_,_,[],_,h,_=>h.elim
theorem Gg{W:Map}{w:World}{X:Nat->Prop}: ∀{d:List V} {e:List Value},e.length=d.length->(∀(i:Nat) c u,d[i]? =aa c->e[i]? =aa u->bq W w X c u)->dH W w X d e
 | [],[],_,_=>trivial
 |v::d,u::e,a,h=>⟨h 0 v u rfl rfl,Gg (by simpa using a) λi c u k l=>h (i+1) c u (by simpa using k) (by simpa using l)⟩
 | [],_::_,a,_=>by simp at a
 |_::_,[],a,_=>by simp at a
theorem bq.Jj{a:List V}{u:Value}(h:bq β w X (.fn f a) u): ∃d:Array Value,u= .func (.func f) #[] d/\dH β w X a d.toList:=by
 cases h with
 |fn _ _ d e h=>exact⟨d,rfl,Gg (by simpa using e) λi c u k l=>h i c u k (by simpa using l)⟩
theorem aaA{K:Ctx}{s:S}{o:Oper}{xs:Array Operand}{T':Array TypeId}{hM:List E}{args:List V}{ι:Type}{nh:ι->Prop}{r:ι->V}{R:ι->List E}(Jk:Operand)(L news:List Nat)
  (R3:List V) (fc:o.op= .call {callee:= .value Jk,args:=xs,argTypes:=T'}) (ahp:s.get Jk= .fn f R3)
  (ji:j2 K.P f) (cD: ∀i,o.dst=aa i->dt i K.nt=ab) (bW:fU (xs.toList.map s.get++R3) (jL L args)) (cI:hl (fA L.length) args=ab)
  (rJ:hM.length=L.length) (hH: ∀(k:Nat) (e:E),hM[k]? =aa e-> ∃id,L[k]? =aa id/\s.H id=aa (e.eB L)/\e.ok (fA L.length)=ab)
  (T:(L++news).Nodup) (vR: ∀id,id∈news->s.u id=ak) (JO: ∀i,(R i).length=(L++news).length)
  (h:LK K.P K.G f hM args nh r R):FZ K o s nh (λi=>(s.after (L++news) (R i)).put o.dst ((r i).eB (L++news))):=by
 obtain⟨fn,ahk,ahl,ahm⟩:=ji;intro X a w next Q p l
 have tF:fn.name≠ "runtime.NumGoroutine" :=by simpa using ahl
 have mI:fn.body≠aj:=by intro e;simp[e] at ahm
 obtain⟨us,ahd,JW⟩:=(ahp▸p.get Jk).Jj;have JS:(execOp a.eval o).run K.P w= .ok (.enter f (xs.map a.eval++us)) w:=by
  simp[execOp,fc,resolve,Deferred.ofValue,ahd,invoke,callFunc,ahk,tF,mI]
 unfold Oper.wp;rw[JS,Oper.upon_enter];let z:Map:=j' L X;let iM:Nat->Prop:=λb=>own K X s.H b/\ ¬ ∃k,At z k b;have lA: ∀k g b,z k=aa (aa b,g)-> ∃id,L[k]? =aa id/\X id=aa (aa b,g):=by
  intro k g b h;cases l:L[k]? with
  |none=>simp[z,j',l] at h
  |some id=>simp[z,j',l] at h;exact⟨id,rfl,h⟩
 have Z: ∀k b,At z k b-> ∃id,L[k]? =aa id/\At X id b:=by
  rintro k b (⟨g,h⟩|⟨id,m,y⟩)
  ·obtain⟨id,m,y⟩:=lA k g b h;exact⟨id,m,.inl ⟨g,y⟩⟩
  exact⟨id,m,.inr y⟩
 have ag6: ∀(k id:Nat),L[k]? =aa id->s.H id≠aj:=by
  intro k id l;have hlt:k<hM.length:=by rw[rJ];exact(bS.1 l).1
  obtain⟨F,m,y,_⟩:=hH k _ (bp hlt);rw[l] at m;cases m;rw[y];simp
 have v: ∀k b,At z k b->own K X s.H b:=by
  intro k b h;obtain⟨id,m,y⟩:=Z k b h;exact .inr ⟨id,ag6 k id m,y⟩
 have SM: ∀b,mS iM z (ft hM 0) b->own K X s.H b:=by
  rintro b (h|⟨k,_,y⟩)
  ·exact h.1
  exact v k b y
 have Ju: ∀k b,At z k b->K.M b\/K.w0.heap.size<=b:=by
  intro k b h;obtain⟨id,m,y⟩:=Z k b h;exact(p.fresh id b y).1
 have yW: ∀b,own K X s.H b->b<w.heap.size:=by
  rintro b (D|⟨id,_,bb⟩)
  ·exact mY (p.k9 b D).1 p.ext.size
  exact(p.fresh id b bb).2
 have ahR:L.Nodup:=(List.nodup_append.1 T).1;have ahx:AS K.G hM z w iM:=by
  refine⟨?_,?_,?_,?_,?_⟩
  ·intro k l;rw[rJ] at l;simp[z,j',List.getElem?_eq_none l]
  ·rintro k b l ⟨id,m,_⟩;rw[rJ] at l;rw[q' l] at m;cases m
  ·intro k cz b h nv;obtain⟨id,m,y⟩:=Z k b h;obtain⟨F,agS,h2'⟩:=Z cz b nv;have he:=p.inj id F b y h2';subst he;have l:=(bS.1 m).1;exact GK ahR m agS
  ·intro k b B;refine⟨yW b (v k b B),λD=>D.2 ⟨k,B⟩,?_⟩;rcases Ju k b B with A|A
   ·exact p.r6 b A
   exact iF p.rH.1 A
  intro k e he;obtain⟨id,m,y,h4⟩:=hH k e he;have j4:=cX.q4 (p.heap id _ y).2 m h4;exact j4.mono (Ext.refl _ _) (λb _=>SM b) (ed.refl _) (λ_ h=>h) (Shaped.refl _ _) λ_ _=>rfl
 have ag9:=(dH.q4 (((p.pd xs.toList).app JW).le bW) cI).mono (Ext.refl _ _) (λb _=>SM b) (ed.refl _) (Shaped.refl _ _);have bT:=h w iM z _ p.Dr (λb bb=>yW b bb.1) ahx ag9;have he:(List.map a.eval xs.toList++us.toList).toArray=xs.map a.eval++us:=by rw[<-w3,<-Array.toList_append]
 rw[he] at bT;refine bT.mono ?_;rintro e w' ⟨u,i,W,rfl,aiC,d⟩;let C:=L++news;let I:Map:=⟨l4 X C W,λid b=>(id∉C/\X.n id b)\/ ∃k,C[k]? =aa id/\W.n k b⟩
 let s2:=s.after C (R i);have ahL: ∀k,k<L.length->C[k]? =L[k]? :=λk l=>jq l;have t: ∀id,id∈C-> ∃k:Nat,C[k]? =aa id/\k<(R i).length:=by
  intro id hid;obtain⟨k,l,e⟩:=List.mem_iff_getElem.1 hid;exact⟨k,bS.2 ⟨l,e⟩,by rw[JO];exact l⟩
 have xx: ∀id,id∉C->I id=X id:=λid h=>ov h;have AE: ∀k id,C[k]? =aa id->I id=W k:=λk id h=>pq T h;have Lo: ∀k id,k<L.length->C[k]? =aa id->(W k=X id)\/ ∃q g wG mE,X id=aa (q,g)/\1<=g/\W k=aa (wG,mE)/\g<mE/\ ∀b,wG=aa b->q=aa b\/w.heap.size<=b:=by
  intro k id l h;have bb:=d.base k (by rw[rJ];exact l);rw[ahL k l] at h;have e:z k=X id:=by simp[z,j',h]
  rw[e] at bb;exact bb
 have SI: ∀k id,L.length<=k->C[k]? =aa id->id∈news:=by
  intro k id l h;rw[iE l] at h;exact bx h
 have Lp:ed X I:=by
  intro id q g D;by_cases hid:id∈C
  ·obtain⟨k,l,_⟩:=t id hid;by_cases U:k<L.length
   ·rw[AE k id l];rcases Lo k id U l with e|⟨oG,g1,wG,mE,aN,a2,a3,a4,_⟩
    ·exact .inl (e.trans D)
    rw[D] at aN;cases aN;exact .inr ⟨a2,wG,mE,a3,a4⟩
   have:=p.eF id (vR id (SI k id O l));rw[this] at D;cases D
  exact .inl (by rw[xx id hid];exact D)
 have ag3: ∀k id,C[k]? =aa id->s2.H id=((R i)[k]?).map (E.eB C):=λk id h=>pq T h;have Sl: ∀id,id∉C->s2.H id=s.H id:=λid h=>ov h;have SL: ∀id b,id∉C->At X id b-> ¬ ∃k,At z k b:=by
  rintro id b hid bb ⟨k,h⟩;obtain⟨F,m,y⟩:=Z k b h
  have:=p.inj id F b bb y;subst this;exact hid (kd _ (bx m))
 have Dw: ∀id b,At I id b->(id∉C/\At X id b)\/ ∃k,C[k]? =aa id/\At W k b:=by
  rintro id b (⟨g,h⟩|⟨m,y⟩|⟨k,m,y⟩)
  ·by_cases hid:id∈C
   ·obtain⟨k,l,_⟩:=t id hid;rw[AE k id l] at h;exact .inr ⟨k,l,.inl ⟨g,h⟩⟩
   rw[xx id hid] at h;exact .inl ⟨hid,.inl ⟨g,h⟩⟩
  ·exact .inl ⟨m,.inr y⟩
  exact .inr ⟨k,m,.inr y⟩
 have hO: ∀b,own K I s2.H b->mS iM W (ft (R i) 0) b:=by
  rintro b (D|⟨id,m,y⟩)
  ·refine .inl ⟨.inl D,?_⟩;rintro⟨k,B⟩;rcases Ju k b B with A|A
   ·exact(p.k9 b D).2 A
   have:=(p.k9 b D).1;omega
  rcases Dw id b y with ⟨hid,h2'⟩|⟨k,l,B⟩
  ·rw[Sl id hid] at m;exact .inl ⟨.inr ⟨id,m,h2'⟩,SL id b hid h2'⟩
  have U:k<(R i).length:=by rw[JO];exact(bS.1 l).1
  refine .inr ⟨k,?_,B⟩;rw[z1,bp U];simp
 have akA: ∀k b,At W k b->k<(R i).length:=by
  rintro k b (⟨g,h⟩|h)
  ·apply w5;intro hle;rw[d.eF k hle] at h;cases h
  exact w5 λhle=>d.e9 k b hle h
 have Sn: ∀b,b<w.heap.size->own K I s2.H b->own K X s.H b:=by
  intro b St bb;rcases hO b bb with m|⟨k,_,B⟩
  ·exact m.1
  rcases(d.fresh k b B).1 with ⟨cz,_,A⟩|A
  ·exact v cz b A
  omega
 have Si:Ext (own K X s.H) w w':=d.ext.weaken λb _ ⟨k,B⟩=>v k b B;have Ss:Shaped X w w':=λb bb=>d.kA b bb;have SS: ∀k x,W k=aa x->I (C.getD k 0)=aa x:=by
  intro k x D;have hlt:k<(R i).length:=by
   apply w5;intro hle;rw[d.eF k hle] at D;cases D
  rw[JO] at hlt;have bL:C[k]? =aa C[k]:=bp hlt;rw[eQ,bL];exact(AE k _ bL).trans D
 have hold: ∀k b,At W k b->(∃id,id∈C/\At X id b)\/w.heap.size<=b:=by
  intro k b bb;rcases(d.fresh k b bb).1 with ⟨cz,A,h4⟩|A
  ·obtain⟨F,e1,e2⟩:=Z cz b h4;exact .inl ⟨F,kd _ (bx e1),e2⟩
  exact .inr A
 have hrel:Rel K I s2 a w':=by
  refine {p with ext:= ?_,base:= ?_,kA:= ?_,low:= ?_,eF:= ?_,e9:= ?_,inj:= ?_,fresh:= ?_,heap:= ?_,dC:= ?_}
  ·refine p.ext.trans' (d.ext.weaken ?_);rintro b _ ⟨k,B⟩ ⟨m,y⟩;rcases Ju k b B with A|A
   ·exact y A
   omega
  ·refine p.base.more λid hid=>?_;by_cases N:id∈C
   ·obtain⟨k,l,_⟩:=t id N;by_cases U:k<L.length
    ·rw[AE k id l];rcases Lo k id U l with e|⟨q,g,wG,mE,aN,a2,a3,a4,a5⟩
     ·exact .inl e
     exact .inr ⟨q,g,wG,mE,aN,a2,a3,a4,λb bb=>by
      rcases a5 b bb with c|c
      ·exact .inl c
      exact .inr (iF p.ext.size c)⟩
    have m:=vR id (SI k id O l);rw[p.low id hid] at m;cases m
   exact .inl (xx id N)
  ·intro b A;exact(d.kA b (mY A p.ext.size)).trans (p.kA b A)
  ·intro id hid;by_cases N:id∈C
   ·obtain⟨k,l,_⟩:=t id N;exact pq (f:=s.u) (g:=λ_=>ab) T l
   exact(ov N).trans (p.low id hid)
  ·intro id hid;by_cases N:id∈C
   ·obtain⟨k,l,_⟩:=t id N
    have:s2.u id=ab:=pq (f:=s.u) (g:=λ_=>ab) T l;rw[this] at hid;cases hid
   rw[xx id N];exact p.eF id ((ov (f:=s.u) (g:=λ_=>ab) N).symm.trans hid)
  ·rintro id b hid (⟨m,y⟩|⟨k,l,y⟩)
   ·exact p.e9 id b ((ov (f:=s.u) (g:=λ_=>ab) m).symm.trans hid) y
   have:s2.u id=ab:=pq (f:=s.u) (g:=λ_=>ab) T l;rw[this] at hid;cases hid
  ·intro id F b m y;rcases Dw id b m with ⟨m1,aN⟩|⟨k,l,aN⟩<;>rcases Dw F b y with ⟨m2,a2⟩|⟨cz,qn,a2⟩
   ·exact p.inj id F b aN a2
   ·rcases hold cz b a2 with ⟨y4,A,h4⟩|A
    ·have:=p.inj id y4 b aN h4;subst this;exact bB A m1
    have:=(p.fresh id b aN).2;omega
   ·rcases hold k b aN with ⟨y4,A,h4⟩|A
    ·have:=p.inj F y4 b a2 h4;subst this;exact bB A m2
    have:=(p.fresh F b a2).2;omega
   have:=d.inj k cz b aN a2;subst this;rw[l] at qn;cases qn;rfl
  ·intro id b m;rcases Dw id b m with ⟨_,aN⟩|⟨k,l,aN⟩
   ·exact⟨(p.fresh id b aN).1,mY (p.fresh id b aN).2 d.ext.size⟩
   refine⟨?_,(d.fresh k b aN).2⟩;rcases hold k b aN with ⟨y4,_,A⟩|A
   ·exact(p.fresh y4 b A).1
   exact .inr (iF p.ext.size A)
  ·intro id e he;by_cases N:id∈C
   ·obtain⟨k,l,U⟩:=t id N;refine⟨pq (f:=s.u) (g:=λ_=>ab) T l,?_⟩;rw[ag3 k id l,bp U] at he;simp at he;subst he;exact cX.eB (d.heap k _ (bp U)) l SS hO (λb=>⟨λh=>by
     rcases h with ⟨m,_⟩|⟨cz,m,y⟩
     ·exact bB N m
     have:=GK T m l;subst this;exact y,λh=> .inr ⟨k,l,h⟩⟩)
   rw[Sl id N] at he;obtain⟨m,y⟩:=p.heap id e he;refine⟨(ov (f:=s.u) (g:=λ_=>ab) N).trans m,?_⟩;exact y.mono Si Sn Lp (λx D=>by rw[xx id N];exact D) Ss (λb bb=>d.ext.keep b (p.fresh id b bb).2 (SL id b N bb)) (λb=>⟨λh=>by
    rcases h with ⟨_,h⟩|⟨cz,m,_⟩
    ·exact h
    exact bB (bx m) N,λh=> .inl ⟨N,h⟩⟩)
  intro j;exact(p.dC j).mono Si Sn Lp Ss
 exact l i aiC I _ w' (hrel.put o.dst cD ((d.res.eB SS).mono (Ext.refl _ _) (λb _=>hO b) (ed.refl _) (Shaped.refl _ _)))
end
section
variable {K:Ctx}{s:S}{d:Option Tmp}{ty:TypeId}{pos:String}{af:Array Edge}{g:Option (Nat×Bool)}{f:FuncId}{xs:Array Operand}{T':Array TypeId}{args:List V}{ι:Type}{nh:ι->Prop}{r:ι->V}{out:ι->List E}
theorem FZ.j{o:Oper}{u:Unit->Prop}{c:Unit->S}(h:FZ K o s u c):ej K o s (c ()):=
 λβ a w next Q e i=>h β a w next Q e λ_ _=>i
variable {ops:Array Oper}{rest:List Oper}{Q:S->Prop}{op:Op}
end
theorem XP(a b:Nat)(c:a<9223372036854775808)(e:b<9223372036854775808):bits .xor .i64 (a:Int) (b:Int)=((a ^^^ b:Nat):Int):=by have h:a ^^^ b<2^63:=Nat.xor_lt_two_pow O O;show IntKind.i64.wrap ((BitVec.ofInt 64 (a:Int) ^^^ BitVec.ofInt 64 (b:Int)).toNat:Int)=_;rw[BitVec.toNat_xor,ofInt_u64 a O,ofInt_u64 b O];exact IntWalk.i64_in _ O
section
variable {P:Program}{H:Nat->Option E}{d:Option Tmp}{ty:TypeId}{pos:String}{af:Array Edge}{g:Option (Nat×Bool)}
theorem PY(n:Int):IntKind.u8.wrap n=((UInt8.ofInt n).toNat:Int):=by
 have:IntKind.u8.wrap n=n%256:=by simp[IntKind.wrap,IntKind.bits,IntKind.signed]
 rw[this];simp[UInt8.ofInt];omega
theorem afF(a b:UInt8):IntKind.u8.wrap ((a.toNat:Int)-(b.toNat:Int))=((a-b).toNat:Int):=by rw[PY];congr 2;apply UInt8.toNat_inj.1;have c:=UInt8.toNat_lt a;have e:=UInt8.toNat_lt b;simp[UInt8.ofInt,UInt8.toNat_sub];omega
theorem Yc(x:Operand)(c k e:TypeId)(l:List UInt8)(B:P.underlying c=aa (.slice e))(C:P.underlying e=aa (.int .u8))(F:P.underlying k=aa .string):
  cc P H ⟨d,.convert c k x,ty,pos,af,g⟩ [Ub (l.map oH)] (bA l):=by
 intro D w X G _ I;refine⟨.string ⟨l.toArray⟩,?_,.t _ _ (.str l)⟩;have R:bq D w X (Ub (l.map oH)) (G x):=I.1;simp only[execOp];suffices (convert c k (G x)).run P w= .ok (.string ⟨l.toArray⟩) w by
  simp only[fx,this,fu,kF]
 generalize G x=y at R⊢;cases R with
 |t _ _ h=>
  generalize W:l.map oH=Z at h;cases h with
  |gX a m=>
   have p:l=[]:=by simpa using W
   subst p;rw[run_convert_bytes_string w c k e _ _ _ B C F];cases a with
   |none=>simp[Conv.bytesToString];rfl
   |some a=>
    rw[run_bytesToString w a 0 m [] (by simp[loadCells,loadCellsFrom,kF])];rfl
  |bE _ b n r m f S T j K M L=>
   subst W;cases p:l with
   |nil=>
    subst p
    have:=run_convert_bytes_arg (P:=P) w c e B C b n 0 m [] rfl (λi u=>O) k F;exact this
   |cons y U=>
    rw[<-p];have o:r=1:=by
     have:=K (oH y) (by rw[p];simp);simpa using this.symm
    subst o;have N: ∀(i:Nat) (z:UInt8),l[i]? =aa z->f i 0= .int .u8 (z.toNat:Int):=by
     intro i z s;have v:=L i 0 (oH z) (.int .u8 (z.toNat:Nat)) (by rw[eL,s];rfl) rfl;generalize f i 0=q at v⊢;cases v;rfl
    have:=run_convert_bytes_arg (P:=P) w c e B C b n (l.map oH).length m (l.map λz=>(z.toNat:Int)) aX (λi u=>by
     have A:i<l.length:=by simpa using u
     have s:l[i]? =aa l[i]:=bp A;have Q:=M i 0 (by simpa using A) O;rw[N i _ s] at Q;rw[show n+i*1+0=n+i by omega] at Q;rw[Q];simp[List.getD_eq_getElem?_getD,s]) k F
    rw[this];congr 2;simp only[strOfNums,List.map_map];congr 2;apply zZ;intro i;rw[eL];cases s:l[i]? with
    |none=>rfl
    |some z=>simp
end
section
variable {K:Ctx}{s:S}{d:Option Tmp}{ty:TypeId}{pos:String}{af:Array Edge}{g:Option (Nat×Bool)}
variable {t:TypeId}{u:TypeDesc}{z:Value}{size bytes:Nat}
theorem acd(k:Nat)(r:s.u k=ak)(e:TypeId)(y: ∀i,d=aa i->dt i K.nt=ab)(A:K.P.underlying t=aa (.slice e))(B:ct K.P e u z size bytes):
  ej K ⟨d,.buildSlice t 0 #[],ty,pos,af,g⟩ s ((s.new k (.arr e 1 size [])).put d (.bg k 1 size 0 0)):=by
 intro p a w next Q C m
 have c:(execOp a.eval ⟨d,.buildSlice t 0 #[],ty,pos,af,g⟩).run K.P w= .ok (.value (.slice (aa ⟨w.heap.size,0,aj⟩) 0 0)) (w.alloc (.cells #[] e)):=by
  simp only[execOp,Instr.buildSlice,fx,run_underlying A,fu,B.run_sizeOf,Nat.zero_mul,show¬(0>2^24) by decide,if_false,if_true];simp only[Instr.fill,fx,kF,fu,show Array.range 0= #[] from by simp[Array.range],List.map_toArray,List.map_nil];rfl
 unfold Oper.wp;rw[c];have l:=C.new k 1 r #[] e (.arr e 1 size []) λF X Z G L R=>⟨cR _,Or.inr ⟨w.heap.size,_,L,by subst G;exact kP _ _,aX,λ_ h=>by simp at h,λi j W x u h=>by simp at h⟩⟩
 have n:(w.alloc (.cells #[] e)).heap.size=w.heap.size+1:=World.size_alloc ..;have o:(w.alloc (.cells #[] e)).shape? w.heap.size=aa (e,0):=by unfold hz;rw[kP];simp
 have q:bq (p.put k (aa (aa w.heap.size,1))) (w.alloc (.cells #[] e)) (own K (p.put k (aa (aa w.heap.size,1))) (s.new k (.arr e 1 size [])).H) (.bg k 1 size 0 0)
   (.slice (aa ⟨w.heap.size,0*size,aj⟩) 0 0):= .bg k 1 size 0 0 0 w.heap.size 0 e (cR _) (cd _ _ _) (n▸pF _) o aX (cR _) (by unfold maxLen;omega)
 rw[ik] at q;exact m _ _ _ (l.put d y q)
end
def IH:Option TypeDesc->Bool
 |some (.int .i64)=>ab
 |_=>ak
theorem aci{o:Option TypeDesc}(h:IH o=ab):o=aa (.int .i64):=by
 unfold IH at h
 grind
def wW(P:Program):List Field->Nat->Bool
 | [],_=>ab
 |f::a,i=>f.name != "_" &&IH (P.underlying f.type)&&b5 f.offset i&&wW P a (i+1)
theorem Kr{P:Program}{w:World}{xs ys:Array Value}: ∀(a:List Field) (i:Nat) (ms c:List Int),wW P a i=ab->ms.length=a.length->c.length=a.length->
  (∀(j:Nat) m,ms[j]? =aa m->xs[i+j]? =aa (.int .i64 m))->(∀(j:Nat) m,c[j]? =aa m->ys[i+j]? =aa (.int .i64 m))->
  (Op.eqFields 9999 xs ys a).run P w= .ok (ag (ms=c)) w
 | [],i,ms,c,_,e,h,_,_=>by
  have B:ms=[]:=by simpa using e
  have C:c=[]:=by simpa using h
  subst B;subst C;simp[Op.eqFields]
 |f::a,i,[],c,_,e,_,_,_=>by simp at e
 |f::a,i,m::ms,[],_,_,h,_,_=>by simp at h
 |f::a,i,m::ms,n::c,x,e,h,y,z=>by
  simp only[wW,b9] at x;obtain⟨⟨⟨F,l⟩,fc⟩,G⟩:=x;have l:=aci l;have fc:=de fc;have o:f.name≠ "_" :=by simpa using F
  have A: ∀(cs:Array Value) (v:Value),cs[i]? =aa v->(part f.type cs f.offset).run P w= .ok v w:=by
   intro cs v K;rw[fc];simp[part,isAgg,run_underlying l,K]
  have p:=y 0 m rfl;have r:=z 0 n rfl;have L:=Kr (P:=P) (w:=w) a (i+1) ms c G (by simpa using e) (by simpa using h)
   (λj q s=>by rw[show i+1+j=i+(j+1) by omega];exact y (j+1) q (by simpa using s))
   λj q s=>by rw[show i+1+j=i+(j+1) by omega];exact z (j+1) q (by simpa using s)
  simp only[Op.eqFields,o,ne_eq,not_false_eq_true,if_true,fx,A xs _ p,A ys _ r,fu,run_equalIn_int w 9998 f.type .i64 .i64 m n l];by_cases k:m=n
  ·subst k;simp[L]
  simp[k]
section
variable {P:Program}{H:Nat->Option E}{d:Option Tmp}{ty:TypeId}{pos:String}{af:Array Edge}{g:Option (Nat×Bool)}
theorem Cd{W:Map}{w:World}{X:Nat->Prop}{e:List Int}{u:Value}(h:bq W w X (.agg (e.map U)) u): ∃a:Array Value,u= .agg a/\ ∀(j:Nat) m,e[j]? =aa m->a[j]? =aa (.int .i64 m):=by
 cases h with
 |agg _ a n o=>
  refine⟨a,rfl,λj m i=>?_⟩;have c:j<a.size:=by
   rw[n,dJ];exact(bS.1 i).1
  have k:a[j]? =aa a[j]:=iY c;have l:=o j (U m) _ (by rw[eL,i];rfl) k;rw[k];generalize a[j]=q at l;cases l with|t _ _ h=>cases h;rfl
theorem YU(x y:Operand)(t r:TypeId)(a c:List Int)(s:P.underlying t=aa (.struct (P.fieldsOf t)))(z:P.stoodInHeld t=ak)(A:P.eqGuardType P.depth t=ak)
  (B:wW P (P.fieldsOf t).toList 0=ab) (e:b5 a.length (P.fieldsOf t).size=ab) (h:b5 c.length (P.fieldsOf t).size=ab):
  cc P H ⟨d,.binOp .neq t x y r,ty,pos,af,g⟩ [.agg (a.map U),.agg (c.map U)] (aL (!decide (a=c))):=by
 intro F w X p _ q;obtain⟨i,k,eM⟩:=Cd q.1;obtain⟨l,n,cF⟩:=Cd q.2.1;refine⟨.bool (!decide (a=c)),?_,.t _ _ (.bool _)⟩;have e:=de e;have h:=de h;have C:=Kr (P:=P) (w:=w) (xs:=i) (ys:=l) (P.fieldsOf t).toList 0 a c B (by simpa using e) (by simpa using h) (λj m o=>by simpa using eM j m o) λj m o=>by simpa using cF j m o
 have k:p x=_:=k;have n:p y=_:=n;simp only[execOp,k,n,fx,run_eqGuard_agg w .neq t x y i l A,fu,run_neq_struct,run_equalIn_struct w 9999 t i l s z,C,kF]
theorem Y1(x y:Operand)(t r:TypeId)(a c:List Int)(s:P.underlying t=aa (.struct (P.fieldsOf t)))(z:P.stoodInHeld t=ak)(A:P.eqGuardType P.depth t=ak)
  (B:wW P (P.fieldsOf t).toList 0=ab) (e:b5 a.length (P.fieldsOf t).size=ab) (h:b5 c.length (P.fieldsOf t).size=ab):
  cc P H ⟨d,.binOp .eql t x y r,ty,pos,af,g⟩ [.agg (a.map U),.agg (c.map U)] (aL (ag (a=c))):=by
 intro F w X p _ q;obtain⟨i,k,eM⟩:=Cd q.1;obtain⟨l,n,cF⟩:=Cd q.2.1;refine⟨.bool (ag (a=c)),?_,.t _ _ (.bool _)⟩;have e:=de e;have h:=de h;have C:=Kr (P:=P) (w:=w) (xs:=i) (ys:=l) (P.fieldsOf t).toList 0 a c B (by simpa using e) (by simpa using h) (λj m o=>by simpa using eM j m o) λj m o=>by simpa using cF j m o
 have k:p x=_:=k;have n:p y=_:=n;simp only[execOp,k,n,fx,run_eqGuard_agg w .eql t x y i l A,fu,run_eql_struct,run_equalIn_struct w 9999 t i l s z,C,kF]
end
def Bi(P:Program)(t:TypeId)(n:Nat):Prop:=P.underlying t=aa (.struct (P.fieldsOf t))/\P.stoodInHeld t=ak/\P.eqGuardType P.depth t=ak/\wW P (P.fieldsOf t).toList 0=ab/\(P.fieldsOf t).size=n
section
variable {P:Program}{H:Nat->Option E}{d:Option Tmp}{ty:TypeId}{pos:String}{af:Array Edge}{g:Option (Nat×Bool)}
theorem abP(x y:Operand)(t l:TypeId){n:Nat}(i k:List Int)(h:Bi P t n)(m:b5 i.length n=ab)(o:b5 k.length n=ab):
  cc P H ⟨d,.binOp .neq t x y l,ty,pos,af,g⟩ [.agg (i.map U),.agg (k.map U)] (aL (!decide (i=k))):=by obtain⟨a,b,c,e,f⟩:=h;exact YU x y t l i k a b c e (by rw[f];exact m) (by rw[f];exact o)
theorem abR(x y:Operand)(t l:TypeId){n:Nat}(i k:List Int)(h:Bi P t n)(m:b5 i.length n=ab)(o:b5 k.length n=ab):
  cc P H ⟨d,.binOp .eql t x y l,ty,pos,af,g⟩ [.agg (i.map U),.agg (k.map U)] (aL (ag (i=k))):=by obtain⟨a,b,c,e,f⟩:=h;exact Y1 x y t l i k a b c e (by rw[f];exact m) (by rw[f];exact o)
end
inductive F6 where
 |bool
 |int (k:IntKind)
 |string
 |slice (e:Nat)
 |array (n e:Nat)
 |struct (alZ:List (Nat×Nat))
 |S6
 |other
structure cv where
 u:F6
 z:Value
 size:Nat
 bytes:Nat
 places:Array (Nat×Nat)
def F6.agg:F6->Bool
 | .struct _=>ab
 | .array _ _=>ab
 |_=>ak
def cv.is(P:Program)(i:cv)(u:TypeDesc):Prop:=match i.u with
 | .bool=>u= .bool
 | .int k=>u= .int k
 | .string=>u= .string
 | .slice e=>u= .slice e
 | .array n e=>u= .array n e
 | .struct l=> ∃a,u= .struct a/\a.toList.map (λf=>(f.type,f.offset))=l/\ ∀w,(a.mapM (m:=Sem) λf:Field=>do pure (f.offset,<-sizeOf f.type)).run P w= .ok i.places w
 | .S6=> ∃m,u= .interface m
 | .other=>ll u=ak
def cv.ok(P:Program)(t:TypeId)(i:cv):Prop:= ∃u,ct P t u i.z i.size i.bytes/\i.is P u
variable {P:Program}{t:TypeId}{i:cv}{a b n:Int}{k R:Type}{x:k}{r l:List k}
theorem cv.ok.agg(h:i.ok P t): ∃u,ct P t u i.z i.size i.bytes/\ll u=i.u.agg:=by
 obtain⟨u,e,c⟩:=h;refine⟨u,e,?_⟩;unfold cv.is at c;split at c
 ·rename_i a;rw[a,c];rfl
 ·rename_i a;rw[a,c];rfl
 ·rename_i a;rw[a,c];rfl
 ·rename_i a;rw[a,c];rfl
 ·rename_i a;rw[a,c];rfl
 ·rename_i a;rw[a];obtain⟨k,d,_⟩:=c;rw[d];rfl
 ·rename_i a;rw[a];obtain⟨m,d⟩:=c;rw[d];rfl
 rename_i a;rw[a,c];rfl
theorem cv.ok.jo(h:i.ok P t):(i.u= .bool->P.underlying t=aa .bool)/\(∀k,i.u= .int k->P.underlying t=aa (.int k))/\(i.u= .string->P.underlying t=aa .string)/\
  ∀e,i.u= .slice e->P.underlying t=aa (.slice e):=by obtain⟨u,d,c⟩:=h;refine⟨λa=>?_,λk a=>?_,λa=>?_,λe a=>?_⟩<;>simp only[cv.is,a] at c<;>rw[<-c]<;>exact d.1
theorem cv.ok.st{l:List (Nat×Nat)}(h:i.ok P t)(c:i.u= .struct l): ∃a,ct P t (.struct a) i.z i.size i.bytes/\a.toList.map (λf=>(f.type,f.offset))=l/\ ∀w,(a.mapM (m:=Sem) λf:Field=>do pure (f.offset,<-sizeOf f.type)).run P w= .ok i.places w:=by
 obtain⟨u,e,d⟩:=h;simp only[cv.is,c] at d
 grind
def dL:List (Nat×cv)->Nat->Option cv
 | [],_=>aj
 |(t,i)::l,k=>bif b5 t k then aa i else dL l k
def ek(P:Program)(a:List (Nat×cv)):Prop:= ∀t i,dL a t=aa i->i.ok P t
theorem ek.nil:ek P []:=λ_ _ h=>by cases h
theorem ek.cons{a:List (Nat×cv)}{t:Nat}(h:i.ok P t)(e:ek P a):ek P ((t,i)::a):=by
 intro k j c;simp only[dL] at c;cases d:b5 t k with
 |true=>rw[d] at c;cases c;rw[<-de d];exact h
 |false=>rw[d] at c;exact e k j c
inductive cB where
 |row (r:List T)
 |rows (r:List (List T))
 |str (s:List UInt8)
 |int (n:Int)
 |nat (n:Nat)
 |b (w:Bool)
 |y (b:UInt8)
 |v (v:V)
 |grow (slot k:Nat) (e:TypeId)
 |Dq (b j k:Nat)
 |fb (b j k:Nat) (e:TypeId)
 |len (slot n:Nat)
 |fg (b j n:Nat)
 |tu (k:Nat) (dC:List Nat)
 |bh (k:Nat) (dC blocks:List Nat)
 |dT (k cz:Nat) (dC blocks:List Nat)
 |at (rem:Nat)
 |dR (L news:List Nat) (r:V) (out:List E)
 |ei (k:Nat) (Γ:List dB) (m:Nat)
 |dp (k:Nat)
 |en (k cz i j:Nat) (row:List T)
 |dz (k cz:Nat) (row:List T) (R:List (List T))
 |lt (k:Nat) (Γ:List dB) (m:Nat)
 |R' (k i j:Nat) (row:List T)
 |EW (k:Nat) (row:List T) (R:List (List T))
 |Ds (i j k:Nat) (e:TypeId)
 |cut (k n:Nat) (R:List (List T))
inductive dE where
 |p (p:Prop)
 |q (a b:Nat)
def cy:List dE->Prop
 | []=>True
 | .p p::l=>p/\cy l
 | .q a b::l=>a=b/\cy l
def zs:List dE->Prop
 | []=>True
 | .p p::l=>p/\zs l
 | .q _ _::l=>zs l
def wE:List dE->List Nat
 | []=>[]
 | .p _::l=>wE l
 | .q a _::l=>a::wE l
def wF:List dE->List Nat
 | []=>[]
 | .p _::l=>wF l
 | .q _ b::l=>b::wF l
theorem cy.of: ∀{l:List dE},zs l->wE l=wF l->cy l
 | [],_,_=>trivial
 | .p _::_,h,k=>⟨h.1,cy.of h.2 k⟩
 | .q _ _::_,h,k=>by simp only[wE,wF,List.cons.injEq] at k;exact⟨k.1,cy.of h k.2⟩
theorem cy.app: ∀{l m:List dE},cy (l++m)->cy l/\cy m
 | [],_,h=>⟨trivial,h⟩
 | .p _::_,_,h=>⟨⟨h.1,(cy.app h.2).1⟩,(cy.app h.2).2⟩
 | .q _ _::_,_,h=>⟨⟨h.1,(cy.app h.2).1⟩,(cy.app h.2).2⟩
def ax{k:Type}(l:List k)(i:Int):Option k:=if 0<=i then l[i.toNat]? else aj
def sub{k:Type}(l:List k)(a b:Int):Option (List k):=if 0<=a/\a<=b/\b<=l.length then aa ((l.take b.toNat).drop a.toNat) else aj
def cat(a b:List UInt8):Option (List UInt8):=if(a.length:Int)+b.length<=9223372036854775807 then aa (a++b) else aj
def app{k:Type}(a b:List k):Option (List k):=if a.length+b.length<=1000000000 then aa (a++b) else aj
def mk{k:Type}(n:Int)(x:k):Option (List k):=if 0<=n/\n<=1000000000 then aa (List.replicate n.toNat x) else aj
def ca{k:Type}(l:List k)(i:Int)(x:k):Option (List k):=if 0<=i/\i<l.length then aa (l.set i.toNat x) else aj
def wr(n:Int):Int:=IntKind.i64.wrap n
theorem nF{i:Int}(h:ax l i=aa x):0<=i/\l[i.toNat]? =aa x:=by
 unfold ax at h
 grind
theorem Q2{i:Int}(f:k->R)(h:ax l i=aa x):ax (l.map f) i=aa (f x):=by
 obtain⟨a,c⟩:=nF h;unfold ax
 grind
theorem Bx(h:sub l a b=aa r):0<=a/\a<=b/\b<=l.length/\r=(l.take b.toNat).drop a.toNat:=by
 unfold sub at h
 grind
theorem sx(f:k->R)(h:sub l a b=aa r):sub (l.map f) a b=aa (r.map f):=by obtain⟨c,d,e,rfl⟩:=Bx h;unfold sub;rw[aR ⟨c,d,by simpa using e⟩,List.map_drop,uJ]
theorem uV{a b:List k}(h:app a b=aa r):a.length+b.length<=1000000000/\r=a++b:=by
 unfold app at h
 grind
theorem b'{a b:List k}(f:k->R)(h:app a b=aa r):app (a.map f) (b.map f)=aa (r.map f):=by
 obtain⟨c,rfl⟩:=uV h;unfold app
 grind
theorem py(h:mk n x=aa r):0<=n/\n<=1000000000/\r=List.replicate n.toNat x:=by
 unfold mk at h
 grind
theorem sU(f:k->R)(h:mk n x=aa r):mk n (f x)=aa (r.map f):=by obtain⟨a,c,rfl⟩:=py h;unfold mk;rw[aR ⟨a,c⟩,List.map_replicate]
theorem uk{i:Int}(h:ca l i x=aa r):0<=i/\i<l.length/\r=l.set i.toNat x:=by
 unfold ca at h
 grind
theorem acT{a b r:List UInt8}(h:cat a b=aa r):(a.length:Int)+b.length<=9223372036854775807/\r=a++b:=by
 unfold cat at h
 grind
mutual
def oD:V->V
 | .t .fT=> .t (.bE [])
 | .agg cs=> .agg (ie cs)
 | .bM cs=> .bM (ie cs)
 | .t (.bE r)=> .t (.bE r)
 | .t (.int k n)=> .t (.int k n)
 | .t (.bool b)=> .t (.bool b)
 | .t (.str s)=> .t (.str s)
 |v=>v
def ie:List V->List V
 | []=>[]
 |c::cs=>oD c::ie cs
end
mutual
theorem u': ∀v:V,dN v (oD v)
 | .t .fT=>dN.nil
 | .t (.bE _)| .t (.int _ _)| .t (.bool _)| .t (.str _)| .t .iA| .t .hn| .t .oC| .t .err=>dN.refl _
 | .agg cs=>dN.agg (nL cs)
 | .bM cs=>dN.bM (nL cs)
 | .ref _ _| .aS _| .bg _ _ _ _ _| .cK _ _ _ _ _| .fn _ _| .dh=>dN.refl _
theorem nL: ∀cs:List V,fU cs (ie cs)
 | []=>trivial
 |c::cs=>⟨u' c,nL cs⟩
end
theorem ue: ∀cs:List V,(ie cs).length=cs.length
 | []=>rfl
 |c::cs=>by simp[ie,ue cs]
def vx(k:Option Nat):List V->List V
 | [.t .fT]=>match k with
  |some _=>[.t .fT]
  |none=>ie [.t .fT]
 |vs=>ie vs
theorem aeC(k:Option Nat)(a:List V):fU a (vx k a):=by
 unfold vx;split
 ·split
  ·exact fU.refl _
  exact nL _
 exact nL _
theorem X0(k:Option Nat)(a:List V):(vx k a).length=a.length:=by
 unfold vx;split
 ·split
  ·rfl
  exact ue _
 exact ue _
def zP:V->Option T
 | .t x=>aa x
 |_=>aj
def mx:List V->Option (List T)
 | []=>aa []
 |v::a=>match zP v,mx a with
  |some x,aa c=>aa (x::c)
  |_,_=>aj
theorem pw: ∀{a:List V} {c:List T},mx a=aa c->a=c.map .t
 | [],_,h=>by cases h;rfl
 |v::a,c,h=>by
  simp only[mx] at h;split at h
  ·rename_i x i e d;cases h;have d:=pw d;cases v<;>simp[zP] at e;subst e;subst d;rfl
  cases h
def yd:List V->Option (List Int)
 | []=>aa []
 | .t (.int .i64 m)::a=>match yd a with
  |some ms=>aa (m::ms)
  |none=>aj
 |_=>aj
theorem Am: ∀{a:List V} {ms:List Int},yd a=aa ms->a=ms.map U
 | [],_,h=>by cases h;rfl
 |v::a,ms,h=>by
  unfold yd at h;split at h
  ·rename_i c;cases c
  ·rename_i m d c;cases c;split at h
   ·rename_i e i;cases h;rw[Am i];rfl
   cases h
  cases h
abbrev iL:=Option (V×List dE×List cB)
def Rx(a:BinOp)(m n:Int):Option Bool:=
 match a with
 | .eql=>aa (ag (m=n))
 | .neq=>aa (!decide (m=n))
 | .lss=>aa (ag (m<n))
 | .leq=>aa (ag (m<=n))
 | .gtr=>aa (ag (n<m))
 | .geq=>aa (ag (n<=m))
 |_=>aj
def Rm(a:BinOp):Bool:=
 match a with
 | .and| .or| .xor| .andNot=>ab
 |_=>ak
def IV(op:BinOp)(k:IntKind)(m n:Int)(a:List cB):iL:=
 match op with
 | .add=>aa (.t (.int k (k.wrap (m+n))),[],a)
 | .sub=>aa (.t (.int k (k.wrap (m-n))),[],a)
 | .mul=>aa (.t (.int k (k.wrap (m*n))),[],a)
 | .quo=>aa (.t (.int k (k.wrap (m.tdiv n))),[.p (n≠0)],a)
 | .rem=>aa (.t (.int k (m.tmod n)),[.p (n≠0)],a)
 | .and=>aa (.t (.int k (bits .and k m n)),[],a)
 | .or=>aa (.t (.int k (bits .or k m n)),[],a)
 | .xor=>aa (.t (.int k (bits .xor k m n)),[],a)
 | .andNot=>aa (.t (.int k (bits .andNot k m n)),[],a)
 | .shl| .shr=>aj
 |op=>match Rx op m n with
  |some b=>aa (.t (.bool b),[],a)
  |none=>aj
def IL(c:BinOp)(m n:List UInt8)(a:List cB):iL:=
 match c,a with
 | .add,.str r::a=>aa (.t (.str r),[.p (cat m n=aa r)],a)
 | .eql,a=>aa (.t (.bool (ag (m=n))),[],a)
 | .neq,a=>aa (.t (.bool (!decide (m=n))),[],a)
 | .geq,a=>aa (.t (.bool (!Op.bytesLess m n)),[],a)
 | .lss,a=>aa (.t (.bool (Op.bytesLess m n)),[],a)
 | .gtr,a=>aa (.t (.bool (!Op.bytesLess m n&& !m==n)),[],a)
 | .leq,a=>aa (.t (.bool (Op.bytesLess m n||m==n)),[],a)
 |_,_=>aj
def IA:Option cv->Bool
 |some i=>match i.u with
  | .bool=>ab
  |_=>ak
 |none=>ak
def IJ(P:Program)(e:List (Nat×cv))(d:BinOp)(t:TypeId)(v w:V)(a:List cB):iL:=
 match v,w with
 | .t (.int k m),.t (.int h n)=>if k=h then IV d k m n a else aj
 | .t (.str m),.t (.str n)=>IL d m n a
 | .t (.bool p),.t (.bool q)=>match IA (dL e t),d with
  |true,.eql=>aa (.t (.bool (p==q)),[],a)
  |true,.neq=>aa (.t (.bool (!(p==q))),[],a)
  |_,_=>aj
 | .agg cs,.agg i=>match yd cs,yd i,d,a with
  |some ms,aa c,.eql,.b b::a=>aa (.t (.bool b),[.p (Bi P t ms.length),.q c.length ms.length,.p (ag (ms=c)=b)],a)
  |some ms,aa c,.neq,.b b::a=>aa (.t (.bool (!b)),[.p (Bi P t ms.length),.q c.length ms.length,.p (ag (ms=c)=b)],a)
  |_,_,_,_=>aj
 |_,_=>aj
def IG:Option cv->Bool
 |some i=>match i.u with
  | .S6=>ab
  |_=>ak
 |none=>ak
def qA:Operand->Bool
 | .const _=>ab
 |_=>ak
def IW(c:List (Nat×cv))(d:BinOp)(t:TypeId)(x y:Operand)(v w:V)(a:List cB):iL:=
 match IG (dL c t),qA x||qA y,v,w,d with
 |true,ab,.t .err,.t .hn,.eql=>aa (.t (.bool ak),[],a)
 |true,ab,.t .err,.t .hn,.neq=>aa (.t (.bool ab),[],a)
 |true,ab,.t .hn,.t .hn,.eql=>aa (.t (.bool ab),[],a)
 |true,ab,.t .hn,.t .hn,.neq=>aa (.t (.bool ak),[],a)
 |_,_,_,_,_=>aj
def I4(c:UnOp)(v:V)(a:List cB):iL:=
 match c,v with
 | .not,.t (.bool b)=>aa (.t (.bool (!b)),[],a)
 | .neg,.t (.int k n)=>aa (.t (.int k (k.wrap (0-n))),[],a)
 |_,_=>aj
def Ha(a:List (Nat×cv)):Option cv->Bool
 |some i=>match i.u with
  | .slice e=>match dL a e with
   |some j=>match j.u with
    | .int .u8=>ab
    |_=>ak
   |none=>ak
  |_=>ak
 |none=>ak
def Io(d:List (Nat×cv))(e h:TypeId)(v:V)(a:List cB):iL:=
 match dL d e,dL d h with
 |some i,aa j=>match j.u,v,a with
  | .int k,.t (.int _ n),.int m::a=>aa (.t (.int k m),[.p (k.wrap n=m)],a)
  | .int .u8,.t (.int _ n),.y m::a=>aa (.t (.int .u8 (m.toNat:Nat)),[.p (UInt8.ofInt n=m)],a)
  | .string,.t (.bE c),.str l::a=>match Ha d (aa i) with
   |true=>aa (.t (.str l),[.p (c=l.map oH)],a)
   |false=>aj
  |_,_,_=>aj
 |_,_=>aj
def u6(n:List (Nat×cv))(H:Nat->Option E)(t:TypeId)(v:V)(h:List cB):iL:=
 match dL n t with
 |none=>aj
 |some i=>match v with
  | .ref id a=>match H id with
   |some (.cells cs)=>match i.u.agg with
    |true=>match db (a+i.size) cs.length with
     |true=>aa (.agg ((cs.drop a).take i.size),[],h)
     |false=>aj
    |false=>match cs[a]? with
     |some c=>aa (c,[],h)
     |none=>aj
   |_=>aj
  | .aS cs=>match i.u.agg with
   |true=>match db i.size cs.length with
    |true=>aa (.agg ((cs.take i.size).map .t),[],h)
    |false=>aj
   |false=>match cs with
    |c::_=>aa (.t c,[],h)
    | []=>aj
  | .cK id gen m k a=>match H id,i.u.agg,h with
   |some (.arr _ d l e),ak,.row r::h=>match r[a]? with
    |some c=>aa (.t c,[.q d gen,.q l m,.p (e[k]? =aa r)],h)
    |none=>aj
   |some (.arr _ d l e),ab,.row r::h=>match db (a+i.size) r.length with
    |true=>aa (.agg (((r.drop a).take i.size).map .t),[.q d gen,.q l m,.p (e[k]? =aa r)],h)
    |false=>aj
   |_,_,_=>aj
  |_=>aj
def ta(j:Nat):List (Nat×Nat×V)->Option (Nat×V)
 | []=>aj
 |h::a=>bif b5 h.2.1 j then aa (h.1,h.2.2) else ta j a
def sY(a:List (Nat×Nat×V)):Nat->Nat->Option (List (Nat×V))
 |_,0=>aa []
 |j,n+1=>match ta j a,sY a (j+1) n with
  |some x,aa l=>aa (x::l)
  |_,_=>aj
def s0(k:Nat):List (Nat×V)->List dE
 | []=>[]
 |x::l=> .q x.1 k::s0 k l
def th(i j:Nat):List (Nat×Nat×V)->List dE
 | []=>[]
 |h::a=>bif b5 h.2.1 j then .p (i≠h.1)::th i j a else th i j a
theorem x4{i j:Nat}: ∀{c:List (Nat×Nat×V)},cy (th i j c)-> ∀v,(i,j,v)∉c
 | [],_,_,h=>by cases h
 |h::c,a,v,hm=>by
  unfold th at a;cases d:b5 h.2.1 j with
  |true=>
   rw[d] at a;rcases ez.1 hm with rfl|hm
   ·exact a.1 rfl
   exact x4 a.2 v hm
  |false=>
   rw[d] at a;rcases ez.1 hm with rfl|hm
   ·simp at d
   exact x4 a v hm
def H5(y:List (Nat×cv))(H:Nat->Option E)(t:TypeId)(v:V)(h:List cB):iL:=
 match dL y t,v,h with
 |some i,.cK id gen o k a,.row r::h=>match H id with
  |some (.a7 n m d e s)=>match i.u.agg with
   |false=>match r[a]?,ta a s with
    |some c,aj=>match (aU n m).eV a with
     |none=>aa (.t c,[.q d gen,.q (aU n m).size o,.p (e[k]? =aa r)],h)
     |some _=>aj
    |some _,aa (w,x)=>aa (x,[.q d gen,.q (aU n m).size o,.p (e[k]? =aa r),.q w k],h)
    |none,_=>aj
   |true=>match db (a+i.size) r.length,sY s a i.size with
    |true,aa l=>aa (.agg (l.map (·.2)),.q d gen:: .q (aU n m).size o:: .p (e[k]? =aa r)::s0 k l,h)
    |_,_=>aj
  |_=>aj
 |some i,.cK id gen o k a,.int q:: .row r::h=>match H id with
  |some (.a7 n m d e s)=>match i.u.agg,r[a]?,s[q.toNat]? with
   |false,aa _,aa (w,z,x)=>aa (x,[.q d gen,.q (aU n m).size o,.p (e[k]? =aa r),.q w k,.q z a],h)
   |true,_,_=>match db (a+i.size) r.length,sY (s.drop q.toNat) a i.size with
    |true,aa l=>aa (.agg (l.map (·.2)),.q d gen:: .q (aU n m).size o:: .p (e[k]? =aa r)::s0 k l,h)
    |_,_=>aj
   |_,_,_=>aj
  |_=>aj
 |some i,.cK id gen o k a,.nat _:: .row r::h=>match H id with
  |some (.a7 n m d e s)=>match i.u.agg,r[a]?,(aU n m).eV a with
   |false,aa c,aj=>aa (.t c,.q d gen:: .q (aU n m).size o:: .p (e[k]? =aa r)::th k a s,h)
   |_,_,_=>aj
  |_=>aj
 |_,_,_=>aj
def IY(e:List (Nat×cv))(t:TypeId)(k:Nat)(v:V)(h:List cB):iL:=
 match dL e t with
 |none=>aj
 |some i=>match i.u with
  | .struct l=>match l[k]? with
   |none=>aj
   |some a=>match dL e a.1 with
    |none=>aj
    |some j=>match v with
     | .agg d=>match j.u.agg with
      |true=>match db (a.2+j.size) d.length with
       |true=>aa (.agg ((d.drop a.2).take j.size),[],h)
       |false=>aj
      |false=>match d[a.2]? with
       |some c=>aa (c,[],h)
       |none=>aj
     |_=>aj
  |_=>aj
def H7(m:List (Nat×cv))(H:Nat->Option E)(t:TypeId)(k:Nat)(v:V)(e:List cB):iL:=
 match dL m t with
 |none=>aj
 |some i=>match i.u with
  | .struct o=>match o[k]? with
   |none=>aj
   |some a=>match dL m a.1 with
    |none=>aj
    |some j=>match b5 j.size 0 with
     |true=>aj
     |false=>match v with
      | .ref id d=>aa (.ref id (d+a.2),[],e)
      | .aS cs=>aa (.aS (cs.drop a.2),[],e)
      | .cK id gen h n d=>match H id with
       |some (.arr _ c l _)=>aa (.cK id gen h n (d+a.2),[.q c gen,.q l h],e)
       |some (.a7 _ _ c _ _)=>aa (.cK id gen h n (d+a.2),[.q c gen],e)
       |_=>aj
      |_=>aj
  |_=>aj
def IX(s:List (Nat×cv))(H:Nat->Option E)(t:TypeId)(v w:V)(h:List cB):iL:=
 match dL s t with
 |none=>aj
 |some i=>match i.u with
  | .slice e=>match dL s e with
   |none=>aj
   |some j=>match v,w with
    | .t (.bE l),.t (.int .i64 n)=>match h with
     | .row r::h=>match b5 r.length j.size with
      |true=>aa (.aS r,[.p (ax l n=aa r)],h)
      |false=>aj
     |_=>aj
    | .bg id gen a d o,.t (.int .i64 n)=>match H id,b5 a j.size with
     |some (.arr _ c x _),ab=>aa (.cK id gen a (d+n.toNat) 0,[.q c gen,.q x a,.p (0<=n/\n<(o:Int))],h)
     |some (.a7 _ _ c _ _),ab=>aa (.cK id gen a (d+n.toNat) 0,[.q c gen,.p (0<=n/\n<(o:Int))],h)
     |_,_=>aj
    |_,_=>aj
  | .array m e=>match dL s e with
   |none=>aj
   |some j=>match v,w,h with
    | .ref id d,.t (.int .i64 n),.nat k::h=>match db (k+1) m with
     |true=>aa (.ref id (d+k*j.size),[.p (n=(k:Int))],h)
     |false=>aj
    |_,_,_=>aj
  |_=>aj
def yj:Option cv->Bool
 |some i=>match i.u with
  | .string=>ab
  |_=>ak
 |none=>ak
def yu:Option cv->Bool
 |some i=>match i.u with
  | .slice _=>ab
  |_=>ak
 |none=>ak
def IM(d:List (Nat×cv))(e:BinOp)(t:TypeId)(v w:V)(c:List cB):iL:=
 match yu (dL d t),v,w,e,c with
 |true,.t (.bE a),.t .fT,.eql,.b ak::c=>aa (.t (.bool ak),[.p (a≠[])],c)
 |_,_,_,_,_=>aj
def H6(c:List (Nat×cv))(t:TypeId)(v w:V)(a:List cB):iL:=
 match yj (dL c t),v,w,a with
 |true,.t (.str l),.t (.int .i64 n),.y b::a=>aa (.t (.int .u8 (b.toNat:Nat)),[.p (ax l n=aa b)],a)
 |_,_,_,_=>aj
def tb(d e:Option Operand)(c:Nat)(h:List V):Option (Int×Int):=
 match d,e,h with
 |some _,aa _,[.t (.int .i64 a),.t (.int .i64 b)]=>aa (a,b)
 |some _,aj,[.t (.int .i64 a)]=>aa (a,(c:Int))
 |none,aa _,[.t (.int .i64 b)]=>aa (0,b)
 |_,_,_=>aj
def H4(s:List (Nat×cv))(H:Nat->Option E)(t:TypeId)(y z:Option Operand)(w:List V)(h:List cB):iL:=
 match w with
 | .t (.str l)::x=>match yj (dL s t),tb y z l.length x,h with
  |true,aa (a,b),.str r::h=>aa (.t (.str r),[.p (sub l a b=aa r)],h)
  |_,_,_=>aj
 | .t (.bE d)::x=>match dL s t with
  |none=>aj
  |some i=>match i.u with
   | .slice e=>match dL s e,tb y z d.length x,h with
    |some j,aa (a,b),.rows r::h=>aa (.t (.bE r),[.p (sub d a b=aa r),.p (Rows j.size d)],h)
    |_,_,_=>aj
   |_=>aj
 | .bg id gen c n k::x=>match dL s t,(H id).bind E.gen? with
  |some i,aa B=>match i.u with
   | .slice e=>match dL s e,tb y z k x,h with
    |some j,aa (a,b),.nat o:: .nat m::h=>aa (.bg id gen c o m,[.q B gen,.q c j.size,.p (0<=a/\a<=b/\b<=k/\(a=0\/a<k)/\o=n+a.toNat/\m=b.toNat-a.toNat)],h)
    |some _,aa (a,b),.int 0::h=>aa (.t (.bE []),[.q B gen,.p (0<=a/\a=b/\b<=k)],h)
    |some j,aa (a,b),.int 1:: .nat o:: .nat m::h=>match H id with
     |some (.arr _ C A d)=>aa (.bg id gen c o m,[.q C gen,.q A c,.q c j.size,.p (0<c/\0<=a/\a<b/\n+b<=d.length/\o=n+a.toNat/\m=b.toNat-a.toNat)],h)
     |_=>aj
    |_,_,_=>aj
   |_=>aj
  |_,_=>aj
 |_=>aj
def Hu(k:List (Nat×cv))(H:Nat->Option E)(t:TypeId)(d:List V)(l:List cB):iL:=
 match d with
 | [.bg id gen _ _ h,.t (.int .i64 a),.t (.int .i64 b),.t (.int .i64 c)]=>match dL k t,(H id).bind E.gen? with
  |some i,aa m=>match i.u with
   | .slice e=>match dL k e with
    |some _=>aa (.dh,[.q m gen,.p (0<=a/\a<=b/\b<=c/\c<=h)],l)
    |none=>aj
   |_=>aj
  |_,_=>aj
 |_=>aj
def Ip(k:List (Nat×cv))(t:TypeId)(d:List V)(h:List cB):iL:=
 match d,h with
 | [.t (.bE a),.t (.int .i64 b),.t (.int .i64 c)],.rows r::h=>match dL k t with
  |some i=>match i.u with
   | .slice e=>match dL k e with
    |some j=>aa (.t (.bE r),[.p (sub a 0 b=aa r/\c=b),.p (Rows j.size a)],h)
    |none=>aj
   |_=>aj
  |none=>aj
 |_,_=>aj
def IU(i:List (Nat×cv))(H:Nat->Option E)(t:TypeId)(v:V)(c:List cB):iL:=
 match v,c with
 | .t (.str l),c=>match yj (dL i t) with
  |true=>aa (.t (.int .i64 (l.length:Nat)),[],c)
  |false=>aj
 | .t (.bE d),.nat n::c=>match yu (dL i t) with
  |true=>aa (.t (.int .i64 (n:Nat)),[.p (d.length=n)],c)
  |false=>aj
 | .bg id gen e _ h,.nat n::c=>match H id,yu (dL i t) with
  |some (.arr _ a k _),ab=>aa (.t (.int .i64 (n:Nat)),[.q a gen,.q k e,.p (h=n)],c)
  |some (.a7 _ _ a _ _),ab=>aa (.t (.int .i64 (n:Nat)),[.q a gen,.p (h=n)],c)
  |_,_=>aj
 |_,_=>aj
def GA(h:List (Nat×cv))(H:Nat->Option E)(b:Builtin)(c:List TypeId)(i:List Operand)(a:List V)(d:List cB):iL:=
 match b,c,i,a with
 | .len,[t],[_],[v]=>IU h H t v d
 | .max,_,[_,_],[.t (.int k m),.t (.int e n)]=>if k=e then aa (.t (.int k (max m n)),[],d) else aj
 | .min,_,[_,_],[.t (.int k m),.t (.int e n)]=>if k=e then aa (.t (.int k (min m n)),[],d) else aj
 |_,_,_,_=>aj
def IP(H:Nat->Option E)(v:V)(a:List cB):iL:=
 match v with
 | .cK id gen _ _ _=>match (H id).bind E.gen? with
  |some c=>aa (v,[.q c gen],a)
  |none=>aj
 | .ref _ _=>aa (v,[],a)
 | .aS _=>aa (v,[],a)
 | .fn _ _=>aa (v,[],a)
 |_=>aj
def H9(d:List (Nat×cv))(t:TypeId)(c:List Nat)(a:List V)(e:List cB):iL:=
 match dL d t with
 |none=>aj
 |some i=>match i.u with
  | .struct _=>match (hX i.z).val,b5 c.length a.length,lN (i.places[·]?) (hX i.z).cs (c.zip a) with
   |true,ab,aa cs=>aa (.agg cs,[],e)
   |_,_,_=>aj
  |_=>aj
def yI(P:Program)(h:List (Nat×cv))(H:Nat->Option E)(l:Op)(a:List V)(e:List cB):iL:=
 match l with
 | .move _=>match a with
  | [v]=>aa (v,[],e)
  |_=>aj
 | .assign _=>match a with
  | [v]=>aa (v,[],e)
  |_=>aj
 | .pick _ _ _=>match a,e with
  | [.t (.bool b),v,w],.b c::e=>aa (bif c then v else w,[.p (b=c)],e)
  |_,_=>aj
 | .load t _=>match a with
  | [v]=>match u6 h H t v e with
   |some r=>aa r
   |none=>H5 h H t v e
  |_=>aj
 | .nilCheck _=>match a with
  | [v]=>IP H v e
  |_=>aj
 | .binOp o t x y _=>match a with
  | [v,w]=>match IJ P h o t v w e with
   |some r=>aa r
   |none=>match IW h o t x y v w e with
    |some r=>aa r
    |none=>IM h o t v w e
  |_=>aj
 | .unOp o _ _=>match a with
  | [v]=>I4 o v e
  |_=>aj
 | .convert s d _=>match a with
  | [v]=>Io h s d v e
  |_=>aj
 | .makeFunc m first _=>match m,first.toList with
  | .func f,[]=>aa (.fn f a,[],e)
  |_,_=>aj
 | .slice t _ lo i iU=>match iU with
  |none=>H4 h H t lo i a e
  |some _=>match lo,i with
   |some _,aa _=>Hu h H t a e
   |none,aa _=>Ip h t a e
   |_,_=>aj
 | .fieldAddr t _ k=>match a with
  | [v]=>H7 h H t k v e
  |_=>aj
 | .field t _ k=>match a with
  | [v]=>IY h t k v e
  |_=>aj
 | .indexAddr t _ _=>match a with
  | [v,w]=>IX h H t v w e
  |_=>aj
 | .index t _ _=>match a with
  | [v,w]=>H6 h t v w e
  |_=>aj
 | .extract _ k=>match a with
  | [.bM n]=>match n[k]? with
   |some v=>aa (v,[],e)
   |none=>aj
  |_=>aj
 | .build t q=>H9 h t (q.toList.map (·.1)) a e
 | .call c=>match c.callee with
  | .builtin b=>GA h H b c.argTypes.toList c.args.toList a e
  |_=>aj
 |_=>aj
end Go.Lift
