/- Tools. -/
import Derived.Test.YtlbojjldejlgaaaGreatVLiftAB
import Derived.Laws.BitsAllLaws
import Derived.Laws.BytesArg
import Derived.Laws.StructEq
namespace Go.Lift
open Go
section
variable {W β:Map}{w:World}{X:Nat->Prop}{i m k b n:Nat}{a:Act}{l:List df}{hs:List (Nat×Nat×V)}
theorem rk{c:List df}{gen:Nat}{a:List (List T)}{Y:List (Nat×Nat×V)}(h:b4 W w X i (.av c m gen a Y)): ∃q,W i=some (q,gen):=by
 rcases h.2 with ⟨e,_⟩|⟨b,k,_,e,_⟩
 ·exact⟨_,e⟩
 exact⟨_,e⟩
def Map.drop(a:Map)(k:Nat):Map:=⟨a.f,λid b=>id≠k/\a.n id b⟩
theorem ll(h:At (W.drop k) i b):At W i b:=by
 rcases h with h|h
 ·exact .inl h
 exact .inr h.2
theorem Rel.drop{K:Ctx}{s:S}(h:Rel K β s a w)(k:Nat)(e':E)(v:s.H k≠none)
  (A:b4 (β.drop k) w (own K (β.drop k) (aE s.H k (some e'))) k e'):Rel K (β.drop k) {s with H:=aE s.H k (some e')} a w:=by
 have l: ∀b,own K (β.drop k) (aE s.H k (some e')) b->own K β s.H b:=by
  rintro b (c|⟨id,m,o⟩)
  ·exact .inl c
  refine .inr ⟨id,λp=>?_,ll o⟩;by_cases n:id=k
  ·subst n;exact v p
  rw[bx _ _ _ _ n] at m;exact m p
 have x:cN β (β.drop k):=λ_ _ _ c=> .inl c;refine {h with base:=λid hid=>h.base id hid,cW:=λid hid=>h.cW id hid,du:=λid b hid q=>h.du id b hid q.2,inj:=λid r b m o=>h.inj id r b (ll m) (ll o),fresh:=λid b q=>h.fresh id b (ll q),heap:= ?_,cu:=λi=>(h.cu i).mono (Ext.refl _ _) (λb _=>l b) x (Shaped.refl _ _)};intro id e c;have c:aE s.H k (some e') id=some e:=c;by_cases n:id=k
 ·subst n;rw[bu] at c;cases c;cases y:s.H id with
  |none=>exact a7 y v
  |some p=>exact⟨(h.heap id p y).1,A⟩
 rw[bx _ _ _ _ n] at c;obtain⟨m,o⟩:=h.heap id e c;exact⟨m,o.mono (Ext.refl _ _) (λb _=>l b) x (λ_ h=>h) (Shaped.refl _ _) (λ_ _=>rfl) λb=>⟨λh=>h.2,λh=>⟨n,h⟩⟩⟩
theorem Pz{K:Ctx}{s:S}(k:Nat){l:TypeId}{gen:Nat}{e:List (List T)}(o:List df)(m:Nat)(y:s.H k=some (.arr l gen n e))(v:(Y o m).ty=l)(A:(Y o m).size=n)
  (B:e=[]\/(Y o m).aJ=[]):s.le K {s with H:=aE s.H k (some (.av o m gen e []))}:=by
 intro F a w h;refine⟨_,h.drop k (.av o m gen e []) (by rw[y];simp) ?_⟩;have p:=(h.heap k _ y).2;subst v;subst A;refine⟨p.1,?_⟩;have q: ∀b,own K (F.drop k) (aE s.H k (some (.av o m gen e []))) b->own K F s.H b:=by
  rintro b (Q|⟨id,v,A⟩)
  ·exact .inl Q
  refine .inr ⟨id,λC=>?_,ll A⟩;by_cases G:id=k
  ·subst G;rw[y] at C;cases C
  rw[bx _ _ _ _ G] at v;exact v C
 rcases p.2 with ⟨ay,a2⟩|⟨b,R,ay,a2,a3,a4,a5⟩
 ·exact .inl ⟨ay,a2,λc r=>r.1 rfl⟩
 refine .inr ⟨b,R,λ_ _ _=>False,ay,a2,a3,a4,λi j D x u L W X=>Cell.of ?_,λ_ _ _ h=>h.elim,λ_ _ _ _ _ h=>h.elim,λc=>⟨λr=>a7 rfl r.1,λ⟨_,_,r⟩=>r.elim⟩⟩;rcases B with rfl|B
 ·simp at L
 have:(Y o m).dv j=none:=by unfold df.dv;rw[B];rfl
 rw[this];exact .ee _ _ _ ((a5 i j D x u L W X).mono (Ext.refl _ _) λb _=>q b) λ_ h=>h
theorem PA{K:Ctx}{s:S}(k:Nat){gen:Nat}{e:List (List T)}(y:s.H k=some (.av l m gen e []))(r:Nat.ble K.cE k=true):
  s.le K {s with H:=aE s.H k (some (.arr (Y l m).ty gen (Y l m).size e))}:=by
 have L:=eb r;intro v a w h;refine⟨_,h.drop k (.arr (Y l m).ty gen (Y l m).size e) (by rw[y];simp) ?_⟩;have o:=(h.heap k _ y).2;have p: ∀b,own K (v.drop k) (aE s.H k (some (.arr (Y l m).ty gen (Y l m).size e))) b->own K v s.H b:=by
  rintro b (q|⟨id,A,n⟩)
  ·exact .inl q
  refine .inr ⟨id,λC=>?_,ll n⟩;by_cases G:id=k
  ·subst G;rw[y] at C;cases C
  rw[bx _ _ _ _ G] at A;exact A C
 refine⟨o.1,?_⟩;rcases o.2 with ⟨ay,a2,_⟩|⟨b,Q,B,ay,a2,a3,a4,a5,hf,fC,eQ⟩
 ·exact .inl ⟨ay,a2⟩
 refine .inr ⟨b,Q,ay,a2,a3,a4,λi j D x u R W X=>(a5 i j D x u R W X).none.q7 p ?_⟩;intro c f q;have r:At v k c:= .inr ((eQ c).2 ⟨i,j,f⟩);rcases q with q|⟨id,A,n⟩
 ·obtain⟨N,I⟩:=h.gy c q;rcases(h.fresh k c r).1 with F|M
  ·exact I F
  omega
 have:=h.inj _ _ _ (ll n) r;subst this;rcases n with ⟨g,n⟩|n
 ·have U:v id=some (some c,g):=n
  grind
 exact n.1 rfl
def Map.split(c:Map)(k a:Nat)(q:Option Nat)(N:Nat->Prop):Map:=
 ⟨λi=>bif Nat.beq i a then some (q,1) else c i,λid b=>(id=a/\N b)\/(id=k/\id≠a/\c.n k b/\ ¬N b/\q≠some b)\/(id≠a/\id≠k/\c.n id b)⟩
theorem Fc(h:i≠k):Nat.beq i k=false:=by
 cases a:Nat.beq i k with
 |false=>rfl
 |true=>exact a7 (ca a) h
theorem tn(b:Map)(k a:Nat)(q:Option Nat)(N:Nat->Prop):b.split k a q N a=some (q,1):=by simp[Map.split]
theorem qz(a:Map)(k b:Nat)(q:Option Nat)(N:Nat->Prop)(id:Nat)(h:id≠b):a.split k b q N id=a id:=by simp[Map.split,Fc h]
theorem O8{W:Map}{k L:Nat}{q:Option Nat}{N:Nat->Prop}(o: ∀b,q=some b->W.n k b)(p: ∀b,N b->W.n k b){i b:Nat}(h:At (W.split k L q N) i b):
  (i=L/\W.n k b/\(q=some b\/N b))\/(i≠L/\At W i b/\(i=k->(∃g,W k=some (some b,g))\/(¬N b/\q≠some b))):=by
 rcases h with ⟨g,h⟩|⟨rfl,h⟩|⟨rfl,a,c,l,r⟩|⟨a,c,l⟩
 ·by_cases m:i=L
  ·subst m;rw[tn] at h;cases h;exact .inl ⟨rfl,o _ rfl,.inl rfl⟩
  rw[qz _ _ _ _ _ _ m] at h;exact .inr ⟨m,.inl ⟨g,h⟩,λe=> .inl ⟨g,e▸h⟩⟩
 ·exact .inl ⟨rfl,p b h,.inr h⟩
 ·exact .inr ⟨a,.inr c,λ_=> .inr ⟨l,r⟩⟩
 exact .inr ⟨a,.inr l,λe=>a7 e c⟩
theorem Rel.split{K:Ctx}{s:S}(h:Rel K β s a w)(k bz:Nat)(q:Option Nat)(N:Nat->Prop)(p r:E)(Q:s.H k≠none)(G:s.u bz=false)
  (V: ∀b,q=some b->β.n k b/\ ¬N b) (Y: ∀b,N b->β.n k b) (R: ∀b g,β k=some (some b,g)-> ¬β.n k b)
  (XW:(∀b,own K (β.split k bz q N) (aE (aE s.H k (some p)) bz (some r)) b->own K β s.H b)->b4 (β.split k bz q N) w (own K (β.split k bz q N) (aE (aE s.H k (some p)) bz (some r))) k p)
  (W:(∀b,own K (β.split k bz q N) (aE (aE s.H k (some p)) bz (some r)) b->own K β s.H b)->b4 (β.split k bz q N) w (own K (β.split k bz q N) (aE (aE s.H k (some p)) bz (some r))) bz r):
  Rel K (β.split k bz q N) {t:=s.t,H:=aE (aE s.H k (some p)) bz (some r),u:=aE s.u bz true} a w:=by
 have X:s.u k=true:=by
  cases I:s.H k with
  |none=>exact a7 I Q
  |some L=>exact(h.heap k L I).1
 have hne:k≠bz:=by intro e;subst e;rw[X] at G;cases G
 have v:= @O8 β k bz q N (λb D=>(V b D).1) Y;have o: ∀b,own K (β.split k bz q N) (aE (aE s.H k (some p)) bz (some r)) b->own K β s.H b:=by
  rintro b (l|⟨id,m,F⟩)
  ·exact .inl l
  rcases v F with ⟨_,f,_⟩|⟨f,h4,_⟩
  ·exact .inr ⟨k,Q,.inr f⟩
  refine .inr ⟨id,λL=>?_,h4⟩;rw[bx _ _ _ _ f] at m;by_cases B:id=k
  ·subst B;exact Q L
  rw[bx _ _ _ _ B] at m;exact m L
 have C:=h.cW bz G;have A: ∀id x,β id=some x->β.split k bz q N id=some x:=λid x l=>by
  rw[qz _ _ _ _ _ _ (by intro e;subst e;rw[C] at l;cases l)];exact l
 have M:cN β (β.split k bz q N):=cN.of A;refine {h with base:= ?_,low:= ?_,cW:= ?_,du:= ?_,inj:= ?_,fresh:= ?_,heap:= ?_,cu:=λi=>(h.cu i).mono (Ext.refl _ _) (λb _=>o b) M (Shaped.refl _ _)}
 ·refine h.base.keep λid hid=>qz _ _ _ _ _ _ ?_;intro e;subst e;have:=h.low id hid;rw[G] at this;cases this
 ·intro id hid;show aE s.u bz true id=true;by_cases e:id=bz
  ·subst e;exact bu _ _ _
  rw[bx _ _ _ _ e];exact h.low id hid
 ·intro id hid;have c:aE s.u bz true id=false:=hid;by_cases e:id=bz
  ·subst e;rw[bu] at c;cases c
  rw[bx _ _ _ _ e] at c;rw[qz _ _ _ _ _ _ e];exact h.cW id c
 ·intro id b hid D;have c:aE s.u bz true id=false:=hid;have e:id≠bz:=by intro e;subst e;rw[bu] at c;cases c
  rw[bx _ _ _ _ e] at c;rcases D with ⟨m,_⟩|⟨rfl,_,m,_⟩|⟨_,_,m⟩
  ·exact e m
  ·exact h.du _ b c m
  exact h.du id b c m
 ·intro id hT b m F;rcases v m with ⟨rfl,ay,a2⟩|⟨ay,a2,a3⟩<;>rcases v F with ⟨T,U,j⟩|⟨U,j,c3⟩
  ·exact T.symm
  ·have:=h.inj _ _ b (.inr ay) j
   grind
  ·subst T
   have:=h.inj _ _ b (.inr U) a2
   grind
  exact h.inj _ _ b a2 j
 ·intro id b D;rcases v D with ⟨_,ay,_⟩|⟨_,a2,_⟩
  ·exact h.fresh k b (.inr ay)
  exact h.fresh id b a2
 intro id e l;have l:aE (aE s.H k (some p)) bz (some r) id=some e:=l;show aE s.u bz true id=true/\b4 _ w (own K _ (aE (aE s.H k (some p)) bz (some r))) id e;by_cases B:id=bz
 ·subst B;rw[bu] at l;cases l;exact⟨bu _ _ _,W o⟩
 rw[bx _ _ _ _ B] at l⊢;by_cases y:id=k
 ·subst y;rw[bu] at l;cases l
  grind
 rw[bx _ _ _ _ y] at l;obtain⟨m,F⟩:=h.heap id e l;exact⟨m,F.mono (Ext.refl _ _) (λb _=>o b) M (A id) (Shaped.refl _ _) (λ_ _=>rfl) (λb=>⟨λh=>by
  rcases h with ⟨h,_⟩|⟨h,_⟩|⟨_,_,h⟩
  ·exact a7 h B
  ·exact a7 h y
  exact h,λh=> .inr (.inr ⟨B,y,h⟩)⟩)⟩
def ni(j:Nat):List (Nat×Nat×V)->Bool
 | []=>true
 |h::a=> !(Nat.beq h.2.1 j)&&ni j a
theorem wZ{j:Nat}: ∀{a:List (Nat×Nat×V)},ni j a=true-> ∀i v,(i,j,v)∉a
 | [],_,_,_,h=>by cases h
 |h::a,b,i,v,hm=>by
  simp only[ni,Bool.and_eq_true,Bool.not_eq_true'] at b;rcases dz.1 hm with rfl|hm
  ·simp at b
  exact wZ b.2 i v hm
theorem Oh{K:Ctx}{s:S}(k bz i j R:Nat){r:List df}{gen:Nat}{y:List (List T)}{W:List T}{l:List (List T)}{U:List (Nat×Nat×V)}(hk:s.H k=some (.av r m gen y U))(hu:s.u bz=false)
  (aD:y[i]? =some W) (hj:W[j]? =some (.aa l)) (hm:(Y r m).dv j=some R) (f: ∀v,(i,j,v)∉U):
  s.le K {t:=s.t,H:=aE (aE s.H k (some (.av r m gen y ((i,j,.aN bz 1 (Y r R).size 0 l.length)::U)))) bz (some (.av r R 1 l [])),u:=aE s.u bz true}:=by
 intro I a w h;have A6:=(h.heap k _ hk).1;have F:k≠bz:=by intro e;subst e;rw[A6] at hu;cases hu
 have fP:=(h.heap k _ hk).2;rcases fP.2 with ⟨ay,a2,_⟩|⟨b,us,B,ay,a2,a3,a4,a5,hf,fC,eQ⟩
 ·rw[a2] at aD;simp at aD
 have hlt:=(bt.1 aD).1;have hjs:j<(Y r m).size:=by rw[<-a4 W (bA aD)];exact(bt.1 hj).1
 have M:i*(Y r m).size+j<us.size:=by
  have:(i+1)*(Y r m).size<=y.length*(Y r m).size:=dq _ hlt
  grind
 have p:=(a5 i j W _ us[i*(Y r m).size+j] aD hj (f' M)).2 λv=>f v;rw[hm] at p;have G: ∀c g,I k=some (some c,g)-> ¬I.n k c:=by
  grind
 generalize UB:us[i*(Y r m).size+j]=CM at p
 -- the cell's value under the new map, and the rest of the rows
 have L: ∀(q:Option Nat) (N:Nat->Prop),(∀c,B i j c↔(q=some c\/N c))->(∀(X:Nat->Prop),aS (I.split k bz q N) w X (.aN bz 1 (Y r R).size 0 l.length) CM)->
   ∀X,(∀c,X c->own K I s.H c)->b4 (I.split k bz q N) w X k (.av r m gen y ((i,j,.aN bz 1 (Y r R).size 0 l.length)::U)):=by
  intro q N fy bF X e8;have hm':cN I (I.split k bz q N):=cN.of (λid x hx=>by
   have:id≠bz:=by intro e;subst e;rw[h.cW _ hu] at hx;cases hx
   rw[qz _ _ _ _ _ _ this];exact hx)
  refine⟨fP.1,.inr ⟨b,us,λA C c=>B A C c/\ ¬(A=i/\C=j),by rw[qz _ _ _ _ _ _ F];exact ay,a2,a3,a4,λA C D x u cF b2 eR=>⟨λv Bk=>?_,λcn=>?_⟩,
   λA C c f=>hf A C c f.1,λi1 Bu i2 Bv c h1 h2=>fC _ _ _ _ c h1.1 h2.1,λc=>?_⟩⟩
  ·rcases dz.1 Bk with e|Bk
   ·simp only[Prod.mk.injEq] at e;obtain⟨rfl,rfl,rfl⟩:=e
    have:u=CM:=by
     rw[<-UB];rw[f' M] at eR;exact(Option.some.inj eR).symm
    subst this;exact⟨bF X,λc f=>f.2 ⟨rfl,rfl⟩⟩
   obtain⟨c1,c2⟩:=(a5 A C D x u cF b2 eR).1 v Bk;exact⟨c1.mono (Ext.refl _ _) (λc _=>e8 c) hm' (Shaped.refl _ _),λc hx=>c2 c hx.1⟩
  ·have Vi: ¬(A=i/\C=j):=by rintro⟨rfl,rfl⟩;exact cn _ ep
   exact(((a5 A C D x u cF b2 eR).2 λv bF=>cn v (dU _ bF)).mono (Ext.refl _ _) (λc _=>e8 c) λ_ _=>rfl).iff λc=>⟨λh=>h.1,λh=>⟨h,Vi⟩⟩
  constructor
  ·rintro(⟨h1,_⟩|⟨_,_,h1,h2,h3⟩|⟨_,h1,_⟩)
   ·exact a7 h1 F
   ·obtain⟨A,C,Q⟩:=(eQ c).1 h1;refine⟨A,C,Q,?_⟩;rintro⟨rfl,rfl⟩;rcases(fy c).1 Q with h4|h4
    ·exact h3 h4
    exact h2 h4
   exact a7 rfl h1
  rintro⟨A,C,Q,cn⟩;refine .inr (.inl ⟨rfl,F,(eQ c).2 ⟨A,C,Q⟩,λh4=>?_,λh4=>?_⟩)
  ·exact cn (fC _ _ _ _ c Q ((fy c).2 (.inr h4)))
  exact cn (fC _ _ _ _ c Q ((fy c).2 (.inl h4)))
 generalize G8:B i j=XI at p L;cases p with
 |nil _ _ gT=>
  refine⟨_,h.split k bz none (λ_=>False) _ (.av r R 1 [] []) (by rw[hk];simp) hu (λb Q=>by cases Q) (λ_ h=>h.elim) G (λo=>L none (λ_=>False) (λc=>⟨λh=>a7 h (gT c),λh=>by rcases h with h|h;cases h;exact h.elim⟩)
   (λX=> .fB bz 1 _ (cL _) (tn _ _ _ _ _)) _ o) λo=>⟨cL _,.inl ⟨tn _ _ _ _ _,rfl,λc f=>?_⟩⟩⟩
  rcases f with ⟨_,h⟩|⟨h,_⟩|⟨h,_⟩
  ·exact h
  ·exact F h.symm
  exact h rfl
 |own _ _ b2 cap nD nS _ hw U Ba ch jn bH fy cA gT=>
  have oH:I.n k b2:=(eQ b2).2 ⟨i,j,by rw[G8];exact(gT b2).2 (.inl rfl)⟩;refine⟨_,h.split k bz (some b2) (λc=> ∃i j,nS i j c) _ (.av r R 1 l []) (by rw[hk];simp) hu (λb Q=>by cases Q;exact⟨oH,λ⟨A,C,jZ⟩=>(fy A C _ jZ).2.2 rfl⟩)
   (λc f=>(eQ c).2 ⟨i,j,by rw[G8];exact(gT c).2 (.inr f)⟩) G
   (λo=>L (some b2) (λc=> ∃i j,nS i j c) (λc=>⟨λh=>by rcases(gT c).1 h with h|h;exact .inl (by rw[h]);exact .inr h,λh=>(gT c).2 (by rcases h with h|h;cases h;exact .inl rfl;exact .inr h)⟩)
    (λX=>?_) _ o) λo=>⟨cL _,.inr ⟨b2,nD,nS,tn _ _ _ _ _,hw,by rw[U];exact dq _ ch,jn,λA C D x u c1 c2 c3=>Cell.of ((bH A C D x u c1 c2 c3).mono (Ext.refl _ _) (λc _=>o c) λ_ _=>rfl),fy,cA,λc=>?_⟩⟩⟩
  ·have:=aS.aN (β:=I.split k bz (some b2) λc=> ∃i j,nS i j c) (w:=w) (X:=X) bz 1 (Y r R).size 0 l.length cap b2 nD.size (Y r R).ty (cL _) (tn _ _ _ _ _) (gw.1 hw).1 (by unfold World.shape?;rw[hw]) (by rw[dn];exact U.symm) ch Ba;rw[fe] at this;exact this
  constructor
  ·rintro(⟨_,h⟩|⟨h,_⟩|⟨h,_⟩)
   ·exact h
   ·exact a7 h.symm F
   exact a7 rfl h
  intro h;exact .inl ⟨rfl,h⟩
def Map.merge(a:Map)(k c gen:Nat):Map:=
 ⟨λi=>bif Nat.beq i c then some (none,gen+1) else a i,λid b=>(id=k/\(a.n k b\/At a c b))\/(id≠k/\id≠c/\a.n id b)⟩
theorem Eh(b:Map)(k a gen:Nat):b.merge k a gen a=some (none,gen+1):=by simp[Map.merge]
theorem qB(a:Map)(k b gen id:Nat)(h:id≠b):a.merge k b gen id=a id:=by simp[Map.merge,Fc h]
theorem PX{W:Map}{k i gen n b:Nat}(a:k≠i)(h:At (W.merge k i gen) n b):n≠i/\(At W n b\/(n=k/\At W i b)):=by
 rcases h with ⟨g,h⟩|⟨rfl,h⟩|⟨m,e,l⟩
 ·by_cases c:n=i
  ·subst c;rw[Eh] at h;cases h
  rw[qB _ _ _ _ _ c] at h;exact⟨c,.inl (.inl ⟨g,h⟩)⟩
 ·rcases h with h|h
  ·exact⟨a,.inl (.inr h)⟩
  exact⟨a,.inr ⟨rfl,h⟩⟩
 exact⟨e,.inl (.inr l)⟩
theorem Rel.merge{K:Ctx}{s:S}(h:Rel K β s a w)(k c gen:Nat)(q:Option Nat)(v:E)(f:s.H k≠none)(C:s.H c≠none)(Q:k≠c)(I:K.cE<=c)(M:β c=some (q,gen))(N:1<=gen)
  (T:(∀b,own K (β.merge k c gen) (aE (aE s.H c none) k (some v)) b->own K β s.H b)->cN β (β.merge k c gen)->b4 (β.merge k c gen) w (own K (β.merge k c gen) (aE (aE s.H c none) k (some v))) k v):
  Rel K (β.merge k c gen) {t:=s.t,H:=aE (aE s.H c none) k (some v),u:=s.u} a w:=by
 have R:s.u c=true:=by
  cases D:s.H c with
  |none=>exact a7 D C
  |some A=>exact(h.heap c A D).1
 have F:s.u k=true:=by
  cases D:s.H k with
  |none=>exact a7 D f
  |some A=>exact(h.heap k A D).1
 have o:=fun {id b}=> @PX β k c gen id b Q;have r: ∀b,own K (β.merge k c gen) (aE (aE s.H c none) k (some v)) b->own K β s.H b:=by
  rintro b (m|⟨id,B,G⟩)
  ·exact .inl m
  obtain⟨W,y|⟨rfl,y⟩⟩:=o G
  ·refine .inr ⟨id,λA=>?_,y⟩;by_cases n:id=k
   ·subst n;exact f A
   rw[bx _ _ _ _ n,bx _ _ _ _ W] at B;exact B A
  exact .inr ⟨c,C,y⟩
 have j:cN β (β.merge k c gen):=by
  intro id Y g1 m;by_cases n:id=c
  ·subst n;rw[M] at m;cases m;exact .inr ⟨N,none,gen+1,Eh _ _ _ _,ly _⟩
  exact .inl (by rw[qB _ _ _ _ _ n];exact m)
 refine {h with base:= ?_,cW:= ?_,du:= ?_,inj:= ?_,fresh:= ?_,heap:= ?_,cu:=λi=>(h.cu i).mono (Ext.refl _ _) (λb _=>r b) j (Shaped.refl _ _)}
 ·exact h.base.keep λid hid=>qB _ _ _ _ _ O
 ·intro id hid;have l:s.u id=false:=hid;rw[qB _ _ _ _ _ (by intro e;subst e;rw[R] at l;cases l)];exact h.cW id l
 ·intro id b hid X;have l:s.u id=false:=hid;rcases X with ⟨rfl,_⟩|⟨_,_,W⟩
  ·rw[F] at l;cases l
  exact h.du id b l W
 ·intro id U b B G;obtain⟨ay,a2|⟨rfl,a2⟩⟩:=o B<;>obtain⟨V,L|⟨rfl,L⟩⟩:=o G
  ·exact h.inj _ _ b a2 L
  ·exact a7 (h.inj _ _ b a2 L) ay
  ·exact a7 (h.inj _ _ b L a2) V
  rfl
 ·intro id b X;obtain⟨_,y|⟨_,y⟩⟩:=o X
  ·exact h.fresh id b y
  exact h.fresh c b y
 intro id e m;have m:aE (aE s.H c none) k (some v) id=some e:=m;show s.u id=true/\b4 _ w (own K _ (aE (aE s.H c none) k (some v))) id e;by_cases n:id=k
 ·subst n;rw[bu] at m;cases m
  grind
 rw[bx _ _ _ _ n] at m;by_cases p:id=c
 ·subst p;rw[bu] at m;cases m
 rw[bx _ _ _ _ p] at m;obtain⟨B,G⟩:=h.heap id e m;exact⟨B,G.mono (Ext.refl _ _) (λb _=>r b) j (λx m=>by rw[qB _ _ _ _ _ p];exact m) (Shaped.refl _ _) (λ_ _=>rfl) (λb=>⟨λh=>by
  rcases h with ⟨h,_⟩|⟨_,_,h⟩
  ·exact a7 h n
  exact h,λh=> .inr ⟨n,p,h⟩⟩)⟩
theorem L7{K:Ctx}{s:S}(k F i j m2 ji z n:Nat){D:List df}{gen:Nat}{p:List (List T)}{o:List T}{l:List (List T)}(hk:s.H k=some (.av D m gen p ((i,j,.aN F ji z 0 n)::hs)))
  (lW:s.H F=some (.av D m2 ji l [])) (db:z=(Y D m2).size) (cn:n=l.length) (hne:k≠F) (j2:Nat.ble K.cE F=true) (aD:p[i]? =some o) (hm:(Y D m).dv j=some m2) (A4:Nat.blt j (Y D m).size=true) (bl: ∀v,(i,j,v)∉hs):
  s.le K {t:=s.t,H:=aE (aE s.H F none) k (some (.av D m gen (p.set i (o.set j (.aa l))) hs)),u:=s.u}:=by
 subst db;subst cn;intro M a w h;have j2:=eb j2;obtain⟨q,cK⟩:=rk (h.heap F _ lW).2;have fP:=(h.heap k _ hk).2;have Q:=(h.heap F _ lW).2;refine⟨_,h.merge k F ji q (.av D m gen (p.set i (o.set j (.aa l))) hs) (by rw[hk];simp) (by rw[lW];simp) hne j2 cK Q.1 λR hm'=>⟨fP.1,?_⟩⟩;rcases fP.2 with ⟨ay,a2,_⟩|⟨b,us,B,ay,a2,a3,a4,a5,hf,fC,eQ⟩
 ·rw[a2] at aD;simp at aD
 have N:=(bt.1 aD).1
 -- the blocks of the slice
 have U:At M k b:= .inl ⟨_,ay⟩;have U7: ∀(u:Value),aS M w (own K M s.H) (.aN F ji (Y D m2).size 0 l.length) u->
   eJ D w (own K (M.merge k F ji) (aE (aE s.H F none) k (some (.av D m gen (p.set i (o.set j (.aa l))) hs)))) (some m2) (.aa l) u (λc=>At M F c):=by
  intro u hu;rcases ei hu cK with ⟨cap,b2,n2,gr,rfl,hi,hw,fz,sx,ch,Ba⟩|⟨hi,_,h0,rfl⟩
  ·subst hi;rcases Q.2 with ⟨c1,_⟩|⟨eR,nD,nS,c1,c2,c3,c4,c5,Au,r6,p3⟩
   ·rw[cK] at c1;cases c1
   rw[cK] at c1;cases c1;rw[fe];have Bj:nD.size=cap*(Y D m2).size:=by
    unfold World.shape? at fz;rw[c2] at fz;simp at fz;rw[fz.2,<-sx,dn]
   refine .own m2 l b2 cap nD nS _ c2 Bj Ba ch c4 (λy A W x u d1 d2 d3=>(c5 y A W x u d1 d2 d3).none.mono (Ext.refl _ _) (λc _=>R c) λ_ _=>rfl) Au r6 λc=>⟨?_,?_⟩
   ·rintro(⟨g,bE⟩|bE)
    ·rw[cK] at bE;cases bE;exact .inl rfl
    exact .inr ((p3 c).1 bE)
   rintro(rfl|bE)
   ·exact .inl ⟨_,cK⟩
   exact .inr ((p3 c).2 bE)
  subst hi
  have:l=[]:=iW h0;subst this;refine .nil m2 _ λc bl=>?_;rcases bl with ⟨g,bE⟩|bE
  ·rw[cK] at bE;cases bE
  rcases Q.2 with ⟨_,_,c3⟩|⟨eR,nD,nS,c1,_⟩
  ·exact c3 c bE
  rw[cK] at c1;cases c1
 have X: ∀c,At M F c-> ¬At M k c:=λc C L=>hne (h.inj _ _ c L C);have G3: ∀y A c,B y A c->At M k c:=λy A c bl=> .inr ((eQ c).2 ⟨y,A,bl⟩);have hjs: ∀(x:T),o[j]? =some x->j<(Y D m).size:=λx hx=>by rw[<-a4 o (bA aD)];exact(bt.1 hx).1
 have hrl:o.length=(Y D m).size:=a4 o (bA aD);by_cases f:j<o.length
 ·have vE:i*(Y D m).size+j<us.size:=by
   have:(i+1)*(Y D m).size<=p.length*(Y D m).size:=dq _ N;rw[dM] at this;omega
  have AZ:=a5 i j o o[j] us[i*(Y D m).size+j] aD (bh f) (f' vE);obtain⟨VH,Us⟩:=AZ.1 _ ep;refine .inr ⟨b,us,λy A c=>B y A c\/(y=i/\A=j/\At M F c),by rw[qB _ _ _ _ _ hne];exact ay,a2,by simpa using a3,?_,?_,?_,?_,?_⟩
  ·intro r bH;rcases re bH with bH|rfl
   ·exact a4 r bH
   simpa using hrl
  ·intro y A W x u cF b2 eR;by_cases mS:y=i/\A=j
   ·obtain⟨rfl,rfl⟩:=mS;rw[hY N] at cF;cases cF;rw[hY f] at b2;cases b2;rw[f' vE] at eR;cases eR;refine⟨λv bF=>a7 bF (bl v),λ_=>?_⟩;rw[hm];refine(U7 _ VH).iff λc=>⟨λh=>?_,λh=> .inr ⟨rfl,rfl,h⟩⟩
    rcases h with h|⟨_,_,h⟩
    ·exact a7 h (Us c)
    exact h
   have hold: ∃G iy,p[y]? =some G/\G[A]? =some iy/\iy=x:=by
    by_cases sv:y=i
    ·subst sv;rw[hY N] at cF;cases cF;rw[km (by intro e;exact mS ⟨rfl,e.symm⟩)] at b2;exact⟨o,x,aD,b2,rfl⟩
    rw[km (Ne.symm sv)] at cF;exact⟨W,x,cF,b2,rfl⟩
   obtain⟨G,iy,d1,d2,rfl⟩:=hold;have lV:=a5 y A G iy u d1 d2 eR;have Hq: ∀c,(B y A c\/(y=i/\A=j/\At M F c))↔B y A c:=λc=>⟨λh=>by
    rcases h with h|⟨C,L,_⟩
    ·exact h
    exact a7 ⟨C,L⟩ mS,.inl⟩
   refine⟨λv bF=>?_,λcn=>?_⟩
   ·obtain⟨C,L⟩:=lV.1 v (dU _ bF);exact⟨C.mono (Ext.refl _ _) (λc _=>R c) hm' (Shaped.refl _ _),λc hx=>L c ((Hq c).1 hx)⟩
   refine((lV.2 λv bF=>?_).mono (Ext.refl _ _) (λc _=>R c) λ_ _=>rfl).iff Hq;rcases dz.1 bF with e|bF
   ·cases e;exact mS ⟨rfl,rfl⟩
   exact cn v bF
  ·intro y A c I;rcases I with I|⟨rfl,rfl,I⟩
   ·simpa using hf y A c I
   refine⟨by simpa using N,O,λe=>?_⟩;subst e;exact X c I U
  ·intro i1 Bu i2 Bv c C L;rcases C with C|⟨rfl,rfl,C⟩<;>rcases L with L|⟨rfl,rfl,L⟩
   ·exact fC _ _ _ _ c C L
   ·exact a7 (G3 _ _ c C) (X c L)
   ·exact a7 (G3 _ _ c L) (X c C)
   exact⟨rfl,rfl⟩
  intro c;constructor
  ·rintro(⟨_,C|C⟩|⟨C,_⟩)
   ·obtain⟨y,A,I⟩:=(eQ c).1 C;exact⟨y,A,.inl I⟩
   ·exact⟨i,j,.inr ⟨rfl,rfl,C⟩⟩
   exact a7 rfl C
  rintro⟨y,A,I|⟨_,_,I⟩⟩
  ·exact .inl ⟨rfl,.inl ((eQ c).2 ⟨y,A,I⟩)⟩
  exact .inl ⟨rfl,.inr I⟩
 exact a7 (by rw[hrl];simpa[Nat.blt_eq] using A4) f
theorem Rel.BX{K:Ctx}{s:S}(h:Rel K β s a w)(k:Nat)(e e':E)(q:s.H k=some e)(r:b4 β w (own K β s.H) k e->b4 β w (own K β s.H) k e'):
  Rel K β {s with H:=aE s.H k (some e')} a w:=by
 have c: ∀b,own K β (aE s.H k (some e')) b->own K β s.H b:=by
  rintro b (l|⟨id,m,n⟩)
  ·exact .inl l
  refine .inr ⟨id,λp=>?_,n⟩;by_cases o:id=k
  ·subst o;rw[q] at p;cases p
  rw[bx _ _ _ _ o] at m;exact m p
 refine {h with heap:= ?_,cu:=λi=>(h.cu i).mono (Ext.refl _ _) (λb _=>c b) (cN.refl _) (Shaped.refl _ _)};intro id x l;have l:aE s.H k (some e') id=some x:=l;by_cases o:id=k
 ·subst o;rw[bu] at l;cases l;obtain⟨m,n⟩:=h.heap id e q;exact⟨m,(r n).mono (Ext.refl _ _) (λb _=>c b) (cN.refl _) (λ_ h=>h) (Shaped.refl _ _) λ_ _=>rfl⟩
 rw[bx _ _ _ _ o] at l;obtain⟨m,n⟩:=h.heap id x l;exact⟨m,n.mono (Ext.refl _ _) (λb _=>c b) (cN.refl _) (λ_ h=>h) (Shaped.refl _ _) λ_ _=>rfl⟩
theorem PC{K:Ctx}{s:S}(k i j:Nat){gen:Nat}{c:List (List T)}{q:List T}{x:T}{n:List (Nat×Nat×V)}(D:s.H k=some (.av l m gen c n))(y:c[i]? =some q)(F:q[j]? =some x)(G:(Y l m).dv j=none)(L:ni j n=true):
  s.le K {s with H:=aE s.H k (some (.av l m gen c ((i,j,.t x)::n)))}:=by
 intro Q a w h;refine⟨Q,h.BX k _ (.av l m gen c ((i,j,.t x)::n)) D λp=>?_⟩;refine⟨p.1,?_⟩;rcases p.2 with ⟨ay,a2,_⟩|⟨b,R,B,ay,a2,a3,a4,a5,hf,fC,eQ⟩
 ·rw[a2] at y;simp at y
 refine .inr ⟨b,R,B,ay,a2,a3,a4,λW X r f u A C I=>?_,hf,fC,eQ⟩;have o:=a5 W X r f u A C I;refine⟨λv bF=>?_,λM=>o.2 λv bF=>M v (dU _ bF)⟩;rcases dz.1 bF with e|bF
 ·simp only[Prod.mk.injEq] at e;obtain⟨rfl,rfl,rfl⟩:=e;rw[y] at A;cases A;rw[F] at C;cases C
  have:=o.2 λv=>wZ L _ _;rw[G] at this;cases this with|ee _ _ _ h N=>exact⟨.t _ _ h,N⟩
 exact o.1 v bF
theorem Mk{K:Ctx}{s:S}(k i j:Nat){C:List df}{gen:Nat}{n:List (List T)}{l:List T}{x:T}{M:List (Nat×Nat×V)}(hk:s.H k=some (.av C m gen n ((i,j,.t x)::M)))(D:n[i]? =some l)(A4:Nat.blt j (Y C m).size=true)(hm:(Y C m).dv j=none)(bl:ni j M=true):
  s.le K {s with H:=aE s.H k (some (.av C m gen (n.set i (l.set j x)) M))}:=by
 intro β a w h;refine⟨β,h.BX k _ (.av C m gen (n.set i (l.set j x)) M) hk λG=>?_⟩;refine⟨G.1,?_⟩;rcases G.2 with ⟨ay,a2,_⟩|⟨b,us,B,ay,a2,a3,a4,a5,hf,fC,eQ⟩
 ·rw[a2] at D;simp at D
 have L:=(bt.1 D).1;have Q:l.length=(Y C m).size:=a4 l (bA D);have q:j<l.length:=by rw[Q];simpa[Nat.blt_eq] using A4
 refine .inr ⟨b,us,B,ay,a2,by simpa using a3,λr bH=>?_,λy A R gx u F W eR=>?_,λy A c aQ=>by simpa using hf y A c aQ,fC,eQ⟩
 ·rcases re bH with bH|rfl
  ·exact a4 r bH
  simpa using Q
 by_cases X:y=i/\A=j
 ·obtain⟨rfl,rfl⟩:=X;rw[hY L] at F;cases F;rw[hY q] at W;cases W;have p:=(a5 y A l l[A] u D (bh q) eR).1 _ ep;refine⟨λv N=>a7 N (wZ bl _ _),λ_=>?_⟩;rw[hm];obtain⟨h1,h2⟩:=p;cases h1 with|t _ _ h1=>exact .ee _ _ _ h1 h2
 have f: ∃o U,n[y]? =some o/\o[A]? =some U/\U=gx:=by
  by_cases I:y=i
  ·subst I;rw[hY L] at F;cases F;rw[km (by intro e;exact X ⟨rfl,e.symm⟩)] at W;exact⟨l,gx,D,W,rfl⟩
  rw[km (Ne.symm I)] at F;exact⟨R,gx,F,W,rfl⟩
 obtain⟨o,U,d1,d2,rfl⟩:=f;have p:=a5 y A o U u d1 d2 eR;refine⟨λv N=>p.1 v (dU _ N),λcn=>p.2 λv N=>?_⟩
 grind
theorem NH{K:Ctx}{s:S}(k i j m2:Nat){A:List df}{gen:Nat}{n:List (List T)}{l:List T}{I:List (Nat×Nat×V)}(hk:s.H k=some (.av A m gen n ((i,j,.t .en)::I)))(C:n[i]? =some l)(U:Nat.blt j (Y A m).size=true)(hm:(Y A m).dv j=some m2)(bl:ni j I=true):
  s.le K {s with H:=aE s.H k (some (.av A m gen (n.set i (l.set j (.aa []))) I))}:=by
 intro β a w h;refine⟨β,h.BX k _ (.av A m gen (n.set i (l.set j (.aa []))) I) hk λF=>?_⟩;refine⟨F.1,?_⟩;rcases F.2 with ⟨ay,a2,_⟩|⟨b,us,B,ay,a2,a3,a4,a5,hf,fC,eQ⟩
 ·rw[a2] at C;simp at C
 have G:=(bt.1 C).1;have L:l.length=(Y A m).size:=a4 l (bA C);have q:j<l.length:=by rw[L];simpa[Nat.blt_eq] using U
 refine .inr ⟨b,us,B,ay,a2,by simpa using a3,λr bH=>?_,λx y Q gx u D R eR=>?_,λx y c aQ=>by simpa using hf x y c aQ,fC,eQ⟩
 ·rcases re bH with bH|rfl
  ·exact a4 r bH
  simpa using L
 by_cases W:x=i/\y=j
 ·obtain⟨rfl,rfl⟩:=W;rw[hY G] at D;cases D;rw[hY q] at R;cases R;have p:=(a5 x y l l[y] u C (bh q) eR).1 _ ep;refine⟨λv M=>a7 M (wZ bl _ _),λ_=>?_⟩;rw[hm];obtain⟨h1,h2⟩:=p;cases h1 with|t _ _ h1=>cases h1 with|en=>exact .nil _ _ h2
 have X: ∃o N,n[x]? =some o/\o[y]? =some N/\N=gx:=by
  by_cases f:x=i
  ·subst f;rw[hY G] at D;cases D;rw[km (by intro e;exact W ⟨rfl,e.symm⟩)] at R;exact⟨l,gx,C,R,rfl⟩
  rw[km (Ne.symm f)] at D;exact⟨Q,gx,D,R,rfl⟩
 obtain⟨o,N,d1,d2,rfl⟩:=X;have p:=a5 x y o N u d1 d2 eR;refine⟨λv M=>p.1 v (dU _ M),λcn=>p.2 λv M=>?_⟩
 grind
theorem PB{K:Ctx}{s:S}(k:Nat){Q:List df}{gen:Nat}{e:List (List T)}{C:List (Nat×Nat×V)}(l:List df)(o:Nat)(G:s.H k=some (.av Q m gen e C))(L:Nat.ble K.cE k=true)
  (h1:(Y l o).ty=(Y Q m).ty) (R:(Y l o).size=(Y Q m).size) (h3:(Y l o).aJ=[]):
  s.le K {s with H:=aE s.H k (some (.av l o gen e C))}:=by
 have j2:=eb L;have D: ∀j,(Y l o).dv j=none:=λj=>by unfold df.dv;rw[h3];rfl
 intro A a w h;have r:=(h.heap k _ G).2;have F:cN A (A.drop k):=λ_ _ _ y=> .inl y;rcases r.2 with ⟨ay,a2,a3⟩|⟨b,us,B,ay,a2,a3,a4,a5,hf,fC,eQ⟩
 ·exact⟨_,h.drop k (.av l o gen e C) (by rw[G];simp) ⟨r.1,.inl ⟨ay,a2,λc n=>n.1 rfl⟩⟩⟩
 refine⟨_,h.drop k (.av l o gen e C) (by rw[G];simp) ⟨r.1,.inr ⟨b,us,λ_ _ _=>False,ay,by rw[h1];exact a2,by rw[R];exact a3,by rw[R];exact a4,?_,λ_ _ _ n=>n.elim,λ_ _ _ _ _ n=>n.elim,λc=>⟨λn=>(n.1 rfl).elim,λ⟨_,_,n⟩=>n.elim⟩⟩⟩⟩;intro i j W x u cF b2 N;rw[R] at N;have U:=a5 i j W x u cF b2 N;generalize e8:own K (A.drop k) (aE s.H k (some (.av l o gen e C)))=X';have p: ∀b,X' b->own K A s.H b:=by
  subst e8;rintro b (y|⟨id,X,q⟩)
  ·exact .inl y
  refine .inr ⟨id,λf=>?_,ll q⟩;by_cases aD:id=k
  ·subst aD;rw[G] at f;cases f
  rw[bx _ _ _ _ aD] at X;exact X f
 refine⟨λv bF=>⟨(U.1 v bF).1.mono (Ext.refl _ _) (λb _=>p b) F (Shaped.refl _ _),λ_ n=>n⟩,λI=>?_⟩;rw[D];refine .ee _ _ _ ((U.2 I).q7 p ?_) λ_ n=>n;intro c n y;subst e8;have L:At A k c:= .inr ((eQ c).2 ⟨i,j,n⟩);rcases y with y|⟨id,X,q⟩
 ·obtain⟨kp,mq⟩:=h.gy c y;rcases(h.fresh k c L).1 with M|j0
  ·exact mq M
  omega
 have:=h.inj _ _ _ (ll q) L;subst this;rcases q with ⟨g,q⟩|q
 ·have g3:A id=some (some c,g):=q
  grind
 exact q.1 rfl
def E.gen:E->Option Nat
 | .cells _=>none
 | .arr _ g _ _=>some g
 | .av _ _ g _ _=>some g
theorem me{g:Nat}{e:E}(h:b4 W w X i e)(c:e.gen=some g):1<=g/\ ∃q,W i=some (q,g):=by
 cases e with
 |cells cs=>cases c
 |arr ty l size a=>
  cases c;exact⟨h.1,by rcases h.2 with ⟨k,_⟩|⟨b,n,k,_⟩<;>exact⟨_,k⟩⟩
 |av o m l a p=>
  cases c;exact⟨h.1,rk h⟩
theorem Rel.Wy{K:Ctx}{s:S}(h:Rel K β s a w)(k:Nat)(e e':E)(g:Nat)(T:s.H k=some e)(bE:e.gen=some g)(C:Array Value)(D:TypeId)
  (he: ∀(y:Map) (M:Nat->Prop) (F:World),F=w.alloc (.cells C D)->y k=some (some w.heap.size,g+1)->(∀b,y.n k b↔β.n k b)->(∀v u,aS β w (own K β s.H) v u->aS y F M v u)->
   (∀x u,b9 w (own K β s.H) x u->b9 F M x u)->(∀U m x u N,(∀b,N b->β.n k b)->eJ U w (own K β s.H) m x u N->eJ U F M m x u N)->b4 y F M k e'):
  Rel K (β.put k (some (some w.heap.size,g+1))) {s with H:=aE s.H k (some e')} a (w.alloc (.cells C D)):=by
 have c: ∀X,Ext X w (w.alloc (.cells C D)):=λX=>Ext.alloc X w _;have G:s.u k=true:=(h.heap k _ T).1;obtain⟨L,nk,Q⟩:=me (h.heap k _ T).2 bE;have l: ∀id b,At (β.put k (some (some w.heap.size,g+1))) id b->(id=k/\b=w.heap.size)\/At β id b:=λid b aQ=>by
  rcases aQ with ⟨g,aQ⟩|aQ
  ·by_cases q:id=k
   ·subst q;rw[iF] at aQ;cases aQ;exact .inl ⟨rfl,rfl⟩
   rw[dK _ _ _ _ q] at aQ;exact .inr (.inl ⟨g,aQ⟩)
  exact .inr (.inr aQ)
 have o: ∀b,b<w.heap.size->own K (β.put k (some (some w.heap.size,g+1))) (aE s.H k (some e')) b->own K β s.H b:=by
  rintro b hlt (R|⟨id,B,W⟩)
  ·exact .inl R
  rcases l id b W with ⟨rfl,rfl⟩|A
  ·omega
  refine .inr ⟨id,λV=>?_,A⟩;by_cases q:id=k
  ·subst q;rw[T] at V;cases V
  rw[bx _ _ _ _ q] at B;exact B V
 have f:Shaped β w (w.alloc (.cells C D)):=lQ (c _);have j:=uC nk (some w.heap.size) L Q;have I: ∀v u,aS β w (own K β s.H) v u->aS (β.put k (some (some w.heap.size,g+1))) (w.alloc (.cells C D)) (own K (β.put k (some (some w.heap.size,g+1))) (aE s.H k (some e'))) v u:=
  λv u bF=>bF.mono (c _) o j f
 refine {ext:=h.ext.trans ((c λ_=>False).weaken λ_ _ h=>h.elim),k7:=h.k7,lp:=h.lp,gy:=h.gy,mX:=h.mX,base:= ?_,gI:=h.gI.ext h.ext.size (c _),low:=h.low,cW:= ?_,du:=λid b hid=>h.du id b hid,inj:= ?_,fresh:= ?_,heap:= ?_,cu:=λi=>I _ _ (h.cu i),nt:=h.nt,defers:=h.defers}
 ·exact h.base.grow k g nk (some w.heap.size) Q L (iF _ _ _) (λb aQ=>by cases aQ;exact .inr h.ext.size) λid q=>dK _ _ _ _ q
 ·intro id hid;have r:s.u id=false:=hid;by_cases e:id=k
  ·subst e;rw[G] at r;cases r
  rw[dK _ _ _ _ e];exact h.cW id r
 ·intro id Y b B W;rcases l id b B with ⟨rfl,rfl⟩|A<;>rcases l Y _ W with ⟨rfl,e⟩|h4
  ·rfl
  ·have:=(h.fresh _ _ h4).2;omega
  ·subst e;have:=(h.fresh _ _ A).2;omega
  exact h.inj _ _ _ A h4
 ·intro id b aQ;rcases l id b aQ with ⟨rfl,rfl⟩|A
  ·exact⟨.inr h.ext.size,aV⟩
  exact⟨(h.fresh _ _ A).1,by have:=(h.fresh _ _ A).2;simp;omega⟩
 intro id e2 p;have p:aE s.H k (some e') id=some e2:=p;show s.u id=true/\b4 _ _ (own K _ (aE s.H k (some e'))) id e2;by_cases q:id=k
 ·subst q;rw[bu] at p;cases p;exact⟨G,he _ _ _ rfl (iF _ _ _) (λ_=>Iff.rfl) I (λx u R=>R.mono (c _) o) λU m x u N gT bH=>bH.mono (c _) o λb aQ=>th _ _ _ (h.fresh id b (.inr (gT b aQ))).2⟩
 rw[bx _ _ _ _ q] at p;obtain⟨B,W⟩:=h.heap id e2 p;refine⟨B,W.mono (c _) o j (λx R=>by rw[dK _ _ _ _ q];exact R) f λb aQ=>th _ _ _ (h.fresh id b aQ).2⟩
theorem Rel.TX{K:Ctx}{s:S}(h:Rel K β s a w)(k:Nat)(e e':E)(g:Nat)(q:Option Nat)(L:β k=some (q,g))(A:1<=g)(f:s.H k=some e)
  (j: ∀(r:Map) (Q:Nat->Prop),r k=some (q,g+1)->(∀b,r.n k b↔β.n k b)->(∀v u,aS β w (own K β s.H) v u->aS r w Q v u)->(∀b,Q b->own K β s.H b)->b4 r w Q k e'):
  Rel K (β.put k (some (q,g+1))) {s with H:=aE s.H k (some e')} a w:=by
 have B:s.u k=true:=(h.heap k _ f).1;have c: ∀id b,At (β.put k (some (q,g+1))) id b->At β id b:=λid b aQ=>by
  rcases aQ with ⟨g,aQ⟩|aQ
  ·by_cases m:id=k
   ·subst m;rw[iF] at aQ;cases aQ;exact .inl ⟨_,L⟩
   rw[dK _ _ _ _ m] at aQ;exact .inl ⟨g,aQ⟩
  exact .inr aQ
 have o: ∀b,own K (β.put k (some (q,g+1))) (aE s.H k (some e')) b->own K β s.H b:=by
  rintro b (R|⟨id,y,C⟩)
  ·exact .inl R
  refine .inr ⟨id,λW=>?_,c id b C⟩;by_cases m:id=k
  ·subst m;rw[f] at W;cases W
  rw[bx _ _ _ _ m] at y;exact y W
 have D:=uC q q A L;have F: ∀v u,aS β w (own K β s.H) v u->aS (β.put k (some (q,g+1))) w (own K (β.put k (some (q,g+1))) (aE s.H k (some e'))) v u:=λv u I=>I.mono (Ext.refl _ _) (λb _=>o b) D (Shaped.refl _ _);refine {h with base:= ?_,cW:= ?_,inj:= ?_,fresh:=λid b aQ=>h.fresh id b (c id b aQ),heap:= ?_,cu:=λi=>F _ _ (h.cu i)}
 ·exact h.base.grow k g q q L A (bu _ _ _) (λb aQ=> .inl aQ) λid m=>dK _ _ _ _ m
 ·intro id hid;have p:s.u id=false:=hid;by_cases e:id=k
  ·subst e;rw[B] at p;cases p
  rw[dK _ _ _ _ e];exact h.cW id p
 ·intro id G b y C;exact h.inj id G b (c id b y) (c G b C)
 intro id X l;have l:aE s.H k (some e') id=some X:=l;show s.u id=true/\b4 _ _ (own K _ (aE s.H k (some e'))) id X;by_cases m:id=k
 ·subst m;rw[bu] at l;cases l;exact⟨B,j _ _ (iF _ _ _) (λ_=>Iff.rfl) F o⟩
 rw[bx _ _ _ _ m] at l;obtain⟨y,C⟩:=h.heap id X l;exact⟨y,C.mono (Ext.refl _ _) (λb _=>o b) D (λx R=>by rw[dK _ _ _ _ m];exact R) (Shaped.refl _ _) λ_ _=>rfl⟩
theorem O2{size:Nat}{a c:List (List T)}(o p h:List Value)(w:a.length=n)(y:o.length=n*size)(C:p.length=c.length*size)(A: ∀b,b∈a->b.length=size)(q: ∀b,b∈c->b.length=size){R:Nat->Nat->T->Value->Prop}
  (D: ∀(i j:Nat) (b:List T) (x:T) (u:Value),a[i]? =some b->b[j]? =some x->o[i*size+j]? =some u->R i j x u)
  (F: ∀(i j:Nat) (b:List T) (x:T) (u:Value),c[i]? =some b->b[j]? =some x->p[i*size+j]? =some u->R (n+i) j x u):
  ∀(i j:Nat) (b:List T) (x:T) (u:Value),(a++c)[i]? =some b->b[j]? =some x->(o++p++h)[i*size+j]? =some u->R i j x u:=by
 intro i j b x u k v B;by_cases l:i<a.length
 ·rw[hD l] at k;have e:j<size:=by rw[<-A b (bA k)];exact(bt.1 v).1
  have m:i*size+j<o.length:=by rw[y,<-w];exact j3 l e
  grind
 rw[gK O] at k;have e:j<size:=by rw[<-q b (bA k)];exact(bt.1 v).1
 have r:=(bt.1 k).1;have m:=j3 (size:=size) r e
 grind
def fT(n:Nat):List (Nat×Nat×V)->List (Nat×Nat×V)
 | []=>[]
 |h::hs=>(n+h.1,h.2.1,h.2.2)::fT n hs
theorem t'{n:Nat}: ∀{hs:List (Nat×Nat×V)} {i j:Nat} {v:V},(i,j,v)∈fT n hs↔ ∃k,i=n+k/\(k,j,v)∈hs
 | [],_,_,_=>by simp[fT]
 |h::hs,i,j,v=>by
  simp only[fT,List.mem_cons,Prod.mk.injEq,t' (hs:=hs)];constructor
  ·rintro(⟨l,e,m⟩|⟨k,l,e⟩)
   ·exact⟨h.1,l,.inl (by obtain⟨a,b,c⟩:=h;cases e;cases m;rfl)⟩
   exact⟨k,l,.inr e⟩
  rintro⟨k,l,e|e⟩
  ·subst e;exact .inl ⟨l,rfl,rfl⟩
  exact .inr ⟨k,l,e⟩
def uJ(n:Map)(w:World)(X:Nat->Prop)(c:Nat)(a:List (List T))(m:List (Nat×Nat×V))(u:Value):Prop:=
 ∃(b e l:Nat) (k:List Value),u= .slice (some ⟨b,e,none⟩) a.length l/\k.length=a.length*c/\
  (∀(j:Nat) x,k[j]? =some x->w.cell? ⟨b,e+j,none⟩=some x)/\(∀x,x∈k->x.oneCell'=true)/\
  ∀(i j:Nat) (h:List T) (x:T) (y:Value),a[i]? =some h->h[j]? =some x->k[i*c+j]? =some y->(∀v,(i,j,v)∈m->aS n w X v y)/\((∀v,(i,j,v)∉m)->b9 w X x y)
def px:List (Nat×Nat×V)->Bool
 | []=>true
 |h::a=>h.2.2.one&&px a
theorem Dt: ∀{a:List (Nat×Nat×V)} {i j:Nat} {v:V},px a=true->(i,j,v)∈a->v.one=true
 | [],_,_,_,_,h=>by cases h
 |h::a,i,j,v,b,hm=>by
  simp only[px,Bool.and_eq_true] at b;rcases dz.1 hm with rfl|hm
  ·exact b.1
  exact Dt b.2 hm
def rv(d:df)(n:Nat)(a:List (Nat×Nat×V)):Bool:=
 (List.range n).all λi=>d.aJ.all λp=>a.any λh=>Nat.beq h.1 i&&Nat.beq h.2.1 p.1
theorem Ek: ∀{l:List (Nat×Nat)} {j m:Nat},pW l j=some m->(j,m)∈l
 | [],_,_,h=>by cases h
 |p::l,j,m,h=>by
  simp only[pW] at h;cases a:Nat.beq p.1 j with
  |true=>rw[a] at h;cases h;rw[<-ca a];exact ep
  |false=>rw[a] at h;exact dU _ (Ek h)
theorem DE{d:df}(h:rv d n hs=true){j:Nat}(e:i<n)(k:d.dv j=some m): ∃v,(i,j,v)∈hs:=by
 have l:=gv.1 h i (rb.2 e);have o:=gv.1 l (j,m) (Ek k);obtain⟨⟨a,b,v⟩,p,c⟩:=q'.1 o;simp only[Bool.and_eq_true] at c;have q:=ca c.1;have r:=ca c.2
 grind
theorem uJ.of{K:Ctx}{s:S}(h:Rel K β s a w){g:Nat}{c:List (List T)}{r:List (Nat×Nat×V)}{u:Value}(hk:s.H k=some (.av l m g c r))(cn:n=c.length)
  (hu:aS β w (own K β s.H) (.aN k g (Y l m).size 0 n) u) (N:0<c.length) (dG:px r=true) (bl:rv (Y l m) c.length r=true):uJ β w (own K β s.H) (Y l m).size c r u:=by
 subst cn;have W:=(h.heap k _ hk).2;rcases W.2 with ⟨_,D,_⟩|⟨b,U,B,ay,a2,a3,a4,a5,hf,fC,eQ⟩
 ·rw[D] at N;simp at N
 rcases ei hu ay with ⟨X,e4,BK,gr,rfl,f,hw,fz,sx,ch,hm⟩|⟨f,_⟩
 ·cases f;rw[fe];have A: ∀(i j:Nat) (o:List T) (x:T) (y:Value),c[i]? =some o->o[j]? =some x->U[i*(Y l m).size+j]? =some y->
    (∀v,(i,j,v)∈r->aS β w (own K β s.H) v y)/\((∀v,(i,j,v)∉r)->b9 w (own K β s.H) x y):=by
   intro i j o x y C D R;have F:=a5 i j o x y C D R;refine⟨λv p=>(F.1 v p).1,λG=>?_⟩;have h6:=F.2 G;have L:(Y l m).dv j=none:=by
    cases I:(Y l m).dv j with
    |none=>rfl
    |some Wx=>
     obtain⟨v,p⟩:=DE bl (bt.1 C).1 I;exact a7 p (G v)
   rw[L] at h6;cases h6 with|ee _ _ _ h _=>exact h
  refine⟨b,0,X,U.toList.take (c.length*(Y l m).size),rfl,b1,λj x q=>?_,λx hx=>?_,λi j o x y C D R=>?_⟩
  ·rw[fJ] at q;split at q
   ·simp only[World.cell?,a2,Nat.zero_add];simpa using q
   cases q
  ·obtain⟨j,q⟩:=hz.1 hx;rw[fJ] at q;split at q
   ·rename_i Q;have db:0<(Y l m).size:=Nat.pos_of_ne_zero λe=>by rw[e] at Q;omega
    have C:j / (Y l m).size<c.length:=by rw[tQ db];exact Q
    have D:=Nat.mod_lt j db;have R:=a4 _ (ft C);have he:j / (Y l m).size*(Y l m).size+j%(Y l m).size=j:=by rw[Nat.mul_comm];exact Nat.div_add_mod ..
    obtain⟨c1,c2⟩:=A (j / (Y l m).size) (j%(Y l m).size) _ _ x (bh C) (bh (by omega:j%(Y l m).size<(c[j / (Y l m).size]).length)) (by rw[he];simpa using q);by_cases p: ∃v,(j / (Y l m).size,j%(Y l m).size,v)∈r
    ·obtain⟨v,p⟩:=p;exact(c1 v p).gX (Dt dG p)
    exact(c2 λv M=>p ⟨v,M⟩).gX
   cases q
  rw[fJ] at R
  grind
 cases f
theorem Rel.TW{K:Ctx}{s:S}{t e:TypeId}{u:TypeDesc}{z:Value}{gen G bytes:Nat}(h:Rel K β s a w)(k:Nat)(r:List df)(m:Nat)(l o:List (List T))(C:List (Nat×Nat×V))(hk:s.H k=some (.av r m gen l []))(qq:(Y r m).size=G)(lT:(Y r m).ty=e)(ty:TypeId)
  (hu:K.P.underlying t=some (.slice e)) (he:bL K.P e u z G bytes) (sI:z.cells.size=G) (hs: ∀p,p∈l->p.length=G) (mU: ∀p,p∈o->p.length=G) (v x:Value) (bF:aS β w (own K β s.H) (.aN k gen G 0 l.length) v)
  (hx:uJ β w (own K β s.H) G o C x) (Be:0<o.length) (UJ:rv (Y r m) o.length C=true) (aQ:(l.length+o.length)*bytes<=140737488355328) (hm:l.length+o.length<=maxLen):
  ∃c8 w' D,(Builtin.append_ #[t,t] ty #[v,x]).run K.P w= .ok c8 w'/\Rel K D {s with H:=aE s.H k (some (.av r m (gen+1) (l++o) (fT l.length C)))} a w'/\
   aS D w' (own K D (aE s.H k (some (.av r m (gen+1) (l++o) (fT l.length C))))) (.aN k (gen+1) G 0 (l.length+o.length)) c8:=by
 subst qq;subst lT;obtain⟨q,cK⟩:=rk (h.heap k _ hk).2;have hl:=(h.heap k _ hk).2.1;obtain⟨_,i,j1,hi2,jk,oF⟩:=id he;have hm':l.length+o.length<=9223372036854775807:=by unfold maxLen at hm;omega
 have hh:=(h.heap k _ hk).2.2;have sC: ∀p,p∈l++o->p.length=(Y r m).size:=λp mT=>by
  rcases ff.1 mT with h|h
  ·exact hs p h
  exact mU p h
 obtain⟨b2,off,vn,X,oM,la,sE,k',hwr⟩:=hx;have Bm: ∀j y,X[j]? =some y->w.cell? ((⟨b2,off,none⟩:Addr).add j)=some y:=λj y hy=>by rw[gQ];exact sE j y hy
 have kE:(l.length+o.length)*i.bytes<=140737488355328:=by rw[oF];exact aQ
 have U8: ∀i j,i<o.length->(∀v,(i,j,v)∉C)->(Y r m).dv j=none:=λi j aD hn=>by
  cases hkk:(Y r m).dv j with
  |none=>rfl
  |some Wx=>
   obtain⟨v,bF⟩:=DE UJ aD hkk;exact a7 bF (hn v)
 -- the cells of old and new rows, in whatever world
 have N: ∀(B:Nat->Nat->Nat->Prop) (D:Map) (w':World) (X':Nat->Prop),(∀v u,aS β w (own K β s.H) v u->aS D w' X' v u)->(∀x u,b9 w (own K β s.H) x u->b9 w' X' x u)->
   (∀i j c,B i j c->i<l.length)-> ∀(I rest:List Value),I.length=l.length*(Y r m).size->
   (∀(i j:Nat) (p:List T) (x:T) (u:Value),l[i]? =some p->p[j]? =some x->I[i*(Y r m).size+j]? =some u->eJ r w' X' ((Y r m).dv j) x u (B i j))->
   ∀(i j:Nat) (p:List T) (x:T) (u:Value),(l++o)[i]? =some p->p[j]? =some x->(I++X++rest)[i*(Y r m).size+j]? =some u->Cell r m (fT l.length C) D w' X' i j x u (B i j):=by
  intro B D w' X' l1 jm fy I rest l2 oJ;refine O2 I X rest rfl l2 la hs mU (R:=λi j x u=>Cell r m (fT l.length C) D w' X' i j x u (B i j)) (λi j p x u h1 h2 h3=>⟨λv bF=>?_,λ_=>oJ i j p x u h1 h2 h3⟩) λi j p x u h1 h2 h3=>⟨λv bF=>?_,λhn=>?_⟩
  ·obtain⟨gF,e1,_⟩:=t'.1 bF
   have:=(bt.1 h1).1;omega
  ·obtain⟨gF,e1,e2⟩:=t'.1 bF
   have:gF=i:=O
   subst this;exact⟨l1 _ _ ((hwr gF j p x u h1 h2 h3).1 v e2),λc L=>by have:=fy _ _ _ L;omega⟩
  have HB: ∀v,(i,j,v)∉C:=λv bF=>hn v (t'.2 ⟨i,rfl,bF⟩);rw[U8 i j (bt.1 h1).1 HB];exact .ee _ _ _ (jm _ _ ((hwr i j p x u h1 h2 h3).2 HB)) (λc L=>by have:=fy _ _ _ L;omega)
 -- a new block
 have finish: ∀(B:Nat->Nat->Nat->Prop) (I:List Value) (A:Nat),I.length=l.length*(Y r m).size->l.length+o.length<=A->A<=maxLen->
   (∀(i j:Nat) (p:List T) (x:T) (u:Value),l[i]? =some p->p[j]? =some x->I[i*(Y r m).size+j]? =some u->eJ r w (own K β s.H) ((Y r m).dv j) x u (B i j))->
   (∀i j c,B i j c->i<l.length/\j<(Y r m).size)->(∀i j gF cr c,B i j c->B gF cr c->i=gF/\j=cr)->(∀c,β.n k c↔ ∃i j,B i j c)->
   ∃D,Rel K D {s with H:=aE s.H k (some (.av r m (gen+1) (l++o) (fT l.length C)))} a (w.drew.alloc (.cells (I.toArray++X.toArray++Builtin.zeroCells z.cells (A-(l.length+o.length))) (Y r m).ty))/\
    aS D (w.drew.alloc (.cells (I.toArray++X.toArray++Builtin.zeroCells z.cells (A-(l.length+o.length))) (Y r m).ty)) (own K D (aE s.H k (some (.av r m (gen+1) (l++o) (fT l.length C))))) (.aN k (gen+1) (Y r m).size 0 (l.length+o.length)) (.slice (some ⟨w.heap.size,0,none⟩) (l.length+o.length) A):=by
  intro B I A l2 Hl hcm Bi fy cA gT;have sB:(I.toArray++X.toArray++Builtin.zeroCells z.cells (A-(l.length+o.length))).size=A*(Y r m).size:=by
   simp only[Array.size_append,List.size_toArray,size_zeroCells,sI,l2,la,<-Nat.add_mul];congr 1;omega
  have UK:=y3 h;have A':=UK.Wy k _ (.av r m (gen+1) (l++o) (fT l.length C)) gen hk rfl (I.toArray++X.toArray++Builtin.zeroCells z.cells (A-(l.length+o.length))) (Y r m).ty
   (λD X' w' hw' Bo cn l1 jm oJ=>⟨O,.inr ⟨w.heap.size,_,B,Bo,by subst hw';exact ie w.drew _,by rw[sB,dw];exact dq _ Hl,sC,
    λi j p x u ay a2 a3=>N B D w' X' (λv u Bl=>l1 v u (Bl.mono (Ext.drew _ _) (λ_ _ h=>h) (cN.refl _) (lQ (Ext.drew _ _)))) (λx u Bn=>jm x u (Bn.mono (Ext.drew _ _) λ_ _ h=>h)) (λi j c L=>(fy i j c L).1) I (Builtin.zeroCells z.cells (A-(l.length+o.length))).toList l2
     (λi j p x u cF b2 eR=>oJ r _ x u (B i j) (λc L=>(gT c).2 ⟨i,j,L⟩) ((Bi i j p x u cF b2 eR).mono (Ext.drew _ _) (λ_ _ h=>h) λ_ _=>rfl)) i j p x u ay a2 (by simpa[<-Array.getElem?_toList] using a3),
    λi j c L=>⟨by have:=(fy i j c L).1;rw[dw];omega,(fy i j c L).2,λe0=>by have:=(h.fresh k c (.inr ((gT c).2 ⟨i,j,L⟩))).2;rw[e0] at this;exact Nat.lt_irrefl _ this⟩,cA,λc=>(cn c).trans (gT c)⟩⟩)
  refine⟨_,A',?_⟩;have iJ:aS (β.put k (some (some w.heap.size,gen+1))) (w.drew.alloc (.cells (I.toArray++X.toArray++Builtin.zeroCells z.cells (A-(l.length+o.length))) (Y r m).ty)) (own K (β.put k (some (some w.heap.size,gen+1))) (aE s.H k (some (.av r m (gen+1) (l++o) (fT l.length C))))) (.aN k (gen+1) (Y r m).size 0 (l.length+o.length)) (.slice (some ⟨w.heap.size,0*(Y r m).size,none⟩) (l.length+o.length) A):=by
   have qs:=ie w.drew (.cells (I.toArray++X.toArray++Builtin.zeroCells z.cells (A-(l.length+o.length))) (Y r m).ty);refine .aN k (gen+1) (Y r m).size 0 _ A w.heap.size (A*(Y r m).size) (Y r m).ty O (bu _ _ _) aV ?_ (by rw[dn]) Hl hcm;have Bb:(w.drew.alloc (.cells (I.toArray++X.toArray++Builtin.zeroCells z.cells (A-(l.length+o.length))) (Y r m).ty)).heap[w.heap.size]? =some (.cells (I.toArray++X.toArray++Builtin.zeroCells z.cells (A-(l.length+o.length))) (Y r m).ty):=qs;unfold World.shape?;rw[Bb];simp only[sB]
  rw[fe] at iJ;exact iJ
 subst oM;rcases ei bF cK with ⟨f,b,n,gr,rfl,lU,hw,fz,sx,ch,k9⟩|⟨lU,_,A7,rfl⟩
 rotate_left
 ·have l0:l=[]:=iW A7;subst l0;have Q:=run_append_nil (P:=K.P) w t ty (Y r m).ty i z hu j1 hi2 ⟨b2,off,none⟩ o.length vn X (by rw[jk];exact la) Bm Be O (by simp at kE;omega);subst lU;have Vj: ∀c,¬β.n k c:=by
   rcases hh with ⟨_,_,h0⟩|⟨b,I,B,h1,_⟩
   ·exact h0
   rw[cK] at h1;cases h1
  obtain⟨D,f1,f2⟩:=finish (λ_ _ _=>False) [] (grownCap w o.length 0 (Y r m).ty) aV (by simpa using grownCap_ge w o.length 0 (Y r m).ty) (grownCap_le_maxLen w _ 0 (Y r m).ty (by unfold maxLen;simp at hm';omega)) (λi j p x u h1 _ _=>by simp at h1)
   (λ_ _ _ h=>h.elim) (λ_ _ _ _ _ h=>h.elim) λc=>⟨λL=>a7 L (Vj c),λ⟨_,_,h⟩=>h.elim⟩
  simp only[List.length_nil,Nat.zero_add] at f1 f2⊢;exact⟨_,_,D,by rw[Q];simp,f1,f2⟩
 subst lU;rcases hh with ⟨g1,_⟩|⟨e4,F,B,g1,g2,g3,g4,g5,g6,g7,g8⟩
 ·rw[cK] at g1;cases g1
 rw[cK] at g1;cases g1;have kF:F.size=f*(Y r m).size:=by
  unfold World.shape? at fz;rw[g2] at fz;simp at fz;rw[<-sx] at fz;rw[dn] at fz;exact fz.2
 have oK:(F.toList.take (l.length*(Y r m).size)).length=l.length*(Y r m).size:=b1
 have jm: ∀(i j:Nat) (p:List T) (x:T) (u:Value),l[i]? =some p->p[j]? =some x->(F.toList.take (l.length*(Y r m).size))[i*(Y r m).size+j]? =some u->eJ r w (own K β s.H) ((Y r m).dv j) x u (B i j):=by
  intro i j p x u h1 h2 h3;rw[fJ] at h3;split at h3
  ·exact(g5 i j p x u h1 h2 (by simpa using h3)).none
  cases h3
 simp only[Nat.zero_mul];by_cases M:l.length+o.length<=f
 ·have oE:l.length*(Y r m).size+X.length<=F.size:=by rw[la,kF,<-dM];exact dq _ M
  have Q:=run_append_room (P:=K.P) w t ty (Y r m).ty i hu j1 b l.length f F g2 ⟨b2,off,none⟩ o.length vn X (by rw[jk];exact la) Bm k' M (by rw[jk];exact oE);rw[jk] at Q;have U:(F.toList.take (l.length*(Y r m).size)++X++F.toList.drop (l.length*(Y r m).size+X.length)).toArray.size=F.size:=by
   simp;omega
  generalize jj:w.setRow b (F.toList.take (l.length*(Y r m).size)++X++F.toList.drop (l.length*(Y r m).size+X.length)).toArray=W at Q;have Vo:own K β s.H b:= .inr ⟨k,by rw[hk];simp,.inl ⟨_,cK⟩⟩;have A1:Ext (own K β s.H) w W:=by
   subst jj;exact⟨rfl,rfl,rfl,aV,λkk _ hx=>setRow_other _ _ _ _ λe0=>hx (e0▸Vo)⟩
  have VA:Shaped β w W:=by subst jj;intro e4 _;exact wI g2 U e4
  have hrel:=h.setRow k b (.inl ⟨_,cK⟩) F (Y r m).ty g2 (F.toList.take (l.length*(Y r m).size)++X++F.toList.drop (l.length*(Y r m).size+X.length)).toArray U (.av r m gen (l++o) (fT l.length C)) (by rw[hk];simp)
   ⟨hl,Or.inr ⟨b,_,B,cK,setRow_heap _ _ _ _ _ _ g2,by rw[U,kF,dw];exact dq _ M,sC,
    λi j p x u ay a2 a3=>by
     rw[jj];exact N B β W (own K β s.H) (λv u Bl=>Bl.mono A1 (λ_ _ h=>h) (cN.refl _) VA) (λx u Bn=>Bn.mono A1 λ_ _ h=>h) (λi j c L=>(g6 i j c L).1) _ _ oK
      (λi j p x u cF b2 eR=>(jm i j p x u cF b2 eR).mono A1 (λ_ _ h=>h) λc L=>by subst jj;exact setRow_other _ _ _ _ (g6 i j c L).2.2) i j p x u ay a2 (by simpa using a3),
    λi j c L=>⟨by have:=(g6 i j c L).1;rw[dw];omega,(g6 i j c L).2⟩,g7,g8⟩⟩
  rw[jj] at hrel;have sy:=hrel.TX k (.av r m gen (l++o) (fT l.length C)) (.av r m (gen+1) (l++o) (fT l.length C)) gen (some b) cK hl (bu _ _ _) (λD X' Bo cn l1 e8=>by
   have fP:=(hrel.heap k _ (bu _ _ _)).2;rcases fP.2 with ⟨e1,_⟩|⟨e4,eo,JZ,e1,e2,jS,r9,r',Ug,Uh,Ui⟩
   ·rw[cK] at e1;cases e1
   rw[cK] at e1;cases e1;exact⟨O,.inr ⟨b,eo,JZ,Bo,e2,jS,r9,λi j p x u c1 c2 c3=>⟨λv bF=>⟨l1 _ _ ((r' i j p x u c1 c2 c3).1 v bF).1,((r' i j p x u c1 c2 c3).1 v bF).2⟩,λhn=>((r' i j p x u c1 c2 c3).2 hn).mono (Ext.refl _ _) (λc _=>e8 c) λ_ _=>rfl⟩,Ug,Uh,λc=>(cn c).trans (Ui c)⟩⟩)
  have AQ:aE (aE s.H k (some (.av r m gen (l++o) (fT l.length C)))) k (some (.av r m (gen+1) (l++o) (fT l.length C)))=aE s.H k (some (.av r m (gen+1) (l++o) (fT l.length C))):=by
   funext j;by_cases hj:j=k
   ·subst hj;rw[bu,bu]
   rw[bx _ _ _ _ hj,bx _ _ _ _ hj,bx _ _ _ _ hj]
  simp only[AQ] at sy;refine⟨_,_,_,Q,sy,?_⟩;have iJ:aS (β.put k (some (some b,gen+1))) W (own K (β.put k (some (some b,gen+1))) (aE s.H k (some (.av r m (gen+1) (l++o) (fT l.length C))))) (.aN k (gen+1) (Y r m).size 0 (l.length+o.length)) (.slice (some ⟨b,0*(Y r m).size,none⟩) (l.length+o.length) f):=by
   refine .aN k (gen+1) (Y r m).size 0 _ f b (f*(Y r m).size) (Y r m).ty O (bu _ _ _) (by subst jj;simpa using hw) ?_ (by rw[dn]) M k9;subst jj;unfold World.shape?;rw[setRow_heap _ _ _ _ _ _ g2];simp only[U,kF]
  rw[fe] at iJ;exact iJ
 have holds: ∀j u,(F.toList.take (l.length*(Y r m).size))[j]? =some u->w.cell? ((⟨b,0,none⟩:Addr).add j)=some u:=by
  intro j u hj;rw[gQ,dn];rw[fJ] at hj;split at hj
  ·simp only[World.cell?,g2];simpa using hj
  cases hj
 have Q:=run_append_grow (P:=K.P) w t ty (Y r m).ty i z hu j1 hi2 ⟨b,0,none⟩ l.length f (F.toList.take (l.length*(Y r m).size)) (by rw[jk];exact oK) holds ⟨b2,off,none⟩ o.length vn X (by rw[jk];exact la) Bm O O (growslice_fits O kE);obtain⟨D,f1,f2⟩:=finish B (F.toList.take (l.length*(Y r m).size)) (grownCap w (l.length+o.length) f (Y r m).ty) oK (grownCap_ge w _ f (Y r m).ty) (grownCap_le_maxLen w _ f (Y r m).ty hm) jm (λi j c L=>⟨(g6 i j c L).1,(g6 i j c L).2.1⟩) g7 g8;exact⟨_,_,D,Q,f1,f2⟩
def mx(a:Nat)(b:List V):List (Nat×Nat×V)->List (Nat×Nat×V)
 | []=>[]
 |h::c=>(h.1,h.2.1,match Nat.ble a h.2.1,b[h.2.1-a]? with
  |true,some v=>v
  |_,_=>h.2.2)::mx a b c
theorem x6{off:Nat}{vs:List V}{i j:Nat}{v:V}: ∀{a:List (Nat×Nat×V)},(i,j,v)∈a-> ∃b,(i,j,b)∈mx off vs a
 |h::a,hm=>by
  rcases dz.1 hm with rfl|hm
  ·exact⟨_,ep⟩
  obtain⟨b,c⟩:=x6 hm;exact⟨b,dU _ c⟩
theorem xt{off:Nat}{vs:List V}{i j:Nat}{v:V}: ∀{b:List (Nat×Nat×V)},(i,j,v)∈mx off vs b-> ∃a,(i,j,a)∈b/\(off<=j-> ∀x,vs[j-off]? =some x->v=x)/\(¬(off<=j/\j<off+vs.length)->v=a)
 |h::b,hm=>by
  rcases dz.1 hm with e|hm
  ·simp only[Prod.mk.injEq] at e;obtain⟨rfl,rfl,rfl⟩:=e;refine⟨h.2.2,ep,λk x c=>?_,λl=>?_⟩
   ·rw[Nat.ble_eq_true_of_le k,c]
   split
   ·rename_i v m c
    have:=(bt.1 c).1
    have:=eb m;exact a7 ⟨this,O⟩ l
   rfl
  obtain⟨a,n,o⟩:=xt hm;exact⟨a,dU _ n,o⟩
theorem OV{gen:Nat}{a:List (List T)}{e:List (Nat×Nat×V)}(h:b4 W w X k (.av l m gen a e)){q:List T}{c:T}(r:a[i]? =some q)(y:q[n]? =some c):
  ∃(b:Nat) (o:Array Value) (N:Nat->Prop) (x:Value),W k=some (some b,gen)/\w.heap[b]? =some (.cells o (Y l m).ty (0,0))/\o[i*(Y l m).size+n]? =some x/\Cell l m e W w X i n c x N:=by
 rcases h.2 with ⟨_,v,_⟩|⟨b,o,B,A,v,F,G,C,_⟩
 ·rw[v] at r;simp at r
 have D:i<a.length:=(bt.1 r).1;have L:n<(Y l m).size:=by
  grind
 have p:i*(Y l m).size+n<o.size:=by
  have:(i+1)*(Y l m).size<=a.length*(Y l m).size:=dq _ D
  grind
 exact⟨b,o,_,o[i*(Y l m).size+n],A,v,by simp[p],C i n q c _ r y (by simp[p])⟩
section kU
variable {P:Program}{H:Nat->Option E}{d:Option Tmp}{ty:TypeId}{pos:String}{af:Array Edge}{g:Option (Nat×Bool)}
variable {t:TypeId}{u:TypeDesc}{z:Value}{size bytes:Nat}
theorem wi(x:Operand)(o gen i a:Nat)(n:List df)(m:Nat)(B:Nat)(e:List (List T))(p:List (Nat×Nat×V))(l:List T)(c:T)(v:V)(G:bL P t u z size bytes)(L:iB u=false)(Q:H o=some (.av n m gen e p))(R:(Y n m).size=B)
  (W:e[i]? =some l) (f:l[a]? =some c) (q:(i,a,v)∈p\/((∀v,(i,a,v)∉p)/\(Y n m).dv a=none/\v= .t c)):
  bK P H ⟨d,.load t x,ty,pos,af,g⟩ [.cd o gen B i a] v:=by
 subst R;intro β w X ρ j I;obtain⟨b,us,N,y,M,U,C,D⟩:=OV (j o _ Q) W f;obtain⟨e4,r,hx⟩:=lh I.1 M;cases r;have hlt:=(gw.1 C).1;have k:w.cell? ⟨b,i*(Y n m).size+a,none⟩=some y:=by
  simp only[World.cell?,U];exact C
 refine⟨y,?_,?_⟩
 ·simp[execOp,hx,Instr.loadAt,Instr.sureAddr,G.wT w L k]
 rcases q with q|⟨A,hk,rfl⟩
 ·exact(D.1 v q).1
 have F:=D.2 A;rw[hk] at F;cases F with|ee _ _ _ h _=>exact .t _ _ h
theorem JU(x:Operand)(r gen i a:Nat)(k:List df)(m:Nat)(Q:Nat)(e:List (List T))(R:List (Nat×Nat×V))(h:List T)(y:List V)(W:bL P t u z size bytes)(f:iB u=true)(I:H r=some (.av k m gen e R))(M:(Y k m).size=Q)
  (n:e[i]? =some h) (ch:a+size<=h.length) (o:y.length=size) (N: ∀j v,y[j]? =some v->(i,a+j,v)∈R):
  bK P H ⟨d,.load t x,ty,pos,af,g⟩ [.cd r gen Q i a] (.agg y):=by
 subst M;intro β w X ρ U fE;rcases(U r _ I).2 with ⟨_,A,_⟩|⟨b,C,B,h1,A,h3,h4,h5,_⟩
 ·rw[A] at n;simp at n
 obtain⟨e4,D,hx⟩:=lh fE.1 h1;cases D;have aD:i<e.length:=(bt.1 n).1;have hrl:h.length=(Y k m).size:=h4 h (bA n);have p: ∀j,j<size->i*(Y k m).size+a+j<C.size:=by
  intro j q
  have:(i+1)*(Y k m).size<=e.length*(Y k m).size:=dq _ aD
  grind
 have l: ∀j,j<size->w.cell? ⟨b,i*(Y k m).size+a+j,none⟩=some (C.getD (i*(Y k m).size+a+j) undef):=λj q=>by
  have:=p j q;simp[World.cell?,A,this]
 refine⟨_,by simp[execOp,hx,Instr.loadAt,Instr.sureAddr,W.wU w f l];rfl,?_⟩;refine .agg _ _ (by simp[o]) λj c v F G=>?_;have q:j<size:=by
  grind
 simp only[List.getElem?_toArray,List.getElem?_map,List.getElem?_range q,Option.map_some,Option.some.injEq] at G;have L:=bh (O:a+j<h.length)
 have:=p j q;have h6:=(h5 i (a+j) h _ C[i*(Y k m).size+a+j] n L (by rw[<-nG];simp[this])).1 c (N j c F)
 grind
theorem Lx(x:Operand)(n gen o i c k a:Nat)(B:Array Field)(h:Field)(D:TypeDesc)(F:Value)(l p:Nat)(G:P.underlying t=some (.struct B))(L:B[k]? =some h)(Q:h.offset=a)(r:bL P h.type D F l p)(v:(l==0)=false)
  (e:E) (R:H n=some e) (W:e.gen=some gen):bK P H ⟨d,.fieldAddr t x k,ty,pos,af,g⟩ [.cd n gen o i c] (.cd n gen o i (c+a)):=by
 intro M w X N f j;obtain⟨y,q,C⟩:=me (f n _ R) W;obtain⟨b,A,I⟩:=lh j.1 C;subst A;have m:l≠0:=by simpa using v
 refine⟨.pointer (some ⟨b,i*o+(c+a),none⟩),?_,.cd _ _ _ _ _ _ y C⟩;simp[execOp,I,Instr.fieldAt,run_underlying G,L,Instr.sureAddr,fieldPlace,r.run_sizeOf,m,gQ,Q,Nat.add_assoc]
theorem Lv(x y:Operand)(e:TypeId)(i gen a c n:Nat)(p:E)(B:H i=some p)(C:p.gen=some gen)(D:P.underlying t=some (.slice e))(F:bL P e u z size bytes)(f:n<c):
  bK P H ⟨d,.indexAddr t x y,ty,pos,af,g⟩ [.aN i gen size a c,.t (.int .i64 (n:Nat))] (.cd i gen size (a+n) 0):=by
 intro j w X G L k;have cn:=cY k.2.1;generalize r:G x=v at k;have h:=k.1;simp only[r] at h;obtain⟨l,q,A⟩:=me (L i _ B) C;rcases ei h A with ⟨Q,b,m,R,rfl,o,I,M,W,N,T⟩|⟨_,_,U,_⟩
 ·subst o;refine⟨.pointer (some ⟨b,(a+n)*size+0,none⟩),?_,.cd _ _ _ _ _ b l A⟩;simp[execOp,r,cn,Instr.indexAt,asIntOf,run_underlying D,F.run_sizeOf,gQ,Nat.add_mul]
  grind
 omega
theorem Ns(x:Operand)(e:TypeId)(l gen h i c:Nat)(p:P.underlying t=some (.slice e))(n:E)(r:H l=some n)(v:n.gen=some gen):bK P H ⟨d,.call {callee:= .builtin .len,args:= #[x],argTypes:= #[t]},ty,pos,af,g⟩ [.aN l gen h i c] (.t (.int .i64 (c:Nat))):=by
 intro y w X o A B;obtain⟨a,cap,k⟩: ∃a cap,o x= .slice a c cap:=by
  have C:aS y w X (.aN l gen h i c) (o x):=B.1;obtain⟨_,q,D⟩:=me (A l _ r) v;rcases ei C D with ⟨cap,b,m,F,k,_⟩|⟨_,_,G,k⟩
  ·exact⟨_,_,k⟩
  exact⟨none,0,by rw[G];exact k⟩
 refine⟨.int .i64 (c:Nat),?_,.t _ _ (.int _ _)⟩;simp[execOp,resolve,invoke,builtin,k,Builtin.len_,run_underlying p,goInt]
end kU
section ops
variable {K:Ctx}{s:S}{d:Option Tmp}{ty:TypeId}{pos:String}{af:Array Edge}{g:Option (Nat×Bool)}
variable {t:TypeId}{u:TypeDesc}{z:Value}{gen size bytes:Nat}
theorem Oy(k j I M:Nat)(x y:Operand)(e:TypeId)(q r:List df)(m N:Nat)(c b:List (List T))(h:List (Nat×Nat×V))(U: ∀i,d=some i->Nat.blt i K.nt=true)(hx:s.get x= .aN k gen size 0 c.length)(hy:s.get y= .aN j I size 0 M)(hk:s.H k=some (.av q m gen c []))(D:s.H j=some (.av r N I b h))
  (F:Y r N=Y q m) (G:M=b.length) (hu:K.P.underlying t=some (.slice e)) (he:bL K.P e u z size bytes) (L:Nat.beq z.cells.size size=true) (R:(Y q m).size=size) (lT:(Y q m).ty=e) (hs: ∀l,l∈c->l.length=size) (W: ∀l,l∈b->l.length=size)
  (n:0<b.length) (o:rv (Y q m) b.length h=true) (dG:px h=true) (aQ:(c.length+b.length)*bytes<=140737488355328) (hm:c.length+b.length<=9223372036854775807):
  dj K ⟨d,.call {callee:= .builtin .append,args:= #[x,y],argTypes:= #[t,t]},ty,pos,af,g⟩ s
   (({s with H:=aE s.H k (some (.av q m (gen+1) (c++b) (fT c.length h)))}:S).put d (.aN k (gen+1) size 0 (c.length+b.length))):=by
 intro β a w next Q C X
 have v:=C.get x;rw[hx] at v;have A:=C.get y;rw[hy] at A;have p:=uJ.of C D G (by rw[F,R];exact A) n dG (by rw[F];exact o);rw[F,R] at p;obtain⟨c8,w',f,h1,h2,h4⟩:=C.TW k q m c b h hk R lT ty hu he (ca L) hs W _ _ v p n o aQ (by unfold maxLen;omega);unfold Oper.wp;have B:(execOp a.eval ⟨d,.call {callee:= .builtin .append,args:= #[x,y],argTypes:= #[t,t]},ty,pos,af,g⟩).run K.P w= .ok (.value c8) w':=by
  simp[execOp,resolve,invoke,builtin,h1]
 rw[B];exact X f _ w' (h2.put d U h4)
theorem LV(x y:Operand)(id i off:Nat)(k:List df)(m:Nat)(o:List (List T))(F:List T)(v:V)(hs:List (Nat×Nat×V))(hx:s.get x= .cd id gen size i off)(bF:s.get y=v)(oL:v.val=true)(kG:kP v.cs=true)
  (hH:s.H id=some (.av k m gen o hs)) (db:(Y k m).size=size) {l:Nat} (eV:bL K.P t u z l bytes) (Bh:v.cs.length=l) (Be:0<l) (G:o[i]? =some F) (ch:off+l<=F.length)
  (j1: ∀n cr X,(n,cr,X)∈hs->off<=cr->cr<off+l->n=i) (hi2: ∀j,j<l-> ∃X,(i,off+j,X)∈hs):
  dj K ⟨none,.store t x y,ty,pos,af,g⟩ s {s with H:=aE s.H id (some (.av k m gen o (mx off v.cs hs)))}:=by
 subst db;intro β a w next Q bH hk
 have sG:=bH.get x;rw[hx] at sG;have fP:=(bH.heap id _ hH).2;rcases fP.2 with ⟨_,h2,_⟩|⟨b,p,B,h1,h2,h3,h4,h5,h6,il,hS⟩
 ·rw[h2] at G;simp at G
 obtain⟨e4,hi,oM⟩:=lh sG h1;cases hi;have aD:=(bt.1 G).1;have hrl:F.length=(Y k m).size:=h4 F (bA G);have vE:i*(Y k m).size+off+l<=p.size:=by
  have:(i+1)*(Y k m).size<=o.length*(Y k m).size:=dq _ aD;rw[dM] at this;omega
 have jo:=bH.get y;rw[bF] at jo;obtain⟨c1,c2⟩:=jo.cells oL;have L:(a.eval y).cells.size=l:=c1.trans Bh;have f: ∀e∈(a.eval y).cells.toList,e.oneCell'=true:=by
  intro e he;obtain⟨j,hj⟩:=hz.1 he;have hj':(a.eval y).cells[j]? =some e:=by simpa using hj
  have hlt:=(gw.1 hj').1;have bl:=bh (O:j<v.cs.length);exact(c2 j _ e bl hj').gX (w4 kG bl)
 unfold Oper.wp;have sA:=m4 eV w b (i*(Y k m).size+off) p _ (a.eval y) h2 L O f;have I:(execOp a.eval ⟨none,.store t x y,ty,pos,af,g⟩).run K.P w= .ok .skip (w.setRow b (p.toList.take (i*(Y k m).size+off)++(a.eval y).cells.toList++p.toList.drop (i*(Y k m).size+off+(a.eval y).cells.toList.length)).toArray):=by
  simp only[execOp,oM,Instr.storeAt,Instr.sureAddr,Sem.run_bind,Sem.run_pure,Result.andThen_ok,sA]
 rw[I];have hlen:(p.toList.take (i*(Y k m).size+off)++(a.eval y).cells.toList++p.toList.drop (i*(Y k m).size+off+(a.eval y).cells.toList.length)).length=p.size:=by
  simp[L];omega
 have M:own K β s.H b:= .inr ⟨id,by rw[hH];simp,.inl ⟨_,h1⟩⟩;generalize N:(p.toList.take (i*(Y k m).size+off)++(a.eval y).cells.toList++p.toList.drop (i*(Y k m).size+off+(a.eval y).cells.toList.length)).toArray=q at*;have r:q.size=p.size:=by rw[<-N];simpa using hlen
 have R:Ext (own K β s.H) w (w.setRow b q):=⟨rfl,rfl,rfl,aV,λkk _ hx=>setRow_other _ _ _ _ λe0=>hx (e0▸M)⟩
 have W:Shaped β w (w.setRow b q):=λe4 _=>wI h2 r e4;refine hk β _ _ (Rel.setRow bH id b (.inl ⟨_,h1⟩) p _ h2 q r (.av k m gen o (mx off v.cs hs)) (by rw[hH];simp) ?_);refine⟨fP.1,.inr ⟨b,q,B,h1,setRow_heap _ _ _ _ _ _ h2,by rw[r];exact h3,h4,λn cr A gx jB ay a2 a3=>?_,h6,il,hS⟩⟩;have hjs:cr<(Y k m).size:=by rw[<-h4 A (bA ay)];exact(bt.1 a2).1
 by_cases U:n=i/\off<=cr/\cr<off+l
 ·obtain⟨rfl,A3,Hr⟩:=U;obtain⟨X,lY⟩:=hi2 (cr-off) O;rw[show off+(cr-off)=cr by omega] at lY;have C:=h5 n cr A gx p[n*(Y k m).size+cr] ay a2 (by rw[f' O]);have Ve: ∃v1,(n,cr,v1)∈mx off v.cs hs:=x6 lY;obtain⟨v1,jl⟩:=Ve;refine⟨λc8 D=>⟨?_,(C.1 X lY).2⟩,λhn=>a7 jl (hn v1)⟩;obtain⟨_,_,q2,_⟩:=xt D;have vD:=bh (O:cr-off<v.cs.length);have e:=q2 A3 _ vD
  have:(a.eval y).cells[cr-off]? =some jB:=by
   rw[<-N] at a3;simp only[List.getElem?_toArray] at a3;rw[hD (by simp[L];omega),gK b1] at a3;have jS:n*(Y k m).size+cr-(p.toList.take (n*(Y k m).size+off)).length=cr-off:=by
    rw[dP,kS];omega
   rw[jS] at a3;simpa using a3
  rw[e];exact(c2 _ _ jB vD this).mono R (λ_ _ h=>h) (cN.refl _) W
 have hne:n*(Y k m).size+cr<i*(Y k m).size+off\/i*(Y k m).size+off+l<=n*(Y k m).size+cr:=by
  rcases Nat.lt_trichotomy n i with h|h|h
  ·have:=dq (Y k m).size (O:n+1<=i);rw[dM] at this;omega
  ·subst h
   have: ¬(off<=cr/\cr<off+l):=λh=>U ⟨rfl,h⟩;omega
  have:=dq (Y k m).size (O:i+1<=n);rw[dM] at this;omega
 have C:p[n*(Y k m).size+cr]? =some jB:=by
  rw[<-N] at a3;simp only[List.getElem?_toArray,List.getElem?_append,List.length_append,List.length_take,List.getElem?_take,List.getElem?_drop,Array.length_toList,L] at a3;rw[show min (i*(Y k m).size+off) p.size=i*(Y k m).size+off by omega] at a3;rcases hne with hlt|j0
  ·rw[bn O,bn O,bn O] at a3;simpa using a3
  rw[br O] at a3;rw[show i*(Y k m).size+off+l+(n*(Y k m).size+cr-(i*(Y k m).size+off+l))=n*(Y k m).size+cr by omega] at a3;simpa using a3
 have lV:=h5 n cr A gx jB ay a2 C;have hc1:=lV.mono (β':=β) R (λ_ _ h=>h) (cN.refl _) W λc bl=>setRow_other _ _ _ _ (h6 _ _ _ bl).2.2;refine⟨λc8 D=>?_,λhn=>hc1.2 λc8 D=>?_⟩
 ·obtain⟨X,jy,_,nl⟩:=xt D;have Vl: ¬(off<=cr/\cr<off+v.cs.length):=λh=>U ⟨j1 _ _ _ jy h.1 O,h.1,O⟩;rw[nl Vl];exact hc1.1 X jy
 obtain⟨v1,jl⟩:=x6 (off:=off) (vs:=v.cs) D;exact hn v1 jl
theorem Lp(x y:Operand)(id i off:Nat)(k:List df)(m:Nat)(o:List (List T))(G:List T)(v:V)(hs:List (Nat×Nat×V))(hx:s.get x= .cd id gen size i off)(bF:s.get y=v)(oL:v.val=true)(kG:kP v.cs=true)
  (hH:s.H id=some (.av k m gen o hs)) (db:(Y k m).size=size) {l:Nat} (eV:bL K.P t u z l bytes) (Bh:v.cs.length=l) (Be:0<l) (L:o[i]? =some G) (ch:off+l<=G.length)
  {R:List (Nat×Nat×V)} (qo: ∀n cr c8,(n,cr,c8)∈R-> ∃F,(n,cr,F)∈hs/\((n=i/\off<=cr/\cr<off+l)->v.cs[cr-off]? =some c8)/\(¬(n=i/\off<=cr/\cr<off+l)->c8=F)) (fy: ∀n cr F,(n,cr,F)∈hs-> ∃v1,(n,cr,v1)∈R) (hi2: ∀j,j<l-> ∃F,(i,off+j,F)∈hs):
  dj K ⟨none,.store t x y,ty,pos,af,g⟩ s {s with H:=aE s.H id (some (.av k m gen o R))}:=by
 subst db;intro β a w next Q bH hk
 have sG:=bH.get x;rw[hx] at sG;have fP:=(bH.heap id _ hH).2;rcases fP.2 with ⟨_,h2,_⟩|⟨b,p,B,h1,h2,h3,h4,h5,h6,il,hS⟩
 ·rw[h2] at L;simp at L
 obtain⟨e4,hi,oM⟩:=lh sG h1;cases hi;have aD:=(bt.1 L).1;have hrl:G.length=(Y k m).size:=h4 G (bA L);have vE:i*(Y k m).size+off+l<=p.size:=by
  have:(i+1)*(Y k m).size<=o.length*(Y k m).size:=dq _ aD;rw[dM] at this;omega
 have jo:=bH.get y;rw[bF] at jo;obtain⟨c1,c2⟩:=jo.cells oL;have W:(a.eval y).cells.size=l:=c1.trans Bh;have I: ∀e∈(a.eval y).cells.toList,e.oneCell'=true:=by
  intro e he;obtain⟨j,hj⟩:=hz.1 he;have hj':(a.eval y).cells[j]? =some e:=by simpa using hj
  have hlt:=(gw.1 hj').1;have bl:=bh (O:j<v.cs.length);exact(c2 j _ e bl hj').gX (w4 kG bl)
 unfold Oper.wp;have sA:=m4 eV w b (i*(Y k m).size+off) p _ (a.eval y) h2 W O I;have M:(execOp a.eval ⟨none,.store t x y,ty,pos,af,g⟩).run K.P w= .ok .skip (w.setRow b (p.toList.take (i*(Y k m).size+off)++(a.eval y).cells.toList++p.toList.drop (i*(Y k m).size+off+(a.eval y).cells.toList.length)).toArray):=by
  simp only[execOp,oM,Instr.storeAt,Instr.sureAddr,Sem.run_bind,Sem.run_pure,Result.andThen_ok,sA]
 rw[M];have hlen:(p.toList.take (i*(Y k m).size+off)++(a.eval y).cells.toList++p.toList.drop (i*(Y k m).size+off+(a.eval y).cells.toList.length)).length=p.size:=by
  simp[W];omega
 have N:own K β s.H b:= .inr ⟨id,by rw[hH];simp,.inl ⟨_,h1⟩⟩;generalize U:(p.toList.take (i*(Y k m).size+off)++(a.eval y).cells.toList++p.toList.drop (i*(Y k m).size+off+(a.eval y).cells.toList.length)).toArray=q at*;have r:q.size=p.size:=by rw[<-U];simpa using hlen
 have X:Ext (own K β s.H) w (w.setRow b q):=⟨rfl,rfl,rfl,aV,λkk _ hx=>setRow_other _ _ _ _ λe0=>hx (e0▸N)⟩
 have f:Shaped β w (w.setRow b q):=λe4 _=>wI h2 r e4;refine hk β _ _ (Rel.setRow bH id b (.inl ⟨_,h1⟩) p _ h2 q r (.av k m gen o R) (by rw[hH];simp) ?_);refine⟨fP.1,.inr ⟨b,q,B,h1,setRow_heap _ _ _ _ _ _ h2,by rw[r];exact h3,h4,λn cr A gx jB ay a2 a3=>?_,h6,il,hS⟩⟩;have hjs:cr<(Y k m).size:=by rw[<-h4 A (bA ay)];exact(bt.1 a2).1
 by_cases mS:n=i/\off<=cr/\cr<off+l
 ·obtain⟨rfl,A3,Hr⟩:=mS;obtain⟨F,lY⟩:=hi2 (cr-off) O;rw[show off+(cr-off)=cr by omega] at lY;have C:=h5 n cr A gx p[n*(Y k m).size+cr] ay a2 (by rw[f' O]);obtain⟨v1,jl⟩:=fy _ _ _ lY;refine⟨λc8 D=>⟨?_,(C.1 F lY).2⟩,λhn=>a7 jl (hn v1)⟩;obtain⟨_,_,q2,_⟩:=qo _ _ _ D;have vD:=q2 ⟨rfl,A3,Hr⟩
  have:(a.eval y).cells[cr-off]? =some jB:=by
   rw[<-U] at a3;simp only[List.getElem?_toArray] at a3;rw[hD (by simp[W];omega),gK b1] at a3;have jS:n*(Y k m).size+cr-(p.toList.take (n*(Y k m).size+off)).length=cr-off:=by
    rw[dP,kS];omega
   rw[jS] at a3;simpa using a3
  exact(c2 _ _ jB vD this).mono X (λ_ _ h=>h) (cN.refl _) f
 have hne:n*(Y k m).size+cr<i*(Y k m).size+off\/i*(Y k m).size+off+l<=n*(Y k m).size+cr:=by
  rcases Nat.lt_trichotomy n i with h|h|h
  ·have:=dq (Y k m).size (O:n+1<=i);rw[dM] at this;omega
  ·subst h
   have: ¬(off<=cr/\cr<off+l):=λh=>mS ⟨rfl,h⟩;omega
  have:=dq (Y k m).size (O:i+1<=n);rw[dM] at this;omega
 have C:p[n*(Y k m).size+cr]? =some jB:=by
  rw[<-U] at a3;simp only[List.getElem?_toArray,List.getElem?_append,List.length_append,List.length_take,List.getElem?_take,List.getElem?_drop,Array.length_toList,W] at a3;rw[show min (i*(Y k m).size+off) p.size=i*(Y k m).size+off by omega] at a3;rcases hne with hlt|j0
  ·rw[bn O,bn O,bn O] at a3;simpa using a3
  rw[br O] at a3;rw[show i*(Y k m).size+off+l+(n*(Y k m).size+cr-(i*(Y k m).size+off+l))=n*(Y k m).size+cr by omega] at a3;simpa using a3
 have lV:=h5 n cr A gx jB ay a2 C;have hc1:=lV.mono (β':=β) X (λ_ _ h=>h) (cN.refl _) f λc bl=>setRow_other _ _ _ _ (h6 _ _ _ bl).2.2;refine⟨λc8 D=>?_,λhn=>hc1.2 λc8 D=>?_⟩
 ·obtain⟨F,jy,_,nl⟩:=qo _ _ _ D;rw[nl mS];exact hc1.1 F jy
 obtain⟨v1,jl⟩:=fy _ _ _ D;exact hn v1 jl
end ops
def E.gen?:E->Option Nat
 | .cells _=>none
 | .arr _ gen _ _=>some gen
 | .av _ _ gen _ _=>some gen
theorem uz{g:Nat}{T:E}(b:T.gen? =some g)(h:b4 W w X i T):1<=g/\ ∃q,W i=some (q,g):=by
 cases T with
 |cells cs=>cases b
 |arr ty gen size a=>cases b;exact⟨h.1,hq h⟩
 |av c m gen a e=>cases b;exact⟨h.1,rk h⟩
section kU
variable {P:Program}{H:Nat->Option E}{d:Option Tmp}{ty:TypeId}{pos:String}{af:Array Edge}{g:Option (Nat×Bool)}
variable {t:TypeId}{u:TypeDesc}{z:Value}{size bytes:Nat}
def mJ(c:Nat)(h i:Option Operand)(e:Operand->Value)(a b:Nat):Prop:=
 (match h with|some x=>e x= .int .i64 (a:Nat)|none=>a=0)/\(match i with|some x=>e x= .int .i64 (b:Nat)|none=>b=c)
theorem uq{P:Program}{len a:Nat}{k e:Option Operand}{c:Operand->Value}(h:mJ len k e c a b)(n:a<=b)(o:b<=i)(w:World):(Instr.sliceBounds true len i (k.map c) (e.map c) none).run P w= .ok (a,b,i) w:=by
 obtain⟨m,l⟩:=h;cases k with
 |none=>
  have m:a=0:=m;subst m;cases e with
  |none=>
   have l:b=len:=l;subst l;simp[Instr.sliceBounds]
  |some y=>
   have l:c y=_:=l;simp[Instr.sliceBounds,l,hg w b i _ o]
 |some x=>
  have m:c x=_:=m;cases e with
  |none=>
   have l:b=len:=l;subst l;simp[Instr.sliceBounds,m,hg w a b _ n]
  |some y=>
   have l:c y=_:=l;simp[Instr.sliceBounds,m,l,hg w b i _ o,hg w a b _ n]
theorem SC(x:Operand)(r v:Option Operand)(e:TypeId)(m gen h c a b:Nat)(L:E)(j:H m=some L)(I:L.gen? =some gen)(Q:P.underlying t=some (.slice e))(R:bL P e u z size bytes)
  (M:a<=b) (h2:b<=c) (h3:a=0\/a<c) {i:List V} (N: ∀y w X (k:Operand->Value),cI y w X i (r.toList.map k++v.toList.map k)->mJ c r v k a b):
  bK P H ⟨d,.slice t x r v none,ty,pos,af,g⟩ (.aN m gen size h c::i) (.aN m gen size (h+a) (b-a)):=by
 intro y w X k T C;obtain⟨A,q,D⟩:=uz I (T m _ j);have C:cI y w X (.aN m gen size h c::i) (k x::(r.toList.map k++v.toList.map k)):=by
  cases r<;>cases v<;>simpa[Op.operands] using C
 have B:mJ c r v k a b:=N y w X k C.2;have U:aS y w X (.aN m gen size h c) (k x):=C.1;rcases ei U D with ⟨l,W,n,F,o,p,Y,hs,cn,ch,hm⟩|⟨p,h0,G,o⟩
 ·subst p;refine⟨.slice (some ⟨W,(h+a)*size,none⟩) (b-a) (l-a),?_,.aN m gen size (h+a) (b-a) (l-a) W n F A D Y hs (by rw[<-cn];congr 1;omega) O O⟩;simp only[execOp,Sem.run_bind,Instr.sliceAt,Instr.slice,run_underlying Q,Result.andThen_ok,o,Option.map_none,Option.map_some,uq B M (O:b<=l),R.run_sizeOf,Sem.run_pure];by_cases f:l=a
  ·rw[bn f]
   grind
  rw[br f];simp[gQ,Nat.add_mul]
 subst p;subst h0;subst G;have e1:b=0:=O
 have e2:a=0:=O
 subst e1;subst e2;refine⟨.slice none 0 0,?_,.fB m gen size A D⟩;simp only[execOp,Sem.run_bind,Instr.sliceAt,Instr.slice,run_underlying Q,Result.andThen_ok,o,Option.map_none,uq B (Nat.le_refl _) (Nat.le_refl 0),R.run_sizeOf,Sem.run_pure];simp
theorem Qs(x:Operand)(p q:Option Operand)(e I:TypeId)(m gen c h a b:Nat)(l:List (List T))(M:H m=some (.arr I gen size l))(N:P.underlying t=some (.slice e))(U:bL P e u z size bytes)
  (Y:0<size) (h1:a<b) (R:c+b<=l.length) {i:List V} (aQ: ∀r w X (k:Operand->Value),cI r w X i (p.toList.map k++q.toList.map k)->mJ h p q k a b):
  bK P H ⟨d,.slice t x p q none,ty,pos,af,g⟩ (.aN m gen size c h::i) (.aN m gen size (c+a) (b-a)):=by
 intro r w X k hh B;have v:=hh m _ M;have C:=v.1;have B:cI r w X (.aN m gen size c h::i) (k x::(p.toList.map k++q.toList.map k)):=by
  cases p<;>cases q<;>simpa[Op.operands] using B
 have D:mJ h p q k a b:=aQ r w X k B.2;have hx:aS r w X (.aN m gen size c h) (k x):=B.1;rcases v.2 with ⟨F,G⟩|⟨W,us,F,g2,g3,g4,g5⟩
 ·subst G;simp at R;omega
 rcases ei hx F with ⟨cap,e4,n,L,Q,o,hw,f,j,ch,hm⟩|⟨o,_⟩
 ·cases o;have y:us.size=n:=by
   unfold World.shape? at f
   grind
  have A:b<=cap:=by
   have h3:(c+b)*size<=(c+cap)*size:=by
    rw[j,<-y];exact dS (dq _ R) g3
   have:=Nat.le_of_mul_le_mul_right h3 Y;omega
  refine⟨.slice (some ⟨W,(c+a)*size,none⟩) (b-a) (cap-a),?_,.aN m gen size (c+a) (b-a) (cap-a) W n L C F hw f (by rw[<-j];congr 1;omega) O O⟩;simp only[execOp,Sem.run_bind,Instr.sliceAt,Instr.slice,run_underlying N,Result.andThen_ok,Q,Option.map_none,Option.map_some,uq D (O:a<=b) A,U.run_sizeOf,Sem.run_pure];rw[br (show¬cap=a by omega)];simp[gQ,Nat.add_mul]
 cases o
theorem Qt(x:Operand)(m o:Option Operand)(e:TypeId)(p gen c l b a:Nat)(D:E)(G:H p=some D)(L:D.gen? =some gen)(Q:P.underlying t=some (.slice e))(R:bL P e u z size bytes)
  (U:a<=b) {h:List V} (W: ∀r w X (i:Operand->Value),cI r w X h (m.toList.map i++o.toList.map i)->mJ b m o i a a):
  bK P H ⟨d,.slice t x m o none,ty,pos,af,g⟩ (.aN p gen c l b::h) (.t (.aa [])):=by
 intro r w X i f v;obtain⟨j,q,I⟩:=uz L (f p _ G);have v:cI r w X (.aN p gen c l b::h) (i x::(m.toList.map i++o.toList.map i)):=by
  cases m<;>cases o<;>simpa[Op.operands] using v
 have A:mJ b m o i a a:=W r w X i v.2;have M:aS r w X (.aN p gen c l b) (i x):=v.1;obtain⟨y,cap,k,F⟩: ∃y cap,i x= .slice y b cap/\b<=cap:=by
  rcases ei M I with ⟨cap,Y,n,N,k,B,hw,hs,cn,T,hm⟩|⟨B,h0,C,k⟩
  ·exact⟨_,cap,k,T⟩
  exact⟨none,0,by rw[C];exact k,O⟩
 refine⟨.slice (if cap=a then y else y.map (·.add (a*size))) (a-a) (cap-a),?_,.t _ _ (by rw[nI];exact .eH _ _)⟩;simp only[execOp,Sem.run_bind,Instr.sliceAt,Instr.slice,run_underlying Q,Result.andThen_ok,k,Option.map_none,uq A (Nat.le_refl _) (O:a<=cap),R.run_sizeOf,Sem.run_pure]
theorem Mf(x:Operand)(e gen a i c:Nat)(h:E)(m:H e=some h)(n:h.gen? =some gen):bK P H ⟨d,.nilCheck x,ty,pos,af,g⟩ [.cd e gen a i c] (.cd e gen a i c):=by intro o w X k p r;obtain⟨v,q,y⟩:=uz n (p e _ m);have l:aS o w X (.cd e gen a i c) (k x):=r.1;obtain⟨b,_,A⟩:=lh l y;exact⟨k x,by simp[execOp,A],l⟩
theorem PG(x B C D:Operand)(e:TypeId)(o gen h l i a b c:Nat)(F:E)(Q:H o=some F)(R:F.gen? =some gen)(W:P.underlying t=some (.slice e))(f:bL P e u z size bytes)
  (j:a<=b) (I:b<=c) (h3:c<=i):bK P H ⟨d,.slice t x (some B) (some C) (some D),ty,pos,af,g⟩ [.aN o gen h l i,.t (.int .i64 (a:Nat)),.t (.int .i64 (b:Nat)),.t (.int .i64 (c:Nat))] .ct:=by
 intro M w X m N p;obtain⟨T,q,U⟩:=uz R (N o _ Q);have V:aS M w X (.aN o gen h l i) (m x):=p.1;have v:m B=_:=cY p.2.1;have Y:m C=_:=cY p.2.2.1;have G:m D=_:=cY p.2.2.2.1;obtain⟨r,cap,k,L⟩: ∃r cap,m x= .slice r i cap/\i<=cap:=by
  rcases ei V U with ⟨cap,e4,n,gr,k,y,hw,hs,cn,v,G⟩|⟨y,h0,A,k⟩
  ·exact⟨_,cap,k,v⟩
  exact⟨none,0,by rw[A];exact k,O⟩
 refine⟨.slice (if c=a then r else r.map (·.add (a*size))) (b-a) (c-a),?_,.ct _⟩;simp[execOp,k,v,Y,G,Instr.sliceAt,Instr.slice,run_underlying W,Instr.sliceBounds,hg w c cap _ O,hg w b c _ I,hg w a b _ j,f.run_sizeOf]
end kU
section steps
variable {K:Ctx}{s:S}{d:Option Tmp}{ty:TypeId}{pos:String}{af:Array Edge}{g:Option (Nat×Bool)}
variable {t:TypeId}{u:TypeDesc}{z:Value}{size bytes gen:Nat}
theorem EM{C:Map}(Q:Rel K C s a w)(q b:Nat)(e:TypeId)(o c:List (List T))(r n:Array Value)(F:s.H q=some (.arr e gen size o))(v:C q=some (some b,gen))(p:w.heap[b]? =some (.cells r e (0,0)))
  (G:n.size=r.size) (R:c.length*size<=r.size) (y: ∀l,l∈c->l.length=size)
  (bl: ∀(i j:Nat) (l:List T) (x:T) (u:Value),c[i]? =some l->l[j]? =some x->n[i*size+j]? =some u->(∃(D:Nat) (m:List T),o[D]? =some m/\m[j]? =some x/\r[D*size+j]? =some u)\/(∀w X,b9 w X x u)):
  Rel K C {s with H:=aE s.H q (some (.arr e gen size c))} a (w.setRow b n):=by
 refine Rel.setRow Q q b (.inl ⟨_,v⟩) r e p n G (.arr e gen size c) (by rw[F];simp) ?_;have L:own K C s.H b:= .inr ⟨q,by rw[F];simp,.inl ⟨_,v⟩⟩;have A:=(Q.heap q _ F).2;refine⟨A.1,.inr ⟨b,n,v,setRow_heap _ _ _ _ _ _ p,O,y,λi j l x u ay a2 a3=>?_⟩⟩;rcases bl i j l x u ay a2 a3 with ⟨D,m,f,I,M⟩|bl
 ·rcases A.2 with ⟨B,_⟩|⟨b2,N,B,W,h3,h4,U⟩
  ·rw[v] at B;cases B
  rw[v] at B;cases B;rw[p] at W;cases W;exact(U D j m x u f I M).mono ⟨rfl,rfl,rfl,aV,λk _ V=>setRow_other _ _ _ _ λY=>V (Y▸L)⟩ λ_ _ h=>h
 exact bl _ _
theorem Rel.tB(h:Rel K β s a w)(b:Nat)(c:E)(k:s.H b=some c):Rel K β {s with H:=aE s.H b (some c)} a w:=by
 have:aE s.H b (some c)=s.H:=by
  funext i;by_cases e:i=b
  ·subst e;rw[bu,k]
  rw[bx _ _ _ _ e]
 rw[this];exact h
end steps
end
section
def cO{k:Type}(f:Nat->k):List (Nat×k)->Nat->k
 | []=>f
 |(d,v)::r=>cO (aE f d v) r
theorem jV{k:Type}: ∀(l:List (Nat×k)) (f:Nat->k) (r:Nat),(∀v,(r,v)∉l)->cO f l r=f r
 | [],_,_,_=>rfl
 |(d,v)::l,f,r,h=>by rw[cO,jV l _ r λa b=>h a (dU _ b),bx _ _ _ _ (by intro e;subst e;exact h v (ep ..))]
theorem uk{k:Type}: ∀(l:List (Nat×k)) (f g:Nat->k) (r:Nat),(∃v,(r,v)∈l)->cO f l r=cO g l r
 | [],_,_,_,⟨v,h⟩=>by simp at h
 |(d,v)::l,f,g,r,h=>by
  simp only[cO];by_cases b: ∃a,(r,a)∈l
  ·exact uk l _ _ r b
  have c:r=d:=by
   obtain⟨a,bF⟩:=h;rcases dz.1 bF with e|bF
   ·cases e;rfl
   exact a7 ⟨a,bF⟩ b
  subst c;rw[jV l _ r λa bF=>b ⟨a,bF⟩,jV l _ r λa bF=>b ⟨a,bF⟩,bu,bu]
structure cg where
 dW:List (Nat×V)
 hs:List (Nat×Option E):=[]
 us:List (Nat×Bool):=[]
def cg.app(e:cg)(s:S):S:={t:=cO s.t e.dW,H:=cO s.H e.hs,u:=cO s.u e.us}
structure fc where
 dW:List Nat
 lj:List Nat:=[]
def fc.same(r:fc)(s a:S):Prop:=(∀i,i∈r.dW->s.t i=a.t i)/\ ∀k,k∈r.lj->s.H k=a.H k/\s.u k=a.u k
def gf(K:Ctx)(ops:Array Oper)(o:Oper)(s e:S):Prop:=
 ∀h a w next Q,Rel K h s a w->(∀b c d,Rel K b e c d->next c d)->
  if Region.wanted o (yielded ops a.tmps) then o.wp K.P a w next Q\/(o.asks K.P a w/\LetsOut Q) else next (a.put o.dst undef) w
variable {K:Ctx}{ops:Array Oper}{o:Oper}{s:S}{j t:Nat}{want:Bool}
theorem gf.of{b:S}(c:o.guard=none)(h:dj K o s b):gf K ops o s b:=by
 intro β a w next Q d e
 rw[bn (by simp[Region.wanted,c])];exact .inl (h β a w next Q d e)
theorem gf.eu{s':S}(c:o.guard=some (j,want))(d:(ops[j]?).bind (·.dst)=some t)(e:s.t t= .t (.bool want))(h:dj K o s s'):gf K ops o s s':=by
 intro β a w next Q b i
 have k:yielded ops a.tmps j=some want:=by unfold yielded;rw[d];simp[b.bool e]
 rw[bn (by simp[Region.wanted,c,k])];exact .inl (h β a w next Q b i)
theorem gf.out(c:o.guard=some (j,want))(d:(ops[j]?).bind (·.dst)=some t)(e:s.t t= .t (.bool (!want)))(h: ∀i,o.dst=some i->Nat.blt i K.nt=true):gf K ops o s (s.put o.dst (.bG [])):=by
 intro k a w next Q b l
 have m:yielded ops a.tmps j=some (!want):=by unfold yielded;rw[d];simp[b.bool e]
 rw[br (by simp[Region.wanted,c,m])];exact l k _ w (b.put o.dst h EC)
theorem gf.skip(c:o.guard=some (j,want))(d:(ops[j]?).bind (·.dst)=some t)(e:s.t t= .bG [])(h: ∀i,o.dst=some i->Nat.blt i K.nt=true):gf K ops o s (s.put o.dst (.bG [])):=by
 intro k a w next Q b l
 have hw:=b.W' (ops:=ops) (want:=want) d e;rw[br (by simp[Region.wanted,c,hw])];exact l k _ w (b.put o.dst h EC)
def m5{k:Type}:List (List (Nat×k))->Nat->(Nat->Bool)->(Nat->k)->Nat->k
 | [],_,_,f=>f
 |l::bD,i,L,f=>m5 bD (i+1) L (bif L i then cO f l else f)
theorem wL{k:Type}: ∀(bD:List (List (Nat×k))) (i:Nat) (L a:Nat->Bool) (f b:Nat->k) (r:Nat),f r=b r->(∀j l,bD[j]? =some l->(∃v,(r,v)∈l)->L (i+j)=a (i+j))->m5 bD i L f r=m5 bD i a b r
 | [],_,_,_,_,_,_,h,_=>h
 |l::bD,i,L,a,f,b,r,h,e=>by
  simp only[m5];refine wL bD (i+1) L a _ _ r ?_ λj m n c=>by have:=e (j+1) m n c;rwa [show i+(j+1)=i+1+j by omega] at this
  by_cases d: ∃v,(r,v)∈l
  ·have:=e 0 l rfl d;rw[nH] at this;rw[<-this];cases L i with
   |true=>exact uk l _ _ r d
   |false=>exact h
  have o: ∀g:Nat->k,cO g l r=g r:=λg=>jV l g r λv c=>d ⟨v,c⟩;cases L i<;>cases a i<;>simp only[cond_true,cond_false,o]<;>exact h
theorem Ea{R:Type}: ∀(bD:List (List (Nat×R))) (i:Nat) (L:Nat->Bool) (f:Nat->R) (r k:Nat) (l:List (Nat×R)),bD[k]? =some l->(∃v,(r,v)∈l)->L (i+k)=true->
  (∀j d,k<j->bD[j]? =some d->(∃v,(r,v)∈d)->L (i+j)=false)-> ∀g:Nat->R,m5 bD i L f r=cO g l r
 |e::bD,i,L,f,r,0,l,b,h,m,a,g=>by
  simp at b;subst b;simp only[m5];rw[nH] at m;rw[m,cond_true,wL bD (i+1) L (λ_=>false) (cO f e) (cO g e) r (uk e _ _ r h) (λj d n c=>by
   have:=a (j+1) d O n c
   rwa [show i+(j+1)=i+1+j by omega] at this)]
  have o: ∀(bD:List (List (Nat×R))) (i:Nat) (f:Nat->R),m5 bD i (λ_=>false) f=f:=by
   intro bD;induction bD with
   |nil=>intro _ _;rfl
   |cons l bD p=>intro i f;simp only[m5,cond_false];exact p _ _
  rw[o]
 |e::bD,i,L,f,r,k+1,l,b,h,m,a,g=>by
  simp at b;simp only[m5];exact Ea bD (i+1) L _ r k l b h (by rwa [show i+1+k=i+(k+1) by omega]) (λj d q n c=>by
   have:=a (j+1) d O n c
   rwa [show i+(j+1)=i+1+j by omega] at this) g
 | [],_,_,_,_,_,_,b,_,_,_,_=>by simp at b
def gm(a:List cg)(i:Nat)(L:Nat->Bool)(s:S):S:={t:=m5 (a.map (·.dW)) i L s.t,H:=m5 (a.map (·.hs)) i L s.H,u:=m5 (a.map (·.us)) i L s.u}
def jW(a:Array Oper):Nat->Nat->Nat->Bool
 |0,_,_=>false
 |f+1,i,j=>match a[j]? with
  |none=>false
  |some o=>o.after.toList.any λe=>Region.binds .any e&&(Nat.beq e.on i||jW a f i e.on)
def nC{k:Type}(l:List (Nat×k))(r:List Nat):Bool:=l.any λp=>r.any λx=>Nat.beq p.1 x
def nc{k R:Type}(l:List (Nat×k))(m:List (Nat×R)):Bool:=l.any λp=>m.any λq=>Nat.beq p.1 q.1
def iQ(e:cg)(r:fc)(a:cg)(b:fc):Bool:=
 nC e.dW b.dW||nC a.dW r.dW||nc e.dW a.dW||nC e.hs b.lj||nC a.hs r.lj||nc e.hs a.hs||nC e.us b.lj||nC a.us r.lj||nc e.us a.us
def kc(b:Array Oper)(n:Nat):Nat->List (cg×fc)->Bool
 |_,[]=>true
 |i,(e,r)::a=>go i e r (i+1) a&&kc b n (i+1) a
where
 go (i:Nat) (e:cg) (r:fc):Nat->List (cg×fc)->Bool
  |_,[]=>true
  |j,(c,d)::a=>(!iQ e r c d||jW b n i j)&&go i e r (j+1) a
def o9:Nat->List Oper->Bool
 |_,[]=>true
 |i,o::a=>o.after.toList.all (λe=> !Region.binds .any e||Nat.blt e.on i)&&o9 (i+1) a
theorem Em{b:Array Oper}{n i:Nat}{e:cg}{r:fc}: ∀(l:List (cg×fc)) (j:Nat),kc.go b n i e r j l=true-> ∀(k:Nat) a c,l[k]? =some (a,c)->iQ e r a c=true->jW b n i (j+k)=true
 | [],_,_,_,_,_,h,_=>by simp at h
 |(o,p)::l,j,h,0,a,c,d,m=>by
  simp at d;obtain⟨rfl,rfl⟩:=d;simp only[kc.go,Bool.and_eq_true,m,Bool.not_true,Bool.false_or] at h;exact h.1
 |(o,p)::l,j,h,k+1,a,c,d,m=>by
  simp at d;simp only[kc.go,Bool.and_eq_true] at h
  have:=Em l (j+1) h.2 k a c d m
  rwa [show j+1+k=j+(k+1) by omega] at this
theorem wN{b:Array Oper}{n:Nat}: ∀(l:List (cg×fc)) (a:Nat),kc b n a l=true-> ∀(i j:Nat) e r c d,l[i]? =some (e,r)->l[j]? =some (c,d)->i<j->iQ e r c d=true->jW b n (a+i) (a+j)=true
 | [],_,_,_,_,_,_,_,_,h,_,_,_=>by simp at h
 |(q,s)::l,a,h,0,j,e,r,c,d,k,m,o,p=>by
  simp at k;obtain⟨rfl,rfl⟩:=k;simp only[kc,Bool.and_eq_true] at h;cases j with
  |zero=>omega
  |succ j=>
   simp at m
   have:=Em l (a+1) h.1 j c d m p
   rwa [show a+1+j=a+(j+1) by omega] at this
 |(q,s)::l,a,h,i+1,j,e,r,c,d,k,m,o,p=>by
  simp only[kc,Bool.and_eq_true] at h;cases j with
  |zero=>omega
  |succ j=>
   simp at k m
   have:=wN l (a+1) h.2 i j e r c d k m O p
   rwa [show a+1+i=a+(i+1) by omega,show a+1+j=a+(j+1) by omega] at this
theorem Oe(e:cg)(r:fc)(c:cg)(d:fc):iQ e r c d=iQ c d e r:=by
 have n: ∀{i k:Type} (l:List (Nat×i)) (m:List (Nat×k)),nc l m=nc m l:=by
  intro i k l m;rw[Bool.eq_iff_iff];simp only[nc,List.any_eq_true];constructor
  ·rintro⟨p,a,q,b,h⟩;exact⟨q,b,p,a,by have:=ca h;simp[this]⟩
  rintro⟨p,a,q,b,h⟩;exact⟨q,b,p,a,by have:=ca h;simp[this]⟩
 unfold iQ
 grind
def Gh(b:Array Oper)(a:Array Bool):Prop:= ∀j o,b[j]? =some o->a.getD j true=true-> ∀e∈o.after,Region.binds .any e=true->a.getD e.on false=true
theorem BT{c:Array Oper}{a:Array Bool}(n:Gh c a): ∀(f i j:Nat),jW c f i j=true->(∀o,c[j]? =some o-> ∀e∈o.after,Region.binds .any e=true->a.getD e.on false=true)->a.getD i false=true
 |0,_,_,h,_=>by simp[jW] at h
 |f+1,i,j,h,p=>by
  unfold jW at h;cases l:c[j]? with
  |none=>rw[l] at h;simp at h
  |some o=>
   rw[l] at h;simp only[List.any_eq_true,Bool.and_eq_true,Bool.or_eq_true] at h;obtain⟨e,q,r,d⟩:=h;have ch:=p o l e (by simpa using q) r;rcases d with d|d
   ·have:=ca d;rw[<-this];exact ch
   refine BT n f i e.on d λs m=>n e.on s m ?_;rw[nE] at ch⊢;cases k:a[e.on]? with
   |none=>rw[k] at ch;simp at ch
   |some b=>rw[k] at ch;simpa using ch
def rC(K:Ctx)(a:Array Oper):List Oper->List (cg×fc)->S->(S->Prop)->Prop
 | [],[],s,Q=>Q s
 |o::os,(e,r)::c,s,Q=>(∀b,r.same b s->gf K a o b (e.app b))/\rC K a os c (e.app s) Q
 |_,_,_,_=>False
end
set_option linter.unusedVariables false
set_option linter.unusedSimpArgs false
section
theorem Dq{k:Type}: ∀(bD:List (List (Nat×k))) (i:Nat) (L:Nat->Bool) (f:Nat->k),m5 bD (i+1) L f=m5 bD i (λj=>L (j+1)) f
 | [],_,_,_=>rfl
 |l::bD,i,L,f=>by simp only[m5];exact Dq bD (i+1) L _
theorem ym(e:cg)(a:List cg)(L:Nat->Bool)(s:S):gm (e::a) 0 L s=gm a 0 (λj=>L (j+1)) (bif L 0 then e.app s else s):=by unfold gm;simp only[List.map_cons,m5,Nat.zero_add,Dq];cases L 0<;>rfl
theorem wX{K:Ctx}{b:Array Oper}: ∀(l:List Oper) (es:List (cg×fc)) (s:S) (Q:S->Prop),rC K b l es s Q->
  l.length=es.length/\Q (gm (es.map (·.1)) 0 (λ_=>true) s)/\
  ∀(i:Nat) o e r,l[i]? =some o->es[i]? =some (e,r)-> ∀c,r.same c (gm (es.map (·.1)) 0 (λj=>Nat.blt j i) s)->gf K b o c (e.app c)
 | [],[],s,Q,h=>⟨rfl,h,λi o e r d=>by simp at d⟩
 |o::os,(e,r)::es,s,Q,h=>by
  obtain⟨p,q⟩:=h;obtain⟨ay,a2,a3⟩:=wX os es _ Q q;refine⟨by simp[ay],?_,?_⟩
  ·simp only[List.map_cons,ym,cond_true];exact a2
  intro i v w x d k c a;cases i with
  |zero=>
   simp at d k;obtain⟨rfl,rfl⟩:=k;subst d;refine p c ?_
   have:gm (List.map (·.1) ((e,r)::es)) 0 (λj=>Nat.blt j 0) s=s:=by
    simp only[List.map_cons,ym];have m: ∀{n:Type} (bD:List (List (Nat×n))) (i:Nat) (f:Nat->n),m5 bD i (λj=>Nat.blt (j+1) 0) f=f:=by
     intro n bD;induction bD with
     |nil=>intro _ _;rfl
     |cons l bD y=>intro i f;simp only[m5];exact y _ _
    show gm (es.map (·.1)) 0 (λj=>Nat.blt (j+1) 0) s=s;unfold gm;simp only[m]
   rw[this] at a;exact a
  |succ i=>
   simp at d k;refine a3 i v w x d k c ?_;simp only[List.map_cons,ym] at a;exact a
 | [],_::_,_,_,h=>h.elim
 |_::_,[],_,_,h=>h.elim
variable {k:Type}{r:fc}{x n i:Nat}{v:k}{a:Array Bool}{e:cg}
theorem yr{l:List (Nat×k)}{r:List Nat}(h:(x,v)∈l)(a:x∈r):nC l r=true:=by unfold nC;rw[q'];exact⟨(x,v),h,by rw[q'];exact⟨x,a,aV⟩⟩
theorem Cd{R:Type}{l:List (Nat×k)}{m:List (Nat×R)}{a:R}(h:(x,v)∈l)(b:(x,a)∈m):nc l m=true:=by unfold nc;rw[q'];exact⟨(x,v),h,by rw[q'];exact⟨(x,a),b,aV⟩⟩
section
variable {K:Ctx}{l:List Oper}{es:List (cg×fc)}{s:S}
theorem yQ{c:Array Oper}(proj:cg->List (Nat×k))(H:kc c n 0 es=true)(L:es[i]? =some (e,r))(f:Nat->k)(x:Nat)
  (o: ∀d h v,(x,v)∈proj d->iQ e r d h=true)
  (q: ∀j,jW c n j i=true->a.getD j false=true) (w: ∀j,j<es.length->jW c n i j=true->a.getD j true=false) (A:a.getD i true=false):
  m5 ((es.map (·.1)).map proj) 0 (λj=>a.getD j true) f x=m5 ((es.map (·.1)).map proj) 0 (λj=>Nat.blt j i) f x:=by
 refine wL _ 0 _ _ f f x rfl ?_;intro j W m ⟨v,Q⟩;rw[dn];simp only[List.map_map,List.getElem?_map] at m;cases y:es[j]? with
 |none=>rw[y] at m;cases m
 |some p=>
  obtain⟨d,h⟩:=p;rw[y] at m;simp at m;subst m;have B:j<es.length:=(bt.1 y).1;rcases Nat.lt_trichotomy j i with z|rfl|C
  ·have aQ:=wN es 0 H j i d h e r y L z (by rw[Oe];exact o d h v Q);rw[dn,dn] at aQ;have D:=q j aQ;have R:Nat.blt j i=true:=by simpa[Nat.blt_eq] using z
   rw[R];rw[nE] at D⊢;cases F:a[j]? with
   |none=>rfl
   |some b=>rw[F] at D;simpa using D
  ·rw[A];symm;cases aQ:Nat.blt j j with
   |false=>rfl
   |true=>simp[Nat.blt_eq] at aQ
  have aQ:=wN es 0 H i j e r d h L y C (o d h v Q);rw[dn,dn] at aQ;rw[w j B aQ];symm;cases G:Nat.blt j i with
  |false=>rfl
  |true=>simp[Nat.blt_eq] at G;omega
theorem yz{b:Array Oper}(proj:cg->List (Nat×k))(L:kc b n 0 es=true)(F:es[i]? =some (e,r))(f:Nat->k)(y:i<a.size)
  (z: ∀x h w v Q,(x,v)∈proj h->(x,Q)∈proj e->iQ e r h w=true) (m: ∀j,j<es.length->jW b n i j=true->a.getD j true=false) (R:a.getD i true=false):
  cO (m5 ((es.map (·.1)).map proj) 0 (λj=>a.getD j true) f) (proj e)=m5 ((es.map (·.1)).map proj) 0 (λj=>(a.setIfInBounds i true).getD j true) f:=by
 funext x;have o: ∀j,j≠i->(a.setIfInBounds i true).getD j true=a.getD j true:=λj A=>by
  simp[Array.getD_eq_getD_getElem?,Array.getElem?_setIfInBounds_ne (Ne.symm A)]
 have B:(a.setIfInBounds i true).getD i true=true:=by
  simp[Array.getD_eq_getD_getElem?,y]
 have C:((es.map (·.1)).map proj)[i]? =some (proj e):=by simp[F]
 by_cases G: ∃v,(x,v)∈proj e
 ·obtain⟨H,q⟩:=G;symm;refine Ea _ 0 _ f x i (proj e) C ⟨H,q⟩ (by rw[dn];exact B) ?_ _;intro j W A d ⟨v,D⟩;rw[dn,o j O];simp only[List.map_map,List.getElem?_map] at d;cases c:es[j]? with
  |none=>rw[c] at d;cases d
  |some p=>
   obtain⟨h,w⟩:=p;rw[c] at d;simp at d;subst d;have aQ:=wN es 0 L i j e r h w F c A (z x h w v H D q);rw[dn,dn] at aQ;exact m j (bt.1 c).1 aQ
 rw[jV _ _ _ λv D=>G ⟨v,D⟩];refine wL _ 0 _ _ f f x rfl ?_
 grind
theorem DD: ∀(l:List Oper) (a:Nat),o9 a l=true-> ∀(i:Nat) o,l[i]? =some o-> ∀e∈o.after,Region.binds .any e=true->e.on<a+i
 | [],_,_,_,_,h=>by simp at h
 |o::l,a,h,0,m,b=>by
  simp at b;subst b;intro e d k;simp only[o9,Bool.and_eq_true,List.all_eq_true,Bool.or_eq_true] at h;rcases h.1 e (by simpa using d) with c|c
  ·rw[k] at c;cases c
  simpa[Nat.blt_eq] using c
 |o::l,a,h,i+1,m,b=>by
  simp at b;simp only[o9,Bool.and_eq_true] at h;intro e d k
  have:=DD l (a+1) h.2 i m b e d k;omega
theorem Qv{Q:S->Prop}{rG:Exit->Act->World->Prop}(hp:kc l.toArray l.length 0 es=true)(he:o9 0 l=true)(cA:rC K l.toArray l es s Q)
  (AU: ∀g a w,Rel K g (gm (es.map (·.1)) 0 (λ_=>true) s) a w->rG .normal a w):
  ∀(c:Nat) (b:Array Bool) (y:List Nat),b.size=l.length->y.Nodup->y.length=c->(∀i,b.getD i true=false↔i∈y)->Gh l.toArray b->
   ∀g a w,Rel K g (gm (es.map (·.1)) 0 (λj=>b.getD j true) s) a w->wpAny K.P .any l.toArray rG c b a w:=by
 obtain⟨hlen,_,Vn⟩:=wX l es s Q cA
 -- if nothing is ready, all is done
 have hall: ∀(b:Array Bool) (y:List Nat),b.size=l.length->(∀i,b.getD i true=false↔i∈y)->y≠[]->Region.ready .any l.toArray b≠[]:=by
  intro b y G E I;have key: ∀n,(∃i,i∈y/\i<=n)-> ∃m,m∈y/\ ∀j,j<m->j∉y:=by
   intro n;induction n with
   |zero=>rintro⟨i,aD,hle⟩;exact⟨0,by rwa [show i=0 by omega] at aD,λj L=>O⟩
   |succ n l5=>
    rintro⟨i,aD,hle⟩;by_cases h: ∃i,i∈y/\i<=n
    ·exact l5 h
    have:i=n+1:=by
     rcases Nat.lt_or_ge i (n+1) with hlt|j0
     ·exact a7 ⟨i,aD,O⟩ h
     omega
    subst this;exact⟨n+1,aD,λj L U4=>h ⟨j,U4,O⟩⟩
  obtain⟨x,hx⟩:=xf y I;obtain⟨m,hm,X5⟩:=key x ⟨x,hx,cL _⟩;have Vf:=(E m).2 hm;have Hv:m<l.length:=by
   grind
  intro R
  have:m∈Region.ready .any l.toArray b:=by
   rw[mem_ready];refine⟨Vf,l[m],by simp[Hv],λe UN W=>?_⟩;have hlt:=DD l 0 he m l[m] (bh Hv) e UN W
   grind
  grind
 have M: ∀(b:Array Bool),(∀i,b.getD i true=true)->gm (es.map (·.1)) 0 (λj=>b.getD j true) s=gm (es.map (·.1)) 0 (λ_=>true) s:=by
  grind
 intro c;induction c with
 |zero=>
  intro b y G N A E bl g a w bH;have R:y=[]:=iW A;subst R;have C: ∀i,b.getD i true=true:=λi=>by
   cases h:b.getD i true with
   |true=>rfl
   |false=>have:=(E i).1 h;simp at this
  refine⟨?_,AU g a w (by rw[<-M b C];exact bH)⟩;cases Vv:Region.ready .any l.toArray b with
  |nil=>rfl
  |cons x xs=>
   have:x∈Region.ready .any l.toArray b:=by rw[Vv];simp
   rw[mem_ready] at this;rw[C x] at this;exact a7 this.1 aV
 |succ c l5=>
  intro b y G N A E bl g a w bH;have I:y≠[]:=by intro e;subst e;simp at A
  refine⟨λh=>a7 h (hall b y G E I),λi aD=>?_⟩;obtain⟨q,o,dG,X⟩:=mem_ready.1 aD;have A2:i<l.length:=by
   rcases Nat.lt_or_ge i l.length with h|h
   ·exact h
   rw[Array.getElem?_eq_none (by simpa using h)] at dG;cases dG
  have A9:l[i]? =some o:=by simpa using dG
  obtain⟨⟨e,r⟩,B⟩: ∃p,es[i]? =some p:=⟨es[i]' O,by simp[show i<es.length by omega]⟩
  have D: ∀j,jW l.toArray l.length j i=true->b.getD j false=true:=λj W=>BT bl _ j i W λwh z=>by rw[dG] at z;cases z;exact X
  have d: ∀j,j<es.length->jW l.toArray l.length i j=true->b.getD j true=false:=λj L W=>by
   cases Va:b.getD j true with
   |false=>rfl
   |true=>
    have F:=BT bl _ i j W λwh z=>bl j wh z Va;have VC:i<b.size:=O
    simp only[Array.getD_eq_getD_getElem?,Array.getElem?_eq_getElem VC,Option.getD_some] at F q;rw[q] at F;cases F
  have T:r.same (gm (es.map (·.1)) 0 (λj=>b.getD j true) s) (gm (es.map (·.1)) 0 (λj=>Nat.blt j i) s):=by
   refine⟨λx hx=>?_,λk hk=>⟨?_,?_⟩⟩
   ·exact yQ (·.dW) hp B s.t x (λf tx v bF=>by simp[iQ,yr bF hx]) D d q
   ·exact yQ (·.hs) hp B s.H k (λf tx v bF=>by simp[iQ,yr bF hk]) D d q
   exact yQ (·.us) hp B s.u k (λf tx v bF=>by simp[iQ,yr bF hk]) D d q
  have U:e.app (gm (es.map (·.1)) 0 (λj=>b.getD j true) s)=gm (es.map (·.1)) 0 (λj=>(b.setIfInBounds i true).getD j true) s:=by
   unfold cg.app gm;simp only[S.mk.injEq];refine⟨?_,?_,?_⟩
   ·exact yz (·.dW) hp B s.t O (λx f tx v c8 F h2=>by simp[iQ,Cd h2 F]) d q
   ·exact yz (·.hs) hp B s.H O (λx f tx v c8 F h2=>by simp[iQ,Cd h2 F]) d q
   exact yz (·.us) hp B s.u O (λx f tx v c8 F h2=>by simp[iQ,Cd h2 F]) d q
  have Vm:=Vn i o e r A9 B _ T;have UR: ∀V pH w',Rel K V (e.app (gm (es.map (·.1)) 0 (λj=>b.getD j true) s)) pH w'->wpAny K.P .any l.toArray rG c (b.setIfInBounds i true) pH w':=by
   intro V pH w' HL;rw[U] at HL;have UW:=(E i).1 q;refine l5 (b.setIfInBounds i true) (y.erase i) (by simpa using G) (N.erase i) (by rw[List.length_erase_of_mem UW];omega) (λj=>?_) ?_ V pH w' HL
   ·rw[N.mem_erase_iff];by_cases L:j=i
    ·subst L;simp[Array.getD_eq_getD_getElem?,show j<b.size by omega]
    simp only[Array.getD_eq_getD_getElem?,Array.getElem?_setIfInBounds_ne (Ne.symm L)]
    have:=E j;rw[nE] at this;rw[this];simp[L]
   intro j wh z L f Ho W;by_cases Hs:j=i
   ·subst Hs;rw[dG] at z;cases z;exact getD_set_true (X f Ho W)
   have F:b.getD j true=true:=by
    simpa only[Array.getD_eq_getD_getElem?,Array.getElem?_setIfInBounds_ne (Ne.symm Hs)] using L
   exact getD_set_true (bl j wh z F f Ho W)
  have Y:=Vm g a w (wpAny K.P .any l.toArray rG c (b.setIfInBounds i true)) rG bH UR;unfold wpOp;rw[dG];exact Y
theorem EH{Q:Exit->S->Prop}(c:List (cg×fc))(z:K.P.follows .mixedOrders=true)(A:kc l.toArray l.length 0 c=true)(B:o9 0 l=true)
  (d:rC K l.toArray l c s λC=>Q .normal C):b5 K (.region n l.toArray true) s Q:=by
 intro e a w R k D;obtain⟨_,F,_⟩:=wX l c s _ d;refine wp_region_any z ?_;have m:Rel K e s a {w with drawn:=w.drawn+1}:=y3 k;have G:gm (c.map (·.1)) 0 (λj=>(Array.replicate l.toArray.size false).getD j true) s=s:=by
  have v:=(wX l c s _ d).1;have b: ∀{p:Type} (bD:List (List (Nat×p))) (L:Nat->Bool) (i:Nat) (f:Nat->p),(∀j,j<bD.length->L (i+j)=false)->m5 bD i L f=f:=by
   intro p bD L;induction bD with
   |nil=>intro _ _ _;rfl
   |cons x bD H=>
    intro i f h;simp only[m5];have y:=h 0 aV;rw[nH] at y;rw[y,cond_false];exact H (i+1) f λj q=>by have:=h (j+1) b1;rwa [show i+(j+1)=i+1+j by omega] at this
  have r: ∀j,j<c.length->(Array.replicate l.toArray.size false).getD (0+j) true=false:=λj q=>by
   rw[dn,nE,Array.getElem?_replicate,bn b1];rfl
  unfold gm;rw[b _ _ _ _ (by simpa using r),b _ _ _ _ (by simpa using r),b _ _ _ _ (by simpa using r)]
 refine Qv A B d (λe a w k=>D _ _ _ _ _ F k) l.toArray.size (Array.replicate l.toArray.size false) (List.range l.length) aV List.nodup_range aV (λi=>?_) ?_ e a _ (by rw[G];exact m)
 ·rw[nE,Array.getElem?_replicate,rb]
  grind
 intro j o W q;rw[nE,Array.getElem?_replicate] at q
 grind
end
end
abbrev ab(n:Int):V:= .t (.int .i64 n)
abbrev aZ(b:Bool):V:= .t (.bool b)
abbrev cw(s:List UInt8):V:= .t (.str s)
abbrev JE(a:List (List T)):V:= .t (.aa a)
abbrev hU(n:Int):List T:=[.int .i64 n]
abbrev l9(b:UInt8):List T:=[.int .u8 (b.toNat:Nat)]
def hP(P:Program)(f:FuncId):Prop:= ∃a,P.funcs[f]? =some a/\(a.name== "runtime.NumGoroutine")=false/\a.body.isNone=false
section
variable {K:Ctx}{s:S}{Q:Exit->S->Prop}
variable {l:List Oper}
theorem C4{b:Array Oper}{Q:S->Prop}{c:S}(k:s.le K c)(h:mF K b l c Q):mF K b l s Q:=
  λm a w n o p=>let ⟨e,i⟩:=k m a w o;h e a w n i p
theorem Kd{i:Nat}(k:S)(h:mF K l.toArray l s λm=>m.le K k)(n:Q .normal k):b5 K (.region i l.toArray false) s Q:=by intro o a w p q r;refine wp_region_lit (h o a w p q λm b v x y c=>?_);obtain⟨A,e⟩:=y b v x c;exact r _ _ _ _ _ n e
theorem bK.eq{P:Program}{H:Nat->Option E}{o:Oper}{a:List V}{v c8:V}(h:bK P H o a v)(e:v=c8):bK P H o a c8:=e▸h
section
variable {K:Ctx}{s:S}{d:Option Tmp}{ty:TypeId}{pos:String}{af:Array Edge}{g:Option (Nat×Bool)}
variable {t:TypeId}{u:TypeDesc}{z:Value}{gen size bytes:Nat}
end
end
theorem Rf(b:Bool){P:Prop}(a:b=false->P)(c:b=true->P):P:=by
 cases b with
 |false=>exact a rfl
 |true=>exact c rfl
theorem ez.of_eq{b a:List V}(h:b=a):ez b a:=h▸ez.refl b
section
variable {K:Ctx}{s:S}{ops:Array Oper}{rest:List Oper}{Q:S->Prop}{d:Nat}{ty:TypeId}{pos:String}{af:Array Edge}{j:Nat}{want:Bool}{t:Nat}
end
section
mutual
def V.c7(L:List Nat):V->V
  | .ref id a=> .ref (L.getD id 0) a
  | .aN id gen b a len=> .aN (L.getD id 0) gen b a len
  | .cd id gen b i a=> .cd (L.getD id 0) gen b i a
  | .agg cs=> .agg (gE L cs)
  | .bG cs=> .bG (gE L cs)
  | .fn f cs=> .fn f (gE L cs)
  | .t x=> .t x
  | .aP x=> .aP x
  | .ct=> .ct
def gE(L:List Nat):List V->List V
  | []=>[]
  |c::cs=>c.c7 L::gE L cs
end
def E.c7(L:List Nat):E->E
  | .cells cs=> .cells (gE L cs)
  | .arr ty gen b a=> .arr ty gen b a
  | .av c m gen a d=> .av c m gen a (d.map λh=>(h.1,h.2.1,h.2.2.c7 L))
def E.flat:E->Bool
  | .cells _=>true
  |_=>false
theorem lR{L:List Nat}: ∀cs:List V,(gE L cs).length=cs.length
  | []=>rfl
  |c::cs=>by simp[gE,lR cs]
theorem yN{L:List Nat}: ∀(cs:List V) (i:Nat),(gE L cs)[i]? =(cs[i]?).map (V.c7 L)
  | [],_=>by simp[gE]
  |c::cs,0=>by simp[gE]
  |c::cs,i+1=>by simp[gE,yN cs i]
variable {L:List Nat}{w:World}{X:Nat->Prop}
theorem xp{a:List V}{i:Nat}{c:V}(h:(gE L a)[i]? =some c): ∃b,a[i]? =some b/\c=b.c7 L:=by
  rw[yN] at h
  grind
theorem aS.c7{β β':Map}{v:V}{u:Value}(h:aS β w X v u)(e: ∀k x,β k=some x->β' (L.getD k 0)=some x):aS β' w X (v.c7 L) u:=by
  induction h with
  |t x v h=>exact .t x v h
  |agg cs r o _ s=>exact .agg _ r (by rw[lR];exact o) (λi c u p y=>by obtain⟨z,A,rfl⟩:=xp p;exact s i z u A y)
  |bG cs r o _ s=>exact .bG _ r (by rw[lR];exact o) (λi c u p y=>by obtain⟨z,A,rfl⟩:=xp p;exact s i z u A y)
  |ref id d b l=>exact .ref _ d b (e _ _ l)
  |aP cells b d f l D p F=>exact .aP cells b d f l D p F
  |aN id gen a d len B b n ty m l G H K o Q=>exact .aN _ gen a d len B b n ty m (e _ _ l) G H K o Q
  |fB id gen a m l=>exact .fB _ gen a m (e _ _ l)
  |hW id gen a d len v q g C l m=>exact .hW _ gen a d len v q g C (e _ _ l) m
  |cd id gen a i d b m l=>exact .cd _ gen a i d b m (e _ _ l)
  |iG id gen a i d v q g C l m=>exact .iG _ gen a i d v q g C (e _ _ l) m
  |fn f cs r o _ s=>exact .fn f _ r (by rw[lR];exact o) (λi c u p y=>by obtain⟨z,A,rfl⟩:=xp p;exact s i z u A y)
  |ct v=>exact .ct v
def gU(L:List Nat)(a:Map):Map:=⟨λk=>(L[k]?).bind a,λk b=> ∃id,L[k]? =some id/\a.n id b⟩
def eg:Nat->(Nat->Bool)
  |0=>e6
  |n+1=>aE (eg n) n true
theorem gP: ∀{n k:Nat},eg n k=true↔k<n
  |0,k=>by simp[eg,e6]
  |n+1,k=>by
    by_cases h:k=n
    · subst h;simp[eg,bu]
    · rw[eg,bx _ _ _ _ h,gP];omega
mutual
theorem aS.mh{β:Map}{w:World}{X:Nat->Prop}{L:List Nat}: ∀(v:V) (u:Value),aS β w X (v.c7 L) u->v.ok (eg L.length)=true->aS (gU L β) w X v u
  | .t x,u,h,_=>by
    simp only[V.c7] at h;cases h with|t _ _ h=>exact .t _ _ h
  | .aP x,u,h,_=>by
    simp only[V.c7] at h;cases h with|aP _ b l f a D r s=>exact .aP _ b l f a D r s
  | .ct,u,_,_=> .ct u
  | .ref id l,u,h,d=>by
    have e:id<L.length:=gP.1 (by simpa[V.ok] using d);have o:gU L β id=β (L.getD id 0):=by simp[gU,List.getElem?_eq_getElem e]
    simp only[V.c7] at h;cases h with|ref _ _ b a=>exact .ref _ _ b (by rw[o];exact a)
  | .aN id gen y l len,u,h,d=>by
    have e:id<L.length:=gP.1 (by simpa[V.ok] using d);have o:gU L β id=β (L.getD id 0):=by simp[gU,List.getElem?_eq_getElem e]
    simp only[V.c7] at h;cases h with
    |aN _ _ _ _ _ A b n ty m a F k G d B=>exact .aN _ _ _ _ _ A b n ty m (by rw[o];exact a) F k G d B
    |fB _ _ _ m a=>exact .fB _ _ _ m (by rw[o];exact a)
    |hW _ _ _ _ _ _ q g C a m=>exact .hW _ _ _ _ _ _ q g C (by rw[o];exact a) m
  | .cd id gen y i l,u,h,d=>by
    have e:id<L.length:=gP.1 (by simpa[V.ok] using d);have o:gU L β id=β (L.getD id 0):=by simp[gU,List.getElem?_eq_getElem e]
    simp only[V.c7] at h;cases h with
    |cd _ _ _ _ _ b m a=>exact .cd _ _ _ _ _ b m (by rw[o];exact a)
    |iG _ _ _ _ _ _ q g C a m=>exact .iG _ _ _ _ _ _ q g C (by rw[o];exact a) m
  | .agg cs,u,h,d=>by
    simp only[V.c7] at h;cases h with
    |agg _ p k s=>exact .agg _ p (by rw[lR] at k;exact k) (λi c u r z=>xD cs (λi=>p[i]?) (by simpa[V.ok] using d) s i c u r z)
  | .bG cs,u,h,d=>by
    simp only[V.c7] at h;cases h with
    |bG _ p k s=>exact .bG _ p (by rw[lR] at k;exact k) (λi c u r z=>xD cs (λi=>p[i]?) (by simpa[V.ok] using d) s i c u r z)
  | .fn f cs,u,h,d=>by
    simp only[V.c7] at h;cases h with
    |fn _ _ p k s=>exact .fn _ _ p (by rw[lR] at k;exact k) λi c u r z=>xD cs (λi=>p[i]?) (by simpa[V.ok] using d) s i c u r z
theorem xD{W:Map}{w:World}{X:Nat->Prop}{L:List Nat}: ∀(cs:List V) (a:Nat->Option Value),e7 (eg L.length) cs=true->
    (∀i c u,(gE L cs)[i]? =some c->a i=some u->aS W w X c u)-> ∀(i:Nat) c u,cs[i]? =some c->a i=some u->aS (gU L W) w X c u
  | [],_,_,_,_,_,_,h,_=>by simp at h
  |c::cs,a,b,h,0,_,u,d,e=>by
    simp at d;subst d;simp[e7] at b;exact aS.mh c u (h 0 _ u (by simp[gE]) e) b.1
  |c::cs,a,b,h,i+1,k,u,d,e=>by simp at d;simp[e7] at b;exact xD cs (λi=>a (i+1)) b.2 (λi c u l m=>h (i+1) c u (by simpa[gE] using l) m) i k u d e
end
theorem cI.mh{β:Map}{w:World}{X:Nat->Prop}{L:List Nat}: ∀{a:List V} {b:List Value},cI β w X (gE L a) b->e7 (eg L.length) a=true->cI (gU L β) w X a b
  | [],[],_,_=>trivial
  |v::a,u::b,h,c=>by
    simp[e7] at c;exact⟨aS.mh v u h.1 c.1,cI.mh h.2 c.2⟩
  | [],_::_,h,_=>h.elim
  |_::_,[],h,_=>h.elim
def dy:List E->Nat->(Nat->Option E)
  | [],_=>j9
  |e::a,k=>aE (dy a (k+1)) k (some e)
theorem El: ∀(a:List E) (k i:Nat),dy a k (k+i)=a[i]?
  | [],_,_=>by simp[dy,j9]
  |e::a,k,0=>by rw[nH,dy,bu];simp
  |e::a,k,i+1=>by rw[dy,bx _ _ _ _ O,show k+(i+1)=(k+1)+i by omega,El a (k+1) i];simp
theorem qF(a:List E)(i:Nat):dy a 0 i=a[i]? :=by have:=El a 0 i;rwa [dn] at this
def fS(X:Nat->Prop)(a:Map)(H:Nat->Option E)(b:Nat):Prop:=X b\/ ∃id,H id≠none/\At a id b
structure mw (G:ef) (eu:List E) (β:Map) (w:World) (X:Nat->Prop):Prop where
  cW: ∀k,eu.length<=k->β k=none
  du: ∀k b,eu.length<=k-> ¬β.n k b
  inj: ∀id hT b,At β id b->At β hT b->id=hT
  place: ∀k b,At β k b->b<w.heap.size/\ ¬X b/\G.td<=b
  heap: ∀k e,eu[k]? =some e->b4 β w (fS X β (dy eu 0)) k e
structure Left (gd β:Map) (eu out:List E) (w w':World) (X:Nat->Prop) (r:V) (u:Value):Prop where
  ext:Ext (λb=> ∃k,At gd k b) w w'
  base:ia eu.length gd β w.heap.size
  gI:Shaped gd w w'
  cW: ∀k,out.length<=k->β k=none
  du: ∀k b,out.length<=k-> ¬β.n k b
  inj: ∀id hT b,At β id b->At β hT b->id=hT
  fresh: ∀k b,At β k b->((∃bz,bz<eu.length/\At gd bz b)\/w.heap.size<=b)/\b<w'.heap.size
  heap: ∀k e,out[k]? =some e->b4 β w' (fS X β (dy out 0)) k e
  res:aS β w' (fS X β (dy out 0)) r u
def Dz(P:Program)(G:ef)(f:FuncId)(c:List E)(args:List V){ι:Type}(k:ι->Prop)(r:ι->V)(d:ι->List E):Prop:=
  ∀(w:World) (X:Nat->Prop) (a:Map) (h:List Value),G.ok w->(∀b,X b->b<w.heap.size)->mw G c a w X->cI a w (fS X a (dy c 0)) args h->
    Calls P f h.toArray w λe l=> ∃u i m,e= .returned u/\k i/\Left a m c (d i) w l X (r i) u
def Ctx.ec(P:Program)(G:ef)(w:World)(X:Nat->Prop)(cE:Nat)(gd:Map)(nt:Nat):Ctx:={P,G,w0:=w,X,cE,gd,nt}
def kQ(a:List E)(args:List V):S:={t:=rl args 0,H:=dy a 0,u:=eg a.length}
theorem Rel.kQ{P:Program}{G:ef}{nt:Nat}{a:List E}{W:Map}{args:List V}{c:List Value}(q:G.ok w)(r: ∀b,X b->b<w.heap.size)(d:mw G a W w X)
    (h:cI W w (fS X W (dy a 0)) args c) (v:c.length<=nt):
    Rel (Ctx.ec P G w X a.length W nt) W (Lift.kQ a args) {tmps:=c.toArray++Array.replicate (nt-c.toArray.size) undef,defers:=[]} w:=by
  have k: ∀id b,At W id b->id<a.length:=by
    rintro id b (⟨g,h⟩|h)
    · apply lz;intro l;rw[d.cW id l] at h;cases h
    · exact lz λl=>d.du id b l h
  refine {ext:=Ext.refl _ _,k7:=q,lp:= ?_,gy:= ?_,base:=ia.refl _ _ _,gI:=Shaped.refl _ _,low:=λid h=>gP.2 h,cW:= ?_,du:= ?_,
           mX:=d.inj,inj:=d.inj,fresh:=λid b h=>⟨.inl ⟨id,k id b h,h⟩,(d.place id b h).1⟩,heap:= ?_,cu:= ?_,nt:= ?_,defers:=rfl}
  · rintro b ⟨id,_,h⟩;exact(d.place id b h).2.2
  · intro b p;exact⟨r b p,λ⟨id,_,h⟩=>(d.place id b h).2.1 p⟩
  · intro id hid;apply d.cW;apply Nat.le_of_not_lt;intro k;have m:=gP.2 k;have n:eg a.length id=false:=hid
    grind
  · intro id b hid h;have m:=gP.2 (k id b (.inr h));have n:eg a.length id=false:=hid
    grind
  · intro id e s;have o:a[id]? =some e:=by rw[<-qF];exact s
    refine⟨gP.2 ?_,d.heap id e o⟩
    grind
  · intro i;have m:=B8 args c 0 h i;rw[dn] at m;have n:(c.toArray++Array.replicate (nt-c.toArray.size) undef).getD i undef=c.getD i undef:=by
      simp only[Array.getD_eq_getD_getElem?,List.getD_eq_getElem?_getD,Array.getElem?_append]
      grind
    simp only[n];exact m
  · simp[Ctx.ec];omega
end
section
def iK{R:Type}(f:Nat->R):List Nat->(Nat->R)->(Nat->R)
 | [],_=>f
 |l::L,g=>aE (iK f L λk=>g (k+1)) l (g 0)
theorem d6{k:Type}{f:Nat->k}: ∀{L:List Nat} {g:Nat->k} {id:Nat},id∉L->iK f L g id=f id
 | [],_,_,_=>rfl
 |l::L,g,id,h=>by simp at h;rw[iK,bx _ _ _ _ h.1];exact d6 h.2
theorem k5{R:Type}{f:Nat->R}: ∀{L:List Nat} {g:Nat->R} {k id:Nat},L.Nodup->L[k]? =some id->iK f L g id=g k
 | [],_,_,_,_,h=>by simp at h
 |l::L,g,0,id,_,h=>by simp at h;subst h;rw[iK,bu]
 |l::L,g,k+1,id,a,h=>by simp at h a;have b:id≠l:=λe=>a.1 (e▸bA h);rw[iK,bx _ _ _ _ b];exact k5 (g:=λk=>g (k+1)) a.2 h
theorem yp: ∀{L:List Nat} {i j id:Nat},L.Nodup->L[i]? =some id->L[j]? =some id->i=j
 | [],_,_,_,_,h,_=>by simp at h
 |l::L,0,0,_,_,_,_=>rfl
 |l::L,0,j+1,id,a,h,b=>by simp at h b a;subst h;exact a7 (bA b) a.1
 |l::L,i+1,0,id,a,h,b=>by simp at h b a;subst b;exact a7 (bA h) a.1
 |l::L,i+1,j+1,id,a,h,b=>by simp at h b a;rw[yp a.2 h b]
def S.after(s:S)(L:List Nat)(a:List E):S:=
 {t:=s.t,H:=iK s.H L λk=>(a[k]?).map (E.c7 L),u:=iK s.u L (λ_=>true)}
def yE(K:Ctx)(o:Oper)(s:S){k:Type}(e:k->Prop)(h:k->S):Prop:=
 ∀l a w next Q,Rel K l s a w->(∀i,e i-> ∀b c d,Rel K b (h i) c d->next c d)->o.wp K.P a w next Q
variable {β:Map}{w:World}{X:Nat->Prop}{L:List Nat}{k:Nat}{e:E}{f:FuncId}
theorem b4.mh{id:Nat}(h:b4 β w X id (e.c7 L))(C:L[k]? =some id)(F:e.ok (eg L.length)=true):b4 (gU L β) w X k e:=by
 have l:gU L β k=β id:=by simp[gU,C]
 cases e with
 |cells cs=>
  obtain⟨b,o,ty,a,d,s,D⟩:=h;rw[lR] at s;refine⟨b,o,ty,by rw[l];exact a,d,s,λi c u y Q=>?_⟩;exact aS.mh c u (D i _ u (by rw[yN,y];rfl) Q) (qQ F y)
 |arr ty gen G p=>
  refine⟨h.1,?_⟩;rcases h.2 with ⟨a,d⟩|⟨b,o,a,d⟩
  ·exact .inl ⟨by rw[l];exact a,d⟩
  exact .inr ⟨b,o,by rw[l];exact a,d⟩
 |av N m gen p P=>
  refine⟨h.1,?_⟩;have H: ∀c,(gU L β).n k c↔β.n id c:=λc=>⟨λ⟨R,a,d⟩=>by rw[C] at a;cases a;exact d,λh=>⟨id,C,h⟩⟩
  rcases h.2 with ⟨a,d,W⟩|⟨b,o,B,a,d,s,D,K,f,g,t⟩
  ·exact .inl ⟨by rw[l];exact a,d,λc y=>W c ((H c).1 y)⟩
  refine .inr ⟨b,o,B,by rw[l];exact a,d,s,D,λi j q x u ay a2 a3=>⟨λv z=>?_,λI=>?_⟩,f,g,λc=>(H c).trans (t c)⟩
  ·have A:=(K i j q x u ay a2 a3).1 (v.c7 L) (fY.2 ⟨_,z,rfl⟩);exact⟨aS.mh v u A.1 (yR F z),A.2⟩
  refine(K i j q x u ay a2 a3).2 λv z=>?_;obtain⟨⟨S,T,M⟩,A,r⟩:=fY.1 z;simp only[Prod.mk.injEq] at r;obtain⟨rfl,rfl,rfl⟩:=r;exact I M A
theorem b4.c7{β':Map}{X':Nat->Prop}{C:Nat}(h:b4 β w X k e)(W:L[k]? =some C)(o: ∀k x,β k=some x->β' (L.getD k 0)=some x)(F: ∀b,X' b->X b)(Q: ∀b,β'.n C b↔β.n k b):b4 β' w X' C (e.c7 L):=by
 have q: ∀x,β k=some x->β' C=some x:=λx G=>by have:=o k x G;rwa [fs,W] at this
 cases e with
 |cells cs=>
  obtain⟨b,r,ty,a,d,s,y⟩:=h;refine⟨b,r,ty,q _ a,d,by rw[lR];exact s,λi c u H f=>?_⟩;obtain⟨g,p,rfl⟩:=xp H;exact((y i g u p f).c7 o).mono (Ext.refl _ _) (λb _=>F b) (cN.refl _) (Shaped.refl _ _)
 |arr ty gen R z=>
  refine⟨h.1,?_⟩;rcases h.2 with ⟨a,d⟩|⟨b,r,a,d,s,y,p⟩
  ·exact .inl ⟨q _ a,d⟩
  exact .inr ⟨b,r,q _ a,d,s,y,λi j l x u ay a2 a3=>(p i j l x u ay a2 a3).mono (Ext.refl _ _) λb _=>F b⟩
 |av T m gen z U=>
  refine⟨h.1,?_⟩;rcases h.2 with ⟨a,d,t⟩|⟨b,r,B,a,d,s,y,p,I,M,N⟩
  ·exact .inl ⟨q _ a,d,λc H=>t c ((Q c).1 H)⟩
  refine .inr ⟨b,r,B,q _ a,d,s,y,λi j l x u ay a2 a3=>⟨λv K=>?_,λG=>?_⟩,I,M,λc=>(Q c).trans (N c)⟩
  ·obtain⟨⟨V,Y,P⟩,S,A⟩:=fY.1 K;simp only[Prod.mk.injEq] at A;obtain⟨rfl,rfl,rfl⟩:=A;have D:=(p _ _ l x u ay a2 a3).1 P S;exact⟨(D.1.c7 o).mono (Ext.refl _ _) (λb _=>F b) (cN.refl _) (Shaped.refl _ _),D.2⟩
  exact((p i j l x u ay a2 a3).2 λv K=>G (v.c7 L) (fY.2 ⟨_,K,rfl⟩)).mono (Ext.refl _ _) (λb _=>F b) λ_ _=>rfl
theorem cI.app{β:Map}{w:World}{X:Nat->Prop}: ∀{c a:List V} {d b:List Value},cI β w X c d->cI β w X a b->cI β w X (c++a) (d++b)
 | [],_,[],_,_,h=>h
 |_::_,_,_::_,_,h,k=>⟨h.1,cI.app h.2 k⟩
 | [],_,_::_,_,h,_=>h.elim
 |_::_,_,[],_,h,_=>h.elim
theorem CL{W:Map}{w:World}{X:Nat->Prop}: ∀{b:List V} {d:List Value},d.length=b.length->(∀(i:Nat) c u,b[i]? =some c->d[i]? =some u->aS W w X c u)->cI W w X b d
 | [],[],_,_=>trivial
 |v::b,u::d,a,h=>⟨h 0 v u rfl rfl,CL (by simpa using a) λi c u e k=>h (i+1) c u (by simpa using e) (by simpa using k)⟩
 | [],_::_,a,_=>by simp at a
 |_::_,[],a,_=>by simp at a
theorem aS.AK{a:List V}{u:Value}(h:aS β w X (.fn f a) u): ∃b:Array Value,u= .func (.func f) #[] b/\cI β w X a b.toList:=by
 cases h with
 |fn _ _ b d h=>exact⟨b,rfl,CL (by simpa using d) λi c u e k=>h i c u e (by simpa using k)⟩
theorem PF{K:Ctx}{s:S}{o:Oper}{xs:Array Operand}{Jn:Array TypeId}{eu:List E}{args:List V}{ι:Type}{jG:ι->Prop}{r:ι->V}{D:ι->List E}(AL:Operand)(L news:List Nat)
  (GS:List V) (dG:o.op= .call {callee:= .value AL,args:=xs,argTypes:=Jn}) (US:s.get AL= .fn f GS)
  (gj:hP K.P f) (cA: ∀i,o.dst=some i->Nat.blt i K.nt=true) (bF:ez (xs.toList.map s.get++GS) (gE L args)) (ch:e7 (eg L.length) args=true)
  (sq:eu.length=L.length) (hH: ∀(k:Nat) (e:E),eu[k]? =some e-> ∃id,L[k]? =some id/\s.H id=some (e.c7 L)/\e.ok (eg L.length)=true)
  (U:(L++news).Nodup) (qs: ∀id,id∈news->s.u id=false) (Bc: ∀i,(D i).length=(L++news).length)
  (h:Dz K.P K.G f eu args jG r D):yE K o s jG (λi=>(s.after (L++news) (D i)).put o.dst ((r i).c7 (L++news))):=by
 obtain⟨fn,UO,UP,UQ⟩:=gj;intro R a w next Q p l
 have lZ:fn.name≠ "runtime.NumGoroutine" :=by simpa using UP
 have lU:fn.body≠none:=by intro e;simp[e] at UQ
 obtain⟨us,UI,Bj⟩:=(US▸p.get AL).AK;have sA:(execOp a.eval o).run K.P w= .ok (.enter f (xs.map a.eval++us)) w:=by
  simp[execOp,dG,resolve,Deferred.ofValue,UI,invoke,callFunc,UO,lZ,lU]
 unfold Oper.wp;rw[sA,Oper.upon_enter];let y:Map:=gU L R;let X':Nat->Prop:=λb=>own K R s.H b/\ ¬ ∃k,At y k b;have hi: ∀k g b,y k=some (some b,g)-> ∃id,L[k]? =some id/\R id=some (some b,g):=by
  intro k g b h;cases l:L[k]? with
  |none=>simp[y,gU,l] at h
  |some id=>simp[y,gU,l] at h;exact⟨id,rfl,h⟩
 have W: ∀k b,At y k b-> ∃id,L[k]? =some id/\At R id b:=by
  rintro k b (⟨g,h⟩|⟨id,m,v⟩)
  ·obtain⟨id,m,v⟩:=hi k g b h;exact⟨id,m,.inl ⟨g,v⟩⟩
  exact⟨id,m,.inr v⟩
 have UA: ∀(k id:Nat),L[k]? =some id->s.H id≠none:=by
  intro k id l;have hlt:k<eu.length:=by rw[sq];exact(bt.1 l).1
  obtain⟨C,m,v,_⟩:=hH k _ (bh hlt);rw[l] at m;cases m;rw[v];simp
 have t: ∀k b,At y k b->own K R s.H b:=by
  intro k b h;obtain⟨id,m,v⟩:=W k b h;exact .inr ⟨id,UA k id m,v⟩
 have HG: ∀b,fS X' y (dy eu 0) b->own K R s.H b:=by
  rintro b (h|⟨k,_,v⟩)
  ·exact h.1
  exact t k b v
 have AS: ∀k b,At y k b->K.M b\/K.w0.heap.size<=b:=by
  intro k b h;obtain⟨id,m,v⟩:=W k b h;exact(p.fresh id b v).1
 have sB: ∀b,own K R s.H b->b<w.heap.size:=by
  rintro b (I|⟨id,_,aQ⟩)
  ·exact iU (p.gy b I).1 p.ext.size
  exact(p.fresh id b aQ).2
 have Vh:L.Nodup:=(List.nodup_append.1 U).1;have U3:mw K.G eu y w X':=by
  refine⟨?_,?_,?_,?_,?_⟩
  ·intro k l;rw[sq] at l;simp[y,gU,List.getElem?_eq_none l]
  ·rintro k b l ⟨id,m,_⟩;rw[sq] at l;rw[List.getElem?_eq_none l] at m;cases m
  ·intro k bz b h jZ;obtain⟨id,m,v⟩:=W k b h;obtain⟨C,Ur,h2'⟩:=W bz b jZ;have he:=p.inj id C b v h2';subst he;have l:=(bt.1 m).1;exact yp Vh m Ur
  ·intro k b A;refine⟨sB b (t k b A),λI=>I.2 ⟨k,A⟩,?_⟩;rcases AS k b A with z|z
   ·exact p.lp b z
   exact dS p.k7.1 z
  intro k e he;obtain⟨id,m,v,h4⟩:=hH k e he;have fP:=b4.mh (p.heap id _ v).2 m h4;exact fP.mono (Ext.refl _ _) (λb _=>HG b) (cN.refl _) (λ_ h=>h) (Shaped.refl _ _) λ_ _=>rfl
 have UC:=(cI.mh (((p.k6 xs.toList).app Bj).le bF) ch).mono (Ext.refl _ _) (λb _=>HG b) (cN.refl _) (Shaped.refl _ _);have bl:=h w X' y _ p.vB (λb aQ=>sB b aQ.1) U3 UC;have he:(List.map a.eval xs.toList++us.toList).toArray=xs.map a.eval++us:=by rw[<-q9,<-Array.toList_append]
 rw[he] at bl;refine bl.mono ?_;rintro e w' ⟨u,i,F,rfl,VT,d⟩;let B:=L++news;let N:Map:=⟨iK R B F,λid b=>(id∉B/\R.n id b)\/ ∃k,B[k]? =some id/\F.n k b⟩
 let s2:=s.after B (D i);have Vb: ∀k,k<L.length->B[k]? =L[k]? :=λk l=>hD l;have X: ∀id,id∈B-> ∃k:Nat,B[k]? =some id/\k<(D i).length:=by
  intro id hid;obtain⟨k,l,e⟩:=List.mem_iff_getElem.1 hid;exact⟨k,bt.2 ⟨l,e⟩,by rw[Bc];exact l⟩
 have rE: ∀id,id∉B->N id=R id:=λid h=>d6 h;have uh: ∀k id,B[k]? =some id->N id=F k:=λk id h=>k5 U h;have C2: ∀k id,k<L.length->B[k]? =some id->(F k=R id)\/ ∃q g qU ji,R id=some (q,g)/\1<=g/\F k=some (qU,ji)/\g<ji/\ ∀b,qU=some b->q=some b\/w.heap.size<=b:=by
  intro k id l h;have aQ:=d.base k (by rw[sq];exact l);rw[Vb k l] at h;have e:y k=R id:=by simp[y,gU,h]
  rw[e] at aQ;exact aQ
 have Hy: ∀k id,L.length<=k->B[k]? =some id->id∈news:=by
  intro k id l h;rw[gK l] at h;exact bA h
 have C3:cN R N:=by
  intro id q g I;by_cases hid:id∈B
  ·obtain⟨k,l,_⟩:=X id hid;by_cases Y:k<L.length
   ·rw[uh k id l];rcases C2 k id Y l with e|⟨jy,g1,qU,ji,ay,a2,a3,a4,_⟩
    ·exact .inl (e.trans I)
    rw[I] at ay;cases ay;exact .inr ⟨a2,qU,ji,a3,a4⟩
   have:=p.cW id (qs id (Hy k id O l));rw[this] at I;cases I
  exact .inl (by rw[rE id hid];exact I)
 have Ux: ∀k id,B[k]? =some id->s2.H id=((D i)[k]?).map (E.c7 B):=λk id h=>k5 U h;have G7: ∀id,id∉B->s2.H id=s.H id:=λid h=>d6 h;have HE: ∀id b,id∉B->At R id b-> ¬ ∃k,At y k b:=by
  rintro id b hid aQ ⟨k,h⟩;obtain⟨C,m,v⟩:=W k b h
  have:=p.inj id C b aQ v;subst this;exact hid (lv _ (bA m))
 have vC: ∀id b,At N id b->(id∉B/\At R id b)\/ ∃k,B[k]? =some id/\At F k b:=by
  rintro id b (⟨g,h⟩|⟨m,v⟩|⟨k,m,v⟩)
  ·by_cases hid:id∈B
   ·obtain⟨k,l,_⟩:=X id hid;rw[uh k id l] at h;exact .inr ⟨k,l,.inl ⟨g,h⟩⟩
   rw[rE id hid] at h;exact .inl ⟨hid,.inl ⟨g,h⟩⟩
  ·exact .inl ⟨m,.inr v⟩
  exact .inr ⟨k,m,.inr v⟩
 have hO: ∀b,own K N s2.H b->fS X' F (dy (D i) 0) b:=by
  rintro b (I|⟨id,m,v⟩)
  ·refine .inl ⟨.inl I,?_⟩;rintro⟨k,A⟩;rcases AS k b A with z|z
   ·exact(p.gy b I).2 z
   have:=(p.gy b I).1;omega
  rcases vC id b v with ⟨hid,h2'⟩|⟨k,l,A⟩
  ·rw[G7 id hid] at m;exact .inl ⟨.inr ⟨id,m,h2'⟩,HE id b hid h2'⟩
  have Y:k<(D i).length:=by rw[Bc];exact(bt.1 l).1
  refine .inr ⟨k,?_,A⟩;rw[qF,bh Y];simp
 have XQ: ∀k b,At F k b->k<(D i).length:=by
  rintro k b (⟨g,h⟩|h)
  ·apply lz;intro hle;rw[d.cW k hle] at h;cases h
  exact lz λhle=>d.du k b hle h
 have G9: ∀b,b<w.heap.size->own K N s2.H b->own K R s.H b:=by
  intro b UG aQ;rcases hO b aQ with m|⟨k,_,A⟩
  ·exact m.1
  rcases(d.fresh k b A).1 with ⟨bz,_,z⟩|z
  ·exact t bz b z
  omega
 have G6:Ext (own K R s.H) w w':=d.ext.weaken λb _ ⟨k,A⟩=>t k b A;have Ha:Shaped R w w':=λb aQ=>d.gI b aQ;have HM: ∀k x,F k=some x->N (B.getD k 0)=some x:=by
  intro k x I;have hlt:k<(D i).length:=by
   apply lz;intro hle;rw[d.cW k hle] at I;cases I
  rw[Bc] at hlt;have bE:B[k]? =some B[k]:=bh hlt;rw[fs,bE];exact(uh k _ bE).trans I
 have hold: ∀k b,At F k b->(∃id,id∈B/\At R id b)\/w.heap.size<=b:=by
  intro k b aQ;rcases(d.fresh k b aQ).1 with ⟨bz,z,h4⟩|z
  ·obtain⟨C,e1,e2⟩:=W bz b h4;exact .inl ⟨C,lv _ (bA e1),e2⟩
  exact .inr z
 have hrel:Rel K N s2 a w':=by
  refine {p with ext:= ?_,base:= ?_,gI:= ?_,low:= ?_,cW:= ?_,du:= ?_,inj:= ?_,fresh:= ?_,heap:= ?_,cu:= ?_}
  ·refine p.ext.trans' (d.ext.weaken ?_);rintro b _ ⟨k,A⟩ ⟨m,v⟩;rcases AS k b A with z|z
   ·exact v z
   omega
  ·refine p.base.more λid hid=>?_;by_cases T:id∈B
   ·obtain⟨k,l,_⟩:=X id T;by_cases Y:k<L.length
    ·rw[uh k id l];rcases C2 k id Y l with e|⟨q,g,qU,ji,ay,a2,a3,a4,a5⟩
     ·exact .inl e
     exact .inr ⟨q,g,qU,ji,ay,a2,a3,a4,λb aQ=>by
      rcases a5 b aQ with c|c
      ·exact .inl c
      exact .inr (dS p.ext.size c)⟩
    have m:=qs id (Hy k id O l);rw[p.low id hid] at m;cases m
   exact .inl (rE id T)
  ·intro b z;exact(d.gI b (iU z p.ext.size)).trans (p.gI b z)
  ·intro id hid;by_cases T:id∈B
   ·obtain⟨k,l,_⟩:=X id T;exact k5 (f:=s.u) (g:=λ_=>true) U l
   exact(d6 T).trans (p.low id hid)
  ·intro id hid;by_cases T:id∈B
   ·obtain⟨k,l,_⟩:=X id T
    have:s2.u id=true:=k5 (f:=s.u) (g:=λ_=>true) U l;rw[this] at hid;cases hid
   rw[rE id T];exact p.cW id ((d6 (f:=s.u) (g:=λ_=>true) T).symm.trans hid)
  ·rintro id b hid (⟨m,v⟩|⟨k,l,v⟩)
   ·exact p.du id b ((d6 (f:=s.u) (g:=λ_=>true) m).symm.trans hid) v
   have:s2.u id=true:=k5 (f:=s.u) (g:=λ_=>true) U l;rw[this] at hid;cases hid
  ·intro id C b m v;rcases vC id b m with ⟨m1,ay⟩|⟨k,l,ay⟩<;>rcases vC C b v with ⟨m2,a2⟩|⟨bz,lW,a2⟩
   ·exact p.inj id C b ay a2
   ·rcases hold bz b a2 with ⟨sO,z,h4⟩|z
    ·have:=p.inj id sO b ay h4;subst this;exact a7 z m1
    have:=(p.fresh id b ay).2;omega
   ·rcases hold k b ay with ⟨sO,z,h4⟩|z
    ·have:=p.inj C sO b a2 h4;subst this;exact a7 z m2
    have:=(p.fresh C b a2).2;omega
   have:=d.inj k bz b ay a2;subst this;rw[l] at lW;cases lW;rfl
  ·intro id b m;rcases vC id b m with ⟨_,ay⟩|⟨k,l,ay⟩
   ·exact⟨(p.fresh id b ay).1,iU (p.fresh id b ay).2 d.ext.size⟩
   refine⟨?_,(d.fresh k b ay).2⟩;rcases hold k b ay with ⟨sO,_,z⟩|z
   ·exact(p.fresh sO b z).1
   exact .inr (dS p.ext.size z)
  ·intro id e he;by_cases T:id∈B
   ·obtain⟨k,l,Y⟩:=X id T;refine⟨k5 (f:=s.u) (g:=λ_=>true) U l,?_⟩;rw[Ux k id l,bh Y] at he;simp at he;subst he;exact b4.c7 (d.heap k _ (bh Y)) l HM hO (λb=>⟨λh=>by
     rcases h with ⟨m,_⟩|⟨bz,m,v⟩
     ·exact a7 T m
     have:=yp U m l;subst this;exact v,λh=> .inr ⟨k,l,h⟩⟩)
   rw[G7 id T] at he;obtain⟨m,v⟩:=p.heap id e he;refine⟨(d6 (f:=s.u) (g:=λ_=>true) T).trans m,?_⟩;exact v.mono G6 G9 C3 (λx I=>by rw[rE id T];exact I) Ha (λb aQ=>d.ext.keep b (p.fresh id b aQ).2 (HE id b T aQ)) (λb=>⟨λh=>by
    rcases h with ⟨_,h⟩|⟨bz,m,_⟩
    ·exact h
    exact a7 (bA m) T,λh=> .inl ⟨T,h⟩⟩)
  intro j;exact(p.cu j).mono G6 G9 C3 Ha
 exact l i VT N _ w' (hrel.put o.dst cA ((d.res.c7 HM).mono (Ext.refl _ _) (λb _=>hO b) (cN.refl _) (Shaped.refl _ _)))
end
section
variable {K:Ctx}{s:S}{d:Option Tmp}{ty:TypeId}{pos:String}{af:Array Edge}{g:Option (Nat×Bool)}{f:FuncId}{xs:Array Operand}{Jn:Array TypeId}{args:List V}{ι:Type}{jG:ι->Prop}{r:ι->V}{out:ι->List E}
theorem yE.j{o:Oper}{u:Unit->Prop}{b:Unit->S}(h:yE K o s u b):dj K o s (b ()):=
 λβ a w next Q c e=>h β a w next Q c λ_ _=>e
variable {ops:Array Oper}{rest:List Oper}{Q:S->Prop}{op:Op}
end
section
variable {P:Program}{H:Nat->Option E}{d:Option Tmp}{ty:TypeId}{pos:String}{af:Array Edge}{g:Option (Nat×Bool)}
theorem Rp(n:Int):IntKind.u8.wrap n=((UInt8.ofInt n).toNat:Int):=by
 have:IntKind.u8.wrap n=n%256:=by simp[IntKind.wrap,IntKind.bits,IntKind.signed]
 rw[this];simp[UInt8.ofInt];omega
theorem Mj(x:Operand)(c k e:TypeId)(l:List UInt8)(A:P.underlying c=some (.slice e))(B:P.underlying e=some (.int .u8))(C:P.underlying k=some .string):
  bK P H ⟨d,.convert c k x,ty,pos,af,g⟩ [JE (l.map l9)] (cw l):=by
 intro I w X D _ M;refine⟨.string ⟨l.toArray⟩,?_,.t _ _ (.str l)⟩;have L:aS I w X (JE (l.map l9)) (D x):=M.1;simp only[execOp];suffices (convert c k (D x)).run P w= .ok (.string ⟨l.toArray⟩) w by
  simp only[Sem.run_bind,this,Result.andThen_ok,Sem.run_pure]
 generalize D x=y at L⊢;cases L with
 |t _ _ h=>
  generalize Q:l.map l9=R at h;cases h with
  |eH a m=>
   have p:l=[]:=by simpa using Q
   subst p;rw[run_convert_bytes_string w c k e _ _ _ A B C];cases a with
   |none=>simp[Conv.bytesToString];rfl
   |some a=>
    rw[run_bytesToString w a 0 m [] (by simp[loadCells,loadCellsFrom,Sem.run_pure])];rfl
  |aa _ b n r m f T U W F N G=>
   subst Q;cases p:l with
   |nil=>
    subst p
    have:=run_convert_bytes_arg (P:=P) w c e A B b n 0 m [] rfl (λi j=>O) k C;exact this
   |cons y V=>
    rw[<-p];have o:r=1:=by
     have:=F (l9 y) (by rw[p];simp);simpa using this.symm
    subst o;have S: ∀(i:Nat) (z:UInt8),l[i]? =some z->f i 0= .int .u8 (z.toNat:Int):=by
     intro i z s;have u:=G i 0 (l9 z) (.int .u8 (z.toNat:Nat)) (by rw[dT,s];rfl) rfl;generalize f i 0=q at u⊢;cases u;rfl
    have:=run_convert_bytes_arg (P:=P) w c e A B b n (l.map l9).length m (l.map λz=>(z.toNat:Int)) aV (λi j=>by
     have v:i<l.length:=by simpa using j
     have s:l[i]? =some l[i]:=bh v;have K:=N i 0 (by simpa using v) O;rw[S i _ s] at K;rw[show n+i*1+0=n+i by omega] at K;rw[K];simp[List.getD_eq_getElem?_getD,s]) k C
    rw[this];congr 2;simp only[strOfNums,List.map_map];congr 2;apply List.ext_getElem?;intro i;rw[dT];cases s:l[i]? with
    |none=>rfl
    |some z=>simp
end
section
variable {K:Ctx}{s:S}{d:Option Tmp}{ty:TypeId}{pos:String}{af:Array Edge}{g:Option (Nat×Bool)}
variable {t:TypeId}{u:TypeDesc}{z:Value}{size bytes:Nat}
theorem P0(k:Nat)(q:s.u k=false)(e:TypeId)(r: ∀i,d=some i->Nat.blt i K.nt=true)(v:K.P.underlying t=some (.slice e))(y:bL K.P e u z size bytes):
  dj K ⟨d,.buildSlice t 0 #[],ty,pos,af,g⟩ s ((s.new k (.arr e 1 size [])).put d (.aN k 1 size 0 0)):=by
 intro o a w next Q A l
 have b:(execOp a.eval ⟨d,.buildSlice t 0 #[],ty,pos,af,g⟩).run K.P w= .ok (.value (.slice (some ⟨w.heap.size,0,none⟩) 0 0)) (w.alloc (.cells #[] e)):=by
  simp only[execOp,Instr.buildSlice,Sem.run_bind,run_underlying v,Result.andThen_ok,y.run_sizeOf,Nat.zero_mul,show¬(0>2^24) by decide,if_false,if_true];simp only[Instr.fill,Sem.run_bind,Sem.run_pure,Result.andThen_ok,show Array.range 0= #[] from by simp[Array.range],List.map_toArray,List.map_nil];rfl
 unfold Oper.wp;rw[b];have c:=A.new k 1 q #[] e (.arr e 1 size []) λB L R C D F=>⟨cL _,Or.inr ⟨w.heap.size,_,D,by subst C;exact ie _ _,aV,λ_ h=>by simp at h,λi j G x u h=>by simp at h⟩⟩
 have m:(w.alloc (.cells #[] e)).heap.size=w.heap.size+1:=World.size_alloc ..;have n:(w.alloc (.cells #[] e)).shape? w.heap.size=some (e,0):=by unfold World.shape?;rw[ie];simp
 have p:aS (o.put k (some (some w.heap.size,1))) (w.alloc (.cells #[] e)) (own K (o.put k (some (some w.heap.size,1))) (s.new k (.arr e 1 size [])).H) (.aN k 1 size 0 0)
   (.slice (some ⟨w.heap.size,0*size,none⟩) 0 0):= .aN k 1 size 0 0 0 w.heap.size 0 e (cL _) (bu _ _ _) (m▸ly _) n aV (cL _) (by unfold maxLen;omega)
 rw[fe] at p;exact l _ _ _ (c.put d r p)
end
def z':Option TypeDesc->Bool
 |some (.int .i64)=>true
 |_=>false
theorem P4{o:Option TypeDesc}(h:z' o=true):o=some (.int .i64):=by
 unfold z' at h
 grind
def qM(P:Program):List Field->Nat->Bool
 | [],_=>true
 |f::a,i=>f.name != "_" &&z' (P.underlying f.type)&&Nat.beq f.offset i&&qM P a (i+1)
theorem Bz{P:Program}{w:World}{xs ys:Array Value}: ∀(a:List Field) (i:Nat) (ms b:List Int),qM P a i=true->ms.length=a.length->b.length=a.length->
  (∀(j:Nat) m,ms[j]? =some m->xs[i+j]? =some (.int .i64 m))->(∀(j:Nat) m,b[j]? =some m->ys[i+j]? =some (.int .i64 m))->
  (Op.eqFields 9999 xs ys a).run P w= .ok (decide (ms=b)) w
 | [],i,ms,b,_,c,e,_,_=>by
  have A:ms=[]:=by simpa using c
  have B:b=[]:=by simpa using e
  subst A;subst B;simp[Op.eqFields]
 |f::a,i,[],b,_,c,_,_,_=>by simp at c
 |f::a,i,m::ms,[],_,_,e,_,_=>by simp at e
 |f::a,i,m::ms,n::b,s,c,e,x,y=>by
  simp only[qM,Bool.and_eq_true] at s;obtain⟨⟨⟨C,k⟩,dG⟩,D⟩:=s;have k:=P4 k;have dG:=ca dG;have l:f.name≠ "_" :=by simpa using C
  have z: ∀(cs:Array Value) (v:Value),cs[i]? =some v->(part f.type cs f.offset).run P w= .ok v w:=by
   intro cs v F;rw[dG];simp[part,isAgg,run_underlying k,F]
  have o:=x 0 m rfl;have p:=y 0 n rfl;have G:=Bz (P:=P) (w:=w) a (i+1) ms b D (by simpa using c) (by simpa using e)
   (λj q r=>by rw[show i+1+j=i+(j+1) by omega];exact x (j+1) q (by simpa using r))
   λj q r=>by rw[show i+1+j=i+(j+1) by omega];exact y (j+1) q (by simpa using r)
  simp only[Op.eqFields,l,ne_eq,not_false_eq_true,if_true,Sem.run_bind,z xs _ o,z ys _ p,Result.andThen_ok,run_equalIn_int w 9998 f.type .i64 .i64 m n k];by_cases h:m=n
  ·subst h;simp[G]
  simp[h]
section
variable {P:Program}{H:Nat->Option E}{d:Option Tmp}{ty:TypeId}{pos:String}{af:Array Edge}{g:Option (Nat×Bool)}
theorem ug{W:Map}{w:World}{X:Nat->Prop}{e:List Int}{u:Value}(h:aS W w X (.agg (e.map ab)) u): ∃a:Array Value,u= .agg a/\ ∀(j:Nat) m,e[j]? =some m->a[j]? =some (.int .i64 m):=by
 cases h with
 |agg _ a l n=>
  refine⟨a,rfl,λj m c=>?_⟩;have b:j<a.size:=by
   rw[l,dL];exact(bt.1 c).1
  have i:a[j]? =some a[j]:=f' b;have k:=n j (ab m) _ (by rw[dT,c];rfl) i;rw[i];generalize a[j]=q at k;cases k with|t _ _ h=>cases h;rfl
theorem Nn(x y:Operand)(t q:TypeId)(a b:List Int)(r:P.underlying t=some (.struct (P.fieldsOf t)))(s:P.stoodInHeld t=false)(v:P.eqGuardType P.depth t=false)
  (z:qM P (P.fieldsOf t).toList 0=true) (c:Nat.beq a.length (P.fieldsOf t).size=true) (e:Nat.beq b.length (P.fieldsOf t).size=true):
  bK P H ⟨d,.binOp .neq t x y q,ty,pos,af,g⟩ [.agg (a.map ab),.agg (b.map ab)] (aZ (!decide (a=b))):=by
 intro B w X o _ p;obtain⟨h,i,b6⟩:=ug p.1;obtain⟨k,l,b0⟩:=ug p.2.1;refine⟨.bool (!decide (a=b)),?_,.t _ _ (.bool _)⟩;have c:=ca c;have e:=ca e;have A:=Bz (P:=P) (w:=w) (xs:=h) (ys:=k) (P.fieldsOf t).toList 0 a b z (by simpa using c) (by simpa using e) (λj m n=>by simpa using b6 j m n) λj m n=>by simpa using b0 j m n
 have i:o x=_:=i;have l:o y=_:=l;simp only[execOp,i,l,Sem.run_bind,run_eqGuard_agg w .neq t x y h k v,Result.andThen_ok,run_neq_struct,run_equalIn_struct w 9999 t h k r s,A,Sem.run_pure]
theorem Nv(x y:Operand)(t q:TypeId)(a b:List Int)(r:P.underlying t=some (.struct (P.fieldsOf t)))(s:P.stoodInHeld t=false)(v:P.eqGuardType P.depth t=false)
  (z:qM P (P.fieldsOf t).toList 0=true) (c:Nat.beq a.length (P.fieldsOf t).size=true) (e:Nat.beq b.length (P.fieldsOf t).size=true):
  bK P H ⟨d,.binOp .eql t x y q,ty,pos,af,g⟩ [.agg (a.map ab),.agg (b.map ab)] (aZ (decide (a=b))):=by
 intro B w X o _ p;obtain⟨h,i,b6⟩:=ug p.1;obtain⟨k,l,b0⟩:=ug p.2.1;refine⟨.bool (decide (a=b)),?_,.t _ _ (.bool _)⟩;have c:=ca c;have e:=ca e;have A:=Bz (P:=P) (w:=w) (xs:=h) (ys:=k) (P.fieldsOf t).toList 0 a b z (by simpa using c) (by simpa using e) (λj m n=>by simpa using b6 j m n) λj m n=>by simpa using b0 j m n
 have i:o x=_:=i;have l:o y=_:=l;simp only[execOp,i,l,Sem.run_bind,run_eqGuard_agg w .eql t x y h k v,Result.andThen_ok,run_eql_struct,run_equalIn_struct w 9999 t h k r s,A,Sem.run_pure]
end
def uH(P:Program)(t:TypeId)(n:Nat):Prop:=P.underlying t=some (.struct (P.fieldsOf t))/\P.stoodInHeld t=false/\P.eqGuardType P.depth t=false/\qM P (P.fieldsOf t).toList 0=true/\(P.fieldsOf t).size=n
section
variable {P:Program}{H:Nat->Option E}{d:Option Tmp}{ty:TypeId}{pos:String}{af:Array Edge}{g:Option (Nat×Bool)}
theorem PI(x y:Operand)(t l:TypeId){n:Nat}(i k:List Int)(h:uH P t n)(m:Nat.beq i.length n=true)(o:Nat.beq k.length n=true):
  bK P H ⟨d,.binOp .neq t x y l,ty,pos,af,g⟩ [.agg (i.map ab),.agg (k.map ab)] (aZ (!decide (i=k))):=by obtain⟨a,b,c,e,f⟩:=h;exact Nn x y t l i k a b c e (by rw[f];exact m) (by rw[f];exact o)
theorem PK(x y:Operand)(t l:TypeId){n:Nat}(i k:List Int)(h:uH P t n)(m:Nat.beq i.length n=true)(o:Nat.beq k.length n=true):
  bK P H ⟨d,.binOp .eql t x y l,ty,pos,af,g⟩ [.agg (i.map ab),.agg (k.map ab)] (aZ (decide (i=k))):=by obtain⟨a,b,c,e,f⟩:=h;exact Nv x y t l i k a b c e (by rw[f];exact m) (by rw[f];exact o)
end
inductive yV where
 |bool
 |int (k:IntKind)
 |string
 |slice (e:Nat)
 |array (n e:Nat)
 |struct (XO:List (Nat×Nat))
 |HX
 |other
structure bM where
 u:yV
 z:Value
 size:Nat
 bytes:Nat
 places:Array (Nat×Nat)
def yV.agg:yV->Bool
 | .struct _=>true
 | .array _ _=>true
 |_=>false
def bM.is(P:Program)(i:bM)(u:TypeDesc):Prop:=match i.u with
 | .bool=>u= .bool
 | .int k=>u= .int k
 | .string=>u= .string
 | .slice e=>u= .slice e
 | .array n e=>u= .array n e
 | .struct l=> ∃a,u= .struct a/\a.toList.map (λf=>(f.type,f.offset))=l/\ ∀w,(a.mapM (m:=Sem) λf:Field=>do pure (f.offset,<-sizeOf f.type)).run P w= .ok i.places w
 | .HX=> ∃m,u= .interface m
 | .other=>iB u=false
def bM.ok(P:Program)(t:TypeId)(i:bM):Prop:= ∃u,bL P t u i.z i.size i.bytes/\i.is P u
variable {P:Program}{t:TypeId}{i:bM}{a b n:Int}{k R:Type}{x:k}{r l:List k}
theorem bM.ok.agg(h:i.ok P t): ∃u,bL P t u i.z i.size i.bytes/\iB u=i.u.agg:=by
 obtain⟨u,d,b⟩:=h;refine⟨u,d,?_⟩;unfold bM.is at b;split at b
 ·rename_i a;rw[a,b];rfl
 ·rename_i a;rw[a,b];rfl
 ·rename_i a;rw[a,b];rfl
 ·rename_i a;rw[a,b];rfl
 ·rename_i a;rw[a,b];rfl
 ·rename_i a;rw[a];obtain⟨e,c,_⟩:=b;rw[c];rfl
 ·rename_i a;rw[a];obtain⟨m,c⟩:=b;rw[c];rfl
 rename_i a;rw[a,b];rfl
theorem bM.ok.gu(h:i.ok P t):(i.u= .bool->P.underlying t=some .bool)/\(∀k,i.u= .int k->P.underlying t=some (.int k))/\(i.u= .string->P.underlying t=some .string)/\
  ∀e,i.u= .slice e->P.underlying t=some (.slice e):=by obtain⟨u,c,b⟩:=h;refine⟨λa=>?_,λk a=>?_,λa=>?_,λe a=>?_⟩<;>simp only[bM.is,a] at b<;>rw[<-b]<;>exact c.1
theorem bM.ok.st{l:List (Nat×Nat)}(h:i.ok P t)(b:i.u= .struct l): ∃a,bL P t (.struct a) i.z i.size i.bytes/\a.toList.map (λf=>(f.type,f.offset))=l/\ ∀w,(a.mapM (m:=Sem) λf:Field=>do pure (f.offset,<-sizeOf f.type)).run P w= .ok i.places w:=by
 obtain⟨u,d,c⟩:=h;simp only[bM.is,b] at c
 grind
def cT:List (Nat×bM)->Nat->Option bM
 | [],_=>none
 |(t,i)::l,k=>bif Nat.beq t k then some i else cT l k
def dm(P:Program)(a:List (Nat×bM)):Prop:= ∀t i,cT a t=some i->i.ok P t
theorem dm.nil:dm P []:=λ_ _ h=>by cases h
theorem dm.cons{a:List (Nat×bM)}{t:Nat}(h:i.ok P t)(d:dm P a):dm P ((t,i)::a):=by
 intro k j b;simp only[cT] at b;cases c:Nat.beq t k with
 |true=>rw[c] at b;cases b;rw[<-ca c];exact h
 |false=>rw[c] at b;exact d k j b
inductive bV where
 |row (r:List T)
 |rows (r:List (List T))
 |str (s:List UInt8)
 |int (n:Int)
 |nat (n:Nat)
 |b (w:Bool)
 |y (b:UInt8)
 |v (v:V)
 |ee (slot k:Nat)
 |oC (cu:List Nat) (k:Nat)
 |grow (slot k:Nat) (e:TypeId)
 |BN (k:Nat)
 |G1 (b j k:Nat)
 |dC (b j k:Nat) (e:TypeId)
 |WW (i k g:Nat)
 |WV (b j k g:Nat)
 |len (slot n:Nat)
 |gV (b j n:Nat)
 |sg (k:Nat) (cu:List Nat)
 |cb (k:Nat) (cu blocks:List Nat)
 |bX (k bz:Nat) (cu blocks:List Nat)
 |at (rem:Nat)
 |c7 (slot k bz:Nat)
 |ec (L news:List Nat) (r:V) (out:List E)
 |cQ (k:Nat) (d':List df) (m:Nat)
 |fW (k:Nat)
 |dX (k bz i j:Nat) (row:List T)
 |cS (k bz:Nat) (row:List T) (R:List (List T))
 |lt (k:Nat) (d':List df) (m:Nat)
 |fm (k i j:Nat) (row:List T)
 |fr (k:Nat) (row:List T) (R:List (List T))
 |G2 (i j k:Nat) (e:TypeId)
 |cut (k n:Nat) (R:List (List T))
inductive cR where
 |p (p:Prop)
 |q (a b:Nat)
def bS:List cR->Prop
 | []=>True
 | .p p::l=>p/\bS l
 | .q a b::l=>a=b/\bS l
def tk:List cR->Prop
 | []=>True
 | .p p::l=>p/\tk l
 | .q _ _::l=>tk l
def qS:List cR->List Nat
 | []=>[]
 | .p _::l=>qS l
 | .q a _::l=>a::qS l
def qT:List cR->List Nat
 | []=>[]
 | .p _::l=>qT l
 | .q _ b::l=>b::qT l
theorem bS.of: ∀{l:List cR},tk l->qS l=qT l->bS l
 | [],_,_=>trivial
 | .p _::_,h,k=>⟨h.1,bS.of h.2 k⟩
 | .q _ _::_,h,k=>by simp only[qS,qT,List.cons.injEq] at k;exact⟨k.1,bS.of h k.2⟩
theorem bS.app: ∀{l m:List cR},bS (l++m)->bS l/\bS m
 | [],_,h=>⟨trivial,h⟩
 | .p _::_,_,h=>⟨⟨h.1,(bS.app h.2).1⟩,(bS.app h.2).2⟩
 | .q _ _::_,_,h=>⟨⟨h.1,(bS.app h.2).1⟩,(bS.app h.2).2⟩
def aH{α:Type}(l:List α)(i:Int):Option α:=if 0<=i then l[i.toNat]? else none
def sub{k:Type}(l:List k)(a b:Int):Option (List k):=if 0<=a/\a<=b/\b<=l.length then some ((l.take b.toNat).drop a.toNat) else none
def cat(a b:List UInt8):Option (List UInt8):=if(a.length:Int)+b.length<=9223372036854775807 then some (a++b) else none
def app{k:Type}(a b:List k):Option (List k):=if a.length+b.length<=1000000000 then some (a++b) else none
def mk{k:Type}(n:Int)(x:k):Option (List k):=if 0<=n/\n<=1000000000 then some (List.replicate n.toNat x) else none
def dh{k:Type}(l:List k)(i:Int)(x:k):Option (List k):=if 0<=i/\i<l.length then some (l.set i.toNat x) else none
def wr(n:Int):Int:=IntKind.i64.wrap n
theorem o3{i:Int}(h:aH l i=some x):0<=i/\l[i.toNat]? =some x:=by
 unfold aH at h
 grind
theorem FZ{i:Int}(f:k->R)(h:aH l i=some x):aH (l.map f) i=some (f x):=by
 obtain⟨a,b⟩:=o3 h;unfold aH
 grind
theorem xP(h:sub l a b=some r):0<=a/\a<=b/\b<=l.length/\r=(l.take b.toNat).drop a.toNat:=by
 unfold sub at h
 grind
theorem zl(f:k->R)(h:sub l a b=some r):sub (l.map f) a b=some (r.map f):=by obtain⟨c,d,e,rfl⟩:=xP h;unfold sub;rw[bn ⟨c,d,by simpa using e⟩,List.map_drop,List.map_take]
theorem q4{a b:List k}(h:app a b=some r):a.length+b.length<=1000000000/\r=a++b:=by
 unfold app at h
 grind
theorem cJ{a b:List k}(f:k->R)(h:app a b=some r):app (a.map f) (b.map f)=some (r.map f):=by
 obtain⟨c,rfl⟩:=q4 h;unfold app
 grind
theorem kL(h:mk n x=some r):0<=n/\n<=1000000000/\r=List.replicate n.toNat x:=by
 unfold mk at h
 grind
theorem nA(f:k->R)(h:mk n x=some r):mk n (f x)=some (r.map f):=by obtain⟨a,b,rfl⟩:=kL h;unfold mk;rw[bn ⟨a,b⟩,List.map_replicate]
theorem tp{i:Int}(h:dh l i x=some r):0<=i/\i<l.length/\r=l.set i.toNat x:=by
 unfold dh at h
 grind
theorem Qx{a b r:List UInt8}(h:cat a b=some r):(a.length:Int)+b.length<=9223372036854775807/\r=a++b:=by
 unfold cat at h
 grind
mutual
def kO:V->V
 | .t .en=> .t (.aa [])
 | .agg cs=> .agg (fg cs)
 | .bG cs=> .bG (fg cs)
 | .t (.aa r)=> .t (.aa r)
 | .t (.int k n)=> .t (.int k n)
 | .t (.bool b)=> .t (.bool b)
 | .t (.str s)=> .t (.str s)
 |v=>v
def fg:List V->List V
 | []=>[]
 |c::cs=>kO c::fg cs
end
mutual
theorem H1: ∀v:V,cX v (kO v)
 | .t .en=>cX.nil
 | .t (.aa _)| .t (.int _ _)| .t (.bool _)| .t (.str _)| .t .gW| .t .eO| .t .jw| .t .err=>cX.refl _
 | .agg cs=>cX.agg (jv cs)
 | .bG cs=>cX.bG (jv cs)
 | .ref _ _| .aP _| .aN _ _ _ _ _| .cd _ _ _ _ _| .fn _ _| .ct=>cX.refl _
theorem jv: ∀cs:List V,ez cs (fg cs)
 | []=>trivial
 |c::cs=>⟨H1 c,jv cs⟩
end
theorem oR: ∀cs:List V,(fg cs).length=cs.length
 | []=>rfl
 |c::cs=>by simp[fg,oR cs]
def p0(k:Option Nat):List V->List V
 | [.t .en]=>match k with
  |some _=>[.t .en]
  |none=>fg [.t .en]
 |vs=>fg vs
theorem QV(k:Option Nat)(a:List V):ez a (p0 k a):=by
 unfold p0;split
 ·split
  ·exact ez.refl _
  exact jv _
 exact jv _
theorem LX(k:Option Nat)(a:List V):(p0 k a).length=a.length:=by
 unfold p0;split
 ·split
  ·rfl
  exact oR _
 exact oR _
def tK:V->Option T
 | .t x=>some x
 |_=>none
def iX:List V->Option (List T)
 | []=>some []
 |v::a=>match tK v,iX a with
  |some x,some b=>some (x::b)
  |_,_=>none
theorem lo: ∀{a:List V} {b:List T},iX a=some b->a=b.map .t
 | [],_,h=>by cases h;rfl
 |v::a,b,h=>by
  simp only[iX] at h;split at h
  ·rename_i x e d c;cases h;have c:=lo c;cases v<;>simp[tK] at d;subst d;subst c;rfl
  cases h
def rP:List V->Option (List Int)
 | []=>some []
 | .t (.int .i64 m)::a=>match rP a with
  |some ms=>some (m::ms)
  |none=>none
 |_=>none
theorem tr: ∀{a:List V} {ms:List Int},rP a=some ms->a=ms.map ab
 | [],_,h=>by cases h;rfl
 |v::a,ms,h=>by
  unfold rP at h;split at h
  ·rename_i b;cases b
  ·rename_i m c b;cases b;split at h
   ·rename_i d e;cases h;rw[tr e];rfl
   cases h
  cases h
abbrev fK:=Option (V×List cR×List bV)
def Gr(a:BinOp)(m n:Int):Option Bool:=
 match a with
 | .eql=>some (decide (m=n))
 | .neq=>some (!decide (m=n))
 | .lss=>some (decide (m<n))
 | .leq=>some (decide (m<=n))
 | .gtr=>some (decide (n<m))
 | .geq=>some (decide (n<=m))
 |_=>none
def Gk(a:BinOp):Bool:=
 match a with
 | .and| .or| .xor| .andNot=>true
 |_=>false
def Ag(op:BinOp)(k:IntKind)(m n:Int)(a:List bV):fK:=
 match op with
 | .add=>some (.t (.int k (k.wrap (m+n))),[],a)
 | .sub=>some (.t (.int k (k.wrap (m-n))),[],a)
 | .mul=>some (.t (.int k (k.wrap (m*n))),[],a)
 | .quo=>some (.t (.int k (k.wrap (m.tdiv n))),[.p (n≠0)],a)
 | .rem=>some (.t (.int k (m.tmod n)),[.p (n≠0)],a)
 | .and=>some (.t (.int k (bits .and k m n)),[],a)
 | .or=>some (.t (.int k (bits .or k m n)),[],a)
 | .xor=>some (.t (.int k (bits .xor k m n)),[],a)
 | .andNot=>some (.t (.int k (bits .andNot k m n)),[],a)
 | .shl| .shr=>none
 |op=>match Gr op m n with
  |some b=>some (.t (.bool b),[],a)
  |none=>none
def z1(b:BinOp)(m n:List UInt8)(a:List bV):fK:=
 match b,a with
 | .add,.str r::a=>some (.t (.str r),[.p (cat m n=some r)],a)
 | .eql,a=>some (.t (.bool (decide (m=n))),[],a)
 | .neq,a=>some (.t (.bool (!decide (m=n))),[],a)
 | .geq,a=>some (.t (.bool (!Op.bytesLess m n)),[],a)
 | .lss,a=>some (.t (.bool (Op.bytesLess m n)),[],a)
 | .gtr,a=>some (.t (.bool (!Op.bytesLess m n&& !m==n)),[],a)
 | .leq,a=>some (.t (.bool (Op.bytesLess m n||m==n)),[],a)
 |_,_=>none
def zs:Option bM->Bool
 |some i=>match i.u with
  | .bool=>true
  |_=>false
 |none=>false
def Al(P:Program)(e:List (Nat×bM))(d:BinOp)(t:TypeId)(v w:V)(a:List bV):fK:=
 match v,w with
 | .t (.int k m),.t (.int h n)=>if k=h then Ag d k m n a else none
 | .t (.str m),.t (.str n)=>z1 d m n a
 | .t (.bool p),.t (.bool q)=>match zs (cT e t),d with
  |true,.eql=>some (.t (.bool (p==q)),[],a)
  |true,.neq=>some (.t (.bool (!(p==q))),[],a)
  |_,_=>none
 | .agg cs,.agg i=>match rP cs,rP i,d,a with
  |some ms,some c,.eql,.b b::a=>some (.t (.bool b),[.p (uH P t ms.length),.q c.length ms.length,.p (decide (ms=c)=b)],a)
  |some ms,some c,.neq,.b b::a=>some (.t (.bool (!b)),[.p (uH P t ms.length),.q c.length ms.length,.p (decide (ms=c)=b)],a)
  |_,_,_,_=>none
 |_,_=>none
def z8:Option bM->Bool
 |some i=>match i.u with
  | .HX=>true
  |_=>false
 |none=>false
def l6:Operand->Bool
 | .const _=>true
 |_=>false
def Ah(b:List (Nat×bM))(c:BinOp)(t:TypeId)(x y:Operand)(v w:V)(a:List bV):fK:=
 match z8 (cT b t),l6 x||l6 y,v,w,c with
 |true,true,.t .err,.t .eO,.eql=>some (.t (.bool false),[],a)
 |true,true,.t .err,.t .eO,.neq=>some (.t (.bool true),[],a)
 |true,true,.t .eO,.t .eO,.eql=>some (.t (.bool true),[],a)
 |true,true,.t .eO,.t .eO,.neq=>some (.t (.bool false),[],a)
 |_,_,_,_,_=>none
def Aq(c:UnOp)(v:V)(a:List bV):fK:=
 match c,v with
 | .not,.t (.bool b)=>some (.t (.bool (!b)),[],a)
 | .neg,.t (.int k n)=>some (.t (.int k (k.wrap (0-n))),[],a)
 |_,_=>none
def yX(a:List (Nat×bM)):Option bM->Bool
 |some i=>match i.u with
  | .slice e=>match cT a e with
   |some j=>match j.u with
    | .int .u8=>true
    |_=>false
   |none=>false
  |_=>false
 |none=>false
def zQ(c:List (Nat×bM))(d e:TypeId)(v:V)(a:List bV):fK:=
 match cT c d,cT c e with
 |some i,some j=>match j.u,v,a with
  | .int h,.t (.int _ n),.int m::a=>some (.t (.int h m),[.p (h.wrap n=m)],a)
  | .int .u8,.t (.int _ n),.y m::a=>some (.t (.int .u8 (m.toNat:Nat)),[.p (UInt8.ofInt n=m)],a)
  | .string,.t (.aa b),.str l::a=>match yX c (some i) with
   |true=>some (.t (.str l),[.p (b=l.map l9)],a)
   |false=>none
  |_,_,_=>none
 |_,_=>none
def pC(m:List (Nat×bM))(H:Nat->Option E)(t:TypeId)(v:V)(e:List bV):fK:=
 match cT m t with
 |none=>none
 |some i=>match v with
  | .ref id a=>match H id with
   |some (.cells cs)=>match i.u.agg with
    |true=>match Nat.ble (a+i.size) cs.length with
     |true=>some (.agg ((cs.drop a).take i.size),[],e)
     |false=>none
    |false=>match cs[a]? with
     |some c=>some (c,[],e)
     |none=>none
   |_=>none
  | .aP cs=>match i.u.agg with
   |true=>match Nat.ble i.size cs.length with
    |true=>some (.agg ((cs.take i.size).map .t),[],e)
    |false=>none
   |false=>match cs with
    |c::_=>some (.t c,[],e)
    | []=>none
  | .cd id gen l k a=>match H id,i.u.agg,e with
   |some (.arr _ b h d),false,.row r::e=>match r[a]? with
    |some c=>some (.t c,[.q b gen,.q h l,.p (d[k]? =some r)],e)
    |none=>none
   |some (.arr _ b h d),true,.row r::e=>match Nat.ble (a+i.size) r.length with
    |true=>some (.agg (((r.drop a).take i.size).map .t),[.q b gen,.q h l,.p (d[k]? =some r)],e)
    |false=>none
   |_,_,_=>none
  |_=>none
def n'(j:Nat):List (Nat×Nat×V)->Option (Nat×V)
 | []=>none
 |h::a=>bif Nat.beq h.2.1 j then some (h.1,h.2.2) else n' j a
def pr(a:List (Nat×Nat×V)):Nat->Nat->Option (List (Nat×V))
 |_,0=>some []
 |j,n+1=>match n' j a,pr a (j+1) n with
  |some x,some l=>some (x::l)
  |_,_=>none
def nZ(k:Nat):List (Nat×V)->List cR
 | []=>[]
 |x::l=> .q x.1 k::nZ k l
def oe(i j:Nat):List (Nat×Nat×V)->List cR
 | []=>[]
 |h::a=>bif Nat.beq h.2.1 j then .p (i≠h.1)::oe i j a else oe i j a
theorem tV{i j:Nat}: ∀{b:List (Nat×Nat×V)},bS (oe i j b)-> ∀v,(i,j,v)∉b
 | [],_,_,h=>by cases h
 |h::b,a,v,hm=>by
  unfold oe at a;cases c:Nat.beq h.2.1 j with
  |true=>
   rw[c] at a;rcases dz.1 hm with rfl|hm
   ·exact a.1 rfl
   exact tV a.2 v hm
  |false=>
   rw[c] at a;rcases dz.1 hm with rfl|hm
   ·simp at c
   exact tV a v hm
def y'(x:List (Nat×bM))(H:Nat->Option E)(t:TypeId)(v:V)(e:List bV):fK:=
 match cT x t,v,e with
 |some i,.cd id gen n k a,.row r::e=>match H id with
  |some (.av h m b d o)=>match i.u.agg with
   |false=>match r[a]?,n' a o with
    |some c,none=>match (Y h m).dv a with
     |none=>some (.t c,[.q b gen,.q (Y h m).size n,.p (d[k]? =some r)],e)
     |some _=>none
    |some _,some (s,w)=>some (w,[.q b gen,.q (Y h m).size n,.p (d[k]? =some r),.q s k],e)
    |none,_=>none
   |true=>match Nat.ble (a+i.size) r.length,pr o a i.size with
    |true,some l=>some (.agg (l.map (·.2)),.q b gen:: .q (Y h m).size n:: .p (d[k]? =some r)::nZ k l,e)
    |_,_=>none
  |_=>none
 |some i,.cd id gen n k a,.int q:: .row r::e=>match H id with
  |some (.av h m b d o)=>match i.u.agg,r[a]?,o[q.toNat]? with
   |false,some _,some (s,y,w)=>some (w,[.q b gen,.q (Y h m).size n,.p (d[k]? =some r),.q s k,.q y a],e)
   |true,_,_=>match Nat.ble (a+i.size) r.length,pr (o.drop q.toNat) a i.size with
    |true,some l=>some (.agg (l.map (·.2)),.q b gen:: .q (Y h m).size n:: .p (d[k]? =some r)::nZ k l,e)
    |_,_=>none
   |_,_,_=>none
  |_=>none
 |some i,.cd id gen n k a,.nat _:: .row r::e=>match H id with
  |some (.av h m b d o)=>match i.u.agg,r[a]?,(Y h m).dv a with
   |false,some c,none=>some (.t c,.q b gen:: .q (Y h m).size n:: .p (d[k]? =some r)::oe k a o,e)
   |_,_,_=>none
  |_=>none
 |_,_,_=>none
def Aj(d:List (Nat×bM))(t:TypeId)(k:Nat)(v:V)(e:List bV):fK:=
 match cT d t with
 |none=>none
 |some i=>match i.u with
  | .struct h=>match h[k]? with
   |none=>none
   |some a=>match cT d a.1 with
    |none=>none
    |some j=>match v with
     | .agg b=>match j.u.agg with
      |true=>match Nat.ble (a.2+j.size) b.length with
       |true=>some (.agg ((b.drop a.2).take j.size),[],e)
       |false=>none
      |false=>match b[a.2]? with
       |some c=>some (c,[],e)
       |none=>none
     |_=>none
  |_=>none
def zb(l:List (Nat×bM))(H:Nat->Option E)(t:TypeId)(k:Nat)(v:V)(d:List bV):fK:=
 match cT l t with
 |none=>none
 |some i=>match i.u with
  | .struct m=>match m[k]? with
   |none=>none
   |some a=>match cT l a.1 with
    |none=>none
    |some j=>match Nat.beq j.size 0 with
     |true=>none
     |false=>match v with
      | .ref id c=>some (.ref id (c+a.2),[],d)
      | .aP cs=>some (.aP (cs.drop a.2),[],d)
      | .cd id gen e n c=>match H id with
       |some (.arr _ b h _)=>some (.cd id gen e n (c+a.2),[.q b gen,.q h e],d)
       |some (.av _ _ b _ _)=>some (.cd id gen e n (c+a.2),[.q b gen],d)
       |_=>none
      |_=>none
  |_=>none
def Ai(l:List (Nat×bM))(H:Nat->Option E)(t:TypeId)(v w:V)(d:List bV):fK:=
 match cT l t with
 |none=>none
 |some i=>match i.u with
  | .slice e=>match cT l e with
   |none=>none
   |some j=>match v,w with
    | .t (.aa h),.t (.int .i64 n)=>match d with
     | .row r::d=>match Nat.beq r.length j.size with
      |true=>some (.aP r,[.p (aH h n=some r)],d)
      |false=>none
     |_=>none
    | .aN id gen a c len,.t (.int .i64 n)=>match H id,Nat.beq a j.size with
     |some (.arr _ b o _),true=>some (.cd id gen a (c+n.toNat) 0,[.q b gen,.q o a,.p (0<=n/\n<(len:Int))],d)
     |some (.av _ _ b _ _),true=>some (.cd id gen a (c+n.toNat) 0,[.q b gen,.p (0<=n/\n<(len:Int))],d)
     |_,_=>none
    |_,_=>none
  | .array m e=>match cT l e with
   |none=>none
   |some j=>match v,w,d with
    | .ref id c,.t (.int .i64 n),.nat k::d=>match Nat.ble (k+1) m with
     |true=>some (.ref id (c+k*j.size),[.p (n=(k:Int))],d)
     |false=>none
    |_,_,_=>none
  |_=>none
def rN:Option bM->Bool
 |some i=>match i.u with
  | .string=>true
  |_=>false
 |none=>false
def rV:Option bM->Bool
 |some i=>match i.u with
  | .slice _=>true
  |_=>false
 |none=>false
def z6(d:List (Nat×bM))(e:BinOp)(t:TypeId)(v w:V)(c:List bV):fK:=
 match rV (cT d t),v,w,e,c with
 |true,.t (.aa a),.t .en,.eql,.b false::c=>some (.t (.bool false),[.p (a≠[])],c)
 |_,_,_,_,_=>none
def za(c:List (Nat×bM))(t:TypeId)(v w:V)(a:List bV):fK:=
 match rN (cT c t),v,w,a with
 |true,.t (.str l),.t (.int .i64 n),.y b::a=>some (.t (.int .u8 (b.toNat:Nat)),[.p (aH l n=some b)],a)
 |_,_,_,_=>none
def oa(d e:Option Operand)(c:Nat)(h:List V):Option (Int×Int):=
 match d,e,h with
 |some _,some _,[.t (.int .i64 a),.t (.int .i64 b)]=>some (a,b)
 |some _,none,[.t (.int .i64 a)]=>some (a,(c:Int))
 |none,some _,[.t (.int .i64 b)]=>some (0,b)
 |_,_,_=>none
def y9(n:List (Nat×bM))(H:Nat->Option E)(t:TypeId)(w x:Option Operand)(s:List V)(h:List bV):fK:=
 match s with
 | .t (.str l)::v=>match rN (cT n t),oa w x l.length v,h with
  |true,some (a,b),.str r::h=>some (.t (.str r),[.p (sub l a b=some r)],h)
  |_,_,_=>none
 | .t (.aa d)::v=>match cT n t with
  |none=>none
  |some i=>match i.u with
   | .slice e=>match cT n e,oa w x d.length v,h with
    |some j,some (a,b),.rows r::h=>some (.t (.aa r),[.p (sub d a b=some r),.p (Rows j.size d)],h)
    |_,_,_=>none
   |_=>none
 | .aN id gen c k len::v=>match cT n t,(H id).bind E.gen? with
  |some i,some z=>match i.u with
   | .slice e=>match cT n e,oa w x len v,h with
    |some j,some (a,b),.nat o:: .nat m::h=>some (.aN id gen c o m,[.q z gen,.q c j.size,.p (0<=a/\a<=b/\b<=len/\(a=0\/a<len)/\o=k+a.toNat/\m=b.toNat-a.toNat)],h)
    |some _,some (a,b),.int 0::h=>some (.t (.aa []),[.q z gen,.p (0<=a/\a=b/\b<=len)],h)
    |some j,some (a,b),.int 1:: .nat o:: .nat m::h=>match H id with
     |some (.arr _ A y d)=>some (.aN id gen c o m,[.q A gen,.q y c,.q c j.size,.p (0<c/\0<=a/\a<b/\k+b<=d.length/\o=k+a.toNat/\m=b.toNat-a.toNat)],h)
     |_=>none
    |_,_,_=>none
   |_=>none
  |_,_=>none
 |_=>none
def y1(h:List (Nat×bM))(H:Nat->Option E)(t:TypeId)(d:List V)(k:List bV):fK:=
 match d with
 | [.aN id gen _ _ len,.t (.int .i64 a),.t (.int .i64 b),.t (.int .i64 c)]=>match cT h t,(H id).bind E.gen? with
  |some i,some l=>match i.u with
   | .slice e=>match cT h e with
    |some _=>some (.ct,[.q l gen,.p (0<=a/\a<=b/\b<=c/\c<=len)],k)
    |none=>none
   |_=>none
  |_,_=>none
 |_=>none
def zR(k:List (Nat×bM))(t:TypeId)(d:List V)(h:List bV):fK:=
 match d,h with
 | [.t (.aa a),.t (.int .i64 b),.t (.int .i64 c)],.rows r::h=>match cT k t with
  |some i=>match i.u with
   | .slice e=>match cT k e with
    |some j=>some (.t (.aa r),[.p (sub a 0 b=some r/\c=b),.p (Rows j.size a)],h)
    |none=>none
   |_=>none
  |none=>none
 |_,_=>none
def Af(e:List (Nat×bM))(H:Nat->Option E)(t:TypeId)(v:V)(b:List bV):fK:=
 match v,b with
 | .t (.str l),b=>match rN (cT e t) with
  |true=>some (.t (.int .i64 (l.length:Nat)),[],b)
  |false=>none
 | .t (.aa c),.nat n::b=>match rV (cT e t) with
  |true=>some (.t (.int .i64 (n:Nat)),[.p (c.length=n)],b)
  |false=>none
 | .aN id gen d _ len,.nat n::b=>match H id,rV (cT e t) with
  |some (.arr _ a h _),true=>some (.t (.int .i64 (n:Nat)),[.q a gen,.q h d,.p (len=n)],b)
  |some (.av _ _ a _ _),true=>some (.t (.int .i64 (n:Nat)),[.q a gen,.p (len=n)],b)
  |_,_=>none
 |_,_=>none
def yw(h:List (Nat×bM))(H:Nat->Option E)(b:Builtin)(c:List TypeId)(i:List Operand)(a:List V)(d:List bV):fK:=
 match b,c,i,a with
 | .len,[t],[_],[v]=>Af h H t v d
 | .max,_,[_,_],[.t (.int k m),.t (.int e n)]=>if k=e then some (.t (.int k (max m n)),[],d) else none
 | .min,_,[_,_],[.t (.int k m),.t (.int e n)]=>if k=e then some (.t (.int k (min m n)),[],d) else none
 |_,_,_,_=>none
def Ad(H:Nat->Option E)(v:V)(a:List bV):fK:=
 match v with
 | .cd id gen _ _ _=>match (H id).bind E.gen? with
  |some b=>some (v,[.q b gen],a)
  |none=>none
 | .ref _ _=>some (v,[],a)
 | .aP _=>some (v,[],a)
 | .fn _ _=>some (v,[],a)
 |_=>none
def zd(c:List (Nat×bM))(t:TypeId)(b:List Nat)(a:List V)(d:List bV):fK:=
 match cT c t with
 |none=>none
 |some i=>match i.u with
  | .struct _=>match (fv i.z).val,Nat.beq b.length a.length,iu (i.places[·]?) (fv i.z).cs (b.zip a) with
   |true,true,some cs=>some (.agg cs,[],d)
   |_,_,_=>none
  |_=>none
def sc(P:Program)(h:List (Nat×bM))(H:Nat->Option E)(l:Op)(a:List V)(e:List bV):fK:=
 match l with
 | .move _=>match a with
  | [v]=>some (v,[],e)
  |_=>none
 | .assign _=>match a with
  | [v]=>some (v,[],e)
  |_=>none
 | .pick _ _ _=>match a,e with
  | [.t (.bool b),v,w],.b c::e=>some (bif c then v else w,[.p (b=c)],e)
  |_,_=>none
 | .load t _=>match a with
  | [v]=>match pC h H t v e with
   |some r=>some r
   |none=>y' h H t v e
  |_=>none
 | .nilCheck _=>match a with
  | [v]=>Ad H v e
  |_=>none
 | .binOp o t x y _=>match a with
  | [v,w]=>match Al P h o t v w e with
   |some r=>some r
   |none=>match Ah h o t x y v w e with
    |some r=>some r
    |none=>z6 h o t v w e
  |_=>none
 | .unOp o _ _=>match a with
  | [v]=>Aq o v e
  |_=>none
 | .convert s d _=>match a with
  | [v]=>zQ h s d v e
  |_=>none
 | .makeFunc m first _=>match m,first.toList with
  | .func f,[]=>some (.fn f a,[],e)
  |_,_=>none
 | .slice t _ bg i kb=>match kb with
  |none=>y9 h H t bg i a e
  |some _=>match bg,i with
   |some _,some _=>y1 h H t a e
   |none,some _=>zR h t a e
   |_,_=>none
 | .fieldAddr t _ k=>match a with
  | [v]=>zb h H t k v e
  |_=>none
 | .field t _ k=>match a with
  | [v]=>Aj h t k v e
  |_=>none
 | .indexAddr t _ _=>match a with
  | [v,w]=>Ai h H t v w e
  |_=>none
 | .index t _ _=>match a with
  | [v,w]=>za h t v w e
  |_=>none
 | .extract _ k=>match a with
  | [.bG n]=>match n[k]? with
   |some v=>some (v,[],e)
   |none=>none
  |_=>none
 | .build t q=>zd h t (q.toList.map (·.1)) a e
 | .call c=>match c.callee with
  | .builtin b=>yw h H b c.argTypes.toList c.args.toList a e
  |_=>none
 |_=>none
end Go.Lift
