/- Tools. -/
import Derived.Test.YtlbojjldejlgaaaGreatXLiftAB
import Derived.Laws.BitsAllLaws
import Derived.Laws.BytesArg
import Derived.Laws.StructEq
namespace Go.Lift
open Go
section
variable {W β:Map}{w:World}{X:Nat->Prop}{i m k b n:Nat}{a:Act}{l:List de}{hs:List (Nat×Nat×V)}
theorem re{c:List de}{gen:Nat}{a:List (List T)}{Y:List (Nat×Nat×V)}(h:b4 W w X i (.aw c m gen a Y)): ∃q,W i=some (q,gen):=by
 rcases h.2 with ⟨e,_⟩|⟨b,k,_,e,_⟩
 ·exact⟨_,e⟩
 exact⟨_,e⟩
def Map.drop(a:Map)(k:Nat):Map:=⟨a.f,λid b=>id≠k/\a.n id b⟩
theorem lg(h:At (W.drop k) i b):At W i b:=by
 rcases h with h|h
 ·exact .inl h
 exact .inr h.2
theorem Rel.drop{K:Ctx}{s:S}(h:Rel K β s a w)(k:Nat)(e':E)(v:s.H k≠none)
  (A:b4 (β.drop k) w (own K (β.drop k) (aE s.H k (some e'))) k e'):Rel K (β.drop k) {s with H:=aE s.H k (some e')} a w:=by
 have l: ∀b,own K (β.drop k) (aE s.H k (some e')) b->own K β s.H b:=by
  rintro b (c|⟨id,m,o⟩)
  ·exact .inl c
  refine .inr ⟨id,λp=>?_,lg o⟩;by_cases n:id=k
  ·subst n;exact v p
  rw[bu _ _ _ _ n] at m;exact m p
 have x:cJ β (β.drop k):=λ_ _ _ c=> .inl c;refine {h with base:=λid hid=>h.base id hid,cU:=λid hid=>h.cU id hid,dt:=λid b hid q=>h.dt id b hid q.2,inj:=λid r b m o=>h.inj id r b (lg m) (lg o),fresh:=λid b q=>h.fresh id b (lg q),heap:= ?_,ct:=λi=>(h.ct i).mono (Ext.refl _ _) (λb _=>l b) x (Shaped.refl _ _)};intro id e c;have c:aE s.H k (some e') id=some e:=c;by_cases n:id=k
 ·subst n;rw[bs] at c;cases c;cases y:s.H id with
  |none=>exact a6 y v
  |some p=>exact⟨(h.heap id p y).1,A⟩
 rw[bu _ _ _ _ n] at c;obtain⟨m,o⟩:=h.heap id e c;exact⟨m,o.mono (Ext.refl _ _) (λb _=>l b) x (λ_ h=>h) (Shaped.refl _ _) (λ_ _=>rfl) λb=>⟨λh=>h.2,λh=>⟨n,h⟩⟩⟩
theorem On{K:Ctx}{s:S}(k:Nat){l:TypeId}{gen:Nat}{e:List (List T)}(o:List de)(m:Nat)(y:s.H k=some (.arr l gen n e))(v:(Y o m).ty=l)(A:(Y o m).size=n)
  (B:e=[]\/(Y o m).aJ=[]):s.le K {s with H:=aE s.H k (some (.aw o m gen e []))}:=by
 intro F a w h;refine⟨_,h.drop k (.aw o m gen e []) (by rw[y];simp) ?_⟩;have p:=(h.heap k _ y).2;subst v;subst A;refine⟨p.1,?_⟩;have q: ∀b,own K (F.drop k) (aE s.H k (some (.aw o m gen e []))) b->own K F s.H b:=by
  rintro b (Q|⟨id,v,A⟩)
  ·exact .inl Q
  refine .inr ⟨id,λC=>?_,lg A⟩;by_cases G:id=k
  ·subst G;rw[y] at C;cases C
  rw[bu _ _ _ _ G] at v;exact v C
 rcases p.2 with ⟨ay,a2⟩|⟨b,R,ay,a2,a3,a4,a5⟩
 ·exact .inl ⟨ay,a2,λc r=>r.1 rfl⟩
 refine .inr ⟨b,R,λ_ _ _=>False,ay,a2,a3,a4,λi j D x u L W X=>Cell.of ?_,λ_ _ _ h=>h.elim,λ_ _ _ _ _ h=>h.elim,λc=>⟨λr=>a6 rfl r.1,λ⟨_,_,r⟩=>r.elim⟩⟩;rcases B with rfl|B
 ·simp at L
 have:(Y o m).du j=none:=by unfold de.du;rw[B];rfl
 rw[this];exact .ed _ _ _ ((a5 i j D x u L W X).mono (Ext.refl _ _) λb _=>q b) λ_ h=>h
theorem Oo{K:Ctx}{s:S}(k:Nat){gen:Nat}{e:List (List T)}(y:s.H k=some (.aw l m gen e []))(r:Nat.ble K.cB k=true):
  s.le K {s with H:=aE s.H k (some (.arr (Y l m).ty gen (Y l m).size e))}:=by
 have L:=eb r;intro v a w h;refine⟨_,h.drop k (.arr (Y l m).ty gen (Y l m).size e) (by rw[y];simp) ?_⟩;have o:=(h.heap k _ y).2;have p: ∀b,own K (v.drop k) (aE s.H k (some (.arr (Y l m).ty gen (Y l m).size e))) b->own K v s.H b:=by
  rintro b (q|⟨id,A,n⟩)
  ·exact .inl q
  refine .inr ⟨id,λC=>?_,lg n⟩;by_cases G:id=k
  ·subst G;rw[y] at C;cases C
  rw[bu _ _ _ _ G] at A;exact A C
 refine⟨o.1,?_⟩;rcases o.2 with ⟨ay,a2,_⟩|⟨b,Q,B,ay,a2,a3,a4,a5,g',fz,eQ⟩
 ·exact .inl ⟨ay,a2⟩
 refine .inr ⟨b,Q,ay,a2,a3,a4,λi j D x u R W X=>(a5 i j D x u R W X).none.q4 p ?_⟩;intro c f q;have r:At v k c:= .inr ((eQ c).2 ⟨i,j,f⟩);rcases q with q|⟨id,A,n⟩
 ·obtain⟨N,I⟩:=h.gq c q;rcases(h.fresh k c r).1 with F|M
  ·exact I F
  omega
 have:=h.inj _ _ _ (lg n) r;subst this;rcases n with ⟨g,n⟩|n
 ·have U:v id=some (some c,g):=n
  grind
 exact n.1 rfl
def Map.split(c:Map)(k a:Nat)(q:Option Nat)(N:Nat->Prop):Map:=
 ⟨λi=>bif Nat.beq i a then some (q,1) else c i,λid b=>(id=a/\N b)\/(id=k/\id≠a/\c.n k b/\ ¬N b/\q≠some b)\/(id≠a/\id≠k/\c.n id b)⟩
theorem Fa(h:i≠k):Nat.beq i k=false:=by
 cases a:Nat.beq i k with
 |false=>rfl
 |true=>exact a6 (b9 a) h
theorem td(b:Map)(k a:Nat)(q:Option Nat)(N:Nat->Prop):b.split k a q N a=some (q,1):=by simp[Map.split]
theorem qw(a:Map)(k b:Nat)(q:Option Nat)(N:Nat->Prop)(id:Nat)(h:id≠b):a.split k b q N id=a id:=by simp[Map.split,Fa h]
theorem O5{W:Map}{k L:Nat}{q:Option Nat}{N:Nat->Prop}(o: ∀b,q=some b->W.n k b)(p: ∀b,N b->W.n k b){i b:Nat}(h:At (W.split k L q N) i b):
  (i=L/\W.n k b/\(q=some b\/N b))\/(i≠L/\At W i b/\(i=k->(∃g,W k=some (some b,g))\/(¬N b/\q≠some b))):=by
 rcases h with ⟨g,h⟩|⟨rfl,h⟩|⟨rfl,a,c,l,r⟩|⟨a,c,l⟩
 ·by_cases m:i=L
  ·subst m;rw[td] at h;cases h;exact .inl ⟨rfl,o _ rfl,.inl rfl⟩
  rw[qw _ _ _ _ _ _ m] at h;exact .inr ⟨m,.inl ⟨g,h⟩,λe=> .inl ⟨g,e▸h⟩⟩
 ·exact .inl ⟨rfl,p b h,.inr h⟩
 ·exact .inr ⟨a,.inr c,λ_=> .inr ⟨l,r⟩⟩
 exact .inr ⟨a,.inr l,λe=>a6 e c⟩
theorem Rel.split{K:Ctx}{s:S}(h:Rel K β s a w)(k bz:Nat)(q:Option Nat)(N:Nat->Prop)(p r:E)(Q:s.H k≠none)(G:s.u bz=false)
  (V: ∀b,q=some b->β.n k b/\ ¬N b) (Y: ∀b,N b->β.n k b) (R: ∀b g,β k=some (some b,g)-> ¬β.n k b)
  (Xn:(∀b,own K (β.split k bz q N) (aE (aE s.H k (some p)) bz (some r)) b->own K β s.H b)->b4 (β.split k bz q N) w (own K (β.split k bz q N) (aE (aE s.H k (some p)) bz (some r))) k p)
  (W:(∀b,own K (β.split k bz q N) (aE (aE s.H k (some p)) bz (some r)) b->own K β s.H b)->b4 (β.split k bz q N) w (own K (β.split k bz q N) (aE (aE s.H k (some p)) bz (some r))) bz r):
  Rel K (β.split k bz q N) {t:=s.t,H:=aE (aE s.H k (some p)) bz (some r),u:=aE s.u bz true} a w:=by
 have X:s.u k=true:=by
  cases I:s.H k with
  |none=>exact a6 I Q
  |some L=>exact(h.heap k L I).1
 have hne:k≠bz:=by intro e;subst e;rw[X] at G;cases G
 have v:= @O5 β k bz q N (λb D=>(V b D).1) Y;have o: ∀b,own K (β.split k bz q N) (aE (aE s.H k (some p)) bz (some r)) b->own K β s.H b:=by
  rintro b (l|⟨id,m,F⟩)
  ·exact .inl l
  rcases v F with ⟨_,f,_⟩|⟨f,h4,_⟩
  ·exact .inr ⟨k,Q,.inr f⟩
  refine .inr ⟨id,λL=>?_,h4⟩;rw[bu _ _ _ _ f] at m;by_cases B:id=k
  ·subst B;exact Q L
  rw[bu _ _ _ _ B] at m;exact m L
 have C:=h.cU bz G;have A: ∀id x,β id=some x->β.split k bz q N id=some x:=λid x l=>by
  rw[qw _ _ _ _ _ _ (by intro e;subst e;rw[C] at l;cases l)];exact l
 have M:cJ β (β.split k bz q N):=cJ.of A;refine {h with base:= ?_,low:= ?_,cU:= ?_,dt:= ?_,inj:= ?_,fresh:= ?_,heap:= ?_,ct:=λi=>(h.ct i).mono (Ext.refl _ _) (λb _=>o b) M (Shaped.refl _ _)}
 ·refine h.base.keep λid hid=>qw _ _ _ _ _ _ ?_;intro e;subst e;have:=h.low id hid;rw[G] at this;cases this
 ·intro id hid;show aE s.u bz true id=true;by_cases e:id=bz
  ·subst e;exact bs _ _ _
  rw[bu _ _ _ _ e];exact h.low id hid
 ·intro id hid;have c:aE s.u bz true id=false:=hid;by_cases e:id=bz
  ·subst e;rw[bs] at c;cases c
  rw[bu _ _ _ _ e] at c;rw[qw _ _ _ _ _ _ e];exact h.cU id c
 ·intro id b hid D;have c:aE s.u bz true id=false:=hid;have e:id≠bz:=by intro e;subst e;rw[bs] at c;cases c
  rw[bu _ _ _ _ e] at c;rcases D with ⟨m,_⟩|⟨rfl,_,m,_⟩|⟨_,_,m⟩
  ·exact e m
  ·exact h.dt _ b c m
  exact h.dt id b c m
 ·intro id hP b m F;rcases v m with ⟨rfl,ay,a2⟩|⟨ay,a2,a3⟩<;>rcases v F with ⟨T,U,j⟩|⟨U,j,c3⟩
  ·exact T.symm
  ·have:=h.inj _ _ b (.inr ay) j
   grind
  ·subst T
   have:=h.inj _ _ b (.inr U) a2
   grind
  exact h.inj _ _ b a2 j
 ·intro id b D;rcases v D with ⟨_,ay,_⟩|⟨_,a2,_⟩
  ·exact h.fresh k b (.inr ay)
  exact h.fresh id b a2
 intro id e l;have l:aE (aE s.H k (some p)) bz (some r) id=some e:=l;show aE s.u bz true id=true/\b4 _ w (own K _ (aE (aE s.H k (some p)) bz (some r))) id e;by_cases B:id=bz
 ·subst B;rw[bs] at l;cases l;exact⟨bs _ _ _,W o⟩
 rw[bu _ _ _ _ B] at l⊢;by_cases y:id=k
 ·subst y;rw[bs] at l;cases l
  grind
 rw[bu _ _ _ _ y] at l;obtain⟨m,F⟩:=h.heap id e l;exact⟨m,F.mono (Ext.refl _ _) (λb _=>o b) M (A id) (Shaped.refl _ _) (λ_ _=>rfl) (λb=>⟨λh=>by
  rcases h with ⟨h,_⟩|⟨h,_⟩|⟨_,_,h⟩
  ·exact a6 h B
  ·exact a6 h y
  exact h,λh=> .inr (.inr ⟨B,y,h⟩)⟩)⟩
def ng(j:Nat):List (Nat×Nat×V)->Bool
 | []=>true
 |h::a=> !(Nat.beq h.2.1 j)&&ng j a
theorem wP{j:Nat}: ∀{a:List (Nat×Nat×V)},ng j a=true-> ∀i v,(i,j,v)∉a
 | [],_,_,_,h=>by cases h
 |h::a,b,i,v,hm=>by
  simp only[ng,Bool.and_eq_true,Bool.not_eq_true'] at b;rcases dy.1 hm with rfl|hm
  ·simp at b
  exact wP b.2 i v hm
theorem NB{K:Ctx}{s:S}(k bz i j R:Nat){r:List de}{gen:Nat}{y:List (List T)}{W:List T}{l:List (List T)}{U:List (Nat×Nat×V)}(hk:s.H k=some (.aw r m gen y U))(hu:s.u bz=false)
  (aG:y[i]? =some W) (hj:W[j]? =some (.aa l)) (hm:(Y r m).du j=some R) (f: ∀v,(i,j,v)∉U):
  s.le K {t:=s.t,H:=aE (aE s.H k (some (.aw r m gen y ((i,j,.aM bz 1 (Y r R).size 0 l.length)::U)))) bz (some (.aw r R 1 l [])),u:=aE s.u bz true}:=by
 intro I a w h;have AQ:=(h.heap k _ hk).1;have F:k≠bz:=by intro e;subst e;rw[AQ] at hu;cases hu
 have fL:=(h.heap k _ hk).2;rcases fL.2 with ⟨ay,a2,_⟩|⟨b,us,B,ay,a2,a3,a4,a5,g',fz,eQ⟩
 ·rw[a2] at aG;simp at aG
 have hlt:=(bt.1 aG).1;have hjs:j<(Y r m).size:=by rw[<-a4 W (bB aG)];exact(bt.1 hj).1
 have M:i*(Y r m).size+j<us.size:=by
  have:(i+1)*(Y r m).size<=y.length*(Y r m).size:=dn _ hlt
  grind
 have p:=(a5 i j W _ us[i*(Y r m).size+j] aG hj (fW M)).2 λv=>f v;rw[hm] at p;have G: ∀c g,I k=some (some c,g)-> ¬I.n k c:=by
  grind
 generalize T5:us[i*(Y r m).size+j]=Cz at p
 -- the cell's value under the new map, and the rest of the rows
 have L: ∀(q:Option Nat) (N:Nat->Prop),(∀c,B i j c↔(q=some c\/N c))->(∀(X:Nat->Prop),aQ (I.split k bz q N) w X (.aM bz 1 (Y r R).size 0 l.length) Cz)->
   ∀X,(∀c,X c->own K I s.H c)->b4 (I.split k bz q N) w X k (.aw r m gen y ((i,j,.aM bz 1 (Y r R).size 0 l.length)::U)):=by
  intro q N fv bG X e7;have hm':cJ I (I.split k bz q N):=cJ.of (λid x hx=>by
   have:id≠bz:=by intro e;subst e;rw[h.cU _ hu] at hx;cases hx
   rw[qw _ _ _ _ _ _ this];exact hx)
  refine⟨fL.1,.inr ⟨b,us,λA C c=>B A C c/\ ¬(A=i/\C=j),by rw[qw _ _ _ _ _ _ F];exact ay,a2,a3,a4,λA C D x u cD b0 eR=>⟨λv A6=>?_,λcj=>?_⟩,
   λA C c f=>g' A C c f.1,λi1 Bf i2 vB c h1 h2=>fz _ _ _ _ c h1.1 h2.1,λc=>?_⟩⟩
  ·rcases dy.1 A6 with e|A6
   ·simp only[Prod.mk.injEq] at e;obtain⟨rfl,rfl,rfl⟩:=e
    have:u=Cz:=by
     rw[<-T5];rw[fW M] at eR;exact(Option.some.inj eR).symm
    subst this;exact⟨bG X,λc f=>f.2 ⟨rfl,rfl⟩⟩
   obtain⟨c1,c2⟩:=(a5 A C D x u cD b0 eR).1 v A6;exact⟨c1.mono (Ext.refl _ _) (λc _=>e7 c) hm' (Shaped.refl _ _),λc hx=>c2 c hx.1⟩
  ·have UJ: ¬(A=i/\C=j):=by rintro⟨rfl,rfl⟩;exact cj _ ev
   exact(((a5 A C D x u cD b0 eR).2 λv bG=>cj v (dV _ bG)).mono (Ext.refl _ _) (λc _=>e7 c) λ_ _=>rfl).iff λc=>⟨λh=>h.1,λh=>⟨h,UJ⟩⟩
  constructor
  ·rintro(⟨h1,_⟩|⟨_,_,h1,h2,h3⟩|⟨_,h1,_⟩)
   ·exact a6 h1 F
   ·obtain⟨A,C,Q⟩:=(eQ c).1 h1;refine⟨A,C,Q,?_⟩;rintro⟨rfl,rfl⟩;rcases(fv c).1 Q with h4|h4
    ·exact h3 h4
    exact h2 h4
   exact a6 rfl h1
  rintro⟨A,C,Q,cj⟩;refine .inr (.inl ⟨rfl,F,(eQ c).2 ⟨A,C,Q⟩,λh4=>?_,λh4=>?_⟩)
  ·exact cj (fz _ _ _ _ c Q ((fv c).2 (.inr h4)))
  exact cj (fz _ _ _ _ c Q ((fv c).2 (.inl h4)))
 generalize GM:B i j=W' at p L;cases p with
 |nil _ _ gR=>
  refine⟨_,h.split k bz none (λ_=>False) _ (.aw r R 1 [] []) (by rw[hk];simp) hu (λb Q=>by cases Q) (λ_ h=>h.elim) G (λo=>L none (λ_=>False) (λc=>⟨λh=>a6 h (gR c),λh=>by rcases h with h|h;cases h;exact h.elim⟩)
   (λX=> .fy bz 1 _ (cL _) (td _ _ _ _ _)) _ o) λo=>⟨cL _,.inl ⟨td _ _ _ _ _,rfl,λc f=>?_⟩⟩⟩
  rcases f with ⟨_,h⟩|⟨h,_⟩|⟨h,_⟩
  ·exact h
  ·exact F h.symm
  exact h rfl
 |own _ _ b0 cap nA nR _ hw U AW cc jh bH fv cy gR=>
  have oF:I.n k b0:=(eQ b0).2 ⟨i,j,by rw[GM];exact(gR b0).2 (.inl rfl)⟩;refine⟨_,h.split k bz (some b0) (λc=> ∃i j,nR i j c) _ (.aw r R 1 l []) (by rw[hk];simp) hu (λb Q=>by cases Q;exact⟨oF,λ⟨A,C,jQ⟩=>(fv A C _ jQ).2.2 rfl⟩)
   (λc f=>(eQ c).2 ⟨i,j,by rw[GM];exact(gR c).2 (.inr f)⟩) G
   (λo=>L (some b0) (λc=> ∃i j,nR i j c) (λc=>⟨λh=>by rcases(gR c).1 h with h|h;exact .inl (by rw[h]);exact .inr h,λh=>(gR c).2 (by rcases h with h|h;cases h;exact .inl rfl;exact .inr h)⟩)
    (λX=>?_) _ o) λo=>⟨cL _,.inr ⟨b0,nA,nR,td _ _ _ _ _,hw,by rw[U];exact dn _ cc,jh,λA C D x u c1 c2 c3=>Cell.of ((bH A C D x u c1 c2 c3).mono (Ext.refl _ _) (λc _=>o c) λ_ _=>rfl),fv,cy,λc=>?_⟩⟩⟩
  ·have:=aQ.aM (β:=I.split k bz (some b0) λc=> ∃i j,nR i j c) (w:=w) (X:=X) bz 1 (Y r R).size 0 l.length cap b0 nA.size (Y r R).ty (cL _) (td _ _ _ _ _) (gn.1 hw).1 (by unfold World.shape?;rw[hw]) (by rw[dm];exact U.symm) cc AW;rw[fc] at this;exact this
  constructor
  ·rintro(⟨_,h⟩|⟨h,_⟩|⟨h,_⟩)
   ·exact h
   ·exact a6 h.symm F
   exact a6 rfl h
  intro h;exact .inl ⟨rfl,h⟩
def Map.merge(a:Map)(k c gen:Nat):Map:=
 ⟨λi=>bif Nat.beq i c then some (none,gen+1) else a i,λid b=>(id=k/\(a.n k b\/At a c b))\/(id≠k/\id≠c/\a.n id b)⟩
theorem DV(b:Map)(k a gen:Nat):b.merge k a gen a=some (none,gen+1):=by simp[Map.merge]
theorem qx(a:Map)(k b gen id:Nat)(h:id≠b):a.merge k b gen id=a id:=by simp[Map.merge,Fa h]
theorem O0{W:Map}{k i gen n b:Nat}(a:k≠i)(h:At (W.merge k i gen) n b):n≠i/\(At W n b\/(n=k/\At W i b)):=by
 rcases h with ⟨g,h⟩|⟨rfl,h⟩|⟨m,e,l⟩
 ·by_cases c:n=i
  ·subst c;rw[DV] at h;cases h
  rw[qx _ _ _ _ _ c] at h;exact⟨c,.inl (.inl ⟨g,h⟩)⟩
 ·rcases h with h|h
  ·exact⟨a,.inl (.inr h)⟩
  exact⟨a,.inr ⟨rfl,h⟩⟩
 exact⟨e,.inl (.inr l)⟩
theorem Rel.merge{K:Ctx}{s:S}(h:Rel K β s a w)(k c gen:Nat)(q:Option Nat)(v:E)(f:s.H k≠none)(C:s.H c≠none)(Q:k≠c)(I:K.cB<=c)(M:β c=some (q,gen))(N:1<=gen)
  (T:(∀b,own K (β.merge k c gen) (aE (aE s.H c none) k (some v)) b->own K β s.H b)->cJ β (β.merge k c gen)->b4 (β.merge k c gen) w (own K (β.merge k c gen) (aE (aE s.H c none) k (some v))) k v):
  Rel K (β.merge k c gen) {t:=s.t,H:=aE (aE s.H c none) k (some v),u:=s.u} a w:=by
 have R:s.u c=true:=by
  cases D:s.H c with
  |none=>exact a6 D C
  |some A=>exact(h.heap c A D).1
 have F:s.u k=true:=by
  cases D:s.H k with
  |none=>exact a6 D f
  |some A=>exact(h.heap k A D).1
 have o:=fun {id b}=> @O0 β k c gen id b Q;have r: ∀b,own K (β.merge k c gen) (aE (aE s.H c none) k (some v)) b->own K β s.H b:=by
  rintro b (m|⟨id,B,G⟩)
  ·exact .inl m
  obtain⟨W,y|⟨rfl,y⟩⟩:=o G
  ·refine .inr ⟨id,λA=>?_,y⟩;by_cases n:id=k
   ·subst n;exact f A
   rw[bu _ _ _ _ n,bu _ _ _ _ W] at B;exact B A
  exact .inr ⟨c,C,y⟩
 have j:cJ β (β.merge k c gen):=by
  intro id Y g1 m;by_cases n:id=c
  ·subst n;rw[M] at m;cases m;exact .inr ⟨N,none,gen+1,DV _ _ _ _,lx _⟩
  exact .inl (by rw[qx _ _ _ _ _ n];exact m)
 refine {h with base:= ?_,cU:= ?_,dt:= ?_,inj:= ?_,fresh:= ?_,heap:= ?_,ct:=λi=>(h.ct i).mono (Ext.refl _ _) (λb _=>r b) j (Shaped.refl _ _)}
 ·exact h.base.keep λid hid=>qx _ _ _ _ _ O
 ·intro id hid;have l:s.u id=false:=hid;rw[qx _ _ _ _ _ (by intro e;subst e;rw[R] at l;cases l)];exact h.cU id l
 ·intro id b hid X;have l:s.u id=false:=hid;rcases X with ⟨rfl,_⟩|⟨_,_,W⟩
  ·rw[F] at l;cases l
  exact h.dt id b l W
 ·intro id U b B G;obtain⟨ay,a2|⟨rfl,a2⟩⟩:=o B<;>obtain⟨V,L|⟨rfl,L⟩⟩:=o G
  ·exact h.inj _ _ b a2 L
  ·exact a6 (h.inj _ _ b a2 L) ay
  ·exact a6 (h.inj _ _ b L a2) V
  rfl
 ·intro id b X;obtain⟨_,y|⟨_,y⟩⟩:=o X
  ·exact h.fresh id b y
  exact h.fresh c b y
 intro id e m;have m:aE (aE s.H c none) k (some v) id=some e:=m;show s.u id=true/\b4 _ w (own K _ (aE (aE s.H c none) k (some v))) id e;by_cases n:id=k
 ·subst n;rw[bs] at m;cases m
  grind
 rw[bu _ _ _ _ n] at m;by_cases p:id=c
 ·subst p;rw[bs] at m;cases m
 rw[bu _ _ _ _ p] at m;obtain⟨B,G⟩:=h.heap id e m;exact⟨B,G.mono (Ext.refl _ _) (λb _=>r b) j (λx m=>by rw[qx _ _ _ _ _ p];exact m) (Shaped.refl _ _) (λ_ _=>rfl) (λb=>⟨λh=>by
  rcases h with ⟨h,_⟩|⟨_,_,h⟩
  ·exact a6 h n
  exact h,λh=> .inr ⟨n,p,h⟩⟩)⟩
theorem Lj{K:Ctx}{s:S}(k F i j m2 jc z n:Nat){D:List de}{gen:Nat}{p:List (List T)}{o:List T}{l:List (List T)}(hk:s.H k=some (.aw D m gen p ((i,j,.aM F jc z 0 n)::hs)))
  (lS:s.H F=some (.aw D m2 jc l [])) (da:z=(Y D m2).size) (cj:n=l.length) (hne:k≠F) (jT:Nat.ble K.cB F=true) (aG:p[i]? =some o) (hm:(Y D m).du j=some m2) (AO:Nat.blt j (Y D m).size=true) (bj: ∀v,(i,j,v)∉hs):
  s.le K {t:=s.t,H:=aE (aE s.H F none) k (some (.aw D m gen (p.set i (o.set j (.aa l))) hs)),u:=s.u}:=by
 subst da;subst cj;intro M a w h;have jT:=eb jT;obtain⟨q,cH⟩:=re (h.heap F _ lS).2;have fL:=(h.heap k _ hk).2;have Q:=(h.heap F _ lS).2;refine⟨_,h.merge k F jc q (.aw D m gen (p.set i (o.set j (.aa l))) hs) (by rw[hk];simp) (by rw[lS];simp) hne jT cH Q.1 λR hm'=>⟨fL.1,?_⟩⟩;rcases fL.2 with ⟨ay,a2,_⟩|⟨b,us,B,ay,a2,a3,a4,a5,g',fz,eQ⟩
 ·rw[a2] at aG;simp at aG
 have N:=(bt.1 aG).1
 -- the blocks of the slice
 have U:At M k b:= .inl ⟨_,ay⟩;have Ux: ∀(u:Value),aQ M w (own K M s.H) (.aM F jc (Y D m2).size 0 l.length) u->
   eK D w (own K (M.merge k F jc) (aE (aE s.H F none) k (some (.aw D m gen (p.set i (o.set j (.aa l))) hs)))) (some m2) (.aa l) u (λc=>At M F c):=by
  intro u hu;rcases eh hu cH with ⟨cap,b0,n2,gl,rfl,hc,hw,fw,sn,cc,AW⟩|⟨hc,_,h0,rfl⟩
  ·subst hc;rcases Q.2 with ⟨c1,_⟩|⟨eR,nA,nR,c1,c2,c3,c4,c5,Af,rY,p2⟩
   ·rw[cH] at c1;cases c1
   rw[cH] at c1;cases c1;rw[fc];have A5:nA.size=cap*(Y D m2).size:=by
    unfold World.shape? at fw;rw[c2] at fw;simp at fw;rw[fw.2,<-sn,dm]
   refine .own m2 l b0 cap nA nR _ c2 A5 AW cc c4 (λy A W x u d1 d2 d3=>(c5 y A W x u d1 d2 d3).none.mono (Ext.refl _ _) (λc _=>R c) λ_ _=>rfl) Af rY λc=>⟨?_,?_⟩
   ·rintro(⟨g,bE⟩|bE)
    ·rw[cH] at bE;cases bE;exact .inl rfl
    exact .inr ((p2 c).1 bE)
   rintro(rfl|bE)
   ·exact .inl ⟨_,cH⟩
   exact .inr ((p2 c).2 bE)
  subst hc
  have:l=[]:=iQ h0;subst this;refine .nil m2 _ λc bj=>?_;rcases bj with ⟨g,bE⟩|bE
  ·rw[cH] at bE;cases bE
  rcases Q.2 with ⟨_,_,c3⟩|⟨eR,nA,nR,c1,_⟩
  ·exact c3 c bE
  rw[cH] at c1;cases c1
 have X: ∀c,At M F c-> ¬At M k c:=λc C L=>hne (h.inj _ _ c L C);have GH: ∀y A c,B y A c->At M k c:=λy A c bj=> .inr ((eQ c).2 ⟨y,A,bj⟩);have hjs: ∀(x:T),o[j]? =some x->j<(Y D m).size:=λx hx=>by rw[<-a4 o (bB aG)];exact(bt.1 hx).1
 have hrl:o.length=(Y D m).size:=a4 o (bB aG);by_cases f:j<o.length
 ·have vu:i*(Y D m).size+j<us.size:=by
   have:(i+1)*(Y D m).size<=p.length*(Y D m).size:=dn _ N;rw[dM] at this;omega
  have AK:=a5 i j o o[j] us[i*(Y D m).size+j] aG (bg f) (fW vu);obtain⟨Va,TW⟩:=AK.1 _ ev;refine .inr ⟨b,us,λy A c=>B y A c\/(y=i/\A=j/\At M F c),by rw[qx _ _ _ _ _ hne];exact ay,a2,by simpa using a3,?_,?_,?_,?_,?_⟩
  ·intro r bH;rcases nC bH with bH|rfl
   ·exact a4 r bH
   simpa using hrl
  ·intro y A W x u cD b0 eR;by_cases mQ:y=i/\A=j
   ·obtain⟨rfl,rfl⟩:=mQ;rw[hU N] at cD;cases cD;rw[hU f] at b0;cases b0;rw[fW vu] at eR;cases eR;refine⟨λv bG=>a6 bG (bj v),λ_=>?_⟩;rw[hm];refine(Ux _ Va).iff λc=>⟨λh=>?_,λh=> .inr ⟨rfl,rfl,h⟩⟩
    rcases h with h|⟨_,_,h⟩
    ·exact a6 h (TW c)
    exact h
   have hold: ∃G iv,p[y]? =some G/\G[A]? =some iv/\iv=x:=by
    by_cases sk:y=i
    ·subst sk;rw[hU N] at cD;cases cD;rw[jw (by intro e;exact mQ ⟨rfl,e.symm⟩)] at b0;exact⟨o,x,aG,b0,rfl⟩
    rw[jw (jx sk)] at cD;exact⟨W,x,cD,b0,rfl⟩
   obtain⟨G,iv,d1,d2,rfl⟩:=hold;have lR:=a5 y A G iv u d1 d2 eR;have G5: ∀c,(B y A c\/(y=i/\A=j/\At M F c))↔B y A c:=λc=>⟨λh=>by
    rcases h with h|⟨C,L,_⟩
    ·exact h
    exact a6 ⟨C,L⟩ mQ,.inl⟩
   refine⟨λv bG=>?_,λcj=>?_⟩
   ·obtain⟨C,L⟩:=lR.1 v (dV _ bG);exact⟨C.mono (Ext.refl _ _) (λc _=>R c) hm' (Shaped.refl _ _),λc hx=>L c ((G5 c).1 hx)⟩
   refine((lR.2 λv bG=>?_).mono (Ext.refl _ _) (λc _=>R c) λ_ _=>rfl).iff G5;rcases dy.1 bG with e|bG
   ·cases e;exact mQ ⟨rfl,rfl⟩
   exact cj v bG
  ·intro y A c I;rcases I with I|⟨rfl,rfl,I⟩
   ·simpa using g' y A c I
   refine⟨by simpa using N,O,λe=>?_⟩;subst e;exact X c I U
  ·intro i1 Bf i2 vB c C L;rcases C with C|⟨rfl,rfl,C⟩<;>rcases L with L|⟨rfl,rfl,L⟩
   ·exact fz _ _ _ _ c C L
   ·exact a6 (GH _ _ c C) (X c L)
   ·exact a6 (GH _ _ c L) (X c C)
   exact⟨rfl,rfl⟩
  intro c;constructor
  ·rintro(⟨_,C|C⟩|⟨C,_⟩)
   ·obtain⟨y,A,I⟩:=(eQ c).1 C;exact⟨y,A,.inl I⟩
   ·exact⟨i,j,.inr ⟨rfl,rfl,C⟩⟩
   exact a6 rfl C
  rintro⟨y,A,I|⟨_,_,I⟩⟩
  ·exact .inl ⟨rfl,.inl ((eQ c).2 ⟨y,A,I⟩)⟩
  exact .inl ⟨rfl,.inr I⟩
 exact a6 (by rw[hrl];simpa[Nat.blt_eq] using AO) f
theorem Rel.BK{K:Ctx}{s:S}(h:Rel K β s a w)(k:Nat)(e e':E)(q:s.H k=some e)(r:b4 β w (own K β s.H) k e->b4 β w (own K β s.H) k e'):
  Rel K β {s with H:=aE s.H k (some e')} a w:=by
 have c: ∀b,own K β (aE s.H k (some e')) b->own K β s.H b:=by
  rintro b (l|⟨id,m,n⟩)
  ·exact .inl l
  refine .inr ⟨id,λp=>?_,n⟩;by_cases o:id=k
  ·subst o;rw[q] at p;cases p
  rw[bu _ _ _ _ o] at m;exact m p
 refine {h with heap:= ?_,ct:=λi=>(h.ct i).mono (Ext.refl _ _) (λb _=>c b) (cJ.refl _) (Shaped.refl _ _)};intro id x l;have l:aE s.H k (some e') id=some x:=l;by_cases o:id=k
 ·subst o;rw[bs] at l;cases l;obtain⟨m,n⟩:=h.heap id e q;exact⟨m,(r n).mono (Ext.refl _ _) (λb _=>c b) (cJ.refl _) (λ_ h=>h) (Shaped.refl _ _) λ_ _=>rfl⟩
 rw[bu _ _ _ _ o] at l;obtain⟨m,n⟩:=h.heap id x l;exact⟨m,n.mono (Ext.refl _ _) (λb _=>c b) (cJ.refl _) (λ_ h=>h) (Shaped.refl _ _) λ_ _=>rfl⟩
theorem Ot{K:Ctx}{s:S}(k i j:Nat){gen:Nat}{c:List (List T)}{q:List T}{x:T}{n:List (Nat×Nat×V)}(D:s.H k=some (.aw l m gen c n))(y:c[i]? =some q)(F:q[j]? =some x)(G:(Y l m).du j=none)(L:ng j n=true):
  s.le K {s with H:=aE s.H k (some (.aw l m gen c ((i,j,.t x)::n)))}:=by
 intro Q a w h;refine⟨Q,h.BK k _ (.aw l m gen c ((i,j,.t x)::n)) D λp=>?_⟩;refine⟨p.1,?_⟩;rcases p.2 with ⟨ay,a2,_⟩|⟨b,R,B,ay,a2,a3,a4,a5,g',fz,eQ⟩
 ·rw[a2] at y;simp at y
 refine .inr ⟨b,R,B,ay,a2,a3,a4,λW X r f u A C I=>?_,g',fz,eQ⟩;have o:=a5 W X r f u A C I;refine⟨λv bG=>?_,λM=>o.2 λv bG=>M v (dV _ bG)⟩;rcases dy.1 bG with e|bG
 ·simp only[Prod.mk.injEq] at e;obtain⟨rfl,rfl,rfl⟩:=e;rw[y] at A;cases A;rw[F] at C;cases C
  have:=o.2 λv=>wP L _ _;rw[G] at this;cases this with|ed _ _ _ h N=>exact⟨.t _ _ h,N⟩
 exact o.1 v bG
theorem Mp{K:Ctx}{s:S}(k i j:Nat){C:List de}{gen:Nat}{n:List (List T)}{l:List T}{x:T}{M:List (Nat×Nat×V)}(hk:s.H k=some (.aw C m gen n ((i,j,.t x)::M)))(D:n[i]? =some l)(AO:Nat.blt j (Y C m).size=true)(hm:(Y C m).du j=none)(bj:ng j M=true):
  s.le K {s with H:=aE s.H k (some (.aw C m gen (n.set i (l.set j x)) M))}:=by
 intro β a w h;refine⟨β,h.BK k _ (.aw C m gen (n.set i (l.set j x)) M) hk λG=>?_⟩;refine⟨G.1,?_⟩;rcases G.2 with ⟨ay,a2,_⟩|⟨b,us,B,ay,a2,a3,a4,a5,g',fz,eQ⟩
 ·rw[a2] at D;simp at D
 have L:=(bt.1 D).1;have Q:l.length=(Y C m).size:=a4 l (bB D);have q:j<l.length:=by rw[Q];simpa[Nat.blt_eq] using AO
 refine .inr ⟨b,us,B,ay,a2,by simpa using a3,λr bH=>?_,λy A R gp u F W eR=>?_,λy A c aR=>by simpa using g' y A c aR,fz,eQ⟩
 ·rcases nC bH with bH|rfl
  ·exact a4 r bH
  simpa using Q
 by_cases X:y=i/\A=j
 ·obtain⟨rfl,rfl⟩:=X;rw[hU L] at F;cases F;rw[hU q] at W;cases W;have p:=(a5 y A l l[A] u D (bg q) eR).1 _ ev;refine⟨λv N=>a6 N (wP bj _ _),λ_=>?_⟩;rw[hm];obtain⟨h1,h2⟩:=p;cases h1 with|t _ _ h1=>exact .ed _ _ _ h1 h2
 have f: ∃o U,n[y]? =some o/\o[A]? =some U/\U=gp:=by
  by_cases I:y=i
  ·subst I;rw[hU L] at F;cases F;rw[jw (by intro e;exact X ⟨rfl,e.symm⟩)] at W;exact⟨l,gp,D,W,rfl⟩
  rw[jw (jx I)] at F;exact⟨R,gp,F,W,rfl⟩
 obtain⟨o,U,d1,d2,rfl⟩:=f;have p:=a5 y A o U u d1 d2 eR;refine⟨λv N=>p.1 v (dV _ N),λcj=>p.2 λv N=>?_⟩
 grind
theorem Ny{K:Ctx}{s:S}(k i j m2:Nat){A:List de}{gen:Nat}{n:List (List T)}{l:List T}{I:List (Nat×Nat×V)}(hk:s.H k=some (.aw A m gen n ((i,j,.t .ek)::I)))(C:n[i]? =some l)(U:Nat.blt j (Y A m).size=true)(hm:(Y A m).du j=some m2)(bj:ng j I=true):
  s.le K {s with H:=aE s.H k (some (.aw A m gen (n.set i (l.set j (.aa []))) I))}:=by
 intro β a w h;refine⟨β,h.BK k _ (.aw A m gen (n.set i (l.set j (.aa []))) I) hk λF=>?_⟩;refine⟨F.1,?_⟩;rcases F.2 with ⟨ay,a2,_⟩|⟨b,us,B,ay,a2,a3,a4,a5,g',fz,eQ⟩
 ·rw[a2] at C;simp at C
 have G:=(bt.1 C).1;have L:l.length=(Y A m).size:=a4 l (bB C);have q:j<l.length:=by rw[L];simpa[Nat.blt_eq] using U
 refine .inr ⟨b,us,B,ay,a2,by simpa using a3,λr bH=>?_,λx y Q gp u D R eR=>?_,λx y c aR=>by simpa using g' x y c aR,fz,eQ⟩
 ·rcases nC bH with bH|rfl
  ·exact a4 r bH
  simpa using L
 by_cases W:x=i/\y=j
 ·obtain⟨rfl,rfl⟩:=W;rw[hU G] at D;cases D;rw[hU q] at R;cases R;have p:=(a5 x y l l[y] u C (bg q) eR).1 _ ev;refine⟨λv M=>a6 M (wP bj _ _),λ_=>?_⟩;rw[hm];obtain⟨h1,h2⟩:=p;cases h1 with|t _ _ h1=>cases h1 with|ek=>exact .nil _ _ h2
 have X: ∃o N,n[x]? =some o/\o[y]? =some N/\N=gp:=by
  by_cases f:x=i
  ·subst f;rw[hU G] at D;cases D;rw[jw (by intro e;exact W ⟨rfl,e.symm⟩)] at R;exact⟨l,gp,C,R,rfl⟩
  rw[jw (jx f)] at D;exact⟨Q,gp,D,R,rfl⟩
 obtain⟨o,N,d1,d2,rfl⟩:=X;have p:=a5 x y o N u d1 d2 eR;refine⟨λv M=>p.1 v (dV _ M),λcj=>p.2 λv M=>?_⟩
 grind
theorem Oq{K:Ctx}{s:S}(k:Nat){Q:List de}{gen:Nat}{e:List (List T)}{C:List (Nat×Nat×V)}(l:List de)(o:Nat)(G:s.H k=some (.aw Q m gen e C))(L:Nat.ble K.cB k=true)
  (h1:(Y l o).ty=(Y Q m).ty) (R:(Y l o).size=(Y Q m).size) (h3:(Y l o).aJ=[]):
  s.le K {s with H:=aE s.H k (some (.aw l o gen e C))}:=by
 have jT:=eb L;have D: ∀j,(Y l o).du j=none:=λj=>by unfold de.du;rw[h3];rfl
 intro A a w h;have r:=(h.heap k _ G).2;have F:cJ A (A.drop k):=λ_ _ _ y=> .inl y;rcases r.2 with ⟨ay,a2,a3⟩|⟨b,us,B,ay,a2,a3,a4,a5,g',fz,eQ⟩
 ·exact⟨_,h.drop k (.aw l o gen e C) (by rw[G];simp) ⟨r.1,.inl ⟨ay,a2,λc n=>n.1 rfl⟩⟩⟩
 refine⟨_,h.drop k (.aw l o gen e C) (by rw[G];simp) ⟨r.1,.inr ⟨b,us,λ_ _ _=>False,ay,by rw[h1];exact a2,by rw[R];exact a3,by rw[R];exact a4,?_,λ_ _ _ n=>n.elim,λ_ _ _ _ _ n=>n.elim,λc=>⟨λn=>(n.1 rfl).elim,λ⟨_,_,n⟩=>n.elim⟩⟩⟩⟩;intro i j W x u cD b0 N;rw[R] at N;have U:=a5 i j W x u cD b0 N;generalize e7:own K (A.drop k) (aE s.H k (some (.aw l o gen e C)))=X';have p: ∀b,X' b->own K A s.H b:=by
  subst e7;rintro b (y|⟨id,X,q⟩)
  ·exact .inl y
  refine .inr ⟨id,λf=>?_,lg q⟩;by_cases aG:id=k
  ·subst aG;rw[G] at f;cases f
  rw[bu _ _ _ _ aG] at X;exact X f
 refine⟨λv bG=>⟨(U.1 v bG).1.mono (Ext.refl _ _) (λb _=>p b) F (Shaped.refl _ _),λ_ n=>n⟩,λI=>?_⟩;rw[D];refine .ed _ _ _ ((U.2 I).q4 p ?_) λ_ n=>n;intro c n y;subst e7;have L:At A k c:= .inr ((eQ c).2 ⟨i,j,n⟩);rcases y with y|⟨id,X,q⟩
 ·obtain⟨kh,nO⟩:=h.gq c y;rcases(h.fresh k c L).1 with M|jR
  ·exact nO M
  omega
 have:=h.inj _ _ _ (lg q) L;subst this;rcases q with ⟨g,q⟩|q
 ·have g3:A id=some (some c,g):=q
  grind
 exact q.1 rfl
def E.gen:E->Option Nat
 | .cells _=>none
 | .arr _ g _ _=>some g
 | .aw _ _ g _ _=>some g
theorem l7{g:Nat}{e:E}(h:b4 W w X i e)(c:e.gen=some g):1<=g/\ ∃q,W i=some (q,g):=by
 cases e with
 |cells cs=>cases c
 |arr ty l size a=>
  cases c;exact⟨h.1,by rcases h.2 with ⟨k,_⟩|⟨b,n,k,_⟩<;>exact⟨_,k⟩⟩
 |aw o m l a p=>
  cases c;exact⟨h.1,re h⟩
theorem Rel.V2{K:Ctx}{s:S}(h:Rel K β s a w)(k:Nat)(e e':E)(g:Nat)(T:s.H k=some e)(bE:e.gen=some g)(C:Array Value)(D:TypeId)
  (he: ∀(y:Map) (M:Nat->Prop) (F:World),F=w.alloc (.cells C D)->y k=some (some w.heap.size,g+1)->(∀b,y.n k b↔β.n k b)->(∀v u,aQ β w (own K β s.H) v u->aQ y F M v u)->
   (∀x u,b8 w (own K β s.H) x u->b8 F M x u)->(∀U m x u N,(∀b,N b->β.n k b)->eK U w (own K β s.H) m x u N->eK U F M m x u N)->b4 y F M k e'):
  Rel K (β.put k (some (some w.heap.size,g+1))) {s with H:=aE s.H k (some e')} a (w.alloc (.cells C D)):=by
 have c: ∀X,Ext X w (w.alloc (.cells C D)):=λX=>Ext.alloc X w _;have G:s.u k=true:=(h.heap k _ T).1;obtain⟨L,ni,Q⟩:=l7 (h.heap k _ T).2 bE;have l: ∀id b,At (β.put k (some (some w.heap.size,g+1))) id b->(id=k/\b=w.heap.size)\/At β id b:=λid b aR=>by
  rcases aR with ⟨g,aR⟩|aR
  ·by_cases q:id=k
   ·subst q;rw[iB] at aR;cases aR;exact .inl ⟨rfl,rfl⟩
   rw[dK _ _ _ _ q] at aR;exact .inr (.inl ⟨g,aR⟩)
  exact .inr (.inr aR)
 have o: ∀b,b<w.heap.size->own K (β.put k (some (some w.heap.size,g+1))) (aE s.H k (some e')) b->own K β s.H b:=by
  rintro b hlt (R|⟨id,B,W⟩)
  ·exact .inl R
  rcases l id b W with ⟨rfl,rfl⟩|A
  ·omega
  refine .inr ⟨id,λV=>?_,A⟩;by_cases q:id=k
  ·subst q;rw[T] at V;cases V
  rw[bu _ _ _ _ q] at B;exact B V
 have f:Shaped β w (w.alloc (.cells C D)):=lN (c _);have j:=uu ni (some w.heap.size) L Q;have I: ∀v u,aQ β w (own K β s.H) v u->aQ (β.put k (some (some w.heap.size,g+1))) (w.alloc (.cells C D)) (own K (β.put k (some (some w.heap.size,g+1))) (aE s.H k (some e'))) v u:=
  λv u bG=>bG.mono (c _) o j f
 refine {ext:=h.ext.trans ((c λ_=>False).weaken λ_ _ h=>h.elim),k3:=h.k3,ln:=h.ln,gq:=h.gq,mV:=h.mV,base:= ?_,gF:=h.gF.ext h.ext.size (c _),low:=h.low,cU:= ?_,dt:=λid b hid=>h.dt id b hid,inj:= ?_,fresh:= ?_,heap:= ?_,ct:=λi=>I _ _ (h.ct i),nt:=h.nt,defers:=h.defers}
 ·exact h.base.grow k g ni (some w.heap.size) Q L (iB _ _ _) (λb aR=>by cases aR;exact .inr h.ext.size) λid q=>dK _ _ _ _ q
 ·intro id hid;have r:s.u id=false:=hid;by_cases e:id=k
  ·subst e;rw[G] at r;cases r
  rw[dK _ _ _ _ e];exact h.cU id r
 ·intro id Y b B W;rcases l id b B with ⟨rfl,rfl⟩|A<;>rcases l Y _ W with ⟨rfl,e⟩|h4
  ·rfl
  ·have:=(h.fresh _ _ h4).2;omega
  ·subst e;have:=(h.fresh _ _ A).2;omega
  exact h.inj _ _ _ A h4
 ·intro id b aR;rcases l id b aR with ⟨rfl,rfl⟩|A
  ·exact⟨.inr h.ext.size,aY⟩
  exact⟨(h.fresh _ _ A).1,by have:=(h.fresh _ _ A).2;simp;omega⟩
 intro id e2 p;have p:aE s.H k (some e') id=some e2:=p;show s.u id=true/\b4 _ _ (own K _ (aE s.H k (some e'))) id e2;by_cases q:id=k
 ·subst q;rw[bs] at p;cases p;exact⟨G,he _ _ _ rfl (iB _ _ _) (λ_=>Iff.rfl) I (λx u R=>R.mono (c _) o) λU m x u N gR bH=>bH.mono (c _) o λb aR=>s8 _ _ _ (h.fresh id b (.inr (gR b aR))).2⟩
 rw[bu _ _ _ _ q] at p;obtain⟨B,W⟩:=h.heap id e2 p;refine⟨B,W.mono (c _) o j (λx R=>by rw[dK _ _ _ _ q];exact R) f λb aR=>s8 _ _ _ (h.fresh id b aR).2⟩
theorem Rel.Tp{K:Ctx}{s:S}(h:Rel K β s a w)(k:Nat)(e e':E)(g:Nat)(q:Option Nat)(L:β k=some (q,g))(A:1<=g)(f:s.H k=some e)
  (j: ∀(r:Map) (Q:Nat->Prop),r k=some (q,g+1)->(∀b,r.n k b↔β.n k b)->(∀v u,aQ β w (own K β s.H) v u->aQ r w Q v u)->(∀b,Q b->own K β s.H b)->b4 r w Q k e'):
  Rel K (β.put k (some (q,g+1))) {s with H:=aE s.H k (some e')} a w:=by
 have B:s.u k=true:=(h.heap k _ f).1;have c: ∀id b,At (β.put k (some (q,g+1))) id b->At β id b:=λid b aR=>by
  rcases aR with ⟨g,aR⟩|aR
  ·by_cases m:id=k
   ·subst m;rw[iB] at aR;cases aR;exact .inl ⟨_,L⟩
   rw[dK _ _ _ _ m] at aR;exact .inl ⟨g,aR⟩
  exact .inr aR
 have o: ∀b,own K (β.put k (some (q,g+1))) (aE s.H k (some e')) b->own K β s.H b:=by
  rintro b (R|⟨id,y,C⟩)
  ·exact .inl R
  refine .inr ⟨id,λW=>?_,c id b C⟩;by_cases m:id=k
  ·subst m;rw[f] at W;cases W
  rw[bu _ _ _ _ m] at y;exact y W
 have D:=uu q q A L;have F: ∀v u,aQ β w (own K β s.H) v u->aQ (β.put k (some (q,g+1))) w (own K (β.put k (some (q,g+1))) (aE s.H k (some e'))) v u:=λv u I=>I.mono (Ext.refl _ _) (λb _=>o b) D (Shaped.refl _ _);refine {h with base:= ?_,cU:= ?_,inj:= ?_,fresh:=λid b aR=>h.fresh id b (c id b aR),heap:= ?_,ct:=λi=>F _ _ (h.ct i)}
 ·exact h.base.grow k g q q L A (bs _ _ _) (λb aR=> .inl aR) λid m=>dK _ _ _ _ m
 ·intro id hid;have p:s.u id=false:=hid;by_cases e:id=k
  ·subst e;rw[B] at p;cases p
  rw[dK _ _ _ _ e];exact h.cU id p
 ·intro id G b y C;exact h.inj id G b (c id b y) (c G b C)
 intro id X l;have l:aE s.H k (some e') id=some X:=l;show s.u id=true/\b4 _ _ (own K _ (aE s.H k (some e'))) id X;by_cases m:id=k
 ·subst m;rw[bs] at l;cases l;exact⟨B,j _ _ (iB _ _ _) (λ_=>Iff.rfl) F o⟩
 rw[bu _ _ _ _ m] at l;obtain⟨y,C⟩:=h.heap id X l;exact⟨y,C.mono (Ext.refl _ _) (λb _=>o b) D (λx R=>by rw[dK _ _ _ _ m];exact R) (Shaped.refl _ _) λ_ _=>rfl⟩
theorem N3{size:Nat}{a c:List (List T)}(o p h:List Value)(w:a.length=n)(y:o.length=n*size)(C:p.length=c.length*size)(A: ∀b,b∈a->b.length=size)(q: ∀b,b∈c->b.length=size){R:Nat->Nat->T->Value->Prop}
  (D: ∀(i j:Nat) (b:List T) (x:T) (u:Value),a[i]? =some b->b[j]? =some x->o[i*size+j]? =some u->R i j x u)
  (F: ∀(i j:Nat) (b:List T) (x:T) (u:Value),c[i]? =some b->b[j]? =some x->p[i*size+j]? =some u->R (n+i) j x u):
  ∀(i j:Nat) (b:List T) (x:T) (u:Value),(a++c)[i]? =some b->b[j]? =some x->(o++p++h)[i*size+j]? =some u->R i j x u:=by
 intro i j b x u k v B;by_cases l:i<a.length
 ·rw[gI l] at k;have e:j<size:=by rw[<-A b (bB k)];exact(bt.1 v).1
  have m:i*size+j<o.length:=by rw[y,<-w];exact jU l e
  grind
 rw[gH O] at k;have e:j<size:=by rw[<-q b (bB k)];exact(bt.1 v).1
 have r:=(bt.1 k).1;have m:=jU (size:=size) r e
 grind
def fP(n:Nat):List (Nat×Nat×V)->List (Nat×Nat×V)
 | []=>[]
 |h::hs=>(n+h.1,h.2.1,h.2.2)::fP n hs
theorem tS{n:Nat}: ∀{hs:List (Nat×Nat×V)} {i j:Nat} {v:V},(i,j,v)∈fP n hs↔ ∃k,i=n+k/\(k,j,v)∈hs
 | [],_,_,_=>by simp[fP]
 |h::hs,i,j,v=>by
  simp only[fP,List.mem_cons,Prod.mk.injEq,tS (hs:=hs)];constructor
  ·rintro(⟨l,e,m⟩|⟨k,l,e⟩)
   ·exact⟨h.1,l,.inl (by obtain⟨a,b,c⟩:=h;cases e;cases m;rfl)⟩
   exact⟨k,l,.inr e⟩
  rintro⟨k,l,e|e⟩
  ·subst e;exact .inl ⟨l,rfl,rfl⟩
  exact .inr ⟨k,l,e⟩
def uB(n:Map)(w:World)(X:Nat->Prop)(c:Nat)(a:List (List T))(m:List (Nat×Nat×V))(u:Value):Prop:=
 ∃(b e l:Nat) (k:List Value),u= .slice (some ⟨b,e,none⟩) a.length l/\k.length=a.length*c/\
  (∀(j:Nat) x,k[j]? =some x->w.cell? ⟨b,e+j,none⟩=some x)/\(∀x,x∈k->x.oneCell'=true)/\
  ∀(i j:Nat) (h:List T) (x:T) (y:Value),a[i]? =some h->h[j]? =some x->k[i*c+j]? =some y->(∀v,(i,j,v)∈m->aQ n w X v y)/\((∀v,(i,j,v)∉m)->b8 w X x y)
def pw:List (Nat×Nat×V)->Bool
 | []=>true
 |h::a=>h.2.2.one&&pw a
theorem Df: ∀{a:List (Nat×Nat×V)} {i j:Nat} {v:V},pw a=true->(i,j,v)∈a->v.one=true
 | [],_,_,_,_,h=>by cases h
 |h::a,i,j,v,b,hm=>by
  simp only[pw,Bool.and_eq_true] at b;rcases dy.1 hm with rfl|hm
  ·exact b.1
  exact Df b.2 hm
def rl(d:de)(n:Nat)(a:List (Nat×Nat×V)):Bool:=
 (List.range n).all λi=>d.aJ.all λp=>a.any λh=>Nat.beq h.1 i&&Nat.beq h.2.1 p.1
theorem DY: ∀{l:List (Nat×Nat)} {j m:Nat},pR l j=some m->(j,m)∈l
 | [],_,_,h=>by cases h
 |p::l,j,m,h=>by
  simp only[pR] at h;cases a:Nat.beq p.1 j with
  |true=>rw[a] at h;cases h;rw[<-b9 a];exact ev
  |false=>rw[a] at h;exact dV _ (DY h)
theorem Dq{d:de}(h:rl d n hs=true){j:Nat}(e:i<n)(k:d.du j=some m): ∃v,(i,j,v)∈hs:=by
 have l:=fG.1 h i (q9.2 e);have o:=fG.1 l (j,m) (DY k);obtain⟨⟨a,b,v⟩,p,c⟩:=nJ.1 o;simp only[Bool.and_eq_true] at c;have q:=b9 c.1;have r:=b9 c.2
 grind
theorem uB.of{K:Ctx}{s:S}(h:Rel K β s a w){g:Nat}{c:List (List T)}{r:List (Nat×Nat×V)}{u:Value}(hk:s.H k=some (.aw l m g c r))(cj:n=c.length)
  (hu:aQ β w (own K β s.H) (.aM k g (Y l m).size 0 n) u) (N:0<c.length) (dE:pw r=true) (bj:rl (Y l m) c.length r=true):uB β w (own K β s.H) (Y l m).size c r u:=by
 subst cj;have W:=(h.heap k _ hk).2;rcases W.2 with ⟨_,D,_⟩|⟨b,U,B,ay,a2,a3,a4,a5,g',fz,eQ⟩
 ·rw[D] at N;simp at N
 rcases eh hu ay with ⟨X,e3,Bv,gl,rfl,f,hw,fw,sn,cc,hm⟩|⟨f,_⟩
 ·cases f;rw[fc];have A: ∀(i j:Nat) (o:List T) (x:T) (y:Value),c[i]? =some o->o[j]? =some x->U[i*(Y l m).size+j]? =some y->
    (∀v,(i,j,v)∈r->aQ β w (own K β s.H) v y)/\((∀v,(i,j,v)∉r)->b8 w (own K β s.H) x y):=by
   intro i j o x y C D R;have F:=a5 i j o x y C D R;refine⟨λv p=>(F.1 v p).1,λG=>?_⟩;have h6:=F.2 G;have L:(Y l m).du j=none:=by
    cases I:(Y l m).du j with
    |none=>rfl
    |some V1=>
     obtain⟨v,p⟩:=Dq bj (bt.1 C).1 I;exact a6 p (G v)
   rw[L] at h6;cases h6 with|ed _ _ _ h _=>exact h
  refine⟨b,0,X,U.toList.take (c.length*(Y l m).size),rfl,bY,λj x q=>?_,λx hx=>?_,λi j o x y C D R=>?_⟩
  ·rw[fT] at q;split at q
   ·simp only[World.cell?,a2,Nat.zero_add];simpa using q
   cases q
  ·obtain⟨j,q⟩:=ht.1 hx;rw[fT] at q;split at q
   ·rename_i Q;have da:0<(Y l m).size:=Nat.pos_of_ne_zero λe=>by rw[e] at Q;omega
    have C:j / (Y l m).size<c.length:=by rw[tI da];exact Q
    have D:=Nat.mod_lt j da;have R:=a4 _ (fe C);have he:j / (Y l m).size*(Y l m).size+j%(Y l m).size=j:=by rw[Nat.mul_comm];exact Nat.div_add_mod ..
    obtain⟨c1,c2⟩:=A (j / (Y l m).size) (j%(Y l m).size) _ _ x (bg C) (bg (by omega:j%(Y l m).size<(c[j / (Y l m).size]).length)) (by rw[he];simpa using q);by_cases p: ∃v,(j / (Y l m).size,j%(Y l m).size,v)∈r
    ·obtain⟨v,p⟩:=p;exact(c1 v p).gV (Df dE p)
    exact(c2 λv M=>p ⟨v,M⟩).gV
   cases q
  rw[fT] at R
  grind
 cases f
theorem Rel.To{K:Ctx}{s:S}{t e:TypeId}{u:TypeDesc}{z:Value}{gen G bytes:Nat}(h:Rel K β s a w)(k:Nat)(r:List de)(m:Nat)(l o:List (List T))(C:List (Nat×Nat×V))(hk:s.H k=some (.aw r m gen l []))(qn:(Y r m).size=G)(kA:(Y r m).ty=e)(ty:TypeId)
  (hu:K.P.underlying t=some (.slice e)) (he:bN K.P e u z G bytes) (sy:z.cells.size=G) (hs: ∀p,p∈l->p.length=G) (mS: ∀p,p∈o->p.length=G) (v x:Value) (bG:aQ β w (own K β s.H) (.aM k gen G 0 l.length) v)
  (hx:uB β w (own K β s.H) G o C x) (A0:0<o.length) (Uc:rl (Y r m) o.length C=true) (aR:(l.length+o.length)*bytes<=140737488355328) (hm:l.length+o.length<=maxLen):
  ∃c7 w' D,(Builtin.append_ #[t,t] ty #[v,x]).run K.P w= .ok c7 w'/\Rel K D {s with H:=aE s.H k (some (.aw r m (gen+1) (l++o) (fP l.length C)))} a w'/\
   aQ D w' (own K D (aE s.H k (some (.aw r m (gen+1) (l++o) (fP l.length C))))) (.aM k (gen+1) G 0 (l.length+o.length)) c7:=by
 subst qn;subst kA;obtain⟨q,cH⟩:=re (h.heap k _ hk).2;have hd:=(h.heap k _ hk).2.1;obtain⟨_,i,jS,hi2,je,oD⟩:=id he;have hm':l.length+o.length<=9223372036854775807:=by unfold maxLen at hm;omega
 have hb:=(h.heap k _ hk).2.2;have sr: ∀p,p∈l++o->p.length=(Y r m).size:=λp mR=>by
  rcases eW.1 mR with h|h
  ·exact hs p h
  exact mS p h
 obtain⟨b0,off,vc,X,oK,k7,su,k6,hwr⟩:=hx;have A8: ∀j y,X[j]? =some y->w.cell? ((⟨b0,off,none⟩:Addr).add j)=some y:=λj y hy=>by rw[gO];exact su j y hy
 have kB:(l.length+o.length)*i.bytes<=140737488355328:=by rw[oD];exact aR
 have Uy: ∀i j,i<o.length->(∀v,(i,j,v)∉C)->(Y r m).du j=none:=λi j aG hf=>by
  cases hkk:(Y r m).du j with
  |none=>rfl
  |some V1=>
   obtain⟨v,bG⟩:=Dq Uc aG hkk;exact a6 bG (hf v)
 -- the cells of old and new rows, in whatever world
 have N: ∀(B:Nat->Nat->Nat->Prop) (D:Map) (w':World) (X':Nat->Prop),(∀v u,aQ β w (own K β s.H) v u->aQ D w' X' v u)->(∀x u,b8 w (own K β s.H) x u->b8 w' X' x u)->
   (∀i j c,B i j c->i<l.length)-> ∀(I rest:List Value),I.length=l.length*(Y r m).size->
   (∀(i j:Nat) (p:List T) (x:T) (u:Value),l[i]? =some p->p[j]? =some x->I[i*(Y r m).size+j]? =some u->eK r w' X' ((Y r m).du j) x u (B i j))->
   ∀(i j:Nat) (p:List T) (x:T) (u:Value),(l++o)[i]? =some p->p[j]? =some x->(I++X++rest)[i*(Y r m).size+j]? =some u->Cell r m (fP l.length C) D w' X' i j x u (B i j):=by
  intro B D w' X' lX jg fv I rest lY oH;refine N3 I X rest rfl lY k7 hs mS (R:=λi j x u=>Cell r m (fP l.length C) D w' X' i j x u (B i j)) (λi j p x u h1 h2 h3=>⟨λv bG=>?_,λ_=>oH i j p x u h1 h2 h3⟩) λi j p x u h1 h2 h3=>⟨λv bG=>?_,λhf=>?_⟩
  ·obtain⟨gB,e1,_⟩:=tS.1 bG
   have:=(bt.1 h1).1;omega
  ·obtain⟨gB,e1,e2⟩:=tS.1 bG
   have:gB=i:=O
   subst this;exact⟨lX _ _ ((hwr gB j p x u h1 h2 h3).1 v e2),λc L=>by have:=fv _ _ _ L;omega⟩
  have Hd: ∀v,(i,j,v)∉C:=λv bG=>hf v (tS.2 ⟨i,rfl,bG⟩);rw[Uy i j (bt.1 h1).1 Hd];exact .ed _ _ _ (jg _ _ ((hwr i j p x u h1 h2 h3).2 Hd)) (λc L=>by have:=fv _ _ _ L;omega)
 -- a new block
 have finish: ∀(B:Nat->Nat->Nat->Prop) (I:List Value) (A:Nat),I.length=l.length*(Y r m).size->l.length+o.length<=A->A<=maxLen->
   (∀(i j:Nat) (p:List T) (x:T) (u:Value),l[i]? =some p->p[j]? =some x->I[i*(Y r m).size+j]? =some u->eK r w (own K β s.H) ((Y r m).du j) x u (B i j))->
   (∀i j c,B i j c->i<l.length/\j<(Y r m).size)->(∀i j gB cn c,B i j c->B gB cn c->i=gB/\j=cn)->(∀c,β.n k c↔ ∃i j,B i j c)->
   ∃D,Rel K D {s with H:=aE s.H k (some (.aw r m (gen+1) (l++o) (fP l.length C)))} a (w.drew.alloc (.cells (I.toArray++X.toArray++Builtin.zeroCells z.cells (A-(l.length+o.length))) (Y r m).ty))/\
    aQ D (w.drew.alloc (.cells (I.toArray++X.toArray++Builtin.zeroCells z.cells (A-(l.length+o.length))) (Y r m).ty)) (own K D (aE s.H k (some (.aw r m (gen+1) (l++o) (fP l.length C))))) (.aM k (gen+1) (Y r m).size 0 (l.length+o.length)) (.slice (some ⟨w.heap.size,0,none⟩) (l.length+o.length) A):=by
  intro B I A lY G0 hcm A4 fv cy gR;have sq:(I.toArray++X.toArray++Builtin.zeroCells z.cells (A-(l.length+o.length))).size=A*(Y r m).size:=by
   simp only[Array.size_append,List.size_toArray,size_zeroCells,sy,lY,k7,<-Nat.add_mul];congr 1;omega
  have Ud:=yT h;have AV:=Ud.V2 k _ (.aw r m (gen+1) (l++o) (fP l.length C)) gen hk rfl (I.toArray++X.toArray++Builtin.zeroCells z.cells (A-(l.length+o.length))) (Y r m).ty
   (λD X' w' hw' A' cj lX jg oH=>⟨O,.inr ⟨w.heap.size,_,B,A',by subst hw';exact h' w.drew _,by rw[sq,dq];exact dn _ G0,sr,
    λi j p x u ay a2 a3=>N B D w' X' (λv u A7=>lX v u (A7.mono (Ext.drew _ _) (λ_ _ h=>h) (cJ.refl _) (lN (Ext.drew _ _)))) (λx u A9=>jg x u (A9.mono (Ext.drew _ _) λ_ _ h=>h)) (λi j c L=>(fv i j c L).1) I (Builtin.zeroCells z.cells (A-(l.length+o.length))).toList lY
     (λi j p x u cD b0 eR=>oH r _ x u (B i j) (λc L=>(gR c).2 ⟨i,j,L⟩) ((A4 i j p x u cD b0 eR).mono (Ext.drew _ _) (λ_ _ h=>h) λ_ _=>rfl)) i j p x u ay a2 (by simpa[<-Array.getElem?_toList] using a3),
    λi j c L=>⟨by have:=(fv i j c L).1;rw[dq];omega,(fv i j c L).2,λe0=>by have:=(h.fresh k c (.inr ((gR c).2 ⟨i,j,L⟩))).2;rw[e0] at this;exact Nat.lt_irrefl _ this⟩,cy,λc=>(cj c).trans (gR c)⟩⟩)
  refine⟨_,AV,?_⟩;have iF:aQ (β.put k (some (some w.heap.size,gen+1))) (w.drew.alloc (.cells (I.toArray++X.toArray++Builtin.zeroCells z.cells (A-(l.length+o.length))) (Y r m).ty)) (own K (β.put k (some (some w.heap.size,gen+1))) (aE s.H k (some (.aw r m (gen+1) (l++o) (fP l.length C))))) (.aM k (gen+1) (Y r m).size 0 (l.length+o.length)) (.slice (some ⟨w.heap.size,0*(Y r m).size,none⟩) (l.length+o.length) A):=by
   have qo:=h' w.drew (.cells (I.toArray++X.toArray++Builtin.zeroCells z.cells (A-(l.length+o.length))) (Y r m).ty);refine .aM k (gen+1) (Y r m).size 0 _ A w.heap.size (A*(Y r m).size) (Y r m).ty O (bs _ _ _) aY ?_ (by rw[dm]) G0 hcm;have AX:(w.drew.alloc (.cells (I.toArray++X.toArray++Builtin.zeroCells z.cells (A-(l.length+o.length))) (Y r m).ty)).heap[w.heap.size]? =some (.cells (I.toArray++X.toArray++Builtin.zeroCells z.cells (A-(l.length+o.length))) (Y r m).ty):=qo;unfold World.shape?;rw[AX];simp only[sq]
  rw[fc] at iF;exact iF
 subst oK;rcases eh bG cH with ⟨f,b,n,gl,rfl,lQ,hw,fw,sn,cc,k5⟩|⟨lQ,_,AR,rfl⟩
 rotate_left
 ·have lW:l=[]:=iQ AR;subst lW;have Q:=run_append_nil (P:=K.P) w t ty (Y r m).ty i z hu jS hi2 ⟨b0,off,none⟩ o.length vc X (by rw[je];exact k7) A8 A0 O (by simp at kB;omega);subst lQ;have UK: ∀c,¬β.n k c:=by
   rcases hb with ⟨_,_,h0⟩|⟨b,I,B,h1,_⟩
   ·exact h0
   rw[cH] at h1;cases h1
  obtain⟨D,f1,f2⟩:=finish (λ_ _ _=>False) [] (grownCap w o.length 0 (Y r m).ty) aY (by simpa using grownCap_ge w o.length 0 (Y r m).ty) (grownCap_le_maxLen w _ 0 (Y r m).ty (by unfold maxLen;simp at hm';omega)) (λi j p x u h1 _ _=>by simp at h1)
   (λ_ _ _ h=>h.elim) (λ_ _ _ _ _ h=>h.elim) λc=>⟨λL=>a6 L (UK c),λ⟨_,_,h⟩=>h.elim⟩
  simp only[List.length_nil,Nat.zero_add] at f1 f2⊢;exact⟨_,_,D,by rw[Q];simp,f1,f2⟩
 subst lQ;rcases hb with ⟨g1,_⟩|⟨e3,F,B,g1,g2,g3,g4,g5,g6,g7,g8⟩
 ·rw[cH] at g1;cases g1
 rw[cH] at g1;cases g1;have kC:F.size=f*(Y r m).size:=by
  unfold World.shape? at fw;rw[g2] at fw;simp at fw;rw[<-sn] at fw;rw[dm] at fw;exact fw.2
 have oI:(F.toList.take (l.length*(Y r m).size)).length=l.length*(Y r m).size:=bY
 have jg: ∀(i j:Nat) (p:List T) (x:T) (u:Value),l[i]? =some p->p[j]? =some x->(F.toList.take (l.length*(Y r m).size))[i*(Y r m).size+j]? =some u->eK r w (own K β s.H) ((Y r m).du j) x u (B i j):=by
  intro i j p x u h1 h2 h3;rw[fT] at h3;split at h3
  ·exact(g5 i j p x u h1 h2 (by simpa using h3)).none
  cases h3
 simp only[Nat.zero_mul];by_cases M:l.length+o.length<=f
 ·have oC:l.length*(Y r m).size+X.length<=F.size:=by rw[k7,kC,<-dM];exact dn _ M
  have Q:=run_append_room (P:=K.P) w t ty (Y r m).ty i hu jS b l.length f F g2 ⟨b0,off,none⟩ o.length vc X (by rw[je];exact k7) A8 k6 M (by rw[je];exact oC);rw[je] at Q;have U:(F.toList.take (l.length*(Y r m).size)++X++F.toList.drop (l.length*(Y r m).size+X.length)).toArray.size=F.size:=by
   simp;omega
  generalize jd:w.setRow b (F.toList.take (l.length*(Y r m).size)++X++F.toList.drop (l.length*(Y r m).size+X.length)).toArray=W at Q;have UP:own K β s.H b:= .inr ⟨k,by rw[hk];simp,.inl ⟨_,cH⟩⟩;have AL:Ext (own K β s.H) w W:=by
   subst jd;exact⟨rfl,rfl,rfl,aY,λkk _ hx=>setRow_other _ _ _ _ λe0=>hx (e0▸UP)⟩
  have U4:Shaped β w W:=by subst jd;intro e3 _;exact wB g2 U e3
  have hrel:=h.setRow k b (.inl ⟨_,cH⟩) F (Y r m).ty g2 (F.toList.take (l.length*(Y r m).size)++X++F.toList.drop (l.length*(Y r m).size+X.length)).toArray U (.aw r m gen (l++o) (fP l.length C)) (by rw[hk];simp)
   ⟨hd,Or.inr ⟨b,_,B,cH,setRow_heap _ _ _ _ _ _ g2,by rw[U,kC,dq];exact dn _ M,sr,
    λi j p x u ay a2 a3=>by
     rw[jd];exact N B β W (own K β s.H) (λv u A7=>A7.mono AL (λ_ _ h=>h) (cJ.refl _) U4) (λx u A9=>A9.mono AL λ_ _ h=>h) (λi j c L=>(g6 i j c L).1) _ _ oI
      (λi j p x u cD b0 eR=>(jg i j p x u cD b0 eR).mono AL (λ_ _ h=>h) λc L=>by subst jd;exact setRow_other _ _ _ _ (g6 i j c L).2.2) i j p x u ay a2 (by simpa using a3),
    λi j c L=>⟨by have:=(g6 i j c L).1;rw[dq];omega,(g6 i j c L).2⟩,g7,g8⟩⟩
  rw[jd] at hrel;have so:=hrel.Tp k (.aw r m gen (l++o) (fP l.length C)) (.aw r m (gen+1) (l++o) (fP l.length C)) gen (some b) cH hd (bs _ _ _) (λD X' A' cj lX e7=>by
   have fL:=(hrel.heap k _ (bs _ _ _)).2;rcases fL.2 with ⟨e1,_⟩|⟨e3,en,JJ,e1,e2,jJ,r1,r2,TJ,TK,TL⟩
   ·rw[cH] at e1;cases e1
   rw[cH] at e1;cases e1;exact⟨O,.inr ⟨b,en,JJ,A',e2,jJ,r1,λi j p x u c1 c2 c3=>⟨λv bG=>⟨lX _ _ ((r2 i j p x u c1 c2 c3).1 v bG).1,((r2 i j p x u c1 c2 c3).1 v bG).2⟩,λhf=>((r2 i j p x u c1 c2 c3).2 hf).mono (Ext.refl _ _) (λc _=>e7 c) λ_ _=>rfl⟩,TJ,TK,λc=>(cj c).trans (TL c)⟩⟩)
  have AA:aE (aE s.H k (some (.aw r m gen (l++o) (fP l.length C)))) k (some (.aw r m (gen+1) (l++o) (fP l.length C)))=aE s.H k (some (.aw r m (gen+1) (l++o) (fP l.length C))):=by
   funext j;by_cases hj:j=k
   ·subst hj;rw[bs,bs]
   rw[bu _ _ _ _ hj,bu _ _ _ _ hj,bu _ _ _ _ hj]
  simp only[AA] at so;refine⟨_,_,_,Q,so,?_⟩;have iF:aQ (β.put k (some (some b,gen+1))) W (own K (β.put k (some (some b,gen+1))) (aE s.H k (some (.aw r m (gen+1) (l++o) (fP l.length C))))) (.aM k (gen+1) (Y r m).size 0 (l.length+o.length)) (.slice (some ⟨b,0*(Y r m).size,none⟩) (l.length+o.length) f):=by
   refine .aM k (gen+1) (Y r m).size 0 _ f b (f*(Y r m).size) (Y r m).ty O (bs _ _ _) (by subst jd;simpa using hw) ?_ (by rw[dm]) M k5;subst jd;unfold World.shape?;rw[setRow_heap _ _ _ _ _ _ g2];simp only[U,kC]
  rw[fc] at iF;exact iF
 have holds: ∀j u,(F.toList.take (l.length*(Y r m).size))[j]? =some u->w.cell? ((⟨b,0,none⟩:Addr).add j)=some u:=by
  intro j u hj;rw[gO,dm];rw[fT] at hj;split at hj
  ·simp only[World.cell?,g2];simpa using hj
  cases hj
 have Q:=run_append_grow (P:=K.P) w t ty (Y r m).ty i z hu jS hi2 ⟨b,0,none⟩ l.length f (F.toList.take (l.length*(Y r m).size)) (by rw[je];exact oI) holds ⟨b0,off,none⟩ o.length vc X (by rw[je];exact k7) A8 O O (growslice_fits O kB);obtain⟨D,f1,f2⟩:=finish B (F.toList.take (l.length*(Y r m).size)) (grownCap w (l.length+o.length) f (Y r m).ty) oI (grownCap_ge w _ f (Y r m).ty) (grownCap_le_maxLen w _ f (Y r m).ty hm) jg (λi j c L=>⟨(g6 i j c L).1,(g6 i j c L).2.1⟩) g7 g8;exact⟨_,_,D,Q,f1,f2⟩
def mr(a:Nat)(b:List V):List (Nat×Nat×V)->List (Nat×Nat×V)
 | []=>[]
 |h::c=>(h.1,h.2.1,match Nat.ble a h.2.1,b[h.2.1-a]? with
  |true,some v=>v
  |_,_=>h.2.2)::mr a b c
theorem xT{off:Nat}{vs:List V}{i j:Nat}{v:V}: ∀{a:List (Nat×Nat×V)},(i,j,v)∈a-> ∃b,(i,j,b)∈mr off vs a
 |h::a,hm=>by
  rcases dy.1 hm with rfl|hm
  ·exact⟨_,ev⟩
  obtain⟨b,c⟩:=xT hm;exact⟨b,dV _ c⟩
theorem xh{off:Nat}{vs:List V}{i j:Nat}{v:V}: ∀{b:List (Nat×Nat×V)},(i,j,v)∈mr off vs b-> ∃a,(i,j,a)∈b/\(off<=j-> ∀x,vs[j-off]? =some x->v=x)/\(¬(off<=j/\j<off+vs.length)->v=a)
 |h::b,hm=>by
  rcases dy.1 hm with e|hm
  ·simp only[Prod.mk.injEq] at e;obtain⟨rfl,rfl,rfl⟩:=e;refine⟨h.2.2,ev,λk x c=>?_,λl=>?_⟩
   ·rw[Nat.ble_eq_true_of_le k,c]
   split
   ·rename_i v m c
    have:=(bt.1 c).1
    have:=eb m;exact a6 ⟨this,O⟩ l
   rfl
  obtain⟨a,n,o⟩:=xh hm;exact⟨a,dV _ n,o⟩
theorem Oa{gen:Nat}{a:List (List T)}{e:List (Nat×Nat×V)}(h:b4 W w X k (.aw l m gen a e)){q:List T}{c:T}(r:a[i]? =some q)(y:q[n]? =some c):
  ∃(b:Nat) (o:Array Value) (N:Nat->Prop) (x:Value),W k=some (some b,gen)/\w.heap[b]? =some (.cells o (Y l m).ty (0,0))/\o[i*(Y l m).size+n]? =some x/\Cell l m e W w X i n c x N:=by
 rcases h.2 with ⟨_,v,_⟩|⟨b,o,B,A,v,F,G,C,_⟩
 ·rw[v] at r;simp at r
 have D:i<a.length:=(bt.1 r).1;have L:n<(Y l m).size:=by
  grind
 have p:i*(Y l m).size+n<o.size:=by
  have:(i+1)*(Y l m).size<=a.length*(Y l m).size:=dn _ D
  grind
 exact⟨b,o,_,o[i*(Y l m).size+n],A,v,by simp[p],C i n q c _ r y (by simp[p])⟩
section kP
variable {P:Program}{H:Nat->Option E}{d:Option Tmp}{ty:TypeId}{pos:String}{af:Array Edge}{g:Option (Nat×Bool)}
variable {t:TypeId}{u:TypeDesc}{z:Value}{size bytes:Nat}
theorem wg(x:Operand)(o gen i a:Nat)(n:List de)(m:Nat)(B:Nat)(e:List (List T))(p:List (Nat×Nat×V))(l:List T)(c:T)(v:V)(G:bN P t u z size bytes)(L:ix u=false)(Q:H o=some (.aw n m gen e p))(R:(Y n m).size=B)
  (W:e[i]? =some l) (f:l[a]? =some c) (q:(i,a,v)∈p\/((∀v,(i,a,v)∉p)/\(Y n m).du a=none/\v= .t c)):
  bK P H ⟨d,.load t x,ty,pos,af,g⟩ [.ca o gen B i a] v:=by
 subst R;intro β w X ρ j I;obtain⟨b,us,N,y,M,U,C,D⟩:=Oa (j o _ Q) W f;obtain⟨e3,r,hx⟩:=la I.1 M;cases r;have hlt:=(gn.1 C).1;have k:w.cell? ⟨b,i*(Y n m).size+a,none⟩=some y:=by
  simp only[World.cell?,U];exact C
 refine⟨y,?_,?_⟩
 ·simp[execOp,hx,Instr.loadAt,Instr.sureAddr,G.wL w L k]
 rcases q with q|⟨A,hk,rfl⟩
 ·exact(D.1 v q).1
 have F:=D.2 A;rw[hk] at F;cases F with|ed _ _ _ h _=>exact .t _ _ h
theorem JD(x:Operand)(r gen i a:Nat)(k:List de)(m:Nat)(Q:Nat)(e:List (List T))(R:List (Nat×Nat×V))(h:List T)(y:List V)(W:bN P t u z size bytes)(f:ix u=true)(I:H r=some (.aw k m gen e R))(M:(Y k m).size=Q)
  (n:e[i]? =some h) (cc:a+size<=h.length) (o:y.length=size) (N: ∀j v,y[j]? =some v->(i,a+j,v)∈R):
  bK P H ⟨d,.load t x,ty,pos,af,g⟩ [.ca r gen Q i a] (.agg y):=by
 subst M;intro β w X ρ U fC;rcases(U r _ I).2 with ⟨_,A,_⟩|⟨b,C,B,h1,A,h3,h4,h5,_⟩
 ·rw[A] at n;simp at n
 obtain⟨e3,D,hx⟩:=la fC.1 h1;cases D;have aG:i<e.length:=(bt.1 n).1;have hrl:h.length=(Y k m).size:=h4 h (bB n);have p: ∀j,j<size->i*(Y k m).size+a+j<C.size:=by
  intro j q
  have:(i+1)*(Y k m).size<=e.length*(Y k m).size:=dn _ aG
  grind
 have l: ∀j,j<size->w.cell? ⟨b,i*(Y k m).size+a+j,none⟩=some (C.getD (i*(Y k m).size+a+j) undef):=λj q=>by
  have:=p j q;simp[World.cell?,A,this]
 refine⟨_,by simp[execOp,hx,Instr.loadAt,Instr.sureAddr,W.wM w f l];rfl,?_⟩;refine .agg _ _ (by simp[o]) λj c v F G=>?_;have q:j<size:=by
  grind
 simp only[List.getElem?_toArray,List.getElem?_map,List.getElem?_range q,Option.map_some,Option.some.injEq] at G;have L:=bg (O:a+j<h.length)
 have:=p j q;have h6:=(h5 i (a+j) h _ C[i*(Y k m).size+a+j] n L (by rw[<-nE];simp[this])).1 c (N j c F)
 grind
theorem Lh(x:Operand)(n gen o i c k a:Nat)(B:Array Field)(h:Field)(D:TypeDesc)(F:Value)(l p:Nat)(G:P.underlying t=some (.struct B))(L:B[k]? =some h)(Q:h.offset=a)(r:bN P h.type D F l p)(v:(l==0)=false)
  (e:E) (R:H n=some e) (W:e.gen=some gen):bK P H ⟨d,.fieldAddr t x k,ty,pos,af,g⟩ [.ca n gen o i c] (.ca n gen o i (c+a)):=by
 intro M w X N f j;obtain⟨y,q,C⟩:=l7 (f n _ R) W;obtain⟨b,A,I⟩:=la j.1 C;subst A;have m:l≠0:=by simpa using v
 refine⟨.pointer (some ⟨b,i*o+(c+a),none⟩),?_,.ca _ _ _ _ _ _ y C⟩;simp[execOp,I,Instr.fieldAt,run_underlying G,L,Instr.sureAddr,fieldPlace,r.run_sizeOf,m,gO,Q,Nat.add_assoc]
theorem Lf(x y:Operand)(e:TypeId)(i gen a c n:Nat)(p:E)(B:H i=some p)(C:p.gen=some gen)(D:P.underlying t=some (.slice e))(F:bN P e u z size bytes)(f:n<c):
  bK P H ⟨d,.indexAddr t x y,ty,pos,af,g⟩ [.aM i gen size a c,.t (.int .i64 (n:Nat))] (.ca i gen size (a+n) 0):=by
 intro j w X G L k;have cj:=cW k.2.1;generalize r:G x=v at k;have h:=k.1;simp only[r] at h;obtain⟨l,q,A⟩:=l7 (L i _ B) C;rcases eh h A with ⟨Q,b,m,R,rfl,o,I,M,W,N,T⟩|⟨_,_,U,_⟩
 ·subst o;refine⟨.pointer (some ⟨b,(a+n)*size+0,none⟩),?_,.ca _ _ _ _ _ b l A⟩;simp[execOp,r,cj,Instr.indexAt,asIntOf,run_underlying D,F.run_sizeOf,gO,Nat.add_mul]
  grind
 omega
theorem Mf(x:Operand)(e:TypeId)(l gen h i c:Nat)(p:P.underlying t=some (.slice e))(n:E)(r:H l=some n)(v:n.gen=some gen):bK P H ⟨d,.call {callee:= .builtin .len,args:= #[x],argTypes:= #[t]},ty,pos,af,g⟩ [.aM l gen h i c] (.t (.int .i64 (c:Nat))):=by
 intro y w X o A B;obtain⟨a,cap,k⟩: ∃a cap,o x= .slice a c cap:=by
  have C:aQ y w X (.aM l gen h i c) (o x):=B.1;obtain⟨_,q,D⟩:=l7 (A l _ r) v;rcases eh C D with ⟨cap,b,m,F,k,_⟩|⟨_,_,G,k⟩
  ·exact⟨_,_,k⟩
  exact⟨none,0,by rw[G];exact k⟩
 refine⟨.int .i64 (c:Nat),?_,.t _ _ (.int _ _)⟩;simp[execOp,resolve,invoke,builtin,k,Builtin.len_,run_underlying p,goInt]
end kP
section ops
variable {K:Ctx}{s:S}{d:Option Tmp}{ty:TypeId}{pos:String}{af:Array Edge}{g:Option (Nat×Bool)}
variable {t:TypeId}{u:TypeDesc}{z:Value}{gen size bytes:Nat}
theorem OH(k j I M:Nat)(x y:Operand)(e:TypeId)(q r:List de)(m N:Nat)(c b:List (List T))(h:List (Nat×Nat×V))(U: ∀i,d=some i->Nat.blt i K.nt=true)(hx:s.get x= .aM k gen size 0 c.length)(hy:s.get y= .aM j I size 0 M)(hk:s.H k=some (.aw q m gen c []))(D:s.H j=some (.aw r N I b h))
  (F:Y r N=Y q m) (G:M=b.length) (hu:K.P.underlying t=some (.slice e)) (he:bN K.P e u z size bytes) (L:Nat.beq z.cells.size size=true) (R:(Y q m).size=size) (kA:(Y q m).ty=e) (hs: ∀l,l∈c->l.length=size) (W: ∀l,l∈b->l.length=size)
  (n:0<b.length) (o:rl (Y q m) b.length h=true) (dE:pw h=true) (aR:(c.length+b.length)*bytes<=140737488355328) (hm:c.length+b.length<=9223372036854775807):
  dh K ⟨d,.call {callee:= .builtin .append,args:= #[x,y],argTypes:= #[t,t]},ty,pos,af,g⟩ s
   (({s with H:=aE s.H k (some (.aw q m (gen+1) (c++b) (fP c.length h)))}:S).put d (.aM k (gen+1) size 0 (c.length+b.length))):=by
 intro β a w next Q C X
 have v:=C.get x;rw[hx] at v;have A:=C.get y;rw[hy] at A;have p:=uB.of C D G (by rw[F,R];exact A) n dE (by rw[F];exact o);rw[F,R] at p;obtain⟨c7,w',f,h1,h2,h4⟩:=C.To k q m c b h hk R kA ty hu he (b9 L) hs W _ _ v p n o aR (by unfold maxLen;omega);unfold Oper.wp;have B:(execOp a.eval ⟨d,.call {callee:= .builtin .append,args:= #[x,y],argTypes:= #[t,t]},ty,pos,af,g⟩).run K.P w= .ok (.value c7) w':=by
  simp[execOp,resolve,invoke,builtin,h1]
 rw[B];exact X f _ w' (h2.put d U h4)
theorem LC(x y:Operand)(id i off:Nat)(k:List de)(m:Nat)(o:List (List T))(F:List T)(v:V)(hs:List (Nat×Nat×V))(hx:s.get x= .ca id gen size i off)(bG:s.get y=v)(oJ:v.val=true)(kD:kL v.cs=true)
  (hH:s.H id=some (.aw k m gen o hs)) (da:(Y k m).size=size) {l:Nat} (eT:bN K.P t u z l bytes) (A3:v.cs.length=l) (A0:0<l) (G:o[i]? =some F) (cc:off+l<=F.length)
  (jS: ∀n cn X,(n,cn,X)∈hs->off<=cn->cn<off+l->n=i) (hi2: ∀j,j<l-> ∃X,(i,off+j,X)∈hs):
  dh K ⟨none,.store t x y,ty,pos,af,g⟩ s {s with H:=aE s.H id (some (.aw k m gen o (mr off v.cs hs)))}:=by
 subst da;intro β a w next Q bH hk
 have sw:=bH.get x;rw[hx] at sw;have fL:=(bH.heap id _ hH).2;rcases fL.2 with ⟨_,h2,_⟩|⟨b,p,B,h1,h2,h3,h4,h5,h6,ig,hN⟩
 ·rw[h2] at G;simp at G
 obtain⟨e3,hc,oK⟩:=la sw h1;cases hc;have aG:=(bt.1 G).1;have hrl:F.length=(Y k m).size:=h4 F (bB G);have vu:i*(Y k m).size+off+l<=p.size:=by
  have:(i+1)*(Y k m).size<=o.length*(Y k m).size:=dn _ aG;rw[dM] at this;omega
 have ji:=bH.get y;rw[bG] at ji;obtain⟨c1,c2⟩:=ji.cells oJ;have L:(a.eval y).cells.size=l:=c1.trans A3;have f: ∀e∈(a.eval y).cells.toList,e.oneCell'=true:=by
  intro e he;obtain⟨j,hj⟩:=ht.1 he;have hj':(a.eval y).cells[j]? =some e:=by simpa using hj
  have hlt:=(gn.1 hj').1;have bj:=bg (O:j<v.cs.length);exact(c2 j _ e bj hj').gV (wS kD bj)
 unfold Oper.wp;have sp:=vU eT w b (i*(Y k m).size+off) p _ (a.eval y) h2 L O f;have I:(execOp a.eval ⟨none,.store t x y,ty,pos,af,g⟩).run K.P w= .ok .skip (w.setRow b (p.toList.take (i*(Y k m).size+off)++(a.eval y).cells.toList++p.toList.drop (i*(Y k m).size+off+(a.eval y).cells.toList.length)).toArray):=by
  simp only[execOp,oK,Instr.storeAt,Instr.sureAddr,Sem.run_bind,Sem.run_pure,Result.andThen_ok,sp]
 rw[I];have hlen:(p.toList.take (i*(Y k m).size+off)++(a.eval y).cells.toList++p.toList.drop (i*(Y k m).size+off+(a.eval y).cells.toList.length)).length=p.size:=by
  simp[L];omega
 have M:own K β s.H b:= .inr ⟨id,by rw[hH];simp,.inl ⟨_,h1⟩⟩;generalize N:(p.toList.take (i*(Y k m).size+off)++(a.eval y).cells.toList++p.toList.drop (i*(Y k m).size+off+(a.eval y).cells.toList.length)).toArray=q at*;have r:q.size=p.size:=by rw[<-N];simpa using hlen
 have R:Ext (own K β s.H) w (w.setRow b q):=⟨rfl,rfl,rfl,aY,λkk _ hx=>setRow_other _ _ _ _ λe0=>hx (e0▸M)⟩
 have W:Shaped β w (w.setRow b q):=λe3 _=>wB h2 r e3;refine hk β _ _ (Rel.setRow bH id b (.inl ⟨_,h1⟩) p _ h2 q r (.aw k m gen o (mr off v.cs hs)) (by rw[hH];simp) ?_);refine⟨fL.1,.inr ⟨b,q,B,h1,setRow_heap _ _ _ _ _ _ h2,by rw[r];exact h3,h4,λn cn A gp jv ay a2 a3=>?_,h6,ig,hN⟩⟩;have hjs:cn<(Y k m).size:=by rw[<-h4 A (bB ay)];exact(bt.1 a2).1
 by_cases U:n=i/\off<=cn/\cn<off+l
 ·obtain⟨rfl,AN,G6⟩:=U;obtain⟨X,lU⟩:=hi2 (cn-off) O;rw[show off+(cn-off)=cn by omega] at lU;have C:=h5 n cn A gp p[n*(Y k m).size+cn] ay a2 (by rw[fW O]);have UF: ∃v1,(n,cn,v1)∈mr off v.cs hs:=xT lU;obtain⟨v1,jf⟩:=UF;refine⟨λc7 D=>⟨?_,(C.1 X lU).2⟩,λhf=>a6 jf (hf v1)⟩;obtain⟨_,_,q2,_⟩:=xh D;have vr:=bg (O:cn-off<v.cs.length);have e:=q2 AN _ vr
  have:(a.eval y).cells[cn-off]? =some jv:=by
   rw[<-N] at a3;simp only[List.getElem?_toArray] at a3;rw[gI (by simp[L];omega),gH bY] at a3;have jJ:n*(Y k m).size+cn-(p.toList.take (n*(Y k m).size+off)).length=cn-off:=by
    rw[dz,kO];omega
   rw[jJ] at a3;simpa using a3
  rw[e];exact(c2 _ _ jv vr this).mono R (λ_ _ h=>h) (cJ.refl _) W
 have hne:n*(Y k m).size+cn<i*(Y k m).size+off\/i*(Y k m).size+off+l<=n*(Y k m).size+cn:=by
  rcases Nat.lt_trichotomy n i with h|h|h
  ·have:=dn (Y k m).size (O:n+1<=i);rw[dM] at this;omega
  ·subst h
   have: ¬(off<=cn/\cn<off+l):=λh=>U ⟨rfl,h⟩;omega
  have:=dn (Y k m).size (O:i+1<=n);rw[dM] at this;omega
 have C:p[n*(Y k m).size+cn]? =some jv:=by
  rw[<-N] at a3;simp only[List.getElem?_toArray,List.getElem?_append,List.length_append,List.length_take,List.getElem?_take,List.getElem?_drop,Array.length_toList,L] at a3;rw[show min (i*(Y k m).size+off) p.size=i*(Y k m).size+off by omega] at a3;rcases hne with hlt|jR
  ·rw[bh O,bh O,bh O] at a3;simpa using a3
  rw[bp O] at a3;rw[show i*(Y k m).size+off+l+(n*(Y k m).size+cn-(i*(Y k m).size+off+l))=n*(Y k m).size+cn by omega] at a3;simpa using a3
 have lR:=h5 n cn A gp jv ay a2 C;have hc1:=lR.mono (β':=β) R (λ_ _ h=>h) (cJ.refl _) W λc bj=>setRow_other _ _ _ _ (h6 _ _ _ bj).2.2;refine⟨λc7 D=>?_,λhf=>hc1.2 λc7 D=>?_⟩
 ·obtain⟨X,jr,_,nj⟩:=xh D;have UM: ¬(off<=cn/\cn<off+v.cs.length):=λh=>U ⟨jS _ _ _ jr h.1 O,h.1,O⟩;rw[nj UM];exact hc1.1 X jr
 obtain⟨v1,jf⟩:=xT (off:=off) (vs:=v.cs) D;exact hf v1 jf
theorem K1(x y:Operand)(id i off:Nat)(k:List de)(m:Nat)(o:List (List T))(G:List T)(v:V)(hs:List (Nat×Nat×V))(hx:s.get x= .ca id gen size i off)(bG:s.get y=v)(oJ:v.val=true)(kD:kL v.cs=true)
  (hH:s.H id=some (.aw k m gen o hs)) (da:(Y k m).size=size) {l:Nat} (eT:bN K.P t u z l bytes) (A3:v.cs.length=l) (A0:0<l) (L:o[i]? =some G) (cc:off+l<=G.length)
  {R:List (Nat×Nat×V)} (mO: ∀n cn c7,(n,cn,c7)∈R-> ∃F,(n,cn,F)∈hs/\((n=i/\off<=cn/\cn<off+l)->v.cs[cn-off]? =some c7)/\(¬(n=i/\off<=cn/\cn<off+l)->c7=F)) (fv: ∀n cn F,(n,cn,F)∈hs-> ∃v1,(n,cn,v1)∈R) (hi2: ∀j,j<l-> ∃F,(i,off+j,F)∈hs):
  dh K ⟨none,.store t x y,ty,pos,af,g⟩ s {s with H:=aE s.H id (some (.aw k m gen o R))}:=by
 subst da;intro β a w next Q bH hk
 have sw:=bH.get x;rw[hx] at sw;have fL:=(bH.heap id _ hH).2;rcases fL.2 with ⟨_,h2,_⟩|⟨b,p,B,h1,h2,h3,h4,h5,h6,ig,hN⟩
 ·rw[h2] at L;simp at L
 obtain⟨e3,hc,oK⟩:=la sw h1;cases hc;have aG:=(bt.1 L).1;have hrl:G.length=(Y k m).size:=h4 G (bB L);have vu:i*(Y k m).size+off+l<=p.size:=by
  have:(i+1)*(Y k m).size<=o.length*(Y k m).size:=dn _ aG;rw[dM] at this;omega
 have ji:=bH.get y;rw[bG] at ji;obtain⟨c1,c2⟩:=ji.cells oJ;have W:(a.eval y).cells.size=l:=c1.trans A3;have I: ∀e∈(a.eval y).cells.toList,e.oneCell'=true:=by
  intro e he;obtain⟨j,hj⟩:=ht.1 he;have hj':(a.eval y).cells[j]? =some e:=by simpa using hj
  have hlt:=(gn.1 hj').1;have bj:=bg (O:j<v.cs.length);exact(c2 j _ e bj hj').gV (wS kD bj)
 unfold Oper.wp;have sp:=vU eT w b (i*(Y k m).size+off) p _ (a.eval y) h2 W O I;have M:(execOp a.eval ⟨none,.store t x y,ty,pos,af,g⟩).run K.P w= .ok .skip (w.setRow b (p.toList.take (i*(Y k m).size+off)++(a.eval y).cells.toList++p.toList.drop (i*(Y k m).size+off+(a.eval y).cells.toList.length)).toArray):=by
  simp only[execOp,oK,Instr.storeAt,Instr.sureAddr,Sem.run_bind,Sem.run_pure,Result.andThen_ok,sp]
 rw[M];have hlen:(p.toList.take (i*(Y k m).size+off)++(a.eval y).cells.toList++p.toList.drop (i*(Y k m).size+off+(a.eval y).cells.toList.length)).length=p.size:=by
  simp[W];omega
 have N:own K β s.H b:= .inr ⟨id,by rw[hH];simp,.inl ⟨_,h1⟩⟩;generalize U:(p.toList.take (i*(Y k m).size+off)++(a.eval y).cells.toList++p.toList.drop (i*(Y k m).size+off+(a.eval y).cells.toList.length)).toArray=q at*;have r:q.size=p.size:=by rw[<-U];simpa using hlen
 have X:Ext (own K β s.H) w (w.setRow b q):=⟨rfl,rfl,rfl,aY,λkk _ hx=>setRow_other _ _ _ _ λe0=>hx (e0▸N)⟩
 have f:Shaped β w (w.setRow b q):=λe3 _=>wB h2 r e3;refine hk β _ _ (Rel.setRow bH id b (.inl ⟨_,h1⟩) p _ h2 q r (.aw k m gen o R) (by rw[hH];simp) ?_);refine⟨fL.1,.inr ⟨b,q,B,h1,setRow_heap _ _ _ _ _ _ h2,by rw[r];exact h3,h4,λn cn A gp jv ay a2 a3=>?_,h6,ig,hN⟩⟩;have hjs:cn<(Y k m).size:=by rw[<-h4 A (bB ay)];exact(bt.1 a2).1
 by_cases mQ:n=i/\off<=cn/\cn<off+l
 ·obtain⟨rfl,AN,G6⟩:=mQ;obtain⟨F,lU⟩:=hi2 (cn-off) O;rw[show off+(cn-off)=cn by omega] at lU;have C:=h5 n cn A gp p[n*(Y k m).size+cn] ay a2 (by rw[fW O]);obtain⟨v1,jf⟩:=fv _ _ _ lU;refine⟨λc7 D=>⟨?_,(C.1 F lU).2⟩,λhf=>a6 jf (hf v1)⟩;obtain⟨_,_,q2,_⟩:=mO _ _ _ D;have vr:=q2 ⟨rfl,AN,G6⟩
  have:(a.eval y).cells[cn-off]? =some jv:=by
   rw[<-U] at a3;simp only[List.getElem?_toArray] at a3;rw[gI (by simp[W];omega),gH bY] at a3;have jJ:n*(Y k m).size+cn-(p.toList.take (n*(Y k m).size+off)).length=cn-off:=by
    rw[dz,kO];omega
   rw[jJ] at a3;simpa using a3
  exact(c2 _ _ jv vr this).mono X (λ_ _ h=>h) (cJ.refl _) f
 have hne:n*(Y k m).size+cn<i*(Y k m).size+off\/i*(Y k m).size+off+l<=n*(Y k m).size+cn:=by
  rcases Nat.lt_trichotomy n i with h|h|h
  ·have:=dn (Y k m).size (O:n+1<=i);rw[dM] at this;omega
  ·subst h
   have: ¬(off<=cn/\cn<off+l):=λh=>mQ ⟨rfl,h⟩;omega
  have:=dn (Y k m).size (O:i+1<=n);rw[dM] at this;omega
 have C:p[n*(Y k m).size+cn]? =some jv:=by
  rw[<-U] at a3;simp only[List.getElem?_toArray,List.getElem?_append,List.length_append,List.length_take,List.getElem?_take,List.getElem?_drop,Array.length_toList,W] at a3;rw[show min (i*(Y k m).size+off) p.size=i*(Y k m).size+off by omega] at a3;rcases hne with hlt|jR
  ·rw[bh O,bh O,bh O] at a3;simpa using a3
  rw[bp O] at a3;rw[show i*(Y k m).size+off+l+(n*(Y k m).size+cn-(i*(Y k m).size+off+l))=n*(Y k m).size+cn by omega] at a3;simpa using a3
 have lR:=h5 n cn A gp jv ay a2 C;have hc1:=lR.mono (β':=β) X (λ_ _ h=>h) (cJ.refl _) f λc bj=>setRow_other _ _ _ _ (h6 _ _ _ bj).2.2;refine⟨λc7 D=>?_,λhf=>hc1.2 λc7 D=>?_⟩
 ·obtain⟨F,jr,_,nj⟩:=mO _ _ _ D;rw[nj mQ];exact hc1.1 F jr
 obtain⟨v1,jf⟩:=fv _ _ _ D;exact hf v1 jf
end ops
def E.gen?:E->Option Nat
 | .cells _=>none
 | .arr _ gen _ _=>some gen
 | .aw _ _ gen _ _=>some gen
theorem um{g:Nat}{T:E}(b:T.gen? =some g)(h:b4 W w X i T):1<=g/\ ∃q,W i=some (q,g):=by
 cases T with
 |cells cs=>cases b
 |arr ty gen size a=>cases b;exact⟨h.1,hi h⟩
 |aw c m gen a e=>cases b;exact⟨h.1,re h⟩
section kP
variable {P:Program}{H:Nat->Option E}{d:Option Tmp}{ty:TypeId}{pos:String}{af:Array Edge}{g:Option (Nat×Bool)}
variable {t:TypeId}{u:TypeDesc}{z:Value}{size bytes:Nat}
def mF(c:Nat)(h i:Option Operand)(e:Operand->Value)(a b:Nat):Prop:=
 (match h with|some x=>e x= .int .i64 (a:Nat)|none=>a=0)/\(match i with|some x=>e x= .int .i64 (b:Nat)|none=>b=c)
theorem ug{P:Program}{len a:Nat}{k e:Option Operand}{c:Operand->Value}(h:mF len k e c a b)(n:a<=b)(o:b<=i)(w:World):(Instr.sliceBounds true len i (k.map c) (e.map c) none).run P w= .ok (a,b,i) w:=by
 obtain⟨m,l⟩:=h;cases k with
 |none=>
  have m:a=0:=m;subst m;cases e with
  |none=>
   have l:b=len:=l;subst l;simp[Instr.sliceBounds]
  |some y=>
   have l:c y=_:=l;simp[Instr.sliceBounds,l,ha w b i _ o]
 |some x=>
  have m:c x=_:=m;cases e with
  |none=>
   have l:b=len:=l;subst l;simp[Instr.sliceBounds,m,ha w a b _ n]
  |some y=>
   have l:c y=_:=l;simp[Instr.sliceBounds,m,l,ha w b i _ o,ha w a b _ n]
theorem RI(x:Operand)(r v:Option Operand)(e:TypeId)(m gen h c a b:Nat)(L:E)(j:H m=some L)(I:L.gen? =some gen)(Q:P.underlying t=some (.slice e))(R:bN P e u z size bytes)
  (M:a<=b) (h2:b<=c) (h3:a=0\/a<c) {i:List V} (N: ∀y w X (k:Operand->Value),cF y w X i (r.toList.map k++v.toList.map k)->mF c r v k a b):
  bK P H ⟨d,.slice t x r v none,ty,pos,af,g⟩ (.aM m gen size h c::i) (.aM m gen size (h+a) (b-a)):=by
 intro y w X k T C;obtain⟨A,q,D⟩:=um I (T m _ j);have C:cF y w X (.aM m gen size h c::i) (k x::(r.toList.map k++v.toList.map k)):=by
  cases r<;>cases v<;>simpa[Op.operands] using C
 have B:mF c r v k a b:=N y w X k C.2;have U:aQ y w X (.aM m gen size h c) (k x):=C.1;rcases eh U D with ⟨l,W,n,F,o,p,Y,hs,cj,cc,hm⟩|⟨p,h0,G,o⟩
 ·subst p;refine⟨.slice (some ⟨W,(h+a)*size,none⟩) (b-a) (l-a),?_,.aM m gen size (h+a) (b-a) (l-a) W n F A D Y hs (by rw[<-cj];congr 1;omega) O O⟩;simp only[execOp,Sem.run_bind,Instr.sliceAt,Instr.slice,run_underlying Q,Result.andThen_ok,o,Option.map_none,Option.map_some,ug B M (O:b<=l),R.run_sizeOf,Sem.run_pure];by_cases f:l=a
  ·rw[bh f]
   grind
  rw[bp f];simp[gO,Nat.add_mul]
 subst p;subst h0;subst G;have e1:b=0:=O
 have e2:a=0:=O
 subst e1;subst e2;refine⟨.slice none 0 0,?_,.fy m gen size A D⟩;simp only[execOp,Sem.run_bind,Instr.sliceAt,Instr.slice,run_underlying Q,Result.andThen_ok,o,Option.map_none,ug B (Nat.le_refl _) (Nat.le_refl 0),R.run_sizeOf,Sem.run_pure];simp
theorem Qp(x:Operand)(p q:Option Operand)(e I:TypeId)(m gen c h a b:Nat)(l:List (List T))(M:H m=some (.arr I gen size l))(N:P.underlying t=some (.slice e))(U:bN P e u z size bytes)
  (Y:0<size) (h1:a<b) (R:c+b<=l.length) {i:List V} (aR: ∀r w X (k:Operand->Value),cF r w X i (p.toList.map k++q.toList.map k)->mF h p q k a b):
  bK P H ⟨d,.slice t x p q none,ty,pos,af,g⟩ (.aM m gen size c h::i) (.aM m gen size (c+a) (b-a)):=by
 intro r w X k hb B;have v:=hb m _ M;have C:=v.1;have B:cF r w X (.aM m gen size c h::i) (k x::(p.toList.map k++q.toList.map k)):=by
  cases p<;>cases q<;>simpa[Op.operands] using B
 have D:mF h p q k a b:=aR r w X k B.2;have hx:aQ r w X (.aM m gen size c h) (k x):=B.1;rcases v.2 with ⟨F,G⟩|⟨W,us,F,g2,g3,g4,g5⟩
 ·subst G;simp at R;omega
 rcases eh hx F with ⟨cap,e3,n,L,Q,o,hw,f,j,cc,hm⟩|⟨o,_⟩
 ·cases o;have y:us.size=n:=by
   unfold World.shape? at f
   grind
  have A:b<=cap:=by
   have h3:(c+b)*size<=(c+cap)*size:=by
    rw[j,<-y];exact dT (dn _ R) g3
   have:=Nat.le_of_mul_le_mul_right h3 Y;omega
  refine⟨.slice (some ⟨W,(c+a)*size,none⟩) (b-a) (cap-a),?_,.aM m gen size (c+a) (b-a) (cap-a) W n L C F hw f (by rw[<-j];congr 1;omega) O O⟩;simp only[execOp,Sem.run_bind,Instr.sliceAt,Instr.slice,run_underlying N,Result.andThen_ok,Q,Option.map_none,Option.map_some,ug D (O:a<=b) A,U.run_sizeOf,Sem.run_pure];rw[bp (show¬cap=a by omega)];simp[gO,Nat.add_mul]
 cases o
theorem Qq(x:Operand)(m o:Option Operand)(e:TypeId)(p gen c l b a:Nat)(D:E)(G:H p=some D)(L:D.gen? =some gen)(Q:P.underlying t=some (.slice e))(R:bN P e u z size bytes)
  (U:a<=b) {h:List V} (W: ∀r w X (i:Operand->Value),cF r w X h (m.toList.map i++o.toList.map i)->mF b m o i a a):
  bK P H ⟨d,.slice t x m o none,ty,pos,af,g⟩ (.aM p gen c l b::h) (.t (.aa [])):=by
 intro r w X i f v;obtain⟨j,q,I⟩:=um L (f p _ G);have v:cF r w X (.aM p gen c l b::h) (i x::(m.toList.map i++o.toList.map i)):=by
  cases m<;>cases o<;>simpa[Op.operands] using v
 have A:mF b m o i a a:=W r w X i v.2;have M:aQ r w X (.aM p gen c l b) (i x):=v.1;obtain⟨y,cap,k,F⟩: ∃y cap,i x= .slice y b cap/\b<=cap:=by
  rcases eh M I with ⟨cap,Y,n,N,k,B,hw,hs,cj,T,hm⟩|⟨B,h0,C,k⟩
  ·exact⟨_,cap,k,T⟩
  exact⟨none,0,by rw[C];exact k,O⟩
 refine⟨.slice (if cap=a then y else y.map (·.add (a*size))) (a-a) (cap-a),?_,.t _ _ (by rw[nG];exact .eI _ _)⟩;simp only[execOp,Sem.run_bind,Instr.sliceAt,Instr.slice,run_underlying Q,Result.andThen_ok,k,Option.map_none,ug A (Nat.le_refl _) (O:a<=cap),R.run_sizeOf,Sem.run_pure]
theorem L3(x:Operand)(e gen a i c:Nat)(h:E)(m:H e=some h)(n:h.gen? =some gen):bK P H ⟨d,.nilCheck x,ty,pos,af,g⟩ [.ca e gen a i c] (.ca e gen a i c):=by intro o w X k p r;obtain⟨v,q,y⟩:=um n (p e _ m);have l:aQ o w X (.ca e gen a i c) (k x):=r.1;obtain⟨b,_,A⟩:=la l y;exact⟨k x,by simp[execOp,A],l⟩
theorem Ox(x B C D:Operand)(e:TypeId)(o gen h l i a b c:Nat)(F:E)(Q:H o=some F)(R:F.gen? =some gen)(W:P.underlying t=some (.slice e))(f:bN P e u z size bytes)
  (j:a<=b) (I:b<=c) (h3:c<=i):bK P H ⟨d,.slice t x (some B) (some C) (some D),ty,pos,af,g⟩ [.aM o gen h l i,.t (.int .i64 (a:Nat)),.t (.int .i64 (b:Nat)),.t (.int .i64 (c:Nat))] .cr:=by
 intro M w X m N p;obtain⟨T,q,U⟩:=um R (N o _ Q);have V:aQ M w X (.aM o gen h l i) (m x):=p.1;have v:m B=_:=cW p.2.1;have Y:m C=_:=cW p.2.2.1;have G:m D=_:=cW p.2.2.2.1;obtain⟨r,cap,k,L⟩: ∃r cap,m x= .slice r i cap/\i<=cap:=by
  rcases eh V U with ⟨cap,e3,n,gl,k,y,hw,hs,cj,v,G⟩|⟨y,h0,A,k⟩
  ·exact⟨_,cap,k,v⟩
  exact⟨none,0,by rw[A];exact k,O⟩
 refine⟨.slice (if c=a then r else r.map (·.add (a*size))) (b-a) (c-a),?_,.cr _⟩;simp[execOp,k,v,Y,G,Instr.sliceAt,Instr.slice,run_underlying W,Instr.sliceBounds,ha w c cap _ O,ha w b c _ I,ha w a b _ j,f.run_sizeOf]
end kP
section steps
variable {K:Ctx}{s:S}{d:Option Tmp}{ty:TypeId}{pos:String}{af:Array Edge}{g:Option (Nat×Bool)}
variable {t:TypeId}{u:TypeDesc}{z:Value}{size bytes gen:Nat}
theorem Ez{C:Map}(Q:Rel K C s a w)(q b:Nat)(e:TypeId)(o c:List (List T))(r n:Array Value)(F:s.H q=some (.arr e gen size o))(v:C q=some (some b,gen))(p:w.heap[b]? =some (.cells r e (0,0)))
  (G:n.size=r.size) (R:c.length*size<=r.size) (y: ∀l,l∈c->l.length=size)
  (bj: ∀(i j:Nat) (l:List T) (x:T) (u:Value),c[i]? =some l->l[j]? =some x->n[i*size+j]? =some u->(∃(D:Nat) (m:List T),o[D]? =some m/\m[j]? =some x/\r[D*size+j]? =some u)\/(∀w X,b8 w X x u)):
  Rel K C {s with H:=aE s.H q (some (.arr e gen size c))} a (w.setRow b n):=by
 refine Rel.setRow Q q b (.inl ⟨_,v⟩) r e p n G (.arr e gen size c) (by rw[F];simp) ?_;have L:own K C s.H b:= .inr ⟨q,by rw[F];simp,.inl ⟨_,v⟩⟩;have A:=(Q.heap q _ F).2;refine⟨A.1,.inr ⟨b,n,v,setRow_heap _ _ _ _ _ _ p,O,y,λi j l x u ay a2 a3=>?_⟩⟩;rcases bj i j l x u ay a2 a3 with ⟨D,m,f,I,M⟩|bj
 ·rcases A.2 with ⟨B,_⟩|⟨b0,N,B,W,h3,h4,U⟩
  ·rw[v] at B;cases B
  rw[v] at B;cases B;rw[p] at W;cases W;exact(U D j m x u f I M).mono ⟨rfl,rfl,rfl,aY,λk _ V=>setRow_other _ _ _ _ λY=>V (Y▸L)⟩ λ_ _ h=>h
 exact bj _ _
theorem Rel.tq(h:Rel K β s a w)(b:Nat)(c:E)(k:s.H b=some c):Rel K β {s with H:=aE s.H b (some c)} a w:=by
 have:aE s.H b (some c)=s.H:=by
  funext i;by_cases e:i=b
  ·subst e;rw[bs,k]
  rw[bu _ _ _ _ e]
 rw[this];exact h
end steps
end
section
def cK{k:Type}(f:Nat->k):List (Nat×k)->Nat->k
 | []=>f
 |(d,v)::r=>cK (aE f d v) r
theorem jM{k:Type}: ∀(l:List (Nat×k)) (f:Nat->k) (r:Nat),(∀v,(r,v)∉l)->cK f l r=f r
 | [],_,_,_=>rfl
 |(d,v)::l,f,r,h=>by rw[cK,jM l _ r λa b=>h a (dV _ b),bu _ _ _ _ (by intro e;subst e;exact h v (ev ..))]
theorem uc{k:Type}: ∀(l:List (Nat×k)) (f g:Nat->k) (r:Nat),(∃v,(r,v)∈l)->cK f l r=cK g l r
 | [],_,_,_,⟨v,h⟩=>by simp at h
 |(d,v)::l,f,g,r,h=>by
  simp only[cK];by_cases b: ∃a,(r,a)∈l
  ·exact uc l _ _ r b
  have c:r=d:=by
   obtain⟨a,bG⟩:=h;rcases dy.1 bG with e|bG
   ·cases e;rfl
   exact a6 ⟨a,bG⟩ b
  subst c;rw[jM l _ r λa bG=>b ⟨a,bG⟩,jM l _ r λa bG=>b ⟨a,bG⟩,bs,bs]
structure cg where
 dX:List (Nat×V)
 hs:List (Nat×Option E):=[]
 us:List (Nat×Bool):=[]
def cg.app(e:cg)(s:S):S:={t:=cK s.t e.dX,H:=cK s.H e.hs,u:=cK s.u e.us}
structure fb where
 dX:List Nat
 lb:List Nat:=[]
def fb.same(r:fb)(s a:S):Prop:=(∀i,i∈r.dX->s.t i=a.t i)/\ ∀k,k∈r.lb->s.H k=a.H k/\s.u k=a.u k
def f'(K:Ctx)(ops:Array Oper)(o:Oper)(s e:S):Prop:=
 ∀h a w next Q,Rel K h s a w->(∀b c d,Rel K b e c d->next c d)->
  if Region.wanted o (yielded ops a.tmps) then o.wp K.P a w next Q\/(o.asks K.P a w/\LetsOut Q) else next (a.put o.dst undef) w
variable {K:Ctx}{ops:Array Oper}{o:Oper}{s:S}{j t:Nat}{want:Bool}
theorem f'.of{b:S}(c:o.guard=none)(h:dh K o s b):f' K ops o s b:=by
 intro β a w next Q d e
 rw[bh (by simp[Region.wanted,c])];exact .inl (h β a w next Q d e)
theorem f'.er{s':S}(c:o.guard=some (j,want))(d:(ops[j]?).bind (·.dst)=some t)(e:s.t t= .t (.bool want))(h:dh K o s s'):f' K ops o s s':=by
 intro β a w next Q b i
 have k:yielded ops a.tmps j=some want:=by unfold yielded;rw[d];simp[b.bool e]
 rw[bh (by simp[Region.wanted,c,k])];exact .inl (h β a w next Q b i)
theorem f'.out(c:o.guard=some (j,want))(d:(ops[j]?).bind (·.dst)=some t)(e:s.t t= .t (.bool (!want)))(h: ∀i,o.dst=some i->Nat.blt i K.nt=true):f' K ops o s (s.put o.dst (.bI [])):=by
 intro k a w next Q b l
 have m:yielded ops a.tmps j=some (!want):=by unfold yielded;rw[d];simp[b.bool e]
 rw[bp (by simp[Region.wanted,c,m])];exact l k _ w (b.put o.dst h Ea)
theorem f'.skip(c:o.guard=some (j,want))(d:(ops[j]?).bind (·.dst)=some t)(e:s.t t= .bI [])(h: ∀i,o.dst=some i->Nat.blt i K.nt=true):f' K ops o s (s.put o.dst (.bI [])):=by
 intro k a w next Q b l
 have hw:=b.WA (ops:=ops) (want:=want) d e;rw[bp (by simp[Region.wanted,c,hw])];exact l k _ w (b.put o.dst h Ea)
def m0{k:Type}:List (List (Nat×k))->Nat->(Nat->Bool)->(Nat->k)->Nat->k
 | [],_,_,f=>f
 |l::bD,i,L,f=>m0 bD (i+1) L (bif L i then cK f l else f)
theorem wD{k:Type}: ∀(bD:List (List (Nat×k))) (i:Nat) (L a:Nat->Bool) (f b:Nat->k) (r:Nat),f r=b r->(∀j l,bD[j]? =some l->(∃v,(r,v)∈l)->L (i+j)=a (i+j))->m0 bD i L f r=m0 bD i a b r
 | [],_,_,_,_,_,_,h,_=>h
 |l::bD,i,L,a,f,b,r,h,e=>by
  simp only[m0];refine wD bD (i+1) L a _ _ r ?_ λj m n c=>by have:=e (j+1) m n c;rwa [show i+(j+1)=i+1+j by omega] at this
  by_cases d: ∃v,(r,v)∈l
  ·have:=e 0 l rfl d;rw[nF] at this;rw[<-this];cases L i with
   |true=>exact uc l _ _ r d
   |false=>exact h
  have o: ∀g:Nat->k,cK g l r=g r:=λg=>jM l g r λv c=>d ⟨v,c⟩;cases L i<;>cases a i<;>simp only[cond_true,cond_false,o]<;>exact h
theorem DB{R:Type}: ∀(bD:List (List (Nat×R))) (i:Nat) (L:Nat->Bool) (f:Nat->R) (r k:Nat) (l:List (Nat×R)),bD[k]? =some l->(∃v,(r,v)∈l)->L (i+k)=true->
  (∀j d,k<j->bD[j]? =some d->(∃v,(r,v)∈d)->L (i+j)=false)-> ∀g:Nat->R,m0 bD i L f r=cK g l r
 |e::bD,i,L,f,r,0,l,b,h,m,a,g=>by
  simp at b;subst b;simp only[m0];rw[nF] at m;rw[m,cond_true,wD bD (i+1) L (λ_=>false) (cK f e) (cK g e) r (uc e _ _ r h) (λj d n c=>by
   have:=a (j+1) d O n c
   rwa [show i+(j+1)=i+1+j by omega] at this)]
  have o: ∀(bD:List (List (Nat×R))) (i:Nat) (f:Nat->R),m0 bD i (λ_=>false) f=f:=by
   intro bD;induction bD with
   |nil=>intro _ _;rfl
   |cons l bD p=>intro i f;simp only[m0,cond_false];exact p _ _
  rw[o]
 |e::bD,i,L,f,r,k+1,l,b,h,m,a,g=>by
  simp at b;simp only[m0];exact DB bD (i+1) L _ r k l b h (by rwa [show i+1+k=i+(k+1) by omega]) (λj d q n c=>by
   have:=a (j+1) d O n c
   rwa [show i+(j+1)=i+1+j by omega] at this) g
 | [],_,_,_,_,_,_,b,_,_,_,_=>by simp at b
def gh(a:List cg)(i:Nat)(L:Nat->Bool)(s:S):S:={t:=m0 (a.map (·.dX)) i L s.t,H:=m0 (a.map (·.hs)) i L s.H,u:=m0 (a.map (·.us)) i L s.u}
def jN(a:Array Oper):Nat->Nat->Nat->Bool
 |0,_,_=>false
 |f+1,i,j=>match a[j]? with
  |none=>false
  |some o=>o.after.toList.any λe=>Region.binds .any e&&(Nat.beq e.on i||jN a f i e.on)
def nz{k:Type}(l:List (Nat×k))(r:List Nat):Bool:=l.any λp=>r.any λx=>Nat.beq p.1 x
def na{k R:Type}(l:List (Nat×k))(m:List (Nat×R)):Bool:=l.any λp=>m.any λq=>Nat.beq p.1 q.1
def iM(e:cg)(r:fb)(a:cg)(b:fb):Bool:=
 nz e.dX b.dX||nz a.dX r.dX||na e.dX a.dX||nz e.hs b.lb||nz a.hs r.lb||na e.hs a.hs||nz e.us b.lb||nz a.us r.lb||na e.us a.us
def j4(b:Array Oper)(n:Nat):Nat->List (cg×fb)->Bool
 |_,[]=>true
 |i,(e,r)::a=>go i e r (i+1) a&&j4 b n (i+1) a
where
 go (i:Nat) (e:cg) (r:fb):Nat->List (cg×fb)->Bool
  |_,[]=>true
  |j,(c,d)::a=>(!iM e r c d||jN b n i j)&&go i e r (j+1) a
def o1:Nat->List Oper->Bool
 |_,[]=>true
 |i,o::a=>o.after.toList.all (λe=> !Region.binds .any e||Nat.blt e.on i)&&o1 (i+1) a
theorem Ed{b:Array Oper}{n i:Nat}{e:cg}{r:fb}: ∀(l:List (cg×fb)) (j:Nat),j4.go b n i e r j l=true-> ∀(k:Nat) a c,l[k]? =some (a,c)->iM e r a c=true->jN b n i (j+k)=true
 | [],_,_,_,_,_,h,_=>by simp at h
 |(o,p)::l,j,h,0,a,c,d,m=>by
  simp at d;obtain⟨rfl,rfl⟩:=d;simp only[j4.go,Bool.and_eq_true,m,Bool.not_true,Bool.false_or] at h;exact h.1
 |(o,p)::l,j,h,k+1,a,c,d,m=>by
  simp at d;simp only[j4.go,Bool.and_eq_true] at h
  have:=Ed l (j+1) h.2 k a c d m
  rwa [show j+1+k=j+(k+1) by omega] at this
theorem wF{b:Array Oper}{n:Nat}: ∀(l:List (cg×fb)) (a:Nat),j4 b n a l=true-> ∀(i j:Nat) e r c d,l[i]? =some (e,r)->l[j]? =some (c,d)->i<j->iM e r c d=true->jN b n (a+i) (a+j)=true
 | [],_,_,_,_,_,_,_,_,h,_,_,_=>by simp at h
 |(q,s)::l,a,h,0,j,e,r,c,d,k,m,o,p=>by
  simp at k;obtain⟨rfl,rfl⟩:=k;simp only[j4,Bool.and_eq_true] at h;cases j with
  |zero=>omega
  |succ j=>
   simp at m
   have:=Ed l (a+1) h.1 j c d m p
   rwa [show a+1+j=a+(j+1) by omega] at this
 |(q,s)::l,a,h,i+1,j,e,r,c,d,k,m,o,p=>by
  simp only[j4,Bool.and_eq_true] at h;cases j with
  |zero=>omega
  |succ j=>
   simp at k m
   have:=wF l (a+1) h.2 i j e r c d k m O p
   rwa [show a+1+i=a+(i+1) by omega,show a+1+j=a+(j+1) by omega] at this
theorem ND(e:cg)(r:fb)(c:cg)(d:fb):iM e r c d=iM c d e r:=by
 have n: ∀{i k:Type} (l:List (Nat×i)) (m:List (Nat×k)),na l m=na m l:=by
  intro i k l m;rw[Bool.eq_iff_iff];simp only[na,List.any_eq_true];constructor
  ·rintro⟨p,a,q,b,h⟩;exact⟨q,b,p,a,by have:=b9 h;simp[this]⟩
  rintro⟨p,a,q,b,h⟩;exact⟨q,b,p,a,by have:=b9 h;simp[this]⟩
 unfold iM
 grind
def F0(b:Array Oper)(a:Array Bool):Prop:= ∀j o,b[j]? =some o->a.getD j true=true-> ∀e∈o.after,Region.binds .any e=true->a.getD e.on false=true
theorem BF{c:Array Oper}{a:Array Bool}(n:F0 c a): ∀(f i j:Nat),jN c f i j=true->(∀o,c[j]? =some o-> ∀e∈o.after,Region.binds .any e=true->a.getD e.on false=true)->a.getD i false=true
 |0,_,_,h,_=>by simp[jN] at h
 |f+1,i,j,h,p=>by
  unfold jN at h;cases l:c[j]? with
  |none=>rw[l] at h;simp at h
  |some o=>
   rw[l] at h;simp only[List.any_eq_true,Bool.and_eq_true,Bool.or_eq_true] at h;obtain⟨e,q,r,d⟩:=h;have cc:=p o l e (by simpa using q) r;rcases d with d|d
   ·have:=b9 d;rw[<-this];exact cc
   refine BF n f i e.on d λs m=>n e.on s m ?_;rw[nB] at cc⊢;cases k:a[e.on]? with
   |none=>rw[k] at cc;simp at cc
   |some b=>rw[k] at cc;simpa using cc
def rr(K:Ctx)(a:Array Oper):List Oper->List (cg×fb)->S->(S->Prop)->Prop
 | [],[],s,Q=>Q s
 |o::os,(e,r)::c,s,Q=>(∀b,r.same b s->f' K a o b (e.app b))/\rr K a os c (e.app s) Q
 |_,_,_,_=>False
end
set_option linter.unusedVariables false
set_option linter.unusedSimpArgs false
section
theorem Dc{k:Type}: ∀(bD:List (List (Nat×k))) (i:Nat) (L:Nat->Bool) (f:Nat->k),m0 bD (i+1) L f=m0 bD i (λj=>L (j+1)) f
 | [],_,_,_=>rfl
 |l::bD,i,L,f=>by simp only[m0];exact Dc bD (i+1) L _
theorem yb(e:cg)(a:List cg)(L:Nat->Bool)(s:S):gh (e::a) 0 L s=gh a 0 (λj=>L (j+1)) (bif L 0 then e.app s else s):=by unfold gh;simp only[List.map_cons,m0,Nat.zero_add,Dc];cases L 0<;>rfl
theorem wN{K:Ctx}{b:Array Oper}: ∀(l:List Oper) (es:List (cg×fb)) (s:S) (Q:S->Prop),rr K b l es s Q->
  l.length=es.length/\Q (gh (es.map (·.1)) 0 (λ_=>true) s)/\
  ∀(i:Nat) o e r,l[i]? =some o->es[i]? =some (e,r)-> ∀c,r.same c (gh (es.map (·.1)) 0 (λj=>Nat.blt j i) s)->f' K b o c (e.app c)
 | [],[],s,Q,h=>⟨rfl,h,λi o e r d=>by simp at d⟩
 |o::os,(e,r)::es,s,Q,h=>by
  obtain⟨p,q⟩:=h;obtain⟨ay,a2,a3⟩:=wN os es _ Q q;refine⟨by simp[ay],?_,?_⟩
  ·simp only[List.map_cons,yb,cond_true];exact a2
  intro i v w x d k c a;cases i with
  |zero=>
   simp at d k;obtain⟨rfl,rfl⟩:=k;subst d;refine p c ?_
   have:gh (List.map (·.1) ((e,r)::es)) 0 (λj=>Nat.blt j 0) s=s:=by
    simp only[List.map_cons,yb];have m: ∀{n:Type} (bD:List (List (Nat×n))) (i:Nat) (f:Nat->n),m0 bD i (λj=>Nat.blt (j+1) 0) f=f:=by
     intro n bD;induction bD with
     |nil=>intro _ _;rfl
     |cons l bD y=>intro i f;simp only[m0];exact y _ _
    show gh (es.map (·.1)) 0 (λj=>Nat.blt (j+1) 0) s=s;unfold gh;simp only[m]
   rw[this] at a;exact a
  |succ i=>
   simp at d k;refine a3 i v w x d k c ?_;simp only[List.map_cons,yb] at a;exact a
 | [],_::_,_,_,h=>h.elim
 |_::_,[],_,_,h=>h.elim
variable {k:Type}{r:fb}{x n i:Nat}{v:k}{a:Array Bool}{e:cg}
theorem yh{l:List (Nat×k)}{r:List Nat}(h:(x,v)∈l)(a:x∈r):nz l r=true:=by unfold nz;rw[nJ];exact⟨(x,v),h,by rw[nJ];exact⟨x,a,aY⟩⟩
theorem BZ{R:Type}{l:List (Nat×k)}{m:List (Nat×R)}{a:R}(h:(x,v)∈l)(b:(x,a)∈m):na l m=true:=by unfold na;rw[nJ];exact⟨(x,v),h,by rw[nJ];exact⟨(x,a),b,aY⟩⟩
section
variable {K:Ctx}{l:List Oper}{es:List (cg×fb)}{s:S}
theorem yF{c:Array Oper}(proj:cg->List (Nat×k))(H:j4 c n 0 es=true)(L:es[i]? =some (e,r))(f:Nat->k)(x:Nat)
  (o: ∀d h v,(x,v)∈proj d->iM e r d h=true)
  (q: ∀j,jN c n j i=true->a.getD j false=true) (w: ∀j,j<es.length->jN c n i j=true->a.getD j true=false) (A:a.getD i true=false):
  m0 ((es.map (·.1)).map proj) 0 (λj=>a.getD j true) f x=m0 ((es.map (·.1)).map proj) 0 (λj=>Nat.blt j i) f x:=by
 refine wD _ 0 _ _ f f x rfl ?_;intro j W m ⟨v,Q⟩;rw[dm];simp only[List.map_map,List.getElem?_map] at m;cases y:es[j]? with
 |none=>rw[y] at m;cases m
 |some p=>
  obtain⟨d,h⟩:=p;rw[y] at m;simp at m;subst m;have B:j<es.length:=(bt.1 y).1;rcases Nat.lt_trichotomy j i with z|rfl|C
  ·have aR:=wF es 0 H j i d h e r y L z (by rw[ND];exact o d h v Q);rw[dm,dm] at aR;have D:=q j aR;have R:Nat.blt j i=true:=by simpa[Nat.blt_eq] using z
   rw[R];rw[nB] at D⊢;cases F:a[j]? with
   |none=>rfl
   |some b=>rw[F] at D;simpa using D
  ·rw[A];symm;cases aR:Nat.blt j j with
   |false=>rfl
   |true=>simp[Nat.blt_eq] at aR
  have aR:=wF es 0 H i j e r d h L y C (o d h v Q);rw[dm,dm] at aR;rw[w j B aR];symm;cases G:Nat.blt j i with
  |false=>rfl
  |true=>simp[Nat.blt_eq] at G;omega
theorem yo{b:Array Oper}(proj:cg->List (Nat×k))(L:j4 b n 0 es=true)(F:es[i]? =some (e,r))(f:Nat->k)(y:i<a.size)
  (z: ∀x h w v Q,(x,v)∈proj h->(x,Q)∈proj e->iM e r h w=true) (m: ∀j,j<es.length->jN b n i j=true->a.getD j true=false) (R:a.getD i true=false):
  cK (m0 ((es.map (·.1)).map proj) 0 (λj=>a.getD j true) f) (proj e)=m0 ((es.map (·.1)).map proj) 0 (λj=>(a.setIfInBounds i true).getD j true) f:=by
 funext x;have o: ∀j,j≠i->(a.setIfInBounds i true).getD j true=a.getD j true:=λj A=>by
  simp[Array.getD_eq_getD_getElem?,Array.getElem?_setIfInBounds_ne (Ne.symm A)]
 have B:(a.setIfInBounds i true).getD i true=true:=by
  simp[Array.getD_eq_getD_getElem?,y]
 have C:((es.map (·.1)).map proj)[i]? =some (proj e):=by simp[F]
 by_cases G: ∃v,(x,v)∈proj e
 ·obtain⟨H,q⟩:=G;symm;refine DB _ 0 _ f x i (proj e) C ⟨H,q⟩ (by rw[dm];exact B) ?_ _;intro j W A d ⟨v,D⟩;rw[dm,o j O];simp only[List.map_map,List.getElem?_map] at d;cases c:es[j]? with
  |none=>rw[c] at d;cases d
  |some p=>
   obtain⟨h,w⟩:=p;rw[c] at d;simp at d;subst d;have aR:=wF es 0 L i j e r h w F c A (z x h w v H D q);rw[dm,dm] at aR;exact m j (bt.1 c).1 aR
 rw[jM _ _ _ λv D=>G ⟨v,D⟩];refine wD _ 0 _ _ f f x rfl ?_
 grind
theorem Dp: ∀(l:List Oper) (a:Nat),o1 a l=true-> ∀(i:Nat) o,l[i]? =some o-> ∀e∈o.after,Region.binds .any e=true->e.on<a+i
 | [],_,_,_,_,h=>by simp at h
 |o::l,a,h,0,m,b=>by
  simp at b;subst b;intro e d k;simp only[o1,Bool.and_eq_true,List.all_eq_true,Bool.or_eq_true] at h;rcases h.1 e (by simpa using d) with c|c
  ·rw[k] at c;cases c
  simpa[Nat.blt_eq] using c
 |o::l,a,h,i+1,m,b=>by
  simp at b;simp only[o1,Bool.and_eq_true] at h;intro e d k
  have:=Dp l (a+1) h.2 i m b e d k;omega
theorem PL{Q:S->Prop}{ry:Exit->Act->World->Prop}(hp:j4 l.toArray l.length 0 es=true)(he:o1 0 l=true)(cy:rr K l.toArray l es s Q)
  (AE: ∀g a w,Rel K g (gh (es.map (·.1)) 0 (λ_=>true) s) a w->ry .normal a w):
  ∀(c:Nat) (b:Array Bool) (y:List Nat),b.size=l.length->y.Nodup->y.length=c->(∀i,b.getD i true=false↔i∈y)->F0 l.toArray b->
   ∀g a w,Rel K g (gh (es.map (·.1)) 0 (λj=>b.getD j true) s) a w->wpAny K.P .any l.toArray ry c b a w:=by
 obtain⟨hlen,_,UO⟩:=wN l es s Q cy
 -- if nothing is ready, all is done
 have hall: ∀(b:Array Bool) (y:List Nat),b.size=l.length->(∀i,b.getD i true=false↔i∈y)->y≠[]->Region.ready .any l.toArray b≠[]:=by
  intro b y G E I;have key: ∀n,(∃i,i∈y/\i<=n)-> ∃m,m∈y/\ ∀j,j<m->j∉y:=by
   intro n;induction n with
   |zero=>rintro⟨i,aG,hle⟩;exact⟨0,by rwa [show i=0 by omega] at aG,λj L=>O⟩
   |succ n l0=>
    rintro⟨i,aG,hle⟩;by_cases h: ∃i,i∈y/\i<=n
    ·exact l0 h
    have:i=n+1:=by
     rcases Nat.lt_or_ge i (n+1) with hlt|jR
     ·exact a6 ⟨i,aG,O⟩ h
     omega
    subst this;exact⟨n+1,aG,λj L Uu=>h ⟨j,Uu,O⟩⟩
  obtain⟨x,hx⟩:=w4 y I;obtain⟨m,hm,Xv⟩:=key x ⟨x,hx,cL _⟩;have UG:=(E m).2 hm;have G':m<l.length:=by
   grind
  intro R
  have:m∈Region.ready .any l.toArray b:=by
   rw[mem_ready];refine⟨UG,l[m],by simp[G'],λe Ug W=>?_⟩;have hlt:=Dp l 0 he m l[m] (bg G') e Ug W
   grind
  grind
 have M: ∀(b:Array Bool),(∀i,b.getD i true=true)->gh (es.map (·.1)) 0 (λj=>b.getD j true) s=gh (es.map (·.1)) 0 (λ_=>true) s:=by
  grind
 intro c;induction c with
 |zero=>
  intro b y G N A E bj g a w bH;have R:y=[]:=iQ A;subst R;have C: ∀i,b.getD i true=true:=λi=>by
   cases h:b.getD i true with
   |true=>rfl
   |false=>have:=(E i).1 h;simp at this
  refine⟨?_,AE g a w (by rw[<-M b C];exact bH)⟩;cases UX:Region.ready .any l.toArray b with
  |nil=>rfl
  |cons x xs=>
   have:x∈Region.ready .any l.toArray b:=by rw[UX];simp
   rw[mem_ready] at this;rw[C x] at this;exact a6 this.1 aY
 |succ c l0=>
  intro b y G N A E bj g a w bH;have I:y≠[]:=by intro e;subst e;simp at A
  refine⟨λh=>a6 h (hall b y G E I),λi aG=>?_⟩;obtain⟨q,o,dE,X⟩:=mem_ready.1 aG;have AM:i<l.length:=by
   rcases Nat.lt_or_ge i l.length with h|h
   ·exact h
   rw[Array.getElem?_eq_none (by simpa using h)] at dE;cases dE
  have AU:l[i]? =some o:=by simpa using dE
  obtain⟨⟨e,r⟩,B⟩: ∃p,es[i]? =some p:=⟨es[i]' O,by simp[show i<es.length by omega]⟩
  have D: ∀j,jN l.toArray l.length j i=true->b.getD j false=true:=λj W=>BF bj _ j i W λv7 z=>by rw[dE] at z;cases z;exact X
  have d: ∀j,j<es.length->jN l.toArray l.length i j=true->b.getD j true=false:=λj L W=>by
   cases UB:b.getD j true with
   |false=>rfl
   |true=>
    have F:=BF bj _ i j W λv7 z=>bj j v7 z UB;have U6:i<b.size:=O
    simp only[Array.getD_eq_getD_getElem?,Array.getElem?_eq_getElem U6,Option.getD_some] at F q;rw[q] at F;cases F
  have T:r.same (gh (es.map (·.1)) 0 (λj=>b.getD j true) s) (gh (es.map (·.1)) 0 (λj=>Nat.blt j i) s):=by
   refine⟨λx hx=>?_,λk hk=>⟨?_,?_⟩⟩
   ·exact yF (·.dX) hp B s.t x (λf tm v bG=>by simp[iM,yh bG hx]) D d q
   ·exact yF (·.hs) hp B s.H k (λf tm v bG=>by simp[iM,yh bG hk]) D d q
   exact yF (·.us) hp B s.u k (λf tm v bG=>by simp[iM,yh bG hk]) D d q
  have U:e.app (gh (es.map (·.1)) 0 (λj=>b.getD j true) s)=gh (es.map (·.1)) 0 (λj=>(b.setIfInBounds i true).getD j true) s:=by
   unfold cg.app gh;simp only[S.mk.injEq];refine⟨?_,?_,?_⟩
   ·exact yo (·.dX) hp B s.t O (λx f tm v c7 F h2=>by simp[iM,BZ h2 F]) d q
   ·exact yo (·.hs) hp B s.H O (λx f tm v c7 F h2=>by simp[iM,BZ h2 F]) d q
   exact yo (·.us) hp B s.u O (λx f tm v c7 F h2=>by simp[iM,BZ h2 F]) d q
  have UN:=UO i o e r AU B _ T;have Uk: ∀V pF w',Rel K V (e.app (gh (es.map (·.1)) 0 (λj=>b.getD j true) s)) pF w'->wpAny K.P .any l.toArray ry c (b.setIfInBounds i true) pF w':=by
   intro V pF w' Hj;rw[U] at Hj;have Uo:=(E i).1 q;refine l0 (b.setIfInBounds i true) (y.erase i) (by simpa using G) (N.erase i) (by rw[List.length_erase_of_mem Uo];omega) (λj=>?_) ?_ V pF w' Hj
   ·rw[N.mem_erase_iff];by_cases L:j=i
    ·subst L;simp[Array.getD_eq_getD_getElem?,show j<b.size by omega]
    simp only[Array.getD_eq_getD_getElem?,Array.getElem?_setIfInBounds_ne (Ne.symm L)]
    have:=E j;rw[nB] at this;rw[this];simp[L]
   intro j v7 z L f G3 W;by_cases G7:j=i
   ·subst G7;rw[dE] at z;cases z;exact getD_set_true (X f G3 W)
   have F:b.getD j true=true:=by
    simpa only[Array.getD_eq_getD_getElem?,Array.getElem?_setIfInBounds_ne (Ne.symm G7)] using L
   exact getD_set_true (bj j v7 z F f G3 W)
  have Y:=UN g a w (wpAny K.P .any l.toArray ry c (b.setIfInBounds i true)) ry bH Uk;unfold wpOp;rw[dE];exact Y
theorem El{Q:Exit->S->Prop}(c:List (cg×fb))(z:K.P.follows .mixedOrders=true)(A:j4 l.toArray l.length 0 c=true)(B:o1 0 l=true)
  (d:rr K l.toArray l c s λC=>Q .normal C):b5 K (.region n l.toArray true) s Q:=by
 intro e a w R k D;obtain⟨_,F,_⟩:=wN l c s _ d;refine wp_region_any z ?_;have m:Rel K e s a {w with drawn:=w.drawn+1}:=yT k;have G:gh (c.map (·.1)) 0 (λj=>(Array.replicate l.toArray.size false).getD j true) s=s:=by
  have v:=(wN l c s _ d).1;have b: ∀{p:Type} (bD:List (List (Nat×p))) (L:Nat->Bool) (i:Nat) (f:Nat->p),(∀j,j<bD.length->L (i+j)=false)->m0 bD i L f=f:=by
   intro p bD L;induction bD with
   |nil=>intro _ _ _;rfl
   |cons x bD H=>
    intro i f h;simp only[m0];have y:=h 0 aY;rw[nF] at y;rw[y,cond_false];exact H (i+1) f λj q=>by have:=h (j+1) bY;rwa [show i+(j+1)=i+1+j by omega] at this
  have r: ∀j,j<c.length->(Array.replicate l.toArray.size false).getD (0+j) true=false:=λj q=>by
   rw[dm,nB,Array.getElem?_replicate,bh bY];rfl
  unfold gh;rw[b _ _ _ _ (by simpa using r),b _ _ _ _ (by simpa using r),b _ _ _ _ (by simpa using r)]
 refine PL A B d (λe a w k=>D _ _ _ _ _ F k) l.toArray.size (Array.replicate l.toArray.size false) (List.range l.length) aY List.nodup_range aY (λi=>?_) ?_ e a _ (by rw[G];exact m)
 ·rw[nB,Array.getElem?_replicate,q9]
  grind
 intro j o W q;rw[nB,Array.getElem?_replicate] at q
 grind
end
end
abbrev ab(n:Int):V:= .t (.int .i64 n)
abbrev a7(b:Bool):V:= .t (.bool b)
abbrev cu(s:List UInt8):V:= .t (.str s)
abbrev Jj(a:List (List T)):V:= .t (.aa a)
abbrev hQ(n:Int):List T:=[.int .i64 n]
abbrev l4(b:UInt8):List T:=[.int .u8 (b.toNat:Nat)]
def hL(P:Program)(f:FuncId):Prop:= ∃a,P.funcs[f]? =some a/\(a.name== "runtime.NumGoroutine")=false/\a.body.isNone=false
section
variable {K:Ctx}{s:S}{Q:Exit->S->Prop}
variable {l:List Oper}
theorem CQ{b:Array Oper}{Q:S->Prop}{c:S}(k:s.le K c)(h:mC K b l c Q):mC K b l s Q:=
  λm a w n o p=>let ⟨e,i⟩:=k m a w o;h e a w n i p
theorem JY{i:Nat}(k:S)(h:mC K l.toArray l s λm=>m.le K k)(n:Q .normal k):b5 K (.region i l.toArray false) s Q:=by intro o a w p q r;refine wp_region_lit (h o a w p q λm b v x y c=>?_);obtain⟨A,e⟩:=y b v x c;exact r _ _ _ _ _ n e
theorem bK.eq{P:Program}{H:Nat->Option E}{o:Oper}{a:List V}{v c7:V}(h:bK P H o a v)(e:v=c7):bK P H o a c7:=e▸h
section
variable {K:Ctx}{s:S}{d:Option Tmp}{ty:TypeId}{pos:String}{af:Array Edge}{g:Option (Nat×Bool)}
variable {t:TypeId}{u:TypeDesc}{z:Value}{gen size bytes:Nat}
end
end
theorem ud(b:Bool){P:Prop}(a:b=false->P)(c:b=true->P):P:=by
 cases b with
 |false=>exact a rfl
 |true=>exact c rfl
theorem eB.of_eq{b a:List V}(h:b=a):eB b a:=h▸eB.refl b
section
variable {K:Ctx}{s:S}{ops:Array Oper}{rest:List Oper}{Q:S->Prop}{d:Nat}{ty:TypeId}{pos:String}{af:Array Edge}{j:Nat}{want:Bool}{t:Nat}
end
section
mutual
def V.c6(L:List Nat):V->V
  | .ref id a=> .ref (L.getD id 0) a
  | .aM id gen b a len=> .aM (L.getD id 0) gen b a len
  | .ca id gen b i a=> .ca (L.getD id 0) gen b i a
  | .agg cs=> .agg (gA L cs)
  | .bI cs=> .bI (gA L cs)
  | .fn f cs=> .fn f (gA L cs)
  | .t x=> .t x
  | .aT x=> .aT x
  | .cr=> .cr
def gA(L:List Nat):List V->List V
  | []=>[]
  |c::cs=>c.c6 L::gA L cs
end
def E.c6(L:List Nat):E->E
  | .cells cs=> .cells (gA L cs)
  | .arr ty gen b a=> .arr ty gen b a
  | .aw c m gen a d=> .aw c m gen a (d.map λh=>(h.1,h.2.1,h.2.2.c6 L))
def E.flat:E->Bool
  | .cells _=>true
  |_=>false
theorem lO{L:List Nat}: ∀cs:List V,(gA L cs).length=cs.length
  | []=>rfl
  |c::cs=>by simp[gA,lO cs]
theorem yD{L:List Nat}: ∀(cs:List V) (i:Nat),(gA L cs)[i]? =(cs[i]?).map (V.c6 L)
  | [],_=>by simp[gA]
  |c::cs,0=>by simp[gA]
  |c::cs,i+1=>by simp[gA,yD cs i]
variable {L:List Nat}{w:World}{X:Nat->Prop}
theorem xe{a:List V}{i:Nat}{c:V}(h:(gA L a)[i]? =some c): ∃b,a[i]? =some b/\c=b.c6 L:=by
  rw[yD] at h
  grind
theorem aQ.c6{β β':Map}{v:V}{u:Value}(h:aQ β w X v u)(e: ∀k x,β k=some x->β' (L.getD k 0)=some x):aQ β' w X (v.c6 L) u:=by
  induction h with
  |t x v h=>exact .t x v h
  |agg cs r o _ s=>exact .agg _ r (by rw[lO];exact o) (λi c u p y=>by obtain⟨z,A,rfl⟩:=xe p;exact s i z u A y)
  |bI cs r o _ s=>exact .bI _ r (by rw[lO];exact o) (λi c u p y=>by obtain⟨z,A,rfl⟩:=xe p;exact s i z u A y)
  |ref id d b l=>exact .ref _ d b (e _ _ l)
  |aT cells b d f l D p F=>exact .aT cells b d f l D p F
  |aM id gen a d len B b n ty m l G H K o Q=>exact .aM _ gen a d len B b n ty m (e _ _ l) G H K o Q
  |fy id gen a m l=>exact .fy _ gen a m (e _ _ l)
  |hS id gen a d len v q g C l m=>exact .hS _ gen a d len v q g C (e _ _ l) m
  |ca id gen a i d b m l=>exact .ca _ gen a i d b m (e _ _ l)
  |iC id gen a i d v q g C l m=>exact .iC _ gen a i d v q g C (e _ _ l) m
  |fn f cs r o _ s=>exact .fn f _ r (by rw[lO];exact o) (λi c u p y=>by obtain⟨z,A,rfl⟩:=xe p;exact s i z u A y)
  |cr v=>exact .cr v
def gS(L:List Nat)(a:Map):Map:=⟨λk=>(L[k]?).bind a,λk b=> ∃id,L[k]? =some id/\a.n id b⟩
def ef:Nat->(Nat->Bool)
  |0=>e5
  |n+1=>aE (ef n) n true
theorem gN: ∀{n k:Nat},ef n k=true↔k<n
  |0,k=>by simp[ef,e5]
  |n+1,k=>by
    by_cases h:k=n
    · subst h;simp[ef,bs]
    · rw[ef,bu _ _ _ _ h,gN];omega
mutual
theorem aQ.mc{β:Map}{w:World}{X:Nat->Prop}{L:List Nat}: ∀(v:V) (u:Value),aQ β w X (v.c6 L) u->v.ok (ef L.length)=true->aQ (gS L β) w X v u
  | .t x,u,h,_=>by
    simp only[V.c6] at h;cases h with|t _ _ h=>exact .t _ _ h
  | .aT x,u,h,_=>by
    simp only[V.c6] at h;cases h with|aT _ b l f a D r s=>exact .aT _ b l f a D r s
  | .cr,u,_,_=> .cr u
  | .ref id l,u,h,d=>by
    have e:id<L.length:=gN.1 (by simpa[V.ok] using d);have o:gS L β id=β (L.getD id 0):=by simp[gS,List.getElem?_eq_getElem e]
    simp only[V.c6] at h;cases h with|ref _ _ b a=>exact .ref _ _ b (by rw[o];exact a)
  | .aM id gen y l len,u,h,d=>by
    have e:id<L.length:=gN.1 (by simpa[V.ok] using d);have o:gS L β id=β (L.getD id 0):=by simp[gS,List.getElem?_eq_getElem e]
    simp only[V.c6] at h;cases h with
    |aM _ _ _ _ _ A b n ty m a F k G d B=>exact .aM _ _ _ _ _ A b n ty m (by rw[o];exact a) F k G d B
    |fy _ _ _ m a=>exact .fy _ _ _ m (by rw[o];exact a)
    |hS _ _ _ _ _ _ q g C a m=>exact .hS _ _ _ _ _ _ q g C (by rw[o];exact a) m
  | .ca id gen y i l,u,h,d=>by
    have e:id<L.length:=gN.1 (by simpa[V.ok] using d);have o:gS L β id=β (L.getD id 0):=by simp[gS,List.getElem?_eq_getElem e]
    simp only[V.c6] at h;cases h with
    |ca _ _ _ _ _ b m a=>exact .ca _ _ _ _ _ b m (by rw[o];exact a)
    |iC _ _ _ _ _ _ q g C a m=>exact .iC _ _ _ _ _ _ q g C (by rw[o];exact a) m
  | .agg cs,u,h,d=>by
    simp only[V.c6] at h;cases h with
    |agg _ p k s=>exact .agg _ p (by rw[lO] at k;exact k) (λi c u r z=>xp cs (λi=>p[i]?) (by simpa[V.ok] using d) s i c u r z)
  | .bI cs,u,h,d=>by
    simp only[V.c6] at h;cases h with
    |bI _ p k s=>exact .bI _ p (by rw[lO] at k;exact k) (λi c u r z=>xp cs (λi=>p[i]?) (by simpa[V.ok] using d) s i c u r z)
  | .fn f cs,u,h,d=>by
    simp only[V.c6] at h;cases h with
    |fn _ _ p k s=>exact .fn _ _ p (by rw[lO] at k;exact k) λi c u r z=>xp cs (λi=>p[i]?) (by simpa[V.ok] using d) s i c u r z
theorem xp{W:Map}{w:World}{X:Nat->Prop}{L:List Nat}: ∀(cs:List V) (a:Nat->Option Value),e6 (ef L.length) cs=true->
    (∀i c u,(gA L cs)[i]? =some c->a i=some u->aQ W w X c u)-> ∀(i:Nat) c u,cs[i]? =some c->a i=some u->aQ (gS L W) w X c u
  | [],_,_,_,_,_,_,h,_=>by simp at h
  |c::cs,a,b,h,0,_,u,d,e=>by
    simp at d;subst d;simp[e6] at b;exact aQ.mc c u (h 0 _ u (by simp[gA]) e) b.1
  |c::cs,a,b,h,i+1,k,u,d,e=>by simp at d;simp[e6] at b;exact xp cs (λi=>a (i+1)) b.2 (λi c u l m=>h (i+1) c u (by simpa[gA] using l) m) i k u d e
end
theorem cF.mc{β:Map}{w:World}{X:Nat->Prop}{L:List Nat}: ∀{a:List V} {b:List Value},cF β w X (gA L a) b->e6 (ef L.length) a=true->cF (gS L β) w X a b
  | [],[],_,_=>trivial
  |v::a,u::b,h,c=>by
    simp[e6] at c;exact⟨aQ.mc v u h.1 c.1,cF.mc h.2 c.2⟩
  | [],_::_,h,_=>h.elim
  |_::_,[],h,_=>h.elim
def dx:List E->Nat->(Nat->Option E)
  | [],_=>j0
  |e::a,k=>aE (dx a (k+1)) k (some e)
theorem DZ: ∀(a:List E) (k i:Nat),dx a k (k+i)=a[i]?
  | [],_,_=>by simp[dx,j0]
  |e::a,k,0=>by rw[nF,dx,bs];simp
  |e::a,k,i+1=>by rw[dx,bu _ _ _ _ O,show k+(i+1)=(k+1)+i by omega,DZ a (k+1) i];simp
theorem qB(a:List E)(i:Nat):dx a 0 i=a[i]? :=by have:=DZ a 0 i;rwa [dm] at this
def fO(X:Nat->Prop)(a:Map)(H:Nat->Option E)(b:Nat):Prop:=X b\/ ∃id,H id≠none/\At a id b
structure mo (G:ee) (er:List E) (β:Map) (w:World) (X:Nat->Prop):Prop where
  cU: ∀k,er.length<=k->β k=none
  dt: ∀k b,er.length<=k-> ¬β.n k b
  inj: ∀id hP b,At β id b->At β hP b->id=hP
  place: ∀k b,At β k b->b<w.heap.size/\ ¬X b/\G.sY<=b
  heap: ∀k e,er[k]? =some e->b4 β w (fO X β (dx er 0)) k e
structure Left (fZ β:Map) (er out:List E) (w w':World) (X:Nat->Prop) (r:V) (u:Value):Prop where
  ext:Ext (λb=> ∃k,At fZ k b) w w'
  base:hZ er.length fZ β w.heap.size
  gF:Shaped fZ w w'
  cU: ∀k,out.length<=k->β k=none
  dt: ∀k b,out.length<=k-> ¬β.n k b
  inj: ∀id hP b,At β id b->At β hP b->id=hP
  fresh: ∀k b,At β k b->((∃bz,bz<er.length/\At fZ bz b)\/w.heap.size<=b)/\b<w'.heap.size
  heap: ∀k e,out[k]? =some e->b4 β w' (fO X β (dx out 0)) k e
  res:aQ β w' (fO X β (dx out 0)) r u
def Dm(P:Program)(G:ee)(f:FuncId)(c:List E)(args:List V){ι:Type}(k:ι->Prop)(r:ι->V)(d:ι->List E):Prop:=
  ∀(w:World) (X:Nat->Prop) (a:Map) (h:List Value),G.ok w->(∀b,X b->b<w.heap.size)->mo G c a w X->cF a w (fO X a (dx c 0)) args h->
    Calls P f h.toArray w λe l=> ∃u i m,e= .returned u/\k i/\Left a m c (d i) w l X (r i) u
def Ctx.ec(P:Program)(G:ee)(w:World)(X:Nat->Prop)(cB:Nat)(fZ:Map)(nt:Nat):Ctx:={P,G,w0:=w,X,cB,fZ,nt}
def kM(a:List E)(args:List V):S:={t:=rf args 0,H:=dx a 0,u:=ef a.length}
theorem Rel.kM{P:Program}{G:ee}{nt:Nat}{a:List E}{W:Map}{args:List V}{c:List Value}(q:G.ok w)(r: ∀b,X b->b<w.heap.size)(d:mo G a W w X)
    (h:cF W w (fO X W (dx a 0)) args c) (v:c.length<=nt):
    Rel (Ctx.ec P G w X a.length W nt) W (Lift.kM a args) {tmps:=c.toArray++Array.replicate (nt-c.toArray.size) undef,defers:=[]} w:=by
  have k: ∀id b,At W id b->id<a.length:=by
    rintro id b (⟨g,h⟩|h)
    · apply ly;intro l;rw[d.cU id l] at h;cases h
    · exact ly λl=>d.dt id b l h
  refine {ext:=Ext.refl _ _,k3:=q,ln:= ?_,gq:= ?_,base:=hZ.refl _ _ _,gF:=Shaped.refl _ _,low:=λid h=>gN.2 h,cU:= ?_,dt:= ?_,
           mV:=d.inj,inj:=d.inj,fresh:=λid b h=>⟨.inl ⟨id,k id b h,h⟩,(d.place id b h).1⟩,heap:= ?_,ct:= ?_,nt:= ?_,defers:=rfl}
  · rintro b ⟨id,_,h⟩;exact(d.place id b h).2.2
  · intro b p;exact⟨r b p,λ⟨id,_,h⟩=>(d.place id b h).2.1 p⟩
  · intro id hid;apply d.cU;apply Nat.le_of_not_lt;intro k;have m:=gN.2 k;have n:ef a.length id=false:=hid
    grind
  · intro id b hid h;have m:=gN.2 (k id b (.inr h));have n:ef a.length id=false:=hid
    grind
  · intro id e s;have o:a[id]? =some e:=by rw[<-qB];exact s
    refine⟨gN.2 ?_,d.heap id e o⟩
    grind
  · intro i;have m:=BT args c 0 h i;rw[dm] at m;have n:(c.toArray++Array.replicate (nt-c.toArray.size) undef).getD i undef=c.getD i undef:=by
      simp only[Array.getD_eq_getD_getElem?,List.getD_eq_getElem?_getD,Array.getElem?_append]
      grind
    simp only[n];exact m
  · simp[Ctx.ec];omega
end
section
def iH{R:Type}(f:Nat->R):List Nat->(Nat->R)->(Nat->R)
 | [],_=>f
 |l::L,g=>aE (iH f L λk=>g (k+1)) l (g 0)
theorem kz{k:Type}{f:Nat->k}: ∀{L:List Nat} {g:Nat->k} {id:Nat},id∉L->iH f L g id=f id
 | [],_,_,_=>rfl
 |l::L,g,id,h=>by simp at h;rw[iH,bu _ _ _ _ h.1];exact kz h.2
theorem k1{R:Type}{f:Nat->R}: ∀{L:List Nat} {g:Nat->R} {k id:Nat},L.Nodup->L[k]? =some id->iH f L g id=g k
 | [],_,_,_,_,h=>by simp at h
 |l::L,g,0,id,_,h=>by simp at h;subst h;rw[iH,bs]
 |l::L,g,k+1,id,a,h=>by simp at h a;have b:id≠l:=λe=>a.1 (e▸bB h);rw[iH,bu _ _ _ _ b];exact k1 (g:=λk=>g (k+1)) a.2 h
theorem yf: ∀{L:List Nat} {i j id:Nat},L.Nodup->L[i]? =some id->L[j]? =some id->i=j
 | [],_,_,_,_,h,_=>by simp at h
 |l::L,0,0,_,_,_,_=>rfl
 |l::L,0,j+1,id,a,h,b=>by simp at h b a;subst h;exact a6 (bB b) a.1
 |l::L,i+1,0,id,a,h,b=>by simp at h b a;subst b;exact a6 (bB h) a.1
 |l::L,i+1,j+1,id,a,h,b=>by simp at h b a;rw[yf a.2 h b]
def S.after(s:S)(L:List Nat)(a:List E):S:=
 {t:=s.t,H:=iH s.H L λk=>(a[k]?).map (E.c6 L),u:=iH s.u L (λ_=>true)}
def yu(K:Ctx)(o:Oper)(s:S){k:Type}(e:k->Prop)(h:k->S):Prop:=
 ∀l a w next Q,Rel K l s a w->(∀i,e i-> ∀b c d,Rel K b (h i) c d->next c d)->o.wp K.P a w next Q
variable {β:Map}{w:World}{X:Nat->Prop}{L:List Nat}{k:Nat}{e:E}{f:FuncId}
theorem b4.mc{id:Nat}(h:b4 β w X id (e.c6 L))(C:L[k]? =some id)(F:e.ok (ef L.length)=true):b4 (gS L β) w X k e:=by
 have l:gS L β k=β id:=by simp[gS,C]
 cases e with
 |cells cs=>
  obtain⟨b,o,ty,a,d,s,D⟩:=h;rw[lO] at s;refine⟨b,o,ty,by rw[l];exact a,d,s,λi c u y Q=>?_⟩;exact aQ.mc c u (D i _ u (by rw[yD,y];rfl) Q) (qN F y)
 |arr ty gen G p=>
  refine⟨h.1,?_⟩;rcases h.2 with ⟨a,d⟩|⟨b,o,a,d⟩
  ·exact .inl ⟨by rw[l];exact a,d⟩
  exact .inr ⟨b,o,by rw[l];exact a,d⟩
 |aw N m gen p P=>
  refine⟨h.1,?_⟩;have H: ∀c,(gS L β).n k c↔β.n id c:=λc=>⟨λ⟨R,a,d⟩=>by rw[C] at a;cases a;exact d,λh=>⟨id,C,h⟩⟩
  rcases h.2 with ⟨a,d,W⟩|⟨b,o,B,a,d,s,D,K,f,g,t⟩
  ·exact .inl ⟨by rw[l];exact a,d,λc y=>W c ((H c).1 y)⟩
  refine .inr ⟨b,o,B,by rw[l];exact a,d,s,D,λi j q x u ay a2 a3=>⟨λv z=>?_,λI=>?_⟩,f,g,λc=>(H c).trans (t c)⟩
  ·have A:=(K i j q x u ay a2 a3).1 (v.c6 L) (fU.2 ⟨_,z,rfl⟩);exact⟨aQ.mc v u A.1 (yG F z),A.2⟩
  refine(K i j q x u ay a2 a3).2 λv z=>?_;obtain⟨⟨S,T,M⟩,A,r⟩:=fU.1 z;simp only[Prod.mk.injEq] at r;obtain⟨rfl,rfl,rfl⟩:=r;exact I M A
theorem b4.c6{β':Map}{X':Nat->Prop}{C:Nat}(h:b4 β w X k e)(W:L[k]? =some C)(o: ∀k x,β k=some x->β' (L.getD k 0)=some x)(F: ∀b,X' b->X b)(Q: ∀b,β'.n C b↔β.n k b):b4 β' w X' C (e.c6 L):=by
 have q: ∀x,β k=some x->β' C=some x:=λx G=>by have:=o k x G;rwa [eP,W] at this
 cases e with
 |cells cs=>
  obtain⟨b,r,ty,a,d,s,y⟩:=h;refine⟨b,r,ty,q _ a,d,by rw[lO];exact s,λi c u H f=>?_⟩;obtain⟨g,p,rfl⟩:=xe H;exact((y i g u p f).c6 o).mono (Ext.refl _ _) (λb _=>F b) (cJ.refl _) (Shaped.refl _ _)
 |arr ty gen R z=>
  refine⟨h.1,?_⟩;rcases h.2 with ⟨a,d⟩|⟨b,r,a,d,s,y,p⟩
  ·exact .inl ⟨q _ a,d⟩
  exact .inr ⟨b,r,q _ a,d,s,y,λi j l x u ay a2 a3=>(p i j l x u ay a2 a3).mono (Ext.refl _ _) λb _=>F b⟩
 |aw T m gen z U=>
  refine⟨h.1,?_⟩;rcases h.2 with ⟨a,d,t⟩|⟨b,r,B,a,d,s,y,p,I,M,N⟩
  ·exact .inl ⟨q _ a,d,λc H=>t c ((Q c).1 H)⟩
  refine .inr ⟨b,r,B,q _ a,d,s,y,λi j l x u ay a2 a3=>⟨λv K=>?_,λG=>?_⟩,I,M,λc=>(Q c).trans (N c)⟩
  ·obtain⟨⟨V,Y,P⟩,S,A⟩:=fU.1 K;simp only[Prod.mk.injEq] at A;obtain⟨rfl,rfl,rfl⟩:=A;have D:=(p _ _ l x u ay a2 a3).1 P S;exact⟨(D.1.c6 o).mono (Ext.refl _ _) (λb _=>F b) (cJ.refl _) (Shaped.refl _ _),D.2⟩
  exact((p i j l x u ay a2 a3).2 λv K=>G (v.c6 L) (fU.2 ⟨_,K,rfl⟩)).mono (Ext.refl _ _) (λb _=>F b) λ_ _=>rfl
theorem cF.app{β:Map}{w:World}{X:Nat->Prop}: ∀{c a:List V} {d b:List Value},cF β w X c d->cF β w X a b->cF β w X (c++a) (d++b)
 | [],_,[],_,_,h=>h
 |_::_,_,_::_,_,h,k=>⟨h.1,cF.app h.2 k⟩
 | [],_,_::_,_,h,_=>h.elim
 |_::_,_,[],_,h,_=>h.elim
theorem Cy{W:Map}{w:World}{X:Nat->Prop}: ∀{b:List V} {d:List Value},d.length=b.length->(∀(i:Nat) c u,b[i]? =some c->d[i]? =some u->aQ W w X c u)->cF W w X b d
 | [],[],_,_=>trivial
 |v::b,u::d,a,h=>⟨h 0 v u rfl rfl,Cy (by simpa using a) λi c u e k=>h (i+1) c u (by simpa using e) (by simpa using k)⟩
 | [],_::_,a,_=>by simp at a
 |_::_,[],a,_=>by simp at a
theorem aQ.Au{a:List V}{u:Value}(h:aQ β w X (.fn f a) u): ∃b:Array Value,u= .func (.func f) #[] b/\cF β w X a b.toList:=by
 cases h with
 |fn _ _ b d h=>exact⟨b,rfl,Cy (by simpa using d) λi c u e k=>h i c u e (by simpa using k)⟩
theorem Ow{K:Ctx}{s:S}{o:Oper}{xs:Array Operand}{I5:Array TypeId}{er:List E}{args:List V}{ι:Type}{jB:ι->Prop}{r:ι->V}{D:ι->List E}(Av:Operand)(L news:List Nat)
  (Gw:List V) (dE:o.op= .call {callee:= .value Av,args:=xs,argTypes:=I5}) (Ul:s.get Av= .fn f Gw)
  (gd:hL K.P f) (cy: ∀i,o.dst=some i->Nat.blt i K.nt=true) (bG:eB (xs.toList.map s.get++Gw) (gA L args)) (cc:e6 (ef L.length) args=true)
  (sf:er.length=L.length) (hH: ∀(k:Nat) (e:E),er[k]? =some e-> ∃id,L[k]? =some id/\s.H id=some (e.c6 L)/\e.ok (ef L.length)=true)
  (U:(L++news).Nodup) (qo: ∀id,id∈news->s.u id=false) (AY: ∀i,(D i).length=(L++news).length)
  (h:Dm K.P K.G f er args jB r D):yu K o s jB (λi=>(s.after (L++news) (D i)).put o.dst ((r i).c6 (L++news))):=by
 obtain⟨fn,Uh,Ui,Uj⟩:=gd;intro R a w next Q p l
 have lV:fn.name≠ "runtime.NumGoroutine" :=by simpa using Ui
 have lQ:fn.body≠none:=by intro e;simp[e] at Uj
 obtain⟨us,Ub,A5⟩:=(Ul▸p.get Av).Au;have sp:(execOp a.eval o).run K.P w= .ok (.enter f (xs.map a.eval++us)) w:=by
  simp[execOp,dE,resolve,Deferred.ofValue,Ub,invoke,callFunc,Uh,lV,lQ]
 unfold Oper.wp;rw[sp,Oper.upon_enter];let y:Map:=gS L R;let X':Nat->Prop:=λb=>own K R s.H b/\ ¬ ∃k,At y k b;have hc: ∀k g b,y k=some (some b,g)-> ∃id,L[k]? =some id/\R id=some (some b,g):=by
  intro k g b h;cases l:L[k]? with
  |none=>simp[y,gS,l] at h
  |some id=>simp[y,gS,l] at h;exact⟨id,rfl,h⟩
 have W: ∀k b,At y k b-> ∃id,L[k]? =some id/\At R id b:=by
  rintro k b (⟨g,h⟩|⟨id,m,v⟩)
  ·obtain⟨id,m,v⟩:=hc k g b h;exact⟨id,m,.inl ⟨g,v⟩⟩
  exact⟨id,m,.inr v⟩
 have T4: ∀(k id:Nat),L[k]? =some id->s.H id≠none:=by
  intro k id l;have hlt:k<er.length:=by rw[sf];exact(bt.1 l).1
  obtain⟨C,m,v,_⟩:=hH k _ (bg hlt);rw[l] at m;cases m;rw[v];simp
 have t: ∀k b,At y k b->own K R s.H b:=by
  intro k b h;obtain⟨id,m,v⟩:=W k b h;exact .inr ⟨id,T4 k id m,v⟩
 have Hf: ∀b,fO X' y (dx er 0) b->own K R s.H b:=by
  rintro b (h|⟨k,_,v⟩)
  ·exact h.1
  exact t k b v
 have AD: ∀k b,At y k b->K.M b\/K.w0.heap.size<=b:=by
  intro k b h;obtain⟨id,m,v⟩:=W k b h;exact(p.fresh id b v).1
 have sq: ∀b,own K R s.H b->b<w.heap.size:=by
  rintro b (I|⟨id,_,aR⟩)
  ·exact iP (p.gq b I).1 p.ext.size
  exact(p.fresh id b aR).2
 have UI:L.Nodup:=(List.nodup_append.1 U).1;have Ut:mo K.G er y w X':=by
  refine⟨?_,?_,?_,?_,?_⟩
  ·intro k l;rw[sf] at l;simp[y,gS,List.getElem?_eq_none l]
  ·rintro k b l ⟨id,m,_⟩;rw[sf] at l;rw[List.getElem?_eq_none l] at m;cases m
  ·intro k bz b h jQ;obtain⟨id,m,v⟩:=W k b h;obtain⟨C,TV,h2'⟩:=W bz b jQ;have he:=p.inj id C b v h2';subst he;have l:=(bt.1 m).1;exact yf UI m TV
  ·intro k b A;refine⟨sq b (t k b A),λI=>I.2 ⟨k,A⟩,?_⟩;rcases AD k b A with z|z
   ·exact p.ln b z
   exact dT p.k3.1 z
  intro k e he;obtain⟨id,m,v,h4⟩:=hH k e he;have fL:=b4.mc (p.heap id _ v).2 m h4;exact fL.mono (Ext.refl _ _) (λb _=>Hf b) (cJ.refl _) (λ_ h=>h) (Shaped.refl _ _) λ_ _=>rfl
 have T6:=(cF.mc (((p.k2 xs.toList).app A5).le bG) cc).mono (Ext.refl _ _) (λb _=>Hf b) (cJ.refl _) (Shaped.refl _ _);have bj:=h w X' y _ p.vp (λb aR=>sq b aR.1) Ut T6;have he:(List.map a.eval xs.toList++us.toList).toArray=xs.map a.eval++us:=by rw[<-q7,<-Array.toList_append]
 rw[he] at bj;refine bj.mono ?_;rintro e w' ⟨u,i,F,rfl,Vm,d⟩;let B:=L++news;let N:Map:=⟨iH R B F,λid b=>(id∉B/\R.n id b)\/ ∃k,B[k]? =some id/\F.n k b⟩
 let s2:=s.after B (D i);have UC: ∀k,k<L.length->B[k]? =L[k]? :=λk l=>gI l;have X: ∀id,id∈B-> ∃k:Nat,B[k]? =some id/\k<(D i).length:=by
  intro id hid;obtain⟨k,l,e⟩:=List.mem_iff_getElem.1 hid;exact⟨k,bt.2 ⟨l,e⟩,by rw[AY];exact l⟩
 have ru: ∀id,id∉B->N id=R id:=λid h=>kz h;have t': ∀k id,B[k]? =some id->N id=F k:=λk id h=>k1 U h;have CO: ∀k id,k<L.length->B[k]? =some id->(F k=R id)\/ ∃q g qQ jc,R id=some (q,g)/\1<=g/\F k=some (qQ,jc)/\g<jc/\ ∀b,qQ=some b->q=some b\/w.heap.size<=b:=by
  intro k id l h;have aR:=d.base k (by rw[sf];exact l);rw[UC k l] at h;have e:y k=R id:=by simp[y,gS,h]
  rw[e] at aR;exact aR
 have Hb: ∀k id,L.length<=k->B[k]? =some id->id∈news:=by
  intro k id l h;rw[gH l] at h;exact bB h
 have CP:cJ R N:=by
  intro id q g I;by_cases hid:id∈B
  ·obtain⟨k,l,_⟩:=X id hid;by_cases Y:k<L.length
   ·rw[t' k id l];rcases CO k id Y l with e|⟨jr,g1,qQ,jc,ay,a2,a3,a4,_⟩
    ·exact .inl (e.trans I)
    rw[I] at ay;cases ay;exact .inr ⟨a2,qQ,jc,a3,a4⟩
   have:=p.cU id (qo id (Hb k id O l));rw[this] at I;cases I
  exact .inl (by rw[ru id hid];exact I)
 have T1: ∀k id,B[k]? =some id->s2.H id=((D i)[k]?).map (E.c6 B):=λk id h=>k1 U h;have GL: ∀id,id∉B->s2.H id=s.H id:=λid h=>kz h;have He: ∀id b,id∉B->At R id b-> ¬ ∃k,At y k b:=by
  rintro id b hid aR ⟨k,h⟩;obtain⟨C,m,v⟩:=W k b h
  have:=p.inj id C b aR v;subst this;exact hid (lu _ (bB m))
 have vq: ∀id b,At N id b->(id∉B/\At R id b)\/ ∃k,B[k]? =some id/\At F k b:=by
  rintro id b (⟨g,h⟩|⟨m,v⟩|⟨k,m,v⟩)
  ·by_cases hid:id∈B
   ·obtain⟨k,l,_⟩:=X id hid;rw[t' k id l] at h;exact .inr ⟨k,l,.inl ⟨g,h⟩⟩
   rw[ru id hid] at h;exact .inl ⟨hid,.inl ⟨g,h⟩⟩
  ·exact .inl ⟨m,.inr v⟩
  exact .inr ⟨k,m,.inr v⟩
 have hO: ∀b,own K N s2.H b->fO X' F (dx (D i) 0) b:=by
  rintro b (I|⟨id,m,v⟩)
  ·refine .inl ⟨.inl I,?_⟩;rintro⟨k,A⟩;rcases AD k b A with z|z
   ·exact(p.gq b I).2 z
   have:=(p.gq b I).1;omega
  rcases vq id b v with ⟨hid,h2'⟩|⟨k,l,A⟩
  ·rw[GL id hid] at m;exact .inl ⟨.inr ⟨id,m,h2'⟩,He id b hid h2'⟩
  have Y:k<(D i).length:=by rw[AY];exact(bt.1 l).1
  refine .inr ⟨k,?_,A⟩;rw[qB,bg Y];simp
 have Xh: ∀k b,At F k b->k<(D i).length:=by
  rintro k b (⟨g,h⟩|h)
  ·apply ly;intro hle;rw[d.cU k hle] at h;cases h
  exact ly λhle=>d.dt k b hle h
 have GN: ∀b,b<w.heap.size->own K N s2.H b->own K R s.H b:=by
  intro b T' aR;rcases hO b aR with m|⟨k,_,A⟩
  ·exact m.1
  rcases(d.fresh k b A).1 with ⟨bz,_,z⟩|z
  ·exact t bz b z
  omega
 have GK:Ext (own K R s.H) w w':=d.ext.weaken λb _ ⟨k,A⟩=>t k b A;have GP:Shaped R w w':=λb aR=>d.gF b aR;have Hk: ∀k x,F k=some x->N (B.getD k 0)=some x:=by
  intro k x I;have hlt:k<(D i).length:=by
   apply ly;intro hle;rw[d.cU k hle] at I;cases I
  rw[AY] at hlt;have bE:B[k]? =some B[k]:=bg hlt;rw[eP,bE];exact(t' k _ bE).trans I
 have hold: ∀k b,At F k b->(∃id,id∈B/\At R id b)\/w.heap.size<=b:=by
  intro k b aR;rcases(d.fresh k b aR).1 with ⟨bz,z,h4⟩|z
  ·obtain⟨C,e1,e2⟩:=W bz b h4;exact .inl ⟨C,lu _ (bB e1),e2⟩
  exact .inr z
 have hrel:Rel K N s2 a w':=by
  refine {p with ext:= ?_,base:= ?_,gF:= ?_,low:= ?_,cU:= ?_,dt:= ?_,inj:= ?_,fresh:= ?_,heap:= ?_,ct:= ?_}
  ·refine p.ext.trans' (d.ext.weaken ?_);rintro b _ ⟨k,A⟩ ⟨m,v⟩;rcases AD k b A with z|z
   ·exact v z
   omega
  ·refine p.base.more λid hid=>?_;by_cases T:id∈B
   ·obtain⟨k,l,_⟩:=X id T;by_cases Y:k<L.length
    ·rw[t' k id l];rcases CO k id Y l with e|⟨q,g,qQ,jc,ay,a2,a3,a4,a5⟩
     ·exact .inl e
     exact .inr ⟨q,g,qQ,jc,ay,a2,a3,a4,λb aR=>by
      rcases a5 b aR with c|c
      ·exact .inl c
      exact .inr (dT p.ext.size c)⟩
    have m:=qo id (Hb k id O l);rw[p.low id hid] at m;cases m
   exact .inl (ru id T)
  ·intro b z;exact(d.gF b (iP z p.ext.size)).trans (p.gF b z)
  ·intro id hid;by_cases T:id∈B
   ·obtain⟨k,l,_⟩:=X id T;exact k1 (f:=s.u) (g:=λ_=>true) U l
   exact(kz T).trans (p.low id hid)
  ·intro id hid;by_cases T:id∈B
   ·obtain⟨k,l,_⟩:=X id T
    have:s2.u id=true:=k1 (f:=s.u) (g:=λ_=>true) U l;rw[this] at hid;cases hid
   rw[ru id T];exact p.cU id ((kz (f:=s.u) (g:=λ_=>true) T).symm.trans hid)
  ·rintro id b hid (⟨m,v⟩|⟨k,l,v⟩)
   ·exact p.dt id b ((kz (f:=s.u) (g:=λ_=>true) m).symm.trans hid) v
   have:s2.u id=true:=k1 (f:=s.u) (g:=λ_=>true) U l;rw[this] at hid;cases hid
  ·intro id C b m v;rcases vq id b m with ⟨m1,ay⟩|⟨k,l,ay⟩<;>rcases vq C b v with ⟨m2,a2⟩|⟨bz,lS,a2⟩
   ·exact p.inj id C b ay a2
   ·rcases hold bz b a2 with ⟨sF,z,h4⟩|z
    ·have:=p.inj id sF b ay h4;subst this;exact a6 z m1
    have:=(p.fresh id b ay).2;omega
   ·rcases hold k b ay with ⟨sF,z,h4⟩|z
    ·have:=p.inj C sF b a2 h4;subst this;exact a6 z m2
    have:=(p.fresh C b a2).2;omega
   have:=d.inj k bz b ay a2;subst this;rw[l] at lS;cases lS;rfl
  ·intro id b m;rcases vq id b m with ⟨_,ay⟩|⟨k,l,ay⟩
   ·exact⟨(p.fresh id b ay).1,iP (p.fresh id b ay).2 d.ext.size⟩
   refine⟨?_,(d.fresh k b ay).2⟩;rcases hold k b ay with ⟨sF,_,z⟩|z
   ·exact(p.fresh sF b z).1
   exact .inr (dT p.ext.size z)
  ·intro id e he;by_cases T:id∈B
   ·obtain⟨k,l,Y⟩:=X id T;refine⟨k1 (f:=s.u) (g:=λ_=>true) U l,?_⟩;rw[T1 k id l,bg Y] at he;simp at he;subst he;exact b4.c6 (d.heap k _ (bg Y)) l Hk hO (λb=>⟨λh=>by
     rcases h with ⟨m,_⟩|⟨bz,m,v⟩
     ·exact a6 T m
     have:=yf U m l;subst this;exact v,λh=> .inr ⟨k,l,h⟩⟩)
   rw[GL id T] at he;obtain⟨m,v⟩:=p.heap id e he;refine⟨(kz (f:=s.u) (g:=λ_=>true) T).trans m,?_⟩;exact v.mono GK GN CP (λx I=>by rw[ru id T];exact I) GP (λb aR=>d.ext.keep b (p.fresh id b aR).2 (He id b T aR)) (λb=>⟨λh=>by
    rcases h with ⟨_,h⟩|⟨bz,m,_⟩
    ·exact h
    exact a6 (bB m) T,λh=> .inl ⟨T,h⟩⟩)
  intro j;exact(p.ct j).mono GK GN CP GP
 exact l i Vm N _ w' (hrel.put o.dst cy ((d.res.c6 Hk).mono (Ext.refl _ _) (λb _=>hO b) (cJ.refl _) (Shaped.refl _ _)))
end
section
variable {K:Ctx}{s:S}{d:Option Tmp}{ty:TypeId}{pos:String}{af:Array Edge}{g:Option (Nat×Bool)}{f:FuncId}{xs:Array Operand}{I5:Array TypeId}{args:List V}{ι:Type}{jB:ι->Prop}{r:ι->V}{out:ι->List E}
theorem yu.j{o:Oper}{u:Unit->Prop}{b:Unit->S}(h:yu K o s u b):dh K o s (b ()):=
 λβ a w next Q c e=>h β a w next Q c λ_ _=>e
variable {ops:Array Oper}{rest:List Oper}{Q:S->Prop}{op:Op}
end
section
variable {P:Program}{H:Nat->Option E}{d:Option Tmp}{ty:TypeId}{pos:String}{af:Array Edge}{g:Option (Nat×Bool)}
theorem Qv(n:Int):IntKind.u8.wrap n=((UInt8.ofInt n).toNat:Int):=by
 have:IntKind.u8.wrap n=n%256:=by simp[IntKind.wrap,IntKind.bits,IntKind.signed]
 rw[this];simp[UInt8.ofInt];omega
theorem L7(x:Operand)(c k e:TypeId)(l:List UInt8)(A:P.underlying c=some (.slice e))(B:P.underlying e=some (.int .u8))(C:P.underlying k=some .string):
  bK P H ⟨d,.convert c k x,ty,pos,af,g⟩ [Jj (l.map l4)] (cu l):=by
 intro I w X D _ M;refine⟨.string ⟨l.toArray⟩,?_,.t _ _ (.str l)⟩;have L:aQ I w X (Jj (l.map l4)) (D x):=M.1;simp only[execOp];suffices (convert c k (D x)).run P w= .ok (.string ⟨l.toArray⟩) w by
  simp only[Sem.run_bind,this,Result.andThen_ok,Sem.run_pure]
 generalize D x=y at L⊢;cases L with
 |t _ _ h=>
  generalize Q:l.map l4=R at h;cases h with
  |eI a m=>
   have p:l=[]:=by simpa using Q
   subst p;rw[run_convert_bytes_string w c k e _ _ _ A B C];cases a with
   |none=>simp[Conv.bytesToString];rfl
   |some a=>
    rw[run_bytesToString w a 0 m [] (by simp[loadCells,loadCellsFrom,Sem.run_pure])];rfl
  |aa _ b n r m f T U W F N G=>
   subst Q;cases p:l with
   |nil=>
    subst p
    have:=run_convert_bytes_arg (P:=P) w c e A B b n 0 m [] rfl (λi j=>O) k C;exact this
   |cons y V=>
    rw[<-p];have o:r=1:=by
     have:=F (l4 y) (by rw[p];simp);simpa using this.symm
    subst o;have S: ∀(i:Nat) (z:UInt8),l[i]? =some z->f i 0= .int .u8 (z.toNat:Int):=by
     intro i z s;have u:=G i 0 (l4 z) (.int .u8 (z.toNat:Nat)) (by rw[dU,s];rfl) rfl;generalize f i 0=q at u⊢;cases u;rfl
    have:=run_convert_bytes_arg (P:=P) w c e A B b n (l.map l4).length m (l.map λz=>(z.toNat:Int)) aY (λi j=>by
     have v:i<l.length:=by simpa using j
     have s:l[i]? =some l[i]:=bg v;have K:=N i 0 (by simpa using v) O;rw[S i _ s] at K;rw[show n+i*1+0=n+i by omega] at K;rw[K];simp[List.getD_eq_getElem?_getD,s]) k C
    rw[this];congr 2;simp only[strOfNums,List.map_map];congr 2;apply List.ext_getElem?;intro i;rw[dU];cases s:l[i]? with
    |none=>rfl
    |some z=>simp
end
section
variable {K:Ctx}{s:S}{d:Option Tmp}{ty:TypeId}{pos:String}{af:Array Edge}{g:Option (Nat×Bool)}
variable {t:TypeId}{u:TypeDesc}{z:Value}{size bytes:Nat}
theorem P2(k:Nat)(q:s.u k=false)(e:TypeId)(r: ∀i,d=some i->Nat.blt i K.nt=true)(v:K.P.underlying t=some (.slice e))(y:bN K.P e u z size bytes):
  dh K ⟨d,.buildSlice t 0 #[],ty,pos,af,g⟩ s ((s.new k (.arr e 1 size [])).put d (.aM k 1 size 0 0)):=by
 intro o a w next Q A l
 have b:(execOp a.eval ⟨d,.buildSlice t 0 #[],ty,pos,af,g⟩).run K.P w= .ok (.value (.slice (some ⟨w.heap.size,0,none⟩) 0 0)) (w.alloc (.cells #[] e)):=by
  simp only[execOp,Instr.buildSlice,Sem.run_bind,run_underlying v,Result.andThen_ok,y.run_sizeOf,Nat.zero_mul,show¬(0>2^24) by decide,if_false,if_true];simp only[Instr.fill,Sem.run_bind,Sem.run_pure,Result.andThen_ok,show Array.range 0= #[] from by simp[Array.range],List.map_toArray,List.map_nil];rfl
 unfold Oper.wp;rw[b];have c:=A.new k 1 q #[] e (.arr e 1 size []) λB L R C D F=>⟨cL _,Or.inr ⟨w.heap.size,_,D,by subst C;exact h' _ _,aY,λ_ h=>by simp at h,λi j G x u h=>by simp at h⟩⟩
 have m:(w.alloc (.cells #[] e)).heap.size=w.heap.size+1:=World.size_alloc ..;have n:(w.alloc (.cells #[] e)).shape? w.heap.size=some (e,0):=by unfold World.shape?;rw[h'];simp
 have p:aQ (o.put k (some (some w.heap.size,1))) (w.alloc (.cells #[] e)) (own K (o.put k (some (some w.heap.size,1))) (s.new k (.arr e 1 size [])).H) (.aM k 1 size 0 0)
   (.slice (some ⟨w.heap.size,0*size,none⟩) 0 0):= .aM k 1 size 0 0 0 w.heap.size 0 e (cL _) (bs _ _ _) (m▸lx _) n aY (cL _) (by unfold maxLen;omega)
 rw[fc] at p;exact l _ _ _ (c.put d r p)
end
def z6:Option TypeDesc->Bool
 |some (.int .i64)=>true
 |_=>false
theorem P7{o:Option TypeDesc}(h:z6 o=true):o=some (.int .i64):=by
 unfold z6 at h
 grind
def qJ(P:Program):List Field->Nat->Bool
 | [],_=>true
 |f::a,i=>f.name != "_" &&z6 (P.underlying f.type)&&Nat.beq f.offset i&&qJ P a (i+1)
theorem Bj{P:Program}{w:World}{xs ys:Array Value}: ∀(a:List Field) (i:Nat) (ms b:List Int),qJ P a i=true->ms.length=a.length->b.length=a.length->
  (∀(j:Nat) m,ms[j]? =some m->xs[i+j]? =some (.int .i64 m))->(∀(j:Nat) m,b[j]? =some m->ys[i+j]? =some (.int .i64 m))->
  (Op.eqFields 9999 xs ys a).run P w= .ok (decide (ms=b)) w
 | [],i,ms,b,_,c,e,_,_=>by
  have A:ms=[]:=by simpa using c
  have B:b=[]:=by simpa using e
  subst A;subst B;simp[Op.eqFields]
 |f::a,i,[],b,_,c,_,_,_=>by simp at c
 |f::a,i,m::ms,[],_,_,e,_,_=>by simp at e
 |f::a,i,m::ms,n::b,s,c,e,x,y=>by
  simp only[qJ,Bool.and_eq_true] at s;obtain⟨⟨⟨C,k⟩,dE⟩,D⟩:=s;have k:=P7 k;have dE:=b9 dE;have l:f.name≠ "_" :=by simpa using C
  have z: ∀(cs:Array Value) (v:Value),cs[i]? =some v->(part f.type cs f.offset).run P w= .ok v w:=by
   intro cs v F;rw[dE];simp[part,isAgg,run_underlying k,F]
  have o:=x 0 m rfl;have p:=y 0 n rfl;have G:=Bj (P:=P) (w:=w) a (i+1) ms b D (by simpa using c) (by simpa using e)
   (λj q r=>by rw[show i+1+j=i+(j+1) by omega];exact x (j+1) q (by simpa using r))
   λj q r=>by rw[show i+1+j=i+(j+1) by omega];exact y (j+1) q (by simpa using r)
  simp only[Op.eqFields,l,ne_eq,not_false_eq_true,if_true,Sem.run_bind,z xs _ o,z ys _ p,Result.andThen_ok,run_equalIn_int w 9998 f.type .i64 .i64 m n k];by_cases h:m=n
  ·subst h;simp[G]
  simp[h]
section
variable {P:Program}{H:Nat->Option E}{d:Option Tmp}{ty:TypeId}{pos:String}{af:Array Edge}{g:Option (Nat×Bool)}
theorem tZ{W:Map}{w:World}{X:Nat->Prop}{e:List Int}{u:Value}(h:aQ W w X (.agg (e.map ab)) u): ∃a:Array Value,u= .agg a/\ ∀(j:Nat) m,e[j]? =some m->a[j]? =some (.int .i64 m):=by
 cases h with
 |agg _ a l n=>
  refine⟨a,rfl,λj m c=>?_⟩;have b:j<a.size:=by
   rw[l,dI];exact(bt.1 c).1
  have i:a[j]? =some a[j]:=fW b;have k:=n j (ab m) _ (by rw[dU,c];rfl) i;rw[i];generalize a[j]=q at k;cases k with|t _ _ h=>cases h;rfl
theorem Mb(x y:Operand)(t q:TypeId)(a b:List Int)(r:P.underlying t=some (.struct (P.fieldsOf t)))(s:P.stoodInHeld t=false)(v:P.eqGuardType P.depth t=false)
  (z:qJ P (P.fieldsOf t).toList 0=true) (c:Nat.beq a.length (P.fieldsOf t).size=true) (e:Nat.beq b.length (P.fieldsOf t).size=true):
  bK P H ⟨d,.binOp .neq t x y q,ty,pos,af,g⟩ [.agg (a.map ab),.agg (b.map ab)] (a7 (!decide (a=b))):=by
 intro B w X o _ p;obtain⟨h,i,b6⟩:=tZ p.1;obtain⟨k,l,bZ⟩:=tZ p.2.1;refine⟨.bool (!decide (a=b)),?_,.t _ _ (.bool _)⟩;have c:=b9 c;have e:=b9 e;have A:=Bj (P:=P) (w:=w) (xs:=h) (ys:=k) (P.fieldsOf t).toList 0 a b z (by simpa using c) (by simpa using e) (λj m n=>by simpa using b6 j m n) λj m n=>by simpa using bZ j m n
 have i:o x=_:=i;have l:o y=_:=l;simp only[execOp,i,l,Sem.run_bind,run_eqGuard_agg w .neq t x y h k v,Result.andThen_ok,run_neq_struct,run_equalIn_struct w 9999 t h k r s,A,Sem.run_pure]
theorem Mi(x y:Operand)(t q:TypeId)(a b:List Int)(r:P.underlying t=some (.struct (P.fieldsOf t)))(s:P.stoodInHeld t=false)(v:P.eqGuardType P.depth t=false)
  (z:qJ P (P.fieldsOf t).toList 0=true) (c:Nat.beq a.length (P.fieldsOf t).size=true) (e:Nat.beq b.length (P.fieldsOf t).size=true):
  bK P H ⟨d,.binOp .eql t x y q,ty,pos,af,g⟩ [.agg (a.map ab),.agg (b.map ab)] (a7 (decide (a=b))):=by
 intro B w X o _ p;obtain⟨h,i,b6⟩:=tZ p.1;obtain⟨k,l,bZ⟩:=tZ p.2.1;refine⟨.bool (decide (a=b)),?_,.t _ _ (.bool _)⟩;have c:=b9 c;have e:=b9 e;have A:=Bj (P:=P) (w:=w) (xs:=h) (ys:=k) (P.fieldsOf t).toList 0 a b z (by simpa using c) (by simpa using e) (λj m n=>by simpa using b6 j m n) λj m n=>by simpa using bZ j m n
 have i:o x=_:=i;have l:o y=_:=l;simp only[execOp,i,l,Sem.run_bind,run_eqGuard_agg w .eql t x y h k v,Result.andThen_ok,run_eql_struct,run_equalIn_struct w 9999 t h k r s,A,Sem.run_pure]
end
def uz(P:Program)(t:TypeId)(n:Nat):Prop:=P.underlying t=some (.struct (P.fieldsOf t))/\P.stoodInHeld t=false/\P.eqGuardType P.depth t=false/\qJ P (P.fieldsOf t).toList 0=true/\(P.fieldsOf t).size=n
section
variable {P:Program}{H:Nat->Option E}{d:Option Tmp}{ty:TypeId}{pos:String}{af:Array Edge}{g:Option (Nat×Bool)}
theorem Oz(x y:Operand)(t l:TypeId){n:Nat}(i k:List Int)(h:uz P t n)(m:Nat.beq i.length n=true)(o:Nat.beq k.length n=true):
  bK P H ⟨d,.binOp .neq t x y l,ty,pos,af,g⟩ [.agg (i.map ab),.agg (k.map ab)] (a7 (!decide (i=k))):=by obtain⟨a,b,c,e,f⟩:=h;exact Mb x y t l i k a b c e (by rw[f];exact m) (by rw[f];exact o)
theorem OB(x y:Operand)(t l:TypeId){n:Nat}(i k:List Int)(h:uz P t n)(m:Nat.beq i.length n=true)(o:Nat.beq k.length n=true):
  bK P H ⟨d,.binOp .eql t x y l,ty,pos,af,g⟩ [.agg (i.map ab),.agg (k.map ab)] (a7 (decide (i=k))):=by obtain⟨a,b,c,e,f⟩:=h;exact Mi x y t l i k a b c e (by rw[f];exact m) (by rw[f];exact o)
end
inductive yN where
 |bool
 |int (k:IntKind)
 |string
 |slice (e:Nat)
 |array (n e:Nat)
 |struct (Xf:List (Nat×Nat))
 |Ht
 |other
structure bO where
 u:yN
 z:Value
 size:Nat
 bytes:Nat
 places:Array (Nat×Nat)
def yN.agg:yN->Bool
 | .struct _=>true
 | .array _ _=>true
 |_=>false
def bO.is(P:Program)(i:bO)(u:TypeDesc):Prop:=match i.u with
 | .bool=>u= .bool
 | .int k=>u= .int k
 | .string=>u= .string
 | .slice e=>u= .slice e
 | .array n e=>u= .array n e
 | .struct l=> ∃a,u= .struct a/\a.toList.map (λf=>(f.type,f.offset))=l/\ ∀w,(a.mapM (m:=Sem) λf:Field=>do pure (f.offset,<-sizeOf f.type)).run P w= .ok i.places w
 | .Ht=> ∃m,u= .interface m
 | .other=>ix u=false
def bO.ok(P:Program)(t:TypeId)(i:bO):Prop:= ∃u,bN P t u i.z i.size i.bytes/\i.is P u
variable {P:Program}{t:TypeId}{i:bO}{a b n:Int}{k R:Type}{x:k}{r l:List k}
theorem bO.ok.agg(h:i.ok P t): ∃u,bN P t u i.z i.size i.bytes/\ix u=i.u.agg:=by
 obtain⟨u,d,b⟩:=h;refine⟨u,d,?_⟩;unfold bO.is at b;split at b
 ·rename_i a;rw[a,b];rfl
 ·rename_i a;rw[a,b];rfl
 ·rename_i a;rw[a,b];rfl
 ·rename_i a;rw[a,b];rfl
 ·rename_i a;rw[a,b];rfl
 ·rename_i a;rw[a];obtain⟨e,c,_⟩:=b;rw[c];rfl
 ·rename_i a;rw[a];obtain⟨m,c⟩:=b;rw[c];rfl
 rename_i a;rw[a,b];rfl
theorem bO.ok.gm(h:i.ok P t):(i.u= .bool->P.underlying t=some .bool)/\(∀k,i.u= .int k->P.underlying t=some (.int k))/\(i.u= .string->P.underlying t=some .string)/\
  ∀e,i.u= .slice e->P.underlying t=some (.slice e):=by obtain⟨u,c,b⟩:=h;refine⟨λa=>?_,λk a=>?_,λa=>?_,λe a=>?_⟩<;>simp only[bO.is,a] at b<;>rw[<-b]<;>exact c.1
theorem bO.ok.st{l:List (Nat×Nat)}(h:i.ok P t)(b:i.u= .struct l): ∃a,bN P t (.struct a) i.z i.size i.bytes/\a.toList.map (λf=>(f.type,f.offset))=l/\ ∀w,(a.mapM (m:=Sem) λf:Field=>do pure (f.offset,<-sizeOf f.type)).run P w= .ok i.places w:=by
 obtain⟨u,d,c⟩:=h;simp only[bO.is,b] at c
 grind
def cS:List (Nat×bO)->Nat->Option bO
 | [],_=>none
 |(t,i)::l,k=>bif Nat.beq t k then some i else cS l k
def di(P:Program)(a:List (Nat×bO)):Prop:= ∀t i,cS a t=some i->i.ok P t
theorem di.nil:di P []:=λ_ _ h=>by cases h
theorem di.cons{a:List (Nat×bO)}{t:Nat}(h:i.ok P t)(d:di P a):di P ((t,i)::a):=by
 intro k j b;simp only[cS] at b;cases c:Nat.beq t k with
 |true=>rw[c] at b;cases b;rw[<-b9 c];exact h
 |false=>rw[c] at b;exact d k j b
inductive bV where
 |row (r:List T)
 |rows (r:List (List T))
 |str (s:List UInt8)
 |int (n:Int)
 |nat (n:Nat)
 |b (w:Bool)
 |y (b:UInt8)
 |v (v:V)
 |ed (slot k:Nat)
 |oA (ct:List Nat) (k:Nat)
 |grow (slot k:Nat) (e:TypeId)
 |Bz (k:Nat)
 |GF (b j k:Nat)
 |dv (b j k:Nat) (e:TypeId)
 |Wm (i k g:Nat)
 |Wl (b j k g:Nat)
 |len (slot n:Nat)
 |gT (b j n:Nat)
 |vn (k:Nat) (ct:List Nat)
 |cq (k:Nat) (ct blocks:List Nat)
 |b2 (k bz:Nat) (ct blocks:List Nat)
 |at (rem:Nat)
 |c6 (slot k bz:Nat)
 |ec (L news:List Nat) (r:V) (out:List E)
 |cM (k:Nat) (d':List de) (m:Nat)
 |fS (k:Nat)
 |dP (k bz i j:Nat) (row:List T)
 |cN (k bz:Nat) (row:List T) (R:List (List T))
 |lt (k:Nat) (d':List de) (m:Nat)
 |fj (k i j:Nat) (row:List T)
 |fp (k:Nat) (row:List T) (R:List (List T))
 |GG (i j k:Nat) (e:TypeId)
 |cut (k n:Nat) (R:List (List T))
inductive cQ where
 |p (p:Prop)
 |q (a b:Nat)
def bS:List cQ->Prop
 | []=>True
 | .p p::l=>p/\bS l
 | .q a b::l=>a=b/\bS l
def ta:List cQ->Prop
 | []=>True
 | .p p::l=>p/\ta l
 | .q _ _::l=>ta l
def qO:List cQ->List Nat
 | []=>[]
 | .p _::l=>qO l
 | .q a _::l=>a::qO l
def qP:List cQ->List Nat
 | []=>[]
 | .p _::l=>qP l
 | .q _ b::l=>b::qP l
theorem bS.of: ∀{l:List cQ},ta l->qO l=qP l->bS l
 | [],_,_=>trivial
 | .p _::_,h,k=>⟨h.1,bS.of h.2 k⟩
 | .q _ _::_,h,k=>by simp only[qO,qP,List.cons.injEq] at k;exact⟨k.1,bS.of h k.2⟩
theorem bS.app: ∀{l m:List cQ},bS (l++m)->bS l/\bS m
 | [],_,h=>⟨trivial,h⟩
 | .p _::_,_,h=>⟨⟨h.1,(bS.app h.2).1⟩,(bS.app h.2).2⟩
 | .q _ _::_,_,h=>⟨⟨h.1,(bS.app h.2).1⟩,(bS.app h.2).2⟩
def aD{α:Type}(l:List α)(i:Int):Option α:=if 0<=i then l[i.toNat]? else none
def sub{k:Type}(l:List k)(a b:Int):Option (List k):=if 0<=a/\a<=b/\b<=l.length then some ((l.take b.toNat).drop a.toNat) else none
def cat(a b:List UInt8):Option (List UInt8):=if(a.length:Int)+b.length<=9223372036854775807 then some (a++b) else none
def app{k:Type}(a b:List k):Option (List k):=if a.length+b.length<=1000000000 then some (a++b) else none
def mk{k:Type}(n:Int)(x:k):Option (List k):=if 0<=n/\n<=1000000000 then some (List.replicate n.toNat x) else none
def cR{k:Type}(l:List k)(i:Int)(x:k):Option (List k):=if 0<=i/\i<l.length then some (l.set i.toNat x) else none
def wr(n:Int):Int:=IntKind.i64.wrap n
theorem ll{i:Int}(h:aD l i=some x):0<=i/\l[i.toNat]? =some x:=by
 unfold aD at h
 grind
theorem FO{i:Int}(f:k->R)(h:aD l i=some x):aD (l.map f) i=some (f x):=by
 obtain⟨a,b⟩:=ll h;unfold aD
 grind
theorem xA(h:sub l a b=some r):0<=a/\a<=b/\b<=l.length/\r=(l.take b.toNat).drop a.toNat:=by
 unfold sub at h
 grind
theorem y1(f:k->R)(h:sub l a b=some r):sub (l.map f) a b=some (r.map f):=by obtain⟨c,d,e,rfl⟩:=xA h;unfold sub;rw[bh ⟨c,d,by simpa using e⟩,List.map_drop,List.map_take]
theorem q0{a b:List k}(h:app a b=some r):a.length+b.length<=1000000000/\r=a++b:=by
 unfold app at h
 grind
theorem cG{a b:List k}(f:k->R)(h:app a b=some r):app (a.map f) (b.map f)=some (r.map f):=by
 obtain⟨c,rfl⟩:=q0 h;unfold app
 grind
theorem lk(h:mk n x=some r):0<=n/\n<=1000000000/\r=List.replicate n.toNat x:=by
 unfold mk at h
 grind
theorem po(f:k->R)(h:mk n x=some r):mk n (f x)=some (r.map f):=by obtain⟨a,b,rfl⟩:=lk h;unfold mk;rw[bh ⟨a,b⟩,List.map_replicate]
theorem oW{i:Int}(h:cR l i x=some r):0<=i/\i<l.length/\r=l.set i.toNat x:=by
 unfold cR at h
 grind
theorem QH{a b r:List UInt8}(h:cat a b=some r):(a.length:Int)+b.length<=9223372036854775807/\r=a++b:=by
 unfold cat at h
 grind
mutual
def kK:V->V
 | .t .ek=> .t (.aa [])
 | .agg cs=> .agg (ff cs)
 | .bI cs=> .bI (ff cs)
 | .t (.aa r)=> .t (.aa r)
 | .t (.int k n)=> .t (.int k n)
 | .t (.bool b)=> .t (.bool b)
 | .t (.str s)=> .t (.str s)
 |v=>v
def ff:List V->List V
 | []=>[]
 |c::cs=>kK c::ff cs
end
mutual
theorem px: ∀v:V,cV v (kK v)
 | .t .ek=>cV.nil
 | .t (.aa _)| .t (.int _ _)| .t (.bool _)| .t (.str _)| .t .gU| .t .eN| .t .jo| .t .err=>cV.refl _
 | .agg cs=>cV.agg (jn cs)
 | .bI cs=>cV.bI (jn cs)
 | .ref _ _| .aT _| .aM _ _ _ _ _| .ca _ _ _ _ _| .fn _ _| .cr=>cV.refl _
theorem jn: ∀cs:List V,eB cs (ff cs)
 | []=>trivial
 |c::cs=>⟨px c,jn cs⟩
end
theorem oP: ∀cs:List V,(ff cs).length=cs.length
 | []=>rfl
 |c::cs=>by simp[ff,oP cs]
def pX(k:Option Nat):List V->List V
 | [.t .ek]=>match k with
  |some _=>[.t .ek]
  |none=>ff [.t .ek]
 |vs=>ff vs
theorem RB(k:Option Nat)(a:List V):eB a (pX k a):=by
 unfold pX;split
 ·split
  ·exact eB.refl _
  exact jn _
 exact jn _
theorem LS(k:Option Nat)(a:List V):(pX k a).length=a.length:=by
 unfold pX;split
 ·split
  ·rfl
  exact oP _
 exact oP _
def tC:V->Option T
 | .t x=>some x
 |_=>none
def iS:List V->Option (List T)
 | []=>some []
 |v::a=>match tC v,iS a with
  |some x,some b=>some (x::b)
  |_,_=>none
theorem lj: ∀{a:List V} {b:List T},iS a=some b->a=b.map .t
 | [],_,h=>by cases h;rfl
 |v::a,b,h=>by
  simp only[iS] at h;split at h
  ·rename_i x e d c;cases h;have c:=lj c;cases v<;>simp[tC] at d;subst d;subst c;rfl
  cases h
def rG:List V->Option (List Int)
 | []=>some []
 | .t (.int .i64 m)::a=>match rG a with
  |some ms=>some (m::ms)
  |none=>none
 |_=>none
theorem tf: ∀{a:List V} {ms:List Int},rG a=some ms->a=ms.map ab
 | [],_,h=>by cases h;rfl
 |v::a,ms,h=>by
  unfold rG at h;split at h
  ·rename_i b;cases b
  ·rename_i m c b;cases b;split at h
   ·rename_i d e;cases h;rw[tf e];rfl
   cases h
  cases h
abbrev fH:=Option (V×List cQ×List bV)
def Gj(a:BinOp)(m n:Int):Option Bool:=
 match a with
 | .eql=>some (decide (m=n))
 | .neq=>some (!decide (m=n))
 | .lss=>some (decide (m<n))
 | .leq=>some (decide (m<=n))
 | .gtr=>some (decide (n<m))
 | .geq=>some (decide (n<=m))
 |_=>none
def FE(a:BinOp):Bool:=
 match a with
 | .and| .or| .xor| .andNot=>true
 |_=>false
def zU(op:BinOp)(k:IntKind)(m n:Int)(a:List bV):fH:=
 match op with
 | .add=>some (.t (.int k (k.wrap (m+n))),[],a)
 | .sub=>some (.t (.int k (k.wrap (m-n))),[],a)
 | .mul=>some (.t (.int k (k.wrap (m*n))),[],a)
 | .quo=>some (.t (.int k (k.wrap (m.tdiv n))),[.p (n≠0)],a)
 | .rem=>some (.t (.int k (m.tmod n)),[.p (n≠0)],a)
 | .and=>some (.t (.int k (bits .and k m n)),[],a)
 | .or=>some (.t (.int k (bits .or k m n)),[],a)
 | .xor=>some (.t (.int k (bits .xor k m n)),[],a)
 | .andNot=>some (.t (.int k (bits .andNot k m n)),[],a)
 | .shl| .shr=>none
 |op=>match Gj op m n with
  |some b=>some (.t (.bool b),[],a)
  |none=>none
def zP(b:BinOp)(m n:List UInt8)(a:List bV):fH:=
 match b,a with
 | .add,.str r::a=>some (.t (.str r),[.p (cat m n=some r)],a)
 | .eql,a=>some (.t (.bool (decide (m=n))),[],a)
 | .neq,a=>some (.t (.bool (!decide (m=n))),[],a)
 | .geq,a=>some (.t (.bool (!Op.bytesLess m n)),[],a)
 | .lss,a=>some (.t (.bool (Op.bytesLess m n)),[],a)
 | .gtr,a=>some (.t (.bool (!Op.bytesLess m n&& !m==n)),[],a)
 | .leq,a=>some (.t (.bool (Op.bytesLess m n||m==n)),[],a)
 |_,_=>none
def zr:Option bO->Bool
 |some i=>match i.u with
  | .bool=>true
  |_=>false
 |none=>false
def zO(P:Program)(e:List (Nat×bO))(d:BinOp)(t:TypeId)(v w:V)(a:List bV):fH:=
 match v,w with
 | .t (.int k m),.t (.int h n)=>if k=h then zU d k m n a else none
 | .t (.str m),.t (.str n)=>zP d m n a
 | .t (.bool p),.t (.bool q)=>match zr (cS e t),d with
  |true,.eql=>some (.t (.bool (p==q)),[],a)
  |true,.neq=>some (.t (.bool (!(p==q))),[],a)
  |_,_=>none
 | .agg cs,.agg i=>match rG cs,rG i,d,a with
  |some ms,some c,.eql,.b b::a=>some (.t (.bool b),[.p (uz P t ms.length),.q c.length ms.length,.p (decide (ms=c)=b)],a)
  |some ms,some c,.neq,.b b::a=>some (.t (.bool (!b)),[.p (uz P t ms.length),.q c.length ms.length,.p (decide (ms=c)=b)],a)
  |_,_,_,_=>none
 |_,_=>none
def z1:Option bO->Bool
 |some i=>match i.u with
  | .Ht=>true
  |_=>false
 |none=>false
def l1:Operand->Bool
 | .const _=>true
 |_=>false
def zV(b:List (Nat×bO))(c:BinOp)(t:TypeId)(x y:Operand)(v w:V)(a:List bV):fH:=
 match z1 (cS b t),l1 x||l1 y,v,w,c with
 |true,true,.t .err,.t .eN,.eql=>some (.t (.bool false),[],a)
 |true,true,.t .err,.t .eN,.neq=>some (.t (.bool true),[],a)
 |true,true,.t .eN,.t .eN,.eql=>some (.t (.bool true),[],a)
 |true,true,.t .eN,.t .eN,.neq=>some (.t (.bool false),[],a)
 |_,_,_,_,_=>none
def Aa(c:UnOp)(v:V)(a:List bV):fH:=
 match c,v with
 | .not,.t (.bool b)=>some (.t (.bool (!b)),[],a)
 | .neg,.t (.int k n)=>some (.t (.int k (k.wrap (0-n))),[],a)
 |_,_=>none
def yM(a:List (Nat×bO)):Option bO->Bool
 |some i=>match i.u with
  | .slice e=>match cS a e with
   |some j=>match j.u with
    | .int .u8=>true
    |_=>false
   |none=>false
  |_=>false
 |none=>false
def zk(c:List (Nat×bO))(d e:TypeId)(v:V)(a:List bV):fH:=
 match cS c d,cS c e with
 |some i,some j=>match j.u,v,a with
  | .int h,.t (.int _ n),.int m::a=>some (.t (.int h m),[.p (h.wrap n=m)],a)
  | .int .u8,.t (.int _ n),.y m::a=>some (.t (.int .u8 (m.toNat:Nat)),[.p (UInt8.ofInt n=m)],a)
  | .string,.t (.aa b),.str l::a=>match yM c (some i) with
   |true=>some (.t (.str l),[.p (b=l.map l4)],a)
   |false=>none
  |_,_,_=>none
 |_,_=>none
def pA(m:List (Nat×bO))(H:Nat->Option E)(t:TypeId)(v:V)(e:List bV):fH:=
 match cS m t with
 |none=>none
 |some i=>match v with
  | .ref id a=>match H id with
   |some (.cells cs)=>match i.u.agg with
    |true=>match Nat.ble (a+i.size) cs.length with
     |true=>some (.agg ((cs.drop a).take i.size),[],e)
     |false=>none
    |false=>match cs[a]? with
     |some c=>some (c,[],e)
     |none=>none
   |_=>none
  | .aT cs=>match i.u.agg with
   |true=>match Nat.ble i.size cs.length with
    |true=>some (.agg ((cs.take i.size).map .t),[],e)
    |false=>none
   |false=>match cs with
    |c::_=>some (.t c,[],e)
    | []=>none
  | .ca id gen l k a=>match H id,i.u.agg,e with
   |some (.arr _ b h d),false,.row r::e=>match r[a]? with
    |some c=>some (.t c,[.q b gen,.q h l,.p (d[k]? =some r)],e)
    |none=>none
   |some (.arr _ b h d),true,.row r::e=>match Nat.ble (a+i.size) r.length with
    |true=>some (.agg (((r.drop a).take i.size).map .t),[.q b gen,.q h l,.p (d[k]? =some r)],e)
    |false=>none
   |_,_,_=>none
  |_=>none
def nZ(j:Nat):List (Nat×Nat×V)->Option (Nat×V)
 | []=>none
 |h::a=>bif Nat.beq h.2.1 j then some (h.1,h.2.2) else nZ j a
def pq(a:List (Nat×Nat×V)):Nat->Nat->Option (List (Nat×V))
 |_,0=>some []
 |j,n+1=>match nZ j a,pq a (j+1) n with
  |some x,some l=>some (x::l)
  |_,_=>none
def nX(k:Nat):List (Nat×V)->List cQ
 | []=>[]
 |x::l=> .q x.1 k::nX k l
def oc(i j:Nat):List (Nat×Nat×V)->List cQ
 | []=>[]
 |h::a=>bif Nat.beq h.2.1 j then .p (i≠h.1)::oc i j a else oc i j a
theorem tO{i j:Nat}: ∀{b:List (Nat×Nat×V)},bS (oc i j b)-> ∀v,(i,j,v)∉b
 | [],_,_,h=>by cases h
 |h::b,a,v,hm=>by
  unfold oc at a;cases c:Nat.beq h.2.1 j with
  |true=>
   rw[c] at a;rcases dy.1 hm with rfl|hm
   ·exact a.1 rfl
   exact tO a.2 v hm
  |false=>
   rw[c] at a;rcases dy.1 hm with rfl|hm
   ·simp at c
   exact tO a v hm
def y6(x:List (Nat×bO))(H:Nat->Option E)(t:TypeId)(v:V)(e:List bV):fH:=
 match cS x t,v,e with
 |some i,.ca id gen n k a,.row r::e=>match H id with
  |some (.aw h m b d o)=>match i.u.agg with
   |false=>match r[a]?,nZ a o with
    |some c,none=>match (Y h m).du a with
     |none=>some (.t c,[.q b gen,.q (Y h m).size n,.p (d[k]? =some r)],e)
     |some _=>none
    |some _,some (s,w)=>some (w,[.q b gen,.q (Y h m).size n,.p (d[k]? =some r),.q s k],e)
    |none,_=>none
   |true=>match Nat.ble (a+i.size) r.length,pq o a i.size with
    |true,some l=>some (.agg (l.map (·.2)),.q b gen:: .q (Y h m).size n:: .p (d[k]? =some r)::nX k l,e)
    |_,_=>none
  |_=>none
 |some i,.ca id gen n k a,.int q:: .row r::e=>match H id with
  |some (.aw h m b d o)=>match i.u.agg,r[a]?,o[q.toNat]? with
   |false,some _,some (s,y,w)=>some (w,[.q b gen,.q (Y h m).size n,.p (d[k]? =some r),.q s k,.q y a],e)
   |true,_,_=>match Nat.ble (a+i.size) r.length,pq (o.drop q.toNat) a i.size with
    |true,some l=>some (.agg (l.map (·.2)),.q b gen:: .q (Y h m).size n:: .p (d[k]? =some r)::nX k l,e)
    |_,_=>none
   |_,_,_=>none
  |_=>none
 |some i,.ca id gen n k a,.nat _:: .row r::e=>match H id with
  |some (.aw h m b d o)=>match i.u.agg,r[a]?,(Y h m).du a with
   |false,some c,none=>some (.t c,.q b gen:: .q (Y h m).size n:: .p (d[k]? =some r)::oc k a o,e)
   |_,_,_=>none
  |_=>none
 |_,_,_=>none
def zX(d:List (Nat×bO))(t:TypeId)(k:Nat)(v:V)(e:List bV):fH:=
 match cS d t with
 |none=>none
 |some i=>match i.u with
  | .struct h=>match h[k]? with
   |none=>none
   |some a=>match cS d a.1 with
    |none=>none
    |some j=>match v with
     | .agg b=>match j.u.agg with
      |true=>match Nat.ble (a.2+j.size) b.length with
       |true=>some (.agg ((b.drop a.2).take j.size),[],e)
       |false=>none
      |false=>match b[a.2]? with
       |some c=>some (c,[],e)
       |none=>none
     |_=>none
  |_=>none
def y8(l:List (Nat×bO))(H:Nat->Option E)(t:TypeId)(k:Nat)(v:V)(d:List bV):fH:=
 match cS l t with
 |none=>none
 |some i=>match i.u with
  | .struct m=>match m[k]? with
   |none=>none
   |some a=>match cS l a.1 with
    |none=>none
    |some j=>match Nat.beq j.size 0 with
     |true=>none
     |false=>match v with
      | .ref id c=>some (.ref id (c+a.2),[],d)
      | .aT cs=>some (.aT (cs.drop a.2),[],d)
      | .ca id gen e n c=>match H id with
       |some (.arr _ b h _)=>some (.ca id gen e n (c+a.2),[.q b gen,.q h e],d)
       |some (.aw _ _ b _ _)=>some (.ca id gen e n (c+a.2),[.q b gen],d)
       |_=>none
      |_=>none
  |_=>none
def zW(l:List (Nat×bO))(H:Nat->Option E)(t:TypeId)(v w:V)(d:List bV):fH:=
 match cS l t with
 |none=>none
 |some i=>match i.u with
  | .slice e=>match cS l e with
   |none=>none
   |some j=>match v,w with
    | .t (.aa h),.t (.int .i64 n)=>match d with
     | .row r::d=>match Nat.beq r.length j.size with
      |true=>some (.aT r,[.p (aD h n=some r)],d)
      |false=>none
     |_=>none
    | .aM id gen a c len,.t (.int .i64 n)=>match H id,Nat.beq a j.size with
     |some (.arr _ b o _),true=>some (.ca id gen a (c+n.toNat) 0,[.q b gen,.q o a,.p (0<=n/\n<(len:Int))],d)
     |some (.aw _ _ b _ _),true=>some (.ca id gen a (c+n.toNat) 0,[.q b gen,.p (0<=n/\n<(len:Int))],d)
     |_,_=>none
    |_,_=>none
  | .array m e=>match cS l e with
   |none=>none
   |some j=>match v,w,d with
    | .ref id c,.t (.int .i64 n),.nat k::d=>match Nat.ble (k+1) m with
     |true=>some (.ref id (c+k*j.size),[.p (n=(k:Int))],d)
     |false=>none
    |_,_,_=>none
  |_=>none
def rF:Option bO->Bool
 |some i=>match i.u with
  | .string=>true
  |_=>false
 |none=>false
def rN:Option bO->Bool
 |some i=>match i.u with
  | .slice _=>true
  |_=>false
 |none=>false
def zQ(d:List (Nat×bO))(e:BinOp)(t:TypeId)(v w:V)(c:List bV):fH:=
 match rN (cS d t),v,w,e,c with
 |true,.t (.aa a),.t .ek,.eql,.b false::c=>some (.t (.bool false),[.p (a≠[])],c)
 |_,_,_,_,_=>none
def y7(c:List (Nat×bO))(t:TypeId)(v w:V)(a:List bV):fH:=
 match rF (cS c t),v,w,a with
 |true,.t (.str l),.t (.int .i64 n),.y b::a=>some (.t (.int .u8 (b.toNat:Nat)),[.p (aD l n=some b)],a)
 |_,_,_,_=>none
def n0(d e:Option Operand)(c:Nat)(h:List V):Option (Int×Int):=
 match d,e,h with
 |some _,some _,[.t (.int .i64 a),.t (.int .i64 b)]=>some (a,b)
 |some _,none,[.t (.int .i64 a)]=>some (a,(c:Int))
 |none,some _,[.t (.int .i64 b)]=>some (0,b)
 |_,_,_=>none
def y5(n:List (Nat×bO))(H:Nat->Option E)(t:TypeId)(w x:Option Operand)(s:List V)(h:List bV):fH:=
 match s with
 | .t (.str l)::v=>match rF (cS n t),n0 w x l.length v,h with
  |true,some (a,b),.str r::h=>some (.t (.str r),[.p (sub l a b=some r)],h)
  |_,_,_=>none
 | .t (.aa d)::v=>match cS n t with
  |none=>none
  |some i=>match i.u with
   | .slice e=>match cS n e,n0 w x d.length v,h with
    |some j,some (a,b),.rows r::h=>some (.t (.aa r),[.p (sub d a b=some r),.p (Rows j.size d)],h)
    |_,_,_=>none
   |_=>none
 | .aM id gen c k len::v=>match cS n t,(H id).bind E.gen? with
  |some i,some z=>match i.u with
   | .slice e=>match cS n e,n0 w x len v,h with
    |some j,some (a,b),.nat o:: .nat m::h=>some (.aM id gen c o m,[.q z gen,.q c j.size,.p (0<=a/\a<=b/\b<=len/\(a=0\/a<len)/\o=k+a.toNat/\m=b.toNat-a.toNat)],h)
    |some _,some (a,b),.int 0::h=>some (.t (.aa []),[.q z gen,.p (0<=a/\a=b/\b<=len)],h)
    |some j,some (a,b),.int 1:: .nat o:: .nat m::h=>match H id with
     |some (.arr _ A y d)=>some (.aM id gen c o m,[.q A gen,.q y c,.q c j.size,.p (0<c/\0<=a/\a<b/\k+b<=d.length/\o=k+a.toNat/\m=b.toNat-a.toNat)],h)
     |_=>none
    |_,_,_=>none
   |_=>none
  |_,_=>none
 |_=>none
def yR(h:List (Nat×bO))(H:Nat->Option E)(t:TypeId)(d:List V)(k:List bV):fH:=
 match d with
 | [.aM id gen _ _ len,.t (.int .i64 a),.t (.int .i64 b),.t (.int .i64 c)]=>match cS h t,(H id).bind E.gen? with
  |some i,some l=>match i.u with
   | .slice e=>match cS h e with
    |some _=>some (.cr,[.q l gen,.p (0<=a/\a<=b/\b<=c/\c<=len)],k)
    |none=>none
   |_=>none
  |_,_=>none
 |_=>none
def zl(k:List (Nat×bO))(t:TypeId)(d:List V)(h:List bV):fH:=
 match d,h with
 | [.t (.aa a),.t (.int .i64 b),.t (.int .i64 c)],.rows r::h=>match cS k t with
  |some i=>match i.u with
   | .slice e=>match cS k e with
    |some j=>some (.t (.aa r),[.p (sub a 0 b=some r/\c=b),.p (Rows j.size a)],h)
    |none=>none
   |_=>none
  |none=>none
 |_,_=>none
def zT(e:List (Nat×bO))(H:Nat->Option E)(t:TypeId)(v:V)(b:List bV):fH:=
 match v,b with
 | .t (.str l),b=>match rF (cS e t) with
  |true=>some (.t (.int .i64 (l.length:Nat)),[],b)
  |false=>none
 | .t (.aa c),.nat n::b=>match rN (cS e t) with
  |true=>some (.t (.int .i64 (n:Nat)),[.p (c.length=n)],b)
  |false=>none
 | .aM id gen d _ len,.nat n::b=>match H id,rN (cS e t) with
  |some (.arr _ a h _),true=>some (.t (.int .i64 (n:Nat)),[.q a gen,.q h d,.p (len=n)],b)
  |some (.aw _ _ a _ _),true=>some (.t (.int .i64 (n:Nat)),[.q a gen,.p (len=n)],b)
  |_,_=>none
 |_,_=>none
def yl(h:List (Nat×bO))(H:Nat->Option E)(b:Builtin)(c:List TypeId)(i:List Operand)(a:List V)(d:List bV):fH:=
 match b,c,i,a with
 | .len,[t],[_],[v]=>zT h H t v d
 | .max,_,[_,_],[.t (.int k m),.t (.int e n)]=>if k=e then some (.t (.int k (max m n)),[],d) else none
 | .min,_,[_,_],[.t (.int k m),.t (.int e n)]=>if k=e then some (.t (.int k (min m n)),[],d) else none
 |_,_,_,_=>none
def zR(H:Nat->Option E)(v:V)(a:List bV):fH:=
 match v with
 | .ca id gen _ _ _=>match (H id).bind E.gen? with
  |some b=>some (v,[.q b gen],a)
  |none=>none
 | .ref _ _=>some (v,[],a)
 | .aT _=>some (v,[],a)
 | .fn _ _=>some (v,[],a)
 |_=>none
def y'(c:List (Nat×bO))(t:TypeId)(b:List Nat)(a:List V)(d:List bV):fH:=
 match cS c t with
 |none=>none
 |some i=>match i.u with
  | .struct _=>match (fs i.z).val,Nat.beq b.length a.length,ik (i.places[·]?) (fs i.z).cs (b.zip a) with
   |true,true,some cs=>some (.agg cs,[],d)
   |_,_,_=>none
  |_=>none
def r6(P:Program)(h:List (Nat×bO))(H:Nat->Option E)(l:Op)(a:List V)(e:List bV):fH:=
 match l with
 | .move _=>match a with
  | [v]=>some (v,[],e)
  |_=>none
 | .assign _=>match a with
  | [v]=>some (v,[],e)
  |_=>none
 | .pick _ _ _=>match a,e with
  | [.t (.bool b),v,w],.b c::e=>some (bif c then v else w,[.p (b=c)],e)
  |_,_=>none
 | .load t _=>match a with
  | [v]=>match pA h H t v e with
   |some r=>some r
   |none=>y6 h H t v e
  |_=>none
 | .nilCheck _=>match a with
  | [v]=>zR H v e
  |_=>none
 | .binOp o t x y _=>match a with
  | [v,w]=>match zO P h o t v w e with
   |some r=>some r
   |none=>match zV h o t x y v w e with
    |some r=>some r
    |none=>zQ h o t v w e
  |_=>none
 | .unOp o _ _=>match a with
  | [v]=>Aa o v e
  |_=>none
 | .convert s d _=>match a with
  | [v]=>zk h s d v e
  |_=>none
 | .makeFunc m first _=>match m,first.toList with
  | .func f,[]=>some (.fn f a,[],e)
  |_,_=>none
 | .slice t _ bn i j3=>match j3 with
  |none=>y5 h H t bn i a e
  |some _=>match bn,i with
   |some _,some _=>yR h H t a e
   |none,some _=>zl h t a e
   |_,_=>none
 | .fieldAddr t _ k=>match a with
  | [v]=>y8 h H t k v e
  |_=>none
 | .field t _ k=>match a with
  | [v]=>zX h t k v e
  |_=>none
 | .indexAddr t _ _=>match a with
  | [v,w]=>zW h H t v w e
  |_=>none
 | .index t _ _=>match a with
  | [v,w]=>y7 h t v w e
  |_=>none
 | .extract _ k=>match a with
  | [.bI n]=>match n[k]? with
   |some v=>some (v,[],e)
   |none=>none
  |_=>none
 | .build t q=>y' h t (q.toList.map (·.1)) a e
 | .call c=>match c.callee with
  | .builtin b=>yl h H b c.argTypes.toList c.args.toList a e
  |_=>none
 |_=>none
end Go.Lift
