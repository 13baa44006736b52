/- Tools. -/
import Derived.Test.YtlbojjldejlgaaaGreatXLiftV
namespace Go.Lift
open Go
section
def cg.cat(a b:cg):cg:=⟨a.dX++b.dX,a.hs++b.hs,a.us++b.us⟩
def cg.nil:cg:=⟨[],[],[]⟩
theorem En{k:Type}: ∀(a b:List (Nat×k)) (f:Nat->k),cK f (a++b)=cK (cK f a) b
 | [],_,_=>rfl
 |(d,v)::a,b,f=>by simp only[List.cons_append,cK];exact En a b _
theorem ky(a b:cg)(s:S):(a.cat b).app s=b.app (a.app s):=by unfold cg.app cg.cat;simp only[En]
theorem jI{k:Type}: ∀(l:List (Nat×k)) (f:Nat->k) (r:Nat),((∀v,(r,v)∉l)/\cK f l r=f r)\/ ∃v,(r,v)∈l/\cK f l r=v
 | [],_,_=> .inl ⟨λ_ h=>(List.not_mem_nil h).elim,rfl⟩
 |(d,v)::l,f,r=>by
  rcases jI l (aE f d v) r with ⟨b,a⟩|⟨c,b,a⟩
  ·by_cases e:r=d
   ·subst e;exact .inr ⟨v,ev,by rw[cK,a,bs]⟩
   refine .inl ⟨λc h=>?_,by rw[cK,a,bu _ _ _ _ e]⟩;rcases dy.1 h with h|h
   ·cases h;exact e rfl
   exact b c h
  exact .inr ⟨c,dV _ b,by rw[cK,a]⟩
mutual
def iU:V->V->V
 | .t (.aa _),v=>kK v
 | .agg cs,.agg a=> .agg (mz cs a)
 | .bI cs,.bI a=> .bI (mz cs a)
 | .cr,_=> .cr
 |_,v=>v
def mz:List V->List V->List V
 |c::cs,v::a=>iU c v::mz cs a
 |_,a=>a
end
mutual
theorem y3: ∀c v:V,cV v (iU c v)
 | .t (.aa _),v=>by simp only[iU];exact px v
 | .agg cs,.agg a=>by simp only[iU];exact cV.agg (uq cs a)
 | .bI cs,.bI a=>by simp only[iU];exact cV.bI (uq cs a)
 | .cr,v=>by simp only[iU];exact cV.cr v
 | .t (.bool _),v| .t (.int _ _),v| .t (.str _),v| .t .ek,v| .t .gU,v| .t .eN,v| .t .jo,v| .t .err,v=>by simp only[iU];exact cV.refl v
 | .ref _ _,v| .aT _,v| .aM _ _ _ _ _,v| .ca _ _ _ _ _,v| .fn _ _,v=>by simp only[iU];exact cV.refl v
 | .agg _,.t _| .agg _,.bI _| .agg _,.ref _ _| .agg _,.aT _| .agg _,.aM _ _ _ _ _| .agg _,.ca _ _ _ _ _| .agg _,.fn _ _| .agg _,.cr=>by simp only[iU];exact cV.refl _
 | .bI _,.t _| .bI _,.agg _| .bI _,.ref _ _| .bI _,.aT _| .bI _,.aM _ _ _ _ _| .bI _,.ca _ _ _ _ _| .bI _,.fn _ _| .bI _,.cr=>by simp only[iU];exact cV.refl _
theorem uq: ∀cs a:List V,eB a (mz cs a)
 |c::cs,v::a=>by simp only[mz];exact⟨y3 c v,uq cs a⟩
 | [],a=>by simp only[mz];exact eB.refl a
 |_::_,[]=>by simp only[mz];exact trivial
end
def u9:Option E->Option E->Option E
 |some (.cells cs),some (.cells a)=>some (.cells (mz cs a))
 |some _,e=>e
 |none,_=>none
variable {e:TypeId}{x:E}{β W:Map}{s a:S}{w:World}{r l:List Nat}{b:List (Nat×Option E)}{d:List (Nat×Bool)}{k i n gen L m g:Nat}{q:Option Nat}{p:V->V->Prop}{X j:Nat->Prop}{Q:Exit->S->Prop}{u:Value}{v:V}{o:Oper}
theorem ER{c e:Option E}(h:u9 c e=some x): ∃a,e=some a/\hB a x:=by
 unfold u9 at h;split at h
 ·cases h;exact⟨_,rfl,uq _ _⟩
 ·exact⟨x,h,hB.refl x⟩
 cases h
def pI(s:S):List (Nat×V)->List V
 | []=>[]
 |(i,v)::l=>iU v (s.t i)::pI s l
def pV(s:S):List (Nat×Option E)->List (Option E)
 | []=>[]
 |(k,e)::l=>u9 e (s.H k)::pV s l
def iw{k:Type}:List (Nat×k)->List k
 | []=>[]
 |(_,v)::l=>v::iw l
theorem yA{s:S}: ∀{l:List (Nat×V)},pI s l=iw l-> ∀i v,(i,v)∈l->cV (s.t i) v
 |(a,b)::l,h,i,v,hm=>by
  simp only[pI,iw,List.cons.injEq] at h;rcases dy.1 hm with hm|hm
  ·cases hm;exact h.1▸y3 _ _
  exact yA h.2 i v hm
theorem yP{s:S}: ∀{l:List (Nat×Option E)},pV s l=iw l-> ∀k e,(k,some e)∈l-> ∃a,s.H k=some a/\hB a e
 |(jW,a)::l,h,k,e,hm=>by
  simp only[pV,iw,List.cons.injEq] at h;rcases dy.1 hm with hm|hm
  ·cases hm;exact ER h.1
  exact yP h.2 k e hm
def o6{k:Type}(a:List Nat):List (Nat×k)->Bool
 | []=>true
 |(i,_)::l=>gi i a&&o6 a l
theorem yg{k:Type}{r:List Nat}: ∀{l:List (Nat×k)},o6 r l=true-> ∀i v,(i,v)∈l->i∈r
 |(a,b)::l,h,i,v,hm=>by
  simp only[o6,Bool.and_eq_true] at h;rcases dy.1 hm with hm|hm
  ·cases hm;exact xV h.1
  exact yg h.2 i v hm
def rS{k:Type}:List (Nat×k)->List Nat
 | []=>[]
 |(i,_)::l=>i::rS l
theorem D6{k:Type}{i:Nat}: ∀{l:List (Nat×k)},i∈rS l-> ∃v,(i,v)∈l
 |(c,a)::l,h=>by
  simp only[rS,List.mem_cons] at h;rcases h with rfl|h
  ·exact⟨a,ev⟩
  obtain⟨v,b⟩:=D6 h;exact⟨v,dV _ b⟩
def u1(a:List Nat)(t:Nat->V):Nat->V:=λi=>bif gi i a then .cr else t i
def S.cl(s:S)(a:List Nat)(b:List (Nat×V))(c:List (Nat×Option E))(d:List (Nat×Bool)):S:={t:=cK (u1 a s.t) b,H:=cK s.H c,u:=cK s.u d}
theorem Rel.Ca{K:Ctx}{c:S}{a:Act}(l:Rel K β s a w)(n:c.u=s.u)(v: ∀k e,c.H k=some e-> ∃m,s.H k=some m/\hB m e)(x: ∀i,cV (s.t i) (c.t i)):Rel K β c a w:=by
 have d: ∀b,own K β c.H b->own K β s.H b:=by
  rintro b (h|⟨id,p,q⟩)
  ·exact .inl h
  cases o:c.H id with
  |none=>exact a6 o p
  |some e=>
   obtain⟨m,r,_⟩:=v id e o;exact .inr ⟨id,by rw[r];simp,q⟩
 refine {l with low:= ?_,cU:= ?_,dt:= ?_,heap:= ?_,ct:= ?_}
 ·intro id h;rw[n];exact l.low id h
 ·intro id h;rw[n] at h;exact l.cU id h
 ·intro id b h;rw[n] at h;exact l.dt id b h
 ·intro id e o;obtain⟨m,p,q⟩:=v id e o;obtain⟨r,y⟩:=l.heap id m p;refine⟨by rw[n];exact r,?_⟩;exact(q.q1 y).mono (Ext.refl _ _) (λb _=>d b) (cJ.refl _) (λ_ h=>h) (Shaped.refl _ _) λ_ _=>rfl
 intro i;exact(x i _ _ _ _ (l.ct i)).mono (Ext.refl _ _) (λb _=>d b) (cJ.refl _) (Shaped.refl _ _)
theorem SO{K:Ctx}{e:cg}{c:List (Nat×V)}(y:e.us=d)(z:o6 r e.dX=true)(A:o6 (rS b) e.hs=true)
  (B:pI (e.app s) c=iw c) (D:pV (e.app s) b=iw b):(e.app s).le K (s.cl r c b d):=by
 intro F a w G;refine⟨F,G.Ca ?_ ?_ ?_⟩
 ·show cK s.u d=cK s.u e.us;rw[y]
 ·intro k x n;have n:cK s.H b k=some x:=n;rcases jI b s.H k with ⟨o,m⟩|⟨v,o,m⟩
  ·rw[m] at n;refine⟨x,?_,hB.refl x⟩;show cK s.H e.hs k=some x;rw[jM _ _ _ λv p=>?_]
   ·exact n
   obtain⟨R,L⟩:=D6 (yg A k v p)
   grind
  rw[m] at n;subst n;exact yP D k x o
 intro i;show cV _ (cK (u1 r s.t) c i);rcases jI c (u1 r s.t) i with ⟨o,m⟩|⟨v,o,m⟩
 ·rw[m];unfold u1;cases q:gi i r with
  |true=>exact cV.cr _
  |false=>
   show cV (cK s.t e.dX i) (s.t i);rw[jM _ _ _ (λv p=>by
    have hm:=yg z i v p
    have: ∀{l:List Nat},i∈l->gi i l=true:=by
     intro l;induction l with
     |nil=>intro h;cases h
     |cons x l Q=>
      intro h;simp only[gi];rcases dy.1 h with rfl|h
      ·simp
      cases Nat.beq x i with
      |true=>rfl
      |false=>exact Q h
    rw[this hm] at q;cases q)]
   exact cV.refl _
 rw[m];exact yA B i v o
theorem Em{k:Type}(f:Nat->k)(i:Nat):aE f i (f i)=f:=by
 funext j;by_cases a:j=i
 ·subst a;rw[bs]
 rw[bu _ _ _ _ a]
def Map.move(a:Map)(k c gen:Nat)(q:Option Nat):Map:=
 ⟨λi=>bif Nat.beq i c then some (q,1) else bif Nat.beq i k then some (none,gen+1) else a i,λi b=>(i=c/\a.n k b)\/(i≠c/\i≠k/\a.n i b)⟩
theorem zE(h:i≠k):Nat.beq i k=false:=by
 cases a:Nat.beq i k with
 |false=>rfl
 |true=>exact a6 (b9 a) h
theorem yJ(b:Map)(k a gen:Nat)(q:Option Nat):b.move k a gen q a=some (q,1):=by simp[Map.move]
theorem yH(b:Map)(k a gen:Nat)(q:Option Nat)(h:k≠a):b.move k a gen q k=some (none,gen+1):=by simp[Map.move,zE h]
theorem Cl(a:Map)(k b gen:Nat)(q:Option Nat)(id:Nat)(h:id≠k)(c:id≠b):a.move k b gen q id=a id:=by simp[Map.move,zE h,zE c]
theorem Fv(c:Map)(k d gen:Nat)(q:Option Nat)(a b:Nat)(h:a≠k)(e:a≠d):(c.move k d gen q).n a b↔c.n a b:=by simp[Map.move,h,e]
theorem Fc(d:k≠n)(e:W k=some (q,gen)){b:Nat}(h:At (W.move k n gen q) i b):(i=n/\At W k b)\/(i≠k/\i≠n/\At W i b):=by
 rcases h with ⟨g,h⟩|⟨rfl,h⟩|⟨a,c,h⟩
 ·by_cases a:i=n
  ·subst a;rw[yJ] at h;cases h;exact .inl ⟨rfl,.inl ⟨gen,e⟩⟩
  by_cases c:i=k
  ·subst c;rw[yH _ _ _ _ _ d] at h;cases h
  rw[Cl _ _ _ _ _ _ c a] at h;exact .inr ⟨c,a,.inl ⟨g,h⟩⟩
 ·exact .inl ⟨rfl,.inr h⟩
 exact .inr ⟨c,a,.inr h⟩
theorem NA{K:Ctx}(i k bz gen d B D:Nat){p:List (List T)}(N:Nat.ble K.cB k=true)(R:k≠bz)(aG:s.t i= .aM k gen d B D)(W:s.H k=some (.arr e gen d p))(P:s.u bz=false):
  s.le K {t:=aE s.t i (.aM bz 1 d B D),H:=aE (aE s.H k none) bz (some (.arr e 1 d p)),u:=aE s.u bz true}:=by
 intro L a w h;have jT:=eb N;obtain⟨q,E⟩:=hi (h.heap k _ W).2;have hd:=(h.heap k _ W).2.1;have U:=(h.heap k _ W).1;have cy:=h.cU bz P;have Uw:K.cB<=bz:=by
  apply Nat.le_of_not_lt;intro V;rw[h.low bz V] at P;cases P
 let m:=L.move k bz gen q;have I:m bz=some (q,1):=yJ _ _ _ _ _;have b0:m k=some (none,gen+1):=yH _ _ _ _ _ R;have Y: ∀id,id≠k->id≠bz->m id=L id:=λid l A=>Cl _ _ _ _ _ _ l A;have r: ∀id b,At m id b->(id=bz/\At L k b)\/(id≠k/\id≠bz/\At L id b):=by
  intro id b F;exact Fc R E F
 have X:cJ L m:=by
  intro id q2 g M
  grind
 have z: ∀b,own K m (aE (aE s.H k none) bz (some (.arr e 1 d p))) b->own K L s.H b:=by
  rintro b (M|⟨id,l,A⟩)
  ·exact .inl M
  rcases r id b A with ⟨rfl,y⟩|⟨y,f,Q⟩
  ·exact .inr ⟨k,by rw[W];simp,y⟩
  rw[bu _ _ _ _ f,bu _ _ _ _ y] at l;exact .inr ⟨id,l,Q⟩
 refine⟨m,{h with base:= ?_,low:= ?_,cU:= ?_,dt:= ?_,inj:= ?_,fresh:= ?_,heap:= ?_,ct:= ?_}⟩
 ·exact h.base.keep λid hid=>Y id O O
 ·intro id hid;show aE s.u bz true id=true;rw[bu _ _ _ _ O];exact h.low id hid
 ·intro id hid;have c:aE s.u bz true id=false:=hid;by_cases l:id=bz
  ·subst l;rw[bs] at c;cases c
  rw[bu _ _ _ _ l] at c;rw[Y id (by intro e;subst e;rw[U] at c;cases c) l];exact h.cU id c
 ·intro id b hid F;have c:aE s.u bz true id=false:=hid;rcases F with ⟨l,_⟩|⟨l,_,F⟩
  ·subst l;rw[bs] at c;cases c
  rw[bu _ _ _ _ l] at c;exact h.dt id b c F
 ·intro id hP b l A;rcases r id b l with ⟨rfl,y⟩|⟨y,f,Q⟩<;>rcases r hP b A with ⟨e2,h6⟩|⟨h6,ig,hN⟩
  ·exact e2.symm
  ·exact a6 (h.inj _ _ b hN y) h6
  ·subst e2;exact a6 (h.inj _ _ b Q h6) y
  exact h.inj _ _ b Q hN
 ·intro id b F;rcases r id b F with ⟨rfl,y⟩|⟨y,f,Q⟩
  ·refine⟨?_,(h.fresh _ _ y).2⟩;exact(h.fresh _ _ y).1
  exact h.fresh id b Q
 ·intro id e' o;have o:aE (aE s.H k none) bz (some (.arr e 1 d p)) id=some e':=o;show aE s.u bz true id=true/\b4 m w (own K m (aE (aE s.H k none) bz (some (.arr e 1 d p)))) id e';by_cases l:id=bz
  ·subst l;rw[bs] at o;cases o;refine⟨bs _ _ _,cL _,?_⟩;rcases(h.heap k _ W).2.2 with ⟨ay,a2⟩|⟨b,us,ay,a2,a3,a4,a5⟩
   ·rw[E] at ay;cases ay;exact .inl ⟨I,a2⟩
   rw[E] at ay;cases ay;exact .inr ⟨b,us,I,a2,a3,a4,λi j row x u c1 c2 c3=>(a5 i j row x u c1 c2 c3).mono (Ext.refl _ _) λb _=>z b⟩
  rw[bu _ _ _ _ l] at o⊢;by_cases A:id=k
  ·subst A;rw[bs] at o;cases o
  rw[bu _ _ _ _ A] at o;obtain⟨y,f⟩:=h.heap id e' o;exact⟨y,f.mono (Ext.refl _ _) (λb _=>z b) X (λx M=>by rw[Y id A l];exact M) (Shaped.refl _ _) (λ_ _=>rfl) λb=>Fv _ _ _ _ _ _ _ A l⟩
 intro j;show aQ m w _ (aE s.t i (.aM bz 1 d B D) j) _;by_cases hj:j=i
 ·subst hj;rw[bs];have l:=h.ct j;rw[aG] at l;generalize a.tmps.getD j undef=v at l;rcases eh l E with ⟨cap,b,n,gl,rfl,G,hw,hs,lV,cc,hm⟩|⟨G,rfl,rfl,rfl⟩
  ·subst G;exact .aM bz 1 d B D cap b n gl (cL _) I hw hs lV cc hm
  subst G;exact .fy bz 1 d (cL _) I
 rw[bu _ _ _ _ hj];exact(h.ct j).mono (Ext.refl _ _) (λb _=>z b) X (Shaped.refl _ _)
theorem b4.set{b:Nat}{a:List V}{j:Nat}{c x:V}(h:b4 β w X b (.cells a))(n:a[j]? =some c)(o: ∀u,aQ β w X c u->aQ β w X x u):b4 β w X b (.cells (a.set j x)):=by
 obtain⟨d,e,ty,k,l,m,p⟩:=h;refine⟨d,e,ty,k,l,by simpa using m,λi v u q r=>?_⟩
 grind
theorem Ll{K:Ctx}(b k i j gen p:Nat){n:List (List T)}{L:List de}{Q:Nat}{l:List (List T)}{R:List (Nat×Nat×V)}(W:Nat.ble K.cB k=true)(X:b≠k)
  (aR:s.H b=some (.aw L m Q l ((i,j,.aM k gen p 0 n.length)::R))) (hk:s.H k=some (.arr e gen p n)):
  s.le K {t:=s.t,H:=aE (aE s.H k none) b (some (.aw L m Q l ((i,j,.t (.aa n))::R))),u:=s.u}:=by
 intro y a w h;have jT:=eb W;generalize gR:(some (.aw L m Q l ((i,j,.t (.aa n))::R)):Option E)=N;have Xi:N≠none:=by subst gR;simp
 have d: ∀o,own K y (aE (aE s.H k none) b N) o->own K y s.H o:=by
  rintro o (f|⟨id,q,F⟩)
  ·exact .inl f
  by_cases z:id=b
  ·subst z;exact .inr ⟨id,by rw[aR];simp,F⟩
  rw[bu _ _ _ _ z] at q;by_cases r:id=k
  ·subst r;rw[bs] at q;exact a6 rfl q
  rw[bu _ _ _ _ r] at q;exact .inr ⟨id,q,F⟩
 have A: ∀o,At y k o-> ¬own K y (aE (aE s.H k none) b N) o:=by
  rintro o D (f|⟨id,q,F⟩)
  ·obtain⟨kh,nO⟩:=h.gq o f;rcases(h.fresh k o D).1 with g|jR
   ·exact nO g
   omega
  have:=h.inj _ _ _ F D;subst this;rw[bu _ _ _ _ (jx X),bs] at q;exact q rfl
 have I:=(h.heap k _ hk).2;refine⟨y,{h with heap:= ?_,ct:= ?_}⟩
 ·intro id e' c;have c:aE (aE s.H k none) b N id=some e':=c;by_cases z:id=b
  ·subst z;rw[bs] at c;subst c;cases gR;obtain⟨r,G⟩:=h.heap id _ aR;refine⟨r,G.1,?_⟩;rcases G.2 with ⟨ay,a2,a3⟩|⟨o,us,B,ay,a2,a3,a4,a5,g',fz,eQ⟩
   ·exact .inl ⟨ay,a2,a3⟩
   refine .inr ⟨o,us,B,ay,a2,a3,a4,λgB cn M x u cD b0 eR=>?_,g',fz,eQ⟩;have P:=a5 gB cn M x u cD b0 eR;refine⟨λv bG=>?_,λU=>?_⟩
   ·rcases dy.1 bG with e|bG
    ·simp only[Prod.mk.injEq] at e;obtain⟨rfl,rfl,rfl⟩:=e;obtain⟨Y,d2⟩:=P.1 _ ev;exact⟨.t _ _ (I.read Y d A),d2⟩
    obtain⟨Y,d2⟩:=P.1 v (dV _ bG);exact⟨Y.mono (Ext.refl _ _) (λb _=>d b) (cJ.refl _) (Shaped.refl _ _),d2⟩
   have hne: ¬(gB=i/\cn=j):=by rintro⟨rfl,rfl⟩;exact U _ ev
   refine(P.2 λv bG=>?_).mono (Ext.refl _ _) (λb _=>d b) (λ_ _=>rfl)
   grind
  rw[bu _ _ _ _ z] at c;by_cases r:id=k
  ·subst r;rw[bs] at c;cases c
  rw[bu _ _ _ _ r] at c;obtain⟨G,h6⟩:=h.heap id e' c;exact⟨G,h6.mono (Ext.refl _ _) (λb _=>d b) (cJ.refl _) (λ_ h=>h) (Shaped.refl _ _) λ_ _=>rfl⟩
 intro i;exact(h.ct i).mono (Ext.refl _ _) (λb _=>d b) (cJ.refl _) (Shaped.refl _ _)
theorem Ln{K:Ctx}(b j k gen n:Nat){c:List (List T)}{r:List V}(F:Nat.ble K.cB k=true)(G:s.H b=some (.cells r))(f:r[j]? =some (.aM k gen n 0 c.length))(L:s.H k=some (.arr e gen n c)):
  s.le K {t:=s.t,H:=aE (aE s.H k none) b (some (.cells (r.set j (.t (.aa c))))),u:=s.u}:=by
 intro x a w h;have M:=eb F;have Q:b≠k:=by intro e;subst e;rw[G] at L;cases L
 have l: ∀m,own K x (aE (aE s.H k none) b (some (.cells (r.set j (.t (.aa c)))))) m->own K x s.H m:=by
  rintro m (R|⟨id,o,B⟩)
  ·exact .inl R
  by_cases y:id=b
  ·subst y;exact .inr ⟨id,by rw[G];simp,B⟩
  rw[bu _ _ _ _ y] at o;by_cases p:id=k
  ·subst p;rw[bs] at o;exact a6 rfl o
  rw[bu _ _ _ _ p] at o;exact .inr ⟨id,o,B⟩
 have z: ∀m,At x k m-> ¬own K x (aE (aE s.H k none) b (some (.cells (r.set j (.t (.aa c)))))) m:=by
  rintro m A (R|⟨id,o,B⟩)
  ·obtain⟨kh,N⟩:=h.gq m R;rcases(h.fresh k m A).1 with q|P
   ·exact N q
   omega
  have:=h.inj _ _ _ B A;subst this;rw[bu _ _ _ _ (jx Q),bs] at o;exact o rfl
 have W:=(h.heap k _ L).2;refine⟨x,{h with heap:= ?_,ct:= ?_}⟩
 ·intro id e' d;have d:aE (aE s.H k none) b (some (.cells (r.set j (.t (.aa c))))) id=some e':=d;by_cases y:id=b
  ·subst y;rw[bs] at d;cases d;obtain⟨p,X⟩:=h.heap id _ G;refine⟨p,?_⟩;obtain⟨m,U,ty,Y,g2,g3,g⟩:=X;refine⟨m,U,ty,Y,g2,by simpa using g3,λi v u D E=>?_⟩;by_cases I:i=j
   ·subst I;have q:=(bt.1 f).1;rw[hU q] at D;cases D;exact .t _ _ (W.read (g i _ u f E) l z)
   rw[jw (jx I)] at D;exact(g i v u D E).mono (Ext.refl _ _) (λb _=>l b) (cJ.refl _) (Shaped.refl _ _)
  rw[bu _ _ _ _ y] at d;by_cases p:id=k
  ·subst p;rw[bs] at d;cases d
  rw[bu _ _ _ _ p] at d;obtain⟨X,h6⟩:=h.heap id e' d;exact⟨X,h6.mono (Ext.refl _ _) (λb _=>l b) (cJ.refl _) (λ_ h=>h) (Shaped.refl _ _) λ_ _=>rfl⟩
 intro i;exact(h.ct i).mono (Ext.refl _ _) (λb _=>l b) (cJ.refl _) (Shaped.refl _ _)
theorem Ou{K:Ctx}{c:Nat}(b j k:Nat)(e:TypeId){A:List V}(F:s.u k=false)(X:s.H b=some (.cells A))(M:A[j]? =some (.t .ek)):
  s.le K {t:=s.t,H:=aE (aE s.H k (some (.arr e 1 c []))) b (some (.cells (A.set j (.aM k 1 c 0 0)))),u:=aE s.u k true}:=by
 intro p a w h;have cy:=h.cU k F;have f:b≠k:=by intro e;subst e;have:=(h.heap b _ X).1;rw[this] at F;cases F
 have q: ∀id x,p id=some x->p.put k (some (none,1)) id=some x:=λid x l=>by
  rw[dK _ _ _ _ (by intro e;subst e;rw[cy] at l;cases l)];exact l
 have G:=cJ.of q;have o: ∀id n,At (p.put k (some (none,1))) id n->id≠k/\At p id n:=λid n l=>by
  by_cases r:id=k
  ·subst r;rcases l with ⟨g,l⟩|l
   ·rw[iB] at l;cases l
   exact a6 l (h.dt _ _ F)
  refine⟨r,?_⟩;rcases l with ⟨g,l⟩|l
  ·rw[dK _ _ _ _ r] at l;exact .inl ⟨g,l⟩
  exact .inr l
 have y: ∀n,own K (p.put k (some (none,1))) (aE (aE s.H k (some (.arr e 1 c []))) b (some (.cells (A.set j (.aM k 1 c 0 0))))) n->own K p s.H n:=by
  rintro n (l|⟨id,z,B⟩)
  ·exact .inl l
  obtain⟨E,L⟩:=o id n B;by_cases W:id=b
  ·subst W;exact .inr ⟨id,by rw[X];simp,L⟩
  rw[bu _ _ _ _ W,bu _ _ _ _ E] at z;exact .inr ⟨id,z,L⟩
 have Q: ∀v u,aQ p w (own K p s.H) v u->aQ (p.put k (some (none,1))) w (own K (p.put k (some (none,1))) (aE (aE s.H k (some (.arr e 1 c []))) b (some (.cells (A.set j (.aM k 1 c 0 0)))))) v u:=
  λv u D=>D.mono (Ext.refl _ _) (λb _=>y b) G (Shaped.refl _ _)
 refine⟨p.put k (some (none,1)),{h with base:= ?_,low:= ?_,cU:= ?_,dt:= ?_,inj:= ?_,fresh:= ?_,heap:= ?_,ct:=λi=>Q _ _ (h.ct i)}⟩
 ·refine h.base.keep λid hid=>?_
  have:=h.low id hid;rw[dK _ _ _ _ (by intro e;subst e;rw[F] at this;cases this)]
 ·intro id hid;show aE s.u k true id=true;by_cases e:id=k
  ·subst e;exact bs _ _ _
  rw[bu _ _ _ _ e];exact h.low id hid
 ·intro id hid;have d:aE s.u k true id=false:=hid;by_cases e:id=k
  ·subst e;rw[bs] at d;cases d
  rw[bu _ _ _ _ e] at d;rw[dK _ _ _ _ e];exact h.cU id d
 ·intro id b hid;have d:aE s.u k true id=false:=hid;by_cases e:id=k
  ·subst e;rw[bs] at d;cases d
  rw[bu _ _ _ _ e] at d;exact h.dt id b d
 ·intro id R n z B;exact h.inj id R n (o id n z).2 (o R n B).2
 ·intro id n l;exact h.fresh id n (o id n l).2
 intro id e' m;have m:aE (aE s.H k (some (.arr e 1 c []))) b (some (.cells (A.set j (.aM k 1 c 0 0)))) id=some e':=m;show aE s.u k true id=true/\b4 _ _ (own K _ (aE (aE s.H k (some (.arr e 1 c []))) b (some (.cells (A.set j (.aM k 1 c 0 0)))))) id e';by_cases L:id=b
 ·subst L;rw[bs] at m;cases m;rw[bu _ _ _ _ f];obtain⟨W,n,T,ty,U,Y,g3,N⟩:=h.heap id _ X;refine⟨W,n,T,ty,q _ _ U,Y,by simpa using g3,λi v u D P=>?_⟩;by_cases r:i=j
  ·subst r;have I:=(bt.1 M).1;rw[hU I] at D;cases D;have z:=N i _ u M P;cases z with
   |t _ _ B=>cases B;exact .fy k 1 c (cL _) (bs _ _ _)
  rw[jw (jx r)] at D;exact Q _ _ (N i v u D P)
 rw[bu _ _ _ _ L] at m;by_cases r:id=k
 ·subst r;rw[bs] at m;cases m;exact⟨bs _ _ _,cL _,Or.inl ⟨bs _ _ _,rfl⟩⟩
 rw[bu _ _ _ _ r] at m;obtain⟨z,B⟩:=h.heap id e' m;exact⟨by rw[bu _ _ _ _ r];exact z,B.mono (Ext.refl _ _) (λb _=>y b) G (q id) (Shaped.refl _ _) λ_ _=>rfl⟩
def jq(k:Nat):Nat->Bool:=λid=>bif Nat.beq id k then false else true
def n'(k:Nat)(v:V):V:=bif v.ok (jq k) then v else .cr
def zK(k:Nat):E->Option E
 | .cells cs=>bif e6 (jq k) cs then some (.cells cs) else none
 | .aw c m gen a b=>bif pW (jq k) b then some (.aw c m gen a b) else none
 |e=>some e
theorem uP(h:i≠k):jq k i=true:=by
 have:Nat.beq i k=false:=by cases a:Nat.beq i k with
  |false=>rfl
  |true=>exact a6 (b9 a) h
 simp[jq,this]
theorem rC(h:jq k i=true):i≠k:=by intro e;subst e;simp[jq] at h
def E.j9(n:Nat):E->E
 | .arr e _ z r=> .arr e n z r
 | .aw a m _ r b=> .aw a m n r b
 |e=>e
abbrev E.wI:E->E:=E.j9 1
def E.oG:E->List (Nat×Nat×V)
 | .aw _ _ _ _ a=>a
 |_=>[]
theorem b4.j9{β':Map}{N:Nat->Prop}{e:E}(h:b4 β w X k e)(d:1<=n)(z:e.gen=some g)(s:β k=some (q,g))(y:β' L=some (q,n))(G: ∀b,β'.n L b↔β.n k b)(H: ∀b,N b->X b)
  (R: ∀i j v,(i,j,v)∈e.oG-> ∀u,aQ β w X v u->aQ β' w N v u):b4 β' w N L (e.j9 n):=by
 cases e with
 |cells=>cases z
 |arr ty W Q l=>
  cases z;refine⟨d,?_⟩;rcases h.2 with ⟨ay,a2⟩|⟨b,A,ay,a2,a3,a4,a5⟩
  ·rw[s] at ay;cases ay;exact .inl ⟨y,a2⟩
  rw[s] at ay;cases ay;exact .inr ⟨b,A,y,a2,a3,a4,λi j a x u o p r=>(a5 i j a x u o p r).mono (Ext.refl _ _) λb _=>H b⟩
 |aw t m W l I=>
  cases z;refine⟨d,?_⟩;rcases h.2 with ⟨ay,a2,a0⟩|⟨b,A,B,ay,a2,a3,a4,a5,g',fz,eQ⟩
  ·rw[s] at ay;cases ay;exact .inl ⟨y,a2,λc f=>a0 c ((G c).1 f)⟩
  rw[s] at ay;cases ay;exact .inr ⟨b,A,B,y,a2,a3,a4,λi j a x u o p r=>⟨λv D=>⟨R i j v D _ ((a5 i j a x u o p r).1 v D).1,((a5 i j a x u o p r).1 v D).2⟩,λF=>((a5 i j a x u o p r).2 F).mono (Ext.refl _ _) (λc _=>H c) λ_ _=>rfl⟩,g',fz,λc=>(G c).trans (eQ c)⟩
theorem Rel.H3{K:Ctx}{s':S}{a:Act}(h:Rel K β s a w)(k g gen:Nat){e:E}{F:Option Nat}(B:s.H k=some e)(f:e.gen=some gen)(G:e.oG=[])(L:k<K.cB)(Q:K.fZ k=some (F,g))
  (n:s'.u=s.u) (R:s'.H k=some (e.j9 (g+1))) (q:Option Nat) (D:β k=some (q,gen))
  (I: ∀id x,id≠k->s'.H id=some x->s.H id≠none/\ ∀X,(∀b,X b->own K β s.H b)->b4 (β.put k (some (q,g+1))) w X id x)
  (T: ∀i,∀X,(∀b,X b->own K β s.H b)->aQ (β.put k (some (q,g+1))) w X (s'.t i) (a.tmps.getD i undef)):Rel K (β.put k (some (q,g+1))) s' a w:=by
 have W:1<=gen:=(l7 (h.heap k _ B).2 f).1;have o:=(h.heap k _ B).1;have p:1<=g/\ ∀b,q=some b->F=some b\/K.w0.heap.size<=b:=by
  rcases h.base k L with M|⟨V,Y,q2,g2,ay,a2,a3,a4,a5⟩
  ·rw[D,Q] at M;cases M;exact⟨W,λb aR=> .inl aR⟩
  rw[Q] at ay;cases ay;rw[D] at a3;cases a3;exact⟨a2,a5⟩
 have c: ∀id b,At (β.put k (some (q,g+1))) id b->At β id b:=λid b aR=>by
  rcases aR with ⟨U,aR⟩|aR
  ·by_cases d:id=k
   ·subst d;rw[iB] at aR;cases aR;exact .inl ⟨gen,D⟩
   rw[dK _ _ _ _ d] at aR;exact .inl ⟨U,aR⟩
  exact .inr aR
 have l: ∀b,own K (β.put k (some (q,g+1))) s'.H b->own K β s.H b:=by
  rintro b (m|⟨id,r,z⟩)
  ·exact .inl m
  refine .inr ⟨id,?_,c id b z⟩;by_cases d:id=k
  ·subst d;rw[B];simp
  cases m:s'.H id with
  |none=>exact a6 m r
  |some x=>exact(I id x d m).1
 refine {h with base:= ?_,low:= ?_,cU:= ?_,dt:=λid b hid=>h.dt id b (n▸hid),inj:= ?_,fresh:=λid b aR=>h.fresh id b (c id b aR),heap:= ?_,ct:=λi=>T i _ l}
 ·intro id hid;by_cases d:id=k
  ·subst d;exact .inr ⟨F,g,q,g+1,Q,p.1,bs _ _ _,lx _,p.2⟩
  rw[dK _ _ _ _ d];exact h.base id hid
 ·intro id hid;rw[n];exact h.low id hid
 ·intro id hid;rw[n] at hid;rw[dK _ _ _ _ (by intro e;subst e;rw[o] at hid;cases hid)];exact h.cU id hid
 ·intro id A b r z;exact h.inj id A b (c id b r) (c A b z)
 intro id x m;by_cases d:id=k
 ·subst d;rw[R] at m;cases m;exact⟨by rw[n];exact o,(h.heap id _ B).2.j9 O f D (bs _ _ _) (λ_=>Iff.rfl) l λi j v N=>by rw[G] at N;cases N⟩
 obtain⟨r,z⟩:=I id x d m;refine⟨?_,z _ l⟩;rw[n];cases P:s.H id with
 |none=>exact a6 P r
 |some y=>exact(h.heap id y P).1
theorem DU(l:W k=some (q,gen))(h:aQ W w X (.aM k gen i L m) u):aQ (W.put k (some (q,g+1))) w j (.aM k (g+1) i L m) u:=by
 rcases eh h l with ⟨c,b,n,d,rfl,a,o,p,e,r,s⟩|⟨a,rfl,rfl,rfl⟩
 ·subst a;exact .aM k (g+1) i L m c b n d O (bs _ _ _) o p e r s
 subst a;exact .fy k (g+1) i O (bs _ _ _)
theorem EB(h:aQ W w X v u)(a: ∀b,j b->X b):aQ (W.put k (some (q,g+1))) w j (n' k v) u:=by
 unfold n';cases c:v.ok (jq k) with
 |false=>exact .cr _
 |true=>exact h.under a (λid hid=>dK _ _ _ _ (rC hid)) c
theorem DL{y:E}(h:b4 W w X i x)(e: ∀b,j b->X b)(l:i≠k)(a:zK k x=some y):b4 (W.put k (some (q,g+1))) w j i y:=by
 unfold zK at a;split at a
 ·rename_i cs;cases c:e6 (jq k) cs with
  |false=>rw[c] at a;cases a
  |true=>rw[c] at a;cases a;exact h.under e (λi hid=>dK _ _ _ _ (rC hid)) (uP l) c
 ·rename_i n;cases c:pW (jq k) n with
  |false=>rw[c] at a;cases a
  |true=>rw[c] at a;cases a;exact h.under e (λi hid=>dK _ _ _ _ (rC hid)) (uP l) c
 cases a;refine h.under e (u:=jq k) (λi hid=>dK _ _ _ _ (rC hid)) (uP l) ?_;cases x with
 |cells cs=>rename_i o _;exact a6 rfl (o cs)
 |arr=>rfl
 |aw p m gen d n=>rename_i _ o;exact a6 rfl (o p m gen d n)
def mv(k:Nat)(H:Nat->Option E):Nat->Option E:=λid=>match H id with
 |some e=>zK k e
 |none=>none
theorem B6{K:Ctx}(i k g gen b c d:Nat){e:E}(D:Nat.blt k K.cB=true)(F:s.t i= .aM k gen b c d)(v:s.H k=some e)(z:e.gen=some gen)(n:e.oG=[])(o: ∃q,K.fZ k=some (q,g)):
  s.le K {t:=aE (λj=>n' k (s.t j)) i (.aM k (g+1) b c d),H:=aE (mv k s.H) k (some (e.j9 (g+1))),u:=s.u}:=by
 intro G a w h;obtain⟨L,o⟩:=o;obtain⟨_,q,A⟩:=l7 (h.heap k _ v).2 z;refine⟨_,h.H3 (s':={t:=aE (λj=>n' k (s.t j)) i (.aM k (g+1) b c d),H:=aE (mv k s.H) k (some (e.j9 (g+1))),u:=s.u}) k g gen v z n (by simpa[Nat.blt_eq] using D) o rfl (bs _ _ _) q A ?_ ?_⟩
 ·intro id x m l;have l:aE (mv k s.H) k (some (e.j9 (g+1))) id=some x:=l;rw[bu _ _ _ _ m] at l;unfold mv at l;cases p:s.H id with
  |none=>rw[p] at l;cases l
  |some y=>
   rw[p] at l;exact⟨aY,λX r=>DL (h.heap id y p).2 r m l⟩
 intro j X r;show aQ _ w X (aE (λj=>n' k (s.t j)) i (.aM k (g+1) b c d) j) _;by_cases B:j=i
 ·subst B;rw[bs];exact DU A (F▸h.ct j)
 rw[bu _ _ _ _ B];exact EB (h.ct j) r
theorem B7{K:Ctx}(b j k g gen c l m:Nat){e:E}{cs:List V}(cj:Nat.blt k K.cB=true)(A:s.H b=some (.cells cs))(B:cs[j]? =some (.aM k gen c l m))(D:e6 (jq k) (cs.set j .cr)=true)
  (z:s.H k=some e) (F:e.gen=some gen) (G:e.oG=[]) (L: ∃q,K.fZ k=some (q,g)):
  s.le K {t:=λj=>n' k (s.t j),H:=aE (aE (mv k s.H) k (some (e.j9 (g+1)))) b (some (.cells (cs.set j (.aM k (g+1) c l m)))),u:=s.u}:=by
 intro Q a w h;obtain⟨ni,L⟩:=L;obtain⟨_,q,I⟩:=l7 (h.heap k _ z).2 F;have n:b≠k:=by intro e';subst e';rw[A] at z;cases z;cases F
 refine⟨_,h.H3 (s':={t:=λj=>n' k (s.t j),H:=aE (aE (mv k s.H) k (some (e.j9 (g+1)))) b (some (.cells (cs.set j (.aM k (g+1) c l m)))),u:=s.u}) k g gen z F G (by simpa[Nat.blt_eq] using cj) L rfl (by show aE _ b _ k=_;rw[bu _ _ _ _ (jx n),bs]) q I ?_ ?_⟩
 ·intro id x o d;have d:aE (aE (mv k s.H) k (some (e.j9 (g+1)))) b (some (.cells (cs.set j (.aM k (g+1) c l m)))) id=some x:=d;by_cases p:id=b
  ·subst p;rw[bs] at d;cases d;refine⟨by rw[A];simp,λX r=>?_⟩;have M:=(h.heap id _ A).2;have h6:b4 Q w (own K Q s.H) id (.cells (cs.set j .cr)):=M.set B λu _=> .cr u;have ig:=h6.under (u:=jq k) (β':=Q.put k (some (q,g+1))) r (λid hid=>dK _ _ _ _ (rC hid)) (uP n) D;obtain⟨e3,us,ty,N,P,g3,g4⟩:=ig;obtain⟨b0,nA,Wu,T,U,f3,f4⟩:=M;rw[dK _ _ _ _ n,T] at N;cases N;rw[U] at P;cases P;refine⟨_,_,_,by rw[dK _ _ _ _ n];exact T,U,by simpa using f3,λi v u R hu=>?_⟩;by_cases Y:i=j
   ·subst Y;have W:=(bt.1 B).1;rw[hU W] at R;cases R;exact DU I (f4 i _ u B hu)
   rw[jw (jx Y)] at R
   grind
  rw[bu _ _ _ _ p,bu _ _ _ _ o] at d;unfold mv at d;cases f:s.H id with
  |none=>rw[f] at d;cases d
  |some y=>
   rw[f] at d;exact⟨aY,λX r=>DL (h.heap id y f).2 r o d⟩
 intro j X r;exact EB (h.ct j) r
inductive h8 (p:V->V->Prop):V->V->Prop
 |same (v:V):h8 p v v
 |put {v c7:V} (h:p v c7):h8 p v c7
 |agg {cs oj:List V} (cc:oj.length=cs.length) (h: ∀(i:Nat) c rX,cs[i]? =some c->oj[i]? =some rX->h8 p c rX):h8 p (.agg cs) (.agg oj)
theorem h8.tp{a:Map}{b:World}(e: ∀v u,aQ a w X v u->aQ W b j v u)(k: ∀v x u,p v x->aQ a w X v u->aQ W b j x u){x:V}(h:h8 p v x): ∀u,aQ a w X v u->aQ W b j x u:=by
 induction h with
 |same v=>exact e v
 |put h=>exact λu=>k _ _ u h
 |agg l h m=>
  intro u d;cases d with
  |agg _ n o q=>
   refine .agg _ n O λi r u c d=>?_;have aG:=(bt.1 c).1;have bj:=bg (show i<_ by rw[<-l];exact aG);exact m i _ r bj c u (q i _ u bj d)
def rs(p:V->V->Prop)(e b:E):Prop:=b=e\/ ∃cs a,e= .cells cs/\b= .cells a/\a.length=cs.length/\ ∀(i:Nat) c d,cs[i]? =some c->a[i]? =some d->h8 p c d
theorem rs.q1{a:Map}(d: ∀x,a n=some x->W n=some x)(m: ∀e,b4 a w X n e->b4 W w j n e)(o: ∀v u,aQ a w X v u->aQ W w j v u)(q: ∀v k u,p v k->aQ a w X v u->aQ W w j k u){e e':E}(h:rs p e e')(l:b4 a w X n e):b4 W w j n e':=by
 rcases h with rfl|⟨cs,r,rfl,rfl,s,h⟩
 ·exact m _ l
 obtain⟨b,y,ty,z,A,G,B⟩:=l;refine⟨b,y,ty,d _ z,A,O,λi D u c F=>?_⟩;have aG:=(bt.1 c).1;have bj:=bg (show i<_ by rw[<-s];exact aG);exact h8.tp o q (h i _ D bj c) u (B i _ u bj F)
theorem Lm{K:Ctx}(X:Nat->V)(o:Nat->Option E)(k gen d:Nat){c:List (List T)}(D:Nat.ble K.cB k=true)(I:s.H k=some (.arr e gen d c))
  (M: ∀i,h8 (λv p=>v= .aM k gen d 0 c.length/\p= .t (.aa c)) (s.t i) (X i)) (N:o k=none)
  (f: ∀id q,o id=some q-> ∃r,s.H id=some r/\rs (λv p=>v= .aM k gen d 0 c.length/\p= .t (.aa c)) r q):s.le K {t:=X,H:=o,u:=s.u}:=by
 intro l a w h;have P:=eb D;have m: ∀n,own K l o n->own K l s.H n:=by
  rintro n (F|⟨id,A,x⟩)
  ·exact .inl F
  cases B:o id with
  |none=>exact a6 B A
  |some q=>obtain⟨r,G,_⟩:=f id q B;exact .inr ⟨id,by rw[G];simp,x⟩
 have y: ∀n,At l k n-> ¬own K l o n:=by
  rintro n z (F|⟨id,A,x⟩)
  ·obtain⟨kh,U⟩:=h.gq n F;rcases(h.fresh k n z).1 with L|Y
   ·exact U L
   omega
  have:=h.inj _ _ _ x z
  grind
 have Q:=(h.heap k _ I).2;have g: ∀v u,aQ l w (own K l s.H) v u->aQ l w (own K l o) v u:=λv u R=>R.mono (Ext.refl _ _) (λb _=>m b) (cJ.refl _) (Shaped.refl _ _);have j: ∀v p u,(v= .aM k gen d 0 c.length/\p= .t (.aa c))->aQ l w (own K l s.H) v u->aQ l w (own K l o) p u:=by
  rintro v p u ⟨rfl,rfl⟩ R;exact .t _ _ (Q.read R m y)
 refine⟨l,{h with heap:= ?_,ct:= ?_}⟩
 ·intro id q W;obtain⟨r,A,x⟩:=f id q W;obtain⟨G,h4⟩:=h.heap id r A;exact⟨G,x.q1 (λ_ h=>h) (λe B=>B.mono (Ext.refl _ _) (λb _=>m b) (cJ.refl _) (λ_ h=>h) (Shaped.refl _ _) λ_ _=>rfl) g j h4⟩
 intro i;exact h8.tp g j (M i) _ (h.ct i)
theorem Mq{K:Ctx}(ju:Nat->V)(z:Nat->Option E)(k bz gen l W:Nat){B:E}(Y:Nat.ble K.cB k=true)(X:k≠bz)(P:s.H k=some B)(bE:B.gen=some gen)(hu:s.u bz=false)
  (eT: ∀i,h8 (λv G=>v= .aM k gen l 0 W/\G= .aM bz 1 l 0 W) (s.t i) (ju i)) (T3:z k=none) (f:z bz=some B.wI)
  (hH: ∀id e',id≠bz->z id=some e'-> ∃B,s.H id=some B/\rs (λv G=>v= .aM k gen l 0 W/\G= .aM bz 1 l 0 W) B e'):
  s.le K {t:=ju,H:=z,u:=aE s.u bz true}:=by
 intro A a w h;have jT:=eb Y;obtain⟨hd,q,cH⟩:=l7 (h.heap k _ P).2 bE;have AQ:=(h.heap k _ P).1;have cy:=h.cU bz hu;have Uw:K.cB<=bz:=by
  apply Nat.le_of_not_lt;intro hlt;rw[h.low bz hlt] at hu;cases hu
 let d:=A.move k bz gen q;have cD:d bz=some (q,1):=yJ _ _ _ _ _;have b0:d k=some (none,gen+1):=yH _ _ _ _ _ X;have T: ∀id,id≠k->id≠bz->d id=A id:=λid m r=>Cl _ _ _ _ _ _ m r;have o: ∀id b,At d id b->(id=bz/\At A k b)\/(id≠k/\id≠bz/\At A id b):=by
  intro id b L;exact Fc X cH L
 have I:cJ A d:=by
  intro id q2 g D
  grind
 have y: ∀b,own K d z b->own K A s.H b:=by
  rintro b (D|⟨id,m,r⟩)
  ·exact .inl D
  rcases o id b r with ⟨rfl,p⟩|⟨p,M,F⟩
  ·exact .inr ⟨k,by rw[P];simp,p⟩
  cases U:z id with
  |none=>exact a6 U m
  |some e'=>obtain⟨B,Q,_⟩:=hH id e' M U;exact .inr ⟨id,by rw[Q];simp,F⟩
 have hm: ∀v u,aQ A w (own K A s.H) v u->aQ d w (own K d z) v u:=λv u bG=>bG.mono (Ext.refl _ _) (λb _=>y b) I (Shaped.refl _ _);have hp: ∀v G u,(v= .aM k gen l 0 W/\G= .aM bz 1 l 0 W)->aQ A w (own K A s.H) v u->aQ d w (own K d z) G u:=by
  rintro v G u ⟨rfl,rfl⟩ bG;rcases eh bG cH with ⟨cap,b,n,gl,rfl,R,hw,hs,lV,cc,vv⟩|⟨R,m,r,rfl⟩
  ·subst R;exact .aM bz 1 l 0 _ cap b n gl (cL _) cD hw hs lV cc vv
  subst R;rw[r];exact .fy bz 1 l (cL _) cD
 refine⟨d,{h with base:= ?_,low:= ?_,cU:= ?_,dt:= ?_,inj:= ?_,fresh:= ?_,heap:= ?_,ct:= ?_}⟩
 ·exact h.base.keep λid hid=>T id O O
 ·intro id hid;show aE s.u bz true id=true;rw[bu _ _ _ _ O];exact h.low id hid
 ·intro id hid;have c:aE s.u bz true id=false:=hid;by_cases m:id=bz
  ·subst m;rw[bs] at c;cases c
  rw[bu _ _ _ _ m] at c;rw[T id (by intro e;subst e;rw[AQ] at c;cases c) m];exact h.cU id c
 ·intro id b hid L;have c:aE s.u bz true id=false:=hid;rcases L with ⟨m,_⟩|⟨m,_,L⟩
  ·subst m;rw[bs] at c;cases c
  rw[bu _ _ _ _ m] at c;exact h.dt id b c L
 ·intro id hP b m r;rcases o id b m with ⟨rfl,p⟩|⟨p,M,F⟩<;>rcases o hP b r with ⟨e2,Q⟩|⟨Q,ig,hN⟩
  ·exact e2.symm
  ·exact a6 (h.inj _ _ b hN p) Q
  ·subst e2;exact a6 (h.inj _ _ b F Q) p
  exact h.inj _ _ b F hN
 ·intro id b L;rcases o id b L with ⟨rfl,p⟩|⟨p,M,F⟩
  ·refine⟨?_,(h.fresh _ _ p).2⟩;exact(h.fresh _ _ p).1
  exact h.fresh id b F
 ·intro id e' D;have N:z id=some e':=D;clear D;show aE s.u bz true id=true/\b4 d w (own K d z) id e';by_cases m:id=bz
  ·subst m;rw[f] at N;cases N;exact⟨bs _ _ _,(h.heap k _ P).2.j9 (cL _) bE cH cD (λb=>by simp[d,Map.move]) y λ_ _ v _ u=>hm v u⟩
  have r:id≠k:=by intro e;subst e;rw[T3] at N;cases N
  obtain⟨B,F,Q⟩:=hH id e' m N;obtain⟨p,M⟩:=h.heap id B F;rw[bu _ _ _ _ m];refine⟨p,Q.q1 (λx D=>by rw[T id r m];exact D) (λe U=>U.mono (Ext.refl _ _) (λb _=>y b) I (λx D=>by rw[T id r m];exact D) (Shaped.refl _ _) (λ_ _=>rfl) λb=>Fv _ _ _ _ _ _ _ r m) hm hp M⟩
 intro j;exact h8.tp hm hp (eT j) _ (h.ct j)
mutual
def l8(k g z n:Nat)(b:V):V->V×List cQ
 | .aM d gen a c len=>match Nat.beq d k&&Nat.beq c 0 with
  |true=>(b,[.q gen g,.q a z,.q len n])
  |false=>(.aM d gen a c len,[])
 | .agg cs=>(.agg (j5 k g z n b cs).1,(j5 k g z n b cs).2)
 |v=>(v,[])
def j5(k g z n:Nat)(a:V):List V->List V×List cQ
 | []=>([],[])
 |c::cs=>((l8 k g z n a c).1::(j5 k g z n a cs).1,(l8 k g z n a c).2++(j5 k g z n a cs).2)
end
theorem Ch(k g z n:Nat)(a:V): ∀cs,(j5 k g z n a cs).1.length=cs.length
 | []=>rfl
 |c::cs=>by simp[j5,Ch k g z n a cs]
mutual
theorem FC(k g z n:Nat)(c:V): ∀v,bS (l8 k g z n c v).2->h8 (λa b=>a= .aM k g z 0 n/\b=c) v (l8 k g z n c v).1
 | .aM l gen i e len,h=>by
  unfold l8 at h⊢;cases d:Nat.beq l k&&Nat.beq e 0 with
  |false=>exact .same _
  |true=>
   simp only[d] at h⊢;simp only[Bool.and_eq_true] at d;obtain⟨rfl,rfl,rfl,_⟩:=h;have m:=b9 d.1;have o:=b9 d.2;subst m;subst o;exact .put ⟨rfl,rfl⟩
 | .agg cs,h=>by
  simp only[l8] at h⊢;exact .agg (Ch _ _ _ _ _ _) (zA k g z n c cs h)
 | .t _,_| .bI _,_| .ref _ _,_| .aT _,_| .ca _ _ _ _ _,_| .fn _ _,_| .cr,_=>by simp only[l8];exact .same _
theorem zA(k g z n:Nat)(d:V): ∀cs,bS (j5 k g z n d cs).2-> ∀(i:Nat) c l,cs[i]? =some c->(j5 k g z n d cs).1[i]? =some l->h8 (λa b=>a= .aM k g z 0 n/\b=d) c l
 | [],_,i,c,l,h,_=>by simp at h
 |o::cs,m,0,c,l,h,e=>by
  simp only[j5] at m e;simp at h e;subst h;subst e;exact FC k g z n d o (bS.app m).1
 |o::cs,m,i+1,c,l,h,e=>by simp only[j5] at m e;simp at h e;exact zA k g z n d cs (bS.app m).2 i c l h e
end
def gk(k g z n:Nat)(a:V)(s:S):List Nat->List (Nat×V)×List cQ
 | []=>([],[])
 |i::is=>((i,(l8 k g z n a (s.t i)).1)::(gk k g z n a s is).1,(l8 k g z n a (s.t i)).2++(gk k g z n a s is).2)
def eX(k g z n:Nat)(a:V)(s:S):List Nat->List (Nat×Option E)×List cQ
 | []=>([],[])
 |b::c=>match s.H b with
  |some (.cells cs)=>((b,some (.cells (j5 k g z n a cs).1))::(eX k g z n a s c).1,(j5 k g z n a cs).2++(eX k g z n a s c).2)
  |_=>eX k g z n a s c
theorem zz{k g z n:Nat}{x:V}{s:S}: ∀{is:List Nat},bS (gk k g z n x s is).2-> ∀i v,(i,v)∈(gk k g z n x s is).1->h8 (λa b=>a= .aM k g z 0 n/\b=x) (s.t i) v
 |i0::is,c,i,v,h=>by
  simp only[gk] at c h;rcases dy.1 h with h|h
  ·cases h;exact FC _ _ _ _ _ _ (bS.app c).1
  exact zz (bS.app c).2 i v h
theorem uL{k g z n:Nat}{x:V}{s:S}: ∀{i:List Nat},bS (eX k g z n x s i).2-> ∀b e,(b,e)∈(eX k g z n x s i).1-> ∃m o,s.H b=some m/\e=some o/\rs (λa b=>a= .aM k g z 0 n/\b=x) m o
 |p::i,c,b,e,h=>by
  unfold eX at c h;split at h
  ·rename_i cs d;simp only[d] at c;rcases dy.1 h with h|h
   ·cases h;exact⟨_,_,d,rfl,.inr ⟨cs,_,rfl,rfl,Ch _ _ _ _ _ _,zA _ _ _ _ _ _ (bS.app c).1⟩⟩
   exact uL (bS.app c).2 b e h
  rename_i d;split at c
  ·rename_i cs l;exact a6 l (d cs)
  exact uL c b e h
theorem Fg{k:Nat}: ∀{l:List Nat},k∈l->gi k l=true
 |x::l,h=>by
  simp only[gi];rcases dy.1 h with rfl|h
  ·simp
  cases Nat.beq x k with
  |true=>rfl
  |false=>exact Fg h
theorem tD(h:(!gi k l)=true):k∉l:=λa=>by rw[Fg a] at h;cases h
theorem E3{bz:Nat}(h:(!Nat.beq k bz)=true):k≠bz:=λe=>by subst e;simp at h
theorem tB{k g z n:Nat}{x:V}{s:S}: ∀{a:List Nat} {b:Nat} {e:Option E},(b,e)∈(eX k g z n x s a).1->b∈a
 |c::a,b,e,h=>by
  unfold eX at h;split at h
  ·rcases dy.1 h with h|h
   ·cases h;exact ev
   exact dV _ (tB h)
  exact dV _ (tB h)
theorem SH{K:Ctx}{a:List (List T)}{L:List Nat}(d:Nat.ble K.cB k=true)(l:s.H k=some (.arr e gen n a))(m:k∉r)
  (o:bS (gk k gen n a.length (.t (.aa a)) s L).2) (p:bS (eX k gen n a.length (.t (.aa a)) s r).2):
  s.le K ((⟨(gk k gen n a.length (.t (.aa a)) s L).1,(k,none)::(eX k gen n a.length (.t (.aa a)) s r).1,[]⟩:cg).app s):=by
 refine Lm _ _ k gen n d l (λi=>?_) ?_ λid e' b=>?_
 ·rcases jI (gk k gen n a.length (.t (.aa a)) s L).1 s.t i with ⟨_,c⟩|⟨v,h,c⟩
  ·rw[c];exact .same _
  rw[c];exact zz o i v h
 ·show cK (aE s.H k none) _ k=none;rw[jM _ _ _ λv q=>m (tB q),bs]
 have b:cK (aE s.H k none) (eX k gen n a.length (.t (.aa a)) s r).1 id=some e':=b;rcases jI (eX k gen n a.length (.t (.aa a)) s r).1 (aE s.H k none) id with ⟨_,c⟩|⟨v,h,c⟩
 ·rw[c] at b;by_cases hid:id=k
  ·subst hid;rw[bs] at b;cases b
  rw[bu _ _ _ _ hid] at b;exact⟨e',b,.inl rfl⟩
 rw[c] at b;subst b;obtain⟨w,x,y,z,A⟩:=uL p id _ h
 grind
theorem F'{K:Ctx}{T:E}(e:Nat.ble K.cB k=true)(c:k≠L)(q:s.H k=some T)(w:T.gen=some gen)(x:s.u L=false)(y:k∉r)(h:L∉r)
  (z:bS (gk k gen n m (.aM L 1 n 0 m) s l).2) (A:bS (eX k gen n m (.aM L 1 n 0 m) s r).2):
  s.le K ((⟨(gk k gen n m (.aM L 1 n 0 m) s l).1,(k,none)::(L,some T.wI)::(eX k gen n m (.aM L 1 n 0 m) s r).1,[(L,true)]⟩:cg).app s):=by
 refine Mq _ _ k L gen n m e c q w x (λi=>?_) ?_ ?_ λid e' d a=>?_
 ·rcases jI (gk k gen n m (.aM L 1 n 0 m) s l).1 s.t i with ⟨_,b⟩|⟨v,o,b⟩
  ·rw[b];exact .same _
  rw[b];exact zz z i v o
 ·show cK (aE (aE s.H k none) L _) _ k=none;rw[jM _ _ _ λv p=>y (tB p),bu _ _ _ _ c,bs]
 ·show cK (aE (aE s.H k none) L _) _ L=_;rw[jM _ _ _ λv p=>h (tB p),bs]
 have a:cK (aE (aE s.H k none) L (some T.wI)) (eX k gen n m (.aM L 1 n 0 m) s r).1 id=some e':=a;rcases jI (eX k gen n m (.aM L 1 n 0 m) s r).1 (aE (aE s.H k none) L (some T.wI)) id with ⟨_,b⟩|⟨v,o,b⟩
 ·rw[b,bu _ _ _ _ d] at a;by_cases hid:id=k
  ·subst hid;rw[bs] at a;cases a
  rw[bu _ _ _ _ hid] at a;exact⟨e',a,.inl rfl⟩
 rw[b] at a;subst a;obtain⟨T,B,D,F,G⟩:=uL A id _ o
 grind
theorem Lk{K:Ctx}(A:Nat->V)(k:Nat){D:List T}(F:Nat.ble K.cB k=true)(R:s.H k=some (.cells (D.map .t)))
  (W: ∀i,A i=s.t i\/ ∃c,s.t i= .ref k c/\A i= .aT (D.drop c)):s.le K {t:=A,H:=aE s.H k none,u:=s.u}:=by
 intro q a w h;have X:=eb F;obtain⟨b,p,ty,B,f,L,g⟩:=(h.heap k _ R).2;have m: ∀G,own K q (aE s.H k none) G->own K q s.H G:=by
  rintro G (r|⟨id,n,o⟩)
  ·exact .inl r
  by_cases hid:id=k
  ·subst hid;rw[bs] at n;exact a6 rfl n
  rw[bu _ _ _ _ hid] at n;exact .inr ⟨id,n,o⟩
 have v: ¬own K q (aE s.H k none) b:=by
  rintro(r|⟨id,n,o⟩)
  ·obtain⟨kh,E⟩:=h.gq b r;rcases(h.fresh k b (.inl ⟨_,B⟩)).1 with d|I
   ·exact E d
   omega
  have:=h.inj _ _ _ o (.inl ⟨_,B⟩);subst this;rw[bs] at n;exact n rfl
 refine⟨q,{h with heap:= ?_,ct:= ?_}⟩
 ·intro id e' l;have l:aE s.H k none id=some e':=l;by_cases hid:id=k
  ·subst hid;rw[bs] at l;cases l
  rw[bu _ _ _ _ hid] at l;obtain⟨n,o⟩:=h.heap id e' l;exact⟨n,o.mono (Ext.refl _ _) (λb _=>m b) (cJ.refl _) (λ_ h=>h) (Shaped.refl _ _) λ_ _=>rfl⟩
 intro j;show aQ q w _ (A j) _;rcases W j with M|⟨c,n,o⟩
 ·rw[M];exact(h.ct j).mono (Ext.refl _ _) (λb _=>m b) (cJ.refl _) (Shaped.refl _ _)
 rw[o];have Q:=h.ct j;rw[n] at Q;obtain⟨b0,y,N⟩:=o7 Q;rw[B] at y;cases y;rw[N];have aR:=(h.fresh k b (.inl ⟨_,B⟩)).2;refine .aT _ b c (λi=>p.getD (c+i) undef) aR v (λi P=>?_) λi x r=>?_
 ·have d:c+i<p.size:=by simp at P L;omega
  simp[World.cell?,f,d]
 have z:D[c+i]? =some x:=by simpa using r
 have d:c+i<p.size:=by have:=(bt.1 z).1;simp at L;omega
 have U:=g (c+i) (.t x) p[c+i] (by simp[z]) (by simp[d]);have e:p.getD (c+i) undef=p[c+i]:=by simp[d]
 rw[e];cases U with
 |t _ _ Y=>exact Y.mono (Ext.refl _ _) λb _=>m b
def vo(k:Nat)(b:List T)(s:S):List Nat->Option (List (Nat×V))
 | []=>some []
 |i::is=>match s.t i with
  | .ref c a=>match Nat.beq c k,vo k b s is with
   |true,some l=>some ((i,.aT (b.drop a))::l)
   |_,_=>none
  |_=>none
theorem FQ{k:Nat}{a:List T}{s:S}: ∀{is:List Nat} {l:List (Nat×V)},vo k a s is=some l-> ∀i v,(i,v)∈l-> ∃b,s.t i= .ref k b/\v= .aT (a.drop b)
 | [],l,h,i,v,hm=>by cases h;cases hm
 |i0::is,l,h,i,v,hm=>by
  unfold vo at h;split at h
  ·rename_i n b c;split at h
   ·rename_i o d e;cases h;have m:=b9 d;subst m;rcases dy.1 hm with hm|hm
    ·cases hm;exact⟨b,c,rfl⟩
    exact FQ e i v hm
   cases h
  cases h
def rT(a:List (List T)):List Nat->List (Nat×V)
 | []=>[]
 |i::is=>(i,.t (.aa a))::rT a is
def oe(k b a n:Nat)(s:S):List Nat->Option (List cQ)
 | []=>some []
 |i::is=>match s.t i with
  | .aM e gen c d len=>match Nat.beq e k&&Nat.beq d 0,oe k b a n s is with
   |true,some h=>some (.q gen b:: .q c a:: .q len n::h)
   |_,_=>none
  |_=>none
theorem EP{k m L n:Nat}{s:S}: ∀{is:List Nat} {a:List cQ},oe k m L n s is=some a->bS a-> ∀i,i∈is->s.t i= .aM k m L 0 n
 | [],_,_,_,i,h=>by cases h
 |i0::is,a,h,b,i,aG=>by
  unfold oe at h;split at h
  ·rename_i w gen d e len l;split at h
   ·rename_i o c p;cases h;simp only[Bool.and_eq_true] at c;obtain⟨rfl,rfl,rfl,q⟩:=b;have r:=b9 c.1;have v:=b9 c.2;subst r;subst v;rcases dy.1 aG with rfl|aG
    ·exact l
    exact EP p q i aG
   cases h
  cases h
theorem D7{a:List (List T)}{j:Nat}{v:V}: ∀{is:List Nat},(j,v)∈rT a is->j∈is/\v= .t (.aa a)
 |i::is,h=>by
  simp only[rT,List.mem_cons] at h;rcases h with h|h
  ·cases h;exact⟨ev,rfl⟩
  obtain⟨b,c⟩:=D7 h;exact⟨dV _ b,c⟩
def u4{k:Type}:List k->Bool
 | []=>true
 |_::_=>false
theorem ze{k:Type}{l:List k}(h:u4 l=true):l=[]:=by
 cases l with
 |nil=>rfl
 |cons=>cases h
def gW(C:db)(h:bV)(s:S):Option (Option (cg×List cQ)):=
 match h with
 | .ed i k=>match s.t i,s.H k with
  | .aM v gen c B len,some (.arr _ w d a)=>match Nat.beq v k&&(Nat.beq B 0&&Nat.ble C.cB k) with
   |true=>some (some (⟨[(i,.t (.aa a))],[(k,none)],[]⟩,[.q gen w,.q c d,.q len a.length]))
   |false=>some none
  |_,_=>some none
 | .oA is k=>match s.H k with
  |some (.arr _ w d a)=>match Nat.ble C.cB k,oe k w d a.length s is with
   |true,some f=>some (some (⟨rT a is,[(k,none)],[]⟩,f))
   |_,_=>some none
  |_=>some none
 | .grow i k e=>match s.t i,s.u k,cS C.bQ e with
  | .t .ek,false,some j=>some (some (⟨[(i,.aM k 1 j.size 0 0)],[(k,some (.arr e 1 j.size []))],[(k,true)]⟩,[]))
  |_,_,_=>some none
 | .len i n=>match s.t i with
  | .aM k gen c B len=>some (some (⟨[(i,.aM k gen c B n)],[],[]⟩,[.p (len=n)]))
  |_=>some none
 | .vn k is=>match s.H k with
  |some (.cells E)=>match iS E,Nat.ble C.cB k with
   |some cs,true=>match vo k cs s is with
    |some l=>some (some (⟨l,[(k,none)],[]⟩,[]))
    |none=>some none
   |_,_=>some none
  |_=>some none
 | .cq k is G=>match s.H k with
  |some (.arr _ gen c a)=>match Nat.ble C.cB k&& !gi k G with
   |true=>some (some (⟨(gk k gen c a.length (.t (.aa a)) s is).1,(k,none)::(eX k gen c a.length (.t (.aa a)) s G).1,[]⟩,(gk k gen c a.length (.t (.aa a)) s is).2++(eX k gen c a.length (.t (.aa a)) s G).2))
   |false=>some none
  |_=>some none
 | .b2 k v is G=>match s.H k,s.u v with
  |some (.arr e gen c a),false=>match Nat.ble C.cB k&&(!Nat.beq k v&&(!gi k G&& !gi v G)) with
   |true=>some (some (⟨(gk k gen c a.length (.aM v 1 c 0 a.length) s is).1,(k,none)::(v,some (.arr e 1 c a))::(eX k gen c a.length (.aM v 1 c 0 a.length) s G).1,[(v,true)]⟩,
     (gk k gen c a.length (.aM v 1 c 0 a.length) s is).2++(eX k gen c a.length (.aM v 1 c 0 a.length) s G).2))
   |false=>some none
  |some (.aw r m gen a []),false=>match Nat.ble C.cB k&&(!Nat.beq k v&&(!gi k G&& !gi v G)) with
   |true=>some (some (⟨(gk k gen (Y r m).size a.length (.aM v 1 (Y r m).size 0 a.length) s is).1,(k,none)::(v,some (.aw r m 1 a []))::(eX k gen (Y r m).size a.length (.aM v 1 (Y r m).size 0 a.length) s G).1,[(v,true)]⟩,
     (gk k gen (Y r m).size a.length (.aM v 1 (Y r m).size 0 a.length) s is).2++(eX k gen (Y r m).size a.length (.aM v 1 (Y r m).size 0 a.length) s G).2))
   |false=>some none
  |_,_=>some none
 | .gT b j n=>match s.H b with
  |some (.cells cs)=>match cs[j]? with
   |some (.aM k gen c B len)=>some (some (⟨[],[(b,some (.cells (cs.set j (.aM k gen c B n))))],[]⟩,[.p (len=n)]))
   |_=>some none
  |_=>some none
 | .c6 i k v=>match s.t i,s.H k,s.u v with
  | .aM jW gen c B len,some (.arr e w d a),false=>match Nat.beq jW k&&(Nat.ble C.cB k&& !Nat.beq k v) with
   |true=>some (some (⟨[(i,.aM v 1 c B len)],[(k,none),(v,some (.arr e 1 d a))],[(v,true)]⟩,[.q gen w,.q c d]))
   |false=>some none
  |_,_,_=>some none
 | .GF b j k=>match s.H b,s.H k with
  |some (.cells cs),some (.arr _ w d a)=>match cs[j]?,Nat.ble C.cB k with
   |some (.aM v gen c B len),true=>match Nat.beq v k&&Nat.beq B 0 with
    |true=>some (some (⟨[],[(k,none),(b,some (.cells (cs.set j (.t (.aa a)))))],[]⟩,[.q gen w,.q c d,.q len a.length]))
    |false=>some none
   |_,_=>some none
  |some (.aw r m I Q ((M,N,.aM v gen c B len)::F)),some (.arr _ w d a)=>match Nat.beq v k&&(Nat.beq B 0&&(Nat.ble C.cB k&& !Nat.beq b k)) with
   |true=>some (some (⟨[],[(k,none),(b,some (.aw r m I Q ((M,N,.t (.aa a))::F)))],[]⟩,[.q gen w,.q c d,.q len a.length]))
   |false=>some none
  |_,_=>some none
 | .dv b j k e=>match s.H b,s.u k,cS C.bQ e with
  |some (.cells cs),false,some i=>match cs[j]? with
   |some (.t .ek)=>some (some (⟨[],[(k,some (.arr e 1 i.size [])),(b,some (.cells (cs.set j (.aM k 1 i.size 0 0))))],[(k,true)]⟩,[]))
   |_=>some none
  |_,_,_=>some none
 | .Bz k=>match s.H k with
  |some (.cells cs)=>some (some (⟨[],[(k,some (.cells (ff cs)))],[]⟩,[]))
  |_=>some none
 | .cM k r m=>match s.H k with
  |some (.arr ty gen c a)=>match u4 (Y r m).aJ||u4 a with
   |true=>some (some (⟨[],[(k,some (.aw r m gen a []))],[]⟩,[.q (Y r m).ty ty,.q (Y r m).size c]))
   |false=>some none
  |some (.aw L X gen a F)=>match Nat.ble C.cB k&&u4 (Y r m).aJ with
   |true=>some (some (⟨[],[(k,some (.aw r m gen a F))],[]⟩,[.q (Y r m).ty (Y L X).ty,.q (Y r m).size (Y L X).size]))
   |false=>some none
  |_=>some none
 | .fS k=>match s.H k with
  |some (.aw r m gen a [])=>match Nat.ble C.cB k with
   |true=>some (some (⟨[],[(k,some (.arr (Y r m).ty gen (Y r m).size a))],[]⟩,[]))
   |false=>some none
  |_=>some none
 | .dP k v i j A=>match s.H k,s.u v with
  |some (.aw r m gen a F),false=>match (Y r m).du j,A[j]? with
   |some W,some (.aa D)=>some (some (⟨[],[(k,some (.aw r m gen a ((i,j,.aM v 1 (Y r W).size 0 D.length)::F))),(v,some (.aw r W 1 D []))],[(v,true)]⟩,.p (a[i]? =some A)::oc i j F))
   |_,_=>some none
  |_,_=>some none
 | .fj k i j A=>match s.H k with
  |some (.aw r m gen a F)=>match (Y r m).du j,A[j]?,ng j F with
   |none,some x,true=>some (some (⟨[],[(k,some (.aw r m gen a ((i,j,.t x)::F)))],[]⟩,[.p (a[i]? =some A)]))
   |_,_,_=>some none
  |_=>some none
 | .fp k A R=>match s.H k with
  |some (.aw r m gen a ((i,j,.t x)::F))=>match (Y r m).du j,Nat.blt j (Y r m).size&&ng j F with
   |none,true=>some (some (⟨[],[(k,some (.aw r m gen R F))],[]⟩,[.p (a[i]? =some A),.p (a.set i (A.set j x)=R)]))
   |some _,true=>match x with
    | .ek=>some (some (⟨[],[(k,some (.aw r m gen R F))],[]⟩,[.p (a[i]? =some A),.p (a.set i (A.set j (.aa []))=R)]))
    |_=>some none
   |_,_=>some none
  |_=>some none
 | .GG i j k e=>match s.t i,s.u k,cS C.bQ e with
  | .agg cs,false,some y=>match cs[j]? with
   |some (.t .ek)=>some (some (⟨[(i,.agg (cs.set j (.aM k 1 y.size 0 0)))],[(k,some (.arr e 1 y.size []))],[(k,true)]⟩,[]))
   |_=>some none
  |_,_,_=>some none
 | .cN k v A R=>match s.H k,s.H v with
  |some (.aw r m gen a ((i,j,.aM bZ g z o n)::F)),some (.aw L W P D [])=>match (Y r m).du j,Nat.beq bZ v&&(!Nat.beq k v&&(Nat.ble C.cB v&&(Nat.beq o 0&&Nat.blt j (Y r m).size))) with
   |some T,true=>some (some (⟨[],[(v,none),(k,some (.aw r m gen R F))],[]⟩,.q g P:: .q z (Y r W).size:: .p (n=D.length):: .q T W:: .p (L=r):: .p (a[i]? =some A):: .p (a.set i (A.set j (.aa D))=R)::oc i j F))
   |_,_=>some none
  |_,_=>some none
 | .cut k n R=>match s.H k with
  |some (.arr e gen c a)=>some (some (⟨[],[(k,some (.arr e gen c R))],[]⟩,[.p (R=a.take n)]))
  |_=>some none
 |_=>none
def mu(C:db)(a:Nat):List bV->S->Option (cg×List cQ×List bV)
 | [],_=>some (.nil,[],[])
 | .at m::b,s=>match Nat.beq m a with
  |true=>mu C a b s
  |false=>some (.nil,[],.at m::b)
 |h::b,s=>match gW C h s with
  |none=>some (.nil,[],h::b)
  |some none=>none
  |some (some (e,i))=>match mu C a b (e.app s) with
   |some (k,c,d)=>some (e.cat k,i++c,d)
   |none=>none
section
variable {K:Ctx}{C:db}
theorem QL{K:Ctx}(k n:Nat){c:List (List T)}(p:s.H k=some (.arr e gen L c)):s.le K {s with H:=aE s.H k (some (.arr e gen L (c.take n)))}:=by
 intro q a w h;refine⟨q,h.BJ k p λX d=>⟨d.1,?_⟩⟩;rcases d.2 with ⟨m,o⟩|⟨b,r,m,o,v,y,A⟩
 ·exact .inl ⟨m,by rw[o];simp⟩
 refine .inr ⟨b,r,m,o,dT (dn _ (List.length_take_le' _ _)) v,λl z=>y l (hv z),λi j l x u ay a2 a3=>?_⟩
 grind
theorem ui(q:C.Fits K){h:bV}{e:cg}{R:List cQ}(b:gW C h s=some (some (e,R)))(i:bS R):s.le K (e.app s):=by
 unfold gW at b;split at b
 ·split at b
  ·rename_i x m;split at b
   ·rename_i d;cases b;simp only[Bool.and_eq_true] at d;obtain⟨rfl,rfl,rfl,_⟩:=i;have y:=b9 d.1;have D:=b9 d.2.1;subst y;subst D;exact Mr _ _ _ _ (by rw[<-q.cB];exact d.2.2) x m
   cases b
  cases b
 ·split at b
  ·rename_i m;split at b
   ·rename_i d W;cases b;refine CN _ _ _ _ (by rw[<-q.cB];exact d) (λj=>?_) m;rcases jI (rT _ _) s.t j with ⟨_,n⟩|⟨v,r,n⟩
    ·exact .inl n
    obtain⟨f,rfl⟩:=D7 r;exact .inr ⟨n,EP W i j f⟩
   cases b
  cases b
 ·split at b
  ·rename_i x o p;cases b;exact QM _ _ _ o x
  cases b
 ·split at b
  ·rename_i x;cases b;obtain⟨rfl,_⟩:=i;intro F a w G;refine⟨F,?_⟩;unfold cg.app;simp only[cK];rw[<-x,Em];exact G
  cases b
 ·split at b
  ·rename_i U m;split at b
   ·rename_i cs Q d;split at b
    ·rename_i l g;cases b;have z:=m;rw[lj Q] at z;refine Lk _ _ (by rw[<-q.cB];exact d) z λj=>?_;rcases jI l s.t j with ⟨_,n⟩|⟨v,r,n⟩
     ·exact .inl n
     obtain⟨u,Y,c2⟩:=FQ g j v r
     grind
    cases b
   cases b
  cases b
 ·split at b
  ·rename_i m;split at b
   ·rename_i d;cases b;simp only[Bool.and_eq_true] at d;obtain⟨H,L⟩:=bS.app i;exact SH (by rw[<-q.cB];exact d.1) m (tD d.2) H L
   cases b
  cases b
 ·split at b
  ·rename_i m o;split at b
   ·rename_i d;cases b;simp only[Bool.and_eq_true] at d;obtain⟨H,L⟩:=bS.app i;exact F' (by rw[<-q.cB];exact d.1) (E3 d.2.1) m rfl o (tD d.2.2.1) (tD d.2.2.2) H L
   cases b
  ·rename_i m o;split at b
   ·rename_i d;cases b;simp only[Bool.and_eq_true] at d;obtain⟨H,L⟩:=bS.app i;exact F' (by rw[<-q.cB];exact d.1) (E3 d.2.1) m rfl o (tD d.2.2.1) (tD d.2.2.2) H L
   cases b
  cases b
 ·split at b
  ·rename_i d;split at b
   ·rename_i p;cases b;obtain⟨rfl,_⟩:=i;intro F a w G;refine⟨F,?_⟩;have D:=bt.1 p;have E: ∀{cs:List V} {j:Nat} {c:V},cs[j]? =some c->cs.set j c=cs:=by
     intro cs j c h;obtain⟨r,n⟩:=bt.1 h;rw[<-n,List.set_getElem_self]
    unfold cg.app;simp only[cK];rw[E p,<-d,Em];exact G
   cases b
  cases b
 ·split at b
  ·rename_i x m o;split at b
   ·rename_i d;cases b;simp only[Bool.and_eq_true,Bool.not_eq_true'] at d;obtain⟨rfl,rfl,_⟩:=i;have y:=b9 d.1;subst y;exact NA _ _ _ _ _ _ _ (by rw[<-q.cB];exact d.2.1) (Nat.ne_of_beq_eq_false d.2.2) x m o
   cases b
  cases b
 ·split at b
  ·rename_i d m;split at b
   ·rename_i p I;split at b
    ·rename_i A;cases b;simp only[Bool.and_eq_true] at A;obtain⟨rfl,rfl,rfl,_⟩:=i;have y:=b9 A.1;have D:=b9 A.2;subst y;subst D;exact Ln _ _ _ _ _ (by rw[<-q.cB];exact I) d p m
    cases b
   cases b
  ·rename_i d m;split at b
   ·rename_i A;cases b;simp only[Bool.and_eq_true,Bool.not_eq_true'] at A;obtain⟨rfl,rfl,rfl,_⟩:=i;have y:=b9 A.1;have D:=b9 A.2.1;subst y;subst D;exact Ll _ _ _ _ _ _ (by rw[<-q.cB];exact A.2.2.1) (Nat.ne_of_beq_eq_false A.2.2.2) d m
   cases b
  cases b
 ·split at b
  ·rename_i d o x;split at b
   ·rename_i p;cases b;exact Ou _ _ _ _ o d p
   cases b
  cases b
 ·split at b
  ·rename_i k cs m;cases b;intro F a w G;exact⟨F,G.BJ _ m λX h=>(show hB (.cells _) (.cells _) from jn cs).q1 h⟩
  cases b
 ·split at b
  ·rename_i m;split at b
   ·rename_i d;cases b;obtain⟨r,n,_⟩:=i;refine On _ _ _ m r n ?_;rcases Bool.or_eq_true_iff.1 d with h|h
    ·exact .inr (ze h)
    exact .inl (ze h)
   cases b
  ·rename_i m;split at b
   ·rename_i d;cases b;obtain⟨r,n,_⟩:=i;simp only[Bool.and_eq_true] at d;exact Oq _ _ _ m (by rw[<-q.cB];exact d.1) r n (ze d.2)
   cases b
  cases b
 ·split at b
  ·rename_i m;split at b
   ·rename_i d;cases b;exact Oo _ m (by rw[<-q.cB];exact d)
   cases b
  cases b
 ·split at b
  ·rename_i m o;split at b
   ·rename_i B p;cases b;exact NB _ _ _ _ _ m o i.1 p B (tO i.2)
   cases b
  cases b
 ·split at b
  ·rename_i m;split at b
   ·rename_i B p M;cases b;exact Ot _ _ _ m i.1 p B M
   cases b
  cases b
 ·split at b
  ·rename_i m;split at b
   ·rename_i B d;cases b;simp only[Bool.and_eq_true] at d;obtain⟨r,rfl,_⟩:=i;exact Mp _ _ _ m r d.1 B d.2
   ·rename_i B d;split at b
    ·cases b;simp only[Bool.and_eq_true] at d;obtain⟨r,rfl,_⟩:=i;exact Ny _ _ _ _ m r d.1 B d.2
    cases b
   cases b
  cases b
 ·split at b
  ·rename_i x o hy;split at b
   ·rename_i p;cases b;exact Ov _ _ _ _ o x p
   cases b
  cases b
 ·split at b
  ·rename_i m z;split at b
   ·rename_i B d;cases b;simp only[Bool.and_eq_true,Bool.not_eq_true'] at d;obtain⟨rfl,n,N,rfl,rfl,P,rfl,T⟩:=i;have y:=b9 d.1;have D:=b9 d.2.2.2.1;subst y;subst D;exact Lj _ _ _ _ _ _ _ _ m z n N (Nat.ne_of_beq_eq_false d.2.1) (by rw[<-q.cB];exact d.2.2.1) P B d.2.2.2.2 (tO T)
   cases b
  cases b
 ·split at b
  ·rename_i m;cases b;obtain⟨rfl,_⟩:=i;exact QL _ _ m
  cases b
 cases b
theorem nb(l:C.Fits K){i:Nat}: ∀{m:List bV} {s:S} {e:cg} {k:List cQ} {b:List bV},mu C i m s=some (e,k,b)->bS k->s.le K (e.app s)
 | [],s,e,k,b,h,_=>by cases h;exact S.le.refl _ _
 |h::m,s,e,k,b,a,d=>by
  unfold mu at a;split at a
  ·cases a;exact S.le.refl _ _
  ·split at a
   ·rename_i c _ _;cases c;exact nb l a d
   cases a;exact S.le.refl _ _
  rename_i c;cases c;split at a
  ·cases a;exact S.le.refl _ _
  ·cases a
  rename_i x n o;split at a
  ·rename_i y p q r;cases a;obtain⟨v,w⟩:=bS.app d;rw[ky];exact(ui l o v).trans (nb l r w)
  cases a
def gy(C:db)(a:Array Oper):List Oper->List bV->S->Option (cg×List cQ)
 | [],b,s=>match mu C 0 b s with
  |some (e,p,[])=>some (e,p)
  |_=>none
 |o::l,b,s=>match mu C (l.length+1) b s with
  |none=>none
  |some (c,d,h)=>match oq C a o h (c.app s) with
   |none=>none
   |some (n,i,k)=>match gy C a l k (n.app (c.app s)) with
    |none=>none
    |some (q,m)=>some (c.cat (n.cat q),d++(i++m))
theorem FK(c:C.Fits K){b:Array Oper}{Q:S->Prop}: ∀{l:List Oper} {k:List bV} {s:S} {e:cg} {d:List cQ},gy C b l k s=some (e,d)->bS d->mC K b [] (e.app s) Q->mC K b l s Q
 | [],k,s,e,d,h,a,i=>by
  simp only[gy] at h;split at h
  ·rename_i F n p;cases h;exact CQ (nb c p a) i
  cases h
 |o::l,k,s,e,d,h,a,i=>by
  simp only[gy] at h;split at h
  ·cases h
  rename_i G q r v;split at h
  ·cases h
  rename_i H w x y;split at h
  ·cases h
  rename_i L z A;cases h;obtain⟨B,m⟩:=bS.app a;obtain⟨m,D⟩:=bS.app m;rw[ky,ky] at i;exact CQ (nb c v B) (RX (FL c y m) (FK c A D i))
abbrev nT:=Prop×List Nat×List (Nat×Bool)×Bool×List V×List (Option E)
def p4:nT:=(False,[],[],false,[],[])
def p5:nT:=(True,[],[],true,[],[])
def p6(s:S)(b:List Nat)(c:List (Nat×V))(a:List (Nat×Option E))(r:cg×List cQ):nT:=
 (ta r.2,qO r.2,r.1.us,o6 b r.1.dX&&o6 (rS a) r.1.hs,pI (r.1.app s) c,pV (r.1.app s) a)
def p7(a:Prop)(b:List (Nat×V))(c:List (Nat×Option E))(d:List (Nat×Bool))(r:cg×List cQ):nT:=
 (a,qP r.2,d,true,iw b,iw c)
def j7(x:Option (cg×List cQ))(n:nT)(f:cg×List cQ->nT):nT:=match x with
 |some r=>f r
 |none=>n
theorem Gl{x:Option (cg×List cQ)}{L:List Nat}{a:List (Nat×V)}{P:Prop}(i:P)
  (h:j7 x p4 (p6 s L a b)=j7 x p5 (p7 P a b d)): ∃e c,x=some (e,c)/\bS c/\(e.app s).le K (s.cl L a b d):=by
 cases x with
 |none=>simp[j7,p4,p5] at h
 |some r=>
  obtain⟨e,c⟩:=r;simp only[j7,p6,p7,Prod.mk.injEq,Bool.and_eq_true] at h;obtain⟨k,l,m,⟨n,o⟩,p,q⟩:=h;exact⟨e,c,rfl,bS.of (k▸i) l,SO m n o p q⟩
def tmps:List Operand->List Nat
 | []=>[]
 | .tmp t::a=>t::tmps a
 |_::a=>tmps a
def Gh(a:Array Oper)(o:Oper):List Nat:=match o.guard with
 |none=>[]
 |some (j,_)=>match (a[j]?).bind (·.dst) with
  |some t=>[t]
  |none=>[]
def uX(o:Oper)(a:List bV):List bV:=match o.guard with
 |none=>a
 |some _=>a.tail
def uQ(a:Array Oper)(o:Oper)(b:List bV)(s:S):fb:=⟨Gh a o++tmps o.op.operands.toList,qs o (o.op.operands.toList.map s.get) (uX o b)⟩
theorem yB{s a:S}: ∀{b:List Operand},(∀i,i∈tmps b->s.t i=a.t i)->b.map s.get=b.map a.get
 | [],_=>rfl
 | .tmp t::b,h=>by
  simp only[List.map_cons,List.cons.injEq];exact⟨h t ev,yB λi c=>h i (dV _ c)⟩
 | .const _::b,h| .global _::b,h| .func _::b,h=>by simp only[List.map_cons,List.cons.injEq];exact⟨rfl,yB h⟩
theorem Nj{H a:Nat->Option E}(h: ∀k,k∈r->H k=a k):pQ r H=pQ r a:=by
 funext k;unfold pQ;cases b:gi k r with
 |true=>exact h k (xV b)
 |false=>rfl
theorem Nh{u a:Nat->Bool}(h: ∀k,k∈r->u k=a k):pP r u=pP r a:=by
 funext k;unfold pP;cases b:gi k r with
 |true=>exact h k (xV b)
 |false=>rfl
theorem PJ{b:S}{a:List V}{hs:List bV}(h: ∀k,k∈qs o a hs->s.H k=b.H k/\s.u k=b.u k):mL C o a s hs=mL C o a b hs:=by unfold mL;rw[Nj λk c=>(h k c).1,Nh λk c=>(h k c).2]
theorem PW{b:Array Oper}{n:List bV}(h:(uQ b o n s).same a s):oq C b o n a=oq C b o n s:=by
 obtain⟨m,v⟩:=h;have w:o.op.operands.toList.map a.get=o.op.operands.toList.map s.get:=yB λi y=>m i (eW.2 (.inr y));have q: ∀c,(∀k,k∈qs o (o.op.operands.toList.map s.get) c->k∈qs o (o.op.operands.toList.map s.get) (uX o n))->mL C o (o.op.operands.toList.map s.get) a c=mL C o (o.op.operands.toList.map s.get) s c:=λc z=>
  PJ λk d=>v k (z k d)
 unfold oq;rw[w];cases e:o.guard with
 |none=>exact q n (λk d=>by simp only[uX,e];exact d)
 |some p=>
  obtain⟨j,r⟩:=p;have l:qk b j a=qk b j s:=by
   unfold qk;cases A:(b[j]?).bind (·.dst) with
   |none=>rfl
   |some t=>
    have:=m t (eW.2 (.inl (by unfold Gh;rw[e];simp only[A];exact rb.2 rfl)));simp only[this]
  simp only[l];cases n with
  |nil=>rfl
  |cons x n=>
   have:=q n λk d=>by simp only[uX,e,List.tail];exact d
   cases x<;>first|rfl|(dsimp only;rw[this])
def kW(C:db)(a:Nat):List bV->S->Option (cg×List cQ×List bV×fb)
 | .at m::hs,s=>match Nat.beq m a with
  |true=>kW C a hs s
  |false=>some (.nil,[],.at m::hs,⟨[],[]⟩)
 | .oA is k::hs,s=>match gW C (.oA is k) s with
  |some (some (e,d))=>match kW C a hs (e.app s) with
   |some (h,b,c,df)=>some (e.cat h,d++b,c,⟨is++df.dX,k::df.lb⟩)
   |none=>none
  |_=>none
 | .cq k is i::hs,s=>match gW C (.cq k is i) s with
  |some (some (e,d))=>match kW C a hs (e.app s) with
   |some (h,b,c,df)=>some (e.cat h,d++b,c,⟨is++df.dX,k::(i++df.lb)⟩)
   |none=>none
  |_=>none
 | .fS k::hs,s=>match gW C (.fS k) s with
  |some (some (e,d))=>match kW C a hs (e.app s) with
   |some (h,b,c,df)=>some (e.cat h,d++b,c,⟨df.dX,k::df.lb⟩)
   |none=>none
  |_=>none
 |hs,_=>some (.nil,[],hs,⟨[],[]⟩)
theorem Nc{C:db}(b:a.H k=s.H k):gW C (.fS k) a=gW C (.fS k) s:=by
 unfold gW
 grind
theorem DE{k g z n:Nat}{s a:S}: ∀{is:List Nat},(∀i,i∈is->a.t i=s.t i)->oe k g z n a is=oe k g z n s is
 | [],_=>rfl
 |i::is,h=>by unfold oe;rw[h i ev,DE λx b=>h x (dV _ b)]
theorem N4(b: ∀i,i∈r->a.t i=s.t i)(c:a.H k=s.H k):gW C (.oA r k) a=gW C (.oA r k) s:=by
 unfold gW;dsimp only;rw[c];split
 ·rw[DE b]
 rfl
theorem Eb{k g z n:Nat}{v:V}{s a:S}: ∀{is:List Nat},(∀i,i∈is->a.t i=s.t i)->gk k g z n v a is=gk k g z n v s is
 | [],_=>rfl
 |i::is,h=>by simp only[gk,h i List.mem_cons_self,Eb λx b=>h x (List.mem_cons_of_mem _ b)]
theorem Ec{k g z n:Nat}{v:V}{s a:S}: ∀{c:List Nat},(∀b,b∈c->a.H b=s.H b)->eX k g z n v a c=eX k g z n v s c
 | [],_=>rfl
 |b::c,h=>by unfold eX;rw[h b ev,Ec λx d=>h x (dV _ d)]
theorem Nb{L:List Nat}(c: ∀i,i∈r->a.t i=s.t i)(d:a.H k=s.H k)(e: ∀b,b∈L->a.H b=s.H b):gW C (.cq k r L) a=gW C (.cq k r L) s:=by
 unfold gW;dsimp only;rw[d];split
 ·rw[Eb c,Ec e]
 rfl
theorem yX{k:Type}{f g:Nat->k}{r:Nat}(h:f r=g r): ∀(l:List (Nat×k)),cK f l r=cK g l r:=by
 intro l;induction l generalizing f g with
 |nil=>exact h
 |cons p l b=>
  obtain⟨d,v⟩:=p;simp only[cK];apply b;by_cases a:r=d
  ·subst a;rw[bs,bs]
  rw[bu _ _ _ _ a,bu _ _ _ _ a];exact h
theorem vJ{r:fb}(e:cg)(h:r.same a s):r.same (e.app a) (e.app s):=
 ⟨λi c=>yX (h.1 i c) _,λk b=>⟨yX (h.2 k b).1 _,yX (h.2 k b).2 _⟩⟩
theorem rk(w:C.Fits K){n:Nat}: ∀{z:List bV} {s:S} {e:cg} {d:List cQ} {a:List bV} {df:fb},kW C n z s=some (e,d,a,df)->bS d-> ∀c,df.same c s->c.le K (e.app c)
 | .at m::z,s,e,d,a,df,h,o,c,l=>by
  unfold kW at h;split at h
  ·exact rk w h o c l
  cases h;exact S.le.refl _ _
 | .oA is k::z,s,e,d,a,df,h,o,c,l=>by
  unfold kW at h;split at h
  ·rename_i p r A;split at h
   ·rename_i R B D F G;cases h;obtain⟨H,L⟩:=bS.app o;have q:gW C (.oA is k) c=some (some (p,r)):=(N4 (λi x=>l.1 i (lu _ x)) (l.2 k ev).1).trans A;rw[ky];exact(ui w q H).trans (rk w G L (p.app c) (vJ p ⟨λi x=>l.1 i (nH _ x),λk Q=>l.2 k (dV _ Q)⟩))
   cases h
  cases h
 | .cq k is W::z,s,e,d,a,df,h,o,c,l=>by
  unfold kW at h;split at h
  ·rename_i p r A;split at h
   ·rename_i R B D F G;cases h;obtain⟨H,L⟩:=bS.app o;have q:gW C (.cq k is W) c=some (some (p,r)):=(Nb (λi x=>l.1 i (lu _ x)) (l.2 k ev).1 λb X=>(l.2 b (dV _ (lu _ X))).1).trans A;rw[ky];exact(ui w q H).trans (rk w G L (p.app c) (vJ p ⟨λi x=>l.1 i (nH _ x),λk Q=>l.2 k (dV _ (nH _ Q))⟩))
   cases h
  cases h
 | .fS k::z,s,e,d,a,df,h,o,c,l=>by
  unfold kW at h;split at h
  ·rename_i p r A;split at h
   ·rename_i R B D F G;cases h;obtain⟨H,L⟩:=bS.app o;have q:gW C (.fS k) c=some (some (p,r)):=(Nc (l.2 k ev).1).trans A;rw[ky];exact(ui w q H).trans (rk w G L (p.app c) (vJ p ⟨l.1,λk Q=>l.2 k (dV _ Q)⟩))
   cases h
  cases h
 | [],s,e,d,a,df,h,_,c,_=>by cases h;exact S.le.refl _ _
 | .cM _ _ _::_,s,e,d,a,df,h,_,c,_| .dP _ _ _ _ _::_,s,e,d,a,df,h,_,c,_| .cN _ _ _ _::_,s,e,d,a,df,h,_,c,_| .lt _ _ _::_,s,e,d,a,df,h,_,c,_| .fj _ _ _ _::_,s,e,d,a,df,h,_,c,_| .fp _ _ _::_,s,e,d,a,df,h,_,c,_| .GG _ _ _ _::_,s,e,d,a,df,h,_,c,_| .cut _ _ _::_,s,e,d,a,df,h,_,c,_
 | .row _::_,s,e,d,a,df,h,_,c,_| .rows _::_,s,e,d,a,df,h,_,c,_| .str _::_,s,e,d,a,df,h,_,c,_| .int _::_,s,e,d,a,df,h,_,c,_| .nat _::_,s,e,d,a,df,h,_,c,_
 | .b _::_,s,e,d,a,df,h,_,c,_| .y _::_,s,e,d,a,df,h,_,c,_| .v _::_,s,e,d,a,df,h,_,c,_| .ed _ _::_,s,e,d,a,df,h,_,c,_| .grow _ _ _::_,s,e,d,a,df,h,_,c,_
 | .Bz _::_,s,e,d,a,df,h,_,c,_| .GF _ _ _::_,s,e,d,a,df,h,_,c,_| .dv _ _ _ _::_,s,e,d,a,df,h,_,c,_| .Wm _ _ _::_,s,e,d,a,df,h,_,c,_| .Wl _ _ _ _::_,s,e,d,a,df,h,_,c,_
 | .len _ _::_,s,e,d,a,df,h,_,c,_| .gT _ _ _::_,s,e,d,a,df,h,_,c,_| .vn _ _::_,s,e,d,a,df,h,_,c,_| .b2 _ _ _ _::_,s,e,d,a,df,h,_,c,_| .c6 _ _ _::_,s,e,d,a,df,h,_,c,_| .ec _ _ _ _::_,s,e,d,a,df,h,_,c,_=>by cases h;exact S.le.refl _ _
theorem f'.pre{ops:Array Oper}{b c:S}(i:s.le K b)(h:f' K ops o b c):f' K ops o s c:=by
 intro k a w next Q l m
 obtain⟨d,e⟩:=i k a w l;exact h d a w next Q e m
def r5(C:db)(a:Array Oper):List Oper->List bV->S->Option (List (cg×fb)×List cQ)
 | [],d,_=>match d with
  | []=>some ([],[])
  |_=>none
 |o::l,d,s=>match kW C (l.length+1) d s with
  |none=>none
  |some (c,h,b,df)=>match oq C a o b (c.app s) with
   |none=>none
   |some (e,m,i)=>match r5 C a l i (e.app (c.app s)) with
    |none=>none
    |some (n,k)=>some ((c.cat e,⟨df.dX++(uQ a o b (c.app s)).dX,df.lb++(uQ a o b (c.app s)).lb⟩)::n,h++(m++k))
def u':List (cg×fb)->cg
 | []=> .nil
 |(e,_)::a=>e.cat (u' a)
theorem zi(p:C.Fits K){b:Array Oper}{Q:S->Prop}: ∀{l:List Oper} {q:List bV} {s:S} {c:List (cg×fb)} {d:List cQ},r5 C b l q s=some (c,d)->bS d->Q ((u' c).app s)->rr K b l c s Q
 | [],q,s,c,d,h,_,m=>by
  simp only[r5] at h;split at h
  ·cases h;exact m
  cases h
 |o::l,q,s,c,d,h,r,m=>by
  simp only[r5] at h;split at h
  ·cases h
  rename_i n B v df D;split at h
  ·cases h
  rename_i e F G H;split at h
  ·cases h
  rename_i L R W;cases h;obtain⟨X,w⟩:=bS.app r;obtain⟨w,f⟩:=bS.app w;simp only[u',ky] at m;refine⟨λA a=>?_,by rw[ky];exact zi p W f m⟩;rw[ky];refine f'.pre (rk p D X A ⟨λi x=>a.1 i (lu _ x),λk y=>a.2 k (lu _ y)⟩) ?_;have z:(uQ b o v (n.app s)).same (n.app A) (n.app s):=vJ n ⟨λi x=>a.1 i (nH _ x),λk y=>a.2 k (nH _ y)⟩;exact FL p ((PW z).trans H) w
def ja(C:db)(l:List Oper)(e:List bV)(s:S):Option (cg×List cQ):=
 match mu C l.length e s with
 |none=>none
 |some (c,a,b)=>match r5 C l.toArray l b (c.app s) with
  |none=>none
  |some (d,h)=>match j4 l.toArray l.length 0 d&&o1 0 l with
   |true=>some (c.cat (u' d),a++h)
   |false=>none
theorem Fs{c:Code}{s2:S}(h:b5 K c s λe i=>match e with| .normal=>i.le K s2|_=>False)(m:Q .normal s2):b5 K c s Q:=by
 intro n a w o p v;refine h n a w o p ?_;intro e i b k l q r;cases e with
 |normal=>obtain⟨d,x⟩:=q b k l r;exact v _ _ d k l m x
 |exit=>exact q.elim
 |goto=>exact q.elim
 |ret=>exact q.elim
 |panic=>exact q.elim
 |outgrown=>exact q.elim
theorem rd{l:List Oper}(o:C.Fits K)(v:K.P.follows .mixedOrders=true)(q:List bV)(d:List Nat)(b:List (Nat×V))(c:List (Nat×Option E))(k:List (Nat×Bool)){p:Prop}(m:p)
  (h:j7 (ja C l q s) p4 (p6 s d b c)=j7 (ja C l q s) p5 (p7 p b c k)) (w:Q .normal (s.cl d b c k)):b5 K (.region i l.toArray true) s Q:=by
 obtain⟨e,L,a,x,r⟩:=Gl (K:=K) m h;unfold ja at a;split at a
 ·cases a
 rename_i R y z A;split at a
 ·cases a
 rename_i B D F;split at a
 ·rename_i n;cases a;simp only[Bool.and_eq_true] at n;obtain⟨G,H⟩:=bS.app x;refine qy (nb o A G) (Fs (s2:=s.cl d b c k) (El B v n.1 n.2 (zi o F H ?_)) w);rw[ky] at r;exact r
 cases a
def lC:List (Nat×E)->List (Nat×Option E)
 | []=>[]
 |(k,e)::l=>(k,some e)::lC l
def ml:List Nat->List (Nat×Bool)
 | []=>[]
 |k::l=>(k,true)::ml l
def bx(a:List (Nat×V))(b:List (Nat×E))(c:List Nat):S:={t:=cK m5 a,H:=cK j0 (lC b),u:=cK e5 (ml c)}
def va(u:Nat->Bool):List (Nat×V)->Bool
 | []=>true
 |(_,v)::l=>v.ok u&&va u l
def u7(u:Nat->Bool):List (Nat×E)->Bool
 | []=>true
 |(k,e)::l=>u k&&(e.ok u&&u7 u l)
def u3(u:Nat->Bool):List Nat->Bool
 | []=>true
 |k::l=>u k&&u3 u l
theorem EG{u:Nat->Bool}: ∀{l:List (Nat×V)},va u l=true-> ∀i v,(i,v)∈l->v.ok u=true
 |(a,b)::l,h,i,v,hm=>by
  simp only[va,Bool.and_eq_true] at h;rcases dy.1 hm with hm|hm
  ·cases hm;exact h.1
  exact EG h.2 i v hm
theorem Fm{u:Nat->Bool}: ∀{l:List (Nat×E)},u7 u l=true-> ∀k e,(k,some e)∈lC l->u k=true/\e.ok u=true
 |(a,b)::l,h,i,v,hm=>by
  simp only[u7,Bool.and_eq_true] at h;simp only[lC] at hm;rcases dy.1 hm with hm|hm
  ·cases hm;exact⟨h.1,h.2.1⟩
  exact Fm h.2.2 i v hm
theorem EF{u:Nat->Bool}: ∀{l:List Nat},u3 u l=true-> ∀k b,(k,b)∈ml l->u k=true
 |jW::l,h,k,b,hm=>by
  simp only[u3,Bool.and_eq_true] at h;simp only[ml] at hm;rcases dy.1 hm with hm|hm
  ·cases hm;exact h.1
  exact EF h.2 k b hm
def u6(d:Nat)(s:S)(b:List (Nat×V))(c:List (Nat×E))(a:List Nat):List V×List (Option E)×Bool:=
 (pI s b,pV s (lC c),va (cK e5 (ml a)) b&&(u7 (cK e5 (ml a)) c&&(u3 s.u a&&jV d (cK e5 (ml a)))))
theorem HG{a:List (Nat×V)}{b:List (Nat×E)}(h:u6 K.cB s a b r=(iw a,iw (lC b),true)):s.le K (bx a b r):=by
 simp only[u6,Prod.mk.injEq,Bool.and_eq_true] at h;obtain⟨l,m,n,o,p,q⟩:=h;refine QV (s':=bx a b r) ?_ ?_ ?_ q
 ·intro i;show cK m5 a i= .cr\/(cV _ (cK m5 a i)/\(cK m5 a i).ok _=true)
  rcases jI a m5 i with ⟨ay,a2⟩|⟨v,ay,a2⟩
  ·exact .inl a2
  rw[a2];exact .inr ⟨yA l i v ay,EG n i v ay⟩
 ·intro k e c;have c:cK j0 (lC b) k=some e:=c;rcases jI (lC b) j0 k with ⟨ay,a2⟩|⟨v,ay,a2⟩
  ·rw[a2] at c;cases c
  rw[a2] at c;subst c;obtain⟨w,x⟩:=Fm o k e ay;exact⟨yP m k e ay,w,x⟩
 intro k d;have d:cK e5 (ml r) k=true:=d;rcases jI (ml r) e5 k with ⟨ay,a2⟩|⟨v,ay,a2⟩
 ·rw[a2] at d;cases d
 exact EF p k v ay
theorem Qy{ι:Type}{x y:Code}(I:ι->S)(p:ι->Prop)(a:b5 K x s (mE (λb=> ∃i,p i/\b.le K (I i)) Q))(c: ∀i,p i->b5 K y (I i) Q):b5 K (.seq x y) s Q:=by
 refine ub (tt a λe k q=>?_);cases e with
 |normal=>obtain⟨i,d,h⟩:=q;exact qy h (c i d)
 |exit=>exact q
 |goto=>exact q
 |ret=>exact q
 |panic=>exact q
 |outgrown=>exact q
theorem Tm{r:V}(h:iU r v=r):cV v r:=h▸y3 r v
def pv(s:S):List E->Nat->List (Option E)
 | [],_=>[]
 |e::l,k=>u9 (some e) (s.H k)::pv s l (k+1)
def ri:List E->List (Option E)
 | []=>[]
 |e::l=>some e::ri l
def pO(u:Nat->Bool):List E->Bool
 | []=>true
 |e::l=>e.ok u&&pO u l
theorem DR{s:S}: ∀{l:List E} {k:Nat},pv s l k=ri l-> ∀i e,l[i]? =some e-> ∃a,s.H (k+i)=some a/\hB a e
 |a::l,k,h,0,e,b=>by
  simp only[pv,ri,List.cons.injEq] at h;simp at b;subst b;exact ER h.1
 |a::l,k,h,i+1,e,b=>by
  simp only[pv,ri,List.cons.injEq] at h
  have:=DR h.2 i e (by simpa using b)
  rwa [show k+1+i=k+(i+1) by omega] at this
theorem Ee{u:Nat->Bool}: ∀{l:List E},pO u l=true-> ∀(i:Nat) e,l[i]? =some e->e.ok u=true
 |b::l,h,0,e,a=>by simp only[pO,Bool.and_eq_true] at h;simp at a;subst a;exact h.1
 |b::l,h,i+1,e,a=>by simp only[pO,Bool.and_eq_true] at h;exact Ee h.2 i e (by simpa using a)
end
end
def a8{k R:Type}(a:(k->Option R)->k->Option R):Nat->k->Option R
 |0,_=>none
 |m+1,x=>a (a8 a m) x
def aW{k R:Type}(j:k->Option R)(t:(k->Option R)->Option R):Option R:=t j
variable {k R γ:Type}{a r l:List k}{o A B:Option R}{f:FuncId}{c:Code}{b:ResultVar}{s:S}{Q:Exit->S->Prop}{x y ph:k}{d:Func}{i:Int}{p:Prop}{W:Map}{w:World}{v:V}{u z:Value}{args:List V}
theorem od{a:k->Option R}{t:(k->Option R)->Option R}{r:R}(h:aW a t=some r): ∃j,j=a/\t j=some r:=⟨a,rfl,h⟩
theorem cT{o:Option k}{f:k->Option R}{r:R}(h:o.bind f=some r): ∃x,o=some x/\f x=some r:=by
 cases o with
 |none=>cases h
 |some x=>exact⟨x,rfl,h⟩
theorem p1{c:Bool}{r:R}(a:c=true)(h:(bif c then A else B)=some r):A=some r:=by subst a;exact h
theorem p0{c:Bool}{r:R}(a:c=false)(h:(bif c then A else B)=some r):B=some r:=by subst a;exact h
theorem an{a b:R}(h:some a=some b):a=b:=Option.some.inj h
section
variable {K:Ctx}{C:db}
theorem zh{a:(k->Option R)->k->Option R}{n:Nat}{b:k}{r:R}(h:a8 a n b=some r)(I:k->γ->S)(o:γ)(w:s.le K (I b o))
  (i: ∀(d:k->Option R) (x:k) (g:γ),a d x=some r->b5 K c (I x g) (uZ (λp=> ∃y l,d y=some r/\p.le K (I y l)) Q)):b5 K (.loop c) s Q:=by
 refine Oe (ι:=(Nat×k)×γ) (λy=>I y.1.2 y.2) (λy=>a8 a y.1.1 y.1.2=some r) (λy=>y.1.1) ((n,b),o) h w ?_;rintro⟨⟨m,x⟩,g⟩ v;cases m with
 |zero=>cases v
 |succ m=>
  refine tt (i (a8 a m) x g v) λe p q=>?_;cases e with
  |normal=>obtain⟨y,l,z,A⟩:=q;exact⟨((m,y),l),z,lx m,A⟩
  |exit=>exact q
  |goto=>exact q
  |ret=>exact q
  |panic=>exact q
  |outgrown=>exact q
theorem nr{j:k->Option R}{r:R}{x y:Code}(I:k->γ->S)
  (a:b5 K x s (mE (λc=> ∃z g,j z=some r/\c.le K (I z g)) Q)) (b: ∀z g,j z=some r->b5 K y (I z g) Q):b5 K (.seq x y) s Q:=
 Qy (ι:=k×γ) (λi=>I i.1 i.2) (λi=>j i.1=some r) (tt a (λe h q=>by
  cases e with
  |normal=>obtain⟨z,g,a,b⟩:=q;exact⟨(z,g),a,b⟩
  |exit=>exact q
  |goto=>exact q
  |ret=>exact q
  |panic=>exact q
  |outgrown=>exact q)) λi d=>b i.1 i.2 d
theorem SK{P:Program}{G:ee}{a:List (Nat×bO)}(c:di P a)(b:Nat)(w:World)(X:Nat->Prop):db.Fits ⟨P,G,a,b,0,ez⟩ (Ctx.pure P G w X b):=⟨c,rfl,rfl,rfl,rfl,rfl⟩
theorem SJ{P:Program}{G:ee}{a:List (Nat×bO)}(e:di P a)(c d:Nat)(w:World)(X:Nat->Prop)(b:Map):db.Fits ⟨P,G,a,c,d,b⟩ (Ctx.ec P G w X d b c):=⟨e,rfl,rfl,rfl,rfl,rfl⟩
theorem EE{P:Program}(a:P.funcs[f]? =some d)(b:(d.name== "runtime.NumGoroutine")=false)(e:d.body=some c):hL P f:=⟨d,a,b,by rw[e];rfl⟩
variable {P:Program}{G:ee}{bQ:List (Nat×bO)}
end
abbrev U:Int->List T:=hQ
abbrev aL{k:Type}(r:k->List T)(l:List k):List T:=[T.aa (l.map r)]
abbrev az{k:Type}(r:k->List T)(l:List k):V:= .t (.aa (l.map r))
abbrev aX{k:Type}(e g a:Nat)(r:k->List T)(l:List k):E:= .arr e g a (l.map r)
abbrev ms{R:Type}(k g a:Nat)(r:R->List T)(l:List R):V:= .aM k g a 0 (l.map r).length
theorem Gr(r:k->List T)(l:List k):(l.map r).length=l.length:=dI ..
theorem il(k:Nat){r:R->List T}(h: ∀x,(r x).length=k)(l:List R):Rows k (l.map r):=Rows.map l h
theorem bW(f:k->List T)(h:aD l i=some x):(l.map f)[0+i.toNat]? =some (f x):=by rw[dm,dU,(ll h).2];rfl
theorem f5(f:k->List T)(h:aD l i=some x):0<=i/\i<((l.map f).length:Int):=by
 obtain⟨a,b⟩:=ll h
 grind
theorem Gt(f:k->List T)(h:aD l i=some x)(e:(a.map f).length=(l.map f).length):0<=i/\i<((a.map f).length:Int):=by rw[e];exact f5 f h
theorem str(f:k->List T)(h:cR l i x=some r):r.map f=(l.map f).set (0+i.toNat) (f x):=by obtain⟨_,_,rfl⟩:=oW h;rw[dm,List.map_set]
theorem dZ(f:k->List T){y:List T}(h:aD l i=some x)(e:f x=y):(l.map f)[0+i.toNat]? =some y:=e▸bW f h
theorem dH{q:Prop}(h:p)(k:q):p/\q:=⟨h,k⟩
def Bz(b:Int):Option Unit:=if b=0 then none else some ()
theorem fh(f:k->R){y:R}(h:aD l i=some x)(e:f x=y):aD (l.map f) i=some y:=e▸FO f h
theorem O4{a:Int}(f:k->R)(h:sub l a (l.length:Int)=some r):sub (l.map f) a ((l.map f).length:Int)=some (r.map f):=by rw[dI];exact y1 f h
def eY(C:db)(a:List bV)(s:S):Option (cg×List cQ):=match mu C 0 a s with
 |some (e,b,[])=>some (e,b)
 |_=>none
theorem V0{K:Ctx}{C:db}(l:C.Fits K)(d:List bV)(i:List Nat)(b:List (Nat×V))(c:List (Nat×Option E))(k:List (Nat×Bool))
  (h:j7 (eY C d s) p4 (p6 s i b c)=j7 (eY C d s) p5 (p7 True b c k)):s.le K (s.cl i b c k):=by
 obtain⟨e,p,a,m,n⟩:=Gl (K:=K) trivial h;unfold eY at a;split at a
 ·rename_i o;cases a;exact(nb l o m).trans n
 cases a
def gD(b:List (Nat×bO))(s:S):List ResultVar->Option (List V)
 | []=>some []
 | .tmp t::c=>match gD b s c with
  |some d=>some (s.t t::d)
  |none=>none
 | .cell a t::c=>match pA b s.H t (s.t a) [],gD b s c with
  |some (v,[],[]),some d=>some (v::d)
  |_,_=>none
def lD:List V->V
 | [v]=>v
 |vs=> .bI vs
def iO(b:Array Value)(r:ResultVar):Sem Value:=match r with
 | .tmp t=>pure (b.getD t undef)
 | .cell a t=>do loadVar t (<-asAddr (b.getD a undef))
theorem wE(c:Func)(a:Array Value):Go.results c a=(do let b<-c.results.mapM (iO a);pure (if h:b.size=1 then b[0] else .tuple b)):=rfl
theorem Rw{P:Program}{c:List (Nat×bO)}(r:di P c){K:Ctx}{a:Act}(m:Rel K W s a w){x:Nat}{t:TypeId}(h:pA c s.H t (s.t x) []=some (v,[],[])):
  ∃u,(iO a.tmps (.cell x t)).run P w= .ok u w/\aQ W w (own K W s.H) v u:=by
 have y:=DI (d:=none) (ty:=0) (pos:= "") (af:= #[]) (g:=none) (x:= .tmp x) r h trivial
 obtain⟨u,i,z⟩:=y W w (own K W s.H) a.eval (λid e A=>(m.heap id e A).2) ⟨m.ct x,trivial⟩;refine⟨u,?_,z⟩;have bG:=m.ct x;have n: ∃l,a.tmps.getD x undef= .pointer (some l):=by
  generalize a.tmps.getD x undef=q at bG;unfold pA at h;split at h
  ·cases h
  split at h
  ·rename_i o;rw[o] at bG;cases bG with|ref _ _ b _=>exact⟨_,rfl⟩
  ·rename_i o;rw[o] at bG;cases bG with|aT _ b B f _ _ _ _=>exact⟨_,rfl⟩
  ·split at h
   ·split at h<;>cases h
   ·split at h<;>cases h
   cases h
  cases h
 obtain⟨l,k⟩:=n;have D:a.eval (.tmp x)= .pointer (some l):=k;simp only[execOp,Instr.loadAt,D,Instr.sureAddr,Sem.run_bind,Sem.run_pure,Result.andThen_ok] at i;simp only[iO,k,asAddr,Sem.run_bind,Sem.run_pure,Result.andThen_ok];cases p:(loadVar t l).run P w with
 |ok F L=>rw[p] at i;simp at i;obtain⟨rfl,rfl⟩:=i;rfl
 |_=>rw[p] at i;cases i
theorem zB{P:Program}{c:List (Nat×bO)}(m:di P c){K:Ctx}{W:Map}{s:S}{a:Act}{w:World}(l:Rel K W s a w): ∀{e:List ResultVar} {k:List V},gD c s e=some k->
  k.length=e.length/\ ∀(i:Nat) r v,e[i]? =some r->k[i]? =some v-> ∃u,(iO a.tmps r).run P w= .ok u w/\aQ W w (own K W s.H) v u
 | [],_,h=>by cases h;exact⟨rfl,λi r v h=>by simp at h⟩
 | .tmp t::e,k,h=>by
  simp only[gD] at h;split at h
  ·rename_i n o;cases h;obtain⟨ay,a2⟩:=zB m l o;refine⟨by simp[ay],λi r v b d=>?_⟩;cases i with
   |zero=>simp at b d;subst b;subst d;exact⟨_,rfl,l.ct t⟩
   |succ i=>simp at b d;exact a2 i r v b d
  cases h
 | .cell x t::e,k,h=>by
  simp only[gD] at h;split at h
  ·rename_i q n p o;cases h;obtain⟨ay,a2⟩:=zB m l o;refine⟨by simp[ay],λi r v b d=>?_⟩;cases i with
   |zero=>simp at b d;subst b;subst d;exact Rw m l p
   |succ i=>simp at b d;exact a2 i r v b d
  cases h
theorem Pe{P:Program}{a:Array Value}{r:ResultVar}(h:d.results= #[r])(b:(iO a r).run P w= .ok u w):(Go.results d a).run P w= .ok u w:=by rw[wE,h];simp[b]
theorem Pd{P:Program}{a:Array Value}{r:ResultVar}{v:Value}(h:d.results= #[r,b])(c:(iO a r).run P w= .ok u w)(e:(iO a b).run P w= .ok v w):(Go.results d a).run P w= .ok (.tuple #[u,v]) w:=by rw[wE,h];simp[c,e]
theorem Pc{P:Program}{a:Array Value}{r c:ResultVar}{v:Value}(h:d.results= #[r,c,b])(e:(iO a r).run P w= .ok u w)(i:(iO a c).run P w= .ok z w)(k:(iO a b).run P w= .ok v w):
  (Go.results d a).run P w= .ok (.tuple #[u,z,v]) w:=by rw[wE,h];simp[e,i,k]
theorem Pb{P:Program}{a:Array Value}{r c e:ResultVar}{v x:Value}(h:d.results= #[r,c,b,e])(i:(iO a r).run P w= .ok u w)(k:(iO a c).run P w= .ok z w)(l:(iO a b).run P w= .ok v w)(m:(iO a e).run P w= .ok x w):
  (Go.results d a).run P w= .ok (.tuple #[u,z,v,x]) w:=by rw[wE,h];simp[i,k,l,m]
theorem CW{P:Program}{e:List (Nat×bO)}(R:di P e){K:Ctx}{a:Act}(X:Rel K W s a w){b:List ResultVar}(p:d.results.toList=b){k:List V}(h:gD e s b=some k)(f:Nat.ble b.length 4=true):
  ∃u,(Go.results d a.tmps).run P w= .ok u w/\aQ W w (own K W s.H) (lD k) u:=by
 obtain⟨g,o⟩:=zB R X h;have p:d.results=b.toArray:=by rw[<-p]
 match b,k,g,o,f with
 | [],[],_,_,_=>exact⟨_,results_none p _ _ _,.bI [] #[] rfl λi c u h _=>by simp at h⟩
 | [r],[v],_,o,_=>
  obtain⟨u,ay,a2⟩:=o 0 r v rfl rfl;exact⟨u,Pe p ay,a2⟩
 | [r,y],[v,z],_,o,_=>
  obtain⟨u,ay,a2⟩:=o 0 r v rfl rfl;obtain⟨Q,A,B⟩:=o 1 y z rfl rfl;refine⟨_,Pd p ay A,.bI _ _ rfl λi c u l m=>?_⟩
  match i with
  |0=>simp at l m;subst l;subst m;exact a2
  |1=>simp at l m;subst l;subst m;exact B
  |n+2=>simp at l
 | [r,y,q],[v,z,x],_,o,_=>
  obtain⟨u,ay,a2⟩:=o 0 r v rfl rfl;obtain⟨Q,A,B⟩:=o 1 y z rfl rfl;obtain⟨D,F,L⟩:=o 2 q x rfl rfl;refine⟨_,Pc p ay A F,.bI _ _ rfl λi c u l m=>?_⟩
  match i with
  |0=>simp at l m;subst l;subst m;exact a2
  |1=>simp at l m;subst l;subst m;exact B
  |2=>simp at l m;subst l;subst m;exact L
  |n+3=>simp at l
 | [r,y,q,j],[v,z,x,t],_,o,_=>
  obtain⟨u,ay,a2⟩:=o 0 r v rfl rfl;obtain⟨Q,A,B⟩:=o 1 y z rfl rfl;obtain⟨D,F,L⟩:=o 2 q x rfl rfl;obtain⟨M,E,I⟩:=o 3 j t rfl rfl;refine⟨_,Pb p ay A F E,.bI _ _ rfl λi c u l m=>?_⟩
  match i with
  |0=>simp at l m;subst l;subst m;exact a2
  |1=>simp at l m;subst l;subst m;exact B
  |2=>simp at l m;subst l;subst m;exact L
  |3=>simp at l m;subst l;subst m;exact I
  |n+4=>simp at l
def Gp(b:List (Nat×bO))(c:List ResultVar)(r:V):Exit->S->Prop
 | .normal,s| .ret,s=> ∃a,gD b s c=some a/\cV (lD a) r
 |_,_=>False
def Gn(c:List (Nat×bO))(d:List ResultVar)(r:V)(a:List E):Exit->S->Prop
 | .normal,s| .ret,s=> ∃b,gD c s d=some b/\cV (lD b) r/\r.ok (ef a.length)=true/\iV s.H (ef a.length) (dx a 0)
 |_,_=>False
section
variable {P:Program}{G:ee}{bQ:List (Nat×bO)}
theorem HT{r:V}{i:Nat}{a:List ResultVar}(z:di P bQ)(A:P.funcs[f]? =some d)(D:(d.name== "runtime.NumGoroutine")=false)(q:d.body=some c)(F:d.results.toList=a)(s:d.ntmps=i)
  (m:Nat.ble args.length i=true) (H:r.ok e5=true) (v:Nat.ble a.length 4=true)
  (h: ∀w X,db.Fits ⟨P,G,bQ,i,0,ez⟩ (Ctx.pure P G w X i)->b5 (Ctx.pure P G w X i) c (start args) (Gp bQ a r)):hE P G f args r:=by
 subst s;refine⟨EE A D q,?_⟩;intro w X L Q R B;have o:L.length<=d.ntmps:=by rw[B.length];exact eb m
 refine calls_of_wp A q (h w X (SK z _ w X) ez _ w _ (Rel.start Q R B o) ?_);intro e W g j w' n k;have p:(∃x,gD bQ W a=some x/\cV (lD x) r)->bodyPost P d (λe w'=> ∃u,e= .returned u/\Ext (λ_=>False) w w'/\aQ ez w' X r u) .ret j w':=by
  rintro⟨x,y,m⟩;obtain⟨u,t,bG⟩:=CW z k F y v;have bG:=m _ _ _ _ bG;refine⟨k.defers,u,t,u,rfl,?_,?_⟩
  ·exact k.ext.weaken λb _ ⟨id,h,_⟩=>by simp[Ctx.pure] at h
  exact bG.under (u:=e5) (λb q=> .inl q) (λ_ h=>by simp[e5] at h) H
 cases e with
 |normal=>exact p n
 |ret=>exact p n
 |exit id=>exact n.elim
 |goto l=>exact n.elim
 |panic c=>exact n.elim
 |outgrown=>exact n.elim
def pz(a:Map):List E->Nat->Prop
 | [],_=>True
 | .arr _ g _ _::b,k=>(∃q,a k=some (q,g))/\pz a b (k+1)
 | .aw _ _ g _ _::b,k=>(∃q,a k=some (q,g))/\pz a b (k+1)
 | .cells _::b,k=>True/\pz a b (k+1)
theorem D5{W:Map}: ∀(a:List E) (k:Nat),(∀(i:Nat) e g,a[i]? =some e->e.gen=some g-> ∃q,W (k+i)=some (q,g))->pz W a k
 | [],_,_=>trivial
 |e::a,k,h=>by
  have bH:=D5 a (k+1) (λi e g b c=>by
   have:=h (i+1) e g (by simpa using b) c
   rwa [show k+(i+1)=k+1+i by omega] at this)
  cases e with
  |cells=>exact⟨trivial,bH⟩
  |arr _ g _ _=>exact⟨h 0 _ g rfl rfl,bH⟩
  |aw _ _ g _ _=>exact⟨h 0 _ g rfl rfl,bH⟩
theorem WD{o:Func}{a out:List E}{r:V}{v x:Nat}{L:List ResultVar}(iE:di P bQ)(gd:P.funcs[f]? =some o)(cj:(o.name== "runtime.NumGoroutine")=false)(aR:o.body=some c)(bH:o.results.toList=L)(Q:o.ntmps=v)(R:a.length=x)
  (y:Nat.ble args.length v=true) (z:Nat.ble x out.length=true) (W:Nat.ble L.length 4=true)
  (h: ∀w X d,db.Fits ⟨P,G,bQ,v,x,d⟩ (Ctx.ec P G w X x d v)->pz d a 0->b5 (Ctx.ec P G w X x d v) c (kM a args) (Gn bQ L r out)):gM P G f a args r out:=by
 subst Q;subst R;refine⟨EE gd cj aR,?_⟩;intro w X d us iD e7 aG fC;have A:us.length<=o.ntmps:=by rw[fC.length];exact eb y
 refine calls_of_wp gd aR (h w X d (SJ iE _ _ w X d) (D5 a 0 (λk e g j bE=>by
  rw[dm];exact(l7 (aG.heap k _ j) bE).2)) d _ w _ (Rel.kM iD e7 aG fC A) ?_)
 intro e I B pF w' q m;have D:(∃M,gD bQ I L=some M/\cV (lD M) r/\r.ok (ef out.length)=true/\iV I.H (ef out.length) (dx out 0))->
   bodyPost P o (λe w'=> ∃u,∃i:Unit,∃β,e= .returned u/\True/\Left d β a out w w' X r u) .ret pF w':=by
  rintro⟨M,N,T,U,hH⟩;obtain⟨u,hu,bG⟩:=CW iE m bH N W;have bG:=T _ _ _ _ bG;have hm:a.length<=out.length:=eb z;let p:S:={t:=m5,H:=dx out 0,u:=ef out.length}
  have F:jV a.length p.u=true:=by
   have: ∀n,n<=a.length->jV n p.u=true:=by
    intro n;induction n with
    |zero=>intro _;rfl
    |succ n l0=>intro cj;simp[jV,l0 O,show p.u n=true from gN.2 O]
   exact this _ (cL _)
  have bj:=m.cut (s':=p) (lI.nil _ _) hH F;have dE:=B8 (K:=Ctx.ec P G w X a.length d o.ntmps) (β:=B) (s:=I) (s':=p) hH;refine⟨m.defers,u,hu,u,(),cut B p.u,rfl,trivial,?_⟩;refine⟨m.ext.weaken λb _ ⟨id,_,h⟩=>⟨id,h⟩,bj.base,bj.gF,?_,?_,bj.inj,bj.fresh,?_,bG.under dE (λ_ h=>rJ h) U⟩
  ·intro k j;apply bj.cU;cases Y:p.u k with
   |false=>rfl
   |true=>have:=gN.1 Y;omega
  ·intro k b j;apply bj.dt;cases Y:p.u k with
   |false=>rfl
   |true=>have:=gN.1 Y;omega
  intro k e he;exact(bj.heap k e (by rw[<-qB] at he;exact he)).2
 cases e with
 |normal=>exact D q
 |ret=>exact D q
 |exit id=>exact q.elim
 |goto l=>exact q.elim
 |panic c=>exact q.elim
 |outgrown=>exact q.elim
def rU(r:V):Option (List V)->Option V
 |some a=>some (iU r (lD a))
 |none=>none
theorem Gu{a:List ResultVar}{r:V}(h:rU r (gD bQ s a)=some r): ∃b,gD bQ s a=some b/\cV (lD b) r:=by
 cases c:gD bQ s a with
 |none=>rw[c] at h;cases h
 |some b=>rw[c] at h;simp only[rU,Option.some.injEq] at h;exact⟨b,rfl,Tm h⟩
theorem Tl{b:List ResultVar}{r:V}{a:List E}(h:(rU r (gD bQ s b),pv s a 0,r.ok (ef a.length)&&pO (ef a.length) a)=(some r,ri a,true)):
  ∃c,gD bQ s b=some c/\cV (lD c) r/\r.ok (ef a.length)=true/\iV s.H (ef a.length) (dx a 0):=by
 simp only[Prod.mk.injEq,Bool.and_eq_true] at h;obtain⟨i,l,m,n⟩:=h;obtain⟨c,ay,a2⟩:=Gu i;refine⟨c,ay,a2,m,λk e d=>?_⟩;rw[qB] at d
 have:=DR l k e d;rw[dm] at this;exact⟨this,gN.2 (bt.1 d).1,Ee n k e d⟩
end
theorem jH(f:k->List T)(ph:k)(h:app l [y]=some r):app (List.map f l) [f ph]=some (List.map f (l++[ph])):=by
 obtain⟨a,_⟩:=q0 h;unfold app
 grind
theorem fE(f:k->List T)(l:List k)(ph:k):(List.map f (l++[ph]))[(List.map f l).length+0]? =some (f ph):=by grind
theorem kU(f:k->List T)(l:List k){r:List T}(e:r=f y):(List.map f (l++[ph])).set ((List.map f l).length+0) r=List.map f (l++[y]):=by grind
theorem j6(f:k->List T){x:List k}{r:List T}(h:app l [y]=some x)(e:r=f y):(List.map f (l++[ph])).set ((List.map f l).length+0) r=List.map f x:=by
 obtain⟨_,rfl⟩:=q0 h
 grind
theorem jF(f:k->List T){x:List k}(a:k)(h:app l [y]=some x):(List.map f (l++[a])).length=(List.map f x).length:=by obtain⟨_,rfl⟩:=q0 h;simp
theorem kn(f:k->List T){q:List T}(h:cR l i y=some r)(e:q=f y):(List.map f l).set (0+i.toNat) q=List.map f r:=by subst e;exact(str f h).symm
theorem dS(f:k->List T)(h:cR l i x=some r):(l.map f).length=(r.map f).length:=by obtain⟨_,_,rfl⟩:=oW h;simp
theorem HJ{r:R}(h:(none:Option R)=some r):p:=by cases h
def eo{k:Type}(a b:List k):Option Unit:=if b.length=a.length then some () else none
theorem kJ{b:List k}{u:Unit}(f:k->List T)(h:eo a b=some u):(a.map f).length=(b.map f).length:=by
 unfold eo at h
 grind
def xa{k:Type}(f:k->List T):Option k->V
 |none=> .t .gU
 |some x=> .aT (f x)
theorem Tb(f:k->List T)(o:Option k)(b:Bool):(V.bI [xa f o,a7 b]).ok e5=true:=by cases o<;>rfl
theorem WC{P:Program}{G:ee}[Inhabited R]{r:R->List T}(h:o.isSome=true)(k:hE P G f args (V.bI [xa r o,v])):hE P G f args (V.bI [V.aT (r (o.getD default)),v]):=by
 cases o with
 |none=>cases h
 |some x=>exact k
theorem WB{P:Program}{G:ee}{r:R->List T}(h:o.isSome=false)(k:hE P G f args (V.bI [xa r o,v])):hE P G f args (V.bI [V.t .gU,v]):=by
 cases o with
 |none=>exact k
 |some x=>cases h
section
set_option linter.unusedVariables false
end
theorem xC(h:cR l i x=some r)(y:k):cR l i y=some (l.set i.toNat y):=by
 obtain⟨a,b,_⟩:=oW h;unfold cR
 grind
theorem uR(h:cR l i x=some r)(y:k):aD (l.set i.toNat y) i=some y:=by
 obtain⟨a,b,_⟩:=oW h;unfold aD
 grind
theorem xB(h:cR l i x=some r)(y:k):cR (l.set i.toNat y) i x=some r:=by obtain⟨a,b,rfl⟩:=oW h;unfold cR;rw[bh ⟨a,by rw[ke];exact b⟩,List.set_set]
theorem Gs{u:Unit}(f:k->List T)(b:eo a l=some u)(h:aD l i=some x):0<=i/\i<((a.map f).length:Int):=by have:=f5 f h;rw[kJ f b];exact this
theorem Te{u:Unit}(f:k->List T)(b:eo a l=some u):(a.map f).length=l.length:=(kJ f b).trans (Gr f l)
theorem Ss(h:cR l i x=some r):aD r i=some x:=by
 obtain⟨a,b,rfl⟩:=oW h;unfold aD
 grind
end Go.Lift
