/- Tools. -/
import Derived.Test.YtlbojjldejlgaabGreatELiftV
namespace Go.Lift
open Go
section
def cM.cat(a b:cM):cM:=⟨a.e7++b.e7,a.hs++b.hs,a.us++b.us⟩
def cM.nil:cM:=⟨[],[],[]⟩
theorem M3{R:Type}: ∀(a b:List (Nat×R)) (f:Nat->R),d4 f (a++b)=d4 (d4 f a) b
 | [],_,_=>rfl
 |(d,v)::a,b,f=>by simp only[List.cons_append,d4];exact M3 a b _
theorem mM(a b:cM)(s:S):(a.cat b).app s=b.app (a.app s):=by unfold cM.app cM.cat;simp only[M3]
theorem f7{a:Type}: ∀(l:List (Nat×a)) (f:Nat->a) (r:Nat),((∀v,(r,v)∉l)/\d4 f l r=f r)\/ ∃v,(r,v)∈l/\d4 f l r=v
 | [],_,_=> .inl ⟨λ_ h=>(List.not_mem_nil h).elim,rfl⟩
 |(d,v)::l,f,r=>by
  rcases f7 l (aQ f d v) r with ⟨c,b⟩|⟨e,c,b⟩
  ·by_cases i:r=d
   ·subst i;exact .inr ⟨v,eH,by rw[d4,b,bQ]⟩
   refine .inl ⟨λe h=>?_,by rw[d4,b,bR _ _ _ _ i]⟩;rcases dI.1 h with h|h
   ·cases h;exact i rfl
   exact c e h
  exact .inr ⟨e,eu _ c,by rw[d4,b]⟩
mutual
def k4:V->V->V
 | .t (.ay _),v=>mY v
 | .agg cs,.agg a=> .agg (pU cs a)
 | .bJ cs,.bJ a=> .bJ (pU cs a)
 | .cX,_=> .cX
 |_,v=>v
def pU:List V->List V->List V
 |c::cs,v::a=>k4 c v::pU cs a
 |_,a=>a
end
mutual
theorem Gp: ∀c v:V,dq v (k4 c v)
 | .t (.ay _),v=>by simp only[k4];exact tm v
 | .agg cs,.agg a=>by simp only[k4];exact dq.agg (AF cs a)
 | .bJ cs,.bJ a=>by simp only[k4];exact dq.bJ (AF cs a)
 | .cX,v=>by simp only[k4];exact dq.cX v
 | .t (.bool _),v| .t (.int _ _),v| .t (.str _),v| .t .e5,v| .t .gF,v| .t .gh,v| .t .mX,v| .t .err,v=>by simp only[k4];exact dq.refl v
 | .ref _ _,v| .aK _,v| .a7 _ _ _ _ _,v| .ct _ _ _ _ _,v| .fn _ _,v=>by simp only[k4];exact dq.refl v
 | .agg _,.t _| .agg _,.bJ _| .agg _,.ref _ _| .agg _,.aK _| .agg _,.a7 _ _ _ _ _| .agg _,.ct _ _ _ _ _| .agg _,.fn _ _| .agg _,.cX=>by simp only[k4];exact dq.refl _
 | .bJ _,.t _| .bJ _,.agg _| .bJ _,.ref _ _| .bJ _,.aK _| .bJ _,.a7 _ _ _ _ _| .bJ _,.ct _ _ _ _ _| .bJ _,.fn _ _| .bJ _,.cX=>by simp only[k4];exact dq.refl _
theorem AF: ∀cs a:List V,e8 a (pU cs a)
 |c::cs,v::a=>by simp only[pU];exact⟨Gp c v,AF cs a⟩
 | [],a=>by simp only[pU];exact e8.refl a
 |_::_,[]=>by simp only[pU];exact trivial
end
def Bn:Option E->Option E->Option E
 |some (.cells cs),some (.cells a)=>some (.cells (pU cs a))
 |some _,e=>e
 |none,_=>none
variable {e:TypeId}{x:E}{β G:Map}{s a:S}{w:World}{r l:List Nat}{b:List (Nat×Option E)}{d:List (Nat×Bool)}{i k gen n L m g:Nat}{q:Option Nat}{p:V->V->Prop}{X W:Nat->Prop}{Q:Exit->S->Prop}{u:Value}{v:V}{o:Oper}
theorem NS{c e:Option E}(h:Bn c e=some x): ∃a,e=some a/\iU a x:=by
 unfold Bn at h;split at h
 ·cases h;exact⟨_,rfl,AF _ _⟩
 ·exact⟨x,h,iU.refl x⟩
 cases h
def tH(s:S):List (Nat×V)->List V
 | []=>[]
 |(i,v)::l=>k4 v (s.t i)::tH s l
def tK(s:S):List (Nat×Option E)->List (Option E)
 | []=>[]
 |(k,e)::l=>Bn e (s.H k)::tK s l
def jY{a:Type}:List (Nat×a)->List a
 | []=>[]
 |(_,v)::l=>v::jY l
theorem FH{s:S}: ∀{l:List (Nat×V)},tH s l=jY l-> ∀i v,(i,v)∈l->dq (s.t i) v
 |(a,b)::l,h,i,v,hm=>by
  simp only[tH,jY,List.cons.injEq] at h;rcases dI.1 hm with hm|hm
  ·cases hm;exact h.1▸Gp _ _
  exact FH h.2 i v hm
theorem FY{s:S}: ∀{l:List (Nat×Option E)},tK s l=jY l-> ∀k e,(k,some e)∈l-> ∃a,s.H k=some a/\iU a e
 |(jJ,a)::l,h,k,e,hm=>by
  simp only[tK,jY,List.cons.injEq] at h;rcases dI.1 hm with hm|hm
  ·cases hm;exact NS h.1
  exact FY h.2 k e hm
def sW{a:Type}(b:List Nat):List (Nat×a)->Bool
 | []=>true
 |(i,_)::l=>hY i b&&sW b l
theorem Fg{a:Type}{r:List Nat}: ∀{l:List (Nat×a)},sW r l=true-> ∀i v,(i,v)∈l->i∈r
 |(b,c)::l,h,i,v,hm=>by
  simp only[sW,Bool.and_eq_true] at h;rcases dI.1 hm with hm|hm
  ·cases hm;exact zT h.1
  exact Fg h.2 i v hm
def w9{a:Type}:List (Nat×a)->List Nat
 | []=>[]
 |(i,_)::l=>i::w9 l
theorem Nh{a:Type}{i:Nat}: ∀{l:List (Nat×a)},i∈w9 l-> ∃v,(i,v)∈l
 |(d,b)::l,h=>by
  simp only[w9,List.mem_cons] at h;rcases h with rfl|h
  ·exact⟨b,eH⟩
  obtain⟨v,c⟩:=Nh h;exact⟨v,eu _ c⟩
def Bd(a:List Nat)(t:Nat->V):Nat->V:=λi=>bif hY i a then .cX else t i
def S.cl(s:S)(a:List Nat)(b:List (Nat×V))(c:List (Nat×Option E))(d:List (Nat×Bool)):S:={t:=d4 (Bd a s.t) b,H:=d4 s.H c,u:=d4 s.u d}
theorem Rel.JL{K:Ctx}{c:S}{a:Act}(l:Rel K β s a w)(n:c.u=s.u)(x: ∀k e,c.H k=some e-> ∃m,s.H k=some m/\iU m e)(y: ∀i,dq (s.t i) (c.t i)):Rel K β c a w:=by
 have d: ∀b,own K β c.H b->own K β s.H b:=by
  rintro b (h|⟨id,p,q⟩)
  ·exact .inl h
  cases o:c.H id with
  |none=>exact bt o p
  |some e=>
   obtain⟨m,r,_⟩:=x id e o;exact .inr ⟨id,by rw[r];simp,q⟩
 refine {l with low:= ?_,dB:= ?_,dX:= ?_,heap:= ?_,cU:= ?_}
 ·intro id h;rw[n];exact l.low id h
 ·intro id h;rw[n] at h;exact l.dB id h
 ·intro id b h;rw[n] at h;exact l.dX id b h
 ·intro id e o;obtain⟨m,p,q⟩:=x id e o;obtain⟨r,z⟩:=l.heap id m p;refine⟨by rw[n];exact r,?_⟩;exact(q.va z).mono (Ext.refl _ _) (λb _=>d b) (de.refl _) (λ_ h=>h) (Shaped.refl _ _) λ_ _=>rfl
 intro i;exact(y i _ _ _ _ (l.cU i)).mono (Ext.refl _ _) (λb _=>d b) (de.refl _) (Shaped.refl _ _)
theorem aei{K:Ctx}{e:cM}{c:List (Nat×V)}(y:e.us=d)(z:sW r e.e7=true)(A:sW (w9 b) e.hs=true)
  (B:tH (e.app s) c=jY c) (D:tK (e.app s) b=jY b):(e.app s).le K (s.cl r c b d):=by
 intro F a w G;refine⟨F,G.JL ?_ ?_ ?_⟩
 ·show d4 s.u d=d4 s.u e.us;rw[y]
 ·intro k x n;have n:d4 s.H b k=some x:=n;rcases f7 b s.H k with ⟨o,m⟩|⟨v,o,m⟩
  ·rw[m] at n;refine⟨x,?_,iU.refl x⟩;show d4 s.H e.hs k=some x;rw[l3 _ _ _ λv p=>?_]
   ·exact n
   obtain⟨R,L⟩:=Nh (Fg A k v p)
   grind
  rw[m] at n;subst n;exact FY D k x o
 intro i;show dq _ (d4 (Bd r s.t) c i);rcases f7 c (Bd r s.t) i with ⟨o,m⟩|⟨v,o,m⟩
 ·rw[m];unfold Bd;cases q:hY i r with
  |true=>exact dq.cX _
  |false=>
   show dq (d4 s.t e.e7 i) (s.t i);rw[l3 _ _ _ (λv p=>by
    have hm:=Fg z i v p
    have: ∀{l:List Nat},i∈l->hY i l=true:=by
     intro l;induction l with
     |nil=>intro h;cases h
     |cons x l Q=>
      intro h;simp only[hY];rcases dI.1 h with rfl|h
      ·simp
      cases Nat.beq x i with
      |true=>rfl
      |false=>exact Q h
    rw[this hm] at q;cases q)]
   exact dq.refl _
 rw[m];exact FH B i v o
theorem M2{a:Type}(f:Nat->a)(i:Nat):aQ f i (f i)=f:=by
 funext j;by_cases b:j=i
 ·subst b;rw[bQ]
 rw[bR _ _ _ _ b]
def Map.move(a:Map)(k c gen:Nat)(q:Option Nat):Map:=
 ⟨λi=>bif Nat.beq i c then some (q,1) else bif Nat.beq i k then some (none,gen+1) else a i,λi b=>(i=c/\a.n k b)\/(i≠c/\i≠k/\a.n i b)⟩
theorem G1(h:i≠k):Nat.beq i k=false:=by
 cases a:Nat.beq i k with
 |false=>rfl
 |true=>exact bt (cH a) h
theorem FA(b:Map)(k a gen:Nat)(q:Option Nat):b.move k a gen q a=some (q,1):=by simp[Map.move]
theorem Fz(b:Map)(k a gen:Nat)(q:Option Nat)(h:k≠a):b.move k a gen q k=some (none,gen+1):=by simp[Map.move,G1 h]
theorem Ey(a:Map)(k b gen:Nat)(q:Option Nat)(id:Nat)(h:id≠k)(c:id≠b):a.move k b gen q id=a id:=by simp[Map.move,G1 h,G1 c]
theorem OJ(c:Map)(k d gen:Nat)(q:Option Nat)(a b:Nat)(h:a≠k)(e:a≠d):(c.move k d gen q).n a b↔c.n a b:=by simp[Map.move,h,e]
theorem Oj(d:k≠i)(e:G k=some (q,gen)){b:Nat}(h:At (G.move k i gen q) n b):(n=i/\At G k b)\/(n≠k/\n≠i/\At G n b):=by
 rcases h with ⟨g,h⟩|⟨rfl,h⟩|⟨a,c,h⟩
 ·by_cases a:n=i
  ·subst a;rw[FA] at h;cases h;exact .inl ⟨rfl,.inl ⟨gen,e⟩⟩
  by_cases c:n=k
  ·subst c;rw[Fz _ _ _ _ _ d] at h;cases h
  rw[Ey _ _ _ _ _ _ c a] at h;exact .inr ⟨c,a,.inl ⟨g,h⟩⟩
 ·exact .inl ⟨rfl,.inr h⟩
 exact .inr ⟨c,a,.inr h⟩
theorem XG{K:Ctx}(i k b0 gen d B D:Nat){p:List (List T)}(N:Nat.ble K.c6 k=true)(R:k≠b0)(aD:s.t i= .a7 k gen d B D)(W:s.H k=some (.arr e gen d p))(P:s.u b0=false):
  s.le K {t:=aQ s.t i (.a7 b0 1 d B D),H:=aQ (aQ s.H k none) b0 (some (.arr e 1 d p)),u:=aQ s.u b0 true}:=by
 intro L a w h;have l0:=eB N;obtain⟨q,E⟩:=iK (h.heap k _ W).2;have ig:=(h.heap k _ W).2.1;have U:=(h.heap k _ W).1;have cn:=h.dB b0 P;have afB:K.c6<=b0:=by
  apply Nat.le_of_not_lt;intro V;rw[h.low b0 V] at P;cases P
 let m:=L.move k b0 gen q;have I:m b0=some (q,1):=FA _ _ _ _ _;have cd:m k=some (none,gen+1):=Fz _ _ _ _ _ R;have Y: ∀id,id≠k->id≠b0->m id=L id:=λid l A=>Ey _ _ _ _ _ _ l A;have r: ∀id b,At m id b->(id=b0/\At L k b)\/(id≠k/\id≠b0/\At L id b):=by
  intro id b F;exact Oj R E F
 have X:de L m:=by
  intro id q2 g M
  grind
 have z: ∀b,own K m (aQ (aQ s.H k none) b0 (some (.arr e 1 d p))) b->own K L s.H b:=by
  rintro b (M|⟨id,l,A⟩)
  ·exact .inl M
  rcases r id b A with ⟨rfl,y⟩|⟨y,f,Q⟩
  ·exact .inr ⟨k,by rw[W];simp,y⟩
  rw[bR _ _ _ _ f,bR _ _ _ _ y] at l;exact .inr ⟨id,l,Q⟩
 refine⟨m,{h with base:= ?_,low:= ?_,dB:= ?_,dX:= ?_,inj:= ?_,fresh:= ?_,heap:= ?_,cU:= ?_}⟩
 ·exact h.base.keep λid hid=>Y id O O
 ·intro id hid;show aQ s.u b0 true id=true;rw[bR _ _ _ _ O];exact h.low id hid
 ·intro id hid;have c:aQ s.u b0 true id=false:=hid;by_cases l:id=b0
  ·subst l;rw[bQ] at c;cases c
  rw[bR _ _ _ _ l] at c;rw[Y id (by intro e;subst e;rw[U] at c;cases c) l];exact h.dB id c
 ·intro id b hid F;have c:aQ s.u b0 true id=false:=hid;rcases F with ⟨l,_⟩|⟨l,_,F⟩
  ·subst l;rw[bQ] at c;cases c
  rw[bR _ _ _ _ l] at c;exact h.dX id b c F
 ·intro id jI b l A;rcases r id b l with ⟨rfl,y⟩|⟨y,f,Q⟩<;>rcases r jI b A with ⟨e2,h6⟩|⟨h6,lg,kC⟩
  ·exact e2.symm
  ·exact bt (h.inj _ _ b kC y) h6
  ·subst e2;exact bt (h.inj _ _ b Q h6) y
  exact h.inj _ _ b Q kC
 ·intro id b F;rcases r id b F with ⟨rfl,y⟩|⟨y,f,Q⟩
  ·refine⟨?_,(h.fresh _ _ y).2⟩;exact(h.fresh _ _ y).1
  exact h.fresh id b Q
 ·intro id e' o;have o:aQ (aQ s.H k none) b0 (some (.arr e 1 d p)) id=some e':=o;show aQ s.u b0 true id=true/\cy m w (own K m (aQ (aQ s.H k none) b0 (some (.arr e 1 d p)))) id e';by_cases l:id=b0
  ·subst l;rw[bQ] at o;cases o;refine⟨bQ _ _ _,cD _,?_⟩;rcases(h.heap k _ W).2.2 with ⟨aH,a2⟩|⟨b,us,aH,a2,a3,a4,a5⟩
   ·rw[E] at aH;cases aH;exact .inl ⟨I,a2⟩
   rw[E] at aH;cases aH;exact .inr ⟨b,us,I,a2,a3,a4,λi j row x u c1 c2 c3=>(a5 i j row x u c1 c2 c3).mono (Ext.refl _ _) λb _=>z b⟩
  rw[bR _ _ _ _ l] at o⊢;by_cases A:id=k
  ·subst A;rw[bQ] at o;cases o
  rw[bR _ _ _ _ A] at o;obtain⟨y,f⟩:=h.heap id e' o;exact⟨y,f.mono (Ext.refl _ _) (λb _=>z b) X (λx M=>by rw[Y id A l];exact M) (Shaped.refl _ _) (λ_ _=>rfl) λb=>OJ _ _ _ _ _ _ _ A l⟩
 intro j;show bh m w _ (aQ s.t i (.a7 b0 1 d B D) j) _;by_cases hj:j=i
 ·subst hj;rw[bQ];have l:=h.cU j;rw[aD] at l;generalize a.tmps.getD j undef=v at l;rcases eT l E with ⟨cap,b,n,gV,rfl,G,hw,hs,oQ,b9,hm⟩|⟨G,rfl,rfl,rfl⟩
  ·subst G;exact .a7 b0 1 d B D cap b n gV (cD _) I hw hs oQ b9 hm
  subst G;exact .gT b0 1 d (cD _) I
 rw[bR _ _ _ _ hj];exact(h.cU j).mono (Ext.refl _ _) (λb _=>z b) X (Shaped.refl _ _)
theorem cy.set{b:Nat}{Y:List V}{j:Nat}{c x:V}(h:cy β w X b (.cells Y))(m:Y[j]? =some c)(n: ∀u,bh β w X c u->bh β w X x u):cy β w X b (.cells (Y.set j x)):=by
 obtain⟨a,d,ty,e,k,l,o⟩:=h;refine⟨a,d,ty,e,k,by simpa using l,λi v u p q=>?_⟩
 grind
theorem U2{K:Ctx}(b k i j gen p:Nat){n:List (List T)}{L:List dG}{Q:Nat}{l:List (List T)}{R:List (Nat×Nat×V)}(W:Nat.ble K.c6 k=true)(X:b≠k)
  (aV:s.H b=some (.a6 L m Q l ((i,j,.a7 k gen p 0 n.length)::R))) (hk:s.H k=some (.arr e gen p n)):
  s.le K {t:=s.t,H:=aQ (aQ s.H k none) b (some (.a6 L m Q l ((i,j,.t (.ay n))::R))),u:=s.u}:=by
 intro y a w h;have l0:=eB W;generalize ey:(some (.a6 L m Q l ((i,j,.t (.ay n))::R)):Option E)=N;have ah8:N≠none:=by subst ey;simp
 have d: ∀o,own K y (aQ (aQ s.H k none) b N) o->own K y s.H o:=by
  rintro o (f|⟨id,q,F⟩)
  ·exact .inl f
  by_cases z:id=b
  ·subst z;exact .inr ⟨id,by rw[aV];simp,F⟩
  rw[bR _ _ _ _ z] at q;by_cases r:id=k
  ·subst r;rw[bQ] at q;exact bt rfl q
  rw[bR _ _ _ _ r] at q;exact .inr ⟨id,q,F⟩
 have A: ∀o,At y k o-> ¬own K y (aQ (aQ s.H k none) b N) o:=by
  rintro o D (f|⟨id,q,F⟩)
  ·obtain⟨gK,iT⟩:=h.ia o f;rcases(h.fresh k o D).1 with g|iI
   ·exact iT g
   omega
  have:=h.inj _ _ _ F D;subst this;rw[bR _ _ _ _ (kV X),bQ] at q;exact q rfl
 have I:=(h.heap k _ hk).2;refine⟨y,{h with heap:= ?_,cU:= ?_}⟩
 ·intro id e' c;have c:aQ (aQ s.H k none) b N id=some e':=c;by_cases z:id=b
  ·subst z;rw[bQ] at c;subst c;cases ey;obtain⟨r,G⟩:=h.heap id _ aV;refine⟨r,G.1,?_⟩;rcases G.2 with ⟨aH,a2,a3⟩|⟨o,us,B,aH,a2,a3,a4,a5,iY,ib,e9⟩
   ·exact .inl ⟨aH,a2,a3⟩
   refine .inr ⟨o,us,B,aH,a2,a3,a4,λih cR M x u cS cd eK=>?_,iY,ib,e9⟩;have P:=a5 ih cR M x u cS cd eK;refine⟨λv bI=>?_,λU=>?_⟩
   ·rcases dI.1 bI with e|bI
    ·simp only[Prod.mk.injEq] at e;obtain⟨rfl,rfl,rfl⟩:=e;obtain⟨Y,d2⟩:=P.1 _ eH;exact⟨.t _ _ (I.read Y d A),d2⟩
    obtain⟨Y,d2⟩:=P.1 v (eu _ bI);exact⟨Y.mono (Ext.refl _ _) (λb _=>d b) (de.refl _) (Shaped.refl _ _),d2⟩
   have hne: ¬(ih=i/\cR=j):=by rintro⟨rfl,rfl⟩;exact U _ eH
   refine(P.2 λv bI=>?_).mono (Ext.refl _ _) (λb _=>d b) (λ_ _=>rfl)
   grind
  rw[bR _ _ _ _ z] at c;by_cases r:id=k
  ·subst r;rw[bQ] at c;cases c
  rw[bR _ _ _ _ r] at c;obtain⟨G,h6⟩:=h.heap id e' c;exact⟨G,h6.mono (Ext.refl _ _) (λb _=>d b) (de.refl _) (λ_ h=>h) (Shaped.refl _ _) λ_ _=>rfl⟩
 intro i;exact(h.cU i).mono (Ext.refl _ _) (λb _=>d b) (de.refl _) (Shaped.refl _ _)
theorem U4{K:Ctx}(b j k gen n:Nat){c:List (List T)}{r:List V}(F:Nat.ble K.c6 k=true)(G:s.H b=some (.cells r))(f:r[j]? =some (.a7 k gen n 0 c.length))(L:s.H k=some (.arr e gen n c)):
  s.le K {t:=s.t,H:=aQ (aQ s.H k none) b (some (.cells (r.set j (.t (.ay c))))),u:=s.u}:=by
 intro x a w h;have M:=eB F;have Q:b≠k:=by intro e;subst e;rw[G] at L;cases L
 have l: ∀m,own K x (aQ (aQ s.H k none) b (some (.cells (r.set j (.t (.ay c)))))) m->own K x s.H m:=by
  rintro m (R|⟨id,o,B⟩)
  ·exact .inl R
  by_cases y:id=b
  ·subst y;exact .inr ⟨id,by rw[G];simp,B⟩
  rw[bR _ _ _ _ y] at o;by_cases p:id=k
  ·subst p;rw[bQ] at o;exact bt rfl o
  rw[bR _ _ _ _ p] at o;exact .inr ⟨id,o,B⟩
 have z: ∀m,At x k m-> ¬own K x (aQ (aQ s.H k none) b (some (.cells (r.set j (.t (.ay c)))))) m:=by
  rintro m A (R|⟨id,o,B⟩)
  ·obtain⟨gK,N⟩:=h.ia m R;rcases(h.fresh k m A).1 with q|P
   ·exact N q
   omega
  have:=h.inj _ _ _ B A;subst this;rw[bR _ _ _ _ (kV Q),bQ] at o;exact o rfl
 have W:=(h.heap k _ L).2;refine⟨x,{h with heap:= ?_,cU:= ?_}⟩
 ·intro id e' d;have d:aQ (aQ s.H k none) b (some (.cells (r.set j (.t (.ay c))))) id=some e':=d;by_cases y:id=b
  ·subst y;rw[bQ] at d;cases d;obtain⟨p,X⟩:=h.heap id _ G;refine⟨p,?_⟩;obtain⟨m,U,ty,Y,g2,g3,g⟩:=X;refine⟨m,U,ty,Y,g2,by simpa using g3,λi v u D E=>?_⟩;by_cases I:i=j
   ·subst I;have q:=(bM.1 f).1;rw[ir q] at D;cases D;exact .t _ _ (W.read (g i _ u f E) l z)
   rw[jT (kV I)] at D;exact(g i v u D E).mono (Ext.refl _ _) (λb _=>l b) (de.refl _) (Shaped.refl _ _)
  rw[bR _ _ _ _ y] at d;by_cases p:id=k
  ·subst p;rw[bQ] at d;cases d
  rw[bR _ _ _ _ p] at d;obtain⟨X,h6⟩:=h.heap id e' d;exact⟨X,h6.mono (Ext.refl _ _) (λb _=>l b) (de.refl _) (λ_ h=>h) (Shaped.refl _ _) λ_ _=>rfl⟩
 intro i;exact(h.cU i).mono (Ext.refl _ _) (λb _=>l b) (de.refl _) (Shaped.refl _ _)
theorem ZH{K:Ctx}{c:Nat}(b j k:Nat)(e:TypeId){A:List V}(F:s.u k=false)(X:s.H b=some (.cells A))(M:A[j]? =some (.t .e5)):
  s.le K {t:=s.t,H:=aQ (aQ s.H k (some (.arr e 1 c []))) b (some (.cells (A.set j (.a7 k 1 c 0 0)))),u:=aQ s.u k true}:=by
 intro p a w h;have cn:=h.dB k F;have f:b≠k:=by intro e;subst e;have:=(h.heap b _ X).1;rw[this] at F;cases F
 have q: ∀id x,p id=some x->p.put k (some (none,1)) id=some x:=λid x l=>by
  rw[eo _ _ _ _ (by intro e;subst e;rw[cn] at l;cases l)];exact l
 have G:=de.of q;have o: ∀id n,At (p.put k (some (none,1))) id n->id≠k/\At p id n:=λid n l=>by
  by_cases r:id=k
  ·subst r;rcases l with ⟨g,l⟩|l
   ·rw[iF] at l;cases l
   exact bt l (h.dX _ _ F)
  refine⟨r,?_⟩;rcases l with ⟨g,l⟩|l
  ·rw[eo _ _ _ _ r] at l;exact .inl ⟨g,l⟩
  exact .inr l
 have y: ∀n,own K (p.put k (some (none,1))) (aQ (aQ s.H k (some (.arr e 1 c []))) b (some (.cells (A.set j (.a7 k 1 c 0 0))))) n->own K p s.H n:=by
  rintro n (l|⟨id,z,B⟩)
  ·exact .inl l
  obtain⟨E,L⟩:=o id n B;by_cases W:id=b
  ·subst W;exact .inr ⟨id,by rw[X];simp,L⟩
  rw[bR _ _ _ _ W,bR _ _ _ _ E] at z;exact .inr ⟨id,z,L⟩
 have Q: ∀v u,bh p w (own K p s.H) v u->bh (p.put k (some (none,1))) w (own K (p.put k (some (none,1))) (aQ (aQ s.H k (some (.arr e 1 c []))) b (some (.cells (A.set j (.a7 k 1 c 0 0)))))) v u:=
  λv u D=>D.mono (Ext.refl _ _) (λb _=>y b) G (Shaped.refl _ _)
 refine⟨p.put k (some (none,1)),{h with base:= ?_,low:= ?_,dB:= ?_,dX:= ?_,inj:= ?_,fresh:= ?_,heap:= ?_,cU:=λi=>Q _ _ (h.cU i)}⟩
 ·refine h.base.keep λid hid=>?_
  have:=h.low id hid;rw[eo _ _ _ _ (by intro e;subst e;rw[F] at this;cases this)]
 ·intro id hid;show aQ s.u k true id=true;by_cases e:id=k
  ·subst e;exact bQ _ _ _
  rw[bR _ _ _ _ e];exact h.low id hid
 ·intro id hid;have d:aQ s.u k true id=false:=hid;by_cases e:id=k
  ·subst e;rw[bQ] at d;cases d
  rw[bR _ _ _ _ e] at d;rw[eo _ _ _ _ e];exact h.dB id d
 ·intro id b hid;have d:aQ s.u k true id=false:=hid;by_cases e:id=k
  ·subst e;rw[bQ] at d;cases d
  rw[bR _ _ _ _ e] at d;exact h.dX id b d
 ·intro id R n z B;exact h.inj id R n (o id n z).2 (o R n B).2
 ·intro id n l;exact h.fresh id n (o id n l).2
 intro id e' m;have m:aQ (aQ s.H k (some (.arr e 1 c []))) b (some (.cells (A.set j (.a7 k 1 c 0 0)))) id=some e':=m;show aQ s.u k true id=true/\cy _ _ (own K _ (aQ (aQ s.H k (some (.arr e 1 c []))) b (some (.cells (A.set j (.a7 k 1 c 0 0)))))) id e';by_cases L:id=b
 ·subst L;rw[bQ] at m;cases m;rw[bR _ _ _ _ f];obtain⟨W,n,T,ty,U,Y,g3,N⟩:=h.heap id _ X;refine⟨W,n,T,ty,q _ _ U,Y,by simpa using g3,λi v u D P=>?_⟩;by_cases r:i=j
  ·subst r;have I:=(bM.1 M).1;rw[ir I] at D;cases D;have z:=N i _ u M P;cases z with
   |t _ _ B=>cases B;exact .gT k 1 c (cD _) (bQ _ _ _)
  rw[jT (kV r)] at D;exact Q _ _ (N i v u D P)
 rw[bR _ _ _ _ L] at m;by_cases r:id=k
 ·subst r;rw[bQ] at m;cases m;exact⟨bQ _ _ _,cD _,Or.inl ⟨bQ _ _ _,rfl⟩⟩
 rw[bR _ _ _ _ r] at m;obtain⟨z,B⟩:=h.heap id e' m;exact⟨by rw[bR _ _ _ _ r];exact z,B.mono (Ext.refl _ _) (λb _=>y b) G (q id) (Shaped.refl _ _) λ_ _=>rfl⟩
def ls(k:Nat):Nat->Bool:=λid=>bif Nat.beq id k then false else true
def rs(k:Nat)(v:V):V:=bif v.ok (ls k) then v else .cX
def GD(k:Nat):E->Option E
 | .cells cs=>bif gg (ls k) cs then some (.cells cs) else none
 | .a6 c m gen a b=>bif tW (ls k) b then some (.a6 c m gen a b) else none
 |e=>some e
theorem AP(h:n≠k):ls k n=true:=by
 have:Nat.beq n k=false:=by cases a:Nat.beq n k with
  |false=>rfl
  |true=>exact bt (cH a) h
 simp[ls,this]
theorem wM(h:ls k n=true):n≠k:=by intro e;subst e;simp[ls] at h
def E.mi(n:Nat):E->E
 | .arr e _ z r=> .arr e n z r
 | .a6 a m _ r b=> .a6 a m n r b
 |e=>e
abbrev E.CE:E->E:=E.mi 1
def E.mS:E->List (Nat×Nat×V)
 | .a6 _ _ _ _ a=>a
 |_=>[]
theorem cy.mi{β':Map}{e:E}(h:cy β w X k e)(d:1<=n)(z:e.gen=some g)(s:β k=some (q,g))(y:β' L=some (q,n))(G: ∀b,β'.n L b↔β.n k b)(H: ∀b,W b->X b)
  (R: ∀i j v,(i,j,v)∈e.mS-> ∀u,bh β w X v u->bh β' w W v u):cy β' w W L (e.mi n):=by
 cases e with
 |cells=>cases z
 |arr ty f Q l=>
  cases z;refine⟨d,?_⟩;rcases h.2 with ⟨aH,a2⟩|⟨b,A,aH,a2,a3,a4,a5⟩
  ·rw[s] at aH;cases aH;exact .inl ⟨y,a2⟩
  rw[s] at aH;cases aH;exact .inr ⟨b,A,y,a2,a3,a4,λi j a x u o p r=>(a5 i j a x u o p r).mono (Ext.refl _ _) λb _=>H b⟩
 |a6 I m f l M=>
  cases z;refine⟨d,?_⟩;rcases h.2 with ⟨aH,a2,a0⟩|⟨b,A,B,aH,a2,a3,a4,a5,iY,ib,e9⟩
  ·rw[s] at aH;cases aH;exact .inl ⟨y,a2,λc t=>a0 c ((G c).1 t)⟩
  rw[s] at aH;cases aH;exact .inr ⟨b,A,B,y,a2,a3,a4,λi j a x u o p r=>⟨λv D=>⟨R i j v D _ ((a5 i j a x u o p r).1 v D).1,((a5 i j a x u o p r).1 v D).2⟩,λF=>((a5 i j a x u o p r).2 F).mono (Ext.refl _ _) (λc _=>H c) λ_ _=>rfl⟩,iY,ib,λc=>(G c).trans (e9 c)⟩
theorem Rel.Q4{K:Ctx}{s':S}{a:Act}(h:Rel K β s a w)(k g gen:Nat){e:E}{F:Option Nat}(B:s.H k=some e)(f:e.gen=some gen)(G:e.mS=[])(L:k<K.c6)(Q:K.hA k=some (F,g))
  (n:s'.u=s.u) (R:s'.H k=some (e.mi (g+1))) (q:Option Nat) (D:β k=some (q,gen))
  (I: ∀id x,id≠k->s'.H id=some x->s.H id≠none/\ ∀X,(∀b,X b->own K β s.H b)->cy (β.put k (some (q,g+1))) w X id x)
  (T: ∀i,∀X,(∀b,X b->own K β s.H b)->bh (β.put k (some (q,g+1))) w X (s'.t i) (a.tmps.getD i undef)):Rel K (β.put k (some (q,g+1))) s' a w:=by
 have W:1<=gen:=(ps (h.heap k _ B).2 f).1;have o:=(h.heap k _ B).1;have p:1<=g/\ ∀b,q=some b->F=some b\/K.w0.heap.size<=b:=by
  rcases h.base k L with M|⟨V,Y,q2,g2,aH,a2,a3,a4,a5⟩
  ·rw[D,Q] at M;cases M;exact⟨W,λb aV=> .inl aV⟩
  rw[Q] at aH;cases aH;rw[D] at a3;cases a3;exact⟨a2,a5⟩
 have c: ∀id b,At (β.put k (some (q,g+1))) id b->At β id b:=λid b aV=>by
  rcases aV with ⟨U,aV⟩|aV
  ·by_cases d:id=k
   ·subst d;rw[iF] at aV;cases aV;exact .inl ⟨gen,D⟩
   rw[eo _ _ _ _ d] at aV;exact .inl ⟨U,aV⟩
  exact .inr aV
 have l: ∀b,own K (β.put k (some (q,g+1))) s'.H b->own K β s.H b:=by
  rintro b (m|⟨id,r,z⟩)
  ·exact .inl m
  refine .inr ⟨id,?_,c id b z⟩;by_cases d:id=k
  ·subst d;rw[B];simp
  cases m:s'.H id with
  |none=>exact bt m r
  |some x=>exact(I id x d m).1
 refine {h with base:= ?_,low:= ?_,dB:= ?_,dX:=λid b hid=>h.dX id b (n▸hid),inj:= ?_,fresh:=λid b aV=>h.fresh id b (c id b aV),heap:= ?_,cU:=λi=>T i _ l}
 ·intro id hid;by_cases d:id=k
  ·subst d;exact .inr ⟨F,g,q,g+1,Q,p.1,bQ _ _ _,ob _,p.2⟩
  rw[eo _ _ _ _ d];exact h.base id hid
 ·intro id hid;rw[n];exact h.low id hid
 ·intro id hid;rw[n] at hid;rw[eo _ _ _ _ (by intro e;subst e;rw[o] at hid;cases hid)];exact h.dB id hid
 ·intro id A b r z;exact h.inj id A b (c id b r) (c A b z)
 intro id x m;by_cases d:id=k
 ·subst d;rw[R] at m;cases m;exact⟨by rw[n];exact o,(h.heap id _ B).2.mi O f D (bQ _ _ _) (λ_=>Iff.rfl) l λi j v N=>by rw[G] at N;cases N⟩
 obtain⟨r,z⟩:=I id x d m;refine⟨?_,z _ l⟩;rw[n];cases P:s.H id with
 |none=>exact bt P r
 |some y=>exact(h.heap id y P).1
theorem Mm(l:G k=some (q,gen))(h:bh G w X (.a7 k gen i m L) u):bh (G.put k (some (q,g+1))) w W (.a7 k (g+1) i m L) u:=by
 rcases eT h l with ⟨c,b,n,d,rfl,a,o,p,e,r,s⟩|⟨a,rfl,rfl,rfl⟩
 ·subst a;exact .a7 k (g+1) i m L c b n d O (bQ _ _ _) o p e r s
 subst a;exact .gT k (g+1) i O (bQ _ _ _)
theorem Nn(h:bh G w X v u)(a: ∀b,W b->X b):bh (G.put k (some (q,g+1))) w W (rs k v) u:=by
 unfold rs;cases c:v.ok (ls k) with
 |false=>exact .cX _
 |true=>exact h.under a (λid hid=>eo _ _ _ _ (wM hid)) c
theorem MC{y:E}(h:cy G w X n x)(e: ∀b,W b->X b)(i:n≠k)(a:GD k x=some y):cy (G.put k (some (q,g+1))) w W n y:=by
 unfold GD at a;split at a
 ·rename_i cs;cases c:gg (ls k) cs with
  |false=>rw[c] at a;cases a
  |true=>rw[c] at a;cases a;exact h.under e (λn hid=>eo _ _ _ _ (wM hid)) (AP i) c
 ·rename_i l;cases c:tW (ls k) l with
  |false=>rw[c] at a;cases a
  |true=>rw[c] at a;cases a;exact h.under e (λn hid=>eo _ _ _ _ (wM hid)) (AP i) c
 cases a;refine h.under e (u:=ls k) (λn hid=>eo _ _ _ _ (wM hid)) (AP i) ?_;cases x with
 |cells cs=>rename_i o _;exact bt rfl (o cs)
 |arr=>rfl
 |a6 p m gen d l=>rename_i _ o;exact bt rfl (o p m gen d l)
def pK(k:Nat)(H:Nat->Option E):Nat->Option E:=λid=>match H id with
 |some e=>GD k e
 |none=>none
theorem Ei{K:Ctx}(i k g gen b c d:Nat){e:E}(F:Nat.blt k K.c6=true)(G:s.t i= .a7 k gen b c d)(z:s.H k=some e)(A:e.gen=some gen)(n:e.mS=[])(o: ∃q,K.hA k=some (q,g)):
  s.le K {t:=aQ (λj=>rs k (s.t j)) i (.a7 k (g+1) b c d),H:=aQ (pK k s.H) k (some (e.mi (g+1))),u:=s.u}:=by
 intro L a w h;obtain⟨Q,o⟩:=o;obtain⟨_,q,B⟩:=ps (h.heap k _ z).2 A;refine⟨_,h.Q4 (s':={t:=aQ (λj=>rs k (s.t j)) i (.a7 k (g+1) b c d),H:=aQ (pK k s.H) k (some (e.mi (g+1))),u:=s.u}) k g gen z A n (by simpa[Nat.blt_eq] using F) o rfl (bQ _ _ _) q B ?_ ?_⟩
 ·intro id x m l;have l:aQ (pK k s.H) k (some (e.mi (g+1))) id=some x:=l;rw[bR _ _ _ _ m] at l;unfold pK at l;cases p:s.H id with
  |none=>rw[p] at l;cases l
  |some y=>
   rw[p] at l;exact⟨a1,λX r=>MC (h.heap id y p).2 r m l⟩
 intro j X r;show bh _ w X (aQ (λj=>rs k (s.t j)) i (.a7 k (g+1) b c d) j) _;by_cases D:j=i
 ·subst D;rw[bQ];exact Mm B (G▸h.cU j)
 rw[bR _ _ _ _ D];exact Nn (h.cU j) r
theorem Ej{K:Ctx}(b j k g gen c l m:Nat){e:E}{cs:List V}(cu:Nat.blt k K.c6=true)(A:s.H b=some (.cells cs))(B:cs[j]? =some (.a7 k gen c l m))(D:gg (ls k) (cs.set j .cX)=true)
  (z:s.H k=some e) (F:e.gen=some gen) (G:e.mS=[]) (L: ∃q,K.hA k=some (q,g)):
  s.le K {t:=λj=>rs k (s.t j),H:=aQ (aQ (pK k s.H) k (some (e.mi (g+1)))) b (some (.cells (cs.set j (.a7 k (g+1) c l m)))),u:=s.u}:=by
 intro Q a w h;obtain⟨nU,L⟩:=L;obtain⟨_,q,I⟩:=ps (h.heap k _ z).2 F;have n:b≠k:=by intro e';subst e';rw[A] at z;cases z;cases F
 refine⟨_,h.Q4 (s':={t:=λj=>rs k (s.t j),H:=aQ (aQ (pK k s.H) k (some (e.mi (g+1)))) b (some (.cells (cs.set j (.a7 k (g+1) c l m)))),u:=s.u}) k g gen z F G (by simpa[Nat.blt_eq] using cu) L rfl (by show aQ _ b _ k=_;rw[bR _ _ _ _ (kV n),bQ]) q I ?_ ?_⟩
 ·intro id x o d;have d:aQ (aQ (pK k s.H) k (some (e.mi (g+1)))) b (some (.cells (cs.set j (.a7 k (g+1) c l m)))) id=some x:=d;by_cases p:id=b
  ·subst p;rw[bQ] at d;cases d;refine⟨by rw[A];simp,λX r=>?_⟩;have M:=(h.heap id _ A).2;have h6:cy Q w (own K Q s.H) id (.cells (cs.set j .cX)):=M.set B λu _=> .cX u;have lg:=h6.under (u:=ls k) (β':=Q.put k (some (q,g+1))) r (λid hid=>eo _ _ _ _ (wM hid)) (AP n) D;obtain⟨fH,us,ty,N,P,g3,g4⟩:=lg;obtain⟨cd,qF,ahM,T,U,f3,f4⟩:=M;rw[eo _ _ _ _ n,T] at N;cases N;rw[U] at P;cases P;refine⟨_,_,_,by rw[eo _ _ _ _ n];exact T,U,by simpa using f3,λi v u R hu=>?_⟩;by_cases Y:i=j
   ·subst Y;have W:=(bM.1 B).1;rw[ir W] at R;cases R;exact Mm I (f4 i _ u B hu)
   rw[jT (kV Y)] at R
   grind
  rw[bR _ _ _ _ p,bR _ _ _ _ o] at d;unfold pK at d;cases f:s.H id with
  |none=>rw[f] at d;cases d
  |some y=>
   rw[f] at d;exact⟨a1,λX r=>MC (h.heap id y f).2 r o d⟩
 intro j X r;exact Nn (h.cU j) r
inductive mx (p:V->V->Prop):V->V->Prop
 |same (v:V):mx p v v
 |put {v c8:V} (h:p v c8):mx p v c8
 |agg {cs HG:List V} (b9:HG.length=cs.length) (h: ∀(i:Nat) c rI,cs[i]? =some c->HG[i]? =some rI->mx p c rI):mx p (.agg cs) (.agg HG)
theorem G3{U:Map}{a:World}(d: ∀v u,bh U w X v u->bh G a W v u)(e: ∀v x u,p v x->bh U w X v u->bh G a W x u){x:V}(h:mx p v x): ∀u,bh U w X v u->bh G a W x u:=by
 induction h with
 |same v=>exact d v
 |put h=>exact λu=>e _ _ u h
 |agg k h l=>
  intro u c;cases c with
  |agg _ m n o=>
   refine .agg _ m O λi q u b c=>?_;have aD:=(bM.1 b).1;have bB:=bg (show i<_ by rw[<-k];exact aD);exact l i _ q bB b u (o i _ u bB c)
def wb(p:V->V->Prop)(e b:E):Prop:=b=e\/ ∃cs a,e= .cells cs/\b= .cells a/\a.length=cs.length/\ ∀(i:Nat) c d,cs[i]? =some c->a[i]? =some d->mx p c d
theorem wb.va{U:Map}(c: ∀x,U n=some x->G n=some x)(l: ∀e,cy U w X n e->cy G w W n e)(m: ∀v u,bh U w X v u->bh G w W v u)(o: ∀v d u,p v d->bh U w X v u->bh G w W d u){e e':E}(h:wb p e e')(k:cy U w X n e):cy G w W n e':=by
 rcases h with rfl|⟨cs,q,rfl,rfl,r,h⟩
 ·exact l _ k
 obtain⟨b,s,ty,y,z,F,A⟩:=k;refine⟨b,s,ty,c _ y,z,O,λi B u a D=>?_⟩;have aD:=(bM.1 a).1;have bB:=bg (show i<_ by rw[<-r];exact aD);exact G3 m o (h i _ B bB a) u (A i _ u bB D)
theorem U3{K:Ctx}(X:Nat->V)(o:Nat->Option E)(k gen d:Nat){c:List (List T)}(D:Nat.ble K.c6 k=true)(I:s.H k=some (.arr e gen d c))
  (M: ∀i,mx (λv p=>v= .a7 k gen d 0 c.length/\p= .t (.ay c)) (s.t i) (X i)) (N:o k=none)
  (f: ∀id q,o id=some q-> ∃r,s.H id=some r/\wb (λv p=>v= .a7 k gen d 0 c.length/\p= .t (.ay c)) r q):s.le K {t:=X,H:=o,u:=s.u}:=by
 intro l a w h;have P:=eB D;have m: ∀n,own K l o n->own K l s.H n:=by
  rintro n (F|⟨id,A,x⟩)
  ·exact .inl F
  cases B:o id with
  |none=>exact bt B A
  |some q=>obtain⟨r,G,_⟩:=f id q B;exact .inr ⟨id,by rw[G];simp,x⟩
 have y: ∀n,At l k n-> ¬own K l o n:=by
  rintro n z (F|⟨id,A,x⟩)
  ·obtain⟨gK,U⟩:=h.ia n F;rcases(h.fresh k n z).1 with L|Y
   ·exact U L
   omega
  have:=h.inj _ _ _ x z
  grind
 have Q:=(h.heap k _ I).2;have g: ∀v u,bh l w (own K l s.H) v u->bh l w (own K l o) v u:=λv u R=>R.mono (Ext.refl _ _) (λb _=>m b) (de.refl _) (Shaped.refl _ _);have j: ∀v p u,(v= .a7 k gen d 0 c.length/\p= .t (.ay c))->bh l w (own K l s.H) v u->bh l w (own K l o) p u:=by
  rintro v p u ⟨rfl,rfl⟩ R;exact .t _ _ (Q.read R m y)
 refine⟨l,{h with heap:= ?_,cU:= ?_}⟩
 ·intro id q W;obtain⟨r,A,x⟩:=f id q W;obtain⟨G,h4⟩:=h.heap id r A;exact⟨G,x.va (λ_ h=>h) (λe B=>B.mono (Ext.refl _ _) (λb _=>m b) (de.refl _) (λ_ h=>h) (Shaped.refl _ _) λ_ _=>rfl) g j h4⟩
 intro i;exact G3 g j (M i) _ (h.cU i)
theorem WY{K:Ctx}(lB:Nat->V)(z:Nat->Option E)(k b0 gen l W:Nat){B:E}(Y:Nat.ble K.c6 k=true)(X:k≠b0)(P:s.H k=some B)(bE:B.gen=some gen)(hu:s.u b0=false)
  (eO: ∀i,mx (λv G=>v= .a7 k gen l 0 W/\G= .a7 b0 1 l 0 W) (s.t i) (lB i)) (ae0:z k=none) (f:z b0=some B.CE)
  (hH: ∀id e',id≠b0->z id=some e'-> ∃B,s.H id=some B/\wb (λv G=>v= .a7 k gen l 0 W/\G= .a7 b0 1 l 0 W) B e'):
  s.le K {t:=lB,H:=z,u:=aQ s.u b0 true}:=by
 intro A a w h;have l0:=eB Y;obtain⟨ig,q,hq⟩:=ps (h.heap k _ P).2 bE;have Is:=(h.heap k _ P).1;have cn:=h.dB b0 hu;have afB:K.c6<=b0:=by
  apply Nat.le_of_not_lt;intro hlt;rw[h.low b0 hlt] at hu;cases hu
 let d:=A.move k b0 gen q;have cS:d b0=some (q,1):=FA _ _ _ _ _;have cd:d k=some (none,gen+1):=Fz _ _ _ _ _ X;have T: ∀id,id≠k->id≠b0->d id=A id:=λid m r=>Ey _ _ _ _ _ _ m r;have o: ∀id b,At d id b->(id=b0/\At A k b)\/(id≠k/\id≠b0/\At A id b):=by
  intro id b L;exact Oj X hq L
 have I:de A d:=by
  intro id q2 g D
  grind
 have y: ∀b,own K d z b->own K A s.H b:=by
  rintro b (D|⟨id,m,r⟩)
  ·exact .inl D
  rcases o id b r with ⟨rfl,p⟩|⟨p,M,F⟩
  ·exact .inr ⟨k,by rw[P];simp,p⟩
  cases U:z id with
  |none=>exact bt U m
  |some e'=>obtain⟨B,Q,_⟩:=hH id e' M U;exact .inr ⟨id,by rw[Q];simp,F⟩
 have hm: ∀v u,bh A w (own K A s.H) v u->bh d w (own K d z) v u:=λv u bI=>bI.mono (Ext.refl _ _) (λb _=>y b) I (Shaped.refl _ _);have hp: ∀v G u,(v= .a7 k gen l 0 W/\G= .a7 b0 1 l 0 W)->bh A w (own K A s.H) v u->bh d w (own K d z) G u:=by
  rintro v G u ⟨rfl,rfl⟩ bI;rcases eT bI hq with ⟨cap,b,n,gV,rfl,R,hw,hs,oQ,b9,BI⟩|⟨R,m,r,rfl⟩
  ·subst R;exact .a7 b0 1 l 0 _ cap b n gV (cD _) cS hw hs oQ b9 BI
  subst R;rw[r];exact .gT b0 1 l (cD _) cS
 refine⟨d,{h with base:= ?_,low:= ?_,dB:= ?_,dX:= ?_,inj:= ?_,fresh:= ?_,heap:= ?_,cU:= ?_}⟩
 ·exact h.base.keep λid hid=>T id O O
 ·intro id hid;show aQ s.u b0 true id=true;rw[bR _ _ _ _ O];exact h.low id hid
 ·intro id hid;have c:aQ s.u b0 true id=false:=hid;by_cases m:id=b0
  ·subst m;rw[bQ] at c;cases c
  rw[bR _ _ _ _ m] at c;rw[T id (by intro e;subst e;rw[Is] at c;cases c) m];exact h.dB id c
 ·intro id b hid L;have c:aQ s.u b0 true id=false:=hid;rcases L with ⟨m,_⟩|⟨m,_,L⟩
  ·subst m;rw[bQ] at c;cases c
  rw[bR _ _ _ _ m] at c;exact h.dX id b c L
 ·intro id jI b m r;rcases o id b m with ⟨rfl,p⟩|⟨p,M,F⟩<;>rcases o jI b r with ⟨e2,Q⟩|⟨Q,lg,kC⟩
  ·exact e2.symm
  ·exact bt (h.inj _ _ b kC p) Q
  ·subst e2;exact bt (h.inj _ _ b F Q) p
  exact h.inj _ _ b F kC
 ·intro id b L;rcases o id b L with ⟨rfl,p⟩|⟨p,M,F⟩
  ·refine⟨?_,(h.fresh _ _ p).2⟩;exact(h.fresh _ _ p).1
  exact h.fresh id b F
 ·intro id e' D;have N:z id=some e':=D;clear D;show aQ s.u b0 true id=true/\cy d w (own K d z) id e';by_cases m:id=b0
  ·subst m;rw[f] at N;cases N;exact⟨bQ _ _ _,(h.heap k _ P).2.mi (cD _) bE hq cS (λb=>by simp[d,Map.move]) y λ_ _ v _ u=>hm v u⟩
  have r:id≠k:=by intro e;subst e;rw[ae0] at N;cases N
  obtain⟨B,F,Q⟩:=hH id e' m N;obtain⟨p,M⟩:=h.heap id B F;rw[bR _ _ _ _ m];refine⟨p,Q.va (λx D=>by rw[T id r m];exact D) (λe U=>U.mono (Ext.refl _ _) (λb _=>y b) I (λx D=>by rw[T id r m];exact D) (Shaped.refl _ _) (λ_ _=>rfl) λb=>OJ _ _ _ _ _ _ _ r m) hm hp M⟩
 intro j;exact G3 hm hp (eO j) _ (h.cU j)
mutual
def o7(k g z n:Nat)(b:V):V->V×List df
 | .a7 d gen a c len=>match Nat.beq d k&&Nat.beq c 0 with
  |true=>(b,[.q gen g,.q a z,.q len n])
  |false=>(.a7 d gen a c len,[])
 | .agg cs=>(.agg (mh k g z n b cs).1,(mh k g z n b cs).2)
 |v=>(v,[])
def mh(k g z n:Nat)(a:V):List V->List V×List df
 | []=>([],[])
 |c::cs=>((o7 k g z n a c).1::(mh k g z n a cs).1,(o7 k g z n a c).2++(mh k g z n a cs).2)
end
theorem Eu(k g z n:Nat)(a:V): ∀cs,(mh k g z n a cs).1.length=cs.length
 | []=>rfl
 |c::cs=>by simp[mh,Eu k g z n a cs]
mutual
theorem OE(k g z n:Nat)(c:V): ∀v,cc (o7 k g z n c v).2->mx (λa b=>a= .a7 k g z 0 n/\b=c) v (o7 k g z n c v).1
 | .a7 l gen i e len,h=>by
  unfold o7 at h⊢;cases d:Nat.beq l k&&Nat.beq e 0 with
  |false=>exact .same _
  |true=>
   simp only[d] at h⊢;simp only[Bool.and_eq_true] at d;obtain⟨rfl,rfl,rfl,_⟩:=h;have m:=cH d.1;have o:=cH d.2;subst m;subst o;exact .put ⟨rfl,rfl⟩
 | .agg cs,h=>by
  simp only[o7] at h⊢;exact .agg (Eu _ _ _ _ _ _) (GR k g z n c cs h)
 | .t _,_| .bJ _,_| .ref _ _,_| .aK _,_| .ct _ _ _ _ _,_| .fn _ _,_| .cX,_=>by simp only[o7];exact .same _
theorem GR(k g z n:Nat)(d:V): ∀cs,cc (mh k g z n d cs).2-> ∀(i:Nat) c l,cs[i]? =some c->(mh k g z n d cs).1[i]? =some l->mx (λa b=>a= .a7 k g z 0 n/\b=d) c l
 | [],_,i,c,l,h,_=>by simp at h
 |o::cs,m,0,c,l,h,e=>by
  simp only[mh] at m e;simp at h e;subst h;subst e;exact OE k g z n d o (cc.app m).1
 |o::cs,m,i+1,c,l,h,e=>by simp only[mh] at m e;simp at h e;exact GR k g z n d cs (cc.app m).2 i c l h e
end
def hS(k g z n:Nat)(a:V)(s:S):List Nat->List (Nat×V)×List df
 | []=>([],[])
 |i::is=>((i,(o7 k g z n a (s.t i)).1)::(hS k g z n a s is).1,(o7 k g z n a (s.t i)).2++(hS k g z n a s is).2)
def gi(k g z n:Nat)(a:V)(s:S):List Nat->List (Nat×Option E)×List df
 | []=>([],[])
 |b::c=>match s.H b with
  |some (.cells cs)=>((b,some (.cells (mh k g z n a cs).1))::(gi k g z n a s c).1,(mh k g z n a cs).2++(gi k g z n a s c).2)
  |_=>gi k g z n a s c
theorem Gx{k g z n:Nat}{x:V}{s:S}: ∀{is:List Nat},cc (hS k g z n x s is).2-> ∀i v,(i,v)∈(hS k g z n x s is).1->mx (λa b=>a= .a7 k g z 0 n/\b=x) (s.t i) v
 |i0::is,c,i,v,h=>by
  simp only[hS] at c h;rcases dI.1 h with h|h
  ·cases h;exact OE _ _ _ _ _ _ (cc.app c).1
  exact Gx (cc.app c).2 i v h
theorem AM{k g z n:Nat}{x:V}{s:S}: ∀{i:List Nat},cc (gi k g z n x s i).2-> ∀b e,(b,e)∈(gi k g z n x s i).1-> ∃m o,s.H b=some m/\e=some o/\wb (λa b=>a= .a7 k g z 0 n/\b=x) m o
 |p::i,c,b,e,h=>by
  unfold gi at c h;split at h
  ·rename_i cs d;simp only[d] at c;rcases dI.1 h with h|h
   ·cases h;exact⟨_,_,d,rfl,.inr ⟨cs,_,rfl,rfl,Eu _ _ _ _ _ _,GR _ _ _ _ _ _ (cc.app c).1⟩⟩
   exact AM (cc.app c).2 b e h
  rename_i d;split at c
  ·rename_i cs l;exact bt l (d cs)
  exact AM c b e h
theorem Om{k:Nat}: ∀{l:List Nat},k∈l->hY k l=true
 |x::l,h=>by
  simp only[hY];rcases dI.1 h with rfl|h
  ·simp
  cases Nat.beq x k with
  |true=>rfl
  |false=>exact Om h
theorem wg(h:(!hY k l)=true):k∉l:=λa=>by rw[Om a] at h;cases h
theorem N6{b0:Nat}(h:(!Nat.beq k b0)=true):k≠b0:=λe=>by subst e;simp at h
theorem wc{k g z n:Nat}{x:V}{s:S}: ∀{a:List Nat} {b:Nat} {e:Option E},(b,e)∈(gi k g z n x s a).1->b∈a
 |c::a,b,e,h=>by
  unfold gi at h;split at h
  ·rcases dI.1 h with h|h
   ·cases h;exact eH
   exact eu _ (wc h)
  exact eu _ (wc h)
theorem aec{K:Ctx}{a:List (List T)}{L:List Nat}(d:Nat.ble K.c6 k=true)(l:s.H k=some (.arr e gen n a))(m:k∉r)
  (o:cc (hS k gen n a.length (.t (.ay a)) s L).2) (p:cc (gi k gen n a.length (.t (.ay a)) s r).2):
  s.le K ((⟨(hS k gen n a.length (.t (.ay a)) s L).1,(k,none)::(gi k gen n a.length (.t (.ay a)) s r).1,[]⟩:cM).app s):=by
 refine U3 _ _ k gen n d l (λi=>?_) ?_ λid e' b=>?_
 ·rcases f7 (hS k gen n a.length (.t (.ay a)) s L).1 s.t i with ⟨_,c⟩|⟨v,h,c⟩
  ·rw[c];exact .same _
  rw[c];exact Gx o i v h
 ·show d4 (aQ s.H k none) _ k=none;rw[l3 _ _ _ λv q=>m (wc q),bQ]
 have b:d4 (aQ s.H k none) (gi k gen n a.length (.t (.ay a)) s r).1 id=some e':=b;rcases f7 (gi k gen n a.length (.t (.ay a)) s r).1 (aQ s.H k none) id with ⟨_,c⟩|⟨v,h,c⟩
 ·rw[c] at b;by_cases hid:id=k
  ·subst hid;rw[bQ] at b;cases b
  rw[bR _ _ _ _ hid] at b;exact⟨e',b,.inl rfl⟩
 rw[c] at b;subst b;obtain⟨w,x,y,z,A⟩:=AM p id _ h
 grind
theorem Pc{K:Ctx}{T:E}(e:Nat.ble K.c6 k=true)(c:k≠m)(q:s.H k=some T)(w:T.gen=some gen)(x:s.u m=false)(y:k∉r)(h:m∉r)
  (z:cc (hS k gen n L (.a7 m 1 n 0 L) s l).2) (A:cc (gi k gen n L (.a7 m 1 n 0 L) s r).2):
  s.le K ((⟨(hS k gen n L (.a7 m 1 n 0 L) s l).1,(k,none)::(m,some T.CE)::(gi k gen n L (.a7 m 1 n 0 L) s r).1,[(m,true)]⟩:cM).app s):=by
 refine WY _ _ k m gen n L e c q w x (λi=>?_) ?_ ?_ λid e' d a=>?_
 ·rcases f7 (hS k gen n L (.a7 m 1 n 0 L) s l).1 s.t i with ⟨_,b⟩|⟨v,o,b⟩
  ·rw[b];exact .same _
  rw[b];exact Gx z i v o
 ·show d4 (aQ (aQ s.H k none) m _) _ k=none;rw[l3 _ _ _ λv p=>y (wc p),bR _ _ _ _ c,bQ]
 ·show d4 (aQ (aQ s.H k none) m _) _ m=_;rw[l3 _ _ _ λv p=>h (wc p),bQ]
 have a:d4 (aQ (aQ s.H k none) m (some T.CE)) (gi k gen n L (.a7 m 1 n 0 L) s r).1 id=some e':=a;rcases f7 (gi k gen n L (.a7 m 1 n 0 L) s r).1 (aQ (aQ s.H k none) m (some T.CE)) id with ⟨_,b⟩|⟨v,o,b⟩
 ·rw[b,bR _ _ _ _ d] at a;by_cases hid:id=k
  ·subst hid;rw[bQ] at a;cases a
  rw[bR _ _ _ _ hid] at a;exact⟨e',a,.inl rfl⟩
 rw[b] at a;subst a;obtain⟨T,B,D,F,G⟩:=AM A id _ o
 grind
theorem UZ{K:Ctx}(B:Nat->V)(k:Nat){F:List T}(G:Nat.ble K.c6 k=true)(W:s.H k=some (.cells (F.map .t)))
  (X: ∀i,B i=s.t i\/ ∃c,s.t i= .ref k c/\B i= .aK (F.drop c)):s.le K {t:=B,H:=aQ s.H k none,u:=s.u}:=by
 intro q a w h;have f:=eB G;obtain⟨b,p,ty,D,g,Q,v⟩:=(h.heap k _ W).2;have m: ∀L,own K q (aQ s.H k none) L->own K q s.H L:=by
  rintro L (r|⟨id,n,o⟩)
  ·exact .inl r
  by_cases hid:id=k
  ·subst hid;rw[bQ] at n;exact bt rfl n
  rw[bR _ _ _ _ hid] at n;exact .inr ⟨id,n,o⟩
 have y: ¬own K q (aQ s.H k none) b:=by
  rintro(r|⟨id,n,o⟩)
  ·obtain⟨gK,E⟩:=h.ia b r;rcases(h.fresh k b (.inl ⟨_,D⟩)).1 with d|I
   ·exact E d
   omega
  have:=h.inj _ _ _ o (.inl ⟨_,D⟩);subst this;rw[bQ] at n;exact n rfl
 refine⟨q,{h with heap:= ?_,cU:= ?_}⟩
 ·intro id e' l;have l:aQ s.H k none id=some e':=l;by_cases hid:id=k
  ·subst hid;rw[bQ] at l;cases l
  rw[bR _ _ _ _ hid] at l;obtain⟨n,o⟩:=h.heap id e' l;exact⟨n,o.mono (Ext.refl _ _) (λb _=>m b) (de.refl _) (λ_ h=>h) (Shaped.refl _ _) λ_ _=>rfl⟩
 intro j;show bh q w _ (B j) _;rcases X j with M|⟨c,n,o⟩
 ·rw[M];exact(h.cU j).mono (Ext.refl _ _) (λb _=>m b) (de.refl _) (Shaped.refl _ _)
 rw[o];have R:=h.cU j;rw[n] at R;obtain⟨cd,z,N⟩:=sX R;rw[D] at z;cases z;rw[N];have aV:=(h.fresh k b (.inl ⟨_,D⟩)).2;refine .aK _ b c (λi=>p.getD (c+i) undef) aV y (λi P=>?_) λi x r=>?_
 ·have d:c+i<p.size:=by simp at P Q;omega
  simp[World.cell?,g,d]
 have A:F[c+i]? =some x:=by simpa using r
 have d:c+i<p.size:=by have:=(bM.1 A).1;simp at Q;omega
 have U:=v (c+i) (.t x) p[c+i] (by simp[A]) (by simp[d]);have e:p.getD (c+i) undef=p[c+i]:=by simp[d]
 rw[e];cases U with
 |t _ _ Y=>exact Y.mono (Ext.refl _ _) λb _=>m b
def Bw(k:Nat)(b:List T)(s:S):List Nat->Option (List (Nat×V))
 | []=>some []
 |i::is=>match s.t i with
  | .ref c a=>match Nat.beq c k,Bw k b s is with
   |true,some l=>some ((i,.aK (b.drop a))::l)
   |_,_=>none
  |_=>none
theorem O1{k:Nat}{a:List T}{s:S}: ∀{is:List Nat} {l:List (Nat×V)},Bw k a s is=some l-> ∀i v,(i,v)∈l-> ∃b,s.t i= .ref k b/\v= .aK (a.drop b)
 | [],l,h,i,v,hm=>by cases h;cases hm
 |i0::is,l,h,i,v,hm=>by
  unfold Bw at h;split at h
  ·rename_i n b c;split at h
   ·rename_i o d e;cases h;have m:=cH d;subst m;rcases dI.1 hm with hm|hm
    ·cases hm;exact⟨b,c,rfl⟩
    exact O1 e i v hm
   cases h
  cases h
def xa(a:List (List T)):List Nat->List (Nat×V)
 | []=>[]
 |i::is=>(i,.t (.ay a))::xa a is
def rD(k b a n:Nat)(s:S):List Nat->Option (List df)
 | []=>some []
 |i::is=>match s.t i with
  | .a7 e gen c d len=>match Nat.beq e k&&Nat.beq d 0,rD k b a n s is with
   |true,some h=>some (.q gen b:: .q c a:: .q len n::h)
   |_,_=>none
  |_=>none
theorem NR{k L m n:Nat}{s:S}: ∀{is:List Nat} {a:List df},rD k L m n s is=some a->cc a-> ∀i,i∈is->s.t i= .a7 k L m 0 n
 | [],_,_,_,i,h=>by cases h
 |i0::is,a,h,b,i,aD=>by
  unfold rD at h;split at h
  ·rename_i x gen d e len l;split at h
   ·rename_i o c p;cases h;simp only[Bool.and_eq_true] at c;obtain⟨rfl,rfl,rfl,q⟩:=b;have r:=cH c.1;have w:=cH c.2;subst r;subst w;rcases dI.1 aD with rfl|aD
    ·exact l
    exact NR p q i aD
   cases h
  cases h
theorem Ni{a:List (List T)}{j:Nat}{v:V}: ∀{is:List Nat},(j,v)∈xa a is->j∈is/\v= .t (.ay a)
 |i::is,h=>by
  simp only[xa,List.mem_cons] at h;rcases h with h|h
  ·cases h;exact⟨eH,rfl⟩
  obtain⟨b,c⟩:=Ni h;exact⟨eu _ b,c⟩
def Bg{a:Type}:List a->Bool
 | []=>true
 |_::_=>false
theorem F7{a:Type}{l:List a}(h:Bg l=true):l=[]:=by
 cases l with
 |nil=>rfl
 |cons=>cases h
def iy(C:dE)(h:ch)(s:S):Option (Option (cM×List df)):=
 match h with
 | .iG i k=>match s.t i,s.H k with
  | .a7 w gen c D len,some (.arr _ A d a)=>match Nat.beq w k&&(Nat.beq D 0&&Nat.ble C.c6 k) with
   |true=>some (some (⟨[(i,.t (.ay a))],[(k,none)],[]⟩,[.q gen A,.q c d,.q len a.length]))
   |false=>some none
  |_,_=>some none
 | .rO is k=>match s.H k with
  |some (.arr _ A d a)=>match Nat.ble C.c6 k,rD k A d a.length s is with
   |true,some v=>some (some (⟨xa a is,[(k,none)],[]⟩,v))
   |_,_=>some none
  |_=>some none
 | .grow i k e=>match s.t i,s.u k,dm C.b' e with
  | .t .e5,false,some j=>some (some (⟨[(i,.a7 k 1 j.size 0 0)],[(k,some (.arr e 1 j.size []))],[(k,true)]⟩,[]))
  |_,_,_=>some none
 | .len i n=>match s.t i with
  | .a7 k gen c D len=>some (some (⟨[(i,.a7 k gen c D n)],[],[]⟩,[.p (len=n)]))
  |_=>some none
 | .rN k is=>match s.H k with
  |some (.cells E)=>match k3 E,Nat.ble C.c6 k with
   |some cs,true=>match Bw k cs s is with
    |some l=>some (some (⟨l,[(k,none)],[]⟩,[]))
    |none=>some none
   |_,_=>some none
  |_=>some none
 | .bu k is L=>match s.H k with
  |some (.arr _ gen c a)=>match Nat.ble C.c6 k&& !hY k L with
   |true=>some (some (⟨(hS k gen c a.length (.t (.ay a)) s is).1,(k,none)::(gi k gen c a.length (.t (.ay a)) s L).1,[]⟩,(hS k gen c a.length (.t (.ay a)) s is).2++(gi k gen c a.length (.t (.ay a)) s L).2))
   |false=>some none
  |_=>some none
 | .dR k w is L=>match s.H k,s.u w with
  |some (.arr e gen c a),false=>match Nat.ble C.c6 k&&(!Nat.beq k w&&(!hY k L&& !hY w L)) with
   |true=>some (some (⟨(hS k gen c a.length (.a7 w 1 c 0 a.length) s is).1,(k,none)::(w,some (.arr e 1 c a))::(gi k gen c a.length (.a7 w 1 c 0 a.length) s L).1,[(w,true)]⟩,
     (hS k gen c a.length (.a7 w 1 c 0 a.length) s is).2++(gi k gen c a.length (.a7 w 1 c 0 a.length) s L).2))
   |false=>some none
  |some (.a6 r m gen a []),false=>match Nat.ble C.c6 k&&(!Nat.beq k w&&(!hY k L&& !hY w L)) with
   |true=>some (some (⟨(hS k gen (U r m).size a.length (.a7 w 1 (U r m).size 0 a.length) s is).1,(k,none)::(w,some (.a6 r m 1 a []))::(gi k gen (U r m).size a.length (.a7 w 1 (U r m).size 0 a.length) s L).1,[(w,true)]⟩,
     (hS k gen (U r m).size a.length (.a7 w 1 (U r m).size 0 a.length) s is).2++(gi k gen (U r m).size a.length (.a7 w 1 (U r m).size 0 a.length) s L).2))
   |false=>some none
  |_,_=>some none
 | .ff b j n=>match s.H b with
  |some (.cells cs)=>match cs[j]? with
   |some (.a7 k gen c D len)=>some (some (⟨[],[(b,some (.cells (cs.set j (.a7 k gen c D n))))],[]⟩,[.p (len=n)]))
   |_=>some none
  |_=>some none
 | .dA i k w=>match s.t i,s.H k,s.u w with
  | .a7 jJ gen c D len,some (.arr e A d a),false=>match Nat.beq jJ k&&(Nat.ble C.c6 k&& !Nat.beq k w) with
   |true=>some (some (⟨[(i,.a7 w 1 c D len)],[(k,none),(w,some (.arr e 1 d a))],[(w,true)]⟩,[.q gen A,.q c d]))
   |false=>some none
  |_,_,_=>some none
 | .Bx b j k=>match s.H b,s.H k with
  |some (.cells cs),some (.arr _ A d a)=>match cs[j]?,Nat.ble C.c6 k with
   |some (.a7 w gen c D len),true=>match Nat.beq w k&&Nat.beq D 0 with
    |true=>some (some (⟨[],[(k,none),(b,some (.cells (cs.set j (.t (.ay a)))))],[]⟩,[.q gen A,.q c d,.q len a.length]))
    |false=>some none
   |_,_=>some none
  |some (.a6 r m I W ((M,N,.a7 w gen c D len)::G)),some (.arr _ A d a)=>match Nat.beq w k&&(Nat.beq D 0&&(Nat.ble C.c6 k&& !Nat.beq b k)) with
   |true=>some (some (⟨[],[(k,none),(b,some (.a6 r m I W ((M,N,.t (.ay a))::G)))],[]⟩,[.q gen A,.q c d,.q len a.length]))
   |false=>some none
  |_,_=>some none
 | .eU b j k e=>match s.H b,s.u k,dm C.b' e with
  |some (.cells cs),false,some i=>match cs[j]? with
   |some (.t .e5)=>some (some (⟨[],[(k,some (.arr e 1 i.size [])),(b,some (.cells (cs.set j (.a7 k 1 i.size 0 0))))],[(k,true)]⟩,[]))
   |_=>some none
  |_,_,_=>some none
 | .o2 k=>match s.H k with
  |some (.cells cs)=>some (some (⟨[],[(k,some (.cells (gu cs)))],[]⟩,[]))
  |_=>some none
 | .ee k r m=>match s.H k with
  |some (.arr ty gen c a)=>match Bg (U r m).bj||Bg a with
   |true=>some (some (⟨[],[(k,some (.a6 r m gen a []))],[]⟩,[.q (U r m).ty ty,.q (U r m).size c]))
   |false=>some none
  |some (.a6 Q f gen a G)=>match Nat.ble C.c6 k&&Bg (U r m).bj with
   |true=>some (some (⟨[],[(k,some (.a6 r m gen a G))],[]⟩,[.q (U r m).ty (U Q f).ty,.q (U r m).size (U Q f).size]))
   |false=>some none
  |_=>some none
 | .ed k=>match s.H k with
  |some (.a6 r m gen a [])=>match Nat.ble C.c6 k with
   |true=>some (some (⟨[],[(k,some (.arr (U r m).ty gen (U r m).size a))],[]⟩,[]))
   |false=>some none
  |_=>some none
 | .eb k w i j B=>match s.H k,s.u w with
  |some (.a6 r m gen a G),false=>match (U r m).ej j,B[j]? with
   |some X,some (.ay F)=>some (some (⟨[],[(k,some (.a6 r m gen a ((i,j,.a7 w 1 (U r X).size 0 F.length)::G))),(w,some (.a6 r X 1 F []))],[(w,true)]⟩,.p (a[i]? =some B)::rF i j G))
   |_,_=>some none
  |_,_=>some none
 | .PZ k i j B=>match s.H k with
  |some (.a6 r m gen a G)=>match (U r m).ej j,B[j]?,qP j G with
   |none,some x,true=>some (some (⟨[],[(k,some (.a6 r m gen a ((i,j,.t x)::G)))],[]⟩,[.p (a[i]? =some B)]))
   |_,_,_=>some none
  |_=>some none
 | .Dg k B R=>match s.H k with
  |some (.a6 r m gen a ((i,j,.t x)::G))=>match (U r m).ej j,Nat.blt j (U r m).size&&qP j G with
   |none,true=>some (some (⟨[],[(k,some (.a6 r m gen R G))],[]⟩,[.p (a[i]? =some B),.p (a.set i (B.set j x)=R)]))
   |some _,true=>match x with
    | .e5=>some (some (⟨[],[(k,some (.a6 r m gen R G))],[]⟩,[.p (a[i]? =some B),.p (a.set i (B.set j (.ay []))=R)]))
    |_=>some none
   |_,_=>some none
  |_=>some none
 | .P0 i j k e=>match s.t i,s.u k,dm C.b' e with
  | .agg cs,false,some y=>match cs[j]? with
   |some (.t .e5)=>some (some (⟨[(i,.agg (cs.set j (.a7 k 1 y.size 0 0)))],[(k,some (.arr e 1 y.size []))],[(k,true)]⟩,[]))
   |_=>some none
  |_,_,_=>some none
 | .dD k w B R=>match s.H k,s.H w with
  |some (.a6 r m gen a ((i,j,.a7 cv g z o n)::G)),some (.a6 Q X P F [])=>match (U r m).ej j,Nat.beq cv w&&(!Nat.beq k w&&(Nat.ble C.c6 w&&(Nat.beq o 0&&Nat.blt j (U r m).size))) with
   |some T,true=>some (some (⟨[],[(w,none),(k,some (.a6 r m gen R G))],[]⟩,.q g P:: .q z (U r X).size:: .p (n=F.length):: .q T X:: .p (Q=r):: .p (a[i]? =some B):: .p (a.set i (B.set j (.ay F))=R)::rF i j G))
   |_,_=>some none
  |_,_=>some none
 | .cut k n R=>match s.H k with
  |some (.arr e gen c a)=>some (some (⟨[],[(k,some (.arr e gen c R))],[]⟩,[.p (R=a.take n)]))
  |_=>some none
 |_=>none
def pJ(C:dE)(a:Nat):List ch->S->Option (cM×List df×List ch)
 | [],_=>some (.nil,[],[])
 | .at m::b,s=>match Nat.beq m a with
  |true=>pJ C a b s
  |false=>some (.nil,[],.at m::b)
 |h::b,s=>match iy C h s with
  |none=>some (.nil,[],h::b)
  |some none=>none
  |some (some (e,i))=>match pJ C a b (e.app s) with
   |some (k,c,d)=>some (e.cat k,i++c,d)
   |none=>none
section
variable {K:Ctx}{C:dE}
theorem abp{K:Ctx}(k n:Nat){c:List (List T)}(q:s.H k=some (.arr e gen m c)):s.le K {s with H:=aQ s.H k (some (.arr e gen m (c.take n)))}:=by
 intro r a w h;refine⟨r,h.Jp k q λX d=>⟨d.1,?_⟩⟩;rcases d.2 with ⟨o,p⟩|⟨b,y,o,p,z,A,D⟩
 ·exact .inl ⟨o,by rw[p];simp⟩
 refine .inr ⟨b,y,o,p,fF (dt _ (List.length_take_le' _ _)) z,λl B=>A l (fU B),λi j l x u aH a2 a3=>?_⟩
 grind
theorem Az(q:C.Fits K){h:ch}{e:cM}{R:List df}(b:iy C h s=some (some (e,R)))(i:cc R):s.le K (e.app s):=by
 unfold iy at b;split at b
 ·split at b
  ·rename_i x m;split at b
   ·rename_i d;cases b;simp only[Bool.and_eq_true] at d;obtain⟨rfl,rfl,rfl,_⟩:=i;have y:=cH d.1;have D:=cH d.2.1;subst y;subst D;exact WZ _ _ _ _ (by rw[<-q.c6];exact d.2.2) x m
   cases b
  cases b
 ·split at b
  ·rename_i m;split at b
   ·rename_i d W;cases b;refine KK _ _ _ _ (by rw[<-q.c6];exact d) (λj=>?_) m;rcases f7 (xa _ _) s.t j with ⟨_,n⟩|⟨v,r,n⟩
    ·exact .inl n
    obtain⟨f,rfl⟩:=Ni r;exact .inr ⟨n,NR W i j f⟩
   cases b
  cases b
 ·split at b
  ·rename_i x o p;cases b;exact abq _ _ _ o x
  cases b
 ·split at b
  ·rename_i x;cases b;obtain⟨rfl,_⟩:=i;intro F a w G;refine⟨F,?_⟩;unfold cM.app;simp only[d4];rw[<-x,M2];exact G
  cases b
 ·split at b
  ·rename_i U m;split at b
   ·rename_i cs Q d;split at b
    ·rename_i l g;cases b;have z:=m;rw[nV Q] at z;refine UZ _ _ (by rw[<-q.c6];exact d) z λj=>?_;rcases f7 l s.t j with ⟨_,n⟩|⟨v,r,n⟩
     ·exact .inl n
     obtain⟨u,Y,c2⟩:=O1 g j v r
     grind
    cases b
   cases b
  cases b
 ·split at b
  ·rename_i m;split at b
   ·rename_i d;cases b;simp only[Bool.and_eq_true] at d;obtain⟨H,L⟩:=cc.app i;exact aec (by rw[<-q.c6];exact d.1) m (wg d.2) H L
   cases b
  cases b
 ·split at b
  ·rename_i m o;split at b
   ·rename_i d;cases b;simp only[Bool.and_eq_true] at d;obtain⟨H,L⟩:=cc.app i;exact Pc (by rw[<-q.c6];exact d.1) (N6 d.2.1) m rfl o (wg d.2.2.1) (wg d.2.2.2) H L
   cases b
  ·rename_i m o;split at b
   ·rename_i d;cases b;simp only[Bool.and_eq_true] at d;obtain⟨H,L⟩:=cc.app i;exact Pc (by rw[<-q.c6];exact d.1) (N6 d.2.1) m rfl o (wg d.2.2.1) (wg d.2.2.2) H L
   cases b
  cases b
 ·split at b
  ·rename_i d;split at b
   ·rename_i p;cases b;obtain⟨rfl,_⟩:=i;intro F a w G;refine⟨F,?_⟩;have D:=bM.1 p;have E: ∀{cs:List V} {j:Nat} {c:V},cs[j]? =some c->cs.set j c=cs:=by
     intro cs j c h;obtain⟨r,n⟩:=bM.1 h;rw[<-n,List.set_getElem_self]
    unfold cM.app;simp only[d4];rw[E p,<-d,M2];exact G
   cases b
  cases b
 ·split at b
  ·rename_i x m o;split at b
   ·rename_i d;cases b;simp only[Bool.and_eq_true,Bool.not_eq_true'] at d;obtain⟨rfl,rfl,_⟩:=i;have y:=cH d.1;subst y;exact XG _ _ _ _ _ _ _ (by rw[<-q.c6];exact d.2.1) (Nat.ne_of_beq_eq_false d.2.2) x m o
   cases b
  cases b
 ·split at b
  ·rename_i d m;split at b
   ·rename_i p I;split at b
    ·rename_i A;cases b;simp only[Bool.and_eq_true] at A;obtain⟨rfl,rfl,rfl,_⟩:=i;have y:=cH A.1;have D:=cH A.2;subst y;subst D;exact U4 _ _ _ _ _ (by rw[<-q.c6];exact I) d p m
    cases b
   cases b
  ·rename_i d m;split at b
   ·rename_i A;cases b;simp only[Bool.and_eq_true,Bool.not_eq_true'] at A;obtain⟨rfl,rfl,rfl,_⟩:=i;have y:=cH A.1;have D:=cH A.2.1;subst y;subst D;exact U2 _ _ _ _ _ _ (by rw[<-q.c6];exact A.2.2.1) (Nat.ne_of_beq_eq_false A.2.2.2) d m
   cases b
  cases b
 ·split at b
  ·rename_i d o x;split at b
   ·rename_i p;cases b;exact ZH _ _ _ _ o d p
   cases b
  cases b
 ·split at b
  ·rename_i k cs m;cases b;intro F a w G;exact⟨F,G.Jp _ m λX h=>(show iU (.cells _) (.cells _) from lx cs).va h⟩
  cases b
 ·split at b
  ·rename_i m;split at b
   ·rename_i d;cases b;obtain⟨r,n,_⟩:=i;refine ZD _ _ _ m r n ?_;rcases Bool.or_eq_true_iff.1 d with h|h
    ·exact .inr (F7 h)
    exact .inl (F7 h)
   cases b
  ·rename_i m;split at b
   ·rename_i d;cases b;obtain⟨r,n,_⟩:=i;simp only[Bool.and_eq_true] at d;exact ZF _ _ _ m (by rw[<-q.c6];exact d.1) r n (F7 d.2)
   cases b
  cases b
 ·split at b
  ·rename_i m;split at b
   ·rename_i d;cases b;exact ZE _ m (by rw[<-q.c6];exact d)
   cases b
  cases b
 ·split at b
  ·rename_i m o;split at b
   ·rename_i B p;cases b;exact XH _ _ _ _ _ m o i.1 p B (wy i.2)
   cases b
  cases b
 ·split at b
  ·rename_i m;split at b
   ·rename_i B p M;cases b;exact ZG _ _ _ m i.1 p B M
   cases b
  cases b
 ·split at b
  ·rename_i m;split at b
   ·rename_i B d;cases b;simp only[Bool.and_eq_true] at d;obtain⟨r,rfl,_⟩:=i;exact WX _ _ _ m r d.1 B d.2
   ·rename_i B d;split at b
    ·cases b;simp only[Bool.and_eq_true] at d;obtain⟨r,rfl,_⟩:=i;exact XE _ _ _ _ m r d.1 B d.2
    cases b
   cases b
  cases b
 ·split at b
  ·rename_i x o hy;split at b
   ·rename_i p;cases b;exact ZI _ _ _ _ o x p
   cases b
  cases b
 ·split at b
  ·rename_i m z;split at b
   ·rename_i B d;cases b;simp only[Bool.and_eq_true,Bool.not_eq_true'] at d;obtain⟨rfl,n,N,rfl,rfl,P,rfl,T⟩:=i;have y:=cH d.1;have D:=cH d.2.2.2.1;subst y;subst D;exact UY _ _ _ _ _ _ _ _ m z n N (Nat.ne_of_beq_eq_false d.2.1) (by rw[<-q.c6];exact d.2.2.1) P B d.2.2.2.2 (wy T)
   cases b
  cases b
 ·split at b
  ·rename_i m;cases b;obtain⟨rfl,_⟩:=i;exact abp _ _ m
  cases b
 cases b
theorem qw(k:C.Fits K){n:Nat}: ∀{l:List ch} {s:S} {e:cM} {i:List df} {b:List ch},pJ C n l s=some (e,i,b)->cc i->s.le K (e.app s)
 | [],s,e,i,b,h,_=>by cases h;exact S.le.refl _ _
 |h::l,s,e,i,b,a,d=>by
  unfold pJ at a;split at a
  ·cases a;exact S.le.refl _ _
  ·split at a
   ·rename_i c _ _;cases c;exact qw k a d
   cases a;exact S.le.refl _ _
  rename_i c;cases c;split at a
  ·cases a;exact S.le.refl _ _
  ·cases a
  rename_i y m o;split at a
  ·rename_i z p q r;cases a;obtain⟨w,x⟩:=cc.app d;rw[mM];exact(Az k o w).trans (qw k r x)
  cases a
def ic(C:dE)(a:Array Oper):List Oper->List ch->S->Option (cM×List df)
 | [],b,s=>match pJ C 0 b s with
  |some (e,p,[])=>some (e,p)
  |_=>none
 |o::l,b,s=>match pJ C (l.length+1) b s with
  |none=>none
  |some (c,d,h)=>match rL C a o h (c.app s) with
   |none=>none
   |some (n,i,k)=>match ic C a l k (n.app (c.app s)) with
    |none=>none
    |some (q,m)=>some (c.cat (n.cat q),d++(i++m))
theorem OV(c:C.Fits K){b:Array Oper}{Q:S->Prop}: ∀{l:List Oper} {k:List ch} {s:S} {e:cM} {d:List df},ic C b l k s=some (e,d)->cc d->pR K b [] (e.app s) Q->pR K b l s Q
 | [],k,s,e,d,h,a,i=>by
  simp only[ic] at h;split at h
  ·rename_i G n p;cases h;exact KS (qw c p a) i
  cases h
 |o::l,k,s,e,d,h,a,i=>by
  simp only[ic] at h;split at h
  ·cases h
  rename_i H q r w;split at h
  ·cases h
  rename_i L x y z;split at h
  ·cases h
  rename_i R A B;cases h;obtain⟨D,m⟩:=cc.app a;obtain⟨m,F⟩:=cc.app m;rw[mM,mM] at i;exact KS (qw c w D) (ade (OW c z m) (OV c B F i))
abbrev q3:=Prop×List Nat×List (Nat×Bool)×Bool×List V×List (Option E)
def t':q3:=(False,[],[],false,[],[])
def ua:q3:=(True,[],[],true,[],[])
def ub(s:S)(b:List Nat)(c:List (Nat×V))(a:List (Nat×Option E))(r:cM×List df):q3:=
 (x' r.2,u1 r.2,r.1.us,sW b r.1.e7&&sW (w9 a) r.1.hs,tH (r.1.app s) c,tK (r.1.app s) a)
def uc(a:Prop)(b:List (Nat×V))(c:List (Nat×Option E))(d:List (Nat×Bool))(r:cM×List df):q3:=
 (a,u2 r.2,d,true,jY b,jY c)
def lN(x:Option (cM×List df))(n:q3)(f:cM×List df->q3):q3:=match x with
 |some r=>f r
 |none=>n
theorem Pp{x:Option (cM×List df)}{L:List Nat}{a:List (Nat×V)}{P:Prop}(i:P)
  (h:lN x t' (ub s L a b)=lN x ua (uc P a b d)): ∃e c,x=some (e,c)/\cc c/\(e.app s).le K (s.cl L a b d):=by
 cases x with
 |none=>simp[lN,t',ua] at h
 |some r=>
  obtain⟨e,c⟩:=r;simp only[lN,ub,uc,Prod.mk.injEq,Bool.and_eq_true] at h;obtain⟨k,l,m,⟨n,o⟩,p,q⟩:=h;exact⟨e,c,rfl,cc.of (k▸i) l,aei m n o p q⟩
def tmps:List Operand->List Nat
 | []=>[]
 | .tmp t::a=>t::tmps a
 |_::a=>tmps a
def Pk(a:Array Oper)(o:Oper):List Nat:=match o.guard with
 |none=>[]
 |some (j,_)=>match (a[j]?).bind (·.dst) with
  |some t=>[t]
  |none=>[]
def A8(o:Oper)(a:List ch):List ch:=match o.guard with
 |none=>a
 |some _=>a.tail
def A2(a:Array Oper)(o:Oper)(b:List ch)(s:S):gk:=⟨Pk a o++tmps o.op.operands.toList,uE o (o.op.operands.toList.map s.get) (A8 o b)⟩
theorem FI{s a:S}: ∀{b:List Operand},(∀i,i∈tmps b->s.t i=a.t i)->b.map s.get=b.map a.get
 | [],_=>rfl
 | .tmp t::b,h=>by
  simp only[List.map_cons,List.cons.injEq];exact⟨h t eH,FI λi c=>h i (eu _ c)⟩
 | .const _::b,h| .global _::b,h| .func _::b,h=>by simp only[List.map_cons,List.cons.injEq];exact⟨rfl,FI h⟩
theorem Xo{H a:Nat->Option E}(h: ∀k,k∈r->H k=a k):tE r H=tE r a:=by
 funext k;unfold tE;cases b:hY k r with
 |true=>exact h k (zT b)
 |false=>rfl
theorem Xm{u a:Nat->Bool}(h: ∀k,k∈r->u k=a k):tD r u=tD r a:=by
 funext k;unfold tD;cases b:hY k r with
 |true=>exact h k (zT b)
 |false=>rfl
theorem aaD{Y:List V}{hs:List ch}(h: ∀k,k∈uE o Y hs->s.H k=a.H k/\s.u k=a.u k):p1 C o Y s hs=p1 C o Y a hs:=by unfold p1;rw[Xo λk b=>(h k b).1,Xm λk b=>(h k b).2]
theorem aay{b:Array Oper}{l:List ch}(h:(A2 b o l s).same a s):rL C b o l a=rL C b o l s:=by
 obtain⟨n,w⟩:=h;have y:o.op.operands.toList.map a.get=o.op.operands.toList.map s.get:=FI λi z=>n i (ef.2 (.inr z));have q: ∀c,(∀k,k∈uE o (o.op.operands.toList.map s.get) c->k∈uE o (o.op.operands.toList.map s.get) (A8 o l))->p1 C o (o.op.operands.toList.map s.get) a c=p1 C o (o.op.operands.toList.map s.get) s c:=λc A=>
  aaD λk d=>w k (A k d)
 unfold rL;rw[y];cases e:o.guard with
 |none=>exact q l (λk d=>by simp only[A8,e];exact d)
 |some p=>
  obtain⟨j,r⟩:=p;have m:ug b j a=ug b j s:=by
   unfold ug;cases B:(b[j]?).bind (·.dst) with
   |none=>rfl
   |some t=>
    have:=n t (ef.2 (.inl (by unfold Pk;rw[e];simp only[B];exact kU.2 rfl)));simp only[this]
  simp only[m];cases l with
  |nil=>rfl
  |cons x l=>
   have:=q l λk d=>by simp only[A8,e,List.tail];exact d
   cases x<;>first|rfl|(dsimp only;rw[this])
def nB(C:dE)(a:Nat):List ch->S->Option (cM×List df×List ch×gk)
 | .at m::hs,s=>match Nat.beq m a with
  |true=>nB C a hs s
  |false=>some (.nil,[],.at m::hs,⟨[],[]⟩)
 | .rO is k::hs,s=>match iy C (.rO is k) s with
  |some (some (e,d))=>match nB C a hs (e.app s) with
   |some (h,b,c,dH)=>some (e.cat h,d++b,c,⟨is++dH.e7,k::dH.nR⟩)
   |none=>none
  |_=>none
 | .bu k is i::hs,s=>match iy C (.bu k is i) s with
  |some (some (e,d))=>match nB C a hs (e.app s) with
   |some (h,b,c,dH)=>some (e.cat h,d++b,c,⟨is++dH.e7,k::(i++dH.nR)⟩)
   |none=>none
  |_=>none
 | .ed k::hs,s=>match iy C (.ed k) s with
  |some (some (e,d))=>match nB C a hs (e.app s) with
   |some (h,b,c,dH)=>some (e.cat h,d++b,c,⟨dH.e7,k::dH.nR⟩)
   |none=>none
  |_=>none
 |hs,_=>some (.nil,[],hs,⟨[],[]⟩)
theorem Xl{C:dE}(b:a.H k=s.H k):iy C (.ed k) a=iy C (.ed k) s:=by
 unfold iy
 grind
theorem Mv{k g z n:Nat}{s a:S}: ∀{is:List Nat},(∀i,i∈is->a.t i=s.t i)->rD k g z n a is=rD k g z n s is
 | [],_=>rfl
 |i::is,h=>by unfold rD;rw[h i eH,Mv λx b=>h x (eu _ b)]
theorem YZ(b: ∀i,i∈r->a.t i=s.t i)(c:a.H k=s.H k):iy C (.rO r k) a=iy C (.rO r k) s:=by
 unfold iy;dsimp only;rw[c];split
 ·rw[Mv b]
 rfl
theorem MS{k g z n:Nat}{v:V}{s a:S}: ∀{is:List Nat},(∀i,i∈is->a.t i=s.t i)->hS k g z n v a is=hS k g z n v s is
 | [],_=>rfl
 |i::is,h=>by simp only[hS,h i List.mem_cons_self,MS λx b=>h x (List.mem_cons_of_mem _ b)]
theorem MT{k g z n:Nat}{v:V}{s a:S}: ∀{c:List Nat},(∀b,b∈c->a.H b=s.H b)->gi k g z n v a c=gi k g z n v s c
 | [],_=>rfl
 |b::c,h=>by unfold gi;rw[h b eH,MT λx d=>h x (eu _ d)]
theorem Xk{L:List Nat}(c: ∀i,i∈r->a.t i=s.t i)(d:a.H k=s.H k)(e: ∀b,b∈L->a.H b=s.H b):iy C (.bu k r L) a=iy C (.bu k r L) s:=by
 unfold iy;dsimp only;rw[d];split
 ·rw[MS c,MT e]
 rfl
theorem F9{a:Type}{f g:Nat->a}{r:Nat}(h:f r=g r): ∀(l:List (Nat×a)),d4 f l r=d4 g l r:=by
 intro l;induction l generalizing f g with
 |nil=>exact h
 |cons p l c=>
  obtain⟨d,v⟩:=p;simp only[d4];apply c;by_cases b:r=d
  ·subst b;rw[bQ,bQ]
  rw[bR _ _ _ _ b,bR _ _ _ _ b];exact h
theorem Cy{r:gk}(e:cM)(h:r.same a s):r.same (e.app a) (e.app s):=
 ⟨λi c=>F9 (h.1 i c) _,λk b=>⟨F9 (h.2 k b).1 _,F9 (h.2 k b).2 _⟩⟩
theorem wu(w:C.Fits K){n:Nat}: ∀{z:List ch} {s:S} {e:cM} {d:List df} {a:List ch} {dH:gk},nB C n z s=some (e,d,a,dH)->cc d-> ∀c,dH.same c s->c.le K (e.app c)
 | .at m::z,s,e,d,a,dH,h,o,c,l=>by
  unfold nB at h;split at h
  ·exact wu w h o c l
  cases h;exact S.le.refl _ _
 | .rO is k::z,s,e,d,a,dH,h,o,c,l=>by
  unfold nB at h;split at h
  ·rename_i p r A;split at h
   ·rename_i R B D F G;cases h;obtain⟨H,L⟩:=cc.app o;have q:iy C (.rO is k) c=some (some (p,r)):=(YZ (λi x=>l.1 i (lD _ x)) (l.2 k eH).1).trans A;rw[mM];exact(Az w q H).trans (wu w G L (p.app c) (Cy p ⟨λi x=>l.1 i (oa _ x),λk Q=>l.2 k (eu _ Q)⟩))
   cases h
  cases h
 | .bu k is W::z,s,e,d,a,dH,h,o,c,l=>by
  unfold nB at h;split at h
  ·rename_i p r A;split at h
   ·rename_i R B D F G;cases h;obtain⟨H,L⟩:=cc.app o;have q:iy C (.bu k is W) c=some (some (p,r)):=(Xk (λi x=>l.1 i (lD _ x)) (l.2 k eH).1 λb X=>(l.2 b (eu _ (lD _ X))).1).trans A;rw[mM];exact(Az w q H).trans (wu w G L (p.app c) (Cy p ⟨λi x=>l.1 i (oa _ x),λk Q=>l.2 k (eu _ (oa _ Q))⟩))
   cases h
  cases h
 | .ed k::z,s,e,d,a,dH,h,o,c,l=>by
  unfold nB at h;split at h
  ·rename_i p r A;split at h
   ·rename_i R B D F G;cases h;obtain⟨H,L⟩:=cc.app o;have q:iy C (.ed k) c=some (some (p,r)):=(Xl (l.2 k eH).1).trans A;rw[mM];exact(Az w q H).trans (wu w G L (p.app c) (Cy p ⟨l.1,λk Q=>l.2 k (eu _ Q)⟩))
   cases h
  cases h
 | [],s,e,d,a,dH,h,_,c,_=>by cases h;exact S.le.refl _ _
 | .ee _ _ _::_,s,e,d,a,dH,h,_,c,_| .eb _ _ _ _ _::_,s,e,d,a,dH,h,_,c,_| .dD _ _ _ _::_,s,e,d,a,dH,h,_,c,_| .lt _ _ _::_,s,e,d,a,dH,h,_,c,_| .PZ _ _ _ _::_,s,e,d,a,dH,h,_,c,_| .Dg _ _ _::_,s,e,d,a,dH,h,_,c,_| .P0 _ _ _ _::_,s,e,d,a,dH,h,_,c,_| .cut _ _ _::_,s,e,d,a,dH,h,_,c,_
 | .row _::_,s,e,d,a,dH,h,_,c,_| .rows _::_,s,e,d,a,dH,h,_,c,_| .str _::_,s,e,d,a,dH,h,_,c,_| .int _::_,s,e,d,a,dH,h,_,c,_| .nat _::_,s,e,d,a,dH,h,_,c,_
 | .b _::_,s,e,d,a,dH,h,_,c,_| .y _::_,s,e,d,a,dH,h,_,c,_| .v _::_,s,e,d,a,dH,h,_,c,_| .iG _ _::_,s,e,d,a,dH,h,_,c,_| .grow _ _ _::_,s,e,d,a,dH,h,_,c,_
 | .o2 _::_,s,e,d,a,dH,h,_,c,_| .Bx _ _ _::_,s,e,d,a,dH,h,_,c,_| .eU _ _ _ _::_,s,e,d,a,dH,h,_,c,_| .ahH _ _ _::_,s,e,d,a,dH,h,_,c,_| .ahG _ _ _ _::_,s,e,d,a,dH,h,_,c,_
 | .len _ _::_,s,e,d,a,dH,h,_,c,_| .ff _ _ _::_,s,e,d,a,dH,h,_,c,_| .rN _ _::_,s,e,d,a,dH,h,_,c,_| .dR _ _ _ _::_,s,e,d,a,dH,h,_,c,_| .dA _ _ _::_,s,e,d,a,dH,h,_,c,_| .dy _ _ _ _::_,s,e,d,a,dH,h,_,c,_=>by cases h;exact S.le.refl _ _
theorem hD.pre{ops:Array Oper}{b c:S}(i:s.le K b)(h:hD K ops o b c):hD K ops o s c:=by
 intro k a w next Q l m
 obtain⟨d,e⟩:=i k a w l;exact h d a w next Q e m
def xj(C:dE)(a:Array Oper):List Oper->List ch->S->Option (List (cM×gk)×List df)
 | [],d,_=>match d with
  | []=>some ([],[])
  |_=>none
 |o::l,d,s=>match nB C (l.length+1) d s with
  |none=>none
  |some (c,h,b,dH)=>match rL C a o b (c.app s) with
   |none=>none
   |some (e,m,i)=>match xj C a l i (e.app (c.app s)) with
    |none=>none
    |some (n,k)=>some ((c.cat e,⟨dH.e7++(A2 a o b (c.app s)).e7,dH.nR++(A2 a o b (c.app s)).nR⟩)::n,h++(m++k))
def Bq:List (cM×gk)->cM
 | []=> .nil
 |(e,_)::a=>e.cat (Bq a)
theorem GI(p:C.Fits K){b:Array Oper}{Q:S->Prop}: ∀{l:List Oper} {q:List ch} {s:S} {c:List (cM×gk)} {d:List df},xj C b l q s=some (c,d)->cc d->Q ((Bq c).app s)->vV K b l c s Q
 | [],q,s,c,d,h,_,m=>by
  simp only[xj] at h;split at h
  ·cases h;exact m
  cases h
 |o::l,q,s,c,d,h,r,m=>by
  simp only[xj] at h;split at h
  ·cases h
  rename_i n D w dH F;split at h
  ·cases h
  rename_i e G H L;split at h
  ·cases h
  rename_i R W X;cases h;obtain⟨f,x⟩:=cc.app r;obtain⟨x,g⟩:=cc.app x;simp only[Bq,mM] at m;refine⟨λB a=>?_,by rw[mM];exact GI p X g m⟩;rw[mM];refine hD.pre (wu p F f B ⟨λi y=>a.1 i (lD _ y),λk z=>a.2 k (lD _ z)⟩) ?_;have A:(A2 b o w (n.app s)).same (n.app B) (n.app s):=Cy n ⟨λi y=>a.1 i (oa _ y),λk z=>a.2 k (oa _ z)⟩;exact OW p ((aay A).trans L) x
def k6(C:dE)(l:List Oper)(e:List ch)(s:S):Option (cM×List df):=
 match pJ C l.length e s with
 |none=>none
 |some (c,a,b)=>match xj C l.toArray l b (c.app s) with
  |none=>none
  |some (d,h)=>match mb l.toArray l.length 0 d&&sY 0 l with
   |true=>some (c.cat (Bq d),a++h)
   |false=>none
theorem Oz{c:Code}{s2:S}(h:cz K c s λe i=>match e with| .normal=>i.le K s2|_=>False)(m:Q .normal s2):cz K c s Q:=by
 intro n a w o p x;refine h n a w o p ?_;intro e i b k l q r;cases e with
 |normal=>obtain⟨d,y⟩:=q b k l r;exact x _ _ d k l m y
 |exit=>exact q.elim
 |goto=>exact q.elim
 |ret=>exact q.elim
 |panic=>exact q.elim
 |outgrown=>exact q.elim
theorem rd{l:List Oper}(o:C.Fits K)(w:K.P.follows .mixedOrders=true)(q:List ch)(d:List Nat)(b:List (Nat×V))(c:List (Nat×Option E))(i:List (Nat×Bool)){p:Prop}(k:p)
  (h:lN (k6 C l q s) t' (ub s d b c)=lN (k6 C l q s) ua (uc p b c i)) (x:Q .normal (s.cl d b c i)):cz K (.region n l.toArray true) s Q:=by
 obtain⟨e,R,a,y,r⟩:=Pp (K:=K) k h;unfold k6 at a;split at a
 ·cases a
 rename_i W z A B;split at a
 ·cases a
 rename_i D F G;split at a
 ·rename_i m;cases a;simp only[Bool.and_eq_true] at m;obtain⟨H,L⟩:=cc.app y;refine u3 (qw o B H) (Oz (s2:=s.cl d b c i) (M0 D w m.1 m.2 (GI o G L ?_)) x);rw[mM] at r;exact r
 cases a
def nm:List (Nat×E)->List (Nat×Option E)
 | []=>[]
 |(k,e)::l=>(k,some e)::nm l
def oD:List Nat->List (Nat×Bool)
 | []=>[]
 |k::l=>(k,true)::oD l
def bb(a:List (Nat×V))(b:List (Nat×E))(c:List Nat):S:={t:=d4 o8 a,H:=d4 og (nm b),u:=d4 gf (oD c)}
def Bo(u:Nat->Bool):List (Nat×V)->Bool
 | []=>true
 |(_,v)::l=>v.ok u&&Bo u l
def Bm(u:Nat->Bool):List (Nat×E)->Bool
 | []=>true
 |(k,e)::l=>u k&&(e.ok u&&Bm u l)
def Be(u:Nat->Bool):List Nat->Bool
 | []=>true
 |k::l=>u k&&Be u l
theorem NK{u:Nat->Bool}: ∀{l:List (Nat×V)},Bo u l=true-> ∀i v,(i,v)∈l->v.ok u=true
 |(a,b)::l,h,i,v,hm=>by
  simp only[Bo,Bool.and_eq_true] at h;rcases dI.1 hm with hm|hm
  ·cases hm;exact h.1
  exact NK h.2 i v hm
theorem NO{u:Nat->Bool}: ∀{l:List (Nat×E)},Bm u l=true-> ∀k e,(k,some e)∈nm l->u k=true/\e.ok u=true
 |(a,b)::l,h,i,v,hm=>by
  simp only[Bm,Bool.and_eq_true] at h;simp only[nm] at hm;rcases dI.1 hm with hm|hm
  ·cases hm;exact⟨h.1,h.2.1⟩
  exact NO h.2.2 i v hm
theorem NJ{u:Nat->Bool}: ∀{l:List Nat},Be u l=true-> ∀k b,(k,b)∈oD l->u k=true
 |jJ::l,h,k,b,hm=>by
  simp only[Be,Bool.and_eq_true] at h;simp only[oD] at hm;rcases dI.1 hm with hm|hm
  ·cases hm;exact h.1
  exact NJ h.2 k b hm
def Bi(d:Nat)(s:S)(b:List (Nat×V))(c:List (Nat×E))(a:List Nat):List V×List (Option E)×Bool:=
 (tH s b,tK s (nm c),Bo (d4 gf (oD a)) b&&(Bm (d4 gf (oD a)) c&&(Be s.u a&&ma d (d4 gf (oD a)))))
theorem QS{a:List (Nat×V)}{b:List (Nat×E)}(h:Bi K.c6 s a b r=(jY a,jY (nm b),true)):s.le K (bb a b r):=by
 simp only[Bi,Prod.mk.injEq,Bool.and_eq_true] at h;obtain⟨l,m,n,o,p,q⟩:=h;refine acJ (s':=bb a b r) ?_ ?_ ?_ q
 ·intro i;show d4 o8 a i= .cX\/(dq _ (d4 o8 a i)/\(d4 o8 a i).ok _=true)
  rcases f7 a o8 i with ⟨aH,a2⟩|⟨v,aH,a2⟩
  ·exact .inl a2
  rw[a2];exact .inr ⟨FH l i v aH,NK n i v aH⟩
 ·intro k e c;have c:d4 og (nm b) k=some e:=c;rcases f7 (nm b) og k with ⟨aH,a2⟩|⟨v,aH,a2⟩
  ·rw[a2] at c;cases c
  rw[a2] at c;subst c;obtain⟨w,x⟩:=NO o k e aH;exact⟨FY m k e aH,w,x⟩
 intro k d;have d:d4 gf (oD r) k=true:=d;rcases f7 (oD r) gf k with ⟨aH,a2⟩|⟨v,aH,a2⟩
 ·rw[a2] at d;cases d
 exact NJ p k v aH
theorem aa8{ι:Type}{x y:Code}(I:ι->S)(p:ι->Prop)(a:cz K x s (pV (λb=> ∃i,p i/\b.le K (I i)) Q))(c: ∀i,p i->cz K y (I i) Q):cz K (.seq x y) s Q:=by
 refine Ar (vT a λe k q=>?_);cases e with
 |normal=>obtain⟨i,d,h⟩:=q;exact u3 h (c i d)
 |exit=>exact q
 |goto=>exact q
 |ret=>exact q
 |panic=>exact q
 |outgrown=>exact q
theorem ad6{r:V}(h:k4 r v=r):dq v r:=h▸Gp r v
def tf(s:S):List E->Nat->List (Option E)
 | [],_=>[]
 |e::l,k=>Bn (some e) (s.H k)::tf s l (k+1)
def s9:List E->List (Option E)
 | []=>[]
 |e::l=>some e::s9 l
def tC(u:Nat->Bool):List E->Bool
 | []=>true
 |e::l=>e.ok u&&tC u l
theorem Mh{s:S}: ∀{l:List E} {k:Nat},tf s l k=s9 l-> ∀i e,l[i]? =some e-> ∃a,s.H (k+i)=some a/\iU a e
 |a::l,k,h,0,e,b=>by
  simp only[tf,s9,List.cons.injEq] at h;simp at b;subst b;exact NS h.1
 |a::l,k,h,i+1,e,b=>by
  simp only[tf,s9,List.cons.injEq] at h
  have:=Mh h.2 i e (by simpa using b)
  rwa [show k+1+i=k+(i+1) by omega] at this
theorem MX{u:Nat->Bool}: ∀{l:List E},tC u l=true-> ∀(i:Nat) e,l[i]? =some e->e.ok u=true
 |b::l,h,0,e,a=>by simp only[tC,Bool.and_eq_true] at h;simp at a;subst a;exact h.1
 |b::l,h,i+1,e,a=>by simp only[tC,Bool.and_eq_true] at h;exact MX h.2 i e (by simpa using a)
end
end
def bc{a R:Type}(b:(a->Option R)->a->Option R):Nat->a->Option R
 |0,_=>none
 |m+1,x=>b (bc b m) x
def aI{a R:Type}(j:a->Option R)(t:(a->Option R)->Option R):Option R:=t j
variable {b R a γ:Type}{r l:List a}{o:Option a}{f:FuncId}{c:Code}{A B:Option R}{n:Nat}{d:Func}{s:S}{Q:Exit->S->Prop}{j i:Int}{x y ph:a}{q:List T}{p:Prop}{w:World}{v:V}{u z:Value}{args:List V}
theorem lS{a:b->Option R}{t:(b->Option R)->Option R}{r:R}(h:aI a t=some r): ∃j,j=a/\t j=some r:=⟨a,rfl,h⟩
theorem dd{f:a->Option R}{r:R}(h:o.bind f=some r): ∃x,o=some x/\f x=some r:=by
 cases o with
 |none=>cases h
 |some x=>exact⟨x,rfl,h⟩
theorem hc{c:Bool}{r:R}(a:c=true)(h:(bif c then A else B)=some r):A=some r:=by subst a;exact h
theorem hb{c:Bool}{r:R}(a:c=false)(h:(bif c then A else B)=some r):B=some r:=by subst a;exact h
theorem ak{a b:R}(h:some a=some b):a=b:=Option.some.inj h
section
variable {K:Ctx}{C:dE}
theorem AS{a:(b->Option R)->b->Option R}{d:b}{r:R}(h:bc a n d=some r)(I:b->γ->S)(o:γ)(z:s.le K (I d o))
  (k: ∀(i:b->Option R) (x:b) (g:γ),a i x=some r->cz K c (I x g) (A7 (λp=> ∃y l,i y=some r/\p.le K (I y l)) Q)):cz K (.loop c) s Q:=by
 refine Zg (ι:=(Nat×b)×γ) (λy=>I y.1.2 y.2) (λy=>bc a y.1.1 y.1.2=some r) (λy=>y.1.1) ((n,d),o) h z ?_;rintro⟨⟨m,x⟩,g⟩ w;cases m with
 |zero=>cases w
 |succ m=>
  refine vT (k (bc a m) x g w) λe p q=>?_;cases e with
  |normal=>obtain⟨y,l,A,B⟩:=q;exact⟨((m,y),l),A,ob m,B⟩
  |exit=>exact q
  |goto=>exact q
  |ret=>exact q
  |panic=>exact q
  |outgrown=>exact q
theorem lv{j:a->Option R}{r:R}{x y:Code}(I:a->γ->S)
  (b:cz K x s (pV (λd=> ∃z g,j z=some r/\d.le K (I z g)) Q)) (c: ∀z g,j z=some r->cz K y (I z g) Q):cz K (.seq x y) s Q:=
 aa8 (ι:=a×γ) (λi=>I i.1 i.2) (λi=>j i.1=some r) (vT b (λe k q=>by
  cases e with
  |normal=>obtain⟨z,g,b,c⟩:=q;exact⟨(z,g),b,c⟩
  |exit=>exact q
  |goto=>exact q
  |ret=>exact q
  |panic=>exact q
  |outgrown=>exact q)) λi h=>c i.1 i.2 h
theorem aee{P:Program}{G:eS}{a:List (Nat×b6)}(c:dM P a)(b:Nat)(w:World)(X:Nat->Prop):dE.Fits ⟨P,G,a,b,0,gE⟩ (Ctx.pure P G w X b):=⟨c,rfl,rfl,rfl,rfl,rfl⟩
theorem aed{P:Program}{G:eS}{a:List (Nat×b6)}(e:dM P a)(c d:Nat)(w:World)(X:Nat->Prop)(b:Map):dE.Fits ⟨P,G,a,c,d,b⟩ (Ctx.dy P G w X d b c):=⟨e,rfl,rfl,rfl,rfl,rfl⟩
theorem Nc{P:Program}(a:P.funcs[f]? =some d)(b:(d.name== "runtime.NumGoroutine")=false)(e:d.body=some c):d7 P f:=⟨d,a,b,by rw[e];rfl⟩
variable {P:Program}{G:eS}{b':List (Nat×b6)}
end
abbrev ab:Int->List T:=hP
abbrev bx:Bool->List T:=acF
abbrev aS{a:Type}(r:a->List T)(l:List a):List T:=[T.ay (l.map r)]
abbrev aB{a:Type}(r:a->List T)(l:List a):V:= .t (.ay (l.map r))
abbrev aE{a:Type}(e g b:Nat)(r:a->List T)(l:List a):E:= .arr e g b (l.map r)
abbrev ms{a:Type}(k g b:Nat)(r:a->List T)(l:List a):V:= .a7 k g b 0 (l.map r).length
theorem Py(r:a->List T)(l:List a):(l.map r).length=l.length:=dj ..
theorem kg(k:Nat){r:a->List T}(h: ∀x,(r x).length=k)(l:List a):Rows k (l.map r):=Rows.map l h
theorem cr(f:a->List T)(h:av l i=some x):(l.map f)[0+i.toNat]? =some (f x):=by rw[dn,er,(l9 h).2];rfl
theorem bF(f:a->List T)(h:av l i=some x):0<=i/\i<((l.map f).length:Int):=by
 obtain⟨b,c⟩:=l9 h
 grind
theorem Bk{b:List a}(f:a->List T)(h:av l i=some x)(e:(b.map f).length=(l.map f).length):0<=i/\i<((b.map f).length:Int):=by rw[e];exact bF f h
theorem str(f:a->List T)(h:ca l i x=some r):r.map f=(l.map f).set (0+i.toNat) (f x):=by obtain⟨_,_,rfl⟩:=sj h;rw[dn,List.map_set]
theorem ad2(f:a->List T){y:List T}(h:av l i=some x)(e:f x=y):(l.map f)[0+i.toNat]? =some y:=e▸cr f h
theorem adX(f:a->List T)(h:ca l i x=some r)(e:f x=q):r.map f=(l.map f).set (0+i.toNat) q:=e▸str f h
theorem nF{q:Prop}(h:p)(k:q):p/\q:=⟨h,k⟩
def o2(b:Int):Option Unit:=if b=0 then none else some ()
theorem OI{b:Int}{x:Unit}(h:o2 b=some x):b≠0:=by intro e;rw[o2,aW e] at h;cases h
theorem gN(f:a->R){y:R}(h:av l i=some x)(e:f x=y):av (l.map f) i=some y:=e▸OD f h
theorem o3{l r:List R}{a:Int}(f:R->b)(h:sub l a (l.length:Int)=some r):sub (l.map f) a ((l.map f).length:Int)=some (r.map f):=by rw[dj];exact o6 f h
def ga(C:dE)(a:List ch)(s:S):Option (cM×List df):=match pJ C 0 a s with
 |some (e,b,[])=>some (e,b)
 |_=>none
theorem ai9{K:Ctx}{C:dE}(l:C.Fits K)(d:List ch)(i:List Nat)(b:List (Nat×V))(c:List (Nat×Option E))(k:List (Nat×Bool))
  (h:lN (ga C d s) t' (ub s i b c)=lN (ga C d s) ua (uc True b c k)):s.le K (s.cl i b c k):=by
 obtain⟨e,p,a,m,n⟩:=Pp (K:=K) trivial h;unfold ga at a;split at a
 ·rename_i o;cases a;exact(qw l o m).trans n
 cases a
def iv(b:List (Nat×b6))(s:S):List ResultVar->Option (List V)
 | []=>some []
 | .tmp t::c=>match iv b s c with
  |some d=>some (s.t t::d)
  |none=>none
 | .cell a t::c=>match tu b s.H t (s.t a) [],iv b s c with
  |some (v,[],[]),some d=>some (v::d)
  |_,_=>none
def np:List V->V
 | [v]=>v
 |vs=> .bJ vs
def kQ(b:Array Value)(r:ResultVar):Sem Value:=match r with
 | .tmp t=>pure (b.getD t undef)
 | .cell a t=>do loadVar t (<-asAddr (b.getD a undef))
theorem DN(c:Func)(a:Array Value):Go.results c a=(do let b<-c.results.mapM (kQ a);pure (if h:b.size=1 then b[0] else .tuple b)):=rfl
theorem ach{P:Program}{c:List (Nat×b6)}(r:dM P c){K:Ctx}{U:Map}{a:Act}(m:Rel K U s a w){x:Nat}{t:TypeId}(h:tu c s.H t (s.t x) []=some (v,[],[])):
  ∃u,(kQ a.tmps (.cell x t)).run P w= .ok u w/\bh U w (own K U s.H) v u:=by
 have y:=Mz (d:=none) (ty:=0) (pos:= "") (af:= #[]) (g:=none) (x:= .tmp x) r h trivial
 obtain⟨u,i,z⟩:=y U w (own K U s.H) a.eval (λid e A=>(m.heap id e A).2) ⟨m.cU x,trivial⟩;refine⟨u,?_,z⟩;have bI:=m.cU x;have n: ∃l,a.tmps.getD x undef= .pointer (some l):=by
  generalize a.tmps.getD x undef=q at bI;unfold tu at h;split at h
  ·cases h
  split at h
  ·rename_i o;rw[o] at bI;cases bI with|ref _ _ b _=>exact⟨_,rfl⟩
  ·rename_i o;rw[o] at bI;cases bI with|aK _ b B f _ _ _ _=>exact⟨_,rfl⟩
  ·split at h
   ·split at h<;>cases h
   ·split at h<;>cases h
   cases h
  cases h
 obtain⟨l,k⟩:=n;have D:a.eval (.tmp x)= .pointer (some l):=k;simp only[execOp,Instr.loadAt,D,Instr.sureAddr,Sem.run_bind,Sem.run_pure,Result.andThen_ok] at i;simp only[kQ,k,asAddr,Sem.run_bind,Sem.run_pure,Result.andThen_ok];cases p:(loadVar t l).run P w with
 |ok F L=>rw[p] at i;simp at i;obtain⟨rfl,rfl⟩:=i;rfl
 |_=>rw[p] at i;cases i
theorem GU{P:Program}{c:List (Nat×b6)}(m:dM P c){K:Ctx}{U:Map}{s:S}{a:Act}{w:World}(l:Rel K U s a w): ∀{e:List ResultVar} {k:List V},iv c s e=some k->
  k.length=e.length/\ ∀(i:Nat) r v,e[i]? =some r->k[i]? =some v-> ∃u,(kQ a.tmps r).run P w= .ok u w/\bh U w (own K U s.H) v u
 | [],_,h=>by cases h;exact⟨rfl,λi r v h=>by simp at h⟩
 | .tmp t::e,k,h=>by
  simp only[iv] at h;split at h
  ·rename_i n o;cases h;obtain⟨aH,a2⟩:=GU m l o;refine⟨by simp[aH],λi r v b d=>?_⟩;cases i with
   |zero=>simp at b d;subst b;subst d;exact⟨_,rfl,l.cU t⟩
   |succ i=>simp at b d;exact a2 i r v b d
  cases h
 | .cell x t::e,k,h=>by
  simp only[iv] at h;split at h
  ·rename_i q n p o;cases h;obtain⟨aH,a2⟩:=GU m l o;refine⟨by simp[aH],λi r v b d=>?_⟩;cases i with
   |zero=>simp at b d;subst b;subst d;exact ach m l p
   |succ i=>simp at b d;exact a2 i r v b d
  cases h
theorem Z0{P:Program}{a:Array Value}{r:ResultVar}(h:d.results= #[r])(b:(kQ a r).run P w= .ok u w):(Go.results d a).run P w= .ok u w:=by rw[DN,h];simp[b]
theorem ZZ{P:Program}{a:Array Value}{r b:ResultVar}{v:Value}(h:d.results= #[r,b])(c:(kQ a r).run P w= .ok u w)(e:(kQ a b).run P w= .ok v w):(Go.results d a).run P w= .ok (.tuple #[u,v]) w:=by rw[DN,h];simp[c,e]
theorem ZY{P:Program}{a:Array Value}{r c b:ResultVar}{v:Value}(h:d.results= #[r,c,b])(e:(kQ a r).run P w= .ok u w)(i:(kQ a c).run P w= .ok z w)(k:(kQ a b).run P w= .ok v w):
  (Go.results d a).run P w= .ok (.tuple #[u,z,v]) w:=by rw[DN,h];simp[e,i,k]
theorem ZX{P:Program}{a:Array Value}{r c b e:ResultVar}{v x:Value}(h:d.results= #[r,c,b,e])(i:(kQ a r).run P w= .ok u w)(k:(kQ a c).run P w= .ok z w)(l:(kQ a b).run P w= .ok v w)(m:(kQ a e).run P w= .ok x w):
  (Go.results d a).run P w= .ok (.tuple #[u,z,v,x]) w:=by rw[DN,h];simp[i,k,l,m]
theorem KY{P:Program}{e:List (Nat×b6)}(Q:dM P e){K:Ctx}{U:Map}{a:Act}(R:Rel K U s a w){b:List ResultVar}(o:d.results.toList=b){Y:List V}(h:iv e s b=some Y)(W:Nat.ble b.length 4=true):
  ∃u,(Go.results d a.tmps).run P w= .ok u w/\bh U w (own K U s.H) (np Y) u:=by
 obtain⟨X,m⟩:=GU Q R h;have o:d.results=b.toArray:=by rw[<-o]
 match b,Y,X,m,W with
 | [],[],_,_,_=>exact⟨_,results_none o _ _ _,.bJ [] #[] rfl λi c u h _=>by simp at h⟩
 | [r],[v],_,m,_=>
  obtain⟨u,aH,a2⟩:=m 0 r v rfl rfl;exact⟨u,Z0 o aH,a2⟩
 | [r,x],[v,y],_,m,_=>
  obtain⟨u,aH,a2⟩:=m 0 r v rfl rfl;obtain⟨L,z,A⟩:=m 1 x y rfl rfl;refine⟨_,ZZ o aH z,.bJ _ _ rfl λi c u k l=>?_⟩
  match i with
  |0=>simp at k l;subst k;subst l;exact a2
  |1=>simp at k l;subst k;subst l;exact A
  |n+2=>simp at k
 | [r,x,p],[v,y,q],_,m,_=>
  obtain⟨u,aH,a2⟩:=m 0 r v rfl rfl;obtain⟨L,z,A⟩:=m 1 x y rfl rfl;obtain⟨B,D,F⟩:=m 2 p q rfl rfl;refine⟨_,ZY o aH z D,.bJ _ _ rfl λi c u k l=>?_⟩
  match i with
  |0=>simp at k l;subst k;subst l;exact a2
  |1=>simp at k l;subst k;subst l;exact A
  |2=>simp at k l;subst k;subst l;exact F
  |n+3=>simp at k
 | [r,x,p,f],[v,y,q,g],_,m,_=>
  obtain⟨u,aH,a2⟩:=m 0 r v rfl rfl;obtain⟨L,z,A⟩:=m 1 x y rfl rfl;obtain⟨B,D,F⟩:=m 2 p q rfl rfl;obtain⟨E,j,t⟩:=m 3 f g rfl rfl;refine⟨_,ZX o aH z D j,.bJ _ _ rfl λi c u k l=>?_⟩
  match i with
  |0=>simp at k l;subst k;subst l;exact a2
  |1=>simp at k l;subst k;subst l;exact A
  |2=>simp at k l;subst k;subst l;exact F
  |3=>simp at k l;subst k;subst l;exact t
  |n+4=>simp at k
def PH(b:List (Nat×b6))(c:List ResultVar)(r:V):Exit->S->Prop
 | .normal,s| .ret,s=> ∃a,iv b s c=some a/\dq (np a) r
 |_,_=>False
def PG(c:List (Nat×b6))(d:List ResultVar)(r:V)(a:List E):Exit->S->Prop
 | .normal,s| .ret,s=> ∃b,iv c s d=some b/\dq (np b) r/\r.ok (eN a.length)=true/\k0 s.H (eN a.length) (eJ a 0)
 |_,_=>False
section
variable {P:Program}{G:eS}{b':List (Nat×b6)}
theorem QY{r:V}{a:List ResultVar}(A:dM P b')(B:P.funcs[f]? =some d)(F:(d.name== "runtime.NumGoroutine")=false)(q:d.body=some c)(H:d.results.toList=a)(s:d.ntmps=n)
  (k:Nat.ble args.length n=true) (L:r.ok gf=true) (x:Nat.ble a.length 4=true)
  (h: ∀w X,dE.Fits ⟨P,G,b',n,0,gE⟩ (Ctx.pure P G w X n)->cz (Ctx.pure P G w X n) c (start args) (PH b' a r)):jv P G f args r:=by
 subst s;refine⟨Nc B F q,?_⟩;intro w X Q R W D;have o:Q.length<=d.ntmps:=by rw[D.length];exact eB k
 refine calls_of_wp B q (h w X (aee A _ w X) gE _ w _ (Rel.start R W D o) ?_);intro e g j t w' m i;have p:(∃y,iv b' g a=some y/\dq (np y) r)->bodyPost P d (λe w'=> ∃u,e= .returned u/\Ext (λ_=>False) w w'/\bh gE w' X r u) .ret t w':=by
  rintro⟨y,z,k⟩;obtain⟨u,v,bI⟩:=KY A i H z x;have bI:=k _ _ _ _ bI;refine⟨i.defers,u,v,u,rfl,?_,?_⟩
  ·exact i.ext.weaken λb _ ⟨id,h,_⟩=>by simp[Ctx.pure] at h
  exact bI.under (u:=gf) (λb q=> .inl q) (λ_ h=>by simp[gf] at h) L
 cases e with
 |normal=>exact p m
 |ret=>exact p m
 |exit id=>exact m.elim
 |goto l=>exact m.elim
 |panic c=>exact m.elim
 |outgrown=>exact m.elim
def tt(a:Map):List E->Nat->Prop
 | [],_=>True
 | .arr _ g _ _::b,k=>(∃q,a k=some (q,g))/\tt a b (k+1)
 | .a6 _ _ g _ _::b,k=>(∃q,a k=some (q,g))/\tt a b (k+1)
 | .cells _::b,k=>True/\tt a b (k+1)
theorem Mu{U:Map}: ∀(a:List E) (k:Nat),(∀(i:Nat) e g,a[i]? =some e->e.gen=some g-> ∃q,U (k+i)=some (q,g))->tt U a k
 | [],_,_=>trivial
 |e::a,k,h=>by
  have bO:=Mu a (k+1) (λi e g b c=>by
   have:=h (i+1) e g (by simpa using b) c
   rwa [show k+(i+1)=k+1+i by omega] at this)
  cases e with
  |cells=>exact⟨trivial,bO⟩
  |arr _ g _ _=>exact⟨h 0 _ g rfl rfl,bO⟩
  |a6 _ _ g _ _=>exact⟨h 0 _ g rfl rfl,bO⟩
theorem ahQ{o:Func}{a out:List E}{r:V}{x y:Nat}{Q:List ResultVar}(j9:dM P b')(hM:P.funcs[f]? =some o)(cu:(o.name== "runtime.NumGoroutine")=false)(aV:o.body=some c)(bO:o.results.toList=Q)(R:o.ntmps=x)(W:a.length=y)
  (z:Nat.ble args.length x=true) (A:Nat.ble y out.length=true) (j:Nat.ble Q.length 4=true)
  (h: ∀w X d,dE.Fits ⟨P,G,b',x,y,d⟩ (Ctx.dy P G w X y d x)->tt d a 0->cz (Ctx.dy P G w X y d x) c (lA a args) (PG b' Q r out)):iA P G f a args r out:=by
 subst R;subst W;refine⟨Nc hM cu aV,?_⟩;intro w X d us jD gb aD fP;have B:us.length<=o.ntmps:=by rw[fP.length];exact eB z
 refine calls_of_wp hM aV (h w X d (aed j9 _ _ w X d) (Mu a 0 (λk e g v bE=>by
  rw[dn];exact(ps (aD.heap k _ v) bE).2)) d _ w _ (Rel.lA jD gb aD fP B) ?_)
 intro e I D te w' q m;have F:(∃M,iv b' I Q=some M/\dq (np M) r/\r.ok (eN out.length)=true/\k0 I.H (eN out.length) (eJ out 0))->
   bodyPost P o (λe w'=> ∃u,∃i:Unit,∃β,e= .returned u/\True/\Left d β a out w w' X r u) .ret te w':=by
  rintro⟨M,N,T,U,hH⟩;obtain⟨u,hu,bI⟩:=KY j9 m bO N j;have bI:=T _ _ _ _ bI;have hm:a.length<=out.length:=eB A;let p:S:={t:=o8,H:=eJ out 0,u:=eN out.length}
  have L:ma a.length p.u=true:=by
   have: ∀n,n<=a.length->ma n p.u=true:=by
    intro n;induction n with
    |zero=>intro _;rfl
    |succ n l2=>intro cu;simp[ma,l2 O,show p.u n=true from iB.2 O]
   exact this _ (cD _)
  have bB:=m.cut (s':=p) (oz.nil _ _) hH L;have dY:=Ek (K:=Ctx.dy P G w X a.length d o.ntmps) (β:=D) (s:=I) (s':=p) hH;refine⟨m.defers,u,hu,u,(),cut D p.u,rfl,trivial,?_⟩;refine⟨m.ext.weaken λb _ ⟨id,_,h⟩=>⟨id,h⟩,bB.base,bB.iq,?_,?_,bB.inj,bB.fresh,?_,bI.under dY (λ_ h=>wR h) U⟩
  ·intro k v;apply bB.dB;cases Y:p.u k with
   |false=>rfl
   |true=>have:=iB.1 Y;omega
  ·intro k b v;apply bB.dX;cases Y:p.u k with
   |false=>rfl
   |true=>have:=iB.1 Y;omega
  intro k e he;exact(bB.heap k e (by rw[<-yw] at he;exact he)).2
 cases e with
 |normal=>exact F q
 |ret=>exact F q
 |exit id=>exact q.elim
 |goto l=>exact q.elim
 |panic c=>exact q.elim
 |outgrown=>exact q.elim
def xb(r:V):Option (List V)->Option V
 |some a=>some (k4 r (np a))
 |none=>none
theorem PD{a:List ResultVar}{r:V}(h:xb r (iv b' s a)=some r): ∃b,iv b' s a=some b/\dq (np b) r:=by
 cases c:iv b' s a with
 |none=>rw[c] at h;cases h
 |some b=>rw[c] at h;simp only[xb,Option.some.injEq] at h;exact⟨b,rfl,ad6 h⟩
theorem ad5{b:List ResultVar}{r:V}{a:List E}(h:(xb r (iv b' s b),tf s a 0,r.ok (eN a.length)&&tC (eN a.length) a)=(some r,s9 a,true)):
  ∃c,iv b' s b=some c/\dq (np c) r/\r.ok (eN a.length)=true/\k0 s.H (eN a.length) (eJ a 0):=by
 simp only[Prod.mk.injEq,Bool.and_eq_true] at h;obtain⟨i,l,m,n⟩:=h;obtain⟨c,aH,a2⟩:=PD i;refine⟨c,aH,a2,m,λk e d=>?_⟩;rw[yw] at d
 have:=Mh l k e d;rw[dn] at this;exact⟨this,iB.2 (bM.1 d).1,MX n k e d⟩
end
theorem tX(f:a->List T)(ph:a)(h:app l [y]=some r):app (List.map f l) [f ph]=some (List.map f (l++[ph])):=by
 obtain⟨b,_⟩:=vO h;unfold app
 grind
theorem nz(f:a->List T)(l:List a)(ph:a):(List.map f (l++[ph]))[(List.map f l).length+0]? =some (f ph):=by grind
theorem Bp(f:a->List T)(l:List a){r:List T}(e:r=f y):(List.map f (l++[ph])).set ((List.map f l).length+0) r=List.map f (l++[y]):=by grind
theorem tz(f:a->List T){x:List a}{r:List T}(h:app l [y]=some x)(e:r=f y):(List.map f (l++[ph])).set ((List.map f l).length+0) r=List.map f x:=by
 obtain⟨_,rfl⟩:=vO h
 grind
theorem tT(f:a->List T){x:List a}(b:a)(h:app l [y]=some x):(List.map f (l++[b])).length=(List.map f x).length:=by obtain⟨_,rfl⟩:=vO h;simp
theorem ahq(f:a->List T)(h:l.isEmpty=false):List.map f l≠[]:=by
 cases l with
 |nil=>cases h
 |cons=>simp
theorem gv(f:a->List T)(h:ca l i y=some r)(e:q=f y):(List.map f l).set (0+i.toNat) q=List.map f r:=by subst e;exact(str f h).symm
theorem iM(f:a->List T)(h:av l i=some x)(e:q=f x):(List.map f l).set (0+i.toNat) q=List.map f l:=by subst e;have b:=cr f h;obtain⟨d,c⟩:=bM.1 b;rw[<-c,List.set_getElem_self]
theorem cE(f:a->List T)(h:ca l i x=some r):(l.map f).length=(r.map f).length:=by obtain⟨_,_,rfl⟩:=sj h;simp
theorem iL{r:R}(h:(none:Option R)=some r):p:=by cases h
def jF{R:Type}(a b:List R):Option Unit:=if b.length=a.length then some () else none
theorem iJ{a b:List R}{u:Unit}(f:R->List T)(h:jF a b=some u):(a.map f).length=(b.map f).length:=by
 unfold jF at h
 grind
def Dv{a:Type}(f:a->List T):Option a->V
 |none=> .t .gF
 |some x=> .aK (f x)
theorem adY(f:a->List T)(o:Option a)(b:Bool):(V.bJ [Dv f o,aM b]).ok gf=true:=by cases o<;>rfl
theorem vw{P:Program}{G:eS}[Inhabited a]{r:a->List T}(h:o.isSome=true)(k:jv P G f args (V.bJ [Dv r o,v])):jv P G f args (V.bJ [V.aK (r (o.getD default)),v]):=by
 cases o with
 |none=>cases h
 |some x=>exact k
theorem vv{P:Program}{G:eS}{r:a->List T}(h:o.isSome=false)(k:jv P G f args (V.bJ [Dv r o,v])):jv P G f args (V.bJ [V.t .gF,v]):=by
 cases o with
 |none=>exact k
 |some x=>cases h
theorem adx(f:a->List T)(l:List a):(l.map f).length=((l.take l.length).map f).length:=by rw[cT]
theorem M1(f:a->List T)(l:List a)(b:0<=i)(c:i<(l.length:Int)):
  0<=i/\i<=((l.map f).length:Int)/\((l.map f).length:Int)<=((l.map f).length:Int)/\(i=0\/i<((l.map f).length:Int))/\i.toNat=0+i.toNat/\l.length-i.toNat=((l.map f).length:Int).toNat-i.toNat:=by grind
theorem PE(f:a->List T)(l:List a)(k:Nat):(l.take k).map f=(l.map f).take k:=sN
section
set_option linter.unusedVariables false
def eF{a:Type}(l:List a)(i j:Int):Nat:=i.toNat+(l.length-j.toNat)
def mE{a:Type}(l:List a)(i j:Int):List a:=l.take i.toNat++l.drop j.toNat++l.drop (eF l i j)
def jt{a:Type}(l:List a)(i j:Int)(z:a):List a:=l.take i.toNat++l.drop j.toNat++List.replicate (l.length-eF l i j) z
theorem M'(l:List a)(b:0<=i)(c:i<=j)(d:j<=(l.length:Int)):(mE l i j).length=l.length:=by
 unfold mE eF
 grind
theorem aeE(f:a->List T)(l:List a)(b:0<=i)(c:i<=j)(d:j<=(l.length:Int)):0<=i/\i<=j/\j<=(l.length:Int)/\(l.length:Int)<=((l.map f).length:Int):=by grind
theorem PU(f:a->List T)(l:List a)(b:0<=i)(c:i<=j)(d:j<=(l.length:Int)):
  (0:Int)<=0/\(0:Int)<=i/\i<=((l.map f).length:Int)/\((0:Int)=0\/(0:Int)<((l.map f).length:Int))/\0=0+(0:Int).toNat/\i.toNat=i.toNat-(0:Int).toNat:=
 ⟨gy _,b,by rw[dj];omega,.inl rfl,rfl,rfl⟩
theorem aeD(f:a->List T)(l:List a)(b:0<=i)(c:i<=j)(d:j<=(l.length:Int))(e: ¬j<(l.length:Int)):0<=j/\j=((l.map f).length:Int)/\((l.map f).length:Int)<=((l.map f).length:Int):=by grind
theorem ad'(f:a->List T)(l:List a)(b:0<=i)(c:i<=j)(d:j<=(l.length:Int)):i.toNat+(l.length-j.toNat)<=(l.map f).length:=by grind
theorem ad9(f:a->List T)(l:List a)(b:0<=i)(c:i<=j)(d:j<=(l.length:Int)):j.toNat+(l.length-j.toNat)<=(l.map f).length:=by grind
theorem ad8(f:a->List T)(l:List a)(i j:Int):(mE l i j).map f=(l.map f).take i.toNat++((l.map f).drop j.toNat).take (l.length-j.toNat)++(l.map f).drop (i.toNat+(l.length-j.toNat)):=by unfold mE eF;rw[gJ,gJ,sN,List.map_drop,List.map_drop,fG (l:=(l.map f).drop j.toNat) (by rw[eX,dj];omega)]
theorem PV(f:a->List T)(l r:List a){k:Nat}(d:0<k)(e:0<=i)(h:i<j)(n:j<=(l.length:Int))(b:r.length=l.length){m:Nat}(c:m=eF l i j):
  0<k/\(0:Int)<=(m:Int)/\(m:Int)<(l.length:Int)/\((0:Nat):Int)+(l.length:Int)<=((r.map f).length:Int)/\m=0+(m:Int).toNat/\l.length-m=(l.length:Int).toNat-(m:Int).toNat:=by rw[dj,b,c];unfold eF;omega
theorem aeC(f:a->List T)(l:List a)(z:a)(c:0<=i)(h:i<j)(d:j<=(l.length:Int)):
  eF l i j+(l.length-eF l i j)<=((mE l i j).map f).length/\(jt l i j z).map f=((mE l i j).map f).take (eF l i j)++List.replicate (l.length-eF l i j) (f z)++((mE l i j).map f).drop (eF l i j+(l.length-eF l i j)):=by
 have b9:=M' l c (O:i<=j) d;have b:(l.take i.toNat++l.drop j.toNat).length=eF l i j:=by
  unfold eF;simp only[List.length_append,List.length_take,List.length_drop];omega
 have e:eF l i j<=l.length:=by unfold eF;omega
 refine⟨by rw[dj,b9];omega,?_⟩;rw[ko (as:=(mE l i j).map f) (by rw[dj,b9];omega),jU,<-sN];unfold jt mE;rw[gJ,List.map_replicate,ng (by rw[b];exact cD _),fG (l:=l.take i.toNat++l.drop j.toNat) (by rw[b];exact cD _)]
theorem ad7(f:a->List T)(l:List a)(z:a)(c:0<=i)(d:i<j)(e:j<=(l.length:Int))(h: ¬j<(l.length:Int)):
  i.toNat+(l.length-i.toNat)<=(l.map f).length/\(jt l i j z).map f=(l.map f).take i.toNat++List.replicate (l.length-i.toNat) (f z)++(l.map f).drop (i.toNat+(l.length-i.toNat)):=by
 refine⟨by rw[dj];omega,?_⟩;have b:eF l i j=i.toNat:=by unfold eF;omega
 unfold jt;rw[b,ko (as:=l) (i:=j.toNat) O,jU,ko (as:=l.map f) (by rw[dj];omega),jU,gJ,sN,List.map_replicate]
theorem PW(f:a->List T)(l:List a)(z:a)(b:0<=i)(c:i<j)(d:j<=(l.length:Int)):eF l i j=(((jt l i j z).take (eF l i j)).map f).length:=by
 unfold jt eF
 grind
theorem PX(l:List a)(b:j<=(l.length:Int))(c: ¬j<(l.length:Int)):i.toNat=eF l i j:=by unfold eF;omega
end
theorem vy(h:ca l i x=some r)(y:a):ca l i y=some (l.set i.toNat y):=by
 obtain⟨b,c,_⟩:=sj h;unfold ca
 grind
theorem tr(h:ca l i x=some r)(y:a):av (l.set i.toNat y) i=some y:=by
 obtain⟨b,c,_⟩:=sj h;unfold av
 grind
theorem vx(h:ca l i x=some r)(y:a):ca (l.set i.toNat y) i x=some r:=by obtain⟨b,c,rfl⟩:=sj h;unfold ca;rw[aW ⟨b,by rw[fE];exact c⟩,List.set_set]
theorem Bj{a l:List R}{u:Unit}{x:R}(f:R->List T)(b:jF a l=some u)(h:av l i=some x):0<=i/\i<((a.map f).length:Int):=by have:=bF f h;rw[iJ f b];exact this
theorem Px{a l:List R}{u:Unit}(f:R->List T)(b:jF a l=some u):(a.map f).length=l.length:=(iJ f b).trans (Py f l)
theorem A3(h:ca l i x=some r):av r i=some x:=by
 obtain⟨b,c,rfl⟩:=sj h;unfold av
 grind
end Go.Lift
