/- Tools. -/
import Derived.Test.YteifkndfpnkalaaGreatDLiftV
namespace Go.Lift
open Go
open Option renaming some -> aa, none -> aj
open Bool renaming true -> ab, false -> ak, and_eq_true -> b9
open List renaming map -> bV
open Nat renaming beq -> b5, blt -> dt, ble -> db
section
def c8.cat(a b:c8):c8:=⟨a.ga++b.ga,a.hs++b.hs,a.us++b.us⟩
def c8.nil:c8:=⟨[],[],[]⟩
theorem O0{k:Type}: ∀(a b:List (Nat×k)) (f:Nat->k),dw f (a++b)=dw (dw f a) b
 | [],_,_=>rfl
 |(d,v)::a,b,f=>by simp only[List.cons_append,dw];exact O0 a b _
theorem o7(a b:c8)(s:S):(a.cat b).app s=b.app (a.app s):=by unfold c8.app c8.cat;simp only[O0]
theorem om{k:Type}: ∀(l:List (Nat×k)) (f:Nat->k) (r:Nat),((∀v,(r,v)∉l)/\dw f l r=f r)\/ ∃v,(r,v)∈l/\dw f l r=v
 | [],_,_=> .inl ⟨λ_ h=>(List.not_mem_nil h).elim,rfl⟩
 |(d,v)::l,f,r=>by
  rcases om l (a8 f d v) r with ⟨c,a⟩|⟨e,c,a⟩
  ·by_cases i:r=d
   ·subst i;exact .inr ⟨v,eD,by rw[dw,a,cd]⟩
   refine .inl ⟨λe h=>?_,by rw[dw,a,cb _ _ _ _ i]⟩;rcases ez.1 h with h|h
   ·cases h;exact i rfl
   exact c e h
  exact .inr ⟨e,eo _ c,by rw[dw,a]⟩
mutual
def mo:V->V->V
 | .t (.bD _),v=>oA v
 | .agg cs,.agg a=> .agg (rz cs a)
 | .bL cs,.bL a=> .bL (rz cs a)
 | .dh,_=> .dh
 |_,v=>v
def rz:List V->List V->List V
 |c::cs,v::a=>mo c v::rz cs a
 |_,a=>a
end
mutual
theorem HY: ∀c v:V,dN v (mo c v)
 | .t (.bD _),v=>by simp only[mo];exact u7 v
 | .agg cs,.agg a=>by simp only[mo];exact dN.agg (CC cs a)
 | .bL cs,.bL a=>by simp only[mo];exact dN.bL (CC cs a)
 | .dh,v=>by simp only[mo];exact dN.dh v
 | .t (.bool _),v| .t (.int _ _),v| .t (.str _),v| .t .fT,v| .t .iz,v| .t .hl,v| .t .oz,v| .t .err,v=>by simp only[mo];exact dN.refl v
 | .ref _ _,v| .aS _,v| .bf _ _ _ _ _,v| .cK _ _ _ _ _,v| .fn _ _,v=>by simp only[mo];exact dN.refl v
 | .agg _,.t _| .agg _,.bL _| .agg _,.ref _ _| .agg _,.aS _| .agg _,.bf _ _ _ _ _| .agg _,.cK _ _ _ _ _| .agg _,.fn _ _| .agg _,.dh=>by simp only[mo];exact dN.refl _
 | .bL _,.t _| .bL _,.agg _| .bL _,.ref _ _| .bL _,.aS _| .bL _,.bf _ _ _ _ _| .bL _,.cK _ _ _ _ _| .bL _,.fn _ _| .bL _,.dh=>by simp only[mo];exact dN.refl _
theorem CC: ∀cs a:List V,fU a (rz cs a)
 |c::cs,v::a=>by simp only[rz];exact⟨HY c v,CC cs a⟩
 | [],a=>by simp only[rz];exact fU.refl a
 |_::_,[]=>by simp only[rz];exact trivial
end
def Dc:Option E->Option E->Option E
 |some (.cells cs),aa (.cells a)=>aa (.cells (rz cs a))
 |some _,e=>e
 |none,_=>aj
variable {c s a:S}{e x:E}{β W:Map}{w:World}{r l:List Nat}{m k i n gen b L g:Nat}{q:Option Nat}{X Z:Nat->Prop}{Q:Exit->S->Prop}{u:Value}{o:Oper}
theorem Qp{c e:Option E}(h:Dc c e=aa x): ∃a,e=aa a/\kG a x:=by
 unfold Dc at h;split at h
 ·cases h;exact⟨_,rfl,CC _ _⟩
 ·exact⟨x,h,kG.refl x⟩
 cases h
def vm(s:S):List (Nat×V)->List V
 | []=>[]
 |(i,v)::l=>mo v (s.t i)::vm s l
def ve(s:S):List (Nat×Option E)->List (Option E)
 | []=>[]
 |(k,e)::l=>Dc e (s.H k)::ve s l
def la{k:Type}:List (Nat×k)->List k
 | []=>[]
 |(_,v)::l=>v::la l
theorem G6{s:S}: ∀{l:List (Nat×V)},vm s l=la l-> ∀i v,(i,v)∈l->dN (s.t i) v
 |(a,c)::l,h,i,v,hm=>by
  simp only[vm,la,List.cons.injEq] at h;rcases ez.1 hm with hm|hm
  ·cases hm;exact h.1▸HY _ _
  exact G6 h.2 i v hm
theorem G9{s:S}: ∀{l:List (Nat×Option E)},ve s l=la l-> ∀k e,(k,aa e)∈l-> ∃a,s.H k=aa a/\kG a e
 |(lC,a)::l,h,k,e,hm=>by
  simp only[ve,la,List.cons.injEq] at h;rcases ez.1 hm with hm|hm
  ·cases hm;exact Qp h.1
  exact G9 h.2 k e hm
def sK{k:Type}(a:List Nat):List (Nat×k)->Bool
 | []=>ab
 |(i,_)::l=>jv i a&&sK a l
theorem GJ{k:Type}{r:List Nat}: ∀{l:List (Nat×k)},sK r l=ab-> ∀i v,(i,v)∈l->i∈r
 |(a,c)::l,h,i,v,hm=>by
  simp only[sK,b9] at h;rcases ez.1 hm with hm|hm
  ·cases hm;exact B8 h.1
  exact GJ h.2 i v hm
def yz{k:Type}:List (Nat×k)->List Nat
 | []=>[]
 |(i,_)::l=>i::yz l
theorem Pr{k:Type}{i:Nat}: ∀{l:List (Nat×k)},i∈yz l-> ∃v,(i,v)∈l
 |(d,a)::l,h=>by
  simp only[yz,List.mem_cons] at h;rcases h with rfl|h
  ·exact⟨a,eD⟩
  obtain⟨v,c⟩:=Pr h;exact⟨v,eo _ c⟩
def C1(a:List Nat)(t:Nat->V):Nat->V:=λi=>bif jv i a then .dh else t i
def S.cl(s:S)(a:List Nat)(c:List (Nat×V))(d:List (Nat×Option E))(e:List (Nat×Bool)):S:={t:=dw (C1 a s.t) c,H:=dw s.H d,u:=dw s.u e}
theorem Rel.KU{K:Ctx}{a:Act}(l:Rel K β s a w)(n:c.u=s.u)(x: ∀k e,c.H k=aa e-> ∃m,s.H k=aa m/\kG m e)(y: ∀i,dN (s.t i) (c.t i)):Rel K β c a w:=by
 have d: ∀b,own K β c.H b->own K β s.H b:=by
  rintro b (h|⟨id,p,q⟩)
  ·exact .inl h
  cases o:c.H id with
  |none=>exact bB o p
  |some e=>
   obtain⟨m,r,_⟩:=x id e o;exact .inr ⟨id,by rw[r];simp,q⟩
 refine {l with low:= ?_,eF:= ?_,e9:= ?_,heap:= ?_,dC:= ?_}
 ·intro id h;rw[n];exact l.low id h
 ·intro id h;rw[n] at h;exact l.eF id h
 ·intro id b h;rw[n] at h;exact l.e9 id b h
 ·intro id e o;obtain⟨m,p,q⟩:=x id e o;obtain⟨r,z⟩:=l.heap id m p;refine⟨by rw[n];exact r,?_⟩;exact(q.zH z).mono (Ext.refl _ _) (λb _=>d b) (ed.refl _) (λ_ h=>h) (Shaped.refl _ _) λ_ _=>rfl
 intro i;exact(y i _ _ _ _ (l.dC i)).mono (Ext.refl _ _) (λb _=>d b) (ed.refl _) (Shaped.refl _ _)
theorem afA{K:Ctx}{e:c8}{d:List (Nat×V)}{c:List (Nat×Option E)}{m:List (Nat×Bool)}(z:e.us=m)(A:sK r e.ga=ab)(B:sK (yz c) e.hs=ab)
  (F:vm (e.app s) d=la d) (G:ve (e.app s) c=la c):(e.app s).le K (s.cl r d c m):=by
 intro L a w Q;refine⟨L,Q.KU ?_ ?_ ?_⟩
 ·show dw s.u m=dw s.u e.us;rw[z]
 ·intro k x o;have o:dw s.H c k=aa x:=o;rcases om c s.H k with ⟨p,n⟩|⟨v,p,n⟩
  ·rw[n] at o;refine⟨x,?_,kG.refl x⟩;show dw s.H e.hs k=aa x;rw[nA _ _ _ λv q=>?_]
   ·exact o
   obtain⟨X,R⟩:=Pr (GJ B k v q)
   grind
  rw[n] at o;subst o;exact G9 G k x p
 intro i;show dN _ (dw (C1 r s.t) d i);rcases om d (C1 r s.t) i with ⟨p,n⟩|⟨v,p,n⟩
 ·rw[n];unfold C1;cases y:jv i r with
  |true=>exact dN.dh _
  |false=>
   show dN (dw s.t e.ga i) (s.t i);rw[nA _ _ _ (λv q=>by
    have hm:=GJ A i v q
    have: ∀{l:List Nat},i∈l->jv i l=ab:=by
     intro l;induction l with
     |nil=>intro h;cases h
     |cons x l W=>
      intro h;simp only[jv];rcases ez.1 h with rfl|h
      ·simp
      cases b5 x i with
      |true=>rfl
      |false=>exact W h
    rw[this hm] at y;cases y)]
   exact dN.refl _
 rw[n];exact G6 F i v p
theorem OZ{k:Type}(f:Nat->k)(i:Nat):a8 f i (f i)=f:=by
 funext j;by_cases a:j=i
 ·subst a;rw[cd]
 rw[cb _ _ _ _ a]
def Map.move(a:Map)(k c gen:Nat)(q:Option Nat):Map:=
 ⟨λi=>bif b5 i c then aa (q,1) else bif b5 i k then aa (aj,gen+1) else a i,λi b=>(i=c/\a.n k b)\/(i≠c/\i≠k/\a.n i b)⟩
theorem IA(h:i≠k):b5 i k=ak:=by
 cases a:b5 i k with
 |false=>rfl
 |true=>exact bB (de a) h
theorem OW(c:Map)(k a gen:Nat)(q:Option Nat):c.move k a gen q a=aa (q,1):=by simp[Map.move]
theorem OV(c:Map)(k a gen:Nat)(q:Option Nat)(h:k≠a):c.move k a gen q k=aa (aj,gen+1):=by simp[Map.move,IA h]
theorem MS(a:Map)(k c gen:Nat)(q:Option Nat)(id:Nat)(h:id≠k)(d:id≠c):a.move k c gen q id=a id:=by simp[Map.move,IA h,IA d]
theorem afo(c:Map)(k d gen:Nat)(q:Option Nat)(a b:Nat)(h:a≠k)(e:a≠d):(c.move k d gen q).n a b↔c.n a b:=by simp[Map.move,h,e]
theorem aej(d:k≠n)(e:W k=aa (q,gen))(h:At (W.move k n gen q) i b):(i=n/\At W k b)\/(i≠k/\i≠n/\At W i b):=by
 rcases h with ⟨g,h⟩|⟨rfl,h⟩|⟨a,c,h⟩
 ·by_cases a:i=n
  ·subst a;rw[OW] at h;cases h;exact .inl ⟨rfl,.inl ⟨gen,e⟩⟩
  by_cases c:i=k
  ·subst c;rw[OV _ _ _ _ _ d] at h;cases h
  rw[MS _ _ _ _ _ _ c a] at h;exact .inr ⟨c,a,.inl ⟨g,h⟩⟩
 ·exact .inl ⟨rfl,.inr h⟩
 exact .inr ⟨c,a,.inr h⟩
theorem cX.set{a:List V}{j:Nat}{c x:V}(h:cX β w X b (.cells a))(n:a[j]? =aa c)(o: ∀u,bq β w X c u->bq β w X x u):cX β w X b (.cells (a.set j x)):=by
 obtain⟨d,e,ty,k,l,m,p⟩:=h;refine⟨d,e,ty,k,l,by simpa using m,λi v u q r=>?_⟩
 grind
theorem XB{K:Ctx}(b k i j gen p:Nat){e:TypeId}{n:List (List T)}{Q:List dB}{R:Nat}{l:List (List T)}{W:List (Nat×Nat×V)}(X:db K.dV k=ab)(Z:b≠k)
  (bb:s.H b=aa (.a7 Q m R l ((i,j,.bf k gen p 0 n.length)::W))) (hk:s.H k=aa (.arr e gen p n)):
  s.le K {t:=s.t,H:=a8 (a8 s.H k aj) b (aa (.a7 Q m R l ((i,j,.t (.bD n))::W))),u:=s.u}:=by
 intro y a w h;have rN:=eO X;generalize gy:(aa (.a7 Q m R l ((i,j,.t (.bD n))::W)):Option E)=N;have akn:N≠aj:=by subst gy;simp
 have d: ∀o,own K y (a8 (a8 s.H k aj) b N) o->own K y s.H o:=by
  rintro o (f|⟨id,q,G⟩)
  ·exact .inl f
  by_cases z:id=b
  ·subst z;exact .inr ⟨id,by rw[bb];simp,G⟩
  rw[cb _ _ _ _ z] at q;by_cases r:id=k
  ·subst r;rw[cd] at q;exact bB rfl q
  rw[cb _ _ _ _ r] at q;exact .inr ⟨id,q,G⟩
 have A: ∀o,At y k o-> ¬own K y (a8 (a8 s.H k aj) b N) o:=by
  rintro o F (f|⟨id,q,G⟩)
  ·obtain⟨hr,jQ⟩:=h.k7 o f;rcases(h.fresh k o F).1 with g|kp
   ·exact jQ g
   omega
  have:=h.inj _ _ _ G F;subst this;rw[cb _ _ _ _ (Ne.symm Z),cd] at q;exact q rfl
 have D:=(h.heap k _ hk).2;refine⟨y,{h with heap:= ?_,dC:= ?_}⟩
 ·intro id e' c;have c:a8 (a8 s.H k aj) b N id=aa e':=c;by_cases z:id=b
  ·subst z;rw[cd] at c;subst c;cases gy;obtain⟨r,L⟩:=h.heap id _ bb;refine⟨r,L.1,?_⟩;rcases L.2 with ⟨aL,a2,a3⟩|⟨o,us,B,aL,a2,a3,a4,a5,kg,jA,fV⟩
   ·exact .inl ⟨aL,a2,a3⟩
   refine .inr ⟨o,us,B,aL,a2,a3,a4,λjG eH I x u dc cS fP=>?_,kg,jA,fV⟩;have M:=a5 jG eH I x u dc cS fP;refine⟨λv bW=>?_,λP=>?_⟩
   ·rcases ez.1 bW with e|bW
    ·simp only[Prod.mk.injEq] at e;obtain⟨rfl,rfl,rfl⟩:=e;obtain⟨U,d2⟩:=M.1 _ eD;exact⟨.t _ _ (D.read U d A),d2⟩
    obtain⟨U,d2⟩:=M.1 v (eo _ bW);exact⟨U.mono (Ext.refl _ _) (λb _=>d b) (ed.refl _) (Shaped.refl _ _),d2⟩
   have hne: ¬(jG=i/\eH=j):=by rintro⟨rfl,rfl⟩;exact P _ eD
   refine(M.2 λv bW=>?_).mono (Ext.refl _ _) (λb _=>d b) (λ_ _=>rfl)
   grind
  rw[cb _ _ _ _ z] at c;by_cases r:id=k
  ·subst r;rw[cd] at c;cases c
  rw[cb _ _ _ _ r] at c;obtain⟨L,h6⟩:=h.heap id e' c;exact⟨L,h6.mono (Ext.refl _ _) (λb _=>d b) (ed.refl _) (λ_ h=>h) (Shaped.refl _ _) λ_ _=>rfl⟩
 intro i;exact(h.dC i).mono (Ext.refl _ _) (λb _=>d b) (ed.refl _) (Shaped.refl _ _)
theorem aaG{K:Ctx}{c:Nat}(b j k:Nat)(e:TypeId){A:List V}(G:s.u k=ak)(Z:s.H b=aa (.cells A))(I:A[j]? =aa (.t .fT)):
  s.le K {t:=s.t,H:=a8 (a8 s.H k (aa (.arr e 1 c []))) b (aa (.cells (A.set j (.bf k 1 c 0 0)))),u:=a8 s.u k ab}:=by
 intro p a w h;have cC:=h.eF k G;have f:b≠k:=by intro e;subst e;have:=(h.heap b _ Z).1;rw[this] at G;cases G
 have q: ∀id x,p id=aa x->p.put k (aa (aj,1)) id=aa x:=λid x l=>by
  rw[fR _ _ _ _ (by intro e;subst e;rw[cC] at l;cases l)];exact l
 have L:=ed.of q;have o: ∀id n,At (p.put k (aa (aj,1))) id n->id≠k/\At p id n:=λid n l=>by
  by_cases r:id=k
  ·subst r;rcases l with ⟨g,l⟩|l
   ·rw[kn] at l;cases l
   exact bB l (h.e9 _ _ G)
  refine⟨r,?_⟩;rcases l with ⟨g,l⟩|l
  ·rw[fR _ _ _ _ r] at l;exact .inl ⟨g,l⟩
  exact .inr l
 have y: ∀n,own K (p.put k (aa (aj,1))) (a8 (a8 s.H k (aa (.arr e 1 c []))) b (aa (.cells (A.set j (.bf k 1 c 0 0))))) n->own K p s.H n:=by
  rintro n (l|⟨id,z,B⟩)
  ·exact .inl l
  obtain⟨D,Q⟩:=o id n B;by_cases X:id=b
  ·subst X;exact .inr ⟨id,by rw[Z];simp,Q⟩
  rw[cb _ _ _ _ X,cb _ _ _ _ D] at z;exact .inr ⟨id,z,Q⟩
 have R: ∀v u,bq p w (own K p s.H) v u->bq (p.put k (aa (aj,1))) w (own K (p.put k (aa (aj,1))) (a8 (a8 s.H k (aa (.arr e 1 c []))) b (aa (.cells (A.set j (.bf k 1 c 0 0)))))) v u:=
  λv u F=>F.mono (Ext.refl _ _) (λb _=>y b) L (Shaped.refl _ _)
 refine⟨p.put k (aa (aj,1)),{h with base:= ?_,low:= ?_,eF:= ?_,e9:= ?_,inj:= ?_,fresh:= ?_,heap:= ?_,dC:=λi=>R _ _ (h.dC i)}⟩
 ·refine h.base.keep λid hid=>?_
  have:=h.low id hid;rw[fR _ _ _ _ (by intro e;subst e;rw[G] at this;cases this)]
 ·intro id hid;show a8 s.u k ab id=ab;by_cases e:id=k
  ·subst e;exact cd _ _ _
  rw[cb _ _ _ _ e];exact h.low id hid
 ·intro id hid;have d:a8 s.u k ab id=ak:=hid;by_cases e:id=k
  ·subst e;rw[cd] at d;cases d
  rw[cb _ _ _ _ e] at d;rw[fR _ _ _ _ e];exact h.eF id d
 ·intro id b hid;have d:a8 s.u k ab id=ak:=hid;by_cases e:id=k
  ·subst e;rw[cd] at d;cases d
  rw[cb _ _ _ _ e] at d;exact h.e9 id b d
 ·intro id W n z B;exact h.inj id W n (o id n z).2 (o W n B).2
 ·intro id n l;exact h.fresh id n (o id n l).2
 intro id e' m;have m:a8 (a8 s.H k (aa (.arr e 1 c []))) b (aa (.cells (A.set j (.bf k 1 c 0 0)))) id=aa e':=m;show a8 s.u k ab id=ab/\cX _ _ (own K _ (a8 (a8 s.H k (aa (.arr e 1 c []))) b (aa (.cells (A.set j (.bf k 1 c 0 0)))))) id e';by_cases Q:id=b
 ·subst Q;rw[cd] at m;cases m;rw[cb _ _ _ _ f];obtain⟨X,n,P,ty,T,U,g3,M⟩:=h.heap id _ Z;refine⟨X,n,P,ty,q _ _ T,U,by simpa using g3,λi v u F N=>?_⟩;by_cases r:i=j
  ·subst r;have E:=(bR.1 I).1;rw[gC E] at F;cases F;have z:=M i _ u I N;cases z with
   |t _ _ B=>cases B;exact .iS k 1 c (cR _) (cd _ _ _)
  rw[jr (Ne.symm r)] at F;exact R _ _ (M i v u F N)
 rw[cb _ _ _ _ Q] at m;by_cases r:id=k
 ·subst r;rw[cd] at m;cases m;exact⟨cd _ _ _,cR _,Or.inl ⟨cd _ _ _,rfl⟩⟩
 rw[cb _ _ _ _ r] at m;obtain⟨z,B⟩:=h.heap id e' m;exact⟨by rw[cb _ _ _ _ r];exact z,B.mono (Ext.refl _ _) (λb _=>y b) L (q id) (Shaped.refl _ _) λ_ _=>rfl⟩
def mQ(k:Nat):Nat->Bool:=λid=>bif b5 id k then ak else ab
def tb(k:Nat)(v:V):V:=bif v.ok (mQ k) then v else .dh
def Ir(k:Nat):E->Option E
 | .cells cs=>bif hh (mQ k) cs then aa (.cells cs) else aj
 | .a7 d m gen a c=>bif vt (mQ k) c then aa (.a7 d m gen a c) else aj
 |e=>aa e
theorem CM(h:i≠k):mQ k i=ab:=by
 have:b5 i k=ak:=by cases a:b5 i k with
  |false=>rfl
  |true=>exact bB (de a) h
 simp[mQ,this]
theorem ye(h:mQ k i=ab):i≠k:=by intro e;subst e;simp[mQ] at h
def E.nN(n:Nat):E->E
 | .arr e _ z r=> .arr e n z r
 | .a7 Γ m _ r a=> .a7 Γ m n r a
 |e=>e
abbrev E.Ep:E->E:=E.nN 1
def E.qs:E->List (Nat×Nat×V)
 | .a7 _ _ _ _ a=>a
 |_=>[]
theorem cX.nN{β':Map}(h:cX β w X k e)(d:1<=n)(z:e.gen=aa g)(s:β k=aa (q,g))(y:β' L=aa (q,n))(H: ∀b,β'.n L b↔β.n k b)(Q: ∀b,Z b->X b)
  (W: ∀i j v,(i,j,v)∈e.qs-> ∀u,bq β w X v u->bq β' w Z v u):cX β' w Z L (e.nN n):=by
 cases e with
 |cells=>cases z
 |arr ty f R l=>
  cases z;refine⟨d,?_⟩;rcases h.2 with ⟨aL,a2⟩|⟨b,A,aL,a2,a3,a4,a5⟩
  ·rw[s] at aL;cases aL;exact .inl ⟨y,a2⟩
  rw[s] at aL;cases aL;exact .inr ⟨b,A,y,a2,a3,a4,λi j a x u o p r=>(a5 i j a x u o p r).mono (Ext.refl _ _) λb _=>Q b⟩
 |a7 D m f l I=>
  cases z;refine⟨d,?_⟩;rcases h.2 with ⟨aL,a2,a0⟩|⟨b,A,B,aL,a2,a3,a4,a5,kg,jA,fV⟩
  ·rw[s] at aL;cases aL;exact .inl ⟨y,a2,λc t=>a0 c ((H c).1 t)⟩
  rw[s] at aL;cases aL;exact .inr ⟨b,A,B,y,a2,a3,a4,λi j a x u o p r=>⟨λv F=>⟨W i j v F _ ((a5 i j a x u o p r).1 v F).1,((a5 i j a x u o p r).1 v F).2⟩,λG=>((a5 i j a x u o p r).2 G).mono (Ext.refl _ _) (λc _=>Q c) λ_ _=>rfl⟩,kg,jA,λc=>(H c).trans (fV c)⟩
theorem Pe{v:V}(h:bq W w X v u)(a: ∀b,Z b->X b):bq (W.put k (aa (q,g+1))) w Z (tb k v) u:=by
 unfold tb;cases c:v.ok (mQ k) with
 |false=>exact .dh _
 |true=>exact h.under a (λid hid=>fR _ _ _ _ (ye hid)) c
theorem Oq{y:E}(h:cX W w X i x)(e: ∀b,Z b->X b)(l:i≠k)(a:Ir k x=aa y):cX (W.put k (aa (q,g+1))) w Z i y:=by
 unfold Ir at a;split at a
 ·rename_i cs;cases c:hh (mQ k) cs with
  |false=>rw[c] at a;cases a
  |true=>rw[c] at a;cases a;exact h.under e (λi hid=>fR _ _ _ _ (ye hid)) (CM l) c
 ·rename_i n;cases c:vt (mQ k) n with
  |false=>rw[c] at a;cases a
  |true=>rw[c] at a;cases a;exact h.under e (λi hid=>fR _ _ _ _ (ye hid)) (CM l) c
 cases a;refine h.under e (u:=mQ k) (λi hid=>fR _ _ _ _ (ye hid)) (CM l) ?_;cases x with
 |cells cs=>rename_i o _;exact bB rfl (o cs)
 |arr=>rfl
 |a7 p m gen d n=>rename_i _ o;exact bB rfl (o p m gen d n)
def rn(k:Nat)(H:Nat->Option E):Nat->Option E:=λid=>match H id with
 |some e=>Ir k e
 |none=>aj
theorem Rel.Tm{K:Ctx}{s':S}{a:Act}(h:Rel K β s a w)(k g gen:Nat){G:Option Nat}(B:s.H k=aa e)(f:e.gen=aa gen)(L:e.qs=[])(Q:k<K.dV)(R:K.ha k=aa (G,g))
  (n:s'.u=s.u) (W:s'.H k=aa (e.nN (g+1))) (q:Option Nat) (F:β k=aa (q,gen))
  (D: ∀id x,id≠k->s'.H id=aa x->s.H id≠aj/\ ∀X,(∀b,X b->own K β s.H b)->cX (β.put k (aa (q,g+1))) w X id x)
  (P: ∀i,∀X,(∀b,X b->own K β s.H b)->bq (β.put k (aa (q,g+1))) w X (s'.t i) (a.tmps.getD i undef)):Rel K (β.put k (aa (q,g+1))) s' a w:=by
 have Z:1<=gen:=(pP (h.heap k _ B).2 f).1;have o:=(h.heap k _ B).1;have p:1<=g/\ ∀b,q=aa b->G=aa b\/K.w0.heap.size<=b:=by
  rcases h.base k Q with I|⟨U,V,q2,g2,aL,a2,a3,a4,a5⟩
  ·rw[F,R] at I;cases I;exact⟨Z,λb bb=> .inl bb⟩
  rw[R] at aL;cases aL;rw[F] at a3;cases a3;exact⟨a2,a5⟩
 have c: ∀id b,At (β.put k (aa (q,g+1))) id b->At β id b:=λid b bb=>by
  rcases bb with ⟨T,bb⟩|bb
  ·by_cases d:id=k
   ·subst d;rw[kn] at bb;cases bb;exact .inl ⟨gen,F⟩
   rw[fR _ _ _ _ d] at bb;exact .inl ⟨T,bb⟩
  exact .inr bb
 have l: ∀b,own K (β.put k (aa (q,g+1))) s'.H b->own K β s.H b:=by
  rintro b (m|⟨id,r,z⟩)
  ·exact .inl m
  refine .inr ⟨id,?_,c id b z⟩;by_cases d:id=k
  ·subst d;rw[B];simp
  cases m:s'.H id with
  |none=>exact bB m r
  |some x=>exact(D id x d m).1
 refine {h with base:= ?_,low:= ?_,eF:= ?_,e9:=λid b hid=>h.e9 id b (n▸hid),inj:= ?_,fresh:=λid b bb=>h.fresh id b (c id b bb),heap:= ?_,dC:=λi=>P i _ l}
 ·intro id hid;by_cases d:id=k
  ·subst d;exact .inr ⟨G,g,q,g+1,R,p.1,cd _ _ _,pz _,p.2⟩
  rw[fR _ _ _ _ d];exact h.base id hid
 ·intro id hid;rw[n];exact h.low id hid
 ·intro id hid;rw[n] at hid;rw[fR _ _ _ _ (by intro e;subst e;rw[o] at hid;cases hid)];exact h.eF id hid
 ·intro id A b r z;exact h.inj id A b (c id b r) (c A b z)
 intro id x m;by_cases d:id=k
 ·subst d;rw[W] at m;cases m;exact⟨by rw[n];exact o,(h.heap id _ B).2.nN O f F (cd _ _ _) (λ_=>Iff.rfl) l λi j v M=>by rw[L] at M;cases M⟩
 obtain⟨r,z⟩:=D id x d m;refine⟨?_,z _ l⟩;rw[n];cases N:s.H id with
 |none=>exact bB N r
 |some y=>exact(h.heap id y N).1
theorem NS(l:W k=aa (q,gen))(h:bq W w X (.bf k gen i L m) u):bq (W.put k (aa (q,g+1))) w Z (.bf k (g+1) i L m) u:=by
 rcases d4 h l with ⟨c,b,n,d,rfl,a,o,p,e,r,s⟩|⟨a,rfl,rfl,rfl⟩
 ·subst a;exact .bf k (g+1) i L m c b n d O (cd _ _ _) o p e r s
 subst a;exact .iS k (g+1) i O (cd _ _ _)
theorem FX{K:Ctx}(i k g gen c d l:Nat)(L:dt k K.dV=ab)(Q:s.t i= .bf k gen c d l)(A:s.H k=aa e)(B:e.gen=aa gen)(o:e.qs=[])(p: ∃q,K.ha k=aa (q,g)):
  s.le K {t:=a8 (λj=>tb k (s.t j)) i (.bf k (g+1) c d l),H:=a8 (rn k s.H) k (aa (e.nN (g+1))),u:=s.u}:=by
 intro R a w h;obtain⟨W,p⟩:=p;obtain⟨_,q,F⟩:=pP (h.heap k _ A).2 B;refine⟨_,h.Tm (s':={t:=a8 (λj=>tb k (s.t j)) i (.bf k (g+1) c d l),H:=a8 (rn k s.H) k (aa (e.nN (g+1))),u:=s.u}) k g gen A B o (by simpa[Nat.blt_eq] using L) p rfl (cd _ _ _) q F ?_ ?_⟩
 ·intro id x n m;have m:a8 (rn k s.H) k (aa (e.nN (g+1))) id=aa x:=m;rw[cb _ _ _ _ n] at m;unfold rn at m;cases r:s.H id with
  |none=>rw[r] at m;cases m
  |some y=>
   rw[r] at m;exact⟨aX,λX z=>Oq (h.heap id y r).2 z n m⟩
 intro j X z;show bq _ w X (a8 (λj=>tb k (s.t j)) i (.bf k (g+1) c d l) j) _;by_cases G:j=i
 ·subst G;rw[cd];exact NS F (Q▸h.dC j)
 rw[cb _ _ _ _ G];exact Pe (h.dC j) z
theorem oh{K:Ctx}(b j k g gen c l m:Nat){cs:List V}(cY:dt k K.dV=ab)(A:s.H b=aa (.cells cs))(B:cs[j]? =aa (.bf k gen c l m))(F:hh (mQ k) (cs.set j .dh)=ab)
  (z:s.H k=aa e) (G:e.gen=aa gen) (L:e.qs=[]) (Q: ∃q,K.ha k=aa (q,g)):
  s.le K {t:=λj=>tb k (s.t j),H:=a8 (a8 (rn k s.H) k (aa (e.nN (g+1)))) b (aa (.cells (cs.set j (.bf k (g+1) c l m)))),u:=s.u}:=by
 intro R a w h;obtain⟨ug,Q⟩:=Q;obtain⟨_,q,D⟩:=pP (h.heap k _ z).2 G;have n:b≠k:=by intro e';subst e';rw[A] at z;cases z;cases G
 refine⟨_,h.Tm (s':={t:=λj=>tb k (s.t j),H:=a8 (a8 (rn k s.H) k (aa (e.nN (g+1)))) b (aa (.cells (cs.set j (.bf k (g+1) c l m)))),u:=s.u}) k g gen z G L (by simpa[Nat.blt_eq] using cY) Q rfl (by show a8 _ b _ k=_;rw[cb _ _ _ _ (Ne.symm n),cd]) q D ?_ ?_⟩
 ·intro id x o d;have d:a8 (a8 (rn k s.H) k (aa (e.nN (g+1)))) b (aa (.cells (cs.set j (.bf k (g+1) c l m)))) id=aa x:=d;by_cases p:id=b
  ·subst p;rw[cd] at d;cases d;refine⟨by rw[A];simp,λX r=>?_⟩;have I:=(h.heap id _ A).2;have h6:cX R w (own K R s.H) id (.cells (cs.set j .dh)):=I.set B λu _=> .dh u;have o9:=h6.under (u:=mQ k) (β':=R.put k (aa (q,g+1))) r (λid hid=>fR _ _ _ _ (ye hid)) (CM n) F;obtain⟨je,us,ty,M,N,g3,g4⟩:=o9;obtain⟨cS,sq,ajZ,P,T,f3,f4⟩:=I;rw[fR _ _ _ _ n,P] at M;cases M;rw[T] at N;cases N;refine⟨_,_,_,by rw[fR _ _ _ _ n];exact P,T,by simpa using f3,λi v u W hu=>?_⟩;by_cases U:i=j
   ·subst U;have Z:=(bR.1 B).1;rw[gC Z] at W;cases W;exact NS D (f4 i _ u B hu)
   rw[jr (Ne.symm U)] at W
   grind
  rw[cb _ _ _ _ p,cb _ _ _ _ o] at d;unfold rn at d;cases f:s.H id with
  |none=>rw[f] at d;cases d
  |some y=>
   rw[f] at d;exact⟨aX,λX r=>Oq (h.heap id y f).2 r o d⟩
 intro j X r;exact Pe (h.dC j) r
inductive nY (p:V->V->Prop):V->V->Prop
 |same (v:V):nY p v v
 |put {v eg:V} (h:p v eg):nY p v eg
 |agg {cs Jc:List V} (cI:Jc.length=cs.length) (h: ∀(i:Nat) c RT,cs[i]? =aa c->Jc[i]? =aa RT->nY p c RT):nY p (.agg cs) (.agg Jc)
theorem IC{p:V->V->Prop}{T:Map}{a:World}(e: ∀v u,bq T w X v u->bq W a Z v u)(k: ∀v x u,p v x->bq T w X v u->bq W a Z x u){v x:V}(h:nY p v x): ∀u,bq T w X v u->bq W a Z x u:=by
 induction h with
 |same v=>exact e v
 |put h=>exact λu=>k _ _ u h
 |agg l h m=>
  intro u d;cases d with
  |agg _ n o q=>
   refine .agg _ n O λi r u c d=>?_;have hi:=(bR.1 c).1;have bT:=bp (show i<_ by rw[<-l];exact hi);exact m i _ r bT c u (q i _ u bT d)
def xv(p:V->V->Prop)(e d:E):Prop:=d=e\/ ∃cs a,e= .cells cs/\d= .cells a/\a.length=cs.length/\ ∀(i:Nat) c h,cs[i]? =aa c->a[i]? =aa h->nY p c h
theorem xv.zH{p:V->V->Prop}{T:Map}(c: ∀x,T n=aa x->W n=aa x)(l: ∀e,cX T w X n e->cX W w Z n e)(m: ∀v u,bq T w X v u->bq W w Z v u)(o: ∀v d u,p v d->bq T w X v u->bq W w Z d u){e':E}(h:xv p e e')(k:cX T w X n e):cX W w Z n e':=by
 rcases h with rfl|⟨cs,q,rfl,rfl,r,h⟩
 ·exact l _ k
 obtain⟨b,s,ty,y,z,G,A⟩:=k;refine⟨b,s,ty,c _ y,z,O,λi B u a F=>?_⟩;have hi:=(bR.1 a).1;have bT:=bp (show i<_ by rw[<-r];exact hi);exact IC m o (h i _ B bT a) u (A i _ u bT F)
theorem XC{K:Ctx}(Z:Nat->V)(o:Nat->Option E)(k gen d:Nat){e:TypeId}{c:List (List T)}(F:db K.dV k=ab)(D:s.H k=aa (.arr e gen d c))
  (I: ∀i,nY (λv p=>v= .bf k gen d 0 c.length/\p= .t (.bD c)) (s.t i) (Z i)) (M:o k=aj)
  (f: ∀id q,o id=aa q-> ∃r,s.H id=aa r/\xv (λv p=>v= .bf k gen d 0 c.length/\p= .t (.bD c)) r q):s.le K {t:=Z,H:=o,u:=s.u}:=by
 intro l a w h;have N:=eO F;have m: ∀n,own K l o n->own K l s.H n:=by
  rintro n (G|⟨id,A,x⟩)
  ·exact .inl G
  cases B:o id with
  |none=>exact bB B A
  |some q=>obtain⟨r,L,_⟩:=f id q B;exact .inr ⟨id,by rw[L];simp,x⟩
 have y: ∀n,At l k n-> ¬own K l o n:=by
  rintro n z (G|⟨id,A,x⟩)
  ·obtain⟨hr,P⟩:=h.k7 n G;rcases(h.fresh k n z).1 with Q|U
   ·exact P Q
   omega
  have:=h.inj _ _ _ x z
  grind
 have R:=(h.heap k _ D).2;have g: ∀v u,bq l w (own K l s.H) v u->bq l w (own K l o) v u:=λv u W=>W.mono (Ext.refl _ _) (λb _=>m b) (ed.refl _) (Shaped.refl _ _);have j: ∀v p u,(v= .bf k gen d 0 c.length/\p= .t (.bD c))->bq l w (own K l s.H) v u->bq l w (own K l o) p u:=by
  rintro v p u ⟨rfl,rfl⟩ W;exact .t _ _ (R.read W m y)
 refine⟨l,{h with heap:= ?_,dC:= ?_}⟩
 ·intro id q X;obtain⟨r,A,x⟩:=f id q X;obtain⟨L,h4⟩:=h.heap id r A;exact⟨L,x.zH (λ_ h=>h) (λe B=>B.mono (Ext.refl _ _) (λb _=>m b) (ed.refl _) (λ_ h=>h) (Shaped.refl _ _) λ_ _=>rfl) g j h4⟩
 intro i;exact IC g j (I i) _ (h.dC i)
theorem Y2{K:Ctx}(mU:Nat->V)(z:Nat->Option E)(k cz gen l X:Nat){B:E}(U:db K.dV k=ab)(Z:k≠cz)(N:s.H k=aa B)(bK:B.gen=aa gen)(hu:s.u cz=ak)
  (gJ: ∀i,nY (λv L=>v= .bf k gen l 0 X/\L= .bf cz 1 l 0 X) (s.t i) (mU i)) (agR:z k=aj) (f:z cz=aa B.Ep)
  (hH: ∀id e',id≠cz->z id=aa e'-> ∃B,s.H id=aa B/\xv (λv L=>v= .bf k gen l 0 X/\L= .bf cz 1 l 0 X) B e'):
  s.le K {t:=mU,H:=z,u:=a8 s.u cz ab}:=by
 intro A a w h;have rN:=eO U;obtain⟨ko,q,dI⟩:=pP (h.heap k _ N).2 bK;have JH:=(h.heap k _ N).1;have cC:=h.eF cz hu;have akC:K.dV<=cz:=by
  apply Nat.le_of_not_lt;intro hlt;rw[h.low cz hlt] at hu;cases hu
 let d:=A.move k cz gen q;have dc:d cz=aa (q,1):=OW _ _ _ _ _;have cS:d k=aa (aj,gen+1):=OV _ _ _ _ _ Z;have P: ∀id,id≠k->id≠cz->d id=A id:=λid m r=>MS _ _ _ _ _ _ m r;have o: ∀id b,At d id b->(id=cz/\At A k b)\/(id≠k/\id≠cz/\At A id b):=by
  intro id b Q;exact aej Z dI Q
 have D:ed A d:=by
  intro id q2 g F
  grind
 have y: ∀b,own K d z b->own K A s.H b:=by
  rintro b (F|⟨id,m,r⟩)
  ·exact .inl F
  rcases o id b r with ⟨rfl,p⟩|⟨p,I,G⟩
  ·exact .inr ⟨k,by rw[N];simp,p⟩
  cases T:z id with
  |none=>exact bB T m
  |some e'=>obtain⟨B,R,_⟩:=hH id e' I T;exact .inr ⟨id,by rw[R];simp,G⟩
 have hm: ∀v u,bq A w (own K A s.H) v u->bq d w (own K d z) v u:=λv u bW=>bW.mono (Ext.refl _ _) (λb _=>y b) D (Shaped.refl _ _);have hp: ∀v L u,(v= .bf k gen l 0 X/\L= .bf cz 1 l 0 X)->bq A w (own K A s.H) v u->bq d w (own K d z) L u:=by
  rintro v L u ⟨rfl,rfl⟩ bW;rcases d4 bW dI with ⟨cap,b,n,lF,rfl,W,hw,hs,tE,cI,DA⟩|⟨W,m,r,rfl⟩
  ·subst W;exact .bf cz 1 l 0 _ cap b n lF (cR _) dc hw hs tE cI DA
  subst W;rw[r];exact .iS cz 1 l (cR _) dc
 refine⟨d,{h with base:= ?_,low:= ?_,eF:= ?_,e9:= ?_,inj:= ?_,fresh:= ?_,heap:= ?_,dC:= ?_}⟩
 ·exact h.base.keep λid hid=>P id O O
 ·intro id hid;show a8 s.u cz ab id=ab;rw[cb _ _ _ _ O];exact h.low id hid
 ·intro id hid;have c:a8 s.u cz ab id=ak:=hid;by_cases m:id=cz
  ·subst m;rw[cd] at c;cases c
  rw[cb _ _ _ _ m] at c;rw[P id (by intro e;subst e;rw[JH] at c;cases c) m];exact h.eF id c
 ·intro id b hid Q;have c:a8 s.u cz ab id=ak:=hid;rcases Q with ⟨m,_⟩|⟨m,_,Q⟩
  ·subst m;rw[cd] at c;cases c
  rw[cb _ _ _ _ m] at c;exact h.e9 id b c Q
 ·intro id lX b m r;rcases o id b m with ⟨rfl,p⟩|⟨p,I,G⟩<;>rcases o lX b r with ⟨e2,R⟩|⟨R,o9,qi⟩
  ·exact e2.symm
  ·exact bB (h.inj _ _ b qi p) R
  ·subst e2;exact bB (h.inj _ _ b G R) p
  exact h.inj _ _ b G qi
 ·intro id b Q;rcases o id b Q with ⟨rfl,p⟩|⟨p,I,G⟩
  ·refine⟨?_,(h.fresh _ _ p).2⟩;exact(h.fresh _ _ p).1
  exact h.fresh id b G
 ·intro id e' F;have M:z id=aa e':=F;clear F;show a8 s.u cz ab id=ab/\cX d w (own K d z) id e';by_cases m:id=cz
  ·subst m;rw[f] at M;cases M;exact⟨cd _ _ _,(h.heap k _ N).2.nN (cR _) bK dI dc (λb=>by simp[d,Map.move]) y λ_ _ v _ u=>hm v u⟩
  have r:id≠k:=by intro e;subst e;rw[agR] at M;cases M
  obtain⟨B,G,R⟩:=hH id e' m M;obtain⟨p,I⟩:=h.heap id B G;rw[cb _ _ _ _ m];refine⟨p,R.zH (λx F=>by rw[P id r m];exact F) (λe T=>T.mono (Ext.refl _ _) (λb _=>y b) D (λx F=>by rw[P id r m];exact F) (Shaped.refl _ _) (λ_ _=>rfl) λb=>afo _ _ _ _ _ _ _ r m) hm hp I⟩
 intro j;exact IC hm hp (gJ j) _ (h.dC j)
mutual
def qP(k g z n:Nat)(c:V):V->V×List dE
 | .bf h gen a d e=>match b5 h k&&b5 d 0 with
  |true=>(c,[.q gen g,.q a z,.q e n])
  |false=>(.bf h gen a d e,[])
 | .agg cs=>(.agg (nJ k g z n c cs).1,(nJ k g z n c cs).2)
 |v=>(v,[])
def nJ(k g z n:Nat)(a:V):List V->List V×List dE
 | []=>([],[])
 |c::cs=>((qP k g z n a c).1::(nJ k g z n a cs).1,(qP k g z n a c).2++(nJ k g z n a cs).2)
end
theorem F7(k g z n:Nat)(a:V): ∀cs,(nJ k g z n a cs).1.length=cs.length
 | []=>rfl
 |c::cs=>by simp[nJ,F7 k g z n a cs]
mutual
theorem QJ(k g z n:Nat)(c:V): ∀v,cy (qP k g z n c v).2->nY (λa b=>a= .bf k g z 0 n/\b=c) v (qP k g z n c v).1
 | .bf l gen i e m,h=>by
  unfold qP at h⊢;cases d:b5 l k&&b5 e 0 with
  |false=>exact .same _
  |true=>
   simp only[d] at h⊢;simp only[b9] at d;obtain⟨rfl,rfl,rfl,_⟩:=h;have o:=de d.1;have p:=de d.2;subst o;subst p;exact .put ⟨rfl,rfl⟩
 | .agg cs,h=>by
  simp only[qP] at h⊢;exact .agg (F7 _ _ _ _ _ _) (Ig k g z n c cs h)
 | .t _,_| .bL _,_| .ref _ _,_| .aS _,_| .cK _ _ _ _ _,_| .fn _ _,_| .dh,_=>by simp only[qP];exact .same _
theorem Ig(k g z n:Nat)(d:V): ∀cs,cy (nJ k g z n d cs).2-> ∀(i:Nat) c l,cs[i]? =aa c->(nJ k g z n d cs).1[i]? =aa l->nY (λa b=>a= .bf k g z 0 n/\b=d) c l
 | [],_,i,c,l,h,_=>by simp at h
 |o::cs,m,0,c,l,h,e=>by
  simp only[nJ] at m e;simp at h e;subst h;subst e;exact QJ k g z n d o (cy.app m).1
 |o::cs,m,i+1,c,l,h,e=>by simp only[nJ] at m e;simp at h e;exact Ig k g z n d cs (cy.app m).2 i c l h e
end
def jk(k g z n:Nat)(a:V)(s:S):List Nat->List (Nat×V)×List dE
 | []=>([],[])
 |i::is=>((i,(qP k g z n a (s.t i)).1)::(jk k g z n a s is).1,(qP k g z n a (s.t i)).2++(jk k g z n a s is).2)
def hn(k g z n:Nat)(a:V)(s:S):List Nat->List (Nat×Option E)×List dE
 | []=>([],[])
 |b::c=>match s.H b with
  |some (.cells cs)=>((b,aa (.cells (nJ k g z n a cs).1))::(hn k g z n a s c).1,(nJ k g z n a cs).2++(hn k g z n a s c).2)
  |_=>hn k g z n a s c
theorem Ie{k g z n:Nat}{x:V}{s:S}: ∀{is:List Nat},cy (jk k g z n x s is).2-> ∀i v,(i,v)∈(jk k g z n x s is).1->nY (λa b=>a= .bf k g z 0 n/\b=x) (s.t i) v
 |i0::is,c,i,v,h=>by
  simp only[jk] at c h;rcases ez.1 h with h|h
  ·cases h;exact QJ _ _ _ _ _ _ (cy.app c).1
  exact Ie (cy.app c).2 i v h
theorem CJ{k g z n:Nat}{x:V}{s:S}: ∀{i:List Nat},cy (hn k g z n x s i).2-> ∀b e,(b,e)∈(hn k g z n x s i).1-> ∃m o,s.H b=aa m/\e=aa o/\xv (λa b=>a= .bf k g z 0 n/\b=x) m o
 |p::i,c,b,e,h=>by
  unfold hn at c h;split at h
  ·rename_i cs d;simp only[d] at c;rcases ez.1 h with h|h
   ·cases h;exact⟨_,_,d,rfl,.inr ⟨cs,_,rfl,rfl,F7 _ _ _ _ _ _,Ig _ _ _ _ _ _ (cy.app c).1⟩⟩
   exact CJ (cy.app c).2 b e h
  rename_i d;split at c
  ·rename_i cs l;exact bB l (d cs)
  exact CJ c b e h
theorem PH{k:Nat}: ∀{l:List Nat},k∈l->jv k l=ab
 |x::l,h=>by
  simp only[jv];rcases ez.1 h with rfl|h
  ·simp
  cases b5 x k with
  |true=>rfl
  |false=>exact PH h
theorem xM(h:(!jv k l)=ab):k∉l:=λa=>by rw[PH a] at h;cases h
theorem Qd{cz:Nat}(h:(!Nat.beq k cz)=ab):k≠cz:=λe=>by subst e;simp at h
theorem xK{k g z n:Nat}{x:V}{s:S}: ∀{a:List Nat} {b:Nat} {e:Option E},(b,e)∈(hn k g z n x s a).1->b∈a
 |c::a,b,e,h=>by
  unfold hn at h;split at h
  ·rcases ez.1 h with h|h
   ·cases h;exact eD
   exact eo _ (xK h)
  exact eo _ (xK h)
theorem afN{K:Ctx}{e:TypeId}{a:List (List T)}{L:List Nat}(h:db K.dV k=ab)(m:s.H k=aa (.arr e gen n a))(o:k∉r)
  (p:cy (jk k gen n a.length (.t (.bD a)) s L).2) (q:cy (hn k gen n a.length (.t (.bD a)) s r).2):
  s.le K ((⟨(jk k gen n a.length (.t (.bD a)) s L).1,(k,aj)::(hn k gen n a.length (.t (.bD a)) s r).1,[]⟩:c8).app s):=by
 refine XC _ _ k gen n h m (λi=>?_) ?_ λid e' c=>?_
 ·rcases om (jk k gen n a.length (.t (.bD a)) s L).1 s.t i with ⟨_,d⟩|⟨v,l,d⟩
  ·rw[d];exact .same _
  rw[d];exact Ie p i v l
 ·show dw (a8 s.H k aj) _ k=aj;rw[nA _ _ _ λv w=>o (xK w),cd]
 have c:dw (a8 s.H k aj) (hn k gen n a.length (.t (.bD a)) s r).1 id=aa e':=c;rcases om (hn k gen n a.length (.t (.bD a)) s r).1 (a8 s.H k aj) id with ⟨_,d⟩|⟨v,l,d⟩
 ·rw[d] at c;by_cases hid:id=k
  ·subst hid;rw[cd] at c;cases c
  rw[cb _ _ _ _ hid] at c;exact⟨e',c,.inl rfl⟩
 rw[d] at c;subst c;obtain⟨x,y,z,A,B⟩:=CJ q id _ l
 grind
theorem Rm{K:Ctx}(o:db K.dV k=ab)(d:k≠L)(x:s.H k=aa e)(y:e.gen=aa gen)(z:s.u L=ak)(A:k∉r)(p:L∉r)
  (B:cy (jk k gen n m (.bf L 1 n 0 m) s l).2) (F:cy (hn k gen n m (.bf L 1 n 0 m) s r).2):
  s.le K ((⟨(jk k gen n m (.bf L 1 n 0 m) s l).1,(k,aj)::(L,aa e.Ep)::(hn k gen n m (.bf L 1 n 0 m) s r).1,[(L,ab)]⟩:c8).app s):=by
 refine Y2 _ _ k L gen n m o d x y z (λi=>?_) ?_ ?_ λid e' h a=>?_
 ·rcases om (jk k gen n m (.bf L 1 n 0 m) s l).1 s.t i with ⟨_,c⟩|⟨v,q,c⟩
  ·rw[c];exact .same _
  rw[c];exact Ie B i v q
 ·show dw (a8 (a8 s.H k aj) L _) _ k=aj;rw[nA _ _ _ λv w=>A (xK w),cb _ _ _ _ d,cd]
 ·show dw (a8 (a8 s.H k aj) L _) _ L=_;rw[nA _ _ _ λv w=>p (xK w),cd]
 have a:dw (a8 (a8 s.H k aj) L (aa e.Ep)) (hn k gen n m (.bf L 1 n 0 m) s r).1 id=aa e':=a;rcases om (hn k gen n m (.bf L 1 n 0 m) s r).1 (a8 (a8 s.H k aj) L (aa e.Ep)) id with ⟨_,c⟩|⟨v,q,c⟩
 ·rw[c,cb _ _ _ _ h] at a;by_cases hid:id=k
  ·subst hid;rw[cd] at a;cases a
  rw[cb _ _ _ _ hid] at a;exact⟨e',a,.inl rfl⟩
 rw[c] at a;subst a;obtain⟨e,G,Q,R,W⟩:=CJ F id _ q
 grind
theorem XA{K:Ctx}(B:Nat->V)(k:Nat){G:List T}(L:db K.dV k=ab)(X:s.H k=aa (.cells (G.map .t)))
  (Z: ∀i,B i=s.t i\/ ∃c,s.t i= .ref k c/\B i= .aS (G.drop c)):s.le K {t:=B,H:=a8 s.H k aj,u:=s.u}:=by
 intro q a w h;have f:=eO L;obtain⟨b,p,ty,F,g,R,v⟩:=(h.heap k _ X).2;have m: ∀Q,own K q (a8 s.H k aj) Q->own K q s.H Q:=by
  rintro Q (r|⟨id,n,o⟩)
  ·exact .inl r
  by_cases hid:id=k
  ·subst hid;rw[cd] at n;exact bB rfl n
  rw[cb _ _ _ _ hid] at n;exact .inr ⟨id,n,o⟩
 have y: ¬own K q (a8 s.H k aj) b:=by
  rintro(r|⟨id,n,o⟩)
  ·obtain⟨hr,D⟩:=h.k7 b r;rcases(h.fresh k b (.inl ⟨_,F⟩)).1 with d|E
   ·exact D d
   omega
  have:=h.inj _ _ _ o (.inl ⟨_,F⟩);subst this;rw[cd] at n;exact n rfl
 refine⟨q,{h with heap:= ?_,dC:= ?_}⟩
 ·intro id e' l;have l:a8 s.H k aj id=aa e':=l;by_cases hid:id=k
  ·subst hid;rw[cd] at l;cases l
  rw[cb _ _ _ _ hid] at l;obtain⟨n,o⟩:=h.heap id e' l;exact⟨n,o.mono (Ext.refl _ _) (λb _=>m b) (ed.refl _) (λ_ h=>h) (Shaped.refl _ _) λ_ _=>rfl⟩
 intro j;show bq q w _ (B j) _;rcases Z j with I|⟨c,n,o⟩
 ·rw[I];exact(h.dC j).mono (Ext.refl _ _) (λb _=>m b) (ed.refl _) (Shaped.refl _ _)
 rw[o];have W:=h.dC j;rw[n] at W;obtain⟨cS,z,M⟩:=sL W;rw[F] at z;cases z;rw[M];have bb:=(h.fresh k b (.inl ⟨_,F⟩)).2;refine .aS _ b c (λi=>p.getD (c+i) undef) bb y (λi N=>?_) λi x r=>?_
 ·have d:c+i<p.size:=by simp at N R;omega
  simp[World.cell?,g,d]
 have A:G[c+i]? =aa x:=by simpa using r
 have d:c+i<p.size:=by have:=(bR.1 A).1;simp at R;omega
 have P:=v (c+i) (.t x) p[c+i] (by simp[A]) (by simp[d]);have e:p.getD (c+i) undef=p[c+i]:=by simp[d]
 rw[e];cases P with
 |t _ _ U=>exact U.mono (Ext.refl _ _) λb _=>m b
def Dn(k:Nat)(c:List T)(s:S):List Nat->Option (List (Nat×V))
 | []=>aa []
 |i::is=>match s.t i with
  | .ref d a=>match b5 d k,Dn k c s is with
   |true,aa l=>aa ((i,.aS (c.drop a))::l)
   |_,_=>aj
  |_=>aj
theorem QN{k:Nat}{a:List T}{s:S}: ∀{is:List Nat} {l:List (Nat×V)},Dn k a s is=aa l-> ∀i v,(i,v)∈l-> ∃c,s.t i= .ref k c/\v= .aS (a.drop c)
 | [],l,h,i,v,hm=>by cases h;cases hm
 |i0::is,l,h,i,v,hm=>by
  unfold Dn at h;split at h
  ·rename_i o c d;split at h
   ·rename_i p e m;cases h;have n:=de e;subst n;rcases ez.1 hm with hm|hm
    ·cases hm;exact⟨c,d,rfl⟩
    exact QN m i v hm
   cases h
  cases h
def Dg{k:Type}:List k->Bool
 | []=>ab
 |_::_=>ak
theorem HM{k:Type}{l:List k}(h:Dg l=ab):l=[]:=by
 cases l with
 |nil=>rfl
 |cons=>cases h
def mr(C:eb)(h:cB)(s:S):Option (Option (c8×List dE)):=
 match h with
 | .grow i k e=>match s.t i,s.u k,dL C.cq e with
  | .t .fT,ak,aa j=>aa (aa (⟨[(i,.bf k 1 j.size 0 0)],[(k,aa (.arr e 1 j.size []))],[(k,ab)]⟩,[]))
  |_,_,_=>aa aj
 | .len i n=>match s.t i with
  | .bf k gen c G L=>aa (aa (⟨[(i,.bf k gen c G n)],[],[]⟩,[.p (L=n)]))
  |_=>aa aj
 | .tt k is=>match s.H k with
  |some (.cells D)=>match mw D,db C.dV k with
   |some cs,ab=>match Dn k cs s is with
    |some l=>aa (aa (⟨l,[(k,aj)],[]⟩,[]))
    |none=>aa aj
   |_,_=>aa aj
  |_=>aa aj
 | .bk k is F=>match s.H k with
  |some (.arr _ gen c a)=>match db C.dV k&& !jv k F with
   |true=>aa (aa (⟨(jk k gen c a.length (.t (.bD a)) s is).1,(k,aj)::(hn k gen c a.length (.t (.bD a)) s F).1,[]⟩,(jk k gen c a.length (.t (.bD a)) s is).2++(hn k gen c a.length (.t (.bD a)) s F).2))
   |false=>aa aj
  |_=>aa aj
 | .dT k r is F=>match s.H k,s.u r with
  |some (.arr e gen c a),ak=>match db C.dV k&&(!Nat.beq k r&&(!jv k F&& !jv r F)) with
   |true=>aa (aa (⟨(jk k gen c a.length (.bf r 1 c 0 a.length) s is).1,(k,aj)::(r,aa (.arr e 1 c a))::(hn k gen c a.length (.bf r 1 c 0 a.length) s F).1,[(r,ab)]⟩,
     (jk k gen c a.length (.bf r 1 c 0 a.length) s is).2++(hn k gen c a.length (.bf r 1 c 0 a.length) s F).2))
   |false=>aa aj
  |some (.a7 d m gen a []),ak=>match db C.dV k&&(!Nat.beq k r&&(!jv k F&& !jv r F)) with
   |true=>aa (aa (⟨(jk k gen (aU d m).size a.length (.bf r 1 (aU d m).size 0 a.length) s is).1,(k,aj)::(r,aa (.a7 d m 1 a []))::(hn k gen (aU d m).size a.length (.bf r 1 (aU d m).size 0 a.length) s F).1,[(r,ab)]⟩,
     (jk k gen (aU d m).size a.length (.bf r 1 (aU d m).size 0 a.length) s is).2++(hn k gen (aU d m).size a.length (.bf r 1 (aU d m).size 0 a.length) s F).2))
   |false=>aa aj
  |_,_=>aa aj
 | .fg b j n=>match s.H b with
  |some (.cells cs)=>match cs[j]? with
   |some (.bf k gen c G L)=>aa (aa (⟨[],[(b,aa (.cells (cs.set j (.bf k gen c G n))))],[]⟩,[.p (L=n)]))
   |_=>aa aj
  |_=>aa aj
 | .Dp b _ k=>match s.H b,s.H k with
  |some (.a7 d m E W ((I,M,.bf r gen c G L)::B)),aa (.arr _ Z X a)=>match b5 r k&&(b5 G 0&&(db C.dV k&& !Nat.beq b k)) with
   |true=>aa (aa (⟨[],[(k,aj),(b,aa (.a7 d m E W ((I,M,.t (.bD a))::B)))],[]⟩,[.q gen Z,.q c X,.q L a.length]))
   |false=>aa aj
  |_,_=>aa aj
 | .fa b j k e=>match s.H b,s.u k,dL C.cq e with
  |some (.cells cs),ak,aa i=>match cs[j]? with
   |some (.t .fT)=>aa (aa (⟨[],[(k,aa (.arr e 1 i.size [])),(b,aa (.cells (cs.set j (.bf k 1 i.size 0 0))))],[(k,ab)]⟩,[]))
   |_=>aa aj
  |_,_,_=>aa aj
 | .ei k d m=>match s.H k with
  |some (.arr ty gen c a)=>match Dg (aU d m).bj||Dg a with
   |true=>aa (aa (⟨[],[(k,aa (.a7 d m gen a []))],[]⟩,[.q (aU d m).ty ty,.q (aU d m).size c]))
   |false=>aa aj
  |some (.a7 Q v gen a B)=>match db C.dV k&&Dg (aU d m).bj with
   |true=>aa (aa (⟨[],[(k,aa (.a7 d m gen a B))],[]⟩,[.q (aU d m).ty (aU Q v).ty,.q (aU d m).size (aU Q v).size]))
   |false=>aa aj
  |_=>aa aj
 | .dr k=>match s.H k with
  |some (.a7 d m gen a [])=>match db C.dV k with
   |true=>aa (aa (⟨[],[(k,aa (.arr (aU d m).ty gen (aU d m).size a))],[]⟩,[]))
   |false=>aa aj
  |_=>aa aj
 | .en k r i j w=>match s.H k,s.u r with
  |some (.a7 d m gen a B),ak=>match (aU d m).eU j,w[j]? with
   |some f,aa (.bD A)=>aa (aa (⟨[],[(k,aa (.a7 d m gen a ((i,j,.bf r 1 (aU d f).size 0 A.length)::B))),(r,aa (.a7 d f 1 A []))],[(r,ab)]⟩,.p (a[i]? =aa w)::tg i j B))
   |_,_=>aa aj
  |_,_=>aa aj
 | .R3 k i j w=>match s.H k with
  |some (.a7 d m gen a B)=>match (aU d m).eU j,w[j]?,sB j B with
   |none,aa x,ab=>aa (aa (⟨[],[(k,aa (.a7 d m gen a ((i,j,.t x)::B)))],[]⟩,[.p (a[i]? =aa w)]))
   |_,_,_=>aa aj
  |_=>aa aj
 | .EP k w R=>match s.H k with
  |some (.a7 d m gen a ((i,j,.t x)::B))=>match (aU d m).eU j,dt j (aU d m).size&&sB j B with
   |none,ab=>aa (aa (⟨[],[(k,aa (.a7 d m gen R B))],[]⟩,[.p (a[i]? =aa w),.p (a.set i (w.set j x)=R)]))
   |some _,ab=>match x with
    | .fT=>aa (aa (⟨[],[(k,aa (.a7 d m gen R B))],[]⟩,[.p (a[i]? =aa w),.p (a.set i (w.set j (.bD []))=R)]))
    |_=>aa aj
   |_,_=>aa aj
  |_=>aa aj
 | .Dr i j k e=>match s.t i,s.u k,dL C.cq e with
  | .agg cs,ak,aa y=>match cs[j]? with
   |some (.t .fT)=>aa (aa (⟨[(i,.agg (cs.set j (.bf k 1 y.size 0 0)))],[(k,aa (.arr e 1 y.size []))],[(k,ab)]⟩,[]))
   |_=>aa aj
  |_,_,_=>aa aj
 | .dz k r w R=>match s.H k,s.H r with
  |some (.a7 d m gen a ((i,j,.bf cF g z o n)::B)),aa (.a7 Q f N A [])=>match (aU d m).eU j,b5 cF r&&(!Nat.beq k r&&(db C.dV r&&(b5 o 0&&dt j (aU d m).size))) with
   |some P,ab=>aa (aa (⟨[],[(r,aj),(k,aa (.a7 d m gen R B))],[]⟩,.q g N:: .q z (aU d f).size:: .p (n=A.length):: .q P f:: .p (Q=d):: .p (a[i]? =aa w):: .p (a.set i (w.set j (.bD A))=R)::tg i j B))
   |_,_=>aa aj
  |_,_=>aa aj
 | .cut k n R=>match s.H k with
  |some (.arr e gen c a)=>aa (aa (⟨[],[(k,aa (.arr e gen c R))],[]⟩,[.p (R=a.take n)]))
  |_=>aa aj
 |_=>aj
def ru(C:eb)(a:Nat):List cB->S->Option (c8×List dE×List cB)
 | [],_=>aa (.nil,[],[])
 | .at m::c,s=>match b5 m a with
  |true=>ru C a c s
  |false=>aa (.nil,[],.at m::c)
 |h::c,s=>match mr C h s with
  |none=>aa (.nil,[],h::c)
  |some aj=>aj
  |some (aa (e,k))=>match ru C a c (e.app s) with
   |some (l,d,i)=>aa (e.cat l,k++d,i)
   |none=>aj
section
variable {K:Ctx}{C:eb}
theorem acK{K:Ctx}(k n:Nat){e:TypeId}{c:List (List T)}(p:s.H k=aa (.arr e gen L c)):s.le K {s with H:=a8 s.H k (aa (.arr e gen L (c.take n)))}:=by
 intro q a w h;refine⟨q,h.Tl k p λX d=>⟨d.1,?_⟩⟩;rcases d.2 with ⟨m,o⟩|⟨b,r,m,o,y,z,B⟩
 ·exact .inl ⟨m,by rw[o];simp⟩
 refine .inr ⟨b,r,m,o,iE (eh _ (List.length_take_le' _ _)) y,λl A=>z l (gO A),λi j l x u aL a2 a3=>?_⟩
 grind
theorem HJ(z:C.Fits K){h:cB}{e:c8}{m:List dE}(d:mr C h s=aa (aa (e,m)))(k:cy m):s.le K (e.app s):=by
 unfold mr at d;split at d
 ·split at d
  ·rename_i A o p;cases d;exact acL _ _ _ o A
  cases d
 ·split at d
  ·rename_i A;cases d;obtain⟨rfl,_⟩:=k;intro L a w Q;refine⟨L,?_⟩;unfold c8.app;simp only[dw];rw[<-A,OZ];exact Q
  cases d
 ·split at d
  ·rename_i M n;split at d
   ·rename_i cs R i;split at d
    ·rename_i l Z;cases d;have x:=n;rw[po R] at x;refine XA _ _ (by rw[<-z.dV];exact i) x λj=>?_;rcases om l s.t j with ⟨_,q⟩|⟨v,r,q⟩
     ·exact .inl q
     obtain⟨W,b,f⟩:=QN Z j v r;exact .inr ⟨W,b,by rw[<-f];exact q⟩
    cases d
   cases d
  cases d
 ·split at d
  ·rename_i n;split at d
   ·rename_i i;cases d;simp only[b9] at i;obtain⟨B,F⟩:=cy.app k;exact afN (by rw[<-z.dV];exact i.1) n (xM i.2) B F
   cases d
  cases d
 ·split at d
  ·rename_i n o;split at d
   ·rename_i i;cases d;simp only[b9] at i;obtain⟨B,F⟩:=cy.app k;exact Rm (by rw[<-z.dV];exact i.1) (Qd i.2.1) n rfl o (xM i.2.2.1) (xM i.2.2.2) B F
   cases d
  ·rename_i n o;split at d
   ·rename_i i;cases d;simp only[b9] at i;obtain⟨B,F⟩:=cy.app k;exact Rm (by rw[<-z.dV];exact i.1) (Qd i.2.1) n rfl o (xM i.2.2.1) (xM i.2.2.2) B F
   cases d
  cases d
 ·split at d
  ·rename_i i;split at d
   ·rename_i p;cases d;obtain⟨rfl,_⟩:=k;intro L a w Q;refine⟨L,?_⟩;have H:=bR.1 p;have g: ∀{cs:List V} {j:Nat} {c:V},cs[j]? =aa c->cs.set j c=cs:=by
     intro cs j c h;obtain⟨r,q⟩:=bR.1 h;rw[<-q,List.set_getElem_self]
    unfold c8.app;simp only[dw];rw[g p,<-i,OZ];exact Q
   cases d
  cases d
 ·split at d
  ·rename_i i n;split at d
   ·rename_i G;cases d;simp only[b9,Bool.not_eq_true'] at G;obtain⟨rfl,rfl,rfl,_⟩:=k;have X:=de G.1;have H:=de G.2.1;subst X;subst H;exact XB _ _ _ _ _ _ (by rw[<-z.dV];exact G.2.2.1) (Nat.ne_of_beq_eq_false G.2.2.2) i n
   cases d
  cases d
 ·split at d
  ·rename_i i o A;split at d
   ·rename_i p;cases d;exact aaG _ _ _ _ o i p
   cases d
  cases d
 ·split at d
  ·rename_i n;split at d
   ·rename_i i;cases d;obtain⟨r,q,_⟩:=k;refine G2 _ _ _ n r q ?_;rcases Bool.or_eq_true_iff.1 i with h|h
    ·exact .inr (HM h)
    exact .inl (HM h)
   cases d
  ·rename_i n;split at d
   ·rename_i i;cases d;obtain⟨r,q,_⟩:=k;simp only[b9] at i;exact aaE _ _ _ n (by rw[<-z.dV];exact i.1) r q (HM i.2)
   cases d
  cases d
 ·split at d
  ·rename_i n;split at d
   ·rename_i i;cases d;exact aaD _ n (by rw[<-z.dV];exact i)
   cases d
  cases d
 ·split at d
  ·rename_i n o;split at d
   ·rename_i y p;cases d;exact ZY _ _ _ _ _ n o k.1 p y (x2 k.2)
   cases d
  cases d
 ·split at d
  ·rename_i n;split at d
   ·rename_i y p u;cases d;exact aaF _ _ _ n k.1 p y u
   cases d
  cases d
 ·split at d
  ·rename_i n;split at d
   ·rename_i y i;cases d;simp only[b9] at i;obtain⟨r,rfl,_⟩:=k;exact Y1 _ _ _ n r i.1 y i.2
   ·rename_i y i;split at d
    ·cases d;simp only[b9] at i;obtain⟨r,rfl,_⟩:=k;exact ZW _ _ _ _ n r i.1 y i.2
    cases d
   cases d
  cases d
 ·split at d
  ·rename_i A o N;split at d
   ·rename_i p;cases d;exact aaH _ _ _ _ o A p
   cases d
  cases d
 ·split at d
  ·rename_i n x;split at d
   ·rename_i y i;cases d;simp only[b9,Bool.not_eq_true'] at i;obtain⟨rfl,q,D,rfl,rfl,E,rfl,I⟩:=k;have X:=de i.1;have H:=de i.2.2.2.1;subst X;subst H;exact Xz _ _ _ _ _ _ _ _ n x q D (Nat.ne_of_beq_eq_false i.2.1) (by rw[<-z.dV];exact i.2.2.1) E y i.2.2.2.2 (x2 I)
   cases d
  cases d
 ·split at d
  ·rename_i n;cases d;obtain⟨rfl,_⟩:=k;exact acK _ _ n
  cases d
 cases d
theorem se(m:C.Fits K){i:Nat}: ∀{n:List cB} {s:S} {e:c8} {l:List dE} {c:List cB},ru C i n s=aa (e,l,c)->cy l->s.le K (e.app s)
 | [],s,e,l,c,h,_=>by cases h;exact S.le.refl _ _
 |h::n,s,e,l,c,a,k=>by
  unfold ru at a;split at a
  ·cases a;exact S.le.refl _ _
  ·split at a
   ·rename_i d _ _;cases d;exact se m a k
   cases a;exact S.le.refl _ _
  rename_i d;cases d;split at a
  ·cases a;exact S.le.refl _ _
  ·cases a
  rename_i z o p;split at a
  ·rename_i A q r w;cases a;obtain⟨x,y⟩:=cy.app k;rw[o7];exact(HJ m p x).trans (se m w y)
  cases a
def jE(C:eb)(a:Array Oper):List Oper->List cB->S->Option (c8×List dE)
 | [],c,s=>match ru C 0 c s with
  |some (e,q,[])=>aa (e,q)
  |_=>aj
 |o::l,c,s=>match ru C (l.length+1) c s with
  |none=>aj
  |some (d,h,i)=>match tp C a o i (d.app s) with
   |none=>aj
   |some (p,k,m)=>match jE C a l m (p.app (d.app s)) with
    |none=>aj
    |some (r,n)=>aa (d.cat (p.cat r),h++(k++n))
theorem QM(c:C.Fits K){V:Array Oper}{Q:S->Prop}: ∀{l:List Oper} {k:List cB} {s:S} {e:c8} {d:List dE},jE C V l k s=aa (e,d)->cy d->ry K V [] (e.app s) Q->ry K V l s Q
 | [],k,s,e,d,h,a,i=>by
  simp only[jE] at h;split at h
  ·rename_i H n p;cases h;exact Mu (se c p a) i
  cases h
 |o::l,k,s,e,d,h,a,i=>by
  simp only[jE] at h;split at h
  ·cases h
  rename_i L q r w;split at h
  ·cases h
  rename_i R x y z;split at h
  ·cases h
  rename_i W A B;cases h;obtain⟨F,m⟩:=cy.app a;obtain⟨m,G⟩:=cy.app m;rw[o7,o7] at i;exact Mu (se c w F) (aeR (Q2 c z m) (QM c B G i))
abbrev sI:=Prop×List Nat×List (Nat×Bool)×Bool×List V×List (Option E)
def vz:sI:=(False,[],[],ak,[],[])
def vA:sI:=(True,[],[],ab,[],[])
def vB(s:S)(c:List Nat)(d:List (Nat×V))(a:List (Nat×Option E))(r:c8×List dE):sI:=
 (zs r.2,wE r.2,r.1.us,sK c r.1.ga&&sK (yz a) r.1.hs,vm (r.1.app s) d,ve (r.1.app s) a)
def vC(a:Prop)(c:List (Nat×V))(d:List (Nat×Option E))(e:List (Nat×Bool))(r:c8×List dE):sI:=
 (a,wF r.2,e,ab,la c,la d)
def nj(x:Option (c8×List dE))(n:sI)(f:c8×List dE->sI):sI:=match x with
 |some r=>f r
 |none=>n
theorem RC{x:Option (c8×List dE)}{L:List Nat}{a:List (Nat×V)}{c:List (Nat×Option E)}{m:List (Nat×Bool)}{p:Prop}(i:p)
  (h:nj x vz (vB s L a c)=nj x vA (vC p a c m)): ∃e d,x=aa (e,d)/\cy d/\(e.app s).le K (s.cl L a c m):=by
 cases x with
 |none=>simp[nj,vz,vA] at h
 |some r=>
  obtain⟨e,d⟩:=r;simp only[nj,vB,vC,Prod.mk.injEq,b9] at h;obtain⟨k,l,n,⟨o,q⟩,w,y⟩:=h;exact⟨e,d,rfl,cy.of (k▸i) l,afA n o q w y⟩
def tmps:List Operand->List Nat
 | []=>[]
 | .tmp t::a=>t::tmps a
 |_::a=>tmps a
def Rv(a:Array Oper)(o:Oper):List Nat:=match o.guard with
 |none=>[]
 |some (j,_)=>match (a[j]?).bind (·.dst) with
  |some t=>[t]
  |none=>[]
def C5(o:Oper)(a:List cB):List cB:=match o.guard with
 |none=>a
 |some _=>a.tail
def CF(a:Array Oper)(o:Oper)(c:List cB)(s:S):hz:=⟨Rv a o++tmps o.op.operands.toList,v' o (o.op.operands.toList.map s.get) (C5 o c)⟩
theorem G7{s a:S}: ∀{c:List Operand},(∀i,i∈tmps c->s.t i=a.t i)->c.map s.get=c.map a.get
 | [],_=>rfl
 | .tmp t::c,h=>by
  simp only[List.map_cons,List.cons.injEq];exact⟨h t eD,G7 λi d=>h i (eo _ d)⟩
 | .const _::c,h| .global _::c,h| .func _::c,h=>by simp only[List.map_cons,List.cons.injEq];exact⟨rfl,G7 h⟩
theorem YG{H a:Nat->Option E}(h: ∀k,k∈r->H k=a k):vi r H=vi r a:=by
 funext k;unfold vi;cases c:jv k r with
 |true=>exact h k (B8 c)
 |false=>rfl
theorem YE{u a:Nat->Bool}(h: ∀k,k∈r->u k=a k):vh r u=vh r a:=by
 funext k;unfold vh;cases c:jv k r with
 |true=>exact h k (B8 c)
 |false=>rfl
theorem acU{b:S}{a:List V}{hs:List cB}(h: ∀k,k∈v' o a hs->s.H k=b.H k/\s.u k=b.u k):rE C o a s hs=rE C o a b hs:=by unfold rE;rw[YG λk c=>(h k c).1,YE λk c=>(h k c).2]
theorem acP{V:Array Oper}{c:List cB}(h:(CF V o c s).same a s):tp C V o c a=tp C V o c s:=by
 obtain⟨n,w⟩:=h;have y:o.op.operands.toList.map a.get=o.op.operands.toList.map s.get:=G7 λi z=>n i (eC.2 (.inr z));have q: ∀d,(∀k,k∈v' o (o.op.operands.toList.map s.get) d->k∈v' o (o.op.operands.toList.map s.get) (C5 o c))->rE C o (o.op.operands.toList.map s.get) a d=rE C o (o.op.operands.toList.map s.get) s d:=λd A=>
  acU λk e=>w k (A k e)
 unfold tp;rw[y];cases l:o.guard with
 |none=>exact q c (λk e=>by simp only[C5,l];exact e)
 |some p=>
  obtain⟨j,r⟩:=p;have m:vG V j a=vG V j s:=by
   unfold vG;cases B:(V[j]?).bind (·.dst) with
   |none=>rfl
   |some t=>
    have:=n t (eC.2 (.inl (by unfold Rv;rw[l];simp only[B];exact pF.2 rfl)));simp only[this]
  simp only[m];cases c with
  |nil=>rfl
  |cons x c=>
   have:=q c λk e=>by simp only[C5,l,List.tail];exact e
   cases x<;>first|rfl|(dsimp only;rw[this])
def rA(C:eb)(a:Nat):List cB->S->Option (c8×List dE×List cB×hz)
 | .at m::hs,s=>match b5 m a with
  |true=>rA C a hs s
  |false=>aa (.nil,[],.at m::hs,⟨[],[]⟩)
 | .bk k is l::hs,s=>match mr C (.bk k is l) s with
  |some (aa (e,h))=>match rA C a hs (e.app s) with
   |some (i,c,d,eY)=>aa (e.cat i,h++c,d,⟨is++eY.ga,k::(l++eY.qD)⟩)
   |none=>aj
  |_=>aj
 | .dr k::hs,s=>match mr C (.dr k) s with
  |some (aa (e,h))=>match rA C a hs (e.app s) with
   |some (i,c,d,eY)=>aa (e.cat i,h++c,d,⟨eY.ga,k::eY.qD⟩)
   |none=>aj
  |_=>aj
 |hs,_=>aa (.nil,[],hs,⟨[],[]⟩)
theorem YD{C:eb}(c:a.H k=s.H k):mr C (.dr k) a=mr C (.dr k) s:=by
 unfold mr
 grind
theorem OJ{k g z n:Nat}{v:V}{s a:S}: ∀{is:List Nat},(∀i,i∈is->a.t i=s.t i)->jk k g z n v a is=jk k g z n v s is
 | [],_=>rfl
 |i::is,h=>by simp only[jk,h i List.mem_cons_self,OJ λx c=>h x (List.mem_cons_of_mem _ c)]
theorem OK{k g z n:Nat}{v:V}{s a:S}: ∀{c:List Nat},(∀b,b∈c->a.H b=s.H b)->hn k g z n v a c=hn k g z n v s c
 | [],_=>rfl
 |b::c,h=>by unfold hn;rw[h b eD,OK λx d=>h x (eo _ d)]
theorem YC{L:List Nat}(c: ∀i,i∈r->a.t i=s.t i)(d:a.H k=s.H k)(e: ∀b,b∈L->a.H b=s.H b):mr C (.bk k r L) a=mr C (.bk k r L) s:=by
 unfold mr;dsimp only;rw[d];split
 ·rw[OJ c,OK e]
 rfl
theorem HT{k:Type}{f g:Nat->k}{r:Nat}(h:f r=g r): ∀(l:List (Nat×k)),dw f l r=dw g l r:=by
 intro l;induction l generalizing f g with
 |nil=>exact h
 |cons p l c=>
  obtain⟨d,v⟩:=p;simp only[dw];apply c;by_cases a:r=d
  ·subst a;rw[cd,cd]
  rw[cb _ _ _ _ a,cb _ _ _ _ a];exact h
theorem La{r:hz}(e:c8)(h:r.same a s):r.same (e.app a) (e.app s):=
 ⟨λi d=>HT (h.1 i d) _,λk c=>⟨HT (h.2 k c).1 _,HT (h.2 k c).2 _⟩⟩
theorem CE(w:C.Fits K){n:Nat}: ∀{x:List cB} {s:S} {e:c8} {d:List dE} {a:List cB} {eY:hz},rA C n x s=aa (e,d,a,eY)->cy d-> ∀c,eY.same c s->c.le K (e.app c)
 | .at m::x,s,e,d,a,eY,h,o,c,l=>by
  unfold rA at h;split at h
  ·exact CE w h o c l
  cases h;exact S.le.refl _ _
 | .bk k is W::x,s,e,d,a,eY,h,o,c,l=>by
  unfold rA at h;split at h
  ·rename_i p r z;split at h
   ·rename_i X A B F G;cases h;obtain⟨H,L⟩:=cy.app o;have q:mr C (.bk k is W) c=aa (aa (p,r)):=(YC (λi Q=>l.1 i (ka _ Q)) (l.2 k eD).1 λb Z=>(l.2 b (eo _ (ka _ Z))).1).trans z;rw[o7];exact(HJ w q H).trans (CE w G L (p.app c) (La p ⟨λi Q=>l.1 i (jq _ Q),λk R=>l.2 k (eo _ (jq _ R))⟩))
   cases h
  cases h
 | .dr k::x,s,e,d,a,eY,h,o,c,l=>by
  unfold rA at h;split at h
  ·rename_i p r z;split at h
   ·rename_i X A B F G;cases h;obtain⟨H,L⟩:=cy.app o;have q:mr C (.dr k) c=aa (aa (p,r)):=(YD (l.2 k eD).1).trans z;rw[o7];exact(HJ w q H).trans (CE w G L (p.app c) (La p ⟨l.1,λk R=>l.2 k (eo _ R)⟩))
   cases h
  cases h
 | [],s,e,d,a,eY,h,_,c,_=>by cases h;exact S.le.refl _ _
 | .ei _ _ _::_,s,e,d,a,eY,h,_,c,_| .en _ _ _ _ _::_,s,e,d,a,eY,h,_,c,_| .dz _ _ _ _::_,s,e,d,a,eY,h,_,c,_| .lt _ _ _::_,s,e,d,a,eY,h,_,c,_| .R3 _ _ _ _::_,s,e,d,a,eY,h,_,c,_| .EP _ _ _::_,s,e,d,a,eY,h,_,c,_| .Dr _ _ _ _::_,s,e,d,a,eY,h,_,c,_| .cut _ _ _::_,s,e,d,a,eY,h,_,c,_
 | .row _::_,s,e,d,a,eY,h,_,c,_| .rows _::_,s,e,d,a,eY,h,_,c,_| .str _::_,s,e,d,a,eY,h,_,c,_| .int _::_,s,e,d,a,eY,h,_,c,_| .nat _::_,s,e,d,a,eY,h,_,c,_
 | .b _::_,s,e,d,a,eY,h,_,c,_| .y _::_,s,e,d,a,eY,h,_,c,_| .v _::_,s,e,d,a,eY,h,_,c,_| .grow _ _ _::_,s,e,d,a,eY,h,_,c,_
 | .Dp _ _ _::_,s,e,d,a,eY,h,_,c,_| .fa _ _ _ _::_,s,e,d,a,eY,h,_,c,_
 | .len _ _::_,s,e,d,a,eY,h,_,c,_| .fg _ _ _::_,s,e,d,a,eY,h,_,c,_| .tt _ _::_,s,e,d,a,eY,h,_,c,_| .dT _ _ _ _::_,s,e,d,a,eY,h,_,c,_| .dR _ _ _ _::_,s,e,d,a,eY,h,_,c,_=>by cases h;exact S.le.refl _ _
theorem jd.pre{ops:Array Oper}{b:S}(i:s.le K b)(h:jd K ops o b c):jd K ops o s c:=by
 intro k a w next Q l m
 obtain⟨d,e⟩:=i k a w l;exact h d a w next Q e m
def yF(C:eb)(a:Array Oper):List Oper->List cB->S->Option (List (c8×hz)×List dE)
 | [],h,_=>match h with
  | []=>aa ([],[])
  |_=>aj
 |o::l,h,s=>match rA C (l.length+1) h s with
  |none=>aj
  |some (d,i,c,eY)=>match tp C a o c (d.app s) with
   |none=>aj
   |some (e,n,k)=>match yF C a l k (e.app (d.app s)) with
    |none=>aj
    |some (p,m)=>aa ((d.cat e,⟨eY.ga++(CF a o c (d.app s)).ga,eY.qD++(CF a o c (d.app s)).qD⟩)::p,i++(n++m))
def Dd:List (c8×hz)->c8
 | []=> .nil
 |(e,_)::a=>e.cat (Dd a)
theorem Iz(p:C.Fits K){V:Array Oper}{Q:S->Prop}: ∀{l:List Oper} {q:List cB} {s:S} {c:List (c8×hz)} {d:List dE},yF C V l q s=aa (c,d)->cy d->Q ((Dd c).app s)->xu K V l c s Q
 | [],q,s,c,d,h,_,m=>by
  simp only[yF] at h;split at h
  ·cases h;exact m
  cases h
 |o::l,q,s,c,d,h,r,m=>by
  simp only[yF] at h;split at h
  ·cases h
  rename_i n F w eY G;split at h
  ·cases h
  rename_i e H L R;split at h
  ·cases h
  rename_i W X Z;cases h;obtain⟨b,x⟩:=cy.app r;obtain⟨x,f⟩:=cy.app x;simp only[Dd,o7] at m;refine⟨λB a=>?_,by rw[o7];exact Iz p Z f m⟩;rw[o7];refine jd.pre (CE p G b B ⟨λi y=>a.1 i (ka _ y),λk z=>a.2 k (ka _ z)⟩) ?_;have A:(CF V o w (n.app s)).same (n.app B) (n.app s):=La n ⟨λi y=>a.1 i (jq _ y),λk z=>a.2 k (jq _ z)⟩;exact Q2 p ((acP A).trans R) x
def mA(C:eb)(l:List Oper)(h:List cB)(s:S):Option (c8×List dE):=
 match ru C l.length h s with
 |none=>aj
 |some (d,a,c)=>match yF C l.toArray l c (d.app s) with
  |none=>aj
  |some (e,i)=>match nG l.toArray l.length 0 e&&sM 0 l with
   |true=>aa (d.cat (Dd e),a++i)
   |false=>aj
theorem QK{c:Code}{s2:S}(h:cU K c s λe k=>match e with| .normal=>k.le K s2|_=>False)(n:Q .normal s2):cU K c s Q:=by
 intro o a w p x y;refine h o a w p x ?_;intro e k d l m q r;cases e with
 |normal=>obtain⟨i,z⟩:=q d l m r;exact y _ _ i l m n z
 |exit=>exact q.elim
 |goto=>exact q.elim
 |ret=>exact q.elim
 |panic=>exact q.elim
 |outgrown=>exact q.elim
theorem rd{l:List Oper}(q:C.Fits K)(x:K.P.follows .mixedOrders=ab)(r:List cB)(k:List Nat)(c:List (Nat×V))(d:List (Nat×Option E))(m:List (Nat×Bool)){p:Prop}(n:p)
  (h:nj (mA C l r s) vz (vB s k c d)=nj (mA C l r s) vA (vC p c d m)) (y:Q .normal (s.cl k c d m)):cU K (.region i l.toArray ab) s Q:=by
 obtain⟨e,X,a,z,w⟩:=RC (K:=K) n h;unfold mA at a;split at a
 ·cases a
 rename_i Z A B F;split at a
 ·cases a
 rename_i G H L;split at a
 ·rename_i o;cases a;simp only[b9] at o;obtain⟨R,W⟩:=cy.app z;refine wI (se q F R) (QK (s2:=s.cl k c d m) (Oy G x o.1 o.2 (Iz q L W ?_)) y);rw[o7] at w;exact w
 cases a
def oT:List (Nat×E)->List (Nat×Option E)
 | []=>[]
 |(k,e)::l=>(k,aa e)::oT l
def pX:List Nat->List (Nat×Bool)
 | []=>[]
 |k::l=>(k,ab)::pX l
def a6(a:List (Nat×V))(c:List (Nat×E))(d:List Nat):S:={t:=dw qZ a,H:=dw pM (oT c),u:=dw hg (pX d)}
def C9(u:Nat->Bool):List (Nat×V)->Bool
 | []=>ab
 |(_,v)::l=>v.ok u&&C9 u l
def Db(u:Nat->Bool):List (Nat×E)->Bool
 | []=>ab
 |(k,e)::l=>u k&&(e.ok u&&Db u l)
def Da(u:Nat->Bool):List Nat->Bool
 | []=>ab
 |k::l=>u k&&Da u l
theorem PO{u:Nat->Bool}: ∀{l:List (Nat×V)},C9 u l=ab-> ∀i v,(i,v)∈l->v.ok u=ab
 |(a,c)::l,h,i,v,hm=>by
  simp only[C9,b9] at h;rcases ez.1 hm with hm|hm
  ·cases hm;exact h.1
  exact PO h.2 i v hm
theorem Qn{u:Nat->Bool}: ∀{l:List (Nat×E)},Db u l=ab-> ∀k e,(k,aa e)∈oT l->u k=ab/\e.ok u=ab
 |(a,c)::l,h,i,v,hm=>by
  simp only[Db,b9] at h;simp only[oT] at hm;rcases ez.1 hm with hm|hm
  ·cases hm;exact⟨h.1,h.2.1⟩
  exact Qn h.2.2 i v hm
theorem PN{u:Nat->Bool}: ∀{l:List Nat},Da u l=ab-> ∀k b,(k,b)∈pX l->u k=ab
 |lC::l,h,k,b,hm=>by
  simp only[Da,b9] at h;simp only[pX] at hm;rcases ez.1 hm with hm|hm
  ·cases hm;exact h.1
  exact PN h.2 k b hm
def Di(e:Nat)(s:S)(c:List (Nat×V))(d:List (Nat×E))(a:List Nat):List V×List (Option E)×Bool:=
 (vm s c,ve s (oT d),C9 (dw hg (pX a)) c&&(Db (dw hg (pX a)) d&&(Da s.u a&&nF e (dw hg (pX a)))))
theorem Tc{a:List (Nat×V)}{c:List (Nat×E)}(h:Di K.dV s a c r=(la a,la (oT c),ab)):s.le K (a6 a c r):=by
 simp only[Di,Prod.mk.injEq,b9] at h;obtain⟨m,n,o,p,q,w⟩:=h;refine adS (s':=a6 a c r) ?_ ?_ ?_ w
 ·intro i;show dw qZ a i= .dh\/(dN _ (dw qZ a i)/\(dw qZ a i).ok _=ab)
  rcases om a qZ i with ⟨aL,a2⟩|⟨v,aL,a2⟩
  ·exact .inl a2
  rw[a2];exact .inr ⟨G6 m i v aL,PO o i v aL⟩
 ·intro k e d;have d:dw pM (oT c) k=aa e:=d;rcases om (oT c) pM k with ⟨aL,a2⟩|⟨v,aL,a2⟩
  ·rw[a2] at d;cases d
  rw[a2] at d;subst d;obtain⟨x,y⟩:=Qn p k e aL;exact⟨G9 n k e aL,x,y⟩
 intro k l;have l:dw hg (pX r) k=ab:=l;rcases om (pX r) hg k with ⟨aL,a2⟩|⟨v,aL,a2⟩
 ·rw[a2] at l;cases l
 exact PN q k v aL
theorem acC{ι:Type}{x y:Code}(a:ι->S)(p:ι->Prop)(c:cU K x s (rB (λd=> ∃i,p i/\d.le K (a i)) Q))(h: ∀i,p i->cU K y (a i) Q):cU K (.seq x y) s Q:=by
 refine Cp (xy c λe m q=>?_);cases e with
 |normal=>obtain⟨i,k,l⟩:=q;exact wI l (h i k)
 |exit=>exact q
 |goto=>exact q
 |ret=>exact q
 |panic=>exact q
 |outgrown=>exact q
theorem UE{v r:V}(h:mo r v=r):dN v r:=h▸HY r v
def u5(s:S):List E->Nat->List (Option E)
 | [],_=>[]
 |e::l,k=>Dc (aa e) (s.H k)::u5 s l (k+1)
def u0:List E->List (Option E)
 | []=>[]
 |e::l=>aa e::u0 l
def vg(u:Nat->Bool):List E->Bool
 | []=>ab
 |e::l=>e.ok u&&vg u l
theorem NN{s:S}: ∀{l:List E} {k:Nat},u5 s l k=u0 l-> ∀i e,l[i]? =aa e-> ∃a,s.H (k+i)=aa a/\kG a e
 |a::l,k,h,0,e,c=>by
  simp only[u5,u0,List.cons.injEq] at h;simp at c;subst c;exact Qp h.1
 |a::l,k,h,i+1,e,c=>by
  simp only[u5,u0,List.cons.injEq] at h
  have:=NN h.2 i e (by simpa using c)
  rwa [show k+1+i=k+(i+1) by omega] at this
theorem OT{u:Nat->Bool}: ∀{l:List E},vg u l=ab-> ∀(i:Nat) e,l[i]? =aa e->e.ok u=ab
 |c::l,h,0,e,a=>by simp only[vg,b9] at h;simp at a;subst a;exact h.1
 |c::l,h,i+1,e,a=>by simp only[vg,b9] at h;exact OT h.2 i e (by simpa using a)
end
end
def bn{k R:Type}(a:(k->Option R)->k->Option R):Nat->k->Option R
 |0,_=>aj
 |m+1,x=>a (bn a m) x
def aD{k R:Type}(j:k->Option R)(t:(k->Option R)->Option R):Option R:=t j
variable {k R γ:Type}{a r l:List k}{o A B:Option R}{f:FuncId}{c:Code}{d:Func}{s:S}{Q:Exit->S->Prop}{j i:Int}{x y ph:k}{p:Prop}{q:List T}{W:Map}{w:World}{v:V}{u z:Value}{e:ResultVar}{args:List V}
theorem i'{a:k->Option R}{t:(k->Option R)->Option R}{r:R}(h:aD a t=aa r): ∃j,j=a/\t j=aa r:=⟨a,rfl,h⟩
theorem c5{o:Option k}{f:k->Option R}{r:R}(h:o.bind f=aa r): ∃x,o=aa x/\f x=aa r:=by
 cases o with
 |none=>cases h
 |some x=>exact⟨x,rfl,h⟩
theorem iN{c:Bool}{r:R}(a:c=ab)(h:(bif c then A else B)=aa r):A=aa r:=by subst a;exact h
theorem iM{c:Bool}{r:R}(a:c=ak)(h:(bif c then A else B)=aa r):B=aa r:=by subst a;exact h
theorem aw{a b:R}(h:aa a=aa b):a=b:=Option.some.inj h
section
variable {K:Ctx}{C:eb}
theorem x8{a:(k->Option R)->k->Option R}{n:Nat}{d:k}{r:R}(h:bn a n d=aa r)(o:k->γ->S)(w:γ)(B:s.le K (o d w))
  (l: ∀(i:k->Option R) (x:k) (g:γ),a i x=aa r->cU K c (o x g) (C4 (λz=> ∃y p,i y=aa r/\z.le K (o y p)) Q)):cU K (.loop c) s Q:=by
 refine abA (ι:=(Nat×k)×γ) (λy=>o y.1.2 y.2) (λy=>bn a y.1.1 y.1.2=aa r) (λy=>y.1.1) ((n,d),w) h B ?_;rintro⟨⟨m,x⟩,g⟩ A;cases m with
 |zero=>cases A
 |succ m=>
  refine xy (l (bn a m) x g A) λe z q=>?_;cases e with
  |normal=>obtain⟨y,p,F,H⟩:=q;exact⟨((m,y),p),F,pz m,H⟩
  |exit=>exact q
  |goto=>exact q
  |ret=>exact q
  |panic=>exact q
  |outgrown=>exact q
theorem iw{j:k->Option R}{r:R}{x y:Code}(a:k->γ->S)
  (c:cU K x s (rB (λh=> ∃z g,j z=aa r/\h.le K (a z g)) Q)) (d: ∀z g,j z=aa r->cU K y (a z g) Q):cU K (.seq x y) s Q:=
 acC (ι:=k×γ) (λi=>a i.1 i.2) (λi=>j i.1=aa r) (xy c (λe m q=>by
  cases e with
  |normal=>obtain⟨z,g,c,d⟩:=q;exact⟨(z,g),c,d⟩
  |exit=>exact q
  |goto=>exact q
  |ret=>exact q
  |panic=>exact q
  |outgrown=>exact q)) λi l=>d i.1 i.2 l
theorem afw{P:Program}{G:fL}{a:List (Nat×cu)}(d:ek P a)(c:Nat)(w:World)(X:Nat->Prop):eb.Fits ⟨P,G,a,c,0,h8⟩ (Ctx.pure P G w X c):=⟨d,rfl,rfl,rfl,rfl,rfl⟩
theorem afO{P:Program}{G:fL}{a:List (Nat×cu)}(h:ek P a)(d e:Nat)(w:World)(X:Nat->Prop)(c:Map):eb.Fits ⟨P,G,a,d,e,c⟩ (Ctx.dR P G w X e c d):=⟨h,rfl,rfl,rfl,rfl,rfl⟩
theorem Pn{P:Program}(a:P.funcs[f]? =aa d)(e:(d.name== "runtime.NumGoroutine")=ak)(h:d.body=aa c):jZ P f:=⟨d,a,e,by rw[h];rfl⟩
variable {P:Program}{G:fL}{cq:List (Nat×cu)}
end
abbrev ah:Int->List T:=kX
abbrev dO:UInt8->List T:=oD
abbrev bC:Bool->List T:=aeb
abbrev dj:List UInt8->List T:=afc
abbrev bd{k:Type}(r:k->List T)(l:List k):List T:=[T.bD (l.map r)]
abbrev aF{k:Type}(r:k->List T)(l:List k):V:= .t (.bD (l.map r))
abbrev aH{k:Type}(e g a:Nat)(r:k->List T)(l:List k):E:= .arr e g a (l.map r)
abbrev ms{R:Type}(k g a:Nat)(r:R->List T)(l:List R):V:= .bf k g a 0 (l.map r).length
theorem RL(r:k->List T)(l:List k):(l.map r).length=l.length:=dJ ..
theorem zS(b:UInt8):IntKind.i64.wrap (b.toNat:Int)=(b.toNat:Int):=IntWalk.i64_in _ (by have:=UInt8.toNat_lt b;omega)
theorem jl(k:Nat){r:R->List T}(h: ∀x,(r x).length=k)(l:List R):Rows k (l.map r):=Rows.map l h
theorem cg(f:k->List T)(h:ax l i=aa x):(l.map f)[0+i.toNat]? =aa (f x):=by rw[dQ,eK,(nE h).2];rfl
theorem bE(f:k->List T)(h:ax l i=aa x):0<=i/\i<((l.map f).length:Int):=by
 obtain⟨a,c⟩:=nE h
 grind
theorem Dk(f:k->List T)(h:ax l i=aa x)(e:(a.map f).length=(l.map f).length):0<=i/\i<((a.map f).length:Int):=by rw[e];exact bE f h
theorem str(f:k->List T)(h:ca l i x=aa r):r.map f=(l.map f).set (0+i.toNat) (f x):=by obtain⟨_,_,rfl⟩:=uk h;rw[dQ,List.map_set]
theorem o4{q:Prop}(h:p)(k:q):p/\q:=⟨h,k⟩
def mR(b:Int):Option Unit:=if b=0 then aj else aa ()
theorem sS{b:Int}{x:Unit}(h:mR b=aa x):b≠0:=by intro e;rw[mR,aR e] at h;cases h
theorem hJ(f:k->R){y:R}(h:ax l i=aa x)(e:f x=y):ax (l.map f) i=aa y:=e▸QV f h
theorem qL{a:Int}(f:k->R)(h:sub l a (l.length:Int)=aa r):sub (l.map f) a ((l.map f).length:Int)=aa (r.map f):=by rw[dJ];exact sw f h
theorem agn{n:Int}{b:UInt8}(h:n=(b.toNat:Int)):IntKind.i64.wrap n=(b.toNat:Int):=h▸zS b
def hf(C:eb)(a:List cB)(s:S):Option (c8×List dE):=match ru C 0 a s with
 |some (e,c,[])=>aa (e,c)
 |_=>aj
theorem alv{K:Ctx}{C:eb}(m:C.Fits K)(i:List cB)(k:List Nat)(c:List (Nat×V))(d:List (Nat×Option E))(l:List (Nat×Bool))
  (h:nj (hf C i s) vz (vB s k c d)=nj (hf C i s) vA (vC True c d l)):s.le K (s.cl k c d l):=by
 obtain⟨e,q,a,n,o⟩:=RC (K:=K) trivial h;unfold hf at a;split at a
 ·rename_i p;cases a;exact(se m p n).trans o
 cases a
def jy(c:List (Nat×cu))(s:S):List ResultVar->Option (List V)
 | []=>aa []
 | .tmp t::d=>match jy c s d with
  |some e=>aa (s.t t::e)
  |none=>aj
 | .cell a t::d=>match u4 c s.H t (s.t a) [],jy c s d with
  |some (v,[],[]),aa e=>aa (v::e)
  |_,_=>aj
def oU:List V->V
 | [v]=>v
 |vs=> .bL vs
def l8(c:Array Value)(r:ResultVar):Sem Value:=match r with
 | .tmp t=>pure (c.getD t undef)
 | .cell a t=>do loadVar t (<-asAddr (c.getD a undef))
theorem AB(d:Func)(a:Array Value):Go.results d a=(do let c<-d.results.mapM (l8 a);pure (if h:c.size=1 then c[0] else .tuple c)):=rfl
theorem ac5{P:Program}{i:List (Nat×cu)}(r:ek P i){K:Ctx}{a:Act}(m:Rel K W s a w){x:Nat}{t:TypeId}(h:u4 i s.H t (s.t x) []=aa (v,[],[])):
  ∃u,(l8 a.tmps (.cell x t)).run P w= .ok u w/\bq W w (own K W s.H) v u:=by
 have y:=Om (d:=aj) (ty:=0) (pos:= "") (af:= #[]) (g:=aj) (x:= .tmp x) r h trivial
 obtain⟨u,c,z⟩:=y W w (own K W s.H) a.eval (λid e A=>(m.heap id e A).2) ⟨m.dC x,trivial⟩;refine⟨u,?_,z⟩;have bW:=m.dC x;have n: ∃l,a.tmps.getD x undef= .pointer (aa l):=by
  generalize a.tmps.getD x undef=q at bW;unfold u4 at h;split at h
  ·cases h
  split at h
  ·rename_i o;rw[o] at bW;cases bW with|ref _ _ b _=>exact⟨_,rfl⟩
  ·rename_i o;rw[o] at bW;cases bW with|aS _ b B f _ _ _ _=>exact⟨_,rfl⟩
  ·split at h
   ·split at h<;>cases h
   ·split at h<;>cases h
   cases h
  cases h
 obtain⟨l,k⟩:=n;have F:a.eval (.tmp x)= .pointer (aa l):=k;simp only[execOp,Instr.loadAt,F,Instr.sureAddr,Sem.run_bind,Sem.run_pure,Result.andThen_ok] at c;simp only[l8,k,asAddr,Sem.run_bind,Sem.run_pure,Result.andThen_ok];cases p:(loadVar t l).run P w with
 |ok L Q=>rw[p] at c;simp at c;obtain⟨rfl,rfl⟩:=c;rfl
 |_=>rw[p] at c;cases c
theorem H9{P:Program}{e:List (Nat×cu)}(n:ek P e){K:Ctx}{W:Map}{s:S}{a:Act}{w:World}(m:Rel K W s a w): ∀{k:List ResultVar} {l:List V},jy e s k=aa l->
  l.length=k.length/\ ∀(i:Nat) r v,k[i]? =aa r->l[i]? =aa v-> ∃u,(l8 a.tmps r).run P w= .ok u w/\bq W w (own K W s.H) v u
 | [],_,h=>by cases h;exact⟨rfl,λi r v h=>by simp at h⟩
 | .tmp t::k,l,h=>by
  simp only[jy] at h;split at h
  ·rename_i o p;cases h;obtain⟨aL,a2⟩:=H9 n m p;refine⟨by simp[aL],λi r v c d=>?_⟩;cases i with
   |zero=>simp at c d;subst c;subst d;exact⟨_,rfl,m.dC t⟩
   |succ i=>simp at c d;exact a2 i r v c d
  cases h
 | .cell x t::k,l,h=>by
  simp only[jy] at h;split at h
  ·rename_i y o q p;cases h;obtain⟨aL,a2⟩:=H9 n m p;refine⟨by simp[aL],λi r v c d=>?_⟩;cases i with
   |zero=>simp at c d;subst c;subst d;exact ac5 n m q
   |succ i=>simp at c d;exact a2 i r v c d
  cases h
theorem abb{P:Program}{a:Array Value}{r:ResultVar}(h:d.results= #[r])(c:(l8 a r).run P w= .ok u w):(Go.results d a).run P w= .ok u w:=by rw[AB,h];simp[c]
theorem aba{P:Program}{a:Array Value}{r c:ResultVar}{v:Value}(h:d.results= #[r,c])(e:(l8 a r).run P w= .ok u w)(i:(l8 a c).run P w= .ok v w):(Go.results d a).run P w= .ok (.tuple #[u,v]) w:=by rw[AB,h];simp[e,i]
theorem aa'{P:Program}{a:Array Value}{r c:ResultVar}{v:Value}(h:d.results= #[r,e,c])(i:(l8 a r).run P w= .ok u w)(k:(l8 a e).run P w= .ok z w)(l:(l8 a c).run P w= .ok v w):
  (Go.results d a).run P w= .ok (.tuple #[u,z,v]) w:=by rw[AB,h];simp[i,k,l]
theorem aa9{P:Program}{a:Array Value}{r c i:ResultVar}{v x:Value}(h:d.results= #[r,e,c,i])(k:(l8 a r).run P w= .ok u w)(l:(l8 a e).run P w= .ok z w)(m:(l8 a c).run P w= .ok v w)(n:(l8 a i).run P w= .ok x w):
  (Go.results d a).run P w= .ok (.tuple #[u,z,v,x]) w:=by rw[AB,h];simp[k,l,m,n]
theorem MA{P:Program}{l:List (Nat×cu)}(Z:ek P l){K:Ctx}{a:Act}(b:Rel K W s a w){e:List ResultVar}(q:d.results.toList=e){k:List V}(h:jy l s e=aa k)(f:db e.length 4=ab):
  ∃u,(Go.results d a.tmps).run P w= .ok u w/\bq W w (own K W s.H) (oU k) u:=by
 obtain⟨g,p⟩:=H9 Z b h;have q:d.results=e.toArray:=by rw[<-q]
 match e,k,g,p,f with
 | [],[],_,_,_=>exact⟨_,results_none q _ _ _,.bL [] #[] rfl λi c u h _=>by simp at h⟩
 | [r],[v],_,p,_=>
  obtain⟨u,aL,a2⟩:=p 0 r v rfl rfl;exact⟨u,abb q aL,a2⟩
 | [r,z],[v,A],_,p,_=>
  obtain⟨u,aL,a2⟩:=p 0 r v rfl rfl;obtain⟨X,B,F⟩:=p 1 z A rfl rfl;refine⟨_,aba q aL B,.bL _ _ rfl λi c u m o=>?_⟩
  match i with
  |0=>simp at m o;subst m;subst o;exact a2
  |1=>simp at m o;subst m;subst o;exact F
  |n+2=>simp at m
 | [r,z,x],[v,A,y],_,p,_=>
  obtain⟨u,aL,a2⟩:=p 0 r v rfl rfl;obtain⟨X,B,F⟩:=p 1 z A rfl rfl;obtain⟨L,Q,R⟩:=p 2 x y rfl rfl;refine⟨_,aa' q aL B Q,.bL _ _ rfl λi c u m o=>?_⟩
  match i with
  |0=>simp at m o;subst m;subst o;exact a2
  |1=>simp at m o;subst m;subst o;exact F
  |2=>simp at m o;subst m;subst o;exact R
  |n+3=>simp at m
 | [r,z,x,j],[v,A,y,t],_,p,_=>
  obtain⟨u,aL,a2⟩:=p 0 r v rfl rfl;obtain⟨X,B,F⟩:=p 1 z A rfl rfl;obtain⟨L,Q,R⟩:=p 2 x y rfl rfl;obtain⟨I,D,E⟩:=p 3 j t rfl rfl;refine⟨_,aa9 q aL B Q D,.bL _ _ rfl λi c u m o=>?_⟩
  match i with
  |0=>simp at m o;subst m;subst o;exact a2
  |1=>simp at m o;subst m;subst o;exact F
  |2=>simp at m o;subst m;subst o;exact R
  |3=>simp at m o;subst m;subst o;exact E
  |n+4=>simp at m
def LZ(c:List (Nat×cu))(d:List ResultVar)(r:V):Exit->S->Prop
 | .normal,s| .ret,s=> ∃a,jy c s d=aa a/\dN (oU a) r
 |_,_=>False
def LY(d:List (Nat×cu))(e:List ResultVar)(r:V)(a:List E):Exit->S->Prop
 | .normal,s| .ret,s=> ∃c,jy d s e=aa c/\dN (oU c) r/\r.ok (fA a.length)=ab/\mm s.H (fA a.length) (ft a 0)
 |_,_=>False
section
variable {P:Program}{G:fL}{cq:List (Nat×cu)}
theorem Ti{r:V}{i:Nat}{a:List ResultVar}(A:ek P cq)(B:P.funcs[f]? =aa d)(H:(d.name== "runtime.NumGoroutine")=ak)(q:d.body=aa c)(L:d.results.toList=a)(s:d.ntmps=i)
  (m:db args.length i=ab) (Q:r.ok hg=ab) (x:db a.length 4=ab)
  (h: ∀w X,eb.Fits ⟨P,G,cq,i,0,h8⟩ (Ctx.pure P G w X i)->cU (Ctx.pure P G w X i) c (start args) (LZ cq a r)):lP P G f args r:=by
 subst s;refine⟨Pn B H q,?_⟩;intro w X R W Z F;have o:R.length<=d.ntmps:=by rw[F.length];exact eO m
 refine calls_of_wp B q (h w X (afw A _ w X) h8 _ w _ (Rel.start W Z F o) ?_);intro e g j t w' n k;have p:(∃y,jy cq g a=aa y/\dN (oU y) r)->bodyPost P d (λe w'=> ∃u,e= .returned u/\Ext (λ_=>False) w w'/\bq h8 w' X r u) .ret t w':=by
  rintro⟨y,z,m⟩;obtain⟨u,v,bW⟩:=MA A k L z x;have bW:=m _ _ _ _ bW;refine⟨k.defers,u,v,u,rfl,?_,?_⟩
  ·exact k.ext.weaken λb _ ⟨id,h,_⟩=>by simp[Ctx.pure] at h
  exact bW.under (u:=hg) (λb q=> .inl q) (λ_ h=>by simp[hg] at h) Q
 cases e with
 |normal=>exact p n
 |ret=>exact p n
 |exit id=>exact n.elim
 |goto l=>exact n.elim
 |panic c=>exact n.elim
 |outgrown=>exact n.elim
def vb(a:Map):List E->Nat->Prop
 | [],_=>True
 | .arr _ g _ _::c,k=>(∃q,a k=aa (q,g))/\vb a c (k+1)
 | .a7 _ _ g _ _::c,k=>(∃q,a k=aa (q,g))/\vb a c (k+1)
 | .cells _::c,k=>True/\vb a c (k+1)
theorem NG{W:Map}: ∀(a:List E) (k:Nat),(∀(i:Nat) e g,a[i]? =aa e->e.gen=aa g-> ∃q,W (k+i)=aa (q,g))->vb W a k
 | [],_,_=>trivial
 |e::a,k,h=>by
  have b7:=NG a (k+1) (λi e g c d=>by
   have:=h (i+1) e g (by simpa using c) d
   rwa [show k+(i+1)=k+1+i by omega] at this)
  cases e with
  |cells=>exact⟨trivial,b7⟩
  |arr _ g _ _=>exact⟨h 0 _ g rfl rfl,b7⟩
  |a7 _ _ g _ _=>exact⟨h 0 _ g rfl rfl,b7⟩
theorem aj2{o:Func}{a out:List E}{r:V}{x y:Nat}{R:List ResultVar}(ly:ek P cq)(jh:P.funcs[f]? =aa o)(cY:(o.name== "runtime.NumGoroutine")=ak)(bb:o.body=aa c)(b7:o.results.toList=R)(W:o.ntmps=x)(Z:a.length=y)
  (z:db args.length x=ab) (A:db y out.length=ab) (j:db R.length 4=ab)
  (h: ∀w X d,eb.Fits ⟨P,G,cq,x,y,d⟩ (Ctx.dR P G w X y d x)->vb d a 0->cU (Ctx.dR P G w X y d x) c (mT a args) (LY cq R r out)):jU P G f a args r out:=by
 subst W;subst Z;refine⟨Pn jh cY bb,?_⟩;intro w X d us kS iu hi gI;have B:us.length<=o.ntmps:=by rw[gI.length];exact eO z
 refine calls_of_wp jh bb (h w X d (afO ly _ _ w X d) (NG a 0 (λk e g v bK=>by
  rw[dQ];exact(pP (hi.heap k _ v) bK).2)) d _ w _ (Rel.mT kS iu hi gI B) ?_)
 intro e D F pV w' q m;have L:(∃I,jy cq D R=aa I/\dN (oU I) r/\r.ok (fA out.length)=ab/\mm D.H (fA out.length) (ft out 0))->
   bodyPost P o (λe w'=> ∃u,∃i:Unit,∃β,e= .returned u/\True/\Left d β a out w w' X r u) .ret pV w':=by
  rintro⟨I,M,N,T,hH⟩;obtain⟨u,hu,bW⟩:=MA ly m b7 M j;have bW:=N _ _ _ _ bW;have hm:a.length<=out.length:=eO A;let p:S:={t:=qZ,H:=ft out 0,u:=fA out.length}
  have Q:nF a.length p.u=ab:=by
   have: ∀n,n<=a.length->nF n p.u=ab:=by
    intro n;induction n with
    |zero=>intro _;rfl
    |succ n ny=>intro cY;simp[nF,ny O,show p.u n=ab from jW.2 O]
   exact this _ (cR _)
  have bT:=m.cut (s':=p) (pT.nil _ _) hH Q;have fb:=FY (K:=Ctx.dR P G w X a.length d o.ntmps) (β:=F) (s:=D) (s':=p) hH;refine⟨m.defers,u,hu,u,(),cut F p.u,rfl,trivial,?_⟩;refine⟨m.ext.weaken λb _ ⟨id,_,h⟩=>⟨id,h⟩,bT.base,bT.kz,?_,?_,bT.inj,bT.fresh,?_,bW.under fb (λ_ h=>yk h) T⟩
  ·intro k v;apply bT.eF;cases U:p.u k with
   |false=>rfl
   |true=>have:=jW.1 U;omega
  ·intro k b v;apply bT.e9;cases U:p.u k with
   |false=>rfl
   |true=>have:=jW.1 U;omega
  intro k e he;exact(bT.heap k e (by rw[<-z1] at he;exact he)).2
 cases e with
 |normal=>exact L q
 |ret=>exact L q
 |exit id=>exact q.elim
 |goto l=>exact q.elim
 |panic c=>exact q.elim
 |outgrown=>exact q.elim
def yA(r:V):Option (List V)->Option V
 |some a=>aa (mo r (oU a))
 |none=>aj
theorem RE{a:List ResultVar}{r:V}(h:yA r (jy cq s a)=aa r): ∃c,jy cq s a=aa c/\dN (oU c) r:=by
 cases d:jy cq s a with
 |none=>rw[d] at h;cases h
 |some c=>rw[d] at h;simp only[yA,Option.some.injEq] at h;exact⟨c,rfl,UE h⟩
theorem UD{c:List ResultVar}{r:V}{a:List E}(h:(yA r (jy cq s c),u5 s a 0,r.ok (fA a.length)&&vg (fA a.length) a)=(aa r,u0 a,ab)):
  ∃d,jy cq s c=aa d/\dN (oU d) r/\r.ok (fA a.length)=ab/\mm s.H (fA a.length) (ft a 0):=by
 simp only[Prod.mk.injEq,b9] at h;obtain⟨l,m,n,o⟩:=h;obtain⟨d,aL,a2⟩:=RE l;refine⟨d,aL,a2,n,λk e i=>?_⟩;rw[z1] at i
 have:=NN m k e i;rw[dQ] at this;exact⟨this,jW.2 (bR.1 i).1,OT o k e i⟩
end
theorem tk(f:k->List T)(ph:k)(h:app l [y]=aa r):app (bV f l) [f ph]=aa (bV f (l++[ph])):=by
 obtain⟨a,_⟩:=uU h;unfold app
 grind
theorem nm(f:k->List T)(l:List k)(ph:k):(bV f (l++[ph]))[(bV f l).length+0]? =aa (f ph):=by grind
theorem yv(f:k->List T)(l:List k){r:List T}(e:r=f y):(bV f (l++[ph])).set ((bV f l).length+0) r=bV f (l++[y]):=by grind
theorem sZ(f:k->List T){x:List k}{r:List T}(h:app l [y]=aa x)(e:r=f y):(bV f (l++[ph])).set ((bV f l).length+0) r=bV f x:=by
 obtain⟨_,rfl⟩:=uU h
 grind
theorem th(f:k->List T){x:List k}(a:k)(h:app l [y]=aa x):(bV f (l++[a])).length=(bV f x).length:=by obtain⟨_,rfl⟩:=uU h;simp
theorem ajp(f:k->List T)(h:l.isEmpty=ak):bV f l≠[]:=by
 cases l with
 |nil=>cases h
 |cons=>simp
theorem gn(f:k->List T)(h:ca l i y=aa r)(e:q=f y):(bV f l).set (0+i.toNat) q=bV f r:=by subst e;exact(str f h).symm
theorem iU(f:k->List T)(h:ax l i=aa x)(e:q=f x):(bV f l).set (0+i.toNat) q=bV f l:=by subst e;have a:=cg f h;obtain⟨d,c⟩:=bR.1 a;rw[<-c,List.set_getElem_self]
theorem cQ(f:k->List T)(h:ca l i x=aa r):(l.map f).length=(r.map f).length:=by obtain⟨_,_,rfl⟩:=uk h;simp
theorem kv{r:R}(h:(aj:Option R)=aa r):p:=by cases h
def jg{k:Type}(a b:List k):Option Unit:=if b.length=a.length then aa () else aj
theorem jI{b:List k}{u:Unit}(f:k->List T)(h:jg a b=aa u):(a.map f).length=(b.map f).length:=by
 unfold jg at h
 grind
def EZ{k:Type}(f:k->List T):Option k->V
 |none=> .t .iz
 |some x=> .aS (f x)
theorem UN(f:k->List T)(o:Option k)(b:Bool):(V.bL [EZ f o,aM b]).ok hg=ab:=by cases o<;>rfl
theorem Ac{P:Program}{G:fL}[Inhabited R]{r:R->List T}(h:o.isSome=ab)(k:lP P G f args (V.bL [EZ r o,v])):lP P G f args (V.bL [V.aS (r (o.getD default)),v]):=by
 cases o with
 |none=>cases h
 |some x=>exact k
theorem Ab{P:Program}{G:fL}{r:R->List T}(h:o.isSome=ak)(k:lP P G f args (V.bL [EZ r o,v])):lP P G f args (V.bL [V.t .iz,v]):=by
 cases o with
 |none=>exact k
 |some x=>cases h
theorem afJ(f:k->List T)(l:List k):(l.map f).length=((l.take l.length).map f).length:=by rw[dW]
theorem OY(f:k->List T)(l:List k)(a:0<=i)(c:i<(l.length:Int)):
  0<=i/\i<=((l.map f).length:Int)/\((l.map f).length:Int)<=((l.map f).length:Int)/\(i=0\/i<((l.map f).length:Int))/\i.toNat=0+i.toNat/\l.length-i.toNat=((l.map f).length:Int).toNat-i.toNat:=by grind
theorem RF(f:R->List T)(l:List R)(k:Nat):(l.take k).map f=(l.map f).take k:=uK
section
set_option linter.unusedVariables false
def fm{k:Type}(l:List k)(i j:Int):Nat:=i.toNat+(l.length-j.toNat)
def n'{k:Type}(l:List k)(i j:Int):List k:=l.take i.toNat++l.drop j.toNat++l.drop (fm l i j)
def kL{k:Type}(l:List k)(i j:Int)(z:k):List k:=l.take i.toNat++l.drop j.toNat++List.replicate (l.length-fm l i j) z
theorem Pk(l:List k)(a:0<=i)(c:i<=j)(d:j<=(l.length:Int)):(n' l i j).length=l.length:=by
 unfold n' fm
 grind
theorem ags(f:k->List T)(l:List k)(a:0<=i)(c:i<=j)(d:j<=(l.length:Int)):0<=i/\i<=j/\j<=(l.length:Int)/\(l.length:Int)<=((l.map f).length:Int):=by grind
theorem RZ(f:k->List T)(l:List k)(a:0<=i)(c:i<=j)(d:j<=(l.length:Int)):
  (0:Int)<=0/\(0:Int)<=i/\i<=((l.map f).length:Int)/\((0:Int)=0\/(0:Int)<((l.map f).length:Int))/\0=0+(0:Int).toNat/\i.toNat=i.toNat-(0:Int).toNat:=
 ⟨gq _,a,by rw[dJ];omega,.inl rfl,rfl,rfl⟩
theorem agr(f:k->List T)(l:List k)(a:0<=i)(c:i<=j)(d:j<=(l.length:Int))(e: ¬j<(l.length:Int)):0<=j/\j=((l.map f).length:Int)/\((l.map f).length:Int)<=((l.map f).length:Int):=by grind
theorem UI(f:k->List T)(l:List k)(a:0<=i)(c:i<=j)(d:j<=(l.length:Int)):i.toNat+(l.length-j.toNat)<=(l.map f).length:=by grind
theorem UH(f:k->List T)(l:List k)(a:0<=i)(c:i<=j)(d:j<=(l.length:Int)):j.toNat+(l.length-j.toNat)<=(l.map f).length:=by grind
theorem UG(f:k->List T)(l:List k)(i j:Int):(n' l i j).map f=(l.map f).take i.toNat++((l.map f).drop j.toNat).take (l.length-j.toNat)++(l.map f).drop (i.toNat+(l.length-j.toNat)):=by unfold n' fm;rw[eM,eM,uK,List.map_drop,List.map_drop,l9 (l:=(l.map f).drop j.toNat) (by rw[fM,dJ];omega)]
theorem R0(f:R->List T)(l r:List R){k:Nat}(d:0<k)(e:0<=i)(h:i<j)(n:j<=(l.length:Int))(a:r.length=l.length){m:Nat}(c:m=fm l i j):
  0<k/\(0:Int)<=(m:Int)/\(m:Int)<(l.length:Int)/\((0:Nat):Int)+(l.length:Int)<=((r.map f).length:Int)/\m=0+(m:Int).toNat/\l.length-m=(l.length:Int).toNat-(m:Int).toNat:=by rw[dJ,a,c];unfold fm;omega
theorem agq(f:k->List T)(l:List k)(z:k)(c:0<=i)(h:i<j)(d:j<=(l.length:Int)):
  fm l i j+(l.length-fm l i j)<=((n' l i j).map f).length/\(kL l i j z).map f=((n' l i j).map f).take (fm l i j)++List.replicate (l.length-fm l i j) (f z)++((n' l i j).map f).drop (fm l i j+(l.length-fm l i j)):=by
 have cI:=Pk l c (O:i<=j) d;have a:(l.take i.toNat++l.drop j.toNat).length=fm l i j:=by
  unfold fm;simp only[List.length_append,List.length_take,List.length_drop];omega
 have e:fm l i j<=l.length:=by unfold fm;omega
 refine⟨by rw[dJ,cI];omega,?_⟩;rw[lH (as:=(n' l i j).map f) (by rw[dJ,cI];omega),kb,<-uK];unfold kL n';rw[eM,List.map_replicate,sr (by rw[a];exact cR _),l9 (l:=l.take i.toNat++l.drop j.toNat) (by rw[a];exact cR _)]
theorem UF(f:k->List T)(l:List k)(z:k)(c:0<=i)(d:i<j)(e:j<=(l.length:Int))(h: ¬j<(l.length:Int)):
  i.toNat+(l.length-i.toNat)<=(l.map f).length/\(kL l i j z).map f=(l.map f).take i.toNat++List.replicate (l.length-i.toNat) (f z)++(l.map f).drop (i.toNat+(l.length-i.toNat)):=by
 refine⟨by rw[dJ];omega,?_⟩;have a:fm l i j=i.toNat:=by unfold fm;omega
 unfold kL;rw[a,lH (as:=l) (i:=j.toNat) O,kb,lH (as:=l.map f) (by rw[dJ];omega),kb,eM,uK,List.map_replicate]
theorem R1(f:k->List T)(l:List k)(z:k)(a:0<=i)(c:i<j)(d:j<=(l.length:Int)):fm l i j=(((kL l i j z).take (fm l i j)).map f).length:=by
 unfold kL fm
 grind
theorem R2(l:List k)(a:j<=(l.length:Int))(c: ¬j<(l.length:Int)):i.toNat=fm l i j:=by unfold fm;omega
end
theorem xe(h:ca l i x=aa r)(y:k):ca l i y=aa (l.set i.toNat y):=by
 obtain⟨a,c,_⟩:=uk h;unfold ca
 grind
theorem va(h:ca l i x=aa r)(y:k):ax (l.set i.toNat y) i=aa y:=by
 obtain⟨a,c,_⟩:=uk h;unfold ax
 grind
theorem xd(h:ca l i x=aa r)(y:k):ca (l.set i.toNat y) i x=aa r:=by obtain⟨a,c,rfl⟩:=uk h;unfold ca;rw[aR ⟨a,by rw[e6];exact c⟩,uL]
theorem Dj{u:Unit}(f:k->List T)(c:jg a l=aa u)(h:ax l i=aa x):0<=i/\i<((a.map f).length:Int):=by have:=bE f h;rw[jI f c];exact this
theorem RJ{u:Unit}(f:k->List T)(c:jg a l=aa u):(a.map f).length=l.length:=(jI f c).trans (RL f l)
theorem CH(h:ca l i x=aa r):ax r i=aa x:=by
 obtain⟨a,c,rfl⟩:=uk h;unfold ax
 grind
end Go.Lift
