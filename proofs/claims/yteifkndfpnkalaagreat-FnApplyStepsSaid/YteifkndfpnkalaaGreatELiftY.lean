/- Tools. -/
import Derived.Test.YteifkndfpnkalaaGreatELiftV
namespace Go.Lift
open Go
open Option renaming some -> aa, none -> aj
open Bool renaming true -> ab, false -> ak, and_eq_true -> b9
open List renaming map -> bV
open Nat renaming beq -> b5, blt -> dt, ble -> db
section
def c8.cat(a b:c8):c8:=⟨a.gb++b.gb,a.hs++b.hs,a.us++b.us⟩
def c8.nil:c8:=⟨[],[],[]⟩
theorem O'{k:Type}: ∀(a b:List (Nat×k)) (f:Nat->k),dw f (a++b)=dw (dw f a) b
 | [],_,_=>rfl
 |(d,v)::a,b,f=>by simp only[List.cons_append,dw];exact O' a b _
theorem pc(a b:c8)(s:S):(a.cat b).app s=b.app (a.app s):=by unfold c8.app c8.cat;simp only[O']
theorem oo{k:Type}: ∀(l:List (Nat×k)) (f:Nat->k) (r:Nat),((∀v,(r,v)∉l)/\dw f l r=f r)\/ ∃v,(r,v)∈l/\dw f l r=v
 | [],_,_=> .inl ⟨λ_ h=>(List.not_mem_nil h).elim,rfl⟩
 |(d,v)::l,f,r=>by
  rcases oo l (a8 f d v) r with ⟨c,a⟩|⟨e,c,a⟩
  ·by_cases i:r=d
   ·subst i;exact .inr ⟨v,eD,by rw[dw,a,cd]⟩
   refine .inl ⟨λe h=>?_,by rw[dw,a,cb _ _ _ _ i]⟩;rcases ez.1 h with h|h
   ·cases h;exact i rfl
   exact c e h
  exact .inr ⟨e,eo _ c,by rw[dw,a]⟩
mutual
def mo:V->V->V
 | .t (.bE _),v=>oD v
 | .agg cs,.agg a=> .agg (ry cs a)
 | .bM cs,.bM a=> .bM (ry cs a)
 | .dh,_=> .dh
 |_,v=>v
def ry:List V->List V->List V
 |c::cs,v::a=>mo c v::ry cs a
 |_,a=>a
end
mutual
theorem H2: ∀c v:V,dN v (mo c v)
 | .t (.bE _),v=>by simp only[mo];exact u' v
 | .agg cs,.agg a=>by simp only[mo];exact dN.agg (Cf cs a)
 | .bM cs,.bM a=>by simp only[mo];exact dN.bM (Cf cs a)
 | .dh,v=>by simp only[mo];exact dN.dh v
 | .t (.bool _),v| .t (.int _ _),v| .t (.str _),v| .t .fT,v| .t .iA,v| .t .hn,v| .t .oC,v| .t .err,v=>by simp only[mo];exact dN.refl v
 | .ref _ _,v| .aS _,v| .bg _ _ _ _ _,v| .cK _ _ _ _ _,v| .fn _ _,v=>by simp only[mo];exact dN.refl v
 | .agg _,.t _| .agg _,.bM _| .agg _,.ref _ _| .agg _,.aS _| .agg _,.bg _ _ _ _ _| .agg _,.cK _ _ _ _ _| .agg _,.fn _ _| .agg _,.dh=>by simp only[mo];exact dN.refl _
 | .bM _,.t _| .bM _,.agg _| .bM _,.ref _ _| .bM _,.aS _| .bM _,.bg _ _ _ _ _| .bM _,.cK _ _ _ _ _| .bM _,.fn _ _| .bM _,.dh=>by simp only[mo];exact dN.refl _
theorem Cf: ∀cs a:List V,fU a (ry cs a)
 |c::cs,v::a=>by simp only[ry];exact⟨H2 c v,Cf cs a⟩
 | [],a=>by simp only[ry];exact fU.refl a
 |_::_,[]=>by simp only[ry];exact trivial
end
def Dh:Option E->Option E->Option E
 |some (.cells cs),aa (.cells a)=>aa (.cells (ry cs a))
 |some _,e=>e
 |none,_=>aj
variable {c s a:S}{e x:E}{β W:Map}{w:World}{r l:List Nat}{m k i n gen b L g:Nat}{q:Option Nat}{X Z:Nat->Prop}{Q:Exit->S->Prop}{u:Value}{o:Oper}
theorem QK{c e:Option E}(h:Dh c e=aa x): ∃a,e=aa a/\kH a x:=by
 unfold Dh at h;split at h
 ·cases h;exact⟨_,rfl,Cf _ _⟩
 ·exact⟨x,h,kH.refl x⟩
 cases h
def vp(s:S):List (Nat×V)->List V
 | []=>[]
 |(i,v)::l=>mo v (s.t i)::vp s l
def vh(s:S):List (Nat×Option E)->List (Option E)
 | []=>[]
 |(k,e)::l=>Dh e (s.H k)::vh s l
def lf{k:Type}:List (Nat×k)->List k
 | []=>[]
 |(_,v)::l=>v::lf l
theorem G'{s:S}: ∀{l:List (Nat×V)},vp s l=lf l-> ∀i v,(i,v)∈l->dN (s.t i) v
 |(a,c)::l,h,i,v,hm=>by
  simp only[vp,lf,List.cons.injEq] at h;rcases ez.1 hm with hm|hm
  ·cases hm;exact h.1▸H2 _ _
  exact G' h.2 i v hm
theorem Hq{s:S}: ∀{l:List (Nat×Option E)},vh s l=lf l-> ∀k e,(k,aa e)∈l-> ∃a,s.H k=aa a/\kH a e
 |(lD,a)::l,h,k,e,hm=>by
  simp only[vh,lf,List.cons.injEq] at h;rcases ez.1 hm with hm|hm
  ·cases hm;exact QK h.1
  exact Hq h.2 k e hm
def sL{k:Type}(a:List Nat):List (Nat×k)->Bool
 | []=>ab
 |(i,_)::l=>jx i a&&sL a l
theorem GN{k:Type}{r:List Nat}: ∀{l:List (Nat×k)},sL r l=ab-> ∀i v,(i,v)∈l->i∈r
 |(a,c)::l,h,i,v,hm=>by
  simp only[sL,b9] at h;rcases ez.1 hm with hm|hm
  ·cases hm;exact B' h.1
  exact GN h.2 i v hm
def yz{k:Type}:List (Nat×k)->List Nat
 | []=>[]
 |(i,_)::l=>i::yz l
theorem PD{k:Type}{i:Nat}: ∀{l:List (Nat×k)},i∈yz l-> ∃v,(i,v)∈l
 |(d,a)::l,h=>by
  simp only[yz,List.mem_cons] at h;rcases h with rfl|h
  ·exact⟨a,eD⟩
  obtain⟨v,c⟩:=PD h;exact⟨v,eo _ c⟩
def C5(a:List Nat)(t:Nat->V):Nat->V:=λi=>bif jx i a then .dh else t i
def S.cl(s:S)(a:List Nat)(c:List (Nat×V))(d:List (Nat×Option E))(e:List (Nat×Bool)):S:={t:=dw (C5 a s.t) c,H:=dw s.H d,u:=dw s.u e}
theorem Rel.KY{K:Ctx}{a:Act}(l:Rel K β s a w)(n:c.u=s.u)(x: ∀k e,c.H k=aa e-> ∃m,s.H k=aa m/\kH m e)(y: ∀i,dN (s.t i) (c.t i)):Rel K β c a w:=by
 have d: ∀b,own K β c.H b->own K β s.H b:=by
  rintro b (h|⟨id,p,q⟩)
  ·exact .inl h
  cases o:c.H id with
  |none=>exact bB o p
  |some e=>
   obtain⟨m,r,_⟩:=x id e o;exact .inr ⟨id,by rw[r];simp,q⟩
 refine {l with low:= ?_,eF:= ?_,e9:= ?_,heap:= ?_,dC:= ?_}
 ·intro id h;rw[n];exact l.low id h
 ·intro id h;rw[n] at h;exact l.eF id h
 ·intro id b h;rw[n] at h;exact l.e9 id b h
 ·intro id e o;obtain⟨m,p,q⟩:=x id e o;obtain⟨r,z⟩:=l.heap id m p;refine⟨by rw[n];exact r,?_⟩;exact(q.zH z).mono (Ext.refl _ _) (λb _=>d b) (ed.refl _) (λ_ h=>h) (Shaped.refl _ _) λ_ _=>rfl
 intro i;exact(y i _ _ _ _ (l.dC i)).mono (Ext.refl _ _) (λb _=>d b) (ed.refl _) (Shaped.refl _ _)
theorem U4{K:Ctx}{e:c8}{d:List (Nat×V)}{c:List (Nat×Option E)}{m:List (Nat×Bool)}(z:e.us=m)(A:sL r e.gb=ab)(B:sL (yz c) e.hs=ab)
  (F:vp (e.app s) d=lf d) (G:vh (e.app s) c=lf c):(e.app s).le K (s.cl r d c m):=by
 intro L a w Q;refine⟨L,Q.KY ?_ ?_ ?_⟩
 ·show dw s.u m=dw s.u e.us;rw[z]
 ·intro k x o;have o:dw s.H c k=aa x:=o;rcases oo c s.H k with ⟨p,n⟩|⟨v,p,n⟩
  ·rw[n] at o;refine⟨x,?_,kH.refl x⟩;show dw s.H e.hs k=aa x;rw[nB _ _ _ λv q=>?_]
   ·exact o
   obtain⟨X,R⟩:=PD (GN B k v q)
   grind
  rw[n] at o;subst o;exact Hq G k x p
 intro i;show dN _ (dw (C5 r s.t) d i);rcases oo d (C5 r s.t) i with ⟨p,n⟩|⟨v,p,n⟩
 ·rw[n];unfold C5;cases y:jx i r with
  |true=>exact dN.dh _
  |false=>
   show dN (dw s.t e.gb i) (s.t i);rw[nB _ _ _ (λv q=>by
    have hm:=GN A i v q
    have: ∀{l:List Nat},i∈l->jx i l=ab:=by
     intro l;induction l with
     |nil=>intro h;cases h
     |cons x l W=>
      intro h;simp only[jx];rcases ez.1 h with rfl|h
      ·simp
      cases b5 x i with
      |true=>rfl
      |false=>exact W h
    rw[this hm] at y;cases y)]
   exact dN.refl _
 rw[n];exact G' F i v p
theorem O9{k:Type}(f:Nat->k)(i:Nat):a8 f i (f i)=f:=by
 funext j;by_cases a:j=i
 ·subst a;rw[cd]
 rw[cb _ _ _ _ a]
def Map.move(a:Map)(k c gen:Nat)(q:Option Nat):Map:=
 ⟨λi=>bif b5 i c then aa (q,1) else bif b5 i k then aa (aj,gen+1) else a i,λi b=>(i=c/\a.n k b)\/(i≠c/\i≠k/\a.n i b)⟩
theorem ID(h:i≠k):b5 i k=ak:=by
 cases a:b5 i k with
 |false=>rfl
 |true=>exact bB (de a) h
theorem OK(c:Map)(k a gen:Nat)(q:Option Nat):c.move k a gen q a=aa (q,1):=by simp[Map.move]
theorem OJ(c:Map)(k a gen:Nat)(q:Option Nat)(h:k≠a):c.move k a gen q k=aa (aj,gen+1):=by simp[Map.move,ID h]
theorem M2(a:Map)(k c gen:Nat)(q:Option Nat)(id:Nat)(h:id≠k)(d:id≠c):a.move k c gen q id=a id:=by simp[Map.move,ID h,ID d]
theorem afm(c:Map)(k d gen:Nat)(q:Option Nat)(a b:Nat)(h:a≠k)(e:a≠d):(c.move k d gen q).n a b↔c.n a b:=by simp[Map.move,h,e]
theorem aeG(d:k≠n)(e:W k=aa (q,gen))(h:At (W.move k n gen q) i b):(i=n/\At W k b)\/(i≠k/\i≠n/\At W i b):=by
 rcases h with ⟨g,h⟩|⟨rfl,h⟩|⟨a,c,h⟩
 ·by_cases a:i=n
  ·subst a;rw[OK] at h;cases h;exact .inl ⟨rfl,.inl ⟨gen,e⟩⟩
  by_cases c:i=k
  ·subst c;rw[OJ _ _ _ _ _ d] at h;cases h
  rw[M2 _ _ _ _ _ _ c a] at h;exact .inr ⟨c,a,.inl ⟨g,h⟩⟩
 ·exact .inl ⟨rfl,.inr h⟩
 exact .inr ⟨c,a,.inr h⟩
theorem cX.set{a:List V}{j:Nat}{c x:V}(h:cX β w X b (.cells a))(n:a[j]? =aa c)(o: ∀u,bq β w X c u->bq β w X x u):cX β w X b (.cells (a.set j x)):=by
 obtain⟨d,e,ty,k,l,m,p⟩:=h;refine⟨d,e,ty,k,l,by simpa using m,λi v u q r=>?_⟩
 grind
theorem Xx{K:Ctx}(b k i j gen p:Nat){e:TypeId}{n:List (List T)}{Q:List dB}{R:Nat}{l:List (List T)}{W:List (Nat×Nat×V)}(X:db K.dV k=ab)(Z:b≠k)
  (bb:s.H b=aa (.a7 Q m R l ((i,j,.bg k gen p 0 n.length)::W))) (hk:s.H k=aa (.arr e gen p n)):
  s.le K {t:=s.t,H:=a8 (a8 s.H k aj) b (aa (.a7 Q m R l ((i,j,.t (.bE n))::W))),u:=s.u}:=by
 intro y a w h;have rL:=eP X;generalize gz:(aa (.a7 Q m R l ((i,j,.t (.bE n))::W)):Option E)=N;have akB:N≠aj:=by subst gz;simp
 have d: ∀o,own K y (a8 (a8 s.H k aj) b N) o->own K y s.H o:=by
  rintro o (f|⟨id,q,G⟩)
  ·exact .inl f
  by_cases z:id=b
  ·subst z;exact .inr ⟨id,by rw[bb];simp,G⟩
  rw[cb _ _ _ _ z] at q;by_cases r:id=k
  ·subst r;rw[cd] at q;exact bB rfl q
  rw[cb _ _ _ _ r] at q;exact .inr ⟨id,q,G⟩
 have A: ∀o,At y k o-> ¬own K y (a8 (a8 s.H k aj) b N) o:=by
  rintro o F (f|⟨id,q,G⟩)
  ·obtain⟨ht,jS⟩:=h.k9 o f;rcases(h.fresh k o F).1 with g|kr
   ·exact jS g
   omega
  have:=h.inj _ _ _ G F;subst this;rw[cb _ _ _ _ (Ne.symm Z),cd] at q;exact q rfl
 have D:=(h.heap k _ hk).2;refine⟨y,{h with heap:= ?_,dC:= ?_}⟩
 ·intro id e' c;have c:a8 (a8 s.H k aj) b N id=aa e':=c;by_cases z:id=b
  ·subst z;rw[cd] at c;subst c;cases gz;obtain⟨r,L⟩:=h.heap id _ bb;refine⟨r,L.1,?_⟩;rcases L.2 with ⟨aN,a2,a3⟩|⟨o,us,B,aN,a2,a3,a4,a5,kj,jC,fV⟩
   ·exact .inl ⟨aN,a2,a3⟩
   refine .inr ⟨o,us,B,aN,a2,a3,a4,λjI eH I x u dc cS fP=>?_,kj,jC,fV⟩;have M:=a5 jI eH I x u dc cS fP;refine⟨λv bW=>?_,λP=>?_⟩
   ·rcases ez.1 bW with e|bW
    ·simp only[Prod.mk.injEq] at e;obtain⟨rfl,rfl,rfl⟩:=e;obtain⟨U,d2⟩:=M.1 _ eD;exact⟨.t _ _ (D.read U d A),d2⟩
    obtain⟨U,d2⟩:=M.1 v (eo _ bW);exact⟨U.mono (Ext.refl _ _) (λb _=>d b) (ed.refl _) (Shaped.refl _ _),d2⟩
   have hne: ¬(jI=i/\eH=j):=by rintro⟨rfl,rfl⟩;exact P _ eD
   refine(M.2 λv bW=>?_).mono (Ext.refl _ _) (λb _=>d b) (λ_ _=>rfl)
   grind
  rw[cb _ _ _ _ z] at c;by_cases r:id=k
  ·subst r;rw[cd] at c;cases c
  rw[cb _ _ _ _ r] at c;obtain⟨L,h6⟩:=h.heap id e' c;exact⟨L,h6.mono (Ext.refl _ _) (λb _=>d b) (ed.refl _) (λ_ h=>h) (Shaped.refl _ _) λ_ _=>rfl⟩
 intro i;exact(h.dC i).mono (Ext.refl _ _) (λb _=>d b) (ed.refl _) (Shaped.refl _ _)
theorem aay{K:Ctx}{c:Nat}(b j k:Nat)(e:TypeId){A:List V}(G:s.u k=ak)(Z:s.H b=aa (.cells A))(I:A[j]? =aa (.t .fT)):
  s.le K {t:=s.t,H:=a8 (a8 s.H k (aa (.arr e 1 c []))) b (aa (.cells (A.set j (.bg k 1 c 0 0)))),u:=a8 s.u k ab}:=by
 intro p a w h;have cD:=h.eF k G;have f:b≠k:=by intro e;subst e;have:=(h.heap b _ Z).1;rw[this] at G;cases G
 have q: ∀id x,p id=aa x->p.put k (aa (aj,1)) id=aa x:=λid x l=>by
  rw[fR _ _ _ _ (by intro e;subst e;rw[cD] at l;cases l)];exact l
 have L:=ed.of q;have o: ∀id n,At (p.put k (aa (aj,1))) id n->id≠k/\At p id n:=λid n l=>by
  by_cases r:id=k
  ·subst r;rcases l with ⟨g,l⟩|l
   ·rw[kp] at l;cases l
   exact bB l (h.e9 _ _ G)
  refine⟨r,?_⟩;rcases l with ⟨g,l⟩|l
  ·rw[fR _ _ _ _ r] at l;exact .inl ⟨g,l⟩
  exact .inr l
 have y: ∀n,own K (p.put k (aa (aj,1))) (a8 (a8 s.H k (aa (.arr e 1 c []))) b (aa (.cells (A.set j (.bg k 1 c 0 0))))) n->own K p s.H n:=by
  rintro n (l|⟨id,z,B⟩)
  ·exact .inl l
  obtain⟨D,Q⟩:=o id n B;by_cases X:id=b
  ·subst X;exact .inr ⟨id,by rw[Z];simp,Q⟩
  rw[cb _ _ _ _ X,cb _ _ _ _ D] at z;exact .inr ⟨id,z,Q⟩
 have R: ∀v u,bq p w (own K p s.H) v u->bq (p.put k (aa (aj,1))) w (own K (p.put k (aa (aj,1))) (a8 (a8 s.H k (aa (.arr e 1 c []))) b (aa (.cells (A.set j (.bg k 1 c 0 0)))))) v u:=
  λv u F=>F.mono (Ext.refl _ _) (λb _=>y b) L (Shaped.refl _ _)
 refine⟨p.put k (aa (aj,1)),{h with base:= ?_,low:= ?_,eF:= ?_,e9:= ?_,inj:= ?_,fresh:= ?_,heap:= ?_,dC:=λi=>R _ _ (h.dC i)}⟩
 ·refine h.base.keep λid hid=>?_
  have:=h.low id hid;rw[fR _ _ _ _ (by intro e;subst e;rw[G] at this;cases this)]
 ·intro id hid;show a8 s.u k ab id=ab;by_cases e:id=k
  ·subst e;exact cd _ _ _
  rw[cb _ _ _ _ e];exact h.low id hid
 ·intro id hid;have d:a8 s.u k ab id=ak:=hid;by_cases e:id=k
  ·subst e;rw[cd] at d;cases d
  rw[cb _ _ _ _ e] at d;rw[fR _ _ _ _ e];exact h.eF id d
 ·intro id b hid;have d:a8 s.u k ab id=ak:=hid;by_cases e:id=k
  ·subst e;rw[cd] at d;cases d
  rw[cb _ _ _ _ e] at d;exact h.e9 id b d
 ·intro id W n z B;exact h.inj id W n (o id n z).2 (o W n B).2
 ·intro id n l;exact h.fresh id n (o id n l).2
 intro id e' m;have m:a8 (a8 s.H k (aa (.arr e 1 c []))) b (aa (.cells (A.set j (.bg k 1 c 0 0)))) id=aa e':=m;show a8 s.u k ab id=ab/\cX _ _ (own K _ (a8 (a8 s.H k (aa (.arr e 1 c []))) b (aa (.cells (A.set j (.bg k 1 c 0 0)))))) id e';by_cases Q:id=b
 ·subst Q;rw[cd] at m;cases m;rw[cb _ _ _ _ f];obtain⟨X,n,P,ty,T,U,g3,M⟩:=h.heap id _ Z;refine⟨X,n,P,ty,q _ _ T,U,by simpa using g3,λi v u F N=>?_⟩;by_cases r:i=j
  ·subst r;have E:=(bS.1 I).1;rw[gD E] at F;cases F;have z:=M i _ u I N;cases z with
   |t _ _ B=>cases B;exact .iT k 1 c (cR _) (cd _ _ _)
  rw[js (Ne.symm r)] at F;exact R _ _ (M i v u F N)
 rw[cb _ _ _ _ Q] at m;by_cases r:id=k
 ·subst r;rw[cd] at m;cases m;exact⟨cd _ _ _,cR _,Or.inl ⟨cd _ _ _,rfl⟩⟩
 rw[cb _ _ _ _ r] at m;obtain⟨z,B⟩:=h.heap id e' m;exact⟨by rw[cb _ _ _ _ r];exact z,B.mono (Ext.refl _ _) (λb _=>y b) L (q id) (Shaped.refl _ _) λ_ _=>rfl⟩
def mQ(k:Nat):Nat->Bool:=λid=>bif b5 id k then ak else ab
def tc(k:Nat)(v:V):V:=bif v.ok (mQ k) then v else .dh
def Iv(k:Nat):E->Option E
 | .cells cs=>bif hl (mQ k) cs then aa (.cells cs) else aj
 | .a7 d m gen a c=>bif vw (mQ k) c then aa (.a7 d m gen a c) else aj
 |e=>aa e
theorem CN(h:i≠k):mQ k i=ab:=by
 have:b5 i k=ak:=by cases a:b5 i k with
  |false=>rfl
  |true=>exact bB (de a) h
 simp[mQ,this]
theorem yh(h:mQ k i=ab):i≠k:=by intro e;subst e;simp[mQ] at h
def E.nN(n:Nat):E->E
 | .arr e _ z r=> .arr e n z r
 | .a7 Γ m _ r a=> .a7 Γ m n r a
 |e=>e
abbrev E.Et:E->E:=E.nN 1
def E.qt:E->List (Nat×Nat×V)
 | .a7 _ _ _ _ a=>a
 |_=>[]
theorem cX.nN{β':Map}(h:cX β w X k e)(d:1<=n)(z:e.gen=aa g)(s:β k=aa (q,g))(y:β' L=aa (q,n))(H: ∀b,β'.n L b↔β.n k b)(Q: ∀b,Z b->X b)
  (W: ∀i j v,(i,j,v)∈e.qt-> ∀u,bq β w X v u->bq β' w Z v u):cX β' w Z L (e.nN n):=by
 cases e with
 |cells=>cases z
 |arr ty f R l=>
  cases z;refine⟨d,?_⟩;rcases h.2 with ⟨aN,a2⟩|⟨b,A,aN,a2,a3,a4,a5⟩
  ·rw[s] at aN;cases aN;exact .inl ⟨y,a2⟩
  rw[s] at aN;cases aN;exact .inr ⟨b,A,y,a2,a3,a4,λi j a x u o p r=>(a5 i j a x u o p r).mono (Ext.refl _ _) λb _=>Q b⟩
 |a7 D m f l I=>
  cases z;refine⟨d,?_⟩;rcases h.2 with ⟨aN,a2,a0⟩|⟨b,A,B,aN,a2,a3,a4,a5,kj,jC,fV⟩
  ·rw[s] at aN;cases aN;exact .inl ⟨y,a2,λc t=>a0 c ((H c).1 t)⟩
  rw[s] at aN;cases aN;exact .inr ⟨b,A,B,y,a2,a3,a4,λi j a x u o p r=>⟨λv F=>⟨W i j v F _ ((a5 i j a x u o p r).1 v F).1,((a5 i j a x u o p r).1 v F).2⟩,λG=>((a5 i j a x u o p r).2 G).mono (Ext.refl _ _) (λc _=>Q c) λ_ _=>rfl⟩,kj,jC,λc=>(H c).trans (fV c)⟩
theorem Po{v:V}(h:bq W w X v u)(a: ∀b,Z b->X b):bq (W.put k (aa (q,g+1))) w Z (tc k v) u:=by
 unfold tc;cases c:v.ok (mQ k) with
 |false=>exact .dh _
 |true=>exact h.under a (λid hid=>fR _ _ _ _ (yh hid)) c
theorem OB{y:E}(h:cX W w X i x)(e: ∀b,Z b->X b)(l:i≠k)(a:Iv k x=aa y):cX (W.put k (aa (q,g+1))) w Z i y:=by
 unfold Iv at a;split at a
 ·rename_i cs;cases c:hl (mQ k) cs with
  |false=>rw[c] at a;cases a
  |true=>rw[c] at a;cases a;exact h.under e (λi hid=>fR _ _ _ _ (yh hid)) (CN l) c
 ·rename_i n;cases c:vw (mQ k) n with
  |false=>rw[c] at a;cases a
  |true=>rw[c] at a;cases a;exact h.under e (λi hid=>fR _ _ _ _ (yh hid)) (CN l) c
 cases a;refine h.under e (u:=mQ k) (λi hid=>fR _ _ _ _ (yh hid)) (CN l) ?_;cases x with
 |cells cs=>rename_i o _;exact bB rfl (o cs)
 |arr=>rfl
 |a7 p m gen d n=>rename_i _ o;exact bB rfl (o p m gen d n)
def rr(k:Nat)(H:Nat->Option E):Nat->Option E:=λid=>match H id with
 |some e=>Iv k e
 |none=>aj
theorem Rel.Ts{K:Ctx}{s':S}{a:Act}(h:Rel K β s a w)(k g gen:Nat){G:Option Nat}(B:s.H k=aa e)(f:e.gen=aa gen)(L:e.qt=[])(Q:k<K.dV)(R:K.hb k=aa (G,g))
  (n:s'.u=s.u) (W:s'.H k=aa (e.nN (g+1))) (q:Option Nat) (F:β k=aa (q,gen))
  (D: ∀id x,id≠k->s'.H id=aa x->s.H id≠aj/\ ∀X,(∀b,X b->own K β s.H b)->cX (β.put k (aa (q,g+1))) w X id x)
  (P: ∀i,∀X,(∀b,X b->own K β s.H b)->bq (β.put k (aa (q,g+1))) w X (s'.t i) (a.tmps.getD i undef)):Rel K (β.put k (aa (q,g+1))) s' a w:=by
 have Z:1<=gen:=(pU (h.heap k _ B).2 f).1;have o:=(h.heap k _ B).1;have p:1<=g/\ ∀b,q=aa b->G=aa b\/K.w0.heap.size<=b:=by
  rcases h.base k Q with I|⟨U,V,q2,g2,aN,a2,a3,a4,a5⟩
  ·rw[F,R] at I;cases I;exact⟨Z,λb bb=> .inl bb⟩
  rw[R] at aN;cases aN;rw[F] at a3;cases a3;exact⟨a2,a5⟩
 have c: ∀id b,At (β.put k (aa (q,g+1))) id b->At β id b:=λid b bb=>by
  rcases bb with ⟨T,bb⟩|bb
  ·by_cases d:id=k
   ·subst d;rw[kp] at bb;cases bb;exact .inl ⟨gen,F⟩
   rw[fR _ _ _ _ d] at bb;exact .inl ⟨T,bb⟩
  exact .inr bb
 have l: ∀b,own K (β.put k (aa (q,g+1))) s'.H b->own K β s.H b:=by
  rintro b (m|⟨id,r,z⟩)
  ·exact .inl m
  refine .inr ⟨id,?_,c id b z⟩;by_cases d:id=k
  ·subst d;rw[B];simp
  cases m:s'.H id with
  |none=>exact bB m r
  |some x=>exact(D id x d m).1
 refine {h with base:= ?_,low:= ?_,eF:= ?_,e9:=λid b hid=>h.e9 id b (n▸hid),inj:= ?_,fresh:=λid b bb=>h.fresh id b (c id b bb),heap:= ?_,dC:=λi=>P i _ l}
 ·intro id hid;by_cases d:id=k
  ·subst d;exact .inr ⟨G,g,q,g+1,R,p.1,cd _ _ _,pF _,p.2⟩
  rw[fR _ _ _ _ d];exact h.base id hid
 ·intro id hid;rw[n];exact h.low id hid
 ·intro id hid;rw[n] at hid;rw[fR _ _ _ _ (by intro e;subst e;rw[o] at hid;cases hid)];exact h.eF id hid
 ·intro id A b r z;exact h.inj id A b (c id b r) (c A b z)
 intro id x m;by_cases d:id=k
 ·subst d;rw[W] at m;cases m;exact⟨by rw[n];exact o,(h.heap id _ B).2.nN O f F (cd _ _ _) (λ_=>Iff.rfl) l λi j v M=>by rw[L] at M;cases M⟩
 obtain⟨r,z⟩:=D id x d m;refine⟨?_,z _ l⟩;rw[n];cases N:s.H id with
 |none=>exact bB N r
 |some y=>exact(h.heap id y N).1
theorem N0(l:W k=aa (q,gen))(h:bq W w X (.bg k gen i L m) u):bq (W.put k (aa (q,g+1))) w Z (.bg k (g+1) i L m) u:=by
 rcases d4 h l with ⟨c,b,n,d,rfl,a,o,p,e,r,s⟩|⟨a,rfl,rfl,rfl⟩
 ·subst a;exact .bg k (g+1) i L m c b n d O (cd _ _ _) o p e r s
 subst a;exact .iT k (g+1) i O (cd _ _ _)
theorem F1{K:Ctx}(i k g gen c d l:Nat)(L:dt k K.dV=ab)(Q:s.t i= .bg k gen c d l)(A:s.H k=aa e)(B:e.gen=aa gen)(o:e.qt=[])(p: ∃q,K.hb k=aa (q,g)):
  s.le K {t:=a8 (λj=>tc k (s.t j)) i (.bg k (g+1) c d l),H:=a8 (rr k s.H) k (aa (e.nN (g+1))),u:=s.u}:=by
 intro R a w h;obtain⟨W,p⟩:=p;obtain⟨_,q,F⟩:=pU (h.heap k _ A).2 B;refine⟨_,h.Ts (s':={t:=a8 (λj=>tc k (s.t j)) i (.bg k (g+1) c d l),H:=a8 (rr k s.H) k (aa (e.nN (g+1))),u:=s.u}) k g gen A B o (by simpa[Nat.blt_eq] using L) p rfl (cd _ _ _) q F ?_ ?_⟩
 ·intro id x n m;have m:a8 (rr k s.H) k (aa (e.nN (g+1))) id=aa x:=m;rw[cb _ _ _ _ n] at m;unfold rr at m;cases r:s.H id with
  |none=>rw[r] at m;cases m
  |some y=>
   rw[r] at m;exact⟨aX,λX z=>OB (h.heap id y r).2 z n m⟩
 intro j X z;show bq _ w X (a8 (λj=>tc k (s.t j)) i (.bg k (g+1) c d l) j) _;by_cases G:j=i
 ·subst G;rw[cd];exact N0 F (Q▸h.dC j)
 rw[cb _ _ _ _ G];exact Po (h.dC j) z
theorem om{K:Ctx}(b j k g gen c l m:Nat){cs:List V}(cY:dt k K.dV=ab)(A:s.H b=aa (.cells cs))(B:cs[j]? =aa (.bg k gen c l m))(F:hl (mQ k) (cs.set j .dh)=ab)
  (z:s.H k=aa e) (G:e.gen=aa gen) (L:e.qt=[]) (Q: ∃q,K.hb k=aa (q,g)):
  s.le K {t:=λj=>tc k (s.t j),H:=a8 (a8 (rr k s.H) k (aa (e.nN (g+1)))) b (aa (.cells (cs.set j (.bg k (g+1) c l m)))),u:=s.u}:=by
 intro R a w h;obtain⟨uh,Q⟩:=Q;obtain⟨_,q,D⟩:=pU (h.heap k _ z).2 G;have n:b≠k:=by intro e';subst e';rw[A] at z;cases z;cases G
 refine⟨_,h.Ts (s':={t:=λj=>tc k (s.t j),H:=a8 (a8 (rr k s.H) k (aa (e.nN (g+1)))) b (aa (.cells (cs.set j (.bg k (g+1) c l m)))),u:=s.u}) k g gen z G L (by simpa[Nat.blt_eq] using cY) Q rfl (by show a8 _ b _ k=_;rw[cb _ _ _ _ (Ne.symm n),cd]) q D ?_ ?_⟩
 ·intro id x o d;have d:a8 (a8 (rr k s.H) k (aa (e.nN (g+1)))) b (aa (.cells (cs.set j (.bg k (g+1) c l m)))) id=aa x:=d;by_cases p:id=b
  ·subst p;rw[cd] at d;cases d;refine⟨by rw[A];simp,λX r=>?_⟩;have I:=(h.heap id _ A).2;have h6:cX R w (own K R s.H) id (.cells (cs.set j .dh)):=I.set B λu _=> .dh u;have pe:=h6.under (u:=mQ k) (β':=R.put k (aa (q,g+1))) r (λid hid=>fR _ _ _ _ (yh hid)) (CN n) F;obtain⟨jf,us,ty,M,N,g3,g4⟩:=pe;obtain⟨cS,sr,akc,P,T,f3,f4⟩:=I;rw[fR _ _ _ _ n,P] at M;cases M;rw[T] at N;cases N;refine⟨_,_,_,by rw[fR _ _ _ _ n];exact P,T,by simpa using f3,λi v u W hu=>?_⟩;by_cases U:i=j
   ·subst U;have Z:=(bS.1 B).1;rw[gD Z] at W;cases W;exact N0 D (f4 i _ u B hu)
   rw[js (Ne.symm U)] at W
   grind
  rw[cb _ _ _ _ p,cb _ _ _ _ o] at d;unfold rr at d;cases f:s.H id with
  |none=>rw[f] at d;cases d
  |some y=>
   rw[f] at d;exact⟨aX,λX r=>OB (h.heap id y f).2 r o d⟩
 intro j X r;exact Po (h.dC j) r
inductive n0 (p:V->V->Prop):V->V->Prop
 |same (v:V):n0 p v v
 |put {v ef:V} (h:p v ef):n0 p v ef
 |agg {cs Je:List V} (cI:Je.length=cs.length) (h: ∀(i:Nat) c R0,cs[i]? =aa c->Je[i]? =aa R0->n0 p c R0):n0 p (.agg cs) (.agg Je)
theorem IC{p:V->V->Prop}{T:Map}{a:World}(e: ∀v u,bq T w X v u->bq W a Z v u)(k: ∀v x u,p v x->bq T w X v u->bq W a Z x u){v x:V}(h:n0 p v x): ∀u,bq T w X v u->bq W a Z x u:=by
 induction h with
 |same v=>exact e v
 |put h=>exact λu=>k _ _ u h
 |agg l h m=>
  intro u d;cases d with
  |agg _ n o q=>
   refine .agg _ n O λi r u c d=>?_;have hi:=(bS.1 c).1;have bT:=bp (show i<_ by rw[<-l];exact hi);exact m i _ r bT c u (q i _ u bT d)
def xw(p:V->V->Prop)(e d:E):Prop:=d=e\/ ∃cs a,e= .cells cs/\d= .cells a/\a.length=cs.length/\ ∀(i:Nat) c h,cs[i]? =aa c->a[i]? =aa h->n0 p c h
theorem xw.zH{p:V->V->Prop}{T:Map}(c: ∀x,T n=aa x->W n=aa x)(l: ∀e,cX T w X n e->cX W w Z n e)(m: ∀v u,bq T w X v u->bq W w Z v u)(o: ∀v d u,p v d->bq T w X v u->bq W w Z d u){e':E}(h:xw p e e')(k:cX T w X n e):cX W w Z n e':=by
 rcases h with rfl|⟨cs,q,rfl,rfl,r,h⟩
 ·exact l _ k
 obtain⟨b,s,ty,y,z,G,A⟩:=k;refine⟨b,s,ty,c _ y,z,O,λi B u a F=>?_⟩;have hi:=(bS.1 a).1;have bT:=bp (show i<_ by rw[<-r];exact hi);exact IC m o (h i _ B bT a) u (A i _ u bT F)
theorem Xy{K:Ctx}(Z:Nat->V)(o:Nat->Option E)(k gen d:Nat){e:TypeId}{c:List (List T)}(F:db K.dV k=ab)(D:s.H k=aa (.arr e gen d c))
  (I: ∀i,n0 (λv p=>v= .bg k gen d 0 c.length/\p= .t (.bE c)) (s.t i) (Z i)) (M:o k=aj)
  (f: ∀id q,o id=aa q-> ∃r,s.H id=aa r/\xw (λv p=>v= .bg k gen d 0 c.length/\p= .t (.bE c)) r q):s.le K {t:=Z,H:=o,u:=s.u}:=by
 intro l a w h;have N:=eP F;have m: ∀n,own K l o n->own K l s.H n:=by
  rintro n (G|⟨id,A,x⟩)
  ·exact .inl G
  cases B:o id with
  |none=>exact bB B A
  |some q=>obtain⟨r,L,_⟩:=f id q B;exact .inr ⟨id,by rw[L];simp,x⟩
 have y: ∀n,At l k n-> ¬own K l o n:=by
  rintro n z (G|⟨id,A,x⟩)
  ·obtain⟨ht,P⟩:=h.k9 n G;rcases(h.fresh k n z).1 with Q|U
   ·exact P Q
   omega
  have:=h.inj _ _ _ x z
  grind
 have R:=(h.heap k _ D).2;have g: ∀v u,bq l w (own K l s.H) v u->bq l w (own K l o) v u:=λv u W=>W.mono (Ext.refl _ _) (λb _=>m b) (ed.refl _) (Shaped.refl _ _);have j: ∀v p u,(v= .bg k gen d 0 c.length/\p= .t (.bE c))->bq l w (own K l s.H) v u->bq l w (own K l o) p u:=by
  rintro v p u ⟨rfl,rfl⟩ W;exact .t _ _ (R.read W m y)
 refine⟨l,{h with heap:= ?_,dC:= ?_}⟩
 ·intro id q X;obtain⟨r,A,x⟩:=f id q X;obtain⟨L,h4⟩:=h.heap id r A;exact⟨L,x.zH (λ_ h=>h) (λe B=>B.mono (Ext.refl _ _) (λb _=>m b) (ed.refl _) (λ_ h=>h) (Shaped.refl _ _) λ_ _=>rfl) g j h4⟩
 intro i;exact IC g j (I i) _ (h.dC i)
theorem Zh{K:Ctx}(mU:Nat->V)(z:Nat->Option E)(k cz gen l X:Nat){B:E}(U:db K.dV k=ab)(Z:k≠cz)(N:s.H k=aa B)(bL:B.gen=aa gen)(hu:s.u cz=ak)
  (gJ: ∀i,n0 (λv L=>v= .bg k gen l 0 X/\L= .bg cz 1 l 0 X) (s.t i) (mU i)) (ag5:z k=aj) (f:z cz=aa B.Et)
  (hH: ∀id e',id≠cz->z id=aa e'-> ∃B,s.H id=aa B/\xw (λv L=>v= .bg k gen l 0 X/\L= .bg cz 1 l 0 X) B e'):
  s.le K {t:=mU,H:=z,u:=a8 s.u cz ab}:=by
 intro A a w h;have rL:=eP U;obtain⟨kq,q,dI⟩:=pU (h.heap k _ N).2 bL;have JJ:=(h.heap k _ N).1;have cD:=h.eF cz hu;have akQ:K.dV<=cz:=by
  apply Nat.le_of_not_lt;intro hlt;rw[h.low cz hlt] at hu;cases hu
 let d:=A.move k cz gen q;have dc:d cz=aa (q,1):=OK _ _ _ _ _;have cS:d k=aa (aj,gen+1):=OJ _ _ _ _ _ Z;have P: ∀id,id≠k->id≠cz->d id=A id:=λid m r=>M2 _ _ _ _ _ _ m r;have o: ∀id b,At d id b->(id=cz/\At A k b)\/(id≠k/\id≠cz/\At A id b):=by
  intro id b Q;exact aeG Z dI Q
 have D:ed A d:=by
  intro id q2 g F
  grind
 have y: ∀b,own K d z b->own K A s.H b:=by
  rintro b (F|⟨id,m,r⟩)
  ·exact .inl F
  rcases o id b r with ⟨rfl,p⟩|⟨p,I,G⟩
  ·exact .inr ⟨k,by rw[N];simp,p⟩
  cases T:z id with
  |none=>exact bB T m
  |some e'=>obtain⟨B,R,_⟩:=hH id e' I T;exact .inr ⟨id,by rw[R];simp,G⟩
 have hm: ∀v u,bq A w (own K A s.H) v u->bq d w (own K d z) v u:=λv u bW=>bW.mono (Ext.refl _ _) (λb _=>y b) D (Shaped.refl _ _);have hp: ∀v L u,(v= .bg k gen l 0 X/\L= .bg cz 1 l 0 X)->bq A w (own K A s.H) v u->bq d w (own K d z) L u:=by
  rintro v L u ⟨rfl,rfl⟩ bW;rcases d4 bW dI with ⟨cap,b,n,lH,rfl,W,hw,hs,tF,cI,DB⟩|⟨W,m,r,rfl⟩
  ·subst W;exact .bg cz 1 l 0 _ cap b n lH (cR _) dc hw hs tF cI DB
  subst W;rw[r];exact .iT cz 1 l (cR _) dc
 refine⟨d,{h with base:= ?_,low:= ?_,eF:= ?_,e9:= ?_,inj:= ?_,fresh:= ?_,heap:= ?_,dC:= ?_}⟩
 ·exact h.base.keep λid hid=>P id O O
 ·intro id hid;show a8 s.u cz ab id=ab;rw[cb _ _ _ _ O];exact h.low id hid
 ·intro id hid;have c:a8 s.u cz ab id=ak:=hid;by_cases m:id=cz
  ·subst m;rw[cd] at c;cases c
  rw[cb _ _ _ _ m] at c;rw[P id (by intro e;subst e;rw[JJ] at c;cases c) m];exact h.eF id c
 ·intro id b hid Q;have c:a8 s.u cz ab id=ak:=hid;rcases Q with ⟨m,_⟩|⟨m,_,Q⟩
  ·subst m;rw[cd] at c;cases c
  rw[cb _ _ _ _ m] at c;exact h.e9 id b c Q
 ·intro id lZ b m r;rcases o id b m with ⟨rfl,p⟩|⟨p,I,G⟩<;>rcases o lZ b r with ⟨e2,R⟩|⟨R,pe,qj⟩
  ·exact e2.symm
  ·exact bB (h.inj _ _ b qj p) R
  ·subst e2;exact bB (h.inj _ _ b G R) p
  exact h.inj _ _ b G qj
 ·intro id b Q;rcases o id b Q with ⟨rfl,p⟩|⟨p,I,G⟩
  ·refine⟨?_,(h.fresh _ _ p).2⟩;exact(h.fresh _ _ p).1
  exact h.fresh id b G
 ·intro id e' F;have M:z id=aa e':=F;clear F;show a8 s.u cz ab id=ab/\cX d w (own K d z) id e';by_cases m:id=cz
  ·subst m;rw[f] at M;cases M;exact⟨cd _ _ _,(h.heap k _ N).2.nN (cR _) bL dI dc (λb=>by simp[d,Map.move]) y λ_ _ v _ u=>hm v u⟩
  have r:id≠k:=by intro e;subst e;rw[ag5] at M;cases M
  obtain⟨B,G,R⟩:=hH id e' m M;obtain⟨p,I⟩:=h.heap id B G;rw[cb _ _ _ _ m];refine⟨p,R.zH (λx F=>by rw[P id r m];exact F) (λe T=>T.mono (Ext.refl _ _) (λb _=>y b) D (λx F=>by rw[P id r m];exact F) (Shaped.refl _ _) (λ_ _=>rfl) λb=>afm _ _ _ _ _ _ _ r m) hm hp I⟩
 intro j;exact IC hm hp (gJ j) _ (h.dC j)
mutual
def qQ(k g z n:Nat)(c:V):V->V×List dE
 | .bg h gen a d e=>match b5 h k&&b5 d 0 with
  |true=>(c,[.q gen g,.q a z,.q e n])
  |false=>(.bg h gen a d e,[])
 | .agg cs=>(.agg (nK k g z n c cs).1,(nK k g z n c cs).2)
 |v=>(v,[])
def nK(k g z n:Nat)(a:V):List V->List V×List dE
 | []=>([],[])
 |c::cs=>((qQ k g z n a c).1::(nK k g z n a cs).1,(qQ k g z n a c).2++(nK k g z n a cs).2)
end
theorem Ga(k g z n:Nat)(a:V): ∀cs,(nK k g z n a cs).1.length=cs.length
 | []=>rfl
 |c::cs=>by simp[nK,Ga k g z n a cs]
mutual
theorem QO(k g z n:Nat)(c:V): ∀v,cy (qQ k g z n c v).2->n0 (λa b=>a= .bg k g z 0 n/\b=c) v (qQ k g z n c v).1
 | .bg l gen i e m,h=>by
  unfold qQ at h⊢;cases d:b5 l k&&b5 e 0 with
  |false=>exact .same _
  |true=>
   simp only[d] at h⊢;simp only[b9] at d;obtain⟨rfl,rfl,rfl,_⟩:=h;have o:=de d.1;have p:=de d.2;subst o;subst p;exact .put ⟨rfl,rfl⟩
 | .agg cs,h=>by
  simp only[qQ] at h⊢;exact .agg (Ga _ _ _ _ _ _) (Ib k g z n c cs h)
 | .t _,_| .bM _,_| .ref _ _,_| .aS _,_| .cK _ _ _ _ _,_| .fn _ _,_| .dh,_=>by simp only[qQ];exact .same _
theorem Ib(k g z n:Nat)(d:V): ∀cs,cy (nK k g z n d cs).2-> ∀(i:Nat) c l,cs[i]? =aa c->(nK k g z n d cs).1[i]? =aa l->n0 (λa b=>a= .bg k g z 0 n/\b=d) c l
 | [],_,i,c,l,h,_=>by simp at h
 |o::cs,m,0,c,l,h,e=>by
  simp only[nK] at m e;simp at h e;subst h;subst e;exact QO k g z n d o (cy.app m).1
 |o::cs,m,i+1,c,l,h,e=>by simp only[nK] at m e;simp at h e;exact Ib k g z n d cs (cy.app m).2 i c l h e
end
def jl(k g z n:Nat)(a:V)(s:S):List Nat->List (Nat×V)×List dE
 | []=>([],[])
 |i::is=>((i,(qQ k g z n a (s.t i)).1)::(jl k g z n a s is).1,(qQ k g z n a (s.t i)).2++(jl k g z n a s is).2)
def ho(k g z n:Nat)(a:V)(s:S):List Nat->List (Nat×Option E)×List dE
 | []=>([],[])
 |b::c=>match s.H b with
  |some (.cells cs)=>((b,aa (.cells (nK k g z n a cs).1))::(ho k g z n a s c).1,(nK k g z n a cs).2++(ho k g z n a s c).2)
  |_=>ho k g z n a s c
theorem Ia{k g z n:Nat}{x:V}{s:S}: ∀{is:List Nat},cy (jl k g z n x s is).2-> ∀i v,(i,v)∈(jl k g z n x s is).1->n0 (λa b=>a= .bg k g z 0 n/\b=x) (s.t i) v
 |i0::is,c,i,v,h=>by
  simp only[jl] at c h;rcases ez.1 h with h|h
  ·cases h;exact QO _ _ _ _ _ _ (cy.app c).1
  exact Ia (cy.app c).2 i v h
theorem CK{k g z n:Nat}{x:V}{s:S}: ∀{i:List Nat},cy (ho k g z n x s i).2-> ∀b e,(b,e)∈(ho k g z n x s i).1-> ∃m o,s.H b=aa m/\e=aa o/\xw (λa b=>a= .bg k g z 0 n/\b=x) m o
 |p::i,c,b,e,h=>by
  unfold ho at c h;split at h
  ·rename_i cs d;simp only[d] at c;rcases ez.1 h with h|h
   ·cases h;exact⟨_,_,d,rfl,.inr ⟨cs,_,rfl,rfl,Ga _ _ _ _ _ _,Ib _ _ _ _ _ _ (cy.app c).1⟩⟩
   exact CK (cy.app c).2 b e h
  rename_i d;split at c
  ·rename_i cs l;exact bB l (d cs)
  exact CK c b e h
theorem Qx{k:Nat}: ∀{l:List Nat},k∈l->jx k l=ab
 |x::l,h=>by
  simp only[jx];rcases ez.1 h with rfl|h
  ·simp
  cases b5 x k with
  |true=>rfl
  |false=>exact Qx h
theorem xN(h:(!jx k l)=ab):k∉l:=λa=>by rw[Qx a] at h;cases h
theorem Qo{cz:Nat}(h:(!Nat.beq k cz)=ab):k≠cz:=λe=>by subst e;simp at h
theorem xL{k g z n:Nat}{x:V}{s:S}: ∀{a:List Nat} {b:Nat} {e:Option E},(b,e)∈(ho k g z n x s a).1->b∈a
 |c::a,b,e,h=>by
  unfold ho at h;split at h
  ·rcases ez.1 h with h|h
   ·cases h;exact eD
   exact eo _ (xL h)
  exact eo _ (xL h)
theorem UW{K:Ctx}{e:TypeId}{a:List (List T)}{L:List Nat}(h:db K.dV k=ab)(m:s.H k=aa (.arr e gen n a))(o:k∉r)
  (p:cy (jl k gen n a.length (.t (.bE a)) s L).2) (q:cy (ho k gen n a.length (.t (.bE a)) s r).2):
  s.le K ((⟨(jl k gen n a.length (.t (.bE a)) s L).1,(k,aj)::(ho k gen n a.length (.t (.bE a)) s r).1,[]⟩:c8).app s):=by
 refine Xy _ _ k gen n h m (λi=>?_) ?_ λid e' c=>?_
 ·rcases oo (jl k gen n a.length (.t (.bE a)) s L).1 s.t i with ⟨_,d⟩|⟨v,l,d⟩
  ·rw[d];exact .same _
  rw[d];exact Ia p i v l
 ·show dw (a8 s.H k aj) _ k=aj;rw[nB _ _ _ λv w=>o (xL w),cd]
 have c:dw (a8 s.H k aj) (ho k gen n a.length (.t (.bE a)) s r).1 id=aa e':=c;rcases oo (ho k gen n a.length (.t (.bE a)) s r).1 (a8 s.H k aj) id with ⟨_,d⟩|⟨v,l,d⟩
 ·rw[d] at c;by_cases hid:id=k
  ·subst hid;rw[cd] at c;cases c
  rw[cb _ _ _ _ hid] at c;exact⟨e',c,.inl rfl⟩
 rw[d] at c;subst c;obtain⟨x,y,z,A,B⟩:=CK q id _ l
 grind
theorem RN{K:Ctx}(o:db K.dV k=ab)(d:k≠L)(x:s.H k=aa e)(y:e.gen=aa gen)(z:s.u L=ak)(A:k∉r)(p:L∉r)
  (B:cy (jl k gen n m (.bg L 1 n 0 m) s l).2) (F:cy (ho k gen n m (.bg L 1 n 0 m) s r).2):
  s.le K ((⟨(jl k gen n m (.bg L 1 n 0 m) s l).1,(k,aj)::(L,aa e.Et)::(ho k gen n m (.bg L 1 n 0 m) s r).1,[(L,ab)]⟩:c8).app s):=by
 refine Zh _ _ k L gen n m o d x y z (λi=>?_) ?_ ?_ λid e' h a=>?_
 ·rcases oo (jl k gen n m (.bg L 1 n 0 m) s l).1 s.t i with ⟨_,c⟩|⟨v,q,c⟩
  ·rw[c];exact .same _
  rw[c];exact Ia B i v q
 ·show dw (a8 (a8 s.H k aj) L _) _ k=aj;rw[nB _ _ _ λv w=>A (xL w),cb _ _ _ _ d,cd]
 ·show dw (a8 (a8 s.H k aj) L _) _ L=_;rw[nB _ _ _ λv w=>p (xL w),cd]
 have a:dw (a8 (a8 s.H k aj) L (aa e.Et)) (ho k gen n m (.bg L 1 n 0 m) s r).1 id=aa e':=a;rcases oo (ho k gen n m (.bg L 1 n 0 m) s r).1 (a8 (a8 s.H k aj) L (aa e.Et)) id with ⟨_,c⟩|⟨v,q,c⟩
 ·rw[c,cb _ _ _ _ h] at a;by_cases hid:id=k
  ·subst hid;rw[cd] at a;cases a
  rw[cb _ _ _ _ hid] at a;exact⟨e',a,.inl rfl⟩
 rw[c] at a;subst a;obtain⟨e,G,Q,R,W⟩:=CK F id _ q
 grind
theorem Xw{K:Ctx}(B:Nat->V)(k:Nat){G:List T}(L:db K.dV k=ab)(X:s.H k=aa (.cells (G.map .t)))
  (Z: ∀i,B i=s.t i\/ ∃c,s.t i= .ref k c/\B i= .aS (G.drop c)):s.le K {t:=B,H:=a8 s.H k aj,u:=s.u}:=by
 intro q a w h;have f:=eP L;obtain⟨b,p,ty,F,g,R,v⟩:=(h.heap k _ X).2;have m: ∀Q,own K q (a8 s.H k aj) Q->own K q s.H Q:=by
  rintro Q (r|⟨id,n,o⟩)
  ·exact .inl r
  by_cases hid:id=k
  ·subst hid;rw[cd] at n;exact bB rfl n
  rw[cb _ _ _ _ hid] at n;exact .inr ⟨id,n,o⟩
 have y: ¬own K q (a8 s.H k aj) b:=by
  rintro(r|⟨id,n,o⟩)
  ·obtain⟨ht,D⟩:=h.k9 b r;rcases(h.fresh k b (.inl ⟨_,F⟩)).1 with d|E
   ·exact D d
   omega
  have:=h.inj _ _ _ o (.inl ⟨_,F⟩);subst this;rw[cd] at n;exact n rfl
 refine⟨q,{h with heap:= ?_,dC:= ?_}⟩
 ·intro id e' l;have l:a8 s.H k aj id=aa e':=l;by_cases hid:id=k
  ·subst hid;rw[cd] at l;cases l
  rw[cb _ _ _ _ hid] at l;obtain⟨n,o⟩:=h.heap id e' l;exact⟨n,o.mono (Ext.refl _ _) (λb _=>m b) (ed.refl _) (λ_ h=>h) (Shaped.refl _ _) λ_ _=>rfl⟩
 intro j;show bq q w _ (B j) _;rcases Z j with I|⟨c,n,o⟩
 ·rw[I];exact(h.dC j).mono (Ext.refl _ _) (λb _=>m b) (ed.refl _) (Shaped.refl _ _)
 rw[o];have W:=h.dC j;rw[n] at W;obtain⟨cS,z,M⟩:=sM W;rw[F] at z;cases z;rw[M];have bb:=(h.fresh k b (.inl ⟨_,F⟩)).2;refine .aS _ b c (λi=>p.getD (c+i) undef) bb y (λi N=>?_) λi x r=>?_
 ·have d:c+i<p.size:=by simp at N R;omega
  simp[World.cell?,g,d]
 have A:G[c+i]? =aa x:=by simpa using r
 have d:c+i<p.size:=by have:=(bS.1 A).1;simp at R;omega
 have P:=v (c+i) (.t x) p[c+i] (by simp[A]) (by simp[d]);have e:p.getD (c+i) undef=p[c+i]:=by simp[d]
 rw[e];cases P with
 |t _ _ U=>exact U.mono (Ext.refl _ _) λb _=>m b
def Dp(k:Nat)(c:List T)(s:S):List Nat->Option (List (Nat×V))
 | []=>aa []
 |i::is=>match s.t i with
  | .ref d a=>match b5 d k,Dp k c s is with
   |true,aa l=>aa ((i,.aS (c.drop a))::l)
   |_,_=>aj
  |_=>aj
theorem QW{k:Nat}{a:List T}{s:S}: ∀{is:List Nat} {l:List (Nat×V)},Dp k a s is=aa l-> ∀i v,(i,v)∈l-> ∃c,s.t i= .ref k c/\v= .aS (a.drop c)
 | [],l,h,i,v,hm=>by cases h;cases hm
 |i0::is,l,h,i,v,hm=>by
  unfold Dp at h;split at h
  ·rename_i o c d;split at h
   ·rename_i p e m;cases h;have n:=de e;subst n;rcases ez.1 hm with hm|hm
    ·cases hm;exact⟨c,d,rfl⟩
    exact QW m i v hm
   cases h
  cases h
def Dk{k:Type}:List k->Bool
 | []=>ab
 |_::_=>ak
theorem HG{k:Type}{l:List k}(h:Dk l=ab):l=[]:=by
 cases l with
 |nil=>rfl
 |cons=>cases h
def mu(C:eb)(h:cB)(s:S):Option (Option (c8×List dE)):=
 match h with
 | .grow i k e=>match s.t i,s.u k,dL C.cn e with
  | .t .fT,ak,aa j=>aa (aa (⟨[(i,.bg k 1 j.size 0 0)],[(k,aa (.arr e 1 j.size []))],[(k,ab)]⟩,[]))
  |_,_,_=>aa aj
 | .len i n=>match s.t i with
  | .bg k gen c G L=>aa (aa (⟨[(i,.bg k gen c G n)],[],[]⟩,[.p (L=n)]))
  |_=>aa aj
 | .tu k is=>match s.H k with
  |some (.cells D)=>match mx D,db C.dV k with
   |some cs,ab=>match Dp k cs s is with
    |some l=>aa (aa (⟨l,[(k,aj)],[]⟩,[]))
    |none=>aa aj
   |_,_=>aa aj
  |_=>aa aj
 | .bh k is F=>match s.H k with
  |some (.arr _ gen c a)=>match db C.dV k&& !jx k F with
   |true=>aa (aa (⟨(jl k gen c a.length (.t (.bE a)) s is).1,(k,aj)::(ho k gen c a.length (.t (.bE a)) s F).1,[]⟩,(jl k gen c a.length (.t (.bE a)) s is).2++(ho k gen c a.length (.t (.bE a)) s F).2))
   |false=>aa aj
  |_=>aa aj
 | .dT k r is F=>match s.H k,s.u r with
  |some (.arr e gen c a),ak=>match db C.dV k&&(!Nat.beq k r&&(!jx k F&& !jx r F)) with
   |true=>aa (aa (⟨(jl k gen c a.length (.bg r 1 c 0 a.length) s is).1,(k,aj)::(r,aa (.arr e 1 c a))::(ho k gen c a.length (.bg r 1 c 0 a.length) s F).1,[(r,ab)]⟩,
     (jl k gen c a.length (.bg r 1 c 0 a.length) s is).2++(ho k gen c a.length (.bg r 1 c 0 a.length) s F).2))
   |false=>aa aj
  |some (.a7 d m gen a []),ak=>match db C.dV k&&(!Nat.beq k r&&(!jx k F&& !jx r F)) with
   |true=>aa (aa (⟨(jl k gen (aU d m).size a.length (.bg r 1 (aU d m).size 0 a.length) s is).1,(k,aj)::(r,aa (.a7 d m 1 a []))::(ho k gen (aU d m).size a.length (.bg r 1 (aU d m).size 0 a.length) s F).1,[(r,ab)]⟩,
     (jl k gen (aU d m).size a.length (.bg r 1 (aU d m).size 0 a.length) s is).2++(ho k gen (aU d m).size a.length (.bg r 1 (aU d m).size 0 a.length) s F).2))
   |false=>aa aj
  |_,_=>aa aj
 | .fg b j n=>match s.H b with
  |some (.cells cs)=>match cs[j]? with
   |some (.bg k gen c G L)=>aa (aa (⟨[],[(b,aa (.cells (cs.set j (.bg k gen c G n))))],[]⟩,[.p (L=n)]))
   |_=>aa aj
  |_=>aa aj
 | .Dq b _ k=>match s.H b,s.H k with
  |some (.a7 d m E W ((I,M,.bg r gen c G L)::B)),aa (.arr _ Z X a)=>match b5 r k&&(b5 G 0&&(db C.dV k&& !Nat.beq b k)) with
   |true=>aa (aa (⟨[],[(k,aj),(b,aa (.a7 d m E W ((I,M,.t (.bE a))::B)))],[]⟩,[.q gen Z,.q c X,.q L a.length]))
   |false=>aa aj
  |_,_=>aa aj
 | .fb b j k e=>match s.H b,s.u k,dL C.cn e with
  |some (.cells cs),ak,aa i=>match cs[j]? with
   |some (.t .fT)=>aa (aa (⟨[],[(k,aa (.arr e 1 i.size [])),(b,aa (.cells (cs.set j (.bg k 1 i.size 0 0))))],[(k,ab)]⟩,[]))
   |_=>aa aj
  |_,_,_=>aa aj
 | .ei k d m=>match s.H k with
  |some (.arr ty gen c a)=>match Dk (aU d m).bk||Dk a with
   |true=>aa (aa (⟨[],[(k,aa (.a7 d m gen a []))],[]⟩,[.q (aU d m).ty ty,.q (aU d m).size c]))
   |false=>aa aj
  |some (.a7 Q v gen a B)=>match db C.dV k&&Dk (aU d m).bk with
   |true=>aa (aa (⟨[],[(k,aa (.a7 d m gen a B))],[]⟩,[.q (aU d m).ty (aU Q v).ty,.q (aU d m).size (aU Q v).size]))
   |false=>aa aj
  |_=>aa aj
 | .dp k=>match s.H k with
  |some (.a7 d m gen a [])=>match db C.dV k with
   |true=>aa (aa (⟨[],[(k,aa (.arr (aU d m).ty gen (aU d m).size a))],[]⟩,[]))
   |false=>aa aj
  |_=>aa aj
 | .en k r i j w=>match s.H k,s.u r with
  |some (.a7 d m gen a B),ak=>match (aU d m).eV j,w[j]? with
   |some f,aa (.bE A)=>aa (aa (⟨[],[(k,aa (.a7 d m gen a ((i,j,.bg r 1 (aU d f).size 0 A.length)::B))),(r,aa (.a7 d f 1 A []))],[(r,ab)]⟩,.p (a[i]? =aa w)::th i j B))
   |_,_=>aa aj
  |_,_=>aa aj
 | .R' k i j w=>match s.H k with
  |some (.a7 d m gen a B)=>match (aU d m).eV j,w[j]?,sC j B with
   |none,aa x,ab=>aa (aa (⟨[],[(k,aa (.a7 d m gen a ((i,j,.t x)::B)))],[]⟩,[.p (a[i]? =aa w)]))
   |_,_,_=>aa aj
  |_=>aa aj
 | .EW k w R=>match s.H k with
  |some (.a7 d m gen a ((i,j,.t x)::B))=>match (aU d m).eV j,dt j (aU d m).size&&sC j B with
   |none,ab=>aa (aa (⟨[],[(k,aa (.a7 d m gen R B))],[]⟩,[.p (a[i]? =aa w),.p (a.set i (w.set j x)=R)]))
   |some _,ab=>match x with
    | .fT=>aa (aa (⟨[],[(k,aa (.a7 d m gen R B))],[]⟩,[.p (a[i]? =aa w),.p (a.set i (w.set j (.bE []))=R)]))
    |_=>aa aj
   |_,_=>aa aj
  |_=>aa aj
 | .Ds i j k e=>match s.t i,s.u k,dL C.cn e with
  | .agg cs,ak,aa y=>match cs[j]? with
   |some (.t .fT)=>aa (aa (⟨[(i,.agg (cs.set j (.bg k 1 y.size 0 0)))],[(k,aa (.arr e 1 y.size []))],[(k,ab)]⟩,[]))
   |_=>aa aj
  |_,_,_=>aa aj
 | .dz k r w R=>match s.H k,s.H r with
  |some (.a7 d m gen a ((i,j,.bg cF g z o n)::B)),aa (.a7 Q f N A [])=>match (aU d m).eV j,b5 cF r&&(!Nat.beq k r&&(db C.dV r&&(b5 o 0&&dt j (aU d m).size))) with
   |some P,ab=>aa (aa (⟨[],[(r,aj),(k,aa (.a7 d m gen R B))],[]⟩,.q g N:: .q z (aU d f).size:: .p (n=A.length):: .q P f:: .p (Q=d):: .p (a[i]? =aa w):: .p (a.set i (w.set j (.bE A))=R)::th i j B))
   |_,_=>aa aj
  |_,_=>aa aj
 | .cut k n R=>match s.H k with
  |some (.arr e gen c a)=>aa (aa (⟨[],[(k,aa (.arr e gen c R))],[]⟩,[.p (R=a.take n)]))
  |_=>aa aj
 |_=>aj
def rp(C:eb)(a:Nat):List cB->S->Option (c8×List dE×List cB)
 | [],_=>aa (.nil,[],[])
 | .at m::c,s=>match b5 m a with
  |true=>rp C a c s
  |false=>aa (.nil,[],.at m::c)
 |h::c,s=>match mu C h s with
  |none=>aa (.nil,[],h::c)
  |some aj=>aj
  |some (aa (e,k))=>match rp C a c (e.app s) with
   |some (l,d,i)=>aa (e.cat l,k++d,i)
   |none=>aj
section
variable {K:Ctx}{C:eb}
theorem acK{K:Ctx}(k n:Nat){e:TypeId}{c:List (List T)}(p:s.H k=aa (.arr e gen L c)):s.le K {s with H:=a8 s.H k (aa (.arr e gen L (c.take n)))}:=by
 intro q a w h;refine⟨q,h.Tr k p λX d=>⟨d.1,?_⟩⟩;rcases d.2 with ⟨m,o⟩|⟨b,r,m,o,y,z,B⟩
 ·exact .inl ⟨m,by rw[o];simp⟩
 refine .inr ⟨b,r,m,o,iF (eh _ (List.length_take_le' _ _)) y,λl A=>z l (gP A),λi j l x u aN a2 a3=>?_⟩
 grind
theorem HU(z:C.Fits K){h:cB}{e:c8}{m:List dE}(d:mu C h s=aa (aa (e,m)))(k:cy m):s.le K (e.app s):=by
 unfold mu at d;split at d
 ·split at d
  ·rename_i A o p;cases d;exact acL _ _ _ o A
  cases d
 ·split at d
  ·rename_i A;cases d;obtain⟨rfl,_⟩:=k;intro L a w Q;refine⟨L,?_⟩;unfold c8.app;simp only[dw];rw[<-A,O9];exact Q
  cases d
 ·split at d
  ·rename_i M n;split at d
   ·rename_i cs R i;split at d
    ·rename_i l Z;cases d;have x:=n;rw[pw R] at x;refine Xw _ _ (by rw[<-z.dV];exact i) x λj=>?_;rcases oo l s.t j with ⟨_,q⟩|⟨v,r,q⟩
     ·exact .inl q
     obtain⟨W,b,f⟩:=QW Z j v r;exact .inr ⟨W,b,by rw[<-f];exact q⟩
    cases d
   cases d
  cases d
 ·split at d
  ·rename_i n;split at d
   ·rename_i i;cases d;simp only[b9] at i;obtain⟨B,F⟩:=cy.app k;exact UW (by rw[<-z.dV];exact i.1) n (xN i.2) B F
   cases d
  cases d
 ·split at d
  ·rename_i n o;split at d
   ·rename_i i;cases d;simp only[b9] at i;obtain⟨B,F⟩:=cy.app k;exact RN (by rw[<-z.dV];exact i.1) (Qo i.2.1) n rfl o (xN i.2.2.1) (xN i.2.2.2) B F
   cases d
  ·rename_i n o;split at d
   ·rename_i i;cases d;simp only[b9] at i;obtain⟨B,F⟩:=cy.app k;exact RN (by rw[<-z.dV];exact i.1) (Qo i.2.1) n rfl o (xN i.2.2.1) (xN i.2.2.2) B F
   cases d
  cases d
 ·split at d
  ·rename_i i;split at d
   ·rename_i p;cases d;obtain⟨rfl,_⟩:=k;intro L a w Q;refine⟨L,?_⟩;have H:=bS.1 p;have g: ∀{cs:List V} {j:Nat} {c:V},cs[j]? =aa c->cs.set j c=cs:=by
     intro cs j c h;obtain⟨r,q⟩:=bS.1 h;rw[<-q,List.set_getElem_self]
    unfold c8.app;simp only[dw];rw[g p,<-i,O9];exact Q
   cases d
  cases d
 ·split at d
  ·rename_i i n;split at d
   ·rename_i G;cases d;simp only[b9,Bool.not_eq_true'] at G;obtain⟨rfl,rfl,rfl,_⟩:=k;have X:=de G.1;have H:=de G.2.1;subst X;subst H;exact Xx _ _ _ _ _ _ (by rw[<-z.dV];exact G.2.2.1) (Nat.ne_of_beq_eq_false G.2.2.2) i n
   cases d
  cases d
 ·split at d
  ·rename_i i o A;split at d
   ·rename_i p;cases d;exact aay _ _ _ _ o i p
   cases d
  cases d
 ·split at d
  ·rename_i n;split at d
   ·rename_i i;cases d;obtain⟨r,q,_⟩:=k;refine G5 _ _ _ n r q ?_;rcases Bool.or_eq_true_iff.1 i with h|h
    ·exact .inr (HG h)
    exact .inl (HG h)
   cases d
  ·rename_i n;split at d
   ·rename_i i;cases d;obtain⟨r,q,_⟩:=k;simp only[b9] at i;exact aaw _ _ _ n (by rw[<-z.dV];exact i.1) r q (HG i.2)
   cases d
  cases d
 ·split at d
  ·rename_i n;split at d
   ·rename_i i;cases d;exact aav _ n (by rw[<-z.dV];exact i)
   cases d
  cases d
 ·split at d
  ·rename_i n o;split at d
   ·rename_i y p;cases d;exact ZV _ _ _ _ _ n o k.1 p y (x4 k.2)
   cases d
  cases d
 ·split at d
  ·rename_i n;split at d
   ·rename_i y p u;cases d;exact aax _ _ _ n k.1 p y u
   cases d
  cases d
 ·split at d
  ·rename_i n;split at d
   ·rename_i y i;cases d;simp only[b9] at i;obtain⟨r,rfl,_⟩:=k;exact Zg _ _ _ n r i.1 y i.2
   ·rename_i y i;split at d
    ·cases d;simp only[b9] at i;obtain⟨r,rfl,_⟩:=k;exact ZT _ _ _ _ n r i.1 y i.2
    cases d
   cases d
  cases d
 ·split at d
  ·rename_i A o N;split at d
   ·rename_i p;cases d;exact aaz _ _ _ _ o A p
   cases d
  cases d
 ·split at d
  ·rename_i n x;split at d
   ·rename_i y i;cases d;simp only[b9,Bool.not_eq_true'] at i;obtain⟨rfl,q,D,rfl,rfl,E,rfl,I⟩:=k;have X:=de i.1;have H:=de i.2.2.2.1;subst X;subst H;exact Xv _ _ _ _ _ _ _ _ n x q D (Nat.ne_of_beq_eq_false i.2.1) (by rw[<-z.dV];exact i.2.2.1) E y i.2.2.2.2 (x4 I)
   cases d
  cases d
 ·split at d
  ·rename_i n;cases d;obtain⟨rfl,_⟩:=k;exact acK _ _ n
  cases d
 cases d
theorem sf(m:C.Fits K){i:Nat}: ∀{n:List cB} {s:S} {e:c8} {l:List dE} {c:List cB},rp C i n s=aa (e,l,c)->cy l->s.le K (e.app s)
 | [],s,e,l,c,h,_=>by cases h;exact S.le.refl _ _
 |h::n,s,e,l,c,a,k=>by
  unfold rp at a;split at a
  ·cases a;exact S.le.refl _ _
  ·split at a
   ·rename_i d _ _;cases d;exact sf m a k
   cases a;exact S.le.refl _ _
  rename_i d;cases d;split at a
  ·cases a;exact S.le.refl _ _
  ·cases a
  rename_i z o p;split at a
  ·rename_i A q r w;cases a;obtain⟨x,y⟩:=cy.app k;rw[pc];exact(HU m p x).trans (sf m w y)
  cases a
def jG(C:eb)(a:Array Oper):List Oper->List cB->S->Option (c8×List dE)
 | [],c,s=>match rp C 0 c s with
  |some (e,q,[])=>aa (e,q)
  |_=>aj
 |o::l,c,s=>match rp C (l.length+1) c s with
  |none=>aj
  |some (d,h,i)=>match tq C a o i (d.app s) with
   |none=>aj
   |some (p,k,m)=>match jG C a l m (p.app (d.app s)) with
    |none=>aj
    |some (r,n)=>aa (d.cat (p.cat r),h++(k++n))
theorem Rk(c:C.Fits K){V:Array Oper}{Q:S->Prop}: ∀{l:List Oper} {k:List cB} {s:S} {e:c8} {d:List dE},jG C V l k s=aa (e,d)->cy d->rv K V [] (e.app s) Q->rv K V l s Q
 | [],k,s,e,d,h,a,i=>by
  simp only[jG] at h;split at h
  ·rename_i H n p;cases h;exact MD (sf c p a) i
  cases h
 |o::l,k,s,e,d,h,a,i=>by
  simp only[jG] at h;split at h
  ·cases h
  rename_i L q r w;split at h
  ·cases h
  rename_i R x y z;split at h
  ·cases h
  rename_i W A B;cases h;obtain⟨F,m⟩:=cy.app a;obtain⟨m,G⟩:=cy.app m;rw[pc,pc] at i;exact MD (sf c w F) (aeS (Rl c z m) (Rk c B G i))
abbrev sJ:=Prop×List Nat×List (Nat×Bool)×Bool×List V×List (Option E)
def vA:sJ:=(False,[],[],ak,[],[])
def vB:sJ:=(True,[],[],ab,[],[])
def vC(s:S)(c:List Nat)(d:List (Nat×V))(a:List (Nat×Option E))(r:c8×List dE):sJ:=
 (zs r.2,wE r.2,r.1.us,sL c r.1.gb&&sL (yz a) r.1.hs,vp (r.1.app s) d,vh (r.1.app s) a)
def vD(a:Prop)(c:List (Nat×V))(d:List (Nat×Option E))(e:List (Nat×Bool))(r:c8×List dE):sJ:=
 (a,wF r.2,e,ab,lf c,lf d)
def nk(x:Option (c8×List dE))(n:sJ)(f:c8×List dE->sJ):sJ:=match x with
 |some r=>f r
 |none=>n
theorem RA{x:Option (c8×List dE)}{L:List Nat}{a:List (Nat×V)}{c:List (Nat×Option E)}{m:List (Nat×Bool)}{p:Prop}(i:p)
  (h:nk x vA (vC s L a c)=nk x vB (vD p a c m)): ∃e d,x=aa (e,d)/\cy d/\(e.app s).le K (s.cl L a c m):=by
 cases x with
 |none=>simp[nk,vA,vB] at h
 |some r=>
  obtain⟨e,d⟩:=r;simp only[nk,vC,vD,Prod.mk.injEq,b9] at h;obtain⟨k,l,n,⟨o,q⟩,w,y⟩:=h;exact⟨e,d,rfl,cy.of (k▸i) l,U4 n o q w y⟩
def tmps:List Operand->List Nat
 | []=>[]
 | .tmp t::a=>t::tmps a
 |_::a=>tmps a
def Rt(a:Array Oper)(o:Oper):List Nat:=match o.guard with
 |none=>[]
 |some (j,_)=>match (a[j]?).bind (·.dst) with
  |some t=>[t]
  |none=>[]
def C6(o:Oper)(a:List cB):List cB:=match o.guard with
 |none=>a
 |some _=>a.tail
def CG(a:Array Oper)(o:Oper)(c:List cB)(s:S):hA:=⟨Rt a o++tmps o.op.operands.toList,wa o (o.op.operands.toList.map s.get) (C6 o c)⟩
theorem G6{s a:S}: ∀{c:List Operand},(∀i,i∈tmps c->s.t i=a.t i)->c.map s.get=c.map a.get
 | [],_=>rfl
 | .tmp t::c,h=>by
  simp only[List.map_cons,List.cons.injEq];exact⟨h t eD,G6 λi d=>h i (eo _ d)⟩
 | .const _::c,h| .global _::c,h| .func _::c,h=>by simp only[List.map_cons,List.cons.injEq];exact⟨rfl,G6 h⟩
theorem ZG{H a:Nat->Option E}(h: ∀k,k∈r->H k=a k):vn r H=vn r a:=by
 funext k;unfold vn;cases c:jx k r with
 |true=>exact h k (B' c)
 |false=>rfl
theorem ZE{u a:Nat->Bool}(h: ∀k,k∈r->u k=a k):vm r u=vm r a:=by
 funext k;unfold vm;cases c:jx k r with
 |true=>exact h k (B' c)
 |false=>rfl
theorem acN{b:S}{a:List V}{hs:List cB}(h: ∀k,k∈wa o a hs->s.H k=b.H k/\s.u k=b.u k):rC C o a s hs=rC C o a b hs:=by unfold rC;rw[ZG λk c=>(h k c).1,ZE λk c=>(h k c).2]
theorem ac6{V:Array Oper}{c:List cB}(h:(CG V o c s).same a s):tq C V o c a=tq C V o c s:=by
 obtain⟨n,w⟩:=h;have y:o.op.operands.toList.map a.get=o.op.operands.toList.map s.get:=G6 λi z=>n i (eC.2 (.inr z));have q: ∀d,(∀k,k∈wa o (o.op.operands.toList.map s.get) d->k∈wa o (o.op.operands.toList.map s.get) (C6 o c))->rC C o (o.op.operands.toList.map s.get) a d=rC C o (o.op.operands.toList.map s.get) s d:=λd A=>
  acN λk e=>w k (A k e)
 unfold tq;rw[y];cases l:o.guard with
 |none=>exact q c (λk e=>by simp only[C6,l];exact e)
 |some p=>
  obtain⟨j,r⟩:=p;have m:vH V j a=vH V j s:=by
   unfold vH;cases B:(V[j]?).bind (·.dst) with
   |none=>rfl
   |some t=>
    have:=n t (eC.2 (.inl (by unfold Rt;rw[l];simp only[B];exact pK.2 rfl)));simp only[this]
  simp only[m];cases c with
  |nil=>rfl
  |cons x c=>
   have:=q c λk e=>by simp only[C6,l,List.tail];exact e
   cases x<;>first|rfl|(dsimp only;rw[this])
def rz(C:eb)(a:Nat):List cB->S->Option (c8×List dE×List cB×hA)
 | .at m::hs,s=>match b5 m a with
  |true=>rz C a hs s
  |false=>aa (.nil,[],.at m::hs,⟨[],[]⟩)
 | .bh k is l::hs,s=>match mu C (.bh k is l) s with
  |some (aa (e,h))=>match rz C a hs (e.app s) with
   |some (i,c,d,eZ)=>aa (e.cat i,h++c,d,⟨is++eZ.gb,k::(l++eZ.qE)⟩)
   |none=>aj
  |_=>aj
 | .dp k::hs,s=>match mu C (.dp k) s with
  |some (aa (e,h))=>match rz C a hs (e.app s) with
   |some (i,c,d,eZ)=>aa (e.cat i,h++c,d,⟨eZ.gb,k::eZ.qE⟩)
   |none=>aj
  |_=>aj
 |hs,_=>aa (.nil,[],hs,⟨[],[]⟩)
theorem ZD{C:eb}(c:a.H k=s.H k):mu C (.dp k) a=mu C (.dp k) s:=by
 unfold mu
 grind
theorem OW{k g z n:Nat}{v:V}{s a:S}: ∀{is:List Nat},(∀i,i∈is->a.t i=s.t i)->jl k g z n v a is=jl k g z n v s is
 | [],_=>rfl
 |i::is,h=>by simp only[jl,h i List.mem_cons_self,OW λx c=>h x (List.mem_cons_of_mem _ c)]
theorem OX{k g z n:Nat}{v:V}{s a:S}: ∀{c:List Nat},(∀b,b∈c->a.H b=s.H b)->ho k g z n v a c=ho k g z n v s c
 | [],_=>rfl
 |b::c,h=>by unfold ho;rw[h b eD,OX λx d=>h x (eo _ d)]
theorem ZC{L:List Nat}(c: ∀i,i∈r->a.t i=s.t i)(d:a.H k=s.H k)(e: ∀b,b∈L->a.H b=s.H b):mu C (.bh k r L) a=mu C (.bh k r L) s:=by
 unfold mu;dsimp only;rw[d];split
 ·rw[OW c,OX e]
 rfl
theorem HQ{k:Type}{f g:Nat->k}{r:Nat}(h:f r=g r): ∀(l:List (Nat×k)),dw f l r=dw g l r:=by
 intro l;induction l generalizing f g with
 |nil=>exact h
 |cons p l c=>
  obtain⟨d,v⟩:=p;simp only[dw];apply c;by_cases a:r=d
  ·subst a;rw[cd,cd]
  rw[cb _ _ _ _ a,cb _ _ _ _ a];exact h
theorem Ld{r:hA}(e:c8)(h:r.same a s):r.same (e.app a) (e.app s):=
 ⟨λi d=>HQ (h.1 i d) _,λk c=>⟨HQ (h.2 k c).1 _,HQ (h.2 k c).2 _⟩⟩
theorem Ch(w:C.Fits K){n:Nat}: ∀{x:List cB} {s:S} {e:c8} {d:List dE} {a:List cB} {eZ:hA},rz C n x s=aa (e,d,a,eZ)->cy d-> ∀c,eZ.same c s->c.le K (e.app c)
 | .at m::x,s,e,d,a,eZ,h,o,c,l=>by
  unfold rz at h;split at h
  ·exact Ch w h o c l
  cases h;exact S.le.refl _ _
 | .bh k is W::x,s,e,d,a,eZ,h,o,c,l=>by
  unfold rz at h;split at h
  ·rename_i p r z;split at h
   ·rename_i X A B F G;cases h;obtain⟨H,L⟩:=cy.app o;have q:mu C (.bh k is W) c=aa (aa (p,r)):=(ZC (λi Q=>l.1 i (kd _ Q)) (l.2 k eD).1 λb Z=>(l.2 b (eo _ (kd _ Z))).1).trans z;rw[pc];exact(HU w q H).trans (Ch w G L (p.app c) (Ld p ⟨λi Q=>l.1 i (jr _ Q),λk R=>l.2 k (eo _ (jr _ R))⟩))
   cases h
  cases h
 | .dp k::x,s,e,d,a,eZ,h,o,c,l=>by
  unfold rz at h;split at h
  ·rename_i p r z;split at h
   ·rename_i X A B F G;cases h;obtain⟨H,L⟩:=cy.app o;have q:mu C (.dp k) c=aa (aa (p,r)):=(ZD (l.2 k eD).1).trans z;rw[pc];exact(HU w q H).trans (Ch w G L (p.app c) (Ld p ⟨l.1,λk R=>l.2 k (eo _ R)⟩))
   cases h
  cases h
 | [],s,e,d,a,eZ,h,_,c,_=>by cases h;exact S.le.refl _ _
 | .ei _ _ _::_,s,e,d,a,eZ,h,_,c,_| .en _ _ _ _ _::_,s,e,d,a,eZ,h,_,c,_| .dz _ _ _ _::_,s,e,d,a,eZ,h,_,c,_| .lt _ _ _::_,s,e,d,a,eZ,h,_,c,_| .R' _ _ _ _::_,s,e,d,a,eZ,h,_,c,_| .EW _ _ _::_,s,e,d,a,eZ,h,_,c,_| .Ds _ _ _ _::_,s,e,d,a,eZ,h,_,c,_| .cut _ _ _::_,s,e,d,a,eZ,h,_,c,_
 | .row _::_,s,e,d,a,eZ,h,_,c,_| .rows _::_,s,e,d,a,eZ,h,_,c,_| .str _::_,s,e,d,a,eZ,h,_,c,_| .int _::_,s,e,d,a,eZ,h,_,c,_| .nat _::_,s,e,d,a,eZ,h,_,c,_
 | .b _::_,s,e,d,a,eZ,h,_,c,_| .y _::_,s,e,d,a,eZ,h,_,c,_| .v _::_,s,e,d,a,eZ,h,_,c,_| .grow _ _ _::_,s,e,d,a,eZ,h,_,c,_
 | .Dq _ _ _::_,s,e,d,a,eZ,h,_,c,_| .fb _ _ _ _::_,s,e,d,a,eZ,h,_,c,_
 | .len _ _::_,s,e,d,a,eZ,h,_,c,_| .fg _ _ _::_,s,e,d,a,eZ,h,_,c,_| .tu _ _::_,s,e,d,a,eZ,h,_,c,_| .dT _ _ _ _::_,s,e,d,a,eZ,h,_,c,_| .dR _ _ _ _::_,s,e,d,a,eZ,h,_,c,_=>by cases h;exact S.le.refl _ _
theorem je.pre{ops:Array Oper}{b:S}(i:s.le K b)(h:je K ops o b c):je K ops o s c:=by
 intro k a w next Q l m
 obtain⟨d,e⟩:=i k a w l;exact h d a w next Q e m
def yH(C:eb)(a:Array Oper):List Oper->List cB->S->Option (List (c8×hA)×List dE)
 | [],h,_=>match h with
  | []=>aa ([],[])
  |_=>aj
 |o::l,h,s=>match rz C (l.length+1) h s with
  |none=>aj
  |some (d,i,c,eZ)=>match tq C a o c (d.app s) with
   |none=>aj
   |some (e,n,k)=>match yH C a l k (e.app (d.app s)) with
    |none=>aj
    |some (p,m)=>aa ((d.cat e,⟨eZ.gb++(CG a o c (d.app s)).gb,eZ.qE++(CG a o c (d.app s)).qE⟩)::p,i++(n++m))
def Db:List (c8×hA)->c8
 | []=> .nil
 |(e,_)::a=>e.cat (Db a)
theorem Il(p:C.Fits K){V:Array Oper}{Q:S->Prop}: ∀{l:List Oper} {q:List cB} {s:S} {c:List (c8×hA)} {d:List dE},yH C V l q s=aa (c,d)->cy d->Q ((Db c).app s)->xv K V l c s Q
 | [],q,s,c,d,h,_,m=>by
  simp only[yH] at h;split at h
  ·cases h;exact m
  cases h
 |o::l,q,s,c,d,h,r,m=>by
  simp only[yH] at h;split at h
  ·cases h
  rename_i n F w eZ G;split at h
  ·cases h
  rename_i e H L R;split at h
  ·cases h
  rename_i W X Z;cases h;obtain⟨b,x⟩:=cy.app r;obtain⟨x,f⟩:=cy.app x;simp only[Db,pc] at m;refine⟨λB a=>?_,by rw[pc];exact Il p Z f m⟩;rw[pc];refine je.pre (Ch p G b B ⟨λi y=>a.1 i (kd _ y),λk z=>a.2 k (kd _ z)⟩) ?_;have A:(CG V o w (n.app s)).same (n.app B) (n.app s):=Ld n ⟨λi y=>a.1 i (jr _ y),λk z=>a.2 k (jr _ z)⟩;exact Rl p ((ac6 A).trans R) x
def mA(C:eb)(l:List Oper)(h:List cB)(s:S):Option (c8×List dE):=
 match rp C l.length h s with
 |none=>aj
 |some (d,a,c)=>match yH C l.toArray l c (d.app s) with
  |none=>aj
  |some (e,i)=>match nH l.toArray l.length 0 e&&sN 0 l with
   |true=>aa (d.cat (Db e),a++i)
   |false=>aj
theorem QU{c:Code}{s2:S}(h:cU K c s λe k=>match e with| .normal=>k.le K s2|_=>False)(n:Q .normal s2):cU K c s Q:=by
 intro o a w p x y;refine h o a w p x ?_;intro e k d l m q r;cases e with
 |normal=>obtain⟨i,z⟩:=q d l m r;exact y _ _ i l m n z
 |exit=>exact q.elim
 |goto=>exact q.elim
 |ret=>exact q.elim
 |panic=>exact q.elim
 |outgrown=>exact q.elim
theorem rd{l:List Oper}(q:C.Fits K)(x:K.P.follows .mixedOrders=ab)(r:List cB)(k:List Nat)(c:List (Nat×V))(d:List (Nat×Option E))(m:List (Nat×Bool)){p:Prop}(n:p)
  (h:nk (mA C l r s) vA (vC s k c d)=nk (mA C l r s) vB (vD p c d m)) (y:Q .normal (s.cl k c d m)):cU K (.region i l.toArray ab) s Q:=by
 obtain⟨e,X,a,z,w⟩:=RA (K:=K) n h;unfold mA at a;split at a
 ·cases a
 rename_i Z A B F;split at a
 ·cases a
 rename_i G H L;split at a
 ·rename_i o;cases a;simp only[b9] at o;obtain⟨R,W⟩:=cy.app z;refine wJ (sf q F R) (QU (s2:=s.cl k c d m) (O7 G x o.1 o.2 (Il q L W ?_)) y);rw[pc] at w;exact w
 cases a
def oX:List (Nat×E)->List (Nat×Option E)
 | []=>[]
 |(k,e)::l=>(k,aa e)::oX l
def p1:List Nat->List (Nat×Bool)
 | []=>[]
 |k::l=>(k,ab)::p1 l
def a6(a:List (Nat×V))(c:List (Nat×E))(d:List Nat):S:={t:=dw q0 a,H:=dw pR (oX c),u:=dw hh (p1 d)}
def C'(u:Nat->Bool):List (Nat×V)->Bool
 | []=>ab
 |(_,v)::l=>v.ok u&&C' u l
def Dg(u:Nat->Bool):List (Nat×E)->Bool
 | []=>ab
 |(k,e)::l=>u k&&(e.ok u&&Dg u l)
def Da(u:Nat->Bool):List Nat->Bool
 | []=>ab
 |k::l=>u k&&Da u l
theorem P1{u:Nat->Bool}: ∀{l:List (Nat×V)},C' u l=ab-> ∀i v,(i,v)∈l->v.ok u=ab
 |(a,c)::l,h,i,v,hm=>by
  simp only[C',b9] at h;rcases ez.1 hm with hm|hm
  ·cases hm;exact h.1
  exact P1 h.2 i v hm
theorem QI{u:Nat->Bool}: ∀{l:List (Nat×E)},Dg u l=ab-> ∀k e,(k,aa e)∈oX l->u k=ab/\e.ok u=ab
 |(a,c)::l,h,i,v,hm=>by
  simp only[Dg,b9] at h;simp only[oX] at hm;rcases ez.1 hm with hm|hm
  ·cases hm;exact⟨h.1,h.2.1⟩
  exact QI h.2.2 i v hm
theorem P0{u:Nat->Bool}: ∀{l:List Nat},Da u l=ab-> ∀k b,(k,b)∈p1 l->u k=ab
 |lD::l,h,k,b,hm=>by
  simp only[Da,b9] at h;simp only[p1] at hm;rcases ez.1 hm with hm|hm
  ·cases hm;exact h.1
  exact P0 h.2 k b hm
def Dd(e:Nat)(s:S)(c:List (Nat×V))(d:List (Nat×E))(a:List Nat):List V×List (Option E)×Bool:=
 (vp s c,vh s (oX d),C' (dw hh (p1 a)) c&&(Dg (dw hh (p1 a)) d&&(Da s.u a&&nG e (dw hh (p1 a)))))
theorem Tj{a:List (Nat×V)}{c:List (Nat×E)}(h:Dd K.dV s a c r=(lf a,lf (oX c),ab)):s.le K (a6 a c r):=by
 simp only[Dd,Prod.mk.injEq,b9] at h;obtain⟨m,n,o,p,q,w⟩:=h;refine ae8 (s':=a6 a c r) ?_ ?_ ?_ w
 ·intro i;show dw q0 a i= .dh\/(dN _ (dw q0 a i)/\(dw q0 a i).ok _=ab)
  rcases oo a q0 i with ⟨aN,a2⟩|⟨v,aN,a2⟩
  ·exact .inl a2
  rw[a2];exact .inr ⟨G' m i v aN,P1 o i v aN⟩
 ·intro k e d;have d:dw pR (oX c) k=aa e:=d;rcases oo (oX c) pR k with ⟨aN,a2⟩|⟨v,aN,a2⟩
  ·rw[a2] at d;cases d
  rw[a2] at d;subst d;obtain⟨x,y⟩:=QI p k e aN;exact⟨Hq n k e aN,x,y⟩
 intro k l;have l:dw hh (p1 r) k=ab:=l;rcases oo (p1 r) hh k with ⟨aN,a2⟩|⟨v,aN,a2⟩
 ·rw[a2] at l;cases l
 exact P0 q k v aN
theorem adS{ι:Type}{x y:Code}(a:ι->S)(p:ι->Prop)(c:cU K x s (rA (λd=> ∃i,p i/\d.le K (a i)) Q))(h: ∀i,p i->cU K y (a i) Q):cU K (.seq x y) s Q:=by
 refine Cs (xz c λe m q=>?_);cases e with
 |normal=>obtain⟨i,k,l⟩:=q;exact wJ l (h i k)
 |exit=>exact q
 |goto=>exact q
 |ret=>exact q
 |panic=>exact q
 |outgrown=>exact q
theorem UQ{v r:V}(h:mo r v=r):dN v r:=h▸H2 r v
def u7(s:S):List E->Nat->List (Option E)
 | [],_=>[]
 |e::l,k=>Dh (aa e) (s.H k)::u7 s l (k+1)
def u1:List E->List (Option E)
 | []=>[]
 |e::l=>aa e::u1 l
def vl(u:Nat->Bool):List E->Bool
 | []=>ab
 |e::l=>e.ok u&&vl u l
theorem NV{s:S}: ∀{l:List E} {k:Nat},u7 s l k=u1 l-> ∀i e,l[i]? =aa e-> ∃a,s.H (k+i)=aa a/\kH a e
 |a::l,k,h,0,e,c=>by
  simp only[u7,u1,List.cons.injEq] at h;simp at c;subst c;exact QK h.1
 |a::l,k,h,i+1,e,c=>by
  simp only[u7,u1,List.cons.injEq] at h
  have:=NV h.2 i e (by simpa using c)
  rwa [show k+1+i=k+(i+1) by omega] at this
theorem OH{u:Nat->Bool}: ∀{l:List E},vl u l=ab-> ∀(i:Nat) e,l[i]? =aa e->e.ok u=ab
 |c::l,h,0,e,a=>by simp only[vl,b9] at h;simp at a;subst a;exact h.1
 |c::l,h,i+1,e,a=>by simp only[vl,b9] at h;exact OH h.2 i e (by simpa using a)
end
end
def bm{k R:Type}(a:(k->Option R)->k->Option R):Nat->k->Option R
 |0,_=>aj
 |m+1,x=>a (bm a m) x
def aD{k R:Type}(j:k->Option R)(t:(k->Option R)->Option R):Option R:=t j
variable {k R γ:Type}{a r l:List k}{o A B:Option R}{f:FuncId}{c:Code}{d:Func}{s:S}{Q:Exit->S->Prop}{j i:Int}{x y ph:k}{p:Prop}{q:List T}{W:Map}{w:World}{v:V}{u z:Value}{e:ResultVar}{args:List V}
theorem ja{a:k->Option R}{t:(k->Option R)->Option R}{r:R}(h:aD a t=aa r): ∃j,j=a/\t j=aa r:=⟨a,rfl,h⟩
theorem c5{o:Option k}{f:k->Option R}{r:R}(h:o.bind f=aa r): ∃x,o=aa x/\f x=aa r:=by
 cases o with
 |none=>cases h
 |some x=>exact⟨x,rfl,h⟩
theorem iO{c:Bool}{r:R}(a:c=ab)(h:(bif c then A else B)=aa r):A=aa r:=by subst a;exact h
theorem iN{c:Bool}{r:R}(a:c=ak)(h:(bif c then A else B)=aa r):B=aa r:=by subst a;exact h
theorem aw{a b:R}(h:aa a=aa b):a=b:=Option.some.inj h
section
variable {K:Ctx}{C:eb}
theorem x'{a:(k->Option R)->k->Option R}{n:Nat}{d:k}{r:R}(h:bm a n d=aa r)(o:k->γ->S)(w:γ)(B:s.le K (o d w))
  (l: ∀(i:k->Option R) (x:k) (g:γ),a i x=aa r->cU K c (o x g) (C3 (λz=> ∃y p,i y=aa r/\z.le K (o y p)) Q)):cU K (.loop c) s Q:=by
 refine abX (ι:=(Nat×k)×γ) (λy=>o y.1.2 y.2) (λy=>bm a y.1.1 y.1.2=aa r) (λy=>y.1.1) ((n,d),w) h B ?_;rintro⟨⟨m,x⟩,g⟩ A;cases m with
 |zero=>cases A
 |succ m=>
  refine xz (l (bm a m) x g A) λe z q=>?_;cases e with
  |normal=>obtain⟨y,p,F,H⟩:=q;exact⟨((m,y),p),F,pF m,H⟩
  |exit=>exact q
  |goto=>exact q
  |ret=>exact q
  |panic=>exact q
  |outgrown=>exact q
theorem ix{j:k->Option R}{r:R}{x y:Code}(a:k->γ->S)
  (c:cU K x s (rA (λh=> ∃z g,j z=aa r/\h.le K (a z g)) Q)) (d: ∀z g,j z=aa r->cU K y (a z g) Q):cU K (.seq x y) s Q:=
 adS (ι:=k×γ) (λi=>a i.1 i.2) (λi=>j i.1=aa r) (xz c (λe m q=>by
  cases e with
  |normal=>obtain⟨z,g,c,d⟩:=q;exact⟨(z,g),c,d⟩
  |exit=>exact q
  |goto=>exact q
  |ret=>exact q
  |panic=>exact q
  |outgrown=>exact q)) λi l=>d i.1 i.2 l
theorem UY{P:Program}{G:fL}{a:List (Nat×cv)}(d:ek P a)(c:Nat)(w:World)(X:Nat->Prop):eb.Fits ⟨P,G,a,c,0,ia⟩ (Ctx.pure P G w X c):=⟨d,rfl,rfl,rfl,rfl,rfl⟩
theorem UX{P:Program}{G:fL}{a:List (Nat×cv)}(h:ek P a)(d e:Nat)(w:World)(X:Nat->Prop)(c:Map):eb.Fits ⟨P,G,a,d,e,c⟩ (Ctx.dR P G w X e c d):=⟨h,rfl,rfl,rfl,rfl,rfl⟩
theorem Pw{P:Program}(a:P.funcs[f]? =aa d)(e:(d.name== "runtime.NumGoroutine")=ak)(h:d.body=aa c):j2 P f:=⟨d,a,e,by rw[h];rfl⟩
variable {P:Program}{G:fL}{cn:List (Nat×cv)}
end
abbrev ai:Int->List T:=k0
abbrev dO:UInt8->List T:=oH
abbrev bD:Bool->List T:=ae0
abbrev dm:List UInt8->List T:=afP
abbrev bd{k:Type}(r:k->List T)(l:List k):List T:=[T.bE (l.map r)]
abbrev aE{k:Type}(r:k->List T)(l:List k):V:= .t (.bE (l.map r))
abbrev aH{k:Type}(e g a:Nat)(r:k->List T)(l:List k):E:= .arr e g a (l.map r)
abbrev ms{R:Type}(k g a:Nat)(r:R->List T)(l:List R):V:= .bg k g a 0 (l.map r).length
theorem RT(r:k->List T)(l:List k):(l.map r).length=l.length:=dJ ..
theorem zS(b:UInt8):IntKind.i64.wrap (b.toNat:Int)=(b.toNat:Int):=IntWalk.i64_in _ (by have:=UInt8.toNat_lt b;omega)
theorem jm(k:Nat){r:R->List T}(h: ∀x,(r x).length=k)(l:List R):Rows k (l.map r):=Rows.map l h
theorem ch(f:k->List T)(h:ax l i=aa x):(l.map f)[0+i.toNat]? =aa (f x):=by rw[dQ,eL,(nF h).2];rfl
theorem bI(f:k->List T)(h:ax l i=aa x):0<=i/\i<((l.map f).length:Int):=by
 obtain⟨a,c⟩:=nF h
 grind
theorem Df(f:k->List T)(h:ax l i=aa x)(e:(a.map f).length=(l.map f).length):0<=i/\i<((a.map f).length:Int):=by rw[e];exact bI f h
theorem str(f:k->List T)(h:ca l i x=aa r):r.map f=(l.map f).set (0+i.toNat) (f x):=by obtain⟨_,_,rfl⟩:=uk h;rw[dQ,List.map_set]
theorem o9{q:Prop}(h:p)(k:q):p/\q:=⟨h,k⟩
def mR(b:Int):Option Unit:=if b=0 then aj else aa ()
theorem sT{b:Int}{x:Unit}(h:mR b=aa x):b≠0:=by intro e;rw[mR,aR e] at h;cases h
theorem hK(f:k->R){y:R}(h:ax l i=aa x)(e:f x=y):ax (l.map f) i=aa y:=e▸Q2 f h
theorem qM{a:Int}(f:k->R)(h:sub l a (l.length:Int)=aa r):sub (l.map f) a ((l.map f).length:Int)=aa (r.map f):=by rw[dJ];exact sx f h
theorem agB{n:Int}{b:UInt8}(h:n=(b.toNat:Int)):IntKind.i64.wrap n=(b.toNat:Int):=h▸zS b
def hg(C:eb)(a:List cB)(s:S):Option (c8×List dE):=match rp C 0 a s with
 |some (e,c,[])=>aa (e,c)
 |_=>aj
theorem alJ{K:Ctx}{C:eb}(m:C.Fits K)(i:List cB)(k:List Nat)(c:List (Nat×V))(d:List (Nat×Option E))(l:List (Nat×Bool))
  (h:nk (hg C i s) vA (vC s k c d)=nk (hg C i s) vB (vD True c d l)):s.le K (s.cl k c d l):=by
 obtain⟨e,q,a,n,o⟩:=RA (K:=K) trivial h;unfold hg at a;split at a
 ·rename_i p;cases a;exact(sf m p n).trans o
 cases a
def jz(c:List (Nat×cv))(s:S):List ResultVar->Option (List V)
 | []=>aa []
 | .tmp t::d=>match jz c s d with
  |some e=>aa (s.t t::e)
  |none=>aj
 | .cell a t::d=>match u6 c s.H t (s.t a) [],jz c s d with
  |some (v,[],[]),aa e=>aa (v::e)
  |_,_=>aj
def oY:List V->V
 | [v]=>v
 |vs=> .bM vs
def l9(c:Array Value)(r:ResultVar):Sem Value:=match r with
 | .tmp t=>pure (c.getD t undef)
 | .cell a t=>do loadVar t (<-asAddr (c.getD a undef))
theorem Az(d:Func)(a:Array Value):Go.results d a=(do let c<-d.results.mapM (l9 a);pure (if h:c.size=1 then c[0] else .tuple c)):=rfl
theorem aey{P:Program}{i:List (Nat×cv)}(r:ek P i){K:Ctx}{a:Act}(m:Rel K W s a w){x:Nat}{t:TypeId}(h:u6 i s.H t (s.t x) []=aa (v,[],[])):
  ∃u,(l9 a.tmps (.cell x t)).run P w= .ok u w/\bq W w (own K W s.H) v u:=by
 have y:=Oy (d:=aj) (ty:=0) (pos:= "") (af:= #[]) (g:=aj) (x:= .tmp x) r h trivial
 obtain⟨u,c,z⟩:=y W w (own K W s.H) a.eval (λid e A=>(m.heap id e A).2) ⟨m.dC x,trivial⟩;refine⟨u,?_,z⟩;have bW:=m.dC x;have n: ∃l,a.tmps.getD x undef= .pointer (aa l):=by
  generalize a.tmps.getD x undef=q at bW;unfold u6 at h;split at h
  ·cases h
  split at h
  ·rename_i o;rw[o] at bW;cases bW with|ref _ _ b _=>exact⟨_,rfl⟩
  ·rename_i o;rw[o] at bW;cases bW with|aS _ b B f _ _ _ _=>exact⟨_,rfl⟩
  ·split at h
   ·split at h<;>cases h
   ·split at h<;>cases h
   cases h
  cases h
 obtain⟨l,k⟩:=n;have F:a.eval (.tmp x)= .pointer (aa l):=k;simp only[execOp,Instr.loadAt,F,Instr.sureAddr,Sem.run_bind,Sem.run_pure,Result.andThen_ok] at c;simp only[l9,k,asAddr,Sem.run_bind,Sem.run_pure,Result.andThen_ok];cases p:(loadVar t l).run P w with
 |ok L Q=>rw[p] at c;simp at c;obtain⟨rfl,rfl⟩:=c;rfl
 |_=>rw[p] at c;cases c
theorem Ie{P:Program}{e:List (Nat×cv)}(n:ek P e){K:Ctx}{W:Map}{s:S}{a:Act}{w:World}(m:Rel K W s a w): ∀{k:List ResultVar} {l:List V},jz e s k=aa l->
  l.length=k.length/\ ∀(i:Nat) r v,k[i]? =aa r->l[i]? =aa v-> ∃u,(l9 a.tmps r).run P w= .ok u w/\bq W w (own K W s.H) v u
 | [],_,h=>by cases h;exact⟨rfl,λi r v h=>by simp at h⟩
 | .tmp t::k,l,h=>by
  simp only[jz] at h;split at h
  ·rename_i o p;cases h;obtain⟨aN,a2⟩:=Ie n m p;refine⟨by simp[aN],λi r v c d=>?_⟩;cases i with
   |zero=>simp at c d;subst c;subst d;exact⟨_,rfl,m.dC t⟩
   |succ i=>simp at c d;exact a2 i r v c d
  cases h
 | .cell x t::k,l,h=>by
  simp only[jz] at h;split at h
  ·rename_i y o q p;cases h;obtain⟨aN,a2⟩:=Ie n m p;refine⟨by simp[aN],λi r v c d=>?_⟩;cases i with
   |zero=>simp at c d;subst c;subst d;exact aey n m q
   |succ i=>simp at c d;exact a2 i r v c d
  cases h
theorem acB{P:Program}{a:Array Value}{r:ResultVar}(h:d.results= #[r])(c:(l9 a r).run P w= .ok u w):(Go.results d a).run P w= .ok u w:=by rw[Az,h];simp[c]
theorem acA{P:Program}{a:Array Value}{r c:ResultVar}{v:Value}(h:d.results= #[r,c])(e:(l9 a r).run P w= .ok u w)(i:(l9 a c).run P w= .ok v w):(Go.results d a).run P w= .ok (.tuple #[u,v]) w:=by rw[Az,h];simp[e,i]
theorem acz{P:Program}{a:Array Value}{r c:ResultVar}{v:Value}(h:d.results= #[r,e,c])(i:(l9 a r).run P w= .ok u w)(k:(l9 a e).run P w= .ok z w)(l:(l9 a c).run P w= .ok v w):
  (Go.results d a).run P w= .ok (.tuple #[u,z,v]) w:=by rw[Az,h];simp[i,k,l]
theorem acy{P:Program}{a:Array Value}{r c i:ResultVar}{v x:Value}(h:d.results= #[r,e,c,i])(k:(l9 a r).run P w= .ok u w)(l:(l9 a e).run P w= .ok z w)(m:(l9 a c).run P w= .ok v w)(n:(l9 a i).run P w= .ok x w):
  (Go.results d a).run P w= .ok (.tuple #[u,z,v,x]) w:=by rw[Az,h];simp[k,l,m,n]
theorem MJ{P:Program}{l:List (Nat×cv)}(Z:ek P l){K:Ctx}{a:Act}(b:Rel K W s a w){e:List ResultVar}(q:d.results.toList=e){k:List V}(h:jz l s e=aa k)(f:db e.length 4=ab):
  ∃u,(Go.results d a.tmps).run P w= .ok u w/\bq W w (own K W s.H) (oY k) u:=by
 obtain⟨g,p⟩:=Ie Z b h;have q:d.results=e.toArray:=by rw[<-q]
 match e,k,g,p,f with
 | [],[],_,_,_=>exact⟨_,results_none q _ _ _,.bM [] #[] rfl λi c u h _=>by simp at h⟩
 | [r],[v],_,p,_=>
  obtain⟨u,aN,a2⟩:=p 0 r v rfl rfl;exact⟨u,acB q aN,a2⟩
 | [r,z],[v,A],_,p,_=>
  obtain⟨u,aN,a2⟩:=p 0 r v rfl rfl;obtain⟨X,B,F⟩:=p 1 z A rfl rfl;refine⟨_,acA q aN B,.bM _ _ rfl λi c u m o=>?_⟩
  match i with
  |0=>simp at m o;subst m;subst o;exact a2
  |1=>simp at m o;subst m;subst o;exact F
  |n+2=>simp at m
 | [r,z,x],[v,A,y],_,p,_=>
  obtain⟨u,aN,a2⟩:=p 0 r v rfl rfl;obtain⟨X,B,F⟩:=p 1 z A rfl rfl;obtain⟨L,Q,R⟩:=p 2 x y rfl rfl;refine⟨_,acz q aN B Q,.bM _ _ rfl λi c u m o=>?_⟩
  match i with
  |0=>simp at m o;subst m;subst o;exact a2
  |1=>simp at m o;subst m;subst o;exact F
  |2=>simp at m o;subst m;subst o;exact R
  |n+3=>simp at m
 | [r,z,x,j],[v,A,y,t],_,p,_=>
  obtain⟨u,aN,a2⟩:=p 0 r v rfl rfl;obtain⟨X,B,F⟩:=p 1 z A rfl rfl;obtain⟨L,Q,R⟩:=p 2 x y rfl rfl;obtain⟨I,D,E⟩:=p 3 j t rfl rfl;refine⟨_,acy q aN B Q D,.bM _ _ rfl λi c u m o=>?_⟩
  match i with
  |0=>simp at m o;subst m;subst o;exact a2
  |1=>simp at m o;subst m;subst o;exact F
  |2=>simp at m o;subst m;subst o;exact R
  |3=>simp at m o;subst m;subst o;exact E
  |n+4=>simp at m
def L6(c:List (Nat×cv))(d:List ResultVar)(r:V):Exit->S->Prop
 | .normal,s| .ret,s=> ∃a,jz c s d=aa a/\dN (oY a) r
 |_,_=>False
def L5(d:List (Nat×cv))(e:List ResultVar)(r:V)(a:List E):Exit->S->Prop
 | .normal,s| .ret,s=> ∃c,jz d s e=aa c/\dN (oY c) r/\r.ok (fA a.length)=ab/\mn s.H (fA a.length) (ft a 0)
 |_,_=>False
section
variable {P:Program}{G:fL}{cn:List (Nat×cv)}
theorem Tp{r:V}{i:Nat}{a:List ResultVar}(A:ek P cn)(B:P.funcs[f]? =aa d)(H:(d.name== "runtime.NumGoroutine")=ak)(q:d.body=aa c)(L:d.results.toList=a)(s:d.ntmps=i)
  (m:db args.length i=ab) (Q:r.ok hh=ab) (x:db a.length 4=ab)
  (h: ∀w X,eb.Fits ⟨P,G,cn,i,0,ia⟩ (Ctx.pure P G w X i)->cU (Ctx.pure P G w X i) c (start args) (L6 cn a r)):lR P G f args r:=by
 subst s;refine⟨Pw B H q,?_⟩;intro w X R W Z F;have o:R.length<=d.ntmps:=by rw[F.length];exact eP m
 refine calls_of_wp B q (h w X (UY A _ w X) ia _ w _ (Rel.start W Z F o) ?_);intro e g j t w' n k;have p:(∃y,jz cn g a=aa y/\dN (oY y) r)->bodyPost P d (λe w'=> ∃u,e= .returned u/\Ext (λ_=>False) w w'/\bq ia w' X r u) .ret t w':=by
  rintro⟨y,z,m⟩;obtain⟨u,v,bW⟩:=MJ A k L z x;have bW:=m _ _ _ _ bW;refine⟨k.defers,u,v,u,rfl,?_,?_⟩
  ·exact k.ext.weaken λb _ ⟨id,h,_⟩=>by simp[Ctx.pure] at h
  exact bW.under (u:=hh) (λb q=> .inl q) (λ_ h=>by simp[hh] at h) Q
 cases e with
 |normal=>exact p n
 |ret=>exact p n
 |exit id=>exact n.elim
 |goto l=>exact n.elim
 |panic c=>exact n.elim
 |outgrown=>exact n.elim
def u5(a:Map):List E->Nat->Prop
 | [],_=>True
 | .arr _ g _ _::c,k=>(∃q,a k=aa (q,g))/\u5 a c (k+1)
 | .a7 _ _ g _ _::c,k=>(∃q,a k=aa (q,g))/\u5 a c (k+1)
 | .cells _::c,k=>True/\u5 a c (k+1)
theorem Oo{W:Map}: ∀(a:List E) (k:Nat),(∀(i:Nat) e g,a[i]? =aa e->e.gen=aa g-> ∃q,W (k+i)=aa (q,g))->u5 W a k
 | [],_,_=>trivial
 |e::a,k,h=>by
  have b8:=Oo a (k+1) (λi e g c d=>by
   have:=h (i+1) e g (by simpa using c) d
   rwa [show k+(i+1)=k+1+i by omega] at this)
  cases e with
  |cells=>exact⟨trivial,b8⟩
  |arr _ g _ _=>exact⟨h 0 _ g rfl rfl,b8⟩
  |a7 _ _ g _ _=>exact⟨h 0 _ g rfl rfl,b8⟩
theorem akf{o:Func}{a out:List E}{r:V}{x y:Nat}{R:List ResultVar}(lz:ek P cn)(ji:P.funcs[f]? =aa o)(cY:(o.name== "runtime.NumGoroutine")=ak)(bb:o.body=aa c)(b8:o.results.toList=R)(W:o.ntmps=x)(Z:a.length=y)
  (z:db args.length x=ab) (A:db y out.length=ab) (j:db R.length 4=ab)
  (h: ∀w X d,eb.Fits ⟨P,G,cn,x,y,d⟩ (Ctx.dR P G w X y d x)->u5 d a 0->cU (Ctx.dR P G w X y d x) c (mT a args) (L5 cn R r out)):jW P G f a args r out:=by
 subst W;subst Z;refine⟨Pw ji cY bb,?_⟩;intro w X d us kV iv hi gI;have B:us.length<=o.ntmps:=by rw[gI.length];exact eP z
 refine calls_of_wp ji bb (h w X d (UX lz _ _ w X d) (Oo a 0 (λk e g v bL=>by
  rw[dQ];exact(pU (hi.heap k _ v) bL).2)) d _ w _ (Rel.mT kV iv hi gI B) ?_)
 intro e D F p0 w' q m;have L:(∃I,jz cn D R=aa I/\dN (oY I) r/\r.ok (fA out.length)=ab/\mn D.H (fA out.length) (ft out 0))->
   bodyPost P o (λe w'=> ∃u,∃i:Unit,∃β,e= .returned u/\True/\Left d β a out w w' X r u) .ret p0 w':=by
  rintro⟨I,M,N,T,hH⟩;obtain⟨u,hu,bW⟩:=MJ lz m b8 M j;have bW:=N _ _ _ _ bW;have hm:a.length<=out.length:=eP A;let p:S:={t:=q0,H:=ft out 0,u:=fA out.length}
  have Q:nG a.length p.u=ab:=by
   have: ∀n,n<=a.length->nG n p.u=ab:=by
    intro n;induction n with
    |zero=>intro _;rfl
    |succ n nz=>intro cY;simp[nG,nz O,show p.u n=ab from jZ.2 O]
   exact this _ (cR _)
  have bT:=m.cut (s':=p) (pY.nil _ _) hH Q;have fc:=F2 (K:=Ctx.dR P G w X a.length d o.ntmps) (β:=F) (s:=D) (s':=p) hH;refine⟨m.defers,u,hu,u,(),cut F p.u,rfl,trivial,?_⟩;refine⟨m.ext.weaken λb _ ⟨id,_,h⟩=>⟨id,h⟩,bT.base,bT.kA,?_,?_,bT.inj,bT.fresh,?_,bW.under fc (λ_ h=>ym h) T⟩
  ·intro k v;apply bT.eF;cases U:p.u k with
   |false=>rfl
   |true=>have:=jZ.1 U;omega
  ·intro k b v;apply bT.e9;cases U:p.u k with
   |false=>rfl
   |true=>have:=jZ.1 U;omega
  intro k e he;exact(bT.heap k e (by rw[<-z1] at he;exact he)).2
 cases e with
 |normal=>exact L q
 |ret=>exact L q
 |exit id=>exact q.elim
 |goto l=>exact q.elim
 |panic c=>exact q.elim
 |outgrown=>exact q.elim
def yA(r:V):Option (List V)->Option V
 |some a=>aa (mo r (oY a))
 |none=>aj
theorem L1{a:List ResultVar}{r:V}(h:yA r (jz cn s a)=aa r): ∃c,jz cn s a=aa c/\dN (oY c) r:=by
 cases d:jz cn s a with
 |none=>rw[d] at h;cases h
 |some c=>rw[d] at h;simp only[yA,Option.some.injEq] at h;exact⟨c,rfl,UQ h⟩
theorem UP{c:List ResultVar}{r:V}{a:List E}(h:(yA r (jz cn s c),u7 s a 0,r.ok (fA a.length)&&vl (fA a.length) a)=(aa r,u1 a,ab)):
  ∃d,jz cn s c=aa d/\dN (oY d) r/\r.ok (fA a.length)=ab/\mn s.H (fA a.length) (ft a 0):=by
 simp only[Prod.mk.injEq,b9] at h;obtain⟨l,m,n,o⟩:=h;obtain⟨d,aN,a2⟩:=L1 l;refine⟨d,aN,a2,n,λk e i=>?_⟩;rw[z1] at i
 have:=NV m k e i;rw[dQ] at this;exact⟨this,jZ.2 (bS.1 i).1,OH o k e i⟩
end
theorem tl(f:k->List T)(ph:k)(h:app l [y]=aa r):app (bV f l) [f ph]=aa (bV f (l++[ph])):=by
 obtain⟨a,_⟩:=uV h;unfold app
 grind
theorem nn(f:k->List T)(l:List k)(ph:k):(bV f (l++[ph]))[(bV f l).length+0]? =aa (f ph):=by grind
theorem yx(f:k->List T)(l:List k){r:List T}(e:r=f y):(bV f (l++[ph])).set ((bV f l).length+0) r=bV f (l++[y]):=by grind
theorem s6(f:k->List T){x:List k}{r:List T}(h:app l [y]=aa x)(e:r=f y):(bV f (l++[ph])).set ((bV f l).length+0) r=bV f x:=by
 obtain⟨_,rfl⟩:=uV h
 grind
theorem tj(f:k->List T){x:List k}(a:k)(h:app l [y]=aa x):(bV f (l++[a])).length=(bV f x).length:=by obtain⟨_,rfl⟩:=uV h;simp
theorem ajD(f:k->List T)(h:l.isEmpty=ak):bV f l≠[]:=by
 cases l with
 |nil=>cases h
 |cons=>simp
theorem gq(f:k->List T)(h:ca l i y=aa r)(e:q=f y):(bV f l).set (0+i.toNat) q=bV f r:=by subst e;exact(str f h).symm
theorem iV(f:k->List T)(h:ax l i=aa x)(e:q=f x):(bV f l).set (0+i.toNat) q=bV f l:=by subst e;have a:=ch f h;obtain⟨d,c⟩:=bS.1 a;rw[<-c,List.set_getElem_self]
theorem cQ(f:k->List T)(h:ca l i x=aa r):(l.map f).length=(r.map f).length:=by obtain⟨_,_,rfl⟩:=uk h;simp
theorem kx{r:R}(h:(aj:Option R)=aa r):p:=by cases h
def jh{k:Type}(a b:List k):Option Unit:=if b.length=a.length then aa () else aj
theorem jK{b:List k}{u:Unit}(f:k->List T)(h:jh a b=aa u):(a.map f).length=(b.map f).length:=by
 unfold jh at h
 grind
def E6{k:Type}(f:k->List T):Option k->V
 |none=> .t .iA
 |some x=> .aS (f x)
theorem UL(f:k->List T)(o:Option k)(b:Bool):(V.bM [E6 f o,aL b]).ok hh=ab:=by cases o<;>rfl
theorem Aa{P:Program}{G:fL}[Inhabited R]{r:R->List T}(h:o.isSome=ab)(k:lR P G f args (V.bM [E6 r o,v])):lR P G f args (V.bM [V.aS (r (o.getD default)),v]):=by
 cases o with
 |none=>cases h
 |some x=>exact k
theorem z'{P:Program}{G:fL}{r:R->List T}(h:o.isSome=ak)(k:lR P G f args (V.bM [E6 r o,v])):lR P G f args (V.bM [V.t .iA,v]):=by
 cases o with
 |none=>exact k
 |some x=>cases h
theorem afY(f:k->List T)(l:List k):(l.map f).length=((l.take l.length).map f).length:=by rw[dW]
theorem O8(f:k->List T)(l:List k)(a:0<=i)(c:i<(l.length:Int)):
  0<=i/\i<=((l.map f).length:Int)/\((l.map f).length:Int)<=((l.map f).length:Int)/\(i=0\/i<((l.map f).length:Int))/\i.toNat=0+i.toNat/\l.length-i.toNat=((l.map f).length:Int).toNat-i.toNat:=by grind
theorem L2(f:R->List T)(l:List R)(k:Nat):(l.take k).map f=(l.map f).take k:=uJ
section
set_option linter.unusedVariables false
def fm{k:Type}(l:List k)(i j:Int):Nat:=i.toNat+(l.length-j.toNat)
def oa{k:Type}(l:List k)(i j:Int):List k:=l.take i.toNat++l.drop j.toNat++l.drop (fm l i j)
def kM{k:Type}(l:List k)(i j:Int)(z:k):List k:=l.take i.toNat++l.drop j.toNat++List.replicate (l.length-fm l i j) z
theorem Pt(l:List k)(a:0<=i)(c:i<=j)(d:j<=(l.length:Int)):(oa l i j).length=l.length:=by
 unfold oa fm
 grind
theorem agG(f:k->List T)(l:List k)(a:0<=i)(c:i<=j)(d:j<=(l.length:Int)):0<=i/\i<=j/\j<=(l.length:Int)/\(l.length:Int)<=((l.map f).length:Int):=by grind
theorem R6(f:k->List T)(l:List k)(a:0<=i)(c:i<=j)(d:j<=(l.length:Int)):
  (0:Int)<=0/\(0:Int)<=i/\i<=((l.map f).length:Int)/\((0:Int)=0\/(0:Int)<((l.map f).length:Int))/\0=0+(0:Int).toNat/\i.toNat=i.toNat-(0:Int).toNat:=
 ⟨gu _,a,by rw[dJ];omega,.inl rfl,rfl,rfl⟩
theorem agF(f:k->List T)(l:List k)(a:0<=i)(c:i<=j)(d:j<=(l.length:Int))(e: ¬j<(l.length:Int)):0<=j/\j=((l.map f).length:Int)/\((l.map f).length:Int)<=((l.map f).length:Int):=by grind
theorem UI(f:k->List T)(l:List k)(a:0<=i)(c:i<=j)(d:j<=(l.length:Int)):i.toNat+(l.length-j.toNat)<=(l.map f).length:=by grind
theorem UH(f:k->List T)(l:List k)(a:0<=i)(c:i<=j)(d:j<=(l.length:Int)):j.toNat+(l.length-j.toNat)<=(l.map f).length:=by grind
theorem UG(f:k->List T)(l:List k)(i j:Int):(oa l i j).map f=(l.map f).take i.toNat++((l.map f).drop j.toNat).take (l.length-j.toNat)++(l.map f).drop (i.toNat+(l.length-j.toNat)):=by unfold oa fm;rw[eN,eN,uJ,List.map_drop,List.map_drop,ma (l:=(l.map f).drop j.toNat) (by rw[fM,dJ];omega)]
theorem R7(f:R->List T)(l r:List R){k:Nat}(d:0<k)(e:0<=i)(h:i<j)(n:j<=(l.length:Int))(a:r.length=l.length){m:Nat}(c:m=fm l i j):
  0<k/\(0:Int)<=(m:Int)/\(m:Int)<(l.length:Int)/\((0:Nat):Int)+(l.length:Int)<=((r.map f).length:Int)/\m=0+(m:Int).toNat/\l.length-m=(l.length:Int).toNat-(m:Int).toNat:=by rw[dJ,a,c];unfold fm;omega
theorem agE(f:k->List T)(l:List k)(z:k)(c:0<=i)(h:i<j)(d:j<=(l.length:Int)):
  fm l i j+(l.length-fm l i j)<=((oa l i j).map f).length/\(kM l i j z).map f=((oa l i j).map f).take (fm l i j)++List.replicate (l.length-fm l i j) (f z)++((oa l i j).map f).drop (fm l i j+(l.length-fm l i j)):=by
 have cI:=Pt l c (O:i<=j) d;have a:(l.take i.toNat++l.drop j.toNat).length=fm l i j:=by
  unfold fm;simp only[List.length_append,List.length_take,List.length_drop];omega
 have e:fm l i j<=l.length:=by unfold fm;omega
 refine⟨by rw[dJ,cI];omega,?_⟩;rw[lJ (as:=(oa l i j).map f) (by rw[dJ,cI];omega),ke,<-uJ];unfold kM oa;rw[eN,List.map_replicate,ss (by rw[a];exact cR _),ma (l:=l.take i.toNat++l.drop j.toNat) (by rw[a];exact cR _)]
theorem UR(f:k->List T)(l:List k)(z:k)(c:0<=i)(d:i<j)(e:j<=(l.length:Int))(h: ¬j<(l.length:Int)):
  i.toNat+(l.length-i.toNat)<=(l.map f).length/\(kM l i j z).map f=(l.map f).take i.toNat++List.replicate (l.length-i.toNat) (f z)++(l.map f).drop (i.toNat+(l.length-i.toNat)):=by
 refine⟨by rw[dJ];omega,?_⟩;have a:fm l i j=i.toNat:=by unfold fm;omega
 unfold kM;rw[a,lJ (as:=l) (i:=j.toNat) O,ke,lJ (as:=l.map f) (by rw[dJ];omega),ke,eN,uJ,List.map_replicate]
theorem R8(f:k->List T)(l:List k)(z:k)(a:0<=i)(c:i<j)(d:j<=(l.length:Int)):fm l i j=(((kM l i j z).take (fm l i j)).map f).length:=by
 unfold kM fm
 grind
theorem R9(l:List k)(a:j<=(l.length:Int))(c: ¬j<(l.length:Int)):i.toNat=fm l i j:=by unfold fm;omega
end
theorem xc(h:ca l i x=aa r)(y:k):ca l i y=aa (l.set i.toNat y):=by
 obtain⟨a,c,_⟩:=uk h;unfold ca
 grind
theorem vc(h:ca l i x=aa r)(y:k):ax (l.set i.toNat y) i=aa y:=by
 obtain⟨a,c,_⟩:=uk h;unfold ax
 grind
theorem xb(h:ca l i x=aa r)(y:k):ca (l.set i.toNat y) i x=aa r:=by obtain⟨a,c,rfl⟩:=uk h;unfold ca;rw[aR ⟨a,by rw[e6];exact c⟩,uK]
theorem De{u:Unit}(f:k->List T)(c:jh a l=aa u)(h:ax l i=aa x):0<=i/\i<((a.map f).length:Int):=by have:=bI f h;rw[jK f c];exact this
theorem RS{u:Unit}(f:k->List T)(c:jh a l=aa u):(a.map f).length=l.length:=(jK f c).trans (RT f l)
theorem CX(h:ca l i x=aa r):ax r i=aa x:=by
 obtain⟨a,c,rfl⟩:=uk h;unfold ax
 grind
end Go.Lift
