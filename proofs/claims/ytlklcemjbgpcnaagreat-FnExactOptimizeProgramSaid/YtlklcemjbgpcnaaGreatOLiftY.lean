/- Tools. -/
import Derived.Test.YtlklcemjbgpcnaaGreatOLiftV
namespace Go.Lift
open Go
open Option renaming some -> aa, none -> aj
open Bool renaming true -> ab, false -> ak, and_eq_true -> cx
open List renaming map -> bL
open Nat renaming beq -> cc, blt -> dw, ble -> dD
section
def df.cat(a b:df):df:=⟨a.e9++b.e9,a.hs++b.hs,a.us++b.us⟩
def df.nil:df:=⟨[],[],[]⟩
theorem OK{R:Type}: ∀(a b:List (Nat×R)) (f:Nat->R),dA f (a++b)=dA (dA f a) b
 | [],_,_=>rfl
 |(d,v)::a,b,f=>by simp only[List.cons_append,dA];exact OK a b _
theorem oW(a b:df)(s:S):(a.cat b).app s=b.app (a.app s):=by unfold df.app df.cat;simp only[OK]
theorem nW{a:Type}: ∀(l:List (Nat×a)) (f:Nat->a) (r:Nat),((∀v,(r,v)∉l)/\dA f l r=f r)\/ ∃v,(r,v)∈l/\dA f l r=v
 | [],_,_=> .inl ⟨λ_ h=>(List.not_mem_nil h).elim,rfl⟩
 |(d,v)::l,f,r=>by
  rcases nW l (aZ f d v) r with ⟨c,b⟩|⟨e,c,b⟩
  ·by_cases i:r=d
   ·subst i;exact .inr ⟨v,ff,by rw[dA,b,cd]⟩
   refine .inl ⟨λe h=>?_,by rw[dA,b,cg _ _ _ _ i]⟩;rcases d'.1 h with h|h
   ·cases h;exact i rfl
   exact c e h
  exact .inr ⟨e,eZ _ c,by rw[dA,b]⟩
mutual
def lY:V->V->V
 | .t (.bE _),v=>oc v
 | .agg cs,.agg a=> .agg (qY cs a)
 | .bX cs,.bX a=> .bX (qY cs a)
 | .dp,_=> .dp
 |_,v=>v
def qY:List V->List V->List V
 |c::cs,v::a=>lY c v::qY cs a
 |_,a=>a
end
mutual
theorem H5: ∀c v:V,dO v (lY c v)
 | .t (.bE _),v=>by simp only[lY];exact uV v
 | .agg cs,.agg a=>by simp only[lY];exact dO.agg (CH cs a)
 | .bX cs,.bX a=>by simp only[lY];exact dO.bX (CH cs a)
 | .dp,v=>by simp only[lY];exact dO.dp v
 | .t (.bool _),v| .t (.int _ _),v| .t (.str _),v| .t .fp,v| .t .gM,v| .t .gn,v| .t .mm,v| .t .err,v=>by simp only[lY];exact dO.refl v
 | .ref _ _,v| .aS _,v| .bo _ _ _ _ _,v| .cR _ _ _ _ _,v| .fn _ _,v=>by simp only[lY];exact dO.refl v
 | .agg _,.t _| .agg _,.bX _| .agg _,.ref _ _| .agg _,.aS _| .agg _,.bo _ _ _ _ _| .agg _,.cR _ _ _ _ _| .agg _,.fn _ _| .agg _,.dp=>by simp only[lY];exact dO.refl _
 | .bX _,.t _| .bX _,.agg _| .bX _,.ref _ _| .bX _,.aS _| .bX _,.bo _ _ _ _ _| .bX _,.cR _ _ _ _ _| .bX _,.fn _ _| .bX _,.dp=>by simp only[lY];exact dO.refl _
theorem CH: ∀cs a:List V,fG a (qY cs a)
 |c::cs,v::a=>by simp only[qY];exact⟨H5 c v,CH cs a⟩
 | [],a=>by simp only[qY];exact fG.refl a
 |_::_,[]=>by simp only[qY];exact trivial
end
def Dj:Option E->Option E->Option E
 |some (.cells cs),aa (.cells a)=>aa (.cells (qY cs a))
 |some _,e=>e
 |none,_=>aj
variable {c s a:S}{e x:E}{β G:Map}{w:World}{r l:List Nat}{b:List (Nat×Option E)}{d:List (Nat×Bool)}{i k gen n L m g:Nat}{q:Option Nat}{X W:Nat->Prop}{Q:Exit->S->Prop}{v:V}{u:Value}{p:V->V->Prop}{o:Oper}
theorem Qm{c e:Option E}(h:Dj c e=aa x): ∃a,e=aa a/\j8 a x:=by
 unfold Dj at h;split at h
 ·cases h;exact⟨_,rfl,CH _ _⟩
 ·exact⟨x,h,j8.refl x⟩
 cases h
def u7(s:S):List (Nat×V)->List V
 | []=>[]
 |(i,v)::l=>lY v (s.t i)::u7 s l
def va(s:S):List (Nat×Option E)->List (Option E)
 | []=>[]
 |(k,e)::l=>Dj e (s.H k)::va s l
def kT{a:Type}:List (Nat×a)->List a
 | []=>[]
 |(_,v)::l=>v::kT l
theorem Hq{s:S}: ∀{l:List (Nat×V)},u7 s l=kT l-> ∀i v,(i,v)∈l->dO (s.t i) v
 |(a,b)::l,h,i,v,hm=>by
  simp only[u7,kT,List.cons.injEq] at h;rcases d'.1 hm with hm|hm
  ·cases hm;exact h.1▸H5 _ _
  exact Hq h.2 i v hm
theorem HM{s:S}: ∀{l:List (Nat×Option E)},va s l=kT l-> ∀k e,(k,aa e)∈l-> ∃a,s.H k=aa a/\j8 a e
 |(lF,a)::l,h,k,e,hm=>by
  simp only[va,kT,List.cons.injEq] at h;rcases d'.1 hm with hm|hm
  ·cases hm;exact Qm h.1
  exact HM h.2 k e hm
def so{a:Type}(b:List Nat):List (Nat×a)->Bool
 | []=>ab
 |(i,_)::l=>iT i b&&so b l
theorem G7{a:Type}{r:List Nat}: ∀{l:List (Nat×a)},so r l=ab-> ∀i v,(i,v)∈l->i∈r
 |(b,c)::l,h,i,v,hm=>by
  simp only[so,cx] at h;rcases d'.1 hm with hm|hm
  ·cases hm;exact B3 h.1
  exact G7 h.2 i v hm
def yD{a:Type}:List (Nat×a)->List Nat
 | []=>[]
 |(i,_)::l=>i::yD l
theorem OT{a:Type}{i:Nat}: ∀{l:List (Nat×a)},i∈yD l-> ∃v,(i,v)∈l
 |(d,b)::l,h=>by
  simp only[yD,List.mem_cons] at h;rcases h with rfl|h
  ·exact⟨b,ff⟩
  obtain⟨v,c⟩:=OT h;exact⟨v,eZ _ c⟩
def C5(a:List Nat)(t:Nat->V):Nat->V:=λi=>bif iT i a then .dp else t i
def S.cl(s:S)(a:List Nat)(b:List (Nat×V))(c:List (Nat×Option E))(d:List (Nat×Bool)):S:={t:=dA (C5 a s.t) b,H:=dA s.H c,u:=dA s.u d}
theorem Rel.Lb{K:Ctx}{a:Act}(l:Rel K β s a w)(n:c.u=s.u)(x: ∀k e,c.H k=aa e-> ∃m,s.H k=aa m/\j8 m e)(y: ∀i,dO (s.t i) (c.t i)):Rel K β c a w:=by
 have d: ∀b,own K β c.H b->own K β s.H b:=by
  rintro b (h|⟨id,p,q⟩)
  ·exact .inl h
  cases o:c.H id with
  |none=>exact bs o p
  |some e=>
   obtain⟨m,r,_⟩:=x id e o;exact .inr ⟨id,by rw[r];simp,q⟩
 refine {l with low:= ?_,dT:= ?_,ev:= ?_,heap:= ?_,dB:= ?_}
 ·intro id h;rw[n];exact l.low id h
 ·intro id h;rw[n] at h;exact l.dT id h
 ·intro id b h;rw[n] at h;exact l.ev id b h
 ·intro id e o;obtain⟨m,p,q⟩:=x id e o;obtain⟨r,z⟩:=l.heap id m p;refine⟨by rw[n];exact r,?_⟩;exact(q.zP z).mono (Ext.refl _ _) (λb _=>d b) (dX.refl _) (λ_ h=>h) (Shaped.refl _ _) λ_ _=>rfl
 intro i;exact(y i _ _ _ _ (l.dB i)).mono (Ext.refl _ _) (λb _=>d b) (dX.refl _) (Shaped.refl _ _)
theorem VR{K:Ctx}{e:df}{c:List (Nat×V)}(y:e.us=d)(z:so r e.e9=ab)(A:so (yD b) e.hs=ab)
  (B:u7 (e.app s) c=kT c) (D:va (e.app s) b=kT b):(e.app s).le K (s.cl r c b d):=by
 intro F a w G;refine⟨F,G.Lb ?_ ?_ ?_⟩
 ·show dA s.u d=dA s.u e.us;rw[y]
 ·intro k x n;have n:dA s.H b k=aa x:=n;rcases nW b s.H k with ⟨o,m⟩|⟨v,o,m⟩
  ·rw[m] at n;refine⟨x,?_,j8.refl x⟩;show dA s.H e.hs k=aa x;rw[mW _ _ _ λv p=>?_]
   ·exact n
   obtain⟨R,L⟩:=OT (G7 A k v p)
   grind
  rw[m] at n;subst n;exact HM D k x o
 intro i;show dO _ (dA (C5 r s.t) c i);rcases nW c (C5 r s.t) i with ⟨o,m⟩|⟨v,o,m⟩
 ·rw[m];unfold C5;cases q:iT i r with
  |true=>exact dO.dp _
  |false=>
   show dO (dA s.t e.e9 i) (s.t i);rw[mW _ _ _ (λv p=>by
    have hm:=G7 z i v p
    have: ∀{l:List Nat},i∈l->iT i l=ab:=by
     intro l;induction l with
     |nil=>intro h;cases h
     |cons x l Q=>
      intro h;simp only[iT];rcases d'.1 h with rfl|h
      ·simp
      cases cc x i with
      |true=>rfl
      |false=>exact Q h
    rw[this hm] at q;cases q)]
   exact dO.refl _
 rw[m];exact Hq B i v o
theorem OJ{a:Type}(f:Nat->a)(i:Nat):aZ f i (f i)=f:=by
 funext j;by_cases b:j=i
 ·subst b;rw[cd]
 rw[cg _ _ _ _ b]
def Map.move(a:Map)(k c gen:Nat)(q:Option Nat):Map:=
 ⟨λi=>bif cc i c then aa (q,1) else bif cc i k then aa (aj,gen+1) else a i,λi b=>(i=c/\a.n k b)\/(i≠c/\i≠k/\a.n i b)⟩
theorem IG(h:i≠k):cc i k=ak:=by
 cases a:cc i k with
 |false=>rfl
 |true=>exact bs (m0 a) h
theorem OY(b:Map)(k a gen:Nat)(q:Option Nat):b.move k a gen q a=aa (q,1):=by simp[Map.move]
theorem Pk(b:Map)(k a gen:Nat)(q:Option Nat)(h:k≠a):b.move k a gen q k=aa (aj,gen+1):=by simp[Map.move,IG h]
theorem M4(a:Map)(k b gen:Nat)(q:Option Nat)(id:Nat)(h:id≠k)(c:id≠b):a.move k b gen q id=a id:=by simp[Map.move,IG h,IG c]
theorem agx(c:Map)(k d gen:Nat)(q:Option Nat)(a b:Nat)(h:a≠k)(e:a≠d):(c.move k d gen q).n a b↔c.n a b:=by simp[Map.move,h,e]
theorem afX(d:k≠i)(e:G k=aa (q,gen)){b:Nat}(h:At (G.move k i gen q) n b):(n=i/\At G k b)\/(n≠k/\n≠i/\At G n b):=by
 rcases h with ⟨g,h⟩|⟨rfl,h⟩|⟨a,c,h⟩
 ·by_cases a:n=i
  ·subst a;rw[OY] at h;cases h;exact .inl ⟨rfl,.inl ⟨gen,e⟩⟩
  by_cases c:n=k
  ·subst c;rw[Pk _ _ _ _ _ d] at h;cases h
  rw[M4 _ _ _ _ _ _ c a] at h;exact .inr ⟨c,a,.inl ⟨g,h⟩⟩
 ·exact .inl ⟨rfl,.inr h⟩
 exact .inr ⟨c,a,.inr h⟩
theorem cY.set{b:Nat}{Y:List V}{j:Nat}{c x:V}(h:cY β w X b (.cells Y))(m:Y[j]? =aa c)(n: ∀u,bt β w X c u->bt β w X x u):cY β w X b (.cells (Y.set j x)):=by
 obtain⟨a,d,ty,e,k,l,o⟩:=h;refine⟨a,d,ty,e,k,by simpa using l,λi v u p q=>?_⟩
 grind
theorem YN{K:Ctx}(b k i j gen p:Nat){e:TypeId}{n:List (List T)}{L:List dM}{Q:Nat}{l:List (List T)}{R:List (Nat×Nat×V)}(W:dD K.dZ k=ab)(X:b≠k)
  (a1:s.H b=aa (.aN L m Q l ((i,j,.bo k gen p 0 n.length)::R))) (hk:s.H k=aa (.arr e gen p n)):
  s.le K {t:=s.t,H:=aZ (aZ s.H k aj) b (aa (.aN L m Q l ((i,j,.t (.bE n))::R))),u:=s.u}:=by
 intro y a w h;have nT:=fg W;generalize eW:(aa (.aN L m Q l ((i,j,.t (.bE n))::R)):Option E)=N;have ak5:N≠aj:=by subst eW;simp
 have d: ∀o,own K y (aZ (aZ s.H k aj) b N) o->own K y s.H o:=by
  rintro o (f|⟨id,q,F⟩)
  ·exact .inl f
  by_cases z:id=b
  ·subst z;exact .inr ⟨id,by rw[a1];simp,F⟩
  rw[cg _ _ _ _ z] at q;by_cases r:id=k
  ·subst r;rw[cd] at q;exact bs rfl q
  rw[cg _ _ _ _ r] at q;exact .inr ⟨id,q,F⟩
 have A: ∀o,At y k o-> ¬own K y (aZ (aZ s.H k aj) b N) o:=by
  rintro o D (f|⟨id,q,F⟩)
  ·obtain⟨hl,j3⟩:=h.jK o f;rcases(h.fresh k o D).1 with g|k3
   ·exact j3 g
   omega
  have:=h.inj _ _ _ F D;subst this;rw[cg _ _ _ _ (Ne.symm X),cd] at q;exact q rfl
 have I:=(h.heap k _ hk).2;refine⟨y,{h with heap:= ?_,dB:= ?_}⟩
 ·intro id e' c;have c:aZ (aZ s.H k aj) b N id=aa e':=c;by_cases z:id=b
  ·subst z;rw[cd] at c;subst c;cases eW;obtain⟨r,G⟩:=h.heap id _ a1;refine⟨r,G.1,?_⟩;rcases G.2 with ⟨aL,a2,a3⟩|⟨o,us,B,aL,a2,a3,a4,a5,jP,hM,fH⟩
   ·exact .inl ⟨aL,a2,a3⟩
   refine .inr ⟨o,us,B,aL,a2,a3,a4,λjd ey M x u dd cB fi=>?_,jP,hM,fH⟩;have P:=a5 jd ey M x u dd cB fi;refine⟨λv bZ=>?_,λU=>?_⟩
   ·rcases d'.1 bZ with e|bZ
    ·simp only[Prod.mk.injEq] at e;obtain⟨rfl,rfl,rfl⟩:=e;obtain⟨Y,d2⟩:=P.1 _ ff;exact⟨.t _ _ (I.read Y d A),d2⟩
    obtain⟨Y,d2⟩:=P.1 v (eZ _ bZ);exact⟨Y.mono (Ext.refl _ _) (λb _=>d b) (dX.refl _) (Shaped.refl _ _),d2⟩
   have hne: ¬(jd=i/\ey=j):=by rintro⟨rfl,rfl⟩;exact U _ ff
   refine(P.2 λv bZ=>?_).mono (Ext.refl _ _) (λb _=>d b) (λ_ _=>rfl)
   grind
  rw[cg _ _ _ _ z] at c;by_cases r:id=k
  ·subst r;rw[cd] at c;cases c
  rw[cg _ _ _ _ r] at c;obtain⟨G,h6⟩:=h.heap id e' c;exact⟨G,h6.mono (Ext.refl _ _) (λb _=>d b) (dX.refl _) (λ_ h=>h) (Shaped.refl _ _) λ_ _=>rfl⟩
 intro i;exact(h.dB i).mono (Ext.refl _ _) (λb _=>d b) (dX.refl _) (Shaped.refl _ _)
theorem ack{K:Ctx}{c:Nat}(b j k:Nat)(e:TypeId){A:List V}(F:s.u k=ak)(X:s.H b=aa (.cells A))(M:A[j]? =aa (.t .fp)):
  s.le K {t:=s.t,H:=aZ (aZ s.H k (aa (.arr e 1 c []))) b (aa (.cells (A.set j (.bo k 1 c 0 0)))),u:=aZ s.u k ab}:=by
 intro p a w h;have cO:=h.dT k F;have f:b≠k:=by intro e;subst e;have:=(h.heap b _ X).1;rw[this] at F;cases F
 have q: ∀id x,p id=aa x->p.put k (aa (aj,1)) id=aa x:=λid x l=>by
  rw[eS _ _ _ _ (by intro e;subst e;rw[cO] at l;cases l)];exact l
 have G:=dX.of q;have o: ∀id n,At (p.put k (aa (aj,1))) id n->id≠k/\At p id n:=λid n l=>by
  by_cases r:id=k
  ·subst r;rcases l with ⟨g,l⟩|l
   ·rw[iG] at l;cases l
   exact bs l (h.ev _ _ F)
  refine⟨r,?_⟩;rcases l with ⟨g,l⟩|l
  ·rw[eS _ _ _ _ r] at l;exact .inl ⟨g,l⟩
  exact .inr l
 have y: ∀n,own K (p.put k (aa (aj,1))) (aZ (aZ s.H k (aa (.arr e 1 c []))) b (aa (.cells (A.set j (.bo k 1 c 0 0))))) n->own K p s.H n:=by
  rintro n (l|⟨id,z,B⟩)
  ·exact .inl l
  obtain⟨E,L⟩:=o id n B;by_cases W:id=b
  ·subst W;exact .inr ⟨id,by rw[X];simp,L⟩
  rw[cg _ _ _ _ W,cg _ _ _ _ E] at z;exact .inr ⟨id,z,L⟩
 have Q: ∀v u,bt p w (own K p s.H) v u->bt (p.put k (aa (aj,1))) w (own K (p.put k (aa (aj,1))) (aZ (aZ s.H k (aa (.arr e 1 c []))) b (aa (.cells (A.set j (.bo k 1 c 0 0)))))) v u:=
  λv u D=>D.mono (Ext.refl _ _) (λb _=>y b) G (Shaped.refl _ _)
 refine⟨p.put k (aa (aj,1)),{h with base:= ?_,low:= ?_,dT:= ?_,ev:= ?_,inj:= ?_,fresh:= ?_,heap:= ?_,dB:=λi=>Q _ _ (h.dB i)}⟩
 ·refine h.base.keep λid hid=>?_
  have:=h.low id hid;rw[eS _ _ _ _ (by intro e;subst e;rw[F] at this;cases this)]
 ·intro id hid;show aZ s.u k ab id=ab;by_cases e:id=k
  ·subst e;exact cd _ _ _
  rw[cg _ _ _ _ e];exact h.low id hid
 ·intro id hid;have d:aZ s.u k ab id=ak:=hid;by_cases e:id=k
  ·subst e;rw[cd] at d;cases d
  rw[cg _ _ _ _ e] at d;rw[eS _ _ _ _ e];exact h.dT id d
 ·intro id b hid;have d:aZ s.u k ab id=ak:=hid;by_cases e:id=k
  ·subst e;rw[cd] at d;cases d
  rw[cg _ _ _ _ e] at d;exact h.ev id b d
 ·intro id R n z B;exact h.inj id R n (o id n z).2 (o R n B).2
 ·intro id n l;exact h.fresh id n (o id n l).2
 intro id e' m;have m:aZ (aZ s.H k (aa (.arr e 1 c []))) b (aa (.cells (A.set j (.bo k 1 c 0 0)))) id=aa e':=m;show aZ s.u k ab id=ab/\cY _ _ (own K _ (aZ (aZ s.H k (aa (.arr e 1 c []))) b (aa (.cells (A.set j (.bo k 1 c 0 0)))))) id e';by_cases L:id=b
 ·subst L;rw[cd] at m;cases m;rw[cg _ _ _ _ f];obtain⟨W,n,T,ty,U,Y,g3,N⟩:=h.heap id _ X;refine⟨W,n,T,ty,q _ _ U,Y,by simpa using g3,λi v u D P=>?_⟩;by_cases r:i=j
  ·subst r;have I:=(b5.1 M).1;rw[iQ I] at D;cases D;have z:=N i _ u M P;cases z with
   |t _ _ B=>cases B;exact .hb k 1 c (da _) (cd _ _ _)
  rw[mw (Ne.symm r)] at D;exact Q _ _ (N i v u D P)
 rw[cg _ _ _ _ L] at m;by_cases r:id=k
 ·subst r;rw[cd] at m;cases m;exact⟨cd _ _ _,da _,Or.inl ⟨cd _ _ _,rfl⟩⟩
 rw[cg _ _ _ _ r] at m;obtain⟨z,B⟩:=h.heap id e' m;exact⟨by rw[cg _ _ _ _ r];exact z,B.mono (Ext.refl _ _) (λb _=>y b) G (q id) (Shaped.refl _ _) λ_ _=>rfl⟩
def mn(k:Nat):Nat->Bool:=λid=>bif cc id k then ak else ab
def sP(k:Nat)(v:V):V:=bif v.ok (mn k) then v else .dp
def IX(k:Nat):E->Option E
 | .cells cs=>bif gL (mn k) cs then aa (.cells cs) else aj
 | .aN c m gen a b=>bif vp (mn k) b then aa (.aN c m gen a b) else aj
 |e=>aa e
theorem CV(h:n≠k):mn k n=ab:=by
 have:cc n k=ak:=by cases a:cc n k with
  |false=>rfl
  |true=>exact bs (m0 a) h
 simp[mn,this]
theorem yf(h:mn k n=ab):n≠k:=by intro e;subst e;simp[mn] at h
def E.nf(n:Nat):E->E
 | .arr e _ z r=> .arr e n z r
 | .aN a m _ r b=> .aN a m n r b
 |e=>e
abbrev E.En:E->E:=E.nf 1
def E.nU:E->List (Nat×Nat×V)
 | .aN _ _ _ _ a=>a
 |_=>[]
theorem cY.nf{β':Map}(h:cY β w X k e)(d:1<=n)(z:e.gen=aa g)(s:β k=aa (q,g))(y:β' L=aa (q,n))(G: ∀b,β'.n L b↔β.n k b)(H: ∀b,W b->X b)
  (R: ∀i j v,(i,j,v)∈e.nU-> ∀u,bt β w X v u->bt β' w W v u):cY β' w W L (e.nf n):=by
 cases e with
 |cells=>cases z
 |arr ty f Q l=>
  cases z;refine⟨d,?_⟩;rcases h.2 with ⟨aL,a2⟩|⟨b,A,aL,a2,a3,a4,a5⟩
  ·rw[s] at aL;cases aL;exact .inl ⟨y,a2⟩
  rw[s] at aL;cases aL;exact .inr ⟨b,A,y,a2,a3,a4,λi j a x u o p r=>(a5 i j a x u o p r).mono (Ext.refl _ _) λb _=>H b⟩
 |aN I m f l M=>
  cases z;refine⟨d,?_⟩;rcases h.2 with ⟨aL,a2,a0⟩|⟨b,A,B,aL,a2,a3,a4,a5,jP,hM,fH⟩
  ·rw[s] at aL;cases aL;exact .inl ⟨y,a2,λc t=>a0 c ((G c).1 t)⟩
  rw[s] at aL;cases aL;exact .inr ⟨b,A,B,y,a2,a3,a4,λi j a x u o p r=>⟨λv D=>⟨R i j v D _ ((a5 i j a x u o p r).1 v D).1,((a5 i j a x u o p r).1 v D).2⟩,λF=>((a5 i j a x u o p r).2 F).mono (Ext.refl _ _) (λc _=>H c) λ_ _=>rfl⟩,jP,hM,λc=>(G c).trans (fH c)⟩
theorem Pw(h:bt G w X v u)(a: ∀b,W b->X b):bt (G.put k (aa (q,g+1))) w W (sP k v) u:=by
 unfold sP;cases c:v.ok (mn k) with
 |false=>exact .dp _
 |true=>exact h.under a (λid hid=>eS _ _ _ _ (yf hid)) c
theorem Of{y:E}(h:cY G w X n x)(e: ∀b,W b->X b)(i:n≠k)(a:IX k x=aa y):cY (G.put k (aa (q,g+1))) w W n y:=by
 unfold IX at a;split at a
 ·rename_i cs;cases c:gL (mn k) cs with
  |false=>rw[c] at a;cases a
  |true=>rw[c] at a;cases a;exact h.under e (λn hid=>eS _ _ _ _ (yf hid)) (CV i) c
 ·rename_i l;cases c:vp (mn k) l with
  |false=>rw[c] at a;cases a
  |true=>rw[c] at a;cases a;exact h.under e (λn hid=>eS _ _ _ _ (yf hid)) (CV i) c
 cases a;refine h.under e (u:=mn k) (λn hid=>eS _ _ _ _ (yf hid)) (CV i) ?_;cases x with
 |cells cs=>rename_i o _;exact bs rfl (o cs)
 |arr=>rfl
 |aN p m gen d l=>rename_i _ o;exact bs rfl (o p m gen d l)
def qT(k:Nat)(H:Nat->Option E):Nat->Option E:=λid=>match H id with
 |some e=>IX k e
 |none=>aj
theorem Rel.Tm{K:Ctx}{s':S}{a:Act}(h:Rel K β s a w)(k g gen:Nat){F:Option Nat}(B:s.H k=aa e)(f:e.gen=aa gen)(G:e.nU=[])(L:k<K.dZ)(Q:K.ic k=aa (F,g))
  (n:s'.u=s.u) (R:s'.H k=aa (e.nf (g+1))) (q:Option Nat) (D:β k=aa (q,gen))
  (I: ∀id x,id≠k->s'.H id=aa x->s.H id≠aj/\ ∀X,(∀b,X b->own K β s.H b)->cY (β.put k (aa (q,g+1))) w X id x)
  (T: ∀i,∀X,(∀b,X b->own K β s.H b)->bt (β.put k (aa (q,g+1))) w X (s'.t i) (a.tmps.getD i undef)):Rel K (β.put k (aa (q,g+1))) s' a w:=by
 have W:1<=gen:=(pA (h.heap k _ B).2 f).1;have o:=(h.heap k _ B).1;have p:1<=g/\ ∀b,q=aa b->F=aa b\/K.w0.heap.size<=b:=by
  rcases h.base k L with M|⟨V,Y,q2,g2,aL,a2,a3,a4,a5⟩
  ·rw[D,Q] at M;cases M;exact⟨W,λb a1=> .inl a1⟩
  rw[Q] at aL;cases aL;rw[D] at a3;cases a3;exact⟨a2,a5⟩
 have c: ∀id b,At (β.put k (aa (q,g+1))) id b->At β id b:=λid b a1=>by
  rcases a1 with ⟨U,a1⟩|a1
  ·by_cases d:id=k
   ·subst d;rw[iG] at a1;cases a1;exact .inl ⟨gen,D⟩
   rw[eS _ _ _ _ d] at a1;exact .inl ⟨U,a1⟩
  exact .inr a1
 have l: ∀b,own K (β.put k (aa (q,g+1))) s'.H b->own K β s.H b:=by
  rintro b (m|⟨id,r,z⟩)
  ·exact .inl m
  refine .inr ⟨id,?_,c id b z⟩;by_cases d:id=k
  ·subst d;rw[B];simp
  cases m:s'.H id with
  |none=>exact bs m r
  |some x=>exact(I id x d m).1
 refine {h with base:= ?_,low:= ?_,dT:= ?_,ev:=λid b hid=>h.ev id b (n▸hid),inj:= ?_,fresh:=λid b a1=>h.fresh id b (c id b a1),heap:= ?_,dB:=λi=>T i _ l}
 ·intro id hid;by_cases d:id=k
  ·subst d;exact .inr ⟨F,g,q,g+1,Q,p.1,cd _ _ _,pt _,p.2⟩
  rw[eS _ _ _ _ d];exact h.base id hid
 ·intro id hid;rw[n];exact h.low id hid
 ·intro id hid;rw[n] at hid;rw[eS _ _ _ _ (by intro e;subst e;rw[o] at hid;cases hid)];exact h.dT id hid
 ·intro id A b r z;exact h.inj id A b (c id b r) (c A b z)
 intro id x m;by_cases d:id=k
 ·subst d;rw[R] at m;cases m;exact⟨by rw[n];exact o,(h.heap id _ B).2.nf O f D (cd _ _ _) (λ_=>Iff.rfl) l λi j v N=>by rw[G] at N;cases N⟩
 obtain⟨r,z⟩:=I id x d m;refine⟨?_,z _ l⟩;rw[n];cases P:s.H id with
 |none=>exact bs P r
 |some y=>exact(h.heap id y P).1
theorem Ow(l:G k=aa (q,gen))(h:bt G w X (.bo k gen i m L) u):bt (G.put k (aa (q,g+1))) w W (.bo k (g+1) i m L) u:=by
 rcases fl h l with ⟨c,b,n,d,rfl,a,o,p,e,r,s⟩|⟨a,rfl,rfl,rfl⟩
 ·subst a;exact .bo k (g+1) i m L c b n d O (cd _ _ _) o p e r s
 subst a;exact .hb k (g+1) i O (cd _ _ _)
theorem F8{K:Ctx}(i k g gen b c d:Nat)(F:dw k K.dZ=ab)(G:s.t i= .bo k gen b c d)(z:s.H k=aa e)(A:e.gen=aa gen)(n:e.nU=[])(o: ∃q,K.ic k=aa (q,g)):
  s.le K {t:=aZ (λj=>sP k (s.t j)) i (.bo k (g+1) b c d),H:=aZ (qT k s.H) k (aa (e.nf (g+1))),u:=s.u}:=by
 intro L a w h;obtain⟨Q,o⟩:=o;obtain⟨_,q,B⟩:=pA (h.heap k _ z).2 A;refine⟨_,h.Tm (s':={t:=aZ (λj=>sP k (s.t j)) i (.bo k (g+1) b c d),H:=aZ (qT k s.H) k (aa (e.nf (g+1))),u:=s.u}) k g gen z A n (by simpa[Nat.blt_eq] using F) o rfl (cd _ _ _) q B ?_ ?_⟩
 ·intro id x m l;have l:aZ (qT k s.H) k (aa (e.nf (g+1))) id=aa x:=l;rw[cg _ _ _ _ m] at l;unfold qT at l;cases p:s.H id with
  |none=>rw[p] at l;cases l
  |some y=>
   rw[p] at l;exact⟨a7,λX r=>Of (h.heap id y p).2 r m l⟩
 intro j X r;show bt _ w X (aZ (λj=>sP k (s.t j)) i (.bo k (g+1) b c d) j) _;by_cases D:j=i
 ·subst D;rw[cd];exact Ow B (G▸h.dB j)
 rw[cg _ _ _ _ D];exact Pw (h.dB j) r
theorem F9{K:Ctx}(b j k g gen c l m:Nat){cs:List V}(cK:dw k K.dZ=ab)(A:s.H b=aa (.cells cs))(B:cs[j]? =aa (.bo k gen c l m))(D:gL (mn k) (cs.set j .dp)=ab)
  (z:s.H k=aa e) (F:e.gen=aa gen) (G:e.nU=[]) (L: ∃q,K.ic k=aa (q,g)):
  s.le K {t:=λj=>sP k (s.t j),H:=aZ (aZ (qT k s.H) k (aa (e.nf (g+1)))) b (aa (.cells (cs.set j (.bo k (g+1) c l m)))),u:=s.u}:=by
 intro Q a w h;obtain⟨tQ,L⟩:=L;obtain⟨_,q,I⟩:=pA (h.heap k _ z).2 F;have n:b≠k:=by intro e';subst e';rw[A] at z;cases z;cases F
 refine⟨_,h.Tm (s':={t:=λj=>sP k (s.t j),H:=aZ (aZ (qT k s.H) k (aa (e.nf (g+1)))) b (aa (.cells (cs.set j (.bo k (g+1) c l m)))),u:=s.u}) k g gen z F G (by simpa[Nat.blt_eq] using cK) L rfl (by show aZ _ b _ k=_;rw[cg _ _ _ _ (Ne.symm n),cd]) q I ?_ ?_⟩
 ·intro id x o d;have d:aZ (aZ (qT k s.H) k (aa (e.nf (g+1)))) b (aa (.cells (cs.set j (.bo k (g+1) c l m)))) id=aa x:=d;by_cases p:id=b
  ·subst p;rw[cd] at d;cases d;refine⟨by rw[A];simp,λX r=>?_⟩;have M:=(h.heap id _ A).2;have h6:cY Q w (own K Q s.H) id (.cells (cs.set j .dp)):=M.set B λu _=> .dp u;have mR:=h6.under (u:=mn k) (β':=Q.put k (aa (q,g+1))) r (λid hid=>eS _ _ _ _ (yf hid)) (CV n) D;obtain⟨hr,us,ty,N,P,g3,g4⟩:=mR;obtain⟨cB,rV,akI,T,U,f3,f4⟩:=M;rw[eS _ _ _ _ n,T] at N;cases N;rw[U] at P;cases P;refine⟨_,_,_,by rw[eS _ _ _ _ n];exact T,U,by simpa using f3,λi v u R hu=>?_⟩;by_cases Y:i=j
   ·subst Y;have W:=(b5.1 B).1;rw[iQ W] at R;cases R;exact Ow I (f4 i _ u B hu)
   rw[mw (Ne.symm Y)] at R
   grind
  rw[cg _ _ _ _ p,cg _ _ _ _ o] at d;unfold qT at d;cases f:s.H id with
  |none=>rw[f] at d;cases d
  |some y=>
   rw[f] at d;exact⟨a7,λX r=>Of (h.heap id y f).2 r o d⟩
 intro j X r;exact Pw (h.dB j) r
inductive kP (p:V->V->Prop):V->V->Prop
 |same (v:V):kP p v v
 |put {v dC:V} (h:p v dC):kP p v dC
 |agg {cs s4:List V} (cC:s4.length=cs.length) (h: ∀(i:Nat) c oR,cs[i]? =aa c->s4[i]? =aa oR->kP p c oR):kP p (.agg cs) (.agg s4)
theorem kP.zQ{U:Map}{a:World}(d: ∀v u,bt U w X v u->bt G a W v u)(e: ∀v x u,p v x->bt U w X v u->bt G a W x u){x:V}(h:kP p v x): ∀u,bt U w X v u->bt G a W x u:=by
 induction h with
 |same v=>exact d v
 |put h=>exact λu=>e _ _ u h
 |agg k h l=>
  intro u c;cases c with
  |agg _ m n o=>
   refine .agg _ m O λi q u b c=>?_;have aJ:=(b5.1 b).1;have bS:=bu (show i<_ by rw[<-k];exact aJ);exact l i _ q bS b u (o i _ u bS c)
def xE(p:V->V->Prop)(e b:E):Prop:=b=e\/ ∃cs a,e= .cells cs/\b= .cells a/\a.length=cs.length/\ ∀(i:Nat) c d,cs[i]? =aa c->a[i]? =aa d->kP p c d
theorem xE.zP{U:Map}(c: ∀x,U n=aa x->G n=aa x)(l: ∀e,cY U w X n e->cY G w W n e)(m: ∀v u,bt U w X v u->bt G w W v u)(o: ∀v d u,p v d->bt U w X v u->bt G w W d u){e':E}(h:xE p e e')(k:cY U w X n e):cY G w W n e':=by
 rcases h with rfl|⟨cs,q,rfl,rfl,r,h⟩
 ·exact l _ k
 obtain⟨b,s,ty,y,z,F,A⟩:=k;refine⟨b,s,ty,c _ y,z,O,λi B u a D=>?_⟩;have aJ:=(b5.1 a).1;have bS:=bu (show i<_ by rw[<-r];exact aJ);exact kP.zQ m o (h i _ B bS a) u (A i _ u bS D)
theorem YO{K:Ctx}(X:Nat->V)(o:Nat->Option E)(k gen d:Nat){e:TypeId}{c:List (List T)}(D:dD K.dZ k=ab)(I:s.H k=aa (.arr e gen d c))
  (M: ∀i,kP (λv p=>v= .bo k gen d 0 c.length/\p= .t (.bE c)) (s.t i) (X i)) (N:o k=aj)
  (f: ∀id q,o id=aa q-> ∃r,s.H id=aa r/\xE (λv p=>v= .bo k gen d 0 c.length/\p= .t (.bE c)) r q):s.le K {t:=X,H:=o,u:=s.u}:=by
 intro l a w h;have P:=fg D;have m: ∀n,own K l o n->own K l s.H n:=by
  rintro n (F|⟨id,A,x⟩)
  ·exact .inl F
  cases B:o id with
  |none=>exact bs B A
  |some q=>obtain⟨r,G,_⟩:=f id q B;exact .inr ⟨id,by rw[G];simp,x⟩
 have y: ∀n,At l k n-> ¬own K l o n:=by
  rintro n z (F|⟨id,A,x⟩)
  ·obtain⟨hl,U⟩:=h.jK n F;rcases(h.fresh k n z).1 with L|Y
   ·exact U L
   omega
  have:=h.inj _ _ _ x z
  grind
 have Q:=(h.heap k _ I).2;have g: ∀v u,bt l w (own K l s.H) v u->bt l w (own K l o) v u:=λv u R=>R.mono (Ext.refl _ _) (λb _=>m b) (dX.refl _) (Shaped.refl _ _);have j: ∀v p u,(v= .bo k gen d 0 c.length/\p= .t (.bE c))->bt l w (own K l s.H) v u->bt l w (own K l o) p u:=by
  rintro v p u ⟨rfl,rfl⟩ R;exact .t _ _ (Q.read R m y)
 refine⟨l,{h with heap:= ?_,dB:= ?_}⟩
 ·intro id q W;obtain⟨r,A,x⟩:=f id q W;obtain⟨G,h4⟩:=h.heap id r A;exact⟨G,x.zP (λ_ h=>h) (λe B=>B.mono (Ext.refl _ _) (λb _=>m b) (dX.refl _) (λ_ h=>h) (Shaped.refl _ _) λ_ _=>rfl) g j h4⟩
 intro i;exact kP.zQ g j (M i) _ (h.dB i)
theorem ZE{K:Ctx}(mu:Nat->V)(z:Nat->Option E)(k cE gen l W:Nat){B:E}(Y:dD K.dZ k=ab)(X:k≠cE)(P:s.H k=aa B)(bV:B.gen=aa gen)(hu:s.u cE=ak)
  (fB: ∀i,kP (λv G=>v= .bo k gen l 0 W/\G= .bo cE 1 l 0 W) (s.t i) (mu i)) (ahT:z k=aj) (f:z cE=aa B.En)
  (hH: ∀id e',id≠cE->z id=aa e'-> ∃B,s.H id=aa B/\xE (λv G=>v= .bo k gen l 0 W/\G= .bo cE 1 l 0 W) B e'):
  s.le K {t:=mu,H:=z,u:=aZ s.u cE ab}:=by
 intro A a w h;have nT:=fg Y;obtain⟨jc,q,hq⟩:=pA (h.heap k _ P).2 bV;have Ke:=(h.heap k _ P).1;have cO:=h.dT cE hu;have alh:K.dZ<=cE:=by
  apply Nat.le_of_not_lt;intro hlt;rw[h.low cE hlt] at hu;cases hu
 let d:=A.move k cE gen q;have dd:d cE=aa (q,1):=OY _ _ _ _ _;have cB:d k=aa (aj,gen+1):=Pk _ _ _ _ _ X;have T: ∀id,id≠k->id≠cE->d id=A id:=λid m r=>M4 _ _ _ _ _ _ m r;have o: ∀id b,At d id b->(id=cE/\At A k b)\/(id≠k/\id≠cE/\At A id b):=by
  intro id b L;exact afX X hq L
 have I:dX A d:=by
  intro id q2 g D
  grind
 have y: ∀b,own K d z b->own K A s.H b:=by
  rintro b (D|⟨id,m,r⟩)
  ·exact .inl D
  rcases o id b r with ⟨rfl,p⟩|⟨p,M,F⟩
  ·exact .inr ⟨k,by rw[P];simp,p⟩
  cases U:z id with
  |none=>exact bs U m
  |some e'=>obtain⟨B,Q,_⟩:=hH id e' M U;exact .inr ⟨id,by rw[Q];simp,F⟩
 have hm: ∀v u,bt A w (own K A s.H) v u->bt d w (own K d z) v u:=λv u bZ=>bZ.mono (Ext.refl _ _) (λb _=>y b) I (Shaped.refl _ _);have hp: ∀v G u,(v= .bo k gen l 0 W/\G= .bo cE 1 l 0 W)->bt A w (own K A s.H) v u->bt d w (own K d z) G u:=by
  rintro v G u ⟨rfl,rfl⟩ bZ;rcases fl bZ hq with ⟨cap,b,n,jn,rfl,R,hw,hs,tp,cC,DG⟩|⟨R,m,r,rfl⟩
  ·subst R;exact .bo cE 1 l 0 _ cap b n jn (da _) dd hw hs tp cC DG
  subst R;rw[r];exact .hb cE 1 l (da _) dd
 refine⟨d,{h with base:= ?_,low:= ?_,dT:= ?_,ev:= ?_,inj:= ?_,fresh:= ?_,heap:= ?_,dB:= ?_}⟩
 ·exact h.base.keep λid hid=>T id O O
 ·intro id hid;show aZ s.u cE ab id=ab;rw[cg _ _ _ _ O];exact h.low id hid
 ·intro id hid;have c:aZ s.u cE ab id=ak:=hid;by_cases m:id=cE
  ·subst m;rw[cd] at c;cases c
  rw[cg _ _ _ _ m] at c;rw[T id (by intro e;subst e;rw[Ke] at c;cases c) m];exact h.dT id c
 ·intro id b hid L;have c:aZ s.u cE ab id=ak:=hid;rcases L with ⟨m,_⟩|⟨m,_,L⟩
  ·subst m;rw[cd] at c;cases c
  rw[cg _ _ _ _ m] at c;exact h.ev id b c L
 ·intro id lD b m r;rcases o id b m with ⟨rfl,p⟩|⟨p,M,F⟩<;>rcases o lD b r with ⟨e2,Q⟩|⟨Q,mR,nP⟩
  ·exact e2.symm
  ·exact bs (h.inj _ _ b nP p) Q
  ·subst e2;exact bs (h.inj _ _ b F Q) p
  exact h.inj _ _ b F nP
 ·intro id b L;rcases o id b L with ⟨rfl,p⟩|⟨p,M,F⟩
  ·refine⟨?_,(h.fresh _ _ p).2⟩;exact(h.fresh _ _ p).1
  exact h.fresh id b F
 ·intro id e' D;have N:z id=aa e':=D;clear D;show aZ s.u cE ab id=ab/\cY d w (own K d z) id e';by_cases m:id=cE
  ·subst m;rw[f] at N;cases N;exact⟨cd _ _ _,(h.heap k _ P).2.nf (da _) bV hq dd (λb=>by simp[d,Map.move]) y λ_ _ v _ u=>hm v u⟩
  have r:id≠k:=by intro e;subst e;rw[ahT] at N;cases N
  obtain⟨B,F,Q⟩:=hH id e' m N;obtain⟨p,M⟩:=h.heap id B F;rw[cg _ _ _ _ m];refine⟨p,Q.zP (λx D=>by rw[T id r m];exact D) (λe U=>U.mono (Ext.refl _ _) (λb _=>y b) I (λx D=>by rw[T id r m];exact D) (Shaped.refl _ _) (λ_ _=>rfl) λb=>agx _ _ _ _ _ _ _ r m) hm hp M⟩
 intro j;exact kP.zQ hm hp (fB j) _ (h.dB j)
mutual
def qh(k g z n:Nat)(b:V):V->V×List dN
 | .bo d gen a c len=>match cc d k&&cc c 0 with
  |true=>(b,[.q gen g,.q a z,.q len n])
  |false=>(.bo d gen a c len,[])
 | .agg cs=>(.agg (nd k g z n b cs).1,(nd k g z n b cs).2)
 |v=>(v,[])
def nd(k g z n:Nat)(a:V):List V->List V×List dN
 | []=>([],[])
 |c::cs=>((qh k g z n a c).1::(nd k g z n a cs).1,(qh k g z n a c).2++(nd k g z n a cs).2)
end
theorem Gw(k g z n:Nat)(a:V): ∀cs,(nd k g z n a cs).1.length=cs.length
 | []=>rfl
 |c::cs=>by simp[nd,Gw k g z n a cs]
mutual
theorem QS(k g z n:Nat)(c:V): ∀v,cI (qh k g z n c v).2->kP (λa b=>a= .bo k g z 0 n/\b=c) v (qh k g z n c v).1
 | .bo l gen i e len,h=>by
  unfold qh at h⊢;cases d:cc l k&&cc e 0 with
  |false=>exact .same _
  |true=>
   simp only[d] at h⊢;simp only[cx] at d;obtain⟨rfl,rfl,rfl,_⟩:=h;have m:=m0 d.1;have o:=m0 d.2;subst m;subst o;exact .put ⟨rfl,rfl⟩
 | .agg cs,h=>by
  simp only[qh] at h⊢;exact .agg (Gw _ _ _ _ _ _) (Ir k g z n c cs h)
 | .t _,_| .bX _,_| .ref _ _,_| .aS _,_| .cR _ _ _ _ _,_| .fn _ _,_| .dp,_=>by simp only[qh];exact .same _
theorem Ir(k g z n:Nat)(d:V): ∀cs,cI (nd k g z n d cs).2-> ∀(i:Nat) c l,cs[i]? =aa c->(nd k g z n d cs).1[i]? =aa l->kP (λa b=>a= .bo k g z 0 n/\b=d) c l
 | [],_,i,c,l,h,_=>by simp at h
 |o::cs,m,0,c,l,h,e=>by
  simp only[nd] at m e;simp at h e;subst h;subst e;exact QS k g z n d o (cI.app m).1
 |o::cs,m,i+1,c,l,h,e=>by simp only[nd] at m e;simp at h e;exact Ir k g z n d cs (cI.app m).2 i c l h e
end
def iN(k g z n:Nat)(a:V)(s:S):List Nat->List (Nat×V)×List dN
 | []=>([],[])
 |i::is=>((i,(qh k g z n a (s.t i)).1)::(iN k g z n a s is).1,(qh k g z n a (s.t i)).2++(iN k g z n a s is).2)
def gN(k g z n:Nat)(a:V)(s:S):List Nat->List (Nat×Option E)×List dN
 | []=>([],[])
 |b::c=>match s.H b with
  |some (.cells cs)=>((b,aa (.cells (nd k g z n a cs).1))::(gN k g z n a s c).1,(nd k g z n a cs).2++(gN k g z n a s c).2)
  |_=>gN k g z n a s c
theorem Iq{k g z n:Nat}{x:V}{s:S}: ∀{is:List Nat},cI (iN k g z n x s is).2-> ∀i v,(i,v)∈(iN k g z n x s is).1->kP (λa b=>a= .bo k g z 0 n/\b=x) (s.t i) v
 |i0::is,c,i,v,h=>by
  simp only[iN] at c h;rcases d'.1 h with h|h
  ·cases h;exact QS _ _ _ _ _ _ (cI.app c).1
  exact Iq (cI.app c).2 i v h
theorem CR{k g z n:Nat}{x:V}{s:S}: ∀{i:List Nat},cI (gN k g z n x s i).2-> ∀b e,(b,e)∈(gN k g z n x s i).1-> ∃m o,s.H b=aa m/\e=aa o/\xE (λa b=>a= .bo k g z 0 n/\b=x) m o
 |p::i,c,b,e,h=>by
  unfold gN at c h;split at h
  ·rename_i cs d;simp only[d] at c;rcases d'.1 h with h|h
   ·cases h;exact⟨_,_,d,rfl,.inr ⟨cs,_,rfl,rfl,Gw _ _ _ _ _ _,Ir _ _ _ _ _ _ (cI.app c).1⟩⟩
   exact CR (cI.app c).2 b e h
  rename_i d;split at c
  ·rename_i cs l;exact bs l (d cs)
  exact CR c b e h
theorem P7{k:Nat}: ∀{l:List Nat},k∈l->iT k l=ab
 |x::l,h=>by
  simp only[iT];rcases d'.1 h with rfl|h
  ·simp
  cases cc x k with
  |true=>rfl
  |false=>exact P7 h
theorem xU(h:(!iT k l)=ab):k∉l:=λa=>by rw[P7 a] at h;cases h
theorem QA{cE:Nat}(h:(!Nat.beq k cE)=ab):k≠cE:=λe=>by subst e;simp at h
theorem xS{k g z n:Nat}{x:V}{s:S}: ∀{a:List Nat} {b:Nat} {e:Option E},(b,e)∈(gN k g z n x s a).1->b∈a
 |c::a,b,e,h=>by
  unfold gN at h;split at h
  ·rcases d'.1 h with h|h
   ·cases h;exact ff
   exact eZ _ (xS h)
  exact eZ _ (xS h)
theorem VK{K:Ctx}{e:TypeId}{a:List (List T)}{L:List Nat}(d:dD K.dZ k=ab)(l:s.H k=aa (.arr e gen n a))(m:k∉r)
  (o:cI (iN k gen n a.length (.t (.bE a)) s L).2) (p:cI (gN k gen n a.length (.t (.bE a)) s r).2):
  s.le K ((⟨(iN k gen n a.length (.t (.bE a)) s L).1,(k,aj)::(gN k gen n a.length (.t (.bE a)) s r).1,[]⟩:df).app s):=by
 refine YO _ _ k gen n d l (λi=>?_) ?_ λid e' b=>?_
 ·rcases nW (iN k gen n a.length (.t (.bE a)) s L).1 s.t i with ⟨_,c⟩|⟨v,h,c⟩
  ·rw[c];exact .same _
  rw[c];exact Iq o i v h
 ·show dA (aZ s.H k aj) _ k=aj;rw[mW _ _ _ λv q=>m (xS q),cd]
 have b:dA (aZ s.H k aj) (gN k gen n a.length (.t (.bE a)) s r).1 id=aa e':=b;rcases nW (gN k gen n a.length (.t (.bE a)) s r).1 (aZ s.H k aj) id with ⟨_,c⟩|⟨v,h,c⟩
 ·rw[c] at b;by_cases hid:id=k
  ·subst hid;rw[cd] at b;cases b
  rw[cg _ _ _ _ hid] at b;exact⟨e',b,.inl rfl⟩
 rw[c] at b;subst b;obtain⟨w,x,y,z,A⟩:=CR p id _ h
 grind
theorem Rz{K:Ctx}{T:E}(e:dD K.dZ k=ab)(c:k≠m)(q:s.H k=aa T)(w:T.gen=aa gen)(x:s.u m=ak)(y:k∉r)(h:m∉r)
  (z:cI (iN k gen n L (.bo m 1 n 0 L) s l).2) (A:cI (gN k gen n L (.bo m 1 n 0 L) s r).2):
  s.le K ((⟨(iN k gen n L (.bo m 1 n 0 L) s l).1,(k,aj)::(m,aa T.En)::(gN k gen n L (.bo m 1 n 0 L) s r).1,[(m,ab)]⟩:df).app s):=by
 refine ZE _ _ k m gen n L e c q w x (λi=>?_) ?_ ?_ λid e' d a=>?_
 ·rcases nW (iN k gen n L (.bo m 1 n 0 L) s l).1 s.t i with ⟨_,b⟩|⟨v,o,b⟩
  ·rw[b];exact .same _
  rw[b];exact Iq z i v o
 ·show dA (aZ (aZ s.H k aj) m _) _ k=aj;rw[mW _ _ _ λv p=>y (xS p),cg _ _ _ _ c,cd]
 ·show dA (aZ (aZ s.H k aj) m _) _ m=_;rw[mW _ _ _ λv p=>h (xS p),cd]
 have a:dA (aZ (aZ s.H k aj) m (aa T.En)) (gN k gen n L (.bo m 1 n 0 L) s r).1 id=aa e':=a;rcases nW (gN k gen n L (.bo m 1 n 0 L) s r).1 (aZ (aZ s.H k aj) m (aa T.En)) id with ⟨_,b⟩|⟨v,o,b⟩
 ·rw[b,cg _ _ _ _ d] at a;by_cases hid:id=k
  ·subst hid;rw[cd] at a;cases a
  rw[cg _ _ _ _ hid] at a;exact⟨e',a,.inl rfl⟩
 rw[b] at a;subst a;obtain⟨T,B,D,F,G⟩:=CR A id _ o
 grind
theorem YM{K:Ctx}(B:Nat->V)(k:Nat){F:List T}(G:dD K.dZ k=ab)(W:s.H k=aa (.cells (F.map .t)))
  (X: ∀i,B i=s.t i\/ ∃c,s.t i= .ref k c/\B i= .aS (F.drop c)):s.le K {t:=B,H:=aZ s.H k aj,u:=s.u}:=by
 intro q a w h;have f:=fg G;obtain⟨b,p,ty,D,g,Q,v⟩:=(h.heap k _ W).2;have m: ∀L,own K q (aZ s.H k aj) L->own K q s.H L:=by
  rintro L (r|⟨id,n,o⟩)
  ·exact .inl r
  by_cases hid:id=k
  ·subst hid;rw[cd] at n;exact bs rfl n
  rw[cg _ _ _ _ hid] at n;exact .inr ⟨id,n,o⟩
 have y: ¬own K q (aZ s.H k aj) b:=by
  rintro(r|⟨id,n,o⟩)
  ·obtain⟨hl,E⟩:=h.jK b r;rcases(h.fresh k b (.inl ⟨_,D⟩)).1 with d|I
   ·exact E d
   omega
  have:=h.inj _ _ _ o (.inl ⟨_,D⟩);subst this;rw[cd] at n;exact n rfl
 refine⟨q,{h with heap:= ?_,dB:= ?_}⟩
 ·intro id e' l;have l:aZ s.H k aj id=aa e':=l;by_cases hid:id=k
  ·subst hid;rw[cd] at l;cases l
  rw[cg _ _ _ _ hid] at l;obtain⟨n,o⟩:=h.heap id e' l;exact⟨n,o.mono (Ext.refl _ _) (λb _=>m b) (dX.refl _) (λ_ h=>h) (Shaped.refl _ _) λ_ _=>rfl⟩
 intro j;show bt q w _ (B j) _;rcases X j with M|⟨c,n,o⟩
 ·rw[M];exact(h.dB j).mono (Ext.refl _ _) (λb _=>m b) (dX.refl _) (Shaped.refl _ _)
 rw[o];have R:=h.dB j;rw[n] at R;obtain⟨cB,z,N⟩:=sp R;rw[D] at z;cases z;rw[N];have a1:=(h.fresh k b (.inl ⟨_,D⟩)).2;refine .aS _ b c (λi=>p.getD (c+i) undef) a1 y (λi P=>?_) λi x r=>?_
 ·have d:c+i<p.size:=by simp at P Q;omega
  simp[World.cell?,g,d]
 have A:F[c+i]? =aa x:=by simpa using r
 have d:c+i<p.size:=by have:=(b5.1 A).1;simp at Q;omega
 have U:=v (c+i) (.t x) p[c+i] (by simp[A]) (by simp[d]);have e:p.getD (c+i) undef=p[c+i]:=by simp[d]
 rw[e];cases U with
 |t _ _ Y=>exact Y.mono (Ext.refl _ _) λb _=>m b
def Dw(k:Nat)(b:List T)(s:S):List Nat->Option (List (Nat×V))
 | []=>aa []
 |i::is=>match s.t i with
  | .ref c a=>match cc c k,Dw k b s is with
   |true,aa l=>aa ((i,.aS (b.drop a))::l)
   |_,_=>aj
  |_=>aj
theorem QM{k:Nat}{a:List T}{s:S}: ∀{is:List Nat} {l:List (Nat×V)},Dw k a s is=aa l-> ∀i v,(i,v)∈l-> ∃b,s.t i= .ref k b/\v= .aS (a.drop b)
 | [],l,h,i,v,hm=>by cases h;cases hm
 |i0::is,l,h,i,v,hm=>by
  unfold Dw at h;split at h
  ·rename_i n b c;split at h
   ·rename_i o d e;cases h;have m:=m0 d;subst m;rcases d'.1 hm with hm|hm
    ·cases hm;exact⟨b,c,rfl⟩
    exact QM e i v hm
   cases h
  cases h
def Dm{a:Type}:List a->Bool
 | []=>ab
 |_::_=>ak
theorem Ii{a:Type}{l:List a}(h:Dm l=ab):l=[]:=by
 cases l with
 |nil=>rfl
 |cons=>cases h
def l1(C:eb)(h:cM)(s:S):Option (Option (df×List dN)):=
 match h with
 | .grow i k e=>match s.t i,s.u k,dG C.cD e with
  | .t .fp,ak,aa j=>aa (aa (⟨[(i,.bo k 1 j.size 0 0)],[(k,aa (.arr e 1 j.size []))],[(k,ab)]⟩,[]))
  |_,_,_=>aa aj
 | .len i n=>match s.t i with
  | .bo k gen c F len=>aa (aa (⟨[(i,.bo k gen c F n)],[],[]⟩,[.p (len=n)]))
  |_=>aa aj
 | .tc k is=>match s.H k with
  |some (.cells v)=>match lX v,dD C.dZ k with
   |some cs,ab=>match Dw k cs s is with
    |some l=>aa (aa (⟨l,[(k,aj)],[]⟩,[]))
    |none=>aa aj
   |_,_=>aa aj
  |_=>aa aj
 | .bN k is D=>match s.H k with
  |some (.arr _ gen c a)=>match dD C.dZ k&& !iT k D with
   |true=>aa (aa (⟨(iN k gen c a.length (.t (.bE a)) s is).1,(k,aj)::(gN k gen c a.length (.t (.bE a)) s D).1,[]⟩,(iN k gen c a.length (.t (.bE a)) s is).2++(gN k gen c a.length (.t (.bE a)) s D).2))
   |false=>aa aj
  |_=>aa aj
 | .cL k r is D=>match s.H k,s.u r with
  |some (.arr e gen c a),ak=>match dD C.dZ k&&(!Nat.beq k r&&(!iT k D&& !iT r D)) with
   |true=>aa (aa (⟨(iN k gen c a.length (.bo r 1 c 0 a.length) s is).1,(k,aj)::(r,aa (.arr e 1 c a))::(gN k gen c a.length (.bo r 1 c 0 a.length) s D).1,[(r,ab)]⟩,
     (iN k gen c a.length (.bo r 1 c 0 a.length) s is).2++(gN k gen c a.length (.bo r 1 c 0 a.length) s D).2))
   |false=>aa aj
  |some (.aN d m gen a []),ak=>match dD C.dZ k&&(!Nat.beq k r&&(!iT k D&& !iT r D)) with
   |true=>aa (aa (⟨(iN k gen (aR d m).size a.length (.bo r 1 (aR d m).size 0 a.length) s is).1,(k,aj)::(r,aa (.aN d m 1 a []))::(gN k gen (aR d m).size a.length (.bo r 1 (aR d m).size 0 a.length) s D).1,[(r,ab)]⟩,
     (iN k gen (aR d m).size a.length (.bo r 1 (aR d m).size 0 a.length) s is).2++(gN k gen (aR d m).size a.length (.bo r 1 (aR d m).size 0 a.length) s D).2))
   |false=>aa aj
  |_,_=>aa aj
 | .e6 b j n=>match s.H b with
  |some (.cells cs)=>match cs[j]? with
   |some (.bo k gen c F len)=>aa (aa (⟨[],[(b,aa (.cells (cs.set j (.bo k gen c F n))))],[]⟩,[.p (len=n)]))
   |_=>aa aj
  |_=>aa aj
 | .Dx b _ k=>match s.H b,s.H k with
  |some (.aN d m E L ((I,M,.bo r gen c F len)::B)),aa (.arr _ W Q a)=>match cc r k&&(cc F 0&&(dD C.dZ k&& !Nat.beq b k)) with
   |true=>aa (aa (⟨[],[(k,aj),(b,aa (.aN d m E L ((I,M,.t (.bE a))::B)))],[]⟩,[.q gen W,.q c Q,.q len a.length]))
   |false=>aa aj
  |_,_=>aa aj
 | .eC b j k e=>match s.H b,s.u k,dG C.cD e with
  |some (.cells cs),ak,aa i=>match cs[j]? with
   |some (.t .fp)=>aa (aa (⟨[],[(k,aa (.arr e 1 i.size [])),(b,aa (.cells (cs.set j (.bo k 1 i.size 0 0))))],[(k,ab)]⟩,[]))
   |_=>aa aj
  |_,_,_=>aa aj
 | .dq k d m=>match s.H k with
  |some (.arr ty gen c a)=>match Dm (aR d m).bm||Dm a with
   |true=>aa (aa (⟨[],[(k,aa (.aN d m gen a []))],[]⟩,[.q (aR d m).ty ty,.q (aR d m).size c]))
   |false=>aa aj
  |some (.aN G f gen a B)=>match dD C.dZ k&&Dm (aR d m).bm with
   |true=>aa (aa (⟨[],[(k,aa (.aN d m gen a B))],[]⟩,[.q (aR d m).ty (aR G f).ty,.q (aR d m).size (aR G f).size]))
   |false=>aa aj
  |_=>aa aj
 | .en k=>match s.H k with
  |some (.aN d m gen a [])=>match dD C.dZ k with
   |true=>aa (aa (⟨[],[(k,aa (.arr (aR d m).ty gen (aR d m).size a))],[]⟩,[]))
   |false=>aa aj
  |_=>aa aj
 | .dt k r i j w=>match s.H k,s.u r with
  |some (.aN d m gen a B),ak=>match (aR d m).ej j,w[j]? with
   |some X,aa (.bE A)=>aa (aa (⟨[],[(k,aa (.aN d m gen a ((i,j,.bo r 1 (aR d X).size 0 A.length)::B))),(r,aa (.aN d X 1 A []))],[(r,ab)]⟩,.p (a[i]? =aa w)::sX i j B))
   |_,_=>aa aj
  |_,_=>aa aj
 | .gY k i j w=>match s.H k with
  |some (.aN d m gen a B)=>match (aR d m).ej j,w[j]?,sc j B with
   |none,aa x,ab=>aa (aa (⟨[],[(k,aa (.aN d m gen a ((i,j,.t x)::B)))],[]⟩,[.p (a[i]? =aa w)]))
   |_,_,_=>aa aj
  |_=>aa aj
 | .gB k w R=>match s.H k with
  |some (.aN d m gen a ((i,j,.t x)::B))=>match (aR d m).ej j,dw j (aR d m).size&&sc j B with
   |none,ab=>aa (aa (⟨[],[(k,aa (.aN d m gen R B))],[]⟩,[.p (a[i]? =aa w),.p (a.set i (w.set j x)=R)]))
   |some _,ab=>match x with
    | .fp=>aa (aa (⟨[],[(k,aa (.aN d m gen R B))],[]⟩,[.p (a[i]? =aa w),.p (a.set i (w.set j (.bE []))=R)]))
    |_=>aa aj
   |_,_=>aa aj
  |_=>aa aj
 | .R5 i j k e=>match s.t i,s.u k,dG C.cD e with
  | .agg cs,ak,aa y=>match cs[j]? with
   |some (.t .fp)=>aa (aa (⟨[(i,.agg (cs.set j (.bo k 1 y.size 0 0)))],[(k,aa (.arr e 1 y.size []))],[(k,ab)]⟩,[]))
   |_=>aa aj
  |_,_,_=>aa aj
 | .cP k r w R=>match s.H k,s.H r with
  |some (.aN d m gen a ((i,j,.bo cS g z o n)::B)),aa (.aN G X N A [])=>match (aR d m).ej j,cc cS r&&(!Nat.beq k r&&(dD C.dZ r&&(cc o 0&&dw j (aR d m).size))) with
   |some P,ab=>aa (aa (⟨[],[(r,aj),(k,aa (.aN d m gen R B))],[]⟩,.q g N:: .q z (aR d X).size:: .p (n=A.length):: .q P X:: .p (G=d):: .p (a[i]? =aa w):: .p (a.set i (w.set j (.bE A))=R)::sX i j B))
   |_,_=>aa aj
  |_,_=>aa aj
 | .cut k n R=>match s.H k with
  |some (.arr e gen c a)=>aa (aa (⟨[],[(k,aa (.arr e gen c R))],[]⟩,[.p (R=a.take n)]))
  |_=>aa aj
 |_=>aj
def qS(C:eb)(a:Nat):List cM->S->Option (df×List dN×List cM)
 | [],_=>aa (.nil,[],[])
 | .at m::b,s=>match cc m a with
  |true=>qS C a b s
  |false=>aa (.nil,[],.at m::b)
 |h::b,s=>match l1 C h s with
  |none=>aa (.nil,[],h::b)
  |some aj=>aj
  |some (aa (e,i))=>match qS C a b (e.app s) with
   |some (k,c,d)=>aa (e.cat k,i++c,d)
   |none=>aj
section
variable {K:Ctx}{C:eb}
theorem aef{K:Ctx}(k n:Nat){e:TypeId}{c:List (List T)}(q:s.H k=aa (.arr e gen m c)):s.le K {s with H:=aZ s.H k (aa (.arr e gen m (c.take n)))}:=by
 intro r a w h;refine⟨r,h.Tl k q λX d=>⟨d.1,?_⟩⟩;rcases d.2 with ⟨o,p⟩|⟨b,y,o,p,z,A,D⟩
 ·exact .inl ⟨o,by rw[p];simp⟩
 refine .inr ⟨b,y,o,p,eR (dU _ (List.length_take_le' _ _)) z,λl B=>A l (gP B),λi j l x u aL a2 a3=>?_⟩
 grind
theorem Ig(y:C.Fits K){h:cM}{e:df}{m:List dN}(b:l1 C h s=aa (aa (e,m)))(i:cI m):s.le K (e.app s):=by
 unfold l1 at b;split at b
 ·split at b
  ·rename_i z n o;cases b;exact aeg _ _ _ n z
  cases b
 ·split at b
  ·rename_i z;cases b;obtain⟨rfl,_⟩:=i;intro G a w H;refine⟨G,?_⟩;unfold df.app;simp only[dA];rw[<-z,OJ];exact H
  cases b
 ·split at b
  ·rename_i N k;split at b
   ·rename_i cs L d;split at b
    ·rename_i l W;cases b;have r:=k;rw[pe L] at r;refine YM _ _ (by rw[<-y.dZ];exact d) r λj=>?_;rcases nW l s.t j with ⟨_,p⟩|⟨v,q,p⟩
     ·exact .inl p
     obtain⟨Q,X,f⟩:=QM W j v q;exact .inr ⟨Q,X,by rw[<-f];exact p⟩
    cases b
   cases b
  cases b
 ·split at b
  ·rename_i k;split at b
   ·rename_i d;cases b;simp only[cx] at d;obtain⟨A,B⟩:=cI.app i;exact VK (by rw[<-y.dZ];exact d.1) k (xU d.2) A B
   cases b
  cases b
 ·split at b
  ·rename_i k n;split at b
   ·rename_i d;cases b;simp only[cx] at d;obtain⟨A,B⟩:=cI.app i;exact Rz (by rw[<-y.dZ];exact d.1) (QA d.2.1) k rfl n (xU d.2.2.1) (xU d.2.2.2) A B
   cases b
  ·rename_i k n;split at b
   ·rename_i d;cases b;simp only[cx] at d;obtain⟨A,B⟩:=cI.app i;exact Rz (by rw[<-y.dZ];exact d.1) (QA d.2.1) k rfl n (xU d.2.2.1) (xU d.2.2.2) A B
   cases b
  cases b
 ·split at b
  ·rename_i d;split at b
   ·rename_i o;cases b;obtain⟨rfl,_⟩:=i;intro G a w H;refine⟨G,?_⟩;have F:=b5.1 o;have g: ∀{cs:List V} {j:Nat} {c:V},cs[j]? =aa c->cs.set j c=cs:=by
     intro cs j c h;obtain⟨q,p⟩:=b5.1 h;rw[<-p,List.set_getElem_self]
    unfold df.app;simp only[dA];rw[g o,<-d,OJ];exact H
   cases b
  cases b
 ·split at b
  ·rename_i d k;split at b
   ·rename_i D;cases b;simp only[cx,Bool.not_eq_true'] at D;obtain⟨rfl,rfl,rfl,_⟩:=i;have R:=m0 D.1;have F:=m0 D.2.1;subst R;subst F;exact YN _ _ _ _ _ _ (by rw[<-y.dZ];exact D.2.2.1) (Nat.ne_of_beq_eq_false D.2.2.2) d k
   cases b
  cases b
 ·split at b
  ·rename_i d n z;split at b
   ·rename_i o;cases b;exact ack _ _ _ _ n d o
   cases b
  cases b
 ·split at b
  ·rename_i k;split at b
   ·rename_i d;cases b;obtain⟨q,p,_⟩:=i;refine Om _ _ _ k q p ?_;rcases Bool.or_eq_true_iff.1 d with h|h
    ·exact .inr (Ii h)
    exact .inl (Ii h)
   cases b
  ·rename_i k;split at b
   ·rename_i d;cases b;obtain⟨q,p,_⟩:=i;simp only[cx] at d;exact aci _ _ _ k (by rw[<-y.dZ];exact d.1) q p (Ii d.2)
   cases b
  cases b
 ·split at b
  ·rename_i k;split at b
   ·rename_i d;cases b;exact ach _ k (by rw[<-y.dZ];exact d)
   cases b
  cases b
 ·split at b
  ·rename_i k n;split at b
   ·rename_i x o;cases b;exact abx _ _ _ _ _ k n i.1 o x (x5 i.2)
   cases b
  cases b
 ·split at b
  ·rename_i k;split at b
   ·rename_i x o u;cases b;exact acj _ _ _ k i.1 o x u
   cases b
  cases b
 ·split at b
  ·rename_i k;split at b
   ·rename_i x d;cases b;simp only[cx] at d;obtain⟨q,rfl,_⟩:=i;exact ZV _ _ _ k q d.1 x d.2
   ·rename_i x d;split at b
    ·cases b;simp only[cx] at d;obtain⟨q,rfl,_⟩:=i;exact abu _ _ _ _ k q d.1 x d.2
    cases b
   cases b
  cases b
 ·split at b
  ·rename_i z n P;split at b
   ·rename_i o;cases b;exact acm _ _ _ _ n z o
   cases b
  cases b
 ·split at b
  ·rename_i k r;split at b
   ·rename_i x d;cases b;simp only[cx,Bool.not_eq_true'] at d;obtain⟨rfl,p,E,rfl,rfl,I,rfl,M⟩:=i;have R:=m0 d.1;have F:=m0 d.2.2.2.1;subst R;subst F;exact YL _ _ _ _ _ _ _ _ k r p E (Nat.ne_of_beq_eq_false d.2.1) (by rw[<-y.dZ];exact d.2.2.1) I x d.2.2.2.2 (x5 M)
   cases b
  cases b
 ·split at b
  ·rename_i k;cases b;obtain⟨rfl,_⟩:=i;exact aef _ _ k
  cases b
 cases b
theorem rM(k:C.Fits K){n:Nat}: ∀{l:List cM} {s:S} {e:df} {i:List dN} {b:List cM},qS C n l s=aa (e,i,b)->cI i->s.le K (e.app s)
 | [],s,e,i,b,h,_=>by cases h;exact S.le.refl _ _
 |h::l,s,e,i,b,a,d=>by
  unfold qS at a;split at a
  ·cases a;exact S.le.refl _ _
  ·split at a
   ·rename_i c _ _;cases c;exact rM k a d
   cases a;exact S.le.refl _ _
  rename_i c;cases c;split at a
  ·cases a;exact S.le.refl _ _
  ·cases a
  rename_i y m o;split at a
  ·rename_i z p q r;cases a;obtain⟨w,x⟩:=cI.app d;rw[oW];exact(Ig k o w).trans (rM k r x)
  cases a
def ja(C:eb)(a:Array Oper):List Oper->List cM->S->Option (df×List dN)
 | [],b,s=>match qS C 0 b s with
  |some (e,p,[])=>aa (e,p)
  |_=>aj
 |o::l,b,s=>match qS C (l.length+1) b s with
  |none=>aj
  |some (c,d,h)=>match s9 C a o h (c.app s) with
   |none=>aj
   |some (n,i,k)=>match ja C a l k (n.app (c.app s)) with
    |none=>aj
    |some (q,m)=>aa (c.cat (n.cat q),d++(i++m))
theorem Rc(c:C.Fits K){b:Array Oper}{Q:S->Prop}: ∀{l:List Oper} {k:List cM} {s:S} {e:df} {d:List dN},ja C b l k s=aa (e,d)->cI d->qX K b [] (e.app s) Q->qX K b l s Q
 | [],k,s,e,d,h,a,i=>by
  simp only[ja] at h;split at h
  ·rename_i G n p;cases h;exact MP (rM c p a) i
  cases h
 |o::l,k,s,e,d,h,a,i=>by
  simp only[ja] at h;split at h
  ·cases h
  rename_i H q r w;split at h
  ·cases h
  rename_i L x y z;split at h
  ·cases h
  rename_i R A B;cases h;obtain⟨D,m⟩:=cI.app a;obtain⟨m,F⟩:=cI.app m;rw[oW,oW] at i;exact MP (rM c w D) (agc (Re c z m) (Rc c B F i))
abbrev sk:=Prop×List Nat×List (Nat×Bool)×Bool×List V×List (Option E)
def vw:sk:=(False,[],[],ak,[],[])
def vx:sk:=(True,[],[],ab,[],[])
def vy(s:S)(b:List Nat)(c:List (Nat×V))(a:List (Nat×Option E))(r:df×List dN):sk:=
 (zA r.2,wC r.2,r.1.us,so b r.1.e9&&so (yD a) r.1.hs,u7 (r.1.app s) c,va (r.1.app s) a)
def vz(a:Prop)(b:List (Nat×V))(c:List (Nat×Option E))(d:List (Nat×Bool))(r:df×List dN):sk:=
 (a,wD r.2,d,ab,kT b,kT c)
def mH(x:Option (df×List dN))(n:sk)(f:df×List dN->sk):sk:=match x with
 |some r=>f r
 |none=>n
theorem Rn{x:Option (df×List dN)}{L:List Nat}{a:List (Nat×V)}{P:Prop}(i:P)
  (h:mH x vw (vy s L a b)=mH x vx (vz P a b d)): ∃e c,x=aa (e,c)/\cI c/\(e.app s).le K (s.cl L a b d):=by
 cases x with
 |none=>simp[mH,vw,vx] at h
 |some r=>
  obtain⟨e,c⟩:=r;simp only[mH,vy,vz,Prod.mk.injEq,cx] at h;obtain⟨k,l,m,⟨n,o⟩,p,q⟩:=h;exact⟨e,c,rfl,cI.of (k▸i) l,VR m n o p q⟩
def tmps:List Operand->List Nat
 | []=>[]
 | .tmp t::a=>t::tmps a
 |_::a=>tmps a
def RM(a:Array Oper)(o:Oper):List Nat:=match o.guard with
 |none=>[]
 |some (j,_)=>match (a[j]?).bind (·.dst) with
  |some t=>[t]
  |none=>[]
def C9(o:Oper)(a:List cM):List cM:=match o.guard with
 |none=>a
 |some _=>a.tail
def CK(a:Array Oper)(o:Oper)(b:List cM)(s:S):gU:=⟨RM a o++tmps o.op.operands.toList,v7 o (o.op.operands.toList.map s.get) (C9 o b)⟩
theorem Hr{s a:S}: ∀{b:List Operand},(∀i,i∈tmps b->s.t i=a.t i)->b.map s.get=b.map a.get
 | [],_=>rfl
 | .tmp t::b,h=>by
  simp only[List.map_cons,List.cons.injEq];exact⟨h t ff,Hr λi c=>h i (eZ _ c)⟩
 | .const _::b,h| .global _::b,h| .func _::b,h=>by simp only[List.map_cons,List.cons.injEq];exact⟨rfl,Hr h⟩
theorem aap{H a:Nat->Option E}(h: ∀k,k∈r->H k=a k):vk r H=vk r a:=by
 funext k;unfold vk;cases b:iT k r with
 |true=>exact h k (B3 b)
 |false=>rfl
theorem aan{u a:Nat->Bool}(h: ∀k,k∈r->u k=a k):vj r u=vj r a:=by
 funext k;unfold vj;cases b:iT k r with
 |true=>exact h k (B3 b)
 |false=>rfl
theorem aes{Y:List V}{hs:List cM}(h: ∀k,k∈v7 o Y hs->s.H k=a.H k/\s.u k=a.u k):ra C o Y s hs=ra C o Y a hs:=by unfold ra;rw[aap λk b=>(h k b).1,aan λk b=>(h k b).2]
theorem aen{b:Array Oper}{l:List cM}(h:(CK b o l s).same a s):s9 C b o l a=s9 C b o l s:=by
 obtain⟨n,w⟩:=h;have y:o.op.operands.toList.map a.get=o.op.operands.toList.map s.get:=Hr λi z=>n i (eY.2 (.inr z));have q: ∀c,(∀k,k∈v7 o (o.op.operands.toList.map s.get) c->k∈v7 o (o.op.operands.toList.map s.get) (C9 o l))->ra C o (o.op.operands.toList.map s.get) a c=ra C o (o.op.operands.toList.map s.get) s c:=λc A=>
  aes λk d=>w k (A k d)
 unfold s9;rw[y];cases e:o.guard with
 |none=>exact q l (λk d=>by simp only[C9,e];exact d)
 |some p=>
  obtain⟨j,r⟩:=p;have m:vE b j a=vE b j s:=by
   unfold vE;cases B:(b[j]?).bind (·.dst) with
   |none=>rfl
   |some t=>
    have:=n t (eY.2 (.inl (by unfold RM;rw[e];simp only[B];exact lO.2 rfl)));simp only[this]
  simp only[m];cases l with
  |nil=>rfl
  |cons x l=>
   have:=q l λk d=>by simp only[C9,e,List.tail];exact d
   cases x<;>first|rfl|(dsimp only;rw[this])
def qZ(C:eb)(a:Nat):List cM->S->Option (df×List dN×List cM×gU)
 | .at m::hs,s=>match cc m a with
  |true=>qZ C a hs s
  |false=>aa (.nil,[],.at m::hs,⟨[],[]⟩)
 | .bN k is i::hs,s=>match l1 C (.bN k is i) s with
  |some (aa (e,d))=>match qZ C a hs (e.app s) with
   |some (h,b,c,eI)=>aa (e.cat h,d++b,c,⟨is++eI.e9,k::(i++eI.p')⟩)
   |none=>aj
  |_=>aj
 | .en k::hs,s=>match l1 C (.en k) s with
  |some (aa (e,d))=>match qZ C a hs (e.app s) with
   |some (h,b,c,eI)=>aa (e.cat h,d++b,c,⟨eI.e9,k::eI.p'⟩)
   |none=>aj
  |_=>aj
 |hs,_=>aa (.nil,[],hs,⟨[],[]⟩)
theorem aam{C:eb}(b:a.H k=s.H k):l1 C (.en k) a=l1 C (.en k) s:=by
 unfold l1
 grind
theorem Pc{k g z n:Nat}{v:V}{s a:S}: ∀{is:List Nat},(∀i,i∈is->a.t i=s.t i)->iN k g z n v a is=iN k g z n v s is
 | [],_=>rfl
 |i::is,h=>by simp only[iN,h i List.mem_cons_self,Pc λx b=>h x (List.mem_cons_of_mem _ b)]
theorem Pd{k g z n:Nat}{v:V}{s a:S}: ∀{c:List Nat},(∀b,b∈c->a.H b=s.H b)->gN k g z n v a c=gN k g z n v s c
 | [],_=>rfl
 |b::c,h=>by unfold gN;rw[h b ff,Pd λx d=>h x (eZ _ d)]
theorem aal{L:List Nat}(c: ∀i,i∈r->a.t i=s.t i)(d:a.H k=s.H k)(e: ∀b,b∈L->a.H b=s.H b):l1 C (.bN k r L) a=l1 C (.bN k r L) s:=by
 unfold l1;dsimp only;rw[d];split
 ·rw[Pc c,Pd e]
 rfl
theorem H'{a:Type}{f g:Nat->a}{r:Nat}(h:f r=g r): ∀(l:List (Nat×a)),dA f l r=dA g l r:=by
 intro l;induction l generalizing f g with
 |nil=>exact h
 |cons p l c=>
  obtain⟨d,v⟩:=p;simp only[dA];apply c;by_cases b:r=d
  ·subst b;rw[cd,cd]
  rw[cg _ _ _ _ b,cg _ _ _ _ b];exact h
theorem Lo{r:gU}(e:df)(h:r.same a s):r.same (e.app a) (e.app s):=
 ⟨λi c=>H' (h.1 i c) _,λk b=>⟨H' (h.2 k b).1 _,H' (h.2 k b).2 _⟩⟩
theorem Cq(w:C.Fits K){n:Nat}: ∀{x:List cM} {s:S} {e:df} {d:List dN} {a:List cM} {eI:gU},qZ C n x s=aa (e,d,a,eI)->cI d-> ∀c,eI.same c s->c.le K (e.app c)
 | .at m::x,s,e,d,a,eI,h,o,c,l=>by
  unfold qZ at h;split at h
  ·exact Cq w h o c l
  cases h;exact S.le.refl _ _
 | .bN k is R::x,s,e,d,a,eI,h,o,c,l=>by
  unfold qZ at h;split at h
  ·rename_i p r z;split at h
   ·rename_i W A B D F;cases h;obtain⟨G,H⟩:=cI.app o;have q:l1 C (.bN k is R) c=aa (aa (p,r)):=(aal (λi L=>l.1 i (pq _ L)) (l.2 k ff).1 λb X=>(l.2 b (eZ _ (pq _ X))).1).trans z;rw[oW];exact(Ig w q G).trans (Cq w F H (p.app c) (Lo p ⟨λi L=>l.1 i (po _ L),λk Q=>l.2 k (eZ _ (po _ Q))⟩))
   cases h
  cases h
 | .en k::x,s,e,d,a,eI,h,o,c,l=>by
  unfold qZ at h;split at h
  ·rename_i p r z;split at h
   ·rename_i W A B D F;cases h;obtain⟨G,H⟩:=cI.app o;have q:l1 C (.en k) c=aa (aa (p,r)):=(aam (l.2 k ff).1).trans z;rw[oW];exact(Ig w q G).trans (Cq w F H (p.app c) (Lo p ⟨l.1,λk Q=>l.2 k (eZ _ Q)⟩))
   cases h
  cases h
 | [],s,e,d,a,eI,h,_,c,_=>by cases h;exact S.le.refl _ _
 | .dq _ _ _::_,s,e,d,a,eI,h,_,c,_| .dt _ _ _ _ _::_,s,e,d,a,eI,h,_,c,_| .cP _ _ _ _::_,s,e,d,a,eI,h,_,c,_| .lt _ _ _::_,s,e,d,a,eI,h,_,c,_| .gY _ _ _ _::_,s,e,d,a,eI,h,_,c,_| .gB _ _ _::_,s,e,d,a,eI,h,_,c,_| .R5 _ _ _ _::_,s,e,d,a,eI,h,_,c,_| .cut _ _ _::_,s,e,d,a,eI,h,_,c,_
 | .row _::_,s,e,d,a,eI,h,_,c,_| .rows _::_,s,e,d,a,eI,h,_,c,_| .str _::_,s,e,d,a,eI,h,_,c,_| .int _::_,s,e,d,a,eI,h,_,c,_| .nat _::_,s,e,d,a,eI,h,_,c,_
 | .b _::_,s,e,d,a,eI,h,_,c,_| .y _::_,s,e,d,a,eI,h,_,c,_| .v _::_,s,e,d,a,eI,h,_,c,_| .grow _ _ _::_,s,e,d,a,eI,h,_,c,_
 | .Dx _ _ _::_,s,e,d,a,eI,h,_,c,_| .eC _ _ _ _::_,s,e,d,a,eI,h,_,c,_
 | .len _ _::_,s,e,d,a,eI,h,_,c,_| .e6 _ _ _::_,s,e,d,a,eI,h,_,c,_| .tc _ _::_,s,e,d,a,eI,h,_,c,_| .cL _ _ _ _::_,s,e,d,a,eI,h,_,c,_| .dL _ _ _ _::_,s,e,d,a,eI,h,_,c,_=>by cases h;exact S.le.refl _ _
theorem iC.pre{ops:Array Oper}{b:S}(i:s.le K b)(h:iC K ops o b c):iC K ops o s c:=by
 intro k a w next Q l m
 obtain⟨d,e⟩:=i k a w l;exact h d a w next Q e m
def yM(C:eb)(a:Array Oper):List Oper->List cM->S->Option (List (df×gU)×List dN)
 | [],d,_=>match d with
  | []=>aa ([],[])
  |_=>aj
 |o::l,d,s=>match qZ C (l.length+1) d s with
  |none=>aj
  |some (c,h,b,eI)=>match s9 C a o b (c.app s) with
   |none=>aj
   |some (e,m,i)=>match yM C a l i (e.app (c.app s)) with
    |none=>aj
    |some (n,k)=>aa ((c.cat e,⟨eI.e9++(CK a o b (c.app s)).e9,eI.p'++(CK a o b (c.app s)).p'⟩)::n,h++(m++k))
def Dk:List (df×gU)->df
 | []=> .nil
 |(e,_)::a=>e.cat (Dk a)
theorem IJ(p:C.Fits K){b:Array Oper}{Q:S->Prop}: ∀{l:List Oper} {q:List cM} {s:S} {c:List (df×gU)} {d:List dN},yM C b l q s=aa (c,d)->cI d->Q ((Dk c).app s)->xD K b l c s Q
 | [],q,s,c,d,h,_,m=>by
  simp only[yM] at h;split at h
  ·cases h;exact m
  cases h
 |o::l,q,s,c,d,h,r,m=>by
  simp only[yM] at h;split at h
  ·cases h
  rename_i n D w eI F;split at h
  ·cases h
  rename_i e G H L;split at h
  ·cases h
  rename_i R W X;cases h;obtain⟨f,x⟩:=cI.app r;obtain⟨x,g⟩:=cI.app x;simp only[Dk,oW] at m;refine⟨λB a=>?_,by rw[oW];exact IJ p X g m⟩;rw[oW];refine iC.pre (Cq p F f B ⟨λi y=>a.1 i (pq _ y),λk z=>a.2 k (pq _ z)⟩) ?_;have A:(CK b o w (n.app s)).same (n.app B) (n.app s):=Lo n ⟨λi y=>a.1 i (po _ y),λk z=>a.2 k (po _ z)⟩;exact Re p ((aen A).trans L) x
def l5(C:eb)(l:List Oper)(e:List cM)(s:S):Option (df×List dN):=
 match qS C l.length e s with
 |none=>aj
 |some (c,a,b)=>match yM C l.toArray l b (c.app s) with
  |none=>aj
  |some (d,h)=>match nc l.toArray l.length 0 d&&sq 0 l with
   |true=>aa (c.cat (Dk d),a++h)
   |false=>aj
theorem QK{c:Code}{s2:S}(h:cX K c s λe i=>match e with| .normal=>i.le K s2|_=>False)(m:Q .normal s2):cX K c s Q:=by
 intro n a w o p x;refine h n a w o p ?_;intro e i b k l q r;cases e with
 |normal=>obtain⟨d,y⟩:=q b k l r;exact x _ _ d k l m y
 |exit=>exact q.elim
 |goto=>exact q.elim
 |ret=>exact q.elim
 |panic=>exact q.elim
 |outgrown=>exact q.elim
theorem rd{l:List Oper}(o:C.Fits K)(w:K.P.follows .mixedOrders=ab)(q:List cM)(d:List Nat)(b:List (Nat×V))(c:List (Nat×Option E))(i:List (Nat×Bool)){p:Prop}(k:p)
  (h:mH (l5 C l q s) vw (vy s d b c)=mH (l5 C l q s) vx (vz p b c i)) (x:Q .normal (s.cl d b c i)):cX K (.region n l.toArray ab) s Q:=by
 obtain⟨e,R,a,y,r⟩:=Rn (K:=K) k h;unfold l5 at a;split at a
 ·cases a
 rename_i W z A B;split at a
 ·cases a
 rename_i D F G;split at a
 ·rename_i m;cases a;simp only[cx] at m;obtain⟨H,L⟩:=cI.app y;refine wO (rM o B H) (QK (s2:=s.cl d b c i) (OR D w m.1 m.2 (IJ o G L ?_)) x);rw[oW] at r;exact r
 cases a
def oG:List (Nat×E)->List (Nat×Option E)
 | []=>[]
 |(k,e)::l=>(k,aa e)::oG l
def pM:List Nat->List (Nat×Bool)
 | []=>[]
 |k::l=>(k,ab)::pM l
def bj(a:List (Nat×V))(b:List (Nat×E))(c:List Nat):S:={t:=dA ql a,H:=dA nl (oG b),u:=dA gK (pM c)}
def Dd(u:Nat->Bool):List (Nat×V)->Bool
 | []=>ab
 |(_,v)::l=>v.ok u&&Dd u l
def Di(u:Nat->Bool):List (Nat×E)->Bool
 | []=>ab
 |(k,e)::l=>u k&&(e.ok u&&Di u l)
def De(u:Nat->Bool):List Nat->Bool
 | []=>ab
 |k::l=>u k&&De u l
theorem Qb{u:Nat->Bool}: ∀{l:List (Nat×V)},Dd u l=ab-> ∀i v,(i,v)∈l->v.ok u=ab
 |(a,b)::l,h,i,v,hm=>by
  simp only[Dd,cx] at h;rcases d'.1 hm with hm|hm
  ·cases hm;exact h.1
  exact Qb h.2 i v hm
theorem Qj{u:Nat->Bool}: ∀{l:List (Nat×E)},Di u l=ab-> ∀k e,(k,aa e)∈oG l->u k=ab/\e.ok u=ab
 |(a,b)::l,h,i,v,hm=>by
  simp only[Di,cx] at h;simp only[oG] at hm;rcases d'.1 hm with hm|hm
  ·cases hm;exact⟨h.1,h.2.1⟩
  exact Qj h.2.2 i v hm
theorem P'{u:Nat->Bool}: ∀{l:List Nat},De u l=ab-> ∀k b,(k,b)∈pM l->u k=ab
 |lF::l,h,k,b,hm=>by
  simp only[De,cx] at h;simp only[pM] at hm;rcases d'.1 hm with hm|hm
  ·cases hm;exact h.1
  exact P' h.2 k b hm
def Dp(d:Nat)(s:S)(b:List (Nat×V))(c:List (Nat×E))(a:List Nat):List V×List (Option E)×Bool:=
 (u7 s b,va s (oG c),Dd (dA gK (pM a)) b&&(Di (dA gK (pM a)) c&&(De s.u a&&nb d (dA gK (pM a)))))
theorem Ta{a:List (Nat×V)}{b:List (Nat×E)}(h:Dp K.dZ s a b r=(kT a,kT (oG b),ab)):s.le K (bj a b r):=by
 simp only[Dp,Prod.mk.injEq,cx] at h;obtain⟨l,m,n,o,p,q⟩:=h;refine afr (s':=bj a b r) ?_ ?_ ?_ q
 ·intro i;show dA ql a i= .dp\/(dO _ (dA ql a i)/\(dA ql a i).ok _=ab)
  rcases nW a ql i with ⟨aL,a2⟩|⟨v,aL,a2⟩
  ·exact .inl a2
  rw[a2];exact .inr ⟨Hq l i v aL,Qb n i v aL⟩
 ·intro k e c;have c:dA nl (oG b) k=aa e:=c;rcases nW (oG b) nl k with ⟨aL,a2⟩|⟨v,aL,a2⟩
  ·rw[a2] at c;cases c
  rw[a2] at c;subst c;obtain⟨w,x⟩:=Qj o k e aL;exact⟨HM m k e aL,w,x⟩
 intro k d;have d:dA gK (pM r) k=ab:=d;rcases nW (pM r) gK k with ⟨aL,a2⟩|⟨v,aL,a2⟩
 ·rw[a2] at d;cases d
 exact P' p k v aL
theorem afb{ι:Type}{x y:Code}(I:ι->S)(p:ι->Prop)(a:cX K x s (q5 (λb=> ∃i,p i/\b.le K (I i)) Q))(c: ∀i,p i->cX K y (I i) Q):cX K (.seq x y) s Q:=by
 refine Cw (xI a λe k q=>?_);cases e with
 |normal=>obtain⟨i,d,h⟩:=q;exact wO h (c i d)
 |exit=>exact q
 |goto=>exact q
 |ret=>exact q
 |panic=>exact q
 |outgrown=>exact q
theorem Vv{r:V}(h:lY r v=r):dO v r:=h▸H5 r v
def uT(s:S):List E->Nat->List (Option E)
 | [],_=>[]
 |e::l,k=>Dj (aa e) (s.H k)::uT s l (k+1)
def uJ:List E->List (Option E)
 | []=>[]
 |e::l=>aa e::uJ l
def vi(u:Nat->Bool):List E->Bool
 | []=>ab
 |e::l=>e.ok u&&vi u l
theorem Oo{s:S}: ∀{l:List E} {k:Nat},uT s l k=uJ l-> ∀i e,l[i]? =aa e-> ∃a,s.H (k+i)=aa a/\j8 a e
 |a::l,k,h,0,e,b=>by
  simp only[uT,uJ,List.cons.injEq] at h;simp at b;subst b;exact Qm h.1
 |a::l,k,h,i+1,e,b=>by
  simp only[uT,uJ,List.cons.injEq] at h
  have:=Oo h.2 i e (by simpa using b)
  rwa [show k+1+i=k+(i+1) by omega] at this
theorem Ph{u:Nat->Bool}: ∀{l:List E},vi u l=ab-> ∀(i:Nat) e,l[i]? =aa e->e.ok u=ab
 |b::l,h,0,e,a=>by simp only[vi,cx] at h;simp at a;subst a;exact h.1
 |b::l,h,i+1,e,a=>by simp only[vi,cx] at h;exact Ph h.2 i e (by simpa using a)
end
end
def bk{a R:Type}(b:(a->Option R)->a->Option R):Nat->a->Option R
 |0,_=>aj
 |m+1,x=>b (bk b m) x
def aP{a R:Type}(j:a->Option R)(t:(a->Option R)->Option R):Option R:=t j
variable {b R a γ:Type}{r l:List a}{o:Option a}{f:FuncId}{c:Code}{A B:Option R}{n:Nat}{d:Func}{s:S}{Q:Exit->S->Prop}{j i:Int}{x y ph:a}{p:Prop}{q:List T}{w:World}{v:V}{u z:Value}{args:List V}
theorem l3{a:b->Option R}{t:(b->Option R)->Option R}{r:R}(h:aP a t=aa r): ∃j,j=a/\t j=aa r:=⟨a,rfl,h⟩
theorem c'{f:a->Option R}{r:R}(h:o.bind f=aa r): ∃x,o=aa x/\f x=aa r:=by
 cases o with
 |none=>cases h
 |some x=>exact⟨x,rfl,h⟩
theorem il{c:Bool}{r:R}(a:c=ab)(h:(bif c then A else B)=aa r):A=aa r:=by subst a;exact h
theorem ik{c:Bool}{r:R}(a:c=ak)(h:(bif c then A else B)=aa r):B=aa r:=by subst a;exact h
theorem aq{a b:R}(h:aa a=aa b):a=b:=Option.some.inj h
section
variable {K:Ctx}{C:eb}
theorem CP{a:(b->Option R)->b->Option R}{d:b}{r:R}(h:bk a n d=aa r)(I:b->γ->S)(o:γ)(z:s.le K (I d o))
  (k: ∀(i:b->Option R) (x:b) (g:γ),a i x=aa r->cX K c (I x g) (C8 (λp=> ∃y l,i y=aa r/\p.le K (I y l)) Q)):cX K (.loop c) s Q:=by
 refine adh (ι:=(Nat×b)×γ) (λy=>I y.1.2 y.2) (λy=>bk a y.1.1 y.1.2=aa r) (λy=>y.1.1) ((n,d),o) h z ?_;rintro⟨⟨m,x⟩,g⟩ w;cases m with
 |zero=>cases w
 |succ m=>
  refine xI (k (bk a m) x g w) λe p q=>?_;cases e with
  |normal=>obtain⟨y,l,A,B⟩:=q;exact⟨((m,y),l),A,pt m,B⟩
  |exit=>exact q
  |goto=>exact q
  |ret=>exact q
  |panic=>exact q
  |outgrown=>exact q
theorem lI{j:a->Option R}{r:R}{x y:Code}(I:a->γ->S)
  (b:cX K x s (q5 (λd=> ∃z g,j z=aa r/\d.le K (I z g)) Q)) (c: ∀z g,j z=aa r->cX K y (I z g) Q):cX K (.seq x y) s Q:=
 afb (ι:=a×γ) (λi=>I i.1 i.2) (λi=>j i.1=aa r) (xI b (λe k q=>by
  cases e with
  |normal=>obtain⟨z,g,b,c⟩:=q;exact⟨(z,g),b,c⟩
  |exit=>exact q
  |goto=>exact q
  |ret=>exact q
  |panic=>exact q
  |outgrown=>exact q)) λi h=>c i.1 i.2 h
theorem VM{P:Program}{G:fe}{a:List (Nat×cu)}(c:eg P a)(b:Nat)(w:World)(X:Nat->Prop):eb.Fits ⟨P,G,a,b,0,fD⟩ (Ctx.pure P G w X b):=⟨c,rfl,rfl,rfl,rfl,rfl⟩
theorem VL{P:Program}{G:fe}{a:List (Nat×cu)}(e:eg P a)(c d:Nat)(w:World)(X:Nat->Prop)(b:Map):eb.Fits ⟨P,G,a,c,d,b⟩ (Ctx.dL P G w X d b c):=⟨e,rfl,rfl,rfl,rfl,rfl⟩
theorem PD{P:Program}(a:P.funcs[f]? =aa d)(b:(d.name== "runtime.NumGoroutine")=ak)(e:d.body=aa c):iH P f:=⟨d,a,b,by rw[e];rfl⟩
variable {P:Program}{G:fe}{cD:List (Nat×cu)}
end
abbrev ah:Int->List T:=iJ
abbrev bO:Bool->List T:=afm
abbrev bn{a:Type}(r:a->List T)(l:List a):List T:=[T.bE (l.map r)]
abbrev aG{a:Type}(r:a->List T)(l:List a):V:= .t (.bE (l.map r))
abbrev aH{a:Type}(e g b:Nat)(r:a->List T)(l:List a):E:= .arr e g b (l.map r)
abbrev ms{a:Type}(k g b:Nat)(r:a->List T)(l:List a):V:= .bo k g b 0 (l.map r).length
theorem L7(r:a->List T)(l:List a):(l.map r).length=l.length:=dJ ..
theorem k9(k:Nat){r:a->List T}(h: ∀x,(r x).length=k)(l:List a):Rows k (l.map r):=Rows.map l h
theorem bY(f:a->List T)(h:aD l i=aa x):(l.map f)[0+i.toNat]? =aa (f x):=by rw[dI,eQ,(na h).2];rfl
theorem bK(f:a->List T)(h:aD l i=aa x):0<=i/\i<((l.map f).length:Int):=by
 obtain⟨b,c⟩:=na h
 grind
theorem Dg{b:List a}(f:a->List T)(h:aD l i=aa x)(e:(b.map f).length=(l.map f).length):0<=i/\i<((b.map f).length:Int):=by rw[e];exact bK f h
theorem str(f:a->List T)(h:cn l i x=aa r):r.map f=(l.map f).set (0+i.toNat) (f x):=by obtain⟨_,_,rfl⟩:=tS h;rw[dI,List.map_set]
theorem e8(f:a->List T){y:List T}(h:aD l i=aa x)(e:f x=y):(l.map f)[0+i.toNat]? =aa y:=e▸bY f h
theorem eM{q:Prop}(h:p)(k:q):p/\q:=⟨h,k⟩
def wA(b:Int):Option Unit:=if b=0 then aj else aa ()
theorem QV{b:Int}{x:Unit}(h:wA b=aa x):b≠0:=by intro e;rw[wA,bb e] at h;cases h
theorem fI(f:a->R){y:R}(h:aD l i=aa x)(e:f x=y):aD (l.map f) i=aa y:=e▸QQ f h
theorem qc{l r:List R}{a:Int}(f:R->b)(h:sub l a (l.length:Int)=aa r):sub (l.map f) a ((l.map f).length:Int)=aa (r.map f):=by rw[dJ];exact qk f h
def gI(C:eb)(a:List cM)(s:S):Option (df×List dN):=match qS C 0 a s with
 |some (e,b,[])=>aa (e,b)
 |_=>aj
theorem al9{K:Ctx}{C:eb}(l:C.Fits K)(d:List cM)(i:List Nat)(b:List (Nat×V))(c:List (Nat×Option E))(k:List (Nat×Bool))
  (h:mH (gI C d s) vw (vy s i b c)=mH (gI C d s) vx (vz True b c k)):s.le K (s.cl i b c k):=by
 obtain⟨e,p,a,m,n⟩:=Rn (K:=K) trivial h;unfold gI at a;split at a
 ·rename_i o;cases a;exact(rM l o m).trans n
 cases a
def iY(b:List (Nat×cu))(s:S):List ResultVar->Option (List V)
 | []=>aa []
 | .tmp t::c=>match iY b s c with
  |some d=>aa (s.t t::d)
  |none=>aj
 | .cell a t::c=>match uR b s.H t (s.t a) [],iY b s c with
  |some (v,[],[]),aa d=>aa (v::d)
  |_,_=>aj
def oI:List V->V
 | [v]=>v
 |vs=> .bX vs
def lM(b:Array Value)(r:ResultVar):Sem Value:=match r with
 | .tmp t=>pure (b.getD t undef)
 | .cell a t=>do loadVar t (<-asAddr (b.getD a undef))
theorem AK(c:Func)(a:Array Value):Go.results c a=(do let b<-c.results.mapM (lM a);pure (if h:b.size=1 then b[0] else .tuple b)):=rfl
theorem afR{P:Program}{c:List (Nat×cu)}(r:eg P c){K:Ctx}{U:Map}{a:Act}(m:Rel K U s a w){x:Nat}{t:TypeId}(h:uR c s.H t (s.t x) []=aa (v,[],[])):
  ∃u,(lM a.tmps (.cell x t)).run P w= .ok u w/\bt U w (own K U s.H) v u:=by
 have y:=Oc (d:=aj) (ty:=0) (pos:= "") (af:= #[]) (g:=aj) (x:= .tmp x) r h trivial
 obtain⟨u,i,z⟩:=y U w (own K U s.H) a.eval (λid e A=>(m.heap id e A).2) ⟨m.dB x,trivial⟩;refine⟨u,?_,z⟩;have bZ:=m.dB x;have n: ∃l,a.tmps.getD x undef= .pointer (aa l):=by
  generalize a.tmps.getD x undef=q at bZ;unfold uR at h;split at h
  ·cases h
  split at h
  ·rename_i o;rw[o] at bZ;cases bZ with|ref _ _ b _=>exact⟨_,rfl⟩
  ·rename_i o;rw[o] at bZ;cases bZ with|aS _ b B f _ _ _ _=>exact⟨_,rfl⟩
  ·split at h
   ·split at h<;>cases h
   ·split at h<;>cases h
   cases h
  cases h
 obtain⟨l,k⟩:=n;have D:a.eval (.tmp x)= .pointer (aa l):=k;simp only[execOp,Instr.loadAt,D,Instr.sureAddr,Sem.run_bind,Sem.run_pure,Result.andThen_ok] at i;simp only[lM,k,asAddr,Sem.run_bind,Sem.run_pure,Result.andThen_ok];cases p:(loadVar t l).run P w with
 |ok F L=>rw[p] at i;simp at i;obtain⟨rfl,rfl⟩:=i;rfl
 |_=>rw[p] at i;cases i
theorem It{P:Program}{c:List (Nat×cu)}(m:eg P c){K:Ctx}{U:Map}{s:S}{a:Act}{w:World}(l:Rel K U s a w): ∀{e:List ResultVar} {k:List V},iY c s e=aa k->
  k.length=e.length/\ ∀(i:Nat) r v,e[i]? =aa r->k[i]? =aa v-> ∃u,(lM a.tmps r).run P w= .ok u w/\bt U w (own K U s.H) v u
 | [],_,h=>by cases h;exact⟨rfl,λi r v h=>by simp at h⟩
 | .tmp t::e,k,h=>by
  simp only[iY] at h;split at h
  ·rename_i n o;cases h;obtain⟨aL,a2⟩:=It m l o;refine⟨by simp[aL],λi r v b d=>?_⟩;cases i with
   |zero=>simp at b d;subst b;subst d;exact⟨_,rfl,l.dB t⟩
   |succ i=>simp at b d;exact a2 i r v b d
  cases h
 | .cell x t::e,k,h=>by
  simp only[iY] at h;split at h
  ·rename_i q n p o;cases h;obtain⟨aL,a2⟩:=It m l o;refine⟨by simp[aL],λi r v b d=>?_⟩;cases i with
   |zero=>simp at b d;subst b;subst d;exact afR m l p
   |succ i=>simp at b d;exact a2 i r v b d
  cases h
theorem adZ{P:Program}{a:Array Value}{r:ResultVar}(h:d.results= #[r])(b:(lM a r).run P w= .ok u w):(Go.results d a).run P w= .ok u w:=by rw[AK,h];simp[b]
theorem adY{P:Program}{a:Array Value}{r b:ResultVar}{v:Value}(h:d.results= #[r,b])(c:(lM a r).run P w= .ok u w)(e:(lM a b).run P w= .ok v w):(Go.results d a).run P w= .ok (.tuple #[u,v]) w:=by rw[AK,h];simp[c,e]
theorem adX{P:Program}{a:Array Value}{r c b:ResultVar}{v:Value}(h:d.results= #[r,c,b])(e:(lM a r).run P w= .ok u w)(i:(lM a c).run P w= .ok z w)(k:(lM a b).run P w= .ok v w):
  (Go.results d a).run P w= .ok (.tuple #[u,z,v]) w:=by rw[AK,h];simp[e,i,k]
theorem adW{P:Program}{a:Array Value}{r c b e:ResultVar}{v x:Value}(h:d.results= #[r,c,b,e])(i:(lM a r).run P w= .ok u w)(k:(lM a c).run P w= .ok z w)(l:(lM a b).run P w= .ok v w)(m:(lM a e).run P w= .ok x w):
  (Go.results d a).run P w= .ok (.tuple #[u,z,v,x]) w:=by rw[AK,h];simp[i,k,l,m]
theorem MI{P:Program}{e:List (Nat×cu)}(Q:eg P e){K:Ctx}{U:Map}{a:Act}(R:Rel K U s a w){b:List ResultVar}(o:d.results.toList=b){Y:List V}(h:iY e s b=aa Y)(W:dD b.length 4=ab):
  ∃u,(Go.results d a.tmps).run P w= .ok u w/\bt U w (own K U s.H) (oI Y) u:=by
 obtain⟨X,m⟩:=It Q R h;have o:d.results=b.toArray:=by rw[<-o]
 match b,Y,X,m,W with
 | [],[],_,_,_=>exact⟨_,results_none o _ _ _,.bX [] #[] rfl λi c u h _=>by simp at h⟩
 | [r],[v],_,m,_=>
  obtain⟨u,aL,a2⟩:=m 0 r v rfl rfl;exact⟨u,adZ o aL,a2⟩
 | [r,x],[v,y],_,m,_=>
  obtain⟨u,aL,a2⟩:=m 0 r v rfl rfl;obtain⟨L,z,A⟩:=m 1 x y rfl rfl;refine⟨_,adY o aL z,.bX _ _ rfl λi c u k l=>?_⟩
  match i with
  |0=>simp at k l;subst k;subst l;exact a2
  |1=>simp at k l;subst k;subst l;exact A
  |n+2=>simp at k
 | [r,x,p],[v,y,q],_,m,_=>
  obtain⟨u,aL,a2⟩:=m 0 r v rfl rfl;obtain⟨L,z,A⟩:=m 1 x y rfl rfl;obtain⟨B,D,F⟩:=m 2 p q rfl rfl;refine⟨_,adX o aL z D,.bX _ _ rfl λi c u k l=>?_⟩
  match i with
  |0=>simp at k l;subst k;subst l;exact a2
  |1=>simp at k l;subst k;subst l;exact A
  |2=>simp at k l;subst k;subst l;exact F
  |n+3=>simp at k
 | [r,x,p,f],[v,y,q,g],_,m,_=>
  obtain⟨u,aL,a2⟩:=m 0 r v rfl rfl;obtain⟨L,z,A⟩:=m 1 x y rfl rfl;obtain⟨B,D,F⟩:=m 2 p q rfl rfl;obtain⟨E,j,t⟩:=m 3 f g rfl rfl;refine⟨_,adW o aL z D j,.bX _ _ rfl λi c u k l=>?_⟩
  match i with
  |0=>simp at k l;subst k;subst l;exact a2
  |1=>simp at k l;subst k;subst l;exact A
  |2=>simp at k l;subst k;subst l;exact F
  |3=>simp at k l;subst k;subst l;exact t
  |n+4=>simp at k
def Mf(b:List (Nat×cu))(c:List ResultVar)(r:V):Exit->S->Prop
 | .normal,s| .ret,s=> ∃a,iY b s c=aa a/\dO (oI a) r
 |_,_=>False
def Me(c:List (Nat×cu))(d:List ResultVar)(r:V)(a:List E):Exit->S->Prop
 | .normal,s| .ret,s=> ∃b,iY c s d=aa b/\dO (oI b) r/\r.ok (d6 a.length)=ab/\lV s.H (d6 a.length) (er a 0)
 |_,_=>False
section
variable {P:Program}{G:fe}{cD:List (Nat×cu)}
theorem Th{r:V}{a:List ResultVar}(A:eg P cD)(B:P.funcs[f]? =aa d)(F:(d.name== "runtime.NumGoroutine")=ak)(q:d.body=aa c)(H:d.results.toList=a)(s:d.ntmps=n)
  (k:dD args.length n=ab) (L:r.ok gK=ab) (x:dD a.length 4=ab)
  (h: ∀w X,eb.Fits ⟨P,G,cD,n,0,fD⟩ (Ctx.pure P G w X n)->cX (Ctx.pure P G w X n) c (start args) (Mf cD a r)):jw P G f args r:=by
 subst s;refine⟨PD B F q,?_⟩;intro w X Q R W D;have o:Q.length<=d.ntmps:=by rw[D.length];exact fg k
 refine calls_of_wp B q (h w X (VM A _ w X) fD _ w _ (Rel.start R W D o) ?_);intro e g j t w' m i;have p:(∃y,iY cD g a=aa y/\dO (oI y) r)->bodyPost P d (λe w'=> ∃u,e= .returned u/\Ext (λ_=>False) w w'/\bt fD w' X r u) .ret t w':=by
  rintro⟨y,z,k⟩;obtain⟨u,v,bZ⟩:=MI A i H z x;have bZ:=k _ _ _ _ bZ;refine⟨i.defers,u,v,u,rfl,?_,?_⟩
  ·exact i.ext.weaken λb _ ⟨id,h,_⟩=>by simp[Ctx.pure] at h
  exact bZ.under (u:=gK) (λb q=> .inl q) (λ_ h=>by simp[gK] at h) L
 cases e with
 |normal=>exact p m
 |ret=>exact p m
 |exit id=>exact m.elim
 |goto l=>exact m.elim
 |panic c=>exact m.elim
 |outgrown=>exact m.elim
def u2(a:Map):List E->Nat->Prop
 | [],_=>True
 | .arr _ g _ _::b,k=>(∃q,a k=aa (q,g))/\u2 a b (k+1)
 | .aN _ _ g _ _::b,k=>(∃q,a k=aa (q,g))/\u2 a b (k+1)
 | .cells _::b,k=>True/\u2 a b (k+1)
theorem N9{U:Map}: ∀(a:List E) (k:Nat),(∀(i:Nat) e g,a[i]? =aa e->e.gen=aa g-> ∃q,U (k+i)=aa (q,g))->u2 U a k
 | [],_,_=>trivial
 |e::a,k,h=>by
  have b8:=N9 a (k+1) (λi e g b c=>by
   have:=h (i+1) e g (by simpa using b) c
   rwa [show k+(i+1)=k+1+i by omega] at this)
  cases e with
  |cells=>exact⟨trivial,b8⟩
  |arr _ g _ _=>exact⟨h 0 _ g rfl rfl,b8⟩
  |aN _ _ g _ _=>exact⟨h 0 _ g rfl rfl,b8⟩
theorem akL{o:Func}{a out:List E}{r:V}{x y:Nat}{Q:List ResultVar}(k0:eg P cD)(iI:P.funcs[f]? =aa o)(cK:(o.name== "runtime.NumGoroutine")=ak)(a1:o.body=aa c)(b8:o.results.toList=Q)(R:o.ntmps=x)(W:a.length=y)
  (z:dD args.length x=ab) (A:dD y out.length=ab) (j:dD Q.length 4=ab)
  (h: ∀w X d,eb.Fits ⟨P,G,cD,x,y,d⟩ (Ctx.dL P G w X y d x)->u2 d a 0->cX (Ctx.dL P G w X y d x) c (mr a args) (Me cD Q r out)):ig P G f a args r out:=by
 subst R;subst W;refine⟨PD iI cK a1,?_⟩;intro w X d us kn gZ aJ hT;have B:us.length<=o.ntmps:=by rw[hT.length];exact fg z
 refine calls_of_wp iI a1 (h w X d (VL k0 _ _ w X d) (N9 a 0 (λk e g v bV=>by
  rw[dI];exact(pA (aJ.heap k _ v) bV).2)) d _ w _ (Rel.mr kn gZ aJ hT B) ?_)
 intro e I D uN w' q m;have F:(∃M,iY cD I Q=aa M/\dO (oI M) r/\r.ok (d6 out.length)=ab/\lV I.H (d6 out.length) (er out 0))->
   bodyPost P o (λe w'=> ∃u,∃i:Unit,∃β,e= .returned u/\True/\Left d β a out w w' X r u) .ret uN w':=by
  rintro⟨M,N,T,U,hH⟩;obtain⟨u,hu,bZ⟩:=MI k0 m b8 N j;have bZ:=T _ _ _ _ bZ;have hm:a.length<=out.length:=fg A;let p:S:={t:=ql,H:=er out 0,u:=d6 out.length}
  have L:nb a.length p.u=ab:=by
   have: ∀n,n<=a.length->nb n p.u=ab:=by
    intro n;induction n with
    |zero=>intro _;rfl
    |succ n mU=>intro cK;simp[nb,mU O,show p.u n=ab from jx.2 O]
   exact this _ (da _)
  have bS:=m.cut (s':=p) (pJ.nil _ _) hH L;have et:=F' (K:=Ctx.dL P G w X a.length d o.ntmps) (β:=D) (s:=I) (s':=p) hH;refine⟨m.defers,u,hu,u,(),cut D p.u,rfl,trivial,?_⟩;refine⟨m.ext.weaken λb _ ⟨id,_,h⟩=>⟨id,h⟩,bS.base,bS.jm,?_,?_,bS.inj,bS.fresh,?_,bZ.under et (λ_ h=>yl h) U⟩
  ·intro k v;apply bS.dT;cases Y:p.u k with
   |false=>rfl
   |true=>have:=jx.1 Y;omega
  ·intro k b v;apply bS.ev;cases Y:p.u k with
   |false=>rfl
   |true=>have:=jx.1 Y;omega
  intro k e he;exact(bS.heap k e (by rw[<-wQ] at he;exact he)).2
 cases e with
 |normal=>exact F q
 |ret=>exact F q
 |exit id=>exact q.elim
 |goto l=>exact q.elim
 |panic c=>exact q.elim
 |outgrown=>exact q.elim
def yB(r:V):Option (List V)->Option V
 |some a=>aa (lY r (oI a))
 |none=>aj
theorem Mb{a:List ResultVar}{r:V}(h:yB r (iY cD s a)=aa r): ∃b,iY cD s a=aa b/\dO (oI b) r:=by
 cases c:iY cD s a with
 |none=>rw[c] at h;cases h
 |some b=>rw[c] at h;simp only[yB,Option.some.injEq] at h;exact⟨b,rfl,Vv h⟩
theorem Vu{b:List ResultVar}{r:V}{a:List E}(h:(yB r (iY cD s b),uT s a 0,r.ok (d6 a.length)&&vi (d6 a.length) a)=(aa r,uJ a,ab)):
  ∃c,iY cD s b=aa c/\dO (oI c) r/\r.ok (d6 a.length)=ab/\lV s.H (d6 a.length) (er a 0):=by
 simp only[Prod.mk.injEq,cx] at h;obtain⟨i,l,m,n⟩:=h;obtain⟨c,aL,a2⟩:=Mb i;refine⟨c,aL,a2,m,λk e d=>?_⟩;rw[wQ] at d
 have:=Oo l k e d;rw[dI] at this;exact⟨this,jx.2 (b5.1 d).1,Ph n k e d⟩
end
theorem lZ(f:a->List T)(ph:a)(h:app l [y]=aa r):app (bL f l) [f ph]=aa (bL f (l++[ph])):=by
 obtain⟨b,_⟩:=uB h;unfold app
 grind
theorem hg(f:a->List T)(l:List a)(ph:a):(bL f (l++[ph]))[(bL f l).length+0]? =aa (f ph):=by grind
theorem nF(f:a->List T)(l:List a){r:List T}(e:r=f y):(bL f (l++[ph])).set ((bL f l).length+0) r=bL f (l++[y]):=by grind
theorem mA(f:a->List T){x:List a}{r:List T}(h:app l [y]=aa x)(e:r=f y):(bL f (l++[ph])).set ((bL f l).length+0) r=bL f x:=by
 obtain⟨_,rfl⟩:=uB h
 grind
theorem l2(f:a->List T){x:List a}(b:a)(h:app l [y]=aa x):(bL f (l++[b])).length=(bL f x).length:=by obtain⟨_,rfl⟩:=uB h;simp
theorem akp(f:a->List T)(h:l.isEmpty=ak):bL f l≠[]:=by
 cases l with
 |nil=>cases h
 |cons=>simp
theorem hd(f:a->List T)(h:cn l i y=aa r)(e:q=f y):(bL f l).set (0+i.toNat) q=bL f r:=by subst e;exact(str f h).symm
theorem jG(f:a->List T)(h:aD l i=aa x)(e:q=f x):(bL f l).set (0+i.toNat) q=bL f l:=by subst e;have b:=bY f h;obtain⟨d,c⟩:=b5.1 b;rw[<-c,List.set_getElem_self]
theorem cQ(f:a->List T)(h:cn l i x=aa r):(l.map f).length=(r.map f).length:=by obtain⟨_,_,rfl⟩:=tS h;simp
theorem jE{r:R}(h:(aj:Option R)=aa r):p:=by cases h
def fj{R:Type}(a b:List R):Option Unit:=if b.length=a.length then aa () else aj
theorem je{a b:List R}{u:Unit}(f:R->List T)(h:fj a b=aa u):(a.map f).length=(b.map f).length:=by
 unfold fj at h
 grind
def E2{a:Type}(f:a->List T):Option a->V
 |none=> .t .gM
 |some x=> .aS (f x)
theorem VA(f:a->List T)(o:Option a)(b:Bool):(V.bX [E2 f o,aT b]).ok gK=ab:=by cases o<;>rfl
theorem xi{P:Program}{G:fe}[Inhabited a]{r:a->List T}(h:o.isSome=ab)(k:jw P G f args (V.bX [E2 r o,v])):jw P G f args (V.bX [V.aS (r (o.getD default)),v]):=by
 cases o with
 |none=>cases h
 |some x=>exact k
theorem xh{P:Program}{G:fe}{r:a->List T}(h:o.isSome=ak)(k:jw P G f args (V.bX [E2 r o,v])):jw P G f args (V.bX [V.t .gM,v]):=by
 cases o with
 |none=>exact k
 |some x=>cases h
theorem UY(f:a->List T)(l:List a):(l.map f).length=((l.take l.length).map f).length:=by rw[dR]
theorem OS(f:a->List T)(l:List a)(b:0<=i)(c:i<(l.length:Int)):
  0<=i/\i<=((l.map f).length:Int)/\((l.map f).length:Int)<=((l.map f).length:Int)/\(i=0\/i<((l.map f).length:Int))/\i.toNat=0+i.toNat/\l.length-i.toNat=((l.map f).length:Int).toNat-i.toNat:=by grind
theorem Mc(f:a->List T)(l:List a)(k:Nat):(l.take k).map f=(l.map f).take k:=uj
section
set_option linter.unusedVariables false
def e5{a:Type}(l:List a)(i j:Int):Nat:=i.toNat+(l.length-j.toNat)
def nH{α:Type}(l:List α)(i j:Int):List α:=l.take i.toNat++l.drop j.toNat++l.drop (e5 l i j)
def kd{α:Type}(l:List α)(i j:Int)(z:α):List α:=l.take i.toNat++l.drop j.toNat++List.replicate (l.length-e5 l i j) z
theorem PA(l:List a)(b:0<=i)(c:i<=j)(d:j<=(l.length:Int)):(nH l i j).length=l.length:=by
 unfold nH e5
 grind
theorem ahu(f:a->List T)(l:List a)(b:0<=i)(c:i<=j)(d:j<=(l.length:Int)):0<=i/\i<=j/\j<=(l.length:Int)/\(l.length:Int)<=((l.map f).length:Int):=by grind
theorem R1(f:a->List T)(l:List a)(b:0<=i)(c:i<=j)(d:j<=(l.length:Int)):
  (0:Int)<=0/\(0:Int)<=i/\i<=((l.map f).length:Int)/\((0:Int)=0\/(0:Int)<((l.map f).length:Int))/\0=0+(0:Int).toNat/\i.toNat=i.toNat-(0:Int).toNat:=
 ⟨gR _,b,by rw[dJ];omega,.inl rfl,rfl,rfl⟩
theorem aht(f:a->List T)(l:List a)(b:0<=i)(c:i<=j)(d:j<=(l.length:Int))(e: ¬j<(l.length:Int)):0<=j/\j=((l.map f).length:Int)/\((l.map f).length:Int)<=((l.map f).length:Int):=by grind
theorem Vy(f:a->List T)(l:List a)(b:0<=i)(c:i<=j)(d:j<=(l.length:Int)):i.toNat+(l.length-j.toNat)<=(l.map f).length:=by grind
theorem Vx(f:a->List T)(l:List a)(b:0<=i)(c:i<=j)(d:j<=(l.length:Int)):j.toNat+(l.length-j.toNat)<=(l.map f).length:=by grind
theorem a17(f:a->List T)(l:List a)(i j:Int):(nH l i j).map f=(l.map f).take i.toNat++((l.map f).drop j.toNat).take (l.length-j.toNat)++(l.map f).drop (i.toNat+(l.length-j.toNat)):=by unfold nH e5;rw[h7,h7,uj,List.map_drop,List.map_drop,hi (l:=(l.map f).drop j.toNat) (by rw[fY,dJ];omega)]
theorem R2(f:a->List T)(l r:List a){k:Nat}(d:0<k)(e:0<=i)(h:i<j)(n:j<=(l.length:Int))(b:r.length=l.length){m:Nat}(c:m=e5 l i j):
  0<k/\(0:Int)<=(m:Int)/\(m:Int)<(l.length:Int)/\((0:Nat):Int)+(l.length:Int)<=((r.map f).length:Int)/\m=0+(m:Int).toNat/\l.length-m=(l.length:Int).toNat-(m:Int).toNat:=by rw[dJ,b,c];unfold e5;omega
theorem ahs(f:a->List T)(l:List a)(z:a)(c:0<=i)(h:i<j)(d:j<=(l.length:Int)):
  e5 l i j+(l.length-e5 l i j)<=((nH l i j).map f).length/\(kd l i j z).map f=((nH l i j).map f).take (e5 l i j)++List.replicate (l.length-e5 l i j) (f z)++((nH l i j).map f).drop (e5 l i j+(l.length-e5 l i j)):=by
 have cC:=PA l c (O:i<=j) d;have b:(l.take i.toNat++l.drop j.toNat).length=e5 l i j:=by
  unfold e5;simp only[List.length_append,List.length_take,List.length_drop];omega
 have e:e5 l i j<=l.length:=by unfold e5;omega
 refine⟨by rw[dJ,cC];omega,?_⟩;rw[kE (as:=(nH l i j).map f) (by rw[dJ,cC];omega),jq,<-uj];unfold kd nH;rw[h7,List.map_replicate,r1 (by rw[b];exact da _),hi (l:=l.take i.toNat++l.drop j.toNat) (by rw[b];exact da _)]
theorem Vw(f:a->List T)(l:List a)(z:a)(c:0<=i)(d:i<j)(e:j<=(l.length:Int))(h: ¬j<(l.length:Int)):
  i.toNat+(l.length-i.toNat)<=(l.map f).length/\(kd l i j z).map f=(l.map f).take i.toNat++List.replicate (l.length-i.toNat) (f z)++(l.map f).drop (i.toNat+(l.length-i.toNat)):=by
 refine⟨by rw[dJ];omega,?_⟩;have b:e5 l i j=i.toNat:=by unfold e5;omega
 unfold kd;rw[b,kE (as:=l) (i:=j.toNat) O,jq,kE (as:=l.map f) (by rw[dJ];omega),jq,h7,uj,List.map_replicate]
theorem R3(f:a->List T)(l:List a)(z:a)(b:0<=i)(c:i<j)(d:j<=(l.length:Int)):e5 l i j=(((kd l i j z).take (e5 l i j)).map f).length:=by
 unfold kd e5
 grind
theorem R4(l:List a)(b:j<=(l.length:Int))(c: ¬j<(l.length:Int)):i.toNat=e5 l i j:=by unfold e5;omega
end
theorem xp(h:cn l i x=aa r)(y:a):cn l i y=aa (l.set i.toNat y):=by
 obtain⟨b,c,_⟩:=tS h;unfold cn
 grind
theorem uZ(h:cn l i x=aa r)(y:a):aD (l.set i.toNat y) i=aa y:=by
 obtain⟨b,c,_⟩:=tS h;unfold aD
 grind
theorem xo(h:cn l i x=aa r)(y:a):cn (l.set i.toNat y) i x=aa r:=by obtain⟨b,c,rfl⟩:=tS h;unfold cn;rw[bb ⟨b,by rw[gr];exact c⟩,oi]
theorem Df{a l:List R}{u:Unit}{x:R}(f:R->List T)(b:fj a l=aa u)(h:aD l i=aa x):0<=i/\i<((a.map f).length:Int):=by have:=bK f h;rw[je f b];exact this
theorem L6{a l:List R}{u:Unit}(f:R->List T)(b:fj a l=aa u):(a.map f).length=l.length:=(je f b).trans (L7 f l)
theorem CL(h:cn l i x=aa r):aD r i=aa x:=by
 obtain⟨b,c,rfl⟩:=tS h;unfold aD
 grind
end Go.Lift
