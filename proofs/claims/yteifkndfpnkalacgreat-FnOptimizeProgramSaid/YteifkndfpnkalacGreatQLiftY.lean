/- Tools. -/
import Derived.Test.YteifkndfpnkalacGreatQLiftV
namespace Go.Lift
open Go
open Option renaming some -> aa, none -> aj
open Bool renaming true -> ab, false -> ak, and_eq_true -> b5
open List renaming map -> bV
open Nat renaming beq -> b4, blt -> df, ble -> cY
section
def cX.cat(a b:cX):cX:=⟨a.fL++b.fL,a.hs++b.hs,a.us++b.us⟩
def cX.nil:cX:=⟨[],[],[]⟩
theorem MN{R:Type}: ∀(a b:List (Nat×R)) (f:Nat->R),dn f (a++b)=dn (dn f a) b
 | [],_,_=>rfl
 |(d,v)::a,b,f=>by simp only[List.cons_append,dn];exact MN a b _
theorem oh(a b:cX)(s:S):(a.cat b).app s=b.app (a.app s):=by unfold cX.app cX.cat;simp only[MN]
theorem nm{a:Type}: ∀(l:List (Nat×a)) (f:Nat->a) (r:Nat),((∀v,(r,v)∉l)/\dn f l r=f r)\/ ∃v,(r,v)∈l/\dn f l r=v
 | [],_,_=> .inl ⟨λ_ h=>(List.not_mem_nil h).elim,rfl⟩
 |(d,v)::l,f,r=>by
  rcases nm l (bc f d v) r with ⟨e,c⟩|⟨i,e,c⟩
  ·by_cases k:r=d
   ·subst k;exact .inr ⟨v,en,by rw[dn,c,cc]⟩
   refine .inl ⟨λi h=>?_,by rw[dn,c,cb _ _ _ _ k]⟩;rcases ef.1 h with h|h
   ·cases h;exact k rfl
   exact e i h
  exact .inr ⟨i,ec _ e,by rw[dn,c]⟩
mutual
def lK:V->V->V
 | .t (.bD _),v=>nx v
 | .agg cs,.agg a=> .agg (qu cs a)
 | .bQ cs,.bQ a=> .bQ (qu cs a)
 | .c9,_=> .c9
 |_,v=>v
def qu:List V->List V->List V
 |c::cs,v::a=>lK c v::qu cs a
 |_,a=>a
end
mutual
theorem F3: ∀c v:V,dC v (lK c v)
 | .t (.bD _),v=>by simp only[lK];exact tG v
 | .agg cs,.agg a=>by simp only[lK];exact dC.agg (AM cs a)
 | .bQ cs,.bQ a=>by simp only[lK];exact dC.bQ (AM cs a)
 | .c9,v=>by simp only[lK];exact dC.c9 v
 | .t (.bool _),v| .t (.int _ _),v| .t (.str _),v| .t .fF,v| .t .hP,v| .t .gJ,v| .t .nw,v| .t .err,v=>by simp only[lK];exact dC.refl v
 | .ref _ _,v| .aQ _,v| .bn _ _ _ _ _,v| .cK _ _ _ _ _,v| .fn _ _,v=>by simp only[lK];exact dC.refl v
 | .agg _,.t _| .agg _,.bQ _| .agg _,.ref _ _| .agg _,.aQ _| .agg _,.bn _ _ _ _ _| .agg _,.cK _ _ _ _ _| .agg _,.fn _ _| .agg _,.c9=>by simp only[lK];exact dC.refl _
 | .bQ _,.t _| .bQ _,.agg _| .bQ _,.ref _ _| .bQ _,.aQ _| .bQ _,.bn _ _ _ _ _| .bQ _,.cK _ _ _ _ _| .bQ _,.fn _ _| .bQ _,.c9=>by simp only[lK];exact dC.refl _
theorem AM: ∀cs a:List V,fG a (qu cs a)
 |c::cs,v::a=>by simp only[qu];exact⟨F3 c v,AM cs a⟩
 | [],a=>by simp only[qu];exact fG.refl a
 |_::_,[]=>by simp only[qu];exact trivial
end
def Bw:Option E->Option E->Option E
 |some (.cells cs),aa (.cells a)=>aa (.cells (qu cs a))
 |some _,e=>e
 |none,_=>aj
variable {c s a:S}{e x:E}{β:Map}{w:World}{r l:List Nat}{m i k gen n b L g:Nat}{X Z:Nat->Prop}{q:Option Nat}{Q:Exit->S->Prop}{u:Value}{o:Oper}
theorem NT{c e:Option E}(h:Bw c e=aa x): ∃a,e=aa a/\kC a x:=by
 unfold Bw at h;split at h
 ·cases h;exact⟨_,rfl,AM _ _⟩
 ·exact⟨x,h,kC.refl x⟩
 cases h
def tM(s:S):List (Nat×V)->List V
 | []=>[]
 |(i,v)::l=>lK v (s.t i)::tM s l
def tS(s:S):List (Nat×Option E)->List (Option E)
 | []=>[]
 |(k,e)::l=>Bw e (s.H k)::tS s l
def kE{a:Type}:List (Nat×a)->List a
 | []=>[]
 |(_,v)::l=>v::kE l
theorem Fk{s:S}: ∀{l:List (Nat×V)},tM s l=kE l-> ∀i v,(i,v)∈l->dC (s.t i) v
 |(a,c)::l,h,i,v,hm=>by
  simp only[tM,kE,List.cons.injEq] at h;rcases ef.1 hm with hm|hm
  ·cases hm;exact h.1▸F3 _ _
  exact Fk h.2 i v hm
theorem FA{s:S}: ∀{l:List (Nat×Option E)},tS s l=kE l-> ∀k e,(k,aa e)∈l-> ∃a,s.H k=aa a/\kC a e
 |(ov,a)::l,h,k,e,hm=>by
  simp only[tS,kE,List.cons.injEq] at h;rcases ef.1 hm with hm|hm
  ·cases hm;exact NT h.1
  exact FA h.2 k e hm
def tn{a:Type}(c:List Nat):List (Nat×a)->Bool
 | []=>ab
 |(i,_)::l=>iZ i c&&tn c l
theorem E3{a:Type}{r:List Nat}: ∀{l:List (Nat×a)},tn r l=ab-> ∀i v,(i,v)∈l->i∈r
 |(c,d)::l,h,i,v,hm=>by
  simp only[tn,b5] at h;rcases ef.1 hm with hm|hm
  ·cases hm;exact zQ h.1
  exact E3 h.2 i v hm
def xd{a:Type}:List (Nat×a)->List Nat
 | []=>[]
 |(i,_)::l=>i::xd l
theorem Nb{a:Type}{i:Nat}: ∀{l:List (Nat×a)},i∈xd l-> ∃v,(i,v)∈l
 |(e,c)::l,h=>by
  simp only[xd,List.mem_cons] at h;rcases h with rfl|h
  ·exact⟨c,en⟩
  obtain⟨v,d⟩:=Nb h;exact⟨v,ec _ d⟩
def Bi(a:List Nat)(t:Nat->V):Nat->V:=λi=>bif iZ i a then .c9 else t i
def S.cl(s:S)(a:List Nat)(c:List (Nat×V))(d:List (Nat×Option E))(e:List (Nat×Bool)):S:={t:=dn (Bi a s.t) c,H:=dn s.H d,u:=dn s.u e}
theorem Rel.IY{K:Ctx}{a:Act}(l:Rel K β s a w)(n:c.u=s.u)(x: ∀k e,c.H k=aa e-> ∃m,s.H k=aa m/\kC m e)(y: ∀i,dC (s.t i) (c.t i)):Rel K β c a w:=by
 have d: ∀b,own K β c.H b->own K β s.H b:=by
  rintro b (h|⟨id,p,q⟩)
  ·exact .inl h
  cases o:c.H id with
  |none=>exact bz o p
  |some e=>
   obtain⟨m,r,_⟩:=x id e o;exact .inr ⟨id,by rw[r];simp,q⟩
 refine {l with low:= ?_,eh:= ?_,eQ:= ?_,heap:= ?_,dB:= ?_}
 ·intro id h;rw[n];exact l.low id h
 ·intro id h;rw[n] at h;exact l.eh id h
 ·intro id b h;rw[n] at h;exact l.eQ id b h
 ·intro id e o;obtain⟨m,p,q⟩:=x id e o;obtain⟨r,z⟩:=l.heap id m p;refine⟨by rw[n];exact r,?_⟩;exact(q.yj z).mono (Ext.refl _ _) (λb _=>d b) (dS.refl _) (λ_ h=>h) (Shaped.refl _ _) λ_ _=>rfl
 intro i;exact(y i _ _ _ _ (l.dB i)).mono (Ext.refl _ _) (λb _=>d b) (dS.refl _) (Shaped.refl _ _)
theorem ad4{K:Ctx}{e:cX}{d:List (Nat×V)}{c:List (Nat×Option E)}{m:List (Nat×Bool)}(z:e.us=m)(A:tn r e.fL=ab)(B:tn (xd c) e.hs=ab)
  (F:tM (e.app s) d=kE d) (G:tS (e.app s) c=kE c):(e.app s).le K (s.cl r d c m):=by
 intro L a w Q;refine⟨L,Q.IY ?_ ?_ ?_⟩
 ·show dn s.u m=dn s.u e.us;rw[z]
 ·intro k x o;have o:dn s.H c k=aa x:=o;rcases nm c s.H k with ⟨p,n⟩|⟨v,p,n⟩
  ·rw[n] at o;refine⟨x,?_,kC.refl x⟩;show dn s.H e.hs k=aa x;rw[mz _ _ _ λv q=>?_]
   ·exact o
   obtain⟨X,R⟩:=Nb (E3 B k v q)
   grind
  rw[n] at o;subst o;exact FA G k x p
 intro i;show dC _ (dn (Bi r s.t) d i);rcases nm d (Bi r s.t) i with ⟨p,n⟩|⟨v,p,n⟩
 ·rw[n];unfold Bi;cases y:iZ i r with
  |true=>exact dC.c9 _
  |false=>
   show dC (dn s.t e.fL i) (s.t i);rw[mz _ _ _ (λv q=>by
    have hm:=E3 A i v q
    have: ∀{l:List Nat},i∈l->iZ i l=ab:=by
     intro l;induction l with
     |nil=>intro h;cases h
     |cons x l W=>
      intro h;simp only[iZ];rcases ef.1 h with rfl|h
      ·simp
      cases b4 x i with
      |true=>rfl
      |false=>exact W h
    rw[this hm] at y;cases y)]
   exact dC.refl _
 rw[n];exact Fk F i v p
theorem MM{a:Type}(f:Nat->a)(i:Nat):bc f i (f i)=f:=by
 funext j;by_cases c:j=i
 ·subst c;rw[cc]
 rw[cb _ _ _ _ c]
def Map.move(a:Map)(k c gen:Nat)(q:Option Nat):Map:=
 ⟨λi=>bif b4 i c then aa (q,1) else bif b4 i k then aa (aj,gen+1) else a i,λi b=>(i=c/\a.n k b)\/(i≠c/\i≠k/\a.n i b)⟩
theorem GD(h:i≠k):b4 i k=ak:=by
 cases a:b4 i k with
 |false=>rfl
 |true=>exact bz (c4 a) h
theorem Mk(c:Map)(k a gen:Nat)(q:Option Nat):c.move k a gen q a=aa (q,1):=by simp[Map.move]
theorem Mj(c:Map)(k a gen:Nat)(q:Option Nat)(h:k≠a):c.move k a gen q k=aa (aj,gen+1):=by simp[Map.move,GD h]
theorem KJ(a:Map)(k c gen:Nat)(q:Option Nat)(id:Nat)(h:id≠k)(d:id≠c):a.move k c gen q id=a id:=by simp[Map.move,GD h,GD d]
theorem acO(c:Map)(k d gen:Nat)(q:Option Nat)(a b:Nat)(h:a≠k)(e:a≠d):(c.move k d gen q).n a b↔c.n a b:=by simp[Map.move,h,e]
theorem abr{X:Map}(d:k≠i)(e:X k=aa (q,gen))(h:At (X.move k i gen q) n b):(n=i/\At X k b)\/(n≠k/\n≠i/\At X n b):=by
 rcases h with ⟨g,h⟩|⟨rfl,h⟩|⟨a,c,h⟩
 ·by_cases a:n=i
  ·subst a;rw[Mk] at h;cases h;exact .inl ⟨rfl,.inl ⟨gen,e⟩⟩
  by_cases c:n=k
  ·subst c;rw[Mj _ _ _ _ _ d] at h;cases h
  rw[KJ _ _ _ _ _ _ c a] at h;exact .inr ⟨c,a,.inl ⟨g,h⟩⟩
 ·exact .inl ⟨rfl,.inr h⟩
 exact .inr ⟨c,a,.inr h⟩
theorem cN.set{a:List V}{j:Nat}{c x:V}(h:cN β w X b (.cells a))(n:a[j]? =aa c)(o: ∀u,bp β w X c u->bp β w X x u):cN β w X b (.cells (a.set j x)):=by
 obtain⟨d,e,ty,k,l,m,p⟩:=h;refine⟨d,e,ty,k,l,by simpa using m,λi v u q r=>?_⟩
 grind
theorem Va{K:Ctx}(b k i j gen p:Nat){e:TypeId}{n:List (List T)}{Q:List dt}{R:Nat}{l:List (List T)}{W:List (Nat×Nat×V)}(X:cY K.dL k=ab)(Z:b≠k)
  (a7:s.H b=aa (.bd Q m R l ((i,j,.bn k gen p 0 n.length)::W))) (hk:s.H k=aa (.arr e gen p n)):
  s.le K {t:=s.t,H:=bc (bc s.H k aj) b (aa (.bd Q m R l ((i,j,.t (.bD n))::W))),u:=s.u}:=by
 intro y a w h;have qK:=eG X;generalize fC:(aa (.bd Q m R l ((i,j,.t (.bD n))::W)):Option E)=N;have aii:N≠aj:=by subst fC;simp
 have d: ∀o,own K y (bc (bc s.H k aj) b N) o->own K y s.H o:=by
  rintro o (f|⟨id,q,G⟩)
  ·exact .inl f
  by_cases z:id=b
  ·subst z;exact .inr ⟨id,by rw[a7];simp,G⟩
  rw[cb _ _ _ _ z] at q;by_cases r:id=k
  ·subst r;rw[cc] at q;exact bz rfl q
  rw[cb _ _ _ _ r] at q;exact .inr ⟨id,q,G⟩
 have A: ∀o,At y k o-> ¬own K y (bc (bc s.H k aj) b N) o:=by
  rintro o F (f|⟨id,q,G⟩)
  ·obtain⟨hW,j5⟩:=h.kz o f;rcases(h.fresh k o F).1 with g|kW
   ·exact j5 g
   omega
  have:=h.inj _ _ _ G F;subst this;rw[cb _ _ _ _ (Ne.symm Z),cc] at q;exact q rfl
 have D:=(h.heap k _ hk).2;refine⟨y,{h with heap:= ?_,dB:= ?_}⟩
 ·intro id e' c;have c:bc (bc s.H k aj) b N id=aa e':=c;by_cases z:id=b
  ·subst z;rw[cc] at c;subst c;cases fC;obtain⟨r,L⟩:=h.heap id _ a7;refine⟨r,L.1,?_⟩;rcases L.2 with ⟨aS,a2,a3⟩|⟨o,us,B,aS,a2,a3,a4,a5,jN,jb,fW⟩
   ·exact .inl ⟨aS,a2,a3⟩
   refine .inr ⟨o,us,B,aS,a2,a3,a4,λje ei I x u di cI hG=>?_,jN,jb,fW⟩;have M:=a5 je ei I x u di cI hG;refine⟨λv bR=>?_,λP=>?_⟩
   ·rcases ef.1 bR with e|bR
    ·simp only[Prod.mk.injEq] at e;obtain⟨rfl,rfl,rfl⟩:=e;obtain⟨U,d2⟩:=M.1 _ en;exact⟨.t _ _ (D.read U d A),d2⟩
    obtain⟨U,d2⟩:=M.1 v (ec _ bR);exact⟨U.mono (Ext.refl _ _) (λb _=>d b) (dS.refl _) (Shaped.refl _ _),d2⟩
   have hne: ¬(je=i/\ei=j):=by rintro⟨rfl,rfl⟩;exact P _ en
   refine(M.2 λv bR=>?_).mono (Ext.refl _ _) (λb _=>d b) (λ_ _=>rfl)
   grind
  rw[cb _ _ _ _ z] at c;by_cases r:id=k
  ·subst r;rw[cc] at c;cases c
  rw[cb _ _ _ _ r] at c;obtain⟨L,h6⟩:=h.heap id e' c;exact⟨L,h6.mono (Ext.refl _ _) (λb _=>d b) (dS.refl _) (λ_ h=>h) (Shaped.refl _ _) λ_ _=>rfl⟩
 intro i;exact(h.dB i).mono (Ext.refl _ _) (λb _=>d b) (dS.refl _) (Shaped.refl _ _)
theorem Zc{K:Ctx}{c:Nat}(b j k:Nat)(e:TypeId){A:List V}(G:s.u k=ak)(Z:s.H b=aa (.cells A))(I:A[j]? =aa (.t .fF)):
  s.le K {t:=s.t,H:=bc (bc s.H k (aa (.arr e 1 c []))) b (aa (.cells (A.set j (.bn k 1 c 0 0)))),u:=bc s.u k ab}:=by
 intro p a w h;have cM:=h.eh k G;have f:b≠k:=by intro e;subst e;have:=(h.heap b _ Z).1;rw[this] at G;cases G
 have q: ∀id x,p id=aa x->p.put k (aa (aj,1)) id=aa x:=λid x l=>by
  rw[fz _ _ _ _ (by intro e;subst e;rw[cM] at l;cases l)];exact l
 have L:=dS.of q;have o: ∀id n,At (p.put k (aa (aj,1))) id n->id≠k/\At p id n:=λid n l=>by
  by_cases r:id=k
  ·subst r;rcases l with ⟨g,l⟩|l
   ·rw[lW] at l;cases l
   exact bz l (h.eQ _ _ G)
  refine⟨r,?_⟩;rcases l with ⟨g,l⟩|l
  ·rw[fz _ _ _ _ r] at l;exact .inl ⟨g,l⟩
  exact .inr l
 have y: ∀n,own K (p.put k (aa (aj,1))) (bc (bc s.H k (aa (.arr e 1 c []))) b (aa (.cells (A.set j (.bn k 1 c 0 0))))) n->own K p s.H n:=by
  rintro n (l|⟨id,z,B⟩)
  ·exact .inl l
  obtain⟨D,Q⟩:=o id n B;by_cases X:id=b
  ·subst X;exact .inr ⟨id,by rw[Z];simp,Q⟩
  rw[cb _ _ _ _ X,cb _ _ _ _ D] at z;exact .inr ⟨id,z,Q⟩
 have R: ∀v u,bp p w (own K p s.H) v u->bp (p.put k (aa (aj,1))) w (own K (p.put k (aa (aj,1))) (bc (bc s.H k (aa (.arr e 1 c []))) b (aa (.cells (A.set j (.bn k 1 c 0 0)))))) v u:=
  λv u F=>F.mono (Ext.refl _ _) (λb _=>y b) L (Shaped.refl _ _)
 refine⟨p.put k (aa (aj,1)),{h with base:= ?_,low:= ?_,eh:= ?_,eQ:= ?_,inj:= ?_,fresh:= ?_,heap:= ?_,dB:=λi=>R _ _ (h.dB i)}⟩
 ·refine h.base.keep λid hid=>?_
  have:=h.low id hid;rw[fz _ _ _ _ (by intro e;subst e;rw[G] at this;cases this)]
 ·intro id hid;show bc s.u k ab id=ab;by_cases e:id=k
  ·subst e;exact cc _ _ _
  rw[cb _ _ _ _ e];exact h.low id hid
 ·intro id hid;have d:bc s.u k ab id=ak:=hid;by_cases e:id=k
  ·subst e;rw[cc] at d;cases d
  rw[cb _ _ _ _ e] at d;rw[fz _ _ _ _ e];exact h.eh id d
 ·intro id b hid;have d:bc s.u k ab id=ak:=hid;by_cases e:id=k
  ·subst e;rw[cc] at d;cases d
  rw[cb _ _ _ _ e] at d;exact h.eQ id b d
 ·intro id W n z B;exact h.inj id W n (o id n z).2 (o W n B).2
 ·intro id n l;exact h.fresh id n (o id n l).2
 intro id e' m;have m:bc (bc s.H k (aa (.arr e 1 c []))) b (aa (.cells (A.set j (.bn k 1 c 0 0)))) id=aa e':=m;show bc s.u k ab id=ab/\cN _ _ (own K _ (bc (bc s.H k (aa (.arr e 1 c []))) b (aa (.cells (A.set j (.bn k 1 c 0 0)))))) id e';by_cases Q:id=b
 ·subst Q;rw[cc] at m;cases m;rw[cb _ _ _ _ f];obtain⟨X,n,P,ty,T,U,g3,M⟩:=h.heap id _ Z;refine⟨X,n,P,ty,q _ _ T,U,by simpa using g3,λi v u F N=>?_⟩;by_cases r:i=j
  ·subst r;have E:=(bX.1 I).1;rw[hU E] at F;cases F;have z:=M i _ u I N;cases z with
   |t _ _ B=>cases B;exact .iO k 1 c (cV _) (cc _ _ _)
  rw[jm (Ne.symm r)] at F;exact R _ _ (M i v u F N)
 rw[cb _ _ _ _ Q] at m;by_cases r:id=k
 ·subst r;rw[cc] at m;cases m;exact⟨cc _ _ _,cV _,Or.inl ⟨cc _ _ _,rfl⟩⟩
 rw[cb _ _ _ _ r] at m;obtain⟨z,B⟩:=h.heap id e' m;exact⟨by rw[cb _ _ _ _ r];exact z,B.mono (Ext.refl _ _) (λb _=>y b) L (q id) (Shaped.refl _ _) λ_ _=>rfl⟩
def l2(k:Nat):Nat->Bool:=λid=>bif b4 id k then ak else ab
def rY(k:Nat)(v:V):V:=bif v.ok (l2 k) then v else .c9
def Gh(k:Nat):E->Option E
 | .cells cs=>bif gI (l2 k) cs then aa (.cells cs) else aj
 | .bd d m gen a c=>bif uc (l2 k) c then aa (.bd d m gen a c) else aj
 |e=>aa e
theorem A1(h:n≠k):l2 k n=ab:=by
 have:b4 n k=ak:=by cases a:b4 n k with
  |false=>rfl
  |true=>exact bz (c4 a) h
 simp[l2,this]
theorem wR(h:l2 k n=ab):n≠k:=by intro e;subst e;simp[l2] at h
def E.mP(n:Nat):E->E
 | .arr e _ z r=> .arr e n z r
 | .bd a m _ r c=> .bd a m n r c
 |e=>e
abbrev E.CD:E->E:=E.mP 1
def E.ns:E->List (Nat×Nat×V)
 | .bd _ _ _ _ a=>a
 |_=>[]
theorem cN.mP{β':Map}(h:cN β w X k e)(d:1<=n)(z:e.gen=aa g)(s:β k=aa (q,g))(y:β' L=aa (q,n))(H: ∀b,β'.n L b↔β.n k b)(Q: ∀b,Z b->X b)
  (W: ∀i j v,(i,j,v)∈e.ns-> ∀u,bp β w X v u->bp β' w Z v u):cN β' w Z L (e.mP n):=by
 cases e with
 |cells=>cases z
 |arr ty f R l=>
  cases z;refine⟨d,?_⟩;rcases h.2 with ⟨aS,a2⟩|⟨b,A,aS,a2,a3,a4,a5⟩
  ·rw[s] at aS;cases aS;exact .inl ⟨y,a2⟩
  rw[s] at aS;cases aS;exact .inr ⟨b,A,y,a2,a3,a4,λi j a x u o p r=>(a5 i j a x u o p r).mono (Ext.refl _ _) λb _=>Q b⟩
 |bd D m f l I=>
  cases z;refine⟨d,?_⟩;rcases h.2 with ⟨aS,a2,a0⟩|⟨b,A,B,aS,a2,a3,a4,a5,jN,jb,fW⟩
  ·rw[s] at aS;cases aS;exact .inl ⟨y,a2,λc t=>a0 c ((H c).1 t)⟩
  rw[s] at aS;cases aS;exact .inr ⟨b,A,B,y,a2,a3,a4,λi j a x u o p r=>⟨λv F=>⟨W i j v F _ ((a5 i j a x u o p r).1 v F).1,((a5 i j a x u o p r).1 v F).2⟩,λG=>((a5 i j a x u o p r).2 G).mono (Ext.refl _ _) (λc _=>Q c) λ_ _=>rfl⟩,jN,jb,λc=>(H c).trans (fW c)⟩
theorem MZ{T:Map}{v:V}(h:bp T w X v u)(a: ∀b,Z b->X b):bp (T.put k (aa (q,g+1))) w Z (rY k v) u:=by
 unfold rY;cases c:v.ok (l2 k) with
 |false=>exact .c9 _
 |true=>exact h.under a (λid hid=>fz _ _ _ _ (wR hid)) c
theorem L8{T:Map}{y:E}(h:cN T w X n x)(e: ∀b,Z b->X b)(i:n≠k)(a:Gh k x=aa y):cN (T.put k (aa (q,g+1))) w Z n y:=by
 unfold Gh at a;split at a
 ·rename_i cs;cases c:gI (l2 k) cs with
  |false=>rw[c] at a;cases a
  |true=>rw[c] at a;cases a;exact h.under e (λn hid=>fz _ _ _ _ (wR hid)) (A1 i) c
 ·rename_i l;cases c:uc (l2 k) l with
  |false=>rw[c] at a;cases a
  |true=>rw[c] at a;cases a;exact h.under e (λn hid=>fz _ _ _ _ (wR hid)) (A1 i) c
 cases a;refine h.under e (u:=l2 k) (λn hid=>fz _ _ _ _ (wR hid)) (A1 i) ?_;cases x with
 |cells cs=>rename_i o _;exact bz rfl (o cs)
 |arr=>rfl
 |bd p m gen d l=>rename_i _ o;exact bz rfl (o p m gen d l)
def qm(k:Nat)(H:Nat->Option E):Nat->Option E:=λid=>match H id with
 |some e=>Gh k e
 |none=>aj
theorem Rel.Rg{K:Ctx}{s':S}{a:Act}(h:Rel K β s a w)(k g gen:Nat){G:Option Nat}(B:s.H k=aa e)(f:e.gen=aa gen)(L:e.ns=[])(Q:k<K.dL)(R:K.gM k=aa (G,g))
  (n:s'.u=s.u) (W:s'.H k=aa (e.mP (g+1))) (q:Option Nat) (F:β k=aa (q,gen))
  (D: ∀id x,id≠k->s'.H id=aa x->s.H id≠aj/\ ∀X,(∀b,X b->own K β s.H b)->cN (β.put k (aa (q,g+1))) w X id x)
  (P: ∀i,∀X,(∀b,X b->own K β s.H b)->bp (β.put k (aa (q,g+1))) w X (s'.t i) (a.tmps.getD i undef)):Rel K (β.put k (aa (q,g+1))) s' a w:=by
 have Z:1<=gen:=(oZ (h.heap k _ B).2 f).1;have o:=(h.heap k _ B).1;have p:1<=g/\ ∀b,q=aa b->G=aa b\/K.w0.heap.size<=b:=by
  rcases h.base k Q with I|⟨U,V,q2,g2,aS,a2,a3,a4,a5⟩
  ·rw[F,R] at I;cases I;exact⟨Z,λb a7=> .inl a7⟩
  rw[R] at aS;cases aS;rw[F] at a3;cases a3;exact⟨a2,a5⟩
 have c: ∀id b,At (β.put k (aa (q,g+1))) id b->At β id b:=λid b a7=>by
  rcases a7 with ⟨T,a7⟩|a7
  ·by_cases d:id=k
   ·subst d;rw[lW] at a7;cases a7;exact .inl ⟨gen,F⟩
   rw[fz _ _ _ _ d] at a7;exact .inl ⟨T,a7⟩
  exact .inr a7
 have l: ∀b,own K (β.put k (aa (q,g+1))) s'.H b->own K β s.H b:=by
  rintro b (m|⟨id,r,z⟩)
  ·exact .inl m
  refine .inr ⟨id,?_,c id b z⟩;by_cases d:id=k
  ·subst d;rw[B];simp
  cases m:s'.H id with
  |none=>exact bz m r
  |some x=>exact(D id x d m).1
 refine {h with base:= ?_,low:= ?_,eh:= ?_,eQ:=λid b hid=>h.eQ id b (n▸hid),inj:= ?_,fresh:=λid b a7=>h.fresh id b (c id b a7),heap:= ?_,dB:=λi=>P i _ l}
 ·intro id hid;by_cases d:id=k
  ·subst d;exact .inr ⟨G,g,q,g+1,R,p.1,cc _ _ _,oO _,p.2⟩
  rw[fz _ _ _ _ d];exact h.base id hid
 ·intro id hid;rw[n];exact h.low id hid
 ·intro id hid;rw[n] at hid;rw[fz _ _ _ _ (by intro e;subst e;rw[o] at hid;cases hid)];exact h.eh id hid
 ·intro id A b r z;exact h.inj id A b (c id b r) (c A b z)
 intro id x m;by_cases d:id=k
 ·subst d;rw[W] at m;cases m;exact⟨by rw[n];exact o,(h.heap id _ B).2.mP O f F (cc _ _ _) (λ_=>Iff.rfl) l λi j v M=>by rw[L] at M;cases M⟩
 obtain⟨r,z⟩:=D id x d m;refine⟨?_,z _ l⟩;rw[n];cases N:s.H id with
 |none=>exact bz N r
 |some y=>exact(h.heap id y N).1
theorem Lw{T:Map}(l:T k=aa (q,gen))(h:bp T w X (.bn k gen i m L) u):bp (T.put k (aa (q,g+1))) w Z (.bn k (g+1) i m L) u:=by
 rcases fY h l with ⟨c,b,n,d,rfl,a,o,p,e,r,s⟩|⟨a,rfl,rfl,rfl⟩
 ·subst a;exact .bn k (g+1) i m L c b n d O (cc _ _ _) o p e r s
 subst a;exact .iO k (g+1) i O (cc _ _ _)
theorem Ea{K:Ctx}(i k g gen c d l:Nat)(L:df k K.dL=ab)(Q:s.t i= .bn k gen c d l)(A:s.H k=aa e)(B:e.gen=aa gen)(o:e.ns=[])(p: ∃q,K.gM k=aa (q,g)):
  s.le K {t:=bc (λj=>rY k (s.t j)) i (.bn k (g+1) c d l),H:=bc (qm k s.H) k (aa (e.mP (g+1))),u:=s.u}:=by
 intro R a w h;obtain⟨W,p⟩:=p;obtain⟨_,q,F⟩:=oZ (h.heap k _ A).2 B;refine⟨_,h.Rg (s':={t:=bc (λj=>rY k (s.t j)) i (.bn k (g+1) c d l),H:=bc (qm k s.H) k (aa (e.mP (g+1))),u:=s.u}) k g gen A B o (by simpa[Nat.blt_eq] using L) p rfl (cc _ _ _) q F ?_ ?_⟩
 ·intro id x n m;have m:bc (qm k s.H) k (aa (e.mP (g+1))) id=aa x:=m;rw[cb _ _ _ _ n] at m;unfold qm at m;cases r:s.H id with
  |none=>rw[r] at m;cases m
  |some y=>
   rw[r] at m;exact⟨aW,λX z=>L8 (h.heap id y r).2 z n m⟩
 intro j X z;show bp _ w X (bc (λj=>rY k (s.t j)) i (.bn k (g+1) c d l) j) _;by_cases G:j=i
 ·subst G;rw[cc];exact Lw F (Q▸h.dB j)
 rw[cb _ _ _ _ G];exact MZ (h.dB j) z
theorem nl{K:Ctx}(b j k g gen c l m:Nat){cs:List V}(cG:df k K.dL=ab)(A:s.H b=aa (.cells cs))(B:cs[j]? =aa (.bn k gen c l m))(F:gI (l2 k) (cs.set j .c9)=ab)
  (z:s.H k=aa e) (G:e.gen=aa gen) (L:e.ns=[]) (Q: ∃q,K.gM k=aa (q,g)):
  s.le K {t:=λj=>rY k (s.t j),H:=bc (bc (qm k s.H) k (aa (e.mP (g+1)))) b (aa (.cells (cs.set j (.bn k (g+1) c l m)))),u:=s.u}:=by
 intro R a w h;obtain⟨ye,Q⟩:=Q;obtain⟨_,q,D⟩:=oZ (h.heap k _ z).2 G;have n:b≠k:=by intro e';subst e';rw[A] at z;cases z;cases G
 refine⟨_,h.Rg (s':={t:=λj=>rY k (s.t j),H:=bc (bc (qm k s.H) k (aa (e.mP (g+1)))) b (aa (.cells (cs.set j (.bn k (g+1) c l m)))),u:=s.u}) k g gen z G L (by simpa[Nat.blt_eq] using cG) Q rfl (by show bc _ b _ k=_;rw[cb _ _ _ _ (Ne.symm n),cc]) q D ?_ ?_⟩
 ·intro id x o d;have d:bc (bc (qm k s.H) k (aa (e.mP (g+1)))) b (aa (.cells (cs.set j (.bn k (g+1) c l m)))) id=aa x:=d;by_cases p:id=b
  ·subst p;rw[cc] at d;cases d;refine⟨by rw[A];simp,λX r=>?_⟩;have I:=(h.heap id _ A).2;have h6:cN R w (own K R s.H) id (.cells (cs.set j .c9)):=I.set B λu _=> .c9 u;have oj:=h6.under (u:=l2 k) (β':=R.put k (aa (q,g+1))) r (λid hid=>fz _ _ _ _ (wR hid)) (A1 n) F;obtain⟨hF,us,ty,M,N,g3,g4⟩:=oj;obtain⟨cI,rf,ahL,P,T,f3,f4⟩:=I;rw[fz _ _ _ _ n,P] at M;cases M;rw[T] at N;cases N;refine⟨_,_,_,by rw[fz _ _ _ _ n];exact P,T,by simpa using f3,λi v u W hu=>?_⟩;by_cases U:i=j
   ·subst U;have Z:=(bX.1 B).1;rw[hU Z] at W;cases W;exact Lw D (f4 i _ u B hu)
   rw[jm (Ne.symm U)] at W
   grind
  rw[cb _ _ _ _ p,cb _ _ _ _ o] at d;unfold qm at d;cases f:s.H id with
  |none=>rw[f] at d;cases d
  |some y=>
   rw[f] at d;exact⟨aW,λX r=>L8 (h.heap id y f).2 r o d⟩
 intro j X r;exact MZ (h.dB j) r
inductive mZ (p:V->V->Prop):V->V->Prop
 |same (v:V):mZ p v v
 |put {v dO:V} (h:p v dO):mZ p v dO
 |agg {cs He:List V} (cC:He.length=cs.length) (h: ∀(i:Nat) c r4,cs[i]? =aa c->He[i]? =aa r4->mZ p c r4):mZ p (.agg cs) (.agg He)
theorem GG{p:V->V->Prop}{U T:Map}{a:World}(e: ∀v u,bp U w X v u->bp T a Z v u)(k: ∀v x u,p v x->bp U w X v u->bp T a Z x u){v x:V}(h:mZ p v x): ∀u,bp U w X v u->bp T a Z x u:=by
 induction h with
 |same v=>exact e v
 |put h=>exact λu=>k _ _ u h
 |agg l h m=>
  intro u d;cases d with
  |agg _ n o q=>
   refine .agg _ n O λi r u c d=>?_;have aP:=(bX.1 c).1;have bN:=bo (show i<_ by rw[<-l];exact aP);exact m i _ r bN c u (q i _ u bN d)
def vZ(p:V->V->Prop)(e d:E):Prop:=d=e\/ ∃cs a,e= .cells cs/\d= .cells a/\a.length=cs.length/\ ∀(i:Nat) c h,cs[i]? =aa c->a[i]? =aa h->mZ p c h
theorem vZ.yj{p:V->V->Prop}{U T:Map}(c: ∀x,U n=aa x->T n=aa x)(l: ∀e,cN U w X n e->cN T w Z n e)(m: ∀v u,bp U w X v u->bp T w Z v u)(o: ∀v d u,p v d->bp U w X v u->bp T w Z d u){e':E}(h:vZ p e e')(k:cN U w X n e):cN T w Z n e':=by
 rcases h with rfl|⟨cs,q,rfl,rfl,r,h⟩
 ·exact l _ k
 obtain⟨b,s,ty,y,z,G,A⟩:=k;refine⟨b,s,ty,c _ y,z,O,λi B u a F=>?_⟩;have aP:=(bX.1 a).1;have bN:=bo (show i<_ by rw[<-r];exact aP);exact GG m o (h i _ B bN a) u (A i _ u bN F)
theorem Vb{K:Ctx}(Z:Nat->V)(o:Nat->Option E)(k gen d:Nat){e:TypeId}{c:List (List T)}(F:cY K.dL k=ab)(D:s.H k=aa (.arr e gen d c))
  (I: ∀i,mZ (λv p=>v= .bn k gen d 0 c.length/\p= .t (.bD c)) (s.t i) (Z i)) (M:o k=aj)
  (f: ∀id q,o id=aa q-> ∃r,s.H id=aa r/\vZ (λv p=>v= .bn k gen d 0 c.length/\p= .t (.bD c)) r q):s.le K {t:=Z,H:=o,u:=s.u}:=by
 intro l a w h;have N:=eG F;have m: ∀n,own K l o n->own K l s.H n:=by
  rintro n (G|⟨id,A,x⟩)
  ·exact .inl G
  cases B:o id with
  |none=>exact bz B A
  |some q=>obtain⟨r,L,_⟩:=f id q B;exact .inr ⟨id,by rw[L];simp,x⟩
 have y: ∀n,At l k n-> ¬own K l o n:=by
  rintro n z (G|⟨id,A,x⟩)
  ·obtain⟨hW,P⟩:=h.kz n G;rcases(h.fresh k n z).1 with Q|U
   ·exact P Q
   omega
  have:=h.inj _ _ _ x z
  grind
 have R:=(h.heap k _ D).2;have g: ∀v u,bp l w (own K l s.H) v u->bp l w (own K l o) v u:=λv u W=>W.mono (Ext.refl _ _) (λb _=>m b) (dS.refl _) (Shaped.refl _ _);have j: ∀v p u,(v= .bn k gen d 0 c.length/\p= .t (.bD c))->bp l w (own K l s.H) v u->bp l w (own K l o) p u:=by
  rintro v p u ⟨rfl,rfl⟩ W;exact .t _ _ (R.read W m y)
 refine⟨l,{h with heap:= ?_,dB:= ?_}⟩
 ·intro id q X;obtain⟨r,A,x⟩:=f id q X;obtain⟨L,h4⟩:=h.heap id r A;exact⟨L,x.yj (λ_ h=>h) (λe B=>B.mono (Ext.refl _ _) (λb _=>m b) (dS.refl _) (λ_ h=>h) (Shaped.refl _ _) λ_ _=>rfl) g j h4⟩
 intro i;exact GG g j (I i) _ (h.dB i)
theorem WA{K:Ctx}(l4:Nat->V)(z:Nat->Option E)(k ct gen l X:Nat){B:E}(U:cY K.dL k=ab)(Z:k≠ct)(N:s.H k=aa B)(bG:B.gen=aa gen)(hu:s.u ct=ak)
  (gF: ∀i,mZ (λv L=>v= .bn k gen l 0 X/\L= .bn ct 1 l 0 X) (s.t i) (l4 i)) (aeK:z k=aj) (f:z ct=aa B.CD)
  (hH: ∀id e',id≠ct->z id=aa e'-> ∃B,s.H id=aa B/\vZ (λv L=>v= .bn k gen l 0 X/\L= .bn ct 1 l 0 X) B e'):
  s.le K {t:=l4,H:=z,u:=bc s.u ct ab}:=by
 intro A a w h;have qK:=eG U;obtain⟨kV,q,hq⟩:=oZ (h.heap k _ N).2 bG;have HG:=(h.heap k _ N).1;have cM:=h.eh ct hu;have aiw:K.dL<=ct:=by
  apply Nat.le_of_not_lt;intro hlt;rw[h.low ct hlt] at hu;cases hu
 let d:=A.move k ct gen q;have di:d ct=aa (q,1):=Mk _ _ _ _ _;have cI:d k=aa (aj,gen+1):=Mj _ _ _ _ _ Z;have P: ∀id,id≠k->id≠ct->d id=A id:=λid m r=>KJ _ _ _ _ _ _ m r;have o: ∀id b,At d id b->(id=ct/\At A k b)\/(id≠k/\id≠ct/\At A id b):=by
  intro id b Q;exact abr Z hq Q
 have D:dS A d:=by
  intro id q2 g F
  grind
 have y: ∀b,own K d z b->own K A s.H b:=by
  rintro b (F|⟨id,m,r⟩)
  ·exact .inl F
  rcases o id b r with ⟨rfl,p⟩|⟨p,I,G⟩
  ·exact .inr ⟨k,by rw[N];simp,p⟩
  cases T:z id with
  |none=>exact bz T m
  |some e'=>obtain⟨B,R,_⟩:=hH id e' I T;exact .inr ⟨id,by rw[R];simp,G⟩
 have hm: ∀v u,bp A w (own K A s.H) v u->bp d w (own K d z) v u:=λv u bR=>bR.mono (Ext.refl _ _) (λb _=>y b) D (Shaped.refl _ _);have hp: ∀v L u,(v= .bn k gen l 0 X/\L= .bn ct 1 l 0 X)->bp A w (own K A s.H) v u->bp d w (own K d z) L u:=by
  rintro v L u ⟨rfl,rfl⟩ bR;rcases fY bR hq with ⟨cap,b,n,l5,rfl,W,hw,hs,so,cC,BL⟩|⟨W,m,r,rfl⟩
  ·subst W;exact .bn ct 1 l 0 _ cap b n l5 (cV _) di hw hs so cC BL
  subst W;rw[r];exact .iO ct 1 l (cV _) di
 refine⟨d,{h with base:= ?_,low:= ?_,eh:= ?_,eQ:= ?_,inj:= ?_,fresh:= ?_,heap:= ?_,dB:= ?_}⟩
 ·exact h.base.keep λid hid=>P id O O
 ·intro id hid;show bc s.u ct ab id=ab;rw[cb _ _ _ _ O];exact h.low id hid
 ·intro id hid;have c:bc s.u ct ab id=ak:=hid;by_cases m:id=ct
  ·subst m;rw[cc] at c;cases c
  rw[cb _ _ _ _ m] at c;rw[P id (by intro e;subst e;rw[HG] at c;cases c) m];exact h.eh id c
 ·intro id b hid Q;have c:bc s.u ct ab id=ak:=hid;rcases Q with ⟨m,_⟩|⟨m,_,Q⟩
  ·subst m;rw[cc] at c;cases c
  rw[cb _ _ _ _ m] at c;exact h.eQ id b c Q
 ·intro id lk b m r;rcases o id b m with ⟨rfl,p⟩|⟨p,I,G⟩<;>rcases o lk b r with ⟨e2,R⟩|⟨R,oj,pt⟩
  ·exact e2.symm
  ·exact bz (h.inj _ _ b pt p) R
  ·subst e2;exact bz (h.inj _ _ b G R) p
  exact h.inj _ _ b G pt
 ·intro id b Q;rcases o id b Q with ⟨rfl,p⟩|⟨p,I,G⟩
  ·refine⟨?_,(h.fresh _ _ p).2⟩;exact(h.fresh _ _ p).1
  exact h.fresh id b G
 ·intro id e' F;have M:z id=aa e':=F;clear F;show bc s.u ct ab id=ab/\cN d w (own K d z) id e';by_cases m:id=ct
  ·subst m;rw[f] at M;cases M;exact⟨cc _ _ _,(h.heap k _ N).2.mP (cV _) bG hq di (λb=>by simp[d,Map.move]) y λ_ _ v _ u=>hm v u⟩
  have r:id≠k:=by intro e;subst e;rw[aeK] at M;cases M
  obtain⟨B,G,R⟩:=hH id e' m M;obtain⟨p,I⟩:=h.heap id B G;rw[cb _ _ _ _ m];refine⟨p,R.yj (λx F=>by rw[P id r m];exact F) (λe T=>T.mono (Ext.refl _ _) (λb _=>y b) D (λx F=>by rw[P id r m];exact F) (Shaped.refl _ _) (λ_ _=>rfl) λb=>acO _ _ _ _ _ _ _ r m) hm hp I⟩
 intro j;exact GG hm hp (gF j) _ (h.dB j)
mutual
def pU(k g z n:Nat)(c:V):V->V×List du
 | .bn h gen a d e=>match b4 h k&&b4 d 0 with
  |true=>(c,[.q gen g,.q a z,.q e n])
  |false=>(.bn h gen a d e,[])
 | .agg cs=>(.agg (mO k g z n c cs).1,(mO k g z n c cs).2)
 |v=>(v,[])
def mO(k g z n:Nat)(a:V):List V->List V×List du
 | []=>([],[])
 |c::cs=>((pU k g z n a c).1::(mO k g z n a cs).1,(pU k g z n a c).2++(mO k g z n a cs).2)
end
theorem El(k g z n:Nat)(a:V): ∀cs,(mO k g z n a cs).1.length=cs.length
 | []=>rfl
 |c::cs=>by simp[mO,El k g z n a cs]
mutual
theorem OS(k g z n:Nat)(c:V): ∀v,cr (pU k g z n c v).2->mZ (λa b=>a= .bn k g z 0 n/\b=c) v (pU k g z n c v).1
 | .bn l gen i e m,h=>by
  unfold pU at h⊢;cases d:b4 l k&&b4 e 0 with
  |false=>exact .same _
  |true=>
   simp only[d] at h⊢;simp only[b5] at d;obtain⟨rfl,rfl,rfl,_⟩:=h;have o:=c4 d.1;have p:=c4 d.2;subst o;subst p;exact .put ⟨rfl,rfl⟩
 | .agg cs,h=>by
  simp only[pU] at h⊢;exact .agg (El _ _ _ _ _ _) (Gc k g z n c cs h)
 | .t _,_| .bQ _,_| .ref _ _,_| .aQ _,_| .cK _ _ _ _ _,_| .fn _ _,_| .c9,_=>by simp only[pU];exact .same _
theorem Gc(k g z n:Nat)(d:V): ∀cs,cr (mO k g z n d cs).2-> ∀(i:Nat) c l,cs[i]? =aa c->(mO k g z n d cs).1[i]? =aa l->mZ (λa b=>a= .bn k g z 0 n/\b=d) c l
 | [],_,i,c,l,h,_=>by simp at h
 |o::cs,m,0,c,l,h,e=>by
  simp only[mO] at m e;simp at h e;subst h;subst e;exact OS k g z n d o (cr.app m).1
 |o::cs,m,i+1,c,l,h,e=>by simp only[mO] at m e;simp at h e;exact Gc k g z n d cs (cr.app m).2 i c l h e
end
def iR(k g z n:Nat)(a:V)(s:S):List Nat->List (Nat×V)×List du
 | []=>([],[])
 |i::is=>((i,(pU k g z n a (s.t i)).1)::(iR k g z n a s is).1,(pU k g z n a (s.t i)).2++(iR k g z n a s is).2)
def gK(k g z n:Nat)(a:V)(s:S):List Nat->List (Nat×Option E)×List du
 | []=>([],[])
 |b::c=>match s.H b with
  |some (.cells cs)=>((b,aa (.cells (mO k g z n a cs).1))::(gK k g z n a s c).1,(mO k g z n a cs).2++(gK k g z n a s c).2)
  |_=>gK k g z n a s c
theorem Gb{k g z n:Nat}{x:V}{s:S}: ∀{is:List Nat},cr (iR k g z n x s is).2-> ∀i v,(i,v)∈(iR k g z n x s is).1->mZ (λa b=>a= .bn k g z 0 n/\b=x) (s.t i) v
 |i0::is,c,i,v,h=>by
  simp only[iR] at c h;rcases ef.1 h with h|h
  ·cases h;exact OS _ _ _ _ _ _ (cr.app c).1
  exact Gb (cr.app c).2 i v h
theorem AY{k g z n:Nat}{x:V}{s:S}: ∀{i:List Nat},cr (gK k g z n x s i).2-> ∀b e,(b,e)∈(gK k g z n x s i).1-> ∃m o,s.H b=aa m/\e=aa o/\vZ (λa b=>a= .bn k g z 0 n/\b=x) m o
 |p::i,c,b,e,h=>by
  unfold gK at c h;split at h
  ·rename_i cs d;simp only[d] at c;rcases ef.1 h with h|h
   ·cases h;exact⟨_,_,d,rfl,.inr ⟨cs,_,rfl,rfl,El _ _ _ _ _ _,Gc _ _ _ _ _ _ (cr.app c).1⟩⟩
   exact AY (cr.app c).2 b e h
  rename_i d;split at c
  ·rename_i cs l;exact bz l (d cs)
  exact AY c b e h
theorem Ov{k:Nat}: ∀{l:List Nat},k∈l->iZ k l=ab
 |x::l,h=>by
  simp only[iZ];rcases ef.1 h with rfl|h
  ·simp
  cases b4 x k with
  |true=>rfl
  |false=>exact Ov h
theorem wm(h:(!iZ k l)=ab):k∉l:=λa=>by rw[Ov a] at h;cases h
theorem Ob{ct:Nat}(h:(!Nat.beq k ct)=ab):k≠ct:=λe=>by subst e;simp at h
theorem H1{k g z n:Nat}{x:V}{s:S}: ∀{a:List Nat} {b:Nat} {e:Option E},(b,e)∈(gK k g z n x s a).1->b∈a
 |c::a,b,e,h=>by
  unfold gK at h;split at h
  ·rcases ef.1 h with h|h
   ·cases h;exact en
   exact ec _ (H1 h)
  exact ec _ (H1 h)
theorem adZ{K:Ctx}{e:TypeId}{a:List (List T)}{L:List Nat}(h:cY K.dL k=ab)(m:s.H k=aa (.arr e gen n a))(o:k∉r)
  (p:cr (iR k gen n a.length (.t (.bD a)) s L).2) (q:cr (gK k gen n a.length (.t (.bD a)) s r).2):
  s.le K ((⟨(iR k gen n a.length (.t (.bD a)) s L).1,(k,aj)::(gK k gen n a.length (.t (.bD a)) s r).1,[]⟩:cX).app s):=by
 refine Vb _ _ k gen n h m (λi=>?_) ?_ λid e' c=>?_
 ·rcases nm (iR k gen n a.length (.t (.bD a)) s L).1 s.t i with ⟨_,d⟩|⟨v,l,d⟩
  ·rw[d];exact .same _
  rw[d];exact Gb p i v l
 ·show dn (bc s.H k aj) _ k=aj;rw[mz _ _ _ λv w=>o (H1 w),cc]
 have c:dn (bc s.H k aj) (gK k gen n a.length (.t (.bD a)) s r).1 id=aa e':=c;rcases nm (gK k gen n a.length (.t (.bD a)) s r).1 (bc s.H k aj) id with ⟨_,d⟩|⟨v,l,d⟩
 ·rw[d] at c;by_cases hid:id=k
  ·subst hid;rw[cc] at c;cases c
  rw[cb _ _ _ _ hid] at c;exact⟨e',c,.inl rfl⟩
 rw[d] at c;subst c;obtain⟨x,y,z,A,B⟩:=AY q id _ l
 grind
theorem Pw{K:Ctx}(o:cY K.dL k=ab)(d:k≠m)(x:s.H k=aa e)(y:e.gen=aa gen)(z:s.u m=ak)(A:k∉r)(p:m∉r)
  (B:cr (iR k gen n L (.bn m 1 n 0 L) s l).2) (F:cr (gK k gen n L (.bn m 1 n 0 L) s r).2):
  s.le K ((⟨(iR k gen n L (.bn m 1 n 0 L) s l).1,(k,aj)::(m,aa e.CD)::(gK k gen n L (.bn m 1 n 0 L) s r).1,[(m,ab)]⟩:cX).app s):=by
 refine WA _ _ k m gen n L o d x y z (λi=>?_) ?_ ?_ λid e' h a=>?_
 ·rcases nm (iR k gen n L (.bn m 1 n 0 L) s l).1 s.t i with ⟨_,c⟩|⟨v,q,c⟩
  ·rw[c];exact .same _
  rw[c];exact Gb B i v q
 ·show dn (bc (bc s.H k aj) m _) _ k=aj;rw[mz _ _ _ λv w=>A (H1 w),cb _ _ _ _ d,cc]
 ·show dn (bc (bc s.H k aj) m _) _ m=_;rw[mz _ _ _ λv w=>p (H1 w),cc]
 have a:dn (bc (bc s.H k aj) m (aa e.CD)) (gK k gen n L (.bn m 1 n 0 L) s r).1 id=aa e':=a;rcases nm (gK k gen n L (.bn m 1 n 0 L) s r).1 (bc (bc s.H k aj) m (aa e.CD)) id with ⟨_,c⟩|⟨v,q,c⟩
 ·rw[c,cb _ _ _ _ h] at a;by_cases hid:id=k
  ·subst hid;rw[cc] at a;cases a
  rw[cb _ _ _ _ hid] at a;exact⟨e',a,.inl rfl⟩
 rw[c] at a;subst a;obtain⟨e,G,Q,R,W⟩:=AY F id _ q
 grind
theorem U'{K:Ctx}(B:Nat->V)(k:Nat){G:List T}(L:cY K.dL k=ab)(X:s.H k=aa (.cells (G.map .t)))
  (Z: ∀i,B i=s.t i\/ ∃c,s.t i= .ref k c/\B i= .aQ (G.drop c)):s.le K {t:=B,H:=bc s.H k aj,u:=s.u}:=by
 intro q a w h;have f:=eG L;obtain⟨b,p,ty,F,g,R,v⟩:=(h.heap k _ X).2;have m: ∀Q,own K q (bc s.H k aj) Q->own K q s.H Q:=by
  rintro Q (r|⟨id,n,o⟩)
  ·exact .inl r
  by_cases hid:id=k
  ·subst hid;rw[cc] at n;exact bz rfl n
  rw[cb _ _ _ _ hid] at n;exact .inr ⟨id,n,o⟩
 have y: ¬own K q (bc s.H k aj) b:=by
  rintro(r|⟨id,n,o⟩)
  ·obtain⟨hW,D⟩:=h.kz b r;rcases(h.fresh k b (.inl ⟨_,F⟩)).1 with d|E
   ·exact D d
   omega
  have:=h.inj _ _ _ o (.inl ⟨_,F⟩);subst this;rw[cc] at n;exact n rfl
 refine⟨q,{h with heap:= ?_,dB:= ?_}⟩
 ·intro id e' l;have l:bc s.H k aj id=aa e':=l;by_cases hid:id=k
  ·subst hid;rw[cc] at l;cases l
  rw[cb _ _ _ _ hid] at l;obtain⟨n,o⟩:=h.heap id e' l;exact⟨n,o.mono (Ext.refl _ _) (λb _=>m b) (dS.refl _) (λ_ h=>h) (Shaped.refl _ _) λ_ _=>rfl⟩
 intro j;show bp q w _ (B j) _;rcases Z j with I|⟨c,n,o⟩
 ·rw[I];exact(h.dB j).mono (Ext.refl _ _) (λb _=>m b) (dS.refl _) (Shaped.refl _ _)
 rw[o];have W:=h.dB j;rw[n] at W;obtain⟨cI,z,M⟩:=rA W;rw[F] at z;cases z;rw[M];have a7:=(h.fresh k b (.inl ⟨_,F⟩)).2;refine .aQ _ b c (λi=>p.getD (c+i) undef) a7 y (λi N=>?_) λi x r=>?_
 ·have d:c+i<p.size:=by simp at N R;omega
  simp[World.cell?,g,d]
 have A:G[c+i]? =aa x:=by simpa using r
 have d:c+i<p.size:=by have:=(bX.1 A).1;simp at R;omega
 have P:=v (c+i) (.t x) p[c+i] (by simp[A]) (by simp[d]);have e:p.getD (c+i) undef=p[c+i]:=by simp[d]
 rw[e];cases P with
 |t _ _ U=>exact U.mono (Ext.refl _ _) λb _=>m b
def BC(k:Nat)(c:List T)(s:S):List Nat->Option (List (Nat×V))
 | []=>aa []
 |i::is=>match s.t i with
  | .ref d a=>match b4 d k,BC k c s is with
   |true,aa l=>aa ((i,.aQ (c.drop a))::l)
   |_,_=>aj
  |_=>aj
theorem O1{k:Nat}{a:List T}{s:S}: ∀{is:List Nat} {l:List (Nat×V)},BC k a s is=aa l-> ∀i v,(i,v)∈l-> ∃c,s.t i= .ref k c/\v= .aQ (a.drop c)
 | [],l,h,i,v,hm=>by cases h;cases hm
 |i0::is,l,h,i,v,hm=>by
  unfold BC at h;split at h
  ·rename_i o c d;split at h
   ·rename_i p e m;cases h;have n:=c4 e;subst n;rcases ef.1 hm with hm|hm
    ·cases hm;exact⟨c,d,rfl⟩
    exact O1 m i v hm
   cases h
  cases h
def Bp{a:Type}:List a->Bool
 | []=>ab
 |_::_=>ak
theorem FR{a:Type}{l:List a}(h:Bp l=ab):l=[]:=by
 cases l with
 |nil=>rfl
 |cons=>cases h
def lJ(C:dQ)(h:cq)(s:S):Option (Option (cX×List du)):=
 match h with
 | .grow i k e=>match s.t i,s.u k,dy C.cf e with
  | .t .fF,ak,aa j=>aa (aa (⟨[(i,.bn k 1 j.size 0 0)],[(k,aa (.arr e 1 j.size []))],[(k,ab)]⟩,[]))
  |_,_,_=>aa aj
 | .len i n=>match s.t i with
  | .bn k gen c G L=>aa (aa (⟨[(i,.bn k gen c G n)],[],[]⟩,[.p (L=n)]))
  |_=>aa aj
 | .xm k is=>match s.H k with
  |some (.cells D)=>match lE D,cY C.dL k with
   |some cs,ab=>match BC k cs s is with
    |some l=>aa (aa (⟨l,[(k,aj)],[]⟩,[]))
    |none=>aa aj
   |_,_=>aa aj
  |_=>aa aj
 | .bC k is F=>match s.H k with
  |some (.arr _ gen c a)=>match cY C.dL k&& !iZ k F with
   |true=>aa (aa (⟨(iR k gen c a.length (.t (.bD a)) s is).1,(k,aj)::(gK k gen c a.length (.t (.bD a)) s F).1,[]⟩,(iR k gen c a.length (.t (.bD a)) s is).2++(gK k gen c a.length (.t (.bD a)) s F).2))
   |false=>aa aj
  |_=>aa aj
 | .d' k r is F=>match s.H k,s.u r with
  |some (.arr e gen c a),ak=>match cY C.dL k&&(!Nat.beq k r&&(!iZ k F&& !iZ r F)) with
   |true=>aa (aa (⟨(iR k gen c a.length (.bn r 1 c 0 a.length) s is).1,(k,aj)::(r,aa (.arr e 1 c a))::(gK k gen c a.length (.bn r 1 c 0 a.length) s F).1,[(r,ab)]⟩,
     (iR k gen c a.length (.bn r 1 c 0 a.length) s is).2++(gK k gen c a.length (.bn r 1 c 0 a.length) s F).2))
   |false=>aa aj
  |some (.bd d m gen a []),ak=>match cY C.dL k&&(!Nat.beq k r&&(!iZ k F&& !iZ r F)) with
   |true=>aa (aa (⟨(iR k gen (aR d m).size a.length (.bn r 1 (aR d m).size 0 a.length) s is).1,(k,aj)::(r,aa (.bd d m 1 a []))::(gK k gen (aR d m).size a.length (.bn r 1 (aR d m).size 0 a.length) s F).1,[(r,ab)]⟩,
     (iR k gen (aR d m).size a.length (.bn r 1 (aR d m).size 0 a.length) s is).2++(gK k gen (aR d m).size a.length (.bn r 1 (aR d m).size 0 a.length) s F).2))
   |false=>aa aj
  |_,_=>aa aj
 | .fJ b j n=>match s.H b with
  |some (.cells cs)=>match cs[j]? with
   |some (.bn k gen c G L)=>aa (aa (⟨[],[(b,aa (.cells (cs.set j (.bn k gen c G n))))],[]⟩,[.p (L=n)]))
   |_=>aa aj
  |_=>aa aj
 | .Ho b _ k=>match s.H b,s.H k with
  |some (.bd d m E W ((I,M,.bn r gen c G L)::B)),aa (.arr _ Z X a)=>match b4 r k&&(b4 G 0&&(cY C.dL k&& !Nat.beq b k)) with
   |true=>aa (aa (⟨[],[(k,aj),(b,aa (.bd d m E W ((I,M,.t (.bD a))::B)))],[]⟩,[.q gen Z,.q c X,.q L a.length]))
   |false=>aa aj
  |_,_=>aa aj
 | .e3 b j k e=>match s.H b,s.u k,dy C.cf e with
  |some (.cells cs),ak,aa i=>match cs[j]? with
   |some (.t .fF)=>aa (aa (⟨[],[(k,aa (.arr e 1 i.size [])),(b,aa (.cells (cs.set j (.bn k 1 i.size 0 0))))],[(k,ab)]⟩,[]))
   |_=>aa aj
  |_,_,_=>aa aj
 | .eR k d m=>match s.H k with
  |some (.arr ty gen c a)=>match Bp (aR d m).bk||Bp a with
   |true=>aa (aa (⟨[],[(k,aa (.bd d m gen a []))],[]⟩,[.q (aR d m).ty ty,.q (aR d m).size c]))
   |false=>aa aj
  |some (.bd Q v gen a B)=>match cY C.dL k&&Bp (aR d m).bk with
   |true=>aa (aa (⟨[],[(k,aa (.bd d m gen a B))],[]⟩,[.q (aR d m).ty (aR Q v).ty,.q (aR d m).size (aR Q v).size]))
   |false=>aa aj
  |_=>aa aj
 | .dN k=>match s.H k with
  |some (.bd d m gen a [])=>match cY C.dL k with
   |true=>aa (aa (⟨[],[(k,aa (.arr (aR d m).ty gen (aR d m).size a))],[]⟩,[]))
   |false=>aa aj
  |_=>aa aj
 | .fj k r i j w=>match s.H k,s.u r with
  |some (.bd d m gen a B),ak=>match (aR d m).eA j,w[j]? with
   |some f,aa (.bD A)=>aa (aa (⟨[],[(k,aa (.bd d m gen a ((i,j,.bn r 1 (aR d f).size 0 A.length)::B))),(r,aa (.bd d f 1 A []))],[(r,ab)]⟩,.p (a[i]? =aa w)::r1 i j B))
   |_,_=>aa aj
  |_,_=>aa aj
 | .P5 k i j w=>match s.H k with
  |some (.bd d m gen a B)=>match (aR d m).eA j,w[j]?,rq j B with
   |none,aa x,ab=>aa (aa (⟨[],[(k,aa (.bd d m gen a ((i,j,.t x)::B)))],[]⟩,[.p (a[i]? =aa w)]))
   |_,_,_=>aa aj
  |_=>aa aj
 | .IM k w R=>match s.H k with
  |some (.bd d m gen a ((i,j,.t x)::B))=>match (aR d m).eA j,df j (aR d m).size&&rq j B with
   |none,ab=>aa (aa (⟨[],[(k,aa (.bd d m gen R B))],[]⟩,[.p (a[i]? =aa w),.p (a.set i (w.set j x)=R)]))
   |some _,ab=>match x with
    | .fF=>aa (aa (⟨[],[(k,aa (.bd d m gen R B))],[]⟩,[.p (a[i]? =aa w),.p (a.set i (w.set j (.bD []))=R)]))
    |_=>aa aj
   |_,_=>aa aj
  |_=>aa aj
 | .BE i j k e=>match s.t i,s.u k,dy C.cf e with
  | .agg cs,ak,aa y=>match cs[j]? with
   |some (.t .fF)=>aa (aa (⟨[(i,.agg (cs.set j (.bn k 1 y.size 0 0)))],[(k,aa (.arr e 1 y.size []))],[(k,ab)]⟩,[]))
   |_=>aa aj
  |_,_,_=>aa aj
 | .ez k r w R=>match s.H k,s.H r with
  |some (.bd d m gen a ((i,j,.bn cy g z o n)::B)),aa (.bd Q f N A [])=>match (aR d m).eA j,b4 cy r&&(!Nat.beq k r&&(cY C.dL r&&(b4 o 0&&df j (aR d m).size))) with
   |some P,ab=>aa (aa (⟨[],[(r,aj),(k,aa (.bd d m gen R B))],[]⟩,.q g N:: .q z (aR d f).size:: .p (n=A.length):: .q P f:: .p (Q=d):: .p (a[i]? =aa w):: .p (a.set i (w.set j (.bD A))=R)::r1 i j B))
   |_,_=>aa aj
  |_,_=>aa aj
 | .cut k n R=>match s.H k with
  |some (.arr e gen c a)=>aa (aa (⟨[],[(k,aa (.arr e gen c R))],[]⟩,[.p (R=a.take n)]))
  |_=>aa aj
 |_=>aj
def qk(C:dQ)(a:Nat):List cq->S->Option (cX×List du×List cq)
 | [],_=>aa (.nil,[],[])
 | .at m::c,s=>match b4 m a with
  |true=>qk C a c s
  |false=>aa (.nil,[],.at m::c)
 |h::c,s=>match lJ C h s with
  |none=>aa (.nil,[],h::c)
  |some aj=>aj
  |some (aa (e,k))=>match qk C a c (e.app s) with
   |some (l,d,i)=>aa (e.cat l,k++d,i)
   |none=>aj
section
variable {K:Ctx}{C:dQ}
theorem aa7{K:Ctx}(k n:Nat){e:TypeId}{c:List (List T)}(q:s.H k=aa (.arr e gen m c)):s.le K {s with H:=bc s.H k (aa (.arr e gen m (c.take n)))}:=by
 intro r a w h;refine⟨r,h.Rf k q λX d=>⟨d.1,?_⟩⟩;rcases d.2 with ⟨o,p⟩|⟨b,y,o,p,z,A,F⟩
 ·exact .inl ⟨o,by rw[p];simp⟩
 refine .inr ⟨b,y,o,p,hA (eL _ (List.length_take_le' _ _)) z,λl B=>A l (hv B),λi j l x u aS a2 a3=>?_⟩
 grind
theorem FP(z:C.Fits K){h:cq}{e:cX}{m:List du}(d:lJ C h s=aa (aa (e,m)))(k:cr m):s.le K (e.app s):=by
 unfold lJ at d;split at d
 ·split at d
  ·rename_i A o p;cases d;exact aa8 _ _ _ o A
  cases d
 ·split at d
  ·rename_i A;cases d;obtain⟨rfl,_⟩:=k;intro L a w Q;refine⟨L,?_⟩;unfold cX.app;simp only[dn];rw[<-A,MM];exact Q
  cases d
 ·split at d
  ·rename_i M n;split at d
   ·rename_i cs R i;split at d
    ·rename_i l Z;cases d;have x:=n;rw[oG R] at x;refine U' _ _ (by rw[<-z.dL];exact i) x λj=>?_;rcases nm l s.t j with ⟨_,q⟩|⟨v,r,q⟩
     ·exact .inl q
     obtain⟨W,b,f⟩:=O1 Z j v r;exact .inr ⟨W,b,by rw[<-f];exact q⟩
    cases d
   cases d
  cases d
 ·split at d
  ·rename_i n;split at d
   ·rename_i i;cases d;simp only[b5] at i;obtain⟨B,F⟩:=cr.app k;exact adZ (by rw[<-z.dL];exact i.1) n (wm i.2) B F
   cases d
  cases d
 ·split at d
  ·rename_i n o;split at d
   ·rename_i i;cases d;simp only[b5] at i;obtain⟨B,F⟩:=cr.app k;exact Pw (by rw[<-z.dL];exact i.1) (Ob i.2.1) n rfl o (wm i.2.2.1) (wm i.2.2.2) B F
   cases d
  ·rename_i n o;split at d
   ·rename_i i;cases d;simp only[b5] at i;obtain⟨B,F⟩:=cr.app k;exact Pw (by rw[<-z.dL];exact i.1) (Ob i.2.1) n rfl o (wm i.2.2.1) (wm i.2.2.2) B F
   cases d
  cases d
 ·split at d
  ·rename_i i;split at d
   ·rename_i p;cases d;obtain⟨rfl,_⟩:=k;intro L a w Q;refine⟨L,?_⟩;have H:=bX.1 p;have g: ∀{cs:List V} {j:Nat} {c:V},cs[j]? =aa c->cs.set j c=cs:=by
     intro cs j c h;obtain⟨r,q⟩:=bX.1 h;rw[<-q,List.set_getElem_self]
    unfold cX.app;simp only[dn];rw[g p,<-i,MM];exact Q
   cases d
  cases d
 ·split at d
  ·rename_i i n;split at d
   ·rename_i G;cases d;simp only[b5,Bool.not_eq_true'] at G;obtain⟨rfl,rfl,rfl,_⟩:=k;have X:=c4 G.1;have H:=c4 G.2.1;subst X;subst H;exact Va _ _ _ _ _ _ (by rw[<-z.dL];exact G.2.2.1) (Nat.ne_of_beq_eq_false G.2.2.2) i n
   cases d
  cases d
 ·split at d
  ·rename_i i o A;split at d
   ·rename_i p;cases d;exact Zc _ _ _ _ o i p
   cases d
  cases d
 ·split at d
  ·rename_i n;split at d
   ·rename_i i;cases d;obtain⟨r,q,_⟩:=k;refine Mg _ _ _ n r q ?_;rcases Bool.or_eq_true_iff.1 i with h|h
    ·exact .inr (FR h)
    exact .inl (FR h)
   cases d
  ·rename_i n;split at d
   ·rename_i i;cases d;obtain⟨r,q,_⟩:=k;simp only[b5] at i;exact Za _ _ _ n (by rw[<-z.dL];exact i.1) r q (FR i.2)
   cases d
  cases d
 ·split at d
  ·rename_i n;split at d
   ·rename_i i;cases d;exact Y' _ n (by rw[<-z.dL];exact i)
   cases d
  cases d
 ·split at d
  ·rename_i n o;split at d
   ·rename_i y p;cases d;exact Xp _ _ _ _ _ n o k.1 p y (wB k.2)
   cases d
  cases d
 ·split at d
  ·rename_i n;split at d
   ·rename_i y p u;cases d;exact Zb _ _ _ n k.1 p y u
   cases d
  cases d
 ·split at d
  ·rename_i n;split at d
   ·rename_i y i;cases d;simp only[b5] at i;obtain⟨r,rfl,_⟩:=k;exact Wz _ _ _ n r i.1 y i.2
   ·rename_i y i;split at d
    ·cases d;simp only[b5] at i;obtain⟨r,rfl,_⟩:=k;exact Xm _ _ _ _ n r i.1 y i.2
    cases d
   cases d
  cases d
 ·split at d
  ·rename_i A o N;split at d
   ·rename_i p;cases d;exact Zd _ _ _ _ o A p
   cases d
  cases d
 ·split at d
  ·rename_i n x;split at d
   ·rename_i y i;cases d;simp only[b5,Bool.not_eq_true'] at i;obtain⟨rfl,q,D,rfl,rfl,E,rfl,I⟩:=k;have X:=c4 i.1;have H:=c4 i.2.2.2.1;subst X;subst H;exact U9 _ _ _ _ _ _ _ _ n x q D (Nat.ne_of_beq_eq_false i.2.1) (by rw[<-z.dL];exact i.2.2.1) E y i.2.2.2.2 (wB I)
   cases d
  cases d
 ·split at d
  ·rename_i n;cases d;obtain⟨rfl,_⟩:=k;exact aa7 _ _ n
  cases d
 cases d
theorem q4(l:C.Fits K){n:Nat}: ∀{m:List cq} {s:S} {e:cX} {k:List du} {c:List cq},qk C n m s=aa (e,k,c)->cr k->s.le K (e.app s)
 | [],s,e,k,c,h,_=>by cases h;exact S.le.refl _ _
 |h::m,s,e,k,c,a,i=>by
  unfold qk at a;split at a
  ·cases a;exact S.le.refl _ _
  ·split at a
   ·rename_i d _ _;cases d;exact q4 l a i
   cases a;exact S.le.refl _ _
  rename_i d;cases d;split at a
  ·cases a;exact S.le.refl _ _
  ·cases a
  rename_i z o p;split at a
  ·rename_i A q r w;cases a;obtain⟨x,y⟩:=cr.app i;rw[oh];exact(FP l p x).trans (q4 l w y)
  cases a
def jc(C:dQ)(a:Array Oper):List Oper->List cq->S->Option (cX×List du)
 | [],c,s=>match qk C 0 c s with
  |some (e,q,[])=>aa (e,q)
  |_=>aj
 |o::l,c,s=>match qk C (l.length+1) c s with
  |none=>aj
  |some (d,h,i)=>match r8 C a o i (d.app s) with
   |none=>aj
   |some (p,k,m)=>match jc C a l m (p.app (d.app s)) with
    |none=>aj
    |some (r,n)=>aa (d.cat (p.cat r),h++(k++n))
theorem OX(c:C.Fits K){V:Array Oper}{Q:S->Prop}: ∀{l:List Oper} {k:List cq} {s:S} {e:cX} {d:List du},jc C V l k s=aa (e,d)->cr d->qs K V [] (e.app s) Q->qs K V l s Q
 | [],k,s,e,d,h,a,i=>by
  simp only[jc] at h;split at h
  ·rename_i H n p;cases h;exact Kh (q4 c p a) i
  cases h
 |o::l,k,s,e,d,h,a,i=>by
  simp only[jc] at h;split at h
  ·cases h
  rename_i L q r w;split at h
  ·cases h
  rename_i R x y z;split at h
  ·cases h
  rename_i W A B;cases h;obtain⟨F,m⟩:=cr.app a;obtain⟨m,G⟩:=cr.app m;rw[oh,oh] at i;exact Kh (q4 c w F) (ac9 (OY c z m) (OX c B G i))
abbrev rF:=Prop×List Nat×List (Nat×Bool)×Bool×List V×List (Option E)
def um:rF:=(False,[],[],ak,[],[])
def uo:rF:=(True,[],[],ab,[],[])
def uq(s:S)(c:List Nat)(d:List (Nat×V))(a:List (Nat×Option E))(r:cX×List du):rF:=
 (x9 r.2,u3 r.2,r.1.us,tn c r.1.fL&&tn (xd a) r.1.hs,tM (r.1.app s) d,tS (r.1.app s) a)
def ur(a:Prop)(c:List (Nat×V))(d:List (Nat×Option E))(e:List (Nat×Bool))(r:cX×List du):rF:=
 (a,u4 r.2,e,ab,kE c,kE d)
def mj(x:Option (cX×List du))(n:rF)(f:cX×List du->rF):rF:=match x with
 |some r=>f r
 |none=>n
theorem Pl{x:Option (cX×List du)}{L:List Nat}{a:List (Nat×V)}{c:List (Nat×Option E)}{m:List (Nat×Bool)}{p:Prop}(i:p)
  (h:mj x um (uq s L a c)=mj x uo (ur p a c m)): ∃e d,x=aa (e,d)/\cr d/\(e.app s).le K (s.cl L a c m):=by
 cases x with
 |none=>simp[mj,um,uo] at h
 |some r=>
  obtain⟨e,d⟩:=r;simp only[mj,uq,ur,Prod.mk.injEq,b5] at h;obtain⟨k,l,n,⟨o,q⟩,w,y⟩:=h;exact⟨e,d,rfl,cr.of (k▸i) l,ad4 n o q w y⟩
def tmps:List Operand->List Nat
 | []=>[]
 | .tmp t::a=>t::tmps a
 |_::a=>tmps a
def Pg(a:Array Oper)(o:Oper):List Nat:=match o.guard with
 |none=>[]
 |some (j,_)=>match (a[j]?).bind (·.dst) with
  |some t=>[t]
  |none=>[]
def Be(o:Oper)(a:List cq):List cq:=match o.guard with
 |none=>a
 |some _=>a.tail
def AW(a:Array Oper)(o:Oper)(c:List cq)(s:S):gO:=⟨Pg a o++tmps o.op.operands.toList,uL o (o.op.operands.toList.map s.get) (Be o c)⟩
theorem Fl{s a:S}: ∀{c:List Operand},(∀i,i∈tmps c->s.t i=a.t i)->c.map s.get=c.map a.get
 | [],_=>rfl
 | .tmp t::c,h=>by
  simp only[List.map_cons,List.cons.injEq];exact⟨h t en,Fl λi d=>h i (ec _ d)⟩
 | .const _::c,h| .global _::c,h| .func _::c,h=>by simp only[List.map_cons,List.cons.injEq];exact⟨rfl,Fl h⟩
theorem W5{H a:Nat->Option E}(h: ∀k,k∈r->H k=a k):tZ r H=tZ r a:=by
 funext k;unfold tZ;cases c:iZ k r with
 |true=>exact h k (zQ c)
 |false=>rfl
theorem W3{u a:Nat->Bool}(h: ∀k,k∈r->u k=a k):tY r u=tY r a:=by
 funext k;unfold tY;cases c:iZ k r with
 |true=>exact h k (zQ c)
 |false=>rfl
theorem aai{b:S}{a:List V}{hs:List cq}(h: ∀k,k∈uL o a hs->s.H k=b.H k/\s.u k=b.u k):qA C o a s hs=qA C o a b hs:=by unfold qA;rw[W5 λk c=>(h k c).1,W3 λk c=>(h k c).2]
theorem aad{V:Array Oper}{c:List cq}(h:(AW V o c s).same a s):r8 C V o c a=r8 C V o c s:=by
 obtain⟨n,w⟩:=h;have y:o.op.operands.toList.map a.get=o.op.operands.toList.map s.get:=Fl λi z=>n i (eS.2 (.inr z));have q: ∀d,(∀k,k∈uL o (o.op.operands.toList.map s.get) d->k∈uL o (o.op.operands.toList.map s.get) (Be o c))->qA C o (o.op.operands.toList.map s.get) a d=qA C o (o.op.operands.toList.map s.get) s d:=λd A=>
  aai λk e=>w k (A k e)
 unfold r8;rw[y];cases l:o.guard with
 |none=>exact q c (λk e=>by simp only[Be,l];exact e)
 |some p=>
  obtain⟨j,r⟩:=p;have m:uw V j a=uw V j s:=by
   unfold uw;cases B:(V[j]?).bind (·.dst) with
   |none=>rfl
   |some t=>
    have:=n t (eS.2 (.inl (by unfold Pg;rw[l];simp only[B];exact nL.2 rfl)));simp only[this]
  simp only[m];cases c with
  |nil=>rfl
  |cons x c=>
   have:=q c λk e=>by simp only[Be,l,List.tail];exact e
   cases x<;>first|rfl|(dsimp only;rw[this])
def qt(C:dQ)(a:Nat):List cq->S->Option (cX×List du×List cq×gO)
 | .at m::hs,s=>match b4 m a with
  |true=>qt C a hs s
  |false=>aa (.nil,[],.at m::hs,⟨[],[]⟩)
 | .bC k is l::hs,s=>match lJ C (.bC k is l) s with
  |some (aa (e,h))=>match qt C a hs (e.app s) with
   |some (i,c,d,eE)=>aa (e.cat i,h++c,d,⟨is++eE.fL,k::(l++eE.pI)⟩)
   |none=>aj
  |_=>aj
 | .dN k::hs,s=>match lJ C (.dN k) s with
  |some (aa (e,h))=>match qt C a hs (e.app s) with
   |some (i,c,d,eE)=>aa (e.cat i,h++c,d,⟨eE.fL,k::eE.pI⟩)
   |none=>aj
  |_=>aj
 |hs,_=>aa (.nil,[],hs,⟨[],[]⟩)
theorem WX{C:dQ}(c:a.H k=s.H k):lJ C (.dN k) a=lJ C (.dN k) s:=by
 unfold lJ
 grind
theorem My{k g z n:Nat}{v:V}{s a:S}: ∀{is:List Nat},(∀i,i∈is->a.t i=s.t i)->iR k g z n v a is=iR k g z n v s is
 | [],_=>rfl
 |i::is,h=>by simp only[iR,h i List.mem_cons_self,My λx c=>h x (List.mem_cons_of_mem _ c)]
theorem Mz{k g z n:Nat}{v:V}{s a:S}: ∀{c:List Nat},(∀b,b∈c->a.H b=s.H b)->gK k g z n v a c=gK k g z n v s c
 | [],_=>rfl
 |b::c,h=>by unfold gK;rw[h b en,Mz λx d=>h x (ec _ d)]
theorem WW{L:List Nat}(c: ∀i,i∈r->a.t i=s.t i)(d:a.H k=s.H k)(e: ∀b,b∈L->a.H b=s.H b):lJ C (.bC k r L) a=lJ C (.bC k r L) s:=by
 unfold lJ;dsimp only;rw[d];split
 ·rw[My c,Mz e]
 rfl
theorem FK{a:Type}{f g:Nat->a}{r:Nat}(h:f r=g r): ∀(l:List (Nat×a)),dn f l r=dn g l r:=by
 intro l;induction l generalizing f g with
 |nil=>exact h
 |cons p l e=>
  obtain⟨d,v⟩:=p;simp only[dn];apply e;by_cases c:r=d
  ·subst c;rw[cc,cc]
  rw[cb _ _ _ _ c,cb _ _ _ _ c];exact h
theorem Ja{r:gO}(e:cX)(h:r.same a s):r.same (e.app a) (e.app s):=
 ⟨λi d=>FK (h.1 i d) _,λk c=>⟨FK (h.2 k c).1 _,FK (h.2 k c).2 _⟩⟩
theorem AO(w:C.Fits K){n:Nat}: ∀{x:List cq} {s:S} {e:cX} {d:List du} {a:List cq} {eE:gO},qt C n x s=aa (e,d,a,eE)->cr d-> ∀c,eE.same c s->c.le K (e.app c)
 | .at m::x,s,e,d,a,eE,h,o,c,l=>by
  unfold qt at h;split at h
  ·exact AO w h o c l
  cases h;exact S.le.refl _ _
 | .bC k is W::x,s,e,d,a,eE,h,o,c,l=>by
  unfold qt at h;split at h
  ·rename_i p r z;split at h
   ·rename_i X A B F G;cases h;obtain⟨H,L⟩:=cr.app o;have q:lJ C (.bC k is W) c=aa (aa (p,r)):=(WW (λi Q=>l.1 i (l7 _ Q)) (l.2 k en).1 λb Z=>(l.2 b (ec _ (l7 _ Z))).1).trans z;rw[oh];exact(FP w q H).trans (AO w G L (p.app c) (Ja p ⟨λi Q=>l.1 i (k7 _ Q),λk R=>l.2 k (ec _ (k7 _ R))⟩))
   cases h
  cases h
 | .dN k::x,s,e,d,a,eE,h,o,c,l=>by
  unfold qt at h;split at h
  ·rename_i p r z;split at h
   ·rename_i X A B F G;cases h;obtain⟨H,L⟩:=cr.app o;have q:lJ C (.dN k) c=aa (aa (p,r)):=(WX (l.2 k en).1).trans z;rw[oh];exact(FP w q H).trans (AO w G L (p.app c) (Ja p ⟨l.1,λk R=>l.2 k (ec _ R)⟩))
   cases h
  cases h
 | [],s,e,d,a,eE,h,_,c,_=>by cases h;exact S.le.refl _ _
 | .eR _ _ _::_,s,e,d,a,eE,h,_,c,_| .fj _ _ _ _ _::_,s,e,d,a,eE,h,_,c,_| .ez _ _ _ _::_,s,e,d,a,eE,h,_,c,_| .lt _ _ _::_,s,e,d,a,eE,h,_,c,_| .P5 _ _ _ _::_,s,e,d,a,eE,h,_,c,_| .IM _ _ _::_,s,e,d,a,eE,h,_,c,_| .BE _ _ _ _::_,s,e,d,a,eE,h,_,c,_| .cut _ _ _::_,s,e,d,a,eE,h,_,c,_
 | .row _::_,s,e,d,a,eE,h,_,c,_| .rows _::_,s,e,d,a,eE,h,_,c,_| .str _::_,s,e,d,a,eE,h,_,c,_| .int _::_,s,e,d,a,eE,h,_,c,_| .nat _::_,s,e,d,a,eE,h,_,c,_
 | .b _::_,s,e,d,a,eE,h,_,c,_| .y _::_,s,e,d,a,eE,h,_,c,_| .v _::_,s,e,d,a,eE,h,_,c,_| .grow _ _ _::_,s,e,d,a,eE,h,_,c,_
 | .Ho _ _ _::_,s,e,d,a,eE,h,_,c,_| .e3 _ _ _ _::_,s,e,d,a,eE,h,_,c,_
 | .len _ _::_,s,e,d,a,eE,h,_,c,_| .fJ _ _ _::_,s,e,d,a,eE,h,_,c,_| .xm _ _::_,s,e,d,a,eE,h,_,c,_| .d' _ _ _ _::_,s,e,d,a,eE,h,_,c,_| .fo _ _ _ _::_,s,e,d,a,eE,h,_,c,_=>by cases h;exact S.le.refl _ _
theorem iC.pre{ops:Array Oper}{b:S}(i:s.le K b)(h:iC K ops o b c):iC K ops o s c:=by
 intro k a w next Q l m
 obtain⟨d,e⟩:=i k a w l;exact h d a w next Q e m
def xj(C:dQ)(a:Array Oper):List Oper->List cq->S->Option (List (cX×gO)×List du)
 | [],h,_=>match h with
  | []=>aa ([],[])
  |_=>aj
 |o::l,h,s=>match qt C (l.length+1) h s with
  |none=>aj
  |some (d,i,c,eE)=>match r8 C a o c (d.app s) with
   |none=>aj
   |some (e,n,k)=>match xj C a l k (e.app (d.app s)) with
    |none=>aj
    |some (p,m)=>aa ((d.cat e,⟨eE.fL++(AW a o c (d.app s)).fL,eE.pI++(AW a o c (d.app s)).pI⟩)::p,i++(n++m))
def Bz:List (cX×gO)->cX
 | []=> .nil
 |(e,_)::a=>e.cat (Bz a)
theorem Gn(p:C.Fits K){V:Array Oper}{Q:S->Prop}: ∀{l:List Oper} {q:List cq} {s:S} {c:List (cX×gO)} {d:List du},xj C V l q s=aa (c,d)->cr d->Q ((Bz c).app s)->vV K V l c s Q
 | [],q,s,c,d,h,_,m=>by
  simp only[xj] at h;split at h
  ·cases h;exact m
  cases h
 |o::l,q,s,c,d,h,r,m=>by
  simp only[xj] at h;split at h
  ·cases h
  rename_i n F w eE G;split at h
  ·cases h
  rename_i e H L R;split at h
  ·cases h
  rename_i W X Z;cases h;obtain⟨b,x⟩:=cr.app r;obtain⟨x,f⟩:=cr.app x;simp only[Bz,oh] at m;refine⟨λB a=>?_,by rw[oh];exact Gn p Z f m⟩;rw[oh];refine iC.pre (AO p G b B ⟨λi y=>a.1 i (l7 _ y),λk z=>a.2 k (l7 _ z)⟩) ?_;have A:(AW V o w (n.app s)).same (n.app B) (n.app s):=Ja n ⟨λi y=>a.1 i (k7 _ y),λk z=>a.2 k (k7 _ z)⟩;exact OY p ((aad A).trans R) x
def lN(C:dQ)(l:List Oper)(h:List cq)(s:S):Option (cX×List du):=
 match qk C l.length h s with
 |none=>aj
 |some (d,a,c)=>match xj C l.toArray l c (d.app s) with
  |none=>aj
  |some (e,i)=>match mJ l.toArray l.length 0 e&&rB 0 l with
   |true=>aa (d.cat (Bz e),a++i)
   |false=>aj
theorem OE{c:Code}{s2:S}(h:cJ K c s λe k=>match e with| .normal=>k.le K s2|_=>False)(n:Q .normal s2):cJ K c s Q:=by
 intro o a w p x y;refine h o a w p x ?_;intro e k d l m q r;cases e with
 |normal=>obtain⟨i,z⟩:=q d l m r;exact y _ _ i l m n z
 |exit=>exact q.elim
 |goto=>exact q.elim
 |ret=>exact q.elim
 |panic=>exact q.elim
 |outgrown=>exact q.elim
theorem rd{l:List Oper}(q:C.Fits K)(x:K.P.follows .mixedOrders=ab)(r:List cq)(i:List Nat)(c:List (Nat×V))(d:List (Nat×Option E))(k:List (Nat×Bool)){p:Prop}(m:p)
  (h:mj (lN C l r s) um (uq s i c d)=mj (lN C l r s) uo (ur p c d k)) (y:Q .normal (s.cl i c d k)):cJ K (.region n l.toArray ab) s Q:=by
 obtain⟨e,X,a,z,w⟩:=Pl (K:=K) m h;unfold lN at a;split at a
 ·cases a
 rename_i Z A B F;split at a
 ·cases a
 rename_i G H L;split at a
 ·rename_i o;cases a;simp only[b5] at o;obtain⟨R,W⟩:=cr.app z;refine u5 (q4 q F R) (OE (s2:=s.cl i c d k) (ML G x o.1 o.2 (Gn q L W ?_)) y);rw[oh] at w;exact w
 cases a
def nT:List (Nat×E)->List (Nat×Option E)
 | []=>[]
 |(k,e)::l=>(k,aa e)::nT l
def o8:List Nat->List (Nat×Bool)
 | []=>[]
 |k::l=>(k,ab)::o8 l
def a6(a:List (Nat×V))(c:List (Nat×E))(d:List Nat):S:={t:=dn pX a,H:=dn oS (nT c),u:=dn gG (o8 d)}
def Bt(u:Nat->Bool):List (Nat×V)->Bool
 | []=>ab
 |(_,v)::l=>v.ok u&&Bt u l
def Bm(u:Nat->Bool):List (Nat×E)->Bool
 | []=>ab
 |(k,e)::l=>u k&&(e.ok u&&Bm u l)
def Bk(u:Nat->Bool):List Nat->Bool
 | []=>ab
 |k::l=>u k&&Bk u l
theorem NK{u:Nat->Bool}: ∀{l:List (Nat×V)},Bt u l=ab-> ∀i v,(i,v)∈l->v.ok u=ab
 |(a,c)::l,h,i,v,hm=>by
  simp only[Bt,b5] at h;rcases ef.1 hm with hm|hm
  ·cases hm;exact h.1
  exact NK h.2 i v hm
theorem OC{u:Nat->Bool}: ∀{l:List (Nat×E)},Bm u l=ab-> ∀k e,(k,aa e)∈nT l->u k=ab/\e.ok u=ab
 |(a,c)::l,h,i,v,hm=>by
  simp only[Bm,b5] at h;simp only[nT] at hm;rcases ef.1 hm with hm|hm
  ·cases hm;exact⟨h.1,h.2.1⟩
  exact OC h.2.2 i v hm
theorem NI{u:Nat->Bool}: ∀{l:List Nat},Bk u l=ab-> ∀k b,(k,b)∈o8 l->u k=ab
 |ov::l,h,k,b,hm=>by
  simp only[Bk,b5] at h;simp only[o8] at hm;rcases ef.1 hm with hm|hm
  ·cases hm;exact h.1
  exact NI h.2 k b hm
def Bs(e:Nat)(s:S)(c:List (Nat×V))(d:List (Nat×E))(a:List Nat):List V×List (Option E)×Bool:=
 (tM s c,tS s (nT d),Bt (dn gG (o8 a)) c&&(Bm (dn gG (o8 a)) d&&(Bk s.u a&&mH e (dn gG (o8 a)))))
theorem Q4{a:List (Nat×V)}{c:List (Nat×E)}(h:Bs K.dL s a c r=(kE a,kE (nT c),ab)):s.le K (a6 a c r):=by
 simp only[Bs,Prod.mk.injEq,b5] at h;obtain⟨m,n,o,p,q,w⟩:=h;refine abY (s':=a6 a c r) ?_ ?_ ?_ w
 ·intro i;show dn pX a i= .c9\/(dC _ (dn pX a i)/\(dn pX a i).ok _=ab)
  rcases nm a pX i with ⟨aS,a2⟩|⟨v,aS,a2⟩
  ·exact .inl a2
  rw[a2];exact .inr ⟨Fk m i v aS,NK o i v aS⟩
 ·intro k e d;have d:dn oS (nT c) k=aa e:=d;rcases nm (nT c) oS k with ⟨aS,a2⟩|⟨v,aS,a2⟩
  ·rw[a2] at d;cases d
  rw[a2] at d;subst d;obtain⟨x,y⟩:=OC p k e aS;exact⟨FA n k e aS,x,y⟩
 intro k l;have l:dn gG (o8 r) k=ab:=l;rcases nm (o8 r) gG k with ⟨aS,a2⟩|⟨v,aS,a2⟩
 ·rw[a2] at l;cases l
 exact NI q k v aS
theorem aaT{ι:Type}{x y:Code}(a:ι->S)(p:ι->Prop)(c:cJ K x s (qw (λd=> ∃i,p i/\d.le K (a i)) Q))(h: ∀i,p i->cJ K y (a i) Q):cJ K (.seq x y) s Q:=by
 refine Az (vX c λe m q=>?_);cases e with
 |normal=>obtain⟨i,k,l⟩:=q;exact u5 l (h i k)
 |exit=>exact q
 |goto=>exact q
 |ret=>exact q
 |panic=>exact q
 |outgrown=>exact q
theorem adF{v r:V}(h:lK r v=r):dC v r:=h▸F3 r v
def tE(s:S):List E->Nat->List (Option E)
 | [],_=>[]
 |e::l,k=>Bw (aa e) (s.H k)::tE s l (k+1)
def tv:List E->List (Option E)
 | []=>[]
 |e::l=>aa e::tv l
def tX(u:Nat->Bool):List E->Bool
 | []=>ab
 |e::l=>e.ok u&&tX u l
theorem L4{s:S}: ∀{l:List E} {k:Nat},tE s l k=tv l-> ∀i e,l[i]? =aa e-> ∃a,s.H (k+i)=aa a/\kC a e
 |a::l,k,h,0,e,c=>by
  simp only[tE,tv,List.cons.injEq] at h;simp at c;subst c;exact NT h.1
 |a::l,k,h,i+1,e,c=>by
  simp only[tE,tv,List.cons.injEq] at h
  have:=L4 h.2 i e (by simpa using c)
  rwa [show k+1+i=k+(i+1) by omega] at this
theorem MI{u:Nat->Bool}: ∀{l:List E},tX u l=ab-> ∀(i:Nat) e,l[i]? =aa e->e.ok u=ab
 |c::l,h,0,e,a=>by simp only[tX,b5] at h;simp at a;subst a;exact h.1
 |c::l,h,i+1,e,a=>by simp only[tX,b5] at h;exact MI h.2 i e (by simpa using a)
end
end
def bj{a R:Type}(c:(a->Option R)->a->Option R):Nat->a->Option R
 |0,_=>aj
 |m+1,x=>c (bj c m) x
def aE{a R:Type}(j:a->Option R)(t:(a->Option R)->Option R):Option R:=t j
variable {W R a γ:Type}{r l:List a}{o:Option a}{f:FuncId}{c:Code}{A B:Option R}{n:Nat}{d:Func}{s:S}{Q:Exit->S->Prop}{j i:Int}{x y ph:a}{p:Prop}{q:List T}{X:Map}{w:World}{v:V}{u z:Value}{e:ResultVar}{args:List V}
theorem iu{a:W->Option R}{t:(W->Option R)->Option R}{r:R}(h:aE a t=aa r): ∃j,j=a/\t j=aa r:=⟨a,rfl,h⟩
theorem cR{f:a->Option R}{r:R}(h:o.bind f=aa r): ∃x,o=aa x/\f x=aa r:=by
 cases o with
 |none=>cases h
 |some x=>exact⟨x,rfl,h⟩
theorem ng{c:Bool}{r:R}(a:c=ab)(h:(bif c then A else B)=aa r):A=aa r:=by subst a;exact h
theorem nf{c:Bool}{r:R}(a:c=ak)(h:(bif c then A else B)=aa r):B=aa r:=by subst a;exact h
theorem aw{a b:R}(h:aa a=aa b):a=b:=Option.some.inj h
section
variable {K:Ctx}{C:dQ}
theorem wI{a:(W->Option R)->W->Option R}{d:W}{r:R}(h:bj a n d=aa r)(l:W->γ->S)(p:γ)(A:s.le K (l d p))
  (k: ∀(i:W->Option R) (x:W) (g:γ),a i x=aa r->cJ K c (l x g) (Bd (λw=> ∃y o,i y=aa r/\w.le K (l y o)) Q)):cJ K (.loop c) s Q:=by
 refine YW (ι:=(Nat×W)×γ) (λy=>l y.1.2 y.2) (λy=>bj a y.1.1 y.1.2=aa r) (λy=>y.1.1) ((n,d),p) h A ?_;rintro⟨⟨m,x⟩,g⟩ z;cases m with
 |zero=>cases z
 |succ m=>
  refine vX (k (bj a m) x g z) λe w q=>?_;cases e with
  |normal=>obtain⟨y,o,B,F⟩:=q;exact⟨((m,y),o),B,oO m,F⟩
  |exit=>exact q
  |goto=>exact q
  |ret=>exact q
  |panic=>exact q
  |outgrown=>exact q
theorem hK{j:a->Option R}{r:R}{x y:Code}(c:a->γ->S)
  (d:cJ K x s (qw (λk=> ∃z g,j z=aa r/\k.le K (c z g)) Q)) (h: ∀z g,j z=aa r->cJ K y (c z g) Q):cJ K (.seq x y) s Q:=
 aaT (ι:=a×γ) (λi=>c i.1 i.2) (λi=>j i.1=aa r) (vX d (λe m q=>by
  cases e with
  |normal=>obtain⟨z,g,d,h⟩:=q;exact⟨(z,g),d,h⟩
  |exit=>exact q
  |goto=>exact q
  |ret=>exact q
  |panic=>exact q
  |outgrown=>exact q)) λi l=>h i.1 i.2 l
theorem ad1{P:Program}{G:fq}{a:List (Nat×cn)}(d:dZ P a)(c:Nat)(w:World)(X:Nat->Prop):dQ.Fits ⟨P,G,a,c,0,hf⟩ (Ctx.pure P G w X c):=⟨d,rfl,rfl,rfl,rfl,rfl⟩
theorem ad0{P:Program}{G:fq}{a:List (Nat×cn)}(h:dZ P a)(d e:Nat)(w:World)(X:Nat->Prop)(c:Map):dQ.Fits ⟨P,G,a,d,e,c⟩ (Ctx.fo P G w X e c d):=⟨h,rfl,rfl,rfl,rfl,rfl⟩
theorem M7{P:Program}(a:P.funcs[f]? =aa d)(e:(d.name== "runtime.NumGoroutine")=ak)(h:d.body=aa c):jy P f:=⟨d,a,e,by rw[h];rfl⟩
variable {P:Program}{G:fq}{cf:List (Nat×cn)}
end
abbrev ae:Int->List T:=iM
abbrev dH:UInt8->List T:=nA
abbrev bE:Bool->List T:=ach
abbrev db:List UInt8->List T:=acF
abbrev be{a:Type}(r:a->List T)(l:List a):List T:=[T.bD (l.map r)]
abbrev aB{a:Type}(r:a->List T)(l:List a):V:= .t (.bD (l.map r))
abbrev aG{a:Type}(e g c:Nat)(r:a->List T)(l:List a):E:= .arr e g c (l.map r)
abbrev ms{a:Type}(k g c:Nat)(r:a->List T)(l:List a):V:= .bn k g c 0 (l.map r).length
theorem PK(r:a->List T)(l:List a):(l.map r).length=l.length:=dz ..
theorem yo(b:UInt8):IntKind.i64.wrap (b.toNat:Int)=(b.toNat:Int):=IntWalk.i64_in _ (by have:=UInt8.toNat_lt b;omega)
theorem iS(k:Nat){r:a->List T}(h: ∀x,(r x).length=k)(l:List a):Rows k (l.map r):=Rows.map l h
theorem m9(f:a->List T)(h:az l i=aa x):(l.map f)[0+i.toNat]? =aa (f x):=by rw[eg,ek,(mG h).2];rfl
theorem bM(f:a->List T)(h:az l i=aa x):0<=i/\i<((l.map f).length:Int):=by
 obtain⟨c,d⟩:=mG h
 grind
theorem G4{b:List a}(f:a->List T)(h:az l i=aa x)(e:(b.map f).length=(l.map f).length):0<=i/\i<((b.map f).length:Int):=by rw[e];exact bM f h
theorem str(f:a->List T)(h:cA l i x=aa r):r.map f=(l.map f).set (0+i.toNat) (f x):=by obtain⟨_,_,rfl⟩:=sN h;rw[eg,List.map_set]
theorem od{q:Prop}(h:p)(k:q):p/\q:=⟨h,k⟩
def pP(b:Int):Option Unit:=if b=0 then aj else aa ()
theorem wQ{b:Int}{x:Unit}(h:pP b=aa x):b≠0:=by intro e;rw[pP,aX e] at h;cases h
theorem gT(f:a->R){y:R}(h:az l i=aa x)(e:f x=y):az (l.map f) i=aa y:=e▸O0 f h
theorem Fq{l r:List R}{a:Int}(f:R->W)(h:sub l a (l.length:Int)=aa r):sub (l.map f) a ((l.map f).length:Int)=aa (r.map f):=by rw[dz];exact rm f h
theorem aem{n:Int}{b:UInt8}(h:n=(b.toNat:Int)):IntKind.i64.wrap n=(b.toNat:Int):=h▸yo b
def gE(C:dQ)(a:List cq)(s:S):Option (cX×List du):=match qk C 0 a s with
 |some (e,c,[])=>aa (e,c)
 |_=>aj
theorem ajm{K:Ctx}{C:dQ}(m:C.Fits K)(i:List cq)(k:List Nat)(c:List (Nat×V))(d:List (Nat×Option E))(l:List (Nat×Bool))
  (h:mj (gE C i s) um (uq s k c d)=mj (gE C i s) uo (ur True c d l)):s.le K (s.cl k c d l):=by
 obtain⟨e,q,a,n,o⟩:=Pl (K:=K) trivial h;unfold gE at a;split at a
 ·rename_i p;cases a;exact(q4 m p n).trans o
 cases a
def jq(c:List (Nat×cn))(s:S):List ResultVar->Option (List V)
 | []=>aa []
 | .tmp t::d=>match jq c s d with
  |some e=>aa (s.t t::e)
  |none=>aj
 | .cell a t::d=>match tD c s.H t (s.t a) [],jq c s d with
  |some (v,[],[]),aa e=>aa (v::e)
  |_,_=>aj
def nU:List V->V
 | [v]=>v
 |vs=> .bQ vs
def lr(c:Array Value)(r:ResultVar):Sem Value:=match r with
 | .tmp t=>pure (c.getD t undef)
 | .cell a t=>do loadVar t (<-asAddr (c.getD a undef))
theorem DB(d:Func)(a:Array Value):Go.results d a=(do let c<-d.results.mapM (lr a);pure (if h:c.size=1 then c[0] else .tuple c)):=rfl
theorem abk{P:Program}{i:List (Nat×cn)}(r:dZ P i){K:Ctx}{a:Act}(m:Rel K X s a w){x:Nat}{t:TypeId}(h:tD i s.H t (s.t x) []=aa (v,[],[])):
  ∃u,(lr a.tmps (.cell x t)).run P w= .ok u w/\bp X w (own K X s.H) v u:=by
 have y:=Lr (d:=aj) (ty:=0) (pos:= "") (af:= #[]) (g:=aj) (x:= .tmp x) r h trivial
 obtain⟨u,c,z⟩:=y X w (own K X s.H) a.eval (λid e A=>(m.heap id e A).2) ⟨m.dB x,trivial⟩;refine⟨u,?_,z⟩;have bR:=m.dB x;have n: ∃l,a.tmps.getD x undef= .pointer (aa l):=by
  generalize a.tmps.getD x undef=q at bR;unfold tD at h;split at h
  ·cases h
  split at h
  ·rename_i o;rw[o] at bR;cases bR with|ref _ _ b _=>exact⟨_,rfl⟩
  ·rename_i o;rw[o] at bR;cases bR with|aQ _ b B f _ _ _ _=>exact⟨_,rfl⟩
  ·split at h
   ·split at h<;>cases h
   ·split at h<;>cases h
   cases h
  cases h
 obtain⟨l,k⟩:=n;have F:a.eval (.tmp x)= .pointer (aa l):=k;simp only[execOp,Instr.loadAt,F,Instr.sureAddr,Sem.run_bind,Sem.run_pure,Result.andThen_ok] at c;simp only[lr,k,asAddr,Sem.run_bind,Sem.run_pure,Result.andThen_ok];cases p:(loadVar t l).run P w with
 |ok L Q=>rw[p] at c;simp at c;obtain⟨rfl,rfl⟩:=c;rfl
 |_=>rw[p] at c;cases c
theorem Ge{P:Program}{e:List (Nat×cn)}(n:dZ P e){K:Ctx}{X:Map}{s:S}{a:Act}{w:World}(m:Rel K X s a w): ∀{k:List ResultVar} {l:List V},jq e s k=aa l->
  l.length=k.length/\ ∀(i:Nat) r v,k[i]? =aa r->l[i]? =aa v-> ∃u,(lr a.tmps r).run P w= .ok u w/\bp X w (own K X s.H) v u
 | [],_,h=>by cases h;exact⟨rfl,λi r v h=>by simp at h⟩
 | .tmp t::k,l,h=>by
  simp only[jq] at h;split at h
  ·rename_i o p;cases h;obtain⟨aS,a2⟩:=Ge n m p;refine⟨by simp[aS],λi r v c d=>?_⟩;cases i with
   |zero=>simp at c d;subst c;subst d;exact⟨_,rfl,m.dB t⟩
   |succ i=>simp at c d;exact a2 i r v c d
  cases h
 | .cell x t::k,l,h=>by
  simp only[jq] at h;split at h
  ·rename_i y o q p;cases h;obtain⟨aS,a2⟩:=Ge n m p;refine⟨by simp[aS],λi r v c d=>?_⟩;cases i with
   |zero=>simp at c d;subst c;subst d;exact abk n m q
   |succ i=>simp at c d;exact a2 i r v c d
  cases h
theorem ZB{P:Program}{a:Array Value}{r:ResultVar}(h:d.results= #[r])(c:(lr a r).run P w= .ok u w):(Go.results d a).run P w= .ok u w:=by rw[DB,h];simp[c]
theorem ZA{P:Program}{a:Array Value}{r c:ResultVar}{v:Value}(h:d.results= #[r,c])(e:(lr a r).run P w= .ok u w)(i:(lr a c).run P w= .ok v w):(Go.results d a).run P w= .ok (.tuple #[u,v]) w:=by rw[DB,h];simp[e,i]
theorem Zz{P:Program}{a:Array Value}{r c:ResultVar}{v:Value}(h:d.results= #[r,e,c])(i:(lr a r).run P w= .ok u w)(k:(lr a e).run P w= .ok z w)(l:(lr a c).run P w= .ok v w):
  (Go.results d a).run P w= .ok (.tuple #[u,z,v]) w:=by rw[DB,h];simp[i,k,l]
theorem Zy{P:Program}{a:Array Value}{r c i:ResultVar}{v x:Value}(h:d.results= #[r,e,c,i])(k:(lr a r).run P w= .ok u w)(l:(lr a e).run P w= .ok z w)(m:(lr a c).run P w= .ok v w)(n:(lr a i).run P w= .ok x w):
  (Go.results d a).run P w= .ok (.tuple #[u,z,v,x]) w:=by rw[DB,h];simp[k,l,m,n]
theorem Km{P:Program}{l:List (Nat×cn)}(Z:dZ P l){K:Ctx}{a:Act}(b:Rel K X s a w){e:List ResultVar}(q:d.results.toList=e){k:List V}(h:jq l s e=aa k)(f:cY e.length 4=ab):
  ∃u,(Go.results d a.tmps).run P w= .ok u w/\bp X w (own K X s.H) (nU k) u:=by
 obtain⟨g,p⟩:=Ge Z b h;have q:d.results=e.toArray:=by rw[<-q]
 match e,k,g,p,f with
 | [],[],_,_,_=>exact⟨_,results_none q _ _ _,.bQ [] #[] rfl λi c u h _=>by simp at h⟩
 | [r],[v],_,p,_=>
  obtain⟨u,aS,a2⟩:=p 0 r v rfl rfl;exact⟨u,ZB q aS,a2⟩
 | [r,z],[v,A],_,p,_=>
  obtain⟨u,aS,a2⟩:=p 0 r v rfl rfl;obtain⟨W,B,F⟩:=p 1 z A rfl rfl;refine⟨_,ZA q aS B,.bQ _ _ rfl λi c u m o=>?_⟩
  match i with
  |0=>simp at m o;subst m;subst o;exact a2
  |1=>simp at m o;subst m;subst o;exact F
  |n+2=>simp at m
 | [r,z,x],[v,A,y],_,p,_=>
  obtain⟨u,aS,a2⟩:=p 0 r v rfl rfl;obtain⟨W,B,F⟩:=p 1 z A rfl rfl;obtain⟨L,Q,R⟩:=p 2 x y rfl rfl;refine⟨_,Zz q aS B Q,.bQ _ _ rfl λi c u m o=>?_⟩
  match i with
  |0=>simp at m o;subst m;subst o;exact a2
  |1=>simp at m o;subst m;subst o;exact F
  |2=>simp at m o;subst m;subst o;exact R
  |n+3=>simp at m
 | [r,z,x,j],[v,A,y,t],_,p,_=>
  obtain⟨u,aS,a2⟩:=p 0 r v rfl rfl;obtain⟨W,B,F⟩:=p 1 z A rfl rfl;obtain⟨L,Q,R⟩:=p 2 x y rfl rfl;obtain⟨I,D,E⟩:=p 3 j t rfl rfl;refine⟨_,Zy q aS B Q D,.bQ _ _ rfl λi c u m o=>?_⟩
  match i with
  |0=>simp at m o;subst m;subst o;exact a2
  |1=>simp at m o;subst m;subst o;exact F
  |2=>simp at m o;subst m;subst o;exact R
  |3=>simp at m o;subst m;subst o;exact E
  |n+4=>simp at m
def PH(c:List (Nat×cn))(d:List ResultVar)(r:V):Exit->S->Prop
 | .normal,s| .ret,s=> ∃a,jq c s d=aa a/\dC (nU a) r
 |_,_=>False
def PG(d:List (Nat×cn))(e:List ResultVar)(r:V)(a:List E):Exit->S->Prop
 | .normal,s| .ret,s=> ∃c,jq d s e=aa c/\dC (nU c) r/\r.ok (fh a.length)=ab/\lD s.H (fh a.length) (fw a 0)
 |_,_=>False
section
variable {P:Program}{G:fq}{cf:List (Nat×cn)}
theorem Rc{r:V}{a:List ResultVar}(A:dZ P cf)(B:P.funcs[f]? =aa d)(H:(d.name== "runtime.NumGoroutine")=ak)(q:d.body=aa c)(L:d.results.toList=a)(s:d.ntmps=n)
  (k:cY args.length n=ab) (Q:r.ok gG=ab) (x:cY a.length 4=ab)
  (h: ∀w X,dQ.Fits ⟨P,G,cf,n,0,hf⟩ (Ctx.pure P G w X n)->cJ (Ctx.pure P G w X n) c (start args) (PH cf a r)):j8 P G f args r:=by
 subst s;refine⟨M7 B H q,?_⟩;intro w X R W Z F;have o:R.length<=d.ntmps:=by rw[F.length];exact eG k
 refine calls_of_wp B q (h w X (ad1 A _ w X) hf _ w _ (Rel.start W Z F o) ?_);intro e g j t w' m i;have p:(∃y,jq cf g a=aa y/\dC (nU y) r)->bodyPost P d (λe w'=> ∃u,e= .returned u/\Ext (λ_=>False) w w'/\bp hf w' X r u) .ret t w':=by
  rintro⟨y,z,k⟩;obtain⟨u,v,bR⟩:=Km A i L z x;have bR:=k _ _ _ _ bR;refine⟨i.defers,u,v,u,rfl,?_,?_⟩
  ·exact i.ext.weaken λb _ ⟨id,h,_⟩=>by simp[Ctx.pure] at h
  exact bR.under (u:=gG) (λb q=> .inl q) (λ_ h=>by simp[gG] at h) Q
 cases e with
 |normal=>exact p m
 |ret=>exact p m
 |exit id=>exact m.elim
 |goto l=>exact m.elim
 |panic c=>exact m.elim
 |outgrown=>exact m.elim
def tL(a:Map):List E->Nat->Prop
 | [],_=>True
 | .arr _ g _ _::c,k=>(∃q,a k=aa (q,g))/\tL a c (k+1)
 | .bd _ _ g _ _::c,k=>(∃q,a k=aa (q,g))/\tL a c (k+1)
 | .cells _::c,k=>True/\tL a c (k+1)
theorem LP{X:Map}: ∀(a:List E) (k:Nat),(∀(i:Nat) e g,a[i]? =aa e->e.gen=aa g-> ∃q,X (k+i)=aa (q,g))->tL X a k
 | [],_,_=>trivial
 |e::a,k,h=>by
  have b3:=LP a (k+1) (λi e g c d=>by
   have:=h (i+1) e g (by simpa using c) d
   rwa [show k+(i+1)=k+1+i by omega] at this)
  cases e with
  |cells=>exact⟨trivial,b3⟩
  |arr _ g _ _=>exact⟨h 0 _ g rfl rfl,b3⟩
  |bd _ _ g _ _=>exact⟨h 0 _ g rfl rfl,b3⟩
theorem ahP{o:Func}{a out:List E}{r:V}{x y:Nat}{R:List ResultVar}(kT:dZ P cf)(iK:P.funcs[f]? =aa o)(cG:(o.name== "runtime.NumGoroutine")=ak)(a7:o.body=aa c)(b3:o.results.toList=R)(W:o.ntmps=x)(Z:a.length=y)
  (z:cY args.length x=ab) (A:cY y out.length=ab) (j:cY R.length 4=ab)
  (h: ∀w X d,dQ.Fits ⟨P,G,cf,x,y,d⟩ (Ctx.fo P G w X y d x)->tL d a 0->cJ (Ctx.fo P G w X y d x) c (nD a args) (PG cf R r out)):kF P G f a args r out:=by
 subst W;subst Z;refine⟨M7 iK cG a7,?_⟩;intro w X d us lh iJ aP hc;have B:us.length<=o.ntmps:=by rw[hc.length];exact eG z
 refine calls_of_wp iK a7 (h w X d (ad0 kT _ _ w X d) (LP a 0 (λk e g v bG=>by
  rw[eg];exact(oZ (aP.heap k _ v) bG).2)) d _ w _ (Rel.nD lh iJ aP hc B) ?_)
 intro e D F tB w' q m;have L:(∃I,jq cf D R=aa I/\dC (nU I) r/\r.ok (fh out.length)=ab/\lD D.H (fh out.length) (fw out 0))->
   bodyPost P o (λe w'=> ∃u,∃i:Unit,∃β,e= .returned u/\True/\Left d β a out w w' X r u) .ret tB w':=by
  rintro⟨I,M,N,T,hH⟩;obtain⟨u,hu,bR⟩:=Km kT m b3 M j;have bR:=N _ _ _ _ bR;have hm:a.length<=out.length:=eG A;let p:S:={t:=pX,H:=fw out 0,u:=fh out.length}
  have Q:mH a.length p.u=ab:=by
   have: ∀n,n<=a.length->mH n p.u=ab:=by
    intro n;induction n with
    |zero=>intro _;rfl
    |succ n my=>intro cG;simp[mH,my O,show p.u n=ab from ju.2 O]
   exact this _ (cV _)
  have bN:=m.cut (s':=p) (o4.nil _ _) hH Q;have ew:=Eb (K:=Ctx.fo P G w X a.length d o.ntmps) (β:=F) (s:=D) (s':=p) hH;refine⟨m.defers,u,hu,u,(),cut F p.u,rfl,trivial,?_⟩;refine⟨m.ext.weaken λb _ ⟨id,_,h⟩=>⟨id,h⟩,bN.base,bN.j1,?_,?_,bN.inj,bN.fresh,?_,bR.under ew (λ_ h=>wX h) T⟩
  ·intro k v;apply bN.eh;cases U:p.u k with
   |false=>rfl
   |true=>have:=ju.1 U;omega
  ·intro k b v;apply bN.eQ;cases U:p.u k with
   |false=>rfl
   |true=>have:=ju.1 U;omega
  intro k e he;exact(bN.heap k e (by rw[<-yr] at he;exact he)).2
 cases e with
 |normal=>exact L q
 |ret=>exact L q
 |exit id=>exact q.elim
 |goto l=>exact q.elim
 |panic c=>exact q.elim
 |outgrown=>exact q.elim
def xe(r:V):Option (List V)->Option V
 |some a=>aa (lK r (nU a))
 |none=>aj
theorem PL{a:List ResultVar}{r:V}(h:xe r (jq cf s a)=aa r): ∃c,jq cf s a=aa c/\dC (nU c) r:=by
 cases d:jq cf s a with
 |none=>rw[d] at h;cases h
 |some c=>rw[d] at h;simp only[xe,Option.some.injEq] at h;exact⟨c,rfl,adF h⟩
theorem adE{c:List ResultVar}{r:V}{a:List E}(h:(xe r (jq cf s c),tE s a 0,r.ok (fh a.length)&&tX (fh a.length) a)=(aa r,tv a,ab)):
  ∃d,jq cf s c=aa d/\dC (nU d) r/\r.ok (fh a.length)=ab/\lD s.H (fh a.length) (fw a 0):=by
 simp only[Prod.mk.injEq,b5] at h;obtain⟨l,m,n,o⟩:=h;obtain⟨d,aS,a2⟩:=PL l;refine⟨d,aS,a2,n,λk e i=>?_⟩;rw[yr] at i
 have:=L4 m k e i;rw[eg] at this;exact⟨this,ju.2 (bX.1 i).1,MI o k e i⟩
end
theorem ug(f:a->List T)(ph:a)(h:app l [y]=aa r):app (bV f l) [f ph]=aa (bV f (l++[ph])):=by
 obtain⟨c,_⟩:=vU h;unfold app
 grind
theorem oc(f:a->List T)(l:List a)(ph:a):(bV f (l++[ph]))[(bV f l).length+0]? =aa (f ph):=by grind
theorem Bu(f:a->List T)(l:List a){r:List T}(e:r=f y):(bV f (l++[ph])).set ((bV f l).length+0) r=bV f (l++[y]):=by grind
theorem tT(f:a->List T){x:List a}{r:List T}(h:app l [y]=aa x)(e:r=f y):(bV f (l++[ph])).set ((bV f l).length+0) r=bV f x:=by
 obtain⟨_,rfl⟩:=vU h
 grind
theorem ue(f:a->List T){x:List a}(c:a)(h:app l [y]=aa x):(bV f (l++[c])).length=(bV f x).length:=by obtain⟨_,rfl⟩:=vU h;simp
theorem ht(f:a->List T)(h:cA l i y=aa r)(e:q=f y):(bV f l).set (0+i.toNat) q=bV f r:=by subst e;exact(str f h).symm
theorem o5(f:a->List T)(h:az l i=aa x)(e:q=f x):(bV f l).set (0+i.toNat) q=bV f l:=by subst e;have c:=m9 f h;obtain⟨k,d⟩:=bX.1 c;rw[<-d,List.set_getElem_self]
theorem c8(f:a->List T)(h:cA l i x=aa r):(l.map f).length=(r.map f).length:=by obtain⟨_,_,rfl⟩:=sN h;simp
theorem iQ{r:R}(h:(aj:Option R)=aa r):p:=by cases h
def iI{R:Type}(a b:List R):Option Unit:=if b.length=a.length then aa () else aj
theorem jf{a b:List R}{u:Unit}(f:R->List T)(h:iI a b=aa u):(a.map f).length=(b.map f).length:=by
 unfold iI at h
 grind
def Db{a:Type}(f:a->List T):Option a->V
 |none=> .t .hP
 |some x=> .aQ (f x)
theorem adN(f:a->List T)(o:Option a)(b:Bool):(V.bQ [Db f o,aO b]).ok gG=ab:=by cases o<;>rfl
theorem yL{P:Program}{G:fq}[Inhabited a]{r:a->List T}(h:o.isSome=ab)(k:j8 P G f args (V.bQ [Db r o,v])):j8 P G f args (V.bQ [V.aQ (r (o.getD default)),v]):=by
 cases o with
 |none=>cases h
 |some x=>exact k
theorem yK{P:Program}{G:fq}{r:a->List T}(h:o.isSome=ak)(k:j8 P G f args (V.bQ [Db r o,v])):j8 P G f args (V.bQ [V.t .hP,v]):=by
 cases o with
 |none=>exact k
 |some x=>cases h
theorem adV(f:a->List T)(l:List a):(l.map f).length=((l.take l.length).map f).length:=by rw[dF]
theorem YZ(f:a->List T)(l:List a)(c:0<=i)(d:i<(l.length:Int)):
  0<=i/\i<=((l.map f).length:Int)/\((l.map f).length:Int)<=((l.map f).length:Int)/\(i=0\/i<((l.map f).length:Int))/\i.toNat=0+i.toNat/\l.length-i.toNat=((l.map f).length:Int).toNat-i.toNat:=by grind
theorem PM(f:a->List T)(l:List a)(k:Nat):(l.take k).map f=(l.map f).take k:=List.map_take
section
set_option linter.unusedVariables false
def eY{a:Type}(l:List a)(i j:Int):Nat:=i.toNat+(l.length-j.toNat)
def nb{a:Type}(l:List a)(i j:Int):List a:=l.take i.toNat++l.drop j.toNat++l.drop (eY l i j)
def kb{a:Type}(l:List a)(i j:Int)(z:a):List a:=l.take i.toNat++l.drop j.toNat++List.replicate (l.length-eY l i j) z
theorem M4(l:List a)(c:0<=i)(d:i<=j)(e:j<=(l.length:Int)):(nb l i j).length=l.length:=by
 unfold nb eY
 grind
theorem aep(f:a->List T)(l:List a)(c:0<=i)(d:i<=j)(e:j<=(l.length:Int)):0<=i/\i<=j/\j<=(l.length:Int)/\(l.length:Int)<=((l.map f).length:Int):=by grind
theorem P1(f:a->List T)(l:List a)(c:0<=i)(d:i<=j)(e:j<=(l.length:Int)):
  (0:Int)<=0/\(0:Int)<=i/\i<=((l.map f).length:Int)/\((0:Int)=0\/(0:Int)<((l.map f).length:Int))/\0=0+(0:Int).toNat/\i.toNat=i.toNat-(0:Int).toNat:=
 ⟨fM _,c,by rw[dz];omega,.inl rfl,rfl,rfl⟩
theorem aeo(f:a->List T)(l:List a)(c:0<=i)(d:i<=j)(e:j<=(l.length:Int))(h: ¬j<(l.length:Int)):0<=j/\j=((l.map f).length:Int)/\((l.map f).length:Int)<=((l.map f).length:Int):=by grind
theorem adJ(f:a->List T)(l:List a)(c:0<=i)(d:i<=j)(e:j<=(l.length:Int)):i.toNat+(l.length-j.toNat)<=(l.map f).length:=by grind
theorem adI(f:a->List T)(l:List a)(c:0<=i)(d:i<=j)(e:j<=(l.length:Int)):j.toNat+(l.length-j.toNat)<=(l.map f).length:=by grind
theorem adH(f:a->List T)(l:List a)(i j:Int):(nb l i j).map f=(l.map f).take i.toNat++((l.map f).drop j.toNat).take (l.length-j.toNat)++(l.map f).drop (i.toNat+(l.length-j.toNat)):=by unfold nb eY;rw[eZ,eZ,List.map_take,List.map_drop,List.map_drop,j2 (l:=(l.map f).drop j.toNat) (by rw[im,dz];omega)]
theorem P2(f:a->List T)(l r:List a){k:Nat}(e:0<k)(h:0<=i)(n:i<j)(o:j<=(l.length:Int))(c:r.length=l.length){m:Nat}(d:m=eY l i j):
  0<k/\(0:Int)<=(m:Int)/\(m:Int)<(l.length:Int)/\((0:Nat):Int)+(l.length:Int)<=((r.map f).length:Int)/\m=0+(m:Int).toNat/\l.length-m=(l.length:Int).toNat-(m:Int).toNat:=by rw[dz,c,d];unfold eY;omega
theorem aen(f:a->List T)(l:List a)(z:a)(d:0<=i)(k:i<j)(e:j<=(l.length:Int)):
  eY l i j+(l.length-eY l i j)<=((nb l i j).map f).length/\(kb l i j z).map f=((nb l i j).map f).take (eY l i j)++List.replicate (l.length-eY l i j) (f z)++((nb l i j).map f).drop (eY l i j+(l.length-eY l i j)):=by
 have cC:=M4 l d (O:i<=j) e;have c:(l.take i.toNat++l.drop j.toNat).length=eY l i j:=by
  unfold eY;simp only[List.length_append,List.length_take,List.length_drop];omega
 have h:eY l i j<=l.length:=by unfold eY;omega
 refine⟨by rw[dz,cC];omega,?_⟩;rw[l6 (as:=(nb l i j).map f) (by rw[dz,cC];omega),jn,<-List.map_take];unfold kb nb;rw[eZ,List.map_replicate,C4 (by rw[c];exact cV _),j2 (l:=l.take i.toNat++l.drop j.toNat) (by rw[c];exact cV _)]
theorem adG(f:a->List T)(l:List a)(z:a)(d:0<=i)(e:i<j)(h:j<=(l.length:Int))(k: ¬j<(l.length:Int)):
  i.toNat+(l.length-i.toNat)<=(l.map f).length/\(kb l i j z).map f=(l.map f).take i.toNat++List.replicate (l.length-i.toNat) (f z)++(l.map f).drop (i.toNat+(l.length-i.toNat)):=by
 refine⟨by rw[dz];omega,?_⟩;have c:eY l i j=i.toNat:=by unfold eY;omega
 unfold kb;rw[c,l6 (as:=l) (i:=j.toNat) O,jn,l6 (as:=l.map f) (by rw[dz];omega),jn,eZ,List.map_take,List.map_replicate]
theorem P3(f:a->List T)(l:List a)(z:a)(c:0<=i)(d:i<j)(e:j<=(l.length:Int)):eY l i j=(((kb l i j z).take (eY l i j)).map f).length:=by
 unfold kb eY
 grind
theorem P4(l:List a)(c:j<=(l.length:Int))(d: ¬j<(l.length:Int)):i.toNat=eY l i j:=by unfold eY;omega
end
theorem vK(h:cA l i x=aa r)(y:a):cA l i y=aa (l.set i.toNat y):=by
 obtain⟨c,d,_⟩:=sN h;unfold cA
 grind
theorem tJ(h:cA l i x=aa r)(y:a):az (l.set i.toNat y) i=aa y:=by
 obtain⟨c,d,_⟩:=sN h;unfold az
 grind
theorem vJ(h:cA l i x=aa r)(y:a):cA (l.set i.toNat y) i x=aa r:=by obtain⟨c,d,rfl⟩:=sN h;unfold cA;rw[aX ⟨c,by rw[e7];exact d⟩,List.set_set]
theorem Bl{a l:List R}{u:Unit}{x:R}(f:R->List T)(c:iI a l=aa u)(h:az l i=aa x):0<=i/\i<((a.map f).length:Int):=by have:=bM f h;rw[jf f c];exact this
theorem PJ{a l:List R}{u:Unit}(f:R->List T)(c:iI a l=aa u):(a.map f).length=l.length:=(jf f c).trans (PK f l)
theorem acn(h:cA l i x=aa r):az r i=aa x:=by
 obtain⟨c,d,rfl⟩:=sN h;unfold az
 grind
end Go.Lift
