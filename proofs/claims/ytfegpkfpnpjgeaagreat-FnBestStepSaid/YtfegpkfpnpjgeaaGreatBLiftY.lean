/- Tools. -/
import Derived.Test.YtfegpkfpnpjgeaaGreatBLiftV
namespace Go.Lift
open Go
section
def cN.cat(a b:cN):cN:=⟨a.fg++b.fg,a.hs++b.hs,a.us++b.us⟩
def cN.nil:cN:=⟨[],[],[]⟩
theorem M8{R:Type}: ∀(a b:List (Nat×R)) (f:Nat->R),df f (a++b)=df (df f a) b
 | [],_,_=>rfl
 |(d,v)::a,b,f=>by simp only[List.cons_append,df];exact M8 a b _
theorem nr(a b:cN)(s:S):(a.cat b).app s=b.app (a.app s):=by unfold cN.app cN.cat;simp only[M8]
theorem mr{a:Type}: ∀(l:List (Nat×a)) (f:Nat->a) (r:Nat),((∀v,(r,v)∉l)/\df f l r=f r)\/ ∃v,(r,v)∈l/\df f l r=v
 | [],_,_=> .inl ⟨λ_ h=>(List.not_mem_nil h).elim,rfl⟩
 |(d,v)::l,f,r=>by
  rcases mr l (aS f d v) r with ⟨e,c⟩|⟨i,e,c⟩
  ·by_cases k:r=d
   ·subst k;exact .inr ⟨v,eM,by rw[df,c,bP]⟩
   refine .inl ⟨λi h=>?_,by rw[df,c,bQ _ _ _ _ k]⟩;rcases dL.1 h with h|h
   ·cases h;exact k rfl
   exact e i h
  exact .inr ⟨i,ew _ e,by rw[df,c]⟩
mutual
def lz:V->V->V
 | .t (.aA _),v=>nC v
 | .agg cs,.agg a=> .agg (ql cs a)
 | .bH cs,.bH a=> .bH (ql cs a)
 | .cY,_=> .cY
 |_,v=>v
def ql:List V->List V->List V
 |c::cs,v::a=>lz c v::ql cs a
 |_,a=>a
end
mutual
theorem Gn: ∀c v:V,dv v (lz c v)
 | .t (.aA _),v=>by simp only[lz];exact tP v
 | .agg cs,.agg a=>by simp only[lz];exact dv.agg (Be cs a)
 | .bH cs,.bH a=>by simp only[lz];exact dv.bH (Be cs a)
 | .cY,v=>by simp only[lz];exact dv.cY v
 | .t (.bool _),v| .t (.int _ _),v| .t (.str _),v| .t .fe,v| .t .gV,v| .t .gw,v| .t .nB,v| .t .err,v=>by simp only[lz];exact dv.refl v
 | .ref _ _,v| .aL _,v| .a8 _ _ _ _ _,v| .cw _ _ _ _ _,v| .fn _ _,v=>by simp only[lz];exact dv.refl v
 | .agg _,.t _| .agg _,.bH _| .agg _,.ref _ _| .agg _,.aL _| .agg _,.a8 _ _ _ _ _| .agg _,.cw _ _ _ _ _| .agg _,.fn _ _| .agg _,.cY=>by simp only[lz];exact dv.refl _
 | .bH _,.t _| .bH _,.agg _| .bH _,.ref _ _| .bH _,.aL _| .bH _,.a8 _ _ _ _ _| .bH _,.cw _ _ _ _ _| .bH _,.fn _ _| .bH _,.cY=>by simp only[lz];exact dv.refl _
theorem Be: ∀cs a:List V,fh a (ql cs a)
 |c::cs,v::a=>by simp only[ql];exact⟨Gn c v,Be cs a⟩
 | [],a=>by simp only[ql];exact fh.refl a
 |_::_,[]=>by simp only[ql];exact trivial
end
def BV:Option E->Option E->Option E
 |some (.cells cs),some (.cells a)=>some (.cells (ql cs a))
 |some _,e=>e
 |none,_=>none
variable {c:List (List T)}{e:TypeId}{x:E}{β G:Map}{w:World}{r l:List Nat}{m i k gen n b L g:Nat}{q:Option Nat}{X A:Nat->Prop}{u:Value}{o:Oper}
theorem Oj{c e:Option E}(h:BV c e=some x): ∃a,e=some a/\ju a x:=by
 unfold BV at h;split at h
 ·cases h;exact⟨_,rfl,Be _ _⟩
 ·exact⟨x,h,ju.refl x⟩
 cases h
def ug(s:S):List (Nat×V)->List V
 | []=>[]
 |(i,v)::l=>lz v (s.t i)::ug s l
def uh(s:S):List (Nat×Option E)->List (Option E)
 | []=>[]
 |(k,e)::l=>BV e (s.H k)::uh s l
def kj{a:Type}:List (Nat×a)->List a
 | []=>[]
 |(_,v)::l=>v::kj l
theorem FM{s:S}: ∀{l:List (Nat×V)},ug s l=kj l-> ∀i v,(i,v)∈l->dv (s.t i) v
 |(a,c)::l,h,i,v,hm=>by
  simp only[ug,kj,List.cons.injEq] at h;rcases dL.1 hm with hm|hm
  ·cases hm;exact h.1▸Gn _ _
  exact FM h.2 i v hm
theorem F2{s:S}: ∀{l:List (Nat×Option E)},uh s l=kj l-> ∀k e,(k,some e)∈l-> ∃a,s.H k=some a/\ju a e
 |(j9,a)::l,h,k,e,hm=>by
  simp only[uh,kj,List.cons.injEq] at h;rcases dL.1 hm with hm|hm
  ·cases hm;exact Oj h.1
  exact F2 h.2 k e hm
def rz{a:Type}(c:List Nat):List (Nat×a)->Bool
 | []=>true
 |(i,_)::l=>iB i c&&rz c l
theorem Fl{a:Type}{r:List Nat}: ∀{l:List (Nat×a)},rz r l=true-> ∀i v,(i,v)∈l->i∈r
 |(c,d)::l,h,i,v,hm=>by
  simp only[rz,Bool.and_eq_true] at h;rcases dL.1 hm with hm|hm
  ·cases hm;exact AF h.1
  exact Fl h.2 i v hm
def xA{a:Type}:List (Nat×a)->List Nat
 | []=>[]
 |(i,_)::l=>i::xA l
theorem Ns{a:Type}{i:Nat}: ∀{l:List (Nat×a)},i∈xA l-> ∃v,(i,v)∈l
 |(e,c)::l,h=>by
  simp only[xA,List.mem_cons] at h;rcases h with rfl|h
  ·exact⟨c,eM⟩
  obtain⟨v,d⟩:=Ns h;exact⟨v,ew _ d⟩
def BF(a:List Nat)(t:Nat->V):Nat->V:=λi=>bif iB i a then .cY else t i
def S.cl(s:S)(a:List Nat)(c:List (Nat×V))(d:List (Nat×Option E))(e:List (Nat×Bool)):S:={t:=df (BF a s.t) c,H:=df s.H d,u:=df s.u e}
theorem Rel.JL{K:Ctx}{s c:S}{a:Act}(l:Rel K β s a w)(n:c.u=s.u)(x: ∀k e,c.H k=some e-> ∃m,s.H k=some m/\ju m e)(y: ∀i,dv (s.t i) (c.t i)):Rel K β c a w:=by
 have d: ∀b,own K β c.H b->own K β s.H b:=by
  rintro b (h|⟨id,p,q⟩)
  ·exact .inl h
  cases o:c.H id with
  |none=>exact bz o p
  |some e=>
   obtain⟨m,r,_⟩:=x id e o;exact .inr ⟨id,by rw[r];simp,q⟩
 refine {l with low:= ?_,dF:= ?_,ea:= ?_,heap:= ?_,cW:= ?_}
 ·intro id h;rw[n];exact l.low id h
 ·intro id h;rw[n] at h;exact l.dF id h
 ·intro id b h;rw[n] at h;exact l.ea id b h
 ·intro id e o;obtain⟨m,p,q⟩:=x id e o;obtain⟨r,z⟩:=l.heap id m p;refine⟨by rw[n];exact r,?_⟩;exact(q.vB z).mono (Ext.refl _ _) (λb _=>d b) (di.refl _) (λ_ h=>h) (Shaped.refl _ _) λ_ _=>rfl
 intro i;exact(y i _ _ _ _ (l.cW i)).mono (Ext.refl _ _) (λb _=>d b) (di.refl _) (Shaped.refl _ _)
theorem acp{K:Ctx}{s:S}{e:cN}{d:List (Nat×V)}{c:List (Nat×Option E)}{m:List (Nat×Bool)}(z:e.us=m)(A:rz r e.fg=true)(B:rz (xA c) e.hs=true)
  (F:ug (e.app s) d=kj d) (G:uh (e.app s) c=kj c):(e.app s).le K (s.cl r d c m):=by
 intro L a w Q;refine⟨L,Q.JL ?_ ?_ ?_⟩
 ·show df s.u m=df s.u e.us;rw[z]
 ·intro k x o;have o:df s.H c k=some x:=o;rcases mr c s.H k with ⟨p,n⟩|⟨v,p,n⟩
  ·rw[n] at o;refine⟨x,?_,ju.refl x⟩;show df s.H e.hs k=some x;rw[mz _ _ _ λv q=>?_]
   ·exact o
   obtain⟨X,R⟩:=Ns (Fl B k v q)
   grind
  rw[n] at o;subst o;exact F2 G k x p
 intro i;show dv _ (df (BF r s.t) d i);rcases mr d (BF r s.t) i with ⟨p,n⟩|⟨v,p,n⟩
 ·rw[n];unfold BF;cases y:iB i r with
  |true=>exact dv.cY _
  |false=>
   show dv (df s.t e.fg i) (s.t i);rw[mz _ _ _ (λv q=>by
    have hm:=Fl A i v q
    have: ∀{l:List Nat},i∈l->iB i l=true:=by
     intro l;induction l with
     |nil=>intro h;cases h
     |cons x l W=>
      intro h;simp only[iB];rcases dL.1 h with rfl|h
      ·simp
      cases Nat.beq x i with
      |true=>rfl
      |false=>exact W h
    rw[this hm] at y;cases y)]
   exact dv.refl _
 rw[n];exact FM F i v p
theorem M7{a:Type}(f:Nat->a)(i:Nat):aS f i (f i)=f:=by
 funext j;by_cases c:j=i
 ·subst c;rw[bP]
 rw[bQ _ _ _ _ c]
def Map.move(a:Map)(k c gen:Nat)(q:Option Nat):Map:=
 ⟨λi=>bif Nat.beq i c then some (q,1) else bif Nat.beq i k then some (none,gen+1) else a i,λi b=>(i=c/\a.n k b)\/(i≠c/\i≠k/\a.n i b)⟩
theorem G4(h:i≠k):Nat.beq i k=false:=by
 cases a:Nat.beq i k with
 |false=>rfl
 |true=>exact bz (cL a) h
theorem FL(c:Map)(k a gen:Nat)(q:Option Nat):c.move k a gen q a=some (q,1):=by simp[Map.move]
theorem FK(c:Map)(k a gen:Nat)(q:Option Nat)(h:k≠a):c.move k a gen q k=some (none,gen+1):=by simp[Map.move,G4 h]
theorem EO(a:Map)(k c gen:Nat)(q:Option Nat)(id:Nat)(h:id≠k)(d:id≠c):a.move k c gen q id=a id:=by simp[Map.move,G4 h,G4 d]
theorem OG(c:Map)(k d gen:Nat)(q:Option Nat)(a b:Nat)(h:a≠k)(e:a≠d):(c.move k d gen q).n a b↔c.n a b:=by simp[Map.move,h,e]
theorem N'(d:k≠i)(e:G k=some (q,gen))(h:At (G.move k i gen q) n b):(n=i/\At G k b)\/(n≠k/\n≠i/\At G n b):=by
 rcases h with ⟨g,h⟩|⟨rfl,h⟩|⟨a,c,h⟩
 ·by_cases a:n=i
  ·subst a;rw[FL] at h;cases h;exact .inl ⟨rfl,.inl ⟨gen,e⟩⟩
  by_cases c:n=k
  ·subst c;rw[FK _ _ _ _ _ d] at h;cases h
  rw[EO _ _ _ _ _ _ c a] at h;exact .inr ⟨c,a,.inl ⟨g,h⟩⟩
 ·exact .inl ⟨rfl,.inr h⟩
 exact .inr ⟨c,a,.inr h⟩
theorem XC{K:Ctx}{s:S}(i k bZ gen d B F:Nat){p:List (List T)}(N:Nat.ble K.c6 k=true)(W:k≠bZ)(aE:s.t i= .a8 k gen d B F)(X:s.H k=some (.arr e gen d p))(P:s.u bZ=false):
  s.le K {t:=aS s.t i (.a8 bZ 1 d B F),H:=aS (aS s.H k none) bZ (some (.arr e 1 d p)),u:=aS s.u bZ true}:=by
 intro Q a w h;have mw:=dY N;obtain⟨q,E⟩:=jl (h.heap k _ X).2;have iL:=(h.heap k _ X).2.1;have U:=(h.heap k _ X).1;have cu:=h.dF bZ P;have aew:K.c6<=bZ:=by
  apply Nat.le_of_not_lt;intro V;rw[h.low bZ V] at P;cases P
 let m:=Q.move k bZ gen q;have I:m bZ=some (q,1):=FL _ _ _ _ _;have cd:m k=some (none,gen+1):=FK _ _ _ _ _ W;have Y: ∀id,id≠k->id≠bZ->m id=Q id:=λid l A=>EO _ _ _ _ _ _ l A;have r: ∀id b,At m id b->(id=bZ/\At Q k b)\/(id≠k/\id≠bZ/\At Q id b):=by
  intro id b G;exact N' W E G
 have f:di Q m:=by
  intro id q2 g M
  grind
 have z: ∀b,own K m (aS (aS s.H k none) bZ (some (.arr e 1 d p))) b->own K Q s.H b:=by
  rintro b (M|⟨id,l,A⟩)
  ·exact .inl M
  rcases r id b A with ⟨rfl,y⟩|⟨y,D,R⟩
  ·exact .inr ⟨k,by rw[X];simp,y⟩
  rw[bQ _ _ _ _ D,bQ _ _ _ _ y] at l;exact .inr ⟨id,l,R⟩
 refine⟨m,{h with base:= ?_,low:= ?_,dF:= ?_,ea:= ?_,inj:= ?_,fresh:= ?_,heap:= ?_,cW:= ?_}⟩
 ·exact h.base.keep λid hid=>Y id O O
 ·intro id hid;show aS s.u bZ true id=true;rw[bQ _ _ _ _ O];exact h.low id hid
 ·intro id hid;have c:aS s.u bZ true id=false:=hid;by_cases l:id=bZ
  ·subst l;rw[bP] at c;cases c
  rw[bQ _ _ _ _ l] at c;rw[Y id (by intro e;subst e;rw[U] at c;cases c) l];exact h.dF id c
 ·intro id b hid G;have c:aS s.u bZ true id=false:=hid;rcases G with ⟨l,_⟩|⟨l,_,G⟩
  ·subst l;rw[bP] at c;cases c
  rw[bQ _ _ _ _ l] at c;exact h.ea id b c G
 ·intro id j4 b l A;rcases r id b l with ⟨rfl,y⟩|⟨y,D,R⟩<;>rcases r j4 b A with ⟨e2,h6⟩|⟨h6,lL,kX⟩
  ·exact e2.symm
  ·exact bz (h.inj _ _ b kX y) h6
  ·subst e2;exact bz (h.inj _ _ b R h6) y
  exact h.inj _ _ b R kX
 ·intro id b G;rcases r id b G with ⟨rfl,y⟩|⟨y,D,R⟩
  ·refine⟨?_,(h.fresh _ _ y).2⟩;exact(h.fresh _ _ y).1
  exact h.fresh id b R
 ·intro id e' o;have o:aS (aS s.H k none) bZ (some (.arr e 1 d p)) id=some e':=o;show aS s.u bZ true id=true/\cC m w (own K m (aS (aS s.H k none) bZ (some (.arr e 1 d p)))) id e';by_cases l:id=bZ
  ·subst l;rw[bP] at o;cases o;refine⟨bP _ _ _,cJ _,?_⟩;rcases(h.heap k _ X).2.2 with ⟨aI,a2⟩|⟨b,us,aI,a2,a3,a4,a5⟩
   ·rw[E] at aI;cases aI;exact .inl ⟨I,a2⟩
   rw[E] at aI;cases aI;exact .inr ⟨b,us,I,a2,a3,a4,λi j row x u c1 c2 dT=>(a5 i j row x u c1 c2 dT).mono (Ext.refl _ _) λb _=>z b⟩
  rw[bQ _ _ _ _ l] at o⊢;by_cases A:id=k
  ·subst A;rw[bP] at o;cases o
  rw[bQ _ _ _ _ A] at o;obtain⟨y,D⟩:=h.heap id e' o;exact⟨y,D.mono (Ext.refl _ _) (λb _=>z b) f (λx M=>by rw[Y id A l];exact M) (Shaped.refl _ _) (λ_ _=>rfl) λb=>OG _ _ _ _ _ _ _ A l⟩
 intro j;show bk m w _ (aS s.t i (.a8 bZ 1 d B F) j) _;by_cases hj:j=i
 ·subst hj;rw[bP];have l:=h.cW j;rw[aE] at l;generalize a.tmps.getD j undef=v at l;rcases e3 l E with ⟨cap,b,n,hn,rfl,L,hw,hs,pq,b8,hm⟩|⟨L,rfl,rfl,rfl⟩
  ·subst L;exact .a8 bZ 1 d B F cap b n hn (cJ _) I hw hs pq b8 hm
  subst L;exact .hi bZ 1 d (cJ _) I
 rw[bQ _ _ _ _ hj];exact(h.cW j).mono (Ext.refl _ _) (λb _=>z b) f (Shaped.refl _ _)
theorem cC.set{U:List V}{j:Nat}{c x:V}(h:cC β w X b (.cells U))(m:U[j]? =some c)(n: ∀u,bk β w X c u->bk β w X x u):cC β w X b (.cells (U.set j x)):=by
 obtain⟨a,d,ty,e,k,l,o⟩:=h;refine⟨a,d,ty,e,k,by simpa using l,λi v u p q=>?_⟩
 grind
theorem Vc{K:Ctx}{s:S}(b k i j gen p:Nat){n:List (List T)}{Q:List dN}{R:Nat}{l:List (List T)}{W:List (Nat×Nat×V)}(X:Nat.ble K.c6 k=true)(f:b≠k)
  (aY:s.H b=some (.a7 Q m R l ((i,j,.a8 k gen p 0 n.length)::W))) (hk:s.H k=some (.arr e gen p n)):
  s.le K {t:=s.t,H:=aS (aS s.H k none) b (some (.a7 Q m R l ((i,j,.t (.aA n))::W))),u:=s.u}:=by
 intro y a w h;have mw:=dY X;generalize eu:(some (.a7 Q m R l ((i,j,.t (.aA n))::W)):Option E)=N;have ahs:N≠none:=by subst eu;simp
 have d: ∀o,own K y (aS (aS s.H k none) b N) o->own K y s.H o:=by
  rintro o (g|⟨id,q,G⟩)
  ·exact .inl g
  by_cases z:id=b
  ·subst z;exact .inr ⟨id,by rw[aY];simp,G⟩
  rw[bQ _ _ _ _ z] at q;by_cases r:id=k
  ·subst r;rw[bP] at q;exact bz rfl q
  rw[bQ _ _ _ _ r] at q;exact .inr ⟨id,q,G⟩
 have A: ∀o,At y k o-> ¬own K y (aS (aS s.H k none) b N) o:=by
  rintro o F (g|⟨id,q,G⟩)
  ·obtain⟨e5,hz⟩:=h.iz o g;rcases(h.fresh k o F).1 with D|ji
   ·exact hz D
   omega
  have:=h.inj _ _ _ G F;subst this;rw[bQ _ _ _ _ (lk f),bP] at q;exact q rfl
 have I:=(h.heap k _ hk).2;refine⟨y,{h with heap:= ?_,cW:= ?_}⟩
 ·intro id e' c;have c:aS (aS s.H k none) b N id=some e':=c;by_cases z:id=b
  ·subst z;rw[bP] at c;subst c;cases eu;obtain⟨r,L⟩:=h.heap id _ aY;refine⟨r,L.1,?_⟩;rcases L.2 with ⟨aI,a2,a3⟩|⟨o,us,B,aI,a2,a3,a4,a5,jz,iH,fi⟩
   ·exact .inl ⟨aI,a2,a3⟩
   refine .inr ⟨o,us,B,aI,a2,a3,a4,λiM cT M x u cQ cd eO=>?_,jz,iH,fi⟩;have P:=a5 iM cT M x u cQ cd eO;refine⟨λv bL=>?_,λU=>?_⟩
   ·rcases dL.1 bL with e|bL
    ·simp only[Prod.mk.injEq] at e;obtain⟨rfl,rfl,rfl⟩:=e;obtain⟨Y,d2⟩:=P.1 _ eM;exact⟨.t _ _ (I.read Y d A),d2⟩
    obtain⟨Y,d2⟩:=P.1 v (ew _ bL);exact⟨Y.mono (Ext.refl _ _) (λb _=>d b) (di.refl _) (Shaped.refl _ _),d2⟩
   have hne: ¬(iM=i/\cT=j):=by rintro⟨rfl,rfl⟩;exact U _ eM
   refine(P.2 λv bL=>?_).mono (Ext.refl _ _) (λb _=>d b) (λ_ _=>rfl)
   grind
  rw[bQ _ _ _ _ z] at c;by_cases r:id=k
  ·subst r;rw[bP] at c;cases c
  rw[bQ _ _ _ _ r] at c;obtain⟨L,h6⟩:=h.heap id e' c;exact⟨L,h6.mono (Ext.refl _ _) (λb _=>d b) (di.refl _) (λ_ h=>h) (Shaped.refl _ _) λ_ _=>rfl⟩
 intro i;exact(h.cW i).mono (Ext.refl _ _) (λb _=>d b) (di.refl _) (Shaped.refl _ _)
theorem US{K:Ctx}{s:S}(b j k gen n:Nat){r:List V}(G:Nat.ble K.c6 k=true)(L:s.H b=some (.cells r))(g:r[j]? =some (.a8 k gen n 0 c.length))(Q:s.H k=some (.arr e gen n c)):
  s.le K {t:=s.t,H:=aS (aS s.H k none) b (some (.cells (r.set j (.t (.aA c))))),u:=s.u}:=by
 intro x a w h;have M:=dY G;have R:b≠k:=by intro e;subst e;rw[L] at Q;cases Q
 have l: ∀m,own K x (aS (aS s.H k none) b (some (.cells (r.set j (.t (.aA c)))))) m->own K x s.H m:=by
  rintro m (W|⟨id,o,B⟩)
  ·exact .inl W
  by_cases y:id=b
  ·subst y;exact .inr ⟨id,by rw[L];simp,B⟩
  rw[bQ _ _ _ _ y] at o;by_cases p:id=k
  ·subst p;rw[bP] at o;exact bz rfl o
  rw[bQ _ _ _ _ p] at o;exact .inr ⟨id,o,B⟩
 have z: ∀m,At x k m-> ¬own K x (aS (aS s.H k none) b (some (.cells (r.set j (.t (.aA c)))))) m:=by
  rintro m A (W|⟨id,o,B⟩)
  ·obtain⟨e5,N⟩:=h.iz m W;rcases(h.fresh k m A).1 with q|P
   ·exact N q
   omega
  have:=h.inj _ _ _ B A;subst this;rw[bQ _ _ _ _ (lk R),bP] at o;exact o rfl
 have X:=(h.heap k _ Q).2;refine⟨x,{h with heap:= ?_,cW:= ?_}⟩
 ·intro id e' d;have d:aS (aS s.H k none) b (some (.cells (r.set j (.t (.aA c))))) id=some e':=d;by_cases y:id=b
  ·subst y;rw[bP] at d;cases d;obtain⟨p,f⟩:=h.heap id _ L;refine⟨p,?_⟩;obtain⟨m,U,ty,Y,g2,g3,D⟩:=f;refine⟨m,U,ty,Y,g2,by simpa using g3,λi v u F E=>?_⟩;by_cases I:i=j
   ·subst I;have q:=(bU.1 g).1;rw[jr q] at F;cases F;exact .t _ _ (X.read (D i _ u g E) l z)
   rw[lg (lk I)] at F;exact(D i v u F E).mono (Ext.refl _ _) (λb _=>l b) (di.refl _) (Shaped.refl _ _)
  rw[bQ _ _ _ _ y] at d;by_cases p:id=k
  ·subst p;rw[bP] at d;cases d
  rw[bQ _ _ _ _ p] at d;obtain⟨f,h6⟩:=h.heap id e' d;exact⟨f,h6.mono (Ext.refl _ _) (λb _=>l b) (di.refl _) (λ_ h=>h) (Shaped.refl _ _) λ_ _=>rfl⟩
 intro i;exact(h.cW i).mono (Ext.refl _ _) (λb _=>l b) (di.refl _) (Shaped.refl _ _)
theorem Yk{K:Ctx}{s:S}{c:Nat}(b j k:Nat)(e:TypeId){A:List V}(G:s.u k=false)(f:s.H b=some (.cells A))(M:A[j]? =some (.t .fe)):
  s.le K {t:=s.t,H:=aS (aS s.H k (some (.arr e 1 c []))) b (some (.cells (A.set j (.a8 k 1 c 0 0)))),u:=aS s.u k true}:=by
 intro p a w h;have cu:=h.dF k G;have D:b≠k:=by intro e;subst e;have:=(h.heap b _ f).1;rw[this] at G;cases G
 have q: ∀id x,p id=some x->p.put k (some (none,1)) id=some x:=λid x l=>by
  rw[ep _ _ _ _ (by intro e;subst e;rw[cu] at l;cases l)];exact l
 have L:=di.of q;have o: ∀id n,At (p.put k (some (none,1))) id n->id≠k/\At p id n:=λid n l=>by
  by_cases r:id=k
  ·subst r;rcases l with ⟨g,l⟩|l
   ·rw[jf] at l;cases l
   exact bz l (h.ea _ _ G)
  refine⟨r,?_⟩;rcases l with ⟨g,l⟩|l
  ·rw[ep _ _ _ _ r] at l;exact .inl ⟨g,l⟩
  exact .inr l
 have y: ∀n,own K (p.put k (some (none,1))) (aS (aS s.H k (some (.arr e 1 c []))) b (some (.cells (A.set j (.a8 k 1 c 0 0))))) n->own K p s.H n:=by
  rintro n (l|⟨id,z,B⟩)
  ·exact .inl l
  obtain⟨E,Q⟩:=o id n B;by_cases X:id=b
  ·subst X;exact .inr ⟨id,by rw[f];simp,Q⟩
  rw[bQ _ _ _ _ X,bQ _ _ _ _ E] at z;exact .inr ⟨id,z,Q⟩
 have R: ∀v u,bk p w (own K p s.H) v u->bk (p.put k (some (none,1))) w (own K (p.put k (some (none,1))) (aS (aS s.H k (some (.arr e 1 c []))) b (some (.cells (A.set j (.a8 k 1 c 0 0)))))) v u:=
  λv u F=>F.mono (Ext.refl _ _) (λb _=>y b) L (Shaped.refl _ _)
 refine⟨p.put k (some (none,1)),{h with base:= ?_,low:= ?_,dF:= ?_,ea:= ?_,inj:= ?_,fresh:= ?_,heap:= ?_,cW:=λi=>R _ _ (h.cW i)}⟩
 ·refine h.base.keep λid hid=>?_
  have:=h.low id hid;rw[ep _ _ _ _ (by intro e;subst e;rw[G] at this;cases this)]
 ·intro id hid;show aS s.u k true id=true;by_cases e:id=k
  ·subst e;exact bP _ _ _
  rw[bQ _ _ _ _ e];exact h.low id hid
 ·intro id hid;have d:aS s.u k true id=false:=hid;by_cases e:id=k
  ·subst e;rw[bP] at d;cases d
  rw[bQ _ _ _ _ e] at d;rw[ep _ _ _ _ e];exact h.dF id d
 ·intro id b hid;have d:aS s.u k true id=false:=hid;by_cases e:id=k
  ·subst e;rw[bP] at d;cases d
  rw[bQ _ _ _ _ e] at d;exact h.ea id b d
 ·intro id W n z B;exact h.inj id W n (o id n z).2 (o W n B).2
 ·intro id n l;exact h.fresh id n (o id n l).2
 intro id e' m;have m:aS (aS s.H k (some (.arr e 1 c []))) b (some (.cells (A.set j (.a8 k 1 c 0 0)))) id=some e':=m;show aS s.u k true id=true/\cC _ _ (own K _ (aS (aS s.H k (some (.arr e 1 c []))) b (some (.cells (A.set j (.a8 k 1 c 0 0)))))) id e';by_cases Q:id=b
 ·subst Q;rw[bP] at m;cases m;rw[bQ _ _ _ _ D];obtain⟨X,n,T,ty,U,Y,g3,N⟩:=h.heap id _ f;refine⟨X,n,T,ty,q _ _ U,Y,by simpa using g3,λi v u F P=>?_⟩;by_cases r:i=j
  ·subst r;have I:=(bU.1 M).1;rw[jr I] at F;cases F;have z:=N i _ u M P;cases z with
   |t _ _ B=>cases B;exact .hi k 1 c (cJ _) (bP _ _ _)
  rw[lg (lk r)] at F;exact R _ _ (N i v u F P)
 rw[bQ _ _ _ _ Q] at m;by_cases r:id=k
 ·subst r;rw[bP] at m;cases m;exact⟨bP _ _ _,cJ _,Or.inl ⟨bP _ _ _,rfl⟩⟩
 rw[bQ _ _ _ _ r] at m;obtain⟨z,B⟩:=h.heap id e' m;exact⟨by rw[bQ _ _ _ _ r];exact z,B.mono (Ext.refl _ _) (λb _=>y b) L (q id) (Shaped.refl _ _) λ_ _=>rfl⟩
def lV(k:Nat):Nat->Bool:=λid=>bif Nat.beq id k then false else true
def rY(k:Nat)(v:V):V:=bif v.ok (lV k) then v else .cY
def GR(k:Nat):E->Option E
 | .cells cs=>bif gv (lV k) cs then some (.cells cs) else none
 | .a7 d m gen a c=>bif ur (lV k) c then some (.a7 d m gen a c) else none
 |e=>some e
theorem Bt(h:n≠k):lV k n=true:=by
 have:Nat.beq n k=false:=by cases a:Nat.beq n k with
  |false=>rfl
  |true=>exact bz (cL a) h
 simp[lV,this]
theorem xe(h:lV k n=true):n≠k:=by intro e;subst e;simp[lV] at h
def E.mO(n:Nat):E->E
 | .arr e _ z r=> .arr e n z r
 | .a7 a m _ r c=> .a7 a m n r c
 |e=>e
abbrev E.C7:E->E:=E.mO 1
def E.ny:E->List (Nat×Nat×V)
 | .a7 _ _ _ _ a=>a
 |_=>[]
theorem cC.mO{β':Map}{e:E}(h:cC β w X k e)(d:1<=n)(z:e.gen=some g)(s:β k=some (q,g))(y:β' L=some (q,n))(Q: ∀b,β'.n L b↔β.n k b)(R: ∀b,A b->X b)
  (f: ∀i j v,(i,j,v)∈e.ny-> ∀u,bk β w X v u->bk β' w A v u):cC β' w A L (e.mO n):=by
 cases e with
 |cells=>cases z
 |arr ty t W l=>
  cases z;refine⟨d,?_⟩;rcases h.2 with ⟨aI,a2⟩|⟨b,F,aI,a2,a3,a4,a5⟩
  ·rw[s] at aI;cases aI;exact .inl ⟨y,a2⟩
  rw[s] at aI;cases aI;exact .inr ⟨b,F,y,a2,a3,a4,λi j a x u o p r=>(a5 i j a x u o p r).mono (Ext.refl _ _) λb _=>R b⟩
 |a7 I m t l M=>
  cases z;refine⟨d,?_⟩;rcases h.2 with ⟨aI,a2,a0⟩|⟨b,F,B,aI,a2,a3,a4,a5,jz,iH,fi⟩
  ·rw[s] at aI;cases aI;exact .inl ⟨y,a2,λc D=>a0 c ((Q c).1 D)⟩
  rw[s] at aI;cases aI;exact .inr ⟨b,F,B,y,a2,a3,a4,λi j a x u o p r=>⟨λv G=>⟨f i j v G _ ((a5 i j a x u o p r).1 v G).1,((a5 i j a x u o p r).1 v G).2⟩,λH=>((a5 i j a x u o p r).2 H).mono (Ext.refl _ _) (λc _=>R c) λ_ _=>rfl⟩,jz,iH,λc=>(Q c).trans (fi c)⟩
theorem Rel.Q4{K:Ctx}{s s':S}{a:Act}(h:Rel K β s a w)(k g gen:Nat){e:E}{G:Option Nat}(B:s.H k=some e)(D:e.gen=some gen)(L:e.ny=[])(Q:k<K.c6)(R:K.fW k=some (G,g))
  (n:s'.u=s.u) (W:s'.H k=some (e.mO (g+1))) (q:Option Nat) (F:β k=some (q,gen))
  (I: ∀id x,id≠k->s'.H id=some x->s.H id≠none/\ ∀X,(∀b,X b->own K β s.H b)->cC (β.put k (some (q,g+1))) w X id x)
  (T: ∀i,∀X,(∀b,X b->own K β s.H b)->bk (β.put k (some (q,g+1))) w X (s'.t i) (a.tmps.getD i undef)):Rel K (β.put k (some (q,g+1))) s' a w:=by
 have f:1<=gen:=(o3 (h.heap k _ B).2 D).1;have o:=(h.heap k _ B).1;have p:1<=g/\ ∀b,q=some b->G=some b\/K.w0.heap.size<=b:=by
  rcases h.base k Q with M|⟨V,Y,q2,g2,aI,a2,a3,a4,a5⟩
  ·rw[F,R] at M;cases M;exact⟨f,λb aY=> .inl aY⟩
  rw[R] at aI;cases aI;rw[F] at a3;cases a3;exact⟨a2,a5⟩
 have c: ∀id b,At (β.put k (some (q,g+1))) id b->At β id b:=λid b aY=>by
  rcases aY with ⟨U,aY⟩|aY
  ·by_cases d:id=k
   ·subst d;rw[jf] at aY;cases aY;exact .inl ⟨gen,F⟩
   rw[ep _ _ _ _ d] at aY;exact .inl ⟨U,aY⟩
  exact .inr aY
 have l: ∀b,own K (β.put k (some (q,g+1))) s'.H b->own K β s.H b:=by
  rintro b (m|⟨id,r,z⟩)
  ·exact .inl m
  refine .inr ⟨id,?_,c id b z⟩;by_cases d:id=k
  ·subst d;rw[B];simp
  cases m:s'.H id with
  |none=>exact bz m r
  |some x=>exact(I id x d m).1
 refine {h with base:= ?_,low:= ?_,dF:= ?_,ea:=λid b hid=>h.ea id b (n▸hid),inj:= ?_,fresh:=λid b aY=>h.fresh id b (c id b aY),heap:= ?_,cW:=λi=>T i _ l}
 ·intro id hid;by_cases d:id=k
  ·subst d;exact .inr ⟨G,g,q,g+1,R,p.1,bP _ _ _,oV _,p.2⟩
  rw[ep _ _ _ _ d];exact h.base id hid
 ·intro id hid;rw[n];exact h.low id hid
 ·intro id hid;rw[n] at hid;rw[ep _ _ _ _ (by intro e;subst e;rw[o] at hid;cases hid)];exact h.dF id hid
 ·intro id A b r z;exact h.inj id A b (c id b r) (c A b z)
 intro id x m;by_cases d:id=k
 ·subst d;rw[W] at m;cases m;exact⟨by rw[n];exact o,(h.heap id _ B).2.mO O D F (bP _ _ _) (λ_=>Iff.rfl) l λi j v N=>by rw[L] at N;cases N⟩
 obtain⟨r,z⟩:=I id x d m;refine⟨?_,z _ l⟩;rw[n];cases P:s.H id with
 |none=>exact bz P r
 |some y=>exact(h.heap id y P).1
theorem Mn(l:G k=some (q,gen))(h:bk G w X (.a8 k gen i m L) u):bk (G.put k (some (q,g+1))) w A (.a8 k (g+1) i m L) u:=by
 rcases e3 h l with ⟨c,b,n,d,rfl,a,o,p,e,r,s⟩|⟨a,rfl,rfl,rfl⟩
 ·subst a;exact .a8 k (g+1) i m L c b n d O (bP _ _ _) o p e r s
 subst a;exact .hi k (g+1) i O (bP _ _ _)
theorem Nw{v:V}(h:bk G w X v u)(a: ∀b,A b->X b):bk (G.put k (some (q,g+1))) w A (rY k v) u:=by
 unfold rY;cases c:v.ok (lV k) with
 |false=>exact .cY _
 |true=>exact h.under a (λid hid=>ep _ _ _ _ (xe hid)) c
theorem MG{y:E}(h:cC G w X n x)(e: ∀b,A b->X b)(i:n≠k)(a:GR k x=some y):cC (G.put k (some (q,g+1))) w A n y:=by
 unfold GR at a;split at a
 ·rename_i cs;cases c:gv (lV k) cs with
  |false=>rw[c] at a;cases a
  |true=>rw[c] at a;cases a;exact h.under e (λn hid=>ep _ _ _ _ (xe hid)) (Bt i) c
 ·rename_i l;cases c:ur (lV k) l with
  |false=>rw[c] at a;cases a
  |true=>rw[c] at a;cases a;exact h.under e (λn hid=>ep _ _ _ _ (xe hid)) (Bt i) c
 cases a;refine h.under e (u:=lV k) (λn hid=>ep _ _ _ _ (xe hid)) (Bt i) ?_;cases x with
 |cells cs=>rename_i o _;exact bz rfl (o cs)
 |arr=>rfl
 |a7 p m gen d l=>rename_i _ o;exact bz rfl (o p m gen d l)
def qe(k:Nat)(H:Nat->Option E):Nat->Option E:=λid=>match H id with
 |some e=>GR k e
 |none=>none
theorem EB{K:Ctx}{s:S}(i k g gen c d l:Nat){e:E}(L:Nat.blt k K.c6=true)(Q:s.t i= .a8 k gen c d l)(A:s.H k=some e)(B:e.gen=some gen)(o:e.ny=[])(p: ∃q,K.fW k=some (q,g)):
  s.le K {t:=aS (λj=>rY k (s.t j)) i (.a8 k (g+1) c d l),H:=aS (qe k s.H) k (some (e.mO (g+1))),u:=s.u}:=by
 intro R a w h;obtain⟨W,p⟩:=p;obtain⟨_,q,F⟩:=o3 (h.heap k _ A).2 B;refine⟨_,h.Q4 (s':={t:=aS (λj=>rY k (s.t j)) i (.a8 k (g+1) c d l),H:=aS (qe k s.H) k (some (e.mO (g+1))),u:=s.u}) k g gen A B o (by simpa[Nat.blt_eq] using L) p rfl (bP _ _ _) q F ?_ ?_⟩
 ·intro id x n m;have m:aS (qe k s.H) k (some (e.mO (g+1))) id=some x:=m;rw[bQ _ _ _ _ n] at m;unfold qe at m;cases r:s.H id with
  |none=>rw[r] at m;cases m
  |some y=>
   rw[r] at m;exact⟨aP,λX z=>MG (h.heap id y r).2 z n m⟩
 intro j X z;show bk _ w X (aS (λj=>rY k (s.t j)) i (.a8 k (g+1) c d l) j) _;by_cases G:j=i
 ·subst G;rw[bP];exact Mn F (Q▸h.cW j)
 rw[bQ _ _ _ _ G];exact Nw (h.cW j) z
theorem np{K:Ctx}{s:S}(b j k g gen c l m:Nat){e:E}{cs:List V}(cy:Nat.blt k K.c6=true)(A:s.H b=some (.cells cs))(B:cs[j]? =some (.a8 k gen c l m))(F:gv (lV k) (cs.set j .cY)=true)
  (z:s.H k=some e) (G:e.gen=some gen) (L:e.ny=[]) (Q: ∃q,K.fW k=some (q,g)):
  s.le K {t:=λj=>rY k (s.t j),H:=aS (aS (qe k s.H) k (some (e.mO (g+1)))) b (some (.cells (cs.set j (.a8 k (g+1) c l m)))),u:=s.u}:=by
 intro R a w h;obtain⟨oH,Q⟩:=Q;obtain⟨_,q,I⟩:=o3 (h.heap k _ z).2 G;have n:b≠k:=by intro e';subst e';rw[A] at z;cases z;cases G
 refine⟨_,h.Q4 (s':={t:=λj=>rY k (s.t j),H:=aS (aS (qe k s.H) k (some (e.mO (g+1)))) b (some (.cells (cs.set j (.a8 k (g+1) c l m)))),u:=s.u}) k g gen z G L (by simpa[Nat.blt_eq] using cy) Q rfl (by show aS _ b _ k=_;rw[bQ _ _ _ _ (lk n),bP]) q I ?_ ?_⟩
 ·intro id x o d;have d:aS (aS (qe k s.H) k (some (e.mO (g+1)))) b (some (.cells (cs.set j (.a8 k (g+1) c l m)))) id=some x:=d;by_cases p:id=b
  ·subst p;rw[bP] at d;cases d;refine⟨by rw[A];simp,λX r=>?_⟩;have M:=(h.heap id _ A).2;have h6:cC R w (own K R s.H) id (.cells (cs.set j .cY)):=M.set B λu _=> .cY u;have lL:=h6.under (u:=lV k) (β':=R.put k (some (q,g+1))) r (λid hid=>ep _ _ _ _ (xe hid)) (Bt n) F;obtain⟨fL,us,ty,N,P,g3,g4⟩:=lL;obtain⟨cd,rh,ag3,T,U,f3,f4⟩:=M;rw[ep _ _ _ _ n,T] at N;cases N;rw[U] at P;cases P;refine⟨_,_,_,by rw[ep _ _ _ _ n];exact T,U,by simpa using f3,λi v u W hu=>?_⟩;by_cases Y:i=j
   ·subst Y;have f:=(bU.1 B).1;rw[jr f] at W;cases W;exact Mn I (f4 i _ u B hu)
   rw[lg (lk Y)] at W
   grind
  rw[bQ _ _ _ _ p,bQ _ _ _ _ o] at d;unfold qe at d;cases D:s.H id with
  |none=>rw[D] at d;cases d
  |some y=>
   rw[D] at d;exact⟨aP,λX r=>MG (h.heap id y D).2 r o d⟩
 intro j X r;exact Nw (h.cW j) r
inductive m' (p:V->V->Prop):V->V->Prop
 |same (v:V):m' p v v
 |put {v c9:V} (h:p v c9):m' p v c9
 |agg {cs HG:List V} (b8:HG.length=cs.length) (h: ∀(i:Nat) c sd,cs[i]? =some c->HG[i]? =some sd->m' p c sd):m' p (.agg cs) (.agg HG)
theorem G6{p:V->V->Prop}{S:Map}{a:World}(e: ∀v u,bk S w X v u->bk G a A v u)(k: ∀v x u,p v x->bk S w X v u->bk G a A x u){v x:V}(h:m' p v x): ∀u,bk S w X v u->bk G a A x u:=by
 induction h with
 |same v=>exact e v
 |put h=>exact λu=>k _ _ u h
 |agg l h m=>
  intro u d;cases d with
  |agg _ n o q=>
   refine .agg _ n O λi r u c d=>?_;have aE:=(bU.1 c).1;have bG:=bo (show i<_ by rw[<-l];exact aE);exact m i _ r bG c u (q i _ u bG d)
def wq(p:V->V->Prop)(e d:E):Prop:=d=e\/ ∃cs a,e= .cells cs/\d= .cells a/\a.length=cs.length/\ ∀(i:Nat) c h,cs[i]? =some c->a[i]? =some h->m' p c h
theorem wq.vB{p:V->V->Prop}{S:Map}(c: ∀x,S n=some x->G n=some x)(l: ∀e,cC S w X n e->cC G w A n e)(m: ∀v u,bk S w X v u->bk G w A v u)(o: ∀v d u,p v d->bk S w X v u->bk G w A d u){e e':E}(h:wq p e e')(k:cC S w X n e):cC G w A n e':=by
 rcases h with rfl|⟨cs,q,rfl,rfl,r,h⟩
 ·exact l _ k
 obtain⟨b,s,ty,y,z,L,B⟩:=k;refine⟨b,s,ty,c _ y,z,O,λi F u a H=>?_⟩;have aE:=(bU.1 a).1;have bG:=bo (show i<_ by rw[<-r];exact aE);exact G6 m o (h i _ F bG a) u (B i _ u bG H)
theorem UR{K:Ctx}{s:S}(f:Nat->V)(o:Nat->Option E)(k gen d:Nat)(F:Nat.ble K.c6 k=true)(I:s.H k=some (.arr e gen d c))
  (M: ∀i,m' (λv p=>v= .a8 k gen d 0 c.length/\p= .t (.aA c)) (s.t i) (f i)) (N:o k=none)
  (g: ∀id q,o id=some q-> ∃r,s.H id=some r/\wq (λv p=>v= .a8 k gen d 0 c.length/\p= .t (.aA c)) r q):s.le K {t:=f,H:=o,u:=s.u}:=by
 intro l a w h;have P:=dY F;have m: ∀n,own K l o n->own K l s.H n:=by
  rintro n (G|⟨id,A,x⟩)
  ·exact .inl G
  cases B:o id with
  |none=>exact bz B A
  |some q=>obtain⟨r,L,_⟩:=g id q B;exact .inr ⟨id,by rw[L];simp,x⟩
 have y: ∀n,At l k n-> ¬own K l o n:=by
  rintro n z (G|⟨id,A,x⟩)
  ·obtain⟨e5,U⟩:=h.iz n G;rcases(h.fresh k n z).1 with Q|Y
   ·exact U Q
   omega
  have:=h.inj _ _ _ x z
  grind
 have R:=(h.heap k _ I).2;have j: ∀v u,bk l w (own K l s.H) v u->bk l w (own K l o) v u:=λv u W=>W.mono (Ext.refl _ _) (λb _=>m b) (di.refl _) (Shaped.refl _ _);have D: ∀v p u,(v= .a8 k gen d 0 c.length/\p= .t (.aA c))->bk l w (own K l s.H) v u->bk l w (own K l o) p u:=by
  rintro v p u ⟨rfl,rfl⟩ W;exact .t _ _ (R.read W m y)
 refine⟨l,{h with heap:= ?_,cW:= ?_}⟩
 ·intro id q X;obtain⟨r,A,x⟩:=g id q X;obtain⟨L,h4⟩:=h.heap id r A;exact⟨L,x.vB (λ_ h=>h) (λe B=>B.mono (Ext.refl _ _) (λb _=>m b) (di.refl _) (λ_ h=>h) (Shaped.refl _ _) λ_ _=>rfl) j D h4⟩
 intro i;exact G6 j D (M i) _ (h.cW i)
theorem Wy{K:Ctx}{s:S}(lZ:Nat->V)(z:Nat->Option E)(k bZ gen l X:Nat){B:E}(Y:Nat.ble K.c6 k=true)(f:k≠bZ)(P:s.H k=some B)(bI:B.gen=some gen)(hu:s.u bZ=false)
  (fc: ∀i,m' (λv L=>v= .a8 k gen l 0 X/\L= .a8 bZ 1 l 0 X) (s.t i) (lZ i)) (adV:z k=none) (D:z bZ=some B.C7)
  (hH: ∀id e',id≠bZ->z id=some e'-> ∃B,s.H id=some B/\wq (λv L=>v= .a8 k gen l 0 X/\L= .a8 bZ 1 l 0 X) B e'):
  s.le K {t:=lZ,H:=z,u:=aS s.u bZ true}:=by
 intro A a w h;have mw:=dY Y;obtain⟨iL,q,hq⟩:=o3 (h.heap k _ P).2 bI;have Ik:=(h.heap k _ P).1;have cu:=h.dF bZ hu;have aew:K.c6<=bZ:=by
  apply Nat.le_of_not_lt;intro hlt;rw[h.low bZ hlt] at hu;cases hu
 let d:=A.move k bZ gen q;have cQ:d bZ=some (q,1):=FL _ _ _ _ _;have cd:d k=some (none,gen+1):=FK _ _ _ _ _ f;have T: ∀id,id≠k->id≠bZ->d id=A id:=λid m r=>EO _ _ _ _ _ _ m r;have o: ∀id b,At d id b->(id=bZ/\At A k b)\/(id≠k/\id≠bZ/\At A id b):=by
  intro id b Q;exact N' f hq Q
 have I:di A d:=by
  intro id q2 g F
  grind
 have y: ∀b,own K d z b->own K A s.H b:=by
  rintro b (F|⟨id,m,r⟩)
  ·exact .inl F
  rcases o id b r with ⟨rfl,p⟩|⟨p,M,G⟩
  ·exact .inr ⟨k,by rw[P];simp,p⟩
  cases U:z id with
  |none=>exact bz U m
  |some e'=>obtain⟨B,R,_⟩:=hH id e' M U;exact .inr ⟨id,by rw[R];simp,G⟩
 have hm: ∀v u,bk A w (own K A s.H) v u->bk d w (own K d z) v u:=λv u bL=>bL.mono (Ext.refl _ _) (λb _=>y b) I (Shaped.refl _ _);have hp: ∀v L u,(v= .a8 k gen l 0 X/\L= .a8 bZ 1 l 0 X)->bk A w (own K A s.H) v u->bk d w (own K d z) L u:=by
  rintro v L u ⟨rfl,rfl⟩ bL;rcases e3 bL hq with ⟨cap,b,n,hn,rfl,W,hw,hs,pq,b8,Cd⟩|⟨W,m,r,rfl⟩
  ·subst W;exact .a8 bZ 1 l 0 _ cap b n hn (cJ _) cQ hw hs pq b8 Cd
  subst W;rw[r];exact .hi bZ 1 l (cJ _) cQ
 refine⟨d,{h with base:= ?_,low:= ?_,dF:= ?_,ea:= ?_,inj:= ?_,fresh:= ?_,heap:= ?_,cW:= ?_}⟩
 ·exact h.base.keep λid hid=>T id O O
 ·intro id hid;show aS s.u bZ true id=true;rw[bQ _ _ _ _ O];exact h.low id hid
 ·intro id hid;have c:aS s.u bZ true id=false:=hid;by_cases m:id=bZ
  ·subst m;rw[bP] at c;cases c
  rw[bQ _ _ _ _ m] at c;rw[T id (by intro e;subst e;rw[Ik] at c;cases c) m];exact h.dF id c
 ·intro id b hid Q;have c:aS s.u bZ true id=false:=hid;rcases Q with ⟨m,_⟩|⟨m,_,Q⟩
  ·subst m;rw[bP] at c;cases c
  rw[bQ _ _ _ _ m] at c;exact h.ea id b c Q
 ·intro id j4 b m r;rcases o id b m with ⟨rfl,p⟩|⟨p,M,G⟩<;>rcases o j4 b r with ⟨e2,R⟩|⟨R,lL,kX⟩
  ·exact e2.symm
  ·exact bz (h.inj _ _ b kX p) R
  ·subst e2;exact bz (h.inj _ _ b G R) p
  exact h.inj _ _ b G kX
 ·intro id b Q;rcases o id b Q with ⟨rfl,p⟩|⟨p,M,G⟩
  ·refine⟨?_,(h.fresh _ _ p).2⟩;exact(h.fresh _ _ p).1
  exact h.fresh id b G
 ·intro id e' F;have N:z id=some e':=F;clear F;show aS s.u bZ true id=true/\cC d w (own K d z) id e';by_cases m:id=bZ
  ·subst m;rw[D] at N;cases N;exact⟨bP _ _ _,(h.heap k _ P).2.mO (cJ _) bI hq cQ (λb=>by simp[d,Map.move]) y λ_ _ v _ u=>hm v u⟩
  have r:id≠k:=by intro e;subst e;rw[adV] at N;cases N
  obtain⟨B,G,R⟩:=hH id e' m N;obtain⟨p,M⟩:=h.heap id B G;rw[bQ _ _ _ _ m];refine⟨p,R.vB (λx F=>by rw[T id r m];exact F) (λe U=>U.mono (Ext.refl _ _) (λb _=>y b) I (λx F=>by rw[T id r m];exact F) (Shaped.refl _ _) (λ_ _=>rfl) λb=>OG _ _ _ _ _ _ _ r m) hm hp M⟩
 intro j;exact G6 hm hp (fc j) _ (h.cW j)
mutual
def pH(k g z n:Nat)(c:V):V->V×List dc
 | .a8 h gen a d e=>match Nat.beq h k&&Nat.beq d 0 with
  |true=>(c,[.q gen g,.q a z,.q e n])
  |false=>(.a8 h gen a d e,[])
 | .agg cs=>(.agg (mJ k g z n c cs).1,(mJ k g z n c cs).2)
 |v=>(v,[])
def mJ(k g z n:Nat)(a:V):List V->List V×List dc
 | []=>([],[])
 |c::cs=>((pH k g z n a c).1::(mJ k g z n a cs).1,(pH k g z n a c).2++(mJ k g z n a cs).2)
end
theorem EL(k g z n:Nat)(a:V): ∀cs,(mJ k g z n a cs).1.length=cs.length
 | []=>rfl
 |c::cs=>by simp[mJ,EL k g z n a cs]
mutual
theorem OJ(k g z n:Nat)(c:V): ∀v,cc (pH k g z n c v).2->m' (λa b=>a= .a8 k g z 0 n/\b=c) v (pH k g z n c v).1
 | .a8 l gen i e m,h=>by
  unfold pH at h⊢;cases d:Nat.beq l k&&Nat.beq e 0 with
  |false=>exact .same _
  |true=>
   simp only[d] at h⊢;simp only[Bool.and_eq_true] at d;obtain⟨rfl,rfl,rfl,_⟩:=h;have o:=cL d.1;have p:=cL d.2;subst o;subst p;exact .put ⟨rfl,rfl⟩
 | .agg cs,h=>by
  simp only[pH] at h⊢;exact .agg (EL _ _ _ _ _ _) (GK k g z n c cs h)
 | .t _,_| .bH _,_| .ref _ _,_| .aL _,_| .cw _ _ _ _ _,_| .fn _ _,_| .cY,_=>by simp only[pH];exact .same _
theorem GK(k g z n:Nat)(d:V): ∀cs,cc (mJ k g z n d cs).2-> ∀(i:Nat) c l,cs[i]? =some c->(mJ k g z n d cs).1[i]? =some l->m' (λa b=>a= .a8 k g z 0 n/\b=d) c l
 | [],_,i,c,l,h,_=>by simp at h
 |o::cs,m,0,c,l,h,e=>by
  simp only[mJ] at m e;simp at h e;subst h;subst e;exact OJ k g z n d o (cc.app m).1
 |o::cs,m,i+1,c,l,h,e=>by simp only[mJ] at m e;simp at h e;exact GK k g z n d cs (cc.app m).2 i c l h e
end
def ir(k g z n:Nat)(a:V)(s:S):List Nat->List (Nat×V)×List dc
 | []=>([],[])
 |i::is=>((i,(pH k g z n a (s.t i)).1)::(ir k g z n a s is).1,(pH k g z n a (s.t i)).2++(ir k g z n a s is).2)
def gx(k g z n:Nat)(a:V)(s:S):List Nat->List (Nat×Option E)×List dc
 | []=>([],[])
 |b::c=>match s.H b with
  |some (.cells cs)=>((b,some (.cells (mJ k g z n a cs).1))::(gx k g z n a s c).1,(mJ k g z n a cs).2++(gx k g z n a s c).2)
  |_=>gx k g z n a s c
theorem GJ{k g z n:Nat}{x:V}{s:S}: ∀{is:List Nat},cc (ir k g z n x s is).2-> ∀i v,(i,v)∈(ir k g z n x s is).1->m' (λa b=>a= .a8 k g z 0 n/\b=x) (s.t i) v
 |i0::is,c,i,v,h=>by
  simp only[ir] at c h;rcases dL.1 h with h|h
  ·cases h;exact OJ _ _ _ _ _ _ (cc.app c).1
  exact GJ (cc.app c).2 i v h
theorem Bq{k g z n:Nat}{x:V}{s:S}: ∀{i:List Nat},cc (gx k g z n x s i).2-> ∀b e,(b,e)∈(gx k g z n x s i).1-> ∃m o,s.H b=some m/\e=some o/\wq (λa b=>a= .a8 k g z 0 n/\b=x) m o
 |p::i,c,b,e,h=>by
  unfold gx at c h;split at h
  ·rename_i cs d;simp only[d] at c;rcases dL.1 h with h|h
   ·cases h;exact⟨_,_,d,rfl,.inr ⟨cs,_,rfl,rfl,EL _ _ _ _ _ _,GK _ _ _ _ _ _ (cc.app c).1⟩⟩
   exact Bq (cc.app c).2 b e h
  rename_i d;split at c
  ·rename_i cs l;exact bz l (d cs)
  exact Bq c b e h
theorem Ob{k:Nat}: ∀{l:List Nat},k∈l->iB k l=true
 |x::l,h=>by
  simp only[iB];rcases dL.1 h with rfl|h
  ·simp
  cases Nat.beq x k with
  |true=>rfl
  |false=>exact Ob h
theorem wI(h:(!iB k l)=true):k∉l:=λa=>by rw[Ob a] at h;cases h
theorem Oz{bZ:Nat}(h:(!Nat.beq k bZ)=true):k≠bZ:=λe=>by subst e;simp at h
theorem wG{k g z n:Nat}{x:V}{s:S}: ∀{a:List Nat} {b:Nat} {e:Option E},(b,e)∈(gx k g z n x s a).1->b∈a
 |c::a,b,e,h=>by
  unfold gx at h;split at h
  ·rcases dL.1 h with h|h
   ·cases h;exact eM
   exact ew _ (wG h)
  exact ew _ (wG h)
theorem acE{K:Ctx}{s:S}{a:List (List T)}{L:List Nat}(h:Nat.ble K.c6 k=true)(m:s.H k=some (.arr e gen n a))(o:k∉r)
  (p:cc (ir k gen n a.length (.t (.aA a)) s L).2) (q:cc (gx k gen n a.length (.t (.aA a)) s r).2):
  s.le K ((⟨(ir k gen n a.length (.t (.aA a)) s L).1,(k,none)::(gx k gen n a.length (.t (.aA a)) s r).1,[]⟩:cN).app s):=by
 refine UR _ _ k gen n h m (λi=>?_) ?_ λid e' c=>?_
 ·rcases mr (ir k gen n a.length (.t (.aA a)) s L).1 s.t i with ⟨_,d⟩|⟨v,l,d⟩
  ·rw[d];exact .same _
  rw[d];exact GJ p i v l
 ·show df (aS s.H k none) _ k=none;rw[mz _ _ _ λv w=>o (wG w),bP]
 have c:df (aS s.H k none) (gx k gen n a.length (.t (.aA a)) s r).1 id=some e':=c;rcases mr (gx k gen n a.length (.t (.aA a)) s r).1 (aS s.H k none) id with ⟨_,d⟩|⟨v,l,d⟩
 ·rw[d] at c;by_cases hid:id=k
  ·subst hid;rw[bP] at c;cases c
  rw[bQ _ _ _ _ hid] at c;exact⟨e',c,.inl rfl⟩
 rw[d] at c;subst c;obtain⟨x,y,z,A,B⟩:=Bq q id _ l
 grind
theorem Ps{K:Ctx}{s:S}{I:E}(h:Nat.ble K.c6 k=true)(d:k≠m)(w:s.H k=some I)(x:I.gen=some gen)(y:s.u m=false)(z:k∉r)(o:m∉r)
  (A:cc (ir k gen n L (.a8 m 1 n 0 L) s l).2) (B:cc (gx k gen n L (.a8 m 1 n 0 L) s r).2):
  s.le K ((⟨(ir k gen n L (.a8 m 1 n 0 L) s l).1,(k,none)::(m,some I.C7)::(gx k gen n L (.a8 m 1 n 0 L) s r).1,[(m,true)]⟩:cN).app s):=by
 refine Wy _ _ k m gen n L h d w x y (λi=>?_) ?_ ?_ λid e' e a=>?_
 ·rcases mr (ir k gen n L (.a8 m 1 n 0 L) s l).1 s.t i with ⟨_,c⟩|⟨v,p,c⟩
  ·rw[c];exact .same _
  rw[c];exact GJ A i v p
 ·show df (aS (aS s.H k none) m _) _ k=none;rw[mz _ _ _ λv q=>z (wG q),bQ _ _ _ _ d,bP]
 ·show df (aS (aS s.H k none) m _) _ m=_;rw[mz _ _ _ λv q=>o (wG q),bP]
 have a:df (aS (aS s.H k none) m (some I.C7)) (gx k gen n L (.a8 m 1 n 0 L) s r).1 id=some e':=a;rcases mr (gx k gen n L (.a8 m 1 n 0 L) s r).1 (aS (aS s.H k none) m (some I.C7)) id with ⟨_,c⟩|⟨v,p,c⟩
 ·rw[c,bQ _ _ _ _ e] at a;by_cases hid:id=k
  ·subst hid;rw[bP] at a;cases a
  rw[bQ _ _ _ _ hid] at a;exact⟨e',a,.inl rfl⟩
 rw[c] at a;subst a;obtain⟨I,F,G,Q,R⟩:=Bq B id _ p
 grind
theorem Vb{K:Ctx}{s:S}(B:Nat->V)(k:Nat){G:List T}(L:Nat.ble K.c6 k=true)(X:s.H k=some (.cells (G.map .t)))
  (f: ∀i,B i=s.t i\/ ∃c,s.t i= .ref k c/\B i= .aL (G.drop c)):s.le K {t:=B,H:=aS s.H k none,u:=s.u}:=by
 intro q a w h;have g:=dY L;obtain⟨b,p,ty,F,v,R,D⟩:=(h.heap k _ X).2;have m: ∀Q,own K q (aS s.H k none) Q->own K q s.H Q:=by
  rintro Q (r|⟨id,n,o⟩)
  ·exact .inl r
  by_cases hid:id=k
  ·subst hid;rw[bP] at n;exact bz rfl n
  rw[bQ _ _ _ _ hid] at n;exact .inr ⟨id,n,o⟩
 have y: ¬own K q (aS s.H k none) b:=by
  rintro(r|⟨id,n,o⟩)
  ·obtain⟨e5,E⟩:=h.iz b r;rcases(h.fresh k b (.inl ⟨_,F⟩)).1 with d|I
   ·exact E d
   omega
  have:=h.inj _ _ _ o (.inl ⟨_,F⟩);subst this;rw[bP] at n;exact n rfl
 refine⟨q,{h with heap:= ?_,cW:= ?_}⟩
 ·intro id e' l;have l:aS s.H k none id=some e':=l;by_cases hid:id=k
  ·subst hid;rw[bP] at l;cases l
  rw[bQ _ _ _ _ hid] at l;obtain⟨n,o⟩:=h.heap id e' l;exact⟨n,o.mono (Ext.refl _ _) (λb _=>m b) (di.refl _) (λ_ h=>h) (Shaped.refl _ _) λ_ _=>rfl⟩
 intro j;show bk q w _ (B j) _;rcases f j with M|⟨c,n,o⟩
 ·rw[M];exact(h.cW j).mono (Ext.refl _ _) (λb _=>m b) (di.refl _) (Shaped.refl _ _)
 rw[o];have W:=h.cW j;rw[n] at W;obtain⟨cd,z,N⟩:=rA W;rw[F] at z;cases z;rw[N];have aY:=(h.fresh k b (.inl ⟨_,F⟩)).2;refine .aL _ b c (λi=>p.getD (c+i) undef) aY y (λi P=>?_) λi x r=>?_
 ·have d:c+i<p.size:=by simp at P R;omega
  simp[World.cell?,v,d]
 have A:G[c+i]? =some x:=by simpa using r
 have d:c+i<p.size:=by have:=(bU.1 A).1;simp at R;omega
 have U:=D (c+i) (.t x) p[c+i] (by simp[A]) (by simp[d]);have e:p.getD (c+i) undef=p[c+i]:=by simp[d]
 rw[e];cases U with
 |t _ _ Y=>exact Y.mono (Ext.refl _ _) λb _=>m b
def B3(k:Nat)(c:List T)(s:S):List Nat->Option (List (Nat×V))
 | []=>some []
 |i::is=>match s.t i with
  | .ref d a=>match Nat.beq d k,B3 k c s is with
   |true,some l=>some ((i,.aL (c.drop a))::l)
   |_,_=>none
  |_=>none
theorem OY{k:Nat}{a:List T}{s:S}: ∀{is:List Nat} {l:List (Nat×V)},B3 k a s is=some l-> ∀i v,(i,v)∈l-> ∃c,s.t i= .ref k c/\v= .aL (a.drop c)
 | [],l,h,i,v,hm=>by cases h;cases hm
 |i0::is,l,h,i,v,hm=>by
  unfold B3 at h;split at h
  ·rename_i o c d;split at h
   ·rename_i p e m;cases h;have n:=cL e;subst n;rcases dL.1 hm with hm|hm
    ·cases hm;exact⟨c,d,rfl⟩
    exact OY m i v hm
   cases h
  cases h
def xB(a:List (List T)):List Nat->List (Nat×V)
 | []=>[]
 |i::is=>(i,.t (.aA a))::xB a is
def sa(k c a n:Nat)(s:S):List Nat->Option (List dc)
 | []=>some []
 |i::is=>match s.t i with
  | .a8 l gen d e h=>match Nat.beq l k&&Nat.beq e 0,sa k c a n s is with
   |true,some m=>some (.q gen c:: .q d a:: .q h n::m)
   |_,_=>none
  |_=>none
theorem Oi{k L m n:Nat}{s:S}: ∀{is:List Nat} {a:List dc},sa k L m n s is=some a->cc a-> ∀i,i∈is->s.t i= .a8 k L m 0 n
 | [],_,_,_,i,h=>by cases h
 |i0::is,a,h,c,i,aE=>by
  unfold sa at h;split at h
  ·rename_i z gen e l o p;split at h
   ·rename_i q d r;cases h;simp only[Bool.and_eq_true] at d;obtain⟨rfl,rfl,rfl,w⟩:=c;have x:=cL d.1;have y:=cL d.2;subst x;subst y;rcases dL.1 aE with rfl|aE
    ·exact p
    exact Oi r w i aE
   cases h
  cases h
theorem Nt{a:List (List T)}{j:Nat}{v:V}: ∀{is:List Nat},(j,v)∈xB a is->j∈is/\v= .t (.aA a)
 |i::is,h=>by
  simp only[xB,List.mem_cons] at h;rcases h with h|h
  ·cases h;exact⟨eM,rfl⟩
  obtain⟨c,d⟩:=Nt h;exact⟨ew _ c,d⟩
def B0{a:Type}:List a->Bool
 | []=>true
 |_::_=>false
theorem Gf{a:Type}{l:List a}(h:B0 l=true):l=[]:=by
 cases l with
 |nil=>rfl
 |cons=>cases h
def iZ(C:dH)(h:cq)(s:S):Option (Option (cN×List dc)):=
 match h with
 | .jh i k=>match s.t i,s.H k with
  | .a8 w gen c F G,some (.arr _ A d a)=>match Nat.beq w k&&(Nat.beq F 0&&Nat.ble C.c6 k) with
   |true=>some (some (⟨[(i,.t (.aA a))],[(k,none)],[]⟩,[.q gen A,.q c d,.q G a.length]))
   |false=>some none
  |_,_=>some none
 | .sk is k=>match s.H k with
  |some (.arr _ A d a)=>match Nat.ble C.c6 k,sa k A d a.length s is with
   |true,some E=>some (some (⟨xB a is,[(k,none)],[]⟩,E))
   |_,_=>some none
  |_=>some none
 | .grow i k e=>match s.t i,s.u k,dr C.b9 e with
  | .t .fe,false,some j=>some (some (⟨[(i,.a8 k 1 j.size 0 0)],[(k,some (.arr e 1 j.size []))],[(k,true)]⟩,[]))
  |_,_,_=>some none
 | .len i n=>match s.t i with
  | .a8 k gen c F G=>some (some (⟨[(i,.a8 k gen c F n)],[],[]⟩,[.p (G=n)]))
  |_=>some none
 | .sj k is=>match s.H k with
  |some (.cells I)=>match ly I,Nat.ble C.c6 k with
   |some cs,true=>match B3 k cs s is with
    |some l=>some (some (⟨l,[(k,none)],[]⟩,[]))
    |none=>some none
   |_,_=>some none
  |_=>some none
 | .bf k is W=>match s.H k with
  |some (.arr _ gen c a)=>match Nat.ble C.c6 k&& !iB k W with
   |true=>some (some (⟨(ir k gen c a.length (.t (.aA a)) s is).1,(k,none)::(gx k gen c a.length (.t (.aA a)) s W).1,[]⟩,(ir k gen c a.length (.t (.aA a)) s is).2++(gx k gen c a.length (.t (.aA a)) s W).2))
   |false=>some none
  |_=>some none
 | .ed k w is W=>match s.H k,s.u w with
  |some (.arr e gen c a),false=>match Nat.ble C.c6 k&&(!Nat.beq k w&&(!iB k W&& !iB w W)) with
   |true=>some (some (⟨(ir k gen c a.length (.a8 w 1 c 0 a.length) s is).1,(k,none)::(w,some (.arr e 1 c a))::(gx k gen c a.length (.a8 w 1 c 0 a.length) s W).1,[(w,true)]⟩,
     (ir k gen c a.length (.a8 w 1 c 0 a.length) s is).2++(gx k gen c a.length (.a8 w 1 c 0 a.length) s W).2))
   |false=>some none
  |some (.a7 r m gen a []),false=>match Nat.ble C.c6 k&&(!Nat.beq k w&&(!iB k W&& !iB w W)) with
   |true=>some (some (⟨(ir k gen (U r m).size a.length (.a8 w 1 (U r m).size 0 a.length) s is).1,(k,none)::(w,some (.a7 r m 1 a []))::(gx k gen (U r m).size a.length (.a8 w 1 (U r m).size 0 a.length) s W).1,[(w,true)]⟩,
     (ir k gen (U r m).size a.length (.a8 w 1 (U r m).size 0 a.length) s is).2++(gx k gen (U r m).size a.length (.a8 w 1 (U r m).size 0 a.length) s W).2))
   |false=>some none
  |_,_=>some none
 | .eE b j n=>match s.H b with
  |some (.cells cs)=>match cs[j]? with
   |some (.a8 k gen c F G)=>some (some (⟨[],[(b,some (.cells (cs.set j (.a8 k gen c F n))))],[]⟩,[.p (G=n)]))
   |_=>some none
  |_=>some none
 | .dp i k w=>match s.t i,s.H k,s.u w with
  | .a8 j9 gen c F G,some (.arr e A d a),false=>match Nat.beq j9 k&&(Nat.ble C.c6 k&& !Nat.beq k w) with
   |true=>some (some (⟨[(i,.a8 w 1 c F G)],[(k,none),(w,some (.arr e 1 d a))],[(w,true)]⟩,[.q gen A,.q c d]))
   |false=>some none
  |_,_,_=>some none
 | .B4 b j k=>match s.H b,s.H k with
  |some (.cells cs),some (.arr _ A d a)=>match cs[j]?,Nat.ble C.c6 k with
   |some (.a8 w gen c F G),true=>match Nat.beq w k&&Nat.beq F 0 with
    |true=>some (some (⟨[],[(k,none),(b,some (.cells (cs.set j (.t (.aA a)))))],[]⟩,[.q gen A,.q c d,.q G a.length]))
    |false=>some none
   |_,_=>some none
  |some (.a7 r m M f ((N,P,.a8 w gen c F G)::Q)),some (.arr _ A d a)=>match Nat.beq w k&&(Nat.beq F 0&&(Nat.ble C.c6 k&& !Nat.beq b k)) with
   |true=>some (some (⟨[],[(k,none),(b,some (.a7 r m M f ((N,P,.t (.aA a))::Q)))],[]⟩,[.q gen A,.q c d,.q G a.length]))
   |false=>some none
  |_,_=>some none
 | .et b j k e=>match s.H b,s.u k,dr C.b9 e with
  |some (.cells cs),false,some i=>match cs[j]? with
   |some (.t .fe)=>some (some (⟨[],[(k,some (.arr e 1 i.size [])),(b,some (.cells (cs.set j (.a8 k 1 i.size 0 0))))],[(k,true)]⟩,[]))
   |_=>some none
  |_,_,_=>some none
 | .kb k=>match s.H k with
  |some (.cells cs)=>some (some (⟨[],[(k,some (.cells (gJ cs)))],[]⟩,[]))
  |_=>some none
 | .dM k r m=>match s.H k with
  |some (.arr ty gen c a)=>match B0 (U r m).bm||B0 a with
   |true=>some (some (⟨[],[(k,some (.a7 r m gen a []))],[]⟩,[.q (U r m).ty ty,.q (U r m).size c]))
   |false=>some none
  |some (.a7 X D gen a Q)=>match Nat.ble C.c6 k&&B0 (U r m).bm with
   |true=>some (some (⟨[],[(k,some (.a7 r m gen a Q))],[]⟩,[.q (U r m).ty (U X D).ty,.q (U r m).size (U X D).size]))
   |false=>some none
  |_=>some none
 | .c8 k=>match s.H k with
  |some (.a7 r m gen a [])=>match Nat.ble C.c6 k with
   |true=>some (some (⟨[],[(k,some (.arr (U r m).ty gen (U r m).size a))],[]⟩,[]))
   |false=>some none
  |_=>some none
 | .dR k w i j B=>match s.H k,s.u w with
  |some (.a7 r m gen a Q),false=>match (U r m).en j,B[j]? with
   |some v,some (.aA L)=>some (some (⟨[],[(k,some (.a7 r m gen a ((i,j,.a8 w 1 (U r v).size 0 L.length)::Q))),(w,some (.a7 r v 1 L []))],[(w,true)]⟩,.p (a[i]? =some B)::r6 i j Q))
   |_,_=>some none
  |_,_=>some none
 | .PX k i j B=>match s.H k with
  |some (.a7 r m gen a Q)=>match (U r m).en j,B[j]?,rr j Q with
   |none,some x,true=>some (some (⟨[],[(k,some (.a7 r m gen a ((i,j,.t x)::Q)))],[]⟩,[.p (a[i]? =some B)]))
   |_,_,_=>some none
  |_=>some none
 | .Ds k B R=>match s.H k with
  |some (.a7 r m gen a ((i,j,.t x)::Q))=>match (U r m).en j,Nat.blt j (U r m).size&&rr j Q with
   |none,true=>some (some (⟨[],[(k,some (.a7 r m gen R Q))],[]⟩,[.p (a[i]? =some B),.p (a.set i (B.set j x)=R)]))
   |some _,true=>match x with
    | .fe=>some (some (⟨[],[(k,some (.a7 r m gen R Q))],[]⟩,[.p (a[i]? =some B),.p (a.set i (B.set j (.aA []))=R)]))
    |_=>some none
   |_,_=>some none
  |_=>some none
 | .B6 i j k e=>match s.t i,s.u k,dr C.b9 e with
  | .agg cs,false,some y=>match cs[j]? with
   |some (.t .fe)=>some (some (⟨[(i,.agg (cs.set j (.a8 k 1 y.size 0 0)))],[(k,some (.arr e 1 y.size []))],[(k,true)]⟩,[]))
   |_=>some none
  |_,_,_=>some none
 | .dh k w B R=>match s.H k,s.H w with
  |some (.a7 r m gen a ((i,j,.a8 cx g z o n)::Q)),some (.a7 X v T L [])=>match (U r m).en j,Nat.beq cx w&&(!Nat.beq k w&&(Nat.ble C.c6 w&&(Nat.beq o 0&&Nat.blt j (U r m).size))) with
   |some V,true=>some (some (⟨[],[(w,none),(k,some (.a7 r m gen R Q))],[]⟩,.q g T:: .q z (U r v).size:: .p (n=L.length):: .q V v:: .p (X=r):: .p (a[i]? =some B):: .p (a.set i (B.set j (.aA L))=R)::r6 i j Q))
   |_,_=>some none
  |_,_=>some none
 | .cut k n R=>match s.H k with
  |some (.arr e gen c a)=>some (some (⟨[],[(k,some (.arr e gen c R))],[]⟩,[.p (R=a.take n)]))
  |_=>some none
 |_=>none
def qd(C:dH)(a:Nat):List cq->S->Option (cN×List dc×List cq)
 | [],_=>some (.nil,[],[])
 | .at m::c,s=>match Nat.beq m a with
  |true=>qd C a c s
  |false=>some (.nil,[],.at m::c)
 |h::c,s=>match iZ C h s with
  |none=>some (.nil,[],h::c)
  |some none=>none
  |some (some (e,k))=>match qd C a c (e.app s) with
   |some (l,d,i)=>some (e.cat l,k++d,i)
   |none=>none
section
variable {K:Ctx}{C:dH}
theorem aaw{K:Ctx}{s:S}(k n:Nat)(q:s.H k=some (.arr e gen m c)):s.le K {s with H:=aS s.H k (some (.arr e gen m (c.take n)))}:=by
 intro r a w h;refine⟨r,h.Jk k q λX d=>⟨d.1,?_⟩⟩;rcases d.2 with ⟨o,p⟩|⟨b,y,o,p,z,A,F⟩
 ·exact .inl ⟨o,by rw[p];simp⟩
 refine .inr ⟨b,y,o,p,f' (dx _ (List.length_take_le' _ _)) z,λl B=>A l (gb B),λi j l x u aI a2 a3=>?_⟩
 grind
theorem Ba(r:C.Fits K){h:cq}{s:S}{e:cN}{b:List dc}(d:iZ C h s=some (some (e,b)))(m:cc b):s.le K (e.app s):=by
 unfold iZ at d;split at d
 ·split at d
  ·rename_i y n;split at d
   ·rename_i i;cases d;simp only[Bool.and_eq_true] at i;obtain⟨rfl,rfl,rfl,_⟩:=m;have z:=cL i.1;have G:=cL i.2.1;subst z;subst G;exact Wz _ _ _ _ (by rw[<-r.c6];exact i.2.2) y n
   cases d
  cases d
 ·split at d
  ·rename_i n;split at d
   ·rename_i i f;cases d;refine KB _ _ _ _ (by rw[<-r.c6];exact i) (λj=>?_) n;rcases mr (xB _ _) s.t j with ⟨_,o⟩|⟨v,x,o⟩
    ·exact .inl o
    obtain⟨g,rfl⟩:=Nt x;exact .inr ⟨o,Oi f m j g⟩
   cases d
  cases d
 ·split at d
  ·rename_i y p q;cases d;exact aax _ _ _ p y
  cases d
 ·split at d
  ·rename_i y;cases d;obtain⟨rfl,_⟩:=m;intro H a w L;refine⟨H,?_⟩;unfold cN.app;simp only[df];rw[<-y,M7];exact L
  cases d
 ·split at d
  ·rename_i U n;split at d
   ·rename_i cs W i;split at d
    ·rename_i l u;cases d;have A:=n;rw[oJ W] at A;refine Vb _ _ (by rw[<-r.c6];exact i) A λj=>?_;rcases mr l s.t j with ⟨_,o⟩|⟨v,x,o⟩
     ·exact .inl o
     obtain⟨D,Y,c2⟩:=OY u j v x
     grind
    cases d
   cases d
  cases d
 ·split at d
  ·rename_i n;split at d
   ·rename_i i;cases d;simp only[Bool.and_eq_true] at i;obtain⟨Q,R⟩:=cc.app m;exact acE (by rw[<-r.c6];exact i.1) n (wI i.2) Q R
   cases d
  cases d
 ·split at d
  ·rename_i n p;split at d
   ·rename_i i;cases d;simp only[Bool.and_eq_true] at i;obtain⟨Q,R⟩:=cc.app m;exact Ps (by rw[<-r.c6];exact i.1) (Oz i.2.1) n rfl p (wI i.2.2.1) (wI i.2.2.2) Q R
   cases d
  ·rename_i n p;split at d
   ·rename_i i;cases d;simp only[Bool.and_eq_true] at i;obtain⟨Q,R⟩:=cc.app m;exact Ps (by rw[<-r.c6];exact i.1) (Oz i.2.1) n rfl p (wI i.2.2.1) (wI i.2.2.2) Q R
   cases d
  cases d
 ·split at d
  ·rename_i i;split at d
   ·rename_i q;cases d;obtain⟨rfl,_⟩:=m;intro H a w L;refine⟨H,?_⟩;have G:=bU.1 q;have E: ∀{cs:List V} {j:Nat} {c:V},cs[j]? =some c->cs.set j c=cs:=by
     intro cs j c h;obtain⟨x,o⟩:=bU.1 h;rw[<-o,List.set_getElem_self]
    unfold cN.app;simp only[df];rw[E q,<-i,M7];exact L
   cases d
  cases d
 ·split at d
  ·rename_i y n p;split at d
   ·rename_i i;cases d;simp only[Bool.and_eq_true,Bool.not_eq_true'] at i;obtain⟨rfl,rfl,_⟩:=m;have z:=cL i.1;subst z;exact XC _ _ _ _ _ _ _ (by rw[<-r.c6];exact i.2.1) (Nat.ne_of_beq_eq_false i.2.2) y n p
   cases d
  cases d
 ·split at d
  ·rename_i i n;split at d
   ·rename_i q I;split at d
    ·rename_i B;cases d;simp only[Bool.and_eq_true] at B;obtain⟨rfl,rfl,rfl,_⟩:=m;have z:=cL B.1;have G:=cL B.2;subst z;subst G;exact US _ _ _ _ _ (by rw[<-r.c6];exact I) i q n
    cases d
   cases d
  ·rename_i i n;split at d
   ·rename_i B;cases d;simp only[Bool.and_eq_true,Bool.not_eq_true'] at B;obtain⟨rfl,rfl,rfl,_⟩:=m;have z:=cL B.1;have G:=cL B.2.1;subst z;subst G;exact Vc _ _ _ _ _ _ (by rw[<-r.c6];exact B.2.2.1) (Nat.ne_of_beq_eq_false B.2.2.2) i n
   cases d
  cases d
 ·split at d
  ·rename_i i p y;split at d
   ·rename_i q;cases d;exact Yk _ _ _ _ p i q
   cases d
  cases d
 ·split at d
  ·rename_i k cs n;cases d;intro H a w L;exact⟨H,L.Jk _ n λX h=>(show ju (.cells _) (.cells _) from lX cs).vB h⟩
  cases d
 ·split at d
  ·rename_i n;split at d
   ·rename_i i;cases d;obtain⟨x,o,_⟩:=m;refine Yg _ _ _ n x o ?_;rcases Bool.or_eq_true_iff.1 i with h|h
    ·exact .inr (Gf h)
    exact .inl (Gf h)
   cases d
  ·rename_i n;split at d
   ·rename_i i;cases d;obtain⟨x,o,_⟩:=m;simp only[Bool.and_eq_true] at i;exact Yi _ _ _ n (by rw[<-r.c6];exact i.1) x o (Gf i.2)
   cases d
  cases d
 ·split at d
  ·rename_i n;split at d
   ·rename_i i;cases d;exact Yh _ n (by rw[<-r.c6];exact i)
   cases d
  cases d
 ·split at d
  ·rename_i n p;split at d
   ·rename_i F q;cases d;exact XD _ _ _ _ _ n p m.1 q F (wU m.2)
   cases d
  cases d
 ·split at d
  ·rename_i n;split at d
   ·rename_i F q M;cases d;exact Yj _ _ _ n m.1 q F M
   cases d
  cases d
 ·split at d
  ·rename_i n;split at d
   ·rename_i F i;cases d;simp only[Bool.and_eq_true] at i;obtain⟨x,rfl,_⟩:=m;exact Wx _ _ _ n x i.1 F i.2
   ·rename_i F i;split at d
    ·cases d;simp only[Bool.and_eq_true] at i;obtain⟨x,rfl,_⟩:=m;exact XA _ _ _ _ n x i.1 F i.2
    cases d
   cases d
  cases d
 ·split at d
  ·rename_i y p hy;split at d
   ·rename_i q;cases d;exact Yl _ _ _ _ p y q
   cases d
  cases d
 ·split at d
  ·rename_i n A;split at d
   ·rename_i F i;cases d;simp only[Bool.and_eq_true,Bool.not_eq_true'] at i;obtain⟨rfl,o,N,rfl,rfl,P,rfl,T⟩:=m;have z:=cL i.1;have G:=cL i.2.2.2.1;subst z;subst G;exact Va _ _ _ _ _ _ _ _ n A o N (Nat.ne_of_beq_eq_false i.2.1) (by rw[<-r.c6];exact i.2.2.1) P F i.2.2.2.2 (wU T)
   cases d
  cases d
 ·split at d
  ·rename_i n;cases d;obtain⟨rfl,_⟩:=m;exact aaw _ _ n
  cases d
 cases d
theorem q3(l:C.Fits K){n:Nat}: ∀{m:List cq} {s:S} {e:cN} {k:List dc} {c:List cq},qd C n m s=some (e,k,c)->cc k->s.le K (e.app s)
 | [],s,e,k,c,h,_=>by cases h;exact S.le.refl _ _
 |h::m,s,e,k,c,a,i=>by
  unfold qd at a;split at a
  ·cases a;exact S.le.refl _ _
  ·split at a
   ·rename_i d _ _;cases d;exact q3 l a i
   cases a;exact S.le.refl _ _
  rename_i d;cases d;split at a
  ·cases a;exact S.le.refl _ _
  ·cases a
  rename_i z o p;split at a
  ·rename_i A q r w;cases a;obtain⟨x,y⟩:=cc.app i;rw[nr];exact(Ba l p x).trans (q3 l w y)
  cases a
def iJ(C:dH)(a:Array Oper):List Oper->List cq->S->Option (cN×List dc)
 | [],c,s=>match qd C 0 c s with
  |some (e,q,[])=>some (e,q)
  |_=>none
 |o::l,c,s=>match qd C (l.length+1) c s with
  |none=>none
  |some (d,h,i)=>match sg C a o i (d.app s) with
   |none=>none
   |some (p,k,m)=>match iJ C a l m (p.app (d.app s)) with
    |none=>none
    |some (r,n)=>some (d.cat (p.cat r),h++(k++n))
theorem OT(c:C.Fits K){V:Array Oper}{Q:S->Prop}: ∀{l:List Oper} {k:List cq} {s:S} {e:cN} {d:List dc},iJ C V l k s=some (e,d)->cc d->qi K V [] (e.app s) Q->qi K V l s Q
 | [],k,s,e,d,h,a,i=>by
  simp only[iJ] at h;split at h
  ·rename_i H n p;cases h;exact KV (q3 c p a) i
  cases h
 |o::l,k,s,e,d,h,a,i=>by
  simp only[iJ] at h;split at h
  ·cases h
  rename_i L q r w;split at h
  ·cases h
  rename_i R x y z;split at h
  ·cases h
  rename_i W A B;cases h;obtain⟨F,m⟩:=cc.app a;obtain⟨m,G⟩:=cc.app m;rw[nr,nr] at i;exact KV (q3 c w F) (abq (OU c z m) (OT c B G i))
abbrev rF:=Prop×List Nat×List (Nat×Bool)×Bool×List V×List (Option E)
def uB:rF:=(False,[],[],false,[],[])
def uC:rF:=(True,[],[],true,[],[])
def uD(s:S)(c:List Nat)(d:List (Nat×V))(a:List (Nat×Option E))(r:cN×List dc):rF:=
 (yy r.2,vp r.2,r.1.us,rz c r.1.fg&&rz (xA a) r.1.hs,ug (r.1.app s) d,uh (r.1.app s) a)
def uE(a:Prop)(c:List (Nat×V))(d:List (Nat×Option E))(e:List (Nat×Bool))(r:cN×List dc):rF:=
 (a,vq r.2,e,true,kj c,kj d)
def me(x:Option (cN×List dc))(n:rF)(f:cN×List dc->rF):rF:=match x with
 |some r=>f r
 |none=>n
theorem Ph{x:Option (cN×List dc)}{s:S}{L:List Nat}{a:List (Nat×V)}{c:List (Nat×Option E)}{m:List (Nat×Bool)}{p:Prop}(i:p)
  (h:me x uB (uD s L a c)=me x uC (uE p a c m)): ∃e d,x=some (e,d)/\cc d/\(e.app s).le K (s.cl L a c m):=by
 cases x with
 |none=>simp[me,uB,uC] at h
 |some r=>
  obtain⟨e,d⟩:=r;simp only[me,uD,uE,Prod.mk.injEq,Bool.and_eq_true] at h;obtain⟨k,l,n,⟨o,q⟩,w,y⟩:=h;exact⟨e,d,rfl,cc.of (k▸i) l,acp n o q w y⟩
def tmps:List Operand->List Nat
 | []=>[]
 | .tmp t::a=>t::tmps a
 |_::a=>tmps a
def Pc(a:Array Oper)(o:Oper):List Nat:=match o.guard with
 |none=>[]
 |some (j,_)=>match (a[j]?).bind (·.dst) with
  |some t=>[t]
  |none=>[]
def BI(o:Oper)(a:List cq):List cq:=match o.guard with
 |none=>a
 |some _=>a.tail
def Bl(a:Array Oper)(o:Oper)(c:List cq)(s:S):gz:=⟨Pc a o++tmps o.op.operands.toList,u0 o (o.op.operands.toList.map s.get) (BI o c)⟩
theorem FN{s a:S}: ∀{c:List Operand},(∀i,i∈tmps c->s.t i=a.t i)->c.map s.get=c.map a.get
 | [],_=>rfl
 | .tmp t::c,h=>by
  simp only[List.map_cons,List.cons.injEq];exact⟨h t eM,FN λi d=>h i (ew _ d)⟩
 | .const _::c,h| .global _::c,h| .func _::c,h=>by simp only[List.map_cons,List.cons.injEq];exact⟨rfl,FN h⟩
theorem Ww{H a:Nat->Option E}(h: ∀k,k∈r->H k=a k):ud r H=ud r a:=by
 funext k;unfold ud;cases c:iB k r with
 |true=>exact h k (AF c)
 |false=>rfl
theorem Wu{u a:Nat->Bool}(h: ∀k,k∈r->u k=a k):uc r u=uc r a:=by
 funext k;unfold uc;cases c:iB k r with
 |true=>exact h k (AF c)
 |false=>rfl
theorem ZM{s a:S}{U:List V}{hs:List cq}(h: ∀k,k∈u0 o U hs->s.H k=a.H k/\s.u k=a.u k):qs C o U s hs=qs C o U a hs:=by unfold qs;rw[Ww λk c=>(h k c).1,Wu λk c=>(h k c).2]
theorem ZH{V:Array Oper}{c:List cq}{s a:S}(h:(Bl V o c s).same a s):sg C V o c a=sg C V o c s:=by
 obtain⟨n,w⟩:=h;have y:o.op.operands.toList.map a.get=o.op.operands.toList.map s.get:=FN λi z=>n i (eh.2 (.inr z));have q: ∀d,(∀k,k∈u0 o (o.op.operands.toList.map s.get) d->k∈u0 o (o.op.operands.toList.map s.get) (BI o c))->qs C o (o.op.operands.toList.map s.get) a d=qs C o (o.op.operands.toList.map s.get) s d:=λd A=>
  ZM λk e=>w k (A k e)
 unfold sg;rw[y];cases l:o.guard with
 |none=>exact q c (λk e=>by simp only[BI,l];exact e)
 |some p=>
  obtain⟨j,r⟩:=p;have m:uK V j a=uK V j s:=by
   unfold uK;cases B:(V[j]?).bind (·.dst) with
   |none=>rfl
   |some t=>
    have:=n t (eh.2 (.inl (by unfold Pc;rw[l];simp only[B];exact nN.2 rfl)));simp only[this]
  simp only[m];cases c with
  |nil=>rfl
  |cons x c=>
   have:=q c λk e=>by simp only[BI,l,List.tail];exact e
   cases x<;>first|rfl|(dsimp only;rw[this])
def oc(C:dH)(a:Nat):List cq->S->Option (cN×List dc×List cq×gz)
 | .at m::hs,s=>match Nat.beq m a with
  |true=>oc C a hs s
  |false=>some (.nil,[],.at m::hs,⟨[],[]⟩)
 | .sk is k::hs,s=>match iZ C (.sk is k) s with
  |some (some (e,h))=>match oc C a hs (e.app s) with
   |some (i,c,d,dK)=>some (e.cat i,h++c,d,⟨is++dK.fg,k::dK.oB⟩)
   |none=>none
  |_=>none
 | .bf k is l::hs,s=>match iZ C (.bf k is l) s with
  |some (some (e,h))=>match oc C a hs (e.app s) with
   |some (i,c,d,dK)=>some (e.cat i,h++c,d,⟨is++dK.fg,k::(l++dK.oB)⟩)
   |none=>none
  |_=>none
 | .c8 k::hs,s=>match iZ C (.c8 k) s with
  |some (some (e,h))=>match oc C a hs (e.app s) with
   |some (i,c,d,dK)=>some (e.cat i,h++c,d,⟨dK.fg,k::dK.oB⟩)
   |none=>none
  |_=>none
 |hs,_=>some (.nil,[],hs,⟨[],[]⟩)
theorem Wt{C:dH}{s a:S}(c:a.H k=s.H k):iZ C (.c8 k) a=iZ C (.c8 k) s:=by
 unfold iZ
 grind
theorem Mz{k g z n:Nat}{s a:S}: ∀{is:List Nat},(∀i,i∈is->a.t i=s.t i)->sa k g z n a is=sa k g z n s is
 | [],_=>rfl
 |i::is,h=>by unfold sa;rw[h i eM,Mz λx c=>h x (ew _ c)]
theorem X5{s a:S}(c: ∀i,i∈r->a.t i=s.t i)(d:a.H k=s.H k):iZ C (.sk r k) a=iZ C (.sk r k) s:=by
 unfold iZ;dsimp only;rw[d];split
 ·rw[Mz c]
 rfl
theorem MU{k g z n:Nat}{v:V}{s a:S}: ∀{is:List Nat},(∀i,i∈is->a.t i=s.t i)->ir k g z n v a is=ir k g z n v s is
 | [],_=>rfl
 |i::is,h=>by simp only[ir,h i List.mem_cons_self,MU λx c=>h x (List.mem_cons_of_mem _ c)]
theorem MV{k g z n:Nat}{v:V}{s a:S}: ∀{c:List Nat},(∀b,b∈c->a.H b=s.H b)->gx k g z n v a c=gx k g z n v s c
 | [],_=>rfl
 |b::c,h=>by unfold gx;rw[h b eM,MV λx d=>h x (ew _ d)]
theorem Ws{L:List Nat}{s a:S}(c: ∀i,i∈r->a.t i=s.t i)(d:a.H k=s.H k)(e: ∀b,b∈L->a.H b=s.H b):iZ C (.bf k r L) a=iZ C (.bf k r L) s:=by
 unfold iZ;dsimp only;rw[d];split
 ·rw[MU c,MV e]
 rfl
theorem Gb{a:Type}{f g:Nat->a}{r:Nat}(h:f r=g r): ∀(l:List (Nat×a)),df f l r=df g l r:=by
 intro l;induction l generalizing f g with
 |nil=>exact h
 |cons p l e=>
  obtain⟨d,v⟩:=p;simp only[df];apply e;by_cases c:r=d
  ·subst c;rw[bP,bP]
  rw[bQ _ _ _ _ c,bQ _ _ _ _ c];exact h
theorem C6{r:gz}{s a:S}(e:cN)(h:r.same a s):r.same (e.app a) (e.app s):=
 ⟨λi d=>Gb (h.1 i d) _,λk c=>⟨Gb (h.2 k c).1 _,Gb (h.2 k c).2 _⟩⟩
theorem w1(w:C.Fits K){n:Nat}: ∀{z:List cq} {s:S} {e:cN} {d:List dc} {a:List cq} {dK:gz},oc C n z s=some (e,d,a,dK)->cc d-> ∀c,dK.same c s->c.le K (e.app c)
 | .at m::z,s,e,d,a,dK,h,o,c,l=>by
  unfold oc at h;split at h
  ·exact w1 w h o c l
  cases h;exact S.le.refl _ _
 | .sk is k::z,s,e,d,a,dK,h,o,c,l=>by
  unfold oc at h;split at h
  ·rename_i p r A;split at h
   ·rename_i W B F G H;cases h;obtain⟨L,Q⟩:=cc.app o;have q:iZ C (.sk is k) c=some (some (p,r)):=(X5 (λi x=>l.1 i (oT _ x)) (l.2 k eM).1).trans A;rw[nr];exact(Ba w q L).trans (w1 w H Q (p.app c) (C6 p ⟨λi x=>l.1 i (oR _ x),λk R=>l.2 k (ew _ R)⟩))
   cases h
  cases h
 | .bf k is X::z,s,e,d,a,dK,h,o,c,l=>by
  unfold oc at h;split at h
  ·rename_i p r A;split at h
   ·rename_i W B F G H;cases h;obtain⟨L,Q⟩:=cc.app o;have q:iZ C (.bf k is X) c=some (some (p,r)):=(Ws (λi x=>l.1 i (oT _ x)) (l.2 k eM).1 λb f=>(l.2 b (ew _ (oT _ f))).1).trans A;rw[nr];exact(Ba w q L).trans (w1 w H Q (p.app c) (C6 p ⟨λi x=>l.1 i (oR _ x),λk R=>l.2 k (ew _ (oR _ R))⟩))
   cases h
  cases h
 | .c8 k::z,s,e,d,a,dK,h,o,c,l=>by
  unfold oc at h;split at h
  ·rename_i p r A;split at h
   ·rename_i W B F G H;cases h;obtain⟨L,Q⟩:=cc.app o;have q:iZ C (.c8 k) c=some (some (p,r)):=(Wt (l.2 k eM).1).trans A;rw[nr];exact(Ba w q L).trans (w1 w H Q (p.app c) (C6 p ⟨l.1,λk R=>l.2 k (ew _ R)⟩))
   cases h
  cases h
 | [],s,e,d,a,dK,h,_,c,_=>by cases h;exact S.le.refl _ _
 | .dM _ _ _::_,s,e,d,a,dK,h,_,c,_| .dR _ _ _ _ _::_,s,e,d,a,dK,h,_,c,_| .dh _ _ _ _::_,s,e,d,a,dK,h,_,c,_| .lt _ _ _::_,s,e,d,a,dK,h,_,c,_| .PX _ _ _ _::_,s,e,d,a,dK,h,_,c,_| .Ds _ _ _::_,s,e,d,a,dK,h,_,c,_| .B6 _ _ _ _::_,s,e,d,a,dK,h,_,c,_| .cut _ _ _::_,s,e,d,a,dK,h,_,c,_
 | .row _::_,s,e,d,a,dK,h,_,c,_| .rows _::_,s,e,d,a,dK,h,_,c,_| .str _::_,s,e,d,a,dK,h,_,c,_| .int _::_,s,e,d,a,dK,h,_,c,_| .nat _::_,s,e,d,a,dK,h,_,c,_
 | .b _::_,s,e,d,a,dK,h,_,c,_| .y _::_,s,e,d,a,dK,h,_,c,_| .v _::_,s,e,d,a,dK,h,_,c,_| .jh _ _::_,s,e,d,a,dK,h,_,c,_| .grow _ _ _::_,s,e,d,a,dK,h,_,c,_
 | .kb _::_,s,e,d,a,dK,h,_,c,_| .B4 _ _ _::_,s,e,d,a,dK,h,_,c,_| .et _ _ _ _::_,s,e,d,a,dK,h,_,c,_| .agO _ _ _::_,s,e,d,a,dK,h,_,c,_| .agN _ _ _ _::_,s,e,d,a,dK,h,_,c,_
 | .len _ _::_,s,e,d,a,dK,h,_,c,_| .eE _ _ _::_,s,e,d,a,dK,h,_,c,_| .sj _ _::_,s,e,d,a,dK,h,_,c,_| .ed _ _ _ _::_,s,e,d,a,dK,h,_,c,_| .dp _ _ _::_,s,e,d,a,dK,h,_,c,_| .dC _ _ _ _::_,s,e,d,a,dK,h,_,c,_=>by cases h;exact S.le.refl _ _
theorem hZ.pre{ops:Array Oper}{s b c:S}(i:s.le K b)(h:hZ K ops o b c):hZ K ops o s c:=by
 intro k a w next Q l m
 obtain⟨d,e⟩:=i k a w l;exact h d a w next Q e m
def xK(C:dH)(a:Array Oper):List Oper->List cq->S->Option (List (cN×gz)×List dc)
 | [],h,_=>match h with
  | []=>some ([],[])
  |_=>none
 |o::l,h,s=>match oc C (l.length+1) h s with
  |none=>none
  |some (d,i,c,dK)=>match sg C a o c (d.app s) with
   |none=>none
   |some (e,n,k)=>match xK C a l k (e.app (d.app s)) with
    |none=>none
    |some (p,m)=>some ((d.cat e,⟨dK.fg++(Bl a o c (d.app s)).fg,dK.oB++(Bl a o c (d.app s)).oB⟩)::p,i++(n++m))
def BO:List (cN×gz)->cN
 | []=> .nil
 |(e,_)::a=>e.cat (BO a)
theorem GY(p:C.Fits K){V:Array Oper}{Q:S->Prop}: ∀{l:List Oper} {q:List cq} {s:S} {c:List (cN×gz)} {d:List dc},xK C V l q s=some (c,d)->cc d->Q ((BO c).app s)->wo K V l c s Q
 | [],q,s,c,d,h,_,m=>by
  simp only[xK] at h;split at h
  ·cases h;exact m
  cases h
 |o::l,q,s,c,d,h,r,m=>by
  simp only[xK] at h;split at h
  ·cases h
  rename_i n F w dK G;split at h
  ·cases h
  rename_i e H L R;split at h
  ·cases h
  rename_i W X b;cases h;obtain⟨f,x⟩:=cc.app r;obtain⟨x,g⟩:=cc.app x;simp only[BO,nr] at m;refine⟨λB a=>?_,by rw[nr];exact GY p b g m⟩;rw[nr];refine hZ.pre (w1 p G f B ⟨λi y=>a.1 i (oT _ y),λk z=>a.2 k (oT _ z)⟩) ?_;have A:(Bl V o w (n.app s)).same (n.app B) (n.app s):=C6 n ⟨λi y=>a.1 i (oR _ y),λk z=>a.2 k (oR _ z)⟩;exact OU p ((ZH A).trans R) x
def lE(C:dH)(l:List Oper)(h:List cq)(s:S):Option (cN×List dc):=
 match qd C l.length h s with
 |none=>none
 |some (d,a,c)=>match xK C l.toArray l c (d.app s) with
  |none=>none
  |some (e,i)=>match mI l.toArray l.length 0 e&&rD 0 l with
   |true=>some (d.cat (BO e),a++i)
   |false=>none
theorem OE{c:Code}{s s2:S}{Q:Exit->S->Prop}(h:cD K c s λe k=>match e with| .normal=>k.le K s2|_=>False)(n:Q .normal s2):cD K c s Q:=by
 intro o a w p x y;refine h o a w p x ?_;intro e k d l m q r;cases e with
 |normal=>obtain⟨i,z⟩:=q d l m r;exact y _ _ i l m n z
 |exit=>exact q.elim
 |goto=>exact q.elim
 |ret=>exact q.elim
 |panic=>exact q.elim
 |outgrown=>exact q.elim
theorem rd{l:List Oper}{s:S}{Q:Exit->S->Prop}(q:C.Fits K)(x:K.P.follows .mixedOrders=true)(r:List cq)(i:List Nat)(c:List (Nat×V))(d:List (Nat×Option E))(k:List (Nat×Bool)){p:Prop}(m:p)
  (h:me (lE C l r s) uB (uD s i c d)=me (lE C l r s) uC (uE p c d k)) (y:Q .normal (s.cl i c d k)):cD K (.region n l.toArray true) s Q:=by
 obtain⟨e,X,a,z,w⟩:=Ph (K:=K) m h;unfold lE at a;split at a
 ·cases a
 rename_i b A B F;split at a
 ·cases a
 rename_i G H L;split at a
 ·rename_i o;cases a;simp only[Bool.and_eq_true] at o;obtain⟨R,W⟩:=cc.app z;refine vr (q3 q F R) (OE (s2:=s.cl i c d k) (M5 G x o.1 o.2 (GY q L W ?_)) y);rw[nr] at w;exact w
 cases a
def nU:List (Nat×E)->List (Nat×Option E)
 | []=>[]
 |(k,e)::l=>(k,some e)::nU l
def o8:List Nat->List (Nat×Bool)
 | []=>[]
 |k::l=>(k,true)::o8 l
def aX(a:List (Nat×V))(c:List (Nat×E))(d:List Nat):S:={t:=df pN a,H:=df oX (nU c),u:=df gr (o8 d)}
def BW(u:Nat->Bool):List (Nat×V)->Bool
 | []=>true
 |(_,v)::l=>v.ok u&&BW u l
def BU(u:Nat->Bool):List (Nat×E)->Bool
 | []=>true
 |(k,e)::l=>u k&&(e.ok u&&BU u l)
def BN(u:Nat->Bool):List Nat->Bool
 | []=>true
 |k::l=>u k&&BN u l
theorem NP{u:Nat->Bool}: ∀{l:List (Nat×V)},BW u l=true-> ∀i v,(i,v)∈l->v.ok u=true
 |(a,c)::l,h,i,v,hm=>by
  simp only[BW,Bool.and_eq_true] at h;rcases dL.1 hm with hm|hm
  ·cases hm;exact h.1
  exact NP h.2 i v hm
theorem Of{u:Nat->Bool}: ∀{l:List (Nat×E)},BU u l=true-> ∀k e,(k,some e)∈nU l->u k=true/\e.ok u=true
 |(a,c)::l,h,i,v,hm=>by
  simp only[BU,Bool.and_eq_true] at h;simp only[nU] at hm;rcases dL.1 hm with hm|hm
  ·cases hm;exact⟨h.1,h.2.1⟩
  exact Of h.2.2 i v hm
theorem Oe{u:Nat->Bool}: ∀{l:List Nat},BN u l=true-> ∀k b,(k,b)∈o8 l->u k=true
 |j9::l,h,k,b,hm=>by
  simp only[BN,Bool.and_eq_true] at h;simp only[o8] at hm;rcases dL.1 hm with hm|hm
  ·cases hm;exact h.1
  exact Oe h.2 k b hm
def BQ(e:Nat)(s:S)(c:List (Nat×V))(d:List (Nat×E))(a:List Nat):List V×List (Option E)×Bool:=
 (ug s c,uh s (nU d),BW (df gr (o8 a)) c&&(BU (df gr (o8 a)) d&&(BN s.u a&&mH e (df gr (o8 a)))))
theorem QT{s:S}{a:List (Nat×V)}{c:List (Nat×E)}(h:BQ K.c6 s a c r=(kj a,kj (nU c),true)):s.le K (aX a c r):=by
 simp only[BQ,Prod.mk.injEq,Bool.and_eq_true] at h;obtain⟨m,n,o,p,q,w⟩:=h;refine abJ (s':=aX a c r) ?_ ?_ ?_ w
 ·intro i;show df pN a i= .cY\/(dv _ (df pN a i)/\(df pN a i).ok _=true)
  rcases mr a pN i with ⟨aI,a2⟩|⟨v,aI,a2⟩
  ·exact .inl a2
  rw[a2];exact .inr ⟨FM m i v aI,NP o i v aI⟩
 ·intro k e d;have d:df oX (nU c) k=some e:=d;rcases mr (nU c) oX k with ⟨aI,a2⟩|⟨v,aI,a2⟩
  ·rw[a2] at d;cases d
  rw[a2] at d;subst d;obtain⟨x,y⟩:=Of p k e aI;exact⟨F2 n k e aI,x,y⟩
 intro k l;have l:df gr (o8 r) k=true:=l;rcases mr (o8 r) gr k with ⟨aI,a2⟩|⟨v,aI,a2⟩
 ·rw[a2] at l;cases l
 exact Oe q k v aI
theorem aai{ι:Type}{x y:Code}{s:S}{Q:Exit->S->Prop}(A:ι->S)(p:ι->Prop)(a:cD K x s (qm (λc=> ∃i,p i/\c.le K (A i)) Q))(d: ∀i,p i->cD K y (A i) Q):cD K (.seq x y) s Q:=by
 refine A4 (wv a λe l q=>?_);cases e with
 |normal=>obtain⟨i,h,k⟩:=q;exact vr k (d i h)
 |exit=>exact q
 |goto=>exact q
 |ret=>exact q
 |panic=>exact q
 |outgrown=>exact q
theorem acZ{v r:V}(h:lz r v=r):dv v r:=h▸Gn r v
def tN(s:S):List E->Nat->List (Option E)
 | [],_=>[]
 |e::l,k=>BV (some e) (s.H k)::tN s l (k+1)
def tJ:List E->List (Option E)
 | []=>[]
 |e::l=>some e::tJ l
def ub(u:Nat->Bool):List E->Bool
 | []=>true
 |e::l=>e.ok u&&ub u l
theorem Mi{s:S}: ∀{l:List E} {k:Nat},tN s l k=tJ l-> ∀i e,l[i]? =some e-> ∃a,s.H (k+i)=some a/\ju a e
 |a::l,k,h,0,e,c=>by
  simp only[tN,tJ,List.cons.injEq] at h;simp at c;subst c;exact Oj h.1
 |a::l,k,h,i+1,e,c=>by
  simp only[tN,tJ,List.cons.injEq] at h
  have:=Mi h.2 i e (by simpa using c)
  rwa [show k+1+i=k+(i+1) by omega] at this
theorem MZ{u:Nat->Bool}: ∀{l:List E},ub u l=true-> ∀(i:Nat) e,l[i]? =some e->e.ok u=true
 |c::l,h,0,e,a=>by simp only[ub,Bool.and_eq_true] at h;simp at a;subst a;exact h.1
 |c::l,h,i+1,e,a=>by simp only[ub,Bool.and_eq_true] at h;exact MZ h.2 i e (by simpa using a)
end
end
def bd{a R:Type}(c:(a->Option R)->a->Option R):Nat->a->Option R
 |0,_=>none
 |m+1,x=>c (bd c m) x
def ay{a R:Type}(j:a->Option R)(t:(a->Option R)->Option R):Option R:=t j
variable {a R γ:Type}{A B:Option R}{r l:List a}{o:Option a}{f:FuncId}{c:Code}{n:Nat}{d:Func}{s:S}{Q:Exit->S->Prop}{j i:Int}{x y ph:a}{p:Prop}{w:World}{v:V}{u z:Value}{e:ResultVar}{args:List V}
theorem iE{A:a->Option R}{t:(a->Option R)->Option R}{r:R}(h:ay A t=some r): ∃j,j=A/\t j=some r:=⟨A,rfl,h⟩
theorem cU{f:a->Option R}{r:R}(h:o.bind f=some r): ∃x,o=some x/\f x=some r:=by
 cases o with
 |none=>cases h
 |some x=>exact⟨x,rfl,h⟩
theorem hK{c:Bool}{r:R}(a:c=true)(h:(bif c then A else B)=some r):A=some r:=by subst a;exact h
theorem hJ{c:Bool}{r:R}(a:c=false)(h:(bif c then A else B)=some r):B=some r:=by subst a;exact h
theorem an{a b:R}(h:some a=some b):a=b:=Option.some.inj h
section
variable {K:Ctx}{C:dH}
theorem w6{H:Type}{a:(H->Option R)->H->Option R}{d:H}{r:R}(h:bd a n d=some r)(A:H->γ->S)(o:γ)(z:s.le K (A d o))
  (k: ∀(i:H->Option R) (x:H) (g:γ),a i x=some r->cD K c (A x g) (BM (λp=> ∃y l,i y=some r/\p.le K (A y l)) Q)):cD K (.loop c) s Q:=by
 refine X' (ι:=(Nat×H)×γ) (λy=>A y.1.2 y.2) (λy=>bd a y.1.1 y.1.2=some r) (λy=>y.1.1) ((n,d),o) h z ?_;rintro⟨⟨m,x⟩,g⟩ w;cases m with
 |zero=>cases w
 |succ m=>
  refine wv (k (bd a m) x g w) λe p q=>?_;cases e with
  |normal=>obtain⟨y,l,B,F⟩:=q;exact⟨((m,y),l),B,oV m,F⟩
  |exit=>exact q
  |goto=>exact q
  |ret=>exact q
  |panic=>exact q
  |outgrown=>exact q
theorem hP{j:a->Option R}{r:R}{x y:Code}(A:a->γ->S)
  (c:cD K x s (qm (λh=> ∃z g,j z=some r/\h.le K (A z g)) Q)) (d: ∀z g,j z=some r->cD K y (A z g) Q):cD K (.seq x y) s Q:=
 aai (ι:=a×γ) (λi=>A i.1 i.2) (λi=>j i.1=some r) (wv c (λe l q=>by
  cases e with
  |normal=>obtain⟨z,g,c,d⟩:=q;exact⟨(z,g),c,d⟩
  |exit=>exact q
  |goto=>exact q
  |ret=>exact q
  |panic=>exact q
  |outgrown=>exact q)) λi k=>d i.1 i.2 k
theorem acG{P:Program}{G:eY}{a:List (Nat×cf)}(d:dP P a)(c:Nat)(w:World)(X:Nat->Prop):dH.Fits ⟨P,G,a,c,0,gT⟩ (Ctx.pure P G w X c):=⟨d,rfl,rfl,rfl,rfl,rfl⟩
theorem acF{P:Program}{G:eY}{a:List (Nat×cf)}(h:dP P a)(d e:Nat)(w:World)(X:Nat->Prop)(c:Map):dH.Fits ⟨P,G,a,d,e,c⟩ (Ctx.dC P G w X e c d):=⟨h,rfl,rfl,rfl,rfl,rfl⟩
theorem Np{P:Program}(a:P.funcs[f]? =some d)(e:(d.name== "runtime.NumGoroutine")=false)(h:d.body=some c):ig P f:=⟨d,a,e,by rw[h];rfl⟩
variable {P:Program}{G:eY}{b9:List (Nat×cf)}
end
abbrev I:Int->List T:=im
abbrev dZ:UInt8->List T:=nG
abbrev bB:Bool->List T:=abD
abbrev c3:List UInt8->List T:=ab'
abbrev aW{a:Type}(r:a->List T)(l:List a):List T:=[T.aA (l.map r)]
abbrev aF{a:Type}(r:a->List T)(l:List a):V:= .t (.aA (l.map r))
abbrev az{a:Type}(e g c:Nat)(r:a->List T)(l:List a):E:= .arr e g c (l.map r)
abbrev ms{a:Type}(k g c:Nat)(r:a->List T)(l:List a):V:= .a8 k g c 0 (l.map r).length
theorem PD(r:a->List T)(l:List a):(l.map r).length=l.length:=dn ..
theorem yR(b:UInt8):IntKind.i64.wrap (b.toNat:Int)=(b.toNat:Int):=IntWalk.i64_in _ (by have:=UInt8.toNat_lt b;omega)
theorem iu(k:Nat){r:a->List T}(h: ∀x,(r x).length=k)(l:List a):Rows k (l.map r):=Rows.map l h
theorem b7(f:a->List T)(h:ar l i=some x):(l.map f)[0+i.toNat]? =some (f x):=by rw[dt,ev,(mG h).2];rfl
theorem bw(f:a->List T)(h:ar l i=some x):0<=i/\i<((l.map f).length:Int):=by
 obtain⟨c,d⟩:=mG h
 grind
theorem BS{b:List a}(f:a->List T)(h:ar l i=some x)(e:(b.map f).length=(l.map f).length):0<=i/\i<((b.map f).length:Int):=by rw[e];exact bw f h
theorem str(f:a->List T)(h:b6 l i x=some r):r.map f=(l.map f).set (0+i.toNat) (f x):=by obtain⟨_,_,rfl⟩:=sZ h;rw[dt,List.map_set]
theorem og{q:Prop}(h:p)(k:q):p/\q:=⟨h,k⟩
def kb(b:Int):Option Unit:=if b=0 then none else some ()
theorem rM{b:Int}{x:Unit}(h:kb b=some x):b≠0:=by intro e;rw[kb,a1 e] at h;cases h
theorem ij(f:a->R){y:R}(h:ar l i=some x)(e:f x=y):ar (l.map f) i=some y:=e▸OX f h
theorem pE{c:Type}{l r:List R}{a:Int}(f:R->c)(h:sub l a (l.length:Int)=some r):sub (l.map f) a ((l.map f).length:Int)=some (r.map f):=by rw[dn];exact nE f h
theorem adu{n:Int}{b:UInt8}(h:n=(b.toNat:Int)):IntKind.i64.wrap n=(b.toNat:Int):=h▸yR b
def gm(C:dH)(a:List cq)(s:S):Option (cN×List dc):=match qd C 0 a s with
 |some (e,c,[])=>some (e,c)
 |_=>none
theorem ais{K:Ctx}{C:dH}(m:C.Fits K)(i:List cq)(k:List Nat)(c:List (Nat×V))(d:List (Nat×Option E))(l:List (Nat×Bool))
  (h:me (gm C i s) uB (uD s k c d)=me (gm C i s) uC (uE True c d l)):s.le K (s.cl k c d l):=by
 obtain⟨e,q,a,n,o⟩:=Ph (K:=K) trivial h;unfold gm at a;split at a
 ·rename_i p;cases a;exact(q3 m p n).trans o
 cases a
def iV(c:List (Nat×cf))(s:S):List ResultVar->Option (List V)
 | []=>some []
 | .tmp t::d=>match iV c s d with
  |some e=>some (s.t t::e)
  |none=>none
 | .cell a t::d=>match tX c s.H t (s.t a) [],iV c s d with
  |some (v,[],[]),some e=>some (v::e)
  |_,_=>none
def nW:List V->V
 | [v]=>v
 |vs=> .bH vs
def lf(c:Array Value)(r:ResultVar):Sem Value:=match r with
 | .tmp t=>pure (c.getD t undef)
 | .cell a t=>do loadVar t (<-asAddr (c.getD a undef))
theorem Ec(d:Func)(a:Array Value):Go.results d a=(do let c<-d.results.mapM (lf a);pure (if h:c.size=1 then c[0] else .tuple c)):=rfl
theorem abe{P:Program}{i:List (Nat×cf)}(r:dP P i){K:Ctx}{T:Map}{a:Act}(m:Rel K T s a w){x:Nat}{t:TypeId}(h:tX i s.H t (s.t x) []=some (v,[],[])):
  ∃u,(lf a.tmps (.cell x t)).run P w= .ok u w/\bk T w (own K T s.H) v u:=by
 have y:=MD (d:=none) (ty:=0) (pos:= "") (af:= #[]) (g:=none) (x:= .tmp x) r h trivial
 obtain⟨u,c,z⟩:=y T w (own K T s.H) a.eval (λid e A=>(m.heap id e A).2) ⟨m.cW x,trivial⟩;refine⟨u,?_,z⟩;have bL:=m.cW x;have n: ∃l,a.tmps.getD x undef= .pointer (some l):=by
  generalize a.tmps.getD x undef=q at bL;unfold tX at h;split at h
  ·cases h
  split at h
  ·rename_i o;rw[o] at bL;cases bL with|ref _ _ b _=>exact⟨_,rfl⟩
  ·rename_i o;rw[o] at bL;cases bL with|aL _ b B f _ _ _ _=>exact⟨_,rfl⟩
  ·split at h
   ·split at h<;>cases h
   ·split at h<;>cases h
   cases h
  cases h
 obtain⟨l,k⟩:=n;have F:a.eval (.tmp x)= .pointer (some l):=k;simp only[execOp,Instr.loadAt,F,Instr.sureAddr,Sem.run_bind,Sem.run_pure,Result.andThen_ok] at c;simp only[lf,k,asAddr,Sem.run_bind,Sem.run_pure,Result.andThen_ok];cases p:(loadVar t l).run P w with
 |ok L Q=>rw[p] at c;simp at c;obtain⟨rfl,rfl⟩:=c;rfl
 |_=>rw[p] at c;cases c
theorem GM{P:Program}{e:List (Nat×cf)}(n:dP P e){K:Ctx}{T:Map}{s:S}{a:Act}{w:World}(m:Rel K T s a w): ∀{k:List ResultVar} {l:List V},iV e s k=some l->
  l.length=k.length/\ ∀(i:Nat) r v,k[i]? =some r->l[i]? =some v-> ∃u,(lf a.tmps r).run P w= .ok u w/\bk T w (own K T s.H) v u
 | [],_,h=>by cases h;exact⟨rfl,λi r v h=>by simp at h⟩
 | .tmp t::k,l,h=>by
  simp only[iV] at h;split at h
  ·rename_i o p;cases h;obtain⟨aI,a2⟩:=GM n m p;refine⟨by simp[aI],λi r v c d=>?_⟩;cases i with
   |zero=>simp at c d;subst c;subst d;exact⟨_,rfl,m.cW t⟩
   |succ i=>simp at c d;exact a2 i r v c d
  cases h
 | .cell x t::k,l,h=>by
  simp only[iV] at h;split at h
  ·rename_i y o q p;cases h;obtain⟨aI,a2⟩:=GM n m p;refine⟨by simp[aI],λi r v c d=>?_⟩;cases i with
   |zero=>simp at c d;subst c;subst d;exact abe n m q
   |succ i=>simp at c d;exact a2 i r v c d
  cases h
theorem Y9{P:Program}{a:Array Value}{r:ResultVar}(h:d.results= #[r])(c:(lf a r).run P w= .ok u w):(Go.results d a).run P w= .ok u w:=by rw[Ec,h];simp[c]
theorem Y8{P:Program}{a:Array Value}{r c:ResultVar}{v:Value}(h:d.results= #[r,c])(e:(lf a r).run P w= .ok u w)(i:(lf a c).run P w= .ok v w):(Go.results d a).run P w= .ok (.tuple #[u,v]) w:=by rw[Ec,h];simp[e,i]
theorem Y7{P:Program}{a:Array Value}{r c:ResultVar}{v:Value}(h:d.results= #[r,e,c])(i:(lf a r).run P w= .ok u w)(k:(lf a e).run P w= .ok z w)(l:(lf a c).run P w= .ok v w):
  (Go.results d a).run P w= .ok (.tuple #[u,z,v]) w:=by rw[Ec,h];simp[i,k,l]
theorem Y6{P:Program}{a:Array Value}{r c i:ResultVar}{v x:Value}(h:d.results= #[r,e,c,i])(k:(lf a r).run P w= .ok u w)(l:(lf a e).run P w= .ok z w)(m:(lf a c).run P w= .ok v w)(n:(lf a i).run P w= .ok x w):
  (Go.results d a).run P w= .ok (.tuple #[u,z,v,x]) w:=by rw[Ec,h];simp[k,l,m,n]
theorem K2{P:Program}{l:List (Nat×cf)}(W:dP P l){K:Ctx}{T:Map}{a:Act}(X:Rel K T s a w){e:List ResultVar}(p:d.results.toList=e){U:List V}(h:iV l s e=some U)(b:Nat.ble e.length 4=true):
  ∃u,(Go.results d a.tmps).run P w= .ok u w/\bk T w (own K T s.H) (nW U) u:=by
 obtain⟨f,o⟩:=GM W X h;have p:d.results=e.toArray:=by rw[<-p]
 match e,U,f,o,b with
 | [],[],_,_,_=>exact⟨_,results_none p _ _ _,.bH [] #[] rfl λi c u h _=>by simp at h⟩
 | [r],[v],_,o,_=>
  obtain⟨u,aI,a2⟩:=o 0 r v rfl rfl;exact⟨u,Y9 p aI,a2⟩
 | [r,y],[v,z],_,o,_=>
  obtain⟨u,aI,a2⟩:=o 0 r v rfl rfl;obtain⟨R,A,B⟩:=o 1 y z rfl rfl;refine⟨_,Y8 p aI A,.bH _ _ rfl λi c u k m=>?_⟩
  match i with
  |0=>simp at k m;subst k;subst m;exact a2
  |1=>simp at k m;subst k;subst m;exact B
  |n+2=>simp at k
 | [r,y,q],[v,z,x],_,o,_=>
  obtain⟨u,aI,a2⟩:=o 0 r v rfl rfl;obtain⟨R,A,B⟩:=o 1 y z rfl rfl;obtain⟨F,L,Q⟩:=o 2 q x rfl rfl;refine⟨_,Y7 p aI A L,.bH _ _ rfl λi c u k m=>?_⟩
  match i with
  |0=>simp at k m;subst k;subst m;exact a2
  |1=>simp at k m;subst k;subst m;exact B
  |2=>simp at k m;subst k;subst m;exact Q
  |n+3=>simp at k
 | [r,y,q,g],[v,z,x,j],_,o,_=>
  obtain⟨u,aI,a2⟩:=o 0 r v rfl rfl;obtain⟨R,A,B⟩:=o 1 y z rfl rfl;obtain⟨F,L,Q⟩:=o 2 q x rfl rfl;obtain⟨E,t,D⟩:=o 3 g j rfl rfl;refine⟨_,Y6 p aI A L t,.bH _ _ rfl λi c u k m=>?_⟩
  match i with
  |0=>simp at k m;subst k;subst m;exact a2
  |1=>simp at k m;subst k;subst m;exact B
  |2=>simp at k m;subst k;subst m;exact Q
  |3=>simp at k m;subst k;subst m;exact D
  |n+4=>simp at k
def PH(c:List (Nat×cf))(d:List ResultVar)(r:V):Exit->S->Prop
 | .normal,s| .ret,s=> ∃a,iV c s d=some a/\dv (nW a) r
 |_,_=>False
def PG(d:List (Nat×cf))(e:List ResultVar)(r:V)(a:List E):Exit->S->Prop
 | .normal,s| .ret,s=> ∃c,iV d s e=some c/\dv (nW c) r/\r.ok (d5 a.length)=true/\lv s.H (d5 a.length) (eN a 0)
 |_,_=>False
section
variable {P:Program}{G:eY}{b9:List (Nat×cf)}
theorem Q1{r:V}{a:List ResultVar}(A:dP P b9)(B:P.funcs[f]? =some d)(H:(d.name== "runtime.NumGoroutine")=false)(q:d.body=some c)(L:d.results.toList=a)(s:d.ntmps=n)
  (k:Nat.ble args.length n=true) (Q:r.ok gr=true) (x:Nat.ble a.length 4=true)
  (h: ∀w X,dH.Fits ⟨P,G,b9,n,0,gT⟩ (Ctx.pure P G w X n)->cD (Ctx.pure P G w X n) c (start args) (PH b9 a r)):jV P G f args r:=by
 subst s;refine⟨Np B H q,?_⟩;intro w X R W g F;have o:R.length<=d.ntmps:=by rw[F.length];exact dY k
 refine calls_of_wp B q (h w X (acG A _ w X) gT _ w _ (Rel.start W g F o) ?_);intro e j t v w' m i;have p:(∃y,iV b9 j a=some y/\dv (nW y) r)->bodyPost P d (λe w'=> ∃u,e= .returned u/\Ext (λ_=>False) w w'/\bk gT w' X r u) .ret v w':=by
  rintro⟨y,z,k⟩;obtain⟨u,D,bL⟩:=K2 A i L z x;have bL:=k _ _ _ _ bL;refine⟨i.defers,u,D,u,rfl,?_,?_⟩
  ·exact i.ext.weaken λb _ ⟨id,h,_⟩=>by simp[Ctx.pure] at h
  exact bL.under (u:=gr) (λb q=> .inl q) (λ_ h=>by simp[gr] at h) Q
 cases e with
 |normal=>exact p m
 |ret=>exact p m
 |exit id=>exact m.elim
 |goto l=>exact m.elim
 |panic c=>exact m.elim
 |outgrown=>exact m.elim
def tW(a:Map):List E->Nat->Prop
 | [],_=>True
 | .arr _ g _ _::c,k=>(∃q,a k=some (q,g))/\tW a c (k+1)
 | .a7 _ _ g _ _::c,k=>(∃q,a k=some (q,g))/\tW a c (k+1)
 | .cells _::c,k=>True/\tW a c (k+1)
theorem My{S:Map}: ∀(a:List E) (k:Nat),(∀(i:Nat) e g,a[i]? =some e->e.gen=some g-> ∃q,S (k+i)=some (q,g))->tW S a k
 | [],_,_=>trivial
 |e::a,k,h=>by
  have bR:=My a (k+1) (λi e g c d=>by
   have:=h (i+1) e g (by simpa using c) d
   rwa [show k+(i+1)=k+1+i by omega] at this)
  cases e with
  |cells=>exact⟨trivial,bR⟩
  |arr _ g _ _=>exact⟨h 0 _ g rfl rfl,bR⟩
  |a7 _ _ g _ _=>exact⟨h 0 _ g rfl rfl,bR⟩
theorem ag7{o:Func}{a out:List E}{r:V}{x y:Nat}{R:List ResultVar}(kx:dP P b9)(ik:P.funcs[f]? =some o)(cy:(o.name== "runtime.NumGoroutine")=false)(aY:o.body=some c)(bR:o.results.toList=R)(W:o.ntmps=x)(j:a.length=y)
  (z:Nat.ble args.length x=true) (A:Nat.ble y out.length=true) (v:Nat.ble R.length 4=true)
  (h: ∀w X d,dH.Fits ⟨P,G,b9,x,y,d⟩ (Ctx.dC P G w X y d x)->tW d a 0->cD (Ctx.dC P G w X y d x) c (lY a args) (PG b9 R r out)):jb P G f a args r out:=by
 subst W;subst j;refine⟨Np ik cy aY,?_⟩;intro w X d us kY gp aE fP;have B:us.length<=o.ntmps:=by rw[fP.length];exact dY z
 refine calls_of_wp ik aY (h w X d (acF kx _ _ w X d) (My a 0 (λk e g D bI=>by
  rw[dt];exact(o3 (aE.heap k _ D) bI).2)) d _ w _ (Rel.lY kY gp aE fP B) ?_)
 intro e I F tM w' q m;have L:(∃M,iV b9 I R=some M/\dv (nW M) r/\r.ok (d5 out.length)=true/\lv I.H (d5 out.length) (eN out 0))->
   bodyPost P o (λe w'=> ∃u,∃i:Unit,∃β,e= .returned u/\True/\Left d β a out w w' X r u) .ret tM w':=by
  rintro⟨M,N,T,U,hH⟩;obtain⟨u,hu,bL⟩:=K2 kx m bR N v;have bL:=T _ _ _ _ bL;have hm:a.length<=out.length:=dY A;let p:S:={t:=pN,H:=eN out 0,u:=d5 out.length}
  have Q:mH a.length p.u=true:=by
   have: ∀n,n<=a.length->mH n p.u=true:=by
    intro n;induction n with
    |zero=>intro _;rfl
    |succ n my=>intro cy;simp[mH,my O,show p.u n=true from jd.2 O]
   exact this _ (cJ _)
  have bG:=m.cut (s':=p) (o6.nil _ _) hH Q;have ec:=EC (K:=Ctx.dC P G w X a.length d o.ntmps) (β:=F) (s:=I) (s':=p) hH;refine⟨m.defers,u,hu,u,(),cut F p.u,rfl,trivial,?_⟩;refine⟨m.ext.weaken λb _ ⟨id,_,h⟩=>⟨id,h⟩,bG.base,bG.iT,?_,?_,bG.inj,bG.fresh,?_,bL.under ec (λ_ h=>xi h) U⟩
  ·intro k D;apply bG.dF;cases Y:p.u k with
   |false=>rfl
   |true=>have:=jd.1 Y;omega
  ·intro k b D;apply bG.ea;cases Y:p.u k with
   |false=>rfl
   |true=>have:=jd.1 Y;omega
  intro k e he;exact(bG.heap k e (by rw[<-yV] at he;exact he)).2
 cases e with
 |normal=>exact L q
 |ret=>exact L q
 |exit id=>exact q.elim
 |goto l=>exact q.elim
 |panic c=>exact q.elim
 |outgrown=>exact q.elim
def xC(r:V):Option (List V)->Option V
 |some a=>some (lz r (nW a))
 |none=>none
theorem Pw{a:List ResultVar}{r:V}(h:xC r (iV b9 s a)=some r): ∃c,iV b9 s a=some c/\dv (nW c) r:=by
 cases d:iV b9 s a with
 |none=>rw[d] at h;cases h
 |some c=>rw[d] at h;simp only[xC,Option.some.injEq] at h;exact⟨c,rfl,acZ h⟩
theorem acY{c:List ResultVar}{r:V}{a:List E}(h:(xC r (iV b9 s c),tN s a 0,r.ok (d5 a.length)&&ub (d5 a.length) a)=(some r,tJ a,true)):
  ∃d,iV b9 s c=some d/\dv (nW d) r/\r.ok (d5 a.length)=true/\lv s.H (d5 a.length) (eN a 0):=by
 simp only[Prod.mk.injEq,Bool.and_eq_true] at h;obtain⟨l,m,n,o⟩:=h;obtain⟨d,aI,a2⟩:=Pw l;refine⟨d,aI,a2,n,λk e i=>?_⟩;rw[yV] at i
 have:=Mi m k e i;rw[dt] at this;exact⟨this,jd.2 (bU.1 i).1,MZ o k e i⟩
end
theorem sb(f:a->List T)(ph:a)(h:app l [y]=some r):app (List.map f l) [f ph]=some (List.map f (l++[ph])):=by
 obtain⟨c,_⟩:=wm h;unfold app
 grind
theorem mi(f:a->List T)(l:List a)(ph:a):(List.map f (l++[ph]))[(List.map f l).length+0]? =some (f ph):=by grind
theorem xu(f:a->List T)(l:List a){r:List T}(e:r=f y):(List.map f (l++[ph])).set ((List.map f l).length+0) r=List.map f (l++[y]):=by grind
theorem rX(f:a->List T){x:List a}{r:List T}(h:app l [y]=some x)(e:r=f y):(List.map f (l++[ph])).set ((List.map f l).length+0) r=List.map f x:=by
 obtain⟨_,rfl⟩:=wm h
 grind
theorem r7(f:a->List T){x:List a}(c:a)(h:app l [y]=some x):(List.map f (l++[c])).length=(List.map f x).length:=by obtain⟨_,rfl⟩:=wm h;simp
theorem agu(f:a->List T)(h:l.isEmpty=false):List.map f l≠[]:=by
 cases l with
 |nil=>cases h
 |cons=>simp
theorem fv(f:a->List T){q:List T}(h:b6 l i y=some r)(e:q=f y):(List.map f l).set (0+i.toNat) q=List.map f r:=by subst e;exact(str f h).symm
theorem hQ(f:a->List T){q:List T}(h:ar l i=some x)(e:q=f x):(List.map f l).set (0+i.toNat) q=List.map f l:=by subst e;have c:=b7 f h;obtain⟨k,d⟩:=bU.1 c;rw[<-d,List.set_getElem_self]
theorem cA(f:a->List T)(h:b6 l i x=some r):(l.map f).length=(r.map f).length:=by obtain⟨_,_,rfl⟩:=sZ h;simp
theorem jm{r:R}(h:(none:Option R)=some r):p:=by cases h
def j7{R:Type}(a b:List R):Option Unit:=if b.length=a.length then some () else none
theorem jk{a b:List R}{u:Unit}(f:R->List T)(h:j7 a b=some u):(a.map f).length=(b.map f).length:=by
 unfold j7 at h
 grind
def DF{a:Type}(f:a->List T):Option a->V
 |none=> .t .gV
 |some x=> .aL (f x)
theorem ac6(f:a->List T)(o:Option a)(b:Bool):(V.bH [DF f o,aM b]).ok gr=true:=by cases o<;>rfl
theorem vW{P:Program}{G:eY}[Inhabited a]{r:a->List T}(h:o.isSome=true)(k:jV P G f args (V.bH [DF r o,v])):jV P G f args (V.bH [V.aL (r (o.getD default)),v]):=by
 cases o with
 |none=>cases h
 |some x=>exact k
theorem vV{P:Program}{G:eY}{r:a->List T}(h:o.isSome=false)(k:jV P G f args (V.bH [DF r o,v])):jV P G f args (V.bH [V.t .gV,v]):=by
 cases o with
 |none=>exact k
 |some x=>cases h
theorem acA(f:a->List T)(l:List a):(l.map f).length=((l.take l.length).map f).length:=by rw[dz]
theorem M6(f:a->List T)(l:List a)(c:0<=i)(d:i<(l.length:Int)):
  0<=i/\i<=((l.map f).length:Int)/\((l.map f).length:Int)<=((l.map f).length:Int)/\(i=0\/i<((l.map f).length:Int))/\i.toNat=0+i.toNat/\l.length-i.toNat=((l.map f).length:Int).toNat-i.toNat:=by grind
theorem Px(f:a->List T)(l:List a)(k:Nat):(l.take k).map f=(l.map f).take k:=tv
section
set_option linter.unusedVariables false
def eK{a:Type}(l:List a)(i j:Int):Nat:=i.toNat+(l.length-j.toNat)
def ng{a:Type}(l:List a)(i j:Int):List a:=l.take i.toNat++l.drop j.toNat++l.drop (eK l i j)
def jZ{a:Type}(l:List a)(i j:Int)(z:a):List a:=l.take i.toNat++l.drop j.toNat++List.replicate (l.length-eK l i j) z
theorem NA(l:List a)(c:0<=i)(d:i<=j)(e:j<=(l.length:Int)):(ng l i j).length=l.length:=by
 unfold ng eK
 grind
theorem adx(f:a->List T)(l:List a)(c:0<=i)(d:i<=j)(e:j<=(l.length:Int)):0<=i/\i<=j/\j<=(l.length:Int)/\(l.length:Int)<=((l.map f).length:Int):=by grind
theorem PT(f:a->List T)(l:List a)(c:0<=i)(d:i<=j)(e:j<=(l.length:Int)):
  (0:Int)<=0/\(0:Int)<=i/\i<=((l.map f).length:Int)/\((0:Int)=0\/(0:Int)<((l.map f).length:Int))/\0=0+(0:Int).toNat/\i.toNat=i.toNat-(0:Int).toNat:=
 ⟨fT _,c,by rw[dn];omega,.inl rfl,rfl,rfl⟩
theorem adw(f:a->List T)(l:List a)(c:0<=i)(d:i<=j)(e:j<=(l.length:Int))(h: ¬j<(l.length:Int)):0<=j/\j=((l.map f).length:Int)/\((l.map f).length:Int)<=((l.map f).length:Int):=by grind
theorem ac3(f:a->List T)(l:List a)(c:0<=i)(d:i<=j)(e:j<=(l.length:Int)):i.toNat+(l.length-j.toNat)<=(l.map f).length:=by grind
theorem ac2(f:a->List T)(l:List a)(c:0<=i)(d:i<=j)(e:j<=(l.length:Int)):j.toNat+(l.length-j.toNat)<=(l.map f).length:=by grind
theorem ac1(f:a->List T)(l:List a)(i j:Int):(ng l i j).map f=(l.map f).take i.toNat++((l.map f).drop j.toNat).take (l.length-j.toNat)++(l.map f).drop (i.toNat+(l.length-j.toNat)):=by unfold ng eK;rw[ho,ho,tv,List.map_drop,List.map_drop,hS (l:=(l.map f).drop j.toNat) (by rw[fz,dn];omega)]
theorem PU(f:a->List T)(l r:List a){k:Nat}(e:0<k)(h:0<=i)(n:i<j)(o:j<=(l.length:Int))(c:r.length=l.length){m:Nat}(d:m=eK l i j):
  0<k/\(0:Int)<=(m:Int)/\(m:Int)<(l.length:Int)/\((0:Nat):Int)+(l.length:Int)<=((r.map f).length:Int)/\m=0+(m:Int).toNat/\l.length-m=(l.length:Int).toNat-(m:Int).toNat:=by rw[dn,c,d];unfold eK;omega
theorem adv(f:a->List T)(l:List a)(z:a)(d:0<=i)(k:i<j)(e:j<=(l.length:Int)):
  eK l i j+(l.length-eK l i j)<=((ng l i j).map f).length/\(jZ l i j z).map f=((ng l i j).map f).take (eK l i j)++List.replicate (l.length-eK l i j) (f z)++((ng l i j).map f).drop (eK l i j+(l.length-eK l i j)):=by
 have b8:=NA l d (O:i<=j) e;have c:(l.take i.toNat++l.drop j.toNat).length=eK l i j:=by
  unfold eK;simp only[List.length_append,List.length_take,List.length_drop];omega
 have h:eK l i j<=l.length:=by unfold eK;omega
 refine⟨by rw[dn,b8];omega,?_⟩;rw[kO (as:=(ng l i j).map f) (by rw[dn,b8];omega),kP,<-tv];unfold jZ ng;rw[ho,List.map_replicate,pT (by rw[c];exact cJ _),hS (l:=l.take i.toNat++l.drop j.toNat) (by rw[c];exact cJ _)]
theorem ac0(f:a->List T)(l:List a)(z:a)(d:0<=i)(e:i<j)(h:j<=(l.length:Int))(k: ¬j<(l.length:Int)):
  i.toNat+(l.length-i.toNat)<=(l.map f).length/\(jZ l i j z).map f=(l.map f).take i.toNat++List.replicate (l.length-i.toNat) (f z)++(l.map f).drop (i.toNat+(l.length-i.toNat)):=by
 refine⟨by rw[dn];omega,?_⟩;have c:eK l i j=i.toNat:=by unfold eK;omega
 unfold jZ;rw[c,kO (as:=l) (i:=j.toNat) O,kP,kO (as:=l.map f) (by rw[dn];omega),kP,ho,tv,List.map_replicate]
theorem PV(f:a->List T)(l:List a)(z:a)(c:0<=i)(d:i<j)(e:j<=(l.length:Int)):eK l i j=(((jZ l i j z).take (eK l i j)).map f).length:=by
 unfold jZ eK
 grind
theorem PW(l:List a)(c:j<=(l.length:Int))(d: ¬j<(l.length:Int)):i.toNat=eK l i j:=by unfold eK;omega
end
theorem v7(h:b6 l i x=some r)(y:a):b6 l i y=some (l.set i.toNat y):=by
 obtain⟨c,d,_⟩:=sZ h;unfold b6
 grind
theorem tV(h:b6 l i x=some r)(y:a):ar (l.set i.toNat y) i=some y:=by
 obtain⟨c,d,_⟩:=sZ h;unfold ar
 grind
theorem vZ(h:b6 l i x=some r)(y:a):b6 (l.set i.toNat y) i x=some r:=by obtain⟨c,d,rfl⟩:=sZ h;unfold b6;rw[a1 ⟨c,by rw[eR];exact d⟩,List.set_set]
theorem BR{a l:List R}{u:Unit}{x:R}(f:R->List T)(c:j7 a l=some u)(h:ar l i=some x):0<=i/\i<((a.map f).length:Int):=by have:=bw f h;rw[jk f c];exact this
theorem PC{a l:List R}{u:Unit}(f:R->List T)(c:j7 a l=some u):(a.map f).length=l.length:=(jk f c).trans (PD f l)
theorem Bm(h:b6 l i x=some r):ar r i=some x:=by
 obtain⟨c,d,rfl⟩:=sZ h;unfold ar
 grind
end Go.Lift
