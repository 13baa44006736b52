/- Tools. -/
import Derived.Test.YtlklcemjbgpcnaaGreatOStepB
set_option maxRecDepth 110000000
set_option linter.unusedVariables false
namespace Go.Lift
open Go
open Option renaming some -> aa, bind -> bH
open Bool renaming true -> ab, false -> ak, and_eq_true -> cx
open Decidable renaming decide -> ai
section
noncomputable def lh(p:Prog):List Step:=if b1 p=ab then oO p else []
theorem Il{p:Prog}: ∀x∈lh p,Dc x:=by
 intro x a;unfold lh at a;split at a
 ·rename_i c;have d:=xT c;unfold oO at a;simp only[List.mem_append,List.mem_singleton] at a;rcases a with ((a|a)|a)|rfl
  ·obtain⟨j,b,a⟩:=uf.1 a
   have:=qt.1 b;rcases eY.1 a with a|a
   ·obtain⟨k,_,rfl⟩:=eK.1 a;exact⟨Z,Z⟩
   obtain⟨k,_,rfl⟩:=eK.1 a;exact⟨Z,Z⟩
  ·obtain⟨j,b,a⟩:=uf.1 a
   have:=qt.1 b;simp only[List.mem_cons,List.not_mem_nil,or_false] at a;rcases a with rfl|rfl
   ·exact⟨Z,Z⟩
   exact⟨Z,Z⟩
  ·obtain⟨j,b,rfl⟩:=eK.1 a
   have:=qt.1 b;exact⟨Z,Z⟩
  exact⟨by decide,by decide⟩
 cases a
theorem PC{p:Prog}: ∀x∈lh p,ee 1100000 p:=by
 intro x a;unfold lh at a;split at a
 ·rename_i b;exact(jk b).mono (O:4<=1100000)
 cases a
theorem Oh(p:Prog):(lh p).length<=100:=by
 unfold lh;split
 ·rename_i a;exact(aea a).1
 simp
noncomputable def mN(p:Prog)(a:Int)(b:Step×Bool×Int)(x:Step):Step×Bool×Int:=
 if(iL p x).2=ab/\gp (iL p x).1 a<b.2.2 then(x,ab,gp (iL p x).1 a) else b
noncomputable def iq(p:Prog)(a:Int)(l:List Step):Step×Bool×Int:=l.foldl (mN p a) (⟨0,0,0,0⟩,ak,gp p a)
variable {p:Prog}{a:Int}{l:List Step}{k n:Nat}
theorem Gd{x:Step}:iq p a (l++[x])=mN p a (iq p a l) x:=by unfold iq;rw[List.foldl_append];rfl
def FC(p:Prog)(a:Int)(l:List Step)(r:Step×Bool×Int):Prop:=
 (r.2.1=ab->r.1∈l/\(iL p r.1).2=ab/\gp (iL p r.1).1 a=r.2.2/\r.2.2<gp p a)/\(r.2.1=ak->r.2.2=gp p a/\r.1=⟨0,0,0,0⟩)/\(∀x∈l,(iL p x).2=ab->r.2.2<=gp (iL p x).1 a)/\r.2.2<=gp p a
theorem agm{c:Int}{r:Step×Bool×Int}(h:FC p c l r)(x:Step):FC p c (l++[x]) (mN p c r x):=by
 have m:=h.2.2.2;unfold mN;by_cases k:(iL p x).2=ab/\gp (iL p x).1 c<r.2.2
 ·rw[bb k];have n:=k.2;refine⟨λ_=>⟨po _ (lO.2 rfl),k.1,rfl,Z⟩,λe=>(by cases e),λy d i=>?_,Z⟩;rcases eY.1 d with d|d
  ·have:=h.2.2.1 y d i
   grind
  rw[lO.1 d];exact gR _
 rw[a8 k];refine⟨λe=>?_,h.2.1,λy d i=>?_,m⟩
 ·obtain⟨a,b⟩:=h.1 e
  grind
 rcases eY.1 d with d|d
 ·exact h.2.2.1 y d i
 rw[lO.1 d] at i⊢
 grind
theorem Hs{a:Type}{l:List a}{x:a}(h:l[k]? =aa x):l.take (k+1)=l.take k++[x]:=by rw[eE,h];rfl
theorem BH(p:Prog)(a:Int)(l:List Step): ∀k,k<=l.length->FC p a (l.take k) (iq p a (l.take k))
 |0,_=>⟨λe=>(by cases e),λ_=>⟨rfl,rfl⟩,λ_ b=>(by cases b),gR _⟩
 |k+1,c=>by rw[Hs (bu (O:k<l.length)),Gd];exact agm (BH p a l k O) _
theorem af2(p:Prog)(size:Int): -1<=gp p size:=by
 unfold gp
 grind
theorem aco(h:0<=gp p a):0<=a/\a<=40:=by
 unfold gp at h
 grind
theorem ad8{size:Int}(a:b1 p=ab)(h:0<=size/\size<=40):0<=gp p size:=by unfold gp;rw[bb a,bb h];omega
theorem Oj(h:gp p a<0)(l:List Step)(c:k<=l.length):(iq p a (l.take k)).1=⟨0,0,0,0⟩/\(iq p a (l.take k)).2.1=ak:=by
 have a1:=BH p a l k c;cases b:(iq p a (l.take k)).2.1 with
 |false=>exact⟨(a1.2.1 b).2,rfl⟩
 |true=>
  obtain⟨_,_,d,e⟩:=a1.1 b
  have:=af2 (iL p (iq p a (l.take k)).1).1 a;omega
theorem acf(h:0<=gp p a)(l:List Step)(c:k<=l.length):0<=(iq p a (l.take k)).2.2:=by
 have a1:=BH p a l k c;cases b:(iq p a (l.take k)).2.1 with
 |false=>rw[(a1.2.1 b).1];exact h
 |true=>
  obtain⟨_,d,e,_⟩:=a1.1 b;rw[<-e];exact ad8 ((A' p _).v d) (aco h)
noncomputable def kD(p:Prog)(a:Int):Step×Bool:=((iq p a (lh p)).1,(iq p a (lh p)).2.1&&ai (0<=(iq p a (lh p)).2.2))
theorem acL(B:22000000<=n)(H:ho p)(o:Int):Ak n p o=aa (kD p o):=by
 unfold Ak;refine ae.eq (ag (FW B H o) (ag (UQ O H) ?_));rw[show(if b1 p=ab then oO p else [])=lh p from rfl];unfold kD;have dQ:= @Il p;have K:= @PC p;have r:=Oh p;generalize lh p=l at dQ K r⊢;refine ae.loop (λz:Int×Int×Int×Int×Bool×Int×Int=> ∃k:Nat,z.2.2.2.2.2.2=k/\k<=l.length/\((⟨z.1,z.2.1,z.2.2.1,z.2.2.2.1⟩:Step),z.2.2.2.2.1,z.2.2.2.2.2.1)=iq p o (l.take k)) (λz=>l.length-z.2.2.2.2.2.2.toNat) ?_ n _ ⟨0,rfl,O,rfl⟩ Z;rintro C ⟨a,b,c,d,f,m,i⟩ ⟨k,L,R,s⟩ Q;dsimp only at L s Q⊢;subst L;refine aW (λW=>?_) λX=>?_
 ·obtain⟨x,w⟩: ∃x,l[k]? =aa x:=⟨_,bu (O:k<l.length)⟩
  have D:=dQ x (bT w);have y:iq p o (l.take (k+1))=mN p o (iq p o (l.take k)) x:=by rw[Hs w,Gd]
  rw[<-s] at y;refine ae.aP (λz=>((⟨z.1,z.2.1,z.2.2.1,z.2.2.2.1⟩:Step),z.2.2.2.2.2.2.2.2.2.2.1,z.2.2.2.2.2.2.2.2.2.2.2)=iq p o (l.take (k+1))) (λj q=>?_) λz A=>?_
  ·refine ag (bl w) (ag (N8 B (K x (bT w)) D) (ae.cond (λF=>q _ ?_) λF=>ag (FW B (A' p x).RO.sm o) (aW (λG=>q _ ?_) λG=>q _ ?_)))
   ·rw[y];unfold mN;rw[a8 λe=>by simp[e.1] at F]
   ·rw[y];unfold mN;rw[bb ⟨by simpa using F,G⟩]
   rw[y];unfold mN;rw[a8 λe=>G e.2]
  obtain⟨v,E,I,M,N,P,S,T,U,g,t,u⟩:=z;dsimp only at A⊢;rw[a6 O];exact Q _ ⟨k+1,a7,O,A⟩ Z
 rw[hi O] at s;refine ae.aP (λz=>z=(f&&ai (0<=m))) (λj q=>ae.cond (λh=>q _ (by rw[h];rfl)) λh=>q _ (by rw[h];rfl)) λz A=>ae.some ?_;rw[A,<-s]
theorem abA(H:22000000<=n)(W:ho p)(o:Int):Ag n p o=aa (kD p o):=by
 unfold Ag;refine ae.eq (ag (FP H W o) (ag (UP O W) ?_));rw[show(if b1 p=ab then oO p else [])=lh p from rfl];unfold kD;have dQ:= @Il p;have X:= @PC p;have y:=Oh p;generalize lh p=l at dQ X y⊢;refine ae.loop (λz:Int×Int×Int×Int×Int×Bool×Int=> ∃k:Nat,z.2.2.2.2.2.2=k/\k<=l.length/\((⟨z.1,z.2.1,z.2.2.1,z.2.2.2.1⟩:Step),z.2.2.2.2.2.1,z.2.2.2.2.1)=iq p o (l.take k)) (λz=>l.length-z.2.2.2.2.2.2.toNat) ?_ n _ ⟨0,rfl,O,rfl⟩ Z;rintro K ⟨a,b,c,d,m,f,i⟩ ⟨k,g,A,s⟩ t;dsimp only at g s t⊢;subst g;refine ae.aP (λz:Bool=>z=ai ((k:Int)<l.length/\0<=m)) (λj w=>aW (λh=>w _ (by simp[h])) λh=>w _ (by simp[h])) λz B=>?_;refine ae.cond (λC=>?_) λD=>?_
 ·rw[B] at C;have u:=(fv C).1;obtain⟨x,F⟩: ∃x,l[k]? =aa x:=⟨_,bu (O:k<l.length)⟩
  have L:=dQ x (bT F);have G:iq p o (l.take (k+1))=mN p o (iq p o (l.take k)) x:=by rw[Hs F,Gd]
  rw[<-s] at G;refine ae.aP (λz=>((⟨z.1,z.2.1,z.2.2.1,z.2.2.2.1⟩:Step),z.2.2.2.2.2.2.2,z.2.2.2.2.2.2.1)=iq p o (l.take (k+1))) (λj w=>?_) λz B=>?_
  ·refine ag (bl F) (ag (NV H (X x (bT F)) L) (ae.cond (λq=>w _ ?_) λq=>ag (FP H (A' p x).RO.sm o) (aW (λr=>w _ ?_) λr=>w _ ?_)))
   ·rw[G];unfold mN;rw[a8 λe=>by simp[e.1] at q]
   ·rw[G];unfold mN;rw[bb ⟨by simpa using q,r⟩]
   rw[G];unfold mN;rw[a8 λe=>r e.2]
  obtain⟨E,I,M,N,P,S,T,U⟩:=z;dsimp only at B⊢;rw[a6 O];exact t _ ⟨k+1,a7,O,B⟩ Z
 rw[B] at D;have Q:=of_decide_eq_false D;refine ae.some ?_;by_cases v:0<=gp p o
 ·have q:=acf v l A;rw[<-s] at q;have R:l.length<=k:=by
   have: ¬((k:Int)<l.length):=λe=>Q ⟨e,q⟩;omega
  rw[hi R] at s;rw[<-s];dsimp only at q⊢;rw[bU q,Bool.and_true]
 have q:=Oj (O:gp p o<0) l A;have r:=Oj (O:gp p o<0) l (da _);rw[dR] at r;rw[<-s] at q;rw[r.1,r.2,Bool.false_and];exact Prod.ext q.1 q.2
end
section
noncomputable def nC(a:Int):Nat->Prog->List Step->Prog×List Step
 |0,q,l=>(q,l)
 |k+1,q,l=>if(kD q a).2=ab then nC a k (iL q (kD q a).1).1 (l++[(kD q a).1]) else(q,l)
noncomputable def q3(p:Prog)(a:Int):Prog×List Step×Bool:=if gp p a<0 then(⟨[],[]⟩,[],ak) else((nC a 12 p []).1,(nC a 12 p []).2,ab)
variable {p:Prog}{a:Int}{n:Nat}
theorem Pp(h:(kD p a).2=ab):(kD p a).1∈lh p/\(iL p (kD p a).1).2=ab:=by have b:=BH p a (lh p) _ (da _);rw[dR] at b;unfold kD at h⊢;simp only[cx] at h;exact⟨(b.1 h.1).1,(b.1 h.1).2.1⟩
theorem Qz(h:(kD p a).2=ab):b1 (iL p (kD p a).1).1=ab:=(A' p _).v (Pp h).2
theorem PW(a:Int): ∀(k:Nat) (q:Prog) (l:List Step),b1 q=ab->b1 (nC a k q l).1=ab/\(nC a k q l).2.length<=l.length+k
 |0,q,l,h=>⟨h,da _⟩
 |k+1,q,l,h=>by
  simp only[nC];split
  ·rename_i b
   have:=PW a k _ (l++[(kD q a).1]) (Qz b);exact⟨this.1,by have:=this.2;rw[dm,nu] at this;omega⟩
  exact⟨h,by show l.length<=_;omega⟩
theorem Iy(h: ¬gp p a<0):b1 p=ab:=by
 cases b:b1 p with
 |true=>rfl
 |false=>exact bs (by unfold gp;rw[a8 (by rw[b];simp)];omega) h
theorem PX(g:22000000<=n){R:Type}{Q:R->Prop}{c:Int}{best:Prog->Option (Step×Bool)}{step:Prog->Step->Option (Prog×Bool)}(F: ∀q,b1 q=ab->best q=aa (kD q c))(G: ∀q s,b1 q=ab->Dc s->step q s=aa (iL q s))
  {K:List ch×List Part×List Step->Option R}  (H:b1 p=ab) (D: ∀a b l,b1 ⟨a,b⟩=ab->((⟨a,b⟩:Prog),l)=nC c 12 p []->ae (K (a,b,l)) Q):
  ae (bk (λd ((o,r,w):(List ch)×(List Part)×(List Step))=>
    bif ai ((w.length:Int)<12) then(
     bH (best (⟨o,r⟩:Prog)) λx=>
     bif !x.2 then(
      K (o,r,w)
     ) else(
      bH (step (⟨o,r⟩:Prog) x.1) λi=>
      bH (app w [x.1]) λy=>
      d (i.1.bc,i.1.parts,y)
     )
    ) else(
     K (o,r,w)
    )
   ) n (p.bc,p.parts,[])) Q:=by
 refine ae.loop (λz:List ch×List Part×List Step=>z.2.2.length<=12/\b1 ⟨z.1,z.2.1⟩=ab/\nC c (12-z.2.2.length) ⟨z.1,z.2.1⟩ z.2.2=nC c 12 p []) (λz=>12-z.2.2.length) ?_ n _ ⟨a7,H,rfl⟩ Z;rintro A ⟨a,b,l⟩ ⟨L,m,e⟩ W;dsimp only at L m e⊢;refine aW (λB=>?_) λX=>D a b l m ?_
 ·have B:l.length<12:=O
  obtain⟨k,f⟩: ∃k,12-l.length=k+1:=⟨12-l.length-1,O⟩
  rw[f] at e;simp only[nC] at e;refine ag (F _ m) (ae.cond (λh=>D a b l m ?_) λh=>?_)
  ·rw[a8 (by simpa using h)] at e;exact e
  have C:(kD ⟨a,b⟩ c).2=ab:=by simpa using h
  rw[bb C] at e;refine ag (G _ _ m (Il _ (Pp C).1)) (ag (dr b6) (W _ ⟨b6,Qz C,?_⟩ b6));dsimp only;rw[dm,nu,show 12-(l.length+1)=k by omega];exact e
 have:12-l.length=0:=O
 rw[this] at e;exact e
theorem adQ(d:22000000<=n)(m:ho p)(c:Int):vC n p c=aa (q3 p c):=by
 unfold vC q3;refine ae.eq (ag (FW d m c) (aW (λh=>ae.some (by rw[bb h])) λh=>?_));rw[a8 h];have bZ:=Iy h;refine ag (pD O bZ) (ae.aP (λz=>b1 ⟨z.1,z.2.1⟩=ab/\((⟨z.1,z.2.1⟩:Prog),z.2.2)=nC c 12 p []) (λj o=>?_) λz r=>?_)
 ·exact PX d (best:=λq=>Ak n q c) (step:=λq s=>wI n q s) (K:=j) (λq k=>acL d ((jk k).mono (O:4<=1100000)).sm c) (λq s k w=>N8 d ((jk k).mono O) w) bZ λa b l e i=>o _ ⟨e,i⟩
 obtain⟨a,b,l⟩:=z;obtain⟨e,i⟩:=r;dsimp only at e i⊢;exact ag (pD O e) (ae.some (by rw[<-i]))
theorem adS(d:22000000<=n)(i:ho p)(k:i' n p=aa p)(c:Int):DW n p c=aa (q3 p c):=by unfold DW q3;refine ae.eq (ag k (ag (FP d i c) (aW (λh=>ae.some (by rw[bb h])) λh=>?_)));rw[a8 h];have bZ:=Iy h;refine ag (oV O ((jk bZ).mono O)) ?_;exact PX d (best:=λq=>Ag n q c) (step:=λq s=>wG n q s) (K:=λz=>aa ((⟨z.1,z.2.1⟩:Prog),z.2.2,ab)) (λq e=>abA d ((jk e).mono (O:4<=1100000)).sm c) (λq s e m=>NV d ((jk e).mono O) m) bZ λa b l r o=>ae.some (by rw[<-o])
end
set_option maxRecDepth 100000
def j9(B:Nat)(a:aF):Prop:=a.aU.length<=B
def kN(B:Nat)(l:List aF):Prop:=l.length<=B/\ ∀a∈l,j9 B a
def oC(B:Nat)(a:cw):Prop:=a.array.length<=B/\kN B a.bB
def iZ(B:Nat):Nat->Expr->Prop
 |0,_=>False
 |m+1,e=>j9 B e.index/\oC B e.read/\e.bm.length<=B/\ ∀k∈e.bm,iZ B m k
def oE(B m:Nat)(s:Stmt):Prop:=oC B s.write/\iZ B m s.value
def oD(B:Nat)(l:Loop):Prop:=kN B l.lo/\kN B l.aJ
def ss(B m:Nat)(x:Part):Prop:=(x.nest.length<=B/\ ∀l∈x.nest,oD B l)/\x.body.length<=B/\ ∀s∈x.body,oE B m s
def pI(B:Nat)(x:ch):Prop:=x.name.length<=B/\x.b7.length<=B
def kO(B m:Nat)(p:Prog):Prop:=(p.bc.length<=B/\ ∀x∈p.bc,pI B x)/\p.parts.length<=B/\ ∀x∈p.parts,ss B m x
theorem Rt: ∀{m:Nat} {e:Expr},iZ 1048576 m e-> ∀j,uH j e
 |0,e,h,_=>h.elim
 |m+1,e,h,0=>trivial
 |m+1,e,h,j+1=>by
  obtain⟨c,b,n,d⟩:=h;unfold j9 at c;refine⟨O,?_,⟨?_,λa i=>?_⟩,λk l=>Rt (d k l) j⟩
  ·unfold iE;omega
  ·have:=b.2.1;omega
  have:=b.2.2 a i;unfold j9 at this;unfold iE;omega
variable {l:List aF}{m C D i n B:Nat}{p:Prog}{w v:Int->Option Int}{P Q:Prop}{k b gz:Int}{x:Part}{R:Type}{g:R->Int->Option Int}{c:R->Nat}{s:Stmt}{a:List R}
theorem I5(h:kN 1048576 l):ke l:=⟨by have:=h.1;omega,λa b=>by have:=h.2 a b;unfold j9 at this;unfold iE;omega⟩
theorem Rs(h:kO 1048576 m p):ho p:=by obtain⟨⟨n,i⟩,o,k⟩:=h;refine⟨⟨O,λx a=>by have:=(i x a).2;omega⟩,O,λx a=>?_⟩;obtain⟨⟨q,b⟩,r,c⟩:=k x a;exact⟨⟨O,λl d=>⟨I5 (b l d).1,I5 (b l d).2⟩⟩,O,λs e=>⟨I5 (c s e).1.2,Rt (c s e).2 _⟩⟩
def fa{a:Type}(c:a->Nat)(l:List a):Nat:=l.length+(l.map c).sum
def mi(a:aF):Nat:=a.aU.length
def tB(a:cw):Nat:=fa mi a.bB
def n':Nat->Expr->Nat
 |0,_=>0
 |m+1,e=>mi e.index+(tB e.read+fa (n' m) e.bm)
def rG(m:Nat)(s:Stmt):Nat:=tB s.write+n' m s.value
def rE(l:Loop):Nat:=fa mi l.lo+fa mi l.aJ
def tD(m:Nat)(x:Part):Nat:=fa rE x.nest+fa (rG m) x.body
def tE(x:ch):Nat:=x.b7.length
def tC(m:Nat)(p:Prog):Nat:=fa tE p.bc+fa (tD m) p.parts
def e3(w:Int->Option Int)(C:Nat)(P:Prop):Prop:= ∀left:Int,0<=left->left<=1048576-> ∃r,w left=aa r/\(r= -1\/(0<=r/\r+C<=left/\P))
theorem e3.mono(h:e3 w C P)(d:D<=C)(k:P->Q):e3 w D Q:=λleft a b=>by obtain⟨r,e,c⟩:=h left a b;exact⟨r,e,c.imp id λh=>⟨h.1,O,k h.2.2⟩⟩
theorem e3.two(h:e3 w C P)(k:e3 v D Q):e3 (λleft=>bH (w left) λa=>bif ai (a<0) then aa (-1) else v a) (C+D) (P/\Q):=λleft b c=>by
 obtain⟨r,e,d⟩:=h left b c;dsimp only;rw[e];rcases d with rfl|⟨i,q,l⟩
 ·exact⟨-1,rfl,.inl rfl⟩
 obtain⟨s,m,n⟩:=k r i O;refine⟨s,?_,?_⟩
 ·show(bif ai (r<0) then aa (-1) else v r)=aa s;rw[bR O];exact m
 rcases n with rfl|⟨o,x,p⟩
 ·exact .inl rfl
 exact .inr ⟨o,O,l,p⟩
theorem e3.end(h:e3 w C P):e3 (λleft=>bH (w left) λa=>bif ai (a<0) then aa (-1) else aa a) C P:=
 (h.two (v:=λx=>aa x) (D:=0) (Q:=True) λleft b _=>⟨left,rfl,.inr ⟨b,O,trivial⟩⟩).mono (da _) And.left
theorem e3.len{k:Nat}(i:k<=9223372036854775807)(h:e3 v D Q):e3 (λleft=>bif ai (wr (left-(k:Int))<0) then aa (-1) else v (wr (left-(k:Int)))) (k+D) (k<=1048576/\Q):=λleft l m=>by
 dsimp only;rw[a6 O];by_cases a:left-(k:Int)<0
 ·rw[bU a];exact⟨-1,rfl,.inl rfl⟩
 rw[bR a];obtain⟨s,e,b⟩:=h (left-(k:Int)) O O;refine⟨s,e,?_⟩;rcases b with rfl|⟨c,n,d⟩
 ·exact .inl rfl
 exact .inr ⟨c,O,O,d⟩
theorem OE{a:Type}{l:List a}{x:a}(c:a->Nat)(h:l[i]? =aa x):((l.take (i+1)).map c).sum=((l.take i).map c).sum+c x:=by rw[fS h];simp
theorem ag0{P:R->Prop}(X:a.length<=1048576)(f:2000000<=n)(A: ∀x∈a,e3 (g x) (c x) (P x)):
  e3 (λleft=>bk (λb ((q,k):Int×Int)=>
   bif ai (k<(a.length:Int)) then(
    bH (aD a k) λB=>
    bH (g B q) λw=>
    bif ai (w<0) then(
     aa (-1)
    ) else(
     b (w,wr (k+1))
    )
   ) else(
    aa q
   )
  ) n (left,0)) (a.map c).sum (∀x∈a,P x):=λleft C t=>by
 refine ae.loop (Q:=λr=>r= -1\/(0<=r/\r+((a.map c).sum:Nat)<=left/\ ∀x∈a,P x)) (λz:Int×Int=> ∃j:Nat,z.2=j/\j<=a.length/\0<=z.1/\z.1+(((a.take j).map c).sum:Nat)<=left/\ ∀x∈a.take j,P x) (λz=>a.length-z.2.toNat) ?_ n _ ⟨0,rfl,O,C,a7,λx d=>by simp at d⟩ Z;rintro l ⟨D,u⟩ ⟨j,rfl,v,m,o,p⟩ F;dsimp only at m o⊢;refine aW (λG=>?_) λH=>ae.some (.inr ⟨m,by rw[hi O] at o;exact o,by rw[hi O] at p;exact p⟩);have d:=bu (O:j<a.length);generalize a[j]=x at d;obtain⟨s,e,K⟩:=A x (bT d) D m O;refine ag (bl d) (ag e ?_);rcases K with rfl|⟨L,E,W⟩
 ·exact aW (λ_=>ae.some (.inl rfl)) λh=>bs h (by decide)
 refine aW (λh=>bs h O) λ_=>?_;rw[a6 O];refine F _ ⟨j+1,Z,O,L,by dsimp only;rw[OE c d];omega,λy i=>?_⟩ Z;rw[fS d] at i;rcases eY.1 i with i|i
 ·exact p y i
 rw[lO.1 i];exact W
theorem uQ{P:R->Prop}(i:a.length<=9223372036854775807)(k:2000000<=n)(l: ∀x∈a,e3 (g x) (c x) (P x)):
  e3 (λleft=>bif ai (wr (left-(a.length:Int))<0) then aa (-1) else bk (λb ((e,d):Int×Int)=>
   bif ai (d<(a.length:Int)) then(
    bH (aD a d) λm=>
    bH (g m e) λh=>
    bif ai (h<0) then(
     aa (-1)
    ) else(
     b (h,wr (d+1))
    )
   ) else(
    aa e
   )
  ) n (wr (left-(a.length:Int)),0)) (fa c a) (a.length<=1048576/\ ∀x∈a,P x):=λleft o p=>by
 by_cases q:a.length<=1048576
 ·exact(e3.len i (ag0 q k l)) left o p
 dsimp only;rw[a6 O,bU O];exact⟨-1,rfl,.inl rfl⟩
theorem Qg{a:List Int}(h:a.length<=9223372036854775807):e3 (Ca n a) a.length (a.length<=1048576):=by have:=(e3.len h (v:=λx=>aa x) (D:=0) (Q:=True) λleft b _=>⟨left,rfl,.inr ⟨b,O,trivial⟩⟩).mono (da _) And.left;exact this
theorem agZ{a:ch}(h:pI 9223372036854775807 a):e3 (GP n a) (tE a) (pI 1048576 a):=(e3.len h.1 ((Qg h.2).end)).mono (Nat.le_add_left _ _) id
theorem aew(b:2000000<=n){a:List ch}(h:a.length<=9223372036854775807)(c: ∀x∈a,pI 9223372036854775807 x):e3 (Gs n a) (fa tE a) (a.length<=1048576/\ ∀x∈a,pI 1048576 x):=uQ h b λx d=>agZ (c x d)
theorem QG{a:aF}(h:j9 9223372036854775807 a):e3 (Ax n a) (mi a) (j9 1048576 a):=(Qg h).end
theorem Ib(b:2000000<=n){a:List aF}(h:kN 9223372036854775807 a):e3 (zT n a) (fa mi a) (kN 1048576 a):=uQ h.1 b λx c=>QG (h.2 x c)
theorem QH(b:2000000<=n){a:cw}(h:oC 9223372036854775807 a):e3 (Ay n a) (tB a) (oC 1048576 a):=(e3.len h.1 ((Ib b h.2).end)).mono (Nat.le_add_left _ _) id
theorem Qh: ∀(m n:Nat) {e:Expr},2000000+m<=n->iZ 9223372036854775807 m e->e3 (r6 n e) (n' m e) (iZ 1048576 m e)
 |0,n,e,_,h=>h.elim
 |m+1,n,e,r,h=>by
  obtain⟨n,rfl⟩: ∃j,n=j+1:=⟨n-1,O⟩
  obtain⟨l,o,p,q⟩:=h;have i:e3 (GO n (r6 n) e.bm) (fa (n' m) e.bm) (e.bm.length<=1048576/\ ∀k∈e.bm,iZ 1048576 m k):=uQ p O λk i=>Qh m n O (q k i);exact e3.mono ((QG (n:=n) l).two ((QH (n:=n) O o).two i.end)) (da _) (λ⟨a,b,c,d⟩=>⟨a,b,c,d⟩)
theorem ae1(a:2000000+m<=n)(h:oE 9223372036854775807 m s):e3 (Hm n s) (rG m s) (oE 1048576 m s):=(QH O h.1).two ((Qh m n a h.2).end)
theorem ac8(b:2000000+m<=n){a:List Stmt}(h:a.length<=9223372036854775807)(c: ∀x∈a,oE 9223372036854775807 m x):e3 (GM n a) (fa (rG m) a) (a.length<=1048576/\ ∀x∈a,oE 1048576 m x):=uQ h O λx d=>ae1 b (c x d)
theorem Vg(a:2000000<=n){l:Loop}(h:oD 9223372036854775807 l):e3 (Ho n l) (rE l) (oD 1048576 l):=(Ib a h.1).two ((Ib a h.2).end)
theorem agY(b:2000000<=n){a:List Loop}(h:a.length<=9223372036854775807)(c: ∀x∈a,oD 9223372036854775807 x):e3 (GN n a) (fa rE a) (a.length<=1048576/\ ∀x∈a,oD 1048576 x):=uQ h b λx d=>Vg b (c x d)
theorem aev(a:2000000+m<=n)(h:ss 9223372036854775807 m x):e3 (Hn n x) (tD m x) (ss 1048576 m x):=(agY O h.1.1 h.1.2).two ((ac8 a h.2.1 h.2.2).end)
theorem aeu(a:2000000+m<=n)(h:kO 9223372036854775807 m p):e3 (FL n p) (tC m p) (kO 1048576 m p):=
 (aew O h.1.1 h.1.2).two (e3.end (uQ h.2.1 O λx b=>aev a (h.2.2 x b)))
theorem tR{g:R->Option R}{z:R}(A:a.length<=1048576)(B:2000000<=n)(o: ∀x∈a,g x=aa x):
  (bH (mk (a.length:Int) z) λp=>
 bk (λc ((l,h):(List R)×Int)=>
  bif ai (h<(a.length:Int)) then(
   bH (aD a h) λq=>
   bH (g q) λr=>
   bH (aD l h) λC=>
   bH (cn l h r) λs=>
   c (s,wr (h+1))
  ) else(
   aa l
  )
 ) n (p,0))=aa a:=by
 refine ae.eq (ag (Jd ⟨O,O⟩ z) (ae.loop (λx:List R×Int=> ∃j:Nat,x.2=j/\j<=a.length/\x.1=a.take j++List.replicate (a.length-j) z) (λx=>a.length-x.2.toNat) ?_ n _ ⟨0,rfl,O,a7⟩ Z));rintro m ⟨b,i⟩ ⟨j,rfl,D,rfl⟩ w;dsimp only;have d:(a.take j++List.replicate (a.length-j) z).length=a.length:=b6
 refine aW (λe=>?_) λy=>ae.some (by rw[show a.length-j=0 by omega,hi O];simp);have e:j<a.length:=O
 have k:=bu e;generalize a[j]=x at k;refine ag (bl k) (ag (o x (bT k)) (ag (bl (bu (show j<_ by rw[d];exact e))) (ag (dP (by rw[d];omega) _) ?_)));rw[a6 O,c8];refine w _ ⟨j+1,Z,O,?_⟩ Z;dsimp only;rw[fS k,mv _ _ (by rw[c7];omega),c7,ug O,lP,show a.length-j=(a.length-(j+1))+1 by omega,List.replicate_succ,r3];simp
theorem Qc(b:2000000<=n){a:List Int}(h:a.length<=1048576):xF n a=aa a:=by
 unfold xF
 have:=tR (z:=(0:Int)) (g:=λx=>aa x) h b λx _=>rfl;exact this
theorem QE(b:2000000<=n){a:aF}(h:j9 1048576 a):Aa n a=aa a:=by unfold Aa;rw[Qc b h];rfl
theorem Ia(b:2000000<=n){a:List aF}(h:kN 1048576 a):zS n a=aa a:=tR h.1 b λx c=>QE b (h.2 x c)
theorem QF(b:2000000<=n){a:cw}(h:oC 1048576 a):Ab n a=aa a:=by unfold Ab;rw[Ia b h.2];rfl
theorem agW(b:2000000<=n){a:ch}(h:pI 1048576 a):A8 n a=aa a:=by unfold A8;rw[Qc b h.2];rfl
theorem Qd: ∀(m n:Nat) {e:Expr},2000000+m<=n->iZ 1048576 m e->qz n e=aa e
 |0,n,e,_,h=>h.elim
 |m+1,n,e,l,h=>by
  obtain⟨n,rfl⟩: ∃j,n=j+1:=⟨n-1,O⟩
  obtain⟨b,c,d,i⟩:=h;have a:GL n (qz n) e.bm=aa e.bm:=tR d O λk a=>Qd m n O (i k a);unfold qz;rw[QE O b,QF O c,a];cases e;rfl
theorem aeY(a:2000000+m<=n)(h:oE 1048576 m s):B8 n s=aa s:=by unfold B8;rw[QF O h.1,Qd m n a h.2];rfl
theorem ac7(b:2000000+m<=n){a:List Stmt}(h:a.length<=1048576)(c: ∀x∈a,oE 1048576 m x):GI n a=aa a:=tR h O λx d=>aeY b (c x d)
theorem Ve(a:2000000<=n){l:Loop}(h:oD 1048576 l):B' n l=aa l:=by unfold B';rw[Ia a h.1,Ia a h.2];rfl
theorem agV(b:2000000<=n){a:List Loop}(h:a.length<=1048576)(c: ∀x∈a,oD 1048576 x):GK n a=aa a:=tR h b λx d=>Ve b (c x d)
theorem ae0(a:2000000+m<=n)(h:ss 1048576 m x):B9 n x=aa x:=by unfold B9;rw[agV O h.1.1 h.1.2,ac7 a h.2.1 h.2.2];rfl
theorem aeZ(b:2000000+m<=n)(h:kO 1048576 m p):tG n p=aa p:=by unfold tG;rw[show Gr n p.bc=aa p.bc from tR h.1.1 O (λx a=>agW O (h.1.2 x a)),show GJ n p.parts=aa p.parts from tR h.2.1 O λx a=>ae0 b (h.2.2 x a)];rfl
theorem sA{g:R->R->Option Bool}(q:a.length<=1048576)(r:2000000<=n)(h: ∀x∈a,g x x=aa ab):
  (bif !decide ((a.length:Int)=(a.length:Int)) then(
  aa ak
 ) else(
  bk (λb (c:Int)=>
   bif ai (c<(a.length:Int)) then(
    bH (aD a c) λk=>
    bH (aD a c) λl=>
    bH (g k l) λm=>
    bif !m then(
     aa ak
    ) else(
     b (wr (c+1))
    )
   ) else(
    aa ab
   )
  ) n 0
 ))=aa ab:=by rw[bU rfl];refine ae.eq (b3 (ae.loop (λx:Int=> ∃j:Nat,x=j/\j<=a.length) (λx=>a.length-x.toNat) ?_ n _ ⟨0,rfl,O⟩ O));rintro d i ⟨j,rfl,s⟩ o;refine aW (λp=>?_) λ_=>ae.some rfl;have e:=bu (O:j<a.length);refine ag (bl e) (ag (bl e) (ag (h _ (bT e)) ?_));rw[a6 O];exact b3 (o _ ⟨j+1,O,O⟩ O)
theorem Qo(k:2000000<=n){a:List Int}(h:a.length<=1048576):xG n a a=aa ab:=by unfold xG;rw[bU rfl];refine ae.eq (b3 (ae.loop (λx:Int=> ∃j:Nat,x=j/\j<=a.length) (λx=>a.length-x.toNat) ?_ n _ ⟨0,rfl,O⟩ O));rintro b i ⟨j,rfl,l⟩ d;refine aW (λe=>?_) λ_=>ae.some rfl;have c:=bu (O:j<a.length);refine ag (bl c) (ag (bl c) (dF (λh=>bs rfl h) λ_=>?_));rw[a6 O];exact d _ ⟨j+1,O,O⟩ O
theorem Rh(b:2000000<=n){a:aF}(h:j9 1048576 a):Ac n a a=aa ab:=by unfold Ac;rw[Qo b h];exact ae.eq (ag rfl (b3 (dF (λh=>bs rfl h) λ_=>ae.some rfl)))
theorem HV(b:2000000<=n){a:List aF}(h:kN 1048576 a):zV n a a=aa ab:=sA h.1 b λx c=>Rh b (h.2 x c)
theorem Q1(b:2000000<=n){a:cw}(h:oC 1048576 a):Ad n a a=aa ab:=by unfold Ad;exact ae.eq (dF (λh=>bs rfl h) λ_=>ag (HV b h.2) (ae.some rfl))
theorem ago(b:2000000<=n){a:ch}(h:pI 1048576 a):A9 n a a=aa ab:=by unfold A9;exact ae.eq (dF (λh=>bs rfl h) λ_=>ag (Qo b h.2) (ae.some rfl))
theorem Qp: ∀(m n:Nat) {e:Expr},2000000+m<=n->iZ 1048576 m e->qy n e e=aa ab
 |0,n,e,_,h=>h.elim
 |m+1,n,e,l,h=>by
  obtain⟨n,rfl⟩: ∃j,n=j+1:=⟨n-1,O⟩
  obtain⟨b,c,d,i⟩:=h;have a:GU n (qy n) e.bm e.bm=aa ab:=sA d O λk a=>Qp m n O (i k a);unfold qy;exact ae.eq (dF (λh=>bs rfl h) λ_=>dF (λh=>bs rfl h) λ_=>ag (Rh O b) (b3 (ag (Q1 O c) (b3 (ag a (b3 (ae.some rfl)))))))
theorem afC(a:2000000+m<=n)(h:oE 1048576 m s):Cb n s s=aa ab:=by unfold Cb;exact ae.eq (ag (Q1 O h.1) (b3 (ag (Qp m n a h.2) (b3 (ae.some rfl)))))
theorem VO(a:2000000<=n){l:Loop}(h:oD 1048576 l):Cd n l l=aa ab:=by unfold Cd;exact ae.eq (ag (HV a h.1) (b3 (ag (HV a h.2) (b3 (ae.some rfl)))))
theorem afD(a:2000000+m<=n)(h:ss 1048576 m x):Cc n x x=aa ab:=by unfold Cc;exact ae.eq (ag (show GS n x.nest x.nest=aa ab from sA h.1.1 O λl b=>VO O (h.1.2 l b)) (b3 (ag (show GQ n x.body x.body=aa ab from sA h.2.1 O λs c=>afC a (h.2.2 s c)) (b3 (ae.some rfl)))))
theorem Qn(b:2000000+m<=n)(h:kO 1048576 m p):tJ n p p=aa ab:=by unfold tJ;exact ae.eq (ag (show Gt n p.bc p.bc=aa ab from sA h.1.1 O λx a=>ago O (h.1.2 x a)) (b3 (ag (show GR n p.parts p.parts=aa ab from sA h.2.1 O λx a=>afD b (h.2.2 x a)) (b3 (ae.some rfl)))))
theorem Fi(q:2000000<=n)(l:0<=k)(d:k<=1099511627776): ∃t,d5 n k=aa t:=by
 have:ae (d5 n k) (λ_=>True):=by
  unfold d5;refine aW (λ_=>ae.some trivial) λ_=>?_;refine ae.loop (λz:Int×List UInt8=> ∃j:Nat,z.2.length=j/\0<=z.1/\z.1<=1099511627776/\j<=13/\z.1<10^(13-j)) (λz=>14-z.2.length) ?_ n _ ⟨0,rfl,l,d,O,Int.lt_of_le_of_lt d (by decide)⟩ Z;rintro c ⟨r,s⟩ ⟨j,e,i,m,w,b⟩ o;dsimp only at e i b m⊢;refine aW (λx=>?_) λ_=>ag (Q6 b6) (ae.some trivial);have p:j<13:=by
   apply oj;intro h;rw[show 13-j=0 by omega] at b
   have:(10:Int)^0=1:=by decide
   omega
  refine ag (Q6 b6) ?_;rw[Int.tdiv_eq_ediv_of_nonneg i,a6 O];refine o _ ⟨j+1,by simp[e],Z,Z,O,?_⟩ b6;dsimp only;have a:(10:Int)^(13-j)=10^(13-(j+1))*10:=by rw[<-Int.pow_succ];congr 1;omega
  rw[a] at b;exact Int.ediv_lt_of_lt_mul (by decide) b
 obtain⟨t,h,_⟩:=this;exact⟨t,h⟩
def np(k:Int)(m:Nat):List Int:=(List.range m).map λi:Nat=>k+i
theorem r5(k:Int)(m:Nat):(np k m).length=m:=by simp[np]
theorem afe(h:i<m):(np k m)[i]? =aa (k+i):=by simp[np,h]
theorem adk(k:Int)(m:Nat):np k (m+1)=np k m++[k+m]:=by simp[np,List.range_succ]
theorem Fj(m:2000000<=n){a:List Int}(o:a.length<=1048576)(p:0<=k)(q:k+a.length<=1099511627776):tP n a k=aa (k+a.length,np k a.length):=by
 unfold tP;refine ae.eq (ae.loop (λz:Int×List Int×Int=> ∃j:Nat,z.2.2=j/\j<=a.length/\z.1=k+j/\z.2.1=np k j++a.drop j) (λz=>a.length-z.2.2.toNat) ?_ n _ ⟨0,rfl,O,a7,by simp[np]⟩ Z);rintro d ⟨ct,l,i⟩ ⟨j,rfl,r,rfl,rfl⟩ h;dsimp only;have c:(np k j++a.drop j).length=a.length:=by simp[r5];omega
 refine aW (λb=>?_) λe=>?_
 ·have b:j<a.length:=by rw[c] at b;omega
  refine ag (bl (bu (show j<_ by rw[c];exact b))) (ag (dP (by rw[c];omega) _) ?_);rw[a6 O,a6 O,c8];refine h _ ⟨j+1,Z,O,Z,?_⟩ Z;dsimp only;rw[mv _ _ (by rw[r5];omega),r5,lP,jJ b,r3,adk,fF];rfl
 have:j=a.length:=by rw[c] at e;omega
 subst this;exact ae.some a7
def mF{a:Type}(B:(Int×Int->Option Int)->a->Int->Int->Option Int)(k:Int)(y:a)(c:Int):Prop:= ∀(b:Int×Int->Option Int) (Q:Int->Prop) (j:Nat),j<=1048576->ae (b (c,(j:Int)+1)) Q->ae (B b y k j) Q
inductive jL {α:Type} (H:Int->α->Int->Prop):Int->List α->Int->Prop
 |nil (k:Int):jL H k [] k
 |cons {k cE gz:Int} {x:α} {l:List α} (h:H k x cE) (t:jL H cE l gz):jL H k (x::l) gz
theorem jL.snoc{a:Type}{H:Int->a->Int->Prop}{x:a}{l:List a}(t:jL H k l b)(h:H b x gz):jL H k (l++[x]) gz:=by
 induction t with
 |nil k=>exact .cons h (.nil _)
 |cons g _ c=>exact .cons g (c h)
theorem xe{a:Type}{B:(Int×Int->Option Int)->a->Int->Int->Option Int}{l:List a}(s:2000000<=n)(w:l.length<=1048576)(c:jL (mF B) k l gz):
  bk (λb ((o,m):Int×Int)=>bif ai (m<(l.length:Int)) then(bH (aD l m) λp=>B b p o m) else(aa o)) n (k,0)=aa gz:=by
 refine ae.eq (ae.loop (λz:Int×Int=> ∃j:Nat,z.2=j/\j<=l.length/\jL (mF B) z.1 (l.drop j) gz) (λz=>l.length-z.2.toNat) ?_ n _ ⟨0,rfl,O,c⟩ Z);rintro d ⟨ct,i⟩ ⟨j,rfl,x,c⟩ q;dsimp only at c⊢;refine aW (λe=>?_) λr=>?_
 ·have e:j<l.length:=O
  refine ag (bl (bu e)) ?_;rw[jJ e] at c;cases c with
  |cons h t=>exact h d _ j O (q _ ⟨j+1,Z,O,t⟩ Z)
 rw[kE O] at c;cases c;exact ae.some rfl
theorem Cl(e:2000000<=n)(l:m<=1048576)(o:0<=k)(p:k+m<=1099511627776):nV n (np k m) k=aa (k+m):=by unfold nV;refine ae.eq (ae.loop (λz:Int×Int=> ∃j:Nat,z.2=j/\j<=m/\z.1=k+j) (λz=>m-z.2.toNat) ?_ n _ ⟨0,rfl,O,a7⟩ Z);rintro a ⟨ct,i⟩ ⟨j,rfl,q,rfl⟩ b;dsimp only;rw[r5];refine aW (λc=>?_) λd=>ae.some (O:k+(j:Int)=k+(m:Int));refine ag (bl (afe O)) (dF (λh=>bs rfl h) λ_=>?_);rw[a6 O,a6 O];exact b _ ⟨j+1,Z,O,Z⟩ Z
def Sn(n:Nat)(a:Int×Int->Option Int)(b:ch)(c e:Int):Option Int:=bH (d5 n c) λh=>bif !decide (b.name=h) then aa (-1) else(bH (nV n b.b7 (wr (c+1))) λd=>bif ai (d<0) then aa (-1) else(a (d,wr (e+1))))
theorem VI(a:2000000<=n)(l:List ch)(k gz:Int)(b:l.length<=1048576)(c:jL (mF (Sn n)) k l gz):m6 n l k=aa gz:=by unfold m6;exact xe a b c
def Sj(n:Nat)(a:Int×Int->Option Int)(c:aF)(d e:Int):Option Int:=bH (nV n c.aU d) λb=>bif ai (b<0) then aa (-1) else(bif !decide (c.const=b) then aa (-1) else(a (wr (b+1),wr (e+1))))
theorem VJ(a:2000000<=n)(l:List aF)(k gz:Int)(b:l.length<=1048576)(c:jL (mF (Sj n)) k l gz):kV n l k=aa gz:=by unfold kV;exact xe a b c
def Sl(n:Nat)(a:Int×Int->Option Int)(b:Loop)(e h:Int):Option Int:=bH (kV n b.lo e) λc=>bif ai (c<0) then aa (-1) else(bH (kV n b.aJ c) λd=>bif ai (d<0) then aa (-1) else(a (d,wr (h+1))))
theorem agL(a:2000000<=n)(l:List Loop)(k gz:Int)(b:l.length<=1048576)(c:jL (mF (Sl n)) k l gz):tI n l k=aa gz:=by unfold tI;exact xe a b c
def Sk(n:Nat)(a:Int×Int->Option Int)(b:Expr)(d i:Int):Option Int:=bif !decide (b.kind=d) then aa (-1) else(bif !decide (b.num=wr (d+1)) then aa (-1) else(bH (nV n b.index.aU (wr ((wr (d+1))+1))) λc=>bif ai (c<0) then aa (-1) else(bif !decide (b.index.const=c) then aa (-1) else(bH (d5 n (wr (c+1))) λk=>bif !decide (b.read.array=k) then aa (-1) else(bH (kV n b.read.bB (wr ((wr (c+1))+1))) λe=>bif ai (e<0) then aa (-1) else(bH (nw n b.bm e) λh=>bif ai (h<0) then aa (-1) else(a (h,wr (i+1)))))))))
theorem QR(a:2000000<=n)(l:List Expr)(k gz:Int)(b:l.length<=1048576)(c:jL (mF (Sk n)) k l gz):nw (n+1) l k=aa gz:=by rw[nw.eq_def];exact xe a b c
def Sp(n:Nat)(a:Int×Int->Option Int)(b:Stmt)(h k:Int):Option Int:=bH (d5 n h) λl=>bif !decide (b.write.array=l) then aa (-1) else(bH (kV n b.write.bB (wr (h+1))) λd=>bif ai (d<0) then aa (-1) else(bif !decide (b.value.kind=d) then aa (-1) else(bif !decide (b.value.num=wr (d+1)) then aa (-1) else(bH (nV n b.value.index.aU (wr ((wr (d+1))+1))) λe=>bif ai (e<0) then aa (-1) else(bif !decide (b.value.index.const=e) then aa (-1) else(bH (d5 n (wr (e+1))) λm=>bif !decide (b.value.read.array=m) then aa (-1) else(bH (kV n b.value.read.bB (wr ((wr (e+1))+1))) λi=>bif ai (i<0) then aa (-1) else(bH (nw n b.value.bm i) λc=>bif ai (c<0) then aa (-1) else(a (c,wr (k+1)))))))))))
theorem agJ(a:2000000<=n)(l:List Stmt)(k gz:Int)(b:l.length<=1048576)(c:jL (mF (Sp n)) k l gz):tH n l k=aa gz:=by unfold tH;exact xe a b c
def Sm(n:Nat)(a:Int×Int->Option Int)(b:Part)(e h:Int):Option Int:=bH (tI n b.nest e) λc=>bif ai (c<0) then aa (-1) else(bH (tH n b.body c) λd=>bif ai (d<0) then aa (-1) else(a (d,wr (h+1))))
theorem agK(a:2000000<=n)(l:List Part)(k gz:Int)(b:l.length<=1048576)(c:jL (mF (Sm n)) k l gz):wB n l k=aa gz:=by unfold wB;exact xe a b c
theorem sn{B:(Int×Int->Option Int)->R->Int->Int->Option Int}{Hh:List R->Int->Option Int}{F:(Int×List R×Int->Option (Int×List R))->Int×List R×Int->Option (Int×List R)}(G: ∀(l:List R) (k d:Int),l.length<=1048576->jL (mF B) k l d->Hh l k=aa d)(I:2000000<=n)(K:a.length<=1048576)(M:0<=k)(L:k+5*(fa c a:Nat)<=1099511627776)
  (W: ∀(Q:Int×List R->Prop) (b:Int×List R×Int->Option (Int×List R)) (e:Int) (l:List R) (j:Nat) (x:R),l[j]? =aa x->x∈a->j<l.length->j<=1048576->0<=e->e+5*(1+c x:Nat)<=1099511627776->
   (∀(d:Int) (y:R),e<=d->d<=e+5*(1+c x:Nat)->mF B e y d->ae (b (d,l.set j y,(j:Int)+1)) Q)->ae (F b (e,l,j)) Q)
  (X: ∀(b:Int×List R×Int->Option (Int×List R)) (e:Int) (l:List R),F b (e,l,l.length)=aa (e,l)):
  ∃r,bk F n (k,a,0)=aa r/\k<=r.1/\r.1<=k+5*(fa c a:Nat)/\r.2.length=a.length/\
   Hh r.2 k=aa r.1:=by
 suffices H:ae (bk F n (k,a,0)) (λr=>k<=r.1/\r.1<=k+5*(fa c a:Nat)/\r.2.length=a.length/\jL (mF B) k r.2 r.1) by
  obtain⟨r,m,f,g,C,t⟩:=H;exact⟨r,m,f,g,C,G _ _ _ (by rw[C];exact K) t⟩
 refine ae.loop (λz:Int×List R×Int=> ∃j:Nat,z.2.2=j/\j<=a.length/\z.2.1.length=a.length/\z.2.1.drop j=a.drop j/\k<=z.1/\z.1<=k+5*(j+((a.take j).map c).sum:Nat)/\jL (mF B) k (z.2.1.take j) z.1) (λz=>a.length-z.2.2.toNat) ?_ n _ ⟨0,rfl,O,rfl,rfl,gR _,a7,.nil _⟩ Z;rintro b ⟨ct,l,i⟩ ⟨j,rfl,N,q,s,D,u,o⟩ v;dsimp only at q s D u o;have h: ∀i,((a.take i).map c).sum<=(a.map c).sum:=λi=>by
  have:=congrArg (λl=>(l.map c).sum) (qw i a);simp only[List.map_append,List.sum_append] at this;omega
 by_cases w:j<a.length
 ·have p:=bu w;generalize a[j]=x at p;have A:l[j]? =aa x:=by
   have m:(l.drop j)[0]? =(a.drop j)[0]? :=by rw[s]
   rw[gq,gq] at m;simp only[Nat.add_zero] at m;rw[m];exact p
  have hs:=OE c p;have P:=h (j+1);unfold fa at L;refine W _ b ct l j x A (bT p) O O O O λd y S T E=>?_;refine v _ ⟨j+1,Z,O,by simpa using q,?_,Z,by dsimp only;rw[hs];omega,?_⟩ Z;rotate_left
  ·dsimp only;rw[fS (iQ O),List.take_set_of_le (da _)];exact o.snoc E
  dsimp only;rw[ps O]
  have:=congrArg (List.drop 1) s;simpa[List.drop_drop,Nat.add_comm] using this
 have:j=l.length:=O
 subst this;rw[X];rw[dR] at o;refine ae.some ⟨D,?_,q,o⟩
 have:=h l.length;dsimp only;unfold fa;omega
theorem agy(c:2000000<=n){a:List ch}(p:a.length<=1048576)(d: ∀x∈a,pI 1048576 x)(q:0<=k)(s:k+5*(fa tE a:Nat)<=1099511627776):
  ∃r,EF n a k=aa r/\k<=r.1/\r.1<=k+5*(fa tE a:Nat)/\r.2.length=a.length/\m6 n r.2 k=aa r.1:=by
 unfold EF;refine sn (Hh:=m6 n) (VI O) c p q s (λQ b e l j x w i y z A B m=>?_) λb e l=>by dsimp only;rw[bR O];rfl
 dsimp only;refine aW (λ_=>?_) λh=>bs y O;unfold tE at B m;obtain⟨t,o⟩:=Fi c A O;refine ag (bl w) (ag o ?_);rw[a6 O,a6 O];refine ag (Fj c (d x i).2 O O) (ag (gw (r5 _ _)) (ag (dP O _) ?_));rw[c8];refine m _ _ O O λD Q j z C=>?_;unfold Sn;refine ag o (dF (λh=>bs rfl h) λ_=>?_);rw[a6 (n:=e+1) O];refine ag (Cl c (d x i).2 O O) (aW (λh=>bs h O) λ_=>?_);rw[a6 O];exact C
theorem yg(c:2000000<=n){a:List aF}(d:kN 1048576 a)(o:0<=k)(p:k+5*(fa mi a:Nat)<=1099511627776):
  ∃r,ri n a k=aa r/\k<=r.1/\r.1<=k+5*(fa mi a:Nat)/\r.2.length=a.length/\kV n r.2 k=aa r.1:=by
 unfold ri;refine sn (Hh:=kV n) (VJ O) c d.1 o p (λQ b q l j x s e w y i z m=>?_) λb q l=>by dsimp only;rw[bR O];rfl
 dsimp only;refine aW (λ_=>?_) λh=>bs w O;unfold mi at z m;refine ag (bl s) (ag (Fj c (d.2 x e) i O) (ag (gw (r5 _ _)) (ag (dP O _) ?_)));rw[a6 Z,a6 O,c8];refine m _ _ Z Z λB Q j y A=>?_;unfold Sj;refine ag (Cl c (d.2 x e) i O) (aW (λh=>bs h O) λ_=>dF (λh=>bs rfl h) λ_=>?_);rw[a6 O,a6 O];exact A
theorem af1(c:2000000<=n){a:List Loop}(m:a.length<=1048576)(d: ∀x∈a,oD 1048576 x)(o:0<=k)(p:k+5*(fa rE a:Nat)<=1099511627776):
  ∃r,E4 n a k=aa r/\k<=r.1/\r.1<=k+5*(fa rE a:Nat)/\r.2.length=a.length/\tI n r.2 k=aa r.1:=by
 unfold E4;refine sn (Hh:=tI n) (agL O) c m o p (λQ b q l j x s e w y z A i=>?_) λb q l=>by dsimp only;rw[bR O];rfl
 dsimp only;refine aW (λ_=>?_) λh=>bs w O;unfold rE at A i;obtain⟨B,C,R,W,D,F⟩:=yg c (d x e).1 z O;obtain⟨X,G,f,g,H,K⟩:=yg c (d x e).2 (k:=B.1) O O;refine ag (bl s) (ag C (ag (gw D) (ag G (ag (gw H) (ag (dP O _) ?_)))));rw[a6 O,c8];refine i _ _ O O λt Q j y L=>?_;unfold Sl;refine ag F (aW (λh=>bs h O) λ_=>ag K (aW (λh=>bs h O) λ_=>?_));rw[a6 O];exact L
theorem P6: ∀(m n:Nat) {a:List Expr},2000001+m<=n->a.length<=1048576->(∀x∈a,iZ 1048576 m x)-> ∀{k:Int},0<=k->k+5*(fa (n' m) a:Nat)<=1099511627776->
  ∃r,r4 n a k=aa r/\k<=r.1/\r.1<=k+5*(fa (n' m) a:Nat)/\r.2.length=a.length/\nw n r.2 k=aa r.1
 |0,n,a,D,i,o,k,p,q=>by
  obtain⟨n,rfl⟩: ∃j,n=j+1:=⟨n-1,O⟩
  rw[r4.eq_def];dsimp only;exact sn (Hh:=nw (n+1)) (QR O) O i p q (λQ b c l j x y s z A F w e=>(o x s).elim) (λb c l=>by dsimp only;rw[bR O];rfl)
 |m+1,n,a,D,i,o,k,p,q=>by
  obtain⟨n,rfl⟩: ∃j,n=j+1:=⟨n-1,O⟩
  have d:2000000<=n:=O
  rw[r4.eq_def];dsimp only;refine sn (Hh:=nw (n+1)) (QR O) O i p q (λQ b c l j x y s z A F w e=>?_) λb c l=>by dsimp only;rw[bR O];rfl
  dsimp only;refine aW (λ_=>?_) λh=>bs z O;obtain⟨B,G,H,K⟩:=o x s;unfold n' mi tB at w e;refine ag (bl y) ?_;rw[a6 (n:=c+1) O,a6 (n:=c+1+1) O];refine ag (Fj d B O O) (ag (gw (r5 _ _)) ?_);dsimp only;generalize L:x.index.aU.length=u at w e;rw[a6 (n:=c+1+1+(u:Int)+1) O];obtain⟨t,C⟩:=Fi d (k:=c+1+1+(u:Int)+1) O O;refine ag C ?_;rw[a6 (n:=c+1+1+(u:Int)+1+1) O];obtain⟨R,W,M,N,X,f⟩:=yg d G.2 (k:=c+1+1+(u:Int)+1+1) O O;obtain⟨P,g,S,T,v,E⟩:=P6 m n O H K (k:=R.1) O O;refine ag W (ag (gw X) (ag g (ag (gw v) (ag (dP O _) ?_))));rw[a6 O,c8];refine e _ _ O O λU Q j A I=>?_;unfold Sk fb;refine dF (λh=>bs rfl h) λ_=>?_;rw[a6 (n:=c+1) O];refine dF (λh=>bs rfl h) λ_=>?_;rw[a6 (n:=c+1+1) O];refine ag (Cl d (L▸B) O O) (aW (λh=>bs h O) λ_=>dF (λh=>bs rfl h) λ_=>?_);rw[a6 (n:=c+1+1+(u:Int)+1) O];refine ag C (dF (λh=>bs rfl h) λ_=>?_);rw[a6 (n:=c+1+1+(u:Int)+1+1) O];refine ag f (aW (λh=>bs h O) λ_=>ag E (aW (λh=>bs h O) λ_=>?_));rw[a6 O];exact I
theorem afZ(V:2000001+m<=n){a:List Stmt}(y:a.length<=1048576)(z: ∀x∈a,oE 1048576 m x)(A:0<=k)(B:k+5*(fa (rG m) a:Nat)<=1099511627776):
  ∃r,Fa n a k=aa r/\k<=r.1/\r.1<=k+5*(fa (rG m) a:Nat)/\r.2.length=a.length/\tH n r.2 k=aa r.1:=by
 have b:2000000<=n:=O
 unfold Fa;refine sn (Hh:=tH n) (agJ O) b y A B (λQ d i l j x C D F G H p o=>?_) λd i l=>by dsimp only;rw[bR O];rfl
 dsimp only;refine aW (λ_=>?_) λh=>bs F O;obtain⟨K,q⟩:=z x D;cases m with
 |zero=>exact q.elim
 |succ m=>
  obtain⟨s,L,R,W⟩:=q;unfold rG n' mi tB at p o;obtain⟨t,w⟩:=Fi b H O;refine ag (bl C) (ag w ?_);rw[a6 (n:=i+1) O];obtain⟨c,X,Y,c2,f,g⟩:=yg b K.2 (k:=i+1) O O;refine ag X (ag (gw f) ?_);rw[a6 (n:=c.1+1) O,a6 (n:=c.1+1+1) O];refine ag (Fj b s O O) (ag (gw (r5 _ _)) ?_);dsimp only;generalize v:x.value.index.aU.length=u at p o;rw[a6 (n:=c.1+1+1+(u:Int)+1) O];obtain⟨t2,e⟩:=Fi b (k:=c.1+1+1+(u:Int)+1) O O;refine ag e ?_;rw[a6 (n:=c.1+1+1+(u:Int)+1+1) O];obtain⟨E,I,dd,cB,M,N⟩:=yg b L.2 (k:=c.1+1+1+(u:Int)+1+1) O O;obtain⟨Tg,P,d1,d2,S,T⟩:=P6 m n O R W (k:=E.1) O O;refine ag I (ag (gw M) (ag P (ag (gw S) (ag (dP O _) ?_))));rw[a6 O,c8];refine o _ _ O O λami Q j G U=>?_;unfold Sp eD fb;refine ag w (dF (λh=>bs rfl h) λ_=>?_);rw[a6 (n:=i+1) O];refine ag g (aW (λh=>bs h O) λ_=>?_);refine dF (λh=>bs rfl h) λ_=>?_;rw[a6 (n:=c.1+1) O];refine dF (λh=>bs rfl h) λ_=>?_;rw[a6 (n:=c.1+1+1) O];refine ag (Cl b (v▸s) O O) (aW (λh=>bs h O) λ_=>dF (λh=>bs rfl h) λ_=>?_);rw[a6 (n:=c.1+1+1+(u:Int)+1) O];refine ag e (dF (λh=>bs rfl h) λ_=>?_);rw[a6 (n:=c.1+1+1+(u:Int)+1+1) O];refine ag N (aW (λh=>bs h O) λ_=>ag T (aW (λh=>bs h O) λ_=>?_));rw[a6 O];exact U
theorem af0(i:2000001+m<=n){a:List Part}(o:a.length<=1048576)(c: ∀x∈a,ss 1048576 m x)(p:0<=k)(q:k+5*(fa (tD m) a:Nat)<=1099511627776):
  ∃r,zW n a k=aa r/\k<=r.1/\r.1<=k+5*(fa (tD m) a:Nat)/\r.2.length=a.length/\wB n r.2 k=aa r.1:=by
 unfold zW;refine sn (Hh:=wB n) (agK O) O o p q (λQ b s l j x w d y z A B e=>?_) λb s l=>by dsimp only;rw[bR O];rfl
 dsimp only;refine aW (λ_=>?_) λh=>bs y O;unfold tD at B e;obtain⟨C,D,W,X,F,G⟩:=af1 (n:=n) O (c x d).1.1 (c x d).1.2 A O;obtain⟨f,H,g,t,K,L⟩:=afZ i (c x d).2.1 (c x d).2.2 (k:=C.1) O O;refine ag (bl w) (ag D (ag (gw F) (ag H (ag (gw K) (ag (dP O _) ?_)))));rw[a6 O,c8];refine e _ _ O O λu Q j z R=>?_;unfold Sm;refine ag G (aW (λh=>bs h O) λ_=>ag L (aW (λh=>bs h O) λ_=>?_));rw[a6 O];exact R
theorem QW(c:2000001+m<=n)(h:kO 1048576 m p)(d:0<=k)(e:k+5*(tC m p:Nat)<=1099511627776): ∃r,zu n p k=aa r/\k<=r.1/\r.1<=k+5*(tC m p:Nat)/\r.2.1.length=p.bc.length/\r.2.2.length=p.parts.length/\zt n ⟨r.2.1,r.2.2⟩ k=aa r.1:=by
 unfold tC at e;obtain⟨a,i,x,y,l,o⟩:=agy (n:=n) O h.1.1 h.1.2 d O;obtain⟨b,q,z,A,s,w⟩:=af0 c h.2.1 h.2.2 (k:=a.1) O O;refine⟨(b.1,a.2,b.2),?_,Z,by dsimp only;unfold tC;omega,l,s,?_⟩;rotate_left
 ·unfold zt;exact ae.eq (ag o (aW (λh=>bs h O) λ_=>ag w (aW (λh=>bs h O) λ_=>ae.some rfl)))
 unfold zu;rw[i];show bH (zW n p.parts a.1) _=_;rw[q];rfl
theorem RC{a:aF}(h:de a=ab):j9 4 a:=by have:=(fU h).1;unfold j9;omega
theorem Iu(d:l.length<=2)(b: ∀x∈l,de x=ab):kN 4 l:=⟨O,λa c=>RC (b a c)⟩
theorem RE{s:List UInt8}(h:ov s=ab):s.length<=4:=by
 by_cases a:s.length=1
 ·omega
 rw[AN a] at h;cases h
theorem RB{a:cw}{d:Int}(h:fV a d=ab):oC 4 a:=⟨RE (by simp only[fV,cx] at h;exact h.2.1),Iu (lU h).2.1 (lU h).2.2⟩
theorem RA{d:Int}: ∀{L:Nat} {e:Expr},dH L e d=ab->iZ 4 L e
 |0,_,h=>by cases h
 |L+1,e,h=>by
  obtain⟨l,a,m⟩:=hv h
  have:=pa e.kind;refine⟨?_,?_,O,λk l=>RA (m k l)⟩
  ·by_cases b:e.kind=2
   ·exact RC (pz a b).1
   by_cases c:e.kind=3
   ·rw[qe (pE a c).2];unfold j9;simp
   rw[qe (sF a b c).1];unfold j9;simp
  by_cases c:e.kind=3
  ·exact RB (pE a c).1
  by_cases b:e.kind=2
  ·rw[qf (pz a b).2];exact⟨a7,a7,λx i=>by cases i⟩
  rw[qf (sF a b c).2];exact⟨a7,a7,λx i=>by cases i⟩
theorem Vj(h:b1 p=ab):kO 4 5 p:=by
 have k:jf p.bc=ab:=by
  simp only[b1,jl,cx] at h;exact h.1.1
 obtain⟨n,o,q,m,_⟩:=eH h;refine⟨⟨n,λx c=>⟨?_,?_⟩⟩,q,λx c=>?_⟩
 ·obtain⟨i,r⟩:=lb c
  have:=Ge (show u1 (mJ p.bc) p.bc=ab by simp only[jf,cx] at k;exact k.1) r;simp only[mJ,cx] at this;exact RE this.1
 ·have:=o x c;simp only[jW,cx,decide_eq_true_eq] at this;omega
 obtain⟨w,d⟩:=im (m x c);obtain⟨_,y,z,_⟩:=gy (m x c);exact⟨⟨w,λl e=>⟨Iu (d l e).1.1 (d l e).1.2,Iu (d l e).2.1 (d l e).2.2⟩⟩,y.2,λs A=>by obtain⟨a,b,_⟩:=kt (z s A);exact⟨RB a,RA b⟩⟩
theorem Rv(h:B<=C){a:aF}(k:j9 B a):j9 C a:=eR k h
theorem I4(h:B<=C)(k:kN B l):kN C l:=⟨eR k.1 h,λa b=>Rv h (k.2 a b)⟩
theorem Ru(h:B<=C){a:cw}(k:oC B a):oC C a:=⟨eR k.1 h,I4 h k.2⟩
theorem Rb{B C:Nat}(h:B<=C): ∀{m:Nat} {e:Expr},iZ B m e->iZ C m e
 |0,_,k=>k.elim
 |m+1,e,⟨a,b,c,d⟩=>⟨Rv h a,Ru h b,eR c h,λk i=>Rb h (d k i)⟩
theorem VS(h:B<=C)(k:kO B m p):kO C m p:=⟨⟨eR k.1.1 h,λx e=>⟨eR (k.1.2 x e).1 h,eR (k.1.2 x e).2 h⟩⟩,eR k.2.1 h,λx e=>by obtain⟨⟨a,b⟩,c,d⟩:=k.2.2 x e;exact⟨⟨eR a h,λl i=>⟨I4 h (b l i).1,I4 h (b l i).2⟩⟩,eR c h,λs n=>⟨Ru h (d s n).1,Rb h (d s n).2⟩⟩⟩
theorem vn: ∀{l:List R},l.length<=4->(∀x∈l,c x<=C)->fa c l<=4+4*C:=by
 intro l d e
 have: ∀l:List R,(∀x∈l,c x<=C)->(l.map c).sum<=l.length*C:=by
  intro l;induction l with
  |nil=>intro _;simp
  |cons x l i=>
   intro h;have a:=h x ff;have b:=i λy k=>h y (eZ _ k);simp only[List.map_cons,List.sum_cons,List.length_cons,Nat.add_mul];omega
 have m:=this l e;have n:l.length*C<=4*C:=dU _ d;unfold fa;omega
theorem C4(h:kN 4 l):fa mi l<=20:=vn (C:=4) h.1 h.2
theorem RL: ∀{m:Nat} {e:Expr},iZ 4 m e->n' m e<=100*5^m
 |0,_,h=>h.elim
 |m+1,e,⟨a,b,c,d⟩=>by have l:=C4 b.2;have n:fa (n' m) e.bm<=4+4*(100*5^m):=vn c λk i=>RL (d k i);have o:0<5^m:=Nat.pow_pos O;have p:mi e.index<=4:=a;unfold n' tB;rw[Nat.pow_succ];omega
theorem UZ(h:kO 4 5 p):tC 5 p<=1000000000:=by
 have n:=vn (c:=tE) (C:=4) h.1.1 λx i=>(h.1.2 x i).2;have o:=vn (c:=tD 5) (C:=4+4*40+(4+4*312520)) h.2.1 (λx i=>by
  obtain⟨⟨a,b⟩,c,d⟩:=h.2.2 x i;have q:=vn (c:=rE) (C:=40) a (λl k=>by
   have:=C4 (b l k).1
   have:=C4 (b l k).2;unfold rE;omega)
  have r:=vn (c:=rG 5) (C:=312520) c (λs m=>by
   have:=C4 (d s m).1.2
   have:=RL (d s m).2;have e:100*5^5=312500:=by decide
   unfold rG tB;omega)
  unfold tD;omega)
 unfold tC;omega
theorem VC{e:Expr}(p:6600000+m<=n)(h:iZ 1048576 m e):pk n e=aa e:=by
 obtain⟨n,rfl⟩: ∃j,n=j+1:=⟨n-1,O⟩
 have: ∀{m:Nat} {e:Expr},iZ 1048576 m e->kK 1100000 m e:=by
  intro m;induction m with
  |zero=>intro e h;exact h.elim
  |succ m i=>
   rintro e ⟨a,b,c,d⟩;exact⟨O,eR a O,⟨eR b.2.1 O,λx l=>eR (b.2.2 x l) O⟩,λk o=>i (d k o)⟩
 exact Gy m n e O (this h)
theorem VB(r:6600000+m<=n)(h:kO 1048576 m p):i' n p=aa p:=by
 obtain⟨⟨D,w⟩,F,y⟩:=h;have k: ∀{l:List aF},kN 1048576 l->s8 n l=aa l:=λh=>AM O ⟨eR h.1 O,λx o=>eR (h.2 x o) O⟩;have z:vB n p.bc=aa p.bc:=by
  unfold vB;refine ae.eq (mY (K:=λe=>aa e) (λl i=>?_) O O (ae.some rfl));unfold Em;rw[mQ _ (by have:=(w l i).2;omega)];rfl
 have A:vG n p.parts=aa p.parts:=by
  unfold vG;refine ae.eq (mY (K:=λe=>aa e) (λx o=>?_) O O (ae.some rfl));obtain⟨⟨a,b⟩,c,d⟩:=y x o;have B:vH n x.nest=aa x.nest:=by
   unfold vH;refine ae.eq (mY (K:=λe=>aa e) (λl i=>?_) O O (ae.some rfl));unfold t6;rw[k (b l i).1,k (b l i).2];rfl
  have C:vF n x.body=aa x.body:=by
   unfold vF;refine ae.eq (mY (K:=λe=>aa e) (λs q=>?_) O O (ae.some rfl));have g:tw n s.write=aa s.write:=by
    unfold tw;rw[k (d s q).1.2];rfl
   unfold zE;rw[g,VC r (d s q).2];rfl
  unfold zF;rw[B,C];rfl
 unfold i';rw[z,A];rfl
def mq(k:Int)(m:Nat):List Step:=(List.range m).map λi:Nat=>⟨k+4*i,k+4*i+1,k+4*i+2,k+4*i+3⟩
theorem x9(k:Int)(m:Nat):(mq k m).length=m:=by simp[mq]
theorem ada(k:Int)(m:Nat):mq k (m+1)=mq k m++[⟨k+4*m,k+4*m+1,k+4*m+2,k+4*m+3⟩]:=by simp[mq,List.range_succ]
theorem aez(h:i<m):(mq k m)[i]? =aa ⟨k+4*i,k+4*i+1,k+4*i+2,k+4*i+3⟩:=by simp[mq,h]
theorem Yx(r:2000000<=n){a:List Step}(s:a.length<=1048576)(w:0<=b)(x:b<=1099511627776):E' n a b=aa (b+4*(a.length:Int),mq b a.length):=by
 unfold E';refine ae.eq (ae.loop (λz:List Step×Int×Int=> ∃j:Nat,z.2.2=j/\j<=a.length/\z.2.1=b+4*j/\z.1=mq b j++a.drop j) (λz=>a.length-z.2.2.toNat) ?_ n _ ⟨0,rfl,O,a7,by simp[mq]⟩ Z);rintro d ⟨l,ct,i⟩ ⟨j,rfl,A,rfl,rfl⟩ m;dsimp only;have e:(mq b j++a.drop j).length=a.length:=by simp[x9];omega
 refine aW (λc=>?_) λh=>?_
 ·have c:j<a.length:=by rw[e] at c;omega
  generalize o:mq b j++a.drop j=L at e;have k: ∀(y:Step),(L.set j y)[j]? =aa y:=λy=>iQ O;rw[a6 (n:=b+4*(j:Int)+1) O,a6 (n:=b+4*(j:Int)+1+1) O,a6 (n:=b+4*(j:Int)+1+1+1) O,a6 (n:=b+4*(j:Int)+1+1+1+1) O,a6 (n:=(j:Int)+1) O];refine ag (bl (bu (O:j<_))) (ag (dP O _) ?_);rw[c8];refine ag (bl (k _)) (ag (dP b6 _) ?_);rw[c8,oi];refine ag (bl (k _)) (ag (dP b6 _) ?_);rw[c8,oi];refine ag (bl (k _)) (ag (dP b6 _) ?_);rw[c8,oi];refine m _ ⟨j+1,Z,O,Z,?_⟩ Z;dsimp only;subst o;rw[mv _ _ (by rw[x9];omega),x9,lP,jJ c,r3,ada,fF];have p:b+4*(j:Int)+1+1=b+4*j+2:=O
  have q:b+4*(j:Int)+2+1=b+4*j+3:=O
  simp only[p,q];rfl
 have:j=a.length:=by rw[e] at h;omega
 subst this;exact ae.some a7
theorem YE(k:2000000<=n)(l:m<=1048576)(o:0<=b)(p:b<=1099511627776):zU n (mq b m) b=aa (b+4*(m:Int)):=by unfold zU;refine ae.eq (ae.loop (λz:Int×Int=> ∃j:Nat,z.2=j/\j<=m/\z.1=b+4*j) (λz=>m-z.2.toNat) ?_ n _ ⟨0,rfl,O,a7⟩ Z);rintro a ⟨ct,i⟩ ⟨j,rfl,q,rfl⟩ c;dsimp only;rw[x9];refine aW (λd=>?_) λe=>ae.some (O:b+4*(j:Int)=b+4*(m:Int));refine ag (bl (aez O)) ?_;rw[a6 (n:=b+4*(j:Int)+1) O,a6 (n:=b+4*(j:Int)+1+1) O,a6 (n:=b+4*(j:Int)+1+1+1) O,a6 (n:=b+4*(j:Int)+1+1+1+1) O,a6 (n:=(j:Int)+1) O];refine dF (λh=>bs rfl h) λ_=>dF (λh=>bs rfl h) λ_=>dF (λh=>bs Z h) λ_=>dF (λh=>bs Z h) λ_=>?_;exact c _ ⟨j+1,Z,O,Z⟩ Z
theorem afE(b:2000000<=n){a:List Step}(c:a.length<=1048576):Ap n a a=aa ab:=sA c b (λx _=>by unfold Hp;exact ae.eq (dF (λh=>bs rfl h) λ_=>dF (λh=>bs rfl h) λ_=>dF (λh=>bs rfl h) λ_=>dF (λh=>bs rfl h) λ_=>ae.some rfl))
theorem amf(Q:kO 9223372036854775807 m p)(a:Int):Kz (30000000+m) p a=aa ab:=by
 have R:25000000+m<=30000000+m:=O
 generalize E:30000000+m=n at R;obtain⟨r,e,W⟩:=aeu (n:=n) O Q 1048576 O O;unfold Kz;refine ae.eq (ag e ?_);rcases W with rfl|⟨I,M,l⟩
 ·exact aW (λ_=>ae.some rfl) λh=>bs h (by decide)
 have y:=aeZ (n:=n) O l;have hs:=adS (n:=n) O (Rs l) (VB O l) a;have aJ:=adQ (n:=n) O (Rs l) a;have c:kO 4 5 (q3 p a).1/\(q3 p a).2.1.length<=12:=by
  unfold q3;split
  ·exact⟨⟨⟨a7,λx A=>by cases A⟩,a7,λx A=>by cases A⟩,a7⟩
  rename_i h
  have:=PW a 12 p [] (Iy h);exact⟨Vj this.1,by simpa using this.2⟩
 generalize q3 p a=B at hs aJ c;obtain⟨N,X,P⟩:=B;dsimp only at c;obtain⟨c,H⟩:=c;have D:X.length<=1048576:=O
 have K:=VS (C:=1048576) O c;have f:=UZ c;obtain⟨q,F,S,T,_,_,_⟩:=QW (n:=n) (m:=m) O l (k:=1) O O;obtain⟨u,g,U,V,t,v,L⟩:=QW (n:=n) (m:=5) O K (k:=1) O O;have i:=Qn (n:=n) (m:=5) O K;have d:=afE (n:=n) O D;have G:=Yx (n:=n) O D (b:=u.1) O O;have o:=YE (n:=n) O D (b:=u.1) O O;refine aW (λh=>bs h O) λ_=>ag y (ag hs (ag y (ag aJ ?_)));refine ae.aP (λz=>z=ak) (λj s=>ag i (b3 (ag d (b3 (s _ a7))))) λz w=>?_;subst w;refine b3 (ag y (ag (Qn O l) (b3 (ag F ?_))));refine ae.aP (λz=>z=ak) (λj s=>aW (λh=>bs h O) λ_=>ag i (b3 (ag d (b3 (s _ a7))))) λz w=>?_;subst w;refine b3 (ag g (ag (gw t) (ag (gw v) (ag G (ag (gw (x9 _ _)) (ag L (aW (λh=>bs h O) λ_=>ag o (aW (λh=>bs h O) λ_=>dF (λh=>bs rfl h) λ_=>ag y (ag aJ ?_)))))))));refine ae.aP (λz=>z=ak) (λj s=>ag i (b3 (ag d (b3 (s _ a7))))) λz w=>?_;subst w;exact b3 (ag L (aW (λh=>bs h O) λ_=>ag o (aW (λh=>bs h O) λ_=>dF (λh=>bs rfl h) λ_=>ae.some rfl)))
end Go.Lift
