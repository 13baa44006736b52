/- Tools. -/
import Derived.Test.YtlbojjldejlgaabGreatEStepB
set_option maxRecDepth 110000000
set_option linter.unusedVariables false
namespace Go.Lift
open Go
section
noncomputable def lI(p:Prog):List Step:=if bU p=true then nD p else []
theorem N3{p:Prog}: ∀x∈lI p,Hp x:=by
 intro x a;unfold lI at a;split at a
 ·rename_i c;have d:=we c;unfold nD at a;simp only[List.mem_append,List.mem_singleton] at a;rcases a with ((a|a)|a)|rfl
  ·obtain⟨j,b,a⟩:=sJ.1 a
   have:=n'.1 b;rcases ef.1 a with a|a
   ·obtain⟨k,_,rfl⟩:=et.1 a;exact⟨Z,Z⟩
   obtain⟨k,_,rfl⟩:=et.1 a;exact⟨Z,Z⟩
  ·obtain⟨j,b,a⟩:=sJ.1 a
   have:=n'.1 b;simp only[List.mem_cons,List.not_mem_nil,or_false] at a;rcases a with rfl|rfl
   ·exact⟨Z,Z⟩
   exact⟨Z,Z⟩
  ·obtain⟨j,b,rfl⟩:=et.1 a
   have:=n'.1 b;exact⟨Z,Z⟩
  exact⟨by decide,by decide⟩
 cases a
theorem Nb{p:Prog}: ∀x∈lI p,dK 1100000 p:=by
 intro x a;unfold lI at a;split at a
 ·rename_i b;exact(kZ b).mono (O:4<=1100000)
 cases a
theorem ME(p:Prog):(lI p).length<=100:=by
 unfold lI;split
 ·rename_i a;exact(aas a).1
 simp
noncomputable def lV(p:Prog)(a:Int)(b:Step×Bool×Int)(x:Step):Step×Bool×Int:=
 if(jP p x).2=true/\gx (jP p x).1 a<b.2.2 then(x,true,gx (jP p x).1 a) else b
noncomputable def hg(p:Prog)(a:Int)(l:List Step):Step×Bool×Int:=l.foldl (lV p a) (⟨0,0,0,0⟩,false,gx p a)
variable {p:Prog}{a:Int}{l:List Step}{k n:Nat}
theorem EM{x:Step}:hg p a (l++[x])=lV p a (hg p a l) x:=by unfold hg;rw[List.foldl_append];rfl
def D4(p:Prog)(a:Int)(l:List Step)(r:Step×Bool×Int):Prop:=
 (r.2.1=true->r.1∈l/\(jP p r.1).2=true/\gx (jP p r.1).1 a=r.2.2/\r.2.2<gx p a)/\(r.2.1=false->r.2.2=gx p a/\r.1=⟨0,0,0,0⟩)/\(∀x∈l,(jP p x).2=true->r.2.2<=gx (jP p x).1 a)/\r.2.2<=gx p a
theorem acK{c:Int}{r:Step×Bool×Int}(h:D4 p c l r)(x:Step):D4 p c (l++[x]) (lV p c r x):=by
 have m:=h.2.2.2;unfold lV;by_cases k:(jP p x).2=true/\gx (jP p x).1 c<r.2.2
 ·rw[aW k];have n:=k.2;refine⟨λ_=>⟨oa _ (kU.2 rfl),k.1,rfl,Z⟩,λe=>(by cases e),λy d i=>?_,Z⟩;rcases ef.1 d with d|d
  ·have:=h.2.2.1 y d i;dsimp only;omega
  rw[kU.1 d];exact gy _
 rw[aT k];refine⟨λe=>?_,h.2.1,λy d i=>?_,m⟩
 ·obtain⟨a,b⟩:=h.1 e;exact⟨lD _ a,b⟩
 rcases ef.1 d with d|d
 ·exact h.2.2.1 y d i
 rw[kU.1 d] at i⊢;exact Int.not_lt.1 λe=>k ⟨i,e⟩
theorem FJ{a:Type}{l:List a}{x:a}(h:l[k]? =some x):l.take (k+1)=l.take k++[x]:=by rw[dV,h];rfl
theorem Fb(p:Prog)(a:Int)(l:List Step): ∀k,k<=l.length->D4 p a (l.take k) (hg p a (l.take k))
 |0,_=>⟨λe=>(by cases e),λ_=>⟨rfl,rfl⟩,λ_ b=>(by cases b),gy _⟩
 |k+1,c=>by rw[FJ (bg (O:k<l.length)),EM];exact acK (Fb p a l k O) _
theorem abM(p:Prog)(size:Int): -1<=gx p size:=by
 unfold gx;split
 ·split
  ·omega
  omega
 omega
theorem Yj(h:0<=gx p a):0<=a/\a<=40:=by
 unfold gx at h;split at h
 ·split at h
  ·assumption
  omega
 omega
theorem Z9{size:Int}(a:bU p=true)(h:0<=size/\size<=40):0<=gx p size:=by unfold gx;rw[aW a,aW h];omega
theorem MG(h:gx p a<0)(l:List Step)(c:k<=l.length):(hg p a (l.take k)).1=⟨0,0,0,0⟩/\(hg p a (l.take k)).2.1=false:=by
 have aV:=Fb p a l k c;cases b:(hg p a (l.take k)).2.1 with
 |false=>exact⟨(aV.2.1 b).2,rfl⟩
 |true=>
  obtain⟨_,_,d,e⟩:=aV.1 b
  have:=abM (jP p (hg p a (l.take k)).1).1 a;omega
theorem ZB(h:0<=gx p a)(l:List Step)(c:k<=l.length):0<=(hg p a (l.take k)).2.2:=by
 have aV:=Fb p a l k c;cases b:(hg p a (l.take k)).2.1 with
 |false=>rw[(aV.2.1 b).1];exact h
 |true=>
  obtain⟨_,d,e,_⟩:=aV.1 b;rw[<-e];exact Z9 ((E8 p _).v d) (Yj h)
noncomputable def Bb(p:Prog)(a:Int):Step×Bool:=((hg p a (lI p)).1,(hg p a (lI p)).2.1&&decide (0<=(hg p a (lI p)).2.2))
theorem Yd(B:22000000<=n)(H:g' p)(o:Int):DW n p o=some (Bb p o):=by
 unfold DW;refine aa.eq (ag (KL B H o) (ag (St O H) ?_));rw[show(if bU p=true then nD p else [])=lI p from rfl];unfold Bb;have di:= @N3 p;have K:= @Nb p;have r:=ME p;generalize lI p=l at di K r⊢;refine aa.loop (λz:Int×Int×Int×Int×Bool×Int×Int=> ∃k:Nat,z.2.2.2.2.2.2=k/\k<=l.length/\((⟨z.1,z.2.1,z.2.2.1,z.2.2.2.1⟩:Step),z.2.2.2.2.1,z.2.2.2.2.2.1)=hg p o (l.take k)) (λz=>l.length-z.2.2.2.2.2.2.toNat) ?_ n _ ⟨0,rfl,O,rfl⟩ Z;rintro C ⟨a,b,c,d,f,m,i⟩ ⟨k,L,R,s⟩ Q;dsimp only at L s Q⊢;subst L;refine aR (λW=>?_) λX=>?_
 ·obtain⟨x,w⟩: ∃x,l[k]? =some x:=⟨_,bg (O:k<l.length)⟩
  have D:=di x (bC w);have y:hg p o (l.take (k+1))=lV p o (hg p o (l.take k)) x:=by rw[FJ w,EM]
  rw[<-s] at y;refine aa.aI (λz=>((⟨z.1,z.2.1,z.2.2.1,z.2.2.2.1⟩:Step),z.2.2.2.2.2.2.2.2.2.2.1,z.2.2.2.2.2.2.2.2.2.2.2)=hg p o (l.take (k+1))) (λj q=>?_) λz A=>?_
  ·refine ag (a' w) (ag (YC B (K x (bC w)) D) (aa.cond (λF=>q _ ?_) λF=>ag (KL B (E8 p x).PI.sm o) (aR (λG=>q _ ?_) λG=>q _ ?_)))
   ·rw[y];unfold lV;rw[aT λe=>by simp[e.1] at F]
   ·rw[y];unfold lV;rw[aW ⟨by simpa using F,G⟩]
   rw[y];unfold lV;rw[aT λe=>G e.2]
  obtain⟨v,E,I,M,N,P,S,T,U,g,t,u⟩:=z;dsimp only at A⊢;rw[bf O];exact Q _ ⟨k+1,a1,O,A⟩ Z
 rw[fG O] at s;refine aa.aI (λz=>z=(f&&decide (0<=m))) (λj q=>aa.cond (λh=>q _ (by rw[h];rfl)) λh=>q _ (by rw[h];rfl)) λz A=>aa.some ?_;rw[A,<-s]
theorem YW(H:22000000<=n)(W:g' p)(o:Int):DL n p o=some (Bb p o):=by
 unfold DL;refine aa.eq (ag (KW H W o) (ag (Ss O W) ?_));rw[show(if bU p=true then nD p else [])=lI p from rfl];unfold Bb;have di:= @N3 p;have X:= @Nb p;have y:=ME p;generalize lI p=l at di X y⊢;refine aa.loop (λz:Int×Int×Int×Int×Int×Bool×Int=> ∃k:Nat,z.2.2.2.2.2.2=k/\k<=l.length/\((⟨z.1,z.2.1,z.2.2.1,z.2.2.2.1⟩:Step),z.2.2.2.2.2.1,z.2.2.2.2.1)=hg p o (l.take k)) (λz=>l.length-z.2.2.2.2.2.2.toNat) ?_ n _ ⟨0,rfl,O,rfl⟩ Z;rintro K ⟨a,b,c,d,m,f,i⟩ ⟨k,g,A,s⟩ t;dsimp only at g s t⊢;subst g;refine aa.aI (λz:Bool=>z=decide ((k:Int)<l.length/\0<=m)) (λj w=>aR (λh=>w _ (by simp[h])) λh=>w _ (by simp[h])) λz B=>?_;refine aa.cond (λC=>?_) λD=>?_
 ·rw[B] at C;have u:=(eQ C).1;obtain⟨x,F⟩: ∃x,l[k]? =some x:=⟨_,bg (O:k<l.length)⟩
  have L:=di x (bC F);have G:hg p o (l.take (k+1))=lV p o (hg p o (l.take k)) x:=by rw[FJ F,EM]
  rw[<-s] at G;refine aa.aI (λz=>((⟨z.1,z.2.1,z.2.2.1,z.2.2.2.1⟩:Step),z.2.2.2.2.2.2.2,z.2.2.2.2.2.2.1)=hg p o (l.take (k+1))) (λj w=>?_) λz B=>?_
  ·refine ag (a' F) (ag (YR H (X x (bC F)) L) (aa.cond (λq=>w _ ?_) λq=>ag (KW H (E8 p x).PI.sm o) (aR (λr=>w _ ?_) λr=>w _ ?_)))
   ·rw[G];unfold lV;rw[aT λe=>by simp[e.1] at q]
   ·rw[G];unfold lV;rw[aW ⟨by simpa using q,r⟩]
   rw[G];unfold lV;rw[aT λe=>r e.2]
  obtain⟨E,I,M,N,P,S,T,U⟩:=z;dsimp only at B⊢;rw[bf O];exact t _ ⟨k+1,a1,O,B⟩ Z
 rw[B] at D;have Q:=of_decide_eq_false D;refine aa.some ?_;by_cases v:0<=gx p o
 ·have q:=ZB v l A;rw[<-s] at q;have R:l.length<=k:=by
   have: ¬((k:Int)<l.length):=λe=>Q ⟨e,q⟩;omega
  rw[fG R] at s;rw[<-s];dsimp only at q⊢;rw[bp q,Bool.and_true]
 have q:=MG (O:gx p o<0) l A;have r:=MG (O:gx p o<0) l (cD _);rw[cT] at r;rw[<-s] at q;rw[r.1,r.2,vu];exact Prod.ext q.1 q.2
end
set_option maxRecDepth 100000
section
def nu(B:Nat)(a:az):Prop:=a.aU.length<=B
def oq(B:Nat)(l:List az):Prop:=l.length<=B/\ ∀a∈l,nu B a
def q4(B:Nat)(a:b7):Prop:=a.array.length<=B/\oq B a.bD
def lP(B:Nat):Nat->Expr->Prop
 |0,_=>False
 |m+1,e=>nu B e.index/\q4 B e.read/\e.bj.length<=B/\ ∀k∈e.bj,lP B m k
def ow(B m:Nat)(s:Stmt):Prop:=q4 B s.write/\lP B m s.value
def ot(B:Nat)(l:Loop):Prop:=oq B l.lo/\oq B l.aD
def tb(B m:Nat)(x:Part):Prop:=(x.nest.length<=B/\ ∀l∈x.nest,ot B l)/\x.body.length<=B/\ ∀s∈x.body,ow B m s
def pH(B:Nat)(x:cx):Prop:=x.name.length<=B/\x.bT.length<=B
def ov(B m:Nat)(p:Prog):Prop:=(p.aY.length<=B/\ ∀x∈p.aY,pH B x)/\p.parts.length<=B/\ ∀x∈p.parts,tb B m x
theorem Pu: ∀{m:Nat} {e:Expr},lP 1048576 m e-> ∀j,tc j e
 |0,e,h,_=>h.elim
 |m+1,e,h,0=>trivial
 |m+1,e,h,j+1=>by
  obtain⟨c,b,n,d⟩:=h;unfold nu at c;refine⟨O,?_,⟨?_,λa i=>?_⟩,λk l=>Pu (d k l) j⟩
  ·unfold hG;omega
  ·have:=b.2.1;omega
  have:=b.2.2 a i;unfold nu at this;unfold hG;omega
theorem G5{l:List az}(h:oq 1048576 l):ju l:=⟨by have:=h.1;omega,λa b=>by have:=h.2 a b;unfold nu at this;unfold hG;omega⟩
variable {l:Loop}{m C D n:Nat}{p:Prog}{w v:Int->Option Int}{P Q:Prop}{x:Part}{R:Type}{g:R->Int->Option Int}{c:R->Nat}{s:Stmt}{a:List R}
theorem aej(h:ov 1048576 m p):g' p:=by obtain⟨⟨n,i⟩,o,k⟩:=h;refine⟨⟨O,λx a=>by have:=(i x a).2;omega⟩,O,λx a=>?_⟩;obtain⟨⟨q,b⟩,r,c⟩:=k x a;exact⟨⟨O,λl d=>⟨G5 (b l d).1,G5 (b l d).2⟩⟩,O,λs e=>⟨G5 (c s e).1.2,Pu (c s e).2 _⟩⟩
def kJ{a:Type}(c:a->Nat)(l:List a):Nat:=l.length+(l.map c).sum
def uH(a:az):Nat:=a.aU.length
def IW(a:b7):Nat:=kJ uH a.bD
def BV:Nat->Expr->Nat
 |0,_=>0
 |m+1,e=>uH e.index+(IW e.read+kJ (BV m) e.bj)
def IZ(m:Nat)(s:Stmt):Nat:=IW s.write+BV m s.value
def IX(l:Loop):Nat:=kJ uH l.lo+kJ uH l.aD
def QQ(m:Nat)(x:Part):Nat:=kJ IX x.nest+kJ (IZ m) x.body
def IY(x:cx):Nat:=x.bT.length
def ai8(m:Nat)(p:Prog):Nat:=kJ IY p.aY+kJ (QQ m) p.parts
def eC(w:Int->Option Int)(C:Nat)(P:Prop):Prop:= ∀left:Int,0<=left->left<=1048576-> ∃r,w left=some r/\(r= -1\/(0<=r/\r+C<=left/\P))
theorem eC.mono(h:eC w C P)(d:D<=C)(k:P->Q):eC w D Q:=λleft a b=>by obtain⟨r,e,c⟩:=h left a b;exact⟨r,e,c.imp id λh=>⟨h.1,O,k h.2.2⟩⟩
theorem eC.two(h:eC w C P)(k:eC v D Q):eC (λleft=>Option.bind (w left) λa=>bif decide (a<0) then some (-1) else v a) (C+D) (P/\Q):=λleft b c=>by
 obtain⟨r,e,d⟩:=h left b c;dsimp only;rw[e];rcases d with rfl|⟨i,q,l⟩
 ·exact⟨-1,rfl,.inl rfl⟩
 obtain⟨s,m,n⟩:=k r i O;refine⟨s,?_,?_⟩
 ·show(bif decide (r<0) then some (-1) else v r)=some s;rw[bs O];exact m
 rcases n with rfl|⟨o,x,p⟩
 ·exact .inl rfl
 exact .inr ⟨o,O,l,p⟩
theorem eC.end(h:eC w C P):eC (λleft=>Option.bind (w left) λa=>bif decide (a<0) then some (-1) else some a) C P:=
 (h.two (v:=λx=>some x) (D:=0) (Q:=True) λleft b _=>⟨left,rfl,.inr ⟨b,O,trivial⟩⟩).mono (cD _) And.left
theorem eC.len{k:Nat}(i:k<=9223372036854775807)(h:eC v D Q):eC (λleft=>bif decide (wr (left-(k:Int))<0) then some (-1) else v (wr (left-(k:Int)))) (k+D) (k<=1048576/\Q):=λleft l m=>by
 dsimp only;rw[bf O];by_cases a:left-(k:Int)<0
 ·rw[bp a];exact⟨-1,rfl,.inl rfl⟩
 rw[bs a];obtain⟨s,e,b⟩:=h (left-(k:Int)) O O;refine⟨s,e,?_⟩;rcases b with rfl|⟨c,n,d⟩
 ·exact .inl rfl
 exact .inr ⟨c,O,O,d⟩
theorem Yn{a:Type}{l:List a}{i:Nat}{x:a}(c:a->Nat)(h:l[i]? =some x):((l.take (i+1)).map c).sum=((l.take i).map c).sum+c x:=by rw[fw h];simp
theorem adq{P:R->Prop}(X:a.length<=1048576)(f:2000000<=n)(A: ∀x∈a,eC (g x) (c x) (P x)):
  eC (λleft=>bc (λb ((q,k):Int×Int)=>
   bif decide (k<(a.length:Int)) then(
    Option.bind (av a k) λB=>
    Option.bind (g B q) λw=>
    bif decide (w<0) then(
     some (-1)
    ) else(
     b (w,wr (k+1))
    )
   ) else(
    some q
   )
  ) n (left,0)) (a.map c).sum (∀x∈a,P x):=λleft C t=>by
 refine aa.loop (Q:=λr=>r= -1\/(0<=r/\r+((a.map c).sum:Nat)<=left/\ ∀x∈a,P x)) (λz:Int×Int=> ∃j:Nat,z.2=j/\j<=a.length/\0<=z.1/\z.1+(((a.take j).map c).sum:Nat)<=left/\ ∀x∈a.take j,P x) (λz=>a.length-z.2.toNat) ?_ n _ ⟨0,rfl,O,C,a1,λx d=>by simp at d⟩ Z;rintro l ⟨D,u⟩ ⟨j,rfl,v,m,o,p⟩ F;dsimp only at m o⊢;refine aR (λG=>?_) λH=>aa.some (.inr ⟨m,by rw[fG O] at o;exact o,by rw[fG O] at p;exact p⟩);have d:=bg (O:j<a.length);generalize a[j]=x at d;obtain⟨s,e,K⟩:=A x (bC d) D m O;refine ag (a' d) (ag e ?_);rcases K with rfl|⟨L,E,W⟩
 ·exact aR (λ_=>aa.some (.inl rfl)) λh=>bt h (by decide)
 refine aR (λh=>bt h O) λ_=>?_;rw[bf O];refine F _ ⟨j+1,Z,O,L,by dsimp only;rw[Yn c d];omega,λy i=>?_⟩ Z;rw[fw d] at i;rcases ef.1 i with i|i
 ·exact p y i
 rw[kU.1 i];exact W
theorem th{P:R->Prop}(i:a.length<=9223372036854775807)(k:2000000<=n)(l: ∀x∈a,eC (g x) (c x) (P x)):
  eC (λleft=>bif decide (wr (left-(a.length:Int))<0) then some (-1) else bc (λb ((e,d):Int×Int)=>
   bif decide (d<(a.length:Int)) then(
    Option.bind (av a d) λm=>
    Option.bind (g m e) λh=>
    bif decide (h<0) then(
     some (-1)
    ) else(
     b (h,wr (d+1))
    )
   ) else(
    some e
   )
  ) n (wr (left-(a.length:Int)),0)) (kJ c a) (a.length<=1048576/\ ∀x∈a,P x):=λleft o p=>by
 by_cases q:a.length<=1048576
 ·exact(eC.len i (adq q k l)) left o p
 dsimp only;rw[bf O,bp O];exact⟨-1,rfl,.inl rfl⟩
theorem Nz{a:List Int}(h:a.length<=9223372036854775807):eC (zK n a) a.length (a.length<=1048576):=by have:=(eC.len h (v:=λx=>some x) (D:=0) (Q:=True) λleft b _=>⟨left,rfl,.inr ⟨b,O,trivial⟩⟩).mono (cD _) And.left;exact this
theorem adp{a:cx}(h:pH 9223372036854775807 a):eC (E2 n a) (IY a) (pH 1048576 a):=(eC.len h.1 ((Nz h.2).end)).mono (Nat.le_add_left _ _) id
theorem ab5(b:2000000<=n){a:List cx}(h:a.length<=9223372036854775807)(c: ∀x∈a,pH 9223372036854775807 x):eC (Ep n a) (kJ IY a) (a.length<=1048576/\ ∀x∈a,pH 1048576 x):=th h b λx d=>adp (c x d)
theorem OM{a:az}(h:nu 9223372036854775807 a):eC (DA n a) (uH a) (nu 1048576 a):=(Nz h).end
theorem Ga(b:2000000<=n){a:List az}(h:oq 9223372036854775807 a):eC (yf n a) (kJ uH a) (oq 1048576 a):=th h.1 b λx c=>OM (h.2 x c)
theorem ON(b:2000000<=n){a:b7}(h:q4 9223372036854775807 a):eC (DB n a) (IW a) (q4 1048576 a):=(eC.len h.1 ((Ga b h.2).end)).mono (Nat.le_add_left _ _) id
theorem NA: ∀(m n:Nat) {e:Expr},2000000+m<=n->lP 9223372036854775807 m e->eC (qT n e) (BV m e) (lP 1048576 m e)
 |0,n,e,_,h=>h.elim
 |m+1,n,e,r,h=>by
  obtain⟨n,rfl⟩: ∃j,n=j+1:=⟨n-1,O⟩
  obtain⟨l,o,p,q⟩:=h;have i:eC (E1 n (qT n) e.bj) (kJ (BV m) e.bj) (e.bj.length<=1048576/\ ∀k∈e.bj,lP 1048576 m k):=th p O λk i=>NA m n O (q k i);exact eC.mono ((OM (n:=n) l).two ((ON (n:=n) O o).two i.end)) (cD _) (λ⟨a,b,c,d⟩=>⟨a,b,c,d⟩)
theorem ab2(a:2000000+m<=n)(h:ow 9223372036854775807 m s):eC (Fw n s) (IZ m s) (ow 1048576 m s):=(ON O h.1).two ((NA m n a h.2).end)
theorem aad(b:2000000+m<=n){a:List Stmt}(h:a.length<=9223372036854775807)(c: ∀x∈a,ow 9223372036854775807 m x):eC (EY n a) (kJ (IZ m) a) (a.length<=1048576/\ ∀x∈a,ow 1048576 m x):=th h O λx d=>ab2 b (c x d)
theorem adL(a:2000000<=n)(h:ot 9223372036854775807 l):eC (Fy n l) (IX l) (ot 1048576 l):=(Ga a h.1).two ((Ga a h.2).end)
theorem ado(b:2000000<=n){a:List Loop}(h:a.length<=9223372036854775807)(c: ∀x∈a,ot 9223372036854775807 x):eC (EZ n a) (kJ IX a) (a.length<=1048576/\ ∀x∈a,ot 1048576 x):=th h b λx d=>adL b (c x d)
theorem ab4(a:2000000+m<=n)(h:tb 9223372036854775807 m x):eC (Fx n x) (QQ m x) (tb 1048576 m x):=(ado O h.1.1 h.1.2).two ((aad a h.2.1 h.2.2).end)
theorem ab3(a:2000000+m<=n)(h:ov 9223372036854775807 m p):eC (D5 n p) (ai8 m p) (ov 1048576 m p):=
 (ab5 O h.1.1 h.1.2).two (eC.end (th h.2.1 O λx b=>ab4 a (h.2.2 x b)))
theorem si{g:R->Option R}{z:R}(A:a.length<=1048576)(B:2000000<=n)(o: ∀x∈a,g x=some x):
  (Option.bind (mk (a.length:Int) z) λp=>
 bc (λc ((l,h):(List R)×Int)=>
  bif decide (h<(a.length:Int)) then(
   Option.bind (av a h) λq=>
   Option.bind (g q) λr=>
   Option.bind (av l h) λC=>
   Option.bind (ca l h r) λs=>
   c (s,wr (h+1))
  ) else(
   some l
  )
 ) n (p,0))=some a:=by
 refine aa.eq (ag (G8 ⟨O,O⟩ z) (aa.loop (λx:List R×Int=> ∃j:Nat,x.2=j/\j<=a.length/\x.1=a.take j++List.replicate (a.length-j) z) (λx=>a.length-x.2.toNat) ?_ n _ ⟨0,rfl,O,a1⟩ Z));rintro m ⟨b,i⟩ ⟨j,rfl,D,rfl⟩ w;dsimp only;have d:(a.take j++List.replicate (a.length-j) z).length=a.length:=bX
 refine aR (λe=>?_) λy=>aa.some (by rw[show a.length-j=0 by omega,fG O];simp);have e:j<a.length:=O
 have k:=bg e;generalize a[j]=x at k;refine ag (a' k) (ag (o x (bC k)) (ag (a' (bg (show j<_ by rw[d];exact e))) (ag (dS (by rw[d];omega) _) ?_)));rw[bf O,cV];refine w _ ⟨j+1,Z,O,?_⟩ Z;dsimp only;rw[fw k,mn _ _ (by rw[cq];omega),cq,pe O,kp,show a.length-j=(a.length-(j+1))+1 by omega,List.replicate_succ,sI];simp
theorem NL(b:2000000<=n){a:List Int}(h:a.length<=1048576):vQ n a=some a:=by
 unfold vQ
 have:=si (z:=(0:Int)) (g:=λx=>some x) h b λx _=>rfl;exact this
theorem OK(b:2000000<=n){a:az}(h:nu 1048576 a):yo n a=some a:=by unfold yo;rw[NL b h];rfl
theorem F'(b:2000000<=n){a:List az}(h:oq 1048576 a):ye n a=some a:=si h.1 b λx c=>OK b (h.2 x c)
theorem OL(b:2000000<=n){a:b7}(h:q4 1048576 a):yp n a=some a:=by unfold yp;rw[F' b h.2];rfl
theorem adm(b:2000000<=n){a:cx}(h:pH 1048576 a):y4 n a=some a:=by unfold y4;rw[NL b h.2];rfl
theorem NM: ∀(m n:Nat) {e:Expr},2000000+m<=n->lP 1048576 m e->po n e=some e
 |0,n,e,_,h=>h.elim
 |m+1,n,e,l,h=>by
  obtain⟨n,rfl⟩: ∃j,n=j+1:=⟨n-1,O⟩
  obtain⟨b,c,d,i⟩:=h;have a:EX n (po n) e.bj=some e.bj:=si d O λk a=>NM m n O (i k a);unfold po;rw[OK O b,OL O c,a];cases e;rfl
theorem abZ(a:2000000+m<=n)(h:ow 1048576 m s):zH n s=some s:=by unfold zH;rw[OL O h.1,NM m n a h.2];rfl
theorem aac(b:2000000+m<=n){a:List Stmt}(h:a.length<=1048576)(c: ∀x∈a,ow 1048576 m x):EU n a=some a:=si h O λx d=>abZ b (c x d)
theorem adI(a:2000000<=n)(h:ot 1048576 l):zJ n l=some l:=by unfold zJ;rw[F' a h.1,F' a h.2];rfl
theorem adl(b:2000000<=n){a:List Loop}(h:a.length<=1048576)(c: ∀x∈a,ot 1048576 x):EW n a=some a:=si h b λx d=>adI b (c x d)
theorem ab1(a:2000000+m<=n)(h:tb 1048576 m x):zI n x=some x:=by unfold zI;rw[adl O h.1.1 h.1.2,aac a h.2.1 h.2.2];rfl
theorem ab0(b:2000000+m<=n)(h:ov 1048576 m p):uW n p=some p:=by unfold uW;rw[show Eo n p.aY=some p.aY from si h.1.1 O (λx a=>adm O (h.1.2 x a)),show EV n p.parts=some p.parts from si h.2.1 O λx a=>ab1 b (h.2.2 x a)];rfl
theorem tv{g:R->R->Option Bool}(q:a.length<=1048576)(r:2000000<=n)(h: ∀x∈a,g x x=some true):
  (bif !decide ((a.length:Int)=(a.length:Int)) then(
  some false
 ) else(
  bc (λb (c:Int)=>
   bif decide (c<(a.length:Int)) then(
    Option.bind (av a c) λk=>
    Option.bind (av a c) λl=>
    Option.bind (g k l) λm=>
    bif !m then(
     some false
    ) else(
     b (wr (c+1))
    )
   ) else(
    some true
   )
  ) n 0
 ))=some true:=by rw[bp rfl];refine aa.eq (bS (aa.loop (λx:Int=> ∃j:Nat,x=j/\j<=a.length) (λx=>a.length-x.toNat) ?_ n _ ⟨0,rfl,O⟩ O));rintro d i ⟨j,rfl,s⟩ o;refine aR (λp=>?_) λ_=>aa.some rfl;have e:=bg (O:j<a.length);refine ag (a' e) (ag (a' e) (ag (h _ (bC e)) ?_));rw[bf O];exact bS (o _ ⟨j+1,O,O⟩ O)
theorem NT(k:2000000<=n){a:List Int}(h:a.length<=1048576):vR n a a=some true:=by unfold vR;rw[bp rfl];refine aa.eq (bS (aa.loop (λx:Int=> ∃j:Nat,x=j/\j<=a.length) (λx=>a.length-x.toNat) ?_ n _ ⟨0,rfl,O⟩ O));rintro b i ⟨j,rfl,l⟩ d;refine aR (λe=>?_) λ_=>aa.some rfl;have c:=bg (O:j<a.length);refine ag (a' c) (ag (a' c) (dZ (λh=>bt rfl h) λ_=>?_));rw[bf O];exact d _ ⟨j+1,O,O⟩ O
theorem OZ(b:2000000<=n){a:az}(h:nu 1048576 a):yq n a a=some true:=by unfold yq;rw[NT b h];exact aa.eq (ag rfl (bS (dZ (λh=>bt rfl h) λ_=>aa.some rfl)))
theorem Ge(b:2000000<=n){a:List az}(h:oq 1048576 a):yg n a a=some true:=tv h.1 b λx c=>OZ b (h.2 x c)
theorem O0(b:2000000<=n){a:b7}(h:q4 1048576 a):yr n a a=some true:=by unfold yr;exact aa.eq (dZ (λh=>bt rfl h) λ_=>ag (Ge b h.2) (aa.some rfl))
theorem ac'(b:2000000<=n){a:cx}(h:pH 1048576 a):y5 n a a=some true:=by unfold y5;exact aa.eq (dZ (λh=>bt rfl h) λ_=>ag (NT b h.2) (aa.some rfl))
theorem NU: ∀(m n:Nat) {e:Expr},2000000+m<=n->lP 1048576 m e->pn n e e=some true
 |0,n,e,_,h=>h.elim
 |m+1,n,e,l,h=>by
  obtain⟨n,rfl⟩: ∃j,n=j+1:=⟨n-1,O⟩
  obtain⟨b,c,d,i⟩:=h;have a:E6 n (pn n) e.bj e.bj=some true:=tv d O λk a=>NU m n O (i k a);unfold pn;exact aa.eq (dZ (λh=>bt rfl h) λ_=>dZ (λh=>bt rfl h) λ_=>ag (OZ O b) (bS (ag (O0 O c) (bS (ag a (bS (aa.some rfl)))))))
theorem abA(a:2000000+m<=n)(h:ow 1048576 m s):zL n s s=some true:=by unfold zL;exact aa.eq (ag (O0 O h.1) (bS (ag (NU m n a h.2) (bS (aa.some rfl)))))
theorem aeg(a:2000000<=n)(h:ot 1048576 l):Aa n l l=some true:=by unfold Aa;exact aa.eq (ag (Ge a h.1) (bS (ag (Ge a h.2) (bS (aa.some rfl)))))
theorem abD(a:2000000+m<=n)(h:tb 1048576 m x):zN n x x=some true:=by unfold zN;exact aa.eq (ag (show E5 n x.nest x.nest=some true from tv h.1.1 O λl b=>aeg O (h.1.2 l b)) (bS (ag (show E3 n x.body x.body=some true from tv h.2.1 O λs c=>abA a (h.2.2 s c)) (bS (aa.some rfl)))))
theorem abC(b:2000000+m<=n)(h:ov 1048576 m p):C5 n p p=some true:=by unfold C5;exact aa.eq (ag (show Er n p.aY p.aY=some true from tv h.1.1 O λx a=>ac' O (h.1.2 x a)) (bS (ag (show E4 n p.parts p.parts=some true from tv h.2.1 O λx a=>abD b (h.2.2 x a)) (bS (aa.some rfl)))))
end
theorem abB(n:Nat)(s:Step):zM n s s=some true:=by unfold zM;exact aa.eq (dZ (λh=>bt rfl h) λ_=>dZ (λh=>bt rfl h) λ_=>dZ (λh=>bt rfl h) λ_=>dZ (λh=>bt rfl h) λ_=>aa.some rfl)
theorem SP{m:Nat}{p:Prog}(i:ov 9223372036854775807 m p)(a:Int):Jb (30000000+m) p a=some true:=by
 have b:2000000+m<=30000000+m:=O
 generalize q:30000000+m=n at b;obtain⟨r,e,k⟩:=ab3 b i 1048576 O O;unfold Jb;refine aa.eq (ag e ?_);rcases k with rfl|⟨s,_,c⟩
 ·exact aR (λ_=>aa.some rfl) λh=>bt h (by decide)
 have d:=ab0 b c;have hs:=aej c;refine aR (λh=>bt h O) λ_=>ag d (ag (YW O hs a) (ag d (ag (Yd O hs a) ?_)));refine aa.aI (λz=>z=false) (λj l=>ag (abB _ _) (bS (l _ a1))) λz o=>?_;subst o;exact bS (ag d (ag (abC b c) (bS (aa.some rfl))))
end Go.Lift
