/- Tools. -/
import Derived.Test.YteifkndfpnkalabGreatVLiftLaw
set_option maxRecDepth 110000000
set_option linter.unusedVariables false
namespace Go.Lift
open Go
open Option renaming some -> aa, bind -> bQ
open Bool renaming true -> ab, false -> al, and_eq_true -> cB
open Decidable renaming decide -> aj
open List renaming length_append -> iI, all_eq_true -> kr, replicate -> dh, map_cons -> hg
abbrev N:Nat:=110000000
section
def dot:List Int->List Int->Int
 |c::cs,x::xs=>c*x+dot cs xs
 |_,_=>0
def c3(m:Int)(x:Int):Prop:= -m<=x/\x<=m
variable {a:aE}{b c x d aL v M:Int}{i k n:Nat}{p l:List Int}{R:Type}{A B:Option R}{o:List Loop}{s:List UInt8}{Q:R->Prop}
theorem CH{a:Int}(i:0<=a)(l:0<=b)(d:c3 a c)(e:c3 b x):c3 (a*b) (c*x):=by
 obtain⟨m,n⟩:=d;obtain⟨o,p⟩:=e;constructor
 ·have h:=o2 (O:0<=a+c) (O:0<=b+x);have k:=o2 (O:0<=a-c) (O:0<=b-x)
  grind
 have h:=o2 (O:0<=a+c) (O:0<=b-x);have k:=o2 (O:0<=a-c) (O:0<=b+x)
 grind
theorem HM(a:List Int):dot a []=0:=by cases a<;>rfl
theorem OH: ∀{cs a:List Int} {c x:Int},cs[a.length]? =aa c->dot cs (a++[x])=dot cs a+c*x
 | [],a,c,x,h=>by simp at h
 |d::cs,[],c,x,h=>by simp at h;subst h;simp[dot,HM]
 |d::cs,y::a,c,x,h=>by
  have h:cs[a.length]? =aa c:=by simpa using h
  simp only[List.cons_append,dot];rw[OH h];omega
theorem OG{d e:List Int}(b:d[i]? =aa c)(a:e[i]? =aa x):dot d (e.take (i+1))=dot d (e.take i)+c*x:=by have aL:=(d0.1 a).1;rw[eK,a];exact OH (by simpa[Nat.min_eq_left (Nat.le_of_lt aL)] using b)
theorem Iw{M:Int}(a:0<=M): ∀{cs xs:List Int},(∀c∈cs,c3 9 c)->(∀x∈xs,c3 M x)->c3 (9*M*xs.length) (dot cs xs)
 | [],xs,_,_=>by
  have:0<=9*M*(xs.length:Int):=o2 O O;simp only[dot,c3];omega
 |d::cs,[],_,_=>by simp[dot,c3]
 |d::cs,y::xs,b,i=>by
  have k:=Iw a (cs:=cs) (xs:=xs) (λc h=>b c (by simp[h])) λx h=>i x (by simp[h]);have l:=CH O a (b d bl) (i y bl);have e:9*M*((y::xs).length:Int)=9*M*(xs.length:Int)+9*M:=by simp[Int.mul_add]
  rw[e];simp only[dot,c3] at*;omega
def dR(a b:Int):List Int:=(List.range (b-a).toNat).map (fun(i:Nat)=>a+(i:Int))
theorem ac9{a:Int}:v∈dR a aL↔a<=v/\v<aL:=by
 simp only[dR,List.mem_map,List.mem_range];constructor
 ·rintro⟨i,aL,rfl⟩;omega
 intro h;exact⟨(v-a).toNat,O,O⟩
theorem m0{a:Int}(h:b<=a):dR a b=[]:=by unfold dR;rw[show(b-a).toNat=0 by omega];rfl
theorem ue{a:Int}(h:b<=a):dR b (a+1)=dR b a++[a]:=by
 unfold dR;rw[show(a+1-b).toNat=(a-b).toNat+1 by omega,p4,ic]
 grind
theorem AS{a:Int}(b:a<=v)(c:v<aL):dR a aL=dR a v++v::dR (v+1) aL:=by
 obtain⟨k,d⟩: ∃k:Nat,aL=v+1+k:=⟨(aL-v-1).toNat,O⟩
 subst d;clear c;induction k with
 |zero=>
  rw[show v+1+((0:Nat):Int)=v+1 by omega,ue b,m0 (hA _)]
 |succ k e=>
  rw[show v+1+((k+1:Nat):Int)=v+1+(k:Int)+1 by omega,ue O,e,ue O];simp
theorem Cl{k:Type}{f:k->Option Bool}{p:k->Bool}{l:List k}(q: ∀x∈l,f x=aa (p x))(D:l.length<n)(s:l.length<=500000000):
  ∃r:Int,bz (λa (b:Int)=>bif aj (b<(l.length:Int)) then(bQ (aB l b) λd=>bQ (f d) λe=>bif e then(aa b) else(a (wr (b+1)))) else(aa (-1))) n 0=aa r/\aj (0<=r)=l.any p:=by
 suffices h:ae (bz (λa (b:Int)=>bif aj (b<(l.length:Int)) then(bQ (aB l b) λd=>bQ (f d) λe=>bif e then(aa b) else(a (wr (b+1)))) else(aa (-1))) n 0) (λr=>decide (0<=r)=l.any p) by exact h
 refine ae.loop (λx:Int=>0<=x/\x<=l.length/\(l.take x.toNat).any p=al) (λx:Int=>l.length-x.toNat) ?_ n 0 ⟨O,O,bl⟩ ca;rintro i x ⟨o,F,G⟩ w;refine a1 (λm=>?_) λz=>?_
 ·obtain⟨y,A,c⟩:=pj o m;have hm:=bX c;refine ah A (ah (q y hm) (ae.cond (λB=>ae.some ?_) λC=>?_))
  ·rw[show l.any p=ab from iW.2 ⟨y,hm,B⟩];simp[o]
  rw[bc O];refine w _ ⟨O,O,?_⟩ O;rw[show(x+1).toNat=x.toNat+1 by omega,eK,c]
  grind
 refine ae.some ?_;have H:x.toNat=l.length:=O
 grind
theorem Ek{f:Int->Option Bool}{p:Int->Bool}(b: ∀x∈l,f x=aa (p x))(c:l.length<n)(a:l.length<=500000000):oz n l f=aa (l.any p):=by
 obtain⟨r,d,e⟩:=Cl b c a;unfold oz yY
 grind
theorem y0{f:aE->Option Bool}{p:aE->Bool}{l:List aE}(b: ∀x∈l,f x=aa (p x))(c:l.length<n)(a:l.length<=500000000):ps n l f=aa (l.any p):=by
 obtain⟨r,d,e⟩:=Cl b c a;unfold ps Dy
 grind
theorem WJ{f:Stmt->Option Bool}{p:Stmt->Bool}{l:List Stmt}(b: ∀x∈l,f x=aa (p x))(c:l.length<n)(a:l.length<=500000000):Dv n l f=aa (l.any p):=by
 obtain⟨r,d,e⟩:=Cl b c a;unfold Dv Kl
 grind
theorem Vj{f:cx->Option Bool}{p:cx->Bool}{l:List cx}(b: ∀x∈l,f x=aa (p x))(c:l.length<n)(a:l.length<=500000000):Dr n l f=aa (l.any p):=by
 obtain⟨r,d,e⟩:=Cl b c a;unfold Dr Kf
 grind
theorem p0{k:Type}{l:List k}{p:Nat->k->Bool}{Q:Bool->Prop}{m:(Int->Option Bool)->Int->Option Bool}(z:l.length<n)(r:l.length<=500000000)
  (b: ∀a (i:Nat) x,l[i]? =aa x->(p i x=ab->ae (a ((i:Int)+1)) Q)->(p i x=al->Q al)->ae (m a (i:Int)) Q)
  (e: ∀a,(∀(i:Nat) x,l[i]? =aa x->p i x=ab)->ae (m a (l.length:Int)) Q) (c:(∃(i:Nat) (x:k),l[i]? =aa x/\p i x=al)->Q al):ae (bz m n 0) Q:=by
 refine ae.loop (λx:Int=> ∃i:Nat,x=i/\i<=l.length/\ ∀(j:Nat) y,j<i->l[j]? =aa y->p j y=ab) (λx:Int=>l.length-x.toNat) ?_ n 0 ⟨0,rfl,O,λj y h=>O⟩ ca;rintro a x ⟨i,rfl,A,B⟩ s;by_cases d:i<l.length
 ·have o:=bC d;refine b a i _ o (λq=>s _ ⟨i+1,O,O,λj y C D=>?_⟩ O) (λq=>c ⟨i,_,o,q⟩)
  grind
 have w:i=l.length:=O
 grind
def de(a:aE):Bool:=aj (a.aM.length=4)&&(aj (-99<=a.const/\a.const<=99)&&a.aM.all λc=>decide (-9<=c/\c<=9))
theorem fT(h:de a=ab):a.aM.length=4/\c3 99 a.const/\ ∀c∈a.aM,c3 9 c:=by simp only[de,cB,decide_eq_true_eq,kr] at h;exact⟨h.1,h.2.1,h.2.2⟩
theorem jg(n:Nat)(x a b:Int):fz n x a b=aa (aj (a<=x/\x<=b)):=by unfold fz;by_cases c:a<=x<;>by_cases d:x<=b<;>simp[aS,c,d]
theorem TK(h:5500000<=n)(a:aE)(i:a.aM.length<=1100000):v' n a=aa (de a):=by
 have d: ∀x∈a.aM,yZ n x=aa (!decide (-9<=x/\x<=9)):=λx _=>by unfold yZ;rw[jg];rfl
 have bW:=Ek (n:=n) d O O;unfold v' Gh;rw[jg];simp only[aS,bQ];rw[bW];unfold de;have e:(a.aM.any λx=> !decide (-9<=x/\x<=9))= !(a.aM.all λc=>decide (-9<=c/\c<=9)):=by
  grind
 rw[e];by_cases b:a.aM.length=4
 ·rw[bS (show(a.aM.length:Int)=4 by omega),bS b]
  grind
 rw[bN (show¬(a.aM.length:Int)=4 by omega),bN b];rfl
theorem zq(n:Nat)(x m:Int)(c:0<=m/\m<=1000000000):rf n x m=aa (aj (-m<=x/\x<=m)):=by
 unfold rf;rw[bc O];by_cases a: -m<=x<;>by_cases b:x<=m
 ·simp[aS,a,b]
 ·simp[aS,a,b]
 ·simp[aS,a,b]
 simp[aS,a,b]
theorem Kk(y:5500000<=n)(a:aE)(A:a.aM.length<=1100000):vW n a=aa (de a):=by
 refine ae.eq ?_;unfold vW;refine p0 (l:=a.aM) (p:=λ_ c=>decide (-9<=c/\c<=9)) O O (λb i x k m o=>?_) (λb d=>?_) (λ⟨i,x,k,q⟩=>?_)
 ·rw[bS (show(i:Int)<(a.aM.length:Int) by have:=(d0.1 k).1;omega)];refine ah (bo k) (ah (zq n x 9 O) ?_);have aL:=(d0.1 k).1;cases q:aj (-9<=x/\x<=9) with
  |true=>show ae (b _) _;rw[bc O];exact m q
  |false=>exact ae.some (o q)
 ·rw[bN (show¬(a.aM.length:Int)<(a.aM.length:Int) by omega)];have e:a.aM.all (λc=>decide (-9<=c/\c<=9))=ab:=gy.2 λc s=>by obtain⟨i,aL⟩:=kW s;exact d i c aL
  refine ae.cond (λh=>(by cases h)) λ_=>?_;unfold de;rw[e];refine ae.aS (λz:Bool=>z=(aj (a.aM.length=4)&&(aj (-99<=a.const/\a.const<=99)&&ab))) (λj r=>?_) λz w=>ae.some w;refine a1 (λh=>ah (zq n a.const 99 O) (r _ ?_)) λh=>r _ ?_
  ·rw[bS (O:a.aM.length=4)];simp
  rw[bN (show¬a.aM.length=4 by omega)];rfl
 unfold de
 grind
def gl(a:aE)(p:List Int):Int:=a.const+dot a.aM p
def DP(M:Int)(p:List Int):Prop:= ∀x∈p,c3 M x
theorem A8(b:de a=ab)(k:p.length<=4)(c:0<=M/\M<=1000000000)(d:DP M p)(i:Nat)(l:i<=p.length):c3 1000000000000 (a.const+dot a.aM (p.take i)):=by
 obtain⟨m,n,e⟩:=fT b;have o:=Iw (M:=M) c.1 (cs:=a.aM) (xs:=p.take i) e λx h=>d x (gn h);have q:(p.take i).length<=4:=ca
 have r:9*M*((p.take i).length:Int)<=9*M*4:=Int.mul_le_mul_of_nonneg_left O O;simp only[c3] at*;omega
theorem abh(D:5500000<=n)(e:de a=ab)(o:p.length<=4)(h:0<=M/\M<=1000000000)(l:DP M p):oB n a p=aa (gl a p):=by
 obtain⟨F,G,w⟩:=fT e;refine ae.eq ?_;unfold oB;refine ae.loop (λx:Int×Int=> ∃i:Nat,x.2=i/\i<=p.length/\x.1=a.const+dot a.aM (p.take i)) (λx=>p.length-x.2.toNat) ?_ n _ ⟨0,rfl,O,by simp[HM]⟩ ca;rintro m ⟨x,k⟩ ⟨i,q,y,r⟩ z;dsimp only at q r⊢;subst q;refine a1 (λd=>?_) λA=>ae.some ?_
 ·have d:i<p.length:=O
  have b:=bC d;have c:=bC (O:i<a.aM.length);have cI:=OG c b;have B:=A8 e o h l i y;have s:=A8 e o h l (i+1) O;rw[cI] at s;have C:=CH O h.1 (w _ (bX c)) (l _ (bX b));refine ah (bo b) (ah (bo c) ?_);simp only[c3] at B s C;rw[bc (n:=a.aM[i]*p[i]) O,bc O,bc O];refine z _ ⟨i+1,Z,O,?_⟩ Z
  grind
 have:i=p.length:=O
 rw[r,this,dZ];rfl
theorem aap(K:5500000<=n)(d:de a=ab)(q:p.length<=4)(e:0<=M/\M<=1000000000)(l:DP M p):oV n a p=aa (gl a p):=by
 obtain⟨L,Q,A⟩:=fT d;refine ae.eq ?_;unfold oV;refine ae.loop (λx:Int×Int=> ∃i:Nat,x.2=i/\i<=p.length/\x.1=a.const+dot a.aM (p.take i)) (λx=>p.length-x.2.toNat) ?_ n _ ⟨0,rfl,O,by simp[HM]⟩ ca;rintro m ⟨x,k⟩ ⟨i,r,B,s⟩ C;dsimp only at r s⊢;subst r;refine ae.aS (λz=>z=aj (i<p.length)) (λj w=>a1 (λh=>w _ ?_) λh=>w _ ?_) λz D=>?_
 ·rw[bS (O:i<p.length),bS (show(i:Int)<(a.aM.length:Int) by omega)]
 ·rw[bN (show¬i<p.length by omega)]
 subst D;refine a1 (λo=>?_) λF=>ae.some ?_
 ·have b:=bC o;have c:=bC (O:i<a.aM.length);have cI:=OG c b;have G:=A8 d q e l i B;have y:=A8 d q e l (i+1) O;rw[cI] at y;have H:=CH O e.1 (A _ (bX c)) (l _ (bX b));refine ah (bo c) (ah (bo b) ?_);simp only[c3] at G y H;rw[bc (n:=a.aM[i]*p[i]) O,bc O,bc O];refine C _ ⟨i+1,Z,O,?_⟩ Z
  grind
 have:i=p.length:=O
 rw[s,this,dZ];rfl
theorem b7(h:ae A Q):ae (bif ab then A else B) Q:=h
theorem b3(h:ae B Q):ae (bif al then A else B) Q:=h
def fl:List Int->Nat
 | []=>0
 |c::cs=>if fl cs=0 then(if c=0 then 0 else 1) else fl cs+1
theorem L5: ∀(l:List Int) (c:Int),fl (l++[c])=if c=0 then fl l else l.length+1
 | [],c=>by simp[fl]
 |d::l,c=>by
  have b:=L5 l c;simp only[List.cons_append,fl,b];by_cases a:c=0
  ·simp[a]
  simp[a]
theorem L4(h:l[i]? =aa c):fl (l.take (i+1))=if c=0 then fl (l.take i) else i+1:=by have aL:=(d0.1 h).1;rw[eK,h];show fl (l.take i++[c])=_;rw[L5,c6,zP (Nat.le_of_lt aL)]
theorem zB: ∀{l:List Int} {i:Nat} {c:Int},l[i]? =aa c->fl l<=i->c=0
 | [],i,c,h,_=>by simp at h
 |d::l,0,c,h,a=>by
  simp at h;subst h;simp only[fl] at a;by_cases b:fl l=0
  ·by_cases e:d=0
   ·exact e
   simp[b,e] at a
  simp[b] at a
 |d::l,i+1,c,h,a=>by
  have h:l[i]? =aa c:=by simpa using h
  refine zB h ?_;simp only[fl] at a;by_cases b:fl l=0
  ·omega
  rw[be b] at a;omega
def iu(a:aE):Prop:=a.aM.length<=1100000
def j1(l:List aE):Prop:=l.length<=1100000/\ ∀a∈l,iu a
theorem zL(r:5500000<=n)(e:iu a):oP n a=aa (fl a.aM:Int):=by
 have e:a.aM.length<=1100000:=e;refine ae.eq ?_;unfold oP;refine ae.loop (λx:Int×Int=> ∃i:Nat,x.2=i/\i<=a.aM.length/\x.1=(fl (a.aM.take i):Int)) (λx=>a.aM.length-x.2.toNat) ?_ n _ ⟨0,rfl,O,by simp[fl]⟩ ca;rintro c ⟨x,k⟩ ⟨i,h,s,l⟩ o;dsimp only at h l⊢;subst h;refine a1 (λb=>?_) λp=>ae.some ?_
 ·have b:i<a.aM.length:=O
  have bW:=bC b;have cI:=L4 bW;refine ae.aS (λz:Int=>z=(fl (a.aM.take (i+1)):Int)) (λj m=>ah (bo bW) (dL (λd=>m _ ?_) λd=>m _ ?_)) λz q=>?_
  ·rw[cI,be d,bc O];omega
  ·rw[cI,bg d,l]
  rw[bc O];exact o _ ⟨i+1,Z,O,q⟩ Z
 have:i=a.aM.length:=O
 grind
theorem Aw(q:5500000<=n)(o:iu a):f7 n a=aa (fl a.aM:Int):=by
 have o:a.aM.length<=1100000:=o;refine ae.eq ?_;unfold f7;refine ae.loop (λx:Int=> ∃i:Nat,x=i/\i<=a.aM.length/\fl a.aM=fl (a.aM.take i)) (λx=>x.toNat) ?_ n _ ⟨a.aM.length,rfl,O,by rw[dZ]⟩ ca;rintro b x ⟨i,rfl,r,c⟩ p;cases i with
 |zero=>
  refine ae.aS (λz=>z=al) (λj d=>a1 (λh=>br h (by decide)) λh=>d _ rfl) λz k=>?_;subst k;exact ae.some (by rw[c];rfl)
 |succ i=>
  have l:i<a.aM.length:=O
  have bW:=bC l;have cI:=L4 bW;have e:wr (((i+1:Nat):Int)-1)=(i:Int):=by rw[bc O];omega
  rw[e];refine ae.aS (λz=>z=aj (a.aM[i]=0)) (λj d=>a1 (λh=>ah (bo bW) (d _ rfl)) λh=>br (show(0:Int)<((i+1:Nat):Int) by omega) h) λz k=>?_;subst k;refine a1 (λm=>?_) λm=>ae.some ?_
  ·exact p _ ⟨i,rfl,O,by rw[c,cI,bg m]⟩ O
  rw[c,cI,be m]
def fA(a:aE)(d:Int):Bool:=de a&&aj ((fl a.aM:Int)<=d)
def fB(l:List aE)(d:Int):Bool:=l.all (λa=>fA a d)&&aj (1<=l.length/\l.length<=2)
theorem J9(a b:Int):aj (a<b)= !decide (b<=a):=by grind
theorem LW(w:5500000<=n){l:List aE}(B:j1 l)(d:Int):xy n l d=aa (fB l d):=by
 obtain⟨F,C⟩:=B;refine ae.eq ?_;unfold xy;refine p0 (l:=l) (p:=λ_ a=>fA a d) O O (λb i x o q r=>?_) (λb k=>?_) (λ⟨i,x,o,G⟩=>?_)
 ·have aL:=(d0.1 o).1;have hm:=C x (bX o);rw[bS (show(i:Int)<(l.length:Int) by omega)];refine b7 (ae.aS (λz=>z= !fA x d) (λj m=>ah (bo o) (ah (Kk w x hm) ?_)) λz s=>?_)
  ·cases y:de x with
   |false=>exact m _ (by unfold fA;rw[y];rfl)
   |true=>exact ah (zL w hm) (m _ (by unfold fA;rw[y,J9];simp))
  subst s;cases A:fA x d with
  |true=>show ae (b _) _;rw[bc O];exact q A
  |false=>exact ae.some (r A)
 ·rw[bN (show¬(l.length:Int)<(l.length:Int) by omega)];have e:l.all (λa=>fA a d)=ab:=gy.2 λc D=>by obtain⟨i,aL⟩:=kW D;exact k i c aL
  unfold fB;rw[e];refine b3 (ae.aS (λz=>z=aj (1<=l.length/\l.length<=2)) (λj m=>a1 (λh=>m _ ?_) λh=>m _ ?_) λz s=>ae.some (by rw[s];rfl))
  ·by_cases H:l.length<=2
   ·rw[bS (show(l.length:Int)<=2 by omega),bS O]
   rw[bN (show¬(l.length:Int)<=2 by omega),bN O]
  rw[bN O]
 unfold fB
 grind
theorem Mt(b:5500000<=n)(c:iu a)(d:Int):wc n a d=aa (!fA a d):=by
 unfold wc;rw[TK b a c];simp only[aS,bQ];cases e:de a with
 |false=>simp[fA,e]
 |true=>
  rw[Aw b c];simp only[fA,e,Bool.not_true,cond_false,Bool.true_and];rw[J9]
theorem E6(n k:Nat):fz n (k:Int) 1 2=aa (aj (1<=k/\k<=2)):=by
 rw[jg];congr 1
 grind
theorem Lh(b:5500000<=n){l:List aE}(c:j1 l)(d:Int):zR n l d=aa (fB l d):=by
 obtain⟨k,e⟩:=c;unfold zR;rw[E6];have bW:=y0 (n:=n) (f:=λh=>wc n h d) (p:=λa=> !fA a d) (l:=l) (λx i=>Mt b (e x i) d) O O;simp only[aS,bQ];rw[bW];unfold fB
 grind
def uN{k:Type}(p:Nat->k->Bool)(l:List k):Bool:=l.zipIdx.all λq=>p q.2 q.1
theorem ER{k:Type}{p:Nat->k->Bool}{l:List k}(h: ∀(i:Nat) x,l[i]? =aa x->p i x=ab):uN p l=ab:=
 gy.2 λq a=>h q.2 q.1 (Eo.1 a)
theorem Eg{k:Type}{p:Nat->k->Bool}{l:List k}{x:k}(h:l[i]? =aa x)(a:p i x=al):uN p l=al:=
 l8.2 ⟨(x,i),Eo.2 h,by rw[a];simp⟩
theorem FL{k:Type}{p:Nat->k->Bool}{l:List k}(h:uN p l=ab){x:k}(a:l[i]? =aa x):p i x=ab:=
 gy.1 h (x,i) (Eo.2 a)
def ln(a:List Loop):Bool:=uN (λi l=>fB l.bq (i:Int)&&fB l.aL (i:Int)) a&&aj (a.length<=4)
def qt(a:List Loop):Prop:=a.length<=1100000/\ ∀l∈a,j1 l.bq/\j1 l.aL
theorem Vy(k:5500000<=n)(h:qt o):EB n o=aa (ln o):=by
 obtain⟨C,s⟩:=h;refine ae.eq ?_;unfold EB;refine p0 (l:=o) (p:=λi l=>fB l.bq (i:Int)&&fB l.aL (i:Int)) O O (λa i x b d e=>?_) (λa c=>?_) (λ⟨i,x,b,w⟩=>?_)
 ·have aL:=(d0.1 b).1;obtain⟨y,A⟩:=s x (bX b);rw[bS (show(i:Int)<(o.length:Int) by omega)];refine ah (bo b) (ae.aS (λz=>z= !(fB x.bq (i:Int)&&fB x.aL (i:Int))) (λj m=>ah (Lh k y _) ?_) λz B=>?_)
  ·cases q:fB x.bq (i:Int) with
   |false=>exact m _ (by rw[q];rfl)
   |true=>exact ah (Lh k A _) (m _ (by rw[q];rfl))
  subst B;cases r:(fB x.bq (i:Int)&&fB x.aL (i:Int)) with
  |true=>show ae (a _) _;rw[bc O];exact d r
  |false=>exact ae.some (e r)
 ·rw[bN (show¬(o.length:Int)<(o.length:Int) by omega)];refine ae.some ?_;unfold ln;rw[ER c,gi]
  grind
 unfold ln;rw[Eg b w];rfl
theorem Vt(r:5500000<=n)(h:qt o):EK n o=aa (ln o):=by
 obtain⟨F,A⟩:=h;unfold EK;by_cases s:o.length<=4
 ·rw[bS (show(o.length:Int)<=4 by omega)];refine ae.eq ?_;refine p0 (l:=o) (p:=λi l=>fB l.bq (i:Int)&&fB l.aL (i:Int)) O O (λa i x c m q=>?_) (λa d=>?_) (λ⟨i,x,c,B⟩=>?_)
  ·have aL:=(d0.1 c).1;obtain⟨C,D⟩:=A x (bX c);rw[bS (show(i:Int)<(o.length:Int) by omega)];refine ae.aS (λz=>z=ab) (λj b=>b7 (b _ rfl)) λz e=>?_;subst e;refine b7 (ae.aS (λz=>z= !(fB x.bq (i:Int)&&fB x.aL (i:Int))) (λj b=>ah (bo c) (ah (LW r C _) ?_)) λz e=>?_)
   ·cases w:fB x.bq (i:Int) with
    |false=>exact b _ (by rw[w];rfl)
    |true=>exact ah (LW r D _) (b _ (by rw[w];rfl))
   subst e;cases y:(fB x.bq (i:Int)&&fB x.aL (i:Int)) with
   |true=>show ae (a _) _;rw[bc O];exact m y
   |false=>exact ae.some (q y)
  ·rw[bN (show¬(o.length:Int)<(o.length:Int) by omega)];refine ae.aS (λz=>z=al) (λj b=>b3 (b _ rfl)) λz e=>?_;subst e;refine ae.some ?_;unfold ln;rw[ER d,bS s];rfl
  unfold ln;rw[Eg c B];rfl
 obtain⟨k,rfl⟩: ∃k,n=k+1:=⟨n-1,O⟩
 rw[bN (show¬(o.length:Int)<=4 by omega)];unfold ln;rw[bN s,ko];simp only[bz,aS]
 grind
def hM:List Int->Int
 | []=>0
 |x::a=>a.foldl max x
def oU:List Int->Int
 | []=>0
 |x::a=>a.foldl min x
theorem aeh(h:l≠[])(x:Int):hM (l++[x])=max (hM l) x:=by
 cases l with
 |nil=>exact br rfl h
 |cons a l=>simp[hM,List.foldl_append]
theorem aej(h:l≠[])(x:Int):oU (l++[x])=min (oU l) x:=by
 cases l with
 |nil=>exact br rfl h
 |cons a l=>simp[oU,List.foldl_append]
theorem QA: ∀(l:List Int) (a:Int),a<=l.foldl max a
 | [],a=>hA _
 |x::l,a=>Int.le_trans (Int.le_max_left a x) (QA l (max a x))
theorem QD: ∀(l:List Int) (a:Int),l.foldl min a<=a
 | [],a=>hA _
 |x::l,a=>Int.le_trans (QD l (min a x)) (Int.min_le_left a x)
def lO(l:List aE)(p:List Int):List Int:=l.map λa=>gl a p
def dS(l:Loop)(p:List Int):Int:=hM (lO l.bq p)
def eL(l:Loop)(p:List Int):Int:=oU (lO l.aL p)
def il(k:Nat)(p:List Int):Prop:=p.length=k/\k<=4/\DP (100*40^k) p
theorem sv(h:k<=4):(0:Int)<=100*40^k/\(100:Int)*40^k<=1000000000:=by
 match k,h with
 |0,_=>decide
 |1,_=>decide
 |2,_=>decide
 |3,_=>decide
 |4,_=>decide
theorem qg{l:List aE}(h:fB l d=ab):1<=l.length/\l.length<=2/\ ∀a∈l,de a=ab:=by
 simp only[fB,cB,decide_eq_true_eq,kr] at h;refine⟨h.2.1,h.2.2,λa b=>?_⟩
 have:=h.1 a b;simp only[fA,cB] at this
 grind
theorem PW(b:de a=ab)(c:il k p)(d:k<=3): -(40*(100*40^k))<=gl a p/\gl a p<=40*(100*40^k):=by
 obtain⟨m,n,e⟩:=fT b;obtain⟨o,q,h⟩:=c;obtain⟨i,r⟩:=sv (k:=k) O;have s:(100:Int)<=100*40^k:=by
  match k,d with
  |0,_=>decide
  |1,_=>decide
  |2,_=>decide
  |3,_=>decide
 generalize (100*40^k:Int)=M at*;have w:=Iw (M:=M) i (cs:=a.aM) (xs:=p) e λx l=>h x l;have y:9*M*(p.length:Int)<=9*M*3:=Int.mul_le_mul_of_nonneg_left O O;simp only[c3] at*;unfold gl;omega
theorem yi(c:5500000<=n)(d:de a=ab)(b:il k p):oV n a p=aa (gl a p):=
 aap c d (by have:=b.1;have:=b.2.1;omega) (sv b.2.1) b.2.2
theorem yh(c:5500000<=n)(d:de a=ab)(b:il k p):oB n a p=aa (gl a p):=
 abh c d (by have:=b.1;have:=b.2.1;omega) (sv b.2.1) b.2.2
theorem oZ{l:List aE}(h:l[i]? =aa a):(lO l p)[i]? =aa (gl a p):=by unfold lO;rw[List.getElem?_map,h];rfl
theorem Cf(l:List aE)(p:List Int):(lO l p).length=l.length:=dF ..
theorem O0{k:Type}{l:List k}(h:1<=i)(a:1<=l.length):l.take i≠[]:=by
 intro e
 have:(l.take i).length=0:=by rw[e];rfl
 grind
theorem OS(h:l[i]? =aa x)(a:1<=i):hM (l.take (i+1))=max (hM (l.take i)) x:=by have:=(d0.1 h).1;rw[eK,h];exact aeh (O0 a O) x
theorem Pt(h:l[i]? =aa x)(a:1<=i):oU (l.take (i+1))=min (oU (l.take i)) x:=by have:=(d0.1 h).1;rw[eK,h];exact aej (O0 a O) x
theorem HQ(h:l[0]? =aa x):hM (l.take 1)=x:=by
 cases l with
 |nil=>simp at h
 |cons a l=>simp at h;subst h;rfl
theorem HR(h:l[0]? =aa x):oU (l.take 1)=x:=by
 cases l with
 |nil=>simp at h
 |cons a l=>simp at h;subst h;rfl
theorem Md(q:5500000<=n){l:Loop}{a:Int}(Q:fB l.bq d=ab)(R:fB l.aL a=ab)(r:il k p):z8 n l p=aa (dS l p,eL l p):=by
 obtain⟨aP,a2,a3⟩:=qg Q;obtain⟨f,t,L⟩:=qg R;have B:=bC (O:0<l.bq.length);have C:=bC (O:0<l.aL.length);refine ae.eq ?_;unfold z8;refine ah (bo (i:=0) B) (ah (yi q (a3 _ (bX B)) r) (ah (bo (i:=0) C) (ah (yi q (L _ (bX C)) r) ?_)));refine ae.loop (λx:Int×Int=> ∃i:Nat,x.2=i/\1<=i/\i<=l.bq.length/\x.1=hM ((lO l.bq p).take i)) (λx=>l.bq.length-x.2.toNat) ?_ n _ ⟨1,rfl,O,O,(HQ (oZ B)).symm⟩ Z;rintro D ⟨x,z⟩ ⟨i,b,c,W,s⟩ X;dsimp only at b s⊢;subst b;refine a1 (λF=>?_) λG=>?_
 ·have g:=bC (O:i<l.bq.length);have e:=OS (oZ (p:=p) g) c;refine ae.aS (λz=>z=hM ((lO l.bq p).take (i+1))) (λj o=>ah (bo g) (ah (yi q (a3 _ (bX g)) r) (a1 (λh=>o _ ?_) λh=>o _ ?_))) λz b=>?_
  ·rw[e,<-s];omega
  ·rw[e,<-s];omega
  rw[bc O];exact X _ ⟨i+1,Z,O,O,b⟩ Z
 have m:i=l.bq.length:=O
 have H:x=dS l p:=by rw[s,m,<-Cf l.bq p,dZ];rfl
 refine ae.loop (λx:Int×Int=> ∃i:Nat,x.2=i/\1<=i/\i<=l.aL.length/\x.1=oU ((lO l.aL p).take i)) (λx=>l.aL.length-x.2.toNat) ?_ n _ ⟨1,rfl,O,O,(HR (oZ C)).symm⟩ Z;rintro w ⟨y,z⟩ ⟨i,b,c,W,A⟩ K;dsimp only at b A⊢;subst b;refine a1 (λF=>?_) λG=>ae.some ?_
 ·have g:=bC (O:i<l.aL.length);have e:=Pt (oZ (p:=p) g) c;refine ae.aS (λz=>z=oU ((lO l.aL p).take (i+1))) (λj o=>ah (bo g) (ah (yi q (L _ (bX g)) r) (a1 (λh=>o _ ?_) λh=>o _ ?_))) λz b=>?_
  ·rw[e,<-A];omega
  ·rw[e,<-A];omega
  rw[bc O];exact K _ ⟨i+1,Z,O,O,b⟩ Z
 have m:i=l.aL.length:=O
 rw[H,A,m,<-Cf l.aL p,dZ];rfl
theorem abb(e:5500000<=n){l:Loop}{a:Int}(G:fB l.bq d=ab)(H:fB l.aL a=ab)(h:il k p):EX n l p=aa (dS l p,eL l p):=by
 obtain⟨aP,a2,a3⟩:=qg G;obtain⟨Q,R,F⟩:=qg H;have r:=bC (O:0<l.bq.length);have s:=bC (O:0<l.aL.length);refine ae.eq ?_;unfold EX;refine ah (bo (i:=0) r) (ah (yh e (a3 _ (bX r)) h) (ah (bo (i:=0) s) (ah (yh e (F _ (bX s)) h) ?_)));refine ae.loop (λx:Int×Int=> ∃i:Nat,x.2=i/\i<=l.bq.length/\x.1=hM ((lO l.bq p).take (max i 1))) (λx=>l.bq.length-x.2.toNat) ?_ n _ ⟨0,rfl,O,(HQ (oZ r)).symm⟩ Z;rintro w ⟨x,z⟩ ⟨i,c,K,m⟩ L;dsimp only at c m⊢;subst c;refine a1 (λA=>?_) λB=>?_
 ·have g:=bC (O:i<l.bq.length);refine ah (bo g) (ah (yh e (a3 _ (bX g)) h) ?_);rw[bc O];refine L _ ⟨i+1,Z,O,?_⟩ Z;dsimp only;rw[show max (i+1) 1=i+1 by omega];cases i with
  |zero=>rw[m,show max 0 1=1 by rfl,dy,HQ (oZ g)];omega
  |succ i=>rw[OS (oZ (p:=p) g) O,m,show max (i+1) 1=i+1 by omega]
 have b:i=l.bq.length:=O
 have C:x=dS l p:=by rw[m,b,Nat.max_eq_left O,<-Cf l.bq p,dZ];rfl
 refine ae.loop (λx:Int×Int=> ∃i:Nat,x.2=i/\i<=l.aL.length/\x.1=oU ((lO l.aL p).take (max i 1))) (λx=>l.aL.length-x.2.toNat) ?_ n _ ⟨0,rfl,O,(HR (oZ s)).symm⟩ Z;rintro o ⟨y,z⟩ ⟨i,c,K,q⟩ D;dsimp only at c q⊢;subst c;refine a1 (λA=>?_) λB=>ae.some ?_
 ·have g:=bC (O:i<l.aL.length);refine ah (bo g) (ah (yh e (F _ (bX g)) h) ?_);rw[bc O];refine D _ ⟨i+1,Z,O,?_⟩ Z;dsimp only;rw[show max (i+1) 1=i+1 by omega];cases i with
  |zero=>rw[q,show max 0 1=1 by rfl,dy,HR (oZ g)];omega
  |succ i=>rw[Pt (oZ (p:=p) g) O,q,show max (i+1) 1=i+1 by omega]
 have b:i=l.aL.length:=O
 rw[C,q,b,Nat.max_eq_left O,<-Cf l.aL p,dZ];rfl
theorem Ca{l:Loop}(n:fB l.bq d=ab)(o:fB l.aL b=ab)(e:il k p)(i:k<=3)(A:dS l p<=v/\v<eL l p):il (k+1) (p++[v]):=by
 obtain⟨aP,a2,a3⟩:=qg n;obtain⟨m,B,r⟩:=qg o;have C: -(40*(100*40^k))<=dS l p:=by
  cases c:l.bq with
  |nil=>rw[c] at aP;simp at aP
  |cons a as=>
   have:=(PW (a3 a (by rw[c];simp)) e i).1;unfold dS lO;rw[c];exact Int.le_trans this (QA _ _)
 have D:eL l p<=40*(100*40^k):=by
  cases c:l.aL with
  |nil=>rw[c] at m;simp at m
  |cons a as=>
   have:=(PW (r a (by rw[c];simp)) e i).2;unfold eL lO;rw[c];exact Int.le_trans (QD _ _) this
 obtain⟨s,F,w⟩:=e;have y:(100*40^(k+1):Int)=40*(100*40^k):=by rw[Int.pow_succ];omega
 have q:=(sv (k:=k) O).1;refine⟨by simp[s],O,λx z=>?_⟩;rw[y];rcases eX.1 z with h|h
 ·have:=w x h;simp only[c3] at this⊢;omega
 simp at h;subst h;simp only[c3];omega
def fF:List Loop->List Int->List (List Int)
 | [],p=>[p]
 |l::cb,p=>(dR (dS l p) (eL l p)).flatMap λv=>fF cb (p++[v])
def fO:List Loop->List Int->Int
 | [],_=>1
 |l::cb,p=>1+((dR (dS l p) (eL l p)).map λv=>fO cb (p++[v])).sum
theorem nQ{k:Type}(f:k->Int): ∀(l:List k),(∀x∈l,1<=f x)->(l.length:Int)<=(l.map f).sum
 | [],_=>bl
 |x::l,h=>by have b:=nQ f l λy a=>h y (by simp[a]);have c:=h x bl;simp only[hg,List.sum_cons,List.length_cons];omega
theorem Cx: ∀(cb:List Loop) (p:List Int),1<=fO cb p
 | [],p=>hA _
 |l::cb,p=>by have:=nQ (λv=>fO cb (p++[v])) (dR (dS l p) (eL l p)) λv _=>Cx cb _;simp only[fO];omega
def Fit(a:List Loop):Prop:=a.length<=4/\ ∀(i:Nat) l,a[i]? =aa l->fB l.bq (i:Int)=ab/\fB l.aL (i:Int)=ab
theorem Cn{nest:List Loop}(h:ln nest=ab):Fit nest:=by
 simp only[ln,cB,decide_eq_true_eq] at h;refine⟨h.2,λi l a=>?_⟩
 have:=FL h.1 a
 grind
theorem A9{l:Loop}{q:List Loop}(h:o.drop k=l::q):o[k]? =aa l/\o.drop (k+1)=q/\k<o.length:=by
 have a:(o.drop k)[0]? =aa l:=by rw[h];rfl
 rw[fv,nV] at a;refine⟨a,?_,(d0.1 a).1⟩
 have:(o.drop k).drop 1=q:=by rw[h];rfl
 rwa [List.drop_drop] at this
theorem B2(h:o.drop k=[])(a:k<=o.length):k=o.length:=by
 have:(o.drop k).length=0:=by rw[h];rfl
 grind
theorem mE(p:List Int)(h:p.length<=1100000):app [] p=aa p:=by rw[dM ca];rfl
theorem Oc(l:List Int)(f:Int->Int)(v:Int):((l++[v]).map f).sum=(l.map f).sum+f v:=bl
theorem ac'{bq:Int}(h:bq<=v):((dR bq v).length:Int)=v-bq:=by unfold dR;simp;omega
theorem NC{b:List Loop}(B:Fit b): ∀(cb:List Loop) (n k:Nat) (p:List Int) (a:Int),5500000+cb.length<=n->b.drop k=cb->k<=b.length->il k p->0<=a->a<=1200->
  ae (ry n b p a) (λr=>(fO cb p<=a->r=fO cb p)/\(a<fO cb p->a<r)/\1<=r/\r<=a+1)
 | [],n,k,p,a,K,C,L,m,N,P=>by
  obtain⟨n,rfl⟩: ∃j,n=j+1:=⟨n-1,O⟩
  have S:=B2 C L;have o:=m.1;unfold ry;rw[bS (show(p.length:Int)=(b.length:Int) by omega)];exact ae.some ⟨λ_=>rfl,λh=>by simp only[fO] at h;omega,O,O⟩
 |l::cb,n,k,p,a,K,C,L,m,N,P=>by
  obtain⟨n,rfl⟩: ∃j,n=j+1:=⟨n-1,O⟩
  obtain⟨Q,T,d3⟩:=A9 C;obtain⟨R,W⟩:=B.2 k l Q;have o:=m.1;have D:k<=3:=by have:=B.1;omega
  simp only[List.length_cons] at K;unfold ry;rw[bN (show¬(p.length:Int)=(b.length:Int) by omega)];refine b3 (ah (x:=l) (by rw[o];exact bo Q) (ah (Md O R W m) ?_));let f:Int->Int:=λv=>fO cb (p++[v]);have q: ∀v,1<=f v:=λv=>Cx _ _;have U:fO (l::cb) p=1+((dR (dS l p) (eL l p)).map f).sum:=rfl;refine ae.loop (λx:Int×Int=>dS l p<=x.2/\(x.2<=eL l p\/x.2=dS l p)/\(1+((dR (dS l p) x.2).map f).sum<=a->x.1=1+((dR (dS l p) x.2).map f).sum)/\(a<1+((dR (dS l p) x.2).map f).sum->a<x.1)/\1<=x.1/\x.1<=a+1)
   (λx=>(a+1-x.1).toNat) ?_ n _ ⟨hA _,.inr rfl,λ_=>by rw[m0 (hA _)];rfl,λh=>by rw[m0 (hA _)] at h;simp at h;dsimp only;omega,Z,Z⟩ Z
  rintro F ⟨x,v⟩ ⟨A,X,G,H,g,t⟩ V;dsimp only at A X G H g t⊢;refine ae.aS (λz=>z=aj (v<eL l p/\x<=a)) (λj u=>a1 (λh=>u _ ?_) λh=>u _ ?_) λz Y=>?_
  ·by_cases d:x<=a
   ·rw[bS d,bS ⟨h,d⟩]
   rw[bN d,bN λh=>d h.2]
  ·rw[bN λE=>h E.1]
  subst Y;refine a1 (λ⟨e,d⟩=>?_) λs=>ae.some ?_
  ·have w:x=1+((dR (dS l p) v).map f).sum:=G (by apply Int.not_lt.1;intro h;have:=H h;omega);have i:=Ca R W m D ⟨A,e⟩;have e1:wr (a-x)=a-x:=by rw[bc O]
   rw[e1];refine ah (mE p O) (ah (dM ca) (hE (NC B cb n (k+1) (p++[v]) (a-x) O T O i O O) λr ⟨tO,wI,als,alu⟩=>?_));have akf:v<eL l p:=e;have R8: -1000000000<=v/\v<=1000000000:=by
    have h9:=i.2.2 v bl;have mF:=sv i.2.1;simp only[c3] at h9;omega
   rw[bc (n:=v+1) O,bc (n:=x+r) O];have I:1+((dR (dS l p) (v+1)).map f).sum=x+f v:=by rw[ue A,Oc,w];omega
   refine V _ ⟨Z,.inl Z,?_,?_,Z,Z⟩ Z
   ·dsimp only;rw[I];intro h
    have:r=f v:=tO (O:f v<=a-x);omega
   dsimp only;rw[I];intro h
   have:a-x<r:=wI (O:a-x<f v);omega
  have c:1+((dR (dS l p) v).map f).sum<=fO (l::cb) p/\(eL l p<=v->1+((dR (dS l p) v).map f).sum=fO (l::cb) p):=by
   rw[U];by_cases h:v<eL l p
   ·refine⟨?_,λE=>O⟩;rw[AS A h,ic,List.sum_append,hg,List.sum_cons]
    have:=nQ f (dR (v+1) (eL l p)) λy _=>q y
    have:=q v;omega
   have:dR (dS l p) v=dR (dS l p) (eL l p):=by
    rcases X with M|M
    ·rw[show v=eL l p by omega]
    subst M;rw[m0 (hA _),m0 O]
   rw[this];exact⟨hA _,λ_=>rfl⟩
  refine⟨λh=>?_,λh=>?_,g,t⟩
  ·have d:=G O;rw[d];apply c.2;apply Int.not_lt.1;intro e;exact s ⟨e,O⟩
  apply Int.not_le.1;intro d;have e:eL l p<=v:=by apply Int.not_lt.1;intro e;exact s ⟨e,d⟩
  have:=H (by rw[c.2 e];exact h);omega
theorem Ff{a:List Loop}(A:Fit a): ∀(cb:List Loop) (n k:Nat) (p:List Int) (out:List (List Int)),5500000+cb.length<=n->a.drop k=cb->k<=a.length->il k p->fO cb p<=1200->out.length<=120->
  ae (pT n out a p) (λr=>(out.length+(fF cb p).length<=120->r=out++fF cb p)/\(120<out.length+(fF cb p).length->120<r.length))
 | [],n,k,p,out,Q,B,R,o,W,T=>by
  obtain⟨n,rfl⟩: ∃j,n=j+1:=⟨n-1,O⟩
  have U:=B2 B R;have q:=o.1;have C:=A.1;unfold pT;rw[bS (show(p.length:Int)=(a.length:Int) by omega)];refine b7 (ah (mE p O) (ah (dM ca) (ae.some ⟨λ_=>rfl,λh=>by simp[fF] at h ⊢; omega⟩)))
 |l::cb,n,k,p,out,Q,B,R,o,W,T=>by
  obtain⟨n,rfl⟩: ∃j,n=j+1:=⟨n-1,O⟩
  obtain⟨X,V,d3⟩:=A9 B;obtain⟨t,u⟩:=A.2 k l X;have q:=o.1;have C:=A.1;have D:k<=3:=O
  simp only[List.length_cons] at Q;unfold pT;rw[bN (show¬(p.length:Int)=(a.length:Int) by omega)];refine b3 (ah (x:=l) (by rw[q];exact bo X) (ah (Md O t u o) ?_));let f:Int->Int:=λv=>fO cb (p++[v]);have e: ∀v,1<=f v:=λv=>Cx _ _;have Y:fO (l::cb) p=1+((dR (dS l p) (eL l p)).map f).sum:=rfl;let g:Int->List (List Int):=λv=>fF cb (p++[v]);have yz:fF (l::cb) p=(dR (dS l p) (eL l p)).flatMap g:=rfl;have E:dS l p<=eL l p->eL l p-dS l p<=1199:=λF=>by
   have:=nQ f (dR (dS l p) (eL l p)) λy _=>e y
   have:=ac' F;omega
  refine ae.loop (λx:List (List Int)×Int=>dS l p<=x.2/\(x.2<=eL l p\/x.2=dS l p)/\(out.length+((dR (dS l p) x.2).flatMap g).length<=120->x.1=out++(dR (dS l p) x.2).flatMap g)/\(120<out.length+((dR (dS l p) x.2).flatMap g).length->120<x.1.length))
   (λx=>(eL l p-x.2).toNat) ?_ n _ ⟨hA _,.inr rfl,λ_=>by rw[m0 (hA _)];simp,λh=>by rw[m0 (hA _)] at h;simp at h;omega⟩ Z
  rintro G ⟨x,v⟩ ⟨s,I,H,K⟩ b5;dsimp only at s I H K⊢;refine ae.aS (λz=>z=aj (v<eL l p/\x.length<=120)) (λj M=>a1 (λh=>M _ ?_) λh=>M _ ?_) λz er=>?_
  ·by_cases c:x.length<=120
   ·rw[bS (show(x.length:Int)<=120 by omega),bS ⟨h,c⟩]
   rw[bN (show¬(x.length:Int)<=120 by omega),bN λh=>c h.2]
  ·rw[bN λN=>h N.1]
  subst er;refine a1 (λ⟨d,c⟩=>?_) λw=>ae.some ?_
  ·have i:x=out++(dR (dS l p) v).flatMap g:=H (by apply Nat.not_lt.1;intro h;have:=K h;omega);have m:=Ca t u o D ⟨s,d⟩;have L:f v<=1200:=by
    rw[Y,AS s d,ic,List.sum_append,hg,List.sum_cons] at W
    have:=nQ f (dR (v+1) (eL l p)) λy _=>e y
    have:=nQ f (dR (dS l p) v) λy _=>e y;omega
   refine ah (mE p O) (ah (dM ca) (hE (Ff A cb n (k+1) (p++[v]) x O V O m L c) λr ⟨tO,wI⟩=>?_));have R8: -1000000000<=v/\v<=1000000000:=by
    have h9:=m.2.2 v bl;have mF:=sv m.2.1;simp only[c3] at h9;omega
   rw[bc (n:=v+1) O];have P:(dR (dS l p) (v+1)).flatMap g=(dR (dS l p) v).flatMap g++g v:=by rw[ue s,p7];simp
   refine b5 _ ⟨Z,.inl Z,?_,?_⟩ Z
   ·dsimp only;rw[P];intro h;simp only[iI] at h;have hl:x.length=out.length+((dR (dS l p) v).flatMap g).length:=by rw[i,dP]
    rw[tO (O:x.length+(g v).length<=120),i,gL]
   dsimp only;rw[P];intro h;simp only[iI] at h;have hl:x.length=out.length+((dR (dS l p) v).flatMap g).length:=by rw[i,dP]
   exact wI (O:120<x.length+(g v).length)
  have b:((dR (dS l p) v).flatMap g).length<=(fF (l::cb) p).length/\(eL l p<=v->(dR (dS l p) v).flatMap g=fF (l::cb) p):=by
   rw[yz];by_cases h:v<eL l p
   ·refine⟨?_,λN=>O⟩;rw[AS s h,p7,dP];omega
   have:dR (dS l p) v=dR (dS l p) (eL l p):=by
    rcases I with S|S
    ·rw[show v=eL l p by omega]
    subst S;rw[m0 (hA _),m0 O]
   rw[this];exact⟨df _,λ_=>rfl⟩
  refine⟨λh=>?_,λh=>?_⟩
  ·have c:=H O;rw[c,b.2];apply Int.not_lt.1;intro d;exact w ⟨d,by rw[c,dP];omega⟩
  apply Nat.not_le.1;intro c;have d:eL l p<=v:=by apply Int.not_lt.1;intro d;exact w ⟨d,c⟩
  have:=K (by rw[b.2 d];exact h);omega
theorem Np{a:List Loop}(A:Fit a): ∀(cb:List Loop) (n k:Nat) (p:List Int) (st:Int) (out:List (List Int)),5500000+cb.length<=n->a.drop k=cb->k<=a.length->il k p->0<=st->st<=1199->out.length<=120->
  ae (q5 n ⟨a,st,out⟩ p) (λr=>(st+fO cb p<=1200/\out.length+(fF cb p).length<=120->r=(ab,⟨a,st+fO cb p-1,out++fF cb p⟩))/\(¬(st+fO cb p<=1200/\out.length+(fF cb p).length<=120)->r.1=al))
 | [],n,k,p,st,out,R,C,W,i,X,t,m=>by
  obtain⟨n,rfl⟩: ∃j,n=j+1:=⟨n-1,O⟩
  have pA:=B2 C W;have q:=i.1;have D:=A.1;unfold q5;dsimp only;rw[bS (show(p.length:Int)=(a.length:Int) by omega)];have c:jH p=aa p:=by unfold jH;rw[bg O]
  refine b7 (ah c (ah (dM ca) (ae.some ⟨λh=>?_,λh=>?_⟩)))
  ·simp only[fO,fF,List.length_singleton] at h⊢;rw[bS ca,show st+1-1=st by omega]
  simp only[fO,fF,List.length_singleton] at h⊢;exact bN ca
 |l::cb,n,k,p,st,out,R,C,W,i,X,t,m=>by
  obtain⟨n,rfl⟩: ∃j,n=j+1:=⟨n-1,O⟩
  obtain⟨u,d2,d3⟩:=A9 C;obtain⟨E,I⟩:=A.2 k l u;have q:=i.1;have D:=A.1;have F:k<=3:=O
  simp only[List.length_cons] at R;unfold q5;dsimp only;rw[bN (show¬(p.length:Int)=(a.length:Int) by omega)];refine b3 (ah (x:=l) (by rw[q];exact bo u) (ah (abb O E I i) ?_));let f:Int->Int:=λv=>fO cb (p++[v]);have b: ∀v,1<=f v:=λv=>Cx _ _;have M:fO (l::cb) p=1+((dR (dS l p) (eL l p)).map f).sum:=rfl;let g:Int->List (List Int):=λv=>fF cb (p++[v]);have N:fF (l::cb) p=(dR (dS l p) (eL l p)).flatMap g:=rfl;refine ae.loop (λx:List Loop×Int×List (List Int)×Int=>x.1=a/\dS l p<=x.2.2.2/\(x.2.2.2<=eL l p\/x.2.2.2=dS l p)/\x.2.1=st+((dR (dS l p) x.2.2.2).map f).sum/\x.2.2.1=out++(dR (dS l p) x.2.2.2).flatMap g/\0<=x.2.1/\x.2.1<=1199/\x.2.2.1.length<=120)
   (λx=>(1200-x.2.1).toNat) ?_ n _ ⟨rfl,hA _,.inr rfl,by dsimp only;rw[m0 (hA _)];simp,by dsimp only;rw[m0 (hA _)];simp,X,t,m⟩ Z
  rintro G ⟨H,x,o,v⟩ ⟨P,s,S,B,e,i5,i6,T⟩ b5;dsimp only at P s S B e i5 i6 T⊢;subst P;have pD:o.length=out.length+((dR (dS l p) v).flatMap g).length:=by rw[e,dP]
  refine a1 (λK=>?_) λK=>ae.some ?_
  ·have d:=Ca E I i F ⟨s,K⟩;have L:fO (l::cb) p≥1+((dR (dS l p) v).map f).sum+f v/\(fF (l::cb) p).length≥((dR (dS l p) v).flatMap g).length+(g v).length:=by
    rw[M,N,AS s K,ic,List.sum_append,hg,List.sum_cons,p7,dP,List.flatMap_cons,dP]
    have:=nQ f (dR (v+1) (eL l p)) λy _=>b y;constructor
    ·omega
    omega
   have R8: -1000000000<=v/\v<=1000000000:=by
    have h9:=d.2.2 v bl;have mF:=sv d.2.1;simp only[c3] at h9;omega
   have e1:wr (x+1)=x+1:=by rw[bc O]
   have e2:wr (x+1+1)=x+1+1:=by rw[bc O]
   have mD:wr (v+1)=v+1:=by rw[bc O]
   rw[e1,e2,mD];refine ae.aS (λz:List Loop×Int×List (List Int)×Bool=>(z.2.2.2=al->z.1=H/\x+f v<=1199/\o.length+(g v).length<=120/\z.2.1=x+f v/\z.2.2.1=o++g v)/\(z.2.2.2=ab-> ¬(st+fO (l::cb) p<=1200/\out.length+(fF (l::cb) p).length<=120)))
    (λj Q=>a1 (λh=>Q _ ⟨λyx=>(by cases yx),λ_=>?_⟩) λh=>?_) λz er=>?_
   ·have:=b v;omega
   ·have c:jH p=aa p:=by unfold jH;rw[bg O]
    refine ah c (ah (dM ca) (hE (Np A cb n (k+1) (p++[v]) (x+1) o O d2 O d O O T) λr ⟨tO,wI⟩=>?_));by_cases c:x+1+f v<=1200/\o.length+(g v).length<=120
    ·rw[tO c];exact Q _ ⟨λ_=>⟨rfl,O,c.2,show x+1+f v-1=x+f v by omega,rfl⟩,λh=>(by cases h)⟩
    have w:=wI c;obtain⟨alv,⟨bp,alw,ro⟩⟩:=r;dsimp only at w⊢;subst w;exact Q _ ⟨λh=>(by cases h),λ_=>O⟩
   obtain⟨KQ,alC,alD,alh⟩:=z;obtain⟨U,V⟩:=er;dsimp only at U V⊢;cases alh with
   |true=>exact ae.some ⟨λh=>br h (V rfl),λ_=>rfl⟩
   |false=>
    obtain⟨rfl,TH,KN,TI,Y⟩:=U rfl;refine b5 _ ⟨rfl,Z,.inl Z,?_,?_,by dsimp only;have:=b v;omega,Z,?_⟩ (by dsimp only;have:=b v;omega)
    ·dsimp only;rw[ue s,Oc,TI,B];omega
    ·dsimp only;rw[Y,e,ue s,p7];simp
    dsimp only;rw[Y,dP];exact KN
  have:dR (dS l p) v=dR (dS l p) (eL l p):=by
   rcases S with m|m
   ·rw[show v=eL l p by omega]
   subst m;rw[m0 (hA _),m0 O]
  rw[this] at B e pD;rw[<-N] at e pD;refine⟨λh=>?_,λh=>?_⟩
  ·rw[e,B,M,show st+(1+((dR (dS l p) (eL l p)).map f).sum)-1=st+((dR (dS l p) (eL l p)).map f).sum by omega]
  exact br ⟨O,O⟩ h
def jS(a:List Loop):Option (List (List Int)):=if ln a=ab/\fO a []<=1200/\(fF a []).length<=120 then aa (fF a []) else none
def sy:Option (List (List Int))->List (List Int)×Bool
 |none=>([],al)
 |some l=>(l,ab)
theorem zn:il 0 []:=⟨rfl,O,λx h=>by cases h⟩
theorem Vh(i:6600000<=n)(h:qt o):Eh n o=aa (sy (jS o)):=by
 refine ae.eq ?_;unfold Eh;refine ah (Vy O h) ?_;unfold jS;cases c:ln o with
 |false=>exact ae.some (by simp[sy])
 |true=>
  have b:=Cn c;refine hE (Np b o n 0 [] 0 [] (by have:=b.1;omega) rfl O zn O O bl) λr ⟨d,e⟩=>?_;by_cases a:(0:Int)+fO o []<=1200/\([]:List (List Int)).length+(fF o []).length<=120
  ·rw[d a,bg ⟨rfl,O,by simpa using a.2⟩];exact ae.some (by simp[sy])
  rw[e a,be λh=>a ⟨O,by simpa using h.2.2⟩];exact ae.some rfl
theorem Ve(m:6600000<=n)(h:qt o):Ed n o=aa (sy (jS o)):=by
 refine ae.eq ?_;unfold Ed;refine ae.aS (λz=>z= !(ln o&&aj (fO o []<=1200))) (λj k=>ah (Vt O h) ?_) λz l=>?_
 ·cases b:ln o with
  |false=>exact k _ (by rw[b];rfl)
  |true=>
   have c:=Cn b;refine hE (NC c o n 0 [] 1200 (by have:=c.1;omega) rfl O zn O O) λr ⟨d,e,p,q⟩=>k _ ?_;rw[b,gi];by_cases a:fO o []<=1200
   ·rw[bS a,bN (by rw[d a];omega)];rfl
   rw[bN a,bS (e O)];rfl
 subst l;unfold jS;cases b:ln o with
 |false=>exact ae.some (by simp[sy])
 |true=>
  have c:=Cn b;by_cases a:fO o []<=1200
  ·rw[bS a];refine hE (Ff c o n 0 [] [] (by have:=c.1;omega) rfl O zn a bl) λr ⟨d,e⟩=>?_;by_cases i:(fF o []).length<=120
   ·rw[d (by simpa using i),bg ⟨rfl,a,i⟩];refine a1 (λh=>br h ca) λ_=>ae.some (by simp[sy])
   have:=e ca;rw[be λh=>i h.2.2];exact a1 (λ_=>ae.some rfl) λh=>br h O
  rw[bN a,be λh=>a h.2.1];exact ae.some rfl
def nZ(s:List UInt8):Bool:=match s with
 | [b]=>decide (65<=b.toNat/\b.toNat<=68)
 |_=>al
theorem Au(h:s.length≠1):nZ s=al:=by
 match s,h with
 | [],_=>rfl
 | [b],h=>exact br rfl h
 |_::_::_,_=>rfl
theorem IU(h:s.length=1): ∃b,s=[b]:=by
 match s,h with
 | [b],_=>exact⟨b,rfl⟩
theorem ye(b:UInt8)(k:Nat)(a:k<256):(b=UInt8.ofNat k)↔b.toNat=k:=by
 constructor
 ·intro h;rw[h];simp;omega
 intro h;rw[<-h];simp
theorem WI(b:UInt8):Lib.contains [65,66,67,68] [b]=aj (65<=b.toNat/\b.toNat<=68):=by
 have h:(b=65)↔b.toNat=65:=ye b 65 O;have i:(b=66)↔b.toNat=66:=ye b 66 O;have k:(b=67)↔b.toNat=67:=ye b 67 O;have l:(b=68)↔b.toNat=68:=ye b 68 O;by_cases a:b=65
 ·subst a;decide
 by_cases c:b=66
 ·subst c;decide
 by_cases d:b=67
 ·subst d;decide
 by_cases e:b=68
 ·subst e;decide
 rw[h] at a;rw[i] at c;rw[k] at d;rw[l] at e;rw[bN O];rw[<-h] at a;rw[<-i] at c;rw[<-k] at d;rw[<-l] at e;simp[Lib.contains,Lib.index,a,c,d,e]
theorem LP(n:Nat)(s:List UInt8):Ad n s=aa (nZ s):=by
 unfold Ad;by_cases h:s.length=1
 ·obtain⟨b,rfl⟩:=IU h;simp only[aS,y5];rw[bg bl,WI];rfl
 rw[bN (show¬(s.length:Int)=1 by omega),Au h];rfl
theorem MI(b:UInt8):Op.bytesLess [b] [65]=aj (b.toNat<65):=by simp[Op.bytesLess,UInt8.lt_iff_toNat_lt]
theorem MH(b:UInt8):(Op.bytesLess [b] [68]||[b]==[68])=aj (b.toNat<=68):=by
 have e:(b=68)↔b.toNat=68:=ye b 68 O;by_cases h:b=68
 ·subst h;decide
 have c:b.toNat≠68:=λa=>h (e.2 a)
 have:([b]==[(68:UInt8)])=al:=by simp[h]
 rw[this,Bool.or_false];simp only[Op.bytesLess,Bool.and_false,Bool.or_false,UInt8.lt_iff_toNat_lt]
 grind
def fV(a:cx)(d:Int):Bool:=a.ba.all (λx=>fA x d)&&(nZ a.array&&aj (1<=a.ba.length/\a.ba.length<=2))
theorem aaz(b:5500000<=n)(c:iu a)(d:Int):zj n a d=aa (!fA a d):=Mt b c d
theorem Li(b:5500000<=n){a:cx}(c:j1 a.ba)(d:Int):zS n a d=aa (fV a d):=by
 obtain⟨k,e⟩:=c;unfold zS;rw[LP,E6];have bW:=y0 (n:=n) (f:=λh=>zj n h d) (p:=λa=> !fA a d) (l:=a.ba) (λx i=>aaz b (e x i) d) O O;simp only[aS,bQ];rw[bW];unfold fV
 grind
theorem Ld(B:5500000<=n){a:cx}(q:j1 a.ba)(d:Int):zK n a d=aa (fV a d):=by
 obtain⟨F,C⟩:=q;refine ae.eq ?_;unfold zK;refine p0 (l:=a.ba) (p:=λ_ a=>fA a d) O O (λk i x r w y=>?_) (λk o=>?_) (λ⟨i,x,r,G⟩=>?_)
 ·have aL:=(d0.1 r).1;have hm:=C x (bX r);rw[bS (show(i:Int)<(a.ba.length:Int) by omega)];refine b7 (ae.aS (λz=>z= !fA x d) (λj m=>ah (bo r) (ah (Kk B x hm) ?_)) λz A=>?_)
  ·cases q:de x with
   |false=>exact m _ (by unfold fA;rw[q];rfl)
   |true=>exact ah (zL B hm) (m _ (by unfold fA;rw[q,J9];simp))
  subst A;cases s:fA x d with
  |true=>show ae (k _) _;rw[bc O];exact w s
  |false=>exact ae.some (y s)
 ·rw[bN (show¬(a.ba.length:Int)<(a.ba.length:Int) by omega)];have e:a.ba.all (λa=>fA a d)=ab:=gy.2 λc D=>by obtain⟨i,aL⟩:=kW D;exact o i c aL
  unfold fV;rw[e,gi];refine b3 (ae.aS (λz=>z=(nZ a.array&&aj (1<=a.ba.length/\a.ba.length<=2))) (λj m=>?_) λz A=>ae.some A);by_cases h:a.array.length=1
  ·rw[bS (show(a.array.length:Int)=1 by omega)];obtain⟨b,s⟩:=IU h;rw[s] at m⊢;rw[MI,MH];show ae (bif _ then _ else _) _;simp only[nZ] at m⊢
   grind
  rw[bN (show¬(a.array.length:Int)=1 by omega)];exact m _ (by rw[Au h];rfl)
 unfold fV
 grind
def iV(a:aE):Bool:=aj (a.aM.length=0)&&aj (a.const=0)
def kj(a:cx):Bool:=aj (a.array=[])&&aj (a.ba.length=0)
theorem CY(k:Nat):aj ((k:Int)=0)=aj (k=0):=decide_eq_decide.2 O
theorem WD(n:Nat)(a:aE):zQ n a=aa (iV a):=by unfold zQ iV;rw[CY];cases aj (a.aM.length=0)<;>rfl
theorem X5(n:Nat)(a:aE):xd n a=aa (iV a):=by unfold xd iV;rw[CY];cases aj (a.aM.length=0)<;>rfl
theorem WE(n:Nat)(a:cx):tE n a=aa (kj a):=by unfold tE kj;rw[CY];cases aj (a.array=[])<;>rfl
theorem WW(n:Nat)(a:cx):wR n a=aa (kj a):=by unfold wR kj;rw[CY];cases aj (a.array=[])<;>rfl
def eJ(e:Expr)(d:Int):Bool:=
 if e.kind=2 then aj (e.num=0)&&(kj e.read&&fA e.index d)
 else if e.kind=3 then aj (e.num=0)&&(iV e.index&&fV e.read d)
 else if e.kind=1 then aj (0<=e.num/\e.num<=99)&&(iV e.index&&kj e.read)
 else aj (e.num=0)&&(iV e.index&&kj e.read)
def fK(k:Int):Int:=if k=1\/k=2\/k=3 then 0 else if k=4\/k=5\/k=6 then 2 else-1
theorem X6(n:Nat)(k:Int):BF n k=aa (fK k):=by
 unfold BF fK;by_cases a:k=1
 ·subst a;rfl
 by_cases b:k=2
 ·subst b;rfl
 by_cases c:k=3
 ·subst c;rfl
 by_cases d:k=4
 ·subst d;rfl
 by_cases e:k=5
 ·subst e;rfl
 by_cases h:k=6
 ·subst h;rfl
 simp[aS,a,b,c,d,e,h]
theorem YT(a:5500000<=n){e:Expr}(b:iu e.index)(c:j1 e.read.ba)(d:Int):B9 n e d=aa (eJ e d):=by
 unfold B9 eJ;rw[WW,X5,Kk a _ b,zL a b,Ld a c];by_cases cO:e.kind=2
 ·rw[bg cO,bS cO];simp only[aS,bQ,cond_true,fA]
  grind
 rw[be cO,bN cO];by_cases et:e.kind=3
 ·rw[bg et,bS et];simp only[aS,bQ,cond_true,cond_false]
  grind
 rw[be et,bN et];by_cases cA:e.kind=1
 ·rw[bg cA,bS cA];simp only[aS,bQ,cond_true,cond_false]
  grind
 rw[be cA,bN cA];simp only[aS,bQ,cond_false]
 grind
end
section
def uF:Nat->Expr->Prop
 |0,_=>True
 |L+1,e=>e.aZ.length<=1100000/\iu e.index/\j1 e.read.ba/\ ∀k∈e.aZ,uF L k
def dD:Nat->Expr->Int->Bool
 |0,_,_=>al
 |L+1,e,d=>decide (fK e.kind=e.aZ.length)&&(eJ e d&&e.aZ.all λk=>dD L k d)
def dG:Nat->Expr->Int
 |0,_=>1
 |L+1,e=>1+(e.aZ.map (dG L)).sum
theorem oW(k:Int):fK k<=2:=by unfold fK;split;omega;split<;>omega
theorem LA(d:Int): ∀(L n:Nat) (e:Expr),5500000+L<=n->L<=1100000->uF L e->rA (n+1) e d (L:Int)=aa (dD L e d)
 |0,n,e,_,_,_=>by unfold rA;rfl
 |L+1,n,e,K,Q,y=>by
  obtain⟨R,A,B,C⟩:=y;unfold rA;refine ae.eq ?_;refine ae.aS (λz=>z= !(aj (fK e.kind=e.aZ.length)&&eJ e d)) (λj r=>a1 (λh=>O) λh=>ah (X6 n _) (dL (λh=>r _ ?_) λh=>ah (YT O A B d) (r _ ?_))) λz D=>?_
  ·rw[bN h];rfl
  ·rw[bS h];rfl
  subst D;unfold dD;cases s:(aj (fK e.kind=e.aZ.length)&&eJ e d) with
  |false=>exact ae.some (by rw[<-l9,s];rfl)
  |true=>
   rw[<-l9,s,gi];refine b3 ?_;obtain⟨n,rfl⟩: ∃j,n=j+1:=⟨n-1,O⟩
   have F:wr (((L+1:Nat):Int)-1)=(L:Int):=by rw[bc O];omega
   rw[F];refine p0 (l:=e.aZ) (p:=λ_ k=>dD L k d) O O (λa i x b o q=>?_) (λa m=>?_) (λ⟨i,x,b,G⟩=>?_)
   ·have aL:=(d0.1 b).1;rw[bS (show(i:Int)<(e.aZ.length:Int) by omega)];refine b7 (ah (bo b) (ah (LA d L n x O O (C x (bX b))) ?_));cases w:dD L x d with
    |true=>show ae (a _) _;rw[bc O];exact o w
    |false=>exact ae.some (q w)
   ·rw[bN (show¬(e.aZ.length:Int)<(e.aZ.length:Int) by omega)];refine ae.some ?_;exact(gy.2 λc H=>by obtain⟨i,aL⟩:=kW H;exact m i c aL).symm
   exact(l8.2 ⟨x,bX b,by rw[G];simp⟩).symm
theorem rU: ∀(L:Nat) (e:Expr),1<=dG L e
 |0,_=>hA _
 |L+1,e=>by have:=nQ (dG L) e.aZ λk _=>rU L k;simp only[dG];omega
theorem Cz{k:Type}(f:k->Int)(M:Int): ∀(l:List k),(∀x∈l,f x<=M)->(l.map f).sum<=l.length*M
 | [],_=>bl
 |x::l,h=>by have b:=Cz f M l λy a=>h y (by simp[a]);have c:=h x bl;simp only[hg,List.sum_cons,List.length_cons,Int.natCast_add,Int.add_mul];omega
variable {d c:Int}{n i k:Nat}{s:Stmt}{r:List cz}{x:Part}{a:cx}{p:Prog}{q m:List Int}
theorem hn{L:Nat}{e:Expr}(h:dD (L+1) e d=ab):fK e.kind=e.aZ.length/\eJ e d=ab/\ ∀k∈e.aZ,dD L k d=ab:=by
 simp only[dD,cB,decide_eq_true_eq,kr] at h
 grind
theorem CE: ∀{L:Nat} {e:Expr} {d:Int},dD L e d=ab->dG L e+1<=2^L
 |0,e,d,h=>by cases h
 |L+1,e,d,h=>by
  obtain⟨c,_,a⟩:=hn h;have i:=Cz (dG L) ((2:Int)^L-1) e.aZ λk b=>by have:=CE (a k b);omega
  have l:=oW e.kind;have m:(e.aZ.length:Int)*((2:Int)^L-1)<=2*((2:Int)^L-1):=by
   refine Int.mul_le_mul_of_nonneg_right O ?_
   have:(0:Int)<2^L:=Int.pow_pos O;omega
  simp only[dG];rw[Int.pow_succ];omega
theorem LB{d:Int}: ∀(L n:Nat) (e:Expr),5500000+L<=n->L<=5->dD L e d=ab->tR (n+1) e (L:Int)=aa (dG L e)
 |0,n,e,_,_,h=>by cases h
 |L+1,n,e,H,r,h=>by
  obtain⟨K,_,o⟩:=hn h;have Q:=oW e.kind;have p: ∀k∈e.aZ,dG L k<=40:=λk b=>by
   have R:=CE (o k b);have W:(2:Int)^L<=40:=by
    match L,r with
    |0,_=>decide
    |1,_=>decide
    |2,_=>decide
    |3,_=>decide
    |4,_=>decide
   omega
  unfold tR;refine ae.eq ?_;obtain⟨n,rfl⟩: ∃j,n=j+1:=⟨n-1,O⟩
  have s:wr (((L+1:Nat):Int)-1)=(L:Int):=by rw[bc O];omega
  rw[s];refine ae.loop (λx:Int×Int=> ∃i:Nat,x.2=i/\i<=e.aZ.length/\x.1=1+((e.aZ.take i).map (dG L)).sum) (λx=>e.aZ.length-x.2.toNat) ?_ (n+1) _ ⟨0,rfl,O,bl⟩ ca;rintro c ⟨x,k⟩ ⟨i,b,X,l⟩ w;dsimp only at b l⊢;subst b;refine ae.aS (λz=>z=aj (i<e.aZ.length)) (λj q=>a1 (λh=>q _ ?_) λh=>q _ ?_) λz A=>?_
  ·rw[bS (show(0:Int)<((L+1:Nat):Int) by omega),bS O]
  ·rw[bN O]
  subst A;refine a1 (λm=>?_) λB=>ae.some ?_
  ·have a:=bC m;have hm:=bX a;refine ah (bo a) (ah (LB (d:=d) L n _ O O (o _ hm)) ?_);have hs:=Cz (dG L) 40 (e.aZ.take i) λy C=>p y (gn C);have D:=nQ (dG L) (e.aZ.take i) λy _=>rU L y;have F:=p _ hm;have G:=rU L e.aZ[i];have f:((e.aZ.take i).length:Int)<=2:=ca
   rw[bc (n:=x+dG L e.aZ[i]) O,bc O];refine w _ ⟨i+1,Z,O,?_⟩ Z;dsimp only;rw[eK,a,ic,List.sum_append,l];simp;omega
  have:i=e.aZ.length:=O
  rw[l,this,dZ];rfl
def yc(e:Expr):Bool:=(aj (e.kind=1)||decide (e.num=0))&&((aj (e.kind=2)||iV e.index)&&(aj (e.kind=3)||kj e.read))
theorem KI(d:Int): ∀(L n:Nat) (e:Expr) (c:Int),5500000+L<=n->L<=5->uF L e->0<=c->c<=12->
  ae (pH (n+1) e d (6-(L:Int)) c) (λr=>r.1=(dD L e d&&aj (c+dG L e<=12))/\(r.1=ab->r.2=c+dG L e))
 |0,n,e,c,N,P,u,S,T=>by
  unfold pH;refine ae.aS (λz=>z=ab) (λj i=>a1 (λh=>i _ rfl) λh=>i _ (by decide)) λz m=>?_;subst m;exact ae.some ⟨rfl,λh=>by cases h⟩
 |L+1,n,e,c,N,P,u,S,T=>by
  obtain⟨e1,v,U,E⟩:=u;have V:=rU (L+1) e;unfold pH;have Y:wr (c+1)=c+1:=bc O;have akS:wr (6-(((L+1:Nat)):Int)+1)=6-(L:Int):=by rw[bc O];omega
  rw[Y,akS];refine ae.aS (λz=>z=aj (12<c+1)) (λj i=>a1 (λh=>i _ (bS h).symm) λh=>i _ ?_) λz m=>?_
  ·rw[bN h,bN O]
  subst m;refine a1 (λh=>ae.some ⟨?_,λh=>by cases h⟩) λbW=>?_
  ·rw[bN (show¬c+dG (L+1) e<=12 by omega),ko]
  refine ae.aS (λz=>z= !yc e) (λj i=>?_) λz m=>?_
  ·rw[WD,WE];unfold yc at i;simp only[bQ];by_cases cA:e.kind=1
   ·have cO: ¬e.kind=2:=O
    have et: ¬e.kind=3:=O
    rw[bS cA,bN cO,bN et] at*;simp only[Bool.not_true,Bool.not_false,cond_true,cond_false,Bool.true_or,Bool.true_and,Bool.false_or] at*;cases K:iV e.index with
    |false=>exact i _ (by rw[K];rfl)
    |true=>exact i _ (by rw[K];rfl)
   rw[bN cA] at*;simp only[Bool.not_false,cond_true,Bool.false_or] at*;by_cases o:e.num=0
   ·rw[bS o] at*;simp only[Bool.not_true,cond_false,Bool.true_and] at*;by_cases cO:e.kind=2
    ·have et: ¬e.kind=3:=O
     rw[bS cO,bN et] at*;simp only[Bool.not_true,Bool.not_false,cond_true,cond_false,Bool.true_or,Bool.true_and,Bool.false_or] at*;exact i _ rfl
    rw[bN cO] at*;simp only[Bool.not_false,cond_true,Bool.false_or] at*;cases K:iV e.index with
    |false=>exact i _ (by rw[K];rfl)
    |true=>
     by_cases et:e.kind=3
     ·rw[bS et] at*;exact i _ (by rw[K];rfl)
     rw[bN et] at*;exact i _ (by rw[K];rfl)
   rw[bN o] at*;exact i _ rfl
  subst m;cases s:yc e with
  |false=>
   refine ae.some ⟨?_,λh=>by cases h⟩
   have:eJ e d=al:=by
    unfold yc at s;unfold eJ;by_cases cO:e.kind=2
    ·have cA: ¬e.kind=1:=O
     have et: ¬e.kind=3:=O
     rw[bg cO];rw[bS cO,bN cA,bN et] at s;revert s;cases aj (e.num=0)<;>cases kj e.read<;>simp
    rw[be cO];by_cases et:e.kind=3
    ·have cA: ¬e.kind=1:=O
     rw[bg et];rw[bN cO,bN cA,bS et] at s;revert s;cases aj (e.num=0)<;>cases iV e.index<;>simp
    rw[be et];rw[bN cO,bN et] at s;by_cases cA:e.kind=1
    ·rw[bg cA];rw[bS cA] at s;revert s;cases iV e.index<;>cases kj e.read<;>simp
    rw[be cA];rw[bN cA] at s;revert s;cases aj (e.num=0)<;>cases iV e.index<;>cases kj e.read<;>simp
   unfold dD;rw[this];simp
  |true=>
   refine b3 ?_;unfold yc at s;simp only[cB,Bool.or_eq_true,decide_eq_true_eq] at s;obtain⟨zd,I,R⟩:=s;have p: ∀(b:Bool),eJ e d=b->fK e.kind=0-> ∀(z:Bool),z=(b&&aj ((e.aZ.length:Int)=0))->z=(dD (L+1) e d&&aj (c+dG (L+1) e<=12))/\(z=ab->c+1=c+dG (L+1) e):=by
    intro b bA F z m;unfold dD;rw[bA,F];by_cases h:e.aZ.length=0
    ·have C:e.aZ=[]:=nT h;have G:dG (L+1) e=1:=by simp[dG,C]
     rw[G,bS (O:c+1<=12)];rw[bS (show(e.aZ.length:Int)=0 by omega)] at m;rw[m,C];simp
    rw[bN (show¬(e.aZ.length:Int)=0 by omega)] at m;rw[m,bN (show¬(0:Int)=(e.aZ.length:Int) by omega)];simp
   by_cases cA:e.kind=1
   ·have cO: ¬e.kind=2:=O
    have et: ¬e.kind=3:=O
    rw[bS cA];have l:eJ e d=aj (0<=e.num/\e.num<=99):=by
     unfold eJ;rw[be cO,be et,bg cA];rcases I with h|h
     ·exact br h cO
     rcases R with A|A
     ·exact br A et
     rw[h,A];simp
    refine b7 (ae.aS (λz=>z=(aj (0<=e.num/\e.num<=99)&&aj ((e.aZ.length:Int)=0))) (λj i=>ah (jg n _ _ _) ?_) λz m=>ae.some ?_)
    ·cases y:aj (0<=e.num/\e.num<=99) with
     |true=>exact i _ (by rw[y];rfl)
     |false=>exact i _ (by rw[y];rfl)
    exact p _ l (by unfold fK;rw[bg (Or.inl cA)]) _ m
   rw[bN cA];refine b3 ?_;have o:e.num=0:=by
    rcases zd with h|h
    ·exact br h cA
    exact h
   by_cases cO:e.kind=2
   ·have et: ¬e.kind=3:=O
    rw[bS cO];have l:eJ e d=fA e.index d:=by
     unfold eJ;rw[bg cO,bS o];rcases R with A|A
     ·exact br A et
     rw[A];simp
    refine b7 (ae.aS (λz=>z=(fA e.index d&&aj ((e.aZ.length:Int)=0))) (λj i=>ah (TK O _ v) ?_) λz m=>ae.some ?_)
    ·unfold fA at i;cases y:de e.index with
     |false=>exact i _ (by rw[y];rfl)
     |true=>
      refine ah (Aw O v) (a1 (λh=>i _ ?_) λh=>i _ ?_)
      ·rw[y,bS h];rfl
      rw[y,bN h];rfl
    exact p _ l (by unfold fK;rw[bg (Or.inr (Or.inl cO))]) _ m
   rw[bN cO];refine b3 ?_;have B:iV e.index=ab:=by
    rcases I with h|h
    ·exact br h cO
    exact h
   by_cases et:e.kind=3
   ·rw[bS et];have l:eJ e d=fV e.read d:=by
     unfold eJ;rw[be cO,bg et,bS o,B];simp
    refine b7 (ae.aS (λz=>z=(fV e.read d&&aj ((e.aZ.length:Int)=0))) (λj i=>ah (Li O U d) ?_) λz m=>ae.some ?_)
    ·cases y:fV e.read d with
     |false=>exact i _ (by rw[y];rfl)
     |true=>exact i _ (by rw[y];rfl)
    exact p _ l (by unfold fK;rw[bg (Or.inr (Or.inr et))]) _ m
   rw[bN et];refine b3 ?_;have l:eJ e d=ab:=by
    unfold eJ;rw[be cO,be et,be cA,bS o,B];rcases R with A|A
    ·exact br A et
    rw[A];rfl
   have W:se n e.kind=aa (aj (4<=e.kind/\e.kind<=6)):=by unfold se;rw[jg];rfl
   have H:(fK e.kind=2↔(4<=e.kind/\e.kind<=6))/\(fK e.kind=2\/fK e.kind= -1):=by
    unfold fK;rw[be O];split<;>omega
   refine ae.aS (λz=>z= !(aj (4<=e.kind/\e.kind<=6)&&aj ((e.aZ.length:Int)=2))) (λj i=>ah W ?_) λz m=>?_
   ·cases y:aj (4<=e.kind/\e.kind<=6) with
    |false=>exact i _ (by rw[y];rfl)
    |true=>exact i _ (by rw[y];rfl)
   subst m;by_cases F:(4<=e.kind/\e.kind<=6)/\(e.aZ.length:Int)=2
   ·rw[bS F.1,bS F.2];refine b3 ?_;obtain⟨a,b,w⟩: ∃a b,e.aZ=[a,b]:=by
     have:e.aZ.length=2:=O
     match dp:e.aZ,this with
     | [a,b],_=>exact⟨a,b,rfl⟩
    have X:dD (L+1) e d=(dD L a d&&dD L b d):=by
     show(aj (fK e.kind=e.aZ.length)&&(eJ e d&&e.aZ.all λk=>dD L k d))=_;rw[l,w,bS (show fK e.kind=(([a,b]:List Expr).length:Int) by rw[H.1.2 F.1];rfl)];simp
    have G:dG (L+1) e=1+(dG L a+dG L b):=by simp[dG,w]
    have alk:=rU L a;have alm:=rU L b;rw[X,G];obtain⟨n,rfl⟩: ∃j,n=j+1:=⟨n-1,O⟩
    refine ae.aS (λz:Int×Bool=>z.2=(dD L a d&&dD L b d&&aj (c+(1+(dG L a+dG L b))<=12))/\(z.2=ab->z.1=c+(1+(dG L a+dG L b)))) (λj i=>?_) λz m=>ae.some m;refine ah (x:=a) (by rw[w];rfl) (hE (KI d L n a (c+1) O O (E a (by rw[w];simp)) O O) λr ⟨D,f⟩=>?_);cases t:r.1 with
    |false=>
     refine i _ ⟨?_,λh=>by cases h⟩;rw[t] at D;show al=_;by_cases Q:dD L a d=ab
     ·rw[Q,gi] at D
      have:=of_decide_eq_false D.symm;rw[bN (show¬c+(1+(dG L a+dG L b))<=12 by omega),ko]
     rw[Bool.eq_false_iff.2 Q];rfl
    |true=>
     have f:=f t;rw[t] at D;have D:=D.symm;rw[p3,decide_eq_true_eq] at D;refine ah (x:=b) (by rw[w];rfl) ?_;rw[f];refine hE (KI d L n b (c+1+dG L a) O O (E b (by rw[w];simp)) O O) λq ⟨mT,q2⟩=>i _ ⟨?_,λh=>?_⟩
     ·show q.1=_;rw[mT,D.1,gi];congr 1;exact decide_eq_decide.2 O
     show q.2=_;rw[q2 h];omega
   have iv:dD (L+1) e d=al:=by
    unfold dD;rw[bN (show¬fK e.kind=(e.aZ.length:Int) by
     intro h;rcases H.2 with M|M
     ·exact F ⟨H.1.1 M,O⟩
     omega)]
    rfl
   have:(aj (4<=e.kind/\e.kind<=6)&&aj ((e.aZ.length:Int)=2))=al:=by
    by_cases g:4<=e.kind/\e.kind<=6
    ·rw[bN (show¬(e.aZ.length:Int)=2 from λh=>F ⟨g,h⟩),ko]
    rw[bN g];rfl
   rw[this,iv];exact ae.some ⟨rfl,λh=>by cases h⟩
def eN(s:Stmt)(d:Int):Bool:=aj (0<=d/\d<=4)&&(fV s.write d&&(dD 5 s.value d&&aj (dG 5 s.value<=12)))
def Bj(s:Stmt):Prop:=j1 s.write.ba/\uF 5 s.value
theorem Vx(l:6600000<=n)(h:Bj s)(d:Int):Ey n s d=aa (eN s d):=by
 obtain⟨n,rfl⟩: ∃j,n=j+1:=⟨n-1,O⟩
 refine ae.eq ?_;unfold Ey;generalize a:eN s d=T;unfold eN at a;refine ae.aS (λz:Int×Bool=>z.2=T) (λj b=>ah (jg _ _ _ _) ?_) λz i=>ae.some i;cases c:aj (0<=d/\d<=4) with
 |false=>exact b (0,al) (by rw[<-a,c];rfl)
 |true=>
  refine b7 (ah (Li O h.1 d) ?_);cases e:fV s.write d with
  |false=>exact b (0,al) (by rw[<-a,c,e];rfl)
  |true=>
   refine b7 (hE (KI d 5 n s.value 0 O O h.2 O O) λr ⟨k,m⟩=>b _ ?_);rw[<-a,c,e];show r.1=_;rw[k];simp
theorem KZ(m:6600000<=n)(h:Bj s)(d:Int):zr n s d=aa (eN s d):=by
 obtain⟨n,rfl⟩: ∃j,n=j+1:=⟨n-1,O⟩
 refine ae.eq ?_;unfold zr;generalize k:eN s d=T;generalize a:(aj (0<=d/\d<=4)&&(fV s.write d&&dD 5 s.value d))=B;have b:T=(B&&aj (dG 5 s.value<=12)):=by rw[<-k,<-a];unfold eN;simp only[Bool.and_assoc]
 refine ae.aS (λz=>z= !B) (λj c=>a1 (λh=>c _ ?_) λo=>a1 (λh=>c _ ?_) λp=>ah (Ld O h.1 d) ?_) λz l=>?_
 ·rw[<-a,bN (show¬(0<=d/\d<=4) by omega)];rfl
 ·rw[<-a,bN (show¬(0<=d/\d<=4) by omega)];rfl
 ·rw[bS (O:0<=d/\d<=4)] at a;cases i:fV s.write d with
  |false=>exact b7 (c _ (by rw[<-a,i];rfl))
  |true=>exact b3 (ah (LA d 5 n s.value O O h.2) (c _ (by rw[<-a,i];rfl)))
 subst l;cases e:B with
 |false=>exact ae.some (by rw[b,e];rfl)
 |true=>
  rw[e] at a;simp only[cB] at a;refine b3 (ah (LB (d:=d) 5 n s.value O O a.2.2) (ae.some ?_));rw[b,e];rfl
def jG(a:List Int):Bool:=aj (1<=a.length/\a.length<=2)&&a.all λd=>decide (1<=d/\d<=6)
def r'(a:List cz)(i:Nat)(x:cz):Bool:=match i with
 |0=>ab
 |i+1=>match a[i]? with
  |some y=>Op.bytesLess y.name x.name
  |none=>al
def mB(a:List cz)(i:Nat)(x:cz):Bool:=nZ x.name&&(r' a i x&&jG x.b9)
def iS(a:List cz):Bool:=uN (mB a) a&&aj (a.length<=4)
def FB(a:List cz):Prop:=a.length<=1100000/\ ∀x∈a,x.b9.length<=1100000
theorem L0{x y:cz}(h:r[i]? =aa y):r' r (i+1) x=Op.bytesLess y.name x.name:=by simp only[r',h]
theorem acM(a:List Int):(a.any λd=> !decide (1<=d/\d<=6))= !(a.all λd=>decide (1<=d/\d<=6)):=by grind
theorem WG(W:6600000<=n){w:List cz}(h:FB w):Ax n w=aa (iS w):=by
 obtain⟨X,H⟩:=h;refine ae.eq ?_;unfold Ax;refine p0 (l:=w) (p:=mB w) O O (λa i x k q s=>?_) (λa m=>?_) (λ⟨i,x,k,y⟩=>?_)
 ·have aL:=(d0.1 k).1;have hm:=H x (bX k);rw[bS (show(i:Int)<(w.length:Int) by omega)];have K:oz n x.b9 (λA=>q1 n A)=aa (!(x.b9.all λd=>decide (1<=d/\d<=6))):=by
   rw[<-acM];exact Ek (λd _=>by unfold q1;rw[jg];rfl) O O
  refine b7 (ah (bo k) (ae.aS (λz=>z= !mB w i x) (λj c=>ah (LP n _) ?_) λz L=>?_))
  ·unfold mB jG at c;cases B:nZ x.name with
   |false=>exact b7 (c _ (by rw[B];rfl))
   |true=>
    rw[B] at c;refine b3 ?_;rw[E6];have b:r' w i x=ab->ae (bQ (aa (aj (1<=x.b9.length/\x.b9.length<=2))) λQ=>bif !Q then j ab else bQ (oz n x.b9 λA=>q1 n A) λR=>j R) (λr=>r=iS w):=by
     intro y;rw[y] at c;show ae (bif _ then _ else _) _;cases C:aj (1<=x.b9.length/\x.b9.length<=2) with
     |false=>exact b7 (c _ (by rw[C];rfl))
     |true=>exact b3 (ah K (c _ (by rw[C];rfl)))
    cases i with
    |zero=>exact a1 (λh=>br h (by decide)) (λ_=>b rfl)
    |succ i=>
     have D:=bC (O:i<w.length);have e:wr (((i+1:Nat):Int)-1)=(i:Int):=by rw[bc O];omega
     rw[e];refine a1 (λ_=>ah (bo D) ?_) λh=>br (show(0:Int)<((i+1:Nat):Int) by omega) h;have o:=L0 (x:=x) D;cases F:Op.bytesLess w[i].name x.name with
     |false=>exact b7 (c _ (by rw[o,F];rfl))
     |true=>exact b3 (b (by rw[o,F]))
  subst L;cases G:mB w i x with
  |true=>show ae (a _) _;rw[bc O];exact q G
  |false=>exact ae.some (s G)
 ·rw[bN (show¬(w.length:Int)<(w.length:Int) by omega)];refine ae.some ?_;unfold iS;rw[ER m,gi]
  grind
 unfold iS;rw[Eg k y];rfl
theorem acF(s:List UInt8):(!Op.bytesLess s [68]&& !s==[68])= !(Op.bytesLess s [68]||s==[68]):=by grind
theorem VB(Y:6600000<=n){a:List cz}(h:FB a):Aj n a=aa (iS a):=by
 obtain⟨h0,u⟩:=h;refine ae.eq ?_;unfold Aj;refine p0 (l:=a) (p:=mB a) O O (λq i x w H A=>?_) (λq B=>?_) (λ⟨i,x,w,v⟩=>?_)
 ·have aL:=(d0.1 w).1;have hm:=u x (bX w);rw[bS (show(i:Int)<(a.length:Int) by omega)];refine b7 (ah (bo w) (ae.aS (λz=>z= !(nZ x.name&&(r' a i x&&aj (1<=x.b9.length/\x.b9.length<=2)))) (λj m=>?_) λz K=>?_))
  ·refine dL (λE=>m _ ?_) λE=>?_
   ·rw[Au O];rfl
   obtain⟨b,o⟩:=IU (O:x.name.length=1);rw[acF];have L: ∀(y:cz),Op.bytesLess y.name x.name=Op.bytesLess y.name [b]:=λy=>by rw[o]
   have Q:nZ x.name=aj (65<=b.toNat/\b.toNat<=68):=by rw[o];rfl
   have I:Op.bytesLess x.name [65]=aj (b.toNat<65):=by rw[o];exact MI b
   have M:(Op.bytesLess x.name [68]||x.name==[68])=aj (b.toNat<=68):=by rw[o];exact MH b
   rw[I,M];rw[Q] at m;refine a1 (λN=>m _ ?_) λN=>dL (λP=>m _ ?_) λP=>?_
   ·rw[bN (show¬(65<=b.toNat/\b.toNat<=68) by omega)];rfl
   ·rw[bN (show¬(65<=b.toNat/\b.toNat<=68) by omega)];rfl
   rw[bS (O:65<=b.toNat/\b.toNat<=68)] at m;have c:r' a i x=ab->ae (bif aj ((x.b9.length:Int)<1) then j ab else j (aj ((2:Int)<(x.b9.length:Int)))) (λr=>r=iS a):=by
    grind
   cases i with
   |zero=>exact a1 (λh=>br h (by decide)) (λ_=>c rfl)
   |succ i=>
    have X:=bC (O:i<a.length);have e:wr (((i+1:Nat):Int)-1)=(i:Int):=by rw[bc O];omega
    rw[e];refine a1 (λ_=>ah (bo X) ?_) λh=>br (show(0:Int)<((i+1:Nat):Int) by omega) h;have C:=L0 (x:=x) X;cases f:Op.bytesLess a[i].name x.name with
    |false=>exact b7 (m _ (by rw[C,f];rfl))
    |true=>exact b3 (c (by rw[C,f]))
  subst K;cases o:(nZ x.name&&(r' a i x&&aj (1<=x.b9.length/\x.b9.length<=2))) with
  |false=>
   refine ae.some (A ?_);unfold mB jG;rw[<-l9,<-l9];rw[<-l9] at o;rw[o];rfl
  |true=>
   have D:mB a i x=x.b9.all (λd=>decide (1<=d/\d<=6)):=by
    unfold mB jG;rw[<-l9,<-l9];rw[<-l9] at o;rw[o];rfl
   refine b3 ?_;refine ae.loop (λy:Int=> ∃k:Nat,y=k/\k<=x.b9.length/\ ∀(t:Nat) d,t<k->x.b9[t]? =aa d->decide (1<=d/\d<=6)=ab) (λy=>x.b9.length-y.toNat) ?_ n _ ⟨0,rfl,O,λt d h=>O⟩ ca;rintro G y ⟨k,rfl,hk,g⟩ S;refine a1 (λT=>?_) λU=>?_
   ·have cI:=bC (O:k<x.b9.length);have V:wr ((k:Int)+1)=((k+1:Nat):Int):=by rw[bc O];omega
    refine ae.aS (λz=>z= !decide (1<=x.b9[k]/\x.b9[k]<=6)) (λj m=>ah (bo cI) (a1 (λh=>m _ ?_) λh=>m _ ?_)) λz K=>?_
    ·rw[bN O];rfl
    ·by_cases h6:x.b9[k]<=6
     ·rw[bN (show¬(6:Int)<x.b9[k] by omega),bS (O:1<=x.b9[k]/\x.b9[k]<=6)];rfl
     rw[bS (show(6:Int)<x.b9[k] by omega),bN (show¬(1<=x.b9[k]/\x.b9[k]<=6) by omega)];rfl
    subst K;cases F:aj (1<=x.b9[k]/\x.b9[k]<=6) with
    |false=>
     refine ae.some (A ?_);rw[D];exact l8.2 ⟨_,bX cI,by rw[F];simp⟩
    |true=>
     rw[V];refine S _ ⟨k+1,rfl,O,λt d R s=>?_⟩ O;by_cases W:t=k
     ·subst W;rw[cI] at s;cases s;exact F
     exact g t d O s
   have e:wr ((i:Int)+1)=(i:Int)+1:=bc O;rw[e];refine H ?_;rw[D];refine gy.2 λd cI=>?_;obtain⟨t,R⟩:=kW cI
   have:=(d0.1 R).1;exact g t d O R
 ·rw[bN (show¬(a.length:Int)<(a.length:Int) by omega)];refine ae.some ?_;unfold iS;rw[ER B,gi]
  grind
 unfold iS;rw[Eg w v];rfl
def hv:List Int->Int
 | []=>1
 |d::a=>d*hv a
theorem Ig{d:List Int}(h:jG d=ab):(∃a,d=[a]/\1<=a/\a<=6)\/ ∃a b,d=[a,b]/\(1<=a/\a<=6)/\1<=b/\b<=6:=by
 simp only[jG,cB,decide_eq_true_eq,kr] at h;obtain⟨⟨e,i⟩,c⟩:=h
 match d,e,i,c with
 | [a],_,_,c=>exact .inl ⟨a,rfl,c a bl⟩
 | [a,b],_,_,c=>exact .inr ⟨a,b,rfl,c a bl,c b bl⟩
theorem QV{a b:Int}(c:1<=a/\a<=6)(d:1<=b/\b<=6):1<=a*b/\a*b<=36:=by
 constructor
 ·have:=rG c.1 d.1 O O;omega
 have:=rG c.2 d.2 O O;omega
theorem sk{d:List Int}(h:jG d=ab):1<=hv d/\hv d<=36:=by
 rcases Ig h with ⟨a,rfl,c⟩|⟨a,b,rfl,c,e⟩
 ·simp[hv];omega
 have:=QV c e;simp[hv];omega
theorem Fg(l:6600000<=n){x:cz}(h:jG x.b9=ab):xw n x=aa (hv x.b9):=by
 obtain⟨n,rfl⟩: ∃j,n=j+3:=⟨n-3,O⟩
 unfold xw;rcases Ig h with ⟨a,e,d⟩|⟨a,b,e,d,i⟩
 ·rw[e];have c:wr a=a:=bc O;simp[bz,aB,hv,c,show wr 1=1 from bc O]
 rw[e]
 have:=QV d i;have c:wr a=a:=bc O;have k:wr (a*b)=a*b:=bc O;simp[bz,aB,hv,c,k,show wr 1=1 from bc O,show wr 2=2 from bc O]
theorem abc(a:6600000<=n){x:cz}(h:jG x.b9=ab):Ej n x=aa (hv x.b9):=Fg a h
def hV:List aE->List Int->List Int->Int->Int
 |s::b,d::c,p,a=>if 0<=gl s p/\gl s p<d then hV b c p (a*d+gl s p) else-1
 |_,_,_,a=>a
def eP:List cz->cx->List Int->Int->Int
 | [],_,_,_=> -1
 |x::c,a,p,b=>if x.name=a.array then(if a.ba.length=x.b9.length then(if hV a.ba x.b9 p 0<0 then-1 else b+hV a.ba x.b9 p 0) else-1) else eP c a p (b+hv x.b9)
def lk(a:List cz):Prop:= ∀x∈a,jG x.b9=ab
theorem afu{d:List Int}(e:jG d=ab){l:List aE}(c:l.length=d.length)(p:List Int):hV l d p 0= -1\/(0<=hV l d p 0/\hV l d p 0<hv d):=by
 rcases Ig e with ⟨a,rfl,h⟩|⟨a,b,rfl,h,k⟩
 ·match l,c with
  | [s],_=>
   simp only[hV,hv,Int.zero_mul,Int.zero_add,Int.mul_one];split<;>omega
 match l,c with
 | [s,t],_=>
  simp only[hV,hv,Int.zero_mul,Int.zero_add,Int.mul_one];split
  ·rename_i i;split
   ·rename_i m;refine .inr ⟨?_,?_⟩
    ·have:=o2 i.1 (O:0<=b);omega
    have:=Int.mul_le_mul_of_nonneg_right (O:gl s p<=a-1) (O:0<=b);rw[Int.sub_mul] at this;omega
   exact .inl rfl
  exact .inl rfl
def gY(a:List cz):Int:=(a.map λx=>hv x.b9).sum
theorem Pm: ∀{xs:List cz},lk xs-> ∀(a:cx) (p:List Int) (b:Int),0<=b->eP xs a p b= -1\/(b<=eP xs a p b/\eP xs a p b<b+gY xs)
 | [],_,a,p,b,_=> .inl rfl
 |x::xs,i,a,p,b,m=>by
  have k:=i x bl;have hs:=sk k;have c:lk xs:=λy d=>i y (by simp[d]);have n:0<=gY xs:=by
   have:=nQ (λx:cz=>hv x.b9) xs λy d=>(sk (c y d)).1;unfold gY;omega
  have e:gY (x::xs)=hv x.b9+gY xs:=by simp[gY]
  rw[e];simp only[eP];split
  ·split
   ·rename_i l;rcases afu k l p with h|h
    ·rw[bg O];exact .inl rfl
    rw[be O];exact .inr ⟨O,O⟩
   exact .inl rfl
  rcases Pm c a p (b+hv x.b9) O with h|h
  ·exact .inl h
  exact .inr ⟨O,O⟩
theorem mh(h:fV a d=ab):1<=a.ba.length/\a.ba.length<=2/\ ∀x∈a.ba,de x=ab:=by
 simp only[fV,cB,decide_eq_true_eq,kr] at h;refine⟨h.2.2.1,h.2.2.2,λx b=>?_⟩
 have:=h.1 x b;simp only[fA,cB] at this
 grind
theorem kP{k:Type}{l:List k}{x:k}(h:l[i]? =aa x):l.drop i=x::l.drop (i+1):=by obtain⟨a,b⟩:=d0.1 h;rw[kn a,b]
theorem Ou{a v:Int}(b:0<=a/\a<=36)(c:1<=d/\d<=6)(e:0<=v/\v<d):0<=a*d/\a*d<=216/\0<=a*d+v:=by have h:=o2 b.1 (O:0<=d);have i:=rG b.2 c.2 O O;omega
theorem acj(E:6600000<=n)(I:a.ba.length<=2)(W: ∀x∈a.ba,de x=ab){e:List Int}(X:jG e=ab)(M:a.ba.length=e.length){p:List Int}(f:il k p)(b:Int)(N:0<=b/\b<=500000000):
  bz (λc ((Q,A):Int×Int)=>bif aj (A<(a.ba.length:Int)) then(bQ (aB a.ba A) λg=>bQ (oB n g p) λo=>bQ (aB e A) λq=>bQ (fz n o 0 (wr (q-1))) λB=>bif !B then(aa (-1)) else(c (wr ((wr (Q*q))+o),wr (A+1)))) else(aa (wr (b+Q)))) n (0,0)
   =aa (if hV a.ba e p 0<0 then-1 else b+hV a.ba e p 0):=by
 have C: ∀d∈e,1<=d/\d<=6:=by
  simp only[jG,cB,decide_eq_true_eq,kr] at X
  grind
 refine ae.eq ?_;refine ae.loop (λx:Int×Int=> ∃i:Nat,x.2=i/\i<=a.ba.length/\0<=x.1/\x.1<=36*i/\(i=0->x.1=0)/\(i=1->x.1<=5)/\hV a.ba e p 0=hV (a.ba.drop i) (e.drop i) p x.1) (λx=>a.ba.length-x.2.toNat) ?_ n _ ⟨0,rfl,O,bl,bl,λ_=>rfl,λh=>O,rfl⟩ ca;rintro D ⟨x,z⟩ ⟨i,R,P,F,G,r,s,l⟩ j;dsimp only at R F G r s l⊢;subst R;refine a1 (λt=>?_) λu=>ae.some ?_
 ·have hs:=bC (O:i<a.ba.length);have m:=bC (O:i<e.length);have w:=C _ (bX m);have v:wr (e[i]-1)=e[i]-1:=bc O;rw[kP hs,kP m] at l;simp only[hV] at l;refine ah (bo hs) (ah (yh O (W _ (bX hs)) f) (ah (bo m) (ah (jg _ _ _ _) ?_)));rw[v];by_cases H:0<=gl a.ba[i] p/\gl a.ba[i] p<e[i]
  ·rw[bg H] at l;rw[bS (O:0<=gl a.ba[i] p/\gl a.ba[i] p<=e[i]-1)];obtain⟨S,T,U⟩:=Ou (a:=x) O w H;refine b3 ?_;rw[bc (n:=x*e[i]) O,bc (n:=x*e[i]+gl a.ba[i] p) O,bc O];have y:i=0\/i=1:=O
   refine j _ ⟨i+1,Z,O,Z,?_,λh=>O,λh=>?_,l⟩ Z
   ·dsimp only;rcases y with rfl|rfl
    ·rw[r rfl];omega
    have:=s rfl
    have:=rG this w.2 O O;omega
   dsimp only
   grind
  rw[be H] at l;rw[bN (show¬(0<=gl a.ba[i] p/\gl a.ba[i] p<=e[i]-1) by omega)];refine b7 (ae.some ?_)
  grind
 have K:i=a.ba.length:=O
 have L:hV (a.ba.drop i) (e.drop i) p x=x:=by
  rw[K,o5];unfold hV;rfl
 rw[L] at l;rw[l,be O,bc O]
theorem acn(P:6600000<=n)(S:1<=a.ba.length)(T:a.ba.length<=2)(t: ∀x∈a.ba,de x=ab){b:List Int}(u:jG b=ab){p:List Int}(v:il k p)(c:Int)(U:0<=c/\c<=500000000):
  bz (λe ((X,r):Int×Int)=>bif aj (r<(a.ba.length:Int)) then(bif !decide ((a.ba.length:Int)=(b.length:Int)) then(aa (-1)) else(bQ (aB a.ba r) λE=>bQ (oV n E p) λq=>aS (fun(D:Bool)=>bif D then(aa (-1)) else(bQ (aB b r) λF=>e (wr ((wr (X*F))+q),wr (r+1)))) λs=>bif aj (q<0) then(s ab) else(bQ (aB b r) λG=>s (aj (G<=q))))) else(aa (wr (c+X)))) n (0,0)
   =aa (if a.ba.length=b.length then(if hV a.ba b p 0<0 then-1 else c+hV a.ba b p 0) else-1):=by
 by_cases f:a.ba.length=b.length
 ·rw[bg f];rw[bS (show(a.ba.length:Int)=(b.length:Int) by omega)];have H: ∀d∈b,1<=d/\d<=6:=by
   simp only[jG,cB,decide_eq_true_eq,kr] at u
   grind
  refine ae.eq ?_;refine ae.loop (λx:Int×Int=> ∃i:Nat,x.2=i/\i<=a.ba.length/\0<=x.1/\x.1<=36*i/\(i=0->x.1=0)/\(i=1->x.1<=5)/\hV a.ba b p 0=hV (a.ba.drop i) (b.drop i) p x.1) (λx=>a.ba.length-x.2.toNat) ?_ n _ ⟨0,rfl,O,bl,bl,λ_=>rfl,λh=>O,rfl⟩ ca;rintro K ⟨x,z⟩ ⟨i,C,V,L,Q,w,y,m⟩ I;dsimp only at C L Q w y m⊢;subst C;refine a1 (λM=>?_) λN=>ae.some ?_
  ·have hs:=bC (O:i<a.ba.length);have l:=bC (O:i<b.length);have A:=H _ (bX l);rw[kP hs,kP l] at m;simp only[hV] at m;refine b3 (ah (bo hs) (ah (yi O (t _ (bX hs)) v) (ae.aS (λz=>z= !decide (0<=gl a.ba[i] p/\gl a.ba[i] p<b[i])) (λj g=>a1 (λh=>g _ ?_) λh=>ah (bo l) (g _ ?_)) λz C=>?_)))
   ·rw[bN O];rfl
   ·by_cases o:b[i]<=gl a.ba[i] p
    ·rw[bS o,bN O];rfl
    rw[bN o,bS O];rfl
   subst C;by_cases o:0<=gl a.ba[i] p/\gl a.ba[i] p<b[i]
   ·rw[bg o] at m;rw[bS o];obtain⟨Y,g2,g3⟩:=Ou (a:=x) O A o;refine b3 (ah (bo l) ?_);rw[bc (n:=x*b[i]) O,bc (n:=x*b[i]+gl a.ba[i] p) O,bc O];have B:i=0\/i=1:=O
    refine I _ ⟨i+1,Z,O,Z,?_,λh=>O,λh=>?_,m⟩ Z
    ·dsimp only;rcases B with rfl|rfl
     ·rw[w rfl];omega
     have:=y rfl
     have:=rG this A.2 O O;omega
    dsimp only
    grind
   rw[be o] at m;rw[bN o];refine b7 (ae.some ?_)
   grind
  have R:i=a.ba.length:=O
  have W:hV (a.ba.drop i) (b.drop i) p x=x:=by
   rw[R,o5];unfold hV;rfl
  rw[W] at m;rw[m,be O,bc O]
 rw[be f,bN (show¬(a.ba.length:Int)=(b.length:Int) by omega)];obtain⟨n,rfl⟩: ∃j,n=j+1:=⟨n-1,O⟩
 simp only[bz]
 grind
theorem A6(w:6600000<=n)(L:p.a7.length<=4)(A:lk p.a7)(B:fV a d=ab)(C:il k q):tb n p a q=aa (eP p.a7 a q 0):=by
 obtain⟨a0,aP,a2⟩:=mh B;refine ae.eq ?_;unfold tb;refine ae.loop (λx:Int×Int=> ∃i:Nat,x.2=i/\i<=p.a7.length/\0<=x.1/\x.1<=36*i/\eP p.a7 a q 0=eP (p.a7.drop i) a q x.1) (λx=>p.a7.length-x.2.toNat) ?_ n _ ⟨0,rfl,O,bl,bl,rfl⟩ ca;rintro l ⟨x,z⟩ ⟨i,y,Q,m,o,b⟩ D;dsimp only at y m o b⊢;subst y;refine a1 (λF=>?_) λG=>ae.some ?_
 ·have r:=bC (O:i<p.a7.length);have e:=A _ (bX r);have kN:=sk e;rw[kP r] at b;simp only[eP] at b;refine ah (bo r) (dL (λh=>?_) λH=>?_)
  ·rw[be h] at b;refine ah (abc w e) ?_;rw[bc (n:=x+hv p.a7[i].b9) O,bc O];exact D _ ⟨i+1,Z,O,Z,Z,b⟩ Z
  rw[bg H] at b;refine dL (λh=>ae.some ?_) λK=>?_
  ·rw[b,be O]
  have c:a.ba.length=p.a7[i].b9.length:=O
  rw[bg c] at b;exact ae.of (acj w aP a2 e c C x O) b.symm
 have s:i=p.a7.length:=O
 rw[b,s,o5];rfl
theorem NG(s:6600000<=n)(H:r.length<=4)(y:lk r)(A:fV a d=ab)(B:il k q):xx n r a q=aa (eP r a q 0):=by
 obtain⟨a0,aP,a2⟩:=mh A;refine ae.eq ?_;unfold xx;refine ae.loop (λx:Int×Int=> ∃i:Nat,x.2=i/\i<=r.length/\0<=x.1/\x.1<=36*i/\eP r a q 0=eP (r.drop i) a q x.1) (λx=>r.length-x.2.toNat) ?_ n _ ⟨0,rfl,O,bl,bl,rfl⟩ ca;rintro e ⟨x,z⟩ ⟨i,w,K,h,l,b⟩ C;dsimp only at w h l b⊢;subst w;refine a1 (λD=>?_) λF=>ae.some ?_
 ·have m:=bC (O:i<r.length);have c:=y _ (bX m);have kN:=sk c;rw[kP m] at b;simp only[eP] at b;refine ah (bo m) (dL (λo=>?_) λG=>?_)
  ·rw[be o] at b;refine ah (Fg s c) ?_;rw[bc (n:=x+hv r[i].b9) O,bc O];exact C _ ⟨i+1,Z,O,Z,Z,b⟩ Z
  rw[bg G] at b;exact ae.of (acn s a0 aP a2 c B x O) b.symm
 have p:i=r.length:=O
 rw[b,p,o5];rfl
def ek:Nat->Expr->List cx
 |0,_=>[]
 |L+1,e=>(if e.kind=3 then [e.read] else [])++e.aZ.flatMap (ek L)
theorem GG{d:Int}: ∀{L:Nat} {e:Expr},dD L e d=ab-> ∀a∈ek L e,fV a d=ab
 |0,e,h,a,b=>by cases h
 |L+1,e,h,a,b=>by
  obtain⟨n,c,l⟩:=hn h;simp only[ek,List.mem_append,List.mem_flatMap] at b;rcases b with b|⟨k,m,b⟩
  ·split at b
   ·rename_i i;simp at b;subst b;unfold eJ at c;rw[be O,bg i] at c;simp only[cB] at c;exact c.2.2
   simp at b
  exact GG (l k m) a b
theorem AV: ∀(L:Nat) (e:Expr),((ek L e).length:Int)<=dG L e
 |0,e=>by simp[ek,dG]
 |L+1,e=>by
  have h: ∀(l:List Expr),((l.flatMap (ek L)).length:Int)<=(l.map (dG L)).sum:=by
   intro l;induction l with
   |nil=>simp
   |cons k l a=>
    have:=AV L k;simp only[List.flatMap_cons,iI,hg,List.sum_cons];omega
  have:=h e.aZ;simp only[ek,dG,iI];split
  ·rw[rJ];omega
  rw[List.length_nil];omega
theorem FN{d:Int}: ∀(L n:Nat) (e:Expr),6600000+L<=n->L<=5->dD L e d=ab->q4 (n+1) e=aa (ek L e)
 |0,n,e,_,_,h=>by cases h
 |L+1,n,e,B,s,h=>by
  obtain⟨C,D,r⟩:=hn h;have w:=oW e.kind;unfold q4;refine ae.eq (a1 (λb=>ae.some ?_) λl=>?_)
  ·have:e.aZ=[]:=by
    have F:fK e.kind=0:=by unfold fK;rw[bg (Or.inr (Or.inr b))]
    exact nT O
   simp[ek,b,this]
  obtain⟨n,rfl⟩: ∃j,n=j+1:=⟨n-1,O⟩
  have m: ∀k∈e.aZ,((ek L k).length:Int)<=100:=λk c=>by
   have G:=CE (r k c);have H:(2:Int)^L<=40:=by
    match L,s with
    |0,_=>decide
    |1,_=>decide
    |2,_=>decide
    |3,_=>decide
    |4,_=>decide
   have:=AV L k;omega
  refine ae.loop (λx:List cx×Int=> ∃i:Nat,x.2=i/\i<=e.aZ.length/\x.1=(e.aZ.take i).flatMap (ek L)/\(x.1.length:Int)<=100*i) (λx=>e.aZ.length-x.2.toNat) ?_ (n+1) _ ⟨0,rfl,O,bl,bl⟩ ca;rintro o ⟨x,k⟩ ⟨i,c,K,p,q⟩ y;dsimp only at c p q⊢;subst c;refine a1 (λz=>?_) λA=>ae.some ?_
  ·have a:=bC (O:i<e.aZ.length);have hm:=bX a;have bA:=m _ hm;refine ah (bo a) (ah (FN (d:=d) L n _ O O (r _ hm)) (ah (dM O) ?_));rw[bc O];refine y _ ⟨i+1,Z,O,?_,by dsimp only;rw[dP];omega⟩ Z;dsimp only;rw[eK,a,p7,p];simp
  have:i=e.aZ.length:=O
  rw[p,this,dZ];simp[ek,l]
theorem AD(n:Nat){a:aE}(h:a.aM.length<=1100000):qN n a=aa a:=by
 unfold qN;refine ae.eq (a1 (λb=>ae.some ?_) λb=>ah (mE _ h) (ae.some rfl));obtain⟨cs,c⟩:=a
 have:cs=[]:=nT (by simpa using b)
 grind
theorem zV(p:5500000<=n)(h:j1 a.ba):qO n a=aa a:=by
 obtain⟨q,e⟩:=h;refine ae.eq ?_;unfold qO;refine ae.loop (λx:List aE×Int=> ∃i:Nat,x.2=i/\i<=a.ba.length/\x.1=a.ba.take i) (λx=>a.ba.length-x.2.toNat) ?_ n _ ⟨0,rfl,O,bl⟩ ca;rintro c ⟨x,k⟩ ⟨i,d,r,b⟩ l;dsimp only at d b⊢;subst d;refine a1 (λm=>?_) λo=>ae.some ?_
 ·have hs:=bC (O:i<a.ba.length);have s:x.length=i:=by rw[b,c6];omega
  refine ah (bo hs) (ah (AD n (e _ (bX hs))) (ah (dM ca) ?_));rw[bc O];refine l _ ⟨i+1,Z,O,?_⟩ Z;dsimp only;rw[eK,hs,b];rfl
 have:i=a.ba.length:=O
 rw[b,this,dZ]
theorem Pr{l:List aE}(d:l.length<=2)(b: ∀a∈l,de a=ab):j1 l:=⟨O,λa c=>by have:=(fT (b a c)).1;unfold iu;omega⟩
theorem Mc{d:Int}: ∀(L n:Nat) (e:Expr) (out:List cx),6600000+L<=n->L<=5->dD L e d=ab->(out.length:Int)<=1100000+200*(6-(L:Int))->tS (n+1) out e=aa (out++ek L e)
 |0,n,e,out,_,_,h,_=>by cases h
 |L+1,n,e,out,Q,A,h,R=>by
  obtain⟨W,X,s⟩:=hn h;have B:=oW e.kind;unfold tS;refine ae.eq (ae.aS (λz=>z=out++(if e.kind=3 then [e.read] else [])) (λj w=>a1 (λa=>?_) λm=>w _ (by rw[be m];simp)) λz y=>?_)
  ·have C:=GG h e.read (by simp[ek,a]);obtain⟨_,D,F⟩:=mh C;exact ah (zV O (Pr D F)) (ah (dM ca) (w _ (by rw[bg a])))
  subst y;obtain⟨n,rfl⟩: ∃j,n=j+1:=⟨n-1,O⟩
  by_cases a:e.kind=3
  ·have b:e.aZ=[]:=by
    have y:fK e.kind=0:=by unfold fK;rw[bg (Or.inr (Or.inr a))]
    exact nT O
   rw[b];refine ae.some ?_;simp[ek,a,b]
  have o: ∀k∈e.aZ,((ek L k).length:Int)<=100:=λk l=>by
   have f:=CE (s k l);have g:(2:Int)^L<=40:=by
    match L,A with
    |0,_=>decide
    |1,_=>decide
    |2,_=>decide
    |3,_=>decide
    |4,_=>decide
   have:=AV L k;omega
  rw[be a,jr];refine ae.loop (λx:List cx×Int=> ∃i:Nat,x.2=i/\i<=e.aZ.length/\x.1=out++(e.aZ.take i).flatMap (ek L)/\(x.1.length:Int)<=out.length+100*i) (λx=>e.aZ.length-x.2.toNat) ?_ (n+1) _ ⟨0,rfl,O,bl,bl⟩ ca;rintro p ⟨x,k⟩ ⟨i,l,t,q,r⟩ G;dsimp only at l q r⊢;subst l;refine a1 (λH=>?_) λK=>ae.some ?_
  ·have c:=bC (O:i<e.aZ.length);have hm:=bX c;have bA:=o _ hm;refine ah (bo c) (ah (Mc (d:=d) L n _ x O O (s _ hm) O) ?_);rw[bc O];refine G _ ⟨i+1,Z,O,?_,by dsimp only;rw[dP];omega⟩ Z;dsimp only;rw[eK,c,p7,q];simp
  have:i=e.aZ.length:=O
  rw[q,this,dZ];simp[ek,a]
theorem P6{o:List Loop}(b:Fit o): ∀(cb:List Loop) (k:Nat) (p q:List Int),o.drop k=cb->k<=o.length->il k p->q∈fF cb p->il o.length q
 | [],k,p,q,c,e,d,a=>by
  have:=B2 c e;simp only[fF,List.mem_singleton] at a;subst a;subst this;exact d
 |l::cb,k,p,q,c,e,d,a=>by obtain⟨h,i,w⟩:=A9 c;obtain⟨m,n⟩:=b.2 k l h;have r:=b.1;simp only[fF,List.mem_flatMap] at a;obtain⟨v,s,a⟩:=a;exact P6 b cb (k+1) _ q i O (Ca m n d O (ac9.1 s)) a
theorem sC{o:List Loop}{z:List (List Int)}(h:jS o=aa z):Fit o/\z.length<=120/\(∀q∈z,il o.length q)/\z=fF o []/\fO o []<=1200:=by
 unfold jS at h;split at h
 ·rename_i a;cases h;have b:=Cn a.1;exact⟨b,a.2.2,λq c=>P6 b o 0 [] q rfl O zn c,rfl,a.2.1⟩
 cases h
def gU(b:List cz)(s:Stmt)(q:List Int):Bool:=aj (0<=eP b s.write q 0)&&(ek 5 s.value).all λa=>decide (0<=eP b a q 0)
theorem ke(h:eN s d=ab):fV s.write d=ab/\dD 5 s.value d=ab/\(∀a∈ek 5 s.value,fV a d=ab)/\(ek 5 s.value).length<=12:=by
 simp only[eN,cB,decide_eq_true_eq] at h;obtain⟨_,c,b,e⟩:=h
 have:=AV 5 s.value;exact⟨c,b,GG b,O⟩
theorem XZ(C:7700000<=n)(b:p.a7.length<=4)(c:lk p.a7)(o:eN s d=ab)(e:il k q):DE n p s q=aa (gU p.a7 s q):=by
 obtain⟨r,w,x,D⟩:=ke o;obtain⟨n,rfl⟩: ∃j,n=j+1:=⟨n-1,O⟩
 refine ae.eq ?_;unfold DE;generalize i:gU p.a7 s q=T;unfold gU at i;refine ae.aS (λz=>z=T) (λj m=>ah (A6 O b c r e) (a1 (λh=>?_) λh=>m _ ?_)) λz y=>ae.some y
 ·have bW:=Vj (n:=n+1) (f:=λA=>yR (n+1) A p q) (p:=λa=>decide (eP p.a7 a q 0<0)) (l:=ek 5 s.value)
   (λa B=>by unfold yR;rw[A6 O b c (x a B) e];rfl) O O
  refine ah (FN (d:=d) 5 n s.value O O w) (ah bW (m _ ?_))
  grind
 rw[<-i,bN h];rfl
theorem Ly(v:7700000<=n)(C:r.length<=4)(D:lk r)(H:eN s d=ab)(F:il k q):
  wQ n r s q=aa (if gU r s q=ab then((ek 5 s.value).map λa=>eP r a q 0,eP r s.write q 0,ab) else([],0,al)):=by
 obtain⟨K,L,Q,E⟩:=ke H;obtain⟨n,rfl⟩: ∃j,n=j+1:=⟨n-1,O⟩
 refine ae.eq ?_;unfold wQ;refine ah (Mc (d:=d) 5 n s.value [] O O L bl) ?_;rw[tZ];generalize W:ek 5 s.value=R at*;have c:gU r s q=(aj (0<=eP r s.write q 0)&&R.all λa=>decide (0<=eP r a q 0)):=by unfold gU;rw[W]
 refine ae.loop (λx:List Int×Int=> ∃i:Nat,x.2=i/\i<=R.length/\x.1=(R.take i).map (λa=>eP r a q 0)/\ ∀(t:Nat) a,t<i->R[t]? =aa a->0<=eP r a q 0) (λx=>R.length-x.2.toNat) ?_ (n+1) _ ⟨0,rfl,O,bl,λt a h=>O⟩ Z;rintro p ⟨x,z⟩ ⟨i,G,I,o,w⟩ X;dsimp only at G o w⊢;subst G;refine a1 (λf=>?_) λg=>?_
 ·have bV:=bC (O:i<R.length);have hm:=bX bV;refine ah (bo bV) (ah (NG O C D (Q _ hm) F) (a1 (λe=>ae.some ?_) λl=>?_))
  ·rw[be];rw[c];intro h;rw[p3] at h
   have:=gy.1 h.2 _ hm;rw[decide_eq_true_eq] at this;omega
  have u:x.length<=12:=by rw[o,dF,c6];omega
  refine ah (dM ca) ?_;rw[bc O];refine X _ ⟨i+1,Z,O,?_,λt a y b=>?_⟩ Z
  ·dsimp only;rw[eK,bV,ic,o];rfl
  by_cases A:t=i
  ·subst A;rw[bV] at b;cases b;omega
  exact w t a O b
 have B:i=R.length:=O
 have m:R.all (λa=>decide (0<=eP r a q 0))=ab:=gy.2 (λa hm=>by
  obtain⟨t,y⟩:=kW hm
  have:=(d0.1 y).1;exact bS (w t a O y))
 rw[c,m,Bool.and_true];refine ah (NG O C D K F) (a1 (λe=>ae.some ?_) λl=>ae.some ?_)
 ·rw[be (by rw[decide_eq_true_eq];omega)]
 rw[bg (by rw[decide_eq_true_eq];omega),o,B,dZ]
def ki(q:List Int):Bool:=aj (q.length<=4)&&q.all λx=>decide (-9999<=x/\x<=9999)
theorem W5(b:5500000<=n)(h:q.length<=1100000):A5 n q=aa (ki q):=by
 unfold A5 ki;have bW:=Ek (n:=n) (f:=λa=>zs n a) (p:=λx=> !decide (-9999<=x/\x<=9999)) (l:=q) (λx _=>by unfold zs;rw[jg];rfl) O O;simp only[aS,bQ]
 grind
theorem WX(r:5500000<=n)(h:q.length<=1100000):AQ n q=aa (ki q):=by
 refine ae.eq ?_;unfold AQ;refine p0 (l:=q) (p:=λ_ x=>decide (-9999<=x/\x<=9999)) O O (λa i x d e k=>?_) (λa b=>?_) (λ⟨i,x,d,m⟩=>?_)
 ·have aL:=(d0.1 d).1;rw[bS (show(i:Int)<(q.length:Int) by omega)];refine b7 (ah (bo d) (ah (zq n x 9999 O) ?_));cases m:aj (-9999<=x/\x<=9999) with
  |true=>show ae (a _) _;rw[bc O];exact e m
  |false=>exact ae.some (k m)
 ·rw[bN (show¬(q.length:Int)<(q.length:Int) by omega)];refine ae.some ?_;unfold ki;rw[gy.2 (λc o=>by obtain⟨i,aL⟩:=kW o;exact b i c aL),Bool.and_true]
  grind
 unfold ki
 grind
theorem OA{k:Type}(p q:k->Bool): ∀l:List k,(l.all p&&l.all q)=l.all (λx=>p x&&q x)
 | []=>rfl
 |x::l=>by simp only[List.all_cons,<-OA p q l];cases p x<;>cases q x<;>cases l.all p<;>cases l.all q<;>rfl
def oq(a:Part):Bool:=aj (1<=a.body.length/\a.body.length<=4)&&a.body.all λs=>eN s (a.nest.length:Int)
def jk(a:Part):List (List Int):=(jS a.nest).getD []
def eM(b:List cz)(a:Part):Bool:=(jS a.nest).isSome&&(oq a&&a.body.all λs=>(jk a).all λq=>gU b s q&&ki q)
def Ip(x:Part):Prop:=qt x.nest/\x.body.length<=1100000/\ ∀s∈x.body,Bj s
def j0(p:Prog):Prop:=FB p.a7/\p.parts.length<=1100000/\ ∀x∈p.parts,Ip x
theorem gu(h:eM r x=ab):jS x.nest=aa (jk x)/\(1<=x.body.length/\x.body.length<=4)/\(∀s∈x.body,eN s (x.nest.length:Int)=ab)/\ ∀s∈x.body,∀q∈jk x,gU r s q=ab/\ki q=ab:=by
 simp only[eM,oq,cB,decide_eq_true_eq,kr] at h;refine⟨?_,h.2.1.1,h.2.1.2,h.2.2⟩;unfold jk;cases a:jS x.nest with
 |none=>rw[a] at h;simp at h
 |some b=>rfl
theorem Io{list:List cz}(h:iS list=ab):list.length<=4/\lk list:=by
 simp only[iS,cB,decide_eq_true_eq] at h;refine⟨h.2,λx a=>?_⟩;obtain⟨i,b⟩:=kW a
 have:=FL h.1 b;simp only[mB,cB] at this
 grind
theorem X4(cR:7700000<=n){a:List cz}(N:a.length<=4)(P:lk a)(S:Ip x):
  BE n a x=aa (if eM a x=ab then(((jk x).length:Int)*(x.body.length:Int),ab) else(0,al)):=by
 obtain⟨U,h2,V⟩:=S;refine ae.eq ?_;unfold BE;generalize v:(if eM a x=ab then(((jk x).length:Int)*(x.body.length:Int),ab) else((0:Int),al))=T;refine ah (Ve O U) ?_;have c:eM a x=al->((0:Int),al)=T:=λh=>by rw[<-v,h];rfl
 refine ae.aS (λz=>z= !((jS x.nest).isSome&&aj (1<=x.body.length/\x.body.length<=4))) (λj l=>?_) λz Q=>?_
 ·cases m:jS x.nest with
  |none=>exact b7 (l _ (by rw[m];rfl))
  |some b=>
   refine b3 (a1 (λh=>l _ ?_) λh=>l _ ?_)
   ·rw[m,bN O];rfl
   rw[m];by_cases h4:x.body.length<=4
   ·rw[bN (show¬(4:Int)<(x.body.length:Int) by omega),bS O];rfl
   rw[bS (show(4:Int)<(x.body.length:Int) by omega),bN O];rfl
 subst Q;cases m:jS x.nest with
 |none=>exact ae.some (c (by unfold eM;rw[m];rfl))
 |some b=>
  obtain⟨iv,Y,R,ahH,ahI⟩:=sC m;have A:jk x=b:=by unfold jk;rw[m];rfl
  by_cases K:1<=x.body.length/\x.body.length<=4
  ·rw[bS K];refine b3 ?_;have o:eM a x=x.body.all (λs=>eN s (x.nest.length:Int)&&b.all λq=>gU a s q&&ki q):=by
    unfold eM oq;rw[m,A,bS K,Option.isSome_some,gi,gi];exact OA _ _ _
   refine ae.loop (λy:Int=> ∃i:Nat,y=i/\i<=x.body.length/\ ∀(t:Nat) s,t<i->x.body[t]? =aa s->(eN s (x.nest.length:Int)&&b.all λq=>gU a s q&&ki q)=ab) (λy=>x.body.length-y.toNat) ?_ n _ ⟨0,rfl,O,λt s h=>O⟩ ca;rintro W y ⟨i,rfl,aL,E⟩ b5;refine a1 (λhlt=>?_) λkL=>ae.some ?_
   ·have bV:=bC (O:i<x.body.length);have hm:=bX bV;refine ah (bo bV) (ah (KZ O (V _ hm) _) ?_);cases e:eN x.body[i] (x.nest.length:Int) with
    |false=>
     refine b7 (ae.some (c ?_));rw[o];exact l8.2 ⟨_,hm,by rw[e];simp⟩
    |true=>
     refine b3 ?_;show ae (bz (λd (k1:Int)=>bif aj (k1<(b.length:Int)) then _ else _) n 0) _;refine ae.loop (λy:Int=> ∃k:Nat,y=k/\k<=b.length/\ ∀(t:Nat) q,t<k->b[t]? =aa q->(gU a x.body[i] q&&ki q)=ab) (λy=>b.length-y.toNat) ?_ n _ ⟨0,rfl,O,λt s h=>O⟩ ca;rintro d y ⟨k,rfl,hk,B⟩ X;refine a1 (λI=>?_) λM=>?_
     ·have p:=bC (O:k<b.length);have C:=bX p;have D:=R _ C;have f:b[k].length<=1100000:=by have:=D.1;have:=D.2.1;omega
      refine ah (bo p) (ah (Ly O N P e D) (ae.aS (λz=>z= !(gU a x.body[i] b[k]&&ki b[k])) (λj l=>?_) λz Q=>?_))
      ·cases F:gU a x.body[i] b[k] with
       |false=>
        rw[F] at l;exact b7 (l _ rfl)
       |true=>
        rw[F] at l;exact b3 (ah (WX O f) (l _ rfl))
      subst Q;cases F:(gU a x.body[i] b[k]&&ki b[k]) with
      |false=>
       refine ae.some (c ?_);rw[o];refine l8.2 ⟨_,hm,?_⟩;rw[e,gi];rw[l8.2 ⟨_,C,by rw[F];simp⟩];simp
      |true=>
       show ae (d _) _;rw[bc O];refine X _ ⟨k+1,O,O,λt q L r=>?_⟩ O;by_cases g:t=k
       ·subst g;rw[p] at r;cases r;exact F
       exact B t q O r
     rw[bc O];refine b5 _ ⟨i+1,O,O,λt s L w=>?_⟩ O;by_cases u:t=i
     ·subst u;rw[bV] at w;cases w;rw[e,gi];refine gy.2 λq D=>?_;obtain⟨l5,G⟩:=kW D
      have:=(d0.1 G).1;exact B l5 q O G
     exact E t s O w
   have H:eM a x=ab:=by
    rw[o];refine gy.2 λs hs=>?_;obtain⟨t,L⟩:=kW hs
    have:=(d0.1 L).1;exact E t s O L
   rw[<-v,H,bg rfl,A];show(wr ((b.length:Int)*(x.body.length:Int)),ab)=_;have lb:(0:Int)<=(b.length:Int)*(x.body.length:Int):=o2 O O;have vz:(b.length:Int)*(x.body.length:Int)<=120*4:=rG O O O O;rw[bc O]
  rw[bN K];refine ae.some (c ?_);unfold eM oq;rw[bN K];simp
def fS(x:Part):Int:=((jk x).length:Int)*(x.body.length:Int)
def oN(i:Nat)(x:Part):List cN:=(jk x).flatMap λq=>(List.range x.body.length).map fun(k:Nat)=>(⟨(i:Int),(k:Int),q⟩:cN)
def bI(a:List Part):List cN:=a.zipIdx.flatMap λy=>oN y.2 y.1
def jK(p:Prog):Bool:=iS p.a7&&(aj (p.parts.length<=4)&&p.parts.all (eM p.a7))
def b6(p:Prog):Bool:=jK p&&aj ((p.parts.map fS).sum<=120)
theorem aiq(l:List Part)(x:Part):bI (l++[x])=bI l++oN l.length x:=by
 unfold bI
 grind
theorem J1{l:List Part}(h:l[i]? =aa x):bI (l.take (i+1))=bI (l.take i)++oN i x:=by have aL:=(d0.1 h).1;rw[eK,h];show bI (l.take i++[x])=_;rw[aiq,c6,zP (Nat.le_of_lt aL)]
theorem B1{k R:Type}(f:k->List R)(m:Nat)(h: ∀x,(f x).length=m): ∀l:List k,(l.flatMap f).length=l.length*m
 | []=>bl
 |x::l=>by rw[List.flatMap_cons,dP,h,B1 f m h l,List.length_cons,dN];omega
theorem J0(i:Nat)(x:Part):((oN i x).length:Int)=fS x:=by
 unfold oN fS;rw[B1 _ x.body.length λq=>bl]
 grind
theorem Ob{l:List Part}(h:l[i]? =aa x):((l.take (i+1)).map fS).sum=((l.take i).map fS).sum+fS x:=by rw[eK,h];simp
theorem Sf: ∀(l:List Part) (i:Nat),i<=l.length->((bI (l.take i)).length:Int)=((l.take i).map fS).sum
 |l,0,_=>by simp[bI]
 |l,i+1,h=>by
  have bV:=bC (O:i<l.length);rw[J1 bV,dP,Ob bV]
  have:=Sf l i O
  have:=J0 i l[i];omega
theorem Dt(l:List Part):((bI l).length:Int)=(l.map fS).sum:=by
 have:=Sf l l.length (df _)
 grind
theorem Ag(h:eM r x=ab):0<=fS x/\fS x<=480:=by
 obtain⟨a,b,_⟩:=gu h;obtain⟨_,c,_⟩:=sC a;unfold fS;refine⟨o2 O O,?_⟩
 have:=rG (show((jk x).length:Int)<=120 by omega) (show(x.body.length:Int)<=4 by omega) O O;omega
theorem jc(g:7700000<=n)(F:j0 p):lM n p=aa (b6 p):=by
 obtain⟨G,u,H⟩:=F;refine ae.eq ?_;unfold lM;generalize o:b6 p=T;unfold b6 jK at o;refine ae.aS (λz=>z= !(iS p.a7&&aj (p.parts.length<=4))) (λj B=>ah (VB O G) ?_) λz l=>?_
 ·cases d:iS p.a7 with
  |false=>exact b7 (B _ (by rw[d];rfl))
  |true=>
   refine b3 (B _ ?_);rw[d];by_cases C:p.parts.length<=4
   ·rw[bN (show¬(4:Int)<(p.parts.length:Int) by omega),bS C];rfl
   rw[bS (show(4:Int)<(p.parts.length:Int) by omega),bN C];rfl
 subst l;cases m:(iS p.a7&&aj (p.parts.length<=4)) with
 |false=>
  refine ae.some ?_;rw[<-o,<-l9,m];rfl
 |true=>
  have e:T=(p.parts.all (eM p.a7)&&aj ((p.parts.map fS).sum<=120)):=by rw[<-o,<-l9,m];rfl
  rw[p3,decide_eq_true_eq] at m;obtain⟨K,L⟩:=Io m.1;refine b3 ?_;refine ae.loop (λx:Int×Int=> ∃i:Nat,x.2=i/\i<=p.parts.length/\x.1=((p.parts.take i).map fS).sum/\0<=x.1/\x.1<=480*i/\ ∀(t:Nat) y,t<i->p.parts[t]? =aa y->eM p.a7 y=ab) (λx=>p.parts.length-x.2.toNat) ?_ n _ ⟨0,rfl,O,bl,bl,bl,λt y h=>O⟩ Z;rintro a ⟨x,z⟩ ⟨i,l,v,D,q,r,d⟩ Q;dsimp only at l D q r d⊢;subst l;refine a1 (λR=>?_) λW=>ae.some ?_
  ·have bV:=bC (O:i<p.parts.length);have hm:=bX bV;refine ah (bo bV) (ah (X4 O K L (H _ hm)) ?_);cases b:eM p.a7 p.parts[i] with
   |false=>
    rw[be bl];refine ae.some ?_;rw[e,l8.2 ⟨_,hm,by rw[b];simp⟩];rfl
   |true=>
    rw[bg rfl];have X:=Ag b;show ae (a (wr (x+fS p.parts[i]),wr ((i:Int)+1))) _;rw[bc (n:=x+fS p.parts[i]) O,bc O];refine Q _ ⟨i+1,Z,O,by dsimp only;rw[Ob bV];omega,Z,Z,λt y s c=>?_⟩ Z;by_cases w:t=i
    ·subst w;rw[bV] at c;cases c;exact b
    exact d t y O c
  have A:i=p.parts.length:=O
  have k:p.parts.all (eM p.a7)=ab:=gy.2 (λy f=>by
   obtain⟨t,s⟩:=kW f
   have:=(d0.1 s).1;exact d t y O s)
  rw[e,k,gi,D,A,dZ]
theorem K2{R:Type}(f:Nat->R)(k:Nat):(List.range (k+1)).map f=(List.range k).map f++[f k]:=by rw[p4,ic];rfl
theorem K3(cR:7700000<=n)(hp:j0 p):vl n p=aa (if jK p=ab then(bI p.parts,aj ((bI p.parts).length<=120)) else([],al)):=by
 obtain⟨h1,h2,h3⟩:=hp;refine ae.eq ?_;unfold vl;generalize mG:(if jK p=ab then(bI p.parts,aj ((bI p.parts).length<=120)) else([],al))=T;have a:jK p=al->(([]:List cN),al)=T:=λh=>by rw[<-mG,h];rfl
 refine ae.aS (λz=>z= !(iS p.a7&&aj (p.parts.length<=4))) (λj E=>ah (WG O h1) ?_) λz c=>?_
 ·cases I:iS p.a7 with
  |false=>exact b7 (E _ (by rw[I];rfl))
  |true=>
   refine b3 (E _ ?_);rw[I];by_cases h4:p.parts.length<=4
   ·rw[bN (show¬(4:Int)<(p.parts.length:Int) by omega),bS h4];rfl
   rw[bS (show(4:Int)<(p.parts.length:Int) by omega),bN h4];rfl
 subst c;cases bA:(iS p.a7&&aj (p.parts.length<=4)) with
 |false=>exact ae.some (a (by unfold jK;rw[<-l9,bA];rfl))
 |true=>
  have d:jK p=p.parts.all (eM p.a7):=by unfold jK;rw[<-l9,bA];rfl
  rw[p3,decide_eq_true_eq] at bA;obtain⟨hl,cI⟩:=Io bA.1;refine b3 ?_;refine ae.loop (λx:List cN×Int=> ∃i:Nat,x.2=i/\i<=p.parts.length/\x.1=bI (p.parts.take i)/\x.1.length<=480*i/\ ∀(t:Nat) y,t<i->p.parts[t]? =aa y->eM p.a7 y=ab) (λx=>p.parts.length-x.2.toNat) ?_ n _ ⟨0,rfl,O,by simp[bI],bl,λt y h=>O⟩ Z;rintro again ⟨x,z⟩ ⟨i,c,aL,hx,ah7,I⟩ b5;dsimp only at c hx ah7 I⊢;subst c;refine a1 (λhlt=>?_) λkL=>ae.some ?_
  ·have bV:=bC (O:i<p.parts.length);have hm:=bX bV;obtain⟨s1,s2,ak9⟩:=h3 _ hm;generalize yz:p.parts[i]=P at*;have r:eM p.a7 P=al->jK p=al:=λh=>by rw[d];exact l8.2 ⟨_,hm,by rw[h];simp⟩
   refine ah (bo bV) (ah (Vh O s1) (ae.aS (λz=>z= !((jS P.nest).isSome&&oq P)) (λj E=>?_) λz c=>?_))
   ·cases A:jS P.nest with
    |none=>exact b7 (E _ (by rw[A];rfl))
    |some b=>
     refine b3 ?_;have hw:fz n (P.body.length:Int) 1 4=aa (aj (1<=P.body.length/\P.body.length<=4)):=by
      rw[jg];congr 1;exact decide_eq_decide.2 O
     refine ah hw ?_;have bW:=WJ (n:=n) (f:=λtG=>yv n tG P) (p:=λs=> !eN s (P.nest.length:Int)) (l:=P.body) (λs M=>by unfold yv;rw[Vx O (ak9 s M)];rfl) O O;have e:(P.body.any λs=> !eN s (P.nest.length:Int))= !(P.body.all λs=>eN s (P.nest.length:Int)):=by rw[List.all_eq_not_any_not];simp
     cases N:aj (1<=P.body.length/\P.body.length<=4) with
     |false=>exact b7 (E _ (by unfold oq;rw[A,N];rfl))
     |true=>exact b3 (ah bW (E _ (by unfold oq;rw[A,N,e];rfl)))
   subst c;cases A:jS P.nest with
   |none=>exact ae.some (a (r (by unfold eM;rw[A];rfl)))
   |some b=>
    obtain⟨iv,akc,ahG,ahH,ahI⟩:=sC A;have S:jk P=b:=by unfold jk;rw[A];rfl
    cases F:oq P with
    |false=>exact ae.some (a (r (by unfold eM;rw[F];simp)))
    |true=>
     have B:=F;simp only[oq,cB,decide_eq_true_eq,kr] at B;obtain⟨⟨lb,vz⟩,yD⟩:=B;have G:eM p.a7 P=P.body.all (λs=>b.all λq=>gU p.a7 s q&&ki q):=by
      unfold eM;rw[A,F,S];rfl
     let row:List Int->List cN:=λq=>(List.range P.body.length).map fun(k:Nat)=>(⟨(i:Int),(k:Int),q⟩:cN)
     have hrl: ∀q,(row q).length=P.body.length:=λq=>by simp[row]
     have o:oN i P=b.flatMap row:=by unfold oN;rw[S]
     refine b3 ?_;rw[show(sy (aa b)).1=b from rfl];refine ae.loop (λy:List cN×Int=> ∃k:Nat,y.2=k/\k<=b.length/\y.1=x++(b.take k).flatMap row/\ ∀(t:Nat) q,t<k->b[t]? =aa q->ki q=ab/\ ∀s∈P.body,gU p.a7 s q=ab) (λy=>b.length-y.2.toNat) ?_ n _ ⟨0,rfl,O,bl,λt q h=>O⟩ Z;rintro U ⟨y,z⟩ ⟨k,c,hk,H,K⟩ V;dsimp only at c H K⊢;subst c;refine a1 (λhlt2=>?_) λaj2=>?_
     ·have w:=bC (O:k<b.length);have L:=bX w;generalize Jt:b[k]=Q at*;have Y:=ahG _ L;have ahK:Q.length<=4:=by have:=Y.1;have:=Y.2.1;omega
      refine ah (bo w) (ah (W5 O O) ?_);have aic:y.length<=480*4+480:=by
       rw[H,dP,B1 row _ hrl,c6]
       have:min k b.length*P.body.length<=120*4:=nY O vz;omega
      cases RY:ki Q with
      |false=>
       refine b7 (ae.some (a (r ?_)));rw[G];obtain⟨Kp,ahS⟩: ∃Kp,Kp∈P.body:=List.exists_mem_of_length_pos O;refine l8.2 ⟨Kp,ahS,?_⟩;rw[l8.2 ⟨Q,L,by rw[RY];simp⟩];simp
      |true=>
       refine b3 ?_;refine ae.loop (λu:List cN×Int=> ∃m:Nat,u.2=m/\m<=P.body.length/\u.1=y++(List.range m).map (fun(k:Nat)=>(⟨(i:Int),(k:Int),Q⟩:cN))/\ ∀(t:Nat) s,t<m->P.body[t]? =aa s->gU p.a7 s Q=ab) (λu=>P.body.length-u.2.toNat) ?_ n _ ⟨0,rfl,O,bl,λt s h=>O⟩ Z;rintro ajL ⟨u,z⟩ ⟨m,c,pB,hu,R⟩ ahM;dsimp only at c hu R⊢;subst c;refine a1 (λaj8=>?_) λaj3=>?_
       ·have W:=bC (O:m<P.body.length);have C:=bX W;refine ah (bo W) (ah (XZ O hl cI (yD _ C) Y) ?_);cases RC:gU p.a7 P.body[m] Q with
        |false=>
         refine b7 (ae.some (a (r ?_)));rw[G];refine l8.2 ⟨_,C,?_⟩;rw[l8.2 ⟨Q,L,by rw[RC];simp⟩];simp
        |true=>
         have hcl:jH Q=aa Q:=by unfold jH;rw[bg O]
         have q0:u.length<=480*4+480+4:=by rw[hu];simp;omega
         refine b3 (ah hcl (ah (dM ca) ?_));rw[bc O];refine ahM _ ⟨m+1,Z,O,?_,λt s D X=>?_⟩ Z
         ·dsimp only;rw[hu,K2,gL]
         by_cases ahY:t=m
         ·subst ahY;rw[W] at X;cases X;exact RC
         exact R t s O X
       have ahw:m=P.body.length:=O
       rw[bc O];refine V _ ⟨k+1,Z,O,?_,λt q D g=>?_⟩ Z
       ·dsimp only;rw[eK,w,p7,<-gL,<-H,hu,ahw];simp[row]
       by_cases Dp:t=k
       ·subst Dp;rw[w] at g;cases g;refine⟨RY,λs M=>?_⟩;obtain⟨l5,R6⟩:=kW M
        have:=(d0.1 R6).1;exact R l5 s O R6
       exact K t q O g
     have RL:k=b.length:=O
     have RW:eM p.a7 P=ab:=by
      rw[G];refine gy.2 λs M=>gy.2 λq Y=>?_;obtain⟨t,D⟩:=kW Y
      have:=(d0.1 D).1;obtain⟨g1,g2⟩:=K t q O D;rw[g1,g2 s M];rfl
     have Dg:=Ag RW;have qZ:=J0 i P;rw[bc O];refine b5 _ ⟨i+1,Z,O,?_,?_,λt y D v=>?_⟩ Z
     ·dsimp only;rw[J1 bV,o,H,RL,dZ,hx]
     ·dsimp only;rw[H,RL,dZ,dP,<-o];omega
     by_cases ahX:t=i
     ·subst ahX;rw[bV] at v;cases v;exact RW
     exact I t y O v
  have ahc:i=p.parts.length:=O
  have hall:jK p=ab:=by
   rw[d];exact gy.2 (λy H=>by
    obtain⟨t,D⟩:=kW H
    have:=(d0.1 D).1;exact I t y O D)
  rw[<-mG,bg hall,hx,ahc,dZ];congr 1;exact decide_eq_decide.2 O
theorem sG(a:7700000<=n)(b:j0 p):tc n p=aa (b6 p):=by
 unfold tc;rw[K3 a b];unfold b6;cases h:jK p with
 |false=>rfl
 |true=>
  rw[bg rfl];show aa (decide _)=_;rw[gi];congr 1
  have:=Dt p.parts;exact decide_eq_decide.2 O
theorem en(h:b6 p=ab):p.a7.length<=4/\lk p.a7/\p.parts.length<=4/\(∀x∈p.parts,eM p.a7 x=ab)/\(bI p.parts).length<=120:=by
 simp only[b6,jK,cB,decide_eq_true_eq,kr] at h;obtain⟨⟨c,d,e⟩,i⟩:=h;obtain⟨a,b⟩:=Io c
 have:=Dt p.parts
 grind
theorem vU(cR:7700000<=n)(U:b6 p=ab):pv n p=aa (bI p.parts):=by
 obtain⟨hl,cI,h4,C,V⟩:=en U;refine ae.eq ?_;unfold pv;refine ae.loop (λx:List cN×Int=> ∃i:Nat,x.2=i/\i<=p.parts.length/\x.1=bI (p.parts.take i)/\x.1.length<=480*i) (λx=>p.parts.length-x.2.toNat) ?_ n _ ⟨0,rfl,O,by simp[bI],bl⟩ Z;rintro D ⟨x,z⟩ ⟨i,b,aL,F,G⟩ Y;dsimp only at b F G⊢;subst b;refine a1 (λhlt=>?_) λkL=>ae.some ?_
 ·have bV:=bC (O:i<p.parts.length);have hm:=bX bV;have d:=C _ hm;generalize yz:p.parts[i]=P at*;obtain⟨mT,q2,rm,Ss⟩:=gu d;obtain⟨t,H,K,e,L⟩:=sC mT;generalize R:jk P=v at*;have Dg:=Ag d;have E:=J0 i P;let row:List Int->List cN:=λq=>(List.range P.body.length).map fun(k:Nat)=>(⟨(i:Int),(k:Int),q⟩:cN)
  have W: ∀q,(row q).length=P.body.length:=λq=>by simp[row]
  have a:oN i P=v.flatMap row:=by unfold oN;rw[R]
  refine ah (bo bV) (hE (Ff t P.nest n 0 [] [] (by have:=t.1;omega) rfl O zn L bl) λr ⟨tO,wI⟩=>?_);have X:r=v:=by rw[tO (by rw[<-e];simpa using H),e];rfl
  subst X;refine ae.loop (λy:List cN×Int=> ∃k:Nat,y.2=k/\k<=r.length/\y.1=x++(r.take k).flatMap row) (λy=>r.length-y.2.toNat) ?_ n _ ⟨0,rfl,O,bl⟩ Z;rintro h ⟨y,z⟩ ⟨k,b,hk,l⟩ o;dsimp only at b l⊢;subst b;refine a1 (λI=>?_) λM=>?_
  ·have c:=bC (O:k<r.length);have f:=bX c;generalize Jt:r[k]=Q at*;have N:=K _ f;have ahK:Q.length<=4:=by have:=N.1;have:=N.2.1;omega
   have aic:y.length<=480*4+480:=by
    rw[l,dP,B1 row _ W,c6]
    have:min k r.length*P.body.length<=120*4:=nY O q2.2;omega
   refine ae.loop (λu:List cN×Int=> ∃m:Nat,u.2=m/\m<=P.body.length/\u.1=y++(List.range m).map (fun(k:Nat)=>(⟨(i:Int),(k:Int),Q⟩:cN))) (λu=>P.body.length-u.2.toNat) ?_ n _ ⟨0,rfl,O,bl⟩ Z;rintro s ⟨u,z⟩ ⟨m,b,pB,B⟩ w;dsimp only at b B⊢;subst b;refine a1 (λS=>?_) λT=>?_
   ·have q0:u.length<=480*4+480+4:=by rw[B];simp;omega
    refine ah (bo c) (ah (mE _ O) (ah (dM ca) ?_));rw[bc O];refine w _ ⟨m+1,Z,O,?_⟩ Z;dsimp only;rw[B,K2,gL]
   have g:m=P.body.length:=O
   rw[bc O];refine o _ ⟨k+1,Z,O,?_⟩ Z;dsimp only;rw[eK,c,p7,<-gL,<-l,B,g];simp[row]
  have A:k=r.length:=O
  rw[bc O];refine Y _ ⟨i+1,Z,O,?_,?_⟩ Z
  ·dsimp only;rw[J1 bV,a,l,A,dZ,F]
  dsimp only;rw[l,A,dZ,dP,<-a];omega
 have j:i=p.parts.length:=O
 rw[F,j,dZ]
theorem Zj{l:List cz}{x:cz}(h:l[i]? =aa x):gY (l.take (i+1))=gY (l.take i)+hv x.b9:=by unfold gY;rw[List.take_add_one,h];simp
theorem Mk(r:7700000<=n)(s:p.a7.length<=4)(h:lk p.a7):AO n p=aa (gY p.a7):=by
 refine ae.eq ?_;unfold AO;refine ae.loop (λx:Int×Int=> ∃i:Nat,x.2=i/\i<=p.a7.length/\x.1=gY (p.a7.take i)/\0<=x.1/\x.1<=36*i) (λx=>p.a7.length-x.2.toNat) ?_ n _ ⟨0,rfl,O,by simp[gY],bl,bl⟩ Z;rintro b ⟨x,z⟩ ⟨i,e,w,k,c,d⟩ l;dsimp only at e k c d⊢;subst e;refine a1 (λm=>?_) λo=>ae.some ?_
 ·have bV:=bC (O:i<p.a7.length);have a:=h _ (bX bV);have kN:=sk a;refine ah (bo bV) (ah (Fg O a) ?_);rw[bc (n:=x+hv p.a7[i].b9) O,bc O];exact l _ ⟨i+1,Z,O,by dsimp only;rw[Zj bV];omega,Z,Z⟩ Z
 have q:i=p.a7.length:=O
 grind
theorem Ms(a:7700000<=n)(b:p.a7.length<=4)(c:lk p.a7):DI n p=aa (gY p.a7):=Mk a b c
def jW:Nat->List cz->List Int->Expr->List Int->Int
 |0,_,_,_,_=>0
 |L+1,c,m,e,q=>
  if e.kind=1 then e.num
  else if e.kind=2 then gl e.index q%1000
  else if e.kind=3 then m.getD (eP c e.read q 0).toNat 0
  else match e.aZ with
   | [a,b]=>if e.kind=4 then(jW L c m a q+jW L c m b q)%1000 else if e.kind=5 then(jW L c m a q-jW L c m b q)%1000 else(jW L c m a q*jW L c m b q)%1000
   |_=>0
def sx(a:List cz)(m:List Int):Prop:=(m.length:Int)=gY a/\ ∀x∈m,0<=x/\x<=999
theorem aeY(h:sx r m)(i:Nat):0<=m.getD i 0/\m.getD i 0<=999:=by
 rw[fc];cases a:m[i]? with
 |none=>simp
 |some x=>exact h.2 x (bX a)
theorem aeS(b:sx r m): ∀{L:Nat} {e:Expr},dD L e d=ab->0<=jW L r m e q/\jW L r m e q<=999
 |0,e,h=>by cases h
 |L+1,e,h=>by
  obtain⟨c,a,i⟩:=hn h;simp only[jW];split
  ·rename_i cA;unfold eJ at a;rw[be O,be O,bg cA] at a;simp only[cB,decide_eq_true_eq] at a;omega
  split
  ·omega
  split
  ·exact aeY b _
  split
  ·split
   ·omega
   split<;>omega
  omega
def gF(p:Prog)(x:cN):Prop:= ∃(i k:Nat) (P:Part) (s:Stmt),x.part=i/\x.stmt=k/\p.parts[i]? =aa P/\P.body[k]? =aa s/\x.db∈jk P
def uR(p:Prog)(x:cN):Option Stmt:=(p.parts[x.part.toNat]?).bind λP=>P.body[x.stmt.toNat]?
def jv(p:Prog)(m:List Int)(x:cN):List Int:=match uR p x with
 |some s=>m.set (eP p.a7 s.write x.db 0).toNat (jW 5 p.a7 m s.value x.db)
 |none=>m
theorem vT(n:b6 p=ab){x:cN}(o:gF p x): ∃(i k:Nat) (P:Part) (s:Stmt) (d:Int),x.part=i/\x.stmt=k/\p.parts[i]? =aa P/\P.body[k]? =aa s/\uR p x=aa s/\eN s d=ab/\il P.nest.length x.db/\gU p.a7 s x.db=ab:=by obtain⟨C,D,F,a,q⟩:=en n;obtain⟨i,k,P,s,h,l,b,c,m⟩:=o;obtain⟨r,G,w,y⟩:=gu (a P (bX b));obtain⟨H,z,e,A,B⟩:=sC r;have hs:=bX c;exact⟨i,k,P,s,_,h,l,b,c,by unfold uR;rw[h,l,c7,b];exact(by rw[c7];exact c),w s hs,e _ m,(y s hs _ m).1⟩
theorem HP(h:gU r s q=ab):0<=eP r s.write q 0/\ ∀a∈ek 5 s.value,0<=eP r a q 0:=by simp only[gU,cB,decide_eq_true_eq,kr] at h;exact h
theorem GW{k:Type}{l:List k}(a:0<=c)(h:c.toNat<l.length)(x:k):cd l c x=aa (l.set c.toNat x):=by unfold cd;rw[bg ⟨a,O⟩]
theorem ya{k:Type}{l:List k}(a:0<=c)(h:c.toNat<l.length):aB l c=aa l[c.toNat]:=by unfold aB;rw[bg a,List.getElem?_eq_getElem h]
theorem O'(c:b6 p=ab)(a:sx p.a7 m){x:cN}(e:gF p x):sx p.a7 (jv p m x):=by
 obtain⟨i,k,P,s,d,o,q,r,w,l,n,y,z⟩:=vT c e;unfold jv;rw[l];refine⟨by rw[fX];exact a.1,λv b=>?_⟩;rcases w4 b with h|h
 ·exact a.2 v h
 rw[h];exact aeS a (ke n).2.1
theorem iQ{l:List Part}{x:cN}(h:x∈bI l): ∃(i k:Nat) (P:Part) (s:Stmt),x.part=i/\x.stmt=k/\l[i]? =aa P/\P.body[k]? =aa s/\x.db∈jk P:=by unfold bI at h;rw[zO] at h;obtain⟨⟨P,i⟩,c,a⟩:=h;unfold oN at a;rw[zO] at a;obtain⟨q,d,b⟩:=a;rw[eH] at b;obtain⟨k,e,rfl⟩:=b;have m:=w5.1 e;exact⟨i,k,P,P.body[k],rfl,rfl,Eo.1 c,bC m,d⟩
def mW(p:Prog)(m:List Int)(l:List cN):List Int:=l.foldl (jv p) m
end
section
def fr(B:Nat)(a:aE):Prop:=a.aM.length<=B
def ks(B:Nat)(l:List aE):Prop:=l.length<=B/\ ∀a∈l,fr B a
def rZ(B:Nat)(a:List Loop):Prop:=a.length<=B/\ ∀l∈a,ks B l.bq/\ks B l.aL
def kt(B:Nat):Nat->Expr->Prop
 |0,_=>False
 |L+1,e=>e.aZ.length<=B/\fr B e.index/\ks B e.read.ba/\ ∀k∈e.aZ,kt B L k
def nk(B:Nat)(s:Stmt):Prop:=ks B s.write.ba/\kt B 5 s.value
def im(B:Nat)(x:Part):Prop:=rZ B x.nest/\x.body.length<=B/\ ∀s∈x.body,nk B s
def xk(B:Nat)(l:List cz):Prop:=l.length<=B/\ ∀x∈l,x.b9.length<=B
def eo(B:Nat)(p:Prog):Prop:=xk B p.a7/\p.parts.length<=B/\ ∀x∈p.parts,im B x
variable {B C n:Nat}{s:Stmt}{p:Prog}{k R:Type}{K:List k->Option R}{Q:R->Prop}{l:List k}
theorem fr.mono(h:B<=C){a:aE}(b:fr B a):fr C a:=eO b h
theorem ks.mono(h:B<=C){l:List aE}(b:ks B l):ks C l:=⟨eO b.1 h,λa c=>(b.2 a c).mono h⟩
theorem rZ.mono(h:B<=C){l:List Loop}(b:rZ B l):rZ C l:=⟨eO b.1 h,λa c=>⟨(b.2 a c).1.mono h,(b.2 a c).2.mono h⟩⟩
theorem kt.mono{B C:Nat}(h:B<=C): ∀{L M:Nat} {e:Expr},L<=M->kt B L e->kt C M e
 |0,_,_,_,a=>a.elim
 |L+1,0,_,b,_=>O
 |L+1,M+1,e,b,a=>⟨eO a.1 h,a.2.1.mono h,a.2.2.1.mono h,λk c=>kt.mono h O (a.2.2.2 k c)⟩
theorem nk.mono(h:B<=C)(a:nk B s):nk C s:=⟨a.1.mono h,a.2.mono h (df _)⟩
theorem im.mono(h:B<=C){s:Part}(a:im B s):im C s:=⟨a.1.mono h,eO a.2.1 h,λs b=>(a.2.2 s b).mono h⟩
theorem xk.mono(h:B<=C){s:List cz}(a:xk B s):xk C s:=⟨eO a.1 h,λs b=>eO (a.2 s b) h⟩
theorem eo.mono(h:B<=C)(a:eo B p):eo C p:=⟨a.1.mono h,eO a.2.1 h,λs b=>(a.2.2 s b).mono h⟩
theorem ks.sm{l:List aE}(h:ks 1100000 l):j1 l:=⟨h.1,h.2⟩
theorem kt.sm: ∀{L:Nat} (j:Nat) {e:Expr},kt 1100000 L e->uF j e
 |_,0,_,_=>trivial
 |0,_+1,_,h=>h.elim
 |L+1,j+1,e,h=>⟨h.1,h.2.1,h.2.2.1.sm,λk a=>kt.sm j (h.2.2.2 k a)⟩
theorem nk.sm(h:nk 1100000 s):Bj s:=⟨h.1.sm,h.2.sm 5⟩
theorem rZ.sm{l:List Loop}(h:rZ 1100000 l):qt l:=⟨h.1,λx a=>⟨(h.2 x a).1.sm,(h.2 x a).2.sm⟩⟩
theorem im.sm{x:Part}(h:im 1100000 x):Ip x:=⟨h.1.sm,h.2.1,λs a=>(h.2.2 s a).sm⟩
theorem eo.sm(h:eo 1100000 p):j0 p:=⟨⟨h.1.1,h.1.2⟩,h.2.1,λx a=>(h.2.2 x a).sm⟩
theorem nL(n:Nat)(c:Int):lR n c=aa ⟨[0,0,0,0],c⟩:=rfl
theorem Gn{h:Type}{f:k->Option h}{g:k->h->k}(e: ∀x∈l,∃z,f x=aa z/\g x z=x)(s:l.length<=1100000)(A:5500000<=n)(B:ae (K l) Q):
  ae (bz (λa ((x,i):List k×Int)=>bif aj (i<(l.length:Int)) then(bQ (aB l i) λy=>bQ (f y) λz=>bQ (app x [g y z]) λw=>a (w,wr (i+1))) else K x) n ([],0)) Q:=by
 refine ae.loop (λz:List k×Int=> ∃i:Nat,z.2=i/\i<=l.length/\z.1=l.take i) (λz=>l.length-z.2.toNat) ?_ n _ ⟨0,rfl,O,bl⟩ Z;rintro a ⟨x,z⟩ ⟨i,d,C,b⟩ m;dsimp only at d b⊢;subst d;refine a1 (λo=>?_) λp=>?_
 ·have bV:=bC (O:i<l.length);have q:x.length<=1100000:=by rw[b,c6];omega
  obtain⟨y,r,c⟩:=e _ (bX bV);refine ah (bo bV) (ah r (ah (dM ca) ?_));rw[bc O];refine m _ ⟨i+1,Z,O,?_⟩ Z;dsimp only;rw[eK,bV,b,c];rfl
 have:i=l.length:=O
 grind
theorem mO{f:k->Option k}(b: ∀x∈l,f x=aa x)(c:l.length<=1100000)(d:5500000<=n)(e:ae (K l) Q):
  ae (bz (λa ((x,i):List k×Int)=>bif aj (i<(l.length:Int)) then(bQ (aB l i) λy=>bQ (f y) λz=>bQ (app x [z]) λw=>a (w,wr (i+1))) else K x) n ([],0)) Q:=
 Gn (g:=λ_ z=>z) (λx h=>⟨x,b x h,rfl⟩) c d e
theorem L6: ∀(L n:Nat) (e:Expr),5500000+L<=n->kt 1100000 L e->rz (n+1) e=aa e
 |0,_,_,_,h=>h.elim
 |L+1,n,e,l,h=>by
  obtain⟨a,b,c,d⟩:=h;unfold rz;refine ae.eq (ah (AD n b) (ah (zV O c.sm) ?_));obtain⟨n,rfl⟩: ∃j,n=j+1:=⟨n-1,O⟩
  exact mO (f:=rz (n+1)) (K:=λi=>aa (⟨e.kind,e.num,e.index,e.read,i⟩:Expr)) (λx k=>L6 L n x O (d x k)) a O (ae.some (by cases e;rfl))
theorem YD(a:6600000<=n)(h:nk 1100000 s):xe n s=aa s:=by
 obtain⟨n,rfl⟩: ∃j,n=j+1:=⟨n-1,O⟩
 unfold xe;rw[zV O h.1.sm,L6 5 n s.value O h.2];rfl
theorem YE(R:6600000<=n){nest:List Loop}(h:rZ 1100000 nest):xz n nest=aa nest:=by
 obtain⟨W,B⟩:=h;refine ae.eq ?_;unfold xz;refine ae.loop (λz:List Loop×Int=> ∃i:Nat,z.2=i/\i<=nest.length/\z.1=nest.take i) (λz=>nest.length-z.2.toNat) ?_ n _ ⟨0,rfl,O,bl⟩ Z;rintro b ⟨x,z⟩ ⟨i,d,X,m⟩ C;dsimp only at d m⊢;subst d;refine a1 (λD=>?_) λF=>ae.some ?_
 ·have bV:=bC (O:i<nest.length);obtain⟨⟨j,G⟩,⟨cA,cO⟩⟩:=B _ (bX bV);have H:x.length<=1100000:=by rw[m,c6];omega
  refine ae.loop (λz:List aE×Int=> ∃t:Nat,z.2=t/\t<=nest[i].bq.length/\z.1=nest[i].bq.take t) (λz=>nest[i].bq.length-z.2.toNat) ?_ n _ ⟨0,rfl,O,bl⟩ Z;rintro e ⟨y,z⟩ ⟨t,d,u,k⟩ o;dsimp only at d k⊢;subst d;refine ah (bo bV) (a1 (λw=>?_) λA=>?_)
  ·have c:=bC (O:t<nest[i].bq.length);have L:y.length<=1100000:=by rw[k,c6];omega
   refine ah (bo c) (ah (mE _ (G _ (bX c))) (ah (dM ca) ?_));rw[bc O];refine o _ ⟨t+1,Z,O,?_⟩ Z;dsimp only;rw[eK,c,k];rfl
  have p:t=nest[i].bq.length:=O
  refine Gn (l:=nest[i].aL) (f:=λa:aE=>app [] a.aM) (g:=λa q=>(⟨q,a.const⟩:aE)) (K:=λr=>bQ (app x [(⟨y,r⟩:Loop)]) λs=>b (s,wr ((i:Int)+1))) (λa Q=>⟨_,mE _ (cO a Q),rfl⟩) cA O ?_;refine ah (dM ca) ?_;rw[bc O];refine C _ ⟨i+1,Z,O,?_⟩ Z;dsimp only;rw[eK,bV,m,k,p,dZ];rfl
 have:i=nest.length:=O
 grind
theorem oD(D:6600000<=n)(h:eo 1100000 p):tV n p=aa p:=by
 obtain⟨⟨aP,a2⟩,M,H⟩:=h;refine ae.eq ?_;unfold tV;refine Gn (n:=n) (l:=p.a7) (f:=λr:cz=>app [] r.b9) (g:=λr L=>(⟨r.name,L⟩:cz)) (K:=λQ=>bz (λb ((F,w):(List Part)×Int)=>
    bif aj (w<(p.parts.length:Int)) then(
     bQ (aB p.parts w) λe=>
     bQ (xz n e.nest) λy=>
     bz (λc ((d,k):(List Stmt)×Int)=>
      bif aj (k<(e.body.length:Int)) then(
       bQ (aB e.body k) λA=>
       bQ (xe n A) λB=>
       bQ (app d [B]) λC=>
       c (C,wr (k+1))
      ) else(
       bQ (app F [(⟨y,d⟩:Part)]) λm=>
       b (m,wr (w+1))
      )
     ) n ([],0)
    ) else(
     aa (⟨Q,F⟩:Prog)
    )
   ) n ([],0)) (λa R=>⟨_,mE _ (a2 a R),rfl⟩) aP O ?_
 refine ae.loop (λz:List Part×Int=> ∃i:Nat,z.2=i/\i<=p.parts.length/\z.1=p.parts.take i) (λz=>p.parts.length-z.2.toNat) ?_ n _ ⟨0,rfl,O,bl⟩ Z;rintro o ⟨x,z⟩ ⟨i,G,N,q⟩ W;dsimp only at G q⊢;subst G;refine a1 (λX=>?_) λj=>ae.some ?_
 ·have bV:=bC (O:i<p.parts.length);obtain⟨t,u,v⟩:=H _ (bX bV);have E:x.length<=1100000:=by rw[q,c6];omega
  refine ah (bo bV) (ah (YE D t) ?_);refine mO (f:=xe n) (K:=λd=>bQ (app x [(⟨p.parts[i].nest,d⟩:Part)]) λm=>o (m,wr ((i:Int)+1))) (λs I=>YD D (v s I)) u O ?_;refine ah (dM ca) ?_;rw[bc O];refine W _ ⟨i+1,Z,O,?_⟩ Z;dsimp only;rw[eK,bV,q];rfl
 have:i=p.parts.length:=O
 rw[q,this,dZ]
theorem xP{i:Nat}{x:k}{P:k->Prop}(h: ∀y∈l,P y)(b:P x): ∀y∈l.set i x,P y:=λy c=>by
 rcases w4 c with a|a
 ·exact h y a
 rw[a];exact b
theorem dJ{i:Int}(h:0<=i/\i<l.length)(x:k):cd l i x=aa (l.set i.toNat x):=by unfold cd;rw[bg h]
theorem adq{r:List cz}(b:lk r):0<=gY r/\gY r<=36*r.length:=by have c:=nQ (λx:cz=>hv x.b9) r λy a=>(sk (b y a)).1;have d:=Cz (λx:cz=>hv x.b9) 36 r λy a=>(sk (b y a)).2;unfold gY;omega
end
variable {k R:Type}{l:List cN}{i q n:Nat}{x a b:cN}{p:Prog}{f:k->R}
theorem fQ{l:List k}{x:k}(h:l[i]? =aa x):l.take (i+1)=l.take i++[x]:=by rw[eK,h];rfl
def dv(p:Prog)(x:cN):Nat:=match uR p x with
 |some s=>(eP p.a7 s.write x.db 0).toNat
 |none=>0
def rc(p:Prog)(x:cN):List Int:=match uR p x with
 |some s=>(ek 5 s.value).map (λa=>eP p.a7 a x.db 0)
 |none=>[]
def ui(p:Prog)(m:List Int)(x:cN):Int:=match uR p x with
 |some s=>jW 5 p.a7 m s.value x.db
 |none=>0
theorem Pl{list:List cz}(b:lk list){a:cx}{q:List Int}(h:0<=eP list a q 0):eP list a q 0<gY list:=by rcases Pm b a q 0 (hA 0) with bW|bW<;>omega
theorem q6(b:b6 p=ab)(n:gF p x):(dv p x:Int)<gY p.a7/\(∀c∈rc p x,0<=c/\c<gY p.a7)/\(rc p x).length<=12/\ ∀m,jv p m x=m.set (dv p x) (ui p m x):=by obtain⟨i,k,P,s,d,C,D,F,G,o,q,H,r⟩:=vT b n;obtain⟨K,e,L,w,y⟩:=en b;obtain⟨z,h⟩:=HP r;obtain⟨Q,R,W,A⟩:=ke q;unfold dv rc ui jv;rw[o];dsimp only;refine⟨by have:=Pl e z;omega,λc B=>?_,by rw[dF];exact A,λm=>rfl⟩;obtain⟨a,l,rfl⟩:=eH.1 B;exact⟨h a l,Pl e (h a l)⟩
theorem W3(v:7810000<=n)(l:b6 p=ab)(y:gF p x):DA n p x=aa (rc p x,(dv p x:Int)):=by
 obtain⟨i,k,P,s,d,A,B,C,D,m,F,o,G⟩:=vT l y;obtain⟨q,r,E,H,K⟩:=en l;obtain⟨I,M⟩:=HP G;obtain⟨L,Q,W,N⟩:=ke F;obtain⟨n,rfl⟩: ∃j,n=j+1:=⟨n-1,O⟩
 have c:DO (n+1) p x=aa s:=by
  unfold DO;rw[A,B,bo C];show bQ (aB P.body (k:Int)) _=_;rw[bo D];rfl
 have X:(dv p x:Int)=eP p.a7 s.write x.db 0:=by unfold dv;rw[m];dsimp only;omega
 have f:rc p x=(ek 5 s.value).map (λa=>eP p.a7 a x.db 0):=by unfold rc;rw[m]
 rw[X,f];refine ae.eq ?_;unfold DA;refine ah c (ah (FN (d:=d) 5 n s.value O O Q) ?_);generalize S:ek 5 s.value=R at*;refine ae.loop (λz:List Int×Int=> ∃i:Nat,z.2=i/\i<=R.length/\z.1=(R.take i).map λa=>eP p.a7 a x.db 0) (λz=>R.length-z.2.toNat) ?_ (n+1) _ ⟨0,rfl,O,bl⟩ Z;rintro h ⟨out,z⟩ ⟨i,w,T,b⟩ g;dsimp only at w b⊢;subst w;refine a1 (λt=>?_) λu=>?_
 ·have bV:=bC (O:i<R.length);refine ah (bo bV) (ah (A6 O q r (W _ (bX bV)) o) (ah (dM (by rw[b,dF,c6,rJ];omega)) ?_));rw[bc O];refine g _ ⟨i+1,Z,O,?_⟩ Z;dsimp only;rw[fQ bV,ic,b];rfl
 have e:i=R.length:=O
 refine ah (A6 O q r L o) (ae.some ?_);rw[b,e,dZ]
theorem aaX(F:7810000<=n)(b:b6 p=ab)(h:gF p x): ∃P s,aB p.parts x.part=aa P/\aB P.body x.stmt=aa s/\wQ n p.a7 s x.db=aa (rc p x,(dv p x:Int),ab):=by
 obtain⟨i,k,P,s,d,l,m,o,q,c,r,w,e⟩:=vT b h;obtain⟨y,z,G,A,B⟩:=en b;obtain⟨H,K⟩:=HP e;have C:(dv p x:Int)=eP p.a7 s.write x.db 0:=by unfold dv;rw[c];dsimp only;omega
 have D:rc p x=(ek 5 s.value).map (λa=>eP p.a7 a x.db 0):=by unfold rc;rw[c]
 refine⟨P,s,by rw[l];exact bo o,by rw[m];exact bo q,?_⟩;rw[Ly O y z r w,bg e,C,D]
theorem M1{r:List cz}{m l:List Int}{q:List Int}{d:Int}: ∀{L:Nat} {e:Expr},dD L e d=ab->(∀a∈ek L e,m.getD (eP r a q 0).toNat 0=l.getD (eP r a q 0).toNat 0)->jW L r m e q=jW L r l e q
 |0,e,h,_=>by cases h
 |L+1,e,h,n=>by
  obtain⟨w,x,p⟩:=hn h;simp only[jW];split
  ·rfl
  split
  ·rfl
  split
  ·rename_i et;exact n _ (by simp[ek,et])
  have i: ∀c∈e.aZ,jW L r m c q=jW L r l c q:=λc o=>
   M1 (p c o) λa s=>n a (by simp only[ek,List.mem_append,List.mem_flatMap];exact .inr ⟨c,o,s⟩)
  split
  ·rename_i a b k;rw[k] at i;rw[i a bl,i b bl]
  rfl
theorem adI(b:b6 p=ab)(l:gF p x){m e:List Int}(h: ∀c∈rc p x,m.getD c.toNat 0=e.getD c.toNat 0):ui p m x=ui p e x:=by obtain⟨i,k,P,s,d,r,w,y,z,n,o,A,B⟩:=vT b l;unfold ui;unfold rc at h;rw[n] at h⊢;exact M1 (ke o).2.1 λa q=>h _ (List.mem_map_of_mem q)
theorem NX(l:List k)(i j:Nat)(x d:k):(l.set i x).getD j d=if i=j/\i<l.length then x else l.getD j d:=by
 rw[fc,fc,List.getElem?_set];split
 ·rename_i h;subst h;split
  ·rename_i a;rw[bg ⟨rfl,a⟩];rfl
  rename_i a;rw[be O,Er O]
 rename_i h;rw[be λa=>h a.1]
def pY(l:List Bool):List Int:=((List.range l.length).filter λi=>l.getD i al).map (fun(i:Nat)=>(i:Int))
theorem XP{l:List Bool}(r:l.length<n)(k:l.length<=1100000):wv n l=aa (pY l):=by
 refine ae.eq ?_;unfold wv;refine ae.loop (λz:List Int×Int=> ∃i:Nat,z.2=i/\i<=l.length/\z.1.length<=i/\z.1=((List.range i).filter λi=>l.getD i al).map (fun(i:Nat)=>(i:Int))) (λz=>l.length-z.2.toNat) ?_ n _ ⟨0,rfl,O,bl,bl⟩ Z;rintro c ⟨out,z⟩ ⟨i,a,s,pD,b⟩ m;dsimp only at a b pD⊢;subst a;refine a1 (λo=>?_) λp=>ae.some ?_
 ·have bV:=bC (O:i<l.length);have q:l.getD i al=l[i]:=by rw[fc,bV];rfl
  refine ae.aS (λz=>z.length<=i+1/\z=((List.range (i+1)).filter λi=>l.getD i al).map (fun(i:Nat)=>(i:Int))) (λj d=>ah (bo bV) (ae.cond (λh=>ah (dM (by rw[rJ];omega)) (d _ ?_)) λh=>d _ ?_)) λz a=>?_
  ·refine⟨by rw[dP,rJ];omega,?_⟩;rw[p4,w1,ic,<-b];simp[bV,h]
  ·refine⟨O,?_⟩;rw[p4,w1,ic,<-b];simp[bV,h]
  rw[bc O];exact m _ ⟨i+1,Z,O,a.1,a.2⟩ Z
 have e:i=l.length:=O
 rw[b,e];rfl
theorem Lw{l:List Bool}(b:l.length<n)(a:l.length<=1100000):wv n l=aa (pY l):=XP b a
theorem L3(l:List Bool):(pY l).length<=l.length:=by unfold pY;rw[dF];exact eO (List.length_filter_le _ _) bl
theorem Fm{l:List Bool}{c:Int}:c∈pY l↔0<=c/\l.getD c.toNat al=ab:=by
 unfold pY;simp only[List.mem_map,List.mem_filter,List.mem_range];constructor
 ·rintro⟨i,⟨d,a⟩,rfl⟩;exact⟨O,by rw[c7];exact a⟩
 rintro⟨d,a⟩;refine⟨c.toNat,⟨?_,a⟩,O⟩;refine nX λb=>?_;rw[fc,Er b] at a;cases a
theorem W6(b:7700000<=n)(c:j0 p): ∃L,vl n p=aa (L,b6 p)/\(b6 p=ab->L=bI p.parts):=by
 rw[K3 b c];cases a:jK p with
 |false=>
  refine⟨[],?_,λh=>?_⟩
  ·rw[be bl,show b6 p=al by unfold b6;rw[a];rfl]
  unfold b6 at h;rw[a] at h;cases h
 |true=>
  refine⟨bI p.parts,?_,λ_=>rfl⟩;rw[bg rfl,show b6 p=aj ((bI p.parts).length<=120) by
   unfold b6;rw[a,Bool.true_and];exact decide_eq_decide.2 (by have:=Dt p.parts;omega)]
abbrev iA(p:Prog):Nat:=(gY p.a7).toNat
theorem CL{n:Int}(h:0<=n/\n<=1000000000)(x:k):mk n x=aa (dh n.toNat x):=by unfold mk;rw[bg h]
def pick(l:List cN)(o:List Int):List cN:=o.filterMap λc=>l[c.toNat]?
def Lt(p:Prog)(a b:cN):Prop:=(dv p a:Int)∈rc p b\/(dv p b:Int)∈rc p a\/dv p a=dv p b
def I6(p:Prog)(a b:cN):Prop:= ∀m,sx p.a7 m->jv p (jv p m a) b=jv p (jv p m b) a
theorem PT(a:b6 p=ab)(d:gF p b){w:Nat}(h:(w:Int)∉rc p b)(m:List Int)(v:Int):ui p (m.set w v) b=ui p m b:=by
 refine adI a d λc e=>?_;have i:=(q6 a d).2.1 c e
 grind
theorem swap(c:b6 p=ab)(d:gF p a)(i:gF p b)(h: ¬Lt p a b):I6 p a b:=by intro m _;have n:(dv p a:Int)∉rc p b:=λe=>h (.inl e);have o:(dv p b:Int)∉rc p a:=λe=>h (.inr (.inl e));have q:dv p a≠dv p b:=λe=>h (.inr (.inr e));have k:=(q6 c d).2.2.2;have l:=(q6 c i).2.2.2;rw[k,l,l,k,PT c i n,PT c d o,List.set_comm _ _ q]
def oj(p:Prog)(a b:cN):Int:=(if(dv p a:Int)∈rc p b then 1 else 0)+(if(dv p b:Int)∈rc p a then 2 else 0)+(if dv p a=dv p b then 4 else 0)
theorem afk(p:Prog)(a b:cN):0<=oj p a b/\oj p a b<=7:=by
 unfold oj
 grind
def mP(p:Prog)(l:List cN)(i k:Nat):Int:=match l[i]?,l[k]? with
 |some a,aa b=>oj p a b
 |_,_=>0
theorem Hs{k:Nat}(c:l[i]? =aa a)(d:l[k]? =aa b):mP p l i k=oj p a b:=by unfold mP;rw[c,d]
theorem Uj(p:Prog)(l:List cN)(i k:Nat):0<=mP p l i k/\mP p l i k<=7:=by
 unfold mP;split
 ·exact afk _ _ _
 omega
def lq(p:Prog)(l:List cN)(i j:Nat):List fY:=((List.range j).filter λk=>decide (i<k)&&aj (mP p l i k≠0)).map (fun(k:Nat)=>(⟨(i:Int),(k:Int),mP p l i k⟩:fY))
def gv(p:Prog)(l:List cN)(n:Nat):List fY:=(List.range n).flatMap λi=>lq p l i l.length
theorem EY(p:Prog)(l:List cN){j:Nat}(h:i<j):lq p l i (j+1)=lq p l i j++(if mP p l i j=0 then [] else [⟨(i:Int),(j:Int),mP p l i j⟩]):=by
 unfold lq;rw[p4,w1,ic]
 grind
theorem FQ(p:Prog)(l:List cN)(i:Nat): ∀j,j<=i+1->lq p l i j=[]
 |0,_=>rfl
 |j+1,h=>by have a:=FQ p l i j O;unfold lq at a⊢;rw[p4,w1,ic,a];simp[show¬i<j by omega]
theorem FP(p:Prog)(l:List cN)(n:Nat):gv p l (n+1)=gv p l n++lq p l n l.length:=by unfold gv;rw[p4,p7];simp
theorem FR(p:Prog)(l:List cN)(i j:Nat):(lq p l i j).length<=j:=by
 unfold lq
 grind
theorem Af(p:Prog)(l:List cN): ∀n,(gv p l n).length<=n*l.length
 |0=>by simp[gv]
 |n+1=>by
  rw[FP,dP,dN,Nat.one_mul]
  have:=Af p l n
  have:=FR p l n l.length;omega
theorem N7{d:fY}:d∈gv p l l.length↔ ∃i k:Nat,i<k/\k<l.length/\mP p l i k≠0/\d=⟨(i:Int),(k:Int),mP p l i k⟩:=by
 unfold gv lq;simp only[List.mem_flatMap,List.mem_range,List.mem_map,List.mem_filter,cB,decide_eq_true_eq]
 grind
def places(o:List Int):Nat->List Int
 |0=>dh o.length 0
 |k+1=>(places o k).set (o.getD k 0).toNat (k:Int)
def o7(p:Prog)(l:List cN)(i:Nat):Int:=match l[i]? with
 |some a=>(dv p a:Int)
 |none=> -1
def DR(p:Prog)(l:List cN)(i:Nat):List Int:=match l[i]? with
 |some a=>rc p a
 |none=>[]
theorem xq(h:l[i]? =aa a):o7 p l i=(dv p a:Int):=by unfold o7;rw[h]
theorem Br(h:l[i]? =aa a):DR p l i=rc p a:=by unfold DR;rw[h]
def ja(p:Prog)(l:List cN)(c:Int):Nat->Int
 |0=> -1
 |i+1=>if o7 p l i=c then(i:Int) else ja p l c i
theorem PL(p:Prog)(l:List cN)(c:Int): ∀i,-1<=ja p l c i/\ja p l c i<(i:Int)
 |0=>by simp[ja]
 |i+1=>by have:=PL p l c i;unfold ja;split<;>omega
def mm(p:Prog)(l:List cN)(i:Nat):Bool:= !(l.drop (i+1)).any λx=>decide ((dv p x:Int)=o7 p l i)
def kD(f:List Bool)(a:List Int):List Bool:=a.foldl (λf s=>if 0<=s then f.set s.toNat ab else f) f
theorem BP: ∀(a:List Int) (f:List Bool),(kD f a).length=f.length
 | [],f=>rfl
 |s::a,f=>by
  show(kD (if 0<=s then f.set s.toNat ab else f) a).length=_;rw[BP];split
  ·rw[fX]
  rfl
theorem A2(f:List Bool)(a:List Int)(s:Int):kD f (a++[s])=if 0<=s then(kD f a).set s.toNat ab else kD f a:=by unfold kD;rw[List.foldl_append];rfl
theorem N8{i:Nat}: ∀{a:List Int} {f:List Bool},i<f.length->((kD f a).getD i al=ab↔f.getD i al=ab\/(i:Int)∈a)
 | [],f,_=>by simp[kD]
 |s::a,f,h=>by
  show(kD (if 0<=s then f.set s.toNat ab else f) a).getD i al=ab↔_;rw[N8 (by split;rw[fX];exact h;exact h),eg];by_cases b:0<=s
  ·rw[bg b,NX];by_cases e:s.toNat=i
   ·rw[bg ⟨e,O⟩];simp[show(i:Int)=s by omega]
   rw[be λc=>e c.1]
   have: ¬(i:Int)=s:=O
   simp[this]
  rw[be b]
  have: ¬(i:Int)=s:=O
  simp[this]
def ig(p:Prog)(l:List cN)(i:Nat):List Int:=(DR p l i).map λc=>ja p l c i
def kY(p:Prog)(l:List cN):Nat->List Bool
 |0=>dh l.length al
 |j+1=>if(kY p l j).getD (l.length-1-j) al=ab\/mm p l (l.length-1-j)=ab then kD ((kY p l j).set (l.length-1-j) ab) (ig p l (l.length-1-j)) else kY p l j
theorem tN(p:Prog)(l:List cN): ∀j,(kY p l j).length=l.length
 |0=>by simp[kY]
 |j+1=>by
  unfold kY;split
  ·rw[BP,fX,tN p l j]
  exact tN p l j
abbrev kZ(p:Prog)(l:List cN):List Bool:=kY p l l.length
def vc(a b:aE):Bool:=aj (a.aM=b.aM)&&aj (a.const=b.const)
def qb:List aE->List aE->Bool
 | [],[]=>ab
 |a::as,b::c=>vc a b&&qb as c
 |_,_=>al
theorem Qd: ∀d∈gv p l l.length,0<=d.1/\d.1<d.2/\d.2<(l.length:Int):=by
 intro d a;obtain⟨i,k,b,c,e,rfl⟩:=N7.1 a
 grind
theorem E7{l:List Int}(m:l.length<n)(o:l.length<=1100000)(v:Int):vV n l v=aa (aj (v∈l)):=by
 refine ae.eq ?_;unfold vV;refine hE (P:=λi=>decide ((0:Int)<=i)=aj (v∈l)) ?_ λx b=>ae.some b;unfold Fi;refine ae.loop (λz:Int=> ∃i:Nat,z=i/\i<=l.length/\v∉l.take i) (λz=>l.length-z.toNat) ?_ n 0 ⟨0,rfl,O,bl⟩ O;rintro a z ⟨i,rfl,p,c⟩ d;refine a1 (λh=>?_) λk=>ae.some ?_
 ·have bV:=bC (O:i<l.length);refine ah (bo bV) (a1 (λe=>ae.some ?_) λe=>?_)
  ·rw[bS O,bS];rw[e];exact bX bV
  rw[bc O];refine d _ ⟨i+1,O,O,?_⟩ O;rw[fQ bV,eX,p8]
  grind
 have e:i=l.length:=O
 grind
theorem GL{l:List Int}(k:l.length<n)(m:l.length<=1100000)(v:Int):uy n l v=aa (aj (v∈l)):=by
 refine ae.eq ?_;unfold uy;refine ae.loop (λz:Int=> ∃i:Nat,z=i/\i<=l.length/\v∉l.take i) (λz=>l.length-z.toNat) ?_ n 0 ⟨0,rfl,O,bl⟩ O;rintro a z ⟨i,rfl,o,b⟩ c;refine a1 (λd=>?_) λh=>ae.some ?_
 ·have bV:=bC (O:i<l.length);refine ah (bo bV) (a1 (λe=>ae.some ?_) λe=>?_)
  ·rw[bS];rw[<-e];exact bX bV
  rw[bc O];refine c _ ⟨i+1,O,O,?_⟩ O;rw[fQ bV,eX,p8]
  grind
 have e:i=l.length:=O
 grind
def gx(p:Prog):og:=⟨p,bI p.parts,(bI p.parts).map (rc p),(bI p.parts).map λx=>(dv p x:Int)⟩
theorem lh{l:List k}{x:k}(h:l[i]? =aa x):(l.map f)[i]? =aa (f x):=by rw[eG,h];rfl
theorem BQ{l:List k}{x:k}(h:l[i]? =aa x):(l.take (i+1)).map f=(l.take i).map f++[f x]:=by rw[fQ h,ic];rfl
theorem wH(A:7810000<=n)(m:j0 p):pX n p=aa (if b6 p=ab then(aa (gx p),ab) else(none,al)):=by
 obtain⟨L,o,q⟩:=W6 (n:=n) O m;refine ae.eq ?_;unfold pX;refine ah o ?_;dsimp only;cases h:b6 p with
 |false=>exact ae.some rfl
 |true=>
  rw[q h];have r:=(en h).2.2.2.2;refine b3 (ae.loop (λz:List (List Int)×List Int×Int=> ∃i:Nat,z.2.2=i/\i<=(bI p.parts).length/\z.1=((bI p.parts).take i).map (rc p)/\z.2.1=((bI p.parts).take i).map λx=>(dv p x:Int)) (λz=>(bI p.parts).length-z.2.2.toNat) ?_ n _ ⟨0,rfl,O,rfl,rfl⟩ (by first|omega|(dsimp only;omega)));rintro k ⟨a,b,z⟩ ⟨i,l,B,c,d⟩ s;dsimp only at l c d⊢;subst l;refine a1 (λw=>?_) λy=>ae.some ?_
  ·have bV:=bC (O:i<(bI p.parts).length);refine ah (bo bV) (ah (W3 O h (iQ (bX bV))) (ah (dM (by rw[c,dF,c6,rJ];omega)) (ah (dM (by rw[d,dF,c6,rJ];omega)) ?_)));rw[bc O];exact s _ ⟨i+1,Z,O,by dsimp only;rw[BQ bV,c],by dsimp only;rw[BQ bV,d]⟩ Z
  have e:i=(bI p.parts).length:=O
  rw[c,d,e,dZ];rfl
def mb(p:Prog):List k2:=(bI p.parts).map λx=>(⟨rc p x,(dv p x:Int)⟩:k2)
theorem GC(k:7810000<=n)(b:b6 p=ab):xb n p=aa (mb p):=by
 have l:=(en b).2.2.2.2;refine ae.eq ?_;unfold xb mb;refine ah (vU O b) (ae.loop (λz:List k2×Int=> ∃i:Nat,z.2=i/\i<=(bI p.parts).length/\z.1=((bI p.parts).take i).map λx=>(⟨rc p x,(dv p x:Int)⟩:k2)) (λz=>(bI p.parts).length-z.2.toNat) ?_ n _ ⟨0,rfl,O,rfl⟩ Z);rintro c ⟨a,z⟩ ⟨i,h,A,d⟩ m;dsimp only at h d⊢;subst h;refine a1 (λo=>?_) λq=>ae.some ?_
 ·have bV:=bC (O:i<(bI p.parts).length);obtain⟨P,s,r,w,y⟩:=aaX k b (iQ (bX bV));refine ah (bo bV) (ah r (ah w (ah y (ah (dM (by rw[d,dF,c6,rJ];omega)) ?_))));rw[bc O];exact m _ ⟨i+1,Z,O,by dsimp only;rw[BQ bV,d]⟩ Z
 have e:i=(bI p.parts).length:=O
 grind
theorem r9(b:b6 p=ab)(c: ∀x∈l,gF p x)(h:l[i]? =aa a):(rc p a).length<=12:=(q6 b (c _ (bX h))).2.2.1
theorem Px{Q:R->Prop}{A B:Option Bool}(q:A=aa (aj ((dv p a:Int)∈rc p b)))(r:B=aa (aj ((dv p b:Int)∈rc p a))){c:Int->Option R}(h:ae (c (oj p a b)) Q):
  ae (aS (fun(m:Int)=>aS (fun(i:Int)=>aS c λk=>bif aj ((dv p a:Int)=(dv p b:Int)) then(k (wr (i+4))) else(k i))
   λn=>bQ B λs=>bif s then(n (wr (m+2))) else(n m))
   λo=>bQ A λw=>bif w then(o (wr (0+1))) else(o 0)) Q:=by
 refine ae.aS (λz=>z=if(dv p a:Int)∈rc p b then 1 else 0) (λj d=>ah q (a1 (λe=>d _ (by rw[bg e];rfl)) λe=>d _ (by rw[be e]))) λz l=>?_;subst l;refine ae.aS (λz=>z=(if(dv p a:Int)∈rc p b then 1 else 0)+if(dv p b:Int)∈rc p a then 2 else 0) (λj d=>ah r (a1 (λe=>d _ ?_) λe=>d _ ?_)) λz l=>?_
 ·rw[bg e];split<;>rfl
 ·rw[be e,Int.add_zero]
 subst l;refine ae.aS (λz=>z=oj p a b) (λj d=>a1 (λe=>d _ ?_) λe=>d _ ?_) λz l=>by subst l;exact h
 ·unfold oj;rw[bg (O:dv p a=dv p b)];split<;>split<;>rfl
 unfold oj;rw[be (show¬dv p a=dv p b by omega),Int.add_zero]
theorem W7(r:7810000<=n)(h:b6 p=ab){k:Nat}(c:(bI p.parts)[i]? =aa a)(d:(bI p.parts)[k]? =aa b):DD n (gx p) (i:Int) (k:Int)=aa (mP p (bI p.parts) i k):=by rw[Hs c d];have s:=r9 h (λx e=>iQ e) c;have w:=r9 h (λx e=>iQ e) d;have l:aB (gx p).reads (i:Int)=aa (rc p a):=bo (lh c);have m:aB (gx p).reads (k:Int)=aa (rc p b):=bo (lh d);have o:aB (gx p).iX (i:Int)=aa (dv p a:Int):=bo (lh c);have q:aB (gx p).iX (k:Int)=aa (dv p b:Int):=bo (lh d);refine ae.eq ?_;unfold DD;rw[l,m,o,q];exact Px (E7 O O _) (E7 O O _) (ae.some rfl)
theorem YV(c:7810000<=n)(d:(rc p a).length<=12)(e:(rc p b).length<=12):AN n ⟨rc p a,(dv p a:Int)⟩ ⟨rc p b,(dv p b:Int)⟩=aa (oj p a b):=by refine ae.eq ?_;unfold AN;exact Px (GL O O _) (GL O O _) (ae.some rfl)
theorem Gj(K:7810000<=n)(D:b6 p=ab):vZ n (gx p)=aa (gv p (bI p.parts) (bI p.parts).length):=by
 have s:=(en D).2.2.2.2;refine ae.eq ?_;unfold vZ;rw[show(gx p).list=bI p.parts from rfl];generalize m:bI p.parts=l at*;have L: ∀x∈l,gF p x:=λx Q=>iQ (by rw[m];exact Q);refine ae.loop (λz:List fY×Int=> ∃i:Nat,z.2=i/\i<=l.length/\z.1=gv p l i) (λz=>l.length-z.2.toNat) ?_ n _ ⟨0,rfl,O,rfl⟩ Z;rintro w ⟨a,z⟩ ⟨i,o,g,A⟩ R;dsimp only at o A⊢;subst o;refine a1 (λW=>?_) λX=>ae.some ?_
 ·have bV:=bC (O:i<l.length);rw[bc O];refine ae.loop (λz:List fY×Int=> ∃j:Nat,z.2=j/\i<j/\j<=l.length/\z.1=gv p l i++lq p l i j) (λz=>l.length-z.2.toNat) ?_ n _ ⟨i+1,Z,O,O,by dsimp only;rw[A,FQ p l i _ (df _),jr]⟩ Z;rintro q ⟨b,y⟩ ⟨j,F,c,t,r⟩ B;dsimp only at F r⊢;subst F;refine a1 (λG=>?_) λH=>?_
  ·have C:=bC (O:j<l.length);have d:=W7 K D (i:=i) (k:=j) (by rw[m];exact bV) (by rw[m];exact C);rw[m] at d;have f:=(Uj p l i j).1;refine ae.aS (λz=>z=gv p l i++lq p l i (j+1)) (λu h=>ah d (a1 (λe=>ah (dM ?_) (h _ ?_)) λe=>h _ ?_)) λz o=>?_
   ·have v:=Af p l i;have E:=FR p l i j;have I:i*l.length<=120*120:=nY O s
    grind
   ·rw[r,EY p l c,be O,gL]
   ·rw[r,EY p l c,bg O,jr]
   subst o;rw[bc O];exact B _ ⟨j+1,Z,O,O,rfl⟩ Z
  have e:j=l.length:=O
  try rw[bc O]
  exact R _ ⟨i+1,Z,O,by dsimp only;rw[r,e,FP]⟩ Z
 have e:i=l.length:=O
 rw[A,e]
theorem GD(G:7810000<=n)(q:b6 p=ab):xc n p=aa (gv p (bI p.parts) (bI p.parts).length):=by
 have A:=(en q).2.2.2.2;refine ae.eq ?_;unfold xc;refine ah (GC G q) ?_;have B:(mb p).length=(bI p.parts).length:=by unfold mb;rw[dF]
 have d: ∀(i:Nat) x,(bI p.parts)[i]? =aa x->aB (mb p) (i:Int)=aa ⟨rc p x,(dv p x:Int)⟩:=λi x h=>bo (lh h);rw[B];generalize mb p=u at*;generalize Q:bI p.parts=l at*;have k: ∀x∈l,gF p x:=λx R=>iQ (by rw[Q];exact R);refine ae.loop (λz:List fY×Int=> ∃i:Nat,z.2=i/\i<=l.length/\z.1=gv p l i) (λz=>l.length-z.2.toNat) ?_ n _ ⟨0,rfl,O,rfl⟩ Z;rintro C ⟨a,z⟩ ⟨i,r,t,D⟩ W;dsimp only at r D⊢;subst r;refine a1 (λX=>?_) λf=>ae.some ?_
 ·have bV:=bC (O:i<l.length);rw[bc O];refine ae.loop (λz:List fY×Int=> ∃j:Nat,z.2=j/\i<j/\j<=l.length/\z.1=gv p l i++lq p l i j) (λz=>l.length-z.2.toNat) ?_ n _ ⟨i+1,Z,O,O,by dsimp only;rw[D,FQ p l i _ (df _),jr]⟩ Z;rintro s ⟨b,y⟩ ⟨j,H,m,v,w⟩ F;dsimp only at H w⊢;subst H;refine a1 (λK=>?_) λL=>?_
  ·have c:=bC (O:j<l.length);have g:=YV G (r9 q k bV) (r9 q k c);refine ae.aS (λz=>z=gv p l i++lq p l i (j+1)) (λE o=>ah (d _ _ bV) (ah (d _ _ c) (ah g (dL (λe=>ah (dM ?_) (o _ ?_)) λe=>o _ ?_)))) λz r=>?_
   ·have I:=Af p l i;have M:=FR p l i j;have N:i*l.length<=120*120:=nY O A
    grind
   ·rw[w,EY p l m,Hs bV c,be e,gL]
   ·rw[w,EY p l m,Hs bV c,bg e,jr]
   subst r;rw[bc O];exact F _ ⟨j+1,Z,O,O,rfl⟩ Z
  have e:j=l.length:=O
  try rw[bc O]
  exact W _ ⟨i+1,Z,O,by dsimp only;rw[w,e,FP]⟩ Z
 have e:i=l.length:=O
 rw[D,e]
theorem AL(p:Prog)(l:List cN)(c:Int)(i:Nat):ja p l c (i+1)=if o7 p l i=c then(i:Int) else ja p l c i:=rfl
theorem W4(v:7810000<=n)(F:b6 p=ab)(K:i<(bI p.parts).length):m9 n (gx p) (i:Int)=aa (ig p (bI p.parts) i):=by
 have L:=(en F).2.2.2.2;have o: ∀x∈bI p.parts,gF p x:=λx Q=>iQ Q;have r:=bC K;have E:=r9 F o r;have R:aB (gx p).reads (i:Int)=aa (rc p (bI p.parts)[i]):=bo (lh r);refine ae.eq ?_;unfold m9 ig;rw[Br r,R];generalize rc p (bI p.parts)[i]=b at*;have w:wr ((i:Int)-1)=(i:Int)-1:=bc O;rw[w];refine ah rfl (ae.loop (λz:List Int×Int=> ∃k:Nat,z.2=k/\k<=b.length/\z.1=(b.take k).map λc=>ja p (bI p.parts) c i) (λz=>b.length-z.2.toNat) ?_ n _ ⟨0,rfl,O,rfl⟩ Z);rintro d ⟨a,z⟩ ⟨k,l,I,A⟩ W;dsimp only at l A⊢;subst l;refine a1 (λX=>?_) λf=>ae.some ?_
 ·have bV:=bC (O:k<b.length);refine ah (bo bV) ?_;have fin: ∀y:Int,y=ja p (bI p.parts) b[k] i->ae (bQ (app a [y]) λB=>d (B,wr ((k:Int)+1))) (λx=>x=b.map λc=>ja p (bI p.parts) c i):=by
   intro y g;refine ah (dM (by rw[A,dF,c6,rJ];omega)) ?_;rw[bc O];exact W _ ⟨k+1,Z,O,by dsimp only;rw[BQ bV,A,g]⟩ Z
  refine ae.loop (λz:Int=> ∃s:Nat,z=(s:Int)-1/\s<=i/\ja p (bI p.parts) b[k] i=ja p (bI p.parts) b[k] s) (λz=>(z+1).toNat) ?_ n _ ⟨i,rfl,df _,rfl⟩ O;rintro m z ⟨s,rfl,M,h⟩ C;refine ae.aS (λz=>z=ab/\(∃q,s=q+1/\o7 p (bI p.parts) q≠b[k])\/z=al/\(s:Int)-1=ja p (bI p.parts) b[k] i) (λj G=>a1 (λt=>?_) λt=>G _ (.inr ⟨rfl,?_⟩)) λz l=>?_
  ·obtain⟨q,rfl⟩: ∃q,s=q+1:=⟨s-1,O⟩
   have H:=bC (O:q<(bI p.parts).length);have u:aB (gx p).iX (((q+1:Nat):Int)-1)=aa (o7 p (bI p.parts) q):=by
    rw[show((q+1:Nat):Int)-1=(q:Int) by omega,xq H];exact bo (lh H)
   refine ah u ?_;by_cases e:o7 p (bI p.parts) q=b[k]
   ·rw[bS e];refine G _ (.inr ⟨rfl,?_⟩);rw[h,AL,bg e];omega
   rw[bN e]
   grind
  ·have:s=0:=O
   subst this;rw[h];rfl
  rcases l with ⟨rfl,q,rfl,D⟩|⟨rfl,l⟩
  ·refine b7 ?_;rw[bc O];exact C _ ⟨q,O,O,by rw[h,AL,be D]⟩ O
  exact b3 (fin _ l)
 have e:k=b.length:=O
 grind
theorem X2(A:7810000<=n)(m:b6 p=ab)(B:i<=(bI p.parts).length)(c:Int):Ai n (mb p) (i:Int) c=aa (ja p (bI p.parts) c i):=by
 have o:=(en m).2.2.2.2;have d: ∀(i:Nat) x,(bI p.parts)[i]? =aa x->aB (mb p) (i:Int)=aa ⟨rc p x,(dv p x:Int)⟩:=λi x h=>bo (lh h);refine ae.eq ?_;unfold Ai;rw[bc O];refine ae.loop (λz:Int=> ∃s:Nat,z=(s:Int)-1/\s<=i/\ja p (bI p.parts) c i=ja p (bI p.parts) c s) (λz=>(z+1).toNat) ?_ n _ ⟨i,rfl,df _,rfl⟩ O;rintro b z ⟨s,rfl,C,a⟩ k;refine a1 (λr=>?_) λr=>ae.some ?_
 ·obtain⟨q,rfl⟩: ∃q,s=q+1:=⟨s-1,O⟩
  have l:=bC (O:q<(bI p.parts).length);have w:=d _ _ l;have y:((q+1:Nat):Int)-1=(q:Int):=O
  rw[y];refine ah w (a1 (λe=>ae.some ?_) λe=>?_)
  ·dsimp only at e;rw[a,AL,xq l,bg e]
  dsimp only at e;rw[bc O];exact k _ ⟨q,O,O,by rw[a,AL,xq l,be e]⟩ O
 have:s=0:=O
 subst this;rw[a];rfl
theorem ad'{f:cN->Int}{w:Int}:aj (w∈l.map f)=l.any (λx=>decide (f x=w)):=by grind
theorem MG(p:Prog)(l:List cN)(j q:Nat)(h:l.length-1-j=q):kY p l (j+1)=if(kY p l j).getD q al=ab\/mm p l q=ab then kD ((kY p l j).set q ab) (ig p l q) else kY p l j:=by subst h;rfl
theorem Of{k:Nat}{y:Int}(h:(ig p l q)[k]? =aa y): -1<=y/\y<(q:Int):=by
 unfold ig at h;rw[eG] at h;cases a:(DR p l q)[k]? with
 |none=>rw[a] at h;cases h
 |some c=>rw[a] at h;cases h;exact PL p l c q
theorem abf(u:7810000<=n)(G:b6 p=ab):DW n (gx p)=aa (kZ p (bI p.parts)):=by
 have v:=(en G).2.2.2.2;have H: ∀x∈bI p.parts,gF p x:=λx E=>iQ E;have K:=fun(i:Nat) h=>W4 u G (i:=i) h;have a:(gx p).iX.length=(bI p.parts).length:=by unfold gx;dsimp only;rw[dF]
 have s:(gx p).iX=(bI p.parts).map (λx=>(dv p x:Int)):=rfl;refine ae.eq ?_;unfold DW;refine ah (CL (n:=((gx p).list.length:Int)) (x:=al) (by show _/\((bI p.parts).length:Int)<=_;omega)) ?_;rw[show((gx p).list.length:Int)=((bI p.parts).length:Int) from rfl,c7,a,bc O];generalize Y:bI p.parts=l at*;refine ae.loop (λz:List Bool×Int=> ∃j:Nat,z.2=(l.length:Int)-1-j/\j<=l.length/\z.1=kY p l j) (λz=>(z.2+1).toNat) ?_ n _ ⟨0,Z,O,rfl⟩ Z;rintro L ⟨f,z⟩ ⟨j,m,hj,C⟩ I;dsimp only at m C⊢;refine a1 (λM=>?_) λM=>ae.some ?_
 ·obtain⟨q,N⟩: ∃q,l.length-1-j=q:=⟨_,rfl⟩
  have Q:z=(q:Int):=O
  subst Q;have w:q<l.length:=O
  have R:f.length=l.length:=by rw[C,tN]
  have bV:=bC w;have r:=bC (O:q<f.length);have W:f.getD q al=f[q]:=by rw[fc,r];rfl
  have b:=MG p l j q N;rw[<-C] at b;refine ae.aS (λz=>z=kY p l (j+1)) (λDu A=>?_) λz m=>?_
  ·refine ae.aS (λz=>z= !decide (f.getD q al=ab\/mm p l q=ab)) (λSj c=>ah (bo r) ?_) λz m=>?_
   ·rw[W] at c;cases bA:f[q] with
    |true=>rw[bA] at c;exact b3 (c _ bl)
    |false=>
     rw[bA] at c;have X:aB (gx p).iX (q:Int)=aa (dv p l[q]:Int):=by rw[s];exact bo (lh bV)
     rw[bc O];refine b7 (ah (iR O O (by rw[a];omega)) (ah X (ah (E7 ?_ ?_ _) (c _ ?_))))
     ·rw[fN,c6,a];omega
     ·rw[fN,c6,a];omega
     rw[show(((l.length:Nat):Int)).toNat=l.length by omega,<-a,dZ,show(((q:Int)+1)).toNat=q+1 by omega,s,<-List.map_drop,ad'];unfold mm;rw[xq bV];cases (List.drop (q+1) l).any (λx=>decide ((dv p x:Int)=(dv p l[q]:Int)))<;>simp
   subst m;by_cases D:f.getD q al=ab\/mm p l q=ab
   ·rw[bS D];rw[bg D] at b;refine b3 (ah (bo r) (ah (dJ ⟨O,O⟩ ab) (ah (K q w) ?_)));rw[c7];have P:(ig p l q).length<=12:=by unfold ig;rw[dF,Br bV];exact r9 G H bV
    refine ae.loop (λz:List Bool×Int=> ∃k:Nat,z.2=k/\k<=(ig p l q).length/\z.1=kD (f.set q ab) ((ig p l q).take k)) (λz=>(ig p l q).length-z.2.toNat) ?_ n _ ⟨0,rfl,O,rfl⟩ Z;rintro F ⟨g,z⟩ ⟨k,m,hk,d⟩ t;dsimp only at m d⊢;subst m;refine a1 (λS=>?_) λT=>A _ ?_
    ·have o:=bC (O:k<(ig p l q).length);have bA:=Of o;have U:g.length=l.length:=by rw[d,BP,fX,R]
     refine ae.aS (λz=>z=kD (f.set q ab) ((ig p l q).take (k+1))) (λakV B=>ah (bo o) (a1 (λe=>?_) λe=>B _ ?_)) λz m=>?_
     ·obtain⟨y,V,_⟩:=pj (l:=g) e O;refine ah V (ah (dJ ⟨e,O⟩ ab) (B _ ?_));rw[fQ o,A2,bg e,d]
     ·rw[fQ o,A2,be e,d]
     subst m;rw[bc O];exact t _ ⟨k+1,Z,O,rfl⟩ Z
    have e:k=(ig p l q).length:=O
    rw[d,e,dZ,b]
   rw[bN D];rw[be D] at b;exact b7 (A _ b.symm)
  subst m;rw[bc O];exact I _ ⟨j+1,Z,O,rfl⟩ Z
 have e:j=l.length:=O
 rw[C,e]
def sd(p:Prog)(l:List cN)(q k:Nat):Bool:= !((l.take k).drop (q+1)).any λx=>decide ((dv p x:Int)=o7 p l q)
theorem XT{k:Nat}(h:q<k)(a:l[k]? =aa b):sd p l q (k+1)=(sd p l q k&& !decide ((dv p b:Int)=o7 p l q)):=by have c:=(d0.1 a).1;unfold sd;rw[fQ a,Kx (by rw[c6];omega),ua];simp
theorem T8(cR:7810000<=n)(hp:j0 p):DH n p=aa (if b6 p=ab then pY (kZ p (bI p.parts)) else []):=by
 refine ae.eq ?_;unfold DH;refine ah (jc O hp) ?_;cases M:b6 p with
 |false=>exact ae.some rfl
 |true=>
  have qZ:=(en M).2.2.2.2;have S: ∀x∈bI p.parts,gF p x:=λx hx=>iQ hx;have T:(mb p).length=(bI p.parts).length:=by unfold mb;rw[dF]
  have r: ∀(i:Nat) x,(bI p.parts)[i]? =aa x->aB (mb p) (i:Int)=aa ⟨rc p x,(dv p x:Int)⟩:=λi x h=>bo (lh h);have U:=fun(i:Nat) h=>X2 cR M (i:=i) h;refine b3 (ah (GC cR M) ?_);rw[T,bg rfl];generalize mb p=u at*;generalize vu:bI p.parts=l at*;refine ah (CL (n:=(l.length:Int)) (x:=al) O) ?_;rw[c7,bc O];refine ae.loop (λz:List Bool×Int=> ∃j:Nat,z.2=(l.length:Int)-1-j/\j<=l.length/\z.1=kY p l j) (λz=>(z.2+1).toNat) ?_ n _ ⟨0,Z,O,rfl⟩ Z;rintro C ⟨f,z⟩ ⟨j,a,hj,N⟩ b5;dsimp only at a N⊢;refine a1 (λh0=>?_) λh0=>?_
  ·obtain⟨q,dp⟩: ∃q,l.length-1-j=q:=⟨_,rfl⟩
   have V:z=(q:Int):=O
   subst V;have Y:q<l.length:=O
   have ag6:f.length=l.length:=by rw[N,tN]
   have bV:=bC Y;have D:=bC (O:q<f.length);have H:f.getD q al=f[q]:=by rw[fc,D];rfl
   have s:=MG p l j q dp;rw[<-N] at s;have K: ∀y:Int,y=(q:Int)-1->ae (C (kY p l (j+1),y)) _:=λy hy=>b5 _ ⟨j+1,Z,O,rfl⟩ Z;have gO:wr ((q:Int)+1)=((q+1:Nat):Int):=by rw[bc O];omega
   have alb:wr ((q:Int)-1)=(q:Int)-1:=bc O;rw[gO,alb];refine ae.loop (λz:Bool×Int=> ∃k:Nat,z.2=k/\q<k/\k<=l.length/\z.1=sd p l q k) (λz=>l.length-z.2.toNat) ?_ n _ ⟨q+1,rfl,O,O,?_⟩ Z
   ·rintro P ⟨b,z⟩ ⟨k,a,ahJ,hk,bA⟩ vE;dsimp only at a bA⊢;subst a;refine a1 (λhlt=>?_) λkL=>?_
    ·have m:=bC (O:k<l.length);have L:=XT (p:=p) ahJ m;refine ae.aS (λz=>z=sd p l q (k+1)) (λSi A=>?_) λz a=>?_
     ·cases Q:b with
      |false=>exact b3 (A _ (by rw[L,<-bA,Q];rfl))
      |true=>
       refine b7 (ah (r _ _ m) (ah (r _ _ bV) (A _ ?_)));rw[L,<-bA,Q,xq bV];rfl
     subst a;rw[bc O];exact vE _ ⟨k+1,Z,O,O,rfl⟩ Z
    have e:k=l.length:=O
    have Jw:b=mm p l q:=by rw[bA,e];unfold sd mm;rw[dZ]
    refine ae.aS (λz=>z=f.set q (f.getD q al||mm p l q)) (λait c=>ah (bo D) ?_) λz a=>?_
    ·rw[H] at c;cases R:f[q] with
     |true=>
      rw[R] at c;refine b7 (ah (dJ ⟨O,O⟩ ab) (c _ ?_));rw[c7];rfl
     |false=>
      rw[R] at c;refine b3 (ah (dJ ⟨O,O⟩ b) (c _ ?_));rw[c7,Jw];rfl
    subst a;have hrl:=r9 M S bV;by_cases G:f.getD q al=ab\/mm p l q=ab
    ·rw[bg G] at s;have F:(f.getD q al||mm p l q)=ab:=by rcases G with h|h<;>rw[h]<;>simp
     rw[F];have ahV:(ig p l q).length=(rc p l[q]).length:=by unfold ig;rw[dF,Br bV]
     refine ae.loop (λz:List Bool×Int=> ∃k:Nat,z.2=k/\k<=(rc p l[q]).length/\z.1=kD (f.set q ab) ((ig p l q).take k)) (λz=>(rc p l[q]).length-z.2.toNat) ?_ n _ ⟨0,rfl,O,rfl⟩ Z;rintro w ⟨g,z⟩ ⟨k,a,hk,o⟩ W;dsimp only at a o⊢;subst a;have aj4:g.length=l.length:=by rw[o,BP,fX,ag6]
     have X:=bC (O:q<g.length);have hgt:g[q]=ab:=by
      have t:g.getD q al=ab:=by
       rw[o,N8 (by rw[fX];omega),NX,bg ⟨rfl,O⟩];exact .inl rfl
      rwa [fc,X] at t
     refine ae.aS (λz=>z=aj (k<(rc p l[q]).length)) (λJ3 d=>ah (r _ _ bV) (a1 (λe=>ah (bo X) (d _ ?_)) λe=>d _ ?_)) λz a=>?_
     ·dsimp only at e;rw[hgt,bS O]
     ·dsimp only at e;rw[bN O]
     subst a;refine a1 (λe=>?_) λe=>?_
     ·have v:=bC e;have m:(ig p l q)[k]? =aa (ja p l (rc p l[q])[k] q):=by unfold ig;rw[Br bV];exact lh v
      have bA:=Of m;refine ae.aS (λz=>z=kD (f.set q ab) ((ig p l q).take (k+1))) (λakV E=>ah (r _ _ bV) (ah (bo v) (ah (U q O _) (a1 (λe=>?_) λe=>E _ ?_)))) λz a=>?_
      ·obtain⟨y,hy,_⟩:=pj (l:=g) e O;refine ah hy (ah (dJ ⟨e,O⟩ ab) (E _ ?_));rw[fQ m,A2,bg e,o]
      ·rw[fQ m,A2,be e,o]
      subst a;rw[bc O];exact W _ ⟨k+1,Z,O,rfl⟩ Z
     have e2:k=(ig p l q).length:=O
     rw[o,e2,dZ,<-s];exact K _ rfl
    rw[be G] at s;have F:(f.getD q al||mm p l q)=al:=by
     cases t:f.getD q al with
     |true=>exact br (.inl t) G
     |false=>
      cases h2:mm p l q with
      |true=>exact br (.inr h2) G
      |false=>rfl
    have B:f[q]=al:=by
     rw[<-H];cases t:f.getD q al with
     |true=>exact br (.inl t) G
     |false=>rfl
    have I:f.set q al=f:=by
     have h:=List.set_getElem_self (as:=f) (i:=q) O
     rwa [B] at h
    rw[F,I];refine ae.loop (λz:List Bool×Int=>z=(f,0)) (λ_=>0) ?_ n _ rfl O;rintro w z rfl W;dsimp only;refine ae.aS (λz=>z=al) (λJ3 d=>ah (r _ _ bV) (ae.cond (λ_=>ah (bo D) (d _ B)) λ_=>d _ rfl)) λz a=>?_;subst a;refine b3 ?_;rw[<-s];exact K _ rfl
   dsimp only;unfold sd;rw[List.drop_of_length_le (by rw[c6];omega)];rfl
  have e:j=l.length:=O
  rw[N,e];exact ah (Lw (by rw[tN];omega) (by rw[tN];omega)) (ae.some rfl)
theorem G2(a:l.length<=120):(gv p l l.length).length<=15000:=by have b:=Af p l l.length;have c:l.length*l.length<=120*120:=nY a a;omega
def kV{k:Type}(p:k->k->Bool):List k->List k->Bool
 | [],[]=>ab
 |a::as,b::c=>p a b&&kV p as c
 |_,_=>al
theorem GB{k:Type}{p:k->k->Bool}: ∀{a b:List k},kV p a b=ab->a.length=b.length
 | [],[],_=>rfl
 |a::as,b::c,h=>by
  simp only[kV,cB] at h;simp[GB h.2]
 | [],b::c,h=>by cases h
 |a::as,[],h=>by cases h
theorem GX{f:k->k->Option Bool}{p:k->k->Bool}{a b:List k}(s: ∀x∈a,∀y∈b,f x y=aa (p x y))(H:a.length<n)(K:a.length<=500000000):
  (bif !decide ((a.length:Int)=(b.length:Int)) then(aa al) else(bz (λd (e:Int)=>bif aj (e<(a.length:Int)) then(bQ (aB a e) λw=>bQ (aB b e) λz=>bQ (f w z) λA=>bif !A then(aa al) else(d (wr (e+1)))) else(aa ab)) n 0))=aa (kV p a b):=by
 refine ae.eq (dL (λh=>ae.some ?_) λh=>?_)
 ·cases c:kV p a b with
  |false=>rfl
  |true=>exact br (by rw[GB c]) h
 refine ae.loop (λx:Int=> ∃i:Nat,x=i/\i<=a.length/\kV p (a.drop i) (b.drop i)=kV p a b) (λx=>a.length-x.toNat) ?_ n 0 ⟨0,rfl,O,rfl⟩ O;rintro l x ⟨i,rfl,L,c⟩ B;refine a1 (λC=>?_) λD=>ae.some ?_
 ·have m:i<a.length:=O
  have o:i<b.length:=O
  have q:=bC m;have bA:=bC o;refine ah (bo q) (ah (bo bA) (ah (s _ (bX q) _ (bX bA)) ?_));rw[kn m,kn o] at c;simp only[kV] at c;cases r:p a[i] b[i] with
  |false=>rw[r] at c;exact b7 (ae.some c)
  |true=>
   rw[r,gi] at c;refine b3 ?_;rw[bc O];exact B _ ⟨i+1,O,O,c⟩ O
 have F:a.drop i=[]:=jO O;have G:b.drop i=[]:=jO O;rw[F,G] at c;exact c
theorem NB{a b:List Int}(B:a.length<n)(C:a.length<=500000000):
  (bif !decide ((a.length:Int)=(b.length:Int)) then(aa al) else(bz (λc (d:Int)=>bif aj (d<(a.length:Int)) then(bQ (aB a d) λo=>bQ (aB b d) λp=>bif !decide (o=p) then(aa al) else(c (wr (d+1)))) else(aa ab)) n 0))=aa (aj (a=b)):=by
 refine ae.eq (dL (λh=>ae.some ?_) λh=>?_)
 ·exact(bN λe=>h (by rw[e])).symm
 refine ae.loop (λx:Int=> ∃i:Nat,x=i/\i<=a.length/\a.take i=b.take i) (λx=>a.length-x.toNat) ?_ n 0 ⟨0,rfl,O,rfl⟩ O;rintro k x ⟨i,rfl,D,q⟩ r;refine a1 (λs=>?_) λw=>ae.some ?_
 ·have y:i<a.length:=O
  have z:i<b.length:=O
  have m:=bC y;have bA:=bC z;refine ah (bo m) (ah (bo bA) ?_);refine dL (λl=>ae.some ?_) λA=>?_
  ·exact(bN λe=>l (by subst e;rfl)).symm
  rw[bc O];exact r _ ⟨i+1,O,O,by rw[fQ m,fQ bA,q,A]⟩ O
 have F:a.take i=a:=jN O
 grind
theorem Vw{a b:List Int}(c:a.length<n)(d:a.length<=500000000):EP n a b=aa (aj (a=b)):=by unfold EP;exact NB c d
theorem LX{a b:List Int}(c:a.length<n)(d:a.length<=500000000):xA n a b=aa (aj (a=b)):=by unfold xA;exact NB c d
theorem Vi(k:5500000<=n){a b:aE}(d:iu a):oC n a b=aa (vc a b):=by unfold iu at d;unfold oC vc;have h:=Vw (n:=n) (a:=a.aM) (b:=b.aM) O O;refine ae.eq (ae.aS (λz=>z=(aj (a.aM=b.aM)&&aj (a.const=b.const))) (λj c=>ah h (ae.cond (λe=>c _ (by rw[e];rfl)) λe=>c _ (by rw[e];rfl))) λz i=>ae.some i)
theorem Vf(k:5500000<=n){a b:aE}(d:iu a):zi n a b=aa (vc a b):=by unfold iu at d;unfold zi vc;have h:=LX (n:=n) (a:=a.aM) (b:=b.aM) O O;refine ae.eq (ae.aS (λz=>z=(aj (a.aM=b.aM)&&aj (a.const=b.const))) (λj c=>ae.cond (λe=>ah h (c _ (by rw[e,Bool.and_true]))) λe=>c _ (by rw[e,ko])) λz i=>ae.some i)
theorem FH: ∀a b:List aE,kV vc a b=qb a b
 | [],[]=>rfl
 |a::as,b::c=>by simp only[kV,qb,FH as c]
 | [],b::c=>rfl
 |a::as,[]=>rfl
theorem Lf(h:5500000<=n){a b:List aE}(c:j1 a):yQ n a b (λd e=>oC n d e)=aa (qb a b):=by unfold yQ;rw[<-FH];exact GX (f:=λd e=>oC n d e) (λx i y _=>Vi h (c.2 x i)) (by have:=c.1;omega) (by have:=c.1;omega)
theorem Lc(d:5500000<=n){a b:List aE}(c:j1 a):zf n a b=aa (qb a b):=by unfold zf;rw[<-FH];exact GX (f:=λe h=>zi n e h) (λx i y _=>Vf d (c.2 x i)) (by have:=c.1;omega) (by have:=c.1;omega)
end Go.Lift
