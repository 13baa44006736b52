/- Tools. -/
import Derived.Test.YtlklcemjbgpcnaaGreatOLiftLaw
set_option maxRecDepth 110000000
set_option linter.unusedVariables false
namespace Go.Lift
open Go
open Option renaming some -> aa, bind -> bH
open Bool renaming true -> ab, false -> ak, and_eq_true -> cx
open Decidable renaming decide -> ai
open List renaming length_append -> hn, all_eq_true -> js, length_cons -> j5, replicate -> dE, map_cons -> hL, range -> gi
abbrev N:Nat:=110000000
section
def dot:List Int->List Int->Int
 |c::cs,x::xs=>c*x+dot cs xs
 |_,_=>0
def cZ(m:Int)(x:Int):Prop:= -m<=x/\x<=m
variable {a:aF}{b c x d aJ v M:Int}{i n k:Nat}{p l:List Int}{R:Type}{A B:Option R}{o:List Loop}{s:List UInt8}{Q:R->Prop}
theorem C7{a:Int}(i:0<=a)(l:0<=b)(d:cZ a c)(e:cZ b x):cZ (a*b) (c*x):=by
 obtain⟨m,n⟩:=d;obtain⟨o,p⟩:=e;constructor
 ·have h:=pn (O:0<=a+c) (O:0<=b+x);have k:=pn (O:0<=a-c) (O:0<=b-x)
  grind
 have h:=pn (O:0<=a+c) (O:0<=b-x);have k:=pn (O:0<=a-c) (O:0<=b+x)
 grind
theorem HW(a:List Int):dot a []=0:=by cases a<;>rfl
theorem Py: ∀{cs a:List Int} {c x:Int},cs[a.length]? =aa c->dot cs (a++[x])=dot cs a+c*x
 | [],a,c,x,h=>by simp at h
 |d::cs,[],c,x,h=>by simp at h;subst h;simp[dot,HW]
 |d::cs,y::a,c,x,h=>by
  have h:cs[a.length]? =aa c:=by simpa using h
  simp only[List.cons_append,dot];rw[Py h];omega
theorem Px{d e:List Int}(b:d[i]? =aa c)(a:e[i]? =aa x):dot d (e.take (i+1))=dot d (e.take i)+c*x:=by have aJ:=(b5.1 a).1;rw[eE,a];exact Py (by simpa[Nat.min_eq_left (Nat.le_of_lt aJ)] using b)
theorem Je{M:Int}(a:0<=M): ∀{cs xs:List Int},(∀c∈cs,cZ 9 c)->(∀x∈xs,cZ M x)->cZ (9*M*xs.length) (dot cs xs)
 | [],xs,_,_=>by
  have:0<=9*M*(xs.length:Int):=pn O O;simp only[dot,cZ];omega
 |d::cs,[],_,_=>by simp[dot,cZ]
 |d::cs,y::xs,b,i=>by
  have k:=Je a (cs:=cs) (xs:=xs) (λc h=>b c (by simp[h])) λx h=>i x (by simp[h]);have l:=C7 O a (b d a7) (i y a7);have e:9*M*((y::xs).length:Int)=9*M*(xs.length:Int)+9*M:=by simp[Int.mul_add]
  rw[e];simp only[dot,cZ] at*;omega
def dV(a b:Int):List Int:=(gi (b-a).toNat).map (fun(i:Nat)=>a+(i:Int))
theorem afP{a:Int}:v∈dV a aJ↔a<=v/\v<aJ:=by
 simp only[dV,List.mem_map,List.mem_range];constructor
 ·rintro⟨i,aJ,rfl⟩;omega
 intro h;exact⟨(v-a).toNat,O,O⟩
theorem mj{a:Int}(h:b<=a):dV a b=[]:=by unfold dV;rw[show(b-a).toNat=0 by omega];rfl
theorem uq{a:Int}(h:b<=a):dV b (a+1)=dV b a++[a]:=by
 unfold dV;rw[show(a+1-b).toNat=(a-b).toNat+1 by omega,om,h7]
 grind
theorem Bl{a:Int}(b:a<=v)(c:v<aJ):dV a aJ=dV a v++v::dV (v+1) aJ:=by
 obtain⟨k,d⟩: ∃k:Nat,aJ=v+1+k:=⟨(aJ-v-1).toNat,O⟩
 subst d;clear c;induction k with
 |zero=>
  rw[show v+1+((0:Nat):Int)=v+1 by omega,uq b,mj (gR _)]
 |succ k e=>
  rw[show v+1+((k+1:Nat):Int)=v+1+(k:Int)+1 by omega,uq O,e,uq O];simp
theorem Cv{a:Type}{f:a->Option Bool}{p:a->Bool}{l:List a}(q: ∀x∈l,f x=aa (p x))(D:l.length<n)(s:l.length<=500000000):
  ∃r:Int,bk (λb (c:Int)=>bif ai (c<(l.length:Int)) then(bH (aD l c) λe=>bH (f e) λi=>bif i then(aa c) else(b (wr (c+1)))) else(aa (-1))) n 0=aa r/\ai (0<=r)=l.any p:=by
 suffices h:ae (bk (λb (c:Int)=>bif ai (c<(l.length:Int)) then(bH (aD l c) λe=>bH (f e) λi=>bif i then(aa c) else(b (wr (c+1)))) else(aa (-1))) n 0) (λr=>decide (0<=r)=l.any p) by exact h
 refine ae.loop (λx:Int=>0<=x/\x<=l.length/\(l.take x.toNat).any p=ak) (λx:Int=>l.length-x.toNat) ?_ n 0 ⟨O,O,a7⟩ b6;rintro k x ⟨o,F,G⟩ w;refine aW (λm=>?_) λz=>?_
 ·obtain⟨y,A,d⟩:=pL o m;have hm:=bT d;refine ag A (ag (q y hm) (ae.cond (λB=>ae.some ?_) λC=>?_))
  ·rw[show l.any p=ab from jo.2 ⟨y,hm,B⟩];simp[o]
  rw[a6 O];refine w _ ⟨O,O,?_⟩ O;rw[show(x+1).toNat=x.toNat+1 by omega,eE,d]
  grind
 refine ae.some ?_;have H:x.toNat=l.length:=O
 grind
theorem EM{f:Int->Option Bool}{p:Int->Bool}(b: ∀x∈l,f x=aa (p x))(c:l.length<n)(a:l.length<=500000000):oS n l f=aa (l.any p):=by
 obtain⟨r,d,e⟩:=Cv b c a;unfold oS zj
 grind
theorem zl{f:aF->Option Bool}{p:aF->Bool}{l:List aF}(b: ∀x∈l,f x=aa (p x))(c:l.length<n)(a:l.length<=500000000):pR n l f=aa (l.any p):=by
 obtain⟨r,d,e⟩:=Cv b c a;unfold pR DS
 grind
theorem W3{f:Stmt->Option Bool}{p:Stmt->Bool}{l:List Stmt}(b: ∀x∈l,f x=aa (p x))(c:l.length<n)(a:l.length<=500000000):DP n l f=aa (l.any p):=by
 obtain⟨r,d,e⟩:=Cv b c a;unfold DP KS
 grind
theorem WK{f:cw->Option Bool}{p:cw->Bool}{l:List cw}(b: ∀x∈l,f x=aa (p x))(c:l.length<n)(a:l.length<=500000000):DL n l f=aa (l.any p):=by
 obtain⟨r,d,e⟩:=Cv b c a;unfold DL KL
 grind
theorem qo{a:Type}{l:List a}{p:Nat->a->Bool}{Q:Bool->Prop}{k:(Int->Option Bool)->Int->Option Bool}(z:l.length<n)(r:l.length<=500000000)
  (c: ∀b (i:Nat) x,l[i]? =aa x->(p i x=ab->ae (b ((i:Int)+1)) Q)->(p i x=ak->Q ak)->ae (k b (i:Int)) Q)
  (m: ∀b,(∀(i:Nat) x,l[i]? =aa x->p i x=ab)->ae (k b (l.length:Int)) Q) (d:(∃(i:Nat) (x:a),l[i]? =aa x/\p i x=ak)->Q ak):ae (bk k n 0) Q:=by
 refine ae.loop (λx:Int=> ∃i:Nat,x=i/\i<=l.length/\ ∀(j:Nat) y,j<i->l[j]? =aa y->p j y=ab) (λx:Int=>l.length-x.toNat) ?_ n 0 ⟨0,rfl,O,λj y h=>O⟩ b6;rintro b x ⟨i,rfl,A,B⟩ s;by_cases e:i<l.length
 ·have o:=bu e;refine c b i _ o (λq=>s _ ⟨i+1,O,O,λj y C D=>?_⟩ O) (λq=>d ⟨i,_,o,q⟩)
  grind
 have w:i=l.length:=O
 grind
def de(a:aF):Bool:=ai (a.aU.length=4)&&(ai (-99<=a.const/\a.const<=99)&&a.aU.all λc=>decide (-9<=c/\c<=9))
theorem fU(h:de a=ab):a.aU.length=4/\cZ 99 a.const/\ ∀c∈a.aU,cZ 9 c:=by simp only[de,cx,decide_eq_true_eq,js] at h;exact⟨h.1,h.2.1,h.2.2⟩
theorem d9(n:Nat)(x a b:Int):fy n x a b=aa (ai (a<=x/\x<=b)):=by unfold fy;by_cases c:a<=x<;>by_cases d:x<=b<;>simp[aP,c,d]
theorem Lq(h:5500000<=n)(a:aF)(i:a.aU.length<=1100000):wo n a=aa (de a):=by
 have d: ∀x∈a.aU,zk n x=aa (!decide (-9<=x/\x<=9)):=λx _=>by unfold zk;rw[d9];rfl
 have bS:=EM (n:=n) d O O;unfold wo G';rw[d9];simp only[aP,bH];rw[bS];unfold de;have e:(a.aU.any λx=> !decide (-9<=x/\x<=9))= !(a.aU.all λc=>decide (-9<=c/\c<=9)):=by
  grind
 rw[e];by_cases b:a.aU.length=4
 ·rw[bU (show(a.aU.length:Int)=4 by omega),bU b]
  grind
 rw[bR (show¬(a.aU.length:Int)=4 by omega),bR b];rfl
theorem zX(n:Nat)(x m:Int)(c:0<=m/\m<=1000000000):rH n x m=aa (ai (-m<=x/\x<=m)):=by
 unfold rH;rw[a6 O];by_cases a: -m<=x<;>by_cases b:x<=m
 ·simp[aP,a,b]
 ·simp[aP,a,b]
 ·simp[aP,a,b]
 simp[aP,a,b]
theorem KR(y:5500000<=n)(a:aF)(A:a.aU.length<=1100000):we n a=aa (de a):=by
 refine ae.eq ?_;unfold we;refine qo (l:=a.aU) (p:=λ_ c=>decide (-9<=c/\c<=9)) O O (λb i x k m o=>?_) (λb d=>?_) (λ⟨i,x,k,q⟩=>?_)
 ·rw[bU (show(i:Int)<(a.aU.length:Int) by have:=(b5.1 k).1;omega)];refine ag (bl k) (ag (zX n x 9 O) ?_);have aJ:=(b5.1 k).1;cases q:ai (-9<=x/\x<=9) with
  |true=>show ae (b _) _;rw[a6 O];exact m q
  |false=>exact ae.some (o q)
 ·rw[bR (show¬(a.aU.length:Int)<(a.aU.length:Int) by omega)];have e:a.aU.all (λc=>decide (-9<=c/\c<=9))=ab:=gD.2 λc s=>by obtain⟨i,aJ⟩:=lb s;exact d i c aJ
  refine ae.cond (λh=>(by cases h)) λ_=>?_;unfold de;rw[e];refine ae.aP (λz:Bool=>z=(ai (a.aU.length=4)&&(ai (-99<=a.const/\a.const<=99)&&ab))) (λj r=>?_) λz w=>ae.some w;refine aW (λh=>ag (zX n a.const 99 O) (r _ ?_)) λh=>r _ ?_
  ·rw[bU (O:a.aU.length=4)];simp
  rw[bR (show¬a.aU.length=4 by omega)];rfl
 unfold de
 grind
def gm(a:aF)(p:List Int):Int:=a.const+dot a.aU p
def Ef(M:Int)(p:List Int):Prop:= ∀x∈p,cZ M x
theorem BA(b:de a=ab)(k:p.length<=4)(c:0<=M/\M<=1000000000)(d:Ef M p)(i:Nat)(l:i<=p.length):cZ 1000000000000 (a.const+dot a.aU (p.take i)):=by
 obtain⟨m,n,e⟩:=fU b;have o:=Je (M:=M) c.1 (cs:=a.aU) (xs:=p.take i) e λx h=>d x (gP h);have q:(p.take i).length<=4:=b6
 have r:9*M*((p.take i).length:Int)<=9*M*4:=Int.mul_le_mul_of_nonneg_left O O;simp only[cZ] at*;omega
theorem acE(D:5500000<=n)(e:de a=ab)(o:p.length<=4)(h:0<=M/\M<=1000000000)(l:Ef M p):oT n a p=aa (gm a p):=by
 obtain⟨F,G,w⟩:=fU e;refine ae.eq ?_;unfold oT;refine ae.loop (λx:Int×Int=> ∃i:Nat,x.2=i/\i<=p.length/\x.1=a.const+dot a.aU (p.take i)) (λx=>p.length-x.2.toNat) ?_ n _ ⟨0,rfl,O,by simp[HW]⟩ b6;rintro m ⟨x,k⟩ ⟨i,q,y,r⟩ z;dsimp only at q r⊢;subst q;refine aW (λd=>?_) λA=>ae.some ?_
 ·have d:i<p.length:=O
  have b:=bu d;have c:=bu (O:i<a.aU.length);have cO:=Px c b;have B:=BA e o h l i y;have s:=BA e o h l (i+1) O;rw[cO] at s;have C:=C7 O h.1 (w _ (bT c)) (l _ (bT b));refine ag (bl b) (ag (bl c) ?_);simp only[cZ] at B s C;rw[a6 (n:=a.aU[i]*p[i]) O,a6 O,a6 O];refine z _ ⟨i+1,Z,O,?_⟩ Z
  grind
 have:i=p.length:=O
 rw[r,this,dR];rfl
theorem abS(K:5500000<=n)(d:de a=ab)(q:p.length<=4)(e:0<=M/\M<=1000000000)(l:Ef M p):o9 n a p=aa (gm a p):=by
 obtain⟨L,Q,A⟩:=fU d;refine ae.eq ?_;unfold o9;refine ae.loop (λx:Int×Int=> ∃i:Nat,x.2=i/\i<=p.length/\x.1=a.const+dot a.aU (p.take i)) (λx=>p.length-x.2.toNat) ?_ n _ ⟨0,rfl,O,by simp[HW]⟩ b6;rintro m ⟨x,k⟩ ⟨i,r,B,s⟩ C;dsimp only at r s⊢;subst r;refine ae.aP (λz=>z=ai (i<p.length)) (λj w=>aW (λh=>w _ ?_) λh=>w _ ?_) λz D=>?_
 ·rw[bU (O:i<p.length),bU (show(i:Int)<(a.aU.length:Int) by omega)]
 ·rw[bR (show¬i<p.length by omega)]
 subst D;refine aW (λo=>?_) λF=>ae.some ?_
 ·have b:=bu o;have c:=bu (O:i<a.aU.length);have cO:=Px c b;have G:=BA d q e l i B;have y:=BA d q e l (i+1) O;rw[cO] at y;have H:=C7 O e.1 (A _ (bT c)) (l _ (bT b));refine ag (bl c) (ag (bl b) ?_);simp only[cZ] at G y H;rw[a6 (n:=a.aU[i]*p[i]) O,a6 O,a6 O];refine C _ ⟨i+1,Z,O,?_⟩ Z
  grind
 have:i=p.length:=O
 rw[s,this,dR];rfl
theorem cf(h:ae A Q):ae (bif ab then A else B) Q:=h
theorem b3(h:ae B Q):ae (bif ak then A else B) Q:=h
def d7:List Int->Nat
 | []=>0
 |c::cs=>if d7 cs=0 then(if c=0 then 0 else 1) else d7 cs+1
theorem MN: ∀(l:List Int) (c:Int),d7 (l++[c])=if c=0 then d7 l else l.length+1
 | [],c=>by simp[d7]
 |d::l,c=>by
  have b:=MN l c;simp only[List.cons_append,d7,b];by_cases a:c=0
  ·simp[a]
  simp[a]
theorem MM(h:l[i]? =aa c):d7 (l.take (i+1))=if c=0 then d7 (l.take i) else i+1:=by have aJ:=(b5.1 h).1;rw[eE,h];show d7 (l.take i++[c])=_;rw[MN,c7,ug (Nat.le_of_lt aJ)]
theorem zR: ∀{l:List Int} {i:Nat} {c:Int},l[i]? =aa c->d7 l<=i->c=0
 | [],i,c,h,_=>by simp at h
 |d::l,0,c,h,a=>by
  simp at h;subst h;simp only[d7] at a;by_cases b:d7 l=0
  ·by_cases e:d=0
   ·exact e
   simp[b,e] at a
  simp[b] at a
 |d::l,i+1,c,h,a=>by
  have h:l[i]? =aa c:=by simpa using h
  refine zR h ?_;simp only[d7] at a;by_cases b:d7 l=0
  ·omega
  rw[a8 b] at a;omega
def iE(a:aF):Prop:=a.aU.length<=1100000
def ke(l:List aF):Prop:=l.length<=1100000/\ ∀a∈l,iE a
theorem Af(r:5500000<=n)(e:iE a):o4 n a=aa (d7 a.aU:Int):=by
 have e:a.aU.length<=1100000:=e;refine ae.eq ?_;unfold o4;refine ae.loop (λx:Int×Int=> ∃i:Nat,x.2=i/\i<=a.aU.length/\x.1=(d7 (a.aU.take i):Int)) (λx=>a.aU.length-x.2.toNat) ?_ n _ ⟨0,rfl,O,by simp[d7]⟩ b6;rintro c ⟨x,k⟩ ⟨i,h,s,l⟩ o;dsimp only at h l⊢;subst h;refine aW (λb=>?_) λp=>ae.some ?_
 ·have b:i<a.aU.length:=O
  have bS:=bu b;have cO:=MM bS;refine ae.aP (λz:Int=>z=(d7 (a.aU.take (i+1)):Int)) (λj m=>ag (bl bS) (dF (λd=>m _ ?_) λd=>m _ ?_)) λz q=>?_
  ·rw[cO,a8 d,a6 O];omega
  ·rw[cO,bb d,l]
  rw[a6 O];exact o _ ⟨i+1,Z,O,q⟩ Z
 have:i=a.aU.length:=O
 grind
theorem AR(q:5500000<=n)(o:iE a):rh n a=aa (d7 a.aU:Int):=by
 have o:a.aU.length<=1100000:=o;refine ae.eq ?_;unfold rh;refine ae.loop (λx:Int=> ∃i:Nat,x=i/\i<=a.aU.length/\d7 a.aU=d7 (a.aU.take i)) (λx=>x.toNat) ?_ n _ ⟨a.aU.length,rfl,O,by rw[dR]⟩ b6;rintro b x ⟨i,rfl,r,c⟩ p;cases i with
 |zero=>
  refine ae.aP (λz=>z=ak) (λj d=>aW (λh=>bs h (by decide)) λh=>d _ rfl) λz k=>?_;subst k;exact ae.some (by rw[c];rfl)
 |succ i=>
  have l:i<a.aU.length:=O
  have bS:=bu l;have cO:=MM bS;have e:wr (((i+1:Nat):Int)-1)=(i:Int):=by rw[a6 O];omega
  rw[e];refine ae.aP (λz=>z=ai (a.aU[i]=0)) (λj d=>aW (λh=>ag (bl bS) (d _ rfl)) λh=>bs (show(0:Int)<((i+1:Nat):Int) by omega) h) λz k=>?_;subst k;refine aW (λm=>?_) λm=>ae.some ?_
  ·exact p _ ⟨i,rfl,O,by rw[c,cO,bb m]⟩ O
  rw[c,cO,a8 m]
def fz(a:aF)(d:Int):Bool:=de a&&ai ((d7 a.aU:Int)<=d)
def fA(l:List aF)(d:Int):Bool:=l.all (λa=>fz a d)&&ai (1<=l.length/\l.length<=2)
theorem KE(a b:Int):ai (a<b)= !decide (b<=a):=by grind
theorem MR(w:5500000<=n){l:List aF}(B:ke l)(d:Int):xP n l d=aa (fA l d):=by
 obtain⟨F,C⟩:=B;refine ae.eq ?_;unfold xP;refine qo (l:=l) (p:=λ_ a=>fz a d) O O (λb i x o q r=>?_) (λb k=>?_) (λ⟨i,x,o,G⟩=>?_)
 ·have aJ:=(b5.1 o).1;have hm:=C x (bT o);rw[bU (show(i:Int)<(l.length:Int) by omega)];refine cf (ae.aP (λz=>z= !fz x d) (λj m=>ag (bl o) (ag (KR w x hm) ?_)) λz s=>?_)
  ·cases y:de x with
   |false=>exact m _ (by unfold fz;rw[y];rfl)
   |true=>exact ag (Af w hm) (m _ (by unfold fz;rw[y,KE];simp))
  subst s;cases A:fz x d with
  |true=>show ae (b _) _;rw[a6 O];exact q A
  |false=>exact ae.some (r A)
 ·rw[bR (show¬(l.length:Int)<(l.length:Int) by omega)];have e:l.all (λa=>fz a d)=ab:=gD.2 λc D=>by obtain⟨i,aJ⟩:=lb D;exact k i c aJ
  unfold fA;rw[e];refine b3 (ae.aP (λz=>z=ai (1<=l.length/\l.length<=2)) (λj m=>aW (λh=>m _ ?_) λh=>m _ ?_) λz s=>ae.some (by rw[s];rfl))
  ·by_cases H:l.length<=2
   ·rw[bU (show(l.length:Int)<=2 by omega),bU O]
   rw[bR (show¬(l.length:Int)<=2 by omega),bR O]
  rw[bR O]
 unfold fA
 grind
theorem NN(b:5500000<=n)(c:iE a)(d:Int):wu n a d=aa (!fz a d):=by
 unfold wu;rw[Lq b a c];simp only[aP,bH];cases e:de a with
 |false=>simp[fz,e]
 |true=>
  rw[AR b c];simp only[fz,e,Bool.not_true,cond_false,Bool.true_and];rw[KE]
theorem FG(n k:Nat):fy n (k:Int) 1 2=aa (ai (1<=k/\k<=2)):=by
 rw[d9];congr 1
 grind
theorem L1(b:5500000<=n){l:List aF}(c:ke l)(d:Int):Ai n l d=aa (fA l d):=by
 obtain⟨k,e⟩:=c;unfold Ai;rw[FG];have bS:=zl (n:=n) (f:=λh=>wu n h d) (p:=λa=> !fz a d) (l:=l) (λx i=>NN b (e x i) d) O O;simp only[aP,bH];rw[bS];unfold fA
 grind
def u1{a:Type}(p:Nat->a->Bool)(l:List a):Bool:=l.zipIdx.all λq=>p q.2 q.1
theorem Fm{a:Type}{p:Nat->a->Bool}{l:List a}(h: ∀(i:Nat) x,l[i]? =aa x->p i x=ab):u1 p l=ab:=
 gD.2 λq b=>h q.2 q.1 (ES.1 b)
theorem EI{a:Type}{p:Nat->a->Bool}{l:List a}{x:a}(h:l[i]? =aa x)(b:p i x=ak):u1 p l=ak:=
 mx.2 ⟨(x,i),ES.2 h,by rw[b];simp⟩
theorem Ge{a:Type}{p:Nat->a->Bool}{l:List a}(h:u1 p l=ab){x:a}(b:l[i]? =aa x):p i x=ab:=
 gD.1 h (x,i) (ES.2 b)
def k7(a:List Loop):Bool:=u1 (λi l=>fA l.lo (i:Int)&&fA l.aJ (i:Int)) a&&ai (a.length<=4)
def qQ(a:List Loop):Prop:=a.length<=1100000/\ ∀l∈a,ke l.lo/\ke l.aJ
theorem WZ(k:5500000<=n)(h:qQ o):Fv n o=aa (k7 o):=by
 obtain⟨C,s⟩:=h;refine ae.eq ?_;unfold Fv;refine qo (l:=o) (p:=λi l=>fA l.lo (i:Int)&&fA l.aJ (i:Int)) O O (λa i x b d e=>?_) (λa c=>?_) (λ⟨i,x,b,w⟩=>?_)
 ·have aJ:=(b5.1 b).1;obtain⟨y,A⟩:=s x (bT b);rw[bU (show(i:Int)<(o.length:Int) by omega)];refine ag (bl b) (ae.aP (λz=>z= !(fA x.lo (i:Int)&&fA x.aJ (i:Int))) (λj m=>ag (L1 k y _) ?_) λz B=>?_)
  ·cases q:fA x.lo (i:Int) with
   |false=>exact m _ (by rw[q];rfl)
   |true=>exact ag (L1 k A _) (m _ (by rw[q];rfl))
  subst B;cases r:(fA x.lo (i:Int)&&fA x.aJ (i:Int)) with
  |true=>show ae (a _) _;rw[a6 O];exact d r
  |false=>exact ae.some (e r)
 ·rw[bR (show¬(o.length:Int)<(o.length:Int) by omega)];refine ae.some ?_;unfold k7;rw[Fm c,gh]
  grind
 unfold k7;rw[EI b w];rfl
theorem WO(r:5500000<=n)(h:qQ o):Ff n o=aa (k7 o):=by
 obtain⟨F,A⟩:=h;unfold Ff;by_cases s:o.length<=4
 ·rw[bU (show(o.length:Int)<=4 by omega)];refine ae.eq ?_;refine qo (l:=o) (p:=λi l=>fA l.lo (i:Int)&&fA l.aJ (i:Int)) O O (λa i x c m q=>?_) (λa d=>?_) (λ⟨i,x,c,B⟩=>?_)
  ·have aJ:=(b5.1 c).1;obtain⟨C,D⟩:=A x (bT c);rw[bU (show(i:Int)<(o.length:Int) by omega)];refine ae.aP (λz=>z=ab) (λj b=>cf (b _ rfl)) λz e=>?_;subst e;refine cf (ae.aP (λz=>z= !(fA x.lo (i:Int)&&fA x.aJ (i:Int))) (λj b=>ag (bl c) (ag (MR r C _) ?_)) λz e=>?_)
   ·cases w:fA x.lo (i:Int) with
    |false=>exact b _ (by rw[w];rfl)
    |true=>exact ag (MR r D _) (b _ (by rw[w];rfl))
   subst e;cases y:(fA x.lo (i:Int)&&fA x.aJ (i:Int)) with
   |true=>show ae (a _) _;rw[a6 O];exact m y
   |false=>exact ae.some (q y)
  ·rw[bR (show¬(o.length:Int)<(o.length:Int) by omega)];refine ae.aP (λz=>z=ak) (λj b=>b3 (b _ rfl)) λz e=>?_;subst e;refine ae.some ?_;unfold k7;rw[Fm d,bU s];rfl
  unfold k7;rw[EI c B];rfl
 obtain⟨k,rfl⟩: ∃k,n=k+1:=⟨n-1,O⟩
 rw[bR (show¬(o.length:Int)<=4 by omega)];unfold k7;rw[bR s,kF];simp only[bk,aP]
 grind
def m':List Int->Int
 | []=>0
 |x::a=>a.foldl max x
def o8:List Int->Int
 | []=>0
 |x::a=>a.foldl min x
theorem afW(h:l≠[])(x:Int):m' (l++[x])=max (m' l) x:=by
 cases l with
 |nil=>exact bs rfl h
 |cons a l=>simp[m',List.foldl_append]
theorem afY(h:l≠[])(x:Int):o8 (l++[x])=min (o8 l) x:=by
 cases l with
 |nil=>exact bs rfl h
 |cons a l=>simp[o8,List.foldl_append]
theorem RF: ∀(l:List Int) (a:Int),a<=l.foldl max a
 | [],a=>gR _
 |x::l,a=>Int.le_trans (Int.le_max_left a x) (RF l (max a x))
theorem RH: ∀(l:List Int) (a:Int),l.foldl min a<=a
 | [],a=>gR _
 |x::l,a=>Int.le_trans (RH l (min a x)) (Int.min_le_left a x)
def l6(l:List aF)(p:List Int):List Int:=l.map λa=>gm a p
def dW(l:Loop)(p:List Int):Int:=m' (l6 l.lo p)
def eL(l:Loop)(p:List Int):Int:=o8 (l6 l.aJ p)
def iA(k:Nat)(p:List Int):Prop:=p.length=k/\k<=4/\Ef (100*40^k) p
theorem sK(h:k<=4):(0:Int)<=100*40^k/\(100:Int)*40^k<=1000000000:=by
 match k,h with
 |0,_=>decide
 |1,_=>decide
 |2,_=>decide
 |3,_=>decide
 |4,_=>decide
theorem qH{l:List aF}(h:fA l d=ab):1<=l.length/\l.length<=2/\ ∀a∈l,de a=ab:=by
 simp only[fA,cx,decide_eq_true_eq,js] at h;refine⟨h.2.1,h.2.2,λa b=>?_⟩
 have:=h.1 a b;simp only[fz,cx] at this
 grind
theorem QN(b:de a=ab)(c:iA k p)(d:k<=3): -(40*(100*40^k))<=gm a p/\gm a p<=40*(100*40^k):=by
 obtain⟨m,n,e⟩:=fU b;obtain⟨o,q,h⟩:=c;obtain⟨i,r⟩:=sK (k:=k) O;have s:(100:Int)<=100*40^k:=by
  match k,d with
  |0,_=>decide
  |1,_=>decide
  |2,_=>decide
  |3,_=>decide
 generalize (100*40^k:Int)=M at*;have w:=Je (M:=M) i (cs:=a.aU) (xs:=p) e λx l=>h x l;have y:9*M*(p.length:Int)<=9*M*3:=Int.mul_le_mul_of_nonneg_left O O;simp only[cZ] at*;unfold gm;omega
theorem yz(c:5500000<=n)(d:de a=ab)(b:iA k p):o9 n a p=aa (gm a p):=
 abS c d (by have:=b.1;have:=b.2.1;omega) (sK b.2.1) b.2.2
theorem yC(c:5500000<=n)(d:de a=ab)(b:iA k p):oT n a p=aa (gm a p):=
 acE c d (by have:=b.1;have:=b.2.1;omega) (sK b.2.1) b.2.2
theorem pg{l:List aF}(h:l[i]? =aa a):(l6 l p)[i]? =aa (gm a p):=by unfold l6;rw[List.getElem?_map,h];rfl
theorem Cp(l:List aF)(p:List Int):(l6 l p).length=l.length:=dJ ..
theorem Qe{a:Type}{l:List a}(h:1<=i)(b:1<=l.length):l.take i≠[]:=by
 intro e
 have:(l.take i).length=0:=by rw[e];rfl
 grind
theorem P3(h:l[i]? =aa x)(a:1<=i):m' (l.take (i+1))=max (m' (l.take i)) x:=by have:=(b5.1 h).1;rw[eE,h];exact afW (Qe a O) x
theorem P5(h:l[i]? =aa x)(a:1<=i):o8 (l.take (i+1))=min (o8 (l.take i)) x:=by have:=(b5.1 h).1;rw[eE,h];exact afY (Qe a O) x
theorem Iv(h:l[0]? =aa x):m' (l.take 1)=x:=by
 cases l with
 |nil=>simp at h
 |cons a l=>simp at h;subst h;rfl
theorem Iw(h:l[0]? =aa x):o8 (l.take 1)=x:=by
 cases l with
 |nil=>simp at h
 |cons a l=>simp at h;subst h;rfl
theorem M'(q:5500000<=n){l:Loop}{a:Int}(Q:fA l.lo d=ab)(R:fA l.aJ a=ab)(r:iA k p):Ar n l p=aa (dW l p,eL l p):=by
 obtain⟨aL,a2,a3⟩:=qH Q;obtain⟨f,t,L⟩:=qH R;have B:=bu (O:0<l.lo.length);have C:=bu (O:0<l.aJ.length);refine ae.eq ?_;unfold Ar;refine ag (bl (i:=0) B) (ag (yz q (a3 _ (bT B)) r) (ag (bl (i:=0) C) (ag (yz q (L _ (bT C)) r) ?_)));refine ae.loop (λx:Int×Int=> ∃i:Nat,x.2=i/\1<=i/\i<=l.lo.length/\x.1=m' ((l6 l.lo p).take i)) (λx=>l.lo.length-x.2.toNat) ?_ n _ ⟨1,rfl,O,O,(Iv (pg B)).symm⟩ Z;rintro D ⟨x,z⟩ ⟨i,b,c,W,s⟩ X;dsimp only at b s⊢;subst b;refine aW (λF=>?_) λG=>?_
 ·have g:=bu (O:i<l.lo.length);have e:=P3 (pg (p:=p) g) c;refine ae.aP (λz=>z=m' ((l6 l.lo p).take (i+1))) (λj o=>ag (bl g) (ag (yz q (a3 _ (bT g)) r) (aW (λh=>o _ ?_) λh=>o _ ?_))) λz b=>?_
  ·rw[e,<-s];omega
  ·rw[e,<-s];omega
  rw[a6 O];exact X _ ⟨i+1,Z,O,O,b⟩ Z
 have m:i=l.lo.length:=O
 have H:x=dW l p:=by rw[s,m,<-Cp l.lo p,dR];rfl
 refine ae.loop (λx:Int×Int=> ∃i:Nat,x.2=i/\1<=i/\i<=l.aJ.length/\x.1=o8 ((l6 l.aJ p).take i)) (λx=>l.aJ.length-x.2.toNat) ?_ n _ ⟨1,rfl,O,O,(Iw (pg C)).symm⟩ Z;rintro w ⟨y,z⟩ ⟨i,b,c,W,A⟩ K;dsimp only at b A⊢;subst b;refine aW (λF=>?_) λG=>ae.some ?_
 ·have g:=bu (O:i<l.aJ.length);have e:=P5 (pg (p:=p) g) c;refine ae.aP (λz=>z=o8 ((l6 l.aJ p).take (i+1))) (λj o=>ag (bl g) (ag (yz q (L _ (bT g)) r) (aW (λh=>o _ ?_) λh=>o _ ?_))) λz b=>?_
  ·rw[e,<-A];omega
  ·rw[e,<-A];omega
  rw[a6 O];exact K _ ⟨i+1,Z,O,O,b⟩ Z
 have m:i=l.aJ.length:=O
 rw[H,A,m,<-Cp l.aJ p,dR];rfl
theorem acy(e:5500000<=n){l:Loop}{a:Int}(G:fA l.lo d=ab)(H:fA l.aJ a=ab)(h:iA k p):Fx n l p=aa (dW l p,eL l p):=by
 obtain⟨aL,a2,a3⟩:=qH G;obtain⟨Q,R,F⟩:=qH H;have r:=bu (O:0<l.lo.length);have s:=bu (O:0<l.aJ.length);refine ae.eq ?_;unfold Fx;refine ag (bl (i:=0) r) (ag (yC e (a3 _ (bT r)) h) (ag (bl (i:=0) s) (ag (yC e (F _ (bT s)) h) ?_)));refine ae.loop (λx:Int×Int=> ∃i:Nat,x.2=i/\i<=l.lo.length/\x.1=m' ((l6 l.lo p).take (max i 1))) (λx=>l.lo.length-x.2.toNat) ?_ n _ ⟨0,rfl,O,(Iv (pg r)).symm⟩ Z;rintro w ⟨x,z⟩ ⟨i,c,K,m⟩ L;dsimp only at c m⊢;subst c;refine aW (λA=>?_) λB=>?_
 ·have g:=bu (O:i<l.lo.length);refine ag (bl g) (ag (yC e (a3 _ (bT g)) h) ?_);rw[a6 O];refine L _ ⟨i+1,Z,O,?_⟩ Z;dsimp only;rw[show max (i+1) 1=i+1 by omega];cases i with
  |zero=>rw[m,show max 0 1=1 by rfl,dI,Iv (pg g)];omega
  |succ i=>rw[P3 (pg (p:=p) g) O,m,show max (i+1) 1=i+1 by omega]
 have b:i=l.lo.length:=O
 have C:x=dW l p:=by rw[m,b,Nat.max_eq_left O,<-Cp l.lo p,dR];rfl
 refine ae.loop (λx:Int×Int=> ∃i:Nat,x.2=i/\i<=l.aJ.length/\x.1=o8 ((l6 l.aJ p).take (max i 1))) (λx=>l.aJ.length-x.2.toNat) ?_ n _ ⟨0,rfl,O,(Iw (pg s)).symm⟩ Z;rintro o ⟨y,z⟩ ⟨i,c,K,q⟩ D;dsimp only at c q⊢;subst c;refine aW (λA=>?_) λB=>ae.some ?_
 ·have g:=bu (O:i<l.aJ.length);refine ag (bl g) (ag (yC e (F _ (bT g)) h) ?_);rw[a6 O];refine D _ ⟨i+1,Z,O,?_⟩ Z;dsimp only;rw[show max (i+1) 1=i+1 by omega];cases i with
  |zero=>rw[q,show max 0 1=1 by rfl,dI,Iw (pg g)];omega
  |succ i=>rw[P5 (pg (p:=p) g) O,q,show max (i+1) 1=i+1 by omega]
 have b:i=l.aJ.length:=O
 rw[C,q,b,Nat.max_eq_left O,<-Cp l.aJ p,dR];rfl
theorem CB{l:Loop}(n:fA l.lo d=ab)(o:fA l.aJ b=ab)(e:iA k p)(i:k<=3)(A:dW l p<=v/\v<eL l p):iA (k+1) (p++[v]):=by
 obtain⟨aL,a2,a3⟩:=qH n;obtain⟨m,B,r⟩:=qH o;have C: -(40*(100*40^k))<=dW l p:=by
  cases c:l.lo with
  |nil=>rw[c] at aL;simp at aL
  |cons a as=>
   have:=(QN (a3 a (by rw[c];simp)) e i).1;unfold dW l6;rw[c];exact Int.le_trans this (RF _ _)
 have D:eL l p<=40*(100*40^k):=by
  cases c:l.aJ with
  |nil=>rw[c] at m;simp at m
  |cons a as=>
   have:=(QN (r a (by rw[c];simp)) e i).2;unfold eL l6;rw[c];exact Int.le_trans (RH _ _) this
 obtain⟨s,F,w⟩:=e;have y:(100*40^(k+1):Int)=40*(100*40^k):=by rw[Int.pow_succ];omega
 have q:=(sK (k:=k) O).1;refine⟨by simp[s],O,λx z=>?_⟩;rw[y];rcases eY.1 z with h|h
 ·have:=w x h;simp only[cZ] at this⊢;omega
 simp at h;subst h;simp only[cZ];omega
def fE:List Loop->List Int->List (List Int)
 | [],p=>[p]
 |l::cb,p=>(dV (dW l p) (eL l p)).flatMap λv=>fE cb (p++[v])
def fP:List Loop->List Int->Int
 | [],_=>1
 |l::cb,p=>1+((dV (dW l p) (eL l p)).map λv=>fP cb (p++[v])).sum
theorem ot{a:Type}(f:a->Int): ∀(l:List a),(∀x∈l,1<=f x)->(l.length:Int)<=(l.map f).sum
 | [],_=>a7
 |x::l,h=>by have c:=ot f l λy b=>h y (by simp[b]);have d:=h x a7;simp only[hL,List.sum_cons,j5];omega
theorem CO: ∀(cb:List Loop) (p:List Int),1<=fP cb p
 | [],p=>gR _
 |l::cb,p=>by have:=ot (λv=>fP cb (p++[v])) (dV (dW l p) (eL l p)) λv _=>CO cb _;simp only[fP];omega
def Fit(a:List Loop):Prop:=a.length<=4/\ ∀(i:Nat) l,a[i]? =aa l->fA l.lo (i:Int)=ab/\fA l.aJ (i:Int)=ab
theorem CN{nest:List Loop}(h:k7 nest=ab):Fit nest:=by
 simp only[k7,cx,decide_eq_true_eq] at h;refine⟨h.2,λi l a=>?_⟩
 have:=Ge h.1 a
 grind
theorem BB{l:Loop}{q:List Loop}(h:o.drop k=l::q):o[k]? =aa l/\o.drop (k+1)=q/\k<o.length:=by
 have a:(o.drop k)[0]? =aa l:=by rw[h];rfl
 rw[gq,r0] at a;refine⟨a,?_,(b5.1 a).1⟩
 have:(o.drop k).drop 1=q:=by rw[h];rfl
 rwa [List.drop_drop] at this
theorem Cn(h:o.drop k=[])(a:k<=o.length):k=o.length:=by
 have:(o.drop k).length=0:=by rw[h];rfl
 grind
theorem mQ(p:List Int)(h:p.length<=1100000):app [] p=aa p:=by rw[dr b6];rfl
theorem ON(l:List Int)(f:Int->Int)(v:Int):((l++[v]).map f).sum=(l.map f).sum+f v:=a7
theorem afQ{lo:Int}(h:lo<=v):((dV lo v).length:Int)=v-lo:=by unfold dV;simp;omega
theorem NR{b:List Loop}(B:Fit b): ∀(cb:List Loop) (n k:Nat) (p:List Int) (a:Int),5500000+cb.length<=n->b.drop k=cb->k<=b.length->iA k p->0<=a->a<=1200->
  ae (rQ n b p a) (λr=>(fP cb p<=a->r=fP cb p)/\(a<fP cb p->a<r)/\1<=r/\r<=a+1)
 | [],n,k,p,a,K,C,L,m,N,P=>by
  obtain⟨n,rfl⟩: ∃j,n=j+1:=⟨n-1,O⟩
  have S:=Cn C L;have o:=m.1;unfold rQ;rw[bU (show(p.length:Int)=(b.length:Int) by omega)];exact ae.some ⟨λ_=>rfl,λh=>by simp only[fP] at h;omega,O,O⟩
 |l::cb,n,k,p,a,K,C,L,m,N,P=>by
  obtain⟨n,rfl⟩: ∃j,n=j+1:=⟨n-1,O⟩
  obtain⟨Q,T,d3⟩:=BB C;obtain⟨R,W⟩:=B.2 k l Q;have o:=m.1;have D:k<=3:=by have:=B.1;omega
  simp only[j5] at K;unfold rQ;rw[bR (show¬(p.length:Int)=(b.length:Int) by omega)];refine b3 (ag (x:=l) (by rw[o];exact bl Q) (ag (M' O R W m) ?_));let f:Int->Int:=λv=>fP cb (p++[v]);have q: ∀v,1<=f v:=λv=>CO _ _;have U:fP (l::cb) p=1+((dV (dW l p) (eL l p)).map f).sum:=rfl;refine ae.loop (λx:Int×Int=>dW l p<=x.2/\(x.2<=eL l p\/x.2=dW l p)/\(1+((dV (dW l p) x.2).map f).sum<=a->x.1=1+((dV (dW l p) x.2).map f).sum)/\(a<1+((dV (dW l p) x.2).map f).sum->a<x.1)/\1<=x.1/\x.1<=a+1)
   (λx=>(a+1-x.1).toNat) ?_ n _ ⟨gR _,.inr rfl,λ_=>by rw[mj (gR _)];rfl,λh=>by rw[mj (gR _)] at h;simp at h;dsimp only;omega,Z,Z⟩ Z
  rintro F ⟨x,v⟩ ⟨A,X,G,H,g,t⟩ V;dsimp only at A X G H g t⊢;refine ae.aP (λz=>z=ai (v<eL l p/\x<=a)) (λj u=>aW (λh=>u _ ?_) λh=>u _ ?_) λz Y=>?_
  ·by_cases d:x<=a
   ·rw[bU d,bU ⟨h,d⟩]
   rw[bR d,bR λh=>d h.2]
  ·rw[bR λE=>h E.1]
  subst Y;refine aW (λ⟨e,d⟩=>?_) λs=>ae.some ?_
  ·have w:x=1+((dV (dW l p) v).map f).sum:=G (by apply Int.not_lt.1;intro h;have:=H h;omega);have i:=CB R W m D ⟨A,e⟩;have e1:wr (a-x)=a-x:=by rw[a6 O]
   rw[e1];refine ag (mQ p O) (ag (dr b6) (ht (NR B cb n (k+1) (p++[v]) (a-x) O T O i O O) λr ⟨tV,wP,amr,ams⟩=>?_));have alr:v<eL l p:=e;have SU: -1000000000<=v/\v<=1000000000:=by
    have h9:=i.2.2 v a7;have nP:=sK i.2.1;simp only[cZ] at h9;omega
   rw[a6 (n:=v+1) O,a6 (n:=x+r) O];have I:1+((dV (dW l p) (v+1)).map f).sum=x+f v:=by rw[uq A,ON,w];omega
   refine V _ ⟨Z,.inl Z,?_,?_,Z,Z⟩ Z
   ·dsimp only;rw[I];intro h
    have:r=f v:=tV (O:f v<=a-x);omega
   dsimp only;rw[I];intro h
   have:a-x<r:=wP (O:a-x<f v);omega
  have c:1+((dV (dW l p) v).map f).sum<=fP (l::cb) p/\(eL l p<=v->1+((dV (dW l p) v).map f).sum=fP (l::cb) p):=by
   rw[U];by_cases h:v<eL l p
   ·refine⟨?_,λE=>O⟩;rw[Bl A h,h7,List.sum_append,hL,List.sum_cons]
    have:=ot f (dV (v+1) (eL l p)) λy _=>q y
    have:=q v;omega
   have:dV (dW l p) v=dV (dW l p) (eL l p):=by
    rcases X with M|M
    ·rw[show v=eL l p by omega]
    subst M;rw[mj (gR _),mj O]
   rw[this];exact⟨gR _,λ_=>rfl⟩
  refine⟨λh=>?_,λh=>?_,g,t⟩
  ·have d:=G O;rw[d];apply c.2;apply Int.not_lt.1;intro e;exact s ⟨e,O⟩
  apply Int.not_le.1;intro d;have e:eL l p<=v:=by apply Int.not_lt.1;intro e;exact s ⟨e,d⟩
  have:=H (by rw[c.2 e];exact h);omega
theorem FN{a:List Loop}(A:Fit a): ∀(cb:List Loop) (n k:Nat) (p:List Int) (out:List (List Int)),5500000+cb.length<=n->a.drop k=cb->k<=a.length->iA k p->fP cb p<=1200->out.length<=120->
  ae (qi n out a p) (λr=>(out.length+(fE cb p).length<=120->r=out++fE cb p)/\(120<out.length+(fE cb p).length->120<r.length))
 | [],n,k,p,out,Q,B,R,o,W,T=>by
  obtain⟨n,rfl⟩: ∃j,n=j+1:=⟨n-1,O⟩
  have U:=Cn B R;have q:=o.1;have C:=A.1;unfold qi;rw[bU (show(p.length:Int)=(a.length:Int) by omega)];refine cf (ag (mQ p O) (ag (dr b6) (ae.some ⟨λ_=>rfl,λh=>by simp[fE] at h ⊢; omega⟩)))
 |l::cb,n,k,p,out,Q,B,R,o,W,T=>by
  obtain⟨n,rfl⟩: ∃j,n=j+1:=⟨n-1,O⟩
  obtain⟨X,V,d3⟩:=BB B;obtain⟨t,u⟩:=A.2 k l X;have q:=o.1;have C:=A.1;have D:k<=3:=O
  simp only[j5] at Q;unfold qi;rw[bR (show¬(p.length:Int)=(a.length:Int) by omega)];refine b3 (ag (x:=l) (by rw[q];exact bl X) (ag (M' O t u o) ?_));let f:Int->Int:=λv=>fP cb (p++[v]);have e: ∀v,1<=f v:=λv=>CO _ _;have Y:fP (l::cb) p=1+((dV (dW l p) (eL l p)).map f).sum:=rfl;let g:Int->List (List Int):=λv=>fE cb (p++[v]);have yU:fE (l::cb) p=(dV (dW l p) (eL l p)).flatMap g:=rfl;have E:dW l p<=eL l p->eL l p-dW l p<=1199:=λF=>by
   have:=ot f (dV (dW l p) (eL l p)) λy _=>e y
   have:=afQ F;omega
  refine ae.loop (λx:List (List Int)×Int=>dW l p<=x.2/\(x.2<=eL l p\/x.2=dW l p)/\(out.length+((dV (dW l p) x.2).flatMap g).length<=120->x.1=out++(dV (dW l p) x.2).flatMap g)/\(120<out.length+((dV (dW l p) x.2).flatMap g).length->120<x.1.length))
   (λx=>(eL l p-x.2).toNat) ?_ n _ ⟨gR _,.inr rfl,λ_=>by rw[mj (gR _)];simp,λh=>by rw[mj (gR _)] at h;simp at h;omega⟩ Z
  rintro G ⟨x,v⟩ ⟨s,I,H,K⟩ b8;dsimp only at s I H K⊢;refine ae.aP (λz=>z=ai (v<eL l p/\x.length<=120)) (λj M=>aW (λh=>M _ ?_) λh=>M _ ?_) λz ep=>?_
  ·by_cases c:x.length<=120
   ·rw[bU (show(x.length:Int)<=120 by omega),bU ⟨h,c⟩]
   rw[bR (show¬(x.length:Int)<=120 by omega),bR λh=>c h.2]
  ·rw[bR λN=>h N.1]
  subst ep;refine aW (λ⟨d,c⟩=>?_) λw=>ae.some ?_
  ·have i:x=out++(dV (dW l p) v).flatMap g:=H (by apply Nat.not_lt.1;intro h;have:=K h;omega);have m:=CB t u o D ⟨s,d⟩;have L:f v<=1200:=by
    rw[Y,Bl s d,h7,List.sum_append,hL,List.sum_cons] at W
    have:=ot f (dV (v+1) (eL l p)) λy _=>e y
    have:=ot f (dV (dW l p) v) λy _=>e y;omega
   refine ag (mQ p O) (ag (dr b6) (ht (FN A cb n (k+1) (p++[v]) x O V O m L c) λr ⟨tV,wP⟩=>?_));have SU: -1000000000<=v/\v<=1000000000:=by
    have h9:=m.2.2 v a7;have nP:=sK m.2.1;simp only[cZ] at h9;omega
   rw[a6 (n:=v+1) O];have P:(dV (dW l p) (v+1)).flatMap g=(dV (dW l p) v).flatMap g++g v:=by rw[uq s,nv];simp
   refine b8 _ ⟨Z,.inl Z,?_,?_⟩ Z
   ·dsimp only;rw[P];intro h;simp only[hn] at h;have cC:x.length=out.length+((dV (dW l p) v).flatMap g).length:=by rw[i,dm]
    rw[tV (O:x.length+(g v).length<=120),i,fF]
   dsimp only;rw[P];intro h;simp only[hn] at h;have cC:x.length=out.length+((dV (dW l p) v).flatMap g).length:=by rw[i,dm]
   exact wP (O:120<x.length+(g v).length)
  have b:((dV (dW l p) v).flatMap g).length<=(fE (l::cb) p).length/\(eL l p<=v->(dV (dW l p) v).flatMap g=fE (l::cb) p):=by
   rw[yU];by_cases h:v<eL l p
   ·refine⟨?_,λN=>O⟩;rw[Bl s h,nv,dm];omega
   have:dV (dW l p) v=dV (dW l p) (eL l p):=by
    rcases I with S|S
    ·rw[show v=eL l p by omega]
    subst S;rw[mj (gR _),mj O]
   rw[this];exact⟨da _,λ_=>rfl⟩
  refine⟨λh=>?_,λh=>?_⟩
  ·have c:=H O;rw[c,b.2];apply Int.not_lt.1;intro d;exact w ⟨d,by rw[c,dm];omega⟩
  apply Nat.not_le.1;intro c;have d:eL l p<=v:=by apply Int.not_lt.1;intro d;exact w ⟨d,c⟩
  have:=K (by rw[b.2 d];exact h);omega
theorem N6{a:List Loop}(A:Fit a): ∀(cb:List Loop) (n k:Nat) (p:List Int) (st:Int) (out:List (List Int)),5500000+cb.length<=n->a.drop k=cb->k<=a.length->iA k p->0<=st->st<=1199->out.length<=120->
  ae (rr n ⟨a,st,out⟩ p) (λr=>(st+fP cb p<=1200/\out.length+(fE cb p).length<=120->r=(ab,⟨a,st+fP cb p-1,out++fE cb p⟩))/\(¬(st+fP cb p<=1200/\out.length+(fE cb p).length<=120)->r.1=ak))
 | [],n,k,p,st,out,R,C,W,i,X,t,m=>by
  obtain⟨n,rfl⟩: ∃j,n=j+1:=⟨n-1,O⟩
  have pY:=Cn C W;have q:=i.1;have D:=A.1;unfold rr;dsimp only;rw[bU (show(p.length:Int)=(a.length:Int) by omega)];have c:jX p=aa p:=by unfold jX;rw[bb O]
  refine cf (ag c (ag (dr b6) (ae.some ⟨λh=>?_,λh=>?_⟩)))
  ·simp only[fP,fE,List.length_singleton] at h⊢;rw[bU b6,show st+1-1=st by omega]
  simp only[fP,fE,List.length_singleton] at h⊢;exact bR b6
 |l::cb,n,k,p,st,out,R,C,W,i,X,t,m=>by
  obtain⟨n,rfl⟩: ∃j,n=j+1:=⟨n-1,O⟩
  obtain⟨u,d2,d3⟩:=BB C;obtain⟨E,I⟩:=A.2 k l u;have q:=i.1;have D:=A.1;have F:k<=3:=O
  simp only[j5] at R;unfold rr;dsimp only;rw[bR (show¬(p.length:Int)=(a.length:Int) by omega)];refine b3 (ag (x:=l) (by rw[q];exact bl u) (ag (acy O E I i) ?_));let f:Int->Int:=λv=>fP cb (p++[v]);have b: ∀v,1<=f v:=λv=>CO _ _;have M:fP (l::cb) p=1+((dV (dW l p) (eL l p)).map f).sum:=rfl;let g:Int->List (List Int):=λv=>fE cb (p++[v]);have N:fE (l::cb) p=(dV (dW l p) (eL l p)).flatMap g:=rfl;refine ae.loop (λx:List Loop×Int×List (List Int)×Int=>x.1=a/\dW l p<=x.2.2.2/\(x.2.2.2<=eL l p\/x.2.2.2=dW l p)/\x.2.1=st+((dV (dW l p) x.2.2.2).map f).sum/\x.2.2.1=out++(dV (dW l p) x.2.2.2).flatMap g/\0<=x.2.1/\x.2.1<=1199/\x.2.2.1.length<=120)
   (λx=>(1200-x.2.1).toNat) ?_ n _ ⟨rfl,gR _,.inr rfl,by dsimp only;rw[mj (gR _)];simp,by dsimp only;rw[mj (gR _)];simp,X,t,m⟩ Z
  rintro G ⟨H,x,o,v⟩ ⟨P,s,S,B,e,i5,i6,T⟩ b8;dsimp only at P s S B e i5 i6 T⊢;subst P;have nU:o.length=out.length+((dV (dW l p) v).flatMap g).length:=by rw[e,dm]
  refine aW (λK=>?_) λK=>ae.some ?_
  ·have d:=CB E I i F ⟨s,K⟩;have L:fP (l::cb) p≥1+((dV (dW l p) v).map f).sum+f v/\(fE (l::cb) p).length≥((dV (dW l p) v).flatMap g).length+(g v).length:=by
    rw[M,N,Bl s K,h7,List.sum_append,hL,List.sum_cons,nv,dm,z',dm]
    have:=ot f (dV (v+1) (eL l p)) λy _=>b y;constructor
    ·omega
    omega
   have SU: -1000000000<=v/\v<=1000000000:=by
    have h9:=d.2.2 v a7;have nP:=sK d.2.1;simp only[cZ] at h9;omega
   have e1:wr (x+1)=x+1:=by rw[a6 O]
   have e2:wr (x+1+1)=x+1+1:=by rw[a6 O]
   have mP:wr (v+1)=v+1:=by rw[a6 O]
   rw[e1,e2,mP];refine ae.aP (λz:List Loop×Int×List (List Int)×Bool=>(z.2.2.2=ak->z.1=H/\x+f v<=1199/\o.length+(g v).length<=120/\z.2.1=x+f v/\z.2.2.1=o++g v)/\(z.2.2.2=ab-> ¬(st+fP (l::cb) p<=1200/\out.length+(fE (l::cb) p).length<=120)))
    (λj Q=>aW (λh=>Q _ ⟨λh'=>(by cases h'),λ_=>?_⟩) λh=>?_) λz ep=>?_
   ·have:=b v;omega
   ·have c:jX p=aa p:=by unfold jX;rw[bb O]
    refine ag c (ag (dr b6) (ht (N6 A cb n (k+1) (p++[v]) (x+1) o O d2 O d O O T) λr ⟨tV,wP⟩=>?_));by_cases c:x+1+f v<=1200/\o.length+(g v).length<=120
    ·rw[tV c];exact Q _ ⟨λ_=>⟨rfl,O,c.2,show x+1+f v-1=x+f v by omega,rfl⟩,λh=>(by cases h)⟩
    have w:=wP c;obtain⟨amt,⟨cL,amu,ro⟩⟩:=r;dsimp only at w⊢;subst w;exact Q _ ⟨λh=>(by cases h),λ_=>O⟩
   obtain⟨Lp,amA,amB,amh⟩:=z;obtain⟨U,V⟩:=ep;dsimp only at U V⊢;cases amh with
   |true=>exact ae.some ⟨λh=>bs h (V rfl),λ_=>rfl⟩
   |false=>
    obtain⟨rfl,Uu,Lf,Uv,Y⟩:=U rfl;refine b8 _ ⟨rfl,Z,.inl Z,?_,?_,by dsimp only;have:=b v;omega,Z,?_⟩ (by dsimp only;have:=b v;omega)
    ·dsimp only;rw[uq s,ON,Uv,B];omega
    ·dsimp only;rw[Y,e,uq s,nv];simp
    dsimp only;rw[Y,dm];exact Lf
  have:dV (dW l p) v=dV (dW l p) (eL l p):=by
   rcases S with m|m
   ·rw[show v=eL l p by omega]
   subst m;rw[mj (gR _),mj O]
  rw[this] at B e nU;rw[<-N] at e nU;refine⟨λh=>?_,λh=>?_⟩
  ·rw[e,B,M,show st+(1+((dV (dW l p) (eL l p)).map f).sum)-1=st+((dV (dW l p) (eL l p)).map f).sum by omega]
  exact bs ⟨O,O⟩ h
def jO(a:List Loop):Option (List (List Int)):=if k7 a=ab/\fP a []<=1200/\(fE a []).length<=120 then aa (fE a []) else none
def sZ:Option (List (List Int))->List (List Int)×Bool
 |none=>([],ak)
 |some l=>(l,ab)
theorem zH:iA 0 []:=⟨rfl,O,λx h=>by cases h⟩
theorem WI(i:6600000<=n)(h:qQ o):EJ n o=aa (sZ (jO o)):=by
 refine ae.eq ?_;unfold EJ;refine ag (WZ O h) ?_;unfold jO;cases c:k7 o with
 |false=>exact ae.some (by simp[sZ])
 |true=>
  have b:=CN c;refine ht (N6 b o n 0 [] 0 [] (by have:=b.1;omega) rfl O zH O O a7) λr ⟨d,e⟩=>?_;by_cases a:(0:Int)+fP o []<=1200/\([]:List (List Int)).length+(fE o []).length<=120
  ·rw[d a,bb ⟨rfl,O,by simpa using a.2⟩];exact ae.some (by simp[sZ])
  rw[e a,a8 λh=>a ⟨O,by simpa using h.2.2⟩];exact ae.some rfl
theorem WE(m:6600000<=n)(h:qQ o):EG n o=aa (sZ (jO o)):=by
 refine ae.eq ?_;unfold EG;refine ae.aP (λz=>z= !(k7 o&&ai (fP o []<=1200))) (λj k=>ag (WO O h) ?_) λz l=>?_
 ·cases b:k7 o with
  |false=>exact k _ (by rw[b];rfl)
  |true=>
   have c:=CN b;refine ht (NR c o n 0 [] 1200 (by have:=c.1;omega) rfl O zH O O) λr ⟨d,e,p,q⟩=>k _ ?_;rw[b,gh];by_cases a:fP o []<=1200
   ·rw[bU a,bR (by rw[d a];omega)];rfl
   rw[bR a,bU (e O)];rfl
 subst l;unfold jO;cases b:k7 o with
 |false=>exact ae.some (by simp[sZ])
 |true=>
  have c:=CN b;by_cases a:fP o []<=1200
  ·rw[bU a];refine ht (FN c o n 0 [] [] (by have:=c.1;omega) rfl O zH a a7) λr ⟨d,e⟩=>?_;by_cases i:(fE o []).length<=120
   ·rw[d (by simpa using i),bb ⟨rfl,a,i⟩];refine aW (λh=>bs h b6) λ_=>ae.some (by simp[sZ])
   have:=e b6;rw[a8 λh=>i h.2.2];exact aW (λ_=>ae.some rfl) λh=>bs h O
  rw[bR a,a8 λh=>a h.2.1];exact ae.some rfl
def ov(s:List UInt8):Bool:=match s with
 | [b]=>decide (65<=b.toNat/\b.toNat<=68)
 |_=>ak
theorem AN(h:s.length≠1):ov s=ak:=by
 match s,h with
 | [],_=>rfl
 | [b],h=>exact bs rfl h
 |_::_::_,_=>rfl
theorem Jq(h:s.length=1): ∃b,s=[b]:=by
 match s,h with
 | [b],_=>exact⟨b,rfl⟩
theorem yA(b:UInt8)(k:Nat)(a:k<256):(b=UInt8.ofNat k)↔b.toNat=k:=by
 constructor
 ·intro h;rw[h];simp;omega
 intro h;rw[<-h];simp
theorem Xt(b:UInt8):Lib.contains [65,66,67,68] [b]=ai (65<=b.toNat/\b.toNat<=68):=by
 have h:(b=65)↔b.toNat=65:=yA b 65 O;have i:(b=66)↔b.toNat=66:=yA b 66 O;have k:(b=67)↔b.toNat=67:=yA b 67 O;have l:(b=68)↔b.toNat=68:=yA b 68 O;by_cases a:b=65
 ·subst a;decide
 by_cases c:b=66
 ·subst c;decide
 by_cases d:b=67
 ·subst d;decide
 by_cases e:b=68
 ·subst e;decide
 rw[h] at a;rw[i] at c;rw[k] at d;rw[l] at e;rw[bR O];rw[<-h] at a;rw[<-i] at c;rw[<-k] at d;rw[<-l] at e;simp[Lib.contains,Lib.index,a,c,d,e]
theorem Mn(n:Nat)(s:List UInt8):xy n s=aa (ov s):=by
 unfold xy;by_cases h:s.length=1
 ·obtain⟨b,rfl⟩:=Jq h;simp only[aP,zs];rw[bb a7,Xt];rfl
 rw[bR (show¬(s.length:Int)=1 by omega),AN h];rfl
theorem NI(b:UInt8):Op.bytesLess [b] [65]=ai (b.toNat<65):=by simp[Op.bytesLess,UInt8.lt_iff_toNat_lt]
theorem M6(b:UInt8):(Op.bytesLess [b] [68]||[b]==[68])=ai (b.toNat<=68):=by
 have e:(b=68)↔b.toNat=68:=yA b 68 O;by_cases h:b=68
 ·subst h;decide
 have c:b.toNat≠68:=λa=>h (e.2 a)
 have:([b]==[(68:UInt8)])=ak:=by simp[h]
 rw[this,Bool.or_false];simp only[Op.bytesLess,Bool.and_false,Bool.or_false,UInt8.lt_iff_toNat_lt]
 grind
def fV(a:cw)(d:Int):Bool:=a.bB.all (λx=>fz x d)&&(ov a.array&&ai (1<=a.bB.length/\a.bB.length<=2))
theorem acF(b:5500000<=n)(c:iE a)(d:Int):zI n a d=aa (!fz a d):=NN b c d
theorem L2(b:5500000<=n){a:cw}(c:ke a.bB)(d:Int):Aj n a d=aa (fV a d):=by
 obtain⟨k,e⟩:=c;unfold Aj;rw[Mn,FG];have bS:=zl (n:=n) (f:=λh=>zI n h d) (p:=λa=> !fz a d) (l:=a.bB) (λx i=>acF b (e x i) d) O O;simp only[aP,bH];rw[bS];unfold fV
 grind
theorem LY(B:5500000<=n){a:cw}(q:ke a.bB)(d:Int):Ae n a d=aa (fV a d):=by
 obtain⟨F,C⟩:=q;refine ae.eq ?_;unfold Ae;refine qo (l:=a.bB) (p:=λ_ a=>fz a d) O O (λk i x r w y=>?_) (λk o=>?_) (λ⟨i,x,r,G⟩=>?_)
 ·have aJ:=(b5.1 r).1;have hm:=C x (bT r);rw[bU (show(i:Int)<(a.bB.length:Int) by omega)];refine cf (ae.aP (λz=>z= !fz x d) (λj m=>ag (bl r) (ag (KR B x hm) ?_)) λz A=>?_)
  ·cases q:de x with
   |false=>exact m _ (by unfold fz;rw[q];rfl)
   |true=>exact ag (Af B hm) (m _ (by unfold fz;rw[q,KE];simp))
  subst A;cases s:fz x d with
  |true=>show ae (k _) _;rw[a6 O];exact w s
  |false=>exact ae.some (y s)
 ·rw[bR (show¬(a.bB.length:Int)<(a.bB.length:Int) by omega)];have e:a.bB.all (λa=>fz a d)=ab:=gD.2 λc D=>by obtain⟨i,aJ⟩:=lb D;exact o i c aJ
  unfold fV;rw[e,gh];refine b3 (ae.aP (λz=>z=(ov a.array&&ai (1<=a.bB.length/\a.bB.length<=2))) (λj m=>?_) λz A=>ae.some A);by_cases h:a.array.length=1
  ·rw[bU (show(a.array.length:Int)=1 by omega)];obtain⟨b,s⟩:=Jq h;rw[s] at m⊢;rw[NI,M6];show ae (bif _ then _ else _) _;simp only[ov] at m⊢
   grind
  rw[bR (show¬(a.array.length:Int)=1 by omega)];exact m _ (by rw[AN h];rfl)
 unfold fV
 grind
def jj(a:aF):Bool:=ai (a.aU.length=0)&&ai (a.const=0)
def kB(a:cw):Bool:=ai (a.array=[])&&ai (a.bB.length=0)
theorem Dn(k:Nat):ai ((k:Int)=0)=ai (k=0):=decide_eq_decide.2 O
theorem Xp(n:Nat)(a:aF):z8 n a=aa (jj a):=by unfold z8 jj;rw[Dn];cases ai (a.aU.length=0)<;>rfl
theorem Zy(n:Nat)(a:aF):xt n a=aa (jj a):=by unfold xt jj;rw[Dn];cases ai (a.aU.length=0)<;>rfl
theorem Xq(n:Nat)(a:cw):tO n a=aa (kB a):=by unfold tO kB;rw[Dn];cases ai (a.array=[])<;>rfl
theorem YJ(n:Nat)(a:cw):w5 n a=aa (kB a):=by unfold w5 kB;rw[Dn];cases ai (a.array=[])<;>rfl
def eP(e:Expr)(d:Int):Bool:=
 if e.kind=2 then ai (e.num=0)&&(kB e.read&&fz e.index d)
 else if e.kind=3 then ai (e.num=0)&&(jj e.index&&fV e.read d)
 else if e.kind=1 then ai (0<=e.num/\e.num<=99)&&(jj e.index&&kB e.read)
 else ai (e.num=0)&&(jj e.index&&kB e.read)
def fJ(k:Int):Int:=if k=1\/k=2\/k=3 then 0 else if k=4\/k=5\/k=6 then 2 else-1
theorem Zz(n:Nat)(k:Int):BS n k=aa (fJ k):=by
 unfold BS fJ;by_cases a:k=1
 ·subst a;rfl
 by_cases b:k=2
 ·subst b;rfl
 by_cases c:k=3
 ·subst c;rfl
 by_cases d:k=4
 ·subst d;rfl
 by_cases e:k=5
 ·subst e;rfl
 by_cases h:k=6
 ·subst h;rfl
 simp[aP,a,b,c,d,e,h]
theorem aaH(a:5500000<=n){e:Expr}(b:iE e.index)(c:ke e.read.bB)(d:Int):Cz n e d=aa (eP e d):=by
 unfold Cz eP;rw[YJ,Zy,KR a _ b,Af a b,LY a c];by_cases cS:e.kind=2
 ·rw[bb cS,bU cS];simp only[aP,bH,cond_true,fz]
  grind
 rw[a8 cS,bR cS];by_cases ez:e.kind=3
 ·rw[bb ez,bU ez];simp only[aP,bH,cond_true,cond_false]
  grind
 rw[a8 ez,bR ez];by_cases ct:e.kind=1
 ·rw[bb ct,bU ct];simp only[aP,bH,cond_true,cond_false]
  grind
 rw[a8 ct,bR ct];simp only[aP,bH,cond_false]
 grind
end
section
def uH:Nat->Expr->Prop
 |0,_=>True
 |L+1,e=>e.bm.length<=1100000/\iE e.index/\ke e.read.bB/\ ∀k∈e.bm,uH L k
def dH:Nat->Expr->Int->Bool
 |0,_,_=>ak
 |L+1,e,d=>decide (fJ e.kind=e.bm.length)&&(eP e d&&e.bm.all λk=>dH L k d)
def dK:Nat->Expr->Int
 |0,_=>1
 |L+1,e=>1+(e.bm.map (dK L)).sum
theorem pa(k:Int):fJ k<=2:=by unfold fJ;split;omega;split<;>omega
theorem Mq(d:Int): ∀(L n:Nat) (e:Expr),5500000+L<=n->L<=1100000->uH L e->rS (n+1) e d (L:Int)=aa (dH L e d)
 |0,n,e,_,_,_=>by unfold rS;rfl
 |L+1,n,e,K,Q,y=>by
  obtain⟨R,A,B,C⟩:=y;unfold rS;refine ae.eq ?_;refine ae.aP (λz=>z= !(ai (fJ e.kind=e.bm.length)&&eP e d)) (λj r=>aW (λh=>O) λh=>ag (Zz n _) (dF (λh=>r _ ?_) λh=>ag (aaH O A B d) (r _ ?_))) λz D=>?_
  ·rw[bR h];rfl
  ·rw[bU h];rfl
  subst D;unfold dH;cases s:(ai (fJ e.kind=e.bm.length)&&eP e d) with
  |false=>exact ae.some (by rw[<-my,s];rfl)
  |true=>
   rw[<-my,s,gh];refine b3 ?_;obtain⟨n,rfl⟩: ∃j,n=j+1:=⟨n-1,O⟩
   have F:wr (((L+1:Nat):Int)-1)=(L:Int):=by rw[a6 O];omega
   rw[F];refine qo (l:=e.bm) (p:=λ_ k=>dH L k d) O O (λa i x b o q=>?_) (λa m=>?_) (λ⟨i,x,b,G⟩=>?_)
   ·have aJ:=(b5.1 b).1;rw[bU (show(i:Int)<(e.bm.length:Int) by omega)];refine cf (ag (bl b) (ag (Mq d L n x O O (C x (bT b))) ?_));cases w:dH L x d with
    |true=>show ae (a _) _;rw[a6 O];exact o w
    |false=>exact ae.some (q w)
   ·rw[bR (show¬(e.bm.length:Int)<(e.bm.length:Int) by omega)];refine ae.some ?_;exact(gD.2 λc H=>by obtain⟨i,aJ⟩:=lb H;exact m i c aJ).symm
   exact(mx.2 ⟨x,bT b,by rw[G];simp⟩).symm
theorem sd: ∀(L:Nat) (e:Expr),1<=dK L e
 |0,_=>gR _
 |L+1,e=>by have:=ot (dK L) e.bm λk _=>sd L k;simp only[dK];omega
theorem CQ{a:Type}(f:a->Int)(M:Int): ∀(l:List a),(∀x∈l,f x<=M)->(l.map f).sum<=l.length*M
 | [],_=>a7
 |x::l,h=>by have c:=CQ f M l λy b=>h y (by simp[b]);have d:=h x a7;simp only[hL,List.sum_cons,j5,Int.natCast_add,Int.add_mul];omega
variable {d c:Int}{n i k:Nat}{s:Stmt}{r:List ch}{x:Part}{a:cw}{p:Prog}{q m:List Int}
theorem hv{L:Nat}{e:Expr}(h:dH (L+1) e d=ab):fJ e.kind=e.bm.length/\eP e d=ab/\ ∀k∈e.bm,dH L k d=ab:=by
 simp only[dH,cx,decide_eq_true_eq,js] at h
 grind
theorem CZ: ∀{L:Nat} {e:Expr} {d:Int},dH L e d=ab->dK L e+1<=2^L
 |0,e,d,h=>by cases h
 |L+1,e,d,h=>by
  obtain⟨c,_,a⟩:=hv h;have i:=CQ (dK L) ((2:Int)^L-1) e.bm λk b=>by have:=CZ (a k b);omega
  have l:=pa e.kind;have m:(e.bm.length:Int)*((2:Int)^L-1)<=2*((2:Int)^L-1):=by
   refine Int.mul_le_mul_of_nonneg_right O ?_
   have:(0:Int)<2^L:=Int.pow_pos O;omega
  simp only[dK];rw[Int.pow_succ];omega
theorem Mr{d:Int}: ∀(L n:Nat) (e:Expr),5500000+L<=n->L<=5->dH L e d=ab->ua (n+1) e (L:Int)=aa (dK L e)
 |0,n,e,_,_,h=>by cases h
 |L+1,n,e,H,r,h=>by
  obtain⟨K,_,o⟩:=hv h;have Q:=pa e.kind;have p: ∀k∈e.bm,dK L k<=40:=λk b=>by
   have R:=CZ (o k b);have W:(2:Int)^L<=40:=by
    match L,r with
    |0,_=>decide
    |1,_=>decide
    |2,_=>decide
    |3,_=>decide
    |4,_=>decide
   omega
  unfold ua;refine ae.eq ?_;obtain⟨n,rfl⟩: ∃j,n=j+1:=⟨n-1,O⟩
  have s:wr (((L+1:Nat):Int)-1)=(L:Int):=by rw[a6 O];omega
  rw[s];refine ae.loop (λx:Int×Int=> ∃i:Nat,x.2=i/\i<=e.bm.length/\x.1=1+((e.bm.take i).map (dK L)).sum) (λx=>e.bm.length-x.2.toNat) ?_ (n+1) _ ⟨0,rfl,O,a7⟩ b6;rintro c ⟨x,k⟩ ⟨i,b,X,l⟩ w;dsimp only at b l⊢;subst b;refine ae.aP (λz=>z=ai (i<e.bm.length)) (λj q=>aW (λh=>q _ ?_) λh=>q _ ?_) λz A=>?_
  ·rw[bU (show(0:Int)<((L+1:Nat):Int) by omega),bU O]
  ·rw[bR O]
  subst A;refine aW (λm=>?_) λB=>ae.some ?_
  ·have a:=bu m;have hm:=bT a;refine ag (bl a) (ag (Mr (d:=d) L n _ O O (o _ hm)) ?_);have hs:=CQ (dK L) 40 (e.bm.take i) λy C=>p y (gP C);have D:=ot (dK L) (e.bm.take i) λy _=>sd L y;have F:=p _ hm;have G:=sd L e.bm[i];have f:((e.bm.take i).length:Int)<=2:=b6
   rw[a6 (n:=x+dK L e.bm[i]) O,a6 O];refine w _ ⟨i+1,Z,O,?_⟩ Z;dsimp only;rw[eE,a,h7,List.sum_append,l];simp;omega
  have:i=e.bm.length:=O
  rw[l,this,dR];rfl
def yx(e:Expr):Bool:=(ai (e.kind=1)||decide (e.num=0))&&((ai (e.kind=2)||jj e.index)&&(ai (e.kind=3)||kB e.read))
theorem Li(d:Int): ∀(L n:Nat) (e:Expr) (c:Int),5500000+L<=n->L<=5->uH L e->0<=c->c<=12->
  ae (p5 (n+1) e d (6-(L:Int)) c) (λr=>r.1=(dH L e d&&ai (c+dK L e<=12))/\(r.1=ab->r.2=c+dK L e))
 |0,n,e,c,N,P,u,S,T=>by
  unfold p5;refine ae.aP (λz=>z=ab) (λj i=>aW (λh=>i _ rfl) λh=>i _ (by decide)) λz m=>?_;subst m;exact ae.some ⟨rfl,λh=>by cases h⟩
 |L+1,n,e,c,N,P,u,S,T=>by
  obtain⟨e1,v,U,E⟩:=u;have V:=sd (L+1) e;unfold p5;have Y:wr (c+1)=c+1:=a6 O;have al1:wr (6-(((L+1:Nat)):Int)+1)=6-(L:Int):=by rw[a6 O];omega
  rw[Y,al1];refine ae.aP (λz=>z=ai (12<c+1)) (λj i=>aW (λh=>i _ (bU h).symm) λh=>i _ ?_) λz m=>?_
  ·rw[bR h,bR O]
  subst m;refine aW (λh=>ae.some ⟨?_,λh=>by cases h⟩) λbS=>?_
  ·rw[bR (show¬c+dK (L+1) e<=12 by omega),kF]
  refine ae.aP (λz=>z= !yx e) (λj i=>?_) λz m=>?_
  ·rw[Xp,Xq];unfold yx at i;simp only[bH];by_cases ct:e.kind=1
   ·have cS: ¬e.kind=2:=O
    have ez: ¬e.kind=3:=O
    rw[bU ct,bR cS,bR ez] at*;simp only[Bool.not_true,Bool.not_false,cond_true,cond_false,Bool.true_or,Bool.true_and,Bool.false_or] at*;cases K:jj e.index with
    |false=>exact i _ (by rw[K];rfl)
    |true=>exact i _ (by rw[K];rfl)
   rw[bR ct] at*;simp only[Bool.not_false,cond_true,Bool.false_or] at*;by_cases o:e.num=0
   ·rw[bU o] at*;simp only[Bool.not_true,cond_false,Bool.true_and] at*;by_cases cS:e.kind=2
    ·have ez: ¬e.kind=3:=O
     rw[bU cS,bR ez] at*;simp only[Bool.not_true,Bool.not_false,cond_true,cond_false,Bool.true_or,Bool.true_and,Bool.false_or] at*;exact i _ rfl
    rw[bR cS] at*;simp only[Bool.not_false,cond_true,Bool.false_or] at*;cases K:jj e.index with
    |false=>exact i _ (by rw[K];rfl)
    |true=>
     by_cases ez:e.kind=3
     ·rw[bU ez] at*;exact i _ (by rw[K];rfl)
     rw[bR ez] at*;exact i _ (by rw[K];rfl)
   rw[bR o] at*;exact i _ rfl
  subst m;cases s:yx e with
  |false=>
   refine ae.some ⟨?_,λh=>by cases h⟩
   have:eP e d=ak:=by
    unfold yx at s;unfold eP;by_cases cS:e.kind=2
    ·have ct: ¬e.kind=1:=O
     have ez: ¬e.kind=3:=O
     rw[bb cS];rw[bU cS,bR ct,bR ez] at s;revert s;cases ai (e.num=0)<;>cases kB e.read<;>simp
    rw[a8 cS];by_cases ez:e.kind=3
    ·have ct: ¬e.kind=1:=O
     rw[bb ez];rw[bR cS,bR ct,bU ez] at s;revert s;cases ai (e.num=0)<;>cases jj e.index<;>simp
    rw[a8 ez];rw[bR cS,bR ez] at s;by_cases ct:e.kind=1
    ·rw[bb ct];rw[bU ct] at s;revert s;cases jj e.index<;>cases kB e.read<;>simp
    rw[a8 ct];rw[bR ct] at s;revert s;cases ai (e.num=0)<;>cases jj e.index<;>cases kB e.read<;>simp
   unfold dH;rw[this];simp
  |true=>
   refine b3 ?_;unfold yx at s;simp only[cx,Bool.or_eq_true,decide_eq_true_eq] at s;obtain⟨zB,I,R⟩:=s;have p: ∀(b:Bool),eP e d=b->fJ e.kind=0-> ∀(z:Bool),z=(b&&ai ((e.bm.length:Int)=0))->z=(dH (L+1) e d&&ai (c+dK (L+1) e<=12))/\(z=ab->c+1=c+dK (L+1) e):=by
    intro b a1 F z m;unfold dH;rw[a1,F];by_cases h:e.bm.length=0
    ·have C:e.bm=[]:=ns h;have G:dK (L+1) e=1:=by simp[dK,C]
     rw[G,bU (O:c+1<=12)];rw[bU (show(e.bm.length:Int)=0 by omega)] at m;rw[m,C];simp
    rw[bR (show¬(e.bm.length:Int)=0 by omega)] at m;rw[m,bR (show¬(0:Int)=(e.bm.length:Int) by omega)];simp
   by_cases ct:e.kind=1
   ·have cS: ¬e.kind=2:=O
    have ez: ¬e.kind=3:=O
    rw[bU ct];have l:eP e d=ai (0<=e.num/\e.num<=99):=by
     unfold eP;rw[a8 cS,a8 ez,bb ct];rcases I with h|h
     ·exact bs h cS
     rcases R with A|A
     ·exact bs A ez
     rw[h,A];simp
    refine cf (ae.aP (λz=>z=(ai (0<=e.num/\e.num<=99)&&ai ((e.bm.length:Int)=0))) (λj i=>ag (d9 n _ _ _) ?_) λz m=>ae.some ?_)
    ·cases y:ai (0<=e.num/\e.num<=99) with
     |true=>exact i _ (by rw[y];rfl)
     |false=>exact i _ (by rw[y];rfl)
    exact p _ l (by unfold fJ;rw[bb (Or.inl ct)]) _ m
   rw[bR ct];refine b3 ?_;have o:e.num=0:=by
    rcases zB with h|h
    ·exact bs h ct
    exact h
   by_cases cS:e.kind=2
   ·have ez: ¬e.kind=3:=O
    rw[bU cS];have l:eP e d=fz e.index d:=by
     unfold eP;rw[bb cS,bU o];rcases R with A|A
     ·exact bs A ez
     rw[A];simp
    refine cf (ae.aP (λz=>z=(fz e.index d&&ai ((e.bm.length:Int)=0))) (λj i=>ag (Lq O _ v) ?_) λz m=>ae.some ?_)
    ·unfold fz at i;cases y:de e.index with
     |false=>exact i _ (by rw[y];rfl)
     |true=>
      refine ag (AR O v) (aW (λh=>i _ ?_) λh=>i _ ?_)
      ·rw[y,bU h];rfl
      rw[y,bR h];rfl
    exact p _ l (by unfold fJ;rw[bb (Or.inr (Or.inl cS))]) _ m
   rw[bR cS];refine b3 ?_;have B:jj e.index=ab:=by
    rcases I with h|h
    ·exact bs h cS
    exact h
   by_cases ez:e.kind=3
   ·rw[bU ez];have l:eP e d=fV e.read d:=by
     unfold eP;rw[a8 cS,bb ez,bU o,B];simp
    refine cf (ae.aP (λz=>z=(fV e.read d&&ai ((e.bm.length:Int)=0))) (λj i=>ag (L2 O U d) ?_) λz m=>ae.some ?_)
    ·cases y:fV e.read d with
     |false=>exact i _ (by rw[y];rfl)
     |true=>exact i _ (by rw[y];rfl)
    exact p _ l (by unfold fJ;rw[bb (Or.inr (Or.inr ez))]) _ m
   rw[bR ez];refine b3 ?_;have l:eP e d=ab:=by
    unfold eP;rw[a8 cS,a8 ez,a8 ct,bU o,B];rcases R with A|A
    ·exact bs A ez
    rw[A];rfl
   have W:sw n e.kind=aa (ai (4<=e.kind/\e.kind<=6)):=by unfold sw;rw[d9];rfl
   have H:(fJ e.kind=2↔(4<=e.kind/\e.kind<=6))/\(fJ e.kind=2\/fJ e.kind= -1):=by
    unfold fJ;rw[a8 O];split<;>omega
   refine ae.aP (λz=>z= !(ai (4<=e.kind/\e.kind<=6)&&ai ((e.bm.length:Int)=2))) (λj i=>ag W ?_) λz m=>?_
   ·cases y:ai (4<=e.kind/\e.kind<=6) with
    |false=>exact i _ (by rw[y];rfl)
    |true=>exact i _ (by rw[y];rfl)
   subst m;by_cases F:(4<=e.kind/\e.kind<=6)/\(e.bm.length:Int)=2
   ·rw[bU F.1,bU F.2];refine b3 ?_;obtain⟨a,b,w⟩: ∃a b,e.bm=[a,b]:=by
     have:e.bm.length=2:=O
     match hq:e.bm,this with
     | [a,b],_=>exact⟨a,b,rfl⟩
    have X:dH (L+1) e d=(dH L a d&&dH L b d):=by
     show(ai (fJ e.kind=e.bm.length)&&(eP e d&&e.bm.all λk=>dH L k d))=_;rw[l,w,bU (show fJ e.kind=(([a,b]:List Expr).length:Int) by rw[H.1.2 F.1];rfl)];simp
    have G:dK (L+1) e=1+(dK L a+dK L b):=by simp[dK,w]
    have amj:=sd L a;have amk:=sd L b;rw[X,G];obtain⟨n,rfl⟩: ∃j,n=j+1:=⟨n-1,O⟩
    refine ae.aP (λz:Int×Bool=>z.2=(dH L a d&&dH L b d&&ai (c+(1+(dK L a+dK L b))<=12))/\(z.2=ab->z.1=c+(1+(dK L a+dK L b)))) (λj i=>?_) λz m=>ae.some m;refine ag (x:=a) (by rw[w];rfl) (ht (Li d L n a (c+1) O O (E a (by rw[w];simp)) O O) λr ⟨D,f⟩=>?_);cases t:r.1 with
    |false=>
     refine i _ ⟨?_,λh=>by cases h⟩;rw[t] at D;show ak=_;by_cases Q:dH L a d=ab
     ·rw[Q,gh] at D
      have:=of_decide_eq_false D.symm;rw[bR (show¬c+(1+(dK L a+dK L b))<=12 by omega),kF]
     rw[Bool.eq_false_iff.2 Q];rfl
    |true=>
     have f:=f t;rw[t] at D;have D:=D.symm;rw[qq,decide_eq_true_eq] at D;refine ag (x:=b) (by rw[w];rfl) ?_;rw[f];refine ht (Li d L n b (c+1+dK L a) O O (E b (by rw[w];simp)) O O) λq ⟨pb,q2⟩=>i _ ⟨?_,λh=>?_⟩
     ·show q.1=_;rw[pb,D.1,gh];congr 1;exact decide_eq_decide.2 O
     show q.2=_;rw[q2 h];omega
   have iI:dH (L+1) e d=ak:=by
    unfold dH;rw[bR (show¬fJ e.kind=(e.bm.length:Int) by
     intro h;rcases H.2 with M|M
     ·exact F ⟨H.1.1 M,O⟩
     omega)]
    rfl
   have:(ai (4<=e.kind/\e.kind<=6)&&ai ((e.bm.length:Int)=2))=ak:=by
    by_cases g:4<=e.kind/\e.kind<=6
    ·rw[bR (show¬(e.bm.length:Int)=2 from λh=>F ⟨g,h⟩),kF]
    rw[bR g];rfl
   rw[this,iI];exact ae.some ⟨rfl,λh=>by cases h⟩
def eT(s:Stmt)(d:Int):Bool:=ai (0<=d/\d<=4)&&(fV s.write d&&(dH 5 s.value d&&ai (dK 5 s.value<=12)))
def Bi(s:Stmt):Prop:=ke s.write.bB/\uH 5 s.value
theorem WY(l:6600000<=n)(h:Bi s)(d:Int):Fs n s d=aa (eT s d):=by
 obtain⟨n,rfl⟩: ∃j,n=j+1:=⟨n-1,O⟩
 refine ae.eq ?_;unfold Fs;generalize a:eT s d=T;unfold eT at a;refine ae.aP (λz:Int×Bool=>z.2=T) (λj b=>ag (d9 _ _ _ _) ?_) λz i=>ae.some i;cases c:ai (0<=d/\d<=4) with
 |false=>exact b (0,ak) (by rw[<-a,c];rfl)
 |true=>
  refine cf (ag (L2 O h.1 d) ?_);cases e:fV s.write d with
  |false=>exact b (0,ak) (by rw[<-a,c,e];rfl)
  |true=>
   refine cf (ht (Li d 5 n s.value 0 O O h.2 O O) λr ⟨k,m⟩=>b _ ?_);rw[<-a,c,e];show r.1=_;rw[k];simp
theorem LI(m:6600000<=n)(h:Bi s)(d:Int):zY n s d=aa (eT s d):=by
 obtain⟨n,rfl⟩: ∃j,n=j+1:=⟨n-1,O⟩
 refine ae.eq ?_;unfold zY;generalize k:eT s d=T;generalize a:(ai (0<=d/\d<=4)&&(fV s.write d&&dH 5 s.value d))=B;have b:T=(B&&ai (dK 5 s.value<=12)):=by rw[<-k,<-a];unfold eT;simp only[Bool.and_assoc]
 refine ae.aP (λz=>z= !B) (λj c=>aW (λh=>c _ ?_) λo=>aW (λh=>c _ ?_) λp=>ag (LY O h.1 d) ?_) λz l=>?_
 ·rw[<-a,bR (show¬(0<=d/\d<=4) by omega)];rfl
 ·rw[<-a,bR (show¬(0<=d/\d<=4) by omega)];rfl
 ·rw[bU (O:0<=d/\d<=4)] at a;cases i:fV s.write d with
  |false=>exact cf (c _ (by rw[<-a,i];rfl))
  |true=>exact b3 (ag (Mq d 5 n s.value O O h.2) (c _ (by rw[<-a,i];rfl)))
 subst l;cases e:B with
 |false=>exact ae.some (by rw[b,e];rfl)
 |true=>
  rw[e] at a;simp only[cx] at a;refine b3 (ag (Mr (d:=d) 5 n s.value O O a.2.2) (ae.some ?_));rw[b,e];rfl
def jW(a:List Int):Bool:=ai (1<=a.length/\a.length<=2)&&a.all λd=>decide (1<=d/\d<=6)
def sE(a:List ch)(i:Nat)(x:ch):Bool:=match i with
 |0=>ab
 |i+1=>match a[i]? with
  |some y=>Op.bytesLess y.name x.name
  |none=>ak
def mJ(a:List ch)(i:Nat)(x:ch):Bool:=ov x.name&&(sE a i x&&jW x.b7)
def jf(a:List ch):Bool:=u1 (mJ a) a&&ai (a.length<=4)
def Ga(a:List ch):Prop:=a.length<=1100000/\ ∀x∈a,x.b7.length<=1100000
theorem MJ{x y:ch}(h:r[i]? =aa y):sE r (i+1) x=Op.bytesLess y.name x.name:=by simp only[sE,h]
theorem aed(a:List Int):(a.any λd=> !decide (1<=d/\d<=6))= !(a.all λd=>decide (1<=d/\d<=6)):=by grind
theorem Xr(W:6600000<=n){w:List ch}(h:Ga w):AS n w=aa (jf w):=by
 obtain⟨X,H⟩:=h;refine ae.eq ?_;unfold AS;refine qo (l:=w) (p:=mJ w) O O (λa i x k q s=>?_) (λa m=>?_) (λ⟨i,x,k,y⟩=>?_)
 ·have aJ:=(b5.1 k).1;have hm:=H x (bT k);rw[bU (show(i:Int)<(w.length:Int) by omega)];have K:oS n x.b7 (λA=>rv n A)=aa (!(x.b7.all λd=>decide (1<=d/\d<=6))):=by
   rw[<-aed];exact EM (λd _=>by unfold rv;rw[d9];rfl) O O
  refine cf (ag (bl k) (ae.aP (λz=>z= !mJ w i x) (λj c=>ag (Mn n _) ?_) λz L=>?_))
  ·unfold mJ jW at c;cases B:ov x.name with
   |false=>exact cf (c _ (by rw[B];rfl))
   |true=>
    rw[B] at c;refine b3 ?_;rw[FG];have b:sE w i x=ab->ae (bH (aa (ai (1<=x.b7.length/\x.b7.length<=2))) λQ=>bif !Q then j ab else bH (oS n x.b7 λA=>rv n A) λR=>j R) (λr=>r=jf w):=by
     intro y;rw[y] at c;show ae (bif _ then _ else _) _;cases C:ai (1<=x.b7.length/\x.b7.length<=2) with
     |false=>exact cf (c _ (by rw[C];rfl))
     |true=>exact b3 (ag K (c _ (by rw[C];rfl)))
    cases i with
    |zero=>exact aW (λh=>bs h (by decide)) (λ_=>b rfl)
    |succ i=>
     have D:=bu (O:i<w.length);have e:wr (((i+1:Nat):Int)-1)=(i:Int):=by rw[a6 O];omega
     rw[e];refine aW (λ_=>ag (bl D) ?_) λh=>bs (show(0:Int)<((i+1:Nat):Int) by omega) h;have o:=MJ (x:=x) D;cases F:Op.bytesLess w[i].name x.name with
     |false=>exact cf (c _ (by rw[o,F];rfl))
     |true=>exact b3 (b (by rw[o,F]))
  subst L;cases G:mJ w i x with
  |true=>show ae (a _) _;rw[a6 O];exact q G
  |false=>exact ae.some (s G)
 ·rw[bR (show¬(w.length:Int)<(w.length:Int) by omega)];refine ae.some ?_;unfold jf;rw[Fm m,gh]
  grind
 unfold jf;rw[EI k y];rfl
theorem ad7(s:List UInt8):(!Op.bytesLess s [68]&& !s==[68])= !(Op.bytesLess s [68]||s==[68]):=by grind
theorem Xe(Y:6600000<=n){a:List ch}(h:Ga a):AA n a=aa (jf a):=by
 obtain⟨h0,u⟩:=h;refine ae.eq ?_;unfold AA;refine qo (l:=a) (p:=mJ a) O O (λq i x w H A=>?_) (λq B=>?_) (λ⟨i,x,w,v⟩=>?_)
 ·have aJ:=(b5.1 w).1;have hm:=u x (bT w);rw[bU (show(i:Int)<(a.length:Int) by omega)];refine cf (ag (bl w) (ae.aP (λz=>z= !(ov x.name&&(sE a i x&&ai (1<=x.b7.length/\x.b7.length<=2)))) (λj m=>?_) λz K=>?_))
  ·refine dF (λE=>m _ ?_) λE=>?_
   ·rw[AN O];rfl
   obtain⟨b,o⟩:=Jq (O:x.name.length=1);rw[ad7];have L: ∀(y:ch),Op.bytesLess y.name x.name=Op.bytesLess y.name [b]:=λy=>by rw[o]
   have Q:ov x.name=ai (65<=b.toNat/\b.toNat<=68):=by rw[o];rfl
   have I:Op.bytesLess x.name [65]=ai (b.toNat<65):=by rw[o];exact NI b
   have M:(Op.bytesLess x.name [68]||x.name==[68])=ai (b.toNat<=68):=by rw[o];exact M6 b
   rw[I,M];rw[Q] at m;refine aW (λN=>m _ ?_) λN=>dF (λP=>m _ ?_) λP=>?_
   ·rw[bR (show¬(65<=b.toNat/\b.toNat<=68) by omega)];rfl
   ·rw[bR (show¬(65<=b.toNat/\b.toNat<=68) by omega)];rfl
   rw[bU (O:65<=b.toNat/\b.toNat<=68)] at m;have c:sE a i x=ab->ae (bif ai ((x.b7.length:Int)<1) then j ab else j (ai ((2:Int)<(x.b7.length:Int)))) (λr=>r=jf a):=by
    grind
   cases i with
   |zero=>exact aW (λh=>bs h (by decide)) (λ_=>c rfl)
   |succ i=>
    have X:=bu (O:i<a.length);have e:wr (((i+1:Nat):Int)-1)=(i:Int):=by rw[a6 O];omega
    rw[e];refine aW (λ_=>ag (bl X) ?_) λh=>bs (show(0:Int)<((i+1:Nat):Int) by omega) h;have C:=MJ (x:=x) X;cases f:Op.bytesLess a[i].name x.name with
    |false=>exact cf (m _ (by rw[C,f];rfl))
    |true=>exact b3 (c (by rw[C,f]))
  subst K;cases o:(ov x.name&&(sE a i x&&ai (1<=x.b7.length/\x.b7.length<=2))) with
  |false=>
   refine ae.some (A ?_);unfold mJ jW;rw[<-my,<-my];rw[<-my] at o;rw[o];rfl
  |true=>
   have D:mJ a i x=x.b7.all (λd=>decide (1<=d/\d<=6)):=by
    unfold mJ jW;rw[<-my,<-my];rw[<-my] at o;rw[o];rfl
   refine b3 ?_;refine ae.loop (λy:Int=> ∃k:Nat,y=k/\k<=x.b7.length/\ ∀(t:Nat) d,t<k->x.b7[t]? =aa d->decide (1<=d/\d<=6)=ab) (λy=>x.b7.length-y.toNat) ?_ n _ ⟨0,rfl,O,λt d h=>O⟩ b6;rintro G y ⟨k,rfl,hk,g⟩ S;refine aW (λT=>?_) λU=>?_
   ·have cO:=bu (O:k<x.b7.length);have V:wr ((k:Int)+1)=((k+1:Nat):Int):=by rw[a6 O];omega
    refine ae.aP (λz=>z= !decide (1<=x.b7[k]/\x.b7[k]<=6)) (λj m=>ag (bl cO) (aW (λh=>m _ ?_) λh=>m _ ?_)) λz K=>?_
    ·rw[bR O];rfl
    ·by_cases h6:x.b7[k]<=6
     ·rw[bR (show¬(6:Int)<x.b7[k] by omega),bU (O:1<=x.b7[k]/\x.b7[k]<=6)];rfl
     rw[bU (show(6:Int)<x.b7[k] by omega),bR (show¬(1<=x.b7[k]/\x.b7[k]<=6) by omega)];rfl
    subst K;cases F:ai (1<=x.b7[k]/\x.b7[k]<=6) with
    |false=>
     refine ae.some (A ?_);rw[D];exact mx.2 ⟨_,bT cO,by rw[F];simp⟩
    |true=>
     rw[V];refine S _ ⟨k+1,rfl,O,λt d R s=>?_⟩ O;by_cases W:t=k
     ·subst W;rw[cO] at s;cases s;exact F
     exact g t d O s
   have e:wr ((i:Int)+1)=(i:Int)+1:=a6 O;rw[e];refine H ?_;rw[D];refine gD.2 λd cO=>?_;obtain⟨t,R⟩:=lb cO
   have:=(b5.1 R).1;exact g t d O R
 ·rw[bR (show¬(a.length:Int)<(a.length:Int) by omega)];refine ae.some ?_;unfold jf;rw[Fm B,gh]
  grind
 unfold jf;rw[EI w v];rfl
def hJ:List Int->Int
 | []=>1
 |d::a=>d*hJ a
theorem IY{d:List Int}(h:jW d=ab):(∃a,d=[a]/\1<=a/\a<=6)\/ ∃a b,d=[a,b]/\(1<=a/\a<=6)/\1<=b/\b<=6:=by
 simp only[jW,cx,decide_eq_true_eq,js] at h;obtain⟨⟨e,i⟩,c⟩:=h
 match d,e,i,c with
 | [a],_,_,c=>exact .inl ⟨a,rfl,c a a7⟩
 | [a,b],_,_,c=>exact .inr ⟨a,b,rfl,c a a7,c b a7⟩
theorem L'{a b:Int}(c:1<=a/\a<=6)(d:1<=b/\b<=6):1<=a*b/\a*b<=36:=by
 constructor
 ·have:=rZ c.1 d.1 O O;omega
 have:=rZ c.2 d.2 O O;omega
theorem sM{d:List Int}(h:jW d=ab):1<=hJ d/\hJ d<=36:=by
 rcases IY h with ⟨a,rfl,c⟩|⟨a,b,rfl,c,e⟩
 ·simp[hJ];omega
 have:=L' c e;simp[hJ];omega
theorem FO(l:6600000<=n){x:ch}(h:jW x.b7=ab):xN n x=aa (hJ x.b7):=by
 obtain⟨n,rfl⟩: ∃j,n=j+3:=⟨n-3,O⟩
 unfold xN;rcases IY h with ⟨a,e,d⟩|⟨a,b,e,d,i⟩
 ·rw[e];have c:wr a=a:=a6 O;simp[bk,aD,hJ,c,show wr 1=1 from a6 O]
 rw[e]
 have:=L' d i;have c:wr a=a:=a6 O;have k:wr (a*b)=a*b:=a6 O;simp[bk,aD,hJ,c,k,show wr 1=1 from a6 O,show wr 2=2 from a6 O]
theorem acz(a:6600000<=n){x:ch}(h:jW x.b7=ab):EL n x=aa (hJ x.b7):=FO a h
def ib:List aF->List Int->List Int->Int->Int
 |s::b,d::c,p,a=>if 0<=gm s p/\gm s p<d then ib b c p (a*d+gm s p) else-1
 |_,_,_,a=>a
def eU:List ch->cw->List Int->Int->Int
 | [],_,_,_=> -1
 |x::c,a,p,b=>if x.name=a.array then(if a.bB.length=x.b7.length then(if ib a.bB x.b7 p 0<0 then-1 else b+ib a.bB x.b7 p 0) else-1) else eU c a p (b+hJ x.b7)
def lH(a:List ch):Prop:= ∀x∈a,jW x.b7=ab
theorem U4{d:List Int}(e:jW d=ab){l:List aF}(c:l.length=d.length)(p:List Int):ib l d p 0= -1\/(0<=ib l d p 0/\ib l d p 0<hJ d):=by
 rcases IY e with ⟨a,rfl,h⟩|⟨a,b,rfl,h,k⟩
 ·match l,c with
  | [s],_=>
   simp only[ib,hJ,Int.zero_mul,Int.zero_add,Int.mul_one];split<;>omega
 match l,c with
 | [s,t],_=>
  simp only[ib,hJ,Int.zero_mul,Int.zero_add,Int.mul_one];split
  ·rename_i i;split
   ·rename_i m;refine .inr ⟨?_,?_⟩
    ·have:=pn i.1 (O:0<=b);omega
    have:=Int.mul_le_mul_of_nonneg_right (O:gm s p<=a-1) (O:0<=b);rw[Int.sub_mul] at this;omega
   exact .inl rfl
  exact .inl rfl
def ha(a:List ch):Int:=(a.map λx=>hJ x.b7).sum
theorem Qw: ∀{xs:List ch},lH xs-> ∀(a:cw) (p:List Int) (b:Int),0<=b->eU xs a p b= -1\/(b<=eU xs a p b/\eU xs a p b<b+ha xs)
 | [],_,a,p,b,_=> .inl rfl
 |x::xs,i,a,p,b,m=>by
  have k:=i x a7;have hs:=sM k;have c:lH xs:=λy d=>i y (by simp[d]);have n:0<=ha xs:=by
   have:=ot (λx:ch=>hJ x.b7) xs λy d=>(sM (c y d)).1;unfold ha;omega
  have e:ha (x::xs)=hJ x.b7+ha xs:=by simp[ha]
  rw[e];simp only[eU];split
  ·split
   ·rename_i l;rcases U4 k l p with h|h
    ·rw[bb O];exact .inl rfl
    rw[a8 O];exact .inr ⟨O,O⟩
   exact .inl rfl
  rcases Qw c a p (b+hJ x.b7) O with h|h
  ·exact .inl h
  exact .inr ⟨O,O⟩
theorem lU(h:fV a d=ab):1<=a.bB.length/\a.bB.length<=2/\ ∀x∈a.bB,de x=ab:=by
 simp only[fV,cx,decide_eq_true_eq,js] at h;refine⟨h.2.2.1,h.2.2.2,λx b=>?_⟩
 have:=h.1 x b;simp only[fz,cx] at this
 grind
theorem lE{a:Type}{l:List a}{x:a}(h:l[i]? =aa x):l.drop i=x::l.drop (i+1):=by obtain⟨b,c⟩:=b5.1 h;rw[jJ b,c]
theorem Pu{a v:Int}(b:0<=a/\a<=36)(c:1<=d/\d<=6)(e:0<=v/\v<d):0<=a*d/\a*d<=216/\0<=a*d+v:=by have h:=pn b.1 (O:0<=d);have i:=rZ b.2 c.2 O O;omega
theorem adN(E:6600000<=n)(I:a.bB.length<=2)(W: ∀x∈a.bB,de x=ab){e:List Int}(X:jW e=ab)(M:a.bB.length=e.length){p:List Int}(f:iA k p)(b:Int)(N:0<=b/\b<=500000000):
  bk (λc ((Q,A):Int×Int)=>bif ai (A<(a.bB.length:Int)) then(bH (aD a.bB A) λg=>bH (oT n g p) λo=>bH (aD e A) λq=>bH (fy n o 0 (wr (q-1))) λB=>bif !B then(aa (-1)) else(c (wr ((wr (Q*q))+o),wr (A+1)))) else(aa (wr (b+Q)))) n (0,0)
   =aa (if ib a.bB e p 0<0 then-1 else b+ib a.bB e p 0):=by
 have C: ∀d∈e,1<=d/\d<=6:=by
  simp only[jW,cx,decide_eq_true_eq,js] at X
  grind
 refine ae.eq ?_;refine ae.loop (λx:Int×Int=> ∃i:Nat,x.2=i/\i<=a.bB.length/\0<=x.1/\x.1<=36*i/\(i=0->x.1=0)/\(i=1->x.1<=5)/\ib a.bB e p 0=ib (a.bB.drop i) (e.drop i) p x.1) (λx=>a.bB.length-x.2.toNat) ?_ n _ ⟨0,rfl,O,a7,a7,λ_=>rfl,λh=>O,rfl⟩ b6;rintro D ⟨x,z⟩ ⟨i,R,P,F,G,r,s,l⟩ j;dsimp only at R F G r s l⊢;subst R;refine aW (λt=>?_) λu=>ae.some ?_
 ·have hs:=bu (O:i<a.bB.length);have m:=bu (O:i<e.length);have w:=C _ (bT m);have v:wr (e[i]-1)=e[i]-1:=a6 O;rw[lE hs,lE m] at l;simp only[ib] at l;refine ag (bl hs) (ag (yC O (W _ (bT hs)) f) (ag (bl m) (ag (d9 _ _ _ _) ?_)));rw[v];by_cases H:0<=gm a.bB[i] p/\gm a.bB[i] p<e[i]
  ·rw[bb H] at l;rw[bU (O:0<=gm a.bB[i] p/\gm a.bB[i] p<=e[i]-1)];obtain⟨S,T,U⟩:=Pu (a:=x) O w H;refine b3 ?_;rw[a6 (n:=x*e[i]) O,a6 (n:=x*e[i]+gm a.bB[i] p) O,a6 O];have y:i=0\/i=1:=O
   refine j _ ⟨i+1,Z,O,Z,?_,λh=>O,λh=>?_,l⟩ Z
   ·dsimp only;rcases y with rfl|rfl
    ·rw[r rfl];omega
    have:=s rfl
    have:=rZ this w.2 O O;omega
   dsimp only
   grind
  rw[a8 H] at l;rw[bR (show¬(0<=gm a.bB[i] p/\gm a.bB[i] p<=e[i]-1) by omega)];refine cf (ae.some ?_)
  grind
 have K:i=a.bB.length:=O
 have L:ib (a.bB.drop i) (e.drop i) p x=x:=by
  rw[K,qs];unfold ib;rfl
 rw[L] at l;rw[l,a8 O,a6 O]
theorem acT(P:6600000<=n)(S:1<=a.bB.length)(T:a.bB.length<=2)(t: ∀x∈a.bB,de x=ab){b:List Int}(u:jW b=ab){p:List Int}(v:iA k p)(c:Int)(U:0<=c/\c<=500000000):
  bk (λe ((X,r):Int×Int)=>bif ai (r<(a.bB.length:Int)) then(bif !decide ((a.bB.length:Int)=(b.length:Int)) then(aa (-1)) else(bH (aD a.bB r) λE=>bH (o9 n E p) λq=>aP (fun(D:Bool)=>bif D then(aa (-1)) else(bH (aD b r) λF=>e (wr ((wr (X*F))+q),wr (r+1)))) λs=>bif ai (q<0) then(s ab) else(bH (aD b r) λG=>s (ai (G<=q))))) else(aa (wr (c+X)))) n (0,0)
   =aa (if a.bB.length=b.length then(if ib a.bB b p 0<0 then-1 else c+ib a.bB b p 0) else-1):=by
 by_cases f:a.bB.length=b.length
 ·rw[bb f];rw[bU (show(a.bB.length:Int)=(b.length:Int) by omega)];have H: ∀d∈b,1<=d/\d<=6:=by
   simp only[jW,cx,decide_eq_true_eq,js] at u
   grind
  refine ae.eq ?_;refine ae.loop (λx:Int×Int=> ∃i:Nat,x.2=i/\i<=a.bB.length/\0<=x.1/\x.1<=36*i/\(i=0->x.1=0)/\(i=1->x.1<=5)/\ib a.bB b p 0=ib (a.bB.drop i) (b.drop i) p x.1) (λx=>a.bB.length-x.2.toNat) ?_ n _ ⟨0,rfl,O,a7,a7,λ_=>rfl,λh=>O,rfl⟩ b6;rintro K ⟨x,z⟩ ⟨i,C,V,L,Q,w,y,m⟩ I;dsimp only at C L Q w y m⊢;subst C;refine aW (λM=>?_) λN=>ae.some ?_
  ·have hs:=bu (O:i<a.bB.length);have l:=bu (O:i<b.length);have A:=H _ (bT l);rw[lE hs,lE l] at m;simp only[ib] at m;refine b3 (ag (bl hs) (ag (yz O (t _ (bT hs)) v) (ae.aP (λz=>z= !decide (0<=gm a.bB[i] p/\gm a.bB[i] p<b[i])) (λj g=>aW (λh=>g _ ?_) λh=>ag (bl l) (g _ ?_)) λz C=>?_)))
   ·rw[bR O];rfl
   ·by_cases o:b[i]<=gm a.bB[i] p
    ·rw[bU o,bR O];rfl
    rw[bR o,bU O];rfl
   subst C;by_cases o:0<=gm a.bB[i] p/\gm a.bB[i] p<b[i]
   ·rw[bb o] at m;rw[bU o];obtain⟨Y,g2,g3⟩:=Pu (a:=x) O A o;refine b3 (ag (bl l) ?_);rw[a6 (n:=x*b[i]) O,a6 (n:=x*b[i]+gm a.bB[i] p) O,a6 O];have B:i=0\/i=1:=O
    refine I _ ⟨i+1,Z,O,Z,?_,λh=>O,λh=>?_,m⟩ Z
    ·dsimp only;rcases B with rfl|rfl
     ·rw[w rfl];omega
     have:=y rfl
     have:=rZ this A.2 O O;omega
    dsimp only
    grind
   rw[a8 o] at m;rw[bR o];refine cf (ae.some ?_)
   grind
  have R:i=a.bB.length:=O
  have W:ib (a.bB.drop i) (b.drop i) p x=x:=by
   rw[R,qs];unfold ib;rfl
  rw[W] at m;rw[m,a8 O,a6 O]
 rw[a8 f,bR (show¬(a.bB.length:Int)=(b.length:Int) by omega)];obtain⟨n,rfl⟩: ∃j,n=j+1:=⟨n-1,O⟩
 simp only[bk]
 grind
theorem Bw(w:6600000<=n)(L:p.bc.length<=4)(A:lH p.bc)(B:fV a d=ab)(C:iA k q):tx n p a q=aa (eU p.bc a q 0):=by
 obtain⟨a0,aL,a2⟩:=lU B;refine ae.eq ?_;unfold tx;refine ae.loop (λx:Int×Int=> ∃i:Nat,x.2=i/\i<=p.bc.length/\0<=x.1/\x.1<=36*i/\eU p.bc a q 0=eU (p.bc.drop i) a q x.1) (λx=>p.bc.length-x.2.toNat) ?_ n _ ⟨0,rfl,O,a7,a7,rfl⟩ b6;rintro l ⟨x,z⟩ ⟨i,y,Q,m,o,b⟩ D;dsimp only at y m o b⊢;subst y;refine aW (λF=>?_) λG=>ae.some ?_
 ·have r:=bu (O:i<p.bc.length);have e:=A _ (bT r);have lA:=sM e;rw[lE r] at b;simp only[eU] at b;refine ag (bl r) (dF (λh=>?_) λH=>?_)
  ·rw[a8 h] at b;refine ag (acz w e) ?_;rw[a6 (n:=x+hJ p.bc[i].b7) O,a6 O];exact D _ ⟨i+1,Z,O,Z,Z,b⟩ Z
  rw[bb H] at b;refine dF (λh=>ae.some ?_) λK=>?_
  ·rw[b,a8 O]
  have c:a.bB.length=p.bc[i].b7.length:=O
  rw[bb c] at b;exact ae.of (adN w aL a2 e c C x O) b.symm
 have s:i=p.bc.length:=O
 rw[b,s,qs];rfl
theorem NU(s:6600000<=n)(H:r.length<=4)(y:lH r)(A:fV a d=ab)(B:iA k q):xO n r a q=aa (eU r a q 0):=by
 obtain⟨a0,aL,a2⟩:=lU A;refine ae.eq ?_;unfold xO;refine ae.loop (λx:Int×Int=> ∃i:Nat,x.2=i/\i<=r.length/\0<=x.1/\x.1<=36*i/\eU r a q 0=eU (r.drop i) a q x.1) (λx=>r.length-x.2.toNat) ?_ n _ ⟨0,rfl,O,a7,a7,rfl⟩ b6;rintro e ⟨x,z⟩ ⟨i,w,K,h,l,b⟩ C;dsimp only at w h l b⊢;subst w;refine aW (λD=>?_) λF=>ae.some ?_
 ·have m:=bu (O:i<r.length);have c:=y _ (bT m);have lA:=sM c;rw[lE m] at b;simp only[eU] at b;refine ag (bl m) (dF (λo=>?_) λG=>?_)
  ·rw[a8 o] at b;refine ag (FO s c) ?_;rw[a6 (n:=x+hJ r[i].b7) O,a6 O];exact C _ ⟨i+1,Z,O,Z,Z,b⟩ Z
  rw[bb G] at b;exact ae.of (acT s a0 aL a2 c B x O) b.symm
 have p:i=r.length:=O
 rw[b,p,qs];rfl
def eo:Nat->Expr->List cw
 |0,_=>[]
 |L+1,e=>(if e.kind=3 then [e.read] else [])++e.bm.flatMap (eo L)
theorem G3{d:Int}: ∀{L:Nat} {e:Expr},dH L e d=ab-> ∀a∈eo L e,fV a d=ab
 |0,e,h,a,b=>by cases h
 |L+1,e,h,a,b=>by
  obtain⟨n,c,l⟩:=hv h;simp only[eo,List.mem_append,List.mem_flatMap] at b;rcases b with b|⟨k,m,b⟩
  ·split at b
   ·rename_i i;simp at b;subst b;unfold eP at c;rw[a8 O,bb i] at c;simp only[cx] at c;exact c.2.2
   simp at b
  exact G3 (l k m) a b
theorem Bn: ∀(L:Nat) (e:Expr),((eo L e).length:Int)<=dK L e
 |0,e=>by simp[eo,dK]
 |L+1,e=>by
  have h: ∀(l:List Expr),((l.flatMap (eo L)).length:Int)<=(l.map (dK L)).sum:=by
   intro l;induction l with
   |nil=>simp
   |cons k l a=>
    have:=Bn L k;simp only[List.flatMap_cons,hn,hL,List.sum_cons];omega
  have:=h e.bm;simp only[eo,dK,hn];split
  ·rw[nu];omega
  rw[List.length_nil];omega
theorem Gg{d:Int}: ∀(L n:Nat) (e:Expr),6600000+L<=n->L<=5->dH L e d=ab->rq (n+1) e=aa (eo L e)
 |0,n,e,_,_,h=>by cases h
 |L+1,n,e,B,s,h=>by
  obtain⟨C,D,r⟩:=hv h;have w:=pa e.kind;unfold rq;refine ae.eq (aW (λb=>ae.some ?_) λl=>?_)
  ·have:e.bm=[]:=by
    have F:fJ e.kind=0:=by unfold fJ;rw[bb (Or.inr (Or.inr b))]
    exact ns O
   simp[eo,b,this]
  obtain⟨n,rfl⟩: ∃j,n=j+1:=⟨n-1,O⟩
  have m: ∀k∈e.bm,((eo L k).length:Int)<=100:=λk c=>by
   have G:=CZ (r k c);have H:(2:Int)^L<=40:=by
    match L,s with
    |0,_=>decide
    |1,_=>decide
    |2,_=>decide
    |3,_=>decide
    |4,_=>decide
   have:=Bn L k;omega
  refine ae.loop (λx:List cw×Int=> ∃i:Nat,x.2=i/\i<=e.bm.length/\x.1=(e.bm.take i).flatMap (eo L)/\(x.1.length:Int)<=100*i) (λx=>e.bm.length-x.2.toNat) ?_ (n+1) _ ⟨0,rfl,O,a7,a7⟩ b6;rintro o ⟨x,k⟩ ⟨i,c,K,p,q⟩ y;dsimp only at c p q⊢;subst c;refine aW (λz=>?_) λA=>ae.some ?_
  ·have a:=bu (O:i<e.bm.length);have hm:=bT a;have a1:=m _ hm;refine ag (bl a) (ag (Gg (d:=d) L n _ O O (r _ hm)) (ag (dr O) ?_));rw[a6 O];refine y _ ⟨i+1,Z,O,?_,by dsimp only;rw[dm];omega⟩ Z;dsimp only;rw[eE,a,nv,p];simp
  have:i=e.bm.length:=O
  rw[p,this,dR];simp[eo,l]
theorem AY(n:Nat){a:aF}(h:a.aU.length<=1100000):rb n a=aa a:=by
 unfold rb;refine ae.eq (aW (λb=>ae.some ?_) λb=>ag (mQ _ h) (ae.some rfl));obtain⟨cs,c⟩:=a
 have:cs=[]:=ns (by simpa using b)
 grind
theorem Al(p:5500000<=n)(h:ke a.bB):re n a=aa a:=by
 obtain⟨q,e⟩:=h;refine ae.eq ?_;unfold re;refine ae.loop (λx:List aF×Int=> ∃i:Nat,x.2=i/\i<=a.bB.length/\x.1=a.bB.take i) (λx=>a.bB.length-x.2.toNat) ?_ n _ ⟨0,rfl,O,a7⟩ b6;rintro c ⟨x,k⟩ ⟨i,d,r,b⟩ l;dsimp only at d b⊢;subst d;refine aW (λm=>?_) λo=>ae.some ?_
 ·have hs:=bu (O:i<a.bB.length);have s:x.length=i:=by rw[b,c7];omega
  refine ag (bl hs) (ag (AY n (e _ (bT hs))) (ag (dr b6) ?_));rw[a6 O];refine l _ ⟨i+1,Z,O,?_⟩ Z;dsimp only;rw[eE,hs,b];rfl
 have:i=a.bB.length:=O
 rw[b,this,dR]
theorem QC{l:List aF}(d:l.length<=2)(b: ∀a∈l,de a=ab):ke l:=⟨O,λa c=>by have:=(fU (b a c)).1;unfold iE;omega⟩
theorem M9{d:Int}: ∀(L n:Nat) (e:Expr) (out:List cw),6600000+L<=n->L<=5->dH L e d=ab->(out.length:Int)<=1100000+200*(6-(L:Int))->ub (n+1) out e=aa (out++eo L e)
 |0,n,e,out,_,_,h,_=>by cases h
 |L+1,n,e,out,Q,A,h,R=>by
  obtain⟨W,X,s⟩:=hv h;have B:=pa e.kind;unfold ub;refine ae.eq (ae.aP (λz=>z=out++(if e.kind=3 then [e.read] else [])) (λj w=>aW (λa=>?_) λm=>w _ (by rw[a8 m];simp)) λz y=>?_)
  ·have C:=G3 h e.read (by simp[eo,a]);obtain⟨_,D,F⟩:=lU C;exact ag (Al O (QC D F)) (ag (dr b6) (w _ (by rw[bb a])))
  subst y;obtain⟨n,rfl⟩: ∃j,n=j+1:=⟨n-1,O⟩
  by_cases a:e.kind=3
  ·have b:e.bm=[]:=by
    have y:fJ e.kind=0:=by unfold fJ;rw[bb (Or.inr (Or.inr a))]
    exact ns O
   rw[b];refine ae.some ?_;simp[eo,a,b]
  have o: ∀k∈e.bm,((eo L k).length:Int)<=100:=λk l=>by
   have f:=CZ (s k l);have g:(2:Int)^L<=40:=by
    match L,A with
    |0,_=>decide
    |1,_=>decide
    |2,_=>decide
    |3,_=>decide
    |4,_=>decide
   have:=Bn L k;omega
  rw[a8 a,jq];refine ae.loop (λx:List cw×Int=> ∃i:Nat,x.2=i/\i<=e.bm.length/\x.1=out++(e.bm.take i).flatMap (eo L)/\(x.1.length:Int)<=out.length+100*i) (λx=>e.bm.length-x.2.toNat) ?_ (n+1) _ ⟨0,rfl,O,a7,a7⟩ b6;rintro p ⟨x,k⟩ ⟨i,l,t,q,r⟩ G;dsimp only at l q r⊢;subst l;refine aW (λH=>?_) λK=>ae.some ?_
  ·have c:=bu (O:i<e.bm.length);have hm:=bT c;have a1:=o _ hm;refine ag (bl c) (ag (M9 (d:=d) L n _ x O O (s _ hm) O) ?_);rw[a6 O];refine G _ ⟨i+1,Z,O,?_,by dsimp only;rw[dm];omega⟩ Z;dsimp only;rw[eE,c,nv,q];simp
  have:i=e.bm.length:=O
  rw[q,this,dR];simp[eo,a]
theorem QU{o:List Loop}(b:Fit o): ∀(cb:List Loop) (k:Nat) (p q:List Int),o.drop k=cb->k<=o.length->iA k p->q∈fE cb p->iA o.length q
 | [],k,p,q,c,e,d,a=>by
  have:=Cn c e;simp only[fE,List.mem_singleton] at a;subst a;subst this;exact d
 |l::cb,k,p,q,c,e,d,a=>by obtain⟨h,i,w⟩:=BB c;obtain⟨m,n⟩:=b.2 k l h;have r:=b.1;simp only[fE,List.mem_flatMap] at a;obtain⟨v,s,a⟩:=a;exact QU b cb (k+1) _ q i O (CB m n d O (afP.1 s)) a
theorem s0{o:List Loop}{z:List (List Int)}(h:jO o=aa z):Fit o/\z.length<=120/\(∀q∈z,iA o.length q)/\z=fE o []/\fP o []<=1200:=by
 unfold jO at h;split at h
 ·rename_i a;cases h;have b:=CN a.1;exact⟨b,a.2.2,λq c=>QU b o 0 [] q rfl O zH c,rfl,a.2.1⟩
 cases h
def gX(b:List ch)(s:Stmt)(q:List Int):Bool:=ai (0<=eU b s.write q 0)&&(eo 5 s.value).all λa=>decide (0<=eU b a q 0)
theorem kt(h:eT s d=ab):fV s.write d=ab/\dH 5 s.value d=ab/\(∀a∈eo 5 s.value,fV a d=ab)/\(eo 5 s.value).length<=12:=by
 simp only[eT,cx,decide_eq_true_eq] at h;obtain⟨_,c,b,e⟩:=h
 have:=Bn 5 s.value;exact⟨c,b,G3 b,O⟩
theorem Zo(C:7700000<=n)(b:p.bc.length<=4)(c:lH p.bc)(o:eT s d=ab)(e:iA k q):D2 n p s q=aa (gX p.bc s q):=by
 obtain⟨r,w,x,D⟩:=kt o;obtain⟨n,rfl⟩: ∃j,n=j+1:=⟨n-1,O⟩
 refine ae.eq ?_;unfold D2;generalize i:gX p.bc s q=T;unfold gX at i;refine ae.aP (λz=>z=T) (λj m=>ag (Bw O b c r e) (aW (λh=>?_) λh=>m _ ?_)) λz y=>ae.some y
 ·have bS:=WK (n:=n+1) (f:=λA=>zc (n+1) A p q) (p:=λa=>decide (eU p.bc a q 0<0)) (l:=eo 5 s.value)
   (λa B=>by unfold zc;rw[Bw O b c (x a B) e];rfl) O O
  refine ag (Gg (d:=d) 5 n s.value O O w) (ag bS (m _ ?_))
  grind
 rw[<-i,bR h];rfl
theorem Mp(v:7700000<=n)(C:r.length<=4)(D:lH r)(H:eT s d=ab)(F:iA k q):
  w4 n r s q=aa (if gX r s q=ab then((eo 5 s.value).map λa=>eU r a q 0,eU r s.write q 0,ab) else([],0,ak)):=by
 obtain⟨K,L,Q,E⟩:=kt H;obtain⟨n,rfl⟩: ∃j,n=j+1:=⟨n-1,O⟩
 refine ae.eq ?_;unfold w4;refine ag (M9 (d:=d) 5 n s.value [] O O L a7) ?_;rw[rY];generalize W:eo 5 s.value=R at*;have c:gX r s q=(ai (0<=eU r s.write q 0)&&R.all λa=>decide (0<=eU r a q 0)):=by unfold gX;rw[W]
 refine ae.loop (λx:List Int×Int=> ∃i:Nat,x.2=i/\i<=R.length/\x.1=(R.take i).map (λa=>eU r a q 0)/\ ∀(t:Nat) a,t<i->R[t]? =aa a->0<=eU r a q 0) (λx=>R.length-x.2.toNat) ?_ (n+1) _ ⟨0,rfl,O,a7,λt a h=>O⟩ Z;rintro p ⟨x,z⟩ ⟨i,G,I,o,w⟩ X;dsimp only at G o w⊢;subst G;refine aW (λf=>?_) λg=>?_
 ·have bV:=bu (O:i<R.length);have hm:=bT bV;refine ag (bl bV) (ag (NU O C D (Q _ hm) F) (aW (λe=>ae.some ?_) λl=>?_))
  ·rw[a8];rw[c];intro h;rw[qq] at h
   have:=gD.1 h.2 _ hm;rw[decide_eq_true_eq] at this;omega
  have u:x.length<=12:=by rw[o,dJ,c7];omega
  refine ag (dr b6) ?_;rw[a6 O];refine X _ ⟨i+1,Z,O,?_,λt a y b=>?_⟩ Z
  ·dsimp only;rw[eE,bV,h7,o];rfl
  by_cases A:t=i
  ·subst A;rw[bV] at b;cases b;omega
  exact w t a O b
 have B:i=R.length:=O
 have m:R.all (λa=>decide (0<=eU r a q 0))=ab:=gD.2 (λa hm=>by
  obtain⟨t,y⟩:=lb hm
  have:=(b5.1 y).1;exact bU (w t a O y))
 rw[c,m,Bool.and_true];refine ag (NU O C D K F) (aW (λe=>ae.some ?_) λl=>ae.some ?_)
 ·rw[a8 (by rw[decide_eq_true_eq];omega)]
 rw[bb (by rw[decide_eq_true_eq];omega),o,B,dR]
def ky(q:List Int):Bool:=ai (q.length<=4)&&q.all λx=>decide (-9999<=x/\x<=9999)
theorem YB(b:5500000<=n)(h:q.length<=1100000):Bv n q=aa (ky q):=by
 unfold Bv ky;have bS:=EM (n:=n) (f:=λa=>zZ n a) (p:=λx=> !decide (-9999<=x/\x<=9999)) (l:=q) (λx _=>by unfold zZ;rw[d9];rfl) O O;simp only[aP,bH]
 grind
theorem YK(r:5500000<=n)(h:q.length<=1100000):Bg n q=aa (ky q):=by
 refine ae.eq ?_;unfold Bg;refine qo (l:=q) (p:=λ_ x=>decide (-9999<=x/\x<=9999)) O O (λa i x d e k=>?_) (λa b=>?_) (λ⟨i,x,d,m⟩=>?_)
 ·have aJ:=(b5.1 d).1;rw[bU (show(i:Int)<(q.length:Int) by omega)];refine cf (ag (bl d) (ag (zX n x 9999 O) ?_));cases m:ai (-9999<=x/\x<=9999) with
  |true=>show ae (a _) _;rw[a6 O];exact e m
  |false=>exact ae.some (k m)
 ·rw[bR (show¬(q.length:Int)<(q.length:Int) by omega)];refine ae.some ?_;unfold ky;rw[gD.2 (λc o=>by obtain⟨i,aJ⟩:=lb o;exact b i c aJ),Bool.and_true]
  grind
 unfold ky
 grind
theorem Pr{a:Type}(p q:a->Bool): ∀l:List a,(l.all p&&l.all q)=l.all (λx=>p x&&q x)
 | []=>rfl
 |x::l=>by simp only[List.all_cons,<-Pr p q l];cases p x<;>cases q x<;>cases l.all p<;>cases l.all q<;>rfl
def oM(a:Part):Bool:=ai (1<=a.body.length/\a.body.length<=4)&&a.body.all λs=>eT s (a.nest.length:Int)
def jC(a:Part):List (List Int):=(jO a.nest).getD []
def eO(b:List ch)(a:Part):Bool:=(jO a.nest).isSome&&(oM a&&a.body.all λs=>(jC a).all λq=>gX b s q&&ky q)
def I1(x:Part):Prop:=qQ x.nest/\x.body.length<=1100000/\ ∀s∈x.body,Bi s
def ho(p:Prog):Prop:=Ga p.bc/\p.parts.length<=1100000/\ ∀x∈p.parts,I1 x
theorem gy(h:eO r x=ab):jO x.nest=aa (jC x)/\(1<=x.body.length/\x.body.length<=4)/\(∀s∈x.body,eT s (x.nest.length:Int)=ab)/\ ∀s∈x.body,∀q∈jC x,gX r s q=ab/\ky q=ab:=by
 simp only[eO,oM,cx,decide_eq_true_eq,js] at h;refine⟨?_,h.2.1.1,h.2.1.2,h.2.2⟩;unfold jC;cases a:jO x.nest with
 |none=>rw[a] at h;simp at h
 |some b=>rfl
theorem IZ{list:List ch}(h:jf list=ab):list.length<=4/\lH list:=by
 simp only[jf,cx,decide_eq_true_eq] at h;refine⟨h.2,λx a=>?_⟩;obtain⟨i,b⟩:=lb a
 have:=Ge h.1 b;simp only[mJ,cx] at this
 grind
theorem Zx(cK:7700000<=n){a:List ch}(N:a.length<=4)(P:lH a)(S:I1 x):
  BR n a x=aa (if eO a x=ab then(((jC x).length:Int)*(x.body.length:Int),ab) else(0,ak)):=by
 obtain⟨U,h2,V⟩:=S;refine ae.eq ?_;unfold BR;generalize v:(if eO a x=ab then(((jC x).length:Int)*(x.body.length:Int),ab) else((0:Int),ak))=T;refine ag (WE O U) ?_;have c:eO a x=ak->((0:Int),ak)=T:=λh=>by rw[<-v,h];rfl
 refine ae.aP (λz=>z= !((jO x.nest).isSome&&ai (1<=x.body.length/\x.body.length<=4))) (λj l=>?_) λz Q=>?_
 ·cases m:jO x.nest with
  |none=>exact cf (l _ (by rw[m];rfl))
  |some b=>
   refine b3 (aW (λh=>l _ ?_) λh=>l _ ?_)
   ·rw[m,bR O];rfl
   rw[m];by_cases h4:x.body.length<=4
   ·rw[bR (show¬(4:Int)<(x.body.length:Int) by omega),bU O];rfl
   rw[bU (show(4:Int)<(x.body.length:Int) by omega),bR O];rfl
 subst Q;cases m:jO x.nest with
 |none=>exact ae.some (c (by unfold eO;rw[m];rfl))
 |some b=>
  obtain⟨iI,Y,R,aiR,aiS⟩:=s0 m;have A:jC x=b:=by unfold jC;rw[m];rfl
  by_cases K:1<=x.body.length/\x.body.length<=4
  ·rw[bU K];refine b3 ?_;have o:eO a x=x.body.all (λs=>eT s (x.nest.length:Int)&&b.all λq=>gX a s q&&ky q):=by
    unfold eO oM;rw[m,A,bU K,Option.isSome_some,gh,gh];exact Pr _ _ _
   refine ae.loop (λy:Int=> ∃i:Nat,y=i/\i<=x.body.length/\ ∀(t:Nat) s,t<i->x.body[t]? =aa s->(eT s (x.nest.length:Int)&&b.all λq=>gX a s q&&ky q)=ab) (λy=>x.body.length-y.toNat) ?_ n _ ⟨0,rfl,O,λt s h=>O⟩ b6;rintro W y ⟨i,rfl,aJ,E⟩ b8;refine aW (λhlt=>?_) λk3=>ae.some ?_
   ·have bV:=bu (O:i<x.body.length);have hm:=bT bV;refine ag (bl bV) (ag (LI O (V _ hm) _) ?_);cases e:eT x.body[i] (x.nest.length:Int) with
    |false=>
     refine cf (ae.some (c ?_));rw[o];exact mx.2 ⟨_,hm,by rw[e];simp⟩
    |true=>
     refine b3 ?_;show ae (bk (λd (kH:Int)=>bif ai (kH<(b.length:Int)) then _ else _) n 0) _;refine ae.loop (λy:Int=> ∃k:Nat,y=k/\k<=b.length/\ ∀(t:Nat) q,t<k->b[t]? =aa q->(gX a x.body[i] q&&ky q)=ab) (λy=>b.length-y.toNat) ?_ n _ ⟨0,rfl,O,λt s h=>O⟩ b6;rintro d y ⟨k,rfl,hk,B⟩ X;refine aW (λI=>?_) λM=>?_
     ·have p:=bu (O:k<b.length);have C:=bT p;have D:=R _ C;have f:b[k].length<=1100000:=by have:=D.1;have:=D.2.1;omega
      refine ag (bl p) (ag (Mp O N P e D) (ae.aP (λz=>z= !(gX a x.body[i] b[k]&&ky b[k])) (λj l=>?_) λz Q=>?_))
      ·cases F:gX a x.body[i] b[k] with
       |false=>
        rw[F] at l;exact cf (l _ rfl)
       |true=>
        rw[F] at l;exact b3 (ag (YK O f) (l _ rfl))
      subst Q;cases F:(gX a x.body[i] b[k]&&ky b[k]) with
      |false=>
       refine ae.some (c ?_);rw[o];refine mx.2 ⟨_,hm,?_⟩;rw[e,gh];rw[mx.2 ⟨_,C,by rw[F];simp⟩];simp
      |true=>
       show ae (d _) _;rw[a6 O];refine X _ ⟨k+1,O,O,λt q L r=>?_⟩ O;by_cases g:t=k
       ·subst g;rw[p] at r;cases r;exact F
       exact B t q O r
     rw[a6 O];refine b8 _ ⟨i+1,O,O,λt s L w=>?_⟩ O;by_cases u:t=i
     ·subst u;rw[bV] at w;cases w;rw[e,gh];refine gD.2 λq D=>?_;obtain⟨mu,G⟩:=lb D
      have:=(b5.1 G).1;exact B mu q O G
     exact E t s O w
   have H:eO a x=ab:=by
    rw[o];refine gD.2 λs hs=>?_;obtain⟨t,L⟩:=lb hs
    have:=(b5.1 L).1;exact E t s O L
   rw[<-v,H,bb rfl,A];show(wr ((b.length:Int)*(x.body.length:Int)),ab)=_;have k2:(0:Int)<=(b.length:Int)*(x.body.length:Int):=pn O O;have vN:(b.length:Int)*(x.body.length:Int)<=120*4:=rZ O O O O;rw[a6 O]
  rw[bR K];refine ae.some (c ?_);unfold eO oM;rw[bR K];simp
def fT(x:Part):Int:=((jC x).length:Int)*(x.body.length:Int)
def o2(i:Nat)(x:Part):List cG:=(jC x).flatMap λq=>(gi x.body.length).map fun(k:Nat)=>(⟨(i:Int),(k:Int),q⟩:cG)
def bz(a:List Part):List cG:=a.zipIdx.flatMap λy=>o2 y.2 y.1
def jl(p:Prog):Bool:=jf p.bc&&(ai (p.parts.length<=4)&&p.parts.all (eO p.bc))
def b1(p:Prog):Bool:=jl p&&ai ((p.parts.map fT).sum<=120)
theorem ajB(l:List Part)(x:Part):bz (l++[x])=bz l++o2 l.length x:=by
 unfold bz
 grind
theorem Kx{l:List Part}(h:l[i]? =aa x):bz (l.take (i+1))=bz (l.take i)++o2 i x:=by have aJ:=(b5.1 h).1;rw[eE,h];show bz (l.take i++[x])=_;rw[ajB,c7,ug (Nat.le_of_lt aJ)]
theorem Cm{a R:Type}(f:a->List R)(m:Nat)(h: ∀x,(f x).length=m): ∀l:List a,(l.flatMap f).length=l.length*m
 | []=>a7
 |x::l=>by rw[z',dm,h,Cm f m h l,rX,ed];omega
theorem Kw(i:Nat)(x:Part):((o2 i x).length:Int)=fT x:=by
 unfold o2 fT;rw[Cm _ x.body.length λq=>a7]
 grind
theorem OM{l:List Part}(h:l[i]? =aa x):((l.take (i+1)).map fT).sum=((l.take i).map fT).sum+fT x:=by rw[eE,h];simp
theorem S4: ∀(l:List Part) (i:Nat),i<=l.length->((bz (l.take i)).length:Int)=((l.take i).map fT).sum
 |l,0,_=>by simp[bz]
 |l,i+1,h=>by
  have bV:=bu (O:i<l.length);rw[Kx bV,dm,OM bV]
  have:=S4 l i O
  have:=Kw i l[i];omega
theorem DM(l:List Part):((bz l).length:Int)=(l.map fT).sum:=by
 have:=S4 l l.length (da _)
 grind
theorem xB(h:eO r x=ab):0<=fT x/\fT x<=480:=by
 obtain⟨a,b,_⟩:=gy h;obtain⟨_,c,_⟩:=s0 a;unfold fT;refine⟨pn O O,?_⟩
 have:=rZ (show((jC x).length:Int)<=120 by omega) (show(x.body.length:Int)<=4 by omega) O O;omega
theorem kf(g:7700000<=n)(F:ho p):kg n p=aa (b1 p):=by
 obtain⟨G,u,H⟩:=F;refine ae.eq ?_;unfold kg;generalize o:b1 p=T;unfold b1 jl at o;refine ae.aP (λz=>z= !(jf p.bc&&ai (p.parts.length<=4))) (λj B=>ag (Xe O G) ?_) λz l=>?_
 ·cases d:jf p.bc with
  |false=>exact cf (B _ (by rw[d];rfl))
  |true=>
   refine b3 (B _ ?_);rw[d];by_cases C:p.parts.length<=4
   ·rw[bR (show¬(4:Int)<(p.parts.length:Int) by omega),bU C];rfl
   rw[bU (show(4:Int)<(p.parts.length:Int) by omega),bR C];rfl
 subst l;cases m:(jf p.bc&&ai (p.parts.length<=4)) with
 |false=>
  refine ae.some ?_;rw[<-o,<-my,m];rfl
 |true=>
  have e:T=(p.parts.all (eO p.bc)&&ai ((p.parts.map fT).sum<=120)):=by rw[<-o,<-my,m];rfl
  rw[qq,decide_eq_true_eq] at m;obtain⟨K,L⟩:=IZ m.1;refine b3 ?_;refine ae.loop (λx:Int×Int=> ∃i:Nat,x.2=i/\i<=p.parts.length/\x.1=((p.parts.take i).map fT).sum/\0<=x.1/\x.1<=480*i/\ ∀(t:Nat) y,t<i->p.parts[t]? =aa y->eO p.bc y=ab) (λx=>p.parts.length-x.2.toNat) ?_ n _ ⟨0,rfl,O,a7,a7,a7,λt y h=>O⟩ Z;rintro a ⟨x,z⟩ ⟨i,l,v,D,q,r,d⟩ Q;dsimp only at l D q r d⊢;subst l;refine aW (λR=>?_) λW=>ae.some ?_
  ·have bV:=bu (O:i<p.parts.length);have hm:=bT bV;refine ag (bl bV) (ag (Zx O K L (H _ hm)) ?_);cases b:eO p.bc p.parts[i] with
   |false=>
    rw[a8 a7];refine ae.some ?_;rw[e,mx.2 ⟨_,hm,by rw[b];simp⟩];rfl
   |true=>
    rw[bb rfl];have X:=xB b;show ae (a (wr (x+fT p.parts[i]),wr ((i:Int)+1))) _;rw[a6 (n:=x+fT p.parts[i]) O,a6 O];refine Q _ ⟨i+1,Z,O,by dsimp only;rw[OM bV];omega,Z,Z,λt y s c=>?_⟩ Z;by_cases w:t=i
    ·subst w;rw[bV] at c;cases c;exact b
    exact d t y O c
  have A:i=p.parts.length:=O
  have k:p.parts.all (eO p.bc)=ab:=gD.2 (λy f=>by
   obtain⟨t,s⟩:=lb f
   have:=(b5.1 s).1;exact d t y O s)
  rw[e,k,gh,D,A,dR]
theorem LK{a:Type}(f:Nat->a)(k:Nat):(gi (k+1)).map f=(gi k).map f++[f k]:=by rw[om,h7];rfl
theorem LL(cK:7700000<=n)(hp:ho p):vA n p=aa (if jl p=ab then(bz p.parts,ai ((bz p.parts).length<=120)) else([],ak)):=by
 obtain⟨h1,h2,h3⟩:=hp;refine ae.eq ?_;unfold vA;generalize k0:(if jl p=ab then(bz p.parts,ai ((bz p.parts).length<=120)) else([],ak))=T;have a:jl p=ak->(([]:List cG),ak)=T:=λh=>by rw[<-k0,h];rfl
 refine ae.aP (λz=>z= !(jf p.bc&&ai (p.parts.length<=4))) (λj E=>ag (Xr O h1) ?_) λz c=>?_
 ·cases I:jf p.bc with
  |false=>exact cf (E _ (by rw[I];rfl))
  |true=>
   refine b3 (E _ ?_);rw[I];by_cases h4:p.parts.length<=4
   ·rw[bR (show¬(4:Int)<(p.parts.length:Int) by omega),bU h4];rfl
   rw[bU (show(4:Int)<(p.parts.length:Int) by omega),bR h4];rfl
 subst c;cases a1:(jf p.bc&&ai (p.parts.length<=4)) with
 |false=>exact ae.some (a (by unfold jl;rw[<-my,a1];rfl))
 |true=>
  have d:jl p=p.parts.all (eO p.bc):=by unfold jl;rw[<-my,a1];rfl
  rw[qq,decide_eq_true_eq] at a1;obtain⟨cC,cO⟩:=IZ a1.1;refine b3 ?_;refine ae.loop (λx:List cG×Int=> ∃i:Nat,x.2=i/\i<=p.parts.length/\x.1=bz (p.parts.take i)/\x.1.length<=480*i/\ ∀(t:Nat) y,t<i->p.parts[t]? =aa y->eO p.bc y=ab) (λx=>p.parts.length-x.2.toNat) ?_ n _ ⟨0,rfl,O,by simp[bz],a7,λt y h=>O⟩ Z;rintro again ⟨x,z⟩ ⟨i,c,aJ,hx,ajk,I⟩ b8;dsimp only at c hx ajk I⊢;subst c;refine aW (λhlt=>?_) λk3=>ae.some ?_
  ·have bV:=bu (O:i<p.parts.length);have hm:=bT bV;obtain⟨s1,s2,ama⟩:=h3 _ hm;generalize yU:p.parts[i]=P at*;have r:eO p.bc P=ak->jl p=ak:=λh=>by rw[d];exact mx.2 ⟨_,hm,by rw[h];simp⟩
   refine ag (bl bV) (ag (WI O s1) (ae.aP (λz=>z= !((jO P.nest).isSome&&oM P)) (λj E=>?_) λz c=>?_))
   ·cases A:jO P.nest with
    |none=>exact cf (E _ (by rw[A];rfl))
    |some b=>
     refine b3 ?_;have hw:fy n (P.body.length:Int) 1 4=aa (ai (1<=P.body.length/\P.body.length<=4)):=by
      rw[d9];congr 1;exact decide_eq_decide.2 O
     refine ag hw ?_;have bS:=W3 (n:=n) (f:=λtQ=>yO n tQ P) (p:=λs=> !eT s (P.nest.length:Int)) (l:=P.body) (λs M=>by unfold yO;rw[WY O (ama s M)];rfl) O O;have e:(P.body.any λs=> !eT s (P.nest.length:Int))= !(P.body.all λs=>eT s (P.nest.length:Int)):=by rw[List.all_eq_not_any_not];simp
     cases N:ai (1<=P.body.length/\P.body.length<=4) with
     |false=>exact cf (E _ (by unfold oM;rw[A,N];rfl))
     |true=>exact b3 (ag bS (E _ (by unfold oM;rw[A,N,e];rfl)))
   subst c;cases A:jO P.nest with
   |none=>exact ae.some (a (r (by unfold eO;rw[A];rfl)))
   |some b=>
    obtain⟨iI,alo,aiQ,aiR,aiS⟩:=s0 A;have S:jC P=b:=by unfold jC;rw[A];rfl
    cases F:oM P with
    |false=>exact ae.some (a (r (by unfold eO;rw[F];simp)))
    |true=>
     have B:=F;simp only[oM,cx,decide_eq_true_eq,js] at B;obtain⟨⟨k2,vN⟩,yX⟩:=B;have G:eO p.bc P=P.body.all (λs=>b.all λq=>gX p.bc s q&&ky q):=by
      unfold eO;rw[A,F,S];rfl
     let row:List Int->List cG:=λq=>(gi P.body.length).map fun(k:Nat)=>(⟨(i:Int),(k:Int),q⟩:cG)
     have hrl: ∀q,(row q).length=P.body.length:=λq=>by simp[row]
     have o:o2 i P=b.flatMap row:=by unfold o2;rw[S]
     refine b3 ?_;rw[show(sZ (aa b)).1=b from rfl];refine ae.loop (λy:List cG×Int=> ∃k:Nat,y.2=k/\k<=b.length/\y.1=x++(b.take k).flatMap row/\ ∀(t:Nat) q,t<k->b[t]? =aa q->ky q=ab/\ ∀s∈P.body,gX p.bc s q=ab) (λy=>b.length-y.2.toNat) ?_ n _ ⟨0,rfl,O,a7,λt q h=>O⟩ Z;rintro U ⟨y,z⟩ ⟨k,c,hk,H,K⟩ V;dsimp only at c H K⊢;subst c;refine aW (λhlt2=>?_) λald=>?_
     ·have w:=bu (O:k<b.length);have L:=bT w;generalize JZ:b[k]=Q at*;have Y:=aiQ _ L;have aiU:Q.length<=4:=by have:=Y.1;have:=Y.2.1;omega
      refine ag (bl w) (ag (YB O O) ?_);have ajn:y.length<=480*4+480:=by
       rw[H,dm,Cm row _ hrl,c7]
       have:min k b.length*P.body.length<=120*4:=oo O vN;omega
      cases SM:ky Q with
      |false=>
       refine cf (ae.some (a (r ?_)));rw[G];obtain⟨KX,ai0⟩: ∃KX,KX∈P.body:=List.exists_mem_of_length_pos O;refine mx.2 ⟨KX,ai0,?_⟩;rw[mx.2 ⟨Q,L,by rw[SM];simp⟩];simp
      |true=>
       refine b3 ?_;refine ae.loop (λu:List cG×Int=> ∃m:Nat,u.2=m/\m<=P.body.length/\u.1=y++(gi m).map (fun(k:Nat)=>(⟨(i:Int),(k:Int),Q⟩:cG))/\ ∀(t:Nat) s,t<m->P.body[t]? =aa s->gX p.bc s Q=ab) (λu=>P.body.length-u.2.toNat) ?_ n _ ⟨0,rfl,O,a7,λt s h=>O⟩ Z;rintro akY ⟨u,z⟩ ⟨m,c,ly,hu,R⟩ aiW;dsimp only at c hu R⊢;subst c;refine aW (λalk=>?_) λale=>?_
       ·have W:=bu (O:m<P.body.length);have C:=bT W;refine ag (bl W) (ag (Zo O cC cO (yX _ C) Y) ?_);cases Ss:gX p.bc P.body[m] Q with
        |false=>
         refine cf (ae.some (a (r ?_)));rw[G];refine mx.2 ⟨_,C,?_⟩;rw[mx.2 ⟨Q,L,by rw[Ss];simp⟩];simp
        |true=>
         have hcl:jX Q=aa Q:=by unfold jX;rw[bb O]
         have p4:u.length<=480*4+480+4:=by rw[hu];simp;omega
         refine b3 (ag hcl (ag (dr b6) ?_));rw[a6 O];refine aiW _ ⟨m+1,Z,O,?_,λt s D X=>?_⟩ Z
         ·dsimp only;rw[hu,LK,fF]
         by_cases ai8:t=m
         ·subst ai8;rw[W] at X;cases X;exact Ss
         exact R t s O X
       have aiE:m=P.body.length:=O
       rw[a6 O];refine V _ ⟨k+1,Z,O,?_,λt q D g=>?_⟩ Z
       ·dsimp only;rw[eE,w,nv,<-fF,<-H,hu,aiE];simp[row]
       by_cases ai7:t=k
       ·subst ai7;rw[w] at g;cases g;refine⟨SM,λs M=>?_⟩;obtain⟨mu,SR⟩:=lb M
        have:=(b5.1 SR).1;exact R mu s O SR
       exact K t q O g
     have Sy:k=b.length:=O
     have SK:eO p.bc P=ab:=by
      rw[G];refine gD.2 λs M=>gD.2 λq Y=>?_;obtain⟨t,D⟩:=lb Y
      have:=(b5.1 D).1;obtain⟨g1,g2⟩:=K t q O D;rw[g1,g2 s M];rfl
     have DA:=xB SK;have DE:=Kw i P;rw[a6 O];refine b8 _ ⟨i+1,Z,O,?_,?_,λt y D v=>?_⟩ Z
     ·dsimp only;rw[Kx bV,o,H,Sy,dR,hx]
     ·dsimp only;rw[H,Sy,dR,dm,<-o];omega
     by_cases ai6:t=i
     ·subst ai6;rw[bV] at v;cases v;exact SK
     exact I t y O v
  have ain:i=p.parts.length:=O
  have hall:jl p=ab:=by
   rw[d];exact gD.2 (λy H=>by
    obtain⟨t,D⟩:=lb H
    have:=(b5.1 D).1;exact I t y O D)
  rw[<-k0,bb hall,hx,ain,dR];congr 1;exact decide_eq_decide.2 O
theorem ta(a:7700000<=n)(b:ho p):rf n p=aa (b1 p):=by
 unfold rf;rw[LL a b];unfold b1;cases h:jl p with
 |false=>rfl
 |true=>
  rw[bb rfl];show aa (decide _)=_;rw[gh];congr 1
  have:=DM p.parts;exact decide_eq_decide.2 O
theorem eH(h:b1 p=ab):p.bc.length<=4/\lH p.bc/\p.parts.length<=4/\(∀x∈p.parts,eO p.bc x=ab)/\(bz p.parts).length<=120:=by
 simp only[b1,jl,cx,decide_eq_true_eq,js] at h;obtain⟨⟨c,d,e⟩,i⟩:=h;obtain⟨a,b⟩:=IZ c
 have:=DM p.parts
 grind
theorem wa(cK:7700000<=n)(U:b1 p=ab):pT n p=aa (bz p.parts):=by
 obtain⟨cC,cO,h4,C,V⟩:=eH U;refine ae.eq ?_;unfold pT;refine ae.loop (λx:List cG×Int=> ∃i:Nat,x.2=i/\i<=p.parts.length/\x.1=bz (p.parts.take i)/\x.1.length<=480*i) (λx=>p.parts.length-x.2.toNat) ?_ n _ ⟨0,rfl,O,by simp[bz],a7⟩ Z;rintro D ⟨x,z⟩ ⟨i,b,aJ,F,G⟩ Y;dsimp only at b F G⊢;subst b;refine aW (λhlt=>?_) λk3=>ae.some ?_
 ·have bV:=bu (O:i<p.parts.length);have hm:=bT bV;have d:=C _ hm;generalize yU:p.parts[i]=P at*;obtain⟨pb,q2,wM,Ti⟩:=gy d;obtain⟨t,H,K,e,L⟩:=s0 pb;generalize R:jC P=v at*;have DA:=xB d;have E:=Kw i P;let row:List Int->List cG:=λq=>(gi P.body.length).map fun(k:Nat)=>(⟨(i:Int),(k:Int),q⟩:cG)
  have W: ∀q,(row q).length=P.body.length:=λq=>by simp[row]
  have a:o2 i P=v.flatMap row:=by unfold o2;rw[R]
  refine ag (bl bV) (ht (FN t P.nest n 0 [] [] (by have:=t.1;omega) rfl O zH L a7) λr ⟨tV,wP⟩=>?_);have X:r=v:=by rw[tV (by rw[<-e];simpa using H),e];rfl
  subst X;refine ae.loop (λy:List cG×Int=> ∃k:Nat,y.2=k/\k<=r.length/\y.1=x++(r.take k).flatMap row) (λy=>r.length-y.2.toNat) ?_ n _ ⟨0,rfl,O,a7⟩ Z;rintro h ⟨y,z⟩ ⟨k,b,hk,l⟩ o;dsimp only at b l⊢;subst b;refine aW (λI=>?_) λM=>?_
  ·have c:=bu (O:k<r.length);have f:=bT c;generalize JZ:r[k]=Q at*;have N:=K _ f;have aiU:Q.length<=4:=by have:=N.1;have:=N.2.1;omega
   have ajn:y.length<=480*4+480:=by
    rw[l,dm,Cm row _ W,c7]
    have:min k r.length*P.body.length<=120*4:=oo O q2.2;omega
   refine ae.loop (λu:List cG×Int=> ∃m:Nat,u.2=m/\m<=P.body.length/\u.1=y++(gi m).map (fun(k:Nat)=>(⟨(i:Int),(k:Int),Q⟩:cG))) (λu=>P.body.length-u.2.toNat) ?_ n _ ⟨0,rfl,O,a7⟩ Z;rintro s ⟨u,z⟩ ⟨m,b,ly,B⟩ w;dsimp only at b B⊢;subst b;refine aW (λS=>?_) λT=>?_
   ·have p4:u.length<=480*4+480+4:=by rw[B];simp;omega
    refine ag (bl c) (ag (mQ _ O) (ag (dr b6) ?_));rw[a6 O];refine w _ ⟨m+1,Z,O,?_⟩ Z;dsimp only;rw[B,LK,fF]
   have g:m=P.body.length:=O
   rw[a6 O];refine o _ ⟨k+1,Z,O,?_⟩ Z;dsimp only;rw[eE,c,nv,<-fF,<-l,B,g];simp[row]
  have A:k=r.length:=O
  rw[a6 O];refine Y _ ⟨i+1,Z,O,?_,?_⟩ Z
  ·dsimp only;rw[Kx bV,a,l,A,dR,F]
  dsimp only;rw[l,A,dR,dm,<-a];omega
 have j:i=p.parts.length:=O
 rw[F,j,dR]
theorem aaE{l:List ch}{x:ch}(h:l[i]? =aa x):ha (l.take (i+1))=ha (l.take i)+hJ x.b7:=by unfold ha;rw[List.take_add_one,h];simp
theorem M7(r:7700000<=n)(s:p.bc.length<=4)(h:lH p.bc):Be n p=aa (ha p.bc):=by
 refine ae.eq ?_;unfold Be;refine ae.loop (λx:Int×Int=> ∃i:Nat,x.2=i/\i<=p.bc.length/\x.1=ha (p.bc.take i)/\0<=x.1/\x.1<=36*i) (λx=>p.bc.length-x.2.toNat) ?_ n _ ⟨0,rfl,O,by simp[ha],a7,a7⟩ Z;rintro b ⟨x,z⟩ ⟨i,e,w,k,c,d⟩ l;dsimp only at e k c d⊢;subst e;refine aW (λm=>?_) λo=>ae.some ?_
 ·have bV:=bu (O:i<p.bc.length);have a:=h _ (bT bV);have lA:=sM a;refine ag (bl bV) (ag (FO O a) ?_);rw[a6 (n:=x+hJ p.bc[i].b7) O,a6 O];exact l _ ⟨i+1,Z,O,by dsimp only;rw[aaE bV];omega,Z,Z⟩ Z
 have q:i=p.bc.length:=O
 grind
theorem NM(a:7700000<=n)(b:p.bc.length<=4)(c:lH p.bc):Eb n p=aa (ha p.bc):=M7 a b c
def j':Nat->List ch->List Int->Expr->List Int->Int
 |0,_,_,_,_=>0
 |L+1,c,m,e,q=>
  if e.kind=1 then e.num
  else if e.kind=2 then gm e.index q%1000
  else if e.kind=3 then m.getD (eU c e.read q 0).toNat 0
  else match e.bm with
   | [a,b]=>if e.kind=4 then(j' L c m a q+j' L c m b q)%1000 else if e.kind=5 then(j' L c m a q-j' L c m b q)%1000 else(j' L c m a q*j' L c m b q)%1000
   |_=>0
def sV(a:List ch)(m:List Int):Prop:=(m.length:Int)=ha a/\ ∀x∈m,0<=x/\x<=999
theorem agM(h:sV r m)(i:Nat):0<=m.getD i 0/\m.getD i 0<=999:=by
 rw[fh];cases a:m[i]? with
 |none=>simp
 |some x=>exact h.2 x (bT a)
theorem agd(b:sV r m): ∀{L:Nat} {e:Expr},dH L e d=ab->0<=j' L r m e q/\j' L r m e q<=999
 |0,e,h=>by cases h
 |L+1,e,h=>by
  obtain⟨c,a,i⟩:=hv h;simp only[j'];split
  ·rename_i ct;unfold eP at a;rw[a8 O,a8 O,bb ct] at a;simp only[cx,decide_eq_true_eq] at a;omega
  split
  ·omega
  split
  ·exact agM b _
  split
  ·split
   ·omega
   split<;>omega
  omega
def gJ(p:Prog)(x:cG):Prop:= ∃(i k:Nat) (P:Part) (s:Stmt),x.part=i/\x.stmt=k/\p.parts[i]? =aa P/\P.body[k]? =aa s/\x.dc∈jC P
def uO(p:Prog)(x:cG):Option Stmt:=(p.parts[x.part.toNat]?).bind λP=>P.body[x.stmt.toNat]?
def jN(p:Prog)(m:List Int)(x:cG):List Int:=match uO p x with
 |some s=>m.set (eU p.bc s.write x.dc 0).toNat (j' 5 p.bc m s.value x.dc)
 |none=>m
theorem v8(n:b1 p=ab){x:cG}(o:gJ p x): ∃(i k:Nat) (P:Part) (s:Stmt) (d:Int),x.part=i/\x.stmt=k/\p.parts[i]? =aa P/\P.body[k]? =aa s/\uO p x=aa s/\eT s d=ab/\iA P.nest.length x.dc/\gX p.bc s x.dc=ab:=by obtain⟨C,D,F,a,q⟩:=eH n;obtain⟨i,k,P,s,h,l,b,c,m⟩:=o;obtain⟨r,G,w,y⟩:=gy (a P (bT b));obtain⟨H,z,e,A,B⟩:=s0 r;have hs:=bT c;exact⟨i,k,P,s,_,h,l,b,c,by unfold uO;rw[h,l,c8,b];exact(by rw[c8];exact c),w s hs,e _ m,(y s hs _ m).1⟩
theorem Ik(h:gX r s q=ab):0<=eU r s.write q 0/\ ∀a∈eo 5 s.value,0<=eU r a q 0:=by simp only[gX,cx,decide_eq_true_eq,js] at h;exact h
theorem Hv{a:Type}{l:List a}(b:0<=c)(h:c.toNat<l.length)(x:a):cn l c x=aa (l.set c.toNat x):=by unfold cn;rw[bb ⟨b,O⟩]
theorem yu{a:Type}{l:List a}(b:0<=c)(h:c.toNat<l.length):aD l c=aa l[c.toNat]:=by unfold aD;rw[bb b,List.getElem?_eq_getElem h]
theorem PS(c:b1 p=ab)(a:sV p.bc m){x:cG}(e:gJ p x):sV p.bc (jN p m x):=by
 obtain⟨i,k,P,s,d,o,q,r,w,l,n,y,z⟩:=v8 c e;unfold jN;rw[l];refine⟨by rw[gr];exact a.1,λv b=>?_⟩;rcases xd b with h|h
 ·exact a.2 v h
 rw[h];exact agd a (kt n).2.1
theorem hX{l:List Part}{x:cG}(h:x∈bz l): ∃(i k:Nat) (P:Part) (s:Stmt),x.part=i/\x.stmt=k/\l[i]? =aa P/\P.body[k]? =aa s/\x.dc∈jC P:=by unfold bz at h;rw[uf] at h;obtain⟨⟨P,i⟩,c,a⟩:=h;unfold o2 at a;rw[uf] at a;obtain⟨q,d,b⟩:=a;rw[eK] at b;obtain⟨k,e,rfl⟩:=b;have m:=qt.1 e;exact⟨i,k,P,P.body[k],rfl,rfl,ES.1 c,bu m,d⟩
def nj(p:Prog)(m:List Int)(l:List cG):List Int:=l.foldl (jN p) m
end
section
def fr(B:Nat)(a:aF):Prop:=a.aU.length<=B
def kJ(B:Nat)(l:List aF):Prop:=l.length<=B/\ ∀a∈l,fr B a
def sj(B:Nat)(a:List Loop):Prop:=a.length<=B/\ ∀l∈a,kJ B l.lo/\kJ B l.aJ
def kK(B:Nat):Nat->Expr->Prop
 |0,_=>False
 |L+1,e=>e.bm.length<=B/\fr B e.index/\kJ B e.read.bB/\ ∀k∈e.bm,kK B L k
def ny(B:Nat)(s:Stmt):Prop:=kJ B s.write.bB/\kK B 5 s.value
def iB(B:Nat)(x:Part):Prop:=sj B x.nest/\x.body.length<=B/\ ∀s∈x.body,ny B s
def xC(B:Nat)(l:List ch):Prop:=l.length<=B/\ ∀x∈l,x.b7.length<=B
def ee(B:Nat)(p:Prog):Prop:=xC B p.bc/\p.parts.length<=B/\ ∀x∈p.parts,iB B x
variable {B C n:Nat}{a R:Type}{l:List a}{s:Stmt}{p:Prog}{K:List a->Option R}{Q:R->Prop}
theorem fr.mono(h:B<=C){a:aF}(b:fr B a):fr C a:=eR b h
theorem kJ.mono(h:B<=C){l:List aF}(b:kJ B l):kJ C l:=⟨eR b.1 h,λa c=>(b.2 a c).mono h⟩
theorem sj.mono(h:B<=C){l:List Loop}(b:sj B l):sj C l:=⟨eR b.1 h,λa c=>⟨(b.2 a c).1.mono h,(b.2 a c).2.mono h⟩⟩
theorem kK.mono{B C:Nat}(h:B<=C): ∀{L M:Nat} {e:Expr},L<=M->kK B L e->kK C M e
 |0,_,_,_,a=>a.elim
 |L+1,0,_,b,_=>O
 |L+1,M+1,e,b,a=>⟨eR a.1 h,a.2.1.mono h,a.2.2.1.mono h,λk c=>kK.mono h O (a.2.2.2 k c)⟩
theorem ny.mono(h:B<=C)(a:ny B s):ny C s:=⟨a.1.mono h,a.2.mono h (da _)⟩
theorem iB.mono(h:B<=C){s:Part}(a:iB B s):iB C s:=⟨a.1.mono h,eR a.2.1 h,λs b=>(a.2.2 s b).mono h⟩
theorem xC.mono(h:B<=C){s:List ch}(a:xC B s):xC C s:=⟨eR a.1 h,λs b=>eR (a.2 s b) h⟩
theorem ee.mono(h:B<=C)(a:ee B p):ee C p:=⟨a.1.mono h,eR a.2.1 h,λs b=>(a.2.2 s b).mono h⟩
theorem kJ.sm{l:List aF}(h:kJ 1100000 l):ke l:=⟨h.1,h.2⟩
theorem kK.sm: ∀{L:Nat} (j:Nat) {e:Expr},kK 1100000 L e->uH j e
 |_,0,_,_=>trivial
 |0,_+1,_,h=>h.elim
 |L+1,j+1,e,h=>⟨h.1,h.2.1,h.2.2.1.sm,λk a=>kK.sm j (h.2.2.2 k a)⟩
theorem ny.sm(h:ny 1100000 s):Bi s:=⟨h.1.sm,h.2.sm 5⟩
theorem sj.sm{l:List Loop}(h:sj 1100000 l):qQ l:=⟨h.1,λx a=>⟨(h.2 x a).1.sm,(h.2 x a).2.sm⟩⟩
theorem iB.sm{x:Part}(h:iB 1100000 x):I1 x:=⟨h.1.sm,h.2.1,λs a=>(h.2.2 s a).sm⟩
theorem ee.sm(h:ee 1100000 p):ho p:=⟨⟨h.1.1,h.1.2⟩,h.2.1,λx a=>(h.2.2 x a).sm⟩
theorem ob(n:Nat)(c:Int):ma n c=aa ⟨[0,0,0,0],c⟩:=rfl
theorem GX{h:Type}{f:a->Option h}{g:a->h->a}(k: ∀x∈l,∃z,f x=aa z/\g x z=x)(s:l.length<=1100000)(A:5500000<=n)(B:ae (K l) Q):
  ae (bk (λb ((x,i):List a×Int)=>bif ai (i<(l.length:Int)) then(bH (aD l i) λy=>bH (f y) λz=>bH (app x [g y z]) λw=>b (w,wr (i+1))) else K x) n ([],0)) Q:=by
 refine ae.loop (λz:List a×Int=> ∃i:Nat,z.2=i/\i<=l.length/\z.1=l.take i) (λz=>l.length-z.2.toNat) ?_ n _ ⟨0,rfl,O,a7⟩ Z;rintro b ⟨x,z⟩ ⟨i,e,C,c⟩ m;dsimp only at e c⊢;subst e;refine aW (λo=>?_) λp=>?_
 ·have bV:=bu (O:i<l.length);have q:x.length<=1100000:=by rw[c,c7];omega
  obtain⟨y,r,d⟩:=k _ (bT bV);refine ag (bl bV) (ag r (ag (dr b6) ?_));rw[a6 O];refine m _ ⟨i+1,Z,O,?_⟩ Z;dsimp only;rw[eE,bV,c,d];rfl
 have:i=l.length:=O
 grind
theorem mY{f:a->Option a}(c: ∀x∈l,f x=aa x)(d:l.length<=1100000)(e:5500000<=n)(h:ae (K l) Q):
  ae (bk (λb ((x,i):List a×Int)=>bif ai (i<(l.length:Int)) then(bH (aD l i) λy=>bH (f y) λz=>bH (app x [z]) λw=>b (w,wr (i+1))) else K x) n ([],0)) Q:=
 GX (g:=λ_ z=>z) (λx k=>⟨x,c x k,rfl⟩) d e h
theorem MO: ∀(L n:Nat) (e:Expr),5500000+L<=n->kK 1100000 L e->rR (n+1) e=aa e
 |0,_,_,_,h=>h.elim
 |L+1,n,e,l,h=>by
  obtain⟨a,b,c,d⟩:=h;unfold rR;refine ae.eq (ag (AY n b) (ag (Al O c.sm) ?_));obtain⟨n,rfl⟩: ∃j,n=j+1:=⟨n-1,O⟩
  exact mY (f:=rR (n+1)) (K:=λi=>aa (⟨e.kind,e.num,e.index,e.read,i⟩:Expr)) (λx k=>MO L n x O (d x k)) a O (ae.some (by cases e;rfl))
theorem ZX(a:6600000<=n)(h:ny 1100000 s):xu n s=aa s:=by
 obtain⟨n,rfl⟩: ∃j,n=j+1:=⟨n-1,O⟩
 unfold xu;rw[Al O h.1.sm,MO 5 n s.value O h.2];rfl
theorem ZY(R:6600000<=n){nest:List Loop}(h:sj 1100000 nest):xQ n nest=aa nest:=by
 obtain⟨W,B⟩:=h;refine ae.eq ?_;unfold xQ;refine ae.loop (λz:List Loop×Int=> ∃i:Nat,z.2=i/\i<=nest.length/\z.1=nest.take i) (λz=>nest.length-z.2.toNat) ?_ n _ ⟨0,rfl,O,a7⟩ Z;rintro b ⟨x,z⟩ ⟨i,d,X,m⟩ C;dsimp only at d m⊢;subst d;refine aW (λD=>?_) λF=>ae.some ?_
 ·have bV:=bu (O:i<nest.length);obtain⟨⟨j,G⟩,⟨ct,cS⟩⟩:=B _ (bT bV);have H:x.length<=1100000:=by rw[m,c7];omega
  refine ae.loop (λz:List aF×Int=> ∃t:Nat,z.2=t/\t<=nest[i].lo.length/\z.1=nest[i].lo.take t) (λz=>nest[i].lo.length-z.2.toNat) ?_ n _ ⟨0,rfl,O,a7⟩ Z;rintro e ⟨y,z⟩ ⟨t,d,u,k⟩ o;dsimp only at d k⊢;subst d;refine ag (bl bV) (aW (λw=>?_) λA=>?_)
  ·have c:=bu (O:t<nest[i].lo.length);have L:y.length<=1100000:=by rw[k,c7];omega
   refine ag (bl c) (ag (mQ _ (G _ (bT c))) (ag (dr b6) ?_));rw[a6 O];refine o _ ⟨t+1,Z,O,?_⟩ Z;dsimp only;rw[eE,c,k];rfl
  have p:t=nest[i].lo.length:=O
  refine GX (l:=nest[i].aJ) (f:=λa:aF=>app [] a.aU) (g:=λa q=>(⟨q,a.const⟩:aF)) (K:=λr=>bH (app x [(⟨y,r⟩:Loop)]) λs=>b (s,wr ((i:Int)+1))) (λa Q=>⟨_,mQ _ (cS a Q),rfl⟩) ct O ?_;refine ag (dr b6) ?_;rw[a6 O];refine C _ ⟨i+1,Z,O,?_⟩ Z;dsimp only;rw[eE,bV,m,k,p,dR];rfl
 have:i=nest.length:=O
 grind
theorem oV(D:6600000<=n)(h:ee 1100000 p):um n p=aa p:=by
 obtain⟨⟨aL,a2⟩,M,H⟩:=h;refine ae.eq ?_;unfold um;refine GX (n:=n) (l:=p.bc) (f:=λr:ch=>app [] r.b7) (g:=λr L=>(⟨r.name,L⟩:ch)) (K:=λQ=>bk (λb ((F,w):(List Part)×Int)=>
    bif ai (w<(p.parts.length:Int)) then(
     bH (aD p.parts w) λe=>
     bH (xQ n e.nest) λy=>
     bk (λc ((d,k):(List Stmt)×Int)=>
      bif ai (k<(e.body.length:Int)) then(
       bH (aD e.body k) λA=>
       bH (xu n A) λB=>
       bH (app d [B]) λC=>
       c (C,wr (k+1))
      ) else(
       bH (app F [(⟨y,d⟩:Part)]) λm=>
       b (m,wr (w+1))
      )
     ) n ([],0)
    ) else(
     aa (⟨Q,F⟩:Prog)
    )
   ) n ([],0)) (λa R=>⟨_,mQ _ (a2 a R),rfl⟩) aL O ?_
 refine ae.loop (λz:List Part×Int=> ∃i:Nat,z.2=i/\i<=p.parts.length/\z.1=p.parts.take i) (λz=>p.parts.length-z.2.toNat) ?_ n _ ⟨0,rfl,O,a7⟩ Z;rintro o ⟨x,z⟩ ⟨i,G,N,q⟩ W;dsimp only at G q⊢;subst G;refine aW (λX=>?_) λj=>ae.some ?_
 ·have bV:=bu (O:i<p.parts.length);obtain⟨t,u,v⟩:=H _ (bT bV);have E:x.length<=1100000:=by rw[q,c7];omega
  refine ag (bl bV) (ag (ZY D t) ?_);refine mY (f:=xu n) (K:=λd=>bH (app x [(⟨p.parts[i].nest,d⟩:Part)]) λm=>o (m,wr ((i:Int)+1))) (λs I=>ZX D (v s I)) u O ?_;refine ag (dr b6) ?_;rw[a6 O];refine W _ ⟨i+1,Z,O,?_⟩ Z;dsimp only;rw[eE,bV,q];rfl
 have:i=p.parts.length:=O
 rw[q,this,dR]
theorem x'{i:Nat}{x:a}{P:a->Prop}(h: ∀y∈l,P y)(c:P x): ∀y∈l.set i x,P y:=λy d=>by
 rcases xd d with b|b
 ·exact h y b
 rw[b];exact c
theorem dP{i:Int}(h:0<=i/\i<l.length)(x:a):cn l i x=aa (l.set i.toNat x):=by unfold cn;rw[bb h]
theorem aeX{r:List ch}(b:lH r):0<=ha r/\ha r<=36*r.length:=by have c:=ot (λx:ch=>hJ x.b7) r λy a=>(sM (b y a)).1;have d:=CQ (λx:ch=>hJ x.b7) 36 r λy a=>(sM (b y a)).2;unfold ha;omega
end
variable {a x b:cG}{l:List cG}{i q n k:Nat}{p:Prog}{R:Type}
theorem fS{a:Type}{l:List a}{x:a}(h:l[i]? =aa x):l.take (i+1)=l.take i++[x]:=by rw[eE,h];rfl
def du(p:Prog)(x:cG):Nat:=match uO p x with
 |some s=>(eU p.bc s.write x.dc 0).toNat
 |none=>0
def rc(p:Prog)(x:cG):List Int:=match uO p x with
 |some s=>(eo 5 s.value).map (λa=>eU p.bc a x.dc 0)
 |none=>[]
def ur(p:Prog)(m:List Int)(x:cG):Int:=match uO p x with
 |some s=>j' 5 p.bc m s.value x.dc
 |none=>0
theorem Qv{list:List ch}(b:lH list){a:cw}{q:List Int}(h:0<=eU list a q 0):eU list a q 0<ha list:=by rcases Qw b a q 0 (gR 0) with bS|bS<;>omega
theorem nZ(b:b1 p=ab)(n:gJ p x):(du p x:Int)<ha p.bc/\(∀c∈rc p x,0<=c/\c<ha p.bc)/\(rc p x).length<=12/\ ∀m,jN p m x=m.set (du p x) (ur p m x):=by obtain⟨i,k,P,s,d,C,D,F,G,o,q,H,r⟩:=v8 b n;obtain⟨K,e,L,w,y⟩:=eH b;obtain⟨z,h⟩:=Ik r;obtain⟨Q,R,W,A⟩:=kt q;unfold du rc ur jN;rw[o];dsimp only;refine⟨by have:=Qv e z;omega,λc B=>?_,by rw[dJ];exact A,λm=>rfl⟩;obtain⟨a,l,rfl⟩:=eK.1 B;exact⟨h a l,Qv e (h a l)⟩
theorem Yz(v:7810000<=n)(l:b1 p=ab)(y:gJ p x):DX n p x=aa (rc p x,(du p x:Int)):=by
 obtain⟨i,k,P,s,d,A,B,C,D,m,F,o,G⟩:=v8 l y;obtain⟨q,r,E,H,K⟩:=eH l;obtain⟨I,M⟩:=Ik G;obtain⟨L,Q,W,N⟩:=kt F;obtain⟨n,rfl⟩: ∃j,n=j+1:=⟨n-1,O⟩
 have c:Eg (n+1) p x=aa s:=by
  unfold Eg;rw[A,B,bl C];show bH (aD P.body (k:Int)) _=_;rw[bl D];rfl
 have X:(du p x:Int)=eU p.bc s.write x.dc 0:=by unfold du;rw[m];dsimp only;omega
 have f:rc p x=(eo 5 s.value).map (λa=>eU p.bc a x.dc 0):=by unfold rc;rw[m]
 rw[X,f];refine ae.eq ?_;unfold DX;refine ag c (ag (Gg (d:=d) 5 n s.value O O Q) ?_);generalize S:eo 5 s.value=R at*;refine ae.loop (λz:List Int×Int=> ∃i:Nat,z.2=i/\i<=R.length/\z.1=(R.take i).map λa=>eU p.bc a x.dc 0) (λz=>R.length-z.2.toNat) ?_ (n+1) _ ⟨0,rfl,O,a7⟩ Z;rintro h ⟨out,z⟩ ⟨i,w,T,b⟩ g;dsimp only at w b⊢;subst w;refine aW (λt=>?_) λu=>?_
 ·have bV:=bu (O:i<R.length);refine ag (bl bV) (ag (Bw O q r (W _ (bT bV)) o) (ag (dr (by rw[b,dJ,c7,nu];omega)) ?_));rw[a6 O];refine g _ ⟨i+1,Z,O,?_⟩ Z;dsimp only;rw[fS bV,h7,b];rfl
 have e:i=R.length:=O
 refine ag (Bw O q r L o) (ae.some ?_);rw[b,e,dR]
theorem abT(F:7810000<=n)(b:b1 p=ab)(h:gJ p x): ∃P s,aD p.parts x.part=aa P/\aD P.body x.stmt=aa s/\w4 n p.bc s x.dc=aa (rc p x,(du p x:Int),ab):=by
 obtain⟨i,k,P,s,d,l,m,o,q,c,r,w,e⟩:=v8 b h;obtain⟨y,z,G,A,B⟩:=eH b;obtain⟨H,K⟩:=Ik e;have C:(du p x:Int)=eU p.bc s.write x.dc 0:=by unfold du;rw[c];dsimp only;omega
 have D:rc p x=(eo 5 s.value).map (λa=>eU p.bc a x.dc 0):=by unfold rc;rw[c]
 refine⟨P,s,by rw[l];exact bl o,by rw[m];exact bl q,?_⟩;rw[Mp O y z r w,bb e,C,D]
theorem NY{r:List ch}{m l:List Int}{q:List Int}{d:Int}: ∀{L:Nat} {e:Expr},dH L e d=ab->(∀a∈eo L e,m.getD (eU r a q 0).toNat 0=l.getD (eU r a q 0).toNat 0)->j' L r m e q=j' L r l e q
 |0,e,h,_=>by cases h
 |L+1,e,h,n=>by
  obtain⟨w,x,p⟩:=hv h;simp only[j'];split
  ·rfl
  split
  ·rfl
  split
  ·rename_i ez;exact n _ (by simp[eo,ez])
  have i: ∀c∈e.bm,j' L r m c q=j' L r l c q:=λc o=>
   NY (p c o) λa s=>n a (by simp only[eo,List.mem_append,List.mem_flatMap];exact .inr ⟨c,o,s⟩)
  split
  ·rename_i a b k;rw[k] at i;rw[i a a7,i b a7]
  rfl
theorem afc(b:b1 p=ab)(l:gJ p x){m e:List Int}(h: ∀c∈rc p x,m.getD c.toNat 0=e.getD c.toNat 0):ur p m x=ur p e x:=by obtain⟨i,k,P,s,d,r,w,y,z,n,o,A,B⟩:=v8 b l;unfold ur;unfold rc at h;rw[n] at h⊢;exact NY (kt o).2.1 λa q=>h _ (List.mem_map_of_mem q)
theorem O6{a:Type}(l:List a)(i j:Nat)(x d:a):(l.set i x).getD j d=if i=j/\i<l.length then x else l.getD j d:=by
 rw[fh,fh,List.getElem?_set];split
 ·rename_i h;subst h;split
  ·rename_i b;rw[bb ⟨rfl,b⟩];rfl
  rename_i b;rw[a8 O,EW O]
 rename_i h;rw[a8 λb=>h b.1]
def qm(l:List Bool):List Int:=((gi l.length).filter λi=>l.getD i ak).map (fun(i:Nat)=>(i:Int))
theorem Zs{l:List Bool}(r:l.length<n)(k:l.length<=1100000):wF n l=aa (qm l):=by
 refine ae.eq ?_;unfold wF;refine ae.loop (λz:List Int×Int=> ∃i:Nat,z.2=i/\i<=l.length/\z.1.length<=i/\z.1=((gi i).filter λi=>l.getD i ak).map (fun(i:Nat)=>(i:Int))) (λz=>l.length-z.2.toNat) ?_ n _ ⟨0,rfl,O,a7,a7⟩ Z;rintro c ⟨out,z⟩ ⟨i,a,s,nU,b⟩ m;dsimp only at a b nU⊢;subst a;refine aW (λo=>?_) λp=>ae.some ?_
 ·have bV:=bu (O:i<l.length);have q:l.getD i ak=l[i]:=by rw[fh,bV];rfl
  refine ae.aP (λz=>z.length<=i+1/\z=((gi (i+1)).filter λi=>l.getD i ak).map (fun(i:Nat)=>(i:Int))) (λj d=>ag (bl bV) (ae.cond (λh=>ag (dr (by rw[nu];omega)) (d _ ?_)) λh=>d _ ?_)) λz a=>?_
  ·refine⟨by rw[dm,nu];omega,?_⟩;rw[om,qx,h7,<-b];simp[bV,h]
  ·refine⟨O,?_⟩;rw[om,qx,h7,<-b];simp[bV,h]
  rw[a6 O];exact m _ ⟨i+1,Z,O,a.1,a.2⟩ Z
 have e:i=l.length:=O
 rw[b,e];rfl
theorem Ms{l:List Bool}(b:l.length<n)(a:l.length<=1100000):wF n l=aa (qm l):=Zs b a
theorem ML(l:List Bool):(qm l).length<=l.length:=by unfold qm;rw[dJ];exact eR (EY _ _) a7
theorem FX{l:List Bool}{c:Int}:c∈qm l↔0<=c/\l.getD c.toNat ak=ab:=by
 unfold qm;simp only[List.mem_map,List.mem_filter,List.mem_range];constructor
 ·rintro⟨i,⟨d,a⟩,rfl⟩;exact⟨O,by rw[c8];exact a⟩
 rintro⟨d,a⟩;refine⟨c.toNat,⟨?_,a⟩,O⟩;refine oj λb=>?_;rw[fh,EW b] at a;cases a
theorem YC(b:7700000<=n)(c:ho p): ∃L,vA n p=aa (L,b1 p)/\(b1 p=ab->L=bz p.parts):=by
 rw[LL b c];cases a:jl p with
 |false=>
  refine⟨[],?_,λh=>?_⟩
  ·rw[a8 a7,show b1 p=ak by unfold b1;rw[a];rfl]
  unfold b1 at h;rw[a] at h;cases h
 |true=>
  refine⟨bz p.parts,?_,λ_=>rfl⟩;rw[bb rfl,show b1 p=ai ((bz p.parts).length<=120) by
   unfold b1;rw[a,Bool.true_and];exact decide_eq_decide.2 (by have:=DM p.parts;omega)]
abbrev iO(p:Prog):Nat:=(ha p.bc).toNat
theorem Jd{a:Type}{n:Int}(h:0<=n/\n<=1000000000)(x:a):mk n x=aa (dE n.toNat x):=by unfold mk;rw[bb h]
def pick(l:List cG)(o:List Int):List cG:=o.filterMap λc=>l[c.toNat]?
def Md(p:Prog)(a b:cG):Prop:=(du p a:Int)∈rc p b\/(du p b:Int)∈rc p a\/du p a=du p b
def JB(p:Prog)(a b:cG):Prop:= ∀m,sV p.bc m->jN p (jN p m a) b=jN p (jN p m b) a
theorem QL(a:b1 p=ab)(d:gJ p b){w:Nat}(h:(w:Int)∉rc p b)(m:List Int)(v:Int):ur p (m.set w v) b=ur p m b:=by
 refine afc a d λc e=>?_;have i:=(nZ a d).2.1 c e
 grind
theorem swap(c:b1 p=ab)(d:gJ p a)(i:gJ p b)(h: ¬Md p a b):JB p a b:=by intro m _;have n:(du p a:Int)∉rc p b:=λe=>h (.inl e);have o:(du p b:Int)∉rc p a:=λe=>h (.inr (.inl e));have q:du p a≠du p b:=λe=>h (.inr (.inr e));have k:=(nZ c d).2.2.2;have l:=(nZ c i).2.2.2;rw[k,l,l,k,QL c i n,QL c d o,List.set_comm _ _ q]
def oJ(p:Prog)(a b:cG):Int:=(if(du p a:Int)∈rc p b then 1 else 0)+(if(du p b:Int)∈rc p a then 2 else 0)+(if du p a=du p b then 4 else 0)
theorem agz(p:Prog)(a b:cG):0<=oJ p a b/\oJ p a b<=7:=by
 unfold oJ
 grind
def mV(p:Prog)(l:List cG)(i k:Nat):Int:=match l[i]?,l[k]? with
 |some a,aa b=>oJ p a b
 |_,_=>0
theorem H0(c:l[i]? =aa a)(d:l[k]? =aa b):mV p l i k=oJ p a b:=by unfold mV;rw[c,d]
theorem VF(p:Prog)(l:List cG)(i k:Nat):0<=mV p l i k/\mV p l i k<=7:=by
 unfold mV;split
 ·exact agz _ _ _
 omega
def lL(p:Prog)(l:List cG)(i j:Nat):List fZ:=((gi j).filter λk=>decide (i<k)&&ai (mV p l i k≠0)).map (fun(k:Nat)=>(⟨(i:Int),(k:Int),mV p l i k⟩:fZ))
def gA(p:Prog)(l:List cG)(n:Nat):List fZ:=(gi n).flatMap λi=>lL p l i l.length
theorem Fz(p:Prog)(l:List cG){j:Nat}(h:i<j):lL p l i (j+1)=lL p l i j++(if mV p l i j=0 then [] else [⟨(i:Int),(j:Int),mV p l i j⟩]):=by
 unfold lL;rw[om,qx,h7]
 grind
theorem Gj(p:Prog)(l:List cG)(i:Nat): ∀j,j<=i+1->lL p l i j=[]
 |0,_=>rfl
 |j+1,h=>by have a:=Gj p l i j O;unfold lL at a⊢;rw[om,qx,h7,a];simp[show¬i<j by omega]
theorem Gi(p:Prog)(l:List cG)(n:Nat):gA p l (n+1)=gA p l n++lL p l n l.length:=by unfold gA;rw[om,nv];simp
theorem Gk(p:Prog)(l:List cG)(i j:Nat):(lL p l i j).length<=j:=by
 unfold lL
 grind
theorem xA(p:Prog)(l:List cG): ∀n,(gA p l n).length<=n*l.length
 |0=>by simp[gA]
 |n+1=>by
  rw[Gi,dm,ed,Nat.one_mul]
  have:=xA p l n
  have:=Gk p l n l.length;omega
theorem O0{d:fZ}:d∈gA p l l.length↔ ∃i k:Nat,i<k/\k<l.length/\mV p l i k≠0/\d=⟨(i:Int),(k:Int),mV p l i k⟩:=by
 unfold gA lL;simp only[List.mem_flatMap,List.mem_range,List.mem_map,List.mem_filter,cx,decide_eq_true_eq]
 grind
def places(o:List Int):Nat->List Int
 |0=>dE o.length 0
 |k+1=>(places o k).set (o.getD k 0).toNat (k:Int)
def pw(p:Prog)(l:List cG)(i:Nat):Int:=match l[i]? with
 |some a=>(du p a:Int)
 |none=> -1
def El(p:Prog)(l:List cG)(i:Nat):List Int:=match l[i]? with
 |some a=>rc p a
 |none=>[]
theorem xH(h:l[i]? =aa a):pw p l i=(du p a:Int):=by unfold pw;rw[h]
theorem B1(h:l[i]? =aa a):El p l i=rc p a:=by unfold El;rw[h]
def ju(p:Prog)(l:List cG)(c:Int):Nat->Int
 |0=> -1
 |i+1=>if pw p l i=c then(i:Int) else ju p l c i
theorem QJ(p:Prog)(l:List cG)(c:Int): ∀i,-1<=ju p l c i/\ju p l c i<(i:Int)
 |0=>by simp[ju]
 |i+1=>by have:=QJ p l c i;unfold ju;split<;>omega
def mG(p:Prog)(l:List cG)(i:Nat):Bool:= !(l.drop (i+1)).any λx=>decide ((du p x:Int)=pw p l i)
def kR(f:List Bool)(a:List Int):List Bool:=a.foldl (λf s=>if 0<=s then f.set s.toNat ab else f) f
theorem B4: ∀(a:List Int) (f:List Bool),(kR f a).length=f.length
 | [],f=>rfl
 |s::a,f=>by
  show(kR (if 0<=s then f.set s.toNat ab else f) a).length=_;rw[B4];split
  ·rw[gr]
  rfl
theorem Bs(f:List Bool)(a:List Int)(s:Int):kR f (a++[s])=if 0<=s then(kR f a).set s.toNat ab else kR f a:=by unfold kR;rw[List.foldl_append];rfl
theorem O1{i:Nat}: ∀{a:List Int} {f:List Bool},i<f.length->((kR f a).getD i ak=ab↔f.getD i ak=ab\/(i:Int)∈a)
 | [],f,_=>by simp[kR]
 |s::a,f,h=>by
  show(kR (if 0<=s then f.set s.toNat ab else f) a).getD i ak=ab↔_;rw[O1 (by split;rw[gr];exact h;exact h),d'];by_cases b:0<=s
  ·rw[bb b,O6];by_cases e:s.toNat=i
   ·rw[bb ⟨e,O⟩];simp[show(i:Int)=s by omega]
   rw[a8 λc=>e c.1]
   have: ¬(i:Int)=s:=O
   simp[this]
  rw[a8 b]
  have: ¬(i:Int)=s:=O
  simp[this]
def iw(p:Prog)(l:List cG)(i:Nat):List Int:=(El p l i).map λc=>ju p l c i
def v6(p:Prog)(l:List cG):Nat->List Bool
 |0=>dE l.length ak
 |j+1=>if(v6 p l j).getD (l.length-1-j) ak=ab\/mG p l (l.length-1-j)=ab then kR ((v6 p l j).set (l.length-1-j) ab) (iw p l (l.length-1-j)) else v6 p l j
theorem tW(p:Prog)(l:List cG): ∀j,(v6 p l j).length=l.length
 |0=>by simp[v6]
 |j+1=>by
  unfold v6;split
  ·rw[B4,gr,tW p l j]
  exact tW p l j
abbrev la(p:Prog)(l:List cG):List Bool:=v6 p l l.length
def vh(a b:aF):Bool:=ai (a.aU=b.aU)&&ai (a.const=b.const)
def pC:List aF->List aF->Bool
 | [],[]=>ab
 |a::as,b::c=>vh a b&&pC as c
 |_,_=>ak
theorem Q2: ∀d∈gA p l l.length,0<=d.1/\d.1<d.2/\d.2<(l.length:Int):=by
 intro d a;obtain⟨i,k,b,c,e,rfl⟩:=O0.1 a
 grind
theorem FH{l:List Int}(m:l.length<n)(o:l.length<=1100000)(v:Int):wb n l v=aa (ai (v∈l)):=by
 refine ae.eq ?_;unfold wb;refine ht (P:=λi=>decide ((0:Int)<=i)=ai (v∈l)) ?_ λx b=>ae.some b;unfold FR;refine ae.loop (λz:Int=> ∃i:Nat,z=i/\i<=l.length/\v∉l.take i) (λz=>l.length-z.toNat) ?_ n 0 ⟨0,rfl,O,a7⟩ O;rintro a z ⟨i,rfl,p,c⟩ d;refine aW (λh=>?_) λk=>ae.some ?_
 ·have bV:=bu (O:i<l.length);refine ag (bl bV) (aW (λe=>ae.some ?_) λe=>?_)
  ·rw[bU O,bU];rw[e];exact bT bV
  rw[a6 O];refine d _ ⟨i+1,O,O,?_⟩ O;rw[fS bV,eY,lO]
  grind
 have e:i=l.length:=O
 grind
theorem Hg{l:List Int}(k:l.length<n)(m:l.length<=1100000)(v:Int):uF n l v=aa (ai (v∈l)):=by
 refine ae.eq ?_;unfold uF;refine ae.loop (λz:Int=> ∃i:Nat,z=i/\i<=l.length/\v∉l.take i) (λz=>l.length-z.toNat) ?_ n 0 ⟨0,rfl,O,a7⟩ O;rintro a z ⟨i,rfl,o,b⟩ c;refine aW (λd=>?_) λh=>ae.some ?_
 ·have bV:=bu (O:i<l.length);refine ag (bl bV) (aW (λe=>ae.some ?_) λe=>?_)
  ·rw[bU];rw[<-e];exact bT bV
  rw[a6 O];refine c _ ⟨i+1,O,O,?_⟩ O;rw[fS bV,eY,lO]
  grind
 have e:i=l.length:=O
 grind
def fX(p:Prog):oF:=⟨p,bz p.parts,(bz p.parts).map (rc p),(bz p.parts).map λx=>(du p x:Int)⟩
theorem jV{a:Type}{l:List a}{f:a->R}{x:a}(h:l[i]? =aa x):(l.map f)[i]? =aa (f x):=by rw[eQ,h];rfl
theorem B5{a:Type}{l:List a}{f:a->R}{x:a}(h:l[i]? =aa x):(l.take (i+1)).map f=(l.take i).map f++[f x]:=by rw[fS h,h7];rfl
theorem wS(A:7810000<=n)(m:ho p):pf n p=aa (if b1 p=ab then(aa (fX p),ab) else(none,ak)):=by
 obtain⟨L,o,q⟩:=YC (n:=n) O m;refine ae.eq ?_;unfold pf;refine ag o ?_;dsimp only;cases h:b1 p with
 |false=>exact ae.some rfl
 |true=>
  rw[q h];have r:=(eH h).2.2.2.2;refine b3 (ae.loop (λz:List (List Int)×List Int×Int=> ∃i:Nat,z.2.2=i/\i<=(bz p.parts).length/\z.1=((bz p.parts).take i).map (rc p)/\z.2.1=((bz p.parts).take i).map λx=>(du p x:Int)) (λz=>(bz p.parts).length-z.2.2.toNat) ?_ n _ ⟨0,rfl,O,rfl,rfl⟩ (by first|omega|(dsimp only;omega)));rintro k ⟨a,b,z⟩ ⟨i,l,B,c,d⟩ s;dsimp only at l c d⊢;subst l;refine aW (λw=>?_) λy=>ae.some ?_
  ·have bV:=bu (O:i<(bz p.parts).length);refine ag (bl bV) (ag (Yz O h (hX (bT bV))) (ag (dr (by rw[c,dJ,c7,nu];omega)) (ag (dr (by rw[d,dJ,c7,nu];omega)) ?_)));rw[a6 O];exact s _ ⟨i+1,Z,O,by dsimp only;rw[B5 bV,c],by dsimp only;rw[B5 bV,d]⟩ Z
  have e:i=(bz p.parts).length:=O
  rw[c,d,e,dR];rfl
def kA(p:Prog):List kM:=(bz p.parts).map λx=>(⟨rc p x,(du p x:Int)⟩:kM)
theorem Bb(k:7810000<=n)(b:b1 p=ab):uk n p=aa (kA p):=by
 have l:=(eH b).2.2.2.2;refine ae.eq ?_;unfold uk kA;refine ag (wa O b) (ae.loop (λz:List kM×Int=> ∃i:Nat,z.2=i/\i<=(bz p.parts).length/\z.1=((bz p.parts).take i).map λx=>(⟨rc p x,(du p x:Int)⟩:kM)) (λz=>(bz p.parts).length-z.2.toNat) ?_ n _ ⟨0,rfl,O,rfl⟩ Z);rintro c ⟨a,z⟩ ⟨i,h,A,d⟩ m;dsimp only at h d⊢;subst h;refine aW (λo=>?_) λq=>ae.some ?_
 ·have bV:=bu (O:i<(bz p.parts).length);obtain⟨P,s,r,w,y⟩:=abT k b (hX (bT bV));refine ag (bl bV) (ag r (ag w (ag y (ag (dr (by rw[d,dJ,c7,nu];omega)) ?_))));rw[a6 O];exact m _ ⟨i+1,Z,O,by dsimp only;rw[B5 bV,d]⟩ Z
 have e:i=(bz p.parts).length:=O
 grind
theorem sD(b:b1 p=ab)(c: ∀x∈l,gJ p x)(h:l[i]? =aa a):(rc p a).length<=12:=(nZ b (c _ (bT h))).2.2.1
theorem PE{Q:R->Prop}{A B:Option Bool}(q:A=aa (ai ((du p a:Int)∈rc p b)))(r:B=aa (ai ((du p b:Int)∈rc p a))){c:Int->Option R}(h:ae (c (oJ p a b)) Q):
  ae (aP (fun(m:Int)=>aP (fun(i:Int)=>aP c λk=>bif ai ((du p a:Int)=(du p b:Int)) then(k (wr (i+4))) else(k i))
   λn=>bH B λs=>bif s then(n (wr (m+2))) else(n m))
   λo=>bH A λw=>bif w then(o (wr (0+1))) else(o 0)) Q:=by
 refine ae.aP (λz=>z=if(du p a:Int)∈rc p b then 1 else 0) (λj d=>ag q (aW (λe=>d _ (by rw[bb e];rfl)) λe=>d _ (by rw[a8 e]))) λz l=>?_;subst l;refine ae.aP (λz=>z=(if(du p a:Int)∈rc p b then 1 else 0)+if(du p b:Int)∈rc p a then 2 else 0) (λj d=>ag r (aW (λe=>d _ ?_) λe=>d _ ?_)) λz l=>?_
 ·rw[bb e];split<;>rfl
 ·rw[a8 e,Int.add_zero]
 subst l;refine ae.aP (λz=>z=oJ p a b) (λj d=>aW (λe=>d _ ?_) λe=>d _ ?_) λz l=>by subst l;exact h
 ·unfold oJ;rw[bb (O:du p a=du p b)];split<;>split<;>rfl
 unfold oJ;rw[a8 (show¬du p a=du p b by omega),Int.add_zero]
theorem YD(r:7810000<=n)(h:b1 p=ab)(c:(bz p.parts)[i]? =aa a)(d:(bz p.parts)[k]? =aa b):D1 n (fX p) (i:Int) (k:Int)=aa (mV p (bz p.parts) i k):=by rw[H0 c d];have s:=sD h (λx e=>hX e) c;have w:=sD h (λx e=>hX e) d;have l:aD (fX p).reads (i:Int)=aa (rc p a):=bl (jV c);have m:aD (fX p).reads (k:Int)=aa (rc p b):=bl (jV d);have o:aD (fX p).iu (i:Int)=aa (du p a:Int):=bl (jV c);have q:aD (fX p).iu (k:Int)=aa (du p b:Int):=bl (jV d);refine ae.eq ?_;unfold D1;rw[l,m,o,q];exact PE (FH O O _) (FH O O _) (ae.some rfl)
theorem aaJ(c:7810000<=n)(d:(rc p a).length<=12)(e:(rc p b).length<=12):Bd n ⟨rc p a,(du p a:Int)⟩ ⟨rc p b,(du p b:Int)⟩=aa (oJ p a b):=by refine ae.eq ?_;unfold Bd;exact PE (Hg O O _) (Hg O O _) (ae.some rfl)
theorem Hb(K:7810000<=n)(D:b1 p=ab):wj n (fX p)=aa (gA p (bz p.parts) (bz p.parts).length):=by
 have s:=(eH D).2.2.2.2;refine ae.eq ?_;unfold wj;rw[show(fX p).list=bz p.parts from rfl];generalize m:bz p.parts=l at*;have L: ∀x∈l,gJ p x:=λx Q=>hX (by rw[m];exact Q);refine ae.loop (λz:List fZ×Int=> ∃i:Nat,z.2=i/\i<=l.length/\z.1=gA p l i) (λz=>l.length-z.2.toNat) ?_ n _ ⟨0,rfl,O,rfl⟩ Z;rintro w ⟨a,z⟩ ⟨i,o,g,A⟩ R;dsimp only at o A⊢;subst o;refine aW (λW=>?_) λX=>ae.some ?_
 ·have bV:=bu (O:i<l.length);rw[a6 O];refine ae.loop (λz:List fZ×Int=> ∃j:Nat,z.2=j/\i<j/\j<=l.length/\z.1=gA p l i++lL p l i j) (λz=>l.length-z.2.toNat) ?_ n _ ⟨i+1,Z,O,O,by dsimp only;rw[A,Gj p l i _ (da _),jq]⟩ Z;rintro q ⟨b,y⟩ ⟨j,F,c,t,r⟩ B;dsimp only at F r⊢;subst F;refine aW (λG=>?_) λH=>?_
  ·have C:=bu (O:j<l.length);have d:=YD K D (i:=i) (k:=j) (by rw[m];exact bV) (by rw[m];exact C);rw[m] at d;have f:=(VF p l i j).1;refine ae.aP (λz=>z=gA p l i++lL p l i (j+1)) (λu h=>ag d (aW (λe=>ag (dr ?_) (h _ ?_)) λe=>h _ ?_)) λz o=>?_
   ·have v:=xA p l i;have E:=Gk p l i j;have I:i*l.length<=120*120:=oo O s
    grind
   ·rw[r,Fz p l c,a8 O,fF]
   ·rw[r,Fz p l c,bb O,jq]
   subst o;rw[a6 O];exact B _ ⟨j+1,Z,O,O,rfl⟩ Z
  have e:j=l.length:=O
  try rw[a6 O]
  exact R _ ⟨i+1,Z,O,by dsimp only;rw[r,e,Gi]⟩ Z
 have e:i=l.length:=O
 rw[A,e]
theorem GF(G:7810000<=n)(q:b1 p=ab):xr n p=aa (gA p (bz p.parts) (bz p.parts).length):=by
 have A:=(eH q).2.2.2.2;refine ae.eq ?_;unfold xr;refine ag (Bb G q) ?_;have B:(kA p).length=(bz p.parts).length:=by unfold kA;rw[dJ]
 have d: ∀(i:Nat) x,(bz p.parts)[i]? =aa x->aD (kA p) (i:Int)=aa ⟨rc p x,(du p x:Int)⟩:=λi x h=>bl (jV h);rw[B];generalize kA p=u at*;generalize Q:bz p.parts=l at*;have k: ∀x∈l,gJ p x:=λx R=>hX (by rw[Q];exact R);refine ae.loop (λz:List fZ×Int=> ∃i:Nat,z.2=i/\i<=l.length/\z.1=gA p l i) (λz=>l.length-z.2.toNat) ?_ n _ ⟨0,rfl,O,rfl⟩ Z;rintro C ⟨a,z⟩ ⟨i,r,t,D⟩ W;dsimp only at r D⊢;subst r;refine aW (λX=>?_) λf=>ae.some ?_
 ·have bV:=bu (O:i<l.length);rw[a6 O];refine ae.loop (λz:List fZ×Int=> ∃j:Nat,z.2=j/\i<j/\j<=l.length/\z.1=gA p l i++lL p l i j) (λz=>l.length-z.2.toNat) ?_ n _ ⟨i+1,Z,O,O,by dsimp only;rw[D,Gj p l i _ (da _),jq]⟩ Z;rintro s ⟨b,y⟩ ⟨j,H,m,v,w⟩ F;dsimp only at H w⊢;subst H;refine aW (λK=>?_) λL=>?_
  ·have c:=bu (O:j<l.length);have g:=aaJ G (sD q k bV) (sD q k c);refine ae.aP (λz=>z=gA p l i++lL p l i (j+1)) (λE o=>ag (d _ _ bV) (ag (d _ _ c) (ag g (dF (λe=>ag (dr ?_) (o _ ?_)) λe=>o _ ?_)))) λz r=>?_
   ·have I:=xA p l i;have M:=Gk p l i j;have N:i*l.length<=120*120:=oo O A
    grind
   ·rw[w,Fz p l m,H0 bV c,a8 e,fF]
   ·rw[w,Fz p l m,H0 bV c,bb e,jq]
   subst r;rw[a6 O];exact F _ ⟨j+1,Z,O,O,rfl⟩ Z
  have e:j=l.length:=O
  try rw[a6 O]
  exact W _ ⟨i+1,Z,O,by dsimp only;rw[w,e,Gi]⟩ Z
 have e:i=l.length:=O
 rw[D,e]
theorem Ba(p:Prog)(l:List cG)(c:Int)(i:Nat):ju p l c (i+1)=if pw p l i=c then(i:Int) else ju p l c i:=rfl
theorem YA(E:7810000<=n)(G:b1 p=ab)(L:i<(bz p.parts).length):D0 n (fX p) (i:Int)=aa (iw p (bz p.parts) i):=by
 have Q:=(eH G).2.2.2.2;have o: ∀x∈bz p.parts,gJ p x:=λx R=>hX R;have r:=bu L;have I:=sD G o r;have W:aD (fX p).reads (i:Int)=aa (rc p (bz p.parts)[i]):=bl (jV r);refine ae.eq ?_;unfold D0 iw;rw[B1 r,W];generalize rc p (bz p.parts)[i]=b at*;have w:wr ((i:Int)-1)=(i:Int)-1:=a6 O;rw[w];refine ag rfl (ae.loop (λz:List Int×Int=> ∃k:Nat,z.2=k/\k<=b.length/\z.1=(b.take k).map λc=>ju p (bz p.parts) c i) (λz=>b.length-z.2.toNat) ?_ n _ ⟨0,rfl,O,rfl⟩ Z);rintro d ⟨a,z⟩ ⟨k,l,M,A⟩ X;dsimp only at l A⊢;subst l;refine aW (λf=>?_) λg=>ae.some ?_
 ·have bV:=bu (O:k<b.length);refine ag (bl bV) ?_;have B: ∀y:Int,y=ju p (bz p.parts) b[k] i->ae (bH (app a [y]) λC=>d (C,wr ((k:Int)+1))) (λx=>x=b.map λc=>ju p (bz p.parts) c i):=by
   intro y t;refine ag (dr (by rw[A,dJ,c7,nu];omega)) ?_;rw[a6 O];exact X _ ⟨k+1,Z,O,by dsimp only;rw[B5 bV,A,t]⟩ Z
  refine ae.loop (λz:Int=> ∃s:Nat,z=(s:Int)-1/\s<=i/\ju p (bz p.parts) b[k] i=ju p (bz p.parts) b[k] s) (λz=>(z+1).toNat) ?_ n _ ⟨i,rfl,da _,rfl⟩ O;rintro m z ⟨s,rfl,N,h⟩ D;refine ae.aP (λz=>z=ab/\(∃q,s=q+1/\pw p (bz p.parts) q≠b[k])\/z=ak/\(s:Int)-1=ju p (bz p.parts) b[k] i) (λj H=>aW (λu=>?_) λu=>H _ (.inr ⟨rfl,?_⟩)) λz l=>?_
  ·obtain⟨q,rfl⟩: ∃q,s=q+1:=⟨s-1,O⟩
   have K:=bu (O:q<(bz p.parts).length);have v:aD (fX p).iu (((q+1:Nat):Int)-1)=aa (pw p (bz p.parts) q):=by
    rw[show((q+1:Nat):Int)-1=(q:Int) by omega,xH K];exact bl (jV K)
   refine ag v ?_;by_cases e:pw p (bz p.parts) q=b[k]
   ·rw[bU e];refine H _ (.inr ⟨rfl,?_⟩);rw[h,Ba,bb e];omega
   rw[bR e]
   grind
  ·have:s=0:=O
   subst this;rw[h];rfl
  rcases l with ⟨rfl,q,rfl,F⟩|⟨rfl,l⟩
  ·refine cf ?_;rw[a6 O];exact D _ ⟨q,O,O,by rw[h,Ba,a8 F]⟩ O
  exact b3 (B _ l)
 have e:k=b.length:=O
 grind
theorem Zv(A:7810000<=n)(m:b1 p=ab)(B:i<=(bz p.parts).length)(c:Int):Az n (kA p) (i:Int) c=aa (ju p (bz p.parts) c i):=by
 have o:=(eH m).2.2.2.2;have d: ∀(i:Nat) x,(bz p.parts)[i]? =aa x->aD (kA p) (i:Int)=aa ⟨rc p x,(du p x:Int)⟩:=λi x h=>bl (jV h);refine ae.eq ?_;unfold Az;rw[a6 O];refine ae.loop (λz:Int=> ∃s:Nat,z=(s:Int)-1/\s<=i/\ju p (bz p.parts) c i=ju p (bz p.parts) c s) (λz=>(z+1).toNat) ?_ n _ ⟨i,rfl,da _,rfl⟩ O;rintro b z ⟨s,rfl,C,a⟩ k;refine aW (λr=>?_) λr=>ae.some ?_
 ·obtain⟨q,rfl⟩: ∃q,s=q+1:=⟨s-1,O⟩
  have l:=bu (O:q<(bz p.parts).length);have w:=d _ _ l;have y:((q+1:Nat):Int)-1=(q:Int):=O
  rw[y];refine ag w (aW (λe=>ae.some ?_) λe=>?_)
  ·dsimp only at e;rw[a,Ba,xH l,bb e]
  dsimp only at e;rw[a6 O];exact k _ ⟨q,O,O,by rw[a,Ba,xH l,a8 e]⟩ O
 have:s=0:=O
 subst this;rw[a];rfl
theorem afn{f:cG->Int}{w:Int}:ai (w∈l.map f)=l.any (λx=>decide (f x=w)):=by grind
theorem M5(p:Prog)(l:List cG)(j q:Nat)(h:l.length-1-j=q):v6 p l (j+1)=if(v6 p l j).getD q ak=ab\/mG p l q=ab then kR ((v6 p l j).set q ab) (iw p l q) else v6 p l j:=by subst h;rfl
theorem O8{y:Int}(h:(iw p l q)[k]? =aa y): -1<=y/\y<(q:Int):=by
 unfold iw at h;rw[eQ] at h;cases a:(El p l q)[k]? with
 |none=>rw[a] at h;cases h
 |some c=>rw[a] at h;cases h;exact QJ p l c q
theorem acC(u:7810000<=n)(G:b1 p=ab):Et n (fX p)=aa (la p (bz p.parts)):=by
 have v:=(eH G).2.2.2.2;have H: ∀x∈bz p.parts,gJ p x:=λx E=>hX E;have K:=fun(i:Nat) h=>YA u G (i:=i) h;have a:(fX p).iu.length=(bz p.parts).length:=by unfold fX;dsimp only;rw[dJ]
 have s:(fX p).iu=(bz p.parts).map (λx=>(du p x:Int)):=rfl;refine ae.eq ?_;unfold Et;refine ag (Jd (n:=((fX p).list.length:Int)) (x:=ak) (by show _/\((bz p.parts).length:Int)<=_;omega)) ?_;rw[show((fX p).list.length:Int)=((bz p.parts).length:Int) from rfl,c8,a,a6 O];generalize Y:bz p.parts=l at*;refine ae.loop (λz:List Bool×Int=> ∃j:Nat,z.2=(l.length:Int)-1-j/\j<=l.length/\z.1=v6 p l j) (λz=>(z.2+1).toNat) ?_ n _ ⟨0,Z,O,rfl⟩ Z;rintro L ⟨f,z⟩ ⟨j,m,hj,C⟩ I;dsimp only at m C⊢;refine aW (λM=>?_) λM=>ae.some ?_
 ·obtain⟨q,N⟩: ∃q,l.length-1-j=q:=⟨_,rfl⟩
  have Q:z=(q:Int):=O
  subst Q;have w:q<l.length:=O
  have R:f.length=l.length:=by rw[C,tW]
  have bV:=bu w;have r:=bu (O:q<f.length);have W:f.getD q ak=f[q]:=by rw[fh,r];rfl
  have b:=M5 p l j q N;rw[<-C] at b;refine ae.aP (λz=>z=v6 p l (j+1)) (λzf A=>?_) λz m=>?_
  ·refine ae.aP (λz=>z= !decide (f.getD q ak=ab\/mG p l q=ab)) (λS8 c=>ag (bl r) ?_) λz m=>?_
   ·rw[W] at c;cases a1:f[q] with
    |true=>rw[a1] at c;exact b3 (c _ a7)
    |false=>
     rw[a1] at c;have X:aD (fX p).iu (q:Int)=aa (du p l[q]:Int):=by rw[s];exact bl (jV bV)
     rw[a6 O];refine cf (ag (hV O O (by rw[a];omega)) (ag X (ag (FH ?_ ?_ _) (c _ ?_))))
     ·rw[fY,c7,a];omega
     ·rw[fY,c7,a];omega
     rw[show(((l.length:Nat):Int)).toNat=l.length by omega,<-a,dR,show(((q:Int)+1)).toNat=q+1 by omega,s,<-List.map_drop,afn];unfold mG;rw[xH bV];cases (List.drop (q+1) l).any (λx=>decide ((du p x:Int)=(du p l[q]:Int)))<;>simp
   subst m;by_cases D:f.getD q ak=ab\/mG p l q=ab
   ·rw[bU D];rw[bb D] at b;refine b3 (ag (bl r) (ag (dP ⟨O,O⟩ ab) (ag (K q w) ?_)));rw[c8];have P:(iw p l q).length<=12:=by unfold iw;rw[dJ,B1 bV];exact sD G H bV
    refine ae.loop (λz:List Bool×Int=> ∃k:Nat,z.2=k/\k<=(iw p l q).length/\z.1=kR (f.set q ab) ((iw p l q).take k)) (λz=>(iw p l q).length-z.2.toNat) ?_ n _ ⟨0,rfl,O,rfl⟩ Z;rintro F ⟨g,z⟩ ⟨k,m,hk,d⟩ t;dsimp only at m d⊢;subst m;refine aW (λS=>?_) λT=>A _ ?_
    ·have o:=bu (O:k<(iw p l q).length);have a1:=O8 o;have U:g.length=l.length:=by rw[d,B4,gr,R]
     refine ae.aP (λz=>z=kR (f.set q ab) ((iw p l q).take (k+1))) (λal4 B=>ag (bl o) (aW (λe=>?_) λe=>B _ ?_)) λz m=>?_
     ·obtain⟨y,V,_⟩:=pL (l:=g) e O;refine ag V (ag (dP ⟨e,O⟩ ab) (B _ ?_));rw[fS o,Bs,bb e,d]
     ·rw[fS o,Bs,a8 e,d]
     subst m;rw[a6 O];exact t _ ⟨k+1,Z,O,rfl⟩ Z
    have e:k=(iw p l q).length:=O
    rw[d,e,dR,b]
   rw[bR D];rw[a8 D] at b;exact cf (A _ b.symm)
  subst m;rw[a6 O];exact I _ ⟨j+1,Z,O,rfl⟩ Z
 have e:j=l.length:=O
 rw[C,e]
def sv(p:Prog)(l:List cG)(q k:Nat):Bool:= !((l.take k).drop (q+1)).any λx=>decide ((du p x:Int)=pw p l q)
theorem Zj(h:q<k)(a:l[k]? =aa b):sv p l q (k+1)=(sv p l q k&& !decide ((du p b:Int)=pw p l q)):=by have c:=(b5.1 a).1;unfold sv;rw[fS a,K6 (by rw[c7];omega),uh];simp
theorem V8(cK:7810000<=n)(hp:ho p):Ea n p=aa (if b1 p=ab then qm (la p (bz p.parts)) else []):=by
 refine ae.eq ?_;unfold Ea;refine ag (kf O hp) ?_;cases M:b1 p with
 |false=>exact ae.some rfl
 |true=>
  have DE:=(eH M).2.2.2.2;have S: ∀x∈bz p.parts,gJ p x:=λx hx=>hX hx;have T:(kA p).length=(bz p.parts).length:=by unfold kA;rw[dJ]
  have r: ∀(i:Nat) x,(bz p.parts)[i]? =aa x->aD (kA p) (i:Int)=aa ⟨rc p x,(du p x:Int)⟩:=λi x h=>bl (jV h);have U:=fun(i:Nat) h=>Zv cK M (i:=i) h;refine b3 (ag (Bb cK M) ?_);rw[T,bb rfl];generalize kA p=u at*;generalize vI:bz p.parts=l at*;refine ag (Jd (n:=(l.length:Int)) (x:=ak) O) ?_;rw[c8,a6 O];refine ae.loop (λz:List Bool×Int=> ∃j:Nat,z.2=(l.length:Int)-1-j/\j<=l.length/\z.1=v6 p l j) (λz=>(z.2+1).toNat) ?_ n _ ⟨0,Z,O,rfl⟩ Z;rintro C ⟨f,z⟩ ⟨j,a,hj,N⟩ b8;dsimp only at a N⊢;refine aW (λh0=>?_) λh0=>?_
  ·obtain⟨q,hq⟩: ∃q,l.length-1-j=q:=⟨_,rfl⟩
   have V:z=(q:Int):=O
   subst V;have Y:q<l.length:=O
   have aih:f.length=l.length:=by rw[N,tW]
   have bV:=bu Y;have D:=bu (O:q<f.length);have H:f.getD q ak=f[q]:=by rw[fh,D];rfl
   have s:=M5 p l j q hq;rw[<-N] at s;have K: ∀y:Int,y=(q:Int)-1->ae (C (v6 p l (j+1),y)) _:=λy hy=>b8 _ ⟨j+1,Z,O,rfl⟩ Z;have fO:wr ((q:Int)+1)=((q+1:Nat):Int):=by rw[a6 O];omega
   have w2:wr ((q:Int)-1)=(q:Int)-1:=a6 O;rw[fO,w2];refine ae.loop (λz:Bool×Int=> ∃k:Nat,z.2=k/\q<k/\k<=l.length/\z.1=sv p l q k) (λz=>l.length-z.2.toNat) ?_ n _ ⟨q+1,rfl,O,O,?_⟩ Z
   ·rintro P ⟨b,z⟩ ⟨k,a,aiT,hk,a1⟩ y3;dsimp only at a a1⊢;subst a;refine aW (λhlt=>?_) λk3=>?_
    ·have m:=bu (O:k<l.length);have L:=Zj (p:=p) aiT m;refine ae.aP (λz=>z=sv p l q (k+1)) (λS7 A=>?_) λz a=>?_
     ·cases Q:b with
      |false=>exact b3 (A _ (by rw[L,<-a1,Q];rfl))
      |true=>
       refine cf (ag (r _ _ m) (ag (r _ _ bV) (A _ ?_)));rw[L,<-a1,Q,xH bV];rfl
     subst a;rw[a6 O];exact y3 _ ⟨k+1,Z,O,O,rfl⟩ Z
    have e:k=l.length:=O
    have J4:b=mG p l q:=by rw[a1,e];unfold sv mG;rw[dR]
    refine ae.aP (λz=>z=f.set q (f.getD q ak||mG p l q)) (λajF c=>ag (bl D) ?_) λz a=>?_
    ·rw[H] at c;cases R:f[q] with
     |true=>
      rw[R] at c;refine cf (ag (dP ⟨O,O⟩ ab) (c _ ?_));rw[c8];rfl
     |false=>
      rw[R] at c;refine b3 (ag (dP ⟨O,O⟩ b) (c _ ?_));rw[c8,J4];rfl
    subst a;have hrl:=sD M S bV;by_cases G:f.getD q ak=ab\/mG p l q=ab
    ·rw[bb G] at s;have F:(f.getD q ak||mG p l q)=ab:=by rcases G with h|h<;>rw[h]<;>simp
     rw[F];have ai3:(iw p l q).length=(rc p l[q]).length:=by unfold iw;rw[dJ,B1 bV]
     refine ae.loop (λz:List Bool×Int=> ∃k:Nat,z.2=k/\k<=(rc p l[q]).length/\z.1=kR (f.set q ab) ((iw p l q).take k)) (λz=>(rc p l[q]).length-z.2.toNat) ?_ n _ ⟨0,rfl,O,rfl⟩ Z;rintro w ⟨g,z⟩ ⟨k,a,hk,o⟩ W;dsimp only at a o⊢;subst a;have alf:g.length=l.length:=by rw[o,B4,gr,aih]
     have X:=bu (O:q<g.length);have hgt:g[q]=ab:=by
      have t:g.getD q ak=ab:=by
       rw[o,O1 (by rw[gr];omega),O6,bb ⟨rfl,O⟩];exact .inl rfl
      rwa [fh,X] at t
     refine ae.aP (λz=>z=ai (k<(rc p l[q]).length)) (λDN d=>ag (r _ _ bV) (aW (λe=>ag (bl X) (d _ ?_)) λe=>d _ ?_)) λz a=>?_
     ·dsimp only at e;rw[hgt,bU O]
     ·dsimp only at e;rw[bR O]
     subst a;refine aW (λe=>?_) λe=>?_
     ·have v:=bu e;have m:(iw p l q)[k]? =aa (ju p l (rc p l[q])[k] q):=by unfold iw;rw[B1 bV];exact jV v
      have a1:=O8 m;refine ae.aP (λz=>z=kR (f.set q ab) ((iw p l q).take (k+1))) (λal4 E=>ag (r _ _ bV) (ag (bl v) (ag (U q O _) (aW (λe=>?_) λe=>E _ ?_)))) λz a=>?_
      ·obtain⟨y,hy,_⟩:=pL (l:=g) e O;refine ag hy (ag (dP ⟨e,O⟩ ab) (E _ ?_));rw[fS m,Bs,bb e,o]
      ·rw[fS m,Bs,a8 e,o]
      subst a;rw[a6 O];exact W _ ⟨k+1,Z,O,rfl⟩ Z
     have e2:k=(iw p l q).length:=O
     rw[o,e2,dR,<-s];exact K _ rfl
    rw[a8 G] at s;have F:(f.getD q ak||mG p l q)=ak:=by
     cases t:f.getD q ak with
     |true=>exact bs (.inl t) G
     |false=>
      cases h2:mG p l q with
      |true=>exact bs (.inr h2) G
      |false=>rfl
    have B:f[q]=ak:=by
     rw[<-H];cases t:f.getD q ak with
     |true=>exact bs (.inl t) G
     |false=>rfl
    have I:f.set q ak=f:=by
     have h:=List.set_getElem_self (as:=f) (i:=q) O
     rwa [B] at h
    rw[F,I];refine ae.loop (λz:List Bool×Int=>z=(f,0)) (λ_=>0) ?_ n _ rfl O;rintro w z rfl W;dsimp only;refine ae.aP (λz=>z=ak) (λDN d=>ag (r _ _ bV) (ae.cond (λ_=>ag (bl D) (d _ B)) λ_=>d _ rfl)) λz a=>?_;subst a;refine b3 ?_;rw[<-s];exact K _ rfl
   dsimp only;unfold sv;rw[EV (by rw[c7];omega)];rfl
  have e:j=l.length:=O
  rw[N,e];exact ag (Ms (by rw[tW];omega) (by rw[tW];omega)) (ae.some rfl)
theorem HE(a:l.length<=120):(gA p l l.length).length<=15000:=by have b:=xA p l l.length;have c:l.length*l.length<=120*120:=oo a a;omega
def lf{R:Type}(p:R->R->Bool):List R->List R->Bool
 | [],[]=>ab
 |a::as,b::c=>p a b&&lf p as c
 |_,_=>ak
theorem GD{R:Type}{p:R->R->Bool}: ∀{a b:List R},lf p a b=ab->a.length=b.length
 | [],[],_=>rfl
 |a::as,b::c,h=>by
  simp only[lf,cx] at h;simp[GD h.2]
 | [],b::c,h=>by cases h
 |a::as,[],h=>by cases h
theorem Hw{f:R->R->Option Bool}{p:R->R->Bool}{a b:List R}(r: ∀x∈a,∀y∈b,f x y=aa (p x y))(G:a.length<n)(H:a.length<=500000000):
  (bif !decide ((a.length:Int)=(b.length:Int)) then(aa ak) else(bk (λd (e:Int)=>bif ai (e<(a.length:Int)) then(bH (aD a e) λs=>bH (aD b e) λw=>bH (f s w) λz=>bif !z then(aa ak) else(d (wr (e+1)))) else(aa ab)) n 0))=aa (lf p a b):=by
 refine ae.eq (dF (λh=>ae.some ?_) λh=>?_)
 ·cases c:lf p a b with
  |false=>rfl
  |true=>exact bs (by rw[GD c]) h
 refine ae.loop (λx:Int=> ∃i:Nat,x=i/\i<=a.length/\lf p (a.drop i) (b.drop i)=lf p a b) (λx=>a.length-x.toNat) ?_ n 0 ⟨0,rfl,O,rfl⟩ O;rintro k x ⟨i,rfl,K,c⟩ A;refine aW (λB=>?_) λC=>ae.some ?_
 ·have l:i<a.length:=O
  have m:i<b.length:=O
  have o:=bu l;have a1:=bu m;refine ag (bl o) (ag (bl a1) (ag (r _ (bT o) _ (bT a1)) ?_));rw[jJ l,jJ m] at c;simp only[lf] at c;cases q:p a[i] b[i] with
  |false=>rw[q] at c;exact cf (ae.some c)
  |true=>
   rw[q,gh] at c;refine b3 ?_;rw[a6 O];exact A _ ⟨i+1,O,O,c⟩ O
 have D:a.drop i=[]:=kE O;have F:b.drop i=[]:=kE O;rw[D,F] at c;exact c
theorem N4{a b:List Int}(B:a.length<n)(C:a.length<=500000000):
  (bif !decide ((a.length:Int)=(b.length:Int)) then(aa ak) else(bk (λc (d:Int)=>bif ai (d<(a.length:Int)) then(bH (aD a d) λo=>bH (aD b d) λp=>bif !decide (o=p) then(aa ak) else(c (wr (d+1)))) else(aa ab)) n 0))=aa (ai (a=b)):=by
 refine ae.eq (dF (λh=>ae.some ?_) λh=>?_)
 ·exact(bR λe=>h (by rw[e])).symm
 refine ae.loop (λx:Int=> ∃i:Nat,x=i/\i<=a.length/\a.take i=b.take i) (λx=>a.length-x.toNat) ?_ n 0 ⟨0,rfl,O,rfl⟩ O;rintro k x ⟨i,rfl,D,q⟩ r;refine aW (λs=>?_) λw=>ae.some ?_
 ·have y:i<a.length:=O
  have z:i<b.length:=O
  have m:=bu y;have a1:=bu z;refine ag (bl m) (ag (bl a1) ?_);refine dF (λl=>ae.some ?_) λA=>?_
  ·exact(bR λe=>l (by subst e;rfl)).symm
  rw[a6 O];exact r _ ⟨i+1,O,O,by rw[fS m,fS a1,q,A]⟩ O
 have F:a.take i=a:=hi O
 grind
theorem WX{a b:List Int}(c:a.length<n)(d:a.length<=500000000):Fl n a b=aa (ai (a=b)):=by unfold Fl;exact N4 c d
theorem MS{a b:List Int}(c:a.length<n)(d:a.length<=500000000):xR n a b=aa (ai (a=b)):=by unfold xR;exact N4 c d
theorem WJ(k:5500000<=n){a b:aF}(d:iE a):f7 n a b=aa (vh a b):=by unfold iE at d;unfold f7 vh;have h:=WX (n:=n) (a:=a.aU) (b:=b.aU) O O;refine ae.eq (ae.aP (λz=>z=(ai (a.aU=b.aU)&&ai (a.const=b.const))) (λj c=>ag h (ae.cond (λe=>c _ (by rw[e];rfl)) λe=>c _ (by rw[e];rfl))) λz i=>ae.some i)
theorem WG(k:5500000<=n){a b:aF}(d:iE a):zG n a b=aa (vh a b):=by unfold iE at d;unfold zG vh;have h:=MS (n:=n) (a:=a.aU) (b:=b.aU) O O;refine ae.eq (ae.aP (λz=>z=(ai (a.aU=b.aU)&&ai (a.const=b.const))) (λj c=>ae.cond (λe=>ag h (c _ (by rw[e,Bool.and_true]))) λe=>c _ (by rw[e,kF])) λz i=>ae.some i)
theorem Gv: ∀a b:List aF,lf vh a b=pC a b
 | [],[]=>rfl
 |a::as,b::c=>by simp only[lf,pC,Gv as c]
 | [],b::c=>rfl
 |a::as,[]=>rfl
theorem L0(h:5500000<=n){a b:List aF}(c:ke a):zb n a b (λd e=>f7 n d e)=aa (pC a b):=by unfold zb;rw[<-Gv];exact Hw (f:=λd e=>f7 n d e) (λx i y _=>WJ h (c.2 x i)) (by have:=c.1;omega) (by have:=c.1;omega)
theorem LX(d:5500000<=n){a b:List aF}(c:ke a):zD n a b=aa (pC a b):=by unfold zD;rw[<-Gv];exact Hw (f:=λe h=>zG n e h) (λx i y _=>WG d (c.2 x i)) (by have:=c.1;omega) (by have:=c.1;omega)
end Go.Lift
